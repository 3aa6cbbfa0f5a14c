/-
  Parts of the walk: Int4 Mo4 Pw1 Pw2 Lin0 Lin1 Eqs.
-/
import Derived.Test.YtchonigdjamphaaGreatDoorQ10
import Derived.Laws.StructEq
import Derived.ChangeKeysEq
namespace Go.Proofs.YtchonigdjamphaaGreatDoor
open Go.RowKit
set_option linter.unusedSimpArgs false
set_option linter.unusedVariables false
set_option maxHeartbeats 600000
set_option maxRecDepth 20000
def yf (x y : Zs) (q : Bs) : Zs := (eO x (ig (bP q) y).1).1
theorem vj {x y : Zs} {q : Bs} {p : Nat} {w : World} {ok : Nat → Prop} (hF1 : (Fact.sl (some ⟨p, 0, none⟩) [.string (S q)]).holds ok w) :
  Cw 261 #[.agg #[.bool x.1, .string (S x.2), .bool y.1, .string (S y.2)], .pointer (some ⟨p, 0, none⟩)] w (.agg #[.bool y.1, .string (S y.2), .bool (yf x y q).1, .string (S (yf x y q).2)]) := by
 refine En [Fact.sl (some ⟨p, 0, none⟩) [.string (S q)]] [(0, .agg #[.bool x.1, .string (S x.2), .bool y.1, .string (S y.2)]), (1, .pointer (some ⟨p, 0, none⟩))] Tryz.func261 I Tryz.ntmps261 I (Ac I (Ac I (An _))) (Fc (af hF1) Fn) (Eq ?_)
 intro b2
 refine HL ?_
 intro b3
 refine Nt (Cq (Cf [0, 1, 2, 3, 4, 5, 6, 8, 9, 7, 10] [] [0, 1, 0, 0, 1, 0, 0, 0, 3, 1, 0] (by kernel_rfl) (by kernel_rfl) I ?_))
 refine Kj I (ldt (a := some ⟨p, 0, none⟩) (q := 0) I I u22 I I) ?_
 refine Jv I I I I I (fun ext => Oc I I (Kv fun w hS => da (a := q))) ?_
 refine Kj I (Jb I I I kB (by kernel_rfl : _ = some 2) ?_) ?_
 ·omega
 refine G6 ?_
 refine Jv I I I I I (fun ext => Oc I I (Kv fun w hS => kt (x := bP q) (y := y))) ?_
 refine GP ?_; refine Hu ?_
 refine FU ?_
 intro b4
 refine WJ.st I I I I (ft I I I ?_ ?_ ?_) ?_
 ·kernel_rfl
 ·simp [Value.oneCell']
 ·rfl
 refine Hu ?_; refine GR ?_
 refine WJ.nil ?_
 refine Nt (Cs (Kq I (Jb I I I kB (by kernel_rfl : _ = some 2) ?_) ?_))
 ·omega
 refine GF ?_
 refine Kq I (lda I I .tc u68 I ?_) ?_
 ·kernel_rfl
 refine Kc I (fun w hS => jp (x := x) (y := (ig (bP q) y).1)) (Km I (Ye I (Ye I (FS ?_))))
 intro b6
 refine Nu I I (Sa I I I .tc) (Ka I (Nt (Cs (Kq I (Jb I I I kB (by kernel_rfl : _ = some 2) ?_) ?_))))
 ·omega
 refine GF ?_
 refine Kq I (lda I I .tc u68 I ?_) ?_
 ·kernel_rfl
 refine G0 ?_
 refine FF ?_; refine Nt (Ce ?_)
 exact Rn I (.agg I .tc kB I (by kernel_rfl) .nil) fun w' hS => ⟨by rfl, hS.below⟩
theorem q9 {x y : Int} {q : Nat} (hx : x.natAbs < Big) (hy : y.natAbs < Big) (hq : q < Big) (hm : q * y.natAbs < Big) (hs : (x - q * y).natAbs < Big) : yf (ofZ x) (ofZ y) (ae q) = ofZ (x - q * y) := by
 have hm' : ((q : Int) * y).natAbs < Big := by rw [Int.natAbs_mul, Bh]; exact hm
 rw [yf, iX hq, kg (by rw [Bh]; exact hq) hy hm', j8 hx hm' hs]
set_option maxHeartbeats 6000000 in
theorem y8 {a b : Bs} {w : World} {ok : Nat → Prop} (ha : okN a) (hb : okN b) (hb0 : b ≠ []) :
  Calls Tryz.prog 208 #[.string (S a), .string (S b)] w fun e w' => ∃ gx : Int × Zs, e = .returned (.tuple #[.string (S (ae (Nat.gcd (val a) (val b)))), zV (ofZ gx.1), zV gx.2, .int .i64 0]) ∧ (((val a : Int) * gx.1) % (val b) = (Nat.gcd (val a) (val b) : Int) % (val b) ∧ (Nat.gcd (val a) (val b) = 1 → 0 ≤ gx.1) ∧ gx.1.natAbs < Big) ∧ Below w.heap.size w w' ∧ ∀ x ∈ ([] : List Fact), x.holds (fun b => ok b ∨ w.heap.size ≤ b) w' := by
 have hvb : 0 < val b := Dm fun e => hb0 ((aM hb.2).1 e)
 have hbB := a7 hb; have haB := a7 ha
 have hB1 : 1 < Big := Aw (by decide) mW
 refine enter (S := St (fun b => ok b ∨ w.heap.size ≤ b) w [] ([])) (L := [(0, .string (S a)), (1, .string (S b))]) Tryz.func208 rfl Tryz.ntmps208 rfl (Ac rfl (Ac rfl (An _))) (St.start (fun _ h => Or.inr h) (bL Fn)) ?_
 refine Cs (Ka I (FS ?_))
 intro b5
 refine FS ?_
 intro b6
 refine FM ?_; refine Kc I (fun w hS => ay) (Ns 23 I (v' := .bool true) (by rw [Az ha]) ?_)
 refine Yt I (Km I (Km I (Kc I (fun w hS => ay) (Ns 27 I (v' := .bool true) (by rw [Az hb]) ?_))))
 refine Yt I (Yq I (Fx (fun _ => ?_)))
 refine GO ?_; refine Ys I (Nt (Cd I (fun hc33 => by exfalso; (try simp only [sB] at hc33); simp_all) (fun hc33 => ?_)))
 (try simp only [sB] at hc33)
 refine GG ?_; refine Hl ?_
 refine Gb ?_
 intro b8
 refine FF ?_; refine Nt (Cs (Kc I (fun w hS => l4 (n := 1) (by omega) (by omega)) (Kc I (fun w hS => l4 (n := 0) (by omega) (by omega)) (G0 ?_))))
 refine Kc I (fun w hS => l4 (n := 0) (by omega) (by omega)) (Kc I (fun w hS => l4 (n := 1) (by omega) (by omega)) (G0 ?_))
 refine HL ?_
 intro b9
 refine HL ?_
 intro b10
 refine FF ?_; refine FF ?_; refine Nt (Cq (Cb (Lo (σ := Nat × Nat × Int × Int × Int × Int) [(0, _), (1, _), (5, _), (6, _), (8, _), (9, _), (10, _)] (fun gq => []) (fun gq => Euc (val a) (val b) gq.1 gq.2.1 gq.2.2.1 gq.2.2.2.1 gq.2.2.2.2.1 gq.2.2.2.2.2 ∧ gq.1 < Big ∧ gq.2.1 < Big ∧ gq.2.2.1.natAbs ≤ val b ∧ gq.2.2.2.1.natAbs ≤ val b ∧ gq.2.2.2.2.1.natAbs ≤ max (val a) 1 ∧ gq.2.2.2.2.2.natAbs ≤ max (val a) 1) (fun gq => gq.2.1) (fun gq => [⟨some b10, [.bool (ofZ gq.2.2.2.2.1).1, .string (S (ofZ gq.2.2.2.2.1).2), .bool (ofZ gq.2.2.2.2.2).1, .string (S (ofZ gq.2.2.2.2.2).2)], 323⟩, ⟨some b9, [.bool (ofZ gq.2.2.1).1, .string (S (ofZ gq.2.2.1).2), .bool (ofZ gq.2.2.2.1).1, .string (S (ofZ gq.2.2.2.1).2)], 323⟩, ⟨some b8, [.string (S (ae gq.1)), .string (S (ae gq.2.1))], 322⟩, ⟨some b6, [.bool false, .string (S [])], 68⟩, ⟨some b5, [.bool false, .string (S [])], 68⟩]) (fun gq => []) (val a, val b, 1, 0, 0, 1) (S7 I I I I I I I) (S0 _) (by (try dsimp only); exact ⟨mH _ _, haB, hbB, by omega, by omega, by omega, by omega⟩) (by exact fun w h => by rw [bT ha, bT hb]; exact h) ?_)))
 rintro ⟨r0, r1, x0, x1, y0, y1⟩ hinv1; (try dsimp only at hinv1 ⊢)
 obtain ⟨hE, hr0, hr1, hx0, hx1, hy0, hy1⟩ := hinv1
 refine Cq (Cs (Kq I (Jb I I I tA (by kernel_rfl : _ = some 1) ?_) ?_))
 ·omega
 refine Gm ?_
 refine Hr (fun hc48 => ?_) (fun hc48 => ?_)
 ·have hr1p : 0 < r1 := by
   rcases Bw r1 with h | h
   ·subst h; simp [canon_zero] at hc48
   ·exact h
  have hE' := lz hE hr1p
  obtain ⟨hm1, hm2⟩ := yk hE hr1p
  obtain ⟨hl1, hl2⟩ := vo hE' hr1p
  have hdv := yp hr0 hr1 hr1p
  have hdl := Cz r0 r1
  have hml := Aq r0 hr1p
  have hex := q9 (x := x0) (y := x1) (q := r0 / r1) (by omega) (by omega) (by omega) (by omega) (by omega)
  have hey := q9 (x := y0) (y := y1) (q := r0 / r1) (by omega) (by omega) (by omega) (by omega) (by omega)
  refine Ck (Xa (Cb (Cs (Kq I (Jb I I I tA (by kernel_rfl : _ = some 1) ?_) ?_))))
  ·omega
  refine Gm ?_
  refine Kq I (Jb I I I tA (by kernel_rfl : _ = some 1) ?_) ?_
  ·omega
  refine Gm ?_
  refine Kc I (fun w hS => (by have := fe (w := w) (a := ae r0) (b := ae r1); rw [hdv] at this; exact this)) (HZ ?_); refine GN ?_
  intro b11
  refine Ng I I (st I I I .tc (by kernel_rfl) I ?_ (by (simp only [Bf, Bg]; rfl))) ?_
  ·decide
  intro _
  refine Ka I (Ka I (Nt (Cs (Kq I (bM I I I) (Ka I (Nt (Cs (Kq I (Jb I I I tA (by kernel_rfl : _ = some 1) ?_) ?_))))))))
  ·omega
  refine Gm ?_
  refine Km I (Hl ?_)
  refine FF ?_; refine Nt (Cf [0, 1, 2, 3, 4, 5] [6, 7] [0, 0, 1, 0, 0, 1, 2, 2] (by kernel_rfl) (by kernel_rfl) I ?_)
  refine GP ?_
  refine Kj I (lda I I .tc kB I ?_) ?_
  ·kernel_rfl
  refine Jv I I I I I (fun ext => a6 I I I (by kernel_rfl) I (Kv fun w hS => vj (x := ofZ x0) (y := ofZ x1) (q := ae (r0 / r1)) (p := b11) (by (exact hS.os)))) ?_
  refine GP ?_
  refine Kj I (lda I I .tc kB I ?_) ?_
  ·kernel_rfl
  refine Jv I I I I I (fun ext => a6 I I I (by kernel_rfl) I (Kv fun w hS => vj (x := ofZ y0) (y := ofZ y1) (q := ae (r0 / r1)) (p := b11) (by (exact hS.os)))) ?_
  refine WJ.nil ?_
  refine Nu I I (Sa I I I .tc) (Nu I I (Sa I I I .tc) (Nn (Xd (Lx ((r1, r0 % r1, x1, x0 - (r0 / r1 : Nat) * x1, y1, y0 - (r0 / r1 : Nat) * y1)) (by (try dsimp only); exact hml) (S7 I I I I I I I) (S0 _) ?_ (by rw [← hex, ← hey]; exact aq)))))
  (try dsimp only)
  exact ⟨hE', hr1, by omega, hx1, hl1, hy1, by omega⟩
 ·refine Fq ?_
  obtain rfl : r1 = 0 := by
   rcases Bw r1 with h | h
   ·exact h
   ·exfalso; have : ae r1 ≠ [] := by rw [ne_eq, bk]; omega
    simp_all
  obtain rfl : r0 = Nat.gcd (val a) (val b) := by rw [← hE.gc, Nat.gcd_zero_right]
  obtain ⟨gd, hg⟩ : ∃ gd, gd = Nat.gcd (val a) (val b) := ⟨_, rfl⟩
  have hg0 : 0 < gd := by rw [hg]; exact Nat.gcd_pos_of_pos_right _ hvb
  have hda : val a = val a / gd * gd := by rw [Nat.div_mul_cancel]; rw [hg]; exact Nat.gcd_dvd_left _ _
  have hdb : val b = val b / gd * gd := by rw [Nat.div_mul_cancel]; rw [hg]; exact Nat.gcd_dvd_right _ _
  have he0 := hE.e0
  rw [← hg] at he0 hr0 ⊢
  have hbl := Cz (val b) gd; have hal := Cz (val a) gd
  have hdvb : g6 b (ae gd) = ((ae (val b / gd), ae (val b % gd)), 0) := by rw [fM hb (az (by omega)) (by rw [ne_eq, bk]; omega), ah]
  have hdva : g6 a (ae gd) = ((ae (val a / gd), ae (val a % gd)), 0) := by rw [fM ha (az (by omega)) (by rw [ne_eq, bk]; omega), ah]
  have key : ∀ (X : Int) (q : Int), X * val a = x0 * val a + q * val b → ((val a : Int) * X) % (val b) = (gd : Int) % (val b) := fun X q h => by
   have e : (val a : Int) * X = gd + val b * (q - y0) := by
    rw [Int.mul_comm (val a : Int) X, h, ← he0, Int.mul_sub, Int.mul_comm q, Int.mul_comm x0]; omega
   rw [e, Int.add_mul_emod_self_left]
  refine Xa (Cs (Kq I (Jb I I I tA (by kernel_rfl : _ = some 1) ?_) ?_))
  ·omega
  refine Gm ?_
  refine Ka I (Nt (WC.joinO (σ := Int × Zs) [(5, _), (6, _), (9, _), (10, _), (15, _)] (fun gq => []) (fun gq => ((val a : Int) * gq.1) % (val b) = (gd : Int) % (val b) ∧ (gd = 1 → 0 ≤ gq.1) ∧ gq.1.natAbs < Big) (fun gq => [⟨some b10, [.bool gq.2.1, .string (S gq.2.2), .bool (ofZ y1).1, .string (S (ofZ y1).2)], 323⟩, ⟨some b9, [.bool (ofZ gq.1).1, .string (S (ofZ gq.1).2), .bool (ofZ x1).1, .string (S (ofZ x1).2)], 323⟩, ⟨some b6, [.bool false, .string (S [])], 68⟩, ⟨some b5, [.bool false, .string (S [])], 68⟩]) (fun gq => []) (S5 I I I I I) ?_ ?_))
  ·skip
   refine Cs (Kq I (Jb I I I kB (by kernel_rfl : _ = some 2) ?_) ?_)
   ·omega
   (refine Kq I (cA I I u68 I (by kernel_rfl) (by (try simp only [sN, Int.reduceToNat, Nat.reduceAdd, Nat.reduceMul, Nat.reduceSub]); rfl)) ?_); refine Kq I (Ld I I .tc u4) ?_; refine Nt (Ci I (fun hc73 => ?_) (fun hc73 => ?_))
   ·have hneg : x0 < 0 := by rw [ce] at hc73; simpa using hc73
    have aux : ∀ u : Nat, u ≤ val b → (x0 + (u : Int)).natAbs < Big := fun u hu => by omega
    have hadx : gD (ofZ x0) (ofZ ((val b / gd : Nat) : Int)) = (ofZ (x0 + (val b / gd : Nat)), 0) := by
     rw [jn (by omega) (by rw [Bh]; exact Bb hbl hbB), Ae (aux _ hbl)]
    refine Hd ?_; refine Kc I (fun w hS => (by have := fe (w := w) (a := b) (b := ae gd); rw [hdvb] at this; exact this)) (GV ?_); refine FN ?_; refine Km I (Kc I (fun w hS => (by have := fe (w := w) (a := a) (b := ae gd); rw [hdva] at this; exact this)) (GV ?_)); refine Ka I (Nt (Cq ?_))
    refine WC.ordersP [(5, _), (6, _), (9, _), (10, _), (15, _), (19, _)] ([⟨some b10, [.bool (ofZ y0).1, .string (S (ofZ y0).2), .bool (ofZ y1).1, .string (S (ofZ y1).2)], 323⟩, ⟨some b9, [.bool (ofZ (x0 + (val b / gd : Nat))).1, .string (S (ofZ (x0 + (val b / gd : Nat))).2), .bool (ofZ x1).1, .string (S (ofZ x1).2)], 323⟩, ⟨some b8, [.string (S (ae gd)), .string (S (ae 0))], 322⟩, ⟨some b6, [.bool false, .string (S [])], 68⟩, ⟨some b5, [.bool false, .string (S [])], 68⟩]) ([]) (S6 I I I I I I) [[0, 1, 2, 3, 4, 5, 6, 7, 8, 9], [0, 1, 2, 3, 4, 5, 6, 8, 7, 9], [0, 1, 2, 3, 4, 5, 6, 8, 9, 7], [0, 1, 2, 3, 4, 5, 7, 6, 8, 9], [0, 2, 1, 3, 4, 5, 6, 7, 8, 9], [0, 2, 1, 3, 4, 5, 6, 8, 7, 9], [0, 2, 1, 3, 4, 5, 6, 8, 9, 7], [0, 2, 1, 3, 4, 5, 7, 6, 8, 9], [0, 2, 3, 1, 4, 5, 6, 7, 8, 9], [0, 2, 3, 1, 4, 5, 6, 8, 7, 9], [0, 2, 3, 1, 4, 5, 6, 8, 9, 7], [0, 2, 3, 1, 4, 5, 7, 6, 8, 9], [2, 0, 1, 3, 4, 5, 6, 7, 8, 9], [2, 0, 1, 3, 4, 5, 6, 8, 7, 9], [2, 0, 1, 3, 4, 5, 6, 8, 9, 7], [2, 0, 1, 3, 4, 5, 7, 6, 8, 9], [2, 0, 3, 1, 4, 5, 6, 7, 8, 9], [2, 0, 3, 1, 4, 5, 6, 8, 7, 9], [2, 0, 3, 1, 4, 5, 6, 8, 9, 7], [2, 0, 3, 1, 4, 5, 7, 6, 8, 9], [2, 3, 0, 1, 4, 5, 6, 7, 8, 9], [2, 3, 0, 1, 4, 5, 6, 8, 7, 9], [2, 3, 0, 1, 4, 5, 6, 8, 9, 7], [2, 3, 0, 1, 4, 5, 7, 6, 8, 9]] (by kernel_rfl) (by kernel_rfl) (by simp only [bJ, List.map, Dr, C8]; rfl) ?_ ?_
    ·repeat' (first | exact AllL.nil | refine AllL.cons ?_ ?_)
     all_goals (repeat (first | (refine Km rfl ?_) | (refine Kq rfl (Jb rfl rfl rfl kB (by kernel_rfl : _ = some 2) ?_) ?_; focus omega) | (refine Kq rfl (ldp rfl rfl .tc u68 rfl (by kernel_rfl : _ = some 2) (by rfl) (by rfl)) ?_) | (refine Kh rfl (Oc rfl rfl (Kv fun w hS => (by have := da (w := w) (a := ae (val b / gd)); rw [iX (Bb hbl hbB)] at this; exact this))) ?_; intro _) | (refine Kh rfl (Oc rfl rfl (Kv fun w hS => (by have := ku (w := w) (x := ofZ x0) (y := ofZ ((val b / gd : Nat) : Int)); rw [hadx] at this; exact this))) ?_; intro _) | (refine Ye rfl ?_) | (refine Ng rfl rfl (stp rfl rfl rfl .tc (by kernel_rfl) (by simp [Value.oneCell']) (by (simp; done)) rfl) ?_; intro _)))
     all_goals (refine Nn ?_; exact WX.midP () (S6 rfl rfl rfl rfl rfl rfl) (fun _ h => h))
    refine Xa (WC.ordersP [(5, _), (6, _), (9, _), (10, _), (15, _)] ([⟨some b10, [.bool (eO (ofZ y0) (ofZ ((val a / gd : Nat) : Int))).1.1, .string (S (eO (ofZ y0) (ofZ ((val a / gd : Nat) : Int))).1.2), .bool (ofZ y1).1, .string (S (ofZ y1).2)], 323⟩, ⟨some b9, [.bool (ofZ (x0 + (val b / gd : Nat))).1, .string (S (ofZ (x0 + (val b / gd : Nat))).2), .bool (ofZ x1).1, .string (S (ofZ x1).2)], 323⟩, ⟨some b8, [.string (S (ae gd)), .string (S (ae 0))], 322⟩, ⟨some b6, [.bool false, .string (S [])], 68⟩, ⟨some b5, [.bool false, .string (S [])], 68⟩]) ([]) (S5 I I I I I) [[0, 1, 2, 3, 4, 5, 6, 7, 8, 9], [0, 1, 2, 3, 4, 5, 6, 8, 7, 9], [0, 1, 2, 3, 4, 5, 6, 8, 9, 7], [0, 1, 2, 3, 4, 5, 7, 6, 8, 9], [0, 2, 1, 3, 4, 5, 6, 7, 8, 9], [0, 2, 1, 3, 4, 5, 6, 8, 7, 9], [0, 2, 1, 3, 4, 5, 6, 8, 9, 7], [0, 2, 1, 3, 4, 5, 7, 6, 8, 9], [0, 2, 3, 1, 4, 5, 6, 7, 8, 9], [0, 2, 3, 1, 4, 5, 6, 8, 7, 9], [0, 2, 3, 1, 4, 5, 6, 8, 9, 7], [0, 2, 3, 1, 4, 5, 7, 6, 8, 9], [2, 0, 1, 3, 4, 5, 6, 7, 8, 9], [2, 0, 1, 3, 4, 5, 6, 8, 7, 9], [2, 0, 1, 3, 4, 5, 6, 8, 9, 7], [2, 0, 1, 3, 4, 5, 7, 6, 8, 9], [2, 0, 3, 1, 4, 5, 6, 7, 8, 9], [2, 0, 3, 1, 4, 5, 6, 8, 7, 9], [2, 0, 3, 1, 4, 5, 6, 8, 9, 7], [2, 0, 3, 1, 4, 5, 7, 6, 8, 9], [2, 3, 0, 1, 4, 5, 6, 7, 8, 9], [2, 3, 0, 1, 4, 5, 6, 8, 7, 9], [2, 3, 0, 1, 4, 5, 6, 8, 9, 7], [2, 3, 0, 1, 4, 5, 7, 6, 8, 9]] (by kernel_rfl) (by kernel_rfl) (by simp only [bJ, List.map, Dr, C8]; rfl) ?_ ?_)
    ·repeat' (first | exact AllL.nil | refine AllL.cons ?_ ?_)
     all_goals (repeat (first | (refine Km rfl ?_) | (refine Kq rfl (Jb rfl rfl rfl kB (by kernel_rfl : _ = some 2) ?_) ?_; focus omega) | (refine Kq rfl (ldp rfl rfl .tc u68 rfl (by kernel_rfl : _ = some 2) (by rfl) (by rfl)) ?_) | (refine Kh rfl (Oc rfl rfl (Kv fun w hS => (by have := da (w := w) (a := ae (val a / gd)); rw [iX (Bb hal haB)] at this; exact this))) ?_; intro _) | (refine Kh rfl (Oc rfl rfl (Kv fun w hS => jp (x := ofZ y0) (y := ofZ ((val a / gd : Nat) : Int)))) ?_; intro _) | (refine Ye rfl ?_) | (refine Ng rfl rfl (stp rfl rfl rfl .tc (by kernel_rfl) (by simp [Value.oneCell']) (by (simp; done)) rfl) ?_; intro _)))
     all_goals (refine Nn ?_; exact WX.midP () (S5 rfl rfl rfl rfl rfl) (fun _ h => h))
    refine WX.joinO (((x0 + (val b / gd : Nat)), (eO (ofZ y0) (ofZ ((val a / gd : Nat) : Int))).1)) (S5 I I I I I) (S0 _) ?_ (by (exact aq)); (try dsimp only)
    exact ⟨key _ (val a / gd : Nat) (by
     rw [Int.add_mul]; congr 1
     have e : val b / gd * val a = val a / gd * val b := by
      conv => lhs; rw [hda]
      conv => rhs; rw [hdb]
      ac_rfl
     exact_mod_cast e), fun h => by rw [h, Dy]; omega, aux _ hbl⟩
   ·have hnn : 0 ≤ x0 := by rw [ce] at hc73; simpa using hc73
    refine Ck (WX.joinO ((x0, ofZ y0)) (S5 I I I I I) (S0 _) ?_ (by (exact aq))); (try dsimp only); exact ⟨key _ 0 (by omega), fun _ => hnn, by omega⟩
  ·rintro ⟨X, Y⟩ hmeet; (try dsimp only at hmeet ⊢); refine Cq (WC.free (K := [⟨some b10, [.bool Y.1, .string (S Y.2), .bool (ofZ y1).1, .string (S (ofZ y1).2)], 323⟩, ⟨some b9, [.bool (ofZ X).1, .string (S (ofZ X).2), .bool (ofZ x1).1, .string (S (ofZ x1).2)], 323⟩]) (fs0 := []) [0, 1, 2, 5, 6, 3, 4] [7, 8] [0, 0, 0, 0, 0, 0, 1, 2, 2] (by kernel_rfl) (by kernel_rfl) I ?_); refine GP ?_; refine Kj I (Jb I I I kB (by kernel_rfl : _ = some 2) ?_) ?_
   ·omega
   refine G6 ?_; refine GR ?_; refine WJ.st I I I I (ft I I I ?_ ?_ ?_) ?_
   ·kernel_rfl
   ·simp [Value.oneCell']
   ·rfl
   refine Kj I (Jb I I I kB (by kernel_rfl : _ = some 2) ?_) ?_
   ·omega
   refine G6 ?_; refine WJ.nil ?_; refine FF ?_; refine le ?_; exact Rn I (.tmp I (.agg I .tc u68 I (by kernel_rfl) (.agg I .tc u68 I (by kernel_rfl) (.tmp I .nil)))) fun w' hS => ⟨(X, Y), rfl, hmeet, hS.below, fun _ h => by cases h⟩
def nS (a m : Bs) : Bs × Int := if cY [a] [m] = 0 then (if Nat.gcd (val a) (val m) = 1 then (ae (ei (val a) (val m)), 0) else ([], 9)) else ([], cY [a] [m])
theorem Fk {a m : Bs} (h : cY [a] [m] = 0) : okN a ∧ okN m ∧ m ≠ [] := by
 obtain ⟨h1, h2⟩ := vL h
 exact ⟨h1 a (by simp), h1 m (by simp), fun e => h2 (by simp [e])⟩
theorem km (a m : Nat) : Nat.gcd (a % m) m = Nat.gcd a m := by rw [Nat.gcd_comm, lu]
theorem oW {a m : Nat} {X : Int} (hm : 0 < m) (h : ((a : Int) * X) % m = (1 : Int) % m) (h0 : 0 ≤ X) : ei a m = X.natAbs % m := by
 obtain ⟨x, rfl⟩ : ∃ x : Nat, X = x := ⟨X.toNat, by omega⟩
 rw [Bh]
 apply nR (Aq _ hm)
 rw [mmr]
 exact_mod_cast h
theorem AQ {a m : Bs} {w : World} :
  Cw 128 #[.string (S a), .string (S m)] w (NE (nS a m)) := by
 refine En [] [(0, .string (S a)), (1, .string (S m))] Tryz.func128 I Tryz.ntmps128 I (Ac I (Ac I (An _))) Fn (Cs (Ka I (Ka I (Nt (Cq (Cs (Km I (Kh I (aN I I u33 (by kernel_rfl : _ = some (some (.string (S [])), 1, 16)) I (by simp only [List.map]; rfl) I I ?_ (by decide)) ?_))))))))
 ·simp [Value.cells]
 intro b12
 refine Km I (Kh I (aN I I u33 (by kernel_rfl : _ = some (some (.string (S [])), 1, 16)) I (by simp only [List.map]; rfl) I I ?_ (by decide)) ?_)
 ·simp [Value.cells]
 intro b14
 refine Kc I (fun w hS => jf (l := [a]) (ms := [m]) (by (exact hS.os)) (by (exact hS.os)) (by (simp <;> omega)) (by (simp <;> omega)) (by (simp <;> omega)) (by (simp <;> omega))) (Ka I (Nt (Fz (fun hc17 => ?_) (fun hc17 => ?_))))
 ·have hr : nS a m = ([], cY [a] [m]) := by rw [nS, Aa (by simpa using hc17)]
  refine H7 ?_; refine le ?_; refine Xb ?_
  exact Ix
 ·have h0 : cY [a] [m] = 0 := by simpa using hc17
  obtain ⟨ha, hm, hm0⟩ := Fk h0
  have hp := iz hm hm0
  have hmB := a7 hm
  have hak : okN (ae (val a % val m)) := az (by have := Aq (val a) hp; omega)
  have hvk : val (ae (val a % val m)) = val a % val m := ah _
  refine GG ?_; refine Kc I (fun w hS => di (a := a) (m := m) (by exact ha) (by exact hm) (by exact hm0)) (Km I (Kh I (Oc I I (bK fun w hS => y8 (a := ae (val a % val m)) (b := m) (by exact hak) (by exact hm) (by exact hm0))) ?_))
  rintro ⟨X24, Y24⟩
  refine WL.pu ?_
  intro hg24; (try dsimp only [List.cons_append, List.nil_append] at hg24 ⊢)
  refine HZ ?_; refine Ye I (FS ?_)
  intro b8
  refine FS ?_
  intro b9
  refine Ka I (FF ?_); refine FF ?_; refine FM ?_; refine Yj I (Nt (Cd I (fun hc30 => by exfalso; (try simp only [sB] at hc30); exact hc30 trivial) (fun hc30 => ?_)))
  (try simp only [sB] at hc30)
  refine GO ?_; refine Hr (fun hc33 => ?_) (fun hc33 => ?_)
  ·have hr : nS a m = ([], 9) := by
    have h1 : ¬ Nat.gcd (val a) (val m) = 1 := fun h => by
     rw [hvk, km, h, mj] at hc33; exact hc33 rfl
    rw [nS, Ae h0, Aa h1]
   refine Cs (Ka I (le ?_)); refine Xb ?_; exact Ix
  ·have hg1 : Nat.gcd (val a) (val m) = 1 := by
    rw [hvk, km] at hc33; exact gX.1 (by simpa using hc33)
   obtain ⟨hq1, hq2, hq3⟩ := hg24; rw [hvk, km, hg1] at hq1; rw [hvk, km] at hq2; have hiv := oW hp hq1 (hq2 hg1); rw [uN] at hiv; have hr : nS a m = (ae (ei (val a) (val m)), 0) := by rw [nS, Ae h0, Ae hg1]
   have hXa : (ofZ X24).2 = ae X24.natAbs := by rw [ce]
   refine Ck (Xa (Cs (Gn ?_))); refine Km I (Kc I (fun w hS => di (a := (ofZ X24).2) (m := m) (by rw [hXa]; exact az hq3) (by exact hm) (by exact hm0)) (Ka I (le ?_))); exact R2 I I I (by rw [hr, hiv, hXa, ah]; rfl)
theorem xY {a m : Bs} (ha : okN a) (hm : okN m) (hm0 : m ≠ []) : nS a m = if Nat.gcd (val a) (val m) = 1 then (ae (ei (val a) (val m)), 0) else ([], 9) := by
 rw [nS, Ae (lF (by intro x hx; simp at hx; rcases hx with rfl | rfl <;> assumption) (by simpa using fun h => hm0 h))]
abbrev zc (z : Zs) : List Value := [.bool z.1, .string (S z.2)]
abbrev ar (l : List Zs) : List Value := l.flatMap zc
def eF (g : Gp) (l : List Bs) (es : List Zs) (same : Bool) : Int :=
 if ¬ (∀ x ∈ l, okN x) then 3 else if ¬ (∀ x ∈ es, okZ x) then 3 else if aT g ≠ 0 then aT g else if same = false then 6 else if ¬ (∀ x ∈ l, elG g x) then 13 else 0
theorem mQ {g : Gp} {l : List Bs} {es : List Zs} {same : Bool} {a b : Option Addr} {c d : Nat} {w : World} {ok : Nat → Prop} (hF1 : (Fact.sl a (am l)).holds ok w) (hF2 : (Fact.sl b (ar es)).holds ok w) (hl : l.length ≤ 1000000) (hes : es.length ≤ 1000000) (hm8 : g.1.length ≤ 8) :
  Cw 127 #[gV g, .slice a l.length c, .slice b es.length d, .bool same] w (.int .i64 (eF g l es same)) := by
 refine En [Fact.sl a (am l), Fact.sl b (ar es)] [(0, gV g), (1, .slice a l.length c), (2, .slice b es.length d), (3, .bool same)] Tryz.func127 I Tryz.ntmps127 I (Ac I (Ac I (Ac I (Ac I (An _))))) (Fc (af hF1) (Fc (af hF2) Fn)) (Eq ?_)
 intro b4
 refine FM ?_; refine HT ?_; refine Lp (σ := Nat) [(1, _), (2, _), (3, _), (4, _), (16, _), (17, _)] (fun gq => [(18, .int .i64 (gq : Int))]) (fun gq => gq ≤ l.length ∧ ∀ x ∈ l.take gq, okN x) (fun gq => l.length - gq) (0) (S6 I I I I I I) (S1 I) (by (try dsimp only); exact ⟨Af _, by simp⟩) ?_
 rintro i hinv1; (try dsimp only at hinv1 ⊢)
 obtain ⟨hi, hok⟩ := hinv1
 refine ne (fun hc19 => ?_) (fun hc19 => ?_)
 ·have hil : i < l.length := by omega
  refine FO ?_; refine FW ?_
  refine GA ?_
  refine FN ?_; refine Kc I (fun w hS => ay (a := l.getD i default)) (Gs (fun hc24 => ?_) (fun hc24 => ?_))
  ·refine Cs (le ?_); refine FE ?_; exact R1 I I (by rw [eF, Ae (fun h => absurd (h _ (aj _ _ hil)) (by simpa using hc24))]; rfl)
  ·refine Ck (Xd (Xa (Cg (Kq I (Rz I I I (by omega)) (Km I (Nn (Ly (i + 1) (by (try dsimp only); omega) (S6 I I I I I I) (by refine (Sc ?_ (S0 _)) <;> (rfl)) ?_ (fun _ h => h)))))))); (try dsimp only); exact ⟨hil, ax hil hok (by simpa using hc24)⟩
 ·refine Fq ?_
  obtain rfl : i = l.length := by omega
  rw [Ai] at hok
  refine Xa (Cq (Cs (Km I (Yo I u31 (Km I (Nt (Cb (Lo (σ := Nat) [(1, _), (3, _), (4, _), (26, _), (27, _)] (fun gq => [(28, .int .i64 (gq : Int))]) (fun gq => gq ≤ es.length ∧ ∀ x ∈ es.take gq, okZ x) (fun gq => es.length - gq) (fun gq => [⟨some b4, [.string (S g.1), .string (S g.2)], 26⟩]) (fun gq => [Fact.sl a (am l), Fact.sl b (ar es)]) (0) (S5 I I I I I) (S1 I) (by (try dsimp only); exact ⟨Af _, by simp⟩) (fun _ h => h) ?_))))))))
  rintro k hinv2; (try dsimp only at hinv2 ⊢)
  obtain ⟨hk, hokz⟩ := hinv2
  refine ne (fun hc29 => ?_) (fun hc29 => ?_)
  ·have hkl : k < es.length := by omega
   refine FO ?_; refine FI ?_; refine Gx ?_; refine FS ?_; intro b12; refine Nu I I (Sa I I I .tc) (Nt (Cs (Kq I (lda I I .tc u68 I ?_) ?_)))
   ·kernel_rfl
   refine Kc I (fun w hS => bR (x := es.getD k default)) (Gs (fun hc34 => ?_) (fun hc34 => ?_))
   ·refine Cs (le ?_); refine FE ?_; exact R1 I I (by rw [eF, Aa (fun h => h hok), Ae (fun h => absurd (h _ (aj _ _ hkl)) (by simpa using hc34))]; rfl)
   ·refine Ck (Xd (Xa (Cg (Kq I (Rz I I I (by omega)) (Km I (Nn (Lx (k + 1) (by (try dsimp only); omega) (S5 I I I I I) (by refine (Sc ?_ (S0 _)) <;> (rfl)) ?_ (by (exact aq))))))))); (try dsimp only); exact ⟨hkl, ax hkl hokz (by simpa using hc34)⟩
  ·refine Fq ?_; obtain rfl : k = es.length := by omega
   rw [Ai] at hokz; refine Xa (Cq (Cs (Kq I (lda I I .tc u26 I ?_) ?_)))
   ·kernel_rfl
   refine Kc I (fun w hS => iN (g := g)) (Ka I (Nt (Fz (fun hc39 => ?_) (fun hc39 => ?_))))
   ·refine Cs (Km I (le ?_)); refine Xb ?_; exact R1 I I (by rw [eF, Aa (fun h => h hok), Aa (fun h => h hokz), Ae (by simpa using hc39)]; rfl)
   ·have hg : aT g = 0 := by simpa using hc39
    refine GO ?_; refine Gs (fun hc42 => ?_) (fun hc42 => ?_)
    ·refine Cs (le ?_); refine Xb ?_; exact R1 I I (by rw [eF, Aa (fun h => h hok), Aa (fun h => h hokz), Aa (fun h => h hg), Ae (by simpa using hc42)]; rfl)
    ·refine GO ?_; refine HT ?_; refine Lp (σ := Nat) [(4, _), (43, _), (44, _)] (fun gq => [(45, .int .i64 (gq : Int))]) (fun gq => gq ≤ l.length ∧ ∀ x ∈ l.take gq, elG g x) (fun gq => l.length - gq) (0) (S3 I I I) (S1 I) (by (try dsimp only); exact ⟨Af _, by simp⟩) ?_; rintro i3 hinv3; (try dsimp only at hinv3 ⊢); obtain ⟨hi3, hel⟩ := hinv3; refine ne (fun hc46 => ?_) (fun hc46 => ?_)
     ·have hil3 : i3 < l.length := by omega
      refine FO ?_; refine FW ?_; refine GA ?_; refine Ka I (Nt (Cs (Kq I (lda I I .tc u26 I ?_) ?_)))
      ·kernel_rfl
      refine Km I (Kc I (fun w hS => oO (g := g) (x := l.getD i3 default) (by exact hg) (by exact hm8)) (Gs (fun hc52 => ?_) (fun hc52 => ?_)))
      ·refine Cs (le ?_); refine FE ?_; exact R1 I I (by rw [eF, Aa (fun h => h hok), Aa (fun h => h hokz), Aa (fun h => h hg), Aa (by simpa using hc42), Ae (fun h => absurd (h _ (aj _ _ hil3)) (by simpa using hc52))]; rfl)
      ·refine Ck (Xd (Xa (Cg (Kq I (Rz I I I (by omega)) (Km I (Nn (Ly (i3 + 1) (by (try dsimp only); omega) (S3 I I I) (by refine (Sc ?_ (S0 _)) <;> (rfl)) ?_ (fun _ h => h)))))))); (try dsimp only); exact ⟨hil3, ax hil3 hel (by simpa using hc52)⟩
     ·refine Fq ?_; obtain rfl : i3 = l.length := by omega
      rw [Ai] at hel; refine Xa (Cs (le ?_)); exact R1 I I (by rw [eF, Aa (fun h => h hok), Aa (fun h => h hokz), Aa (fun h => h hg), Aa (by simpa using hc42), Aa (fun h => h hel)]; rfl)
theorem kh {a b m : Bs} (ha : okN a) (hb : okN b) (hm : okN m) (hm0 : m ≠ []) : lV a b m = (ae (val a * val b % val m), 0) := by
 rw [lV, Ae (lF (by intro y hy; simp at hy; rcases hy with rfl | rfl | rfl <;> assumption) (by simpa using fun h => hm0 h))]
theorem oP {p q : Nat} {out x : Bs} {g : Gp} {en : Ent} {rr : List Ent} {ok : Nat → Prop} {w0 : World} {fs : List Fact} {w : World} (hS0 : St ok w0 (⟨some p, [.string (S out)], 22⟩ :: en :: ⟨some q, [.string (S g.1), .string (S g.2)], 26⟩ :: rr) (fs) w) (ho : okN out) (ho8 : out.length ≤ 8) (hx : okN x) (hx8 : x.length ≤ 8) (hm : okN g.1) (hm0 : g.1 ≠ []) (hm8 : g.1.length ≤ 8) :
  Calls Tryz.prog 130 #[.string (S x), .pointer (some ⟨p, 0, none⟩), .pointer (some ⟨q, 0, none⟩)] w fun e w' => e = .returned (.tuple #[]) ∧ St ok w0 (⟨some p, [.string (S (ae (val out * val x % val g.1)))], 22⟩ :: en :: ⟨some q, [.string (S g.1), .string (S g.2)], 26⟩ :: rr) (fs) w' := by
 refine enter (S := St ok w0 (⟨some p, [.string (S out)], 22⟩ :: en :: ⟨some q, [.string (S g.1), .string (S g.2)], 26⟩ :: rr) (fs)) (L := [(0, .string (S x)), (1, .pointer (some ⟨p, 0, none⟩)), (2, .pointer (some ⟨q, 0, none⟩))]) Tryz.func130 rfl Tryz.ntmps130 rfl (Ac rfl (Ac rfl (Ac rfl (An _)))) hS0 ?_
 refine Cg (Gm ?_)
 refine Km I ?_
 (refine Kq I (cA I I u26 I (by kernel_rfl) (by (try simp only [sN, Int.reduceToNat, Nat.reduceAdd, Nat.reduceMul, Nat.reduceSub]); rfl)) ?_)
 refine Gm ?_
 refine Kc I (fun w hS => (by have := nI (w := w) (a := out) (b := x) (m := g.1) ho8 hx8 hm8; rw [kh ho hx hm hm0] at this; exact this)) (Km I (Ye I (Ye I (Ng I I (st I I I .tc (by kernel_rfl) I ?_ (by (simp only [Bf, Bg]; rfl))) ?_))))
 ·(simp; done)
 intro _
 refine Nn (WX.ret_normal ?_)
 exact Rn I .nil fun w' hS => ⟨by rfl, by (exact hS)⟩
theorem eL {g : Gp} {x : Bs} (hg : aT g = 0) (h : elG g x) : Nat.gcd (val x) (val g.1) = 1 := by
 obtain ⟨h1, h2, h3, h4, h5⟩ := db hg
 obtain ⟨_, _, _, h6⟩ := h
 split at h6
 ·exact h6
 ·rename_i hq
  obtain ⟨h7, _⟩ := h5 hq
  refine ov (x := val x ^ (val g.2 - 1)) ?_
  rw [Ao, ← A0, show (val g.2 - 1).succ = val g.2 by omega, h6, Am (by omega)]
theorem n4 {g : Gp} {x : Bs} (h : elG g x) (hm8 : g.1.length ≤ 8) : x.length ≤ 8 := by
 rw [← bT h.1]; exact aX.2 (C9 h.2.2.1 (eS hm8))
def bsB (m : Nat) (p : Bs × Zs) : Bs := if p.2.1 = true then ae (ei (val p.1) m) else p.1
def dW (g : Gp) (l : List Bs) (es : List Zs) : Bs × Int :=
 if eF g l es (decide (l.length = es.length)) = 0 then (ae (aD (fun p => aZ (val g.1) (val p.1) (zv p.2)) (l.zip es) % val g.1), 0) else ([], eF g l es (decide (l.length = es.length)))
theorem rv {g : Gp} {l : List Bs} {es : List Zs} {s : Bool} (h : eF g l es s = 0) : (∀ x ∈ l, okN x) ∧ (∀ x ∈ es, okZ x) ∧ aT g = 0 ∧ s = true ∧ (∀ x ∈ l, elG g x) := by
 unfold eF at h
 split at h
 ·simp at h
 ·rename_i h1
  split at h
  ·simp at h
  ·rename_i h2; split at h
   ·rename_i h3; exact absurd h h3
   ·rename_i h3; split at h
    ·simp at h
    ·rename_i h4; split at h
     ·simp at h
     ·rename_i h5; exact ⟨Ah.1 h1, Ah.1 h2, Ah.1 h3, by simpa using h4, Ah.1 h5⟩
theorem qE {x : Zs} (h : okZ x) : zv x < 0 ↔ x.1 = true := by
 obtain ⟨s, a⟩ := x
 cases s with
 | false => simp [zv]
 | true =>
  have h0 : val a ≠ 0 := fun h0 => h.2 ⟨rfl, (aM h.1.2).1 h0⟩
  simp [zv]; omega
theorem hH (x : Zs) : (zv x).natAbs = val x.2 := by
 obtain ⟨s, a⟩ := x; cases s <;> simp [zv]
theorem xz {m : Nat} {p : Bs × Zs} (h : okZ p.2) : aZ m (val p.1) (zv p.2) = val (bsB m p) ^ val p.2.2 % m := by
 rw [aZ, bsB, hH]
 by_cases h1 : p.2.1 = true
 ·rw [Ae ((qE h).2 h1), Ae h1, ah]
 ·rw [Aa (fun h2 => h1 ((qE h).1 h2)), Aa h1]
theorem jx {α β : Type} (f : β → Nat) (k : α → β) : ∀ l : List α, aD f (l.map k) = aD (fun x => f (k x)) l
 | [] => rfl
 | x :: l => by rw [Ds, aD, aD, jx f k l]
def r5 (m : Nat) (l : List (Bs × Zs)) : List (Nat × Nat) := l.map fun p => (val (bsB m p), val p.2.2)
theorem xx {m : Nat} {l : List (Bs × Zs)} (h : ∀ p ∈ l, okZ p.2) : aD (eA 0) (r5 m l) % m = aD (fun p => aZ m (val p.1) (zv p.2)) l % m := by
 rw [r5, jx]
 apply gL
 intro p hp
 rw [xz (h p hp), eA, C6, Dy, Nat.mod_mod]
theorem rZ {m n : Nat} {l : List (Bs × Zs)} (h : ∀ p ∈ l, aL p.2.2 ≤ n) : aD (eA n) (r5 m l) = 1 := by
 apply r7
 intro p hp
 obtain ⟨q, hq, rfl⟩ := Ch.1 hp
 rw [eA, Bo (Aw (fW _) (Ar (by decide) (h q hq))), C6]
theorem ls {l : List Bs} {es : List Zs} {i : Nat} (h1 : i < l.length) (h2 : i < es.length) : (l.zip es).getD i default = (l.getD i default, es.getD i default) := by
 simp only [List.getD_eq_getElem?_getD, List.getElem?_zip_eq_some, Ad h1, Ad h2, Ad (show i < (l.zip es).length by simp; omega), List.getElem_zip, Option.getD_some]
theorem cq {α β : Type} [Inhabited α] [Inhabited β] (f : α → β) (l : List α) (i : Nat) (h : i < l.length) : (l.map f).getD i default = f (l.getD i default) := by
 simp [List.getD_eq_getElem?_getD, Ad h]
theorem l8 (l : List Bs) (i n : Nat) (h : i < l.length) (hn : i < n) : (am (l.take i) ++ List.replicate (n - i) (Value.string (S []))).set i (Value.string (S (l.getD i default))) = am (l.take (i + 1)) ++ List.replicate (n - (i + 1)) (Value.string (S [])) := by
 have hl : (am (l.take i)).length = i := by simp [am]; omega
 rw [Do _ _ (by omega), hl, Df, show n - i = (n - (i + 1)) + 1 by omega, D8, Bf]
 have e : l.take (i + 1) = l.take i ++ [l.getD i default] := by
  rw [Bv, Ad h, List.getD_eq_getElem?_getD, Ad h]; rfl
 rw [e]; simp [am]
theorem uF {k : Nat} {m : Bs} (h : k < val m) (hm8 : m.length ≤ 8) : okN (ae k) ∧ (ae k).length ≤ 8 := by
 have h8 : (ae k).length ≤ 8 := aX.2 (C9 h (eS hm8))
 exact ⟨⟨by omega, bH _⟩, h8⟩
theorem pK {α : Type} [Inhabited α] (f : α → Nat) (l : List α) (k : Nat) (h : k < l.length) : aD f (l.take (k + 1)) = aD f (l.take k) * f (l.getD k default) := by
 rw [Bv, Ad h, fC, List.getD_eq_getElem?_getD, Ad h]
 simp [aD]
def rT (n : Nat) (p : Nat × Nat) : Nat := if p.2 / 2 ^ n % 2 = 1 then p.1 else 1
theorem ic {g : Gp} {l : List Bs} {es : List Zs} {a b : Option Addr} {c d : Nat} {w : World} {ok : Nat → Prop} (hF1 : (Fact.sl a (am l)).holds ok w) (hF2 : (Fact.sl b (ar es)).holds ok w) (hl : l.length ≤ 100000) (hes : es.length ≤ 100000) (hm8 : g.1.length ≤ 8) :
  Cw 52 #[gV g, .slice a l.length c, .slice b es.length d] w (NE (dW g l es)) := by
 refine En [Fact.sl a (am l), Fact.sl b (ar es)] [(0, gV g), (1, .slice a l.length c), (2, .slice b es.length d)] Tryz.func52 I Tryz.ntmps52 I (Ac I (Ac I (Ac I (An _)))) (Fc (af hF1) (Fc (af hF2) Fn)) (Eq ?_)
 intro b3
 refine Ka I (Ka I (Nt (Cq (Cs (Kq I (lda I I .tc u26 I ?_) ?_)))))
 ·kernel_rfl
 refine Km I (Km I (Km I (Yo I u33 (Km I (Yo I u31 (Yi I (Ns 27 I (v' := .bool (decide (l.length = es.length))) (congrArg Value.bool (by exact Ak.2 (by omega))) ?_)))))))
 refine Kc I (fun w hS => mQ (g := g) (l := l) (es := es) (same := decide (l.length = es.length)) (by (exact hS.sl)) (by (exact hS.sl)) (by omega) (by omega) (by assumption)) (Ka I (Nt (Fz (fun hc30 => ?_) (fun hc30 => ?_))))
 ·have hr : dW g l es = ([], eF g l es (decide (l.length = es.length))) := by rw [dW, Aa (by simpa using hc30)]
  refine H7 ?_; refine le ?_; refine Xb ?_
  exact Ix
 ·have h0 : eF g l es (decide (l.length = es.length)) = 0 := by simpa using hc30
  obtain ⟨hok, hokz, hg, hsame, hel⟩ := rv h0
  have hlen : l.length = es.length := by simpa using hsame
  obtain ⟨hm, hq, hm2, _⟩ := db hg
  have hm0 : g.1 ≠ [] := fun h => by rw [h] at hm2; exact absurd hm2 (by decide)
  have hp := iz hm hm0
  have hm64 := eS hm8
  obtain ⟨Z, hZ⟩ : ∃ Z, Z = l.zip es := ⟨_, rfl⟩
  have hZl : Z.length = l.length := by rw [hZ]; simp; omega
  have hr : dW g l es = (ae (aD (fun p => aZ (val g.1) (val p.1) (zv p.2)) Z % val g.1), 0) := by rw [dW, Ae h0, hZ]
  obtain ⟨B', hB'⟩ : ∃ B', B' = Z.map (bsB (val g.1)) := ⟨_, rfl⟩
  have hBl : B'.length = l.length := by rw [hB', Ag, hZl]
  refine Ck (Xa (Cs (Km I (Yo I u33 (Kh I (ed I I I u33 (by kernel_rfl : _ = some (some (.string (S [])), 1, 16)) I ?_ (by (try simp only [sN, Int.reduceToNat, Nat.reduceAdd, Nat.reduceMul, Nat.reduceSub]); rfl) (by (try simp only [sN, Int.reduceToNat, Nat.reduceAdd, Nat.reduceMul, Nat.reduceSub]); rfl)) ?_)))))
  ·omega
  intro b34
  refine Ka I (Nt (Cs (FM ?_))); refine HT ?_; refine Lo (σ := Nat × Nat) [(2, _), (3, _), (9, _), (35, _), (36, _)] (fun gq => [(10, .int .i64 (gq.2 : Int)), (37, .int .i64 (gq.1 : Int))]) (fun gq => gq.1 ≤ l.length ∧ gq.2 ≤ 2000 ∧ ∀ p ∈ Z.take gq.1, aL p.2.2 ≤ gq.2) (fun gq => l.length - gq.1) (fun gq => [⟨some b34, am (B'.take gq.1) ++ List.replicate (l.length - gq.1) (.string (S [])), 22⟩, ⟨some b3, [.string (S g.1), .string (S g.2)], 26⟩]) (fun gq => [Fact.sl a (am l), Fact.sl b (ar es)]) (0, 0) (S5 I I I I I) (S2 I I) (by (try dsimp only); exact ⟨Af _, Af _, by simp⟩) (fun _ h => h) ?_
  rintro ⟨i, most⟩ hinv1; (try dsimp only at hinv1 ⊢)
  obtain ⟨hi, hmo, hbt⟩ := hinv1
  refine ne (fun hc38 => ?_) (fun hc38 => ?_)
  ·have hil : i < l.length := by omega
   have hie : i < es.length := by omega
   have hx := hel _ (aj l i hil); have hz := hokz _ (aj es i hie); have hiZ : i < Z.length := by omega
   have hZi : Z.getD i default = (l.getD i default, es.getD i default) := by rw [hZ]; exact ls hil hie
   have hBi : B'.getD i default = bsB (val g.1) (l.getD i default, es.getD i default) := by rw [hB', cq _ _ _ hiZ, hZi]
   have hgc := eL hg hx; have hiv := xY hx.1 hm hm0; rw [Ae hgc] at hiv; have hbl := gA hz.1.1; refine FO ?_; refine Km I (FW ?_); refine GA ?_; refine Ka I (FN ?_); refine Km I (Km I (Hs ?_)); refine Ng I I (st I I I .tc (by kernel_rfl) I ?_ (by rfl)) ?_
   ·(simp <;> omega)
   intro _; refine Nt (Cq (Hd ?_)); refine FI ?_; (refine Kq I (faf I I u68 I (by kernel_rfl) (by (try simp only [sN, Int.reduceToNat, Nat.reduceAdd, Nat.reduceMul, Nat.reduceSub]); rfl)) ?_); refine Kq I (cE (sz := 2) _ 0 I I u4 I (fun _ => rfl) I (by assumption) (by decide) I) ?_; refine Nt (Ci I (fun hc50 => ?_) (fun hc50 => ?_))
   ·have hB2 : B'.getD i default = ae (ei (val (l.getD i default)) (val g.1)) := by rw [hBi]; exact Ae (by simpa using hc50)
    refine Cs (Km I (Gj ?_)); refine Kc I (fun w hS => (by have := AQ (w := w) (a := l.getD i default) (m := g.1); rw [hiv] at this; exact this)) (Fs ?_); refine Cq (Cs (Km I (Yj I (Nt (Cd I (fun hc59 => by exfalso; (try simp only [sB] at hc59); exact hc59 trivial) (fun hc59 => ?_)))))); (try simp only [sB] at hc59); refine Ck (Xa (Cg (Km I (Km I (Km I (Hs ?_)))))); refine Ng I I (st I I I .tc (by kernel_rfl) I ?_ (by (simp only [Bf, Bg]; rfl))) ?_
    ·(simp <;> omega)
    intro _; refine Nt (Cg (Km I (Km I (Km I (Kq I (Ia I I I u31 (by kernel_rfl : _ = some 2) (by omega) (by (rw [ag _ _ 2 (fun _ => rfl)]; omega))) ?_))))); (refine Kq I (faf I I u68 I (by kernel_rfl) (by (try simp only [sN, Int.reduceToNat, Nat.reduceAdd, Nat.reduceMul, Nat.reduceSub]); rfl)) ?_); refine Kq I (cE (sz := 2) _ 1 I I u22 I (fun _ => rfl) I (by assumption) (by decide) I) ?_; refine Kc I (fun w hS => og (a := (es.getD i default).2)) (Ns 71 I (v' := .int .i64 ((aL (es.getD i default).2 : Nat) : Int)) (congrArg (Value.int .i64) (by rw [Ae hz.1])) ?_); refine Kq I (kb I I I) (Ns 72 I (v' := .int .i64 ((max most (aL (es.getD i default).2) : Nat) : Int)) (congrArg (Value.int .i64) (by omega)) (Ka I (Nn (Xd (Xa (Cg (Kq I (Rz I I I (by omega)) (Km I (Nn (Lx ((i + 1, max most (aL (es.getD i default).2))) (by (try dsimp only); omega) (S5 I I I I I) (by refine (Sc ?_ (Sc ?_ (S0 _))) <;> (rfl)) ?_ (by exact fun w h => by rw [← l8 B' i l.length (by omega) hil, hB2]; (try rw [List.set_set] at h); exact h))))))))))); (try dsimp only); exact ⟨hil, by omega, ax hiZ (fun p hp => Bi (hbt p hp) (Nat.le_max_left _ _)) (by rw [hZi]; exact Nat.le_max_right _ _)⟩
   ·have hB2 : B'.getD i default = l.getD i default := by rw [hBi]; exact Aa (by simpa using hc50)
    refine Ck (Xa (Cg (Km I (Km I (Km I (Kq I (Ia I I I u31 (by kernel_rfl : _ = some 2) (by omega) (by (rw [ag _ _ 2 (fun _ => rfl)]; omega))) ?_)))))); (refine Kq I (faf I I u68 I (by kernel_rfl) (by (try simp only [sN, Int.reduceToNat, Nat.reduceAdd, Nat.reduceMul, Nat.reduceSub]); rfl)) ?_); refine Kq I (cE (sz := 2) _ 1 I I u22 I (fun _ => rfl) I (by assumption) (by decide) I) ?_; refine Kc I (fun w hS => og (a := (es.getD i default).2)) (Ns 71 I (v' := .int .i64 ((aL (es.getD i default).2 : Nat) : Int)) (congrArg (Value.int .i64) (by rw [Ae hz.1])) ?_); refine Kq I (kb I I I) (Ns 72 I (v' := .int .i64 ((max most (aL (es.getD i default).2) : Nat) : Int)) (congrArg (Value.int .i64) (by omega)) (Ka I (Nn (Xd (Xa (Cg (Kq I (Rz I I I (by omega)) (Km I (Nn (Lx ((i + 1, max most (aL (es.getD i default).2))) (by (try dsimp only); omega) (S5 I I I I I) (by refine (Sc ?_ (Sc ?_ (S0 _))) <;> (rfl)) ?_ (by exact fun w h => by rw [← l8 B' i l.length (by omega) hil, hB2]; (try rw [List.set_set] at h); exact h))))))))))); (try dsimp only); exact ⟨hil, by omega, ax hiZ (fun p hp => Bi (hbt p hp) (Nat.le_max_left _ _)) (by rw [hZi]; exact Nat.le_max_right _ _)⟩
  ·refine Fq ?_; obtain rfl : i = l.length := by omega
   rw [Df, List.replicate_zero, A5, A7 (Nat.le_of_eq hBl)]; rw [A7 (Nat.le_of_eq hZl)] at hbt
   have hBk : ∀ k, k < l.length → okN (B'.getD k default) ∧ (B'.getD k default).length ≤ 8 := fun k hk => by
    have hx := hel _ (aj l k hk); rw [hB', cq _ _ _ (by omega), hZ, ls hk (by omega), bsB]; split
    ·exact uF (xX _ hp) hm8
    ·exact ⟨hx.1, n4 hx hm8⟩
   obtain ⟨PP, hPP⟩ : ∃ PP, PP = r5 (val g.1) Z := ⟨_, rfl⟩; have hPl : PP.length = l.length := by rw [hPP, r5, Ag, hZl]
   have hPk : ∀ k, k < l.length → PP.getD k default = (val (B'.getD k default), val (es.getD k default).2) := fun k hk => by
    rw [hPP, hB', cq _ _ _ (by omega), r5, cq _ _ _ (by omega), hZ, ls hk (by omega)]
   have hst := rZ (m := val g.1) hbt; rw [← hPP] at hst; have hend := xx (m := val g.1) (l := Z) (fun q hq => by rw [hZ] at hq; exact hokz _ (List.of_mem_zip hq).2); rw [← hPP] at hend; have hmk : ∀ k, okN (ae (k % val g.1)) ∧ (ae (k % val g.1)).length ≤ 8 := fun k => uF (Aq _ hp) hm8
   refine Xa (Cs (Kc I (fun w hS => fU (n := 1) (by omega)) (GN ?_))); intro b15; refine Ng I I (st I I I .tc (by kernel_rfl) I ?_ (by (simp only [Bf, Bg]; rfl))) ?_
   ·decide
   intro _; refine Nt (Cs (Kq I (bM I I I) (FM ?_))); refine Hq ?_; refine Cb (Lo (σ := Nat × Int × Bs) [(2, _), (9, _), (15, _), (16, _)] (fun gq => [(17, .int .i64 gq.2.1)]) (fun gq => gq.1 ≤ most ∧ gq.2.1 = (gq.1 : Int) - 1 ∧ gq.2.2 = ae (aD (eA gq.1) PP % val g.1)) (fun gq => gq.1) (fun gq => [⟨some b15, [.string (S gq.2.2)], 22⟩, ⟨some b34, am B', 22⟩, ⟨some b3, [.string (S g.1), .string (S g.2)], 26⟩]) (fun gq => [Fact.sl b (ar es)]) (most, (most : Int) - 1, ae 1) (S4 I I I I) (S1 I) (by (try dsimp only); exact ⟨Ba _, rfl, by rw [hst, Am (by omega)]⟩) (by (exact aq)) ?_); rintro ⟨n, j, out⟩ hinv2; (try dsimp only at hinv2 ⊢); obtain ⟨hn, hj, hout⟩ := hinv2; refine Cq (Cs (Km I (Hg (fun hc79 => ?_) (fun hc79 => ?_))))
   ·obtain ⟨n', rfl⟩ : ∃ n', n = n' + 1 := ⟨n - 1, by omega⟩; refine WC.set 17 I (v' := .int .i64 ((n' : Nat) : Int)) (by rw [hj]; congr 1; omega) ?_; subst hout; obtain ⟨Q, hQ⟩ : ∃ Q, Q = aD (eA (n' + 1)) PP % val g.1 * (aD (eA (n' + 1)) PP % val g.1) % val g.1 := ⟨_, rfl⟩; have hQ0 : val (ae (aD (eA (n' + 1)) PP % val g.1)) * val (ae (aD (eA (n' + 1)) PP % val g.1)) % val g.1 = Q := by rw [ah, hQ]
    refine FO ?_; refine Km I (Gm ?_); refine Kh I (a6 I I I (by kernel_rfl) I (ki fun w hS => oP (p := b15) (q := b3) (out := ae (aD (eA (n' + 1)) PP % val g.1)) (x := ae (aD (eA (n' + 1)) PP % val g.1)) (g := g) hS (by exact (hmk _).1) (by exact (hmk _).2) (by exact (hmk _).1) (by exact (hmk _).2) (by exact hm) (by exact hm0) (by exact hm8))) ?_; intro _; refine Nt (Cs (Km I (HT ?_))); refine Lo (σ := Nat × Bs) [(2, _), (9, _), (15, _), (16, _), (17, _), (85, _), (86, _)] (fun gq => [(87, .int .i64 (gq.1 : Int))]) (fun gq => gq.1 ≤ l.length ∧ gq.2 = ae (Q * aD (rT n') (PP.take gq.1) % val g.1)) (fun gq => l.length - gq.1) (fun gq => [⟨some b15, [.string (S gq.2)], 22⟩, ⟨some b34, am B', 22⟩, ⟨some b3, [.string (S g.1), .string (S g.2)], 26⟩]) (fun gq => [Fact.sl b (ar es)]) (0, ae Q) (S7 I I I I I I I) (S1 I) (by (try dsimp only); exact ⟨Af _, by rw [Bz, aD, As, hQ, Nat.mod_mod]⟩) (by exact fun w h => by rw [hQ0] at h; exact h) ?_; rintro ⟨k, o⟩ hinv3; (try dsimp only at hinv3 ⊢); obtain ⟨hk, ho⟩ := hinv3; refine ne (fun hc88 => ?_) (fun hc88 => ?_)
    ·have hkl : k < l.length := by omega
     have hz := hokz _ (aj es k (by omega)); subst ho; have hsu := pK (rT n') PP k (by omega); rw [hPk k hkl, rT] at hsu; refine FO ?_; refine Km I (Hs ?_); refine Kq I (ld I I .tc u22 I (gj B' _ k (by omega))) ?_; refine Ka I (FN ?_); refine Km I (FI ?_); (refine Kq I (faf I I u68 I (by kernel_rfl) (by (try simp only [sN, Int.reduceToNat, Nat.reduceAdd, Nat.reduceMul, Nat.reduceSub]); rfl)) ?_); refine Kq I (cE (sz := 2) _ 1 I I u22 I (fun _ => rfl) I (by omega) (by decide) I) ?_; refine Km I (Kc I (fun w hS => oh (a := (es.getD k default).2) (i := n') (by omega)) (Nt (Ci I (fun hc98 => ?_) (fun hc98 => ?_))))
     ·have hd : val (es.getD k default).2 / 2 ^ n' % 2 = 1 := by rw [co hz.1, gB] at hc98; simpa using hc98
      rw [Ae hd] at hsu; refine Cg (Km I (Km I (Kh I (a6 I I I (by kernel_rfl) I (ki fun w hS => oP (p := b15) (q := b3) (out := ae (Q * aD (rT n') (PP.take k) % val g.1)) (x := B'.getD k default) (g := g) hS (by exact (hmk _).1) (by exact (hmk _).2) (by exact (hBk _ hkl).1) (by exact (hBk _ hkl).2) (by exact hm) (by exact hm0) (by exact hm8))) ?_))); intro _; refine Nn (Xd (Xa (Cg (Kq I (Rz I I I (by omega)) (Km I (Nn (Lx ((k + 1, ae (Q * aD (rT n') (PP.take (k + 1)) % val g.1))) (by (try dsimp only); omega) (S7 I I I I I I I) (by refine (Sc ?_ (S0 _)) <;> (rfl)) ?_ (by exact fun w h => by rw [hsu, ← A1, ← mml (Q * _)]; rw [ah] at h; exact h)))))))); (try dsimp only); exact ⟨hkl, rfl⟩
     ·have hd : ¬ val (es.getD k default).2 / 2 ^ n' % 2 = 1 := by rw [co hz.1, gB] at hc98; simpa using hc98
      rw [Aa hd, As] at hsu; refine Ck (Xd (Xa (Cg (Kq I (Rz I I I (by omega)) (Km I (Nn (Lx ((k + 1, ae (Q * aD (rT n') (PP.take (k + 1)) % val g.1))) (by (try dsimp only); omega) (S7 I I I I I I I) (by refine (Sc ?_ (S0 _)) <;> (rfl)) ?_ (by exact fun w h => by rw [hsu]; exact h)))))))); (try dsimp only); exact ⟨hkl, rfl⟩
    ·refine Fq ?_; obtain rfl : k = l.length := by omega
     rw [A7 (Nat.le_of_eq hPl)] at ho; refine Xd (Xa (Cg (Km I (Kq I (aK I I I (by omega)) (Ka I (Nn (Lx ((n', (n' : Int) - 1, o)) (by (try dsimp only); omega) (S4 I I I I) (by refine (Sc ?_ (S0 _)) <;> (rfl)) ?_ (fun _ h => h)))))))); (try dsimp only); exact ⟨by omega, rfl, by rw [ho, hQ]; exact congrArg ae (un _ _ _)⟩
   ·refine Fq ?_; obtain rfl : n = 0 := by omega
    rw [hend] at hout; refine Xa (Cs (Gm ?_)); refine Ka I (le ?_); exact R2 I I I (by rw [hr, ← hout]; rfl)
abbrev Tm := Bs × Int × Zs
abbrev Qn := Int × Bs × List Tm
abbrev Sm := List Gp × List Bs × List Qn
abbrev tmC (t : Tm) : List Value := [.string (S t.1), .int .i64 t.2.1, .bool t.2.2.1, .string (S t.2.2.2)]
abbrev tms (l : List Tm) : List Value := l.flatMap tmC
abbrev QA := Qn × Option Addr × Nat
abbrev qaC (q : QA) : List Value := [.int .i64 q.1.1, .string (S q.1.2.1), .slice q.2.1 q.1.2.2.length q.2.2]
abbrev qas (l : List QA) : List Value := l.flatMap qaC
abbrev gpC (g : Gp) : List Value := [.string (S g.1), .string (S g.2)]
abbrev gps (l : List Gp) : List Value := l.flatMap gpC
abbrev vrC (v : Bs) : List Value := [.string (S v)]
abbrev vrs (l : List Bs) : List Value := l.flatMap vrC
abbrev qaF (q : QA) : Fact := Fact.sl q.2.1 (tms q.1.2.2)
structure SA where
 gs : List Gp
 vs : List Bs
 es : List QA
 ga : Option Addr
 gc : Nat
 va : Option Addr
 vc : Nat
 ea : Option Addr
 ec : Nat
abbrev SA.core (s : SA) : Sm := (s.gs, s.vs, s.es.map (·.1))
abbrev saV (s : SA) : Value := .agg #[.slice s.ga s.gs.length s.gc, .slice s.va s.vs.length s.vc, .slice s.ea s.es.length s.ec]
abbrev saF (s : SA) : List Fact := Fact.sl s.ga (gps s.gs) :: Fact.sl s.va (vrs s.vs) :: Fact.sl s.ea (qas s.es) :: s.es.map qaF
def saL (s : SA) : Prop := s.gs.length ≤ 100000 ∧ s.vs.length ≤ 100000 ∧ s.es.length ≤ 100000 ∧ (∀ q ∈ s.es, q.1.2.2.length ≤ 100000) ∧ ∀ g ∈ s.gs, g.1.length ≤ 8
def okT (nv : Nat) (t : Tm) : Prop := (0 ≤ t.2.1 ∧ t.2.1 < nv) ∧ okN t.1 ∧ okZ t.2.2
instance (nv : Nat) (t : Tm) : Decidable (okT nv t) := inferInstanceAs (Decidable (_ ∧ _))
def DG (ng : Nat) (q : Qn) : Prop := (0 ≤ q.1 ∧ q.1 < ng) ∧ okN q.2.1
instance (ng : Nat) (q : Qn) : Decidable (DG ng q) := inferInstanceAs (Decidable (_ ∧ _))
def okQ (ng nv : Nat) (q : Qn) : Prop := DG ng q ∧ ∀ t ∈ q.2.2, okT nv t
instance (ng nv : Nat) (q : Qn) : Decidable (okQ ng nv q) := inferInstanceAs (Decidable (_ ∧ _))
def okG (g : Gp) : Prop := okN g.1 ∧ okN g.2
instance (g : Gp) : Decidable (okG g) := inferInstanceAs (Decidable (_ ∧ _))
def bc (s : Sm) : Prop := (∀ g ∈ s.1, okG g) ∧ (∀ v ∈ s.2.1, okN v) ∧ ∀ q ∈ s.2.2, okQ s.1.length s.2.1.length q
instance (s : Sm) : Decidable (bc s) := inferInstanceAs (Decidable (_ ∧ _))
def dD (s : Sm) : Prop := (s.1.length ≤ 8 ∧ s.2.1.length ≤ 64 ∧ s.2.2.length ≤ 64) ∧ ∀ q ∈ s.2.2, q.2.2.length ≤ 64
instance (s : Sm) : Decidable (dD s) := inferInstanceAs (Decidable (_ ∧ _))
def elQ (gs : List Gp) (q : Qn) : Prop := elG (gs.getD q.1.toNat default) q.2.1 ∧ ∀ t ∈ q.2.2, elG (gs.getD q.1.toNat default) t.1
instance (gs : List Gp) (q : Qn) : Decidable (elQ gs q) := inferInstanceAs (Decidable (_ ∧ _))
def elS (s : Sm) : Prop := (∀ g ∈ s.1, aT g = 0) ∧ ∀ q ∈ s.2.2, elQ s.1 q
instance (s : Sm) : Decidable (elS s) := inferInstanceAs (Decidable (_ ∧ _))
def ak (gs : List Gp) : Bs := ((gs.find? fun g => decide (g.2 ≠ [])).map (·.2)).getD []
def kdQ (gs : List Gp) (vs : List Bs) (q : Qn) : Prop := (gs.getD q.1.toNat default).2 ≠ [] ∨ ∀ t ∈ q.2.2, vs.getD t.2.1.toNat default ≠ []
instance (gs : List Gp) (vs : List Bs) (q : Qn) : Decidable (kdQ gs vs q) := inferInstanceAs (Decidable (_ ∨ _))
def kdS (s : Sm) : Prop := (∀ v ∈ s.2.1, v ≠ []) ∨ (ak s.1 ≠ [] ∧ ∀ g ∈ s.1, ¬ (g.2 ≠ [] ∧ g.2 ≠ ak s.1)) ∧ ∀ q ∈ s.2.2, kdQ s.1 s.2.1 q
instance (s : Sm) : Decidable (kdS s) := inferInstanceAs (Decidable (_ ∨ _))
def dQ (s : Sm) : Int := if ¬ bc s then 3 else if ¬ dD s then 6 else if ¬ elS s then 13 else if ¬ kdS s then 10 else 0
def dL (s : Sm) (w : List Zs) : Int := if ¬ bc s then 3 else if ¬ (∀ x ∈ w, okZ x) then 3 else if dQ s ≠ 0 then dQ s else if w.length ≠ s.2.1.length then 6 else 0
def dB : List Int → Int
 | [] => 0
 | e :: l => if e ≠ 0 then e else dB l
abbrev exT (w : List Zs) (t : Tm) : Zs × Int := ig t.2.2 (w.getD t.2.1.toNat default)
def exQ (w : List Zs) (q : Qn) : List Zs × Int := if dB (q.2.2.map fun t => (exT w t).2) ≠ 0 then ([], dB (q.2.2.map fun t => (exT w t).2)) else (q.2.2.map fun t => (exT w t).1, 0)
def imQ (gs : List Gp) (w : List Zs) (q : Qn) : Bs × Int := if (exQ w q).2 ≠ 0 then ([], (exQ w q).2) else dW (gs.getD q.1.toNat default) (q.2.2.map (·.1)) (exQ w q).1
def imS (s : Sm) (w : List Zs) : List Bs × Int := if dB (s.2.2.map fun q => (imQ s.1 w q).2) ≠ 0 then ([], dB (s.2.2.map fun q => (imQ s.1 w q).2)) else (s.2.2.map fun q => (imQ s.1 w q).1, 0)
def inV (q v : Bs) (x : Zs) : Prop := if v = [] then x.1 = false ∧ val x.2 < val q else val x.2 < val v
instance (q v : Bs) (x : Zs) : Decidable (inV q v x) := by unfold inV; infer_instance
def inR (s : Sm) (w : List Zs) : Prop := ∀ i, i < s.2.1.length → inV (ak s.1) (s.2.1.getD i default) (w.getD i default)
instance (s : Sm) (w : List Zs) : Decidable (inR s w) := inferInstanceAs (Decidable (∀ i, i < s.2.1.length → _))
def cn (s : Sm) (w : List Zs) : Bool × Int :=
 if dL s w ≠ 0 then (false, dL s w) else if ¬ inR s w then (false, 0) else if (imS s w).2 ≠ 0 then (false, (imS s w).2) else (decide ((imS s w).1 = s.2.2.map (·.2.1)), 0)
theorem mI {l : List Int} : dB l = 0 ↔ ∀ e ∈ l, e = 0 := by
 induction l with
 | nil => simp [dB]
 | cons e l ih =>
  rw [dB]; split
  ·rename_i h; simp [h]
  ·rename_i h; rw [ih]; simp; intro _; exact Ah.1 h
theorem vp {a b : List Int} (h : ∀ e ∈ a, e = 0) : dB (a ++ b) = dB b := by
 induction a with
 | nil => rfl
 | cons e l ih => rw [List.cons_append, dB, Aa (by simp [h e]), ih fun x hx => h x (Cu _ hx)]
theorem aA {α : Type} [Inhabited α] {l : List α} {i : Nat} (h : i < l.length) : l.take (i + 1) = l.take i ++ [l.getD i default] := by
 rw [Bv, Ad h, List.getD_eq_getElem?_getD, Ad h]; rfl
theorem oz {α : Type} [Inhabited α] {l : List α} {i : Nat} (h : i < l.length) : l = l.take i ++ l.getD i default :: l.drop (i + 1) := by
 rw [← List.singleton_append, ← Cr, ← aA h, Dt]
theorem n2 {α : Type} [Inhabited α] {l : List α} {f : α → Int} {i : Nat} (h : i < l.length) (h0 : ∀ x ∈ l.take i, f x = 0) (h1 : f (l.getD i default) ≠ 0) : dB (l.map f) = f (l.getD i default) := by
 conv => lhs; rw [oz h]
 rw [Bu, vp (by intro e he; obtain ⟨x, hx, rfl⟩ := Ch.1 he; exact h0 x hx), Ds, dB, Ae h1]
theorem i6 {α : Type} {l : List α} {f : α → Int} (h0 : ∀ x ∈ l, f x = 0) : dB (l.map f) = 0 := mI.2 (by simpa using h0)
theorem qA (l : List QA) (i : Nat) : (l.map (·.1)).getD i default = (l.getD i default).1 := by
 rw [List.getD_eq_getElem?_getD, List.getD_eq_getElem?_getD, A4]; cases l[i]? <;> rfl
theorem cN {l : List QA} {p : Qn → Prop} : (∀ q ∈ l.map (·.1), p q) ↔ ∀ q ∈ l, p q.1 := by simp
theorem nE {gs : List Gp} {i : Nat} (h : i < gs.length) (h0 : ∀ g ∈ gs.take i, g.2 = []) (h1 : (gs.getD i default).2 ≠ []) : ak gs = (gs.getD i default).2 := by
 have e : gs.find? (fun g => decide (g.2 ≠ [])) = some (gs.getD i default) := by
  conv => lhs; rw [oz h]
  rw [List.find?_append, List.find?_eq_none.2 (by simpa using h0), List.find?_cons_of_pos (by simpa using h1)]; rfl
 rw [ak, e]; rfl
theorem lf {gs : List Gp} (h0 : ∀ g ∈ gs, g.2 = []) : ak gs = [] := by
 rw [ak, List.find?_eq_none.2 (by simpa using h0)]; rfl
theorem cm {gs : List Gp} (h : ∀ g ∈ gs, okG g) : okN (ak gs) := by
 rw [ak]; cases e : gs.find? (fun g => decide (g.2 ≠ [])) with
 | none => exact qF
 | some g => exact (h g (List.mem_of_find?_eq_some e)).2
def ixP {α : Type} (p : α → Bool) (l : List α) : Int := if l.any p = true then (l.findIdx p : Int) else -1
theorem dO {α : Type} {p : α → Bool} {l : List α} : decide (ixP p l ≥ 0) = l.any p := by
 rw [ixP]; split
 ·rename_i h; simp [h]
 ·rename_i h; simpa using h
theorem e8 {α : Type} {p : α → Bool} {l : List α} (h : ∀ x ∈ l, p x = false) : ixP p l = -1 := by
 rw [ixP, Aa (by simpa using h)]
theorem ik {α : Type} [Inhabited α] {p : α → Bool} {l : List α} {i : Nat} (hi : i < l.length) (h0 : ∀ x ∈ l.take i, p x = false) (h1 : p (l.getD i default) = true) : ixP p l = i := by
 have e : l.getD i default = l[i] := by rw [List.getD_eq_getElem?_getD, Ad hi]; rfl
 rw [ixP, Ae (List.any_eq_true.2 ⟨_, aj l i hi, h1⟩)]
 congr 1
 rw [List.findIdx_eq hi]
 refine ⟨by rw [← e]; exact h1, fun j hj => ?_⟩
 exact h0 _ (List.mem_take_iff_getElem.2 ⟨j, by omega, rfl⟩)
theorem fI (v : Value) (cs : Array Value) : (#[] : Array Value) ++ [v].toArray ++ cs = #[v] ++ cs := by simp
theorem DV {l : List Tm} {a : Option Addr} {c : Nat} {fk : FuncId} {cs : Array Value} {p : Tm → Bool} {w : World} {ok : Nat → Prop} (hF1 : (Fact.sl a (l.flatMap tmC)).holds ok w) (hl : l.length ≤ 100000) (hgo : ey Tryz.prog fk = true) (hfn : ∀ x ∈ l, ∀ w', Below w.heap.size w w' → Calls Tryz.prog fk (#[.agg (tmC x).toArray] ++ cs) w' fun e w2 => e = .returned (.bool (p x)) ∧ Below w'.heap.size w' w2) :
  Cw 286 #[.slice a l.length c, .func (.func fk) #[] cs] w (.int .i64 (ixP p l)) := by
 refine En [Fact.sl a (l.flatMap tmC)] [(0, .slice a l.length c), (1, .func (.func fk) #[] cs)] Tryz.func286 I Tryz.ntmps286 I (Ac I (Ac I (An _))) (Fc (af hF1) Fn) (Cs (FM ?_)); refine Yo I u82 (FB ?_)
 rintro i hinv1; (try dsimp only at hinv1 ⊢)
 obtain ⟨hi, hok⟩ := hinv1
 refine ne (fun hc9 => ?_) (fun hc9 => ?_)
 ·have hil : i < l.length := by omega
  refine FO ?_; refine Km I (FN ?_); refine Km I (Km I (Ga ?_))
  refine Gf ?_
  refine F8 (fun hc16 => ?_) (fun hc16 => ?_)
  ·refine Cs (Km I (le ?_)); refine FE ?_; exact Iy
  ·refine Ck (Xd (Xa (Cg (Kq I (Rz I I I (by omega)) (Km I (Nn (Ly (i + 1) (by (try dsimp only); omega) (S3 I I I) (by refine (Sc ?_ (S0 _)) <;> (rfl)) ?_ (fun _ h => h)))))))); (try dsimp only); exact ⟨hil, ax hil hok (by simpa using hc16)⟩
 ·refine Fq ?_
  obtain rfl : i = l.length := by omega
  rw [Ai] at hok
  refine Xa (Cs (le ?_))
  exact IL
theorem y4 {l : List Tm} {a : Option Addr} {c : Nat} {fk : FuncId} {cs : Array Value} {p : Tm → Bool} {w : World} {ok : Nat → Prop} (hF1 : (Fact.sl a (l.flatMap tmC)).holds ok w) (hl : l.length ≤ 100000) (hgo : ey Tryz.prog fk = true) (hfn : ∀ x ∈ l, ∀ w', Below w.heap.size w w' → Calls Tryz.prog fk (#[.agg (tmC x).toArray] ++ cs) w' fun e w2 => e = .returned (.bool (p x)) ∧ Below w'.heap.size w' w2) :
  Cw 246 #[.slice a l.length c, .func (.func fk) #[] cs] w (.bool (l.any p)) := by
 refine En [Fact.sl a (l.flatMap tmC)] [(0, .slice a l.length c), (1, .func (.func fk) #[] cs)] Tryz.func246 I Tryz.ntmps246 I (Ac I (Ac I (An _))) (Fc (af hF1) Fn) (Cs (FN ?_)); refine Km I (Kc I (fun w hS => DV (fk := fk) (cs := cs) (p := p) (by (exact hS.sl)) (by exact hl) (by exact hgo) (by exact fun x hx w' hb => hfn x hx w' (hS.below.trans (hb.mono hS.below.size)))) (Yh I (le ?_)))
 exact IP
theorem DW {l : List QA} {a : Option Addr} {c : Nat} {fk : FuncId} {cs : Array Value} {p : QA → Bool} {w : World} {ok : Nat → Prop} (hF1 : (Fact.sl a (l.flatMap qaC)).holds ok w) (hl : l.length ≤ 100000) (hgo : ey Tryz.prog fk = true) (hfn : ∀ x ∈ l, ∀ w', Below w.heap.size w w' → Calls Tryz.prog fk (#[.agg (qaC x).toArray] ++ cs) w' fun e w2 => e = .returned (.bool (p x)) ∧ Below w'.heap.size w' w2) :
  Cw 285 #[.slice a l.length c, .func (.func fk) #[] cs] w (.int .i64 (ixP p l)) := by
 refine En [Fact.sl a (l.flatMap qaC)] [(0, .slice a l.length c), (1, .func (.func fk) #[] cs)] Tryz.func285 I Tryz.ntmps285 I (Ac I (Ac I (An _))) (Fc (af hF1) Fn) (Cs (FM ?_)); refine Yo I u41 (FB ?_)
 rintro i hinv1; (try dsimp only at hinv1 ⊢)
 obtain ⟨hi, hok⟩ := hinv1
 refine ne (fun hc9 => ?_) (fun hc9 => ?_)
 ·have hil : i < l.length := by omega
  refine FO ?_; refine Km I (FN ?_); refine Km I (Km I (FA ?_))
  refine FH ?_
  refine F8 (fun hc16 => ?_) (fun hc16 => ?_)
  ·refine Cs (Km I (le ?_)); refine FE ?_; exact Iy
  ·refine Ck (Xd (Xa (Cg (Kq I (Rz I I I (by omega)) (Km I (Nn (Ly (i + 1) (by (try dsimp only); omega) (S3 I I I) (by refine (Sc ?_ (S0 _)) <;> (rfl)) ?_ (fun _ h => h)))))))); (try dsimp only); exact ⟨hil, ax hil hok (by simpa using hc16)⟩
 ·refine Fq ?_
  obtain rfl : i = l.length := by omega
  rw [Ai] at hok
  refine Xa (Cs (le ?_))
  exact IL
theorem EM {l : List QA} {a : Option Addr} {c : Nat} {fk : FuncId} {cs : Array Value} {p : QA → Bool} {w : World} {ok : Nat → Prop} (hF1 : (Fact.sl a (l.flatMap qaC)).holds ok w) (hl : l.length ≤ 100000) (hgo : ey Tryz.prog fk = true) (hfn : ∀ x ∈ l, ∀ w', Below w.heap.size w w' → Calls Tryz.prog fk (#[.agg (qaC x).toArray] ++ cs) w' fun e w2 => e = .returned (.bool (p x)) ∧ Below w'.heap.size w' w2) :
  Cw 244 #[.slice a l.length c, .func (.func fk) #[] cs] w (.bool (l.any p)) := by
 refine En [Fact.sl a (l.flatMap qaC)] [(0, .slice a l.length c), (1, .func (.func fk) #[] cs)] Tryz.func244 I Tryz.ntmps244 I (Ac I (Ac I (An _))) (Fc (af hF1) Fn) (Cs (FN ?_)); refine Km I (Kc I (fun w hS => DW (fk := fk) (cs := cs) (p := p) (by (exact hS.sl)) (by exact hl) (by exact hgo) (by exact fun x hx w' hb => hfn x hx w' (hS.below.trans (hb.mono hS.below.size)))) (Yh I (le ?_)))
 exact IP
theorem DU {l : List Bs} {a : Option Addr} {c : Nat} {fk : FuncId} {cs : Array Value} {p : Bs → Bool} {w : World} {ok : Nat → Prop} (hF1 : (Fact.sl a (l.flatMap vrC)).holds ok w) (hl : l.length ≤ 100000) (hgo : ey Tryz.prog fk = true) (hfn : ∀ x ∈ l, ∀ w', Below w.heap.size w w' → Calls Tryz.prog fk (#[.agg (vrC x).toArray] ++ cs) w' fun e w2 => e = .returned (.bool (p x)) ∧ Below w'.heap.size w' w2) :
  Cw 268 #[.slice a l.length c, .func (.func fk) #[] cs] w (.int .i64 (ixP p l)) := by
 refine En [Fact.sl a (l.flatMap vrC)] [(0, .slice a l.length c), (1, .func (.func fk) #[] cs)] Tryz.func268 I Tryz.ntmps268 I (Ac I (Ac I (An _))) (Fc (af hF1) Fn) (Cs (FM ?_)); refine Yo I u40 (FB ?_)
 rintro i hinv1; (try dsimp only at hinv1 ⊢)
 obtain ⟨hi, hok⟩ := hinv1
 refine ne (fun hc9 => ?_) (fun hc9 => ?_)
 ·have hil : i < l.length := by omega
  refine FO ?_; refine Km I (FN ?_); refine Km I (Km I (FG ?_))
  refine Fu ?_
  refine F8 (fun hc16 => ?_) (fun hc16 => ?_)
  ·refine Cs (Km I (le ?_)); refine FE ?_; exact Iy
  ·refine Ck (Xd (Xa (Cg (Kq I (Rz I I I (by omega)) (Km I (Nn (Ly (i + 1) (by (try dsimp only); omega) (S3 I I I) (by refine (Sc ?_ (S0 _)) <;> (rfl)) ?_ (fun _ h => h)))))))); (try dsimp only); exact ⟨hil, ax hil hok (by simpa using hc16)⟩
 ·refine Fq ?_
  obtain rfl : i = l.length := by omega
  rw [Ai] at hok
  refine Xa (Cs (le ?_))
  exact IL
theorem EL {l : List Bs} {a : Option Addr} {c : Nat} {fk : FuncId} {cs : Array Value} {p : Bs → Bool} {w : World} {ok : Nat → Prop} (hF1 : (Fact.sl a (l.flatMap vrC)).holds ok w) (hl : l.length ≤ 100000) (hgo : ey Tryz.prog fk = true) (hfn : ∀ x ∈ l, ∀ w', Below w.heap.size w w' → Calls Tryz.prog fk (#[.agg (vrC x).toArray] ++ cs) w' fun e w2 => e = .returned (.bool (p x)) ∧ Below w'.heap.size w' w2) :
  Cw 215 #[.slice a l.length c, .func (.func fk) #[] cs] w (.bool (l.any p)) := by
 refine En [Fact.sl a (l.flatMap vrC)] [(0, .slice a l.length c), (1, .func (.func fk) #[] cs)] Tryz.func215 I Tryz.ntmps215 I (Ac I (Ac I (An _))) (Fc (af hF1) Fn) (Cs (FN ?_)); refine Km I (Kc I (fun w hS => DU (fk := fk) (cs := cs) (p := p) (by (exact hS.sl)) (by exact hl) (by exact hgo) (by exact fun x hx w' hb => hfn x hx w' (hS.below.trans (hb.mono hS.below.size)))) (Yh I (le ?_)))
 exact IP
theorem yV {l : List Gp} {a : Option Addr} {c : Nat} {fk : FuncId} {cs : Array Value} {p : Gp → Bool} {w : World} {ok : Nat → Prop} (hF1 : (Fact.sl a (l.flatMap gpC)).holds ok w) (hl : l.length ≤ 100000) (hgo : ey Tryz.prog fk = true) (hfn : ∀ x ∈ l, ∀ w', Below w.heap.size w w' → Calls Tryz.prog fk (#[.agg (gpC x).toArray] ++ cs) w' fun e w2 => e = .returned (.bool (p x)) ∧ Below w'.heap.size w' w2) :
  Cw 68 #[.slice a l.length c, .func (.func fk) #[] cs] w (.int .i64 (ixP p l)) := by
 refine En [Fact.sl a (l.flatMap gpC)] [(0, .slice a l.length c), (1, .func (.func fk) #[] cs)] Tryz.func68 I Tryz.ntmps68 I (Ac I (Ac I (An _))) (Fc (af hF1) Fn) (Cs (FM ?_)); refine Yo I u39 (FB ?_)
 rintro i hinv1; (try dsimp only at hinv1 ⊢)
 obtain ⟨hi, hok⟩ := hinv1
 refine ne (fun hc9 => ?_) (fun hc9 => ?_)
 ·have hil : i < l.length := by omega
  refine FO ?_; refine Km I (FN ?_); refine Km I (Km I (Fv ?_))
  refine FK ?_
  refine F8 (fun hc16 => ?_) (fun hc16 => ?_)
  ·refine Cs (Km I (le ?_)); refine FE ?_; exact Iy
  ·refine Ck (Xd (Xa (Cg (Kq I (Rz I I I (by omega)) (Km I (Nn (Ly (i + 1) (by (try dsimp only); omega) (S3 I I I) (by refine (Sc ?_ (S0 _)) <;> (rfl)) ?_ (fun _ h => h)))))))); (try dsimp only); exact ⟨hil, ax hil hok (by simpa using hc16)⟩
 ·refine Fq ?_
  obtain rfl : i = l.length := by omega
  rw [Ai] at hok
  refine Xa (Cs (le ?_))
  exact IL
theorem EN {l : List Gp} {a : Option Addr} {c : Nat} {fk : FuncId} {cs : Array Value} {p : Gp → Bool} {w : World} {ok : Nat → Prop} (hF1 : (Fact.sl a (l.flatMap gpC)).holds ok w) (hl : l.length ≤ 100000) (hgo : ey Tryz.prog fk = true) (hfn : ∀ x ∈ l, ∀ w', Below w.heap.size w w' → Calls Tryz.prog fk (#[.agg (gpC x).toArray] ++ cs) w' fun e w2 => e = .returned (.bool (p x)) ∧ Below w'.heap.size w' w2) :
  Cw 217 #[.slice a l.length c, .func (.func fk) #[] cs] w (.bool (l.any p)) := by
 refine En [Fact.sl a (l.flatMap gpC)] [(0, .slice a l.length c), (1, .func (.func fk) #[] cs)] Tryz.func217 I Tryz.ntmps217 I (Ac I (Ac I (An _))) (Fc (af hF1) Fn) (Cs (FN ?_)); refine Km I (Kc I (fun w hS => yV (fk := fk) (cs := cs) (p := p) (by (exact hS.sl)) (by exact hl) (by exact hgo) (by exact fun x hx w' hb => hfn x hx w' (hS.below.trans (hb.mono hS.below.size)))) (Yh I (le ?_)))
 exact IP
theorem DT {l : List Zs} {a : Option Addr} {c : Nat} {fk : FuncId} {cs : Array Value} {p : Zs → Bool} {w : World} {ok : Nat → Prop} (hF1 : (Fact.sl a (l.flatMap zc)).holds ok w) (hl : l.length ≤ 100000) (hgo : ey Tryz.prog fk = true) (hfn : ∀ x ∈ l, ∀ w', Below w.heap.size w w' → Calls Tryz.prog fk (#[.agg (zc x).toArray] ++ cs) w' fun e w2 => e = .returned (.bool (p x)) ∧ Below w'.heap.size w' w2) :
  Cw 141 #[.slice a l.length c, .func (.func fk) #[] cs] w (.int .i64 (ixP p l)) := by
 refine En [Fact.sl a (l.flatMap zc)] [(0, .slice a l.length c), (1, .func (.func fk) #[] cs)] Tryz.func141 I Tryz.ntmps141 I (Ac I (Ac I (An _))) (Fc (af hF1) Fn) (Cs (FM ?_)); refine Yo I u31 (FB ?_)
 rintro i hinv1; (try dsimp only at hinv1 ⊢)
 obtain ⟨hi, hok⟩ := hinv1
 refine ne (fun hc9 => ?_) (fun hc9 => ?_)
 ·have hil : i < l.length := by omega
  refine FO ?_; refine Km I (FN ?_); refine Km I (Km I (FI ?_))
  refine Gx ?_
  refine F8 (fun hc16 => ?_) (fun hc16 => ?_)
  ·refine Cs (Km I (le ?_)); refine FE ?_; exact Iy
  ·refine Ck (Xd (Xa (Cg (Kq I (Rz I I I (by omega)) (Km I (Nn (Ly (i + 1) (by (try dsimp only); omega) (S3 I I I) (by refine (Sc ?_ (S0 _)) <;> (rfl)) ?_ (fun _ h => h)))))))); (try dsimp only); exact ⟨hil, ax hil hok (by simpa using hc16)⟩
 ·refine Fq ?_
  obtain rfl : i = l.length := by omega
  rw [Ai] at hok
  refine Xa (Cs (le ?_))
  exact IL
theorem rx {l : List Zs} {a : Option Addr} {c : Nat} {fk : FuncId} {cs : Array Value} {p : Zs → Bool} {w : World} {ok : Nat → Prop} (hF1 : (Fact.sl a (l.flatMap zc)).holds ok w) (hl : l.length ≤ 100000) (hgo : ey Tryz.prog fk = true) (hfn : ∀ x ∈ l, ∀ w', Below w.heap.size w w' → Calls Tryz.prog fk (#[.agg (zc x).toArray] ++ cs) w' fun e w2 => e = .returned (.bool (p x)) ∧ Below w'.heap.size w' w2) :
  Cw 63 #[.slice a l.length c, .func (.func fk) #[] cs] w (.bool (l.any p)) := by
 refine En [Fact.sl a (l.flatMap zc)] [(0, .slice a l.length c), (1, .func (.func fk) #[] cs)] Tryz.func63 I Tryz.ntmps63 I (Ac I (Ac I (An _))) (Fc (af hF1) Fn) (Cs (FN ?_)); refine Km I (Kc I (fun w hS => DT (fk := fk) (cs := cs) (p := p) (by (exact hS.sl)) (by exact hl) (by exact hgo) (by exact fun x hx w' hb => hfn x hx w' (hS.below.trans (hb.mono hS.below.size)))) (Yh I (le ?_)))
 exact IP
section
variable {ds : List Deferred} {P : Program} {o : Oper} {n : Nat} {L : an} {Z : World → Prop} {x y : Operand} {t t2 : TypeId} {xs ys : Array Value} {b : Bool}
theorem zS (hop : o.op = .binOp .neq t x y t2) (hx : ai L x = some (.agg xs)) (hy : ai L y = some (.agg ys)) (hg : P.eqGuardType P.depth t = false) (hr : ∀ w : World, (binOp .eql t (.agg xs) (.agg ys)).run P w = .ok (.bool b) w) : Rd ds P o n L Z (.bool (!b)) :=
 aW hop hx hy (fun w => run_eqGuard_agg w _ _ _ _ _ _ hg) fun w => by
  have := hr w
  rw [run_eql_struct] at this
  rw [run_neq_struct]
  cases h : (Op.equalIn 10000 t (.agg xs) (.agg ys)).run P w with
  | ok c w' => rw [h] at this; simp at this ⊢; exact ⟨by rw [this.1], this.2⟩
  | halt c w' => rw [h] at this; simp at this
end
theorem pb (p q : Bool) (a b : Bs) (w : World) : (binOp .eql 68 (.agg #[.bool p, .string (S a)]) (.agg #[.bool q, .string (S b)])).run Tryz.prog w = .ok (.bool (decide (p = q ∧ a = b))) w := by
 rw [run_eql_struct, run_equalIn_agg w _ _ _ _ (by kernel_rfl) (by kernel_rfl)]
 have h1 : Tryz.prog.underlying 4 = some .bool := by kernel_rfl
 have h2 : Tryz.prog.underlying 22 = some .string := by kernel_rfl
 have hf : (Tryz.prog.fieldsOf 68).toList = [⟨"Neg", 4, 0, false, "", "", 0⟩, ⟨"Abs", 22, 1, false, "", "", 8⟩] := by kernel_rfl
 have e1 : ∀ (u v : Value) (w : World), (part 4 #[u, v] 0).run Tryz.prog w = .ok u w := fun u v w => run_part_plain w (by kernel_rfl) rfl
 have e2 : ∀ (u v : Value) (w : World), (part 22 #[u, v] 1).run Tryz.prog w = .ok v w := fun u v w => run_part_plain w (by kernel_rfl) rfl
 have hb : ∀ (w : World), (Op.equalIn 9999 4 (.bool p) (.bool q)).run Tryz.prog w = .ok (p == q) w := fun w => run_equalIn_bool' w 9998 _ p q h1
 have hs : ∀ (w : World), (Op.equalIn 9999 22 (.string (S a)) (.string (S b))).run Tryz.prog w = .ok (decide (a = b)) w := fun w => by
  rw [run_equalIn_string w 9998 _ _ _ h2, pz]
 rw [hf]
 simp only [Op.eqFields, Sem.run_bind, e1, e2, hb, hs, Result.andThen_ok, Sem.run_ite, Sem.run_pure]
 cases p <;> cases q <;> by_cases h : a = b <;> simp [h]
end Go.Proofs.YtchonigdjamphaaGreatDoor
