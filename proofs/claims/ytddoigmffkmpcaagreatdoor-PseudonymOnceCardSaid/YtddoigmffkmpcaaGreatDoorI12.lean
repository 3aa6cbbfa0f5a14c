/-
  Parts of the walk: Int4 Mo4 Pw1 Pw2 Grp2 Ped Lin0 Gpl.
-/
import Derived.Test.YtddoigmffkmpcaaGreatDoorI11
namespace Go.Proofs.YtddoigmffkmpcaaGreatDoor
open Go.RowKit
set_option linter.unusedSimpArgs false
set_option linter.unusedVariables false
set_option maxHeartbeats 600000
set_option maxRecDepth 20000
def extS (x y : Zs) (q : Bs) : Zs := (subZ x (mulZ (fromZ q) y).1).1
theorem ext1_c {x y : Zs} {q : Bs} {p : Nat} {w : World} {ok : Nat → Prop} (hF1 : (Fact.sl (some ⟨p, 0, none⟩) [.string (S q)]).holds ok w) :
  Cw 156 #[.agg #[.bool x.1, .string (S x.2), .bool y.1, .string (S y.2)], .pointer (some ⟨p, 0, none⟩)] w (.agg #[.bool y.1, .string (S y.2), .bool (extS x y q).1, .string (S (extS x y q).2)]) := by
 refine En [Fact.sl (some ⟨p, 0, none⟩) [.string (S q)]] [(0, .agg #[.bool x.1, .string (S x.2), .bool y.1, .string (S y.2)]), (1, .pointer (some ⟨p, 0, none⟩))] Tryz.func156 rfl Tryz.ntmps156 rfl (Ac rfl (Ac rfl (An _))) (Fc (fact_any hF1) Fn) ?_
 refine Cs ?_
 refine Kh rfl (Oy rfl rfl) ?_
 intro b2
 refine Kh rfl (Oz [.bool false, .string (S []), .bool false, .string (S [])] rfl) ?_
 intro b3
 refine Nt (Cq ?_)
 refine Cf [0, 1, 2, 3, 4, 5, 6, 8, 9, 7, 10] [] [0, 1, 0, 0, 1, 0, 0, 0, 3, 1, 0] (by kernel_rfl) (by kernel_rfl) rfl ?_
 refine Kj rfl (ldt (a := some ⟨p, 0, none⟩) (q := 0) rfl rfl u22 rfl rfl) ?_
 refine Jv rfl rfl rfl rfl rfl (fun ext => Oc rfl rfl (Kv fun w hS => zfrom_c (a := q))) ?_
 refine Kj rfl (Jb rfl rfl rfl u185 (by kernel_rfl : _ = some 2) ?_) ?_
 ·omega
 refine Kj rfl (ldp rfl rfl .tc u61 rfl (by kernel_rfl : _ = some 2) (by rfl) (by rfl)) ?_
 refine Jv rfl rfl rfl rfl rfl (fun ext => Oc rfl rfl (Kv fun w hS => zmul_c (x := fromZ q) (y := y))) ?_
 refine Kj rfl (Rm rfl rfl) (Kj rfl (Re rfl rfl rfl) ?_)
 refine Jf rfl rfl rfl rfl rfl (fr_alloc rfl (v := (.agg #[.bool false, .string (S [])])) (cs := [.bool false, .string (S [])]) (by kernel_rfl) rfl) ?_
 intro b4
 refine WJ.st rfl rfl rfl rfl (staJ rfl rfl rfl ?_ ?_ ?_) ?_
 ·kernel_rfl
 ·simp [Value.oneCell']
 ·rfl
 refine Kj rfl (Re rfl rfl rfl) (Kj rfl (Ra rfl rfl) ?_)
 refine WJ.nil ?_
 refine Nt (Cs ?_)
 refine Kq rfl (Jb rfl rfl rfl u185 (by kernel_rfl : _ = some 2) ?_) ?_
 ·omega
 refine Kq rfl (ldp rfl rfl .tc u61 rfl (by kernel_rfl : _ = some 2) (by rfl) (by rfl)) ?_
 refine Kq rfl (lda rfl rfl .tc u61 rfl ?_) ?_
 ·kernel_rfl
 refine Ku rfl (Oc rfl rfl (Kv fun w hS => zsub_c (x := x) (y := (mulZ (fromZ q) y).1))) ?_
 refine Km rfl (Kq rfl (Re rfl rfl rfl) (Kq rfl (Re rfl rfl rfl) ?_))
 refine Kh rfl (Oz [.bool false, .string (S [])] rfl) ?_
 intro b6
 refine Nu rfl rfl (Sa rfl rfl rfl .tc) ?_
 refine Ka rfl (Nt (Cs ?_))
 refine Kq rfl (Jb rfl rfl rfl u185 (by kernel_rfl : _ = some 2) ?_) ?_
 ·omega
 refine Kq rfl (ldp rfl rfl .tc u61 rfl (by kernel_rfl : _ = some 2) (by rfl) (by rfl)) ?_
 refine Kq rfl (lda rfl rfl .tc u61 rfl ?_) ?_
 ·kernel_rfl
 refine Kq rfl (Kb [[.bool false, .string (S [])], [.bool false, .string (S [])]] rfl rfl) ?_
 refine Nu rfl rfl (Sa rfl rfl rfl .tc) ?_
 refine Nt (Ce ?_)
 exact Rn rfl (.agg rfl .tc u185 rfl (by kernel_rfl) .nil) fun w' hS => ⟨by rfl, hS.below⟩
theorem extS_of {x y : Int} {q : Nat} (hx : x.natAbs < Big) (hy : y.natAbs < Big) (hq : q < Big) (hm : q * y.natAbs < Big) (hs : (x - q * y).natAbs < Big) : extS (ofZ x) (ofZ y) (canon q) = ofZ (x - q * y) := by
 have hm' : ((q : Int) * y).natAbs < Big := by rw [Int.natAbs_mul, Int.natAbs_natCast]; exact hm
 rw [extS, fromZ_of hq, mulZ_of (by rw [Int.natAbs_natCast]; exact hq) hy hm', subZ_ok hx hm' hs]
set_option maxHeartbeats 6000000 in
theorem zext_c {a b : Bs} {w : World} {ok : Nat → Prop} (ha : okN a) (hb : okN b) (hb0 : b ≠ []) :
  Calls Tryz.prog 126 #[.string (S a), .string (S b)] w fun e w' => ∃ gx : Int × Zs, e = .returned (.tuple #[.string (S (canon (Nat.gcd (val a) (val b)))), zV (ofZ gx.1), zV gx.2, .int .i64 0]) ∧ (((val a : Int) * gx.1) % (val b) = (Nat.gcd (val a) (val b) : Int) % (val b) ∧ (Nat.gcd (val a) (val b) = 1 → 0 ≤ gx.1) ∧ gx.1.natAbs < Big) ∧ Below w.heap.size w w' ∧ ∀ x ∈ ([] : List Fact), x.holds (fun b => ok b ∨ w.heap.size ≤ b) w' := by
 have hvb : 0 < val b := Nat.pos_of_ne_zero fun e => hb0 ((val_eq_zero hb.2).1 e)
 have hbB := okN_val hb; have haB := okN_val ha
 have hB1 : 1 < Big := Nat.lt_of_lt_of_le (by decide) big64
 refine enter (S := St (fun b => ok b ∨ w.heap.size ≤ b) w [] ([])) (L := [(0, .string (S a)), (1, .string (S b))]) Tryz.func126 rfl Tryz.ntmps126 rfl (Ac rfl (Ac rfl (An _))) (St.start (fun _ h => Or.inr h) (facts_or Fn)) ?_
 refine Cs (Ka rfl ?_)
 refine Kh rfl (Oz [.bool false, .string (S [])] rfl) ?_
 intro b5
 refine Kh rfl (Oz [.bool false, .string (S [])] rfl) ?_
 intro b6
 refine Ka rfl (Nt (Cq (Cs (Km rfl ?_))))
 refine Ku rfl (Oc rfl rfl (Kv fun w hS => valid_c)) ?_
 refine Ns 23 rfl (v' := .bool true) (by rw [decide_eq_true ha]) ?_
 refine Kq rfl (Rt rfl rfl) (Km rfl (Km rfl ?_))
 refine Ku rfl (Oc rfl rfl (Kv fun w hS => valid_c)) ?_
 refine Ns 27 rfl (v' := .bool true) (by rw [decide_eq_true hb]) ?_
 refine Kq rfl (Rt rfl rfl) (Kq rfl (Rq rfl rfl rfl) (Nt ?_))
 refine Cd rfl (fun h => by cases h) (fun _ => ?_)
 refine Ck (Xa (Cq (Cs (Km rfl (Kq rfl (rd_seq rfl rfl rfl) (Nt ?_))))))
 refine Cd rfl (fun hc33 => by exfalso; (try simp only [sB] at hc33); simp_all) (fun hc33 => ?_)
 (try simp only [sB] at hc33)
 refine Ck (Xa (Cs (Km rfl (Km rfl (Kq rfl (Kb [[.string (S [])], [.string (S [])]] rfl rfl) ?_)))))
 refine Kh rfl (Oz [.string (S []), .string (S [])] rfl) ?_
 intro b8
 refine Nu rfl rfl (Sa rfl rfl rfl .tc) ?_
 refine Nt (Cs ?_)
 refine Ku rfl (Oc rfl rfl (Kv fun w hS => zof_c (n := 1) (by omega) (by omega))) ?_
 refine Ku rfl (Oc rfl rfl (Kv fun w hS => zof_c (n := 0) (by omega) (by omega))) ?_
 refine Kq rfl (Kb [[.bool false, .string (S [])], [.bool false, .string (S [])]] rfl rfl) ?_
 refine Ku rfl (Oc rfl rfl (Kv fun w hS => zof_c (n := 0) (by omega) (by omega))) ?_
 refine Ku rfl (Oc rfl rfl (Kv fun w hS => zof_c (n := 1) (by omega) (by omega))) ?_
 refine Kq rfl (Kb [[.bool false, .string (S [])], [.bool false, .string (S [])]] rfl rfl) ?_
 refine Kh rfl (Oz [.bool false, .string (S []), .bool false, .string (S [])] rfl) ?_
 intro b9
 refine Kh rfl (Oz [.bool false, .string (S []), .bool false, .string (S [])] rfl) ?_
 intro b10
 refine Nu rfl rfl (Sa rfl rfl rfl .tc) ?_
 refine Nu rfl rfl (Sa rfl rfl rfl .tc) ?_
 refine Nt (Cq (Cb ?_))
 refine Lo (σ := Nat × Nat × Int × Int × Int × Int) [(0, _), (1, _), (5, _), (6, _), (8, _), (9, _), (10, _)] (fun gq => []) (fun gq => Euc (val a) (val b) gq.1 gq.2.1 gq.2.2.1 gq.2.2.2.1 gq.2.2.2.2.1 gq.2.2.2.2.2 ∧ gq.1 < Big ∧ gq.2.1 < Big ∧ gq.2.2.1.natAbs ≤ val b ∧ gq.2.2.2.1.natAbs ≤ val b ∧ gq.2.2.2.2.1.natAbs ≤ max (val a) 1 ∧ gq.2.2.2.2.2.natAbs ≤ max (val a) 1) (fun gq => gq.2.1) (fun gq => [⟨some b10, [.bool (ofZ gq.2.2.2.2.1).1, .string (S (ofZ gq.2.2.2.2.1).2), .bool (ofZ gq.2.2.2.2.2).1, .string (S (ofZ gq.2.2.2.2.2).2)], 185⟩, ⟨some b9, [.bool (ofZ gq.2.2.1).1, .string (S (ofZ gq.2.2.1).2), .bool (ofZ gq.2.2.2.1).1, .string (S (ofZ gq.2.2.2.1).2)], 185⟩, ⟨some b8, [.string (S (canon gq.1)), .string (S (canon gq.2.1))], 184⟩, ⟨some b6, [.bool false, .string (S [])], 61⟩, ⟨some b5, [.bool false, .string (S [])], 61⟩]) (fun gq => []) (val a, val b, 1, 0, 0, 1) (S7 rfl rfl rfl rfl rfl rfl rfl) (S0 _) (by (try dsimp only); exact ⟨euc_start _ _, haB, hbB, by omega, by omega, by omega, by omega⟩) (by exact fun w h => by rw [ok_canon ha, ok_canon hb]; exact h) ?_
 rintro ⟨r0, r1, x0, x1, y0, y1⟩ hinv1; (try dsimp only at hinv1 ⊢)
 obtain ⟨hE, hr0, hr1, hx0, hx1, hy0, hy1⟩ := hinv1
 refine Cq (Cs ?_)
 refine Kq rfl (Jb rfl rfl rfl u184 (by kernel_rfl : _ = some 1) ?_) ?_
 ·omega
 refine Kq rfl (Ld rfl rfl .tc u22) ?_
 refine Kq rfl (rd_sne rfl rfl rfl) (Nt ?_)
 refine Cd rfl (fun hc48 => ?_) (fun hc48 => ?_)
 ·(try simp only [sB] at hc48)
  have hr1p : 0 < r1 := by
   rcases Nat.eq_zero_or_pos r1 with h | h
   ·subst h; simp [canon_zero] at hc48
   ·exact h
  have hE' := euc_step hE hr1p
  obtain ⟨hm1, hm2⟩ := euc_mul hE hr1p
  obtain ⟨hl1, hl2⟩ := euc_le hE' hr1p
  have hdv := divN_of hr0 hr1 hr1p
  have hdl := Nat.div_le_self r0 r1
  have hml := Nat.mod_lt r0 hr1p
  have hex := extS_of (x := x0) (y := x1) (q := r0 / r1) (by omega) (by omega) (by omega) (by omega) (by omega)
  have hey := extS_of (x := y0) (y := y1) (q := r0 / r1) (by omega) (by omega) (by omega) (by omega) (by omega)
  refine Ck (Xa (Cb (Cs ?_)))
  refine Kq rfl (Jb rfl rfl rfl u184 (by kernel_rfl : _ = some 1) ?_) ?_
  ·omega
  refine Kq rfl (Ld rfl rfl .tc u22) ?_
  refine Kq rfl (Jb rfl rfl rfl u184 (by kernel_rfl : _ = some 1) ?_) ?_
  ·omega
  refine Kq rfl (Ld rfl rfl .tc u22) ?_
  refine Ku rfl (Oc rfl rfl (Kv fun w hS => (by have := divmod_c (w := w) (a := canon r0) (b := canon r1); rw [hdv] at this; exact this))) ?_
  refine Km rfl (Kq rfl (Re rfl rfl rfl) (Kq rfl (Re rfl rfl rfl) (Kq rfl (Re rfl rfl rfl) ?_)))
  refine Kh rfl (Oa rfl (v := (.string (S []))) (cs := [.string (S [])]) (by kernel_rfl) rfl) ?_
  intro b11
  refine Ng rfl rfl (st rfl rfl rfl .tc (by kernel_rfl) rfl ?_ (by (simp only [List.set_cons_zero, List.set_cons_succ]; rfl))) ?_
  ·decide
  intro _
  refine Ka rfl (Ka rfl (Nt (Cs (Kq rfl (rd_mkf rfl rfl rfl) (Ka rfl (Nt (Cs ?_)))))))
  refine Kq rfl (Jb rfl rfl rfl u184 (by kernel_rfl : _ = some 1) ?_) ?_
  ·omega
  refine Kq rfl (Ld rfl rfl .tc u22) ?_
  refine Km rfl (Kq rfl (Kb [[.string (S [])], [.string (S [])]] rfl rfl) ?_)
  refine Nu rfl rfl (Sa rfl rfl rfl .tc) ?_
  refine Nt ?_
  refine Cf [0, 1, 2, 3, 4, 5] [6, 7] [0, 0, 1, 0, 0, 1, 2, 2] (by kernel_rfl) (by kernel_rfl) rfl ?_
  refine Kj rfl (Rm rfl rfl) ?_
  refine Kj rfl (lda rfl rfl .tc u185 rfl ?_) ?_
  ·kernel_rfl
  refine Jv rfl rfl rfl rfl rfl (fun ext => og_callv rfl rfl rfl (by kernel_rfl) rfl (Kv fun w hS => ext1_c (x := ofZ x0) (y := ofZ x1) (q := canon (r0 / r1)) (p := b11) (by (exact hS.os)))) ?_
  refine Kj rfl (Rm rfl rfl) ?_
  refine Kj rfl (lda rfl rfl .tc u185 rfl ?_) ?_
  ·kernel_rfl
  refine Jv rfl rfl rfl rfl rfl (fun ext => og_callv rfl rfl rfl (by kernel_rfl) rfl (Kv fun w hS => ext1_c (x := ofZ y0) (y := ofZ y1) (q := canon (r0 / r1)) (p := b11) (by (exact hS.os)))) ?_
  refine WJ.nil ?_
  refine Nu rfl rfl (Sa rfl rfl rfl .tc) ?_
  refine Nu rfl rfl (Sa rfl rfl rfl .tc) ?_
  refine Nn (Xd ?_)
  refine Lx ((r1, r0 % r1, x1, x0 - (r0 / r1 : Nat) * x1, y1, y0 - (r0 / r1 : Nat) * y1)) (by (try dsimp only); exact hml) (S7 rfl rfl rfl rfl rfl rfl rfl) (S0 _) ?_ (by rw [← hex, ← hey]; exact st_sub)
  (try dsimp only)
  exact ⟨hE', hr1, by omega, hx1, hl1, hy1, by omega⟩
 ·(try simp only [sB] at hc48)
  refine Cx (Xc (Xc (Xe ?_)))
  obtain rfl : r1 = 0 := by
   rcases Nat.eq_zero_or_pos r1 with h | h
   ·exact h
   ·exfalso; have : canon r1 ≠ [] := by rw [ne_eq, canon_nil]; omega
    simp_all
  obtain rfl : r0 = Nat.gcd (val a) (val b) := by rw [← hE.gc, Nat.gcd_zero_right]
  obtain ⟨gd, hg⟩ : ∃ gd, gd = Nat.gcd (val a) (val b) := ⟨_, rfl⟩
  have hg0 : 0 < gd := by rw [hg]; exact Nat.gcd_pos_of_pos_right _ hvb
  have hda : val a = val a / gd * gd := by rw [Nat.div_mul_cancel]; rw [hg]; exact Nat.gcd_dvd_left _ _
  have hdb : val b = val b / gd * gd := by rw [Nat.div_mul_cancel]; rw [hg]; exact Nat.gcd_dvd_right _ _
  have he0 := hE.e0
  rw [← hg] at he0 hr0 ⊢
  have hbl := Nat.div_le_self (val b) gd; have hal := Nat.div_le_self (val a) gd
  have hdvb : divN b (canon gd) = ((canon (val b / gd), canon (val b % gd)), 0) := by rw [divN_ok hb (okN_can (by omega)) (by rw [ne_eq, canon_nil]; omega), val_canon]
  have hdva : divN a (canon gd) = ((canon (val a / gd), canon (val a % gd)), 0) := by rw [divN_ok ha (okN_can (by omega)) (by rw [ne_eq, canon_nil]; omega), val_canon]
  have key : ∀ (X : Int) (q : Int), X * val a = x0 * val a + q * val b → ((val a : Int) * X) % (val b) = (gd : Int) % (val b) := fun X q h => by
   have e : (val a : Int) * X = gd + val b * (q - y0) := by
    rw [Int.mul_comm (val a : Int) X, h, ← he0, Int.mul_sub, Int.mul_comm q, Int.mul_comm x0]; omega
   rw [e, Int.add_mul_emod_self_left]
  refine Xa (Cs ?_)
  refine Kq rfl (Jb rfl rfl rfl u184 (by kernel_rfl : _ = some 1) ?_) ?_
  ·omega
  refine Kq rfl (Ld rfl rfl .tc u22) ?_
  refine Ka rfl (Nt ?_)
  refine WC.joinO (σ := Int × Zs) [(5, _), (6, _), (9, _), (10, _), (15, _)] (fun gq => []) (fun gq => ((val a : Int) * gq.1) % (val b) = (gd : Int) % (val b) ∧ (gd = 1 → 0 ≤ gq.1) ∧ gq.1.natAbs < Big) (fun gq => [⟨some b10, [.bool gq.2.1, .string (S gq.2.2), .bool (ofZ y1).1, .string (S (ofZ y1).2)], 185⟩, ⟨some b9, [.bool (ofZ gq.1).1, .string (S (ofZ gq.1).2), .bool (ofZ x1).1, .string (S (ofZ x1).2)], 185⟩, ⟨some b6, [.bool false, .string (S [])], 61⟩, ⟨some b5, [.bool false, .string (S [])], 61⟩]) (fun gq => []) (S5 rfl rfl rfl rfl rfl) ?_ ?_
  ·skip
   refine Cs ?_
   refine Kq rfl (Jb rfl rfl rfl u185 (by kernel_rfl : _ = some 2) ?_) ?_
   ·omega
   (refine Kq rfl (rd_fa rfl rfl u61 rfl (by kernel_rfl) (by (try simp only [sN, Int.reduceToNat, Nat.reduceAdd, Nat.reduceMul, Nat.reduceSub]); rfl)) ?_)
   refine Kq rfl (Ld rfl rfl .tc u4) ?_
   refine Nt ?_
   refine Cd rfl (fun hc73 => ?_) (fun hc73 => ?_)
   ·(try simp only [sB] at hc73)
    have hneg : x0 < 0 := by rw [ofZ_eq] at hc73; simpa using hc73
    have aux : ∀ u : Nat, u ≤ val b → (x0 + (u : Int)).natAbs < Big := fun u hu => by omega
    have hadx : addZ (ofZ x0) (ofZ ((val b / gd : Nat) : Int)) = (ofZ (x0 + (val b / gd : Nat)), 0) := by
     rw [addZ_of (by omega) (by rw [Int.natAbs_natCast]; exact Nat.lt_of_le_of_lt hbl hbB), if_pos (aux _ hbl)]
    refine Cs (Km rfl (Km rfl ?_))
    refine Ku rfl (Oc rfl rfl (Kv fun w hS => (by have := divmod_c (w := w) (a := b) (b := canon gd); rw [hdvb] at this; exact this))) ?_
    refine Km rfl (Kq rfl (Re rfl rfl rfl) (Kq rfl (Re rfl rfl rfl) (Kq rfl (Re rfl rfl rfl) (Ka rfl (Ka rfl (Ka rfl (Nt (Cs (Km rfl (Km rfl ?_))))))))))
    refine Ku rfl (Oc rfl rfl (Kv fun w hS => (by have := divmod_c (w := w) (a := a) (b := canon gd); rw [hdva] at this; exact this))) ?_
    refine Km rfl (Kq rfl (Re rfl rfl rfl) (Kq rfl (Re rfl rfl rfl) (Kq rfl (Re rfl rfl rfl) (Ka rfl (Ka rfl (Ka rfl (Nt (Cq ?_))))))))
    refine WC.ordersP [(5, _), (6, _), (9, _), (10, _), (15, _), (19, _)] ([⟨some b10, [.bool (ofZ y0).1, .string (S (ofZ y0).2), .bool (ofZ y1).1, .string (S (ofZ y1).2)], 185⟩, ⟨some b9, [.bool (ofZ (x0 + (val b / gd : Nat))).1, .string (S (ofZ (x0 + (val b / gd : Nat))).2), .bool (ofZ x1).1, .string (S (ofZ x1).2)], 185⟩, ⟨some b8, [.string (S (canon gd)), .string (S (canon 0))], 184⟩, ⟨some b6, [.bool false, .string (S [])], 61⟩, ⟨some b5, [.bool false, .string (S [])], 61⟩]) ([]) (S6 rfl rfl rfl rfl rfl rfl) [[0, 1, 2, 3, 4, 5, 6, 7, 8, 9], [0, 1, 2, 3, 4, 5, 6, 8, 7, 9], [0, 1, 2, 3, 4, 5, 6, 8, 9, 7], [0, 1, 2, 3, 4, 5, 7, 6, 8, 9], [0, 2, 1, 3, 4, 5, 6, 7, 8, 9], [0, 2, 1, 3, 4, 5, 6, 8, 7, 9], [0, 2, 1, 3, 4, 5, 6, 8, 9, 7], [0, 2, 1, 3, 4, 5, 7, 6, 8, 9], [0, 2, 3, 1, 4, 5, 6, 7, 8, 9], [0, 2, 3, 1, 4, 5, 6, 8, 7, 9], [0, 2, 3, 1, 4, 5, 6, 8, 9, 7], [0, 2, 3, 1, 4, 5, 7, 6, 8, 9], [2, 0, 1, 3, 4, 5, 6, 7, 8, 9], [2, 0, 1, 3, 4, 5, 6, 8, 7, 9], [2, 0, 1, 3, 4, 5, 6, 8, 9, 7], [2, 0, 1, 3, 4, 5, 7, 6, 8, 9], [2, 0, 3, 1, 4, 5, 6, 7, 8, 9], [2, 0, 3, 1, 4, 5, 6, 8, 7, 9], [2, 0, 3, 1, 4, 5, 6, 8, 9, 7], [2, 0, 3, 1, 4, 5, 7, 6, 8, 9], [2, 3, 0, 1, 4, 5, 6, 7, 8, 9], [2, 3, 0, 1, 4, 5, 6, 8, 7, 9], [2, 3, 0, 1, 4, 5, 6, 8, 9, 7], [2, 3, 0, 1, 4, 5, 7, 6, 8, 9]] (by kernel_rfl) (by kernel_rfl) (by simp only [pickOps, List.map, List.getElem?_cons_zero, List.getElem?_cons_succ]; rfl) ?_ ?_
    ·repeat' (first | exact AllL.nil | refine AllL.cons ?_ ?_)
     all_goals (repeat (first | (refine Km rfl ?_) | (refine Kq rfl (Jb rfl rfl rfl u185 (by kernel_rfl : _ = some 2) ?_) ?_; focus omega) | (refine Kq rfl (ldp rfl rfl .tc u61 rfl (by kernel_rfl : _ = some 2) (by rfl) (by rfl)) ?_) | (refine Kh rfl (Oc rfl rfl (Kv fun w hS => (by have := zfrom_c (w := w) (a := canon (val b / gd)); rw [fromZ_of (Nat.lt_of_le_of_lt hbl hbB)] at this; exact this))) ?_; intro _) | (refine Kh rfl (Oc rfl rfl (Kv fun w hS => (by have := zadd_c (w := w) (x := ofZ x0) (y := ofZ ((val b / gd : Nat) : Int)); rw [hadx] at this; exact this))) ?_; intro _) | (refine Kq rfl (Re rfl rfl rfl) ?_) | (refine Ng rfl rfl (stp rfl rfl rfl .tc (by kernel_rfl) (by simp [Value.oneCell']) (by (simp; done)) rfl) ?_; intro _)))
     all_goals (refine Nn ?_; exact WX.midP () (S6 rfl rfl rfl rfl rfl rfl) (by (exact fun _ h => h)))
    refine Xa ?_
    refine WC.ordersP [(5, _), (6, _), (9, _), (10, _), (15, _)] ([⟨some b10, [.bool (subZ (ofZ y0) (ofZ ((val a / gd : Nat) : Int))).1.1, .string (S (subZ (ofZ y0) (ofZ ((val a / gd : Nat) : Int))).1.2), .bool (ofZ y1).1, .string (S (ofZ y1).2)], 185⟩, ⟨some b9, [.bool (ofZ (x0 + (val b / gd : Nat))).1, .string (S (ofZ (x0 + (val b / gd : Nat))).2), .bool (ofZ x1).1, .string (S (ofZ x1).2)], 185⟩, ⟨some b8, [.string (S (canon gd)), .string (S (canon 0))], 184⟩, ⟨some b6, [.bool false, .string (S [])], 61⟩, ⟨some b5, [.bool false, .string (S [])], 61⟩]) ([]) (S5 rfl rfl rfl rfl rfl) [[0, 1, 2, 3, 4, 5, 6, 7, 8, 9], [0, 1, 2, 3, 4, 5, 6, 8, 7, 9], [0, 1, 2, 3, 4, 5, 6, 8, 9, 7], [0, 1, 2, 3, 4, 5, 7, 6, 8, 9], [0, 2, 1, 3, 4, 5, 6, 7, 8, 9], [0, 2, 1, 3, 4, 5, 6, 8, 7, 9], [0, 2, 1, 3, 4, 5, 6, 8, 9, 7], [0, 2, 1, 3, 4, 5, 7, 6, 8, 9], [0, 2, 3, 1, 4, 5, 6, 7, 8, 9], [0, 2, 3, 1, 4, 5, 6, 8, 7, 9], [0, 2, 3, 1, 4, 5, 6, 8, 9, 7], [0, 2, 3, 1, 4, 5, 7, 6, 8, 9], [2, 0, 1, 3, 4, 5, 6, 7, 8, 9], [2, 0, 1, 3, 4, 5, 6, 8, 7, 9], [2, 0, 1, 3, 4, 5, 6, 8, 9, 7], [2, 0, 1, 3, 4, 5, 7, 6, 8, 9], [2, 0, 3, 1, 4, 5, 6, 7, 8, 9], [2, 0, 3, 1, 4, 5, 6, 8, 7, 9], [2, 0, 3, 1, 4, 5, 6, 8, 9, 7], [2, 0, 3, 1, 4, 5, 7, 6, 8, 9], [2, 3, 0, 1, 4, 5, 6, 7, 8, 9], [2, 3, 0, 1, 4, 5, 6, 8, 7, 9], [2, 3, 0, 1, 4, 5, 6, 8, 9, 7], [2, 3, 0, 1, 4, 5, 7, 6, 8, 9]] (by kernel_rfl) (by kernel_rfl) (by simp only [pickOps, List.map, List.getElem?_cons_zero, List.getElem?_cons_succ]; rfl) ?_ ?_
    ·repeat' (first | exact AllL.nil | refine AllL.cons ?_ ?_)
     all_goals (repeat (first | (refine Km rfl ?_) | (refine Kq rfl (Jb rfl rfl rfl u185 (by kernel_rfl : _ = some 2) ?_) ?_; focus omega) | (refine Kq rfl (ldp rfl rfl .tc u61 rfl (by kernel_rfl : _ = some 2) (by rfl) (by rfl)) ?_) | (refine Kh rfl (Oc rfl rfl (Kv fun w hS => (by have := zfrom_c (w := w) (a := canon (val a / gd)); rw [fromZ_of (Nat.lt_of_le_of_lt hal haB)] at this; exact this))) ?_; intro _) | (refine Kh rfl (Oc rfl rfl (Kv fun w hS => zsub_c (x := ofZ y0) (y := ofZ ((val a / gd : Nat) : Int)))) ?_; intro _) | (refine Kq rfl (Re rfl rfl rfl) ?_) | (refine Ng rfl rfl (stp rfl rfl rfl .tc (by kernel_rfl) (by simp [Value.oneCell']) (by (simp; done)) rfl) ?_; intro _)))
     all_goals (refine Nn ?_; exact WX.midP () (S5 rfl rfl rfl rfl rfl) (by (exact fun _ h => h)))
    refine WX.joinO (((x0 + (val b / gd : Nat)), (subZ (ofZ y0) (ofZ ((val a / gd : Nat) : Int))).1)) (S5 rfl rfl rfl rfl rfl) (S0 _) ?_ (by (exact st_sub))
    (try dsimp only)
    exact ⟨key _ (val a / gd : Nat) (by
     rw [Int.add_mul]; congr 1
     have e : val b / gd * val a = val a / gd * val b := by
      conv => lhs; rw [hda]
      conv => rhs; rw [hdb]
      ac_rfl
     exact_mod_cast e), fun h => by rw [h, Nat.div_one]; omega, aux _ hbl⟩
   ·(try simp only [sB] at hc73)
    have hnn : 0 ≤ x0 := by rw [ofZ_eq] at hc73; simpa using hc73
    refine Ck ?_
    refine WX.joinO ((x0, ofZ y0)) (S5 rfl rfl rfl rfl rfl) (S0 _) ?_ (by (exact st_sub))
    (try dsimp only)
    exact ⟨key _ 0 (by omega), fun _ => hnn, by omega⟩
  ·rintro ⟨X, Y⟩ hmeet; (try dsimp only at hmeet ⊢)
   refine Cq ?_
   refine WC.free (K := [⟨some b10, [.bool Y.1, .string (S Y.2), .bool (ofZ y1).1, .string (S (ofZ y1).2)], 185⟩, ⟨some b9, [.bool (ofZ X).1, .string (S (ofZ X).2), .bool (ofZ x1).1, .string (S (ofZ x1).2)], 185⟩]) (fs0 := []) [0, 1, 2, 5, 6, 3, 4] [7, 8] [0, 0, 0, 0, 0, 0, 1, 2, 2] (by kernel_rfl) (by kernel_rfl) rfl ?_
   refine Kj rfl (Rm rfl rfl) ?_
   refine Kj rfl (Jb rfl rfl rfl u185 (by kernel_rfl : _ = some 2) ?_) ?_
   ·omega
   refine Kj rfl (ldp rfl rfl .tc u61 rfl (by kernel_rfl : _ = some 2) (by rfl) (by rfl)) ?_
   refine Kj rfl (Ra rfl rfl) ?_
   refine WJ.st rfl rfl rfl rfl (staJ rfl rfl rfl ?_ ?_ ?_) ?_
   ·kernel_rfl
   ·simp [Value.oneCell']
   ·rfl
   refine Kj rfl (Jb rfl rfl rfl u185 (by kernel_rfl : _ = some 2) ?_) ?_
   ·omega
   refine Kj rfl (ldp rfl rfl .tc u61 rfl (by kernel_rfl : _ = some 2) (by rfl) (by rfl)) ?_
   refine WJ.nil ?_
   refine Nu rfl rfl (Sa rfl rfl rfl .tc) ?_
   refine Ka rfl (Nt (Ce ?_))
   exact Rn rfl (.tmp rfl (.agg rfl .tc u61 rfl (by kernel_rfl) (.agg rfl .tc u61 rfl (by kernel_rfl) (.tmp rfl .nil)))) fun w' hS => ⟨(X, Y), rfl, hmeet, hS.below, fun _ h => by cases h⟩
def invM (a m : Bs) : Bs × Int := if chkM [a] [m] = 0 then (if Nat.gcd (val a) (val m) = 1 then (canon (invN (val a) (val m)), 0) else ([], 9)) else ([], chkM [a] [m])
theorem chk1 {a m : Bs} (h : chkM [a] [m] = 0) : okN a ∧ okN m ∧ m ≠ [] := by
 obtain ⟨h1, h2⟩ := chk_ok h
 exact ⟨h1 a (by simp), h1 m (by simp), fun e => h2 (by simp [e])⟩
theorem gcd_mod (a m : Nat) : Nat.gcd (a % m) m = Nat.gcd a m := by rw [Nat.gcd_comm, gcd_rec']
theorem inv_of_coef {a m : Nat} {X : Int} (hm : 0 < m) (h : ((a : Int) * X) % m = (1 : Int) % m) (h0 : 0 ≤ X) : invN a m = X.natAbs % m := by
 obtain ⟨x, rfl⟩ : ∃ x : Nat, X = x := ⟨X.toNat, by omega⟩
 rw [Int.natAbs_natCast]
 apply invN_eq (Nat.mod_lt _ hm)
 rw [mmr]
 exact_mod_cast h
theorem minv_c {a m : Bs} {w : World} :
  Cw 90 #[.string (S a), .string (S m)] w (NE (invM a m)) := by
 refine En [] [(0, .string (S a)), (1, .string (S m))] Tryz.func90 rfl Tryz.ntmps90 rfl (Ac rfl (Ac rfl (An _))) Fn ?_
 refine Cs (Ka rfl (Ka rfl (Nt (Cq (Cs (Km rfl ?_))))))
 refine Kh rfl (og_bs1 rfl rfl u64 (by kernel_rfl : _ = some (some (.string (S [])), 1, 16)) rfl (by simp only [List.map]; rfl) rfl rfl ?_ (by decide)) ?_
 ·simp [Value.cells]
 intro b12
 refine Km rfl ?_
 refine Kh rfl (og_bs1 rfl rfl u64 (by kernel_rfl : _ = some (some (.string (S [])), 1, 16)) rfl (by simp only [List.map]; rfl) rfl rfl ?_ (by decide)) ?_
 ·simp [Value.cells]
 intro b14
 refine Ku rfl (Oc rfl rfl (Kv fun w hS => check_c (l := [a]) (ms := [m]) (by (exact hS.os)) (by (exact hS.os)) (by (simp <;> omega)) (by (simp <;> omega)) (by (simp <;> omega)) (by (simp <;> omega)))) ?_
 refine Ka rfl (Nt (Cs (Km rfl (Kq rfl (rd_neq rfl rfl rfl) (Nt ?_)))))
 refine Cd rfl (fun hc17 => ?_) (fun hc17 => ?_)
 ·(try simp only [sB] at hc17)
  have hr : invM a m = ([], chkM [a] [m]) := by rw [invM, if_neg (by simpa using hc17)]
  refine Cs (Km rfl (Ka rfl (Ka rfl (Nt (Ce (Xb ?_))))))
  exact R2 rfl rfl rfl (by rw [hr]; rfl)
 ·(try simp only [sB] at hc17)
  have h0 : chkM [a] [m] = 0 := by simpa using hc17
  obtain ⟨ha, hm, hm0⟩ := chk1 h0
  have hp := vpos hm hm0
  have hmB := okN_val hm
  have hak : okN (canon (val a % val m)) := okN_can (by have := Nat.mod_lt (val a) hp; omega)
  have hvk : val (canon (val a % val m)) = val a % val m := val_canon _
  refine Ck (Xa (Cs (Km rfl (Km rfl ?_))))
  refine Ku rfl (Oc rfl rfl (Kv fun w hS => reduced_c (a := a) (m := m) (by exact ha) (by exact hm) (by exact hm0))) ?_
  refine Km rfl ?_
  refine Kh rfl (Oc rfl rfl (keep_ff fun w hS => zext_c (a := canon (val a % val m)) (b := m) (by exact hak) (by exact hm) (by exact hm0))) ?_
  rintro ⟨X24, Y24⟩
  refine WL.pu ?_
  intro hg24; (try dsimp only [List.cons_append, List.nil_append] at hg24 ⊢)
  refine Km rfl (Kq rfl (Re rfl rfl rfl) (Kq rfl (Re rfl rfl rfl) (Kq rfl (Re rfl rfl rfl) (Kq rfl (Re rfl rfl rfl) ?_))))
  refine Kh rfl (Oz [.bool false, .string (S [])] rfl) ?_
  intro b8
  refine Kh rfl (Oz [.bool false, .string (S [])] rfl) ?_
  intro b9
  refine Ka rfl ?_
  refine Nu rfl rfl (Sa rfl rfl rfl .tc) ?_
  refine Nu rfl rfl (Sa rfl rfl rfl .tc) ?_
  refine Ka rfl (Nt (Cq (Cs (Km rfl (Kq rfl (rd_neq rfl rfl rfl) (Nt ?_))))))
  refine Cd rfl (fun hc30 => by exfalso; (try simp only [sB] at hc30); exact hc30 trivial) (fun hc30 => ?_)
  (try simp only [sB] at hc30)
  refine Ck (Xa (Cq (Cs (Km rfl (Kq rfl (rd_sne rfl rfl rfl) (Nt ?_))))))
  refine Cd rfl (fun hc33 => ?_) (fun hc33 => ?_)
  ·(try simp only [sB] at hc33)
   have hr : invM a m = ([], 9) := by
    have h1 : ¬ Nat.gcd (val a) (val m) = 1 := fun h => by
     rw [hvk, gcd_mod, h, one_canon] at hc33; exact hc33 rfl
    rw [invM, if_pos h0, if_neg h1]
   refine Cs (Ka rfl (Ka rfl (Nt (Ce (Xb ?_)))))
   exact R2 rfl rfl rfl (by rw [hr]; rfl)
  ·(try simp only [sB] at hc33)
   have hg1 : Nat.gcd (val a) (val m) = 1 := by
    rw [hvk, gcd_mod] at hc33; exact canon_one.1 (by simpa using hc33)
   obtain ⟨hq1, hq2, hq3⟩ := hg24
   rw [hvk, gcd_mod, hg1] at hq1
   rw [hvk, gcd_mod] at hq2
   have hiv := inv_of_coef hp hq1 (hq2 hg1)
   rw [invN_mod] at hiv
   have hr : invM a m = (canon (invN (val a) (val m)), 0) := by rw [invM, if_pos h0, if_pos hg1]
   have hXa : (ofZ X24).2 = canon X24.natAbs := by rw [ofZ_eq]
   refine Ck (Xa (Cs (Kq rfl (Fa (q := 1) rfl rfl u61 rfl rfl) (Kq rfl (Ld rfl rfl .tc u22) ?_))))
   refine Km rfl ?_
   refine Ku rfl (Oc rfl rfl (Kv fun w hS => reduced_c (a := (ofZ X24).2) (m := m) (by rw [hXa]; exact okN_can hq3) (by exact hm) (by exact hm0))) ?_
   refine Ka rfl (Ka rfl (Nt (Ce ?_)))
   exact R2 rfl rfl rfl (by rw [hr, hiv, hXa, val_canon]; rfl)
theorem invM_ok {a m : Bs} (ha : okN a) (hm : okN m) (hm0 : m ≠ []) : invM a m = if Nat.gcd (val a) (val m) = 1 then (canon (invN (val a) (val m)), 0) else ([], 9) := by
 rw [invM, if_pos (chk_zero (by intro x hx; simp at hx; rcases hx with rfl | rfl <;> assumption) (by simpa using fun h => hm0 h))]
abbrev zc (z : Zs) : List Value := [.bool z.1, .string (S z.2)]
abbrev ints (l : List Zs) : List Value := l.flatMap zc
def chkP (g : Gp) (l : List Bs) (es : List Zs) (same : Bool) : Int :=
 if ¬ (∀ x ∈ l, okN x) then 3 else if ¬ (∀ x ∈ es, okZ x) then 3 else if chkG g ≠ 0 then chkG g else if same = false then 6 else if ¬ (∀ x ∈ l, elG g x) then 13 else 0
theorem checked_c {g : Gp} {l : List Bs} {es : List Zs} {same : Bool} {a b : Option Addr} {c d : Nat} {w : World} {ok : Nat → Prop} (hF1 : (Fact.sl a (strs l)).holds ok w) (hF2 : (Fact.sl b (ints es)).holds ok w) (hl : l.length ≤ 1000000) (hes : es.length ≤ 1000000) (hm8 : g.1.length ≤ 8) :
  Cw 89 #[gV g, .slice a l.length c, .slice b es.length d, .bool same] w (.int .i64 (chkP g l es same)) := by
 refine En [Fact.sl a (strs l), Fact.sl b (ints es)] [(0, gV g), (1, .slice a l.length c), (2, .slice b es.length d), (3, .bool same)] Tryz.func89 rfl Tryz.ntmps89 rfl (Ac rfl (Ac rfl (Ac rfl (Ac rfl (An _))))) (Fc (fact_any hF1) (Fc (fact_any hF2) Fn)) ?_
 refine Cs ?_
 refine Kh rfl (Oy rfl rfl) ?_
 intro b4
 refine Ka rfl (Nt (Cq (Cs (Km rfl (Kq rfl (rd_len rfl rfl u64) (Km rfl (Nt (Cb ?_))))))))
 refine Lp (σ := Nat) [(1, _), (2, _), (3, _), (4, _), (16, _), (17, _)] (fun gq => [(18, .int .i64 (gq : Int))]) (fun gq => gq ≤ l.length ∧ ∀ x ∈ l.take gq, okN x) (fun gq => l.length - gq) (0) (S6 rfl rfl rfl rfl rfl rfl) (S1 rfl) (by (try dsimp only); exact ⟨Nat.zero_le _, by simp⟩) ?_
 rintro i hinv1; (try dsimp only at hinv1 ⊢)
 obtain ⟨hi, hok⟩ := hinv1
 refine Cs (Kq rfl (rd_lss rfl rfl rfl) (Nt (Cq ?_)))
 refine Cd rfl (fun hc19 => ?_) (fun hc19 => ?_)
 ·(try simp only [sB] at hc19)
  have hil : i < l.length := by omega
  refine Ck (Xa (Cq (Cb (Cs ?_))))
  refine Kq rfl (Ib rfl rfl rfl u64 (by omega) (by (rw [List.length_map]; omega))) ?_
  refine Kq rfl (ldm rfl rfl u22 rfl (by assumption)) ?_
  refine Ka rfl (Nt (Cs (Km rfl ?_)))
  refine Ku rfl (Oc rfl rfl (Kv fun w hS => valid_c (a := l.getD i default))) ?_
  refine Kq rfl (Rt rfl rfl) (Nt ?_)
  refine Cd rfl (fun hc24 => ?_) (fun hc24 => ?_)
  ·(try simp only [sB] at hc24)
   refine Cs (Ka rfl (Nt (Ce (Xf (Xb (Xb (Xf (Xb ?_))))))))
   exact R1 rfl rfl (by rw [chkP, if_pos (fun h => absurd (h _ (getD_mem _ _ hil)) (by simpa using hc24))]; rfl)
  ·(try simp only [sB] at hc24)
   refine Ck (Xd (Xa (Cg (Kq rfl (Rz rfl rfl rfl (by omega)) (Km rfl (Nn ?_))))))
   refine Ly (i + 1) (by (try dsimp only); omega) (S6 rfl rfl rfl rfl rfl rfl) (by refine (Sc ?_ (S0 _)) <;> (rfl)) ?_ (by (exact fun _ h => h))
   (try dsimp only)
   exact ⟨hil, all_take hil hok (by simpa using hc24)⟩
 ·(try simp only [sB] at hc19)
  refine Cx (Xc (Xc (Xe ?_)))
  obtain rfl : i = l.length := by omega
  rw [List.take_length] at hok
  refine Xa (Cq (Cs (Km rfl (Kq rfl (rd_len rfl rfl u62) (Km rfl (Nt (Cb ?_)))))))
  refine Lo (σ := Nat) [(1, _), (3, _), (4, _), (26, _), (27, _)] (fun gq => [(28, .int .i64 (gq : Int))]) (fun gq => gq ≤ es.length ∧ ∀ x ∈ es.take gq, okZ x) (fun gq => es.length - gq) (fun gq => [⟨some b4, [.string (S g.1), .string (S g.2)], 24⟩]) (fun gq => [Fact.sl a (strs l), Fact.sl b (ints es)]) (0) (S5 rfl rfl rfl rfl rfl) (S1 rfl) (by (try dsimp only); exact ⟨Nat.zero_le _, by simp⟩) (by (exact fun _ h => h)) ?_
  rintro k hinv2; (try dsimp only at hinv2 ⊢)
  obtain ⟨hk, hokz⟩ := hinv2
  refine Cs (Kq rfl (rd_lss rfl rfl rfl) (Nt (Cq ?_)))
  refine Cd rfl (fun hc29 => ?_) (fun hc29 => ?_)
  ·(try simp only [sB] at hc29)
   have hkl : k < es.length := by omega
   refine Ck (Xa (Cq (Cb (Cs ?_))))
   refine Kq rfl (Ia rfl rfl rfl u62 (by kernel_rfl : _ = some 2) (by omega) (by (rw [flatMap_len _ _ 2 (fun _ => rfl)]; omega))) ?_
   refine Kq rfl (ldma _ rfl rfl u61 rfl (by kernel_rfl : _ = some 2) (fun _ => rfl) (by decide) rfl (by assumption)) ?_
   refine Kh rfl (Oz [.bool false, .string (S [])] rfl) ?_
   intro b12
   refine Nu rfl rfl (Sa rfl rfl rfl .tc) ?_
   refine Nt (Cs ?_)
   refine Kq rfl (lda rfl rfl .tc u61 rfl ?_) ?_
   ·kernel_rfl
   refine Ku rfl (Oc rfl rfl (Kv fun w hS => zvalid_c (x := es.getD k default))) ?_
   refine Kq rfl (Rt rfl rfl) (Nt ?_)
   refine Cd rfl (fun hc34 => ?_) (fun hc34 => ?_)
   ·(try simp only [sB] at hc34)
    refine Cs (Ka rfl (Nt (Ce (Xf (Xb (Xb (Xf (Xb ?_))))))))
    exact R1 rfl rfl (by rw [chkP, if_neg (fun h => h hok), if_pos (fun h => absurd (h _ (getD_mem _ _ hkl)) (by simpa using hc34))]; rfl)
   ·(try simp only [sB] at hc34)
    refine Ck (Xd (Xa (Cg (Kq rfl (Rz rfl rfl rfl (by omega)) (Km rfl (Nn ?_))))))
    refine Lx (k + 1) (by (try dsimp only); omega) (S5 rfl rfl rfl rfl rfl) (by refine (Sc ?_ (S0 _)) <;> (rfl)) ?_ (by (exact st_sub))
    (try dsimp only)
    exact ⟨hkl, all_take hkl hokz (by simpa using hc34)⟩
  ·(try simp only [sB] at hc29)
   refine Cx (Xc (Xc (Xe ?_)))
   obtain rfl : k = es.length := by omega
   rw [List.take_length] at hokz
   refine Xa (Cq (Cs ?_))
   refine Kq rfl (lda rfl rfl .tc u24 rfl ?_) ?_
   ·kernel_rfl
   refine Ku rfl (Oc rfl rfl (Kv fun w hS => pcheck_c (g := g))) ?_
   refine Ka rfl (Nt (Cs (Km rfl (Kq rfl (rd_neq rfl rfl rfl) (Nt ?_)))))
   refine Cd rfl (fun hc39 => ?_) (fun hc39 => ?_)
   ·(try simp only [sB] at hc39)
    refine Cs (Km rfl (Ka rfl (Nt (Ce (Xb ?_)))))
    exact R1 rfl rfl (by rw [chkP, if_neg (fun h => h hok), if_neg (fun h => h hokz), if_pos (by simpa using hc39)]; rfl)
   ·(try simp only [sB] at hc39)
    have hg : chkG g = 0 := by simpa using hc39
    refine Ck (Xa (Cq (Cs (Km rfl (Kq rfl (Rt rfl rfl) (Nt ?_))))))
    refine Cd rfl (fun hc42 => ?_) (fun hc42 => ?_)
    ·(try simp only [sB] at hc42)
     refine Cs (Ka rfl (Nt (Ce (Xb ?_))))
     exact R1 rfl rfl (by rw [chkP, if_neg (fun h => h hok), if_neg (fun h => h hokz), if_neg (fun h => h hg), if_pos (by simpa using hc42)]; rfl)
    ·(try simp only [sB] at hc42)
     refine Ck (Xa (Cq (Cs (Km rfl (Kq rfl (rd_len rfl rfl u64) (Km rfl (Nt (Cb ?_))))))))
     refine Lp (σ := Nat) [(4, _), (43, _), (44, _)] (fun gq => [(45, .int .i64 (gq : Int))]) (fun gq => gq ≤ l.length ∧ ∀ x ∈ l.take gq, elG g x) (fun gq => l.length - gq) (0) (S3 rfl rfl rfl) (S1 rfl) (by (try dsimp only); exact ⟨Nat.zero_le _, by simp⟩) ?_
     rintro i3 hinv3; (try dsimp only at hinv3 ⊢)
     obtain ⟨hi3, hel⟩ := hinv3
     refine Cs (Kq rfl (rd_lss rfl rfl rfl) (Nt (Cq ?_)))
     refine Cd rfl (fun hc46 => ?_) (fun hc46 => ?_)
     ·(try simp only [sB] at hc46)
      have hil3 : i3 < l.length := by omega
      refine Ck (Xa (Cq (Cb (Cs ?_))))
      refine Kq rfl (Ib rfl rfl rfl u64 (by omega) (by (rw [List.length_map]; omega))) ?_
      refine Kq rfl (ldm rfl rfl u22 rfl (by assumption)) ?_
      refine Ka rfl (Nt (Cs ?_))
      refine Kq rfl (lda rfl rfl .tc u24 rfl ?_) ?_
      ·kernel_rfl
      refine Km rfl ?_
      refine Ku rfl (Oc rfl rfl (Kv fun w hS => pwhas0_c (g := g) (x := l.getD i3 default) (by exact hg) (by exact hm8))) ?_
      refine Kq rfl (Rt rfl rfl) (Nt ?_)
      refine Cd rfl (fun hc52 => ?_) (fun hc52 => ?_)
      ·(try simp only [sB] at hc52)
       refine Cs (Ka rfl (Nt (Ce (Xf (Xb (Xb (Xf (Xb ?_))))))))
       exact R1 rfl rfl (by rw [chkP, if_neg (fun h => h hok), if_neg (fun h => h hokz), if_neg (fun h => h hg), if_neg (by simpa using hc42), if_pos (fun h => absurd (h _ (getD_mem _ _ hil3)) (by simpa using hc52))]; rfl)
      ·(try simp only [sB] at hc52)
       refine Ck (Xd (Xa (Cg (Kq rfl (Rz rfl rfl rfl (by omega)) (Km rfl (Nn ?_))))))
       refine Ly (i3 + 1) (by (try dsimp only); omega) (S3 rfl rfl rfl) (by refine (Sc ?_ (S0 _)) <;> (rfl)) ?_ (by (exact fun _ h => h))
       (try dsimp only)
       exact ⟨hil3, all_take hil3 hel (by simpa using hc52)⟩
     ·(try simp only [sB] at hc46)
      refine Cx (Xc (Xc (Xe ?_)))
      obtain rfl : i3 = l.length := by omega
      rw [List.take_length] at hel
      refine Xa (Cs (Ka rfl (Nt (Ce ?_))))
      exact R1 rfl rfl (by rw [chkP, if_neg (fun h => h hok), if_neg (fun h => h hokz), if_neg (fun h => h hg), if_neg (by simpa using hc42), if_neg (fun h => h hel)]; rfl)
theorem mulM_ok {a b m : Bs} (ha : okN a) (hb : okN b) (hm : okN m) (hm0 : m ≠ []) : mulM a b m = (canon (val a * val b % val m), 0) := by
 rw [mulM, if_pos (chk_zero (by intro y hy; simp at hy; rcases hy with rfl | rfl | rfl <;> assumption) (by simpa using fun h => hm0 h))]
theorem ptimes_c {p q : Nat} {out x : Bs} {g : Gp} {en : Ent} {rr : List Ent} {ok : Nat → Prop} {w0 : World} {fs : List Fact} {w : World} (hS0 : St ok w0 (⟨some p, [.string (S out)], 22⟩ :: en :: ⟨some q, [.string (S g.1), .string (S g.2)], 24⟩ :: rr) (fs) w) (ho : okN out) (ho8 : out.length ≤ 8) (hx : okN x) (hx8 : x.length ≤ 8) (hm : okN g.1) (hm0 : g.1 ≠ []) (hm8 : g.1.length ≤ 8) :
  Calls Tryz.prog 92 #[.string (S x), .pointer (some ⟨p, 0, none⟩), .pointer (some ⟨q, 0, none⟩)] w fun e w' => e = .returned (.tuple #[]) ∧ St ok w0 (⟨some p, [.string (S (canon (val out * val x % val g.1)))], 22⟩ :: en :: ⟨some q, [.string (S g.1), .string (S g.2)], 24⟩ :: rr) (fs) w' := by
 refine enter (S := St ok w0 (⟨some p, [.string (S out)], 22⟩ :: en :: ⟨some q, [.string (S g.1), .string (S g.2)], 24⟩ :: rr) (fs)) (L := [(0, .string (S x)), (1, .pointer (some ⟨p, 0, none⟩)), (2, .pointer (some ⟨q, 0, none⟩))]) Tryz.func92 rfl Tryz.ntmps92 rfl (Ac rfl (Ac rfl (Ac rfl (An _)))) hS0 ?_
 refine Cg (Kq rfl (Ld rfl rfl .tc u22) ?_)
 refine Km rfl ?_
 (refine Kq rfl (rd_fa rfl rfl u24 rfl (by kernel_rfl) (by (try simp only [sN, Int.reduceToNat, Nat.reduceAdd, Nat.reduceMul, Nat.reduceSub]); rfl)) ?_)
 refine Kq rfl (Ld rfl rfl .tc u22) ?_
 refine Ku rfl (Oc rfl rfl (Kv fun w hS => (by have := mmul_c (w := w) (a := out) (b := x) (m := g.1) ho8 hx8 hm8; rw [mulM_ok ho hx hm hm0] at this; exact this))) ?_
 refine Km rfl (Kq rfl (Re rfl rfl rfl) (Kq rfl (Re rfl rfl rfl) ?_))
 refine Ng rfl rfl (st rfl rfl rfl .tc (by kernel_rfl) rfl ?_ (by (simp only [List.set_cons_zero, List.set_cons_succ]; rfl))) ?_
 ·(simp; done)
 intro _
 refine Nn ?_
 refine WX.ret_normal ?_
 exact Rn rfl .nil fun w' hS => ⟨by rfl, by (exact hS)⟩
theorem elG_gcd {g : Gp} {x : Bs} (hg : chkG g = 0) (h : elG g x) : Nat.gcd (val x) (val g.1) = 1 := by
 obtain ⟨h1, h2, h3, h4, h5⟩ := chkG_ok hg
 obtain ⟨_, _, _, h6⟩ := h
 split at h6
 ·exact h6
 ·rename_i hq
  obtain ⟨h7, _⟩ := h5 hq
  refine unit_gcd (x := val x ^ (val g.2 - 1)) ?_
  rw [Nat.mul_comm, ← Nat.pow_succ, show (val g.2 - 1).succ = val g.2 by omega, h6, Nat.mod_eq_of_lt (by omega)]
theorem elG_len {g : Gp} {x : Bs} (h : elG g x) (hm8 : g.1.length ≤ 8) : x.length ≤ 8 := by
 rw [← ok_canon h.1]; exact canon_len_le.2 (Nat.lt_trans h.2.2.1 (val_8 hm8))
def bsB (m : Nat) (p : Bs × Zs) : Bs := if p.2.1 = true then canon (invN (val p.1) m) else p.1
def prodS (g : Gp) (l : List Bs) (es : List Zs) : Bs × Int :=
 if chkP g l es (decide (l.length = es.length)) = 0 then (canon (prodL (fun p => powI (val g.1) (val p.1) (zv p.2)) (l.zip es) % val g.1), 0) else ([], chkP g l es (decide (l.length = es.length)))
theorem chkP_ok {g : Gp} {l : List Bs} {es : List Zs} {s : Bool} (h : chkP g l es s = 0) : (∀ x ∈ l, okN x) ∧ (∀ x ∈ es, okZ x) ∧ chkG g = 0 ∧ s = true ∧ (∀ x ∈ l, elG g x) := by
 unfold chkP at h
 split at h
 ·simp at h
 ·rename_i h1
  split at h
  ·simp at h
  ·rename_i h2
   split at h
   ·rename_i h3; exact absurd h h3
   ·rename_i h3
    split at h
    ·simp at h
    ·rename_i h4
     split at h
     ·simp at h
     ·rename_i h5; exact ⟨Decidable.not_not.1 h1, Decidable.not_not.1 h2, Decidable.not_not.1 h3, by simpa using h4, Decidable.not_not.1 h5⟩
theorem okZ_neg {x : Zs} (h : okZ x) : zv x < 0 ↔ x.1 = true := by
 obtain ⟨s, a⟩ := x
 cases s with
 | false => simp [zv]
 | true =>
  have h0 : val a ≠ 0 := fun h0 => h.2 ⟨rfl, (val_eq_zero h.1.2).1 h0⟩
  simp [zv]; omega
theorem zv_abs (x : Zs) : (zv x).natAbs = val x.2 := by
 obtain ⟨s, a⟩ := x; cases s <;> simp [zv]
theorem powI_bs {m : Nat} {p : Bs × Zs} (h : okZ p.2) : powI m (val p.1) (zv p.2) = val (bsB m p) ^ val p.2.2 % m := by
 rw [powI, bsB, zv_abs]
 by_cases h1 : p.2.1 = true
 ·rw [if_pos ((okZ_neg h).2 h1), if_pos h1, val_canon]
 ·rw [if_neg (fun h2 => h1 ((okZ_neg h).1 h2)), if_neg h1]
theorem prodL_map {α β : Type} (f : β → Nat) (k : α → β) : ∀ l : List α, prodL f (l.map k) = prodL (fun x => f (k x)) l
 | [] => rfl
 | x :: l => by rw [List.map_cons, prodL, prodL, prodL_map f k l]
def prsP (m : Nat) (l : List (Bs × Zs)) : List (Nat × Nat) := l.map fun p => (val (bsB m p), val p.2.2)
theorem prs_end {m : Nat} {l : List (Bs × Zs)} (h : ∀ p ∈ l, okZ p.2) : prodL (atBit 0) (prsP m l) % m = prodL (fun p => powI m (val p.1) (zv p.2)) l % m := by
 rw [prsP, prodL_map]
 apply prodL_mod
 intro p hp
 rw [powI_bs (h p hp), atBit, Nat.pow_zero, Nat.div_one, Nat.mod_mod]
theorem prs_start {m n : Nat} {l : List (Bs × Zs)} (h : ∀ p ∈ l, bitsN p.2.2 ≤ n) : prodL (atBit n) (prsP m l) = 1 := by
 apply prodL_one
 intro p hp
 obtain ⟨q, hq, rfl⟩ := List.mem_map.1 hp
 rw [atBit, Nat.div_eq_of_lt (Nat.lt_of_lt_of_le (val_bits _) (Nat.pow_le_pow_right (by decide) (h q hq))), Nat.pow_zero]
theorem getD_zip {l : List Bs} {es : List Zs} {i : Nat} (h1 : i < l.length) (h2 : i < es.length) : (l.zip es).getD i default = (l.getD i default, es.getD i default) := by
 simp only [List.getD_eq_getElem?_getD, List.getElem?_zip_eq_some, List.getElem?_eq_getElem h1, List.getElem?_eq_getElem h2, List.getElem?_eq_getElem (show i < (l.zip es).length by simp; omega), List.getElem_zip, Option.getD_some]
theorem map_getD2 {α β : Type} [Inhabited α] [Inhabited β] (f : α → β) (l : List α) (i : Nat) (h : i < l.length) : (l.map f).getD i default = f (l.getD i default) := by
 simp [List.getD_eq_getElem?_getD, List.getElem?_eq_getElem h]
theorem strs_fill (l : List Bs) (i n : Nat) (h : i < l.length) (hn : i < n) : (strs (l.take i) ++ List.replicate (n - i) (Value.string (S []))).set i (Value.string (S (l.getD i default))) = strs (l.take (i + 1)) ++ List.replicate (n - (i + 1)) (Value.string (S [])) := by
 have hl : (strs (l.take i)).length = i := by simp [strs]; omega
 rw [List.set_append_right _ _ (by omega), hl, Nat.sub_self, show n - i = (n - (i + 1)) + 1 by omega, List.replicate_succ, List.set_cons_zero]
 have e : l.take (i + 1) = l.take i ++ [l.getD i default] := by
  rw [List.take_add_one, List.getElem?_eq_getElem h, List.getD_eq_getElem?_getD, List.getElem?_eq_getElem h]; rfl
 rw [e]; simp [strs]
theorem lt_len {k : Nat} {m : Bs} (h : k < val m) (hm8 : m.length ≤ 8) : okN (canon k) ∧ (canon k).length ≤ 8 := by
 have h8 : (canon k).length ≤ 8 := canon_len_le.2 (Nat.lt_trans h (val_8 hm8))
 exact ⟨⟨by omega, can_canon _⟩, h8⟩
theorem prodL_succ {α : Type} [Inhabited α] (f : α → Nat) (l : List α) (k : Nat) (h : k < l.length) : prodL f (l.take (k + 1)) = prodL f (l.take k) * f (l.getD k default) := by
 rw [List.take_add_one, List.getElem?_eq_getElem h, prodL_append, List.getD_eq_getElem?_getD, List.getElem?_eq_getElem h]
 simp [prodL]
def selB (n : Nat) (p : Nat × Nat) : Nat := if p.2 / 2 ^ n % 2 = 1 then p.1 else 1
theorem pproduct_c {g : Gp} {l : List Bs} {es : List Zs} {a b : Option Addr} {c d : Nat} {w : World} {ok : Nat → Prop} (hF1 : (Fact.sl a (strs l)).holds ok w) (hF2 : (Fact.sl b (ints es)).holds ok w) (hl : l.length ≤ 100000) (hes : es.length ≤ 100000) (hm8 : g.1.length ≤ 8) :
  Cw 57 #[gV g, .slice a l.length c, .slice b es.length d] w (NE (prodS g l es)) := by
 refine En [Fact.sl a (strs l), Fact.sl b (ints es)] [(0, gV g), (1, .slice a l.length c), (2, .slice b es.length d)] Tryz.func57 rfl Tryz.ntmps57 rfl (Ac rfl (Ac rfl (Ac rfl (An _)))) (Fc (fact_any hF1) (Fc (fact_any hF2) Fn)) ?_
 refine Cs ?_
 refine Kh rfl (Oy rfl rfl) ?_
 intro b3
 refine Ka rfl (Ka rfl (Nt (Cq (Cs ?_))))
 refine Kq rfl (lda rfl rfl .tc u24 rfl ?_) ?_
 ·kernel_rfl
 refine Km rfl (Km rfl (Km rfl (Kq rfl (rd_len rfl rfl u64) (Km rfl (Kq rfl (rd_len rfl rfl u62) (Kq rfl (rd_eql rfl rfl rfl) ?_))))))
 refine Ns 27 rfl (v' := .bool (decide (l.length = es.length))) (congrArg Value.bool (by exact decide_eq_decide.2 (by omega))) ?_
 refine Ku rfl (Oc rfl rfl (Kv fun w hS => checked_c (g := g) (l := l) (es := es) (same := decide (l.length = es.length)) (by (exact hS.sl)) (by (exact hS.sl)) (by omega) (by omega) (by assumption))) ?_
 refine Ka rfl (Nt (Cs (Km rfl (Kq rfl (rd_neq rfl rfl rfl) (Nt ?_)))))
 refine Cd rfl (fun hc30 => ?_) (fun hc30 => ?_)
 ·(try simp only [sB] at hc30)
  have hr : prodS g l es = ([], chkP g l es (decide (l.length = es.length))) := by rw [prodS, if_neg (by simpa using hc30)]
  refine Cs (Km rfl (Ka rfl (Ka rfl (Nt (Ce (Xb ?_))))))
  exact R2 rfl rfl rfl (by rw [hr]; rfl)
 ·(try simp only [sB] at hc30)
  have h0 : chkP g l es (decide (l.length = es.length)) = 0 := by simpa using hc30
  obtain ⟨hok, hokz, hg, hsame, hel⟩ := chkP_ok h0
  have hlen : l.length = es.length := by simpa using hsame
  obtain ⟨hm, hq, hm2, _⟩ := chkG_ok hg
  have hm0 : g.1 ≠ [] := fun h => by rw [h] at hm2; exact absurd hm2 (by decide)
  have hp := vpos hm hm0
  have hm64 := val_8 hm8
  obtain ⟨Z, hZ⟩ : ∃ Z, Z = l.zip es := ⟨_, rfl⟩
  have hZl : Z.length = l.length := by rw [hZ]; simp; omega
  have hr : prodS g l es = (canon (prodL (fun p => powI (val g.1) (val p.1) (zv p.2)) Z % val g.1), 0) := by rw [prodS, if_pos h0, hZ]
  obtain ⟨B', hB'⟩ : ∃ B', B' = Z.map (bsB (val g.1)) := ⟨_, rfl⟩
  have hBl : B'.length = l.length := by rw [hB', List.length_map, hZl]
  refine Ck (Xa (Cs (Km rfl (Kq rfl (rd_len rfl rfl u64) ?_))))
  refine Kh rfl (og_mk rfl rfl rfl u64 (by kernel_rfl : _ = some (some (.string (S [])), 1, 16)) rfl ?_ (by (try simp only [sN, Int.reduceToNat, Nat.reduceAdd, Nat.reduceMul, Nat.reduceSub]); rfl) (by (try simp only [sN, Int.reduceToNat, Nat.reduceAdd, Nat.reduceMul, Nat.reduceSub]); rfl)) ?_
  ·omega
  intro b34
  refine Ka rfl (Nt (Cs (Ka rfl (Nt (Cq (Cs (Km rfl (Kq rfl (rd_len rfl rfl u64) (Km rfl (Nt (Cb ?_)))))))))))
  refine Lo (σ := Nat × Nat) [(2, _), (3, _), (9, _), (35, _), (36, _)] (fun gq => [(10, .int .i64 (gq.2 : Int)), (37, .int .i64 (gq.1 : Int))]) (fun gq => gq.1 ≤ l.length ∧ gq.2 ≤ 2000 ∧ ∀ p ∈ Z.take gq.1, bitsN p.2.2 ≤ gq.2) (fun gq => l.length - gq.1) (fun gq => [⟨some b34, strs (B'.take gq.1) ++ List.replicate (l.length - gq.1) (.string (S [])), 22⟩, ⟨some b3, [.string (S g.1), .string (S g.2)], 24⟩]) (fun gq => [Fact.sl a (strs l), Fact.sl b (ints es)]) (0, 0) (S5 rfl rfl rfl rfl rfl) (S2 rfl rfl) (by (try dsimp only); exact ⟨Nat.zero_le _, Nat.zero_le _, by simp⟩) (by (exact fun _ h => h)) ?_
  rintro ⟨i, most⟩ hinv1; (try dsimp only at hinv1 ⊢)
  obtain ⟨hi, hmo, hbt⟩ := hinv1
  refine Cs (Kq rfl (rd_lss rfl rfl rfl) (Nt (Cq ?_)))
  refine Cd rfl (fun hc38 => ?_) (fun hc38 => ?_)
  ·(try simp only [sB] at hc38)
   have hil : i < l.length := by omega
   have hie : i < es.length := by omega
   have hx := hel _ (getD_mem l i hil)
   have hz := hokz _ (getD_mem es i hie)
   have hiZ : i < Z.length := by omega
   have hZi : Z.getD i default = (l.getD i default, es.getD i default) := by rw [hZ]; exact getD_zip hil hie
   have hBi : B'.getD i default = bsB (val g.1) (l.getD i default, es.getD i default) := by rw [hB', map_getD2 _ _ _ hiZ, hZi]
   have hgc := elG_gcd hg hx
   have hiv := invM_ok hx.1 hm hm0
   rw [if_pos hgc] at hiv
   have hbl := bitsN_le hz.1.1
   refine Ck (Xa (Cq (Cb (Cs (Km rfl ?_)))))
   refine Kq rfl (Ib rfl rfl rfl u64 (by omega) (by (rw [List.length_map]; omega))) ?_
   refine Kq rfl (ldm rfl rfl u22 rfl (by assumption)) ?_
   refine Ka rfl (Ka rfl (Nt (Cs (Km rfl (Km rfl (Km rfl ?_))))))
   refine Kq rfl (Ja rfl rfl rfl u64 (by kernel_rfl : _ = some 1) (by omega)) ?_
   refine Ng rfl rfl (st rfl rfl rfl .tc (by kernel_rfl) rfl ?_ (by rfl)) ?_
   ·(simp <;> omega)
   intro _
   refine Nt (Cq (Cs (Km rfl (Km rfl ?_))))
   refine Kq rfl (Ia rfl rfl rfl u62 (by kernel_rfl : _ = some 2) (by omega) (by (rw [flatMap_len _ _ 2 (fun _ => rfl)]; omega))) ?_
   (refine Kq rfl (faf rfl rfl u61 rfl (by kernel_rfl) (by (try simp only [sN, Int.reduceToNat, Nat.reduceAdd, Nat.reduceMul, Nat.reduceSub]); rfl)) ?_)
   refine Kq rfl (ldmf (sz := 2) _ 0 rfl rfl u4 rfl (fun _ => rfl) rfl (by assumption) (by decide) rfl) ?_
   refine Nt ?_
   refine Cd rfl (fun hc50 => ?_) (fun hc50 => ?_)
   ·(try simp only [sB] at hc50)
    have hB2 : B'.getD i default = canon (invN (val (l.getD i default)) (val g.1)) := by rw [hBi]; exact if_pos (by simpa using hc50)
    refine Cs (Km rfl (Kq rfl (Fa (q := 0) rfl rfl u24 rfl rfl) (Kq rfl (Ld rfl rfl .tc u22) ?_)))
    refine Ku rfl (Oc rfl rfl (Kv fun w hS => (by have := minv_c (w := w) (a := l.getD i default) (m := g.1); rw [hiv] at this; exact this))) ?_
    refine Km rfl (Kq rfl (Re rfl rfl rfl) (Kq rfl (Re rfl rfl rfl) (Ka rfl (Ka rfl (Nt (Cq (Cs (Km rfl (Kq rfl (rd_neq rfl rfl rfl) (Nt ?_))))))))))
    refine Cd rfl (fun hc59 => by exfalso; (try simp only [sB] at hc59); exact hc59 trivial) (fun hc59 => ?_)
    (try simp only [sB] at hc59)
    refine Ck (Xa (Cg (Km rfl (Km rfl (Km rfl ?_)))))
    refine Kq rfl (Ja rfl rfl rfl u64 (by kernel_rfl : _ = some 1) (by omega)) ?_
    refine Ng rfl rfl (st rfl rfl rfl .tc (by kernel_rfl) rfl ?_ (by (simp only [List.set_cons_zero, List.set_cons_succ]; rfl))) ?_
    ·(simp <;> omega)
    intro _
    refine Nt (Cg (Km rfl (Km rfl (Km rfl ?_))))
    refine Kq rfl (Ia rfl rfl rfl u62 (by kernel_rfl : _ = some 2) (by omega) (by (rw [flatMap_len _ _ 2 (fun _ => rfl)]; omega))) ?_
    (refine Kq rfl (faf rfl rfl u61 rfl (by kernel_rfl) (by (try simp only [sN, Int.reduceToNat, Nat.reduceAdd, Nat.reduceMul, Nat.reduceSub]); rfl)) ?_)
    refine Kq rfl (ldmf (sz := 2) _ 1 rfl rfl u22 rfl (fun _ => rfl) rfl (by assumption) (by decide) rfl) ?_
    refine Ku rfl (Oc rfl rfl (Kv fun w hS => bits_c (a := (es.getD i default).2))) ?_
    refine Ns 71 rfl (v' := .int .i64 ((bitsN (es.getD i default).2 : Nat) : Int)) (congrArg (Value.int .i64) (by rw [if_pos hz.1])) ?_
    refine Kq rfl (rd_max2 rfl rfl rfl) (Ns 72 rfl (v' := .int .i64 ((max most (bitsN (es.getD i default).2) : Nat) : Int)) (congrArg (Value.int .i64) (by omega)) (Ka rfl (Nn (Xd (Xa (Cg (Kq rfl (Rz rfl rfl rfl (by omega)) (Km rfl (Nn ?_)))))))))
    refine Lx ((i + 1, max most (bitsN (es.getD i default).2))) (by (try dsimp only); omega) (S5 rfl rfl rfl rfl rfl) (by refine (Sc ?_ (Sc ?_ (S0 _))) <;> (rfl)) ?_ (by exact fun w h => by rw [← strs_fill B' i l.length (by omega) hil, hB2]; (try rw [List.set_set] at h); exact h)
    (try dsimp only)
    exact ⟨hil, by omega, all_take hiZ (fun p hp => Nat.le_trans (hbt p hp) (Nat.le_max_left _ _)) (by rw [hZi]; exact Nat.le_max_right _ _)⟩
   ·(try simp only [sB] at hc50)
    have hB2 : B'.getD i default = l.getD i default := by rw [hBi]; exact if_neg (by simpa using hc50)
    refine Ck (Xa (Cg (Km rfl (Km rfl (Km rfl ?_)))))
    refine Kq rfl (Ia rfl rfl rfl u62 (by kernel_rfl : _ = some 2) (by omega) (by (rw [flatMap_len _ _ 2 (fun _ => rfl)]; omega))) ?_
    (refine Kq rfl (faf rfl rfl u61 rfl (by kernel_rfl) (by (try simp only [sN, Int.reduceToNat, Nat.reduceAdd, Nat.reduceMul, Nat.reduceSub]); rfl)) ?_)
    refine Kq rfl (ldmf (sz := 2) _ 1 rfl rfl u22 rfl (fun _ => rfl) rfl (by assumption) (by decide) rfl) ?_
    refine Ku rfl (Oc rfl rfl (Kv fun w hS => bits_c (a := (es.getD i default).2))) ?_
    refine Ns 71 rfl (v' := .int .i64 ((bitsN (es.getD i default).2 : Nat) : Int)) (congrArg (Value.int .i64) (by rw [if_pos hz.1])) ?_
    refine Kq rfl (rd_max2 rfl rfl rfl) (Ns 72 rfl (v' := .int .i64 ((max most (bitsN (es.getD i default).2) : Nat) : Int)) (congrArg (Value.int .i64) (by omega)) (Ka rfl (Nn (Xd (Xa (Cg (Kq rfl (Rz rfl rfl rfl (by omega)) (Km rfl (Nn ?_)))))))))
    refine Lx ((i + 1, max most (bitsN (es.getD i default).2))) (by (try dsimp only); omega) (S5 rfl rfl rfl rfl rfl) (by refine (Sc ?_ (Sc ?_ (S0 _))) <;> (rfl)) ?_ (by exact fun w h => by rw [← strs_fill B' i l.length (by omega) hil, hB2]; (try rw [List.set_set] at h); exact h)
    (try dsimp only)
    exact ⟨hil, by omega, all_take hiZ (fun p hp => Nat.le_trans (hbt p hp) (Nat.le_max_left _ _)) (by rw [hZi]; exact Nat.le_max_right _ _)⟩
  ·(try simp only [sB] at hc38)
   refine Cx (Xc (Xc (Xe ?_)))
   obtain rfl : i = l.length := by omega
   rw [Nat.sub_self, List.replicate_zero, List.append_nil, List.take_of_length_le (Nat.le_of_eq hBl)]
   rw [List.take_of_length_le (Nat.le_of_eq hZl)] at hbt
   have hBk : ∀ k, k < l.length → okN (B'.getD k default) ∧ (B'.getD k default).length ≤ 8 := fun k hk => by
    have hx := hel _ (getD_mem l k hk)
    rw [hB', map_getD2 _ _ _ (by omega), hZ, getD_zip hk (by omega), bsB]
    split
    ·exact lt_len (invN_lt _ hp) hm8
    ·exact ⟨hx.1, elG_len hx hm8⟩
   obtain ⟨PP, hPP⟩ : ∃ PP, PP = prsP (val g.1) Z := ⟨_, rfl⟩
   have hPl : PP.length = l.length := by rw [hPP, prsP, List.length_map, hZl]
   have hPk : ∀ k, k < l.length → PP.getD k default = (val (B'.getD k default), val (es.getD k default).2) := fun k hk => by
    rw [hPP, hB', map_getD2 _ _ _ (by omega), prsP, map_getD2 _ _ _ (by omega), hZ, getD_zip hk (by omega)]
   have hst := prs_start (m := val g.1) hbt
   rw [← hPP] at hst
   have hend := prs_end (m := val g.1) (l := Z) (fun q hq => by rw [hZ] at hq; exact hokz _ (List.of_mem_zip hq).2)
   rw [← hPP] at hend
   have hmk : ∀ k, okN (canon (k % val g.1)) ∧ (canon (k % val g.1)).length ≤ 8 := fun k => lt_len (Nat.mod_lt _ hp) hm8
   refine Xa (Cs ?_)
   refine Ku rfl (Oc rfl rfl (Kv fun w hS => of_c (n := 1) (by omega))) ?_
   refine Kh rfl (Oa rfl (v := (.string (S []))) (cs := [.string (S [])]) (by kernel_rfl) rfl) ?_
   intro b15
   refine Ng rfl rfl (st rfl rfl rfl .tc (by kernel_rfl) rfl ?_ (by (simp only [List.set_cons_zero, List.set_cons_succ]; rfl))) ?_
   ·decide
   intro _
   refine Nt (Cs (Kq rfl (rd_mkf rfl rfl rfl) (Ka rfl (Nt (Cq (Cs (Km rfl (Kq rfl (rd_sub64 rfl rfl rfl (by omega)) (Ka rfl (Nt (Cb ?_)))))))))))
   refine Lo (σ := Nat × Int × Bs) [(2, _), (9, _), (15, _), (16, _)] (fun gq => [(17, .int .i64 gq.2.1)]) (fun gq => gq.1 ≤ most ∧ gq.2.1 = (gq.1 : Int) - 1 ∧ gq.2.2 = canon (prodL (atBit gq.1) PP % val g.1)) (fun gq => gq.1) (fun gq => [⟨some b15, [.string (S gq.2.2)], 22⟩, ⟨some b34, strs B', 22⟩, ⟨some b3, [.string (S g.1), .string (S g.2)], 24⟩]) (fun gq => [Fact.sl b (ints es)]) (most, (most : Int) - 1, canon 1) (S4 rfl rfl rfl rfl) (S1 rfl) (by (try dsimp only); exact ⟨Nat.le_refl _, rfl, by rw [hst, Nat.mod_eq_of_lt (by omega)]⟩) (by (exact st_sub)) ?_
   rintro ⟨n, j, out⟩ hinv2; (try dsimp only at hinv2 ⊢)
   obtain ⟨hn, hj, hout⟩ := hinv2
   refine Cq (Cs (Km rfl (Kq rfl (rd_geq rfl rfl rfl) (Nt ?_))))
   refine Cd rfl (fun hc79 => ?_) (fun hc79 => ?_)
   ·(try simp only [sB] at hc79)
    obtain ⟨n', rfl⟩ : ∃ n', n = n' + 1 := ⟨n - 1, by omega⟩
    refine WC.set 17 rfl (v' := .int .i64 ((n' : Nat) : Int)) (by rw [hj]; congr 1; omega) ?_
    subst hout
    obtain ⟨Q, hQ⟩ : ∃ Q, Q = prodL (atBit (n' + 1)) PP % val g.1 * (prodL (atBit (n' + 1)) PP % val g.1) % val g.1 := ⟨_, rfl⟩
    have hQ0 : val (canon (prodL (atBit (n' + 1)) PP % val g.1)) * val (canon (prodL (atBit (n' + 1)) PP % val g.1)) % val g.1 = Q := by rw [val_canon, hQ]
    refine Ck (Xa (Cq (Cb (Cs (Km rfl (Kq rfl (Ld rfl rfl .tc u22) ?_))))))
    refine Kh rfl (og_callv rfl rfl rfl (by kernel_rfl) rfl (keep_st fun w hS => ptimes_c (p := b15) (q := b3) (out := canon (prodL (atBit (n' + 1)) PP % val g.1)) (x := canon (prodL (atBit (n' + 1)) PP % val g.1)) (g := g) hS (by exact (hmk _).1) (by exact (hmk _).2) (by exact (hmk _).1) (by exact (hmk _).2) (by exact hm) (by exact hm0) (by exact hm8))) ?_
    intro _
    refine Nt (Cs (Km rfl (Kq rfl (rd_len rfl rfl u64) (Km rfl (Nt (Cb ?_))))))
    refine Lo (σ := Nat × Bs) [(2, _), (9, _), (15, _), (16, _), (17, _), (85, _), (86, _)] (fun gq => [(87, .int .i64 (gq.1 : Int))]) (fun gq => gq.1 ≤ l.length ∧ gq.2 = canon (Q * prodL (selB n') (PP.take gq.1) % val g.1)) (fun gq => l.length - gq.1) (fun gq => [⟨some b15, [.string (S gq.2)], 22⟩, ⟨some b34, strs B', 22⟩, ⟨some b3, [.string (S g.1), .string (S g.2)], 24⟩]) (fun gq => [Fact.sl b (ints es)]) (0, canon Q) (S7 rfl rfl rfl rfl rfl rfl rfl) (S1 rfl) (by (try dsimp only); exact ⟨Nat.zero_le _, by rw [List.take_zero, prodL, Nat.mul_one, hQ, Nat.mod_mod]⟩) (by exact fun w h => by rw [hQ0] at h; exact h) ?_
    rintro ⟨k, o⟩ hinv3; (try dsimp only at hinv3 ⊢)
    obtain ⟨hk, ho⟩ := hinv3
    refine Cs (Kq rfl (rd_lss rfl rfl rfl) (Nt (Cq ?_)))
    refine Cd rfl (fun hc88 => ?_) (fun hc88 => ?_)
    ·(try simp only [sB] at hc88)
     have hkl : k < l.length := by omega
     have hz := hokz _ (getD_mem es k (by omega))
     subst ho
     have hsu := prodL_succ (selB n') PP k (by omega)
     rw [hPk k hkl, selB] at hsu
     refine Ck (Xa (Cq (Cb (Cs (Km rfl ?_)))))
     refine Kq rfl (Ja rfl rfl rfl u64 (by kernel_rfl : _ = some 1) (by omega)) ?_
     refine Kq rfl (ld rfl rfl .tc u22 rfl (map_getD B' _ k (by omega))) ?_
     refine Ka rfl (Ka rfl (Nt (Cs (Km rfl (Km rfl ?_)))))
     refine Kq rfl (Ia rfl rfl rfl u62 (by kernel_rfl : _ = some 2) (by omega) (by (rw [flatMap_len _ _ 2 (fun _ => rfl)]; omega))) ?_
     (refine Kq rfl (faf rfl rfl u61 rfl (by kernel_rfl) (by (try simp only [sN, Int.reduceToNat, Nat.reduceAdd, Nat.reduceMul, Nat.reduceSub]); rfl)) ?_)
     refine Kq rfl (ldmf (sz := 2) _ 1 rfl rfl u22 rfl (fun _ => rfl) rfl (by omega) (by decide) rfl) ?_
     refine Km rfl ?_
     refine Ku rfl (Oc rfl rfl (Kv fun w hS => bitn_c (a := (es.getD k default).2) (i := n') (by omega))) ?_
     refine Nt ?_
     refine Cd rfl (fun hc98 => ?_) (fun hc98 => ?_)
     ·(try simp only [sB] at hc98)
      have hd : val (es.getD k default).2 / 2 ^ n' % 2 = 1 := by rw [bitA_nat hz.1, bitN] at hc98; simpa using hc98
      rw [if_pos hd] at hsu
      refine Cg (Km rfl (Km rfl ?_))
      refine Kh rfl (og_callv rfl rfl rfl (by kernel_rfl) rfl (keep_st fun w hS => ptimes_c (p := b15) (q := b3) (out := canon (Q * prodL (selB n') (PP.take k) % val g.1)) (x := B'.getD k default) (g := g) hS (by exact (hmk _).1) (by exact (hmk _).2) (by exact (hBk _ hkl).1) (by exact (hBk _ hkl).2) (by exact hm) (by exact hm0) (by exact hm8))) ?_
      intro _
      refine Nn (Xd (Xa (Cg (Kq rfl (Rz rfl rfl rfl (by omega)) (Km rfl (Nn ?_))))))
      refine Lx ((k + 1, canon (Q * prodL (selB n') (PP.take (k + 1)) % val g.1))) (by (try dsimp only); omega) (S7 rfl rfl rfl rfl rfl rfl rfl) (by refine (Sc ?_ (S0 _)) <;> (rfl)) ?_ (by exact fun w h => by rw [hsu, ← Nat.mul_assoc, ← mml (Q * _)]; rw [val_canon] at h; exact h)
      (try dsimp only)
      exact ⟨hkl, rfl⟩
     ·(try simp only [sB] at hc98)
      have hd : ¬ val (es.getD k default).2 / 2 ^ n' % 2 = 1 := by rw [bitA_nat hz.1, bitN] at hc98; simpa using hc98
      rw [if_neg hd, Nat.mul_one] at hsu
      refine Ck (Xd (Xa (Cg (Kq rfl (Rz rfl rfl rfl (by omega)) (Km rfl (Nn ?_))))))
      refine Lx ((k + 1, canon (Q * prodL (selB n') (PP.take (k + 1)) % val g.1))) (by (try dsimp only); omega) (S7 rfl rfl rfl rfl rfl rfl rfl) (by refine (Sc ?_ (S0 _)) <;> (rfl)) ?_ (by exact fun w h => by rw [hsu]; exact h)
      (try dsimp only)
      exact ⟨hkl, rfl⟩
    ·(try simp only [sB] at hc88)
     refine Cx (Xc (Xc (Xe ?_)))
     obtain rfl : k = l.length := by omega
     rw [List.take_of_length_le (Nat.le_of_eq hPl)] at ho
     refine Xd (Xa (Cg (Km rfl (Kq rfl (rd_sub64 rfl rfl rfl (by omega)) (Ka rfl (Nn ?_))))))
     refine Lx ((n', (n' : Int) - 1, o)) (by (try dsimp only); omega) (S4 rfl rfl rfl rfl) (by refine (Sc ?_ (S0 _)) <;> (rfl)) ?_ (by (exact fun _ h => h))
     (try dsimp only)
     exact ⟨by omega, rfl, by rw [ho, hQ]; exact congrArg canon (prod_bit _ _ _)⟩
   ·(try simp only [sB] at hc79)
    refine Cx (Xc (Xc (Xe ?_)))
    obtain rfl : n = 0 := by omega
    rw [hend] at hout
    refine Xa (Cs (Kq rfl (Ld rfl rfl .tc u22) ?_))
    refine Ka rfl (Ka rfl (Nt (Ce ?_)))
    exact R2 rfl rfl rfl (by rw [hr, ← hout]; rfl)
theorem last_mod2 {s : Bs} (h : s ≠ []) : (s.getD (s.length - 1) default).toNat % 2 = val s % 2 := by
 have hl := List.length_pos_iff.2 h
 have := val_digit s 0 hl
 rw [Nat.pow_zero, Nat.div_one, Nat.sub_zero] at this
 omega
theorem eq_one {s : Bs} (h : okN s) : s = [1] ↔ val s = 1 := by
 rw [← canon_one, ok_canon h]
theorem eq_nil {s : Bs} (h : okN s) : s = [] ↔ val s = 0 := (val_eq_zero h.2).symm
theorem rgcheck_c {g : Gp} {w : World} :
  Cw 41 #[gV g] w (.int .i64 (chkG g)) := by
 have hB8 : 8 < Big := Nat.lt_of_lt_of_le (by decide) big64
 refine En [] [(0, gV g)] Tryz.func41 rfl Tryz.ntmps41 rfl (Ac rfl (An _)) Fn ?_
 refine Cs ?_
 refine Kh rfl (Oy rfl rfl) ?_
 intro b1
 refine Ka rfl (Nt (Cq ?_))
 refine WC.joinP (σ := Unit) [(1, _)] (fun gq => [(14, .bool (decide (¬ (okN g.1 ∧ okN g.2))))]) (fun gq => True) (S1 rfl) ?_ ?_
 ·skip
  refine Cg (Kq rfl (Fa (q := 0) rfl rfl u24 rfl rfl) (Kq rfl (Ld rfl rfl .tc u22) ?_))
  refine Ku rfl (Oc rfl rfl (Kv fun w hS => rvalid_c (a := g.1))) ?_
  refine Kq rfl (Rt rfl rfl) (Km rfl ?_)
  refine Nb 9 rfl (fun hg9 => ?_) (fun hg9 => ?_)
  ·(try simp only [sB] at hg9)
   refine Kt rfl (Kt rfl (Kt rfl (Kt rfl (Kq rfl (Rp rfl rfl rfl) (Nn ?_)))))
   refine WX.joinP (()) (S1 rfl) (by refine (Sc ?_ (S0 _)) <;> ((refine slot_b rfl ?_; (try dsimp only); (simp [*]; done)))) ?_ (by (exact fun _ h => h))
   (try dsimp only)
   done
  ·(try simp only [sB] at hg9)
   refine Kq rfl (Fa (q := 1) rfl rfl u24 rfl rfl) (Kq rfl (Ld rfl rfl .tc u22) ?_)
   refine Ku rfl (Oc rfl rfl (Kv fun w hS => rvalid_c (a := g.2))) ?_
   refine Kq rfl (Rt rfl rfl) (Kq rfl (Rq rfl rfl rfl) (Nn ?_))
   refine WX.joinP (()) (S1 rfl) (by refine (Sc ?_ (S0 _)) <;> ((refine slot_b rfl ?_; (try dsimp only); (simp [*]; done)))) ?_ (by (exact fun _ h => h))
   (try dsimp only)
   done
 ·rintro _ hmeet; (try dsimp only at hmeet ⊢)
  refine Cd rfl (fun hc14 => ?_) (fun hc14 => ?_)
  ·(try simp only [sB] at hc14)
   have hr : chkG g = 3 := by rw [chkG, if_neg hc14]
   refine Cs (Ka rfl (Nt (Ce (Xb ?_))))
   exact R1 rfl rfl (by rw [hr]; rfl)
  ·(try simp only [sB] at hc14)
   have hok : okN g.1 ∧ okN g.2 := by simpa using hc14
   have hb1 := okN_val hok.1; have hb2 := okN_val hok.2
   have hv2 : val g.2 = 0 ↔ g.2 = [] := val_eq_zero hok.2.2
   have hl1 := hok.1.1
   refine Ck (Xa (Cq (Cs (Kq rfl (Fa (q := 1) rfl rfl u24 rfl rfl) (Kq rfl (Ld rfl rfl .tc u22) ?_)))))
   refine Kq rfl (rd_seq rfl rfl rfl) (Nt ?_)
   refine Cd rfl (fun hc17 => ?_) (fun hc17 => ?_)
   ·(try simp only [sB] at hc17)
    have hq : g.2 = [] := by simpa using hc17
    have hlp : val g.1 = 0 ∨ 0 < g.1.length := by
     by_cases h : g.1 = []
     ·exact .inl (by rw [h]; rfl)
     ·exact .inr (List.length_pos_iff.2 h)
    have hlm : val g.1 = 0 ∨ (g.1.getD (g.1.length - 1) default).toNat % 2 = val g.1 % 2 := by
     by_cases h : g.1 = []
     ·exact .inl (by rw [h]; rfl)
     ·exact .inr (last_mod2 h)
    refine Cq ?_
    refine WC.joinP (σ := Unit) [] (fun gq => [(37, .bool (decide (¬ (val g.1 % 2 = 1 ∧ 8 < val g.1))))]) (fun gq => True) (S0 _) ?_ ?_
    ·skip
     refine Cg (Kq rfl (Fa (q := 0) rfl rfl u24 rfl rfl) (Kq rfl (Ld rfl rfl .tc u22) ?_))
     refine Kq rfl (rd_seq rfl rfl rfl) ?_
     refine Ns 20 rfl (v' := .bool (decide (val g.1 = 0))) (congrArg Value.bool (by exact decide_eq_decide.2 (by rw [← eq_nil hok.1]))) ?_
     refine Km rfl ?_
     refine Nb 21 rfl (fun hg21 => ?_) (fun hg21 => ?_)
     ·(try simp only [sB] at hg21)
      refine Kt rfl (Kt rfl (Kt rfl (Kt rfl (Kt rfl (Kt rfl (Kt rfl (Kt rfl (Kt rfl (Kq rfl (Rp rfl rfl rfl) (Km rfl (Kt rfl (Kt rfl (Kt rfl (Kt rfl (Kq rfl (Rp rfl rfl rfl) (Nn ?_))))))))))))))))
      refine WX.joinP (()) (S0 _) (by refine (Sc ?_ (S0 _)) <;> ((refine slot_b rfl ?_; (try dsimp only); (simp [*]; done)))) ?_ (by (exact fun _ h => h))
      (try dsimp only)
      done
     ·(try simp only [sB] at hg21)
      refine Kq rfl (Fa (q := 0) rfl rfl u24 rfl rfl) (Kq rfl (Ld rfl rfl .tc u22) ?_)
      refine Kq rfl (Fa (q := 0) rfl rfl u24 rfl rfl) (Kq rfl (Ld rfl rfl .tc u22) ?_)
      refine Kq rfl (rd_slen rfl rfl u22) (Kq rfl (rd_sub64nl rfl rfl rfl (by omega)) ?_)
      refine Kq rfl (rd_sidxD rfl rfl rfl u22 ?_) ?_
      ·omega
      refine Kq rfl (rd_remN rfl rfl rfl (by decide)) (Kq rfl (rd_eql rfl rfl rfl) ?_)
      refine Ns 30 rfl (v' := .bool (decide (val g.1 % 2 = 0))) (congrArg Value.bool (by exact decide_eq_decide.2 (by rw [Int.toNat_natCast]; omega))) ?_
      refine Kq rfl (Rq rfl rfl rfl) (Km rfl ?_)
      refine Nb 32 rfl (fun hg32 => ?_) (fun hg32 => ?_)
      ·(try simp only [sB] at hg32)
       refine Kt rfl (Kt rfl (Kt rfl (Kt rfl (Kq rfl (Rp rfl rfl rfl) (Nn ?_)))))
       refine WX.joinP (()) (S0 _) (by refine (Sc ?_ (S0 _)) <;> ((refine slot_b rfl ?_; (try dsimp only); (simp [*]; done)))) ?_ (by (exact fun _ h => h))
       (try dsimp only)
       done
      ·(try simp only [sB] at hg32)
       refine Kq rfl (Fa (q := 0) rfl rfl u24 rfl rfl) (Kq rfl (Ld rfl rfl .tc u22) ?_)
       refine Ku rfl (Oc rfl rfl (Kv fun w hS => order_c (a := g.1) (b := [8]) (by exact hok.1.2) (by decide) (by omega))) ?_
       refine Kq rfl (rd_leq rfl rfl rfl) ?_
       refine Ns 36 rfl (v' := .bool (decide (val g.1 ≤ 8))) (congrArg Value.bool (by exact decide_eq_decide.2 (cmpI_le _ _))) ?_
       refine Kq rfl (Rq rfl rfl rfl) (Nn ?_)
       refine WX.joinP (()) (S0 _) (by refine (Sc ?_ (S0 _)) <;> ((refine slot_b rfl ?_; (try dsimp only); (exact decide_eq_decide.2 (by omega))))) ?_ (by (exact fun _ h => h))
       (try dsimp only)
       done
    ·rintro _ hmeet; (try dsimp only at hmeet ⊢)
     refine Cd rfl (fun hc37 => ?_) (fun hc37 => ?_)
     ·(try simp only [sB] at hc37)
      have hr : chkG g = 13 := by rw [chkG, if_pos hok, if_pos hq, if_neg hc37]
      refine Cs (Ka rfl (Nt (Ce (Xb (Xb ?_)))))
      exact R1 rfl rfl (by rw [hr]; rfl)
     ·(try simp only [sB] at hc37)
      have hr : chkG g = 0 := by rw [chkG, if_pos hok, if_pos hq, if_pos (by simpa using hc37)]
      refine Ck (Xa (Cs (Ka rfl (Nt (Ce (Xb ?_))))))
      exact R1 rfl rfl (by rw [hr]; rfl)
   ·(try simp only [sB] at hc17)
    have hq : g.2 ≠ [] := by simpa using hc17
    have hqp : 0 < val g.2 := by rcases Nat.eq_zero_or_pos (val g.2) with h | h; exact absurd (hv2.1 h) hq; exact h
    refine Ck (Xa (Cq ?_))
    refine WC.joinP (σ := Unit) [(1, _)] (fun gq => [(50, .bool (decide (val g.1 ≤ 1 ∨ val g.2 < 2)))]) (fun gq => True) (S1 rfl) ?_ ?_
    ·skip
     refine Cg (Kq rfl (Fa (q := 0) rfl rfl u24 rfl rfl) (Kq rfl (Ld rfl rfl .tc u22) ?_))
     refine Kq rfl (rd_seq rfl rfl rfl) ?_
     refine Ns 40 rfl (v' := .bool (decide (val g.1 = 0))) (congrArg Value.bool (by exact decide_eq_decide.2 (by rw [← eq_nil hok.1]))) ?_
     refine Km rfl ?_
     refine Nb 41 rfl (fun hg41 => ?_) (fun hg41 => ?_)
     ·(try simp only [sB] at hg41)
      refine Kt rfl (Kt rfl (Kt rfl (Kq rfl (Rp rfl rfl rfl) (Km rfl (Kt rfl (Kt rfl (Kt rfl (Kq rfl (Rp rfl rfl rfl) (Nn ?_)))))))))
      refine WX.joinP (()) (S1 rfl) (by refine (Sc ?_ (S0 _)) <;> ((refine slot_b rfl ?_; (try dsimp only); (simp [*]; done)))) ?_ (by (exact fun _ h => h))
      (try dsimp only)
      done
     ·(try simp only [sB] at hg41)
      refine Kq rfl (Fa (q := 0) rfl rfl u24 rfl rfl) (Kq rfl (Ld rfl rfl .tc u22) ?_)
      refine Kq rfl (rd_seq rfl rfl rfl) ?_
      refine Ns 44 rfl (v' := .bool (decide (val g.1 = 1))) (congrArg Value.bool (by exact decide_eq_decide.2 (by rw [← eq_one hok.1]))) ?_
      refine Kq rfl (Rq rfl rfl rfl) (Km rfl ?_)
      refine Nb 46 rfl (fun hg46 => ?_) (fun hg46 => ?_)
      ·(try simp only [sB] at hg46)
       refine Kt rfl (Kt rfl (Kt rfl (Kq rfl (Rp rfl rfl rfl) (Nn ?_))))
       refine WX.joinP (()) (S1 rfl) (by refine (Sc ?_ (S0 _)) <;> ((refine slot_b rfl ?_; (try dsimp only); (simp [*]; done)))) ?_ (by (exact fun _ h => h))
       (try dsimp only)
       done
      ·(try simp only [sB] at hg46)
       refine Kq rfl (Fa (q := 1) rfl rfl u24 rfl rfl) (Kq rfl (Ld rfl rfl .tc u22) ?_)
       refine Kq rfl (rd_seq rfl rfl rfl) ?_
       refine Ns 49 rfl (v' := .bool (decide (val g.2 = 1))) (congrArg Value.bool (by exact decide_eq_decide.2 (by rw [← eq_one hok.2]))) ?_
       refine Kq rfl (Rq rfl rfl rfl) (Nn ?_)
       refine WX.joinP (()) (S1 rfl) (by refine (Sc ?_ (S0 _)) <;> ((refine slot_b rfl ?_; (try dsimp only); (exact decide_eq_decide.2 (by omega))))) ?_ (by (exact fun _ h => h))
       (try dsimp only)
       done
    ·rintro _ hmeet; (try dsimp only at hmeet ⊢)
     refine Cd rfl (fun hc50 => ?_) (fun hc50 => ?_)
     ·(try simp only [sB] at hc50)
      have hr : chkG g = 13 := by rw [chkG, if_pos hok, if_neg hq, if_pos (by omega)]
      refine Cs (Ka rfl (Nt (Ce (Xb ?_))))
      exact R1 rfl rfl (by rw [hr]; rfl)
     ·(try simp only [sB] at hc50)
      refine Ck (Xa (Cq (Cq ?_)))
      refine Cf [0, 1, 2, 3, 4, 5, 6, 7, 8, 9, 10] [] [0, 0, 1, 0, 0, 1, 0, 0, 0, 0, 0] (by kernel_rfl) (by kernel_rfl) rfl ?_
      refine Kj rfl (Fa (q := 0) rfl rfl u24 rfl rfl) (Kj rfl (Ld rfl rfl .tc u22) ?_)
      refine Jv rfl rfl rfl rfl rfl (fun ext => Oc rfl rfl (Kv fun w hS => minus_c (a := g.1) (b := [1]) (by show 1 ≤ val g.1; omega) (by omega) (by decide))) ?_
      refine WJ.set 54 rfl (v' := .string (S (canon (val g.1 - 1)))) (congrArg (fun l => Value.string (S l)) (by rfl)) ?_
      refine Kj rfl (Fa (q := 1) rfl rfl u24 rfl rfl) (Kj rfl (Ld rfl rfl .tc u22) ?_)
      refine Jv rfl rfl rfl rfl rfl (fun ext => Oc rfl rfl (Kv fun w hS => rover_c (a := canon (val g.1 - 1)) (b := g.2) (by exact okN_can (by omega)) (by exact hok.2) (by exact hq))) ?_
      refine Kj rfl (Rm rfl rfl) (Kj rfl (Re rfl rfl rfl) (Kj rfl (Re rfl rfl rfl) (Kj rfl (Ra rfl rfl) (Kj rfl (Ra rfl rfl) ?_))))
      refine WJ.nil ?_
      refine Nt (Cs (Km rfl (Kq rfl (rd_sne rfl rfl rfl) ?_)))
      refine Ns 61 rfl (v' := .bool (decide ((val g.1 - 1) % val g.2 ≠ 0))) (congrArg Value.bool (by simp [canon_nil, val_canon])) ?_
      refine Nt ?_
      refine Cd rfl (fun hc61 => ?_) (fun hc61 => ?_)
      ·(try simp only [sB] at hc61)
       have hr : chkG g = 13 := by rw [chkG, if_pos hok, if_neg hq, if_pos (Or.inr (Or.inr hc61))]
       refine Cs (Ka rfl (Nt (Ce (Xb ?_))))
       exact R1 rfl rfl (by rw [hr]; rfl)
      ·(try simp only [sB] at hc61)
       have hr : chkG g = 0 := by rw [chkG, if_pos hok, if_neg hq, if_neg (fun h => by rcases h with h | h | h; omega; omega; exact hc61 h)]
       refine Ck (Xa (Cs (Ka rfl (Nt (Ce ?_)))))
       exact R1 rfl rfl (by rw [hr]; rfl)
theorem rghas0_c {g : Gp} {x : Bs} {w : World} (hg : chkG g = 0) (hx : okN x) (hm8 : g.1.length ≤ 8) :
  Cw 51 #[gV g, .string (S x)] w (.bool (decide (elG g x))) := by
 obtain ⟨hm, hqk, h2, _⟩ := chkG_ok hg
 have hl := hm.1
 refine En [] [(0, gV g), (1, .string (S x))] Tryz.func51 rfl Tryz.ntmps51 rfl (Ac rfl (Ac rfl (An _))) Fn ?_
 refine Cs ?_
 refine Kh rfl (Oy rfl rfl) ?_
 intro b2
 refine Ka rfl (Nt (Cq (Cs (Kq rfl (Fa (q := 1) rfl rfl u24 rfl rfl) (Kq rfl (Ld rfl rfl .tc u22) ?_)))))
 refine Kq rfl (rd_sne rfl rfl rfl) (Nt ?_)
 refine Cd rfl (fun hc7 => ?_) (fun hc7 => ?_)
 ·(try simp only [sB] at hc7)
  have hq : g.2 ≠ [] := by simpa using hc7
  have hr := elG_P (x := x) hg hq
  refine Cs ?_
  refine Kq rfl (lda rfl rfl .tc u24 rfl ?_) ?_
  ·kernel_rfl
  refine Km rfl ?_
  refine Ku rfl (Oc rfl rfl (Kv fun w hS => rphas_c (g := g) (x := x) (by assumption))) ?_
  refine Ka rfl (Nt (Ce (Xb ?_)))
  exact R1 rfl rfl (by simp only [hr]; rfl)
 ·(try simp only [sB] at hc7)
  have hq : g.2 = [] := by simpa using hc7
  have hr : elG g x ↔ x ≠ [] ∧ val x < val g.1 ∧ Nat.gcd (val x) (val g.1) = 1 := by
   rw [elG, if_pos hq]; exact ⟨fun h => h.2, fun h => ⟨hx, h⟩⟩
  refine Ck (Xa (Cs (Km rfl (Kq rfl (rd_sne rfl rfl rfl) (Km rfl ?_)))))
  refine Nb 13 rfl (fun hg13 => ?_) (fun hg13 => ?_)
  ·(try simp only [sB] at hg13)
   refine Km rfl (Kq rfl (Fa (q := 0) rfl rfl u24 rfl rfl) (Kq rfl (Ld rfl rfl .tc u22) ?_))
   refine Ku rfl (Oc rfl rfl (Kv fun w hS => order_c (a := x) (b := g.1) (by exact hx.2) (by exact hm.2) (by have := hx.1; omega))) ?_
   refine Kq rfl (rd_lss rfl rfl rfl) ?_
   refine Ns 18 rfl (v' := .bool (decide (val x < val g.1))) (congrArg Value.bool (by exact decide_eq_decide.2 (cmpI_neg _ _))) ?_
   refine Kq rfl (Rp rfl rfl rfl) (Km rfl ?_)
   refine Nb 20 rfl (fun hg20 => ?_) (fun hg20 => ?_)
   ·(try simp only [sB] at hg20)
    refine Km rfl (Kq rfl (Fa (q := 0) rfl rfl u24 rfl rfl) (Kq rfl (Ld rfl rfl .tc u22) ?_))
    refine Ku rfl (Oc rfl rfl (Kv fun w hS => rcommon_c (a := x) (b := g.1) (by exact hx) (by exact hm))) ?_
    refine Kq rfl (rd_seq rfl rfl rfl) ?_
    refine Ns 25 rfl (v' := .bool (decide (Nat.gcd (val x) (val g.1) = 1))) (congrArg Value.bool (by simp [canon_one])) ?_
    refine Kq rfl (Rp rfl rfl rfl) (Ka rfl (Nt (Ce ?_)))
    exact R1 rfl rfl (by rw [show decide (elG g x) = decide (x ≠ [] ∧ val x < val g.1 ∧ Nat.gcd (val x) (val g.1) = 1) from decide_eq_decide.2 hr]; (simp [*, tup]; done))
   ·(try simp only [sB] at hg20)
    refine Kt rfl (Kt rfl (Kt rfl (Kt rfl (Kt rfl (Kq rfl (Rq rfl rfl rfl) (Ka rfl (Nt (Ce ?_))))))))
    exact R1 rfl rfl (by rw [show decide (elG g x) = decide (x ≠ [] ∧ val x < val g.1 ∧ Nat.gcd (val x) (val g.1) = 1) from decide_eq_decide.2 hr]; (simp [*, tup]; done))
  ·(try simp only [sB] at hg13)
   refine Kt rfl (Kt rfl (Kt rfl (Kt rfl (Kt rfl (Kq rfl (Rq rfl rfl rfl) (Km rfl (Kt rfl (Kt rfl (Kt rfl (Kt rfl (Kt rfl (Kq rfl (Rq rfl rfl rfl) (Ka rfl (Nt (Ce ?_)))))))))))))))
   exact R1 rfl rfl (by rw [show decide (elG g x) = decide (x ≠ [] ∧ val x < val g.1 ∧ Nat.gcd (val x) (val g.1) = 1) from decide_eq_decide.2 hr]; (simp [*, tup]; done))
theorem rghas_c {g : Gp} {x : Bs} {w : World} (hm8 : g.1.length ≤ 8) :
  Cw 24 #[gV g, .string (S x)] w (.bool (decide (chkG g = 0 ∧ elG g x))) := by
 refine En [] [(0, gV g), (1, .string (S x))] Tryz.func24 rfl Tryz.ntmps24 rfl (Ac rfl (Ac rfl (An _))) Fn ?_
 refine Cs ?_
 refine Kh rfl (Oy rfl rfl) ?_
 intro b2
 refine Ka rfl (Nt (Cs ?_))
 refine Kq rfl (lda rfl rfl .tc u24 rfl ?_) ?_
 ·kernel_rfl
 refine Ku rfl (Oc rfl rfl (Kv fun w hS => rgcheck_c (g := g))) ?_
 refine Kq rfl (rd_eql rfl rfl rfl) (Km rfl ?_)
 refine Nb 8 rfl (fun hg8 => ?_) (fun hg8 => ?_)
 ·(try simp only [sB] at hg8)
  refine Km rfl ?_
  refine Ku rfl (Oc rfl rfl (Kv fun w hS => rvalid_c (a := x))) ?_
  refine Kq rfl (Rp rfl rfl rfl) (Km rfl ?_)
  refine Nb 12 rfl (fun hg12 => ?_) (fun hg12 => ?_)
  ·(try simp only [sB] at hg12)
   refine Kq rfl (lda rfl rfl .tc u24 rfl ?_) ?_
   ·kernel_rfl
   refine Km rfl ?_
   refine Ku rfl (Oc rfl rfl (Kv fun w hS => rghas0_c (g := g) (x := x) (by assumption) (by assumption) (by assumption))) ?_
   refine Kq rfl (Rp rfl rfl rfl) (Ka rfl (Nt (Ce ?_)))
   exact R1 rfl rfl (by (simp [*, tup, elG]; done))
  ·(try simp only [sB] at hg12)
   refine Kt rfl (Kt rfl (Kt rfl (Kq rfl (Rq rfl rfl rfl) (Ka rfl (Nt (Ce ?_))))))
   exact R1 rfl rfl (by (simp [*, tup, elG]; done))
 ·(try simp only [sB] at hg8)
  refine Kt rfl (Kt rfl (Kq rfl (Rq rfl rfl rfl) (Km rfl (Kt rfl (Kt rfl (Kt rfl (Kq rfl (Rq rfl rfl rfl) (Ka rfl (Nt (Ce ?_))))))))))
  exact R1 rfl rfl (by (simp [*, tup, elG]; done))
abbrev PK := Gp × Bs × Bs
abbrev pkV (k : PK) : Value := .agg #[.string (S k.1.1), .string (S k.1.2), .string (S k.2.1), .string (S k.2.2)]
abbrev Opn := Zs × Zs
def okK (k : PK) : Prop := okN k.1.1 ∧ okN k.1.2 ∧ okN k.2.1 ∧ okN k.2.2
instance (k : PK) : Decidable (okK k) := inferInstanceAs (Decidable (_ ∧ _))
def elK (k : PK) : Prop := elG k.1 k.2.1 ∧ elG k.1 k.2.2 ∧ k.2.1 ≠ canon 1 ∧ k.2.2 ≠ canon 1 ∧ k.2.1 ≠ k.2.2
instance (k : PK) : Decidable (elK k) := inferInstanceAs (Decidable (_ ∧ _))
def chkK (k : PK) : Int := if ¬ okK k then 3 else if chkG k.1 ≠ 0 then chkG k.1 else if ¬ elK k then 13 else 0
theorem pdform_c {k : PK} {w : World} :
  Cw 72 #[pkV k] w (.bool (decide (okK k))) := by
 refine En [] [(0, pkV k)] Tryz.func72 rfl Tryz.ntmps72 rfl (Ac rfl (An _)) Fn ?_
 refine Cs ?_
 refine Kh rfl (Oy rfl rfl) ?_
 intro b1
 refine Ka rfl (Nt (Cs (Kq rfl (Fa (q := 0) rfl rfl u26 rfl rfl) (Kq rfl (Fa (q := 0) rfl rfl u24 rfl rfl) (Kq rfl (Ld rfl rfl .tc u22) ?_)))))
 refine Ku rfl (Oc rfl rfl (Kv fun w hS => valid_c (a := k.1.1))) ?_
 refine Km rfl ?_
 refine Nb 7 rfl (fun hg7 => ?_) (fun hg7 => ?_)
 ·(try simp only [sB] at hg7)
  refine Kq rfl (Fa (q := 0) rfl rfl u26 rfl rfl) (Kq rfl (Fa (q := 1) rfl rfl u24 rfl rfl) (Kq rfl (Ld rfl rfl .tc u22) ?_))
  refine Ku rfl (Oc rfl rfl (Kv fun w hS => valid_c (a := k.1.2))) ?_
  refine Kq rfl (Rp rfl rfl rfl) (Km rfl ?_)
  refine Nb 13 rfl (fun hg13 => ?_) (fun hg13 => ?_)
  ·(try simp only [sB] at hg13)
   refine Kq rfl (Fa (q := 2) rfl rfl u26 rfl rfl) (Kq rfl (Ld rfl rfl .tc u22) ?_)
   refine Ku rfl (Oc rfl rfl (Kv fun w hS => valid_c (a := k.2.1))) ?_
   refine Kq rfl (Rp rfl rfl rfl) (Km rfl ?_)
   refine Nb 18 rfl (fun hg18 => ?_) (fun hg18 => ?_)
   ·(try simp only [sB] at hg18)
    refine Kq rfl (Fa (q := 3) rfl rfl u26 rfl rfl) (Kq rfl (Ld rfl rfl .tc u22) ?_)
    refine Ku rfl (Oc rfl rfl (Kv fun w hS => valid_c (a := k.2.2))) ?_
    refine Kq rfl (Rp rfl rfl rfl) (Ka rfl (Nt (Ce ?_)))
    exact R1 rfl rfl (by simp [*, tup, okK])
   ·(try simp only [sB] at hg18)
    refine Kt rfl (Kt rfl (Kt rfl (Kq rfl (Rq rfl rfl rfl) (Ka rfl (Nt (Ce ?_))))))
    exact R1 rfl rfl (by simp [*, tup, okK])
  ·(try simp only [sB] at hg13)
   refine Kt rfl (Kt rfl (Kt rfl (Kq rfl (Rq rfl rfl rfl) (Km rfl (Kt rfl (Kt rfl (Kt rfl (Kq rfl (Rq rfl rfl rfl) (Ka rfl (Nt (Ce ?_)))))))))))
   exact R1 rfl rfl (by simp [*, tup, okK])
 ·(try simp only [sB] at hg7)
  refine Kt rfl (Kt rfl (Kt rfl (Kt rfl (Kq rfl (Rq rfl rfl rfl) (Km rfl (Kt rfl (Kt rfl (Kt rfl (Kq rfl (Rq rfl rfl rfl) (Km rfl (Kt rfl (Kt rfl (Kt rfl (Kq rfl (Rq rfl rfl rfl) (Ka rfl (Nt (Ce ?_)))))))))))))))))
  exact R1 rfl rfl (by simp [*, tup, okK])
theorem rpdform_c {k : PK} {w : World} :
  Cw 40 #[pkV k] w (.bool (decide (okK k))) := by
 refine En [] [(0, pkV k)] Tryz.func40 rfl Tryz.ntmps40 rfl (Ac rfl (An _)) Fn ?_
 refine Cs ?_
 refine Kh rfl (Oy rfl rfl) ?_
 intro b1
 refine Ka rfl (Nt (Cs (Kq rfl (Fa (q := 0) rfl rfl u26 rfl rfl) (Kq rfl (Fa (q := 0) rfl rfl u24 rfl rfl) (Kq rfl (Ld rfl rfl .tc u22) ?_)))))
 refine Ku rfl (Oc rfl rfl (Kv fun w hS => rvalid_c (a := k.1.1))) ?_
 refine Km rfl ?_
 refine Nb 7 rfl (fun hg7 => ?_) (fun hg7 => ?_)
 ·(try simp only [sB] at hg7)
  refine Kq rfl (Fa (q := 0) rfl rfl u26 rfl rfl) (Kq rfl (Fa (q := 1) rfl rfl u24 rfl rfl) (Kq rfl (Ld rfl rfl .tc u22) ?_))
  refine Ku rfl (Oc rfl rfl (Kv fun w hS => rvalid_c (a := k.1.2))) ?_
  refine Kq rfl (Rp rfl rfl rfl) (Km rfl ?_)
  refine Nb 13 rfl (fun hg13 => ?_) (fun hg13 => ?_)
  ·(try simp only [sB] at hg13)
   refine Kq rfl (Fa (q := 2) rfl rfl u26 rfl rfl) (Kq rfl (Ld rfl rfl .tc u22) ?_)
   refine Ku rfl (Oc rfl rfl (Kv fun w hS => rvalid_c (a := k.2.1))) ?_
   refine Kq rfl (Rp rfl rfl rfl) (Km rfl ?_)
   refine Nb 18 rfl (fun hg18 => ?_) (fun hg18 => ?_)
   ·(try simp only [sB] at hg18)
    refine Kq rfl (Fa (q := 3) rfl rfl u26 rfl rfl) (Kq rfl (Ld rfl rfl .tc u22) ?_)
    refine Ku rfl (Oc rfl rfl (Kv fun w hS => rvalid_c (a := k.2.2))) ?_
    refine Kq rfl (Rp rfl rfl rfl) (Ka rfl (Nt (Ce ?_)))
    exact R1 rfl rfl (by simp [*, tup, okK])
   ·(try simp only [sB] at hg18)
    refine Kt rfl (Kt rfl (Kt rfl (Kq rfl (Rq rfl rfl rfl) (Ka rfl (Nt (Ce ?_))))))
    exact R1 rfl rfl (by simp [*, tup, okK])
  ·(try simp only [sB] at hg13)
   refine Kt rfl (Kt rfl (Kt rfl (Kq rfl (Rq rfl rfl rfl) (Km rfl (Kt rfl (Kt rfl (Kt rfl (Kq rfl (Rq rfl rfl rfl) (Ka rfl (Nt (Ce ?_)))))))))))
   exact R1 rfl rfl (by simp [*, tup, okK])
 ·(try simp only [sB] at hg7)
  refine Kt rfl (Kt rfl (Kt rfl (Kt rfl (Kq rfl (Rq rfl rfl rfl) (Km rfl (Kt rfl (Kt rfl (Kt rfl (Kq rfl (Rq rfl rfl rfl) (Km rfl (Kt rfl (Kt rfl (Kt rfl (Kq rfl (Rq rfl rfl rfl) (Ka rfl (Nt (Ce ?_)))))))))))))))))
  exact R1 rfl rfl (by simp [*, tup, okK])
theorem pdcheck_c {k : PK} {w : World} (hm8 : k.1.1.length ≤ 8) :
  Cw 38 #[pkV k] w (.int .i64 (chkK k)) := by
 refine En [] [(0, pkV k)] Tryz.func38 rfl Tryz.ntmps38 rfl (Ac rfl (An _)) Fn ?_
 refine Cs ?_
 refine Kh rfl (Oy rfl rfl) ?_
 intro b1
 refine Ka rfl (Nt (Cq (Cs ?_)))
 refine Kq rfl (lda rfl rfl .tc u26 rfl ?_) ?_
 ·kernel_rfl
 refine Ku rfl (Oc rfl rfl (Kv fun w hS => pdform_c (k := k))) ?_
 refine Kq rfl (Rt rfl rfl) (Nt ?_)
 refine Cd rfl (fun hc7 => ?_) (fun hc7 => ?_)
 ·(try simp only [sB] at hc7)
  refine Cs (Ka rfl (Nt (Ce (Xb ?_))))
  exact R1 rfl rfl (by rw [chkK, if_pos (by simpa using hc7)]; rfl)
 ·(try simp only [sB] at hc7)
  have hok : okK k := by simpa using hc7
  refine Ck (Xa (Cq (Cs (Kq rfl (Fa (q := 0) rfl rfl u26 rfl rfl) ?_))))
  refine Kq rfl (ldp rfl rfl .tc u24 rfl (by kernel_rfl : _ = some 2) (by rfl) (by rfl)) ?_
  refine Ku rfl (Oc rfl rfl (Kv fun w hS => pcheck_c (g := k.1))) ?_
  refine Ka rfl (Nt (Cs (Km rfl (Kq rfl (rd_neq rfl rfl rfl) (Nt ?_)))))
  refine Cd rfl (fun hc12 => ?_) (fun hc12 => ?_)
  ·(try simp only [sB] at hc12)
   refine Cs (Km rfl (Ka rfl (Nt (Ce (Xb ?_)))))
   exact R1 rfl rfl (by rw [chkK, if_neg (fun h => h hok), if_pos (by simpa using hc12)]; rfl)
  ·(try simp only [sB] at hc12)
   have hg : chkG k.1 = 0 := by simpa using hc12
   refine Ck (Xa (Cs ?_))
   refine Ku rfl (Oc rfl rfl (Kv fun w hS => of_c (n := 1) (by omega))) ?_
   refine Ka rfl (Nt (Cq ?_))
   refine WC.joinP (σ := Unit) [] (fun gq => [(47, .bool (decide (¬ (elG k.1 k.2.1 ∧ elG k.1 k.2.2 ∧ k.2.1 ≠ canon 1 ∧ k.2.2 ≠ canon 1 ∧ k.2.1 ≠ k.2.2))))]) (fun gq => True) (S0 _) ?_ ?_
   ·skip
    refine Cg (Kq rfl (Fa (q := 0) rfl rfl u26 rfl rfl) ?_)
    refine Kq rfl (ldp rfl rfl .tc u24 rfl (by kernel_rfl : _ = some 2) (by rfl) (by rfl)) ?_
    refine Kq rfl (Fa (q := 2) rfl rfl u26 rfl rfl) (Kq rfl (Ld rfl rfl .tc u22) ?_)
    refine Ku rfl (Oc rfl rfl (Kv fun w hS => pwhas_c (g := k.1) (x := k.2.1) (by assumption))) ?_
    refine Ns 19 rfl (v' := .bool (decide (elG k.1 k.2.1))) (congrArg Value.bool (by simp [hg])) ?_
    refine Kq rfl (Rt rfl rfl) (Km rfl ?_)
    refine Nb 21 rfl (fun hg21 => ?_) (fun hg21 => ?_)
    ·(try simp only [sB] at hg21)
     refine Kt rfl (Kt rfl (Kt rfl (Kt rfl (Kt rfl (Kt rfl (Kq rfl (Rp rfl rfl rfl) (Km rfl (Kt rfl (Kt rfl (Kt rfl (Kt rfl (Kq rfl (Rp rfl rfl rfl) (Km rfl (Kt rfl (Kt rfl (Kt rfl (Kt rfl (Kq rfl (Rp rfl rfl rfl) (Km rfl (Kt rfl (Kt rfl (Kt rfl (Kt rfl (Kt rfl (Kq rfl (Rp rfl rfl rfl) (Nn ?_))))))))))))))))))))))))))
     refine WX.joinP (()) (S0 _) (by refine (Sc ?_ (S0 _)) <;> ((refine slot_b rfl ?_; (try dsimp only); (simp [*]; done)))) ?_ (by (exact fun _ h => h))
     (try dsimp only)
     done
    ·(try simp only [sB] at hg21)
     refine Kq rfl (Fa (q := 0) rfl rfl u26 rfl rfl) ?_
     refine Kq rfl (ldp rfl rfl .tc u24 rfl (by kernel_rfl : _ = some 2) (by rfl) (by rfl)) ?_
     refine Kq rfl (Fa (q := 3) rfl rfl u26 rfl rfl) (Kq rfl (Ld rfl rfl .tc u22) ?_)
     refine Ku rfl (Oc rfl rfl (Kv fun w hS => pwhas_c (g := k.1) (x := k.2.2) (by assumption))) ?_
     refine Ns 26 rfl (v' := .bool (decide (elG k.1 k.2.2))) (congrArg Value.bool (by simp [hg])) ?_
     refine Kq rfl (Rt rfl rfl) (Kq rfl (Rq rfl rfl rfl) (Km rfl ?_))
     refine Nb 29 rfl (fun hg29 => ?_) (fun hg29 => ?_)
     ·(try simp only [sB] at hg29)
      refine Kt rfl (Kt rfl (Kt rfl (Kt rfl (Kq rfl (Rp rfl rfl rfl) (Km rfl (Kt rfl (Kt rfl (Kt rfl (Kt rfl (Kq rfl (Rp rfl rfl rfl) (Km rfl (Kt rfl (Kt rfl (Kt rfl (Kt rfl (Kt rfl (Kq rfl (Rp rfl rfl rfl) (Nn ?_))))))))))))))))))
      refine WX.joinP (()) (S0 _) (by refine (Sc ?_ (S0 _)) <;> ((refine slot_b rfl ?_; (try dsimp only); (simp [*]; done)))) ?_ (by (exact fun _ h => h))
      (try dsimp only)
      done
     ·(try simp only [sB] at hg29)
      refine Kq rfl (Fa (q := 2) rfl rfl u26 rfl rfl) (Kq rfl (Ld rfl rfl .tc u22) ?_)
      refine Km rfl (Kq rfl (rd_seq rfl rfl rfl) (Kq rfl (Rq rfl rfl rfl) (Km rfl ?_)))
      refine Nb 35 rfl (fun hg35 => ?_) (fun hg35 => ?_)
      ·(try simp only [sB] at hg35)
       refine Kt rfl (Kt rfl (Kt rfl (Kt rfl (Kq rfl (Rp rfl rfl rfl) (Km rfl (Kt rfl (Kt rfl (Kt rfl (Kt rfl (Kt rfl (Kq rfl (Rp rfl rfl rfl) (Nn ?_))))))))))))
       refine WX.joinP (()) (S0 _) (by refine (Sc ?_ (S0 _)) <;> ((refine slot_b rfl ?_; (try dsimp only); (simp [*]; done)))) ?_ (by (exact fun _ h => h))
       (try dsimp only)
       done
      ·(try simp only [sB] at hg35)
       refine Kq rfl (Fa (q := 3) rfl rfl u26 rfl rfl) (Kq rfl (Ld rfl rfl .tc u22) ?_)
       refine Km rfl (Kq rfl (rd_seq rfl rfl rfl) (Kq rfl (Rq rfl rfl rfl) (Km rfl ?_)))
       refine Nb 41 rfl (fun hg41 => ?_) (fun hg41 => ?_)
       ·(try simp only [sB] at hg41)
        refine Kt rfl (Kt rfl (Kt rfl (Kt rfl (Kt rfl (Kq rfl (Rp rfl rfl rfl) (Nn ?_))))))
        refine WX.joinP (()) (S0 _) (by refine (Sc ?_ (S0 _)) <;> ((refine slot_b rfl ?_; (try dsimp only); (simp [*]; done)))) ?_ (by (exact fun _ h => h))
        (try dsimp only)
        done
       ·(try simp only [sB] at hg41)
        refine Kq rfl (Fa (q := 2) rfl rfl u26 rfl rfl) (Kq rfl (Ld rfl rfl .tc u22) ?_)
        refine Kq rfl (Fa (q := 3) rfl rfl u26 rfl rfl) (Kq rfl (Ld rfl rfl .tc u22) ?_)
        refine Kq rfl (rd_seq rfl rfl rfl) (Kq rfl (Rq rfl rfl rfl) (Nn ?_))
        refine WX.joinP (()) (S0 _) (by refine (Sc ?_ (S0 _)) <;> ((refine slot_b rfl ?_; (try dsimp only); (simp [*]; done)))) ?_ (by (exact fun _ h => h))
        (try dsimp only)
        done
   ·rintro _ hmeet; (try dsimp only at hmeet ⊢)
    refine Cd rfl (fun hc47 => ?_) (fun hc47 => ?_)
    ·(try simp only [sB] at hc47)
     refine Cs (Ka rfl (Nt (Ce (Xb ?_))))
     exact R1 rfl rfl (by rw [chkK, if_neg (fun h => h hok), if_neg (fun h => h hg), if_pos (show ¬ elK k from hc47)]; rfl)
    ·(try simp only [sB] at hc47)
     refine Ck (Xa (Cs (Ka rfl (Nt (Ce ?_)))))
     exact R1 rfl rfl (by rw [chkK, if_neg (fun h => h hok), if_neg (fun h => h hg), if_neg (show ¬ ¬ elK k from hc47)]; rfl)
theorem rpdcheck_c {k : PK} {w : World} (hm8 : k.1.1.length ≤ 8) :
  Cw 22 #[pkV k] w (.int .i64 (chkK k)) := by
 refine En [] [(0, pkV k)] Tryz.func22 rfl Tryz.ntmps22 rfl (Ac rfl (An _)) Fn ?_
 refine Cs ?_
 refine Kh rfl (Oy rfl rfl) ?_
 intro b1
 refine Ka rfl (Nt (Cq (Cs ?_)))
 refine Kq rfl (lda rfl rfl .tc u26 rfl ?_) ?_
 ·kernel_rfl
 refine Ku rfl (Oc rfl rfl (Kv fun w hS => rpdform_c (k := k))) ?_
 refine Kq rfl (Rt rfl rfl) (Nt ?_)
 refine Cd rfl (fun hc6 => ?_) (fun hc6 => ?_)
 ·(try simp only [sB] at hc6)
  refine Cs (Ka rfl (Nt (Ce (Xb ?_))))
  exact R1 rfl rfl (by rw [chkK, if_pos (by simpa using hc6)]; rfl)
 ·(try simp only [sB] at hc6)
  have hok : okK k := by simpa using hc6
  refine Ck (Xa (Cq (Cs (Kq rfl (Fa (q := 0) rfl rfl u26 rfl rfl) ?_))))
  refine Kq rfl (ldp rfl rfl .tc u24 rfl (by kernel_rfl : _ = some 2) (by rfl) (by rfl)) ?_
  refine Ku rfl (Oc rfl rfl (Kv fun w hS => rgcheck_c (g := k.1))) ?_
  refine Ka rfl (Nt (Cs (Km rfl (Kq rfl (rd_neq rfl rfl rfl) (Nt ?_)))))
  refine Cd rfl (fun hc11 => ?_) (fun hc11 => ?_)
  ·(try simp only [sB] at hc11)
   refine Cs (Km rfl (Ka rfl (Nt (Ce (Xb ?_)))))
   exact R1 rfl rfl (by rw [chkK, if_neg (fun h => h hok), if_pos (by simpa using hc11)]; rfl)
  ·(try simp only [sB] at hc11)
   have hg : chkG k.1 = 0 := by simpa using hc11
   refine Ck (Xa (Cq ?_))
   refine WC.joinP (σ := Unit) [] (fun gq => [(45, .bool (decide (¬ (elG k.1 k.2.1 ∧ elG k.1 k.2.2 ∧ k.2.1 ≠ canon 1 ∧ k.2.2 ≠ canon 1 ∧ k.2.1 ≠ k.2.2))))]) (fun gq => True) (S0 _) ?_ ?_
   ·skip
    refine Cf [0, 1, 2, 3, 4, 5, 6, 7, 8, 9, 10, 11, 12, 13, 14, 17, 15, 16, 18, 19, 20, 23, 21, 22, 24, 25, 26, 27, 28, 29, 30, 31, 32] [] [0, 0, 0, 0, 1, 0, 0, 0, 0, 0, 0, 1, 0, 0, 0, 0, 0, 1, 0, 0, 0, 0, 0, 1, 0, 0, 0, 0, 0, 0, 0, 0, 0] (by kernel_rfl) (by kernel_rfl) rfl ?_
    refine Kj rfl (Fa (q := 0) rfl rfl u26 rfl rfl) ?_
    refine Kj rfl (ldp rfl rfl .tc u24 rfl (by kernel_rfl : _ = some 2) (by rfl) (by rfl)) ?_
    refine Kj rfl (Fa (q := 2) rfl rfl u26 rfl rfl) (Kj rfl (Ld rfl rfl .tc u22) ?_)
    refine Jv rfl rfl rfl rfl rfl (fun ext => Oc rfl rfl (Kv fun w hS => rghas_c (g := k.1) (x := k.2.1) (by assumption))) ?_
    refine WJ.set 17 rfl (v' := .bool (decide (elG k.1 k.2.1))) (congrArg Value.bool (by simp [hg])) ?_
    refine Kj rfl (Rt rfl rfl) (Kj rfl (Rm rfl rfl) ?_)
    refine WJ.bool 19 rfl (fun hg19 => ?_) (fun hg19 => ?_)
    ·(try simp only [sB] at hg19)
     refine Js rfl rfl rfl rfl (Js rfl rfl rfl rfl (Js rfl rfl rfl rfl (Js rfl rfl rfl rfl (Js rfl rfl rfl rfl (Js rfl rfl rfl rfl (Kj rfl (Rp rfl rfl rfl) (Kj rfl (Rm rfl rfl) (Js rfl rfl rfl rfl (Js rfl rfl rfl rfl (Js rfl rfl rfl rfl (Js rfl rfl rfl rfl (Kj rfl (Rp rfl rfl rfl) (Kj rfl (Rm rfl rfl) (Js rfl rfl rfl rfl (Js rfl rfl rfl rfl (Js rfl rfl rfl rfl (Js rfl rfl rfl rfl (Kj rfl (Rp rfl rfl rfl) (Kj rfl (Rm rfl rfl) (Js rfl rfl rfl rfl (Js rfl rfl rfl rfl (Js rfl rfl rfl rfl (Js rfl rfl rfl rfl (Js rfl rfl rfl rfl (Kj rfl (Rp rfl rfl rfl) ?_)))))))))))))))))))))))))
     refine WJ.nil ?_
     refine Nn ?_
     refine WX.joinP (()) (S0 _) (by refine (Sc ?_ (S0 _)) <;> ((refine slot_b rfl ?_; (try dsimp only); (simp [*]; done)))) ?_ (by (exact fun _ h => h))
     (try dsimp only)
     done
    ·(try simp only [sB] at hg19)
     refine Kj rfl (Fa (q := 0) rfl rfl u26 rfl rfl) ?_
     refine Kj rfl (ldp rfl rfl .tc u24 rfl (by kernel_rfl : _ = some 2) (by rfl) (by rfl)) ?_
     refine Kj rfl (Fa (q := 3) rfl rfl u26 rfl rfl) (Kj rfl (Ld rfl rfl .tc u22) ?_)
     refine Jv rfl rfl rfl rfl rfl (fun ext => Oc rfl rfl (Kv fun w hS => rghas_c (g := k.1) (x := k.2.2) (by assumption))) ?_
     refine WJ.set 24 rfl (v' := .bool (decide (elG k.1 k.2.2))) (congrArg Value.bool (by simp [hg])) ?_
     refine Kj rfl (Rt rfl rfl) (Kj rfl (Rq rfl rfl rfl) (Kj rfl (Rm rfl rfl) ?_))
     refine WJ.bool 27 rfl (fun hg27 => ?_) (fun hg27 => ?_)
     ·(try simp only [sB] at hg27)
      refine Js rfl rfl rfl rfl (Js rfl rfl rfl rfl (Js rfl rfl rfl rfl (Js rfl rfl rfl rfl (Kj rfl (Rp rfl rfl rfl) (Kj rfl (Rm rfl rfl) (Js rfl rfl rfl rfl (Js rfl rfl rfl rfl (Js rfl rfl rfl rfl (Js rfl rfl rfl rfl (Kj rfl (Rp rfl rfl rfl) (Kj rfl (Rm rfl rfl) (Js rfl rfl rfl rfl (Js rfl rfl rfl rfl (Js rfl rfl rfl rfl (Js rfl rfl rfl rfl (Js rfl rfl rfl rfl (Kj rfl (Rp rfl rfl rfl) ?_)))))))))))))))))
      refine WJ.nil ?_
      refine Nn ?_
      refine WX.joinP (()) (S0 _) (by refine (Sc ?_ (S0 _)) <;> ((refine slot_b rfl ?_; (try dsimp only); (simp [*]; done)))) ?_ (by (exact fun _ h => h))
      (try dsimp only)
      done
     ·(try simp only [sB] at hg27)
      refine Jv rfl rfl rfl rfl rfl (fun ext => Oc rfl rfl (Kv fun w hS => rof_c (n := 1) (by omega))) ?_
      refine Kj rfl (Fa (q := 2) rfl rfl u26 rfl rfl) (Kj rfl (Ld rfl rfl .tc u22) ?_)
      refine Kj rfl (rd_seq rfl rfl rfl) (Kj rfl (Rq rfl rfl rfl) (Kj rfl (Rm rfl rfl) ?_))
      refine WJ.bool 33 rfl (fun hg33 => ?_) (fun hg33 => ?_)
      ·(try simp only [sB] at hg33)
       refine Js rfl rfl rfl rfl (Js rfl rfl rfl rfl (Js rfl rfl rfl rfl (Js rfl rfl rfl rfl (Kj rfl (Rp rfl rfl rfl) (Kj rfl (Rm rfl rfl) (Js rfl rfl rfl rfl (Js rfl rfl rfl rfl (Js rfl rfl rfl rfl (Js rfl rfl rfl rfl (Js rfl rfl rfl rfl (Kj rfl (Rp rfl rfl rfl) ?_)))))))))))
       refine WJ.nil ?_
       refine Nn ?_
       refine WX.joinP (()) (S0 _) (by refine (Sc ?_ (S0 _)) <;> ((refine slot_b rfl ?_; (try dsimp only); (simp [*]; done)))) ?_ (by (exact fun _ h => h))
       (try dsimp only)
       done
      ·(try simp only [sB] at hg33)
       refine Jv rfl rfl rfl rfl rfl (fun ext => Oc rfl rfl (Kv fun w hS => rof_c (n := 1) (by omega))) ?_
       refine Kj rfl (Fa (q := 3) rfl rfl u26 rfl rfl) (Kj rfl (Ld rfl rfl .tc u22) ?_)
       refine Kj rfl (rd_seq rfl rfl rfl) (Kj rfl (Rq rfl rfl rfl) (Kj rfl (Rm rfl rfl) ?_))
       refine WJ.bool 39 rfl (fun hg39 => ?_) (fun hg39 => ?_)
       ·(try simp only [sB] at hg39)
        refine Js rfl rfl rfl rfl (Js rfl rfl rfl rfl (Js rfl rfl rfl rfl (Js rfl rfl rfl rfl (Js rfl rfl rfl rfl (Kj rfl (Rp rfl rfl rfl) ?_)))))
        refine WJ.nil ?_
        refine Nn ?_
        refine WX.joinP (()) (S0 _) (by refine (Sc ?_ (S0 _)) <;> ((refine slot_b rfl ?_; (try dsimp only); (simp [*]; done)))) ?_ (by (exact fun _ h => h))
        (try dsimp only)
        done
       ·(try simp only [sB] at hg39)
        refine Kj rfl (Fa (q := 2) rfl rfl u26 rfl rfl) (Kj rfl (Ld rfl rfl .tc u22) ?_)
        refine Kj rfl (Fa (q := 3) rfl rfl u26 rfl rfl) (Kj rfl (Ld rfl rfl .tc u22) ?_)
        refine Kj rfl (rd_seq rfl rfl rfl) (Kj rfl (Rq rfl rfl rfl) ?_)
        refine WJ.nil ?_
        refine Nn ?_
        refine WX.joinP (()) (S0 _) (by refine (Sc ?_ (S0 _)) <;> ((refine slot_b rfl ?_; (try dsimp only); (simp [*]; done)))) ?_ (by (exact fun _ h => h))
        (try dsimp only)
        done
   ·rintro _ hmeet; (try dsimp only at hmeet ⊢)
    refine Cd rfl (fun hc45 => ?_) (fun hc45 => ?_)
    ·(try simp only [sB] at hc45)
     refine Cs (Ka rfl (Nt (Ce (Xb ?_))))
     exact R1 rfl rfl (by rw [chkK, if_neg (fun h => h hok), if_neg (fun h => h hg), if_pos (show ¬ elK k from hc45)]; rfl)
    ·(try simp only [sB] at hc45)
     refine Ck (Xa (Cs (Ka rfl (Nt (Ce ?_)))))
     exact R1 rfl rfl (by rw [chkK, if_neg (fun h => h hok), if_neg (fun h => h hg), if_neg (show ¬ ¬ elK k from hc45)]; rfl)
abbrev Tm := Bs × Int × Zs
abbrev Qn := Int × Bs × List Tm
abbrev Sm := List Gp × List Bs × List Qn
abbrev QA := Qn × Option Addr × Nat
structure SA where
 gs : List Gp
 vs : List Bs
 es : List QA
 ga : Option Addr
 gc : Nat
 va : Option Addr
 vc : Nat
 ea : Option Addr
 ec : Nat
def okT (nv : Nat) (t : Tm) : Prop := (0 ≤ t.2.1 ∧ t.2.1 < nv) ∧ okN t.1 ∧ okZ t.2.2
instance (nv : Nat) (t : Tm) : Decidable (okT nv t) := inferInstanceAs (Decidable (_ ∧ _))
def okQh (ng : Nat) (q : Qn) : Prop := (0 ≤ q.1 ∧ q.1 < ng) ∧ okN q.2.1
instance (ng : Nat) (q : Qn) : Decidable (okQh ng q) := inferInstanceAs (Decidable (_ ∧ _))
def okQ (ng nv : Nat) (q : Qn) : Prop := okQh ng q ∧ ∀ t ∈ q.2.2, okT nv t
instance (ng nv : Nat) (q : Qn) : Decidable (okQ ng nv q) := inferInstanceAs (Decidable (_ ∧ _))
def okG (g : Gp) : Prop := okN g.1 ∧ okN g.2
instance (g : Gp) : Decidable (okG g) := inferInstanceAs (Decidable (_ ∧ _))
def formS (s : Sm) : Prop := (∀ g ∈ s.1, okG g) ∧ (∀ v ∈ s.2.1, okN v) ∧ ∀ q ∈ s.2.2, okQ s.1.length s.2.1.length q
instance (s : Sm) : Decidable (formS s) := inferInstanceAs (Decidable (_ ∧ _))
def sizeS (s : Sm) : Prop := (s.1.length ≤ 8 ∧ s.2.1.length ≤ 64 ∧ s.2.2.length ≤ 64) ∧ ∀ q ∈ s.2.2, q.2.2.length ≤ 64
instance (s : Sm) : Decidable (sizeS s) := inferInstanceAs (Decidable (_ ∧ _))
def elQ (gs : List Gp) (q : Qn) : Prop := elG (gs.getD q.1.toNat default) q.2.1 ∧ ∀ t ∈ q.2.2, elG (gs.getD q.1.toNat default) t.1
instance (gs : List Gp) (q : Qn) : Decidable (elQ gs q) := inferInstanceAs (Decidable (_ ∧ _))
def elS (s : Sm) : Prop := (∀ g ∈ s.1, chkG g = 0) ∧ ∀ q ∈ s.2.2, elQ s.1 q
instance (s : Sm) : Decidable (elS s) := inferInstanceAs (Decidable (_ ∧ _))
def ordS (gs : List Gp) : Bs := ((gs.find? fun g => decide (g.2 ≠ [])).map (·.2)).getD []
def kdQ (gs : List Gp) (vs : List Bs) (q : Qn) : Prop := (gs.getD q.1.toNat default).2 ≠ [] ∨ ∀ t ∈ q.2.2, vs.getD t.2.1.toNat default ≠ []
instance (gs : List Gp) (vs : List Bs) (q : Qn) : Decidable (kdQ gs vs q) := inferInstanceAs (Decidable (_ ∨ _))
def kdS (s : Sm) : Prop := (∀ v ∈ s.2.1, v ≠ []) ∨ (ordS s.1 ≠ [] ∧ ∀ g ∈ s.1, ¬ (g.2 ≠ [] ∧ g.2 ≠ ordS s.1)) ∧ ∀ q ∈ s.2.2, kdQ s.1 s.2.1 q
instance (s : Sm) : Decidable (kdS s) := inferInstanceAs (Decidable (_ ∨ _))
def inV (q v : Bs) (x : Zs) : Prop := if v = [] then x.1 = false ∧ val x.2 < val q else val x.2 < val v
instance (q v : Bs) (x : Zs) : Decidable (inV q v x) := by unfold inV; infer_instance
def inR (s : Sm) (w : List Zs) : Prop := ∀ i, i < s.2.1.length → inV (ordS s.1) (s.2.1.getD i default) (w.getD i default)
instance (s : Sm) (w : List Zs) : Decidable (inR s w) := inferInstanceAs (Decidable (∀ i, i < s.2.1.length → _))
abbrev Un (m x : Nat) : Prop := Nat.gcd x m = 1
theorem un_mul {m x y : Nat} (h1 : Un m x) (h2 : Un m y) : Un m (x * y) := Nat.Coprime.mul_left h1 h2
theorem un_pow {m x : Nat} (n : Nat) (h : Un m x) : Un m (x ^ n) := Nat.Coprime.pow_left n h
theorem un_mod {m x : Nat} : Un m (x % m) ↔ Un m x := by unfold Un; rw [← Nat.gcd_rec, Nat.gcd_comm]
theorem un_inv {m x : Nat} (hm : 0 < m) (h : Un m x) : x * invN x m % m = 1 % m := by
 obtain ⟨y, hy⟩ := gcd_unit hm h; exact invN_spec hm hy
theorem un_invU {m x : Nat} (hm : 0 < m) (h : Un m x) : Un m (invN x m) := unit_gcd (x := x) (by rw [Nat.mul_comm]; exact un_inv hm h)
theorem un_bs {m x : Nat} (hm : 0 < m) (h : Un m x) (e : Int) : Un m (if e < 0 then invN x m else x) := by split; exact un_invU hm h; exact h
theorem un_powI {m x : Nat} (hm : 0 < m) (h : Un m x) (e : Int) : Un m (powI m x e) := un_mod.2 (un_pow _ (un_bs hm h e))
theorem un_cancel {m a b c : Nat} (hm : 0 < m) (hc : Un m c) (h : a * c % m = b * c % m) : a % m = b % m := by
 have e := un_inv hm hc
 have h1 : ∀ x, x * c * invN c m % m = x % m := fun x => by rw [Nat.mul_assoc, ← mmr, e, mmr, Nat.mul_one]
 rw [← h1 a, ← h1 b, ← mml (a * c), h, mml]
theorem un_prodL {α : Type} {m : Nat} (f : α → Nat) : ∀ l : List α, (∀ x ∈ l, Un m (f x)) → Un m (prodL f l)
 | [], _ => by simp [prodL, Un]
 | x :: l, h => un_mul (h x (by simp)) (un_prodL f l fun y hy => h y (List.mem_cons_of_mem _ hy))
abbrev Or (m q x : Nat) : Prop := x ^ q % m = 1 % m
theorem or_mul {m q x y : Nat} (h1 : Or m q x) (h2 : Or m q y) : Or m q (x * y) := by
 unfold Or at *; rw [Nat.mul_pow, ← mml, h1, mml, Nat.one_mul, h2]
theorem one_pow_mod (m n : Nat) : (1 % m) ^ n % m = 1 % m := by rw [pow_mod2, Nat.one_pow]
theorem or_pow {m q x : Nat} (n : Nat) (h : Or m q x) : Or m q (x ^ n) := by
 unfold Or at *; rw [← Nat.pow_mul, Nat.mul_comm, Nat.pow_mul, ← pow_mod2, h, one_pow_mod]
theorem or_mod {m q x : Nat} : Or m q (x % m) ↔ Or m q x := by unfold Or; rw [pow_mod2]
theorem or_inv {m q x : Nat} (hm : 0 < m) (hu : Un m x) (h : Or m q x) : Or m q (invN x m) := by
 have e : (x * invN x m) ^ q % m = 1 % m := by rw [← pow_mod2, un_inv hm hu, one_pow_mod]
 unfold Or at *; rw [Nat.mul_pow, ← mml, h, mml, Nat.one_mul] at e; exact e
theorem or_powI {m q x : Nat} (hm : 0 < m) (hu : Un m x) (h : Or m q x) (e : Int) : Or m q (powI m x e) := by
 refine or_mod.2 (or_pow _ ?_); split; exact or_inv hm hu h; exact h
theorem or_prodL {α : Type} {m q : Nat} (f : α → Nat) : ∀ l : List α, (∀ x ∈ l, Or m q (f x)) → Or m q (prodL f l)
 | [], _ => by simp [prodL, Or]
 | x :: l, h => or_mul (h x (by simp)) (or_prodL f l fun y hy => h y (List.mem_cons_of_mem _ hy))
theorem elG_prod {g : Gp} {l : List Bs} {es : List Zs} (h : (prodS g l es).2 = 0) : elG g (prodS g l es).1 := by
 have h0 : chkP g l es (decide (l.length = es.length)) = 0 := by
  unfold prodS at h; split at h
  ·assumption
  ·exact h
 obtain ⟨hok, hokz, hg, hs, hel⟩ := chkP_ok h0
 obtain ⟨hm, hq, hm2, _, _⟩ := chkG_ok hg
 rw [prodS, if_pos h0]
 have hm0 : 0 < val g.1 := by omega
 have hmem : ∀ p ∈ l.zip es, elG g p.1 := fun p hp => hel _ (List.of_mem_zip hp).1
 have hU : Un (val g.1) (prodL (fun p => powI (val g.1) (val p.1) (zv p.2)) (l.zip es)) := un_prodL _ _ fun p hp => un_powI hm0 (elG_gcd hg (hmem p hp)) _
 have hlt : prodL (fun p => powI (val g.1) (val p.1) (zv p.2)) (l.zip es) % val g.1 < val g.1 := Nat.mod_lt _ hm0
 have hbig : prodL (fun p => powI (val g.1) (val p.1) (zv p.2)) (l.zip es) % val g.1 < Big := Nat.lt_trans hlt (okN_val hm)
 refine ⟨okN_can hbig, fun h1 => ?_, by rw [val_canon]; exact hlt, ?_⟩
 ·have h2 : val (canon (prodL (fun p => powI (val g.1) (val p.1) (zv p.2)) (l.zip es) % val g.1)) = 0 := by dsimp only at h1; rw [h1]; rfl
  rw [val_canon] at h2
  have := un_mod.2 hU; rw [h2] at this; simp [Un] at this; omega
 ·rw [val_canon]; split
  ·exact un_mod.2 hU
  ·rename_i hq0
   have : Or (val g.1) (val g.2) (prodL (fun p => powI (val g.1) (val p.1) (zv p.2)) (l.zip es)) := or_prodL _ _ fun p hp => or_powI hm0 (elG_gcd hg (hmem p hp)) (by
    have := (hmem p hp).2.2.2; rw [if_neg hq0] at this; rw [Or, this, Nat.mod_eq_of_lt (by omega)]) _
   have h2 := or_mod.2 this; rw [Or, Nat.mod_eq_of_lt (show 1 < val g.1 by omega)] at h2; exact h2
theorem powI_nat {m x n : Nat} : powI m x (n : Int) = x ^ n % m := by rw [powI, if_neg (by omega), Int.natAbs_natCast]
theorem powI_mod {m x : Nat} (e : Int) : powI m x e % m = powI m x e := by rw [powI, Nat.mod_mod]
end Go.Proofs.YtddoigmffkmpcaaGreatDoor
