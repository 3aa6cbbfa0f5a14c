/-
  Parts of the walk: Fs3 Ssb Ssc Ssd Sse Tcp Tcq.
-/
import Derived.Test.YtchonigdjamphaaGreatDoorQ18
namespace Go.Proofs.YtchonigdjamphaaGreatDoor
open Go.RowKit
set_option linter.unusedSimpArgs false
set_option linter.unusedVariables false
set_option maxHeartbeats 600000
set_option maxRecDepth 20000
theorem Er {x : Zs} {w : World} :
  Cw 184 #[zV x] w (.bool (decide (¬ okZ x))) := by
 refine En [] [(0, zV x)] Tryz.func184 I Tryz.ntmps184 I (Ac I (An _)) Fn (Eq ?_)
 intro b1
 refine Ka I (Nt (Cs (Kq I (lda I I .tc u68 I ?_) ?_)))
 ·kernel_rfl
 refine Kc I (fun w hS => bR (x := x)) (Yt I (le ?_))
 exact IE
theorem vi {r : Gp} {s : SA} {x : Bs} {w : World} :
  Cw 39 #[ia r s, cl0, .string (S x)] w (.bool true) := by
 refine En [] [(0, ia r s), (1, cl0), (2, .string (S x))] Tryz.func39 I Tryz.ntmps39 I (Ac I (Ac I (Ac I (An _)))) Fn (Eq ?_)
 intro b3
 refine Gc ?_
 intro b4
 refine Ka I (Nt (Cs (HA ?_)))
 refine Yo I u52 (Yi I (Ns 11 I (v' := .bool true) (by rfl) ?_))
 refine Km I (T4 I (T4 I (T4 I (Kt I (Yp I (le ?_))))))
 exact Iq
def iR (m : Nat) (q : Qn) (c : Nat) (xs : List Zs) : Nat → Nat
 | 0 => aZ m (val q.2.1) (-(c : Int))
 | n + 1 => iR m q c xs n * aZ m (aZ m (val (q.2.2.getD n default).1) (zv (q.2.2.getD n default).2.2)) (zv (xs.getD (q.2.2.getD n default).2.1.toNat default)) % m
def lW (gs : List Gp) (c : Nat) (xs : List Zs) (q : Qn) : Bs := ae (iR (val (gs.getD q.1.toNat default).1) q c xs q.2.2.length)
def cg (s : Sm) (c : Nat) (xs : List Zs) : List Bs := s.2.2.map (lW s.1 c xs)
theorem nH {g : Gp} {q : Qn} {c : Nat} {xs : List Zs} (hg : aT g = 0) (ht : elG g q.2.1) (hb : ∀ t ∈ q.2.2, elG g t.1) : ∀ {n : Nat}, n ≤ q.2.2.length → elG g (ae (iR (val g.1) q c xs n))
 | 0, _ => fK hg ht _
 | n + 1, h => by
  have h1 := nH (c := c) (xs := xs) hg ht hb (Nat.le_of_succ_le h)
  have h2 := fK hg (fK hg (hb _ (aj q.2.2 n h)) (zv (q.2.2.getD n default).2.2)) (zv (xs.getD (q.2.2.getD n default).2.1.toNat default))
  have h3 := ym hg h1 h2
  rw [ah, ah, ah] at h3
  exact h3
theorem E9 {c : Bs} (h : okN c) : lj (bP c) = ofZ (-(val c : Int)) ∧ okZ (ofZ (-(val c : Int))) := by
 have hB := a7 h
 have h1 : bP c = ofZ (val c : Int) := by rw [dv h, eI, bT h]
 exact ⟨by rw [h1, qK (by rw [Bh]; exact hB)], bZ.2 (by rw [Int.natAbs_neg, Bh]; exact hB)⟩
theorem zr {s : SA} {c : Bs} {xs : List Zs} {a : Option Addr} {ca : Nat} {w : World} {ok : Nat → Prop} (hF1 : (Fact.sl s.ga (gps s.gs)).holds ok w) (hF2 : (Fact.sl s.ea (qas s.es)).holds ok w) (hF3 : (Fact.sl a (ar xs)).holds ok w) (hM : ∀ f ∈ (s.es.map qaF), f.holds ok w) (hs : saL s) (hfo : bc s.core) (hel : elS s.core) (hc : okN c) (hz : ∀ x ∈ xs, okZ x) (hx : xs.length = s.vs.length) :
  Calls Tryz.prog 188 #[saV s, .string (S c), .slice a xs.length ca] w fun e w' => ∃ gx : Rs, e = .returned (gx.val (cg s.core (val c) xs).length) ∧ (True) ∧ Below w.heap.size w w' ∧ ∀ x ∈ ([Fact.sl gx.a (am (cg s.core (val c) xs))] : List Fact), x.holds (fun b => w.heap.size ≤ b) w' := by
 obtain ⟨hlg, hlv, hle, hlt, hlm⟩ := hs
 obtain ⟨hng, hnz⟩ := E9 hc
 refine En (Fact.sl s.ga (gps s.gs) :: Fact.sl s.ea (qas s.es) :: Fact.sl a (ar xs) :: (s.es.map qaF)) [(0, saV s), (1, .string (S c)), (2, .slice a xs.length ca)] Tryz.func188 I Tryz.ntmps188 I (Ac I (Ac I (Ac I (An _)))) (Fc (af hF1) (Fc (af hF2) (Fc (af hF3) (aE hM)))) (Eq ?_)
 intro b3
 refine Ka I (Nt (Cs (GI ?_))); refine Gz ?_
 refine Yo I u41 (Km I (Nt (Cb (Lo (σ := Nat × (Option Nat) × Nat × (List Value)) [(1, _), (2, _), (3, _), (18, _), (19, _)] (fun gq => [(7, .slice (gq.2.1.map fun b => ⟨b, 0, none⟩) gq.1 gq.2.2.1), (20, .int .i64 (gq.1 : Int))]) (fun gq => gq.1 ≤ s.es.length ∧ gq.2.2.1 = gq.1 + gq.2.2.2.length) (fun gq => s.es.length - gq.1) (fun gq => [⟨gq.2.1, am ((s.es.take gq.1).map fun q => lW s.gs (val c) xs q.1) ++ gq.2.2.2, 22⟩, ⟨some b3, [.slice s.ga s.gs.length s.gc, .slice s.va s.vs.length s.vc, .slice s.ea s.es.length s.ec], 43⟩]) (fun gq => (Fact.sl s.ga (gps s.gs) :: Fact.sl s.ea (qas s.es) :: Fact.sl a (ar xs) :: s.es.map qaF)) (0, none, 0, []) (S5 I I I I I) (S2 I I) (by (try dsimp only); exact ⟨Af _, rfl⟩) (by exact fun w h => h.nil _) ?_))))
 rintro ⟨i, o, cp, sp⟩ hinv1; (try dsimp only at hinv1 ⊢)
 obtain ⟨hi, hcp⟩ := hinv1
 refine ne (fun hc21 => ?_) (fun hc21 => ?_)
 ·have hil : i < s.es.length := by omega
  have hkm := aj s.es i hil
  obtain ⟨q, hq⟩ : ∃ q, Keep (q = s.es.getD i default) := ⟨_, rfl⟩
  rw [← show q = _ from hq] at hkm
  have hfq := hfo.2.2 _ (At hkm)
  have hq0 := hfq.1.1.1
  have hgl : q.1.1.toNat < s.gs.length := by have := hfq.1.1.1; have := hfq.1.1.2; simp only [SA.core] at this; omega
  obtain ⟨g, hg⟩ : ∃ g, Keep (g = s.gs.getD q.1.1.toNat default) := ⟨_, rfl⟩
  have hg0 : aT g = 0 := by rw [show g = _ from hg]; exact hel.1 _ (aj s.gs _ hgl)
  have hg8 : g.1.length ≤ 8 := by rw [show g = _ from hg]; exact hlm _ (aj _ _ hgl)
  have het : elG g q.1.2.1 := by rw [show g = _ from hg]; exact (hel.2 _ (At hkm)).1
  have heb : ∀ t ∈ q.1.2.2, elG g t.1 := by rw [show g = _ from hg]; exact (hel.2 _ (At hkm)).2
  have hlt1 := hlt q hkm
  have e1 : dW g [q.1.2.1] [ofZ (-(val c : Int))] = (ae (iR (val g.1) q.1 (val c) xs 0), 0) := by rw [gJ hg0 het hnz, dE]; rfl
  refine FO ?_; refine FA ?_
  refine FH ?_
  refine FT ?_
  intro b9
  rw [← show q = _ from hq]
  refine FF ?_; refine Nt (Cs (Gi ?_))
  refine Hn ?_
  refine Fv ?_
  refine FK ?_
  rw [← show g = _ from hg]
  refine Gb ?_
  intro b10
  refine FF ?_; refine Nt (Cq (WC.free (K := [⟨some b10, [.string (S g.1), .string (S g.2)], 26⟩, ⟨some b9, [.int .i64 q.1.1, .string (S q.1.2.1), .slice q.2.1 q.1.2.2.length q.2.2], 84⟩]) (fs0 := []) [3, 4, 5, 0, 1, 2, 6, 7, 8, 9, 10, 11] [] [0, 0, 0, 0, 1, 1, 1, 0, 0, 0, 0, 0] (by kernel_rfl) (by kernel_rfl) I ?_))
  refine GP ?_
  refine GZ ?_
  refine Jv I I I I I (fun ext => Oc I I (Kv fun w hS => tg (x := bP c))) ?_
  rw [hng]
  refine Kj I (lda I I .tc u26 I ?_) ?_
  ·kernel_rfl
  refine Kj I (Fa (q := 1) I I u84 I I) (Gg ?_)
  refine Jv I I I I I (fun ext => Oc I I (Kv fun w hS => nB (g := g) (x := q.1.2.1) (z := ofZ (-(val c : Int))) (by exact hg8))) ?_
  rw [e1]
  refine Gd ?_
  refine WJ.nil ?_
  refine Nt (Cq (Cs (Hw ?_)))
  refine Yo I u82 (Km I (Nt (Cb (Lo (σ := Nat) [(1, _), (2, _), (3, _), (7, _), (10, _), (18, _), (19, _), (20, _), (41, _), (42, _)] (fun gq => [(11, .string (S (ae (iR (val g.1) q.1 (val c) xs gq)))), (43, .int .i64 (gq : Int))]) (fun gq => gq ≤ q.1.2.2.length) (fun gq => q.1.2.2.length - gq) (fun gq => [⟨some b10, [.string (S g.1), .string (S g.2)], 26⟩, ⟨some b9, [.int .i64 q.1.1, .string (S q.1.2.1), .slice q.2.1 q.1.2.2.length q.2.2], 84⟩, ⟨o, am ((s.es.take i).map fun q => lW s.gs (val c) xs q.1) ++ sp, 22⟩, ⟨some b3, [.slice s.ga s.gs.length s.gc, .slice s.va s.vs.length s.vc, .slice s.ea s.es.length s.ec], 43⟩]) (fun gq => (Fact.sl q.2.1 (tms q.1.2.2) :: Fact.sl s.ga (gps s.gs) :: Fact.sl s.ea (qas s.es) :: Fact.sl a (ar xs) :: s.es.map qaF)) (0) (Sc I (Sc I (Sc I (Sc I (Sc I (Sc I (Sc I (Sc I (Sc I (Sc I (S0 _))))))))))) (S2 I I) (by (try dsimp only); exact Af _) (by exact fun w h => h.add (h.moreo (more := s.es.map qaF) _ (At hkm))) ?_))))
  rintro j hinv2; (try dsimp only at hinv2 ⊢)
  obtain hj := hinv2
  refine ne (fun hc44 => ?_) (fun hc44 => ?_)
  ·have hjl : j < q.1.2.2.length := by omega
   have htm := aj q.1.2.2 j hjl; obtain ⟨t, ht⟩ : ∃ t, Keep (t = q.1.2.2.getD j default) := ⟨_, rfl⟩; rw [← show t = _ from ht] at htm; have htk := hfq.2 t htm; have htb := heb t htm; have ht0 := htk.1.1; have htx : t.2.1.toNat < xs.length := by have := htk.1.2; simp only [SA.core] at this; omega
   have hxo := hz _ (aj xs _ htx); have f1 : dW g [t.1] [t.2.2] = (ae (aZ (val g.1) (val t.1) (zv t.2.2)), 0) := gJ hg0 htb htk.2.2; have f2 : dW g [ae (aZ (val g.1) (val t.1) (zv t.2.2))] [xs.getD t.2.1.toNat default] = (ae (aZ (val g.1) (aZ (val g.1) (val t.1) (zv t.2.2)) (zv (xs.getD t.2.1.toNat default))), 0) := by rw [gJ hg0 (fK hg0 htb _) hxo, ah]
   have f3 : pP g (ae (iR (val g.1) q.1 (val c) xs j)) (ae (aZ (val g.1) (aZ (val g.1) (val t.1) (zv t.2.2)) (zv (xs.getD t.2.1.toNat default)))) = (ae (iR (val g.1) q.1 (val c) xs (j + 1)), 0) := by
    have h9 := fK hg0 (fK hg0 htb (zv t.2.2)) (zv (xs.getD t.2.1.toNat default)); rw [ah] at h9; rw [qM hg0 (nH hg0 het heb hinv2) h9, ah, ah, iR, ← show t = _ from ht]
   refine FO ?_; refine Ga ?_; refine Gf ?_; refine GQ ?_; intro b14; rw [← show t = _ from ht]; refine Nu I I (Sa I I I .tc) (Nt (Cs (Kq I (lda I I .tc u26 I ?_) ?_)))
   ·kernel_rfl
   refine Kf 0 I dG I I I .tc u22 ?_; refine Kq I (Fa (q := 2) I I dG I I) (GF ?_); refine Kc I (fun w hS => nB (g := g) (x := t.1) (z := t.2.2) (by exact hg8)) ?_; rw [f1]; refine Fs ?_; refine Cq (WC.free (K := [⟨some b14, [.string (S t.1), .int .i64 t.2.1, .bool t.2.2.1, .string (S t.2.2.2)], 136⟩, ⟨some b10, [.string (S g.1), .string (S g.2)], 26⟩]) (fs0 := [Fact.sl a (ar xs)]) [0, 1, 2, 3, 4, 5, 6, 7, 8, 9, 10, 11] [] [0, 0, 0, 0, 0, 0, 0, 1, 0, 0, 0, 0] (by kernel_rfl) (by kernel_rfl) I ?_); refine Kj I (lda I I .tc u26 I ?_) ?_
   ·kernel_rfl
   refine Ft ?_; refine Kj I (Fa (q := 1) I I dG I I) (HP ?_); refine Fw ?_; refine FC ?_; refine Jv I I I I I (fun ext => Oc I I (Kv fun w hS => nB (g := g) (x := ae (aZ (val g.1) (val t.1) (zv t.2.2))) (z := xs.getD t.2.1.toNat default) (by exact hg8))) ?_; rw [f2]; refine GP ?_; refine Hu ?_; refine Hu ?_; refine GR ?_; refine WJ.nil ?_; refine Nt (Cg (Kq I (lda I I .tc u26 I ?_) ?_))
   ·kernel_rfl
   refine Km I (Km I (Kc I (fun w hS => qC (g := g) (a := ae (iR (val g.1) q.1 (val c) xs j)) (b := ae (aZ (val g.1) (aZ (val g.1) (val t.1) (zv t.2.2)) (zv (xs.getD t.2.1.toNat default)))) (by exact hg8)) ?_)); rw [f3]; refine Km I (Ye I (Ye I (Ka I (Nn (Xd (Xa (Cg (Kq I (Rz I I I (by omega)) (Km I (Nn (Lx (j + 1) (by (try dsimp only); omega) (Sc I (Sc I (Sc I (Sc I (Sc I (Sc I (Sc I (Sc I (Sc I (Sc I (S0 _))))))))))) (by refine (Sc ?_ (Sc ?_ (S0 _))) <;> (rfl)) ?_ (by (exact aq))))))))))))); (try dsimp only); exact hjl
  ·refine Fq ?_; obtain rfl : j = q.1.2.2.length := by omega
   have hls : (am ((s.es.take i).map fun q => lW s.gs (val c) xs q.1)).length = i := by simp [am]; omega
   have hmq : ae (iR (val g.1) q.1 (val c) xs q.1.2.2.length) = lW s.gs (val c) xs (s.es.getD i default).1 := by rw [← show q = _ from hq, lW, ← show g = _ from hg]
   rw [hmq]; refine Xa (Cg (Km I (Km I (Kh I (aN I I u33 (by kernel_rfl : _ = some (some (.string (S [])), 1, 16)) I (by simp only [List.map]; rfl) I I ?_ (by decide)) ?_))))
   ·simp [Value.cells]
   intro b77; refine Kh I (ol I u33 (by kernel_rfl : _ = some (some (.string (S [])), 1, 16)) I .tc I I (fun w hS => by (exact hS.os)) (by rfl) (by refine ⟨?_, ?_, ?_, ?_⟩ <;> first | exact hls | (try simp) <;> omega) (by (simp [Value.oneCell']; done))) ?_; rintro ⟨o78, c78, s78⟩; refine WL.pu ?_; intro hg78; (try dsimp only at hg78 ⊢); refine Ka I (Nn (Xd (Xa (Cg (Kq I (Rz I I I (by omega)) (Km I (Nn (Lx ((i + 1, o78, c78, s78)) (by (try dsimp only); omega) (S5 I I I I I) (by refine (Sc ?_ (Sc ?_ (S0 _))) <;> (rfl)) ?_ (by exact fun w h => by rw [qz _ hil]; exact aq _ h))))))))); (try dsimp only); exact ⟨hil, by omega⟩
 ·refine Fq ?_
  obtain rfl : i = s.es.length := by omega
  rw [Ai]
  refine Xa (Cs (Km I (le ?_)))
  exact Rn I (.tmp I .nil) fun w' hS => ⟨⟨o, cp, sp⟩, by rw [cg, Ag, Ag]; rfl, trivial, hS.below, by rw [show cg s.core (val c) xs = s.es.map fun q => lW s.gs (val c) xs q.1 by simp [cg, Function.comp_def]]; exact Fc hS.ocf Fn⟩
def gn (r : Gp) (s : Sm) (c : Bs) (xs : List Zs) : List Bs × Int :=
 if bdE r s ≠ 0 then ([], bdE r s)
 else if ¬ (okN c ∧ bO xs) then ([], 3)
 else if ¬ (val c < val r.1) then ([], 2)
 else if xs.length ≠ s.2.1.length then ([], 6)
 else if ¬ rsR r (ak s.1) s.2.1 xs then ([], 2)
 else (cg s (val c) xs, 0)
theorem zy {r : Gp} {s : SA} {c : Bs} {xs : List Zs} {xa : Option Addr} {xc : Nat} {w : World} {ok : Nat → Prop} (hF1 : (Fact.sl s.ga (gps s.gs)).holds ok w) (hF2 : (Fact.sl s.va (vrs s.vs)).holds ok w) (hF3 : (Fact.sl s.ea (qas s.es)).holds ok w) (hF4 : (Fact.sl xa (ar xs)).holds ok w) (hM : ∀ f ∈ (s.es.map qaF), f.holds ok w) (hs : saL s) (h4 : r.1.length ≤ 8) (h5 : r.2.length ≤ 8) (h6 : ∀ v ∈ s.vs, v.length ≤ 8) (hxl : xs.length ≤ 100000) :
  Calls Tryz.prog 99 #[.agg #[.string (S r.1), .string (S r.2)], saV s, .string (S c), .slice xa xs.length xc] w fun e w' => ∃ gx : Rs, e = .returned (.tuple #[gx.val (gn r s.core c xs).1.length, .int .i64 (gn r s.core c xs).2]) ∧ (True) ∧ Below w.heap.size w w' ∧ ∀ x ∈ ([Fact.sl gx.a (am (gn r s.core c xs).1)] : List Fact), x.holds (fun b => ok b ∨ w.heap.size ≤ b) w' := by
 refine enter (S := St (fun b => ok b ∨ w.heap.size ≤ b) w [] (Fact.sl s.ga (gps s.gs) :: Fact.sl s.va (vrs s.vs) :: Fact.sl s.ea (qas s.es) :: Fact.sl xa (ar xs) :: (s.es.map qaF))) (L := [(0, .agg #[.string (S r.1), .string (S r.2)]), (1, saV s), (2, .string (S c)), (3, .slice xa xs.length xc)]) Tryz.func99 rfl Tryz.ntmps99 rfl (Ac rfl (Ac rfl (Ac rfl (Ac rfl (An _))))) (St.start (fun _ h => Or.inr h) (bL (Fc hF1 (Fc hF2 (Fc hF3 (Fc hF4 hM)))))) ?_
 refine Eq ?_
 intro b4
 refine Gc ?_
 intro b5
 refine Ka I (Ka I (Nt (Cs (Kq I (lda I I .tc u24 I ?_) ?_))))
 ·kernel_rfl
 refine Kq I (lda I I .tc u43 I ?_) ?_
 ·kernel_rfl
 refine F3 ?_
 rintro ⟨g18, h18⟩
 refine WL.pu ?_
 intro hg18; (try dsimp only [List.cons_append, List.nil_append] at hg18 ⊢)
 refine GV ?_; refine Ka I (Nt (Cq (Fz (fun hc23 => ?_) (fun hc23 => ?_))))
 ·have hb : bdE r s.core ≠ 0 := fun h => hc23 (by rw [bdS, Aa (fun h1 => h1 h)])
  have he : (bdS r s.core).2 = bdE r s.core := by rw [bdS, Ae hb]
  have hr : gn r s.core c xs = ([], bdE r s.core) := by rw [gn, Ae hb]
  refine H7 ?_; refine le ?_; refine Xb ?_
  exact IA
 ·obtain ⟨hb, hbs⟩ := iv (show (bdS r s.core).2 = 0 by (simpa using hc23))
  rw [hbs]
  obtain ⟨hrk, hck, hr2, hrq⟩ := dg hb
  obtain ⟨hfo, _, hel, _⟩ := cX hck
  have hoo : okN (ak s.gs) := cm hfo.1
  have hlv := hs.2.1
  refine Ck (Xa (Cq (WC.joinP (σ := Unit) [(2, _), (3, _), (4, _), (5, _), (11, _)] (fun gq => [(32, .bool (decide (¬ (okN c ∧ bO xs))))]) (fun gq => True) (S5 I I I I I) ?_ ?_)))
  ·skip
   refine Cg (Km I (Kc I (fun w hS => ay (a := c)) (Yt I (Km I (Nc 28 I (fun hg28 => ?_) (fun hg28 => ?_))))))
   ·refine T2 I (Kt I (Yp I (Nn (WX.joinP (()) (S5 I I I I I) (by refine (Sc ?_ (S0 _)) <;> ((refine ao rfl ?_; (try dsimp only); (simp [*]; done)))) ?_ (fun _ h => h))))); (try dsimp only); done
   ·refine Km I (Kc I (fun w hS => nm (l := xs) (by (exact hS.sl)) (by assumption)) (Yt I (Yq I (Nn (WX.joinP (()) (S5 I I I I I) (by refine (Sc ?_ (S0 _)) <;> ((refine ao rfl ?_; (try dsimp only); (simp [*]; done)))) ?_ (fun _ h => h)))))); (try dsimp only); done
  ·rintro _ hmeet; (try dsimp only at hmeet ⊢); refine Ci I (fun hc32 => ?_) (fun hc32 => ?_)
   ·have hr : gn r s.core c xs = ([], 3) := by rw [gn, Aa (fun h => h hb), Ae hc32]
    refine Cs (Ka I (le ?_)); refine Xb ?_; exact Im
   ·obtain ⟨hc, hzx⟩ := Ah.1 hc32; refine GO ?_; refine Hi ?_; refine Kc I (fun w hS => cZ (a := c) (b := r.1)) (Yh I (Ns 37 I (v' := .bool (decide (val r.1 ≤ val c))) (congrArg Value.bool (by exact Ak.2 (by rw [a8 hc hrk.1]; exact ek _ _))) ?_)); refine Nt (Ci I (fun hc37 => ?_) (fun hc37 => ?_))
    ·have hcr : ¬ val c < val r.1 := by omega
     have hr : gn r s.core c xs = ([], 2) := by rw [gn, Aa (fun h => h hb), Aa (fun h => h ⟨hc, hzx⟩), Ae hcr]
     refine Cs (Ka I (le ?_)); refine Xb ?_; exact Im
    ·have hcr : val c < val r.1 := by omega
     refine GO ?_; refine Yo I u31 (Ge ?_); refine Yo I u40 (Yj I (Nt (Ci I (fun hc43 => ?_) (fun hc43 => ?_))))
     ·have hl1 : xs.length ≠ s.core.2.1.length := by simp only [SA.core]; omega
      have hr : gn r s.core c xs = ([], 6) := by rw [gn, Aa (fun h => h hb), Aa (fun h => h ⟨hc, hzx⟩), Aa (fun h => h hcr), Ae hl1]
      refine Cs (Ka I (le ?_)); refine Xb ?_; exact Im
     ·have hxv : xs.length = s.vs.length := by omega
      have hl2 : ¬ xs.length ≠ s.core.2.1.length := fun h => h hxv
      have hL : (s.vs.map (aw r (ak s.gs))).length = s.vs.length := Ag _; refine Ck (Xa (Cq (Cs (Ge ?_)))); refine HF ?_; refine Lp (σ := Nat) [(2, _), (3, _), (5, _), (11, _), (45, _), (46, _)] (fun gq => [(47, .int .i64 (gq : Int))]) (fun gq => gq ≤ s.vs.length ∧ ∀ j, j < gq → blw (s.vs.getD j default) (xs.getD j default) (val (aw r (ak s.gs) (s.vs.getD j default)).2)) (fun gq => s.vs.length - gq) (0) (S6 I I I I I I) (S1 I) (by (try dsimp only); exact ⟨Af _, fun _ h => absurd h (B6 _)⟩) ?_; rintro i hinv1; (try dsimp only at hinv1 ⊢); obtain ⟨hi, hor⟩ := hinv1; refine ne (fun hc48 => ?_) (fun hc48 => ?_)
      ·have hil : i < s.vs.length := by omega
       have hil2 : i < (s.vs.map (aw r (ak s.gs))).length := by omega
       have him : i < xs.length := by omega
       obtain ⟨v, hv⟩ : ∃ v, Keep (v = s.vs.getD i default) := ⟨_, rfl⟩; obtain ⟨M, hM⟩ : ∃ M, Keep (M = xs.getD i default) := ⟨_, rfl⟩; have hvm : v ∈ s.vs := by rw [show v = _ from hv]; exact aj _ _ hil
       have hMo : okZ M := hzx M (by rw [show M = _ from hM]; exact aj _ _ him); have hlg2 : (s.vs.map (aw r (ak s.gs))).getD i default = aw r (ak s.gs) v := by rw [show v = _ from hv, List.getD_eq_getElem?_getD, A4, Ad hil, List.getD_eq_getElem?_getD, Ad hil]; rfl
       have hlg3 : ((s.vs.map (aw r (ak s.gs))).map (·.2)).getD i default = (aw r (ak s.gs) v).2 := by rw [cq _ _ _ hil2, hlg2]
       have hil3 : i < ((s.vs.map (aw r (ak s.gs))).map (·.2)).length := by rw [Ag]; exact hil2
       have hlo := (iV h4 h5 (h6 v hvm) hoo).2; refine FO ?_; refine Km I (FG ?_); refine Fu ?_; rw [← show v = _ from hv]; refine GK ?_; intro b14; refine Ka I (FF ?_); refine Nt (Cq (WC.free (K := [⟨some b14, [.string (S v)], 132⟩]) (fs0 := [Fact.sl h18.a (am ((s.vs.map (aw r (ak s.gs))).map (·.2))), Fact.sl xa (ar xs)]) [0, 1, 2, 3, 4, 5, 6, 7, 8, 9, 10] [] [0, 0, 0, 0, 0, 0, 0, 0, 0, 1, 0] (by kernel_rfl) (by kernel_rfl) I ?_)); refine Kj I (lda I I .tc bG I ?_) ?_
       ·kernel_rfl
       refine Ft ?_; refine GD ?_; refine HQ ?_; refine WJ.set 56 I (v' := .string (S ((aw r (ak s.gs) v).2))) (congrArg (fun l => Value.string (S l)) (by rw [hlg3])) ?_; refine Ft ?_; refine Fw ?_; refine FC ?_; refine WJ.set 60 I (v' := zV M) (by rw [show M = _ from hM]) ?_; refine Jv I I I I I (fun ext => Oc I I (Kv fun w hS => pq (v := v) (x := M) (n := (aw r (ak s.gs) v).2) (by exact hMo.1) (by exact hlo))) ?_; refine Kj I (Rt I I) ?_; refine WJ.nil ?_; refine Nt (Ci I (fun hc62 => ?_) (fun hc62 => ?_))
       ·have hn : ¬ rsR r (ak s.gs) s.vs xs := fun h => by
         have h1 := h i hil; rw [← show v = _ from hv, ← show M = _ from hM] at h1; exact absurd h1 (by (exact hc62))
        have hr : gn r s.core c xs = ([], 2) := by rw [gn, Aa (fun h => h hb), Aa (fun h => h ⟨hc, hzx⟩), Aa (fun h => h hcr), Aa hl2, Ae hn]
        refine Cs (Ka I (le ?_)); refine FE ?_; exact Im
       ·refine Ck (Xd (Xa (Cg (Kq I (Rz I I I (by omega)) (Km I (Nn (Ly (i + 1) (by (try dsimp only); omega) (S6 I I I I I I) (by refine (Sc ?_ (S0 _)) <;> (rfl)) ?_ (by (exact aq))))))))); (try dsimp only)
        exact ⟨hil, fun j hj => by
          rcases Bc.1 hj with h | h
          ·exact hor j h
          ·subst h; rw [← show v = _ from hv, ← show M = _ from hM]; (simpa using hc62)⟩
      ·refine Fq ?_; obtain rfl : i = s.vs.length := by omega
       have hrr : rsR r (ak s.gs) s.vs xs := hor; have hr : gn r s.core c xs = (cg s.core (val c) xs, 0) := by rw [gn, Aa (fun h => h hb), Aa (fun h => h ⟨hc, hzx⟩), Aa (fun h => h hcr), Aa hl2, Aa (fun h => h hrr)]
       refine Xa (Cs (Kq I (lda I I .tc u43 I ?_) ?_))
       ·kernel_rfl
       refine Km I (Km I (Kh I (Oc I I (bE fun w hS => zr (s := s) (c := c) (xs := xs) (by (exact hS.sl)) (by (exact hS.sl)) (by (exact hS.sl)) (by (exact hS.more)) (by exact hs) (by exact hfo) (by exact hel) (by exact hc) (by exact hzx) (by exact hxv))) ?_)); rintro g67; refine WL.pu ?_; intro hg67; (try dsimp only [List.cons_append, List.nil_append] at hg67 ⊢); refine Ka I (le ?_); exact Rn I (.tmp I (.tmp I .nil)) fun w' hS => ⟨g67, by rw [hr]; rfl, trivial, hS.below, by rw [hr]; exact Fc hS.slk Fn⟩
def j5 (r : Gp) (v : Bs) (x : Zs) : Bs := if v = [] then x.2 else ae (zv x + mkI r v - 1).natAbs
def fV (r : Gp) (vs : List Bs) (ms : List Zs) (n : Nat) : List Bs := (List.range n).map fun i => j5 r (vs.getD i default) (ms.getD i default)
def ez (r : Gp) (s : Sm) (ms : List Zs) : List Bs × Int :=
 if bdE r s ≠ 0 then ([], bdE r s)
 else if ¬ bO ms then ([], 3)
 else if ms.length ≠ s.2.1.length then ([], 6)
 else if ¬ mkR r (ak s.1) s.2.1 ms then ([], 2)
 else (fV r s.2.1 ms s.2.1.length, 0)
theorem vI (r : Gp) (vs : List Bs) (ms : List Zs) (n : Nat) : fV r vs ms (n + 1) = fV r vs ms n ++ [j5 r (vs.getD n default) (ms.getD n default)] := by
 rw [fV, List.range_succ, Bu]; rfl
theorem jd (r : Gp) (vs : List Bs) (ms : List Zs) (n : Nat) : (fV r vs ms n).length = n := by rw [fV, Ag, List.length_range]
theorem y6 : 3 * 256 ^ 24 < Big := by decide +kernel
theorem uB {r : Gp} {v : Bs} (h1 : r.1.length ≤ 8) (h2 : r.2.length ≤ 8) (h3 : v.length ≤ 8) : mkI r v < 256 ^ 24 := by
 have a1 := cz h1; have a2 := cz h2; have a3 := cz h3
 rw [EC]; exact De (De a2 a1) a3
set_option maxHeartbeats 6000000 in
theorem zB {r : Gp} {s : SA} {ms : List Zs} {a : Option Addr} {c : Nat} {w : World} {ok : Nat → Prop} (hF1 : (Fact.sl s.ga (gps s.gs)).holds ok w) (hF2 : (Fact.sl s.va (vrs s.vs)).holds ok w) (hF3 : (Fact.sl s.ea (qas s.es)).holds ok w) (hF4 : (Fact.sl a (ar ms)).holds ok w) (hM : ∀ f ∈ (s.es.map qaF), f.holds ok w) (hs : saL s) (h4 : r.1.length ≤ 8) (h5 : r.2.length ≤ 8) (h6 : ∀ v ∈ s.vs, v.length ≤ 8) (hml : ms.length ≤ 100000) :
  Calls Tryz.prog 44 #[.agg #[.string (S r.1), .string (S r.2)], saV s, .slice a ms.length c] w fun e w' => ∃ gx : Rs, e = .returned (.tuple #[gx.val (ez r s.core ms).1.length, .int .i64 (ez r s.core ms).2]) ∧ ((ez r s.core ms).1.length ≤ gx.cap) ∧ Below w.heap.size w w' ∧ ∀ x ∈ ([Fact.sl gx.a (am (ez r s.core ms).1)] : List Fact), x.holds (fun b => w.heap.size ≤ b) w' := by
 refine En (Fact.sl s.ga (gps s.gs) :: Fact.sl s.va (vrs s.vs) :: Fact.sl s.ea (qas s.es) :: Fact.sl a (ar ms) :: (s.es.map qaF)) [(0, .agg #[.string (S r.1), .string (S r.2)]), (1, saV s), (2, .slice a ms.length c)] Tryz.func44 I Tryz.ntmps44 I (Ac I (Ac I (Ac I (An _)))) (Fc (af hF1) (Fc (af hF2) (Fc (af hF3) (Fc (af hF4) (aE hM))))) (Eq ?_)
 intro b3
 refine Gc ?_
 intro b4
 refine Ka I (Ka I (Nt (Cs (Kq I (lda I I .tc u24 I ?_) ?_))))
 ·kernel_rfl
 refine Kq I (lda I I .tc u43 I ?_) ?_
 ·kernel_rfl
 refine F3 ?_
 rintro ⟨g18, h18⟩
 refine WL.pu ?_
 intro hg18; (try dsimp only [List.cons_append, List.nil_append] at hg18 ⊢)
 refine GV ?_; refine Ka I (Nt (Cq (Fz (fun hc23 => ?_) (fun hc23 => ?_))))
 ·have hb : bdE r s.core ≠ 0 := fun h => hc23 (by rw [bdS, Aa (fun h1 => h1 h)])
  have he : (bdS r s.core).2 = bdE r s.core := by rw [bdS, Ae hb]
  have hr : ez r s.core ms = ([], bdE r s.core) := by rw [ez, Ae hb]
  refine H7 ?_; refine le ?_; refine Xb ?_
  exact Rn I (.tmp I (.tmp I .nil)) fun w' hS => ⟨⟨none, 0, []⟩, by rw [hr, he]; rfl, by rw [hr]; exact Af _, hS.below, by rw [hr]; exact Fc av Fn⟩
 ·obtain ⟨hb, hbs⟩ := iv (show (bdS r s.core).2 = 0 by (simpa using hc23))
  rw [hbs]
  obtain ⟨hrk, hck, hr2, hrq⟩ := dg hb
  obtain ⟨hfo, _, hel, _⟩ := cX hck
  have hoo : okN (ak s.gs) := cm hfo.1
  have hlv := hs.2.1
  refine GO ?_; refine Kc I (fun w hS => nm (l := ms) (by (exact hS.sl)) (by assumption)) (Gs (fun hc27 => ?_) (fun hc27 => ?_))
  ·have hr : ez r s.core ms = ([], 3) := by rw [ez, Aa (fun h => h hb), Ae (by (exact hc27))]
   refine Cs (Ka I (le ?_)); refine Xb ?_; exact Iw
  ·have hz : bO ms := by (exact hc27)
   refine GO ?_; refine Yo I u31 (Ge ?_); refine Yo I u40 (Yj I (Nt (Ci I (fun hc33 => ?_) (fun hc33 => ?_))))
   ·have hl1 : ms.length ≠ s.core.2.1.length := by simp only [SA.core]; omega
    have hr : ez r s.core ms = ([], 6) := by rw [ez, Aa (fun h => h hb), Aa (fun h => h hz), Ae hl1]
    refine Cs (Ka I (le ?_)); refine Xb ?_; exact Iw
   ·have hmv : ms.length = s.vs.length := by omega
    have hl2 : ¬ ms.length ≠ s.core.2.1.length := fun h => h hmv
    have hL : (s.vs.map (aw r (ak s.gs))).length = s.vs.length := Ag _; refine Ck (Xa (Cs (GI ?_))); refine Ge ?_
    refine HF ?_; refine Lo (σ := Nat × (Option Nat) × Nat × (List Value)) [(2, _), (8, _), (35, _), (36, _)] (fun gq => [(11, .slice (gq.2.1.map fun b => ⟨b, 0, none⟩) gq.1 gq.2.2.1), (37, .int .i64 (gq.1 : Int))]) (fun gq => (gq.1 ≤ s.vs.length ∧ gq.2.2.1 = gq.1 + gq.2.2.2.length) ∧ ∀ j, j < gq.1 → blw (s.vs.getD j default) (ms.getD j default) (val (aw r (ak s.gs) (s.vs.getD j default)).1)) (fun gq => s.vs.length - gq.1) (fun gq => [⟨gq.2.1, am (fV r s.vs ms gq.1) ++ gq.2.2.2, 22⟩, ⟨some b4, [.slice s.ga s.gs.length s.gc, .slice s.va s.vs.length s.vc, .slice s.ea s.es.length s.ec], 43⟩, ⟨some b3, [.string (S r.1), .string (S r.2)], 24⟩]) (fun gq => [Fact.sl g18.a (am ((s.vs.map (aw r (ak s.gs))).map (·.1))), Fact.sl s.va (vrs s.vs), Fact.sl a (ar ms)]) (0, none, 0, []) (S4 I I I I) (S2 I I) (by (try dsimp only); exact ⟨⟨Af _, rfl⟩, fun _ h => absurd h (B6 _)⟩) (by exact fun w h => by show St _ _ [⟨none, [] ++ [], _⟩, ⟨some b4, _, _⟩, ⟨some b3, _, _⟩] _ _; exact (aq _ h : St _ _ [⟨some b4, [.slice s.ga s.gs.length s.gc, .slice s.va s.vs.length s.vc, .slice s.ea s.es.length s.ec], _⟩, ⟨some b3, [.string (S r.1), .string (S r.2)], _⟩] [Fact.sl g18.a (am ((s.vs.map (aw r (ak s.gs))).map (·.1))), Fact.sl s.va (vrs s.vs), Fact.sl a (ar ms)] _).nil _) ?_; rintro ⟨i, o, cp, sp⟩ hinv1; (try dsimp only at hinv1 ⊢); obtain ⟨⟨hi, hcp⟩, hor⟩ := hinv1
    refine ne (fun hc38 => ?_) (fun hc38 => ?_)
    ·have hil : i < s.vs.length := by omega
     have hil2 : i < (s.vs.map (aw r (ak s.gs))).length := by omega
     have him : i < ms.length := by omega
     obtain ⟨v, hv⟩ : ∃ v, Keep (v = s.vs.getD i default) := ⟨_, rfl⟩; obtain ⟨M, hM⟩ : ∃ M, Keep (M = ms.getD i default) := ⟨_, rfl⟩; have hvm : v ∈ s.vs := by rw [show v = _ from hv]; exact aj _ _ hil
     have hv8 := h6 v hvm; have hMo : okZ M := hz M (by rw [show M = _ from hM]; exact aj _ _ him); have hlg2 : (s.vs.map (aw r (ak s.gs))).getD i default = aw r (ak s.gs) v := by rw [show v = _ from hv, List.getD_eq_getElem?_getD, A4, Ad hil, List.getD_eq_getElem?_getD, Ad hil]; rfl
     have hlg3 : ((s.vs.map (aw r (ak s.gs))).map (·.1)).getD i default = (aw r (ak s.gs) v).1 := by rw [cq _ _ _ hil2, hlg2]
     have hil3 : i < ((s.vs.map (aw r (ak s.gs))).map (·.1)).length := by rw [Ag]; exact hil2
     have hlo := (iV h4 h5 hv8 hoo).1; have hcl : (am (fV r s.vs ms i)).length = i := by rw [am, Ag, jd]
     have hca : am (fV r s.vs ms (i + 1)) = am (fV r s.vs ms i) ++ [.string (S (j5 r v M))] := by rw [vI, nk, ← show v = _ from hv, ← show M = _ from hM]
     refine FO ?_; refine Km I (FG ?_); refine Fu ?_; rw [← show v = _ from hv]; refine GK ?_; intro b13; refine Ka I (FF ?_); refine Nt (Cq (Cq (WC.free (K := [⟨some b13, [.string (S v)], 132⟩]) (fs0 := [Fact.sl g18.a (am ((s.vs.map (aw r (ak s.gs))).map (·.1))), Fact.sl a (ar ms)]) [0, 1, 2, 3, 4, 5, 6, 7, 8, 9, 10] [] [0, 0, 0, 0, 0, 0, 0, 0, 0, 1, 0] (by kernel_rfl) (by kernel_rfl) I ?_))); refine Kj I (lda I I .tc bG I ?_) ?_
     ·kernel_rfl
     refine Ft ?_; refine GD ?_; refine HQ ?_; refine WJ.set 46 I (v' := .string (S ((aw r (ak s.gs) v).1))) (congrArg (fun l => Value.string (S l)) (by rw [hlg3])) ?_; refine Ft ?_; refine Fw ?_; refine FC ?_; refine WJ.set 50 I (v' := zV M) (by rw [show M = _ from hM]) ?_; refine Jv I I I I I (fun ext => Oc I I (Kv fun w hS => pq (v := v) (x := M) (n := (aw r (ak s.gs) v).1) (by exact hMo.1) (by exact hlo))) ?_; refine Kj I (Rt I I) ?_; refine WJ.nil ?_; refine Nt (Ci I (fun hc52 => ?_) (fun hc52 => ?_))
     ·have hn : ¬ mkR r (ak s.gs) s.vs ms := fun h => by
       have h1 := h i hil; rw [← show v = _ from hv, ← show M = _ from hM] at h1; exact absurd h1 (by (exact hc52))
      have hr : ez r s.core ms = ([], 2) := by rw [ez, Aa (fun h => h hb), Aa (fun h => h hz), Aa hl2, Ae hn]
      refine Cs (Ka I (le ?_)); refine Xb (FE ?_); exact Iw
     ·have hbw : blw v M (val (aw r (ak s.gs) v).1) := by (simpa using hc52)
      have hor2 : ∀ j, j < i + 1 → blw (s.vs.getD j default) (ms.getD j default) (val (aw r (ak s.gs) (s.vs.getD j default)).1) := fun j hj => by
        rcases Bc.1 hj with h | h
        ·exact hor j h
        ·subst h; rw [← show v = _ from hv, ← show M = _ from hM]; exact hbw
      refine GG ?_; refine FI ?_; refine Gx ?_; rw [← show M = _ from hM]; refine FS ?_; intro b14; refine FF ?_; refine Nt (WC.joinO (σ := Zs) [(2, _), (8, _), (11, _), (14, _), (35, _), (36, _), (37, _)] (fun gq => []) (fun gq => gq.2 = j5 r v M) (fun gq => [⟨some b14, [.bool gq.1, .string (S gq.2)], 68⟩, ⟨some b13, [.string (S v)], 132⟩, ⟨o, am (fV r s.vs ms i) ++ sp, 22⟩, ⟨some b4, [.slice s.ga s.gs.length s.gc, .slice s.va s.vs.length s.vc, .slice s.ea s.es.length s.ec], 43⟩, ⟨some b3, [.string (S r.1), .string (S r.2)], 24⟩]) (fun gq => [Fact.sl g18.a (am ((s.vs.map (aw r (ak s.gs))).map (·.1))), Fact.sl s.va (vrs s.vs), Fact.sl a (ar ms)]) (S7 I I I I I I I) ?_ ?_)
      ·skip
       refine Cs (Hc ?_); refine Hr (fun hc59 => ?_) (fun hc59 => ?_)
       ·have hvn : ¬ v = [] := by (exact hc59)
        have hl1 : (aw r (ak s.gs) v).1 = ae (mkI r v) := by rw [aw, Aa hvn]
        have hmB := nJ h4 h5 hv8; have hm24 : mkI r v < 256 ^ 24 := by have := uB h4 h5 hv8; exact this
        have hab : (zv M).natAbs < 256 ^ 24 := by rw [hH]; have := hbw.1; rw [hl1, ah] at this; omega
        have hb24 := y6; have hf : bP (ae (mkI r v)) = ofZ (mkI r v : Int) := iX hmB
        have a1 : gD M (ofZ (mkI r v : Int)) = (ofZ (zv M + mkI r v), 0) := by
         rw [← ex hMo, dE, jn (by omega) (by rw [Bh]; omega), Ae (by omega)]
        have a2 : eO (ofZ (zv M + mkI r v)) (ofZ 1) = (ofZ (zv M + mkI r v - 1), 0) := j8 (by omega) (by decide +kernel) (by omega); have hy : (ofZ (zv M + mkI r v - 1)).2 = j5 r v M := by rw [j5, Aa hvn, ce]
        refine Cq ?_
        refine WC.ordersP [(2, _), (8, _), (11, _), (14, _), (35, _), (36, _), (37, _)] ([⟨some b14, [.bool (ofZ (zv M + mkI r v)).1, .string (S (ofZ (zv M + mkI r v)).2)], 68⟩, ⟨some b13, [.string (S v)], 132⟩, ⟨o, am (fV r s.vs ms i) ++ sp, 22⟩, ⟨some b4, [.slice s.ga s.gs.length s.gc, .slice s.va s.vs.length s.vc, .slice s.ea s.es.length s.ec], 43⟩, ⟨some b3, [.string (S r.1), .string (S r.2)], 24⟩]) ([Fact.sl g18.a (am ((s.vs.map (aw r (ak s.gs))).map (·.1))), Fact.sl s.va (vrs s.vs), Fact.sl a (ar ms)]) (S7 I I I I I I I) [[0, 1, 2, 3, 4, 5, 6, 7, 8, 9, 10], [0, 1, 2, 3, 4, 5, 6, 7, 8, 10, 9], [0, 1, 2, 3, 4, 5, 6, 7, 9, 8, 10], [0, 2, 1, 3, 4, 5, 6, 7, 8, 9, 10], [0, 2, 1, 3, 4, 5, 6, 7, 8, 10, 9], [0, 2, 1, 3, 4, 5, 6, 7, 9, 8, 10], [1, 0, 2, 3, 4, 5, 6, 7, 8, 9, 10], [1, 0, 2, 3, 4, 5, 6, 7, 8, 10, 9], [1, 0, 2, 3, 4, 5, 6, 7, 9, 8, 10], [1, 2, 0, 3, 4, 5, 6, 7, 8, 9, 10], [1, 2, 0, 3, 4, 5, 6, 7, 8, 10, 9], [1, 2, 0, 3, 4, 5, 6, 7, 9, 8, 10], [1, 2, 3, 0, 4, 5, 6, 7, 8, 9, 10], [1, 2, 3, 0, 4, 5, 6, 7, 8, 10, 9], [1, 2, 3, 0, 4, 5, 6, 7, 9, 8, 10], [1, 2, 3, 4, 0, 5, 6, 7, 8, 9, 10], [1, 2, 3, 4, 0, 5, 6, 7, 8, 10, 9], [1, 2, 3, 4, 0, 5, 6, 7, 9, 8, 10], [1, 2, 3, 4, 5, 0, 6, 7, 8, 9, 10], [1, 2, 3, 4, 5, 0, 6, 7, 8, 10, 9], [1, 2, 3, 4, 5, 0, 6, 7, 9, 8, 10], [2, 0, 1, 3, 4, 5, 6, 7, 8, 9, 10], [2, 0, 1, 3, 4, 5, 6, 7, 8, 10, 9], [2, 0, 1, 3, 4, 5, 6, 7, 9, 8, 10], [2, 1, 0, 3, 4, 5, 6, 7, 8, 9, 10], [2, 1, 0, 3, 4, 5, 6, 7, 8, 10, 9], [2, 1, 0, 3, 4, 5, 6, 7, 9, 8, 10], [2, 1, 3, 0, 4, 5, 6, 7, 8, 9, 10], [2, 1, 3, 0, 4, 5, 6, 7, 8, 10, 9], [2, 1, 3, 0, 4, 5, 6, 7, 9, 8, 10], [2, 1, 3, 4, 0, 5, 6, 7, 8, 9, 10], [2, 1, 3, 4, 0, 5, 6, 7, 8, 10, 9], [2, 1, 3, 4, 0, 5, 6, 7, 9, 8, 10], [2, 1, 3, 4, 5, 0, 6, 7, 8, 9, 10], [2, 1, 3, 4, 5, 0, 6, 7, 8, 10, 9], [2, 1, 3, 4, 5, 0, 6, 7, 9, 8, 10]] (by kernel_rfl) (by kernel_rfl) (by simp only [bJ, List.map, Dr, C8]; rfl) ?_ ?_
        ·repeat' (first | exact AllL.nil | refine AllL.cons ?_ ?_)
         all_goals (repeat (first | (refine Km rfl ?_) | (refine Ye rfl ?_) | (refine Kq rfl (lda rfl rfl .tc u68 rfl ?_) ?_; focus kernel_rfl) | (refine Kq rfl (Ib rfl rfl rfl u33 ?_ ?_) ?_; (focus (omega)); (focus ((rw [Ag]; omega)))) | (refine Kq rfl (ldm rfl rfl u22 rfl hil3) ?_; rw [hlg3, hl1]) | (refine Kh rfl (Oc rfl rfl (Kv fun w hS => da (a := ae (mkI r v)))) ?_; intro _; rw [hf]) | (refine Kh rfl (Oc rfl rfl (Kv fun w hS => ku (x := M) (y := ofZ (mkI r v : Int)))) ?_; intro _; rw [a1]) | (refine Ng rfl rfl (sta rfl rfl rfl .tc ?_ ?_ ?_) ?_; (focus kernel_rfl); (focus (simp [Value.oneCell'])); (focus (rfl)); intro _)))
         all_goals (refine Nn ?_; exact WX.midP () (S7 rfl rfl rfl rfl rfl rfl rfl) (fun _ h => h))
        refine Xa (WC.ordersP [(2, _), (8, _), (11, _), (14, _), (35, _), (36, _), (37, _)] ([⟨some b14, [.bool (ofZ (zv M + mkI r v - 1)).1, .string (S (ofZ (zv M + mkI r v - 1)).2)], 68⟩, ⟨some b13, [.string (S v)], 132⟩, ⟨o, am (fV r s.vs ms i) ++ sp, 22⟩, ⟨some b4, [.slice s.ga s.gs.length s.gc, .slice s.va s.vs.length s.vc, .slice s.ea s.es.length s.ec], 43⟩, ⟨some b3, [.string (S r.1), .string (S r.2)], 24⟩]) ([Fact.sl g18.a (am ((s.vs.map (aw r (ak s.gs))).map (·.1))), Fact.sl s.va (vrs s.vs), Fact.sl a (ar ms)]) (S7 I I I I I I I) [[0, 1, 2, 3, 4, 5, 6], [0, 1, 2, 3, 4, 6, 5], [0, 1, 2, 3, 5, 4, 6], [1, 0, 2, 3, 4, 5, 6], [1, 0, 2, 3, 4, 6, 5], [1, 0, 2, 3, 5, 4, 6]] (by kernel_rfl) (by kernel_rfl) (by simp only [bJ, List.map, Dr, C8]; rfl) ?_ ?_)
        ·repeat' (first | exact AllL.nil | refine AllL.cons ?_ ?_)
         all_goals (repeat (first | (refine Km rfl ?_) | (refine Ye rfl ?_) | (refine Kq rfl (lda rfl rfl .tc u68 rfl ?_) ?_; focus kernel_rfl) | (refine Kh rfl (Oc rfl rfl (Kv fun w hS => l4 (n := 1) (by decide) (by decide))) ?_; intro _) | (refine Kh rfl (Oc rfl rfl (Kv fun w hS => jp (x := ofZ (zv M + mkI r v)) (y := ofZ 1))) ?_; intro _; rw [a2]) | (refine Ng rfl rfl (sta rfl rfl rfl .tc ?_ ?_ ?_) ?_; (focus kernel_rfl); (focus (simp [Value.oneCell'])); (focus (rfl)); intro _)))
         all_goals (refine Nn ?_; exact WX.midP () (S7 rfl rfl rfl rfl rfl rfl rfl) (fun _ h => h))
        refine WX.joinO (ofZ (zv M + mkI r v - 1)) (S7 I I I I I I I) (S0 _) ?_ (fun _ h => h); (try dsimp only); exact hy
       ·refine Ck (WX.joinO (M) (S7 I I I I I I I) (S0 _) ?_ (fun _ h => h)); (try dsimp only); rw [j5, Ae (by (simpa using hc59))]
      ·rintro y hmeet; (try dsimp only at hmeet ⊢); refine Cg (Km I (Kq I (Fa (q := 1) I I u68 I I) ?_)); rw [hmeet]; refine Gm ?_; refine Kh I (aN I I u33 (by kernel_rfl : _ = some (some (.string (S [])), 1, 16)) I (by simp only [List.map]; rfl) I I ?_ (by decide)) ?_
       ·simp [Value.cells]
       intro b79; refine Kh I (ol I u33 (by kernel_rfl : _ = some (some (.string (S [])), 1, 16)) I .tc I I (fun w hS => by (exact hS.os)) (by rfl) (by refine ⟨?_, ?_, ?_, ?_⟩ <;> first | exact hcl | (try simp) <;> omega) (by (simp [Value.oneCell']; done))) ?_; rintro ⟨o80, c80, s80⟩; refine WL.pu ?_; intro hg80; (try dsimp only at hg80 ⊢); refine Ka I (Nn (Xd (Xa (Cg (Kq I (Rz I I I (by omega)) (Km I (Nn (Lx ((i + 1, o80, c80, s80)) (by (try dsimp only); omega) (S4 I I I I) (by refine (Sc ?_ (Sc ?_ (S0 _))) <;> (rfl)) ?_ (by exact fun w h => by rw [hca]; exact aq _ h))))))))); (try dsimp only); exact ⟨⟨hil, by omega⟩, hor2⟩
    ·refine Fq ?_; obtain rfl : i = s.vs.length := by omega
     have hrr : mkR r (ak s.gs) s.vs ms := hor; have hr : ez r s.core ms = (fV r s.vs ms s.vs.length, 0) := by rw [ez, Aa (fun h => h hb), Aa (fun h => h hz), Aa hl2, Aa (fun h => h hrr)]
     refine Xa (H7 ?_); refine le ?_; exact Rn I (.tmp I (.tmp I .nil)) fun w' hS => ⟨⟨o, cp, sp⟩, by rw [hr]; dsimp only; rw [jd]; rfl, by rw [hr]; dsimp only; rw [jd]; omega, hS.below, by rw [hr]; exact Fc hS.ocf Fn⟩
def gp (q v : Bs) (c : Nat) (w x : Zs) : Zs := if v = [] then (false, ae ((val x.2 % val q + (val q - c * val w.2 % val q % val q)) % val q)) else ofZ (zv x - c * zv w)
def ip (q : Bs) (vs : List Bs) (c : Nat) (ws xs : List Zs) (n : Nat) : List Zs := (List.range n).map fun i => gp q (vs.getD i default) c (ws.getD i default) (xs.getD i default)
def dm (r : Gp) (s : Sm) (ws : List Zs) (fs : List Bs) (c : Bs) (xs : List Zs) : List Zs × Int :=
 if bdE r s ≠ 0 then ([], bdE r s)
 else if ¬ bO ws then ([], 3)
 else if vfE r s fs c xs ≠ 0 then ([], vfE r s fs c xs)
 else if (cn s ws).2 ≠ 0 then ([], (cn s ws).2)
 else if (cn s ws).1 = false then ([], 18)
 else (ip (ak s.1) s.2.1 (val c) ws xs s.2.1.length, 0)
theorem vk (q : Bs) (vs : List Bs) (c : Nat) (ws xs : List Zs) (n : Nat) : ip q vs c ws xs (n + 1) = ip q vs c ws xs n ++ [gp q (vs.getD n default) c (ws.getD n default) (xs.getD n default)] := by
 rw [ip, List.range_succ, Bu]; rfl
theorem i1 (q : Bs) (vs : List Bs) (c : Nat) (ws xs : List Zs) (n : Nat) : (ip q vs c ws xs n).length = n := by rw [ip, Ag, List.length_range]
theorem zi {r : Gp} {s : Sm} {fs : List Bs} {c : Bs} {xs : List Zs} (h : vfE r s fs c xs = 0) : bdE r s = 0 ∧ (∀ x ∈ fs, okN x) ∧ (okN c ∧ bO xs) ∧ (fs.length = s.2.2.length ∧ xs.length = s.2.1.length) ∧ val c < val r.1 ∧ rsR r (ak s.1) s.2.1 xs ∧ fsE s fs ∧ (cF s xs).2 = 0 ∧ vfI s fs (val c) xs := by
 unfold vfE at h
 by_cases h1 : bdE r s = 0
 ·rw [Aa (fun g => g h1)] at h
  by_cases h2 : ∀ x ∈ fs, okN x
  ·rw [Aa (fun g => g h2)] at h; by_cases h3 : okN c ∧ bO xs
   ·rw [Aa (fun g => g h3)] at h; by_cases h4 : fs.length = s.2.2.length ∧ xs.length = s.2.1.length
    ·rw [Aa (fun g => g h4)] at h; by_cases h5 : val c < val r.1
     ·rw [Aa (fun g => g h5)] at h; by_cases h6 : rsR r (ak s.1) s.2.1 xs
      ·rw [Aa (fun g => g h6)] at h; by_cases h7 : fsE s fs
       ·rw [Aa (fun g => g h7)] at h; by_cases h8 : (cF s xs).2 = 0
        ·rw [Aa (fun g => g h8)] at h; by_cases h9 : vfI s fs (val c) xs
         ·exact ⟨h1, h2, h3, h4, h5, h6, h7, h8, h9⟩
         ·rw [Ae h9] at h; cases h
        ·rw [Ae h8] at h; exact absurd h h8
       ·rw [Ae h7] at h; cases h
      ·rw [Ae h6] at h; cases h
     ·rw [Ae h5] at h; cases h
    ·rw [Ae h4] at h; cases h
   ·rw [Ae h3] at h; cases h
  ·rw [Ae h2] at h; cases h
 ·rw [Ae h1] at h; exact absurd h h1
theorem qZ {s : Sm} {ws : List Zs} (h2 : (cn s ws).2 = 0) (h1 : (cn s ws).1 = true) : dL s ws = 0 ∧ inR s ws ∧ (imS s ws).2 = 0 ∧ (imS s ws).1 = s.2.2.map (·.2.1) := by
 unfold cn at h1 h2
 by_cases a : dL s ws = 0
 ·rw [Aa (fun g => g a)] at h1 h2
  by_cases b : inR s ws
  ·rw [Aa (fun g => g b)] at h1 h2; by_cases c : (imS s ws).2 = 0
   ·rw [Aa (fun g => g c)] at h1 h2; exact ⟨a, b, c, by simpa using h1⟩
   ·rw [Ae c] at h2; exact absurd h2 c
  ·rw [Ae b] at h1; cases h1
 ·rw [Ae a] at h2; exact absurd h2 a
set_option maxHeartbeats 6000000 in
theorem zz {r : Gp} {s : SA} {ws : List Zs} {fs : List Bs} {c : Bs} {xs : List Zs} {wa fa xa : Option Addr} {wc fc xc : Nat} {w : World} {ok : Nat → Prop} (hF1 : (Fact.sl s.ga (gps s.gs)).holds ok w) (hF2 : (Fact.sl s.va (vrs s.vs)).holds ok w) (hF3 : (Fact.sl s.ea (qas s.es)).holds ok w) (hF4 : (Fact.sl wa (ar ws)).holds ok w) (hF5 : (Fact.sl fa (am fs)).holds ok w) (hF6 : (Fact.sl xa (ar xs)).holds ok w) (hM : ∀ f ∈ (s.es.map qaF), f.holds ok w) (hs : saL s) (h4 : r.1.length ≤ 8) (h5 : r.2.length ≤ 8) (h6 : ∀ v ∈ s.vs, v.length ≤ 8) (hq8 : (ak s.gs).length ≤ 8) (hwl : ws.length ≤ 100000) (hfl : fs.length ≤ 100000) (hxl : xs.length ≤ 100000) :
  Calls Tryz.prog 43 #[.agg #[.string (S r.1), .string (S r.2)], saV s, .slice wa ws.length wc, .agg #[.slice fa fs.length fc, .string (S c), .slice xa xs.length xc]] w fun e w' => ∃ gx : Rs, e = .returned (.tuple #[gx.val (dm r s.core ws fs c xs).1.length, .int .i64 (dm r s.core ws fs c xs).2]) ∧ (True) ∧ Below w.heap.size w w' ∧ ∀ x ∈ ([Fact.sl gx.a (ar (dm r s.core ws fs c xs).1)] : List Fact), x.holds (fun b => w.heap.size ≤ b) w' := by
 refine En (Fact.sl s.ga (gps s.gs) :: Fact.sl s.va (vrs s.vs) :: Fact.sl s.ea (qas s.es) :: Fact.sl wa (ar ws) :: Fact.sl fa (am fs) :: Fact.sl xa (ar xs) :: (s.es.map qaF)) [(0, .agg #[.string (S r.1), .string (S r.2)]), (1, saV s), (2, .slice wa ws.length wc), (3, .agg #[.slice fa fs.length fc, .string (S c), .slice xa xs.length xc])] Tryz.func43 I Tryz.ntmps43 I (Ac I (Ac I (Ac I (Ac I (An _))))) (Fc (af hF1) (Fc (af hF2) (Fc (af hF3) (Fc (af hF4) (Fc (af hF5) (Fc (af hF6) (aE hM))))))) (Eq ?_)
 intro b4
 refine Gc ?_
 intro b5
 refine Gc ?_
 intro b7
 refine Ka I (Ka I (Nt (Cs (Kq I (lda I I .tc u24 I ?_) ?_))))
 ·kernel_rfl
 refine Kq I (lda I I .tc u43 I ?_) ?_
 ·kernel_rfl
 refine F3 ?_
 rintro ⟨g26, h26⟩
 refine WL.pu ?_
 intro hg26; (try dsimp only [List.cons_append, List.nil_append] at hg26 ⊢)
 refine GV ?_; refine Ka I (Nt (Cq (Fz (fun hc31 => ?_) (fun hc31 => ?_))))
 ·have hb : bdE r s.core ≠ 0 := fun h => hc31 (by rw [bdS, Aa (fun h1 => h1 h)])
  have he : (bdS r s.core).2 = bdE r s.core := by rw [bdS, Ae hb]
  have hr : dm r s.core ws fs c xs = ([], bdE r s.core) := by rw [dm, Ae hb]
  refine H7 ?_; refine le ?_; refine Xb ?_
  exact IA
 ·obtain ⟨hb, hbs⟩ := iv (show (bdS r s.core).2 = 0 by (simpa using hc31))
  rw [hbs]
  obtain ⟨hrk, hck, hr2, hrq⟩ := dg hb
  obtain ⟨hfo, _, hel, _⟩ := cX hck
  have hoo : okN (ak s.gs) := cm hfo.1
  have hlv := hs.2.1
  refine GO ?_; refine Kc I (fun w hS => nm (l := ws) (by (exact hS.sl)) (by assumption)) (Gs (fun hc35 => ?_) (fun hc35 => ?_))
  ·have hr : dm r s.core ws fs c xs = ([], 3) := by rw [dm, Aa (fun h => h hb), Ae (by (exact hc35))]
   refine Cs (Ka I (le ?_)); refine Xb ?_; exact Im
  ·have hz : bO ws := by (exact hc35)
   refine Ck (Xa (Cq (Cs (Kq I (lda I I .tc u24 I ?_) ?_))))
   ·kernel_rfl
   refine Kq I (lda I I .tc u43 I ?_) ?_
   ·kernel_rfl
   refine Kq I (lda I I .tc fq I ?_) ?_
   ·kernel_rfl
   refine Kc I (fun w hS => zo (r := r) (s := s) (fs := fs) (c := c) (xs := xs) (by (exact hS.sl)) (by (exact hS.sl)) (by (exact hS.sl)) (by (exact hS.sl)) (by (exact hS.sl)) (by (exact hS.more)) (by exact hs) (by exact h4) (by exact h5) (by exact h6) (by exact hq8) (by exact hfl) (by exact hxl)) (Ka I (Nt (Fz (fun hc41 => ?_) (fun hc41 => ?_))))
   ·have hr : dm r s.core ws fs c xs = ([], vfE r s.core fs c xs) := by rw [dm, Aa (fun h => h hb), Aa (fun h => h hz), Ae (by (exact hc41))]
    refine H7 ?_; refine le ?_; refine Xb ?_; exact Im
   ·have hv0 : vfE r s.core fs c xs = 0 := by (simpa using hc41)
    obtain ⟨_, _, ⟨hc, hzx⟩, ⟨_, hxv⟩, hcr, hrr, _, _, _⟩ := zi hv0; refine Ck (Xa (Cs (Kq I (lda I I .tc u43 I ?_) ?_)))
    ·kernel_rfl
    refine Km I (Kc I (fun w hS => nV (s := s) (ws := ws) (by (exact hS.sl)) (by (exact hS.sl)) (by (exact hS.sl)) (by (exact hS.sl)) (by (exact hS.more)) (by exact hs) (by exact hwl)) (Fs ?_)); refine Cq (Fz (fun hc50 => ?_) (fun hc50 => ?_))
    ·have hr : dm r s.core ws fs c xs = ([], (cn s.core ws).2) := by rw [dm, Aa (fun h => h hb), Aa (fun h => h hz), Aa (fun h => h hv0), Ae (by (exact hc50))]
     refine H7 ?_; refine le ?_; refine Xb ?_; exact Im
    ·have hh2 : (cn s.core ws).2 = 0 := by (simpa using hc50)
     refine GO ?_; refine Gs (fun hc53 => ?_) (fun hc53 => ?_)
     ·have hr : dm r s.core ws fs c xs = ([], 18) := by rw [dm, Aa (fun h => h hb), Aa (fun h => h hz), Aa (fun h => h hv0), Aa (fun h => h hh2), Ae (by (exact hc53))]
      refine Cs (Ka I (le ?_)); refine Xb ?_; exact Im
     ·have hh1 : (cn s.core ws).1 = true := by (exact hc53)
      obtain ⟨hrd, hin, _, _⟩ := qZ hh2 hh1; obtain ⟨_, _, _, hwv⟩ := kQ hrd; have hzw8 := qV hin hwv hz h6 hq8; have hc88 : val c < 256 ^ 8 := C9 hcr (by have := cz h4; rw [e64]; exact this); have hc8 : c.length ≤ 8 := lg hc hc88; have hL : (s.vs.map (aw r (ak s.gs))).length = s.vs.length := Ag _; have hr : dm r s.core ws fs c xs = (ip (ak s.gs) s.vs (val c) ws xs s.vs.length, 0) := by rw [dm, Aa (fun h => h hb), Aa (fun h => h hz), Aa (fun h => h hv0), Aa (fun h => h hh2), Aa (by rw [hh1]; decide)]
      refine Ck (Xa (Cs (GI ?_))); refine Ge ?_
      refine HF ?_; refine Lo (σ := Nat × (Option Nat) × Nat × (List Value)) [(2, _), (7, _), (10, _), (55, _), (56, _)] (fun gq => [(15, .slice (gq.2.1.map fun b => ⟨b, 0, none⟩) gq.1 gq.2.2.1), (57, .int .i64 (gq.1 : Int))]) (fun gq => gq.1 ≤ s.vs.length ∧ gq.2.2.1 * 2 = gq.1 * 2 + gq.2.2.2.length) (fun gq => s.vs.length - gq.1) (fun gq => [⟨gq.2.1, ar (ip (ak s.gs) s.vs (val c) ws xs gq.1) ++ gq.2.2.2, 68⟩, ⟨some b7, [.slice fa fs.length fc, .string (S c), .slice xa xs.length xc], 110⟩, ⟨some b5, [.slice s.ga s.gs.length s.gc, .slice s.va s.vs.length s.vc, .slice s.ea s.es.length s.ec], 43⟩, ⟨some b4, [.string (S r.1), .string (S r.2)], 24⟩]) (fun gq => [Fact.sl g26.a (am ((s.vs.map (aw r (ak s.gs))).map (·.1))), Fact.sl s.va (vrs s.vs), Fact.sl wa (ar ws), Fact.sl xa (ar xs)]) (0, none, 0, []) (S5 I I I I I) (S2 I I) (by (try dsimp only); exact ⟨Af _, rfl⟩) (by exact fun w h => by show St _ _ [⟨none, [] ++ [], _⟩, ⟨some b7, _, _⟩, ⟨some b5, _, _⟩, ⟨some b4, _, _⟩] _ _; exact (aq _ h : St _ _ [⟨some b7, [.slice fa fs.length fc, .string (S c), .slice xa xs.length xc], _⟩, ⟨some b5, [.slice s.ga s.gs.length s.gc, .slice s.va s.vs.length s.vc, .slice s.ea s.es.length s.ec], _⟩, ⟨some b4, [.string (S r.1), .string (S r.2)], _⟩] [Fact.sl g26.a (am ((s.vs.map (aw r (ak s.gs))).map (·.1))), Fact.sl s.va (vrs s.vs), Fact.sl wa (ar ws), Fact.sl xa (ar xs)] _).nil _) ?_
      rintro ⟨i, o, cp, sp⟩ hinv1; (try dsimp only at hinv1 ⊢); obtain ⟨hi, hcp⟩ := hinv1; refine ne (fun hc58 => ?_) (fun hc58 => ?_)
      ·have hil : i < s.vs.length := by omega
       have hil2 : i < (s.vs.map (aw r (ak s.gs))).length := by omega
       have hiw : i < ws.length := by simp only [SA.core] at hwv; omega
       have hix : i < xs.length := by simp only [SA.core] at hxv; omega
       obtain ⟨v, hv⟩ : ∃ v, Keep (v = s.vs.getD i default) := ⟨_, rfl⟩; obtain ⟨W, hW⟩ : ∃ W, Keep (W = ws.getD i default) := ⟨_, rfl⟩; obtain ⟨M, hM⟩ : ∃ M, Keep (M = xs.getD i default) := ⟨_, rfl⟩; have hvm : v ∈ s.vs := by rw [show v = _ from hv]; exact aj _ _ hil
       have hv8 := h6 v hvm; obtain ⟨hWo, hW8⟩ := hzw8 W (by rw [show W = _ from hW]; exact aj _ _ hiw); have hMo : okZ M := hzx M (by rw [show M = _ from hM]; exact aj _ _ hix); have hlg2 : (s.vs.map (aw r (ak s.gs))).getD i default = aw r (ak s.gs) v := by rw [show v = _ from hv, List.getD_eq_getElem?_getD, A4, Ad hil, List.getD_eq_getElem?_getD, Ad hil]; rfl
       have hlg3 : ((s.vs.map (aw r (ak s.gs))).map (·.1)).getD i default = (aw r (ak s.gs) v).1 := by rw [cq _ _ _ hil2, hlg2]
       have hil3 : i < ((s.vs.map (aw r (ak s.gs))).map (·.1)).length := by rw [Ag]; exact hil2
       have hcl : (ar (ip (ak s.gs) s.vs (val c) ws xs i)).length = i * 2 := by rw [ag _ _ 2 (fun _ => rfl), i1]
       have hca : ∀ x, gp (ak s.gs) v (val c) W M = x → ar (ip (ak s.gs) s.vs (val c) ws xs (i + 1)) = ar (ip (ak s.gs) s.vs (val c) ws xs i) ++ zc x := fun x hx => by rw [vk, nT, ← show v = _ from hv, ← show W = _ from hW, ← show M = _ from hM, hx]
       have hbw : blw v M (val (aw r (ak s.gs) v).2) := by have := hrr i hil; rw [show v = _ from hv, show M = _ from hM]; exact this
       have hWi : inV (ak s.gs) v W := by have := hin i hil; rw [show v = _ from hv, show W = _ from hW]; exact this
       refine FO ?_; refine Km I (FG ?_); refine Fu ?_; rw [← show v = _ from hv]; refine GK ?_; intro b17; refine Ka I (FF ?_); refine Nt (Cq (Cs (Hc ?_))); refine Hr (fun hc64 => ?_) (fun hc64 => ?_)
       ·have hvn : ¬ v = [] := by (exact hc64)
        have hl2 : (aw r (ak s.gs) v).2 = ae (rsI r v) := by rw [aw, Aa hvn]
        have hm24 := uB h4 h5 hv8; have hMl : (zv M).natAbs < 256 ^ 24 := by rw [hH]; have := hbw.1; rw [hl2, ah] at this; have := Eb (mkI r v) ((val r.1 - 1) * (val v - 1)); simp only [rsI] at *; omega
        have hWl := tf hW8; have hpl := qB hc88 hWl; have hBs := rB; have e1 : bP c = ofZ (val c : Int) := by rw [dv hc, eI, bT hc]
        have m1 : ig (bP c) W = (ofZ ((val c : Int) * zv W), 0) := by
         rw [e1, ← ex hWo, dE]; exact kg (by rw [Bh]; omega) (by omega) (by omega)
        have a1 : eO M (ofZ ((val c : Int) * zv W)) = (ofZ (zv M - (val c : Int) * zv W), 0) := by
         rw [← ex hMo, dE]; exact j8 (by omega) (by omega) (by omega)
        have hx1 : gp (ak s.gs) v (val c) W M = ofZ (zv M - (val c : Int) * zv W) := by rw [gp, Aa hvn]
        have hrx := hca _ hx1; refine Cq (WC.free (K := [⟨some b7, [.slice fa fs.length fc, .string (S c), .slice xa xs.length xc], 110⟩]) (fs0 := [Fact.sl wa (ar ws)]) [0, 1, 2, 3, 4, 5, 6, 7, 8, 9, 11, 12, 10, 13] [] [0, 0, 1, 0, 0, 0, 0, 1, 0, 0, 0, 3, 1, 0] (by kernel_rfl) (by kernel_rfl) I ?_); refine Kj I (Fa (q := 1) I I fq I I) (Gg ?_); refine GZ ?_; refine Ft ?_; refine Fw ?_; refine FC ?_; refine WJ.set 72 I (v' := zV W) (by rw [show W = _ from hW]) ?_; refine HI ?_; rw [m1]; refine GP ?_; refine Hu ?_; refine FU ?_; intro b18; refine WJ.st I I I I (ft I I I ?_ ?_ ?_) ?_
        ·kernel_rfl
        ·simp [Value.oneCell']
        ·rfl
        refine Hu ?_; refine GR ?_; refine WJ.nil ?_; refine Nt (Cq ?_)
        refine WC.ordersP [(2, _), (7, _), (10, _), (15, _), (18, _), (55, _), (56, _), (57, _)] ([⟨some b18, [.bool (ofZ (zv M - (val c : Int) * zv W)).1, .string (S (ofZ (zv M - (val c : Int) * zv W)).2)], 68⟩, ⟨some b17, [.string (S v)], 132⟩, ⟨o, ar (ip (ak s.gs) s.vs (val c) ws xs i) ++ sp, 68⟩, ⟨some b7, [.slice fa fs.length fc, .string (S c), .slice xa xs.length xc], 110⟩, ⟨some b5, [.slice s.ga s.gs.length s.gc, .slice s.va s.vs.length s.vc, .slice s.ea s.es.length s.ec], 43⟩, ⟨some b4, [.string (S r.1), .string (S r.2)], 24⟩]) ([Fact.sl g26.a (am ((s.vs.map (aw r (ak s.gs))).map (·.1))), Fact.sl s.va (vrs s.vs), Fact.sl wa (ar ws), Fact.sl xa (ar xs)]) (S8 I I I I I I I I) [[0, 1, 2, 3, 4, 5, 6, 7, 8, 9, 10], [0, 1, 2, 3, 4, 5, 6, 7, 8, 10, 9], [0, 1, 2, 3, 4, 5, 6, 7, 9, 8, 10], [0, 1, 2, 3, 5, 4, 6, 7, 8, 9, 10], [0, 1, 2, 3, 5, 4, 6, 7, 8, 10, 9], [0, 1, 2, 3, 5, 4, 6, 7, 9, 8, 10], [0, 1, 2, 5, 3, 4, 6, 7, 8, 9, 10], [0, 1, 2, 5, 3, 4, 6, 7, 8, 10, 9], [0, 1, 2, 5, 3, 4, 6, 7, 9, 8, 10], [0, 1, 5, 2, 3, 4, 6, 7, 8, 9, 10], [0, 1, 5, 2, 3, 4, 6, 7, 8, 10, 9], [0, 1, 5, 2, 3, 4, 6, 7, 9, 8, 10], [0, 2, 1, 3, 4, 5, 6, 7, 8, 9, 10], [0, 2, 1, 3, 4, 5, 6, 7, 8, 10, 9], [0, 2, 1, 3, 4, 5, 6, 7, 9, 8, 10], [0, 2, 1, 3, 5, 4, 6, 7, 8, 9, 10], [0, 2, 1, 3, 5, 4, 6, 7, 8, 10, 9], [0, 2, 1, 3, 5, 4, 6, 7, 9, 8, 10], [0, 2, 1, 5, 3, 4, 6, 7, 8, 9, 10], [0, 2, 1, 5, 3, 4, 6, 7, 8, 10, 9], [0, 2, 1, 5, 3, 4, 6, 7, 9, 8, 10], [0, 2, 5, 1, 3, 4, 6, 7, 8, 9, 10], [0, 2, 5, 1, 3, 4, 6, 7, 8, 10, 9], [0, 2, 5, 1, 3, 4, 6, 7, 9, 8, 10], [0, 5, 1, 2, 3, 4, 6, 7, 8, 9, 10], [0, 5, 1, 2, 3, 4, 6, 7, 8, 10, 9], [0, 5, 1, 2, 3, 4, 6, 7, 9, 8, 10], [0, 5, 2, 1, 3, 4, 6, 7, 8, 9, 10], [0, 5, 2, 1, 3, 4, 6, 7, 8, 10, 9], [0, 5, 2, 1, 3, 4, 6, 7, 9, 8, 10], [2, 0, 1, 3, 4, 5, 6, 7, 8, 9, 10], [2, 0, 1, 3, 4, 5, 6, 7, 8, 10, 9], [2, 0, 1, 3, 4, 5, 6, 7, 9, 8, 10], [2, 0, 1, 3, 5, 4, 6, 7, 8, 9, 10], [2, 0, 1, 3, 5, 4, 6, 7, 8, 10, 9], [2, 0, 1, 3, 5, 4, 6, 7, 9, 8, 10], [2, 0, 1, 5, 3, 4, 6, 7, 8, 9, 10], [2, 0, 1, 5, 3, 4, 6, 7, 8, 10, 9], [2, 0, 1, 5, 3, 4, 6, 7, 9, 8, 10], [2, 0, 5, 1, 3, 4, 6, 7, 8, 9, 10], [2, 0, 5, 1, 3, 4, 6, 7, 8, 10, 9], [2, 0, 5, 1, 3, 4, 6, 7, 9, 8, 10], [2, 5, 0, 1, 3, 4, 6, 7, 8, 9, 10], [2, 5, 0, 1, 3, 4, 6, 7, 8, 10, 9], [2, 5, 0, 1, 3, 4, 6, 7, 9, 8, 10], [5, 0, 1, 2, 3, 4, 6, 7, 8, 9, 10], [5, 0, 1, 2, 3, 4, 6, 7, 8, 10, 9], [5, 0, 1, 2, 3, 4, 6, 7, 9, 8, 10], [5, 0, 2, 1, 3, 4, 6, 7, 8, 9, 10], [5, 0, 2, 1, 3, 4, 6, 7, 8, 10, 9], [5, 0, 2, 1, 3, 4, 6, 7, 9, 8, 10], [5, 2, 0, 1, 3, 4, 6, 7, 8, 9, 10], [5, 2, 0, 1, 3, 4, 6, 7, 8, 10, 9], [5, 2, 0, 1, 3, 4, 6, 7, 9, 8, 10]] (by kernel_rfl) (by kernel_rfl) (by simp only [bJ, List.map, Dr, C8]; rfl) ?_ ?_
        ·repeat' (first | exact AllL.nil | refine AllL.cons ?_ ?_)
         all_goals (repeat (first | (refine Km rfl ?_) | (refine Ye rfl ?_) | (refine Kq rfl (Fa (q := 2) rfl rfl fq rfl rfl) ?_) | (refine Kq rfl (Ld rfl rfl .tc u31) ?_) | (refine Kq rfl (lda rfl rfl .tc u68 rfl ?_) ?_; (focus kernel_rfl)) | (refine Kq rfl (Ia rfl rfl rfl u31 (by kernel_rfl : _ = some 2) ?_ ?_) ?_; (focus omega); (focus (rw [ag _ _ 2 (fun _ => rfl)]; omega))) | (refine Kq rfl (aP _ rfl rfl u68 rfl (by kernel_rfl : _ = some 2) (fun _ => rfl) (by decide) rfl ?_) ?_; (focus omega); rw [← show M = _ from hM]) | (refine Kh rfl (Oc rfl rfl (Kv fun w hS => jp (x := M) (y := ofZ ((val c : Int) * zv W)))) ?_; intro _; rw [a1]) | (refine Ng rfl rfl (sta rfl rfl rfl .tc ?_ ?_ ?_) ?_; (focus kernel_rfl); (focus (simp [Value.oneCell'])); (focus (rfl)); intro _)))
         all_goals (refine Nn ?_; exact WX.midP () (S8 rfl rfl rfl rfl rfl rfl rfl rfl) (fun _ h => h))
        refine Xa (Cs (Km I (Kq I (lda I I .tc u68 I ?_) ?_)))
        ·kernel_rfl
        refine Kh I (ew I I u31 (by kernel_rfl : _ = some (some (.agg #[.bool false, .string (S [])]), 2, 24)) (by kernel_rfl) (by decide) I I (by (simp [Value.cells]; done)) (by (exact bV _)) (by decide)) ?_; intro b88; refine Kh I (jm I u31 (by kernel_rfl : _ = some (some (.agg #[.bool false, .string (S [])]), 2, 24)) (by kernel_rfl) (by decide) .tc I I (fun w hS => by (exact hS.os)) (by rfl) (by refine ⟨?_, ?_, ?_, ?_⟩ <;> first | exact hcl | omega) (by (simp [Value.oneCell']; done))) ?_; rintro ⟨o89, c89, s89⟩; refine WL.pu ?_; intro hg89; (try dsimp only at hg89 ⊢); refine Ka I (Nt (Cx (Xc (Xe (Xa (Cg (Kq I (Rz I I I (by omega)) (Km I (Nn (Lx ((i + 1, o89, c89, s89)) (by (try dsimp only); omega) (S5 I I I I I) (by refine (Sc ?_ (Sc ?_ (S0 _))) <;> (rfl)) ?_ (by exact fun w h => by rw [hrx]; exact aq _ h))))))))))); (try dsimp only); exact ⟨hil, by omega⟩
       ·have hvn : v = [] := by (simpa using hc64)
        have hqn : ak s.gs ≠ [] := nD hb ⟨v, hvm, hvn⟩; have hqp : 0 < val (ak s.gs) := iz hoo hqn; have hlq : (aw r (ak s.gs) v).1 = ak s.gs := by rw [aw, Ae hvn]
        have m2 : lV c W.2 (ak s.gs) = (ae (val c * val W.2 % val (ak s.gs)), 0) := kh hc hWo.1 hoo hqn; have hoB := a7 hoo; have hml := Aq (val c * val W.2) hqp; have hmo : okN (ae (val c * val W.2 % val (ak s.gs))) := az (by omega); have hmi : jC M.2 (ae (val c * val W.2 % val (ak s.gs))) (ak s.gs) = (gp (ak s.gs) v (val c) W M).2 := by rw [jC, gp, Ae hvn, ah]
        have hmB := Aq (val M.2 % val (ak s.gs) + (val (ak s.gs) - val c * val W.2 % val (ak s.gs) % val (ak s.gs))) hqp; have hf2 : bP (gp (ak s.gs) v (val c) W M).2 = gp (ak s.gs) v (val c) W M := by rw [gp, Ae hvn, dv (az (by omega))]
        have hrx := hca _ rfl; refine GG ?_; refine FW ?_; refine GA ?_; refine Ns 93 I (v' := .string (S (ak s.gs))) (congrArg (fun l => Value.string (S l)) (by rw [hlg3, hlq])) ?_; refine Ka I (Nt (Cq (WC.free (K := [⟨some b7, [.slice fa fs.length fc, .string (S c), .slice xa xs.length xc], 110⟩]) (fs0 := [Fact.sl wa (ar ws)]) [0, 1, 2, 3, 4, 5, 6, 7, 8, 9, 10, 11, 12, 13] [] [0, 0, 0, 0, 0, 0, 0, 0, 1, 0, 0, 0, 0, 0] (by kernel_rfl) (by kernel_rfl) I ?_))); refine Kj I (Fa (q := 1) I I fq I I) (Gg ?_); refine Ft ?_; refine Fw ?_; (refine Kj I (faf I I u68 I (by kernel_rfl) (by (try simp only [sN, Int.reduceToNat, Nat.reduceAdd, Nat.reduceMul, Nat.reduceSub]); rfl)) ?_); refine HC ?_; refine WJ.set 101 I (v' := .string (S (W.2))) (congrArg (fun l => Value.string (S l)) (by rw [show W = _ from hW])) ?_; refine GP ?_; refine Jv I I I I I (fun ext => Oc I I (Kv fun w hS => nI (a := c) (b := W.2) (m := ak s.gs) (by exact hc8) (by exact hW8) (by exact hq8))) ?_; rw [m2]
        refine Gd ?_; refine WJ.nil ?_; refine Nt (Cs (Kf 2 I fq I I I .tc u31 ?_)); refine Km I (FI ?_); (refine Kq I (faf I I u68 I (by kernel_rfl) (by (try simp only [sN, Int.reduceToNat, Nat.reduceAdd, Nat.reduceMul, Nat.reduceSub]); rfl)) ?_); refine FZ ?_; refine Ns 112 I (v' := .string (S (M.2))) (congrArg (fun l => Value.string (S l)) (by rw [show M = _ from hM])) ?_; refine Km I (Km I (Kc I (fun w hS => xK (a := M.2) (b := ae (val c * val W.2 % val (ak s.gs))) (m := ak s.gs) (by exact hMo.1) (by exact hmo) (by exact hoo) (by exact hqn)) ?_)); rw [hmi]; refine Km I (Ye I (Ye I (Ka I (Nt (Cg (Km I (Km I (Kc I (fun w hS => da (a := (gp (ak s.gs) v (val c) W M).2)) ?_)))))))); rw [hf2]; refine Kh I (ew I I u31 (by kernel_rfl : _ = some (some (.agg #[.bool false, .string (S [])]), 2, 24)) (by kernel_rfl) (by decide) I I (by (simp [Value.cells]; done)) (by (exact bV _)) (by decide)) ?_; intro b121
        refine Kh I (jm I u31 (by kernel_rfl : _ = some (some (.agg #[.bool false, .string (S [])]), 2, 24)) (by kernel_rfl) (by decide) .tc I I (fun w hS => by (exact hS.os)) (by rfl) (by refine ⟨?_, ?_, ?_, ?_⟩ <;> first | exact hcl | omega) (by (simp [Value.oneCell']; done))) ?_; rintro ⟨o122, c122, s122⟩; refine WL.pu ?_; intro hg122; (try dsimp only at hg122 ⊢); refine Ka I (Nn (Xd (Xa (Cg (Kq I (Rz I I I (by omega)) (Km I (Nn (Lx ((i + 1, o122, c122, s122)) (by (try dsimp only); omega) (S5 I I I I I) (by refine (Sc ?_ (Sc ?_ (S0 _))) <;> (rfl)) ?_ (by exact fun w h => by rw [hrx]; exact aq _ h))))))))); (try dsimp only); exact ⟨hil, by omega⟩
      ·refine Fq ?_; obtain rfl : i = s.vs.length := by omega
       refine Xa (H7 ?_); refine le ?_; exact Rn I (.tmp I (.tmp I .nil)) fun w' hS => ⟨⟨o, cp, sp⟩, by rw [hr]; dsimp only; rw [i1]; rfl, trivial, hS.below, by rw [hr]; exact Fc hS.ocf Fn⟩
theorem xy {m x q : Nat} (hm : 0 < m) (hu : Un m x) (ho : Or m q x) (b k : Int) : aZ m x (b + (q : Int) * k) = aZ m x b := by
 have h1 : aZ m x (q : Int) = aZ m x 0 := by rw [k9, eV]; exact ho
 rw [← ge hm hu, ← lc hm hu, h1, lc hm hu, Int.zero_mul, eV, mmr, As, eW]
theorem BU {g : Gp} {x : Bs} (hg : aT g = 0) (h : elG g x) (hq : g.2 ≠ []) : Or (val g.1) (val g.2) (val x) := by
 have h1 := h.2.2.2; rw [Aa hq] at h1
 obtain ⟨_, _, h2, _, _⟩ := db hg
 rw [Or, h1, Am (by omega)]
theorem wS {g : Gp} {b q v : Bs} {c : Nat} {w m : Int} (hg : aT g = 0) (hb : elG g b) (hv : v = [] → g.2 = q ∧ q ≠ []) :
  aZ (val g.1) (val b) (f4 q v c w m) = aZ (val g.1) (val b) m * aZ (val g.1) (val b) w ^ c % val g.1 := by
 have hm := lA (x := b) hg
 have hu := eL hg hb
 rw [← mmr, gM hm hu, ge hm hu, f4]
 by_cases h : v = []
 ·obtain ⟨rfl, hq⟩ := hv h
  rw [Ae h, ← xy hm hu (BU hg hb hq) (m + w * (c : Int)) (-((c : Int) * w / (val g.2 : Int) + (m + (c : Int) * w % (val g.2 : Int)) / (val g.2 : Int)))]
  congr 1
  have e1 := Int.emod_def (m + (c : Int) * w % (val g.2 : Int)) (val g.2 : Int)
  have e2 := Int.emod_def ((c : Int) * w) (val g.2 : Int)
  rw [e1, Ec, Int.mul_add]
  generalize (val g.2 : Int) * ((m + (c : Int) * w % (val g.2 : Int)) / (val g.2 : Int)) = z1
  rw [e2, Int.mul_comm w]; omega
 ·rw [Aa h, Int.mul_comm w]
theorem mh {α : Type} (f : α → Nat) (c : Nat) : ∀ l : List α, aD (fun x => f x ^ c) l = aD f l ^ c
 | [] => by simp [aD]
 | x :: l => by rw [aD, mh f c l, aD, Nat.mul_pow]
def tP (m : Nat) (ws : List Zs) (t : Tm) : Nat := aZ m (val t.1) (zv (ws.getD t.2.1.toNat default))
theorem xF : okZ (default : Zs) := by decide
theorem gZ {ws : List Zs} (h : bO ws) (i : Nat) : okZ (ws.getD i default) := by
 by_cases hi : i < ws.length
 ·exact h _ (aj _ _ hi)
 ·rw [List.getD_eq_getElem?_getD, Dw (by omega)]; exact xF
theorem uQ {gs : List Gp} {q : Qn} {ws : List Zs} (hC : ∀ t ∈ q.2.2, t.2.2 = ofZ 1) (hw : bO ws) (hg : aT (gs.getD q.1.toNat default) = 0) (hel : ∀ t ∈ q.2.2, elG (gs.getD q.1.toNat default) t.1) :
  imQ gs ws q = (ae (aD (tP (val (gs.getD q.1.toNat default).1) ws) q.2.2 % val (gs.getD q.1.toNat default).1), 0) := by
 have h1 : ∀ t ∈ q.2.2, exT ws t = (ws.getD t.2.1.toNat default, 0) := fun t ht => by rw [exT, hC t ht, uA (gZ hw _)]
 have h2 : exQ ws q = (q.2.2.map fun t => ws.getD t.2.1.toNat default, 0) := by
  rw [exQ, Aa (fun h => h (i6 fun t ht => by rw [h1 t ht]))]
  exact congrArg (fun l => (l, (0 : Int))) (List.map_congr_left fun t ht => by rw [h1 t ht])
 have h0 : eF (gs.getD q.1.toNat default) (q.2.2.map (·.1)) (q.2.2.map fun t => ws.getD t.2.1.toNat default) (decide ((q.2.2.map (·.1)).length = (q.2.2.map fun t => ws.getD t.2.1.toNat default).length)) = 0 := by
  rw [eF, Aa (fun h => h fun x hx => by obtain ⟨t, ht, rfl⟩ := Ch.1 hx; exact (hel t ht).1), Aa (fun h => h fun x hx => by obtain ⟨t, ht, rfl⟩ := Ch.1 hx; exact gZ hw _), Aa (fun h => h hg), Aa (by simp), Aa (fun h => h fun x hx => by obtain ⟨t, ht, rfl⟩ := Ch.1 hx; exact hel t ht)]
 rw [imQ, h2, Aa (fun h => h rfl)]
 dsimp only
 rw [dW, Ae h0, List.zip_map', jx]; rfl
theorem qO {m : Nat} {q : Qn} {c : Nat} {xs : List Zs} (hm : 0 < m) (hC : ∀ t ∈ q.2.2, t.2.2 = ofZ 1) (hU : ∀ t ∈ q.2.2, Un m (val t.1)) : ∀ n, n ≤ q.2.2.length →
  iR m q c xs n = aZ m (val q.2.1) (-(c : Int)) * aD (tP m xs) (q.2.2.take n) % m
 | 0, _ => by rw [iR, Bz, aD, As, eW]
 | n + 1, h => by
  have hn := aj q.2.2 n h
  have ih := qO (c := c) (xs := xs) hm hC hU n (Nat.le_of_succ_le h)
  rw [iR, ih, hC _ hn, dE, lc hm (hU _ hn), Int.one_mul, mml, aA h, fC, A1, aD, aD, As]
  rfl
theorem oI {m : Nat} {ws ms xs : List Zs} {l : List Tm} {c : Nat} (h : ∀ t ∈ l, tP m xs t = tP m ms t * tP m ws t ^ c % m) : aD (tP m xs) l % m = aD (tP m ms) l * (aD (tP m ws) l % m) ^ c % m := by
 rw [gL (tP m xs) (fun t => tP m ms t * (fun t => tP m ws t ^ c) t) m l (fun t ht => by rw [h t ht, Nat.mod_mod]), gK, mh, ← mmr, ← eu (aD (tP m ws) l), mmr]
theorem xH {m T : Nat} {q : Qn} {c : Nat} {ws ms xs : List Zs} (hm : 0 < m) (hC : ∀ t ∈ q.2.2, t.2.2 = ofZ 1) (hU : ∀ t ∈ q.2.2, Un m (val t.1)) (hT : aD (tP m ws) q.2.2 % m = val q.2.1) (hTU : Un m (val q.2.1))
  (h : ∀ t ∈ q.2.2, tP m xs t = tP m ms t * tP m ws t ^ c % m) : iR m q c xs q.2.2.length = aD (tP m ms) q.2.2 % m := by
 have h1 := oI h
 rw [hT] at h1
 rw [qO hm hC hU _ (Ba _), Ai, ← mmr, h1, mmr, Bq, ← mmr, ← mmr _ (val q.2.1 ^ c), ← k9, ge hm hTU, show -(c : Int) + (c : Int) = 0 by omega, eV, mmr, As]
theorem BA {s : Sm} {q : Qn} {t : Tm} (hk : kdS s) (hf : bc s) (hq : q ∈ s.2.2) (ht : t ∈ q.2.2) (hv : s.2.1.getD t.2.1.toNat default = []) : (s.1.getD q.1.toNat default).2 = ak s.1 ∧ ak s.1 ≠ [] := by
 obtain ⟨⟨⟨h1, h2⟩, _⟩, h3⟩ := hf.2.2 q hq
 obtain ⟨⟨h4, h5⟩, _⟩ := h3 t ht
 rcases hk with h | ⟨⟨h, h6⟩, h7⟩
 ·exact absurd hv (h _ (aj _ _ (by omega)))
 ·refine ⟨?_, h⟩
  have h8 := h6 _ (aj s.1 q.1.toNat (by omega))
  rcases h7 q hq with h9 | h9
  ·exact A8 fun h10 => h8 ⟨h9, h10⟩
  ·exact absurd hv (h9 t ht)
theorem iF {q : Bs} {vs : List Bs} {c : Nat} {ws ms : List Zs} {n i : Nat} (h : i < n) : (rsL q vs c ws ms n).getD i default = ofZ (f4 q (vs.getD i default) c (zv (ws.getD i default)) (zv (ms.getD i default))) := by
 rw [rsL, List.getD_eq_getElem?_getD, A4, Db h]; rfl
abbrev fS (s : Sm) : Prop := ∀ q ∈ s.2.2, ∀ t ∈ q.2.2, t.2.2 = ofZ 1
theorem fF {s : Sm} {ws : List Zs} (hC : fS s) (he : elS s) (hf : bc s) (hw : bO ws) : imS s ws = (s.2.2.map fun q => ae (aD (tP (val (s.1.getD q.1.toNat default).1) ws) q.2.2 % val (s.1.getD q.1.toNat default).1), 0) := by
 have h1 : ∀ q ∈ s.2.2, imQ s.1 ws q = (ae (aD (tP (val (s.1.getD q.1.toNat default).1) ws) q.2.2 % val (s.1.getD q.1.toNat default).1), 0) := fun q hq => by
  obtain ⟨⟨⟨h1, h2⟩, _⟩, _⟩ := hf.2.2 q hq
  exact uQ (hC q hq) hw (he.1 _ (aj s.1 q.1.toNat (by omega))) (he.2 q hq).2
 rw [imS, Aa (fun h => h (i6 fun q hq => by rw [h1 q hq]))]
 exact congrArg (fun l => (l, (0 : Int))) (List.map_congr_left fun q hq => by rw [h1 q hq])
theorem pS {α β : Type} {f g : α → β} {l : List α} (h : l.map f = l.map g) : ∀ x ∈ l, f x = g x := fun x hx => by
 obtain ⟨i, hi, rfl⟩ := List.getElem_of_mem hx
 have := congrArg (fun l => l[i]?) h
 simpa [hi] using this
structure Wit (s : Sm) (ws : List Zs) : Prop where
 form : bc s
 el : elS s
 kd : kdS s
 ok : bO ws
 len : ws.length = s.2.1.length
 rng : inR s ws
 img : ∀ q ∈ s.2.2, aD (tP (val (s.1.getD q.1.toNat default).1) ws) q.2.2 % val (s.1.getD q.1.toNat default).1 = val q.2.1
theorem tn {s : Sm} {ws : List Zs} (hC : fS s) (h2 : (cn s ws).2 = 0) (h1 : (cn s ws).1 = true) : Wit s ws := by
 obtain ⟨hr, hin, hi, he⟩ := qZ h2 h1
 obtain ⟨hf, hz, hk, hl⟩ := kQ hr
 obtain ⟨_, _, hel, hkd⟩ := cX hk
 refine ⟨hf, hel, hkd, hz, hl, hin, fun q hq => ?_⟩
 rw [fF hC hel hf hz] at he
 have h := congrArg val (pS he q hq)
 rwa [ah] at h
theorem qG {s : Sm} {q : Qn} (hf : bc s) (he : elS s) (hq : q ∈ s.2.2) : aT (s.1.getD q.1.toNat default) = 0 ∧ elG (s.1.getD q.1.toNat default) q.2.1 ∧ ∀ t ∈ q.2.2, elG (s.1.getD q.1.toNat default) t.1 := by
 obtain ⟨⟨⟨h1, h2⟩, _⟩, _⟩ := hf.2.2 q hq
 exact ⟨he.1 _ (aj s.1 q.1.toNat (by omega)), (he.2 q hq).1, (he.2 q hq).2⟩
theorem yQ {s : Sm} {ws ms : List Zs} {c : Nat} (h : Wit s ws) {q : Qn} (hq : q ∈ s.2.2) : ∀ t ∈ q.2.2, tP (val (s.1.getD q.1.toNat default).1) (rsL (ak s.1) s.2.1 c ws ms s.2.1.length) t =
  tP (val (s.1.getD q.1.toNat default).1) ms t * tP (val (s.1.getD q.1.toNat default).1) ws t ^ c % val (s.1.getD q.1.toNat default).1 := fun t ht => by
 obtain ⟨hg, _, hb⟩ := qG h.form h.el hq
 obtain ⟨_, h3⟩ := h.form.2.2 q hq
 obtain ⟨⟨h4, h5⟩, _⟩ := h3 t ht
 unfold tP
 rw [iF (by omega), dE]
 exact wS hg (hb t ht) fun hv => BA h.kd h.form hq ht hv
theorem pQ {s : Sm} {ws ms : List Zs} {c : Nat} (hC : fS s) (h : Wit s ws) (hm : bO ms) : (imS s ms).1 = cg s c (rsL (ak s.1) s.2.1 c ws ms s.2.1.length) := by
 rw [fF hC h.el h.form hm]
 refine List.map_congr_left fun q hq => ?_
 obtain ⟨hg, ht, hb⟩ := qG h.form h.el hq
 rw [lW, xH (T := 0) (lA (x := q.2.1) hg) (hC q hq) (fun t ht => eL hg (hb t ht)) (h.img q hq) (eL hg ht) (yQ h hq)]
theorem CM {s : Sm} {ws ms : List Zs} {c : Nat} (hC : fS s) (h : Wit s ws) (hm : bO ms) (hx : bO (rsL (ak s.1) s.2.1 c ws ms s.2.1.length)) (hk : dQ s = 0) :
  vfI s (imS s ms).1 c (rsL (ak s.1) s.2.1 c ws ms s.2.1.length) := by
 intro i hi
 have hr : dL s (rsL (ak s.1) s.2.1 c ws ms s.2.1.length) = 0 := by rw [dL, Aa (fun g => g h.form), Aa (fun g => g hx), Aa (fun g => g hk), Aa (fun g => g (dS _ _ _ _ _ _))]
 have hq := aj s.2.2 i hi
 obtain ⟨hg, ht, hb⟩ := qG h.form h.el hq
 have e := oI (yQ (ms := ms) (c := c) h hq)
 rw [h.img _ hq] at e
 rw [cF, Aa (fun g => g hr), fF hC h.el h.form hx, fF hC h.el h.form hm, cq _ _ _ hi, cq _ _ _ hi, ah, e, mml, k9, mmr]
def eC (s : Sm) (ws : List Zs) (t : Tp) : Int :=
 if ¬ bO ws then 3 else if bf t (ae 1) ≠ 0 then bf t (ae 1) else if ws.length ≠ s.2.1.length then 6 else if ¬ inR s ws then 2
 else if (cn s ws).2 ≠ 0 then (cn s ws).2 else if (cn s ws).1 = false then 18 else 0
abbrev iM (r : Gp) (cx : Bs) (s : Sm) (t : Tp) : Bs := CB r cx s (ba r s t).1.2.1
def f9 (r : Gp) (cx : Bs) (s : Sm) (ws : List Zs) : Nat → Tp → (Bs × List Zs) × Tp × Int
 | 0, t => (([], []), aJ, 15)
 | k + 1, t =>
  if (ba r s t).2 ≠ 0 then (([], []), aJ, (ba r s t).2)
  else if ¬ cr (ba r s t).1.2.2 then (([], []), aJ, 3)
  else if (dY r s ws (ba r s t).1.1 (iM r cx s t)).2 ≠ 0 then f9 r cx s ws k (ba r s t).1.2.2
  else ((iM r cx s t, (dY r s ws (ba r s t).1.1 (iM r cx s t)).1), (ba r s t).1.2.2, 0)
def bF (r : Gp) (cx : Bs) (s : Sm) (ws : List Zs) (t : Tp) : (Bs × List Zs) × Tp × Int :=
 if bdE r s ≠ 0 then (([], []), aJ, bdE r s) else if eC s ws t ≠ 0 then (([], []), aJ, eC s ws t) else f9 r cx s ws 64 t
structure Prf (r : Gp) (cx : Bs) (s : Sm) (n : Bs) (xs : List Zs) : Prop where
 bd : bdE r s = 0
 ok : okN n
 nr : val n < val r.1
 zs : bO xs
 xl : xs.length = s.2.1.length
 xr : rsR r (ak s.1) s.2.1 xs
 ch : CB r cx s (cg s (val n) xs) = n
 vf : vfE r s (cg s (val n) xs) n xs = 0
structure Sml (r : Gp) (s : Sm) : Prop where
 a : r.1.length ≤ 8
 b : r.2.length ≤ 8
 v : ∀ v ∈ s.2.1, v.length ≤ 8
 q : (ak s.1).length ≤ 8
theorem um {r : Gp} {cx : Bs} {s : Sm} {ws : List Zs} : ∀ {k : Nat} {t : Tp}, (f9 r cx s ws k t).2.2 = 0 →
  ∃ u, (ba r s u).2 = 0 ∧ (f9 r cx s ws k t).1.1 = iM r cx s u ∧ dY r s ws (ba r s u).1.1 (iM r cx s u) = ((f9 r cx s ws k t).1.2, 0)
 | 0, t, h => by cases h
 | k + 1, t, h => by
  unfold f9 at h ⊢
  split at h
  ·rename_i h1; exact absurd h h1
  ·rename_i h1; rw [Aa h1]; split at h
   ·cases h
   ·rename_i h2; rw [Aa h2]; split at h
    ·rename_i h3; rw [Ae h3]; exact um h
    ·rename_i h3; rw [Aa h3]; exact ⟨t, Ah.1 h1, rfl, Prod.ext rfl (Ah.1 h3)⟩
theorem vJ {r : Gp} {s : Sm} {u : Tp} (h : (ba r s u).2 = 0) : bdE r s = 0 ∧ (bu r (ak s.1) s.2.1 u).2.2 = 0 ∧ (cF s (ba r s u).1.1).2 = 0 ∧ (ba r s u).1.2.1 = (cF s (ba r s u).1.1).1 := by
 unfold ba at h ⊢
 split at h
 ·rename_i h1; exact absurd h h1
 ·rename_i h1; rw [Aa h1]
  split at h
  ·rename_i h2; exact absurd h h2
  ·rename_i h2; rw [Aa h2]; split at h
   ·rename_i h3; exact absurd h h3
   ·rename_i h3; rw [Aa h3]; exact ⟨Ah.1 h1, Ah.1 h2, Ah.1 h3, rfl⟩
theorem zG {r : Gp} {s : Sm} {ws ms xs : List Zs} {c : Bs} (h : dY r s ws ms c = (xs, 0)) : (bO ws ∧ bO ms ∧ okN c) ∧ (ws.length = s.2.1.length ∧ ms.length = s.2.1.length) ∧ (val c < val r.1 ∧ inR s ws) ∧ mkR r (ak s.1) s.2.1 ms ∧ np r (ak s.1) s.2.1 (val c) ws ms s.2.1.length ∧ rsL (ak s.1) s.2.1 (val c) ws ms s.2.1.length = xs := by
 unfold dY at h
 by_cases h0 : bdE r s = 0
 ·rw [Aa (fun g => g h0)] at h
  by_cases h1 : bO ws ∧ bO ms ∧ okN c
  ·rw [Aa (fun g => g h1)] at h; by_cases h2 : ws.length = s.2.1.length ∧ ms.length = s.2.1.length
   ·rw [Aa (fun g => g h2)] at h; by_cases h3 : val c < val r.1 ∧ inR s ws
    ·rw [Aa (fun g => g h3)] at h; by_cases h4 : mkR r (ak s.1) s.2.1 ms
     ·rw [Aa (fun g => g h4), kL] at h; by_cases h5 : np r (ak s.1) s.2.1 (val c) ws ms s.2.1.length
      ·rw [Ae h5] at h; exact ⟨h1, h2, h3, h4, h5, congrArg Prod.fst h⟩
      ·rw [Aa h5] at h; cases congrArg Prod.snd h
     ·rw [Ae h4] at h; cases congrArg Prod.snd h
    ·rw [Ae h3] at h; cases congrArg Prod.snd h
   ·rw [Ae h2] at h; cases congrArg Prod.snd h
  ·rw [Ae h1] at h; cases congrArg Prod.snd h
 ·rw [Ae h0] at h; exact absurd (congrArg Prod.snd h) h0
theorem ze {s : Sm} {ws : List Zs} {t : Tp} (h : eC s ws t = 0) : cr t ∧ (cn s ws).2 = 0 ∧ (cn s ws).1 = true := by
 unfold eC at h
 by_cases h1 : bO ws
 ·rw [Aa (fun g => g h1)] at h
  by_cases h2 : bf t (ae 1) = 0
  ·rw [Aa (fun g => g h2)] at h; by_cases h3 : ws.length = s.2.1.length
   ·rw [Aa (fun g => g h3)] at h; by_cases h4 : inR s ws
    ·rw [Aa (fun g => g h4)] at h; by_cases h5 : (cn s ws).2 = 0
     ·rw [Aa (fun g => g h5)] at h; by_cases h6 : (cn s ws).1 = false
      ·rw [Ae h6] at h; cases h
      ·exact ⟨(kP h2).1, h5, by simpa using h6⟩
     ·rw [Ae h5] at h; exact absurd h h5
    ·rw [Ae h4] at h; cases h
   ·rw [Ae h3] at h; cases h
  ·rw [Ae h2] at h; exact absurd h h2
 ·rw [Ae h1] at h; cases h
theorem xG {n : Int} (h : 0 ≤ n) : (ofZ n).1 = false := by rw [ce]; exact Aj (by omega)
theorem iA (n : Int) : val (ofZ n).2 = n.natAbs := by rw [ce]; exact ah _
theorem iP {r : Gp} {s : Sm} (h : bdE r s = 0) {i : Nat} (hi : i < s.2.1.length) (hv : s.2.1.getD i default = []) : ak s.1 ≠ [] ∧ okN (ak s.1) ∧ 0 < val (ak s.1) := by
 have h1 : ak s.1 ≠ [] := nD h ⟨_, aj _ _ hi, hv⟩
 obtain ⟨_, hk, _, _⟩ := dg h
 have h2 : okN (ak s.1) := cm (cX hk).1.1
 exact ⟨h1, h2, iz h2 h1⟩
theorem zH {r : Gp} {s : Sm} {ws ms : List Zs} {c : Nat} (h0 : bdE r s = 0) (h : np r (ak s.1) s.2.1 c ws ms s.2.1.length) : rsR r (ak s.1) s.2.1 (rsL (ak s.1) s.2.1 c ws ms s.2.1.length) := by
 intro i hi
 rw [iF hi, aw]
 by_cases hv : s.2.1.getD i default = []
 ·obtain ⟨_, _, hp⟩ := iP h0 hi hv
  rw [Ae hv, f4, Ae hv]
  have h1 := Int.emod_nonneg (zv (ms.getD i default) + (c : Int) * zv (ws.getD i default) % (val (ak s.1) : Int)) (show (val (ak s.1) : Int) ≠ 0 by omega)
  have h2 := Int.emod_lt_of_pos (zv (ms.getD i default) + (c : Int) * zv (ws.getD i default) % (val (ak s.1) : Int)) (show (0 : Int) < (val (ak s.1) : Int) by omega)
  exact ⟨by rw [iA]; dsimp only; omega, fun _ => xG h1⟩
 ·rw [Aa hv]
  exact ⟨by rw [iA]; dsimp only; rw [ah]; exact h i hi hv, fun g => absurd g hv⟩
theorem zI {r : Gp} {s : Sm} {c : Nat} {ws ms : List Zs} (hs : Sml r s) (hq : okN (ak s.1)) (h : rsR r (ak s.1) s.2.1 (rsL (ak s.1) s.2.1 c ws ms s.2.1.length)) : bO (rsL (ak s.1) s.2.1 c ws ms s.2.1.length) := by
 intro x hx
 obtain ⟨i, hi, rfl⟩ := Dz.1 hx
 rw [dS] at hi
 have h1 := (h i hi).1
 have e : (rsL (ak s.1) s.2.1 c ws ms s.2.1.length)[i]'(by rw [dS]; exact hi) = (rsL (ak s.1) s.2.1 c ws ms s.2.1.length).getD i default := by rw [List.getD_eq_getElem?_getD, Ad (by rw [dS]; exact hi)]; rfl
 rw [e, iF hi] at *
 rw [iA] at h1
 exact bZ.2 (C9 h1 (a7 (iV hs.a hs.b (hs.v _ (aj _ _ hi)) hq).2))
theorem Ej {s : Sm} {c : Nat} {xs : List Zs} (hf : bc s) (he : elS s) : fsE s (cg s c xs) ∧ (∀ x ∈ cg s c xs, okN x) := by
 have h1 : ∀ q ∈ s.2.2, elG (s.1.getD q.1.toNat default) (lW s.1 c xs q) := fun q hq => by
  obtain ⟨hg, ht, hb⟩ := qG hf he hq
  exact nH hg ht hb (Ba _)
 refine ⟨fun i hi => ?_, fun x hx => ?_⟩
 ·rw [cg, cq _ _ _ hi]; exact h1 _ (aj _ _ hi)
 ·obtain ⟨q, hq, rfl⟩ := Ch.1 hx; exact (h1 q hq).1
theorem zj {r : Gp} {s : Sm} {n : Bs} {ws ms : List Zs} (hC : fS s) (h0 : bdE r s = 0) (h : Wit s ws) (hm : bO ms) (hn : okN n) (hr : val n < val r.1) (hx : bO (rsL (ak s.1) s.2.1 (val n) ws ms s.2.1.length))
  (hR : rsR r (ak s.1) s.2.1 (rsL (ak s.1) s.2.1 (val n) ws ms s.2.1.length)) : vfE r s (cg s (val n) (rsL (ak s.1) s.2.1 (val n) ws ms s.2.1.length)) n (rsL (ak s.1) s.2.1 (val n) ws ms s.2.1.length) = 0 := by
 obtain ⟨_, hk, _, _⟩ := dg h0
 obtain ⟨hF, hO⟩ := Ej (s := s) (c := val n) (xs := rsL (ak s.1) s.2.1 (val n) ws ms s.2.1.length) h.form h.el
 have hrd : dL s (rsL (ak s.1) s.2.1 (val n) ws ms s.2.1.length) = 0 := by rw [dL, Aa (fun g => g h.form), Aa (fun g => g hx), Aa (fun g => g hk), Aa (fun g => g (dS _ _ _ _ _ _))]
 have hi : (cF s (rsL (ak s.1) s.2.1 (val n) ws ms s.2.1.length)).2 = 0 := by rw [cF, Aa (fun g => g hrd), fF hC h.el h.form hx]
 have hV := CM (c := val n) hC h hm hx hk
 rw [pQ (c := val n) hC h hm] at hV
 rw [vfE, Aa (fun g => g h0), Aa (fun g => g hO), Aa (fun g => g ⟨hn, hx⟩), Aa (fun g => g ⟨by rw [cg, Ag], dS _ _ _ _ _ _⟩), Aa (fun g => g hr), Aa (fun g => g hR), Aa (fun g => g hF), Aa (fun g => g hi), Aa (fun g => g hV)]
theorem AD {r : Gp} {cx : Bs} {s : Sm} {ws : List Zs} {t : Tp} (hs : Sml r s) (hC : fS s) (h : (bF r cx s ws t).2.2 = 0) : Prf r cx s (bF r cx s ws t).1.1 (bF r cx s ws t).1.2 := by
 unfold bF at h ⊢
 split at h
 ·rename_i h1; exact absurd h h1
 ·rename_i h1; rw [Aa h1]
  split at h
  ·rename_i h2; exact absurd h h2
  ·rename_i h2; rw [Aa h2]; have hb := Ah.1 h1; obtain ⟨_, w2, w1⟩ := ze (Ah.1 h2); have hw := tn hC w2 w1; obtain ⟨u, u1, u2, u3⟩ := um h; generalize f9 r cx s ws 64 t = z at *; obtain ⟨⟨n, xs⟩, z1, z2⟩ := z; dsimp only at u2 u3 ⊢; rw [← u2] at u3; obtain ⟨⟨_, hm, hn⟩, ⟨_, hml⟩, ⟨hnr, _⟩, hmr, hok, hx⟩ := zG u3; obtain ⟨_, _, hi, hfi⟩ := vJ u1; obtain ⟨_, hk, _, _⟩ := dg hb; have hrd : dL s (ba r s u).1.1 = 0 := by rw [dL, Aa (fun g => g hw.form), Aa (fun g => g hm), Aa (fun g => g hk), Aa (fun g => g hml)]
   have hR := zH hb hok; have hZ := zI hs (cm hw.form.1) hR; have hM := pQ (c := val n) hC hw hm; have hV := zj hC hb hw hm hn hnr hZ hR; rw [hx] at hR hZ hM hV; refine ⟨hb, hn, hnr, hZ, ?_, hR, ?_, hV⟩
   ·rw [← hx, dS]
   ·rw [← hM, u2, iM, hfi, cF, Aa (fun g => g hrd)]
end Go.Proofs.YtchonigdjamphaaGreatDoor
