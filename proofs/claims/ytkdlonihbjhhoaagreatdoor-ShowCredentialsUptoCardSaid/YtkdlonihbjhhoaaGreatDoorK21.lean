/-
  Parts of the walk: ShaB ShaI Shc ShaD Sha5 Sha4.
-/
import Derived.Test.YtkdlonihbjhhoaaGreatDoorK20
namespace Go.Proofs.YtkdlonihbjhhoaaGreatDoor
open Go.RowKit
set_option linter.unusedSimpArgs false
set_option linter.unusedVariables false
set_option maxHeartbeats 600000
set_option maxRecDepth 20000
def awP : PR := { ch := [2], sl := [2], mn := (([47], [23]), ([4], [9])), wh := (([77], []), ([4], [9])), sec := [23], attr := [2], han := [20], lo := [3], sz := [10], bl := [20], msk := [15] }
def awK : IK := { name := [105], g := ([77], []), z := [15], s := [4], r := [[64], [23], [1]], u := [4], h := [4] }
theorem AP : f4 awP awK ⟨[53], [7], [2]⟩ ⟨[[4]], [], 0⟩ = (([16], (true, [26]), ⟨[[4]], [], 1⟩), 0) := by decide +kernel
theorem CZ : shE awP awK [16] [2] [[1]] = 0 := by decide +kernel
theorem wj : shS awP awK [16] [2] [[1]] = (shT awP awK [16] [2] [[1]], 0) := by rw [shS, Aa (fun h => h CZ)]
theorem CX : wiS awP ⟨[53], [7], [2]⟩ (true, [26]) [[1], [3], [1]] [2] = ([(false, [4]), (true, [26]), (false, [1]), (false, [3])], 0) := by decide +kernel
theorem CY : tgS awP awK [16] [2] [[1]] = [1] := by decide +kernel
theorem AQ : cx (shT awP awK [16] [2] [[1]]) [(false, [4]), (true, [26]), (false, [1]), (false, [3])] = (true, 0) := by decide +kernel
theorem vJ {l m : List Zs} {i : Nat} (h1 : i < l.length) (h2 : i < m.length) (h : l.take i = m.take i) (e : l.getD i default = m.getD i default) : l.take (i + 1) = m.take (i + 1) := by
 rw [qp h1, qp h2, h, e]
theorem AG {l m : List Zs} {i : Nat} (e : ¬ l.getD i default = m.getD i default) : ¬ l = m := fun h => e (by rw [h])
theorem CD {l m : List Zs} {a b : Option Addr} {c d : Nat} {w : World} {ok : Nat → Prop} (hF1 : (Fact.sl a (aN l)).holds ok w) (hF2 : (Fact.sl b (aN m)).holds ok w) (hl : l.length ≤ 10000000) (hm : m.length ≤ 10000000) :
  Cw 21 #[.slice a l.length c, .slice b m.length d] w (.bool (decide (l = m))) := by
 refine En [Fact.sl a (aN l), Fact.sl b (aN m)] [(0, .slice a l.length c), (1, .slice b m.length d)] Tryz.func21 I Tryz.ntmps21 I (Ac I (Ac I (An _))) (Fc (ah hF1) (Fc (ah hF2) Fn)) (Cs (Eo ?_)); refine Yo I u39 (Km I (Yo I u39 (EF (fun hc10 => ?_) (fun hc10 => ?_))))
 ·have hn : ¬ l = m := fun h => by subst h; simp at hc10
  refine Cs (ne ?_)
  exact Hj
 ·have hlen : l.length = m.length := by omega
  refine Fs ?_; refine Yo I u39 (Km I (Nt (Cb (Lp (σ := Nat) [(0, _), (1, _), (12, _)] (fun gq => [(13, .int .i64 (gq : Int))]) (fun gq => gq ≤ l.length ∧ l.take gq = m.take gq) (fun gq => l.length - gq) (0) (S3 I I I) (S1 I) (by (try dsimp only); exact ⟨Ai _, by simp⟩) ?_))))
  rintro i hinv1; (try dsimp only at hinv1 ⊢)
  obtain ⟨hi, hok⟩ := hinv1
  refine Ek (fun hc14 => ?_) (fun hc14 => ?_)
  ·have hil : i < l.length := by omega
   have him : i < m.length := by omega
   obtain ⟨x, hx⟩ : ∃ x, Keep (x = l.getD i default) := ⟨_, rfl⟩; obtain ⟨y, hy⟩ : ∃ y, Keep (y = m.getD i default) := ⟨_, rfl⟩; refine Ez ?_; refine Km I (Ka I (Nt (Cq (Cf [0, 1, 2, 3, 4, 5, 6, 7, 8] [] [0, 0, 0, 0, 0, 0, 0, 0, 0] (by kernel_rfl) (by kernel_rfl) I ?_)))); refine Ei ?_; refine Eu ?_; refine E6 ?_; refine WJ.set 19 I (v' := zV x) (by rw [show x = _ from hx]) ?_; refine Ei ?_; refine Eu ?_; refine E6 ?_; refine WJ.set 23 I (v' := zV y) (by rw [show y = _ from hy]) ?_; refine Kj I (uE I I I (by kernel_rfl) (fun w => gJ _ _ _ _ w)) ?_; refine WJ.nil ?_; refine Nt (Ci I (fun hc24 => ?_) (fun hc24 => ?_))
   ·have hn : ¬ l = m := AG (fun h => hc24 (by rw [show x = _ from hx, show y = _ from hy, h]; exact ⟨rfl, rfl⟩)); refine Cs (to ?_); refine DY ?_; exact Hj
   ·refine Ck (Xd (Xa (Cg (Kq I (Rz I I I (by omega)) (Km I (Nn (Ly (i + 1) (by (try dsimp only); omega) (S3 I I I) (by refine (Sc ?_ (S0 _)) <;> (rfl)) ?_ (fun _ h => h)))))))); (try dsimp only); exact ⟨hil, vJ hil him hok (by rw [← show x = _ from hx, ← show y = _ from hy]; exact Prod.ext hc24.1 hc24.2)⟩
  ·refine AS ?_; obtain rfl : i = l.length := by omega
   rw [Ah, hlen, Ah] at hok; refine Xa (Cs (to ?_)); exact R1 I I (by rw [Ak hok]; rfl)
theorem uj {w : World} :
  Calls Tryz.prog 38 #[] w fun e w' => ∃ g : Rs, e = .returned (.tuple #[prV awP, ikV awK (g.val 3)]) ∧ g.cap = 3 + g.sp.length ∧ St (fun _ => True) w [g.ent (al awK.r) 22] [] w' := by
 refine En [] [] Tryz.func38 I Tryz.ntmps38 I (An _) Fn (Cs (EJ ?_))
 intro b0
 refine Fp ?_
 intro b1
 refine Nt (Cs (FE ?_)); refine FE ?_; refine Kq I (Kb [[.string (S []), .string (S [])], [.string (S [])], [.string (S [])]] I I) (FE ?_); refine Kq I (Kb [[.string (S []), .string (S [])], [.string (S [])], [.string (S [])]] I I) (Kq I (Kb [[.string (S []), .string (S [])], [.string (S []), .string (S []), .string (S []), .string (S [])], [.string (S []), .string (S []), .string (S []), .string (S [])], [.string (S [])], [.string (S [])], [.string (S [])], [.string (S [])], [.string (S [])], [.string (S [])], [.string (S [])]] I I) ?_)
 refine EJ ?_
 intro b2
 refine DZ ?_; refine Nt (Cs (FE ?_))
 refine Kh I (aR I I u31 (by kernel_rfl : _ = some (some (.string (S [])), 1, 16)) I (by simp only [List.map]; rfl) I I ?_ (by decide)) ?_
 ·simp [Value.cells]
 intro b11
 refine Kq I (Kb [[.string (S [])], [.string (S []), .string (S [])], [.string (S [])], [.string (S [])], [.slice none 0 0], [.string (S [])], [.string (S [])]] I I) ?_
 refine Fp ?_
 intro b3
 refine DZ ?_; refine WL.st (fun w h => show St _ _ ([⟨some b3, ikC awK (.slice (some ⟨b11, 0, none⟩) 3 3), 33⟩, ⟨some b11, al awK.r, 22⟩, ⟨some b2, prC awP, 30⟩, _, _] : List Ent) _ w from h) ?_
 refine Nt (Cq (WC.free (K := [⟨some b3, ikC awK (.slice (some ⟨b11, 0, none⟩) 3 3), 33⟩, ⟨some b2, prC awP, 30⟩]) (fs0 := []) [0, 2, 1] [3] [0, 0, 1, 2] (by kernel_rfl) (by kernel_rfl) I ?_))
 refine Kj I (lda I I .tc u30 I ?_) ?_
 ·kernel_rfl
 refine WJ.st I I I I (gg I I I ?_ ?_ ?_) ?_
 ·kernel_rfl
 ·simp [Value.oneCell']
 ·rfl
 refine Kj I (lda I I .tc u33 I ?_) ?_
 ·kernel_rfl
 refine WJ.nil ?_
 refine DZ ?_; refine Nt (Ce ?_)
 exact Rn I (.agg I .tc u30 I (by kernel_rfl) (.agg I .tc u33 I (by kernel_rfl) .nil)) fun w' hS => ⟨⟨some b11, 3, []⟩, rfl, rfl, hS.sub (own' := [⟨some b11, al awK.r ++ [], 22⟩]) (.cons _ (by simp)) (fun _ h => by cases h)⟩
theorem pG {s : SA} {p : PR} {k : IK} {a : Bs} {d : List Int} {vs : List Bs} (hm8 : k.g.1.length ≤ 8) (hk : k.r.length ≤ 90000) (h : s.core = (shS p k a d vs).1) : saL s := by
 have hh : (ax d k.r.length).length ≤ k.r.length := by
  have := List.length_filter_le (fun i : Nat => !(d.contains (i : Int))) (List.range k.r.length)
  rw [List.length_range] at this; exact this
 have hc : s.gs.length ≤ 100000 ∧ s.vs.length ≤ 100000 ∧ s.core.2.2.length ≤ 100000 ∧ (∀ q ∈ s.core.2.2, q.2.2.length ≤ 100000) ∧ ∀ g ∈ s.gs, g.1.length ≤ 8 := by
  have e1 : s.gs = (shS p k a d vs).1.1 := congrArg (·.1) h
  have e2 : s.vs = (shS p k a d vs).1.2.1 := congrArg (·.2.1) h
  rw [e1, e2, h, shS]; split
  ·exact ⟨Ai _, Ai _, Ai _, by simp, by simp⟩
  ·exact ⟨by simp [shT], by simp [shT]; omega, by simp [shT], by simp [shT, fe]; omega, by simpa [shT] using hm8⟩
 exact ⟨hc.1, hc.2.1, by have := hc.2.2.1; simpa using this, ct.1 hc.2.2.2.1, hc.2.2.2.2⟩
abbrev awS : SG := ⟨[53], [7], [2]⟩
abbrev awZ : Zs := (true, [26])
theorem mR {w : World} (hT : Tab w) (hD : TabD w) :
  Cw 12 #[] w (.bool true) := by
 refine En [] [] Tryz.func12 I Tryz.ntmps12 I (An _) Fn (Cs (Ka I (Nt (Cs (Kh I (Oc I I (eT fun w hS => uj)) ?_)))))
 intro g15
 refine WL.pu ?_
 intro hg15; (try dsimp only at hg15 ⊢)
 refine Km I (Ye I (Ye I (EJ ?_)))
 intro b1
 refine Fp ?_
 intro b2
 refine DZ ?_; refine DZ ?_; refine Nt (Cs (Kq I (Kb [[.string (S [])], [.string (S [])], [.string (S [])]] I I) ?_))
 refine Kh I (Oz [.string (S []), .string (S []), .string (S [])] I) ?_
 intro b3
 refine Nu I I (Sa I I I .tc) (Nt (Cs (Kq I (lda I I .tc u30 I ?_) ?_)))
 ·kernel_rfl
 refine Kq I (lda I I .tc u33 I ?_) ?_
 ·kernel_rfl
 refine Kq I (lda I I .tc u35 I ?_) ?_
 ·kernel_rfl
 refine Kh I (aR I I u31 (by kernel_rfl : _ = some (some (.string (S [])), 1, 16)) I (by simp only [List.map]; rfl) I I ?_ (by decide)) ?_
 ·simp [Value.cells]
 intro b23
 refine ER ?_
 refine Kh I (Oc I I (eT fun w hS => wS (p := awP) (k := awK) (s := awS) (t := ⟨[[4]], [], 0⟩) (by (exact hS.sl)) (by (exact hS.os)) (by decide) (by decide) (by decide) (by decide) (by decide) (by decide) (by exact fG hT hS) (by exact bm hD hS))) ?_
 intro g25
 refine WL.pu ?_
 intro hg25; (try dsimp only at hg25 ⊢)
 rw [AP]
 refine Km I (Ye I (Ye I (Ye I (Ye I (By ?_)))))
 intro b5
 refine Fz ?_
 intro b6
 refine Ka I (Nu I I (Sa I I I .tc) (Nu I I (Sa I I I .tc) (Ka I (Nt (Cs (Kq I (lda I I .tc u30 I ?_) ?_))))))
 ·kernel_rfl
 refine Kq I (lda I I .tc u33 I ?_) ?_
 ·kernel_rfl
 refine Km I (Kh I (aR I I u38 (by kernel_rfl : _ = some (some (.int .i64 0), 1, 8)) I (by simp only [List.map]; rfl) I I ?_ (by decide)) ?_)
 ·simp [Value.cells]
 intro b34
 refine Kh I (aR I I u31 (by kernel_rfl : _ = some (some (.string (S [])), 1, 16)) I (by simp only [List.map]; rfl) I I ?_ (by decide)) ?_
 ·simp [Value.cells]
 intro b35
 refine WL.st (fun w h => (h.freeze (off := 0) (xs := al [[1]]) (fun i hi => by rw [A0]; rfl)).freeze (off := 0) (xs := cP [2]) (fun i hi => by rw [A0]; rfl)) ?_
 refine Kh I (Oc I I (eS fun w hS => ui (p := awP) (k := awK) (xa := [16]) (d := [2]) (vs := [[1]]) (by (exact hS.slo)) (by (exact hS.slo)) (by (exact hS.slo)) (by decide) (by decide) (by decide) (by decide) (by decide) (by decide) (by exact bm hD hS))) ?_
 rintro sa36
 refine WL.pu ?_
 intro hg36; (try dsimp only [List.cons_append, List.nil_append] at hg36 ⊢)
 rw [wj]
 refine Km I (Ye I (Ye I (E9 ?_)))
 intro b8
 refine Nu I I (Sa I I I .tc) (Ka I (Nt (Cs (Kq I (lda I I .tc u30 I ?_) ?_))))
 ·kernel_rfl
 refine Kq I (lda I I .tc u35 I ?_) ?_
 ·kernel_rfl
 refine Kq I (lda I I .tc u37 I ?_) ?_
 ·kernel_rfl
 refine Kh I (aR I I u31 (by kernel_rfl : _ = some (some (.string (S [])), 1, 16)) I (by simp only [List.map]; rfl) I I ?_ (by decide)) ?_
 ·simp [Value.cells]
 intro b43
 refine Kh I (aR I I u38 (by kernel_rfl : _ = some (some (.int .i64 0), 1, 8)) I (by simp only [List.map]; rfl) I I ?_ (by decide)) ?_
 ·simp [Value.cells]
 intro b44
 refine Kh I (Oc I I (kj fun w hS => wR (p := awP) (sg := awS) (v := awZ) (ms := [[1], [3], [1]]) (d := [2]) (by (exact hS.os)) (by (exact hS.os)) (by decide) (by decide) (by decide) (by exact bm hD hS))) ?_
 rintro g45
 refine WL.pu ?_
 intro hg45; (try dsimp only [List.cons_append, List.nil_append] at hg45 ⊢)
 rw [CX]
 refine BY ?_; refine Cq (Cs ?_)
 have hc9 : sa36.core = shT awP awK [16] [2] [[1]] := hg36.trans (congrArg (·.1) wj)
 have hes : sa36.es.length = 1 := by have := congrArg (fun c => c.2.2.length) hc9; simpa [SA.core, shT] using this
 obtain ⟨q, hq⟩ := List.length_eq_one_iff.1 hes
 have hq1 : q.1.2.1 = [1] := by have := congrArg (fun c => c.2.2.map (·.2.1)) hc9; simpa [SA.core, hq, shT, CY] using this
 refine Km I (Km I (Kq I (aA I I I (by (dsimp only; omega))) ?_))
 refine Km I (Kq I (aA I I I (by (dsimp only; omega))) ?_)
 refine Yj I (Km I (Ns 54 I (v' := .bool false) (by rfl) ?_))
 refine Km I (Yr I (Yq I (Km I (Ns 58 I (v' := .bool false) (by rfl) ?_))))
 refine Kq I (lda I I .tc u37 I ?_) ?_
 ·kernel_rfl
 refine AT ?_
 refine Kq I (uE I I I (by kernel_rfl) (fun w => gJ _ _ _ _ w)) ?_
 refine Yq I (Km I (Ns 63 I (v' := .bool false) (by rfl) ?_))
 refine Fm ?_
 refine Yo I u56 (Yj I (Yq I (Ns 68 I (v' := .bool false) (by rw [hes]; rfl) ?_)))
 refine Nt (Cd I (fun h => by cases h) (fun _ => ?_))
 refine Ck (Xa (Cs (Kq I (lda I I .tc u58 I ?_) ?_)))
 ·kernel_rfl
 refine Km I (Kc I (fun w hS => (by have := ro (w := w) (s := sa36) (ws := [(false, [4]), awZ, (false, [1]), (false, [3])]) (a := g45.a) (c := g45.cap) hS.sl hS.sl hS.sl hS.sl hS.more (pG (by decide) (by decide) hg36) (by decide); rw [hc9, AQ] at this; exact this)) (BY ?_)); refine Cs ?_
 rw [hq]
 refine Fm ?_
 refine Kq I (Ia I I I u56 (by kernel_rfl : _ = some 3) (by (simp <;> omega)) (by (simp <;> omega))) ?_
 (refine Kq I (faf I I u95 I (by kernel_rfl) (by (try simp only [sN, Int.reduceToNat, Nat.reduceAdd, Nat.reduceMul, Nat.reduceSub]); rfl)) ?_)
 refine Kq I (cO (sz := 3) 0 1 I I u22 I (fun _ => rfl) I (by simp) (by decide) I) ?_
 refine Ns 79 I (v' := .string (S ([1]))) (congrArg (fun l => Value.string (S l)) (by exact hq1)) ?_
 refine Ys I (Km I (Ns 81 I (v' := .bool true) (by rfl) ?_))
 refine Km I (AT ?_); refine AT ?_; refine AT ?_; refine AT ?_
 refine Kh I (ew I I u39 (by kernel_rfl : _ = some (some (.agg #[.bool false, .string (S [])]), 2, 24)) (by kernel_rfl) (by decide) I I (by (simp [Value.cells]; done)) (by (simp only [List.map, Value.cells, C5, List.flatMap_nil, Bm, Dy]; rfl)) (by decide)) ?_
 intro b87
 refine Kc I (fun w hS => CD (l := [(false, [4]), awZ, (false, [1]), (false, [3])]) (m := [(false, [4]), awZ, (false, [1]), (false, [3])]) (a := g45.a) (b := some ⟨b87, 0, none⟩) (c := g45.cap) (d := 4) (w := w) hS.sl hS.os (by decide) (by decide)) (Yp I (Km I (Ns 90 I (v' := .bool true) (by rfl) ?_)))
 refine Km I (Yi I (Yp I (Km I (Ns 94 I (v' := .bool true) (by rfl) ?_))))
 refine Km I (Yp I (to ?_))
 exact Hb
theorem yG : ∀ {a b : List Fact} {x : Fact}, InF b x → InF (a ++ b) x
 | [], _, _, h => h
 | _ :: a, _, _, h => .there (yG h)
instance (priority := low) SubL.app3 {α : Type} (x y z : List α) [h : SubL x z] : SubL x (y ++ z) := ⟨h.h.trans (List.sublist_append_right _ _)⟩
instance (priority := low) hasF_app3 {a b : List Fact} {x : Option Addr} {xs : List Value} [h : HasF b x xs] : HasF (a ++ b) x xs := ⟨yG h.h⟩
theorem lv {β : Type} (f : β → Nat) (g : β → Bs) : ∀ (L : List β) (l : List Bs), (L.foldl (fun l q => l.set (f q) (g q)) l).length = l.length
 | [], _ => rfl
 | q :: L, l => by rw [List.foldl_cons, lv f g L, C2]
def i7 (d : List Int) (vs : List Bs) (n j : Nat) : List Bs := (List.range j).foldl (fun l q => l.set (d.getD q default).toNat (vs.getD q default)) (List.replicate n [])
def pa (hid : List Nat) (w : List Zs) (l : List Bs) (j : Nat) : List Bs := (List.range j).foldl (fun l q => l.set (hid.getD q default) (w.getD (q + 2) default).2) l
def crL (n : Nat) (d : List Int) (vs : List Bs) (w : List Zs) : List Bs := pa (ax d n) w (i7 d vs n d.length) (ax d n).length
theorem mA (d : List Int) (vs : List Bs) (n j : Nat) : i7 d vs n (j + 1) = (i7 d vs n j).set (d.getD j default).toNat (vs.getD j default) := by
 rw [i7, List.range_succ, List.foldl_append]; rfl
theorem mz (hid : List Nat) (w : List Zs) (l : List Bs) (j : Nat) : pa hid w l (j + 1) = (pa hid w l j).set (hid.getD j default) (w.getD (j + 2) default).2 := by
 rw [pa, List.range_succ, List.foldl_append]; rfl
theorem eD (d : List Int) (vs : List Bs) (n j : Nat) : (i7 d vs n j).length = n := by rw [i7, lv, Dp]
theorem gH (hid : List Nat) (w : List Zs) (l : List Bs) (j : Nat) : (pa hid w l j).length = l.length := by rw [pa, lv]
def crE (w : List Zs) : Prop := ∀ i, i < w.length → i ≠ 1 → (w.getD i default).1 = false
instance (w : List Zs) : Decidable (crE w) := inferInstanceAs (Decidable (∀ i, i < w.length → _))
def crS (p : PR) (k : IK) (a : Bs) (d : List Int) (vs : List Bs) (w : List Zs) : (List Bs × Zs × Bs) × Int :=
 if (shS p k a d vs).2 ≠ 0 then (([], (false, []), []), (shS p k a d vs).2)
 else if (cx (shS p k a d vs).1 w).2 ≠ 0 then (([], (false, []), []), (cx (shS p k a d vs).1 w).2)
 else if (cx (shS p k a d vs).1 w).1 = false then (([], (false, []), []), 18)
 else if ¬ crE w then (([], (false, []), []), 2)
 else if (addN p.lo (w.getD 0 default).2).2 ≠ 0 then (([], (false, []), []), (addN p.lo (w.getD 0 default).2).2)
 else ((crL k.r.length d vs w, w.getD 1 default, (addN p.lo (w.getD 0 default).2).1), 0)
section
variable {p : PR} {k : IK} {s : SG} {ms : List Bs} {t : Tp} {d : List Int}
end
abbrev crV (r : (List Bs × Zs × Bs) × Int) (g : Rs) : Value := .tuple #[g.val r.1.1.length, zV r.1.2.1, .string (S r.1.2.2), .int .i64 r.2]
theorem ou {p : PR} {k : IK} {a : Bs} {d : List Int} {vs : List Bs} (h : shE p k a d vs = 0) : bV p k = 0 ∧ cC 1 d k.r.length = true ∧ vs.length = d.length := by
 unfold shE at h
 split at h
 ·rename_i h1; exact absurd h h1
 ·rename_i h1; split at h
  ·simp at h
  ·split at h
   ·simp at h
   ·split at h
    ·simp at h
    ·rename_i h2; split at h
     ·simp at h
     ·rename_i h3; exact ⟨Al.1 h1, by simpa using h2, Al.1 h3⟩
theorem ot {p : PR} {k : IK} {a : Bs} {d : List Int} {vs : List Bs} (h : (shS p k a d vs).2 = 0) : shE p k a d vs = 0 ∧ shS p k a d vs = (shT p k a d vs, 0) := by
 unfold shS at h ⊢
 split at h
 ·rename_i h1; exact absurd h h1
 ·rename_i h1; exact ⟨Al.1 h1, by rw [Aa h1]⟩
theorem rp {s : Sm} {ws : List Zs} (h : (cx s ws).1 = true) : ep s ws = 0 := by
 unfold cx at h
 split at h
 ·simp at h
 ·rename_i h1; exact Al.1 h1
theorem iF (l : List Bs) (i : Nat) (v : Bs) : al (l.set i v) = (al l).set i (.string (S v)) := by rw [al, List.map_set]
theorem ol (n : Nat) : List.replicate n (Value.string (S [])) = al (List.replicate n []) := by rw [al, D9]
abbrev CCO (n : Nat) (d : List Int) (vs : List Bs) (ws : List Zs) (da za : Option Addr) (dc zc' b7 b11 b13 b22 b25 b85 h1 h2 : Nat) (k : IK) (rs : Value) (l : List Nat) (_ : Unit) : List Ent :=
 [⟨some h2, [.int .i64 (n : Int)], 3⟩, ⟨some h1, [.slice da d.length dc], 38⟩, ⟨some b25, [.int .i64 ((2 + l.length : Nat) : Int)], 3⟩, ⟨some b22, [.slice (some ⟨b85, 0, none⟩) n n], 31⟩, ⟨some b85, al (pa (ax d n) ws (i7 d vs n d.length) l.length), 22⟩, ⟨some b13, [.bool false, .string (S [])], 37⟩, ⟨some b11, [.slice za ws.length zc'], 39⟩, ⟨some b7, ikC k rs, 33⟩]
theorem y3 {p : PR} {k : IK} {xa : Bs} {d : List Int} {vs : List Bs} {ws : List Zs} {ra da va za : Option Addr} {rc dc vc zc' : Nat} {w : World} {ok : Nat → Prop} (hF1 : (Fact.sl ra (al k.r)).holds ok w) (hF2 : (Fact.sl da (cP d)).holds ok w) (hF3 : (Fact.sl va (al vs)).holds ok w) (hF4 : (Fact.sl za (aN ws)).holds ok w) (hm8 : p.mn.1.1.length ≤ 8) (hk8 : k.g.1.length ≤ 8) (hkl : k.r.length ≤ 90000) (hnl : k.name.length ≤ 140737488351232) (hdl : d.length ≤ 140737488351232) (hvl : vs.length ≤ 140737488351232) (hwl : ws.length ≤ 100000) (hD : TabD w) :
  Calls Tryz.prog 28 #[prV p, ikV k (.slice ra k.r.length rc), .string (S xa), .slice da d.length dc, .slice va vs.length vc, .slice za ws.length zc'] w fun e w' => ∃ gx : Rs, e = .returned (crV (crS p k xa d vs ws) gx) ∧ (True) ∧ Below w.heap.size w w' ∧ ∀ x ∈ ([Fact.sl gx.a (al (crS p k xa d vs ws).1.1)] : List Fact), x.holds (fun b => ok b ∨ w.heap.size ≤ b) w' := by
 refine jH (S := St (fun b => ok b ∨ w.heap.size ≤ b) w [] ([Fact.sl ra (al k.r), Fact.sl da (cP d), Fact.sl va (al vs), Fact.sl za (aN ws)])) (L := [(0, prV p), (1, ikV k (.slice ra k.r.length rc)), (2, .string (S xa)), (3, .slice da d.length dc), (4, .slice va vs.length vc), (5, .slice za ws.length zc')]) Tryz.func28 rfl Tryz.ntmps28 rfl (Ac rfl (Ac rfl (Ac rfl (Ac rfl (Ac rfl (Ac rfl (An _))))))) (St.start (fun _ h => Or.inr h) (fu (Fc hF1 (Fc hF2 (Fc hF3 (Fc hF4 Fn)))))) ?_
 refine DX ?_
 intro b6
 refine Ff ?_
 intro b7
 refine Ff ?_
 intro b11
 refine Ka I (By ?_)
 intro b13
 refine Ka I (Ka I (Nt (Cs (Kq I (lda I I .tc u30 I ?_) ?_))))
 ·kernel_rfl
 refine Kq I (lda I I .tc u33 I ?_) ?_
 ·kernel_rfl
 refine Km I (Km I (Km I (Kh I (Oc I I (eS fun w hS => ui (p := p) (k := k) (xa := xa) (d := d) (vs := vs) (by (exact hS.slo)) (by (exact hS.slo)) (by (exact hS.slo)) (by exact hm8) (by exact hk8) (by omega) (by exact hnl) (by exact hdl) (by exact hvl) (by exact bm hD hS))) ?_)))
 rintro sa
 refine WL.pu ?_
 intro hg33; (try dsimp only [List.cons_append, List.nil_append] at hg33 ⊢)
 refine Km I (Ye I (Ye I (E9 ?_)))
 intro b16
 refine DZ ?_; refine Eo ?_; refine EF (fun hc37 => ?_) (fun hc37 => ?_)
 ·have hr : crS p k xa d vs ws = (([], (false, []), []), (shS p k xa d vs).2) := by rw [crS, Ab (by simpa using hc37)]
  refine Cs (AT ?_); refine Km I (Ka I (DZ ?_)); refine Ka I (ne ?_)
  exact WX.retM0 rfl (.tmp rfl (.agg rfl .tc u37 rfl (by kernel_rfl) (.tmp rfl (.tmp rfl .nil)))) fun w' hS => ⟨⟨none, 0, []⟩, by rw [hr]; rfl, trivial, hS.below, by rw [hr]; exact Fc bc Fn⟩
 ·have h0 : (shS p k xa d vs).2 = 0 := by simpa using hc37
  have hsL : saL sa := pG hk8 hkl hg33
  obtain ⟨hE0, hsT⟩ := ot h0
  obtain ⟨hN, hasc, hlen⟩ := ou hE0
  refine Ck (Xa (Cs (Kq I (lda I I .tc u58 I ?_) ?_)))
  ·kernel_rfl
  refine Kq I (Ld I I .tc u39) ?_
  refine Kc I (fun w hS => ro (s := sa) (ws := ws) (by (exact hS.sl)) (by (exact hS.sl)) (by (exact hS.sl)) (by (exact hS.sl)) (by (exact hS.more)) (by exact hsL) (by exact hwl)) (BY ?_); refine Cq (Cs (Km I (EF (fun hc47 => ?_) (fun hc47 => ?_))))
  ·have hr : crS p k xa d vs ws = (([], (false, []), []), (cx sa.core ws).2) := by rw [crS, Aa (fun h => h h0), ← hg33, Ab (by simpa using hc47)]
   refine Cs (AT ?_); refine Km I (Ka I (DZ ?_)); refine Ka I (ne ?_); exact G6
  ·have hh0 : (cx sa.core ws).2 = 0 := by simpa using hc47
   refine Fs ?_; refine Ex (fun hc51 => ?_) (fun hc51 => ?_)
   ·have hr : crS p k xa d vs ws = (([], (false, []), []), 18) := by rw [crS, Aa (fun h => h h0), ← hg33, Aa (fun h => h hh0), Ab (by simpa using hc51)]
    refine Cs (AT ?_); refine Ka I (DZ ?_); refine Ka I (ne ?_); exact G6
   ·have hh1 : (cx sa.core ws).1 = true := by simpa using hc51
    have hh1n : ¬ (cx sa.core ws).1 = false := by rw [hh1]; decide
    have hwv : ws.length = 2 + (ax d k.r.length).length := by
     have h1 := (nf (rp hh1)).2.2.2; rw [hg33, hsT] at h1; simp [shT] at h1; omega
    refine GV ?_; refine Kq I (Ld I I .tc u39) ?_; refine Yo I u39 (Km I (Nt (Cb (Lp (σ := Nat) [(3, _), (4, _), (6, _), (7, _), (11, _), (13, _), (53, _), (54, _)] (fun gq => [(55, .int .i64 (gq : Int))]) (fun gq => gq ≤ ws.length ∧ ∀ j, j < gq → j ≠ 1 → (ws.getD j default).1 = false) (fun gq => ws.length - gq) (0) (S8 I I I I I I I I) (S1 I) (by (try dsimp only); exact ⟨Ai _, fun _ h => absurd h (Dg _)⟩) ?_)))); rintro i hinv1; (try dsimp only at hinv1 ⊢); obtain ⟨hi, hok⟩ := hinv1; refine Ek (fun hc56 => ?_) (fun hc56 => ?_)
    ·have hil : i < ws.length := by omega
     refine Ez ?_; refine Km I (Ep ?_); refine EY ?_; refine By ?_; intro b20; refine Ka I (DZ ?_); refine Nt (WC.joinP (σ := Unit) [(3, _), (4, _), (6, _), (7, _), (11, _), (13, _), (53, _), (54, _), (55, _)] (fun gq => [(65, .bool (decide (i ≠ 1 ∧ (ws.getD i default).1 = true)))]) (fun gq => True) (S9 I I I I I I I I I) ?_ ?_)
     ·skip
      refine Cg (Km I (Yj I (Km I (Nc 62 I (fun hg62 => ?_) (fun hg62 => ?_)))))
      ·refine Kf 0 I u37 I I I .tc u4 ?_; refine Yp I (Nn (WX.joinP (()) (S9 I I I I I I I I I) (by refine (Sc ?_ (S0 _)) <;> ((refine congrArg (fun b => some (Value.bool b)) ?_; simp [*]; omega))) ?_ (fun _ h => h))); (try dsimp only); done
      ·refine T2 I (Yq I (Nn (WX.joinP (()) (S9 I I I I I I I I I) (by refine (Sc ?_ (S0 _)) <;> ((exact congrArg (fun b => some (Value.bool b)) (by symm; apply Aj; omega)))) ?_ (fun _ h => h)))); (try dsimp only); done
     ·rintro _ hmeet; (try dsimp only at hmeet ⊢); refine Ci I (fun hc65 => ?_) (fun hc65 => ?_)
      ·have hr : crS p k xa d vs ws = (([], (false, []), []), 2) := by rw [crS, Aa (fun h => h h0), ← hg33, Aa (fun h => h hh0), Aa hh1n, Ab (fun h => by have := h i hil hc65.1; rw [hc65.2] at this; cases this)]
       refine Cs (AT ?_); refine Ka I (DZ ?_); refine Ka I (to ?_); refine DY ?_; exact G6
      ·refine Ck (Xd (Xa (Cg (Kq I (Rz I I I (by omega)) (Km I (Nn (Ly (i + 1) (by (try dsimp only); omega) (S8 I I I I I I I I) (by refine (Sc ?_ (S0 _)) <;> (rfl)) ?_ (by (exact au))))))))); (try dsimp only)
       exact ⟨hil, fun j hj h1 => by
         rcases Cm.1 hj with h | h
         ·exact hok j h h1
         ·subst h
          cases hb : (ws.getD j default).1
          ·rfl
          ·exact absurd ⟨h1, hb⟩ hc65⟩
    ·refine AS ?_; obtain rfl : i = ws.length := by omega
     have hce : crE ws := hok; have hw0 : 0 < ws.length := by omega
     have hw1 : 1 < ws.length := by omega
     refine Xa (Cq (WC.free (K := [⟨some b11, [.slice za ws.length zc'], 39⟩, ⟨some b6, prC p, 30⟩]) (fs0 := [Fact.sl za (aN ws)]) [0, 1, 2, 3, 4, 5, 6, 7, 8, 9, 10, 11] [] [0, 0, 0, 0, 0, 0, 1, 0, 0, 0, 0, 0] (by kernel_rfl) (by kernel_rfl) I ?_)); refine Kj I (Fa (q := 13) I I u30 I I) (EB ?_); refine Kj I (Ld I I .tc u39) ?_; refine Eu ?_; (refine Kj I (faf I I u37 I (by kernel_rfl) (by (try simp only [sN, Int.reduceToNat, Nat.reduceAdd, Nat.reduceMul, Nat.reduceSub]); rfl)) ?_); refine Kj I (cO (l := ws) (f := zc) (sz := 2) 0 1 I I u22 I (fun _ => rfl) I hw0 (by decide) I) ?_; refine Jv I I I I I (fun ext => Oc I I (Kv fun w hS => wq (a := p.lo) (b := (ws.getD 0 default).2))) ?_; refine E0 ?_; refine EN ?_; refine WJ.nil ?_; refine Nt (Cq (Cs (Km I (EF (fun hc79 => ?_) (fun hc79 => ?_)))))
     ·have hr : crS p k xa d vs ws = (([], (false, []), []), (addN p.lo (ws.getD 0 default).2).2) := by rw [crS, Aa (fun h => h h0), ← hg33, Aa (fun h => h hh0), Aa hh1n, Aa (fun h => h hce), Ab (by simpa using hc79)]
      refine Cs (AT ?_); refine Km I (Ka I (DZ ?_)); refine Ka I (ne ?_); exact G6
     ·have ha0 : (addN p.lo (ws.getD 0 default).2).2 = 0 := by simpa using hc79
      have hr : crS p k xa d vs ws = ((crL k.r.length d vs ws, ws.getD 1 default, (addN p.lo (ws.getD 0 default).2).1), 0) := by rw [crS, Aa (fun h => h h0), ← hg33, Aa (fun h => h hh0), Aa hh1n, Aa (fun h => h hce), Aa (fun h => h ha0)]
      have hk18 : k.r.length ≤ 18 := (bo hN).2.2.2.2.2.2.1; have hhl := ko d k.r.length; refine Ck (Xa (Cs (Fx ?_))); refine Yo I u31 (Kh I (dQ I I I u31 (by kernel_rfl : _ = some (some (.string (S [])), 1, 16)) I ?_ (by (try simp only [sN, Int.reduceToNat, Nat.reduceAdd, Nat.reduceMul, Nat.reduceSub]); rfl) (by (try simp only [sN, Int.reduceToNat, Nat.reduceAdd, Nat.reduceMul, Nat.reduceSub]); rfl)) ?_)
      ·omega
      intro b85; refine F7 ?_; intro b22; refine Ng I I (st I I I .tc (by kernel_rfl) I ?_ (by (simp only [As, At]; rfl))) ?_
      ·decide
      intro _; refine Nt (Cq (Cs (Km I (Gb ?_)))); refine Lo (σ := Nat) [(3, _), (7, _), (11, _), (13, _), (21, _), (22, _), (86, _), (87, _)] (fun gq => [(88, .int .i64 (gq : Int))]) (fun gq => gq ≤ vs.length) (fun gq => vs.length - gq) (fun gq => [⟨some b22, [.slice (some ⟨b85, 0, none⟩) k.r.length k.r.length], 31⟩, ⟨some b85, al (i7 d vs k.r.length gq), 22⟩, ⟨some b13, [.bool false, .string (S [])], 37⟩, ⟨some b11, [.slice za ws.length zc'], 39⟩, ⟨some b7, ikC k (.slice ra k.r.length rc), 33⟩]) (fun gq => [Fact.sl da (cP d), Fact.sl va (al vs), Fact.sl za (aN ws)]) (0) (S8 I I I I I I I I) (S1 I) (by (try dsimp only); exact Ai _) (by exact fun w h => by show St _ _ [_, ⟨some b85, al (List.replicate k.r.length []), _⟩, _, _, _] _ _; rw [← ol]; exact au _ h) ?_; rintro j hinv2; (try dsimp only at hinv2 ⊢); obtain hj := hinv2; refine Ek (fun hc89 => ?_) (fun hc89 => ?_)
      ·have hjl : j < vs.length := by omega
       have hjd : j < d.length := by omega
       have hdj := ef hasc _ (ak d j hjd); obtain ⟨y, hy⟩ : ∃ y : Nat, Keep ((y : Int) = d.getD j default) := ⟨(d.getD j default).toNat, Int.toNat_of_nonneg (by omega)⟩; have hyl : y < k.r.length := by have := show (y : Int) = _ from hy; omega
       have hfl := eD d vs k.r.length j; refine Ez ?_; refine Km I (Ey ?_); refine EZ ?_; refine Ka I (Ka I (Nt (WC.free (K := [⟨some b22, [.slice (some ⟨b85, 0, none⟩) k.r.length k.r.length], 31⟩]) (fs0 := [Fact.sl da (cP d)]) [0, 1, 2, 3, 4, 5, 6] [7] [0, 0, 0, 0, 0, 0, 0, 2] (by kernel_rfl) (by kernel_rfl) I ?_))); refine FC ?_; refine Ei ?_; refine Fd ?_; refine Fy ?_; refine WJ.set 97 I (v' := .int .i64 ((y : Int))) (congrArg (Value.int .i64) (by rw [show (y : Int) = _ from hy])) ?_; refine E0 ?_; refine FZ ?_; refine WJ.nil ?_; refine Ng I I (st I I I .tc (by kernel_rfl) I ?_ (by rfl)) ?_
       ·(simp <;> omega)
       intro _; refine Nn (Xd (Xa (Cg (Kq I (Rz I I I (by omega)) (Km I (Nn (Lx (j + 1) (by (try dsimp only); omega) (S8 I I I I I I I I) (by refine (Sc ?_ (S0 _)) <;> (rfl)) ?_ (by exact fun w h => by (try dsimp only); rw [mA, iF, ← show (y : Int) = _ from hy, Au]; exact au _ h)))))))); (try dsimp only); exact hjl
      ·refine AS ?_; obtain rfl : j = vs.length := by omega
       have hit := nO (l := ax d k.r.length) []; rw [List.nil_append] at hit; rw [hlen]; refine Xa (Cs (FB ?_)); intro b25; refine Ng I I (st I I I .tc (by kernel_rfl) I ?_ (by (simp only [As, At]; rfl))) ?_
       ·decide
       intro _; refine Nt (Cq (Cs (Km I (Fx ?_)))); refine Yo I u31 (Kh I (Oc I I (fun w hS => ls (a := da) (m := d.length) (c := dc) (n := k.r.length) hS)) ?_); intro g105; refine Nt (Cb (WC.range (CO := CCO k.r.length d vs ws da za dc zc' b7 b11 b13 b22 b25 b85 g105.1 g105.2 k (.slice ra k.r.length rc)) (pg := fun _ _ => True) (inv := fun l x => ∃ r, l ++ x :: r = ax d k.r.length) (after := fun l x => l ++ [x]) (stop := fun _ _ => none) (enc := fun y : Nat => #[Value.int .i64 (y : Int)]) (([] : List Nat)) (()) ((itL (fun (l : List Nat) x => l ++ [x]) (fun _ _ => (none : Option Code)) (ax d k.r.length) []).1) ((itL (fun (l : List Nat) x => l ++ [x]) (fun _ _ => (none : Option Code)) (ax d k.r.length) []).2) (trivial) I (by kernel_rfl) (fun _ => rfl) (by exact fun w h => by show St _ _ [⟨some g105.2, _, _⟩, ⟨some g105.1, _, _⟩, ⟨some b25, [.int .i64 2], _⟩, ⟨some b22, _, _⟩, ⟨some b85, al (i7 d vs k.r.length d.length), _⟩, ⟨some b13, _, _⟩, ⟨some b11, _, _⟩, ⟨some b7, _, _⟩] _ _; exact au _ h) ?_ (fun l r D w hl' hY hS => vn (J := fun l s => s ++ l = ax d k.r.length) (d := d) (a := da) (c := dc) (n := k.r.length) hY hS trivial (List.nil_append _) (fun l x s h => ⟨⟨l, h⟩, fun _ => by rw [B6]; exact h⟩) hasc hdl (by omega)) ?_ ?_))
       ·intro l r D f a s g x ext wr hl hi hpg hF hS; obtain ⟨rr, hrr⟩ := hi; obtain ⟨hxn, hsn⟩ := kn hrr; have hsl : s.length < (ax d k.r.length).length := by rw [← hrr, Ay, Aq]; omega
        have hxe : (ax d k.r.length).getD s.length default = x := by rw [← hrr, List.getD_eq_getElem?_getD, List.getElem?_append_right (Bg _), Cy]; rfl
        have hf2 := gH (ax d k.r.length) ws (i7 d vs k.r.length d.length) s.length; have hf1 := eD d vs k.r.length d.length; rw [o9]; refine el (Fr.tm (hF.put (d := 106) rfl _)) hS ?_; refine FO ?_; refine GG ?_; refine Cb (Cq (WR.free (K := [⟨some b25, [.int .i64 ((2 + s.length : Nat) : Int)], 3⟩, ⟨some b22, [.slice (some ⟨b85, 0, none⟩) k.r.length k.r.length], 31⟩, ⟨some b11, [.slice za ws.length zc'], 39⟩]) (fs0 := [Fact.sl za (aN ws)]) (by kernel_rfl) [0, 1, 2, 3, 4, 5, 6, 7] [8] [0, 0, 0, 0, 0, 0, 0, 0, 2] (by kernel_rfl) (by kernel_rfl) I ?_)); refine FC ?_; refine E0 ?_; refine Kj I (Ld I I .tc u39) ?_; refine Kj I (Ld I I .tc u3) ?_; refine Eu ?_; (refine Kj I (faf I I u37 I (by kernel_rfl) (by (try simp only [sN, Int.reduceToNat, Nat.reduceAdd, Nat.reduceMul, Nat.reduceSub]); rfl)) ?_); refine Kj I (cO (sz := 2) _ 1 I I u22 I (fun _ => rfl) I (by omega) (by decide) I) ?_; refine FZ ?_; refine WJ.nil ?_; refine Ng I I (st I I I .tc (by kernel_rfl) I ?_ (by rfl)) ?_
        ·(simp <;> omega)
        intro _; refine Nt (FO ?_); refine Gh ?_; refine Ge ?_; refine Ng I I (st I I I .tc (by kernel_rfl) I ?_ (by (simp only [As, At]; rfl))) ?_
        ·(simp; done)
        intro _; refine Nn (Xd ?_)
        exact WX.rnext hl fun w' hS => by
         refine ⟨rfl, (), fun _ => trivial, ?_⟩; dsimp only [CCO]; rw [Ay, List.length_singleton, mz, iF, hxe, show s.length + 2 = 2 + s.length by omega]; exact hS
       ·intro D1 g1 hD1 hg1 hcf; rw [hit]; dsimp only [CCO]; refine Xd (Xa (Cq (WC.free (K := [⟨some b22, [.slice (some ⟨b85, 0, none⟩) k.r.length k.r.length], 31⟩, ⟨some b11, [.slice za ws.length zc'], 39⟩]) (fs0 := [Fact.sl za (aN ws)]) [0, 1, 2, 3, 5, 6, 4] [7, 8] [0, 0, 0, 0, 0, 0, 1, 2, 2] (by kernel_rfl) (by kernel_rfl) I ?_))); refine FC ?_; refine Kj I (Ld I I .tc u39) ?_; refine Eu ?_; refine Kj I (bO (l := ws) (f := zc) (sz := 2) 1 I I u37 I (by kernel_rfl : _ = some 2) (fun _ => rfl) (by decide) I hw1) ?_; refine Fg ?_; refine WJ.st I I I I (gg I I I ?_ ?_ ?_) ?_
        ·kernel_rfl
        ·simp [Value.oneCell']
        ·rfl
        refine E0 ?_; refine WJ.nil ?_; refine Ka I (to ?_); exact WX.retM1 hD1 I (.tmp I (.agg I .tc u37 I (by kernel_rfl) (.tmp I (.tmp I .nil)))) fun w' hS => ⟨⟨some b85, k.r.length, []⟩, by rw [hr]; dsimp only [crV]; rw [crL, gH, eD]; rfl, trivial, hS.below, by rw [hr]; exact Fc hS.osk Fn⟩
       ·intro D1 g1 c hD1 hcf; (rw [hit] at hcf; cases hcf)
theorem y8 {l : List Int} {n : Int} {a : Option Addr} {c : Nat} {w : World} {ok : Nat → Prop} (hF1 : (Fact.sl a (cP l)).holds ok w) (hl : l.length ≤ 140737488351232) :
  Cw 62 #[.slice a l.length c, .int .i64 n] w (.bool (cC 1 l n)) := by
 refine En [Fact.sl a (cP l)] [(0, .slice a l.length c), (1, .int .i64 n)] Tryz.func62 I Tryz.ntmps62 I (Ac I (Ac I (An _))) (Fc (ah hF1) Fn) (Cs (EP ?_)); refine Lp (σ := Nat × Int) [(0, _), (1, _)] (fun gq => [(5, .int .i64 (gq.1 : Int))]) (fun gq => gq.1 ≤ l.length ∧ cC gq.2 (l.drop gq.1) n = cC 1 l n ∧ 1 ≤ gq.2 ∧ (gq.1 = 0 → gq.2 = 1) ∧ (0 < gq.1 → gq.2 = l.getD (gq.1 - 1) default ∧ 2 ≤ gq.2)) (fun gq => l.length - gq.1) (0, 1) (S2 I I) (S1 I) (by (try dsimp only); exact ⟨Ai _, rfl, by omega, fun _ => rfl, fun h => by omega⟩) ?_
 rintro ⟨i, last⟩ hinv1; (try dsimp only at hinv1 ⊢)
 obtain ⟨hi, he, hl1, hl2, hl3⟩ := hinv1
 refine Cq (E3 ?_); refine Yo I u38 (Es (fun hc9 => ?_) (fun hc9 => ?_))
 ·have hil : i < l.length := by omega
  obtain ⟨y, hy⟩ : ∃ y, Keep (y = l.getD i default) := ⟨_, rfl⟩
  rw [g8 hil, ← show y = _ from hy, cC] at he
  refine Ck (Xa (Cq (Cb (WC.joinP (σ := Unit) [(0, _), (1, _), (5, _)] (fun gq => [(40, .bool (decide (¬ (last < y ∧ y < n))))]) (fun gq => True) (S3 I I I) ?_ ?_))))
  ·skip
   refine Cf [0, 1, 2, 3, 4, 5, 6, 7, 8, 9, 10, 11, 12, 13, 14, 15, 16, 17, 18, 19, 20, 21, 22, 23, 24, 25, 26, 27, 28] [] [0, 0, 0, 0, 0, 0, 0, 0, 0, 0, 0, 0, 0, 0, 0, 0, 0, 0, 0, 0, 0, 0, 0, 0, 0, 0, 0, 0, 0] (by kernel_rfl) (by kernel_rfl) I ?_; refine Ei ?_; refine Fd ?_; refine Fy ?_; refine WJ.set 15 I (v' := .int .i64 (y)) (congrArg (Value.int .i64) (by rw [show y = _ from hy])) ?_; refine Kj I (kZ I I I) (E0 ?_); refine WJ.bool 17 I (fun hg17 => ?_) (fun hg17 => ?_)
   ·(try simp only [sB] at hg17); refine Js I I I I (Js I I I I (Js I I I I (Js I I I I (Js I I I I (Js I I I I (Kj I (Rp I I I) (Kj I (Rm I I) (Js I I I I (Js I I I I (Js I I I I (Js I I I I (Js I I I I (Js I I I I (Js I I I I (Js I I I I (Js I I I I (Js I I I I (Js I I I I (Js I I I I (Js I I I I (Js I I I I (Kj I (Rp I I I) ?_)))))))))))))))))))))); refine WJ.nil ?_; refine Nn (WX.joinP (()) (S3 I I I) (by refine (Sc ?_ (S0 _)) <;> ((exact congrArg (fun b => some (Value.bool b)) (by symm; apply Ak; omega)))) ?_ (fun _ h => h)); (try dsimp only); done
   ·(try simp only [sB] at hg17); refine Ei ?_; refine Fd ?_; refine Fy ?_; refine WJ.set 21 I (v' := .int .i64 (y)) (congrArg (Value.int .i64) (by rw [show y = _ from hy])) ?_; refine E0 ?_; refine Kj I (pP I I I) (Kj I (Rq I I I) (E0 ?_)); refine WJ.bool 25 I (fun hg25 => ?_) (fun hg25 => ?_)
    ·(try simp only [sB] at hg25); refine Js I I I I (Js I I I I (Js I I I I (Js I I I I (Js I I I I (Js I I I I (Js I I I I (Js I I I I (Js I I I I (Js I I I I (Js I I I I (Js I I I I (Js I I I I (Js I I I I (Kj I (Rp I I I) ?_)))))))))))))); refine WJ.nil ?_; refine Nn (WX.joinP (()) (S3 I I I) (by refine (Sc ?_ (S0 _)) <;> ((refine aj rfl ?_; (try dsimp only); (simp [*]; done)))) ?_ (fun _ h => h)); (try dsimp only); done
    ·(try simp only [sB] at hg25); refine E0 ?_; refine Kj I (k4 I I I) (E0 ?_); refine WJ.bool 28 I (fun hg28 => ?_) (fun hg28 => ?_)
     ·(try simp only [sB] at hg28); refine Kj I (Rm I I) (Kj I (Rm I I) ?_); refine Kj I (Ib I I I u38 (by omega) (by (rw [Af]; omega))) ?_; refine Kj I (ldm I I u3 I (by assumption)) ?_; refine WJ.set 32 I (v' := .int .i64 (y)) (congrArg (Value.int .i64) (by rw [show y = _ from hy])) ?_; refine Kj I (Rm I I) (Kj I (Rm I I) (Kj I (aw I I I (by omega)) ?_)); refine Kj I (Ib I I I u38 (by omega) (by (rw [Af]; omega))) ?_; refine Kj I (ldm I I u3 I (by omega)) ?_; refine WJ.set 37 I (v' := .int .i64 (last)) (congrArg (Value.int .i64) (by rw [(hl3 (by omega)).1])) ?_; refine Kj I (pN I I I) (Kj I (Rp I I I) (Kj I (Rq I I I) ?_)); refine WJ.nil ?_; refine Nn (WX.joinP (()) (S3 I I I) (by refine (Sc ?_ (S0 _)) <;> ((refine aj rfl ?_; (try dsimp only); (exact Ag.2 (by omega))))) ?_ (fun _ h => h)); (try dsimp only); done
     ·(try simp only [sB] at hg28); refine Js I I I I (Js I I I I (Js I I I I (Js I I I I (Js I I I I (Js I I I I (Js I I I I (Js I I I I (Js I I I I (Js I I I I (Kj I (Rq I I I) (Kj I (Rq I I I) ?_))))))))))); refine WJ.nil ?_; refine Nn (WX.joinP (()) (S3 I I I) (by refine (Sc ?_ (S0 _)) <;> ((exact congrArg (fun b => some (Value.bool b)) (by symm; apply Aj; omega)))) ?_ (fun _ h => h)); (try dsimp only); done
  ·rintro _ hmeet; (try dsimp only at hmeet ⊢); refine Ci I (fun hc40 => ?_) (fun hc40 => ?_)
   ·have hn : cC 1 l n = false := by rw [← he, Aj hc40]; rfl
    refine Cs (to ?_); refine DY ?_; exact R1 I I (by rw [hn]; rfl)
   ·have hy2 := Al.1 hc40; refine Ck (Xd (Xa (Cg (Km I (Kq I (Rz I I I (by omega)) (Ka I (Nn (Ly ((i + 1, y)) (by (try dsimp only); omega) (S2 I I) (by refine (Sc ?_ (S0 _)) <;> (rfl)) ?_ (fun _ h => h))))))))); (try dsimp only); exact ⟨hil, by rw [← he, Ak hy2]; rfl, by omega, fun h => by omega, fun _ => ⟨by rw [show y = _ from hy]; rfl, by omega⟩⟩
 ·refine AS ?_
  obtain rfl : i = l.length := by omega
  have hn : cC 1 l n = true := by rw [← he, List.drop_length]; rfl
  refine Xa (Cs (to ?_))
  exact R1 I I (by rw [hn]; rfl)
abbrev nA (l : List Nat) : List Value := l.map fun i : Nat => Value.int .i64 (i : Int)
theorem uV (l : List Nat) (i : Nat) : nA (l ++ [i]) = nA l ++ [Value.int .i64 (i : Int)] := by simp only [nA, Ca, D3, List.map_nil]
theorem mv (d : List Int) (i : Nat) : ax d (i + 1) = if d.contains (i : Int) then ax d i else ax d i ++ [i] := by
 rw [ax, List.range_succ, List.filter_append, List.filter_cons]
 cases d.contains (i : Int) <;> simp [ax]
theorem u0 {d : List Int} {k : Nat} (h : k < d.length) (x : Int) : x ∈ d.take (k + 1) ↔ (x ∈ d.take k ∨ d.getD k default = x) := by
 rw [aF h, Bt, List.mem_singleton, eq_comm (a := x)]
theorem uA {d : List Int} {n : Nat} {a : Option Addr} {c : Nat} {w : World} {ok : Nat → Prop} (hF1 : (Fact.sl a (cP d)).holds ok w) (hl : d.length ≤ 140737488351232) (hn : n ≤ 1000000) :
  Calls Tryz.prog 66 #[.slice a d.length c, .int .i64 (n : Int)] w fun e w' => ∃ g : Rs, e = .returned (g.val (ax d n).length) ∧ g.cap = (ax d n).length + g.sp.length ∧ St (fun _ => True) w [g.ent (nA (ax d n)) 3] [] w' := by
 refine En [Fact.sl a (cP d)] [(0, .slice a d.length c), (1, .int .i64 (n : Int))] Tryz.func66 I Tryz.ntmps66 I (Ac I (Ac I (An _))) (Fc (ah hF1) Fn) (Cs (Ka I (Nt (Cs (EP ?_))))); refine Lo (σ := Nat × (Option Nat) × Nat × (List Value)) [(0, _), (1, _)] (fun gq => [(6, .int .i64 (gq.1 : Int)), (5, .slice (gq.2.1.map fun b => ⟨b, 0, none⟩) (ax d gq.1).length gq.2.2.1)]) (fun gq => gq.1 ≤ n ∧ gq.2.2.1 = (ax d gq.1).length + gq.2.2.2.length) (fun gq => n - gq.1) (fun gq => [⟨gq.2.1, nA (ax d gq.1) ++ gq.2.2.2, 3⟩]) (fun gq => [Fact.sl a (cP d)]) (0, none, 0, []) (S2 I I) (S2 I I) (by (try dsimp only); exact ⟨Ai _, rfl⟩) (by exact fun w h => h.nil _) ?_
 rintro ⟨i, o, cp, sp⟩ hinv1; (try dsimp only at hinv1 ⊢)
 obtain ⟨hi, hcp⟩ := hinv1
 refine Cq (E3 ?_); refine Es (fun hc11 => ?_) (fun hc11 => ?_)
 ·have hil : i < n := by omega
  have hhl := ko d i
  refine Ez ?_; refine EP ?_; refine Lp (σ := Nat) [(0, _), (1, _), (5, _), (6, _)] (fun gq => [(8, .int .i64 (gq : Int)), (7, .bool (decide ((i : Int) ∈ d.take gq)))]) (fun gq => gq ≤ d.length) (fun gq => d.length - gq) (0) (S4 I I I I) (S2 I I) (by (try dsimp only); omega) ?_
  rintro k hinv2; (try dsimp only at hinv2 ⊢)
  obtain hk := hinv2
  refine Cq (E3 ?_); refine Yo I u38 (Es (fun hc17 => ?_) (fun hc17 => ?_))
  ·have hkl : k < d.length := by omega
   have hcs := u0 hkl (i : Int); refine Ck (Xa (WC.joinP (σ := Unit) [(0, _), (1, _), (5, _), (6, _), (8, _)] (fun gq => [(7, .bool (decide ((i : Int) ∈ d.take (k + 1))))]) (fun gq => True) (S5 I I I I I) ?_ ?_))
   ·skip
    refine Cb (Cg (Km I (Km I (Nc 21 I (fun hg21 => ?_) (fun hg21 => ?_)))))
    ·refine T4 I (T2 I (Yp I (Ka I (Nn (Xd (WX.joinP (()) (S5 I I I I I) (by refine (Sc ?_ (S0 _)) <;> ((refine aj rfl ?_; (try dsimp only); (simp [*]; done)))) ?_ (fun _ h => h))))))); (try dsimp only); done
    ·refine Km I (Km I (Kq I (Ib I I I u38 (by omega) (by (rw [Af]; omega))) ?_)); refine Kq I (ldm I I u3 I (by assumption)) ?_; refine Km I (Yi I (Yq I (Ka I (Nn (Xd (WX.joinP (()) (S5 I I I I I) (by refine (Sc ?_ (S0 _)) <;> ((refine aj rfl ?_; (try dsimp only); (simp [*]; done)))) ?_ (fun _ h => h))))))); (try dsimp only); done
   ·rintro _ hmeet; (try dsimp only at hmeet ⊢); refine Cg (Km I (Kq I (Rz I I I (by omega)) (Ka I (Nn (Ly (k + 1) (by (try dsimp only); omega) (S4 I I I I) (by refine (Sc ?_ (Sc ?_ (S0 _))) <;> (rfl)) ?_ (fun _ h => h)))))); (try dsimp only); omega
  ·refine AS ?_; obtain rfl : k = d.length := by omega
   rw [Ah]; refine Xa (Cs (Km I (Ex (fun hc30 => ?_) (fun hc30 => ?_))))
   ·have hct : d.contains (i : Int) = false := by rw [List.contains_eq_mem]; exact Aj (by simpa using hc30)
    have hsu : ax d (i + 1) = ax d i ++ [i] := by rw [mv, Aa (by rw [hct]; decide)]
    refine Cg (Km I (Km I (Kh I (aR I I u38 (by kernel_rfl : _ = some (some (.int .i64 0), 1, 8)) I (by simp only [List.map]; rfl) I I ?_ (by decide)) ?_)))
    ·simp [Value.cells]
    intro b33; refine Kh I (n6 I u38 (by kernel_rfl : _ = some (some (.int .i64 0), 1, 8)) I .tc I I (fun w hS => by (exact hS.os)) (by rfl) (by (refine ⟨?_, ?_, ?_, ?_⟩ <;> (try simp) <;> omega)) (by (simp [Value.oneCell']; done))) ?_; rintro ⟨o34, c34, s34⟩; refine WL.pu ?_; intro hg34; (try dsimp only at hg34 ⊢); refine Ns 34 I (v' := .slice (o34.map fun b => ⟨b, 0, none⟩) (ax d (i + 1)).length c34) (by (rw [hsu, Ay]; rfl)) ?_; refine Ka I (Nn (Xd (Xa (Cg (Km I (Kq I (Rz I I I (by omega)) (Ka I (Nn (Lx ((i + 1, o34, c34, s34)) (by (try dsimp only); omega) (S2 I I) (by refine (Sc ?_ (Sc ?_ (S0 _))) <;> (rfl)) ?_ (by exact fun w h => by dsimp only; rw [hsu, uV]; exact au _ h)))))))))); (try dsimp only); exact ⟨hil, by rw [hsu, Ay]; simpa using hg34⟩
   ·have hct : d.contains (i : Int) = true := List.contains_iff_mem.2 (by simpa using hc30); have hsu : ax d (i + 1) = ax d i := by rw [mv, Ab hct]
    refine WC.set 5 I (v' := .slice (o.map fun b => ⟨b, 0, none⟩) (ax d (i + 1)).length cp) (by rw [hsu]) ?_; refine Ck (Xd (Xa (Cg (Km I (Kq I (Rz I I I (by omega)) (Ka I (Nn (Lx ((i + 1, o, cp, sp)) (by (try dsimp only); omega) (S2 I I) (by refine (Sc ?_ (Sc ?_ (S0 _))) <;> (rfl)) ?_ (by exact fun w h => by dsimp only; rw [hsu]; exact au _ h))))))))); (try dsimp only); exact ⟨hil, by rw [hsu]; exact hcp⟩
 ·refine AS ?_
  obtain rfl : i = n := by omega
  refine Xa (Cs (Km I (to ?_)))
  exact Rn I (.tmp I .nil) fun w' hS => ⟨⟨o, cp, sp⟩, rfl, hcp, au _ hS⟩
theorem uz {x : Bs} {w : World} :
  Cw 23 #[.string (S x)] w (zV (false, x)) := by
 refine En [] [(0, .string (S x))] Tryz.func23 I Tryz.ntmps23 I (Ac I (An _)) Fn (Cs (By ?_))
 intro b2
 refine Nt (Cs (Km I (AT ?_)))
 refine DZ ?_; refine Nt (Ce ?_)
 exact Rn I (.agg I .tc u37 I (by kernel_rfl) .nil) fun w' hS => ⟨by rfl, hS.below⟩
theorem qD {g : Gp} {x : Bs} {z : Zs} {w : World} (hm8 : g.1.length ≤ 8) (hg : aW g = 0) (hx : elG g x) (hz : okZ z) :
  Cw 52 #[gV g, .string (S x), zV z] w (.tuple #[.string (S (ae (bT (val g.1) (val x) (zv z)))), .int .i64 0]) := by
 refine En [] [(0, gV g), (1, .string (S x)), (2, zV z)] Tryz.func52 I Tryz.ntmps52 I (Ac I (Ac I (Ac I (An _)))) Fn (DX ?_)
 intro b3
 refine Ff ?_
 intro b5
 refine Ka I (Ka I (Nt (Cq (WC.joinP (σ := Unit) [(1, _), (3, _), (5, _)] (fun gq => [(16, .bool (decide (¬ (okN x ∧ okZ z))))]) (fun gq => True) (S3 I I I) ?_ ?_))))
 ·skip
  refine Cg (Km I (Kc I (fun w hS => av (a := x)) (Yt I (Km I (Nc 12 I (fun hg12 => ?_) (fun hg12 => ?_))))))
  ·refine T2 I (Kt I (Yp I (Nn (WX.joinP (()) (S3 I I I) (by refine (Sc ?_ (S0 _)) <;> ((refine aj rfl ?_; (try dsimp only); (simp [*]; done)))) ?_ (fun _ h => h))))); (try dsimp only); done
  ·refine Kq I (lda I I .tc u37 I ?_) ?_
   ·kernel_rfl
   refine Kc I (fun w hS => a8 (x := z)) (Yt I (Yq I (Nn (WX.joinP (()) (S3 I I I) (by refine (Sc ?_ (S0 _)) <;> ((refine aj rfl ?_; (try dsimp only); (simp [*]; done)))) ?_ (fun _ h => h))))); (try dsimp only); done
 ·rintro _ hmeet; (try dsimp only at hmeet ⊢)
  refine Cd I (fun hc16 => by exfalso; (try simp only [sB] at hc16); exact hc16 ⟨hx.1, hz⟩) (fun hc16 => ?_)
  (try simp only [sB] at hc16)
  refine Ck (Xa (Cq (Cs (Kq I (lda I I .tc u26 I ?_) ?_))))
  ·kernel_rfl
  refine Kc I (fun w hS => eh (g := g)) (Et ?_); refine Yj I (Nt (Cd I (fun hc20 => by exfalso; (try simp only [sB] at hc20); exact hc20 hg) (fun hc20 => ?_)))
  (try simp only [sB] at hc20)
  refine Ck (Xa (Cq (Cs (Kq I (lda I I .tc u26 I ?_) ?_))))
  ·kernel_rfl
  refine Km I (Kc I (fun w hS => gj (g := g) (x := x) (by exact hg) (by exact hx.1) (by exact hm8)) (Yt I (Nt (Cd I (fun hc25 => by exfalso; (try simp only [sB] at hc25); exact hc25 hx) (fun hc25 => ?_)))))
  (try simp only [sB] at hc25)
  refine Ck (Xa (Cs (Kq I (lda I I .tc u26 I ?_) ?_)))
  ·kernel_rfl
  refine Km I (Kq I (lda I I .tc u37 I ?_) ?_)
  ·kernel_rfl
  refine Kc I (fun w hS => (by have := ur (w := w) (g := g) (x := x) (z := z) hm8; rw [qS hx.1 hz (dr hg).1 (fun h => by have := (dr hg).2.2.1; rw [h] at this; exact absurd this (by decide)) (i8 hg hx)] at this; exact this)) (Ka I (to ?_))
  exact R2 I I I (by rfl)
theorem qC {g : Gp} {a b : Bs} {w : World} (hm8 : g.1.length ≤ 8) (hg : aW g = 0) (ha : elG g a) (hb : elG g b) :
  Cw 26 #[gV g, .string (S a), .string (S b)] w (.tuple #[.string (S (ae (val a * val b % val g.1))), .int .i64 0]) := by
 have h0 : iU a b g.1 = (ae (val a * val b % val g.1), 0) := by
  have h1 : cw [a, b] [g.1] = 0 := by
   rw [cw, Ab (by intro x hx; simp at hx; rcases hx with rfl | rfl | rfl; exact ha.1; exact hb.1; exact (dr hg).1), Aa (by simp; intro h; have := (dr hg).2.2.1; rw [h] at this; exact absurd this (by decide))]
  rw [iU, Ab h1]
 refine En [] [(0, gV g), (1, .string (S a)), (2, .string (S b))] Tryz.func26 I Tryz.ntmps26 I (Ac I (Ac I (Ac I (An _)))) Fn (DX ?_)
 intro b3
 refine Ka I (Ka I (Nt (Cq (WC.joinP (σ := Unit) [(1, _), (2, _), (3, _)] (fun gq => [(18, .bool (decide (¬ (okN a ∧ okN b))))]) (fun gq => True) (S3 I I I) ?_ ?_))))
 ·skip
  refine Cg (Km I (Kc I (fun w hS => av (a := a)) (Yt I (Km I (Nc 14 I (fun hg14 => ?_) (fun hg14 => ?_))))))
  ·refine T2 I (Kt I (Yp I (Nn (WX.joinP (()) (S3 I I I) (by refine (Sc ?_ (S0 _)) <;> ((refine aj rfl ?_; (try dsimp only); (simp [*]; done)))) ?_ (fun _ h => h))))); (try dsimp only); done
  ·refine Km I (Kc I (fun w hS => av (a := b)) (Yt I (Yq I (Nn (WX.joinP (()) (S3 I I I) (by refine (Sc ?_ (S0 _)) <;> ((refine aj rfl ?_; (try dsimp only); (simp [*]; done)))) ?_ (fun _ h => h)))))); (try dsimp only); done
 ·rintro _ hmeet; (try dsimp only at hmeet ⊢)
  refine Cd I (fun hc18 => by exfalso; (try simp only [sB] at hc18); exact hc18 ⟨ha.1, hb.1⟩) (fun hc18 => ?_)
  (try simp only [sB] at hc18)
  refine Ck (Xa (Cq (Cs (Kq I (lda I I .tc u26 I ?_) ?_))))
  ·kernel_rfl
  refine Kc I (fun w hS => eh (g := g)) (Et ?_); refine Yj I (Nt (Cd I (fun hc22 => by exfalso; (try simp only [sB] at hc22); exact hc22 hg) (fun hc22 => ?_)))
  (try simp only [sB] at hc22)
  refine Ck (Xa (Cq (Cs (Kq I (lda I I .tc u26 I ?_) ?_))))
  ·kernel_rfl
  refine Km I (Kc I (fun w hS => gj (g := g) (x := a) (by exact hg) (by exact ha.1) (by exact hm8)) (Ns 26 I (v' := .bool true) (by exact congrArg Value.bool (Ak ha)) ?_))
  refine Yt I (Km I (Kq I (lda I I .tc u26 I ?_) ?_))
  ·kernel_rfl
  refine Km I (Kc I (fun w hS => gj (g := g) (x := b) (by exact hg) (by exact hb.1) (by exact hm8)) (Ns 31 I (v' := .bool true) (by exact congrArg Value.bool (Ak hb)) ?_))
  refine Yt I (FV (fun _ => ?_))
  refine Ck (Xa (E3 ?_)); refine EV ?_
  refine Kc I (fun w hS => (by have := qM (w := w) (a := a) (b := b) (m := g.1) hm8; rw [h0] at this; exact this)) (BY ?_); refine Cs (Km I (Ka I (to ?_)))
  exact R2 I I I (by rfl)
theorem vK {g : Gp} {x : Bs} {z : Zs} (hg : aW g = 0) (hx : elG g x) (hz : okZ z) : elG g (ae (bT (val g.1) (val x) (zv z))) := by
 have hP := sO hg hx hz
 have := pc (g := g) (l := [x]) (es := [z]) (by rw [hP])
 rw [hP] at this; exact this
end Go.Proofs.YtkdlonihbjhhoaaGreatDoor
