/-
  Parts of the walk: ShaB ShaI Sha4 ShaS ShaV Shc.
-/
import Derived.Test.YtkdlonihbjhhoaaGreatDoorH20
namespace Go.Proofs.YtkdlonihbjhhoaaGreatDoor
open Go.RowKit
set_option linter.unusedSimpArgs false
set_option linter.unusedVariables false
set_option maxHeartbeats 600000
set_option maxRecDepth 20000
def awP : PR := { ch := [2], sl := [2], mn := (([47], [23]), ([4], [9])), wh := (([77], []), ([4], [9])), sec := [23], attr := [2], han := [20], lo := [3], sz := [10], bl := [20], msk := [15] }
def awK : IK := { name := [105], g := ([77], []), z := [15], s := [4], r := [[64], [23], [1]], u := [4], h := [4] }
theorem BM : aU awP awK ⟨[53], [7], [2]⟩ ⟨[[4]], [], 0⟩ = (([16], (true, [26]), ⟨[[4]], [], 1⟩), 0) := by decide +kernel
theorem DU : shE awP awK [16] [2] [[1]] = 0 := by decide +kernel
theorem wC : shS awP awK [16] [2] [[1]] = (shT awP awK [16] [2] [[1]], 0) := by rw [shS, Aa (fun h => h DU)]
theorem DS : wiS awP ⟨[53], [7], [2]⟩ (true, [26]) [[1], [3], [1]] [2] = ([(false, [4]), (true, [26]), (false, [1]), (false, [3])], 0) := by decide +kernel
theorem DT : tgS awP awK [16] [2] [[1]] = [1] := by decide +kernel
theorem BN : eJ (shT awP awK [16] [2] [[1]]) [(false, [4]), (true, [26]), (false, [1]), (false, [3])] = (true, 0) := by decide +kernel
theorem vX {l m : List Zs} {i : Nat} (h1 : i < l.length) (h2 : i < m.length) (h : l.take i = m.take i) (e : l.getD i default = m.getD i default) : l.take (i + 1) = m.take (i + 1) := by
 rw [qF h1, qF h2, h, e]
theorem BF {l m : List Zs} {i : Nat} (e : ¬ l.getD i default = m.getD i default) : ¬ l = m := fun h => e (by rw [h])
theorem CZ {l m : List Zs} {a b : Option Addr} {c d : Nat} {w : World} {ok : Nat → Prop} (hF1 : (Fact.sl a (aY l)).holds ok w) (hF2 : (Fact.sl b (aY m)).holds ok w) (hl : l.length ≤ 10000000) (hm : m.length ≤ 10000000) :
  Cw 21 #[.slice a l.length c, .slice b m.length d] w (.bool (decide (l = m))) := by
 refine En [Fact.sl a (aY l), Fact.sl b (aY m)] [(0, .slice a l.length c), (1, .slice b m.length d)] Tryz.func21 I Tryz.ntmps21 I (Ac I (Ac I (An _))) (Fc (ah hF1) (Fc (ah hF2) Fn)) (Cs (Ka I (Nt (Cq (Cs (Km I (Yo I u39 (Km I (Yo I u39 (Yj I (Nt (Ci I (fun hc10 => ?_) (fun hc10 => ?_)))))))))))))
 ·have hn : ¬ l = m := fun h => by subst h; simp at hc10
  refine Cs (Ka I (Nt (Ce (Xb ?_))))
  exact R1 I I (by rw [Ap hn]; rfl)
 ·have hlen : l.length = m.length := by omega
  refine Ck (Xa (Cq (Cs (Km I (Yo I u39 (Km I (Nt (Cb (Lp (σ := Nat) [(0, _), (1, _), (12, _)] (fun gq => [(13, .int .i64 (gq : Int))]) (fun gq => gq ≤ l.length ∧ l.take gq = m.take gq) (fun gq => l.length - gq) (0) (S3 I I I) (S1 I) (by (try dsimp only); exact ⟨Aj _, by simp⟩) ?_)))))))))
  rintro i hinv1; (try dsimp only at hinv1 ⊢)
  obtain ⟨hi, hok⟩ := hinv1
  refine Cs (Yl I (Nt (Cq (Ci I (fun hc14 => ?_) (fun hc14 => ?_)))))
  ·have hil : i < l.length := by omega
   have him : i < m.length := by omega
   obtain ⟨x, hx⟩ : ∃ x, Keep (x = l.getD i default) := ⟨_, rfl⟩; obtain ⟨y, hy⟩ : ∃ y, Keep (y = m.getD i default) := ⟨_, rfl⟩; refine Ck (Xa (Cq (Cb (Cs (Km I (Ka I (Nt (Cq (Cf [0, 1, 2, 3, 4, 5, 6, 7, 8] [] [0, 0, 0, 0, 0, 0, 0, 0, 0] (by kernel_rfl) (by kernel_rfl) I ?_))))))))); refine Kj I (Rm I I) (Kj I (Rm I I) ?_); refine Kj I (Ia I I I u39 (by kernel_rfl : _ = some 2) (by omega) (by (rw [aj _ _ 2 (fun _ => rfl)]; omega))) ?_; refine Kj I (dx _ I I u37 I (by kernel_rfl : _ = some 2) (fun _ => rfl) (by decide) I (by assumption)) ?_; refine WJ.set 19 I (v' := zV x) (by rw [show x = _ from hx]) ?_; refine Kj I (Rm I I) (Kj I (Rm I I) ?_); refine Kj I (Ia I I I u39 (by kernel_rfl : _ = some 2) (by omega) (by (rw [aj _ _ 2 (fun _ => rfl)]; omega))) ?_; refine Kj I (dx _ I I u37 I (by kernel_rfl : _ = some 2) (fun _ => rfl) (by decide) I (by assumption)) ?_; refine WJ.set 23 I (v' := zV y) (by rw [show y = _ from hy]) ?_; refine Kj I (uN I I I (by kernel_rfl) (fun w => gP _ _ _ _ w)) ?_; refine WJ.nil ?_; refine Nt (Ci I (fun hc24 => ?_) (fun hc24 => ?_))
   ·have hn : ¬ l = m := BF (fun h => hc24 (by rw [show x = _ from hx, show y = _ from hy, h]; exact ⟨rfl, rfl⟩)); refine Cs (Ka I (Nt (Ce (Xf (Xb (Xb (Xf (Xb ?_)))))))); exact R1 I I (by rw [Ap hn]; rfl)
   ·refine Ck (Xd (Xa (Cg (Kq I (Rz I I I (by omega)) (Km I (Nn (Ly (i + 1) (by (try dsimp only); omega) (S3 I I I) (by refine (Sc ?_ (S0 _)) <;> (rfl)) ?_ (fun _ h => h)))))))); (try dsimp only); exact ⟨hil, vX hil him hok (by rw [← show x = _ from hx, ← show y = _ from hy]; exact Prod.ext hc24.1 hc24.2)⟩
  ·refine Cx (Xc (Xc (Xe ?_))); obtain rfl : i = l.length := by omega
   rw [Ao, hlen, Ao] at hok; refine Xa (Cs (Ka I (Nt (Ce ?_)))); exact R1 I I (by rw [Aq hok]; rfl)
theorem ux {w : World} :
  Calls Tryz.prog 38 #[] w fun e w' => ∃ g : Rs, e = .returned (.tuple #[prV awP, ikV awK (g.val 3)]) ∧ g.cap = 3 + g.sp.length ∧ St (fun _ => True) w [g.ent (ak awK.r) 22] [] w' := by
 refine En [] [] Tryz.func38 I Tryz.ntmps38 I (An _) Fn (Cs (Kh I (Oz [.string (S []), .string (S []), .string (S []), .string (S []), .string (S []), .string (S []), .string (S []), .string (S []), .string (S []), .string (S []), .string (S []), .string (S []), .string (S []), .string (S []), .string (S []), .string (S []), .string (S [])] I) ?_))
 intro b0
 refine Kh I (Oz [.string (S []), .string (S []), .string (S []), .string (S []), .string (S []), .slice none 0 0, .string (S []), .string (S [])] I) ?_
 intro b1
 refine Nt (Cs (Kq I (Kb [[.string (S [])], [.string (S [])]] I I) (Kq I (Kb [[.string (S [])], [.string (S [])]] I I) (Kq I (Kb [[.string (S []), .string (S [])], [.string (S [])], [.string (S [])]] I I) (Kq I (Kb [[.string (S [])], [.string (S [])]] I I) (Kq I (Kb [[.string (S []), .string (S [])], [.string (S [])], [.string (S [])]] I I) (Kq I (Kb [[.string (S []), .string (S [])], [.string (S []), .string (S []), .string (S []), .string (S [])], [.string (S []), .string (S []), .string (S []), .string (S [])], [.string (S [])], [.string (S [])], [.string (S [])], [.string (S [])], [.string (S [])], [.string (S [])], [.string (S [])]] I I) ?_)))))))
 refine Kh I (Oz [.string (S []), .string (S []), .string (S []), .string (S []), .string (S []), .string (S []), .string (S []), .string (S []), .string (S []), .string (S []), .string (S []), .string (S []), .string (S []), .string (S []), .string (S []), .string (S []), .string (S [])] I) ?_
 intro b2
 refine Nu I I (Sa I I I .tc) (Nt (Cs (Kq I (Kb [[.string (S [])], [.string (S [])]] I I) ?_)))
 refine Kh I (aQ I I u31 (by kernel_rfl : _ = some (some (.string (S [])), 1, 16)) I (by simp only [List.map]; rfl) I I ?_ (by decide)) ?_
 ·simp [Value.cells]
 intro b11
 refine Kq I (Kb [[.string (S [])], [.string (S []), .string (S [])], [.string (S [])], [.string (S [])], [.slice none 0 0], [.string (S [])], [.string (S [])]] I I) ?_
 refine Kh I (Oz [.string (S []), .string (S []), .string (S []), .string (S []), .string (S []), .slice none 0 0, .string (S []), .string (S [])] I) ?_
 intro b3
 refine Nu I I (Sa I I I .tc) (WL.st (fun w h => show St _ _ ([⟨some b3, ikC awK (.slice (some ⟨b11, 0, none⟩) 3 3), 33⟩, ⟨some b11, ak awK.r, 22⟩, ⟨some b2, prC awP, 30⟩, _, _] : List Ent) _ w from h) ?_)
 refine Nt (Cq (WC.free (K := [⟨some b3, ikC awK (.slice (some ⟨b11, 0, none⟩) 3 3), 33⟩, ⟨some b2, prC awP, 30⟩]) (fs0 := []) [0, 2, 1] [3] [0, 0, 1, 2] (by kernel_rfl) (by kernel_rfl) I ?_))
 refine Kj I (lda I I .tc u30 I ?_) ?_
 ·kernel_rfl
 refine WJ.st I I I I (ip I I I ?_ ?_ ?_) ?_
 ·kernel_rfl
 ·simp [Value.oneCell']
 ·rfl
 refine Kj I (lda I I .tc u33 I ?_) ?_
 ·kernel_rfl
 refine WJ.nil ?_
 refine Nu I I (Sa I I I .tc) (Nt (Ce ?_))
 exact Rn I (.agg I .tc u30 I (by kernel_rfl) (.agg I .tc u33 I (by kernel_rfl) .nil)) fun w' hS => ⟨⟨some b11, 3, []⟩, rfl, rfl, hS.sub (own' := [⟨some b11, ak awK.r ++ [], 22⟩]) (.cons _ (by simp)) (fun _ h => by cases h)⟩
theorem pX {s : SA} {p : PR} {k : IK} {a : Bs} {d : List Int} {vs : List Bs} (hm8 : k.g.1.length ≤ 8) (hk : k.r.length ≤ 90000) (h : s.core = (shS p k a d vs).1) : saL s := by
 have hh : (aR d k.r.length).length ≤ k.r.length := by
  have := List.length_filter_le (fun i : Nat => !(d.contains (i : Int))) (List.range k.r.length)
  rw [List.length_range] at this; exact this
 have hc : s.gs.length ≤ 100000 ∧ s.vs.length ≤ 100000 ∧ s.core.2.2.length ≤ 100000 ∧ (∀ q ∈ s.core.2.2, q.2.2.length ≤ 100000) ∧ ∀ g ∈ s.gs, g.1.length ≤ 8 := by
  have e1 : s.gs = (shS p k a d vs).1.1 := congrArg (·.1) h
  have e2 : s.vs = (shS p k a d vs).1.2.1 := congrArg (·.2.1) h
  rw [e1, e2, h, shS]; split
  ·exact ⟨Aj _, Aj _, Aj _, by simp, by simp⟩
  ·exact ⟨by simp [shT], by simp [shT]; omega, by simp [shT], by simp [shT, gj]; omega, by simpa [shT] using hm8⟩
 exact ⟨hc.1, hc.2.1, by have := hc.2.2.1; simpa using this, fx.1 hc.2.2.2.1, hc.2.2.2.2⟩
abbrev awS : SG := ⟨[53], [7], [2]⟩
abbrev awZ : Zs := (true, [26])
theorem j0 {w : World} (hT : Tab w) (hD : TabD w) :
  Cw 12 #[] w (.bool true) := by
 refine En [] [] Tryz.func12 I Tryz.ntmps12 I (An _) Fn (Cs (Ka I (Nt (Cs (Kh I (Oc I I (fQ fun w hS => ux)) ?_)))))
 intro g15
 refine WL.pu ?_
 intro hg15; (try dsimp only at hg15 ⊢)
 refine Km I (Ye I (Ye I (Kh I (Oz [.string (S []), .string (S []), .string (S []), .string (S []), .string (S []), .string (S []), .string (S []), .string (S []), .string (S []), .string (S []), .string (S []), .string (S []), .string (S []), .string (S []), .string (S []), .string (S []), .string (S [])] I) ?_)))
 intro b1
 refine Kh I (Oz [.string (S []), .string (S []), .string (S []), .string (S []), .string (S []), .slice none 0 0, .string (S []), .string (S [])] I) ?_
 intro b2
 refine Nu I I (Sa I I I .tc) (Nu I I (Sa I I I .tc) (Nt (Cs (Kq I (Kb [[.string (S [])], [.string (S [])], [.string (S [])]] I I) ?_))))
 refine Kh I (Oz [.string (S []), .string (S []), .string (S [])] I) ?_
 intro b3
 refine Nu I I (Sa I I I .tc) (Nt (Cs (Kq I (lda I I .tc u30 I ?_) ?_)))
 ·kernel_rfl
 refine Kq I (lda I I .tc u33 I ?_) ?_
 ·kernel_rfl
 refine Kq I (lda I I .tc u35 I ?_) ?_
 ·kernel_rfl
 refine Kh I (aQ I I u31 (by kernel_rfl : _ = some (some (.string (S [])), 1, 16)) I (by simp only [List.map]; rfl) I I ?_ (by decide)) ?_
 ·simp [Value.cells]
 intro b23
 refine Kq I (Kb [[.slice none 0 0], [.string (S [])], [.int .i64 0]] I I) ?_
 refine Kh I (Oc I I (fQ fun w hS => qM (p := awP) (k := awK) (s := awS) (t := ⟨[[4]], [], 0⟩) (by (exact hS.sl)) (by (exact hS.os)) (by decide) (by decide) (by decide) (by decide) (by decide) (by decide) (by exact et hT hS) (by exact aZ hD hS))) ?_
 intro g25
 refine WL.pu ?_
 intro hg25; (try dsimp only at hg25 ⊢)
 rw [BM]
 refine Km I (Ye I (Ye I (Ye I (Ye I (Kh I (Oz [.bool false, .string (S [])] I) ?_)))))
 intro b5
 refine Kh I (Oz [.slice none 0 0, .string (S []), .int .i64 0] I) ?_
 intro b6
 refine Ka I (Nu I I (Sa I I I .tc) (Nu I I (Sa I I I .tc) (Ka I (Nt (Cs (Kq I (lda I I .tc u30 I ?_) ?_))))))
 ·kernel_rfl
 refine Kq I (lda I I .tc u33 I ?_) ?_
 ·kernel_rfl
 refine Km I (Kh I (aQ I I u38 (by kernel_rfl : _ = some (some (.int .i64 0), 1, 8)) I (by simp only [List.map]; rfl) I I ?_ (by decide)) ?_)
 ·simp [Value.cells]
 intro b34
 refine Kh I (aQ I I u31 (by kernel_rfl : _ = some (some (.string (S [])), 1, 16)) I (by simp only [List.map]; rfl) I I ?_ (by decide)) ?_
 ·simp [Value.cells]
 intro b35
 refine WL.st (fun w h => (h.freeze (off := 0) (xs := ak [[1]]) (fun i hi => by rw [A0]; rfl)).freeze (off := 0) (xs := dX [2]) (fun i hi => by rw [A0]; rfl)) ?_
 refine Kh I (Oc I I (eh fun w hS => pU (p := awP) (k := awK) (xa := [16]) (d := [2]) (vs := [[1]]) (by (exact hS.slo)) (by (exact hS.slo)) (by (exact hS.slo)) (by decide) (by decide) (by decide) (by decide) (by decide) (by decide) (by exact aZ hD hS))) ?_
 rintro sa36
 refine WL.pu ?_
 intro hg36; (try dsimp only [List.cons_append, List.nil_append] at hg36 ⊢)
 rw [wC]
 refine Km I (Ye I (Ye I (Kh I (Oz [.slice none 0 0, .slice none 0 0, .slice none 0 0] I) ?_)))
 intro b8
 refine Nu I I (Sa I I I .tc) (Ka I (Nt (Cs (Kq I (lda I I .tc u30 I ?_) ?_))))
 ·kernel_rfl
 refine Kq I (lda I I .tc u35 I ?_) ?_
 ·kernel_rfl
 refine Kq I (lda I I .tc u37 I ?_) ?_
 ·kernel_rfl
 refine Kh I (aQ I I u31 (by kernel_rfl : _ = some (some (.string (S [])), 1, 16)) I (by simp only [List.map]; rfl) I I ?_ (by decide)) ?_
 ·simp [Value.cells]
 intro b43
 refine Kh I (aQ I I u38 (by kernel_rfl : _ = some (some (.int .i64 0), 1, 8)) I (by simp only [List.map]; rfl) I I ?_ (by decide)) ?_
 ·simp [Value.cells]
 intro b44
 refine Kh I (Oc I I (kB fun w hS => qK (p := awP) (sg := awS) (v := awZ) (ms := [[1], [3], [1]]) (d := [2]) (by (exact hS.os)) (by (exact hS.os)) (by decide) (by decide) (by decide) (by exact aZ hD hS))) ?_
 rintro g45
 refine WL.pu ?_
 intro hg45; (try dsimp only [List.cons_append, List.nil_append] at hg45 ⊢)
 rw [DS]
 refine Km I (Ye I (Ye I (Ka I (Ka I (Nt (Cq (Cs ?_)))))))
 have hc9 : sa36.core = shT awP awK [16] [2] [[1]] := hg36.trans (congrArg (·.1) wC)
 have hes : sa36.es.length = 1 := by have := congrArg (fun c => c.2.2.length) hc9; simpa [SA.core, shT] using this
 obtain ⟨q, hq⟩ := List.length_eq_one_iff.1 hes
 have hq1 : q.1.2.1 = [1] := by have := congrArg (fun c => c.2.2.map (·.2.1)) hc9; simpa [SA.core, hq, shT, DT] using this
 refine Km I (Km I (Kq I (aw I I I (by (dsimp only; omega))) ?_))
 refine Km I (Kq I (aw I I I (by (dsimp only; omega))) ?_)
 refine Yj I (Km I (Ns 54 I (v' := .bool false) (by rfl) ?_))
 refine Km I (Yr I (Yq I (Km I (Ns 58 I (v' := .bool false) (by rfl) ?_))))
 refine Kq I (lda I I .tc u37 I ?_) ?_
 ·kernel_rfl
 refine Kq I (Kb [[.bool false], [.string (S [])]] I I) ?_
 refine Kq I (uN I I I (by kernel_rfl) (fun w => gP _ _ _ _ w)) ?_
 refine Yq I (Km I (Ns 63 I (v' := .bool false) (by rfl) ?_))
 refine Kf 2 I u58 I I I .tc u56 ?_
 refine Yo I u56 (Yj I (Yq I (Ns 68 I (v' := .bool false) (by rw [hes]; rfl) ?_)))
 refine Nt (Cd I (fun h => by cases h) (fun _ => ?_))
 refine Ck (Xa (Cs (Kq I (lda I I .tc u58 I ?_) ?_)))
 ·kernel_rfl
 refine Km I (Kc I (fun w hS => (by have := n7 (w := w) (s := sa36) (ws := [(false, [4]), awZ, (false, [1]), (false, [3])]) (a := g45.a) (c := g45.cap) hS.sl hS.sl hS.sl hS.sl hS.more (pX (by decide) (by decide) hg36) (by decide); rw [hc9, BN] at this; exact this)) (Km I (Ye I (Ye I (Ka I (Ka I (Nt (Cs ?_))))))))
 rw [hq]
 refine Kf 2 I u58 I I I .tc u56 ?_
 refine Kq I (Ia I I I u56 (by kernel_rfl : _ = some 3) (by (simp <;> omega)) (by (simp <;> omega))) ?_
 (refine Kq I (faf I I u95 I (by kernel_rfl) (by (try simp only [sN, Int.reduceToNat, Nat.reduceAdd, Nat.reduceMul, Nat.reduceSub]); rfl)) ?_)
 refine Kq I (ki (sz := 3) 0 1 I I u22 I (fun _ => rfl) I (by simp) (by decide) I) ?_
 refine Ns 79 I (v' := .string (S ([1]))) (congrArg (fun l => Value.string (S l)) (by exact hq1)) ?_
 refine Ys I (Km I (Ns 81 I (v' := .bool true) (by rfl) ?_))
 refine Km I (Kq I (Kb [[.bool false], [.string (S [])]] I I) (Kq I (Kb [[.bool false], [.string (S [])]] I I) (Kq I (Kb [[.bool false], [.string (S [])]] I I) (Kq I (Kb [[.bool false], [.string (S [])]] I I) ?_))))
 refine Kh I (iA I I u39 (by kernel_rfl : _ = some (some (.agg #[.bool false, .string (S [])]), 2, 24)) (by kernel_rfl) (by decide) I I (by (simp [Value.cells]; done)) (by (simp only [List.map, Value.cells, C7, List.flatMap_nil, Bn, D4]; rfl)) (by decide)) ?_
 intro b87
 refine Kc I (fun w hS => CZ (l := [(false, [4]), awZ, (false, [1]), (false, [3])]) (m := [(false, [4]), awZ, (false, [1]), (false, [3])]) (a := g45.a) (b := some ⟨b87, 0, none⟩) (c := g45.cap) (d := 4) (w := w) hS.sl hS.os (by decide) (by decide)) (Yp I (Km I (Ns 90 I (v' := .bool true) (by rfl) ?_)))
 refine Km I (Yi I (Yp I (Km I (Ns 94 I (v' := .bool true) (by rfl) ?_))))
 refine Km I (Yp I (Ka I (Nt (Ce ?_))))
 exact R1 I I (by rfl)
theorem y3 : ∀ {a b : List Fact} {x : Fact}, InF b x → InF (a ++ b) x
 | [], _, _, h => h
 | _ :: a, _, _, h => .there (y3 h)
instance (priority := low) SubL.app3 {α : Type} (x y z : List α) [h : SubL x z] : SubL x (y ++ z) := ⟨h.h.trans (List.sublist_append_right _ _)⟩
instance (priority := low) hasF_app3 {a b : List Fact} {x : Option Addr} {xs : List Value} [h : HasF b x xs] : HasF (a ++ b) x xs := ⟨y3 h.h⟩
theorem p6 {x : Bs} {w : World} :
  Cw 23 #[.string (S x)] w (zV (false, x)) := by
 refine En [] [(0, .string (S x))] Tryz.func23 I Tryz.ntmps23 I (Ac I (An _)) Fn (Cs (Kh I (Oz [.bool false, .string (S [])] I) ?_))
 intro b2
 refine Nt (Cs (Km I (Kq I (Kb [[.bool false], [.string (S [])]] I I) ?_)))
 refine Nu I I (Sa I I I .tc) (Nt (Ce ?_))
 exact Rn I (.agg I .tc u37 I (by kernel_rfl) .nil) fun w' hS => ⟨by rfl, hS.below⟩
theorem fU {p : PR} {k : IK} (h : gM p k = true) : p.mn.1.1.length ≤ 8 ∧ k.g.1.length ≤ 8 ∧ k.r.length ≤ 8 ∧ k.name.length ≤ 60 := by
 simp only [gM, Bt, decide_eq_true_eq, Bx, List.any_eq_false] at h
 obtain ⟨h1, h2, h3⟩ := h
 have m1 := h3 p.mn.1.1 (by simp [fL, ff, pk4])
 have m2 := h3 k.g.1 (by simp [fL])
 omega
abbrev sgP (p : PR) (k : IK) (q : CS) : Prop := gM p k = true ∧ fJ q ∧ oL p k q.sg q.ms
abbrev sgA (p : PR) (k : IK) (q : CS) : Prop := gM p k = true ∧ fJ q ∧ cd p k = 0 ∧ q.ms.length = k.r.length ∧ (bc k.g = 0 ∧ elG k.g q.sg.a) ∧ okN q.sg.e ∧ okN q.sg.v
abbrev sgB (p : PR) (q : CS) : Prop := val p.lo ≤ val q.sg.e ∧ val q.sg.e < val p.lo + val p.sz ∧ val q.sg.v < val p.bl + val p.bl
abbrev nnZ (m : Bs) : Zs := (false, m)
abbrev bsG (k : IK) (a : Bs) (i : Nat) : List Bs := a :: k.s :: k.r.take i
abbrev zsG (e : Bs) (v : Zs) (ms : List Bs) (i : Nat) : List Zs := nnZ e :: v :: (ms.take i).map nnZ
theorem yQ {k : IK} {a : Bs} {i : Nat} (h : i < k.r.length) : bsG k a (i + 1) = bsG k a i ++ [rD k i] := by rw [bsG, aL h]; rfl
theorem wO {e : Bs} {v : Zs} {ms : List Bs} {i : Nat} (h : i < ms.length) : zsG e v ms (i + 1) = zsG e v ms i ++ [nnZ (ms.getD i default)] := by rw [zsG, aL h]; simp
theorem rX {k : IK} {a : Bs} {i : Nat} (h : i ≤ k.r.length) : (bsG k a i).length = 2 + i := by rw [Am, Am, Bo]; omega
theorem qA {e : Bs} {v : Zs} {ms : List Bs} {i : Nat} (h : i ≤ ms.length) : (zsG e v ms i).length = 2 + i := by rw [Am, Am, Af, Bo]; omega
theorem zy {p : PR} {k : IK} {q : CS} {ra ma da va za xa : Option Addr} {rc mc dc vc zc' xc : Nat} {w : World} {ok : Nat → Prop} (hF1 : (Fact.sl ra (ak k.r)).holds ok w) (hF2 : (Fact.sl ma (ak q.ms)).holds ok w) (hF3 : (Fact.sl da (dX q.d)).holds ok w) (hF4 : (Fact.sl va (ak q.vs)).holds ok w) (hF5 : (Fact.sl za (aY q.ws)).holds ok w) (hF6 : (Fact.sl xa (ak q.t.vals)).holds ok w) (hr : k.r.length ≤ 1048576) (hm : q.ms.length ≤ 1048576) (hd : q.d.length ≤ 1048576) (hv : q.vs.length ≤ 1048576) (hz : q.ws.length ≤ 1048576) (hx : q.t.vals.length ≤ 1048576) :
  Calls Tryz.prog 22 #[prV p, ikV k (.slice ra k.r.length rc), csV q (.slice ma q.ms.length mc) (.slice da q.d.length dc) (.slice va q.vs.length vc) (.slice za q.ws.length zc') (.slice xa q.t.vals.length xc)] w fun e w' => ∃ gx : Bool, e = .returned (.bool gx) ∧ (gx = true → sgP p k q) ∧ Below w.heap.size w w' ∧ ∀ x ∈ ([] : List Fact), x.holds (fun b => ok b ∨ w.heap.size ≤ b) w' := by
 refine enter (S := St (fun b => ok b ∨ w.heap.size ≤ b) w [] ([Fact.sl ra (ak k.r), Fact.sl ma (ak q.ms), Fact.sl da (dX q.d), Fact.sl va (ak q.vs), Fact.sl za (aY q.ws), Fact.sl xa (ak q.t.vals)])) (L := [(0, prV p), (1, ikV k (.slice ra k.r.length rc)), (2, csV q (.slice ma q.ms.length mc) (.slice da q.d.length dc) (.slice va q.vs.length vc) (.slice za q.ws.length zc') (.slice xa q.t.vals.length xc))]) Tryz.func22 rfl Tryz.ntmps22 rfl (Ac rfl (Ac rfl (Ac rfl (An _)))) (St.start (fun _ h => Or.inr h) (fy (Fc hF1 (Fc hF2 (Fc hF3 (Fc hF4 (Fc hF5 (Fc hF6 Fn)))))))) ?_
 refine Cs (Kh I (Oy I I) ?_)
 intro b3
 refine Kh I (Oy I I) ?_
 intro b4
 refine Kh I (Oy I I) ?_
 intro b5
 refine Ka I (Nt (Cq (WC.joinP (σ := Unit) [(3, _), (4, _), (5, _)] (fun gq => [(60, .bool (decide (¬ sgA p k q)))]) (fun gq => True) (S3 I I I) ?_ ?_)))
 ·skip
  refine Cg (Kq I (lda I I .tc u30 I ?_) ?_)
  ·kernel_rfl
  refine Kq I (lda I I .tc u33 I ?_) ?_
  ·kernel_rfl
  refine Kc I (fun w hS => yo (p := p) (k := k) (by (exact hS.sl)) (by assumption)) (Yt I (Km I (Nc 18 I (fun hg18 => ?_) (fun hg18 => ?_))))
  ·refine T2 I (Kt I (Yp I (Km I (T4 I (Yp I (Km I (T4 I (T2 I (Kt I (Yp I (Km I (T4 I (T2 I (Kt I (Yp I (Km I (T4 I (Kt I (Yp I (Km I (T4 I (Kt I (Yp I (Nn (WX.joinP (()) (S3 I I I) (by refine (Sc ?_ (S0 _)) <;> ((refine ai rfl ?_; (try dsimp only); (simp [*]; done)))) ?_ (fun _ h => h)))))))))))))))))))))))))); (try dsimp only); done
  ·refine Kq I (lda I I .tc u43 I ?_) ?_
   ·kernel_rfl
   refine Kc I (fun w hS => sG (q := q) (by (exact hS.sl)) (by (exact hS.sl)) (by (exact hS.sl)) (by (exact hS.sl)) (by (exact hS.sl)) (by assumption) (by assumption) (by assumption) (by assumption) (by assumption)) (Yt I (Yq I (Km I (Nc 23 I (fun hg23 => ?_) (fun hg23 => ?_)))))
   ·refine T4 I (Yp I (Km I (T4 I (T2 I (Kt I (Yp I (Km I (T4 I (T2 I (Kt I (Yp I (Km I (T4 I (Kt I (Yp I (Km I (T4 I (Kt I (Yp I (Nn (WX.joinP (()) (S3 I I I) (by refine (Sc ?_ (S0 _)) <;> ((refine ai rfl ?_; (try dsimp only); (simp [*]; done)))) ?_ (fun _ h => h)))))))))))))))))))))); (try dsimp only); done
   ·refine Kq I (lda I I .tc u30 I ?_) ?_
    ·kernel_rfl
    refine Kq I (lda I I .tc u33 I ?_) ?_
    ·kernel_rfl
    refine Kc I (fun w hS => sP (p := p) (k := k) (by (exact hS.sl)) (by exact (fU hg18).1) (by exact (fU hg18).2.1) (by have := (fU hg18).2.2.1; omega) (by have := (fU hg18).2.2.2; omega)) (Yj I (Yq I (Km I (Nc 29 I (fun hg29 => ?_) (fun hg29 => ?_)))))
    ·refine T4 I (T2 I (Kt I (Yp I (Km I (T4 I (T2 I (Kt I (Yp I (Km I (T4 I (Kt I (Yp I (Km I (T4 I (Kt I (Yp I (Nn (WX.joinP (()) (S3 I I I) (by refine (Sc ?_ (S0 _)) <;> ((refine ai rfl ?_; (try dsimp only); (simp [*]; done)))) ?_ (fun _ h => h))))))))))))))))))); (try dsimp only); done
    ·refine Kf 6 I u43 I I I .tc u31 ?_; refine Yo I u31 (Kf 5 I u33 I I I .tc u31 ?_); refine Yo I u31 (Yj I (Yq I (Km I (Nc 38 I (fun hg38 => ?_) (fun hg38 => ?_)))))
     ·refine T4 I (T2 I (Kt I (Yp I (Km I (T4 I (Kt I (Yp I (Km I (T4 I (Kt I (Yp I (Nn (WX.joinP (()) (S3 I I I) (by refine (Sc ?_ (S0 _)) <;> ((exact congrArg (fun b => some (Value.bool b)) (by symm; apply Aq; omega)))) ?_ (fun _ h => h)))))))))))))); (try dsimp only); done
     ·refine Kq I (Fa (q := 1) I I u33 I I) (Kq I (ldp I I .tc u26 I (by kernel_rfl : _ = some 2) (by rfl) (by rfl)) ?_); refine Kq I (Fa (q := 0) I I u43 I I) (Kf 0 I u35 I I I .tc u22 ?_); refine Kc I (fun w hS => q7 (g := k.g) (x := q.sg.a) (by exact (fU hg18).2.1)) (Yt I (Yq I (Km I (Nc 47 I (fun hg47 => ?_) (fun hg47 => ?_)))))
      ·refine T4 I (Kt I (Yp I (Km I (T4 I (Kt I (Yp I (Nn (WX.joinP (()) (S3 I I I) (by refine (Sc ?_ (S0 _)) <;> ((refine ai rfl ?_; (try dsimp only); (simp [*]; done)))) ?_ (fun _ h => h))))))))); (try dsimp only); done
      ·refine Kq I (Fa (q := 0) I I u43 I I) (Kf 1 I u35 I I I .tc u22 ?_); refine Kc I (fun w hS => av (a := q.sg.e)) (Yt I (Yq I (Km I (Nc 54 I (fun hg54 => ?_) (fun hg54 => ?_)))))
       ·refine T4 I (Kt I (Yp I (Nn (WX.joinP (()) (S3 I I I) (by refine (Sc ?_ (S0 _)) <;> ((refine ai rfl ?_; (try dsimp only); (simp [*]; done)))) ?_ (fun _ h => h))))); (try dsimp only); done
       ·refine Kq I (Fa (q := 0) I I u43 I I) (Kf 2 I u35 I I I .tc u22 ?_); refine Kc I (fun w hS => av (a := q.sg.v)) (Yt I (Yq I (Nn (WX.joinP (()) (S3 I I I) (by refine (Sc ?_ (S0 _)) <;> ((refine congrArg (fun b => some (Value.bool b)) ?_; simp [*]; omega))) ?_ (fun _ h => h))))); (try dsimp only); done
 ·rintro _ hmeet; (try dsimp only at hmeet ⊢)
  refine Ci I (fun hc60 => ?_) (fun hc60 => ?_)
  ·refine Cs (Ka I (Nt (Ce (Xb ?_)))); exact Rn I (.tmp I .nil) fun w' hS => ⟨false, rfl, fun h => (by cases h), hS.below, Fn⟩
  ·obtain ⟨hfw, hsm, h0, hlen, ⟨hg, hel⟩, hoe, hov⟩ := Ah.1 hc60; obtain ⟨hm8, hk8, hk8', hk60⟩ := fU hfw; obtain ⟨hok, _, _⟩ := cM (bn h0).1; have hlo : okN p.lo := hok.1 _ (by simp); have hsz : okN p.sz := hok.1 _ (by simp); have hbl : okN p.bl := hok.1 _ (by simp); refine Ck (Xa (Cq (WC.joinP (σ := Unit) [(3, _), (4, _), (5, _)] (fun gq => [(91, .bool (decide (¬ sgB p q)))]) (fun gq => True) (S3 I I I) ?_ ?_)))
   ·skip
    refine WC.free (K := [⟨some b5, csC q (.slice ma q.ms.length mc) (.slice da q.d.length dc) (.slice va q.vs.length vc) (.slice za q.ws.length zc') (.slice xa q.t.vals.length xc), 43⟩, ⟨some b3, prC p, 30⟩]) (fs0 := []) [0, 1, 2, 3, 4, 5, 6, 7, 11, 12, 13, 14, 15, 8, 9, 10, 16, 17, 18, 19, 23, 24, 25, 26, 27, 20, 21, 22, 28, 29, 30] [] [0, 0, 0, 0, 0, 1, 0, 0, 0, 0, 0, 0, 0, 0, 0, 1, 1, 0, 0, 0, 0, 0, 0, 0, 0, 0, 0, 1, 1, 0, 0] (by kernel_rfl) (by kernel_rfl) I ?_; refine Kj I (Fa (q := 0) I I u43 I I) (Kj I (Fa (q := 1) I I u35 I I) (Kj I (Ld I I .tc u22) ?_)); refine Kj I (Fa (q := 13) I I u30 I I) (Kj I (Ld I I .tc u22) ?_); refine Jv I I I I I (fun ext => Oc I I (Kv fun w hS => dO (a := q.sg.e) (b := p.lo) (by exact hoe.2) (by exact hlo.2) (by exact Bu hoe.1 (by decide)))) ?_; refine Kj I (ll I I I) ?_; refine WJ.set 67 I (v' := .bool (decide (val q.sg.e < val p.lo))) (congrArg Value.bool (by exact Ag.2 (ax _ _))) ?_; refine Kj I (Rm I I) ?_; refine WJ.bool 68 I (fun hg68 => ?_) (fun hg68 => ?_)
    ·(try simp only [sB] at hg68); refine Js I I I I (Js I I I I (Js I I I I (Js I I I I (Js I I I I (Js I I I I (Js I I I I (Js I I I I (Js I I I I (Js I I I I (Kj I (Rp I I I) (Kj I (Rm I I) (Js I I I I (Js I I I I (Js I I I I (Js I I I I (Js I I I I (Js I I I I (Js I I I I (Js I I I I (Js I I I I (Js I I I I (Kj I (Rp I I I) ?_)))))))))))))))))))))); refine WJ.nil ?_; refine Nn (WX.joinP (()) (S3 I I I) (by refine (Sc ?_ (S0 _)) <;> ((refine ai rfl ?_; (try dsimp only); (simp [*]; done)))) ?_ (fun _ h => h)); (try dsimp only); done
    ·(try simp only [sB] at hg68); refine Kj I (Fa (q := 13) I I u30 I I) (Kj I (Ld I I .tc u22) ?_); refine Kj I (Fa (q := 14) I I u30 I I) (Kj I (Ld I I .tc u22) ?_); refine Jv I I I I I (fun ext => Oc I I (Kv fun w hS => lx (a := p.lo) (b := p.sz) (by exact Bu hlo.1 (by decide)) (by exact Bu hsz.1 (by decide)))) ?_; refine Kj I (Fa (q := 0) I I u43 I I) (Kj I (Fa (q := 1) I I u35 I I) (Kj I (Ld I I .tc u22) ?_)); refine Jv I I I I I (fun ext => Oc I I (Kv fun w hS => dO (a := q.sg.e) (b := ae (val p.lo + val p.sz)) (by exact hoe.2) (by exact br _) (by exact Bu hoe.1 (by decide)))) ?_; refine Kj I (qb I I I) ?_; refine WJ.set 78 I (v' := .bool (decide (val p.lo + val p.sz ≤ val q.sg.e))) (congrArg Value.bool (by exact Ag.2 (by rw [dR, af]))) ?_; refine Kj I (Rq I I I) (Kj I (Rm I I) ?_); refine WJ.bool 80 I (fun hg80 => ?_) (fun hg80 => ?_)
     ·(try simp only [sB] at hg80); refine Js I I I I (Js I I I I (Js I I I I (Js I I I I (Js I I I I (Js I I I I (Js I I I I (Js I I I I (Js I I I I (Js I I I I (Kj I (Rp I I I) ?_)))))))))); refine WJ.nil ?_; refine Nn (WX.joinP (()) (S3 I I I) (by refine (Sc ?_ (S0 _)) <;> ((refine ai rfl ?_; (try dsimp only); (simp [*]; done)))) ?_ (fun _ h => h)); (try dsimp only); done
     ·(try simp only [sB] at hg80); refine Kj I (Fa (q := 15) I I u30 I I) (Kj I (Ld I I .tc u22) ?_); refine Kj I (Fa (q := 15) I I u30 I I) (Kj I (Ld I I .tc u22) ?_); refine Jv I I I I I (fun ext => Oc I I (Kv fun w hS => lx (a := p.bl) (b := p.bl) (by exact Bu hbl.1 (by decide)) (by exact Bu hbl.1 (by decide)))) ?_; refine Kj I (Fa (q := 0) I I u43 I I) (Kj I (Fa (q := 2) I I u35 I I) (Kj I (Ld I I .tc u22) ?_)); refine Jv I I I I I (fun ext => Oc I I (Kv fun w hS => dO (a := q.sg.v) (b := ae (val p.bl + val p.bl)) (by exact hov.2) (by exact br _) (by exact Bu hov.1 (by decide)))) ?_; refine Kj I (qb I I I) ?_; refine WJ.set 90 I (v' := .bool (decide (val p.bl + val p.bl ≤ val q.sg.v))) (congrArg Value.bool (by exact Ag.2 (by rw [dR, af]))) ?_; refine Kj I (Rq I I I) ?_; refine WJ.nil ?_; refine Nn (WX.joinP (()) (S3 I I I) (by refine (Sc ?_ (S0 _)) <;> ((refine ai rfl ?_; (try dsimp only); (exact Ag.2 (by omega))))) ?_ (fun _ h => h)); (try dsimp only); done
   ·rintro _ hmeet; (try dsimp only at hmeet ⊢); refine Ci I (fun hc91 => ?_) (fun hc91 => ?_)
    ·refine Cs (Ka I (Nt (Ce (Xb ?_)))); exact Rn I (.tmp I .nil) fun w' hS => ⟨false, rfl, fun h => (by cases h), hS.below, Fn⟩
    ·obtain ⟨hb1, hb2, hb3⟩ := Ah.1 hc91; refine Ck (Xa (Cs (Kq I (Fa (q := 0) I I u43 I I) (Kf 0 I u35 I I I .tc u22 ?_)))); refine Kf 4 I u33 I I I .tc u22 ?_; refine Kh I (aQ I I u31 (by kernel_rfl : _ = some (some (.string (S [])), 1, 16)) I (by simp only [List.map]; rfl) I I ?_ (by decide)) ?_
     ·simp [Value.cells]
     intro b97; refine Ka I (Nt (Cq (Cf [0, 1, 2, 3, 4, 5, 6, 7, 8, 9] [] [0, 0, 0, 1, 0, 0, 0, 1, 3, 0] (by kernel_rfl) (by kernel_rfl) I ?_))); refine Kj I (Fa (q := 0) I I u43 I I) (Kj I (Fa (q := 1) I I u35 I I) (Kj I (Ld I I .tc u22) ?_)); refine Jv I I I I I (fun ext => Oc I I (Kv fun w hS => p6 (x := q.sg.e))) ?_; refine Kj I (Fa (q := 0) I I u43 I I) (Kj I (Fa (q := 2) I I u35 I I) (Kj I (Ld I I .tc u22) ?_)); refine Jv I I I I I (fun ext => Oc I I (Kv fun w hS => p6 (x := q.sg.v))) ?_; refine Jf I I I I I (iD I I u39 (by kernel_rfl : _ = some (some (.agg #[.bool false, .string (S [])]), 2, 24)) (by kernel_rfl) (by decide) I I (by (simp [Value.cells]; done)) (by (simp only [List.map, Value.cells, C7, List.flatMap_nil, Bn, D4]; rfl)) (by decide)) ?_; intro b106; refine Kj I (Ra I I) ?_; refine WJ.nil ?_; refine Nt (Cq (Cs (Kf 6 I u43 I I I .tc u31 ?_)))
     refine Yo I u31 (Km I (Nt (Cb (Lo (σ := Nat × (Option Nat) × Nat × (List Value) × (Option Nat) × Nat × (List Value)) [(3, _), (4, _), (108, _), (109, _)] (fun gq => [(110, .int .i64 (gq.1 : Int)), (7, .slice (gq.2.1.map fun b => ⟨b, 0, none⟩) (2 + gq.1) gq.2.2.1), (8, .slice (gq.2.2.2.2.1.map fun b => ⟨b, 0, none⟩) (2 + gq.1) gq.2.2.2.2.2.1)]) (fun gq => gq.1 ≤ q.ms.length ∧ gq.2.2.1 = 2 + gq.1 + gq.2.2.2.1.length ∧ gq.2.2.2.2.2.1 * 2 = (2 + gq.1) * 2 + gq.2.2.2.2.2.2.length ∧ ∀ j, j < gq.1 → okN (q.ms.getD j default) ∧ val (q.ms.getD j default) < val (lim p j)) (fun gq => q.ms.length - gq.1) (fun gq => [⟨gq.2.2.2.2.1, aY (zsG q.sg.e (nnZ q.sg.v) q.ms gq.1) ++ gq.2.2.2.2.2.2, 37⟩, ⟨gq.2.1, ak (bsG k q.sg.a gq.1) ++ gq.2.2.2.1, 22⟩, ⟨some b5, csC q (.slice ma q.ms.length mc) (.slice da q.d.length dc) (.slice va q.vs.length vc) (.slice za q.ws.length zc') (.slice xa q.t.vals.length xc), 43⟩, ⟨some b4, ikC k (.slice ra k.r.length rc), 33⟩, ⟨some b3, prC p, 30⟩]) (fun gq => [Fact.sl ra (ak k.r), Fact.sl ma (ak q.ms), Fact.sl da (dX q.d), Fact.sl va (ak q.vs), Fact.sl za (aY q.ws), Fact.sl xa (ak q.t.vals)]) (0, some b97, 2, [], some b106, 2, []) (S4 I I I I) (S3 I I I) (by (try dsimp only); exact ⟨Aj _, rfl, rfl, fun _ h => absurd h (D6 _)⟩) (by exact fun w h => h) ?_)))); rintro ⟨i, o1, c1, p1, o2, c2, p2⟩ hinv1; (try dsimp only at hinv1 ⊢); obtain ⟨hi, hc1, hc2, hlt⟩ := hinv1
     refine Cs (Yl I (Nt (Cq (Ci I (fun hc111 => ?_) (fun hc111 => ?_)))))
     ·have hil : i < q.ms.length := by omega
      have hir : i < k.r.length := by omega
      obtain ⟨m, hm⟩ : ∃ m, Keep (m = q.ms.getD i default) := ⟨_, rfl⟩; have hbl2 : (ak (bsG k q.sg.a i)).length = 2 + i := by rw [Af]; exact rX (by omega)
      have hzl2 : (aY (zsG q.sg.e (nnZ q.sg.v) q.ms i)).length = (2 + i) * 2 := by rw [aj _ _ 2 (fun _ => rfl), qA (by omega)]
      have hli := nY (bn h0).1 i; refine Ck (Xa (Cq (Cb (Cs (Km I (Kq I (Ib I I I u31 (by omega) (by (rw [Af]; omega))) ?_)))))); refine Kq I (ldm I I u22 I (by assumption)) ?_; refine Ns 114 I (v' := .string (S (m))) (congrArg (fun l => Value.string (S l)) (by rw [show m = _ from hm])) ?_; refine Ka I (Ka I (Nt (Cs (Kf 11 I u30 I I I .tc u22 ?_)))); refine Ka I (Nt (WC.joinP (σ := Bs) [(3, _), (4, _), (7, _), (8, _), (9, _), (10, _), (108, _), (109, _), (110, _)] (fun gq => [(11, .string (S gq))]) (fun gq => gq = lim p i) (S9 I I I I I I I I I) ?_ ?_))
      ·skip
       refine Cs (Km I (Yl I (Nt (Ci I (fun hc118 => ?_) (fun hc118 => ?_)))))
       ·refine Cg (Kf 10 I u30 I I I .tc u22 ?_); refine Kf 12 I u30 I I I .tc u22 ?_; refine Kh I (aQ I I u31 (by kernel_rfl : _ = some (some (.string (S [])), 1, 16)) I (by simp only [List.map]; rfl) I I ?_ (by decide)) ?_
        ·simp [Value.cells]
        intro b123; refine Km I (Kq I (Ja I I I u31 (by kernel_rfl : _ = some 1) (by omega)) ?_); refine Kq I (ld I I .tc u22 I (show _ = some (Value.string (S (lim p i))) from by rcases (show i = 0 ∨ i = 1 by omega) with rfl | rfl <;> rfl)) ?_; refine Ka I (Nn (WX.joinP (lim p i) (S9 I I I I I I I I I) (by refine (Sc ?_ (S0 _)) <;> (rfl)) ?_ (by (exact ar)))); (try dsimp only); done
       ·refine Ck (WX.joinP (p.attr) (S9 I I I I I I I I I) (by refine (Sc ?_ (S0 _)) <;> (rfl)) ?_ (fun _ h => h)); (try dsimp only); rw [lim, Aa (by omega), Aa (by omega)]
      ·rintro u hmeet; (try dsimp only at hmeet ⊢); refine Cq (WC.joinP (σ := Unit) [(3, _), (4, _), (7, _), (8, _), (9, _), (10, _), (108, _), (109, _), (110, _)] (fun gq => [(135, .bool (decide (¬ (okN m ∧ val m < val (lim p i)))))]) (fun gq => True) (S9 I I I I I I I I I) ?_ ?_)
       ·skip
        refine Cg (Km I (Kc I (fun w hS => av (a := m)) (Yt I (Km I (Nc 130 I (fun hg130 => ?_) (fun hg130 => ?_))))))
        ·refine T4 I (Yp I (Nn (WX.joinP (()) (S9 I I I I I I I I I) (by refine (Sc ?_ (S0 _)) <;> ((refine ai rfl ?_; (try dsimp only); (simp [*]; done)))) ?_ (fun _ h => h)))); (try dsimp only); done
        ·refine Km I (Km I (Kc I (fun w hS => dO (a := m) (b := u) (by exact hg130.2) (by (rw [hmeet]; exact hli.1.2)) (by exact Bu hg130.1 (by decide))) (Yh I (Ns 134 I (v' := .bool (decide (val (lim p i) ≤ val m))) (congrArg Value.bool (by exact Ag.2 (by rw [hmeet]; exact dR _ _))) ?_)))); refine Yq I (Nn (WX.joinP (()) (S9 I I I I I I I I I) (by refine (Sc ?_ (S0 _)) <;> ((refine ai rfl ?_; (try dsimp only); (simp [*]; done)))) ?_ (fun _ h => h))); (try dsimp only); done
       ·rintro _ hmeet; (try dsimp only at hmeet ⊢); refine Ci I (fun hc135 => ?_) (fun hc135 => ?_)
        ·refine Cs (Ka I (Nt (Ce (Xb (Xf (Xb (Xb (Xf (Xb ?_))))))))); exact Rn I (.tmp I .nil) fun w' hS => ⟨false, rfl, fun h => (by cases h), hS.below, Fn⟩
        ·refine Ck (Xa (Cg (Km I (Kf 5 I u33 I I I .tc u31 ?_)))); refine Km I (Kq I (Ib I I I u31 (by omega) (by (rw [Af]; omega))) ?_); refine Kq I (ldm I I u22 I (by assumption)) ?_; refine Kh I (aQ I I u31 (by kernel_rfl : _ = some (some (.string (S [])), 1, 16)) I (by simp only [List.map]; rfl) I I ?_ (by decide)) ?_
         ·simp [Value.cells]
         intro b142; refine Kh I (pE I u31 (by kernel_rfl : _ = some (some (.string (S [])), 1, 16)) I .tc I I (fun w hS => by (exact hS.os)) (by rfl) (by (refine ⟨hbl2, by omega, by omega, by omega⟩)) (by (simp [Value.oneCell']; done))) ?_; rintro ⟨o143, c143, s143⟩; refine WL.pu ?_; intro hg143; (try dsimp only at hg143 ⊢); refine Km I (Km I (Kc I (fun w hS => p6) (Kh I (iA I I u39 (by kernel_rfl : _ = some (some (.agg #[.bool false, .string (S [])]), 2, 24)) (by kernel_rfl) (by decide) I I (by (simp [Value.cells]; done)) (by (exact cY _)) (by decide)) ?_))); intro b147; refine Kh I (wF I u39 (by kernel_rfl : _ = some (some (.agg #[.bool false, .string (S [])]), 2, 24)) (by kernel_rfl) (by decide) .tc I I (fun w hS => by (exact hS.os)) (by rfl) (by (refine ⟨hzl2, by omega, by omega, by omega⟩)) (by (simp [Value.oneCell']; done))) ?_; rintro ⟨o148, c148, s148⟩; refine WL.pu ?_; intro hg148; (try dsimp only at hg148 ⊢); refine Ka I (Ka I (Nn (Xd (Xa (Cg (Kq I (Rz I I I (by omega)) (Km I (Nn (Lx ((i + 1, o143, c143, s143, o148, c148, s148)) (by (try dsimp only); omega) (S4 I I I I) (by refine (Sc ?_ (Sc ?_ (Sc ?_ (S0 _)))) <;> (rfl)) ?_ (by exact fun w h => by dsimp only; rw [yQ hir, wO hil, jA, mK, ← show m = _ from hm]; exact ar _ h)))))))))); (try dsimp only)
         exact ⟨hil, by omega, by omega, fun j hj => by
           rcases C8.1 hj with h | h
           ·exact hlt j h
           ·subst h; rw [← show m = _ from hm]; exact Ah.1 hc135⟩
     ·refine Cx (Xc (Xc (Xe ?_))); obtain rfl : i = q.ms.length := by omega
      have hbl1 := rX (k := k) (a := q.sg.a) (i := q.ms.length) (by omega); have hzl1 := qA (e := q.sg.e) (v := nnZ q.sg.v) (ms := q.ms) (i := q.ms.length) (Bj _); have hbE : bsG k q.sg.a q.ms.length = q.sg.a :: k.s :: k.r := by rw [bsG, A6 (by omega)]
      have hzE : zsG q.sg.e (nnZ q.sg.v) q.ms q.ms.length = (false, q.sg.e) :: (false, q.sg.v) :: q.ms.map fun m => (false, m) := by rw [zsG, Ao]
      refine WC.set 7 I (v' := .slice (o1.map fun b => ⟨b, 0, none⟩) (bsG k q.sg.a q.ms.length).length c1) (by rw [hbl1]) ?_; refine WC.set 8 I (v' := .slice (o2.map fun b => ⟨b, 0, none⟩) (zsG q.sg.e (nnZ q.sg.v) q.ms q.ms.length).length c2) (by rw [hzl1]) ?_; refine Xa (Cs (Kq I (Fa (q := 1) I I u33 I I) (Kq I (ldp I I .tc u26 I (by kernel_rfl : _ = some 2) (by rfl) (by rfl)) ?_))); refine Km I (Km I (Kc I (fun w hS => p4 (w := w) (g := k.g) (l := bsG k q.sg.a q.ms.length) (es := zsG q.sg.e (nnZ q.sg.v) q.ms q.ms.length) (a := o1.map fun b => ⟨b, 0, none⟩) (b := o2.map fun b => ⟨b, 0, none⟩) (c := c1) (d := c2) hS.oc hS.oc (by omega) (by omega) hk8) ?_)); obtain ⟨P, hP⟩ : ∃ P, Keep (P = (bu k.g (bsG k q.sg.a q.ms.length) (zsG q.sg.e (nnZ q.sg.v) q.ms q.ms.length))) := ⟨_, rfl⟩; rw [← show P = _ from hP]; refine Km I (Ye I (Ye I (Ka I (Ka I (Nt (WC.joinP (σ := Unit) [] (fun gq => [(6, .bool (decide (P.2 = 0 ∧ P.1 = k.z)))]) (fun gq => True) (S0 _) ?_ ?_))))))
      ·skip
       refine Cg (Km I (Yi I (Km I (Nc 160 I (fun hg160 => ?_) (fun hg160 => ?_)))))
       ·refine Km I (Kf 3 I u33 I I I .tc u22 ?_); refine Ys I (Yp I (Ka I (Nn (WX.joinP (()) (S0 _) (by refine (Sc ?_ (S0 _)) <;> ((refine ai rfl ?_; (try dsimp only); (simp [*]; done)))) ?_ (fun _ h => h))))); (try dsimp only); done
       ·refine T4 I (Yq I (Ka I (Nn (WX.joinP (()) (S0 _) (by refine (Sc ?_ (S0 _)) <;> ((refine ai rfl ?_; (try dsimp only); (simp [*]; done)))) ?_ (fun _ h => h))))); (try dsimp only); done
      ·rintro _ hmeet; (try dsimp only at hmeet ⊢); refine Ce ?_; exact Rn I (.tmp I .nil) fun w' hS => ⟨_, rfl, fun h => ⟨hfw, hsm, h0, hlen, hel, hoe, hov, hb1, hb2, hb3, hlt, (by have h2 := of_decide_eq_true h; rw [show P = _ from hP, hbE, hzE] at h2; exact Prod.ext h2.2 h2.1)⟩, hS.below, Fn⟩
def vlS (q : CS) : List Bs × Bool := if bL 1 q.d q.ms.length then (cC q.d q.ms, true) else ([], false)
abbrev vlV (r : List Bs × Bool) (g : Rs) : Value := .tuple #[g.val r.1.length, .bool r.2]
theorem wi {d : List Int} {ms : List Bs} {i : Nat} (h : i < d.length) : cC (d.take (i + 1)) ms = cC (d.take i) ms ++ [ms.getD (d.getD i default).toNat default] := by
 rw [cC, aL h]; simp
theorem zl {q : CS} {ma da va za xa : Option Addr} {mc dc vc zc' xc : Nat} {w : World} {ok : Nat → Prop} (hF1 : (Fact.sl ma (ak q.ms)).holds ok w) (hF2 : (Fact.sl da (dX q.d)).holds ok w) (hm : q.ms.length ≤ 1048576) (hd : q.d.length ≤ 1048576) :
  Calls Tryz.prog 31 #[csV q (.slice ma q.ms.length mc) (.slice da q.d.length dc) (.slice va q.vs.length vc) (.slice za q.ws.length zc') (.slice xa q.t.vals.length xc)] w fun e w' => ∃ gx : Rs, e = .returned (vlV (vlS q) gx) ∧ (True) ∧ Below w.heap.size w w' ∧ ∀ x ∈ ([Fact.sl gx.a (ak (vlS q).1)] : List Fact), x.holds (fun b => ok b ∨ w.heap.size ≤ b) w' := by
 refine enter (S := St (fun b => ok b ∨ w.heap.size ≤ b) w [] ([Fact.sl ma (ak q.ms), Fact.sl da (dX q.d)])) (L := [(0, csV q (.slice ma q.ms.length mc) (.slice da q.d.length dc) (.slice va q.vs.length vc) (.slice za q.ws.length zc') (.slice xa q.t.vals.length xc))]) Tryz.func31 rfl Tryz.ntmps31 rfl (Ac rfl (An _)) (St.start (fun _ h => Or.inr h) (fy (Fc hF1 (Fc hF2 Fn)))) ?_
 refine Cs (Kh I (Oy I I) ?_)
 intro b1
 refine Ka I (Ka I (Nt (Cs (Ka I (Nt (Cq (Cs (Kf 7 I u43 I I I .tc u38 ?_))))))))
 refine Yo I u38 (Km I (Nt (Cb (Lo (σ := Nat × Int × (Option Nat) × Nat × (List Value)) [(1, _), (8, _), (9, _)] (fun gq => [(10, .int .i64 (gq.1 : Int)), (4, .slice (gq.2.2.1.map fun b => ⟨b, 0, none⟩) gq.1 gq.2.2.2.1)]) (fun gq => gq.1 ≤ q.d.length ∧ gq.2.2.2.1 = gq.1 + gq.2.2.2.2.length ∧ bL gq.2.1 (q.d.drop gq.1) q.ms.length = bL 1 q.d q.ms.length ∧ 1 ≤ gq.2.1 ∧ (gq.1 = 0 → gq.2.1 = 1) ∧ (0 < gq.1 → gq.2.1 = q.d.getD (gq.1 - 1) default ∧ 2 ≤ gq.2.1)) (fun gq => q.d.length - gq.1) (fun gq => [⟨gq.2.2.1, ak (cC (q.d.take gq.1) q.ms) ++ gq.2.2.2.2, 22⟩, ⟨some b1, csC q (.slice ma q.ms.length mc) (.slice da q.d.length dc) (.slice va q.vs.length vc) (.slice za q.ws.length zc') (.slice xa q.t.vals.length xc), 43⟩]) (fun gq => [Fact.sl ma (ak q.ms), Fact.sl da (dX q.d)]) (0, 1, none, 0, []) (S3 I I I) (S2 I I) (by (try dsimp only); exact ⟨Aj _, rfl, rfl, by omega, fun _ => rfl, fun h => by omega⟩) (by exact fun w h => h.nil 22) ?_))))
 rintro ⟨i, last, o1, c1, p1⟩ hinv1; (try dsimp only at hinv1 ⊢)
 obtain ⟨hi, hc1, he, hl1, hl2, hl3⟩ := hinv1
 refine Cs (Yl I (Nt (Cq (Ci I (fun hc11 => ?_) (fun hc11 => ?_)))))
 ·have hil : i < q.d.length := by omega
  obtain ⟨y, hy⟩ : ∃ y, Keep (y = q.d.getD i default) := ⟨_, rfl⟩
  rw [ic hil, ← show y = _ from hy, bL] at he
  refine Ck (Xa (Cq (Cb (Cs (Km I (Kq I (Ib I I I u38 (by omega) (by (rw [Af]; omega))) ?_))))))
  refine Kq I (ldm I I u3 I (by assumption)) ?_
  refine Ns 14 I (v' := .int .i64 (y)) (congrArg (Value.int .i64) (by rw [show y = _ from hy])) ?_
  refine Ka I (Ka I (Nt (Cq (WC.joinP (σ := Unit) [(1, _), (4, _), (6, _), (8, _), (9, _), (10, _)] (fun gq => [(37, .bool (decide (¬ (last < y ∧ y < (q.ms.length : Int)))))]) (fun gq => True) (S6 I I I I I I) ?_ ?_))))
  ·skip
   refine Cg (Km I (Yl I (Km I (Nc 17 I (fun hg17 => ?_) (fun hg17 => ?_)))))
   ·refine T4 I (Kt I (Yp I (Km I (T4 I (T4 I (T4 I (Yp I (Nn (WX.joinP (()) (S6 I I I I I I) (by refine (Sc ?_ (S0 _)) <;> ((exact congrArg (fun b => some (Value.bool b)) (by symm; apply Aq; omega)))) ?_ (fun _ h => h)))))))))); (try dsimp only); done
   ·refine Km I (Kf 6 I u43 I I I .tc u31 ?_); refine Yo I u31 (Yh I (Yq I (Km I (Nc 24 I (fun hg24 => ?_) (fun hg24 => ?_)))))
    ·refine T4 I (T4 I (T4 I (Yp I (Nn (WX.joinP (()) (S6 I I I I I I) (by refine (Sc ?_ (S0 _)) <;> ((refine ai rfl ?_; (try dsimp only); (simp [*]; done)))) ?_ (fun _ h => h)))))); (try dsimp only); done
    ·refine Km I (Yg I (Km I (Nc 27 I (fun hg27 => ?_) (fun hg27 => ?_))))
     ·refine Km I (Kf 7 I u43 I I I .tc u38 ?_); refine Km I (Kq I (au I I I (by omega)) ?_); refine Kq I (Ib I I I u38 (by omega) (by (rw [Af]; omega))) ?_; refine Kq I (ldm I I u3 I (by omega)) ?_; refine Ns 34 I (v' := .int .i64 (last)) (congrArg (Value.int .i64) (by rw [(hl3 (by omega)).1])) ?_; refine Ym I (Yp I (Yq I (Nn (WX.joinP (()) (S6 I I I I I I) (by refine (Sc ?_ (S0 _)) <;> ((refine ai rfl ?_; (try dsimp only); (exact Ag.2 (by omega))))) ?_ (fun _ h => h))))); (try dsimp only); done
     ·refine T4 I (T4 I (Yq I (Yq I (Nn (WX.joinP (()) (S6 I I I I I I) (by refine (Sc ?_ (S0 _)) <;> ((exact congrArg (fun b => some (Value.bool b)) (by symm; apply Ap; omega)))) ?_ (fun _ h => h)))))); (try dsimp only); done
  ·rintro _ hmeet; (try dsimp only at hmeet ⊢); refine Ci I (fun hc37 => ?_) (fun hc37 => ?_)
   ·have hn : bL 1 q.d q.ms.length = false := by rw [← he, Ap hc37]; rfl
    have hr : vlS q = ([], false) := by rw [vlS, hn]; rfl
    refine Cs (Ka I (Ka I (Nt (Ce (Xb (Xf (Xb (Xb (Xf (Xb ?_)))))))))); exact Rn I (.tmp I (.tmp I .nil)) fun w' hS => ⟨⟨none, 0, []⟩, by rw [hr]; rfl, trivial, hS.below, by rw [hr]; exact Fc bI Fn⟩
   ·have hy2 := Ah.1 hc37; obtain ⟨z, hz⟩ : ∃ z : Nat, Keep ((z : Int) = y) := ⟨y.toNat, by show ((y.toNat : Nat) : Int) = y; omega⟩; have hzl : z < q.ms.length := by have := show (z : Int) = y from hz; omega
    have hbl : (ak (cC (q.d.take i) q.ms)).length = i := by rw [Af, Af, Bo]; omega
    refine Ck (Xa (Cg (Km I (Kf 6 I u43 I I I .tc u31 ?_)))); refine Km I (Ns 41 I (v' := .int .i64 ((z : Nat) : Int)) (congrArg (Value.int .i64) (by rw [show (z : Int) = _ from hz])) ?_); refine Kq I (Ib I I I u31 (by omega) (by (rw [Af]; omega))) ?_; refine Kq I (ldm I I u22 I (by assumption)) ?_; refine Kh I (aQ I I u31 (by kernel_rfl : _ = some (some (.string (S [])), 1, 16)) I (by simp only [List.map]; rfl) I I ?_ (by decide)) ?_
    ·simp [Value.cells]
    intro b44; refine Kh I (pE I u31 (by kernel_rfl : _ = some (some (.string (S [])), 1, 16)) I .tc I I (fun w hS => by (exact hS.os)) (by rfl) (by (refine ⟨hbl, by omega, by omega, by omega⟩)) (by (simp [Value.oneCell']; done))) ?_; rintro ⟨o45, c45, s45⟩; refine WL.pu ?_; intro hg45; (try dsimp only at hg45 ⊢); refine Ka I (Nn (Xd (Xa (Cg (Kq I (Rz I I I (by omega)) (Km I (Nn (Lx ((i + 1, y, o45, c45, s45)) (by (try dsimp only); omega) (S3 I I I) (by refine (Sc ?_ (Sc ?_ (S0 _))) <;> (rfl)) ?_ (by exact fun w h => by dsimp only; rw [wi hil, jA, ← show y = _ from hy, ← show (z : Int) = y from hz, Au]; exact ar _ h))))))))); (try dsimp only); exact ⟨hil, by omega, by rw [← he, Aq hy2]; rfl, by omega, fun h => by omega, fun _ => ⟨by rw [show y = _ from hy]; rfl, by omega⟩⟩
 ·refine Cx (Xc (Xc (Xe ?_)))
  obtain rfl : i = q.d.length := by omega
  have hn : bL 1 q.d q.ms.length = true := by rw [← he, List.drop_length]; rfl
  have hr : vlS q = (cC q.d q.ms, true) := by rw [vlS, hn]; rfl
  rw [Ao]
  have hbl : (ak (cC q.d q.ms)).length = q.d.length := by rw [Af, Af]
  refine Xa (Cs (Km I (Ka I (Ka I (Nt (Ce ?_))))))
  exact Rn I (.tmp I (.tmp I .nil)) fun w' hS => ⟨⟨o1, c1, p1⟩, by rw [hr]; dsimp only [vlV]; rw [Af]; rfl, trivial, hS.below, by rw [hr]; exact Fc hS.ock Fn⟩
theorem lK {β : Type} (f : β → Nat) (g : β → Bs) : ∀ (L : List β) (l : List Bs), (L.foldl (fun l q => l.set (f q) (g q)) l).length = l.length
 | [], _ => rfl
 | q :: L, l => by rw [List.foldl_cons, lK f g L, C1]
theorem lJ {β : Type} (f : β → Nat) (g : β → Bs) {i : Nat} {v : Bs} : ∀ (L : List β) (l : List Bs), i < l.length → (∀ q ∈ L, f q = i → g q = v) → ((∃ q ∈ L, f q = i) ∨ l.getD i default = v) →
  (L.foldl (fun l q => l.set (f q) (g q)) l).getD i default = v
 | [], l, _, _, h => by rcases h with ⟨q, hq, _⟩ | h; cases hq; exact h
 | q :: L, l, hi, hv, h => by
  rw [List.foldl_cons]
  refine lJ f g L _ (by rw [C1]; exact hi) (fun x hx => hv x (Cc _ hx)) ?_
  by_cases hq : f q = i
  ·right; rw [List.getD_eq_getElem?_getD, List.getElem?_set, Ab hq, Ab (by rw [hq]; exact hi)]; exact hv q Eb hq
  ·rcases h with ⟨x, hx, hxi⟩ | h
   ·rcases At.1 hx with rfl | hx
    ·exact absurd hxi hq
    ·exact Or.inl ⟨x, hx, hxi⟩
   ·right; rw [List.getD_eq_getElem?_getD, List.getElem?_set, Aa hq, ← List.getD_eq_getElem?_getD]; exact h
def lO (d : List Int) (vs : List Bs) (n j : Nat) : List Bs := (List.range j).foldl (fun l q => l.set (d.getD q default).toNat (vs.getD q default)) (List.replicate n [])
def pp (hid : List Nat) (w : List Zs) (l : List Bs) (j : Nat) : List Bs := (List.range j).foldl (fun l q => l.set (hid.getD q default) (w.getD (q + 2) default).2) l
def crL (n : Nat) (d : List Int) (vs : List Bs) (w : List Zs) : List Bs := pp (aR d n) w (lO d vs n d.length) (aR d n).length
theorem tr (d : List Int) (vs : List Bs) (n j : Nat) : lO d vs n (j + 1) = (lO d vs n j).set (d.getD j default).toNat (vs.getD j default) := by
 rw [lO, List.range_succ, List.foldl_append]; rfl
theorem tq (hid : List Nat) (w : List Zs) (l : List Bs) (j : Nat) : pp hid w l (j + 1) = (pp hid w l j).set (hid.getD j default) (w.getD (j + 2) default).2 := by
 rw [pp, List.range_succ, List.foldl_append]; rfl
theorem gL (d : List Int) (vs : List Bs) (n j : Nat) : (lO d vs n j).length = n := by rw [lO, lK, Dh]
theorem lN (hid : List Nat) (w : List Zs) (l : List Bs) (j : Nat) : (pp hid w l j).length = l.length := by rw [pp, lK]
def crE (w : List Zs) : Prop := ∀ i, i < w.length → i ≠ 1 → (w.getD i default).1 = false
instance (w : List Zs) : Decidable (crE w) := inferInstanceAs (Decidable (∀ i, i < w.length → _))
def crS (p : PR) (k : IK) (a : Bs) (d : List Int) (vs : List Bs) (w : List Zs) : (List Bs × Zs × Bs) × Int :=
 if (shS p k a d vs).2 ≠ 0 then (([], (false, []), []), (shS p k a d vs).2)
 else if (eJ (shS p k a d vs).1 w).2 ≠ 0 then (([], (false, []), []), (eJ (shS p k a d vs).1 w).2)
 else if (eJ (shS p k a d vs).1 w).1 = false then (([], (false, []), []), 18)
 else if ¬ crE w then (([], (false, []), []), 2)
 else if (addN p.lo (w.getD 0 default).2).2 ≠ 0 then (([], (false, []), []), (addN p.lo (w.getD 0 default).2).2)
 else ((crL k.r.length d vs w, w.getD 1 default, (addN p.lo (w.getD 0 default).2).1), 0)
section
variable {p : PR} {k : IK} {s : SG} {ms : List Bs} {t : Tp} {d : List Int}
theorem yD (hlen : ms.length = k.r.length) (hd : bL 1 d ms.length = true) (v : Zs) : crL k.r.length d (cC d ms) (gg p k s ms v d) = ms := by
 have hw2 : ∀ q, q < (aR d k.r.length).length → ((gg p k s ms v d).getD (q + 2) default).2 = ms.getD ((aR d k.r.length).getD q default) default := by
  intro q hq
  simp only [C4]
  rw [ct (fun i => ((false, ms.getD i default) : Zs)) _ _ hq]
 have hl : (crL k.r.length d (cC d ms) (gg p k s ms v d)).length = ms.length := by rw [crL, lN, gL, hlen]
 refine rG hl fun i hi => ?_
 rw [hl] at hi
 rw [crL, pp]
 refine lJ _ _ _ _ (by rw [gL]; omega) ?_ ?_
 ·intro q hq hqi
  have hq := Bz.1 hq
  rw [hw2 q hq, hqi]
 ·by_cases hm : i ∈ aR d k.r.length
  ·obtain ⟨q, hq, he⟩ := List.mem_iff_getElem.1 hm; refine Or.inl ⟨q, Bz.2 hq, ?_⟩; rw [List.getD_eq_getElem?_getD, Ad hq]; exact he
  ·right
   have hdm : (i : Int) ∈ d := by
    refine Ay fun h => hm ?_
    rw [aR, List.mem_filter]; exact ⟨Bz.2 (by omega), by simpa using h⟩
   rw [lO]; refine lJ _ _ _ _ (by rw [Dh]; omega) ?_ ?_
   ·intro q hq hqi; have hq := Bz.1 hq; rw [ct (fun i : Int => ms.getD i.toNat default) _ _ hq, hqi]
   ·obtain ⟨q, hq, he⟩ := List.mem_iff_getElem.1 hdm; refine Or.inl ⟨q, Bz.2 hq, ?_⟩; rw [List.getD_eq_getElem?_getD, Ad hq]; show (d[q]).toNat = i; rw [he]; exact Au i
theorem xq (hs : oL p k s ms) (hd : bL 1 d ms.length = true) (h : (aU p k s t).2 = 0) (h1 : szV p < Big) (h2 : szH p < Big) :
  crS p k (aU p k s t).1.1 d (cC d ms) (gg p k s ms (aU p k s t).1.2.1 d) = ((ms, (aU p k s t).1.2.1, s.e), 0) := by
 obtain ⟨hX, hvz, _⟩ := iQ hs h
 have hE := BV hs hd h1 h2 hX
 have hH := qQ hs hd h h1 h2
 have hlen := hs.2.1
 have he := hs.2.2.2.1
 have hlo := hs.2.2.2.2.2.1
 have hN := hs.1
 have hlok : okN p.lo := (cM (bn hN).1).1.1 _ (by simp)
 have eS : shS p k (aU p k s t).1.1 d (cC d ms) = (shT p k (aU p k s t).1.1 d (cC d ms), 0) := by rw [shS, Aa (fun h => h hE)]
 have hcr : crE (gg p k s ms (aU p k s t).1.2.1 d) := by
  intro i hi hi1
  rcases i with _ | _ | j
  ·rw [B8, ci]; exact Ap (by omega)
  ·exact absurd rfl hi1
  ·simp only [Am, Af] at hi; simp only [C4]; rw [ct (fun i => ((false, ms.getD i default) : Zs)) _ _ (by omega)]
 have hB := aF he
 have ha : addN p.lo ((gg p k s ms (aU p k s t).1.2.1 d).getD 0 default).2 = (s.e, 0) := by
  rw [B8, ci]; simp only
  have := yU (a := val p.lo) (b := ((val s.e : Int) - val p.lo).natAbs) (aF hlok) (by omega)
  rw [bB hlok, Ab (by omega), show val p.lo + ((val s.e : Int) - val p.lo).natAbs = val s.e by omega, bB he] at this
  exact this
 rw [crS, eS]; simp only
 rw [hH, Aa (fun h => h rfl), Aa (fun h => h rfl), Aa (by simp), Aa (fun h => h hcr), ha, Aa (fun h => h rfl), yD hlen hd]
 rfl
end
end Go.Proofs.YtkdlonihbjhhoaaGreatDoor
