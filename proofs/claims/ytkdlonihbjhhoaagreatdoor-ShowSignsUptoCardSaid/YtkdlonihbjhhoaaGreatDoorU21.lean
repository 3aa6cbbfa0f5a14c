/-
  Parts of the walk: ShaB ShaI Sha4 ShaS ShaU Laid LaiE Opu.
-/
import Derived.Test.YtkdlonihbjhhoaaGreatDoorU20
import Derived.Lib.LaidTab
import Derived.Test.YtkdlonihbjhhoaaGreatDoorRows
namespace Go.Proofs.YtkdlonihbjhhoaaGreatDoor
open Go.RowKit
set_option linter.unusedSimpArgs false
set_option linter.unusedVariables false
set_option maxHeartbeats 600000
set_option maxRecDepth 20000
def awP : PR := { ch := [2], sl := [2], mn := (([47], [23]), ([4], [9])), wh := (([77], []), ([4], [9])), sec := [23], attr := [2], han := [20], lo := [3], sz := [10], bl := [20], msk := [15] }
def awK : IK := { name := [105], g := ([77], []), z := [15], s := [4], r := [[64], [23], [1]], u := [4], h := [4] }
theorem zF : ce awP awK ⟨[53], [7], [2]⟩ ⟨[[4]], [], 0⟩ = (([16], (true, [26]), ⟨[[4]], [], 1⟩), 0) := by decide +kernel
theorem BN : shE awP awK [16] [2] [[1]] = 0 := by decide +kernel
theorem vp : shS awP awK [16] [2] [[1]] = (shT awP awK [16] [2] [[1]], 0) := by rw [shS, Aa (fun h => h BN)]
theorem BL : wiS awP ⟨[53], [7], [2]⟩ (true, [26]) [[1], [3], [1]] [2] = ([(false, [4]), (true, [26]), (false, [1]), (false, [3])], 0) := by decide +kernel
theorem BM : tgS awP awK [16] [2] [[1]] = [1] := by decide +kernel
theorem zG : lh (shT awP awK [16] [2] [[1]]) [(false, [4]), (true, [26]), (false, [1]), (false, [3])] = (true, 0) := by decide +kernel
theorem uV {l m : List Zs} {i : Nat} (h1 : i < l.length) (h2 : i < m.length) (h : l.take i = m.take i) (e : l.getD i default = m.getD i default) : l.take (i + 1) = m.take (i + 1) := by
 rw [pX h1, pX h2, h, e]
theorem zt {l m : List Zs} {i : Nat} (e : ¬ l.getD i default = m.getD i default) : ¬ l = m := fun h => e (by rw [h])
theorem AQ {l m : List Zs} {a b : Option Addr} {c d : Nat} {w : World} {ok : Nat → Prop} (hF1 : (Fact.sl a (aX l)).holds ok w) (hF2 : (Fact.sl b (aX m)).holds ok w) (hl : l.length ≤ 10000000) (hm : m.length ≤ 10000000) :
  Cw 21 #[.slice a l.length c, .slice b m.length d] w (.bool (decide (l = m))) := by
 refine En [Fact.sl a (aX l), Fact.sl b (aX m)] [(0, .slice a l.length c), (1, .slice b m.length d)] Tryz.func21 I Tryz.ntmps21 I (Ac I (Ac I (An _))) (Fc (ah hF1) (Fc (ah hF2) Fn)) (Cs (Ka I (Nt (Cq (Cs (Km I (Yo I u39 (Km I (Yo I u39 (Yj I (Nt (Ci I (fun hc10 => ?_) (fun hc10 => ?_)))))))))))))
 ·have hn : ¬ l = m := fun h => by subst h; simp at hc10
  refine Cs (Ka I (Nt (Ce (Xb ?_))))
  exact R1 I I (by rw [Aq hn]; rfl)
 ·have hlen : l.length = m.length := by omega
  refine Ck (Xa (Cq (Cs (Km I (Yo I u39 (Km I (Nt (Cb (Lp (σ := Nat) [(0, _), (1, _), (12, _)] (fun gq => [(13, .int .i64 (gq : Int))]) (fun gq => gq ≤ l.length ∧ l.take gq = m.take gq) (fun gq => l.length - gq) (0) (S3 I I I) (S1 I) (by (try dsimp only); exact ⟨Ak _, by simp⟩) ?_)))))))))
  rintro i hinv1; (try dsimp only at hinv1 ⊢)
  obtain ⟨hi, hok⟩ := hinv1
  refine Cs (Yl I (Nt (Cq (Ci I (fun hc14 => ?_) (fun hc14 => ?_)))))
  ·have hil : i < l.length := by omega
   have him : i < m.length := by omega
   obtain ⟨x, hx⟩ : ∃ x, Keep (x = l.getD i default) := ⟨_, rfl⟩; obtain ⟨y, hy⟩ : ∃ y, Keep (y = m.getD i default) := ⟨_, rfl⟩; refine Ck (Xa (Cq (Cb (Cs (Km I (Ka I (Nt (Cq (Cf [0, 1, 2, 3, 4, 5, 6, 7, 8] [] [0, 0, 0, 0, 0, 0, 0, 0, 0] (by kernel_rfl) (by kernel_rfl) I ?_))))))))); refine Kj I (Rm I I) (Kj I (Rm I I) ?_); refine Kj I (Ia I I I u39 (by kernel_rfl : _ = some 2) (by omega) (by (rw [aj _ _ 2 (fun _ => rfl)]; omega))) ?_; refine Kj I (dK _ I I u37 I (by kernel_rfl : _ = some 2) (fun _ => rfl) (by decide) I (by assumption)) ?_; refine WJ.set 19 I (v' := zV x) (by rw [show x = _ from hx]) ?_; refine Kj I (Rm I I) (Kj I (Rm I I) ?_); refine Kj I (Ia I I I u39 (by kernel_rfl : _ = some 2) (by omega) (by (rw [aj _ _ 2 (fun _ => rfl)]; omega))) ?_; refine Kj I (dK _ I I u37 I (by kernel_rfl : _ = some 2) (fun _ => rfl) (by decide) I (by assumption)) ?_; refine WJ.set 23 I (v' := zV y) (by rw [show y = _ from hy]) ?_; refine Kj I (tS I I I (by kernel_rfl) (fun w => jK _ _ _ _ w)) ?_; refine WJ.nil ?_; refine Nt (Ci I (fun hc24 => ?_) (fun hc24 => ?_))
   ·have hn : ¬ l = m := zt (fun h => hc24 (by rw [show x = _ from hx, show y = _ from hy, h]; exact ⟨rfl, rfl⟩)); refine Cs (Ka I (Nt (Ce (Xf (Xb (Xb (Xf (Xb ?_)))))))); exact R1 I I (by rw [Aq hn]; rfl)
   ·refine Ck (Xd (Xa (Cg (Kq I (Rz I I I (by omega)) (Km I (Nn (Ly (i + 1) (by (try dsimp only); omega) (S3 I I I) (by refine (Sc ?_ (S0 _)) <;> (rfl)) ?_ (fun _ h => h)))))))); (try dsimp only); exact ⟨hil, uV hil him hok (by rw [← show x = _ from hx, ← show y = _ from hy]; exact Prod.ext hc24.1 hc24.2)⟩
  ·refine Cx (Xc (Xc (Xe ?_))); obtain rfl : i = l.length := by omega
   rw [Ao, hlen, Ao] at hok; refine Xa (Cs (Ka I (Nt (Ce ?_)))); exact R1 I I (by rw [Ap hok]; rfl)
theorem tD {w : World} :
  Calls Tryz.prog 38 #[] w fun e w' => ∃ g : Rs, e = .returned (.tuple #[prV awP, ikV awK (g.val 3)]) ∧ g.cap = 3 + g.sp.length ∧ St (fun _ => True) w [g.ent (an awK.r) 22] [] w' := by
 refine En [] [] Tryz.func38 I Tryz.ntmps38 I (An _) Fn (Cs (Kh I (Oz [.string (S []), .string (S []), .string (S []), .string (S []), .string (S []), .string (S []), .string (S []), .string (S []), .string (S []), .string (S []), .string (S []), .string (S []), .string (S []), .string (S []), .string (S []), .string (S []), .string (S [])] I) ?_))
 intro b0
 refine Kh I (Oz [.string (S []), .string (S []), .string (S []), .string (S []), .string (S []), .slice none 0 0, .string (S []), .string (S [])] I) ?_
 intro b1
 refine Nt (Cs (Kq I (Kb [[.string (S [])], [.string (S [])]] I I) (Kq I (Kb [[.string (S [])], [.string (S [])]] I I) (Kq I (Kb [[.string (S []), .string (S [])], [.string (S [])], [.string (S [])]] I I) (Kq I (Kb [[.string (S [])], [.string (S [])]] I I) (Kq I (Kb [[.string (S []), .string (S [])], [.string (S [])], [.string (S [])]] I I) (Kq I (Kb [[.string (S []), .string (S [])], [.string (S []), .string (S []), .string (S []), .string (S [])], [.string (S []), .string (S []), .string (S []), .string (S [])], [.string (S [])], [.string (S [])], [.string (S [])], [.string (S [])], [.string (S [])], [.string (S [])], [.string (S [])]] I I) ?_)))))))
 refine Kh I (Oz [.string (S []), .string (S []), .string (S []), .string (S []), .string (S []), .string (S []), .string (S []), .string (S []), .string (S []), .string (S []), .string (S []), .string (S []), .string (S []), .string (S []), .string (S []), .string (S []), .string (S [])] I) ?_
 intro b2
 refine Nu I I (Sa I I I .tc) (Nt (Cs (Kq I (Kb [[.string (S [])], [.string (S [])]] I I) ?_)))
 refine Kh I (aN I I u31 (by kernel_rfl : _ = some (some (.string (S [])), 1, 16)) I (by simp only [List.map]; rfl) I I ?_ (by decide)) ?_
 ·simp [Value.cells]
 intro b11
 refine Kq I (Kb [[.string (S [])], [.string (S []), .string (S [])], [.string (S [])], [.string (S [])], [.slice none 0 0], [.string (S [])], [.string (S [])]] I I) ?_
 refine Kh I (Oz [.string (S []), .string (S []), .string (S []), .string (S []), .string (S []), .slice none 0 0, .string (S []), .string (S [])] I) ?_
 intro b3
 refine Nu I I (Sa I I I .tc) (WL.st (fun w h => show St _ _ ([⟨some b3, ikC awK (.slice (some ⟨b11, 0, none⟩) 3 3), 33⟩, ⟨some b11, an awK.r, 22⟩, ⟨some b2, prC awP, 30⟩, _, _] : List Ent) _ w from h) ?_)
 refine Nt (Cq (WC.free (K := [⟨some b3, ikC awK (.slice (some ⟨b11, 0, none⟩) 3 3), 33⟩, ⟨some b2, prC awP, 30⟩]) (fs0 := []) [0, 2, 1] [3] [0, 0, 1, 2] (by kernel_rfl) (by kernel_rfl) I ?_))
 refine Kj I (lda I I .tc u30 I ?_) ?_
 ·kernel_rfl
 refine WJ.st I I I I (il I I I ?_ ?_ ?_) ?_
 ·kernel_rfl
 ·simp [Value.oneCell']
 ·rfl
 refine Kj I (lda I I .tc u33 I ?_) ?_
 ·kernel_rfl
 refine WJ.nil ?_
 refine Nu I I (Sa I I I .tc) (Nt (Ce ?_))
 exact Rn I (.agg I .tc u30 I (by kernel_rfl) (.agg I .tc u33 I (by kernel_rfl) .nil)) fun w' hS => ⟨⟨some b11, 3, []⟩, rfl, rfl, hS.sub (own' := [⟨some b11, an awK.r ++ [], 22⟩]) (.cons _ (by simp)) (fun _ h => by cases h)⟩
theorem yu {s : SA} {p : PR} {k : IK} {a : Bs} {d : List Int} {vs : List Bs} (hm8 : k.g.1.length ≤ 8) (hk : k.r.length ≤ 90000) (h : s.core = (shS p k a d vs).1) : saL s := by
 have hh : (bM d k.r.length).length ≤ k.r.length := by
  have := List.length_filter_le (fun i : Nat => !(d.contains (i : Int))) (List.range k.r.length)
  rw [List.length_range] at this; exact this
 have hc : s.gs.length ≤ 100000 ∧ s.vs.length ≤ 100000 ∧ s.core.2.2.length ≤ 100000 ∧ (∀ q ∈ s.core.2.2, q.2.2.length ≤ 100000) ∧ ∀ g ∈ s.gs, g.1.length ≤ 8 := by
  have e1 : s.gs = (shS p k a d vs).1.1 := congrArg (·.1) h
  have e2 : s.vs = (shS p k a d vs).1.2.1 := congrArg (·.2.1) h
  rw [e1, e2, h, shS]; split
  ·exact ⟨Ak _, Ak _, Ak _, by simp, by simp⟩
  ·exact ⟨by simp [shT], by simp [shT]; omega, by simp [shT], by simp [shT, ii]; omega, by simpa [shT] using hm8⟩
 exact ⟨hc.1, hc.2.1, by have := hc.2.2.1; simpa using this, eZ.1 hc.2.2.2.1, hc.2.2.2.2⟩
abbrev awS : SG := ⟨[53], [7], [2]⟩
abbrev awZ : Zs := (true, [26])
theorem jC {w : World} (hT : Tab w) (hD : TabD w) :
  Cw 12 #[] w (.bool true) := by
 refine En [] [] Tryz.func12 I Tryz.ntmps12 I (An _) Fn (Cs (Ka I (Nt (Cs (Kh I (Oc I I (ft fun w hS => tD)) ?_)))))
 intro g15
 refine WL.pu ?_
 intro hg15; (try dsimp only at hg15 ⊢)
 refine Km I (Ye I (Ye I (Kh I (Oz [.string (S []), .string (S []), .string (S []), .string (S []), .string (S []), .string (S []), .string (S []), .string (S []), .string (S []), .string (S []), .string (S []), .string (S []), .string (S []), .string (S []), .string (S []), .string (S []), .string (S [])] I) ?_)))
 intro b1
 refine Kh I (Oz [.string (S []), .string (S []), .string (S []), .string (S []), .string (S []), .slice none 0 0, .string (S []), .string (S [])] I) ?_
 intro b2
 refine Nu I I (Sa I I I .tc) (Nu I I (Sa I I I .tc) (Nt (Cs (Kq I (Kb [[.string (S [])], [.string (S [])], [.string (S [])]] I I) ?_))))
 refine Kh I (Oz [.string (S []), .string (S []), .string (S [])] I) ?_
 intro b3
 refine Nu I I (Sa I I I .tc) (Nt (Cs (Kq I (lda I I .tc u30 I ?_) ?_)))
 ·kernel_rfl
 refine Kq I (lda I I .tc u33 I ?_) ?_
 ·kernel_rfl
 refine Kq I (lda I I .tc u35 I ?_) ?_
 ·kernel_rfl
 refine Kh I (aN I I u31 (by kernel_rfl : _ = some (some (.string (S [])), 1, 16)) I (by simp only [List.map]; rfl) I I ?_ (by decide)) ?_
 ·simp [Value.cells]
 intro b23
 refine Kq I (Kb [[.slice none 0 0], [.string (S [])], [.int .i64 0]] I I) ?_
 refine Kh I (Oc I I (ft fun w hS => p7 (p := awP) (k := awK) (s := awS) (t := ⟨[[4]], [], 0⟩) (by (exact hS.sl)) (by (exact hS.os)) (by decide) (by decide) (by decide) (by decide) (by decide) (by decide) (by exact dZ hT hS) (by exact bi hD hS))) ?_
 intro g25
 refine WL.pu ?_
 intro hg25; (try dsimp only at hg25 ⊢)
 rw [zF]
 refine Km I (Ye I (Ye I (Ye I (Ye I (Kh I (Oz [.bool false, .string (S [])] I) ?_)))))
 intro b5
 refine Kh I (Oz [.slice none 0 0, .string (S []), .int .i64 0] I) ?_
 intro b6
 refine Ka I (Nu I I (Sa I I I .tc) (Nu I I (Sa I I I .tc) (Ka I (Nt (Cs (Kq I (lda I I .tc u30 I ?_) ?_))))))
 ·kernel_rfl
 refine Kq I (lda I I .tc u33 I ?_) ?_
 ·kernel_rfl
 refine Km I (Kh I (aN I I u38 (by kernel_rfl : _ = some (some (.int .i64 0), 1, 8)) I (by simp only [List.map]; rfl) I I ?_ (by decide)) ?_)
 ·simp [Value.cells]
 intro b34
 refine Kh I (aN I I u31 (by kernel_rfl : _ = some (some (.string (S [])), 1, 16)) I (by simp only [List.map]; rfl) I I ?_ (by decide)) ?_
 ·simp [Value.cells]
 intro b35
 refine WL.st (fun w h => (h.freeze (off := 0) (xs := an [[1]]) (fun i hi => by rw [Az]; rfl)).freeze (off := 0) (xs := fK [2]) (fun i hi => by rw [Az]; rfl)) ?_
 refine Kh I (Oc I I (iK fun w hS => yq (p := awP) (k := awK) (xa := [16]) (d := [2]) (vs := [[1]]) (by (exact hS.slo)) (by (exact hS.slo)) (by (exact hS.slo)) (by decide) (by decide) (by decide) (by decide) (by decide) (by decide) (by exact bi hD hS))) ?_
 rintro sa36
 refine WL.pu ?_
 intro hg36; (try dsimp only [List.cons_append, List.nil_append] at hg36 ⊢)
 rw [vp]
 refine Km I (Ye I (Ye I (Kh I (Oz [.slice none 0 0, .slice none 0 0, .slice none 0 0] I) ?_)))
 intro b8
 refine Nu I I (Sa I I I .tc) (Ka I (Nt (Cs (Kq I (lda I I .tc u30 I ?_) ?_))))
 ·kernel_rfl
 refine Kq I (lda I I .tc u35 I ?_) ?_
 ·kernel_rfl
 refine Kq I (lda I I .tc u37 I ?_) ?_
 ·kernel_rfl
 refine Kh I (aN I I u31 (by kernel_rfl : _ = some (some (.string (S [])), 1, 16)) I (by simp only [List.map]; rfl) I I ?_ (by decide)) ?_
 ·simp [Value.cells]
 intro b43
 refine Kh I (aN I I u38 (by kernel_rfl : _ = some (some (.int .i64 0), 1, 8)) I (by simp only [List.map]; rfl) I I ?_ (by decide)) ?_
 ·simp [Value.cells]
 intro b44
 refine Kh I (Oc I I (nA fun w hS => vZ (p := awP) (sg := awS) (v := awZ) (ms := [[1], [3], [1]]) (d := [2]) (by (exact hS.os)) (by (exact hS.os)) (by decide) (by decide) (by decide) (by exact bi hD hS))) ?_
 rintro g45
 refine WL.pu ?_
 intro hg45; (try dsimp only [List.cons_append, List.nil_append] at hg45 ⊢)
 rw [BL]
 refine Km I (Ye I (Ye I (Ka I (Ka I (Nt (Cq (Cs ?_)))))))
 have hc9 : sa36.core = shT awP awK [16] [2] [[1]] := hg36.trans (congrArg (·.1) vp)
 have hes : sa36.es.length = 1 := by have := congrArg (fun c => c.2.2.length) hc9; simpa [SA.core, shT] using this
 obtain ⟨q, hq⟩ := List.length_eq_one_iff.1 hes
 have hq1 : q.1.2.1 = [1] := by have := congrArg (fun c => c.2.2.map (·.2.1)) hc9; simpa [SA.core, hq, shT, BM] using this
 refine Km I (Km I (Kq I (az I I I (by (dsimp only; omega))) ?_))
 refine Km I (Kq I (az I I I (by (dsimp only; omega))) ?_)
 refine Yj I (Km I (Ns 54 I (v' := .bool false) (by rfl) ?_))
 refine Km I (Yr I (Yq I (Km I (Ns 58 I (v' := .bool false) (by rfl) ?_))))
 refine Kq I (lda I I .tc u37 I ?_) ?_
 ·kernel_rfl
 refine Kq I (Kb [[.bool false], [.string (S [])]] I I) ?_
 refine Kq I (tS I I I (by kernel_rfl) (fun w => jK _ _ _ _ w)) ?_
 refine Yq I (Km I (Ns 63 I (v' := .bool false) (by rfl) ?_))
 refine Kf 2 I u58 I I I .tc u56 ?_
 refine Yo I u56 (Yj I (Yq I (Ns 68 I (v' := .bool false) (by rw [hes]; rfl) ?_)))
 refine Nt (Cd I (fun h => by cases h) (fun _ => ?_))
 refine Ck (Xa (Cs (Kq I (lda I I .tc u58 I ?_) ?_)))
 ·kernel_rfl
 refine Km I (Kc I (fun w hS => (by have := xm (w := w) (s := sa36) (ws := [(false, [4]), awZ, (false, [1]), (false, [3])]) (a := g45.a) (c := g45.cap) hS.sl hS.sl hS.sl hS.sl hS.more (yu (by decide) (by decide) hg36) (by decide); rw [hc9, zG] at this; exact this)) (Km I (Ye I (Ye I (Ka I (Ka I (Nt (Cs ?_))))))))
 rw [hq]
 refine Kf 2 I u58 I I I .tc u56 ?_
 refine Kq I (Ia I I I u56 (by kernel_rfl : _ = some 3) (by (simp <;> omega)) (by (simp <;> omega))) ?_
 (refine Kq I (faf I I u95 I (by kernel_rfl) (by (try simp only [sN, Int.reduceToNat, Nat.reduceAdd, Nat.reduceMul, Nat.reduceSub]); rfl)) ?_)
 refine Kq I (lL (sz := 3) 0 1 I I u22 I (fun _ => rfl) I (by simp) (by decide) I) ?_
 refine Ns 79 I (v' := .string (S ([1]))) (congrArg (fun l => Value.string (S l)) (by exact hq1)) ?_
 refine Ys I (Km I (Ns 81 I (v' := .bool true) (by rfl) ?_))
 refine Km I (Kq I (Kb [[.bool false], [.string (S [])]] I I) (Kq I (Kb [[.bool false], [.string (S [])]] I I) (Kq I (Kb [[.bool false], [.string (S [])]] I I) (Kq I (Kb [[.bool false], [.string (S [])]] I I) ?_))))
 refine Kh I (f4 I I u39 (by kernel_rfl : _ = some (some (.agg #[.bool false, .string (S [])]), 2, 24)) (by kernel_rfl) (by decide) I I (by (simp [Value.cells]; done)) (by (simp only [List.map, Value.cells, Cz, Du, Bi, Dj]; rfl)) (by decide)) ?_
 intro b87
 refine Kc I (fun w hS => AQ (l := [(false, [4]), awZ, (false, [1]), (false, [3])]) (m := [(false, [4]), awZ, (false, [1]), (false, [3])]) (a := g45.a) (b := some ⟨b87, 0, none⟩) (c := g45.cap) (d := 4) (w := w) hS.sl hS.os (by decide) (by decide)) (Yp I (Km I (Ns 90 I (v' := .bool true) (by rfl) ?_)))
 refine Km I (Yi I (Yp I (Km I (Ns 94 I (v' := .bool true) (by rfl) ?_))))
 refine Km I (Yp I (Ka I (Nt (Ce ?_))))
 exact R1 I I (by rfl)
theorem x3 : ∀ {a b : List Fact} {x : Fact}, InF b x → InF (a ++ b) x
 | [], _, _, h => h
 | _ :: a, _, _, h => .there (x3 h)
instance (priority := low) SubL.app3 {α : Type} (x y z : List α) [h : SubL x z] : SubL x (y ++ z) := ⟨h.h.trans (List.sublist_append_right _ _)⟩
instance (priority := low) hasF_app3 {a b : List Fact} {x : Option Addr} {xs : List Value} [h : HasF b x xs] : HasF (a ++ b) x xs := ⟨x3 h.h⟩
theorem kF {x : Bs} {w : World} :
  Cw 23 #[.string (S x)] w (zV (false, x)) := by
 refine En [] [(0, .string (S x))] Tryz.func23 I Tryz.ntmps23 I (Ac I (An _)) Fn (Cs (Kh I (Oz [.bool false, .string (S [])] I) ?_))
 intro b2
 refine Nt (Cs (Km I (Kq I (Kb [[.bool false], [.string (S [])]] I I) ?_)))
 refine Nu I I (Sa I I I .tc) (Nt (Ce ?_))
 exact Rn I (.agg I .tc u37 I (by kernel_rfl) .nil) fun w' hS => ⟨by rfl, hS.below⟩
theorem fy {p : PR} {k : IK} (h : jJ p k = true) : p.mn.1.1.length ≤ 8 ∧ k.g.1.length ≤ 8 ∧ k.r.length ≤ 8 ∧ k.name.length ≤ 60 := by
 simp only [jJ, Cn, decide_eq_true_eq, Bw, List.any_eq_false] at h
 obtain ⟨h1, h2, h3⟩ := h
 have m1 := h3 p.mn.1.1 (by simp [fL, gT, pk4])
 have m2 := h3 k.g.1 (by simp [fL])
 omega
abbrev sgP (p : PR) (k : IK) (q : CS) : Prop := jJ p k = true ∧ fl q ∧ zP p k q.sg q.ms
abbrev sgA (p : PR) (k : IK) (q : CS) : Prop := jJ p k = true ∧ fl q ∧ cb p k = 0 ∧ q.ms.length = k.r.length ∧ (aZ k.g = 0 ∧ elG k.g q.sg.a) ∧ okN q.sg.e ∧ okN q.sg.v
abbrev sgB (p : PR) (q : CS) : Prop := val p.lo ≤ val q.sg.e ∧ val q.sg.e < val p.lo + val p.sz ∧ val q.sg.v < val p.bl + val p.bl
abbrev nnZ (m : Bs) : Zs := (false, m)
abbrev bsG (k : IK) (a : Bs) (i : Nat) : List Bs := a :: k.s :: k.r.take i
abbrev zsG (e : Bs) (v : Zs) (ms : List Bs) (i : Nat) : List Zs := nnZ e :: v :: (ms.take i).map nnZ
theorem q9 {k : IK} {a : Bs} {i : Nat} (h : i < k.r.length) : bsG k a (i + 1) = bsG k a i ++ [rD k i] := by rw [bsG, aU h]; rfl
theorem pR {e : Bs} {v : Zs} {ms : List Bs} {i : Nat} (h : i < ms.length) : zsG e v ms (i + 1) = zsG e v ms i ++ [nnZ (ms.getD i default)] := by rw [zsG, aU h]; simp
theorem kh {k : IK} {a : Bs} {i : Nat} (h : i ≤ k.r.length) : (bsG k a i).length = 2 + i := by rw [As, As, Bo]; omega
theorem jZ {e : Bs} {v : Zs} {ms : List Bs} {i : Nat} (h : i ≤ ms.length) : (zsG e v ms i).length = 2 + i := by rw [As, As, Ag, Bo]; omega
theorem yr {p : PR} {k : IK} {q : CS} {ra ma da va za xa : Option Addr} {rc mc dc vc zc' xc : Nat} {w : World} {ok : Nat → Prop} (hF1 : (Fact.sl ra (an k.r)).holds ok w) (hF2 : (Fact.sl ma (an q.ms)).holds ok w) (hF3 : (Fact.sl da (fK q.d)).holds ok w) (hF4 : (Fact.sl va (an q.vs)).holds ok w) (hF5 : (Fact.sl za (aX q.ws)).holds ok w) (hF6 : (Fact.sl xa (an q.t.vals)).holds ok w) (hr : k.r.length ≤ 1048576) (hm : q.ms.length ≤ 1048576) (hd : q.d.length ≤ 1048576) (hv : q.vs.length ≤ 1048576) (hz : q.ws.length ≤ 1048576) (hx : q.t.vals.length ≤ 1048576) :
  Calls Tryz.prog 22 #[prV p, ikV k (.slice ra k.r.length rc), csV q (.slice ma q.ms.length mc) (.slice da q.d.length dc) (.slice va q.vs.length vc) (.slice za q.ws.length zc') (.slice xa q.t.vals.length xc)] w fun e w' => ∃ gx : Bool, e = .returned (.bool gx) ∧ (gx = true → sgP p k q) ∧ Below w.heap.size w w' ∧ ∀ x ∈ ([] : List Fact), x.holds (fun b => ok b ∨ w.heap.size ≤ b) w' := by
 refine enter (S := St (fun b => ok b ∨ w.heap.size ≤ b) w [] ([Fact.sl ra (an k.r), Fact.sl ma (an q.ms), Fact.sl da (fK q.d), Fact.sl va (an q.vs), Fact.sl za (aX q.ws), Fact.sl xa (an q.t.vals)])) (L := [(0, prV p), (1, ikV k (.slice ra k.r.length rc)), (2, csV q (.slice ma q.ms.length mc) (.slice da q.d.length dc) (.slice va q.vs.length vc) (.slice za q.ws.length zc') (.slice xa q.t.vals.length xc))]) Tryz.func22 rfl Tryz.ntmps22 rfl (Ac rfl (Ac rfl (Ac rfl (An _)))) (St.start (fun _ h => Or.inr h) (iN (Fc hF1 (Fc hF2 (Fc hF3 (Fc hF4 (Fc hF5 (Fc hF6 Fn)))))))) ?_
 refine Cs (Kh I (Oy I I) ?_)
 intro b3
 refine Kh I (Oy I I) ?_
 intro b4
 refine Kh I (Oy I I) ?_
 intro b5
 refine Ka I (Nt (Cq (WC.joinP (σ := Unit) [(3, _), (4, _), (5, _)] (fun gq => [(60, .bool (decide (¬ sgA p k q)))]) (fun gq => True) (S3 I I I) ?_ ?_)))
 ·skip
  refine Cg (Kq I (lda I I .tc u30 I ?_) ?_)
  ·kernel_rfl
  refine Kq I (lda I I .tc u33 I ?_) ?_
  ·kernel_rfl
  refine Kc I (fun w hS => xt (p := p) (k := k) (by (exact hS.sl)) (by assumption)) (Yt I (Km I (Nc 18 I (fun hg18 => ?_) (fun hg18 => ?_))))
  ·refine T2 I (Kt I (Yp I (Km I (T4 I (Yp I (Km I (T4 I (T2 I (Kt I (Yp I (Km I (T4 I (T2 I (Kt I (Yp I (Km I (T4 I (Kt I (Yp I (Km I (T4 I (Kt I (Yp I (Nn (WX.joinP (()) (S3 I I I) (by refine (Sc ?_ (S0 _)) <;> ((refine ai rfl ?_; (try dsimp only); (simp [*]; done)))) ?_ (fun _ h => h)))))))))))))))))))))))))); (try dsimp only); done
  ·refine Kq I (lda I I .tc u43 I ?_) ?_
   ·kernel_rfl
   refine Kc I (fun w hS => rC (q := q) (by (exact hS.sl)) (by (exact hS.sl)) (by (exact hS.sl)) (by (exact hS.sl)) (by (exact hS.sl)) (by assumption) (by assumption) (by assumption) (by assumption) (by assumption)) (Yt I (Yq I (Km I (Nc 23 I (fun hg23 => ?_) (fun hg23 => ?_)))))
   ·refine T4 I (Yp I (Km I (T4 I (T2 I (Kt I (Yp I (Km I (T4 I (T2 I (Kt I (Yp I (Km I (T4 I (Kt I (Yp I (Km I (T4 I (Kt I (Yp I (Nn (WX.joinP (()) (S3 I I I) (by refine (Sc ?_ (S0 _)) <;> ((refine ai rfl ?_; (try dsimp only); (simp [*]; done)))) ?_ (fun _ h => h)))))))))))))))))))))); (try dsimp only); done
   ·refine Kq I (lda I I .tc u30 I ?_) ?_
    ·kernel_rfl
    refine Kq I (lda I I .tc u33 I ?_) ?_
    ·kernel_rfl
    refine Kc I (fun w hS => rJ (p := p) (k := k) (by (exact hS.sl)) (by exact (fy hg18).1) (by exact (fy hg18).2.1) (by have := (fy hg18).2.2.1; omega) (by have := (fy hg18).2.2.2; omega)) (Yj I (Yq I (Km I (Nc 29 I (fun hg29 => ?_) (fun hg29 => ?_)))))
    ·refine T4 I (T2 I (Kt I (Yp I (Km I (T4 I (T2 I (Kt I (Yp I (Km I (T4 I (Kt I (Yp I (Km I (T4 I (Kt I (Yp I (Nn (WX.joinP (()) (S3 I I I) (by refine (Sc ?_ (S0 _)) <;> ((refine ai rfl ?_; (try dsimp only); (simp [*]; done)))) ?_ (fun _ h => h))))))))))))))))))); (try dsimp only); done
    ·refine Kf 6 I u43 I I I .tc u31 ?_; refine Yo I u31 (Kf 5 I u33 I I I .tc u31 ?_); refine Yo I u31 (Yj I (Yq I (Km I (Nc 38 I (fun hg38 => ?_) (fun hg38 => ?_)))))
     ·refine T4 I (T2 I (Kt I (Yp I (Km I (T4 I (Kt I (Yp I (Km I (T4 I (Kt I (Yp I (Nn (WX.joinP (()) (S3 I I I) (by refine (Sc ?_ (S0 _)) <;> ((exact congrArg (fun b => some (Value.bool b)) (by symm; apply Ap; omega)))) ?_ (fun _ h => h)))))))))))))); (try dsimp only); done
     ·refine Kq I (Fa (q := 1) I I u33 I I) (Kq I (ldp I I .tc u26 I (by kernel_rfl : _ = some 2) (by rfl) (by rfl)) ?_); refine Kq I (Fa (q := 0) I I u43 I I) (Kf 0 I u35 I I I .tc u22 ?_); refine Kc I (fun w hS => qm (g := k.g) (x := q.sg.a) (by exact (fy hg18).2.1)) (Yt I (Yq I (Km I (Nc 47 I (fun hg47 => ?_) (fun hg47 => ?_)))))
      ·refine T4 I (Kt I (Yp I (Km I (T4 I (Kt I (Yp I (Nn (WX.joinP (()) (S3 I I I) (by refine (Sc ?_ (S0 _)) <;> ((refine ai rfl ?_; (try dsimp only); (simp [*]; done)))) ?_ (fun _ h => h))))))))); (try dsimp only); done
      ·refine Kq I (Fa (q := 0) I I u43 I I) (Kf 1 I u35 I I I .tc u22 ?_); refine Kc I (fun w hS => ar (a := q.sg.e)) (Yt I (Yq I (Km I (Nc 54 I (fun hg54 => ?_) (fun hg54 => ?_)))))
       ·refine T4 I (Kt I (Yp I (Nn (WX.joinP (()) (S3 I I I) (by refine (Sc ?_ (S0 _)) <;> ((refine ai rfl ?_; (try dsimp only); (simp [*]; done)))) ?_ (fun _ h => h))))); (try dsimp only); done
       ·refine Kq I (Fa (q := 0) I I u43 I I) (Kf 2 I u35 I I I .tc u22 ?_); refine Kc I (fun w hS => ar (a := q.sg.v)) (Yt I (Yq I (Nn (WX.joinP (()) (S3 I I I) (by refine (Sc ?_ (S0 _)) <;> ((refine congrArg (fun b => some (Value.bool b)) ?_; simp [*]; omega))) ?_ (fun _ h => h))))); (try dsimp only); done
 ·rintro _ hmeet; (try dsimp only at hmeet ⊢)
  refine Ci I (fun hc60 => ?_) (fun hc60 => ?_)
  ·refine Cs (Ka I (Nt (Ce (Xb ?_)))); exact Rn I (.tmp I .nil) fun w' hS => ⟨false, rfl, fun h => (by cases h), hS.below, Fn⟩
  ·obtain ⟨hfw, hsm, h0, hlen, ⟨hg, hel⟩, hoe, hov⟩ := Al.1 hc60; obtain ⟨hm8, hk8, hk8', hk60⟩ := fy hfw; obtain ⟨hok, _, _⟩ := eD (co h0).1; have hlo : okN p.lo := hok.1 _ (by simp); have hsz : okN p.sz := hok.1 _ (by simp); have hbl : okN p.bl := hok.1 _ (by simp); refine Ck (Xa (Cq (WC.joinP (σ := Unit) [(3, _), (4, _), (5, _)] (fun gq => [(91, .bool (decide (¬ sgB p q)))]) (fun gq => True) (S3 I I I) ?_ ?_)))
   ·skip
    refine WC.free (K := [⟨some b5, csC q (.slice ma q.ms.length mc) (.slice da q.d.length dc) (.slice va q.vs.length vc) (.slice za q.ws.length zc') (.slice xa q.t.vals.length xc), 43⟩, ⟨some b3, prC p, 30⟩]) (fs0 := []) [0, 1, 2, 3, 4, 5, 6, 7, 11, 12, 13, 14, 15, 8, 9, 10, 16, 17, 18, 19, 23, 24, 25, 26, 27, 20, 21, 22, 28, 29, 30] [] [0, 0, 0, 0, 0, 1, 0, 0, 0, 0, 0, 0, 0, 0, 0, 1, 1, 0, 0, 0, 0, 0, 0, 0, 0, 0, 0, 1, 1, 0, 0] (by kernel_rfl) (by kernel_rfl) I ?_; refine Kj I (Fa (q := 0) I I u43 I I) (Kj I (Fa (q := 1) I I u35 I I) (Kj I (Ld I I .tc u22) ?_)); refine Kj I (Fa (q := 13) I I u30 I I) (Kj I (Ld I I .tc u22) ?_); refine Jv I I I I I (fun ext => Oc I I (Kv fun w hS => dF (a := q.sg.e) (b := p.lo) (by exact hoe.2) (by exact hlo.2) (by exact Br hoe.1 (by decide)))) ?_; refine Kj I (kQ I I I) ?_; refine WJ.set 67 I (v' := .bool (decide (val q.sg.e < val p.lo))) (congrArg Value.bool (by exact Af.2 (aw _ _))) ?_; refine Kj I (Rm I I) ?_; refine WJ.bool 68 I (fun hg68 => ?_) (fun hg68 => ?_)
    ·(try simp only [sB] at hg68); refine Js I I I I (Js I I I I (Js I I I I (Js I I I I (Js I I I I (Js I I I I (Js I I I I (Js I I I I (Js I I I I (Js I I I I (Kj I (Rp I I I) (Kj I (Rm I I) (Js I I I I (Js I I I I (Js I I I I (Js I I I I (Js I I I I (Js I I I I (Js I I I I (Js I I I I (Js I I I I (Js I I I I (Kj I (Rp I I I) ?_)))))))))))))))))))))); refine WJ.nil ?_; refine Nn (WX.joinP (()) (S3 I I I) (by refine (Sc ?_ (S0 _)) <;> ((refine ai rfl ?_; (try dsimp only); (simp [*]; done)))) ?_ (fun _ h => h)); (try dsimp only); done
    ·(try simp only [sB] at hg68); refine Kj I (Fa (q := 13) I I u30 I I) (Kj I (Ld I I .tc u22) ?_); refine Kj I (Fa (q := 14) I I u30 I I) (Kj I (Ld I I .tc u22) ?_); refine Jv I I I I I (fun ext => Oc I I (Kv fun w hS => k4 (a := p.lo) (b := p.sz) (by exact Br hlo.1 (by decide)) (by exact Br hsz.1 (by decide)))) ?_; refine Kj I (Fa (q := 0) I I u43 I I) (Kj I (Fa (q := 1) I I u35 I I) (Kj I (Ld I I .tc u22) ?_)); refine Jv I I I I I (fun ext => Oc I I (Kv fun w hS => dF (a := q.sg.e) (b := ae (val p.lo + val p.sz)) (by exact hoe.2) (by exact bp _) (by exact Br hoe.1 (by decide)))) ?_; refine Kj I (pp I I I) ?_; refine WJ.set 78 I (v' := .bool (decide (val p.lo + val p.sz ≤ val q.sg.e))) (congrArg Value.bool (by exact Af.2 (by rw [dI, af]))) ?_; refine Kj I (Rq I I I) (Kj I (Rm I I) ?_); refine WJ.bool 80 I (fun hg80 => ?_) (fun hg80 => ?_)
     ·(try simp only [sB] at hg80); refine Js I I I I (Js I I I I (Js I I I I (Js I I I I (Js I I I I (Js I I I I (Js I I I I (Js I I I I (Js I I I I (Js I I I I (Kj I (Rp I I I) ?_)))))))))); refine WJ.nil ?_; refine Nn (WX.joinP (()) (S3 I I I) (by refine (Sc ?_ (S0 _)) <;> ((refine ai rfl ?_; (try dsimp only); (simp [*]; done)))) ?_ (fun _ h => h)); (try dsimp only); done
     ·(try simp only [sB] at hg80); refine Kj I (Fa (q := 15) I I u30 I I) (Kj I (Ld I I .tc u22) ?_); refine Kj I (Fa (q := 15) I I u30 I I) (Kj I (Ld I I .tc u22) ?_); refine Jv I I I I I (fun ext => Oc I I (Kv fun w hS => k4 (a := p.bl) (b := p.bl) (by exact Br hbl.1 (by decide)) (by exact Br hbl.1 (by decide)))) ?_; refine Kj I (Fa (q := 0) I I u43 I I) (Kj I (Fa (q := 2) I I u35 I I) (Kj I (Ld I I .tc u22) ?_)); refine Jv I I I I I (fun ext => Oc I I (Kv fun w hS => dF (a := q.sg.v) (b := ae (val p.bl + val p.bl)) (by exact hov.2) (by exact bp _) (by exact Br hov.1 (by decide)))) ?_; refine Kj I (pp I I I) ?_; refine WJ.set 90 I (v' := .bool (decide (val p.bl + val p.bl ≤ val q.sg.v))) (congrArg Value.bool (by exact Af.2 (by rw [dI, af]))) ?_; refine Kj I (Rq I I I) ?_; refine WJ.nil ?_; refine Nn (WX.joinP (()) (S3 I I I) (by refine (Sc ?_ (S0 _)) <;> ((refine ai rfl ?_; (try dsimp only); (exact Af.2 (by omega))))) ?_ (fun _ h => h)); (try dsimp only); done
   ·rintro _ hmeet; (try dsimp only at hmeet ⊢); refine Ci I (fun hc91 => ?_) (fun hc91 => ?_)
    ·refine Cs (Ka I (Nt (Ce (Xb ?_)))); exact Rn I (.tmp I .nil) fun w' hS => ⟨false, rfl, fun h => (by cases h), hS.below, Fn⟩
    ·obtain ⟨hb1, hb2, hb3⟩ := Al.1 hc91; refine Ck (Xa (Cs (Kq I (Fa (q := 0) I I u43 I I) (Kf 0 I u35 I I I .tc u22 ?_)))); refine Kf 4 I u33 I I I .tc u22 ?_; refine Kh I (aN I I u31 (by kernel_rfl : _ = some (some (.string (S [])), 1, 16)) I (by simp only [List.map]; rfl) I I ?_ (by decide)) ?_
     ·simp [Value.cells]
     intro b97; refine Ka I (Nt (Cq (Cf [0, 1, 2, 3, 4, 5, 6, 7, 8, 9] [] [0, 0, 0, 1, 0, 0, 0, 1, 3, 0] (by kernel_rfl) (by kernel_rfl) I ?_))); refine Kj I (Fa (q := 0) I I u43 I I) (Kj I (Fa (q := 1) I I u35 I I) (Kj I (Ld I I .tc u22) ?_)); refine Jv I I I I I (fun ext => Oc I I (Kv fun w hS => kF (x := q.sg.e))) ?_; refine Kj I (Fa (q := 0) I I u43 I I) (Kj I (Fa (q := 2) I I u35 I I) (Kj I (Ld I I .tc u22) ?_)); refine Jv I I I I I (fun ext => Oc I I (Kv fun w hS => kF (x := q.sg.v))) ?_; refine Jf I I I I I (gj I I u39 (by kernel_rfl : _ = some (some (.agg #[.bool false, .string (S [])]), 2, 24)) (by kernel_rfl) (by decide) I I (by (simp [Value.cells]; done)) (by (simp only [List.map, Value.cells, Cz, Du, Bi, Dj]; rfl)) (by decide)) ?_; intro b106; refine Kj I (Ra I I) ?_; refine WJ.nil ?_; refine Nt (Cq (Cs (Kf 6 I u43 I I I .tc u31 ?_)))
     refine Yo I u31 (Km I (Nt (Cb (Lo (σ := Nat × (Option Nat) × Nat × (List Value) × (Option Nat) × Nat × (List Value)) [(3, _), (4, _), (108, _), (109, _)] (fun gq => [(110, .int .i64 (gq.1 : Int)), (7, .slice (gq.2.1.map fun b => ⟨b, 0, none⟩) (2 + gq.1) gq.2.2.1), (8, .slice (gq.2.2.2.2.1.map fun b => ⟨b, 0, none⟩) (2 + gq.1) gq.2.2.2.2.2.1)]) (fun gq => gq.1 ≤ q.ms.length ∧ gq.2.2.1 = 2 + gq.1 + gq.2.2.2.1.length ∧ gq.2.2.2.2.2.1 * 2 = (2 + gq.1) * 2 + gq.2.2.2.2.2.2.length ∧ ∀ j, j < gq.1 → okN (q.ms.getD j default) ∧ val (q.ms.getD j default) < val (lim p j)) (fun gq => q.ms.length - gq.1) (fun gq => [⟨gq.2.2.2.2.1, aX (zsG q.sg.e (nnZ q.sg.v) q.ms gq.1) ++ gq.2.2.2.2.2.2, 37⟩, ⟨gq.2.1, an (bsG k q.sg.a gq.1) ++ gq.2.2.2.1, 22⟩, ⟨some b5, csC q (.slice ma q.ms.length mc) (.slice da q.d.length dc) (.slice va q.vs.length vc) (.slice za q.ws.length zc') (.slice xa q.t.vals.length xc), 43⟩, ⟨some b4, ikC k (.slice ra k.r.length rc), 33⟩, ⟨some b3, prC p, 30⟩]) (fun gq => [Fact.sl ra (an k.r), Fact.sl ma (an q.ms), Fact.sl da (fK q.d), Fact.sl va (an q.vs), Fact.sl za (aX q.ws), Fact.sl xa (an q.t.vals)]) (0, some b97, 2, [], some b106, 2, []) (S4 I I I I) (S3 I I I) (by (try dsimp only); exact ⟨Ak _, rfl, rfl, fun _ h => absurd h (Nat.not_lt_zero _)⟩) (by exact fun w h => h) ?_)))); rintro ⟨i, o1, c1, p1, o2, c2, p2⟩ hinv1; (try dsimp only at hinv1 ⊢); obtain ⟨hi, hc1, hc2, hlt⟩ := hinv1
     refine Cs (Yl I (Nt (Cq (Ci I (fun hc111 => ?_) (fun hc111 => ?_)))))
     ·have hil : i < q.ms.length := by omega
      have hir : i < k.r.length := by omega
      obtain ⟨m, hm⟩ : ∃ m, Keep (m = q.ms.getD i default) := ⟨_, rfl⟩; have hbl2 : (an (bsG k q.sg.a i)).length = 2 + i := by rw [Ag]; exact kh (by omega)
      have hzl2 : (aX (zsG q.sg.e (nnZ q.sg.v) q.ms i)).length = (2 + i) * 2 := by rw [aj _ _ 2 (fun _ => rfl), jZ (by omega)]
      have hli := zb (co h0).1 i; refine Ck (Xa (Cq (Cb (Cs (Km I (Kq I (Ib I I I u31 (by omega) (by (rw [Ag]; omega))) ?_)))))); refine Kq I (ldm I I u22 I (by assumption)) ?_; refine Ns 114 I (v' := .string (S (m))) (congrArg (fun l => Value.string (S l)) (by rw [show m = _ from hm])) ?_; refine Ka I (Ka I (Nt (Cs (Kf 11 I u30 I I I .tc u22 ?_)))); refine Ka I (Nt (WC.joinP (σ := Bs) [(3, _), (4, _), (7, _), (8, _), (9, _), (10, _), (108, _), (109, _), (110, _)] (fun gq => [(11, .string (S gq))]) (fun gq => gq = lim p i) (S9 I I I I I I I I I) ?_ ?_))
      ·skip
       refine Cs (Km I (Yl I (Nt (Ci I (fun hc118 => ?_) (fun hc118 => ?_)))))
       ·refine Cg (Kf 10 I u30 I I I .tc u22 ?_); refine Kf 12 I u30 I I I .tc u22 ?_; refine Kh I (aN I I u31 (by kernel_rfl : _ = some (some (.string (S [])), 1, 16)) I (by simp only [List.map]; rfl) I I ?_ (by decide)) ?_
        ·simp [Value.cells]
        intro b123; refine Km I (Kq I (Ja I I I u31 (by kernel_rfl : _ = some 1) (by omega)) ?_); refine Kq I (ld I I .tc u22 I (show _ = some (Value.string (S (lim p i))) from by rcases (show i = 0 ∨ i = 1 by omega) with rfl | rfl <;> rfl)) ?_; refine Ka I (Nn (WX.joinP (lim p i) (S9 I I I I I I I I I) (by refine (Sc ?_ (S0 _)) <;> (rfl)) ?_ (by (exact av)))); (try dsimp only); done
       ·refine Ck (WX.joinP (p.attr) (S9 I I I I I I I I I) (by refine (Sc ?_ (S0 _)) <;> (rfl)) ?_ (fun _ h => h)); (try dsimp only); rw [lim, Aa (by omega), Aa (by omega)]
      ·rintro u hmeet; (try dsimp only at hmeet ⊢); refine Cq (WC.joinP (σ := Unit) [(3, _), (4, _), (7, _), (8, _), (9, _), (10, _), (108, _), (109, _), (110, _)] (fun gq => [(135, .bool (decide (¬ (okN m ∧ val m < val (lim p i)))))]) (fun gq => True) (S9 I I I I I I I I I) ?_ ?_)
       ·skip
        refine Cg (Km I (Kc I (fun w hS => ar (a := m)) (Yt I (Km I (Nc 130 I (fun hg130 => ?_) (fun hg130 => ?_))))))
        ·refine T4 I (Yp I (Nn (WX.joinP (()) (S9 I I I I I I I I I) (by refine (Sc ?_ (S0 _)) <;> ((refine ai rfl ?_; (try dsimp only); (simp [*]; done)))) ?_ (fun _ h => h)))); (try dsimp only); done
        ·refine Km I (Km I (Kc I (fun w hS => dF (a := m) (b := u) (by exact hg130.2) (by (rw [hmeet]; exact hli.1.2)) (by exact Br hg130.1 (by decide))) (Yh I (Ns 134 I (v' := .bool (decide (val (lim p i) ≤ val m))) (congrArg Value.bool (by exact Af.2 (by rw [hmeet]; exact dI _ _))) ?_)))); refine Yq I (Nn (WX.joinP (()) (S9 I I I I I I I I I) (by refine (Sc ?_ (S0 _)) <;> ((refine ai rfl ?_; (try dsimp only); (simp [*]; done)))) ?_ (fun _ h => h))); (try dsimp only); done
       ·rintro _ hmeet; (try dsimp only at hmeet ⊢); refine Ci I (fun hc135 => ?_) (fun hc135 => ?_)
        ·refine Cs (Ka I (Nt (Ce (Xb (Xf (Xb (Xb (Xf (Xb ?_))))))))); exact Rn I (.tmp I .nil) fun w' hS => ⟨false, rfl, fun h => (by cases h), hS.below, Fn⟩
        ·refine Ck (Xa (Cg (Km I (Kf 5 I u33 I I I .tc u31 ?_)))); refine Km I (Kq I (Ib I I I u31 (by omega) (by (rw [Ag]; omega))) ?_); refine Kq I (ldm I I u22 I (by assumption)) ?_; refine Kh I (aN I I u31 (by kernel_rfl : _ = some (some (.string (S [])), 1, 16)) I (by simp only [List.map]; rfl) I I ?_ (by decide)) ?_
         ·simp [Value.cells]
         intro b142; refine Kh I (oU I u31 (by kernel_rfl : _ = some (some (.string (S [])), 1, 16)) I .tc I I (fun w hS => by (exact hS.os)) (by rfl) (by (refine ⟨hbl2, by omega, by omega, by omega⟩)) (by (simp [Value.oneCell']; done))) ?_; rintro ⟨o143, c143, s143⟩; refine WL.pu ?_; intro hg143; (try dsimp only at hg143 ⊢); refine Km I (Km I (Kc I (fun w hS => kF) (Kh I (f4 I I u39 (by kernel_rfl : _ = some (some (.agg #[.bool false, .string (S [])]), 2, 24)) (by kernel_rfl) (by decide) I I (by (simp [Value.cells]; done)) (by (exact cq _)) (by decide)) ?_))); intro b147; refine Kh I (ri I u39 (by kernel_rfl : _ = some (some (.agg #[.bool false, .string (S [])]), 2, 24)) (by kernel_rfl) (by decide) .tc I I (fun w hS => by (exact hS.os)) (by rfl) (by (refine ⟨hzl2, by omega, by omega, by omega⟩)) (by (simp [Value.oneCell']; done))) ?_; rintro ⟨o148, c148, s148⟩; refine WL.pu ?_; intro hg148; (try dsimp only at hg148 ⊢); refine Ka I (Ka I (Nn (Xd (Xa (Cg (Kq I (Rz I I I (by omega)) (Km I (Nn (Lx ((i + 1, o143, c143, s143, o148, c148, s148)) (by (try dsimp only); omega) (S4 I I I I) (by refine (Sc ?_ (Sc ?_ (Sc ?_ (S0 _)))) <;> (rfl)) ?_ (by exact fun w h => by dsimp only; rw [q9 hir, pR hil, jc, jr, ← show m = _ from hm]; exact av _ h)))))))))); (try dsimp only)
         exact ⟨hil, by omega, by omega, fun j hj => by
           rcases Di.1 hj with h | h
           ·exact hlt j h
           ·subst h; rw [← show m = _ from hm]; exact Al.1 hc135⟩
     ·refine Cx (Xc (Xc (Xe ?_))); obtain rfl : i = q.ms.length := by omega
      have hbl1 := kh (k := k) (a := q.sg.a) (i := q.ms.length) (by omega); have hzl1 := jZ (e := q.sg.e) (v := nnZ q.sg.v) (ms := q.ms) (i := q.ms.length) (Bg _); have hbE : bsG k q.sg.a q.ms.length = q.sg.a :: k.s :: k.r := by rw [bsG, A6 (by omega)]
      have hzE : zsG q.sg.e (nnZ q.sg.v) q.ms q.ms.length = (false, q.sg.e) :: (false, q.sg.v) :: q.ms.map fun m => (false, m) := by rw [zsG, Ao]
      refine WC.set 7 I (v' := .slice (o1.map fun b => ⟨b, 0, none⟩) (bsG k q.sg.a q.ms.length).length c1) (by rw [hbl1]) ?_; refine WC.set 8 I (v' := .slice (o2.map fun b => ⟨b, 0, none⟩) (zsG q.sg.e (nnZ q.sg.v) q.ms q.ms.length).length c2) (by rw [hzl1]) ?_; refine Xa (Cs (Kq I (Fa (q := 1) I I u33 I I) (Kq I (ldp I I .tc u26 I (by kernel_rfl : _ = some 2) (by rfl) (by rfl)) ?_))); refine Km I (Km I (Kc I (fun w hS => kE (w := w) (g := k.g) (l := bsG k q.sg.a q.ms.length) (es := zsG q.sg.e (nnZ q.sg.v) q.ms q.ms.length) (a := o1.map fun b => ⟨b, 0, none⟩) (b := o2.map fun b => ⟨b, 0, none⟩) (c := c1) (d := c2) hS.oc hS.oc (by omega) (by omega) hk8) ?_)); obtain ⟨P, hP⟩ : ∃ P, Keep (P = (bC k.g (bsG k q.sg.a q.ms.length) (zsG q.sg.e (nnZ q.sg.v) q.ms q.ms.length))) := ⟨_, rfl⟩; rw [← show P = _ from hP]; refine Km I (Ye I (Ye I (Ka I (Ka I (Nt (WC.joinP (σ := Unit) [] (fun gq => [(6, .bool (decide (P.2 = 0 ∧ P.1 = k.z)))]) (fun gq => True) (S0 _) ?_ ?_))))))
      ·skip
       refine Cg (Km I (Yi I (Km I (Nc 160 I (fun hg160 => ?_) (fun hg160 => ?_)))))
       ·refine Km I (Kf 3 I u33 I I I .tc u22 ?_); refine Ys I (Yp I (Ka I (Nn (WX.joinP (()) (S0 _) (by refine (Sc ?_ (S0 _)) <;> ((refine ai rfl ?_; (try dsimp only); (simp [*]; done)))) ?_ (fun _ h => h))))); (try dsimp only); done
       ·refine T4 I (Yq I (Ka I (Nn (WX.joinP (()) (S0 _) (by refine (Sc ?_ (S0 _)) <;> ((refine ai rfl ?_; (try dsimp only); (simp [*]; done)))) ?_ (fun _ h => h))))); (try dsimp only); done
      ·rintro _ hmeet; (try dsimp only at hmeet ⊢); refine Ce ?_; exact Rn I (.tmp I .nil) fun w' hS => ⟨_, rfl, fun h => ⟨hfw, hsm, h0, hlen, hel, hoe, hov, hb1, hb2, hb3, hlt, (by have h2 := of_decide_eq_true h; rw [show P = _ from hP, hbE, hzE] at h2; exact Prod.ext h2.2 h2.1)⟩, hS.below, Fn⟩
theorem wt {p : PR} {k : IK} {s : SG} {t : Tp} (h : (ce p k s t).2 ≠ 0) : (ce p k s t).1.1 = [] := by
 unfold ce at h ⊢
 split
 ·rfl
 ·rename_i h1; rw [Aa h1] at h
  split
  ·rfl
  ·rename_i h2; rw [Aa h2] at h; split
   ·rfl
   ·rename_i h3; rw [Aa h3] at h; split
    ·rfl
    ·rename_i h4; rw [Aa h4] at h; split
     ·rfl
     ·rename_i h5; rw [Aa h5] at h; exact absurd rfl h
theorem shsgn_l {p : PR} {k : IK} {q : CS} {ra ma da va za xa : Option Addr} {rc mc dc vc zc' xc : Nat} {w : World} {ok : Nat → Prop} (hF1 : (Fact.sl ra (an k.r)).holds ok w) (hF2 : (Fact.sl ma (an q.ms)).holds ok w) (hF3 : (Fact.sl da (fK q.d)).holds ok w) (hF4 : (Fact.sl va (an q.vs)).holds ok w) (hF5 : (Fact.sl za (aX q.ws)).holds ok w) (hF6 : (Fact.sl xa (an q.t.vals)).holds ok w) (hr : k.r.length ≤ 1048576) (hm : q.ms.length ≤ 1048576) (hd : q.d.length ≤ 1048576) (hv : q.vs.length ≤ 1048576) (hz : q.ws.length ≤ 1048576) (hx : q.t.vals.length ≤ 1048576) (hT : Tab w) (hD : TabD w) :
  Cw 6 #[prV p, ikV k (.slice ra k.r.length rc), csV q (.slice ma q.ms.length mc) (.slice da q.d.length dc) (.slice va q.vs.length vc) (.slice za q.ws.length zc') (.slice xa q.t.vals.length xc)] w (.bool true) := by
 refine En [Fact.sl ra (an k.r), Fact.sl ma (an q.ms), Fact.sl da (fK q.d), Fact.sl va (an q.vs), Fact.sl za (aX q.ws), Fact.sl xa (an q.t.vals)] [(0, prV p), (1, ikV k (.slice ra k.r.length rc)), (2, csV q (.slice ma q.ms.length mc) (.slice da q.d.length dc) (.slice va q.vs.length vc) (.slice za q.ws.length zc') (.slice xa q.t.vals.length xc))] Tryz.func6 I Tryz.ntmps6 I (Ac I (Ac I (Ac I (An _)))) (Fc (ah hF1) (Fc (ah hF2) (Fc (ah hF3) (Fc (ah hF4) (Fc (ah hF5) (Fc (ah hF6) Fn)))))) (Cs (Kh I (Oy I I) ?_))
 intro b3
 refine Kh I (Oy I I) ?_
 intro b4
 refine Kh I (Oy I I) ?_
 intro b5
 refine Ka I (Nt (Cq (Cs (Kq I (lda I I .tc u30 I ?_) ?_))))
 ·kernel_rfl
 refine Kq I (lda I I .tc u33 I ?_) ?_
 ·kernel_rfl
 refine Kq I (lda I I .tc u43 I ?_) ?_
 ·kernel_rfl
 refine Kh I (Oc I I (iK fun w hS => yr (p := p) (k := k) (q := q) (by (exact hS.slo)) (by (exact hS.slo)) (by (exact hS.slo)) (by (exact hS.slo)) (by (exact hS.slo)) (by (exact hS.slo)) (by assumption) (by assumption) (by assumption) (by assumption) (by assumption) (by assumption))) ?_
 rintro bb
 refine WL.pu ?_
 intro hg20; (try dsimp only [List.cons_append, List.nil_append] at hg20 ⊢)
 refine Yt I (Nt (Ci I (fun hc21 => ?_) (fun hc21 => ?_)))
 ·refine Cs (Kc I (fun w hS => jC (by (exact dZ hT hS)) (by (exact bi hD hS))) (Ka I (Nt (Ce (Xb ?_)))))
  exact R1 I I (by rfl)
 ·obtain ⟨hfw, hsm, hsg⟩ := hg20 (by simpa using hc21)
  obtain ⟨hm8, hk8, hk8', hk60⟩ := fy hfw
  have hlen := hsg.2.1
  have hxs := hsm.2.2.2.2.1
  have hse := hsm.2.2.2.2.2.1
  refine Ck (Xa (Cs (Kq I (lda I I .tc u30 I ?_) ?_)))
  ·kernel_rfl
  refine Kq I (lda I I .tc u33 I ?_) ?_
  ·kernel_rfl
  refine Kq I (Fa (q := 0) I I u43 I I) (Kq I (ldp I I .tc u35 I (by kernel_rfl : _ = some 3) (by rfl) (by rfl)) ?_)
  refine Kq I (Fa (q := 10) I I u43 I I) (Kq I (ldp I I .tc u41 I (by kernel_rfl : _ = some 3) (by rfl) (by rfl)) ?_)
  refine Kh I (Oc I I (ft fun w hS => p7 (p := p) (k := k) (s := q.sg) (t := q.t) (by (exact hS.sl)) (by (exact hS.sl)) (by assumption) (by assumption) (by omega) (by omega) (by omega) (by omega) (by (exact dZ hT hS)) (by (exact bi hD hS)))) ?_
  intro g30
  refine WL.pu ?_
  intro hg30; (try dsimp only at hg30 ⊢)
  refine Km I (Ye I (Ye I (Ye I (Ye I (Kh I (Oz [.bool false, .string (S [])] I) ?_)))))
  intro b8
  refine Kh I (Oz [.slice none 0 0, .string (S []), .int .i64 0] I) ?_
  intro b9
  refine Ka I (Nu I I (Sa I I I .tc) (Nu I I (Sa I I I .tc) (Ka I (Nt (Cq (Cs (Km I (Yj I (Nt (Ci I (fun hc36 => ?_) (fun hc36 => ?_)))))))))))
  ·have hA := wt (p := p) (k := k) (s := q.sg) (t := q.t) (by simpa using hc36); refine Cs (Km I (Ys I (Km I (Ns 39 I (v' := .bool true) (by (exact congrArg Value.bool (by simp [*]; done))) ?_)))); refine Kc I (fun w hS => jC (by (exact dZ hT hS)) (by (exact bi hD hS))) (Yp I (Ka I (Nt (Ce (Xb ?_))))); exact R1 I I (by rfl)
  ·obtain ⟨hX, hvz, hpr⟩ := tA (t := q.t) hsg (by simpa using hc36); obtain ⟨A, hA⟩ : ∃ A, Keep (A = (ce p k q.sg q.t).1.1) := ⟨_, rfl⟩; obtain ⟨V, hV⟩ : ∃ V, Keep (V = (ce p k q.sg q.t).1.2.1) := ⟨_, rfl⟩; rw [← show A = _ from hA, ← show V = _ from hV] at hpr; rw [← show V = _ from hV] at hvz; rw [← show A = _ from hA, ← show V = _ from hV]; refine Ck (Xa (Cq (WC.free (K := [⟨some b8, [.bool V.1, .string (S V.2)], 37⟩, ⟨some b5, csC q (.slice ma q.ms.length mc) (.slice da q.d.length dc) (.slice va q.vs.length vc) (.slice za q.ws.length zc') (.slice xa q.t.vals.length xc), 43⟩, ⟨some b4, ikC k (.slice ra k.r.length rc), 33⟩]) (fs0 := []) [4, 5, 6, 7, 0, 1, 2, 3, 8, 9, 10, 11] [] [0, 0, 0, 3, 0, 0, 0, 1, 0, 3, 0, 0] (by kernel_rfl) (by kernel_rfl) I ?_))); refine Kj I (Fa (q := 0) I I u43 I I) (Kj I (Fa (q := 1) I I u35 I I) (Kj I (Ld I I .tc u22) ?_)); refine Jv I I I I I (fun ext => Oc I I (Kv fun w hS => kF (x := q.sg.e))) ?_; refine Kj I (Rm I I) (Kj I (Fa (q := 4) I I u33 I I) (Kj I (Ld I I .tc u22) ?_)); refine Jf I I I I I (hI I I u31 (by kernel_rfl : _ = some (some (.string (S [])), 1, 16)) I (by simp only [List.map]; rfl) I I ?_ (by decide)) ?_
   ·simp [Value.cells]
   intro b45; refine Kj I (lda I I .tc u37 I ?_) ?_
   ·kernel_rfl
   refine Jf I I I I I (gj I I u39 (by kernel_rfl : _ = some (some (.agg #[.bool false, .string (S [])]), 2, 24)) (by kernel_rfl) (by decide) I I (by (simp [Value.cells]; done)) (by (simp only [List.map, Value.cells, Cz, Du, Bi, Dj]; rfl)) (by decide)) ?_; intro b51; refine Kj I (Ra I I) (Kj I (Ra I I) ?_); refine WJ.nil ?_; refine Nt (Cq (Cs (Kf 6 I u43 I I I .tc u31 ?_)))
   refine Yo I u31 (Km I (Nt (Cb (Lo (σ := Nat × (Option Nat) × Nat × (List Value) × (Option Nat) × Nat × (List Value)) [(4, _), (8, _), (53, _), (54, _)] (fun gq => [(55, .int .i64 (gq.1 : Int)), (11, .slice (gq.2.1.map fun b => ⟨b, 0, none⟩) (2 + gq.1) gq.2.2.1), (12, .slice (gq.2.2.2.2.1.map fun b => ⟨b, 0, none⟩) (2 + gq.1) gq.2.2.2.2.2.1)]) (fun gq => gq.1 ≤ q.ms.length ∧ gq.2.2.1 = 2 + gq.1 + gq.2.2.2.1.length ∧ gq.2.2.2.2.2.1 * 2 = (2 + gq.1) * 2 + gq.2.2.2.2.2.2.length) (fun gq => q.ms.length - gq.1) (fun gq => [⟨gq.2.2.2.2.1, aX (zsG q.sg.e V q.ms gq.1) ++ gq.2.2.2.2.2.2, 37⟩, ⟨gq.2.1, an (bsG k A gq.1) ++ gq.2.2.2.1, 22⟩, ⟨some b8, [.bool V.1, .string (S V.2)], 37⟩, ⟨some b5, csC q (.slice ma q.ms.length mc) (.slice da q.d.length dc) (.slice va q.vs.length vc) (.slice za q.ws.length zc') (.slice xa q.t.vals.length xc), 43⟩, ⟨some b4, ikC k (.slice ra k.r.length rc), 33⟩]) (fun gq => [Fact.sl ra (an k.r), Fact.sl ma (an q.ms)]) (0, some b45, 2, [], some b51, 2, []) (S4 I I I I) (S3 I I I) (by (try dsimp only); exact ⟨Ak _, rfl, rfl⟩) (by exact fun w h => by show St _ _ [⟨some b51, [.bool false, .string (S q.sg.e)] ++ [.bool V.1, .string (S V.2)], _⟩, ⟨some b45, [.string (S A), .string (S k.s)], _⟩, ⟨some b8, _, _⟩, ⟨some b5, _, _⟩, ⟨some b4, _, _⟩] _ _; exact av _ h) ?_)))); rintro ⟨i, o1, c1, p1, o2, c2, p2⟩ hinv1; (try dsimp only at hinv1 ⊢); obtain ⟨hi, hc1, hc2⟩ := hinv1
   refine Cs (Yl I (Nt (Cq (Ci I (fun hc56 => ?_) (fun hc56 => ?_)))))
   ·have hil : i < q.ms.length := by omega
    have hir : i < k.r.length := by omega
    obtain ⟨m, hm⟩ : ∃ m, Keep (m = q.ms.getD i default) := ⟨_, rfl⟩; have hbl2 : (an (bsG k A i)).length = 2 + i := by rw [Ag]; exact kh (by omega)
    have hzl2 : (aX (zsG q.sg.e V q.ms i)).length = (2 + i) * 2 := by rw [aj _ _ 2 (fun _ => rfl), jZ (by omega)]
    refine Ck (Xa (Cq (Cb (Cs (Km I (Kq I (Ib I I I u31 (by omega) (by (rw [Ag]; omega))) ?_)))))); refine Kq I (ldm I I u22 I (by assumption)) ?_; refine Ns 59 I (v' := .string (S (m))) (congrArg (fun l => Value.string (S l)) (by rw [show m = _ from hm])) ?_; refine Ka I (Ka I (Nt (Cg (Km I (Kf 5 I u33 I I I .tc u31 ?_))))); refine Km I (Kq I (Ib I I I u31 (by omega) (by (rw [Ag]; omega))) ?_); refine Kq I (ldm I I u22 I (by assumption)) ?_; refine Kh I (aN I I u31 (by kernel_rfl : _ = some (some (.string (S [])), 1, 16)) I (by simp only [List.map]; rfl) I I ?_ (by decide)) ?_
    ·simp [Value.cells]
    intro b66; refine Kh I (oU I u31 (by kernel_rfl : _ = some (some (.string (S [])), 1, 16)) I .tc I I (fun w hS => by (exact hS.os)) (by rfl) (by (refine ⟨hbl2, by omega, by omega, by omega⟩)) (by (simp [Value.oneCell']; done))) ?_; rintro ⟨o67, c67, s67⟩; refine WL.pu ?_; intro hg67; (try dsimp only at hg67 ⊢); refine Km I (Km I (Kc I (fun w hS => kF) (Kh I (f4 I I u39 (by kernel_rfl : _ = some (some (.agg #[.bool false, .string (S [])]), 2, 24)) (by kernel_rfl) (by decide) I I (by (simp [Value.cells]; done)) (by (exact cq _)) (by decide)) ?_))); intro b71; refine Kh I (ri I u39 (by kernel_rfl : _ = some (some (.agg #[.bool false, .string (S [])]), 2, 24)) (by kernel_rfl) (by decide) .tc I I (fun w hS => by (exact hS.os)) (by rfl) (by (refine ⟨hzl2, by omega, by omega, by omega⟩)) (by (simp [Value.oneCell']; done))) ?_; rintro ⟨o72, c72, s72⟩; refine WL.pu ?_; intro hg72; (try dsimp only at hg72 ⊢); refine Ka I (Ka I (Nn (Xd (Xa (Cg (Kq I (Rz I I I (by omega)) (Km I (Nn (Lx ((i + 1, o67, c67, s67, o72, c72, s72)) (by (try dsimp only); omega) (S4 I I I I) (by refine (Sc ?_ (Sc ?_ (Sc ?_ (S0 _)))) <;> (rfl)) ?_ (by exact fun w h => by dsimp only; rw [q9 hir, pR hil, jc, jr, ← show m = _ from hm]; exact av _ h)))))))))); (try dsimp only); exact ⟨hil, by omega, by omega⟩
   ·refine Cx (Xc (Xc (Xe ?_))); obtain rfl : i = q.ms.length := by omega
    have hbl1 := kh (k := k) (a := A) (i := q.ms.length) (by omega); have hzl1 := jZ (e := q.sg.e) (v := V) (ms := q.ms) (i := q.ms.length) (Bg _); have hbE : bsG k A q.ms.length = A :: k.s :: k.r := by rw [bsG, A6 (by omega)]
    have hzE : zsG q.sg.e V q.ms q.ms.length = (false, q.sg.e) :: V :: q.ms.map fun m => (false, m) := by rw [zsG, Ao]
    rw [← hbE, ← hzE] at hpr; refine WC.set 11 I (v' := .slice (o1.map fun b => ⟨b, 0, none⟩) (bsG k A q.ms.length).length c1) (by rw [hbl1]) ?_; refine WC.set 12 I (v' := .slice (o2.map fun b => ⟨b, 0, none⟩) (zsG q.sg.e V q.ms q.ms.length).length c2) (by rw [hzl1]) ?_; refine Xa (Cs (Kq I (Fa (q := 1) I I u33 I I) (Kq I (ldp I I .tc u26 I (by kernel_rfl : _ = some 2) (by rfl) (by rfl)) ?_))); refine Km I (Km I (Kc I (fun w hS => (by have := kE (w := w) (g := k.g) (l := bsG k A q.ms.length) (es := zsG q.sg.e V q.ms q.ms.length) (a := o1.map fun b => ⟨b, 0, none⟩) (b := o2.map fun b => ⟨b, 0, none⟩) (c := c1) (d := c2) hS.oc hS.oc (by omega) (by omega) hk8; rw [hpr] at this; exact this)) (Km I (Ye I (Ye I (Ka I (Ka I (Nt (Cs (Km I (Yi I (Km I (Ns 84 I (v' := .bool true) (by rfl) ?_))))))))))))); refine Km I (Kf 3 I u33 I I I .tc u22 ?_); refine Ys I (Yp I (Km I (Ns 90 I (v' := .bool true) (by (exact congrArg Value.bool (by simp [*]; done))) ?_))); refine Kq I (lda I I .tc u37 I ?_) ?_
    ·kernel_rfl
    refine Kc I (fun w hS => bo (x := V)) (Yp I (Km I (Ns 94 I (v' := .bool true) (by (exact congrArg Value.bool (by simp [*]; done))) ?_))); refine Kc I (fun w hS => jC (by (exact dZ hT hS)) (by (exact bi hD hS))) (Yp I (Ka I (Nt (Ce ?_)))); exact R1 I I (by rfl)
theorem laidVars_tail {P : Program} {w : World} {x : String × DataW Unit} {r : List (String × DataW Unit)} {ps : List MemPlace} (h : DataW.LaidVars P w (x :: r) ps) : ∃ q, DataW.LaidVars P w r q := by
 obtain ⟨n, d⟩ := x
 obtain ⟨g, t, cs, fuel, p, q, _, _, _, _, h, _⟩ := h
 exact ⟨q, h⟩
theorem tab_of_vars {P : Program} {W : World} {name : String} {k : IntKind} {zs : List Int} {rest : List (String × DataW Unit)} {ps : List MemPlace} {t e : TypeId} {n : Nat}
  (hty : ((P.globalNamed name).bind fun g => (P.globals[g]?).map (·.type)) = some t) (ht : P.underlying t = some (.array n e)) (he : P.underlying e = some (.int k)) (hce : P.cellsOf e = 1) (hct : P.cellsOf t = n)
  (h : DataW.LaidVars P W ((name, Lib.tabData k zs) :: rest) ps) : Lib.TabIs P W name k zs := by
 obtain ⟨g', t', cs, fuel, p, q, hg', ht', hvar, hd, _, _⟩ := h
 rw [hg', Option.bind_some] at hty
 obtain rfl := Option.some.inj (hty.symm.trans ht')
 unfold Lib.TabIs
 rw [hvar, ← Lib.cells_of_tab ht he hce hct hd]
theorem wf_u8 {n : Int} (h : (Lit.int .u8 n).wf = true) : 0 ≤ n ∧ n ≤ 255 := by
 have e1 : IntKind.u8.min = 0 := by decide
 have e2 : IntKind.u8.max = 255 := by decide
 simp [Lit.wf, e1, e2] at h; omega
theorem wf_i64 {n : Int} (h : (Lit.int .i64 n).wf = true) : -9223372036854775808 ≤ n ∧ n ≤ 9223372036854775807 := by
 have e1 : IntKind.i64.min = -9223372036854775808 := by decide
 have e2 : IntKind.i64.max = 9223372036854775807 := by decide
 simp [Lit.wf, e1, e2] at h; omega
theorem tabd_of_is {W : World} (h : Lib.TabIs Tryz.prog W "math/bits.deBruijn64tab" .u8 (Lib.deBruijn64tab.map fun n : Nat => (n : Int))) : TabD W := by
 intro j hj
 have h1 : W.var? Tryz.prog "math/bits.deBruijn64tab" = some ((Lib.deBruijn64tab.map fun n : Nat => (n : Int)).map fun z => Value.int .u8 z).toArray := h
 have hg : Tryz.prog.globalNamed "math/bits.deBruijn64tab" = some (renTz.g 1) := by kernel_rfl
 unfold World.var? at h1
 rw [hg, Option.bind_some] at h1
 unfold World.cell?
 show (match W.heap[renTz.g 1]? with | some (.cells c _ _) => if (none : Option _).isSome = true then none else c[j]? | _ => none) = _
 cases hh : W.heap[renTz.g 1]? with
 | none => rw [hh] at h1; cases h1
 | some o =>
  rw [hh] at h1
  cases o with
  | cells c t k =>
   simp only [Option.some.injEq] at h1; subst h1; rw [List.map_map]; simp only [Option.isSome_none, Db, if_false, Dd, Bc]; rw [List.getD_eq_getElem?_getD, Ad hj]; rfl
  | _ => cases h1
end Go.Proofs.YtkdlonihbjhhoaaGreatDoor
namespace Go.Proofs.YtkdlonihbjhhoaaGreatDoor
set_option linter.unusedSimpArgs false
set_option linter.unusedVariables false
open Go.ChangeShapes Go.WideShapes Go.ChangeAt Go.RowKit
theorem vi {H : Type} (d : DataW H) : 1 ≤ Rows.uptoBulk d := by
 cases d with
 | lit l => cases l <;> simp [Rows.uptoBulk]
 | _ => simp [Rows.uptoBulk]
theorem gP {H : Type} {d : DataW H} : ∀ {l : List (DataW H)}, d ∈ l → Rows.uptoBulk d ≤ Rows.uptoBulkAll l
 | [], h => by cases h
 | x :: l, h => by
  simp only [Rows.uptoBulkAll]
  rcases A3.1 h with rfl | h
  ·omega
  ·have := gP h; omega
theorem oQ {H : Type} : ∀ l : List (DataW H), l.length ≤ Rows.uptoBulkAll l
 | [] => by simp [Rows.uptoBulkAll]
 | x :: l => by have := vi x; have := oQ l; simp only [Rows.uptoBulkAll, As]; omega
def Wu {H : Type} (P : Program) (t : TypeId) (d : DataW H) : Prop := Wt P t d ∧ Rows.uptoBulk d ≤ 1048576
theorem wu_all {H : Type} {P : Program} {t : TypeId} {d : DataW H} {l : List (DataW H)} (h : Wt P t d) (hd : d ∈ l) (hb : Rows.uptoSmall H l = true) : Wu P t d := ⟨h, by
 have h1 := gP hd
 have h2 : Rows.uptoBulkAll l ≤ 1048576 := of_decide_eq_true hb
 omega⟩
section
variable {H : Type} {enc : TypeId × Value → H} {P : Program} {w : World} {spare : Nat → Bool} {held : Bool} {fuel : Nat} {t e : TypeId} {cs : List Value} {x : DataW H × List MemPlace}
theorem opu_str (ht : P.underlying t = some .string) (h : DataW.trod enc P w 0 spare held fuel t cs = some x) (hz : Wu P t x.1) : ∃ s : List UInt8, cs = [.string (S s)] ∧ s.length ≤ 140737488351232 := w3 ht h hz.1
theorem opu_struct {fs : Array Field} (ht : P.underlying t = some (.struct fs)) (h : DataW.trod enc P w 0 spare held fuel t cs = some x) (hz : Wu P t x.1) :
  cs.length = P.cellsOf t ∧ ∃ m, ∀ (j : Nat) f, fs.toList[j]? = some f → ∃ y, DataW.trod enc P w 0 spare held m f.type ((cs.drop f.offset).take (P.cellsOf f.type)) = some y ∧ Wu P f.type y.1 := by
 cases fuel with
 | zero => simp [DataW.trod] at h
 | succ n =>
  simp only [DataW.trod, ht] at h
  split at h
  ·rename_i hl; refine ⟨hl, n, fun j f hf => ?_⟩; obtain ⟨xs, hxs, rfl⟩ := D8.1 h; obtain ⟨z, h1, h2⟩ := lc hxs j f hf; refine ⟨z, h1, fun n hn => hz.1 n ?_, ?_⟩
   ·simp only [DataW.weights, ht]; exact DataW.weights_mem_each (j := j) (by rw [Bc, hf]; rfl) (by rw [Bc, h2]; rfl) n hn
   ·have hb := hz.2; simp only [Rows.uptoBulk] at hb; have := gP (d := z.1) (l := xs.map (·.1)) (Cy.2 ⟨z, A7 h2, rfl⟩); omega
  ·cases h
theorem opu_slice {α : Type} [Inhabited α] {cells : α → List Value} {F : α → Prop} (sz bz : Nat) (hbz : P.bytesOf e = bz) (ht : P.underlying t = some (.slice e)) (hc : P.cellsOf e = sz) (hsz : ∀ a, (cells a).length = sz)
  (hel : ∀ m cs (y : DataW H × List MemPlace), DataW.trod enc P w 0 (fun _ => true) held m e cs = some y → Wu P e y.1 → ∃ a : α, cs = cells a ∧ F a) (h : DataW.trod enc P w 0 (fun _ => true) held fuel t cs = some x) (hz : Wu P t x.1) :
  ∃ s : Sl α, cs = [s.val] ∧ s.l.length ≤ s.cap ∧ s.cap * bz ≤ 140737488351232 ∧ s.l.length ≤ 1048576 ∧ (Fact.sl s.a (s.l.flatMap cells)).holds (fun _ => True) w ∧ ∀ y ∈ s.l, F y := by
 cases fuel with
 | zero => simp [DataW.trod] at h
 | succ n =>
  simp only [DataW.trod, ht] at h
  split at h
  all_goals (try (rename_i hq; cases hq; done))
  all_goals (try (cases h; done))
  all_goals (try (rename_i hq _; cases hq; done))
  ·exact ⟨⟨none, [], 0⟩, rfl, Bg _, by simp, Ak _, .inl rfl, by simp⟩
  ·rename_i e' a len cap he
   cases he; split at h <;> try cases h
   rename_i hb; obtain ⟨elems, hm, h'⟩ := Option.bind_eq_some_iff.1 h; simp only [if_true] at h'; obtain ⟨rest, hr, rfl⟩ := D8.1 h'; have hzl : ∀ n ∈ (DataW.slice (elems.map (·.1)) (rest.map (·.1))).weights P t, n ≤ 140737488351232 := hz.1; have hbk := hz.2; simp only [Rows.uptoBulk] at hbk; have hln := oQ (elems.map (·.1)); have hml := iJ hm; simp only [Ag, List.length_range] at hln hml; simp only [DataW.weights, ht] at hzl
   have hcb : cap * bz ≤ 140737488351232 := by
    have h1 := hzl _ (List.mem_cons_self); have h2 := iJ hm; have h3 := iJ hr; simp only [Ag, List.length_range] at h1 h2 h3; rw [hbz, h2, h3, show len + (cap - len) = cap by omega] at h1; exact h1
   have hall : ∀ i, i < len → ∃ ys : List Value, w.cells? 0 (a.add (i * sz)) sz = some ys ∧ ∃ q : α, ys = cells q ∧ F q := fun i hi => by
    obtain ⟨z, hz1, hz2⟩ := lc hm i i (List.getElem?_range hi); obtain ⟨ys, h1, h2⟩ := Option.bind_eq_some_iff.1 hz1; rw [hc] at h1; obtain ⟨q, hq, hF⟩ := hel _ _ _ h2 ⟨fun n hn => hzl n (C2 _ (List.mem_append_left _ (fM (Cy.2 ⟨z, A7 hz2, rfl⟩) hn))), by have := gP (d := z.1) (l := elems.map (·.1)) (Cy.2 ⟨z, A7 hz2, rfl⟩); omega⟩; exact ⟨ys, h1, q, hq, hF⟩
   have hlist : ∀ k, k ≤ len → ∃ l : List α, l.length = k ∧ (∀ y ∈ l, F y) ∧ ∀ i, i < k → w.cells? 0 (a.add (i * sz)) sz = some (cells (l.getD i default)) := by
    intro k
    induction k with
    | zero => intro _; exact ⟨[], rfl, by simp, fun i hi => by omega⟩
    | succ k ih =>
     intro hk; obtain ⟨l, h1, h2, h3⟩ := ih (by omega); obtain ⟨ys, hy, q, rfl, hF⟩ := hall k (by omega); refine ⟨l ++ [q], by simp [h1], fun y hy' => ?_, fun i hi => ?_⟩
     ·rcases B5.1 hy' with h | h
      ·exact h2 y h
      ·simp at h; subst h; exact hF
     ·by_cases hik : i = k
      ·subst hik; rw [hy]; simp [List.getD, ← h1]
      ·rw [h3 i (by omega)]; simp only [List.getD]; rw [B4 (by omega)]
   obtain ⟨l, h1, h2, h3⟩ := hlist len (Bg _); refine ⟨⟨some a, l, cap⟩, by simp [h1], by simp [h1]; exact hb.2.1, hcb, by rw [h1]; omega, rF fun i v hv => ?_, h2⟩; have hlen := aj l cells sz hsz; have hi : i < l.length * sz := by rw [← hlen]; exact (Am.1 hv).1
   have hs0 : 0 < sz := by rcases Bz sz with h0 | h0; · subst h0; omega
                           ·exact h0
   have hj : i / sz < l.length := Nat.div_lt_of_lt_mul (by rw [Ah]; exact hi); obtain ⟨_, h5⟩ := cells?_get (h3 (i / sz) (by omega))
   have h6 := h5 (i % sz) v (by
    rw [← fx l cells sz hsz (i / sz) hj, Ct, Ab (Ai _ hs0), Cu, Ah, A9]; exact hv)
   have e1 : (a.add (i / sz * sz)).add (i % sz) = a.add i := by
    have h7 : i / sz * sz + i % sz = i := by rw [Ah]; exact A9 i sz
    have h8 : ∀ p q : Nat, (a.add p).add q = a.add (p + q) := fun p q => by by_cases hp : p = 0 <;> by_cases hq : q = 0 <;> simp [Addr.add, hp, hq, Cl]
    rw [h8, h7]
   rw [e1] at h6; exact h6
end
end Go.Proofs.YtkdlonihbjhhoaaGreatDoor
