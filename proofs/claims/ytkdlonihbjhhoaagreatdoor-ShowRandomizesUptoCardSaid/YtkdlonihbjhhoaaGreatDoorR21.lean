/-
  Parts of the walk: ShaB Sha4 ShaR Laid LaiE Opu.
-/
import Derived.Test.YtkdlonihbjhhoaaGreatDoorR20
import Derived.Lib.LaidTab
import Derived.Test.YtkdlonihbjhhoaaGreatDoorRows
namespace Go.Proofs.YtkdlonihbjhhoaaGreatDoor
open Go.RowKit
set_option linter.unusedSimpArgs false
set_option linter.unusedVariables false
set_option maxHeartbeats 600000
set_option maxRecDepth 20000
def awP : PR := { ch := [2], sl := [2], mn := (([47], [23]), ([4], [9])), wh := (([77], []), ([4], [9])), sec := [23], attr := [2], han := [20], lo := [3], sz := [10], bl := [20], msk := [15] }
def awK : IK := { name := [105], g := ([77], []), z := [15], s := [4], r := [[64], [23], [1]], u := [4], h := [4] }
theorem AH : ck awP awK ⟨[53], [7], [2]⟩ ⟨[[4]], [], 0⟩ = (([16], (true, [26]), ⟨[[4]], [], 1⟩), 0) := by decide +kernel
theorem CQ : shE awP awK [16] [2] [[1]] = 0 := by decide +kernel
theorem vZ : shS awP awK [16] [2] [[1]] = (shT awP awK [16] [2] [[1]], 0) := by rw [shS, Aa (fun h => h CQ)]
theorem CN : wiS awP ⟨[53], [7], [2]⟩ (true, [26]) [[1], [3], [1]] [2] = ([(false, [4]), (true, [26]), (false, [1]), (false, [3])], 0) := by decide +kernel
theorem CP : tgS awP awK [16] [2] [[1]] = [1] := by decide +kernel
theorem AJ : ln (shT awP awK [16] [2] [[1]]) [(false, [4]), (true, [26]), (false, [1]), (false, [3])] = (true, 0) := by decide +kernel
theorem vC {l m : List Zs} {i : Nat} (h1 : i < l.length) (h2 : i < m.length) (h : l.take i = m.take i) (e : l.getD i default = m.getD i default) : l.take (i + 1) = m.take (i + 1) := by
 rw [qm h1, qm h2, h, e]
theorem z7 {l m : List Zs} {i : Nat} (e : ¬ l.getD i default = m.getD i default) : ¬ l = m := fun h => e (by rw [h])
theorem BU {l m : List Zs} {a b : Option Addr} {c d : Nat} {w : World} {ok : Nat → Prop} (hF1 : (Fact.sl a (bp l)).holds ok w) (hF2 : (Fact.sl b (bp m)).holds ok w) (hl : l.length ≤ 10000000) (hm : m.length ≤ 10000000) :
  Cw 21 #[.slice a l.length c, .slice b m.length d] w (.bool (decide (l = m))) := by
 refine En [Fact.sl a (bp l), Fact.sl b (bp m)] [(0, .slice a l.length c), (1, .slice b m.length d)] Tryz.func21 I Tryz.ntmps21 I (Ac I (Ac I (An _))) (Fc (ah hF1) (Fc (ah hF2) Fn)) (Cs (Ka I (Nt (Cq (Cs (Km I (Yo I u39 (Km I (Yo I u39 (Yj I (Nt (Ci I (fun hc10 => ?_) (fun hc10 => ?_)))))))))))))
 ·have hn : ¬ l = m := fun h => by subst h; simp at hc10
  refine Cs (Ka I (Nt (Ce (Xb ?_))))
  exact R1 I I (by rw [At hn]; rfl)
 ·have hlen : l.length = m.length := by omega
  refine Ck (Xa (Cq (Cs (Km I (Yo I u39 (Km I (Nt (Cb (Lp (σ := Nat) [(0, _), (1, _), (12, _)] (fun gq => [(13, .int .i64 (gq : Int))]) (fun gq => gq ≤ l.length ∧ l.take gq = m.take gq) (fun gq => l.length - gq) (0) (S3 I I I) (S1 I) (by (try dsimp only); exact ⟨Am _, by simp⟩) ?_)))))))))
  rintro i hinv1; (try dsimp only at hinv1 ⊢)
  obtain ⟨hi, hok⟩ := hinv1
  refine Cs (Yl I (Nt (Cq (Ci I (fun hc14 => ?_) (fun hc14 => ?_)))))
  ·have hil : i < l.length := by omega
   have him : i < m.length := by omega
   obtain ⟨x, hx⟩ : ∃ x, Keep (x = l.getD i default) := ⟨_, rfl⟩; obtain ⟨y, hy⟩ : ∃ y, Keep (y = m.getD i default) := ⟨_, rfl⟩; refine Ck (Xa (Cq (Cb (Cs (Km I (Ka I (Nt (Cq (Cf [0, 1, 2, 3, 4, 5, 6, 7, 8] [] [0, 0, 0, 0, 0, 0, 0, 0, 0] (by kernel_rfl) (by kernel_rfl) I ?_))))))))); refine Kj I (Rm I I) (Kj I (Rm I I) ?_); refine Kj I (Ia I I I u39 (by kernel_rfl : _ = some 2) (by omega) (by (rw [aj _ _ 2 (fun _ => rfl)]; omega))) ?_; refine Kj I (eo _ I I u37 I (by kernel_rfl : _ = some 2) (fun _ => rfl) (by decide) I (by assumption)) ?_; refine WJ.set 19 I (v' := zV x) (by rw [show x = _ from hx]) ?_; refine Kj I (Rm I I) (Kj I (Rm I I) ?_); refine Kj I (Ia I I I u39 (by kernel_rfl : _ = some 2) (by omega) (by (rw [aj _ _ 2 (fun _ => rfl)]; omega))) ?_; refine Kj I (eo _ I I u37 I (by kernel_rfl : _ = some 2) (fun _ => rfl) (by decide) I (by assumption)) ?_; refine WJ.set 23 I (v' := zV y) (by rw [show y = _ from hy]) ?_; refine Kj I (ut I I I (by kernel_rfl) (fun w => gI _ _ _ _ w)) ?_; refine WJ.nil ?_; refine Nt (Ci I (fun hc24 => ?_) (fun hc24 => ?_))
   ·have hn : ¬ l = m := z7 (fun h => hc24 (by rw [show x = _ from hx, show y = _ from hy, h]; exact ⟨rfl, rfl⟩)); refine Cs (Ka I (Nt (Ce (Xf (Xb (Xb (Xf (Xb ?_)))))))); exact R1 I I (by rw [At hn]; rfl)
   ·refine Ck (Xd (Xa (Cg (Kq I (Rz I I I (by omega)) (Km I (Nn (Ly (i + 1) (by (try dsimp only); omega) (S3 I I I) (by refine (Sc ?_ (S0 _)) <;> (rfl)) ?_ (fun _ h => h)))))))); (try dsimp only); exact ⟨hil, vC hil him hok (by rw [← show x = _ from hx, ← show y = _ from hy]; exact Prod.ext hc24.1 hc24.2)⟩
  ·refine Cx (Xc (Xc (Xe ?_))); obtain rfl : i = l.length := by omega
   rw [Av, hlen, Av] at hok; refine Xa (Cs (Ka I (Nt (Ce ?_)))); exact R1 I I (by rw [Aq hok]; rfl)
theorem ua {w : World} :
  Calls Tryz.prog 38 #[] w fun e w' => ∃ g : Rs, e = .returned (.tuple #[prV awP, ikV awK (g.val 3)]) ∧ g.cap = 3 + g.sp.length ∧ St (fun _ => True) w [g.ent (an awK.r) 22] [] w' := by
 refine En [] [] Tryz.func38 I Tryz.ntmps38 I (An _) Fn (Cs (Kh I (Oz [.string (S []), .string (S []), .string (S []), .string (S []), .string (S []), .string (S []), .string (S []), .string (S []), .string (S []), .string (S []), .string (S []), .string (S []), .string (S []), .string (S []), .string (S []), .string (S []), .string (S [])] I) ?_))
 intro b0
 refine Kh I (Oz [.string (S []), .string (S []), .string (S []), .string (S []), .string (S []), .slice none 0 0, .string (S []), .string (S [])] I) ?_
 intro b1
 refine Nt (Cs (Kq I (Kb [[.string (S [])], [.string (S [])]] I I) (Kq I (Kb [[.string (S [])], [.string (S [])]] I I) (Kq I (Kb [[.string (S []), .string (S [])], [.string (S [])], [.string (S [])]] I I) (Kq I (Kb [[.string (S [])], [.string (S [])]] I I) (Kq I (Kb [[.string (S []), .string (S [])], [.string (S [])], [.string (S [])]] I I) (Kq I (Kb [[.string (S []), .string (S [])], [.string (S []), .string (S []), .string (S []), .string (S [])], [.string (S []), .string (S []), .string (S []), .string (S [])], [.string (S [])], [.string (S [])], [.string (S [])], [.string (S [])], [.string (S [])], [.string (S [])], [.string (S [])]] I I) ?_)))))))
 refine Kh I (Oz [.string (S []), .string (S []), .string (S []), .string (S []), .string (S []), .string (S []), .string (S []), .string (S []), .string (S []), .string (S []), .string (S []), .string (S []), .string (S []), .string (S []), .string (S []), .string (S []), .string (S [])] I) ?_
 intro b2
 refine Nu I I (Sa I I I .tc) (Nt (Cs (Kq I (Kb [[.string (S [])], [.string (S [])]] I I) ?_)))
 refine Kh I (aQ I I u31 (by kernel_rfl : _ = some (some (.string (S [])), 1, 16)) I (by simp only [List.map]; rfl) I I ?_ (by decide)) ?_
 ·simp [Value.cells]
 intro b11
 refine Kq I (Kb [[.string (S [])], [.string (S []), .string (S [])], [.string (S [])], [.string (S [])], [.slice none 0 0], [.string (S [])], [.string (S [])]] I I) ?_
 refine Kh I (Oz [.string (S []), .string (S []), .string (S []), .string (S []), .string (S []), .slice none 0 0, .string (S []), .string (S [])] I) ?_
 intro b3
 refine Nu I I (Sa I I I .tc) (WL.st (fun w h => show St _ _ ([⟨some b3, ikC awK (.slice (some ⟨b11, 0, none⟩) 3 3), 33⟩, ⟨some b11, an awK.r, 22⟩, ⟨some b2, prC awP, 30⟩, _, _] : List Ent) _ w from h) ?_)
 refine Nt (Cq (WC.free (K := [⟨some b3, ikC awK (.slice (some ⟨b11, 0, none⟩) 3 3), 33⟩, ⟨some b2, prC awP, 30⟩]) (fs0 := []) [0, 2, 1] [3] [0, 0, 1, 2] (by kernel_rfl) (by kernel_rfl) I ?_))
 refine Kj I (lda I I .tc u30 I ?_) ?_
 ·kernel_rfl
 refine WJ.st I I I I (ie I I I ?_ ?_ ?_) ?_
 ·kernel_rfl
 ·simp [Value.oneCell']
 ·rfl
 refine Kj I (lda I I .tc u33 I ?_) ?_
 ·kernel_rfl
 refine WJ.nil ?_
 refine Nu I I (Sa I I I .tc) (Nt (Ce ?_))
 exact Rn I (.agg I .tc u30 I (by kernel_rfl) (.agg I .tc u33 I (by kernel_rfl) .nil)) fun w' hS => ⟨⟨some b11, 3, []⟩, rfl, rfl, hS.sub (own' := [⟨some b11, an awK.r ++ [], 22⟩]) (.cons _ (by simp)) (fun _ h => by cases h)⟩
theorem yS {s : SA} {p : PR} {k : IK} {a : Bs} {d : List Int} {vs : List Bs} (hm8 : k.g.1.length ≤ 8) (hk : k.r.length ≤ 90000) (h : s.core = (shS p k a d vs).1) : saL s := by
 have hh : (ce d k.r.length).length ≤ k.r.length := by
  have := List.length_filter_le (fun i : Nat => !(d.contains (i : Int))) (List.range k.r.length)
  rw [List.length_range] at this; exact this
 have hc : s.gs.length ≤ 100000 ∧ s.vs.length ≤ 100000 ∧ s.core.2.2.length ≤ 100000 ∧ (∀ q ∈ s.core.2.2, q.2.2.length ≤ 100000) ∧ ∀ g ∈ s.gs, g.1.length ≤ 8 := by
  have e1 : s.gs = (shS p k a d vs).1.1 := congrArg (·.1) h
  have e2 : s.vs = (shS p k a d vs).1.2.1 := congrArg (·.2.1) h
  rw [e1, e2, h, shS]; split
  ·exact ⟨Am _, Am _, Am _, by simp, by simp⟩
  ·exact ⟨by simp [shT], by simp [shT]; omega, by simp [shT], by simp [shT, iD]; omega, by simpa [shT] using hm8⟩
 exact ⟨hc.1, hc.2.1, by have := hc.2.2.1; simpa using this, fy.1 hc.2.2.2.1, hc.2.2.2.2⟩
abbrev awS : SG := ⟨[53], [7], [2]⟩
abbrev awZ : Zs := (true, [26])
theorem mN {w : World} (hT : Tab w) (hD : TabD w) :
  Cw 12 #[] w (.bool true) := by
 refine En [] [] Tryz.func12 I Tryz.ntmps12 I (An _) Fn (Cs (Ka I (Nt (Cs (Kh I (Oc I I (eV fun w hS => ua)) ?_)))))
 intro g15
 refine WL.pu ?_
 intro hg15; (try dsimp only at hg15 ⊢)
 refine Km I (Ye I (Ye I (Kh I (Oz [.string (S []), .string (S []), .string (S []), .string (S []), .string (S []), .string (S []), .string (S []), .string (S []), .string (S []), .string (S []), .string (S []), .string (S []), .string (S []), .string (S []), .string (S []), .string (S []), .string (S [])] I) ?_)))
 intro b1
 refine Kh I (Oz [.string (S []), .string (S []), .string (S []), .string (S []), .string (S []), .slice none 0 0, .string (S []), .string (S [])] I) ?_
 intro b2
 refine Nu I I (Sa I I I .tc) (Nu I I (Sa I I I .tc) (Nt (Cs (Kq I (Kb [[.string (S [])], [.string (S [])], [.string (S [])]] I I) ?_))))
 refine Kh I (Oz [.string (S []), .string (S []), .string (S [])] I) ?_
 intro b3
 refine Nu I I (Sa I I I .tc) (Nt (Cs (Kq I (lda I I .tc u30 I ?_) ?_)))
 ·kernel_rfl
 refine Kq I (lda I I .tc u33 I ?_) ?_
 ·kernel_rfl
 refine Kq I (lda I I .tc u35 I ?_) ?_
 ·kernel_rfl
 refine Kh I (aQ I I u31 (by kernel_rfl : _ = some (some (.string (S [])), 1, 16)) I (by simp only [List.map]; rfl) I I ?_ (by decide)) ?_
 ·simp [Value.cells]
 intro b23
 refine Kq I (Kb [[.slice none 0 0], [.string (S [])], [.int .i64 0]] I I) ?_
 refine Kh I (Oc I I (eV fun w hS => qt (p := awP) (k := awK) (s := awS) (t := ⟨[[4]], [], 0⟩) (by (exact hS.sl)) (by (exact hS.os)) (by decide) (by decide) (by decide) (by decide) (by decide) (by decide) (by exact fb hT hS) (by exact bF hD hS))) ?_
 intro g25
 refine WL.pu ?_
 intro hg25; (try dsimp only at hg25 ⊢)
 rw [AH]
 refine Km I (Ye I (Ye I (Ye I (Ye I (Kh I (Oz [.bool false, .string (S [])] I) ?_)))))
 intro b5
 refine Kh I (Oz [.slice none 0 0, .string (S []), .int .i64 0] I) ?_
 intro b6
 refine Ka I (Nu I I (Sa I I I .tc) (Nu I I (Sa I I I .tc) (Ka I (Nt (Cs (Kq I (lda I I .tc u30 I ?_) ?_))))))
 ·kernel_rfl
 refine Kq I (lda I I .tc u33 I ?_) ?_
 ·kernel_rfl
 refine Km I (Kh I (aQ I I u38 (by kernel_rfl : _ = some (some (.int .i64 0), 1, 8)) I (by simp only [List.map]; rfl) I I ?_ (by decide)) ?_)
 ·simp [Value.cells]
 intro b34
 refine Kh I (aQ I I u31 (by kernel_rfl : _ = some (some (.string (S [])), 1, 16)) I (by simp only [List.map]; rfl) I I ?_ (by decide)) ?_
 ·simp [Value.cells]
 intro b35
 refine WL.st (fun w h => (h.freeze (off := 0) (xs := an [[1]]) (fun i hi => by rw [Az]; rfl)).freeze (off := 0) (xs := ir [2]) (fun i hi => by rw [Az]; rfl)) ?_
 refine Kh I (Oc I I (kv fun w hS => yQ (p := awP) (k := awK) (xa := [16]) (d := [2]) (vs := [[1]]) (by (exact hS.slo)) (by (exact hS.slo)) (by (exact hS.slo)) (by decide) (by decide) (by decide) (by decide) (by decide) (by decide) (by exact bF hD hS))) ?_
 rintro sa36
 refine WL.pu ?_
 intro hg36; (try dsimp only [List.cons_append, List.nil_append] at hg36 ⊢)
 rw [vZ]
 refine Km I (Ye I (Ye I (Kh I (Oz [.slice none 0 0, .slice none 0 0, .slice none 0 0] I) ?_)))
 intro b8
 refine Nu I I (Sa I I I .tc) (Ka I (Nt (Cs (Kq I (lda I I .tc u30 I ?_) ?_))))
 ·kernel_rfl
 refine Kq I (lda I I .tc u35 I ?_) ?_
 ·kernel_rfl
 refine Kq I (lda I I .tc u37 I ?_) ?_
 ·kernel_rfl
 refine Kh I (aQ I I u31 (by kernel_rfl : _ = some (some (.string (S [])), 1, 16)) I (by simp only [List.map]; rfl) I I ?_ (by decide)) ?_
 ·simp [Value.cells]
 intro b43
 refine Kh I (aQ I I u38 (by kernel_rfl : _ = some (some (.int .i64 0), 1, 8)) I (by simp only [List.map]; rfl) I I ?_ (by decide)) ?_
 ·simp [Value.cells]
 intro b44
 refine Kh I (Oc I I (nK fun w hS => wM (p := awP) (sg := awS) (v := awZ) (ms := [[1], [3], [1]]) (d := [2]) (by (exact hS.os)) (by (exact hS.os)) (by decide) (by decide) (by decide) (by exact bF hD hS))) ?_
 rintro g45
 refine WL.pu ?_
 intro hg45; (try dsimp only [List.cons_append, List.nil_append] at hg45 ⊢)
 rw [CN]
 refine Km I (Ye I (Ye I (Ka I (Ka I (Nt (Cq (Cs ?_)))))))
 have hc9 : sa36.core = shT awP awK [16] [2] [[1]] := hg36.trans (congrArg (·.1) vZ)
 have hes : sa36.es.length = 1 := by have := congrArg (fun c => c.2.2.length) hc9; simpa [SA.core, shT] using this
 obtain ⟨q, hq⟩ := List.length_eq_one_iff.1 hes
 have hq1 : q.1.2.1 = [1] := by have := congrArg (fun c => c.2.2.map (·.2.1)) hc9; simpa [SA.core, hq, shT, CP] using this
 refine Km I (Km I (Kq I (az I I I (by (dsimp only; omega))) ?_))
 refine Km I (Kq I (az I I I (by (dsimp only; omega))) ?_)
 refine Yj I (Km I (Ns 54 I (v' := .bool false) (by rfl) ?_))
 refine Km I (Yr I (Yq I (Km I (Ns 58 I (v' := .bool false) (by rfl) ?_))))
 refine Kq I (lda I I .tc u37 I ?_) ?_
 ·kernel_rfl
 refine Kq I (Kb [[.bool false], [.string (S [])]] I I) ?_
 refine Kq I (ut I I I (by kernel_rfl) (fun w => gI _ _ _ _ w)) ?_
 refine Yq I (Km I (Ns 63 I (v' := .bool false) (by rfl) ?_))
 refine Kf 2 I u58 I I I .tc u56 ?_
 refine Yo I u56 (Yj I (Yq I (Ns 68 I (v' := .bool false) (by rw [hes]; rfl) ?_)))
 refine Nt (Cd I (fun h => by cases h) (fun _ => ?_))
 refine Ck (Xa (Cs (Kq I (lda I I .tc u58 I ?_) ?_)))
 ·kernel_rfl
 refine Km I (Kc I (fun w hS => (by have := xO (w := w) (s := sa36) (ws := [(false, [4]), awZ, (false, [1]), (false, [3])]) (a := g45.a) (c := g45.cap) hS.sl hS.sl hS.sl hS.sl hS.more (yS (by decide) (by decide) hg36) (by decide); rw [hc9, AJ] at this; exact this)) (Km I (Ye I (Ye I (Ka I (Ka I (Nt (Cs ?_))))))))
 rw [hq]
 refine Kf 2 I u58 I I I .tc u56 ?_
 refine Kq I (Ia I I I u56 (by kernel_rfl : _ = some 3) (by (simp <;> omega)) (by (simp <;> omega))) ?_
 (refine Kq I (faf I I u95 I (by kernel_rfl) (by (try simp only [sN, Int.reduceToNat, Nat.reduceAdd, Nat.reduceMul, Nat.reduceSub]); rfl)) ?_)
 refine Kq I (lT (sz := 3) 0 1 I I u22 I (fun _ => rfl) I (by simp) (by decide) I) ?_
 refine Ns 79 I (v' := .string (S ([1]))) (congrArg (fun l => Value.string (S l)) (by exact hq1)) ?_
 refine Ys I (Km I (Ns 81 I (v' := .bool true) (by rfl) ?_))
 refine Km I (Kq I (Kb [[.bool false], [.string (S [])]] I I) (Kq I (Kb [[.bool false], [.string (S [])]] I I) (Kq I (Kb [[.bool false], [.string (S [])]] I I) (Kq I (Kb [[.bool false], [.string (S [])]] I I) ?_))))
 refine Kh I (jw I I u39 (by kernel_rfl : _ = some (some (.agg #[.bool false, .string (S [])]), 2, 24)) (by kernel_rfl) (by decide) I I (by (simp [Value.cells]; done)) (by (simp only [List.map, Value.cells, Dd, List.flatMap_nil, Bd, List.toList_toArray]; rfl)) (by decide)) ?_
 intro b87
 refine Kc I (fun w hS => BU (l := [(false, [4]), awZ, (false, [1]), (false, [3])]) (m := [(false, [4]), awZ, (false, [1]), (false, [3])]) (a := g45.a) (b := some ⟨b87, 0, none⟩) (c := g45.cap) (d := 4) (w := w) hS.sl hS.os (by decide) (by decide)) (Yp I (Km I (Ns 90 I (v' := .bool true) (by rfl) ?_)))
 refine Km I (Yi I (Yp I (Km I (Ns 94 I (v' := .bool true) (by rfl) ?_))))
 refine Km I (Yp I (Ka I (Nt (Ce ?_))))
 exact R1 I I (by rfl)
theorem m7 {x : Bs} {w : World} :
  Cw 23 #[.string (S x)] w (zV (false, x)) := by
 refine En [] [(0, .string (S x))] Tryz.func23 I Tryz.ntmps23 I (Ac I (An _)) Fn (Cs (Kh I (Oz [.bool false, .string (S [])] I) ?_))
 intro b2
 refine Nt (Cs (Km I (Kq I (Kb [[.bool false], [.string (S [])]] I I) ?_)))
 refine Nu I I (Sa I I I .tc) (Nt (Ce ?_))
 exact Rn I (.agg I .tc u37 I (by kernel_rfl) .nil) fun w' hS => ⟨by rfl, hS.below⟩
theorem wV {g : Gp} {x : Bs} {z : Zs} {w : World} (hm8 : g.1.length ≤ 8) (hg : a6 g = 0) (hx : elG g x) (hz : okZ z) :
  Cw 52 #[gV g, .string (S x), zV z] w (.tuple #[.string (S (ae (dx (val g.1) (val x) (zv z)))), .int .i64 0]) := by
 refine En [] [(0, gV g), (1, .string (S x)), (2, zV z)] Tryz.func52 I Tryz.ntmps52 I (Ac I (Ac I (Ac I (An _)))) Fn (Cs (Kh I (Oy I I) ?_))
 intro b3
 refine Kh I (Oy I I) ?_
 intro b5
 refine Ka I (Ka I (Nt (Cq (WC.joinP (σ := Unit) [(1, _), (3, _), (5, _)] (fun gq => [(16, .bool (decide (¬ (okN x ∧ okZ z))))]) (fun gq => True) (S3 I I I) ?_ ?_))))
 ·skip
  refine Cg (Km I (Kc I (fun w hS => av (a := x)) (Yt I (Km I (Nc 12 I (fun hg12 => ?_) (fun hg12 => ?_))))))
  ·refine T2 I (Kt I (Yp I (Nn (WX.joinP (()) (S3 I I I) (by refine (Sc ?_ (S0 _)) <;> ((refine ai rfl ?_; (try dsimp only); (simp [*]; done)))) ?_ (fun _ h => h))))); (try dsimp only); done
  ·refine Kq I (lda I I .tc u37 I ?_) ?_
   ·kernel_rfl
   refine Kc I (fun w hS => bJ (x := z)) (Yt I (Yq I (Nn (WX.joinP (()) (S3 I I I) (by refine (Sc ?_ (S0 _)) <;> ((refine ai rfl ?_; (try dsimp only); (simp [*]; done)))) ?_ (fun _ h => h))))); (try dsimp only); done
 ·rintro _ hmeet; (try dsimp only at hmeet ⊢)
  refine Cd I (fun hc16 => by exfalso; (try simp only [sB] at hc16); exact hc16 ⟨hx.1, hz⟩) (fun hc16 => ?_)
  (try simp only [sB] at hc16)
  refine Ck (Xa (Cq (Cs (Kq I (lda I I .tc u26 I ?_) ?_))))
  ·kernel_rfl
  refine Kc I (fun w hS => gS (g := g)) (Ka I (Nt (Cs (Km I (Yj I (Nt (Cd I (fun hc20 => by exfalso; (try simp only [sB] at hc20); exact hc20 hg) (fun hc20 => ?_))))))))
  (try simp only [sB] at hc20)
  refine Ck (Xa (Cq (Cs (Kq I (lda I I .tc u26 I ?_) ?_))))
  ·kernel_rfl
  refine Km I (Kc I (fun w hS => iJ (g := g) (x := x) (by exact hg) (by exact hx.1) (by exact hm8)) (Yt I (Nt (Cd I (fun hc25 => by exfalso; (try simp only [sB] at hc25); exact hc25 hx) (fun hc25 => ?_)))))
  (try simp only [sB] at hc25)
  refine Ck (Xa (Cs (Kq I (lda I I .tc u26 I ?_) ?_)))
  ·kernel_rfl
  refine Km I (Kq I (lda I I .tc u37 I ?_) ?_)
  ·kernel_rfl
  refine Kc I (fun w hS => (by have := yT (w := w) (g := g) (x := x) (z := z) hm8; rw [xy hx.1 hz (ef hg).1 (fun h => by have := (ef hg).2.2.1; rw [h] at this; exact absurd this (by decide)) (ky hg hx)] at this; exact this)) (Ka I (Ka I (Nt (Ce ?_))))
  exact R2 I I I (by rfl)
theorem wU {g : Gp} {a b : Bs} {w : World} (hm8 : g.1.length ≤ 8) (hg : a6 g = 0) (ha : elG g a) (hb : elG g b) :
  Cw 26 #[gV g, .string (S a), .string (S b)] w (.tuple #[.string (S (ae (val a * val b % val g.1))), .int .i64 0]) := by
 have h0 : iU a b g.1 = (ae (val a * val b % val g.1), 0) := by
  have h1 : cP [a, b] [g.1] = 0 := by
   rw [cP, Ab (by intro x hx; simp at hx; rcases hx with rfl | rfl | rfl; exact ha.1; exact hb.1; exact (ef hg).1), Aa (by simp; intro h; have := (ef hg).2.2.1; rw [h] at this; exact absurd this (by decide))]
  rw [iU, Ab h1]
 refine En [] [(0, gV g), (1, .string (S a)), (2, .string (S b))] Tryz.func26 I Tryz.ntmps26 I (Ac I (Ac I (Ac I (An _)))) Fn (Cs (Kh I (Oy I I) ?_))
 intro b3
 refine Ka I (Ka I (Nt (Cq (WC.joinP (σ := Unit) [(1, _), (2, _), (3, _)] (fun gq => [(18, .bool (decide (¬ (okN a ∧ okN b))))]) (fun gq => True) (S3 I I I) ?_ ?_))))
 ·skip
  refine Cg (Km I (Kc I (fun w hS => av (a := a)) (Yt I (Km I (Nc 14 I (fun hg14 => ?_) (fun hg14 => ?_))))))
  ·refine T2 I (Kt I (Yp I (Nn (WX.joinP (()) (S3 I I I) (by refine (Sc ?_ (S0 _)) <;> ((refine ai rfl ?_; (try dsimp only); (simp [*]; done)))) ?_ (fun _ h => h))))); (try dsimp only); done
  ·refine Km I (Kc I (fun w hS => av (a := b)) (Yt I (Yq I (Nn (WX.joinP (()) (S3 I I I) (by refine (Sc ?_ (S0 _)) <;> ((refine ai rfl ?_; (try dsimp only); (simp [*]; done)))) ?_ (fun _ h => h)))))); (try dsimp only); done
 ·rintro _ hmeet; (try dsimp only at hmeet ⊢)
  refine Cd I (fun hc18 => by exfalso; (try simp only [sB] at hc18); exact hc18 ⟨ha.1, hb.1⟩) (fun hc18 => ?_)
  (try simp only [sB] at hc18)
  refine Ck (Xa (Cq (Cs (Kq I (lda I I .tc u26 I ?_) ?_))))
  ·kernel_rfl
  refine Kc I (fun w hS => gS (g := g)) (Ka I (Nt (Cs (Km I (Yj I (Nt (Cd I (fun hc22 => by exfalso; (try simp only [sB] at hc22); exact hc22 hg) (fun hc22 => ?_))))))))
  (try simp only [sB] at hc22)
  refine Ck (Xa (Cq (Cs (Kq I (lda I I .tc u26 I ?_) ?_))))
  ·kernel_rfl
  refine Km I (Kc I (fun w hS => iJ (g := g) (x := a) (by exact hg) (by exact ha.1) (by exact hm8)) (Ns 26 I (v' := .bool true) (by exact congrArg Value.bool (Aq ha)) ?_))
  refine Yt I (Km I (Kq I (lda I I .tc u26 I ?_) ?_))
  ·kernel_rfl
  refine Km I (Kc I (fun w hS => iJ (g := g) (x := b) (by exact hg) (by exact hb.1) (by exact hm8)) (Ns 31 I (v' := .bool true) (by exact congrArg Value.bool (Aq hb)) ?_))
  refine Yt I (Yq I (Nt (Cd I (fun h => by cases h) (fun _ => ?_))))
  refine Ck (Xa (Cs (Km I (Km I (Kf 0 I u26 I I I .tc u22 ?_)))))
  refine Kc I (fun w hS => (by have := w6 (w := w) (a := a) (b := b) (m := g.1) hm8; rw [h0] at this; exact this)) (Km I (Ye I (Ye I (Ka I (Ka I (Nt (Cs (Km I (Ka I (Ka I (Nt (Ce ?_))))))))))))
  exact R2 I I I (by rfl)
theorem z8 {g : Gp} {x : Bs} {z : Zs} (hg : a6 g = 0) (hx : elG g x) (hz : okZ z) : elG g (ae (dx (val g.1) (val x) (zv z))) := by
 have hP := sF hg hx hz
 have := vD (g := g) (l := [x]) (es := [z]) (by rw [hP])
 rw [hP] at this; exact this
theorem uE {g : Gp} {a b : Bs} {z : Zs} (hg : a6 g = 0) (ha : elG g a) (hb : elG g b) (hz : okZ z) : (cd g [a, b] [ofZ 1, z]).1 = ae (val a * val (ae (dx (val g.1) (val b) (zv z))) % val g.1) := by
 rw [l8 hg ha hb nx hz, pm, af]
 show ae (dx _ _ 1 * _ % _) = _
 rw [show dx (val g.1) (val a) 1 = val a % val g.1 by rw [show (1 : Int) = ((1 : Nat) : Int) from rfl, uG, Nat.pow_one], mml]
theorem uh {p : PR} {k : IK} {s : SG} {t : Tp} {a b : Option Addr} {c d : Nat} {w : World} {ok : Nat → Prop} (hF1 : (Fact.sl a (an k.r)).holds ok w) (hF2 : (Fact.sl b (an t.vals)).holds ok w) (hm8 : p.mn.1.1.length ≤ 8) (hk8 : k.g.1.length ≤ 8) (hkl : k.r.length ≤ 100000) (hnl : k.name.length ≤ 140737488351232) (hl : t.vals.length ≤ 100000) (hsd : t.seed.length ≤ 400000) :
  Calls Tryz.prog 14 #[prV p, ikV k (.slice a k.r.length c), sgV s, t.v (.slice b t.vals.length d)] w fun e w' => ∃ g : Rs, e = .returned (rnV (ck p k s t) g) ∧ g.cap = (ck p k s t).1.2.2.vals.length + g.sp.length ∧ St (fun _ => True) w [g.ent (an (ck p k s t).1.2.2.vals) 22] [] w' := by
 refine En [Fact.sl a (an k.r), Fact.sl b (an t.vals)] [(0, prV p), (1, ikV k (.slice a k.r.length c)), (2, sgV s), (3, t.v (.slice b t.vals.length d))] Tryz.func14 I Tryz.ntmps14 I (Ac I (Ac I (Ac I (Ac I (An _))))) (Fc (ah hF1) (Fc (ah hF2) Fn)) (Cs (Kh I (Oy I I) ?_))
 intro b4
 refine Kh I (Oy I I) ?_
 intro b5
 refine Kh I (Oy I I) ?_
 intro b6
 refine Kh I (Oy I I) ?_
 intro b7
 refine Ka I (Kh I (Oz [.bool false, .string (S [])] I) ?_)
 intro b9
 refine Kh I (Oz [.slice none 0 0, .string (S []), .int .i64 0] I) ?_
 intro b10
 refine Ka I (Nt (Cq (Cs (Kq I (lda I I .tc u30 I ?_) ?_))))
 ·kernel_rfl
 refine Kq I (lda I I .tc u33 I ?_) ?_
 ·kernel_rfl
 refine Kc I (fun w hS => sn (p := p) (k := k) (by (exact hS.sl)) (by assumption) (by assumption) (by assumption) (by assumption)) (Ka I (Nt (Cs (Km I (Yj I (Nt (Ci I (fun hc28 => ?_) (fun hc28 => ?_))))))))
 ·have hr : ck p k s t = (([], (false, []), bH), cO p k) := by rw [ck, Ab (by simpa using hc28)]
  refine Cs (Kq I (Kb [[.bool false], [.string (S [])]] I I) (Kq I (Kb [[.slice none 0 0], [.string (S [])], [.int .i64 0]] I I) (Km I (Ka I (Nu I I (Sa I I I .tc) (Nu I I (Sa I I I .tc) (Ka I (Nt (Ce (Xb ?_))))))))))
  exact Rn I (.tmp I (.agg I .tc u37 I (by kernel_rfl) (.agg I .tc u41 I (by kernel_rfl) (.tmp I .nil)))) fun w' hS => ⟨⟨none, 0, []⟩, by rw [hr]; rfl, by rw [hr]; rfl, by rw [hr]; exact cz hS⟩
 ·have h0 : cO p k = 0 := by simpa using hc28
  have hg : a6 k.g = 0 := (db h0).2.2.2.2.1
  have hks : elG k.g k.s := (db h0).2.2.2.2.2.2.2 _ (by simp)
  refine Ck (Xa (Cq (WC.joinP (σ := Unit) [(4, _), (5, _), (6, _), (7, _), (9, _), (10, _)] (fun gq => [(47, .bool (decide (¬ (okN s.a ∧ okN s.e ∧ okN s.v))))]) (fun gq => True) (S6 I I I I I I) ?_ ?_)))
  ·skip
   refine Cg (Kf 0 I u35 I I I .tc u22 ?_); refine Kc I (fun w hS => av (a := s.a)) (Yt I (Km I (Nc 36 I (fun hg36 => ?_) (fun hg36 => ?_))))
   ·refine T4 I (Yp I (Km I (T4 I (Yp I (Nn (WX.joinP (()) (S6 I I I I I I) (by refine (Sc ?_ (S0 _)) <;> ((refine ai rfl ?_; (try dsimp only); (simp [*]; done)))) ?_ (fun _ h => h))))))); (try dsimp only); done
   ·refine Kf 1 I u35 I I I .tc u22 ?_; refine Kc I (fun w hS => av (a := s.e)) (Yt I (Yq I (Km I (Nc 42 I (fun hg42 => ?_) (fun hg42 => ?_)))))
    ·refine T4 I (Yp I (Nn (WX.joinP (()) (S6 I I I I I I) (by refine (Sc ?_ (S0 _)) <;> ((refine ai rfl ?_; (try dsimp only); (simp [*]; done)))) ?_ (fun _ h => h)))); (try dsimp only); done
    ·refine Kf 2 I u35 I I I .tc u22 ?_; refine Kc I (fun w hS => av (a := s.v)) (Yt I (Yq I (Nn (WX.joinP (()) (S6 I I I I I I) (by refine (Sc ?_ (S0 _)) <;> ((refine ai rfl ?_; (try dsimp only); (simp [*]; done)))) ?_ (fun _ h => h))))); (try dsimp only); done
  ·rintro _ hmeet; (try dsimp only at hmeet ⊢); refine Ci I (fun hc47 => ?_) (fun hc47 => ?_)
   ·have hr : ck p k s t = (([], (false, []), bH), 3) := by rw [ck, Aa (fun h => h h0), Ab hc47]
    refine Cs (Kq I (Kb [[.bool false], [.string (S [])]] I I) (Kq I (Kb [[.slice none 0 0], [.string (S [])], [.int .i64 0]] I I) (Ka I (Nu I I (Sa I I I .tc) (Nu I I (Sa I I I .tc) (Ka I (Nt (Ce (Xb ?_))))))))); exact Rn I (.tmp I (.agg I .tc u37 I (by kernel_rfl) (.agg I .tc u41 I (by kernel_rfl) (.tmp I .nil)))) fun w' hS => ⟨⟨none, 0, []⟩, by rw [hr]; rfl, by rw [hr]; rfl, by rw [hr]; exact cz hS⟩
   ·have hok : okN s.a ∧ okN s.e ∧ okN s.v := As.1 hc47; refine Ck (Xa (Cq (Cs (Kq I (Fa (q := 1) I I u33 I I) (Kq I (ldp I I .tc u26 I (by kernel_rfl : _ = some 2) (by rfl) (by rfl)) ?_))))); refine Kf 0 I u35 I I I .tc u22 ?_; refine Kc I (fun w hS => qG (g := k.g) (x := s.a) (by assumption)) (Ns 54 I (v' := .bool (decide (elG k.g s.a))) (congrArg Value.bool (by simp [hg])) ?_); refine Yt I (Nt (Ci I (fun hc55 => ?_) (fun hc55 => ?_)))
    ·have hn : ¬ elG k.g s.a := by simpa using hc55
     have hr : ck p k s t = (([], (false, []), bH), 13) := by rw [ck, Aa (fun h => h h0), Aa (fun h => h hok), Ab hn]
     refine Cs (Kq I (Kb [[.bool false], [.string (S [])]] I I) (Kq I (Kb [[.slice none 0 0], [.string (S [])], [.int .i64 0]] I I) (Ka I (Nu I I (Sa I I I .tc) (Nu I I (Sa I I I .tc) (Ka I (Nt (Ce (Xb ?_))))))))); exact Rn I (.tmp I (.agg I .tc u37 I (by kernel_rfl) (.agg I .tc u41 I (by kernel_rfl) (.tmp I .nil)))) fun w' hS => ⟨⟨none, 0, []⟩, by rw [hr]; rfl, by rw [hr]; rfl, by rw [hr]; exact cz hS⟩
    ·have hel : elG k.g s.a := by simpa using hc55
     refine Ck (Xa (Cs (Kq I (lda I I .tc u41 I ?_) ?_)))
     ·kernel_rfl
     refine Kf 16 I u30 I I I .tc u22 ?_; refine Kh I (Oc I I (ku fun w hS => uy (t := t) (n := p.msk) (by (exact hS.sl)) (by assumption) (by assumption))) ?_; intro g62; refine WL.pu ?_; intro hg62; (try dsimp only at hg62 ⊢); refine Km I (Ye I (Ye I (Ye I (Kh I (Oz [.slice none 0 0, .string (S []), .int .i64 0] I) ?_)))); intro b14; refine Ka I (Nu I I (Sa I I I .tc) (Ka I (Nt (Cq (Cs (Km I (Yj I (Nt (Ci I (fun hc67 => ?_) (fun hc67 => ?_))))))))))
     ·have hr : ck p k s t = (([], (false, []), bH), (ap t p.msk).2.2) := by rw [ck, Aa (fun h => h h0), Aa (fun h => h hok), Aa (fun h => h hel), Ab (by simpa using hc67)]
      refine Cs (Kq I (Kb [[.bool false], [.string (S [])]] I I) (Kq I (Kb [[.slice none 0 0], [.string (S [])], [.int .i64 0]] I I) (Km I (Ka I (Nu I I (Sa I I I .tc) (Nu I I (Sa I I I .tc) (Ka I (Nt (Ce (Xb ?_)))))))))); exact Rn I (.tmp I (.agg I .tc u37 I (by kernel_rfl) (.agg I .tc u41 I (by kernel_rfl) (.tmp I .nil)))) fun w' hS => ⟨⟨none, 0, []⟩, by rw [hr]; rfl, by rw [hr]; rfl, by rw [hr]; exact cz hS⟩
     ·have hb0 : (ap t p.msk).2.2 = 0 := by simpa using hc67
      have hgt : dA t := pb hb0; have hbk := mM hb0 hgt ((hI (db h0).1).1.1 _ (by simp)); have hzr := ny hbk.1; have hpw := z8 hg hks hzr; have hpm := uE hg hel hks hzr; have er : aE (ap t p.msk).1 = (false, (ap t p.msk).1) := cX hbk.1; have ee : aE s.e = (false, s.e) := cX hok.2.1; have ev : aE s.v = (false, s.v) := cX hok.2.2; refine Ck (Xa (Cq (Cf [4, 5, 0, 1, 2, 3, 6, 7, 8, 9, 10, 11] [] [0, 0, 0, 0, 0, 1, 1, 0, 0, 0, 0, 0] (by kernel_rfl) (by kernel_rfl) I ?_))); refine Kj I (Rm I I) ?_; refine Jv I I I I I (fun ext => Oc I I (Kv fun w hS => m7 (x := (ap t p.msk).1))) ?_; refine Kj I (Fa (q := 1) I I u33 I I) ?_; refine Kj I (ldp I I .tc u26 I (by kernel_rfl : _ = some 2) (by rfl) (by rfl)) ?_; refine Kj I (Fa (q := 4) I I u33 I I) (Kj I (Ld I I .tc u22) ?_); refine Jv I I I I I (fun ext => Oc I I (Kv fun w hS => wV (g := k.g) (x := k.s) (z := (false, (ap t p.msk).1)) (by exact hk8) (by exact hg) (by exact hks) (by exact hzr))) ?_; refine Kj I (Rm I I) (Kj I (Re I I I) (Kj I (Re I I I) (Kj I (Ra I I) (Kj I (Ra I I) ?_)))); refine WJ.nil ?_; refine Nt (Cs (Kq I (Fa (q := 1) I I u33 I I) (Kq I (ldp I I .tc u26 I (by kernel_rfl : _ = some 2) (by rfl) (by rfl)) ?_))); refine Kf 0 I u35 I I I .tc u22 ?_
      refine Km I (Kc I (fun w hS => wU (g := k.g) (a := s.a) (b := ae (dx (val k.g.1) (val k.s) (zv (false, (ap t p.msk).1)))) (by exact hk8) (by exact hg) (by exact hel) (by exact hpw)) (Km I (Ye I (Ye I (Ka I (Ka I (Nt (Cs (Kf 1 I u35 I I I .tc u22 ?_))))))))); refine Kc I (fun w hS => m7 (x := s.e)) (Km I (Kc I (fun w hS => m7 (x := (ap t p.msk).1)) (Kc I (fun w hS => m4 (x := (false, s.e)) (y := (false, (ap t p.msk).1))) (Km I (Ye I (Ye I (Kh I (Oz [.bool false, .string (S [])] I) ?_))))))); intro b20; refine Nu I I (Sa I I I .tc) (Ka I (Nt (Cq (WC.free (K := [⟨some b20, [.bool (bP (false, s.e) (false, (ap t p.msk).1)).1.1, .string (S (bP (false, s.e) (false, (ap t p.msk).1)).1.2)], 37⟩, ⟨some b6, [.string (S s.a), .string (S s.e), .string (S s.v)], 35⟩]) (fs0 := []) [0, 1, 2, 3, 4, 5, 6, 8, 9, 7, 10] [] [0, 0, 1, 0, 1, 0, 0, 0, 3, 1, 0] (by kernel_rfl) (by kernel_rfl) I ?_)))); refine Kj I (Fa (q := 2) I I u35 I I) (Kj I (Ld I I .tc u22) ?_); refine Jv I I I I I (fun ext => Oc I I (Kv fun w hS => m7 (x := s.v))) ?_; refine Kj I (lda I I .tc u37 I ?_) ?_
      ·kernel_rfl
      refine Jv I I I I I (fun ext => Oc I I (Kv fun w hS => qx (x := (false, s.v)) (y := (bP (false, s.e) (false, (ap t p.msk).1)).1))) ?_; refine Kj I (Rm I I) (Kj I (Re I I I) ?_); refine Jf I I I I I (cg I (v := (.agg #[.bool false, .string (S [])])) (cs := [.bool false, .string (S [])]) (by kernel_rfl) I) ?_; intro b22; refine WJ.st I I I I (ie I I I ?_ ?_ ?_) ?_
      ·kernel_rfl
      ·simp [Value.oneCell']
      ·rfl
      refine Kj I (Re I I I) (Kj I (Ra I I) ?_); refine WJ.nil ?_; refine Nt (Cq (WC.joinP (σ := Unit) [(9, _), (10, _), (14, _), (18, _), (22, _)] (fun gq => [(112, .bool (decide ((bP (false, s.e) (false, (ap t p.msk).1)).2 ≠ 0 ∨ (cR (false, s.v) (bP (false, s.e) (false, (ap t p.msk).1)).1).2 ≠ 0)))]) (fun gq => True) (S5 I I I I I) ?_ ?_))
      ·skip
       refine Cg (Km I (Yj I (Km I (Nc 109 I (fun hg109 => ?_) (fun hg109 => ?_)))))
       ·refine T2 I (Yp I (Nn (WX.joinP (()) (S5 I I I I I) (by refine (Sc ?_ (S0 _)) <;> ((refine ai rfl ?_; (try dsimp only); (simp [*]; done)))) ?_ (fun _ h => h)))); (try dsimp only); done
       ·refine Km I (Yj I (Yq I (Nn (WX.joinP (()) (S5 I I I I I) (by refine (Sc ?_ (S0 _)) <;> ((refine ai rfl ?_; (try dsimp only); (simp [*]; done)))) ?_ (fun _ h => h))))); (try dsimp only); done
      ·rintro _ hmeet; (try dsimp only at hmeet ⊢); refine Ci I (fun hc112 => ?_) (fun hc112 => ?_)
       ·have hr : ck p k s t = (([], (false, []), bH), 5) := by rw [ck, Aa (fun h => h h0), Aa (fun h => h hok), Aa (fun h => h hel), Aa (fun h => h hb0), er, ee, ev, Ab hc112]
        refine Cs (Kq I (Kb [[.bool false], [.string (S [])]] I I) (Kq I (Kb [[.slice none 0 0], [.string (S [])], [.int .i64 0]] I I) (Ka I (Nu I I (Sa I I I .tc) (Nu I I (Sa I I I .tc) (Ka I (Nt (Ce (Xb ?_))))))))); exact Rn I (.tmp I (.agg I .tc u37 I (by kernel_rfl) (.agg I .tc u41 I (by kernel_rfl) (.tmp I .nil)))) fun w' hS => ⟨⟨none, 0, []⟩, by rw [hr]; rfl, by rw [hr]; rfl, by rw [hr]; exact cz hS⟩
       ·have hr : ck p k s t = (((cd k.g [s.a, k.s] [ofZ 1, (false, (ap t p.msk).1)]).1, (cR (false, s.v) (bP (false, s.e) (false, (ap t p.msk).1)).1).1, (ap t p.msk).2.1), 0) := by rw [ck, Aa (fun h => h h0), Aa (fun h => h hok), Aa (fun h => h hel), Aa (fun h => h hb0), er, ee, ev, Aa hc112]
        rw [hpm] at hr; refine Ck (Xa (Cq (WC.free (K := [⟨some b22, [.bool (cR (false, s.v) (bP (false, s.e) (false, (ap t p.msk).1)).1).1.1, .string (S (cR (false, s.v) (bP (false, s.e) (false, (ap t p.msk).1)).1).1.2)], 37⟩, ⟨some b14, [g62.val (ap t p.msk).2.1.vals.length, .string (S (ap t p.msk).2.1.seed), .int .i64 (ap t p.msk).2.1.at_], 41⟩]) (fs0 := []) [0, 1, 3, 4, 2] [5, 6] [0, 0, 0, 0, 1, 2, 2] (by kernel_rfl) (by kernel_rfl) I ?_))); refine Kj I (Rm I I) ?_; refine Kj I (lda I I .tc u37 I ?_) ?_
        ·kernel_rfl
        refine Kj I (Ra I I) ?_; refine WJ.st I I I I (ie I I I ?_ ?_ ?_) ?_
        ·kernel_rfl
        ·simp [Value.oneCell']
        ·rfl
        refine Kj I (lda I I .tc u41 I ?_) ?_
        ·kernel_rfl
        refine WJ.nil ?_; refine Nu I I (Sa I I I .tc) (Ka I (Nt (Ce ?_))); exact Rn I (.tmp I (.agg I .tc u37 I (by kernel_rfl) (.agg I .tc u41 I (by kernel_rfl) (.tmp I .nil)))) fun w' hS => ⟨g62, by rw [hr]; rfl, by rw [hr]; exact hg62, by rw [hr]; exact aw _ hS⟩
theorem xU {p : PR} {k : IK} (h : lw p k = true) : p.mn.1.1.length ≤ 8 ∧ k.g.1.length ≤ 8 ∧ k.r.length ≤ 8 ∧ k.name.length ≤ 60 := by
 simp only [lw, Cr, decide_eq_true_eq, B3, List.any_eq_false] at h
 obtain ⟨h1, h2, h3⟩ := h
 have m1 := h3 p.mn.1.1 (by simp [fL, ig, pk4])
 have m2 := h3 k.g.1 (by simp [fL])
 omega
theorem uk (p : PR) (k : IK) (s : SG) (t : Tp) : (ck p k s t).1.2.2.vals.length ≤ t.vals.length := by
 unfold ck
 split
 ·simp [bH]
 ·split
  ·simp [bH]
  ·split
   ·simp [bH]
   ·split
    ·simp [bH]
    ·split
     ·simp [bH]
     ·exact pa t p.msk
theorem shrnd_l {p : PR} {k : IK} {q : CS} {ra ma da va za xa : Option Addr} {rc mc dc vc zc' xc : Nat} {w : World} {ok : Nat → Prop} (hF1 : (Fact.sl ra (an k.r)).holds ok w) (hF2 : (Fact.sl ma (an q.ms)).holds ok w) (hF3 : (Fact.sl da (ir q.d)).holds ok w) (hF4 : (Fact.sl va (an q.vs)).holds ok w) (hF5 : (Fact.sl za (bp q.ws)).holds ok w) (hF6 : (Fact.sl xa (an q.t.vals)).holds ok w) (hr : k.r.length ≤ 1048576) (hm : q.ms.length ≤ 1048576) (hd : q.d.length ≤ 1048576) (hv : q.vs.length ≤ 1048576) (hz : q.ws.length ≤ 1048576) (hx : q.t.vals.length ≤ 1048576) (hT : Tab w) (hD : TabD w) :
  Cw 3 #[prV p, ikV k (.slice ra k.r.length rc), csV q (.slice ma q.ms.length mc) (.slice da q.d.length dc) (.slice va q.vs.length vc) (.slice za q.ws.length zc') (.slice xa q.t.vals.length xc)] w (.bool true) := by
 refine En [Fact.sl ra (an k.r), Fact.sl ma (an q.ms), Fact.sl da (ir q.d), Fact.sl va (an q.vs), Fact.sl za (bp q.ws), Fact.sl xa (an q.t.vals)] [(0, prV p), (1, ikV k (.slice ra k.r.length rc)), (2, csV q (.slice ma q.ms.length mc) (.slice da q.d.length dc) (.slice va q.vs.length vc) (.slice za q.ws.length zc') (.slice xa q.t.vals.length xc))] Tryz.func3 I Tryz.ntmps3 I (Ac I (Ac I (Ac I (An _)))) (Fc (ah hF1) (Fc (ah hF2) (Fc (ah hF3) (Fc (ah hF4) (Fc (ah hF5) (Fc (ah hF6) Fn)))))) (Cs (Kh I (Oy I I) ?_))
 intro b3
 refine Kh I (Oy I I) ?_
 intro b4
 refine Kh I (Oy I I) ?_
 intro b5
 refine Ka I (Nt (Cq (WC.joinP (σ := Unit) [(3, _), (4, _), (5, _)] (fun gq => [(23, .bool (decide (¬ (lw p k = true ∧ gQ q))))]) (fun gq => True) (S3 I I I) ?_ ?_)))
 ·skip
  refine Cg (Kq I (lda I I .tc u30 I ?_) ?_)
  ·kernel_rfl
  refine Kq I (lda I I .tc u33 I ?_) ?_
  ·kernel_rfl
  refine Kc I (fun w hS => xV (p := p) (k := k) (by (exact hS.sl)) (by assumption)) (Yt I (Km I (Nc 19 I (fun hg19 => ?_) (fun hg19 => ?_))))
  ·refine T2 I (Kt I (Yp I (Nn (WX.joinP (()) (S3 I I I) (by refine (Sc ?_ (S0 _)) <;> ((refine ai rfl ?_; (try dsimp only); (simp [*]; done)))) ?_ (fun _ h => h))))); (try dsimp only); done
  ·refine Kq I (lda I I .tc u43 I ?_) ?_
   ·kernel_rfl
   refine Kc I (fun w hS => rZ (q := q) (by (exact hS.sl)) (by (exact hS.sl)) (by (exact hS.sl)) (by (exact hS.sl)) (by (exact hS.sl)) (by assumption) (by assumption) (by assumption) (by assumption) (by assumption)) (Yt I (Yq I (Nn (WX.joinP (()) (S3 I I I) (by refine (Sc ?_ (S0 _)) <;> ((refine ai rfl ?_; (try dsimp only); (simp [*]; done)))) ?_ (fun _ h => h))))); (try dsimp only); done
 ·rintro _ hmeet; (try dsimp only at hmeet ⊢)
  refine Ci I (fun hc23 => ?_) (fun hc23 => ?_)
  ·refine Cs (Kc I (fun w hS => mN (by (exact fb hT hS)) (by (exact bF hD hS))) (Ka I (Nt (Ce (Xb ?_))))); exact R1 I I (by rfl)
  ·obtain ⟨hfw, hsm⟩ := As.1 hc23; obtain ⟨hm8, hk8, hk8', hk60⟩ := xU hfw; have hxs := hsm.2.2.2.2.1; have hse := hsm.2.2.2.2.2.1; have hl := uk p k q.sg q.t; refine Ck (Xa (Cs (Kq I (lda I I .tc u30 I ?_) ?_)))
   ·kernel_rfl
   refine Kq I (lda I I .tc u33 I ?_) ?_
   ·kernel_rfl
   refine Kq I (Fa (q := 0) I I u43 I I) (Kq I (ldp I I .tc u35 I (by kernel_rfl : _ = some 3) (by rfl) (by rfl)) ?_); refine Kq I (Fa (q := 10) I I u43 I I) (Kq I (ldp I I .tc u41 I (by kernel_rfl : _ = some 3) (by rfl) (by rfl)) ?_); refine Kh I (Oc I I (eV fun w hS => qt (p := p) (k := k) (s := q.sg) (t := q.t) (by (exact hS.sl)) (by (exact hS.sl)) (by assumption) (by assumption) (by omega) (by omega) (by omega) (by omega) (by (exact fb hT hS)) (by (exact bF hD hS)))) ?_; intro g32; refine WL.pu ?_; intro hg32; (try dsimp only at hg32 ⊢); refine Km I (Ye I (Ye I (Ye I (Ye I (Kh I (Oz [.bool false, .string (S [])] I) ?_))))); intro b8; refine Kh I (Oz [.slice none 0 0, .string (S []), .int .i64 0] I) ?_; intro b9; refine Ka I (Nu I I (Sa I I I .tc) (Nu I I (Sa I I I .tc) (Ka I (Nt (Cs (Kq I (lda I I .tc u30 I ?_) ?_))))))
   ·kernel_rfl
   refine Kq I (lda I I .tc u33 I ?_) ?_
   ·kernel_rfl
   refine Kq I (Fa (q := 0) I I u43 I I) (Kq I (ldp I I .tc u35 I (by kernel_rfl : _ = some 3) (by rfl) (by rfl)) ?_); refine Kq I (Fa (q := 10) I I u43 I I) (Kq I (ldp I I .tc u41 I (by kernel_rfl : _ = some 3) (by rfl) (by rfl)) ?_); refine Kh I (Oc I I (eV fun w hS => uh (p := p) (k := k) (s := q.sg) (t := q.t) (by (exact hS.sl)) (by (exact hS.sl)) (by assumption) (by assumption) (by omega) (by omega) (by omega) (by omega))) ?_; intro g44; refine WL.pu ?_; intro hg44; (try dsimp only at hg44 ⊢); refine Km I (Ye I (Ye I (Ye I (Ye I (Kh I (Oz [.bool false, .string (S [])] I) ?_))))); intro b12; refine Kh I (Oz [.slice none 0 0, .string (S []), .int .i64 0] I) ?_; intro b13; refine Ka I (Nu I I (Sa I I I .tc) (Nu I I (Sa I I I .tc) (Ka I (Nt (Cs (Km I (Km I (Ys I (Km I (Ns 52 I (v' := .bool true) (by (exact congrArg Value.bool (by simp [*]; done))) ?_)))))))))); refine Kq I (lda I I .tc u37 I ?_) ?_
   ·kernel_rfl
   refine Kq I (lda I I .tc u37 I ?_) ?_
   ·kernel_rfl
   refine Kq I (zh I I I (by kernel_rfl) (fun w => gI _ _ _ _ w)) ?_; refine Yp I (Km I (Ns 57 I (v' := .bool true) (by (exact congrArg Value.bool (by simp [*]; done))) ?_)); refine Kq I (lda I I .tc u41 I ?_) ?_
   ·kernel_rfl
   refine Kq I (lda I I .tc u41 I ?_) ?_
   ·kernel_rfl
   refine Kc I (fun w hS => wR (t := (ck p k q.sg q.t).1.2.2) (u := (ck p k q.sg q.t).1.2.2) (by (exact hS.sl)) (by (exact hS.sl)) (by omega) (by omega)) (Yp I (Km I (Ns 62 I (v' := .bool true) (by (exact congrArg Value.bool (by simp [*]; done))) ?_))); refine Km I (Km I (Yi I (Yp I (Km I (Ns 67 I (v' := .bool true) (by (exact congrArg Value.bool (by simp [*]; done))) ?_))))); refine Kc I (fun w hS => mN (by (exact fb hT hS)) (by (exact bF hD hS))) (Yp I (Ka I (Nt (Ce ?_)))); exact R1 I I (by rfl)
theorem laidVars_tail {P : Program} {w : World} {x : String × DataW Unit} {r : List (String × DataW Unit)} {ps : List MemPlace} (h : DataW.LaidVars P w (x :: r) ps) : ∃ q, DataW.LaidVars P w r q := by
 obtain ⟨n, d⟩ := x
 obtain ⟨g, t, cs, fuel, p, q, _, _, _, _, h, _⟩ := h
 exact ⟨q, h⟩
theorem tab_of_vars {P : Program} {W : World} {name : String} {k : IntKind} {zs : List Int} {rest : List (String × DataW Unit)} {ps : List MemPlace} {t e : TypeId} {n : Nat}
  (hty : ((P.globalNamed name).bind fun g => (P.globals[g]?).map (·.type)) = some t) (ht : P.underlying t = some (.array n e)) (he : P.underlying e = some (.int k)) (hce : P.cellsOf e = 1) (hct : P.cellsOf t = n)
  (h : DataW.LaidVars P W ((name, Lib.tabData k zs) :: rest) ps) : Lib.TabIs P W name k zs := by
 obtain ⟨g', t', cs, fuel, p, q, hg', ht', hvar, hd, _, _⟩ := h
 rw [hg', Option.bind_some] at hty
 obtain rfl := Option.some.inj (hty.symm.trans ht')
 unfold Lib.TabIs
 rw [hvar, ← Lib.cells_of_tab ht he hce hct hd]
theorem wf_u8 {n : Int} (h : (Lit.int .u8 n).wf = true) : 0 ≤ n ∧ n ≤ 255 := by
 have e1 : IntKind.u8.min = 0 := by decide
 have e2 : IntKind.u8.max = 255 := by decide
 simp [Lit.wf, e1, e2] at h; omega
theorem wf_i64 {n : Int} (h : (Lit.int .i64 n).wf = true) : -9223372036854775808 ≤ n ∧ n ≤ 9223372036854775807 := by
 have e1 : IntKind.i64.min = -9223372036854775808 := by decide
 have e2 : IntKind.i64.max = 9223372036854775807 := by decide
 simp [Lit.wf, e1, e2] at h; omega
theorem tabd_of_is {W : World} (h : Lib.TabIs Tryz.prog W "math/bits.deBruijn64tab" .u8 (Lib.deBruijn64tab.map fun n : Nat => (n : Int))) : TabD W := by
 intro j hj
 have h1 : W.var? Tryz.prog "math/bits.deBruijn64tab" = some ((Lib.deBruijn64tab.map fun n : Nat => (n : Int)).map fun z => Value.int .u8 z).toArray := h
 have hg : Tryz.prog.globalNamed "math/bits.deBruijn64tab" = some (renTz.g 1) := by kernel_rfl
 unfold World.var? at h1
 rw [hg, Option.bind_some] at h1
 unfold World.cell?
 show (match W.heap[renTz.g 1]? with | some (.cells c _ _) => if (none : Option _).isSome = true then none else c[j]? | _ => none) = _
 cases hh : W.heap[renTz.g 1]? with
 | none => rw [hh] at h1; cases h1
 | some o =>
  rw [hh] at h1
  cases o with
  | cells c t k =>
   simp only [Option.some.injEq] at h1; subst h1; rw [List.map_map]; simp only [Option.isSome_none, C4, if_false, C9, A8]; rw [List.getD_eq_getElem?_getD, Ad hj]; rfl
  | _ => cases h1
end Go.Proofs.YtkdlonihbjhhoaaGreatDoor
namespace Go.Proofs.YtkdlonihbjhhoaaGreatDoor
set_option linter.unusedSimpArgs false
set_option linter.unusedVariables false
open Go.ChangeShapes Go.WideShapes Go.ChangeAt Go.RowKit
theorem vS {H : Type} (d : DataW H) : 1 ≤ Rows.uptoBulk d := by
 cases d with
 | lit l => cases l <;> simp [Rows.uptoBulk]
 | _ => simp [Rows.uptoBulk]
theorem ia {H : Type} {d : DataW H} : ∀ {l : List (DataW H)}, d ∈ l → Rows.uptoBulk d ≤ Rows.uptoBulkAll l
 | [], h => by cases h
 | x :: l, h => by
  simp only [Rows.uptoBulkAll]
  rcases A9.1 h with rfl | h
  ·omega
  ·have := ia h; omega
theorem o8 {H : Type} : ∀ l : List (DataW H), l.length ≤ Rows.uptoBulkAll l
 | [] => by simp [Rows.uptoBulkAll]
 | x :: l => by have := vS x; have := o8 l; simp only [Rows.uptoBulkAll, Al]; omega
def Wu {H : Type} (P : Program) (t : TypeId) (d : DataW H) : Prop := Wt P t d ∧ Rows.uptoBulk d ≤ 1048576
theorem wu_all {H : Type} {P : Program} {t : TypeId} {d : DataW H} {l : List (DataW H)} (h : Wt P t d) (hd : d ∈ l) (hb : Rows.uptoSmall H l = true) : Wu P t d := ⟨h, by
 have h1 := ia hd
 have h2 : Rows.uptoBulkAll l ≤ 1048576 := of_decide_eq_true hb
 omega⟩
section
variable {H : Type} {enc : TypeId × Value → H} {P : Program} {w : World} {spare : Nat → Bool} {held : Bool} {fuel : Nat} {t e : TypeId} {cs : List Value} {x : DataW H × List MemPlace}
theorem opu_str (ht : P.underlying t = some .string) (h : DataW.trod enc P w 0 spare held fuel t cs = some x) (hz : Wu P t x.1) : ∃ s : List UInt8, cs = [.string (S s)] ∧ s.length ≤ 140737488351232 := xD ht h hz.1
theorem opu_struct {fs : Array Field} (ht : P.underlying t = some (.struct fs)) (h : DataW.trod enc P w 0 spare held fuel t cs = some x) (hz : Wu P t x.1) :
  cs.length = P.cellsOf t ∧ ∃ m, ∀ (j : Nat) f, fs.toList[j]? = some f → ∃ y, DataW.trod enc P w 0 spare held m f.type ((cs.drop f.offset).take (P.cellsOf f.type)) = some y ∧ Wu P f.type y.1 := by
 cases fuel with
 | zero => simp [DataW.trod] at h
 | succ n =>
  simp only [DataW.trod, ht] at h
  split at h
  ·rename_i hl; refine ⟨hl, n, fun j f hf => ?_⟩; obtain ⟨xs, hxs, rfl⟩ := D6.1 h; obtain ⟨z, h1, h2⟩ := ll hxs j f hf; refine ⟨z, h1, fun n hn => hz.1 n ?_, ?_⟩
   ·simp only [DataW.weights, ht]; exact DataW.weights_mem_each (j := j) (by rw [A8, hf]; rfl) (by rw [A8, h2]; rfl) n hn
   ·have hb := hz.2; simp only [Rows.uptoBulk] at hb; have := ia (d := z.1) (l := xs.map (·.1)) (C3.2 ⟨z, A7 h2, rfl⟩); omega
  ·cases h
theorem opu_slice {α : Type} [Inhabited α] {cells : α → List Value} {F : α → Prop} (sz bz : Nat) (hbz : P.bytesOf e = bz) (ht : P.underlying t = some (.slice e)) (hc : P.cellsOf e = sz) (hsz : ∀ a, (cells a).length = sz)
  (hel : ∀ m cs (y : DataW H × List MemPlace), DataW.trod enc P w 0 (fun _ => true) held m e cs = some y → Wu P e y.1 → ∃ a : α, cs = cells a ∧ F a) (h : DataW.trod enc P w 0 (fun _ => true) held fuel t cs = some x) (hz : Wu P t x.1) :
  ∃ s : Sl α, cs = [s.val] ∧ s.l.length ≤ s.cap ∧ s.cap * bz ≤ 140737488351232 ∧ s.l.length ≤ 1048576 ∧ (Fact.sl s.a (s.l.flatMap cells)).holds (fun _ => True) w ∧ ∀ y ∈ s.l, F y := by
 cases fuel with
 | zero => simp [DataW.trod] at h
 | succ n =>
  simp only [DataW.trod, ht] at h
  split at h
  all_goals (try (rename_i hq; cases hq; done))
  all_goals (try (cases h; done))
  all_goals (try (rename_i hq _; cases hq; done))
  ·exact ⟨⟨none, [], 0⟩, rfl, Bg _, by simp, Am _, .inl rfl, by simp⟩
  ·rename_i e' a len cap he
   cases he; split at h <;> try cases h
   rename_i hb; obtain ⟨elems, hm, h'⟩ := Option.bind_eq_some_iff.1 h; simp only [if_true] at h'; obtain ⟨rest, hr, rfl⟩ := D6.1 h'; have hzl : ∀ n ∈ (DataW.slice (elems.map (·.1)) (rest.map (·.1))).weights P t, n ≤ 140737488351232 := hz.1; have hbk := hz.2; simp only [Rows.uptoBulk] at hbk; have hln := o8 (elems.map (·.1)); have hml := iY hm; simp only [Ag, List.length_range] at hln hml; simp only [DataW.weights, ht] at hzl
   have hcb : cap * bz ≤ 140737488351232 := by
    have h1 := hzl _ (List.mem_cons_self); have h2 := iY hm; have h3 := iY hr; simp only [Ag, List.length_range] at h1 h2 h3; rw [hbz, h2, h3, show len + (cap - len) = cap by omega] at h1; exact h1
   have hall : ∀ i, i < len → ∃ ys : List Value, w.cells? 0 (a.add (i * sz)) sz = some ys ∧ ∃ q : α, ys = cells q ∧ F q := fun i hi => by
    obtain ⟨z, hz1, hz2⟩ := ll hm i i (List.getElem?_range hi); obtain ⟨ys, h1, h2⟩ := Option.bind_eq_some_iff.1 hz1; rw [hc] at h1; obtain ⟨q, hq, hF⟩ := hel _ _ _ h2 ⟨fun n hn => hzl n (C5 _ (List.mem_append_left _ (f9 (C3.2 ⟨z, A7 hz2, rfl⟩) hn))), by have := ia (d := z.1) (l := elems.map (·.1)) (C3.2 ⟨z, A7 hz2, rfl⟩); omega⟩; exact ⟨ys, h1, q, hq, hF⟩
   have hlist : ∀ k, k ≤ len → ∃ l : List α, l.length = k ∧ (∀ y ∈ l, F y) ∧ ∀ i, i < k → w.cells? 0 (a.add (i * sz)) sz = some (cells (l.getD i default)) := by
    intro k
    induction k with
    | zero => intro _; exact ⟨[], rfl, by simp, fun i hi => by omega⟩
    | succ k ih =>
     intro hk; obtain ⟨l, h1, h2, h3⟩ := ih (by omega); obtain ⟨ys, hy, q, rfl, hF⟩ := hall k (by omega); refine ⟨l ++ [q], by simp [h1], fun y hy' => ?_, fun i hi => ?_⟩
     ·rcases B1.1 hy' with h | h
      ·exact h2 y h
      ·simp at h; subst h; exact hF
     ·by_cases hik : i = k
      ·subst hik; rw [hy]; simp [List.getD, ← h1]
      ·rw [h3 i (by omega)]; simp only [List.getD]; rw [Bp (by omega)]
   obtain ⟨l, h1, h2, h3⟩ := hlist len (Bg _); refine ⟨⟨some a, l, cap⟩, by simp [h1], by simp [h1]; exact hb.2.1, hcb, by rw [h1]; omega, se fun i v hv => ?_, h2⟩; have hlen := aj l cells sz hsz; have hi : i < l.length * sz := by rw [← hlen]; exact (Ap.1 hv).1
   have hs0 : 0 < sz := by rcases B4 sz with h0 | h0; · subst h0; omega
                           ·exact h0
   have hj : i / sz < l.length := Nat.div_lt_of_lt_mul (by rw [Aj]; exact hi); obtain ⟨_, h5⟩ := cells?_get (h3 (i / sz) (by omega))
   have h6 := h5 (i % sz) v (by
    rw [← fS l cells sz hsz (i / sz) hj, Cv, Ab (Ao _ hs0), Cn, Aj, Ba]; exact hv)
   have e1 : (a.add (i / sz * sz)).add (i % sz) = a.add i := by
    have h7 : i / sz * sz + i % sz = i := by rw [Aj]; exact Ba i sz
    have h8 : ∀ p q : Nat, (a.add p).add q = a.add (p + q) := fun p q => by by_cases hp : p = 0 <;> by_cases hq : q = 0 <;> simp [Addr.add, hp, hq, Cp]
    rw [h8, h7]
   rw [e1] at h6; exact h6
end
end Go.Proofs.YtkdlonihbjhhoaaGreatDoor
