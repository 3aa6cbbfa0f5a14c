/-
  Parts of the walk: ShaB Sha5 Sha4 ShaC Eqt.
-/
import Derived.Test.YtkdlonihbjhhoaaGreatDoorT20
namespace Go.Proofs.YtkdlonihbjhhoaaGreatDoor
open Go.RowKit
set_option linter.unusedSimpArgs false
set_option linter.unusedVariables false
set_option maxHeartbeats 600000
set_option maxRecDepth 20000
def awP : PR := { ch := [2], sl := [2], mn := (([47], [23]), ([4], [9])), wh := (([77], []), ([4], [9])), sec := [23], attr := [2], han := [20], lo := [3], sz := [10], bl := [20], msk := [15] }
def awK : IK := { name := [105], g := ([77], []), z := [15], s := [4], r := [[64], [23], [1]], u := [4], h := [4] }
theorem zT : fN awP awK ⟨[53], [7], [2]⟩ ⟨[[4]], [], 0⟩ = (([16], (true, [26]), ⟨[[4]], [], 1⟩), 0) := by decide +kernel
theorem CA : shE awP awK [16] [2] [[1]] = 0 := by decide +kernel
theorem vF : shS awP awK [16] [2] [[1]] = (shT awP awK [16] [2] [[1]], 0) := by rw [shS, Aa (fun h => h CA)]
theorem BX : wiS awP ⟨[53], [7], [2]⟩ (true, [26]) [[1], [3], [1]] [2] = ([(false, [4]), (true, [26]), (false, [1]), (false, [3])], 0) := by decide +kernel
theorem BZ : tgS awP awK [16] [2] [[1]] = [1] := by decide +kernel
theorem zU : kX (shT awP awK [16] [2] [[1]]) [(false, [4]), (true, [26]), (false, [1]), (false, [3])] = (true, 0) := by decide +kernel
theorem vg {l m : List Zs} {i : Nat} (h1 : i < l.length) (h2 : i < m.length) (h : l.take i = m.take i) (e : l.getD i default = m.getD i default) : l.take (i + 1) = m.take (i + 1) := by
 rw [p5 h1, p5 h2, h, e]
theorem zL {l m : List Zs} {i : Nat} (e : ¬ l.getD i default = m.getD i default) : ¬ l = m := fun h => e (by rw [h])
theorem BF {l m : List Zs} {a b : Option Addr} {c d : Nat} {w : World} {ok : Nat → Prop} (hF1 : (Fact.sl a (bh l)).holds ok w) (hF2 : (Fact.sl b (bh m)).holds ok w) (hl : l.length ≤ 10000000) (hm : m.length ≤ 10000000) :
  Cw 21 #[.slice a l.length c, .slice b m.length d] w (.bool (decide (l = m))) := by
 refine En [Fact.sl a (bh l), Fact.sl b (bh m)] [(0, .slice a l.length c), (1, .slice b m.length d)] Tryz.func21 I Tryz.ntmps21 I (Ac I (Ac I (An _))) (Fc (ag hF1) (Fc (ag hF2) Fn)) (Cs (Ka I (Nt (Cq (Cs (Km I (Yo I u39 (Km I (Yo I u39 (Yj I (Nt (Ci I (fun hc10 => ?_) (fun hc10 => ?_)))))))))))))
 ·have hn : ¬ l = m := fun h => by subst h; simp at hc10
  refine Cs (Ka I (Nt (Ce (Xb ?_))))
  exact R1 I I (by rw [Am hn]; rfl)
 ·have hlen : l.length = m.length := by omega
  refine Ck (Xa (Cq (Cs (Km I (Yo I u39 (Km I (Nt (Cb (Lp (σ := Nat) [(0, _), (1, _), (12, _)] (fun gq => [(13, .int .i64 (gq : Int))]) (fun gq => gq ≤ l.length ∧ l.take gq = m.take gq) (fun gq => l.length - gq) (0) (S3 I I I) (S1 I) (by (try dsimp only); exact ⟨Ah _, by simp⟩) ?_)))))))))
  rintro i hinv1; (try dsimp only at hinv1 ⊢)
  obtain ⟨hi, hok⟩ := hinv1
  refine Cs (Yl I (Nt (Cq (Ci I (fun hc14 => ?_) (fun hc14 => ?_)))))
  ·have hil : i < l.length := by omega
   have him : i < m.length := by omega
   obtain ⟨x, hx⟩ : ∃ x, Keep (x = l.getD i default) := ⟨_, rfl⟩; obtain ⟨y, hy⟩ : ∃ y, Keep (y = m.getD i default) := ⟨_, rfl⟩; refine Ck (Xa (Cq (Cb (Cs (Km I (Ka I (Nt (Cq (Cf [0, 1, 2, 3, 4, 5, 6, 7, 8] [] [0, 0, 0, 0, 0, 0, 0, 0, 0] (by kernel_rfl) (by kernel_rfl) I ?_))))))))); refine Kj I (Rm I I) (Kj I (Rm I I) ?_); refine Kj I (Ia I I I u39 (by kernel_rfl : _ = some 2) (by omega) (by (rw [aj _ _ 2 (fun _ => rfl)]; omega))) ?_; refine Kj I (cw _ I I u37 I (by kernel_rfl : _ = some 2) (fun _ => rfl) (by decide) I (by assumption)) ?_; refine WJ.set 19 I (v' := zV x) (by rw [show x = _ from hx]) ?_; refine Kj I (Rm I I) (Kj I (Rm I I) ?_); refine Kj I (Ia I I I u39 (by kernel_rfl : _ = some 2) (by omega) (by (rw [aj _ _ 2 (fun _ => rfl)]; omega))) ?_; refine Kj I (cw _ I I u37 I (by kernel_rfl : _ = some 2) (fun _ => rfl) (by decide) I (by assumption)) ?_; refine WJ.set 23 I (v' := zV y) (by rw [show y = _ from hy]) ?_; refine Kj I (kE I I I (by kernel_rfl) (fun w => jF _ _ _ _ w)) ?_; refine WJ.nil ?_; refine Nt (Ci I (fun hc24 => ?_) (fun hc24 => ?_))
   ·have hn : ¬ l = m := zL (fun h => hc24 (by rw [show x = _ from hx, show y = _ from hy, h]; exact ⟨rfl, rfl⟩)); refine Cs (Ka I (Nt (Ce (Xf (Xb (Xb (Xf (Xb ?_)))))))); exact R1 I I (by rw [Am hn]; rfl)
   ·refine Ck (Xd (Xa (Cg (Kq I (Rz I I I (by omega)) (Km I (Nn (Ly (i + 1) (by (try dsimp only); omega) (S3 I I I) (by refine (Sc ?_ (S0 _)) <;> (rfl)) ?_ (fun _ h => h)))))))); (try dsimp only); exact ⟨hil, vg hil him hok (by rw [← show x = _ from hx, ← show y = _ from hy]; exact Prod.ext hc24.1 hc24.2)⟩
  ·refine Cx (Xc (Xc (Xe ?_))); obtain rfl : i = l.length := by omega
   rw [Al, hlen, Al] at hok; refine Xa (Cs (Ka I (Nt (Ce ?_)))); exact R1 I I (by rw [Ao hok]; rfl)
theorem tN {w : World} :
  Calls Tryz.prog 38 #[] w fun e w' => ∃ g : Rs, e = .returned (.tuple #[prV awP, ikV awK (g.val 3)]) ∧ g.cap = 3 + g.sp.length ∧ St (fun _ => True) w [g.ent (ap awK.r) 22] [] w' := by
 refine En [] [] Tryz.func38 I Tryz.ntmps38 I (An _) Fn (Cs (Kh I (Oz [.string (S []), .string (S []), .string (S []), .string (S []), .string (S []), .string (S []), .string (S []), .string (S []), .string (S []), .string (S []), .string (S []), .string (S []), .string (S []), .string (S []), .string (S []), .string (S []), .string (S [])] I) ?_))
 intro b0
 refine Kh I (Oz [.string (S []), .string (S []), .string (S []), .string (S []), .string (S []), .slice none 0 0, .string (S []), .string (S [])] I) ?_
 intro b1
 refine Nt (Cs (Kq I (Kb [[.string (S [])], [.string (S [])]] I I) (Kq I (Kb [[.string (S [])], [.string (S [])]] I I) (Kq I (Kb [[.string (S []), .string (S [])], [.string (S [])], [.string (S [])]] I I) (Kq I (Kb [[.string (S [])], [.string (S [])]] I I) (Kq I (Kb [[.string (S []), .string (S [])], [.string (S [])], [.string (S [])]] I I) (Kq I (Kb [[.string (S []), .string (S [])], [.string (S []), .string (S []), .string (S []), .string (S [])], [.string (S []), .string (S []), .string (S []), .string (S [])], [.string (S [])], [.string (S [])], [.string (S [])], [.string (S [])], [.string (S [])], [.string (S [])], [.string (S [])]] I I) ?_)))))))
 refine Kh I (Oz [.string (S []), .string (S []), .string (S []), .string (S []), .string (S []), .string (S []), .string (S []), .string (S []), .string (S []), .string (S []), .string (S []), .string (S []), .string (S []), .string (S []), .string (S []), .string (S []), .string (S [])] I) ?_
 intro b2
 refine Nu I I (Sa I I I .tc) (Nt (Cs (Kq I (Kb [[.string (S [])], [.string (S [])]] I I) ?_)))
 refine Kh I (aR I I u31 (by kernel_rfl : _ = some (some (.string (S [])), 1, 16)) I (by simp only [List.map]; rfl) I I ?_ (by decide)) ?_
 ·simp [Value.cells]
 intro b11
 refine Kq I (Kb [[.string (S [])], [.string (S []), .string (S [])], [.string (S [])], [.string (S [])], [.slice none 0 0], [.string (S [])], [.string (S [])]] I I) ?_
 refine Kh I (Oz [.string (S []), .string (S []), .string (S []), .string (S []), .string (S []), .slice none 0 0, .string (S []), .string (S [])] I) ?_
 intro b3
 refine Nu I I (Sa I I I .tc) (WL.st (fun w h => show St _ _ ([⟨some b3, ikC awK (.slice (some ⟨b11, 0, none⟩) 3 3), 33⟩, ⟨some b11, ap awK.r, 22⟩, ⟨some b2, prC awP, 30⟩, _, _] : List Ent) _ w from h) ?_)
 refine Nt (Cq (WC.free (K := [⟨some b3, ikC awK (.slice (some ⟨b11, 0, none⟩) 3 3), 33⟩, ⟨some b2, prC awP, 30⟩]) (fs0 := []) [0, 2, 1] [3] [0, 0, 1, 2] (by kernel_rfl) (by kernel_rfl) I ?_))
 refine Kj I (lda I I .tc u30 I ?_) ?_
 ·kernel_rfl
 refine WJ.st I I I I (gX I I I ?_ ?_ ?_) ?_
 ·kernel_rfl
 ·simp [Value.oneCell']
 ·rfl
 refine Kj I (lda I I .tc u33 I ?_) ?_
 ·kernel_rfl
 refine WJ.nil ?_
 refine Nu I I (Sa I I I .tc) (Nt (Ce ?_))
 exact Rn I (.agg I .tc u30 I (by kernel_rfl) (.agg I .tc u33 I (by kernel_rfl) .nil)) fun w' hS => ⟨⟨some b11, 3, []⟩, rfl, rfl, hS.sub (own' := [⟨some b11, ap awK.r ++ [], 22⟩]) (.cons _ (by simp)) (fun _ h => by cases h)⟩
theorem pd {s : SA} {p : PR} {k : IK} {a : Bs} {d : List Int} {vs : List Bs} (hm8 : k.g.1.length ≤ 8) (hk : k.r.length ≤ 90000) (h : s.core = (shS p k a d vs).1) : saL s := by
 have hh : (aB d k.r.length).length ≤ k.r.length := by
  have := List.length_filter_le (fun i : Nat => !(d.contains (i : Int))) (List.range k.r.length)
  rw [List.length_range] at this; exact this
 have hc : s.gs.length ≤ 100000 ∧ s.vs.length ≤ 100000 ∧ s.core.2.2.length ≤ 100000 ∧ (∀ q ∈ s.core.2.2, q.2.2.length ≤ 100000) ∧ ∀ g ∈ s.gs, g.1.length ≤ 8 := by
  have e1 : s.gs = (shS p k a d vs).1.1 := congrArg (·.1) h
  have e2 : s.vs = (shS p k a d vs).1.2.1 := congrArg (·.2.1) h
  rw [e1, e2, h, shS]; split
  ·exact ⟨Ah _, Ah _, Ah _, by simp, by simp⟩
  ·exact ⟨by simp [shT], by simp [shT]; omega, by simp [shT], by simp [shT, eO]; omega, by simpa [shT] using hm8⟩
 exact ⟨hc.1, hc.2.1, by have := hc.2.2.1; simpa using this, e9.1 hc.2.2.2.1, hc.2.2.2.2⟩
abbrev awS : SG := ⟨[53], [7], [2]⟩
abbrev awZ : Zs := (true, [26])
theorem mx {w : World} (hT : Tab w) (hD : TabD w) :
  Cw 12 #[] w (.bool true) := by
 refine En [] [] Tryz.func12 I Tryz.ntmps12 I (An _) Fn (Cs (Ka I (Nt (Cs (Kh I (Oc I I (fA fun w hS => tN)) ?_)))))
 intro g15
 refine WL.pu ?_
 intro hg15; (try dsimp only at hg15 ⊢)
 refine Km I (Ye I (Ye I (Kh I (Oz [.string (S []), .string (S []), .string (S []), .string (S []), .string (S []), .string (S []), .string (S []), .string (S []), .string (S []), .string (S []), .string (S []), .string (S []), .string (S []), .string (S []), .string (S []), .string (S []), .string (S [])] I) ?_)))
 intro b1
 refine Kh I (Oz [.string (S []), .string (S []), .string (S []), .string (S []), .string (S []), .slice none 0 0, .string (S []), .string (S [])] I) ?_
 intro b2
 refine Nu I I (Sa I I I .tc) (Nu I I (Sa I I I .tc) (Nt (Cs (Kq I (Kb [[.string (S [])], [.string (S [])], [.string (S [])]] I I) ?_))))
 refine Kh I (Oz [.string (S []), .string (S []), .string (S [])] I) ?_
 intro b3
 refine Nu I I (Sa I I I .tc) (Nt (Cs (Kq I (lda I I .tc u30 I ?_) ?_)))
 ·kernel_rfl
 refine Kq I (lda I I .tc u33 I ?_) ?_
 ·kernel_rfl
 refine Kq I (lda I I .tc u35 I ?_) ?_
 ·kernel_rfl
 refine Kh I (aR I I u31 (by kernel_rfl : _ = some (some (.string (S [])), 1, 16)) I (by simp only [List.map]; rfl) I I ?_ (by decide)) ?_
 ·simp [Value.cells]
 intro b23
 refine Kq I (Kb [[.slice none 0 0], [.string (S [])], [.int .i64 0]] I I) ?_
 refine Kh I (Oc I I (fA fun w hS => wu (p := awP) (k := awK) (s := awS) (t := ⟨[[4]], [], 0⟩) (by (exact hS.sl)) (by (exact hS.os)) (by decide) (by decide) (by decide) (by decide) (by decide) (by decide) (by exact fo hT hS) (by exact br hD hS))) ?_
 intro g25
 refine WL.pu ?_
 intro hg25; (try dsimp only at hg25 ⊢)
 rw [zT]
 refine Km I (Ye I (Ye I (Ye I (Ye I (Kh I (Oz [.bool false, .string (S [])] I) ?_)))))
 intro b5
 refine Kh I (Oz [.slice none 0 0, .string (S []), .int .i64 0] I) ?_
 intro b6
 refine Ka I (Nu I I (Sa I I I .tc) (Nu I I (Sa I I I .tc) (Ka I (Nt (Cs (Kq I (lda I I .tc u30 I ?_) ?_))))))
 ·kernel_rfl
 refine Kq I (lda I I .tc u33 I ?_) ?_
 ·kernel_rfl
 refine Km I (Kh I (aR I I u38 (by kernel_rfl : _ = some (some (.int .i64 0), 1, 8)) I (by simp only [List.map]; rfl) I I ?_ (by decide)) ?_)
 ·simp [Value.cells]
 intro b34
 refine Kh I (aR I I u31 (by kernel_rfl : _ = some (some (.string (S [])), 1, 16)) I (by simp only [List.map]; rfl) I I ?_ (by decide)) ?_
 ·simp [Value.cells]
 intro b35
 refine WL.st (fun w h => (h.freeze (off := 0) (xs := ap [[1]]) (fun i hi => by rw [Az]; rfl)).freeze (off := 0) (xs := ef [2]) (fun i hi => by rw [Az]; rfl)) ?_
 refine Kh I (Oc I I (gM fun w hS => tM (p := awP) (k := awK) (xa := [16]) (d := [2]) (vs := [[1]]) (by (exact hS.slo)) (by (exact hS.slo)) (by (exact hS.slo)) (by decide) (by decide) (by decide) (by decide) (by decide) (by decide) (by exact br hD hS))) ?_
 rintro sa36
 refine WL.pu ?_
 intro hg36; (try dsimp only [List.cons_append, List.nil_append] at hg36 ⊢)
 rw [vF]
 refine Km I (Ye I (Ye I (Kh I (Oz [.slice none 0 0, .slice none 0 0, .slice none 0 0] I) ?_)))
 intro b8
 refine Nu I I (Sa I I I .tc) (Ka I (Nt (Cs (Kq I (lda I I .tc u30 I ?_) ?_))))
 ·kernel_rfl
 refine Kq I (lda I I .tc u35 I ?_) ?_
 ·kernel_rfl
 refine Kq I (lda I I .tc u37 I ?_) ?_
 ·kernel_rfl
 refine Kh I (aR I I u31 (by kernel_rfl : _ = some (some (.string (S [])), 1, 16)) I (by simp only [List.map]; rfl) I I ?_ (by decide)) ?_
 ·simp [Value.cells]
 intro b43
 refine Kh I (aR I I u38 (by kernel_rfl : _ = some (some (.int .i64 0), 1, 8)) I (by simp only [List.map]; rfl) I I ?_ (by decide)) ?_
 ·simp [Value.cells]
 intro b44
 refine Kh I (Oc I I (ns fun w hS => wt (p := awP) (sg := awS) (v := awZ) (ms := [[1], [3], [1]]) (d := [2]) (by (exact hS.os)) (by (exact hS.os)) (by decide) (by decide) (by decide) (by exact br hD hS))) ?_
 rintro g45
 refine WL.pu ?_
 intro hg45; (try dsimp only [List.cons_append, List.nil_append] at hg45 ⊢)
 rw [BX]
 refine Km I (Ye I (Ye I (Ka I (Ka I (Nt (Cq (Cs ?_)))))))
 have hc9 : sa36.core = shT awP awK [16] [2] [[1]] := hg36.trans (congrArg (·.1) vF)
 have hes : sa36.es.length = 1 := by have := congrArg (fun c => c.2.2.length) hc9; simpa [SA.core, shT] using this
 obtain ⟨q, hq⟩ := List.length_eq_one_iff.1 hes
 have hq1 : q.1.2.1 = [1] := by have := congrArg (fun c => c.2.2.map (·.2.1)) hc9; simpa [SA.core, hq, shT, BZ] using this
 refine Km I (Km I (Kq I (az I I I (by (dsimp only; omega))) ?_))
 refine Km I (Kq I (az I I I (by (dsimp only; omega))) ?_)
 refine Yj I (Km I (Ns 54 I (v' := .bool false) (by rfl) ?_))
 refine Km I (Yr I (Yq I (Km I (Ns 58 I (v' := .bool false) (by rfl) ?_))))
 refine Kq I (lda I I .tc u37 I ?_) ?_
 ·kernel_rfl
 refine Kq I (Kb [[.bool false], [.string (S [])]] I I) ?_
 refine Kq I (kE I I I (by kernel_rfl) (fun w => jF _ _ _ _ w)) ?_
 refine Yq I (Km I (Ns 63 I (v' := .bool false) (by rfl) ?_))
 refine Kf 2 I u58 I I I .tc u56 ?_
 refine Yo I u56 (Yj I (Yq I (Ns 68 I (v' := .bool false) (by rw [hes]; rfl) ?_)))
 refine Nt (Cd I (fun h => by cases h) (fun _ => ?_))
 refine Ck (Xa (Cs (Kq I (lda I I .tc u58 I ?_) ?_)))
 ·kernel_rfl
 refine Km I (Kc I (fun w hS => (by have := xD (w := w) (s := sa36) (ws := [(false, [4]), awZ, (false, [1]), (false, [3])]) (a := g45.a) (c := g45.cap) hS.sl hS.sl hS.sl hS.sl hS.more (pd (by decide) (by decide) hg36) (by decide); rw [hc9, zU] at this; exact this)) (Km I (Ye I (Ye I (Ka I (Ka I (Nt (Cs ?_))))))))
 rw [hq]
 refine Kf 2 I u58 I I I .tc u56 ?_
 refine Kq I (Ia I I I u56 (by kernel_rfl : _ = some 3) (by (simp <;> omega)) (by (simp <;> omega))) ?_
 (refine Kq I (faf I I u95 I (by kernel_rfl) (by (try simp only [sN, Int.reduceToNat, Nat.reduceAdd, Nat.reduceMul, Nat.reduceSub]); rfl)) ?_)
 refine Kq I (lC (sz := 3) 0 1 I I u22 I (fun _ => rfl) I (by simp) (by decide) I) ?_
 refine Ns 79 I (v' := .string (S ([1]))) (congrArg (fun l => Value.string (S l)) (by exact hq1)) ?_
 refine Ys I (Km I (Ns 81 I (v' := .bool true) (by rfl) ?_))
 refine Km I (Kq I (Kb [[.bool false], [.string (S [])]] I I) (Kq I (Kb [[.bool false], [.string (S [])]] I I) (Kq I (Kb [[.bool false], [.string (S [])]] I I) (Kq I (Kb [[.bool false], [.string (S [])]] I I) ?_))))
 refine Kh I (eK I I u39 (by kernel_rfl : _ = some (some (.agg #[.bool false, .string (S [])]), 2, 24)) (by kernel_rfl) (by decide) I I (by (simp [Value.cells]; done)) (by (simp only [List.map, Value.cells, C3, List.flatMap_nil, Bi, Du]; rfl)) (by decide)) ?_
 intro b87
 refine Kc I (fun w hS => BF (l := [(false, [4]), awZ, (false, [1]), (false, [3])]) (m := [(false, [4]), awZ, (false, [1]), (false, [3])]) (a := g45.a) (b := some ⟨b87, 0, none⟩) (c := g45.cap) (d := 4) (w := w) hS.sl hS.os (by decide) (by decide)) (Yp I (Km I (Ns 90 I (v' := .bool true) (by rfl) ?_)))
 refine Km I (Yi I (Yp I (Km I (Ns 94 I (v' := .bool true) (by rfl) ?_))))
 refine Km I (Yp I (Ka I (Nt (Ce ?_))))
 exact R1 I I (by rfl)
theorem yJ {l : List Int} {n : Int} {a : Option Addr} {c : Nat} {w : World} {ok : Nat → Prop} (hF1 : (Fact.sl a (ef l)).holds ok w) (hl : l.length ≤ 140737488351232) :
  Cw 62 #[.slice a l.length c, .int .i64 n] w (.bool (cC 1 l n)) := by
 refine En [Fact.sl a (ef l)] [(0, .slice a l.length c), (1, .int .i64 n)] Tryz.func62 I Tryz.ntmps62 I (Ac I (Ac I (An _))) (Fc (ag hF1) Fn) (Cs (Ka I (Nt (Cq (Cs (Ka I (Nt (Cb (Lp (σ := Nat × Int) [(0, _), (1, _)] (fun gq => [(5, .int .i64 (gq.1 : Int))]) (fun gq => gq.1 ≤ l.length ∧ cC gq.2 (l.drop gq.1) n = cC 1 l n ∧ 1 ≤ gq.2 ∧ (gq.1 = 0 → gq.2 = 1) ∧ (0 < gq.1 → gq.2 = l.getD (gq.1 - 1) default ∧ 2 ≤ gq.2)) (fun gq => l.length - gq.1) (0, 1) (S2 I I) (S1 I) (by (try dsimp only); exact ⟨Ah _, rfl, by omega, fun _ => rfl, fun h => by omega⟩) ?_)))))))))
 rintro ⟨i, last⟩ hinv1; (try dsimp only at hinv1 ⊢)
 obtain ⟨hi, he, hl1, hl2, hl3⟩ := hinv1
 refine Cq (Cs (Km I (Km I (Yo I u38 (Yl I (Nt (Ci I (fun hc9 => ?_) (fun hc9 => ?_))))))))
 ·have hil : i < l.length := by omega
  obtain ⟨y, hy⟩ : ∃ y, Keep (y = l.getD i default) := ⟨_, rfl⟩
  rw [gP hil, ← show y = _ from hy, cC] at he
  refine Ck (Xa (Cq (Cb (WC.joinP (σ := Unit) [(0, _), (1, _), (5, _)] (fun gq => [(40, .bool (decide (¬ (last < y ∧ y < n))))]) (fun gq => True) (S3 I I I) ?_ ?_))))
  ·skip
   refine Cf [0, 1, 2, 3, 4, 5, 6, 7, 8, 9, 10, 11, 12, 13, 14, 15, 16, 17, 18, 19, 20, 21, 22, 23, 24, 25, 26, 27, 28] [] [0, 0, 0, 0, 0, 0, 0, 0, 0, 0, 0, 0, 0, 0, 0, 0, 0, 0, 0, 0, 0, 0, 0, 0, 0, 0, 0, 0, 0] (by kernel_rfl) (by kernel_rfl) I ?_; refine Kj I (Rm I I) (Kj I (Rm I I) ?_); refine Kj I (Ib I I I u38 (by omega) (by (rw [Af]; omega))) ?_; refine Kj I (ldm I I u3 I (by assumption)) ?_; refine WJ.set 15 I (v' := .int .i64 (y)) (congrArg (Value.int .i64) (by rw [show y = _ from hy])) ?_; refine Kj I (kG I I I) (Kj I (Rm I I) ?_); refine WJ.bool 17 I (fun hg17 => ?_) (fun hg17 => ?_)
   ·(try simp only [sB] at hg17); refine Js I I I I (Js I I I I (Js I I I I (Js I I I I (Js I I I I (Js I I I I (Kj I (Rp I I I) (Kj I (Rm I I) (Js I I I I (Js I I I I (Js I I I I (Js I I I I (Js I I I I (Js I I I I (Js I I I I (Js I I I I (Js I I I I (Js I I I I (Js I I I I (Js I I I I (Js I I I I (Js I I I I (Kj I (Rp I I I) ?_)))))))))))))))))))))); refine WJ.nil ?_; refine Nn (WX.joinP (()) (S3 I I I) (by refine (Sc ?_ (S0 _)) <;> ((exact congrArg (fun b => some (Value.bool b)) (by symm; apply Ao; omega)))) ?_ (fun _ h => h)); (try dsimp only); done
   ·(try simp only [sB] at hg17); refine Kj I (Rm I I) (Kj I (Rm I I) ?_); refine Kj I (Ib I I I u38 (by omega) (by (rw [Af]; omega))) ?_; refine Kj I (ldm I I u3 I (by assumption)) ?_; refine WJ.set 21 I (v' := .int .i64 (y)) (congrArg (Value.int .i64) (by rw [show y = _ from hy])) ?_; refine Kj I (Rm I I) (Kj I (po I I I) (Kj I (Rq I I I) (Kj I (Rm I I) ?_))); refine WJ.bool 25 I (fun hg25 => ?_) (fun hg25 => ?_)
    ·(try simp only [sB] at hg25); refine Js I I I I (Js I I I I (Js I I I I (Js I I I I (Js I I I I (Js I I I I (Js I I I I (Js I I I I (Js I I I I (Js I I I I (Js I I I I (Js I I I I (Js I I I I (Js I I I I (Kj I (Rp I I I) ?_)))))))))))))); refine WJ.nil ?_; refine Nn (WX.joinP (()) (S3 I I I) (by refine (Sc ?_ (S0 _)) <;> ((refine ai rfl ?_; (try dsimp only); (simp [*]; done)))) ?_ (fun _ h => h)); (try dsimp only); done
    ·(try simp only [sB] at hg25); refine Kj I (Rm I I) (Kj I (kH I I I) (Kj I (Rm I I) ?_)); refine WJ.bool 28 I (fun hg28 => ?_) (fun hg28 => ?_)
     ·(try simp only [sB] at hg28); refine Kj I (Rm I I) (Kj I (Rm I I) ?_); refine Kj I (Ib I I I u38 (by omega) (by (rw [Af]; omega))) ?_; refine Kj I (ldm I I u3 I (by assumption)) ?_; refine WJ.set 32 I (v' := .int .i64 (y)) (congrArg (Value.int .i64) (by rw [show y = _ from hy])) ?_; refine Kj I (Rm I I) (Kj I (Rm I I) (Kj I (au I I I (by omega)) ?_)); refine Kj I (Ib I I I u38 (by omega) (by (rw [Af]; omega))) ?_; refine Kj I (ldm I I u3 I (by omega)) ?_; refine WJ.set 37 I (v' := .int .i64 (last)) (congrArg (Value.int .i64) (by rw [(hl3 (by omega)).1])) ?_; refine Kj I (pm I I I) (Kj I (Rp I I I) (Kj I (Rq I I I) ?_)); refine WJ.nil ?_; refine Nn (WX.joinP (()) (S3 I I I) (by refine (Sc ?_ (S0 _)) <;> ((refine ai rfl ?_; (try dsimp only); (exact Ag.2 (by omega))))) ?_ (fun _ h => h)); (try dsimp only); done
     ·(try simp only [sB] at hg28); refine Js I I I I (Js I I I I (Js I I I I (Js I I I I (Js I I I I (Js I I I I (Js I I I I (Js I I I I (Js I I I I (Js I I I I (Kj I (Rq I I I) (Kj I (Rq I I I) ?_))))))))))); refine WJ.nil ?_; refine Nn (WX.joinP (()) (S3 I I I) (by refine (Sc ?_ (S0 _)) <;> ((exact congrArg (fun b => some (Value.bool b)) (by symm; apply Am; omega)))) ?_ (fun _ h => h)); (try dsimp only); done
  ·rintro _ hmeet; (try dsimp only at hmeet ⊢); refine Ci I (fun hc40 => ?_) (fun hc40 => ?_)
   ·have hn : cC 1 l n = false := by rw [← he, Am hc40]; rfl
    refine Cs (Ka I (Nt (Ce (Xf (Xb (Xb (Xf (Xb ?_)))))))); exact R1 I I (by rw [hn]; rfl)
   ·have hy2 := Ap.1 hc40; refine Ck (Xd (Xa (Cg (Km I (Kq I (Rz I I I (by omega)) (Ka I (Nn (Ly ((i + 1, y)) (by (try dsimp only); omega) (S2 I I) (by refine (Sc ?_ (S0 _)) <;> (rfl)) ?_ (fun _ h => h))))))))); (try dsimp only); exact ⟨hil, by rw [← he, Ao hy2]; rfl, by omega, fun h => by omega, fun _ => ⟨by rw [show y = _ from hy]; rfl, by omega⟩⟩
 ·refine Cx (Xc (Xc (Xe ?_)))
  obtain rfl : i = l.length := by omega
  have hn : cC 1 l n = true := by rw [← he, List.drop_length]; rfl
  refine Xa (Cs (Ka I (Nt (Ce ?_))))
  exact R1 I I (by rw [hn]; rfl)
abbrev pD (l : List Nat) : List Value := l.map fun i : Nat => Value.int .i64 (i : Int)
theorem ut (l : List Nat) (i : Nat) : pD (l ++ [i]) = pD l ++ [Value.int .i64 (i : Int)] := by simp only [pD, B8, Dz, List.map_nil]
theorem l4 (d : List Int) (i : Nat) : aB d (i + 1) = if d.contains (i : Int) then aB d i else aB d i ++ [i] := by
 rw [aB, List.range_succ, List.filter_append, List.filter_cons]
 cases d.contains (i : Int) <;> simp [aB]
theorem uz {d : List Int} {k : Nat} (h : k < d.length) (x : Int) : x ∈ d.take (k + 1) ↔ (x ∈ d.take k ∨ d.getD k default = x) := by
 rw [aJ h, Bv, List.mem_singleton, eq_comm (a := x)]
theorem yM {d : List Int} {n : Nat} {a : Option Addr} {c : Nat} {w : World} {ok : Nat → Prop} (hF1 : (Fact.sl a (ef d)).holds ok w) (hl : d.length ≤ 140737488351232) (hn : n ≤ 1000000) :
  Calls Tryz.prog 66 #[.slice a d.length c, .int .i64 (n : Int)] w fun e w' => ∃ g : Rs, e = .returned (g.val (aB d n).length) ∧ g.cap = (aB d n).length + g.sp.length ∧ St (fun _ => True) w [g.ent (pD (aB d n)) 3] [] w' := by
 refine En [Fact.sl a (ef d)] [(0, .slice a d.length c), (1, .int .i64 (n : Int))] Tryz.func66 I Tryz.ntmps66 I (Ac I (Ac I (An _))) (Fc (ag hF1) Fn) (Cs (Ka I (Nt (Cs (Ka I (Nt (Cq (Cs (Ka I (Nt (Cb (Lo (σ := Nat × (Option Nat) × Nat × (List Value)) [(0, _), (1, _)] (fun gq => [(6, .int .i64 (gq.1 : Int)), (5, .slice (gq.2.1.map fun b => ⟨b, 0, none⟩) (aB d gq.1).length gq.2.2.1)]) (fun gq => gq.1 ≤ n ∧ gq.2.2.1 = (aB d gq.1).length + gq.2.2.2.length) (fun gq => n - gq.1) (fun gq => [⟨gq.2.1, pD (aB d gq.1) ++ gq.2.2.2, 3⟩]) (fun gq => [Fact.sl a (ef d)]) (0, none, 0, []) (S2 I I) (S2 I I) (by (try dsimp only); exact ⟨Ah _, rfl⟩) (by exact fun w h => h.nil _) ?_))))))))))))
 rintro ⟨i, o, cp, sp⟩ hinv1; (try dsimp only at hinv1 ⊢)
 obtain ⟨hi, hcp⟩ := hinv1
 refine Cq (Cs (Km I (Km I (Yl I (Nt (Ci I (fun hc11 => ?_) (fun hc11 => ?_)))))))
 ·have hil : i < n := by omega
  have hhl := qT d i
  refine Ck (Xa (Cq (Cb (Cs (Ka I (Nt (Cq (Cs (Ka I (Nt (Cb (Lp (σ := Nat) [(0, _), (1, _), (5, _), (6, _)] (fun gq => [(8, .int .i64 (gq : Int)), (7, .bool (decide ((i : Int) ∈ d.take gq)))]) (fun gq => gq ≤ d.length) (fun gq => d.length - gq) (0) (S4 I I I I) (S2 I I) (by (try dsimp only); omega) ?_))))))))))))
  rintro k hinv2; (try dsimp only at hinv2 ⊢)
  obtain hk := hinv2
  refine Cq (Cs (Km I (Km I (Yo I u38 (Yl I (Nt (Ci I (fun hc17 => ?_) (fun hc17 => ?_))))))))
  ·have hkl : k < d.length := by omega
   have hcs := uz hkl (i : Int); refine Ck (Xa (WC.joinP (σ := Unit) [(0, _), (1, _), (5, _), (6, _), (8, _)] (fun gq => [(7, .bool (decide ((i : Int) ∈ d.take (k + 1))))]) (fun gq => True) (S5 I I I I I) ?_ ?_))
   ·skip
    refine Cb (Cg (Km I (Km I (Nc 21 I (fun hg21 => ?_) (fun hg21 => ?_)))))
    ·refine T4 I (T2 I (Yp I (Ka I (Nn (Xd (WX.joinP (()) (S5 I I I I I) (by refine (Sc ?_ (S0 _)) <;> ((refine ai rfl ?_; (try dsimp only); (simp [*]; done)))) ?_ (fun _ h => h))))))); (try dsimp only); done
    ·refine Km I (Km I (Kq I (Ib I I I u38 (by omega) (by (rw [Af]; omega))) ?_)); refine Kq I (ldm I I u3 I (by assumption)) ?_; refine Km I (Yi I (Yq I (Ka I (Nn (Xd (WX.joinP (()) (S5 I I I I I) (by refine (Sc ?_ (S0 _)) <;> ((refine ai rfl ?_; (try dsimp only); (simp [*]; done)))) ?_ (fun _ h => h))))))); (try dsimp only); done
   ·rintro _ hmeet; (try dsimp only at hmeet ⊢); refine Cg (Km I (Kq I (Rz I I I (by omega)) (Ka I (Nn (Ly (k + 1) (by (try dsimp only); omega) (S4 I I I I) (by refine (Sc ?_ (Sc ?_ (S0 _))) <;> (rfl)) ?_ (fun _ h => h)))))); (try dsimp only); omega
  ·refine Cx (Xc (Xc (Xe ?_))); obtain rfl : k = d.length := by omega
   rw [Al]; refine Xa (Cs (Km I (Yt I (Nt (Ci I (fun hc30 => ?_) (fun hc30 => ?_))))))
   ·have hct : d.contains (i : Int) = false := by rw [List.contains_eq_mem]; exact Am (by simpa using hc30)
    have hsu : aB d (i + 1) = aB d i ++ [i] := by rw [l4, Aa (by rw [hct]; decide)]
    refine Cg (Km I (Km I (Kh I (aR I I u38 (by kernel_rfl : _ = some (some (.int .i64 0), 1, 8)) I (by simp only [List.map]; rfl) I I ?_ (by decide)) ?_)))
    ·simp [Value.cells]
    intro b33; refine Kh I (pU I u38 (by kernel_rfl : _ = some (some (.int .i64 0), 1, 8)) I .tc I I (fun w hS => by (exact hS.os)) (by rfl) (by (refine ⟨?_, ?_, ?_, ?_⟩ <;> (try simp) <;> omega)) (by (simp [Value.oneCell']; done))) ?_; rintro ⟨o34, c34, s34⟩; refine WL.pu ?_; intro hg34; (try dsimp only at hg34 ⊢); refine Ns 34 I (v' := .slice (o34.map fun b => ⟨b, 0, none⟩) (aB d (i + 1)).length c34) (by (rw [hsu, A0]; rfl)) ?_; refine Ka I (Nn (Xd (Xa (Cg (Km I (Kq I (Rz I I I (by omega)) (Ka I (Nn (Lx ((i + 1, o34, c34, s34)) (by (try dsimp only); omega) (S2 I I) (by refine (Sc ?_ (Sc ?_ (S0 _))) <;> (rfl)) ?_ (by exact fun w h => by dsimp only; rw [hsu, ut]; exact av _ h)))))))))); (try dsimp only); exact ⟨hil, by rw [hsu, A0]; simpa using hg34⟩
   ·have hct : d.contains (i : Int) = true := List.contains_iff_mem.2 (by simpa using hc30); have hsu : aB d (i + 1) = aB d i := by rw [l4, Ab hct]
    refine WC.set 5 I (v' := .slice (o.map fun b => ⟨b, 0, none⟩) (aB d (i + 1)).length cp) (by rw [hsu]) ?_; refine Ck (Xd (Xa (Cg (Km I (Kq I (Rz I I I (by omega)) (Ka I (Nn (Lx ((i + 1, o, cp, sp)) (by (try dsimp only); omega) (S2 I I) (by refine (Sc ?_ (Sc ?_ (S0 _))) <;> (rfl)) ?_ (by exact fun w h => by dsimp only; rw [hsu]; exact av _ h))))))))); (try dsimp only); exact ⟨hil, by rw [hsu]; exact hcp⟩
 ·refine Cx (Xc (Xc (Xe ?_)))
  obtain rfl : i = n := by omega
  refine Xa (Cs (Km I (Ka I (Nt (Ce ?_)))))
  exact Rn I (.tmp I .nil) fun w' hS => ⟨⟨o, cp, sp⟩, rfl, hcp, av _ hS⟩
theorem tZ {x : Bs} {w : World} :
  Cw 23 #[.string (S x)] w (zV (false, x)) := by
 refine En [] [(0, .string (S x))] Tryz.func23 I Tryz.ntmps23 I (Ac I (An _)) Fn (Cs (Kh I (Oz [.bool false, .string (S [])] I) ?_))
 intro b2
 refine Nt (Cs (Km I (Kq I (Kb [[.bool false], [.string (S [])]] I I) ?_)))
 refine Nu I I (Sa I I I .tc) (Nt (Ce ?_))
 exact Rn I (.agg I .tc u37 I (by kernel_rfl) .nil) fun w' hS => ⟨by rfl, hS.below⟩
theorem qj {g : Gp} {x : Bs} {z : Zs} {w : World} (hm8 : g.1.length ≤ 8) (hg : aY g = 0) (hx : elG g x) (hz : okZ z) :
  Cw 52 #[gV g, .string (S x), zV z] w (.tuple #[.string (S (ae (cP (val g.1) (val x) (zv z)))), .int .i64 0]) := by
 refine En [] [(0, gV g), (1, .string (S x)), (2, zV z)] Tryz.func52 I Tryz.ntmps52 I (Ac I (Ac I (Ac I (An _)))) Fn (Cs (Kh I (Oy I I) ?_))
 intro b3
 refine Kh I (Oy I I) ?_
 intro b5
 refine Ka I (Ka I (Nt (Cq (WC.joinP (σ := Unit) [(1, _), (3, _), (5, _)] (fun gq => [(16, .bool (decide (¬ (okN x ∧ okZ z))))]) (fun gq => True) (S3 I I I) ?_ ?_))))
 ·skip
  refine Cg (Km I (Kc I (fun w hS => ar (a := x)) (Yt I (Km I (Nc 12 I (fun hg12 => ?_) (fun hg12 => ?_))))))
  ·refine T2 I (Kt I (Yp I (Nn (WX.joinP (()) (S3 I I I) (by refine (Sc ?_ (S0 _)) <;> ((refine ai rfl ?_; (try dsimp only); (simp [*]; done)))) ?_ (fun _ h => h))))); (try dsimp only); done
  ·refine Kq I (lda I I .tc u37 I ?_) ?_
   ·kernel_rfl
   refine Kc I (fun w hS => bu (x := z)) (Yt I (Yq I (Nn (WX.joinP (()) (S3 I I I) (by refine (Sc ?_ (S0 _)) <;> ((refine ai rfl ?_; (try dsimp only); (simp [*]; done)))) ?_ (fun _ h => h))))); (try dsimp only); done
 ·rintro _ hmeet; (try dsimp only at hmeet ⊢)
  refine Cd I (fun hc16 => by exfalso; (try simp only [sB] at hc16); exact hc16 ⟨hx.1, hz⟩) (fun hc16 => ?_)
  (try simp only [sB] at hc16)
  refine Ck (Xa (Cq (Cs (Kq I (lda I I .tc u26 I ?_) ?_))))
  ·kernel_rfl
  refine Kc I (fun w hS => gE (g := g)) (Ka I (Nt (Cs (Km I (Yj I (Nt (Cd I (fun hc20 => by exfalso; (try simp only [sB] at hc20); exact hc20 hg) (fun hc20 => ?_))))))))
  (try simp only [sB] at hc20)
  refine Ck (Xa (Cq (Cs (Kq I (lda I I .tc u26 I ?_) ?_))))
  ·kernel_rfl
  refine Km I (Kc I (fun w hS => iu (g := g) (x := x) (by exact hg) (by exact hx.1) (by exact hm8)) (Yt I (Nt (Cd I (fun hc25 => by exfalso; (try simp only [sB] at hc25); exact hc25 hx) (fun hc25 => ?_)))))
  (try simp only [sB] at hc25)
  refine Ck (Xa (Cs (Kq I (lda I I .tc u26 I ?_) ?_)))
  ·kernel_rfl
  refine Km I (Kq I (lda I I .tc u37 I ?_) ?_)
  ·kernel_rfl
  refine Kc I (fun w hS => (by have := yH (w := w) (g := g) (x := x) (z := z) hm8; rw [w8 hx.1 hz (dI hg).1 (fun h => by have := (dI hg).2.2.1; rw [h] at this; exact absurd this (by decide)) (j5 hg hx)] at this; exact this)) (Ka I (Ka I (Nt (Ce ?_))))
  exact R2 I I I (by rfl)
theorem qi {g : Gp} {a b : Bs} {w : World} (hm8 : g.1.length ≤ 8) (hg : aY g = 0) (ha : elG g a) (hb : elG g b) :
  Cw 26 #[gV g, .string (S a), .string (S b)] w (.tuple #[.string (S (ae (val a * val b % val g.1))), .int .i64 0]) := by
 have h0 : iI a b g.1 = (ae (val a * val b % val g.1), 0) := by
  have h1 : co [a, b] [g.1] = 0 := by
   rw [co, Ab (by intro x hx; simp at hx; rcases hx with rfl | rfl | rfl; exact ha.1; exact hb.1; exact (dI hg).1), Aa (by simp; intro h; have := (dI hg).2.2.1; rw [h] at this; exact absurd this (by decide))]
  rw [iI, Ab h1]
 refine En [] [(0, gV g), (1, .string (S a)), (2, .string (S b))] Tryz.func26 I Tryz.ntmps26 I (Ac I (Ac I (Ac I (An _)))) Fn (Cs (Kh I (Oy I I) ?_))
 intro b3
 refine Ka I (Ka I (Nt (Cq (WC.joinP (σ := Unit) [(1, _), (2, _), (3, _)] (fun gq => [(18, .bool (decide (¬ (okN a ∧ okN b))))]) (fun gq => True) (S3 I I I) ?_ ?_))))
 ·skip
  refine Cg (Km I (Kc I (fun w hS => ar (a := a)) (Yt I (Km I (Nc 14 I (fun hg14 => ?_) (fun hg14 => ?_))))))
  ·refine T2 I (Kt I (Yp I (Nn (WX.joinP (()) (S3 I I I) (by refine (Sc ?_ (S0 _)) <;> ((refine ai rfl ?_; (try dsimp only); (simp [*]; done)))) ?_ (fun _ h => h))))); (try dsimp only); done
  ·refine Km I (Kc I (fun w hS => ar (a := b)) (Yt I (Yq I (Nn (WX.joinP (()) (S3 I I I) (by refine (Sc ?_ (S0 _)) <;> ((refine ai rfl ?_; (try dsimp only); (simp [*]; done)))) ?_ (fun _ h => h)))))); (try dsimp only); done
 ·rintro _ hmeet; (try dsimp only at hmeet ⊢)
  refine Cd I (fun hc18 => by exfalso; (try simp only [sB] at hc18); exact hc18 ⟨ha.1, hb.1⟩) (fun hc18 => ?_)
  (try simp only [sB] at hc18)
  refine Ck (Xa (Cq (Cs (Kq I (lda I I .tc u26 I ?_) ?_))))
  ·kernel_rfl
  refine Kc I (fun w hS => gE (g := g)) (Ka I (Nt (Cs (Km I (Yj I (Nt (Cd I (fun hc22 => by exfalso; (try simp only [sB] at hc22); exact hc22 hg) (fun hc22 => ?_))))))))
  (try simp only [sB] at hc22)
  refine Ck (Xa (Cq (Cs (Kq I (lda I I .tc u26 I ?_) ?_))))
  ·kernel_rfl
  refine Km I (Kc I (fun w hS => iu (g := g) (x := a) (by exact hg) (by exact ha.1) (by exact hm8)) (Ns 26 I (v' := .bool true) (by exact congrArg Value.bool (Ao ha)) ?_))
  refine Yt I (Km I (Kq I (lda I I .tc u26 I ?_) ?_))
  ·kernel_rfl
  refine Km I (Kc I (fun w hS => iu (g := g) (x := b) (by exact hg) (by exact hb.1) (by exact hm8)) (Ns 31 I (v' := .bool true) (by exact congrArg Value.bool (Ao hb)) ?_))
  refine Yt I (Yq I (Nt (Cd I (fun h => by cases h) (fun _ => ?_))))
  refine Ck (Xa (Cs (Km I (Km I (Kf 0 I u26 I I I .tc u22 ?_)))))
  refine Kc I (fun w hS => (by have := wK (w := w) (a := a) (b := b) (m := g.1) hm8; rw [h0] at this; exact this)) (Km I (Ye I (Ye I (Ka I (Ka I (Nt (Cs (Km I (Ka I (Ka I (Nt (Ce ?_))))))))))))
  exact R2 I I I (by rfl)
theorem vh {g : Gp} {x : Bs} {z : Zs} (hg : aY g = 0) (hx : elG g x) (hz : okZ z) : elG g (ae (cP (val g.1) (val x) (zv z))) := by
 have hP := rX hg hx hz
 have := oK (g := g) (l := [x]) (es := [z]) (by rw [hP])
 rw [hP] at this; exact this
abbrev pfS (p : PR) (k : IK) (xa : Bs) (d : List Int) (vs : List Bs) (i : Nat) : Nat := pfL (val k.g.1) (bsL k xa d i) (zsL p vs i) % val k.g.1
theorem y8 {p : PR} {k : IK} {xa : Bs} {d : List Int} {vs : List Bs} (h0 : bR p k = 0) (hxa : elG k.g xa) (hasc : cC 1 d k.r.length = true) (hv : ∀ x ∈ vs, okN x) (hl : vs.length = d.length) (i : Nat) (hi : i ≤ vs.length) :
  bN k.g (bsL k xa d i) (zsL p vs i) = (ae (pfS p k xa d vs i), 0) := by
 obtain ⟨hR, _, _, _, hg, _, _, hel⟩ := bG h0
 rw [lT hg ?_ ?_ (by simp; omega)]
 ·intro x hx
  rcases A7.1 hx with rfl | hx
  ·exact hel _ (by simp)
  ·rcases A7.1 hx with rfl | hx
   ·exact hxa
   ·obtain ⟨j, hj, rfl⟩ := Cp.1 hx; have := fI hasc j (List.mem_of_mem_take hj); exact ue h0 (by omega)
 ·intro z hz
  rcases A7.1 hz with rfl | hz
  ·exact m9
  ·rcases A7.1 hz with rfl | hz
   ·exact et ((dH hR).1.1 _ (by simp))
   ·obtain ⟨x, hx, rfl⟩ := Cp.1 hz; exact et (hv x (List.mem_of_mem_take hx))
theorem AJ {p : PR} {k : IK} {xa : Bs} {d : List Int} {vs : List Bs} {i : Nat} (h : bN k.g (bsL k xa d i) (zsL p vs i) = (ae (pfS p k xa d vs i), 0)) : elG k.g (ae (pfS p k xa d vs i)) := by
 have := oK (g := k.g) (l := bsL k xa d i) (es := zsL p vs i) (by rw [h])
 rw [h] at this; exact this
theorem xj {p : PR} {k : IK} {xa : Bs} {d : List Int} {vs : List Bs} : val (ae (cP (val k.g.1) (val xa) (zv (ngN p.lo)))) * val k.z % val k.g.1 = pfS p k xa d vs 0 := by
 rw [af]
 show _ = pfL _ (k.z :: xa :: []) (ofZ 1 :: ngN p.lo :: []) % _
 rw [kQ, kQ, qB, o0, uk, Ax, Ai, Nat.mod_mul_mod]
theorem xk {p : PR} {k : IK} {xa : Bs} {d : List Int} {vs : List Bs} {i : Nat} (h1 : i < d.length) (h2 : i < vs.length) : val (ae (pfS p k xa d vs i)) * val (ae (cP (val k.g.1) (val (rD k (d.getD i default).toNat)) (zv (ngN (vs.getD i default))))) % val k.g.1 = pfS p k xa d vs (i + 1) := by
 rw [af, af, show pfS p k xa d vs (i + 1) = pfL (val k.g.1) (bsL k xa d (i + 1)) (zsL p vs (i + 1)) % val k.g.1 from rfl, rl h1, pW h2, xl (b2 := [_]) (e2 := [_]) (by simp; omega), kQ (bs := []) (es := []), qB, Ax, Nat.mod_mul_mod]
theorem tk {l : List Bs} {x : Bs} : vrs (l ++ [x]) = vrs l ++ [.string (S x)] := by simp
theorem wH {p : PR} {k : IK} {xa : Bs} {d : List Int} {vs : List Bs} {ra da va : Option Addr} {rc dc vc : Nat} {w : World} {ok : Nat → Prop} (hF1 : (Fact.sl ra (ap k.r)).holds ok w) (hF2 : (Fact.sl da (ef d)).holds ok w) (hF3 : (Fact.sl va (ap vs)).holds ok w) (hm8 : p.mn.1.1.length ≤ 8) (hk8 : k.g.1.length ≤ 8) (hkl : k.r.length ≤ 100000) (hnl : k.name.length ≤ 140737488351232) (hdl : d.length ≤ 140737488351232) (hvl : vs.length ≤ 140737488351232) :
  Calls Tryz.prog 17 #[prV p, ikV k (.slice ra k.r.length rc), .string (S xa), .slice da d.length dc, .slice va vs.length vc] w fun e w' => ∃ gx : SA, e = .returned (SME gx (shS p k xa d vs).2) ∧ (gx.core = (shS p k xa d vs).1) ∧ Below w.heap.size w w' ∧ ∀ x ∈ (saF gx : List Fact), x.holds (fun b => ok b ∨ w.heap.size ≤ b) w' := by
 refine enter (S := St (fun b => ok b ∨ w.heap.size ≤ b) w [] ([Fact.sl ra (ap k.r), Fact.sl da (ef d), Fact.sl va (ap vs)])) (L := [(0, prV p), (1, ikV k (.slice ra k.r.length rc)), (2, .string (S xa)), (3, .slice da d.length dc), (4, .slice va vs.length vc)]) Tryz.func17 rfl Tryz.ntmps17 rfl (Ac rfl (Ac rfl (Ac rfl (Ac rfl (Ac rfl (An _)))))) (St.start (fun _ h => Or.inr h) (iP (Fc hF1 (Fc hF2 (Fc hF3 Fn))))) ?_
 refine Cs (Kh I (Oy I I) ?_)
 intro b5
 refine Kh I (Oy I I) ?_
 intro b6
 refine Kh I (Oz [.slice none 0 0, .slice none 0 0, .slice none 0 0] I) ?_
 intro b10
 refine Ka I (Nt (Cq (Cs (Kq I (lda I I .tc u30 I ?_) ?_))))
 ·kernel_rfl
 refine Kq I (lda I I .tc u33 I ?_) ?_
 ·kernel_rfl
 refine Kc I (fun w hS => rO (p := p) (k := k) (by (exact hS.sl)) (by assumption) (by assumption) (by assumption) (by assumption)) (Ka I (Nt (Cs (Km I (Yj I (Nt (Ci I (fun hc34 => ?_) (fun hc34 => ?_))))))))
 ·have hE : shE p k xa d vs = bR p k := by rw [shE, Ab (by simpa using hc34)]
  have hr : shS p k xa d vs = (([], [], []), bR p k) := by rw [shS, hE, Ab (by simpa using hc34)]
  refine Cs (Kq I (Kb [[.slice none 0 0], [.slice none 0 0], [.slice none 0 0]] I I) (Km I (Nu I I (Sa I I I .tc) (Ka I (Nt (Ce (Xb ?_)))))))
  exact Rn I (.agg I .tc u58 I (by kernel_rfl) (.tmp I .nil)) fun w' hS => cE hr hS
 ·have h0 : bR p k = 0 := by simpa using hc34
  have hg : aY k.g = 0 := (bG h0).2.2.2.2.1
  have h18 : k.r.length ≤ 18 := (bG h0).2.2.2.2.2.2.1
  refine Ck (Xa (Cq (Cs (Ka I (Nt (Cb (Lp (σ := Nat) [(2, _), (3, _), (4, _), (5, _), (6, _), (10, _)] (fun gq => [(13, .int .i64 (gq : Int))]) (fun gq => gq ≤ vs.length ∧ ∀ x ∈ vs.take gq, okN x) (fun gq => vs.length - gq) (0) (S6 I I I I I I) (S1 I) (by (try dsimp only); exact ⟨Ah _, by simp⟩) ?_)))))))
  rintro i hinv1; (try dsimp only at hinv1 ⊢)
  obtain ⟨hi, hov⟩ := hinv1
  refine Cq (Cs (Km I (Km I (Yo I u31 (Yl I (Nt (Ci I (fun hc40 => ?_) (fun hc40 => ?_))))))))
  ·have hil : i < vs.length := by omega
   obtain ⟨v, hv⟩ : ∃ v, Keep (v = vs.getD i default) := ⟨_, rfl⟩; refine Ck (Xa (Cq (Cb (Cs (Km I (Km I (Kq I (Ib I I I u31 (by omega) (by (rw [Af]; omega))) ?_))))))); refine Kq I (ldm I I u22 I (by assumption)) ?_; refine Ns 46 I (v' := .string (S (v))) (congrArg (fun l => Value.string (S l)) (by rw [show v = _ from hv])) ?_; refine Kc I (fun w hS => ar (a := v)) (Yt I (Nt (Ci I (fun hc48 => ?_) (fun hc48 => ?_))))
   ·have hn : ¬ (okN xa ∧ ∀ x ∈ vs, okN x) := fun h => by
     have := h.2 _ (an vs i hil); rw [← show v = _ from hv] at this; simp_all
    have hE : shE p k xa d vs = 3 := by rw [shE, Aa (fun h => h h0), Ab hn]
    have hr : shS p k xa d vs = (([], [], []), 3) := by rw [shS, hE, Ab (by decide)]
    refine Cs (Kq I (Kb [[.slice none 0 0], [.slice none 0 0], [.slice none 0 0]] I I) ?_); refine Nu I I (Sa I I I .tc) (Ka I (Nt (Ce (Xf (Xb (Xb (Xf (Xb ?_)))))))); exact Rn I (.agg I .tc u58 I (by kernel_rfl) (.tmp I .nil)) fun w' hS => cE hr hS
   ·refine Ck (Xd (Xa (Cg (Km I (Kq I (Rz I I I (by omega)) (Ka I (Nn (Ly (i + 1) (by (try dsimp only); omega) (S6 I I I I I I) (by refine (Sc ?_ (S0 _)) <;> (rfl)) ?_ (fun _ h => h))))))))); (try dsimp only); exact ⟨hil, ay hil hov (by rw [← show v = _ from hv]; simpa using hc48)⟩
  ·refine Cx (Xc (Xc (Xe ?_))); obtain rfl : i = vs.length := by omega
   rw [Al] at hov; refine Xa (Cq (Cs (Km I (Kc I (fun w hS => ar (a := xa)) (Yt I (Nt (Ci I (fun hc52 => ?_) (fun hc52 => ?_))))))))
   ·have hn : ¬ (okN xa ∧ ∀ x ∈ vs, okN x) := fun h => absurd h.1 (by simpa using hc52)
    have hE : shE p k xa d vs = 3 := by rw [shE, Aa (fun h => h h0), Ab hn]
    have hr : shS p k xa d vs = (([], [], []), 3) := by rw [shS, hE, Ab (by decide)]
    refine Cs (Kq I (Kb [[.slice none 0 0], [.slice none 0 0], [.slice none 0 0]] I I) ?_); refine Nu I I (Sa I I I .tc) (Ka I (Nt (Ce (Xb ?_)))); exact Rn I (.agg I .tc u58 I (by kernel_rfl) (.tmp I .nil)) fun w' hS => cE hr hS
   ·have hok : okN xa ∧ ∀ x ∈ vs, okN x := ⟨by simpa using hc52, hov⟩; refine Ck (Xa (Cq (Cs (Kq I (Fa (q := 1) I I u33 I I) (Kq I (ldp I I .tc u26 I (by kernel_rfl : _ = some 2) (by rfl) (by rfl)) ?_))))); refine Km I (Kc I (fun w hS => qt (g := k.g) (x := xa) (by assumption)) (Ns 57 I (v' := .bool (decide (elG k.g xa))) (congrArg Value.bool (by simp [hg])) ?_)); refine Yt I (Nt (Ci I (fun hc58 => ?_) (fun hc58 => ?_)))
    ·have hn : ¬ elG k.g xa := by simpa using hc58
     have hE : shE p k xa d vs = 13 := by rw [shE, Aa (fun h => h h0), Aa (fun h => h hok), Ab hn]
     have hr : shS p k xa d vs = (([], [], []), 13) := by rw [shS, hE, Ab (by decide)]
     refine Cs (Kq I (Kb [[.slice none 0 0], [.slice none 0 0], [.slice none 0 0]] I I) ?_); refine Nu I I (Sa I I I .tc) (Ka I (Nt (Ce (Xb ?_)))); exact Rn I (.agg I .tc u58 I (by kernel_rfl) (.tmp I .nil)) fun w' hS => cE hr hS
    ·have hel : elG k.g xa := by simpa using hc58
     refine Ck (Xa (Cq (Cs (Km I (Kf 5 I u33 I I I .tc u31 ?_))))); refine Yo I u31 (Kc I (fun w hS => yJ (l := d) (n := (k.r.length : Int)) (by (exact hS.sl)) (by assumption)) (Yt I (Nt (Ci I (fun hc65 => ?_) (fun hc65 => ?_)))))
     ·have hasc : cC 1 d k.r.length = false := by simpa using hc65
      have hE : shE p k xa d vs = 2 := by rw [shE, Aa (fun h => h h0), Aa (fun h => h hok), Aa (fun h => h hel), Ab hasc]
      have hr : shS p k xa d vs = (([], [], []), 2) := by rw [shS, hE, Ab (by decide)]
      refine Cs (Kq I (Kb [[.slice none 0 0], [.slice none 0 0], [.slice none 0 0]] I I) ?_); refine Nu I I (Sa I I I .tc) (Ka I (Nt (Ce (Xb ?_)))); exact Rn I (.agg I .tc u58 I (by kernel_rfl) (.tmp I .nil)) fun w' hS => cE hr hS
     ·have hasc : cC 1 d k.r.length = true := by simpa using hc65
      have hasn : ¬ cC 1 d k.r.length = false := by rw [hasc]; decide
      refine Ck (Xa (Cq (Cs (Km I (Yo I u31 (Km I (Yo I u38 (Yj I (Nt (Ci I (fun hc71 => ?_) (fun hc71 => ?_)))))))))))
      ·have hE : shE p k xa d vs = 6 := by rw [shE, Aa (fun h => h h0), Aa (fun h => h hok), Aa (fun h => h hel), Aa hasn, Ab (by omega)]
       have hr : shS p k xa d vs = (([], [], []), 6) := by rw [shS, hE, Ab (by decide)]
       refine Cs (Kq I (Kb [[.slice none 0 0], [.slice none 0 0], [.slice none 0 0]] I I) ?_); refine Nu I I (Sa I I I .tc) (Ka I (Nt (Ce (Xb ?_)))); exact Rn I (.agg I .tc u58 I (by kernel_rfl) (.tmp I .nil)) fun w' hS => cE hr hS
      ·have hlen : vs.length = d.length := by omega
       have hlen2 : ¬ vs.length ≠ d.length := by omega
       have hd18 := nM hasc (by have := (bG h0).2.2.2.2.2.1; omega); have hoa : okN p.attr := (dH (bG h0).1).1.1 _ (by simp); refine Ck (Xa (Cq (Cs (Ka I (Nt (Cb (Lp (σ := Nat) [(2, _), (3, _), (4, _), (5, _), (6, _), (10, _)] (fun gq => [(14, .int .i64 (gq : Int))]) (fun gq => gq ≤ vs.length ∧ ∀ x ∈ vs.take gq, val x < val p.attr) (fun gq => vs.length - gq) (0) (S6 I I I I I I) (S1 I) (by (try dsimp only); exact ⟨Ah _, by simp⟩) ?_))))))); rintro j hinv2; (try dsimp only at hinv2 ⊢); obtain ⟨hj, hlt⟩ := hinv2; refine Cq (Cs (Km I (Km I (Yo I u31 (Yl I (Nt (Ci I (fun hc76 => ?_) (fun hc76 => ?_))))))))
       ·have hjl : j < vs.length := by omega
        obtain ⟨v, hv⟩ : ∃ v, Keep (v = vs.getD j default) := ⟨_, rfl⟩; have hvo : okN v := by rw [show v = _ from hv]; exact hok.2 _ (an vs j hjl)
        refine Ck (Xa (Cq (Cb (Cq (Cf [0, 1, 2, 3, 4, 5, 6, 7] [] [0, 0, 0, 0, 0, 0, 1, 0] (by kernel_rfl) (by kernel_rfl) I ?_))))); refine Kj I (Rm I I) (Kj I (Rm I I) ?_); refine Kj I (Ib I I I u31 (by omega) (by (rw [Af]; omega))) ?_; refine Kj I (ldm I I u22 I (by assumption)) ?_; refine WJ.set 82 I (v' := .string (S (v))) (congrArg (fun l => Value.string (S l)) (by rw [show v = _ from hv])) ?_; refine Kj I (Fa (q := 11) I I u30 I I) (Kj I (Ld I I .tc u22) ?_); refine Jv I I I I I (fun ext => Oc I I (Kv fun w hS => fu (a := v) (b := p.attr) (by exact hvo.2) (by exact hoa.2) (by exact Cy hvo.1 (by decide)))) ?_; refine Kj I (po I I I) ?_; refine WJ.nil ?_; refine Nt (Ci I (fun hc86 => ?_) (fun hc86 => ?_))
        ·have hn : ¬ ∀ x ∈ vs, val x < val p.attr := fun h => by
          have h1 := h _ (an vs j hjl); rw [← show v = _ from hv] at h1; rw [ez] at hc86; omega
         have hE : shE p k xa d vs = 2 := by rw [shE, Aa (fun h => h h0), Aa (fun h => h hok), Aa (fun h => h hel), Aa hasn, Aa hlen2, Ab hn]
         have hr : shS p k xa d vs = (([], [], []), 2) := by rw [shS, hE, Ab (by decide)]
         refine Cs (Kq I (Kb [[.slice none 0 0], [.slice none 0 0], [.slice none 0 0]] I I) ?_); refine Nu I I (Sa I I I .tc) (Ka I (Nt (Ce (Xf (Xb (Xb (Xf (Xb ?_)))))))); exact Rn I (.agg I .tc u58 I (by kernel_rfl) (.tmp I .nil)) fun w' hS => cE hr hS
        ·refine Ck (Xd (Xa (Cg (Km I (Kq I (Rz I I I (by omega)) (Ka I (Nn (Ly (j + 1) (by (try dsimp only); omega) (S6 I I I I I I) (by refine (Sc ?_ (S0 _)) <;> (rfl)) ?_ (fun _ h => h))))))))); (try dsimp only); exact ⟨hjl, ay hjl hlt (by rw [← show v = _ from hv]; rw [aw] at hc86; exact hc86)⟩
       ·refine Cx (Xc (Xc (Xe ?_))); obtain rfl : j = vs.length := by omega
        rw [Al] at hlt; have hE : shE p k xa d vs = (eR p).2 := by rw [shE, Aa (fun h => h h0), Aa (fun h => h hok), Aa (fun h => h hel), Aa hasn, Aa hlen2, Aa (fun h => h hlt)]
        refine Xa (Cs (Kq I (lda I I .tc u30 I ?_) ?_))
        ·kernel_rfl
        refine Kc I (fun w hS => tT (p := p) (by assumption)) (Km I (Ye I (Ye I (Ye I (Ka I (Ka I (Ka I (Nt (Cq (Cs (Km I (Yj I (Nt (Ci I (fun hc95 => ?_) (fun hc95 => ?_)))))))))))))))
        ·have hr : shS p k xa d vs = (([], [], []), (eR p).2) := by rw [shS, hE, Ab (by simpa using hc95)]
         refine Cs (Kq I (Kb [[.slice none 0 0], [.slice none 0 0], [.slice none 0 0]] I I) (Km I (Nu I I (Sa I I I .tc) (Ka I (Nt (Ce (Xb ?_))))))); exact Rn I (.agg I .tc u58 I (by kernel_rfl) (.tmp I .nil)) fun w' hS => cE hr hS
        ·have hr : shS p k xa d vs = (shT p k xa d vs, 0) := by rw [shS, hE, Aa (by simpa using hc95)]
         have hlo : okN p.lo := (dH (bG h0).1).1.1 _ (by simp); have hz : elG k.g k.z := (bG h0).2.2.2.2.2.2.2 _ (by simp); have hpf := y8 h0 hel hasc hok.2 hlen; refine Ck (Xa (Cq (Cf [3, 4, 5, 6, 0, 1, 2, 7, 8, 9, 10, 11, 12] [] [0, 0, 0, 0, 0, 1, 1, 1, 0, 0, 0, 0, 0] (by kernel_rfl) (by kernel_rfl) I ?_))); refine Kj I (Fa (q := 13) I I u30 I I) (Kj I (Ld I I .tc u22) ?_); refine Jv I I I I I (fun ext => Oc I I (Kv fun w hS => tZ (x := p.lo))) ?_; refine Jv I I I I I (fun ext => Oc I I (Kv fun w hS => mQ (x := ((false, p.lo) : Zs)))) ?_; refine WJ.set 105 I (v' := zV (ngN p.lo)) (by rw [ngN, dd hlo]) ?_; refine Kj I (Fa (q := 1) I I u33 I I) ?_; refine Kj I (ldp I I .tc u26 I (by kernel_rfl : _ = some 2) (by rfl) (by rfl)) ?_; refine Kj I (Rm I I) ?_; refine Jv I I I I I (fun ext => Oc I I (Kv fun w hS => qj (g := k.g) (x := xa) (z := ngN p.lo) (by exact hk8) (by exact hg) (by exact hel) (by exact et hlo))) ?_; refine Kj I (Rm I I) (Kj I (Re I I I) (Kj I (Re I I I) (Kj I (Ra I I) (Kj I (Ra I I) ?_)))); refine WJ.nil ?_; refine Nt (Cs (Kq I (Fa (q := 1) I I u33 I I) (Kq I (ldp I I .tc u26 I (by kernel_rfl : _ = some 2) (by rfl) (by rfl)) ?_))); refine Km I (Kf 3 I u33 I I I .tc u22 ?_)
         refine Kc I (fun w hS => qi (g := k.g) (a := ae (cP (val k.g.1) (val xa) (zv (ngN p.lo)))) (b := k.z) (by exact hk8) (by exact hg) (by exact vh hg hel (et hlo)) (by exact hz)) (Km I (Ye I (Ns 116 I (v' := .string (S (ae (pfS p k xa d vs 0)))) (congrArg (fun l => Value.string (S l)) (by rw [xj])) ?_))); refine Ye I (Ka I (Nt (Cq (Cs (Ka I (Nt (Cb (Lp (σ := Nat) [(2, _), (3, _), (4, _), (5, _), (6, _), (10, _), (15, _)] (fun gq => [(20, .int .i64 (gq : Int)), (18, .string (S (ae (pfS p k xa d vs gq))))]) (fun gq => gq ≤ d.length) (fun gq => d.length - gq) (0) (S7 I I I I I I I) (S2 I I) (by (try dsimp only); exact Ah _) ?_)))))))); rintro i hinv3; (try dsimp only at hinv3 ⊢); obtain hi := hinv3; refine Cq (Cs (Km I (Km I (Yo I u38 (Yl I (Nt (Ci I (fun hc121 => ?_) (fun hc121 => ?_))))))))
         ·have hid : i < d.length := by omega
          have hiv : i < vs.length := by omega
          obtain ⟨v, hv⟩ : ∃ v, Keep (v = vs.getD i default) := ⟨_, rfl⟩; have hdi := fI hasc _ (an d i hid); obtain ⟨y, hy⟩ : ∃ y : Nat, Keep ((y : Int) = d.getD i default) := ⟨(d.getD i default).toNat, by show ((d.getD i default).toNat : Int) = _; omega⟩; have hyl : y < k.r.length := by rw [← show (y : Int) = _ from hy] at hdi; omega
          have hvo : okN v := by rw [show v = _ from hv]; exact hok.2 _ (an vs i hiv)
          have hry : elG k.g (rD k y) := ue h0 hyl; have hps := xk (p := p) (k := k) (xa := xa) hid hiv; rw [← show (y : Int) = _ from hy, ← show v = _ from hv, Au] at hps; refine Ck (Xa (Cq (Cb (Cq (Cf [10, 11, 12, 13, 14, 15, 0, 1, 2, 3, 4, 5, 6, 7, 8, 9, 16, 17, 18, 19, 20, 21] [] [0, 0, 0, 0, 0, 0, 0, 0, 0, 0, 0, 0, 0, 0, 1, 1, 1, 0, 0, 0, 0, 0] (by kernel_rfl) (by kernel_rfl) I ?_))))); refine Kj I (Rm I I) (Kj I (Rm I I) ?_); refine Kj I (Ib I I I u31 (by omega) (by (rw [Af]; omega))) ?_; refine Kj I (ldm I I u22 I (by assumption)) ?_; refine WJ.set 138 I (v' := .string (S (v))) (congrArg (fun l => Value.string (S l)) (by rw [show v = _ from hv])) ?_; refine Jv I I I I I (fun ext => Oc I I (Kv fun w hS => tZ (x := v))) ?_; refine Jv I I I I I (fun ext => Oc I I (Kv fun w hS => mQ (x := ((false, v) : Zs)))) ?_; refine WJ.set 140 I (v' := zV (ngN v)) (by rw [ngN, dd hvo]) ?_; refine Kj I (Fa (q := 1) I I u33 I I) ?_; refine Kj I (ldp I I .tc u26 I (by kernel_rfl : _ = some 2) (by rfl) (by rfl)) ?_; refine Kj I (Fa (q := 5) I I u33 I I) (Kj I (Ld I I .tc u31) ?_); refine Kj I (Rm I I) (Kj I (Rm I I) ?_); refine Kj I (Ib I I I u38 (by omega) (by (rw [Af]; omega))) ?_; refine Kj I (ldm I I u3 I (by assumption)) ?_
          refine WJ.set 132 I (v' := .int .i64 ((y : Nat) : Int)) (congrArg (Value.int .i64) (by rw [show (y : Int) = _ from hy])) ?_; refine Kj I (Ib I I I u31 (by omega) (by (rw [Af]; omega))) ?_; refine Kj I (ldm I I u22 I (by assumption)) ?_; refine WJ.set 134 I (v' := .string (S (rD k y))) (congrArg (fun l => Value.string (S l)) (by rfl)) ?_; refine Jv I I I I I (fun ext => Oc I I (Kv fun w hS => qj (g := k.g) (x := rD k y) (z := ngN v) (by exact hk8) (by exact hg) (by exact hry) (by exact et hvo))) ?_; refine Kj I (Rm I I) (Kj I (Re I I I) (Kj I (Re I I I) (Kj I (Ra I I) (Kj I (Ra I I) ?_)))); refine WJ.nil ?_; refine Nt (Cg (Kq I (Fa (q := 1) I I u33 I I) (Kq I (ldp I I .tc u26 I (by kernel_rfl : _ = some 2) (by rfl) (by rfl)) ?_))); refine Km I (Km I (Kc I (fun w hS => qi (g := k.g) (a := ae (pfS p k xa d vs i)) (b := ae (cP (val k.g.1) (val (rD k y)) (zv (ngN v)))) (by exact hk8) (by exact hg) (by exact AJ (hpf i (by omega))) (by exact vh hg hry (et hvo))) (Km I (Ye I (Ns 150 I (v' := .string (S (ae (pfS p k xa d vs (i + 1))))) (congrArg (fun l => Value.string (S l)) (by rw [hps])) ?_))))); refine Ye I (Ka I (Nn (Xd (Xa (Cg (Km I (Kq I (Rz I I I (by omega)) (Ka I (Nn (Ly (i + 1) (by (try dsimp only); omega) (S7 I I I I I I I) (by refine (Sc ?_ (Sc ?_ (S0 _))) <;> (rfl)) ?_ (fun _ h => h)))))))))))
          (try dsimp only); exact hid
         ·refine Cx (Xc (Xc (Xe ?_))); obtain rfl : i = d.length := by omega
          obtain ⟨tg, htg⟩ : ∃ tg, Keep (tg = ae (pfS p k xa d vs d.length)) := ⟨_, rfl⟩; rw [← show tg = _ from htg]; refine Xa (Cs (Kq I (Fa (q := 1) I I u33 I I) (Kq I (ldp I I .tc u26 I (by kernel_rfl : _ = some 2) (by rfl) (by rfl)) ?_))); refine Kh I (eK I I u54 (by kernel_rfl : _ = some (some (.agg #[.string (S []), .string (S [])]), 2, 32)) (by kernel_rfl) (by decide) I I (by (simp [Value.cells]; done)) (by (exact bJ _)) (by decide)) ?_; intro b154; refine Kf 14 I u30 I I I .tc u22 ?_; refine Kq I (Kb [[.string (S [])]] I I) (Km I (Kq I (Kb [[.string (S [])]] I I) ?_)); refine Kh I (eK I I u55 (by kernel_rfl : _ = some (some (.agg #[.string (S [])]), 1, 16)) (by kernel_rfl) (by decide) I I (by (simp [Value.cells]; done)) (by (simp only [List.map, Value.cells, C3, List.flatMap_nil, Bi, Du]; rfl)) (by decide)) ?_; intro b160; refine Kq I (Kb [[.slice none 0 0], [.slice none 0 0], [.slice none 0 0]] I I) ?_; refine Kh I (Oz [.slice none 0 0, .slice none 0 0, .slice none 0 0] I) ?_; intro b23; refine Nu I I (Sa I I I .tc) (Nt (Cs (Km I (Kf 4 I u33 I I I .tc u22 ?_)))); refine Kh I (aR I I u31 (by kernel_rfl : _ = some (some (.string (S [])), 1, 16)) I (by simp only [List.map]; rfl) I I ?_ (by decide)) ?_
          ·simp [Value.cells]
          intro b165; refine Ka I (Nt (Cs (Km I (Kf 5 I u33 I I I .tc u31 ?_)))); refine Yo I u31 (Kh I (Oc I I (fA fun w hS => yM (by (exact hS.sl)) (by assumption) (by omega))) ?_); intro g170; refine WL.pu ?_; intro hg170; (try dsimp only at hg170 ⊢); refine Ka I (Nt (Cq (Cs (Ka I (Nt (Cb (Lo (σ := Nat × (Option Nat) × Nat × (List Value) × (Option Nat) × Nat × (List Value)) [(5, _), (6, _), (10, _), (18, _), (23, _), (25, _)] (fun gq => [(26, .int .i64 (gq.1 : Int)), (24, .slice (gq.2.1.map fun b => ⟨b, 0, none⟩) (2 + gq.1) gq.2.2.1)]) (fun gq => gq.1 ≤ (aB d k.r.length).length ∧ gq.2.2.1 = 2 + gq.1 + gq.2.2.2.1.length ∧ gq.2.2.2.2.2.1 = 2 + gq.1 + gq.2.2.2.2.2.2.length) (fun gq => (aB d k.r.length).length - gq.1) (fun gq => [⟨gq.2.1, ap (bsW k xa ((aB d k.r.length).take gq.1)) ++ gq.2.2.2.1, 22⟩, ⟨some b23, [.slice (some ⟨b154, 0, none⟩) 1 1, .slice (gq.2.2.2.2.1.map fun b => ⟨b, 0, none⟩) (2 + gq.1) gq.2.2.2.2.2.1, .slice none 0 0], 58⟩, ⟨gq.2.2.2.2.1, vrs (vsW p ((aB d k.r.length).take gq.1)) ++ gq.2.2.2.2.2.2, 124⟩, ⟨some b154, gpC k.g, 26⟩, xr b10, ⟨some b6, ikC k (.slice ra k.r.length rc), 33⟩, ⟨some b5, prC p, 30⟩]) (fun gq => [Fact.sl g170.a (pD (aB d k.r.length)), Fact.sl ra (ap k.r), Fact.sl da (ef d), Fact.sl va (ap vs)]) (0, some b165, 2, [], some b160, 2, []) (S6 I I I I I I) (S2 I I) (by (try dsimp only); exact ⟨Ah _, rfl, rfl⟩) (by exact fun w h => h) ?_)))))))
          rintro ⟨i, o1, c1, p1, o2, c2, p2⟩ hinv4; (try dsimp only at hinv4 ⊢); obtain ⟨hi, hc1, hc2⟩ := hinv4; refine Cq (Cs (Km I (Km I (Yo I u38 (Yl I (Nt (Ci I (fun hc174 => ?_) (fun hc174 => ?_))))))))
          ·have hil : i < (aB d k.r.length).length := by omega
           obtain ⟨x, hx⟩ : ∃ x : Nat, Keep (x = (aB d k.r.length).getD i default) := ⟨_, rfl⟩
           have hxn : x < k.r.length := by
            have := an (aB d k.r.length) i hil; rw [← show x = _ from hx] at this; exact Ch.1 (List.mem_filter.1 this).1
           have htk := aJ hil
           have hH : (aB d k.r.length).length ≤ k.r.length := by
            have := List.length_filter_le (fun i : Nat => !(d.contains (i : Int))) (List.range k.r.length); rw [List.length_range] at this; exact this
           have hbl : (ap (bsW k xa ((aB d k.r.length).take i))).length = 2 + i := by rw [Af, Ar, Ar, Af, Bl]; omega
           have hwl : (vrs (vsW p ((aB d k.r.length).take i))).length = 2 + i := by rw [aj _ _ 1 (fun _ => rfl), Ar, Ar, Af, Bl]; omega
           rw [← show x = _ from hx] at htk; refine Ck (Xa (Cq (Cb (Cs (Kf 11 I u30 I I I .tc u22 ?_))))); refine Ka I (Nt (WC.joinP (σ := Bs) [(5, _), (6, _), (10, _), (18, _), (23, _), (24, _), (25, _), (26, _)] (fun gq => [(27, .string (S gq))]) (fun gq => gq = if x = 0 then p.sec else p.attr) (S8 I I I I I I I I) ?_ ?_))
           ·skip
            refine Cs (Km I (Km I (Kq I (Ib I I I u38 (by omega) (by (rw [Af]; omega))) ?_))); refine Kq I (ldm I I u3 I (by assumption)) ?_; refine Ns 182 I (v' := .int .i64 ((x : Nat) : Int)) (congrArg (Value.int .i64) (by rw [show x = _ from hx])) ?_; refine Yi I (Nt (Ci I (fun hc183 => ?_) (fun hc183 => ?_)))
            ·refine Cg (Kf 10 I u30 I I I .tc u22 ?_); refine Ka I (Nn (WX.joinP (p.sec) (S8 I I I I I I I I) (by refine (Sc ?_ (S0 _)) <;> (rfl)) ?_ (fun _ h => h))); (try dsimp only); rw [Ab (by omega)]
            ·refine Ck (WX.joinP (p.attr) (S8 I I I I I I I I) (by refine (Sc ?_ (S0 _)) <;> (rfl)) ?_ (fun _ h => h)); (try dsimp only); rw [Aa (by omega)]
           ·rintro u hmeet; (try dsimp only at hmeet ⊢); refine WC.joinP (σ := Bs) [(5, _), (6, _), (10, _), (18, _), (23, _), (24, _), (25, _), (26, _)] (fun gq => [(27, .string (S gq))]) (fun gq => gq = lim p x) (S8 I I I I I I I I) ?_ ?_
            ·skip
             refine Cs (Km I (Km I (Kq I (Ib I I I u38 (by omega) (by (rw [Af]; omega))) ?_))); refine Kq I (ldm I I u3 I (by assumption)) ?_; refine Ns 189 I (v' := .int .i64 ((x : Nat) : Int)) (congrArg (Value.int .i64) (by rw [show x = _ from hx])) ?_; refine Yi I (Nt (Ci I (fun hc190 => ?_) (fun hc190 => ?_)))
             ·refine Cg (Kf 12 I u30 I I I .tc u22 ?_); refine Ka I (Nn (WX.joinP (p.han) (S8 I I I I I I I I) (by refine (Sc ?_ (S0 _)) <;> (rfl)) ?_ (fun _ h => h))); (try dsimp only); rw [lim, Aa (by omega), Ab (by omega)]
             ·refine Ck (WX.joinP (u) (S8 I I I I I I I I) (by refine (Sc ?_ (S0 _)) <;> (rfl)) ?_ (fun _ h => h)); (try dsimp only); rw [hmeet, lim]; split; rfl; rw [Aa (by omega)]
            ·rintro u2 hmeet; (try dsimp only at hmeet ⊢); refine Cs (Kf 1 I u58 I I I .tc u55 ?_); refine Km I (Kq I (Kb [[.string (S [])]] I I) ?_); refine Kh I (eK I I u55 (by kernel_rfl : _ = some (some (.agg #[.string (S [])]), 1, 16)) (by kernel_rfl) (by decide) I I (by (simp [Value.cells]; done)) (by (exact bJ _)) (by decide)) ?_; intro b197; refine Kh I (vI I u55 (by kernel_rfl : _ = some (some (.agg #[.string (S [])]), 1, 16)) (by kernel_rfl) (by decide) .tc I I (fun w hS => by (exact hS.os)) (by rfl) (by (refine ⟨by (rw [hwl, Ax]), by omega, by omega, by omega⟩)) (by (simp [Value.oneCell']; done))) ?_; rintro ⟨o198, c198, s198⟩; refine WL.pu ?_; intro hg198; (try dsimp only at hg198 ⊢); refine Kq I (Fa (q := 1) I I u58 I I) (Ng I I (st I I I .tc (by kernel_rfl) I ?_ (by (simp only [As, At]; rfl))) ?_)
             ·(simp; done)
             intro _; refine Nt (WC.free (K := [⟨some b6, ikC k (.slice ra k.r.length rc), 33⟩]) (fs0 := [Fact.sl g170.a (pD (aB d k.r.length)), Fact.sl ra (ap k.r)]) [0, 1, 2, 3, 4, 5, 6, 7, 8, 9, 10, 11] [] [0, 0, 0, 0, 0, 0, 0, 0, 0, 3, 1, 0] (by kernel_rfl) (by kernel_rfl) I ?_); refine Kj I (Rm I I) (Kj I (Fa (q := 5) I I u33 I I) (Kj I (Ld I I .tc u31) ?_)); refine Kj I (Rm I I) (Kj I (Rm I I) ?_); refine Kj I (Ib I I I u38 (by omega) (by (rw [Af]; omega))) ?_; refine Kj I (ldm I I u3 I (by assumption)) ?_; refine WJ.set 206 I (v' := .int .i64 ((x : Nat) : Int)) (congrArg (Value.int .i64) (by rw [show x = _ from hx])) ?_; refine Kj I (Ib I I I u31 (by omega) (by (rw [Af]; omega))) ?_; refine Kj I (ldm I I u22 I (by assumption)) ?_; refine WJ.set 208 I (v' := .string (S (rD k x))) (congrArg (fun l => Value.string (S l)) (by rfl)) ?_; refine Jf I I I I I (ic I I u31 (by kernel_rfl : _ = some (some (.string (S [])), 1, 16)) I (by simp only [List.map]; rfl) I I ?_ (by decide)) ?_
             ·simp [Value.cells]
             intro b209; refine Jg I I I I I (my I u31 (by kernel_rfl : _ = some (some (.string (S [])), 1, 16)) I .tc I I (fun ext w hS => by (exact hS.os)) (by rfl) (by (refine ⟨hbl, by omega, by omega, by omega⟩)) (by (simp [Value.oneCell']; done))) ?_; rintro ⟨o210, c210, s210⟩ hg210; (try dsimp only at hg210 ⊢); refine Kj I (Ra I I) ?_; refine WJ.nil ?_; refine Nn (Xd (Xa (Cg (Km I (Kq I (Rz I I I (by omega)) (Ka I (Nn (Lx ((i + 1, o210, c210, s210, o198, c198, s198)) (by (try dsimp only); omega) (S6 I I I I I I) (by refine (Sc ?_ (Sc ?_ (S0 _))) <;> (rfl)) ?_ (by exact fun w h => by dsimp only; rw [htk, nJ, p4, lN, tk, ← hmeet]; exact av _ h))))))))); (try dsimp only); exact ⟨hil, by omega, by omega⟩
          ·refine Cx (Xc (Xc (Xe ?_))); obtain rfl : i = (aB d k.r.length).length := by omega
           simp only [Al]
           have hH : (aB d k.r.length).length ≤ k.r.length := by
            have := List.length_filter_le (fun i : Nat => !(d.contains (i : Int))) (List.range k.r.length); rw [List.length_range] at this; exact this
           have hBl : (bsW k xa (aB d k.r.length)).length = 2 + (aB d k.r.length).length := by rw [Ar, Ar, Af]; omega
           refine Xa (Cs (WL.st (fun w h => yd (xs := ap (bsW k xa (aB d k.r.length))) (sp := p1) h) ?_)); refine Km I (Kq I (Kb [[.int .i64 0], [.string (S [])], [.slice none 0 0]] I I) ?_); refine Kh I (Oz [.int .i64 0, .string (S []), .slice none 0 0] I) ?_; intro b28
           refine Nu I I (Sa I I I .tc) (Nt (Cq (Cs (Ka I (Nt (Cb (Lo (σ := Nat × (Option Nat) × Nat × (List Value)) [(10, _), (23, _), (24, _), (28, _)] (fun gq => [(29, .int .i64 (gq.1 : Int))]) (fun gq => gq.1 ≤ (bsW k xa (aB d k.r.length)).length ∧ gq.2.2.1 * 4 = gq.1 * 4 + gq.2.2.2.length) (fun gq => (bsW k xa (aB d k.r.length)).length - gq.1) (fun gq => [⟨gq.2.1, (eG ((bsW k xa (aB d k.r.length)).take gq.1) 0).flatMap tmC ++ gq.2.2.2, 122⟩, ⟨some b28, [.int .i64 0, .string (S tg), .slice (gq.2.1.map fun b => ⟨b, 0, none⟩) gq.1 gq.2.2.1], 95⟩, ⟨some b23, [.slice (some ⟨b154, 0, none⟩) 1 1, .slice (o2.map fun b => ⟨b, 0, none⟩) (2 + (aB d k.r.length).length) c2, .slice none 0 0], 58⟩, ⟨o2, vrs (vsW p (aB d k.r.length)) ++ p2, 124⟩, ⟨some b154, gpC k.g, 26⟩, xr b10]) (fun gq => [Fact.sl (o1.map fun b => ⟨b, 0, none⟩) (ap (bsW k xa (aB d k.r.length)))]) (0, none, 0, []) (S4 I I I I) (S1 I) (by (try dsimp only); exact ⟨Ah _, rfl⟩) (by exact fun w h => (h.nil 122).sub (.cons_cons _ (.cons_cons _ (.cons_cons _ (.cons_cons _ (.cons_cons _ (.cons_cons _ (List.nil_sublist _))))))) (fun _ hh => by rcases List.mem_singleton.1 hh with rfl; exact List.mem_cons_self)) ?_))))))); rintro ⟨j, o3, c3, p3⟩ hinv5; (try dsimp only at hinv5 ⊢); obtain ⟨hj, hc3⟩ := hinv5; refine Cq (Cs (Km I (Km I (Yo I u31 (Yl I (Nt (Ci I (fun hc216 => ?_) (fun hc216 => ?_))))))))
           ·have hjl : j < (bsW k xa (aB d k.r.length)).length := by omega
            obtain ⟨y, hy⟩ : ∃ y, Keep (y = (bsW k xa (aB d k.r.length)).getD j default) := ⟨_, rfl⟩; have htk := aJ hjl; rw [← show y = _ from hy] at htk; have htl : ((bsW k xa (aB d k.r.length)).take j).length = j := by rw [Bl]; omega
            have hxl : ((eG ((bsW k xa (aB d k.r.length)).take j) 0).flatMap tmC).length = j * 4 := by rw [aj _ _ 4 (fun _ => rfl), eO, htl]
            refine Ck (Xa (Cq (Cb (WC.free (K := [⟨some b28, [.int .i64 0, .string (S tg), .slice (o3.map fun b => ⟨b, 0, none⟩) j c3], 95⟩]) (fs0 := [Fact.sl (o1.map fun b => ⟨b, 0, none⟩) (ap (bsW k xa (aB d k.r.length)))]) [0, 1, 2, 3, 4, 5, 6, 7, 8, 9, 10, 11] [12] [0, 0, 0, 0, 0, 0, 0, 0, 0, 3, 1, 0, 2] (by kernel_rfl) (by kernel_rfl) I ?_)))); refine Kj I (Fa (q := 2) I I u95 I I) (Kj I (Ld I I .tc u93) ?_); refine Kj I (Rm I I) (Kj I (Rm I I) ?_); refine Kj I (Ib I I I u31 (by omega) (by (rw [Af]; omega))) ?_; refine Kj I (ldm I I u22 I (by assumption)) ?_; refine WJ.set 224 I (v' := .string (S (y))) (congrArg (fun l => Value.string (S l)) (by rw [show y = _ from hy])) ?_; refine Kj I (Rm I I) (Kj I (Kb [[.bool false], [.string (S [])]] I I) ?_); refine WJ.set 226 I (v' := .agg #[.bool false, .string (S [1])]) (by rfl) ?_; refine Kj I (Kb [[.string (S [])], [.int .i64 0], [.bool false, .string (S [])]] I I) ?_; refine Jf I I I I I (ib I I u93 (by kernel_rfl : _ = some (some (.agg #[.string (S []), .int .i64 0, .bool false, .string (S [])]), 4, 48)) (by kernel_rfl) (by decide) I I (by (simp [Value.cells]; done)) (by (exact bJ _)) (by decide)) ?_; intro b228
            refine Jg I I I I I (lq I u93 (by kernel_rfl : _ = some (some (.agg #[.string (S []), .int .i64 0, .bool false, .string (S [])]), 4, 48)) (by kernel_rfl) (by decide) .tc I I (fun ext w hS => by (exact hS.os)) (by rfl) (by (refine ⟨hxl, by omega, by omega, by omega⟩)) (by (simp [Value.oneCell']; done))) ?_; rintro ⟨o229, c229, s229⟩ hg229; (try dsimp only at hg229 ⊢); refine Kj I (Fa (q := 2) I I u95 I I) ?_; refine WJ.nil ?_; refine Ng I I (st I I I .tc (by kernel_rfl) I ?_ (by (simp only [As, At]; rfl))) ?_
            ·(simp; done)
            intro _; refine Nn (Xd (Xa (Cg (Km I (Kq I (Rz I I I (by omega)) (Ka I (Nn (Lx ((j + 1, o229, c229, s229)) (by (try dsimp only); omega) (S4 I I I I) (by refine (Sc ?_ (S0 _)) <;> (rfl)) ?_ (by exact fun w h => by dsimp only; rw [htk, nS, htl, List.flatMap_append, show [trm y (j : Int)].flatMap tmC = [.string (S y), .int .i64 (j : Int), .bool false, .string (S [1])] from rfl]; exact av _ h))))))))); (try dsimp only); exact ⟨hjl, by omega⟩
           ·refine Cx (Xc (Xc (Xe ?_))); obtain rfl : j = (bsW k xa (aB d k.r.length)).length := by omega
            simp only [Al]
            have htg2 : tgS p k xa d vs = tg := by
             have h1 := hpf d.length (by omega); rw [bsL, zsL, Al, ← hlen, Al] at h1; rw [tgS, h1, show tg = _ from htg, hlen]
            rw [show 2 + (aB d k.r.length).length = (vsW p (aB d k.r.length)).length by rw [Ar, Ar, Af]; omega, show (bsW k xa (aB d k.r.length)).length = (eG (bsW k xa (aB d k.r.length)) 0).length by rw [eO]]; refine Xa (Cs (Kq I (lda I I .tc u95 I ?_) ?_))
            ·kernel_rfl
            refine Kh I (eK I I u56 (by kernel_rfl : _ = some (some (.agg #[.int .i64 0, .string (S []), .slice none 0 0]), 3, 48)) (by kernel_rfl) (by decide) I I (by (simp [Value.cells]; done)) (by (exact bJ _)) (by decide)) ?_; intro b232; refine Kq I (Fa (q := 2) I I u58 I I) (Ng I I (st I I I .tc (by kernel_rfl) I ?_ (by (simp only [As, At]; rfl))) ?_)
            ·(simp; done)
            intro _; refine Nt (Cs (Kq I (lda I I .tc u58 I ?_) ?_))
            ·kernel_rfl
            refine Nu I I (Sa I I I .tc) (Ka I (Nt (Ce ?_))); exact Rn I (.agg I .tc u58 I (by kernel_rfl) (.tmp I .nil)) fun w' hS => ⟨⟨[k.g], vsW p (aB d k.r.length), [((0, tg, eG (bsW k xa (aB d k.r.length)) 0), o3.map fun b => ⟨b, 0, none⟩, c3)], some ⟨b154, 0, none⟩, 1, o2.map fun b => ⟨b, 0, none⟩, c2, some ⟨b232, 0, none⟩, 1⟩, by rw [hr]; rfl, by rw [hr]; show _ = shT p k xa d vs; rw [shT, htg2]; rfl, hS.below, Fc hS.osk (Fc hS.ock (Fc hS.osk (Fc hS.ock Fn)))⟩
theorem o6 : Tryz.prog.underlying 22 = some .string := by kernel_rfl
theorem iE (cs : Array Value) (k : Nat) (v : Value) (w : World) (h : cs[k]? = some v) : (part 22 cs k).run Tryz.prog w = .ok v w := run_part_plain w (by kernel_rfl) h
theorem pn1 (u : Value) (w : World) : (part 22 #[u] 0).run Tryz.prog w = .ok u w := iE _ _ _ w rfl
theorem CU (u v : Value) (w : World) : (part 22 #[u, v] 0).run Tryz.prog w = .ok u w := iE _ _ _ w rfl
theorem AG (u v : Value) (w : World) : (part 22 #[u, v] 1).run Tryz.prog w = .ok v w := iE _ _ _ w rfl
theorem CT (u v x y : Value) (w : World) : (part 22 #[u, v, x, y] 0).run Tryz.prog w = .ok u w := iE _ _ _ w rfl
theorem nB (d : Nat) (a b : Bs) (w : World) : (Op.equalIn (d + 1) 22 (.string (S a)) (.string (S b))).run Tryz.prog w = .ok (decide (a = b)) w := by
 rw [run_equalIn_string w d _ _ _ o6, mL]
theorem lF (a b c d : Bs) (w : World) : (binOp .eql 26 (.agg #[.string (S a), .string (S b)]) (.agg #[.string (S c), .string (S d)])).run Tryz.prog w = .ok (.bool (decide (a = c ∧ b = d))) w := by
 rw [run_eql_struct, run_equalIn_agg w _ _ _ _ (by kernel_rfl) (by kernel_rfl)]
 have hf : (Tryz.prog.fieldsOf 26).toList = [⟨"Modulus", 22, 0, false, "", "", 0⟩, ⟨"Order", 22, 1, false, "", "", 16⟩] := by kernel_rfl
 rw [hf]
 simp only [Op.eqFields, Sem.run_bind, CU, AG, nB, Result.andThen_ok, Sem.run_ite, Sem.run_pure]
 by_cases h1 : a = c <;> by_cases h2 : b = d <;> simp [h1, h2]
theorem jq (a b : Bs) (w : World) : (binOp .eql 124 (.agg #[.string (S a)]) (.agg #[.string (S b)])).run Tryz.prog w = .ok (.bool (decide (a = b))) w := by
 rw [run_eql_struct, run_equalIn_agg w _ _ _ _ (by kernel_rfl) (by kernel_rfl)]
 have hf : (Tryz.prog.fieldsOf 124).toList = [⟨"Bound", 22, 0, false, "", "", 0⟩] := by kernel_rfl
 rw [hf]
 simp only [Op.eqFields, Sem.run_bind, pn1, nB, Result.andThen_ok, Sem.run_ite, Sem.run_pure]
 by_cases h1 : a = b <;> simp [h1]
theorem zK (d : Nat) (p q : Bool) (a b : Bs) (w : World) : (Op.equalIn (d + 2) 37 (.agg #[.bool p, .string (S a)]) (.agg #[.bool q, .string (S b)])).run Tryz.prog w = .ok (decide (p = q ∧ a = b)) w := by
 rw [run_equalIn_agg w _ _ _ _ (by kernel_rfl) (by kernel_rfl)]
 have h1 : Tryz.prog.underlying 4 = some .bool := by kernel_rfl
 have hf : (Tryz.prog.fieldsOf 37).toList = [⟨"Neg", 4, 0, false, "", "", 0⟩, ⟨"Abs", 22, 1, false, "", "", 8⟩] := by kernel_rfl
 have e1 : ∀ (u v : Value) (w : World), (part 4 #[u, v] 0).run Tryz.prog w = .ok u w := fun u v w => run_part_plain w (by kernel_rfl) rfl
 have hb : ∀ (w : World), (Op.equalIn (d + 1) 4 (.bool p) (.bool q)).run Tryz.prog w = .ok (p == q) w := fun w => run_equalIn_bool' w d _ p q h1
 rw [hf]
 simp only [Op.eqFields, Sem.run_bind, e1, AG, hb, nB, Result.andThen_ok, Sem.run_ite, Sem.run_pure]
 cases p <;> cases q <;> by_cases h : a = b <;> simp [h]
theorem nA (a : Bs) (m : Int) (p : Bool) (c : Bs) (a' : Bs) (m' : Int) (p' : Bool) (c' : Bs) (w : World) : (binOp .eql 122 (.agg #[.string (S a), .int .i64 m, .bool p, .string (S c)]) (.agg #[.string (S a'), .int .i64 m', .bool p', .string (S c')])).run Tryz.prog w = .ok (.bool (decide (a = a' ∧ m = m' ∧ p = p' ∧ c = c'))) w := by
 rw [run_eql_struct, run_equalIn_agg w _ _ _ _ (by kernel_rfl) (by kernel_rfl)]
 have hf : (Tryz.prog.fieldsOf 122).toList = [⟨"Base", 22, 0, false, "", "", 0⟩, ⟨"Var", 3, 1, false, "", "", 16⟩, ⟨"Coef", 37, 2, false, "", "", 24⟩] := by kernel_rfl
 have hi : Tryz.prog.underlying 3 = some (.int .i64) := by kernel_rfl
 have e1 : ∀ (u v x y : Value) (w : World), (part 3 #[u, v, x, y] 1).run Tryz.prog w = .ok v w := fun u v x y w => run_part_plain w (by kernel_rfl) rfl
 have hz : ∃ d, Tryz.prog.underlying 37 = some d ∧ a6 d = true := ⟨_, u37, rfl⟩
 have hs : (Tryz.prog.info? 37).map (·.size) = some 2 := by kernel_rfl
 have e2 : ∀ (u v x y : Value) (w : World), (part 37 #[u, v, x, y] 2).run Tryz.prog w = .ok (.agg #[x, y]) w := fun u v x y w => by
  obtain ⟨i, hi1, hi2⟩ := Dj.1 hs
  simp [part, isAgg, run_underlying u37, run_sizeOf w hi1, hi2]
 have hm : ∀ (w : World), (Op.equalIn 9999 3 (.int .i64 m) (.int .i64 m')).run Tryz.prog w = .ok (m == m') w := fun w => run_equalIn_int w 9998 _ .i64 .i64 m m' hi
 rw [hf]
 simp only [Op.eqFields, Sem.run_bind, e1, e2, hm, CT, zK, nB, Result.andThen_ok, Sem.run_ite, Sem.run_pure]
 by_cases h1 : a = a' <;> by_cases h2 : m = m' <;> by_cases h3 : p = p' ∧ c = c' <;> simp [h1, h2, h3]
end Go.Proofs.YtkdlonihbjhhoaaGreatDoor
