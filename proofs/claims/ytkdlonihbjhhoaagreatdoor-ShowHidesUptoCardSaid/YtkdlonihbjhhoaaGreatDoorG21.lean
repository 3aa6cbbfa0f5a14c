/-
  Parts of the walk: ShaB ShaI Sha4 ShaS Mp2 Els Shi.
-/
import Derived.Test.YtkdlonihbjhhoaaGreatDoorG20
import Derived.MapKept
import Derived.Maps.RangeRun
namespace Go.Proofs.YtkdlonihbjhhoaaGreatDoor
open Go.RowKit
set_option linter.unusedSimpArgs false
set_option linter.unusedVariables false
set_option maxHeartbeats 600000
set_option maxRecDepth 20000
def awP : PR := { ch := [2], sl := [2], mn := (([47], [23]), ([4], [9])), wh := (([77], []), ([4], [9])), sec := [23], attr := [2], han := [20], lo := [3], sz := [10], bl := [20], msk := [15] }
def awK : IK := { name := [105], g := ([77], []), z := [15], s := [4], r := [[64], [23], [1]], u := [4], h := [4] }
theorem z8 : eo awP awK ⟨[53], [7], [2]⟩ ⟨[[4]], [], 0⟩ = (([16], (true, [26]), ⟨[[4]], [], 1⟩), 0) := by decide +kernel
theorem CI : shE awP awK [16] [2] [[1]] = 0 := by decide +kernel
theorem vy : shS awP awK [16] [2] [[1]] = (shT awP awK [16] [2] [[1]], 0) := by rw [shS, Aa (fun h => h CI)]
theorem CG : wiS awP ⟨[53], [7], [2]⟩ (true, [26]) [[1], [3], [1]] [2] = ([(false, [4]), (true, [26]), (false, [1]), (false, [3])], 0) := by decide +kernel
theorem CH : tgS awP awK [16] [2] [[1]] = [1] := by decide +kernel
theorem AA : k6 (shT awP awK [16] [2] [[1]]) [(false, [4]), (true, [26]), (false, [1]), (false, [3])] = (true, 0) := by decide +kernel
theorem uY {l m : List Zs} {i : Nat} (h1 : i < l.length) (h2 : i < m.length) (h : l.take i = m.take i) (e : l.getD i default = m.getD i default) : l.take (i + 1) = m.take (i + 1) := by
 rw [pR h1, pR h2, h, e]
theorem zS {l m : List Zs} {i : Nat} (e : ¬ l.getD i default = m.getD i default) : ¬ l = m := fun h => e (by rw [h])
theorem BN {l m : List Zs} {a b : Option Addr} {c d : Nat} {w : World} {ok : Nat → Prop} (hF1 : (Fact.sl a (aZ l)).holds ok w) (hF2 : (Fact.sl b (aZ m)).holds ok w) (hl : l.length ≤ 10000000) (hm : m.length ≤ 10000000) :
  Cw 21 #[.slice a l.length c, .slice b m.length d] w (.bool (decide (l = m))) := by
 refine En [Fact.sl a (aZ l), Fact.sl b (aZ m)] [(0, .slice a l.length c), (1, .slice b m.length d)] Tryz.func21 I Tryz.ntmps21 I (Ac I (Ac I (An _))) (Fc (ah hF1) (Fc (ah hF2) Fn)) (Cs (DR ?_)); refine Yo I u39 (Km I (Yo I u39 (EL (fun hc10 => ?_) (fun hc10 => ?_))))
 ·have hn : ¬ l = m := fun h => by subst h; simp at hc10
  refine Cs (ne ?_)
  exact GZ
 ·have hlen : l.length = m.length := by omega
  refine Fe ?_; refine Yo I u39 (Km I (Nt (Cb (Lp (σ := Nat) [(0, _), (1, _), (12, _)] (fun gq => [(13, .int .i64 (gq : Int))]) (fun gq => gq ≤ l.length ∧ l.take gq = m.take gq) (fun gq => l.length - gq) (0) (S3 I I I) (S1 I) (by (try dsimp only); exact ⟨Ai _, by simp⟩) ?_))))
  rintro i hinv1; (try dsimp only at hinv1 ⊢)
  obtain ⟨hi, hok⟩ := hinv1
  refine DP (fun hc14 => ?_) (fun hc14 => ?_)
  ·have hil : i < l.length := by omega
   have him : i < m.length := by omega
   obtain ⟨x, hx⟩ : ∃ x, Keep (x = l.getD i default) := ⟨_, rfl⟩; obtain ⟨y, hy⟩ : ∃ y, Keep (y = m.getD i default) := ⟨_, rfl⟩; refine El ?_; refine Ka I (Nt (Cq (Cf [0, 1, 2, 3, 4, 5, 6, 7, 8] [] [0, 0, 0, 0, 0, 0, 0, 0, 0] (by kernel_rfl) (by kernel_rfl) I ?_))); refine DW ?_; refine Kj I (Ia I I I u39 (by kernel_rfl : _ = some 2) (by omega) (by (rw [aj _ _ 2 (fun _ => rfl)]; omega))) ?_; refine Fl ?_; refine WJ.set 19 I (v' := zV x) (by rw [show x = _ from hx]) ?_; refine DW ?_; refine Kj I (Ia I I I u39 (by kernel_rfl : _ = some 2) (by omega) (by (rw [aj _ _ 2 (fun _ => rfl)]; omega))) ?_; refine Fl ?_; refine WJ.set 23 I (v' := zV y) (by rw [show y = _ from hy]) ?_; refine Kj I (tQ I I I (by kernel_rfl) (fun w => jG _ _ _ _ w)) ?_; refine WJ.nil ?_; refine Nt (Ci I (fun hc24 => ?_) (fun hc24 => ?_))
   ·have hn : ¬ l = m := zS (fun h => hc24 (by rw [show x = _ from hx, show y = _ from hy, h]; exact ⟨rfl, rfl⟩)); refine Cs (to ?_); refine DS ?_; exact GZ
   ·refine Ck (Xd (Xa (Cg (Kq I (Rz I I I (by omega)) (Km I (Nn (Ly (i + 1) (by (try dsimp only); omega) (S3 I I I) (by refine (Sc ?_ (S0 _)) <;> (rfl)) ?_ (fun _ h => h)))))))); (try dsimp only); exact ⟨hil, uY hil him hok (by rw [← show x = _ from hx, ← show y = _ from hy]; exact Prod.ext hc24.1 hc24.2)⟩
  ·refine AT ?_; obtain rfl : i = l.length := by omega
   rw [Ap, hlen, Ap] at hok; refine Xa (Cs (to ?_)); exact R1 I I (by rw [Am hok]; rfl)
theorem tx {w : World} :
  Calls Tryz.prog 38 #[] w fun e w' => ∃ g : Rs, e = .returned (.tuple #[prV awP, ikV awK (g.val 3)]) ∧ g.cap = 3 + g.sp.length ∧ St (fun _ => True) w [g.ent (an awK.r) 22] [] w' := by
 refine En [] [] Tryz.func38 I Tryz.ntmps38 I (An _) Fn (Cs (Es ?_))
 intro b0
 refine EY ?_
 intro b1
 refine Nt (Cs (E9 ?_)); refine E9 ?_; refine Kq I (Kb [[.string (S []), .string (S [])], [.string (S [])], [.string (S [])]] I I) (E9 ?_); refine Kq I (Kb [[.string (S []), .string (S [])], [.string (S [])], [.string (S [])]] I I) (Kq I (Kb [[.string (S []), .string (S [])], [.string (S []), .string (S []), .string (S []), .string (S [])], [.string (S []), .string (S []), .string (S []), .string (S [])], [.string (S [])], [.string (S [])], [.string (S [])], [.string (S [])], [.string (S [])], [.string (S [])], [.string (S [])]] I I) ?_)
 refine Es ?_
 intro b2
 refine DQ ?_; refine Nt (Cs (E9 ?_))
 refine Kh I (aO I I u31 (by kernel_rfl : _ = some (some (.string (S [])), 1, 16)) I (by simp only [List.map]; rfl) I I ?_ (by decide)) ?_
 ·simp [Value.cells]
 intro b11
 refine Kq I (Kb [[.string (S [])], [.string (S []), .string (S [])], [.string (S [])], [.string (S [])], [.slice none 0 0], [.string (S [])], [.string (S [])]] I I) ?_
 refine EY ?_
 intro b3
 refine DQ ?_; refine WL.st (fun w h => show St _ _ ([⟨some b3, ikC awK (.slice (some ⟨b11, 0, none⟩) 3 3), 33⟩, ⟨some b11, an awK.r, 22⟩, ⟨some b2, prC awP, 30⟩, _, _] : List Ent) _ w from h) ?_
 refine Nt (Cq (WC.free (K := [⟨some b3, ikC awK (.slice (some ⟨b11, 0, none⟩) 3 3), 33⟩, ⟨some b2, prC awP, 30⟩]) (fs0 := []) [0, 2, 1] [3] [0, 0, 1, 2] (by kernel_rfl) (by kernel_rfl) I ?_))
 refine Kj I (lda I I .tc u30 I ?_) ?_
 ·kernel_rfl
 refine WJ.st I I I I (gS I I I ?_ ?_ ?_) ?_
 ·kernel_rfl
 ·simp [Value.oneCell']
 ·rfl
 refine Kj I (lda I I .tc u33 I ?_) ?_
 ·kernel_rfl
 refine WJ.nil ?_
 refine DQ ?_; refine Nt (Ce ?_)
 exact Rn I (.agg I .tc u30 I (by kernel_rfl) (.agg I .tc u33 I (by kernel_rfl) .nil)) fun w' hS => ⟨⟨some b11, 3, []⟩, rfl, rfl, hS.sub (own' := [⟨some b11, an awK.r ++ [], 22⟩]) (.cons _ (by simp)) (fun _ h => by cases h)⟩
theorem yL {s : SA} {p : PR} {k : IK} {a : Bs} {d : List Int} {vs : List Bs} (hm8 : k.g.1.length ≤ 8) (hk : k.r.length ≤ 90000) (h : s.core = (shS p k a d vs).1) : saL s := by
 have hh : (bQ d k.r.length).length ≤ k.r.length := by
  have := List.length_filter_le (fun i : Nat => !(d.contains (i : Int))) (List.range k.r.length)
  rw [List.length_range] at this; exact this
 have hc : s.gs.length ≤ 100000 ∧ s.vs.length ≤ 100000 ∧ s.core.2.2.length ≤ 100000 ∧ (∀ q ∈ s.core.2.2, q.2.2.length ≤ 100000) ∧ ∀ g ∈ s.gs, g.1.length ≤ 8 := by
  have e1 : s.gs = (shS p k a d vs).1.1 := congrArg (·.1) h
  have e2 : s.vs = (shS p k a d vs).1.2.1 := congrArg (·.2.1) h
  rw [e1, e2, h, shS]; split
  ·exact ⟨Ai _, Ai _, Ai _, by simp, by simp⟩
  ·exact ⟨by simp [shT], by simp [shT]; omega, by simp [shT], by simp [shT, ik]; omega, by simpa [shT] using hm8⟩
 exact ⟨hc.1, hc.2.1, by have := hc.2.2.1; simpa using this, eZ.1 hc.2.2.2.1, hc.2.2.2.2⟩
abbrev awS : SG := ⟨[53], [7], [2]⟩
abbrev awZ : Zs := (true, [26])
theorem jy {w : World} (hT : Tab w) (hD : TabD w) :
  Cw 12 #[] w (.bool true) := by
 refine En [] [] Tryz.func12 I Tryz.ntmps12 I (An _) Fn (Cs (Ka I (Nt (Cs (Kh I (Oc I I (fx fun w hS => tx)) ?_)))))
 intro g15
 refine WL.pu ?_
 intro hg15; (try dsimp only at hg15 ⊢)
 refine Km I (Ye I (Ye I (Es ?_)))
 intro b1
 refine EY ?_
 intro b2
 refine DQ ?_; refine DQ ?_; refine Nt (Cs (Kq I (Kb [[.string (S [])], [.string (S [])], [.string (S [])]] I I) ?_))
 refine Kh I (Oz [.string (S []), .string (S []), .string (S [])] I) ?_
 intro b3
 refine Nu I I (Sa I I I .tc) (Nt (Cs (Kq I (lda I I .tc u30 I ?_) ?_)))
 ·kernel_rfl
 refine Kq I (lda I I .tc u33 I ?_) ?_
 ·kernel_rfl
 refine Kq I (lda I I .tc u35 I ?_) ?_
 ·kernel_rfl
 refine Kh I (aO I I u31 (by kernel_rfl : _ = some (some (.string (S [])), 1, 16)) I (by simp only [List.map]; rfl) I I ?_ (by decide)) ?_
 ·simp [Value.cells]
 intro b23
 refine Ex ?_
 refine Kh I (Oc I I (fx fun w hS => pZ (p := awP) (k := awK) (s := awS) (t := ⟨[[4]], [], 0⟩) (by (exact hS.sl)) (by (exact hS.os)) (by decide) (by decide) (by decide) (by decide) (by decide) (by decide) (by exact dZ hT hS) (by exact bh hD hS))) ?_
 intro g25
 refine WL.pu ?_
 intro hg25; (try dsimp only at hg25 ⊢)
 rw [z8]
 refine Km I (Ye I (Ye I (Ye I (Ye I (AS ?_)))))
 intro b5
 refine E6 ?_
 intro b6
 refine Ka I (Nu I I (Sa I I I .tc) (Nu I I (Sa I I I .tc) (Ka I (Nt (Cs (Kq I (lda I I .tc u30 I ?_) ?_))))))
 ·kernel_rfl
 refine Kq I (lda I I .tc u33 I ?_) ?_
 ·kernel_rfl
 refine Km I (Kh I (aO I I u38 (by kernel_rfl : _ = some (some (.int .i64 0), 1, 8)) I (by simp only [List.map]; rfl) I I ?_ (by decide)) ?_)
 ·simp [Value.cells]
 intro b34
 refine Kh I (aO I I u31 (by kernel_rfl : _ = some (some (.string (S [])), 1, 16)) I (by simp only [List.map]; rfl) I I ?_ (by decide)) ?_
 ·simp [Value.cells]
 intro b35
 refine WL.st (fun w h => (h.freeze (off := 0) (xs := an [[1]]) (fun i hi => by rw [Az]; rfl)).freeze (off := 0) (xs := fO [2]) (fun i hi => by rw [Az]; rfl)) ?_
 refine Kh I (Oc I I (iN fun w hS => yI (p := awP) (k := awK) (xa := [16]) (d := [2]) (vs := [[1]]) (by (exact hS.slo)) (by (exact hS.slo)) (by (exact hS.slo)) (by decide) (by decide) (by decide) (by decide) (by decide) (by decide) (by exact bh hD hS))) ?_
 rintro sa36
 refine WL.pu ?_
 intro hg36; (try dsimp only [List.cons_append, List.nil_append] at hg36 ⊢)
 rw [vy]
 refine Km I (Ye I (Ye I (Gd ?_)))
 intro b8
 refine Nu I I (Sa I I I .tc) (Ka I (Nt (Cs (Kq I (lda I I .tc u30 I ?_) ?_))))
 ·kernel_rfl
 refine Kq I (lda I I .tc u35 I ?_) ?_
 ·kernel_rfl
 refine Kq I (lda I I .tc u37 I ?_) ?_
 ·kernel_rfl
 refine Kh I (aO I I u31 (by kernel_rfl : _ = some (some (.string (S [])), 1, 16)) I (by simp only [List.map]; rfl) I I ?_ (by decide)) ?_
 ·simp [Value.cells]
 intro b43
 refine Kh I (aO I I u38 (by kernel_rfl : _ = some (some (.int .i64 0), 1, 8)) I (by simp only [List.map]; rfl) I I ?_ (by decide)) ?_
 ·simp [Value.cells]
 intro b44
 refine Kh I (Oc I I (nu fun w hS => wm (p := awP) (sg := awS) (v := awZ) (ms := [[1], [3], [1]]) (d := [2]) (by (exact hS.os)) (by (exact hS.os)) (by decide) (by decide) (by decide) (by exact bh hD hS))) ?_
 rintro g45
 refine WL.pu ?_
 intro hg45; (try dsimp only [List.cons_append, List.nil_append] at hg45 ⊢)
 rw [CG]
 refine BY ?_; refine Cq (Cs ?_)
 have hc9 : sa36.core = shT awP awK [16] [2] [[1]] := hg36.trans (congrArg (·.1) vy)
 have hes : sa36.es.length = 1 := by have := congrArg (fun c => c.2.2.length) hc9; simpa [SA.core, shT] using this
 obtain ⟨q, hq⟩ := List.length_eq_one_iff.1 hes
 have hq1 : q.1.2.1 = [1] := by have := congrArg (fun c => c.2.2.map (·.2.1)) hc9; simpa [SA.core, hq, shT, CH] using this
 refine Km I (Km I (Kq I (aA I I I (by (dsimp only; omega))) ?_))
 refine Km I (Kq I (aA I I I (by (dsimp only; omega))) ?_)
 refine Yj I (Km I (Ns 54 I (v' := .bool false) (by rfl) ?_))
 refine Km I (Yr I (Yq I (Km I (Ns 58 I (v' := .bool false) (by rfl) ?_))))
 refine Kq I (lda I I .tc u37 I ?_) ?_
 ·kernel_rfl
 refine By ?_
 refine Kq I (tQ I I I (by kernel_rfl) (fun w => jG _ _ _ _ w)) ?_
 refine Yq I (Km I (Ns 63 I (v' := .bool false) (by rfl) ?_))
 refine Kf 2 I u58 I I I .tc u56 ?_
 refine Yo I u56 (Yj I (Yq I (Ns 68 I (v' := .bool false) (by rw [hes]; rfl) ?_)))
 refine Fg (fun _ => ?_)
 refine Ck (Xa (Cs (Kq I (lda I I .tc u58 I ?_) ?_)))
 ·kernel_rfl
 refine Km I (Kc I (fun w hS => (by have := xw (w := w) (s := sa36) (ws := [(false, [4]), awZ, (false, [1]), (false, [3])]) (a := g45.a) (c := g45.cap) hS.sl hS.sl hS.sl hS.sl hS.more (yL (by decide) (by decide) hg36) (by decide); rw [hc9, AA] at this; exact this)) (BY ?_)); refine Cs ?_
 rw [hq]
 refine Kf 2 I u58 I I I .tc u56 ?_
 refine Kq I (Ia I I I u56 (by kernel_rfl : _ = some 3) (by (simp <;> omega)) (by (simp <;> omega))) ?_
 (refine Kq I (faf I I u95 I (by kernel_rfl) (by (try simp only [sN, Int.reduceToNat, Nat.reduceAdd, Nat.reduceMul, Nat.reduceSub]); rfl)) ?_)
 refine Kq I (lE (sz := 3) 0 1 I I u22 I (fun _ => rfl) I (by simp) (by decide) I) ?_
 refine Ns 79 I (v' := .string (S ([1]))) (congrArg (fun l => Value.string (S l)) (by exact hq1)) ?_
 refine Ys I (Km I (Ns 81 I (v' := .bool true) (by rfl) ?_))
 refine Km I (By ?_); refine By ?_; refine By ?_; refine By ?_
 refine Kh I (g8 I I u39 (by kernel_rfl : _ = some (some (.agg #[.bool false, .string (S [])]), 2, 24)) (by kernel_rfl) (by decide) I I (by (simp [Value.cells]; done)) (by (simp only [List.map, Value.cells, C2, List.flatMap_nil, Bl, D5]; rfl)) (by decide)) ?_
 intro b87
 refine Kc I (fun w hS => BN (l := [(false, [4]), awZ, (false, [1]), (false, [3])]) (m := [(false, [4]), awZ, (false, [1]), (false, [3])]) (a := g45.a) (b := some ⟨b87, 0, none⟩) (c := g45.cap) (d := 4) (w := w) hS.sl hS.os (by decide) (by decide)) (Yp I (Km I (Ns 90 I (v' := .bool true) (by rfl) ?_)))
 refine Km I (Yi I (Yp I (Km I (Ns 94 I (v' := .bool true) (by rfl) ?_))))
 refine Km I (Yp I (to ?_))
 exact GH
theorem yk : ∀ {a b : List Fact} {x : Fact}, InF b x → InF (a ++ b) x
 | [], _, _, h => h
 | _ :: a, _, _, h => .there (yk h)
instance (priority := low) SubL.app3 {α : Type} (x y z : List α) [h : SubL x z] : SubL x (y ++ z) := ⟨h.h.trans (List.sublist_append_right _ _)⟩
instance (priority := low) hasF_app3 {a b : List Fact} {x : Option Addr} {xs : List Value} [h : HasF b x xs] : HasF (a ++ b) x xs := ⟨yk h.h⟩
theorem pa {x : Bs} {w : World} :
  Cw 23 #[.string (S x)] w (zV (false, x)) := by
 refine En [] [(0, .string (S x))] Tryz.func23 I Tryz.ntmps23 I (Ac I (An _)) Fn (Cs (AS ?_))
 intro b2
 refine Nt (Cs (Km I (By ?_)))
 refine DQ ?_; refine Nt (Ce ?_)
 exact Rn I (.agg I .tc u37 I (by kernel_rfl) .nil) fun w' hS => ⟨by rfl, hS.below⟩
theorem wy {g : Gp} {a b : Bs} {w : World} (hm8 : g.1.length ≤ 8) (hg : aU g = 0) (ha : elG g a) (hb : elG g b) :
  Cw 26 #[gV g, .string (S a), .string (S b)] w (.tuple #[.string (S (ae (val a * val b % val g.1))), .int .i64 0]) := by
 have h0 : iH a b g.1 = (ae (val a * val b % val g.1), 0) := by
  have h1 : co [a, b] [g.1] = 0 := by
   rw [co, Ab (by intro x hx; simp at hx; rcases hx with rfl | rfl | rfl; exact ha.1; exact hb.1; exact (cq hg).1), Aa (by simp; intro h; have := (cq hg).2.2.1; rw [h] at this; exact absurd this (by decide))]
  rw [iH, Ab h1]
 refine En [] [(0, gV g), (1, .string (S a)), (2, .string (S b))] Tryz.func26 I Tryz.ntmps26 I (Ac I (Ac I (Ac I (An _)))) Fn (DO ?_)
 intro b3
 refine Ka I (Ka I (Nt (Cq (WC.joinP (σ := Unit) [(1, _), (2, _), (3, _)] (fun gq => [(18, .bool (decide (¬ (okN a ∧ okN b))))]) (fun gq => True) (S3 I I I) ?_ ?_))))
 ·skip
  refine Cg (Km I (Kc I (fun w hS => ar (a := a)) (Yt I (Km I (Nc 14 I (fun hg14 => ?_) (fun hg14 => ?_))))))
  ·refine T2 I (Kt I (Yp I (Nn (WX.joinP (()) (S3 I I I) (by refine (Sc ?_ (S0 _)) <;> ((refine ai rfl ?_; (try dsimp only); (simp [*]; done)))) ?_ (fun _ h => h))))); (try dsimp only); done
  ·refine Km I (Kc I (fun w hS => ar (a := b)) (Yt I (Yq I (Nn (WX.joinP (()) (S3 I I I) (by refine (Sc ?_ (S0 _)) <;> ((refine ai rfl ?_; (try dsimp only); (simp [*]; done)))) ?_ (fun _ h => h)))))); (try dsimp only); done
 ·rintro _ hmeet; (try dsimp only at hmeet ⊢)
  refine Cd I (fun hc18 => by exfalso; (try simp only [sB] at hc18); exact hc18 ⟨ha.1, hb.1⟩) (fun hc18 => ?_)
  (try simp only [sB] at hc18)
  refine Ck (Xa (Cq (Cs (Kq I (lda I I .tc u26 I ?_) ?_))))
  ·kernel_rfl
  refine Kc I (fun w hS => gA (g := g)) (DT ?_); refine Yj I (Nt (Cd I (fun hc22 => by exfalso; (try simp only [sB] at hc22); exact hc22 hg) (fun hc22 => ?_)))
  (try simp only [sB] at hc22)
  refine Ck (Xa (Cq (Cs (Kq I (lda I I .tc u26 I ?_) ?_))))
  ·kernel_rfl
  refine Km I (Kc I (fun w hS => iq (g := g) (x := a) (by exact hg) (by exact ha.1) (by exact hm8)) (Ns 26 I (v' := .bool true) (by exact congrArg Value.bool (Am ha)) ?_))
  refine Yt I (Km I (Kq I (lda I I .tc u26 I ?_) ?_))
  ·kernel_rfl
  refine Km I (Kc I (fun w hS => iq (g := g) (x := b) (by exact hg) (by exact hb.1) (by exact hm8)) (Ns 31 I (v' := .bool true) (by exact congrArg Value.bool (Am hb)) ?_))
  refine Yt I (Yq I (Fg (fun _ => ?_)))
  refine EN ?_; refine ED ?_
  refine Kc I (fun w hS => (by have := qi (w := w) (a := a) (b := b) (m := g.1) hm8; rw [h0] at this; exact this)) (BY ?_); refine Cs (Km I (Ka I (to ?_)))
  exact R2 I I I (by rfl)
theorem fC {p : PR} {k : IK} (h : gW p k = true) : p.mn.1.1.length ≤ 8 ∧ k.g.1.length ≤ 8 ∧ k.r.length ≤ 8 ∧ k.name.length ≤ 60 := by
 simp only [gW, Cj, decide_eq_true_eq, Bu, List.any_eq_false] at h
 obtain ⟨h1, h2, h3⟩ := h
 have m1 := h3 p.mn.1.1 (by simp [fL, fq, pk4])
 have m2 := h3 k.g.1 (by simp [fL])
 omega
abbrev sgP (p : PR) (k : IK) (q : CS) : Prop := gW p k = true ∧ fm q ∧ DC p k q.sg q.ms
abbrev sgA (p : PR) (k : IK) (q : CS) : Prop := gW p k = true ∧ fm q ∧ bK p k = 0 ∧ q.ms.length = k.r.length ∧ (aU k.g = 0 ∧ elG k.g q.sg.a) ∧ okN q.sg.e ∧ okN q.sg.v
abbrev sgB (p : PR) (q : CS) : Prop := val p.lo ≤ val q.sg.e ∧ val q.sg.e < val p.lo + val p.sz ∧ val q.sg.v < val p.bl + val p.bl
abbrev nnZ (m : Bs) : Zs := (false, m)
abbrev bsG (k : IK) (a : Bs) (i : Nat) : List Bs := a :: k.s :: k.r.take i
abbrev zsG (e : Bs) (v : Zs) (ms : List Bs) (i : Nat) : List Zs := nnZ e :: v :: (ms.take i).map nnZ
theorem ya {k : IK} {a : Bs} {i : Nat} (h : i < k.r.length) : bsG k a (i + 1) = bsG k a i ++ [rD k i] := by rw [bsG, aV h]; rfl
theorem vJ {e : Bs} {v : Zs} {ms : List Bs} {i : Nat} (h : i < ms.length) : zsG e v ms (i + 1) = zsG e v ms i ++ [nnZ (ms.getD i default)] := by rw [zsG, aV h]; simp
theorem q8 {k : IK} {a : Bs} {i : Nat} (h : i ≤ k.r.length) : (bsG k a i).length = 2 + i := by rw [Ar, Ar, Bp]; omega
theorem pN {e : Bs} {v : Zs} {ms : List Bs} {i : Nat} (h : i ≤ ms.length) : (zsG e v ms i).length = 2 + i := by rw [Ar, Ar, Ag, Bp]; omega
theorem yJ {p : PR} {k : IK} {q : CS} {ra ma da va za xa : Option Addr} {rc mc dc vc zc' xc : Nat} {w : World} {ok : Nat → Prop} (hF1 : (Fact.sl ra (an k.r)).holds ok w) (hF2 : (Fact.sl ma (an q.ms)).holds ok w) (hF3 : (Fact.sl da (fO q.d)).holds ok w) (hF4 : (Fact.sl va (an q.vs)).holds ok w) (hF5 : (Fact.sl za (aZ q.ws)).holds ok w) (hF6 : (Fact.sl xa (an q.t.vals)).holds ok w) (hr : k.r.length ≤ 1048576) (hm : q.ms.length ≤ 1048576) (hd : q.d.length ≤ 1048576) (hv : q.vs.length ≤ 1048576) (hz : q.ws.length ≤ 1048576) (hx : q.t.vals.length ≤ 1048576) :
  Calls Tryz.prog 22 #[prV p, ikV k (.slice ra k.r.length rc), csV q (.slice ma q.ms.length mc) (.slice da q.d.length dc) (.slice va q.vs.length vc) (.slice za q.ws.length zc') (.slice xa q.t.vals.length xc)] w fun e w' => ∃ gx : Bool, e = .returned (.bool gx) ∧ (gx = true → sgP p k q) ∧ Below w.heap.size w w' ∧ ∀ x ∈ ([] : List Fact), x.holds (fun b => ok b ∨ w.heap.size ≤ b) w' := by
 refine enter (S := St (fun b => ok b ∨ w.heap.size ≤ b) w [] ([Fact.sl ra (an k.r), Fact.sl ma (an q.ms), Fact.sl da (fO q.d), Fact.sl va (an q.vs), Fact.sl za (aZ q.ws), Fact.sl xa (an q.t.vals)])) (L := [(0, prV p), (1, ikV k (.slice ra k.r.length rc)), (2, csV q (.slice ma q.ms.length mc) (.slice da q.d.length dc) (.slice va q.vs.length vc) (.slice za q.ws.length zc') (.slice xa q.t.vals.length xc))]) Tryz.func22 rfl Tryz.ntmps22 rfl (Ac rfl (Ac rfl (Ac rfl (An _)))) (St.start (fun _ h => Or.inr h) (iR (Fc hF1 (Fc hF2 (Fc hF3 (Fc hF4 (Fc hF5 (Fc hF6 Fn)))))))) ?_
 refine DO ?_
 intro b3
 refine EW ?_
 intro b4
 refine EW ?_
 intro b5
 refine Ka I (Nt (Cq (WC.joinP (σ := Unit) [(3, _), (4, _), (5, _)] (fun gq => [(60, .bool (decide (¬ sgA p k q)))]) (fun gq => True) (S3 I I I) ?_ ?_)))
 ·skip
  refine Cg (Kq I (lda I I .tc u30 I ?_) ?_)
  ·kernel_rfl
  refine Kq I (lda I I .tc u33 I ?_) ?_
  ·kernel_rfl
  refine Kc I (fun w hS => xC (p := p) (k := k) (by (exact hS.sl)) (by assumption)) (Yt I (Km I (Nc 18 I (fun hg18 => ?_) (fun hg18 => ?_))))
  ·refine T2 I (Kt I (Yp I (Km I (T4 I (Yp I (Km I (T4 I (T2 I (Kt I (Yp I (Km I (T4 I (T2 I (Kt I (Yp I (Km I (T4 I (Kt I (Yp I (Km I (T4 I (Kt I (Yp I (Nn (WX.joinP (()) (S3 I I I) (by refine (Sc ?_ (S0 _)) <;> ((refine ai rfl ?_; (try dsimp only); (simp [*]; done)))) ?_ (fun _ h => h)))))))))))))))))))))))))); (try dsimp only); done
  ·refine Kq I (lda I I .tc u43 I ?_) ?_
   ·kernel_rfl
   refine Kc I (fun w hS => rz (q := q) (by (exact hS.sl)) (by (exact hS.sl)) (by (exact hS.sl)) (by (exact hS.sl)) (by (exact hS.sl)) (by assumption) (by assumption) (by assumption) (by assumption) (by assumption)) (Yt I (Yq I (Km I (Nc 23 I (fun hg23 => ?_) (fun hg23 => ?_)))))
   ·refine T4 I (Yp I (Km I (T4 I (T2 I (Kt I (Yp I (Km I (T4 I (T2 I (Kt I (Yp I (Km I (T4 I (Kt I (Yp I (Km I (T4 I (Kt I (Yp I (Nn (WX.joinP (()) (S3 I I I) (by refine (Sc ?_ (S0 _)) <;> ((refine ai rfl ?_; (try dsimp only); (simp [*]; done)))) ?_ (fun _ h => h)))))))))))))))))))))); (try dsimp only); done
   ·refine Kq I (lda I I .tc u30 I ?_) ?_
    ·kernel_rfl
    refine Kq I (lda I I .tc u33 I ?_) ?_
    ·kernel_rfl
    refine Kc I (fun w hS => rG (p := p) (k := k) (by (exact hS.sl)) (by exact (fC hg18).1) (by exact (fC hg18).2.1) (by have := (fC hg18).2.2.1; omega) (by have := (fC hg18).2.2.2; omega)) (Yj I (Yq I (Km I (Nc 29 I (fun hg29 => ?_) (fun hg29 => ?_)))))
    ·refine T4 I (T2 I (Kt I (Yp I (Km I (T4 I (T2 I (Kt I (Yp I (Km I (T4 I (Kt I (Yp I (Km I (T4 I (Kt I (Yp I (Nn (WX.joinP (()) (S3 I I I) (by refine (Sc ?_ (S0 _)) <;> ((refine ai rfl ?_; (try dsimp only); (simp [*]; done)))) ?_ (fun _ h => h))))))))))))))))))); (try dsimp only); done
    ·refine Kf 6 I u43 I I I .tc u31 ?_; refine Yo I u31 (FQ ?_); refine Yo I u31 (Yj I (Yq I (Km I (Nc 38 I (fun hg38 => ?_) (fun hg38 => ?_)))))
     ·refine T4 I (T2 I (Kt I (Yp I (Km I (T4 I (Kt I (Yp I (Km I (T4 I (Kt I (Yp I (Nn (WX.joinP (()) (S3 I I I) (by refine (Sc ?_ (S0 _)) <;> ((exact congrArg (fun b => some (Value.bool b)) (by symm; apply Am; omega)))) ?_ (fun _ h => h)))))))))))))); (try dsimp only); done
     ·refine FM ?_; refine Ep ?_; refine Gm ?_; refine Kc I (fun w hS => qj (g := k.g) (x := q.sg.a) (by exact (fC hg18).2.1)) (Yt I (Yq I (Km I (Nc 47 I (fun hg47 => ?_) (fun hg47 => ?_)))))
      ·refine T4 I (Kt I (Yp I (Km I (T4 I (Kt I (Yp I (Nn (WX.joinP (()) (S3 I I I) (by refine (Sc ?_ (S0 _)) <;> ((refine ai rfl ?_; (try dsimp only); (simp [*]; done)))) ?_ (fun _ h => h))))))))); (try dsimp only); done
      ·refine Kq I (Fa (q := 0) I I u43 I I) (Kf 1 I u35 I I I .tc u22 ?_); refine Kc I (fun w hS => ar (a := q.sg.e)) (Yt I (Yq I (Km I (Nc 54 I (fun hg54 => ?_) (fun hg54 => ?_)))))
       ·refine T4 I (Kt I (Yp I (Nn (WX.joinP (()) (S3 I I I) (by refine (Sc ?_ (S0 _)) <;> ((refine ai rfl ?_; (try dsimp only); (simp [*]; done)))) ?_ (fun _ h => h))))); (try dsimp only); done
       ·refine Kq I (Fa (q := 0) I I u43 I I) (Kf 2 I u35 I I I .tc u22 ?_); refine Kc I (fun w hS => ar (a := q.sg.v)) (Yt I (Yq I (Nn (WX.joinP (()) (S3 I I I) (by refine (Sc ?_ (S0 _)) <;> ((refine congrArg (fun b => some (Value.bool b)) ?_; simp [*]; omega))) ?_ (fun _ h => h))))); (try dsimp only); done
 ·rintro _ hmeet; (try dsimp only at hmeet ⊢)
  refine Ci I (fun hc60 => ?_) (fun hc60 => ?_)
  ·refine Cs (ne ?_); exact GP
  ·obtain ⟨hfw, hsm, h0, hlen, ⟨hg, hel⟩, hoe, hov⟩ := Ao.1 hc60; obtain ⟨hm8, hk8, hk8', hk60⟩ := fC hfw; obtain ⟨hok, _, _⟩ := eG (bC h0).1; have hlo : okN p.lo := hok.1 _ (by simp); have hsz : okN p.sz := hok.1 _ (by simp); have hbl : okN p.bl := hok.1 _ (by simp); refine Ck (Xa (Cq (WC.joinP (σ := Unit) [(3, _), (4, _), (5, _)] (fun gq => [(91, .bool (decide (¬ sgB p q)))]) (fun gq => True) (S3 I I I) ?_ ?_)))
   ·skip
    refine WC.free (K := [⟨some b5, csC q (.slice ma q.ms.length mc) (.slice da q.d.length dc) (.slice va q.vs.length vc) (.slice za q.ws.length zc') (.slice xa q.t.vals.length xc), 43⟩, ⟨some b3, prC p, 30⟩]) (fs0 := []) [0, 1, 2, 3, 4, 5, 6, 7, 11, 12, 13, 14, 15, 8, 9, 10, 16, 17, 18, 19, 23, 24, 25, 26, 27, 20, 21, 22, 28, 29, 30] [] [0, 0, 0, 0, 0, 1, 0, 0, 0, 0, 0, 0, 0, 0, 0, 1, 1, 0, 0, 0, 0, 0, 0, 0, 0, 0, 0, 1, 1, 0, 0] (by kernel_rfl) (by kernel_rfl) I ?_; refine Kj I (Fa (q := 0) I I u43 I I) (Kj I (Fa (q := 1) I I u35 I I) (DY ?_)); refine Kj I (Fa (q := 13) I I u30 I I) (DY ?_); refine Jv I I I I I (fun ext => Oc I I (Kv fun w hS => dH (a := q.sg.e) (b := p.lo) (by exact hoe.2) (by exact hlo.2) (by exact Br hoe.1 (by decide)))) ?_; refine Kj I (kL I I I) ?_; refine WJ.set 67 I (v' := .bool (decide (val q.sg.e < val p.lo))) (congrArg Value.bool (by exact Af.2 (ax _ _))) ?_; refine ER ?_; refine WJ.bool 68 I (fun hg68 => ?_) (fun hg68 => ?_)
    ·(try simp only [sB] at hg68); refine Js I I I I (Js I I I I (Js I I I I (Js I I I I (Js I I I I (Js I I I I (Js I I I I (Js I I I I (Js I I I I (Js I I I I (Kj I (Rp I I I) (Kj I (Rm I I) (Js I I I I (Js I I I I (Js I I I I (Js I I I I (Js I I I I (Js I I I I (Js I I I I (Js I I I I (Js I I I I (Js I I I I (Kj I (Rp I I I) ?_)))))))))))))))))))))); refine WJ.nil ?_; refine Nn (WX.joinP (()) (S3 I I I) (by refine (Sc ?_ (S0 _)) <;> ((refine ai rfl ?_; (try dsimp only); (simp [*]; done)))) ?_ (fun _ h => h)); (try dsimp only); done
    ·(try simp only [sB] at hg68); refine Kj I (Fa (q := 13) I I u30 I I) (DY ?_); refine Kj I (Fa (q := 14) I I u30 I I) (DY ?_); refine Jv I I I I I (fun ext => Oc I I (Kv fun w hS => kT (a := p.lo) (b := p.sz) (by exact Br hlo.1 (by decide)) (by exact Br hsz.1 (by decide)))) ?_; refine Kj I (Fa (q := 0) I I u43 I I) (Kj I (Fa (q := 1) I I u35 I I) (DY ?_)); refine Jv I I I I I (fun ext => Oc I I (Kv fun w hS => dH (a := q.sg.e) (b := ae (val p.lo + val p.sz)) (by exact hoe.2) (by exact bn _) (by exact Br hoe.1 (by decide)))) ?_; refine Kj I (ph I I I) ?_; refine WJ.set 78 I (v' := .bool (decide (val p.lo + val p.sz ≤ val q.sg.e))) (congrArg Value.bool (by exact Af.2 (by rw [dk, af]))) ?_; refine Kj I (Rq I I I) (ER ?_); refine WJ.bool 80 I (fun hg80 => ?_) (fun hg80 => ?_)
     ·(try simp only [sB] at hg80); refine Js I I I I (Js I I I I (Js I I I I (Js I I I I (Js I I I I (Js I I I I (Js I I I I (Js I I I I (Js I I I I (Js I I I I (Kj I (Rp I I I) ?_)))))))))); refine WJ.nil ?_; refine Nn (WX.joinP (()) (S3 I I I) (by refine (Sc ?_ (S0 _)) <;> ((refine ai rfl ?_; (try dsimp only); (simp [*]; done)))) ?_ (fun _ h => h)); (try dsimp only); done
     ·(try simp only [sB] at hg80); refine Kj I (Fa (q := 15) I I u30 I I) (Kj I (Ld I I .tc u22) ?_); refine Kj I (Fa (q := 15) I I u30 I I) (Kj I (Ld I I .tc u22) ?_); refine Jv I I I I I (fun ext => Oc I I (Kv fun w hS => kT (a := p.bl) (b := p.bl) (by exact Br hbl.1 (by decide)) (by exact Br hbl.1 (by decide)))) ?_; refine Kj I (Fa (q := 0) I I u43 I I) (Kj I (Fa (q := 2) I I u35 I I) (Kj I (Ld I I .tc u22) ?_)); refine Jv I I I I I (fun ext => Oc I I (Kv fun w hS => dH (a := q.sg.v) (b := ae (val p.bl + val p.bl)) (by exact hov.2) (by exact bn _) (by exact Br hov.1 (by decide)))) ?_; refine Kj I (ph I I I) ?_; refine WJ.set 90 I (v' := .bool (decide (val p.bl + val p.bl ≤ val q.sg.v))) (congrArg Value.bool (by exact Af.2 (by rw [dk, af]))) ?_; refine Kj I (Rq I I I) ?_; refine WJ.nil ?_; refine Nn (WX.joinP (()) (S3 I I I) (by refine (Sc ?_ (S0 _)) <;> ((refine ai rfl ?_; (try dsimp only); (exact Af.2 (by omega))))) ?_ (fun _ h => h)); (try dsimp only); done
   ·rintro _ hmeet; (try dsimp only at hmeet ⊢); refine Ci I (fun hc91 => ?_) (fun hc91 => ?_)
    ·refine Cs (ne ?_); exact GP
    ·obtain ⟨hb1, hb2, hb3⟩ := Ao.1 hc91; refine Ck (Xa (Cs (Gm ?_))); refine Kf 4 I u33 I I I .tc u22 ?_; refine Kh I (aO I I u31 (by kernel_rfl : _ = some (some (.string (S [])), 1, 16)) I (by simp only [List.map]; rfl) I I ?_ (by decide)) ?_
     ·simp [Value.cells]
     intro b97; refine Ka I (Nt (Cq (Cf [0, 1, 2, 3, 4, 5, 6, 7, 8, 9] [] [0, 0, 0, 1, 0, 0, 0, 1, 3, 0] (by kernel_rfl) (by kernel_rfl) I ?_))); refine Kj I (Fa (q := 0) I I u43 I I) (Kj I (Fa (q := 1) I I u35 I I) (DY ?_)); refine Jv I I I I I (fun ext => Oc I I (Kv fun w hS => pa (x := q.sg.e))) ?_; refine Kj I (Fa (q := 0) I I u43 I I) (Kj I (Fa (q := 2) I I u35 I I) (DY ?_)); refine Jv I I I I I (fun ext => Oc I I (Kv fun w hS => pa (x := q.sg.v))) ?_; refine Jf I I I I I (hO I I u39 (by kernel_rfl : _ = some (some (.agg #[.bool false, .string (S [])]), 2, 24)) (by kernel_rfl) (by decide) I I (by (simp [Value.cells]; done)) (by (simp only [List.map, Value.cells, C2, List.flatMap_nil, Bl, D5]; rfl)) (by decide)) ?_; intro b106; refine ES ?_; refine WJ.nil ?_; refine Nt (Cq (Cs (Kf 6 I u43 I I I .tc u31 ?_)))
     refine FW ?_; refine Lo (σ := Nat × (Option Nat) × Nat × (List Value) × (Option Nat) × Nat × (List Value)) [(3, _), (4, _), (108, _), (109, _)] (fun gq => [(110, .int .i64 (gq.1 : Int)), (7, .slice (gq.2.1.map fun b => ⟨b, 0, none⟩) (2 + gq.1) gq.2.2.1), (8, .slice (gq.2.2.2.2.1.map fun b => ⟨b, 0, none⟩) (2 + gq.1) gq.2.2.2.2.2.1)]) (fun gq => gq.1 ≤ q.ms.length ∧ gq.2.2.1 = 2 + gq.1 + gq.2.2.2.1.length ∧ gq.2.2.2.2.2.1 * 2 = (2 + gq.1) * 2 + gq.2.2.2.2.2.2.length ∧ ∀ j, j < gq.1 → okN (q.ms.getD j default) ∧ val (q.ms.getD j default) < val (lim p j)) (fun gq => q.ms.length - gq.1) (fun gq => [⟨gq.2.2.2.2.1, aZ (zsG q.sg.e (nnZ q.sg.v) q.ms gq.1) ++ gq.2.2.2.2.2.2, 37⟩, ⟨gq.2.1, an (bsG k q.sg.a gq.1) ++ gq.2.2.2.1, 22⟩, ⟨some b5, csC q (.slice ma q.ms.length mc) (.slice da q.d.length dc) (.slice va q.vs.length vc) (.slice za q.ws.length zc') (.slice xa q.t.vals.length xc), 43⟩, ⟨some b4, ikC k (.slice ra k.r.length rc), 33⟩, ⟨some b3, prC p, 30⟩]) (fun gq => [Fact.sl ra (an k.r), Fact.sl ma (an q.ms), Fact.sl da (fO q.d), Fact.sl va (an q.vs), Fact.sl za (aZ q.ws), Fact.sl xa (an q.t.vals)]) (0, some b97, 2, [], some b106, 2, []) (S4 I I I I) (S3 I I I) (by (try dsimp only); exact ⟨Ai _, rfl, rfl, fun _ h => absurd h (Ea _)⟩) (by exact fun w h => h) ?_; rintro ⟨i, o1, c1, p1, o2, c2, p2⟩ hinv1; (try dsimp only at hinv1 ⊢); obtain ⟨hi, hc1, hc2, hlt⟩ := hinv1
     refine DP (fun hc111 => ?_) (fun hc111 => ?_)
     ·have hil : i < q.ms.length := by omega
      have hir : i < k.r.length := by omega
      obtain ⟨m, hm⟩ : ∃ m, Keep (m = q.ms.getD i default) := ⟨_, rfl⟩; have hbl2 : (an (bsG k q.sg.a i)).length = 2 + i := by rw [Ag]; exact q8 (by omega)
      have hzl2 : (aZ (zsG q.sg.e (nnZ q.sg.v) q.ms i)).length = (2 + i) * 2 := by rw [aj _ _ 2 (fun _ => rfl), pN (by omega)]
      have hli := zw (bC h0).1 i; refine El ?_; refine DZ ?_; refine EI ?_; refine Ns 114 I (v' := .string (S (m))) (congrArg (fun l => Value.string (S l)) (by rw [show m = _ from hm])) ?_; refine Ka I (Ka I (Nt (Cs (F5 ?_)))); refine Ka I (Nt (WC.joinP (σ := Bs) [(3, _), (4, _), (7, _), (8, _), (9, _), (10, _), (108, _), (109, _), (110, _)] (fun gq => [(11, .string (S gq))]) (fun gq => gq = lim p i) (S9 I I I I I I I I I) ?_ ?_))
      ·skip
       refine Cs (Km I (Ew (fun hc118 => ?_) (fun hc118 => ?_)))
       ·refine Cg (F4 ?_); refine F6 ?_; refine Kh I (aO I I u31 (by kernel_rfl : _ = some (some (.string (S [])), 1, 16)) I (by simp only [List.map]; rfl) I I ?_ (by decide)) ?_
        ·simp [Value.cells]
        intro b123; refine Km I (Kq I (Ja I I I u31 (by kernel_rfl : _ = some 1) (by omega)) ?_); refine Kq I (ld I I .tc u22 I (show _ = some (Value.string (S (lim p i))) from by rcases (show i = 0 ∨ i = 1 by omega) with rfl | rfl <;> rfl)) ?_; refine Ka I (Nn (WX.joinP (lim p i) (S9 I I I I I I I I I) (by refine (Sc ?_ (S0 _)) <;> (rfl)) ?_ (by (exact au)))); (try dsimp only); done
       ·refine Ck (WX.joinP (p.attr) (S9 I I I I I I I I I) (by refine (Sc ?_ (S0 _)) <;> (rfl)) ?_ (fun _ h => h)); (try dsimp only); rw [lim, Aa (by omega), Aa (by omega)]
      ·rintro u hmeet; (try dsimp only at hmeet ⊢); refine Cq (WC.joinP (σ := Unit) [(3, _), (4, _), (7, _), (8, _), (9, _), (10, _), (108, _), (109, _), (110, _)] (fun gq => [(135, .bool (decide (¬ (okN m ∧ val m < val (lim p i)))))]) (fun gq => True) (S9 I I I I I I I I I) ?_ ?_)
       ·skip
        refine Cg (Km I (Kc I (fun w hS => ar (a := m)) (Yt I (Km I (Nc 130 I (fun hg130 => ?_) (fun hg130 => ?_))))))
        ·refine T4 I (Yp I (Nn (WX.joinP (()) (S9 I I I I I I I I I) (by refine (Sc ?_ (S0 _)) <;> ((refine ai rfl ?_; (try dsimp only); (simp [*]; done)))) ?_ (fun _ h => h)))); (try dsimp only); done
        ·refine Km I (Km I (Kc I (fun w hS => dH (a := m) (b := u) (by exact hg130.2) (by (rw [hmeet]; exact hli.1.2)) (by exact Br hg130.1 (by decide))) (Yh I (Ns 134 I (v' := .bool (decide (val (lim p i) ≤ val m))) (congrArg Value.bool (by exact Af.2 (by rw [hmeet]; exact dk _ _))) ?_)))); refine Yq I (Nn (WX.joinP (()) (S9 I I I I I I I I I) (by refine (Sc ?_ (S0 _)) <;> ((refine ai rfl ?_; (try dsimp only); (simp [*]; done)))) ?_ (fun _ h => h))); (try dsimp only); done
       ·rintro _ hmeet; (try dsimp only at hmeet ⊢); refine Ci I (fun hc135 => ?_) (fun hc135 => ?_)
        ·refine Cs (ne ?_); refine DS ?_; exact GP
        ·refine Ck (Xa (Cg (Km I (FQ ?_)))); refine Km I (DZ ?_); refine EI ?_; refine Kh I (aO I I u31 (by kernel_rfl : _ = some (some (.string (S [])), 1, 16)) I (by simp only [List.map]; rfl) I I ?_ (by decide)) ?_
         ·simp [Value.cells]
         intro b142; refine Kh I (pL I u31 (by kernel_rfl : _ = some (some (.string (S [])), 1, 16)) I .tc I I (fun w hS => by (exact hS.os)) (by rfl) (by (refine ⟨hbl2, by omega, by omega, by omega⟩)) (by (simp [Value.oneCell']; done))) ?_; rintro ⟨o143, c143, s143⟩; refine WL.pu ?_; intro hg143; (try dsimp only at hg143 ⊢); refine Km I (Km I (Kc I (fun w hS => pa) (Kh I (g8 I I u39 (by kernel_rfl : _ = some (some (.agg #[.bool false, .string (S [])]), 2, 24)) (by kernel_rfl) (by decide) I I (by (simp [Value.cells]; done)) (by (exact cP _)) (by decide)) ?_))); intro b147; refine Kh I (vB I u39 (by kernel_rfl : _ = some (some (.agg #[.bool false, .string (S [])]), 2, 24)) (by kernel_rfl) (by decide) .tc I I (fun w hS => by (exact hS.os)) (by rfl) (by (refine ⟨hzl2, by omega, by omega, by omega⟩)) (by (simp [Value.oneCell']; done))) ?_; rintro ⟨o148, c148, s148⟩; refine WL.pu ?_; intro hg148; (try dsimp only at hg148 ⊢); refine Ka I (Ka I (Nn (Xd (Xa (Cg (Kq I (Rz I I I (by omega)) (Km I (Nn (Lx ((i + 1, o143, c143, s143, o148, c148, s148)) (by (try dsimp only); omega) (S4 I I I I) (by refine (Sc ?_ (Sc ?_ (Sc ?_ (S0 _)))) <;> (rfl)) ?_ (by exact fun w h => by dsimp only; rw [ya hir, vJ hil, lP, l6, ← show m = _ from hm]; exact au _ h)))))))))); (try dsimp only)
         exact ⟨hil, by omega, by omega, fun j hj => by
           rcases C4.1 hj with h | h
           ·exact hlt j h
           ·subst h; rw [← show m = _ from hm]; exact Ao.1 hc135⟩
     ·refine AT ?_; obtain rfl : i = q.ms.length := by omega
      have hbl1 := q8 (k := k) (a := q.sg.a) (i := q.ms.length) (by omega); have hzl1 := pN (e := q.sg.e) (v := nnZ q.sg.v) (ms := q.ms) (i := q.ms.length) (Bd _); have hbE : bsG k q.sg.a q.ms.length = q.sg.a :: k.s :: k.r := by rw [bsG, A8 (by omega)]
      have hzE : zsG q.sg.e (nnZ q.sg.v) q.ms q.ms.length = (false, q.sg.e) :: (false, q.sg.v) :: q.ms.map fun m => (false, m) := by rw [zsG, Ap]
      refine WC.set 7 I (v' := .slice (o1.map fun b => ⟨b, 0, none⟩) (bsG k q.sg.a q.ms.length).length c1) (by rw [hbl1]) ?_; refine WC.set 8 I (v' := .slice (o2.map fun b => ⟨b, 0, none⟩) (zsG q.sg.e (nnZ q.sg.v) q.ms q.ms.length).length c2) (by rw [hzl1]) ?_; refine Xa (Cs (FM ?_)); refine Ep ?_; refine Km I (Km I (Kc I (fun w hS => o8 (w := w) (g := k.g) (l := bsG k q.sg.a q.ms.length) (es := zsG q.sg.e (nnZ q.sg.v) q.ms q.ms.length) (a := o1.map fun b => ⟨b, 0, none⟩) (b := o2.map fun b => ⟨b, 0, none⟩) (c := c1) (d := c2) hS.oc hS.oc (by omega) (by omega) hk8) ?_)); obtain ⟨P, hP⟩ : ∃ P, Keep (P = (bL k.g (bsG k q.sg.a q.ms.length) (zsG q.sg.e (nnZ q.sg.v) q.ms q.ms.length))) := ⟨_, rfl⟩; rw [← show P = _ from hP]; refine BY ?_; refine WC.joinP (σ := Unit) [] (fun gq => [(6, .bool (decide (P.2 = 0 ∧ P.1 = k.z)))]) (fun gq => True) (S0 _) ?_ ?_
      ·skip
       refine Cg (Km I (Yi I (Km I (Nc 160 I (fun hg160 => ?_) (fun hg160 => ?_)))))
       ·refine Km I (Kf 3 I u33 I I I .tc u22 ?_); refine Ys I (Yp I (Ka I (Nn (WX.joinP (()) (S0 _) (by refine (Sc ?_ (S0 _)) <;> ((refine ai rfl ?_; (try dsimp only); (simp [*]; done)))) ?_ (fun _ h => h))))); (try dsimp only); done
       ·refine T4 I (Yq I (Ka I (Nn (WX.joinP (()) (S0 _) (by refine (Sc ?_ (S0 _)) <;> ((refine ai rfl ?_; (try dsimp only); (simp [*]; done)))) ?_ (fun _ h => h))))); (try dsimp only); done
      ·rintro _ hmeet; (try dsimp only at hmeet ⊢); refine Ce ?_; exact Rn I (.tmp I .nil) fun w' hS => ⟨_, rfl, fun h => ⟨hfw, hsm, h0, hlen, hel, hoe, hov, hb1, hb2, hb3, hlt, (by have h2 := of_decide_eq_true h; rw [show P = _ from hP, hbE, hzE] at h2; exact Prod.ext h2.2 h2.1)⟩, hS.below, Fn⟩
abbrev mqE (l : List (Bs × Value)) : List (Value × Value) := l.map fun p => (Value.string (S p.1), p.2)
def Fact.mq (b : Nat) (l : List (Bs × Value)) : Fact where
 holds ok w := ok b ∧ ∃ es c, w.heap[b]? = some (.map es c) ∧ es.toList.map (fun e => (e.key, e.val)) = mqE l ∧ (∀ x ∈ es.toList, x.born < c) ∧ (es.toList.map fun e : MapEntry => e.born).Nodup
 mono h := fun hh => ⟨h _ hh.1, hh.2⟩
 stable := fun hh _ hk => by
  obtain ⟨h0, es, c, h1, h2⟩ := hh
  exact ⟨h0, es, c, by rw [hk b (A3.1 h1).1 h0]; exact h1, h2⟩
 here := fun hh => by
  obtain ⟨h0, es, c, h1, h2⟩ := hh
  exact ⟨⟨h0, (A3.1 h1).1⟩, es, c, h1, h2⟩
def Fact.it (b r n : Nat) (cur : Option (Value × Value)) : Fact where
 holds ok w := (ok b ∧ ok r) ∧ ∃ es c since seen c0, w.heap[b]? = some (.map es c) ∧ w.heap[r]? = some (.mapIter (some b) since seen c0) ∧ (∀ x ∈ es.toList, x.born < since) ∧ since ≤ c0 ∧ since ≤ c ∧ (leftOf es seen).size = n ∧
  ∀ q, cur = some q → ∃ (e : MapEntry) (seen0 : Array Nat), e ∈ es.toList ∧ q = (e.key, e.val) ∧ c0 = c ∧ seen = seen0.push e.born
 mono h := fun hh => ⟨⟨h _ hh.1.1, h _ hh.1.2⟩, hh.2⟩
 stable := fun hh _ hk => by
  obtain ⟨h0, es, c, since, seen, c0, h1, h2, h3⟩ := hh
  exact ⟨h0, es, c, since, seen, c0, by rw [hk b (A3.1 h1).1 h0.1]; exact h1, by rw [hk r (A3.1 h2).1 h0.2]; exact h2, h3⟩
 here := fun hh => by
  obtain ⟨h0, es, c, since, seen, c0, h1, h2, h3⟩ := hh
  exact ⟨⟨⟨h0.1, (A3.1 h1).1⟩, ⟨h0.2, (A3.1 h2).1⟩⟩, es, c, since, seen, c0, h1, h2, h3⟩
class FO (f : Fact) : Prop where
 h : ∀ {ok : Nat → Prop} {w : World} {b : Nat} {o o' : Obj}, f.holds ok w → w.heap[b]? = some o → (∀ cs T fz, o ≠ .cells cs T fz) → f.holds ok (w.putObj b o')
instance (a : Option Addr) (xs : List Value) : FO (Fact.sl a xs) := ⟨fun h hl hn => kv _ h hl hn⟩
class FOs (fs : List Fact) : Prop where
 h : ∀ f ∈ fs, FO f
instance : FOs [] := ⟨fun _ h => by cases h⟩
instance (f : Fact) (fs : List Fact) [h1 : FO f] [h2 : FOs fs] : FOs (f :: fs) := ⟨fun g hg => (A7.1 hg).elim (fun e => e ▸ h1) (h2.h g)⟩
def lkM : List (Bs × Value) → Bs → Option (Nat × Value)
 | [], _ => none
 | p :: l, k => if p.1 = k then some (0, p.2) else (lkM l k).map fun q => (q.1 + 1, q.2)
theorem iQ {k : Bs} : ∀ {l : List (Bs × Value)} {es : List MapEntry} (he : es.map (fun e => (e.key, e.val)) = mqE l) (i : Nat), Instr.findNow .string (.string (S k)) es i = some ((lkM l k).map fun q => (q.1 + i, q.2))
 | [], [], _, i => rfl
 | [], e :: es, he, i => by simp at he
 | p :: l, [], he, i => by simp at he
 | p :: l, e :: es, he, i => by
  simp only [Dr, List.cons.injEq, Prod.mk.injEq] at he
  obtain ⟨⟨e1, e2⟩, e3⟩ := he
  rw [Instr.findNow, e1]
  simp only [Instr.sameNow, lkM]
  by_cases h : p.1 = k
  ·subst h; have : (S p.1 == S p.1) = true := (MapKept.bytes_beq _ _).2 rfl; simp only [this, e2, if_true, Option.map_some, Az]
  ·have : (S k == S p.1) = false := by
    cases hb : (S k == S p.1)
    ·rfl
    ·exact absurd (CP ((MapKept.bytes_beq _ _).1 hb)).symm h
   simp only [this, h, if_false]; rw [iQ e3 (i + 1)]
   cases lkM l k
   ·rfl
   ·simp; omega
theorem us : ∀ {l : List (Bs × Value)} {k : Bs} {q : Nat × Value}, lkM l k = some q → l[q.1]? = some (k, q.2)
 | [], k, q, h => by simp [lkM] at h
 | p :: l, k, q, h => by
  rw [lkM] at h
  split at h
  ·rename_i h1; cases h; simp [← h1]
  ·cases h2 : lkM l k with
   | none => simp [h2] at h
   | some q' => simp [h2] at h; subst h; simpa using us h2
section
variable {ok : Nat → Prop} {w0 w : World} {own : List Ent} {fs : List Fact}
theorem St.setMq {b : Nat} {l l' : List (Bs × Value)} {es es' : Array MapEntry} {c c' : Nat} [hf : FOs fs] (hb : w0.heap.size ≤ b) (h : St ok w0 own (Fact.mq b l :: fs) w) (hw : w.heap[b]? = some (.map es c)) (he : es'.toList.map (fun e => (e.key, e.val)) = mqE l') (h3 : ∀ x ∈ es'.toList, x.born < c') (h4 : (es'.toList.map fun e : MapEntry => e.born).Nodup) :
  St ok w0 own (Fact.mq b l' :: fs) (w.putObj b (.map es' c')) := by
 obtain ⟨h0, _⟩ := h.fact_head
 refine ⟨h.okn, fh h.below hb, iD h hw (fun _ _ _ e => by cases e), h.nd, fun f hfm => ?_⟩
 rcases A7.1 hfm with rfl | hfm
 ·exact ⟨h0, es', c', World.putObj_heap_same (A3.1 hw).1, he, h3, h4⟩
 ·exact (hf.h f hfm).h (h.fact f (by simp [hfm])) hw (fun _ _ _ e => by cases e)
theorem St.newMq (h : St ok w0 own fs w) : St ok w0 own (Fact.mq w.heap.size [] :: fs) (w.alloc (.map #[] 0)) :=
 (h.allocObj (.map #[] 0)).addF (f := Fact.mq w.heap.size []) ⟨h.fresh _ (Bd _), #[], 0, World.alloc_heap_new w _, rfl, by simp, by simp⟩
theorem St.newIt {b : Nat} {l : List (Bs × Value)} {es : Array MapEntry} {c : Nat} (h : St ok w0 own (Fact.mq b l :: fs) w) (hw : w.heap[b]? = some (.map es c)) : St ok w0 own (Fact.it b w.heap.size es.size none :: Fact.mq b l :: fs) (w.alloc (.mapIter (some b) c #[] c)) := by
 obtain ⟨h0, es1, c1, h1, h2, h3, h4⟩ := h.fact_head
 obtain ⟨rfl, rfl⟩ : es = es1 ∧ c = c1 := by rw [hw] at h1; cases h1; exact ⟨rfl, rfl⟩
 refine (h.allocObj (.mapIter (some b) c #[] c)).addF (f := Fact.it b w.heap.size es.size none) ⟨⟨h0, h.fresh _ (Bd _)⟩, es, c, c, #[], c, ?_, World.alloc_heap_new w _, h3, Bd _, Bd _, by simp [leftOf], fun q hq => (by cases hq)⟩
 exact (cz w _ b (A3.1 hw).1).trans hw
theorem St.drew (h : St ok w0 own fs w) : St ok w0 own fs w.drew :=
 ⟨h.okn, ⟨h.below.os, h.below.tape, h.below.output, h.below.size, h.below.block⟩, fun x hx => Ent.holds_same (h.own_ x hx) fun _ _ => rfl, h.nd, fun f hf => f.stable (h.fact f hf) (Bd _) fun _ _ _ => rfl⟩
end
section
variable {ds : List Deferred} {P : Program} {o : Oper} {n : Nat} {L : ak} {ok : Nat → Prop} {w0 : World} {own : List Ent} {fs : List Fact} {t t1 t2 kt et : TypeId} {x y z : Operand} {b : Nat} {l : List (Bs × Value)} {k : Bs} {v zv : Value}
theorem xk (hop : o.op = .makeMap t none) : Og ds P o n L (St ok w0 own fs) (fun b : Nat => .map (some b)) (fun b w => w0.heap.size ≤ b ∧ St ok w0 own (Fact.mq b [] :: fs) w) :=
 bO fun a hF w hS => ⟨w.heap.size, w.alloc (.map #[] 0), .inl (by simp [execOp, hop, Instr.makeMap]), hS.below.size, hS.newMq⟩
theorem tR (hop : o.op = .lookup t x y false) (hx : ag L x = some (.map (some b))) (hy : ag L y = some (.string (S k))) (hu : P.underlying t = some (.map kt et)) (hk : P.underlying kt = some .string) (hz : (P.info? et).bind (·.zero) = some zv) :
  Rd ds P o n L (St ok w0 own (Fact.mq b l :: fs)) (((lkM l k).map (·.2)).getD zv) :=
 aH fun a hF w hS => by
  obtain ⟨h0, es, c, h1, h2, _⟩ := hS.fact_head
  have hc : (Instr.checkKey es.isEmpty 10000 kt (.string (S k))).run P w = .ok () w := MapKept.run_checkKey (k := .string (S k)) hk (by simp [MapKept.IsKey]) _ 9999
  cases hl : lkM l k with
  | none => simp [execOp, hop, hF.eval hx, hF.eval hy, Instr.lookup, run_underlying hu, MapKept.run_getObj_map h1, hc, MapKept.run_findKey hk (iQ h2 0), hl, kx hz, Result.andThen]
  | some q => simp [execOp, hop, hF.eval hx, hF.eval hy, Instr.lookup, run_underlying hu, MapKept.run_getObj_map h1, hc, MapKept.run_findKey hk (iQ h2 0), hl, Result.andThen]
def upM (l : List (Bs × Value)) (k : Bs) (v : Value) : List (Bs × Value) := match lkM l k with
 | none => l ++ [(k, v)]
 | some q => l.set q.1 (k, v)
theorem xl [FOs fs] (hop : o.op = .mapUpdate t x y z) (hb : w0.heap.size ≤ b) (hx : ag L x = some (.map (some b))) (hy : ag L y = some (.string (S k))) (hz : ag L z = some v) (hu : P.underlying t = some (.map kt et)) (hk : P.underlying kt = some .string) :
  Og ds P o n L (St ok w0 own (Fact.mq b l :: fs)) (fun _ : Unit => undef) (fun _ => St ok w0 own (Fact.mq b (upM l k v) :: fs)) :=
 bO fun a hF w hS => by
  obtain ⟨h0, es, c, h1, h2, h3, h4⟩ := hS.fact_head
  have hc : (Instr.checkKey false 10000 kt (.string (S k))).run P w = .ok () w := MapKept.run_checkKey (k := .string (S k)) hk (by simp [MapKept.IsKey]) _ 9999
  cases hl : lkM l k with
  | none =>
   refine ⟨(), w.putObj b (.map (es.push { key := .string (S k), val := v, born := c }) (c + 1)), .inr ⟨?_, rfl⟩, hS.setMq hb h1 (by rw [upM, hl]; simp [h2]) ?_ ?_⟩
   ·simp [execOp, hop, hF.eval hx, hF.eval hy, hF.eval hz, Instr.mapUpdate, run_underlying hu, MapKept.run_getObj_map h1, hc, MapKept.run_findKey hk (iQ h2 0), hl, MapKept.run_setObj_map _ h1, Result.andThen, World.putObj]
   ·intro x hx; simp at hx; rcases hx with hx | rfl
    ·have := h3 x (by simpa using hx); omega
    ·exact Nat.lt_succ_self _
   ·simp only [Array.toList_push, B7, Dr, List.map_nil]; refine List.nodup_append.2 ⟨h4, by simp, fun a ha d hd => ?_⟩; obtain ⟨x, hx, rfl⟩ := B9.1 ha; rw [List.mem_singleton.1 hd]; exact Nat.ne_of_lt (h3 x hx)
  | some q =>
   have hq := us hl; have hqe : (es.toList.map fun e => (e.key, e.val))[q.1]? = some (Value.string (S k), q.2) := by rw [h2, A6, hq]; rfl
   rw [A6] at hqe; obtain ⟨e, he, hee⟩ := Dn.1 hqe; have hke : e.key = .string (S k) := congrArg (·.1) hee; have hes : es[q.1]? = some e := by rw [← Array.getElem?_toList]; exact he
   have hst : (Instr.keyThatStays (.string (S k)) (.string (S k))).run P w = .ok (.string (S k)) w := MapKept.run_keyThatStays (d := .string) (by simp [MapKept.IsKey]); refine ⟨(), w.putObj b (.map (es.modify q.1 fun e => { e with key := .string (S k), val := v }) c), .inr ⟨?_, rfl⟩, hS.setMq hb h1 ?_ ?_ ?_⟩
   ·simp [execOp, hop, hF.eval hx, hF.eval hy, hF.eval hz, Instr.mapUpdate, run_underlying hu, MapKept.run_getObj_map h1, hc, MapKept.run_findKey hk (iQ h2 0), hl, hes, hke, hst, MapKept.run_setObj_map _ h1, Result.andThen, World.putObj]
   ·rw [upM, hl, Array.toList_modify]; refine C7 fun i => ?_
    rw [A6, List.getElem?_modify, A6, List.getElem?_set]; have hi := congrArg (fun m : List (Value × Value) => m[i]?) h2; simp only [A6] at hi; by_cases h : q.1 = i
    ·subst h; have hlt := (Al.1 hq).1; simp [he, hlt]
    ·have h9 : ((fun a => a) <$> es.toList[i]?) = es.toList[i]? := by cases es.toList[i]? <;> rfl
     simp only [h, if_false]; rw [h9]; exact hi
   ·intro x hx; rw [Array.toList_modify] at hx; obtain ⟨i, hi, rfl⟩ := List.mem_iff_getElem.1 hx; have hi' : i < es.toList.length := by simpa using hi
    have := h3 _ (D0 hi'); rw [List.getElem_modify]; split <;> exact this
   ·rw [Array.toList_modify]
    have : (es.toList.modify q.1 fun e => { e with key := .string (S k), val := v }).map (fun e : MapEntry => e.born) = es.toList.map (fun e : MapEntry => e.born) := by
     refine C7 fun i => ?_
     rw [A6, List.getElem?_modify, A6]
     cases es.toList[i]? <;> simp; split <;> rfl
    rw [this]; exact h4
theorem wV (hop : o.op = .call { callee := .builtin .len, args := #[x], argTypes := #[t] }) (hx : ag L x = some (.map (some b))) (hu : P.underlying t = some (.map kt et)) : Rd ds P o n L (St ok w0 own (Fact.mq b l :: fs)) (.int .i64 (l.length : Int)) :=
 aH fun a hF w hS => by
  obtain ⟨h0, es, c, h1, h2, _⟩ := hS.fact_head
  have hl : es.size = l.length := by have := congrArg List.length h2; simpa using this
  have hlen : (Builtin.len_ #[t] o.type #[.map (some b)]).run P w = .ok (.int .i64 (l.length : Int)) w := by simp [Builtin.len_, run_underlying hu, MapKept.run_getObj_map h1, goInt, hl, Result.andThen]
  simp [execOp, hop, resolve, invoke, builtin, hF.eval hx, hlen]
theorem rZ (hop : o.op = .range t x) (hx : ag L x = some (.map (some b))) (hu : P.underlying t = some (.map kt et)) :
  Og ds P o n L (St ok w0 own (Fact.mq b l :: fs)) (fun r : Nat => .pointer (some ⟨r, 0, none⟩)) (fun r w => w0.heap.size ≤ r ∧ St ok w0 own (Fact.it b r l.length none :: Fact.mq b l :: fs) w) :=
 bO fun a hF w hS => by
  obtain ⟨h0, es, c, h1, h2, _⟩ := hS.fact_head
  have hl : es.size = l.length := by have := congrArg List.length h2; simpa using this
  refine ⟨w.heap.size, w.alloc (.mapIter (some b) c #[] c), .inl ?_, hS.below.size, ?_⟩
  ·simp [execOp, hop, hF.eval hx, run_range_map w t kt et b es c hu h1]
  ·rw [← hl]; exact hS.newIt h1
abbrev nxV (g : Bool × Value × Value × Nat) : Value := .tuple (if g.1 then #[.bool g.1, g.2.1, g.2.2.1] else #[.bool g.1])
def nxP (m : Nat) (l : List (Bs × Value)) (cur : Option (Value × Value)) (g : Bool × Value × Value × Nat) : Prop := (g.1 = false → m = 0) ∧ (g.1 = true → g.2.2.2 < m ∧ ∃ p ∈ l, g.2.2.1 = p.2)
theorem ui [FOs fs] {r m : Nat} {cur : Option (Value × Value)} (hop : o.op = .next x false) (hr : w0.heap.size ≤ r) (hx : ag L x = some (.pointer (some ⟨r, 0, none⟩))) :
  Og ds P o n L (St ok w0 own (Fact.it b r m cur :: Fact.mq b l :: fs)) nxV (fun g w => nxP m l cur g ∧ St ok w0 own (Fact.it b r g.2.2.2 (if g.1 then some (g.2.1, g.2.2.1) else cur) :: Fact.mq b l :: fs) w) :=
 bO fun a hF w hS => by
  obtain ⟨h0, es, c, since, seen, c0, h1, h2, h3, h4, h4', h5, h6⟩ := hS.fact_head
  obtain ⟨k0, es1, c1, k1, k2, k3, k4⟩ := hS.fact (Fact.mq b l) (by simp)
  obtain ⟨rfl, rfl⟩ : es = es1 ∧ c = c1 := by rw [h1] at k1; cases k1; exact ⟨rfl, rfl⟩
  have hne : r ≠ b := fun e => by rw [e, h1] at h2; cases h2
  rcases run_next_at (P := P) w o.type r b since c0 seen es c h2 h1 h3 h4 with ⟨hz, hrun⟩ | ⟨e, he, w1, hw1, hrun⟩
  ·refine ⟨(false, .bool false, .bool false, m), w, .inl ?_, ⟨fun _ => (by rw [← h5]; exact hz), fun h => (by cases h)⟩, ?_⟩
   ·simp [execOp, hop, hF.eval hx, hrun, nxV]
   ·exact hS
  ·obtain ⟨hem, _⟩ := mem_left he
   have hv : ∃ p ∈ l, e.val = p.2 := by
    have : (e.key, e.val) ∈ mqE l := by rw [← k2]; exact B9.2 ⟨e, hem, rfl⟩
    obtain ⟨p, hp, hpe⟩ := B9.1 this; exact ⟨p, hp, (congrArg (·.2) hpe).symm⟩
   refine ⟨(true, e.key, e.val, (leftOf es (seen.push e.born)).size), w1.putObj r (.mapIter (some b) since (seen.push e.born) c), .inl ?_, ⟨fun h => (by cases h), fun _ => ⟨(by rw [← h5]; exact left_shrinks es seen e he), hv⟩⟩, ?_⟩
   ·have hrun' : (Instr.next (.pointer (some ⟨r, 0, none⟩)) false o.type).run P w = .ok (.tuple #[.bool true, e.key, e.val]) (w1.putObj r (.mapIter (some b) since (seen.push e.born) c)) := hrun; simp [execOp, hop, hF.eval hx, hrun', nxV]
   ·have hS1 : St ok w0 own (Fact.it b r m cur :: Fact.mq b l :: fs) w1 := by rcases hw1 with rfl | rfl; exact hS; exact hS.drew
    have h21 : w1.heap[r]? = some (.mapIter (some b) since seen c0) := by rcases hw1 with rfl | rfl <;> exact h2
    have h11 : w1.heap[b]? = some (.map es c) := by rcases hw1 with rfl | rfl <;> exact h1
    show St ok w0 own _ (w1.putObj r (.mapIter (some b) since (seen.push e.born) c)); have hb' : (w1.putObj r (.mapIter (some b) since (seen.push e.born) c)).heap[b]? = some (.map es c) := by rw [World.putObj_heap_other (fun e => hne e.symm)]; exact h11
    refine ⟨hS1.okn, fh hS1.below hr, iD hS1 h21 (fun _ _ _ e => by cases e), hS1.nd, fun f hfm => ?_⟩
    rcases A7.1 hfm with rfl | hfm
    ·refine ⟨h0, es, c, since, seen.push e.born, c, hb', World.putObj_heap_same (A3.1 h21).1, h3, ?_, h4', rfl, fun q hq => ⟨e, seen, hem, ?_, rfl, rfl⟩⟩
     ·exact h4'
     ·simpa using hq.symm
    ·rcases A7.1 hfm with rfl | hfm
     ·exact ⟨k0, es, c, hb', k2, k3, k4⟩
     ·exact ((inferInstance : FOs fs).h f hfm).h (hS1.fact f (by simp [hfm])) h21 (fun _ _ _ e => by cases e)
theorem yX {Z : World → Prop} {g : Bool × Value × Value × Nat} (hop : o.op = .extract x 0) (hx : ag L x = some (nxV g)) : Rd ds P o n L Z (.bool g.1) :=
 tT hop hx (by cases h : g.1 <;> simp)
theorem rJ {r m : Nat} {q : Value × Value} (hop : o.op = .entry x) (hx : ag L x = some (.pointer (some ⟨r, 0, none⟩))) :
  Rd ds P o n L (St ok w0 own (Fact.it b r m (some q) :: Fact.mq b l :: fs)) (.tuple #[q.1, q.2]) :=
 aH fun a hF w hS => by
  obtain ⟨h0, es, c, since, seen, c0, h1, h2, h3, h4, h4', h5, h6⟩ := hS.fact_head
  obtain ⟨k0, es1, c1, k1, k2, k3, k4⟩ := hS.fact (Fact.mq b l) (by simp)
  obtain ⟨rfl, rfl⟩ : es = es1 ∧ c = c1 := by rw [h1] at k1; cases k1; exact ⟨rfl, rfl⟩
  obtain ⟨e, seen0, hem, rfl, rfl, rfl⟩ := h6 q rfl
  simp [execOp, hop, hF.eval hx, run_entry_at w r b since seen0 es c0 e h2 h1 hem k4]
end
def DI (k : PK) : Prop := k.1.2 ≠ [] ∧ (elG k.1 k.2.1 ∧ k.2.1 ≠ ae 1) ∧ elG k.1 k.2.2 ∧ k.2.2 ≠ ae 1
instance (k : PK) : Decidable (DI k) := inferInstanceAs (Decidable (_ ∧ _))
theorem xM {g : Gp} {n : Nat} (hg : aU g = 0) (hn : n < val g.1) (hu : Un (val g.1) n) (ho : g.2 ≠ [] → n ^ val g.2 % val g.1 = 1) : elG g (ae n) := by
 obtain ⟨hm, _, hm2, _, _⟩ := cq hg
 refine ⟨aq (Do hn (aK hm)), fun h => ?_, by rw [af]; exact hn, ?_⟩
 ·rw [aT] at h; subst h; simp [Un] at hu; omega
 ·rw [af]; split
  ·exact hu
  ·rename_i h; exact ho h
theorem xK {g : Gp} {x : Bs} (hg : aU g = 0) (h : elG g x) (hq : g.2 ≠ []) : Or (val g.1) (val g.2) (val x) := by
 obtain ⟨_, _, h2, _, _⟩ := cq hg
 have h1 := h.2.2.2; rw [Aa hq] at h1
 rw [Or, h1, Ah (by omega)]
theorem xJ {g : Gp} {a : Bs} (hg : aU g = 0) (ha : elG g a) (z : Int) : elG g (ae (db (val g.1) (val a) z)) := by
 have hm0 := uZ (x := a) hg
 obtain ⟨_, _, h2, _, _⟩ := cq hg
 refine xM hg (by rw [← uc]; exact Ak _ hm0) (vR hm0 (gM hg ha) _) fun hq => ?_
 have := w9 hm0 (gM hg ha) (xK hg ha hq) z
 rw [Or, Ah (show 1 < val g.1 by omega)] at this; exact this
def isS (k : PK) (s : Bs) : Prop := s ≠ [] ∧ val s < val k.1.2 ∧ db (val k.1.1) (val k.2.1) (val s) = val k.2.2
instance (k : PK) (s : Bs) : Decidable (isS k s) := inferInstanceAs (Decidable (_ ∧ _))
abbrev mkP (p : PR) (m : Bs) : PR := { ch := p.ch, sl := p.sl, mn := p.mn, wh := p.wh, sec := p.sec, attr := p.attr, han := p.han, lo := p.lo, sz := p.sz, bl := p.bl, msk := m }
theorem xX {p : PR} {m : Bs} (h : cr p = 0) (hm : okN m) (h2 : 2 ≤ val m) : cr (mkP p m) = 0 := by
 obtain ⟨⟨h3, h4, h5⟩, hg, h6, h7⟩ := eG h
 have a1 : okR (mkP p m) := ⟨by
  intro x hx
  simp only [ft, mkP, A7, List.not_mem_nil, or_false] at hx
  rcases hx with rfl | rfl | rfl | rfl | rfl | rfl | rfl | rfl | rfl
  all_goals first | exact hm | exact h3 _ (by simp), h4, h5⟩
 have a2 : mR (mkP p m) := ⟨by
  intro x hx
  simp only [ft, mkP, A7, List.not_mem_nil, or_false] at hx
  rcases hx with rfl | rfl | rfl | rfl | rfl | rfl | rfl | rfl | rfl
  all_goals first | exact h2 | exact h6 _ (by simp), h7⟩
 rw [cr, Aa (fun h => h a1), Aa (fun h => h (show ny (mkP p m) from hg)), Aa (fun h => h a2)]
theorem xZ {p : PR} {k : IK} {m : Bs} (h : bK p k = 0) (hm : okN m) (h2 : 2 ≤ val m) : bK (mkP p m) k = 0 := by
 have h0 := (bC h).1
 unfold bK at h ⊢
 rw [Aa (by rw [h0]; decide)] at h
 rw [Aa (by rw [xX h0 hm h2]; decide)]
 exact h
theorem vu {r : Nat} {n : Bs} (hr : r < val n) (hn : okN n) : aI ⟨[ae r], [], 0⟩ n = (ae r, ⟨[ae r], [], 1⟩, 0) := by
 have hB : r < Big := Do hr (aK hn)
 have hro := aq hB
 have hn0 : n ≠ [] := fun e => by rw [e] at hr; exact absurd hr (Ea _)
 have hg : eD ⟨[ae r], [], 0⟩ := ⟨Int.le_refl _, (show (0 : Int) ≤ 2147483647 by decide), by intro s hs; rw [List.mem_singleton.1 hs]; exact hro⟩
 have hrd : dy ⟨[ae r], [], 0⟩ n = 0 := by rw [dy, Ab ⟨hg, hn⟩, Aa hn0]
 have hc : ¬ (0 ≤ eh (ae r) n) := by
  rw [aB hro hn, af]; intro h; have := (dk _ _).1 h; omega
 rw [aI, Aa (fun h => h hrd), cE]
 show (if (0 : Int) < ((1 : Nat) : Int) then (if 0 ≤ eh (ae r) n then _ else _) else _) = _
 rw [Ab (by decide), Aa hc]; rfl
abbrev hdA (k : IK) (s : SG) (r : Nat) : Bs := ae (val s.a * val k.s ^ r % val k.g.1)
theorem yO {p : PR} {k : IK} {s : SG} {m : Bs} {r : Nat} (hN : bK p k = 0) (hm : okN m) (h2 : 2 ≤ val m) (hr : r < val m) (ha : elG k.g s.a) (he : okN s.e) (hv : okN s.v)
  (hb : val s.e * r < Big) (hb2 : ((val s.v : Int) - val s.e * r).natAbs < Big) : (eo (mkP p m) k s ⟨[ae r], [], 0⟩).2 = 0 ∧ (eo (mkP p m) k s ⟨[ae r], [], 0⟩).1.1 = hdA k s r := by
 obtain ⟨_, _, _, _, hg, _, _, hel⟩ := bC hN
 have hB : r < Big := Do hr (aK hm)
 have hro := aq hB
 have e1 : aw s.e = ofZ (val s.e : Int) := by rw [cD he, gH, bB he]
 have e2 : aw s.v = ofZ (val s.v : Int) := by rw [cD hv, gH, bB hv]
 have e3 : aw (ae r) = ofZ (r : Int) := by rw [cD hro, gH]
 have m1 : bP (aw s.e) (aw (ae r)) = (ofZ ((val s.e : Int) * r), 0) := by
  rw [e1, e3]; exact j4 (by rw [Bb]; exact aK he) (by rw [Bb]; exact hB) (by rw [← Bx, Bb]; exact hb)
 have m2 : (cG (aw s.v) (bP (aw s.e) (aw (ae r))).1).2 = 0 := by
  rw [m1, e2, mN (by rw [Bb]; exact aK hv) (by rw [← Bx, Bb]; exact hb), Ab hb2]
 have hbl : aI ⟨[ae r], [], 0⟩ (mkP p m).msk = (ae r, ⟨[ae r], [], 1⟩, 0) := vu hr hm
 have hrn : eo (mkP p m) k s ⟨[ae r], [], 0⟩ = (((bL k.g [s.a, k.s] [ofZ 1, aw (ae r)]).1, (cG (aw s.v) (bP (aw s.e) (aw (ae r))).1).1, ⟨[ae r], [], 1⟩), 0) := by
  rw [eo, Aa (fun h => h (xZ hN hm h2)), Aa (fun h => h ⟨ha.1, he, hv⟩), Aa (fun h => h ha), hbl, Aa (fun h => h rfl), Aa (fun h => h.elim (fun h => h (by rw [m1])) (fun h => h m2))]
 have hp := lV hg ha (hel k.s (by simp)) nc (bW.2 (by rw [Bb]; exact hB) : okZ (ofZ (r : Int)))
 rw [mD, mD, ub, od] at hp
 rw [hrn]
 refine ⟨rfl, ?_⟩
 show (bL k.g [s.a, k.s] [ofZ 1, aw (ae r)]).1 = _
 rw [e3, hp, hdA, Nat.mod_mul_mod, Nat.mul_mod_mod]
section
variable {k : IK} {s : SG} {o : Nat}
theorem AJ {p : PR} (hN : bK p k = 0) (j : Nat) : elG k.g (ae (val k.s ^ j % val k.g.1)) := by
 obtain ⟨_, _, _, _, hg, _, _, hel⟩ := bC hN
 have := xJ hg (hel k.s (by simp)) (j : Int)
 rwa [od] at this
theorem CY {p : PR} (hN : bK p k = 0) : k.s = ae (val k.s ^ 1 % val k.g.1) := by
 obtain ⟨_, _, _, _, hg, _, _, hel⟩ := bC hN
 have h := hel k.s (by simp)
 rw [Nat.pow_one, Ah h.2.2.1, bB h.1]
theorem zI (ho : val k.s ^ o % val k.g.1 = 1 % val k.g.1) (r : Nat) : hdA k s (r + o) = hdA k s r := by
 rw [hdA, hdA, Bg, ← Au, ← Nat.mul_mod_mod, ho, Nat.mul_mod_mod, A0]
theorem zJ {p : PR} (hN : bK p k = 0) (ha : elG k.g s.a) (hmin : ∀ i, 0 < i → i < o → val k.s ^ i % val k.g.1 ≠ 1 % val k.g.1) {i j : Nat} (hij : i < j) (hj : j < o) : hdA k s i ≠ hdA k s j := by
 intro h
 obtain ⟨_, _, _, _, hg, _, _, hel⟩ := bC hN
 have hm := uZ (x := s.a) hg
 have hua : Un (val k.g.1) (val s.a) := gM hg ha
 have hus : Un (val k.g.1) (val k.s) := gM hg (hel k.s (by simp))
 have h1 := congrArg val h
 rw [hdA, hdA, af, af, Aj, Aj (val s.a)] at h1
 have h2 := lK hm hua h1
 have h3 : 1 * val k.s ^ i % val k.g.1 = val k.s ^ (j - i) * val k.s ^ i % val k.g.1 := by
  rw [Cm, ← Bg, h2]; congr 2; omega
 exact hmin (j - i) (by omega) (by omega) (lK hm (tb i hus) h3).symm
end
abbrev cnV (o r i : Nat) : Value := .int .i64 ((if i + o < r then 2 else 1 : Nat) : Int)
theorem q5 {o r i : Nat} (h : i + o < r) : cnV o r i = .int .i64 2 := by rw [cnV, Ab h]; rfl
theorem mu {o r i : Nat} (h : ¬ i + o < r) : cnV o r i = .int .i64 1 := by rw [cnV, Aa h]; rfl
def cnM (a : Nat → Bs) (o r : Nat) : List (Bs × Value) := (List.range (min r o)).map fun i => (a i, cnV o r i)
theorem ot : ∀ {l : List (Bs × Value)} {k : Bs}, (∀ p ∈ l, p.1 ≠ k) → lkM l k = none
 | [], _, _ => rfl
 | p :: l, k, h => by rw [lkM, Aa (h p (by simp)), ot fun q hq => h q (by simp [hq])]; rfl
theorem oq : ∀ {l : List (Bs × Value)} {k : Bs} {v : Value} (i : Nat), l[i]? = some (k, v) → (∀ j, j < i → ∀ p, l[j]? = some p → p.1 ≠ k) → lkM l k = some (i, v)
 | [], k, v, i, h, _ => by simp at h
 | p :: l, k, v, 0, h, _ => by simp at h; subst h; rw [lkM, Ab rfl]
 | p :: l, k, v, i + 1, h, hj => by
  rw [lkM, Aa (hj 0 (by omega) p rfl), oq i (by simpa using h) fun j h1 q hq => hj (j + 1) (by omega) q (by simpa using hq)]; rfl
theorem j9 (a : Nat → Bs) (o r : Nat) : (cnM a o r).length = min r o := by rw [cnM, Ag, List.length_range]
theorem ka {a : Nat → Bs} {o r i : Nat} (h : i < min r o) : (cnM a o r)[i]? = some (a i, cnV o r i) := by
 rw [cnM, A6, D7 h]; rfl
section
variable {a : Nat → Bs} {o : Nat} (hinj : ∀ i j, i < j → j < o → a i ≠ a j) (hper : ∀ r, a (r + o) = a r)
include hinj in
theorem vi {r : Nat} (h : r < o) : lkM (cnM a o r) (a r) = none := by
 refine ot fun p hp => ?_
 obtain ⟨i, hi, rfl⟩ := B9.1 hp
 have := B8.1 hi
 exact hinj i r (by omega) h
include hinj hper in
theorem vh {r : Nat} (h1 : o ≤ r) (h2 : r < 2 * o) : lkM (cnM a o r) (a r) = some (r - o, cnV o r (r - o)) := by
 have e : a r = a (r - o) := by rw [← hper (r - o)]; congr 1; omega
 rw [e]
 refine oq (r - o) (ka (by omega)) fun j hj p hp => ?_
 rw [ka (by omega)] at hp; cases hp
 exact hinj j (r - o) hj (by omega)
def cnt (o r : Nat) : Nat := if r < o then 0 else 1
include hinj hper in
theorem xU {r : Nat} (h2 : r < 2 * o) : ((lkM (cnM a o r) (a r)).map (·.2)).getD (.int .i64 0) = .int .i64 ((cnt o r : Nat) : Int) := by
 by_cases h : r < o
 ·rw [vi hinj h, cnt, Ab h]; rfl
 ·rw [vh hinj hper (by omega) h2, cnt, Aa h, Option.map_some, Option.getD_some]; exact mu (by omega)
include hinj hper in
theorem xT {r : Nat} (h2 : r < 2 * o) : upM (cnM a o r) (a r) (.int .i64 ((cnt o r + 1 : Nat) : Int)) = cnM a o (r + 1) := by
 by_cases h : r < o
 ·rw [upM, vi hinj h]
  show cnM a o r ++ [(a r, _)] = _
  rw [cnM, cnM, Dh (by omega), Dh (by omega), List.range_succ, B7, cnt, Ab h]
  have e1 : ((List.range r).map fun i => (a i, cnV o r i)) = (List.range r).map fun i => (a i, cnV o (r + 1) i) := List.map_congr_left fun i hi => by
   have := B8.1 hi; rw [mu (by omega), mu (by omega)]
  rw [e1]
  show _ = _ ++ [(a r, cnV o (r + 1) r)]
  rw [mu (by omega)]; rfl
 ·rw [upM, vh hinj hper (by omega) h2, cnt, Aa h]
  show (cnM a o r).set (r - o) _ = _
  refine C7 fun i => ?_
  rw [List.getElem?_set, j9]
  by_cases hi : i < o
  ·rw [ka (r := r + 1) (by omega)]; by_cases e : r - o = i
   ·subst e; have ea : a r = a (r - o) := by rw [← hper (r - o)]; congr 1; omega
    rw [Ab rfl, Ab (by omega), ea, q5 (by omega)]; rfl
   ·rw [Aa e, ka (by omega)]; by_cases hh : i + o < r
    ·rw [q5 hh, q5 (by omega)]
    ·rw [mu hh, mu (by omega)]
  ·rw [Df (by rw [j9]; omega), Aa (by omega), Df (by rw [j9]; omega)]
theorem zW {p : Bs × Value} (h : p ∈ cnM a o (2 * o)) : p.2 = .int .i64 2 := by
 obtain ⟨i, hi, rfl⟩ := B9.1 h
 have := B8.1 hi
 show cnV o (2 * o) i = _
 exact q5 (by omega)
end
end Go.Proofs.YtkdlonihbjhhoaaGreatDoor
