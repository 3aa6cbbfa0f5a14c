/-
  Parts of the walk: ShaB Sha5 Sha4 Sha7 ShaW Laid LaiE Opu.
-/
import Derived.Test.YtkdlonihbjhhoaaGreatDoorV20
import Derived.Lib.LaidTab
import Derived.Test.YtkdlonihbjhhoaaGreatDoorRows
namespace Go.Proofs.YtkdlonihbjhhoaaGreatDoor
open Go.RowKit
set_option linter.unusedSimpArgs false
set_option linter.unusedVariables false
set_option maxHeartbeats 600000
set_option maxRecDepth 20000
def awP : PR := { ch := [2], sl := [2], mn := (([47], [23]), ([4], [9])), wh := (([77], []), ([4], [9])), sec := [23], attr := [2], han := [20], lo := [3], sz := [10], bl := [20], msk := [15] }
def awK : IK := { name := [105], g := ([77], []), z := [15], s := [4], r := [[64], [23], [1]], u := [4], h := [4] }
theorem yi : fg awP awK ⟨[53], [7], [2]⟩ ⟨[[4]], [], 0⟩ = (([16], (true, [26]), ⟨[[4]], [], 1⟩), 0) := by decide +kernel
theorem ze : shE awP awK [16] [2] [[1]] = 0 := by decide +kernel
theorem ud : shS awP awK [16] [2] [[1]] = (shT awP awK [16] [2] [[1]], 0) := by rw [shS, if_neg (fun h => h ze)]
theorem zb : wiS awP ⟨[53], [7], [2]⟩ (true, [26]) [[1], [3], [1]] [2] = ([(false, [4]), (true, [26]), (false, [1]), (false, [3])], 0) := by decide +kernel
theorem zd : tgS awP awK [16] [2] [[1]] = [1] := by decide +kernel
theorem yj : kj (shT awP awK [16] [2] [[1]]) [(false, [4]), (true, [26]), (false, [1]), (false, [3])] = (true, 0) := by decide +kernel
theorem tL {l m : List Zs} {i : Nat} (h1 : i < l.length) (h2 : i < m.length) (h : l.take i = m.take i) (e : l.getD i default = m.getD i default) : l.take (i + 1) = m.take (i + 1) := by
 rw [oY h1, oY h2, h, e]
theorem yb {l m : List Zs} {i : Nat} (e : ¬ l.getD i default = m.getD i default) : ¬ l = m := fun h => e (by rw [h])
theorem wR {l m : List Zs} {a b : Option Addr} {c d : Nat} {w : World} {ok : Nat → Prop} (hF1 : (Fact.sl a (aW l)).holds ok w) (hF2 : (Fact.sl b (aW m)).holds ok w) (hl : l.length ≤ 10000000) (hm : m.length ≤ 10000000) :
  Cw 21 #[.slice a l.length c, .slice b m.length d] w (.bool (decide (l = m))) := by
 refine En [Fact.sl a (aW l), Fact.sl b (aW m)] [(0, .slice a l.length c), (1, .slice b m.length d)] Tryz.func21 rfl Tryz.ntmps21 rfl (Ac rfl (Ac rfl (An _))) (Fc (ah hF1) (Fc (ah hF2) Fn)) ?_
 refine Cs (Ka rfl (Nt (Cq (Cs (Km rfl (Yo rfl u39 (Km rfl (Yo rfl u39 (Yj rfl (Nt ?_))))))))))
 refine Cd rfl (fun hc10 => ?_) (fun hc10 => ?_)
 ·(try simp only [sB] at hc10)
  have hn : ¬ l = m := fun h => by subst h; simp at hc10
  refine Cs (Ka rfl (Nt (Ce (Xb ?_))))
  exact R1 rfl rfl (by rw [decide_eq_false hn]; rfl)
 ·(try simp only [sB] at hc10)
  have hlen : l.length = m.length := by omega
  refine Ck (Xa (Cq (Cs (Km rfl (Yo rfl u39 (Km rfl (Nt (Cb ?_))))))))
  refine Lp (σ := Nat) [(0, _), (1, _), (12, _)] (fun gq => [(13, .int .i64 (gq : Int))]) (fun gq => gq ≤ l.length ∧ l.take gq = m.take gq) (fun gq => l.length - gq) (0) (S3 rfl rfl rfl) (S1 rfl) (by (try dsimp only); exact ⟨Nat.zero_le _, by simp⟩) ?_
  rintro i hinv1; (try dsimp only at hinv1 ⊢)
  obtain ⟨hi, hok⟩ := hinv1
  refine Cs (Yl rfl (Nt (Cq ?_)))
  refine Cd rfl (fun hc14 => ?_) (fun hc14 => ?_)
  ·(try simp only [sB] at hc14)
   have hil : i < l.length := by omega
   have him : i < m.length := by omega
   obtain ⟨x, hx⟩ : ∃ x, Keep (x = l.getD i default) := ⟨_, rfl⟩
   obtain ⟨y, hy⟩ : ∃ y, Keep (y = m.getD i default) := ⟨_, rfl⟩
   refine Ck (Xa (Cq (Cb (Cs (Km rfl (Ka rfl (Nt (Cq ?_))))))))
   refine Cf [0, 1, 2, 3, 4, 5, 6, 7, 8] [] [0, 0, 0, 0, 0, 0, 0, 0, 0] (by kernel_rfl) (by kernel_rfl) rfl ?_
   refine Kj rfl (Rm rfl rfl) (Kj rfl (Rm rfl rfl) ?_)
   refine Kj rfl (Ia rfl rfl rfl u39 (by kernel_rfl : _ = some 2) (by omega) (by (rw [aj _ _ 2 (fun _ => rfl)]; omega))) ?_
   refine Kj rfl (dC _ rfl rfl u37 rfl (by kernel_rfl : _ = some 2) (fun _ => rfl) (by decide) rfl (by assumption)) ?_
   refine WJ.set 19 rfl (v' := zV x) (by rw [show x = _ from hx]) ?_
   refine Kj rfl (Rm rfl rfl) (Kj rfl (Rm rfl rfl) ?_)
   refine Kj rfl (Ia rfl rfl rfl u39 (by kernel_rfl : _ = some 2) (by omega) (by (rw [aj _ _ 2 (fun _ => rfl)]; omega))) ?_
   refine Kj rfl (dC _ rfl rfl u37 rfl (by kernel_rfl : _ = some 2) (fun _ => rfl) (by decide) rfl (by assumption)) ?_
   refine WJ.set 23 rfl (v' := zV y) (by rw [show y = _ from hy]) ?_
   refine Kj rfl (sw rfl rfl rfl (by kernel_rfl) (fun w => i1 _ _ _ _ w)) ?_
   refine WJ.nil ?_
   refine Nt ?_
   refine Cd rfl (fun hc24 => ?_) (fun hc24 => ?_)
   ·(try simp only [sB] at hc24)
    have hn : ¬ l = m := yb (fun h => hc24 (by rw [show x = _ from hx, show y = _ from hy, h]; exact ⟨rfl, rfl⟩))
    refine Cs (Ka rfl (Nt (Ce (Xf (Xb (Xb (Xf (Xb ?_))))))))
    exact R1 rfl rfl (by rw [decide_eq_false hn]; rfl)
   ·(try simp only [sB] at hc24)
    refine Ck (Xd (Xa (Cg (Kq rfl (Rz rfl rfl rfl (by omega)) (Km rfl (Nn ?_))))))
    refine Ly (i + 1) (by (try dsimp only); omega) (S3 rfl rfl rfl) (by refine (Sc ?_ (S0 _)) <;> (rfl)) ?_ (by (exact fun _ h => h))
    (try dsimp only)
    exact ⟨hil, tL hil him hok (by rw [← show x = _ from hx, ← show y = _ from hy]; exact Prod.ext hc24.1 hc24.2)⟩
  ·(try simp only [sB] at hc14)
   refine Cx (Xc (Xc (Xe ?_)))
   obtain rfl : i = l.length := by omega
   rw [List.take_length, hlen, List.take_length] at hok
   refine Xa (Cs (Ka rfl (Nt (Ce ?_))))
   exact R1 rfl rfl (by rw [decide_eq_true hok]; rfl)
theorem rZ {w : World} :
  Calls Tryz.prog 38 #[] w fun e w' => ∃ g : Rs, e = .returned (.tuple #[prV awP, ikV awK (g.val 3)]) ∧ g.cap = 3 + g.sp.length ∧ St (fun _ => True) w [g.ent (ao awK.r) 22] [] w' := by
 refine En [] [] Tryz.func38 rfl Tryz.ntmps38 rfl (An _) Fn ?_
 refine Cs ?_
 refine Kh rfl (Oz [.string (S []), .string (S []), .string (S []), .string (S []), .string (S []), .string (S []), .string (S []), .string (S []), .string (S []), .string (S []), .string (S []), .string (S []), .string (S []), .string (S []), .string (S []), .string (S []), .string (S [])] rfl) ?_
 intro b0
 refine Kh rfl (Oz [.string (S []), .string (S []), .string (S []), .string (S []), .string (S []), .slice none 0 0, .string (S []), .string (S [])] rfl) ?_
 intro b1
 refine Nt (Cs (Kq rfl (Kb [[.string (S [])], [.string (S [])]] rfl rfl) (Kq rfl (Kb [[.string (S [])], [.string (S [])]] rfl rfl) (Kq rfl (Kb [[.string (S []), .string (S [])], [.string (S [])], [.string (S [])]] rfl rfl) (Kq rfl (Kb [[.string (S [])], [.string (S [])]] rfl rfl) (Kq rfl (Kb [[.string (S []), .string (S [])], [.string (S [])], [.string (S [])]] rfl rfl) (Kq rfl (Kb [[.string (S []), .string (S [])], [.string (S []), .string (S []), .string (S []), .string (S [])], [.string (S []), .string (S []), .string (S []), .string (S [])], [.string (S [])], [.string (S [])], [.string (S [])], [.string (S [])], [.string (S [])], [.string (S [])], [.string (S [])]] rfl rfl) ?_)))))))
 refine Kh rfl (Oz [.string (S []), .string (S []), .string (S []), .string (S []), .string (S []), .string (S []), .string (S []), .string (S []), .string (S []), .string (S []), .string (S []), .string (S []), .string (S []), .string (S []), .string (S []), .string (S []), .string (S [])] rfl) ?_
 intro b2
 refine Nu rfl rfl (Sa rfl rfl rfl .tc) ?_
 refine Nt (Cs (Kq rfl (Kb [[.string (S [])], [.string (S [])]] rfl rfl) ?_))
 refine Kh rfl (aR rfl rfl u31 (by kernel_rfl : _ = some (some (.string (S [])), 1, 16)) rfl (by simp only [List.map]; rfl) rfl rfl ?_ (by decide)) ?_
 ·simp [Value.cells]
 intro b11
 refine Kq rfl (Kb [[.string (S [])], [.string (S []), .string (S [])], [.string (S [])], [.string (S [])], [.slice none 0 0], [.string (S [])], [.string (S [])]] rfl rfl) ?_
 refine Kh rfl (Oz [.string (S []), .string (S []), .string (S []), .string (S []), .string (S []), .slice none 0 0, .string (S []), .string (S [])] rfl) ?_
 intro b3
 refine Nu rfl rfl (Sa rfl rfl rfl .tc) ?_
 refine WL.st (fun w h => show St _ _ ([⟨some b3, ikC awK (.slice (some ⟨b11, 0, none⟩) 3 3), 33⟩, ⟨some b11, ao awK.r, 22⟩, ⟨some b2, prC awP, 30⟩, _, _] : List Ent) _ w from h) ?_
 refine Nt (Cq ?_)
 refine WC.free (K := [⟨some b3, ikC awK (.slice (some ⟨b11, 0, none⟩) 3 3), 33⟩, ⟨some b2, prC awP, 30⟩]) (fs0 := []) [0, 2, 1] [3] [0, 0, 1, 2] (by kernel_rfl) (by kernel_rfl) rfl ?_
 refine Kj rfl (lda rfl rfl .tc u30 rfl ?_) ?_
 ·kernel_rfl
 refine WJ.st rfl rfl rfl rfl (lS rfl rfl rfl ?_ ?_ ?_) ?_
 ·kernel_rfl
 ·simp [Value.oneCell']
 ·rfl
 refine Kj rfl (lda rfl rfl .tc u33 rfl ?_) ?_
 ·kernel_rfl
 refine WJ.nil ?_
 refine Nu rfl rfl (Sa rfl rfl rfl .tc) ?_
 refine Nt (Ce ?_)
 exact Rn rfl (.agg rfl .tc u30 rfl (by kernel_rfl) (.agg rfl .tc u33 rfl (by kernel_rfl) .nil)) fun w' hS => ⟨⟨some b11, 3, []⟩, rfl, rfl, hS.sub (own' := [⟨some b11, ao awK.r ++ [], 22⟩]) (.cons _ (by simp)) (fun _ h => by cases h)⟩
theorem xl {s : SA} {p : PR} {k : IK} {a : Bs} {d : List Int} {vs : List Bs} (hm8 : k.g.1.length ≤ 8) (hk : k.r.length ≤ 90000) (h : s.core = (shS p k a d vs).1) : saL s := by
 have hh : (aM d k.r.length).length ≤ k.r.length := by
  have := List.length_filter_le (fun i : Nat => !(d.contains (i : Int))) (List.range k.r.length)
  rw [List.length_range] at this; exact this
 have hc : s.gs.length ≤ 100000 ∧ s.vs.length ≤ 100000 ∧ s.core.2.2.length ≤ 100000 ∧ (∀ q ∈ s.core.2.2, q.2.2.length ≤ 100000) ∧ ∀ g ∈ s.gs, g.1.length ≤ 8 := by
  have e1 : s.gs = (shS p k a d vs).1.1 := congrArg (·.1) h
  have e2 : s.vs = (shS p k a d vs).1.2.1 := congrArg (·.2.1) h
  rw [e1, e2, h, shS]; split
  ·exact ⟨Nat.zero_le _, Nat.zero_le _, Nat.zero_le _, by simp, by simp⟩
  ·exact ⟨by simp [shT], by simp [shT]; omega, by simp [shT], by simp [shT, gQ]; omega, by simpa [shT] using hm8⟩
 exact ⟨hc.1, hc.2.1, by have := hc.2.2.1; simpa using this, eF.1 hc.2.2.2.1, hc.2.2.2.2⟩
abbrev awS : SG := ⟨[53], [7], [2]⟩
abbrev awZ : Zs := (true, [26])
theorem lG {w : World} (hT : Tab w) (hD : TabD w) :
  Cw 12 #[] w (.bool true) := by
 refine En [] [] Tryz.func12 rfl Tryz.ntmps12 rfl (An _) Fn ?_
 refine Cs (Ka rfl (Nt (Cs ?_)))
 refine Kh rfl (Oc rfl rfl (f8 fun w hS => rZ)) ?_
 intro g15
 refine WL.pu ?_
 intro hg15; (try dsimp only at hg15 ⊢)
 refine Km rfl (Ye rfl (Ye rfl ?_))
 refine Kh rfl (Oz [.string (S []), .string (S []), .string (S []), .string (S []), .string (S []), .string (S []), .string (S []), .string (S []), .string (S []), .string (S []), .string (S []), .string (S []), .string (S []), .string (S []), .string (S []), .string (S []), .string (S [])] rfl) ?_
 intro b1
 refine Kh rfl (Oz [.string (S []), .string (S []), .string (S []), .string (S []), .string (S []), .slice none 0 0, .string (S []), .string (S [])] rfl) ?_
 intro b2
 refine Nu rfl rfl (Sa rfl rfl rfl .tc) ?_
 refine Nu rfl rfl (Sa rfl rfl rfl .tc) ?_
 refine Nt (Cs (Kq rfl (Kb [[.string (S [])], [.string (S [])], [.string (S [])]] rfl rfl) ?_))
 refine Kh rfl (Oz [.string (S []), .string (S []), .string (S [])] rfl) ?_
 intro b3
 refine Nu rfl rfl (Sa rfl rfl rfl .tc) ?_
 refine Nt (Cs ?_)
 refine Kq rfl (lda rfl rfl .tc u30 rfl ?_) ?_
 ·kernel_rfl
 refine Kq rfl (lda rfl rfl .tc u33 rfl ?_) ?_
 ·kernel_rfl
 refine Kq rfl (lda rfl rfl .tc u35 rfl ?_) ?_
 ·kernel_rfl
 refine Kh rfl (aR rfl rfl u31 (by kernel_rfl : _ = some (some (.string (S [])), 1, 16)) rfl (by simp only [List.map]; rfl) rfl rfl ?_ (by decide)) ?_
 ·simp [Value.cells]
 intro b23
 refine Kq rfl (Kb [[.slice none 0 0], [.string (S [])], [.int .i64 0]] rfl rfl) ?_
 refine Kh rfl (Oc rfl rfl (f8 fun w hS => uL (p := awP) (k := awK) (s := awS) (t := ⟨[[4]], [], 0⟩) (by (exact hS.sl)) (by (exact hS.os)) (by decide) (by decide) (by decide) (by decide) (by decide) (by decide) (by exact eP hT hS) (by exact bn hD hS))) ?_
 intro g25
 refine WL.pu ?_
 intro hg25; (try dsimp only at hg25 ⊢)
 rw [yi]
 refine Km rfl (Ye rfl (Ye rfl (Ye rfl (Ye rfl ?_))))
 refine Kh rfl (Oz [.bool false, .string (S [])] rfl) ?_
 intro b5
 refine Kh rfl (Oz [.slice none 0 0, .string (S []), .int .i64 0] rfl) ?_
 intro b6
 refine Ka rfl ?_
 refine Nu rfl rfl (Sa rfl rfl rfl .tc) ?_
 refine Nu rfl rfl (Sa rfl rfl rfl .tc) ?_
 refine Ka rfl (Nt (Cs ?_))
 refine Kq rfl (lda rfl rfl .tc u30 rfl ?_) ?_
 ·kernel_rfl
 refine Kq rfl (lda rfl rfl .tc u33 rfl ?_) ?_
 ·kernel_rfl
 refine Km rfl ?_
 refine Kh rfl (aR rfl rfl u38 (by kernel_rfl : _ = some (some (.int .i64 0), 1, 8)) rfl (by simp only [List.map]; rfl) rfl rfl ?_ (by decide)) ?_
 ·simp [Value.cells]
 intro b34
 refine Kh rfl (aR rfl rfl u31 (by kernel_rfl : _ = some (some (.string (S [])), 1, 16)) rfl (by simp only [List.map]; rfl) rfl rfl ?_ (by decide)) ?_
 ·simp [Value.cells]
 intro b35
 refine WL.st (fun w h => (h.freeze (off := 0) (xs := ao [[1]]) (fun i hi => by rw [Nat.zero_add]; rfl)).freeze (off := 0) (xs := dW [2]) (fun i hi => by rw [Nat.zero_add]; rfl)) ?_
 refine Kh rfl (Oc rfl rfl (my fun w hS => xj (p := awP) (k := awK) (xa := [16]) (d := [2]) (vs := [[1]]) (by (exact hS.slo)) (by (exact hS.slo)) (by (exact hS.slo)) (by decide) (by decide) (by decide) (by decide) (by decide) (by decide) (by exact bn hD hS))) ?_
 rintro sa36
 refine WL.pu ?_
 intro hg36; (try dsimp only [List.cons_append, List.nil_append] at hg36 ⊢)
 rw [ud]
 refine Km rfl (Ye rfl (Ye rfl ?_))
 refine Kh rfl (Oz [.slice none 0 0, .slice none 0 0, .slice none 0 0] rfl) ?_
 intro b8
 refine Nu rfl rfl (Sa rfl rfl rfl .tc) ?_
 refine Ka rfl (Nt (Cs ?_))
 refine Kq rfl (lda rfl rfl .tc u30 rfl ?_) ?_
 ·kernel_rfl
 refine Kq rfl (lda rfl rfl .tc u35 rfl ?_) ?_
 ·kernel_rfl
 refine Kq rfl (lda rfl rfl .tc u37 rfl ?_) ?_
 ·kernel_rfl
 refine Kh rfl (aR rfl rfl u31 (by kernel_rfl : _ = some (some (.string (S [])), 1, 16)) rfl (by simp only [List.map]; rfl) rfl rfl ?_ (by decide)) ?_
 ·simp [Value.cells]
 intro b43
 refine Kh rfl (aR rfl rfl u38 (by kernel_rfl : _ = some (some (.int .i64 0), 1, 8)) rfl (by simp only [List.map]; rfl) rfl rfl ?_ (by decide)) ?_
 ·simp [Value.cells]
 intro b44
 refine Kh rfl (Oc rfl rfl (ie fun w hS => o5 (p := awP) (sg := awS) (v := awZ) (ms := [[1], [3], [1]]) (d := [2]) (by (exact hS.os)) (by (exact hS.os)) (by decide) (by decide) (by decide) (by exact bn hD hS))) ?_
 rintro g45
 refine WL.pu ?_
 intro hg45; (try dsimp only [List.cons_append, List.nil_append] at hg45 ⊢)
 rw [zb]
 refine Km rfl (Ye rfl (Ye rfl (Ka rfl (Ka rfl (Nt (Cq (Cs ?_)))))))
 have hc9 : sa36.core = shT awP awK [16] [2] [[1]] := hg36.trans (congrArg (·.1) ud)
 have hes : sa36.es.length = 1 := by have := congrArg (fun c => c.2.2.length) hc9; simpa [SA.core, shT] using this
 obtain ⟨q, hq⟩ := List.length_eq_one_iff.1 hes
 have hq1 : q.1.2.1 = [1] := by have := congrArg (fun c => c.2.2.map (·.2.1)) hc9; simpa [SA.core, hq, shT, zd] using this
 refine Km rfl (Km rfl ?_)
 refine Kq rfl (ax rfl rfl rfl (by (dsimp only; omega))) ?_
 refine Km rfl ?_
 refine Kq rfl (ax rfl rfl rfl (by (dsimp only; omega))) ?_
 refine Yj rfl (Km rfl ?_)
 refine Ns 54 rfl (v' := .bool false) (by rfl) ?_
 refine Km rfl (Yr rfl (Yq rfl (Km rfl ?_)))
 refine Ns 58 rfl (v' := .bool false) (by rfl) ?_
 refine Kq rfl (lda rfl rfl .tc u37 rfl ?_) ?_
 ·kernel_rfl
 refine Kq rfl (Kb [[.bool false], [.string (S [])]] rfl rfl) ?_
 refine Kq rfl (sw rfl rfl rfl (by kernel_rfl) (fun w => i1 _ _ _ _ w)) ?_
 refine Yq rfl (Km rfl ?_)
 refine Ns 63 rfl (v' := .bool false) (by rfl) ?_
 refine Kq rfl (Fa (q := 2) rfl rfl u58 rfl rfl) (Kq rfl (Ld rfl rfl .tc u56) ?_)
 refine Yo rfl u56 (Yj rfl (Yq rfl ?_))
 refine Ns 68 rfl (v' := .bool false) (by rw [hes]; rfl) ?_
 refine Nt ?_
 refine Cd rfl (fun h => by cases h) (fun _ => ?_)
 refine Ck (Xa (Cs ?_))
 refine Kq rfl (lda rfl rfl .tc u58 rfl ?_) ?_
 ·kernel_rfl
 refine Km rfl ?_
 refine Ku rfl (Oc rfl rfl (Kv fun w hS => (by have := vP (w := w) (s := sa36) (ws := [(false, [4]), awZ, (false, [1]), (false, [3])]) (a := g45.a) (c := g45.cap) hS.sl hS.sl hS.sl hS.sl hS.more (xl (by decide) (by decide) hg36) (by decide); rw [hc9, yj] at this; exact this))) ?_
 refine Km rfl (Ye rfl (Ye rfl (Ka rfl (Ka rfl (Nt (Cs ?_))))))
 rw [hq]
 refine Kq rfl (Fa (q := 2) rfl rfl u58 rfl rfl) (Kq rfl (Ld rfl rfl .tc u56) ?_)
 refine Kq rfl (Ia rfl rfl rfl u56 (by kernel_rfl : _ = some 3) (by (simp <;> omega)) (by (simp <;> omega))) ?_
 (refine Kq rfl (faf rfl rfl u95 rfl (by kernel_rfl) (by (try simp only [sN, Int.reduceToNat, Nat.reduceAdd, Nat.reduceMul, Nat.reduceSub]); rfl)) ?_)
 refine Kq rfl (kO (sz := 3) 0 1 rfl rfl u22 rfl (fun _ => rfl) rfl (by simp) (by decide) rfl) ?_
 refine Ns 79 rfl (v' := .string (S ([1]))) (congrArg (fun l => Value.string (S l)) (by exact hq1)) ?_
 refine Ys rfl (Km rfl ?_)
 refine Ns 81 rfl (v' := .bool true) (by rfl) ?_
 refine Km rfl (Kq rfl (Kb [[.bool false], [.string (S [])]] rfl rfl) (Kq rfl (Kb [[.bool false], [.string (S [])]] rfl rfl) (Kq rfl (Kb [[.bool false], [.string (S [])]] rfl rfl) (Kq rfl (Kb [[.bool false], [.string (S [])]] rfl rfl) ?_))))
 refine Kh rfl (fE rfl rfl u39 (by kernel_rfl : _ = some (some (.agg #[.bool false, .string (S [])]), 2, 24)) (by kernel_rfl) (by decide) rfl rfl (by (simp [Value.cells]; done)) (by (simp only [List.map, Value.cells, List.flatMap_cons, List.flatMap_nil, List.append_nil, List.toList_toArray]; rfl)) (by decide)) ?_
 intro b87
 refine Ku rfl (Oc rfl rfl (Kv fun w hS => wR (l := [(false, [4]), awZ, (false, [1]), (false, [3])]) (m := [(false, [4]), awZ, (false, [1]), (false, [3])]) (a := g45.a) (b := some ⟨b87, 0, none⟩) (c := g45.cap) (d := 4) (w := w) hS.sl hS.os (by decide) (by decide))) ?_
 refine Yp rfl (Km rfl ?_)
 refine Ns 90 rfl (v' := .bool true) (by rfl) ?_
 refine Km rfl (Yi rfl (Yp rfl (Km rfl ?_)))
 refine Ns 94 rfl (v' := .bool true) (by rfl) ?_
 refine Km rfl (Yp rfl (Ka rfl (Nt (Ce ?_))))
 exact R1 rfl rfl (by rfl)
theorem xn {l : List Int} {n : Int} {a : Option Addr} {c : Nat} {w : World} {ok : Nat → Prop} (hF1 : (Fact.sl a (dW l)).holds ok w) (hl : l.length ≤ 140737488351232) :
  Cw 62 #[.slice a l.length c, .int .i64 n] w (.bool (cz 1 l n)) := by
 refine En [Fact.sl a (dW l)] [(0, .slice a l.length c), (1, .int .i64 n)] Tryz.func62 rfl Tryz.ntmps62 rfl (Ac rfl (Ac rfl (An _))) (Fc (ah hF1) Fn) ?_
 refine Cs (Ka rfl (Nt (Cq (Cs (Ka rfl (Nt (Cb ?_)))))))
 refine Lp (σ := Nat × Int) [(0, _), (1, _)] (fun gq => [(5, .int .i64 (gq.1 : Int))]) (fun gq => gq.1 ≤ l.length ∧ cz gq.2 (l.drop gq.1) n = cz 1 l n ∧ 1 ≤ gq.2 ∧ (gq.1 = 0 → gq.2 = 1) ∧ (0 < gq.1 → gq.2 = l.getD (gq.1 - 1) default ∧ 2 ≤ gq.2)) (fun gq => l.length - gq.1) (0, 1) (S2 rfl rfl) (S1 rfl) (by (try dsimp only); exact ⟨Nat.zero_le _, rfl, by omega, fun _ => rfl, fun h => by omega⟩) ?_
 rintro ⟨i, last⟩ hinv1; (try dsimp only at hinv1 ⊢)
 obtain ⟨hi, he, hl1, hl2, hl3⟩ := hinv1
 refine Cq (Cs (Km rfl (Km rfl (Yo rfl u38 (Yl rfl (Nt ?_))))))
 refine Cd rfl (fun hc9 => ?_) (fun hc9 => ?_)
 ·(try simp only [sB] at hc9)
  have hil : i < l.length := by omega
  obtain ⟨y, hy⟩ : ∃ y, Keep (y = l.getD i default) := ⟨_, rfl⟩
  rw [gg hil, ← show y = _ from hy, cz] at he
  refine Ck (Xa (Cq (Cb ?_)))
  refine WC.joinP (σ := Unit) [(0, _), (1, _), (5, _)] (fun gq => [(40, .bool (decide (¬ (last < y ∧ y < n))))]) (fun gq => True) (S3 rfl rfl rfl) ?_ ?_
  ·skip
   refine Cf [0, 1, 2, 3, 4, 5, 6, 7, 8, 9, 10, 11, 12, 13, 14, 15, 16, 17, 18, 19, 20, 21, 22, 23, 24, 25, 26, 27, 28] [] [0, 0, 0, 0, 0, 0, 0, 0, 0, 0, 0, 0, 0, 0, 0, 0, 0, 0, 0, 0, 0, 0, 0, 0, 0, 0, 0, 0, 0] (by kernel_rfl) (by kernel_rfl) rfl ?_
   refine Kj rfl (Rm rfl rfl) (Kj rfl (Rm rfl rfl) ?_)
   refine Kj rfl (Ib rfl rfl rfl u38 (by omega) (by (rw [List.length_map]; omega))) ?_
   refine Kj rfl (ldm rfl rfl u3 rfl (by assumption)) ?_
   refine WJ.set 15 rfl (v' := .int .i64 (y)) (congrArg (Value.int .i64) (by rw [show y = _ from hy])) ?_
   refine Kj rfl (j2 rfl rfl rfl) (Kj rfl (Rm rfl rfl) ?_)
   refine WJ.bool 17 rfl (fun hg17 => ?_) (fun hg17 => ?_)
   ·(try simp only [sB] at hg17)
    refine Js rfl rfl rfl rfl (Js rfl rfl rfl rfl (Js rfl rfl rfl rfl (Js rfl rfl rfl rfl (Js rfl rfl rfl rfl (Js rfl rfl rfl rfl (Kj rfl (Rp rfl rfl rfl) (Kj rfl (Rm rfl rfl) (Js rfl rfl rfl rfl (Js rfl rfl rfl rfl (Js rfl rfl rfl rfl (Js rfl rfl rfl rfl (Js rfl rfl rfl rfl (Js rfl rfl rfl rfl (Js rfl rfl rfl rfl (Js rfl rfl rfl rfl (Js rfl rfl rfl rfl (Js rfl rfl rfl rfl (Js rfl rfl rfl rfl (Js rfl rfl rfl rfl (Js rfl rfl rfl rfl (Js rfl rfl rfl rfl (Kj rfl (Rp rfl rfl rfl) ?_))))))))))))))))))))))
    refine WJ.nil ?_
    refine Nn ?_
    refine WX.joinP (()) (S3 rfl rfl rfl) (by refine (Sc ?_ (S0 _)) <;> ((exact congrArg (fun b => some (Value.bool b)) (by symm; apply decide_eq_true; omega)))) ?_ (by (exact fun _ h => h))
    (try dsimp only)
    done
   ·(try simp only [sB] at hg17)
    refine Kj rfl (Rm rfl rfl) (Kj rfl (Rm rfl rfl) ?_)
    refine Kj rfl (Ib rfl rfl rfl u38 (by omega) (by (rw [List.length_map]; omega))) ?_
    refine Kj rfl (ldm rfl rfl u3 rfl (by assumption)) ?_
    refine WJ.set 21 rfl (v' := .int .i64 (y)) (congrArg (Value.int .i64) (by rw [show y = _ from hy])) ?_
    refine Kj rfl (Rm rfl rfl) (Kj rfl (sD rfl rfl rfl) (Kj rfl (Rq rfl rfl rfl) (Kj rfl (Rm rfl rfl) ?_)))
    refine WJ.bool 25 rfl (fun hg25 => ?_) (fun hg25 => ?_)
    ·(try simp only [sB] at hg25)
     refine Js rfl rfl rfl rfl (Js rfl rfl rfl rfl (Js rfl rfl rfl rfl (Js rfl rfl rfl rfl (Js rfl rfl rfl rfl (Js rfl rfl rfl rfl (Js rfl rfl rfl rfl (Js rfl rfl rfl rfl (Js rfl rfl rfl rfl (Js rfl rfl rfl rfl (Js rfl rfl rfl rfl (Js rfl rfl rfl rfl (Js rfl rfl rfl rfl (Js rfl rfl rfl rfl (Kj rfl (Rp rfl rfl rfl) ?_))))))))))))))
     refine WJ.nil ?_
     refine Nn ?_
     refine WX.joinP (()) (S3 rfl rfl rfl) (by refine (Sc ?_ (S0 _)) <;> ((refine ai rfl ?_; (try dsimp only); (simp [*]; done)))) ?_ (by (exact fun _ h => h))
     (try dsimp only)
     done
    ·(try simp only [sB] at hg25)
     refine Kj rfl (Rm rfl rfl) (Kj rfl (j3 rfl rfl rfl) (Kj rfl (Rm rfl rfl) ?_))
     refine WJ.bool 28 rfl (fun hg28 => ?_) (fun hg28 => ?_)
     ·(try simp only [sB] at hg28)
      refine Kj rfl (Rm rfl rfl) (Kj rfl (Rm rfl rfl) ?_)
      refine Kj rfl (Ib rfl rfl rfl u38 (by omega) (by (rw [List.length_map]; omega))) ?_
      refine Kj rfl (ldm rfl rfl u3 rfl (by assumption)) ?_
      refine WJ.set 32 rfl (v' := .int .i64 (y)) (congrArg (Value.int .i64) (by rw [show y = _ from hy])) ?_
      refine Kj rfl (Rm rfl rfl) (Kj rfl (Rm rfl rfl) (Kj rfl (ar rfl rfl rfl (by omega)) ?_))
      refine Kj rfl (Ib rfl rfl rfl u38 (by omega) (by (rw [List.length_map]; omega))) ?_
      refine Kj rfl (ldm rfl rfl u3 rfl (by omega)) ?_
      refine WJ.set 37 rfl (v' := .int .i64 (last)) (congrArg (Value.int .i64) (by rw [(hl3 (by omega)).1])) ?_
      refine Kj rfl (oa rfl rfl rfl) (Kj rfl (Rp rfl rfl rfl) (Kj rfl (Rq rfl rfl rfl) ?_))
      refine WJ.nil ?_
      refine Nn ?_
      refine WX.joinP (()) (S3 rfl rfl rfl) (by refine (Sc ?_ (S0 _)) <;> ((refine ai rfl ?_; (try dsimp only); (exact decide_eq_decide.2 (by omega))))) ?_ (by (exact fun _ h => h))
      (try dsimp only)
      done
     ·(try simp only [sB] at hg28)
      refine Js rfl rfl rfl rfl (Js rfl rfl rfl rfl (Js rfl rfl rfl rfl (Js rfl rfl rfl rfl (Js rfl rfl rfl rfl (Js rfl rfl rfl rfl (Js rfl rfl rfl rfl (Js rfl rfl rfl rfl (Js rfl rfl rfl rfl (Js rfl rfl rfl rfl (Kj rfl (Rq rfl rfl rfl) (Kj rfl (Rq rfl rfl rfl) ?_)))))))))))
      refine WJ.nil ?_
      refine Nn ?_
      refine WX.joinP (()) (S3 rfl rfl rfl) (by refine (Sc ?_ (S0 _)) <;> ((exact congrArg (fun b => some (Value.bool b)) (by symm; apply decide_eq_false; omega)))) ?_ (by (exact fun _ h => h))
      (try dsimp only)
      done
  ·rintro _ hmeet; (try dsimp only at hmeet ⊢)
   refine Cd rfl (fun hc40 => ?_) (fun hc40 => ?_)
   ·(try simp only [sB] at hc40)
    have hn : cz 1 l n = false := by rw [← he, decide_eq_false hc40]; rfl
    refine Cs (Ka rfl (Nt (Ce (Xf (Xb (Xb (Xf (Xb ?_))))))))
    exact R1 rfl rfl (by rw [hn]; rfl)
   ·(try simp only [sB] at hc40)
    have hy2 := Decidable.not_not.1 hc40
    refine Ck (Xd (Xa (Cg (Km rfl (Kq rfl (Rz rfl rfl rfl (by omega)) (Ka rfl (Nn ?_)))))))
    refine Ly ((i + 1, y)) (by (try dsimp only); omega) (S2 rfl rfl) (by refine (Sc ?_ (S0 _)) <;> (rfl)) ?_ (by (exact fun _ h => h))
    (try dsimp only)
    exact ⟨hil, by rw [← he, decide_eq_true hy2]; rfl, by omega, fun h => by omega, fun _ => ⟨by rw [show y = _ from hy]; rfl, by omega⟩⟩
 ·(try simp only [sB] at hc9)
  refine Cx (Xc (Xc (Xe ?_)))
  obtain rfl : i = l.length := by omega
  have hn : cz 1 l n = true := by rw [← he, List.drop_length]; rfl
  refine Xa (Cs (Ka rfl (Nt (Ce ?_))))
  exact R1 rfl rfl (by rw [hn]; rfl)
abbrev qR (l : List Nat) : List Value := l.map fun i : Nat => Value.int .i64 (i : Int)
theorem sV (l : List Nat) (i : Nat) : qR (l ++ [i]) = qR l ++ [Value.int .i64 (i : Int)] := by simp only [qR, List.map_append, List.map_cons, List.map_nil]
theorem lj (d : List Int) (i : Nat) : aM d (i + 1) = if d.contains (i : Int) then aM d i else aM d i ++ [i] := by
 rw [aM, List.range_succ, List.filter_append, List.filter_cons]
 cases d.contains (i : Int) <;> simp [aM]
theorem s3 {d : List Int} {k : Nat} (h : k < d.length) (x : Int) : x ∈ d.take (k + 1) ↔ (x ∈ d.take k ∨ d.getD k default = x) := by
 rw [aS h, List.mem_append, List.mem_singleton, eq_comm (a := x)]
theorem xp {d : List Int} {n : Nat} {a : Option Addr} {c : Nat} {w : World} {ok : Nat → Prop} (hF1 : (Fact.sl a (dW d)).holds ok w) (hl : d.length ≤ 140737488351232) (hn : n ≤ 1000000) :
  Calls Tryz.prog 66 #[.slice a d.length c, .int .i64 (n : Int)] w fun e w' => ∃ g : Rs, e = .returned (g.val (aM d n).length) ∧ g.cap = (aM d n).length + g.sp.length ∧ St (fun _ => True) w [g.ent (qR (aM d n)) 3] [] w' := by
 refine En [Fact.sl a (dW d)] [(0, .slice a d.length c), (1, .int .i64 (n : Int))] Tryz.func66 rfl Tryz.ntmps66 rfl (Ac rfl (Ac rfl (An _))) (Fc (ah hF1) Fn) ?_
 refine Cs (Ka rfl (Nt (Cs (Ka rfl (Nt (Cq (Cs (Ka rfl (Nt (Cb ?_))))))))))
 refine Lo (σ := Nat × (Option Nat) × Nat × (List Value)) [(0, _), (1, _)] (fun gq => [(6, .int .i64 (gq.1 : Int)), (5, .slice (gq.2.1.map fun b => ⟨b, 0, none⟩) (aM d gq.1).length gq.2.2.1)]) (fun gq => gq.1 ≤ n ∧ gq.2.2.1 = (aM d gq.1).length + gq.2.2.2.length) (fun gq => n - gq.1) (fun gq => [⟨gq.2.1, qR (aM d gq.1) ++ gq.2.2.2, 3⟩]) (fun gq => [Fact.sl a (dW d)]) (0, none, 0, []) (S2 rfl rfl) (S2 rfl rfl) (by (try dsimp only); exact ⟨Nat.zero_le _, rfl⟩) (by exact fun w h => h.nil _) ?_
 rintro ⟨i, o, cp, sp⟩ hinv1; (try dsimp only at hinv1 ⊢)
 obtain ⟨hi, hcp⟩ := hinv1
 refine Cq (Cs (Km rfl (Km rfl (Yl rfl (Nt ?_)))))
 refine Cd rfl (fun hc11 => ?_) (fun hc11 => ?_)
 ·(try simp only [sB] at hc11)
  have hil : i < n := by omega
  have hhl := mC d i
  refine Ck (Xa (Cq (Cb (Cs (Ka rfl (Nt (Cq (Cs (Ka rfl (Nt (Cb ?_)))))))))))
  refine Lp (σ := Nat) [(0, _), (1, _), (5, _), (6, _)] (fun gq => [(8, .int .i64 (gq : Int)), (7, .bool (decide ((i : Int) ∈ d.take gq)))]) (fun gq => gq ≤ d.length) (fun gq => d.length - gq) (0) (S4 rfl rfl rfl rfl) (S2 rfl rfl) (by (try dsimp only); omega) ?_
  rintro k hinv2; (try dsimp only at hinv2 ⊢)
  obtain hk := hinv2
  refine Cq (Cs (Km rfl (Km rfl (Yo rfl u38 (Yl rfl (Nt ?_))))))
  refine Cd rfl (fun hc17 => ?_) (fun hc17 => ?_)
  ·(try simp only [sB] at hc17)
   have hkl : k < d.length := by omega
   have hcs := s3 hkl (i : Int)
   refine Ck (Xa ?_)
   refine WC.joinP (σ := Unit) [(0, _), (1, _), (5, _), (6, _), (8, _)] (fun gq => [(7, .bool (decide ((i : Int) ∈ d.take (k + 1))))]) (fun gq => True) (S5 rfl rfl rfl rfl rfl) ?_ ?_
   ·skip
    refine Cb (Cg (Km rfl (Km rfl ?_)))
    refine Nb 21 rfl (fun hg21 => ?_) (fun hg21 => ?_)
    ·(try simp only [sB] at hg21)
     refine Kt rfl (Kt rfl (Kt rfl (Kt rfl (Kt rfl (Kt rfl (Yp rfl (Ka rfl (Nn (Xd ?_)))))))))
     refine WX.joinP (()) (S5 rfl rfl rfl rfl rfl) (by refine (Sc ?_ (S0 _)) <;> ((refine ai rfl ?_; (try dsimp only); (simp [*]; done)))) ?_ (by (exact fun _ h => h))
     (try dsimp only)
     done
    ·(try simp only [sB] at hg21)
     refine Km rfl (Km rfl ?_)
     refine Kq rfl (Ib rfl rfl rfl u38 (by omega) (by (rw [List.length_map]; omega))) ?_
     refine Kq rfl (ldm rfl rfl u3 rfl (by assumption)) ?_
     refine Km rfl (Yi rfl (Yq rfl (Ka rfl (Nn (Xd ?_)))))
     refine WX.joinP (()) (S5 rfl rfl rfl rfl rfl) (by refine (Sc ?_ (S0 _)) <;> ((refine ai rfl ?_; (try dsimp only); (simp [*]; done)))) ?_ (by (exact fun _ h => h))
     (try dsimp only)
     done
   ·rintro _ hmeet; (try dsimp only at hmeet ⊢)
    refine Cg (Km rfl (Kq rfl (Rz rfl rfl rfl (by omega)) (Ka rfl (Nn ?_))))
    refine Ly (k + 1) (by (try dsimp only); omega) (S4 rfl rfl rfl rfl) (by refine (Sc ?_ (Sc ?_ (S0 _))) <;> (rfl)) ?_ (by (exact fun _ h => h))
    (try dsimp only)
    omega
  ·(try simp only [sB] at hc17)
   refine Cx (Xc (Xc (Xe ?_)))
   obtain rfl : k = d.length := by omega
   rw [List.take_length]
   refine Xa (Cs (Km rfl (Yt rfl (Nt ?_))))
   refine Cd rfl (fun hc30 => ?_) (fun hc30 => ?_)
   ·(try simp only [sB] at hc30)
    have hct : d.contains (i : Int) = false := by rw [List.contains_eq_mem]; exact decide_eq_false (by simpa using hc30)
    have hsu : aM d (i + 1) = aM d i ++ [i] := by rw [lj, if_neg (by rw [hct]; decide)]
    refine Cg (Km rfl (Km rfl ?_))
    refine Kh rfl (aR rfl rfl u38 (by kernel_rfl : _ = some (some (.int .i64 0), 1, 8)) rfl (by simp only [List.map]; rfl) rfl rfl ?_ (by decide)) ?_
    ·simp [Value.cells]
    intro b33
    refine Kh rfl (oR rfl u38 (by kernel_rfl : _ = some (some (.int .i64 0), 1, 8)) rfl .tc rfl rfl (fun w hS => by (exact hS.os)) (by rfl) (by (refine ⟨?_, ?_, ?_, ?_⟩ <;> (try simp) <;> omega)) (by (simp [Value.oneCell']; done))) ?_
    rintro ⟨o34, c34, s34⟩
    refine WL.pu ?_
    intro hg34; (try dsimp only at hg34 ⊢)
    refine Ns 34 rfl (v' := .slice (o34.map fun b => ⟨b, 0, none⟩) (aM d (i + 1)).length c34) (by (rw [hsu, List.length_append]; rfl)) ?_
    refine Ka rfl (Nn (Xd (Xa (Cg (Km rfl (Kq rfl (Rz rfl rfl rfl (by omega)) (Ka rfl (Nn ?_))))))))
    refine Lx ((i + 1, o34, c34, s34)) (by (try dsimp only); omega) (S2 rfl rfl) (by refine (Sc ?_ (Sc ?_ (S0 _))) <;> (rfl)) ?_ (by exact fun w h => by dsimp only; rw [hsu, sV]; exact aq _ h)
    (try dsimp only)
    exact ⟨hil, by rw [hsu, List.length_append]; simpa using hg34⟩
   ·(try simp only [sB] at hc30)
    have hct : d.contains (i : Int) = true := List.contains_iff_mem.2 (by simpa using hc30)
    have hsu : aM d (i + 1) = aM d i := by rw [lj, if_pos hct]
    refine WC.set 5 rfl (v' := .slice (o.map fun b => ⟨b, 0, none⟩) (aM d (i + 1)).length cp) (by rw [hsu]) ?_
    refine Ck (Xd (Xa (Cg (Km rfl (Kq rfl (Rz rfl rfl rfl (by omega)) (Ka rfl (Nn ?_)))))))
    refine Lx ((i + 1, o, cp, sp)) (by (try dsimp only); omega) (S2 rfl rfl) (by refine (Sc ?_ (Sc ?_ (S0 _))) <;> (rfl)) ?_ (by exact fun w h => by dsimp only; rw [hsu]; exact aq _ h)
    (try dsimp only)
    exact ⟨hil, by rw [hsu]; exact hcp⟩
 ·(try simp only [sB] at hc11)
  refine Cx (Xc (Xc (Xe ?_)))
  obtain rfl : i = n := by omega
  refine Xa (Cs (Km rfl (Ka rfl (Nt (Ce ?_)))))
  exact Rn rfl (.tmp rfl .nil) fun w' hS => ⟨⟨o, cp, sp⟩, rfl, hcp, aq _ hS⟩
theorem n5 {x : Bs} {w : World} :
  Cw 23 #[.string (S x)] w (zV (false, x)) := by
 refine En [] [(0, .string (S x))] Tryz.func23 rfl Tryz.ntmps23 rfl (Ac rfl (An _)) Fn ?_
 refine Cs ?_
 refine Kh rfl (Oz [.bool false, .string (S [])] rfl) ?_
 intro b2
 refine Nt (Cs (Km rfl (Kq rfl (Kb [[.bool false], [.string (S [])]] rfl rfl) ?_)))
 refine Nu rfl rfl (Sa rfl rfl rfl .tc) ?_
 refine Nt (Ce ?_)
 exact Rn rfl (.agg rfl .tc u37 rfl (by kernel_rfl) .nil) fun w' hS => ⟨by rfl, hS.below⟩
theorem sk {p : PR} {sg : SG} {v : Zs} {ms : List Bs} {d : List Int} {am b : Option Addr} {c e : Nat} {w : World} {ok : Nat → Prop} (hF1 : (Fact.sl am (ao ms)).holds ok w) (hF2 : (Fact.sl b (dW d)).holds ok w) (hm8 : p.mn.1.1.length ≤ 8) (hml : ms.length ≤ 140737488351232) (hdl : d.length ≤ 140737488351232) :
  Calls Tryz.prog 20 #[prV p, sgV sg, zV v, .slice am ms.length c, .slice b d.length e] w fun e w' => ∃ gx : Rs, e = .returned (.tuple #[gx.val (wiS p sg v ms d).1.length, .int .i64 (wiS p sg v ms d).2]) ∧ (True) ∧ Below w.heap.size w w' ∧ ∀ x ∈ ([Fact.sl gx.a (aW (wiS p sg v ms d).1)] : List Fact), x.holds (fun b => w.heap.size ≤ b) w' := by
 refine En [Fact.sl am (ao ms), Fact.sl b (dW d)] [(0, prV p), (1, sgV sg), (2, zV v), (3, .slice am ms.length c), (4, .slice b d.length e)] Tryz.func20 rfl Tryz.ntmps20 rfl (Ac rfl (Ac rfl (Ac rfl (Ac rfl (Ac rfl (An _)))))) (Fc (ah hF1) (Fc (ah hF2) Fn)) ?_
 refine Cs ?_
 refine Kh rfl (Oy rfl rfl) ?_
 intro b5
 refine Kh rfl (Oy rfl rfl) ?_
 intro b6
 refine Kh rfl (Oy rfl rfl) ?_
 intro b7
 refine Ka rfl (Ka rfl (Nt (Cq (Cs ?_))))
 refine Kq rfl (lda rfl rfl .tc u30 rfl ?_) ?_
 ·kernel_rfl
 refine Ku rfl (Oc rfl rfl (Kv fun w hS => n3 (p := p) (by assumption))) ?_
 refine Ka rfl (Nt (Cs (Km rfl (Yj rfl (Nt ?_)))))
 refine Cd rfl (fun hc22 => ?_) (fun hc22 => ?_)
 ·(try simp only [sB] at hc22)
  have hr : wiS p sg v ms d = ([], cx p) := by rw [wiS, if_pos (by simpa using hc22)]
  refine Cs (Km rfl (Ka rfl (Ka rfl (Nt (Ce (Xb ?_))))))
  exact Rn rfl (.tmp rfl (.tmp rfl .nil)) fun w' hS => ⟨⟨none, 0, []⟩, by rw [hr]; rfl, trivial, hS.below, by rw [hr]; exact Fc bt Fn⟩
 ·(try simp only [sB] at hc22)
  have h0 : cx p = 0 := by simpa using hc22
  refine Ck (Xa (Cq ?_))
  refine WC.joinP (σ := Unit) [(3, _), (4, _), (5, _), (6, _), (7, _)] (fun gq => [(44, .bool (decide (¬ (okN sg.a ∧ okN sg.e ∧ okN sg.v ∧ okZ v))))]) (fun gq => True) (S5 rfl rfl rfl rfl rfl) ?_ ?_
  ·skip
   refine Cg (Kq rfl (Fa (q := 0) rfl rfl u35 rfl rfl) (Kq rfl (Ld rfl rfl .tc u22) ?_))
   refine Ku rfl (Oc rfl rfl (Kv fun w hS => aA (a := sg.a))) ?_
   refine Yt rfl (Km rfl ?_)
   refine Nb 28 rfl (fun hg28 => ?_) (fun hg28 => ?_)
   ·(try simp only [sB] at hg28)
    refine Kt rfl (Kt rfl (Kt rfl (Kt rfl (Yp rfl (Km rfl (Kt rfl (Kt rfl (Kt rfl (Kt rfl (Yp rfl (Km rfl (Kt rfl (Kt rfl (Kt rfl (Yp rfl (Nn ?_))))))))))))))))
    refine WX.joinP (()) (S5 rfl rfl rfl rfl rfl) (by refine (Sc ?_ (S0 _)) <;> ((refine ai rfl ?_; (try dsimp only); (simp [*]; done)))) ?_ (by (exact fun _ h => h))
    (try dsimp only)
    done
   ·(try simp only [sB] at hg28)
    refine Kq rfl (Fa (q := 1) rfl rfl u35 rfl rfl) (Kq rfl (Ld rfl rfl .tc u22) ?_)
    refine Ku rfl (Oc rfl rfl (Kv fun w hS => aA (a := sg.e))) ?_
    refine Yt rfl (Yq rfl (Km rfl ?_))
    refine Nb 34 rfl (fun hg34 => ?_) (fun hg34 => ?_)
    ·(try simp only [sB] at hg34)
     refine Kt rfl (Kt rfl (Kt rfl (Kt rfl (Yp rfl (Km rfl (Kt rfl (Kt rfl (Kt rfl (Yp rfl (Nn ?_))))))))))
     refine WX.joinP (()) (S5 rfl rfl rfl rfl rfl) (by refine (Sc ?_ (S0 _)) <;> ((refine ai rfl ?_; (try dsimp only); (simp [*]; done)))) ?_ (by (exact fun _ h => h))
     (try dsimp only)
     done
    ·(try simp only [sB] at hg34)
     refine Kq rfl (Fa (q := 2) rfl rfl u35 rfl rfl) (Kq rfl (Ld rfl rfl .tc u22) ?_)
     refine Ku rfl (Oc rfl rfl (Kv fun w hS => aA (a := sg.v))) ?_
     refine Yt rfl (Yq rfl (Km rfl ?_))
     refine Nb 40 rfl (fun hg40 => ?_) (fun hg40 => ?_)
     ·(try simp only [sB] at hg40)
      refine Kt rfl (Kt rfl (Kt rfl (Yp rfl (Nn ?_))))
      refine WX.joinP (()) (S5 rfl rfl rfl rfl rfl) (by refine (Sc ?_ (S0 _)) <;> ((refine ai rfl ?_; (try dsimp only); (simp [*]; done)))) ?_ (by (exact fun _ h => h))
      (try dsimp only)
      done
     ·(try simp only [sB] at hg40)
      refine Kq rfl (lda rfl rfl .tc u37 rfl ?_) ?_
      ·kernel_rfl
      refine Ku rfl (Oc rfl rfl (Kv fun w hS => dG (x := v))) ?_
      refine Yt rfl (Yq rfl (Nn ?_))
      refine WX.joinP (()) (S5 rfl rfl rfl rfl rfl) (by refine (Sc ?_ (S0 _)) <;> ((refine ai rfl ?_; (try dsimp only); (simp [*]; done)))) ?_ (by (exact fun _ h => h))
      (try dsimp only)
      done
  ·rintro _ hmeet; (try dsimp only at hmeet ⊢)
   refine Cd rfl (fun hc44 => ?_) (fun hc44 => ?_)
   ·(try simp only [sB] at hc44)
    have hr : wiS p sg v ms d = ([], 3) := by rw [wiS, if_neg (fun h => h h0), if_pos (fun h => hc44 ⟨h.1.1, h.1.2.1, h.1.2.2, h.2.1⟩)]
    refine Cs (Ka rfl (Ka rfl (Nt (Ce (Xb ?_)))))
    exact Rn rfl (.tmp rfl (.tmp rfl .nil)) fun w' hS => ⟨⟨none, 0, []⟩, by rw [hr]; rfl, trivial, hS.below, by rw [hr]; exact Fc bt Fn⟩
   ·(try simp only [sB] at hc44)
    have hok4 := Decidable.not_not.1 hc44
    refine Ck (Xa (Cq (Cs (Ka rfl (Nt (Cb ?_))))))
    refine Lp (σ := Nat) [(3, _), (4, _), (5, _), (6, _), (7, _)] (fun gq => [(13, .int .i64 (gq : Int))]) (fun gq => gq ≤ ms.length ∧ ∀ x ∈ ms.take gq, okN x) (fun gq => ms.length - gq) (0) (S5 rfl rfl rfl rfl rfl) (S1 rfl) (by (try dsimp only); exact ⟨Nat.zero_le _, by simp⟩) ?_
    rintro i hinv1; (try dsimp only at hinv1 ⊢)
    obtain ⟨hi, hok⟩ := hinv1
    refine Cq (Cs (Km rfl (Km rfl (Yo rfl u31 (Yl rfl (Nt ?_))))))
    refine Cd rfl (fun hc48 => ?_) (fun hc48 => ?_)
    ·(try simp only [sB] at hc48)
     have hil : i < ms.length := by omega
     refine Ck (Xa (Cq (Cb (Cs (Km rfl (Km rfl ?_))))))
     refine Kq rfl (Ib rfl rfl rfl u31 (by omega) (by (rw [List.length_map]; omega))) ?_
     refine Kq rfl (ldm rfl rfl u22 rfl (by assumption)) ?_
     refine Ku rfl (Oc rfl rfl (Kv fun w hS => aA (a := ms.getD i default))) ?_
     refine Yt rfl (Nt ?_)
     refine Cd rfl (fun hc56 => ?_) (fun hc56 => ?_)
     ·(try simp only [sB] at hc56)
      have hr : wiS p sg v ms d = ([], 3) := by rw [wiS, if_neg (fun h => h h0), if_pos (fun h => (by simpa using hc56 : ¬ okN (ms.getD i default)) (h.2.2 _ (ap ms i hil)))]
      refine Cs (Ka rfl (Ka rfl (Nt (Ce (Xf (Xb (Xb (Xf (Xb ?_)))))))))
      exact Rn rfl (.tmp rfl (.tmp rfl .nil)) fun w' hS => ⟨⟨none, 0, []⟩, by rw [hr]; rfl, trivial, hS.below, by rw [hr]; exact Fc bt Fn⟩
     ·(try simp only [sB] at hc56)
      have hyy : okN (ms.getD i default) := by simpa using hc56
      refine Ck (Xd (Xa (Cg (Km rfl (Kq rfl (Rz rfl rfl rfl (by omega)) (Ka rfl (Nn ?_)))))))
      refine Ly (i + 1) (by (try dsimp only); omega) (S5 rfl rfl rfl rfl rfl) (by refine (Sc ?_ (S0 _)) <;> (rfl)) ?_ (by (exact fun _ h => h))
      (try dsimp only)
      exact ⟨hil, ay hil hok hyy⟩
    ·(try simp only [sB] at hc48)
     refine Cx (Xc (Xc (Xe ?_)))
     obtain rfl : i = ms.length := by omega
     rw [List.take_length] at hok
     have hok2 : (okN sg.a ∧ okN sg.e ∧ okN sg.v) ∧ okZ v ∧ ∀ x ∈ ms, okN x := ⟨⟨hok4.1, hok4.2.1, hok4.2.2.1⟩, hok4.2.2.2, hok⟩
     refine Xa (Cq ?_)
     refine WC.joinP (σ := Unit) [(3, _), (4, _), (5, _), (6, _), (7, _)] (fun gq => [(64, .bool (decide (ms.length < 2 ∨ 18 < ms.length)))]) (fun gq => True) (S5 rfl rfl rfl rfl rfl) ?_ ?_
     ·skip
      refine Cg (Km rfl (Yo rfl u31 (Yl rfl (Km rfl ?_))))
      refine Nb 60 rfl (fun hg60 => ?_) (fun hg60 => ?_)
      ·(try simp only [sB] at hg60)
       refine Kt rfl (Kt rfl (Kt rfl (Yp rfl (Nn ?_))))
       refine WX.joinP (()) (S5 rfl rfl rfl rfl rfl) (by refine (Sc ?_ (S0 _)) <;> ((exact congrArg (fun b => some (Value.bool b)) (by symm; apply decide_eq_true; omega)))) ?_ (by (exact fun _ h => h))
       (try dsimp only)
       done
      ·(try simp only [sB] at hg60)
       refine Km rfl (Yo rfl u31 (Yg rfl (Yq rfl (Nn ?_))))
       refine WX.joinP (()) (S5 rfl rfl rfl rfl rfl) (by refine (Sc ?_ (S0 _)) <;> ((refine ai rfl ?_; (try dsimp only); (exact decide_eq_decide.2 (by omega))))) ?_ (by (exact fun _ h => h))
       (try dsimp only)
       done
     ·rintro _ hmeet; (try dsimp only at hmeet ⊢)
      refine Cd rfl (fun hc64 => ?_) (fun hc64 => ?_)
      ·(try simp only [sB] at hc64)
       have hr : wiS p sg v ms d = ([], 6) := by rw [wiS, if_neg (fun h => h h0), if_neg (fun h => h hok2), if_pos hc64]
       refine Cs (Ka rfl (Ka rfl (Nt (Ce (Xb ?_)))))
       exact Rn rfl (.tmp rfl (.tmp rfl .nil)) fun w' hS => ⟨⟨none, 0, []⟩, by rw [hr]; rfl, trivial, hS.below, by rw [hr]; exact Fc bt Fn⟩
      ·(try simp only [sB] at hc64)
       refine Ck (Xa (Cq (Cs (Km rfl (Km rfl (Yo rfl u31 ?_))))))
       refine Ku rfl (Oc rfl rfl (Kv fun w hS => xn (l := d) (n := (ms.length : Int)) (by (exact hS.sl)) (by assumption))) ?_
       refine Yt rfl (Nt ?_)
       refine Cd rfl (fun hc69 => ?_) (fun hc69 => ?_)
       ·(try simp only [sB] at hc69)
        have hasc : cz 1 d ms.length = false := by simpa using hc69
        have hr : wiS p sg v ms d = ([], 2) := by rw [wiS, if_neg (fun h => h h0), if_neg (fun h => h hok2), if_neg hc64, if_pos hasc]
        refine Cs (Ka rfl (Ka rfl (Nt (Ce (Xb ?_)))))
        exact Rn rfl (.tmp rfl (.tmp rfl .nil)) fun w' hS => ⟨⟨none, 0, []⟩, by rw [hr]; rfl, trivial, hS.below, by rw [hr]; exact Fc bt Fn⟩
       ·(try simp only [sB] at hc69)
        have hasc : cz 1 d ms.length = true := by simpa using hc69
        have hr : wiS p sg v ms d = (wlS p sg v ms (aM d ms.length), 0) := by rw [wiS, if_neg (fun h => h h0), if_neg (fun h => h hok2), if_neg hc64, if_neg (by rw [hasc]; decide)]
        have ee : aF sg.e = (false, sg.e) := dt hok4.2.1
        have el : aF p.lo = (false, p.lo) := dt ((gk h0).1.1 _ (by simp))
        have hhl := mC d ms.length
        have hm18 : ms.length ≤ 18 := by omega
        refine Ck (Xa (Cq ?_))
        refine WC.free (K := [⟨some b6, [.string (S sg.a), .string (S sg.e), .string (S sg.v)], 35⟩, ⟨some b5, prC p, 30⟩]) (fs0 := []) [0, 1, 2, 3, 4, 5, 6, 7, 8, 10, 11, 9, 12] [] [0, 0, 1, 0, 0, 1, 1, 0, 0, 0, 3, 1, 0] (by kernel_rfl) (by kernel_rfl) rfl ?_
        refine Kj rfl (Fa (q := 1) rfl rfl u35 rfl rfl) (Kj rfl (Ld rfl rfl .tc u22) ?_)
        refine Jv rfl rfl rfl rfl rfl (fun ext => Oc rfl rfl (Kv fun w hS => (by have := n5 (w := w) (x := sg.e); rw [← ee] at this; exact this))) ?_
        refine Kj rfl (Fa (q := 13) rfl rfl u30 rfl rfl) (Kj rfl (Ld rfl rfl .tc u22) ?_)
        refine Jv rfl rfl rfl rfl rfl (fun ext => Oc rfl rfl (Kv fun w hS => (by have := n5 (w := w) (x := p.lo); rw [← el] at this; exact this))) ?_
        refine Jv rfl rfl rfl rfl rfl (fun ext => Oc rfl rfl (Kv fun w hS => uQ (x := aF sg.e) (y := aF p.lo))) ?_
        refine Kj rfl (Rm rfl rfl) (Kj rfl (Re rfl rfl rfl) ?_)
        refine Jf rfl rfl rfl rfl rfl (du rfl (v := (.agg #[.bool false, .string (S [])])) (cs := [.bool false, .string (S [])]) (by kernel_rfl) rfl) ?_
        intro b14
        refine WJ.st rfl rfl rfl rfl (lS rfl rfl rfl ?_ ?_ ?_) ?_
        ·kernel_rfl
        ·simp [Value.oneCell']
        ·rfl
        refine Kj rfl (Re rfl rfl rfl) (Kj rfl (Ra rfl rfl) ?_)
        refine WJ.nil ?_
        refine Nt (Cs ?_)
        refine Kq rfl (lda rfl rfl .tc u37 rfl ?_) ?_
        ·kernel_rfl
        refine Kq rfl (lda rfl rfl .tc u37 rfl ?_) ?_
        ·kernel_rfl
        refine Kh rfl (fE rfl rfl u39 (by kernel_rfl : _ = some (some (.agg #[.bool false, .string (S [])]), 2, 24)) (by kernel_rfl) (by decide) rfl rfl (by (simp [Value.cells]; done)) (by (simp only [List.map, Value.cells, List.flatMap_cons, List.flatMap_nil, List.append_nil, List.toList_toArray]; rfl)) (by decide)) ?_
        intro b82
        refine Ka rfl (Nt (Cs (Km rfl (Km rfl (Yo rfl u31 ?_)))))
        refine Kh rfl (Oc rfl rfl (f8 fun w hS => xp (d := d) (n := ms.length) (by (exact hS.sl)) (by assumption) (by omega))) ?_
        intro g86
        refine WL.pu ?_
        intro hg86; (try dsimp only at hg86 ⊢)
        refine Ka rfl (Nt (Cq (Cs (Ka rfl (Nt (Cb ?_))))))
        refine Lo (σ := Nat × (Option Nat) × Nat × (List Value)) [(3, _), (17, _)] (fun gq => [(18, .int .i64 (gq.1 : Int)), (16, .slice (gq.2.1.map fun b => ⟨b, 0, none⟩) (2 + gq.1) gq.2.2.1)]) (fun gq => gq.1 ≤ (aM d ms.length).length ∧ gq.2.2.1 * 2 = (2 + gq.1) * 2 + gq.2.2.2.length) (fun gq => (aM d ms.length).length - gq.1) (fun gq => [⟨gq.2.1, aW (wlS p sg v ms ((aM d ms.length).take gq.1)) ++ gq.2.2.2, 37⟩]) (fun gq => [Fact.sl g86.a (qR (aM d ms.length)), Fact.sl am (ao ms)]) (0, some b82, 2, []) (S2 rfl rfl) (S2 rfl rfl) (by (try dsimp only); exact ⟨Nat.zero_le _, rfl⟩) (by exact fun w h => by show St _ _ [⟨some b82, aW (wlS p sg v ms []) ++ [], _⟩] _ _; rw [oX]; exact aq _ h) ?_
        rintro ⟨j, o, cp, sp⟩ hinv2; (try dsimp only at hinv2 ⊢)
        obtain ⟨hj, hcp⟩ := hinv2
        refine Cq (Cs (Km rfl (Km rfl (Yo rfl u38 (Yl rfl (Nt ?_))))))
        refine Cd rfl (fun hc90 => ?_) (fun hc90 => ?_)
        ·(try simp only [sB] at hc90)
         have hjl : j < (aM d ms.length).length := by omega
         obtain ⟨y, hy⟩ : ∃ y, Keep (y = (aM d ms.length).getD j default) := ⟨_, rfl⟩
         have hyn : y < ms.length := by rw [show y = _ from hy]; exact pN (ap _ _ hjl)
         have ex : aF (ms.getD y default) = (false, ms.getD y default) := dt (hok _ (ap ms y hyn))
         have htk : (aM d ms.length).take (j + 1) = (aM d ms.length).take j ++ [y] := by rw [aS hjl, show y = _ from hy]
         have hln : (aW (wlS p sg v ms ((aM d ms.length).take j))).length = (2 + j) * 2 := by rw [aj _ _ 2 (fun _ => rfl), List.length_cons, List.length_cons, List.length_map, List.length_take]; omega
         refine Ck (Xa (Cq (Cb (Cg (Km rfl (Km rfl (Km rfl (Km rfl ?_))))))))
         refine Kq rfl (Ib rfl rfl rfl u38 (by omega) (by (rw [List.length_map]; omega))) ?_
         refine Kq rfl (ldm rfl rfl u3 rfl (by assumption)) ?_
         refine Ns 98 rfl (v' := .int .i64 ((y : Nat) : Int)) (congrArg (Value.int .i64) (by rw [show y = _ from hy])) ?_
         refine Kq rfl (Ib rfl rfl rfl u31 (by omega) (by (rw [List.length_map]; omega))) ?_
         refine Kq rfl (ldm rfl rfl u22 rfl (by assumption)) ?_
         refine Ku rfl (Oc rfl rfl (Kv fun w hS => (by have := n5 (w := w) (x := ms.getD y default); rw [← ex] at this; exact this))) ?_
         refine Kh rfl (fE rfl rfl u39 (by kernel_rfl : _ = some (some (.agg #[.bool false, .string (S [])]), 2, 24)) (by kernel_rfl) (by decide) rfl rfl (by (simp [Value.cells]; done)) (by (exact cu _)) (by decide)) ?_
         intro b102
         refine Kh rfl (ug rfl u39 (by kernel_rfl : _ = some (some (.agg #[.bool false, .string (S [])]), 2, 24)) (by kernel_rfl) (by decide) .tc rfl rfl (fun w hS => by (exact hS.os)) (by rfl) (by (refine ⟨hln, by omega, by omega, by omega⟩)) (by (simp [Value.oneCell']; done))) ?_
         rintro ⟨o103, c103, s103⟩
         refine WL.pu ?_
         intro hg103; (try dsimp only at hg103 ⊢)
         refine Ka rfl (Nn (Xd (Xa (Cg (Km rfl (Kq rfl (Rz rfl rfl rfl (by omega)) (Ka rfl (Nn ?_))))))))
         refine Lx ((j + 1, o103, c103, s103)) (by (try dsimp only); omega) (S2 rfl rfl) (by refine (Sc ?_ (Sc ?_ (S0 _))) <;> (rfl)) ?_ (by exact fun w h => by dsimp only; rw [htk, lP, nu]; exact aq _ h)
         (try dsimp only)
         exact ⟨hjl, by omega⟩
        ·(try simp only [sB] at hc90)
         refine Cx (Xc (Xc (Xe ?_)))
         obtain rfl : j = (aM d ms.length).length := by omega
         rw [List.take_length]
         have hwl : (wlS p sg v ms (aM d ms.length)).length = 2 + (aM d ms.length).length := by simp [wlS]; omega
         refine Xa (Cs (Km rfl (Ka rfl (Ka rfl (Nt (Ce ?_))))))
         exact Rn rfl (.tmp rfl (.tmp rfl .nil)) fun w' hS => ⟨⟨o, cp, sp⟩, by rw [hr]; dsimp only; rw [hwl]; rfl, trivial, hS.below, by rw [hr]; exact Fc hS.ocf Fn⟩
def ik0 : IK := ⟨[], ([], []), [], [], [], [], []⟩
theorem vV {p : PR} {k : IK} (h : kt p k = true) : p.mn.1.1.length ≤ 8 ∧ k.g.1.length ≤ 8 ∧ k.r.length ≤ 8 ∧ k.name.length ≤ 60 := by
 simp only [kt, Bool.and_eq_true, decide_eq_true_eq, Bool.not_eq_true', List.any_eq_false] at h
 obtain ⟨h1, h2, h3⟩ := h
 have m1 := h3 p.mn.1.1 (by simp [fL, gt, pk4])
 have m2 := h3 k.g.1 (by simp [fL])
 omega
theorem w3 (p : PR) (s : SG) (v : Zs) (ms : List Bs) (d : List Int) : (wiS p s v ms d).1.length ≤ 2 + ms.length := by
 have hh : (aM d ms.length).length ≤ ms.length := by
  have := List.length_filter_le (fun i : Nat => !(d.contains (i : Int))) (List.range ms.length)
  rw [List.length_range] at this; exact this
 unfold wiS
 split
 ·simp
 ·split
  ·simp
  ·split
   ·simp
   ·split
    ·simp
    ·simp; omega
theorem shwits_l {p : PR} {q : CS} {ma da va za xa : Option Addr} {mc dc vc zc' xc : Nat} {w : World} {ok : Nat → Prop} (hF1 : (Fact.sl ma (ao q.ms)).holds ok w) (hF2 : (Fact.sl da (dW q.d)).holds ok w) (hF3 : (Fact.sl va (ao q.vs)).holds ok w) (hF4 : (Fact.sl za (aW q.ws)).holds ok w) (hF5 : (Fact.sl xa (ao q.t.vals)).holds ok w) (hm : q.ms.length ≤ 1048576) (hd : q.d.length ≤ 1048576) (hv : q.vs.length ≤ 1048576) (hz : q.ws.length ≤ 1048576) (hx : q.t.vals.length ≤ 1048576) (hT : Tab w) (hD : TabD w) :
  Cw 5 #[prV p, csV q (.slice ma q.ms.length mc) (.slice da q.d.length dc) (.slice va q.vs.length vc) (.slice za q.ws.length zc') (.slice xa q.t.vals.length xc)] w (.bool true) := by
 refine En [Fact.sl ma (ao q.ms), Fact.sl da (dW q.d), Fact.sl va (ao q.vs), Fact.sl za (aW q.ws), Fact.sl xa (ao q.t.vals)] [(0, prV p), (1, csV q (.slice ma q.ms.length mc) (.slice da q.d.length dc) (.slice va q.vs.length vc) (.slice za q.ws.length zc') (.slice xa q.t.vals.length xc))] Tryz.func5 rfl Tryz.ntmps5 rfl (Ac rfl (Ac rfl (An _))) (Fc (ah hF1) (Fc (ah hF2) (Fc (ah hF3) (Fc (ah hF4) (Fc (ah hF5) Fn))))) ?_
 refine Cs ?_
 refine Kh rfl (Oy rfl rfl) ?_
 intro b2
 refine Kh rfl (Oy rfl rfl) ?_
 intro b3
 refine Ka rfl (Nt (Cq ?_))
 refine WC.joinP (σ := Unit) [(2, _), (3, _)] (fun gq => [(17, .bool (decide (¬ (kt p ik0 = true ∧ fT q))))]) (fun gq => True) (S2 rfl rfl) ?_ ?_
 ·skip
  refine Cg ?_
  refine Kq rfl (lda rfl rfl .tc u30 rfl ?_) ?_
  ·kernel_rfl
  refine Kq rfl (Kb [[.string (S [])], [.string (S []), .string (S [])], [.string (S [])], [.string (S [])], [.slice none 0 0], [.string (S [])], [.string (S [])]] rfl rfl) ?_
  refine Ku rfl (Oc rfl rfl (Kv fun w hS => vT (p := p) (k := ik0) (a := none) (c := 0) (by (exact xi)) (by exact Nat.zero_le _))) ?_
  refine Yt rfl (Km rfl ?_)
  refine Nb 13 rfl (fun hg13 => ?_) (fun hg13 => ?_)
  ·(try simp only [sB] at hg13)
   refine Kt rfl (Kt rfl (Kt rfl (Yp rfl (Nn ?_))))
   refine WX.joinP (()) (S2 rfl rfl) (by refine (Sc ?_ (S0 _)) <;> ((refine ai rfl ?_; (try dsimp only); (simp [*]; done)))) ?_ (by (exact fun _ h => h))
   (try dsimp only)
   done
  ·(try simp only [sB] at hg13)
   refine Kq rfl (lda rfl rfl .tc u43 rfl ?_) ?_
   ·kernel_rfl
   refine Ku rfl (Oc rfl rfl (Kv fun w hS => qs (q := q) (by (exact hS.sl)) (by (exact hS.sl)) (by (exact hS.sl)) (by (exact hS.sl)) (by (exact hS.sl)) (by assumption) (by assumption) (by assumption) (by assumption) (by assumption))) ?_
   refine Yt rfl (Yq rfl (Nn ?_))
   refine WX.joinP (()) (S2 rfl rfl) (by refine (Sc ?_ (S0 _)) <;> ((refine ai rfl ?_; (try dsimp only); (simp [*]; done)))) ?_ (by (exact fun _ h => h))
   (try dsimp only)
   done
 ·rintro _ hmeet; (try dsimp only at hmeet ⊢)
  refine Cd rfl (fun hc17 => ?_) (fun hc17 => ?_)
  ·(try simp only [sB] at hc17)
   refine Cs ?_
   refine Ku rfl (Oc rfl rfl (Kv fun w hS => lG (by (exact eP hT hS)) (by (exact bn hD hS)))) ?_
   refine Ka rfl (Nt (Ce (Xb ?_)))
   exact R1 rfl rfl (by rfl)
  ·(try simp only [sB] at hc17)
   obtain ⟨hfw, hsm⟩ := Decidable.not_not.1 hc17
   have hm8 := (vV hfw).1
   have hms := hsm.1
   have hl := w3 p q.sg q.wv q.ms q.d
   refine Ck (Xa (Cs ?_))
   refine Kq rfl (lda rfl rfl .tc u30 rfl ?_) ?_
   ·kernel_rfl
   refine Kq rfl (Fa (q := 0) rfl rfl u43 rfl rfl) ?_
   refine Kq rfl (ldp rfl rfl .tc u35 rfl (by kernel_rfl : _ = some 3) (by rfl) (by rfl)) ?_
   refine Kq rfl (Fa (q := 4) rfl rfl u43 rfl rfl) ?_
   refine Kq rfl (ldp rfl rfl .tc u37 rfl (by kernel_rfl : _ = some 2) (by rfl) (by rfl)) ?_
   refine Kq rfl (Fa (q := 6) rfl rfl u43 rfl rfl) (Kq rfl (Ld rfl rfl .tc u31) ?_)
   refine Kq rfl (Fa (q := 7) rfl rfl u43 rfl rfl) (Kq rfl (Ld rfl rfl .tc u38) ?_)
   refine Kh rfl (Oc rfl rfl (ie fun w hS => o5 (p := p) (sg := q.sg) (v := q.wv) (ms := q.ms) (d := q.d) (by (exact hS.sl)) (by (exact hS.sl)) (by assumption) (by omega) (by omega) (by (exact bn hD hS)))) ?_
   rintro g29
   refine WL.pu ?_
   intro hg29; (try dsimp only [List.cons_append, List.nil_append] at hg29 ⊢)
   refine Km rfl (Ye rfl (Ye rfl (Ka rfl (Ka rfl (Nt (Cs ?_))))))
   refine Kq rfl (lda rfl rfl .tc u30 rfl ?_) ?_
   ·kernel_rfl
   refine Kq rfl (Fa (q := 0) rfl rfl u43 rfl rfl) ?_
   refine Kq rfl (ldp rfl rfl .tc u35 rfl (by kernel_rfl : _ = some 3) (by rfl) (by rfl)) ?_
   refine Kq rfl (Fa (q := 4) rfl rfl u43 rfl rfl) ?_
   refine Kq rfl (ldp rfl rfl .tc u37 rfl (by kernel_rfl : _ = some 2) (by rfl) (by rfl)) ?_
   refine Kq rfl (Fa (q := 6) rfl rfl u43 rfl rfl) (Kq rfl (Ld rfl rfl .tc u31) ?_)
   refine Kq rfl (Fa (q := 7) rfl rfl u43 rfl rfl) (Kq rfl (Ld rfl rfl .tc u38) ?_)
   refine Kh rfl (Oc rfl rfl (ie fun w hS => sk (p := p) (sg := q.sg) (v := q.wv) (ms := q.ms) (d := q.d) (by (exact hS.sl)) (by (exact hS.sl)) (by assumption) (by omega) (by omega))) ?_
   rintro g42
   refine WL.pu ?_
   intro hg42; (try dsimp only [List.cons_append, List.nil_append] at hg42 ⊢)
   refine Km rfl (Ye rfl (Ye rfl (Ka rfl (Ka rfl (Nt (Cs (Km rfl (Km rfl ?_))))))))
   refine Ku rfl (Oc rfl rfl (Kv fun w hS => wR (l := (wiS p q.sg q.wv q.ms q.d).1) (m := (wiS p q.sg q.wv q.ms q.d).1) (by (exact hS.sl)) (by (exact hS.sl)) (by omega) (by omega))) ?_
   refine Km rfl ?_
   refine Ns 48 rfl (v' := .bool true) (by (exact congrArg Value.bool (by simp [*]; done))) ?_
   refine Km rfl (Km rfl (Yi rfl (Yp rfl (Km rfl ?_))))
   refine Ns 53 rfl (v' := .bool true) (by (exact congrArg Value.bool (by simp [*]; done))) ?_
   refine Ku rfl (Oc rfl rfl (Kv fun w hS => lG (by (exact eP hT hS)) (by (exact bn hD hS)))) ?_
   refine Yp rfl (Ka rfl (Nt (Ce ?_)))
   exact R1 rfl rfl (by rfl)
theorem laidVars_tail {P : Program} {w : World} {x : String × DataW Unit} {r : List (String × DataW Unit)} {ps : List MemPlace} (h : DataW.LaidVars P w (x :: r) ps) : ∃ q, DataW.LaidVars P w r q := by
 obtain ⟨n, d⟩ := x
 obtain ⟨g, t, cs, fuel, p, q, _, _, _, _, h, _⟩ := h
 exact ⟨q, h⟩
theorem tab_of_vars {P : Program} {W : World} {name : String} {k : IntKind} {zs : List Int} {rest : List (String × DataW Unit)} {ps : List MemPlace} {t e : TypeId} {n : Nat}
  (hty : ((P.globalNamed name).bind fun g => (P.globals[g]?).map (·.type)) = some t) (ht : P.underlying t = some (.array n e)) (he : P.underlying e = some (.int k)) (hce : P.cellsOf e = 1) (hct : P.cellsOf t = n)
  (h : DataW.LaidVars P W ((name, Lib.tabData k zs) :: rest) ps) : Lib.TabIs P W name k zs := by
 obtain ⟨g', t', cs, fuel, p, q, hg', ht', hvar, hd, _, _⟩ := h
 rw [hg', Option.bind_some] at hty
 obtain rfl := Option.some.inj (hty.symm.trans ht')
 unfold Lib.TabIs
 rw [hvar, ← Lib.cells_of_tab ht he hce hct hd]
theorem wf_u8 {n : Int} (h : (Lit.int .u8 n).wf = true) : 0 ≤ n ∧ n ≤ 255 := by
 have e1 : IntKind.u8.min = 0 := by decide
 have e2 : IntKind.u8.max = 255 := by decide
 simp [Lit.wf, e1, e2] at h; omega
theorem wf_i64 {n : Int} (h : (Lit.int .i64 n).wf = true) : -9223372036854775808 ≤ n ∧ n ≤ 9223372036854775807 := by
 have e1 : IntKind.i64.min = -9223372036854775808 := by decide
 have e2 : IntKind.i64.max = 9223372036854775807 := by decide
 simp [Lit.wf, e1, e2] at h; omega
theorem tabd_of_is {W : World} (h : Lib.TabIs Tryz.prog W "math/bits.deBruijn64tab" .u8 (Lib.deBruijn64tab.map fun n : Nat => (n : Int))) : TabD W := by
 intro j hj
 have h1 : W.var? Tryz.prog "math/bits.deBruijn64tab" = some ((Lib.deBruijn64tab.map fun n : Nat => (n : Int)).map fun z => Value.int .u8 z).toArray := h
 have hg : Tryz.prog.globalNamed "math/bits.deBruijn64tab" = some (renTz.g 1) := by kernel_rfl
 unfold World.var? at h1
 rw [hg, Option.bind_some] at h1
 unfold World.cell?
 show (match W.heap[renTz.g 1]? with | some (.cells c _ _) => if (none : Option _).isSome = true then none else c[j]? | _ => none) = _
 cases hh : W.heap[renTz.g 1]? with
 | none => rw [hh] at h1; cases h1
 | some o =>
  rw [hh] at h1
  cases o with
  | cells c t k =>
   simp only [Option.some.injEq] at h1
   subst h1
   rw [List.map_map]
   simp only [Option.isSome_none, Bool.false_eq_true, if_false, List.getElem?_toArray, List.getElem?_map]
   rw [List.getD_eq_getElem?_getD, List.getElem?_eq_getElem hj]; rfl
  | _ => cases h1
end Go.Proofs.YtkdlonihbjhhoaaGreatDoor
namespace Go.Proofs.YtkdlonihbjhhoaaGreatDoor
set_option linter.unusedSimpArgs false
set_option linter.unusedVariables false
open Go.ChangeShapes Go.WideShapes Go.ChangeAt Go.RowKit
theorem tY {H : Type} (d : DataW H) : 1 ≤ Rows.uptoBulk d := by
 cases d with
 | lit l => cases l <;> simp [Rows.uptoBulk]
 | _ => simp [Rows.uptoBulk]
theorem gm {H : Type} {d : DataW H} : ∀ {l : List (DataW H)}, d ∈ l → Rows.uptoBulk d ≤ Rows.uptoBulkAll l
 | [], h => by cases h
 | x :: l, h => by
  simp only [Rows.uptoBulkAll]
  rcases List.mem_cons.1 h with rfl | h
  ·omega
  ·have := gm h; omega
theorem nI {H : Type} : ∀ l : List (DataW H), l.length ≤ Rows.uptoBulkAll l
 | [] => by simp [Rows.uptoBulkAll]
 | x :: l => by have := tY x; have := nI l; simp only [Rows.uptoBulkAll, List.length_cons]; omega
def Wu {H : Type} (P : Program) (t : TypeId) (d : DataW H) : Prop := Wt P t d ∧ Rows.uptoBulk d ≤ 1048576
theorem wu_all {H : Type} {P : Program} {t : TypeId} {d : DataW H} {l : List (DataW H)} (h : Wt P t d) (hd : d ∈ l) (hb : Rows.uptoSmall H l = true) : Wu P t d := ⟨h, by
 have h1 := gm hd
 have h2 : Rows.uptoBulkAll l ≤ 1048576 := of_decide_eq_true hb
 omega⟩
section
variable {H : Type} {enc : TypeId × Value → H} {P : Program} {w : World} {spare : Nat → Bool} {held : Bool} {fuel : Nat} {t e : TypeId} {cs : List Value} {x : DataW H × List MemPlace}
theorem opu_str (ht : P.underlying t = some .string) (h : DataW.trod enc P w 0 spare held fuel t cs = some x) (hz : Wu P t x.1) : ∃ s : List UInt8, cs = [.string (S s)] ∧ s.length ≤ 140737488351232 := vB ht h hz.1
theorem opu_struct {fs : Array Field} (ht : P.underlying t = some (.struct fs)) (h : DataW.trod enc P w 0 spare held fuel t cs = some x) (hz : Wu P t x.1) :
  cs.length = P.cellsOf t ∧ ∃ m, ∀ (j : Nat) f, fs.toList[j]? = some f → ∃ y, DataW.trod enc P w 0 spare held m f.type ((cs.drop f.offset).take (P.cellsOf f.type)) = some y ∧ Wu P f.type y.1 := by
 cases fuel with
 | zero => simp [DataW.trod] at h
 | succ n =>
  simp only [DataW.trod, ht] at h
  split at h
  ·rename_i hl
   refine ⟨hl, n, fun j f hf => ?_⟩
   obtain ⟨xs, hxs, rfl⟩ := Option.map_eq_some_iff.1 h
   obtain ⟨z, h1, h2⟩ := kh hxs j f hf
   refine ⟨z, h1, fun n hn => hz.1 n ?_, ?_⟩
   ·simp only [DataW.weights, ht]
    exact DataW.weights_mem_each (j := j) (by rw [List.getElem?_map, hf]; rfl) (by rw [List.getElem?_map, h2]; rfl) n hn
   ·have hb := hz.2
    simp only [Rows.uptoBulk] at hb
    have := gm (d := z.1) (l := xs.map (·.1)) (List.mem_map.2 ⟨z, List.mem_of_getElem? h2, rfl⟩)
    omega
  ·cases h
theorem opu_slice {α : Type} [Inhabited α] {cells : α → List Value} {F : α → Prop} (sz bz : Nat) (hbz : P.bytesOf e = bz) (ht : P.underlying t = some (.slice e)) (hc : P.cellsOf e = sz) (hsz : ∀ a, (cells a).length = sz)
  (hel : ∀ m cs (y : DataW H × List MemPlace), DataW.trod enc P w 0 (fun _ => true) held m e cs = some y → Wu P e y.1 → ∃ a : α, cs = cells a ∧ F a) (h : DataW.trod enc P w 0 (fun _ => true) held fuel t cs = some x) (hz : Wu P t x.1) :
  ∃ s : Sl α, cs = [s.val] ∧ s.l.length ≤ s.cap ∧ s.cap * bz ≤ 140737488351232 ∧ s.l.length ≤ 1048576 ∧ (Fact.sl s.a (s.l.flatMap cells)).holds (fun _ => True) w ∧ ∀ y ∈ s.l, F y := by
 cases fuel with
 | zero => simp [DataW.trod] at h
 | succ n =>
  simp only [DataW.trod, ht] at h
  split at h
  all_goals (try (rename_i hq; cases hq; done))
  all_goals (try (cases h; done))
  all_goals (try (rename_i hq _; cases hq; done))
  ·exact ⟨⟨none, [], 0⟩, rfl, Nat.le_refl _, by simp, Nat.zero_le _, .inl rfl, by simp⟩
  ·rename_i e' a len cap he
   cases he
   split at h <;> try cases h
   rename_i hb
   obtain ⟨elems, hm, h'⟩ := Option.bind_eq_some_iff.1 h
   simp only [if_true] at h'
   obtain ⟨rest, hr, rfl⟩ := Option.map_eq_some_iff.1 h'
   have hzl : ∀ n ∈ (DataW.slice (elems.map (·.1)) (rest.map (·.1))).weights P t, n ≤ 140737488351232 := hz.1
   have hbk := hz.2
   simp only [Rows.uptoBulk] at hbk
   have hln := nI (elems.map (·.1))
   have hml := ib hm
   simp only [List.length_map, List.length_range] at hln hml
   simp only [DataW.weights, ht] at hzl
   have hcb : cap * bz ≤ 140737488351232 := by
    have h1 := hzl _ (List.mem_cons_self)
    have h2 := ib hm
    have h3 := ib hr
    simp only [List.length_map, List.length_range] at h1 h2 h3
    rw [hbz, h2, h3, show len + (cap - len) = cap by omega] at h1
    exact h1
   have hall : ∀ i, i < len → ∃ ys : List Value, w.cells? 0 (a.add (i * sz)) sz = some ys ∧ ∃ q : α, ys = cells q ∧ F q := fun i hi => by
    obtain ⟨z, hz1, hz2⟩ := kh hm i i (List.getElem?_range hi)
    obtain ⟨ys, h1, h2⟩ := Option.bind_eq_some_iff.1 hz1
    rw [hc] at h1
    obtain ⟨q, hq, hF⟩ := hel _ _ _ h2 ⟨fun n hn => hzl n (List.mem_cons_of_mem _ (List.mem_append_left _ (fl (List.mem_map.2 ⟨z, List.mem_of_getElem? hz2, rfl⟩) hn))), by have := gm (d := z.1) (l := elems.map (·.1)) (List.mem_map.2 ⟨z, List.mem_of_getElem? hz2, rfl⟩); omega⟩
    exact ⟨ys, h1, q, hq, hF⟩
   have hlist : ∀ k, k ≤ len → ∃ l : List α, l.length = k ∧ (∀ y ∈ l, F y) ∧ ∀ i, i < k → w.cells? 0 (a.add (i * sz)) sz = some (cells (l.getD i default)) := by
    intro k
    induction k with
    | zero => intro _; exact ⟨[], rfl, by simp, fun i hi => by omega⟩
    | succ k ih =>
     intro hk
     obtain ⟨l, h1, h2, h3⟩ := ih (by omega)
     obtain ⟨ys, hy, q, rfl, hF⟩ := hall k (by omega)
     refine ⟨l ++ [q], by simp [h1], fun y hy' => ?_, fun i hi => ?_⟩
     ·rcases List.mem_append.1 hy' with h | h
      ·exact h2 y h
      ·simp at h; subst h; exact hF
     ·by_cases hik : i = k
      ·subst hik; rw [hy]; simp [List.getD, ← h1]
      ·rw [h3 i (by omega)]; simp only [List.getD]; rw [List.getElem?_append_left (by omega)]
   obtain ⟨l, h1, h2, h3⟩ := hlist len (Nat.le_refl _)
   refine ⟨⟨some a, l, cap⟩, by simp [h1], by simp [h1]; exact hb.2.1, hcb, by rw [h1]; omega, qu fun i v hv => ?_, h2⟩
   have hlen := aj l cells sz hsz
   have hi : i < l.length * sz := by rw [← hlen]; exact (List.getElem?_eq_some_iff.1 hv).1
   have hs0 : 0 < sz := by rcases Nat.eq_zero_or_pos sz with h0 | h0; · subst h0; omega
                           ·exact h0
   have hj : i / sz < l.length := Nat.div_lt_of_lt_mul (by rw [Nat.mul_comm]; exact hi)
   obtain ⟨_, h5⟩ := cells?_get (h3 (i / sz) (by omega))
   have h6 := h5 (i % sz) v (by
    rw [← eY l cells sz hsz (i / sz) hj, List.getElem?_take, if_pos (Nat.mod_lt _ hs0), List.getElem?_drop, Nat.mul_comm, Nat.div_add_mod]; exact hv)
   have e1 : (a.add (i / sz * sz)).add (i % sz) = a.add i := by
    have h7 : i / sz * sz + i % sz = i := by rw [Nat.mul_comm]; exact Nat.div_add_mod i sz
    have h8 : ∀ p q : Nat, (a.add p).add q = a.add (p + q) := fun p q => by by_cases hp : p = 0 <;> by_cases hq : q = 0 <;> simp [Addr.add, hp, hq, Nat.add_assoc]
    rw [h8, h7]
   rw [e1] at h6; exact h6
end
end Go.Proofs.YtkdlonihbjhhoaaGreatDoor
