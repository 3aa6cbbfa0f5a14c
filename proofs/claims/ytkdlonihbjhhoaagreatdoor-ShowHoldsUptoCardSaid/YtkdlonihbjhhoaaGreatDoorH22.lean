/-
  Parts of the walk: ShaD ShaE ShaH Laid LaiE Opu.
-/
import Derived.Test.YtkdlonihbjhhoaaGreatDoorH21
import Derived.Lib.LaidTab
import Derived.Test.YtkdlonihbjhhoaaGreatDoorRows
namespace Go.Proofs.YtkdlonihbjhhoaaGreatDoor
open Go.RowKit
set_option linter.unusedSimpArgs false
set_option linter.unusedVariables false
set_option maxHeartbeats 600000
set_option maxRecDepth 20000
abbrev crV (r : (List Bs × Zs × Bs) × Int) (g : Rs) : Value := .tuple #[g.val r.1.1.length, zV r.1.2.1, .string (S r.1.2.2), .int .i64 r.2]
theorem uw {p : PR} {k : IK} {a : Bs} {d : List Int} {vs : List Bs} (h : shE p k a d vs = 0) : cd p k = 0 ∧ bL 1 d k.r.length = true ∧ vs.length = d.length := by
 unfold shE at h
 split at h
 ·rename_i h1; exact absurd h h1
 ·rename_i h1; split at h
  ·simp at h
  ·split at h
   ·simp at h
   ·split at h
    ·simp at h
    ·rename_i h2; split at h
     ·simp at h
     ·rename_i h3; exact ⟨Ah.1 h1, by simpa using h2, Ah.1 h3⟩
theorem uv {p : PR} {k : IK} {a : Bs} {d : List Int} {vs : List Bs} (h : (shS p k a d vs).2 = 0) : shE p k a d vs = 0 ∧ shS p k a d vs = (shT p k a d vs, 0) := by
 unfold shS at h ⊢
 split at h
 ·rename_i h1; exact absurd h h1
 ·rename_i h1; exact ⟨Ah.1 h1, by rw [Aa h1]⟩
theorem yk {s : Sm} {ws : List Zs} (h : (eJ s ws).1 = true) : iv s ws = 0 := by
 unfold eJ at h
 split at h
 ·simp at h
 ·rename_i h1; exact Ah.1 h1
theorem oH (l : List Bs) (i : Nat) (v : Bs) : ak (l.set i v) = (ak l).set i (.string (S v)) := by rw [ak, List.map_set]
theorem un (n : Nat) : List.replicate n (Value.string (S [])) = ak (List.replicate n []) := by rw [ak, Ec]
abbrev CCO (n : Nat) (d : List Int) (vs : List Bs) (ws : List Zs) (da za : Option Addr) (dc zc' b7 b11 b13 b22 b25 b85 h1 h2 : Nat) (k : IK) (rs : Value) (l : List Nat) (_ : Unit) : List Ent :=
 [⟨some h2, [.int .i64 (n : Int)], 3⟩, ⟨some h1, [.slice da d.length dc], 38⟩, ⟨some b25, [.int .i64 ((2 + l.length : Nat) : Int)], 3⟩, ⟨some b22, [.slice (some ⟨b85, 0, none⟩) n n], 31⟩, ⟨some b85, ak (pp (aR d n) ws (lO d vs n d.length) l.length), 22⟩, ⟨some b13, [.bool false, .string (S [])], 37⟩, ⟨some b11, [.slice za ws.length zc'], 39⟩, ⟨some b7, ikC k rs, 33⟩]
theorem zu {p : PR} {k : IK} {xa : Bs} {d : List Int} {vs : List Bs} {ws : List Zs} {ra da va za : Option Addr} {rc dc vc zc' : Nat} {w : World} {ok : Nat → Prop} (hF1 : (Fact.sl ra (ak k.r)).holds ok w) (hF2 : (Fact.sl da (dX d)).holds ok w) (hF3 : (Fact.sl va (ak vs)).holds ok w) (hF4 : (Fact.sl za (aY ws)).holds ok w) (hm8 : p.mn.1.1.length ≤ 8) (hk8 : k.g.1.length ≤ 8) (hkl : k.r.length ≤ 90000) (hnl : k.name.length ≤ 140737488351232) (hdl : d.length ≤ 140737488351232) (hvl : vs.length ≤ 140737488351232) (hwl : ws.length ≤ 100000) (hD : TabD w) :
  Calls Tryz.prog 28 #[prV p, ikV k (.slice ra k.r.length rc), .string (S xa), .slice da d.length dc, .slice va vs.length vc, .slice za ws.length zc'] w fun e w' => ∃ gx : Rs, e = .returned (crV (crS p k xa d vs ws) gx) ∧ (True) ∧ Below w.heap.size w w' ∧ ∀ x ∈ ([Fact.sl gx.a (ak (crS p k xa d vs ws).1.1)] : List Fact), x.holds (fun b => ok b ∨ w.heap.size ≤ b) w' := by
 refine jS (S := St (fun b => ok b ∨ w.heap.size ≤ b) w [] ([Fact.sl ra (ak k.r), Fact.sl da (dX d), Fact.sl va (ak vs), Fact.sl za (aY ws)])) (L := [(0, prV p), (1, ikV k (.slice ra k.r.length rc)), (2, .string (S xa)), (3, .slice da d.length dc), (4, .slice va vs.length vc), (5, .slice za ws.length zc')]) Tryz.func28 rfl Tryz.ntmps28 rfl (Ac rfl (Ac rfl (Ac rfl (Ac rfl (Ac rfl (Ac rfl (An _))))))) (St.start (fun _ h => Or.inr h) (fy (Fc hF1 (Fc hF2 (Fc hF3 (Fc hF4 Fn)))))) ?_
 refine Cs (Kh I (Oy I I) ?_)
 intro b6
 refine Kh I (Oy I I) ?_
 intro b7
 refine Kh I (Oy I I) ?_
 intro b11
 refine Ka I (Kh I (Oz [.bool false, .string (S [])] I) ?_)
 intro b13
 refine Ka I (Ka I (Nt (Cs (Kq I (lda I I .tc u30 I ?_) ?_))))
 ·kernel_rfl
 refine Kq I (lda I I .tc u33 I ?_) ?_
 ·kernel_rfl
 refine Km I (Km I (Km I (Kh I (Oc I I (eh fun w hS => pU (p := p) (k := k) (xa := xa) (d := d) (vs := vs) (by (exact hS.slo)) (by (exact hS.slo)) (by (exact hS.slo)) (by exact hm8) (by exact hk8) (by omega) (by exact hnl) (by exact hdl) (by exact hvl) (by exact aZ hD hS))) ?_)))
 rintro sa
 refine WL.pu ?_
 intro hg33; (try dsimp only [List.cons_append, List.nil_append] at hg33 ⊢)
 refine Km I (Ye I (Ye I (Kh I (Oz [.slice none 0 0, .slice none 0 0, .slice none 0 0] I) ?_)))
 intro b16
 refine Nu I I (Sa I I I .tc) (Ka I (Nt (Cq (Cs (Km I (Yj I (Nt (Ci I (fun hc37 => ?_) (fun hc37 => ?_)))))))))
 ·have hr : crS p k xa d vs ws = (([], (false, []), []), (shS p k xa d vs).2) := by rw [crS, Ab (by simpa using hc37)]
  refine Cs (Kq I (Kb [[.bool false], [.string (S [])]] I I) (Km I (Ka I (Nu I I (Sa I I I .tc) (Ka I (Ka I (Nt (Ce (Xb ?_)))))))))
  exact WX.retM0 rfl (.tmp rfl (.agg rfl .tc u37 rfl (by kernel_rfl) (.tmp rfl (.tmp rfl .nil)))) fun w' hS => ⟨⟨none, 0, []⟩, by rw [hr]; rfl, trivial, hS.below, by rw [hr]; exact Fc bI Fn⟩
 ·have h0 : (shS p k xa d vs).2 = 0 := by simpa using hc37
  have hsL : saL sa := pX hk8 hkl hg33
  obtain ⟨hE0, hsT⟩ := uv h0
  obtain ⟨hN, hasc, hlen⟩ := uw hE0
  refine Ck (Xa (Cs (Kq I (lda I I .tc u58 I ?_) ?_)))
  ·kernel_rfl
  refine Kq I (Ld I I .tc u39) ?_
  refine Kc I (fun w hS => n7 (s := sa) (ws := ws) (by (exact hS.sl)) (by (exact hS.sl)) (by (exact hS.sl)) (by (exact hS.sl)) (by (exact hS.more)) (by exact hsL) (by exact hwl)) (Km I (Ye I (Ye I (Ka I (Ka I (Nt (Cq (Cs (Km I (Yj I (Nt (Ci I (fun hc47 => ?_) (fun hc47 => ?_)))))))))))))
  ·have hr : crS p k xa d vs ws = (([], (false, []), []), (eJ sa.core ws).2) := by rw [crS, Aa (fun h => h h0), ← hg33, Ab (by simpa using hc47)]
   refine Cs (Kq I (Kb [[.bool false], [.string (S [])]] I I) (Km I (Ka I (Nu I I (Sa I I I .tc) (Ka I (Ka I (Nt (Ce (Xb ?_))))))))); exact WX.retM0 I (.tmp I (.agg I .tc u37 I (by kernel_rfl) (.tmp I (.tmp I .nil)))) fun w' hS => ⟨⟨none, 0, []⟩, by rw [hr]; rfl, trivial, hS.below, by rw [hr]; exact Fc bI Fn⟩
  ·have hh0 : (eJ sa.core ws).2 = 0 := by simpa using hc47
   refine Ck (Xa (Cq (Cs (Km I (Yt I (Nt (Ci I (fun hc51 => ?_) (fun hc51 => ?_))))))))
   ·have hr : crS p k xa d vs ws = (([], (false, []), []), 18) := by rw [crS, Aa (fun h => h h0), ← hg33, Aa (fun h => h hh0), Ab (by simpa using hc51)]
    refine Cs (Kq I (Kb [[.bool false], [.string (S [])]] I I) (Ka I (Nu I I (Sa I I I .tc) (Ka I (Ka I (Nt (Ce (Xb ?_)))))))); exact WX.retM0 I (.tmp I (.agg I .tc u37 I (by kernel_rfl) (.tmp I (.tmp I .nil)))) fun w' hS => ⟨⟨none, 0, []⟩, by rw [hr]; rfl, trivial, hS.below, by rw [hr]; exact Fc bI Fn⟩
   ·have hh1 : (eJ sa.core ws).1 = true := by simpa using hc51
    have hh1n : ¬ (eJ sa.core ws).1 = false := by rw [hh1]; decide
    have hwv : ws.length = 2 + (aR d k.r.length).length := by
     have h1 := (uJ (yk hh1)).2.2.2; rw [hg33, hsT] at h1; simp [shT] at h1; omega
    refine Ck (Xa (Cq (Cs (Kq I (Ld I I .tc u39) ?_)))); refine Yo I u39 (Km I (Nt (Cb (Lp (σ := Nat) [(3, _), (4, _), (6, _), (7, _), (11, _), (13, _), (53, _), (54, _)] (fun gq => [(55, .int .i64 (gq : Int))]) (fun gq => gq ≤ ws.length ∧ ∀ j, j < gq → j ≠ 1 → (ws.getD j default).1 = false) (fun gq => ws.length - gq) (0) (S8 I I I I I I I I) (S1 I) (by (try dsimp only); exact ⟨Aj _, fun _ h => absurd h (D6 _)⟩) ?_)))); rintro i hinv1; (try dsimp only at hinv1 ⊢); obtain ⟨hi, hok⟩ := hinv1; refine Cs (Yl I (Nt (Cq (Ci I (fun hc56 => ?_) (fun hc56 => ?_)))))
    ·have hil : i < ws.length := by omega
     refine Ck (Xa (Cq (Cb (Cs (Km I (Kq I (Ia I I I u39 (by kernel_rfl : _ = some 2) (by omega) (by (rw [aj _ _ 2 (fun _ => rfl)]; omega))) ?_)))))); refine Kq I (dx _ I I u37 I (by kernel_rfl : _ = some 2) (fun _ => rfl) (by decide) I (by assumption)) ?_; refine Kh I (Oz [.bool false, .string (S [])] I) ?_; intro b20; refine Ka I (Nu I I (Sa I I I .tc) (Nt (WC.joinP (σ := Unit) [(3, _), (4, _), (6, _), (7, _), (11, _), (13, _), (53, _), (54, _), (55, _)] (fun gq => [(65, .bool (decide (i ≠ 1 ∧ (ws.getD i default).1 = true)))]) (fun gq => True) (S9 I I I I I I I I I) ?_ ?_)))
     ·skip
      refine Cg (Km I (Yj I (Km I (Nc 62 I (fun hg62 => ?_) (fun hg62 => ?_)))))
      ·refine Kf 0 I u37 I I I .tc u4 ?_; refine Yp I (Nn (WX.joinP (()) (S9 I I I I I I I I I) (by refine (Sc ?_ (S0 _)) <;> ((refine congrArg (fun b => some (Value.bool b)) ?_; simp [*]; omega))) ?_ (fun _ h => h))); (try dsimp only); done
      ·refine T2 I (Yq I (Nn (WX.joinP (()) (S9 I I I I I I I I I) (by refine (Sc ?_ (S0 _)) <;> ((exact congrArg (fun b => some (Value.bool b)) (by symm; apply Ap; omega)))) ?_ (fun _ h => h)))); (try dsimp only); done
     ·rintro _ hmeet; (try dsimp only at hmeet ⊢); refine Ci I (fun hc65 => ?_) (fun hc65 => ?_)
      ·have hr : crS p k xa d vs ws = (([], (false, []), []), 2) := by rw [crS, Aa (fun h => h h0), ← hg33, Aa (fun h => h hh0), Aa hh1n, Ab (fun h => by have := h i hil hc65.1; rw [hc65.2] at this; cases this)]
       refine Cs (Kq I (Kb [[.bool false], [.string (S [])]] I I) (Ka I (Nu I I (Sa I I I .tc) (Ka I (Ka I (Nt (Ce (Xf (Xb (Xb (Xf (Xb ?_)))))))))))); exact WX.retM0 I (.tmp I (.agg I .tc u37 I (by kernel_rfl) (.tmp I (.tmp I .nil)))) fun w' hS => ⟨⟨none, 0, []⟩, by rw [hr]; rfl, trivial, hS.below, by rw [hr]; exact Fc bI Fn⟩
      ·refine Ck (Xd (Xa (Cg (Kq I (Rz I I I (by omega)) (Km I (Nn (Ly (i + 1) (by (try dsimp only); omega) (S8 I I I I I I I I) (by refine (Sc ?_ (S0 _)) <;> (rfl)) ?_ (by (exact ar))))))))); (try dsimp only)
       exact ⟨hil, fun j hj h1 => by
         rcases C8.1 hj with h | h
         ·exact hok j h h1
         ·subst h
          cases hb : (ws.getD j default).1
          ·rfl
          ·exact absurd ⟨h1, hb⟩ hc65⟩
    ·refine Cx (Xc (Xc (Xe ?_))); obtain rfl : i = ws.length := by omega
     have hce : crE ws := hok; have hw0 : 0 < ws.length := by omega
     have hw1 : 1 < ws.length := by omega
     refine Xa (Cq (WC.free (K := [⟨some b11, [.slice za ws.length zc'], 39⟩, ⟨some b6, prC p, 30⟩]) (fs0 := [Fact.sl za (aY ws)]) [0, 1, 2, 3, 4, 5, 6, 7, 8, 9, 10, 11] [] [0, 0, 0, 0, 0, 0, 1, 0, 0, 0, 0, 0] (by kernel_rfl) (by kernel_rfl) I ?_)); refine Kj I (Fa (q := 13) I I u30 I I) (Kj I (Ld I I .tc u22) ?_); refine Kj I (Ld I I .tc u39) ?_; refine Kj I (Ia I I I u39 (by kernel_rfl : _ = some 2) (by omega) (by (rw [aj _ _ 2 (fun _ => rfl)]; omega))) ?_; (refine Kj I (faf I I u37 I (by kernel_rfl) (by (try simp only [sN, Int.reduceToNat, Nat.reduceAdd, Nat.reduceMul, Nat.reduceSub]); rfl)) ?_); refine Kj I (ki (l := ws) (f := zc) (sz := 2) 0 1 I I u22 I (fun _ => rfl) I hw0 (by decide) I) ?_; refine Jv I I I I I (fun ext => Oc I I (Kv fun w hS => wJ (a := p.lo) (b := (ws.getD 0 default).2))) ?_; refine Kj I (Rm I I) (Kj I (Re I I I) (Kj I (Re I I I) (Kj I (Ra I I) (Kj I (Ra I I) ?_)))); refine WJ.nil ?_; refine Nt (Cq (Cs (Km I (Yj I (Nt (Ci I (fun hc79 => ?_) (fun hc79 => ?_)))))))
     ·have hr : crS p k xa d vs ws = (([], (false, []), []), (addN p.lo (ws.getD 0 default).2).2) := by rw [crS, Aa (fun h => h h0), ← hg33, Aa (fun h => h hh0), Aa hh1n, Aa (fun h => h hce), Ab (by simpa using hc79)]
      refine Cs (Kq I (Kb [[.bool false], [.string (S [])]] I I) (Km I (Ka I (Nu I I (Sa I I I .tc) (Ka I (Ka I (Nt (Ce (Xb ?_))))))))); exact WX.retM0 I (.tmp I (.agg I .tc u37 I (by kernel_rfl) (.tmp I (.tmp I .nil)))) fun w' hS => ⟨⟨none, 0, []⟩, by rw [hr]; rfl, trivial, hS.below, by rw [hr]; exact Fc bI Fn⟩
     ·have ha0 : (addN p.lo (ws.getD 0 default).2).2 = 0 := by simpa using hc79
      have hr : crS p k xa d vs ws = ((crL k.r.length d vs ws, ws.getD 1 default, (addN p.lo (ws.getD 0 default).2).1), 0) := by rw [crS, Aa (fun h => h h0), ← hg33, Aa (fun h => h hh0), Aa hh1n, Aa (fun h => h hce), Aa (fun h => h ha0)]
      have hk18 : k.r.length ≤ 18 := (bn hN).2.2.2.2.2.2.1; have hhl := kF d k.r.length; refine Ck (Xa (Cs (Kf 5 I u33 I I I .tc u31 ?_))); refine Yo I u31 (Kh I (ee I I I u31 (by kernel_rfl : _ = some (some (.string (S [])), 1, 16)) I ?_ (by (try simp only [sN, Int.reduceToNat, Nat.reduceAdd, Nat.reduceMul, Nat.reduceSub]); rfl) (by (try simp only [sN, Int.reduceToNat, Nat.reduceAdd, Nat.reduceMul, Nat.reduceSub]); rfl)) ?_)
      ·omega
      intro b85; refine Kh I (Oa I (v := (.slice none 0 0)) (cs := [.slice none 0 0]) (by kernel_rfl) I) ?_; intro b22; refine Ng I I (st I I I .tc (by kernel_rfl) I ?_ (by (simp only [Av, Aw]; rfl))) ?_
      ·decide
      intro _; refine Nt (Cq (Cs (Km I (Yo I u31 (Km I (Nt (Cb (Lo (σ := Nat) [(3, _), (7, _), (11, _), (13, _), (21, _), (22, _), (86, _), (87, _)] (fun gq => [(88, .int .i64 (gq : Int))]) (fun gq => gq ≤ vs.length) (fun gq => vs.length - gq) (fun gq => [⟨some b22, [.slice (some ⟨b85, 0, none⟩) k.r.length k.r.length], 31⟩, ⟨some b85, ak (lO d vs k.r.length gq), 22⟩, ⟨some b13, [.bool false, .string (S [])], 37⟩, ⟨some b11, [.slice za ws.length zc'], 39⟩, ⟨some b7, ikC k (.slice ra k.r.length rc), 33⟩]) (fun gq => [Fact.sl da (dX d), Fact.sl va (ak vs), Fact.sl za (aY ws)]) (0) (S8 I I I I I I I I) (S1 I) (by (try dsimp only); exact Aj _) (by exact fun w h => by show St _ _ [_, ⟨some b85, ak (List.replicate k.r.length []), _⟩, _, _, _] _ _; rw [← un]; exact ar _ h) ?_)))))))); rintro j hinv2; (try dsimp only at hinv2 ⊢); obtain hj := hinv2; refine Cs (Yl I (Nt (Cq (Ci I (fun hc89 => ?_) (fun hc89 => ?_)))))
      ·have hjl : j < vs.length := by omega
       have hjd : j < d.length := by omega
       have hdj := eY hasc _ (ao d j hjd); obtain ⟨y, hy⟩ : ∃ y : Nat, Keep ((y : Int) = d.getD j default) := ⟨(d.getD j default).toNat, Int.toNat_of_nonneg (by omega)⟩; have hyl : y < k.r.length := by have := show (y : Int) = _ from hy; omega
       have hfl := gL d vs k.r.length j; refine Ck (Xa (Cq (Cb (Cs (Km I (Kq I (Ib I I I u31 (by omega) (by (rw [Af]; omega))) ?_)))))); refine Kq I (ldm I I u22 I (by assumption)) ?_; refine Ka I (Ka I (Nt (WC.free (K := [⟨some b22, [.slice (some ⟨b85, 0, none⟩) k.r.length k.r.length], 31⟩]) (fs0 := [Fact.sl da (dX d)]) [0, 1, 2, 3, 4, 5, 6] [7] [0, 0, 0, 0, 0, 0, 0, 2] (by kernel_rfl) (by kernel_rfl) I ?_))); refine Kj I (Ld I I .tc u31) ?_; refine Kj I (Rm I I) (Kj I (Rm I I) ?_); refine Kj I (Ib I I I u38 (by omega) (by (rw [Af]; omega))) ?_; refine Kj I (ldm I I u3 I (by assumption)) ?_; refine WJ.set 97 I (v' := .int .i64 ((y : Int))) (congrArg (Value.int .i64) (by rw [show (y : Int) = _ from hy])) ?_; refine Kj I (Rm I I) ?_; refine Kj I (Ja I I I u31 (by kernel_rfl : _ = some 1) (by omega)) ?_; refine WJ.nil ?_; refine Ng I I (st I I I .tc (by kernel_rfl) I ?_ (by rfl)) ?_
       ·(simp <;> omega)
       intro _; refine Nn (Xd (Xa (Cg (Kq I (Rz I I I (by omega)) (Km I (Nn (Lx (j + 1) (by (try dsimp only); omega) (S8 I I I I I I I I) (by refine (Sc ?_ (S0 _)) <;> (rfl)) ?_ (by exact fun w h => by (try dsimp only); rw [tr, oH, ← show (y : Int) = _ from hy, Au]; exact ar _ h)))))))); (try dsimp only); exact hjl
      ·refine Cx (Xc (Xc (Xe ?_))); obtain rfl : j = vs.length := by omega
       have hit := n4 (l := aR d k.r.length) []; rw [List.nil_append] at hit; rw [hlen]; refine Xa (Cs (Kh I (Oa I (v := (.int .i64 0)) (cs := [.int .i64 0]) (by kernel_rfl) I) ?_)); intro b25; refine Ng I I (st I I I .tc (by kernel_rfl) I ?_ (by (simp only [Av, Aw]; rfl))) ?_
       ·decide
       intro _; refine Nt (Cq (Cs (Km I (Kf 5 I u33 I I I .tc u31 ?_)))); refine Yo I u31 (Kh I (Oc I I (fun w hS => lH (a := da) (m := d.length) (c := dc) (n := k.r.length) hS)) ?_); intro g105; refine Nt (Cb (WC.range (CO := CCO k.r.length d vs ws da za dc zc' b7 b11 b13 b22 b25 b85 g105.1 g105.2 k (.slice ra k.r.length rc)) (pg := fun _ _ => True) (inv := fun l x => ∃ r, l ++ x :: r = aR d k.r.length) (after := fun l x => l ++ [x]) (stop := fun _ _ => none) (enc := fun y : Nat => #[Value.int .i64 (y : Int)]) (([] : List Nat)) (()) ((itL (fun (l : List Nat) x => l ++ [x]) (fun _ _ => (none : Option Code)) (aR d k.r.length) []).1) ((itL (fun (l : List Nat) x => l ++ [x]) (fun _ _ => (none : Option Code)) (aR d k.r.length) []).2) (trivial) I (by kernel_rfl) (fun _ => rfl) (by exact fun w h => by show St _ _ [⟨some g105.2, _, _⟩, ⟨some g105.1, _, _⟩, ⟨some b25, [.int .i64 2], _⟩, ⟨some b22, _, _⟩, ⟨some b85, ak (lO d vs k.r.length d.length), _⟩, ⟨some b13, _, _⟩, ⟨some b11, _, _⟩, ⟨some b7, _, _⟩] _ _; exact ar _ h) ?_ (fun l r D w hl' hY hS => vB (J := fun l s => s ++ l = aR d k.r.length) (d := d) (a := da) (c := dc) (n := k.r.length) hY hS trivial (List.nil_append _) (fun l x s h => ⟨⟨l, h⟩, fun _ => by rw [Ch]; exact h⟩) hasc hdl (by omega)) ?_ ?_))
       ·intro l r D f a s g x ext wr hl hi hpg hF hS; obtain ⟨rr, hrr⟩ := hi; obtain ⟨hxn, hsn⟩ := n8 hrr; have hsl : s.length < (aR d k.r.length).length := by rw [← hrr, A2, Am]; omega
        have hxe : (aR d k.r.length).getD s.length default = x := by rw [← hrr, List.getD_eq_getElem?_getD, List.getElem?_append_right (Bj _), C2]; rfl
        have hf2 := lN (aR d k.r.length) ws (lO d vs k.r.length d.length) s.length; have hf1 := gL d vs k.r.length d.length; rw [po]; refine eu (Fr.tm (hF.put (d := 106) rfl _)) hS ?_; refine WR.region (by kernel_rfl) ?_; refine Ka I (Nn (WX.begin hl ?_)); refine Cb (Cq (WR.free (K := [⟨some b25, [.int .i64 ((2 + s.length : Nat) : Int)], 3⟩, ⟨some b22, [.slice (some ⟨b85, 0, none⟩) k.r.length k.r.length], 31⟩, ⟨some b11, [.slice za ws.length zc'], 39⟩]) (fs0 := [Fact.sl za (aY ws)]) (by kernel_rfl) [0, 1, 2, 3, 4, 5, 6, 7] [8] [0, 0, 0, 0, 0, 0, 0, 0, 2] (by kernel_rfl) (by kernel_rfl) I ?_)); refine Kj I (Ld I I .tc u31) ?_; refine Kj I (Rm I I) (Kj I (Ld I I .tc u39) ?_); refine Kj I (Ld I I .tc u3) ?_; refine Kj I (Ia I I I u39 (by kernel_rfl : _ = some 2) (by omega) (by (rw [aj _ _ 2 (fun _ => rfl)]; omega))) ?_; (refine Kj I (faf I I u37 I (by kernel_rfl) (by (try simp only [sN, Int.reduceToNat, Nat.reduceAdd, Nat.reduceMul, Nat.reduceSub]); rfl)) ?_); refine Kj I (ki (sz := 2) _ 1 I I u22 I (fun _ => rfl) I (by omega) (by decide) I) ?_; refine Kj I (Ja I I I u31 (by kernel_rfl : _ = some 1) (by omega)) ?_; refine WJ.nil ?_; refine Ng I I (st I I I .tc (by kernel_rfl) I ?_ (by rfl)) ?_
        ·(simp <;> omega)
        intro _; refine Nt (WR.region (by kernel_rfl) ?_); refine Kq I (Ld I I .tc u3) ?_; refine Kq I (Rz I I I (by omega)) ?_; refine Ng I I (st I I I .tc (by kernel_rfl) I ?_ (by (simp only [Av, Aw]; rfl))) ?_
        ·(simp; done)
        intro _; refine Nn (Xd ?_)
        exact WX.rnext hl fun w' hS => by
         refine ⟨rfl, (), fun _ => trivial, ?_⟩; dsimp only [CCO]; rw [A2, List.length_singleton, tq, oH, hxe, show s.length + 2 = 2 + s.length by omega]; exact hS
       ·intro D1 g1 hD1 hg1 hcf; rw [hit]; dsimp only [CCO]; refine Xd (Xa (Cq (WC.free (K := [⟨some b22, [.slice (some ⟨b85, 0, none⟩) k.r.length k.r.length], 31⟩, ⟨some b11, [.slice za ws.length zc'], 39⟩]) (fs0 := [Fact.sl za (aY ws)]) [0, 1, 2, 3, 5, 6, 4] [7, 8] [0, 0, 0, 0, 0, 0, 1, 2, 2] (by kernel_rfl) (by kernel_rfl) I ?_))); refine Kj I (Ld I I .tc u31) ?_; refine Kj I (Ld I I .tc u39) ?_; refine Kj I (Ia I I I u39 (by kernel_rfl : _ = some 2) (by omega) (by (rw [aj _ _ 2 (fun _ => rfl)]; omega))) ?_; refine Kj I (dx (l := ws) (f := zc) (sz := 2) 1 I I u37 I (by kernel_rfl : _ = some 2) (fun _ => rfl) (by decide) I hw1) ?_; refine Kj I (Ra I I) ?_; refine WJ.st I I I I (ip I I I ?_ ?_ ?_) ?_
        ·kernel_rfl
        ·simp [Value.oneCell']
        ·rfl
        refine Kj I (Rm I I) ?_; refine WJ.nil ?_; refine Ka I (Ka I (Nt (Ce ?_))); exact WX.retM1 hD1 I (.tmp I (.agg I .tc u37 I (by kernel_rfl) (.tmp I (.tmp I .nil)))) fun w' hS => ⟨⟨some b85, k.r.length, []⟩, by rw [hr]; dsimp only [crV]; rw [crL, lN, gL]; rfl, trivial, hS.below, by rw [hr]; exact Fc hS.osk Fn⟩
       ·intro D1 g1 c hD1 hcf; (rw [hit] at hcf; cases hcf)
theorem vW {l m : List Bs} {i : Nat} (h1 : i < l.length) (h2 : i < m.length) (h : l.take i = m.take i) (e : l.getD i default = m.getD i default) : l.take (i + 1) = m.take (i + 1) := by
 rw [aL h1, aL h2, h, e]
theorem CY {l m : List Bs} {a b : Option Addr} {c d : Nat} {w : World} {ok : Nat → Prop} (hF1 : (Fact.sl a (ak l)).holds ok w) (hF2 : (Fact.sl b (ak m)).holds ok w) (hl : l.length ≤ 10000000) (hm : m.length ≤ 10000000) :
  Cw 30 #[.slice a l.length c, .slice b m.length d] w (.bool (decide (l = m))) := by
 refine En [Fact.sl a (ak l), Fact.sl b (ak m)] [(0, .slice a l.length c), (1, .slice b m.length d)] Tryz.func30 I Tryz.ntmps30 I (Ac I (Ac I (An _))) (Fc (ah hF1) (Fc (ah hF2) Fn)) (Cs (Ka I (Nt (Cq (Cs (Km I (Yo I u31 (Km I (Yo I u31 (Yj I (Nt (Ci I (fun hc10 => ?_) (fun hc10 => ?_)))))))))))))
 ·have hn : ¬ l = m := fun h => by subst h; simp at hc10
  refine Cs (Ka I (Nt (Ce (Xb ?_))))
  exact R1 I I (by rw [Ap hn]; rfl)
 ·have hlen : l.length = m.length := by omega
  refine Ck (Xa (Cq (Cs (Km I (Yo I u31 (Km I (Nt (Cb (Lp (σ := Nat) [(0, _), (1, _), (12, _)] (fun gq => [(13, .int .i64 (gq : Int))]) (fun gq => gq ≤ l.length ∧ l.take gq = m.take gq) (fun gq => l.length - gq) (0) (S3 I I I) (S1 I) (by (try dsimp only); exact ⟨Aj _, by simp⟩) ?_)))))))))
  rintro i hinv1; (try dsimp only at hinv1 ⊢)
  obtain ⟨hi, hok⟩ := hinv1
  refine Cs (Yl I (Nt (Cq (Ci I (fun hc14 => ?_) (fun hc14 => ?_)))))
  ·have hil : i < l.length := by omega
   have him : i < m.length := by omega
   obtain ⟨x, hx⟩ : ∃ x, Keep (x = l.getD i default) := ⟨_, rfl⟩; obtain ⟨y, hy⟩ : ∃ y, Keep (y = m.getD i default) := ⟨_, rfl⟩; refine Ck (Xa (Cq (Cb (Cs (Km I (Ka I (Nt (Cq (Cf [0, 1, 2, 3, 4, 5, 6, 7, 8] [] [0, 0, 0, 0, 0, 0, 0, 0, 0] (by kernel_rfl) (by kernel_rfl) I ?_))))))))); refine Kj I (Rm I I) (Kj I (Rm I I) ?_); refine Kj I (Ib I I I u31 (by omega) (by (rw [Af]; omega))) ?_; refine Kj I (ldm I I u22 I (by assumption)) ?_; refine WJ.set 19 I (v' := .string (S (x))) (congrArg (fun l => Value.string (S l)) (by rw [show x = _ from hx])) ?_; refine Kj I (Rm I I) (Kj I (Rm I I) ?_); refine Kj I (Ib I I I u31 (by omega) (by (rw [Af]; omega))) ?_; refine Kj I (ldm I I u22 I (by assumption)) ?_; refine WJ.set 23 I (v' := .string (S (y))) (congrArg (fun l => Value.string (S l)) (by rw [show y = _ from hy])) ?_; refine Kj I (ny I I I) ?_; refine WJ.nil ?_; refine Nt (Ci I (fun hc24 => ?_) (fun hc24 => ?_))
   ·have hn : ¬ l = m := fun h => hc24 (by rw [show x = _ from hx, show y = _ from hy, h])
    refine Cs (Ka I (Nt (Ce (Xf (Xb (Xb (Xf (Xb ?_)))))))); exact R1 I I (by rw [Ap hn]; rfl)
   ·refine Ck (Xd (Xa (Cg (Kq I (Rz I I I (by omega)) (Km I (Nn (Ly (i + 1) (by (try dsimp only); omega) (S3 I I I) (by refine (Sc ?_ (S0 _)) <;> (rfl)) ?_ (fun _ h => h)))))))); (try dsimp only); exact ⟨hil, vW hil him hok (by rw [← show x = _ from hx, ← show y = _ from hy]; exact hc24)⟩
  ·refine Cx (Xc (Xc (Xe ?_))); obtain rfl : i = l.length := by omega
   rw [Ao, hlen, Ao] at hok; refine Xa (Cs (Ka I (Nt (Ce ?_)))); exact R1 I I (by rw [Aq hok]; rfl)
theorem yp {p : PR} {k : IK} (h : gM p k = true) : p.bl.length ≤ 8 ∧ p.lo.length ≤ 8 ∧ p.sz.length ≤ 8 ∧ p.msk.length ≤ 8 ∧ p.han.length ≤ 8 := by
 simp only [gM, Bt, decide_eq_true_eq, Bx, List.any_eq_false] at h
 obtain ⟨h1, h2, h3⟩ := h
 have m1 := h3 p.bl (by simp [fL, ff, pk4])
 have m2 := h3 p.lo (by simp [fL, ff, pk4])
 have m3 := h3 p.sz (by simp [fL, ff, pk4])
 have m4 := h3 p.msk (by simp [fL, ff, pk4])
 have m5 := h3 p.han (by simp [fL, ff, pk4])
 omega
theorem iL {x : Bs} (h : x.length ≤ 8) : val x < 18446744073709551616 := A1 (aN x) (Bu (A4 (by decide) h) (by decide))
theorem vM {p : PR} {k : IK} (h : gM p k = true) : szV p < Big ∧ szH p < Big := by
 obtain ⟨h1, h2, h3, h4, h5⟩ := yp h
 have a1 := iL h1; have a2 := iL h2; have a3 := iL h3; have a4 := iL h4; have a5 := iL h5
 have b1 : (val p.lo + val p.sz) * val p.msk ≤ (2 * 18446744073709551616) * 18446744073709551616 := De (by omega) (by omega)
 have b2 : val p.han * val p.msk ≤ 18446744073709551616 * 18446744073709551616 := De (by omega) (by omega)
 have b3 : 2 * 18446744073709551616 + (2 * 18446744073709551616) * 18446744073709551616 < Big := by decide +kernel
 unfold szV szH
 omega
theorem shhld_l {p : PR} {k : IK} {q : CS} {ra ma da va za xa : Option Addr} {rc mc dc vc zc' xc : Nat} {w : World} {ok : Nat → Prop} (hF1 : (Fact.sl ra (ak k.r)).holds ok w) (hF2 : (Fact.sl ma (ak q.ms)).holds ok w) (hF3 : (Fact.sl da (dX q.d)).holds ok w) (hF4 : (Fact.sl va (ak q.vs)).holds ok w) (hF5 : (Fact.sl za (aY q.ws)).holds ok w) (hF6 : (Fact.sl xa (ak q.t.vals)).holds ok w) (hr : k.r.length ≤ 1048576) (hm : q.ms.length ≤ 1048576) (hd : q.d.length ≤ 1048576) (hv : q.vs.length ≤ 1048576) (hz : q.ws.length ≤ 1048576) (hx : q.t.vals.length ≤ 1048576) (hT : Tab w) (hD : TabD w) :
  Cw 9 #[prV p, ikV k (.slice ra k.r.length rc), csV q (.slice ma q.ms.length mc) (.slice da q.d.length dc) (.slice va q.vs.length vc) (.slice za q.ws.length zc') (.slice xa q.t.vals.length xc)] w (.bool true) := by
 refine En [Fact.sl ra (ak k.r), Fact.sl ma (ak q.ms), Fact.sl da (dX q.d), Fact.sl va (ak q.vs), Fact.sl za (aY q.ws), Fact.sl xa (ak q.t.vals)] [(0, prV p), (1, ikV k (.slice ra k.r.length rc)), (2, csV q (.slice ma q.ms.length mc) (.slice da q.d.length dc) (.slice va q.vs.length vc) (.slice za q.ws.length zc') (.slice xa q.t.vals.length xc))] Tryz.func9 I Tryz.ntmps9 I (Ac I (Ac I (Ac I (An _)))) (Fc (ah hF1) (Fc (ah hF2) (Fc (ah hF3) (Fc (ah hF4) (Fc (ah hF5) (Fc (ah hF6) Fn)))))) (Cs (Kh I (Oy I I) ?_))
 intro b3
 refine Kh I (Oy I I) ?_
 intro b4
 refine Kh I (Oy I I) ?_
 intro b5
 refine Ka I (Nt (Cq (Cs (Kq I (lda I I .tc u30 I ?_) ?_))))
 ·kernel_rfl
 refine Kq I (lda I I .tc u33 I ?_) ?_
 ·kernel_rfl
 refine Kq I (lda I I .tc u43 I ?_) ?_
 ·kernel_rfl
 refine Kh I (Oc I I (eh fun w hS => zy (p := p) (k := k) (q := q) (by (exact hS.slo)) (by (exact hS.slo)) (by (exact hS.slo)) (by (exact hS.slo)) (by (exact hS.slo)) (by (exact hS.slo)) (by assumption) (by assumption) (by assumption) (by assumption) (by assumption) (by assumption))) ?_
 rintro bb
 refine WL.pu ?_
 intro hg26; (try dsimp only [List.cons_append, List.nil_append] at hg26 ⊢)
 refine Yt I (Nt (Ci I (fun hc27 => ?_) (fun hc27 => ?_)))
 ·refine Cs (Kc I (fun w hS => j0 (by (exact et hT hS)) (by (exact aZ hD hS))) (Ka I (Nt (Ce (Xb ?_)))))
  exact R1 I I (by rfl)
 ·obtain ⟨hfw, hsm, hsg⟩ := hg26 (by simpa using hc27)
  obtain ⟨hm8, hk8, hk8', hk60⟩ := fU hfw
  obtain ⟨hzV, hzH⟩ := vM hfw
  have hlen := hsg.2.1
  have hds := hsm.2.1
  have hxs := hsm.2.2.2.2.1
  have hse := hsm.2.2.2.2.2.1
  refine Ck (Xa (Cs (Kq I (lda I I .tc u43 I ?_) ?_)))
  ·kernel_rfl
  refine Kh I (Oc I I (eh fun w hS => zl (q := q) (by (exact hS.slo)) (by (exact hS.slo)) (by assumption) (by assumption))) ?_
  rintro g31
  refine WL.pu ?_
  intro hg31; (try dsimp only [List.cons_append, List.nil_append] at hg31 ⊢)
  refine Km I (Ye I (Ye I (Ka I (Ka I (Nt (Cs (Kq I (lda I I .tc u30 I ?_) ?_)))))))
  ·kernel_rfl
  refine Kq I (lda I I .tc u33 I ?_) ?_
  ·kernel_rfl
  refine Kq I (Fa (q := 0) I I u43 I I) (Kq I (ldp I I .tc u35 I (by kernel_rfl : _ = some 3) (by rfl) (by rfl)) ?_)
  refine Kq I (Fa (q := 10) I I u43 I I) (Kq I (ldp I I .tc u41 I (by kernel_rfl : _ = some 3) (by rfl) (by rfl)) ?_)
  refine Kh I (Oc I I (fQ fun w hS => qM (p := p) (k := k) (s := q.sg) (t := q.t) (by (exact hS.sl)) (by (exact hS.sl)) (by assumption) (by assumption) (by omega) (by omega) (by omega) (by omega) (by (exact et hT hS)) (by (exact aZ hD hS)))) ?_
  intro g41
  refine WL.pu ?_
  intro hg41; (try dsimp only at hg41 ⊢)
  refine Km I (Ye I (Ye I (Ye I (Ye I (Kh I (Oz [.bool false, .string (S [])] I) ?_)))))
  intro b10
  refine Kh I (Oz [.slice none 0 0, .string (S []), .int .i64 0] I) ?_
  intro b11
  refine Ka I (Nu I I (Sa I I I .tc) (Nu I I (Sa I I I .tc) (Ka I (Nt (Cq (WC.joinP (σ := Unit) [(3, _), (4, _), (5, _), (7, _), (9, _), (10, _)] (fun gq => [(51, .bool (decide (¬ ((vlS q).2 = true ∧ (aU p k q.sg q.t).2 = 0))))]) (fun gq => True) (S6 I I I I I I) ?_ ?_))))))
  ·skip
   refine Cg (Km I (Yt I (Km I (Nc 48 I (fun hg48 => ?_) (fun hg48 => ?_)))))
   ·refine T2 I (Yp I (Nn (WX.joinP (()) (S6 I I I I I I) (by refine (Sc ?_ (S0 _)) <;> ((refine ai rfl ?_; (try dsimp only); (simp [*]; done)))) ?_ (fun _ h => h)))); (try dsimp only); done
   ·refine Km I (Yj I (Yq I (Nn (WX.joinP (()) (S6 I I I I I I) (by refine (Sc ?_ (S0 _)) <;> ((refine ai rfl ?_; (try dsimp only); (simp [*]; done)))) ?_ (fun _ h => h))))); (try dsimp only); done
  ·rintro _ hmeet; (try dsimp only at hmeet ⊢); refine Ci I (fun hc51 => ?_) (fun hc51 => ?_)
   ·refine Cs (Kc I (fun w hS => j0 (by (exact et hT hS)) (by (exact aZ hD hS))) (Ka I (Nt (Ce (Xb ?_))))); exact R1 I I (by rfl)
   ·obtain ⟨hvl, hrn⟩ := Ah.1 hc51
    have hasc : bL 1 q.d q.ms.length = true := by
     rw [vlS] at hvl; split at hvl
     ·assumption
     ·cases hvl
    have hvs : vlS q = (cC q.d q.ms, true) := by rw [vlS, Ab hasc]
    rw [hvs]; obtain ⟨hX, hvz, _⟩ := iQ (t := q.t) hsg hrn; have hE := BV hsg hasc hzV hzH hX; have eS : shS p k (aU p k q.sg q.t).1.1 q.d (cC q.d q.ms) = (shT p k (aU p k q.sg q.t).1.1 q.d (cC q.d q.ms), 0) := by rw [shS, Aa (fun h => h hE)]
    have eH := qQ (t := q.t) hsg hasc hrn hzV hzH; have eC := xq (t := q.t) hsg hasc hrn hzV hzH; have eW := zw hsg hasc hvz; have hhl := kF q.d k.r.length; have hwl : (gg p k q.sg q.ms (aU p k q.sg q.t).1.2.1 q.d).length ≤ 100000 := by simp [gg]; omega
    have hdl : (cC q.d q.ms).length = q.d.length := by rw [cC, Af]
    refine Ck (Xa (Cs (Kq I (lda I I .tc u30 I ?_) ?_)))
    ·kernel_rfl
    refine Kq I (lda I I .tc u33 I ?_) ?_
    ·kernel_rfl
    refine Km I (Kf 7 I u43 I I I .tc u38 ?_); refine Km I (Kh I (Oc I I (eh fun w hS => pU (p := p) (k := k) (xa := (aU p k q.sg q.t).1.1) (d := q.d) (vs := cC q.d q.ms) (by (exact hS.slo)) (by (exact hS.slo)) (by (exact hS.slo)) (by assumption) (by assumption) (by omega) (by omega) (by omega) (by omega) (by (exact aZ hD hS)))) ?_); rintro s1; refine WL.pu ?_; intro hg60; (try dsimp only [List.cons_append, List.nil_append] at hg60 ⊢); rw [eS]; refine Km I (Ye I (Ye I (Kh I (Oz [.slice none 0 0, .slice none 0 0, .slice none 0 0] I) ?_))); intro b13; refine Nu I I (Sa I I I .tc) (Ka I (Nt (Cs (Kq I (lda I I .tc u30 I ?_) ?_))))
    ·kernel_rfl
    refine Kq I (Fa (q := 0) I I u43 I I) (Kq I (ldp I I .tc u35 I (by kernel_rfl : _ = some 3) (by rfl) (by rfl)) ?_); refine Kq I (lda I I .tc u37 I ?_) ?_
    ·kernel_rfl
    refine Kf 6 I u43 I I I .tc u31 ?_; refine Kf 7 I u43 I I I .tc u38 ?_; refine Kh I (Oc I I (kB fun w hS => qK (p := p) (sg := q.sg) (v := (aU p k q.sg q.t).1.2.1) (ms := q.ms) (d := q.d) (by (exact hS.sl)) (by (exact hS.sl)) (by assumption) (by omega) (by omega) (by (exact aZ hD hS)))) ?_; rintro g72; refine WL.pu ?_; intro hg72; (try dsimp only [List.cons_append, List.nil_append] at hg72 ⊢); rw [eW]; refine Km I (Ye I (Ye I (Ka I (Ka I (Nt (Cs ?_)))))); have hs1 : saL s1 := pX hk8 (by omega) hg60; have hs2 : s1.core = shT p k (aU p k q.sg q.t).1.1 q.d (cC q.d q.ms) := hg60.trans (congrArg (·.1) eS); refine Kq I (lda I I .tc u58 I ?_) ?_
    ·kernel_rfl
    refine Km I (Kc I (fun w hS => n7 (s := s1) (ws := gg p k q.sg q.ms (aU p k q.sg q.t).1.2.1 q.d) (by (exact hS.sl)) (by (exact hS.sl)) (by (exact hS.sl)) (by (exact hS.sl)) (by (exact hS.more)) (by exact hs1) (by exact hwl)) ?_); rw [hs2, eH]; refine Km I (Ye I (Ye I (Ka I (Ka I (Nt (Cs (Kq I (lda I I .tc u30 I ?_) ?_)))))))
    ·kernel_rfl
    refine Kq I (lda I I .tc u33 I ?_) ?_
    ·kernel_rfl
    refine Km I (Kf 7 I u43 I I I .tc u38 ?_); refine Km I (Km I (Kh I (Oc I I (eh fun w hS => zu (p := p) (k := k) (xa := (aU p k q.sg q.t).1.1) (d := q.d) (vs := cC q.d q.ms) (ws := gg p k q.sg q.ms (aU p k q.sg q.t).1.2.1 q.d) (by (exact hS.slo)) (by (exact hS.slo)) (by (exact hS.slo)) (by (exact hS.slo)) (by assumption) (by assumption) (by omega) (by omega) (by omega) (by omega) (by assumption) (by (exact aZ hD hS)))) ?_)); rintro g89; refine WL.pu ?_; intro hg89; (try dsimp only [List.cons_append, List.nil_append] at hg89 ⊢); rw [eC]; refine Km I (Ye I (Ye I (Ye I (Ye I (Kh I (Oz [.bool false, .string (S [])] I) ?_))))); intro b20; refine Ka I (Nu I I (Sa I I I .tc) (Ka I (Ka I (Nt (Cs (Km I (Km I (Kq I (aw I I I (by (dsimp only; omega))) ?_)))))))); refine Km I (Kq I (aw I I I (by (dsimp only; omega))) ?_); refine Km I (Kq I (aw I I I (by (dsimp only; omega))) ?_); refine Yi I (Km I (Ns 102 I (v' := .bool true) (by rfl) ?_)); refine Km I (Yp I (Km I (Ns 105 I (v' := .bool true) (by rfl) ?_))); refine Km I (Kf 6 I u43 I I I .tc u31 ?_); refine Kc I (fun w hS => CY (by (exact hS.sl)) (by (exact hS.sl)) (by (dsimp only; omega)) (by omega)) (Yp I (Km I (Ns 111 I (v' := .bool true) (by (exact congrArg Value.bool (by simp [*]; done))) ?_))); refine Kq I (lda I I .tc u37 I ?_) ?_
    ·kernel_rfl
    refine Kq I (lda I I .tc u37 I ?_) ?_
    ·kernel_rfl
    refine Kq I (zT I I I (by kernel_rfl) (fun w => gP _ _ _ _ w)) ?_; refine Yp I (Km I (Ns 116 I (v' := .bool true) (by (exact congrArg Value.bool (by simp [*]; done))) ?_)); refine Km I (Kq I (Fa (q := 0) I I u43 I I) (Kf 1 I u35 I I I .tc u22 ?_)); refine Ys I (Yp I (Km I (Ns 123 I (v' := .bool true) (by (exact congrArg Value.bool (by simp [*]; done))) ?_))); refine Kc I (fun w hS => j0 (by (exact et hT hS)) (by (exact aZ hD hS))) (Yp I (Ka I (Nt (Ce ?_)))); exact R1 I I (by rfl)
theorem laidVars_tail {P : Program} {w : World} {x : String × DataW Unit} {r : List (String × DataW Unit)} {ps : List MemPlace} (h : DataW.LaidVars P w (x :: r) ps) : ∃ q, DataW.LaidVars P w r q := by
 obtain ⟨n, d⟩ := x
 obtain ⟨g, t, cs, fuel, p, q, _, _, _, _, h, _⟩ := h
 exact ⟨q, h⟩
theorem tab_of_vars {P : Program} {W : World} {name : String} {k : IntKind} {zs : List Int} {rest : List (String × DataW Unit)} {ps : List MemPlace} {t e : TypeId} {n : Nat}
  (hty : ((P.globalNamed name).bind fun g => (P.globals[g]?).map (·.type)) = some t) (ht : P.underlying t = some (.array n e)) (he : P.underlying e = some (.int k)) (hce : P.cellsOf e = 1) (hct : P.cellsOf t = n)
  (h : DataW.LaidVars P W ((name, Lib.tabData k zs) :: rest) ps) : Lib.TabIs P W name k zs := by
 obtain ⟨g', t', cs, fuel, p, q, hg', ht', hvar, hd, _, _⟩ := h
 rw [hg', Option.bind_some] at hty
 obtain rfl := Option.some.inj (hty.symm.trans ht')
 unfold Lib.TabIs
 rw [hvar, ← Lib.cells_of_tab ht he hce hct hd]
theorem wf_u8 {n : Int} (h : (Lit.int .u8 n).wf = true) : 0 ≤ n ∧ n ≤ 255 := by
 have e1 : IntKind.u8.min = 0 := by decide
 have e2 : IntKind.u8.max = 255 := by decide
 simp [Lit.wf, e1, e2] at h; omega
theorem wf_i64 {n : Int} (h : (Lit.int .i64 n).wf = true) : -9223372036854775808 ≤ n ∧ n ≤ 9223372036854775807 := by
 have e1 : IntKind.i64.min = -9223372036854775808 := by decide
 have e2 : IntKind.i64.max = 9223372036854775807 := by decide
 simp [Lit.wf, e1, e2] at h; omega
theorem tabd_of_is {W : World} (h : Lib.TabIs Tryz.prog W "math/bits.deBruijn64tab" .u8 (Lib.deBruijn64tab.map fun n : Nat => (n : Int))) : TabD W := by
 intro j hj
 have h1 : W.var? Tryz.prog "math/bits.deBruijn64tab" = some ((Lib.deBruijn64tab.map fun n : Nat => (n : Int)).map fun z => Value.int .u8 z).toArray := h
 have hg : Tryz.prog.globalNamed "math/bits.deBruijn64tab" = some (renTz.g 1) := by kernel_rfl
 unfold World.var? at h1
 rw [hg, Option.bind_some] at h1
 unfold World.cell?
 show (match W.heap[renTz.g 1]? with | some (.cells c _ _) => if (none : Option _).isSome = true then none else c[j]? | _ => none) = _
 cases hh : W.heap[renTz.g 1]? with
 | none => rw [hh] at h1; cases h1
 | some o =>
  rw [hh] at h1
  cases o with
  | cells c t k =>
   simp only [Option.some.injEq] at h1; subst h1; rw [Dy]; simp only [Option.isSome_none, Df, if_false, Di, Be]; rw [List.getD_eq_getElem?_getD, Ad hj]; rfl
  | _ => cases h1
end Go.Proofs.YtkdlonihbjhhoaaGreatDoor
namespace Go.Proofs.YtkdlonihbjhhoaaGreatDoor
set_option linter.unusedSimpArgs false
set_option linter.unusedVariables false
open Go.ChangeShapes Go.WideShapes Go.ChangeAt Go.RowKit
theorem wu {H : Type} (d : DataW H) : 1 ≤ Rows.uptoBulk d := by
 cases d with
 | lit l => cases l <;> simp [Rows.uptoBulk]
 | _ => simp [Rows.uptoBulk]
theorem ij {H : Type} {d : DataW H} : ∀ {l : List (DataW H)}, d ∈ l → Rows.uptoBulk d ≤ Rows.uptoBulkAll l
 | [], h => by cases h
 | x :: l, h => by
  simp only [Rows.uptoBulkAll]
  rcases At.1 h with rfl | h
  ·omega
  ·have := ij h; omega
theorem pz {H : Type} : ∀ l : List (DataW H), l.length ≤ Rows.uptoBulkAll l
 | [] => by simp [Rows.uptoBulkAll]
 | x :: l => by have := wu x; have := pz l; simp only [Rows.uptoBulkAll, Am]; omega
def Wu {H : Type} (P : Program) (t : TypeId) (d : DataW H) : Prop := Wt P t d ∧ Rows.uptoBulk d ≤ 1048576
theorem wu_all {H : Type} {P : Program} {t : TypeId} {d : DataW H} {l : List (DataW H)} (h : Wt P t d) (hd : d ∈ l) (hb : Rows.uptoSmall H l = true) : Wu P t d := ⟨h, by
 have h1 := ij hd
 have h2 : Rows.uptoBulkAll l ≤ 1048576 := of_decide_eq_true hb
 omega⟩
section
variable {H : Type} {enc : TypeId × Value → H} {P : Program} {w : World} {spare : Nat → Bool} {held : Bool} {fuel : Nat} {t e : TypeId} {cs : List Value} {x : DataW H × List MemPlace}
theorem opu_str (ht : P.underlying t = some .string) (h : DataW.trod enc P w 0 spare held fuel t cs = some x) (hz : Wu P t x.1) : ∃ s : List UInt8, cs = [.string (S s)] ∧ s.length ≤ 140737488351232 := x8 ht h hz.1
theorem opu_struct {fs : Array Field} (ht : P.underlying t = some (.struct fs)) (h : DataW.trod enc P w 0 spare held fuel t cs = some x) (hz : Wu P t x.1) :
  cs.length = P.cellsOf t ∧ ∃ m, ∀ (j : Nat) f, fs.toList[j]? = some f → ∃ y, DataW.trod enc P w 0 spare held m f.type ((cs.drop f.offset).take (P.cellsOf f.type)) = some y ∧ Wu P f.type y.1 := by
 cases fuel with
 | zero => simp [DataW.trod] at h
 | succ n =>
  simp only [DataW.trod, ht] at h
  split at h
  ·rename_i hl; refine ⟨hl, n, fun j f hf => ?_⟩; obtain ⟨xs, hxs, rfl⟩ := Ef.1 h; obtain ⟨z, h1, h2⟩ := lD hxs j f hf; refine ⟨z, h1, fun n hn => hz.1 n ?_, ?_⟩
   ·simp only [DataW.weights, ht]; exact DataW.weights_mem_each (j := j) (by rw [Be, hf]; rfl) (by rw [Be, h2]; rfl) n hn
   ·have hb := hz.2; simp only [Rows.uptoBulk] at hb; have := ij (d := z.1) (l := xs.map (·.1)) (Bq.2 ⟨z, A7 h2, rfl⟩); omega
  ·cases h
theorem opu_slice {α : Type} [Inhabited α] {cells : α → List Value} {F : α → Prop} (sz bz : Nat) (hbz : P.bytesOf e = bz) (ht : P.underlying t = some (.slice e)) (hc : P.cellsOf e = sz) (hsz : ∀ a, (cells a).length = sz)
  (hel : ∀ m cs (y : DataW H × List MemPlace), DataW.trod enc P w 0 (fun _ => true) held m e cs = some y → Wu P e y.1 → ∃ a : α, cs = cells a ∧ F a) (h : DataW.trod enc P w 0 (fun _ => true) held fuel t cs = some x) (hz : Wu P t x.1) :
  ∃ s : Sl α, cs = [s.val] ∧ s.l.length ≤ s.cap ∧ s.cap * bz ≤ 140737488351232 ∧ s.l.length ≤ 1048576 ∧ (Fact.sl s.a (s.l.flatMap cells)).holds (fun _ => True) w ∧ ∀ y ∈ s.l, F y := by
 cases fuel with
 | zero => simp [DataW.trod] at h
 | succ n =>
  simp only [DataW.trod, ht] at h
  split at h
  all_goals (try (rename_i hq; cases hq; done))
  all_goals (try (cases h; done))
  all_goals (try (rename_i hq _; cases hq; done))
  ·exact ⟨⟨none, [], 0⟩, rfl, Bj _, by simp, Aj _, .inl rfl, by simp⟩
  ·rename_i e' a len cap he
   cases he; split at h <;> try cases h
   rename_i hb; obtain ⟨elems, hm, h'⟩ := Option.bind_eq_some_iff.1 h; simp only [if_true] at h'; obtain ⟨rest, hr, rfl⟩ := Ef.1 h'; have hzl : ∀ n ∈ (DataW.slice (elems.map (·.1)) (rest.map (·.1))).weights P t, n ≤ 140737488351232 := hz.1; have hbk := hz.2; simp only [Rows.uptoBulk] at hbk; have hln := pz (elems.map (·.1)); have hml := jf hm; simp only [Af, List.length_range] at hln hml; simp only [DataW.weights, ht] at hzl
   have hcb : cap * bz ≤ 140737488351232 := by
    have h1 := hzl _ (Eb); have h2 := jf hm; have h3 := jf hr; simp only [Af, List.length_range] at h1 h2 h3; rw [hbz, h2, h3, show len + (cap - len) = cap by omega] at h1; exact h1
   have hall : ∀ i, i < len → ∃ ys : List Value, w.cells? 0 (a.add (i * sz)) sz = some ys ∧ ∃ q : α, ys = cells q ∧ F q := fun i hi => by
    obtain ⟨z, hz1, hz2⟩ := lD hm i i (List.getElem?_range hi); obtain ⟨ys, h1, h2⟩ := Option.bind_eq_some_iff.1 hz1; rw [hc] at h1; obtain ⟨q, hq, hF⟩ := hel _ _ _ h2 ⟨fun n hn => hzl n (Cc _ (List.mem_append_left _ (gh (Bq.2 ⟨z, A7 hz2, rfl⟩) hn))), by have := ij (d := z.1) (l := elems.map (·.1)) (Bq.2 ⟨z, A7 hz2, rfl⟩); omega⟩; exact ⟨ys, h1, q, hq, hF⟩
   have hlist : ∀ k, k ≤ len → ∃ l : List α, l.length = k ∧ (∀ y ∈ l, F y) ∧ ∀ i, i < k → w.cells? 0 (a.add (i * sz)) sz = some (cells (l.getD i default)) := by
    intro k
    induction k with
    | zero => intro _; exact ⟨[], rfl, by simp, fun i hi => by omega⟩
    | succ k ih =>
     intro hk; obtain ⟨l, h1, h2, h3⟩ := ih (by omega); obtain ⟨ys, hy, q, rfl, hF⟩ := hall k (by omega); refine ⟨l ++ [q], by simp [h1], fun y hy' => ?_, fun i hi => ?_⟩
     ·rcases Ca.1 hy' with h | h
      ·exact h2 y h
      ·simp at h; subst h; exact hF
     ·by_cases hik : i = k
      ·subst hik; rw [hy]; simp [List.getD, ← h1]
      ·rw [h3 i (by omega)]; simp only [List.getD]; rw [B9 (by omega)]
   obtain ⟨l, h1, h2, h3⟩ := hlist len (Bj _); refine ⟨⟨some a, l, cap⟩, by simp [h1], by simp [h1]; exact hb.2.1, hcb, by rw [h1]; omega, sJ fun i v hv => ?_, h2⟩; have hlen := aj l cells sz hsz; have hi : i < l.length * sz := by rw [← hlen]; exact (Ar.1 hv).1
   have hs0 : 0 < sz := by rcases B3 sz with h0 | h0; · subst h0; omega
                           ·exact h0
   have hj : i / sz < l.length := Nat.div_lt_of_lt_mul (by rw [Ai]; exact hi); obtain ⟨_, h5⟩ := cells?_get (h3 (i / sz) (by omega))
   have h6 := h5 (i % sz) v (by
    rw [← fT l cells sz hsz (i / sz) hj, Cz, Ab (Ak _ hs0), C0, Ai, Bb]; exact hv)
   have e1 : (a.add (i / sz * sz)).add (i % sz) = a.add i := by
    have h7 : i / sz * sz + i % sz = i := by rw [Ai]; exact Bb i sz
    have h8 : ∀ p q : Nat, (a.add p).add q = a.add (p + q) := fun p q => by by_cases hp : p = 0 <;> by_cases hq : q = 0 <;> simp [Addr.add, hp, hq, Ct]
    rw [h8, h7]
   rw [e1] at h6; exact h6
end
end Go.Proofs.YtkdlonihbjhhoaaGreatDoor
