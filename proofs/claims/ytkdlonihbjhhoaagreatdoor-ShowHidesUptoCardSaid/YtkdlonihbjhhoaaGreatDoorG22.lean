/-
  Parts of the walk: ShaL Laid LaiE Opu.
-/
import Derived.Test.YtkdlonihbjhhoaaGreatDoorG21
import Derived.Lib.LaidTab
import Derived.Test.YtkdlonihbjhhoaaGreatDoorRows
namespace Go.Proofs.YtkdlonihbjhhoaaGreatDoor
open Go.RowKit
set_option linter.unusedSimpArgs false
set_option linter.unusedVariables false
set_option maxHeartbeats 600000
set_option maxRecDepth 20000
theorem mK {x : Bs} (h : x.length ≤ 8) : val x < 18446744073709551616 := Ay (aL x) (Br (A2 (by decide) h) (by decide))
theorem zK {p : PR} {k : IK} {q : CS} (hfw : gW p k = true) (h1 : val q.sg.e < val p.lo + val p.sz) (h2 : val q.sg.v < val p.bl + val p.bl) {r : Nat} (hr : r < 120) :
  val q.sg.e * r < Big ∧ ((val q.sg.v : Int) - val q.sg.e * r).natAbs < Big := by
 simp only [gW, Cj, decide_eq_true_eq, Bu, List.any_eq_false] at hfw
 obtain ⟨_, _, h3⟩ := hfw
 have m1 := mK (x := p.bl) (by have := h3 p.bl (by simp [fL, fq, pk4]); omega)
 have m2 := mK (x := p.lo) (by have := h3 p.lo (by simp [fL, fq, pk4]); omega)
 have m3 := mK (x := p.sz) (by have := h3 p.sz (by simp [fL, fq, pk4]); omega)
 have b1 : val q.sg.e * r ≤ 36893488147419103232 * 120 := Dw (by omega) (by omega)
 have b2 : 36893488147419103232 * 120 + 36893488147419103232 < Big := by decide +kernel
 have b3 : ((val q.sg.e : Int) * r) = ((val q.sg.e * r : Nat) : Int) := by rw [Bx]
 generalize val q.sg.e * r = x at *
 rw [b3]
 exact ⟨by omega, by omega⟩
theorem uh {n x : Nat} (hn : 2 ≤ n) : ae (x % n) = [1] ↔ x % n = 1 % n := by
 rw [Ah (show 1 < n by omega), ← fc]
theorem shhid_l {p : PR} {k : IK} {q : CS} {ra ma da va za xa : Option Addr} {rc mc dc vc zc' xc : Nat} {w : World} {ok : Nat → Prop} (hF1 : (Fact.sl ra (an k.r)).holds ok w) (hF2 : (Fact.sl ma (an q.ms)).holds ok w) (hF3 : (Fact.sl da (fO q.d)).holds ok w) (hF4 : (Fact.sl va (an q.vs)).holds ok w) (hF5 : (Fact.sl za (aZ q.ws)).holds ok w) (hF6 : (Fact.sl xa (an q.t.vals)).holds ok w) (hr : k.r.length ≤ 1048576) (hm : q.ms.length ≤ 1048576) (hd : q.d.length ≤ 1048576) (hv : q.vs.length ≤ 1048576) (hz : q.ws.length ≤ 1048576) (hx : q.t.vals.length ≤ 1048576) (hT : Tab w) (hD : TabD w) :
  Cw 7 #[prV p, ikV k (.slice ra k.r.length rc), csV q (.slice ma q.ms.length mc) (.slice da q.d.length dc) (.slice va q.vs.length vc) (.slice za q.ws.length zc') (.slice xa q.t.vals.length xc)] w (.bool true) := by
 refine En [Fact.sl ra (an k.r), Fact.sl ma (an q.ms), Fact.sl da (fO q.d), Fact.sl va (an q.vs), Fact.sl za (aZ q.ws), Fact.sl xa (an q.t.vals)] [(0, prV p), (1, ikV k (.slice ra k.r.length rc)), (2, csV q (.slice ma q.ms.length mc) (.slice da q.d.length dc) (.slice va q.vs.length vc) (.slice za q.ws.length zc') (.slice xa q.t.vals.length xc))] Tryz.func7 I Tryz.ntmps7 I (Ac I (Ac I (Ac I (An _)))) (Fc (ah hF1) (Fc (ah hF2) (Fc (ah hF3) (Fc (ah hF4) (Fc (ah hF5) (Fc (ah hF6) Fn)))))) (DO ?_)
 intro b3
 refine EW ?_
 intro b4
 refine EW ?_
 intro b5
 refine Ka I (Nt (Cq (Cs (Kq I (lda I I .tc u30 I ?_) ?_))))
 ·kernel_rfl
 refine Kq I (lda I I .tc u33 I ?_) ?_
 ·kernel_rfl
 refine Kq I (lda I I .tc u43 I ?_) ?_
 ·kernel_rfl
 refine Kh I (Oc I I (iN fun w hS => yJ (p := p) (k := k) (q := q) (by (exact hS.slo)) (by (exact hS.slo)) (by (exact hS.slo)) (by (exact hS.slo)) (by (exact hS.slo)) (by (exact hS.slo)) (by assumption) (by assumption) (by assumption) (by assumption) (by assumption) (by assumption))) ?_
 rintro bb
 refine WL.pu ?_
 intro hg20; (try dsimp only [List.cons_append, List.nil_append] at hg20 ⊢)
 refine Eq (fun hc21 => ?_) (fun hc21 => ?_)
 ·refine Cs (Kc I (fun w hS => jy (by (exact dZ hT hS)) (by (exact bh hD hS))) (ne ?_))
  exact GH
 ·obtain ⟨hfw, hsm, hsg⟩ := hg20 (by simpa using hc21)
  obtain ⟨hm8, hk8, hk8', hk60⟩ := fC hfw
  obtain ⟨hN, _, hel, hoe, hov, _, he2, hv2, _⟩ := id hsg
  obtain ⟨_, _, _, hq2, hg, _, _, hbs⟩ := bC hN
  have hks : elG k.g k.s := hbs k.s (by simp)
  have hn2 : 2 ≤ val k.g.1 := (cq hg).2.2.1
  refine Ck (Xa (Cq (WC.free (K := [⟨some b4, ikC k (.slice ra k.r.length rc), 33⟩]) (fs0 := []) [0, 1, 2, 3] [] [0, 0, 0, 0] (by kernel_rfl) (by kernel_rfl) I ?_)))
  refine Kj I (Fa (q := 4) I I u33 I I) (DY ?_)
  refine WJ.set 24 I (v' := .string (S (ae (val k.s ^ 1 % val k.g.1)))) (congrArg (fun l => Value.string (S l)) (by (exact CY hN))) ?_
  refine ES ?_; refine ES ?_
  refine WJ.nil ?_
  refine Nt (Cq (Cb (Lp (σ := Nat) [(3, _), (4, _), (5, _)] (fun gq => [(7, .int .i64 (gq : Int)), (8, .string (S (ae (val k.s ^ gq % val k.g.1))))]) (fun gq => (1 ≤ gq ∧ gq ≤ 61) ∧ ∀ i, 0 < i → i < gq → val k.s ^ i % val k.g.1 ≠ 1 % val k.g.1) (fun gq => 61 - gq) (1) (S3 I I I) (S2 I I) (by (try dsimp only); exact ⟨⟨Bd _, by decide⟩, fun i h1 h2 => absurd h2 (by omega)⟩) ?_)))
  rintro j hinv1; (try dsimp only at hinv1 ⊢)
  obtain ⟨⟨hj1, hj61⟩, hmin⟩ := hinv1
  refine Cq (WC.joinP (σ := Unit) [(3, _), (4, _), (5, _), (7, _), (8, _)] (fun gq => [(30, .bool (decide (val k.s ^ j % val k.g.1 ≠ 1 % val k.g.1 ∧ j ≤ 60)))]) (fun gq => True) (S5 I I I I I) ?_ ?_)
  ·skip
   refine Cg (Km I (Yr I (Ns 26 I (v' := .bool (decide (val k.s ^ j % val k.g.1 ≠ 1 % val k.g.1))) (congrArg Value.bool (by simp [uh hn2])) ?_))); refine Km I (Nc 27 I (fun hg27 => ?_) (fun hg27 => ?_))
   ·refine Km I (Ym I (Yp I (Nn (WX.joinP (()) (S5 I I I I I) (by refine (Sc ?_ (S0 _)) <;> ((refine ai rfl ?_; (try dsimp only); (exact Af.2 (by omega))))) ?_ (fun _ h => h))))); (try dsimp only); done
   ·refine T2 I (Yq I (Nn (WX.joinP (()) (S5 I I I I I) (by refine (Sc ?_ (S0 _)) <;> ((refine ai rfl ?_; (try dsimp only); (simp [*]; done)))) ?_ (fun _ h => h)))); (try dsimp only); done
  ·rintro _ hmeet; (try dsimp only at hmeet ⊢); refine Ci I (fun hc30 => ?_) (fun hc30 => ?_)
   ·refine Ck (Xa (Cq (Cb (Cg (Kq I (Fa (q := 1) I I u33 I I) (Kq I (ldp I I .tc u26 I (by kernel_rfl : _ = some 2) (by rfl) (by rfl)) ?_)))))); refine Km I (Kf 4 I u33 I I I .tc u22 ?_); refine Kc I (fun w hS => wy (g := k.g) (a := ae (val k.s ^ j % val k.g.1)) (b := k.s) (by exact hk8) (by exact hg) (by exact AJ hN j) (by exact hks)) (Km I (Ye I (Ns 40 I (v' := .string (S (ae (val k.s ^ (j + 1) % val k.g.1)))) (congrArg (fun l => Value.string (S l)) (by rw [af, Nat.mod_mul_mod, As])) ?_))); refine Ye I (Ka I (Nn (Xd (Xa (Cg (Km I (Kq I (Rz I I I (by omega)) (Ka I (Nn (Ly (j + 1) (by (try dsimp only); omega) (S3 I I I) (by refine (Sc ?_ (Sc ?_ (S0 _))) <;> (rfl)) ?_ (fun _ h => h))))))))))); (try dsimp only)
    exact ⟨⟨by omega, by omega⟩, fun i h1 h2 => by
      rcases C4.1 h2 with h | h
      ·exact hmin i h1 h
      ·subst h; exact hc30.1⟩
   ·refine AT ?_; refine Xa (Cq ?_); refine WC.joinP (σ := Unit) [(3, _), (4, _), (5, _), (7, _)] (fun gq => [(47, .bool (decide (60 < j ∨ j = 1)))]) (fun gq => True) (S4 I I I I) ?_ ?_
    ·skip
     refine Cg (Km I (Yg I (Km I (Nc 44 I (fun hg44 => ?_) (fun hg44 => ?_)))))
     ·refine T2 I (Yp I (Nn (WX.joinP (()) (S4 I I I I) (by refine (Sc ?_ (S0 _)) <;> ((exact congrArg (fun b => some (Value.bool b)) (by symm; apply Am; omega)))) ?_ (fun _ h => h)))); (try dsimp only); done
     ·refine Km I (Yi I (Yq I (Nn (WX.joinP (()) (S4 I I I I) (by refine (Sc ?_ (S0 _)) <;> ((refine ai rfl ?_; (try dsimp only); (exact Af.2 (by omega))))) ?_ (fun _ h => h))))); (try dsimp only); done
    ·rintro _ hmeet; (try dsimp only at hmeet ⊢); refine Ci I (fun hc47 => ?_) (fun hc47 => ?_)
     ·refine Cs (Kc I (fun w hS => jy (by (exact dZ hT hS)) (by (exact bh hD hS))) (ne ?_)); exact GH
     ·have hj2 : 2 ≤ j := by omega
      have hj60 : j ≤ 60 := by omega
      have ho : val k.s ^ j % val k.g.1 = 1 % val k.g.1 := A1 fun h => hc30 ⟨h, hj60⟩
      have hinj : ∀ i i', i < i' → i' < j → hdA k q.sg i ≠ hdA k q.sg i' := fun i i' h1 h2 => zJ hN hel hmin h1 h2
      have hper : ∀ r, hdA k q.sg (r + j) = hdA k q.sg r := fun r => zI ho r
      have hmB : 2 * j < Big := Ay (show 2 * j < 256 by omega) (by decide +kernel); have hmo : okN (ae (2 * j)) := aq hmB; have hmv : val (ae (2 * j)) = 2 * j := af _; have e0 : cnM (hdA k q.sg) j 0 = [] := by simp [cnM]
      refine FN ?_; refine Kq I (bZ I I I (by omega)) (Ns 50 I (v' := .int .i64 ((2 * j : Nat) : Int)) (congrArg (Value.int .i64) (by omega)) ?_); refine Kq I (fX I I u3 u76 ?_) ?_
      ·(rw [IntKind.wrap_u64]; omega)
      refine Kc I (fun w hS => dJ (n := 2 * j) (by omega)) (Kq I (Fa (q := 16) I I u30 I I) (Ng I I (st I I I .tc (by kernel_rfl) I ?_ (by (simp only [Av, Aw]; rfl))) ?_))
      ·(simp; done)
      intro _; refine Nt (Cs (Kh I (xk I) ?_)); intro b54; refine WL.pu ?_; intro hb54; (try dsimp only at hb54 ⊢); refine DR ?_; refine Kq I (bZ I I I (by omega)) (Km I (Nt (Cb (Lo (σ := Nat) [(3, _), (4, _), (5, _), (7, _), (9, _), (56, _)] (fun gq => [(57, .int .i64 (gq : Int))]) (fun gq => gq ≤ 2 * j) (fun gq => 2 * j - gq) (fun gq => [⟨some b5, csC q (.slice ma q.ms.length mc) (.slice da q.d.length dc) (.slice va q.vs.length vc) (.slice za q.ws.length zc') (.slice xa q.t.vals.length xc), 43⟩, ⟨some b4, ikC k (.slice ra k.r.length rc), 33⟩, ⟨some b3, prC (mkP p (ae (2 * j))), 30⟩]) (fun gq => [Fact.mq b54 (cnM (hdA k q.sg) j gq), Fact.sl ra (an k.r)]) (0) (S6 I I I I I I) (S1 I) (by (try dsimp only); exact Ai _) (by exact fun w h => by show St _ _ [⟨some b5, _, _⟩, ⟨some b4, _, _⟩, ⟨some b3, _, _⟩] [Fact.mq b54 (cnM (hdA k q.sg) j 0), _] _; rw [e0]; exact au _ h) ?_)))); rintro r hinv2; (try dsimp only at hinv2 ⊢); obtain hr2 := hinv2; refine DP (fun hc58 => ?_) (fun hc58 => ?_)
      ·have hrl : r < 2 * j := by omega
       have hrB : r < Big := by omega
       obtain ⟨hb1, hb2⟩ := zK hfw he2 hv2 (r := r) (by omega); obtain ⟨hz2, hza⟩ := yO (m := ae (2 * j)) (r := r) hN hmo (by omega) (by omega) hel hoe hov hb1 hb2; refine El ?_; refine Ka I (Nt (Cq (WC.free (K := [⟨some b5, csC q (.slice ma q.ms.length mc) (.slice da q.d.length dc) (.slice va q.vs.length vc) (.slice za q.ws.length zc') (.slice xa q.t.vals.length xc), 43⟩, ⟨some b4, ikC k (.slice ra k.r.length rc), 33⟩, ⟨some b3, prC (mkP p (ae (2 * j))), 30⟩]) (fs0 := [Fact.sl ra (an k.r)]) [4, 5, 6, 0, 1, 2, 3, 7, 8, 9, 10, 11, 12, 15, 16, 17, 18, 13, 19, 14, 20] [] [0, 0, 0, 0, 0, 0, 1, 3, 0, 1, 0, 0, 0, 0, 0, 3, 3, 0, 1, 1, 0] (by kernel_rfl) (by kernel_rfl) I ?_))); refine ER ?_; refine Kj I (fX I I u3 u76 ?_) ?_
       ·(rw [IntKind.wrap_u64]; omega)
       refine Jv I I I I I (fun ext => Oc I I (Kv fun w hS => dJ (n := r) (by omega))) ?_; refine Kj I (lda I I .tc u30 I ?_) ?_
       ·kernel_rfl
       refine Kj I (lda I I .tc u33 I ?_) ?_
       ·kernel_rfl
       refine Kj I (Fa (q := 0) I I u43 I I) ?_; refine Kj I (ldp I I .tc u35 I (by kernel_rfl : _ = some 3) (by rfl) (by rfl)) ?_; refine Jf I I I I I (ia I I u31 (by kernel_rfl : _ = some (some (.string (S [])), 1, 16)) I (by simp only [List.map]; rfl) I I ?_ (by decide)) ?_
       ·simp [Value.cells]
       intro b68; refine Kj I (Kb [[.slice none 0 0], [.string (S [])], [.int .i64 0]] I I) ?_; refine Jg I I I I I (fun ext => Oc I I (fx fun w hS => pZ (p := mkP p (ae (2 * j))) (k := k) (s := q.sg) (t := ⟨[ae r], [], 0⟩) (by (exact hS.sl)) (by (exact hS.os)) (by assumption) (by assumption) (by omega) (by omega) (by (simp <;> omega)) (by (simp <;> omega)) (by (exact dZ hT hS)) (by (exact bh hD hS)))) ?_; intro g70 hg70; (try dsimp only at hg70 ⊢); dsimp only [rnV]; rw [hz2, hza]; refine Kj I (Rm I I) (Kj I (Re I I I) (Kj I (Re I I I) ?_)); refine Jf I I I I I (bJ I (v := (.agg #[.bool false, .string (S [])])) (cs := [.bool false, .string (S [])]) (by kernel_rfl) I) ?_; intro b12; refine Jf I I I I I (bJ I (v := (.agg #[.slice none 0 0, .string (S []), .int .i64 0])) (cs := [.slice none 0 0, .string (S []), .int .i64 0]) (by kernel_rfl) I) ?_; intro b13; refine Kj I (Ra I I) ?_; refine WJ.st I I I I (gS I I I ?_ ?_ ?_) ?_
       ·kernel_rfl
       ·simp [Value.oneCell']
       ·rfl
       refine F3 ?_; refine WJ.st I I I I (gS I I I ?_ ?_ ?_) ?_
       ·kernel_rfl
       ·simp [Value.oneCell']
       ·rfl
       refine Kj I (Re I I I) (Kj I (Ra I I) ?_); refine WJ.nil ?_; refine Nt (Cq (Cs (Km I (Yj I (Ns 76 I (v' := .bool false) (by rfl) ?_))))); refine Nt (Cd I (fun h => by cases h) (fun _ => ?_)); refine Ck (Xa (Cg (WL.st (fun w h => show St _ _ [⟨some b5, csC q (.slice ma q.ms.length mc) (.slice da q.d.length dc) (.slice va q.vs.length vc) (.slice za q.ws.length zc') (.slice xa q.t.vals.length xc), 43⟩, ⟨some b4, ikC k (.slice ra k.r.length rc), 33⟩, ⟨some b3, prC (mkP p (ae (2 * j))), 30⟩] [Fact.mq b54 (cnM (hdA k q.sg) j r), Fact.sl ra (an k.r)] w from au _ h) ?_))); have hcn : cnt j r ≤ 1 := by rw [cnt]; split <;> omega
       refine Km I (Km I (Kq I (tR (zv := (.int .i64 0)) I I I u77 u22 (by kernel_rfl)) (Ns 79 I (v' := .int .i64 ((cnt j r : Nat) : Int)) (xU hinj hper hrl) (Kq I (Rz I I I (by omega)) (Ns 80 I (v' := .int .i64 ((cnt j r + 1 : Nat) : Int)) (congrArg (Value.int .i64) (by omega)) ?_))))); refine Nu I I (xl I (by assumption) I I I u77 u22) ?_; rw [xT hinj hper hrl]; refine Nn (Xd (Xa (Cg (Kq I (Rz I I I (by omega)) (Km I (Nn (Lx (r + 1) (by (try dsimp only); omega) (S6 I I I I I I) (by refine (Sc ?_ (S0 _)) <;> (rfl)) ?_ (fun _ h => h)))))))); (try dsimp only); exact hrl
      ·refine AT ?_; obtain rfl : r = 2 * j := by omega
       have hml : (cnM (hdA k q.sg) j (2 * j)).length = j := by rw [j9]; omega
       refine Xa (Cq (Cs (Km I (Kh I (rZ I I u77) ?_)))); intro b83; refine WL.pu ?_; intro hb83; (try dsimp only at hb83 ⊢); refine Nt (Cb (Lo (σ := Nat × (Option (Value × Value))) [(7, _), (9, _), (83, _)] (fun gq => []) (fun gq => 0 ≤ gq.1) (fun gq => gq.1) (fun gq => [⟨some b5, csC q (.slice ma q.ms.length mc) (.slice da q.d.length dc) (.slice va q.vs.length vc) (.slice za q.ws.length zc') (.slice xa q.t.vals.length xc), 43⟩, ⟨some b4, ikC k (.slice ra k.r.length rc), 33⟩, ⟨some b3, prC (mkP p (ae (2 * j))), 30⟩]) (fun gq => [Fact.it b54 b83 gq.1 gq.2, Fact.mq b54 (cnM (hdA k q.sg) j (2 * j)), Fact.sl ra (an k.r)]) ((cnM (hdA k q.sg) j (2 * j)).length, none) (S3 I I I) (S0 _) (by (try dsimp only); exact Ai _) (by exact fun w h => h) ?_)); rintro ⟨n, cur⟩ hinv3; (try dsimp only at hinv3 ⊢); obtain hn0 := hinv3; refine Cs (Kh I (ui I (by assumption) I) ?_); intro g84; refine WL.pu ?_; intro hg84; (try dsimp only at hg84 ⊢); refine Kq I (yX I I) (Nt (Cq (Ci I (fun hc85 => ?_) (fun hc85 => ?_))))
       ·obtain ⟨c, kk, vv, m⟩ := g84; obtain rfl : c = true := hc85; obtain ⟨hmn, pp, hpp, hpv⟩ := hg84.2 rfl; obtain rfl : vv = .int .i64 2 := hpv.trans (zW hpp); rw [Ab rfl]; refine Ck (Xa (Cb (Cs (Kq I (rJ I I) (Ye I (DT ?_)))))); refine Yj I (Ns 89 I (v' := .bool false) (by rfl) ?_); refine Fg (fun _ => ?_); refine Ck (Xd (Lx ((m, some (kk, .int .i64 2))) (by exact hmn) (S3 I I I) (S0 _) ?_ (by exact fun w h => h))); (try dsimp only); exact Ai _
       ·refine AT ?_; refine Xa (Cs ?_); refine WL.st (fun w h => show St _ _ [] [Fact.mq b54 (cnM (hdA k q.sg) j (2 * j)), Fact.sl ra (an k.r)] w from au _ h) ?_; refine Km I (Kq I (wV I I u77) ?_); rw [hml]; refine Km I (Yi I (Km I (Ns 94 I (v' := .bool true) (by (exact congrArg Value.bool (by simp [*]; done))) ?_))); refine Kc I (fun w hS => jy (by (exact dZ hT hS)) (by (exact bh hD hS))) (Yp I (to ?_)); exact GH
theorem laidVars_tail {P : Program} {w : World} {x : String × DataW Unit} {r : List (String × DataW Unit)} {ps : List MemPlace} (h : DataW.LaidVars P w (x :: r) ps) : ∃ q, DataW.LaidVars P w r q := by
 obtain ⟨n, d⟩ := x
 obtain ⟨g, t, cs, fuel, p, q, _, _, _, _, h, _⟩ := h
 exact ⟨q, h⟩
theorem tab_of_vars {P : Program} {W : World} {name : String} {k : IntKind} {zs : List Int} {rest : List (String × DataW Unit)} {ps : List MemPlace} {t e : TypeId} {n : Nat}
  (hty : ((P.globalNamed name).bind fun g => (P.globals[g]?).map (·.type)) = some t) (ht : P.underlying t = some (.array n e)) (he : P.underlying e = some (.int k)) (hce : P.cellsOf e = 1) (hct : P.cellsOf t = n)
  (h : DataW.LaidVars P W ((name, Lib.tabData k zs) :: rest) ps) : Lib.TabIs P W name k zs := by
 obtain ⟨g', t', cs, fuel, p, q, hg', ht', hvar, hd, _, _⟩ := h
 rw [hg', Option.bind_some] at hty
 obtain rfl := Option.some.inj (hty.symm.trans ht')
 unfold Lib.TabIs
 rw [hvar, ← Lib.cells_of_tab ht he hce hct hd]
theorem wf_u8 {n : Int} (h : (Lit.int .u8 n).wf = true) : 0 ≤ n ∧ n ≤ 255 := by
 have e1 : IntKind.u8.min = 0 := by decide
 have e2 : IntKind.u8.max = 255 := by decide
 simp [Lit.wf, e1, e2] at h; omega
theorem wf_i64 {n : Int} (h : (Lit.int .i64 n).wf = true) : -9223372036854775808 ≤ n ∧ n ≤ 9223372036854775807 := by
 have e1 : IntKind.i64.min = -9223372036854775808 := by decide
 have e2 : IntKind.i64.max = 9223372036854775807 := by decide
 simp [Lit.wf, e1, e2] at h; omega
theorem tabd_of_is {W : World} (h : Lib.TabIs Tryz.prog W "math/bits.deBruijn64tab" .u8 (Lib.deBruijn64tab.map fun n : Nat => (n : Int))) : TabD W := by
 intro j hj
 have h1 : W.var? Tryz.prog "math/bits.deBruijn64tab" = some ((Lib.deBruijn64tab.map fun n : Nat => (n : Int)).map fun z => Value.int .u8 z).toArray := h
 have hg : Tryz.prog.globalNamed "math/bits.deBruijn64tab" = some (renTz.g 1) := by kernel_rfl
 unfold World.var? at h1
 rw [hg, Option.bind_some] at h1
 unfold World.cell?
 show (match W.heap[renTz.g 1]? with | some (.cells c _ _) => if (none : Option _).isSome = true then none else c[j]? | _ => none) = _
 cases hh : W.heap[renTz.g 1]? with
 | none => rw [hh] at h1; cases h1
 | some o =>
  rw [hh] at h1
  cases o with
  | cells c t k =>
   simp only [Option.some.injEq] at h1; subst h1; rw [List.map_map]; simp only [Option.isSome_none, Dc, if_false, De, A6]; rw [List.getD_eq_getElem?_getD, Ad hj]; rfl
  | _ => cases h1
end Go.Proofs.YtkdlonihbjhhoaaGreatDoor
namespace Go.Proofs.YtkdlonihbjhhoaaGreatDoor
set_option linter.unusedSimpArgs false
set_option linter.unusedVariables false
open Go.ChangeShapes Go.WideShapes Go.ChangeAt Go.RowKit
theorem vn {H : Type} (d : DataW H) : 1 ≤ Rows.uptoBulk d := by
 cases d with
 | lit l => cases l <;> simp [Rows.uptoBulk]
 | _ => simp [Rows.uptoBulk]
theorem gP {H : Type} {d : DataW H} : ∀ {l : List (DataW H)}, d ∈ l → Rows.uptoBulk d ≤ Rows.uptoBulkAll l
 | [], h => by cases h
 | x :: l, h => by
  simp only [Rows.uptoBulkAll]
  rcases A7.1 h with rfl | h
  ·omega
  ·have := gP h; omega
theorem oI {H : Type} : ∀ l : List (DataW H), l.length ≤ Rows.uptoBulkAll l
 | [] => by simp [Rows.uptoBulkAll]
 | x :: l => by have := vn x; have := oI l; simp only [Rows.uptoBulkAll, Ar]; omega
def Wu {H : Type} (P : Program) (t : TypeId) (d : DataW H) : Prop := Wt P t d ∧ Rows.uptoBulk d ≤ 1048576
theorem wu_all {H : Type} {P : Program} {t : TypeId} {d : DataW H} {l : List (DataW H)} (h : Wt P t d) (hd : d ∈ l) (hb : Rows.uptoSmall H l = true) : Wu P t d := ⟨h, by
 have h1 := gP hd
 have h2 : Rows.uptoBulkAll l ≤ 1048576 := of_decide_eq_true hb
 omega⟩
section
variable {H : Type} {enc : TypeId × Value → H} {P : Program} {w : World} {spare : Nat → Bool} {held : Bool} {fuel : Nat} {t e : TypeId} {cs : List Value} {x : DataW H × List MemPlace}
theorem opu_str (ht : P.underlying t = some .string) (h : DataW.trod enc P w 0 spare held fuel t cs = some x) (hz : Wu P t x.1) : ∃ s : List UInt8, cs = [.string (S s)] ∧ s.length ≤ 140737488351232 := xj ht h hz.1
theorem opu_struct {fs : Array Field} (ht : P.underlying t = some (.struct fs)) (h : DataW.trod enc P w 0 spare held fuel t cs = some x) (hz : Wu P t x.1) :
  cs.length = P.cellsOf t ∧ ∃ m, ∀ (j : Nat) f, fs.toList[j]? = some f → ∃ y, DataW.trod enc P w 0 spare held m f.type ((cs.drop f.offset).take (P.cellsOf f.type)) = some y ∧ Wu P f.type y.1 := by
 cases fuel with
 | zero => simp [DataW.trod] at h
 | succ n =>
  simp only [DataW.trod, ht] at h
  split at h
  ·rename_i hl; refine ⟨hl, n, fun j f hf => ?_⟩; obtain ⟨xs, hxs, rfl⟩ := Dn.1 h; obtain ⟨z, h1, h2⟩ := kZ hxs j f hf; refine ⟨z, h1, fun n hn => hz.1 n ?_, ?_⟩
   ·simp only [DataW.weights, ht]; exact DataW.weights_mem_each (j := j) (by rw [A6, hf]; rfl) (by rw [A6, h2]; rfl) n hn
   ·have hb := hz.2; simp only [Rows.uptoBulk] at hb; have := gP (d := z.1) (l := xs.map (·.1)) (B9.2 ⟨z, A9 h2, rfl⟩); omega
  ·cases h
theorem opu_slice {α : Type} [Inhabited α] {cells : α → List Value} {F : α → Prop} (sz bz : Nat) (hbz : P.bytesOf e = bz) (ht : P.underlying t = some (.slice e)) (hc : P.cellsOf e = sz) (hsz : ∀ a, (cells a).length = sz)
  (hel : ∀ m cs (y : DataW H × List MemPlace), DataW.trod enc P w 0 (fun _ => true) held m e cs = some y → Wu P e y.1 → ∃ a : α, cs = cells a ∧ F a) (h : DataW.trod enc P w 0 (fun _ => true) held fuel t cs = some x) (hz : Wu P t x.1) :
  ∃ s : Sl α, cs = [s.val] ∧ s.l.length ≤ s.cap ∧ s.cap * bz ≤ 140737488351232 ∧ s.l.length ≤ 1048576 ∧ (Fact.sl s.a (s.l.flatMap cells)).holds (fun _ => True) w ∧ ∀ y ∈ s.l, F y := by
 cases fuel with
 | zero => simp [DataW.trod] at h
 | succ n =>
  simp only [DataW.trod, ht] at h
  split at h
  all_goals (try (rename_i hq; cases hq; done))
  all_goals (try (cases h; done))
  all_goals (try (rename_i hq _; cases hq; done))
  ·exact ⟨⟨none, [], 0⟩, rfl, Bd _, by simp, Ai _, .inl rfl, by simp⟩
  ·rename_i e' a len cap he
   cases he; split at h <;> try cases h
   rename_i hb; obtain ⟨elems, hm, h'⟩ := Option.bind_eq_some_iff.1 h; simp only [if_true] at h'; obtain ⟨rest, hr, rfl⟩ := Dn.1 h'; have hzl : ∀ n ∈ (DataW.slice (elems.map (·.1)) (rest.map (·.1))).weights P t, n ≤ 140737488351232 := hz.1; have hbk := hz.2; simp only [Rows.uptoBulk] at hbk; have hln := oI (elems.map (·.1)); have hml := iM hm; simp only [Ag, List.length_range] at hln hml; simp only [DataW.weights, ht] at hzl
   have hcb : cap * bz ≤ 140737488351232 := by
    have h1 := hzl _ (List.mem_cons_self); have h2 := iM hm; have h3 := iM hr; simp only [Ag, List.length_range] at h1 h2 h3; rw [hbz, h2, h3, show len + (cap - len) = cap by omega] at h1; exact h1
   have hall : ∀ i, i < len → ∃ ys : List Value, w.cells? 0 (a.add (i * sz)) sz = some ys ∧ ∃ q : α, ys = cells q ∧ F q := fun i hi => by
    obtain ⟨z, hz1, hz2⟩ := kZ hm i i (D7 hi); obtain ⟨ys, h1, h2⟩ := Option.bind_eq_some_iff.1 hz1; rw [hc] at h1; obtain ⟨q, hq, hF⟩ := hel _ _ _ h2 ⟨fun n hn => hzl n (Dk _ (List.mem_append_left _ (fP (B9.2 ⟨z, A9 hz2, rfl⟩) hn))), by have := gP (d := z.1) (l := elems.map (·.1)) (B9.2 ⟨z, A9 hz2, rfl⟩); omega⟩; exact ⟨ys, h1, q, hq, hF⟩
   have hlist : ∀ k, k ≤ len → ∃ l : List α, l.length = k ∧ (∀ y ∈ l, F y) ∧ ∀ i, i < k → w.cells? 0 (a.add (i * sz)) sz = some (cells (l.getD i default)) := by
    intro k
    induction k with
    | zero => intro _; exact ⟨[], rfl, by simp, fun i hi => by omega⟩
    | succ k ih =>
     intro hk; obtain ⟨l, h1, h2, h3⟩ := ih (by omega); obtain ⟨ys, hy, q, rfl, hF⟩ := hall k (by omega); refine ⟨l ++ [q], by simp [h1], fun y hy' => ?_, fun i hi => ?_⟩
     ·rcases B6.1 hy' with h | h
      ·exact h2 y h
      ·simp at h; subst h; exact hF
     ·by_cases hik : i = k
      ·subst hik; rw [hy]; simp [List.getD, ← h1]
      ·rw [h3 i (by omega)]; simp only [List.getD]; rw [B5 (by omega)]
   obtain ⟨l, h1, h2, h3⟩ := hlist len (Bd _); refine ⟨⟨some a, l, cap⟩, by simp [h1], by simp [h1]; exact hb.2.1, hcb, by rw [h1]; omega, rB fun i v hv => ?_, h2⟩; have hlen := aj l cells sz hsz; have hi : i < l.length * sz := by rw [← hlen]; exact (Al.1 hv).1
   have hs0 : 0 < sz := by rcases B0 sz with h0 | h0; · subst h0; omega
                           ·exact h0
   have hj : i / sz < l.length := Nat.div_lt_of_lt_mul (by rw [Aj]; exact hi); obtain ⟨_, h5⟩ := cells?_get (h3 (i / sz) (by omega))
   have h6 := h5 (i % sz) v (by
    rw [← fB l cells sz hsz (i / sz) hj, Cu, Ab (Ak _ hs0), Cv, Aj, Bc]; exact hv)
   have e1 : (a.add (i / sz * sz)).add (i % sz) = a.add i := by
    have h7 : i / sz * sz + i % sz = i := by rw [Aj]; exact Bc i sz
    have h8 : ∀ p q : Nat, (a.add p).add q = a.add (p + q) := fun p q => by by_cases hp : p = 0 <;> by_cases hq : q = 0 <;> simp [Addr.add, hp, hq, Co]
    rw [h8, h7]
   rw [e1] at h6; exact h6
end
end Go.Proofs.YtkdlonihbjhhoaaGreatDoor
