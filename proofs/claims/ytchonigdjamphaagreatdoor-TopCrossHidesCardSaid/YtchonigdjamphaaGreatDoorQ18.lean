/-
  Parts of the walk: Sge Sgf Ssa Trd Trf Fs1 Fs2.
-/
import Derived.Test.YtchonigdjamphaaGreatDoorQ17
import Derived.Lib.ConvBytes
namespace Go.Proofs.YtchonigdjamphaaGreatDoor
open Go.RowKit
set_option linter.unusedSimpArgs false
set_option linter.unusedVariables false
set_option maxHeartbeats 600000
set_option maxRecDepth 20000
theorem lg {x : Bs} {n : Nat} (h : okN x) (hl : val x < 256 ^ n) : x.length ≤ n := by rw [← bT h]; exact aX.2 hl
theorem e64 : (256 : Nat) ^ 8 = 18446744073709551616 := by decide
theorem EC : (256 : Nat) ^ 24 = 18446744073709551616 * 18446744073709551616 * 18446744073709551616 := by decide
theorem qV {s : Sm} {ws : List Zs} (h : inR s ws) (hw : ws.length = s.2.1.length) (hz : ∀ x ∈ ws, okZ x) (h6 : ∀ v ∈ s.2.1, v.length ≤ 8) (hq : (ak s.1).length ≤ 8) : ∀ x ∈ ws, okZ x ∧ x.2.length ≤ 8 := by
 intro x hx
 obtain ⟨i, hi, rfl⟩ := Dz.1 hx
 have h1 := kl.1 (h i (by omega))
 have e : ws.getD i default = ws[i] := by rw [List.getD_eq_getElem?_getD, Ad hi]; rfl
 rw [e] at h1
 refine ⟨hz _ hx, lg (hz _ hx).1 (Aw h1.1 ?_)⟩
 refine Nat.le_of_lt (Aw (aG _) (Ar (by decide) ?_))
 split
 ·exact hq
 ·exact h6 _ (aj _ _ (by omega))
def mkR (r : Gp) (q : Bs) (vs : List Bs) (ms : List Zs) : Prop := ∀ i, i < vs.length → blw (vs.getD i default) (ms.getD i default) (val (aw r q (vs.getD i default)).1)
instance (r : Gp) (q : Bs) (vs : List Bs) (ms : List Zs) : Decidable (mkR r q vs ms) := inferInstanceAs (Decidable (∀ i, i < vs.length → _))
theorem AW {r : Gp} {q v : Bs} (h4 : r.1.length ≤ 8) (h5 : r.2.length ≤ 8) (h6 : v.length ≤ 8) (hq : q.length ≤ 8) : val (aw r q v).1 < 256 ^ 24 := by
 rw [aw]; split
 ·exact Aw (aG q) (Ar (by decide) (by omega))
 ·rw [ah, EC]
  have a1 := cz h4; have a2 := cz h5; have a3 := cz h6
  exact De (De a2 a1) a3
theorem iV {r : Gp} {q v : Bs} (h4 : r.1.length ≤ 8) (h5 : r.2.length ≤ 8) (h6 : v.length ≤ 8) (hq : okN q) : okN (aw r q v).1 ∧ okN (aw r q v).2 := by
 have h := nJ h4 h5 h6
 rw [aw]; split
 ·exact ⟨hq, hq⟩
 ·exact ⟨az h, az (Bb (Eb _ _) h)⟩
theorem xM {r : Gp} {q : Bs} {vs : List Bs} {ms : List Zs} (h : mkR r q vs ms) (hw : ms.length = vs.length) (hz : ∀ x ∈ ms, okZ x) (h4 : r.1.length ≤ 8) (h5 : r.2.length ≤ 8) (h6 : ∀ v ∈ vs, v.length ≤ 8) (hq : q.length ≤ 8) : ∀ x ∈ ms, okZ x ∧ x.2.length ≤ 24 := by
 intro x hx
 obtain ⟨i, hi, rfl⟩ := Dz.1 hx
 have h1 := h i (by omega)
 have e : ms.getD i default = ms[i] := by rw [List.getD_eq_getElem?_getD, Ad hi]; rfl
 rw [e] at h1
 exact ⟨hz _ hx, lg (hz _ hx).1 (C9 h1.1 (AW h4 h5 (h6 _ (aj _ _ (by omega))) hq))⟩
def dY (r : Gp) (s : Sm) (ws ms : List Zs) (c : Bs) : List Zs × Int :=
 if bdE r s ≠ 0 then ([], bdE r s)
 else if ¬ (bO ws ∧ bO ms ∧ okN c) then ([], 3)
 else if ¬ (ws.length = s.2.1.length ∧ ms.length = s.2.1.length) then ([], 6)
 else if ¬ (val c < val r.1 ∧ inR s ws) then ([], 2)
 else if ¬ mkR r (ak s.1) s.2.1 ms then ([], 2)
 else kL r (ak s.1) s.2.1 (val c) ws ms
theorem dg {r : Gp} {s : Sm} (h : bdE r s = 0) : (okN r.1 ∧ okN r.2) ∧ dQ s = 0 ∧ (2 ≤ val r.1 ∧ 2 ≤ val r.2) ∧ (∀ v ∈ s.2.1, v = [] → val r.1 ≤ val (ak s.1)) := by
 unfold bdE at h
 split at h
 ·simp at h
 ·rename_i h1; split at h
  ·rename_i h2; exact absurd h h2
  ·rename_i h2; split at h
   ·simp at h
   ·rename_i h3; split at h
    ·simp at h
    ·rename_i h4; exact ⟨Ah.1 h1, Ah.1 h2, Ah.1 h3, Ah.1 h4⟩
theorem cX {s : Sm} (h : dQ s = 0) : bc s ∧ dD s ∧ elS s ∧ kdS s := by
 unfold dQ at h
 split at h
 ·simp at h
 ·rename_i h1; split at h
  ·simp at h
  ·rename_i h2; split at h
   ·simp at h
   ·rename_i h3; split at h
    ·simp at h
    ·rename_i h4; exact ⟨Ah.1 h1, Ah.1 h2, Ah.1 h3, Ah.1 h4⟩
theorem nD {r : Gp} {s : Sm} (h : bdE r s = 0) (hv : ∃ v ∈ s.2.1, v = []) : ak s.1 ≠ [] := by
 obtain ⟨_, _, ⟨h2, _⟩, h4⟩ := dg h
 obtain ⟨v, hv1, hv2⟩ := hv
 intro e
 have := h4 v hv1 hv2
 rw [e] at this
 have h0 : val [] = 0 := rfl
 omega
theorem zq {r : Gp} {s : SA} {ws ms : List Zs} {c : Bs} {b d : Option Addr} {cb cd : Nat} {w : World} {ok : Nat → Prop} (hF1 : (Fact.sl s.ga (gps s.gs)).holds ok w) (hF2 : (Fact.sl s.va (vrs s.vs)).holds ok w) (hF3 : (Fact.sl s.ea (qas s.es)).holds ok w) (hF4 : (Fact.sl b (ar ws)).holds ok w) (hF5 : (Fact.sl d (ar ms)).holds ok w) (hM : ∀ f ∈ (s.es.map qaF), f.holds ok w) (hs : saL s) (h4 : r.1.length ≤ 8) (h5 : r.2.length ≤ 8) (h6 : ∀ v ∈ s.vs, v.length ≤ 8) (hq8 : (ak s.gs).length ≤ 8) (hwl : ws.length ≤ 100000) (hml : ms.length ≤ 100000) :
  Calls Tryz.prog 36 #[.agg #[.string (S r.1), .string (S r.2)], saV s, .slice b ws.length cb, .slice d ms.length cd, .string (S c)] w fun e w' => ∃ gx : Rs, e = .returned (.tuple #[gx.val (dY r s.core ws ms c).1.length, .int .i64 (dY r s.core ws ms c).2]) ∧ (True) ∧ Below w.heap.size w w' ∧ ∀ x ∈ ([Fact.sl gx.a (ar (dY r s.core ws ms c).1)] : List Fact), x.holds (fun b => ok b ∨ w.heap.size ≤ b) w' := by
 refine enter (S := St (fun b => ok b ∨ w.heap.size ≤ b) w [] (Fact.sl s.ga (gps s.gs) :: Fact.sl s.va (vrs s.vs) :: Fact.sl s.ea (qas s.es) :: Fact.sl b (ar ws) :: Fact.sl d (ar ms) :: (s.es.map qaF))) (L := [(0, .agg #[.string (S r.1), .string (S r.2)]), (1, saV s), (2, .slice b ws.length cb), (3, .slice d ms.length cd), (4, .string (S c))]) Tryz.func36 rfl Tryz.ntmps36 rfl (Ac rfl (Ac rfl (Ac rfl (Ac rfl (Ac rfl (An _)))))) (St.start (fun _ h => Or.inr h) (bL (Fc hF1 (Fc hF2 (Fc hF3 (Fc hF4 (Fc hF5 hM))))))) ?_
 refine Eq ?_
 intro b5
 refine Gc ?_
 intro b6
 refine Ka I (Ka I (Nt (Cs (Kq I (lda I I .tc u24 I ?_) ?_))))
 ·kernel_rfl
 refine Kq I (lda I I .tc u43 I ?_) ?_
 ·kernel_rfl
 refine F2 ?_
 rintro g19
 refine WL.pu ?_
 intro hg19; (try dsimp only [List.cons_append, List.nil_append] at hg19 ⊢)
 refine Fs ?_; refine Cq (Cb (Cs (Km I (Yj I (Ka I (Nt (Ci I (fun hc22 => ?_) (fun hc22 => ?_))))))))
 ·have hb : bdE r s.core ≠ 0 := fun h => hc22 (by rw [bdS, Aa (fun h1 => h1 h)])
  have he : (bdS r s.core).2 = bdE r s.core := by rw [bdS, Ae hb]
  have hr : dY r s.core ws ms c = ([], bdE r s.core) := by rw [dY, Ae hb]
  refine H7 ?_; refine le ?_; refine Xf (Xb ?_)
  exact IA
 ·obtain ⟨hb, hbs⟩ := iv (show (bdS r s.core).2 = 0 by (simpa using hc22))
  rw [hbs]
  obtain ⟨hrk, hck, hr2, hrq⟩ := dg hb
  obtain ⟨hfo, _, _, _⟩ := cX hck
  have hoo : okN (ak s.gs) := cm hfo.1
  have hlv := hs.2.1
  refine WC.joinP (σ := Unit) [(2, _), (3, _), (4, _), (5, _), (6, _), (12, _)] (fun gq => [(26, .bool (decide (¬ (bO ws ∧ bO ms ∧ okN c))))]) (fun gq => True) (S6 I I I I I I) ?_ ?_
  ·skip
   refine Cg (Km I (Kc I (fun w hS => kG (l := ws) (by (exact hS.sl)) (by omega)) (Yt I (Km I (Nc 30 I (fun hg30 => ?_) (fun hg30 => ?_))))))
   ·refine T2 I (Kt I (Yp I (Km I (T2 I (Kt I (Yp I (Ka I (Nn (WX.joinP (()) (S6 I I I I I I) (by refine (Sc ?_ (S0 _)) <;> ((refine ao rfl ?_; (try dsimp only); (simp [*]; done)))) ?_ (fun _ h => h)))))))))); (try dsimp only); done
   ·refine Km I (Kc I (fun w hS => kG (l := ms) (by (exact hS.sl)) (by omega)) (Yt I (Yq I (Km I (Nc 35 I (fun hg35 => ?_) (fun hg35 => ?_))))))
    ·refine T2 I (Kt I (Yp I (Ka I (Nn (WX.joinP (()) (S6 I I I I I I) (by refine (Sc ?_ (S0 _)) <;> ((refine ao rfl ?_; (try dsimp only); (simp [*]; done)))) ?_ (fun _ h => h)))))); (try dsimp only); done
    ·refine Km I (Kc I (fun w hS => ay (a := c)) (Yt I (Yq I (Ka I (Nn (WX.joinP (()) (S6 I I I I I I) (by refine (Sc ?_ (S0 _)) <;> ((refine ao rfl ?_; (try dsimp only); (simp [*]; done)))) ?_ (fun _ h => h))))))); (try dsimp only); done
  ·rintro _ hmeet; (try dsimp only at hmeet ⊢); refine Ci I (fun hc26 => ?_) (fun hc26 => ?_)
   ·have hr : dY r s.core ws ms c = ([], 3) := by rw [dY, Aa (fun h => h hb), Ae hc26]
    refine Cs (Ka I (le ?_)); refine Xf (Xb ?_); exact Im
   ·obtain ⟨hzw, hzm, hc⟩ := Ah.1 hc26; refine WC.joinP (σ := Unit) [(2, _), (3, _), (4, _), (5, _), (6, _), (12, _)] (fun gq => [(40, .bool (decide (¬ ((ws.length : Int) = s.vs.length ∧ (ms.length : Int) = s.vs.length))))]) (fun gq => True) (S6 I I I I I I) ?_ ?_
    ·skip
     refine Cg (Km I (Yo I u31 (Ge ?_))); refine Yo I u40 (Yj I (Km I (Nc 47 I (fun hg47 => ?_) (fun hg47 => ?_))))
     ·refine T4 I (T2 I (Yp I (Ka I (Nn (WX.joinP (()) (S6 I I I I I I) (by refine (Sc ?_ (S0 _)) <;> ((refine ao rfl ?_; (try dsimp only); (simp [*]; done)))) ?_ (fun _ h => h)))))); (try dsimp only); done
     ·refine Km I (Yo I u31 (Kf 1 I u43 I I I .tc u40 ?_)); refine Yo I u40 (Yj I (Yq I (Ka I (Nn (WX.joinP (()) (S6 I I I I I I) (by refine (Sc ?_ (S0 _)) <;> ((refine ao rfl ?_; (try dsimp only); (simp [*]; done)))) ?_ (fun _ h => h)))))); (try dsimp only); done
    ·rintro _ hmeet; (try dsimp only at hmeet ⊢); refine Ci I (fun hc40 => ?_) (fun hc40 => ?_)
     ·have hr : dY r s.core ws ms c = ([], 6) := by rw [dY, Aa (fun h => h hb), Aa (fun h => h ⟨hzw, hzm, hc⟩), Ae (fun h => hc40 ⟨by rw [h.1], by rw [h.2]⟩)]
      refine Cs (Ka I (le ?_)); refine Xf (Xb ?_); exact Im
     ·obtain ⟨hw0, hm0⟩ := Ah.1 hc40; have hw : ws.length = s.vs.length := by omega
      have hm : ms.length = s.vs.length := by omega
      refine WC.joinP (σ := Unit) [(2, _), (3, _), (4, _), (6, _), (12, _)] (fun gq => [(55, .bool (decide (¬ (val c < val r.1 ∧ inR s.core ws))))]) (fun gq => True) (S5 I I I I I) ?_ ?_
      ·skip
       refine Cg (Km I (Hi ?_)); refine Kc I (fun w hS => cZ (a := c) (b := r.1)) (Yh I (Ns 60 I (v' := .bool (decide (val r.1 ≤ val c))) (congrArg Value.bool (by exact Ak.2 (by rw [a8 hc hrk.1]; exact ek _ _))) ?_)); refine Km I (Nc 61 I (fun hg61 => ?_) (fun hg61 => ?_))
       ·refine T4 I (Yp I (Ka I (Nn (WX.joinP (()) (S5 I I I I I) (by refine (Sc ?_ (S0 _)) <;> ((refine ao rfl ?_; (try dsimp only); (simp [*]; done)))) ?_ (fun _ h => h))))); (try dsimp only); done
       ·refine Kq I (lda I I .tc u43 I ?_) ?_
        ·kernel_rfl
        refine Km I (Kc I (fun w hS => zu (s := s) (ws := ws) (by (exact hS.sl)) (by (exact hS.sl)) (by (exact hS.sl)) (by exact hs) (by exact hw) (by exact hfo) (by exact hzw)) (Yt I (Yq I (Ka I (Nn (WX.joinP (()) (S5 I I I I I) (by refine (Sc ?_ (S0 _)) <;> ((refine ao rfl ?_; (try dsimp only); (simp [*]; done)))) ?_ (fun _ h => h))))))); (try dsimp only); done
      ·rintro _ hmeet; (try dsimp only at hmeet ⊢); refine Ci I (fun hc55 => ?_) (fun hc55 => ?_)
       ·have hr : dY r s.core ws ms c = ([], 2) := by rw [dY, Aa (fun h => h hb), Aa (fun h => h ⟨hzw, hzm, hc⟩), Aa (fun h => h ⟨hw, hm⟩), Ae hc55]
        refine Cs (Ka I (le ?_)); refine Xf (Xb ?_); exact Im
       ·obtain ⟨hcr, hin⟩ := Ah.1 hc55; have hc8 : c.length ≤ 8 := lg hc (C9 hcr (by have := cz h4; rw [e64]; exact this)); have hzw8 := qV hin hw hzw h6 hq8; have hL : (s.vs.map (aw r (ak s.gs))).length = s.vs.length := Ag _; refine Ck (Xd (Xa (Cq (Cs (Ge ?_))))); refine HF ?_; refine Lp (σ := Nat) [(2, _), (3, _), (4, _), (6, _), (12, _), (68, _), (69, _)] (fun gq => [(70, .int .i64 (gq : Int))]) (fun gq => gq ≤ s.vs.length ∧ ∀ j, j < gq → blw (s.vs.getD j default) (ms.getD j default) (val (aw r (ak s.gs) (s.vs.getD j default)).1)) (fun gq => s.vs.length - gq) (0) (S7 I I I I I I I) (S1 I) (by (try dsimp only); exact ⟨Af _, fun _ h => absurd h (B6 _)⟩) ?_; rintro i hinv1; (try dsimp only at hinv1 ⊢); obtain ⟨hi, hok⟩ := hinv1; refine ne (fun hc71 => ?_) (fun hc71 => ?_)
        ·have hil : i < s.vs.length := by omega
         have hil2 : i < (s.vs.map (aw r (ak s.gs))).length := by omega
         have him : i < ms.length := by omega
         obtain ⟨v, hv⟩ : ∃ v, Keep (v = s.vs.getD i default) := ⟨_, rfl⟩; obtain ⟨M, hM⟩ : ∃ M, Keep (M = ms.getD i default) := ⟨_, rfl⟩; have hvm : v ∈ s.vs := by rw [show v = _ from hv]; exact aj _ _ hil
         have hMo : okZ M := hzm M (by rw [show M = _ from hM]; exact aj _ _ him); have hlg2 : (s.vs.map (aw r (ak s.gs))).getD i default = aw r (ak s.gs) v := by rw [show v = _ from hv, List.getD_eq_getElem?_getD, A4, Ad hil, List.getD_eq_getElem?_getD, Ad hil]; rfl
         have hlo := (iV h4 h5 (h6 v hvm) hoo).1; refine FO ?_; refine Km I (FG ?_); refine Fu ?_; rw [← show v = _ from hv]; refine GK ?_; intro b15; refine Ka I (FF ?_); refine Nt (Cq (WC.free (K := [⟨some b15, [.string (S v)], 132⟩]) (fs0 := [Fact.sl g19.a (gps (s.vs.map (aw r (ak s.gs)))), Fact.sl d (ar ms)]) [0, 1, 2, 3, 4, 5, 6, 7, 8, 9, 10, 11] [] [0, 0, 0, 0, 0, 0, 0, 0, 0, 0, 1, 0] (by kernel_rfl) (by kernel_rfl) I ?_)); refine Kj I (lda I I .tc bG I ?_) ?_
         ·kernel_rfl
         refine Ft ?_; refine Fw ?_; refine FC ?_; refine WJ.set 79 I (v' := zV M) (by rw [show M = _ from hM]) ?_; refine Ft ?_; refine Gu ?_; (refine Kj I (faf I I jt I (by kernel_rfl) (by (try simp only [sN, Int.reduceToNat, Nat.reduceAdd, Nat.reduceMul, Nat.reduceSub]); rfl)) ?_); refine GY ?_; refine WJ.set 84 I (v' := .string (S ((aw r (ak s.gs) v).1))) (congrArg (fun l => Value.string (S l)) (by rw [hlg2])) ?_; refine Jv I I I I I (fun ext => Oc I I (Kv fun w hS => iD (v := v) (x := M) (n := (aw r (ak s.gs) v).1) (by exact hMo.1) (by exact hlo))) ?_; refine Kj I (Rt I I) ?_; refine WJ.nil ?_; refine Nt (Ci I (fun hc86 => ?_) (fun hc86 => ?_))
         ·have hn : ¬ mkR r (ak s.gs) s.vs ms := fun h => by
           have h1 := h i hil; rw [← show v = _ from hv, ← show M = _ from hM] at h1; exact absurd h1 (by (exact hc86))
          have hr : dY r s.core ws ms c = ([], 2) := by rw [dY, Aa (fun h => h hb), Aa (fun h => h ⟨hzw, hzm, hc⟩), Aa (fun h => h ⟨hw, hm⟩), Aa (fun h => h ⟨hcr, hin⟩), Ae hn]
          refine Cs (Ka I (le ?_)); refine FE ?_; exact Im
         ·refine Ck (Xd (Xa (Cg (Kq I (Rz I I I (by omega)) (Km I (Nn (Ly (i + 1) (by (try dsimp only); omega) (S7 I I I I I I I) (by refine (Sc ?_ (S0 _)) <;> (rfl)) ?_ (by (exact aq))))))))); (try dsimp only)
          exact ⟨hil, fun j hj => by
            rcases Bc.1 hj with h | h
            ·exact hok j h
            ·subst h; rw [← show v = _ from hv, ← show M = _ from hM]; (simpa using hc86)⟩
        ·refine Fq ?_; obtain rfl : i = s.vs.length := by omega
         have hmk : mkR r (ak s.gs) s.vs ms := hok; have hzm24 := xM hmk hm hzm h4 h5 h6 hq8; have hr : dY r s.core ws ms c = kL r (ak s.gs) s.vs (val c) ws ms := by rw [dY, Aa (fun h => h hb), Aa (fun h => h ⟨hzw, hzm, hc⟩), Aa (fun h => h ⟨hw, hm⟩), Aa (fun h => h ⟨hcr, hin⟩), Aa (fun h => h hmk)]
         refine Xa (Cs (Kq I (lda I I .tc u43 I ?_) ?_))
         ·kernel_rfl
         refine Km I (Km I (Km I (Km I (Kh I (Oc I I (bE fun w hS => zp (r := r) (q := ak s.gs) (s := s) (ws := ws) (ms := ms) (c := c) (by (exact hS.sl)) (by (exact hS.sl)) (by (exact hS.sl)) (by (exact hS.sl)) (by exact hs) (by exact hw) (by exact hm) (by exact hfo) (by exact hzw8) (by exact hzm24) (by exact hc) (by exact hc8) (by exact hoo) (by exact hq8) (by exact nD hb) (by exact h4) (by exact h5) (by exact h6))) ?_)))); rintro g93; refine WL.pu ?_; intro hg93; (try dsimp only [List.cons_append, List.nil_append] at hg93 ⊢); refine Ye I (Ye I (Ka I (le ?_))); exact Rn I (.tmp I (.tmp I .nil)) fun w' hS => ⟨g93, by rw [hr]; rfl, trivial, hS.below, by rw [hr]; exact Fc hS.slk Fn⟩
def rsR (r : Gp) (q : Bs) (vs : List Bs) (xs : List Zs) : Prop := ∀ i, i < vs.length → blw (vs.getD i default) (xs.getD i default) (val (aw r q (vs.getD i default)).2)
instance (r : Gp) (q : Bs) (vs : List Bs) (xs : List Zs) : Decidable (rsR r q vs xs) := inferInstanceAs (Decidable (∀ i, i < vs.length → _))
abbrev gQ (s : Sm) (i : Nat) : Gp := s.1.getD (s.2.2.getD i default).1.toNat default
abbrev tQ (s : Sm) (i : Nat) : Bs := (s.2.2.getD i default).2.1
def fsE (s : Sm) (fs : List Bs) : Prop := ∀ i, i < s.2.2.length → elG (gQ s i) (fs.getD i default)
instance (s : Sm) (fs : List Bs) : Decidable (fsE s fs) := inferInstanceAs (Decidable (∀ i, i < s.2.2.length → _))
def vfI (s : Sm) (fs : List Bs) (c : Nat) (xs : List Zs) : Prop := ∀ i, i < s.2.2.length → ae (val (fs.getD i default) * aZ (val (gQ s i).1) (val (tQ s i)) c % val (gQ s i).1) = (cF s xs).1.getD i default
instance (s : Sm) (fs : List Bs) (c : Nat) (xs : List Zs) : Decidable (vfI s fs c xs) := inferInstanceAs (Decidable (∀ i, i < s.2.2.length → _))
def vfE (r : Gp) (s : Sm) (fs : List Bs) (c : Bs) (xs : List Zs) : Int :=
 if bdE r s ≠ 0 then bdE r s
 else if ¬ (∀ x ∈ fs, okN x) then 3
 else if ¬ (okN c ∧ bO xs) then 3
 else if ¬ (fs.length = s.2.2.length ∧ xs.length = s.2.1.length) then 6
 else if ¬ (val c < val r.1) then 2
 else if ¬ rsR r (ak s.1) s.2.1 xs then 2
 else if ¬ fsE s fs then 13
 else if (cF s xs).2 ≠ 0 then (cF s xs).2
 else if ¬ vfI s fs (val c) xs then 16 else 0
theorem uO {s : Sm} {xs : List Zs} (h : (cF s xs).2 = 0) : (cF s xs).1.length = s.2.2.length := by
 unfold cF at h ⊢; split at h
 ·rename_i h1; exact absurd h h1
 ·rename_i h1; rw [Aa h1]; exact qW h
theorem uw {x : Bs} (h : okN x) : okZ (false, x) := ⟨h, fun h => by cases h.1⟩
theorem zo {r : Gp} {s : SA} {fs : List Bs} {c : Bs} {xs : List Zs} {fa xa : Option Addr} {fc xc : Nat} {w : World} {ok : Nat → Prop} (hF1 : (Fact.sl s.ga (gps s.gs)).holds ok w) (hF2 : (Fact.sl s.va (vrs s.vs)).holds ok w) (hF3 : (Fact.sl s.ea (qas s.es)).holds ok w) (hF4 : (Fact.sl fa (am fs)).holds ok w) (hF5 : (Fact.sl xa (ar xs)).holds ok w) (hM : ∀ f ∈ (s.es.map qaF), f.holds ok w) (hs : saL s) (h4 : r.1.length ≤ 8) (h5 : r.2.length ≤ 8) (h6 : ∀ v ∈ s.vs, v.length ≤ 8) (hq8 : (ak s.gs).length ≤ 8) (hfl : fs.length ≤ 100000) (hxl : xs.length ≤ 100000) :
  Cw 112 #[.agg #[.string (S r.1), .string (S r.2)], saV s, .agg #[.slice fa fs.length fc, .string (S c), .slice xa xs.length xc]] w (.int .i64 (vfE r s.core fs c xs)) := by
 refine En (Fact.sl s.ga (gps s.gs) :: Fact.sl s.va (vrs s.vs) :: Fact.sl s.ea (qas s.es) :: Fact.sl fa (am fs) :: Fact.sl xa (ar xs) :: (s.es.map qaF)) [(0, .agg #[.string (S r.1), .string (S r.2)]), (1, saV s), (2, .agg #[.slice fa fs.length fc, .string (S c), .slice xa xs.length xc])] Tryz.func112 I Tryz.ntmps112 I (Ac I (Ac I (Ac I (An _)))) (Fc (af hF1) (Fc (af hF2) (Fc (af hF3) (Fc (af hF4) (Fc (af hF5) (aE hM)))))) (Eq ?_)
 intro b3
 refine Gc ?_
 intro b4
 refine Gc ?_
 intro b5
 refine Ka I (Nt (Cs (Kq I (lda I I .tc u24 I ?_) ?_)))
 ·kernel_rfl
 refine Kq I (lda I I .tc u43 I ?_) ?_
 ·kernel_rfl
 refine F2 ?_
 rintro g24
 refine WL.pu ?_
 intro hg24; (try dsimp only [List.cons_append, List.nil_append] at hg24 ⊢)
 refine Fs ?_; refine Cq (Fz (fun hc28 => ?_) (fun hc28 => ?_))
 ·have hb : bdE r s.core ≠ 0 := fun h => hc28 (by rw [bdS, Aa (fun h1 => h1 h)])
  have he : (bdS r s.core).2 = bdE r s.core := by rw [bdS, Ae hb]
  have hr : vfE r s.core fs c xs = bdE r s.core := by rw [vfE, Ae hb]
  refine Cs (Km I (le ?_)); refine Xb ?_
  exact R1 I I (by rw [hr, he]; rfl)
 ·obtain ⟨hb, hbs⟩ := iv (show (bdS r s.core).2 = 0 by (simpa using hc28))
  rw [hbs]
  obtain ⟨hrk, hck, hr2, hrq⟩ := dg hb
  obtain ⟨hfo, _, hel, _⟩ := cX hck
  have hoo : okN (ak s.gs) := cm hfo.1
  have hlv := hs.2.1
  obtain ⟨hlg, _, hle, hlt, hlm⟩ := id hs
  refine Ck (Xa (Cq (Cs (Kf 0 I fq I I I .tc u33 ?_))))
  refine HT ?_; refine Lp (σ := Nat) [(3, _), (4, _), (5, _), (7, _), (31, _), (32, _)] (fun gq => [(33, .int .i64 (gq : Int))]) (fun gq => gq ≤ fs.length ∧ ∀ x ∈ fs.take gq, okN x) (fun gq => fs.length - gq) (0) (S6 I I I I I I) (S1 I) (by (try dsimp only); exact ⟨Af _, by simp⟩) ?_
  rintro i hinv1; (try dsimp only at hinv1 ⊢)
  obtain ⟨hi, hok⟩ := hinv1
  refine ne (fun hc34 => ?_) (fun hc34 => ?_)
  ·have hil : i < fs.length := by omega
   refine FO ?_; refine FW ?_; refine GA ?_; refine FN ?_; refine Kc I (fun w hS => ay (a := fs.getD i default)) (Gs (fun hc39 => ?_) (fun hc39 => ?_))
   ·have hn : ¬ ∀ x ∈ fs, okN x := fun h => absurd (h _ (aj _ _ hil)) (by simpa using hc39)
    have hr : vfE r s.core fs c xs = 3 := by rw [vfE, Aa (fun h => h hb), Ae hn]
    refine Cs (le ?_); refine FE ?_; exact Io
   ·refine Ck (Xd (Xa (Cg (Kq I (Rz I I I (by omega)) (Km I (Nn (Ly (i + 1) (by (try dsimp only); omega) (S6 I I I I I I) (by refine (Sc ?_ (S0 _)) <;> (rfl)) ?_ (fun _ h => h)))))))); (try dsimp only); exact ⟨hil, ax hil hok (by simpa using hc39)⟩
  ·refine Fq ?_; obtain rfl : i = fs.length := by omega
   rw [Ai] at hok; refine Xa (Cq (Cb (WC.joinP (σ := Unit) [(3, _), (4, _), (5, _), (7, _)] (fun gq => [(41, .bool (decide (¬ (okN c ∧ bO xs))))]) (fun gq => True) (S4 I I I I) ?_ ?_)))
   ·skip
    refine Cg (Kf 1 I fq I I I .tc u22 ?_); refine Kc I (fun w hS => ay (a := c)) (Yt I (Km I (Nc 46 I (fun hg46 => ?_) (fun hg46 => ?_))))
    ·refine T4 I (Yp I (Ka I (Nn (WX.joinP (()) (S4 I I I I) (by refine (Sc ?_ (S0 _)) <;> ((refine ao rfl ?_; (try dsimp only); (simp [*]; done)))) ?_ (fun _ h => h))))); (try dsimp only); done
    ·refine Kf 2 I fq I I I .tc u31 ?_; refine Kc I (fun w hS => kG (l := xs) (by (exact hS.sl)) (by omega)) (Yt I (Yq I (Ka I (Nn (WX.joinP (()) (S4 I I I I) (by refine (Sc ?_ (S0 _)) <;> ((refine ao rfl ?_; (try dsimp only); (simp [*]; done)))) ?_ (fun _ h => h)))))); (try dsimp only); done
   ·rintro _ hmeet; (try dsimp only at hmeet ⊢); refine Ci I (fun hc41 => ?_) (fun hc41 => ?_)
    ·have hr : vfE r s.core fs c xs = 3 := by rw [vfE, Aa (fun h => h hb), Aa (fun h => h hok), Ae hc41]
     refine Cs (le ?_); refine Xf (Xb ?_); exact Io
    ·obtain ⟨hc, hzx⟩ := Ah.1 hc41; refine WC.joinP (σ := Unit) [(3, _), (4, _), (5, _), (7, _)] (fun gq => [(52, .bool (decide (¬ ((fs.length : Int) = s.es.length ∧ (xs.length : Int) = s.vs.length))))]) (fun gq => True) (S4 I I I I) ?_ ?_
     ·skip
      refine Cg (Kf 0 I fq I I I .tc u33 ?_); refine Yo I u33 (Gz ?_); refine Yo I u41 (Yj I (Km I (Nc 60 I (fun hg60 => ?_) (fun hg60 => ?_))))
      ·refine T4 I (T2 I (Kt I (Yp I (Ka I (Nn (WX.joinP (()) (S4 I I I I) (by refine (Sc ?_ (S0 _)) <;> ((refine ao rfl ?_; (try dsimp only); (simp [*]; done)))) ?_ (fun _ h => h))))))); (try dsimp only); done
      ·refine Kf 2 I fq I I I .tc u31 ?_; refine Yo I u31 (Kf 1 I u43 I I I .tc u40 ?_); refine Yo I u40 (Yj I (Yq I (Ka I (Nn (WX.joinP (()) (S4 I I I I) (by refine (Sc ?_ (S0 _)) <;> ((refine ao rfl ?_; (try dsimp only); (simp [*]; done)))) ?_ (fun _ h => h)))))); (try dsimp only); done
     ·rintro _ hmeet; (try dsimp only at hmeet ⊢); refine Ci I (fun hc52 => ?_) (fun hc52 => ?_)
      ·have hr : vfE r s.core fs c xs = 6 := by
        rw [vfE, Aa (fun h => h hb), Aa (fun h => h hok), Aa (fun h => h ⟨hc, hzx⟩), Ae (fun h => hc52 ⟨by have := h.1; simp only [SA.core, Ag] at this; omega, by have := h.2; simp only [SA.core] at this; omega⟩)]
       refine Cs (le ?_); refine Xf (Xb ?_); exact Io
      ·obtain ⟨hf0, hx0⟩ := Ah.1 hc52; have hfe : fs.length = s.es.length := by omega
       have hxv : xs.length = s.vs.length := by omega
       have hlen : fs.length = s.core.2.2.length ∧ xs.length = s.core.2.1.length := ⟨by simpa using hfe, hxv⟩; refine Cs (Kf 1 I fq I I I .tc u22 ?_); refine Hi ?_; refine Kc I (fun w hS => cZ (a := c) (b := r.1)) (Yh I (Ns 75 I (v' := .bool (decide (val r.1 ≤ val c))) (congrArg Value.bool (by exact Ak.2 (by rw [a8 hc hrk.1]; exact ek _ _))) ?_)); refine Ka I (Nt (Ci I (fun hc69 => ?_) (fun hc69 => ?_)))
       ·have hcr : ¬ val c < val r.1 := by omega
        have hr : vfE r s.core fs c xs = 2 := by rw [vfE, Aa (fun h => h hb), Aa (fun h => h hok), Aa (fun h => h ⟨hc, hzx⟩), Aa (fun h => h hlen), Ae hcr]
        refine Cs (le ?_); refine Xf (Xb ?_); exact Io
       ·have hcr : val c < val r.1 := by omega
        have hL : (s.vs.map (aw r (ak s.gs))).length = s.vs.length := Ag _; refine Ck (Xd (Xa (Cq (Cs (Ge ?_))))); refine HF ?_; refine Lp (σ := Nat) [(4, _), (5, _), (7, _), (77, _), (78, _)] (fun gq => [(79, .int .i64 (gq : Int))]) (fun gq => gq ≤ s.vs.length ∧ ∀ j, j < gq → blw (s.vs.getD j default) (xs.getD j default) (val (aw r (ak s.gs) (s.vs.getD j default)).2)) (fun gq => s.vs.length - gq) (0) (S5 I I I I I) (S1 I) (by (try dsimp only); exact ⟨Af _, fun _ h => absurd h (B6 _)⟩) ?_; rintro i hinv2; (try dsimp only at hinv2 ⊢); obtain ⟨hi, hor⟩ := hinv2; refine ne (fun hc80 => ?_) (fun hc80 => ?_)
        ·have hil : i < s.vs.length := by omega
         have hil2 : i < (s.vs.map (aw r (ak s.gs))).length := by omega
         have him : i < xs.length := by omega
         obtain ⟨v, hv⟩ : ∃ v, Keep (v = s.vs.getD i default) := ⟨_, rfl⟩; obtain ⟨M, hM⟩ : ∃ M, Keep (M = xs.getD i default) := ⟨_, rfl⟩; have hvm : v ∈ s.vs := by rw [show v = _ from hv]; exact aj _ _ hil
         have hMo : okZ M := hzx M (by rw [show M = _ from hM]; exact aj _ _ him); have hlg2 : (s.vs.map (aw r (ak s.gs))).getD i default = aw r (ak s.gs) v := by rw [show v = _ from hv, List.getD_eq_getElem?_getD, A4, Ad hil, List.getD_eq_getElem?_getD, Ad hil]; rfl
         have hlo := (iV h4 h5 (h6 v hvm) hoo).2; refine FO ?_; refine Km I (FG ?_); refine Fu ?_; rw [← show v = _ from hv]; refine GK ?_; intro b12; refine Ka I (FF ?_); refine Nt (Cq (WC.free (K := [⟨some b12, [.string (S v)], 132⟩, ⟨some b5, [.slice fa fs.length fc, .string (S c), .slice xa xs.length xc], 110⟩]) (fs0 := [Fact.sl g24.a (gps (s.vs.map (aw r (ak s.gs)))), Fact.sl xa (ar xs)]) [0, 1, 2, 3, 4, 5, 6, 7, 8, 9, 10, 11, 12] [] [0, 0, 0, 0, 0, 0, 0, 0, 0, 0, 0, 1, 0] (by kernel_rfl) (by kernel_rfl) I ?_)); refine Kj I (lda I I .tc bG I ?_) ?_
         ·kernel_rfl
         refine Kj I (Fa (q := 2) I I fq I I) (Kj I (Ld I I .tc u31) ?_); refine GP ?_; refine Fw ?_; refine FC ?_; refine WJ.set 89 I (v' := zV M) (by rw [show M = _ from hM]) ?_; refine Ft ?_; refine Gu ?_; (refine Kj I (faf I I jt I (by kernel_rfl) (by (try simp only [sN, Int.reduceToNat, Nat.reduceAdd, Nat.reduceMul, Nat.reduceSub]); rfl)) ?_); refine HC ?_; refine WJ.set 94 I (v' := .string (S ((aw r (ak s.gs) v).2))) (congrArg (fun l => Value.string (S l)) (by rw [hlg2])) ?_; refine Jv I I I I I (fun ext => Oc I I (Kv fun w hS => iD (v := v) (x := M) (n := (aw r (ak s.gs) v).2) (by exact hMo.1) (by exact hlo))) ?_; refine Kj I (Rt I I) ?_; refine WJ.nil ?_; refine Nt (Ci I (fun hc96 => ?_) (fun hc96 => ?_))
         ·have hn : ¬ rsR r (ak s.gs) s.vs xs := fun h => by
           have h1 := h i hil; rw [← show v = _ from hv, ← show M = _ from hM] at h1; exact absurd h1 (by (exact hc96))
          have hr : vfE r s.core fs c xs = 2 := by rw [vfE, Aa (fun h => h hb), Aa (fun h => h hok), Aa (fun h => h ⟨hc, hzx⟩), Aa (fun h => h hlen), Aa (fun h => h hcr), Ae hn]
          refine Cs (le ?_); refine FE ?_; exact Io
         ·refine Ck (Xd (Xa (Cg (Kq I (Rz I I I (by omega)) (Km I (Nn (Ly (i + 1) (by (try dsimp only); omega) (S5 I I I I I) (by refine (Sc ?_ (S0 _)) <;> (rfl)) ?_ (by (exact aq))))))))); (try dsimp only)
          exact ⟨hil, fun j hj => by
            rcases Bc.1 hj with h | h
            ·exact hor j h
            ·subst h; rw [← show v = _ from hv, ← show M = _ from hM]; (simpa using hc96)⟩
        ·refine Fq ?_; obtain rfl : i = s.vs.length := by omega
         have hrr : rsR r (ak s.gs) s.vs xs := hor; refine Xa (Cq (Cs (Gz ?_))); refine Yo I u41 (Km I (Nt (Cb (Lp (σ := Nat) [(4, _), (5, _), (99, _), (100, _)] (fun gq => [(101, .int .i64 (gq : Int))]) (fun gq => gq ≤ s.es.length ∧ ∀ j, j < gq → elG (gQ s.core j) (fs.getD j default)) (fun gq => s.es.length - gq) (0) (S4 I I I I) (S1 I) (by (try dsimp only); exact ⟨Af _, fun _ h => absurd h (B6 _)⟩) ?_)))); rintro i hinv3; (try dsimp only at hinv3 ⊢); obtain ⟨hi, hof⟩ := hinv3; refine ne (fun hc102 => ?_) (fun hc102 => ?_)
         ·have hil : i < s.es.length := by omega
          have hif : i < fs.length := by omega
          have hkm := aj s.es i hil; have hqa : s.core.2.2.getD i default = (s.es.getD i default).1 := qA _ _; obtain ⟨q, hq⟩ : ∃ q, Keep (q = s.es.getD i default) := ⟨_, rfl⟩; rw [← show q = _ from hq] at hkm hqa; have hfq := (hfo.2.2 _ (At hkm)).1.1; have hq0 := hfq.1; have hgl : q.1.1.toNat < s.gs.length := by have := hfq.1; have := hfq.2; simp only [SA.core] at this; omega
          have hg0 := hel.1 _ (aj s.gs _ hgl); have hg8 := hlm _ (aj _ _ hgl); have hgq : gQ s.core i = s.gs.getD q.1.1.toNat default := by rw [gQ, hqa]
          refine FO ?_; refine Km I (FA ?_); refine FH ?_; rw [← show q = _ from hq]; refine FT ?_; intro b14; refine Ka I (FF ?_); refine Nt (Cq (WC.free (K := [⟨some b14, [.int .i64 q.1.1, .string (S q.1.2.1), .slice q.2.1 q.1.2.2.length q.2.2], 84⟩, ⟨some b5, [.slice fa fs.length fc, .string (S c), .slice xa xs.length xc], 110⟩, ⟨some b4, [.slice s.ga s.gs.length s.gc, .slice s.va s.vs.length s.vc, .slice s.ea s.es.length s.ec], 43⟩]) (fs0 := [Fact.sl s.ga (gps s.gs), Fact.sl fa (am fs)]) [0, 1, 2, 3, 4, 5, 6, 7, 8, 9, 10, 11, 12] [] [0, 0, 0, 0, 0, 0, 0, 0, 0, 0, 0, 1, 0] (by kernel_rfl) (by kernel_rfl) I ?_)); refine Kj I (Fa (q := 0) I I u43 I I) (Kj I (Ld I I .tc u39) ?_); refine Kj I (Fa (q := 0) I I u84 I I) (HP ?_); refine Kj I (Ia I I I u39 (by kernel_rfl : _ = some 2) (by assumption) (by (rw [ag _ _ 2 (fun _ => rfl)]; omega))) ?_; refine Kj I (aP _ I I u26 I (by kernel_rfl : _ = some 2) (fun _ => rfl) (by decide) I (by assumption)) ?_; refine Kj I (Fa (q := 0) I I fq I I) (Kj I (Ld I I .tc u33) ?_); refine GP ?_
          refine GD ?_; refine HQ ?_; refine Jv I I I I I (fun ext => Oc I I (Kv fun w hS => gI (g := s.gs.getD q.1.1.toNat default) (x := fs.getD i default) (by exact hg8))) ?_; refine WJ.set 117 I (v' := .bool (decide (elG (s.gs.getD q.1.1.toNat default) (fs.getD i default)))) (congrArg Value.bool (by exact Ak.2 ⟨fun h => h.2, fun h => ⟨hg0, h⟩⟩)) ?_; refine Kj I (Rt I I) ?_; refine WJ.nil ?_; refine Nt (Ci I (fun hc118 => ?_) (fun hc118 => ?_))
          ·have hn : ¬ fsE s.core fs := fun h => by
            have h1 := h i (by simpa using hil); rw [hgq] at h1; exact absurd h1 (by (exact hc118))
           have hr : vfE r s.core fs c xs = 13 := by rw [vfE, Aa (fun h => h hb), Aa (fun h => h hok), Aa (fun h => h ⟨hc, hzx⟩), Aa (fun h => h hlen), Aa (fun h => h hcr), Aa (fun h => h hrr), Ae hn]
           refine Cs (le ?_); refine FE ?_; exact Io
          ·refine Ck (Xd (Xa (Cg (Kq I (Rz I I I (by omega)) (Km I (Nn (Ly (i + 1) (by (try dsimp only); omega) (S4 I I I I) (by refine (Sc ?_ (S0 _)) <;> (rfl)) ?_ (by (exact aq))))))))); (try dsimp only)
           exact ⟨hil, fun j hj => by
             rcases Bc.1 hj with h | h
             ·exact hof j h
             ·subst h; rw [hgq]; (simpa using hc118)⟩
         ·refine Fq ?_; obtain rfl : i = s.es.length := by omega
          have hff : fsE s.core fs := fun j hj => hof j (by simpa using hj)
          refine Xa (Cs (Kq I (lda I I .tc u43 I ?_) ?_))
          ·kernel_rfl
          refine Kf 2 I fq I I I .tc u31 ?_; refine Kh I (Oc I I (bE fun w hS => uH (s := s) (ws := xs) (by (exact hS.sl)) (by (exact hS.sl)) (by (exact hS.sl)) (by (exact hS.sl)) (by (exact hS.more)) (by exact hs) (by exact hxl))) ?_; rintro g124; refine WL.pu ?_; intro hg124; (try dsimp only [List.cons_append, List.nil_append] at hg124 ⊢); refine Fs ?_; refine Cq (Fz (fun hc128 => ?_) (fun hc128 => ?_))
          ·have hr : vfE r s.core fs c xs = (cF s.core xs).2 := by rw [vfE, Aa (fun h => h hb), Aa (fun h => h hok), Aa (fun h => h ⟨hc, hzx⟩), Aa (fun h => h hlen), Aa (fun h => h hcr), Aa (fun h => h hrr), Aa (fun h => h hff), Ae hc128]
           refine Cs (Km I (le ?_)); refine Xb ?_; exact Io
          ·have hi0 : (cF s.core xs).2 = 0 := by (simpa using hc128)
           have hil0 : (cF s.core xs).1.length = s.es.length := by rw [uO hi0]; simp
           have hfc : bP c = ofZ (val c : Int) := by rw [dv hc, eI, bT hc]
           have hzc : okZ (bP c) := by rw [dv hc]; exact uw hc
           refine Ck (Xa (Cq (Cs (Gz ?_)))); refine Yo I u41 (Km I (Nt (Cb (Lp (σ := Nat) [(4, _), (5, _), (15, _), (131, _), (132, _)] (fun gq => [(133, .int .i64 (gq : Int))]) (fun gq => gq ≤ s.es.length ∧ ∀ j, j < gq → ae (val (fs.getD j default) * aZ (val (gQ s.core j).1) (val (tQ s.core j)) (val c : Int) % val (gQ s.core j).1) = (cF s.core xs).1.getD j default) (fun gq => s.es.length - gq) (0) (S5 I I I I I) (S1 I) (by (try dsimp only); exact ⟨Af _, fun _ h => absurd h (B6 _)⟩) ?_)))); rintro i hinv4; (try dsimp only at hinv4 ⊢); obtain ⟨hi, hov⟩ := hinv4; refine ne (fun hc134 => ?_) (fun hc134 => ?_)
           ·have hil : i < s.es.length := by omega
            have hif : i < fs.length := by omega
            have hii : i < (cF s.core xs).1.length := by omega
            have hkm := aj s.es i hil; have hqa : s.core.2.2.getD i default = (s.es.getD i default).1 := qA _ _; obtain ⟨q, hq⟩ : ∃ q, Keep (q = s.es.getD i default) := ⟨_, rfl⟩; rw [← show q = _ from hq] at hkm hqa; have hfq := (hfo.2.2 _ (At hkm)).1.1; have hq0 := hfq.1; have hgl : q.1.1.toNat < s.gs.length := by have := hfq.1; have := hfq.2; simp only [SA.core] at this; omega
            obtain ⟨g, hg⟩ : ∃ g, Keep (g = s.gs.getD q.1.1.toNat default) := ⟨_, rfl⟩; have hg0 : aT g = 0 := by rw [show g = _ from hg]; exact hel.1 _ (aj s.gs _ hgl)
            have hg8 : g.1.length ≤ 8 := by rw [show g = _ from hg]; exact hlm _ (aj _ _ hgl)
            have hgq : gQ s.core i = g := by rw [gQ, hqa, show g = _ from hg]
            have htq : tQ s.core i = q.1.2.1 := by rw [tQ, hqa]
            have het : elG g q.1.2.1 := by rw [show g = _ from hg]; exact (hel.2 _ (At hkm)).1
            have hef : elG g (fs.getD i default) := by rw [← hgq]; exact hff i (by simpa using hil)
            have e1 : dW g [q.1.2.1] [bP c] = (ae (aZ (val g.1) (val q.1.2.1) (val c : Int)), 0) := by rw [hfc, gJ hg0 het (by rw [← hfc]; exact hzc), dE]
            have hex : elG g (ae (aZ (val g.1) (val q.1.2.1) (val c : Int))) := fK hg0 het _; have e2 : pP g (fs.getD i default) (ae (aZ (val g.1) (val q.1.2.1) (val c : Int))) = (ae (val (fs.getD i default) * aZ (val g.1) (val q.1.2.1) (val c : Int) % val g.1), 0) := by rw [qM hg0 hef hex, ah]
            refine FO ?_; refine Km I (FA ?_); refine FH ?_; rw [← show q = _ from hq]; refine FT ?_; intro b17; refine Ka I (FF ?_); refine Nt (Cs (Gi ?_)); refine Hn ?_; refine G2 ?_; refine FK ?_; rw [← show g = _ from hg]; refine Gb ?_; intro b18; refine FF ?_; refine Nt (Cq (WC.free (K := [⟨some b18, [.string (S g.1), .string (S g.2)], 26⟩, ⟨some b17, [.int .i64 q.1.1, .string (S q.1.2.1), .slice q.2.1 q.1.2.2.length q.2.2], 84⟩, ⟨some b5, [.slice fa fs.length fc, .string (S c), .slice xa xs.length xc], 110⟩]) (fs0 := []) [3, 4, 5, 0, 1, 2, 6, 7, 8, 9, 10, 11] [] [0, 0, 0, 0, 0, 1, 1, 0, 0, 0, 0, 0] (by kernel_rfl) (by kernel_rfl) I ?_)); refine Kj I (Fa (q := 1) I I fq I I) (Gg ?_); refine GZ ?_
            refine Kj I (lda I I .tc u26 I ?_) ?_
            ·kernel_rfl
            refine Kj I (Fa (q := 1) I I u84 I I) (Gg ?_); refine Jv I I I I I (fun ext => Oc I I (Kv fun w hS => nB (g := g) (x := q.1.2.1) (z := bP c) (by exact hg8))) ?_; rw [e1]; refine Gd ?_; refine WJ.nil ?_; refine Nt (Cq (WC.free (K := [⟨some b18, [.string (S g.1), .string (S g.2)], 26⟩, ⟨some b5, [.slice fa fs.length fc, .string (S c), .slice xa xs.length xc], 110⟩]) (fs0 := [Fact.sl fa (am fs)]) [0, 1, 2, 3, 4, 5, 6, 7, 8, 9, 10, 11] [] [0, 0, 0, 0, 0, 0, 0, 1, 0, 0, 0, 0] (by kernel_rfl) (by kernel_rfl) I ?_)); refine Kj I (lda I I .tc u26 I ?_) ?_
            ·kernel_rfl
            refine Kj I (Fa (q := 0) I I fq I I) (Kj I (Ld I I .tc u33) ?_); refine GP ?_; refine GD ?_; refine HQ ?_; refine GP ?_; refine Jv I I I I I (fun ext => Oc I I (Kv fun w hS => qC (g := g) (a := fs.getD i default) (b := ae (aZ (val g.1) (val q.1.2.1) (val c : Int))) (by exact hg8))) ?_; rw [e2]; refine GP ?_; refine Hu ?_; refine Hu ?_; refine GR ?_; refine WJ.nil ?_; refine Nt (Hd ?_); refine Km I (FW ?_); refine GA ?_; refine Hr (fun hc170 => ?_) (fun hc170 => ?_)
            ·have hn : ¬ vfI s.core fs (val c) xs := fun h => by
              have h1 := h i (by simpa using hil); rw [hgq, htq] at h1; exact absurd h1 (by (exact hc170))
             have hr : vfE r s.core fs c xs = 16 := by rw [vfE, Aa (fun h => h hb), Aa (fun h => h hok), Aa (fun h => h ⟨hc, hzx⟩), Aa (fun h => h hlen), Aa (fun h => h hcr), Aa (fun h => h hrr), Aa (fun h => h hff), Aa (fun h => h hi0), Ae hn]
             refine Cs (le ?_); refine FE ?_; exact Io
            ·refine Ck (Xd (Xa (Cg (Kq I (Rz I I I (by omega)) (Km I (Nn (Ly (i + 1) (by (try dsimp only); omega) (S5 I I I I I) (by refine (Sc ?_ (S0 _)) <;> (rfl)) ?_ (by (exact aq))))))))); (try dsimp only)
             exact ⟨hil, fun j hj => by
               rcases Bc.1 hj with h | h
               ·exact hov j h
               ·subst h; rw [hgq, htq]; (exact hc170)⟩
           ·refine Fq ?_; obtain rfl : i = s.es.length := by omega
            have hvv : vfI s.core fs (val c) xs := fun j hj => hov j (by simpa using hj)
            have hr : vfE r s.core fs c xs = 0 := by rw [vfE, Aa (fun h => h hb), Aa (fun h => h hok), Aa (fun h => h ⟨hc, hzx⟩), Aa (fun h => h hlen), Aa (fun h => h hcr), Aa (fun h => h hrr), Aa (fun h => h hff), Aa (fun h => h hi0), Aa (fun h => h hvv)]
            refine Xa (Cs (le ?_)); exact Io
abbrev eX (a b m : Bs) : Bs := ae ((val a + val b) % val m)
abbrev jC (a b m : Bs) : Bs := ae ((val a % val m + (val m - val b % val m)) % val m)
theorem qP {a b m : Bs} {w : World} (ha : okN a) (hb : okN b) (hm : okN m) (h1 : val a < val m) (h2 : val b ≤ val m) :
  Cw 181 #[.string (S a), .string (S b), .string (S m)] w (.string (S (eX a b m))) := by
 have hB := a7 hm
 have hd : val m - val b < Big := by omega
 have s1 : fT m b = (ae (val m - val b), 0) := dq hm hb h2
 have hc := a8 ha (az hd)
 rw [ah] at hc
 refine En [] [(0, .string (S a)), (1, .string (S b)), (2, .string (S m))] Tryz.func181 I Tryz.ntmps181 I (Ac I (Ac I (Ac I (An _)))) Fn (Cs (FN ?_)); refine Km I (Kc I (fun w hS => fQ (a := m) (b := b)) ?_)
 rw [s1]
 refine Fs ?_; refine Cq (Hd ?_); refine Kc I (fun w hS => cZ (a := a) (b := ae (val m - val b))) (Yh I (Ns 22 I (v' := .bool (decide (val m - val b ≤ val a))) (congrArg Value.bool (by exact Ak.2 (by rw [hc]; exact ek _ _))) ?_))
 refine Nt (Ci I (fun hc22 => ?_) (fun hc22 => ?_))
 ·have s2 : fT a (ae (val m - val b)) = (ae (val a - (val m - val b)), 0) := by rw [dq ha (az hd) (by rw [ah]; exact hc22), ah]
  have hr : eX a b m = ae (val a - (val m - val b)) := by rw [eX, Nat.mod_eq_sub_mod (by omega), Am (by omega)]; congr 1; omega
  refine Hd ?_; refine Kc I (fun w hS => fQ (a := a) (b := ae (val m - val b))) ?_
  rw [s2]
  refine Fs ?_; refine Cs (Km I (le ?_)); refine Xb ?_
  exact Io
 ·have s3 : addN a b = (ae (val a + val b), 0) := by rw [addN, Ae ⟨ha, hb⟩, Ae (by omega)]
  have hr : eX a b m = ae (val a + val b) := by rw [eX, Am (by omega)]
  refine GG ?_; refine Kc I (fun w hS => rE (a := a) (b := b)) ?_
  rw [s3]
  refine Fs ?_; refine Cs (Km I (le ?_))
  exact Io
theorem xL {a b m : Bs} {w : World} (ha : okN a) (hb : okN b) (hm : okN m) (h0 : m ≠ []) :
  Cw 96 #[.string (S a), .string (S b), .string (S m)] w (NE (eX a b m, 0)) := by
 have hm0 : 0 < val m := iz hm h0
 have hB := a7 hm
 have hk : cY [a, b] [m] = 0 := by rw [cY, Ae (by intro x hx; simp at hx; rcases hx with rfl | rfl | rfl <;> assumption), Aa (by simpa using h0)]
 have l1 := Aq (val a) hm0
 have l2 := Aq (val b) hm0
 have hr : eX (ae (val a % val m)) (ae (val b % val m)) m = eX a b m := by rw [eX, ah, ah, ← Nat.add_mod]
 refine En [] [(0, .string (S a)), (1, .string (S b)), (2, .string (S m))] Tryz.func96 I Tryz.ntmps96 I (Ac I (Ac I (Ac I (An _)))) Fn (Cs (Ka I (Ka I (Nt (Cq (Cs (Km I (Km I (Kh I (aN I I u33 (by kernel_rfl : _ = some (some (.string (S [])), 1, 16)) I (by simp only [List.map]; rfl) I I ?_ (by decide)) ?_)))))))))
 ·simp [Value.cells]
 intro b11
 refine Km I (Kh I (aN I I u33 (by kernel_rfl : _ = some (some (.string (S [])), 1, 16)) I (by simp only [List.map]; rfl) I I ?_ (by decide)) ?_)
 ·simp [Value.cells]
 intro b13
 refine GH ?_
 rw [hk]
 refine FN ?_; refine Yj I (Ns 16 I (v' := .bool false) (by rfl) ?_)
 refine Fx (fun _ => ?_)
 refine GG ?_; refine Kc I (fun w hS => di (a := a) (m := m) (by exact ha) (by exact hm) (by exact h0)) (Km I (Km I (Kc I (fun w hS => di (a := b) (m := m) (by exact hb) (by exact hm) (by exact h0)) (Km I (Kc I (fun w hS => qP (a := ae (val a % val m)) (b := ae (val b % val m)) (m := m) (by exact az (by omega)) (by exact az (by omega)) (by exact hm) (by (rw [ah]; exact l1)) (by (rw [ah]; omega))) ?_)))))
 rw [hr]
 refine Ka I (le ?_)
 exact IF
theorem xK {a b m : Bs} {w : World} (ha : okN a) (hb : okN b) (hm : okN m) (h0 : m ≠ []) :
  Cw 115 #[.string (S a), .string (S b), .string (S m)] w (NE (jC a b m, 0)) := by
 have hm0 : 0 < val m := iz hm h0
 have hB := a7 hm
 have hk : cY [a, b] [m] = 0 := by rw [cY, Ae (by intro x hx; simp at hx; rcases hx with rfl | rfl | rfl <;> assumption), Aa (by simpa using h0)]
 have l1 := Aq (val a) hm0
 have l2 := Aq (val b) hm0
 have s1 : fT m (ae (val b % val m)) = (ae (val m - val b % val m), 0) := by rw [dq hm (az (by omega)) (by rw [ah]; omega), ah]
 have hr : eX (ae (val a % val m)) (ae (val m - val b % val m)) m = jC a b m := by rw [eX, ah, ah]
 refine En [] [(0, .string (S a)), (1, .string (S b)), (2, .string (S m))] Tryz.func115 I Tryz.ntmps115 I (Ac I (Ac I (Ac I (An _)))) Fn (Cs (Ka I (Ka I (Nt (Cq (Cs (Km I (Km I (Kh I (aN I I u33 (by kernel_rfl : _ = some (some (.string (S [])), 1, 16)) I (by simp only [List.map]; rfl) I I ?_ (by decide)) ?_)))))))))
 ·simp [Value.cells]
 intro b13
 refine Km I (Kh I (aN I I u33 (by kernel_rfl : _ = some (some (.string (S [])), 1, 16)) I (by simp only [List.map]; rfl) I I ?_ (by decide)) ?_)
 ·simp [Value.cells]
 intro b15
 refine GH ?_
 rw [hk]
 refine FN ?_; refine Yj I (Ns 18 I (v' := .bool false) (by rfl) ?_)
 refine Fx (fun _ => ?_)
 refine GG ?_; refine Kc I (fun w hS => di (a := a) (m := m) (by exact ha) (by exact hm) (by exact h0)) (Km I (Km I (Kc I (fun w hS => di (a := b) (m := m) (by exact hb) (by exact hm) (by exact h0)) (Ka I (FM ?_))))); refine Hh (fun hc27 => ?_) (fun hc27 => ?_)
 ·have hv0 : val b % val m = 0 := by have := bk.1 (show ae (val b % val m) = [] by (exact hc27)); exact this
  have hr2 : jC a b m = ae (val a % val m) := by rw [jC, hv0, B9, Nat.add_mod_right, Nat.mod_mod]
  refine H7 ?_; refine le ?_; refine Xb ?_
  exact R2 I I I (by rw [hr2]; rfl)
 ·refine GG ?_; refine Kc I (fun w hS => fQ (a := m) (b := ae (val b % val m))) ?_
  rw [s1]
  refine Fs ?_; refine Hd ?_; refine Km I (Kc I (fun w hS => qP (a := ae (val a % val m)) (b := ae (val m - val b % val m)) (m := m) (by exact az (by omega)) (by exact az (by omega)) (by exact hm) (by (rw [ah]; exact l1)) (by (rw [ah]; omega))) ?_)
  rw [hr]
  refine Ka I (le ?_)
  exact IF
theorem tL {x : Zs} {w : World} :
  Cw 196 #[zV x] w (.bool (decide (¬ okZ x))) := by
 refine En [] [(0, zV x)] Tryz.func196 I Tryz.ntmps196 I (Ac I (An _)) Fn (Eq ?_)
 intro b1
 refine Ka I (Nt (Cs (Kq I (lda I I .tc u68 I ?_) ?_)))
 ·kernel_rfl
 refine Kc I (fun w hS => bR (x := x)) (Yt I (le ?_))
 exact IE
theorem CK (l : List Zs) : (l.any fun x => decide (¬ okZ x)) = decide (¬ bO l) := by
 rw [B7, List.any_eq_true, decide_eq_true_iff]
 simp only [decide_eq_true_iff, bO]
 exact ⟨fun ⟨x, h1, h2⟩ h => h2 (h x h1), fun h => A8 fun h1 => h fun x hx => A8 fun h2 => h1 ⟨x, hx, h2⟩⟩
theorem nm {l : List Zs} {a : Option Addr} {c : Nat} {w : World} {ok : Nat → Prop} (hF1 : (Fact.sl a (ar l)).holds ok w) (hl : l.length ≤ 100000) :
  Cw 111 #[.slice a l.length c] w (.bool (decide (bO l))) := by
 refine En [Fact.sl a (ar l)] [(0, .slice a l.length c)] Tryz.func111 I Tryz.ntmps111 I (Ac I (An _)) (Fc (af hF1) Fn) (Cs (FN ?_)); refine Kc I (fun w hS => rx (l := l) (fk := 196) (cs := #[]) (p := fun x => decide (¬ okZ x)) (by (exact hS.sl)) (by exact hl) (by kernel_rfl) (by exact fun x hx w' hb => tL (x := x))) ?_
 rw [CK]
 refine Yt I (le ?_)
 exact IE
theorem pq {v : Bs} {x : Zs} {n : Bs} {w : World} (hx : okN x.2) (hn : okN n) :
  Cw 116 #[.agg #[.string (S v)], .string (S n), zV x] w (.bool (decide (blw v x (val n)))) := by
 have hc : (fg x.2 n < 0) ↔ val x.2 < val n := by rw [a8 hx hn]; exact aR _ _
 have hr : blw v x (val n) ↔ fg x.2 n < 0 ∧ ¬ (v = [] ∧ x.1 = true) := by
  rw [blw, hc]; constructor
  ·intro h; exact ⟨h.1, fun h1 => by have := h.2 h1.1; rw [h1.2] at this; cases this⟩
  ·intro h; exact ⟨h.1, fun hv => by cases h3 : x.1; rfl; exact absurd ⟨hv, h3⟩ h.2⟩
 refine En [] [(0, .agg #[.string (S v)]), (1, .string (S n)), (2, zV x)] Tryz.func116 I Tryz.ntmps116 I (Ac I (Ac I (Ac I (An _)))) Fn (Eq ?_)
 intro b3
 refine Gc ?_
 intro b5
 refine Ka I (Nt (WC.joinP (σ := Unit) [] (fun gq => [(6, .bool (decide (fg x.2 n < 0 ∧ ¬ (v = [] ∧ x.1 = true))))]) (fun gq => True) (S0 _) ?_ ?_))
 ·skip
  refine Cg (Gn ?_)
  refine Km I (Kc I (fun w hS => cZ (a := x.2) (b := n)) (Yl I (Km I (Nc 12 I (fun hg12 => ?_) (fun hg12 => ?_)))))
  ·refine Hc ?_; refine Ys I (Km I (Nc 16 I (fun hg16 => ?_) (fun hg16 => ?_)))
   ·refine Kf 0 I u68 I I I .tc u4 ?_; refine Yp I (Yt I (Yp I (Ka I (Nn (WX.joinP (()) (S0 _) (by refine (Sc ?_ (S0 _)) <;> ((refine congrArg (fun b => some (Value.bool b)) ?_; simp [*]; omega))) ?_ (fun _ h => h)))))); (try dsimp only); done
   ·refine T2 I (Yq I (Yt I (Yp I (Ka I (Nn (WX.joinP (()) (S0 _) (by refine (Sc ?_ (S0 _)) <;> ((refine congrArg (fun b => some (Value.bool b)) ?_; simp [*]; omega))) ?_ (fun _ h => h))))))); (try dsimp only); done
  ·refine T4 I (T4 I (Yq I (Ka I (Nn (WX.joinP (()) (S0 _) (by refine (Sc ?_ (S0 _)) <;> ((exact congrArg (fun b => some (Value.bool b)) (by symm; apply Aj; omega)))) ?_ (fun _ h => h)))))); (try dsimp only); done
 ·rintro _ hmeet; (try dsimp only at hmeet ⊢)
  refine Ce ?_
  exact R1 I I (by rw [show decide (blw v x (val n)) = _ from Ak.2 hr]; rfl)
section
variable {ds : List Deferred} {P : Program} {o : Oper} {n : Nat} {L : an} {ok : Nat → Prop} {w0 : World} {own : List Ent} {fs : List Fact} {x : Operand} {t t2 e : TypeId}
theorem St.frz {w : World} {b q k : Nat} {cs : List Value} {T : TypeId} {r : List Ent} (h : St ok w0 (⟨some b, cs, T⟩ :: r) fs w) : St ok w0 r fs (w.freeze ⟨b, q, none⟩ k) := by
 have h' := h.sub (own' := r) (fs' := fs) (Bm _ _) (fun _ h => h)
 have hb : w0.heap.size ≤ b := (h.lt (b := b) (eh (x := ⟨some b, cs, T⟩) (by simp) rfl)).1
 have hnb : b ∉ ids r := (C7.1 (show (b :: ids r).Nodup from h.nd)).1
 have hoth : ∀ c, c ≠ b → (w.freeze ⟨b, q, none⟩ k).heap[c]? = w.heap[c]? := fun c hk => by
  unfold World.freeze
  split
  ·rfl
  ·simp only [Array.getElem?_modify]; rw [Aa (by omega)]
 have hsz : (w.freeze ⟨b, q, none⟩ k).heap.size = w.heap.size := by unfold World.freeze; split <;> simp
 refine ⟨h'.okn, Lib.below_freeze h'.below hb k, fun x hx => Ent.holds_same (h'.own_ x hx) fun c hc => hoth c (fun e => hnb (by rw [← e]; exact eh hx hc)), h'.nd, fun f hf => ?_⟩
 have hf' := h.fact f hf
 refine f.mono (ok := fun c => ok c ∧ c ∉ ids (⟨some b, cs, T⟩ :: r)) (fun c hc => ⟨hc.1, fun hm => hc.2 (Cu b hm)⟩) ?_
 exact f.stable hf' (by rw [hsz]; exact Ba _) fun c _ hc => hoth c (fun e => hc.2 (by rw [e]; exact List.mem_cons_self))
theorem AN {s : List UInt8} (hop : o.op = .convert t t2 x) (hx : ai L x = some (.string (S s))) (hs : P.underlying t = some .string) (hd : P.underlying t2 = some (.slice e)) (he : P.underlying e = some (.int .u8)) :
  Og ds P o n L (St ok w0 own fs) (fun g : Nat × Nat => .slice (some ⟨g.1, 0, none⟩) s.length g.2) (fun g w => St ok w0 own (Fact.sl (some ⟨g.1, 0, none⟩) (s.map B) :: fs) w) :=
 cB fun a hF w hS => by
  have hc : (Lib.bytesCells w e (S s)).toList = s.map B ++ List.replicate (grownCap w (S s).size 0 e - (S s).size) (.int .u8 0) := by
   simp [Lib.bytesCells, S, B]
  have h1 := hS.draw.alloc (Lib.bytesCells w e (S s)).toList e
  rw [Array.toArray_toList] at h1
  have hne : w.heap.size ∉ ids own := fun hm => (C7.1 (show (w.heap.size :: ids own).Nodup from h1.nd)).1 hm
  have h2 : St ok w0 own fs (Lib.bytesWorld w e (S s)) := h1.frz
  refine ⟨(w.heap.size, grownCap w (S s).size 0 e), Lib.bytesWorld w e (S s), .inl ?_, h2.add (.inr ⟨w.heap.size, 0, Lib.bytesCells w e (S s), e, _, rfl, ⟨h1.okn _ (h1.own_ _ List.mem_cons_self).1, hne⟩, Lib.bytesWorld_at_new w e (S s), fun i hi => ?_⟩)⟩
  ·have := Lib.run_convert_string_bytes (P := P) w t t2 e (S s) hs hd he; rw [eR] at this; simp [execOp, hop, hF.eval hx, this, eR]
  ·have e1 : (Lib.bytesCells w e (S s))[0 + i]? = (Lib.bytesCells w e (S s)).toList[i]? := by rw [A3, Array.getElem?_toList]
   rw [e1, hc, B2 (by simpa using hi)]
end
def chF (m : Nat) (l : Bs) : Nat := l.foldl (fun a b => (a * 256 % m + b.toNat) % m) 0
def yw (s bd : Bs) : Bs := ae (chF (val bd) ((bo 67 [s, be8 0]).take (bd.length + 8)))
theorem CC {m : Nat} (h : 0 < m) (l : Bs) : chF m l < m := by
 have : ∀ (l : Bs) (a : Nat), a < m → l.foldl (fun a b => (a * 256 % m + b.toNat) % m) a < m := by
  intro l
  induction l with
  | nil => intro a ha; exact ha
  | cons b l ih => intro a ha; exact ih _ (Aq _ h)
 exact this l 0 h
theorem vM (m : Nat) {l : Bs} {j : Nat} (h : j < l.length) : chF m (l.take (j + 1)) = (chF m (l.take j) * 256 % m + (l.getD j default).toNat) % m := by
 rw [aA h, chF, List.foldl_append]; rfl
theorem wG {s bd : Bs} {w : World} (hs : s.length ≤ 100000) (hb : okN bd) (h0 : bd ≠ []) (h8 : bd.length ≤ 8) :
  Cw 84 #[.string (S s), .string (S bd)] w (NE (yw s bd, 0)) := by
 have hm0 : 0 < val bd := iz hb h0
 have hBk : (bo 67 [s, be8 0]).length = 32 := eH _
 have ho256 : okN (ae 256) := by decide +kernel
 refine En [] [(0, .string (S s)), (1, .string (S bd))] Tryz.func84 I Tryz.ntmps84 I (Ac I (Ac I (An _))) Fn (Cs (Ka I (FM ?_))); refine Kc I (fun w hS => ay (a := bd)) (Yt I (Ns 14 I (v' := .bool false) (by simp [hb]) ?_))
 refine Fx (fun _ => ?_)
 refine GO ?_; refine Ys I (Ns 16 I (v' := .bool false) (by simp [h0]) ?_)
 refine Fx (fun _ => ?_)
 refine Ck (Xa (Cs (Hy ?_)))
 intro b6
 refine Nt (Cq (Cs (Ka I (Nt (Cb (Lo (σ := Nat × (Option Addr) × Gr) [(0, _), (1, _), (6, _)] (fun gq => [(7, .int .i64 (gq.1 : Int))]) (fun gq => gq.1 ≤ 1 ∧ BOk b6 gq.2.1 gq.2.2.ob (if gq.1 = 0 then [] else bo 67 [s, be8 0]) gq.2.2.sp gq.2.2.cap) (fun gq => 1 - gq.1) (fun gq => BDT 242 b6 gq.2.1 gq.2.2.ob (if gq.1 = 0 then [] else bo 67 [s, be8 0]) gq.2.2.sp gq.2.2.cap []) (fun gq => []) (0, none, ⟨none, 0, []⟩) (S3 I I I) (S1 I) (by (try dsimp only); exact ⟨by decide, vU⟩) (by exact fun w h => gF (h.nil 5)) ?_))))))
 rintro ⟨k, p, g⟩ hinv1; (try dsimp only at hinv1 ⊢)
 obtain ⟨hk, hbk⟩ := hinv1
 refine Cq (Cs (Kh I (Oc I I (fun w hS => Fb (T := 242) (bb := b6) (p := p) (ob := g.ob) (m := if k = 0 then [] else bo 67 [s, be8 0]) (sp := g.sp) (cap := g.cap) (rr := []) hS)) ?_))
 intro _
 refine Km I (Yn I u22 (HB ?_)); refine F7 (fun hc21 => ?_) (fun hc21 => ?_)
 ·obtain rfl : k = 0 := by
   rcases Cc 0 k with h | h
   ·rw [Aa (by omega), hBk] at hc21; omega
   ·omega
  rw [Ae rfl] at hbk
  rw [Ae rfl]
  refine FO ?_; refine Hy ?_
  intro b8
  refine Nt (Cs (Km I (Kh I (Oc I I (fun w hS => fL (bb := b8) (p := none) (ob := none) (m := []) (n := 0) (sp := []) (cap := 0) (rr := BDT 242 b6 p g.ob [] g.sp g.cap []) (gF (hS.nil 5)) vU (by decide) (by decide))) ?_)))
  rintro ⟨o2, c2, s2⟩; refine WL.pu ?_; intro hb2; dsimp only at hb2 ⊢
  refine Nt (Cg (Km I (Kq I (Fa (q := 0) I I kC I I) (Kh I (Oc I I (fun w hS => stT hS hb2 (by decide))) ?_))))
  intro _
  refine Kh I (aN I I cS (by kernel_rfl : _ = some (some (.string (S [])), 1, 16)) I (by simp only [List.map]; rfl) I I ?_ (by decide)) ?_
  ·simp [Value.cells]
  intro b29
  refine Kc I (fun w hS => nA (k := 67) (l := [s, be8 0]) (by (exact hS.os)) (by simp) (by (simp [dP, cj]; omega))) (WL.st (fun w h => h.sub (Bm _ _) (fun _ h => h)) ?_)
  refine Kh I (Oc I I (fun w hS => wsT (T := 242) (bb := b6) (p := p) (ob := g.ob) (m := []) (s := bo 67 [s, be8 0]) (sp := g.sp) (cap := g.cap) (rr := []) hS AX hbk (by rw [hBk]; decide))) ?_
  rintro ⟨o4, c4, s4⟩; refine WL.pu ?_; intro hb4; dsimp only at hb4 ⊢
  refine Nn (Xd (Xa (Cg (Km I (Kq I (Rz I I I (by omega)) (Ka I (Nn (Lx ((1, some ⟨b6, 0, none⟩, ⟨o4, c4, s4⟩)) (by (try dsimp only); omega) (S3 I I I) (by refine (Sc ?_ (S0 _)) <;> (rfl)) ?_ (fun _ h => h)))))))))
  (try dsimp only)
  exact ⟨by decide, hb4⟩
 ·refine Fq ?_
  obtain rfl : k = 1 := by
   rcases Cc 0 k with h | h
   ·omega
   ·obtain rfl : k = 0 := by omega
    rw [Ae rfl] at hc21; simp at hc21; omega
  rw [Aa (by decide)] at hbk
  rw [Aa (by decide)]
  refine Xa (Cs (GI ?_)); refine Kh I (Oc I I (fun w hS => stT hS hbk (by rw [hBk]; decide))) ?_
  intro _
  refine Km I (Yn I u22 (HB ?_))
  refine Kq I (zO I I I u9 ?_) ?_
  ·(try simp only [Al, Ay, B4]); omega
  refine Ns 36 I (v' := .string (S ((bo 67 [s, be8 0]).take (bd.length + 8)))) (congrArg (fun l => Value.string (S l)) (by rfl)) ?_
  refine Kh I (AN I I u9 aF u5) ?_
  rintro ⟨b37, c37⟩
  have hcl : ((bo 67 [s, be8 0]).take (bd.length + 8)).length = bd.length + 8 := by rw [B1, hBk]; omega
  obtain ⟨bl, hbl⟩ : ∃ bl, Keep (bl = (bo 67 [s, be8 0]).take (bd.length + 8)) := ⟨_, rfl⟩
  rw [← show bl = _ from hbl] at hcl ⊢
  refine Ns 9 I (v' := .string (S (ae (chF (val bd) (bl.take 0))))) (by rw [Bz]; exact congrArg (fun l => Value.string (S l)) canon_zero.symm) ?_
  have hch : yw s bd = ae (chF (val bd) bl) := by rw [yw, show bl = _ from hbl]
  refine Yo I aF (Km I (Nt (Cb (Lp (σ := Nat) [(1, _), (37, _), (38, _)] (fun gq => [(9, .string (S (ae (chF (val bd) (bl.take gq))))), (39, .int .i64 (gq : Int))]) (fun gq => gq ≤ bl.length) (fun gq => bl.length - gq) (0) (S3 I I I) (S2 I I) (by (try dsimp only); exact Af _) ?_))))
  rintro j hinv2; (try dsimp only at hinv2 ⊢)
  obtain hj := hinv2
  refine ne (fun hc40 => ?_) (fun hc40 => ?_)
  ·have hjl : j < bl.length := by omega
   have hcj := CC hm0 (bl.take j); have hB := a7 hb; have hcj2 : chF (val bd) (bl.take j) * 256 % val bd < val bd := Aq _ hm0; have hb88 : val bd < 256 ^ 8 := Aw (aG bd) (Ar (by decide) h8); have hbj : (bl.getD j default).toNat < 256 := UInt8.toNat_lt _; have m1 : lV (ae (chF (val bd) (bl.take j))) (ae 256) bd = (ae (chF (val bd) (bl.take j) * 256 % val bd), 0) := by rw [kh (az (by omega)) ho256 hb h0, ah, ah]
   have m2 : eX (ae (chF (val bd) (bl.take j) * 256 % val bd)) (ae (bl.getD j default).toNat) bd = ae (chF (val bd) (bl.take (j + 1))) := by rw [eX, ah, ah, vM _ hjl]
   refine Ck (Xa (Cq (Cb (Cs (Kq I (iaf (a := some ⟨b37, 0, none⟩) (xs := bl.map B) (q := j) I I I aF (by kernel_rfl : _ = some 1) (by omega) (by rw [Ag]; omega) (by simp)) ?_))))); refine Kq I (ldm (f := B) (l := bl) I I u5 I hjl) ?_; refine Ka I (Nt (Cs (Km I (Kc I (fun w hS => fU (n := 256) (by omega)) (Km I (Kc I (fun w hS => nI (a := ae (chF (val bd) (bl.take j))) (b := ae 256) (m := bd) (by (exact aX.2 (by omega))) (by (decide +kernel)) (by exact h8)) ?_)))))); rw [m1]; refine Km I (Ye I (Ye I (Ka I (Nt (Cg (Km I (Km I (Kq I (aS I I u5 nh) (Ns 53 I (v' := .int .u64 (((bl.getD j default).toNat : Nat) : Int)) (by rw [IntKind.wrap_u64]; congr 1; omega) ?_))))))))); refine Kc I (fun w hS => fU (n := (bl.getD j default).toNat) (by omega)) (Km I (Kc I (fun w hS => xL (a := ae (chF (val bd) (bl.take j) * 256 % val bd)) (b := ae (bl.getD j default).toNat) (m := bd) (by exact az (by omega)) (by exact az (Aw hbj (by decide +kernel))) (by exact hb) (by exact h0)) ?_)); rw [m2]; refine Km I (Ye I (Ye I (Ka I (Nn (Xd (Xa (Cg (Kq I (Rz I I I (by omega)) (Km I (Nn (Ly (j + 1) (by (try dsimp only); omega) (S3 I I I) (by refine (Sc ?_ (Sc ?_ (S0 _))) <;> (rfl)) ?_ (fun _ h => h)))))))))))); (try dsimp only); exact hjl
  ·refine Fq ?_; obtain rfl : j = bl.length := by omega
   rw [Ai]; refine Xa (H7 ?_); refine le ?_; exact R2 I I I (by rw [hch]; rfl)
def nc : Bs := [103, 114, 111, 117, 112, 115]
def tq : Bs := [98, 111, 117, 110, 100, 115]
def wt : Bs := [101, 113, 117, 97, 116, 105, 111, 110]
def zg : Bs := [116, 97, 114, 103, 101, 116]
def rI : Bs := [118, 97, 114, 105, 97, 98, 108, 101]
def tr : Bs := [98, 97, 115, 101]
def zh : Bs := [99, 111, 101, 102, 102, 105, 99, 105, 101, 110, 116]
theorem e9 {k : UInt8} {l : List Bs} {n M : Nat} (h1 : l.length ≤ n) (h2 : ∀ x ∈ l, x.length ≤ M) : (dP k l).length ≤ 9 + n * (8 + M) := by
 have h : (l.flatMap fr1).length ≤ l.length * (8 + M) := by
  clear h1
  induction l with
  | nil => simp
  | cons x l ih =>
   have a := ih fun y hy => h2 y (Cu _ hy)
   have b := h2 x List.mem_cons_self; rw [Cp, Al, Al, cj, Ay, Nat.succ_mul]; omega
 have h3 := Bp (8 + M) h1
 rw [dP]; simp only [Al, cj, Ay, B4]; omega
theorem bU (k : UInt8) (l : List Bs) : (bo k l).length = 32 := eH _
def lY (st : Bs) (t : Tm) : Bs := bo 73 ([bo 76 ([bo 65 [st, rI, Lib.decDigits t.2.1.toNat], tr] ++ [t.1]), zh] ++ [t.2.2].map zTx)
def jX (st : Bs) (q : Qn) : Bs := bo 76 ([bo 65 [st, wt, Lib.decDigits q.1.toNat], zg] ++ [q.2.1])
def pi (st : Bs) (q : Qn) : Bs := q.2.2.foldl lY (jX st q)
abbrev gN (g : Gp) : List Bs := [g.1, g.2]
def qd (st : Bs) (s : Sm) : Bs := bo 76 ([bo 76 ([st, nc] ++ s.1.flatMap gN), tq] ++ s.2.1)
def sT (st : Bs) (s : Sm) : Bs := s.2.2.foldl pi (qd st s)
theorem my {α β : Type} [Inhabited β] (f : α → β → α) (a : α) {l : List β} {j : Nat} (h : j < l.length) : (l.take (j + 1)).foldl f a = f ((l.take j).foldl f a) (l.getD j default) := by
 rw [aA h, List.foldl_append]; rfl
theorem mz (st : Bs) (l : List Tm) (h : st.length ≤ 100) : (l.foldl lY st).length ≤ 100 := by
 rcases List.eq_nil_or_concat l with rfl | ⟨l', t, rfl⟩
 ·exact h
 ·rw [List.concat_eq_append, List.foldl_append]; show (lY _ t).length ≤ 100; rw [lY, bU]; decide
theorem mA (st : Bs) (l : List Qn) (h : st.length ≤ 100) : (l.foldl pi st).length ≤ 100 := by
 rcases List.eq_nil_or_concat l with rfl | ⟨l', q, rfl⟩
 ·exact h
 ·rw [List.concat_eq_append, List.foldl_append]; show (pi _ q).length ≤ 100; exact mz _ _ (by rw [jX, bU]; decide)
def pB (s : Sm) : Prop := (s.1.length ≤ 100 ∧ s.2.1.length ≤ 100) ∧ (∀ g ∈ s.1, g.1.length ≤ 100 ∧ g.2.length ≤ 100) ∧ (∀ v ∈ s.2.1, v.length ≤ 100) ∧ ∀ q ∈ s.2.2, (0 ≤ q.1 ∧ q.1 < 100 ∧ q.2.1.length ≤ 100) ∧ ∀ t ∈ q.2.2, (0 ≤ t.2.1 ∧ t.2.1 < 100) ∧ t.1.length ≤ 100 ∧ t.2.2.2.length ≤ 1000
theorem rg {n : Nat} (h : n < 100) : (Lib.decDigits n).length ≤ 100 := by have := rk n; omega
theorem x6 {l : List Gp} {i : Nat} (h : i < l.length) : (l.take (i + 1)).flatMap gN = (l.take i).flatMap gN ++ [(l.getD i default).1, (l.getD i default).2] := by
 rw [aA h, List.flatMap_append]; simp
theorem uY (l : List Gp) : (l.flatMap gN).length = l.length * 2 := by
 induction l with
 | nil => rfl
 | cons g l ih => simp only [Cp, Al, ih, Ay, B4]; omega
theorem CF {st : Bs} {s : SA} {w : World} {ok : Nat → Prop} (hF1 : (Fact.sl s.ga (gps s.gs)).holds ok w) (hF2 : (Fact.sl s.va (vrs s.vs)).holds ok w) (hF3 : (Fact.sl s.ea (qas s.es)).holds ok w) (hM : ∀ f ∈ (s.es.map qaF), f.holds ok w) (hst : st.length ≤ 100) (hs : saL s) (hy : pB s.core) (hT : Tab w) :
  Cw 81 #[.string (S st), saV s] w (.string (S (sT st s.core))) := by
 obtain ⟨hlg, hlv, hle, hlt, hlm⟩ := hs
 obtain ⟨⟨hyg, hyv⟩, hgs, hvs, hqs⟩ := hy
 simp only [SA.core] at hyg hyv
 refine En (Fact.sl s.ga (gps s.gs) :: Fact.sl s.va (vrs s.vs) :: Fact.sl s.ea (qas s.es) :: (s.es.map qaF)) [(0, .string (S st)), (1, saV s)] Tryz.func81 I Tryz.ntmps81 I (Ac I (Ac I (An _))) (Fc (af hF1) (Fc (af hF2) (Fc (af hF3) (aE hM)))) (Eq ?_)
 intro b3
 refine Ka I (Nt (Cs (Ka I (GI ?_)))); refine Gi ?_
 refine Yo I u39 (Km I (Nt (Cb (Lo (σ := Nat × (Option Nat) × Nat × (List Value)) [(0, _), (3, _), (6, _), (16, _), (17, _)] (fun gq => [(5, .slice (gq.2.1.map fun b => ⟨b, 0, none⟩) ((s.gs.take gq.1).flatMap gN).length gq.2.2.1), (18, .int .i64 (gq.1 : Int))]) (fun gq => gq.1 ≤ s.gs.length ∧ gq.2.2.1 = ((s.gs.take gq.1).flatMap gN).length + gq.2.2.2.length) (fun gq => s.gs.length - gq.1) (fun gq => [⟨gq.2.1, am ((s.gs.take gq.1).flatMap gN) ++ gq.2.2.2, 22⟩, ⟨some b3, [.slice s.ga s.gs.length s.gc, .slice s.va s.vs.length s.vc, .slice s.ea s.es.length s.ec], 43⟩]) (fun gq => (Fact.sl s.ga (gps s.gs) :: Fact.sl s.va (vrs s.vs) :: Fact.sl s.ea (qas s.es) :: s.es.map qaF)) (0, none, 0, []) (S5 I I I I I) (S2 I I) (by (try dsimp only); exact ⟨Af _, rfl⟩) (by exact fun w h => h.nil _) ?_))))
 rintro ⟨i, o, cp, sp⟩ hinv1; (try dsimp only at hinv1 ⊢)
 obtain ⟨hi, hcp⟩ := hinv1
 refine ne (fun hc19 => ?_) (fun hc19 => ?_)
 ·have hil : i < s.gs.length := by omega
  have hgl := uY (s.gs.take i)
  rw [B1, Dh hi] at hgl
  have hgn := x6 hil
  have hgs2 : am ((s.gs.take (i + 1)).flatMap gN) = am ((s.gs.take i).flatMap gN) ++ [.string (S (s.gs.getD i default).1), .string (S (s.gs.getD i default).2)] := by rw [hgn]; simp [am]
  have hgl2 := congrArg List.length hgn
  simp only [Al, Ay, B4] at hgl2
  refine FO ?_; refine Fv ?_
  refine FK ?_
  refine Gb ?_
  intro b8
  refine FF ?_; refine Nt (Cg (Km I (Gj ?_)))
  refine Gh ?_
  refine Kh I (aN I I u33 (by kernel_rfl : _ = some (some (.string (S [])), 1, 16)) I (by simp only [List.map]; rfl) I I ?_ (by decide)) ?_
  ·simp [Value.cells]
  intro b27
  refine Kh I (ol I u33 (by kernel_rfl : _ = some (some (.string (S [])), 1, 16)) I .tc I I (fun w hS => by (exact hS.os)) (by rfl) (by (refine ⟨?_, ?_, ?_, ?_⟩ <;> first | (rw [am, Ag]; done) | omega)) (by (simp [Value.oneCell']; done))) ?_
  rintro ⟨o28, c28, s28⟩
  refine WL.pu ?_
  intro hg28; (try dsimp only at hg28 ⊢)
  refine Ns 28 I (v' := .slice (o28.map fun b => ⟨b, 0, none⟩) ((s.gs.take (i + 1)).flatMap gN).length c28) (by rw [hgl2]) ?_
  refine Ka I (Nn (Xd (Xa (Cg (Kq I (Rz I I I (by omega)) (Km I (Nn (Lx ((i + 1, o28, c28, s28)) (by (try dsimp only); omega) (S5 I I I I I) (by refine (Sc ?_ (Sc ?_ (S0 _))) <;> (rfl)) ?_ (by exact fun w h => by rw [hgs2]; exact aq _ h)))))))))
  (try dsimp only)
  exact ⟨hil, by omega⟩
 ·refine Fq ?_
  obtain rfl : i = s.gs.length := by omega
  rw [Ai] at hcp ⊢
  have hgl := uY s.gs
  refine Xa (Cq (Cs (Ge ?_)))
  refine HF ?_; refine Lo (σ := Nat × (Option Nat) × Nat × (List Value)) [(0, _), (3, _), (5, _), (31, _), (32, _)] (fun gq => [(6, .slice (gq.2.1.map fun b => ⟨b, 0, none⟩) gq.1 gq.2.2.1), (33, .int .i64 (gq.1 : Int))]) (fun gq => gq.1 ≤ s.vs.length ∧ gq.2.2.1 = gq.1 + gq.2.2.2.length) (fun gq => s.vs.length - gq.1) (fun gq => [⟨gq.2.1, am (s.vs.take gq.1) ++ gq.2.2.2, 22⟩, ⟨o, am (s.gs.flatMap gN) ++ sp, 22⟩, ⟨some b3, [.slice s.ga s.gs.length s.gc, .slice s.va s.vs.length s.vc, .slice s.ea s.es.length s.ec], 43⟩]) (fun gq => (Fact.sl s.ga (gps s.gs) :: Fact.sl s.va (vrs s.vs) :: Fact.sl s.ea (qas s.es) :: s.es.map qaF)) (0, none, 0, []) (S5 I I I I I) (S2 I I) (by (try dsimp only); exact ⟨Af _, rfl⟩) (by exact fun w h => h.nil _) ?_
  rintro ⟨j, o2, cp2, sp2⟩ hinv2; (try dsimp only at hinv2 ⊢)
  obtain ⟨hj, hcp2⟩ := hinv2
  refine ne (fun hc34 => ?_) (fun hc34 => ?_)
  ·have hjl : j < s.vs.length := by omega
   have hvl : (am (s.vs.take j)).length = j := by simp [am]; omega
   have hvn : am (s.vs.take (j + 1)) = am (s.vs.take j) ++ [.string (S (s.vs.getD j default))] := by rw [aA hjl]; simp [am]
   refine FO ?_; refine FG ?_; refine Fu ?_; refine GK ?_; intro b10; refine FF ?_; refine Nt (Cg (Km I (Hc ?_))); refine Kh I (aN I I u33 (by kernel_rfl : _ = some (some (.string (S [])), 1, 16)) I (by simp only [List.map]; rfl) I I ?_ (by decide)) ?_
   ·simp [Value.cells]
   intro b40; refine Kh I (ol I u33 (by kernel_rfl : _ = some (some (.string (S [])), 1, 16)) I .tc I I (fun w hS => by (exact hS.os)) (by rfl) (by (refine ⟨?_, ?_, ?_, ?_⟩ <;> first | exact hvl | omega)) (by (simp [Value.oneCell']; done))) ?_; rintro ⟨o41, c41, s41⟩; refine WL.pu ?_; intro hg41; (try dsimp only at hg41 ⊢); refine Ka I (Nn (Xd (Xa (Cg (Kq I (Rz I I I (by omega)) (Km I (Nn (Lx ((j + 1, o41, c41, s41)) (by (try dsimp only); omega) (S5 I I I I I) (by refine (Sc ?_ (Sc ?_ (S0 _))) <;> (rfl)) ?_ (by exact fun w h => by rw [hvn]; exact aq _ h))))))))); (try dsimp only); exact ⟨hjl, by omega⟩
  ·refine Fq ?_; obtain rfl : j = s.vs.length := by omega
   rw [Ai]
   have hg1 : ∀ x ∈ [st, nc] ++ s.gs.flatMap gN, x.length ≤ 100 := by
    intro x hx; simp only [Bx, Be, List.mem_flatMap, D3, or_false] at hx
    rcases hx with (rfl | rfl) | ⟨g, hg, rfl | rfl⟩
    ·exact hst
    ·decide
    ·exact (hgs g hg).1
    ·exact (hgs g hg).2
   have hg2 : ([st, nc] ++ s.gs.flatMap gN).length ≤ 202 := by rw [Al, hgl]; simp only [Ay, B4]; omega
   have hg3 : (dP 76 ([st, nc] ++ s.gs.flatMap gN)).length ≤ 1000000 := Bi (e9 hg2 hg1) (by decide)
   have hv1 : ∀ x ∈ [bo 76 ([st, nc] ++ s.gs.flatMap gN), tq] ++ s.vs, x.length ≤ 100 := by
    intro x hx; simp only [Bx, Be, D3, or_false] at hx
    rcases hx with (rfl | rfl) | hx
    ·rw [bU]; decide
    ·decide
    ·exact hvs x hx
   have hv2 : ([bo 76 ([st, nc] ++ s.gs.flatMap gN), tq] ++ s.vs).length ≤ 202 := by rw [Al]; simp only [Ay, B4]; omega
   have hv3 : (dP 76 ([bo 76 ([st, nc] ++ s.gs.flatMap gN), tq] ++ s.vs)).length ≤ 1000000 := Bi (e9 hv2 hv1) (by decide); refine Xa (Hd ?_); refine Kc I (fun w hS => iB (s := st) (x := nc) (nl := s.gs.flatMap gN) (by (exact hS.oc)) (by (rw [hgl]; omega)) (by exact hg3)) (FN ?_); refine Km I (Kc I (fun w hS => iB (s := bo 76 ([st, nc] ++ s.gs.flatMap gN)) (x := tq) (nl := s.vs) (by (exact hS.oc)) (by omega) (by exact hv3)) (GI ?_)); refine Gz ?_; refine Yo I u41 (Km I (Nt (Cb (Lp (σ := Nat) [(50, _), (51, _)] (fun gq => [(0, .string (S ((s.es.take gq).foldl (fun a q => pi a q.1) (qd st s.core)))), (52, .int .i64 (gq : Int))]) (fun gq => gq ≤ s.es.length) (fun gq => s.es.length - gq) (0) (S2 I I) (S2 I I) (by (try dsimp only); exact Af _) ?_)))); rintro k hinv3; (try dsimp only at hinv3 ⊢); obtain hk := hinv3; refine ne (fun hc53 => ?_) (fun hc53 => ?_)
   ·have hkl : k < s.es.length := by omega
    have hkm := aj s.es k hkl; obtain ⟨q, hq⟩ : ∃ q, Keep (q = s.es.getD k default) := ⟨_, rfl⟩; rw [← show q = _ from hq] at hkm; obtain ⟨⟨hq0, hq1, hqt⟩, hqm⟩ := hqs _ (At hkm); have hlt1 := hlt q hkm; obtain ⟨A, hA⟩ : ∃ A, Keep (A = (s.es.take k).foldl (fun a q => pi a q.1) (qd st s.core)) := ⟨_, rfl⟩; have hAl : A.length ≤ 100 := by rw [show A = _ from hA, ← List.foldl_map (f := fun q : QA => q.1) (g := pi)]; exact mA _ _ (by rw [qd, bU]; decide)
    have hAn : (s.es.take (k + 1)).foldl (fun a q => pi a q.1) (qd st s.core) = q.1.2.2.foldl lY (jX A q.1) := by rw [my _ _ hkl, ← show A = _ from hA, ← show q = _ from hq]; rfl
    rw [← show A = _ from hA]; have hdl := rg (n := q.1.1.toNat) (by omega)
    have ht3 : (dP 76 ([bo 65 [A, wt, Lib.decDigits q.1.1.toNat], zg] ++ [q.1.2.1])).length ≤ 1000000 := Bi (e9 (n := 3) (M := 100) (by simp) (by
     intro x hx; simp only [Bx, Be, D3, or_false] at hx
     rcases hx with (rfl | rfl) | rfl
     ·rw [bU]; decide
     ·decide
     ·exact hqt)) (by decide)
    refine FO ?_; refine FA ?_; refine FH ?_; refine FT ?_; intro b12; rw [← show q = _ from hq]; refine FF ?_; refine Nt (Cs (Km I (Hn ?_))); refine Ns 58 I (v' := .int .i64 ((q.1.1.toNat : Nat) : Int)) (by rw [Ea hq0]) ?_; refine Kc I (fun w hS => ln (n := q.1.1.toNat) (by omega) (by exact bW hT hS)) (Kc I (fun w hS => nj (s := A) (x := wt) (y := Lib.decDigits q.1.1.toNat) (by omega) (by decide) (by omega)) (FN ?_)); refine Kf 1 I u84 I I I .tc u22 ?_; refine Kh I (aN I I u33 (by kernel_rfl : _ = some (some (.string (S [])), 1, 16)) I (by simp only [List.map]; rfl) I I ?_ (by decide)) ?_
    ·simp [Value.cells]
    intro b64; refine Kc I (fun w hS => iB (s := bo 65 [A, wt, Lib.decDigits q.1.1.toNat]) (x := zg) (nl := [q.1.2.1]) (by (exact hS.os)) (by simp) (by exact ht3)) (Ka I (Nt (Cs (Hw ?_)))); refine Yo I u82 (Km I (Nt (Cb (Lo (σ := Nat) [(50, _), (51, _), (52, _), (67, _), (68, _)] (fun gq => [(0, .string (S ((q.1.2.2.take gq).foldl lY (jX A q.1)))), (69, .int .i64 (gq : Int))]) (fun gq => gq ≤ q.1.2.2.length) (fun gq => q.1.2.2.length - gq) (fun gq => [⟨o2, am s.vs ++ sp2, 22⟩, ⟨o, am (s.gs.flatMap gN) ++ sp, 22⟩, ⟨some b3, [.slice s.ga s.gs.length s.gc, .slice s.va s.vs.length s.vc, .slice s.ea s.es.length s.ec], 43⟩]) (fun gq => (Fact.sl q.2.1 (tms q.1.2.2) :: Fact.sl s.ga (gps s.gs) :: Fact.sl s.va (vrs s.vs) :: Fact.sl s.ea (qas s.es) :: s.es.map qaF)) (0) (S5 I I I I I) (S2 I I) (by (try dsimp only); exact Af _) (by exact fun w h => aq _ (h.add (h.moreo (more := s.es.map qaF) _ (At hkm)))) ?_)))); rintro n hinv4; (try dsimp only at hinv4 ⊢); obtain hn := hinv4; refine ne (fun hc70 => ?_) (fun hc70 => ?_)
    ·have hnl : n < q.1.2.2.length := by omega
     have htm := aj q.1.2.2 n hnl; obtain ⟨t, ht⟩ : ∃ t, Keep (t = q.1.2.2.getD n default) := ⟨_, rfl⟩; rw [← show t = _ from ht] at htm; obtain ⟨⟨ht0, ht1⟩, htb, htc⟩ := hqm t htm; obtain ⟨C, hC⟩ : ∃ C, Keep (C = (q.1.2.2.take n).foldl lY (jX A q.1)) := ⟨_, rfl⟩; have hCl : C.length ≤ 100 := by rw [show C = _ from hC]; exact mz _ _ (by rw [jX, bU]; decide)
     have hCn : (q.1.2.2.take (n + 1)).foldl lY (jX A q.1) = lY C t := by rw [my _ _ hnl, ← show C = _ from hC, ← show t = _ from ht]
     rw [← show C = _ from hC]; have hel := rg (n := t.2.1.toNat) (by omega)
     have hb3 : (dP 76 ([bo 65 [C, rI, Lib.decDigits t.2.1.toNat], tr] ++ [t.1])).length ≤ 1000000 := Bi (e9 (n := 3) (M := 100) (by simp) (by
      intro x hx; simp only [Bx, Be, D3, or_false] at hx
      rcases hx with (rfl | rfl) | rfl
      ·rw [bU]; decide
      ·decide
      ·exact htb)) (by decide)
     have hc3 : (dP 73 ([bo 76 ([bo 65 [C, rI, Lib.decDigits t.2.1.toNat], tr] ++ [t.1]), zh] ++ [t.2.2].map zTx)).length ≤ 1000000 := Bi (e9 (n := 3) (M := 1001) (by simp) (by
      intro x hx; simp only [Bx, Be, D3, or_false, Ds, List.map_nil] at hx
      rcases hx with (rfl | rfl) | rfl
      ·rw [bU]; decide
      ·decide
      ·rw [zTx, Ay]; omega)) (by decide)
     refine FO ?_; refine Ga ?_; refine Gf ?_; refine GQ ?_; intro b14; rw [← show t = _ from ht]; refine FF ?_; refine Nt (Cs (Km I (Kf 1 I dG I I I .tc u3 ?_))); refine Ns 75 I (v' := .int .i64 ((t.2.1.toNat : Nat) : Int)) (by rw [Ea ht0]) ?_; refine Kc I (fun w hS => ln (n := t.2.1.toNat) (by omega) (by exact bW hT hS)) (Kc I (fun w hS => nj (s := C) (x := rI) (y := Lib.decDigits t.2.1.toNat) (by omega) (by decide) (by omega)) (FN ?_)); refine Kf 0 I dG I I I .tc u22 ?_; refine Kh I (aN I I u33 (by kernel_rfl : _ = some (some (.string (S [])), 1, 16)) I (by simp only [List.map]; rfl) I I ?_ (by decide)) ?_
     ·simp [Value.cells]
     intro b81; refine Kc I (fun w hS => iB (s := bo 65 [C, rI, Lib.decDigits t.2.1.toNat]) (x := tr) (nl := [t.1]) (by (exact hS.os)) (by simp) (by exact hb3)) (Ka I (Nt (Cg (Km I (Kq I (Fa (q := 2) I I dG I I) (Kq I (ldp I I .tc u68 I (by kernel_rfl : _ = some 2) (by rfl) (by rfl)) ?_)))))); refine Kh I (ew I I u31 (by kernel_rfl : _ = some (some (.agg #[.bool false, .string (S [])]), 2, 24)) (by kernel_rfl) (by decide) I I (by (simp [Value.cells]; done)) (by (exact bV _)) (by decide)) ?_; intro b86; refine Kc I (fun w hS => wF (s := bo 76 ([bo 65 [C, rI, Lib.decDigits t.2.1.toNat], tr] ++ [t.1])) (x := zh) (nl := [t.2.2]) (by (exact hS.os)) (by simp) (by (simpa using htc)) (by exact hc3)) (Ns 87 I (v' := .string (S ((q.1.2.2.take (n + 1)).foldl lY (jX A q.1)))) (congrArg (fun l => Value.string (S l)) (by rw [hCn]; rfl)) ?_); refine Ka I (Nn (Xd (Xa (Cg (Kq I (Rz I I I (by omega)) (Km I (Nn (Lx (n + 1) (by (try dsimp only); omega) (S5 I I I I I) (by refine (Sc ?_ (Sc ?_ (S0 _))) <;> (rfl)) ?_ (by (exact aq)))))))))); (try dsimp only); exact hnl
    ·refine Fq ?_; obtain rfl : n = q.1.2.2.length := by omega
     rw [Ai, ← hAn]; refine Xd (Xa (Cg (Kq I (Rz I I I (by omega)) (Km I (Nn (Ly (k + 1) (by (try dsimp only); omega) (S2 I I) (by refine (Sc ?_ (Sc ?_ (S0 _))) <;> (rfl)) ?_ (by (exact aq)))))))); (try dsimp only); exact hkl
   ·refine Fq ?_; obtain rfl : k = s.es.length := by omega
    rw [Ai]; have hr : s.es.foldl (fun a q => pi a q.1) (qd st s.core) = sT st s.core := by rw [sT, SA.core, List.foldl_map]
    rw [hr]; refine Xa (Cs (Km I (le ?_))); exact Iq
def ou : Bs := [100, 111, 109, 105, 110, 111, 32, 112, 114, 111, 111, 102]
def rK : Bs := [99, 111, 110, 116, 101, 120, 116]
def CL : Bs := [102, 111, 114, 109, 117, 108, 97]
def rJ : Bs := [102, 105, 114, 115, 116]
abbrev ia (r : Gp) (s : SA) : Value := .agg #[.string (S r.1), .string (S r.2), .slice s.ga s.gs.length s.gc, .slice s.va s.vs.length s.vc, .slice s.ea s.es.length s.ec, .slice none 0 0, .slice none 0 0, .string (S [])]
def ch0 (cx : Bs) (s : Sm) : Bs := bo 65 [sT (bo 65 [bo 78 [ou], rK, cx]) s, CL, []]
def CB (r : Gp) (cx : Bs) (s : Sm) (fs : List Bs) : Bs := yw (bo 76 ([ch0 cx s, rJ] ++ fs)) r.1
theorem vV {st : Bs} {s : Sm} : (sT st s).length ≤ 100 := mA _ _ (by rw [qd, bU]; decide)
theorem vh {r : Gp} {s : SA} {cx : Bs} {fs : List Bs} {a b : Option Addr} {c d : Nat} {w : World} {ok : Nat → Prop} (hF1 : (Fact.sl s.ga (gps s.gs)).holds ok w) (hF2 : (Fact.sl s.va (vrs s.vs)).holds ok w) (hF3 : (Fact.sl s.ea (qas s.es)).holds ok w) (hF4 : (Fact.sl a (am fs)).holds ok w) (hM : ∀ f ∈ (s.es.map qaF), f.holds ok w) (hcx : cx.length ≤ 100) (hs : saL s) (hy : pB s.core) (hfl : fs.length ≤ 100) (hf : ∀ x ∈ fs, x.length ≤ 100) (hr : okN r.1) (hr0 : r.1 ≠ []) (hr8 : r.1.length ≤ 8) (hT : Tab w) :
  Cw 35 #[ia r s, .string (S cx), .slice a fs.length c, .slice b 0 d] w (NE (CB r cx s.core fs, 0)) := by
 have hb1 := vV (st := bo 65 [bo 78 [ou], rK, cx]) (s := s.core)
 have h1l := bU 78 [ou]
 have h2l := bU 65 [bo 78 [ou], rK, cx]
 have h3l : (ch0 cx s.core).length = 32 := by rw [ch0, bU]
 have h4l := bU 76 ([ch0 cx s.core, rJ] ++ fs)
 have hc3 : (dP 76 ([ch0 cx s.core, rJ] ++ fs)).length ≤ 1000000 := Bi (e9 (n := 102) (M := 100) (by rw [Al]; simp only [Ay, B4]; omega) (by
  intro x hx
  simp only [Bx, Be, D3, or_false] at hx
  rcases hx with (rfl | rfl) | hx
  ·omega
  ·decide
  ·exact hf x hx)) (by decide)
 refine En (Fact.sl s.ga (gps s.gs) :: Fact.sl s.va (vrs s.vs) :: Fact.sl s.ea (qas s.es) :: Fact.sl a (am fs) :: (s.es.map qaF)) [(0, ia r s), (1, .string (S cx)), (2, .slice a fs.length c), (3, .slice b 0 d)] Tryz.func35 I Tryz.ntmps35 I (Ac I (Ac I (Ac I (Ac I (An _))))) (Fc (af hF1) (Fc (af hF2) (Fc (af hF3) (Fc (af hF4) (aE hM))))) (Eq ?_)
 intro b4
 refine Ka I (Ka I (Nt (Cs (Kc I (fun w hS => zn (x := ou) (by decide)) (Km I (Kc I (fun w hS => nj (s := bo 78 [ou]) (x := rK) (y := cx) (by omega) (by decide) (by omega)) (FN ?_))))))); refine Ha ?_
 refine Kc I (fun w hS => CF (st := bo 65 [bo 78 [ou], rK, cx]) (s := s) (by (exact hS.sl)) (by (exact hS.sl)) (by (exact hS.sl)) (by (exact hS.more)) (by omega) (by exact hs) (by exact hy) (by exact bW hT hS)) (Ka I (Nt (Cs (Ie ?_)))); refine G7 ?_
 refine Kc I (fun w hS => x7) (Fs ?_); refine Hd ?_; refine Kc I (fun w hS => nj (s := sT (bo 65 [bo 78 [ou], rK, cx]) s.core) (x := CL) (y := []) (by omega) (by decide) (by decide)) (GI ?_); refine HA ?_
 refine Yo I u52 (Km I (Nt (Cb (Lp (σ := Nat) [(2, _), (3, _), (4, _), (36, _), (37, _)] (fun gq => [(10, .string (S (ch0 cx s.core))), (38, .int .i64 0)]) (fun gq => 0 ≤ gq) (fun gq => 0) (0) (S5 I I I I I) (S2 I I) (by (try dsimp only); exact Af _) ?_))))
 rintro u hinv1; (try dsimp only at hinv1 ⊢)
 refine Cs (Yl I (Nt (Cq (Cd I (fun hc39 => by exfalso; (try simp only [sB] at hc39); omega) (fun hc39 => ?_)))))
 (try simp only [sB] at hc39)
 refine Fq ?_; refine Xa (Hd ?_)
 refine Kc I (fun w hS => iB (s := ch0 cx s.core) (x := rJ) (nl := fs) (by (exact hS.sl)) (by omega) (by exact hc3)) (FM ?_); refine Yo I u96 (Km I (Nt (Cb (Lp (σ := Nat) [(4, _), (49, _), (50, _)] (fun gq => [(10, .string (S (bo 76 ([ch0 cx s.core, rJ] ++ fs)))), (51, .int .i64 0)]) (fun gq => 0 ≤ gq) (fun gq => 0) (0) (S3 I I I) (S2 I I) (by (try dsimp only); exact Af _) ?_))))
 rintro u2 hinv2; (try dsimp only at hinv2 ⊢)
 refine Cs (Yl I (Nt (Cq (Cd I (fun hc52 => by exfalso; (try simp only [sB] at hc52); omega) (fun hc52 => ?_)))))
 (try simp only [sB] at hc52)
 refine Fq ?_; refine Xa (Cs (Km I (Kq I (Fa (q := 0) I I u89 I I) (Hi ?_))))
 refine Kc I (fun w hS => wG (s := bo 76 ([ch0 cx s.core, rJ] ++ fs)) (bd := r.1) (by omega) (by exact hr) (by exact hr0) (by exact hr8)) (Ye I (Ye I (Ka I (le ?_))))
 exact IF
abbrev zA : Value := .agg #[.string (S []), .string (S []), .slice none 0 0, .slice none 0 0, .slice none 0 0, .slice none 0 0, .slice none 0 0, .string (S [])]
def jB (r : Gp) (s : SA) : Value := if bdE r s.core ≠ 0 then zA else ia r s
theorem nF {r : Gp} {s : SA} {w : World} {ok : Nat → Prop} (hF1 : (Fact.sl s.ga (gps s.gs)).holds ok w) (hF2 : (Fact.sl s.va (vrs s.vs)).holds ok w) (hF3 : (Fact.sl s.ea (qas s.es)).holds ok w) (hM : ∀ f ∈ (s.es.map qaF), f.holds ok w) (hs : saL s) (h4 : r.1.length ≤ 8) (h5 : r.2.length ≤ 8) (h6 : ∀ v ∈ s.vs, v.length ≤ 8) :
  Cw 31 #[.agg #[.string (S r.1), .string (S r.2)], saV s, cl0] w (.tuple #[jB r s, .int .i64 (bdE r s.core)]) := by
 refine En (Fact.sl s.ga (gps s.gs) :: Fact.sl s.va (vrs s.vs) :: Fact.sl s.ea (qas s.es) :: (s.es.map qaF)) [(0, .agg #[.string (S r.1), .string (S r.2)]), (1, saV s), (2, cl0)] Tryz.func31 I Tryz.ntmps31 I (Ac I (Ac I (Ac I (An _)))) (Fc (af hF1) (Fc (af hF2) (Fc (af hF3) (aE hM)))) (Eq ?_)
 intro b3
 refine Gc ?_
 intro b4
 refine Gc ?_
 intro b5
 refine FQ ?_
 intro b6
 refine Ka I (Nt (Cq (Cs (Kq I (lda I I .tc u24 I ?_) ?_))))
 ·kernel_rfl
 refine Kq I (lda I I .tc u43 I ?_) ?_
 ·kernel_rfl
 refine F3 ?_
 rintro ⟨g16, h16⟩
 refine WL.pu ?_
 intro hg16; (try dsimp only [List.cons_append, List.nil_append] at hg16 ⊢)
 refine GV ?_; refine Ka I (Nt (Fz (fun hc21 => ?_) (fun hc21 => ?_)))
 ·have hb : bdE r s.core ≠ 0 := fun h => hc21 (by rw [bdS, Aa (fun h1 => h1 h)])
  have he : (bdS r s.core).2 = bdE r s.core := by rw [bdS, Ae hb]
  have hr : jB r s = zA := by rw [jB, Ae hb]
  refine Cs (Kq I (Kb [[.string (S []), .string (S [])], [.slice none 0 0, .slice none 0 0, .slice none 0 0], [.slice none 0 0, .slice none 0 0], [.string (S [])]] I I) (Km I (FF ?_))); refine le ?_; refine Xb ?_
  exact Rn I (.agg I .tc u89 I (by kernel_rfl) (.tmp I .nil)) fun w' hS => ⟨by rw [hr, he]; rfl, hS.below⟩
 ·obtain ⟨hb, hbs⟩ := iv (show (bdS r s.core).2 = 0 by (simpa using hc21))
  have hr : jB r s = ia r s := by rw [jB, Aa (fun h => h hb)]
  refine Ck (Xa (Cq (Cs (Kq I (lda I I .tc u57 I ?_) ?_))))
  ·kernel_rfl
  refine Kc I (fun w hS => lL) (FN ?_); refine Yj I (Ns 27 I (v' := .bool false) (by rfl) ?_)
  refine Fx (fun _ => ?_)
  refine Ck (Xa (Cs (Kq I (lda I I .tc u24 I ?_) ?_)))
  ·kernel_rfl
  refine Kq I (lda I I .tc u43 I ?_) ?_
  ·kernel_rfl
  refine Kq I (lda I I .tc u57 I ?_) ?_
  ·kernel_rfl
  refine Kq I (Kb [[.string (S []), .string (S [])], [.slice none 0 0, .slice none 0 0, .slice none 0 0], [.slice none 0 0, .slice none 0 0], [.string (S [])]] I I) ?_
  refine FQ ?_
  intro b12
  refine FF ?_; refine Nt (Cq (Cs (HH ?_)))
  refine Yo I u52 (Yg I (Nt (Cd I (fun hc37 => by exfalso; (try simp only [sB] at hc37); omega) (fun hc37 => ?_))))
  (try simp only [sB] at hc37)
  refine Ck (Xa (Cs (Kq I (lda I I .tc u89 I ?_) ?_)))
  ·kernel_rfl
  refine FF ?_; refine le ?_
  exact Rn I (.agg I .tc u89 I (by kernel_rfl) (.tmp I .nil)) fun w' hS => ⟨by rw [hr, hb]; rfl, hS.below⟩
end Go.Proofs.YtchonigdjamphaaGreatDoor
