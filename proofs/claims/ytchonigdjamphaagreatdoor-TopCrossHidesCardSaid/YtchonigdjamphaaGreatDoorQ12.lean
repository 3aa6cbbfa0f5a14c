/-
  Parts of the walk: Lin2 Lin3 Lin4 Lin5 Lin6 Sga.
-/
import Derived.Test.YtchonigdjamphaaGreatDoorQ11
namespace Go.Proofs.YtchonigdjamphaaGreatDoor
open Go.RowKit
set_option linter.unusedSimpArgs false
set_option linter.unusedVariables false
set_option maxHeartbeats 600000
set_option maxRecDepth 20000
theorem gT {f : Fact} {w w' : World} (h : f.holds (fun _ => True) w) (hb : Below w.heap.size w w') : f.holds (fun _ => True) w' := f.stable h hb.size fun b hlt _ => hb.block b hlt
theorem sG (v : Value) : #[v] ++ (#[] : Array Value) = #[v] := by simp
theorem BM (v u : Value) : #[v] ++ (#[u] : Array Value) = #[v, u] := by simp
theorem j9 {ok : Nat → Prop} {w0 w : World} {own : List Ent} {fs more : List Fact} {f : Fact} (h : St ok w0 own fs w) [hm : oq fs more] (hf : f ∈ more) : St ok w0 own (f :: fs) w := h.add (h.fact f (hm.h f hf))
theorem oS {s : SA} {w : World} {ok : Nat → Prop} (hF1 : (Fact.sl s.ga (gps s.gs)).holds ok w) (hs : saL s) :
  Cw 108 #[saV s] w (.string (S (ak s.gs))) := by
 obtain ⟨hlg, hlv, hle, hlt, hlm⟩ := hs
 refine En [Fact.sl s.ga (gps s.gs)] [(0, saV s)] Tryz.func108 I Tryz.ntmps108 I (Ac I (An _)) (Fc (af hF1) Fn) (Eq ?_)
 intro b1
 refine GI ?_; refine Gi ?_
 refine Yo I u39 (Km I (Nt (Cb (Lp (σ := Nat) [(6, _), (7, _)] (fun gq => [(8, .int .i64 (gq : Int))]) (fun gq => gq ≤ s.gs.length ∧ ∀ g ∈ s.gs.take gq, g.2 = []) (fun gq => s.gs.length - gq) (0) (S2 I I) (S1 I) (by (try dsimp only); exact ⟨Af _, by simp⟩) ?_))))
 rintro i hinv1; (try dsimp only at hinv1 ⊢)
 obtain ⟨hi, hok⟩ := hinv1
 refine ne (fun hc9 => ?_) (fun hc9 => ?_)
 ·have hil : i < s.gs.length := by omega
  refine FO ?_; refine Fv ?_
  refine FK ?_
  refine Gb ?_
  intro b4
  refine FF ?_; refine Nt (Cs (Gh ?_))
  refine Hr (fun hc14 => ?_) (fun hc14 => ?_)
  ·refine Cs (Gh ?_); refine le ?_; refine FE ?_; exact R1 I I (by rw [nE hil hok (by simpa using hc14)]; rfl)
  ·refine Ck (Xd (Xa (Cg (Kq I (Rz I I I (by omega)) (Km I (Nn (Ly (i + 1) (by (try dsimp only); omega) (S2 I I) (by refine (Sc ?_ (S0 _)) <;> (rfl)) ?_ (by (exact aq))))))))); (try dsimp only); exact ⟨hil, ax hil hok (by simpa using hc14)⟩
 ·refine Fq ?_
  obtain rfl : i = s.gs.length := by omega
  rw [Ai] at hok
  refine Xa (Cs (le ?_))
  exact R1 I I (by rw [lf hok]; rfl)
theorem u6 {s : SA} {w : World} {ok : Nat → Prop} (hF1 : (Fact.sl s.ga (gps s.gs)).holds ok w) (hF2 : (Fact.sl s.va (vrs s.vs)).holds ok w) (hF3 : (Fact.sl s.ea (qas s.es)).holds ok w) (hM : ∀ f ∈ (s.es.map qaF), f.holds ok w) (hs : saL s) :
  Cw 105 #[saV s] w (.int .i64 (if bc s.core then 0 else 3)) := by
 obtain ⟨hlg, hlv, hle, hlt, hlm⟩ := hs
 refine En (Fact.sl s.ga (gps s.gs) :: Fact.sl s.va (vrs s.vs) :: Fact.sl s.ea (qas s.es) :: (s.es.map qaF)) [(0, saV s)] Tryz.func105 I Tryz.ntmps105 I (Ac I (An _)) (Fc (af hF1) (Fc (af hF2) (Fc (af hF3) (aE hM)))) (Eq ?_)
 intro b1
 refine GI ?_; refine Gi ?_
 refine Yo I u39 (Km I (Nt (Cb (Lp (σ := Nat) [(1, _), (12, _), (13, _)] (fun gq => [(14, .int .i64 (gq : Int))]) (fun gq => gq ≤ s.gs.length ∧ ∀ g ∈ s.gs.take gq, okG g) (fun gq => s.gs.length - gq) (0) (S3 I I I) (S1 I) (by (try dsimp only); exact ⟨Af _, by simp⟩) ?_))))
 rintro i hinv1; (try dsimp only at hinv1 ⊢)
 obtain ⟨hi, hok⟩ := hinv1
 refine ne (fun hc15 => ?_) (fun hc15 => ?_)
 ·have hil : i < s.gs.length := by omega
  refine FO ?_; refine Fv ?_
  refine FK ?_
  refine Gb ?_
  intro b4
  refine FF ?_; refine Nt (WC.joinP (σ := Unit) [(1, _), (12, _), (13, _), (14, _)] (fun gq => [(27, .bool (decide (¬ (okN (s.gs.getD i default).1 ∧ okN (s.gs.getD i default).2))))]) (fun gq => True) (S4 I I I I) ?_ ?_)
  ·skip
   refine Cg (Gj ?_); refine Kc I (fun w hS => ay (a := (s.gs.getD i default).1)) (Yt I (Km I (Nc 22 I (fun hg22 => ?_) (fun hg22 => ?_))))
   ·refine T4 I (Yp I (Nn (WX.joinP (()) (S4 I I I I) (by refine (Sc ?_ (S0 _)) <;> ((refine congrArg (fun b => some (Value.bool b)) ?_; simp [*, -List.getD_eq_getElem?_getD]; done))) ?_ (fun _ h => h)))); (try dsimp only); done
   ·refine Kf 1 I u26 I I I .tc u22 ?_; refine Kc I (fun w hS => ay (a := (s.gs.getD i default).2)) (Yt I (Yq I (Nn (WX.joinP (()) (S4 I I I I) (by refine (Sc ?_ (S0 _)) <;> ((refine congrArg (fun b => some (Value.bool b)) ?_; simp [*, -List.getD_eq_getElem?_getD]; done))) ?_ (fun _ h => h))))); (try dsimp only); done
  ·rintro _ hmeet; (try dsimp only at hmeet ⊢); refine Ci I (fun hc27 => ?_) (fun hc27 => ?_)
   ·refine Cs (le ?_); refine FE ?_; exact R1 I I (by rw [Aa (fun h => absurd (h.1 _ (aj _ _ hil)) hc27)]; rfl)
   ·refine Ck (Xd (Xa (Cg (Kq I (Rz I I I (by omega)) (Km I (Nn (Ly (i + 1) (by (try dsimp only); omega) (S3 I I I) (by refine (Sc ?_ (S0 _)) <;> (rfl)) ?_ (by (exact aq))))))))); (try dsimp only); exact ⟨hil, ax hil hok (Ah.1 hc27)⟩
 ·refine Fq ?_
  obtain rfl : i = s.gs.length := by omega
  rw [Ai] at hok
  refine Xa (Cq (Cs (Ge ?_)))
  refine HF ?_; refine Lp (σ := Nat) [(1, _), (30, _), (31, _)] (fun gq => [(32, .int .i64 (gq : Int))]) (fun gq => gq ≤ s.vs.length ∧ ∀ v ∈ s.vs.take gq, okN v) (fun gq => s.vs.length - gq) (0) (S3 I I I) (S1 I) (by (try dsimp only); exact ⟨Af _, by simp⟩) ?_
  rintro j hinv2; (try dsimp only at hinv2 ⊢)
  obtain ⟨hj, hov⟩ := hinv2
  refine ne (fun hc33 => ?_) (fun hc33 => ?_)
  ·have hjl : j < s.vs.length := by omega
   refine FO ?_; refine FG ?_; refine Fu ?_; refine GK ?_; intro b6; refine FF ?_; refine Nt (Cs (Hc ?_)); refine Kc I (fun w hS => ay (a := s.vs.getD j default)) (Gs (fun hc39 => ?_) (fun hc39 => ?_))
   ·refine Cs (le ?_); refine FE ?_; exact R1 I I (by rw [Aa (fun h => absurd (h.2.1 _ (aj _ _ hjl)) (by simpa using hc39))]; rfl)
   ·refine Ck (Xd (Xa (Cg (Kq I (Rz I I I (by omega)) (Km I (Nn (Ly (j + 1) (by (try dsimp only); omega) (S3 I I I) (by refine (Sc ?_ (S0 _)) <;> (rfl)) ?_ (by (exact aq))))))))); (try dsimp only); exact ⟨hjl, ax hjl hov (by simpa using hc39)⟩
  ·refine Fq ?_; obtain rfl : j = s.vs.length := by omega
   rw [Ai] at hov; refine Xa (Cq (Cs (Gz ?_))); refine Yo I u41 (Km I (Nt (Cb (Lp (σ := Nat) [(1, _), (42, _), (43, _)] (fun gq => [(44, .int .i64 (gq : Int))]) (fun gq => gq ≤ s.es.length ∧ ∀ q ∈ s.es.take gq, okQ s.gs.length s.vs.length q.1) (fun gq => s.es.length - gq) (0) (S3 I I I) (S1 I) (by (try dsimp only); exact ⟨Af _, by simp⟩) ?_)))); rintro k hinv3; (try dsimp only at hinv3 ⊢); obtain ⟨hk, hoq⟩ := hinv3; refine ne (fun hc45 => ?_) (fun hc45 => ?_)
   ·have hkl : k < s.es.length := by omega
    have hkm := aj s.es k hkl; have hlt1 := hlt _ hkm; refine FO ?_; refine FA ?_; refine FH ?_; refine FT ?_; intro b8; refine FF ?_; refine Nt (Cq (WC.joinP (σ := Unit) [(1, _), (8, _), (42, _), (43, _), (44, _)] (fun gq => [(64, .bool (decide (¬ ((0 ≤ (s.es.getD k default).1.1 ∧ (s.es.getD k default).1.1 < (s.gs.length : Int)) ∧ okN (s.es.getD k default).1.2.1))))]) (fun gq => True) (S5 I I I I I) ?_ ?_))
    ·skip
     refine Cg (Hn ?_); refine Yl I (Km I (Nc 51 I (fun hg51 => ?_) (fun hg51 => ?_)))
     ·refine T4 I (T2 I (Yp I (Km I (T4 I (Yp I (Nn (WX.joinP (()) (S5 I I I I I) (by refine (Sc ?_ (S0 _)) <;> ((exact congrArg (fun b => some (Value.bool b)) (by symm; apply Az; omega)))) ?_ (fun _ h => h)))))))); (try dsimp only); done
     ·refine Hn ?_; refine Gi ?_; refine Yo I u39 (Yh I (Yq I (Km I (Nc 59 I (fun hg59 => ?_) (fun hg59 => ?_)))))
      ·refine T4 I (Yp I (Nn (WX.joinP (()) (S5 I I I I I) (by refine (Sc ?_ (S0 _)) <;> ((exact congrArg (fun b => some (Value.bool b)) (by symm; apply Az; omega)))) ?_ (fun _ h => h)))); (try dsimp only); done
      ·refine Kf 1 I u84 I I I .tc u22 ?_; refine Kc I (fun w hS => ay (a := (s.es.getD k default).1.2.1)) (Yt I (Yq I (Nn (WX.joinP (()) (S5 I I I I I) (by refine (Sc ?_ (S0 _)) <;> ((refine congrArg (fun b => some (Value.bool b)) ?_; simp [*, -List.getD_eq_getElem?_getD]; done))) ?_ (fun _ h => h))))); (try dsimp only); done
    ·rintro _ hmeet; (try dsimp only at hmeet ⊢); refine Ci I (fun hc64 => ?_) (fun hc64 => ?_)
     ·refine Cs (le ?_); refine Xb (FE ?_); exact R1 I I (by rw [Aa (fun h => absurd (h.2.2 _ (At hkm)).1 hc64)]; rfl)
     ·refine Ck (Xa (Cs (Kq I (Fa (q := 2) I I u84 I I) (GT ?_)))); refine Kq I (Ld I I .tc u82) ?_; refine Yo I u82 (Km I (Nt (Cb (Lp (σ := Nat) [(1, _), (42, _), (43, _), (44, _), (66, _), (67, _)] (fun gq => [(68, .int .i64 (gq : Int))]) (fun gq => gq ≤ (s.es.getD k default).1.2.2.length ∧ ∀ t ∈ (s.es.getD k default).1.2.2.take gq, okT s.vs.length t) (fun gq => (s.es.getD k default).1.2.2.length - gq) (0) (S6 I I I I I I) (S1 I) (by (try dsimp only); exact ⟨Af _, by simp⟩) ?_)))); rintro m hinv4; (try dsimp only at hinv4 ⊢); obtain ⟨hm, hot⟩ := hinv4; refine ne (fun hc69 => ?_) (fun hc69 => ?_)
      ·have hml : m < (s.es.getD k default).1.2.2.length := by omega
       refine FO ?_; refine Ga ?_; refine Gf ?_; refine GQ ?_; intro b10; refine FF ?_; refine Nt (WC.joinP (σ := Unit) [(1, _), (42, _), (43, _), (44, _), (66, _), (67, _), (68, _)] (fun gq => [(94, .bool (decide (¬ ((0 ≤ ((s.es.getD k default).1.2.2.getD m default).2.1 ∧ ((s.es.getD k default).1.2.2.getD m default).2.1 < (s.vs.length : Int)) ∧ okN ((s.es.getD k default).1.2.2.getD m default).1 ∧ okZ ((s.es.getD k default).1.2.2.getD m default).2.2))))]) (fun gq => True) (S7 I I I I I I I) ?_ ?_)
       ·skip
        refine Cg (Kf 1 I dG I I I .tc u3 ?_); refine Yl I (Km I (Nc 75 I (fun hg75 => ?_) (fun hg75 => ?_)))
        ·refine T4 I (T2 I (Yp I (Km I (T4 I (Yp I (Km I (T4 I (Yp I (Nn (WX.joinP (()) (S7 I I I I I I I) (by refine (Sc ?_ (S0 _)) <;> ((exact congrArg (fun b => some (Value.bool b)) (by symm; apply Az; omega)))) ?_ (fun _ h => h))))))))))); (try dsimp only); done
        ·refine Kf 1 I dG I I I .tc u3 ?_; refine Ge ?_; refine Yo I u40 (Yh I (Yq I (Km I (Nc 83 I (fun hg83 => ?_) (fun hg83 => ?_)))))
         ·refine T4 I (Yp I (Km I (T4 I (Yp I (Nn (WX.joinP (()) (S7 I I I I I I I) (by refine (Sc ?_ (S0 _)) <;> ((exact congrArg (fun b => some (Value.bool b)) (by symm; apply Az; omega)))) ?_ (fun _ h => h))))))); (try dsimp only); done
         ·refine Kf 0 I dG I I I .tc u22 ?_; refine Kc I (fun w hS => ay (a := ((s.es.getD k default).1.2.2.getD m default).1)) (Yt I (Yq I (Km I (Nc 89 I (fun hg89 => ?_) (fun hg89 => ?_)))))
          ·refine T4 I (Yp I (Nn (WX.joinP (()) (S7 I I I I I I I) (by refine (Sc ?_ (S0 _)) <;> ((refine congrArg (fun b => some (Value.bool b)) ?_; simp [*, -List.getD_eq_getElem?_getD]; done))) ?_ (fun _ h => h)))); (try dsimp only); done
          ·refine Kq I (Fa (q := 2) I I dG I I) (Kq I (ldp I I .tc u68 I (by kernel_rfl : _ = some 2) (by rfl) (by rfl)) ?_); refine Kc I (fun w hS => bR (x := ((s.es.getD k default).1.2.2.getD m default).2.2)) (Yt I (Yq I (Nn (WX.joinP (()) (S7 I I I I I I I) (by refine (Sc ?_ (S0 _)) <;> ((refine congrArg (fun b => some (Value.bool b)) ?_; simp [*, -List.getD_eq_getElem?_getD]; done))) ?_ (fun _ h => h))))); (try dsimp only); done
       ·rintro _ hmeet; (try dsimp only at hmeet ⊢); refine Ci I (fun hc94 => ?_) (fun hc94 => ?_)
        ·refine Cs (le ?_); refine Xf (Xb (Xb (Xf (FE ?_)))); exact R1 I I (by rw [Aa (fun h => absurd ((h.2.2 _ (At hkm)).2 _ (aj _ _ hml)) hc94)]; rfl)
        ·refine Ck (Xd (Xa (Cg (Kq I (Rz I I I (by omega)) (Km I (Nn (Ly (m + 1) (by (try dsimp only); omega) (S6 I I I I I I) (by refine (Sc ?_ (S0 _)) <;> (rfl)) ?_ (by (exact aq))))))))); (try dsimp only); exact ⟨hml, ax hml hot (Ah.1 hc94)⟩
      ·refine Fq ?_; obtain rfl : m = (s.es.getD k default).1.2.2.length := by omega
       rw [Ai] at hot; refine Xd (Xa (Cg (Kq I (Rz I I I (by omega)) (Km I (Nn (Ly (k + 1) (by (try dsimp only); omega) (S3 I I I) (by refine (Sc ?_ (S0 _)) <;> (rfl)) ?_ (by (exact aq)))))))); (try dsimp only); exact ⟨hkl, ax hkl hoq ⟨Ah.1 hc64, hot⟩⟩
   ·refine Fq ?_; obtain rfl : k = s.es.length := by omega
    rw [Ai] at hoq; refine Xa (Cs (le ?_)); exact R1 I I (by rw [Ae ⟨hok, hov, cN.2 hoq⟩]; rfl)
theorem CY {q : QA} {w : World} :
  Cw 245 #[.agg #[.int .i64 q.1.1, .string (S q.1.2.1), .slice q.2.1 q.1.2.2.length q.2.2]] w (.bool (decide (q.1.2.2.length > 64))) := by
 refine En [] [(0, .agg #[.int .i64 q.1.1, .string (S q.1.2.1), .slice q.2.1 q.1.2.2.length q.2.2])] Tryz.func245 I Tryz.ntmps245 I (Ac I (An _)) Fn (Eq ?_)
 intro b1
 refine Ka I (Nt (Cs (Hw ?_)))
 refine Yo I u82 (Yg I (le ?_))
 exact R1 I I (by simp [tup]; omega)
theorem wJ {s : SA} {w : World} {ok : Nat → Prop} (hF1 : (Fact.sl s.ga (gps s.gs)).holds ok w) (hF2 : (Fact.sl s.va (vrs s.vs)).holds ok w) (hF3 : (Fact.sl s.ea (qas s.es)).holds ok w) (hs : saL s) :
  Cw 191 #[saV s] w (.int .i64 (if dD s.core then 0 else 6)) := by
 obtain ⟨hlg, hlv, hle, hlt, hlm⟩ := hs
 refine En [Fact.sl s.ga (gps s.gs), Fact.sl s.va (vrs s.vs), Fact.sl s.ea (qas s.es)] [(0, saV s)] Tryz.func191 I Tryz.ntmps191 I (Ac I (An _)) (Fc (af hF1) (Fc (af hF2) (Fc (af hF3) Fn))) (Eq ?_)
 intro b1
 refine Ka I (Nt (Cq (WC.joinP (σ := Unit) [(1, _)] (fun gq => [(18, .bool (decide (¬ (s.gs.length ≤ 8 ∧ s.vs.length ≤ 64 ∧ s.es.length ≤ 64))))]) (fun gq => True) (S1 I) ?_ ?_)))
 ·skip
  refine Cg (Gi ?_)
  refine Yo I u39 (Yg I (Km I (Nc 7 I (fun hg7 => ?_) (fun hg7 => ?_))))
  ·refine T4 I (Yp I (Km I (T4 I (Yp I (Nn (WX.joinP (()) (S1 I) (by refine (Sc ?_ (S0 _)) <;> ((exact congrArg (fun b => some (Value.bool b)) (by symm; apply Az; omega)))) ?_ (fun _ h => h))))))); (try dsimp only); done
  ·refine Ge ?_; refine Yo I u40 (Yg I (Yq I (Km I (Nc 13 I (fun hg13 => ?_) (fun hg13 => ?_)))))
   ·refine T4 I (Yp I (Nn (WX.joinP (()) (S1 I) (by refine (Sc ?_ (S0 _)) <;> ((exact congrArg (fun b => some (Value.bool b)) (by symm; apply Az; omega)))) ?_ (fun _ h => h)))); (try dsimp only); done
   ·refine Kf 2 I u43 I I I .tc u41 ?_; refine Yo I u41 (Yg I (Yq I (Nn (WX.joinP (()) (S1 I) (by refine (Sc ?_ (S0 _)) <;> ((refine ao rfl ?_; (try dsimp only); (exact Ak.2 (by omega))))) ?_ (fun _ h => h))))); (try dsimp only); done
 ·rintro _ hmeet; (try dsimp only at hmeet ⊢)
  refine Ci I (fun hc18 => ?_) (fun hc18 => ?_)
  ·have hr : ¬ dD s.core := fun h => hc18 (by simpa using h.1)
   refine Cs (le ?_); refine Xb ?_; exact R1 I I (by rw [Aa hr]; rfl)
  ·refine Ck (Xa (Cq (Cs (Gz ?_)))); refine Kc I (fun w hS => EM (l := s.es) (fk := 245) (cs := #[]) (p := fun q => decide (q.1.2.2.length > 64)) (by (exact hS.sl)) (by exact hle) (by kernel_rfl) (by exact fun x hx w' hb => by rw [sG]; exact CY)) (Nt (Ci I (fun hc21 => ?_) (fun hc21 => ?_)))
   ·have hr : ¬ dD s.core := fun h => by
     obtain ⟨q, hq, hq2⟩ := List.any_eq_true.1 hc21; have := h.2 _ (At hq); simp at hq2; omega
    refine Cs (le ?_); refine Xb ?_; exact R1 I I (by rw [Aa hr]; rfl)
   ·have hr : dD s.core := ⟨by simpa using hc18, cN.2 fun q hq => by
     have := List.any_eq_false.1 hc21 q hq; simpa using this⟩
    refine Ck (Xa (Cs (le ?_))); exact R1 I I (by rw [Ae hr]; rfl)
theorem rD {α : Type} (l : List α) (p : α → Prop) [DecidablePred p] : (l.any fun x => decide (¬ p x)) = decide (¬ ∀ x ∈ l, p x) := by rw [B7]; simp
theorem lM {α : Type} (l : List α) (p : α → Prop) [DecidablePred p] : (l.any fun x => decide (p x)) = decide (¬ ∀ x ∈ l, ¬ p x) := by rw [B7]; simp
instance hasM_appL {a b : List Fact} : oq (a ++ b) a := ⟨fun _ h => D0 _ h⟩
instance hasM_appR {a b c : List Fact} [h : oq b c] : oq (a ++ b) c := ⟨fun _ hh => List.mem_append_right _ (h.h _ hh)⟩
theorem Ez {t : Tm} {g : Gp} {p : Nat} {w : World} {ok : Nat → Prop} (hF1 : (Fact.sl (some ⟨p, 0, none⟩) (gpC g)).holds ok w) (hg : aT g = 0) (hm8 : g.1.length ≤ 8) :
  Cw 247 #[.agg #[.string (S t.1), .int .i64 t.2.1, .bool t.2.2.1, .string (S t.2.2.2)], .pointer (some ⟨p, 0, none⟩)] w (.bool (decide (¬ elG g t.1))) := by
 refine En [Fact.sl (some ⟨p, 0, none⟩) (gpC g)] [(0, .agg #[.string (S t.1), .int .i64 t.2.1, .bool t.2.2.1, .string (S t.2.2.2)]), (1, .pointer (some ⟨p, 0, none⟩))] Tryz.func247 I Tryz.ntmps247 I (Ac I (Ac I (An _))) (Fc (af hF1) Fn) (Eq ?_)
 intro b2
 refine Ka I (Nt (Cs (Kq I (pT (m := 0) I I .tc u26 I (by kernel_rfl : _ = some 2) I I I (by decide)) ?_)))
 refine Kf 0 I dG I I I .tc u22 ?_
 refine Kc I (fun w hS => gI (g := g) (x := t.1) (by assumption)) (Ns 7 I (v' := .bool (decide (elG g t.1))) (congrArg Value.bool (by simp [hg])) ?_)
 refine Yt I (le ?_)
 exact IE
theorem yl {s : SA} {w : World} {ok : Nat → Prop} (hF1 : (Fact.sl s.ga (gps s.gs)).holds ok w) (hF2 : (Fact.sl s.ea (qas s.es)).holds ok w) (hM : ∀ f ∈ (s.es.map qaF), f.holds ok w) (hs : saL s) (hfo : bc s.core) :
  Cw 192 #[saV s] w (.int .i64 (if elS s.core then 0 else 13)) := by
 obtain ⟨hlg, hlv, hle, hlt, hlm⟩ := hs
 refine En (Fact.sl s.ga (gps s.gs) :: Fact.sl s.ea (qas s.es) :: (s.es.map qaF)) [(0, saV s)] Tryz.func192 I Tryz.ntmps192 I (Ac I (An _)) (Fc (af hF1) (Fc (af hF2) (aE hM))) (Eq ?_)
 intro b1
 refine GI ?_; refine Gi ?_
 refine Yo I u39 (Km I (Nt (Cb (Lp (σ := Nat) [(1, _), (9, _), (10, _)] (fun gq => [(11, .int .i64 (gq : Int))]) (fun gq => gq ≤ s.gs.length ∧ ∀ g ∈ s.gs.take gq, aT g = 0) (fun gq => s.gs.length - gq) (0) (S3 I I I) (S1 I) (by (try dsimp only); exact ⟨Af _, by simp⟩) ?_))))
 rintro i hinv1; (try dsimp only at hinv1 ⊢)
 obtain ⟨hi, hok⟩ := hinv1
 refine ne (fun hc12 => ?_) (fun hc12 => ?_)
 ·have hil : i < s.gs.length := by omega
  refine FO ?_; refine Fv ?_
  refine FK ?_
  refine Gb ?_
  intro b4
  refine Nu I I (Sa I I I .tc) (Nt (Cs (Kq I (lda I I .tc u26 I ?_) ?_)))
  ·kernel_rfl
  refine Kc I (fun w hS => iN (g := s.gs.getD i default)) (Yj I (Nt (Ci I (fun hc17 => ?_) (fun hc17 => ?_))))
  ·refine Cs (le ?_); refine FE ?_; exact R1 I I (by rw [Aa (fun h => absurd (h.1 _ (aj _ _ hil)) (by simpa using hc17))]; rfl)
  ·refine Ck (Xd (Xa (Cg (Kq I (Rz I I I (by omega)) (Km I (Nn (Ly (i + 1) (by (try dsimp only); omega) (S3 I I I) (by refine (Sc ?_ (S0 _)) <;> (rfl)) ?_ (by (exact aq))))))))); (try dsimp only); exact ⟨hil, ax hil hok (by simpa using hc17)⟩
 ·refine Fq ?_
  obtain rfl : i = s.gs.length := by omega
  rw [Ai] at hok
  refine Xa (Cq (Cs (Gz ?_)))
  refine Yo I u41 (Km I (Nt (Cb (Lp (σ := Nat) [(1, _), (20, _), (21, _)] (fun gq => [(22, .int .i64 (gq : Int))]) (fun gq => gq ≤ s.es.length ∧ ∀ q ∈ s.es.take gq, elQ s.gs q.1) (fun gq => s.es.length - gq) (0) (S3 I I I) (S1 I) (by (try dsimp only); exact ⟨Af _, by simp⟩) ?_))))
  rintro k hinv2; (try dsimp only at hinv2 ⊢)
  obtain ⟨hk, hoq⟩ := hinv2
  refine ne (fun hc23 => ?_) (fun hc23 => ?_)
  ·have hkl : k < s.es.length := by omega
   have hkm := aj s.es k hkl; have hlt1 := hlt _ hkm; have hfq := (hfo.2.2 _ (At hkm)).1.1; have hgl : (s.es.getD k default).1.1.toNat < s.gs.length := by have := hfq.1; have := hfq.2; simp only [SA.core] at this; omega
   have hg0 := hok _ (aj _ _ hgl); have hg8 := hlm _ (aj _ _ hgl); refine FO ?_; refine FA ?_; refine FH ?_; refine FT ?_; intro b6; refine FF ?_; refine Nt (Cs (Gi ?_)); refine Hn ?_; refine G2 ?_; refine FK ?_; refine Gb ?_; intro b7; refine FF ?_; refine Nt (WC.joinP (σ := Unit) [(1, _), (20, _), (21, _), (22, _)] (fun gq => [(42, .bool (decide (¬ (elG (s.gs.getD (s.es.getD k default).1.1.toNat default) (s.es.getD k default).1.2.1 ∧ ∀ t ∈ (s.es.getD k default).1.2.2, elG (s.gs.getD (s.es.getD k default).1.1.toNat default) t.1))))]) (fun gq => True) (S4 I I I I) ?_ ?_)
   ·skip
    refine Cg (Kq I (lda I I .tc u26 I ?_) ?_)
    ·kernel_rfl
    refine Kf 1 I u84 I I I .tc u22 ?_; refine Kc I (fun w hS => gI (g := s.gs.getD (s.es.getD k default).1.1.toNat default) (x := (s.es.getD k default).1.2.1) (by exact hg8)) (Ns 35 I (v' := .bool (decide (elG (s.gs.getD (s.es.getD k default).1.1.toNat default) (s.es.getD k default).1.2.1))) (congrArg Value.bool (by exact Ak.2 ⟨fun h => h.2, fun h => ⟨hg0, h⟩⟩)) ?_); refine Yt I (Km I (Nc 37 I (fun hg37 => ?_) (fun hg37 => ?_)))
    ·refine T4 I (Yp I (Nn (WX.joinP (()) (S4 I I I I) (by refine (Sc ?_ (S0 _)) <;> ((refine congrArg (fun b => some (Value.bool b)) ?_; simp [*, -List.getD_eq_getElem?_getD]; done))) ?_ (fun _ h => h)))); (try dsimp only); done
    ·refine Kf 2 I u84 I I I .tc u82 ?_; refine Kq I (bM I I I) (Kc I (fun w hS => y4 (l := (s.es.getD k default).1.2.2) (fk := 247) (p := fun t => decide (¬ elG (s.gs.getD (s.es.getD k default).1.1.toNat default) t.1)) (hS.more (more := s.es.map qaF) _ (At hkm)) (by exact hlt1) (by kernel_rfl) (by exact fun x hx w' hb => by rw [BM]; exact Ez (gT hS.os hb) hg0 hg8)) (Ns 41 I (v' := .bool (decide (¬ ∀ t ∈ (s.es.getD k default).1.2.2, elG (s.gs.getD (s.es.getD k default).1.1.toNat default) t.1))) (congrArg Value.bool (by exact rD _ _)) ?_)); refine Yq I (Nn (WX.joinP (()) (S4 I I I I) (by refine (Sc ?_ (S0 _)) <;> ((refine congrArg (fun b => some (Value.bool b)) ?_; simp [*, -List.getD_eq_getElem?_getD]; done))) ?_ (fun _ h => h))); (try dsimp only); done
   ·rintro _ hmeet; (try dsimp only at hmeet ⊢); refine Ci I (fun hc42 => ?_) (fun hc42 => ?_)
    ·refine Cs (le ?_); refine FE ?_; exact R1 I I (by rw [Aa (fun h => absurd (h.2 _ (At hkm)) hc42)]; rfl)
    ·refine Ck (Xd (Xa (Cg (Kq I (Rz I I I (by omega)) (Km I (Nn (Ly (k + 1) (by (try dsimp only); omega) (S3 I I I) (by refine (Sc ?_ (S0 _)) <;> (rfl)) ?_ (by (exact aq))))))))); (try dsimp only); exact ⟨hkl, ax hkl hoq (Ah.1 hc42)⟩
  ·refine Fq ?_; obtain rfl : k = s.es.length := by omega
   rw [Ai] at hoq; refine Xa (Cs (le ?_)); exact R1 I I (by rw [Ae ⟨hok, cN.2 hoq⟩]; rfl)
theorem DQ {v : Bs} {w : World} :
  Cw 248 #[.agg #[.string (S v)]] w (.bool (decide (v = []))) := by
 refine En [] [(0, .agg #[.string (S v)])] Tryz.func248 I Tryz.ntmps248 I (Ac I (An _)) Fn (Eq ?_)
 intro b1
 refine Ka I (Nt (Cs (Hc ?_)))
 refine Ys I (le ?_)
 exact Iq
theorem DS {g : Gp} {n : Bs} {p : Nat} {w : World} {ok : Nat → Prop} (hF1 : (Fact.sl (some ⟨p, 0, none⟩) [.string (S n)]).holds ok w) :
  Cw 249 #[.agg #[.string (S g.1), .string (S g.2)], .pointer (some ⟨p, 0, none⟩)] w (.bool (decide (g.2 ≠ [] ∧ g.2 ≠ n))) := by
 refine En [Fact.sl (some ⟨p, 0, none⟩) [.string (S n)]] [(0, .agg #[.string (S g.1), .string (S g.2)]), (1, .pointer (some ⟨p, 0, none⟩))] Tryz.func249 I Tryz.ntmps249 I (Ac I (Ac I (An _))) (Fc (af hF1) Fn) (Eq ?_)
 intro b2
 refine Ka I (Nt (Cs (Gh ?_)))
 refine Yr I (Km I (Nc 7 I (fun hg7 => ?_) (fun hg7 => ?_)))
 ·refine Gh ?_
  refine Ht ?_
  refine Yr I (Yp I (le ?_))
  exact It
 ·refine T4 I (Yq I (le ?_))
  exact It
theorem DR {t : Tm} {s : SA} {p : Nat} {w : World} {ok : Nat → Prop} (hF1 : (Fact.sl (some ⟨p, 0, none⟩) [.slice s.ga s.gs.length s.gc, .slice s.va s.vs.length s.vc, .slice s.ea s.es.length s.ec]).holds ok w) (hF2 : (Fact.sl s.va (vrs s.vs)).holds ok w) (ht0 : 0 ≤ t.2.1) (ht1 : t.2.1 < s.vs.length) (hlv : s.vs.length ≤ 100000) :
  Cw 250 #[.agg #[.string (S t.1), .int .i64 t.2.1, .bool t.2.2.1, .string (S t.2.2.2)], .pointer (some ⟨p, 0, none⟩)] w (.bool (decide (s.vs.getD t.2.1.toNat default = []))) := by
 refine En [Fact.sl (some ⟨p, 0, none⟩) [.slice s.ga s.gs.length s.gc, .slice s.va s.vs.length s.vc, .slice s.ea s.es.length s.ec], Fact.sl s.va (vrs s.vs)] [(0, .agg #[.string (S t.1), .int .i64 t.2.1, .bool t.2.2.1, .string (S t.2.2.2)]), (1, .pointer (some ⟨p, 0, none⟩))] Tryz.func250 I Tryz.ntmps250 I (Ac I (Ac I (An _))) (Fc (af hF1) (Fc (af hF2) Fn)) (Eq ?_)
 intro b2
 refine Ka I (Nt (Cs ?_))
 (refine Kq I (cA I I u43 I (by kernel_rfl) (by (try simp only [sN, Int.reduceToNat, Nat.reduceAdd, Nat.reduceMul, Nat.reduceSub]); rfl)) ?_)
 refine Kq I (ldf (m := 1) I I .tc u40 I I I) ?_
 refine Kf 1 I dG I I I .tc u3 ?_
 refine FG ?_
 (refine Kq I (faf I I bG I (by kernel_rfl) (by (try simp only [sN, Int.reduceToNat, Nat.reduceAdd, Nat.reduceMul, Nat.reduceSub]); rfl)) ?_)
 refine Kq I (cE (l := s.vs) (f := vrC) (sz := 1) t.2.1.toNat 0 I I u22 I (fun _ => rfl) (As _).symm (by omega) (by decide) I) ?_
 refine Ys I (le ?_)
 exact Iq
theorem xS {s : SA} {w : World} {ok : Nat → Prop} (hF1 : (Fact.sl s.ga (gps s.gs)).holds ok w) (hF2 : (Fact.sl s.va (vrs s.vs)).holds ok w) (hF3 : (Fact.sl s.ea (qas s.es)).holds ok w) (hM : ∀ f ∈ (s.es.map qaF), f.holds ok w) (hs : saL s) (hfo : bc s.core) :
  Cw 193 #[saV s] w (.int .i64 (if kdS s.core then 0 else 10)) := by
 have hs' := hs
 obtain ⟨hlg, hlv, hle, hlt, hlm⟩ := hs
 refine En (Fact.sl s.ga (gps s.gs) :: Fact.sl s.va (vrs s.vs) :: Fact.sl s.ea (qas s.es) :: (s.es.map qaF)) [(0, saV s)] Tryz.func193 I Tryz.ntmps193 I (Ac I (An _)) (Fc (af hF1) (Fc (af hF2) (Fc (af hF3) (aE hM)))) (Eq ?_)
 intro b1
 refine GI ?_; refine Ge ?_
 refine Kc I (fun w hS => EL (l := s.vs) (fk := 248) (cs := #[]) (p := fun v => decide (v = [])) (by (exact hS.sl)) (by exact hlv) (by kernel_rfl) (by exact fun x hx w' hb => by rw [sG]; exact DQ)) (Ns 8 I (v' := .bool (decide (¬ ∀ v ∈ s.vs, v ≠ []))) (congrArg Value.bool (by exact lM _ _)) ?_)
 refine Gs (fun hc9 => ?_) (fun hc9 => ?_)
 ·have hr : kdS s.core := Or.inl (by (exact Ah.1 hc9))
  refine Cs (le ?_); refine Xb ?_
  exact R1 I I (by rw [Ae hr]; rfl)
 ·have hnv : ¬ ∀ v ∈ s.vs, v ≠ [] := hc9
  refine Ck (Xa (Cs (Kq I (lda I I .tc u43 I ?_) ?_)))
  ·kernel_rfl
  refine Kc I (fun w hS => oS (s := s) (by (exact hS.sl)) (by exact hs')) (GN ?_)
  intro b3
  refine Ng I I (st I I I .tc (by kernel_rfl) I ?_ (by (simp only [Bf, Bg]; rfl))) ?_
  ·decide
  intro _
  refine Nt (Cq (WC.joinP (σ := Unit) [(1, _)] (fun gq => [(19, .bool (decide (¬ (ak s.gs ≠ [] ∧ ∀ g ∈ s.gs, ¬ (g.2 ≠ [] ∧ g.2 ≠ ak s.gs)))))]) (fun gq => True) (S1 I) ?_ ?_))
  ·skip
   refine Cg (Gm ?_); refine Ys I (Km I (Nc 14 I (fun hg14 => ?_) (fun hg14 => ?_)))
   ·refine T4 I (Yp I (Nn (WX.joinP (()) (S1 I) (by refine (Sc ?_ (S0 _)) <;> ((refine ao rfl ?_; (try dsimp only); (simp [*]; done)))) ?_ (fun _ h => h)))); (try dsimp only); done
   ·refine Kf 0 I u43 I I I .tc u39 ?_; refine Kq I (bM I I I) (Kc I (fun w hS => EN (l := s.gs) (fk := 249) (p := fun g => decide (g.2 ≠ [] ∧ g.2 ≠ ak s.gs)) (by (exact hS.sl)) (by exact hlg) (by kernel_rfl) (by exact fun x hx w' hb => by rw [BM]; exact DS (gT hS.os hb))) (Ns 18 I (v' := .bool (decide (¬ ∀ g ∈ s.gs, ¬ (g.2 ≠ [] ∧ g.2 ≠ ak s.gs)))) (congrArg Value.bool (by exact lM _ _)) ?_)); refine Yq I (Nn (WX.joinP (()) (S1 I) (by refine (Sc ?_ (S0 _)) <;> ((refine ao rfl ?_; (try dsimp only); (simp [*]; done)))) ?_ (fun _ h => h))); (try dsimp only); done
  ·rintro _ hmeet; (try dsimp only at hmeet ⊢); refine Ci I (fun hc19 => ?_) (fun hc19 => ?_)
   ·refine Cs (le ?_); refine Xb ?_; exact R1 I I (by rw [Aa (fun h => h.elim hnv fun h => hc19 h.1)]; rfl)
   ·refine Ck (Xa (Cq (Cs (Gz ?_)))); refine Yo I u41 (Km I (Nt (Cb (Lp (σ := Nat) [(1, _), (21, _), (22, _)] (fun gq => [(23, .int .i64 (gq : Int))]) (fun gq => gq ≤ s.es.length ∧ ∀ q ∈ s.es.take gq, kdQ s.gs s.vs q.1) (fun gq => s.es.length - gq) (0) (S3 I I I) (S1 I) (by (try dsimp only); exact ⟨Af _, by simp⟩) ?_)))); rintro k hinv1; (try dsimp only at hinv1 ⊢); obtain ⟨hk, hoq⟩ := hinv1; refine ne (fun hc24 => ?_) (fun hc24 => ?_)
    ·have hkl : k < s.es.length := by omega
     have hkm := aj s.es k hkl; have hlt1 := hlt _ hkm; have hfq := hfo.2.2 _ (At hkm); have hgl : (s.es.getD k default).1.1.toNat < s.gs.length := by have := hfq.1.1.1; have := hfq.1.1.2; simp only [SA.core] at this; omega
     have hq0 := hfq.1.1.1; refine FO ?_; refine FA ?_; refine FH ?_; refine FT ?_; intro b5; refine FF ?_; refine Nt (Cq (Cs (Gi ?_))); refine Hn ?_; refine Fv ?_; (refine Kq I (faf I I u26 I (by kernel_rfl) (by (try simp only [sN, Int.reduceToNat, Nat.reduceAdd, Nat.reduceMul, Nat.reduceSub]); rfl)) ?_); refine FZ ?_; refine Hr (fun hc34 => ?_) (fun hc34 => ?_)
     ·refine Cx (Xc (Xe (Xa (Cg (Kq I (Rz I I I (by omega)) (Km I (Nn ?_))))))); refine Ly (k + 1) (by (try dsimp only); omega) (S3 I I I) (by refine (Sc ?_ (S0 _)) <;> (rfl)) ?_ (by (exact aq)); (try dsimp only); exact ⟨hkl, ax hkl hoq (by (exact Or.inl (by simpa using hc34)))⟩
     ·refine Ck (Xa (Cs (Hw ?_))); refine Kq I (bM I I I) (Kc I (fun w hS => y4 (l := (s.es.getD k default).1.2.2) (fk := 250) (p := fun t => decide (s.vs.getD t.2.1.toNat default = [])) (hS.more (more := s.es.map qaF) _ (At hkm)) (by exact hlt1) (by kernel_rfl) (by exact fun x hx w' hb => by rw [BM]; exact DR (gT hS.os hb) (gT hS.sl hb) (hfq.2 x hx).1.1 (hfq.2 x hx).1.2 hlv)) (Ns 38 I (v' := .bool (decide (¬ ∀ t ∈ (s.es.getD k default).1.2.2, s.vs.getD t.2.1.toNat default ≠ []))) (congrArg Value.bool (by exact lM _ _)) ?_)); refine Nt (Ci I (fun hc38 => ?_) (fun hc38 => ?_))
      ·refine Cs (le ?_); refine FE ?_; exact R1 I I (by rw [Aa (fun h => h.elim hnv fun h => (h.2 _ (At hkm)).elim (fun h => h (by simpa using hc34)) fun h => hc38 h)]; rfl)
      ·refine Ck (Xd (Xa (Cg (Kq I (Rz I I I (by omega)) (Km I (Nn (Ly (k + 1) (by (try dsimp only); omega) (S3 I I I) (by refine (Sc ?_ (S0 _)) <;> (rfl)) ?_ (by (exact aq))))))))); (try dsimp only); exact ⟨hkl, ax hkl hoq (by (exact Or.inr (by simpa using hc38)))⟩
    ·refine Fq ?_; obtain rfl : k = s.es.length := by omega
     rw [Ai] at hoq; refine Xa (Cs (le ?_)); exact R1 I I (by rw [Ae (show kdS s.core from Or.inr ⟨Ah.1 hc19, cN.2 hoq⟩)]; rfl)
def EK (i : Nat) : Nat := [105, 191, 192, 193].getD i default
def je (s : Sm) (i : Nat) : Int := [if bc s then 0 else 3, if dD s then 0 else 6, if elS s then 0 else 13, if kdS s then 0 else 10].getD i default
theorem sO {i : Nat} (h : i < 4) : ey Tryz.prog (EK i) = true := by
 rcases i with _ | _ | _ | _ | i
 ·kernel_rfl
 ·kernel_rfl
 ·kernel_rfl
 ·kernel_rfl
 ·omega
theorem mP {s : Sm} (h : je s 0 = 0) : bc s := by
 have h1 : (if bc s then (0 : Int) else 3) = 0 := h
 split at h1
 ·assumption
 ·simp at h1
theorem BZ {s : SA} {w : World} {ok : Nat → Prop} (h1 : (Fact.sl s.ga (gps s.gs)).holds ok w) (h2 : (Fact.sl s.va (vrs s.vs)).holds ok w) (h3 : (Fact.sl s.ea (qas s.es)).holds ok w) (hM : ∀ f ∈ s.es.map qaF, f.holds ok w) (hs : saL s) {i : Nat} (hi : i < 4) (h0 : ∀ j, j < i → je s.core j = 0) :
  Calls Tryz.prog (EK i) #[saV s] w fun e w' => e = .returned (.int .i64 (je s.core i)) ∧ Below w.heap.size w w' := by
 rcases i with _ | _ | _ | _ | i
 ·exact u6 h1 h2 h3 hM hs
 ·exact wJ h1 h2 h3 hs
 ·exact yl h1 h3 hM hs (mP (h0 0 (by decide)))
 ·exact xS h1 h2 h3 hM hs (mP (h0 0 (by decide)))
 ·omega
theorem yy {s : Sm} {i : Nat} (hi : i < 4) (h0 : ∀ j, j < i → je s j = 0) (h1 : je s i ≠ 0) : dQ s = je s i := by
 have a0 := h0 0; have a1 := h0 1; have a2 := h0 2
 simp only [je, Dj, D9] at a0 a1 a2
 unfold dQ
 rcases i with _ | _ | _ | _ | i
 ·simp only [je, Dj] at h1 ⊢; by_cases h : bc s <;> simp [h] at h1 ⊢
 ·have f0 : bc s := A8 fun h => by simp [h] at a0
  simp only [je, Dj, D9] at h1 ⊢; by_cases h : dD s <;> simp [h, f0] at h1 ⊢
 ·have f0 : bc s := A8 fun h => by simp [h] at a0
  have f1 : dD s := A8 fun h => by simp [h] at a1
  simp only [je, Dj, D9] at h1 ⊢; by_cases h : elS s <;> simp [h, f0, f1] at h1 ⊢
 ·have f0 : bc s := A8 fun h => by simp [h] at a0
  have f1 : dD s := A8 fun h => by simp [h] at a1
  have f2 : elS s := A8 fun h => by simp [h] at a2
  simp only [je, Dj, D9] at h1 ⊢; by_cases h : kdS s <;> simp [h, f0, f1, f2] at h1 ⊢
 ·omega
theorem yx {s : Sm} (h0 : ∀ j, j < 4 → je s j = 0) : dQ s = 0 := by
 have a0 := h0 0 (by decide); have a1 := h0 1 (by decide); have a2 := h0 2 (by decide); have a3 := h0 3 (by decide)
 simp only [je, Dj, D9] at a0 a1 a2 a3
 have f0 : bc s := A8 fun h => by simp [h] at a0
 have f1 : dD s := A8 fun h => by simp [h] at a1
 have f2 : elS s := A8 fun h => by simp [h] at a2
 have f3 : kdS s := A8 fun h => by simp [h] at a3
 simp [dQ, f0, f1, f2, f3]
theorem yb (v : Value) : (#[] : Array Value) ++ [v].toArray ++ #[] = #[v] := by simp
theorem oT {s : SA} {w : World} {ok : Nat → Prop} (hF1 : (Fact.sl s.ga (gps s.gs)).holds ok w) (hF2 : (Fact.sl s.va (vrs s.vs)).holds ok w) (hF3 : (Fact.sl s.ea (qas s.es)).holds ok w) (hM : ∀ f ∈ (s.es.map qaF), f.holds ok w) (hs : saL s) :
  Cw 107 #[saV s] w (.int .i64 (dQ s.core)) := by
 refine En (Fact.sl s.ga (gps s.gs) :: Fact.sl s.va (vrs s.vs) :: Fact.sl s.ea (qas s.es) :: (s.es.map qaF)) [(0, saV s)] Tryz.func107 I Tryz.ntmps107 I (Ac I (An _)) (Fc (af hF1) (Fc (af hF2) (Fc (af hF3) (aE hM)))) (Eq ?_)
 intro b1
 refine GI ?_; refine Kq I (Kb [[.nilFunc], [.nilFunc], [.nilFunc], [.nilFunc]] I I) (Km I (Nt (Cb (Lp (σ := Nat) [(1, _), (6, _)] (fun gq => [(7, .int .i64 (gq : Int))]) (fun gq => gq ≤ 4 ∧ ∀ j, j < gq → je s.core j = 0) (fun gq => 4 - gq) (0) (S2 I I) (S1 I) (by (try dsimp only); exact ⟨Af _, fun _ h => absurd h (B6 _)⟩) ?_))))
 rintro i hinv1; (try dsimp only at hinv1 ⊢)
 obtain ⟨hi, hok⟩ := hinv1
 refine ne (fun hc8 => ?_) (fun hc8 => ?_)
 ·have hil : i < 4 := by omega
  refine Ck (Xa (Cq (Cb (Cs (Kq I (qy I I I E0 E3 I (by kernel_rfl) ?_ (by rw [A2]; exact gj [105, 191, 192, 193] (fun k : Nat => Value.func (.func k) #[] #[]) i hil)) ?_)))))
  ·omega
  refine Ka I (Nt (Cs (Km I (Kq I (lda I I .tc u43 I ?_) ?_))))
  ·kernel_rfl
  refine Ku I (a6 I I I (sO hil) (yb _) (Kv fun w hS => BZ hS.sl hS.sl hS.sl hS.more hs hil hok)) (Ka I (Nt (Fz (fun hc14 => ?_) (fun hc14 => ?_))))
  ·have hr := yy hil hok hc14; refine Cs (Km I (le ?_)); refine FE ?_; exact Io
  ·refine Ck (Xd (Xa (Cg (Kq I (Rz I I I (by omega)) (Km I (Nn (Ly (i + 1) (by (try dsimp only); omega) (S2 I I) (by refine (Sc ?_ (S0 _)) <;> (rfl)) ?_ (fun _ h => h)))))))); (try dsimp only); exact ⟨hil, fun j hj => by rcases Bc.1 hj with h | h; exact hok j h; subst h; simpa using hc14⟩
 ·refine Fq ?_
  obtain rfl : i = 4 := by omega
  refine Xa (Cs (le ?_))
  exact R1 I I (by rw [yx hok]; rfl)
theorem DC {x : Zs} {w : World} :
  Cw 106 #[.agg #[.bool x.1, .string (S x.2)]] w (.bool (decide (¬ okZ x))) := by
 refine En [] [(0, .agg #[.bool x.1, .string (S x.2)])] Tryz.func106 I Tryz.ntmps106 I (Ac I (An _)) Fn (Eq ?_)
 intro b1
 refine Ka I (Nt (Cs (Kq I (lda I I .tc u68 I ?_) ?_)))
 ·kernel_rfl
 refine Kc I (fun w hS => bR (x := x)) (Yt I (le ?_))
 exact IE
theorem qu {s : SA} {ws : List Zs} {a : Option Addr} {c : Nat} {w : World} {ok : Nat → Prop} (hF1 : (Fact.sl s.ga (gps s.gs)).holds ok w) (hF2 : (Fact.sl s.va (vrs s.vs)).holds ok w) (hF3 : (Fact.sl s.ea (qas s.es)).holds ok w) (hF4 : (Fact.sl a (ar ws)).holds ok w) (hM : ∀ f ∈ (s.es.map qaF), f.holds ok w) (hs : saL s) (hw : ws.length ≤ 100000) :
  Cw 40 #[saV s, .slice a ws.length c] w (.int .i64 (dL s.core ws)) := by
 refine En (Fact.sl s.ga (gps s.gs) :: Fact.sl s.va (vrs s.vs) :: Fact.sl s.ea (qas s.es) :: Fact.sl a (ar ws) :: (s.es.map qaF)) [(0, saV s), (1, .slice a ws.length c)] Tryz.func40 I Tryz.ntmps40 I (Ac I (Ac I (An _))) (Fc (af hF1) (Fc (af hF2) (Fc (af hF3) (Fc (af hF4) (aE hM))))) (Eq ?_)
 intro b2
 refine Ka I (Nt (Cq (WC.joinP (σ := Unit) [(1, _), (2, _)] (fun gq => [(12, .bool (decide (¬ (bc s.core ∧ ∀ x ∈ ws, okZ x))))]) (fun gq => True) (S2 I I) ?_ ?_)))
 ·skip
  refine Cg (Kq I (lda I I .tc u43 I ?_) ?_)
  ·kernel_rfl
  refine Kc I (fun w hS => u6 (s := s) (by (exact hS.sl)) (by (exact hS.sl)) (by (exact hS.sl)) (by (exact hS.more)) (by exact hs)) (Yj I (Ns 8 I (v' := .bool (decide (¬ bc s.core))) (congrArg Value.bool (by split <;> simp_all)) ?_))
  refine Km I (Nc 9 I (fun hg9 => ?_) (fun hg9 => ?_))
  ·refine T2 I (Yp I (Nn (WX.joinP (()) (S2 I I) (by refine (Sc ?_ (S0 _)) <;> ((refine ao rfl ?_; (try dsimp only); (simp [*]; done)))) ?_ (fun _ h => h)))); (try dsimp only); done
  ·refine Km I (Kc I (fun w hS => rx (l := ws) (fk := 106) (cs := #[]) (p := fun x => decide (¬ okZ x)) (by (exact hS.sl)) (by exact hw) (by kernel_rfl) (by exact fun x hx w' hb => by rw [sG]; exact DC)) (Ns 11 I (v' := .bool (decide (¬ ∀ x ∈ ws, okZ x))) (congrArg Value.bool (by exact rD _ _)) ?_)); refine Yq I (Nn (WX.joinP (()) (S2 I I) (by refine (Sc ?_ (S0 _)) <;> ((refine ao rfl ?_; (try dsimp only); (simp [*]; done)))) ?_ (fun _ h => h))); (try dsimp only); done
 ·rintro _ hmeet; (try dsimp only at hmeet ⊢)
  refine Ci I (fun hc12 => ?_) (fun hc12 => ?_)
  ·have hr : dL s.core ws = 3 := by
    rw [dL]; by_cases h : bc s.core
    ·rw [Aa (fun h2 => h2 h), Ae (fun h2 => hc12 ⟨h, h2⟩)]
    ·rw [Ae h]
   refine Cs (le ?_); refine Xb ?_; exact Io
  ·obtain ⟨hf1, hz1⟩ := Ah.1 hc12; refine Ck (Xa (Cq (Cs (Kq I (lda I I .tc u43 I ?_) ?_))))
   ·kernel_rfl
   refine Kc I (fun w hS => oT (s := s) (by (exact hS.sl)) (by (exact hS.sl)) (by (exact hS.sl)) (by (exact hS.more)) (by exact hs)) (Ka I (Nt (Fz (fun hc16 => ?_) (fun hc16 => ?_))))
   ·refine Cs (Km I (le ?_)); refine Xb ?_; exact R1 I I (by rw [dL, Aa (fun h => h hf1), Aa (fun h => h hz1), Ae (by simpa using hc16)]; rfl)
   ·have hk0 : dQ s.core = 0 := by simpa using hc16
    refine GO ?_; refine Yo I u31 (Ge ?_); refine Yo I u40 (Yj I (Nt (Ci I (fun hc23 => ?_) (fun hc23 => ?_))))
    ·refine Cs (le ?_); refine Xb ?_; exact R1 I I (by rw [dL, Aa (fun h => h hf1), Aa (fun h => h hz1), Aa (fun h => h hk0), Ae (fun h => hc23 (by rw [h]))]; rfl)
    ·refine Ck (Xa (Cs (le ?_))); exact R1 I I (by rw [dL, Aa (fun h => h hf1), Aa (fun h => h hz1), Aa (fun h => h hk0), Aa (fun h => h (show ws.length = s.vs.length by omega))]; rfl)
section
variable {P : Program} {ok : Nat → Prop} {w0 w : World} {own : List Ent} {fs : List Fact} {γ : Type} {f : FuncId} {args : Array Value} {val : γ → Value} {p : γ → Prop} {F : γ → List Fact} {xs : List Value}
theorem bE (h : ∀ w, St ok w0 own fs w → Calls P f args w (fun e w' => ∃ g, e = .returned (val g) ∧ p g ∧ Below w.heap.size w w' ∧ ∀ x ∈ F g, x.holds (fun b => w.heap.size ≤ b) w')) :
  ∀ w, St ok w0 own fs w → Calls P f args w (fun e w' => ∃ g, e = .returned (val g) ∧ p g ∧ St ok w0 own (F g ++ fs) w') :=
 bK fun w hS => (h w hS).mono fun _ w' ⟨g, he, hp, hb, hF⟩ => ⟨g, he, hp, hb, fun x hx => x.mono (fun _ h => .inr h) (hF x hx)⟩
theorem St.ocf (h : St ok w0 own fs w) {ob : Option Nat} {sp : List Value} {T : TypeId} {C : Ent → List Ent} [hf : HasC own ob (xs ++ sp) T C] : (Fact.sl (ob.map fun b => ⟨b, 0, none⟩) xs).holds (fun b => w0.heap.size ≤ b) w := by
 obtain ⟨k, hk, _⟩ := hf.h.get
 have := h.own_ _ (A9 hk)
 cases ob with
 | none => exact .inl (by have h1 : xs ++ sp = [] := this; simp at h1; exact h1.1)
 | some b =>
  refine .inr ⟨b, 0, (xs ++ sp).toArray, T, (0, 0), rfl, this.1, this.2, fun i hi => ?_⟩
  rw [A3, Du, B2 hi]
end
section
variable {ds : List Deferred} {P : Program} {ops l : List Oper} {Q : Exit → Act → World → Prop} {n : Nat} {L : an} {ok : Nat → Prop} {w0 : World} {own : List Ent} {fs : List Fact} {x y : Fact}
theorem WL.fa1 (k : WL ds P ops Q n l L (St ok w0 own (x :: fs))) : WL ds P ops Q n l L (St ok w0 own ([x] ++ fs)) := k
theorem WL.fa2 (k : WL ds P ops Q n l L (St ok w0 own (x :: y :: fs))) : WL ds P ops Q n l L (St ok w0 own ([x, y] ++ fs)) := k
end
def bsQ (ws : List Zs) (q : Qn) : List Bs := if (exQ ws q).2 ≠ 0 then [] else q.2.2.map (·.1)
theorem pW {ws : List Zs} {q : Qn} {i : Nat} (h : i < q.2.2.length) (h0 : ∀ t ∈ q.2.2.take i, (exT ws t).2 = 0) (h1 : (exT ws (q.2.2.getD i default)).2 ≠ 0) : exQ ws q = ([], (exT ws (q.2.2.getD i default)).2) := by
 rw [exQ, n2 h h0 h1, Ae h1]
theorem vm {ws : List Zs} {q : Qn} (h0 : ∀ t ∈ q.2.2, (exT ws t).2 = 0) : exQ ws q = (q.2.2.map fun t => (exT ws t).1, 0) := by
 rw [exQ, i6 h0, Aa (by decide)]
theorem wD {l : List Tm} {i : Nat} (h : i < l.length) : am ((l.take (i + 1)).map (·.1)) = am ((l.take i).map (·.1)) ++ [.string (S (l.getD i default).1)] := by
 rw [aA h, Bu]; simp [am]
theorem wE {l : List Tm} (f : Tm → Zs) {i : Nat} (h : i < l.length) : ar ((l.take (i + 1)).map f) = ar ((l.take i).map f) ++ zc (f (l.getD i default)) := by
 rw [aA h, Bu]; simp
theorem vT {ws : List Zs} {q : Qn} {i : Nat} (h : i < q.2.2.length) (h0 : ∀ t ∈ q.2.2.take i, (exT ws t).2 = 0) (h1 : (exT ws (q.2.2.getD i default)).2 ≠ 0) : bsQ ws q = [] := by
 rw [bsQ, pW h h0 h1, Ae h1]
theorem sM {q : QA} {ws : List Zs} {p : Nat} {a : Option Addr} {c : Nat} {w : World} {ok : Nat → Prop} (hF1 : (Fact.sl (some ⟨p, 0, none⟩) [.slice a ws.length c]).holds ok w) (hF2 : (Fact.sl a (ar ws)).holds ok w) (hF3 : (Fact.sl q.2.1 (tms q.1.2.2)).holds ok w) (hw : ws.length ≤ 100000) (hl : q.1.2.2.length ≤ 100000) (ht : ∀ t ∈ q.1.2.2, 0 ≤ t.2.1 ∧ t.2.1 < ws.length) :
  Calls Tryz.prog 109 #[.agg #[.int .i64 q.1.1, .string (S q.1.2.1), .slice q.2.1 q.1.2.2.length q.2.2], .pointer (some ⟨p, 0, none⟩)] w fun e w' => ∃ gx : Rs × Rs, e = .returned (.tuple #[gx.1.val (bsQ ws q.1).length, gx.2.val (exQ ws q.1).1.length, .int .i64 (exQ ws q.1).2]) ∧ (True) ∧ Below w.heap.size w w' ∧ ∀ x ∈ ([Fact.sl gx.1.a (am (bsQ ws q.1)), Fact.sl gx.2.a (ar (exQ ws q.1).1)] : List Fact), x.holds (fun b => w.heap.size ≤ b) w' := by
 refine En [Fact.sl (some ⟨p, 0, none⟩) [.slice a ws.length c], Fact.sl a (ar ws), Fact.sl q.2.1 (tms q.1.2.2)] [(0, .agg #[.int .i64 q.1.1, .string (S q.1.2.1), .slice q.2.1 q.1.2.2.length q.2.2]), (1, .pointer (some ⟨p, 0, none⟩))] Tryz.func109 I Tryz.ntmps109 I (Ac I (Ac I (An _))) (Fc (af hF1) (Fc (af hF2) (Fc (af hF3) Fn))) (Eq ?_)
 intro b2
 refine Ka I (Ka I (Ka I (Nt (Cs (Ka I (Nt (Cs (GI ?_)))))))); refine Hw ?_
 refine Yo I u82 (Km I (Nt (Cb (Lo (σ := Nat × (Option Nat) × Nat × (List Value) × (Option Nat) × Nat × (List Value)) [(1, _), (13, _), (14, _)] (fun gq => [(6, .slice (gq.2.1.map fun b => ⟨b, 0, none⟩) gq.1 gq.2.2.1), (7, .slice (gq.2.2.2.2.1.map fun b => ⟨b, 0, none⟩) gq.1 gq.2.2.2.2.2.1), (15, .int .i64 (gq.1 : Int))]) (fun gq => (gq.1 ≤ q.1.2.2.length ∧ gq.2.2.1 = gq.1 + gq.2.2.2.1.length ∧ gq.2.2.2.2.2.1 * 2 = gq.1 * 2 + gq.2.2.2.2.2.2.length) ∧ ∀ t ∈ q.1.2.2.take gq.1, (exT ws t).2 = 0) (fun gq => q.1.2.2.length - gq.1) (fun gq => [⟨gq.2.2.2.2.1, ar ((q.1.2.2.take gq.1).map fun t => (exT ws t).1) ++ gq.2.2.2.2.2.2, 68⟩, ⟨gq.2.1, am ((q.1.2.2.take gq.1).map (·.1)) ++ gq.2.2.2.1, 22⟩, ⟨some b2, [.int .i64 q.1.1, .string (S q.1.2.1), .slice q.2.1 q.1.2.2.length q.2.2], 84⟩]) (fun gq => [Fact.sl (some ⟨p, 0, none⟩) [.slice a ws.length c], Fact.sl a (ar ws), Fact.sl q.2.1 (tms q.1.2.2)]) (0, none, 0, [], none, 0, []) (S3 I I I) (S3 I I I) (by (try dsimp only); exact ⟨⟨Af _, rfl, rfl⟩, by simp⟩) (by exact fun w h => (h.nil _).nil _) ?_))))
 rintro ⟨i, o, cp, sp, o2, cp2, sp2⟩ hinv1; (try dsimp only at hinv1 ⊢)
 obtain ⟨⟨hi, hcp, hcp2⟩, hok⟩ := hinv1
 refine ne (fun hc16 => ?_) (fun hc16 => ?_)
 ·have hil : i < q.1.2.2.length := by omega
  have htm := ht _ (aj _ _ hil)
  have htl : (q.1.2.2.getD i default).2.1.toNat < ws.length := by omega
  refine FO ?_; refine Ga ?_
  refine Gf ?_
  refine GQ ?_
  intro b9
  refine FF ?_; refine Nt (Cq (Cf [0, 1, 2, 3, 4, 5, 6, 7, 8, 9, 11, 12, 10, 13] [] [0, 0, 0, 0, 0, 0, 0, 1, 0, 0, 0, 3, 1, 0] (by kernel_rfl) (by kernel_rfl) I ?_))
  refine Kj I (Fa (q := 2) I I dG I I) ?_
  refine G6 ?_
  refine Kj I (ldf (m := 0) I I .tc u31 I I I) ?_
  refine Kj I (Fa (q := 1) I I dG I I) (HP ?_)
  refine Kj I (Ia I I I u31 (by kernel_rfl : _ = some 2) (by assumption) (by (rw [ag _ _ 2 (fun _ => rfl)]; omega))) ?_
  refine FC ?_
  refine Jv I I I I I (fun ext => Oc I I (Kv fun w hS => kt (x := (q.1.2.2.getD i default).2.2) (y := ws.getD (q.1.2.2.getD i default).2.1.toNat default))) ?_
  refine GP ?_; refine Hu ?_
  refine FU ?_
  intro b10
  refine WJ.st I I I I (ft I I I ?_ ?_ ?_) ?_
  ·kernel_rfl
  ·simp [Value.oneCell']
  ·rfl
  refine Hu ?_; refine GR ?_
  refine WJ.nil ?_
  refine Nt (Cq (Fz (fun hc31 => ?_) (fun hc31 => ?_)))
  ·refine H7 ?_; refine Ka I (le ?_); refine Xb (FE ?_); exact Rn I (.tmp I (.tmp I (.tmp I .nil))) fun w' hS => ⟨(⟨none, 0, []⟩, ⟨none, 0, []⟩), by rw [vT hil hok hc31, pW hil hok hc31]; rfl, trivial, hS.below, by rw [vT hil hok hc31, pW hil hok hc31]; exact Fc av (Fc av Fn)⟩
  ·have hx0 : (exT ws (q.1.2.2.getD i default)).2 = 0 := by simpa [exT] using hc31
   have hln : (ar ((q.1.2.2.take i).map fun t => (exT ws t).1)).length = i * 2 := by rw [ag _ _ 2 (fun _ => rfl), Ag, B1]; omega
   have hls : (am ((q.1.2.2.take i).map (·.1))).length = i := by simp [am]; omega
   refine Ck (Xa (WC.free (K := [⟨some b10, [.bool (ig (q.1.2.2.getD i default).2.2 (ws.getD (q.1.2.2.getD i default).2.1.toNat default)).1.1, .string (S (ig (q.1.2.2.getD i default).2.2 (ws.getD (q.1.2.2.getD i default).2.1.toNat default)).1.2)], 68⟩, ⟨some b9, [.string (S (q.1.2.2.getD i default).1), .int .i64 (q.1.2.2.getD i default).2.1, .bool (q.1.2.2.getD i default).2.2.1, .string (S (q.1.2.2.getD i default).2.2.2)], 136⟩]) (fs0 := []) [0, 1, 2, 3, 4, 5, 6, 7, 8, 9, 10] [] [0, 0, 0, 3, 1, 0, 0, 3, 1, 0, 0] (by kernel_rfl) (by kernel_rfl) I ?_)); refine GP ?_; refine Kj I (Fa (q := 0) I I dG I I) (Gg ?_); refine Jf I I I I I (im I I u33 (by kernel_rfl : _ = some (some (.string (S [])), 1, 16)) I (by simp only [List.map]; rfl) I I ?_ (by decide)) ?_
   ·simp [Value.cells]
   intro b36; refine Jg I I I I I (po I u33 (by kernel_rfl : _ = some (some (.string (S [])), 1, 16)) I .tc I I (fun ext w hS => by (exact hS.os)) (by rfl) (by refine ⟨?_, ?_, ?_, ?_⟩ <;> first | exact hls | (try simp) <;> omega) (by (simp [Value.oneCell']; done))) ?_; rintro ⟨o37, c37, s37⟩ hg37; (try dsimp only at hg37 ⊢); refine Kj I (Rm I I) ?_; refine Kj I (lda I I .tc u68 I ?_) ?_
   ·kernel_rfl
   refine Jf I I I I I (jE I I u31 (by kernel_rfl : _ = some (some (.agg #[.bool false, .string (S [])]), 2, 24)) (by kernel_rfl) (by decide) I I (by (simp [Value.cells]; done)) (by (exact bV _)) (by decide)) ?_; intro b40; refine Jg I I I I I (wg I u31 (by kernel_rfl : _ = some (some (.agg #[.bool false, .string (S [])]), 2, 24)) (by kernel_rfl) (by decide) .tc I I (fun ext w hS => by (exact hS.os)) (by rfl) (by refine ⟨?_, ?_, ?_, ?_⟩ <;> first | exact hln | omega) (by (simp [Value.oneCell']; done))) ?_; rintro ⟨o41, c41, s41⟩ hg41; (try dsimp only at hg41 ⊢); refine Kj I (Ra I I) (Kj I (Ra I I) ?_); refine WJ.nil ?_; refine Nn (Xd (Xa (Cg (Kq I (Rz I I I (by omega)) (Km I (Nn (Lx ((i + 1, o37, c37, s37, o41, c41, s41)) (by (try dsimp only); omega) (S3 I I I) (by refine (Sc ?_ (Sc ?_ (Sc ?_ (S0 _)))) <;> (rfl)) ?_ (by exact fun w h => by rw [wD hil, wE _ hil]; exact aq _ h)))))))); (try dsimp only); exact ⟨⟨hil, by omega, by omega⟩, ax hil hok hx0⟩
 ·refine Fq ?_
  obtain rfl : i = q.1.2.2.length := by omega
  rw [Ai] at hok
  rw [Ai]
  refine Xa (Hd ?_); refine Ka I (Ka I (le ?_))
  exact Rn I (.tmp I (.tmp I (.tmp I .nil))) fun w' hS => ⟨(⟨o, cp, sp⟩, ⟨o2, cp2, sp2⟩), by rw [bsQ, vm hok, Aa (fun h => h rfl), Ag, Ag]; rfl, trivial, hS.below, by rw [bsQ, vm hok, Aa (fun h => h rfl)]; exact Fc hS.ocf (Fc hS.ocf Fn)⟩
theorem sA {s : SA} {ws : List Zs} {a : Option Addr} {c : Nat} {w : World} {ok : Nat → Prop} (hF1 : (Fact.sl s.ga (gps s.gs)).holds ok w) (hF2 : (Fact.sl s.va (vrs s.vs)).holds ok w) (hF3 : (Fact.sl a (ar ws)).holds ok w) (hs : saL s) (hw : ws.length = s.vs.length) (hfo : bc s.core) (hz : ∀ x ∈ ws, okZ x) :
  Cw 41 #[saV s, .slice a ws.length c] w (.bool (decide (inR s.core ws))) := by
 have hs' := hs
 obtain ⟨hlg, hlv, hle, hlt, hlm⟩ := hs
 have hoo : okN (ak s.gs) := cm hfo.1
 refine En [Fact.sl s.ga (gps s.gs), Fact.sl s.va (vrs s.vs), Fact.sl a (ar ws)] [(0, saV s), (1, .slice a ws.length c)] Tryz.func41 I Tryz.ntmps41 I (Ac I (Ac I (An _))) (Fc (af hF1) (Fc (af hF2) (Fc (af hF3) Fn))) (Eq ?_)
 intro b2
 refine GI ?_; refine Ge ?_
 refine HF ?_; refine Lp (σ := Nat) [(1, _), (2, _), (9, _), (10, _)] (fun gq => [(11, .int .i64 (gq : Int))]) (fun gq => gq ≤ s.vs.length ∧ ∀ j, j < gq → inV (ak s.gs) (s.vs.getD j default) (ws.getD j default)) (fun gq => s.vs.length - gq) (0) (S4 I I I I) (S1 I) (by (try dsimp only); exact ⟨Af _, fun _ h => absurd h (B6 _)⟩) ?_
 rintro i hinv1; (try dsimp only at hinv1 ⊢)
 obtain ⟨hi, hok⟩ := hinv1
 refine ne (fun hc12 => ?_) (fun hc12 => ?_)
 ·have hil : i < s.vs.length := by omega
  have hwl : i < ws.length := by omega
  have hov : okN (s.vs.getD i default) := hfo.2.1 _ (aj _ _ hil)
  have hoz := (hz _ (aj _ _ hwl)).1
  refine FO ?_; refine Km I (FG ?_)
  refine Fu ?_
  refine GK ?_
  intro b6
  refine Ka I (FF ?_); refine Nt (Cs (Hc ?_))
  refine FM ?_; refine Hh (fun hc19 => ?_) (fun hc19 => ?_)
  ·have hv0 : s.vs.getD i default = [] := by simpa using hc19
   refine Cs (Kq I (lda I I .tc u43 I ?_) ?_)
   ·kernel_rfl
   refine Kc I (fun w hS => oS (s := s) (by (exact hS.sl)) (by exact hs')) (FN ?_); refine Km I (FI ?_); (refine Kq I (faf I I u68 I (by kernel_rfl) (by (try simp only [sN, Int.reduceToNat, Nat.reduceAdd, Nat.reduceMul, Nat.reduceSub]); rfl)) ?_); refine Kq I (cE (sz := 2) _ 0 I I u4 I (fun _ => rfl) I (by assumption) (by decide) I) ?_; refine Nt (Ci I (fun hc26 => ?_) (fun hc26 => ?_))
   ·have hn : ¬ inR s.core ws := fun h => by
     have h1 := h i hil; rw [inV, Ae hv0] at h1; rw [h1.1] at hc26; cases hc26
    refine Cs (le ?_); refine Xb (FE ?_); exact R1 I I (by rw [Aj hn]; rfl)
   ·refine GG ?_; refine FI ?_; (refine Kq I (faf I I u68 I (by kernel_rfl) (by (try simp only [sN, Int.reduceToNat, Nat.reduceAdd, Nat.reduceMul, Nat.reduceSub]); rfl)) ?_); refine FZ ?_; refine Km I (Kc I (fun w hS => cZ (a := (ws.getD i default).2)) (Hg (fun hc34 => ?_) (fun hc34 => ?_)))
    ·have hn : ¬ inR s.core ws := fun h => by
      have h1 := h i hil; rw [inV] at h1; simp only [SA.core] at h1; (rw [Ae hv0] at h1; rw [a8 hoz hoo] at hc34; have := (ek _ _).1 hc34; have h2 := h1.2; omega)
     refine Cs (le ?_); refine FE ?_; exact R1 I I (by rw [Aj hn]; rfl)
    ·have hlt : inV (ak s.gs) (s.vs.getD i default) (ws.getD i default) := by
      rw [inV]; (rw [Ae hv0]; rw [a8 hoz hoo, ] at hc34; exact ⟨by simpa using hc26, (aR _ _).1 (by omega)⟩)
     refine Ck (Xd (Xa (Cg (Kq I (Rz I I I (by omega)) (Km I (Nn (Ly (i + 1) (by (try dsimp only); omega) (S4 I I I I) (by refine (Sc ?_ (S0 _)) <;> (rfl)) ?_ (by (exact aq))))))))); (try dsimp only); exact ⟨hil, fun j hj => by rcases Bc.1 hj with h | h; exact hok j h; subst h; exact hlt⟩
  ·have hv0 : s.vs.getD i default ≠ [] := by simpa using hc19
   refine GG ?_; refine FI ?_; (refine Kq I (faf I I u68 I (by kernel_rfl) (by (try simp only [sN, Int.reduceToNat, Nat.reduceAdd, Nat.reduceMul, Nat.reduceSub]); rfl)) ?_); refine FZ ?_; refine Km I (Kc I (fun w hS => cZ (a := (ws.getD i default).2)) (Hg (fun hc34 => ?_) (fun hc34 => ?_)))
   ·have hn : ¬ inR s.core ws := fun h => by
     have h1 := h i hil; rw [inV] at h1; simp only [SA.core] at h1; (rw [Aa hv0] at h1; rw [a8 hoz hov] at hc34; have := (ek _ _).1 hc34; omega)
    refine Cs (le ?_); refine FE ?_; exact R1 I I (by rw [Aj hn]; rfl)
   ·have hlt : inV (ak s.gs) (s.vs.getD i default) (ws.getD i default) := by
     rw [inV]; (rw [Aa hv0]; rw [a8 hoz hov] at hc34; exact (aR _ _).1 (by omega))
    refine Ck (Xd (Xa (Cg (Kq I (Rz I I I (by omega)) (Km I (Nn (Ly (i + 1) (by (try dsimp only); omega) (S4 I I I I) (by refine (Sc ?_ (S0 _)) <;> (rfl)) ?_ (by (exact aq))))))))); (try dsimp only); exact ⟨hil, fun j hj => by rcases Bc.1 hj with h | h; exact hok j h; subst h; exact hlt⟩
 ·refine Fq ?_
  obtain rfl : i = s.vs.length := by omega
  refine Xa (Cs (le ?_))
  exact R1 I I (by rw [Az (show inR s.core ws from fun j hj => hok j hj)]; rfl)
theorem nU {s : SA} {ws : List Zs} {i : Nat} (h : i < s.es.length) (h0 : ∀ q ∈ s.es.take i, (imQ s.gs ws q.1).2 = 0) (h1 : (imQ s.gs ws (s.es.getD i default).1).2 ≠ 0) : imS s.core ws = ([], (imQ s.gs ws (s.es.getD i default).1).2) := by
 have e : dB (s.core.2.2.map fun q => (imQ s.core.1 ws q).2) = (imQ s.gs ws (s.es.getD i default).1).2 := by
  rw [← n2 (f := fun q : QA => (imQ s.gs ws q.1).2) h h0 h1, List.map_map]; rfl
 rw [imS, e, Ae h1]
theorem uP {s : SA} {ws : List Zs} (h0 : ∀ q ∈ s.es, (imQ s.gs ws q.1).2 = 0) : imS s.core ws = (s.es.map fun q => (imQ s.gs ws q.1).1, 0) := by
 have e : dB (s.core.2.2.map fun q => (imQ s.core.1 ws q).2) = 0 := i6 fun q hq => by
  obtain ⟨x, hx, rfl⟩ := Ch.1 hq; exact h0 x hx
 rw [imS, e, Aa (fun h => h rfl), List.map_map]; rfl
theorem x2 {gs : List Gp} {ws : List Zs} {q : Qn} (h : (exQ ws q).2 ≠ 0) : imQ gs ws q = ([], (exQ ws q).2) := by rw [imQ, Ae h]
theorem BE {gs : List Gp} {ws : List Zs} {q : Qn} (h : (exQ ws q).2 = 0) : imQ gs ws q = dW (gs.getD q.1.toNat default) (bsQ ws q) (exQ ws q).1 := by rw [imQ, bsQ, Aa (fun h2 => h2 h), Aa (fun h2 => h2 h)]
theorem qz {l : List QA} (f : QA → Bs) {i : Nat} (h : i < l.length) : am ((l.take (i + 1)).map f) = am ((l.take i).map f) ++ [.string (S (f (l.getD i default)))] := by
 rw [aA h, Bu]; simp [am]
theorem yG {ws : List Zs} {q : Qn} : (bsQ ws q).length ≤ q.2.2.length := by rw [bsQ]; split <;> simp
theorem yj {ws : List Zs} {q : Qn} : (exQ ws q).1.length ≤ q.2.2.length := by rw [exQ]; split <;> simp
theorem oX {s : SA} {ws : List Zs} {a : Option Addr} {c : Nat} {w : World} {ok : Nat → Prop} (hF1 : (Fact.sl s.ga (gps s.gs)).holds ok w) (hF2 : (Fact.sl s.ea (qas s.es)).holds ok w) (hF3 : (Fact.sl a (ar ws)).holds ok w) (hM : ∀ f ∈ (s.es.map qaF), f.holds ok w) (hs : saL s) (hw : ws.length = s.vs.length) (hfo : bc s.core) :
  Calls Tryz.prog 42 #[saV s, .slice a ws.length c] w fun e w' => ∃ gx : Rs, e = .returned (.tuple #[gx.val (imS s.core ws).1.length, .int .i64 (imS s.core ws).2]) ∧ (True) ∧ Below w.heap.size w w' ∧ ∀ x ∈ ([Fact.sl gx.a (am (imS s.core ws).1)] : List Fact), x.holds (fun b => w.heap.size ≤ b) w' := by
 obtain ⟨hlg, hlv, hle, hlt, hlm⟩ := hs
 refine En (Fact.sl s.ga (gps s.gs) :: Fact.sl s.ea (qas s.es) :: Fact.sl a (ar ws) :: (s.es.map qaF)) [(0, saV s), (1, .slice a ws.length c)] Tryz.func42 I Tryz.ntmps42 I (Ac I (Ac I (An _))) (Fc (af hF1) (Fc (af hF2) (Fc (af hF3) (aE hM)))) (Eq ?_)
 intro b2
 refine Gc ?_
 intro b3
 refine Ka I (Ka I (Nt (Cs (Kq I (bM I I I) (Ka I (Nt (Cs (GI ?_)))))))); refine Gz ?_
 refine Yo I u41 (Km I (Nt (Cb (Lo (σ := Nat × (Option Nat) × Nat × (List Value)) [(2, _), (6, _), (16, _), (17, _)] (fun gq => [(7, .slice (gq.2.1.map fun b => ⟨b, 0, none⟩) gq.1 gq.2.2.1), (18, .int .i64 (gq.1 : Int))]) (fun gq => (gq.1 ≤ s.es.length ∧ gq.2.2.1 = gq.1 + gq.2.2.2.length) ∧ ∀ q ∈ s.es.take gq.1, (imQ s.gs ws q.1).2 = 0) (fun gq => s.es.length - gq.1) (fun gq => [⟨gq.2.1, am ((s.es.take gq.1).map fun q => (imQ s.gs ws q.1).1) ++ gq.2.2.2, 22⟩, ⟨some b3, [.slice a ws.length c], 31⟩, ⟨some b2, [.slice s.ga s.gs.length s.gc, .slice s.va s.vs.length s.vc, .slice s.ea s.es.length s.ec], 43⟩]) (fun gq => (Fact.sl s.ga (gps s.gs) :: Fact.sl s.ea (qas s.es) :: Fact.sl a (ar ws) :: s.es.map qaF)) (0, none, 0, []) (S4 I I I I) (S2 I I) (by (try dsimp only); exact ⟨⟨Af _, rfl⟩, by simp⟩) (by exact fun w h => h.nil _) ?_))))
 rintro ⟨i, o, cp, sp⟩ hinv1; (try dsimp only at hinv1 ⊢)
 obtain ⟨⟨hi, hcp⟩, hok⟩ := hinv1
 refine ne (fun hc19 => ?_) (fun hc19 => ?_)
 ·have hil : i < s.es.length := by omega
  have him := aj s.es i hil
  have hlt1 := hlt _ him
  have hfq := hfo.2.2 _ (At him)
  have hgl : (s.es.getD i default).1.1.toNat < s.gs.length := by have := hfq.1.1.1; have := hfq.1.1.2; simp only [SA.core] at this; omega
  have hg8 := hlm _ (aj _ _ hgl)
  have hq0 := hfq.1.1.1
  refine FO ?_; refine FA ?_
  refine FH ?_
  refine FT ?_
  intro b9
  refine Nu I I (Sa I I I .tc) (Nt (Cs (Km I (Kq I (lda I I .tc u84 I ?_) ?_))))
  ·kernel_rfl
  refine Kh I (a6 I I I (by kernel_rfl) I (bE fun w hS => sM (q := s.es.getD i default) (ws := ws) (p := b3) (a := a) (c := c) hS.os hS.sl (hS.more (more := s.es.map qaF) _ (At him)) (by omega) (by exact hlt1) (by exact fun t ht => by have h1 := (hfq.2 t ht).1; refine ⟨h1.1, ?_⟩; rw [hw]; exact h1.2))) ?_
  rintro ⟨gb25, ge25⟩
  refine WL.pu ?_
  intro hg25; (try dsimp only at hg25 ⊢)
  refine WL.fa2 ?_
  refine GV ?_; refine Ka I (Nt (Cq (Fz (fun hc30 => ?_) (fun hc30 => ?_))))
  ·have hr : imQ s.gs ws (s.es.getD i default).1 = ([], (exQ ws (s.es.getD i default).1).2) := x2 hc30; refine H7 ?_; refine le ?_; refine Xb (FE ?_); exact Rn I (.tmp I (.tmp I .nil)) fun w' hS => ⟨⟨none, 0, []⟩, by rw [nU hil hok (by rw [hr]; exact hc30), hr]; rfl, trivial, hS.below, by rw [nU hil hok (by rw [hr]; exact hc30)]; exact Fc av Fn⟩
  ·have hr : imQ s.gs ws (s.es.getD i default).1 = dW (s.gs.getD (s.es.getD i default).1.1.toNat default) (bsQ ws (s.es.getD i default).1) (exQ ws (s.es.getD i default).1).1 := BE hc30; refine Ck (Xa (Cs (Gi ?_))); refine Hn ?_; refine Fv ?_; refine FK ?_; refine Km I (Km I (Kc I (fun w hS => ic (g := s.gs.getD (s.es.getD i default).1.1.toNat default) (l := bsQ ws (s.es.getD i default).1) (es := (exQ ws (s.es.getD i default).1).1) (by (exact hS.sl)) (by (exact hS.sl)) (by exact Bi yG hlt1) (by exact Bi yj hlt1) (by exact hg8)) (Fs ?_))); refine Cq (Fz (fun hc45 => ?_) (fun hc45 => ?_))
   ·refine H7 ?_; refine le ?_; refine Xb (FE ?_); exact Rn I (.tmp I (.tmp I .nil)) fun w' hS => ⟨⟨none, 0, []⟩, by rw [nU hil hok (by rw [hr]; exact hc45), hr]; rfl, trivial, hS.below, by rw [nU hil hok (by rw [hr]; exact hc45)]; exact Fc av Fn⟩
   ·have hx0 : (imQ s.gs ws (s.es.getD i default).1).2 = 0 := by rw [hr]; simpa using hc45
    have hls : (am ((s.es.take i).map fun q => (imQ s.gs ws q.1).1)).length = i := by simp [am]; omega
    refine Ck (Xa (Cg (Km I (Km I (Kh I (aN I I u33 (by kernel_rfl : _ = some (some (.string (S [])), 1, 16)) I (by simp only [List.map]; rfl) I I ?_ (by decide)) ?_)))))
    ·simp [Value.cells]
    intro b49; refine Kh I (ol I u33 (by kernel_rfl : _ = some (some (.string (S [])), 1, 16)) I .tc I I (fun w hS => by (exact hS.os)) (by rfl) (by refine ⟨?_, ?_, ?_, ?_⟩ <;> first | exact hls | (try simp) <;> omega) (by (simp [Value.oneCell']; done))) ?_; rintro ⟨o50, c50, s50⟩; refine WL.pu ?_; intro hg50; (try dsimp only at hg50 ⊢); refine Ka I (Nn (Xd (Xa (Cg (Kq I (Rz I I I (by omega)) (Km I (Nn (Lx ((i + 1, o50, c50, s50)) (by (try dsimp only); omega) (S4 I I I I) (by refine (Sc ?_ (Sc ?_ (S0 _))) <;> (rfl)) ?_ (by exact fun w h => by rw [qz _ hil, hr]; exact aq _ h))))))))); (try dsimp only); exact ⟨⟨hil, by omega⟩, ax hil hok hx0⟩
 ·refine Fq ?_
  obtain rfl : i = s.es.length := by omega
  rw [Ai] at hok
  rw [Ai]
  refine Xa (H7 ?_); refine le ?_
  exact Rn I (.tmp I (.tmp I .nil)) fun w' hS => ⟨⟨o, cp, sp⟩, by rw [uP hok, Ag]; rfl, trivial, hS.below, by rw [uP hok]; exact Fc hS.ocf Fn⟩
theorem kQ {s : Sm} {ws : List Zs} (h : dL s ws = 0) : bc s ∧ (∀ x ∈ ws, okZ x) ∧ dQ s = 0 ∧ ws.length = s.2.1.length := by
 unfold dL at h
 split at h
 ·simp at h
 ·rename_i h1; split at h
  ·simp at h
  ·rename_i h2; split at h
   ·rename_i h3; exact absurd h h3
   ·rename_i h3; split at h
    ·simp at h
    ·rename_i h4; exact ⟨Ah.1 h1, Ah.1 h2, Ah.1 h3, Ah.1 h4⟩
theorem qW {s : Sm} {ws : List Zs} (h : (imS s ws).2 = 0) : (imS s ws).1.length = s.2.2.length := by
 unfold imS at h ⊢; split at h
 ·rename_i h1; exact absurd h h1
 ·rename_i h1; rw [Aa h1]; simp
theorem ye {α : Type} [Inhabited α] {x y : List α} (hl : x.length = y.length) (h : ∀ i, i < x.length → x.getD i default = y.getD i default) : x = y := by
 refine List.ext_getElem hl fun i h1 h2 => ?_
 have := h i h1
 rw [List.getD_eq_getElem?_getD, List.getD_eq_getElem?_getD, Ad h1, Ad h2] at this; exact this
theorem oy (l : List QA) (i : Nat) (h : i < l.length) : ((l.map (·.1)).map (·.2.1)).getD i default = (l.getD i default).1.2.1 := by
 rw [List.getD_eq_getElem?_getD, List.getD_eq_getElem?_getD, A4, A4, Ad h]; rfl
theorem nV {s : SA} {ws : List Zs} {a : Option Addr} {c : Nat} {w : World} {ok : Nat → Prop} (hF1 : (Fact.sl s.ga (gps s.gs)).holds ok w) (hF2 : (Fact.sl s.va (vrs s.vs)).holds ok w) (hF3 : (Fact.sl s.ea (qas s.es)).holds ok w) (hF4 : (Fact.sl a (ar ws)).holds ok w) (hM : ∀ f ∈ (s.es.map qaF), f.holds ok w) (hs : saL s) (hw : ws.length ≤ 100000) :
  Cw 10 #[saV s, .slice a ws.length c] w (.tuple #[.bool (cn s.core ws).1, .int .i64 (cn s.core ws).2]) := by
 have hs' := hs
 obtain ⟨hlg, hlv, hle, hlt, hlm⟩ := hs
 refine En (Fact.sl s.ga (gps s.gs) :: Fact.sl s.va (vrs s.vs) :: Fact.sl s.ea (qas s.es) :: Fact.sl a (ar ws) :: (s.es.map qaF)) [(0, saV s), (1, .slice a ws.length c)] Tryz.func10 I Tryz.ntmps10 I (Ac I (Ac I (An _))) (Fc (af hF1) (Fc (af hF2) (Fc (af hF3) (Fc (af hF4) (aE hM))))) (Eq ?_)
 intro b2
 refine Ka I (Ka I (Nt (Cq (Cs (Kq I (lda I I .tc u43 I ?_) ?_)))))
 ·kernel_rfl
 refine Km I (Kc I (fun w hS => qu (s := s) (ws := ws) (by (exact hS.sl)) (by (exact hS.sl)) (by (exact hS.sl)) (by (exact hS.sl)) (by (exact hS.more)) (by exact hs') (by exact hw)) (Ka I (Nt (Fz (fun hc15 => ?_) (fun hc15 => ?_)))))
 ·have hr : cn s.core ws = (false, dL s.core ws) := by rw [cn, Ae hc15]
  refine H7 ?_; refine le ?_; refine Xb ?_
  exact Ix
 ·have h0 : dL s.core ws = 0 := by simpa using hc15
  obtain ⟨hfo, hz, hk, hwl⟩ := kQ h0
  refine Ck (Xa (Cq (Cs (Kq I (lda I I .tc u43 I ?_) ?_))))
  ·kernel_rfl
  refine Km I (Kc I (fun w hS => sA (s := s) (ws := ws) (by (exact hS.sl)) (by (exact hS.sl)) (by (exact hS.sl)) (by exact hs') (by exact hwl) (by exact hfo) (by exact hz)) (Gs (fun hc20 => ?_) (fun hc20 => ?_)))
  ·have hr : cn s.core ws = (false, 0) := by rw [cn, Aa (fun h => h h0), Ae (by simpa using hc20)]
   refine Cs (Ka I (le ?_)); refine Xb ?_; exact Ix
  ·have hin : inR s.core ws := by simpa using hc20
   refine Ck (Xa (Cs (Kq I (lda I I .tc u43 I ?_) ?_)))
   ·kernel_rfl
   refine Km I (Kh I (Oc I I (bE fun w hS => oX (s := s) (ws := ws) (by (exact hS.sl)) (by (exact hS.sl)) (by (exact hS.sl)) (by (exact hS.more)) (by exact hs') (by exact hwl) (by exact hfo))) ?_); rintro g24; refine WL.pu ?_; intro hg24; (try dsimp only [List.cons_append, List.nil_append] at hg24 ⊢); refine Fs ?_; refine Cq (Fz (fun hc28 => ?_) (fun hc28 => ?_))
   ·have hr : cn s.core ws = (false, (imS s.core ws).2) := by rw [cn, Aa (fun h => h h0), Aa (fun h => h hin), Ae hc28]
    refine H7 ?_; refine le ?_; refine Xb ?_; exact Ix
   ·have hi0 : (imS s.core ws).2 = 0 := by simpa using hc28
    have hlI : (imS s.core ws).1.length = s.es.length := by rw [qW hi0]; simp
    have hr : cn s.core ws = (decide ((imS s.core ws).1 = s.core.2.2.map (·.2.1)), 0) := by rw [cn, Aa (fun h => h h0), Aa (fun h => h hin), Aa (fun h => h hi0)]
    refine Ck (Xa (Cq (Cs (Gz ?_)))); refine Yo I u41 (Km I (Nt (Cb (Lp (σ := Nat) [(7, _), (31, _), (32, _)] (fun gq => [(33, .int .i64 (gq : Int))]) (fun gq => gq ≤ s.es.length ∧ ∀ j, j < gq → (imS s.core ws).1.getD j default = (s.es.getD j default).1.2.1) (fun gq => s.es.length - gq) (0) (S3 I I I) (S1 I) (by (try dsimp only); exact ⟨Af _, fun _ h => absurd h (B6 _)⟩) ?_)))); rintro i hinv1; (try dsimp only at hinv1 ⊢); obtain ⟨hi, hok⟩ := hinv1; refine ne (fun hc34 => ?_) (fun hc34 => ?_)
    ·have hil : i < s.es.length := by omega
     have hil2 : i < (imS s.core ws).1.length := by omega
     refine FO ?_; refine Km I (FA ?_); refine FH ?_; refine FT ?_; intro b10; refine Ka I (FF ?_); refine Nt (Ho ?_); refine Ft ?_; refine GD ?_; refine HQ ?_; refine Kj I (Fa (q := 1) I I u84 I I) (Gg ?_); refine Kj I (pE I I I) ?_; refine WJ.nil ?_; refine Nt (Ci I (fun hc44 => ?_) (fun hc44 => ?_))
     ·have hne : ¬ (imS s.core ws).1 = s.core.2.2.map (·.2.1) := fun h => by
       have h1 := oy s.es i hil; exact absurd ((congrArg (fun l : List Bs => l.getD i default) h).trans h1) (by simpa using hc44)
      refine Cs (Ka I (le ?_)); refine FE ?_; exact R2 I I I (by rw [hr, Aj hne]; rfl)
     ·refine Ck (Xd (Xa (Cg (Kq I (Rz I I I (by omega)) (Km I (Nn (Ly (i + 1) (by (try dsimp only); omega) (S3 I I I) (by refine (Sc ?_ (S0 _)) <;> (rfl)) ?_ (by (exact aq))))))))); (try dsimp only); exact ⟨hil, fun j hj => by rcases Bc.1 hj with h | h; exact hok j h; subst h; simpa using hc44⟩
    ·refine Fq ?_; obtain rfl : i = s.es.length := by omega
     have heq : (imS s.core ws).1 = s.core.2.2.map (·.2.1) := ye (by rw [hlI]; simp) fun j hj => by
      have h1 := oy s.es j (by omega); rw [hok j (by omega)]; exact h1.symm
     refine Xa (Cs (Ka I (le ?_))); exact R2 I I I (by rw [hr, Az heq]; rfl)
abbrev mkI (r : Gp) (v : Bs) : Nat := val r.2 * val r.1 * val v
abbrev rsI (r : Gp) (v : Bs) : Nat := mkI r v - (val r.1 - 1) * (val v - 1)
def aw (r : Gp) (q v : Bs) : Gp := if v = [] then (q, q) else (ae (mkI r v), ae (rsI r v))
theorem cz {x : Bs} (h : x.length ≤ 8) : val x < 18446744073709551616 := Aw (aG x) (Bi (Ar (by decide) h) (by decide))
theorem CG : 18446744073709551616 * 18446744073709551616 * 18446744073709551616 < Big := by decide +kernel
theorem nJ {r : Gp} {v : Bs} (h1 : r.1.length ≤ 8) (h2 : r.2.length ≤ 8) (h3 : v.length ≤ 8) : mkI r v < Big := by
 have a1 := cz h1; have a2 := cz h2; have a3 := cz h3
 exact Bb (Dg (Dg (Nat.le_of_lt a2) (Nat.le_of_lt a1)) (Nat.le_of_lt a3)) CG
theorem jD {v : Bs} {w : World} :
  Cw 147 #[.agg #[.string (S v)]] w (.int .i64 (if v = [] then 0 else 1)) := by
 refine En [] [(0, .agg #[.string (S v)])] Tryz.func147 I Tryz.ntmps147 I (Ac I (An _)) Fn (Eq ?_)
 intro b1
 refine GI ?_; refine Hc ?_
 refine Hh (fun hc5 => ?_) (fun hc5 => ?_)
 ·have hv : v = [] := by simpa using hc5
  refine Cs (le ?_); refine Xb ?_
  exact R1 I I (by rw [Ae hv]; rfl)
 ·have hv : ¬ v = [] := by simpa using hc5
  refine Ck (Xa (Cs (le ?_)))
  exact R1 I I (by rw [Aa hv]; rfl)
theorem tI {s : SA} {w : World} {ok : Nat → Prop} (hF1 : (Fact.sl s.ga (gps s.gs)).holds ok w) (hs : saL s) :
  Cw 146 #[saV s] w (.string (S (ak s.gs))) := by
 obtain ⟨hlg, hlv, hle, hlt, hlm⟩ := hs
 refine En [Fact.sl s.ga (gps s.gs)] [(0, saV s)] Tryz.func146 I Tryz.ntmps146 I (Ac I (An _)) (Fc (af hF1) Fn) (Eq ?_)
 intro b1
 refine GI ?_; refine Gi ?_
 refine Yo I u39 (Km I (Nt (Cb (Lp (σ := Nat) [(6, _), (7, _)] (fun gq => [(8, .int .i64 (gq : Int))]) (fun gq => gq ≤ s.gs.length ∧ ∀ g ∈ s.gs.take gq, g.2 = []) (fun gq => s.gs.length - gq) (0) (S2 I I) (S1 I) (by (try dsimp only); exact ⟨Af _, by simp⟩) ?_))))
 rintro i hinv1; (try dsimp only at hinv1 ⊢)
 obtain ⟨hi, hok⟩ := hinv1
 refine ne (fun hc9 => ?_) (fun hc9 => ?_)
 ·have hil : i < s.gs.length := by omega
  refine FO ?_; refine Fv ?_
  refine FK ?_
  refine Gb ?_
  intro b4
  refine FF ?_; refine Nt (Cs (Gh ?_))
  refine Hr (fun hc14 => ?_) (fun hc14 => ?_)
  ·refine Cs (Gh ?_); refine le ?_; refine FE ?_; exact R1 I I (by rw [nE hil hok (by simpa using hc14)]; rfl)
  ·refine Ck (Xd (Xa (Cg (Kq I (Rz I I I (by omega)) (Km I (Nn (Ly (i + 1) (by (try dsimp only); omega) (S2 I I) (by refine (Sc ?_ (S0 _)) <;> (rfl)) ?_ (by (exact aq))))))))); (try dsimp only); exact ⟨hil, ax hil hok (by simpa using hc14)⟩
 ·refine Fq ?_
  obtain rfl : i = s.gs.length := by omega
  rw [Ai] at hok
  refine Xa (Cs (le ?_))
  exact R1 I I (by rw [lf hok]; rfl)
abbrev stV (r : Gp) (q : Bs) : Value := .agg #[.string (S r.1), .string (S r.2), .string (S q)]
theorem AP {r : Gp} {q v : Bs} {w : World} :
  Cw 148 #[stV r q, .string (S v)] w (.tuple #[.agg #[.string (S q), .string (S q)], .int .i64 0]) := by
 refine En [] [(0, stV r q), (1, .string (S v))] Tryz.func148 I Tryz.ntmps148 I (Ac I (Ac I (An _))) Fn (Eq ?_)
 intro b2
 refine Gb ?_
 intro b4
 refine Ka I (Nt (Cs (Kf 2 I ox I I I .tc u22 ?_)))
 refine Kf 2 I ox I I I .tc u22 ?_
 refine Hl ?_
 refine FF ?_; refine le ?_
 exact Rn I (.agg I .tc jt I (by kernel_rfl) (.tmp I .nil)) fun w' hS => ⟨by rfl, hS.below⟩
theorem BD {r : Gp} {q v : Bs} {w : World} (h1 : okN r.1) (h2 : okN r.2) (h3 : okN v) (h4 : r.1.length ≤ 8) (h5 : r.2.length ≤ 8) (h6 : v.length ≤ 8) (h7 : 2 ≤ val r.1) (h8 : 2 ≤ val r.2) (h9 : v ≠ []) :
  Cw 149 #[stV r q, .string (S v)] w (.tuple #[.agg #[.string (S (ae (mkI r v))), .string (S (ae (rsI r v)))], .int .i64 0]) := by
 have hB := nJ h4 h5 h6
 have hv1 : 1 ≤ val v := by rcases Bw (val v) with q | q; exact absurd ((aM h3.2).1 q) h9; exact q
 have hB2 : val r.2 * val r.1 < Big := Bb (Nat.le_mul_of_pos_right _ hv1) hB
 have m1 : eg r.2 r.1 = (ae (val r.2 * val r.1), 0) := by rw [eg, Ae ⟨h2, h1⟩, Ae hB2]
 have m2 : eg (ae (val r.2 * val r.1)) v = (ae (mkI r v), 0) := by rw [eg, Ae ⟨az hB2, h3⟩, ah, Ae hB]
 have ho1 : okN (ae 1) := by decide +kernel
 have s1 : fT r.1 (ae 1) = (ae (val r.1 - 1), 0) := by rw [dq h1 ho1 (by rw [ah]; omega), ah]
 have s2 : fT v (ae 1) = (ae (val v - 1), 0) := by rw [dq h3 ho1 (by rw [ah]; omega), ah]
 have hcb : (val r.1 - 1) * (val v - 1) ≤ mkI r v := by
  refine Bi (Dg (Eb _ _) (Eb _ _)) ?_
  rw [mkI, A1]; exact Nat.le_mul_of_pos_left _ (by omega)
 have hc1 : val r.1 - 1 < Big := Bb (Eb _ _) (a7 h1)
 have hc2 : val v - 1 < Big := Bb (Eb _ _) (a7 h3)
 have m3 : eg (ae (val r.1 - 1)) (ae (val v - 1)) = (ae ((val r.1 - 1) * (val v - 1)), 0) := by rw [nG hc1 hc2, Ae (by omega)]
 have s3 : fT (ae (mkI r v)) (ae ((val r.1 - 1) * (val v - 1))) = (ae (rsI r v), 0) := by rw [dq (az hB) (az (by omega)) (by rw [ah, ah]; exact hcb), ah, ah]
 refine En [] [(0, stV r q), (1, .string (S v))] Tryz.func149 I Tryz.ntmps149 I (Ac I (Ac I (An _))) Fn (Eq ?_)
 intro b2
 refine Gb ?_
 intro b4
 refine Ka I (Nt (Cs (Kc I (fun w hS => fU (n := 1) (by omega)) (Ka I (Nt (Cs (Kq I (Fa (q := 0) I I ox I I) (Kf 1 I u24 I I I .tc u22 ?_))))))))
 refine Kq I (Fa (q := 0) I I ox I I) (Hi ?_)
 refine Kc I (fun w hS => qL (a := r.2) (b := r.1)) ?_
 rw [m1]
 refine Fs ?_; refine Cq (Cs (Km I (Yj I (Ns 29 I (v' := .bool false) (by rfl) ?_))))
 refine Fx (fun _ => ?_)
 refine GO ?_; refine Km I (Kc I (fun w hS => qL (a := ae (val r.2 * val r.1)) (b := v)) ?_)
 rw [m2]
 refine Fs ?_; refine Cs (Km I (Yj I (Ns 39 I (v' := .bool false) (by rfl) ?_)))
 refine Fx (fun _ => ?_)
 refine Ck (Xa (Cs (Kq I (Fa (q := 0) I I ox I I) (Hi ?_))))
 refine Km I (Kc I (fun w hS => fQ (a := r.1) (b := ae 1)) ?_)
 rw [s1]
 refine Fs ?_; refine Hd ?_; refine Kc I (fun w hS => fQ (a := v) (b := ae 1)) ?_
 rw [s2]
 refine Fs ?_; refine Hd ?_; refine Kc I (fun w hS => qL (a := ae (val r.1 - 1)) (b := ae (val v - 1))) ?_
 rw [m3]
 refine Fs ?_; refine Hd ?_; refine Kc I (fun w hS => fQ (a := ae (mkI r v)) (b := ae ((val r.1 - 1) * (val v - 1)))) ?_
 rw [s3]
 refine Fs ?_; refine Hd ?_; refine Hl ?_
 refine FF ?_; refine le ?_
 exact Rn I (.agg I .tc jt I (by kernel_rfl) (.tmp I .nil)) fun w' hS => ⟨by rfl, hS.below⟩
def bO (l : List Zs) : Prop := ∀ x ∈ l, okZ x
instance (l : List Zs) : Decidable (bO l) := inferInstanceAs (Decidable (∀ x ∈ l, okZ x))
theorem kG {l : List Zs} {a : Option Addr} {c : Nat} {w : World} {ok : Nat → Prop} (hF1 : (Fact.sl a (ar l)).holds ok w) (hl : l.length ≤ 10000000) :
  Cw 85 #[.slice a l.length c] w (.bool (decide (bO l))) := by
 refine En [Fact.sl a (ar l)] [(0, .slice a l.length c)] Tryz.func85 I Tryz.ntmps85 I (Ac I (An _)) (Fc (af hF1) Fn) (Cs (FM ?_)); refine Yo I u31 (Km I (Nt (Cb (Lp (σ := Nat) [(5, _), (6, _)] (fun gq => [(7, .int .i64 (gq : Int))]) (fun gq => gq ≤ l.length ∧ ∀ x ∈ l.take gq, okZ x) (fun gq => l.length - gq) (0) (S2 I I) (S1 I) (by (try dsimp only); exact ⟨Af _, by simp⟩) ?_))))
 rintro i hinv1; (try dsimp only at hinv1 ⊢)
 obtain ⟨hi, hok⟩ := hinv1
 refine ne (fun hc8 => ?_) (fun hc8 => ?_)
 ·have hil : i < l.length := by omega
  refine FO ?_; refine FI ?_
  refine Gx ?_
  refine FS ?_
  intro b4
  refine Nu I I (Sa I I I .tc) (Nt (Cs (Kq I (lda I I .tc u68 I ?_) ?_)))
  ·kernel_rfl
  refine Kc I (fun w hS => bR (x := l.getD i default)) (Gs (fun hc13 => ?_) (fun hc13 => ?_))
  ·refine Cs (le ?_); refine FE ?_; exact R1 I I (by rw [Aj (fun h => absurd (h _ (aj _ _ hil)) (by simpa using hc13))]; rfl)
  ·refine Ck (Xd (Xa (Cg (Kq I (Rz I I I (by omega)) (Km I (Nn (Ly (i + 1) (by (try dsimp only); omega) (S2 I I) (by refine (Sc ?_ (S0 _)) <;> (rfl)) ?_ (by (exact aq))))))))); (try dsimp only); exact ⟨hil, ax hil hok (by simpa using hc13)⟩
 ·refine Fq ?_
  obtain rfl : i = l.length := by omega
  rw [Ai] at hok
  refine Xa (Cs (le ?_))
  exact R1 I I (by rw [Az (show bO l from hok)]; rfl)
def blw (v : Bs) (x : Zs) (n : Nat) : Prop := val x.2 < n ∧ (v = [] → x.1 = false)
instance (v : Bs) (x : Zs) (n : Nat) : Decidable (blw v x n) := inferInstanceAs (Decidable (_ ∧ _))
theorem iD {v : Bs} {x : Zs} {n : Bs} {w : World} (hx : okN x.2) (hn : okN n) :
  Cw 87 #[.agg #[.string (S v)], zV x, .string (S n)] w (.bool (decide (blw v x (val n)))) := by
 have hc : (fg x.2 n < 0) ↔ val x.2 < val n := by rw [a8 hx hn]; exact aR _ _
 have hr : blw v x (val n) ↔ fg x.2 n < 0 ∧ (¬ v = [] ∨ x.1 = false) := by
  rw [blw, hc]; constructor
  ·intro h; exact ⟨h.1, by by_cases hv : v = []; exact Or.inr (h.2 hv); exact Or.inl hv⟩
  ·intro h; exact ⟨h.1, fun hv => h.2.resolve_left fun h => h hv⟩
 refine En [] [(0, .agg #[.string (S v)]), (1, zV x), (2, .string (S n))] Tryz.func87 I Tryz.ntmps87 I (Ac I (Ac I (Ac I (An _)))) Fn (Eq ?_)
 intro b3
 refine Gc ?_
 intro b4
 refine Ka I (Nt (WC.joinP (σ := Unit) [] (fun gq => [(6, .bool (decide (fg x.2 n < 0 ∧ (¬ v = [] ∨ x.1 = false))))]) (fun gq => True) (S0 _) ?_ ?_))
 ·skip
  refine Cg (Gn ?_)
  refine Km I (Kc I (fun w hS => cZ (a := x.2) (b := n)) (Yl I (Km I (Nc 12 I (fun hg12 => ?_) (fun hg12 => ?_)))))
  ·refine Kq I (lda I I .tc bG I ?_) ?_
   ·kernel_rfl
   refine Kc I (fun w hS => jD (v := v)) (Yi I (Ns 15 I (v' := .bool (decide (¬ v = []))) (congrArg Value.bool (by by_cases hv : v = [] <;> simp [hv])) ?_)); refine Km I (Nc 16 I (fun hg16 => ?_) (fun hg16 => ?_))
   ·refine T2 I (Kt I (Yp I (Yp I (Ka I (Nn (WX.joinP (()) (S0 _) (by refine (Sc ?_ (S0 _)) <;> ((refine congrArg (fun b => some (Value.bool b)) ?_; simp [*]; omega))) ?_ (fun _ h => h))))))); (try dsimp only); done
   ·refine Kf 0 I u68 I I I .tc u4 ?_; refine Yt I (Yq I (Yp I (Ka I (Nn (WX.joinP (()) (S0 _) (by refine (Sc ?_ (S0 _)) <;> ((refine congrArg (fun b => some (Value.bool b)) ?_; simp [*]; omega))) ?_ (fun _ h => h)))))); (try dsimp only); done
  ·refine T4 I (T4 I (Yq I (Ka I (Nn (WX.joinP (()) (S0 _) (by refine (Sc ?_ (S0 _)) <;> ((exact congrArg (fun b => some (Value.bool b)) (by symm; apply Aj; omega)))) ?_ (fun _ h => h)))))); (try dsimp only); done
 ·rintro _ hmeet; (try dsimp only at hmeet ⊢)
  refine Ce ?_
  exact R1 I I (by rw [show decide (blw v x (val n)) = _ from Ak.2 hr]; rfl)
end Go.Proofs.YtchonigdjamphaaGreatDoor
