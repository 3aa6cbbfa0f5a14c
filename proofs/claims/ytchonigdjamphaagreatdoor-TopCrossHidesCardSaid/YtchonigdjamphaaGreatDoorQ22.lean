/-
  Parts of the walk: Lir2 Icw Eqt Lsm Ila Tch Tcl Laid.
-/
import Derived.Test.YtchonigdjamphaaGreatDoorQ21
import Derived.Lib.LaidTab
namespace Go.Proofs.YtchonigdjamphaaGreatDoor
open Go.RowKit
set_option linter.unusedSimpArgs false
set_option linter.unusedVariables false
set_option maxHeartbeats 600000
set_option maxRecDepth 20000
theorem zK {s : SA} {w : World} {ok : Nat → Prop} (hF1 : (Fact.sl s.ga (gps s.gs)).holds ok w) (hs : saL s) :
  Cw 207 #[saV s] w (.string (S (ak s.gs))) := by
 obtain ⟨hlg, hlv, hle, hlt, hlm⟩ := hs
 refine En [Fact.sl s.ga (gps s.gs)] [(0, saV s)] Tryz.func207 I Tryz.ntmps207 I (Ac I (An _)) (Fc (af hF1) Fn) (Eq ?_)
 intro b1
 refine GI ?_; refine Ka I (Nt (Cb (Lp (σ := Nat) [(1, _)] (fun gq => [(3, .int .i64 (gq : Int))]) (fun gq => gq ≤ s.gs.length ∧ ∀ g ∈ s.gs.take gq, g.2 = []) (fun gq => s.gs.length - gq) (0) (S1 I) (S1 I) (by (try dsimp only); exact ⟨Af _, by simp⟩) ?_)))
 rintro i hinv1; (try dsimp only at hinv1 ⊢)
 obtain ⟨hi, hok⟩ := hinv1
 refine Cq (Cs (Km I (Gi ?_)))
 refine Yo I u39 (F7 (fun hc8 => ?_) (fun hc8 => ?_))
 ·have hil : i < s.gs.length := by omega
  refine FO ?_; refine Gi ?_
  refine Km I (Fv ?_)
  (refine Kq I (faf I I u26 I (by kernel_rfl) (by (try simp only [sN, Int.reduceToNat, Nat.reduceAdd, Nat.reduceMul, Nat.reduceSub]); rfl)) ?_)
  refine FZ ?_
  refine Hr (fun hc17 => ?_) (fun hc17 => ?_)
  ·refine Cs (Gi ?_); refine Km I (Fv ?_); (refine Kq I (faf I I u26 I (by kernel_rfl) (by (try simp only [sN, Int.reduceToNat, Nat.reduceAdd, Nat.reduceMul, Nat.reduceSub]); rfl)) ?_); refine FZ ?_; refine le ?_; refine FE ?_; exact R1 I I (by rw [nE hil hok (by simpa using hc17)]; rfl)
  ·refine Ck (Xd (Xa (Cg (Km I (Kq I (Rz I I I (by omega)) (Ka I (Nn (Ly (i + 1) (by (try dsimp only); omega) (S1 I) (by refine (Sc ?_ (S0 _)) <;> (rfl)) ?_ (fun _ h => h))))))))); (try dsimp only); exact ⟨hil, ax hil hok (by simpa using hc17)⟩
 ·refine Fq ?_
  obtain rfl : i = s.gs.length := by omega
  rw [Ai] at hok
  refine Xa (Cs (le ?_))
  exact R1 I I (by rw [lf hok]; rfl)
theorem zF {s : SA} {w : World} {ok : Nat → Prop} (hF1 : (Fact.sl s.ga (gps s.gs)).holds ok w) (hF2 : (Fact.sl s.va (vrs s.vs)).holds ok w) (hF3 : (Fact.sl s.ea (qas s.es)).holds ok w) (hM : ∀ f ∈ (s.es.map qaF), f.holds ok w) (hs : saL s) (hfo : bc s.core) :
  Cw 126 #[saV s] w (.bool (decide (kdS s.core))) := by
 have hs' := hs
 obtain ⟨hlg, hlv, hle, hlt, hlm⟩ := hs
 refine En (Fact.sl s.ga (gps s.gs) :: Fact.sl s.va (vrs s.vs) :: Fact.sl s.ea (qas s.es) :: (s.es.map qaF)) [(0, saV s)] Tryz.func126 I Tryz.ntmps126 I (Ac I (An _)) (Fc (af hF1) (Fc (af hF2) (Fc (af hF3) (aE hM)))) (Eq ?_)
 intro b1
 refine Ka I (Nt (Cs (GI ?_))); refine Ka I (Nt (Cb (Lp (σ := Nat × Bool) [(1, _)] (fun gq => [(3, .bool gq.2), (4, .int .i64 (gq.1 : Int))]) (fun gq => gq.1 ≤ s.vs.length ∧ (gq.2 = false ↔ ∀ v ∈ s.vs.take gq.1, v ≠ [])) (fun gq => s.vs.length - gq.1) (0, false) (S1 I) (S2 I I) (by (try dsimp only); exact ⟨Af _, by simp⟩) ?_)))
 rintro ⟨i, b⟩ hinv1; (try dsimp only at hinv1 ⊢)
 obtain ⟨hi, hok⟩ := hinv1
 refine Cq (Cs (Km I (Ge ?_)))
 refine Yo I u40 (F7 (fun hc14 => ?_) (fun hc14 => ?_))
 ·have hil : i < s.vs.length := by omega
  refine Ck (Xa (WC.joinP (σ := Bool) [(1, _), (4, _)] (fun gq => [(3, .bool gq)]) (fun gq => gq = (b || decide (s.vs.getD i default = []))) (S2 I I) ?_ ?_))
  ·skip
   refine Cb (Cg (Km I (Km I (Nc 18 I (fun hg18 => ?_) (fun hg18 => ?_)))))
   ·refine T4 I (T2 I (Kt I (Yp I (Ka I (Nn (Xd (WX.joinP (b || decide (s.vs.getD i default = [])) (S2 I I) (by refine (Sc ?_ (S0 _)) <;> ((refine ao rfl ?_; (try dsimp only); (simp [*]; done)))) ?_ (fun _ h => h)))))))); (try dsimp only); done
   ·refine Kf 1 I u43 I I I .tc u40 ?_; refine Km I (Kq I (Ib I I I u40 (by omega) (by (rw [ag _ _ 1 (fun _ => rfl)]; omega))) ?_); (refine Kq I (faf I I bG I (by kernel_rfl) (by (try simp only [sN, Int.reduceToNat, Nat.reduceAdd, Nat.reduceMul, Nat.reduceSub]); rfl)) ?_); refine Kq I (cE (l := s.vs) (f := vrC) (sz := 1) i 0 I I u22 I (fun _ => rfl) (As _).symm hil (by decide) I) ?_; refine Ys I (Yq I (Ka I (Nn (Xd (WX.joinP (b || decide (s.vs.getD i default = [])) (S2 I I) (by refine (Sc ?_ (S0 _)) <;> ((refine ao rfl ?_; (try dsimp only); (simp [*]; done)))) ?_ (fun _ h => h)))))); (try dsimp only); done
  ·rintro u hmeet; (try dsimp only at hmeet ⊢); refine Cg (Km I (Kq I (Rz I I I (by omega)) (Ka I (Nn (Ly ((i + 1, u)) (by (try dsimp only); omega) (S1 I) (by refine (Sc ?_ (Sc ?_ (S0 _))) <;> (rfl)) ?_ (fun _ h => h)))))); (try dsimp only)
   exact ⟨hil, by
     rw [hmeet, Bool.or_eq_false_iff, decide_eq_false_iff_not, hok, aA hil]; constructor
     ·intro h x hx; rcases Bx.1 hx with h1 | h1; exact h.1 x h1; rw [List.mem_singleton.1 h1]; exact h.2
     ·intro h; exact ⟨fun x hx => h x (D0 _ hx), h _ (by simp)⟩⟩
 ·refine Fq ?_
  obtain rfl : i = s.vs.length := by omega
  rw [Ai] at hok
  refine Xa (Cq (Cs (Km I (Gs (fun hc28 => ?_) (fun hc28 => ?_)))))
  ·have hr : kdS s.core := Or.inl (hok.1 (by simpa using hc28)); refine Cs (le ?_); refine Xb ?_; exact R1 I I (by rw [Az hr]; rfl)
  ·have hnv : ¬ ∀ v ∈ s.vs, v ≠ [] := fun h => by have := hok.2 h; simp [this] at hc28
   refine Ck (Xa (Cs (Kq I (lda I I .tc u43 I ?_) ?_)))
   ·kernel_rfl
   refine Kc I (fun w hS => zK (s := s) (by (exact hS.sl)) (by exact hs')) (FM ?_); refine Hh (fun hc32 => ?_) (fun hc32 => ?_)
   ·have hr : ¬ kdS s.core := fun h => h.elim hnv fun h => h.1.1 (by simpa using hc32)
    refine Cs (le ?_); refine Xb ?_; exact R1 I I (by rw [Aj hr]; rfl)
   ·have hon : ak s.gs ≠ [] := by simpa using hc32
    refine Ck (HJ ?_); refine Lp (σ := Nat) [(1, _), (5, _)] (fun gq => [(6, .int .i64 (gq : Int))]) (fun gq => gq ≤ s.gs.length ∧ ∀ g ∈ s.gs.take gq, ¬ (g.2 ≠ [] ∧ g.2 ≠ ak s.gs)) (fun gq => s.gs.length - gq) (0) (S2 I I) (S1 I) (by (try dsimp only); exact ⟨Af _, by simp⟩) ?_; rintro i hinv2; (try dsimp only at hinv2 ⊢); obtain ⟨hi, hog⟩ := hinv2; refine Cq (Cs (Km I (Gi ?_))); refine Yo I u39 (F7 (fun hc37 => ?_) (fun hc37 => ?_))
    ·have hil : i < s.gs.length := by omega
     refine Ck (Xa (Cq (Cb (WC.joinP (σ := Unit) [(1, _), (5, _), (6, _)] (fun gq => [(56, .bool (decide ((s.gs.getD i default).2 ≠ [] ∧ (s.gs.getD i default).2 ≠ ak s.gs)))]) (fun gq => True) (S3 I I I) ?_ ?_))))
     ·skip
      refine Cg (Gi ?_); refine Km I (Fv ?_); (refine Kq I (faf I I u26 I (by kernel_rfl) (by (try simp only [sN, Int.reduceToNat, Nat.reduceAdd, Nat.reduceMul, Nat.reduceSub]); rfl)) ?_); refine FZ ?_; refine Yr I (Km I (Nc 47 I (fun hg47 => ?_) (fun hg47 => ?_)))
      ·refine Kf 0 I u43 I I I .tc u39 ?_; refine Km I (Kq I (Ia I I I u39 (by kernel_rfl : _ = some 2) (by omega) (by (rw [ag _ _ 2 (fun _ => rfl)]; omega))) ?_); (refine Kq I (faf I I u26 I (by kernel_rfl) (by (try simp only [sN, Int.reduceToNat, Nat.reduceAdd, Nat.reduceMul, Nat.reduceSub]); rfl)) ?_); refine Kq I (cE (sz := 2) _ 1 I I u22 I (fun _ => rfl) I (by assumption) (by decide) I) ?_; refine Km I (Yr I (Yp I (Nn (WX.joinP (()) (S3 I I I) (by refine (Sc ?_ (S0 _)) <;> ((refine congrArg (fun b => some (Value.bool b)) ?_; simp [*, -List.getD_eq_getElem?_getD]; done))) ?_ (fun _ h => h))))); (try dsimp only); done
      ·refine T4 I (T4 I (Yq I (Nn (WX.joinP (()) (S3 I I I) (by refine (Sc ?_ (S0 _)) <;> ((refine congrArg (fun b => some (Value.bool b)) ?_; simp [*, -List.getD_eq_getElem?_getD]; done))) ?_ (fun _ h => h))))); (try dsimp only); done
     ·rintro _ hmeet; (try dsimp only at hmeet ⊢); refine Ci I (fun hc56 => ?_) (fun hc56 => ?_)
      ·have hr : ¬ kdS s.core := fun h => h.elim hnv fun h => h.1.2 _ (aj _ _ hil) hc56
       refine Cs (le ?_); refine FE ?_; exact R1 I I (by rw [Aj hr]; rfl)
      ·refine Ck (Xd (Xa (Cg (Km I (Kq I (Rz I I I (by omega)) (Ka I (Nn (Ly (i + 1) (by (try dsimp only); omega) (S2 I I) (by refine (Sc ?_ (S0 _)) <;> (rfl)) ?_ (fun _ h => h))))))))); (try dsimp only); exact ⟨hil, ax hil hog hc56⟩
    ·refine Fq ?_; obtain rfl : i = s.gs.length := by omega
     rw [Ai] at hog; refine HJ ?_; refine Lp (σ := Nat) [(1, _)] (fun gq => [(7, .int .i64 (gq : Int))]) (fun gq => gq ≤ s.es.length ∧ ∀ q ∈ s.es.take gq, kdQ s.gs s.vs q.1) (fun gq => s.es.length - gq) (0) (S1 I) (S1 I) (by (try dsimp only); exact ⟨Af _, by simp⟩) ?_; rintro k hinv3; (try dsimp only at hinv3 ⊢); obtain ⟨hk, hoq⟩ := hinv3; refine Cq (Cs (Km I (Gz ?_))); refine Yo I u41 (F7 (fun hc61 => ?_) (fun hc61 => ?_))
     ·have hkl : k < s.es.length := by omega
      have hkm := aj s.es k hkl; have hlt1 := hlt _ hkm; have hfq := hfo.2.2 _ (At hkm); have hgl : (s.es.getD k default).1.1.toNat < s.gs.length := by have := hfq.1.1.1; have := hfq.1.1.2; simp only [SA.core] at this; omega
      have hq0 := hfq.1.1.1; refine FO ?_; refine Gz ?_; refine Km I (FA ?_); refine FH ?_; refine FT ?_; intro b8; refine FF ?_; refine Nt (Cs (GT ?_)); refine Ka I (Nt (Cb (Lp (σ := Nat) [(1, _), (7, _), (8, _)] (fun gq => [(9, .int .i64 (gq : Int))]) (fun gq => gq ≤ (s.es.getD k default).1.2.2.length ∧ ∀ t ∈ (s.es.getD k default).1.2.2.take gq, ¬ (s.vs.getD t.2.1.toNat default = [] ∧ (s.gs.getD (s.es.getD k default).1.1.toNat default).2 = [])) (fun gq => (s.es.getD k default).1.2.2.length - gq) (0) (S3 I I I) (S1 I) (by (try dsimp only); exact ⟨Af _, by simp⟩) ?_))); rintro m hinv4; (try dsimp only at hinv4 ⊢); obtain ⟨hm, hot⟩ := hinv4; refine Cq (Cs (Km I (Hw ?_))); refine Yo I u82 (F7 (fun hc73 => ?_) (fun hc73 => ?_))
      ·have hml : m < (s.es.getD k default).1.2.2.length := by omega
       have htm := (hfq.2 _ (aj _ _ hml)).1; have ht0 := htm.1; have htl : ((s.es.getD k default).1.2.2.getD m default).2.1.toNat < s.vs.length := by have := htm.2; simp only [SA.core] at this; omega
       refine Ck (Xa (Cq (Cb (WC.joinP (σ := Unit) [(1, _), (7, _), (8, _), (9, _)] (fun gq => [(97, .bool (decide (s.vs.getD ((s.es.getD k default).1.2.2.getD m default).2.1.toNat default = [] ∧ (s.gs.getD (s.es.getD k default).1.1.toNat default).2 = [])))]) (fun gq => True) (S4 I I I I) ?_ ?_))))
       ·skip
        refine Cf [0, 1, 2, 3, 4, 5, 6, 7, 8, 9, 10, 11, 12, 13, 14, 15, 16, 17, 18, 19, 20, 21] [] [0, 0, 0, 0, 0, 0, 0, 0, 0, 0, 0, 0, 0, 0, 0, 0, 0, 0, 0, 0, 0, 0] (by kernel_rfl) (by kernel_rfl) I ?_; refine Kj I (Fa (q := 1) I I u43 I I) (Kj I (Ld I I .tc u40) ?_); refine Ii ?_; refine GP ?_; refine Kj I (Ia I I I u82 (by kernel_rfl : _ = some 4) (by omega) (by (rw [ag _ _ 4 (fun _ => rfl)]; omega))) ?_; (refine Kj I (faf I I dG I (by kernel_rfl) (by (try simp only [sN, Int.reduceToNat, Nat.reduceAdd, Nat.reduceMul, Nat.reduceSub]); rfl)) ?_); refine Kj I (cE (sz := 4) _ 1 I I u3 I (fun _ => rfl) I (by assumption) (by decide) I) ?_; refine Kj I (Ib I I I u40 (by assumption) (by (rw [ag _ _ 1 (fun _ => rfl)]; omega))) ?_; (refine Kj I (faf I I bG I (by kernel_rfl) (by (try simp only [sN, Int.reduceToNat, Nat.reduceAdd, Nat.reduceMul, Nat.reduceSub]); rfl)) ?_); refine Kj I (cE (l := s.vs) (f := vrC) (sz := 1) ((s.es.getD k default).1.2.2.getD m default).2.1.toNat 0 I I u22 I (fun _ => rfl) (As _).symm htl (by decide) I) ?_; refine Kj I (jw I I I) (GP ?_); refine WJ.bool 88 I (fun hg88 => ?_) (fun hg88 => ?_)
        ·(try simp only [sB] at hg88); refine Kj I (Fa (q := 0) I I u43 I I) (Kj I (Ld I I .tc u39) ?_); refine Kj I (Fa (q := 0) I I u84 I I) (Kj I (Ld I I .tc u3) ?_); refine Kj I (Ia I I I u39 (by kernel_rfl : _ = some 2) (by omega) (by (rw [ag _ _ 2 (fun _ => rfl)]; omega))) ?_; (refine Kj I (faf I I u26 I (by kernel_rfl) (by (try simp only [sN, Int.reduceToNat, Nat.reduceAdd, Nat.reduceMul, Nat.reduceSub]); rfl)) ?_); refine Kj I (cE (sz := 2) _ 1 I I u22 I (fun _ => rfl) I (by assumption) (by decide) I) ?_; refine Kj I (jw I I I) (Kj I (Rp I I I) ?_); refine WJ.nil ?_; refine Nn (WX.joinP (()) (S4 I I I I) (by refine (Sc ?_ (S0 _)) <;> ((refine congrArg (fun b => some (Value.bool b)) ?_; simp [*, -List.getD_eq_getElem?_getD]; done))) ?_ (fun _ h => h)); (try dsimp only); done
        ·(try simp only [sB] at hg88); refine Js I I I I (Js I I I I (Js I I I I (Js I I I I (Js I I I I (Js I I I I (Js I I I I (Js I I I I (Kj I (Rq I I I) ?_)))))))); refine WJ.nil ?_; refine Nn (WX.joinP (()) (S4 I I I I) (by refine (Sc ?_ (S0 _)) <;> ((refine congrArg (fun b => some (Value.bool b)) ?_; simp [*, -List.getD_eq_getElem?_getD]; done))) ?_ (fun _ h => h)); (try dsimp only); done
       ·rintro _ hmeet; (try dsimp only at hmeet ⊢); refine Ci I (fun hc97 => ?_) (fun hc97 => ?_)
        ·have hr : ¬ kdS s.core := fun h => h.elim hnv fun h => (h.2 _ (At hkm)).elim (fun h => h hc97.2) fun h => h _ (aj _ _ hml) hc97.1
         refine Cs (le ?_); refine Xf (Xb (Xb (Xf (FE ?_)))); exact R1 I I (by rw [Aj hr]; rfl)
        ·refine Ck (Xd (Xa (Cg (Km I (Kq I (Rz I I I (by omega)) (Ka I (Nn (Ly (m + 1) (by (try dsimp only); omega) (S3 I I I) (by refine (Sc ?_ (S0 _)) <;> (rfl)) ?_ (fun _ h => h))))))))); (try dsimp only); exact ⟨hml, ax hml hot hc97⟩
      ·refine Fq ?_; obtain rfl : m = (s.es.getD k default).1.2.2.length := by omega
       rw [Ai] at hot
       have hkq : kdQ s.gs s.vs (s.es.getD k default).1 := by
        by_cases hg : (s.gs.getD (s.es.getD k default).1.1.toNat default).2 = []
        ·exact Or.inr fun t ht h => hot t ht ⟨h, hg⟩
        ·exact Or.inl hg
       refine Xd (Xa (Cg (Km I (Kq I (Rz I I I (by omega)) (Ka I (Nn (Ly (k + 1) (by (try dsimp only); omega) (S1 I) (by refine (Sc ?_ (S0 _)) <;> (rfl)) ?_ (by (exact aq))))))))); (try dsimp only); exact ⟨hkl, ax hkl hoq hkq⟩
     ·refine Fq ?_; obtain rfl : k = s.es.length := by omega
      rw [Ai] at hoq; refine Xa (Cs (le ?_)); exact R1 I I (by rw [Az (show kdS s.core from Or.inr ⟨⟨hon, hog⟩, cN.2 hoq⟩)]; rfl)
theorem ko {s : Sm} (h : bc s) : dQ s = if ¬ dD s then 6 else if ¬ elS s then 13 else if ¬ kdS s then 10 else 0 := by rw [dQ, Aa (fun h1 => h1 h)]
theorem wW {s : SA} {w : World} {ok : Nat → Prop} (hF1 : (Fact.sl s.ga (gps s.gs)).holds ok w) (hF2 : (Fact.sl s.va (vrs s.vs)).holds ok w) (hF3 : (Fact.sl s.ea (qas s.es)).holds ok w) (hM : ∀ f ∈ (s.es.map qaF), f.holds ok w) (hs : saL s) (hfo : bc s.core) :
  Cw 49 #[saV s] w (.int .i64 (dQ s.core)) := by
 refine En (Fact.sl s.ga (gps s.gs) :: Fact.sl s.va (vrs s.vs) :: Fact.sl s.ea (qas s.es) :: (s.es.map qaF)) [(0, saV s)] Tryz.func49 I Tryz.ntmps49 I (Ac I (An _)) (Fc (af hF1) (Fc (af hF2) (Fc (af hF3) (aE hM)))) (Eq ?_)
 intro b1
 refine Ka I (Nt (Cq (Cs (Kq I (lda I I .tc u43 I ?_) ?_))))
 ·kernel_rfl
 refine Kc I (fun w hS => w3 (s := s) (by (exact hS.sl)) (by exact hs)) (Nt (Ci I (fun hc4 => ?_) (fun hc4 => ?_)))
 ·have hr : dQ s.core = 6 := by rw [ko hfo, Ae (by (exact hc4))]
  refine Cs (le ?_); refine Xb ?_
  exact Io
 ·have h1 : dD s.core := by (exact Ah.1 hc4)
  refine Ck (Xa (Cq (Cs (Kq I (lda I I .tc u43 I ?_) ?_))))
  ·kernel_rfl
  refine Kc I (fun w hS => w7 (s := s) (by (exact hS.sl)) (by (exact hS.sl)) (by (exact hS.more)) (by exact hs) (by exact hfo)) (Gs (fun hc7 => ?_) (fun hc7 => ?_))
  ·have hr : dQ s.core = 13 := by rw [ko hfo, Aa (fun h => h h1), Ae (by (exact hc7))]
   refine Cs (le ?_); refine Xb ?_; exact Io
  ·have h2 : elS s.core := by (simpa using hc7)
   refine Ck (Xa (Cq (Cs (Kq I (lda I I .tc u43 I ?_) ?_))))
   ·kernel_rfl
   refine Kc I (fun w hS => zF (s := s) (by (exact hS.sl)) (by (exact hS.sl)) (by (exact hS.sl)) (by (exact hS.more)) (by exact hs) (by exact hfo)) (Gs (fun hc10 => ?_) (fun hc10 => ?_))
   ·have hr : dQ s.core = 10 := by rw [ko hfo, Aa (fun h => h h1), Aa (fun h => h h2), Ae (by (exact hc10))]
    refine Cs (le ?_); refine Xb ?_; exact Io
   ·have h3 : kdS s.core := by (simpa using hc10)
    have hr : dQ s.core = 0 := by rw [ko hfo, Aa (fun h => h h1), Aa (fun h => h h2), Aa (fun h => h h3)]
    refine Ck (Xa (Cs (le ?_))); exact Io
instance : DecidableEq Tm := inferInstanceAs (DecidableEq (Bs × Int × Bool × Bs))
instance : DecidableEq Qn := inferInstanceAs (DecidableEq (Int × Bs × List Tm))
instance : DecidableEq Sm := inferInstanceAs (DecidableEq (List (Bs × Bs) × List Bs × List Qn))
def iZ (k : PK) : Prop := k.1.1.length ≤ 8 ∧ k.1.2.length ≤ 8 ∧ k.2.1.length ≤ 9 ∧ k.2.2.length ≤ 9
instance (k : PK) : Decidable (iZ k) := inferInstanceAs (Decidable (_ ∧ _))
theorem q8 {k : PK} {w : World} :
  Cw 14 #[pkV k] w (.bool (decide (iZ k))) := by
 refine En [] [(0, pkV k)] Tryz.func14 I Tryz.ntmps14 I (Ac I (An _)) Fn (Eq ?_)
 intro b1
 refine Ka I (Nt (Cs (Kq I (Fa (q := 0) I I u28 I I) (Gj ?_))))
 refine Yn I u22 (Ym I (Km I (Nc 8 I (fun hg8 => ?_) (fun hg8 => ?_))))
 ·refine Kq I (Fa (q := 0) I I u28 I I) (Gh ?_)
  refine H5 ?_; refine Nc 15 I (fun hg15 => ?_) (fun hg15 => ?_)
  ·refine Ic ?_; refine H5 ?_; refine Nc 21 I (fun hg21 => ?_) (fun hg21 => ?_)
   ·refine Id ?_; refine Yn I u22 (Ym I (Yp I (le ?_))); exact R1 I I (by (simp only [tup, iZ]; (refine congrArg (fun b => Ending.returned (Value.bool b)) (Ak.2 ?_); omega)))
   ·refine T4 I (Yq I (le ?_)); exact IB
  ·refine T4 I (Yq I (Km I (T4 I (Yq I (le ?_))))); exact IB
 ·refine T4 I (Kt I (Yq I (Km I (T4 I (Yq I (Km I (T4 I (Yq I (le ?_)))))))))
  exact IB
def shP (l : List Bs) : Prop := ∀ x ∈ l, x.length ≤ 16
instance (l : List Bs) : Decidable (shP l) := inferInstanceAs (Decidable (∀ x ∈ l, _))
structure IC where
 k : PK
 a : Bs
 b : Bs
 c : Bs
 v : Bs
 r : Bs
def Fj (c : IC) : Prop := iZ c.k ∧ shP [c.a, c.b, c.c] ∧ c.v.length ≤ 140 ∧ c.r.length ≤ 140
instance (c : IC) : Decidable (Fj c) := inferInstanceAs (Decidable (_ ∧ _))
def saC (m : Sm) : Prop := m.1.length ≤ 100000 ∧ m.2.1.length ≤ 100000 ∧ m.2.2.length ≤ 100000 ∧ (∀ q ∈ m.2.2, q.2.2.length ≤ 100000) ∧ ∀ g ∈ m.1, g.1.length ≤ 8
instance (m : Sm) : Decidable (saC m) := inferInstanceAs (Decidable (_ ∧ _))
theorem tO {s : SA} (h : saC s.core) : saL s := ⟨h.1, h.2.1, by have := h.2.2.1; simpa using this, cN.1 h.2.2.2.1, h.2.2.2.2⟩
theorem xv {s : SA} {w : World} {ok : Nat → Prop} (hF1 : (Fact.sl s.ga (gps s.gs)).holds ok w) (hF2 : (Fact.sl s.va (vrs s.vs)).holds ok w) (hF3 : (Fact.sl s.ea (qas s.es)).holds ok w) (hM : ∀ f ∈ (s.es.map qaF), f.holds ok w) (hs : saL s) :
  Cw 13 #[saV s] w (.int .i64 (dQ s.core)) := by
 refine En (Fact.sl s.ga (gps s.gs) :: Fact.sl s.va (vrs s.vs) :: Fact.sl s.ea (qas s.es) :: (s.es.map qaF)) [(0, saV s)] Tryz.func13 I Tryz.ntmps13 I (Ac I (An _)) (Fc (af hF1) (Fc (af hF2) (Fc (af hF3) (aE hM)))) (Eq ?_)
 intro b1
 refine Ka I (Nt (Cq (Cs (Kq I (lda I I .tc u43 I ?_) ?_))))
 ·kernel_rfl
 refine Kc I (fun w hS => w5 (s := s) (by (exact hS.sl)) (by (exact hS.sl)) (by (exact hS.sl)) (by (exact hS.more)) (by exact hs)) (Gs (fun hc5 => ?_) (fun hc5 => ?_))
 ·have hf : ¬ bc s.core := by (exact hc5)
  refine Cs (le ?_); refine Xb ?_
  exact R1 I I (by rw [dQ, Ae hf]; rfl)
 ·have hf : bc s.core := by (simpa using hc5)
  refine Ck (Xa (Cs (Kq I (lda I I .tc u43 I ?_) ?_)))
  ·kernel_rfl
  refine Kc I (fun w hS => wW (s := s) (by (exact hS.sl)) (by (exact hS.sl)) (by (exact hS.sl)) (by (exact hS.more)) (by exact hs) (by exact hf)) (le ?_)
  exact Iq
theorem tN {n m : Bs} {x y : List Zs} {a b : Option Addr} {c d : Nat} {w : World} {ok : Nat → Prop} (hF1 : (Fact.sl a (ar x)).holds ok w) (hF2 : (Fact.sl b (ar y)).holds ok w) (hx : x.length ≤ 100000) (hnm : n = m) (hxy : x = y) :
  Cw 12 #[sgV n x a c, sgV m y b d] w (.bool true) := by
 refine En [Fact.sl a (ar x), Fact.sl b (ar y)] [(0, sgV n x a c), (1, sgV m y b d)] Tryz.func12 I Tryz.ntmps12 I (Ac I (Ac I (An _))) (Fc (af hF1) (Fc (af hF2) Fn)) (Eq ?_)
 intro b2
 refine Gc ?_
 intro b3
 refine GI ?_; refine HV ?_
 refine HV ?_
 refine Yr I (Km I (Ns 11 I (v' := .bool false) (by simp [hnm]) ?_))
 refine Kf 1 I u49 I I I .tc u31 ?_
 refine Kf 1 I u49 I I I .tc u31 ?_
 refine Kc I (fun w hS => zE (x := x) (y := y) (by (exact hS.sl)) (by (exact hS.sl)) (by assumption)) (Yt I (Yq I (Km I (Ns 19 I (v' := .bool false) (by simp [hxy]) ?_))))
 refine Ih ?_
 refine Ih ?_
 refine Kc I (fun w hS => wN (l := []) (m := []) (by (exact hJ)) (by (exact hJ)) (by (simp <;> omega)) (by (simp <;> omega))) (Yt I (Yq I (Km I (Ns 27 I (v' := .bool false) (by simp) ?_))))
 refine Ig ?_
 refine Yo I u47 (Ig ?_)
 refine Yo I u47 (Yj I (Yq I (Ns 35 I (v' := .bool false) (by rfl) ?_)))
 refine Fx (fun _ => ?_)
 refine Ck (HJ ?_); refine Lp (σ := Nat) [(2, _), (3, _)] (fun gq => [(5, .int .i64 0)]) (fun gq => 0 ≤ gq) (fun gq => 0) (0) (S2 I I) (S1 I) (by (try dsimp only); exact Af _) ?_
 rintro u hinv1; (try dsimp only at hinv1 ⊢)
 refine Cq (Cs (Km I (Ig ?_)))
 refine Yo I u47 (Yl I (Nt (Cd I (fun hc40 => by exfalso; (try simp only [sB] at hc40); omega) (fun hc40 => ?_))))
 (try simp only [sB] at hc40)
 refine Fq ?_; refine Xa (Cs (le ?_))
 exact Iq
structure CX where
 r : Gp
 m : PK
 k : PK
 a : Bs
 b : Bs
 v : Bs
 w : Bs
abbrev CX.v' (x : CX) : Value := .agg #[.string (S x.r.1), .string (S x.r.2), .string (S x.m.1.1), .string (S x.m.1.2), .string (S x.m.2.1), .string (S x.m.2.2), .string (S x.k.1.1), .string (S x.k.1.2), .string (S x.k.2.1), .string (S x.k.2.2), .string (S x.a), .string (S x.b), .string (S x.v), .string (S x.w)]
def j4 (x : CX) : Prop := iZ x.m ∧ iZ x.k ∧ x.a.length ≤ 9 ∧ x.b.length ≤ 9 ∧ x.v.length ≤ 8 ∧ x.w.length ≤ 8 ∧ x.r.1.length ≤ 8 ∧ x.r.2.length ≤ 8
instance (x : CX) : Decidable (j4 x) := inferInstanceAs (Decidable (_ ∧ _))
theorem CD {x : CX} {w : World} :
  Cw 4 #[x.v'] w (.bool (decide (j4 x))) := by
 refine En [] [(0, x.v')] Tryz.func4 I Tryz.ntmps4 I (Ac I (An _)) Fn (Eq ?_)
 intro b1
 refine Ka I (Nt (Cs (Kq I (Fa (q := 2) I I u30 I I) (G8 ?_))))
 refine Kc I (fun w hS => q8 (k := x.m)) (Km I (Nc 6 I (fun hg6 => ?_) (fun hg6 => ?_)))
 ·refine Kq I (Fa (q := 6) I I u30 I I) (G8 ?_)
  refine Kc I (fun w hS => q8 (k := x.k)) (Yp I (Km I (Nc 11 I (fun hg11 => ?_) (fun hg11 => ?_))))
  ·refine Kf 10 I u30 I I I .tc u22 ?_; refine H5 ?_; refine Nc 17 I (fun hg17 => ?_) (fun hg17 => ?_)
   ·refine Kf 11 I u30 I I I .tc u22 ?_; refine H5 ?_; refine Nc 23 I (fun hg23 => ?_) (fun hg23 => ?_)
    ·refine Kf 12 I u30 I I I .tc u22 ?_; refine H5 ?_; refine Nc 29 I (fun hg29 => ?_) (fun hg29 => ?_)
     ·refine Kf 13 I u30 I I I .tc u22 ?_; refine H5 ?_; refine Nc 35 I (fun hg35 => ?_) (fun hg35 => ?_)
      ·refine Kq I (Fa (q := 0) I I u30 I I) (Hi ?_); refine H5 ?_; refine Nc 42 I (fun hg42 => ?_) (fun hg42 => ?_)
       ·refine Kq I (Fa (q := 0) I I u30 I I) (Kf 1 I u24 I I I .tc u22 ?_); refine Yn I u22 (Ym I (Yp I (Ka I (Nt (Ce ?_))))); exact R1 I I (by (simp only [tup, j4]; (refine congrArg (fun b => Ending.returned (Value.bool b)) (Ak.2 ?_); simp_all <;> omega)))
       ·refine T4 I (Kt I (Yq I (le ?_))); exact Ip
      ·refine T4 I (Kt I (G9 ?_)); refine le ?_; exact Ip
     ·refine T4 I (G9 ?_); refine Km I (T4 I (Kt I (Yq I (le ?_)))); exact Ip
    ·refine GS ?_; refine Kt I (G9 ?_); refine le ?_; exact Ip
   ·refine GS ?_; refine G9 ?_; refine Km I (T4 I (Kt I (Yq I (le ?_)))); exact Ip
  ·refine GS ?_; refine Yq I (Km I (T4 I (G9 ?_))); refine Km I (T4 I (Kt I (Yq I (le ?_)))); exact Ip
 ·refine T2 I (Kt I (Yq I (Km I (GS ?_)))); refine Yq I (Km I (T4 I (G9 ?_))); refine Km I (T4 I (Kt I (Yq I (le ?_))))
  exact Ip
theorem Fm : vH (([77], []), [4], [16]) ((false, [2]), (false, [3])) = ([9], 0) := by decide +kernel
def vg (l : List Zs) : Prop := (∀ j, j < l.length → j < 6 → (l.getD j default).2.length ≤ 24) ∧ l.length ≤ 6
instance (l : List Zs) : Decidable (vg l) := inferInstanceAs (Decidable ((∀ j, j < l.length → _) ∧ _))
theorem ru {l : List Zs} {a : Option Addr} {c : Nat} {w : World} {ok : Nat → Prop} (hF1 : (Fact.sl a (ar l)).holds ok w) (hl : l.length ≤ 9223372036854775807) :
  Cw 5 #[.slice a l.length c] w (.bool (decide (vg l))) := by
 refine En [Fact.sl a (ar l)] [(0, .slice a l.length c)] Tryz.func5 I Tryz.ntmps5 I (Ac I (An _)) (Fc (af hF1) Fn) (Cs (GI ?_)); refine Ka I (Nt (Cb (Lp (σ := Nat) [(0, _)] (fun gq => [(3, .int .i64 (gq : Int))]) (fun gq => (gq ≤ l.length ∧ gq ≤ 6) ∧ ∀ j, j < gq → (l.getD j default).2.length ≤ 24) (fun gq => l.length - gq) (0) (S1 I) (S1 I) (by (try dsimp only); exact ⟨⟨Af _, by omega⟩, fun _ h => absurd h (B6 _)⟩) ?_)))
 rintro i hinv1; (try dsimp only at hinv1 ⊢)
 obtain ⟨⟨hi, hi6⟩, hok⟩ := hinv1
 refine Cq (WC.joinP (σ := Unit) [(0, _), (3, _)] (fun gq => [(11, .bool (decide (i < l.length ∧ i < 6)))]) (fun gq => True) (S2 I I) ?_ ?_)
 ·skip
  refine Cg (Km I (Km I (Yo I u31 (Yl I (Km I (Nc 8 I (fun hg8 => ?_) (fun hg8 => ?_)))))))
  ·refine Km I (Yl I (Yp I (Nn (WX.joinP (()) (S2 I I) (by refine (Sc ?_ (S0 _)) <;> ((refine ao rfl ?_; (try dsimp only); (exact Ak.2 (by omega))))) ?_ (fun _ h => h))))); (try dsimp only); done
  ·refine T2 I (Yq I (Nn (WX.joinP (()) (S2 I I) (by refine (Sc ?_ (S0 _)) <;> ((exact congrArg (fun b => some (Value.bool b)) (by symm; apply Aj; omega)))) ?_ (fun _ h => h)))); (try dsimp only); done
 ·rintro _ hmeet; (try dsimp only at hmeet ⊢)
  refine Ci I (fun hc11 => ?_) (fun hc11 => ?_)
  ·obtain ⟨hil, hi5⟩ := hc11; refine FO ?_; refine Km I (Km I (FI ?_)); (refine Kq I (faf I I u68 I (by kernel_rfl) (by (try simp only [sN, Int.reduceToNat, Nat.reduceAdd, Nat.reduceMul, Nat.reduceSub]); rfl)) ?_); refine FZ ?_; refine Yn I u22 (Yg I (Nt (Ci I (fun hc20 => ?_) (fun hc20 => ?_))))
   ·refine Cs (le ?_); refine FE ?_; exact R1 I I (by rw [Aj (fun h : vg l => by have := h.1 i hil hi5; omega)]; rfl)
   ·refine Ck (Xd (Xa (Cg (Km I (Kq I (Rz I I I (by omega)) (Ka I (Nn (Ly (i + 1) (by (try dsimp only); omega) (S1 I) (by refine (Sc ?_ (S0 _)) <;> (rfl)) ?_ (fun _ h => h))))))))); (try dsimp only); exact ⟨⟨hil, hi5⟩, fun j hj => by rcases Bc.1 hj with h | h; exact hok j h; subst h; omega⟩
  ·refine Fq ?_; refine Xa (Cs (Km I (Yo I u31 (Ym I (le ?_))))); exact R1 I I (by exact congrArg (fun b => Ending.returned (Value.bool b)) (Ak.2 ⟨fun h => ⟨fun j h1 h2 => hok j (by omega), by omega⟩, fun h => by have := h.2; omega⟩))
theorem fj {w : World} :
  Cw 6 #[] w (.bool true) := by
 refine En [] [] Tryz.func6 I Tryz.ntmps6 I (An _) Fn (Cs (Ka I (Nt (Cs (Hl ?_))))); refine Kq I (Kb [[.string (S []), .string (S [])], [.string (S [])], [.string (S [])]] I I) (FY ?_); refine FY ?_; refine G0 ?_
 refine Kc I (fun w hS => vG (k := (([77], []), [4], [16])) (o := ((false, [2]), (false, [3]))) (by (simp <;> omega))) ?_
 rw [Fm]
 refine Fs ?_; refine Cs (Km I (Yi I (Km I (Ns 14 I (v' := .bool true) (by rfl) ?_))))
 refine Km I (Ys I (Yp I (le ?_)))
 exact Iq
theorem yW : ∀ {a b : List Fact} {x : Fact}, InF b x → InF (a ++ b) x
 | [], _, _, h => h
 | _ :: a, _, _, h => .there (yW h)
instance (priority := low) hasF_app2 {a b : List Fact} {x : Option Addr} {xs : List Value} [h : HasF b x xs] : HasF (a ++ b) x xs := ⟨yW h.h⟩
theorem BS {m k : PK} {a b v r : Bs} (h : (eqS m k a b v r).2 = 0) : eqS m k a b v r = (eqQ m k a b v r, 0) ∧ m.1.2 ≠ [] := by
 unfold eqS at h ⊢
 split at h
 ·rename_i h1; exact absurd h h1
 ·rename_i h1; rw [Aa h1]
  refine ⟨rfl, fun h2 => ?_⟩
  have h3 := Ah.1 h1
  unfold eqE at h3
  split at h3
  ·cases h3
  ·split at h3
   ·rename_i h4; exact absurd h3 h4
   ·first | exact absurd h3 (by decide) | (rw [Ae h2] at h3; exact absurd h3 (by decide))
theorem us {m k : Gp} (h : m.2 ≠ []) : ak [m, k] = m.2 := by
 rw [ak, List.find?_cons_of_pos (by simpa using h)]; rfl
structure yN (x : CX) (s : SA) : Prop where
 sa : saL s
 say : pB s.core
 sm : Sml x.r s.core
 c1 : fS s.core
 q0 : ak s.gs ≠ []
 vl : s.core.2.1.length ≤ 1000
theorem vE {x : CX} {s : SA} (hf : j4 x) (h : (eqS x.m x.k x.a x.b x.v x.w).2 = 0) (hc : s.core = (eqS x.m x.k x.a x.b x.v x.w).1) : yN x s := by
 obtain ⟨h1, h2⟩ := BS h
 rw [h1] at hc
 dsimp only at hc
 obtain ⟨⟨m1, m2, m3, m4⟩, ⟨k1, k2, k3, k4⟩, ha, hb, hv, hw, hr1, hr2⟩ := hf
 have hg : s.gs = [x.m.1, x.k.1] := congrArg (·.1) hc
 have h11 : (ofZ 1).2.length ≤ 1000 := by decide +kernel
 refine ⟨tO ?_, ?_, ⟨hr1, hr2, ?_, ?_⟩, ?_, ?_, ?_⟩
 ·rw [hc]; exact ⟨by simp [eqQ], by simp [eqQ], by simp [eqQ], by simp [eqQ], by simp [eqQ]; exact ⟨m1, k1⟩⟩
 ·rw [hc]
  refine ⟨⟨by simp [eqQ], by simp [eqQ]⟩, ?_, ?_, ?_⟩
  ·intro g hg; simp [eqQ] at hg; rcases hg with rfl | rfl <;> constructor <;> omega
  ·intro y hy; simp [eqQ] at hy; rcases hy with rfl | rfl | rfl
   ·omega
   ·exact Af _
   ·omega
  ·intro q hq; simp [eqQ] at hq; rcases hq with rfl | rfl
   ·refine ⟨⟨by dsimp only; omega, by dsimp only; omega, by dsimp only; omega⟩, ?_⟩; intro t ht; simp [trm] at ht; rcases ht with rfl | rfl
    ·exact ID
    ·exact ID
   ·refine ⟨⟨by dsimp only; omega, by dsimp only; omega, by dsimp only; omega⟩, ?_⟩; intro t ht; simp [trm] at ht; rcases ht with rfl | rfl
    ·exact ID
    ·exact ID
 ·rw [hc]; intro y hy; simp [eqQ] at hy; rcases hy with rfl | rfl | rfl
  ·exact hv
  ·exact Af _
  ·exact hw
 ·show (ak s.gs).length ≤ 8
  rw [hg, us h2]; exact m2
 ·rw [hc]; intro q hq t ht; simp [eqQ] at hq
  rcases hq with rfl | rfl <;> (simp [trm] at ht; rcases ht with rfl | rfl <;> rfl)
 ·rw [hg, us h2]; exact h2
 ·rw [hc]; simp [eqQ]
theorem sk {r : Gp} {cx : Bs} {s : Sm} {n : Bs} {xs : List Zs} (hp : Prf r cx s n xs) (hg : ∀ g ∈ s.1, g.1.length ≤ 8) : (cg s (val n) xs).length ≤ 100 ∧ ∀ x ∈ cg s (val n) xs, x.length ≤ 100 := by
 obtain ⟨_, hk, _, _⟩ := dg hp.bd
 obtain ⟨hfo, hsz, hel, _⟩ := cX hk
 refine ⟨by rw [cg, Ag]; have := hsz.1.2.2; omega, fun x hx => ?_⟩
 obtain ⟨q, hq, rfl⟩ := Ch.1 hx
 obtain ⟨hgq, ht, hb⟩ := qG hfo hel hq
 obtain ⟨⟨⟨h1, h2⟩, _⟩, _⟩ := hfo.2.2 q hq
 have h4 := hg _ (aj s.1 q.1.toNat (by omega))
 have h5 : elG (s.1.getD q.1.toNat default) (lW s.1 (val n) xs q) := nH hgq ht hb (Ba _)
 have h6 := lg h5.1 (C9 h5.2.2.1 (Aw (aG _) (Ar (by decide) h4)))
 omega
abbrev zFc (w : World) (x : Zs) : Prop := x.2.length ≤ 140737488351232
def wEq : Bs := [101, 113, 117, 97, 108]
theorem tcross_l {x : CX} {p q : List Zs} {t : Tp} {pa qa ta : Option Addr} {pc qc tc : Nat} {w : World} {ok : Nat → Prop} (hF1 : (Fact.sl pa (ar p)).holds ok w) (hF2 : (Fact.sl qa (ar q)).holds ok w) (hF3 : (Fact.sl ta (am t.vals)).holds ok w) (hpl : p.length ≤ 9223372036854775807) (hql : q.length ≤ 9223372036854775807) (htl : t.vals.length ≤ 9223372036854775807) (hT : Tab w) :
  Cw 3 #[x.v', .agg #[.slice pa p.length pc, .slice qa q.length qc], t.v (.slice ta t.vals.length tc)] w (.bool true) := by
 refine En [Fact.sl pa (ar p), Fact.sl qa (ar q), Fact.sl ta (am t.vals)] [(0, x.v'), (1, .agg #[.slice pa p.length pc, .slice qa q.length qc]), (2, t.v (.slice ta t.vals.length tc))] Tryz.func3 I Tryz.ntmps3 I (Ac I (Ac I (Ac I (An _)))) (Fc (af hF1) (Fc (af hF2) (Fc (af hF3) Fn))) (Eq ?_)
 intro b3
 refine Gc ?_
 intro b4
 refine Gc ?_
 intro b5
 refine Ka I (Nt (Cq (WC.joinP (σ := Unit) [(3, _), (4, _), (5, _)] (fun gq => [(44, .bool (decide (¬ (j4 x ∧ vg p ∧ vg q ∧ t.vals.length ≤ 20 ∧ t.seed.length ≤ 40))))]) (fun gq => True) (S3 I I I) ?_ ?_)))
 ·skip
  refine Cg (Kq I (lda I I .tc u30 I ?_) ?_)
  ·kernel_rfl
  refine Kc I (fun w hS => CD (x := x)) (Yt I (Km I (Nc 21 I (fun hg21 => ?_) (fun hg21 => ?_))))
  ·refine T4 I (Yp I (Km I (T4 I (Yp I (Km I (T4 I (Yp I (Km I (T4 I (Yp I (Nn (WX.joinP (()) (S3 I I I) (by refine (Sc ?_ (S0 _)) <;> ((refine ao rfl ?_; (try dsimp only); (simp [*]; done)))) ?_ (fun _ h => h))))))))))))); (try dsimp only); done
  ·refine Kq I (Jb I I I rL (by kernel_rfl : _ = some 1) ?_) ?_
   ·omega
   refine Kq I (Ld I I .tc u31) ?_; refine Kc I (fun w hS => ru (l := p) (by (exact hS.sl)) (by assumption)) (Yt I (Yq I (Km I (Nc 27 I (fun hg27 => ?_) (fun hg27 => ?_)))))
   ·refine T4 I (Yp I (Km I (T4 I (Yp I (Km I (T4 I (Yp I (Nn (WX.joinP (()) (S3 I I I) (by refine (Sc ?_ (S0 _)) <;> ((refine ao rfl ?_; (try dsimp only); (simp [*]; done)))) ?_ (fun _ h => h)))))))))); (try dsimp only); done
   ·refine Kq I (Jb I I I rL (by kernel_rfl : _ = some 1) ?_) ?_
    ·omega
    refine Kq I (Ld I I .tc u31) ?_; refine Kc I (fun w hS => ru (l := q) (by (exact hS.sl)) (by assumption)) (Yt I (Yq I (Km I (Nc 33 I (fun hg33 => ?_) (fun hg33 => ?_)))))
    ·refine T4 I (Yp I (Km I (T4 I (Yp I (Nn (WX.joinP (()) (S3 I I I) (by refine (Sc ?_ (S0 _)) <;> ((refine ao rfl ?_; (try dsimp only); (simp [*]; done)))) ?_ (fun _ h => h))))))); (try dsimp only); done
    ·refine Hj ?_; refine Yo I u33 (Yg I (Ns 37 I (v' := .bool (decide (¬ t.vals.length ≤ 20))) (congrArg Value.bool (by exact Ak.2 (by omega))) ?_)); refine Yq I (Km I (Nc 39 I (fun hg39 => ?_) (fun hg39 => ?_)))
     ·refine T4 I (Yp I (Nn (WX.joinP (()) (S3 I I I) (by refine (Sc ?_ (S0 _)) <;> ((refine ao rfl ?_; (try dsimp only); (simp [*]; done)))) ?_ (fun _ h => h)))); (try dsimp only); done
     ·refine Kf 1 I u35 I I I .tc u9 ?_; refine Yn I u9 (Yg I (Ns 43 I (v' := .bool (decide (¬ t.seed.length ≤ 40))) (congrArg Value.bool (by exact Ak.2 (by omega))) ?_)); refine Yq I (Nn (WX.joinP (()) (S3 I I I) (by refine (Sc ?_ (S0 _)) <;> ((refine ao rfl ?_; (try dsimp only); (simp [*]; done)))) ?_ (fun _ h => h))); (try dsimp only); done
 ·rintro _ hmeet; (try dsimp only at hmeet ⊢)
  refine Ci I (fun hc44 => ?_) (fun hc44 => ?_)
  ·refine Cs (Kc I (fun w hS => fj) (le ?_)); refine Xb ?_; exact Iq
  ·obtain ⟨hfx, hfp, hfq, hv20, hs40⟩ := Ah.1 hc44; have hp6 := hfp.2; have hq6 := hfq.2; have hfx' := hfx; obtain ⟨⟨hm8, _⟩, ⟨hk8, _⟩, _⟩ := hfx'; refine Ck (HJ ?_); refine Lp (σ := Nat) [(3, _), (4, _), (5, _)] (fun gq => [(7, .int .i64 (gq : Int))]) (fun gq => gq ≤ t.vals.length) (fun gq => t.vals.length - gq) (0) (S3 I I I) (S1 I) (by (try dsimp only); exact Af _) ?_; rintro i hinv1; (try dsimp only at hinv1 ⊢); obtain hi := hinv1; refine Cq (Cs (Km I (Hj ?_))); refine Yo I u33 (F7 (fun hc50 => ?_) (fun hc50 => ?_))
   ·refine FO ?_; refine Hj ?_; refine Km I (FW ?_); refine Kq I (ldm I I u22 I (by omega)) ?_; refine Yn I u22 (Yg I (Nt (Ci I (fun hc59 => ?_) (fun hc59 => ?_))))
    ·refine Cs (Kc I (fun w hS => fj) (le ?_)); refine FE ?_; exact Iq
    ·refine Ck (Xd (Xa (Cg (Km I (Kq I (Rz I I I (by omega)) (Ka I (Nn (Ly (i + 1) (by (try dsimp only); omega) (S3 I I I) (by refine (Sc ?_ (S0 _)) <;> (rfl)) ?_ (fun _ h => h))))))))); (try dsimp only); omega
   ·refine Fq ?_; refine Xa (Cs (Kq I (Fa (q := 2) I I u30 I I) ?_)); refine G8 ?_; refine Kq I (Fa (q := 6) I I u30 I I) (G8 ?_); refine Kf 10 I u30 I I I .tc u22 ?_; refine Kf 11 I u30 I I I .tc u22 ?_; refine Kf 12 I u30 I I I .tc u22 ?_; refine Kf 13 I u30 I I I .tc u22 ?_; refine Kh I (Oc I I (bK fun w hS => x5 (m := x.m) (k := x.k) (a := x.a) (b := x.b) (v := x.v) (r := x.w) (by exact hm8) (by exact hk8))) ?_; rintro s74; refine WL.pu ?_; intro hg74; (try dsimp only [List.cons_append, List.nil_append] at hg74 ⊢); refine Km I (Ye I (Ye I (Kh I (Oz [.slice none 0 0, .slice none 0 0, .slice none 0 0] I) ?_))); intro b8; refine FF ?_; refine Ka I (Nt (Cq (Fz (fun hc78 => ?_) (fun hc78 => ?_))))
    ·refine Cs (Kc I (fun w hS => fj) (le ?_)); refine Xb ?_; exact Iq
    ·have he0 : (eqS x.m x.k x.a x.b x.v x.w).2 = 0 := by (simpa using hc78)
     have hco := vE hfx he0 hg74; have hgl := hco.sa.2.2.2.2; clear hg74; refine Ck (Xa (GJ ?_)); refine Kq I (lda I I .tc u43 I ?_) ?_
     ·kernel_rfl
     refine Kq I (Jb I I I rL (by kernel_rfl : _ = some 1) ?_) ?_
     ·omega
     refine Kq I (Ld I I .tc u31) ?_; refine Hf ?_; refine Kq I (lda I I .tc u35 I ?_) ?_
     ·kernel_rfl
     refine Kh I (Oc I I (bK fun w hS => u0 (r := x.r) (cx := wEq) (s := s74) (ws := p) (t := t) (by (exact hS.slo)) (by (exact hS.slo)) (by (exact hS.slo)) (by (exact hS.slo)) (by (exact hS.slo)) (by (exact hS.moreo)) (by decide) (by exact hco.sa) (by exact hco.say) (by exact hco.sm) (by exact hco.c1) (by omega) (by omega) (by omega) (by exact hco.q0) (by exact bW hT hS))) ?_; rintro ⟨g88, x88, ha88, hc88⟩; refine WL.pu ?_; intro hg88; (try dsimp only [List.cons_append, List.nil_append] at hg88 ⊢); refine HZ ?_; refine GL ?_; intro b10; refine FP ?_; intro b11; refine FF ?_; refine FF ?_; refine Ka I (Nt (Cq (Fz (fun hc93 => ?_) (fun hc93 => ?_))))
     ·refine Cs (Kc I (fun w hS => fj) (le ?_)); refine Xb ?_; exact Iq
     ·have hp0 : (bF x.r wEq s74.core p t).2.2 = 0 := by (simpa using hc93)
      have hprf := AD hco.sm hco.c1 hp0; have hmsg := sk hprf hgl; have hxl : (bF x.r wEq s74.core p t).1.2.length ≤ 100000 := by rw [hprf.xl]; exact hco.sa.2.1
      refine Ck (Xa (Cq (GJ ?_))); refine Kq I (lda I I .tc u43 I ?_) ?_
      ·kernel_rfl
      refine Hf ?_; refine Kq I (lda I I .tc u49 I ?_) ?_
      ·kernel_rfl
      refine Kc I (fun w hS => BK (r := x.r) (cx := wEq) (s := s74) (n := (bF x.r wEq s74.core p t).1.1) (xs := (bF x.r wEq s74.core p t).1.2) (by (exact hS.sl)) (by (exact hS.sl)) (by (exact hS.sl)) (by (exact hS.sl)) (by (exact hS.more)) (by decide) (by exact hco.sa) (by exact hco.say) (by exact hco.sm) (by exact hxl) (by exact hprf) (by exact hmsg) (by exact bW hT hS)) (Yj I (Ns 101 I (v' := .bool false) (by rfl) ?_)); refine Fx (fun _ => ?_); refine Ck (Xa (Cs (Kq I (lda I I .tc u43 I ?_) ?_)))
      ·kernel_rfl
      refine Kq I (Jb I I I rL (by kernel_rfl : _ = some 1) ?_) ?_
      ·omega
      refine Kq I (Ld I I .tc u31) ?_; refine Kc I (fun w hS => nV (s := s74) (ws := q) (by (exact hS.sl)) (by (exact hS.sl)) (by (exact hS.sl)) (by (exact hS.sl)) (by (exact hS.more)) (by exact hco.sa) (by omega)) (Fs ?_); refine GJ ?_; refine Kq I (lda I I .tc u43 I ?_) ?_
      ·kernel_rfl
      refine Kq I (Jb I I I rL (by kernel_rfl : _ = some 1) ?_) ?_
      ·omega
      refine Kq I (Ld I I .tc u31) ?_; refine Hf ?_; refine Kq I (lda I I .tc u49 I ?_) ?_
      ·kernel_rfl
      refine Kh I (Oc I I (bK fun w hS => BI (r := x.r) (cx := wEq) (s := s74) (ws := q) (n := (bF x.r wEq s74.core p t).1.1) (xs := (bF x.r wEq s74.core p t).1.2) (by (exact hS.slo)) (by (exact hS.slo)) (by (exact hS.slo)) (by (exact hS.slo)) (by (exact hS.slo)) (by (exact hS.moreo)) (by exact hco.sa) (by exact hco.sm) (by omega) (by exact hxl) (by (have := hmsg.1; omega)) (by exact hprf))) ?_; rintro g117; refine WL.pu ?_; intro hg117; (try dsimp only [List.cons_append, List.nil_append] at hg117 ⊢); refine Fs ?_; refine Cq (WC.joinP (σ := Unit) [(3, _), (4, _), (8, _), (10, _), (13, _), (14, _)] (fun gq => [(125, .bool (decide (¬ ((cn s74.core q).2 = 0 ∧ (cn s74.core q).1 = true))))]) (fun gq => True) (S6 I I I I I I) ?_ ?_)
      ·skip
       refine Cg (Km I (Yj I (Km I (Nc 122 I (fun hg122 => ?_) (fun hg122 => ?_)))))
       ·refine T2 I (Yp I (Nn (WX.joinP (()) (S6 I I I I I I) (by refine (Sc ?_ (S0 _)) <;> ((refine ao rfl ?_; (try dsimp only); (simp [*]; done)))) ?_ (fun _ h => h)))); (try dsimp only); done
       ·refine Km I (Yt I (Yq I (Nn (WX.joinP (()) (S6 I I I I I I) (by refine (Sc ?_ (S0 _)) <;> ((refine ao rfl ?_; (try dsimp only); (simp [*]; done)))) ?_ (fun _ h => h))))); (try dsimp only); done
      ·rintro _ hmeet; (try dsimp only at hmeet ⊢); refine Ci I (fun hc125 => ?_) (fun hc125 => ?_)
       ·have hno := y9 hprf hc125; refine Cs (Km I (Yj I (Km I (Ns 128 I (v' := .bool true) (by rw [Aj hno]; rfl) ?_)))); refine Kc I (fun w hS => fj) (Yp I (le ?_)); refine Xb ?_; exact Iq
       ·obtain ⟨hh2, hh1⟩ := Ah.1 hc125; obtain ⟨hx0, hxl2, hxk, hxp, hxe⟩ := wn hco.sm hco.c1 hco.vl hprf hh2 hh1; have hvl := hco.sa.2.1; have hxl3 := Bi (Nat.le_of_eq hxl2) hvl; refine Ck (Xa (GJ ?_)); refine Kq I (lda I I .tc u43 I ?_) ?_
        ·kernel_rfl
        refine Kq I (Jb I I I rL (by kernel_rfl : _ = some 1) ?_) ?_
        ·omega
        refine Kq I (Ld I I .tc u31) ?_; refine Hf ?_; refine Km I (FJ ?_); refine Kh I (Oc I I (bK fun w hS => u0 (r := x.r) (cx := wEq) (s := s74) (ws := q) (t := ⟨(fm x.r s74.core q (bF x.r wEq s74.core p t).1.1 (bF x.r wEq s74.core p t).1.2).1, [], 0⟩) (by (exact hS.slo)) (by (exact hS.slo)) (by (exact hS.slo)) (by (exact hS.slo)) (by (exact hS.slo)) (by (exact hS.moreo)) (by decide) (by exact hco.sa) (by exact hco.say) (by exact hco.sm) (by exact hco.c1) (by omega) (by exact hxl3) (by (dsimp only; simp)) (by exact hco.q0) (by exact bW hT hS))) ?_; rintro ⟨g140, x140, ha140, hc140⟩; refine WL.pu ?_; intro hg140; (try dsimp only [List.cons_append, List.nil_append] at hg140 ⊢); refine HZ ?_; refine GL ?_; intro b15; refine FP ?_; intro b16; refine FF ?_; refine FF ?_; refine FN ?_; refine Yi I (Km I (Ns 146 I (v' := .bool true) (by rw [hx0]; rfl) ?_)); refine Km I (Yi I (Yp I (Km I (Ns 150 I (v' := .bool true) (by rw [hxe]; rfl) ?_)))); refine Kq I (lda I I .tc u49 I ?_) ?_
        ·kernel_rfl
        refine Kq I (lda I I .tc u49 I ?_) ?_
        ·kernel_rfl
        refine Kc I (fun w hS => tN (n := (bF x.r wEq s74.core p t).1.1) (m := (bF x.r wEq s74.core q ⟨(fm x.r s74.core q (bF x.r wEq s74.core p t).1.1 (bF x.r wEq s74.core p t).1.2).1, [], 0⟩).1.1) (x := (bF x.r wEq s74.core p t).1.2) (y := (bF x.r wEq s74.core q ⟨(fm x.r s74.core q (bF x.r wEq s74.core p t).1.1 (bF x.r wEq s74.core p t).1.2).1, [], 0⟩).1.2) (by (exact hS.sl)) (by (exact hS.sl)) (by exact hxl) (by (rw [hxp])) (by (rw [hxp]))) (Yp I (Km I (Ns 155 I (v' := .bool true) (by rfl) ?_))); refine Kq I (lda I I .tc u43 I ?_) ?_
        ·kernel_rfl
        refine Kc I (fun w hS => xv (s := s74) (by (exact hS.sl)) (by (exact hS.sl)) (by (exact hS.sl)) (by (exact hS.more)) (by exact hco.sa)) (Yi I (Yp I (Ns 159 I (v' := .bool true) (by rw [(dg hprf.bd).2.1]; rfl) ?_))); refine le ?_; exact Iq
theorem laidVars_tail {P : Program} {w : World} {x : String × DataW Unit} {r : List (String × DataW Unit)} {ps : List MemPlace} (h : DataW.LaidVars P w (x :: r) ps) : ∃ q, DataW.LaidVars P w r q := by
 obtain ⟨n, d⟩ := x
 obtain ⟨g, t, cs, fuel, p, q, _, _, _, _, h, _⟩ := h
 exact ⟨q, h⟩
theorem tab_of_vars {P : Program} {W : World} {name : String} {k : IntKind} {zs : List Int} {rest : List (String × DataW Unit)} {ps : List MemPlace} {t e : TypeId} {n : Nat}
  (hty : ((P.globalNamed name).bind fun g => (P.globals[g]?).map (·.type)) = some t) (ht : P.underlying t = some (.array n e)) (he : P.underlying e = some (.int k)) (hce : P.cellsOf e = 1) (hct : P.cellsOf t = n)
  (h : DataW.LaidVars P W ((name, Lib.tabData k zs) :: rest) ps) : Lib.TabIs P W name k zs := by
 obtain ⟨g', t', cs, fuel, p, q, hg', ht', hvar, hd, _, _⟩ := h
 rw [hg', Option.bind_some] at hty
 obtain rfl := Option.some.inj (hty.symm.trans ht')
 unfold Lib.TabIs
 rw [hvar, ← Lib.cells_of_tab ht he hce hct hd]
theorem wf_u8 {n : Int} (h : (Lit.int .u8 n).wf = true) : 0 ≤ n ∧ n ≤ 255 := by
 have e1 : IntKind.u8.min = 0 := by decide
 have e2 : IntKind.u8.max = 255 := by decide
 simp [Lit.wf, e1, e2] at h; omega
theorem wf_i64 {n : Int} (h : (Lit.int .i64 n).wf = true) : -9223372036854775808 ≤ n ∧ n ≤ 9223372036854775807 := by
 have e1 : IntKind.i64.min = -9223372036854775808 := by decide
 have e2 : IntKind.i64.max = 9223372036854775807 := by decide
 simp [Lit.wf, e1, e2] at h; omega
end Go.Proofs.YtchonigdjamphaaGreatDoor
