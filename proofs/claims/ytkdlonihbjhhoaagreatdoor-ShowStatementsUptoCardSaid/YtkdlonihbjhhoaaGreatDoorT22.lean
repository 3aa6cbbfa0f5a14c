/-
  Parts of the walk: Lsm ShaI ShaT Laid LaiE Opu.
-/
import Derived.Test.YtkdlonihbjhhoaaGreatDoorT21
import Derived.Lib.LaidTab
import Derived.Test.YtkdlonihbjhhoaaGreatDoorRows
namespace Go.Proofs.YtkdlonihbjhhoaaGreatDoor
open Go.RowKit
set_option linter.unusedSimpArgs false
set_option linter.unusedVariables false
set_option maxHeartbeats 600000
set_option maxRecDepth 20000
theorem iQ {α : Type} [Inhabited α] {x y : List α} (hl : x.length = y.length) {i : Nat} (hi : i < x.length) (ht : x.take i = y.take i) (he : x.getD i default = y.getD i default) : x.take (i + 1) = y.take (i + 1) := by
 rw [aJ hi, aJ (by omega), ht, he]
theorem k8 {α : Type} {x y : List α} (hl : x.length = y.length) (ht : x.take x.length = y.take x.length) : x = y := by
 rw [Al, hl, Al] at ht; exact ht
theorem rb {s t : SA} (h : s.core = t.core) : s.es.map (·.1) = t.es.map (·.1) := congrArg (·.2.2) h
theorem vr {s t : SA} (h : s.core = t.core) : (s.gs.length : Int) = t.gs.length ∧ (s.vs.length : Int) = t.vs.length ∧ (s.es.length : Int) = t.es.length := by
 have h1 : s.gs = t.gs := congrArg (·.1) h
 have h2 : s.vs = t.vs := congrArg (·.2.1) h
 have h4 : s.es.length = t.es.length := by simpa using congrArg List.length (rb h)
 exact ⟨by rw [h1], by rw [h2], by rw [h4]⟩
theorem vq {s t : SA} (h : s.core = t.core) (k : Nat) : (s.es.getD k default).1 = (t.es.getD k default).1 := by
 rw [← jW, ← jW, rb h]
instance : DecidableEq Tm := inferInstanceAs (DecidableEq (Bs × Int × Bool × Bs))
instance : DecidableEq Qn := inferInstanceAs (DecidableEq (Int × Bs × List Tm))
instance : DecidableEq Sm := inferInstanceAs (DecidableEq (List (Bs × Bs) × List Bs × List Qn))
theorem wm {s t : SA} {w : World} {ok : Nat → Prop} (hF1 : (Fact.sl s.ga (gps s.gs)).holds ok w) (hF2 : (Fact.sl s.va (vrs s.vs)).holds ok w) (hF3 : (Fact.sl s.ea (qas s.es)).holds ok w) (hF4 : (Fact.sl t.ga (gps t.gs)).holds ok w) (hF5 : (Fact.sl t.va (vrs t.vs)).holds ok w) (hF6 : (Fact.sl t.ea (qas t.es)).holds ok w) (hM : ∀ f ∈ (s.es.map qaF ++ t.es.map qaF), f.holds ok w) (hs : saL s) (ht : saL t) :
  Cw 18 #[saV s, saV t] w (.bool (decide (s.core = t.core))) := by
 obtain ⟨hlg, hlv, hle, hlt, hlm⟩ := hs
 obtain ⟨hkg, hkv, hke, hkt, hkm⟩ := ht
 refine En (Fact.sl s.ga (gps s.gs) :: Fact.sl s.va (vrs s.vs) :: Fact.sl s.ea (qas s.es) :: Fact.sl t.ga (gps t.gs) :: Fact.sl t.va (vrs t.vs) :: Fact.sl t.ea (qas t.es) :: (s.es.map qaF ++ t.es.map qaF)) [(0, saV s), (1, saV t)] Tryz.func18 I Tryz.ntmps18 I (Ac I (Ac I (An _))) (Fc (ag hF1) (Fc (ag hF2) (Fc (ag hF3) (Fc (ag hF4) (Fc (ag hF5) (Fc (ag hF6) (bZ hM))))))) (Cs (Kh I (Oy I I) ?_))
 intro b2
 refine Kh I (Oy I I) ?_
 intro b3
 refine Ka I (Nt (Cq (WC.joinP (σ := Unit) [(2, _), (3, _)] (fun gq => [(35, .bool (decide (¬ ((s.gs.length : Int) = t.gs.length ∧ (s.vs.length : Int) = t.vs.length ∧ (s.es.length : Int) = t.es.length))))]) (fun gq => True) (S2 I I) ?_ ?_)))
 ·skip
  refine Cg (Kf 0 I u58 I I I .tc u54 ?_)
  refine Yo I u54 (Kf 0 I u58 I I I .tc u54 ?_)
  refine Yo I u54 (Yj I (Km I (Nc 18 I (fun hg18 => ?_) (fun hg18 => ?_))))
  ·refine T4 I (T2 I (Kt I (Yp I (Km I (T4 I (T2 I (Kt I (Yp I (Nn (WX.joinP (()) (S2 I I) (by refine (Sc ?_ (S0 _)) <;> ((refine ai rfl ?_; (try dsimp only); (simp [*]; done)))) ?_ (fun _ h => h))))))))))); (try dsimp only); done
  ·refine Kf 1 I u58 I I I .tc u55 ?_; refine Yo I u55 (Kf 1 I u58 I I I .tc u55 ?_); refine Yo I u55 (Yj I (Yq I (Km I (Nc 27 I (fun hg27 => ?_) (fun hg27 => ?_)))))
   ·refine T4 I (T2 I (Kt I (Yp I (Nn (WX.joinP (()) (S2 I I) (by refine (Sc ?_ (S0 _)) <;> ((refine ai rfl ?_; (try dsimp only); (simp [*]; done)))) ?_ (fun _ h => h)))))); (try dsimp only); done
   ·refine Kf 2 I u58 I I I .tc u56 ?_; refine Yo I u56 (Kf 2 I u58 I I I .tc u56 ?_); refine Yo I u56 (Yj I (Yq I (Nn (WX.joinP (()) (S2 I I) (by refine (Sc ?_ (S0 _)) <;> ((refine ai rfl ?_; (try dsimp only); (simp [*]; done)))) ?_ (fun _ h => h))))); (try dsimp only); done
 ·rintro _ hmeet; (try dsimp only at hmeet ⊢)
  refine Ci I (fun hc35 => ?_) (fun hc35 => ?_)
  ·refine Cs (Ka I (Nt (Ce (Xb ?_)))); exact R1 I I (by rw [Am (fun h => hc35 (vr h))]; rfl)
  ·obtain ⟨hgl0, hvl0, hel0⟩ := Ap.1 hc35; have hgl : s.gs.length = t.gs.length := by omega
   have hvl : s.vs.length = t.vs.length := by omega
   have hel : s.es.length = t.es.length := by omega
   refine Ck (Xa (Cq (Cs (Ka I (Nt (Cb (Lp (σ := Nat) [(2, _), (3, _)] (fun gq => [(5, .int .i64 (gq : Int))]) (fun gq => gq ≤ s.gs.length ∧ s.gs.take gq = t.gs.take gq) (fun gq => s.gs.length - gq) (0) (S2 I I) (S1 I) (by (try dsimp only); exact ⟨Ah _, by simp⟩) ?_))))))); rintro i hinv1; (try dsimp only at hinv1 ⊢); obtain ⟨hi, hti⟩ := hinv1; refine Cq (Cs (Km I (Kf 0 I u58 I I I .tc u54 ?_))); refine Yo I u54 (Yl I (Nt (Ci I (fun hc40 => ?_) (fun hc40 => ?_))))
   ·have hil : i < s.gs.length := by omega
    have hil2 : i < t.gs.length := by omega
    refine Ck (Xa (Cq (Cb (Cq (Cf [0, 1, 2, 3, 4, 5, 6, 7, 8, 9, 10] [] [0, 0, 0, 0, 0, 0, 0, 0, 0, 0, 0] (by kernel_rfl) (by kernel_rfl) I ?_))))); refine Kj I (Fa (q := 0) I I u58 I I) (Kj I (Ld I I .tc u54) ?_); refine Kj I (Rm I I) ?_; refine Kj I (Ia I I I u54 (by kernel_rfl : _ = some 2) (by omega) (by (rw [aj _ _ 2 (fun _ => rfl)]; omega))) ?_; refine Kj I (cw _ I I u26 I (by kernel_rfl : _ = some 2) (fun _ => rfl) (by decide) I (by assumption)) ?_; refine Kj I (Fa (q := 0) I I u58 I I) (Kj I (Ld I I .tc u54) ?_); refine Kj I (Rm I I) ?_; refine Kj I (Ia I I I u54 (by kernel_rfl : _ = some 2) (by omega) (by (rw [aj _ _ 2 (fun _ => rfl)]; omega))) ?_; refine Kj I (cw _ I I u26 I (by kernel_rfl : _ = some 2) (fun _ => rfl) (by decide) I (by assumption)) ?_; refine Kj I (kE I I I (by kernel_rfl) (fun w => lF _ _ _ _ w)) ?_; refine WJ.nil ?_; refine Nt (Ci I (fun hc53 => ?_) (fun hc53 => ?_))
    ·refine Cs (Ka I (Nt (Ce (Xf (Xb (Xb (Xf (Xb ?_)))))))); exact R1 I I (by rw [Am (fun h => by have h1 : s.gs = t.gs := congrArg (·.1) h; rw [h1] at hc53; simp at hc53)]; rfl)
    ·refine Ck (Xd (Xa (Cg (Km I (Kq I (Rz I I I (by omega)) (Ka I (Nn (Ly (i + 1) (by (try dsimp only); omega) (S2 I I) (by refine (Sc ?_ (S0 _)) <;> (rfl)) ?_ (fun _ h => h))))))))); (try dsimp only); exact ⟨hil, iQ hgl hil hti (Prod.ext_iff.2 (by simpa using hc53))⟩
   ·refine Cx (Xc (Xc (Xe ?_))); obtain rfl : i = s.gs.length := by omega
    have heg := k8 hgl hti; refine Xa (Cq (Cs (Ka I (Nt (Cb (Lp (σ := Nat) [(2, _), (3, _)] (fun gq => [(6, .int .i64 (gq : Int))]) (fun gq => gq ≤ s.vs.length ∧ s.vs.take gq = t.vs.take gq) (fun gq => s.vs.length - gq) (0) (S2 I I) (S1 I) (by (try dsimp only); exact ⟨Ah _, by simp⟩) ?_)))))); rintro j hinv2; (try dsimp only at hinv2 ⊢); obtain ⟨hj, htj⟩ := hinv2; refine Cq (Cs (Km I (Kf 1 I u58 I I I .tc u55 ?_))); refine Yo I u55 (Yl I (Nt (Ci I (fun hc58 => ?_) (fun hc58 => ?_))))
    ·have hjl : j < s.vs.length := by omega
     have hjl2 : j < t.vs.length := by omega
     refine Ck (Xa (Cq (Cb (Cq (Cf [0, 1, 2, 3, 4, 5, 6, 7, 8, 9, 10] [] [0, 0, 0, 0, 0, 0, 0, 0, 0, 0, 0] (by kernel_rfl) (by kernel_rfl) I ?_))))); refine Kj I (Fa (q := 1) I I u58 I I) (Kj I (Ld I I .tc u55) ?_); refine Kj I (Rm I I) ?_; refine Kj I (Ib I I I u55 (by omega) (by (rw [aj _ _ 1 (fun _ => rfl)]; omega))) ?_; refine Kj I (cw _ I I mI I (by kernel_rfl : _ = some 1) (fun _ => rfl) (by decide) (Ax _).symm (by assumption)) ?_; refine Kj I (Fa (q := 1) I I u58 I I) (Kj I (Ld I I .tc u55) ?_); refine Kj I (Rm I I) ?_; refine Kj I (Ib I I I u55 (by omega) (by (rw [aj _ _ 1 (fun _ => rfl)]; omega))) ?_; refine Kj I (cw _ I I mI I (by kernel_rfl : _ = some 1) (fun _ => rfl) (by decide) (Ax _).symm (by assumption)) ?_; refine Kj I (kE I I I (by kernel_rfl) (fun w => jq _ _ w)) ?_; refine WJ.nil ?_; refine Nt (Ci I (fun hc71 => ?_) (fun hc71 => ?_))
     ·refine Cs (Ka I (Nt (Ce (Xf (Xb (Xb (Xf (Xb ?_)))))))); exact R1 I I (by rw [Am (fun h => by have h1 : s.vs = t.vs := congrArg (·.2.1) h; rw [h1] at hc71; simp at hc71)]; rfl)
     ·refine Ck (Xd (Xa (Cg (Km I (Kq I (Rz I I I (by omega)) (Ka I (Nn (Ly (j + 1) (by (try dsimp only); omega) (S2 I I) (by refine (Sc ?_ (S0 _)) <;> (rfl)) ?_ (fun _ h => h))))))))); (try dsimp only); exact ⟨hjl, iQ hvl hjl htj (by simpa using hc71)⟩
    ·refine Cx (Xc (Xc (Xe ?_))); obtain rfl : j = s.vs.length := by omega
     have hev := k8 hvl htj; refine Xa (Cq (Cs (Ka I (Nt (Cb (Lp (σ := Nat) [(2, _), (3, _)] (fun gq => [(7, .int .i64 (gq : Int))]) (fun gq => gq ≤ s.es.length ∧ (s.es.map (·.1)).take gq = (t.es.map (·.1)).take gq) (fun gq => s.es.length - gq) (0) (S2 I I) (S1 I) (by (try dsimp only); exact ⟨Ah _, by simp⟩) ?_)))))); rintro k hinv3; (try dsimp only at hinv3 ⊢); obtain ⟨hk, htk⟩ := hinv3; refine Cq (Cs (Km I (Kf 2 I u58 I I I .tc u56 ?_))); refine Yo I u56 (Yl I (Nt (Ci I (fun hc76 => ?_) (fun hc76 => ?_))))
     ·have hkl : k < s.es.length := by omega
      have hkl2 : k < t.es.length := by omega
      have hm1 := an s.es k hkl; have hm2 := an t.es k hkl2; have hlt1 := hlt _ hm1; have hlt2 := hkt _ hm2; refine Ck (Xa (Cq (Cb (Cq (Cf [0, 1, 2, 3, 4, 10, 11, 12, 5, 6, 7, 8, 9, 13] [] [0, 0, 0, 0, 0, 0, 0, 0, 0, 0, 3, 3, 1, 1] (by kernel_rfl) (by kernel_rfl) I ?_))))); refine Kj I (Fa (q := 2) I I u58 I I) (Kj I (Ld I I .tc u56) ?_); refine Kj I (Rm I I) ?_; refine Kj I (Ia I I I u56 (by kernel_rfl : _ = some 3) (by omega) (by (rw [aj _ _ 3 (fun _ => rfl)]; omega))) ?_; refine Kj I (cw _ I I u95 I (by kernel_rfl : _ = some 3) (fun _ => rfl) (by decide) I (by assumption)) ?_; refine Jf I I I I I (bI I (v := (.agg #[.int .i64 0, .string (S []), .slice none 0 0])) (cs := [.int .i64 0, .string (S []), .slice none 0 0]) (by kernel_rfl) I) ?_; intro b8; refine Jf I I I I I (bI I (v := (.agg #[.int .i64 0, .string (S []), .slice none 0 0])) (cs := [.int .i64 0, .string (S []), .slice none 0 0]) (by kernel_rfl) I) ?_; intro b9; refine WJ.st I I I I (gX I I I ?_ ?_ ?_) ?_
      ·kernel_rfl
      ·simp [Value.oneCell']
      ·rfl
      refine Kj I (Fa (q := 2) I I u58 I I) (Kj I (Ld I I .tc u56) ?_); refine Kj I (Rm I I) ?_; refine Kj I (Ia I I I u56 (by kernel_rfl : _ = some 3) (by omega) (by (rw [aj _ _ 3 (fun _ => rfl)]; omega))) ?_; refine Kj I (cw _ I I u95 I (by kernel_rfl : _ = some 3) (fun _ => rfl) (by decide) I (by assumption)) ?_; refine WJ.st I I I I (gX I I I ?_ ?_ ?_) ?_
      ·kernel_rfl
      ·simp [Value.oneCell']
      ·rfl
      refine WJ.nil ?_; refine Nt (Cq (WC.joinP (σ := Unit) [(2, _), (3, _), (7, _), (8, _), (9, _)] (fun gq => [(109, .bool (decide (¬ ((s.es.getD k default).1.1 = (t.es.getD k default).1.1 ∧ (s.es.getD k default).1.2.1 = (t.es.getD k default).1.2.1 ∧ ((s.es.getD k default).1.2.2.length : Int) = (t.es.getD k default).1.2.2.length))))]) (fun gq => True) (S5 I I I I I) ?_ ?_))
      ·skip
       refine Cg (Kf 0 I u95 I I I .tc u3 ?_); refine Kf 0 I u95 I I I .tc u3 ?_; refine Yj I (Km I (Nc 94 I (fun hg94 => ?_) (fun hg94 => ?_)))
       ·refine T4 I (Kt I (Yp I (Km I (T4 I (T2 I (Kt I (Yp I (Nn (WX.joinP (()) (S5 I I I I I) (by refine (Sc ?_ (S0 _)) <;> ((exact congrArg (fun b => some (Value.bool b)) (by symm; apply Ao; omega)))) ?_ (fun _ h => h)))))))))); (try dsimp only); done
       ·refine Kf 1 I u95 I I I .tc u22 ?_; refine Kf 1 I u95 I I I .tc u22 ?_; refine Yr I (Yq I (Km I (Nc 101 I (fun hg101 => ?_) (fun hg101 => ?_))))
        ·refine T4 I (T2 I (Kt I (Yp I (Nn (WX.joinP (()) (S5 I I I I I) (by refine (Sc ?_ (S0 _)) <;> ((refine congrArg (fun b => some (Value.bool b)) ?_; simp [*, -List.getD_eq_getElem?_getD]; done))) ?_ (fun _ h => h)))))); (try dsimp only); done
        ·refine Kf 2 I u95 I I I .tc u93 ?_; refine Yo I u93 (Kf 2 I u95 I I I .tc u93 ?_); refine Yo I u93 (Yj I (Yq I (Nn (WX.joinP (()) (S5 I I I I I) (by refine (Sc ?_ (S0 _)) <;> ((refine congrArg (fun b => some (Value.bool b)) ?_; simp [*, -List.getD_eq_getElem?_getD]; done))) ?_ (fun _ h => h))))); (try dsimp only); done
      ·rintro _ hmeet; (try dsimp only at hmeet ⊢); refine Ci I (fun hc109 => ?_) (fun hc109 => ?_)
       ·refine Cs (Ka I (Nt (Ce (Xb (Xf (Xb (Xb (Xf (Xb ?_))))))))); exact R1 I I (by rw [Am (fun h => hc109 (by rw [vq h]; exact ⟨rfl, rfl, rfl⟩))]; rfl)
       ·obtain ⟨hq1, hq2, hq30⟩ := Ap.1 hc109; have hq3 : (s.es.getD k default).1.2.2.length = (t.es.getD k default).1.2.2.length := by omega
        refine Ck (Xa (Cs (WL.st (fun w h => mM (more := s.es.map qaF ++ t.es.map qaF) (f := qaF (t.es.getD k default)) (mM (more := s.es.map qaF ++ t.es.map qaF) (f := qaF (s.es.getD k default)) h (Dp _ (Bq hm1))) (List.mem_append_right _ (Bq hm2))) ?_))); refine Ka I (Nt (Cb (Lp (σ := Nat) [(2, _), (3, _), (7, _), (8, _), (9, _)] (fun gq => [(10, .int .i64 (gq : Int))]) (fun gq => gq ≤ (s.es.getD k default).1.2.2.length ∧ (s.es.getD k default).1.2.2.take gq = (t.es.getD k default).1.2.2.take gq) (fun gq => (s.es.getD k default).1.2.2.length - gq) (0) (S5 I I I I I) (S1 I) (by (try dsimp only); exact ⟨Ah _, by simp⟩) ?_))); rintro m hinv4; (try dsimp only at hinv4 ⊢); obtain ⟨hm, htm⟩ := hinv4; refine Cq (Cs (Km I (Kf 2 I u95 I I I .tc u93 ?_))); refine Yo I u93 (Yl I (Nt (Ci I (fun hc114 => ?_) (fun hc114 => ?_))))
        ·have hml : m < (s.es.getD k default).1.2.2.length := by omega
         have hml2 : m < (t.es.getD k default).1.2.2.length := by omega
         refine Ck (Xa (Cq (Cb (Cq (Cf [0, 1, 2, 3, 4, 5, 6, 7, 8, 9, 10] [] [0, 0, 0, 0, 0, 0, 0, 0, 0, 0, 0] (by kernel_rfl) (by kernel_rfl) I ?_))))); refine Kj I (Fa (q := 2) I I u95 I I) (Kj I (Ld I I .tc u93) ?_); refine Kj I (Rm I I) ?_; refine Kj I (Ia I I I u93 (by kernel_rfl : _ = some 4) (by omega) (by (rw [aj _ _ 4 (fun _ => rfl)]; omega))) ?_; refine Kj I (cw _ I I im I (by kernel_rfl : _ = some 4) (fun _ => rfl) (by decide) I (by assumption)) ?_; refine Kj I (Fa (q := 2) I I u95 I I) (Kj I (Ld I I .tc u93) ?_); refine Kj I (Rm I I) ?_; refine Kj I (Ia I I I u93 (by kernel_rfl : _ = some 4) (by omega) (by (rw [aj _ _ 4 (fun _ => rfl)]; omega))) ?_; refine Kj I (cw _ I I im I (by kernel_rfl : _ = some 4) (fun _ => rfl) (by decide) I (by assumption)) ?_; refine Kj I (kE I I I (by kernel_rfl) (fun w => nA _ _ _ _ _ _ _ _ w)) ?_; refine WJ.nil ?_; refine Nt (Ci I (fun hc127 => ?_) (fun hc127 => ?_))
         ·refine Cs (Ka I (Nt (Ce (Xf (Xb (Xb (Xf (Xf (Xb (Xb (Xf (Xb ?_)))))))))))); exact R1 I I (by rw [Am (fun h => by rw [vq h] at hc127; simp at hc127)]; rfl)
         ·refine Ck (Xd (Xa (Cg (Km I (Kq I (Rz I I I (by omega)) (Ka I (Nn (Ly (m + 1) (by (try dsimp only); omega) (S5 I I I I I) (by refine (Sc ?_ (S0 _)) <;> (rfl)) ?_ (fun _ h => h))))))))); (try dsimp only); exact ⟨hml, iQ hq3 hml htm (by simpa [Prod.ext_iff] using hc127)⟩
        ·refine Cx (Xc (Xc (Xe ?_))); obtain rfl : m = (s.es.getD k default).1.2.2.length := by omega
         have het := k8 hq3 htm; refine Xd (Xa (Cg (Km I (Kq I (Rz I I I (by omega)) (Ka I (Nn (Ly (k + 1) (by (try dsimp only); omega) (S2 I I) (by refine (Sc ?_ (S0 _)) <;> (rfl)) ?_ (by (exact av))))))))); (try dsimp only); exact ⟨hkl, iQ (by simpa using hel) (by simpa using hkl) htk (by rw [jW, jW]; exact Prod.ext hq1 (Prod.ext hq2 het))⟩
     ·refine Cx (Xc (Xc (Xe ?_))); obtain rfl : k = s.es.length := by omega
      have hee : s.es.map (·.1) = t.es.map (·.1) := by
       have := htk; rw [A5 (by simp), A5 (by simp [hel])] at this; exact this
      refine Xa (Cs (Ka I (Nt (Ce ?_)))); exact R1 I I (by rw [Ao (show s.core = t.core by simp only [SA.core, heg, hev, hee])]; rfl)
theorem yi : ∀ {a b : List Fact} {x : Fact}, InF b x → InF (a ++ b) x
 | [], _, _, h => h
 | _ :: a, _, _, h => .there (yi h)
instance (priority := low) SubL.app3 {α : Type} (x y z : List α) [h : SubL x z] : SubL x (y ++ z) := ⟨h.h.trans (List.sublist_append_right _ _)⟩
instance (priority := low) hasF_app3 {a b : List Fact} {x : Option Addr} {xs : List Value} [h : HasF b x xs] : HasF (a ++ b) x xs := ⟨yi h.h⟩
theorem xI {p : PR} {k : IK} (h : k6 p k = true) : p.mn.1.1.length ≤ 8 ∧ k.g.1.length ≤ 8 ∧ k.r.length ≤ 8 ∧ k.name.length ≤ 60 := by
 simp only [k6, Cn, decide_eq_true_eq, Bx, List.any_eq_false] at h
 obtain ⟨h1, h2, h3⟩ := h
 have m1 := h3 p.mn.1.1 (by simp [fL, gZ, pk4])
 have m2 := h3 k.g.1 (by simp [fL])
 omega
theorem shsts_l {p : PR} {k : IK} {q : CS} {ra ma da va za xa : Option Addr} {rc mc dc vc zc' xc : Nat} {w : World} {ok : Nat → Prop} (hF1 : (Fact.sl ra (ap k.r)).holds ok w) (hF2 : (Fact.sl ma (ap q.ms)).holds ok w) (hF3 : (Fact.sl da (ef q.d)).holds ok w) (hF4 : (Fact.sl va (ap q.vs)).holds ok w) (hF5 : (Fact.sl za (bh q.ws)).holds ok w) (hF6 : (Fact.sl xa (ap q.t.vals)).holds ok w) (hr : k.r.length ≤ 1048576) (hm : q.ms.length ≤ 1048576) (hd : q.d.length ≤ 1048576) (hv : q.vs.length ≤ 1048576) (hz : q.ws.length ≤ 1048576) (hx : q.t.vals.length ≤ 1048576) (hT : Tab w) (hD : TabD w) :
  Cw 4 #[prV p, ikV k (.slice ra k.r.length rc), csV q (.slice ma q.ms.length mc) (.slice da q.d.length dc) (.slice va q.vs.length vc) (.slice za q.ws.length zc') (.slice xa q.t.vals.length xc)] w (.bool true) := by
 refine En [Fact.sl ra (ap k.r), Fact.sl ma (ap q.ms), Fact.sl da (ef q.d), Fact.sl va (ap q.vs), Fact.sl za (bh q.ws), Fact.sl xa (ap q.t.vals)] [(0, prV p), (1, ikV k (.slice ra k.r.length rc)), (2, csV q (.slice ma q.ms.length mc) (.slice da q.d.length dc) (.slice va q.vs.length vc) (.slice za q.ws.length zc') (.slice xa q.t.vals.length xc))] Tryz.func4 I Tryz.ntmps4 I (Ac I (Ac I (Ac I (An _)))) (Fc (ag hF1) (Fc (ag hF2) (Fc (ag hF3) (Fc (ag hF4) (Fc (ag hF5) (Fc (ag hF6) Fn)))))) (Cs (Kh I (Oy I I) ?_))
 intro b3
 refine Kh I (Oy I I) ?_
 intro b4
 refine Kh I (Oy I I) ?_
 intro b5
 refine Ka I (Nt (Cq (WC.joinP (σ := Unit) [(3, _), (4, _), (5, _)] (fun gq => [(19, .bool (decide (¬ (k6 p k = true ∧ gA q))))]) (fun gq => True) (S3 I I I) ?_ ?_)))
 ·skip
  refine Cg (Kq I (lda I I .tc u30 I ?_) ?_)
  ·kernel_rfl
  refine Kq I (lda I I .tc u33 I ?_) ?_
  ·kernel_rfl
  refine Kc I (fun w hS => xJ (p := p) (k := k) (by (exact hS.sl)) (by assumption)) (Yt I (Km I (Nc 15 I (fun hg15 => ?_) (fun hg15 => ?_))))
  ·refine T2 I (Kt I (Yp I (Nn (WX.joinP (()) (S3 I I I) (by refine (Sc ?_ (S0 _)) <;> ((refine ai rfl ?_; (try dsimp only); (simp [*]; done)))) ?_ (fun _ h => h))))); (try dsimp only); done
  ·refine Kq I (lda I I .tc u43 I ?_) ?_
   ·kernel_rfl
   refine Kc I (fun w hS => rI (q := q) (by (exact hS.sl)) (by (exact hS.sl)) (by (exact hS.sl)) (by (exact hS.sl)) (by (exact hS.sl)) (by assumption) (by assumption) (by assumption) (by assumption) (by assumption)) (Yt I (Yq I (Nn (WX.joinP (()) (S3 I I I) (by refine (Sc ?_ (S0 _)) <;> ((refine ai rfl ?_; (try dsimp only); (simp [*]; done)))) ?_ (fun _ h => h))))); (try dsimp only); done
 ·rintro _ hmeet; (try dsimp only at hmeet ⊢)
  refine Ci I (fun hc19 => ?_) (fun hc19 => ?_)
  ·refine Cs (Kc I (fun w hS => mx (by (exact fo hT hS)) (by (exact br hD hS))) (Ka I (Nt (Ce (Xb ?_))))); exact R1 I I (by rfl)
  ·obtain ⟨hfw, hsm⟩ := Ap.1 hc19; obtain ⟨hm8, hk8, hk8', hk60⟩ := xI hfw; have hds := hsm.2.1; have hvs := hsm.2.2.1; refine Ck (Xa (Cs (Kq I (lda I I .tc u30 I ?_) ?_)))
   ·kernel_rfl
   refine Kq I (lda I I .tc u33 I ?_) ?_
   ·kernel_rfl
   refine Kf 3 I u43 I I I .tc u22 ?_; refine Kf 7 I u43 I I I .tc u38 ?_; refine Kf 8 I u43 I I I .tc u31 ?_; refine Kh I (Oc I I (gM fun w hS => tM (p := p) (k := k) (xa := q.aa) (d := q.d) (vs := q.vs) (by (exact hS.slo)) (by (exact hS.slo)) (by (exact hS.slo)) (by assumption) (by assumption) (by omega) (by omega) (by omega) (by omega) (by (exact br hD hS)))) ?_; rintro s1; refine WL.pu ?_; intro hg30; (try dsimp only [List.cons_append, List.nil_append] at hg30 ⊢); refine Km I (Ye I (Ye I (Kh I (Oz [.slice none 0 0, .slice none 0 0, .slice none 0 0] I) ?_))); intro b7; refine Nu I I (Sa I I I .tc) (Ka I (Nt (Cs (Kq I (lda I I .tc u30 I ?_) ?_))))
   ·kernel_rfl
   refine Kq I (lda I I .tc u33 I ?_) ?_
   ·kernel_rfl
   refine Kf 3 I u43 I I I .tc u22 ?_; refine Kf 7 I u43 I I I .tc u38 ?_; refine Kf 8 I u43 I I I .tc u31 ?_; refine Kh I (Oc I I (gM fun w hS => wH (p := p) (k := k) (xa := q.aa) (d := q.d) (vs := q.vs) (by (exact hS.slo)) (by (exact hS.slo)) (by (exact hS.slo)) (by assumption) (by assumption) (by omega) (by omega) (by omega) (by omega))) ?_; rintro s2; refine WL.pu ?_; intro hg42; (try dsimp only [List.cons_append, List.nil_append] at hg42 ⊢); refine Km I (Ye I (Ye I (Kh I (Oz [.slice none 0 0, .slice none 0 0, .slice none 0 0] I) ?_))); intro b9; refine Nu I I (Sa I I I .tc) (Ka I (Nt (Cs (Kq I (lda I I .tc u58 I ?_) ?_))))
   ·kernel_rfl
   refine Kq I (lda I I .tc u58 I ?_) ?_
   ·kernel_rfl
   refine Kc I (fun w hS => (by have := wm (s := s1) (t := s2) hS.sl hS.sl hS.sl hS.sl hS.sl hS.sl (fun f hf => (Bv.1 hf).elim (hS.more f) (hS.more f)) (pd hk8 (by omega) hg30) (pd hk8 (by omega) hg42); rw [Ao (hg30.trans hg42.symm)] at this; exact this)) (Km I (Ns 48 I (v' := .bool true) (by rfl) ?_)); refine Km I (Km I (Yi I (Yp I (Km I (Ns 53 I (v' := .bool true) (by (exact congrArg Value.bool (by simp [*]; done))) ?_))))); refine Kc I (fun w hS => mx (by (exact fo hT hS)) (by (exact br hD hS))) (Yp I (Ka I (Nt (Ce ?_)))); exact R1 I I (by rfl)
theorem laidVars_tail {P : Program} {w : World} {x : String × DataW Unit} {r : List (String × DataW Unit)} {ps : List MemPlace} (h : DataW.LaidVars P w (x :: r) ps) : ∃ q, DataW.LaidVars P w r q := by
 obtain ⟨n, d⟩ := x
 obtain ⟨g, t, cs, fuel, p, q, _, _, _, _, h, _⟩ := h
 exact ⟨q, h⟩
theorem tab_of_vars {P : Program} {W : World} {name : String} {k : IntKind} {zs : List Int} {rest : List (String × DataW Unit)} {ps : List MemPlace} {t e : TypeId} {n : Nat}
  (hty : ((P.globalNamed name).bind fun g => (P.globals[g]?).map (·.type)) = some t) (ht : P.underlying t = some (.array n e)) (he : P.underlying e = some (.int k)) (hce : P.cellsOf e = 1) (hct : P.cellsOf t = n)
  (h : DataW.LaidVars P W ((name, Lib.tabData k zs) :: rest) ps) : Lib.TabIs P W name k zs := by
 obtain ⟨g', t', cs, fuel, p, q, hg', ht', hvar, hd, _, _⟩ := h
 rw [hg', Option.bind_some] at hty
 obtain rfl := Option.some.inj (hty.symm.trans ht')
 unfold Lib.TabIs
 rw [hvar, ← Lib.cells_of_tab ht he hce hct hd]
theorem wf_u8 {n : Int} (h : (Lit.int .u8 n).wf = true) : 0 ≤ n ∧ n ≤ 255 := by
 have e1 : IntKind.u8.min = 0 := by decide
 have e2 : IntKind.u8.max = 255 := by decide
 simp [Lit.wf, e1, e2] at h; omega
theorem wf_i64 {n : Int} (h : (Lit.int .i64 n).wf = true) : -9223372036854775808 ≤ n ∧ n ≤ 9223372036854775807 := by
 have e1 : IntKind.i64.min = -9223372036854775808 := by decide
 have e2 : IntKind.i64.max = 9223372036854775807 := by decide
 simp [Lit.wf, e1, e2] at h; omega
theorem tabd_of_is {W : World} (h : Lib.TabIs Tryz.prog W "math/bits.deBruijn64tab" .u8 (Lib.deBruijn64tab.map fun n : Nat => (n : Int))) : TabD W := by
 intro j hj
 have h1 : W.var? Tryz.prog "math/bits.deBruijn64tab" = some ((Lib.deBruijn64tab.map fun n : Nat => (n : Int)).map fun z => Value.int .u8 z).toArray := h
 have hg : Tryz.prog.globalNamed "math/bits.deBruijn64tab" = some (renTz.g 1) := by kernel_rfl
 unfold World.var? at h1
 rw [hg, Option.bind_some] at h1
 unfold World.cell?
 show (match W.heap[renTz.g 1]? with | some (.cells c _ _) => if (none : Option _).isSome = true then none else c[j]? | _ => none) = _
 cases hh : W.heap[renTz.g 1]? with
 | none => rw [hh] at h1; cases h1
 | some o =>
  rw [hh] at h1
  cases o with
  | cells c t k =>
   simp only [Option.some.injEq] at h1; subst h1; rw [List.map_map]; simp only [Option.isSome_none, Db, if_false, Dd, Ba]; rw [List.getD_eq_getElem?_getD, Ad hj]; rfl
  | _ => cases h1
end Go.Proofs.YtkdlonihbjhhoaaGreatDoor
namespace Go.Proofs.YtkdlonihbjhhoaaGreatDoor
set_option linter.unusedSimpArgs false
set_option linter.unusedVariables false
open Go.ChangeShapes Go.WideShapes Go.ChangeAt Go.RowKit
theorem vy {H : Type} (d : DataW H) : 1 ≤ Rows.uptoBulk d := by
 cases d with
 | lit l => cases l <;> simp [Rows.uptoBulk]
 | _ => simp [Rows.uptoBulk]
theorem gT {H : Type} {d : DataW H} : ∀ {l : List (DataW H)}, d ∈ l → Rows.uptoBulk d ≤ Rows.uptoBulkAll l
 | [], h => by cases h
 | x :: l, h => by
  simp only [Rows.uptoBulkAll]
  rcases A7.1 h with rfl | h
  ·omega
  ·have := gT h; omega
theorem oP {H : Type} : ∀ l : List (DataW H), l.length ≤ Rows.uptoBulkAll l
 | [] => by simp [Rows.uptoBulkAll]
 | x :: l => by have := vy x; have := oP l; simp only [Rows.uptoBulkAll, Ar]; omega
def Wu {H : Type} (P : Program) (t : TypeId) (d : DataW H) : Prop := Wt P t d ∧ Rows.uptoBulk d ≤ 1048576
theorem wu_all {H : Type} {P : Program} {t : TypeId} {d : DataW H} {l : List (DataW H)} (h : Wt P t d) (hd : d ∈ l) (hb : Rows.uptoSmall H l = true) : Wu P t d := ⟨h, by
 have h1 := gT hd
 have h2 : Rows.uptoBulkAll l ≤ 1048576 := of_decide_eq_true hb
 omega⟩
section
variable {H : Type} {enc : TypeId × Value → H} {P : Program} {w : World} {spare : Nat → Bool} {held : Bool} {fuel : Nat} {t e : TypeId} {cs : List Value} {x : DataW H × List MemPlace}
theorem opu_str (ht : P.underlying t = some .string) (h : DataW.trod enc P w 0 spare held fuel t cs = some x) (hz : Wu P t x.1) : ∃ s : List UInt8, cs = [.string (S s)] ∧ s.length ≤ 140737488351232 := xq ht h hz.1
theorem opu_struct {fs : Array Field} (ht : P.underlying t = some (.struct fs)) (h : DataW.trod enc P w 0 spare held fuel t cs = some x) (hz : Wu P t x.1) :
  cs.length = P.cellsOf t ∧ ∃ m, ∀ (j : Nat) f, fs.toList[j]? = some f → ∃ y, DataW.trod enc P w 0 spare held m f.type ((cs.drop f.offset).take (P.cellsOf f.type)) = some y ∧ Wu P f.type y.1 := by
 cases fuel with
 | zero => simp [DataW.trod] at h
 | succ n =>
  simp only [DataW.trod, ht] at h
  split at h
  ·rename_i hl; refine ⟨hl, n, fun j f hf => ?_⟩; obtain ⟨xs, hxs, rfl⟩ := Dj.1 h; obtain ⟨z, h1, h2⟩ := kV hxs j f hf; refine ⟨z, h1, fun n hn => hz.1 n ?_, ?_⟩
   ·simp only [DataW.weights, ht]; exact DataW.weights_mem_each (j := j) (by rw [Ba, hf]; rfl) (by rw [Ba, h2]; rfl) n hn
   ·have hb := hz.2; simp only [Rows.uptoBulk] at hb; have := gT (d := z.1) (l := xs.map (·.1)) (Cp.2 ⟨z, A6 h2, rfl⟩); omega
  ·cases h
theorem opu_slice {α : Type} [Inhabited α] {cells : α → List Value} {F : α → Prop} (sz bz : Nat) (hbz : P.bytesOf e = bz) (ht : P.underlying t = some (.slice e)) (hc : P.cellsOf e = sz) (hsz : ∀ a, (cells a).length = sz)
  (hel : ∀ m cs (y : DataW H × List MemPlace), DataW.trod enc P w 0 (fun _ => true) held m e cs = some y → Wu P e y.1 → ∃ a : α, cs = cells a ∧ F a) (h : DataW.trod enc P w 0 (fun _ => true) held fuel t cs = some x) (hz : Wu P t x.1) :
  ∃ s : Sl α, cs = [s.val] ∧ s.l.length ≤ s.cap ∧ s.cap * bz ≤ 140737488351232 ∧ s.l.length ≤ 1048576 ∧ (Fact.sl s.a (s.l.flatMap cells)).holds (fun _ => True) w ∧ ∀ y ∈ s.l, F y := by
 cases fuel with
 | zero => simp [DataW.trod] at h
 | succ n =>
  simp only [DataW.trod, ht] at h
  split at h
  all_goals (try (rename_i hq; cases hq; done))
  all_goals (try (cases h; done))
  all_goals (try (rename_i hq _; cases hq; done))
  ·exact ⟨⟨none, [], 0⟩, rfl, Bj _, by simp, Ah _, .inl rfl, by simp⟩
  ·rename_i e' a len cap he
   cases he; split at h <;> try cases h
   rename_i hb; obtain ⟨elems, hm, h'⟩ := Option.bind_eq_some_iff.1 h; simp only [if_true] at h'; obtain ⟨rest, hr, rfl⟩ := Dj.1 h'; have hzl : ∀ n ∈ (DataW.slice (elems.map (·.1)) (rest.map (·.1))).weights P t, n ≤ 140737488351232 := hz.1; have hbk := hz.2; simp only [Rows.uptoBulk] at hbk; have hln := oP (elems.map (·.1)); have hml := iN hm; simp only [Af, List.length_range] at hln hml; simp only [DataW.weights, ht] at hzl
   have hcb : cap * bz ≤ 140737488351232 := by
    have h1 := hzl _ (List.mem_cons_self); have h2 := iN hm; have h3 := iN hr; simp only [Af, List.length_range] at h1 h2 h3; rw [hbz, h2, h3, show len + (cap - len) = cap by omega] at h1; exact h1
   have hall : ∀ i, i < len → ∃ ys : List Value, w.cells? 0 (a.add (i * sz)) sz = some ys ∧ ∃ q : α, ys = cells q ∧ F q := fun i hi => by
    obtain ⟨z, hz1, hz2⟩ := kV hm i i (List.getElem?_range hi); obtain ⟨ys, h1, h2⟩ := Option.bind_eq_some_iff.1 hz1; rw [hc] at h1; obtain ⟨q, hq, hF⟩ := hel _ _ _ h2 ⟨fun n hn => hzl n (C1 _ (Dp _ (fR (Cp.2 ⟨z, A6 hz2, rfl⟩) hn))), by have := gT (d := z.1) (l := elems.map (·.1)) (Cp.2 ⟨z, A6 hz2, rfl⟩); omega⟩; exact ⟨ys, h1, q, hq, hF⟩
   have hlist : ∀ k, k ≤ len → ∃ l : List α, l.length = k ∧ (∀ y ∈ l, F y) ∧ ∀ i, i < k → w.cells? 0 (a.add (i * sz)) sz = some (cells (l.getD i default)) := by
    intro k
    induction k with
    | zero => intro _; exact ⟨[], rfl, by simp, fun i hi => by omega⟩
    | succ k ih =>
     intro hk; obtain ⟨l, h1, h2, h3⟩ := ih (by omega); obtain ⟨ys, hy, q, rfl, hF⟩ := hall k (by omega); refine ⟨l ++ [q], by simp [h1], fun y hy' => ?_, fun i hi => ?_⟩
     ·rcases Bv.1 hy' with h | h
      ·exact h2 y h
      ·simp at h; subst h; exact hF
     ·by_cases hik : i = k
      ·subst hik; rw [hy]; simp [List.getD, ← h1]
      ·rw [h3 i (by omega)]; simp only [List.getD]; rw [B4 (by omega)]
   obtain ⟨l, h1, h2, h3⟩ := hlist len (Bj _); refine ⟨⟨some a, l, cap⟩, by simp [h1], by simp [h1]; exact hb.2.1, hcb, by rw [h1]; omega, rK fun i v hv => ?_, h2⟩; have hlen := aj l cells sz hsz; have hi : i < l.length * sz := by rw [← hlen]; exact (Aq.1 hv).1
   have hs0 : 0 < sz := by rcases B0 sz with h0 | h0; · subst h0; omega
                           ·exact h0
   have hj : i / sz < l.length := Nat.div_lt_of_lt_mul (by rw [Ai]; exact hi); obtain ⟨_, h5⟩ := cells?_get (h3 (i / sz) (by omega))
   have h6 := h5 (i % sz) v (by
    rw [← fD l cells sz hsz (i / sz) hj, Ct, Ab (Ak _ hs0), Cu, Ai, A9]; exact hv)
   have e1 : (a.add (i / sz * sz)).add (i % sz) = a.add i := by
    have h7 : i / sz * sz + i % sz = i := by rw [Ai]; exact A9 i sz
    have h8 : ∀ p q : Nat, (a.add p).add q = a.add (p + q) := fun p q => by by_cases hp : p = 0 <;> by_cases hq : q = 0 <;> simp [Addr.add, hp, hq, Cl]
    rw [h8, h7]
   rw [e1] at h6; exact h6
end
end Go.Proofs.YtkdlonihbjhhoaaGreatDoor
