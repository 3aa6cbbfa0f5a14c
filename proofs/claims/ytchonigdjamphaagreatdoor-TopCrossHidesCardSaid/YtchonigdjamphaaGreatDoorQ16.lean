/-
  Parts of the walk: Coi7 Cbl Pwe Grp2 Ped Prs Iks Pw3 Open Opn Opz Non1 Sin Non2 Non3 Isn Gpl Hol Nrs Egp.
-/
import Derived.Test.YtchonigdjamphaaGreatDoorQ15
import Derived.ProofKit
import Derived.OpenShut
import Derived.SliceStrings
import Derived.Carry
import Derived.SizedLaws
namespace Go.Proofs.YtchonigdjamphaaGreatDoor
open Go.RowKit
set_option linter.unusedSimpArgs false
set_option linter.unusedVariables false
set_option maxHeartbeats 600000
set_option maxRecDepth 20000
def aV (t : Tp) (n : Bs) : Zs × Tp × Int :=
 if bf t n ≠ 0 then ((false, []), aJ, bf t n)
 else if Big ≤ 2 * val n - 1 then ((false, []), aJ, 5)
 else if (aO t (ae (2 * val n - 1))).2.2 ≠ 0 then ((false, []), aJ, (aO t (ae (2 * val n - 1))).2.2)
 else ((eO (false, (aO t (ae (2 * val n - 1))).1) (false, ae (val n - 1))).1, (aO t (ae (2 * val n - 1))).2.1, 0)
theorem j6 : val [1] = 1 := rfl
theorem uv : okN [1] := by decide
theorem wu {n : Bs} (h : okN n) (h0 : n ≠ []) : 1 ≤ val n := by
 rcases Bw (val n) with q | q
 ·exact absurd ((aM h.2).1 q) h0
 ·exact q
theorem ww {n : Bs} (h : okN n) : val n < Big := Aw (aG n) (Ar (by decide) h.1)
theorem gP {n : Nat} (h : n < Big) : okN (ae n) := ⟨eo.2 h, bH n⟩
theorem wL {r : Zs × Tp × Int} {n : Int} {ok : Nat → Prop} {w0 w : World} {own : List Ent} {fs : List Fact} {T : TypeId} (hr : r = ((false, []), aJ, n)) (hS : St ok w0 own fs w) :
  ∃ g : Rs, Ending.returned (tup [.agg #[.bool false, .string (S [])], .agg #[.slice none 0 0, .string (S []), .int .i64 0], .int .i64 n]) = Ending.returned (.tuple #[zV r.1, r.2.1.v (g.val r.2.1.vals.length), .int .i64 r.2.2]) ∧ g.cap = r.2.1.vals.length + g.sp.length ∧ St ok w0 [g.ent (am r.2.1.vals) T] [] w := by
 subst hr
 exact ⟨⟨none, 0, []⟩, rfl, rfl, (hS.nil T).sub (List.singleton_sublist.2 (by simp [Rs.ent, aJ])) (fun _ h => by cases h)⟩
theorem tM {t : Tp} {n : Bs} {a : Option Addr} {cap : Nat} {w : World} {ok : Nat → Prop} (hF1 : (Fact.sl a (am t.vals)).holds ok w) (hl : t.vals.length ≤ 100000) (hsd : t.seed.length ≤ 400000) (hT : Tab w) :
  Calls Tryz.prog 150 #[t.v (.slice a t.vals.length cap), .string (S n)] w fun e w' => ∃ g : Rs, e = .returned (.tuple #[zV (aV t n).1, (aV t n).2.1.v (g.val (aV t n).2.1.vals.length), .int .i64 (aV t n).2.2]) ∧ g.cap = (aV t n).2.1.vals.length + g.sp.length ∧ St (fun _ => True) w [g.ent (am (aV t n).2.1.vals) 22] [] w' := by
 refine En [Fact.sl a (am t.vals)] [(0, t.v (.slice a t.vals.length cap)), (1, .string (S n))] Tryz.func150 I Tryz.ntmps150 I (Ac I (Ac I (An _))) (Fc (af hF1) Fn) (Eq ?_)
 intro b2
 refine FS ?_
 intro b4
 refine FP ?_
 intro b5
 refine Ka I (Nt (Cq (Cs (Kq I (lda I I .tc u35 I ?_) ?_))))
 ·kernel_rfl
 refine Km I (Kc I (fun w hS => kF (t := t) (n := n) (by (exact hS.sl)) (by assumption)) (Ka I (Nt (Fz (fun hc21 => ?_) (fun hc21 => ?_)))))
 ·have hr : aV t n = ((false, []), aJ, bf t n) := by rw [aV, Ae (by simpa using hc21)]
  refine Cs (FY ?_); refine FJ ?_; refine Km I (FF ?_); refine FF ?_; refine le ?_; refine Xb ?_
  exact Iu
 ·have hrd : bf t n = 0 := by simpa using hc21
  obtain ⟨k1, k2, k3⟩ := kP hrd
  have hv1 := wu k2 k3
  have hvb := ww k2
  have hdb : addN n n = if val n + val n < Big then (ae (val n + val n), 0) else ([], 5) := by rw [addN, Ae ⟨k2, k2⟩]
  have hls : fT n [1] = (ae (val n - 1), 0) := by rw [dq k2 uv (by rw [j6]; exact hv1), j6]
  refine GG ?_; refine Kc I (fun w hS => rE (a := n) (b := n)) (Fs ?_); refine Cs (Km I (Kc I (fun w hS => (by have := fQ (w := w) (a := n) (b := [1]); rw [hls] at this; exact this)) (Fs ?_))); refine Cs (Km I (FM ?_)); refine Yi I (Nt (Ci I (fun hc38 => ?_) (fun hc38 => ?_)))
  ·have h2v : val n + val n < Big := by rcases Cc (val n + val n) Big with q | q; exact q; rw [hdb, Aa (by omega)] at hc38; cases hc38
   have hM1 : fT (addN n n).1 [1] = (ae (2 * val n - 1), 0) := by rw [hdb, Ae h2v, dq (gP h2v) uv (by rw [j6, ah]; omega), j6, ah]; congr 2; omega
   have hMB : 2 * val n - 1 < Big := by omega
   refine Cg (Km I (Kc I (fun w hS => (by have := fQ (w := w) (a := (addN n n).1) (b := [1]); rw [hM1] at this; exact this)) (Km I (Ye I (Ye I (Ka I (Nt (Cs ?_)))))))); obtain ⟨M, hMe⟩ : ∃ M, M = ae (2 * val n - 1) := ⟨_, rfl⟩; have hMok : okN M := by rw [hMe]; exact gP hMB
   have hMne : M ≠ [] := fun h => by have h1 := congrArg val (hMe.symm.trans h); rw [ah] at h1; simp [val] at h1; omega
   refine Ns 12 I (v' := .string (S M)) (by rw [hMe]) ?_; refine Kq I (lda I I .tc u35 I ?_) ?_
   ·kernel_rfl
   refine Km I (Kh I (Oc I I (nQ fun w hS => pX (t := t) (n := M) (by (exact hS.sl)) (by assumption) (by assumption) (by assumption) (by assumption) (by assumption) (by (exact bW hT hS)))) ?_); intro g57; refine WL.pu ?_; intro hg57; (try dsimp only at hg57 ⊢); refine HZ ?_; refine FP ?_; intro b14; refine Ka I (FF ?_); refine Ka I (Nt (Cq (Fz (fun hc62 => ?_) (fun hc62 => ?_))))
   ·have hr : aV t n = ((false, []), aJ, (aO t M).2.2) := by rw [aV, Aa (by simp [hrd]), Aa (by omega), ← hMe, Ae (by simpa using hc62)]
    refine Cs (FY ?_); refine FJ ?_; refine Km I (FF ?_); refine FF ?_; refine le ?_; refine Xb ?_; exact Iu
   ·have hd0 : (aO t M).2.2 = 0 := by simpa using hc62
    have hr : aV t n = ((eO (false, (aO t M).1) (false, ae (val n - 1))).1, (aO t M).2.1, 0) := by rw [aV, Aa (by simp [hrd]), Aa (by omega), ← hMe, Aa (by simp [hd0])]
    refine Ck (Xa (Cs (Km I (FY ?_)))); refine Km I (FY ?_); refine Kc I (fun w hS => jp (x := (false, (aO t M).1)) (y := (false, ae (val n - 1)))) (Km I (Ye I (Ye I (FS ?_)))); intro b15; refine FF ?_; refine Ka I (Nt (Cq (WC.free (K := [⟨some b15, [.bool (eO (false, (aO t M).1) (false, ae (val n - 1))).1.1, .string (S (eO (false, (aO t M).1) (false, ae (val n - 1))).1.2)], 68⟩, ⟨some b14, [g57.val (aO t M).2.1.vals.length, .string (S (aO t M).2.1.seed), .int .i64 (aO t M).2.1.at_], 35⟩]) (fs0 := []) [0, 2, 1] [3, 4] [0, 0, 1, 2, 2] (by kernel_rfl) (by kernel_rfl) I ?_))); refine Kj I (lda I I .tc u68 I ?_) ?_
    ·kernel_rfl
    refine WJ.st I I I I (ft I I I ?_ ?_ ?_) ?_
    ·kernel_rfl
    ·simp [Value.oneCell']
    ·rfl
    refine Kj I (lda I I .tc u35 I ?_) ?_
    ·kernel_rfl
    refine WJ.nil ?_; refine FF ?_; refine le ?_; exact Rn I (.agg I .tc u68 I (by kernel_rfl) (.agg I .tc u35 I (by kernel_rfl) (.tmp I .nil))) fun w' hS => ⟨g57, by rw [hr]; rfl, by rw [hr]; exact hg57, by rw [hr]; exact aq _ hS⟩
  ·have h2v : ¬ val n + val n < Big := fun q => by rw [hdb, Ae q] at hc38; exact hc38 rfl
   have hM2 : addN n (ae (val n - 1)) = if 2 * val n - 1 < Big then (ae (2 * val n - 1), 0) else ([], 5) := by rw [addN, Ae ⟨k2, gP (by omega)⟩, ah, show val n + (val n - 1) = 2 * val n - 1 by omega]
   refine Hd ?_; refine Kc I (fun w hS => rE (w := w) (a := n) (b := ae (val n - 1))) (Fs ?_); refine Fz (fun hc51 => ?_) (fun hc51 => ?_)
   ·have hr : aV t n = ((false, []), aJ, 5) := by rw [aV, Aa (by simp [hrd]), Ae (Nat.not_lt.1 fun q => by rw [hM2, Ae q] at hc51; exact hc51 rfl)]
    refine Cs (FY ?_); refine FJ ?_; refine FF ?_; refine FF ?_; refine le ?_; refine Xb ?_; exact Iu
   ·have hMB : 2 * val n - 1 < Big := by rcases Cc (2 * val n - 1) Big with q | q; exact q; rw [hM2, Aa (by omega)] at hc51; cases hc51
    rw [Ae hMB] at hM2; refine WC.set 12 I (v' := .string (S (ae (2 * val n - 1)))) (by rw [hM2]) ?_; refine Ck (Xa (Cs ?_)); obtain ⟨M, hMe⟩ : ∃ M, M = ae (2 * val n - 1) := ⟨_, rfl⟩; have hMok : okN M := by rw [hMe]; exact gP hMB
    have hMne : M ≠ [] := fun h => by have h1 := congrArg val (hMe.symm.trans h); rw [ah] at h1; simp [val] at h1; omega
    refine Ns 12 I (v' := .string (S M)) (by rw [hMe]) ?_; refine Kq I (lda I I .tc u35 I ?_) ?_
    ·kernel_rfl
    refine Km I (Kh I (Oc I I (nQ fun w hS => pX (t := t) (n := M) (by (exact hS.sl)) (by assumption) (by assumption) (by assumption) (by assumption) (by assumption) (by (exact bW hT hS)))) ?_); intro g57; refine WL.pu ?_; intro hg57; (try dsimp only at hg57 ⊢); refine HZ ?_; refine FP ?_; intro b14; refine Ka I (FF ?_); refine Ka I (Nt (Cq (Fz (fun hc62 => ?_) (fun hc62 => ?_))))
    ·have hr : aV t n = ((false, []), aJ, (aO t M).2.2) := by rw [aV, Aa (by simp [hrd]), Aa (by omega), ← hMe, Ae (by simpa using hc62)]
     refine Cs (FY ?_); refine FJ ?_; refine Km I (FF ?_); refine FF ?_; refine le ?_; refine Xb ?_; exact Iu
    ·have hd0 : (aO t M).2.2 = 0 := by simpa using hc62
     have hr : aV t n = ((eO (false, (aO t M).1) (false, ae (val n - 1))).1, (aO t M).2.1, 0) := by rw [aV, Aa (by simp [hrd]), Aa (by omega), ← hMe, Aa (by simp [hd0])]
     refine Ck (Xa (Cs (Km I (FY ?_)))); refine Km I (FY ?_); refine Kc I (fun w hS => jp (x := (false, (aO t M).1)) (y := (false, ae (val n - 1)))) (Km I (Ye I (Ye I (FS ?_)))); intro b15; refine FF ?_; refine Ka I (Nt (Cq (WC.free (K := [⟨some b15, [.bool (eO (false, (aO t M).1) (false, ae (val n - 1))).1.1, .string (S (eO (false, (aO t M).1) (false, ae (val n - 1))).1.2)], 68⟩, ⟨some b14, [g57.val (aO t M).2.1.vals.length, .string (S (aO t M).2.1.seed), .int .i64 (aO t M).2.1.at_], 35⟩]) (fs0 := []) [0, 2, 1] [3, 4] [0, 0, 1, 2, 2] (by kernel_rfl) (by kernel_rfl) I ?_))); refine Kj I (lda I I .tc u68 I ?_) ?_
     ·kernel_rfl
     refine WJ.st I I I I (ft I I I ?_ ?_ ?_) ?_
     ·kernel_rfl
     ·simp [Value.oneCell']
     ·rfl
     refine Kj I (lda I I .tc u35 I ?_) ?_
     ·kernel_rfl
     refine WJ.nil ?_; refine FF ?_; refine le ?_; exact Rn I (.agg I .tc u68 I (by kernel_rfl) (.agg I .tc u35 I (by kernel_rfl) (.tmp I .nil))) fun w' hS => ⟨g57, by rw [hr]; rfl, by rw [hr]; exact hg57, by rw [hr]; exact aq _ hS⟩
theorem lD (t : Tp) (n : Bs) : (aO t n).2.1.vals.length ≤ t.vals.length := by
 unfold aO; repeat' split
 all_goals simp [aJ]
theorem pm (t : Tp) (n : Bs) : (ci t n).2.1.vals.length ≤ t.vals.length := by
 unfold ci; split
 ·simp [aJ]
 ·exact lD t n
theorem mJ (t : Tp) (n : Bs) : (aO t n).2.1.seed.length ≤ t.seed.length := by
 unfold aO; repeat' split
 all_goals simp [aJ]
theorem nB {g : Gp} {x : Bs} {z : Zs} {w : World} (hm8 : g.1.length ≤ 8) :
  Cw 197 #[gV g, .string (S x), zV z] w (NE (dW g [x] [z])) := by
 refine En [] [(0, gV g), (1, .string (S x)), (2, zV z)] Tryz.func197 I Tryz.ntmps197 I (Ac I (Ac I (Ac I (An _)))) Fn (Eq ?_)
 intro b3
 refine Gc ?_
 intro b5
 refine Ka I (Ka I (Nt (Cs (Kq I (lda I I .tc u26 I ?_) ?_))))
 ·kernel_rfl
 refine Km I (Kh I (aN I I u33 (by kernel_rfl : _ = some (some (.string (S [])), 1, 16)) I (by simp only [List.map]; rfl) I I ?_ (by decide)) ?_)
 ·simp [Value.cells]
 intro b10
 refine Kq I (lda I I .tc u68 I ?_) ?_
 ·kernel_rfl
 refine Kh I (ew I I u31 (by kernel_rfl : _ = some (some (.agg #[.bool false, .string (S [])]), 2, 24)) (by kernel_rfl) (by decide) I I (by (simp [Value.cells]; done)) (by (exact bV _)) (by decide)) ?_
 intro b12
 refine Kc I (fun w hS => ic (g := g) (l := [x]) (es := [z]) (by (exact hS.os)) (by (exact hS.os)) (by (simp <;> omega)) (by (simp <;> omega)) (by assumption)) (Ye I (Ye I (Ka I (le ?_))))
 exact IF
theorem su {s : Bs} (h : s ≠ []) : (s.getD (s.length - 1) default).toNat % 2 = val s % 2 := by
 have hl := Di.2 h
 have := jr s 0 hl
 rw [C6, Dy, B9] at this
 omega
theorem vr {s : Bs} (h : okN s) : s = [1] ↔ val s = 1 := by
 rw [← gX, bT h]
theorem vt {s : Bs} (h : okN s) : s = [] ↔ val s = 0 := (aM h.2).symm
theorem mb {g : Gp} {w : World} :
  Cw 205 #[gV g] w (.int .i64 (aT g)) := by
 have hB8 : 8 < Big := Aw (by decide) mW
 refine En [] [(0, gV g)] Tryz.func205 I Tryz.ntmps205 I (Ac I (An _)) Fn (Eq ?_)
 intro b1
 refine Ka I (Nt (Cq (WC.joinP (σ := Unit) [(1, _)] (fun gq => [(14, .bool (decide (¬ (okN g.1 ∧ okN g.2))))]) (fun gq => True) (S1 I) ?_ ?_)))
 ·skip
  refine Cg (Gj ?_)
  refine Kc I (fun w hS => aY (a := g.1)) (Yt I (Km I (Nc 9 I (fun hg9 => ?_) (fun hg9 => ?_))))
  ·refine T4 I (Yp I (Nn (WX.joinP (()) (S1 I) (by refine (Sc ?_ (S0 _)) <;> ((refine ao rfl ?_; (try dsimp only); (simp [*]; done)))) ?_ (fun _ h => h)))); (try dsimp only); done
  ·refine Kf 1 I u26 I I I .tc u22 ?_; refine Kc I (fun w hS => aY (a := g.2)) (Yt I (Yq I (Nn (WX.joinP (()) (S1 I) (by refine (Sc ?_ (S0 _)) <;> ((refine ao rfl ?_; (try dsimp only); (simp [*]; done)))) ?_ (fun _ h => h))))); (try dsimp only); done
 ·rintro _ hmeet; (try dsimp only at hmeet ⊢)
  refine Ci I (fun hc14 => ?_) (fun hc14 => ?_)
  ·have hr : aT g = 3 := by rw [aT, Aa hc14]
   refine Cs (le ?_); refine Xb ?_; exact Io
  ·have hok : okN g.1 ∧ okN g.2 := by simpa using hc14
   have hb1 := a7 hok.1; have hb2 := a7 hok.2; have hv2 : val g.2 = 0 ↔ g.2 = [] := aM hok.2.2; have hl1 := hok.1.1; refine Ck (Xa (Cq (Cs (Gh ?_)))); refine Hh (fun hc17 => ?_) (fun hc17 => ?_)
   ·have hq : g.2 = [] := by simpa using hc17
    have hlp : val g.1 = 0 ∨ 0 < g.1.length := by
     by_cases h : g.1 = []
     ·exact .inl (by rw [h]; rfl)
     ·exact .inr (Di.2 h)
    have hlm : val g.1 = 0 ∨ (g.1.getD (g.1.length - 1) default).toNat % 2 = val g.1 % 2 := by
     by_cases h : g.1 = []
     ·exact .inl (by rw [h]; rfl)
     ·exact .inr (su h)
    refine Cq (WC.joinP (σ := Unit) [] (fun gq => [(37, .bool (decide (¬ (val g.1 % 2 = 1 ∧ 8 < val g.1))))]) (fun gq => True) (S0 _) ?_ ?_)
    ·skip
     refine Cg (Gj ?_); refine Ys I (Ns 20 I (v' := .bool (decide (val g.1 = 0))) (congrArg Value.bool (by exact Ak.2 (by rw [← vt hok.1]))) ?_); refine Km I (Nc 21 I (fun hg21 => ?_) (fun hg21 => ?_))
     ·refine T4 I (T4 I (Kt I (Yp I (Km I (T4 I (Yp I (Nn (WX.joinP (()) (S0 _) (by refine (Sc ?_ (S0 _)) <;> ((refine ao rfl ?_; (try dsimp only); (simp [*]; done)))) ?_ (fun _ h => h))))))))); (try dsimp only); done
     ·refine Gj ?_; refine Gj ?_; refine Yn I u22 (Kq I (aB I I I (by omega)) ?_); refine Kq I (ck I I I u22 ?_) ?_
      ·omega
      refine Kq I (qw I I I (by decide)) (Yi I (Ns 30 I (v' := .bool (decide (val g.1 % 2 = 0))) (congrArg Value.bool (by exact Ak.2 (by rw [A2]; omega))) ?_)); refine Yq I (Km I (Nc 32 I (fun hg32 => ?_) (fun hg32 => ?_)))
      ·refine T4 I (Yp I (Nn (WX.joinP (()) (S0 _) (by refine (Sc ?_ (S0 _)) <;> ((refine ao rfl ?_; (try dsimp only); (simp [*]; done)))) ?_ (fun _ h => h)))); (try dsimp only); done
      ·refine Kf 0 I u26 I I I .tc u22 ?_; refine Kc I (fun w hS => kc (a := g.1) (b := [8]) (by exact hok.1.2) (by decide) (by omega)) (Ym I (Ns 36 I (v' := .bool (decide (val g.1 ≤ 8))) (congrArg Value.bool (by exact Ak.2 (n7 _ _))) ?_)); refine Yq I (Nn (WX.joinP (()) (S0 _) (by refine (Sc ?_ (S0 _)) <;> ((refine ao rfl ?_; (try dsimp only); (exact Ak.2 (by omega))))) ?_ (fun _ h => h))); (try dsimp only); done
    ·rintro _ hmeet; (try dsimp only at hmeet ⊢); refine Ci I (fun hc37 => ?_) (fun hc37 => ?_)
     ·have hr : aT g = 13 := by rw [aT, Ae hok, Ae hq, Aa hc37]
      refine Cs (le ?_); refine Xb (Xb ?_); exact Io
     ·have hr : aT g = 0 := by rw [aT, Ae hok, Ae hq, Ae (by simpa using hc37)]
      refine Ck (Xa (Cs (le ?_))); refine Xb ?_; exact Io
   ·have hq : g.2 ≠ [] := by simpa using hc17
    have hqp : 0 < val g.2 := by rcases Bw (val g.2) with h | h; exact absurd (hv2.1 h) hq; exact h
    refine Ck (Xa (Cq (WC.joinP (σ := Unit) [(1, _)] (fun gq => [(50, .bool (decide (val g.1 ≤ 1 ∨ val g.2 < 2)))]) (fun gq => True) (S1 I) ?_ ?_)))
    ·skip
     refine Cg (Gj ?_); refine Ys I (Ns 40 I (v' := .bool (decide (val g.1 = 0))) (congrArg Value.bool (by exact Ak.2 (by rw [← vt hok.1]))) ?_); refine Km I (Nc 41 I (fun hg41 => ?_) (fun hg41 => ?_))
     ·refine T2 I (Kt I (Yp I (Km I (T2 I (Kt I (Yp I (Nn (WX.joinP (()) (S1 I) (by refine (Sc ?_ (S0 _)) <;> ((refine ao rfl ?_; (try dsimp only); (simp [*]; done)))) ?_ (fun _ h => h))))))))); (try dsimp only); done
     ·refine Gj ?_; refine Ys I (Ns 44 I (v' := .bool (decide (val g.1 = 1))) (congrArg Value.bool (by exact Ak.2 (by rw [← vr hok.1]))) ?_); refine Yq I (Km I (Nc 46 I (fun hg46 => ?_) (fun hg46 => ?_)))
      ·refine T2 I (Kt I (Yp I (Nn (WX.joinP (()) (S1 I) (by refine (Sc ?_ (S0 _)) <;> ((refine ao rfl ?_; (try dsimp only); (simp [*]; done)))) ?_ (fun _ h => h))))); (try dsimp only); done
      ·refine Kf 1 I u26 I I I .tc u22 ?_; refine Ys I (Ns 49 I (v' := .bool (decide (val g.2 = 1))) (congrArg Value.bool (by exact Ak.2 (by rw [← vr hok.2]))) ?_); refine Yq I (Nn (WX.joinP (()) (S1 I) (by refine (Sc ?_ (S0 _)) <;> ((refine ao rfl ?_; (try dsimp only); (exact Ak.2 (by omega))))) ?_ (fun _ h => h))); (try dsimp only); done
    ·rintro _ hmeet; (try dsimp only at hmeet ⊢); refine Ci I (fun hc50 => ?_) (fun hc50 => ?_)
     ·have hr : aT g = 13 := by rw [aT, Ae hok, Aa hq, Ae (by omega)]
      refine Cs (le ?_); refine Xb ?_; exact Io
     ·refine Ck (Xa (Cq (Cq (Cf [0, 1, 2, 3, 4, 5, 6, 7, 8, 9, 10] [] [0, 0, 1, 0, 0, 1, 0, 0, 0, 0, 0] (by kernel_rfl) (by kernel_rfl) I ?_)))); refine Kj I (Fa (q := 0) I I u26 I I) (Gg ?_); refine Jv I I I I I (fun ext => Oc I I (Kv fun w hS => qS (a := g.1) (b := [1]) (by show 1 ≤ val g.1; omega) (by omega) (by decide))) ?_; refine WJ.set 54 I (v' := .string (S (ae (val g.1 - 1)))) (congrArg (fun l => Value.string (S l)) (by rfl)) ?_; refine Kj I (Fa (q := 1) I I u26 I I) (Gg ?_); refine Jv I I I I I (fun ext => Oc I I (Kv fun w hS => nq (a := ae (val g.1 - 1)) (b := g.2) (by exact az (by omega)) (by exact hok.2) (by exact hq))) ?_; refine Gd ?_; refine WJ.nil ?_; refine Nt (Cs (Km I (Yr I (Ns 61 I (v' := .bool (decide ((val g.1 - 1) % val g.2 ≠ 0))) (congrArg Value.bool (by simp [bk, ah])) ?_)))); refine Nt (Ci I (fun hc61 => ?_) (fun hc61 => ?_))
      ·have hr : aT g = 13 := by rw [aT, Ae hok, Aa hq, Ae (Or.inr (Or.inr hc61))]
       refine Cs (le ?_); refine Xb ?_; exact Io
      ·have hr : aT g = 0 := by rw [aT, Ae hok, Aa hq, Aa (fun h => by rcases h with h | h | h; omega; omega; exact hc61 h)]
       refine Ck (Xa (Cs (le ?_))); exact Io
theorem tY {g : Gp} {x : Bs} {w : World} (hg : aT g = 0) (hx : okN x) (hm8 : g.1.length ≤ 8) :
  Cw 260 #[gV g, .string (S x)] w (.bool (decide (elG g x))) := by
 obtain ⟨hm, hqk, h2, _⟩ := db hg
 have hl := hm.1
 refine En [] [(0, gV g), (1, .string (S x))] Tryz.func260 I Tryz.ntmps260 I (Ac I (Ac I (An _))) Fn (Eq ?_)
 intro b2
 refine GI ?_; refine Gh ?_
 refine Hr (fun hc7 => ?_) (fun hc7 => ?_)
 ·have hq : g.2 ≠ [] := by simpa using hc7
  have hr := y2 (x := x) hg hq
  refine Cs (Kq I (lda I I .tc u26 I ?_) ?_)
  ·kernel_rfl
  refine Km I (Kc I (fun w hS => wX (g := g) (x := x) (by assumption)) (le ?_)); refine Xb ?_
  exact R1 I I (by simp only [hr]; rfl)
 ·have hq : g.2 = [] := by simpa using hc7
  have hr : elG g x ↔ x ≠ [] ∧ val x < val g.1 ∧ Nat.gcd (val x) (val g.1) = 1 := by
   rw [elG, Ae hq]; exact ⟨fun h => h.2, fun h => ⟨hx, h⟩⟩
  refine Ck (Xa (Cs (Km I (Yr I (Km I (Nc 13 I (fun hg13 => ?_) (fun hg13 => ?_)))))))
  ·refine Km I (Gj ?_); refine Kc I (fun w hS => kc (a := x) (b := g.1) (by exact hx.2) (by exact hm.2) (by have := hx.1; omega)) (Yl I (Ns 18 I (v' := .bool (decide (val x < val g.1))) (congrArg Value.bool (by exact Ak.2 (aR _ _))) ?_)); refine Yp I (Km I (Nc 20 I (fun hg20 => ?_) (fun hg20 => ?_)))
   ·refine Km I (Gj ?_); refine Kc I (fun w hS => rY (a := x) (b := g.1) (by exact hx) (by exact hm)) (Ys I (Ns 25 I (v' := .bool (decide (Nat.gcd (val x) (val g.1) = 1))) (congrArg Value.bool (by simp [gX])) ?_)); refine Yp I (le ?_); exact Iv
   ·refine T4 I (Kt I (Yq I (le ?_))); exact Iv
  ·refine T4 I (Kt I (G9 ?_)); refine le ?_; exact Iv
theorem qt {g : Gp} {x : Bs} {w : World} (hm8 : g.1.length ≤ 8) :
  Cw 206 #[gV g, .string (S x)] w (.bool (decide (aT g = 0 ∧ elG g x))) := by
 refine En [] [(0, gV g), (1, .string (S x))] Tryz.func206 I Tryz.ntmps206 I (Ac I (Ac I (An _))) Fn (Eq ?_)
 intro b2
 refine Ka I (Nt (Cs (Kq I (lda I I .tc u26 I ?_) ?_)))
 ·kernel_rfl
 refine Kc I (fun w hS => mb (g := g)) (Yi I (Km I (Nc 8 I (fun hg8 => ?_) (fun hg8 => ?_))))
 ·refine Km I (Kc I (fun w hS => aY (a := x)) (Yp I (Km I (Nc 12 I (fun hg12 => ?_) (fun hg12 => ?_)))))
  ·refine Kq I (lda I I .tc u26 I ?_) ?_
   ·kernel_rfl
   refine Km I (Kc I (fun w hS => tY (g := g) (x := x) (by assumption) (by assumption) (by assumption)) (Yp I (le ?_))); exact R1 I I (by (simp [*, tup, elG]; done))
  ·refine T2 I (Kt I (Yq I (le ?_))); exact R1 I I (by (simp [*, tup, elG]; done))
 ·refine T2 I (H4 ?_); refine le ?_
  exact R1 I I (by (simp [*, tup, elG]; done))
abbrev PK := Gp × Bs × Bs
abbrev pkV (k : PK) : Value := .agg #[.string (S k.1.1), .string (S k.1.2), .string (S k.2.1), .string (S k.2.2)]
abbrev Opn := Zs × Zs
abbrev opV (o : Opn) : Value := .agg #[.bool o.1.1, .string (S o.1.2), .bool o.2.1, .string (S o.2.2)]
def okK (k : PK) : Prop := okN k.1.1 ∧ okN k.1.2 ∧ okN k.2.1 ∧ okN k.2.2
instance (k : PK) : Decidable (okK k) := inferInstanceAs (Decidable (_ ∧ _))
def elK (k : PK) : Prop := elG k.1 k.2.1 ∧ elG k.1 k.2.2 ∧ k.2.1 ≠ ae 1 ∧ k.2.2 ≠ ae 1 ∧ k.2.1 ≠ k.2.2
instance (k : PK) : Decidable (elK k) := inferInstanceAs (Decidable (_ ∧ _))
def fh (k : PK) : Int := if ¬ okK k then 3 else if aT k.1 ≠ 0 then aT k.1 else if ¬ elK k then 13 else 0
def vH (k : PK) (o : Opn) : Bs × Int :=
 if ¬ (okK k ∧ okZ o.1 ∧ okZ o.2) then ([], 3) else if fh k ≠ 0 then ([], fh k) else dW k.1 [k.2.1, k.2.2] [o.1, o.2]
def jL (k : PK) : Int := if fh k ≠ 0 then fh k else if k.1.2 ≠ [] then 10 else 0
theorem oQ {k : PK} {w : World} :
  Cw 50 #[pkV k] w (.bool (decide (okK k))) := by
 refine En [] [(0, pkV k)] Tryz.func50 I Tryz.ntmps50 I (Ac I (An _)) Fn (Eq ?_)
 intro b1
 refine Ka I (Nt (Cs (Kq I (Fa (q := 0) I I u28 I I) (Gj ?_))))
 refine Kc I (fun w hS => ay (a := k.1.1)) (Km I (Nc 7 I (fun hg7 => ?_) (fun hg7 => ?_)))
 ·refine Kq I (Fa (q := 0) I I u28 I I) (Gh ?_)
  refine Kc I (fun w hS => ay (a := k.1.2)) (Yp I (Km I (Nc 13 I (fun hg13 => ?_) (fun hg13 => ?_))))
  ·refine Ic ?_; refine Kc I (fun w hS => ay (a := k.2.1)) (Yp I (Km I (Nc 18 I (fun hg18 => ?_) (fun hg18 => ?_))))
   ·refine Id ?_; refine Kc I (fun w hS => ay (a := k.2.2)) (Yp I (le ?_)); exact R1 I I (by simp [*, tup, okK])
   ·refine T2 I (Kt I (Yq I (le ?_))); exact R1 I I (by simp [*, tup, okK])
  ·refine T2 I (Kt I (H4 ?_)); refine le ?_; exact R1 I I (by simp [*, tup, okK])
 ·refine T4 I (H4 ?_); refine Km I (T2 I (Kt I (Yq I (le ?_))))
  exact R1 I I (by simp [*, tup, okK])
theorem jz {k : PK} {w : World} (hm8 : k.1.1.length ≤ 8) :
  Cw 21 #[pkV k] w (.int .i64 (fh k)) := by
 refine En [] [(0, pkV k)] Tryz.func21 I Tryz.ntmps21 I (Ac I (An _)) Fn (Eq ?_)
 intro b1
 refine Ka I (Nt (Cq (Cs (Kq I (lda I I .tc u28 I ?_) ?_))))
 ·kernel_rfl
 refine Kc I (fun w hS => oQ (k := k)) (Gs (fun hc7 => ?_) (fun hc7 => ?_))
 ·refine Cs (le ?_); refine Xb ?_
  exact R1 I I (by rw [fh, Ae (by simpa using hc7)]; rfl)
 ·have hok : okK k := by simpa using hc7
  refine Ck (Xa (Cq (Cs (Gq ?_))))
  refine Kc I (fun w hS => iN (g := k.1)) (Ka I (Nt (Fz (fun hc12 => ?_) (fun hc12 => ?_))))
  ·refine Cs (Km I (le ?_)); refine Xb ?_; exact R1 I I (by rw [fh, Aa (fun h => h hok), Ae (by simpa using hc12)]; rfl)
  ·have hg : aT k.1 = 0 := by simpa using hc12
   refine Ck (Xa (Cs (Kc I (fun w hS => fU (n := 1) (by omega)) (Ka I (Nt (Cq (WC.joinP (σ := Unit) [] (fun gq => [(47, .bool (decide (¬ (elG k.1 k.2.1 ∧ elG k.1 k.2.2 ∧ k.2.1 ≠ ae 1 ∧ k.2.2 ≠ ae 1 ∧ k.2.1 ≠ k.2.2))))]) (fun gq => True) (S0 _) ?_ ?_)))))))
   ·skip
    refine Cg (Gq ?_); refine Ic ?_; refine Kc I (fun w hS => gI (g := k.1) (x := k.2.1) (by assumption)) (Ns 19 I (v' := .bool (decide (elG k.1 k.2.1))) (congrArg Value.bool (by simp [hg])) ?_); refine Yt I (Km I (Nc 21 I (fun hg21 => ?_) (fun hg21 => ?_)))
    ·refine T4 I (T2 I (Yp I (Km I (T4 I (Yp I (Km I (T4 I (Yp I (Km I (T4 I (Kt I (Yp I (Nn (WX.joinP (()) (S0 _) (by refine (Sc ?_ (S0 _)) <;> ((refine ao rfl ?_; (try dsimp only); (simp [*]; done)))) ?_ (fun _ h => h))))))))))))))); (try dsimp only); done
    ·refine Gq ?_; refine Id ?_; refine Kc I (fun w hS => gI (g := k.1) (x := k.2.2) (by assumption)) (Ns 26 I (v' := .bool (decide (elG k.1 k.2.2))) (congrArg Value.bool (by simp [hg])) ?_); refine Yt I (Yq I (Km I (Nc 29 I (fun hg29 => ?_) (fun hg29 => ?_))))
     ·refine T4 I (Yp I (Km I (T4 I (Yp I (Km I (T4 I (Kt I (Yp I (Nn (WX.joinP (()) (S0 _) (by refine (Sc ?_ (S0 _)) <;> ((refine ao rfl ?_; (try dsimp only); (simp [*]; done)))) ?_ (fun _ h => h))))))))))); (try dsimp only); done
     ·refine Ic ?_; refine Km I (Ys I (Yq I (Km I (Nc 35 I (fun hg35 => ?_) (fun hg35 => ?_)))))
      ·refine T4 I (Yp I (Km I (T4 I (Kt I (Yp I (Nn (WX.joinP (()) (S0 _) (by refine (Sc ?_ (S0 _)) <;> ((refine ao rfl ?_; (try dsimp only); (simp [*]; done)))) ?_ (fun _ h => h)))))))); (try dsimp only); done
      ·refine Id ?_; refine Km I (Ys I (Yq I (Km I (Nc 41 I (fun hg41 => ?_) (fun hg41 => ?_)))))
       ·refine T4 I (Kt I (Yp I (Nn (WX.joinP (()) (S0 _) (by refine (Sc ?_ (S0 _)) <;> ((refine ao rfl ?_; (try dsimp only); (simp [*]; done)))) ?_ (fun _ h => h))))); (try dsimp only); done
       ·refine Kf 2 I u28 I I I .tc u22 ?_; refine Kf 3 I u28 I I I .tc u22 ?_; refine Ys I (Yq I (Nn (WX.joinP (()) (S0 _) (by refine (Sc ?_ (S0 _)) <;> ((refine ao rfl ?_; (try dsimp only); (simp [*]; done)))) ?_ (fun _ h => h)))); (try dsimp only); done
   ·rintro _ hmeet; (try dsimp only at hmeet ⊢); refine Ci I (fun hc47 => ?_) (fun hc47 => ?_)
    ·refine Cs (le ?_); refine Xb ?_; exact R1 I I (by rw [fh, Aa (fun h => h hok), Aa (fun h => h hg), Ae (show ¬ elK k from hc47)]; rfl)
    ·refine Ck (Xa (Cs (le ?_))); exact R1 I I (by rw [fh, Aa (fun h => h hok), Aa (fun h => h hg), Aa (show ¬ ¬ elK k from hc47)]; rfl)
theorem r9 {o : Opn} {w : World} :
  Cw 51 #[opV o] w (.bool (decide (okZ o.1 ∧ okZ o.2))) := by
 refine En [] [(0, opV o)] Tryz.func51 I Tryz.ntmps51 I (Ac I (An _)) Fn (Eq ?_)
 intro b1
 refine Ka I (Nt (Cs (Kq I (Fa (q := 0) I I u72 I I) (GF ?_))))
 refine Kc I (fun w hS => bR (x := o.1)) (Km I (Nc 6 I (fun hg6 => ?_) (fun hg6 => ?_)))
 ·refine Kq I (Fa (q := 2) I I u72 I I) (GF ?_)
  refine Kc I (fun w hS => bR (x := o.2)) (Yp I (le ?_))
  exact It
 ·refine T2 I (Kt I (Yq I (le ?_)))
  exact It
theorem vG {k : PK} {o : Opn} {w : World} (hm8 : k.1.1.length ≤ 8) :
  Cw 15 #[pkV k, opV o] w (NE (vH k o)) := by
 refine En [] [(0, pkV k), (1, opV o)] Tryz.func15 I Tryz.ntmps15 I (Ac I (Ac I (An _))) Fn (Eq ?_)
 intro b2
 refine Gc ?_
 intro b3
 refine Ka I (Ka I (Nt (Cq (WC.joinP (σ := Unit) [(2, _), (3, _)] (fun gq => [(14, .bool (decide (¬ (okK k ∧ okZ o.1 ∧ okZ o.2))))]) (fun gq => True) (S2 I I) ?_ ?_))))
 ·skip
  refine Cg (Kq I (lda I I .tc u28 I ?_) ?_)
  ·kernel_rfl
  refine Kc I (fun w hS => oQ (k := k)) (Yt I (Km I (Nc 10 I (fun hg10 => ?_) (fun hg10 => ?_))))
  ·refine T2 I (Kt I (Yp I (Nn (WX.joinP (()) (S2 I I) (by refine (Sc ?_ (S0 _)) <;> ((refine ao rfl ?_; (try dsimp only); (simp [*]; done)))) ?_ (fun _ h => h))))); (try dsimp only); done
  ·refine Kq I (lda I I .tc u72 I ?_) ?_
   ·kernel_rfl
   refine Kc I (fun w hS => r9 (o := o)) (Yt I (Yq I (Nn (WX.joinP (()) (S2 I I) (by refine (Sc ?_ (S0 _)) <;> ((refine ao rfl ?_; (try dsimp only); (simp [*]; done)))) ?_ (fun _ h => h))))); (try dsimp only); done
 ·rintro _ hmeet; (try dsimp only at hmeet ⊢)
  refine Ci I (fun hc14 => ?_) (fun hc14 => ?_)
  ·refine Cs (Ka I (le ?_)); refine Xb ?_; exact R2 I I I (by rw [vH, Ae hc14]; rfl)
  ·have hok : okK k ∧ okZ o.1 ∧ okZ o.2 := Ah.1 hc14; refine Ck (Xa (Cq (Cs (Kq I (lda I I .tc u28 I ?_) ?_))))
   ·kernel_rfl
   refine Kc I (fun w hS => jz (k := k) (by assumption)) (Ka I (Nt (Fz (fun hc18 => ?_) (fun hc18 => ?_))))
   ·refine H7 ?_; refine le ?_; refine Xb ?_; exact R2 I I I (by rw [vH, Aa (fun h => h hok), Ae (by simpa using hc18)]; rfl)
   ·have hk : fh k = 0 := by simpa using hc18
    refine Ck (Xa (Cs (Gq ?_))); refine Ic ?_; refine Id ?_; refine Kh I (aN I I u33 (by kernel_rfl : _ = some (some (.string (S [])), 1, 16)) I (by simp only [List.map]; rfl) I I ?_ (by decide)) ?_
    ·simp [Value.cells]
    intro b26; refine Kq I (Fa (q := 0) I I u72 I I) (Kq I (ldp I I .tc u68 I (by kernel_rfl : _ = some 2) (by rfl) (by rfl)) ?_); refine Kq I (Fa (q := 2) I I u72 I I) (Kq I (ldp I I .tc u68 I (by kernel_rfl : _ = some 2) (by rfl) (by rfl)) ?_); refine Kh I (ew I I u31 (by kernel_rfl : _ = some (some (.agg #[.bool false, .string (S [])]), 2, 24)) (by kernel_rfl) (by decide) I I (by (simp [Value.cells]; done)) (by (simp only [List.map, Value.cells, Cp, C3, A5, D7]; rfl)) (by decide)) ?_; intro b31; refine Kc I (fun w hS => ic (g := k.1) (l := [k.2.1, k.2.2]) (es := [o.1, o.2]) (by (exact hS.os)) (by (exact hS.os)) (by (simp <;> omega)) (by (simp <;> omega)) (by assumption)) (Ye I (Ye I (Ka I (Ka I (Nt (Ce ?_)))))); exact R2 I I I (by rw [vH, Aa (fun h => h hok), Aa (fun h => h hk)]; rfl)
theorem uS {k : PK} {w : World} (hm8 : k.1.1.length ≤ 8) :
  Cw 23 #[pkV k] w (.int .i64 (jL k)) := by
 refine En [] [(0, pkV k)] Tryz.func23 I Tryz.ntmps23 I (Ac I (An _)) Fn (Eq ?_)
 intro b1
 refine Ka I (Nt (Cq (Cs (Kq I (lda I I .tc u28 I ?_) ?_))))
 ·kernel_rfl
 refine Kc I (fun w hS => jz (k := k) (by assumption)) (Ka I (Nt (Fz (fun hc7 => ?_) (fun hc7 => ?_))))
 ·refine Cs (Km I (le ?_)); refine Xb ?_
  exact R1 I I (by rw [jL, Ae (by simpa using hc7)]; rfl)
 ·have hk : fh k = 0 := by simpa using hc7
  refine Ck (Xa (Cq (Cs (Kq I (Fa (q := 0) I I u28 I I) (Gh ?_)))))
  refine Hr (fun hc12 => ?_) (fun hc12 => ?_)
  ·refine Cs (le ?_); refine Xb ?_; exact R1 I I (by rw [jL, Aa (fun h => h hk), Ae (by simpa using hc12)]; rfl)
  ·refine Ck (Xa (Cs (le ?_))); exact R1 I I (by rw [jL, Aa (fun h => h hk), Aa (by simpa using hc12)]; rfl)
def ps12 : List Nat := [2, 3, 5, 7, 11, 13, 17, 19, 23, 29, 31, 37]
def tdiv (n : Nat) : List Nat → Option Bool
 | [] => none
 | p :: ps => if n % p = 0 then some (decide (n = p)) else tdiv n ps
def sqs (n : Nat) : Nat → Nat → Bool
 | 0, _ => false
 | s + 1, x => if x = n - 1 then true else sqs n s (x * x % n)
def E4 (n a s d : Nat) : Bool := decide (a ^ d % n = 1) || sqs n s (a ^ d % n)
def tzA : Nat → Nat → Nat
 | 0, _ => 0
 | f + 1, n => if n % 2 = 0 then tzA f (n / 2) + 1 else 0
def tz (n : Nat) : Nat := tzA 64 n
def isP (n : Nat) : Bool := if n < 2 then false else match tdiv n ps12 with
 | some b => b
 | none => ps12.all fun a => E4 n a (tz (n - 1)) ((n - 1) / 2 ^ tz (n - 1))
structure IK where
 name : Bs
 g : Gp
 z : Bs
 s : Bs
 r : List Bs
 u : Bs
 h : Bs
structure PR where
 ch : Bs
 sl : Bs
 mn : PK
 wh : PK
 sec : Bs
 attr : Bs
 han : Bs
 lo : Bs
 sz : Bs
 bl : Bs
 msk : Bs
abbrev DJ (p : PR) : List Bs := [p.ch, p.sl, p.sec, p.attr, p.han, p.lo, p.sz, p.bl, p.msk]
def okR (p : PR) : Prop := (∀ x ∈ DJ p, okN x) ∧ okK p.mn ∧ okK p.wh
instance (p : PR) : Decidable (okR p) := inferInstanceAs (Decidable (_ ∧ _))
def EJ (g : Gp) : Int :=
 if ¬ (okN g.1 ∧ okN g.2) then 3 else if 8 < g.1.length then 5 else if isP (val g.1) = false then 12 else if 8 < g.2.length then 13
 else if isP (val g.2) = false then 12 else if (val g.1 - 1) % val g.2 ≠ 0 then 13 else 0
def BH (g : Gp) (x : Bs) : Prop := j3 g x ∧ x ≠ ae 1
instance (g : Gp) (x : Bs) : Decidable (BH g x) := inferInstanceAs (Decidable (_ ∧ _))
def tv (g : Gp) (x : Bs) : Prop := oY g x ∧ x ≠ ae 1
instance (g : Gp) (x : Bs) : Decidable (tv g x) := inferInstanceAs (Decidable (_ ∧ _))
def Ff (p : PR) : Prop := EJ p.mn.1 = 0 ∧ BH p.mn.1 p.mn.2.1 ∧ BH p.mn.1 p.mn.2.2 ∧ tv p.wh.1 p.wh.2.1 ∧ tv p.wh.1 p.wh.2.2
instance (p : PR) : Decidable (Ff p) := inferInstanceAs (Decidable (_ ∧ _))
def E7 (p : PR) : Prop := (∀ x ∈ DJ p, 2 ≤ val x) ∧ 8 * val p.attr ≤ val p.mn.1.2 ∧ val p.ch ≤ val p.mn.1.2 ∧ val p.sec ≤ val p.mn.1.2
instance (p : PR) : Decidable (E7 p) := inferInstanceAs (Decidable (_ ∧ _))
def DP (c : UInt8) : Prop := (97 ≤ c.toNat ∧ c.toNat ≤ 122) ∨ (65 ≤ c.toNat ∧ c.toNat ≤ 90)
instance (c : UInt8) : Decidable (DP c) := inferInstanceAs (Decidable (_ ∨ _))
def EE (c : UInt8) : Prop := c.toNat = 95 ∨ (48 ≤ c.toNat ∧ c.toNat ≤ 57)
instance (c : UInt8) : Decidable (EE c) := inferInstanceAs (Decidable (_ ∨ _))
def nmB (i : Nat) (c : UInt8) : Prop := DP c ∨ (i ≠ 0 ∧ EE c)
instance (i : Nat) (c : UInt8) : Decidable (nmB i c) := inferInstanceAs (Decidable (_ ∨ _))
def DK (s : Bs) : Prop := (∀ i, i < s.length → nmB i (s.getD i default)) ∧ s ≠ [] ∧ s.length ≤ 32
instance (s : Bs) : Decidable (DK s) := inferInstanceAs (Decidable (_ ∧ _))
end Go.Proofs.YtchonigdjamphaaGreatDoor
namespace Go.Proofs.YtchonigdjamphaaGreatDoor
set_option linter.unusedSimpArgs false
set_option linter.unusedVariables false
open Go.ChangeShapes Go.WideShapes Go.ChangeAt Go.RowKit
section
variable {H : Type} {enc : TypeId × Value → H} {P : Program} {w : World} {spare : Nat → Bool} {held : Bool}
theorem lG {b i : Nat} {v : Value} (h : w.cell? ⟨b, i, none⟩ = some v) : ∃ cs T fz, w.heap[b]? = some (.cells cs T fz) ∧ cs[i]? = some v := by
 unfold World.cell? at h
 split at h
 ·rename_i cs T fz hb
  refine ⟨cs, T, fz, hb, ?_⟩
  simpa using h
 ·simp at h
theorem rS {a : Addr} {xs : List Value} (h : ∀ i v, xs[i]? = some v → w.cell? (a.add i) = some v) : (Fact.sl (some a) xs).holds (fun _ => True) w := by
 cases xs with
 | nil => exact .inl rfl
 | cons x xs =>
  right
  obtain ⟨b, off, spot⟩ := a
  have hspot : spot = none := by simpa [Addr.add] using World.cell?_spot (h 0 x rfl)
  subst hspot
  have h0 := h 0 x rfl
  rw [Addr.add_lit] at h0
  obtain ⟨cs, T, fz, hb, _⟩ := lG h0
  refine ⟨b, off, cs, T, fz, rfl, trivial, hb, fun i hi => ?_⟩
  have h1 := h i _ (Ad hi)
  rw [Addr.add_lit] at h1
  obtain ⟨cs', T', fz', hb', h2⟩ := lG h1
  rw [hb] at hb'; cases hb'
  rw [h2, Ad hi]
end
end Go.Proofs.YtchonigdjamphaaGreatDoor
namespace Go.Proofs.YtchonigdjamphaaGreatDoor
set_option linter.unusedSimpArgs false
set_option linter.unusedVariables false
open Go.ChangeShapes Go.WideShapes Go.ChangeAt Go.RowKit
structure Sl (α : Type) where
 a : Option Addr
 l : List α
 cap : Nat
abbrev Sl.val {α : Type} (s : Sl α) : Value := .slice s.a s.l.length s.cap
section
variable {H : Type} {enc : TypeId × Value → H} {P : Program} {w : World} {spare : Nat → Bool} {held : Bool} {fuel : Nat} {t e : TypeId} {cs : List Value} {x : DataW H × List MemPlace}
theorem op_int {k : IntKind} (ht : P.underlying t = some (.int k)) (h : DataW.trod enc P w 0 spare held fuel t cs = some x) : ∃ n : Int, cs = [.int k n] ∧ (Lit.int k n).wf = true := by
 cases fuel with
 | zero => simp [DataW.trod] at h
 | succ n =>
  simp only [DataW.trod, ht] at h
  split at h <;> simp_all
theorem op_bool (ht : P.underlying t = some .bool) (h : DataW.trod enc P w 0 spare held fuel t cs = some x) : ∃ b : Bool, cs = [.bool b] := by
 cases fuel with
 | zero => simp [DataW.trod] at h
 | succ n =>
  simp only [DataW.trod, ht] at h
  split at h <;> simp_all
theorem lm {α β : Type} {f : α → Option β} : ∀ {l : List α} {r : List β}, l.mapM f = some r → ∀ y ∈ l, ∃ z, f y = some z
 | [], _, _, y, hy => by cases hy
 | a :: l, r, h, y, hy => by
  rw [Ee] at h
  cases hf : f a with
  | none => simp [hf] at h
  | some z =>
   cases hr : l.mapM f with
   | none => simp [hf, hr] at h
   | some r' =>
    rcases Be.1 hy with rfl | hy
    ·exact ⟨z, hf⟩
    ·exact lm hr y hy
theorem op_struct {fs : Array Field} (ht : P.underlying t = some (.struct fs)) (h : DataW.trod enc P w 0 spare held fuel t cs = some x) :
  cs.length = P.cellsOf t ∧ ∃ m, ∀ f ∈ fs.toList, ∃ y, DataW.trod enc P w 0 spare held m f.type ((cs.drop f.offset).take (P.cellsOf f.type)) = some y := by
 cases fuel with
 | zero => simp [DataW.trod] at h
 | succ n =>
  simp only [DataW.trod, ht] at h
  split at h
  ·rename_i hl; refine ⟨hl, n, fun f hf => ?_⟩; obtain ⟨xs, hxs, _⟩ := C1.1 h; exact lm hxs f hf
  ·cases h
theorem op_array {n : Nat} (ht : P.underlying t = some (.array n e)) (h : DataW.trod enc P w 0 spare held fuel t cs = some x) :
  cs.length = P.cellsOf t ∧ ∃ m, ∀ i, i < n → ∃ y, DataW.trod enc P w 0 spare held m e ((cs.drop (i * P.cellsOf e)).take (P.cellsOf e)) = some y := by
 cases fuel with
 | zero => simp [DataW.trod] at h
 | succ q =>
  simp only [DataW.trod, ht] at h
  split at h
  ·rename_i hl; refine ⟨hl, q, fun i hi => ?_⟩; obtain ⟨xs, hxs, _⟩ := C1.1 h; exact lm hxs i (Ct.2 hi)
  ·cases h
theorem cells?_get {a : Addr} {n : Nat} {ys : List Value} (h : w.cells? 0 a n = some ys) : ys.length = n ∧ ∀ i v, ys[i]? = some v → w.cell? (a.add i) = some v := by
 unfold World.cells? at h
 simp only [Af, if_true] at h
 have key : ∀ (l : List Nat) (ys : List Value), (l.mapM fun i => w.cell? (a.add i)) = some ys → ys.length = l.length ∧ ∀ (i : Nat) (v : Value), ys[i]? = some v → ∃ j : Nat, l[i]? = some j ∧ w.cell? (a.add j) = some v := by
  intro l
  induction l with
  | nil => intro ys h; simp at h; subst h; simp
  | cons j l ih =>
   intro ys h; rw [Ee] at h
   cases hf : w.cell? (a.add j) with
   | none => simp [hf] at h
   | some z =>
    cases hr : l.mapM fun i => w.cell? (a.add i) with
    | none => simp [hf, hr] at h
    | some r' =>
     simp [hf, hr] at h; subst h; obtain ⟨h1, h2⟩ := ih r' hr; refine ⟨by simp [h1], fun i v hi => ?_⟩
     cases i with
     | zero => simp at hi; subst hi; exact ⟨j, rfl, hf⟩
     | succ i => simp at hi; simpa using h2 i v hi
 obtain ⟨h1, h2⟩ := key _ _ h
 refine ⟨by simpa using h1, fun i v hi => ?_⟩
 obtain ⟨j, hj, hc⟩ := h2 i v hi
 have : i < n := by
  have := (Ap.1 hj).1
  simpa using this
 rw [Db this] at hj
 cases hj
 exact hc
theorem BN {α : Type} (f : α → Value) (l : List α) : l.flatMap (fun x => [f x]) = l.map f := by induction l with | nil => rfl | cons x l ih => simp [ih]
theorem sl_map {α : Type} {a : Option Addr} {l : List α} {f : α → Value} {ok : Nat → Prop} (h : (Fact.sl a (l.flatMap fun x => [f x])).holds ok w) : (Fact.sl a (l.map f)).holds ok w := by rw [BN] at h; exact h
end
end Go.Proofs.YtchonigdjamphaaGreatDoor
namespace Go.Proofs.YtchonigdjamphaaGreatDoor
set_option linter.unusedSimpArgs false
set_option linter.unusedVariables false
open Go.ChangeShapes Go.WideShapes Go.ChangeAt Go.RowKit
def Wt {H : Type} (P : Program) (t : TypeId) (d : DataW H) : Prop := ∀ n ∈ d.weights P t, n ≤ 140737488351232
theorem wt_all {H : Type} {P : Program} {ts : List TypeId} {ds : List (DataW H)} (h : (DataW.weightsEach P ts ds).all (· ≤ reachBytes) = true) {j : Nat} {t : TypeId} {d : DataW H} (ht : ts[j]? = some t) (hd : ds[j]? = some d) : Wt P t d := fun n hn => by
 have := Bt.1 h n (DataW.weights_mem_each ht hd n hn)
 exact of_decide_eq_true this
theorem er {H : Type} {P : Program} {e : TypeId} {d : DataW H} {n : Nat} : ∀ {l : List (DataW H)}, d ∈ l → n ∈ d.weights P e → n ∈ DataW.weightsAll P e l
 | [], h, _ => by cases h
 | x :: l, h, hn => by
  simp only [DataW.weightsAll, Bx]
  rcases Be.1 h with rfl | h
  ·exact .inl hn
  ·exact .inr (er h hn)
theorem iU {α β : Type} {f : α → Option β} : ∀ {l : List α} {r : List β}, l.mapM f = some r → ∀ (i : Nat) y, l[i]? = some y → ∃ z, f y = some z ∧ r[i]? = some z
 | [], _, _, i, y, hy => by simp at hy
 | a :: l, r, h, i, y, hy => by
  rw [Ee] at h
  cases hf : f a with
  | none => simp [hf] at h
  | some z =>
   cases hr : l.mapM f with
   | none => simp [hf, hr] at h
   | some r' =>
    simp [hf, hr] at h; subst h
    cases i with
    | zero => simp at hy; subst hy; exact ⟨z, hf, rfl⟩
    | succ i => simp at hy; simpa using iU hr i y hy
theorem ll {α β : Type} {f : α → Option β} : ∀ {l : List α} {r : List β}, l.mapM f = some r → r.length = l.length
 | [], r, h => by simp at h; subst h; rfl
 | a :: l, r, h => by
  rw [Ee] at h
  cases hf : f a with
  | none => simp [hf] at h
  | some z =>
   cases hr : l.mapM f with
   | none => simp [hf, hr] at h
   | some r' => simp [hf, hr] at h; subst h; simp [ll hr]
section
variable {H : Type} {enc : TypeId × Value → H} {P : Program} {w : World} {spare : Nat → Bool} {held : Bool} {fuel : Nat} {t e : TypeId} {cs : List Value} {x : DataW H × List MemPlace}
theorem opz_str (ht : P.underlying t = some .string) (h : DataW.trod enc P w 0 spare held fuel t cs = some x) (hz : Wt P t x.1) : ∃ s : List UInt8, cs = [.string (S s)] ∧ s.length ≤ 140737488351232 := by
 cases fuel with
 | zero => simp [DataW.trod] at h
 | succ n =>
  simp only [DataW.trod, ht] at h
  split at h <;> simp_all
  rename_i s
  obtain ⟨h1, rfl⟩ := h
  refine ⟨s.data.toList, (oo s).symm, hz _ ?_⟩
  simp [DataW.weights]
theorem opz_struct {fs : Array Field} (ht : P.underlying t = some (.struct fs)) (h : DataW.trod enc P w 0 spare held fuel t cs = some x) (hz : Wt P t x.1) :
  cs.length = P.cellsOf t ∧ ∃ m, ∀ (j : Nat) f, fs.toList[j]? = some f → ∃ y, DataW.trod enc P w 0 spare held m f.type ((cs.drop f.offset).take (P.cellsOf f.type)) = some y ∧ Wt P f.type y.1 := by
 cases fuel with
 | zero => simp [DataW.trod] at h
 | succ n =>
  simp only [DataW.trod, ht] at h
  split at h
  ·rename_i hl; refine ⟨hl, n, fun j f hf => ?_⟩; obtain ⟨xs, hxs, rfl⟩ := C1.1 h; obtain ⟨z, h1, h2⟩ := iU hxs j f hf; refine ⟨z, h1, fun n hn => hz n ?_⟩; simp only [DataW.weights, ht]; exact DataW.weights_mem_each (j := j) (by rw [A4, hf]; rfl) (by rw [A4, h2]; rfl) n hn
  ·cases h
theorem opz_array {n : Nat} (ht : P.underlying t = some (.array n e)) (h : DataW.trod enc P w 0 spare held fuel t cs = some x) (hz : Wt P t x.1) :
  cs.length = P.cellsOf t ∧ ∃ m, ∀ i, i < n → ∃ y, DataW.trod enc P w 0 spare held m e ((cs.drop (i * P.cellsOf e)).take (P.cellsOf e)) = some y ∧ Wt P e y.1 := by
 cases fuel with
 | zero => simp [DataW.trod] at h
 | succ q =>
  simp only [DataW.trod, ht] at h
  split at h
  ·rename_i hl; refine ⟨hl, q, fun i hi => ?_⟩; obtain ⟨xs, hxs, rfl⟩ := C1.1 h; obtain ⟨z, h1, h2⟩ := iU hxs i i (Db hi); refine ⟨z, h1, fun n hn => hz n ?_⟩; simp only [DataW.weights, ht]; exact er (Ch.2 ⟨z, A9 h2, rfl⟩) hn
  ·cases h
theorem opz_slice {α : Type} [Inhabited α] {cells : α → List Value} {F : α → Prop} (sz bz : Nat) (hbz : P.bytesOf e = bz) (ht : P.underlying t = some (.slice e)) (hc : P.cellsOf e = sz) (hsz : ∀ a, (cells a).length = sz)
  (hel : ∀ m cs (y : DataW H × List MemPlace), DataW.trod enc P w 0 (fun _ => true) held m e cs = some y → Wt P e y.1 → ∃ a : α, cs = cells a ∧ F a) (h : DataW.trod enc P w 0 (fun _ => true) held fuel t cs = some x) (hz : Wt P t x.1) :
  ∃ s : Sl α, cs = [s.val] ∧ s.l.length ≤ s.cap ∧ s.cap * bz ≤ 140737488351232 ∧ (Fact.sl s.a (s.l.flatMap cells)).holds (fun _ => True) w ∧ ∀ y ∈ s.l, F y := by
 cases fuel with
 | zero => simp [DataW.trod] at h
 | succ n =>
  simp only [DataW.trod, ht] at h
  split at h
  all_goals (try (rename_i hq; cases hq; done))
  all_goals (try (cases h; done))
  all_goals (try (rename_i hq _; cases hq; done))
  ·exact ⟨⟨none, [], 0⟩, rfl, Ba _, by simp, .inl rfl, by simp⟩
  ·rename_i e' a len cap he
   cases he; split at h <;> try cases h
   rename_i hb; obtain ⟨elems, hm, h'⟩ := Option.bind_eq_some_iff.1 h; simp only [if_true] at h'; obtain ⟨rest, hr, rfl⟩ := C1.1 h'; have hzl : ∀ n ∈ (DataW.slice (elems.map (·.1)) (rest.map (·.1))).weights P t, n ≤ 140737488351232 := hz; simp only [DataW.weights, ht] at hzl
   have hcb : cap * bz ≤ 140737488351232 := by
    have h1 := hzl _ (List.mem_cons_self); have h2 := ll hm; have h3 := ll hr; simp only [Ag, List.length_range] at h1 h2 h3; rw [hbz, h2, h3, show len + (cap - len) = cap by omega] at h1; exact h1
   have hall : ∀ i, i < len → ∃ ys : List Value, w.cells? 0 (a.add (i * sz)) sz = some ys ∧ ∃ q : α, ys = cells q ∧ F q := fun i hi => by
    obtain ⟨z, hz1, hz2⟩ := iU hm i i (Db hi); obtain ⟨ys, h1, h2⟩ := Option.bind_eq_some_iff.1 hz1; rw [hc] at h1; obtain ⟨q, hq, hF⟩ := hel _ _ _ h2 (fun n hn => hzl n (Cu _ (D0 _ (er (Ch.2 ⟨z, A9 hz2, rfl⟩) hn)))); exact ⟨ys, h1, q, hq, hF⟩
   have hlist : ∀ k, k ≤ len → ∃ l : List α, l.length = k ∧ (∀ y ∈ l, F y) ∧ ∀ i, i < k → w.cells? 0 (a.add (i * sz)) sz = some (cells (l.getD i default)) := by
    intro k
    induction k with
    | zero => intro _; exact ⟨[], rfl, by simp, fun i hi => by omega⟩
    | succ k ih =>
     intro hk; obtain ⟨l, h1, h2, h3⟩ := ih (by omega); obtain ⟨ys, hy, q, rfl, hF⟩ := hall k (by omega); refine ⟨l ++ [q], by simp [h1], fun y hy' => ?_, fun i hi => ?_⟩
     ·rcases Bx.1 hy' with h | h
      ·exact h2 y h
      ·simp at h; subst h; exact hF
     ·by_cases hik : i = k
      ·subst hik; rw [hy]; simp [List.getD, ← h1]
      ·rw [h3 i (by omega)]; simp only [List.getD]; rw [B2 (by omega)]
   obtain ⟨l, h1, h2, h3⟩ := hlist len (Ba _); refine ⟨⟨some a, l, cap⟩, by simp [h1], by simp [h1]; exact hb.2.1, hcb, rS fun i v hv => ?_, h2⟩; have hlen := ag l cells sz hsz; have hi : i < l.length * sz := by rw [← hlen]; exact (Ap.1 hv).1
   have hs0 : 0 < sz := by rcases Bw sz with h0 | h0; · subst h0; omega
                           ·exact h0
   have hj : i / sz < l.length := Nat.div_lt_of_lt_mul (by rw [Ao]; exact hi); obtain ⟨_, h5⟩ := cells?_get (h3 (i / sz) (by omega))
   have h6 := h5 (i % sz) v (by
    rw [← io l cells sz hsz (i / sz) hj, Cv, Ae (Aq _ hs0), Cy, Ao, Bl]; exact hv)
   have e1 : (a.add (i / sz * sz)).add (i % sz) = a.add i := by
    have h7 : i / sz * sz + i % sz = i := by rw [Ao]; exact Bl i sz
    have h8 : ∀ p q : Nat, (a.add p).add q = a.add (p + q) := fun p q => by by_cases hp : p = 0 <;> by_cases hq : q = 0 <;> simp [Addr.add, hp, hq, Cl]
    rw [h8, h7]
   rw [e1] at h6; exact h6
end
end Go.Proofs.YtchonigdjamphaaGreatDoor
namespace Go.Proofs.YtchonigdjamphaaGreatDoor
open Go.RowKit
set_option linter.unusedSimpArgs false
set_option linter.unusedVariables false
set_option maxHeartbeats 600000
set_option maxRecDepth 20000
theorem zE {x y : List Zs} {a b : Option Addr} {c d : Nat} {w : World} {ok : Nat → Prop} (hF1 : (Fact.sl a (ar x)).holds ok w) (hF2 : (Fact.sl b (ar y)).holds ok w) (hx : x.length ≤ 100000) :
  Cw 46 #[.slice a x.length c, .slice b y.length d] w (.bool (decide (x = y))) := by
 refine En [Fact.sl a (ar x), Fact.sl b (ar y)] [(0, .slice a x.length c), (1, .slice b y.length d)] Tryz.func46 I Tryz.ntmps46 I (Ac I (Ac I (An _))) (Fc (af hF1) (Fc (af hF2) Fn)) (Cs (FM ?_)); refine Yo I u31 (Km I (Yo I u31 (Yj I (Nt (Ci I (fun hc10 => ?_) (fun hc10 => ?_))))))
 ·have hne : ¬ x = y := fun h => by rw [h] at hc10; omega
  refine Cs (le ?_); refine Xb ?_
  exact R1 I I (by rw [Aj hne]; rfl)
 ·have hle : x.length = y.length := by omega
  refine Ck (HJ ?_); refine Lp (σ := Nat) [(0, _), (1, _)] (fun gq => [(5, .int .i64 (gq : Int))]) (fun gq => gq ≤ x.length ∧ x.take gq = y.take gq) (fun gq => x.length - gq) (0) (S2 I I) (S1 I) (by (try dsimp only); exact ⟨Af _, by simp⟩) ?_
  rintro i hinv1; (try dsimp only at hinv1 ⊢)
  obtain ⟨hi, ht⟩ := hinv1
  refine Cq (Hd ?_); refine Yo I u31 (F7 (fun hc14 => ?_) (fun hc14 => ?_))
  ·have hil : i < x.length := by omega
   have hiy : i < y.length := by omega
   have hyt : ∀ l : List Zs, i < l.length → l.take (i + 1) = l.take i ++ [l.getD i default] := fun l h => by
    rw [Bv, Ad h, List.getD_eq_getElem?_getD, Ad h]; rfl
   refine Ck (Xa (Cq (Cb (Cq (Cf [0, 1, 2, 3, 4, 5, 6, 7, 8] [] [0, 0, 0, 0, 0, 0, 0, 0, 0] (by kernel_rfl) (by kernel_rfl) I ?_))))); refine Ft ?_; refine Fw ?_; refine FC ?_; refine Ft ?_; refine Fw ?_; refine FC ?_; refine Kj I (zS I I I (by kernel_rfl) (fun w => pb _ _ _ _ w)) ?_; refine WJ.nil ?_; refine Nt (Ci I (fun hc25 => ?_) (fun hc25 => ?_))
   ·have hne : ¬ x = y := fun h => by rw [h] at hc25; simp at hc25
    refine Cs (le ?_); refine FE ?_; exact R1 I I (by rw [Aj hne]; rfl)
   ·refine Ck (Xd (Xa (Cg (Km I (Kq I (Rz I I I (by omega)) (Ka I (Nn (Ly (i + 1) (by (try dsimp only); omega) (S2 I I) (by refine (Sc ?_ (S0 _)) <;> (rfl)) ?_ (fun _ h => h))))))))); (try dsimp only)
    exact ⟨hil, by
     rw [hyt x hil, hyt y hiy, ht]; congr 2; exact Prod.ext_iff.2 (by simpa using hc25)⟩
  ·refine Fq ?_; obtain rfl : i = x.length := by omega
   have heq : x = y := by rw [Ai, hle, Ai] at ht; exact ht
   refine Xa (Cs (le ?_)); exact R1 I I (by rw [Az heq]; rfl)
def CN (k : IK) (x : Bs) (ws : List Zs) (n : Nat) : Prop := (okN k.g.1 ∧ okN k.g.2 ∧ okN k.h ∧ okN x) ∧ ∀ z ∈ ws.take n, okZ z
instance (k : IK) (x : Bs) (ws : List Zs) (n : Nat) : Decidable (CN k x ws n) := inferInstanceAs (Decidable (_ ∧ _))
def no (n : Int) (l : List Bs) : Prop := ∀ x ∈ l, (x.length : Int) ≤ n
instance (n : Int) (l : List Bs) : Decidable (no n l) := inferInstanceAs (Decidable (∀ x ∈ l, _))
def Fi (k : IK) : Prop := no 8 [k.g.1, k.g.2] ∧ no 9 [k.z, k.s, k.u, k.h] ∧ (k.r.length : Int) ≤ 6 ∧ no 9 k.r ∧ (k.name.length : Int) ≤ 60
instance (k : IK) : Decidable (Fi k) := inferInstanceAs (Decidable (_ ∧ _))
def EX (l : List Bs) : Prop := ∀ x ∈ l, okN x
instance (l : List Bs) : Decidable (EX l) := inferInstanceAs (Decidable (∀ x ∈ l, _))
abbrev Un (m x : Nat) : Prop := Nat.gcd x m = 1
theorem zk {m x y : Nat} (h1 : Un m x) (h2 : Un m y) : Un m (x * y) := Nat.Coprime.mul_left h1 h2
theorem tw {m x : Nat} (n : Nat) (h : Un m x) : Un m (x ^ n) := Nat.Coprime.pow_left n h
theorem tx {m x : Nat} : Un m (x % m) ↔ Un m x := by unfold Un; rw [← Nat.gcd_rec, Nat.gcd_comm]
theorem nf {m x : Nat} (hm : 0 < m) (h : Un m x) : x * ei x m % m = 1 % m := by
 obtain ⟨y, hy⟩ := uX hm h; exact sw hm hy
theorem wy {m x : Nat} (hm : 0 < m) (h : Un m x) : Un m (ei x m) := ov (x := x) (by rw [Ao]; exact nf hm h)
theorem CP {m x : Nat} (hm : 0 < m) (h : Un m x) (e : Int) : Un m (if e < 0 then ei x m else x) := by split; exact wy hm h; exact h
theorem wx {m x : Nat} (hm : 0 < m) (h : Un m x) (e : Int) : Un m (aZ m x e) := tx.2 (tw _ (CP hm h e))
theorem rM {m a b c : Nat} (hm : 0 < m) (hc : Un m c) (h : a * c % m = b * c % m) : a % m = b % m := by
 have e := nf hm hc
 have h1 : ∀ x, x * c * ei c m % m = x % m := fun x => by rw [A1, ← mmr, e, mmr, As]
 rw [← h1 a, ← h1 b, ← mml (a * c), h, mml]
abbrev Or (m q x : Nat) : Prop := x ^ q % m = 1 % m
theorem AH {m q x y : Nat} (h1 : Or m q x) (h2 : Or m q y) : Or m q (x * y) := by
 unfold Or at *; rw [Nat.mul_pow, ← mml, h1, mml, Cn, h2]
theorem gh (m n : Nat) : (1 % m) ^ n % m = 1 % m := by rw [eu, Nat.one_pow]
theorem AG {m q x : Nat} (n : Nat) (h : Or m q x) : Or m q (x ^ n) := by
 unfold Or at *; rw [← Nat.pow_mul, Ao, Nat.pow_mul, ← eu, h, gh]
theorem ut {m q x : Nat} : Or m q (x % m) ↔ Or m q x := by unfold Or; rw [eu]
theorem AJ {m q x : Nat} (hm : 0 < m) (hu : Un m x) (h : Or m q x) : Or m q (ei x m) := by
 have e : (x * ei x m) ^ q % m = 1 % m := by rw [← eu, nf hm hu, gh]
 unfold Or at *; rw [Nat.mul_pow, ← mml, h, mml, Cn] at e; exact e
theorem xC {m q x : Nat} (hm : 0 < m) (hu : Un m x) (h : Or m q x) (e : Int) : Or m q (aZ m x e) := by
 refine ut.2 (AG _ ?_); split; exact AJ hm hu h; exact h
theorem eV {m x : Nat} : aZ m x 0 = 1 % m := by simp [aZ]
theorem k9 {m x n : Nat} : aZ m x (n : Int) = x ^ n % m := by rw [aZ, Aa (by omega), Bh]
theorem eW {m x : Nat} (e : Int) : aZ m x e % m = aZ m x e := by rw [aZ, Nat.mod_mod]
theorem ie {m x : Nat} (hm : 0 < m) (h : Un m x) (z : Int) (n : Nat) (hn : 0 ≤ z + n) : aZ m x z * x ^ n % m = x ^ (z + n).toNat % m := by
 rw [aZ, mml]
 by_cases hz : z < 0
 ·rw [Ae hz, show n = z.natAbs + (z + n).toNat by omega, Bj, ← A1, ← Nat.mul_pow, Ao (ei x m) x, ← mml, ← eu, nf hm h, gh, mml, Cn]
  congr 2; omega
 ·rw [Aa hz, ← Bj]; congr 2; omega
theorem ge {m x : Nat} (hm : 0 < m) (h : Un m x) (a b : Int) : aZ m x a * aZ m x b % m = aZ m x (a + b) := by
 rw [← eW (a + b)]
 refine rM hm (tw (a.natAbs + b.natAbs) h) ?_
 rw [ie hm h _ _ (by omega), Bj, show aZ m x a * aZ m x b * (x ^ a.natAbs * x ^ b.natAbs) = (aZ m x a * x ^ a.natAbs) * (aZ m x b * x ^ b.natAbs) by simp only [Ao, Bq, A1], ← mml, ie hm h _ _ (by omega), mml, ← mmr, ie hm h _ _ (by omega), mmr, ← Bj]
 congr 2; omega
theorem gM {m x : Nat} (hm : 0 < m) (h : Un m x) (a : Int) : ∀ n : Nat, aZ m x a ^ n % m = aZ m x (a * n)
 | 0 => by simp [eV]
 | n + 1 => by
  rw [A0, ← mml, gM hm h a n, ge hm h]; congr 1
  rw [Dd, Int.mul_add]; simp
theorem uo {m x : Nat} (hm : 0 < m) (h : Un m x) (a : Int) : ei (aZ m x a) m = aZ m x (-a) := by
 refine nR (by rw [← eW]; exact Aq _ hm) ?_
 rw [ge hm h, show a + -a = 0 by omega, eV]
theorem lc {m x : Nat} (hm : 0 < m) (h : Un m x) (a b : Int) : aZ m (aZ m x a) b = aZ m x (a * b) := by
 conv => lhs; rw [aZ]
 by_cases hb : b < 0
 ·rw [Ae hb, uo hm h, gM hm h]; congr 1
  rw [show (b.natAbs : Int) = -b by omega, Int.neg_mul_neg]
 ·rw [Aa hb, gM hm h]; congr 1
  rw [show (b.natAbs : Int) = b by omega]
abbrev trm (b : Bs) (v : Int) : Tm := (b, v, ofZ 1)
theorem uA {x : Zs} (h : okZ x) : ig (ofZ 1) x = (x, 0) := by
 obtain ⟨n, hn, rfl⟩ := xE.1 h
 have := kg (a := 1) (b := n) (by decide +kernel) hn (by rw [Int.one_mul]; exact hn)
 rw [Int.one_mul] at this; exact this
theorem gJ {g : Gp} {a : Bs} {x : Zs} (hg : aT g = 0) (ha : elG g a) (hx : okZ x) : dW g [a] [x] = (ae (aZ (val g.1) (val a) (zv x)), 0) := by
 have h0 : eF g [a] [x] (decide ([a].length = [x].length)) = 0 := by
  rw [eF, Aa (fun h => h (by simpa using ha.1)), Aa (fun h => h (by simpa using hx)), Aa (fun h => h hg), Aa (by simp), Aa (fun h => h (by simpa using ha))]
 rw [dW, Ae h0]; simp [aD, eW]
theorem lA {g : Gp} {x : Bs} (hg : aT g = 0) : 0 < val g.1 := by obtain ⟨_, _, h, _, _⟩ := db hg; omega
def saN : SA := ⟨[], [], [], none, 0, none, 0, none, 0⟩
abbrev SME (s : SA) (n : Int) : Value := .tuple #[saV s, .int .i64 n]
section
variable {ok : Nat → Prop} {w0 w : World} {own : List Ent} {fs : List Fact}
theorem St.osk (h : St ok w0 own fs w) {b : Nat} {xs : List Value} {T : TypeId} [hf : HasE own b xs T] : (Fact.sl (some ⟨b, 0, none⟩) xs).holds ok w := by
 obtain ⟨k, hk⟩ := hf.h.get
 have := h.own_ _ (A9 hk)
 exact .inr ⟨b, 0, xs.toArray, T, (0, 0), rfl, h.okn b this.1, this.2, fun i hi => by simp⟩
theorem zt {r : Sm × Int} {n : Int} (hr : r = (([], [], []), n)) (hS : St (fun b => ok b ∨ w0.heap.size ≤ b) w0 own fs w) :
  ∃ gx : SA, Ending.returned (tup [.agg #[.slice none 0 0, .slice none 0 0, .slice none 0 0], .int .i64 n]) = Ending.returned (SME gx r.2) ∧ (gx.core = r.1) ∧ Below w0.heap.size w0 w ∧ ∀ x ∈ (saF gx : List Fact), x.holds (fun b => ok b ∨ w0.heap.size ≤ b) w := by
 subst hr
 exact ⟨saN, rfl, rfl, hS.below, Fc av (Fc av (Fc av Fn))⟩
end
end Go.Proofs.YtchonigdjamphaaGreatDoor
