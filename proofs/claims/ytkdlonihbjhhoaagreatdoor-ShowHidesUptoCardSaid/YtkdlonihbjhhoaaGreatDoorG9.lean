/-
  Parts of the walk: Int1 Zed Keep Join Wrd Dig Art Ntl3 Ars.
-/
import Derived.Test.YtkdlonihbjhhoaaGreatDoorG8
import Derived.Laws.Bits64
namespace Go.Proofs.YtkdlonihbjhhoaaGreatDoor
open Go.RowKit
set_option linter.unusedSimpArgs false
set_option linter.unusedVariables false
set_option maxHeartbeats 600000
set_option maxRecDepth 20000
abbrev Zs := Bool × Bs
abbrev zV (x : Zs) : Value := .agg #[.bool x.1, .string (S x.2)]
def okZ (x : Zs) : Prop := okN x.2 ∧ ¬ (x.1 = true ∧ x.2 = [])
instance (x : Zs) : Decidable (okZ x) := inferInstanceAs (Decidable (_ ∧ _))
def mkZ (n : Bool) (a : Bs) : Zs := (n && !decide (a = []), a)
def fM (x : Zs) : Zs := if okZ x then mkZ (!x.1) x.2 else (false, [])
def dl (x y : Zs) : Zs × Int :=
 if okZ x ∧ okZ y then
  (if x.1 = y.1 then (mkZ x.1 (addN x.2 y.2).1, (addN x.2 y.2).2)
   else if val x.2 < val y.2 then (mkZ y.1 (ae (val y.2 - val x.2)), 0) else (mkZ x.1 (ae (val x.2 - val y.2)), 0))
 else ((false, []), 3)
def cG (x y : Zs) : Zs × Int := if okZ x ∧ okZ y then dl x (fM y) else ((false, []), 3)
abbrev ZE (r : Zs × Int) : Value := .tuple #[zV r.1, .int .i64 r.2]
theorem ge {n : Bool} {a : Bs} {w : World} :
  Cw 95 #[.bool n, .string (S a)] w (zV (mkZ n a)) := by
 refine En [] [(0, .bool n), (1, .string (S a))] Tryz.func95 I Tryz.ntmps95 I (Ac I (Ac I (An _))) Fn (Cs (AS ?_))
 intro b4
 refine Nt (FS ?_); refine Nc 6 I (fun hg6 => ?_) (fun hg6 => ?_)
 ·refine Km I (Yr I (Yp I (Km I (By ?_))))
  refine DQ ?_; refine Nt (Ce ?_)
  exact GI
 ·refine T2 I (Yq I (Km I (By ?_)))
  refine DQ ?_; refine Nt (Ce ?_)
  exact GI
theorem dF {n : Bool} {a : Bs} {w : World} :
  Cw 104 #[.bool n, .string (S a)] w (zV (mkZ n a)) := by
 refine En [] [(0, .bool n), (1, .string (S a))] Tryz.func104 I Tryz.ntmps104 I (Ac I (Ac I (An _))) Fn (Cs (AS ?_))
 intro b4
 refine Nt (FS ?_); refine Nc 6 I (fun hg6 => ?_) (fun hg6 => ?_)
 ·refine Km I (Yr I (Yp I (Km I (By ?_))))
  refine DQ ?_; refine Nt (Ce ?_)
  exact GI
 ·refine T2 I (Yq I (Km I (By ?_)))
  refine DQ ?_; refine Nt (Ce ?_)
  exact GI
theorem dY {x : Zs} {w : World} :
  Cw 68 #[zV x] w (.bool (decide (okZ x))) := by
 refine En [] [(0, zV x)] Tryz.func68 I Tryz.ntmps68 I (Ac I (An _)) Fn (DO ?_)
 intro b1
 refine Ka I (Nt (Cs (Ej ?_)))
 refine Kc I (fun w hS => ay (a := x.2)) (Km I (Nc 6 I (fun hg6 => ?_) (fun hg6 => ?_)))
 ·refine EJ ?_
  refine Km I (Nc 9 I (fun hg9 => ?_) (fun hg9 => ?_))
  ·refine Ej ?_; refine Ys I (Yp I (Yt I (Yp I (to ?_)))); exact GO
  ·refine T2 I (Kt I (Yq I (Yt I (Yp I (to ?_))))); exact GO
 ·refine T4 I (T4 I (Yq I (to ?_)))
  exact GO
theorem bu {x : Zs} {w : World} :
  Cw 25 #[zV x] w (.bool (decide (okZ x))) := by
 refine En [] [(0, zV x)] Tryz.func25 I Tryz.ntmps25 I (Ac I (An _)) Fn (DO ?_)
 intro b1
 refine Ka I (Nt (Cs (Ej ?_)))
 refine Kc I (fun w hS => ar (a := x.2)) (Km I (Nc 6 I (fun hg6 => ?_) (fun hg6 => ?_)))
 ·refine EJ ?_
  refine Km I (Nc 9 I (fun hg9 => ?_) (fun hg9 => ?_))
  ·refine Ej ?_; refine Ys I (Yp I (Yt I (Yp I (to ?_)))); exact GO
  ·refine T2 I (Kt I (Yq I (Yt I (Yp I (to ?_))))); exact GO
 ·refine T4 I (T4 I (Yq I (to ?_)))
  exact GO
theorem pH {x y : Zs} {w : World} :
  Cw 96 #[zV x, zV y] w (.bool (decide (okZ x ∧ okZ y))) := by
 refine En [] [(0, zV x), (1, zV y)] Tryz.func96 I Tryz.ntmps96 I (Ac I (Ac I (An _))) Fn (DO ?_)
 intro b2
 refine EW ?_
 intro b3
 refine Ka I (Nt (Cs (Kq I (lda I I .tc u37 I ?_) ?_)))
 ·kernel_rfl
 refine Kc I (fun w hS => dY (x := x)) (Km I (Nc 7 I (fun hg7 => ?_) (fun hg7 => ?_)))
 ·refine Kq I (lda I I .tc u37 I ?_) ?_
  ·kernel_rfl
  refine Kc I (fun w hS => dY (x := y)) (Yp I (to ?_))
  exact GF
 ·refine T2 I (Yq I (to ?_))
  exact GF
theorem s5 {x : Zs} {w : World} :
  Cw 99 #[zV x] w (zV (fM x)) := by
 refine En [] [(0, zV x)] Tryz.func99 I Tryz.ntmps99 I (Ac I (An _)) Fn (DO ?_)
 intro b1
 refine AS ?_
 intro b2
 refine Nt (Cq (Cs (Kq I (lda I I .tc u37 I ?_) ?_)))
 ·kernel_rfl
 refine Kc I (fun w hS => dY (x := x)) (Eq (fun hc5 => ?_) (fun hc5 => ?_))
 ·have hr : fM x = (false, []) := by rw [fM, Aa (by simpa using hc5)]
  refine Cs (By ?_)
  refine DQ ?_; refine Nt (Ce (Xb ?_))
  exact GA
 ·have hr : fM x = mkZ (!x.1) x.2 := by rw [fM, Ab (by simpa using hc5)]
  refine Ck (Xa (Cs (EJ ?_)))
  refine Yt I (Ej ?_)
  refine Kc I (fun w hS => ge (n := !x.1) (a := x.2)) (DQ ?_); refine Nt (Ce ?_)
  exact GA
theorem ww {x : Zs} {w : World} :
  Cw 65 #[zV x] w (zV (fM x)) := by
 refine En [] [(0, zV x)] Tryz.func65 I Tryz.ntmps65 I (Ac I (An _)) Fn (DO ?_)
 intro b1
 refine AS ?_
 intro b2
 refine Nt (Cq (Cs (Kq I (lda I I .tc u37 I ?_) ?_)))
 ·kernel_rfl
 refine Kc I (fun w hS => bu (x := x)) (Eq (fun hc5 => ?_) (fun hc5 => ?_))
 ·have hr : fM x = (false, []) := by rw [fM, Aa (by simpa using hc5)]
  refine Cs (By ?_)
  refine DQ ?_; refine Nt (Ce (Xb ?_))
  exact GA
 ·have hr : fM x = mkZ (!x.1) x.2 := by rw [fM, Ab (by simpa using hc5)]
  refine Ck (Xa (Cs (EJ ?_)))
  refine Yt I (Ej ?_)
  refine Kc I (fun w hS => dF (n := !x.1) (a := x.2)) (DQ ?_); refine Nt (Ce ?_)
  exact GA
theorem im {a b : Bs} (ha : okN a) (hb : okN b) (h : val b ≤ val a) : eP a b = (ae (val a - val b), 0) := by rw [eP, Ab ⟨ha, hb⟩, Aa (by omega)]
theorem aB {a b : Bs} (ha : okN a) (hb : okN b) : eh a b = dm (val a) (val b) := by rw [eh, Ab ⟨ha, hb⟩]
theorem s7 {x y : Zs} {w : World} :
  Cw 98 #[zV x, zV y] w (ZE (dl x y)) := by
 refine En [] [(0, zV x), (1, zV y)] Tryz.func98 I Tryz.ntmps98 I (Ac I (Ac I (An _))) Fn (DO ?_)
 intro b2
 refine EW ?_
 intro b3
 refine AS ?_
 intro b4
 refine Ka I (Nt (Cq (Cs (Kq I (lda I I .tc u37 I ?_) ?_))))
 ·kernel_rfl
 refine Kq I (lda I I .tc u37 I ?_) ?_
 ·kernel_rfl
 refine Kc I (fun w hS => pH (x := x) (y := y)) (Eq (fun hc13 => ?_) (fun hc13 => ?_))
 ·have hr : dl x y = ((false, []), 3) := by rw [dl, Aa (by simpa using hc13)]
  refine Cs (By ?_)
  refine DQ ?_; refine ne ?_
  exact Gy
 ·have hok : okZ x ∧ okZ y := by simpa using hc13
  have ho1 := hok.1.1; have ho2 := hok.2.1
  refine Gg ?_; refine EJ ?_
  refine EJ ?_
  refine Kq I (tV I I I u4) (Nt (Ci I (fun hc19 => ?_) (fun hc19 => ?_)))
  ·have hs : x.1 = y.1 := by simpa using hc19
   have hr : dl x y = (mkZ x.1 (addN x.2 y.2).1, (addN x.2 y.2).2) := by rw [dl, Ab hok, Ab hs]
   refine Cs (Ej ?_); refine Ej ?_; refine Kc I (fun w hS => yy (a := x.2) (b := y.2)) (BY ?_); refine Cs (EJ ?_); refine Km I (Kc I (fun w hS => ge (n := x.1) (a := (addN x.2 y.2).1)) (Km I (DQ ?_))); refine ne ?_; exact Gy
  ·have hs : ¬ x.1 = y.1 := by simpa using hc19
   refine Gg ?_; refine Ej ?_; refine Ej ?_; refine Kc I (fun w hS => el (a := x.2) (b := y.2)) (Ew (fun hc38 => ?_) (fun hc38 => ?_))
   ·rw [aB ho1 ho2, ax] at hc38; have hr : dl x y = (mkZ y.1 (ae (val y.2 - val x.2)), 0) := by rw [dl, Ab hok, Aa hs, Ab hc38]
    refine Cg (Kq I (lda I I .tc u37 I ?_) ?_)
    ·kernel_rfl
    refine Kq I (lda I I .tc u37 I ?_) ?_
    ·kernel_rfl
    refine DQ ?_; refine DQ ?_; refine Nt (Cs (Ej ?_)); refine Ej ?_; refine Kc I (fun w hS => pU) (BY ?_); refine Cs (EJ ?_); refine Km I (Kc I (fun w hS => ge) (Km I (DQ ?_))); refine to ?_; exact Rn I (.agg I .tc u37 I (by kernel_rfl) (.tmp I .nil)) fun w' hS => ⟨by rw [hr]; (rw [im ho2 ho1 (by omega)]; rfl), hS.below⟩
   ·have hge : val y.2 ≤ val x.2 := Nat.not_lt.1 fun h => by rw [aB ho1 ho2] at hc38; have := (ax _ _).2 h; omega
    have hr : dl x y = (mkZ x.1 (ae (val x.2 - val y.2)), 0) := by rw [dl, Ab hok, Aa hs, Aa (by omega)]
    refine Ck (Xa (Cs (Ej ?_))); refine Ej ?_; refine Kc I (fun w hS => pU) (BY ?_); refine Cs (EJ ?_); refine Km I (Kc I (fun w hS => ge) (Km I (DQ ?_))); refine to ?_; exact Rn I (.agg I .tc u37 I (by kernel_rfl) (.tmp I .nil)) fun w' hS => ⟨by rw [hr]; (rw [im ho1 ho2 hge]; rfl), hS.below⟩
theorem mE {x y : Zs} {w : World} :
  Cw 47 #[zV x, zV y] w (ZE (cG x y)) := by
 refine En [] [(0, zV x), (1, zV y)] Tryz.func47 I Tryz.ntmps47 I (Ac I (Ac I (An _))) Fn (DO ?_)
 intro b2
 refine EW ?_
 intro b3
 refine AS ?_
 intro b4
 refine Ka I (Nt (Cq (Cs (Kq I (lda I I .tc u37 I ?_) ?_))))
 ·kernel_rfl
 refine Kq I (lda I I .tc u37 I ?_) ?_
 ·kernel_rfl
 refine Kc I (fun w hS => pH (x := x) (y := y)) (Eq (fun hc9 => ?_) (fun hc9 => ?_))
 ·have hr : cG x y = ((false, []), 3) := by rw [cG, Aa (by simpa using hc9)]
  refine Cs (By ?_)
  refine DQ ?_; refine ne ?_
  exact Gy
 ·have hr : cG x y = dl x (fM y) := by rw [cG, Ab (by simpa using hc9)]
  refine Ck (Xa (Cq (Cf [1, 2, 0, 3, 4, 5] [6, 7] [0, 0, 1, 1, 0, 0, 2, 2] (by kernel_rfl) (by kernel_rfl) I ?_)))
  refine Kj I (lda I I .tc u37 I ?_) ?_
  ·kernel_rfl
  refine Jv I I I I I (fun ext => Oc I I (Kv fun w hS => s5 (x := y))) ?_
  refine Kj I (lda I I .tc u37 I ?_) ?_
  ·kernel_rfl
  refine Jv I I I I I (fun ext => Oc I I (Kv fun w hS => s7 (x := x) (y := fM y))) ?_
  refine F3 ?_; refine F3 ?_
  refine WJ.nil ?_
  refine DQ ?_; refine to ?_
  exact Gy
theorem p9 {x y : Zs} {w : World} :
  Cw 105 #[zV x, zV y] w (ZE (dl x y)) := by
 refine En [] [(0, zV x), (1, zV y)] Tryz.func105 I Tryz.ntmps105 I (Ac I (Ac I (An _))) Fn (DO ?_)
 intro b2
 refine EW ?_
 intro b3
 refine AS ?_
 intro b4
 refine Ka I (Nt (Cq (Cs (Kq I (lda I I .tc u37 I ?_) ?_))))
 ·kernel_rfl
 refine Gf ?_; refine Nc 15 I (fun hg15 => ?_) (fun hg15 => ?_)
 ·refine T2 I (Kt I (Yp I (Nt (Cd I (fun _ => ?_) (fun h => by cases h)))))
  refine Cs (By ?_)
  refine DQ ?_; refine ne ?_
  exact Rn I (.agg I .tc u37 I (by kernel_rfl) (.tmp I .nil)) fun w' hS => ⟨by rw [show dl x y = ((false, []), 3) from by rw [dl, Aa (by simp_all)]]; rfl, hS.below⟩
 ·refine Kq I (lda I I .tc u37 I ?_) ?_
  ·kernel_rfl
  refine Kc I (fun w hS => bu (x := y)) (EP (fun hc19 => ?_) (fun hc19 => ?_))
  ·refine Cs (By ?_); refine DQ ?_; refine ne ?_; exact Rn I (.agg I .tc u37 I (by kernel_rfl) (.tmp I .nil)) fun w' hS => ⟨by rw [show dl x y = ((false, []), 3) from by rw [dl, Aa (by simp_all)]]; rfl, hS.below⟩
  ·have hok : okZ x ∧ okZ y := by simp_all
   have ho1 := hok.1.1; have ho2 := hok.2.1; refine Gg ?_; refine EJ ?_; refine EJ ?_; refine Kq I (tV I I I u4) (Nt (Ci I (fun hc25 => ?_) (fun hc25 => ?_)))
   ·have hs : x.1 = y.1 := by simpa using hc25
    have hr : dl x y = (mkZ x.1 (addN x.2 y.2).1, (addN x.2 y.2).2) := by rw [dl, Ab hok, Ab hs]
    refine Cs (Ej ?_); refine Ej ?_; refine Kc I (fun w hS => tW (a := x.2) (b := y.2)) (BY ?_); refine Cs (EJ ?_); refine Km I (Kc I (fun w hS => dF (n := x.1) (a := (addN x.2 y.2).1)) (Km I (DQ ?_))); refine ne ?_; exact Gy
   ·have hs : ¬ x.1 = y.1 := by simpa using hc25
    refine Gg ?_; refine Ej ?_; refine Ej ?_; refine Kc I (fun w hS => m6 (a := x.2) (b := y.2)) (E7 (fun hc44 => ?_) (fun hc44 => ?_))
    ·have hge : val y.2 ≤ val x.2 := Nat.not_lt.1 fun h => by rw [aB ho1 ho2] at hc44; have := (ax _ _).2 h; omega
     have hr : dl x y = (mkZ x.1 (ae (val x.2 - val y.2)), 0) := by rw [dl, Ab hok, Aa hs, Aa (by omega)]
     refine Cs (Ej ?_); refine Ej ?_; refine Kc I (fun w hS => o7 (a := x.2) (b := y.2)) (BY ?_); refine Cs (EJ ?_); refine Km I (Kc I (fun w hS => dF (n := x.1) (a := (eP x.2 y.2).1)) (DQ ?_)); refine ne ?_; exact Rn I (.agg I .tc u37 I (by kernel_rfl) (.tmp I .nil)) fun w' hS => ⟨by rw [hr, im ho1 ho2 hge]; rfl, hS.below⟩
    ·rw [aB ho1 ho2, ax] at hc44; have hr : dl x y = (mkZ y.1 (ae (val y.2 - val x.2)), 0) := by rw [dl, Ab hok, Aa hs, Ab hc44]
     refine Ck (Xa (Cs (Ej ?_))); refine Ej ?_; refine Kc I (fun w hS => o7 (a := y.2) (b := x.2)) (BY ?_); refine Cs (EJ ?_); refine Km I (Kc I (fun w hS => dF (n := y.1) (a := (eP y.2 x.2).1)) (DQ ?_)); refine to ?_; exact Rn I (.agg I .tc u37 I (by kernel_rfl) (.tmp I .nil)) fun w' hS => ⟨by rw [hr, im ho2 ho1 (by omega)]; rfl, hS.below⟩
theorem wu {x y : Zs} {w : World} :
  Cw 54 #[zV x, zV y] w (ZE (cG x y)) := by
 refine En [] [(0, zV x), (1, zV y)] Tryz.func54 I Tryz.ntmps54 I (Ac I (Ac I (An _))) Fn (DO ?_)
 intro b2
 refine EW ?_
 intro b3
 refine AS ?_
 intro b4
 refine Ka I (Nt (Cq (Cs (Kq I (lda I I .tc u37 I ?_) ?_))))
 ·kernel_rfl
 refine Gf ?_; refine Nc 9 I (fun hg9 => ?_) (fun hg9 => ?_)
 ·refine T2 I (Kt I (Yp I (Nt (Cd I (fun _ => ?_) (fun h => by cases h)))))
  refine Cs (By ?_)
  refine DQ ?_; refine ne ?_
  exact Rn I (.agg I .tc u37 I (by kernel_rfl) (.tmp I .nil)) fun w' hS => ⟨by rw [show cG x y = ((false, []), 3) from by rw [cG, Aa (by simp_all)]]; rfl, hS.below⟩
 ·refine Kq I (lda I I .tc u37 I ?_) ?_
  ·kernel_rfl
  refine Kc I (fun w hS => bu (x := y)) (EP (fun hc13 => ?_) (fun hc13 => ?_))
  ·refine Cs (By ?_); refine DQ ?_; refine ne ?_; exact Rn I (.agg I .tc u37 I (by kernel_rfl) (.tmp I .nil)) fun w' hS => ⟨by rw [show cG x y = ((false, []), 3) from by rw [cG, Aa (by simp_all)]]; rfl, hS.below⟩
  ·have hr : cG x y = dl x (fM y) := by rw [cG, Ab (by simp_all)]
   refine Ck (Xa (Cq (Cf [1, 2, 0, 3, 4, 5] [6, 7] [0, 0, 1, 1, 0, 0, 2, 2] (by kernel_rfl) (by kernel_rfl) I ?_))); refine Kj I (lda I I .tc u37 I ?_) ?_
   ·kernel_rfl
   refine Jv I I I I I (fun ext => Oc I I (Kv fun w hS => ww (x := y))) ?_; refine Kj I (lda I I .tc u37 I ?_) ?_
   ·kernel_rfl
   refine Jv I I I I I (fun ext => Oc I I (Kv fun w hS => p9 (x := x) (y := fM y))) ?_; refine F3 ?_; refine F3 ?_; refine WJ.nil ?_; refine DQ ?_; refine to ?_; exact Gy
theorem ir {a : Bs} {w : World} :
  Cw 248 #[.string (S a)] w (zV (if okN a then (false, a) else (false, []))) := by
 refine En [] [(0, .string (S a))] Tryz.func248 I Tryz.ntmps248 I (Ac I (An _)) Fn (Cs (AS ?_))
 intro b2
 refine Nt (Cq (Cs (Km I (Gj ?_)))); refine Eq (fun hc5 => ?_) (fun hc5 => ?_)
 ·refine Cs (By ?_)
  refine DQ ?_; refine Nt (Ce (Xb ?_))
  exact Rn I (.agg I .tc u37 I (by kernel_rfl) .nil) fun w' hS => ⟨by rw [Aa (by simpa using hc5)]; rfl, hS.below⟩
 ·refine FN ?_; refine Kc I (fun w hS => dF (n := false) (a := a)) (DQ ?_); refine Nt (Ce ?_)
  exact Rn I (.agg I .tc u37 I (by kernel_rfl) .nil) fun w' hS => ⟨by rw [Ab (by simpa using hc5)]; rfl, hS.below⟩
def ofZ (n : Int) : Zs := mkZ (decide (n < 0)) (ae n.natAbs)
theorem kf {n : Int} {w : World} (h0 : -9223372036854775808 ≤ n) (h1 : n ≤ 9223372036854775807) :
  Cw 44 #[.int .i64 n] w (zV (ofZ n)) := by
 refine En [] [(0, .int .i64 n)] Tryz.func44 I Tryz.ntmps44 I (Ac I (An _)) Fn (Cs (AS ?_))
 intro b2
 refine Nt (Cq (Cs (Km I (Ew (fun hc4 => ?_) (fun hc4 => ?_)))))
 ·have hr : ofZ n = mkZ true (ae n.natAbs) := by rw [ofZ, Am hc4]
  refine Cs (Km I (Kq I (aR I I u2 u76) (Kq I (tP I I) (Ns 7 I (v' := .int .u64 ((n.natAbs : Nat) : Int)) (by exact congrArg (Value.int .u64) (by rw [IntKind.wrap_u64, IntKind.wrap_u64]; omega)) ?_))))
  refine Kc I (fun w hS => f8 (n := n.natAbs) (by omega)) (Kc I (fun w hS => ge (n := true) (a := ae n.natAbs)) (DQ ?_)); refine Nt (Ce (Xb ?_))
  exact GA
 ·have hr : ofZ n = mkZ false (ae n.natAbs) := by rw [ofZ, Aq (by omega)]
  refine FN ?_; refine Kq I (aR I I u2 u76) (Ns 11 I (v' := .int .u64 ((n.natAbs : Nat) : Int)) (by exact congrArg (Value.int .u64) (by rw [IntKind.wrap_u64]; omega)) ?_)
  refine Kc I (fun w hS => f8 (n := n.natAbs) (by omega)) (Kc I (fun w hS => ge (n := false) (a := ae n.natAbs)) (DQ ?_)); refine Nt (Ce ?_)
  exact GA
theorem aq {n : Nat} (h : n < Big) : okN (ae n) := ⟨dC.2 h, bn n⟩
theorem aK {s : Bs} (h : okN s) : val s < Big := Ay (aL s) (A2 (by decide) h.1)
theorem aT {n : Nat} : ae n = [] ↔ n = 0 := ⟨fun h => by rw [← af n, h]; rfl, fun h => by rw [h]; exact ei⟩
theorem fe {a b : Nat} : ae a = ae b ↔ a = b := ⟨fun h => by rw [← af a, h, af], fun h => by rw [h]⟩
theorem bB {s : Bs} (h : okN s) : ae (val s) = s := sJ h.2
def zv (x : Zs) : Int := if x.1 then -(val x.2 : Int) else val x.2
theorem cI (n : Int) : ofZ n = (decide (n < 0), ae n.natAbs) := by
 unfold ofZ mkZ
 by_cases h : n < 0
 ·rw [Am h, Ds, Aq (by rw [aT]; omega)]; rfl
 ·rw [Aq h, Bool.false_and]
theorem mD (n : Int) : zv (ofZ n) = n := by
 rw [cI, zv]
 by_cases h : n < 0
 ·rw [Ab (by simpa using h), af]; omega
 ·rw [Aa (by simpa using h), af]; omega
theorem uj {x : Zs} (h : okZ x) : ofZ (zv x) = x := by
 obtain ⟨s, a⟩ := x
 have ha : okN a := h.1
 have h2 : ¬ (s = true ∧ a = []) := h.2
 have hc := bB ha
 rw [cI, zv]
 cases s with
 | false =>
  rw [Aa (by simp)]
  show (decide ((val a : Int) < 0), ae (val a : Int).natAbs) = (false, a)
  rw [Aq (by omega), Bb, hc]
 | true =>
  rw [Ab rfl]
  have h0 : val a ≠ 0 := fun h0 => h2 ⟨rfl, (aM ha.2).1 h0⟩
  show (decide (-(val a : Int) < 0), ae (-(val a : Int)).natAbs) = (true, a)
  rw [Am (by omega), Int.natAbs_neg, Bb, hc]
theorem bW {n : Int} : okZ (ofZ n) ↔ n.natAbs < Big := by
 rw [cI]
 constructor
 ·intro h; have := aK h.1; rwa [show val (ae n.natAbs) = n.natAbs from af _] at this
 ·intro h
  refine ⟨aq h, ?_⟩
  rintro ⟨h1, h2⟩
  have h1' : n < 0 := by simpa using h1
  have h2' : n.natAbs = 0 := aT.1 h2
  omega
theorem zj {x : Zs} (h : okZ x) : (zv x).natAbs < Big := by rw [← uj h] at h; exact bW.1 h
theorem j1 {x : Zs} : okZ x ↔ ∃ n : Int, n.natAbs < Big ∧ x = ofZ n := ⟨fun h => ⟨zv x, zj h, (uj h).symm⟩, fun ⟨n, h, e⟩ => e ▸ bW.2 h⟩
theorem gH (n : Nat) : ofZ n = (false, ae n) := by rw [cI, Aq (by omega), Bb]
theorem kY (s : Bool) (n : Nat) : mkZ s (ae n) = ofZ (if s then -(n : Int) else n) := by
 cases s with
 | false => rw [Aa (by simp), gH]; rfl
 | true =>
  rw [Ab rfl, cI, Int.natAbs_neg, Bb, mkZ, Ds]
  congr 1
  by_cases h : n = 0
  ·subst h; rw [ei]; rfl
  ·rw [Aq (by rw [aT]; exact h), Am (by omega)]; rfl
theorem qy {n : Int} (h : n.natAbs < Big) : fM (ofZ n) = ofZ (-n) := by
 rw [fM, Ab (bW.2 h), cI, kY]
 by_cases h1 : n < 0
 ·rw [Am h1]; simp only [Bool.not_true, Dc, if_false]; congr 1; omega
 ·rw [Aq h1]; simp only [Bool.not_false, if_true]; congr 1; omega
theorem ri {a b : Int} (ha : a.natAbs < Big) (hb : b.natAbs < Big) : dl (ofZ a) (ofZ b) = if (a + b).natAbs < Big then (ofZ (a + b), 0) else ((false, []), 5) := by
 obtain ⟨G, hG⟩ : ∃ G, G = Big := ⟨_, rfl⟩
 rw [dl, Ab ⟨bW.2 ha, bW.2 hb⟩]
 rw [cI a, cI b]
 simp only [af]
 rw [← hG] at ha hb ⊢
 by_cases hs : decide (a < 0) = decide (b < 0)
 ·rw [Ab hs]
  have hs' : (a < 0) ↔ (b < 0) := by simpa using hs
  have hn : (a + b).natAbs = a.natAbs + b.natAbs := by by_cases h1 : a < 0 <;> have := hs'.1 <;> have := hs'.2 <;> omega
  rw [addN, Ab ⟨aq (by rw [← hG]; exact ha), aq (by rw [← hG]; exact hb)⟩, af, af, ← hG, hn]
  by_cases hl : a.natAbs + b.natAbs < G
  ·rw [Ab hl, Ab hl]; show (mkZ (decide (a < 0)) (ae (a.natAbs + b.natAbs)), (0 : Int)) = _; rw [kY]; congr 2; by_cases h1 : a < 0
   ·rw [Ab (by simpa using h1)]; omega
   ·rw [Aa (by simpa using h1)]; have := hs'.2; omega
  ·rw [Aa hl, Aa hl]; show (mkZ (decide (a < 0)) [], (5 : Int)) = _; rw [mkZ]; simp
 ·rw [Aa hs]
  have hs' : ¬ ((a < 0) ↔ (b < 0)) := by simpa using hs
  have hl : (a + b).natAbs < G := by omega
  rw [Ab hl]
  by_cases h1 : a.natAbs < b.natAbs
  ·rw [Ab h1, kY]; congr 2; by_cases h2 : b < 0
   ·rw [Ab (by simpa using h2)]; omega
   ·rw [Aa (by simpa using h2)]; omega
  ·rw [Aa h1, kY]; congr 2; by_cases h2 : a < 0
   ·rw [Ab (by simpa using h2)]; omega
   ·rw [Aa (by simpa using h2)]; omega
theorem mN {a b : Int} (ha : a.natAbs < Big) (hb : b.natAbs < Big) : cG (ofZ a) (ofZ b) = if (a - b).natAbs < Big then (ofZ (a - b), 0) else ((false, []), 5) := by
 rw [cG, Ab ⟨bW.2 ha, bW.2 hb⟩, qy hb, ri ha (by omega), Int.sub_eq_add_neg]
section
variable {ds : List Deferred} {ρ : Option Nat} {P : Program} {ok : Nat → Prop} {w0 w : World} {own ext : List Ent} {fs : List Fact} {γ : Type} {f : FuncId} {args : Array Value} {val : γ → Value} {p : γ → Prop} {F : γ → List Fact} {a : Option Addr} {xs : List Value}
theorem iN (h : ∀ w, St ok w0 own fs w → Calls P f args w (fun e w' => ∃ g, e = .returned (val g) ∧ p g ∧ Below w.heap.size w w' ∧ ∀ x ∈ F g, x.holds (fun b => (ok b ∧ b ∉ ids own) ∨ w.heap.size ≤ b) w')) :
  ∀ w, St ok w0 own fs w → Calls P f args w (fun e w' => ∃ g, e = .returned (val g) ∧ p g ∧ St ok w0 own (F g ++ fs) w') :=
 fun w hS => (h w hS).mono fun _ w' ⟨g, he, hp, hb, hF⟩ => ⟨g, he, hp, by
  have h1 := hS.keep hb
  refine ⟨h1.okn, h1.below, h1.own_, h1.nd, fun x hx => (B6.1 hx).elim (fun hx => ?_) (h1.fact x)⟩
  exact x.mono (fun b hb => hb.elim id (hS.fresh b)) (hF x hx)⟩
theorem St.slo (h : St ok w0 own fs w) [hf : HasF fs a xs] : (Fact.sl a xs).holds (fun b => ok b ∧ b ∉ ids own) w := by
 obtain ⟨k, hk⟩ := hf.h.get; exact h.fact _ (A9 hk)
theorem St.ock (h : St ok w0 own fs w) {ob : Option Nat} {sp : List Value} {T : TypeId} {C : Ent → List Ent} [hf : HasC own ob (xs ++ sp) T C] : (Fact.sl (ob.map fun b => ⟨b, 0, none⟩) xs).holds ok w := by
 obtain ⟨k, hk, _⟩ := hf.h.get
 have := h.own_ _ (A9 hk)
 cases ob with
 | none => exact .inl (by have h1 : xs ++ sp = [] := this; simp at h1; exact h1.1)
 | some b =>
  refine .inr ⟨b, 0, (xs ++ sp).toArray, T, (0, 0), rfl, h.okn b this.1, this.2, fun i hi => ?_⟩
  rw [Az, De, B5 hi]
theorem cU : (Fact.sl a []).holds ok w := .inl rfl
theorem iR {fs : List Fact} {ok' : Nat → Prop} (h : ∀ f ∈ fs, f.holds ok w) : ∀ f ∈ fs, f.holds (fun b => ok b ∨ ok' b) w := fun f hf => f.mono (fun _ h => .inl h) (h f hf)
end
section
variable {ds : List Deferred} {ρ : Option Nat} {P : Program} {Q : Exit → Act → World → Prop} {n : Nat} {L : ak} {x y : Code} {σ : Type} {Z : World → Prop}
theorem tv {k : Nat} {kd : IntKind} {i j : Int} (h : al L k = some (.int kd i)) (e : i = j) : al L k = some (.int kd j) := e ▸ h
theorem ai {k : Nat} {i j : Bool} (h : al L k = some (.bool i)) (e : i = j) : al L k = some (.bool j) := e ▸ h
def mC (ds : List Deferred) {σ : Type} (Ls : σ → ak) (Ss : σ → World → Prop) (n : Nat) (a : Act) (w : World) : Prop := ∃ s, Fr ds a n (Ls s) ∧ Ss s w
theorem WC.join (Ls : σ → ak) (Ss : σ → World → Prop) (h : WC ds ρ P x (Exit.then (mC ds Ls Ss n) Q) n L Z) (k : ∀ s, WC ds ρ P y Q n (Ls s) (Ss s)) : WC ds ρ P (.seq x y) Q n L Z :=
 Cq fun a w hF hS => wpIn_mono (h a w hF hS) fun e a w hq => by
  cases e with
  | normal => obtain ⟨s, hF', hS'⟩ := hq; exact k s a w hF' hS'
  | _ => exact hq
theorem WX.join {Ls : σ → ak} {Ss : σ → World → Prop} (s : σ) (hL : ∀ k v, al (Ls s) k = some v → al L k = some v) (hS : ∀ w, Z w → Ss s w) : WX ds (Exit.then (mC ds Ls Ss n) Q) .normal n L Z := fun _ w hF h => ⟨s, hF.sub hL, hS w h⟩
theorem WC.joinP (Lm : ak) (Ls : σ → ak) (inv : σ → Prop) (hm : ∀ k v, al Lm k = some v → al L k = some v) (h : WC ds ρ P x (Exit.then (mC ds (fun s => Ls s ++ Lm) (fun s w => inv s ∧ Z w) n) Q) n L Z) (k : ∀ s, inv s → WC ds ρ P y Q n (Ls s ++ Lm) Z) : WC ds ρ P (.seq x y) Q n L Z :=
 have := hm
 WC.join _ _ h fun s => WC.pu fun h => k s h
theorem WX.joinP {Z' : World → Prop} {L' Lm : ak} {Ls : σ → ak} {inv : σ → Prop} (s : σ) (hm : ∀ k v, al Lm k = some v → al L' k = some v) (hL : ∀ k v, al (Ls s) k = some v → al L' k = some v) (hi : inv s) (hZ : ∀ w, Z' w → Z w) :
  WX ds (Exit.then (mC ds (fun s => Ls s ++ Lm) (fun s w => inv s ∧ Z w) n) Q) .normal n L' Z' := WX.join s (gt hL hm) fun w h => ⟨hi, hZ w h⟩
theorem WC.joinO {ok : Nat → Prop} {w0 : World} {own : List Ent} {fs : List Fact} (Lm : ak) (Ls : σ → ak) (inv : σ → Prop) (own' : σ → List Ent) (fs' : σ → List Fact) (hm : ∀ k v, al Lm k = some v → al L k = some v)
  (h : WC ds ρ P x (Exit.then (mC ds (fun s => Ls s ++ Lm) (fun s w => inv s ∧ St ok w0 (own' s) (fs' s) w) n) Q) n L (St ok w0 own fs)) (k : ∀ s, inv s → WC ds ρ P y Q n (Ls s ++ Lm) (St ok w0 (own' s) (fs' s))) : WC ds ρ P (.seq x y) Q n L (St ok w0 own fs) :=
 have := hm
 WC.join _ _ h fun s => WC.pu fun h => k s h
theorem WX.joinO {ok : Nat → Prop} {w0 : World} {Z' : World → Prop} {L' Lm : ak} {Ls : σ → ak} {inv : σ → Prop} {own' : σ → List Ent} {fs' : σ → List Fact} (s : σ) (hm : ∀ k v, al Lm k = some v → al L' k = some v) (hL : ∀ k v, al (Ls s) k = some v → al L' k = some v) (hi : inv s) (hZ : ∀ w, Z' w → St ok w0 (own' s) (fs' s) w) :
  WX ds (Exit.then (mC ds (fun s => Ls s ++ Lm) (fun s w => inv s ∧ St ok w0 (own' s) (fs' s) w) n) Q) .normal n L' Z' := WX.join s (gt hL hm) fun w h => ⟨hi, hZ w h⟩
theorem WC.ordersP {id : Nat} {l : List Oper} {n : Nat} {L : ak} {ok : Nat → Prop} {w0 : World} {own : List Ent} {fs : List Fact} (Lm : ak) (own' : List Ent) (fs' : List Fact) (hm : ∀ k v, al Lm k = some v → al L k = some v) (iss : List (List Nat)) {oss : List (List Oper)} (hp : P.follows .mixedOrders = true)
  (hi : dX l.toArray l.length (Array.replicate l.length false) = iss) (ho : iss.map (bV l) = oss)
  (k : AllL ds P l (Mid ds (fun _ : Unit => Lm) (fun _ => St ok w0 own' fs') n) n L (St ok w0 own fs) oss) (next : WX ds Q .normal n Lm (St ok w0 own' fs')) : WC ds none P (.region id l.toArray true) Q n L (St ok w0 own fs) :=
 have := hm
 WC.orders (fun _ => Lm) _ iss hp hi ho (fun w h => h.draw) k fun _ => next
theorem WX.midP {γ : Type} {n : Nat} {L Lm : ak} {S : World → Prop} {S' : γ → World → Prop} (g : γ) (hm : ∀ k v, al Lm k = some v → al L k = some v) (hS : ∀ w, S w → S' g w) : WX ds (Mid ds (fun _ => Lm) S' n) .normal n L S := WX.mid g hm hS
end
class WdK (k : IntKind) (j : outParam Nat) : Prop where
 hj : j ≤ k.bits
 hk : ∀ n : Int, 0 ≤ n → n < 2 ^ j → k.wrap n = n
instance : WdK .u8 8 := ⟨by decide, fun n h0 h1 => by rw [IntKind.wrap_u8]; omega⟩
instance : WdK .u32 32 := ⟨by decide, fun n h0 h1 => by rw [IntKind.wrap_u32]; omega⟩
instance : WdK .u64 64 := ⟨by decide, fun n h0 h1 => by rw [IntKind.wrap_u64]; omega⟩
instance : WdK .i64 63 := ⟨by decide, fun n h0 h1 => by rw [IntKind.wrap_i64]; omega⟩
theorem wrN {k : IntKind} {j x : Nat} [h : WdK k j] (hx : x < 2 ^ j) : k.wrap (x : Int) = x := h.hk x (Bq _) (by exact_mod_cast hx)
class WdU (k : IntKind) (j : outParam Nat) : Prop where
 hu : ∀ n : Int, k.wrap n = n % 2 ^ j
instance : WdU .u8 8 := ⟨fun n => IntKind.wrap_u8 n⟩
instance : WdU .u32 32 := ⟨fun n => IntKind.wrap_u32 n⟩
instance : WdU .u64 64 := ⟨fun n => IntKind.wrap_u64 n⟩
section
variable {ds : List Deferred} {P : Program} {o : Oper} {n : Nat} {L : ak} {Z : World → Prop} {x y : Operand} {t t2 : TypeId} {k k' : IntKind} {a c j m : Nat} {b : Bool}
theorem Rd.cv {v v' : Value} (h : Rd ds P o n L Z v) (e : v = v') : Rd ds P o n L Z v' := e ▸ h
theorem bN [WdK k j] (hop : o.op = .binOp .add t x y t2) (hx : ag L x = some (.int k (a : Int))) (hy : ag L y = some (.int k (c : Int))) (h : a + c < 2 ^ j) : Rd ds P o n L Z (.int k ((a + c : Nat) : Int)) :=
 (m5 hop hx hy).cv (by rw [← wrN (k := k) h, Ec])
theorem bU [WdK k j] (hop : o.op = .binOp .sub t x y t2) (hx : ag L x = some (.int k (a : Int))) (hy : ag L y = some (.int k (c : Int))) (h : c ≤ a ∧ a < 2 ^ j) : Rd ds P o n L Z (.int k ((a - c : Nat) : Int)) :=
 (kF hop hx hy).cv (by rw [← wrN (k := k) (Bj (Nat.sub_le a c) h.2), Int.natCast_sub h.1])
theorem bH [WdK k j] (hop : o.op = .binOp .mul t x y t2) (hx : ag L x = some (.int k (a : Int))) (hy : ag L y = some (.int k (c : Int))) (h : a * c < 2 ^ j) : Rd ds P o n L Z (.int k ((a * c : Nat) : Int)) :=
 (mX hop hx hy).cv (by rw [← wrN (k := k) h, Bx])
theorem gD [WdU k j] (hop : o.op = .binOp .mul t x y t2) (hx : ag L x = some (.int k (a : Int))) (hy : ag L y = some (.int k (c : Int))) : Rd ds P o n L Z (.int k ((a * c % 2 ^ j : Nat) : Int)) :=
 (mX hop hx hy).cv (by rw [WdU.hu (k := k)]; simp)
theorem fp [hw : WdK k j] (hop : o.op = .binOp .shl t x y t2) (hx : ag L x = some (.int k (a : Int))) (hy : ag L y = some (.int k' (c : Int))) (hc : c ≤ k.bits) (h : a * 2 ^ c < 2 ^ j) : Rd ds P o n L Z (.int k ((a * 2 ^ c : Nat) : Int)) :=
 (jg hop hx hy (Bq _)).cv (by rw [At, Dh hc, ← wrN (k := k) h]; simp)
theorem wS [hw : WdU k j] (hop : o.op = .binOp .shl t x y t2) (hx : ag L x = some (.int k (a : Int))) (hy : ag L y = some (.int k' (c : Int))) (hc : c ≤ k.bits) : Rd ds P o n L Z (.int k ((a * 2 ^ c % 2 ^ j : Nat) : Int)) :=
 (jg hop hx hy (Bq _)).cv (by rw [At, Dh hc, WdU.hu (k := k)]; simp)
theorem bA (hop : o.op = .binOp .shr t x y t2) (hx : ag L x = some (.int k (a : Int))) (hy : ag L y = some (.int k' (c : Int))) (hc : c ≤ k.bits) : Rd ds P o n L Z (.int k ((a / 2 ^ c : Nat) : Int)) :=
 (g5 hop hx hy (Bq _)).cv (by
  rw [At, Dh hc, Dy _ (by have := Int.pow_pos (n := 2) (m := c) (by decide); omega)]; simp)
theorem dG (m : Nat) [hw : WdK k j] {i : Int} (hop : o.op = .binOp .and t x y t2) (hx : ag L x = some (.int k (a : Int))) (hy : ag L y = some (.int k i)) (hi : i = 2 ^ m - 1) (h : m ≤ j ∧ a < 2 ^ j) : Rd ds P o n L Z (.int k ((a % 2 ^ m : Nat) : Int)) :=
 (m4 hop hx hy).cv (by rw [hi, bits_mask k j hw.hj hw.hk m h.1 a (Bq _) (by exact_mod_cast h.2)]; simp)
theorem kJ (m : Nat) [hw : WdK k j] (hop : o.op = .binOp .or t x y t2) (hx : ag L x = some (.int k (a : Int))) (hy : ag L y = some (.int k (c : Int))) (h : a % 2 ^ m = 0 ∧ a < 2 ^ j ∧ c < 2 ^ m ∧ m ≤ j) : Rd ds P o n L Z (.int k ((a + c : Nat) : Int)) :=
 (lT hop hx hy).cv (by
  have hc : c < 2 ^ j := Ay h.2.2.1 (A2 (by decide) h.2.2.2)
  rw [bits_join k j hw.hj hw.hk m a c (Bq _) (by exact_mod_cast h.1) (by exact_mod_cast h.2.1) (Bq _) (by exact_mod_cast h.2.2.1) (by exact_mod_cast hc)]; simp)
theorem yW (m : Nat) [hw : WdK k j] (hop : o.op = .binOp .or t x y t2) (hx : ag L x = some (.int k (a : Int))) (hy : ag L y = some (.int k (c : Int))) (h : a < 2 ^ m ∧ c % 2 ^ m = 0 ∧ c < 2 ^ j ∧ m ≤ j) : Rd ds P o n L Z (.int k ((a + c : Nat) : Int)) :=
 (lT hop hx hy).cv (by
  have ha : a < 2 ^ j := Ay h.1 (A2 (by decide) h.2.2.2)
  have e : bits .or k (a : Int) (c : Int) = bits .or k (c : Int) (a : Int) := by
   simp only [bits, BitVec.or_comm]
  rw [e, bits_join k j hw.hj hw.hk m c a (Bq _) (by exact_mod_cast h.2.1) (by exact_mod_cast h.2.2.1) (Bq _) (by exact_mod_cast h.1) (by exact_mod_cast ha), Int.add_comm]; simp)
theorem m0 {p q : Bool} (hop : o.op = .binOp .neq t x y t2) (hx : ag L x = some (.bool p)) (hy : ag L y = some (.bool q)) (hu : P.underlying t = some .bool) : Rd ds P o n L Z (.bool (p != q)) :=
 aY hop hx hy (k7 _ _ _) fun w => run_neq_bool w t p q hu
theorem cF [WdK k j] (hop : o.op = .binOp .quo t x y t2) (hx : ag L x = some (.int k (a : Int))) (hy : ag L y = some (.int k (c : Int))) (h : 0 < c ∧ a < 2 ^ j) : Rd ds P o n L Z (.int k ((a / c : Nat) : Int)) :=
 (pd hop hx hy (by omega)).cv (by
  rw [Int.tdiv_eq_ediv_of_nonneg (Bq _), ← Int.natCast_ediv, wrN (k := k) (Bj (Bw a c) h.2)])
theorem bt (hop : o.op = .binOp .rem t x y t2) (hx : ag L x = some (.int k (a : Int))) (hy : ag L y = some (.int k (c : Int))) (h : 0 < c) : Rd ds P o n L Z (.int k ((a % c : Nat) : Int)) :=
 (mU hop hx hy (by omega)).cv (by rw [Int.tmod_eq_emod_of_nonneg (Bq _), ← Int.natCast_emod])
theorem tU [WdU k j] (hop : o.op = .convert t t2 x) (hx : ag L x = some (.int k' (a : Int))) {d : TypeDesc} (h1 : P.underlying t = some d) (h2 : P.underlying t2 = some (.int k)) : Rd ds P o n L Z (.int k ((a % 2 ^ j : Nat) : Int)) :=
 (aR hop hx h1 h2).cv (by rw [WdU.hu (k := k)]; simp)
theorem n5 [WdK k j] (hop : o.op = .convert t t2 x) (hx : ag L x = some (.int k' (a : Int))) {d : TypeDesc} (h1 : P.underlying t = some d) (h2 : P.underlying t2 = some (.int k)) (h : a < 2 ^ j) : Rd ds P o n L Z (.int k (a : Int)) :=
 (aR hop hx h1 h2).cv (by rw [wrN (k := k) h])
theorem kM [WdK k j] {c : UInt8} (hop : o.op = .convert t t2 x) (hx : ag L x = some (.int .u8 (c.toNat : Int))) {d : TypeDesc} (h1 : P.underlying t = some d) (h2 : P.underlying t2 = some (.int k)) (h : 8 ≤ j) : Rd ds P o n L Z (.int k (c.toNat : Int)) :=
 n5 hop hx h1 h2 (Ay c.toNat_lt (A2 (by decide) h))
theorem iu {s : List UInt8} {i : Nat} (hop : o.op = .index t x y) (hx : ag L x = some (.string (S s))) (hy : ag L y = some (.int k (i : Int))) (h1 : P.underlying t = some .string) (h0 : i < s.length) : Rd ds P o n L Z (.int .u8 ((s.getD i default).toNat : Int)) :=
 (bo hop hx hy h1 ⟨Bq _, by rwa [At]⟩).cv (by rw [At])
theorem iv (hop : o.op = .convert t t2 x) (hx : ag L x = some (.int k' (a : Int))) {d : TypeDesc} (h1 : P.underlying t = some d) (h2 : P.underlying t2 = some (.int .u8)) : Rd ds P o n L Z (.int .u8 ((UInt8.ofNat a).toNat : Int)) :=
 (tU hop hx h1 h2).cv rfl
end
section
variable {ds : List Deferred} {P : Program} {ok : Nat → Prop} {w0 : World} {own : List Ent} {fs : List Fact} {o : Oper} {n b off sz : Nat} {L : ak} {x : Operand} {t T e : TypeId} {cs ys : List Value} {C : Ent → List Ent}
theorem clr {len cap : Nat} {zv : Value} (hop : o.op = .call { callee := .builtin .clear, args := #[x], argTypes := #[t] }) (hx : ag L x = some (.slice (some ⟨b, off, none⟩) len cap)) (hk : Ctx own ⟨some b, cs, T⟩ C)
  (hu : P.underlying t = some (.slice e)) (hi : (P.info? e).map (fun i => (i.zero, i.size, i.bytes)) = some (some zv, 1, sz)) (h1 : zv.cells = #[zv]) (ho : zv.oneCell' = true) (hl : 0 < len) (hfit : off + len ≤ cs.length) (hys : cs.take off ++ List.replicate len zv ++ cs.drop (off + len) = ys) :
  Og ds P o n L (St ok w0 own fs) (fun _ : Unit => .tuple #[]) (fun _ => St ok w0 (C ⟨some b, ys, T⟩) fs) :=
 bO fun a hF w hS => by
  obtain ⟨kk, hkk, hC⟩ := hk.get
  obtain ⟨i', hi', hz, hs, hbb⟩ := info_parts hi
  have hst := run_storeCells_at P b off T (List.replicate len zv) 0 cs.toArray w (hS.block hkk) (by simp; omega) (fun u hu => by rw [List.eq_of_mem_replicate hu]; exact ho)
  simp only [Ba, Ei, hys] at hst
  refine ⟨(), w.setRow b ys.toArray, .inl ?_, by rw [hC]; exact hS.setRow hkk _⟩
  obtain ⟨l', rfl⟩ : ∃ l', len = l' + 1 := ⟨len - 1, by omega⟩
  have hzr : (zeroValue e).run P w = .ok zv w := by simp [zeroValue, typeInfo, hi', hz]
  simp [execOp, hop, resolve, invoke, builtin, hF.eval hx, Builtin.clear_, run_underlying hu, hzr, h1, ij, hst]
end
end Go.Proofs.YtkdlonihbjhhoaaGreatDoor
namespace Go.Proofs.YtkdlonihbjhhoaaGreatDoor
set_option linter.unusedSimpArgs false
set_option linter.unusedVariables false
set_option maxRecDepth 20000
def ev (β : Nat) : List Nat → Nat
 | [] => 0
 | x :: l => x + β * ev β l
theorem e8 (β : Nat) : ∀ a b : List Nat, ev β (a ++ b) = ev β a + β ^ a.length * ev β b
 | [], b => by simp [ev]
 | x :: a, b => by
  rw [List.cons_append, ev, ev, e8 β a b, Ar, As, Bf, Co, ← Au, Aj β (β ^ a.length)]
theorem df (β : Nat) (l : List Nat) (i : Nat) (h : i ≤ l.length) : ev β l = ev β (l.take i) + β ^ i * ev β (l.drop i) := by
 have := e8 β (l.take i) (l.drop i)
 rwa [Dt, Bp, Dh h] at this
theorem bi (β : Nat) (l : List Nat) (i : Nat) (h : i < l.length) : ev β (l.take (i + 1)) = ev β (l.take i) + β ^ i * l.getD i 0 := by
 rw [Bt, Ad h, e8, Bp, Dh (by omega), List.getD_eq_getElem?_getD, Ad h]
 simp [ev]
theorem yq (β : Nat) : ∀ l : List Nat, (∀ x ∈ l, x < β) → ev β l < β ^ l.length
 | [], _ => by simp [ev]
 | x :: l, h => by
  have h1 := yq β l fun y hy => h y (.tail _ hy)
  have h2 := h x (.head _)
  rw [ev, Ar, As]
  have : β * (ev β l + 1) ≤ β * β ^ l.length := B3 _ h1
  rw [Bf, A0, Aj β (β ^ l.length)] at this
  omega
theorem fD (β : Nat) (l : List Nat) (i : Nat) (hi : i ≤ l.length) (h : ∀ x ∈ l, x < β) : ev β (l.take i) < β ^ i := by
 have := yq β (l.take i) fun x hx => h x (List.mem_of_mem_take hx)
 rwa [Bp, Dh hi] at this
theorem nA (β n : Nat) : ev β (List.replicate n 0) = 0 := by
 induction n with
 | zero => rfl
 | succ n ih => rw [D6, ev, ih]; simp
theorem ew {α : Type} (l : List α) (i k : Nat) (y : α) (h : k ≤ i) : (l.set i y).take k = l.take k := by
 rw [List.take_set, List.set_eq_of_length_le (by rw [Bp]; omega)]
theorem lD (l : List Nat) (i y : Nat) (h : i < l.length) : (l.set i y).take (i + 1) = l.take i ++ [y] := by
 rw [Bt, ew l i i y (Bd _), Da h]; rfl
theorem gl {α : Type} (l : List α) (i k : Nat) (y : α) (h : i < k) : (l.set i y).drop k = l.drop k := by
 rw [List.drop_set, Ab h]
theorem gk (β : Nat) (l : List Nat) (i y : Nat) (h : i < l.length) : ev β ((l.set i y).take (i + 1)) = ev β (l.take i) + β ^ i * y := by
 rw [lD l i y h, e8, Bp, Dh (by omega)]; simp [ev]
theorem zR (β : Nat) (l : List Nat) (i y : Nat) (h : i < l.length) : ev β (l.set i y) + β ^ i * l.getD i 0 = ev β l + β ^ i * y := by
 rw [df β (l.set i y) (i + 1) (by rw [C3]; omega), gk β l i y h, gl l i (i + 1) y (by omega), df β l (i + 1) (by omega), bi β l i h]
 omega
theorem uT (β : Nat) (hβ : 0 < β) (l : List Nat) (i : Nat) (hi : i < l.length) (h : ∀ x ∈ l, x < β) : ev β l / β ^ i % β = l.getD i 0 := by
 have h1 := fD β l i (by omega) h
 have h2 : l.drop i = l.getD i 0 :: l.drop (i + 1) := by
  rw [Bo hi, List.getD_eq_getElem?_getD, Ad hi]; rfl
 have h3 : l.getD i 0 < β := by
  rw [List.getD_eq_getElem?_getD, Ad hi]; exact h _ (D0 hi)
 rw [df β l i (by omega), h2, ev, Nat.add_mul_div_left _ _ (Cr hβ), Bh h1, Az, Nat.add_mul_mod_self_left, Ah h3]
theorem getD_set_ne (l : List Nat) (i k y : Nat) (h : i ≠ k) : (l.set i y).getD k 0 = l.getD k 0 := by
 rw [List.getD_eq_getElem?_getD, List.getD_eq_getElem?_getD, Dl h]
theorem eE (l : List Nat) (i y : Nat) (h : i < l.length) : (l.set i y).getD i 0 = y := by
 rw [List.getD_eq_getElem?_getD, Da h]; rfl
theorem cm (β : Nat) (hβ : 0 < β) (l : List Nat) (h : ∀ x ∈ l, x < β) (i : Nat) : l.getD i 0 < β := by
 rw [List.getD_eq_getElem?_getD]
 cases hi : l[i]? with
 | none => exact hβ
 | some x => exact h x (A9 hi)
theorem o5 (β : Nat) (l : List Nat) (h : ∀ x ∈ l, x < β) (i y : Nat) (hy : y < β) : ∀ x ∈ l.set i y, x < β := by
 intro x hx
 rcases List.mem_or_eq_of_mem_set hx with h1 | h1
 ·exact h x h1
 ·rw [h1]; exact hy
def jv (β : Nat) (c : List Nat) (i : Nat) : Nat := ev β (c.take i) / β ^ i
theorem jt (β : Nat) (c : List Nat) : jv β c 0 = 0 := by simp [jv, ev]
theorem ju (β : Nat) (hβ : 0 < β) (c : List Nat) (i : Nat) (hi : i < c.length) : jv β c (i + 1) = (jv β c i + c.getD i 0) / β := by
 rw [jv, bi β c i hi, As, ← A4, Nat.add_mul_div_left _ _ (Cr hβ), jv]
theorem lj (β : Nat) (hβ : 0 < β) (c : List Nat) (i : Nat) (hi : i < c.length) : ev β c / β ^ i % β = (jv β c i + c.getD i 0) % β := by
 have h2 : c.drop i = c.getD i 0 :: c.drop (i + 1) := by
  rw [Bo hi, List.getD_eq_getElem?_getD, Ad hi]; rfl
 rw [df β c i (by omega), h2, ev, Nat.add_mul_div_left _ _ (Cr hβ), ← Co, Nat.add_mul_mod_self_left, jv]
theorem qZ (β : Nat) (hβ : 1 < β) (c : List Nat) (M : Nat) (h : ∀ i, c.getD i 0 ≤ M) : ∀ i, i ≤ c.length → jv β c i ≤ M
 | 0, _ => by rw [jt]; omega
 | i + 1, hi => by
  have h1 := qZ β hβ c M h i (by omega)
  rw [ju β (by omega) c i (by omega)]
  have h2 := h i
  calc (jv β c i + c.getD i 0) / β ≤ (M + M) / β := Nat.div_le_div_right (by omega)
   _ ≤ (M + M) / 2 := Nat.div_le_div_left (by omega) (by omega)
   _ = M := by omega
end Go.Proofs.YtkdlonihbjhhoaaGreatDoor
namespace Go.Proofs.YtkdlonihbjhhoaaGreatDoor
set_option linter.unusedSimpArgs false
set_option linter.unusedVariables false
set_option maxRecDepth 20000
structure dP (N A B i k : Nat) (c : List Nat) : Prop where
 len : c.length = N
 sum : ev 256 c = A % 256 ^ i * B + A / 256 ^ i % 256 * 256 ^ i * (B % 256 ^ k)
 all : ∀ j, c.getD j 0 ≤ (i + 1) * 65025
 rest : ∀ j, i + k ≤ j → c.getD j 0 ≤ i * 65025
theorem oz (N j : Nat) : (List.replicate N 0).getD j 0 = 0 := by
 rw [List.getD_eq_getElem?_getD, List.getElem?_replicate]; split <;> rfl
theorem mo (N A B : Nat) : dP N A B 0 0 (List.replicate N 0) :=
 ⟨by simp, by rw [nA]; simp [Nat.mod_one], fun j => by rw [oz]; exact Ai _, fun j _ => by rw [oz]; exact Ai _⟩
theorem jH (x y : Nat) : x % 256 * (y % 256) ≤ 65025 := by
 have h1 : x % 256 ≤ 255 := by omega
 have h2 : y % 256 ≤ 255 := by omega
 exact Dw h1 h2
theorem oF {N A B i k : Nat} {c : List Nat} (h : dP N A B i k c) (hlt : i + k < N) :
  dP N A B i (k + 1) (c.set (i + k) (c.getD (i + k) 0 + A / 256 ^ i % 256 * (B / 256 ^ k % 256))) := by
 have hp := jH (A / 256 ^ i) (B / 256 ^ k)
 have hl : i + k < c.length := by rw [h.len]; exact hlt
 refine ⟨by rw [C3]; exact h.len, ?_, fun j => ?_, fun j hj => ?_⟩
 ·have h1 := zR 256 c (i + k) (c.getD (i + k) 0 + A / 256 ^ i % 256 * (B / 256 ^ k % 256)) hl
  rw [h.sum, Bf] at h1
  rw [Nat.mod_pow_succ, Bf, ← Co]
  have h2 : A / 256 ^ i % 256 * 256 ^ i * (256 ^ k * (B / 256 ^ k % 256)) = 256 ^ (i + k) * (A / 256 ^ i % 256 * (B / 256 ^ k % 256)) := by
   rw [Bg]; simp only [Aj, Bm, Au]
  rw [h2]; omega
 ·by_cases e : i + k = j
  ·subst e; rw [eE c _ _ hl]; have := h.rest (i + k) (Bd _); rw [Be]; omega
  ·rw [getD_set_ne c _ _ _ e]; exact h.all j
 ·rw [getD_set_ne c _ _ _ (by omega)]; exact h.rest j (by omega)
theorem qW {N A B i n : Nat} {c : List Nat} (h : dP N A B i n c) (hB : B < 256 ^ n) : dP N A B (i + 1) 0 c := by
 refine ⟨h.len, ?_, fun j => Br (h.all j) (by rw [Be, Be (i + 1)]; omega), fun j _ => h.all j⟩
 rw [h.sum, Ah hB, Nat.mod_pow_succ, Be, B1, Nat.mod_one, Nat.mul_zero, Ba, Aj (256 ^ i) (A / 256 ^ i % 256)]
theorem qX {N A B n : Nat} {c : List Nat} (h : dP N A B n 0 c) (hA : A < 256 ^ n) : ev 256 c = A * B := by
 rw [h.sum, Ah hA, B1, Nat.mod_one, Nat.mul_zero, Ba]
theorem qY {N A B i k : Nat} {c : List Nat} (h : dP N A B i k c) (hi : i ≤ 100000) (j : Nat) : c.getD j 0 + A / 256 ^ i % 256 * (B / 256 ^ k % 256) ≤ 9000000000 ∧ A / 256 ^ i % 256 * (B / 256 ^ k % 256) ≤ 65025 := by
 have h1 := jH (A / 256 ^ i) (B / 256 ^ k)
 have h2 := h.all j
 omega
theorem mr {N A B n i : Nat} {c : List Nat} (h : dP N A B n 0 c) (hn : n ≤ 100000) (hi : i < N) : jv 256 c i + c.getD i 0 ≤ 20000000000 := by
 have h1 := qZ 256 (by decide) c ((n + 1) * 65025) h.all i (by rw [h.len]; omega)
 have h2 := h.all i
 omega
structure lv (β j g : Nat) (r0 d : List Nat) (i : Nat) (r : List Nat) (cy bw : Nat) : Prop where
 len : r.length = r0.length
 dig : ∀ x ∈ r, x < β
 low : r.take j = r0.take j
 high : r.drop (j + i) = r0.drop (j + i)
 sum : ev β (r.take (j + i)) + β ^ j * g * ev β (d.take i) = ev β (r0.take (j + i)) + β ^ (j + i) * (cy + bw)
 cyl : cy < β
 bwl : bw ≤ 1
theorem rp {β j g : Nat} {r0 d : List Nat} (hβ : 0 < β) (hd : ∀ x ∈ r0, x < β) : lv β j g r0 d 0 r0 0 0 :=
 ⟨rfl, hd, rfl, rfl, by simp [ev], hβ, by omega⟩
theorem fA {r r0 : List Nat} {k : Nat} (h : r.drop k = r0.drop k) : r.getD k 0 = r0.getD k 0 := by
 have := congrArg (fun l => l[0]?.getD 0) h
 simpa [List.getD_eq_getElem?_getD, Cv] using this
theorem iT {α : Type} {r r0 : List α} {k : Nat} (h : r.drop k = r0.drop k) : r.drop (k + 1) = r0.drop (k + 1) := by
 have := congrArg (List.drop 1) h
 simpa [List.drop_drop] using this
theorem tn {β j g i cy bw y bw' : Nat} {r0 d r : List Nat} (h : lv β j g r0 d i r cy bw) (hβ : 0 < β) (hg : g < β) (hi : i < d.length) (hd : ∀ x ∈ d, x < β) (hj : j + i < r0.length)
  (hy : y + (cy + g * d.getD i 0) % β + bw = r.getD (j + i) 0 + β * bw') (hyl : y < β) (hbw : bw' ≤ 1) :
  lv β j g r0 d (i + 1) (r.set (j + i) y) ((cy + g * d.getD i 0) / β) bw' := by
 have hdi := cm β hβ d hd i
 have hjl : j + i < r.length := by rw [h.len]; exact hj
 refine ⟨by rw [C3]; exact h.len, o5 β r h.dig _ y hyl, by rw [ew r _ _ _ (by omega)]; exact h.low, ?_, ?_, ?_, hbw⟩
 ·rw [← Co, gl r _ _ _ (by omega)]; exact iT h.high
 ·have hx := fA h.high
  rw [← Co, gk β r (j + i) y hjl, bi β d i hi, bi β r0 (j + i) hj, ← hx]
  have h1 := h.sum
  have h2 := Bc (cy + g * d.getD i 0) β
  generalize (cy + g * d.getD i 0) / β = q at *
  generalize (cy + g * d.getD i 0) % β = m at *
  have e1 : β ^ j * g * (ev β (d.take i) + β ^ i * d.getD i 0) = β ^ j * g * ev β (d.take i) + β ^ (j + i) * (g * d.getD i 0) := by
   rw [Bf, Bg]; congr 1; simp only [Aj, Bm, Au]
  have e2 : β ^ (j + i + 1) * (q + bw') = β ^ (j + i) * (β * q + β * bw') := by rw [As, Au, Bf]
  rw [e1, e2]
  have e3 : cy + bw + y + g * d.getD i 0 = r.getD (j + i) 0 + (β * q + β * bw') := by omega
  have e4 := congrArg (β ^ (j + i) * ·) e3
  simp only [Bf] at e4 h1 ⊢
  omega
 ·rw [Ca hβ]
  have : g * d.getD i 0 ≤ (β - 1) * (β - 1) := Dw (by omega) (by omega)
  have h3 := h.cyl
  have h4 : (β - 1) * (β - 1) + β ≤ β * β := by
   obtain ⟨b, rfl⟩ : ∃ b, β = b + 1 := ⟨β - 1, by omega⟩; simp only [Ee, Be, Bf]; omega
  omega
structure ly (β j : Nat) (r0 d : List Nat) (i : Nat) (r : List Nat) (c : Nat) : Prop where
 len : r.length = r0.length
 dig : ∀ x ∈ r, x < β
 low : r.take j = r0.take j
 high : r.drop (j + i) = r0.drop (j + i)
 sum : ev β (r.take (j + i)) + β ^ (j + i) * c = ev β (r0.take (j + i)) + β ^ j * ev β (d.take i)
 cl : c ≤ 1
theorem sY {β j : Nat} {r0 d : List Nat} (hd : ∀ x ∈ r0, x < β) : ly β j r0 d 0 r0 0 := ⟨rfl, hd, rfl, rfl, by simp [ev], by omega⟩
theorem vD {β j i c : Nat} {r0 d r : List Nat} (h : ly β j r0 d i r c) (hβ : 1 < β) (hi : i < d.length) (hd : ∀ x ∈ d, x < β) (hj : j + i < r0.length) :
  ly β j r0 d (i + 1) (r.set (j + i) ((c + r.getD (j + i) 0 + d.getD i 0) % β)) ((c + r.getD (j + i) 0 + d.getD i 0) / β) := by
 have hdi := cm β (by omega) d hd i
 have hri := cm β (by omega) r h.dig (j + i)
 have hjl : j + i < r.length := by rw [h.len]; exact hj
 have hcl := h.cl
 refine ⟨by rw [C3]; exact h.len, o5 β r h.dig _ _ (Ak _ (by omega)), by rw [ew r _ _ _ (by omega)]; exact h.low, ?_, ?_, ?_⟩
 ·rw [← Co, gl r _ _ _ (by omega)]; exact iT h.high
 ·have hx := fA h.high
  rw [← Co, gk β r (j + i) _ hjl, bi β d i hi, bi β r0 (j + i) hj, ← hx]
  have h1 := h.sum
  have h2 := Bc (c + r.getD (j + i) 0 + d.getD i 0) β
  generalize (c + r.getD (j + i) 0 + d.getD i 0) / β = q at *
  generalize (c + r.getD (j + i) 0 + d.getD i 0) % β = m at *
  have e1 : β ^ j * (ev β (d.take i) + β ^ i * d.getD i 0) = β ^ j * ev β (d.take i) + β ^ (j + i) * d.getD i 0 := by
   rw [Bf, Bg, Au]
  have e2 : β ^ (j + i + 1) * q = β ^ (j + i) * (β * q) := by rw [As, Au]
  rw [e1, e2]
  have e4 := congrArg (β ^ (j + i) * ·) h2
  simp only [Bf] at e4 h1 ⊢
  omega
 ·apply C6
  rw [Ca (by omega)]
  omega
theorem uI {β j n W Dv q : Nat} {r d : List Nat} (hβ : 0 < β) (hn : 0 < n) (hdl : d.length = n) (hj : j + n < r.length) (hr : ∀ x ∈ r, x < β)
  (hW : W = ev β (r.take (j + n + 1))) (hD : Dv = ev β d) (htop : 0 < d.getD (n - 1) 0) (hq : q * (β ^ j * Dv) ≤ W) (hlt : W < β ^ (j + 1) * Dv) :
  q ≤ (r.getD (j + n) 0 * β + r.getD (j + n - 1) 0) / d.getD (n - 1) 0 ∧ q < β := by
 have hDv : 0 < Dv := by
  rcases B0 Dv with e | e
  ·rw [e] at hlt; omega
  ·exact e
 constructor
 ·rw [Nat.le_div_iff_mul_le htop]
  have e1 : W = ev β (r.take (j + n - 1)) + β ^ (j + n - 1) * (r.getD (j + n - 1) 0 + β * r.getD (j + n) 0) := by
   rw [hW, bi β r (j + n) hj, show j + n = (j + n - 1) + 1 by omega, bi β r (j + n - 1) (by omega), As, Bf, Ee, Au, Co]
  have e2 := fD β r (j + n - 1) (by omega) hr
  have e3 : β ^ (n - 1) * d.getD (n - 1) 0 ≤ Dv := by
   rw [hD, df β d (n - 1) (by omega), Bo (by omega), ev, List.getD_eq_getElem?_getD, Ad (by omega : n - 1 < d.length), Bf]; show β ^ (n - 1) * d[n - 1] ≤ _; omega
  have e4 : β ^ (j + n - 1) * (q * d.getD (n - 1) 0) ≤ W := by
   have : q * (β ^ j * (β ^ (n - 1) * d.getD (n - 1) 0)) ≤ q * (β ^ j * Dv) := B3 _ (B3 _ e3)
   have e5 : q * (β ^ j * (β ^ (n - 1) * d.getD (n - 1) 0)) = β ^ (j + n - 1) * (q * d.getD (n - 1) 0) := by
    rw [show j + n - 1 = j + (n - 1) by omega, Bg]; simp only [Aj, Bm, Au]
   omega
  have e6 : β ^ (j + n - 1) * (q * d.getD (n - 1) 0) < β ^ (j + n - 1) * (r.getD (j + n - 1) 0 + β * r.getD (j + n) 0 + 1) := by
   rw [Bf (β ^ (j + n - 1)) _ 1, A0]; omega
  have e7 := Nat.lt_of_mul_lt_mul_left e6
  rw [Aj (r.getD (j + n) 0) β]; omega
 ·rcases Cy q β with e | e
  ·exact e
  ·have h1 : β * (β ^ j * Dv) ≤ q * (β ^ j * Dv) := Bk _ e; have h2 : β * (β ^ j * Dv) = β ^ (j + 1) * Dv := by rw [As]; simp only [Aj, Bm, Au]
   omega
end Go.Proofs.YtkdlonihbjhhoaaGreatDoor
namespace Go.Proofs.YtkdlonihbjhhoaaGreatDoor
open Go.RowKit
set_option linter.unusedSimpArgs false
set_option linter.unusedVariables false
set_option maxHeartbeats 600000
set_option maxRecDepth 20000
theorem ta (s : Bs) (c : UInt8) : val (s ++ [c]) = val s * 256 + c.toNat := by rw [fj]; simp [val]
theorem eK (s : Bs) (k : Nat) (h : k < s.length) : val (s.take (k + 1)) = val (s.take k) * 256 + (s.getD k default).toNat := by
 rw [Bt, Ad h, List.getD_eq_getElem?_getD, Ad h]
 exact ta _ _
theorem jA (s : Bs) (k : Nat) (h : k ≤ 7) : val (s.take k) < 72057594037927936 :=
 Ay (aL _) (Br (A2 (by decide) (Br (List.length_take_le _ _) h)) (by decide))
theorem dQ {s : Bs} (h : s.length ≤ 8) : val s < 18446744073709551616 :=
 Ay (aL _) (Br (A2 (by decide) h) (by decide))
def aQ (a : Bs) : Nat × Bool := if okN a ∧ a.length ≤ 8 then (val a, true) else (0, false)
theorem nT (a : Bs) : (aQ a).1 < 18446744073709551616 := by
 unfold aQ; split
 ·rename_i h; exact dQ h.2
 ·decide
theorem ex {a : Bs} {w : World} (hal : a.length ≤ 9223372036854775807) :
  Cw 154 #[.string (S a)] w (.tuple #[.int .u64 ((aQ a).1 : Int), .bool (aQ a).2]) := by
 refine En [] [(0, .string (S a))] Tryz.func154 I Tryz.ntmps154 I (Ac I (An _)) Fn (Cs (Ka I (DR ?_))); refine FJ ?_; refine Nc 9 I (fun hg9 => ?_) (fun hg9 => ?_)
 ·refine T2 I (Kt I (Yp I (Nt (Cd I (fun _ => ?_) (fun h => by cases h)))))
  refine Cs (Ka I (ne ?_))
  exact GQ
 ·refine Km I (Yn I u22 (Yg I (Yq I (Nt (Ci I (fun hc13 => ?_) (fun hc13 => ?_))))))
  ·refine Cs (Ka I (ne ?_)); exact GQ
  ·have hok : okN a ∧ a.length ≤ 8 := ⟨by simp_all, by omega⟩; refine Ck (Xa (Cs (DR ?_))); refine Yn I u22 (Km I (Nt (Cb (Lp (σ := Nat) [(0, _), (15, _)] (fun gq => [(4, .int .u64 (val (a.take gq) : Int)), (16, .int .i64 (gq : Int))]) (fun gq => gq ≤ a.length) (fun gq => a.length - gq) (0) (S2 I I) (S2 I I) (by (try dsimp only); omega) ?_)))); rintro k hinv1; (try dsimp only at hinv1 ⊢); obtain hk := hinv1; refine DP (fun hc17 => ?_) (fun hc17 => ?_)
   ·have hv := jA a k (by omega); have hc8 := (a.getD k default).toNat_lt; have hs1 := eK a k (by omega); refine El ?_; refine Ka I (Nt (Cg (Km I (Kq I (fp (c := 8) I I I (by decide) (by omega)) (Km I (Km I (Kq I (iu I I I u22 (by omega)) (Kq I (kM I I u5 u76 (by decide)) ?_)))))))); refine Kq I (kJ 8 I I I ?_) ?_
    ·omega
    refine Ns 25 I (v' := .int .u64 ((val (a.take (k + 1)) : Nat) : Int)) (congrArg (Value.int .u64) (by omega)) (Ka I (Nn (Xd (Xa (Cg (Kq I (Rz I I I (by omega)) (Km I (Nn ?_)))))))); refine Ly (k + 1) (by (try dsimp only); omega) (S2 I I) (by refine (Sc ?_ (Sc ?_ (S0 _))) <;> (rfl)) ?_ (fun _ h => h); (try dsimp only); omega
   ·refine AT ?_; obtain rfl : k = a.length := by omega
    refine Xa (Cs (Km I (Ka I (to ?_)))); exact R2 I I I (by rw [aQ, Ab hok, Ap]; rfl)
theorem kz {a : Bs} {w : World} (hal : a.length ≤ 8) :
  Cw 177 #[.string (S a)] w (.int .u64 (val a : Int)) := by
 refine En [] [(0, .string (S a))] Tryz.func177 I Tryz.ntmps177 I (Ac I (An _)) Fn (Cs (Ka I (Nt (Cs (E5 ?_))))); refine Lp (σ := Nat) [(0, _)] (fun gq => [(3, .int .u64 (val (a.take gq) : Int)), (4, .int .i64 (gq : Int))]) (fun gq => gq ≤ a.length) (fun gq => a.length - gq) (0) (S1 I) (S2 I I) (by (try dsimp only); omega) ?_
 rintro k hinv1; (try dsimp only at hinv1 ⊢)
 obtain hk := hinv1
 refine E0 ?_; refine Yn I u22 (Ew (fun hc8 => ?_) (fun hc8 => ?_))
 ·have hv := jA a k (by omega)
  have hc8 := (a.getD k default).toNat_lt
  have hs1 := eK a k (by omega)
  refine Ck (Xa (Cq (Cb (Cg (Km I (Kq I (bH (c := 256) I I I (by omega)) (Km I (Km I (Kq I (iu I I I u22 (by omega)) (Kq I (kM I I u5 u76 (by decide)) (Kq I (bN I I I (by omega)) (Ns 17 I (v' := .int .u64 ((val (a.take (k + 1)) : Nat) : Int)) (congrArg (Value.int .u64) (by omega)) (Ka I (Nn (Xd (Xa (Cg (Km I (Kq I (Rz I I I (by omega)) (Ka I (Nn (Ly (k + 1) (by (try dsimp only); omega) (S1 I) (by refine (Sc ?_ (Sc ?_ (S0 _))) <;> (rfl)) ?_ (fun _ h => h)))))))))))))))))))))))
  (try dsimp only)
  omega
 ·refine AT ?_
  obtain rfl : k = a.length := by omega
  refine Xa (Cs (Km I (to ?_)))
  exact R1 I I (by rw [Ap]; rfl)
theorem kA {a : Bs} {w : World} :
  Cw 179 #[.string (S a)] w (.tuple #[.int .u64 ((aQ a).1 : Int), .bool (aQ a).2]) := by
 refine En [] [(0, .string (S a))] Tryz.func179 I Tryz.ntmps179 I (Ac I (An _)) Fn (Cs (Ka I (DR ?_))); refine Gj ?_; refine Yt I (Km I (Nc 7 I (fun hg7 => ?_) (fun hg7 => ?_)))
 ·refine T2 I (Kt I (Yp I (Nt (Cd I (fun _ => ?_) (fun h => by cases h)))))
  refine Cs (Ka I (ne ?_))
  exact GQ
 ·refine Km I (Yn I u22 (Yg I (Yq I (Nt (Ci I (fun hc11 => ?_) (fun hc11 => ?_))))))
  ·refine Cs (Ka I (ne ?_)); exact GQ
  ·have hok : okN a ∧ a.length ≤ 8 := ⟨by simp_all, by omega⟩; have hal := hok.2; refine FN ?_; refine Kc I (fun w hS => kz (by assumption)) (Ka I (to ?_)); exact R2 I I I (by rw [aQ, Ab hok]; rfl)
theorem oU {x y : Nat} (h : x % 256 = y % 256) : UInt8.ofNat x = UInt8.ofNat y := UInt8.toNat.inj (by rw [UInt8.toNat_ofNat', UInt8.toNat_ofNat']; exact h)
def cn (c : List Nat) : List Value := c.map fun (x : Nat) => .int .i64 (x : Int)
theorem iW (n : Nat) : cn (List.replicate n 0) = List.replicate n (.int .i64 0) := by simp [cn]
theorem di (c : List Nat) (i y : Nat) : (cn c).set i (.int .i64 (y : Int)) = cn (c.set i y) := by simp [cn, List.map_set]
theorem dj (c : List Nat) : (cn c).length = c.length := by simp [cn]
theorem bg (c : List Nat) (i : Nat) (h : i < c.length) : (cn c)[i]? = some (.int .i64 (c.getD i 0 : Int)) := by
 simp [cn, A6, Ad h, List.getD_eq_getElem?_getD]
theorem rO {a b : Bs} {p : Nat} {cs : List Value} {ok : Nat → Prop} {w0 : World} {fs : List Fact} {w : World} (hS0 : St ok w0 ([⟨some p, cs, 196⟩]) (fs) w) (hcs : cs.length = 256) (ha : a.length ≤ 128) (hb : b.length ≤ 128) :
  Calls Tryz.prog 156 #[.string (S a), .string (S b), .pointer (some ⟨p, 0, none⟩)] w fun e w' => ∃ c : List Nat, e = .returned (.string (S (ae (val a * val b)))) ∧ St ok w0 [⟨some p, cn c, 196⟩] fs w' := by
 refine enter (S := St ok w0 ([⟨some p, cs, 196⟩]) (fs)) (L := [(0, .string (S a)), (1, .string (S b)), (2, .pointer (some ⟨p, 0, none⟩))]) Tryz.func156 rfl Tryz.ntmps156 rfl (Ac rfl (Ac rfl (Ac rfl (An _)))) hS0 ?_
 refine Cs (DT ?_); refine Kq I (mV I I) (Kq I (eN I I vV (by kernel_rfl : _ = some 1)) ?_)
 refine Ng I I (clr I I .tc u38 (by kernel_rfl : _ = some (some (.int .i64 0), 1, 8)) I I ?_ ?_ (show _ = cn (List.replicate 256 0) by rw [iW, Dx, Db (by omega), Bl, List.nil_append])) ?_
 ·decide
 ·omega
 intro _
 refine Nt (Cq (Cs (Km I (Yn I u22 (Km I (Nt (Cb (Lo (σ := Nat × (List Nat)) [(0, _), (1, _), (2, _), (18, _)] (fun gq => [(19, .int .i64 (gq.1 : Int))]) (fun gq => gq.1 ≤ a.length ∧ dP 256 (val a) (val b) gq.1 0 gq.2) (fun gq => a.length - gq.1) (fun gq => [⟨some p, cn gq.2, 196⟩]) (fun gq => fs) (0, List.replicate 256 0) (S4 I I I I) (S1 I) (by (try dsimp only); exact ⟨Ai _, mo _ _ _⟩) (fun _ h => h) ?_))))))))
 rintro ⟨i, c⟩ hinv1; (try dsimp only at hinv1 ⊢)
 obtain ⟨hi, hci⟩ := hinv1
 refine DP (fun hc20 => ?_) (fun hc20 => ?_)
 ·refine El ?_; refine DT ?_; refine Km I (Kc I (fun w hS => dh (a := a) (i := i) (by omega) (by omega)) (DT ?_)); refine Yn I u22 (Km I (Nt (Cb (Lo (σ := Nat × (List Nat)) [(0, _), (1, _), (2, _), (7, _), (8, _), (18, _), (19, _), (26, _)] (fun gq => [(27, .int .i64 (gq.1 : Int))]) (fun gq => gq.1 ≤ b.length ∧ dP 256 (val a) (val b) i gq.1 gq.2) (fun gq => b.length - gq.1) (fun gq => [⟨some p, cn gq.2, 196⟩]) (fun gq => fs) (0, c) (S8 I I I I I I I I) (S1 I) (by (try dsimp only); exact ⟨Ai _, hci⟩) (fun _ h => h) ?_))))
  rintro ⟨k, c2⟩ hinv2; (try dsimp only at hinv2 ⊢)
  obtain ⟨hk, hck⟩ := hinv2
  refine DP (fun hc28 => ?_) (fun hc28 => ?_)
  ·have hcl := hck.len; have hca := qY hck (by omega) (i + k); have hcs2 := oF hck (by omega); refine El ?_; refine Ka I (Nt (Cf [8, 9, 10, 0, 1, 2, 3, 4, 5, 6, 7, 11, 12, 13, 14] [15] [0, 0, 0, 0, 0, 0, 0, 0, 0, 0, 1, 0, 0, 0, 0, 2] (by kernel_rfl) (by kernel_rfl) I ?_)); refine DW ?_; refine Jv I I I I I (fun ext => Oc I I (Kv fun w hS => dh (a := b) (i := k) (by omega) (by omega))) ?_; refine DW ?_; refine ER ?_; refine FZ ?_; refine Kj I (mV I I) ?_; refine Kj I (Jb I I I vV (by kernel_rfl : _ = some 1) ?_) ?_
   ·omega
   refine Kj I (ld I I .tc u3 I (bg c2 _ (by omega))) ?_; refine ER ?_; refine Kj I (gE I I I (by omega)) (FZ ?_); refine Kj I (mV I I) ?_; refine Kj I (Jb I I I vV (by kernel_rfl : _ = some 1) ?_) ?_
   ·omega
   refine WJ.nil ?_; refine Ng I I (st I I I .tc (by kernel_rfl) I ?_ (by rfl)) ?_
   ·rw [dj]; omega
   intro _; rw [di]; refine Nn (Xd (Xa (Cg (Kq I (Rz I I I (by omega)) (Km I (Nn (Lx ((k + 1, c2.set (i + k) (c2.getD (i + k) 0 + val a / 256 ^ i % 256 * (val b / 256 ^ k % 256)))) (by (try dsimp only); omega) (S8 I I I I I I I I) (by refine (Sc ?_ (S0 _)) <;> (rfl)) ?_ (fun _ h => h)))))))); (try dsimp only); exact ⟨by omega, hcs2⟩
  ·refine AT ?_; obtain rfl : k = b.length := by omega
   have hrow := qW hck (aL b); refine Xd (Xa (Cg (Kq I (Rz I I I (by omega)) (Km I (Nn (Lx ((i + 1, c2)) (by (try dsimp only); omega) (S4 I I I I) (by refine (Sc ?_ (S0 _)) <;> (rfl)) ?_ (fun _ h => h))))))); (try dsimp only); exact ⟨by omega, hrow⟩
 ·refine AT ?_
  obtain rfl : i = a.length := by omega
  have hev := qX hci (aL a)
  have hcl := hci.len
  obtain ⟨V, hV⟩ : ∃ V, V = val a * val b := ⟨_, rfl⟩
  rw [← hV] at hev
  have hVl : V < 256 ^ (a.length + b.length) := by rw [hV, Bg]; exact Dz (aL a) (aL b)
  refine Xa (Cs (Km I (Yn I u22 (Km I (Yn I u22 (Kq I (aA I I I (by omega)) (Ka I (Nt (Cs (Km I (Kh I (ef I I I aE (by kernel_rfl : _ = some (some (.int .u8 0), 1, 1)) I ?_ (by (try simp only [sN, Int.reduceToNat, Nat.reduceAdd, Nat.reduceMul, Nat.reduceSub]); rfl) (by (try simp only [sN, Int.reduceToNat, Nat.reduceAdd, Nat.reduceMul, Nat.reduceSub]); rfl)) ?_)))))))))))
  ·omega
  intro b53
  refine Ka I (Nt (Cs (DR ?_))); refine Km I (Nt (Cb (Lo (σ := Nat × Nat) [(2, _), (10, _), (11, _), (54, _)] (fun gq => [(12, .int .i64 (gq.2 : Int)), (55, .int .i64 (gq.1 : Int))]) (fun gq => gq.1 ≤ a.length + b.length ∧ gq.2 = jv 256 c gq.1) (fun gq => a.length + b.length - gq.1) (fun gq => [⟨some b53, fw (a.length + b.length) gq.1 V, 5⟩, ⟨some p, cn c, 196⟩]) (fun gq => fs) (0, 0) (S4 I I I I) (S2 I I) (by (try dsimp only); exact ⟨Ai _, (jt 256 c).symm⟩) (by exact fun w h => by rw [cN]; exact h) ?_)))
  rintro ⟨i, cy⟩ hinv3; (try dsimp only at hinv3 ⊢)
  obtain ⟨hi, hcy⟩ := hinv3
  refine DP (fun hc56 => ?_) (fun hc56 => ?_)
  ·have hcc := mr (i := i) hci (by omega) (by omega); have hcs3 := ju 256 (by decide) c i (by omega); have hcd := lj 256 (by decide) c i (by omega); rw [← hcy] at hcc hcs3 hcd; rw [hev] at hcd; refine Ck (Xa (Cq (Cb (Cs (Km I (Ka I (Nt (Cs (Km I (Km I (Km I (Kq I (mV I I) (Kq I (Jb I I I vV (by kernel_rfl : _ = some 1) ?_) ?_)))))))))))))
   ·omega
   refine Kq I (ld I I .tc u3 I (bg c _ (by omega))) ?_; refine Fq ?_; refine DT ?_; refine Km I (Ev ?_); refine Km I (Kq I (iv I I u3 u5) (Ns 71 I (v' := B (UInt8.ofNat (V / 256 ^ i))) (by exact congrArg (fun b : UInt8 => B b) (oU hcd.symm)) ?_)); refine Ek ?_; refine Ng I I (st I I I .tc (by kernel_rfl) I ?_ (by rfl)) ?_
   ·rw [cd _ _ _ (by omega)]; omega
   intro _; refine Nt (Cg (Km I (Kq I (bA (c := 8) I I I (by decide)) (Ka I (Nn (Xd (Xa (Cg (Kq I (Rz I I I (by omega)) (Km I (Nn (Lx ((i + 1, (cy + c.getD i 0) / 256)) (by (try dsimp only); omega) (S4 I I I I) (by refine (Sc ?_ (Sc ?_ (S0 _))) <;> (rfl)) ?_ (by exact fun w h => by rw [← cb (a.length + b.length) i V (by omega)]; exact h))))))))))))); (try dsimp only); exact ⟨by omega, hcs3.symm⟩
  ·refine AT ?_; obtain rfl : i = a.length + b.length := by omega
   rw [ck]; have hbl := aP (a.length + b.length) V; refine Xa (Cs (Km I (Kc I (fun w hS => dV (b := be (a.length + b.length) V) (by (exact hS.os)) (by omega) (by omega) (by omega)) (to ?_)))); exact Rn I (.tmp I .nil) fun w' hS => ⟨c, by rw [dr, Ah hVl, hV]; rfl, au _ hS⟩
end Go.Proofs.YtkdlonihbjhhoaaGreatDoor
namespace Go.Proofs.YtkdlonihbjhhoaaGreatDoor
set_option linter.unusedSimpArgs false
set_option linter.unusedVariables false
set_option maxRecDepth 20000
section
variable {β u n y1 y0 q rh : Nat}
theorem vf (hn : n < β) (hu : u < y1 * β + y0) : (u * β + n) / (y1 * β + y0) < β := by
 rw [Ca (by omega)]
 have : (u + 1) * β ≤ (y1 * β + y0) * β := Bk _ hu
 rw [Be, Cm] at this
 rw [Aj β]; omega
theorem qU (hn : n < β) (hy1 : 0 < y1) : (u * β + n) / (y1 * β + y0) ≤ u / y1 := by
 have hβ : 0 < β := by omega
 rw [Nat.le_div_iff_mul_le hy1]
 have h1 := D4 (u * β + n) (y1 * β + y0)
 generalize (u * β + n) / (y1 * β + y0) = Q at *
 have h2 : Q * y1 * β ≤ Q * (y1 * β + y0) := by rw [Au]; exact B3 _ (by omega)
 have h3 : Q * y1 * β < (u + 1) * β := by rw [Be, Cm]; omega
 exact C6 (Nat.lt_of_mul_lt_mul_right h3)
theorem BT (hy : 0 < y1 * β + y0) (hi : u = q * y1 + rh) (hc : q * y0 ≤ β * rh + n) : q ≤ (u * β + n) / (y1 * β + y0) := by
 rw [Nat.le_div_iff_mul_le hy]
 subst hi
 have e : q * (y1 * β + y0) = q * y1 * β + q * y0 := by rw [Bf, Au]
 rw [e, Be, Aj rh β]; omega
theorem j8 (hy : 0 < y1 * β + y0) (hi : u = q * y1 + rh) (hQ : (u * β + n) / (y1 * β + y0) ≤ q) (hc : q * y0 ≤ β * rh + n) : q = (u * β + n) / (y1 * β + y0) :=
 Nat.le_antisymm (BT hy hi hc) hQ
theorem oE (hy1 : 0 < y1) (hy0 : y0 < β) (hu : u < y1 * β + y0) (hi : u = q * y1 + rh) (hb : β ≤ rh) : q < β ∧ q * y0 ≤ β * rh + n := by
 have h1 : q * y1 < β * y1 := by rw [Aj β]; omega
 have h2 : q < β := Nat.lt_of_mul_lt_mul_right h1
 refine ⟨h2, ?_⟩
 have h3 : q * y0 ≤ β * β := Dw (by omega) (by omega)
 have h4 : β * β ≤ β * rh := B3 _ hb
 omega
theorem qT (hn : n < β) (hu : u < y1 * β + y0) (hi : u = q * y1 + rh) (hQ : (u * β + n) / (y1 * β + y0) ≤ q) (hc : β ≤ q ∨ β * rh + n < q * y0) : 1 ≤ q ∧ (u * β + n) / (y1 * β + y0) ≤ q - 1 := by
 have h1 := vf hn hu
 rcases hc with hc | hc
 ·omega
 ·have h2 : (u * β + n) / (y1 * β + y0) < q := by
   rw [Ca (by omega)]; subst hi; have e : q * (y1 * β + y0) = q * y1 * β + q * y0 := by rw [Bf, Au]
   rw [e, Be, Aj rh β]; omega
  exact ⟨Bj (Ai _) h2, Nat.le_sub_one_of_lt h2⟩
end
theorem xQ {β u n1 n0 y q1 q0 v w : Nat} (h1 : u * β + n1 = q1 * y + v) (h0 : v * β + n0 = q0 * y + w) (hw : w < y) : (u * (β * β) + (n1 * β + n0)) / y = q1 * β + q0 ∧ (u * (β * β) + (n1 * β + n0)) % y = w := by
 have e : u * (β * β) + (n1 * β + n0) = (q1 * β + q0) * y + w := by
  have : (u * β + n1) * β = (q1 * y + v) * β := by rw [h1]
  simp only [Be, Au] at this ⊢
  rw [Aj y β] at this
  omega
 rw [e]
 constructor
 ·rw [Aj, Cn (by omega), Bh hw, Ba]
 ·rw [Aj, Nat.mul_add_mod, Ah hw]
structure Euc (a b r0 r1 : Nat) (x0 x1 y0 y1 : Int) : Prop where
 e0 : (a : Int) * x0 + b * y0 = r0
 e1 : (a : Int) * x1 + b * y1 = r1
 bx : x1.natAbs * r0 + x0.natAbs * r1 = b
 ab : y1.natAbs * r0 + y0.natAbs * r1 = a
 sx : (0 ≤ x0 ∧ x1 ≤ 0) ∨ (x0 ≤ 0 ∧ 0 ≤ x1)
 sy : (0 ≤ y0 ∧ y1 ≤ 0) ∨ (y0 ≤ 0 ∧ 0 ≤ y1)
 gc : Nat.gcd r0 r1 = Nat.gcd a b
theorem mi (a b : Nat) : Euc a b a b 1 0 0 1 := ⟨by simp, by simp, by simp, by simp, .inl ⟨by decide, by decide⟩, .inr ⟨by decide, by decide⟩, rfl⟩
theorem ke {x0 x1 : Int} (q : Nat) (h : (0 ≤ x0 ∧ x1 ≤ 0) ∨ (x0 ≤ 0 ∧ 0 ≤ x1)) : (x0 - q * x1).natAbs = x0.natAbs + q * x1.natAbs ∧ ((0 ≤ x1 ∧ x0 - q * x1 ≤ 0) ∨ (x1 ≤ 0 ∧ 0 ≤ x0 - q * x1)) := by
 rcases h with ⟨h0, h1⟩ | ⟨h0, h1⟩
 ·obtain ⟨m, rfl⟩ : ∃ m : Nat, x1 = -(m : Int) := ⟨x1.natAbs, by omega⟩
  have e : (q : Int) * -(m : Int) = -((q * m : Nat) : Int) := by rw [Eg, Bx]
  rw [e, Int.natAbs_neg, Bb]
  exact ⟨by omega, .inr ⟨by omega, by omega⟩⟩
 ·obtain ⟨m, rfl⟩ : ∃ m : Nat, x1 = (m : Int) := ⟨x1.natAbs, by omega⟩
  rw [← Bx, Bb]
  exact ⟨by omega, .inl ⟨by omega, by omega⟩⟩
theorem lf {a b r0 r1 : Nat} {x0 x1 y0 y1 : Int} (h : Euc a b r0 r1 x0 x1 y0 y1) (hr : 0 < r1) : Euc a b r1 (r0 % r1) x1 (x0 - (r0 / r1 : Nat) * x1) y1 (y0 - (r0 / r1 : Nat) * y1) := by
 have hd := Bc r0 r1
 obtain ⟨hx1, hx2⟩ := ke (r0 / r1) h.sx
 obtain ⟨hy1, hy2⟩ := ke (r0 / r1) h.sy
 refine ⟨h.e1, ?_, ?_, ?_, hx2, hy2, ?_⟩
 ·have h0 := h.e0; have h1 := h.e1
  have e : (r0 : Int) = r1 * (r0 / r1 : Nat) + (r0 % r1 : Nat) := by rw [← Bx, ← Ec, hd]
  generalize ((r0 / r1 : Nat) : Int) = Q at *
  generalize ((r0 % r1 : Nat) : Int) = M at *
  have e2 : (a : Int) * (x0 - Q * x1) + b * (y0 - Q * y1) = (a * x0 + b * y0) - (a * x1 + b * y1) * Q := by
   simp only [Int.mul_sub, Int.add_mul, Int.mul_assoc, Int.mul_comm Q, Int.mul_left_comm]; omega
  rw [e2, h0, h1]; omega
 ·rw [hx1]
  have h1 := h.bx
  have e3 : (x0.natAbs + r0 / r1 * x1.natAbs) * r1 + x1.natAbs * (r0 % r1) = x1.natAbs * (r1 * (r0 / r1) + r0 % r1) + x0.natAbs * r1 := by
   simp only [Be, Bf, Au, Aj, Bm]; omega
  rw [e3, hd]; exact h1
 ·rw [hy1]
  have h1 := h.ab
  have e3 : (y0.natAbs + r0 / r1 * y1.natAbs) * r1 + y1.natAbs * (r0 % r1) = y1.natAbs * (r1 * (r0 / r1) + r0 % r1) + y0.natAbs * r1 := by
   simp only [Be, Bf, Au, Aj, Bm]; omega
  rw [e3, hd]; exact h1
 ·rw [← h.gc, Nat.gcd_comm r0 r1, Nat.gcd_rec r1 r0, Nat.gcd_comm]
theorem uU {a b r0 r1 : Nat} {x0 x1 y0 y1 : Int} (h : Euc a b r0 r1 x0 x1 y0 y1) (hr : 0 < r0) : x1.natAbs ≤ b ∧ y1.natAbs ≤ a := by
 have h1 := h.bx; have h2 := h.ab
 have h3 : x1.natAbs * 1 ≤ x1.natAbs * r0 := B3 _ hr
 have h4 : y1.natAbs * 1 ≤ y1.natAbs * r0 := B3 _ hr
 omega
theorem xH {a b r0 r1 : Nat} {x0 x1 y0 y1 : Int} (h : Euc a b r0 r1 x0 x1 y0 y1) (hr : 0 < r1) : r0 / r1 * x1.natAbs ≤ b ∧ r0 / r1 * y1.natAbs ≤ a := by
 have h' := lf h hr
 have h1 := uU h' hr
 rw [(ke (r0 / r1) h.sx).1, (ke (r0 / r1) h.sy).1] at h1
 omega
end Go.Proofs.YtkdlonihbjhhoaaGreatDoor
