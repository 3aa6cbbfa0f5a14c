/-
  Parts of the walk: Int1 Zed Keep Join Wrd Dig Art Ntl3 Ars.
-/
import Derived.Test.YtkdlonihbjhhoaaGreatDoorV8
import Derived.Laws.Bits64
namespace Go.Proofs.YtkdlonihbjhhoaaGreatDoor
open Go.RowKit
set_option linter.unusedSimpArgs false
set_option linter.unusedVariables false
set_option maxHeartbeats 600000
set_option maxRecDepth 20000
abbrev Zs := Bool × Bs
abbrev zV (x : Zs) : Value := .agg #[.bool x.1, .string (S x.2)]
def okZ (x : Zs) : Prop := okN x.2 ∧ ¬ (x.1 = true ∧ x.2 = [])
instance (x : Zs) : Decidable (okZ x) := inferInstanceAs (Decidable (_ ∧ _))
def mkZ (n : Bool) (a : Bs) : Zs := (n && !decide (a = []), a)
def fi (x : Zs) : Zs := if okZ x then mkZ (!x.1) x.2 else (false, [])
def dw (x y : Zs) : Zs × Int :=
 if okZ x ∧ okZ y then
  (if x.1 = y.1 then (mkZ x.1 (addN x.2 y.2).1, (addN x.2 y.2).2)
   else if val x.2 < val y.2 then (mkZ y.1 (ae (val y.2 - val x.2)), 0) else (mkZ x.1 (ae (val x.2 - val y.2)), 0))
 else ((false, []), 3)
def cO (x y : Zs) : Zs × Int := if okZ x ∧ okZ y then dw x (fi y) else ((false, []), 3)
abbrev ZE (r : Zs × Int) : Value := .tuple #[zV r.1, .int .i64 r.2]
theorem fI {n : Bool} {a : Bs} {w : World} :
  Cw 95 #[.bool n, .string (S a)] w (zV (mkZ n a)) := by
 refine En [] [(0, .bool n), (1, .string (S a))] Tryz.func95 rfl Tryz.ntmps95 rfl (Ac rfl (Ac rfl (An _))) Fn ?_
 refine Cs ?_
 refine Kh rfl (Oz [.bool false, .string (S [])] rfl) ?_
 intro b4
 refine Nt (Cs (Km rfl (Km rfl ?_)))
 refine Nb 6 rfl (fun hg6 => ?_) (fun hg6 => ?_)
 ·(try simp only [sB] at hg6)
  refine Km rfl (Yr rfl (Yp rfl (Km rfl (Kq rfl (Kb [[.bool false], [.string (S [])]] rfl rfl) ?_))))
  refine Nu rfl rfl (Sa rfl rfl rfl .tc) ?_
  refine Nt (Ce ?_)
  exact Rn rfl (.agg rfl .tc u37 rfl (by kernel_rfl) .nil) fun w' hS => ⟨by (simp [*, tup, mkZ]; done), hS.below⟩
 ·(try simp only [sB] at hg6)
  refine Kt rfl (Kt rfl (Yq rfl (Km rfl (Kq rfl (Kb [[.bool false], [.string (S [])]] rfl rfl) ?_))))
  refine Nu rfl rfl (Sa rfl rfl rfl .tc) ?_
  refine Nt (Ce ?_)
  exact Rn rfl (.agg rfl .tc u37 rfl (by kernel_rfl) .nil) fun w' hS => ⟨by (simp [*, tup, mkZ]; done), hS.below⟩
theorem jo {n : Bool} {a : Bs} {w : World} :
  Cw 104 #[.bool n, .string (S a)] w (zV (mkZ n a)) := by
 refine En [] [(0, .bool n), (1, .string (S a))] Tryz.func104 rfl Tryz.ntmps104 rfl (Ac rfl (Ac rfl (An _))) Fn ?_
 refine Cs ?_
 refine Kh rfl (Oz [.bool false, .string (S [])] rfl) ?_
 intro b4
 refine Nt (Cs (Km rfl (Km rfl ?_)))
 refine Nb 6 rfl (fun hg6 => ?_) (fun hg6 => ?_)
 ·(try simp only [sB] at hg6)
  refine Km rfl (Yr rfl (Yp rfl (Km rfl (Kq rfl (Kb [[.bool false], [.string (S [])]] rfl rfl) ?_))))
  refine Nu rfl rfl (Sa rfl rfl rfl .tc) ?_
  refine Nt (Ce ?_)
  exact Rn rfl (.agg rfl .tc u37 rfl (by kernel_rfl) .nil) fun w' hS => ⟨by (simp [*, tup, mkZ]; done), hS.below⟩
 ·(try simp only [sB] at hg6)
  refine Kt rfl (Kt rfl (Yq rfl (Km rfl (Kq rfl (Kb [[.bool false], [.string (S [])]] rfl rfl) ?_))))
  refine Nu rfl rfl (Sa rfl rfl rfl .tc) ?_
  refine Nt (Ce ?_)
  exact Rn rfl (.agg rfl .tc u37 rfl (by kernel_rfl) .nil) fun w' hS => ⟨by (simp [*, tup, mkZ]; done), hS.below⟩
theorem dJ {x : Zs} {w : World} :
  Cw 68 #[zV x] w (.bool (decide (okZ x))) := by
 refine En [] [(0, zV x)] Tryz.func68 rfl Tryz.ntmps68 rfl (Ac rfl (An _)) Fn ?_
 refine Cs ?_
 refine Kh rfl (Oy rfl rfl) ?_
 intro b1
 refine Ka rfl (Nt (Cs (Kq rfl (Fa (q := 1) rfl rfl u37 rfl rfl) (Kq rfl (Ld rfl rfl .tc u22) ?_))))
 refine Ku rfl (Oc rfl rfl (Kv fun w hS => av (a := x.2))) ?_
 refine Km rfl ?_
 refine Nb 6 rfl (fun hg6 => ?_) (fun hg6 => ?_)
 ·(try simp only [sB] at hg6)
  refine Kq rfl (Fa (q := 0) rfl rfl u37 rfl rfl) (Kq rfl (Ld rfl rfl .tc u4) ?_)
  refine Km rfl ?_
  refine Nb 9 rfl (fun hg9 => ?_) (fun hg9 => ?_)
  ·(try simp only [sB] at hg9)
   refine Kq rfl (Fa (q := 1) rfl rfl u37 rfl rfl) (Kq rfl (Ld rfl rfl .tc u22) ?_)
   refine Ys rfl (Yp rfl (Yt rfl (Yp rfl (Ka rfl (Nt (Ce ?_))))))
   exact R1 rfl rfl (by (simp [*, tup, okZ]; done))
  ·(try simp only [sB] at hg9)
   refine Kt rfl (Kt rfl (Kt rfl (Yq rfl (Yt rfl (Yp rfl (Ka rfl (Nt (Ce ?_))))))))
   exact R1 rfl rfl (by (simp [*, tup, okZ]; done))
 ·(try simp only [sB] at hg6)
  refine Kt rfl (Kt rfl (Kt rfl (Kt rfl (Kt rfl (Kt rfl (Kt rfl (Kt rfl (Yq rfl (Ka rfl (Nt (Ce ?_)))))))))))
  exact R1 rfl rfl (by (simp [*, tup, okZ]; done))
theorem dG {x : Zs} {w : World} :
  Cw 25 #[zV x] w (.bool (decide (okZ x))) := by
 refine En [] [(0, zV x)] Tryz.func25 rfl Tryz.ntmps25 rfl (Ac rfl (An _)) Fn ?_
 refine Cs ?_
 refine Kh rfl (Oy rfl rfl) ?_
 intro b1
 refine Ka rfl (Nt (Cs (Kq rfl (Fa (q := 1) rfl rfl u37 rfl rfl) (Kq rfl (Ld rfl rfl .tc u22) ?_))))
 refine Ku rfl (Oc rfl rfl (Kv fun w hS => aA (a := x.2))) ?_
 refine Km rfl ?_
 refine Nb 6 rfl (fun hg6 => ?_) (fun hg6 => ?_)
 ·(try simp only [sB] at hg6)
  refine Kq rfl (Fa (q := 0) rfl rfl u37 rfl rfl) (Kq rfl (Ld rfl rfl .tc u4) ?_)
  refine Km rfl ?_
  refine Nb 9 rfl (fun hg9 => ?_) (fun hg9 => ?_)
  ·(try simp only [sB] at hg9)
   refine Kq rfl (Fa (q := 1) rfl rfl u37 rfl rfl) (Kq rfl (Ld rfl rfl .tc u22) ?_)
   refine Ys rfl (Yp rfl (Yt rfl (Yp rfl (Ka rfl (Nt (Ce ?_))))))
   exact R1 rfl rfl (by (simp [*, tup, okZ]; done))
  ·(try simp only [sB] at hg9)
   refine Kt rfl (Kt rfl (Kt rfl (Yq rfl (Yt rfl (Yp rfl (Ka rfl (Nt (Ce ?_))))))))
   exact R1 rfl rfl (by (simp [*, tup, okZ]; done))
 ·(try simp only [sB] at hg6)
  refine Kt rfl (Kt rfl (Kt rfl (Kt rfl (Kt rfl (Kt rfl (Kt rfl (Kt rfl (Yq rfl (Ka rfl (Nt (Ce ?_)))))))))))
  exact R1 rfl rfl (by (simp [*, tup, okZ]; done))
theorem oN {x y : Zs} {w : World} :
  Cw 96 #[zV x, zV y] w (.bool (decide (okZ x ∧ okZ y))) := by
 refine En [] [(0, zV x), (1, zV y)] Tryz.func96 rfl Tryz.ntmps96 rfl (Ac rfl (Ac rfl (An _))) Fn ?_
 refine Cs ?_
 refine Kh rfl (Oy rfl rfl) ?_
 intro b2
 refine Kh rfl (Oy rfl rfl) ?_
 intro b3
 refine Ka rfl (Nt (Cs ?_))
 refine Kq rfl (lda rfl rfl .tc u37 rfl ?_) ?_
 ·kernel_rfl
 refine Ku rfl (Oc rfl rfl (Kv fun w hS => dJ (x := x))) ?_
 refine Km rfl ?_
 refine Nb 7 rfl (fun hg7 => ?_) (fun hg7 => ?_)
 ·(try simp only [sB] at hg7)
  refine Kq rfl (lda rfl rfl .tc u37 rfl ?_) ?_
  ·kernel_rfl
  refine Ku rfl (Oc rfl rfl (Kv fun w hS => dJ (x := y))) ?_
  refine Yp rfl (Ka rfl (Nt (Ce ?_)))
  exact R1 rfl rfl (by (simp [*, tup]; done))
 ·(try simp only [sB] at hg7)
  refine Kt rfl (Kt rfl (Yq rfl (Ka rfl (Nt (Ce ?_)))))
  exact R1 rfl rfl (by (simp [*, tup]; done))
theorem rF {x : Zs} {w : World} :
  Cw 99 #[zV x] w (zV (fi x)) := by
 refine En [] [(0, zV x)] Tryz.func99 rfl Tryz.ntmps99 rfl (Ac rfl (An _)) Fn ?_
 refine Cs ?_
 refine Kh rfl (Oy rfl rfl) ?_
 intro b1
 refine Kh rfl (Oz [.bool false, .string (S [])] rfl) ?_
 intro b2
 refine Nt (Cq (Cs ?_))
 refine Kq rfl (lda rfl rfl .tc u37 rfl ?_) ?_
 ·kernel_rfl
 refine Ku rfl (Oc rfl rfl (Kv fun w hS => dJ (x := x))) ?_
 refine Yt rfl (Nt ?_)
 refine Cd rfl (fun hc5 => ?_) (fun hc5 => ?_)
 ·(try simp only [sB] at hc5)
  have hr : fi x = (false, []) := by rw [fi, if_neg (by simpa using hc5)]
  refine Cs (Kq rfl (Kb [[.bool false], [.string (S [])]] rfl rfl) ?_)
  refine Nu rfl rfl (Sa rfl rfl rfl .tc) ?_
  refine Nt (Ce (Xb ?_))
  exact Rn rfl (.agg rfl .tc u37 rfl (by kernel_rfl) .nil) fun w' hS => ⟨by rw [hr]; rfl, hS.below⟩
 ·(try simp only [sB] at hc5)
  have hr : fi x = mkZ (!x.1) x.2 := by rw [fi, if_pos (by simpa using hc5)]
  refine Ck (Xa (Cs (Kq rfl (Fa (q := 0) rfl rfl u37 rfl rfl) (Kq rfl (Ld rfl rfl .tc u4) ?_))))
  refine Yt rfl (Kq rfl (Fa (q := 1) rfl rfl u37 rfl rfl) (Kq rfl (Ld rfl rfl .tc u22) ?_))
  refine Ku rfl (Oc rfl rfl (Kv fun w hS => fI (n := !x.1) (a := x.2))) ?_
  refine Nu rfl rfl (Sa rfl rfl rfl .tc) ?_
  refine Nt (Ce ?_)
  exact Rn rfl (.agg rfl .tc u37 rfl (by kernel_rfl) .nil) fun w' hS => ⟨by rw [hr]; rfl, hS.below⟩
theorem uR {x : Zs} {w : World} :
  Cw 65 #[zV x] w (zV (fi x)) := by
 refine En [] [(0, zV x)] Tryz.func65 rfl Tryz.ntmps65 rfl (Ac rfl (An _)) Fn ?_
 refine Cs ?_
 refine Kh rfl (Oy rfl rfl) ?_
 intro b1
 refine Kh rfl (Oz [.bool false, .string (S [])] rfl) ?_
 intro b2
 refine Nt (Cq (Cs ?_))
 refine Kq rfl (lda rfl rfl .tc u37 rfl ?_) ?_
 ·kernel_rfl
 refine Ku rfl (Oc rfl rfl (Kv fun w hS => dG (x := x))) ?_
 refine Yt rfl (Nt ?_)
 refine Cd rfl (fun hc5 => ?_) (fun hc5 => ?_)
 ·(try simp only [sB] at hc5)
  have hr : fi x = (false, []) := by rw [fi, if_neg (by simpa using hc5)]
  refine Cs (Kq rfl (Kb [[.bool false], [.string (S [])]] rfl rfl) ?_)
  refine Nu rfl rfl (Sa rfl rfl rfl .tc) ?_
  refine Nt (Ce (Xb ?_))
  exact Rn rfl (.agg rfl .tc u37 rfl (by kernel_rfl) .nil) fun w' hS => ⟨by rw [hr]; rfl, hS.below⟩
 ·(try simp only [sB] at hc5)
  have hr : fi x = mkZ (!x.1) x.2 := by rw [fi, if_pos (by simpa using hc5)]
  refine Ck (Xa (Cs (Kq rfl (Fa (q := 0) rfl rfl u37 rfl rfl) (Kq rfl (Ld rfl rfl .tc u4) ?_))))
  refine Yt rfl (Kq rfl (Fa (q := 1) rfl rfl u37 rfl rfl) (Kq rfl (Ld rfl rfl .tc u22) ?_))
  refine Ku rfl (Oc rfl rfl (Kv fun w hS => jo (n := !x.1) (a := x.2))) ?_
  refine Nu rfl rfl (Sa rfl rfl rfl .tc) ?_
  refine Nt (Ce ?_)
  exact Rn rfl (.agg rfl .tc u37 rfl (by kernel_rfl) .nil) fun w' hS => ⟨by rw [hr]; rfl, hS.below⟩
theorem jl {a b : Bs} (ha : okN a) (hb : okN b) (h : val b ≤ val a) : eQ a b = (ae (val a - val b), 0) := by rw [eQ, if_pos ⟨ha, hb⟩, if_neg (by omega)]
theorem az {a b : Bs} (ha : okN a) (hb : okN b) : ej a b = cP (val a) (val b) := by rw [ej, if_pos ⟨ha, hb⟩]
theorem rH {x y : Zs} {w : World} :
  Cw 98 #[zV x, zV y] w (ZE (dw x y)) := by
 refine En [] [(0, zV x), (1, zV y)] Tryz.func98 rfl Tryz.ntmps98 rfl (Ac rfl (Ac rfl (An _))) Fn ?_
 refine Cs ?_
 refine Kh rfl (Oy rfl rfl) ?_
 intro b2
 refine Kh rfl (Oy rfl rfl) ?_
 intro b3
 refine Kh rfl (Oz [.bool false, .string (S [])] rfl) ?_
 intro b4
 refine Ka rfl (Nt (Cq (Cs ?_)))
 refine Kq rfl (lda rfl rfl .tc u37 rfl ?_) ?_
 ·kernel_rfl
 refine Kq rfl (lda rfl rfl .tc u37 rfl ?_) ?_
 ·kernel_rfl
 refine Ku rfl (Oc rfl rfl (Kv fun w hS => oN (x := x) (y := y))) ?_
 refine Yt rfl (Nt ?_)
 refine Cd rfl (fun hc13 => ?_) (fun hc13 => ?_)
 ·(try simp only [sB] at hc13)
  have hr : dw x y = ((false, []), 3) := by rw [dw, if_neg (by simpa using hc13)]
  refine Cs (Kq rfl (Kb [[.bool false], [.string (S [])]] rfl rfl) ?_)
  refine Nu rfl rfl (Sa rfl rfl rfl .tc) ?_
  refine Ka rfl (Nt (Ce (Xb ?_)))
  exact Rn rfl (.agg rfl .tc u37 rfl (by kernel_rfl) (.tmp rfl .nil)) fun w' hS => ⟨by rw [hr]; rfl, hS.below⟩
 ·(try simp only [sB] at hc13)
  have hok : okZ x ∧ okZ y := by simpa using hc13
  have ho1 := hok.1.1; have ho2 := hok.2.1
  refine Ck (Xa (Cq (Cs (Kq rfl (Fa (q := 0) rfl rfl u37 rfl rfl) (Kq rfl (Ld rfl rfl .tc u4) ?_)))))
  refine Kq rfl (Fa (q := 0) rfl rfl u37 rfl rfl) (Kq rfl (Ld rfl rfl .tc u4) ?_)
  refine Kq rfl (sF rfl rfl rfl u4) (Nt ?_)
  refine Cd rfl (fun hc19 => ?_) (fun hc19 => ?_)
  ·(try simp only [sB] at hc19)
   have hs : x.1 = y.1 := by simpa using hc19
   have hr : dw x y = (mkZ x.1 (addN x.2 y.2).1, (addN x.2 y.2).2) := by rw [dw, if_pos hok, if_pos hs]
   refine Cs (Kq rfl (Fa (q := 1) rfl rfl u37 rfl rfl) (Kq rfl (Ld rfl rfl .tc u22) ?_))
   refine Kq rfl (Fa (q := 1) rfl rfl u37 rfl rfl) (Kq rfl (Ld rfl rfl .tc u22) ?_)
   refine Ku rfl (Oc rfl rfl (Kv fun w hS => wW (a := x.2) (b := y.2))) ?_
   refine Km rfl (Ye rfl (Ye rfl (Ka rfl (Ka rfl (Nt (Cs (Kq rfl (Fa (q := 0) rfl rfl u37 rfl rfl) (Kq rfl (Ld rfl rfl .tc u4) ?_))))))))
   refine Km rfl ?_
   refine Ku rfl (Oc rfl rfl (Kv fun w hS => fI (n := x.1) (a := (addN x.2 y.2).1))) ?_
   refine Km rfl ?_
   refine Nu rfl rfl (Sa rfl rfl rfl .tc) ?_
   refine Ka rfl (Nt (Ce (Xb ?_)))
   exact Rn rfl (.agg rfl .tc u37 rfl (by kernel_rfl) (.tmp rfl .nil)) fun w' hS => ⟨by rw [hr]; rfl, hS.below⟩
  ·(try simp only [sB] at hc19)
   have hs : ¬ x.1 = y.1 := by simpa using hc19
   refine Ck (Xa (Cq (Cs (Kq rfl (Fa (q := 1) rfl rfl u37 rfl rfl) (Kq rfl (Ld rfl rfl .tc u22) ?_)))))
   refine Kq rfl (Fa (q := 1) rfl rfl u37 rfl rfl) (Kq rfl (Ld rfl rfl .tc u22) ?_)
   refine Ku rfl (Oc rfl rfl (Kv fun w hS => dT (a := x.2) (b := y.2))) ?_
   refine Yl rfl (Nt ?_)
   refine Cd rfl (fun hc38 => ?_) (fun hc38 => ?_)
   ·(try simp only [sB] at hc38)
    rw [az ho1 ho2, aw] at hc38
    have hr : dw x y = (mkZ y.1 (ae (val y.2 - val x.2)), 0) := by rw [dw, if_pos hok, if_neg hs, if_pos hc38]
    refine Cg ?_
    refine Kq rfl (lda rfl rfl .tc u37 rfl ?_) ?_
    ·kernel_rfl
    refine Kq rfl (lda rfl rfl .tc u37 rfl ?_) ?_
    ·kernel_rfl
    refine Nu rfl rfl (Sa rfl rfl rfl .tc) ?_
    refine Nu rfl rfl (Sa rfl rfl rfl .tc) ?_
    refine Nt (Cs (Kq rfl (Fa (q := 1) rfl rfl u37 rfl rfl) (Kq rfl (Ld rfl rfl .tc u22) ?_)))
    refine Kq rfl (Fa (q := 1) rfl rfl u37 rfl rfl) (Kq rfl (Ld rfl rfl .tc u22) ?_)
    refine Ku rfl (Oc rfl rfl (Kv fun w hS => o0)) ?_
    refine Km rfl (Ye rfl (Ye rfl (Ka rfl (Ka rfl (Nt (Cs (Kq rfl (Fa (q := 0) rfl rfl u37 rfl rfl) (Kq rfl (Ld rfl rfl .tc u4) ?_))))))))
    refine Km rfl ?_
    refine Ku rfl (Oc rfl rfl (Kv fun w hS => fI)) ?_
    refine Km rfl ?_
    refine Nu rfl rfl (Sa rfl rfl rfl .tc) ?_
    refine Ka rfl (Nt (Ce ?_))
    exact Rn rfl (.agg rfl .tc u37 rfl (by kernel_rfl) (.tmp rfl .nil)) fun w' hS => ⟨by rw [hr]; (rw [jl ho2 ho1 (by omega)]; rfl), hS.below⟩
   ·(try simp only [sB] at hc38)
    have hge : val y.2 ≤ val x.2 := Nat.not_lt.1 fun h => by rw [az ho1 ho2] at hc38; have := (aw _ _).2 h; omega
    have hr : dw x y = (mkZ x.1 (ae (val x.2 - val y.2)), 0) := by rw [dw, if_pos hok, if_neg hs, if_neg (by omega)]
    refine Ck (Xa (Cs (Kq rfl (Fa (q := 1) rfl rfl u37 rfl rfl) (Kq rfl (Ld rfl rfl .tc u22) ?_))))
    refine Kq rfl (Fa (q := 1) rfl rfl u37 rfl rfl) (Kq rfl (Ld rfl rfl .tc u22) ?_)
    refine Ku rfl (Oc rfl rfl (Kv fun w hS => o0)) ?_
    refine Km rfl (Ye rfl (Ye rfl (Ka rfl (Ka rfl (Nt (Cs (Kq rfl (Fa (q := 0) rfl rfl u37 rfl rfl) (Kq rfl (Ld rfl rfl .tc u4) ?_))))))))
    refine Km rfl ?_
    refine Ku rfl (Oc rfl rfl (Kv fun w hS => fI)) ?_
    refine Km rfl ?_
    refine Nu rfl rfl (Sa rfl rfl rfl .tc) ?_
    refine Ka rfl (Nt (Ce ?_))
    exact Rn rfl (.agg rfl .tc u37 rfl (by kernel_rfl) (.tmp rfl .nil)) fun w' hS => ⟨by rw [hr]; (rw [jl ho1 ho2 hge]; rfl), hS.below⟩
theorem lJ {x y : Zs} {w : World} :
  Cw 47 #[zV x, zV y] w (ZE (cO x y)) := by
 refine En [] [(0, zV x), (1, zV y)] Tryz.func47 rfl Tryz.ntmps47 rfl (Ac rfl (Ac rfl (An _))) Fn ?_
 refine Cs ?_
 refine Kh rfl (Oy rfl rfl) ?_
 intro b2
 refine Kh rfl (Oy rfl rfl) ?_
 intro b3
 refine Kh rfl (Oz [.bool false, .string (S [])] rfl) ?_
 intro b4
 refine Ka rfl (Nt (Cq (Cs ?_)))
 refine Kq rfl (lda rfl rfl .tc u37 rfl ?_) ?_
 ·kernel_rfl
 refine Kq rfl (lda rfl rfl .tc u37 rfl ?_) ?_
 ·kernel_rfl
 refine Ku rfl (Oc rfl rfl (Kv fun w hS => oN (x := x) (y := y))) ?_
 refine Yt rfl (Nt ?_)
 refine Cd rfl (fun hc9 => ?_) (fun hc9 => ?_)
 ·(try simp only [sB] at hc9)
  have hr : cO x y = ((false, []), 3) := by rw [cO, if_neg (by simpa using hc9)]
  refine Cs (Kq rfl (Kb [[.bool false], [.string (S [])]] rfl rfl) ?_)
  refine Nu rfl rfl (Sa rfl rfl rfl .tc) ?_
  refine Ka rfl (Nt (Ce (Xb ?_)))
  exact Rn rfl (.agg rfl .tc u37 rfl (by kernel_rfl) (.tmp rfl .nil)) fun w' hS => ⟨by rw [hr]; rfl, hS.below⟩
 ·(try simp only [sB] at hc9)
  have hr : cO x y = dw x (fi y) := by rw [cO, if_pos (by simpa using hc9)]
  refine Ck (Xa (Cq ?_))
  refine Cf [1, 2, 0, 3, 4, 5] [6, 7] [0, 0, 1, 1, 0, 0, 2, 2] (by kernel_rfl) (by kernel_rfl) rfl ?_
  refine Kj rfl (lda rfl rfl .tc u37 rfl ?_) ?_
  ·kernel_rfl
  refine Jv rfl rfl rfl rfl rfl (fun ext => Oc rfl rfl (Kv fun w hS => rF (x := y))) ?_
  refine Kj rfl (lda rfl rfl .tc u37 rfl ?_) ?_
  ·kernel_rfl
  refine Jv rfl rfl rfl rfl rfl (fun ext => Oc rfl rfl (Kv fun w hS => rH (x := x) (y := fi y))) ?_
  refine Kj rfl (Re rfl rfl rfl) (Kj rfl (Re rfl rfl rfl) ?_)
  refine WJ.nil ?_
  refine Nu rfl rfl (Sa rfl rfl rfl .tc) ?_
  refine Ka rfl (Nt (Ce ?_))
  exact Rn rfl (.agg rfl .tc u37 rfl (by kernel_rfl) (.tmp rfl .nil)) fun w' hS => ⟨by rw [hr]; rfl, hS.below⟩
theorem uS {x y : Zs} {w : World} :
  Cw 105 #[zV x, zV y] w (ZE (dw x y)) := by
 refine En [] [(0, zV x), (1, zV y)] Tryz.func105 rfl Tryz.ntmps105 rfl (Ac rfl (Ac rfl (An _))) Fn ?_
 refine Cs ?_
 refine Kh rfl (Oy rfl rfl) ?_
 intro b2
 refine Kh rfl (Oy rfl rfl) ?_
 intro b3
 refine Kh rfl (Oz [.bool false, .string (S [])] rfl) ?_
 intro b4
 refine Ka rfl (Nt (Cq (Cs ?_)))
 refine Kq rfl (lda rfl rfl .tc u37 rfl ?_) ?_
 ·kernel_rfl
 refine Ku rfl (Oc rfl rfl (Kv fun w hS => dG (x := x))) ?_
 refine Yt rfl (Km rfl ?_)
 refine Nb 15 rfl (fun hg15 => ?_) (fun hg15 => ?_)
 ·(try simp only [sB] at hg15)
  refine Kt rfl (Kt rfl (Kt rfl (Yp rfl (Nt ?_))))
  refine Cd rfl (fun _ => ?_) (fun h => by cases h)
  refine Cs (Kq rfl (Kb [[.bool false], [.string (S [])]] rfl rfl) ?_)
  refine Nu rfl rfl (Sa rfl rfl rfl .tc) ?_
  refine Ka rfl (Nt (Ce (Xb ?_)))
  exact Rn rfl (.agg rfl .tc u37 rfl (by kernel_rfl) (.tmp rfl .nil)) fun w' hS => ⟨by rw [show dw x y = ((false, []), 3) from by rw [dw, if_neg (by simp_all)]]; rfl, hS.below⟩
 ·(try simp only [sB] at hg15)
  refine Kq rfl (lda rfl rfl .tc u37 rfl ?_) ?_
  ·kernel_rfl
  refine Ku rfl (Oc rfl rfl (Kv fun w hS => dG (x := y))) ?_
  refine Yt rfl (Yq rfl (Nt ?_))
  refine Cd rfl (fun hc19 => ?_) (fun hc19 => ?_)
  ·(try simp only [sB] at hc19)
   refine Cs (Kq rfl (Kb [[.bool false], [.string (S [])]] rfl rfl) ?_)
   refine Nu rfl rfl (Sa rfl rfl rfl .tc) ?_
   refine Ka rfl (Nt (Ce (Xb ?_)))
   exact Rn rfl (.agg rfl .tc u37 rfl (by kernel_rfl) (.tmp rfl .nil)) fun w' hS => ⟨by rw [show dw x y = ((false, []), 3) from by rw [dw, if_neg (by simp_all)]]; rfl, hS.below⟩
  ·(try simp only [sB] at hc19)
   have hok : okZ x ∧ okZ y := by simp_all
   have ho1 := hok.1.1; have ho2 := hok.2.1
   refine Ck (Xa (Cq (Cs (Kq rfl (Fa (q := 0) rfl rfl u37 rfl rfl) (Kq rfl (Ld rfl rfl .tc u4) ?_)))))
   refine Kq rfl (Fa (q := 0) rfl rfl u37 rfl rfl) (Kq rfl (Ld rfl rfl .tc u4) ?_)
   refine Kq rfl (sF rfl rfl rfl u4) (Nt ?_)
   refine Cd rfl (fun hc25 => ?_) (fun hc25 => ?_)
   ·(try simp only [sB] at hc25)
    have hs : x.1 = y.1 := by simpa using hc25
    have hr : dw x y = (mkZ x.1 (addN x.2 y.2).1, (addN x.2 y.2).2) := by rw [dw, if_pos hok, if_pos hs]
    refine Cs (Kq rfl (Fa (q := 1) rfl rfl u37 rfl rfl) (Kq rfl (Ld rfl rfl .tc u22) ?_))
    refine Kq rfl (Fa (q := 1) rfl rfl u37 rfl rfl) (Kq rfl (Ld rfl rfl .tc u22) ?_)
    refine Ku rfl (Oc rfl rfl (Kv fun w hS => xF (a := x.2) (b := y.2))) ?_
    refine Km rfl (Ye rfl (Ye rfl (Ka rfl (Ka rfl (Nt (Cs (Kq rfl (Fa (q := 0) rfl rfl u37 rfl rfl) (Kq rfl (Ld rfl rfl .tc u4) ?_))))))))
    refine Km rfl ?_
    refine Ku rfl (Oc rfl rfl (Kv fun w hS => jo (n := x.1) (a := (addN x.2 y.2).1))) ?_
    refine Km rfl ?_
    refine Nu rfl rfl (Sa rfl rfl rfl .tc) ?_
    refine Ka rfl (Nt (Ce (Xb ?_)))
    exact Rn rfl (.agg rfl .tc u37 rfl (by kernel_rfl) (.tmp rfl .nil)) fun w' hS => ⟨by rw [hr]; rfl, hS.below⟩
   ·(try simp only [sB] at hc25)
    have hs : ¬ x.1 = y.1 := by simpa using hc25
    refine Ck (Xa (Cq (Cs (Kq rfl (Fa (q := 1) rfl rfl u37 rfl rfl) (Kq rfl (Ld rfl rfl .tc u22) ?_)))))
    refine Kq rfl (Fa (q := 1) rfl rfl u37 rfl rfl) (Kq rfl (Ld rfl rfl .tc u22) ?_)
    refine Ku rfl (Oc rfl rfl (Kv fun w hS => l7 (a := x.2) (b := y.2))) ?_
    refine Yh rfl (Nt ?_)
    refine Cd rfl (fun hc44 => ?_) (fun hc44 => ?_)
    ·(try simp only [sB] at hc44)
     have hge : val y.2 ≤ val x.2 := Nat.not_lt.1 fun h => by rw [az ho1 ho2] at hc44; have := (aw _ _).2 h; omega
     have hr : dw x y = (mkZ x.1 (ae (val x.2 - val y.2)), 0) := by rw [dw, if_pos hok, if_neg hs, if_neg (by omega)]
     refine Cs (Kq rfl (Fa (q := 1) rfl rfl u37 rfl rfl) (Kq rfl (Ld rfl rfl .tc u22) ?_))
     refine Kq rfl (Fa (q := 1) rfl rfl u37 rfl rfl) (Kq rfl (Ld rfl rfl .tc u22) ?_)
     refine Ku rfl (Oc rfl rfl (Kv fun w hS => sj (a := x.2) (b := y.2))) ?_
     refine Km rfl (Ye rfl (Ye rfl (Ka rfl (Ka rfl (Nt (Cs (Kq rfl (Fa (q := 0) rfl rfl u37 rfl rfl) (Kq rfl (Ld rfl rfl .tc u4) ?_))))))))
     refine Km rfl ?_
     refine Ku rfl (Oc rfl rfl (Kv fun w hS => jo (n := x.1) (a := (eQ x.2 y.2).1))) ?_
     refine Nu rfl rfl (Sa rfl rfl rfl .tc) ?_
     refine Ka rfl (Nt (Ce (Xb ?_)))
     exact Rn rfl (.agg rfl .tc u37 rfl (by kernel_rfl) (.tmp rfl .nil)) fun w' hS => ⟨by rw [hr, jl ho1 ho2 hge]; rfl, hS.below⟩
    ·(try simp only [sB] at hc44)
     rw [az ho1 ho2, aw] at hc44
     have hr : dw x y = (mkZ y.1 (ae (val y.2 - val x.2)), 0) := by rw [dw, if_pos hok, if_neg hs, if_pos hc44]
     refine Ck (Xa (Cs (Kq rfl (Fa (q := 1) rfl rfl u37 rfl rfl) (Kq rfl (Ld rfl rfl .tc u22) ?_))))
     refine Kq rfl (Fa (q := 1) rfl rfl u37 rfl rfl) (Kq rfl (Ld rfl rfl .tc u22) ?_)
     refine Ku rfl (Oc rfl rfl (Kv fun w hS => sj (a := y.2) (b := x.2))) ?_
     refine Km rfl (Ye rfl (Ye rfl (Ka rfl (Ka rfl (Nt (Cs (Kq rfl (Fa (q := 0) rfl rfl u37 rfl rfl) (Kq rfl (Ld rfl rfl .tc u4) ?_))))))))
     refine Km rfl ?_
     refine Ku rfl (Oc rfl rfl (Kv fun w hS => jo (n := y.1) (a := (eQ y.2 x.2).1))) ?_
     refine Nu rfl rfl (Sa rfl rfl rfl .tc) ?_
     refine Ka rfl (Nt (Ce ?_))
     exact Rn rfl (.agg rfl .tc u37 rfl (by kernel_rfl) (.tmp rfl .nil)) fun w' hS => ⟨by rw [hr, jl ho2 ho1 (by omega)]; rfl, hS.below⟩
theorem uQ {x y : Zs} {w : World} :
  Cw 54 #[zV x, zV y] w (ZE (cO x y)) := by
 refine En [] [(0, zV x), (1, zV y)] Tryz.func54 rfl Tryz.ntmps54 rfl (Ac rfl (Ac rfl (An _))) Fn ?_
 refine Cs ?_
 refine Kh rfl (Oy rfl rfl) ?_
 intro b2
 refine Kh rfl (Oy rfl rfl) ?_
 intro b3
 refine Kh rfl (Oz [.bool false, .string (S [])] rfl) ?_
 intro b4
 refine Ka rfl (Nt (Cq (Cs ?_)))
 refine Kq rfl (lda rfl rfl .tc u37 rfl ?_) ?_
 ·kernel_rfl
 refine Ku rfl (Oc rfl rfl (Kv fun w hS => dG (x := x))) ?_
 refine Yt rfl (Km rfl ?_)
 refine Nb 9 rfl (fun hg9 => ?_) (fun hg9 => ?_)
 ·(try simp only [sB] at hg9)
  refine Kt rfl (Kt rfl (Kt rfl (Yp rfl (Nt ?_))))
  refine Cd rfl (fun _ => ?_) (fun h => by cases h)
  refine Cs (Kq rfl (Kb [[.bool false], [.string (S [])]] rfl rfl) ?_)
  refine Nu rfl rfl (Sa rfl rfl rfl .tc) ?_
  refine Ka rfl (Nt (Ce (Xb ?_)))
  exact Rn rfl (.agg rfl .tc u37 rfl (by kernel_rfl) (.tmp rfl .nil)) fun w' hS => ⟨by rw [show cO x y = ((false, []), 3) from by rw [cO, if_neg (by simp_all)]]; rfl, hS.below⟩
 ·(try simp only [sB] at hg9)
  refine Kq rfl (lda rfl rfl .tc u37 rfl ?_) ?_
  ·kernel_rfl
  refine Ku rfl (Oc rfl rfl (Kv fun w hS => dG (x := y))) ?_
  refine Yt rfl (Yq rfl (Nt ?_))
  refine Cd rfl (fun hc13 => ?_) (fun hc13 => ?_)
  ·(try simp only [sB] at hc13)
   refine Cs (Kq rfl (Kb [[.bool false], [.string (S [])]] rfl rfl) ?_)
   refine Nu rfl rfl (Sa rfl rfl rfl .tc) ?_
   refine Ka rfl (Nt (Ce (Xb ?_)))
   exact Rn rfl (.agg rfl .tc u37 rfl (by kernel_rfl) (.tmp rfl .nil)) fun w' hS => ⟨by rw [show cO x y = ((false, []), 3) from by rw [cO, if_neg (by simp_all)]]; rfl, hS.below⟩
  ·(try simp only [sB] at hc13)
   have hr : cO x y = dw x (fi y) := by rw [cO, if_pos (by simp_all)]
   refine Ck (Xa (Cq ?_))
   refine Cf [1, 2, 0, 3, 4, 5] [6, 7] [0, 0, 1, 1, 0, 0, 2, 2] (by kernel_rfl) (by kernel_rfl) rfl ?_
   refine Kj rfl (lda rfl rfl .tc u37 rfl ?_) ?_
   ·kernel_rfl
   refine Jv rfl rfl rfl rfl rfl (fun ext => Oc rfl rfl (Kv fun w hS => uR (x := y))) ?_
   refine Kj rfl (lda rfl rfl .tc u37 rfl ?_) ?_
   ·kernel_rfl
   refine Jv rfl rfl rfl rfl rfl (fun ext => Oc rfl rfl (Kv fun w hS => uS (x := x) (y := fi y))) ?_
   refine Kj rfl (Re rfl rfl rfl) (Kj rfl (Re rfl rfl rfl) ?_)
   refine WJ.nil ?_
   refine Nu rfl rfl (Sa rfl rfl rfl .tc) ?_
   refine Ka rfl (Nt (Ce ?_))
   exact Rn rfl (.agg rfl .tc u37 rfl (by kernel_rfl) (.tmp rfl .nil)) fun w' hS => ⟨by rw [hr]; rfl, hS.below⟩
def ofZ (n : Int) : Zs := mkZ (decide (n < 0)) (ae n.natAbs)
theorem jC {n : Int} {w : World} (h0 : -9223372036854775808 ≤ n) (h1 : n ≤ 9223372036854775807) :
  Cw 44 #[.int .i64 n] w (zV (ofZ n)) := by
 refine En [] [(0, .int .i64 n)] Tryz.func44 rfl Tryz.ntmps44 rfl (Ac rfl (An _)) Fn ?_
 refine Cs ?_
 refine Kh rfl (Oz [.bool false, .string (S [])] rfl) ?_
 intro b2
 refine Nt (Cq (Cs (Km rfl (Yl rfl (Nt ?_)))))
 refine Cd rfl (fun hc4 => ?_) (fun hc4 => ?_)
 ·(try simp only [sB] at hc4)
  have hr : ofZ n = mkZ true (ae n.natAbs) := by rw [ofZ, decide_eq_true hc4]
  refine Cs (Km rfl (Kq rfl (aQ rfl rfl u2 u76) (Kq rfl (sv rfl rfl) ?_)))
  refine Ns 7 rfl (v' := .int .u64 ((n.natAbs : Nat) : Int)) (by exact congrArg (Value.int .u64) (by rw [IntKind.wrap_u64, IntKind.wrap_u64]; omega)) ?_
  refine Ku rfl (Oc rfl rfl (Kv fun w hS => fF (n := n.natAbs) (by omega))) ?_
  refine Ku rfl (Oc rfl rfl (Kv fun w hS => fI (n := true) (a := ae n.natAbs))) ?_
  refine Nu rfl rfl (Sa rfl rfl rfl .tc) ?_
  refine Nt (Ce (Xb ?_))
  exact Rn rfl (.agg rfl .tc u37 rfl (by kernel_rfl) .nil) fun w' hS => ⟨by rw [hr]; rfl, hS.below⟩
 ·(try simp only [sB] at hc4)
  have hr : ofZ n = mkZ false (ae n.natAbs) := by rw [ofZ, decide_eq_false (by omega)]
  refine Ck (Xa (Cs (Km rfl (Kq rfl (aQ rfl rfl u2 u76) ?_))))
  refine Ns 11 rfl (v' := .int .u64 ((n.natAbs : Nat) : Int)) (by exact congrArg (Value.int .u64) (by rw [IntKind.wrap_u64]; omega)) ?_
  refine Ku rfl (Oc rfl rfl (Kv fun w hS => fF (n := n.natAbs) (by omega))) ?_
  refine Ku rfl (Oc rfl rfl (Kv fun w hS => fI (n := false) (a := ae n.natAbs))) ?_
  refine Nu rfl rfl (Sa rfl rfl rfl .tc) ?_
  refine Nt (Ce ?_)
  exact Rn rfl (.agg rfl .tc u37 rfl (by kernel_rfl) .nil) fun w' hS => ⟨by rw [hr]; rfl, hS.below⟩
theorem au {n : Nat} (h : n < Big) : okN (ae n) := ⟨dh.2 h, bD n⟩
theorem bv {s : Bs} (h : okN s) : val s < Big := Nat.lt_of_lt_of_le (aK s) (Nat.pow_le_pow_right (by decide) h.1)
theorem bC {n : Nat} : ae n = [] ↔ n = 0 := ⟨fun h => by rw [← af n, h]; rfl, fun h => by rw [h]; exact dR⟩
theorem gl {a b : Nat} : ae a = ae b ↔ a = b := ⟨fun h => by rw [← af a, h, af], fun h => by rw [h]⟩
theorem dp {s : Bs} (h : okN s) : ae (val s) = s := ri h.2
def zv (x : Zs) : Int := if x.1 then -(val x.2 : Int) else val x.2
theorem cJ (n : Int) : ofZ n = (decide (n < 0), ae n.natAbs) := by
 unfold ofZ mkZ
 by_cases h : n < 0
 ·rw [decide_eq_true h, Bool.true_and, decide_eq_false (by rw [bC]; omega)]; rfl
 ·rw [decide_eq_false h, Bool.false_and]
theorem rE (n : Int) : zv (ofZ n) = n := by
 rw [cJ, zv]
 by_cases h : n < 0
 ·rw [if_pos (by simpa using h), af]; omega
 ·rw [if_neg (by simpa using h), af]; omega
theorem sU {x : Zs} (h : okZ x) : ofZ (zv x) = x := by
 obtain ⟨s, a⟩ := x
 have ha : okN a := h.1
 have h2 : ¬ (s = true ∧ a = []) := h.2
 have hc := dp ha
 rw [cJ, zv]
 cases s with
 | false =>
  rw [if_neg (by simp)]
  show (decide ((val a : Int) < 0), ae (val a : Int).natAbs) = (false, a)
  rw [decide_eq_false (by omega), Int.natAbs_natCast, hc]
 | true =>
  rw [if_pos rfl]
  have h0 : val a ≠ 0 := fun h0 => h2 ⟨rfl, (bg ha.2).1 h0⟩
  show (decide (-(val a : Int) < 0), ae (-(val a : Int)).natAbs) = (true, a)
  rw [decide_eq_true (by omega), Int.natAbs_neg, Int.natAbs_natCast, hc]
theorem cI {n : Int} : okZ (ofZ n) ↔ n.natAbs < Big := by
 rw [cJ]
 constructor
 ·intro h; have := bv h.1; rwa [show val (ae n.natAbs) = n.natAbs from af _] at this
 ·intro h
  refine ⟨au h, ?_⟩
  rintro ⟨h1, h2⟩
  have h1' : n < 0 := by simpa using h1
  have h2' : n.natAbs = 0 := bC.1 h2
  omega
theorem xK {x : Zs} (h : okZ x) : (zv x).natAbs < Big := by rw [← sU h] at h; exact cI.1 h
theorem js {x : Zs} : okZ x ↔ ∃ n : Int, n.natAbs < Big ∧ x = ofZ n := ⟨fun h => ⟨zv x, xK h, (sU h).symm⟩, fun ⟨n, h, e⟩ => e ▸ cI.2 h⟩
theorem mi (n : Nat) : ofZ n = (false, ae n) := by rw [cJ, decide_eq_false (by omega), Int.natAbs_natCast]
theorem kg (s : Bool) (n : Nat) : mkZ s (ae n) = ofZ (if s then -(n : Int) else n) := by
 cases s with
 | false => rw [if_neg (by simp), mi]; rfl
 | true =>
  rw [if_pos rfl, cJ, Int.natAbs_neg, Int.natAbs_natCast, mkZ, Bool.true_and]
  congr 1
  by_cases h : n = 0
  ·subst h; rw [dR]; rfl
  ·rw [decide_eq_false (by rw [bC]; exact h), decide_eq_true (by omega)]; rfl
theorem pD {n : Int} (h : n.natAbs < Big) : fi (ofZ n) = ofZ (-n) := by
 rw [fi, if_pos (cI.2 h), cJ, kg]
 by_cases h1 : n < 0
 ·rw [decide_eq_true h1]; simp only [Bool.not_true, Bool.false_eq_true, if_false]; congr 1; omega
 ·rw [decide_eq_false h1]; simp only [Bool.not_false, if_true]; congr 1; omega
theorem qf {a b : Int} (ha : a.natAbs < Big) (hb : b.natAbs < Big) : dw (ofZ a) (ofZ b) = if (a + b).natAbs < Big then (ofZ (a + b), 0) else ((false, []), 5) := by
 obtain ⟨G, hG⟩ : ∃ G, G = Big := ⟨_, rfl⟩
 rw [dw, if_pos ⟨cI.2 ha, cI.2 hb⟩]
 rw [cJ a, cJ b]
 simp only [af]
 rw [← hG] at ha hb ⊢
 by_cases hs : decide (a < 0) = decide (b < 0)
 ·rw [if_pos hs]
  have hs' : (a < 0) ↔ (b < 0) := by simpa using hs
  have hn : (a + b).natAbs = a.natAbs + b.natAbs := by by_cases h1 : a < 0 <;> have := hs'.1 <;> have := hs'.2 <;> omega
  rw [addN, if_pos ⟨au (by rw [← hG]; exact ha), au (by rw [← hG]; exact hb)⟩, af, af, ← hG, hn]
  by_cases hl : a.natAbs + b.natAbs < G
  ·rw [if_pos hl, if_pos hl]
   show (mkZ (decide (a < 0)) (ae (a.natAbs + b.natAbs)), (0 : Int)) = _
   rw [kg]
   congr 2
   by_cases h1 : a < 0
   ·rw [if_pos (by simpa using h1)]; omega
   ·rw [if_neg (by simpa using h1)]; have := hs'.2; omega
  ·rw [if_neg hl, if_neg hl]
   show (mkZ (decide (a < 0)) [], (5 : Int)) = _
   rw [mkZ]; simp
 ·rw [if_neg hs]
  have hs' : ¬ ((a < 0) ↔ (b < 0)) := by simpa using hs
  have hl : (a + b).natAbs < G := by omega
  rw [if_pos hl]
  by_cases h1 : a.natAbs < b.natAbs
  ·rw [if_pos h1, kg]
   congr 2
   by_cases h2 : b < 0
   ·rw [if_pos (by simpa using h2)]; omega
   ·rw [if_neg (by simpa using h2)]; omega
  ·rw [if_neg h1, kg]
   congr 2
   by_cases h2 : a < 0
   ·rw [if_pos (by simpa using h2)]; omega
   ·rw [if_neg (by simpa using h2)]; omega
theorem o3 {a b : Int} (ha : a.natAbs < Big) (hb : b.natAbs < Big) : cO (ofZ a) (ofZ b) = if (a - b).natAbs < Big then (ofZ (a - b), 0) else ((false, []), 5) := by
 rw [cO, if_pos ⟨cI.2 ha, cI.2 hb⟩, pD hb, qf ha (by omega), Int.sub_eq_add_neg]
section
variable {ds : List Deferred} {ρ : Option Nat} {P : Program} {ok : Nat → Prop} {w0 w : World} {own ext : List Ent} {fs : List Fact} {γ : Type} {f : FuncId} {args : Array Value} {val : γ → Value} {p : γ → Prop} {F : γ → List Fact} {a : Option Addr} {xs : List Value}
theorem my (h : ∀ w, St ok w0 own fs w → Calls P f args w (fun e w' => ∃ g, e = .returned (val g) ∧ p g ∧ Below w.heap.size w w' ∧ ∀ x ∈ F g, x.holds (fun b => (ok b ∧ b ∉ ids own) ∨ w.heap.size ≤ b) w')) :
  ∀ w, St ok w0 own fs w → Calls P f args w (fun e w' => ∃ g, e = .returned (val g) ∧ p g ∧ St ok w0 own (F g ++ fs) w') :=
 fun w hS => (h w hS).mono fun _ w' ⟨g, he, hp, hb, hF⟩ => ⟨g, he, hp, by
  have h1 := hS.keep hb
  refine ⟨h1.okn, h1.below, h1.own_, h1.nd, fun x hx => (List.mem_append.1 hx).elim (fun hx => ?_) (h1.fact x)⟩
  exact x.mono (fun b hb => hb.elim id (hS.fresh b)) (hF x hx)⟩
theorem St.slo (h : St ok w0 own fs w) [hf : HasF fs a xs] : (Fact.sl a xs).holds (fun b => ok b ∧ b ∉ ids own) w := by
 obtain ⟨k, hk⟩ := hf.h.get; exact h.fact _ (List.mem_of_getElem? hk)
theorem St.ock (h : St ok w0 own fs w) {ob : Option Nat} {sp : List Value} {T : TypeId} {C : Ent → List Ent} [hf : HasC own ob (xs ++ sp) T C] : (Fact.sl (ob.map fun b => ⟨b, 0, none⟩) xs).holds ok w := by
 obtain ⟨k, hk, _⟩ := hf.h.get
 have := h.own_ _ (List.mem_of_getElem? hk)
 cases ob with
 | none => exact .inl (by have h1 : xs ++ sp = [] := this; simp at h1; exact h1.1)
 | some b =>
  refine .inr ⟨b, 0, (xs ++ sp).toArray, T, (0, 0), rfl, h.okn b this.1, this.2, fun i hi => ?_⟩
  rw [Nat.zero_add, List.getElem?_toArray, List.getElem?_append_left hi]
theorem bt : (Fact.sl a []).holds ok w := .inl rfl
theorem nB {fs : List Fact} {ok' : Nat → Prop} (h : ∀ f ∈ fs, f.holds ok w) : ∀ f ∈ fs, f.holds (fun b => ok b ∨ ok' b) w := fun f hf => f.mono (fun _ h => .inl h) (h f hf)
end
section
variable {ds : List Deferred} {ρ : Option Nat} {P : Program} {Q : Exit → Act → World → Prop} {n : Nat} {L : ak} {x y : Code} {σ : Type} {Z : World → Prop}
theorem rX {k : Nat} {kd : IntKind} {i j : Int} (h : al L k = some (.int kd i)) (e : i = j) : al L k = some (.int kd j) := e ▸ h
theorem ai {k : Nat} {i j : Bool} (h : al L k = some (.bool i)) (e : i = j) : al L k = some (.bool j) := e ▸ h
def lI (ds : List Deferred) {σ : Type} (Ls : σ → ak) (Ss : σ → World → Prop) (n : Nat) (a : Act) (w : World) : Prop := ∃ s, Fr ds a n (Ls s) ∧ Ss s w
theorem WC.join (Ls : σ → ak) (Ss : σ → World → Prop) (h : WC ds ρ P x (Exit.then (lI ds Ls Ss n) Q) n L Z) (k : ∀ s, WC ds ρ P y Q n (Ls s) (Ss s)) : WC ds ρ P (.seq x y) Q n L Z :=
 Cq fun a w hF hS => wpIn_mono (h a w hF hS) fun e a w hq => by
  cases e with
  | normal => obtain ⟨s, hF', hS'⟩ := hq; exact k s a w hF' hS'
  | _ => exact hq
theorem WX.join {Ls : σ → ak} {Ss : σ → World → Prop} (s : σ) (hL : ∀ k v, al (Ls s) k = some v → al L k = some v) (hS : ∀ w, Z w → Ss s w) : WX ds (Exit.then (lI ds Ls Ss n) Q) .normal n L Z := fun _ w hF h => ⟨s, hF.sub hL, hS w h⟩
theorem WC.joinP (Lm : ak) (Ls : σ → ak) (inv : σ → Prop) (hm : ∀ k v, al Lm k = some v → al L k = some v) (h : WC ds ρ P x (Exit.then (lI ds (fun s => Ls s ++ Lm) (fun s w => inv s ∧ Z w) n) Q) n L Z) (k : ∀ s, inv s → WC ds ρ P y Q n (Ls s ++ Lm) Z) : WC ds ρ P (.seq x y) Q n L Z :=
 have := hm
 WC.join _ _ h fun s => WC.pu fun h => k s h
theorem WX.joinP {Z' : World → Prop} {L' Lm : ak} {Ls : σ → ak} {inv : σ → Prop} (s : σ) (hm : ∀ k v, al Lm k = some v → al L' k = some v) (hL : ∀ k v, al (Ls s) k = some v → al L' k = some v) (hi : inv s) (hZ : ∀ w, Z' w → Z w) :
  WX ds (Exit.then (lI ds (fun s => Ls s ++ Lm) (fun s w => inv s ∧ Z w) n) Q) .normal n L' Z' := WX.join s (fS hL hm) fun w h => ⟨hi, hZ w h⟩
theorem WC.joinO {ok : Nat → Prop} {w0 : World} {own : List Ent} {fs : List Fact} (Lm : ak) (Ls : σ → ak) (inv : σ → Prop) (own' : σ → List Ent) (fs' : σ → List Fact) (hm : ∀ k v, al Lm k = some v → al L k = some v)
  (h : WC ds ρ P x (Exit.then (lI ds (fun s => Ls s ++ Lm) (fun s w => inv s ∧ St ok w0 (own' s) (fs' s) w) n) Q) n L (St ok w0 own fs)) (k : ∀ s, inv s → WC ds ρ P y Q n (Ls s ++ Lm) (St ok w0 (own' s) (fs' s))) : WC ds ρ P (.seq x y) Q n L (St ok w0 own fs) :=
 have := hm
 WC.join _ _ h fun s => WC.pu fun h => k s h
theorem WX.joinO {ok : Nat → Prop} {w0 : World} {Z' : World → Prop} {L' Lm : ak} {Ls : σ → ak} {inv : σ → Prop} {own' : σ → List Ent} {fs' : σ → List Fact} (s : σ) (hm : ∀ k v, al Lm k = some v → al L' k = some v) (hL : ∀ k v, al (Ls s) k = some v → al L' k = some v) (hi : inv s) (hZ : ∀ w, Z' w → St ok w0 (own' s) (fs' s) w) :
  WX ds (Exit.then (lI ds (fun s => Ls s ++ Lm) (fun s w => inv s ∧ St ok w0 (own' s) (fs' s) w) n) Q) .normal n L' Z' := WX.join s (fS hL hm) fun w h => ⟨hi, hZ w h⟩
theorem WC.ordersP {id : Nat} {l : List Oper} {n : Nat} {L : ak} {ok : Nat → Prop} {w0 : World} {own : List Ent} {fs : List Fact} (Lm : ak) (own' : List Ent) (fs' : List Fact) (hm : ∀ k v, al Lm k = some v → al L k = some v) (iss : List (List Nat)) {oss : List (List Oper)} (hp : P.follows .mixedOrders = true)
  (hi : dI l.toArray l.length (Array.replicate l.length false) = iss) (ho : iss.map (bK l) = oss)
  (k : AllL ds P l (Mid ds (fun _ : Unit => Lm) (fun _ => St ok w0 own' fs') n) n L (St ok w0 own fs) oss) (next : WX ds Q .normal n Lm (St ok w0 own' fs')) : WC ds none P (.region id l.toArray true) Q n L (St ok w0 own fs) :=
 have := hm
 WC.orders (fun _ => Lm) _ iss hp hi ho (fun w h => h.draw) k fun _ => next
theorem WX.midP {γ : Type} {n : Nat} {L Lm : ak} {S : World → Prop} {S' : γ → World → Prop} (g : γ) (hm : ∀ k v, al Lm k = some v → al L k = some v) (hS : ∀ w, S w → S' g w) : WX ds (Mid ds (fun _ => Lm) S' n) .normal n L S := WX.mid g hm hS
end
class WdK (k : IntKind) (j : outParam Nat) : Prop where
 hj : j ≤ k.bits
 hk : ∀ n : Int, 0 ≤ n → n < 2 ^ j → k.wrap n = n
instance : WdK .u8 8 := ⟨by decide, fun n h0 h1 => by rw [IntKind.wrap_u8]; omega⟩
instance : WdK .u32 32 := ⟨by decide, fun n h0 h1 => by rw [IntKind.wrap_u32]; omega⟩
instance : WdK .u64 64 := ⟨by decide, fun n h0 h1 => by rw [IntKind.wrap_u64]; omega⟩
instance : WdK .i64 63 := ⟨by decide, fun n h0 h1 => by rw [IntKind.wrap_i64]; omega⟩
theorem wrN {k : IntKind} {j x : Nat} [h : WdK k j] (hx : x < 2 ^ j) : k.wrap (x : Int) = x := h.hk x (Int.natCast_nonneg _) (by exact_mod_cast hx)
class WdU (k : IntKind) (j : outParam Nat) : Prop where
 hu : ∀ n : Int, k.wrap n = n % 2 ^ j
instance : WdU .u8 8 := ⟨fun n => IntKind.wrap_u8 n⟩
instance : WdU .u32 32 := ⟨fun n => IntKind.wrap_u32 n⟩
instance : WdU .u64 64 := ⟨fun n => IntKind.wrap_u64 n⟩
section
variable {ds : List Deferred} {P : Program} {o : Oper} {n : Nat} {L : ak} {Z : World → Prop} {x y : Operand} {t t2 : TypeId} {k k' : IntKind} {a c j m : Nat} {b : Bool}
theorem Rd.cv {v v' : Value} (h : Rd ds P o n L Z v) (e : v = v') : Rd ds P o n L Z v' := e ▸ h
theorem bG [WdK k j] (hop : o.op = .binOp .add t x y t2) (hx : ag L x = some (.int k (a : Int))) (hy : ag L y = some (.int k (c : Int))) (h : a + c < 2 ^ j) : Rd ds P o n L Z (.int k ((a + c : Nat) : Int)) :=
 (og hop hx hy).cv (by rw [← wrN (k := k) h, Int.natCast_add])
theorem bJ [WdK k j] (hop : o.op = .binOp .sub t x y t2) (hx : ag L x = some (.int k (a : Int))) (hy : ag L y = some (.int k (c : Int))) (h : c ≤ a ∧ a < 2 ^ j) : Rd ds P o n L Z (.int k ((a - c : Nat) : Int)) :=
 (jW hop hx hy).cv (by rw [← wrN (k := k) (Nat.lt_of_le_of_lt (Nat.sub_le a c) h.2), Int.natCast_sub h.1])
theorem bu [WdK k j] (hop : o.op = .binOp .mul t x y t2) (hx : ag L x = some (.int k (a : Int))) (hy : ag L y = some (.int k (c : Int))) (h : a * c < 2 ^ j) : Rd ds P o n L Z (.int k ((a * c : Nat) : Int)) :=
 (l4 hop hx hy).cv (by rw [← wrN (k := k) h, Int.natCast_mul])
theorem fX [WdU k j] (hop : o.op = .binOp .mul t x y t2) (hx : ag L x = some (.int k (a : Int))) (hy : ag L y = some (.int k (c : Int))) : Rd ds P o n L Z (.int k ((a * c % 2 ^ j : Nat) : Int)) :=
 (l4 hop hx hy).cv (by rw [WdU.hu (k := k)]; simp)
theorem eT [hw : WdK k j] (hop : o.op = .binOp .shl t x y t2) (hx : ag L x = some (.int k (a : Int))) (hy : ag L y = some (.int k' (c : Int))) (hc : c ≤ k.bits) (h : a * 2 ^ c < 2 ^ j) : Rd ds P o n L Z (.int k ((a * 2 ^ c : Nat) : Int)) :=
 (iB hop hx hy (Int.natCast_nonneg _)).cv (by rw [Int.toNat_natCast, Nat.min_eq_left hc, ← wrN (k := k) h]; simp)
theorem vl [hw : WdU k j] (hop : o.op = .binOp .shl t x y t2) (hx : ag L x = some (.int k (a : Int))) (hy : ag L y = some (.int k' (c : Int))) (hc : c ≤ k.bits) : Rd ds P o n L Z (.int k ((a * 2 ^ c % 2 ^ j : Nat) : Int)) :=
 (iB hop hx hy (Int.natCast_nonneg _)).cv (by rw [Int.toNat_natCast, Nat.min_eq_left hc, WdU.hu (k := k)]; simp)
theorem bq (hop : o.op = .binOp .shr t x y t2) (hx : ag L x = some (.int k (a : Int))) (hy : ag L y = some (.int k' (c : Int))) (hc : c ≤ k.bits) : Rd ds P o n L Z (.int k ((a / 2 ^ c : Nat) : Int)) :=
 (gF hop hx hy (Int.natCast_nonneg _)).cv (by
  rw [Int.toNat_natCast, Nat.min_eq_left hc, Int.fdiv_eq_ediv_of_nonneg _ (by have := Int.pow_pos (n := 2) (m := c) (by decide); omega)]; simp)
theorem dk (m : Nat) [hw : WdK k j] {i : Int} (hop : o.op = .binOp .and t x y t2) (hx : ag L x = some (.int k (a : Int))) (hy : ag L y = some (.int k i)) (hi : i = 2 ^ m - 1) (h : m ≤ j ∧ a < 2 ^ j) : Rd ds P o n L Z (.int k ((a % 2 ^ m : Nat) : Int)) :=
 (l6 hop hx hy).cv (by rw [hi, bits_mask k j hw.hj hw.hk m h.1 a (Int.natCast_nonneg _) (by exact_mod_cast h.2)]; simp)
theorem j0 (m : Nat) [hw : WdK k j] (hop : o.op = .binOp .or t x y t2) (hx : ag L x = some (.int k (a : Int))) (hy : ag L y = some (.int k (c : Int))) (h : a % 2 ^ m = 0 ∧ a < 2 ^ j ∧ c < 2 ^ m ∧ m ≤ j) : Rd ds P o n L Z (.int k ((a + c : Nat) : Int)) :=
 (k7 hop hx hy).cv (by
  have hc : c < 2 ^ j := Nat.lt_of_lt_of_le h.2.2.1 (Nat.pow_le_pow_right (by decide) h.2.2.2)
  rw [bits_join k j hw.hj hw.hk m a c (Int.natCast_nonneg _) (by exact_mod_cast h.1) (by exact_mod_cast h.2.1) (Int.natCast_nonneg _) (by exact_mod_cast h.2.2.1) (by exact_mod_cast hc)]; simp)
theorem xv (m : Nat) [hw : WdK k j] (hop : o.op = .binOp .or t x y t2) (hx : ag L x = some (.int k (a : Int))) (hy : ag L y = some (.int k (c : Int))) (h : a < 2 ^ m ∧ c % 2 ^ m = 0 ∧ c < 2 ^ j ∧ m ≤ j) : Rd ds P o n L Z (.int k ((a + c : Nat) : Int)) :=
 (k7 hop hx hy).cv (by
  have ha : a < 2 ^ j := Nat.lt_of_lt_of_le h.1 (Nat.pow_le_pow_right (by decide) h.2.2.2)
  have e : bits .or k (a : Int) (c : Int) = bits .or k (c : Int) (a : Int) := by
   simp only [bits, BitVec.or_comm]
  rw [e, bits_join k j hw.hj hw.hk m c a (Int.natCast_nonneg _) (by exact_mod_cast h.2.1) (by exact_mod_cast h.2.2.1) (Int.natCast_nonneg _) (by exact_mod_cast h.1) (by exact_mod_cast ha), Int.add_comm]; simp)
theorem xD {p q : Bool} (hop : o.op = .binOp .neq t x y t2) (hx : ag L x = some (.bool p)) (hy : ag L y = some (.bool q)) (hu : P.underlying t = some .bool) : Rd ds P o n L Z (.bool (p != q)) :=
 aV hop hx hy (kl _ _ _) fun w => run_neq_bool w t p q hu
theorem cg [WdK k j] (hop : o.op = .binOp .quo t x y t2) (hx : ag L x = some (.int k (a : Int))) (hy : ag L y = some (.int k (c : Int))) (h : 0 < c ∧ a < 2 ^ j) : Rd ds P o n L Z (.int k ((a / c : Nat) : Int)) :=
 (n8 hop hx hy (by omega)).cv (by
  rw [Int.tdiv_eq_ediv_of_nonneg (Int.natCast_nonneg _), ← Int.natCast_ediv, wrN (k := k) (Nat.lt_of_le_of_lt (Nat.div_le_self a c) h.2)])
theorem bo (hop : o.op = .binOp .rem t x y t2) (hx : ag L x = some (.int k (a : Int))) (hy : ag L y = some (.int k (c : Int))) (h : 0 < c) : Rd ds P o n L Z (.int k ((a % c : Nat) : Int)) :=
 (lY hop hx hy (by omega)).cv (by rw [Int.tmod_eq_emod_of_nonneg (Int.natCast_nonneg _), ← Int.natCast_emod])
theorem sE [WdU k j] (hop : o.op = .convert t t2 x) (hx : ag L x = some (.int k' (a : Int))) {d : TypeDesc} (h1 : P.underlying t = some d) (h2 : P.underlying t2 = some (.int k)) : Rd ds P o n L Z (.int k ((a % 2 ^ j : Nat) : Int)) :=
 (aQ hop hx h1 h2).cv (by rw [WdU.hu (k := k)]; simp)
theorem nf [WdK k j] (hop : o.op = .convert t t2 x) (hx : ag L x = some (.int k' (a : Int))) {d : TypeDesc} (h1 : P.underlying t = some d) (h2 : P.underlying t2 = some (.int k)) (h : a < 2 ^ j) : Rd ds P o n L Z (.int k (a : Int)) :=
 (aQ hop hx h1 h2).cv (by rw [wrN (k := k) h])
theorem j5 [WdK k j] {c : UInt8} (hop : o.op = .convert t t2 x) (hx : ag L x = some (.int .u8 (c.toNat : Int))) {d : TypeDesc} (h1 : P.underlying t = some d) (h2 : P.underlying t2 = some (.int k)) (h : 8 ≤ j) : Rd ds P o n L Z (.int k (c.toNat : Int)) :=
 nf hop hx h1 h2 (Nat.lt_of_lt_of_le c.toNat_lt (Nat.pow_le_pow_right (by decide) h))
theorem gU {s : List UInt8} {i : Nat} (hop : o.op = .index t x y) (hx : ag L x = some (.string (S s))) (hy : ag L y = some (.int k (i : Int))) (h1 : P.underlying t = some .string) (h0 : i < s.length) : Rd ds P o n L Z (.int .u8 ((s.getD i default).toNat : Int)) :=
 (bA hop hx hy h1 ⟨Int.natCast_nonneg _, by rwa [Int.toNat_natCast]⟩).cv (by rw [Int.toNat_natCast])
theorem gW (hop : o.op = .convert t t2 x) (hx : ag L x = some (.int k' (a : Int))) {d : TypeDesc} (h1 : P.underlying t = some d) (h2 : P.underlying t2 = some (.int .u8)) : Rd ds P o n L Z (.int .u8 ((UInt8.ofNat a).toNat : Int)) :=
 (sE hop hx h1 h2).cv rfl
end
section
variable {ds : List Deferred} {P : Program} {ok : Nat → Prop} {w0 : World} {own : List Ent} {fs : List Fact} {o : Oper} {n b off sz : Nat} {L : ak} {x : Operand} {t T e : TypeId} {cs ys : List Value} {C : Ent → List Ent}
theorem clr {len cap : Nat} {zv : Value} (hop : o.op = .call { callee := .builtin .clear, args := #[x], argTypes := #[t] }) (hx : ag L x = some (.slice (some ⟨b, off, none⟩) len cap)) (hk : Ctx own ⟨some b, cs, T⟩ C)
  (hu : P.underlying t = some (.slice e)) (hi : (P.info? e).map (fun i => (i.zero, i.size, i.bytes)) = some (some zv, 1, sz)) (h1 : zv.cells = #[zv]) (ho : zv.oneCell' = true) (hl : 0 < len) (hfit : off + len ≤ cs.length) (hys : cs.take off ++ List.replicate len zv ++ cs.drop (off + len) = ys) :
  Og ds P o n L (St ok w0 own fs) (fun _ : Unit => .tuple #[]) (fun _ => St ok w0 (C ⟨some b, ys, T⟩) fs) :=
 cj fun a hF w hS => by
  obtain ⟨kk, hkk, hC⟩ := hk.get
  obtain ⟨i', hi', hz, hs, hbb⟩ := info_parts hi
  have hst := run_storeCells_at P b off T (List.replicate len zv) 0 cs.toArray w (hS.block hkk) (by simp; omega) (fun u hu => by rw [List.eq_of_mem_replicate hu]; exact ho)
  simp only [Nat.add_zero, List.length_replicate, hys] at hst
  refine ⟨(), w.setRow b ys.toArray, .inl ?_, by rw [hC]; exact hS.setRow hkk _⟩
  obtain ⟨l', rfl⟩ : ∃ l', len = l' + 1 := ⟨len - 1, by omega⟩
  have hzr : (zeroValue e).run P w = .ok zv w := by simp [zeroValue, typeInfo, hi', hz]
  simp [execOp, hop, resolve, invoke, builtin, hF.eval hx, Builtin.clear_, run_underlying hu, hzr, h1, gP, hst]
end
end Go.Proofs.YtkdlonihbjhhoaaGreatDoor
namespace Go.Proofs.YtkdlonihbjhhoaaGreatDoor
set_option linter.unusedSimpArgs false
set_option linter.unusedVariables false
set_option maxRecDepth 20000
def ev (β : Nat) : List Nat → Nat
 | [] => 0
 | x :: l => x + β * ev β l
theorem eG (β : Nat) : ∀ a b : List Nat, ev β (a ++ b) = ev β a + β ^ a.length * ev β b
 | [], b => by simp [ev]
 | x :: a, b => by
  rw [List.cons_append, ev, ev, eG β a b, List.length_cons, Nat.pow_succ, Nat.mul_add, Nat.add_assoc, ← Nat.mul_assoc, Nat.mul_comm β (β ^ a.length)]
theorem cK (β : Nat) (l : List Nat) (i : Nat) (h : i ≤ l.length) : ev β l = ev β (l.take i) + β ^ i * ev β (l.drop i) := by
 have := eG β (l.take i) (l.drop i)
 rwa [List.take_append_drop, List.length_take, Nat.min_eq_left h] at this
theorem a8 (β : Nat) (l : List Nat) (i : Nat) (h : i < l.length) : ev β (l.take (i + 1)) = ev β (l.take i) + β ^ i * l.getD i 0 := by
 rw [List.take_add_one, List.getElem?_eq_getElem h, eG, List.length_take, Nat.min_eq_left (by omega), List.getD_eq_getElem?_getD, List.getElem?_eq_getElem h]
 simp [ev]
theorem wQ (β : Nat) : ∀ l : List Nat, (∀ x ∈ l, x < β) → ev β l < β ^ l.length
 | [], _ => by simp [ev]
 | x :: l, h => by
  have h1 := wQ β l fun y hy => h y (.tail _ hy)
  have h2 := h x (.head _)
  rw [ev, List.length_cons, Nat.pow_succ]
  have : β * (ev β l + 1) ≤ β * β ^ l.length := Nat.mul_le_mul_left _ h1
  rw [Nat.mul_add, Nat.mul_one, Nat.mul_comm β (β ^ l.length)] at this
  omega
theorem eZ (β : Nat) (l : List Nat) (i : Nat) (hi : i ≤ l.length) (h : ∀ x ∈ l, x < β) : ev β (l.take i) < β ^ i := by
 have := wQ β (l.take i) fun x hx => h x (List.mem_of_mem_take hx)
 rwa [List.length_take, Nat.min_eq_left hi] at this
theorem mE (β n : Nat) : ev β (List.replicate n 0) = 0 := by
 induction n with
 | zero => rfl
 | succ n ih => rw [List.replicate_succ, ev, ih]; simp
theorem dX {α : Type} (l : List α) (i k : Nat) (y : α) (h : k ≤ i) : (l.set i y).take k = l.take k := by
 rw [List.take_set, List.set_eq_of_length_le (by rw [List.length_take]; omega)]
theorem kN (l : List Nat) (i y : Nat) (h : i < l.length) : (l.set i y).take (i + 1) = l.take i ++ [y] := by
 rw [List.take_add_one, dX l i i y (Nat.le_refl _), List.getElem?_set_self h]; rfl
theorem fK {α : Type} (l : List α) (i k : Nat) (y : α) (h : i < k) : (l.set i y).drop k = l.drop k := by
 rw [List.drop_set, if_pos h]
theorem fJ (β : Nat) (l : List Nat) (i y : Nat) (h : i < l.length) : ev β ((l.set i y).take (i + 1)) = ev β (l.take i) + β ^ i * y := by
 rw [kN l i y h, eG, List.length_take, Nat.min_eq_left (by omega)]; simp [ev]
theorem ya (β : Nat) (l : List Nat) (i y : Nat) (h : i < l.length) : ev β (l.set i y) + β ^ i * l.getD i 0 = ev β l + β ^ i * y := by
 rw [cK β (l.set i y) (i + 1) (by rw [List.length_set]; omega), fJ β l i y h, fK l i (i + 1) y (by omega), cK β l (i + 1) (by omega), a8 β l i h]
 omega
theorem tI (β : Nat) (hβ : 0 < β) (l : List Nat) (i : Nat) (hi : i < l.length) (h : ∀ x ∈ l, x < β) : ev β l / β ^ i % β = l.getD i 0 := by
 have h1 := eZ β l i (by omega) h
 have h2 : l.drop i = l.getD i 0 :: l.drop (i + 1) := by
  rw [List.drop_eq_getElem_cons hi, List.getD_eq_getElem?_getD, List.getElem?_eq_getElem hi]; rfl
 have h3 : l.getD i 0 < β := by
  rw [List.getD_eq_getElem?_getD, List.getElem?_eq_getElem hi]; exact h _ (List.getElem_mem hi)
 rw [cK β l i (by omega), h2, ev, Nat.add_mul_div_left _ _ (Nat.pow_pos hβ), Nat.div_eq_of_lt h1, Nat.zero_add, Nat.add_mul_mod_self_left, Nat.mod_eq_of_lt h3]
theorem getD_set_ne (l : List Nat) (i k y : Nat) (h : i ≠ k) : (l.set i y).getD k 0 = l.getD k 0 := by
 rw [List.getD_eq_getElem?_getD, List.getD_eq_getElem?_getD, List.getElem?_set_ne h]
theorem ed (l : List Nat) (i y : Nat) (h : i < l.length) : (l.set i y).getD i 0 = y := by
 rw [List.getD_eq_getElem?_getD, List.getElem?_set_self h]; rfl
theorem bW (β : Nat) (hβ : 0 < β) (l : List Nat) (h : ∀ x ∈ l, x < β) (i : Nat) : l.getD i 0 < β := by
 rw [List.getD_eq_getElem?_getD]
 cases hi : l[i]? with
 | none => exact hβ
 | some x => exact h x (List.mem_of_getElem? hi)
theorem nZ (β : Nat) (l : List Nat) (h : ∀ x ∈ l, x < β) (i y : Nat) (hy : y < β) : ∀ x ∈ l.set i y, x < β := by
 intro x hx
 rcases List.mem_or_eq_of_mem_set hx with h1 | h1
 ·exact h x h1
 ·rw [h1]; exact hy
def iQ (β : Nat) (c : List Nat) (i : Nat) : Nat := ev β (c.take i) / β ^ i
theorem iO (β : Nat) (c : List Nat) : iQ β c 0 = 0 := by simp [iQ, ev]
theorem iP (β : Nat) (hβ : 0 < β) (c : List Nat) (i : Nat) (hi : i < c.length) : iQ β c (i + 1) = (iQ β c i + c.getD i 0) / β := by
 rw [iQ, a8 β c i hi, Nat.pow_succ, ← Nat.div_div_eq_div_mul, Nat.add_mul_div_left _ _ (Nat.pow_pos hβ), iQ]
theorem ky (β : Nat) (hβ : 0 < β) (c : List Nat) (i : Nat) (hi : i < c.length) : ev β c / β ^ i % β = (iQ β c i + c.getD i 0) % β := by
 have h2 : c.drop i = c.getD i 0 :: c.drop (i + 1) := by
  rw [List.drop_eq_getElem_cons hi, List.getD_eq_getElem?_getD, List.getElem?_eq_getElem hi]; rfl
 rw [cK β c i (by omega), h2, ev, Nat.add_mul_div_left _ _ (Nat.pow_pos hβ), ← Nat.add_assoc, Nat.add_mul_mod_self_left, iQ]
theorem p7 (β : Nat) (hβ : 1 < β) (c : List Nat) (M : Nat) (h : ∀ i, c.getD i 0 ≤ M) : ∀ i, i ≤ c.length → iQ β c i ≤ M
 | 0, _ => by rw [iO]; omega
 | i + 1, hi => by
  have h1 := p7 β hβ c M h i (by omega)
  rw [iP β (by omega) c i (by omega)]
  have h2 := h i
  calc (iQ β c i + c.getD i 0) / β ≤ (M + M) / β := Nat.div_le_div_right (by omega)
   _ ≤ (M + M) / 2 := Nat.div_le_div_left (by omega) (by omega)
   _ = M := by omega
end Go.Proofs.YtkdlonihbjhhoaaGreatDoor
namespace Go.Proofs.YtkdlonihbjhhoaaGreatDoor
set_option linter.unusedSimpArgs false
set_option linter.unusedVariables false
set_option maxRecDepth 20000
structure dy (N A B i k : Nat) (c : List Nat) : Prop where
 len : c.length = N
 sum : ev 256 c = A % 256 ^ i * B + A / 256 ^ i % 256 * 256 ^ i * (B % 256 ^ k)
 all : ∀ j, c.getD j 0 ≤ (i + 1) * 65025
 rest : ∀ j, i + k ≤ j → c.getD j 0 ≤ i * 65025
theorem nz (N j : Nat) : (List.replicate N 0).getD j 0 = 0 := by
 rw [List.getD_eq_getElem?_getD, List.getElem?_replicate]; split <;> rfl
theorem lx (N A B : Nat) : dy N A B 0 0 (List.replicate N 0) :=
 ⟨by simp, by rw [mE]; simp [Nat.mod_one], fun j => by rw [nz]; exact Nat.zero_le _, fun j _ => by rw [nz]; exact Nat.zero_le _⟩
theorem i6 (x y : Nat) : x % 256 * (y % 256) ≤ 65025 := by
 have h1 : x % 256 ≤ 255 := by omega
 have h2 : y % 256 ≤ 255 := by omega
 exact Nat.mul_le_mul h1 h2
theorem nF {N A B i k : Nat} {c : List Nat} (h : dy N A B i k c) (hlt : i + k < N) :
  dy N A B i (k + 1) (c.set (i + k) (c.getD (i + k) 0 + A / 256 ^ i % 256 * (B / 256 ^ k % 256))) := by
 have hp := i6 (A / 256 ^ i) (B / 256 ^ k)
 have hl : i + k < c.length := by rw [h.len]; exact hlt
 refine ⟨by rw [List.length_set]; exact h.len, ?_, fun j => ?_, fun j hj => ?_⟩
 ·have h1 := ya 256 c (i + k) (c.getD (i + k) 0 + A / 256 ^ i % 256 * (B / 256 ^ k % 256)) hl
  rw [h.sum, Nat.mul_add] at h1
  rw [Nat.mod_pow_succ, Nat.mul_add, ← Nat.add_assoc]
  have h2 : A / 256 ^ i % 256 * 256 ^ i * (256 ^ k * (B / 256 ^ k % 256)) = 256 ^ (i + k) * (A / 256 ^ i % 256 * (B / 256 ^ k % 256)) := by
   rw [Nat.pow_add]; simp only [Nat.mul_comm, Nat.mul_left_comm, Nat.mul_assoc]
  rw [h2]; omega
 ·by_cases e : i + k = j
  ·subst e; rw [ed c _ _ hl]; have := h.rest (i + k) (Nat.le_refl _); rw [Nat.add_mul]; omega
  ·rw [getD_set_ne c _ _ _ e]; exact h.all j
 ·rw [getD_set_ne c _ _ _ (by omega)]; exact h.rest j (by omega)
theorem p4 {N A B i n : Nat} {c : List Nat} (h : dy N A B i n c) (hB : B < 256 ^ n) : dy N A B (i + 1) 0 c := by
 refine ⟨h.len, ?_, fun j => Nat.le_trans (h.all j) (by rw [Nat.add_mul, Nat.add_mul (i + 1)]; omega), fun j _ => h.all j⟩
 rw [h.sum, Nat.mod_eq_of_lt hB, Nat.mod_pow_succ, Nat.add_mul, Nat.pow_zero, Nat.mod_one, Nat.mul_zero, Nat.add_zero, Nat.mul_comm (256 ^ i) (A / 256 ^ i % 256)]
theorem p5 {N A B n : Nat} {c : List Nat} (h : dy N A B n 0 c) (hA : A < 256 ^ n) : ev 256 c = A * B := by
 rw [h.sum, Nat.mod_eq_of_lt hA, Nat.pow_zero, Nat.mod_one, Nat.mul_zero, Nat.add_zero]
theorem p6 {N A B i k : Nat} {c : List Nat} (h : dy N A B i k c) (hi : i ≤ 100000) (j : Nat) : c.getD j 0 + A / 256 ^ i % 256 * (B / 256 ^ k % 256) ≤ 9000000000 ∧ A / 256 ^ i % 256 * (B / 256 ^ k % 256) ≤ 65025 := by
 have h1 := i6 (A / 256 ^ i) (B / 256 ^ k)
 have h2 := h.all j
 omega
theorem ly {N A B n i : Nat} {c : List Nat} (h : dy N A B n 0 c) (hn : n ≤ 100000) (hi : i < N) : iQ 256 c i + c.getD i 0 ≤ 20000000000 := by
 have h1 := p7 256 (by decide) c ((n + 1) * 65025) h.all i (by rw [h.len]; omega)
 have h2 := h.all i
 omega
structure kG (β j g : Nat) (r0 d : List Nat) (i : Nat) (r : List Nat) (cy bw : Nat) : Prop where
 len : r.length = r0.length
 dig : ∀ x ∈ r, x < β
 low : r.take j = r0.take j
 high : r.drop (j + i) = r0.drop (j + i)
 sum : ev β (r.take (j + i)) + β ^ j * g * ev β (d.take i) = ev β (r0.take (j + i)) + β ^ (j + i) * (cy + bw)
 cyl : cy < β
 bwl : bw ≤ 1
theorem qm {β j g : Nat} {r0 d : List Nat} (hβ : 0 < β) (hd : ∀ x ∈ r0, x < β) : kG β j g r0 d 0 r0 0 0 :=
 ⟨rfl, hd, rfl, rfl, by simp [ev], hβ, by omega⟩
theorem eX {r r0 : List Nat} {k : Nat} (h : r.drop k = r0.drop k) : r.getD k 0 = r0.getD k 0 := by
 have := congrArg (fun l => l[0]?.getD 0) h
 simpa [List.getD_eq_getElem?_getD, List.getElem?_drop] using this
theorem ij {α : Type} {r r0 : List α} {k : Nat} (h : r.drop k = r0.drop k) : r.drop (k + 1) = r0.drop (k + 1) := by
 have := congrArg (List.drop 1) h
 simpa [List.drop_drop] using this
theorem rT {β j g i cy bw y bw' : Nat} {r0 d r : List Nat} (h : kG β j g r0 d i r cy bw) (hβ : 0 < β) (hg : g < β) (hi : i < d.length) (hd : ∀ x ∈ d, x < β) (hj : j + i < r0.length)
  (hy : y + (cy + g * d.getD i 0) % β + bw = r.getD (j + i) 0 + β * bw') (hyl : y < β) (hbw : bw' ≤ 1) :
  kG β j g r0 d (i + 1) (r.set (j + i) y) ((cy + g * d.getD i 0) / β) bw' := by
 have hdi := bW β hβ d hd i
 have hjl : j + i < r.length := by rw [h.len]; exact hj
 refine ⟨by rw [List.length_set]; exact h.len, nZ β r h.dig _ y hyl, by rw [dX r _ _ _ (by omega)]; exact h.low, ?_, ?_, ?_, hbw⟩
 ·rw [← Nat.add_assoc, fK r _ _ _ (by omega)]; exact ij h.high
 ·have hx := eX h.high
  rw [← Nat.add_assoc, fJ β r (j + i) y hjl, a8 β d i hi, a8 β r0 (j + i) hj, ← hx]
  have h1 := h.sum
  have h2 := Nat.div_add_mod (cy + g * d.getD i 0) β
  generalize (cy + g * d.getD i 0) / β = q at *
  generalize (cy + g * d.getD i 0) % β = m at *
  have e1 : β ^ j * g * (ev β (d.take i) + β ^ i * d.getD i 0) = β ^ j * g * ev β (d.take i) + β ^ (j + i) * (g * d.getD i 0) := by
   rw [Nat.mul_add, Nat.pow_add]; congr 1; simp only [Nat.mul_comm, Nat.mul_left_comm, Nat.mul_assoc]
  have e2 : β ^ (j + i + 1) * (q + bw') = β ^ (j + i) * (β * q + β * bw') := by rw [Nat.pow_succ, Nat.mul_assoc, Nat.mul_add]
  rw [e1, e2]
  have e3 : cy + bw + y + g * d.getD i 0 = r.getD (j + i) 0 + (β * q + β * bw') := by omega
  have e4 := congrArg (β ^ (j + i) * ·) e3
  simp only [Nat.mul_add] at e4 h1 ⊢
  omega
 ·rw [Nat.div_lt_iff_lt_mul hβ]
  have : g * d.getD i 0 ≤ (β - 1) * (β - 1) := Nat.mul_le_mul (by omega) (by omega)
  have h3 := h.cyl
  have h4 : (β - 1) * (β - 1) + β ≤ β * β := by
   obtain ⟨b, rfl⟩ : ∃ b, β = b + 1 := ⟨β - 1, by omega⟩
   simp only [Nat.add_sub_cancel, Nat.add_mul, Nat.mul_add]; omega
  omega
structure kJ (β j : Nat) (r0 d : List Nat) (i : Nat) (r : List Nat) (c : Nat) : Prop where
 len : r.length = r0.length
 dig : ∀ x ∈ r, x < β
 low : r.take j = r0.take j
 high : r.drop (j + i) = r0.drop (j + i)
 sum : ev β (r.take (j + i)) + β ^ (j + i) * c = ev β (r0.take (j + i)) + β ^ j * ev β (d.take i)
 cl : c ≤ 1
theorem rz {β j : Nat} {r0 d : List Nat} (hd : ∀ x ∈ r0, x < β) : kJ β j r0 d 0 r0 0 := ⟨rfl, hd, rfl, rfl, by simp [ev], by omega⟩
theorem ui {β j i c : Nat} {r0 d r : List Nat} (h : kJ β j r0 d i r c) (hβ : 1 < β) (hi : i < d.length) (hd : ∀ x ∈ d, x < β) (hj : j + i < r0.length) :
  kJ β j r0 d (i + 1) (r.set (j + i) ((c + r.getD (j + i) 0 + d.getD i 0) % β)) ((c + r.getD (j + i) 0 + d.getD i 0) / β) := by
 have hdi := bW β (by omega) d hd i
 have hri := bW β (by omega) r h.dig (j + i)
 have hjl : j + i < r.length := by rw [h.len]; exact hj
 have hcl := h.cl
 refine ⟨by rw [List.length_set]; exact h.len, nZ β r h.dig _ _ (Nat.mod_lt _ (by omega)), by rw [dX r _ _ _ (by omega)]; exact h.low, ?_, ?_, ?_⟩
 ·rw [← Nat.add_assoc, fK r _ _ _ (by omega)]; exact ij h.high
 ·have hx := eX h.high
  rw [← Nat.add_assoc, fJ β r (j + i) _ hjl, a8 β d i hi, a8 β r0 (j + i) hj, ← hx]
  have h1 := h.sum
  have h2 := Nat.div_add_mod (c + r.getD (j + i) 0 + d.getD i 0) β
  generalize (c + r.getD (j + i) 0 + d.getD i 0) / β = q at *
  generalize (c + r.getD (j + i) 0 + d.getD i 0) % β = m at *
  have e1 : β ^ j * (ev β (d.take i) + β ^ i * d.getD i 0) = β ^ j * ev β (d.take i) + β ^ (j + i) * d.getD i 0 := by
   rw [Nat.mul_add, Nat.pow_add, Nat.mul_assoc]
  have e2 : β ^ (j + i + 1) * q = β ^ (j + i) * (β * q) := by rw [Nat.pow_succ, Nat.mul_assoc]
  rw [e1, e2]
  have e4 := congrArg (β ^ (j + i) * ·) h2
  simp only [Nat.mul_add] at e4 h1 ⊢
  omega
 ·apply Nat.le_of_lt_succ
  rw [Nat.div_lt_iff_lt_mul (by omega)]
  omega
theorem tr {β j n W Dv q : Nat} {r d : List Nat} (hβ : 0 < β) (hn : 0 < n) (hdl : d.length = n) (hj : j + n < r.length) (hr : ∀ x ∈ r, x < β)
  (hW : W = ev β (r.take (j + n + 1))) (hD : Dv = ev β d) (htop : 0 < d.getD (n - 1) 0) (hq : q * (β ^ j * Dv) ≤ W) (hlt : W < β ^ (j + 1) * Dv) :
  q ≤ (r.getD (j + n) 0 * β + r.getD (j + n - 1) 0) / d.getD (n - 1) 0 ∧ q < β := by
 have hDv : 0 < Dv := by
  rcases Nat.eq_zero_or_pos Dv with e | e
  ·rw [e] at hlt; omega
  ·exact e
 constructor
 ·rw [Nat.le_div_iff_mul_le htop]
  have e1 : W = ev β (r.take (j + n - 1)) + β ^ (j + n - 1) * (r.getD (j + n - 1) 0 + β * r.getD (j + n) 0) := by
   rw [hW, a8 β r (j + n) hj, show j + n = (j + n - 1) + 1 by omega, a8 β r (j + n - 1) (by omega), Nat.pow_succ, Nat.mul_add, Nat.add_sub_cancel, Nat.mul_assoc, Nat.add_assoc]
  have e2 := eZ β r (j + n - 1) (by omega) hr
  have e3 : β ^ (n - 1) * d.getD (n - 1) 0 ≤ Dv := by
   rw [hD, cK β d (n - 1) (by omega), List.drop_eq_getElem_cons (by omega), ev, List.getD_eq_getElem?_getD, List.getElem?_eq_getElem (by omega : n - 1 < d.length), Nat.mul_add]
   show β ^ (n - 1) * d[n - 1] ≤ _
   omega
  have e4 : β ^ (j + n - 1) * (q * d.getD (n - 1) 0) ≤ W := by
   have : q * (β ^ j * (β ^ (n - 1) * d.getD (n - 1) 0)) ≤ q * (β ^ j * Dv) := Nat.mul_le_mul_left _ (Nat.mul_le_mul_left _ e3)
   have e5 : q * (β ^ j * (β ^ (n - 1) * d.getD (n - 1) 0)) = β ^ (j + n - 1) * (q * d.getD (n - 1) 0) := by
    rw [show j + n - 1 = j + (n - 1) by omega, Nat.pow_add]; simp only [Nat.mul_comm, Nat.mul_left_comm, Nat.mul_assoc]
   omega
  have e6 : β ^ (j + n - 1) * (q * d.getD (n - 1) 0) < β ^ (j + n - 1) * (r.getD (j + n - 1) 0 + β * r.getD (j + n) 0 + 1) := by
   rw [Nat.mul_add (β ^ (j + n - 1)) _ 1, Nat.mul_one]; omega
  have e7 := Nat.lt_of_mul_lt_mul_left e6
  rw [Nat.mul_comm (r.getD (j + n) 0) β]; omega
 ·rcases Nat.lt_or_ge q β with e | e
  ·exact e
  ·have h1 : β * (β ^ j * Dv) ≤ q * (β ^ j * Dv) := Nat.mul_le_mul_right _ e
   have h2 : β * (β ^ j * Dv) = β ^ (j + 1) * Dv := by rw [Nat.pow_succ]; simp only [Nat.mul_comm, Nat.mul_left_comm, Nat.mul_assoc]
   omega
end Go.Proofs.YtkdlonihbjhhoaaGreatDoor
namespace Go.Proofs.YtkdlonihbjhhoaaGreatDoor
open Go.RowKit
set_option linter.unusedSimpArgs false
set_option linter.unusedVariables false
set_option maxHeartbeats 600000
set_option maxRecDepth 20000
theorem rK (s : Bs) (c : UInt8) : val (s ++ [c]) = val s * 256 + c.toNat := by rw [eN]; simp [val]
theorem eh (s : Bs) (k : Nat) (h : k < s.length) : val (s.take (k + 1)) = val (s.take k) * 256 + (s.getD k default).toNat := by
 rw [List.take_add_one, List.getElem?_eq_getElem h, List.getD_eq_getElem?_getD, List.getElem?_eq_getElem h]
 exact rK _ _
theorem iV (s : Bs) (k : Nat) (h : k ≤ 7) : val (s.take k) < 72057594037927936 :=
 Nat.lt_of_lt_of_le (aK _) (Nat.le_trans (Nat.pow_le_pow_right (by decide) (Nat.le_trans (List.length_take_le _ _) h)) (by decide))
theorem dK {s : Bs} (h : s.length ≤ 8) : val s < 18446744073709551616 :=
 Nat.lt_of_lt_of_le (aK _) (Nat.le_trans (Nat.pow_le_pow_right (by decide) h) (by decide))
def aO (a : Bs) : Nat × Bool := if okN a ∧ a.length ≤ 8 then (val a, true) else (0, false)
theorem mW (a : Bs) : (aO a).1 < 18446744073709551616 := by
 unfold aO; split
 ·rename_i h; exact dK h.2
 ·decide
theorem dY {a : Bs} {w : World} (hal : a.length ≤ 9223372036854775807) :
  Cw 154 #[.string (S a)] w (.tuple #[.int .u64 ((aO a).1 : Int), .bool (aO a).2]) := by
 refine En [] [(0, .string (S a))] Tryz.func154 rfl Tryz.ntmps154 rfl (Ac rfl (An _)) Fn ?_
 refine Cs (Ka rfl (Ka rfl (Nt (Cq (Cs (Km rfl ?_))))))
 refine Ku rfl (Oc rfl rfl (Kv fun w hS => av)) ?_
 refine Yt rfl (Km rfl ?_)
 refine Nb 9 rfl (fun hg9 => ?_) (fun hg9 => ?_)
 ·(try simp only [sB] at hg9)
  refine Kt rfl (Kt rfl (Kt rfl (Yp rfl (Nt ?_))))
  refine Cd rfl (fun _ => ?_) (fun h => by cases h)
  refine Cs (Ka rfl (Ka rfl (Nt (Ce (Xb ?_)))))
  exact R2 rfl rfl rfl (by rw [aO, if_neg (by simp_all <;> omega)]; rfl)
 ·(try simp only [sB] at hg9)
  refine Km rfl (Yn rfl u22 (Yg rfl (Yq rfl (Nt ?_))))
  refine Cd rfl (fun hc13 => ?_) (fun hc13 => ?_)
  ·(try simp only [sB] at hc13)
   refine Cs (Ka rfl (Ka rfl (Nt (Ce (Xb ?_)))))
   exact R2 rfl rfl rfl (by rw [aO, if_neg (by simp_all <;> omega)]; rfl)
  ·(try simp only [sB] at hc13)
   have hok : okN a ∧ a.length ≤ 8 := ⟨by simp_all, by omega⟩
   refine Ck (Xa (Cs (Ka rfl (Nt (Cq (Cs (Km rfl (Yn rfl u22 (Km rfl (Nt (Cb ?_)))))))))))
   refine Lp (σ := Nat) [(0, _), (15, _)] (fun gq => [(4, .int .u64 (val (a.take gq) : Int)), (16, .int .i64 (gq : Int))]) (fun gq => gq ≤ a.length) (fun gq => a.length - gq) (0) (S2 rfl rfl) (S2 rfl rfl) (by (try dsimp only); omega) ?_
   rintro k hinv1; (try dsimp only at hinv1 ⊢)
   obtain hk := hinv1
   refine Cs (Yl rfl (Nt (Cq ?_)))
   refine Cd rfl (fun hc17 => ?_) (fun hc17 => ?_)
   ·(try simp only [sB] at hc17)
    have hv := iV a k (by omega)
    have hc8 := (a.getD k default).toNat_lt
    have hs1 := eh a k (by omega)
    refine Ck (Xa (Cq (Cb (Cs (Km rfl (Ka rfl (Nt (Cg (Km rfl (Kq rfl (eT (c := 8) rfl rfl rfl (by decide) (by omega)) (Km rfl (Km rfl (Kq rfl (gU rfl rfl rfl u22 (by omega)) (Kq rfl (j5 rfl rfl u5 u76 (by decide)) ?_))))))))))))))
    refine Kq rfl (j0 8 rfl rfl rfl ?_) ?_
    ·omega
    refine Ns 25 rfl (v' := .int .u64 ((val (a.take (k + 1)) : Nat) : Int)) (congrArg (Value.int .u64) (by omega)) (Ka rfl (Nn (Xd (Xa (Cg (Kq rfl (Rz rfl rfl rfl (by omega)) (Km rfl (Nn ?_))))))))
    refine Ly (k + 1) (by (try dsimp only); omega) (S2 rfl rfl) (by refine (Sc ?_ (Sc ?_ (S0 _))) <;> (rfl)) ?_ (by (exact fun _ h => h))
    (try dsimp only)
    omega
   ·(try simp only [sB] at hc17)
    refine Cx (Xc (Xc (Xe ?_)))
    obtain rfl : k = a.length := by omega
    refine Xa (Cs (Km rfl (Ka rfl (Ka rfl (Nt (Ce ?_))))))
    exact R2 rfl rfl rfl (by rw [aO, if_pos hok, List.take_length]; rfl)
theorem jR {a : Bs} {w : World} (hal : a.length ≤ 8) :
  Cw 177 #[.string (S a)] w (.int .u64 (val a : Int)) := by
 refine En [] [(0, .string (S a))] Tryz.func177 rfl Tryz.ntmps177 rfl (Ac rfl (An _)) Fn ?_
 refine Cs (Ka rfl (Nt (Cs (Ka rfl (Nt (Cq (Cs (Ka rfl (Nt (Cb ?_))))))))))
 refine Lp (σ := Nat) [(0, _)] (fun gq => [(3, .int .u64 (val (a.take gq) : Int)), (4, .int .i64 (gq : Int))]) (fun gq => gq ≤ a.length) (fun gq => a.length - gq) (0) (S1 rfl) (S2 rfl rfl) (by (try dsimp only); omega) ?_
 rintro k hinv1; (try dsimp only at hinv1 ⊢)
 obtain hk := hinv1
 refine Cq (Cs (Km rfl (Km rfl (Yn rfl u22 (Yl rfl (Nt ?_))))))
 refine Cd rfl (fun hc8 => ?_) (fun hc8 => ?_)
 ·(try simp only [sB] at hc8)
  have hv := iV a k (by omega)
  have hc8 := (a.getD k default).toNat_lt
  have hs1 := eh a k (by omega)
  refine Ck (Xa (Cq (Cb (Cg (Km rfl (Kq rfl (bu (c := 256) rfl rfl rfl (by omega)) (Km rfl (Km rfl (Kq rfl (gU rfl rfl rfl u22 (by omega)) (Kq rfl (j5 rfl rfl u5 u76 (by decide)) (Kq rfl (bG rfl rfl rfl (by omega)) (Ns 17 rfl (v' := .int .u64 ((val (a.take (k + 1)) : Nat) : Int)) (congrArg (Value.int .u64) (by omega)) (Ka rfl (Nn (Xd (Xa (Cg (Km rfl (Kq rfl (Rz rfl rfl rfl (by omega)) (Ka rfl (Nn ?_)))))))))))))))))))))
  refine Ly (k + 1) (by (try dsimp only); omega) (S1 rfl) (by refine (Sc ?_ (Sc ?_ (S0 _))) <;> (rfl)) ?_ (by (exact fun _ h => h))
  (try dsimp only)
  omega
 ·(try simp only [sB] at hc8)
  refine Cx (Xc (Xc (Xe ?_)))
  obtain rfl : k = a.length := by omega
  refine Xa (Cs (Km rfl (Ka rfl (Nt (Ce ?_)))))
  exact R1 rfl rfl (by rw [List.take_length]; rfl)
theorem jS {a : Bs} {w : World} :
  Cw 179 #[.string (S a)] w (.tuple #[.int .u64 ((aO a).1 : Int), .bool (aO a).2]) := by
 refine En [] [(0, .string (S a))] Tryz.func179 rfl Tryz.ntmps179 rfl (Ac rfl (An _)) Fn ?_
 refine Cs (Ka rfl (Ka rfl (Nt (Cq (Cs (Km rfl ?_))))))
 refine Ku rfl (Oc rfl rfl (Kv fun w hS => aA)) ?_
 refine Yt rfl (Km rfl ?_)
 refine Nb 7 rfl (fun hg7 => ?_) (fun hg7 => ?_)
 ·(try simp only [sB] at hg7)
  refine Kt rfl (Kt rfl (Kt rfl (Yp rfl (Nt ?_))))
  refine Cd rfl (fun _ => ?_) (fun h => by cases h)
  refine Cs (Ka rfl (Ka rfl (Nt (Ce (Xb ?_)))))
  exact R2 rfl rfl rfl (by rw [aO, if_neg (by simp_all <;> omega)]; rfl)
 ·(try simp only [sB] at hg7)
  refine Km rfl (Yn rfl u22 (Yg rfl (Yq rfl (Nt ?_))))
  refine Cd rfl (fun hc11 => ?_) (fun hc11 => ?_)
  ·(try simp only [sB] at hc11)
   refine Cs (Ka rfl (Ka rfl (Nt (Ce (Xb ?_)))))
   exact R2 rfl rfl rfl (by rw [aO, if_neg (by simp_all <;> omega)]; rfl)
  ·(try simp only [sB] at hc11)
   have hok : okN a ∧ a.length ≤ 8 := ⟨by simp_all, by omega⟩
   have hal := hok.2
   refine Ck (Xa (Cs (Km rfl ?_)))
   refine Ku rfl (Oc rfl rfl (Kv fun w hS => jR (by assumption))) ?_
   refine Ka rfl (Ka rfl (Nt (Ce ?_)))
   exact R2 rfl rfl rfl (by rw [aO, if_pos hok]; rfl)
theorem nT {x y : Nat} (h : x % 256 = y % 256) : UInt8.ofNat x = UInt8.ofNat y := UInt8.toNat.inj (by rw [UInt8.toNat_ofNat', UInt8.toNat_ofNat']; exact h)
def bX (c : List Nat) : List Value := c.map fun (x : Nat) => .int .i64 (x : Int)
theorem im (n : Nat) : bX (List.replicate n 0) = List.replicate n (.int .i64 0) := by simp [bX]
theorem cM (c : List Nat) (i y : Nat) : (bX c).set i (.int .i64 (y : Int)) = bX (c.set i y) := by simp [bX, List.map_set]
theorem cN (c : List Nat) : (bX c).length = c.length := by simp [bX]
theorem a6 (c : List Nat) (i : Nat) (h : i < c.length) : (bX c)[i]? = some (.int .i64 (c.getD i 0 : Int)) := by
 simp [bX, List.getElem?_map, List.getElem?_eq_getElem h, List.getD_eq_getElem?_getD]
theorem qF {a b : Bs} {p : Nat} {cs : List Value} {ok : Nat → Prop} {w0 : World} {fs : List Fact} {w : World} (hS0 : St ok w0 ([⟨some p, cs, 196⟩]) (fs) w) (hcs : cs.length = 256) (ha : a.length ≤ 128) (hb : b.length ≤ 128) :
  Calls Tryz.prog 156 #[.string (S a), .string (S b), .pointer (some ⟨p, 0, none⟩)] w fun e w' => ∃ c : List Nat, e = .returned (.string (S (ae (val a * val b)))) ∧ St ok w0 [⟨some p, bX c, 196⟩] fs w' := by
 refine enter (S := St ok w0 ([⟨some p, cs, 196⟩]) (fs)) (L := [(0, .string (S a)), (1, .string (S b)), (2, .pointer (some ⟨p, 0, none⟩))]) Tryz.func156 rfl Tryz.ntmps156 rfl (Ac rfl (Ac rfl (Ac rfl (An _)))) hS0 ?_
 refine Cs (Ka rfl (Nt (Cs (Km rfl (Kq rfl (lZ rfl rfl) ?_)))))
 refine Kq rfl (ei rfl rfl ux (by kernel_rfl : _ = some 1)) ?_
 refine Ng rfl rfl (clr rfl rfl .tc u38 (by kernel_rfl : _ = some (some (.int .i64 0), 1, 8)) rfl rfl ?_ ?_ (show _ = bX (List.replicate 256 0) by rw [im, List.take_zero, List.drop_eq_nil_of_le (by omega), List.append_nil, List.nil_append])) ?_
 ·decide
 ·omega
 intro _
 refine Nt (Cq (Cs (Km rfl (Yn rfl u22 (Km rfl (Nt (Cb ?_)))))))
 refine Lo (σ := Nat × (List Nat)) [(0, _), (1, _), (2, _), (18, _)] (fun gq => [(19, .int .i64 (gq.1 : Int))]) (fun gq => gq.1 ≤ a.length ∧ dy 256 (val a) (val b) gq.1 0 gq.2) (fun gq => a.length - gq.1) (fun gq => [⟨some p, bX gq.2, 196⟩]) (fun gq => fs) (0, List.replicate 256 0) (S4 rfl rfl rfl rfl) (S1 rfl) (by (try dsimp only); exact ⟨Nat.zero_le _, lx _ _ _⟩) (by (exact fun _ h => h)) ?_
 rintro ⟨i, c⟩ hinv1; (try dsimp only at hinv1 ⊢)
 obtain ⟨hi, hci⟩ := hinv1
 refine Cs (Yl rfl (Nt (Cq ?_)))
 refine Cd rfl (fun hc20 => ?_) (fun hc20 => ?_)
 ·(try simp only [sB] at hc20)
  refine Ck (Xa (Cq (Cb (Cs (Km rfl (Ka rfl (Nt (Cs (Km rfl (Km rfl ?_))))))))))
  refine Ku rfl (Oc rfl rfl (Kv fun w hS => cL (a := a) (i := i) (by omega) (by omega))) ?_
  refine Ka rfl (Nt (Cs (Km rfl (Yn rfl u22 (Km rfl (Nt (Cb ?_)))))))
  refine Lo (σ := Nat × (List Nat)) [(0, _), (1, _), (2, _), (7, _), (8, _), (18, _), (19, _), (26, _)] (fun gq => [(27, .int .i64 (gq.1 : Int))]) (fun gq => gq.1 ≤ b.length ∧ dy 256 (val a) (val b) i gq.1 gq.2) (fun gq => b.length - gq.1) (fun gq => [⟨some p, bX gq.2, 196⟩]) (fun gq => fs) (0, c) (S8 rfl rfl rfl rfl rfl rfl rfl rfl) (S1 rfl) (by (try dsimp only); exact ⟨Nat.zero_le _, hci⟩) (by (exact fun _ h => h)) ?_
  rintro ⟨k, c2⟩ hinv2; (try dsimp only at hinv2 ⊢)
  obtain ⟨hk, hck⟩ := hinv2
  refine Cs (Yl rfl (Nt (Cq ?_)))
  refine Cd rfl (fun hc28 => ?_) (fun hc28 => ?_)
  ·(try simp only [sB] at hc28)
   have hcl := hck.len
   have hca := p6 hck (by omega) (i + k)
   have hcs2 := nF hck (by omega)
   refine Ck (Xa (Cq (Cb (Cs (Km rfl (Ka rfl (Nt ?_)))))))
   refine Cf [8, 9, 10, 0, 1, 2, 3, 4, 5, 6, 7, 11, 12, 13, 14] [15] [0, 0, 0, 0, 0, 0, 0, 0, 0, 0, 1, 0, 0, 0, 0, 2] (by kernel_rfl) (by kernel_rfl) rfl ?_
   refine Kj rfl (Rm rfl rfl) (Kj rfl (Rm rfl rfl) ?_)
   refine Jv rfl rfl rfl rfl rfl (fun ext => Oc rfl rfl (Kv fun w hS => cL (a := b) (i := k) (by omega) (by omega))) ?_
   refine Kj rfl (Rm rfl rfl) (Kj rfl (Rm rfl rfl) (Kj rfl (Rm rfl rfl) (Kj rfl (ax rfl rfl rfl (by omega)) (Kj rfl (lZ rfl rfl) ?_))))
   refine Kj rfl (Jb rfl rfl rfl ux (by kernel_rfl : _ = some 1) ?_) ?_
   ·omega
   refine Kj rfl (ld rfl rfl .tc u3 rfl (a6 c2 _ (by omega))) ?_
   refine Kj rfl (Rm rfl rfl) (Kj rfl (fY rfl rfl rfl (by omega)) (Kj rfl (ax rfl rfl rfl (by omega)) (Kj rfl (lZ rfl rfl) ?_)))
   refine Kj rfl (Jb rfl rfl rfl ux (by kernel_rfl : _ = some 1) ?_) ?_
   ·omega
   refine WJ.nil ?_
   refine Ng rfl rfl (st rfl rfl rfl .tc (by kernel_rfl) rfl ?_ (by rfl)) ?_
   ·rw [cN]; omega
   intro _
   rw [cM]
   refine Nn (Xd (Xa (Cg (Kq rfl (Rz rfl rfl rfl (by omega)) (Km rfl (Nn ?_))))))
   refine Lx ((k + 1, c2.set (i + k) (c2.getD (i + k) 0 + val a / 256 ^ i % 256 * (val b / 256 ^ k % 256)))) (by (try dsimp only); omega) (S8 rfl rfl rfl rfl rfl rfl rfl rfl) (by refine (Sc ?_ (S0 _)) <;> (rfl)) ?_ (by (exact fun _ h => h))
   (try dsimp only)
   exact ⟨by omega, hcs2⟩
  ·(try simp only [sB] at hc28)
   refine Cx (Xc (Xc (Xe ?_)))
   obtain rfl : k = b.length := by omega
   have hrow := p4 hck (aK b)
   refine Xd (Xa (Cg (Kq rfl (Rz rfl rfl rfl (by omega)) (Km rfl (Nn ?_)))))
   refine Lx ((i + 1, c2)) (by (try dsimp only); omega) (S4 rfl rfl rfl rfl) (by refine (Sc ?_ (S0 _)) <;> (rfl)) ?_ (by (exact fun _ h => h))
   (try dsimp only)
   exact ⟨by omega, hrow⟩
 ·(try simp only [sB] at hc20)
  refine Cx (Xc (Xc (Xe ?_)))
  obtain rfl : i = a.length := by omega
  have hev := p5 hci (aK a)
  have hcl := hci.len
  obtain ⟨V, hV⟩ : ∃ V, V = val a * val b := ⟨_, rfl⟩
  rw [← hV] at hev
  have hVl : V < 256 ^ (a.length + b.length) := by rw [hV, Nat.pow_add]; exact Nat.mul_lt_mul'' (aK a) (aK b)
  refine Xa (Cs (Km rfl (Yn rfl u22 (Km rfl (Yn rfl u22 (Kq rfl (ax rfl rfl rfl (by omega)) (Ka rfl (Nt (Cs (Km rfl ?_))))))))))
  refine Kh rfl (dN rfl rfl rfl aB (by kernel_rfl : _ = some (some (.int .u8 0), 1, 1)) rfl ?_ (by (try simp only [sN, Int.reduceToNat, Nat.reduceAdd, Nat.reduceMul, Nat.reduceSub]); rfl) (by (try simp only [sN, Int.reduceToNat, Nat.reduceAdd, Nat.reduceMul, Nat.reduceSub]); rfl)) ?_
  ·omega
  intro b53
  refine Ka rfl (Nt (Cs (Ka rfl (Nt (Cq (Cs (Km rfl (Km rfl (Nt (Cb ?_))))))))))
  refine Lo (σ := Nat × Nat) [(2, _), (10, _), (11, _), (54, _)] (fun gq => [(12, .int .i64 (gq.2 : Int)), (55, .int .i64 (gq.1 : Int))]) (fun gq => gq.1 ≤ a.length + b.length ∧ gq.2 = iQ 256 c gq.1) (fun gq => a.length + b.length - gq.1) (fun gq => [⟨some b53, eV (a.length + b.length) gq.1 V, 5⟩, ⟨some p, bX c, 196⟩]) (fun gq => fs) (0, 0) (S4 rfl rfl rfl rfl) (S2 rfl rfl) (by (try dsimp only); exact ⟨Nat.zero_le _, (iO 256 c).symm⟩) (by exact fun w h => by rw [cq]; exact h) ?_
  rintro ⟨i, cy⟩ hinv3; (try dsimp only at hinv3 ⊢)
  obtain ⟨hi, hcy⟩ := hinv3
  refine Cs (Yl rfl (Nt (Cq ?_)))
  refine Cd rfl (fun hc56 => ?_) (fun hc56 => ?_)
  ·(try simp only [sB] at hc56)
   have hcc := ly (i := i) hci (by omega) (by omega)
   have hcs3 := iP 256 (by decide) c i (by omega)
   have hcd := ky 256 (by decide) c i (by omega)
   rw [← hcy] at hcc hcs3 hcd
   rw [hev] at hcd
   refine Ck (Xa (Cq (Cb (Cs (Km rfl (Ka rfl (Nt (Cs (Km rfl (Km rfl (Km rfl (Kq rfl (lZ rfl rfl) ?_))))))))))))
   refine Kq rfl (Jb rfl rfl rfl ux (by kernel_rfl : _ = some 1) ?_) ?_
   ·omega
   refine Kq rfl (ld rfl rfl .tc u3 rfl (a6 c _ (by omega))) ?_
   refine Kq rfl (ax rfl rfl rfl (by omega)) (Ka rfl (Nt (Cs (Km rfl (Km rfl (Kq rfl (ar rfl rfl rfl (by omega)) (Km rfl (Kq rfl (aP rfl rfl rfl (by omega)) (Km rfl (Kq rfl (gW rfl rfl u3 u5) ?_))))))))))
   refine Ns 71 rfl (v' := B (UInt8.ofNat (V / 256 ^ i))) (by exact congrArg (fun b : UInt8 => B b) (nT hcd.symm)) ?_
   refine Kq rfl (Ja rfl rfl rfl aB (by kernel_rfl : _ = some 1) (by omega)) ?_
   refine Ng rfl rfl (st rfl rfl rfl .tc (by kernel_rfl) rfl ?_ (by rfl)) ?_
   ·rw [bO _ _ _ (by omega)]; omega
   intro _
   refine Nt (Cg (Km rfl (Kq rfl (bq (c := 8) rfl rfl rfl (by decide)) (Ka rfl (Nn (Xd (Xa (Cg (Kq rfl (Rz rfl rfl rfl (by omega)) (Km rfl (Nn ?_)))))))))))
   refine Lx ((i + 1, (cy + c.getD i 0) / 256)) (by (try dsimp only); omega) (S4 rfl rfl rfl rfl) (by refine (Sc ?_ (Sc ?_ (S0 _))) <;> (rfl)) ?_ (by exact fun w h => by rw [← bN (a.length + b.length) i V (by omega)]; exact h)
   (try dsimp only)
   exact ⟨by omega, hcs3.symm⟩
  ·(try simp only [sB] at hc56)
   refine Cx (Xc (Xc (Xe ?_)))
   obtain rfl : i = a.length + b.length := by omega
   rw [bV]
   have hbl := aN (a.length + b.length) V
   refine Xa (Cs (Km rfl ?_))
   refine Ku rfl (Oc rfl rfl (Kv fun w hS => dF (b := be (a.length + b.length) V) (by (exact hS.os)) (by omega) (by omega) (by omega))) ?_
   refine Ka rfl (Nt (Ce ?_))
   exact Rn rfl (.tmp rfl .nil) fun w' hS => ⟨c, by rw [cW, Nat.mod_eq_of_lt hVl, hV]; rfl, aq _ hS⟩
end Go.Proofs.YtkdlonihbjhhoaaGreatDoor
namespace Go.Proofs.YtkdlonihbjhhoaaGreatDoor
set_option linter.unusedSimpArgs false
set_option linter.unusedVariables false
set_option maxRecDepth 20000
section
variable {β u n y1 y0 q rh : Nat}
theorem tS (hn : n < β) (hu : u < y1 * β + y0) : (u * β + n) / (y1 * β + y0) < β := by
 rw [Nat.div_lt_iff_lt_mul (by omega)]
 have : (u + 1) * β ≤ (y1 * β + y0) * β := Nat.mul_le_mul_right _ hu
 rw [Nat.add_mul, Nat.one_mul] at this
 rw [Nat.mul_comm β]; omega
theorem pY (hn : n < β) (hy1 : 0 < y1) : (u * β + n) / (y1 * β + y0) ≤ u / y1 := by
 have hβ : 0 < β := by omega
 rw [Nat.le_div_iff_mul_le hy1]
 have h1 := Nat.div_mul_le_self (u * β + n) (y1 * β + y0)
 generalize (u * β + n) / (y1 * β + y0) = Q at *
 have h2 : Q * y1 * β ≤ Q * (y1 * β + y0) := by rw [Nat.mul_assoc]; exact Nat.mul_le_mul_left _ (by omega)
 have h3 : Q * y1 * β < (u + 1) * β := by rw [Nat.add_mul, Nat.one_mul]; omega
 exact Nat.le_of_lt_succ (Nat.lt_of_mul_lt_mul_right h3)
theorem yW (hy : 0 < y1 * β + y0) (hi : u = q * y1 + rh) (hc : q * y0 ≤ β * rh + n) : q ≤ (u * β + n) / (y1 * β + y0) := by
 rw [Nat.le_div_iff_mul_le hy]
 subst hi
 have e : q * (y1 * β + y0) = q * y1 * β + q * y0 := by rw [Nat.mul_add, Nat.mul_assoc]
 rw [e, Nat.add_mul, Nat.mul_comm rh β]; omega
theorem jx (hy : 0 < y1 * β + y0) (hi : u = q * y1 + rh) (hQ : (u * β + n) / (y1 * β + y0) ≤ q) (hc : q * y0 ≤ β * rh + n) : q = (u * β + n) / (y1 * β + y0) :=
 Nat.le_antisymm (yW hy hi hc) hQ
theorem nE (hy1 : 0 < y1) (hy0 : y0 < β) (hu : u < y1 * β + y0) (hi : u = q * y1 + rh) (hb : β ≤ rh) : q < β ∧ q * y0 ≤ β * rh + n := by
 have h1 : q * y1 < β * y1 := by rw [Nat.mul_comm β]; omega
 have h2 : q < β := Nat.lt_of_mul_lt_mul_right h1
 refine ⟨h2, ?_⟩
 have h3 : q * y0 ≤ β * β := Nat.mul_le_mul (by omega) (by omega)
 have h4 : β * β ≤ β * rh := Nat.mul_le_mul_left _ hb
 omega
theorem pX (hn : n < β) (hu : u < y1 * β + y0) (hi : u = q * y1 + rh) (hQ : (u * β + n) / (y1 * β + y0) ≤ q) (hc : β ≤ q ∨ β * rh + n < q * y0) : 1 ≤ q ∧ (u * β + n) / (y1 * β + y0) ≤ q - 1 := by
 have h1 := tS hn hu
 rcases hc with hc | hc
 ·omega
 ·have h2 : (u * β + n) / (y1 * β + y0) < q := by
   rw [Nat.div_lt_iff_lt_mul (by omega)]
   subst hi
   have e : q * (y1 * β + y0) = q * y1 * β + q * y0 := by rw [Nat.mul_add, Nat.mul_assoc]
   rw [e, Nat.add_mul, Nat.mul_comm rh β]; omega
  exact ⟨Nat.lt_of_le_of_lt (Nat.zero_le _) h2, Nat.le_sub_one_of_lt h2⟩
end
theorem wl {β u n1 n0 y q1 q0 v w : Nat} (h1 : u * β + n1 = q1 * y + v) (h0 : v * β + n0 = q0 * y + w) (hw : w < y) : (u * (β * β) + (n1 * β + n0)) / y = q1 * β + q0 ∧ (u * (β * β) + (n1 * β + n0)) % y = w := by
 have e : u * (β * β) + (n1 * β + n0) = (q1 * β + q0) * y + w := by
  have : (u * β + n1) * β = (q1 * y + v) * β := by rw [h1]
  simp only [Nat.add_mul, Nat.mul_assoc] at this ⊢
  rw [Nat.mul_comm y β] at this
  omega
 rw [e]
 constructor
 ·rw [Nat.mul_comm, Nat.mul_add_div (by omega), Nat.div_eq_of_lt hw, Nat.add_zero]
 ·rw [Nat.mul_comm, Nat.mul_add_mod, Nat.mod_eq_of_lt hw]
structure Euc (a b r0 r1 : Nat) (x0 x1 y0 y1 : Int) : Prop where
 e0 : (a : Int) * x0 + b * y0 = r0
 e1 : (a : Int) * x1 + b * y1 = r1
 bx : x1.natAbs * r0 + x0.natAbs * r1 = b
 ab : y1.natAbs * r0 + y0.natAbs * r1 = a
 sx : (0 ≤ x0 ∧ x1 ≤ 0) ∨ (x0 ≤ 0 ∧ 0 ≤ x1)
 sy : (0 ≤ y0 ∧ y1 ≤ 0) ∨ (y0 ≤ 0 ∧ 0 ≤ y1)
 gc : Nat.gcd r0 r1 = Nat.gcd a b
theorem q5 (a b : Nat) : Euc a b a b 1 0 0 1 := ⟨by simp, by simp, by simp, by simp, .inl ⟨by decide, by decide⟩, .inr ⟨by decide, by decide⟩, rfl⟩
theorem jB {x0 x1 : Int} (q : Nat) (h : (0 ≤ x0 ∧ x1 ≤ 0) ∨ (x0 ≤ 0 ∧ 0 ≤ x1)) : (x0 - q * x1).natAbs = x0.natAbs + q * x1.natAbs ∧ ((0 ≤ x1 ∧ x0 - q * x1 ≤ 0) ∨ (x1 ≤ 0 ∧ 0 ≤ x0 - q * x1)) := by
 rcases h with ⟨h0, h1⟩ | ⟨h0, h1⟩
 ·obtain ⟨m, rfl⟩ : ∃ m : Nat, x1 = -(m : Int) := ⟨x1.natAbs, by omega⟩
  have e : (q : Int) * -(m : Int) = -((q * m : Nat) : Int) := by rw [Int.mul_neg, Int.natCast_mul]
  rw [e, Int.natAbs_neg, Int.natAbs_natCast]
  exact ⟨by omega, .inr ⟨by omega, by omega⟩⟩
 ·obtain ⟨m, rfl⟩ : ∃ m : Nat, x1 = (m : Int) := ⟨x1.natAbs, by omega⟩
  rw [← Int.natCast_mul, Int.natAbs_natCast]
  exact ⟨by omega, .inl ⟨by omega, by omega⟩⟩
theorem nC {a b r0 r1 : Nat} {x0 x1 y0 y1 : Int} (h : Euc a b r0 r1 x0 x1 y0 y1) (hr : 0 < r1) : Euc a b r1 (r0 % r1) x1 (x0 - (r0 / r1 : Nat) * x1) y1 (y0 - (r0 / r1 : Nat) * y1) := by
 have hd := Nat.div_add_mod r0 r1
 obtain ⟨hx1, hx2⟩ := jB (r0 / r1) h.sx
 obtain ⟨hy1, hy2⟩ := jB (r0 / r1) h.sy
 refine ⟨h.e1, ?_, ?_, ?_, hx2, hy2, ?_⟩
 ·have h0 := h.e0; have h1 := h.e1
  have e : (r0 : Int) = r1 * (r0 / r1 : Nat) + (r0 % r1 : Nat) := by rw [← Int.natCast_mul, ← Int.natCast_add, hd]
  generalize ((r0 / r1 : Nat) : Int) = Q at *
  generalize ((r0 % r1 : Nat) : Int) = M at *
  have e2 : (a : Int) * (x0 - Q * x1) + b * (y0 - Q * y1) = (a * x0 + b * y0) - (a * x1 + b * y1) * Q := by
   simp only [Int.mul_sub, Int.add_mul, Int.mul_assoc, Int.mul_comm Q, Int.mul_left_comm]
   omega
  rw [e2, h0, h1]; omega
 ·rw [hx1]
  have h1 := h.bx
  have e3 : (x0.natAbs + r0 / r1 * x1.natAbs) * r1 + x1.natAbs * (r0 % r1) = x1.natAbs * (r1 * (r0 / r1) + r0 % r1) + x0.natAbs * r1 := by
   simp only [Nat.add_mul, Nat.mul_add, Nat.mul_assoc, Nat.mul_comm, Nat.mul_left_comm]; omega
  rw [e3, hd]; exact h1
 ·rw [hy1]
  have h1 := h.ab
  have e3 : (y0.natAbs + r0 / r1 * y1.natAbs) * r1 + y1.natAbs * (r0 % r1) = y1.natAbs * (r1 * (r0 / r1) + r0 % r1) + y0.natAbs * r1 := by
   simp only [Nat.add_mul, Nat.mul_add, Nat.mul_assoc, Nat.mul_comm, Nat.mul_left_comm]; omega
  rw [e3, hd]; exact h1
 ·rw [← h.gc, Nat.gcd_comm r0 r1, Nat.gcd_rec r1 r0, Nat.gcd_comm]
theorem tJ {a b r0 r1 : Nat} {x0 x1 y0 y1 : Int} (h : Euc a b r0 r1 x0 x1 y0 y1) (hr : 0 < r0) : x1.natAbs ≤ b ∧ y1.natAbs ≤ a := by
 have h1 := h.bx; have h2 := h.ab
 have h3 : x1.natAbs * 1 ≤ x1.natAbs * r0 := Nat.mul_le_mul_left _ hr
 have h4 : y1.natAbs * 1 ≤ y1.natAbs * r0 := Nat.mul_le_mul_left _ hr
 omega
theorem wa {a b r0 r1 : Nat} {x0 x1 y0 y1 : Int} (h : Euc a b r0 r1 x0 x1 y0 y1) (hr : 0 < r1) : r0 / r1 * x1.natAbs ≤ b ∧ r0 / r1 * y1.natAbs ≤ a := by
 have h' := nC h hr
 have h1 := tJ h' hr
 rw [(jB (r0 / r1) h.sx).1, (jB (r0 / r1) h.sy).1] at h1
 omega
end Go.Proofs.YtkdlonihbjhhoaaGreatDoor
