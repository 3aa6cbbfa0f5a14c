/-
  Parts of the walk: Int1 Zed Keep Join Wrd Dig Art Ntl3 Ars Ntl4 NtlB.
-/
import Derived.Test.YtddoigmffkmpcaaGreatDoorI8
import Derived.Laws.Bits64
namespace Go.Proofs.YtddoigmffkmpcaaGreatDoor
open Go.RowKit
set_option linter.unusedSimpArgs false
set_option linter.unusedVariables false
set_option maxHeartbeats 600000
set_option maxRecDepth 20000
abbrev Zs := Bool × Bs
abbrev zV (x : Zs) : Value := .agg #[.bool x.1, .string (S x.2)]
def okZ (x : Zs) : Prop := okN x.2 ∧ ¬ (x.1 = true ∧ x.2 = [])
instance (x : Zs) : Decidable (okZ x) := inferInstanceAs (Decidable (_ ∧ _))
def mkZ (n : Bool) (a : Bs) : Zs := (n && !decide (a = []), a)
def negZ (x : Zs) : Zs := if okZ x then mkZ (!x.1) x.2 else (false, [])
def addZ (x y : Zs) : Zs × Int :=
 if okZ x ∧ okZ y then
  (if x.1 = y.1 then (mkZ x.1 (addN x.2 y.2).1, (addN x.2 y.2).2)
   else if val x.2 < val y.2 then (mkZ y.1 (canon (val y.2 - val x.2)), 0) else (mkZ x.1 (canon (val x.2 - val y.2)), 0))
 else ((false, []), 3)
def subZ (x y : Zs) : Zs × Int := if okZ x ∧ okZ y then addZ x (negZ y) else ((false, []), 3)
abbrev ZE (r : Zs × Int) : Value := .tuple #[zV r.1, .int .i64 r.2]
theorem made_c {n : Bool} {a : Bs} {w : World} :
  Cw 52 #[.bool n, .string (S a)] w (zV (mkZ n a)) := by
 refine En [] [(0, .bool n), (1, .string (S a))] Tryz.func52 rfl Tryz.ntmps52 rfl (Ac rfl (Ac rfl (An _))) Fn ?_
 refine Cs ?_
 refine Kh rfl (Oz [.bool false, .string (S [])] rfl) ?_
 intro b4
 refine Nt (Cs (Km rfl (Km rfl ?_)))
 refine Nb 6 rfl (fun hg6 => ?_) (fun hg6 => ?_)
 ·(try simp only [sB] at hg6)
  refine Km rfl (Kq rfl (rd_sne rfl rfl rfl) (Kq rfl (Rp rfl rfl rfl) (Km rfl (Kq rfl (Kb [[.bool false], [.string (S [])]] rfl rfl) ?_))))
  refine Nu rfl rfl (Sa rfl rfl rfl .tc) ?_
  refine Nt (Ce ?_)
  exact Rn rfl (.agg rfl .tc u61 rfl (by kernel_rfl) .nil) fun w' hS => ⟨by (simp [*, tup, mkZ]; done), hS.below⟩
 ·(try simp only [sB] at hg6)
  refine Kt rfl (Kt rfl (Kq rfl (Rq rfl rfl rfl) (Km rfl (Kq rfl (Kb [[.bool false], [.string (S [])]] rfl rfl) ?_))))
  refine Nu rfl rfl (Sa rfl rfl rfl .tc) ?_
  refine Nt (Ce ?_)
  exact Rn rfl (.agg rfl .tc u61 rfl (by kernel_rfl) .nil) fun w' hS => ⟨by (simp [*, tup, mkZ]; done), hS.below⟩
theorem zvalid_c {x : Zs} {w : World} :
  Cw 67 #[zV x] w (.bool (decide (okZ x))) := by
 refine En [] [(0, zV x)] Tryz.func67 rfl Tryz.ntmps67 rfl (Ac rfl (An _)) Fn ?_
 refine Cs ?_
 refine Kh rfl (Oy rfl rfl) ?_
 intro b1
 refine Ka rfl (Nt (Cs (Kq rfl (Fa (q := 1) rfl rfl u61 rfl rfl) (Kq rfl (Ld rfl rfl .tc u22) ?_))))
 refine Ku rfl (Oc rfl rfl (Kv fun w hS => valid_c (a := x.2))) ?_
 refine Km rfl ?_
 refine Nb 6 rfl (fun hg6 => ?_) (fun hg6 => ?_)
 ·(try simp only [sB] at hg6)
  refine Kq rfl (Fa (q := 0) rfl rfl u61 rfl rfl) (Kq rfl (Ld rfl rfl .tc u4) ?_)
  refine Km rfl ?_
  refine Nb 9 rfl (fun hg9 => ?_) (fun hg9 => ?_)
  ·(try simp only [sB] at hg9)
   refine Kq rfl (Fa (q := 1) rfl rfl u61 rfl rfl) (Kq rfl (Ld rfl rfl .tc u22) ?_)
   refine Kq rfl (rd_seq rfl rfl rfl) (Kq rfl (Rp rfl rfl rfl) (Kq rfl (Rt rfl rfl) (Kq rfl (Rp rfl rfl rfl) (Ka rfl (Nt (Ce ?_))))))
   exact R1 rfl rfl (by (simp [*, tup, okZ]; done))
  ·(try simp only [sB] at hg9)
   refine Kt rfl (Kt rfl (Kt rfl (Kq rfl (Rq rfl rfl rfl) (Kq rfl (Rt rfl rfl) (Kq rfl (Rp rfl rfl rfl) (Ka rfl (Nt (Ce ?_))))))))
   exact R1 rfl rfl (by (simp [*, tup, okZ]; done))
 ·(try simp only [sB] at hg6)
  refine Kt rfl (Kt rfl (Kt rfl (Kt rfl (Kt rfl (Kt rfl (Kt rfl (Kt rfl (Kq rfl (Rq rfl rfl rfl) (Ka rfl (Nt (Ce ?_)))))))))))
  exact R1 rfl rfl (by (simp [*, tup, okZ]; done))
theorem both_c {x y : Zs} {w : World} :
  Cw 105 #[zV x, zV y] w (.bool (decide (okZ x ∧ okZ y))) := by
 refine En [] [(0, zV x), (1, zV y)] Tryz.func105 rfl Tryz.ntmps105 rfl (Ac rfl (Ac rfl (An _))) Fn ?_
 refine Cs ?_
 refine Kh rfl (Oy rfl rfl) ?_
 intro b2
 refine Kh rfl (Oy rfl rfl) ?_
 intro b3
 refine Ka rfl (Nt (Cs ?_))
 refine Kq rfl (lda rfl rfl .tc u61 rfl ?_) ?_
 ·kernel_rfl
 refine Ku rfl (Oc rfl rfl (Kv fun w hS => zvalid_c (x := x))) ?_
 refine Km rfl ?_
 refine Nb 7 rfl (fun hg7 => ?_) (fun hg7 => ?_)
 ·(try simp only [sB] at hg7)
  refine Kq rfl (lda rfl rfl .tc u61 rfl ?_) ?_
  ·kernel_rfl
  refine Ku rfl (Oc rfl rfl (Kv fun w hS => zvalid_c (x := y))) ?_
  refine Kq rfl (Rp rfl rfl rfl) (Ka rfl (Nt (Ce ?_)))
  exact R1 rfl rfl (by (simp [*, tup]; done))
 ·(try simp only [sB] at hg7)
  refine Kt rfl (Kt rfl (Kq rfl (Rq rfl rfl rfl) (Ka rfl (Nt (Ce ?_)))))
  exact R1 rfl rfl (by (simp [*, tup]; done))
theorem zneg_c {x : Zs} {w : World} :
  Cw 175 #[zV x] w (zV (negZ x)) := by
 refine En [] [(0, zV x)] Tryz.func175 rfl Tryz.ntmps175 rfl (Ac rfl (An _)) Fn ?_
 refine Cs ?_
 refine Kh rfl (Oy rfl rfl) ?_
 intro b1
 refine Kh rfl (Oz [.bool false, .string (S [])] rfl) ?_
 intro b2
 refine Nt (Cq (Cs ?_))
 refine Kq rfl (lda rfl rfl .tc u61 rfl ?_) ?_
 ·kernel_rfl
 refine Ku rfl (Oc rfl rfl (Kv fun w hS => zvalid_c (x := x))) ?_
 refine Kq rfl (Rt rfl rfl) (Nt ?_)
 refine Cd rfl (fun hc5 => ?_) (fun hc5 => ?_)
 ·(try simp only [sB] at hc5)
  have hr : negZ x = (false, []) := by rw [negZ, if_neg (by simpa using hc5)]
  refine Cs (Kq rfl (Kb [[.bool false], [.string (S [])]] rfl rfl) ?_)
  refine Nu rfl rfl (Sa rfl rfl rfl .tc) ?_
  refine Nt (Ce (Xb ?_))
  exact Rn rfl (.agg rfl .tc u61 rfl (by kernel_rfl) .nil) fun w' hS => ⟨by rw [hr]; rfl, hS.below⟩
 ·(try simp only [sB] at hc5)
  have hr : negZ x = mkZ (!x.1) x.2 := by rw [negZ, if_pos (by simpa using hc5)]
  refine Ck (Xa (Cs (Kq rfl (Fa (q := 0) rfl rfl u61 rfl rfl) (Kq rfl (Ld rfl rfl .tc u4) ?_))))
  refine Kq rfl (Rt rfl rfl) (Kq rfl (Fa (q := 1) rfl rfl u61 rfl rfl) (Kq rfl (Ld rfl rfl .tc u22) ?_))
  refine Ku rfl (Oc rfl rfl (Kv fun w hS => made_c (n := !x.1) (a := x.2))) ?_
  refine Nu rfl rfl (Sa rfl rfl rfl .tc) ?_
  refine Nt (Ce ?_)
  exact Rn rfl (.agg rfl .tc u61 rfl (by kernel_rfl) .nil) fun w' hS => ⟨by rw [hr]; rfl, hS.below⟩
theorem subN_ok {a b : Bs} (ha : okN a) (hb : okN b) (h : val b ≤ val a) : subN a b = (canon (val a - val b), 0) := by rw [subN, if_pos ⟨ha, hb⟩, if_neg (by omega)]
theorem cmpN_ok {a b : Bs} (ha : okN a) (hb : okN b) : cmpN a b = cmpI (val a) (val b) := by rw [cmpN, if_pos ⟨ha, hb⟩]
theorem zadd_c {x y : Zs} {w : World} :
  Cw 158 #[zV x, zV y] w (ZE (addZ x y)) := by
 refine En [] [(0, zV x), (1, zV y)] Tryz.func158 rfl Tryz.ntmps158 rfl (Ac rfl (Ac rfl (An _))) Fn ?_
 refine Cs ?_
 refine Kh rfl (Oy rfl rfl) ?_
 intro b2
 refine Kh rfl (Oy rfl rfl) ?_
 intro b3
 refine Kh rfl (Oz [.bool false, .string (S [])] rfl) ?_
 intro b4
 refine Ka rfl (Nt (Cq (Cs ?_)))
 refine Kq rfl (lda rfl rfl .tc u61 rfl ?_) ?_
 ·kernel_rfl
 refine Kq rfl (lda rfl rfl .tc u61 rfl ?_) ?_
 ·kernel_rfl
 refine Ku rfl (Oc rfl rfl (Kv fun w hS => both_c (x := x) (y := y))) ?_
 refine Kq rfl (Rt rfl rfl) (Nt ?_)
 refine Cd rfl (fun hc13 => ?_) (fun hc13 => ?_)
 ·(try simp only [sB] at hc13)
  have hr : addZ x y = ((false, []), 3) := by rw [addZ, if_neg (by simpa using hc13)]
  refine Cs (Kq rfl (Kb [[.bool false], [.string (S [])]] rfl rfl) ?_)
  refine Nu rfl rfl (Sa rfl rfl rfl .tc) ?_
  refine Ka rfl (Nt (Ce (Xb ?_)))
  exact Rn rfl (.agg rfl .tc u61 rfl (by kernel_rfl) (.tmp rfl .nil)) fun w' hS => ⟨by rw [hr]; rfl, hS.below⟩
 ·(try simp only [sB] at hc13)
  have hok : okZ x ∧ okZ y := by simpa using hc13
  have ho1 := hok.1.1; have ho2 := hok.2.1
  refine Ck (Xa (Cq (Cs (Kq rfl (Fa (q := 0) rfl rfl u61 rfl rfl) (Kq rfl (Ld rfl rfl .tc u4) ?_)))))
  refine Kq rfl (Fa (q := 0) rfl rfl u61 rfl rfl) (Kq rfl (Ld rfl rfl .tc u4) ?_)
  refine Kq rfl (rd_beq rfl rfl rfl u4) (Nt ?_)
  refine Cd rfl (fun hc19 => ?_) (fun hc19 => ?_)
  ·(try simp only [sB] at hc19)
   have hs : x.1 = y.1 := by simpa using hc19
   have hr : addZ x y = (mkZ x.1 (addN x.2 y.2).1, (addN x.2 y.2).2) := by rw [addZ, if_pos hok, if_pos hs]
   refine Cs (Kq rfl (Fa (q := 1) rfl rfl u61 rfl rfl) (Kq rfl (Ld rfl rfl .tc u22) ?_))
   refine Kq rfl (Fa (q := 1) rfl rfl u61 rfl rfl) (Kq rfl (Ld rfl rfl .tc u22) ?_)
   refine Ku rfl (Oc rfl rfl (Kv fun w hS => add_c (a := x.2) (b := y.2))) ?_
   refine Km rfl (Kq rfl (Re rfl rfl rfl) (Kq rfl (Re rfl rfl rfl) (Ka rfl (Ka rfl (Nt (Cs (Kq rfl (Fa (q := 0) rfl rfl u61 rfl rfl) (Kq rfl (Ld rfl rfl .tc u4) ?_))))))))
   refine Km rfl ?_
   refine Ku rfl (Oc rfl rfl (Kv fun w hS => made_c (n := x.1) (a := (addN x.2 y.2).1))) ?_
   refine Km rfl ?_
   refine Nu rfl rfl (Sa rfl rfl rfl .tc) ?_
   refine Ka rfl (Nt (Ce (Xb ?_)))
   exact Rn rfl (.agg rfl .tc u61 rfl (by kernel_rfl) (.tmp rfl .nil)) fun w' hS => ⟨by rw [hr]; rfl, hS.below⟩
  ·(try simp only [sB] at hc19)
   have hs : ¬ x.1 = y.1 := by simpa using hc19
   refine Ck (Xa (Cq (Cs (Kq rfl (Fa (q := 1) rfl rfl u61 rfl rfl) (Kq rfl (Ld rfl rfl .tc u22) ?_)))))
   refine Kq rfl (Fa (q := 1) rfl rfl u61 rfl rfl) (Kq rfl (Ld rfl rfl .tc u22) ?_)
   refine Ku rfl (Oc rfl rfl (Kv fun w hS => Cmp_c (a := x.2) (b := y.2))) ?_
   refine Kq rfl (rd_lss rfl rfl rfl) (Nt ?_)
   refine Cd rfl (fun hc38 => ?_) (fun hc38 => ?_)
   ·(try simp only [sB] at hc38)
    rw [cmpN_ok ho1 ho2, cmpI_neg] at hc38
    have hr : addZ x y = (mkZ y.1 (canon (val y.2 - val x.2)), 0) := by rw [addZ, if_pos hok, if_neg hs, if_pos hc38]
    refine Cg ?_
    refine Kq rfl (lda rfl rfl .tc u61 rfl ?_) ?_
    ·kernel_rfl
    refine Kq rfl (lda rfl rfl .tc u61 rfl ?_) ?_
    ·kernel_rfl
    refine Nu rfl rfl (Sa rfl rfl rfl .tc) ?_
    refine Nu rfl rfl (Sa rfl rfl rfl .tc) ?_
    refine Nt (Cs (Kq rfl (Fa (q := 1) rfl rfl u61 rfl rfl) (Kq rfl (Ld rfl rfl .tc u22) ?_)))
    refine Kq rfl (Fa (q := 1) rfl rfl u61 rfl rfl) (Kq rfl (Ld rfl rfl .tc u22) ?_)
    refine Ku rfl (Oc rfl rfl (Kv fun w hS => sub_c)) ?_
    refine Km rfl (Kq rfl (Re rfl rfl rfl) (Kq rfl (Re rfl rfl rfl) (Ka rfl (Ka rfl (Nt (Cs (Kq rfl (Fa (q := 0) rfl rfl u61 rfl rfl) (Kq rfl (Ld rfl rfl .tc u4) ?_))))))))
    refine Km rfl ?_
    refine Ku rfl (Oc rfl rfl (Kv fun w hS => made_c)) ?_
    refine Km rfl ?_
    refine Nu rfl rfl (Sa rfl rfl rfl .tc) ?_
    refine Ka rfl (Nt (Ce ?_))
    exact Rn rfl (.agg rfl .tc u61 rfl (by kernel_rfl) (.tmp rfl .nil)) fun w' hS => ⟨by rw [hr]; (rw [subN_ok ho2 ho1 (by omega)]; rfl), hS.below⟩
   ·(try simp only [sB] at hc38)
    have hge : val y.2 ≤ val x.2 := Nat.not_lt.1 fun h => by rw [cmpN_ok ho1 ho2] at hc38; have := (cmpI_neg _ _).2 h; omega
    have hr : addZ x y = (mkZ x.1 (canon (val x.2 - val y.2)), 0) := by rw [addZ, if_pos hok, if_neg hs, if_neg (by omega)]
    refine Ck (Xa (Cs (Kq rfl (Fa (q := 1) rfl rfl u61 rfl rfl) (Kq rfl (Ld rfl rfl .tc u22) ?_))))
    refine Kq rfl (Fa (q := 1) rfl rfl u61 rfl rfl) (Kq rfl (Ld rfl rfl .tc u22) ?_)
    refine Ku rfl (Oc rfl rfl (Kv fun w hS => sub_c)) ?_
    refine Km rfl (Kq rfl (Re rfl rfl rfl) (Kq rfl (Re rfl rfl rfl) (Ka rfl (Ka rfl (Nt (Cs (Kq rfl (Fa (q := 0) rfl rfl u61 rfl rfl) (Kq rfl (Ld rfl rfl .tc u4) ?_))))))))
    refine Km rfl ?_
    refine Ku rfl (Oc rfl rfl (Kv fun w hS => made_c)) ?_
    refine Km rfl ?_
    refine Nu rfl rfl (Sa rfl rfl rfl .tc) ?_
    refine Ka rfl (Nt (Ce ?_))
    exact Rn rfl (.agg rfl .tc u61 rfl (by kernel_rfl) (.tmp rfl .nil)) fun w' hS => ⟨by rw [hr]; (rw [subN_ok ho1 ho2 hge]; rfl), hS.below⟩
theorem zsub_c {x y : Zs} {w : World} :
  Cw 157 #[zV x, zV y] w (ZE (subZ x y)) := by
 refine En [] [(0, zV x), (1, zV y)] Tryz.func157 rfl Tryz.ntmps157 rfl (Ac rfl (Ac rfl (An _))) Fn ?_
 refine Cs ?_
 refine Kh rfl (Oy rfl rfl) ?_
 intro b2
 refine Kh rfl (Oy rfl rfl) ?_
 intro b3
 refine Kh rfl (Oz [.bool false, .string (S [])] rfl) ?_
 intro b4
 refine Ka rfl (Nt (Cq (Cs ?_)))
 refine Kq rfl (lda rfl rfl .tc u61 rfl ?_) ?_
 ·kernel_rfl
 refine Kq rfl (lda rfl rfl .tc u61 rfl ?_) ?_
 ·kernel_rfl
 refine Ku rfl (Oc rfl rfl (Kv fun w hS => both_c (x := x) (y := y))) ?_
 refine Kq rfl (Rt rfl rfl) (Nt ?_)
 refine Cd rfl (fun hc9 => ?_) (fun hc9 => ?_)
 ·(try simp only [sB] at hc9)
  have hr : subZ x y = ((false, []), 3) := by rw [subZ, if_neg (by simpa using hc9)]
  refine Cs (Kq rfl (Kb [[.bool false], [.string (S [])]] rfl rfl) ?_)
  refine Nu rfl rfl (Sa rfl rfl rfl .tc) ?_
  refine Ka rfl (Nt (Ce (Xb ?_)))
  exact Rn rfl (.agg rfl .tc u61 rfl (by kernel_rfl) (.tmp rfl .nil)) fun w' hS => ⟨by rw [hr]; rfl, hS.below⟩
 ·(try simp only [sB] at hc9)
  have hr : subZ x y = addZ x (negZ y) := by rw [subZ, if_pos (by simpa using hc9)]
  refine Ck (Xa (Cq ?_))
  refine Cf [1, 2, 0, 3, 4, 5] [6, 7] [0, 0, 1, 1, 0, 0, 2, 2] (by kernel_rfl) (by kernel_rfl) rfl ?_
  refine Kj rfl (lda rfl rfl .tc u61 rfl ?_) ?_
  ·kernel_rfl
  refine Jv rfl rfl rfl rfl rfl (fun ext => Oc rfl rfl (Kv fun w hS => zneg_c (x := y))) ?_
  refine Kj rfl (lda rfl rfl .tc u61 rfl ?_) ?_
  ·kernel_rfl
  refine Jv rfl rfl rfl rfl rfl (fun ext => Oc rfl rfl (Kv fun w hS => zadd_c (x := x) (y := negZ y))) ?_
  refine Kj rfl (Re rfl rfl rfl) (Kj rfl (Re rfl rfl rfl) ?_)
  refine WJ.nil ?_
  refine Nu rfl rfl (Sa rfl rfl rfl .tc) ?_
  refine Ka rfl (Nt (Ce ?_))
  exact Rn rfl (.agg rfl .tc u61 rfl (by kernel_rfl) (.tmp rfl .nil)) fun w' hS => ⟨by rw [hr]; rfl, hS.below⟩
def ofZ (n : Int) : Zs := mkZ (decide (n < 0)) (canon n.natAbs)
theorem zof_c {n : Int} {w : World} (h0 : -9223372036854775808 ≤ n) (h1 : n ≤ 9223372036854775807) :
  Cw 25 #[.int .i64 n] w (zV (ofZ n)) := by
 refine En [] [(0, .int .i64 n)] Tryz.func25 rfl Tryz.ntmps25 rfl (Ac rfl (An _)) Fn ?_
 refine Cs ?_
 refine Kh rfl (Oz [.bool false, .string (S [])] rfl) ?_
 intro b2
 refine Nt (Cq (Cs (Km rfl (Kq rfl (rd_lss rfl rfl rfl) (Nt ?_)))))
 refine Cd rfl (fun hc4 => ?_) (fun hc4 => ?_)
 ·(try simp only [sB] at hc4)
  have hr : ofZ n = mkZ true (canon n.natAbs) := by rw [ofZ, decide_eq_true hc4]
  refine Cs (Km rfl (Kq rfl (rd_conv rfl rfl u2 u49) (Kq rfl (rd_neg rfl rfl) ?_)))
  refine Ns 7 rfl (v' := .int .u64 ((n.natAbs : Nat) : Int)) (by exact congrArg (Value.int .u64) (by rw [IntKind.wrap_u64, IntKind.wrap_u64]; omega)) ?_
  refine Ku rfl (Oc rfl rfl (Kv fun w hS => of_c (n := n.natAbs) (by omega))) ?_
  refine Ku rfl (Oc rfl rfl (Kv fun w hS => made_c (n := true) (a := canon n.natAbs))) ?_
  refine Nu rfl rfl (Sa rfl rfl rfl .tc) ?_
  refine Nt (Ce (Xb ?_))
  exact Rn rfl (.agg rfl .tc u61 rfl (by kernel_rfl) .nil) fun w' hS => ⟨by rw [hr]; rfl, hS.below⟩
 ·(try simp only [sB] at hc4)
  have hr : ofZ n = mkZ false (canon n.natAbs) := by rw [ofZ, decide_eq_false (by omega)]
  refine Ck (Xa (Cs (Km rfl (Kq rfl (rd_conv rfl rfl u2 u49) ?_))))
  refine Ns 11 rfl (v' := .int .u64 ((n.natAbs : Nat) : Int)) (by exact congrArg (Value.int .u64) (by rw [IntKind.wrap_u64]; omega)) ?_
  refine Ku rfl (Oc rfl rfl (Kv fun w hS => of_c (n := n.natAbs) (by omega))) ?_
  refine Ku rfl (Oc rfl rfl (Kv fun w hS => made_c (n := false) (a := canon n.natAbs))) ?_
  refine Nu rfl rfl (Sa rfl rfl rfl .tc) ?_
  refine Nt (Ce ?_)
  exact Rn rfl (.agg rfl .tc u61 rfl (by kernel_rfl) .nil) fun w' hS => ⟨by rw [hr]; rfl, hS.below⟩
theorem okN_can {n : Nat} (h : n < Big) : okN (canon n) := ⟨canon_big.2 h, can_canon n⟩
theorem okN_val {s : Bs} (h : okN s) : val s < Big := Nat.lt_of_lt_of_le (val_lt s) (Nat.pow_le_pow_right (by decide) h.1)
theorem canon_nil {n : Nat} : canon n = [] ↔ n = 0 := ⟨fun h => by rw [← val_canon n, h]; rfl, fun h => by rw [h]; exact canon_zero⟩
theorem canon_inj {a b : Nat} : canon a = canon b ↔ a = b := ⟨fun h => by rw [← val_canon a, h, val_canon], fun h => by rw [h]⟩
theorem ok_canon {s : Bs} (h : okN s) : canon (val s) = s := canon_val h.2
def zv (x : Zs) : Int := if x.1 then -(val x.2 : Int) else val x.2
theorem ofZ_eq (n : Int) : ofZ n = (decide (n < 0), canon n.natAbs) := by
 unfold ofZ mkZ
 by_cases h : n < 0
 ·rw [decide_eq_true h, Bool.true_and, decide_eq_false (by rw [canon_nil]; omega)]; rfl
 ·rw [decide_eq_false h, Bool.false_and]
theorem okZ_ofZ {n : Int} : okZ (ofZ n) ↔ n.natAbs < Big := by
 rw [ofZ_eq]
 constructor
 ·intro h; have := okN_val h.1; rwa [show val (canon n.natAbs) = n.natAbs from val_canon _] at this
 ·intro h
  refine ⟨okN_can h, ?_⟩
  rintro ⟨h1, h2⟩
  have h1' : n < 0 := by simpa using h1
  have h2' : n.natAbs = 0 := canon_nil.1 h2
  omega
theorem ofZ_nat (n : Nat) : ofZ n = (false, canon n) := by rw [ofZ_eq, decide_eq_false (by omega), Int.natAbs_natCast]
theorem mkZ_of (s : Bool) (n : Nat) : mkZ s (canon n) = ofZ (if s then -(n : Int) else n) := by
 cases s with
 | false => rw [if_neg (by simp), ofZ_nat]; rfl
 | true =>
  rw [if_pos rfl, ofZ_eq, Int.natAbs_neg, Int.natAbs_natCast, mkZ, Bool.true_and]
  congr 1
  by_cases h : n = 0
  ·subst h; rw [canon_zero]; rfl
  ·rw [decide_eq_false (by rw [canon_nil]; exact h), decide_eq_true (by omega)]; rfl
theorem negZ_of {n : Int} (h : n.natAbs < Big) : negZ (ofZ n) = ofZ (-n) := by
 rw [negZ, if_pos (okZ_ofZ.2 h), ofZ_eq, mkZ_of]
 by_cases h1 : n < 0
 ·rw [decide_eq_true h1]; simp only [Bool.not_true, Bool.false_eq_true, if_false]; congr 1; omega
 ·rw [decide_eq_false h1]; simp only [Bool.not_false, if_true]; congr 1; omega
theorem addZ_of {a b : Int} (ha : a.natAbs < Big) (hb : b.natAbs < Big) : addZ (ofZ a) (ofZ b) = if (a + b).natAbs < Big then (ofZ (a + b), 0) else ((false, []), 5) := by
 obtain ⟨G, hG⟩ : ∃ G, G = Big := ⟨_, rfl⟩
 rw [addZ, if_pos ⟨okZ_ofZ.2 ha, okZ_ofZ.2 hb⟩]
 rw [ofZ_eq a, ofZ_eq b]
 simp only [val_canon]
 rw [← hG] at ha hb ⊢
 by_cases hs : decide (a < 0) = decide (b < 0)
 ·rw [if_pos hs]
  have hs' : (a < 0) ↔ (b < 0) := by simpa using hs
  have hn : (a + b).natAbs = a.natAbs + b.natAbs := by by_cases h1 : a < 0 <;> have := hs'.1 <;> have := hs'.2 <;> omega
  rw [addN, if_pos ⟨okN_can (by rw [← hG]; exact ha), okN_can (by rw [← hG]; exact hb)⟩, val_canon, val_canon, ← hG, hn]
  by_cases hl : a.natAbs + b.natAbs < G
  ·rw [if_pos hl, if_pos hl]
   show (mkZ (decide (a < 0)) (canon (a.natAbs + b.natAbs)), (0 : Int)) = _
   rw [mkZ_of]
   congr 2
   by_cases h1 : a < 0
   ·rw [if_pos (by simpa using h1)]; omega
   ·rw [if_neg (by simpa using h1)]; have := hs'.2; omega
  ·rw [if_neg hl, if_neg hl]
   show (mkZ (decide (a < 0)) [], (5 : Int)) = _
   rw [mkZ]; simp
 ·rw [if_neg hs]
  have hs' : ¬ ((a < 0) ↔ (b < 0)) := by simpa using hs
  have hl : (a + b).natAbs < G := by omega
  rw [if_pos hl]
  by_cases h1 : a.natAbs < b.natAbs
  ·rw [if_pos h1, mkZ_of]
   congr 2
   by_cases h2 : b < 0
   ·rw [if_pos (by simpa using h2)]; omega
   ·rw [if_neg (by simpa using h2)]; omega
  ·rw [if_neg h1, mkZ_of]
   congr 2
   by_cases h2 : a < 0
   ·rw [if_pos (by simpa using h2)]; omega
   ·rw [if_neg (by simpa using h2)]; omega
theorem subZ_of {a b : Int} (ha : a.natAbs < Big) (hb : b.natAbs < Big) : subZ (ofZ a) (ofZ b) = if (a - b).natAbs < Big then (ofZ (a - b), 0) else ((false, []), 5) := by
 rw [subZ, if_pos ⟨okZ_ofZ.2 ha, okZ_ofZ.2 hb⟩, negZ_of hb, addZ_of ha (by omega), Int.sub_eq_add_neg]
section
variable {ds : List Deferred} {ρ : Option Nat} {P : Program} {ok : Nat → Prop} {w0 w : World} {own ext : List Ent} {fs : List Fact} {γ : Type} {f : FuncId} {args : Array Value} {val : γ → Value} {p : γ → Prop} {F : γ → List Fact} {a : Option Addr} {xs : List Value}
theorem keep_ff (h : ∀ w, St ok w0 own fs w → Calls P f args w (fun e w' => ∃ g, e = .returned (val g) ∧ p g ∧ Below w.heap.size w w' ∧ ∀ x ∈ F g, x.holds (fun b => (ok b ∧ b ∉ ids own) ∨ w.heap.size ≤ b) w')) :
  ∀ w, St ok w0 own fs w → Calls P f args w (fun e w' => ∃ g, e = .returned (val g) ∧ p g ∧ St ok w0 own (F g ++ fs) w') :=
 fun w hS => (h w hS).mono fun _ w' ⟨g, he, hp, hb, hF⟩ => ⟨g, he, hp, by
  have h1 := hS.keep hb
  refine ⟨h1.okn, h1.below, h1.own_, h1.nd, fun x hx => (List.mem_append.1 hx).elim (fun hx => ?_) (h1.fact x)⟩
  exact x.mono (fun b hb => hb.elim id (hS.fresh b)) (hF x hx)⟩
theorem facts_or {fs : List Fact} {ok' : Nat → Prop} (h : ∀ f ∈ fs, f.holds ok w) : ∀ f ∈ fs, f.holds (fun b => ok b ∨ ok' b) w := fun f hf => f.mono (fun _ h => .inl h) (h f hf)
end
section
variable {ds : List Deferred} {ρ : Option Nat} {P : Program} {Q : Exit → Act → World → Prop} {n : Nat} {L : Slots} {x y : Code} {σ : Type} {Z : World → Prop}
theorem slot_i {k : Nat} {kd : IntKind} {i j : Int} (h : slot L k = some (.int kd i)) (e : i = j) : slot L k = some (.int kd j) := e ▸ h
theorem slot_b {k : Nat} {i j : Bool} (h : slot L k = some (.bool i)) (e : i = j) : slot L k = some (.bool j) := e ▸ h
def JoinK (ds : List Deferred) {σ : Type} (Ls : σ → Slots) (Ss : σ → World → Prop) (n : Nat) (a : Act) (w : World) : Prop := ∃ s, Fr ds a n (Ls s) ∧ Ss s w
theorem WC.join (Ls : σ → Slots) (Ss : σ → World → Prop) (h : WC ds ρ P x (Exit.then (JoinK ds Ls Ss n) Q) n L Z) (k : ∀ s, WC ds ρ P y Q n (Ls s) (Ss s)) : WC ds ρ P (.seq x y) Q n L Z :=
 Cq fun a w hF hS => wpIn_mono (h a w hF hS) fun e a w hq => by
  cases e with
  | normal => obtain ⟨s, hF', hS'⟩ := hq; exact k s a w hF' hS'
  | _ => exact hq
theorem WX.join {Ls : σ → Slots} {Ss : σ → World → Prop} (s : σ) (hL : ∀ k v, slot (Ls s) k = some v → slot L k = some v) (hS : ∀ w, Z w → Ss s w) : WX ds (Exit.then (JoinK ds Ls Ss n) Q) .normal n L Z := fun _ w hF h => ⟨s, hF.sub hL, hS w h⟩
theorem WC.joinP (Lm : Slots) (Ls : σ → Slots) (inv : σ → Prop) (hm : ∀ k v, slot Lm k = some v → slot L k = some v) (h : WC ds ρ P x (Exit.then (JoinK ds (fun s => Ls s ++ Lm) (fun s w => inv s ∧ Z w) n) Q) n L Z) (k : ∀ s, inv s → WC ds ρ P y Q n (Ls s ++ Lm) Z) : WC ds ρ P (.seq x y) Q n L Z :=
 have := hm
 WC.join _ _ h fun s => WC.pu fun h => k s h
theorem WX.joinP {Z' : World → Prop} {L' Lm : Slots} {Ls : σ → Slots} {inv : σ → Prop} (s : σ) (hm : ∀ k v, slot Lm k = some v → slot L' k = some v) (hL : ∀ k v, slot (Ls s) k = some v → slot L' k = some v) (hi : inv s) (hZ : ∀ w, Z' w → Z w) :
  WX ds (Exit.then (JoinK ds (fun s => Ls s ++ Lm) (fun s w => inv s ∧ Z w) n) Q) .normal n L' Z' := WX.join s (sub_app hL hm) fun w h => ⟨hi, hZ w h⟩
theorem WC.joinO {ok : Nat → Prop} {w0 : World} {own : List Ent} {fs : List Fact} (Lm : Slots) (Ls : σ → Slots) (inv : σ → Prop) (own' : σ → List Ent) (fs' : σ → List Fact) (hm : ∀ k v, slot Lm k = some v → slot L k = some v)
  (h : WC ds ρ P x (Exit.then (JoinK ds (fun s => Ls s ++ Lm) (fun s w => inv s ∧ St ok w0 (own' s) (fs' s) w) n) Q) n L (St ok w0 own fs)) (k : ∀ s, inv s → WC ds ρ P y Q n (Ls s ++ Lm) (St ok w0 (own' s) (fs' s))) : WC ds ρ P (.seq x y) Q n L (St ok w0 own fs) :=
 have := hm
 WC.join _ _ h fun s => WC.pu fun h => k s h
theorem WX.joinO {ok : Nat → Prop} {w0 : World} {Z' : World → Prop} {L' Lm : Slots} {Ls : σ → Slots} {inv : σ → Prop} {own' : σ → List Ent} {fs' : σ → List Fact} (s : σ) (hm : ∀ k v, slot Lm k = some v → slot L' k = some v) (hL : ∀ k v, slot (Ls s) k = some v → slot L' k = some v) (hi : inv s) (hZ : ∀ w, Z' w → St ok w0 (own' s) (fs' s) w) :
  WX ds (Exit.then (JoinK ds (fun s => Ls s ++ Lm) (fun s w => inv s ∧ St ok w0 (own' s) (fs' s) w) n) Q) .normal n L' Z' := WX.join s (sub_app hL hm) fun w h => ⟨hi, hZ w h⟩
theorem WC.ordersP {id : Nat} {l : List Oper} {n : Nat} {L : Slots} {ok : Nat → Prop} {w0 : World} {own : List Ent} {fs : List Fact} (Lm : Slots) (own' : List Ent) (fs' : List Fact) (hm : ∀ k v, slot Lm k = some v → slot L k = some v) (iss : List (List Nat)) {oss : List (List Oper)} (hp : P.follows .mixedOrders = true)
  (hi : allOrders l.toArray l.length (Array.replicate l.length false) = iss) (ho : iss.map (pickOps l) = oss)
  (k : AllL ds P l (Mid ds (fun _ : Unit => Lm) (fun _ => St ok w0 own' fs') n) n L (St ok w0 own fs) oss) (next : WX ds Q .normal n Lm (St ok w0 own' fs')) : WC ds none P (.region id l.toArray true) Q n L (St ok w0 own fs) :=
 have := hm
 WC.orders (fun _ => Lm) _ iss hp hi ho (fun w h => h.draw) k fun _ => next
theorem WX.midP {γ : Type} {n : Nat} {L Lm : Slots} {S : World → Prop} {S' : γ → World → Prop} (g : γ) (hm : ∀ k v, slot Lm k = some v → slot L k = some v) (hS : ∀ w, S w → S' g w) : WX ds (Mid ds (fun _ => Lm) S' n) .normal n L S := WX.mid g hm hS
end
class WdK (k : IntKind) (j : outParam Nat) : Prop where
 hj : j ≤ k.bits
 hk : ∀ n : Int, 0 ≤ n → n < 2 ^ j → k.wrap n = n
instance : WdK .u8 8 := ⟨by decide, fun n h0 h1 => by rw [IntKind.wrap_u8]; omega⟩
instance : WdK .u32 32 := ⟨by decide, fun n h0 h1 => by rw [IntKind.wrap_u32]; omega⟩
instance : WdK .u64 64 := ⟨by decide, fun n h0 h1 => by rw [IntKind.wrap_u64]; omega⟩
instance : WdK .i64 63 := ⟨by decide, fun n h0 h1 => by rw [IntKind.wrap_i64]; omega⟩
theorem wrN {k : IntKind} {j x : Nat} [h : WdK k j] (hx : x < 2 ^ j) : k.wrap (x : Int) = x := h.hk x (Int.natCast_nonneg _) (by exact_mod_cast hx)
class WdU (k : IntKind) (j : outParam Nat) : Prop where
 hu : ∀ n : Int, k.wrap n = n % 2 ^ j
instance : WdU .u8 8 := ⟨fun n => IntKind.wrap_u8 n⟩
instance : WdU .u32 32 := ⟨fun n => IntKind.wrap_u32 n⟩
instance : WdU .u64 64 := ⟨fun n => IntKind.wrap_u64 n⟩
section
variable {ds : List Deferred} {P : Program} {o : Oper} {n : Nat} {L : Slots} {Z : World → Prop} {x y : Operand} {t t2 : TypeId} {k k' : IntKind} {a c j m : Nat} {b : Bool}
theorem Rd.cv {v v' : Value} (h : Rd ds P o n L Z v) (e : v = v') : Rd ds P o n L Z v' := e ▸ h
theorem rd_addW [WdK k j] (hop : o.op = .binOp .add t x y t2) (hx : oper L x = some (.int k (a : Int))) (hy : oper L y = some (.int k (c : Int))) (h : a + c < 2 ^ j) : Rd ds P o n L Z (.int k ((a + c : Nat) : Int)) :=
 (rd_add hop hx hy).cv (by rw [← wrN (k := k) h, Int.natCast_add])
theorem rd_subW [WdK k j] (hop : o.op = .binOp .sub t x y t2) (hx : oper L x = some (.int k (a : Int))) (hy : oper L y = some (.int k (c : Int))) (h : c ≤ a ∧ a < 2 ^ j) : Rd ds P o n L Z (.int k ((a - c : Nat) : Int)) :=
 (rd_sub hop hx hy).cv (by rw [← wrN (k := k) (Nat.lt_of_le_of_lt (Nat.sub_le a c) h.2), Int.natCast_sub h.1])
theorem rd_mulW [WdK k j] (hop : o.op = .binOp .mul t x y t2) (hx : oper L x = some (.int k (a : Int))) (hy : oper L y = some (.int k (c : Int))) (h : a * c < 2 ^ j) : Rd ds P o n L Z (.int k ((a * c : Nat) : Int)) :=
 (rd_mul hop hx hy).cv (by rw [← wrN (k := k) h, Int.natCast_mul])
theorem rd_mulM [WdU k j] (hop : o.op = .binOp .mul t x y t2) (hx : oper L x = some (.int k (a : Int))) (hy : oper L y = some (.int k (c : Int))) : Rd ds P o n L Z (.int k ((a * c % 2 ^ j : Nat) : Int)) :=
 (rd_mul hop hx hy).cv (by rw [WdU.hu (k := k)]; simp)
theorem rd_shlW [hw : WdK k j] (hop : o.op = .binOp .shl t x y t2) (hx : oper L x = some (.int k (a : Int))) (hy : oper L y = some (.int k' (c : Int))) (hc : c ≤ k.bits) (h : a * 2 ^ c < 2 ^ j) : Rd ds P o n L Z (.int k ((a * 2 ^ c : Nat) : Int)) :=
 (rd_shl hop hx hy (Int.natCast_nonneg _)).cv (by rw [Int.toNat_natCast, Nat.min_eq_left hc, ← wrN (k := k) h]; simp)
theorem rd_shlM [hw : WdU k j] (hop : o.op = .binOp .shl t x y t2) (hx : oper L x = some (.int k (a : Int))) (hy : oper L y = some (.int k' (c : Int))) (hc : c ≤ k.bits) : Rd ds P o n L Z (.int k ((a * 2 ^ c % 2 ^ j : Nat) : Int)) :=
 (rd_shl hop hx hy (Int.natCast_nonneg _)).cv (by rw [Int.toNat_natCast, Nat.min_eq_left hc, WdU.hu (k := k)]; simp)
theorem rd_shrW (hop : o.op = .binOp .shr t x y t2) (hx : oper L x = some (.int k (a : Int))) (hy : oper L y = some (.int k' (c : Int))) (hc : c ≤ k.bits) : Rd ds P o n L Z (.int k ((a / 2 ^ c : Nat) : Int)) :=
 (rd_shr hop hx hy (Int.natCast_nonneg _)).cv (by
  rw [Int.toNat_natCast, Nat.min_eq_left hc, Int.fdiv_eq_ediv_of_nonneg _ (by have := Int.pow_pos (n := 2) (m := c) (by decide); omega)]; simp)
theorem rd_andW (m : Nat) [hw : WdK k j] {i : Int} (hop : o.op = .binOp .and t x y t2) (hx : oper L x = some (.int k (a : Int))) (hy : oper L y = some (.int k i)) (hi : i = 2 ^ m - 1) (h : m ≤ j ∧ a < 2 ^ j) : Rd ds P o n L Z (.int k ((a % 2 ^ m : Nat) : Int)) :=
 (rd_and hop hx hy).cv (by rw [hi, bits_mask k j hw.hj hw.hk m h.1 a (Int.natCast_nonneg _) (by exact_mod_cast h.2)]; simp)
theorem rd_orW (m : Nat) [hw : WdK k j] (hop : o.op = .binOp .or t x y t2) (hx : oper L x = some (.int k (a : Int))) (hy : oper L y = some (.int k (c : Int))) (h : a % 2 ^ m = 0 ∧ a < 2 ^ j ∧ c < 2 ^ m ∧ m ≤ j) : Rd ds P o n L Z (.int k ((a + c : Nat) : Int)) :=
 (rd_or hop hx hy).cv (by
  have hc : c < 2 ^ j := Nat.lt_of_lt_of_le h.2.2.1 (Nat.pow_le_pow_right (by decide) h.2.2.2)
  rw [bits_join k j hw.hj hw.hk m a c (Int.natCast_nonneg _) (by exact_mod_cast h.1) (by exact_mod_cast h.2.1) (Int.natCast_nonneg _) (by exact_mod_cast h.2.2.1) (by exact_mod_cast hc)]; simp)
theorem rd_orV (m : Nat) [hw : WdK k j] (hop : o.op = .binOp .or t x y t2) (hx : oper L x = some (.int k (a : Int))) (hy : oper L y = some (.int k (c : Int))) (h : a < 2 ^ m ∧ c % 2 ^ m = 0 ∧ c < 2 ^ j ∧ m ≤ j) : Rd ds P o n L Z (.int k ((a + c : Nat) : Int)) :=
 (rd_or hop hx hy).cv (by
  have ha : a < 2 ^ j := Nat.lt_of_lt_of_le h.1 (Nat.pow_le_pow_right (by decide) h.2.2.2)
  have e : bits .or k (a : Int) (c : Int) = bits .or k (c : Int) (a : Int) := by
   simp only [bits, BitVec.or_comm]
  rw [e, bits_join k j hw.hj hw.hk m c a (Int.natCast_nonneg _) (by exact_mod_cast h.2.1) (by exact_mod_cast h.2.2.1) (Int.natCast_nonneg _) (by exact_mod_cast h.1) (by exact_mod_cast ha), Int.add_comm]; simp)
theorem rd_bne {p q : Bool} (hop : o.op = .binOp .neq t x y t2) (hx : oper L x = some (.bool p)) (hy : oper L y = some (.bool q)) (hu : P.underlying t = some .bool) : Rd ds P o n L Z (.bool (p != q)) :=
 run_bin hop hx hy (guard_bool _ _ _) fun w => run_neq_bool w t p q hu
theorem rd_quoW [WdK k j] (hop : o.op = .binOp .quo t x y t2) (hx : oper L x = some (.int k (a : Int))) (hy : oper L y = some (.int k (c : Int))) (h : 0 < c ∧ a < 2 ^ j) : Rd ds P o n L Z (.int k ((a / c : Nat) : Int)) :=
 (rd_quo hop hx hy (by omega)).cv (by
  rw [Int.tdiv_eq_ediv_of_nonneg (Int.natCast_nonneg _), ← Int.natCast_ediv, wrN (k := k) (Nat.lt_of_le_of_lt (Nat.div_le_self a c) h.2)])
theorem rd_remW (hop : o.op = .binOp .rem t x y t2) (hx : oper L x = some (.int k (a : Int))) (hy : oper L y = some (.int k (c : Int))) (h : 0 < c) : Rd ds P o n L Z (.int k ((a % c : Nat) : Int)) :=
 (rd_rem hop hx hy (by omega)).cv (by rw [Int.tmod_eq_emod_of_nonneg (Int.natCast_nonneg _), ← Int.natCast_emod])
theorem rd_convM [WdU k j] (hop : o.op = .convert t t2 x) (hx : oper L x = some (.int k' (a : Int))) {d : TypeDesc} (h1 : P.underlying t = some d) (h2 : P.underlying t2 = some (.int k)) : Rd ds P o n L Z (.int k ((a % 2 ^ j : Nat) : Int)) :=
 (rd_conv hop hx h1 h2).cv (by rw [WdU.hu (k := k)]; simp)
theorem rd_convW [WdK k j] (hop : o.op = .convert t t2 x) (hx : oper L x = some (.int k' (a : Int))) {d : TypeDesc} (h1 : P.underlying t = some d) (h2 : P.underlying t2 = some (.int k)) (h : a < 2 ^ j) : Rd ds P o n L Z (.int k (a : Int)) :=
 (rd_conv hop hx h1 h2).cv (by rw [wrN (k := k) h])
theorem rd_conv8 [WdK k j] {c : UInt8} (hop : o.op = .convert t t2 x) (hx : oper L x = some (.int .u8 (c.toNat : Int))) {d : TypeDesc} (h1 : P.underlying t = some d) (h2 : P.underlying t2 = some (.int k)) (h : 8 ≤ j) : Rd ds P o n L Z (.int k (c.toNat : Int)) :=
 rd_convW hop hx h1 h2 (Nat.lt_of_lt_of_le c.toNat_lt (Nat.pow_le_pow_right (by decide) h))
theorem rd_sidxN {s : List UInt8} {i : Nat} (hop : o.op = .index t x y) (hx : oper L x = some (.string (S s))) (hy : oper L y = some (.int k (i : Int))) (h1 : P.underlying t = some .string) (h0 : i < s.length) : Rd ds P o n L Z (.int .u8 ((s.getD i default).toNat : Int)) :=
 (rd_sidxD hop hx hy h1 ⟨Int.natCast_nonneg _, by rwa [Int.toNat_natCast]⟩).cv (by rw [Int.toNat_natCast])
theorem rd_convB (hop : o.op = .convert t t2 x) (hx : oper L x = some (.int k' (a : Int))) {d : TypeDesc} (h1 : P.underlying t = some d) (h2 : P.underlying t2 = some (.int .u8)) : Rd ds P o n L Z (.int .u8 ((UInt8.ofNat a).toNat : Int)) :=
 (rd_convM hop hx h1 h2).cv rfl
end
section
variable {ds : List Deferred} {P : Program} {ok : Nat → Prop} {w0 : World} {own : List Ent} {fs : List Fact} {o : Oper} {n b off sz : Nat} {L : Slots} {x : Operand} {t T e : TypeId} {cs ys : List Value} {C : Ent → List Ent}
theorem clr {len cap : Nat} {zv : Value} (hop : o.op = .call { callee := .builtin .clear, args := #[x], argTypes := #[t] }) (hx : oper L x = some (.slice (some ⟨b, off, none⟩) len cap)) (hk : Ctx own ⟨some b, cs, T⟩ C)
  (hu : P.underlying t = some (.slice e)) (hi : (P.info? e).map (fun i => (i.zero, i.size, i.bytes)) = some (some zv, 1, sz)) (h1 : zv.cells = #[zv]) (ho : zv.oneCell' = true) (hl : 0 < len) (hfit : off + len ≤ cs.length) (hys : cs.take off ++ List.replicate len zv ++ cs.drop (off + len) = ys) :
  Og ds P o n L (St ok w0 own fs) (fun _ : Unit => .tuple #[]) (fun _ => St ok w0 (C ⟨some b, ys, T⟩) fs) :=
 og_run fun a hF w hS => by
  obtain ⟨kk, hkk, hC⟩ := hk.get
  obtain ⟨i', hi', hz, hs, hbb⟩ := info_parts hi
  have hst := run_storeCells_at P b off T (List.replicate len zv) 0 cs.toArray w (hS.block hkk) (by simp; omega) (fun u hu => by rw [List.eq_of_mem_replicate hu]; exact ho)
  simp only [Nat.add_zero, List.length_replicate, hys] at hst
  refine ⟨(), w.setRow b ys.toArray, .inl ?_, by rw [hC]; exact hS.setRow hkk _⟩
  obtain ⟨l', rfl⟩ : ∃ l', len = l' + 1 := ⟨len - 1, by omega⟩
  have hzr : (zeroValue e).run P w = .ok zv w := by simp [zeroValue, typeInfo, hi', hz]
  simp [execOp, hop, resolve, invoke, builtin, hF.eval hx, Builtin.clear_, run_underlying hu, hzr, h1, zero_one, hst]
end
end Go.Proofs.YtddoigmffkmpcaaGreatDoor
namespace Go.Proofs.YtddoigmffkmpcaaGreatDoor
set_option linter.unusedSimpArgs false
set_option linter.unusedVariables false
set_option maxRecDepth 20000
def ev (β : Nat) : List Nat → Nat
 | [] => 0
 | x :: l => x + β * ev β l
theorem ev_append (β : Nat) : ∀ a b : List Nat, ev β (a ++ b) = ev β a + β ^ a.length * ev β b
 | [], b => by simp [ev]
 | x :: a, b => by
  rw [List.cons_append, ev, ev, ev_append β a b, List.length_cons, Nat.pow_succ, Nat.mul_add, Nat.add_assoc, ← Nat.mul_assoc, Nat.mul_comm β (β ^ a.length)]
theorem ev_take_drop (β : Nat) (l : List Nat) (i : Nat) (h : i ≤ l.length) : ev β l = ev β (l.take i) + β ^ i * ev β (l.drop i) := by
 have := ev_append β (l.take i) (l.drop i)
 rwa [List.take_append_drop, List.length_take, Nat.min_eq_left h] at this
theorem ev_take_succ (β : Nat) (l : List Nat) (i : Nat) (h : i < l.length) : ev β (l.take (i + 1)) = ev β (l.take i) + β ^ i * l.getD i 0 := by
 rw [List.take_add_one, List.getElem?_eq_getElem h, ev_append, List.length_take, Nat.min_eq_left (by omega), List.getD_eq_getElem?_getD, List.getElem?_eq_getElem h]
 simp [ev]
theorem ev_lt (β : Nat) : ∀ l : List Nat, (∀ x ∈ l, x < β) → ev β l < β ^ l.length
 | [], _ => by simp [ev]
 | x :: l, h => by
  have h1 := ev_lt β l fun y hy => h y (.tail _ hy)
  have h2 := h x (.head _)
  rw [ev, List.length_cons, Nat.pow_succ]
  have : β * (ev β l + 1) ≤ β * β ^ l.length := Nat.mul_le_mul_left _ h1
  rw [Nat.mul_add, Nat.mul_one, Nat.mul_comm β (β ^ l.length)] at this
  omega
theorem ev_take_lt (β : Nat) (l : List Nat) (i : Nat) (hi : i ≤ l.length) (h : ∀ x ∈ l, x < β) : ev β (l.take i) < β ^ i := by
 have := ev_lt β (l.take i) fun x hx => h x (List.mem_of_mem_take hx)
 rwa [List.length_take, Nat.min_eq_left hi] at this
theorem ev_replicate (β n : Nat) : ev β (List.replicate n 0) = 0 := by
 induction n with
 | zero => rfl
 | succ n ih => rw [List.replicate_succ, ev, ih]; simp
theorem take_set_lt {α : Type} (l : List α) (i k : Nat) (y : α) (h : k ≤ i) : (l.set i y).take k = l.take k := by
 rw [List.take_set, List.set_eq_of_length_le (by rw [List.length_take]; omega)]
theorem take_set_succ (l : List Nat) (i y : Nat) (h : i < l.length) : (l.set i y).take (i + 1) = l.take i ++ [y] := by
 rw [List.take_add_one, take_set_lt l i i y (Nat.le_refl _), List.getElem?_set_self h]; rfl
theorem drop_set_lt {α : Type} (l : List α) (i k : Nat) (y : α) (h : i < k) : (l.set i y).drop k = l.drop k := by
 rw [List.drop_set, if_pos h]
theorem ev_set_take (β : Nat) (l : List Nat) (i y : Nat) (h : i < l.length) : ev β ((l.set i y).take (i + 1)) = ev β (l.take i) + β ^ i * y := by
 rw [take_set_succ l i y h, ev_append, List.length_take, Nat.min_eq_left (by omega)]; simp [ev]
theorem ev_set (β : Nat) (l : List Nat) (i y : Nat) (h : i < l.length) : ev β (l.set i y) + β ^ i * l.getD i 0 = ev β l + β ^ i * y := by
 rw [ev_take_drop β (l.set i y) (i + 1) (by rw [List.length_set]; omega), ev_set_take β l i y h, drop_set_lt l i (i + 1) y (by omega), ev_take_drop β l (i + 1) (by omega), ev_take_succ β l i h]
 omega
theorem ev_digit (β : Nat) (hβ : 0 < β) (l : List Nat) (i : Nat) (hi : i < l.length) (h : ∀ x ∈ l, x < β) : ev β l / β ^ i % β = l.getD i 0 := by
 have h1 := ev_take_lt β l i (by omega) h
 have h2 : l.drop i = l.getD i 0 :: l.drop (i + 1) := by
  rw [List.drop_eq_getElem_cons hi, List.getD_eq_getElem?_getD, List.getElem?_eq_getElem hi]; rfl
 have h3 : l.getD i 0 < β := by
  rw [List.getD_eq_getElem?_getD, List.getElem?_eq_getElem hi]; exact h _ (List.getElem_mem hi)
 rw [ev_take_drop β l i (by omega), h2, ev, Nat.add_mul_div_left _ _ (Nat.pow_pos hβ), Nat.div_eq_of_lt h1, Nat.zero_add, Nat.add_mul_mod_self_left, Nat.mod_eq_of_lt h3]
theorem getD_set_ne (l : List Nat) (i k y : Nat) (h : i ≠ k) : (l.set i y).getD k 0 = l.getD k 0 := by
 rw [List.getD_eq_getElem?_getD, List.getD_eq_getElem?_getD, List.getElem?_set_ne h]
theorem getD_set_eq (l : List Nat) (i y : Nat) (h : i < l.length) : (l.set i y).getD i 0 = y := by
 rw [List.getD_eq_getElem?_getD, List.getElem?_set_self h]; rfl
theorem getD_lt (β : Nat) (hβ : 0 < β) (l : List Nat) (h : ∀ x ∈ l, x < β) (i : Nat) : l.getD i 0 < β := by
 rw [List.getD_eq_getElem?_getD]
 cases hi : l[i]? with
 | none => exact hβ
 | some x => exact h x (List.mem_of_getElem? hi)
theorem set_lt (β : Nat) (l : List Nat) (h : ∀ x ∈ l, x < β) (i y : Nat) (hy : y < β) : ∀ x ∈ l.set i y, x < β := by
 intro x hx
 rcases List.mem_or_eq_of_mem_set hx with h1 | h1
 ·exact h x h1
 ·rw [h1]; exact hy
def colC (β : Nat) (c : List Nat) (i : Nat) : Nat := ev β (c.take i) / β ^ i
theorem colC_zero (β : Nat) (c : List Nat) : colC β c 0 = 0 := by simp [colC, ev]
theorem colC_succ (β : Nat) (hβ : 0 < β) (c : List Nat) (i : Nat) (hi : i < c.length) : colC β c (i + 1) = (colC β c i + c.getD i 0) / β := by
 rw [colC, ev_take_succ β c i hi, Nat.pow_succ, ← Nat.div_div_eq_div_mul, Nat.add_mul_div_left _ _ (Nat.pow_pos hβ), colC]
theorem colC_digit (β : Nat) (hβ : 0 < β) (c : List Nat) (i : Nat) (hi : i < c.length) : ev β c / β ^ i % β = (colC β c i + c.getD i 0) % β := by
 have h2 : c.drop i = c.getD i 0 :: c.drop (i + 1) := by
  rw [List.drop_eq_getElem_cons hi, List.getD_eq_getElem?_getD, List.getElem?_eq_getElem hi]; rfl
 rw [ev_take_drop β c i (by omega), h2, ev, Nat.add_mul_div_left _ _ (Nat.pow_pos hβ), ← Nat.add_assoc, Nat.add_mul_mod_self_left, colC]
theorem colC_le (β : Nat) (hβ : 1 < β) (c : List Nat) (M : Nat) (h : ∀ i, c.getD i 0 ≤ M) : ∀ i, i ≤ c.length → colC β c i ≤ M
 | 0, _ => by rw [colC_zero]; omega
 | i + 1, hi => by
  have h1 := colC_le β hβ c M h i (by omega)
  rw [colC_succ β (by omega) c i (by omega)]
  have h2 := h i
  calc (colC β c i + c.getD i 0) / β ≤ (M + M) / β := Nat.div_le_div_right (by omega)
   _ ≤ (M + M) / 2 := Nat.div_le_div_left (by omega) (by omega)
   _ = M := by omega
end Go.Proofs.YtddoigmffkmpcaaGreatDoor
namespace Go.Proofs.YtddoigmffkmpcaaGreatDoor
set_option linter.unusedSimpArgs false
set_option linter.unusedVariables false
set_option maxRecDepth 20000
structure ColInv (N A B i k : Nat) (c : List Nat) : Prop where
 len : c.length = N
 sum : ev 256 c = A % 256 ^ i * B + A / 256 ^ i % 256 * 256 ^ i * (B % 256 ^ k)
 all : ∀ j, c.getD j 0 ≤ (i + 1) * 65025
 rest : ∀ j, i + k ≤ j → c.getD j 0 ≤ i * 65025
theorem getD_rep (N j : Nat) : (List.replicate N 0).getD j 0 = 0 := by
 rw [List.getD_eq_getElem?_getD, List.getElem?_replicate]; split <;> rfl
theorem col_start (N A B : Nat) : ColInv N A B 0 0 (List.replicate N 0) :=
 ⟨by simp, by rw [ev_replicate]; simp [Nat.mod_one], fun j => by rw [getD_rep]; exact Nat.zero_le _, fun j _ => by rw [getD_rep]; exact Nat.zero_le _⟩
theorem digits_prod (x y : Nat) : x % 256 * (y % 256) ≤ 65025 := by
 have h1 : x % 256 ≤ 255 := by omega
 have h2 : y % 256 ≤ 255 := by omega
 exact Nat.mul_le_mul h1 h2
theorem col_step {N A B i k : Nat} {c : List Nat} (h : ColInv N A B i k c) (hlt : i + k < N) :
  ColInv N A B i (k + 1) (c.set (i + k) (c.getD (i + k) 0 + A / 256 ^ i % 256 * (B / 256 ^ k % 256))) := by
 have hp := digits_prod (A / 256 ^ i) (B / 256 ^ k)
 have hl : i + k < c.length := by rw [h.len]; exact hlt
 refine ⟨by rw [List.length_set]; exact h.len, ?_, fun j => ?_, fun j hj => ?_⟩
 ·have h1 := ev_set 256 c (i + k) (c.getD (i + k) 0 + A / 256 ^ i % 256 * (B / 256 ^ k % 256)) hl
  rw [h.sum, Nat.mul_add] at h1
  rw [Nat.mod_pow_succ, Nat.mul_add, ← Nat.add_assoc]
  have h2 : A / 256 ^ i % 256 * 256 ^ i * (256 ^ k * (B / 256 ^ k % 256)) = 256 ^ (i + k) * (A / 256 ^ i % 256 * (B / 256 ^ k % 256)) := by
   rw [Nat.pow_add]; simp only [Nat.mul_comm, Nat.mul_left_comm, Nat.mul_assoc]
  rw [h2]; omega
 ·by_cases e : i + k = j
  ·subst e; rw [getD_set_eq c _ _ hl]; have := h.rest (i + k) (Nat.le_refl _); rw [Nat.add_mul]; omega
  ·rw [getD_set_ne c _ _ _ e]; exact h.all j
 ·rw [getD_set_ne c _ _ _ (by omega)]; exact h.rest j (by omega)
theorem col_row {N A B i n : Nat} {c : List Nat} (h : ColInv N A B i n c) (hB : B < 256 ^ n) : ColInv N A B (i + 1) 0 c := by
 refine ⟨h.len, ?_, fun j => Nat.le_trans (h.all j) (by rw [Nat.add_mul, Nat.add_mul (i + 1)]; omega), fun j _ => h.all j⟩
 rw [h.sum, Nat.mod_eq_of_lt hB, Nat.mod_pow_succ, Nat.add_mul, Nat.pow_zero, Nat.mod_one, Nat.mul_zero, Nat.add_zero, Nat.mul_comm (256 ^ i) (A / 256 ^ i % 256)]
theorem col_end {N A B n : Nat} {c : List Nat} (h : ColInv N A B n 0 c) (hA : A < 256 ^ n) : ev 256 c = A * B := by
 rw [h.sum, Nat.mod_eq_of_lt hA, Nat.pow_zero, Nat.mod_one, Nat.mul_zero, Nat.add_zero]
theorem col_add {N A B i k : Nat} {c : List Nat} (h : ColInv N A B i k c) (hi : i ≤ 100000) (j : Nat) : c.getD j 0 + A / 256 ^ i % 256 * (B / 256 ^ k % 256) ≤ 9000000000 ∧ A / 256 ^ i % 256 * (B / 256 ^ k % 256) ≤ 65025 := by
 have h1 := digits_prod (A / 256 ^ i) (B / 256 ^ k)
 have h2 := h.all j
 omega
theorem col_carry {N A B n i : Nat} {c : List Nat} (h : ColInv N A B n 0 c) (hn : n ≤ 100000) (hi : i < N) : colC 256 c i + c.getD i 0 ≤ 20000000000 := by
 have h1 := colC_le 256 (by decide) c ((n + 1) * 65025) h.all i (by rw [h.len]; omega)
 have h2 := h.all i
 omega
structure SubInv (β j g : Nat) (r0 d : List Nat) (i : Nat) (r : List Nat) (cy bw : Nat) : Prop where
 len : r.length = r0.length
 dig : ∀ x ∈ r, x < β
 low : r.take j = r0.take j
 high : r.drop (j + i) = r0.drop (j + i)
 sum : ev β (r.take (j + i)) + β ^ j * g * ev β (d.take i) = ev β (r0.take (j + i)) + β ^ (j + i) * (cy + bw)
 cyl : cy < β
 bwl : bw ≤ 1
theorem sub_start {β j g : Nat} {r0 d : List Nat} (hβ : 0 < β) (hd : ∀ x ∈ r0, x < β) : SubInv β j g r0 d 0 r0 0 0 :=
 ⟨rfl, hd, rfl, rfl, by simp [ev], hβ, by omega⟩
theorem getD_drop_eq {r r0 : List Nat} {k : Nat} (h : r.drop k = r0.drop k) : r.getD k 0 = r0.getD k 0 := by
 have := congrArg (fun l => l[0]?.getD 0) h
 simpa [List.getD_eq_getElem?_getD, List.getElem?_drop] using this
theorem drop_succ_eq {α : Type} {r r0 : List α} {k : Nat} (h : r.drop k = r0.drop k) : r.drop (k + 1) = r0.drop (k + 1) := by
 have := congrArg (List.drop 1) h
 simpa [List.drop_drop] using this
theorem sub_step {β j g i cy bw y bw' : Nat} {r0 d r : List Nat} (h : SubInv β j g r0 d i r cy bw) (hβ : 0 < β) (hg : g < β) (hi : i < d.length) (hd : ∀ x ∈ d, x < β) (hj : j + i < r0.length)
  (hy : y + (cy + g * d.getD i 0) % β + bw = r.getD (j + i) 0 + β * bw') (hyl : y < β) (hbw : bw' ≤ 1) :
  SubInv β j g r0 d (i + 1) (r.set (j + i) y) ((cy + g * d.getD i 0) / β) bw' := by
 have hdi := getD_lt β hβ d hd i
 have hjl : j + i < r.length := by rw [h.len]; exact hj
 refine ⟨by rw [List.length_set]; exact h.len, set_lt β r h.dig _ y hyl, by rw [take_set_lt r _ _ _ (by omega)]; exact h.low, ?_, ?_, ?_, hbw⟩
 ·rw [← Nat.add_assoc, drop_set_lt r _ _ _ (by omega)]; exact drop_succ_eq h.high
 ·have hx := getD_drop_eq h.high
  rw [← Nat.add_assoc, ev_set_take β r (j + i) y hjl, ev_take_succ β d i hi, ev_take_succ β r0 (j + i) hj, ← hx]
  have h1 := h.sum
  have h2 := Nat.div_add_mod (cy + g * d.getD i 0) β
  generalize (cy + g * d.getD i 0) / β = q at *
  generalize (cy + g * d.getD i 0) % β = m at *
  have e1 : β ^ j * g * (ev β (d.take i) + β ^ i * d.getD i 0) = β ^ j * g * ev β (d.take i) + β ^ (j + i) * (g * d.getD i 0) := by
   rw [Nat.mul_add, Nat.pow_add]; congr 1; simp only [Nat.mul_comm, Nat.mul_left_comm, Nat.mul_assoc]
  have e2 : β ^ (j + i + 1) * (q + bw') = β ^ (j + i) * (β * q + β * bw') := by rw [Nat.pow_succ, Nat.mul_assoc, Nat.mul_add]
  rw [e1, e2]
  have e3 : cy + bw + y + g * d.getD i 0 = r.getD (j + i) 0 + (β * q + β * bw') := by omega
  have e4 := congrArg (β ^ (j + i) * ·) e3
  simp only [Nat.mul_add] at e4 h1 ⊢
  omega
 ·rw [Nat.div_lt_iff_lt_mul hβ]
  have : g * d.getD i 0 ≤ (β - 1) * (β - 1) := Nat.mul_le_mul (by omega) (by omega)
  have h3 := h.cyl
  have h4 : (β - 1) * (β - 1) + β ≤ β * β := by
   obtain ⟨b, rfl⟩ : ∃ b, β = b + 1 := ⟨β - 1, by omega⟩
   simp only [Nat.add_sub_cancel, Nat.add_mul, Nat.mul_add]; omega
  omega
structure AddInv (β j : Nat) (r0 d : List Nat) (i : Nat) (r : List Nat) (c : Nat) : Prop where
 len : r.length = r0.length
 dig : ∀ x ∈ r, x < β
 low : r.take j = r0.take j
 high : r.drop (j + i) = r0.drop (j + i)
 sum : ev β (r.take (j + i)) + β ^ (j + i) * c = ev β (r0.take (j + i)) + β ^ j * ev β (d.take i)
 cl : c ≤ 1
theorem add_start {β j : Nat} {r0 d : List Nat} (hd : ∀ x ∈ r0, x < β) : AddInv β j r0 d 0 r0 0 := ⟨rfl, hd, rfl, rfl, by simp [ev], by omega⟩
theorem add_step {β j i c : Nat} {r0 d r : List Nat} (h : AddInv β j r0 d i r c) (hβ : 1 < β) (hi : i < d.length) (hd : ∀ x ∈ d, x < β) (hj : j + i < r0.length) :
  AddInv β j r0 d (i + 1) (r.set (j + i) ((c + r.getD (j + i) 0 + d.getD i 0) % β)) ((c + r.getD (j + i) 0 + d.getD i 0) / β) := by
 have hdi := getD_lt β (by omega) d hd i
 have hri := getD_lt β (by omega) r h.dig (j + i)
 have hjl : j + i < r.length := by rw [h.len]; exact hj
 have hcl := h.cl
 refine ⟨by rw [List.length_set]; exact h.len, set_lt β r h.dig _ _ (Nat.mod_lt _ (by omega)), by rw [take_set_lt r _ _ _ (by omega)]; exact h.low, ?_, ?_, ?_⟩
 ·rw [← Nat.add_assoc, drop_set_lt r _ _ _ (by omega)]; exact drop_succ_eq h.high
 ·have hx := getD_drop_eq h.high
  rw [← Nat.add_assoc, ev_set_take β r (j + i) _ hjl, ev_take_succ β d i hi, ev_take_succ β r0 (j + i) hj, ← hx]
  have h1 := h.sum
  have h2 := Nat.div_add_mod (c + r.getD (j + i) 0 + d.getD i 0) β
  generalize (c + r.getD (j + i) 0 + d.getD i 0) / β = q at *
  generalize (c + r.getD (j + i) 0 + d.getD i 0) % β = m at *
  have e1 : β ^ j * (ev β (d.take i) + β ^ i * d.getD i 0) = β ^ j * ev β (d.take i) + β ^ (j + i) * d.getD i 0 := by
   rw [Nat.mul_add, Nat.pow_add, Nat.mul_assoc]
  have e2 : β ^ (j + i + 1) * q = β ^ (j + i) * (β * q) := by rw [Nat.pow_succ, Nat.mul_assoc]
  rw [e1, e2]
  have e4 := congrArg (β ^ (j + i) * ·) h2
  simp only [Nat.mul_add] at e4 h1 ⊢
  omega
 ·apply Nat.le_of_lt_succ
  rw [Nat.div_lt_iff_lt_mul (by omega)]
  omega
theorem guess_ge {β j n W Dv q : Nat} {r d : List Nat} (hβ : 0 < β) (hn : 0 < n) (hdl : d.length = n) (hj : j + n < r.length) (hr : ∀ x ∈ r, x < β)
  (hW : W = ev β (r.take (j + n + 1))) (hD : Dv = ev β d) (htop : 0 < d.getD (n - 1) 0) (hq : q * (β ^ j * Dv) ≤ W) (hlt : W < β ^ (j + 1) * Dv) :
  q ≤ (r.getD (j + n) 0 * β + r.getD (j + n - 1) 0) / d.getD (n - 1) 0 ∧ q < β := by
 have hDv : 0 < Dv := by
  rcases Nat.eq_zero_or_pos Dv with e | e
  ·rw [e] at hlt; omega
  ·exact e
 constructor
 ·rw [Nat.le_div_iff_mul_le htop]
  have e1 : W = ev β (r.take (j + n - 1)) + β ^ (j + n - 1) * (r.getD (j + n - 1) 0 + β * r.getD (j + n) 0) := by
   rw [hW, ev_take_succ β r (j + n) hj, show j + n = (j + n - 1) + 1 by omega, ev_take_succ β r (j + n - 1) (by omega), Nat.pow_succ, Nat.mul_add, Nat.add_sub_cancel, Nat.mul_assoc, Nat.add_assoc]
  have e2 := ev_take_lt β r (j + n - 1) (by omega) hr
  have e3 : β ^ (n - 1) * d.getD (n - 1) 0 ≤ Dv := by
   rw [hD, ev_take_drop β d (n - 1) (by omega), List.drop_eq_getElem_cons (by omega), ev, List.getD_eq_getElem?_getD, List.getElem?_eq_getElem (by omega : n - 1 < d.length), Nat.mul_add]
   show β ^ (n - 1) * d[n - 1] ≤ _
   omega
  have e4 : β ^ (j + n - 1) * (q * d.getD (n - 1) 0) ≤ W := by
   have : q * (β ^ j * (β ^ (n - 1) * d.getD (n - 1) 0)) ≤ q * (β ^ j * Dv) := Nat.mul_le_mul_left _ (Nat.mul_le_mul_left _ e3)
   have e5 : q * (β ^ j * (β ^ (n - 1) * d.getD (n - 1) 0)) = β ^ (j + n - 1) * (q * d.getD (n - 1) 0) := by
    rw [show j + n - 1 = j + (n - 1) by omega, Nat.pow_add]; simp only [Nat.mul_comm, Nat.mul_left_comm, Nat.mul_assoc]
   omega
  have e6 : β ^ (j + n - 1) * (q * d.getD (n - 1) 0) < β ^ (j + n - 1) * (r.getD (j + n - 1) 0 + β * r.getD (j + n) 0 + 1) := by
   rw [Nat.mul_add (β ^ (j + n - 1)) _ 1, Nat.mul_one]; omega
  have e7 := Nat.lt_of_mul_lt_mul_left e6
  rw [Nat.mul_comm (r.getD (j + n) 0) β]; omega
 ·rcases Nat.lt_or_ge q β with e | e
  ·exact e
  ·have h1 : β * (β ^ j * Dv) ≤ q * (β ^ j * Dv) := Nat.mul_le_mul_right _ e
   have h2 : β * (β ^ j * Dv) = β ^ (j + 1) * Dv := by rw [Nat.pow_succ]; simp only [Nat.mul_comm, Nat.mul_left_comm, Nat.mul_assoc]
   omega
end Go.Proofs.YtddoigmffkmpcaaGreatDoor
namespace Go.Proofs.YtddoigmffkmpcaaGreatDoor
open Go.RowKit
set_option linter.unusedSimpArgs false
set_option linter.unusedVariables false
set_option maxHeartbeats 600000
set_option maxRecDepth 20000
theorem val_snoc (s : Bs) (c : UInt8) : val (s ++ [c]) = val s * 256 + c.toNat := by rw [val_append]; simp [val]
theorem val_take_succ (s : Bs) (k : Nat) (h : k < s.length) : val (s.take (k + 1)) = val (s.take k) * 256 + (s.getD k default).toNat := by
 rw [List.take_add_one, List.getElem?_eq_getElem h, List.getD_eq_getElem?_getD, List.getElem?_eq_getElem h]
 exact val_snoc _ _
theorem val_take_lt (s : Bs) (k : Nat) (h : k ≤ 7) : val (s.take k) < 72057594037927936 :=
 Nat.lt_of_lt_of_le (val_lt _) (Nat.le_trans (Nat.pow_le_pow_right (by decide) (Nat.le_trans (List.length_take_le _ _) h)) (by decide))
theorem val_8 {s : Bs} (h : s.length ≤ 8) : val s < 18446744073709551616 :=
 Nat.lt_of_lt_of_le (val_lt _) (Nat.le_trans (Nat.pow_le_pow_right (by decide) h) (by decide))
def smallN (a : Bs) : Nat × Bool := if okN a ∧ a.length ≤ 8 then (val a, true) else (0, false)
theorem small_lt (a : Bs) : (smallN a).1 < 18446744073709551616 := by
 unfold smallN; split
 ·rename_i h; exact val_8 h.2
 ·decide
theorem small_c {a : Bs} {w : World} (hal : a.length ≤ 9223372036854775807) :
  Cw 121 #[.string (S a)] w (.tuple #[.int .u64 ((smallN a).1 : Int), .bool (smallN a).2]) := by
 refine En [] [(0, .string (S a))] Tryz.func121 rfl Tryz.ntmps121 rfl (Ac rfl (An _)) Fn ?_
 refine Cs (Ka rfl (Ka rfl (Nt (Cq (Cs (Km rfl ?_))))))
 refine Ku rfl (Oc rfl rfl (Kv fun w hS => valid_c)) ?_
 refine Kq rfl (Rt rfl rfl) (Km rfl ?_)
 refine Nb 9 rfl (fun hg9 => ?_) (fun hg9 => ?_)
 ·(try simp only [sB] at hg9)
  refine Kt rfl (Kt rfl (Kt rfl (Kq rfl (Rp rfl rfl rfl) (Nt ?_))))
  refine Cd rfl (fun _ => ?_) (fun h => by cases h)
  refine Cs (Ka rfl (Ka rfl (Nt (Ce (Xb ?_)))))
  exact R2 rfl rfl rfl (by rw [smallN, if_neg (by simp_all <;> omega)]; rfl)
 ·(try simp only [sB] at hg9)
  refine Km rfl (Kq rfl (rd_slen rfl rfl u22) (Kq rfl (rd_gtr rfl rfl rfl) (Kq rfl (Rq rfl rfl rfl) (Nt ?_))))
  refine Cd rfl (fun hc13 => ?_) (fun hc13 => ?_)
  ·(try simp only [sB] at hc13)
   refine Cs (Ka rfl (Ka rfl (Nt (Ce (Xb ?_)))))
   exact R2 rfl rfl rfl (by rw [smallN, if_neg (by simp_all <;> omega)]; rfl)
  ·(try simp only [sB] at hc13)
   have hok : okN a ∧ a.length ≤ 8 := ⟨by simp_all, by omega⟩
   refine Ck (Xa (Cs (Ka rfl (Nt (Cq (Cs (Km rfl (Kq rfl (rd_slen rfl rfl u22) (Km rfl (Nt (Cb ?_)))))))))))
   refine Lp (σ := Nat) [(0, _), (15, _)] (fun gq => [(4, .int .u64 (val (a.take gq) : Int)), (16, .int .i64 (gq : Int))]) (fun gq => gq ≤ a.length) (fun gq => a.length - gq) (0) (S2 rfl rfl) (S2 rfl rfl) (by (try dsimp only); omega) ?_
   rintro k hinv1; (try dsimp only at hinv1 ⊢)
   obtain hk := hinv1
   refine Cs (Kq rfl (rd_lss rfl rfl rfl) (Nt (Cq ?_)))
   refine Cd rfl (fun hc17 => ?_) (fun hc17 => ?_)
   ·(try simp only [sB] at hc17)
    have hv := val_take_lt a k (by omega)
    have hc8 := (a.getD k default).toNat_lt
    have hs1 := val_take_succ a k (by omega)
    refine Ck (Xa (Cq (Cb (Cs (Km rfl (Ka rfl (Nt (Cg (Km rfl (Kq rfl (rd_shlW (c := 8) rfl rfl rfl (by decide) (by omega)) (Km rfl (Km rfl (Kq rfl (rd_sidxN rfl rfl rfl u22 (by omega)) (Kq rfl (rd_conv8 rfl rfl u5 u49 (by decide)) ?_))))))))))))))
    refine Kq rfl (rd_orW 8 rfl rfl rfl ?_) ?_
    ·omega
    refine Ns 25 rfl (v' := .int .u64 ((val (a.take (k + 1)) : Nat) : Int)) (congrArg (Value.int .u64) (by omega)) (Ka rfl (Nn (Xd (Xa (Cg (Kq rfl (Rz rfl rfl rfl (by omega)) (Km rfl (Nn ?_))))))))
    refine Ly (k + 1) (by (try dsimp only); omega) (S2 rfl rfl) (by refine (Sc ?_ (Sc ?_ (S0 _))) <;> (rfl)) ?_ (by (exact fun _ h => h))
    (try dsimp only)
    omega
   ·(try simp only [sB] at hc17)
    refine Cx (Xc (Xc (Xe ?_)))
    obtain rfl : k = a.length := by omega
    refine Xa (Cs (Km rfl (Ka rfl (Ka rfl (Nt (Ce ?_))))))
    exact R2 rfl rfl rfl (by rw [smallN, if_pos hok, List.take_length]; rfl)
theorem ru64_c {a : Bs} {w : World} (hal : a.length ≤ 8) :
  Cw 28 #[.string (S a)] w (.int .u64 (val a : Int)) := by
 refine En [] [(0, .string (S a))] Tryz.func28 rfl Tryz.ntmps28 rfl (Ac rfl (An _)) Fn ?_
 refine Cs (Ka rfl (Nt (Cs (Ka rfl (Nt (Cq (Cs (Ka rfl (Nt (Cb ?_))))))))))
 refine Lp (σ := Nat) [(0, _)] (fun gq => [(3, .int .u64 (val (a.take gq) : Int)), (4, .int .i64 (gq : Int))]) (fun gq => gq ≤ a.length) (fun gq => a.length - gq) (0) (S1 rfl) (S2 rfl rfl) (by (try dsimp only); omega) ?_
 rintro k hinv1; (try dsimp only at hinv1 ⊢)
 obtain hk := hinv1
 refine Cq (Cs (Km rfl (Km rfl (Kq rfl (rd_slen rfl rfl u22) (Kq rfl (rd_lss rfl rfl rfl) (Nt ?_))))))
 refine Cd rfl (fun hc8 => ?_) (fun hc8 => ?_)
 ·(try simp only [sB] at hc8)
  have hv := val_take_lt a k (by omega)
  have hc8 := (a.getD k default).toNat_lt
  have hs1 := val_take_succ a k (by omega)
  refine Ck (Xa (Cq (Cb (Cg (Km rfl (Kq rfl (rd_mulW (c := 256) rfl rfl rfl (by omega)) (Km rfl (Km rfl (Kq rfl (rd_sidxN rfl rfl rfl u22 (by omega)) (Kq rfl (rd_conv8 rfl rfl u5 u49 (by decide)) (Kq rfl (rd_addW rfl rfl rfl (by omega)) (Ns 17 rfl (v' := .int .u64 ((val (a.take (k + 1)) : Nat) : Int)) (congrArg (Value.int .u64) (by omega)) (Ka rfl (Nn (Xd (Xa (Cg (Km rfl (Kq rfl (Rz rfl rfl rfl (by omega)) (Ka rfl (Nn ?_)))))))))))))))))))))
  refine Ly (k + 1) (by (try dsimp only); omega) (S1 rfl) (by refine (Sc ?_ (Sc ?_ (S0 _))) <;> (rfl)) ?_ (by (exact fun _ h => h))
  (try dsimp only)
  omega
 ·(try simp only [sB] at hc8)
  refine Cx (Xc (Xc (Xe ?_)))
  obtain rfl : k = a.length := by omega
  refine Xa (Cs (Km rfl (Ka rfl (Nt (Ce ?_)))))
  exact R1 rfl rfl (by rw [List.take_length]; rfl)
theorem rsmall_c {a : Bs} {w : World} :
  Cw 16 #[.string (S a)] w (.tuple #[.int .u64 ((smallN a).1 : Int), .bool (smallN a).2]) := by
 refine En [] [(0, .string (S a))] Tryz.func16 rfl Tryz.ntmps16 rfl (Ac rfl (An _)) Fn ?_
 refine Cs (Ka rfl (Ka rfl (Nt (Cq (Cs (Km rfl ?_))))))
 refine Ku rfl (Oc rfl rfl (Kv fun w hS => rvalid_c)) ?_
 refine Kq rfl (Rt rfl rfl) (Km rfl ?_)
 refine Nb 7 rfl (fun hg7 => ?_) (fun hg7 => ?_)
 ·(try simp only [sB] at hg7)
  refine Kt rfl (Kt rfl (Kt rfl (Kq rfl (Rp rfl rfl rfl) (Nt ?_))))
  refine Cd rfl (fun _ => ?_) (fun h => by cases h)
  refine Cs (Ka rfl (Ka rfl (Nt (Ce (Xb ?_)))))
  exact R2 rfl rfl rfl (by rw [smallN, if_neg (by simp_all <;> omega)]; rfl)
 ·(try simp only [sB] at hg7)
  refine Km rfl (Kq rfl (rd_slen rfl rfl u22) (Kq rfl (rd_gtr rfl rfl rfl) (Kq rfl (Rq rfl rfl rfl) (Nt ?_))))
  refine Cd rfl (fun hc11 => ?_) (fun hc11 => ?_)
  ·(try simp only [sB] at hc11)
   refine Cs (Ka rfl (Ka rfl (Nt (Ce (Xb ?_)))))
   exact R2 rfl rfl rfl (by rw [smallN, if_neg (by simp_all <;> omega)]; rfl)
  ·(try simp only [sB] at hc11)
   have hok : okN a ∧ a.length ≤ 8 := ⟨by simp_all, by omega⟩
   have hal := hok.2
   refine Ck (Xa (Cs (Km rfl ?_)))
   refine Ku rfl (Oc rfl rfl (Kv fun w hS => ru64_c (by assumption))) ?_
   refine Ka rfl (Ka rfl (Nt (Ce ?_)))
   exact R2 rfl rfl rfl (by rw [smallN, if_pos hok]; rfl)
theorem u8_mod {x y : Nat} (h : x % 256 = y % 256) : UInt8.ofNat x = UInt8.ofNat y := UInt8.toNat.inj (by rw [UInt8.toNat_ofNat', UInt8.toNat_ofNat']; exact h)
def cols (c : List Nat) : List Value := c.map fun (x : Nat) => .int .i64 (x : Int)
theorem cols_rep (n : Nat) : cols (List.replicate n 0) = List.replicate n (.int .i64 0) := by simp [cols]
theorem cols_set (c : List Nat) (i y : Nat) : (cols c).set i (.int .i64 (y : Int)) = cols (c.set i y) := by simp [cols, List.map_set]
theorem cols_len (c : List Nat) : (cols c).length = c.length := by simp [cols]
theorem cols_get (c : List Nat) (i : Nat) (h : i < c.length) : (cols c)[i]? = some (.int .i64 (c.getD i 0 : Int)) := by
 simp [cols, List.getElem?_map, List.getElem?_eq_getElem h, List.getD_eq_getElem?_getD]
theorem product_c {a b : Bs} {p : Nat} {cs : List Value} {ok : Nat → Prop} {w0 : World} {fs : List Fact} {w : World} (hS0 : St ok w0 ([⟨some p, cs, 167⟩]) (fs) w) (hcs : cs.length = 256) (ha : a.length ≤ 128) (hb : b.length ≤ 128) :
  Calls Tryz.prog 142 #[.string (S a), .string (S b), .pointer (some ⟨p, 0, none⟩)] w fun e w' => ∃ c : List Nat, e = .returned (.string (S (canon (val a * val b)))) ∧ St ok w0 [⟨some p, cols c, 167⟩] fs w' := by
 refine enter (S := St ok w0 ([⟨some p, cs, 167⟩]) (fs)) (L := [(0, .string (S a)), (1, .string (S b)), (2, .pointer (some ⟨p, 0, none⟩))]) Tryz.func142 rfl Tryz.ntmps142 rfl (Ac rfl (Ac rfl (Ac rfl (An _)))) hS0 ?_
 refine Cs (Ka rfl (Nt (Cs (Km rfl (Kq rfl (rd_nil rfl rfl) ?_)))))
 refine Kq rfl (rd_sla rfl rfl u167 (by kernel_rfl : _ = some 1)) ?_
 refine Ng rfl rfl (clr rfl rfl .tc u125 (by kernel_rfl : _ = some (some (.int .i64 0), 1, 8)) rfl rfl ?_ ?_ (show _ = cols (List.replicate 256 0) by rw [cols_rep, List.take_zero, List.drop_eq_nil_of_le (by omega), List.append_nil, List.nil_append])) ?_
 ·decide
 ·omega
 intro _
 refine Nt (Cq (Cs (Km rfl (Kq rfl (rd_slen rfl rfl u22) (Km rfl (Nt (Cb ?_)))))))
 refine Lo (σ := Nat × (List Nat)) [(0, _), (1, _), (2, _), (18, _)] (fun gq => [(19, .int .i64 (gq.1 : Int))]) (fun gq => gq.1 ≤ a.length ∧ ColInv 256 (val a) (val b) gq.1 0 gq.2) (fun gq => a.length - gq.1) (fun gq => [⟨some p, cols gq.2, 167⟩]) (fun gq => fs) (0, List.replicate 256 0) (S4 rfl rfl rfl rfl) (S1 rfl) (by (try dsimp only); exact ⟨Nat.zero_le _, col_start _ _ _⟩) (by (exact fun _ h => h)) ?_
 rintro ⟨i, c⟩ hinv1; (try dsimp only at hinv1 ⊢)
 obtain ⟨hi, hci⟩ := hinv1
 refine Cs (Kq rfl (rd_lss rfl rfl rfl) (Nt (Cq ?_)))
 refine Cd rfl (fun hc20 => ?_) (fun hc20 => ?_)
 ·(try simp only [sB] at hc20)
  refine Ck (Xa (Cq (Cb (Cs (Km rfl (Ka rfl (Nt (Cs (Km rfl (Km rfl ?_))))))))))
  refine Ku rfl (Oc rfl rfl (Kv fun w hS => digit_c (a := a) (i := i) (by omega) (by omega))) ?_
  refine Ka rfl (Nt (Cs (Km rfl (Kq rfl (rd_slen rfl rfl u22) (Km rfl (Nt (Cb ?_)))))))
  refine Lo (σ := Nat × (List Nat)) [(0, _), (1, _), (2, _), (7, _), (8, _), (18, _), (19, _), (26, _)] (fun gq => [(27, .int .i64 (gq.1 : Int))]) (fun gq => gq.1 ≤ b.length ∧ ColInv 256 (val a) (val b) i gq.1 gq.2) (fun gq => b.length - gq.1) (fun gq => [⟨some p, cols gq.2, 167⟩]) (fun gq => fs) (0, c) (S8 rfl rfl rfl rfl rfl rfl rfl rfl) (S1 rfl) (by (try dsimp only); exact ⟨Nat.zero_le _, hci⟩) (by (exact fun _ h => h)) ?_
  rintro ⟨k, c2⟩ hinv2; (try dsimp only at hinv2 ⊢)
  obtain ⟨hk, hck⟩ := hinv2
  refine Cs (Kq rfl (rd_lss rfl rfl rfl) (Nt (Cq ?_)))
  refine Cd rfl (fun hc28 => ?_) (fun hc28 => ?_)
  ·(try simp only [sB] at hc28)
   have hcl := hck.len
   have hca := col_add hck (by omega) (i + k)
   have hcs2 := col_step hck (by omega)
   refine Ck (Xa (Cq (Cb (Cs (Km rfl (Ka rfl (Nt ?_)))))))
   refine Cf [8, 9, 10, 0, 1, 2, 3, 4, 5, 6, 7, 11, 12, 13, 14] [15] [0, 0, 0, 0, 0, 0, 0, 0, 0, 0, 1, 0, 0, 0, 0, 2] (by kernel_rfl) (by kernel_rfl) rfl ?_
   refine Kj rfl (Rm rfl rfl) (Kj rfl (Rm rfl rfl) ?_)
   refine Jv rfl rfl rfl rfl rfl (fun ext => Oc rfl rfl (Kv fun w hS => digit_c (a := b) (i := k) (by omega) (by omega))) ?_
   refine Kj rfl (Rm rfl rfl) (Kj rfl (Rm rfl rfl) (Kj rfl (Rm rfl rfl) (Kj rfl (rd_add64n rfl rfl rfl (by omega)) (Kj rfl (rd_nil rfl rfl) ?_))))
   refine Kj rfl (Jb rfl rfl rfl u167 (by kernel_rfl : _ = some 1) ?_) ?_
   ·omega
   refine Kj rfl (ld rfl rfl .tc u3 rfl (cols_get c2 _ (by omega))) ?_
   refine Kj rfl (Rm rfl rfl) (Kj rfl (rd_mul64n rfl rfl rfl (by omega)) (Kj rfl (rd_add64n rfl rfl rfl (by omega)) (Kj rfl (rd_nil rfl rfl) ?_)))
   refine Kj rfl (Jb rfl rfl rfl u167 (by kernel_rfl : _ = some 1) ?_) ?_
   ·omega
   refine WJ.nil ?_
   refine Ng rfl rfl (st rfl rfl rfl .tc (by kernel_rfl) rfl ?_ (by rfl)) ?_
   ·rw [cols_len]; omega
   intro _
   rw [cols_set]
   refine Nn (Xd (Xa (Cg (Kq rfl (Rz rfl rfl rfl (by omega)) (Km rfl (Nn ?_))))))
   refine Lx ((k + 1, c2.set (i + k) (c2.getD (i + k) 0 + val a / 256 ^ i % 256 * (val b / 256 ^ k % 256)))) (by (try dsimp only); omega) (S8 rfl rfl rfl rfl rfl rfl rfl rfl) (by refine (Sc ?_ (S0 _)) <;> (rfl)) ?_ (by (exact fun _ h => h))
   (try dsimp only)
   exact ⟨by omega, hcs2⟩
  ·(try simp only [sB] at hc28)
   refine Cx (Xc (Xc (Xe ?_)))
   obtain rfl : k = b.length := by omega
   have hrow := col_row hck (val_lt b)
   refine Xd (Xa (Cg (Kq rfl (Rz rfl rfl rfl (by omega)) (Km rfl (Nn ?_)))))
   refine Lx ((i + 1, c2)) (by (try dsimp only); omega) (S4 rfl rfl rfl rfl) (by refine (Sc ?_ (S0 _)) <;> (rfl)) ?_ (by (exact fun _ h => h))
   (try dsimp only)
   exact ⟨by omega, hrow⟩
 ·(try simp only [sB] at hc20)
  refine Cx (Xc (Xc (Xe ?_)))
  obtain rfl : i = a.length := by omega
  have hev := col_end hci (val_lt a)
  have hcl := hci.len
  obtain ⟨V, hV⟩ : ∃ V, V = val a * val b := ⟨_, rfl⟩
  rw [← hV] at hev
  have hVl : V < 256 ^ (a.length + b.length) := by rw [hV, Nat.pow_add]; exact Nat.mul_lt_mul'' (val_lt a) (val_lt b)
  refine Xa (Cs (Km rfl (Kq rfl (rd_slen rfl rfl u22) (Km rfl (Kq rfl (rd_slen rfl rfl u22) (Kq rfl (rd_add64n rfl rfl rfl (by omega)) (Ka rfl (Nt (Cs (Km rfl ?_))))))))))
  refine Kh rfl (og_mk rfl rfl rfl u83 (by kernel_rfl : _ = some (some (.int .u8 0), 1, 1)) rfl ?_ (by (try simp only [sN, Int.reduceToNat, Nat.reduceAdd, Nat.reduceMul, Nat.reduceSub]); rfl) (by (try simp only [sN, Int.reduceToNat, Nat.reduceAdd, Nat.reduceMul, Nat.reduceSub]); rfl)) ?_
  ·omega
  intro b53
  refine Ka rfl (Nt (Cs (Ka rfl (Nt (Cq (Cs (Km rfl (Km rfl (Nt (Cb ?_))))))))))
  refine Lo (σ := Nat × Nat) [(2, _), (10, _), (11, _), (54, _)] (fun gq => [(12, .int .i64 (gq.2 : Int)), (55, .int .i64 (gq.1 : Int))]) (fun gq => gq.1 ≤ a.length + b.length ∧ gq.2 = colC 256 c gq.1) (fun gq => a.length + b.length - gq.1) (fun gq => [⟨some b53, lowB (a.length + b.length) gq.1 V, 5⟩, ⟨some p, cols c, 167⟩]) (fun gq => fs) (0, 0) (S4 rfl rfl rfl rfl) (S2 rfl rfl) (by (try dsimp only); exact ⟨Nat.zero_le _, (colC_zero 256 c).symm⟩) (by exact fun w h => by rw [lowB_zero]; exact h) ?_
  rintro ⟨i, cy⟩ hinv3; (try dsimp only at hinv3 ⊢)
  obtain ⟨hi, hcy⟩ := hinv3
  refine Cs (Kq rfl (rd_lss rfl rfl rfl) (Nt (Cq ?_)))
  refine Cd rfl (fun hc56 => ?_) (fun hc56 => ?_)
  ·(try simp only [sB] at hc56)
   have hcc := col_carry (i := i) hci (by omega) (by omega)
   have hcs3 := colC_succ 256 (by decide) c i (by omega)
   have hcd := colC_digit 256 (by decide) c i (by omega)
   rw [← hcy] at hcc hcs3 hcd
   rw [hev] at hcd
   refine Ck (Xa (Cq (Cb (Cs (Km rfl (Ka rfl (Nt (Cs (Km rfl (Km rfl (Km rfl (Kq rfl (rd_nil rfl rfl) ?_))))))))))))
   refine Kq rfl (Jb rfl rfl rfl u167 (by kernel_rfl : _ = some 1) ?_) ?_
   ·omega
   refine Kq rfl (ld rfl rfl .tc u3 rfl (cols_get c _ (by omega))) ?_
   refine Kq rfl (rd_add64n rfl rfl rfl (by omega)) (Ka rfl (Nt (Cs (Km rfl (Km rfl (Kq rfl (rd_sub64nl rfl rfl rfl (by omega)) (Km rfl (Kq rfl (rd_sub64n rfl rfl rfl (by omega)) (Km rfl (Kq rfl (rd_convB rfl rfl u3 u5) ?_))))))))))
   refine Ns 71 rfl (v' := B (UInt8.ofNat (V / 256 ^ i))) (by exact congrArg (fun b : UInt8 => B b) (u8_mod hcd.symm)) ?_
   refine Kq rfl (Ja rfl rfl rfl u83 (by kernel_rfl : _ = some 1) (by omega)) ?_
   refine Ng rfl rfl (st rfl rfl rfl .tc (by kernel_rfl) rfl ?_ (by rfl)) ?_
   ·rw [lowB_len _ _ _ (by omega)]; omega
   intro _
   refine Nt (Cg (Km rfl (Kq rfl (rd_shrW (c := 8) rfl rfl rfl (by decide)) (Ka rfl (Nn (Xd (Xa (Cg (Kq rfl (Rz rfl rfl rfl (by omega)) (Km rfl (Nn ?_)))))))))))
   refine Lx ((i + 1, (cy + c.getD i 0) / 256)) (by (try dsimp only); omega) (S4 rfl rfl rfl rfl) (by refine (Sc ?_ (Sc ?_ (S0 _))) <;> (rfl)) ?_ (by exact fun w h => by rw [← lowB_set (a.length + b.length) i V (by omega)]; exact h)
   (try dsimp only)
   exact ⟨by omega, hcs3.symm⟩
  ·(try simp only [sB] at hc56)
   refine Cx (Xc (Xc (Xe ?_)))
   obtain rfl : i = a.length + b.length := by omega
   rw [lowB_full]
   have hbl := be_len (a.length + b.length) V
   refine Xa (Cs (Km rfl ?_))
   refine Ku rfl (Oc rfl rfl (Kv fun w hS => trimmed_c (b := be (a.length + b.length) V) (by (exact hS.os)) (by omega) (by omega) (by omega))) ?_
   refine Ka rfl (Nt (Ce ?_))
   exact Rn rfl (.tmp rfl .nil) fun w' hS => ⟨c, by rw [val_be, Nat.mod_eq_of_lt hVl, hV]; rfl, st_sub _ hS⟩
end Go.Proofs.YtddoigmffkmpcaaGreatDoor
namespace Go.Proofs.YtddoigmffkmpcaaGreatDoor
set_option linter.unusedSimpArgs false
set_option linter.unusedVariables false
set_option maxRecDepth 20000
section
variable {β u n y1 y0 q rh : Nat}
theorem dg_lt (hn : n < β) (hu : u < y1 * β + y0) : (u * β + n) / (y1 * β + y0) < β := by
 rw [Nat.div_lt_iff_lt_mul (by omega)]
 have : (u + 1) * β ≤ (y1 * β + y0) * β := Nat.mul_le_mul_right _ hu
 rw [Nat.add_mul, Nat.one_mul] at this
 rw [Nat.mul_comm β]; omega
theorem dg_init (hn : n < β) (hy1 : 0 < y1) : (u * β + n) / (y1 * β + y0) ≤ u / y1 := by
 have hβ : 0 < β := by omega
 rw [Nat.le_div_iff_mul_le hy1]
 have h1 := Nat.div_mul_le_self (u * β + n) (y1 * β + y0)
 generalize (u * β + n) / (y1 * β + y0) = Q at *
 have h2 : Q * y1 * β ≤ Q * (y1 * β + y0) := by rw [Nat.mul_assoc]; exact Nat.mul_le_mul_left _ (by omega)
 have h3 : Q * y1 * β < (u + 1) * β := by rw [Nat.add_mul, Nat.one_mul]; omega
 exact Nat.le_of_lt_succ (Nat.lt_of_mul_lt_mul_right h3)
theorem dg_le (hy : 0 < y1 * β + y0) (hi : u = q * y1 + rh) (hc : q * y0 ≤ β * rh + n) : q ≤ (u * β + n) / (y1 * β + y0) := by
 rw [Nat.le_div_iff_mul_le hy]
 subst hi
 have e : q * (y1 * β + y0) = q * y1 * β + q * y0 := by rw [Nat.mul_add, Nat.mul_assoc]
 rw [e, Nat.add_mul, Nat.mul_comm rh β]; omega
theorem dg_exit (hy : 0 < y1 * β + y0) (hi : u = q * y1 + rh) (hQ : (u * β + n) / (y1 * β + y0) ≤ q) (hc : q * y0 ≤ β * rh + n) : q = (u * β + n) / (y1 * β + y0) :=
 Nat.le_antisymm (dg_le hy hi hc) hQ
theorem dg_break (hy1 : 0 < y1) (hy0 : y0 < β) (hu : u < y1 * β + y0) (hi : u = q * y1 + rh) (hb : β ≤ rh) : q < β ∧ q * y0 ≤ β * rh + n := by
 have h1 : q * y1 < β * y1 := by rw [Nat.mul_comm β]; omega
 have h2 : q < β := Nat.lt_of_mul_lt_mul_right h1
 refine ⟨h2, ?_⟩
 have h3 : q * y0 ≤ β * β := Nat.mul_le_mul (by omega) (by omega)
 have h4 : β * β ≤ β * rh := Nat.mul_le_mul_left _ hb
 omega
theorem dg_more (hn : n < β) (hu : u < y1 * β + y0) (hi : u = q * y1 + rh) (hQ : (u * β + n) / (y1 * β + y0) ≤ q) (hc : β ≤ q ∨ β * rh + n < q * y0) : 1 ≤ q ∧ (u * β + n) / (y1 * β + y0) ≤ q - 1 := by
 have h1 := dg_lt hn hu
 rcases hc with hc | hc
 ·omega
 ·have h2 : (u * β + n) / (y1 * β + y0) < q := by
   rw [Nat.div_lt_iff_lt_mul (by omega)]
   subst hi
   have e : q * (y1 * β + y0) = q * y1 * β + q * y0 := by rw [Nat.mul_add, Nat.mul_assoc]
   rw [e, Nat.add_mul, Nat.mul_comm rh β]; omega
  exact ⟨Nat.lt_of_le_of_lt (Nat.zero_le _) h2, Nat.le_sub_one_of_lt h2⟩
end
theorem dg_both {β u n1 n0 y q1 q0 v w : Nat} (h1 : u * β + n1 = q1 * y + v) (h0 : v * β + n0 = q0 * y + w) (hw : w < y) : (u * (β * β) + (n1 * β + n0)) / y = q1 * β + q0 ∧ (u * (β * β) + (n1 * β + n0)) % y = w := by
 have e : u * (β * β) + (n1 * β + n0) = (q1 * β + q0) * y + w := by
  have : (u * β + n1) * β = (q1 * y + v) * β := by rw [h1]
  simp only [Nat.add_mul, Nat.mul_assoc] at this ⊢
  rw [Nat.mul_comm y β] at this
  omega
 rw [e]
 constructor
 ·rw [Nat.mul_comm, Nat.mul_add_div (by omega), Nat.div_eq_of_lt hw, Nat.add_zero]
 ·rw [Nat.mul_comm, Nat.mul_add_mod, Nat.mod_eq_of_lt hw]
structure Euc (a b r0 r1 : Nat) (x0 x1 y0 y1 : Int) : Prop where
 e0 : (a : Int) * x0 + b * y0 = r0
 e1 : (a : Int) * x1 + b * y1 = r1
 bx : x1.natAbs * r0 + x0.natAbs * r1 = b
 ab : y1.natAbs * r0 + y0.natAbs * r1 = a
 sx : (0 ≤ x0 ∧ x1 ≤ 0) ∨ (x0 ≤ 0 ∧ 0 ≤ x1)
 sy : (0 ≤ y0 ∧ y1 ≤ 0) ∨ (y0 ≤ 0 ∧ 0 ≤ y1)
 gc : Nat.gcd r0 r1 = Nat.gcd a b
theorem euc_start (a b : Nat) : Euc a b a b 1 0 0 1 := ⟨by simp, by simp, by simp, by simp, .inl ⟨by decide, by decide⟩, .inr ⟨by decide, by decide⟩, rfl⟩
theorem abs_alt {x0 x1 : Int} (q : Nat) (h : (0 ≤ x0 ∧ x1 ≤ 0) ∨ (x0 ≤ 0 ∧ 0 ≤ x1)) : (x0 - q * x1).natAbs = x0.natAbs + q * x1.natAbs ∧ ((0 ≤ x1 ∧ x0 - q * x1 ≤ 0) ∨ (x1 ≤ 0 ∧ 0 ≤ x0 - q * x1)) := by
 rcases h with ⟨h0, h1⟩ | ⟨h0, h1⟩
 ·obtain ⟨m, rfl⟩ : ∃ m : Nat, x1 = -(m : Int) := ⟨x1.natAbs, by omega⟩
  have e : (q : Int) * -(m : Int) = -((q * m : Nat) : Int) := by rw [Int.mul_neg, Int.natCast_mul]
  rw [e, Int.natAbs_neg, Int.natAbs_natCast]
  exact ⟨by omega, .inr ⟨by omega, by omega⟩⟩
 ·obtain ⟨m, rfl⟩ : ∃ m : Nat, x1 = (m : Int) := ⟨x1.natAbs, by omega⟩
  rw [← Int.natCast_mul, Int.natAbs_natCast]
  exact ⟨by omega, .inl ⟨by omega, by omega⟩⟩
theorem euc_step {a b r0 r1 : Nat} {x0 x1 y0 y1 : Int} (h : Euc a b r0 r1 x0 x1 y0 y1) (hr : 0 < r1) : Euc a b r1 (r0 % r1) x1 (x0 - (r0 / r1 : Nat) * x1) y1 (y0 - (r0 / r1 : Nat) * y1) := by
 have hd := Nat.div_add_mod r0 r1
 obtain ⟨hx1, hx2⟩ := abs_alt (r0 / r1) h.sx
 obtain ⟨hy1, hy2⟩ := abs_alt (r0 / r1) h.sy
 refine ⟨h.e1, ?_, ?_, ?_, hx2, hy2, ?_⟩
 ·have h0 := h.e0; have h1 := h.e1
  have e : (r0 : Int) = r1 * (r0 / r1 : Nat) + (r0 % r1 : Nat) := by rw [← Int.natCast_mul, ← Int.natCast_add, hd]
  generalize ((r0 / r1 : Nat) : Int) = Q at *
  generalize ((r0 % r1 : Nat) : Int) = M at *
  have e2 : (a : Int) * (x0 - Q * x1) + b * (y0 - Q * y1) = (a * x0 + b * y0) - (a * x1 + b * y1) * Q := by
   simp only [Int.mul_sub, Int.add_mul, Int.mul_assoc, Int.mul_comm Q, Int.mul_left_comm]
   omega
  rw [e2, h0, h1]; omega
 ·rw [hx1]
  have h1 := h.bx
  have e3 : (x0.natAbs + r0 / r1 * x1.natAbs) * r1 + x1.natAbs * (r0 % r1) = x1.natAbs * (r1 * (r0 / r1) + r0 % r1) + x0.natAbs * r1 := by
   simp only [Nat.add_mul, Nat.mul_add, Nat.mul_assoc, Nat.mul_comm, Nat.mul_left_comm]; omega
  rw [e3, hd]; exact h1
 ·rw [hy1]
  have h1 := h.ab
  have e3 : (y0.natAbs + r0 / r1 * y1.natAbs) * r1 + y1.natAbs * (r0 % r1) = y1.natAbs * (r1 * (r0 / r1) + r0 % r1) + y0.natAbs * r1 := by
   simp only [Nat.add_mul, Nat.mul_add, Nat.mul_assoc, Nat.mul_comm, Nat.mul_left_comm]; omega
  rw [e3, hd]; exact h1
 ·rw [← h.gc, Nat.gcd_comm r0 r1, Nat.gcd_rec r1 r0, Nat.gcd_comm]
theorem euc_le {a b r0 r1 : Nat} {x0 x1 y0 y1 : Int} (h : Euc a b r0 r1 x0 x1 y0 y1) (hr : 0 < r0) : x1.natAbs ≤ b ∧ y1.natAbs ≤ a := by
 have h1 := h.bx; have h2 := h.ab
 have h3 : x1.natAbs * 1 ≤ x1.natAbs * r0 := Nat.mul_le_mul_left _ hr
 have h4 : y1.natAbs * 1 ≤ y1.natAbs * r0 := Nat.mul_le_mul_left _ hr
 omega
theorem euc_mul {a b r0 r1 : Nat} {x0 x1 y0 y1 : Int} (h : Euc a b r0 r1 x0 x1 y0 y1) (hr : 0 < r1) : r0 / r1 * x1.natAbs ≤ b ∧ r0 / r1 * y1.natAbs ≤ a := by
 have h' := euc_step h hr
 have h1 := euc_le h' hr
 rw [(abs_alt (r0 / r1) h.sx).1, (abs_alt (r0 / r1) h.sy).1] at h1
 omega
end Go.Proofs.YtddoigmffkmpcaaGreatDoor
namespace Go.Proofs.YtddoigmffkmpcaaGreatDoor
open Go.RowKit
set_option linter.unusedSimpArgs false
set_option linter.unusedVariables false
set_option maxHeartbeats 600000
set_option maxRecDepth 20000
theorem mul_hi {β x0 x1 y0 y1 : Nat} (hβ : 0 < β) : (x1 * β + x0) * (y1 * β + y0) / (β * β) = x1 * y1 + (x1 * y0 + x0 * y0 / β) / β + ((x1 * y0 + x0 * y0 / β) % β + x0 * y1) / β := by
 have e1 := Nat.div_add_mod (x0 * y0) β
 have e2 := Nat.div_add_mod (x1 * y0 + x0 * y0 / β) β
 have e3 := Nat.div_add_mod ((x1 * y0 + x0 * y0 / β) % β + x0 * y1) β
 have l1 := Nat.mod_lt (x0 * y0) hβ
 have l3 := Nat.mod_lt ((x1 * y0 + x0 * y0 / β) % β + x0 * y1) hβ
 generalize x0 * y0 / β = a at *
 generalize x0 * y0 % β = p0 at *
 generalize (x1 * y0 + a) / β = w2 at *
 generalize (x1 * y0 + a) % β = t0 at *
 generalize (t0 + x0 * y1) / β = b at *
 generalize (t0 + x0 * y1) % β = w10 at *
 have e : (x1 * β + x0) * (y1 * β + y0) = β * β * (x1 * y1 + w2 + b) + (w10 * β + p0) := by
  have f1 : (x1 * β + x0) * (y1 * β + y0) = x1 * y1 * (β * β) + (x1 * y0 + x0 * y1) * β + x0 * y0 := by
   simp only [Nat.add_mul, Nat.mul_add, Nat.mul_assoc, Nat.mul_comm, Nat.mul_left_comm]; omega
  have f2 : (x1 * y0 + x0 * y1) * β + a * β = (β * w2 + (β * b + w10)) * β := by rw [← Nat.add_mul]; congr 1; omega
  have f3 : (β * w2 + (β * b + w10)) * β = β * β * w2 + β * β * b + w10 * β := by
   simp only [Nat.add_mul, Nat.mul_add, Nat.mul_assoc, Nat.mul_comm, Nat.mul_left_comm]; omega
  rw [f1, ← e1, Nat.mul_add, Nat.mul_add, Nat.mul_comm (x1 * y1)]
  rw [Nat.mul_comm β a]
  omega
 have l : w10 * β + p0 < β * β := by
  have : (w10 + 1) * β ≤ β * β := Nat.mul_le_mul_right _ l3
  rw [Nat.add_mul, Nat.one_mul] at this; omega
 rw [e, Nat.mul_add_div (Nat.mul_pos hβ hβ), Nat.div_eq_of_lt l, Nat.add_zero]
theorem mul64_c {x y : Nat} {w : World} (hx : x < 18446744073709551616) (hy : y < 18446744073709551616) :
  Cw 140 #[.int .u64 (x : Int), .int .u64 (y : Int)] w (.tuple #[.int .u64 ((x * y / 18446744073709551616 : Nat) : Int), .int .u64 ((x * y % 18446744073709551616 : Nat) : Int)]) := by
 obtain ⟨x0, hx0⟩ : ∃ q, q = x % 2 ^ 32 := ⟨_, rfl⟩
 obtain ⟨x1, hx1⟩ : ∃ q, q = x / 2 ^ 32 := ⟨_, rfl⟩
 obtain ⟨y0, hy0⟩ : ∃ q, q = y % 2 ^ 32 := ⟨_, rfl⟩
 obtain ⟨y1, hy1⟩ : ∃ q, q = y / 2 ^ 32 := ⟨_, rfl⟩
 have hm : ∀ a b : Nat, a < 4294967296 → b < 4294967296 → a * b ≤ 18446744065119617025 := fun a b ha hb => Nat.mul_le_mul (by omega : a ≤ 4294967295) (by omega : b ≤ 4294967295)
 have h00 := hm x0 y0 (by omega) (by omega)
 have h10 := hm x1 y0 (by omega) (by omega)
 have h01 := hm x0 y1 (by omega) (by omega)
 have h11 := hm x1 y1 (by omega) (by omega)
 have hxe : x = x1 * 4294967296 + x0 := by omega
 have hye : y = y1 * 4294967296 + y0 := by omega
 have hhi := mul_hi (β := 4294967296) (x0 := x0) (x1 := x1) (y0 := y0) (y1 := y1) (by decide)
 rw [← hxe, ← hye] at hhi
 refine En [] [(0, .int .u64 (x : Int)), (1, .int .u64 (y : Int))] Tryz.func140 rfl Tryz.ntmps140 rfl (Ac rfl (Ac rfl (An _))) Fn ?_
 refine Cs (Ka rfl (Ka rfl (Nt (Cs (Km rfl ?_)))))
 refine Kq rfl (rd_andW 32 rfl rfl rfl (by decide) ?_) ?_
 ·omega
 refine Ns 15 rfl (v' := .int .u64 ((x0 : Nat) : Int)) (congrArg (Value.int .u64) (by rw [hx0])) ?_
 refine Ka rfl (Nt (Cs (Km rfl (Kq rfl (rd_shrW (c := 32) rfl rfl rfl (by decide)) ?_))))
 refine Ns 17 rfl (v' := .int .u64 ((x1 : Nat) : Int)) (congrArg (Value.int .u64) (by rw [hx1])) ?_
 refine Ka rfl (Nt (Cs (Km rfl ?_)))
 refine Kq rfl (rd_andW 32 rfl rfl rfl (by decide) ?_) ?_
 ·omega
 refine Ns 19 rfl (v' := .int .u64 ((y0 : Nat) : Int)) (congrArg (Value.int .u64) (by rw [hy0])) ?_
 refine Ka rfl (Nt (Cs (Km rfl (Kq rfl (rd_shrW (c := 32) rfl rfl rfl (by decide)) ?_))))
 refine Ns 21 rfl (v' := .int .u64 ((y1 : Nat) : Int)) (congrArg (Value.int .u64) (by rw [hy1])) ?_
 refine Ka rfl (Nt (Cs (Km rfl (Km rfl (Kq rfl (rd_mulW rfl rfl rfl (by omega)) (Ka rfl (Nt (Cs (Km rfl (Km rfl (Kq rfl (rd_mulW rfl rfl rfl (by omega)) (Km rfl (Kq rfl (rd_shrW (c := 32) rfl rfl rfl (by decide)) (Kq rfl (rd_addW rfl rfl rfl (by omega)) (Ka rfl (Nt (Cs (Km rfl ?_))))))))))))))))))
 refine Kq rfl (rd_andW 32 rfl rfl rfl (by decide) ?_) ?_
 ·omega
 refine Ka rfl (Nt (Cs (Km rfl (Kq rfl (rd_shrW (c := 32) rfl rfl rfl (by decide)) (Ka rfl (Nt (Cs (Km rfl (Km rfl (Km rfl (Kq rfl (rd_mulW rfl rfl rfl (by omega)) (Kq rfl (rd_addW rfl rfl rfl (by omega)) (Ka rfl (Nt (Cs (Km rfl (Km rfl (Kq rfl (rd_mulW rfl rfl rfl (by omega)) (Km rfl (Kq rfl (rd_addW rfl rfl rfl (by omega)) (Km rfl (Kq rfl (rd_shrW (c := 32) rfl rfl rfl (by decide)) (Kq rfl (rd_addW rfl rfl rfl (by omega)) (Ka rfl (Nt (Cs (Km rfl (Km rfl (Kq rfl (rd_mulM rfl rfl rfl) (Ka rfl (Nt (Ce ?_))))))))))))))))))))))))))))))))
 exact R2 rfl rfl rfl (by rw [hhi]; rfl)
theorem big64 : 18446744073709551616 ≤ Big := by show 256 ^ 8 ≤ 256 ^ 128; exact Nat.pow_le_pow_right (by decide) (by decide)
def mulN (a b : Bs) : Bs × Int := if okN a ∧ okN b then (if val a * val b < Big then (canon (val a * val b), 0) else ([], 5)) else ([], 3)
theorem fit_mul {a b : Bs} (hab : okN a ∧ okN b) : (if 128 < (canon (val a * val b)).length then ([] : Bs) else canon (val a * val b)) = (mulN a b).1 ∧ (if 128 < (canon (val a * val b)).length then (5 : Int) else 0) = (mulN a b).2 := by
 rw [mulN, if_pos hab]
 by_cases h : val a * val b < Big
 ·have := canon_big.2 h
  rw [if_pos h, if_neg (by omega), if_neg (by omega)]; exact ⟨rfl, rfl⟩
 ·have : ¬ (canon (val a * val b)).length ≤ 128 := fun q => h (canon_big.1 q)
  rw [if_neg h, if_pos (by omega), if_pos (by omega)]; exact ⟨rfl, rfl⟩
theorem mul_c {a b : Bs} {w : World} :
  Cw 106 #[.string (S a), .string (S b)] w (NE (mulN a b)) := by
 obtain ⟨sa, hsa⟩ : ∃ q, q = smallN a := ⟨_, rfl⟩
 obtain ⟨sb, hsb⟩ : ∃ q, q = smallN b := ⟨_, rfl⟩
 have hla := small_lt a; have hlb := small_lt b
 rw [← hsa] at hla; rw [← hsb] at hlb
 refine En [] [(0, .string (S a)), (1, .string (S b))] Tryz.func106 rfl Tryz.ntmps106 rfl (Ac rfl (Ac rfl (An _))) Fn ?_
 refine Cs (Ka rfl (Ka rfl (Nt (Cq (Cs (Km rfl ?_))))))
 refine Ku rfl (Oc rfl rfl (Kv fun w hS => valid_c)) ?_
 refine Kq rfl (Rt rfl rfl) (Km rfl ?_)
 refine Nb 16 rfl (fun hg16 => ?_) (fun hg16 => ?_)
 ·(try simp only [sB] at hg16)
  refine Kt rfl (Kt rfl (Kt rfl (Kq rfl (Rp rfl rfl rfl) (Nt ?_))))
  refine Cd rfl (fun _ => ?_) (fun h => by cases h)
  refine Cs (Ka rfl (Ka rfl (Nt (Ce (Xb ?_)))))
  exact R2 rfl rfl rfl (by rw [mulN, if_neg (by simp_all)]; rfl)
 ·(try simp only [sB] at hg16)
  refine Km rfl ?_
  refine Ku rfl (Oc rfl rfl (Kv fun w hS => valid_c)) ?_
  refine Kq rfl (Rt rfl rfl) (Kq rfl (Rq rfl rfl rfl) (Nt ?_))
  refine Cd rfl (fun hc20 => ?_) (fun hc20 => ?_)
  ·(try simp only [sB] at hc20)
   refine Cs (Ka rfl (Ka rfl (Nt (Ce (Xb ?_)))))
   exact R2 rfl rfl rfl (by rw [mulN, if_neg (by simp_all)]; rfl)
  ·(try simp only [sB] at hc20)
   have hab : okN a ∧ okN b := by simp_all
   have hal := hab.1.1; have hbl := hab.2.1
   refine Ck (Xa (Cs (Km rfl ?_)))
   refine Ku rfl (Oc rfl rfl (Kv fun w hS => (by have := small_c (w := w) (a := a) (by omega); rw [← hsa] at this; exact this))) ?_
   refine Km rfl (Kq rfl (Re rfl rfl rfl) (Kq rfl (Re rfl rfl rfl) (Ka rfl (Ka rfl (Nt (Cs (Km rfl ?_)))))))
   refine Ku rfl (Oc rfl rfl (Kv fun w hS => (by have := small_c (w := w) (a := b) (by omega); rw [← hsb] at this; exact this))) ?_
   refine Km rfl (Kq rfl (Re rfl rfl rfl) (Kq rfl (Re rfl rfl rfl) (Ka rfl (Ka rfl (Nt (Cq (Cs (Km rfl (Km rfl ?_)))))))))
   refine Ku rfl (Oc rfl rfl (Kv fun w hS => mul64_c (x := sa.1) (y := sb.1) (by assumption) (by assumption))) ?_
   refine Km rfl (Kq rfl (Re rfl rfl rfl) (Kq rfl (Re rfl rfl rfl) (Ka rfl (Ka rfl (Nt ?_)))))
   refine WC.joinP (σ := Unit) [(0, _), (1, _), (11, _)] (fun gq => [(48, .bool (decide (a.length ≤ 8 ∧ b.length ≤ 8 ∧ sa.1 * sb.1 / 18446744073709551616 = 0)))]) (fun gq => True) (S3 rfl rfl rfl) ?_ ?_
   ·skip
    refine Cg (Km rfl (Kq rfl (rd_slen rfl rfl u22) (Kq rfl (rd_leq rfl rfl rfl) (Km rfl ?_))))
    refine Nb 40 rfl (fun hg40 => ?_) (fun hg40 => ?_)
    ·(try simp only [sB] at hg40)
     refine Km rfl (Kq rfl (rd_slen rfl rfl u22) (Kq rfl (rd_leq rfl rfl rfl) (Kq rfl (Rp rfl rfl rfl) (Km rfl ?_))))
     refine Nb 45 rfl (fun hg45 => ?_) (fun hg45 => ?_)
     ·(try simp only [sB] at hg45)
      refine Km rfl (Kq rfl (rd_eql rfl rfl rfl) (Kq rfl (Rp rfl rfl rfl) (Nn ?_)))
      refine WX.joinP (()) (S3 rfl rfl rfl) (by refine (Sc ?_ (S0 _)) <;> ((refine slot_b rfl ?_; (try dsimp only); (exact decide_eq_decide.2 (by omega))))) ?_ (by (exact fun _ h => h))
      (try dsimp only)
      done
     ·(try simp only [sB] at hg45)
      refine Kt rfl (Kt rfl (Kq rfl (Rq rfl rfl rfl) (Nn ?_)))
      refine WX.joinP (()) (S3 rfl rfl rfl) (by refine (Sc ?_ (S0 _)) <;> ((exact congrArg (fun b => some (Value.bool b)) (by symm; apply decide_eq_false; omega)))) ?_ (by (exact fun _ h => h))
      (try dsimp only)
      done
    ·(try simp only [sB] at hg40)
     refine Kt rfl (Kt rfl (Kt rfl (Kq rfl (Rq rfl rfl rfl) (Km rfl (Kt rfl (Kt rfl (Kq rfl (Rq rfl rfl rfl) (Nn ?_))))))))
     refine WX.joinP (()) (S3 rfl rfl rfl) (by refine (Sc ?_ (S0 _)) <;> ((exact congrArg (fun b => some (Value.bool b)) (by symm; apply decide_eq_false; omega)))) ?_ (by (exact fun _ h => h))
     (try dsimp only)
     done
   ·rintro _ hmeet; (try dsimp only at hmeet ⊢)
    refine Cd rfl (fun hc48 => ?_) (fun hc48 => ?_)
    ·(try simp only [sB] at hc48)
     have e1 : sa.1 = val a := by rw [hsa, smallN, if_pos ⟨hab.1, hc48.1⟩]
     have e2 : sb.1 = val b := by rw [hsb, smallN, if_pos ⟨hab.2, hc48.2.1⟩]
     have hlt : val a * val b < 18446744073709551616 := by have := hc48.2.2; rw [e1, e2] at this; omega
     have hr : mulN a b = (canon (val a * val b), 0) := by rw [mulN, if_pos hab, if_pos (Nat.lt_of_lt_of_le hlt big64)]
     refine Cs (Km rfl ?_)
     refine Ku rfl (Oc rfl rfl (Kv fun w hS => of_c (by omega))) ?_
     refine Ka rfl (Ka rfl (Nt (Ce (Xb ?_))))
     exact R2 rfl rfl rfl (by rw [hr, e1, e2, Nat.mod_eq_of_lt hlt]; rfl)
    ·(try simp only [sB] at hc48)
     have hfm := fit_mul hab
     refine Ck (Xa (Cs ?_))
     refine Kh rfl (Oa rfl (v := (.agg (List.replicate 256 (.int .i64 0)).toArray)) (cs := (List.replicate 256 (.int .i64 0))) (by kernel_rfl) rfl) ?_
     intro b12
     refine Nt (Cs (Km rfl (Km rfl ?_)))
     refine Kh rfl (Oc rfl rfl (fun w hS => product_c (a := a) (b := b) (p := b12) (cs := List.replicate 256 (.int .i64 0)) hS (by simp) (by omega) (by omega))) ?_
     intro c
     refine Ku rfl (Oc rfl rfl (Kv fun w hS => fitting_c (a := canon (val a * val b)))) ?_
     refine Kq rfl (Re rfl rfl rfl) (Kq rfl (Re rfl rfl rfl) (Ka rfl (Ka rfl (Nt (Ce ?_)))))
     exact R2 rfl rfl rfl (by simp only [tup, NE]; rw [← hfm.1, ← hfm.2])
theorem rtimes_c {a b : Bs} {w : World} (ha : a.length ≤ 50000) (hb : b.length ≤ 50000) :
  Cw 49 #[.string (S a), .string (S b)] w (.string (S (canon (val a * val b)))) := by
 obtain ⟨V, hV⟩ : ∃ V, V = val a * val b := ⟨_, rfl⟩
 have hVl : V < 256 ^ (a.length + b.length) := by rw [hV, Nat.pow_add]; exact Nat.mul_lt_mul'' (val_lt a) (val_lt b)
 rw [← hV]
 refine En [] [(0, .string (S a)), (1, .string (S b))] Tryz.func49 rfl Tryz.ntmps49 rfl (Ac rfl (Ac rfl (An _))) Fn ?_
 refine Cs (Ka rfl (Nt (Cq (Cs (Km rfl (Kq rfl (rd_slen rfl rfl u22) (Km rfl (Kq rfl (rd_slen rfl rfl u22) (Kq rfl (rd_add64n rfl rfl rfl (by omega)) (Kq rfl (rd_leq rfl rfl rfl) (Nt ?_)))))))))))
 refine Cd rfl (fun hc18 => ?_) (fun hc18 => ?_)
 ·(try simp only [sB] at hc18)
  have hV8 : V < 18446744073709551616 := Nat.lt_of_lt_of_le hVl (Nat.le_trans (Nat.pow_le_pow_right (by decide) (by omega : a.length + b.length ≤ 8)) (by decide))
  refine Cs (Km rfl ?_)
  refine Ku rfl (Oc rfl rfl (Kv fun w hS => ru64_c (a := a) (by omega))) ?_
  refine Km rfl ?_
  refine Ku rfl (Oc rfl rfl (Kv fun w hS => ru64_c (a := b) (by omega))) ?_
  refine Kq rfl (rd_mulW rfl rfl rfl (by omega)) ?_
  refine Ns 23 rfl (v' := .int .u64 ((V : Nat) : Int)) (congrArg (Value.int .u64) (by rw [hV])) ?_
  refine Ku rfl (Oc rfl rfl (Kv fun w hS => rof_c (n := V) (by assumption))) ?_
  refine Ka rfl (Nt (Ce (Xb ?_)))
  exact R1 rfl rfl (by rfl)
 ·(try simp only [sB] at hc18)
  refine Ck (Xa (Cs (Km rfl (Kq rfl (rd_slen rfl rfl u22) (Km rfl (Kq rfl (rd_slen rfl rfl u22) (Kq rfl (rd_add64n rfl rfl rfl (by omega)) (Ka rfl (Nt (Cs (Km rfl (Kq rfl (Rz rfl rfl rfl (by omega)) ?_))))))))))))
  refine Kh rfl (og_mk rfl rfl rfl u125 (by kernel_rfl : _ = some (some (.int .i64 0), 1, 8)) rfl ?_ (by (try simp only [sN, Int.reduceToNat, Nat.reduceAdd, Nat.reduceMul, Nat.reduceSub]); rfl) (by (try simp only [sN, Int.reduceToNat, Nat.reduceAdd, Nat.reduceMul, Nat.reduceSub]); rfl)) ?_
  ·omega
  intro b32
  refine Ka rfl (Nt (Cq (Cs (Ka rfl (Nt (Cb ?_))))))
  refine Lo (σ := Nat × (List Nat)) [(0, _), (1, _), (5, _), (6, _)] (fun gq => [(7, .int .i64 (gq.1 : Int))]) (fun gq => gq.1 ≤ a.length ∧ ColInv (a.length + b.length + 1) (val a) (val b) gq.1 0 gq.2) (fun gq => a.length - gq.1) (fun gq => [⟨some b32, cols gq.2, 3⟩]) (fun gq => []) (0, List.replicate (a.length + b.length + 1) 0) (S4 rfl rfl rfl rfl) (S1 rfl) (by (try dsimp only); exact ⟨Nat.zero_le _, col_start _ _ _⟩) (by exact fun w h => by rw [cols_rep]; exact h) ?_
  rintro ⟨i, c⟩ hinv1; (try dsimp only at hinv1 ⊢)
  obtain ⟨hi, hci⟩ := hinv1
  refine Cq (Cs (Km rfl (Km rfl (Kq rfl (rd_slen rfl rfl u22) (Kq rfl (rd_lss rfl rfl rfl) (Nt ?_))))))
  refine Cd rfl (fun hc36 => ?_) (fun hc36 => ?_)
  ·(try simp only [sB] at hc36)
   refine Ck (Xa (Cq (Cb (Cs (Ka rfl (Nt (Cb ?_)))))))
   refine Lo (σ := Nat × (List Nat)) [(0, _), (1, _), (5, _), (6, _), (7, _)] (fun gq => [(8, .int .i64 (gq.1 : Int))]) (fun gq => gq.1 ≤ b.length ∧ ColInv (a.length + b.length + 1) (val a) (val b) i gq.1 gq.2) (fun gq => b.length - gq.1) (fun gq => [⟨some b32, cols gq.2, 3⟩]) (fun gq => []) (0, c) (S5 rfl rfl rfl rfl rfl) (S1 rfl) (by (try dsimp only); exact ⟨Nat.zero_le _, hci⟩) (by (exact fun _ h => h)) ?_
   rintro ⟨k, c2⟩ hinv2; (try dsimp only at hinv2 ⊢)
   obtain ⟨hk, hck⟩ := hinv2
   refine Cq (Cs (Km rfl (Km rfl (Kq rfl (rd_slen rfl rfl u22) (Kq rfl (rd_lss rfl rfl rfl) (Nt ?_))))))
   refine Cd rfl (fun hc42 => ?_) (fun hc42 => ?_)
   ·(try simp only [sB] at hc42)
    have hcl := hck.len
    have hca := col_add hck (by omega) (i + k)
    have hcs2 := col_step hck (by omega)
    refine Ck (Xa (Cq (Cb ?_)))
    refine Cf [6, 7, 8, 9, 10, 11, 0, 1, 2, 3, 4, 5, 12, 13, 14] [15] [0, 0, 0, 0, 0, 0, 0, 0, 1, 0, 0, 1, 0, 0, 0, 2] (by kernel_rfl) (by kernel_rfl) rfl ?_
    refine Kj rfl (Rm rfl rfl) (Kj rfl (Rm rfl rfl) ?_)
    refine Jv rfl rfl rfl rfl rfl (fun ext => Oc rfl rfl (Kv fun w hS => rat_c (a := a) (i := i) (by omega) (by omega))) ?_
    refine Kj rfl (Rm rfl rfl) (Kj rfl (Rm rfl rfl) ?_)
    refine Jv rfl rfl rfl rfl rfl (fun ext => Oc rfl rfl (Kv fun w hS => rat_c (a := b) (i := k) (by omega) (by omega))) ?_
    refine Kj rfl (Rm rfl rfl) (Kj rfl (Rm rfl rfl) (Kj rfl (Rm rfl rfl) (Kj rfl (rd_add64n rfl rfl rfl (by omega)) ?_)))
    refine Kj rfl (Ja rfl rfl rfl u125 (by kernel_rfl : _ = some 1) (by omega)) ?_
    refine Kj rfl (ld rfl rfl .tc u3 rfl (cols_get c2 _ (by omega))) ?_
    refine Kj rfl (rd_mul64n rfl rfl rfl (by omega)) (Kj rfl (rd_add64n rfl rfl rfl (by omega)) ?_)
    refine Kj rfl (Ja rfl rfl rfl u125 (by kernel_rfl : _ = some 1) (by omega)) ?_
    refine WJ.nil ?_
    refine Ng rfl rfl (st rfl rfl rfl .tc (by kernel_rfl) rfl ?_ (by rfl)) ?_
    ·rw [cols_len]; omega
    intro _
    rw [cols_set]
    refine Nn (Xd (Xa (Cg (Km rfl (Kq rfl (Rz rfl rfl rfl (by omega)) (Ka rfl (Nn ?_)))))))
    refine Lx ((k + 1, c2.set (i + k) (c2.getD (i + k) 0 + val a / 256 ^ i % 256 * (val b / 256 ^ k % 256)))) (by (try dsimp only); omega) (S5 rfl rfl rfl rfl rfl) (by refine (Sc ?_ (S0 _)) <;> (rfl)) ?_ (by (exact fun _ h => h))
    (try dsimp only)
    exact ⟨by omega, hcs2⟩
   ·(try simp only [sB] at hc42)
    refine Cx (Xc (Xc (Xe ?_)))
    obtain rfl : k = b.length := by omega
    have hrow := col_row hck (val_lt b)
    refine Xd (Xa (Cg (Km rfl (Kq rfl (Rz rfl rfl rfl (by omega)) (Ka rfl (Nn ?_))))))
    refine Lx ((i + 1, c2)) (by (try dsimp only); omega) (S4 rfl rfl rfl rfl) (by refine (Sc ?_ (S0 _)) <;> (rfl)) ?_ (by (exact fun _ h => h))
    (try dsimp only)
    exact ⟨by omega, hrow⟩
  ·(try simp only [sB] at hc36)
   refine Cx (Xc (Xc (Xe ?_)))
   obtain rfl : i = a.length := by omega
   have hev := col_end hci (val_lt a)
   have hcl := hci.len
   rw [← hV] at hev
   refine Xa (Cs (Km rfl ?_))
   refine Kh rfl (og_mk rfl rfl rfl u83 (by kernel_rfl : _ = some (some (.int .u8 0), 1, 1)) rfl ?_ (by (try simp only [sN, Int.reduceToNat, Nat.reduceAdd, Nat.reduceMul, Nat.reduceSub]); rfl) (by (try simp only [sN, Int.reduceToNat, Nat.reduceAdd, Nat.reduceMul, Nat.reduceSub]); rfl)) ?_
   ·omega
   intro b61
   refine Ka rfl (Nt (Cs (Ka rfl (Nt (Cq (Cs (Ka rfl (Nt (Cb ?_)))))))))
   refine Lo (σ := Nat × Nat) [(5, _), (6, _), (9, _)] (fun gq => [(10, .int .i64 (gq.2 : Int)), (11, .int .i64 (gq.1 : Int))]) (fun gq => gq.1 ≤ a.length + b.length ∧ gq.2 = colC 256 c gq.1) (fun gq => a.length + b.length - gq.1) (fun gq => [⟨some b61, lowB (a.length + b.length) gq.1 V, 5⟩, ⟨some b32, cols c, 3⟩]) (fun gq => []) (0, 0) (S3 rfl rfl rfl) (S2 rfl rfl) (by (try dsimp only); exact ⟨Nat.zero_le _, (colC_zero 256 c).symm⟩) (by exact fun w h => by rw [lowB_zero]; exact h) ?_
   rintro ⟨i, cy⟩ hinv3; (try dsimp only at hinv3 ⊢)
   obtain ⟨hi, hcy⟩ := hinv3
   refine Cq (Cs (Km rfl (Km rfl (Kq rfl (rd_lss rfl rfl rfl) (Nt ?_)))))
   refine Cd rfl (fun hc64 => ?_) (fun hc64 => ?_)
   ·(try simp only [sB] at hc64)
    have hcc := col_carry (i := i) hci (by omega) (by omega)
    have hcs3 := colC_succ 256 (by decide) c i (by omega)
    have hcd := colC_digit 256 (by decide) c i (by omega)
    rw [← hcy] at hcc hcs3 hcd
    rw [hev] at hcd
    refine Ck (Xa (Cq (Cb (Cs (Km rfl (Km rfl ?_))))))
    refine Kq rfl (Ja rfl rfl rfl u125 (by kernel_rfl : _ = some 1) (by omega)) ?_
    refine Kq rfl (ld rfl rfl .tc u3 rfl (cols_get c _ (by omega))) ?_
    refine Km rfl (Kq rfl (rd_add64n rfl rfl rfl (by omega)) (Ns 72 rfl (v' := .int .i64 ((cy + c.getD i 0 : Nat) : Int)) (congrArg (Value.int .i64) (by omega)) (Ka rfl (Nt (Cs (Km rfl (Km rfl (Kq rfl (rd_sub64nl rfl rfl rfl (by omega)) (Km rfl (Kq rfl (rd_sub64n rfl rfl rfl (by omega)) (Km rfl (Kq rfl (rd_rem64nl rfl rfl rfl (by omega)) (Kq rfl (rd_convB rfl rfl u3 u5) ?_)))))))))))))
    refine Ns 80 rfl (v' := B (UInt8.ofNat (V / 256 ^ i))) (by exact congrArg (fun b : UInt8 => B b) (u8_mod (by omega))) ?_
    refine Kq rfl (Ja rfl rfl rfl u83 (by kernel_rfl : _ = some 1) (by omega)) ?_
    refine Ng rfl rfl (st rfl rfl rfl .tc (by kernel_rfl) rfl ?_ (by rfl)) ?_
    ·rw [lowB_len _ _ _ (by omega)]; omega
    intro _
    refine Nt (Cg (Km rfl (Kq rfl (rd_quo64nl rfl rfl rfl (by omega)) (Ka rfl (Nn (Xd (Xa (Cg (Km rfl (Kq rfl (Rz rfl rfl rfl (by omega)) (Ka rfl (Nn ?_))))))))))))
    refine Lx ((i + 1, (cy + c.getD i 0) / 256)) (by (try dsimp only); omega) (S3 rfl rfl rfl) (by refine (Sc ?_ (Sc ?_ (S0 _))) <;> (rfl)) ?_ (by exact fun w h => by rw [← lowB_set (a.length + b.length) i V (by omega)]; exact h)
    (try dsimp only)
    exact ⟨by omega, hcs3.symm⟩
   ·(try simp only [sB] at hc64)
    refine Cx (Xc (Xc (Xe ?_)))
    obtain rfl : i = a.length + b.length := by omega
    rw [lowB_full]
    have hbl := be_len (a.length + b.length) V
    refine Xa (Cs (Km rfl ?_))
    refine Ku rfl (Oc rfl rfl (Kv fun w hS => rtrim_c (b := be (a.length + b.length) V) (by (exact hS.os)) (by omega) (by omega) (by omega))) ?_
    refine Ka rfl (Nt (Ce ?_))
    exact R1 rfl rfl (by rw [val_be, Nat.mod_eq_of_lt hVl]; rfl)
theorem rmul_c {a b : Bs} {w : World} :
  Cw 154 #[.string (S a), .string (S b)] w (NE (mulN a b)) := by
 refine En [] [(0, .string (S a)), (1, .string (S b))] Tryz.func154 rfl Tryz.ntmps154 rfl (Ac rfl (Ac rfl (An _))) Fn ?_
 refine Cs (Ka rfl (Ka rfl (Nt (Cq (Cs (Km rfl ?_))))))
 refine Ku rfl (Oc rfl rfl (Kv fun w hS => rvalid_c)) ?_
 refine Kq rfl (Rt rfl rfl) (Km rfl ?_)
 refine Nb 9 rfl (fun hg9 => ?_) (fun hg9 => ?_)
 ·(try simp only [sB] at hg9)
  refine Kt rfl (Kt rfl (Kt rfl (Kq rfl (Rp rfl rfl rfl) (Nt ?_))))
  refine Cd rfl (fun _ => ?_) (fun h => by cases h)
  refine Cs (Ka rfl (Ka rfl (Nt (Ce (Xb ?_)))))
  exact R2 rfl rfl rfl (by rw [mulN, if_neg (by simp_all)]; rfl)
 ·(try simp only [sB] at hg9)
  refine Km rfl ?_
  refine Ku rfl (Oc rfl rfl (Kv fun w hS => rvalid_c)) ?_
  refine Kq rfl (Rt rfl rfl) (Kq rfl (Rq rfl rfl rfl) (Nt ?_))
  refine Cd rfl (fun hc13 => ?_) (fun hc13 => ?_)
  ·(try simp only [sB] at hc13)
   refine Cs (Ka rfl (Ka rfl (Nt (Ce (Xb ?_)))))
   exact R2 rfl rfl rfl (by rw [mulN, if_neg (by simp_all)]; rfl)
  ·(try simp only [sB] at hc13)
   have hab : okN a ∧ okN b := by simp_all
   have hal := hab.1.1; have hbl := hab.2.1
   have hfm := fit_mul hab
   refine Ck (Xa (Cs (Km rfl (Km rfl ?_))))
   refine Ku rfl (Oc rfl rfl (Kv fun w hS => rtimes_c (a := a) (b := b) (by omega) (by omega))) ?_
   refine Ku rfl (Oc rfl rfl (Kv fun w hS => fit_c (a := canon (val a * val b)))) ?_
   refine Kq rfl (Re rfl rfl rfl) (Kq rfl (Re rfl rfl rfl) (Ka rfl (Ka rfl (Nt (Ce ?_)))))
   exact R2 rfl rfl rfl (by simp only [tup, NE]; rw [← hfm.1, ← hfm.2])
theorem bitLen_eq (f x : Nat) : Lib.bitLenAux (f + 1) x = if x = 0 then 0 else 1 + Lib.bitLenAux f (x / 2) := rfl
theorem bitAux_fuel : ∀ (f g x : Nat), x < 2 ^ f → x < 2 ^ g → Lib.bitLenAux f x = Lib.bitLenAux g x
 | 0, 0, x, _, _ => rfl
 | 0, g + 1, x, h, _ => by have : x = 0 := by simpa using h
                           subst this; rfl
 | f + 1, 0, x, _, h => by have : x = 0 := by simpa using h
                           subst this; rfl
 | f + 1, g + 1, x, h1, h2 => by
  rw [bitLen_eq, bitLen_eq]
  split
  ·rfl
  ·rw [bitAux_fuel f g (x / 2) (by rw [Nat.pow_succ] at h1; omega) (by rw [Nat.pow_succ] at h2; omega)]
theorem bitLen_step {x : Nat} (h : 0 < x) (hx : x < 2 ^ 63) : Lib.bitLen x = 1 + Lib.bitLen (x / 2) := by
 unfold Lib.bitLen
 rw [bitLen_eq 63 x, if_neg (by omega), bitAux_fuel 63 64 (x / 2) (by omega) (by omega)]
theorem rbits0_c {a : Bs} {w : World} (ha : a.length ≤ 1000000) :
  Cw 77 #[.string (S a)] w (.int .i64 (bitsN a : Int)) := by
 refine En [] [(0, .string (S a))] Tryz.func77 rfl Tryz.ntmps77 rfl (Ac rfl (An _)) Fn ?_
 refine Cs (Ka rfl (Nt (Cq (Cs (Km rfl (Kq rfl (rd_seq rfl rfl rfl) (Nt ?_)))))))
 refine Cd rfl (fun hc6 => ?_) (fun hc6 => ?_)
 ·(try simp only [sB] at hc6)
  have h0 : a = [] := by simpa using hc6
  refine Cs (Ka rfl (Nt (Ce (Xb ?_))))
  exact R1 rfl rfl (by rw [h0]; rfl)
 ·(try simp only [sB] at hc6)
  have hne : a ≠ [] := by simpa using hc6
  have hl0 : 0 < a.length := List.length_pos_iff.2 hne
  have hc0 := (a.getD 0 default).toNat_lt
  have hbN : bitsN a ≤ 8000064 := by rw [bitsN, if_neg hne]; have := bitLen_le (a.getD 0 default).toNat; omega
  refine Ck (Xa (Cs (Km rfl (Kq rfl (rd_slen rfl rfl u22) (Kq rfl (rd_sub64nl rfl rfl rfl (by omega)) (Kq rfl (rd_mul64ln rfl rfl rfl (by omega)) (Ka rfl (Nt (Cq (Cs (Km rfl ?_)))))))))))
  refine Kq rfl (rd_sidxD rfl rfl rfl u22 ?_) ?_
  ·omega
  refine Kq rfl (rd_convN rfl rfl u5 u3 ?_) ?_
  ·(exact wrap8_64 _)
  refine Ka rfl (Nt (Cb ?_))
  refine Lp (σ := Nat × Nat) [] (fun gq => [(3, .int .i64 (gq.2 : Int)), (4, .int .i64 (gq.1 : Int))]) (fun gq => gq.2 + Lib.bitLen gq.1 = bitsN a ∧ gq.1 < 256) (fun gq => gq.1) ((a.getD 0 default).toNat, 8 * (a.length - 1)) (S0 _) (S2 rfl rfl) (by (try dsimp only); exact ⟨by rw [bitsN, if_neg hne], hc0⟩) ?_
  rintro ⟨x, k⟩ hinv1; (try dsimp only at hinv1 ⊢)
  obtain ⟨hb, hx⟩ := hinv1
  refine Cq (Cs (Km rfl (Kq rfl (rd_gtr rfl rfl rfl) (Nt ?_))))
  refine Cd rfl (fun hc15 => ?_) (fun hc15 => ?_)
  ·(try simp only [sB] at hc15)
   have hst := bitLen_step (x := x) (by omega) (by omega)
   refine Ck (Xa (Cq (Cb (Cg (Km rfl (Kq rfl (Rz rfl rfl rfl (by omega)) (Ka rfl (Nn (Xd (Xa (Cg (Km rfl (Kq rfl (rd_quo64nl rfl rfl rfl (by omega)) (Ka rfl (Nn ?_)))))))))))))))
   refine Ly ((x / 2, k + 1)) (by (try dsimp only); omega) (S0 _) (by refine (Sc ?_ (Sc ?_ (S0 _))) <;> (rfl)) ?_ (by (exact fun _ h => h))
   (try dsimp only)
   exact ⟨by omega, by omega⟩
  ·(try simp only [sB] at hc15)
   refine Cx (Xc (Xc (Xe ?_)))
   obtain rfl : x = 0 := by omega
   have hb0 : Lib.bitLen 0 = 0 := rfl
   refine Xa (Cs (Km rfl (Ka rfl (Nt (Ce ?_)))))
   exact R1 rfl rfl (by rw [← hb]; rfl)
theorem rbits_c {a : Bs} {w : World} :
  Cw 118 #[.string (S a)] w (.int .i64 ((if okN a then bitsN a else 0 : Nat) : Int)) := by
 refine En [] [(0, .string (S a))] Tryz.func118 rfl Tryz.ntmps118 rfl (Ac rfl (An _)) Fn ?_
 refine Cs (Ka rfl (Nt (Cq (Cs (Km rfl ?_)))))
 refine Ku rfl (Oc rfl rfl (Kv fun w hS => rvalid_c)) ?_
 refine Kq rfl (Rt rfl rfl) (Nt ?_)
 refine Cd rfl (fun hc5 => ?_) (fun hc5 => ?_)
 ·(try simp only [sB] at hc5)
  refine Cs (Ka rfl (Nt (Ce (Xb ?_))))
  exact R1 rfl rfl (by rw [if_neg (by simpa using hc5)]; rfl)
 ·(try simp only [sB] at hc5)
  have hok : okN a := by simpa using hc5
  have hal := hok.1
  refine Ck (Xa (Cs (Km rfl ?_)))
  refine Ku rfl (Oc rfl rfl (Kv fun w hS => rbits0_c (by omega))) ?_
  refine Ka rfl (Nt (Ce ?_))
  exact R1 rfl rfl (by rw [if_pos hok]; rfl)
theorem bitsN_le {n : Bs} (h : n.length ≤ 128) : bitsN n ≤ 2000 := by
 rw [bitsN]; split
 ·omega
 ·have := bitLen_le (n.getD 0 default).toNat; omega
theorem bitLen_8 : ∀ x, x < 256 → Lib.bitLen x ≤ 8 := by decide +kernel
theorem bitsN_le8 (a : Bs) : bitsN a ≤ 8 * a.length := by
 rw [bitsN]; split
 ·omega
 ·rename_i h
  have h1 := bitLen_8 (a.getD 0 default).toNat (a.getD 0 default).toNat_lt
  have h2 := List.length_pos_iff.2 h
  omega
theorem lt_bitLen : ∀ x, x < 256 → x < 2 ^ Lib.bitLen x := by decide +kernel
theorem val_bits (a : Bs) : val a < 2 ^ bitsN a := by
 cases a with
 | nil => decide
 | cons c s =>
  have h1 := lt_bitLen c.toNat c.toNat_lt
  have h2 := val_lt s
  have h3 : val (c :: s) = c.toNat * 256 ^ s.length + val s := rfl
  rw [bitsN, if_neg (by simp), h3]
  show c.toNat * 256 ^ s.length + val s < 2 ^ (8 * s.length + Lib.bitLen c.toNat)
  rw [Nat.pow_add, Nat.pow_mul, show (2 : Nat) ^ 8 = 256 from rfl]
  have h4 : (c.toNat + 1) * 256 ^ s.length ≤ 2 ^ Lib.bitLen c.toNat * 256 ^ s.length := Nat.mul_le_mul_right _ h1
  rw [Nat.add_mul, Nat.one_mul] at h4
  rw [Nat.mul_comm (256 ^ s.length)]; omega
end Go.Proofs.YtddoigmffkmpcaaGreatDoor
