/-
  integer: From, Mul, Divide; the reference's products and divisions.
-/
import Derived.Test.YtbcnnkcddilfjaaGreatNtl7
import Derived.Test.YtbcnnkcddilfjaaGreatZed
namespace Go.Proofs.YtbcnnkcddilfjaaGreat
set_option linter.unusedSimpArgs false
set_option linter.unusedVariables false
set_option maxRecDepth 20000
set_option maxHeartbeats 600000
open Go.RowKit

def fromZ (a : Bs) : Zs := if okN a then (false, a) else (false, [])
theorem fromZ_ok {a : Bs} (h : okN a) : fromZ a = (false, a) := if_pos h
theorem zfrom_c {a : Bs} {w : World} :
    Calls Tryz.prog 17 #[.string (S a)] w fun e w' => e = .returned (zV (fromZ a)) ∧ Below w.heap.size w w' := by
  refine enter (S := St (fun _ => True) w [] ([])) (L := [(0, .string (S a))]) Tryz.func17 rfl Tryz.ntmps17 rfl (args_cons rfl (args_nil _)) (St.start (fun _ _ => trivial) facts_nil) ?_
  refine WC.sr ?_
  refine WL.g rfl rfl rfl (og_alloc rfl (v := (.agg #[.bool false, .string (S [])])) (cs := [.bool false, .string (S [])]) (by kernel_rfl) rfl) ?_
  intro b2
  refine WL.nt ?_
  refine WC.seq ?_
  refine WC.sr ?_
  refine WL.r rfl rfl rfl (rd_move rfl rfl) ?_
  refine WL.g rfl rfl rfl (og_call rfl rfl (by kernel_rfl) (keep_val fun w hS => valid_c)) ?_
  intro _
  refine WL.r rfl rfl rfl (rd_not rfl rfl) ?_
  refine WL.nt ?_
  refine WC.cond rfl (fun hc5 => ?_) (fun hc5 => ?_)
  · (try simp only [sB] at hc5)
    refine WC.sr ?_
    refine WL.r rfl rfl rfl (rd_bld [[.bool false], [.string (S [])]] rfl rfl (by simp only [bld, fldv, Nat.beq, Value.cells, cond_true, cond_false, List.nil_append, List.cons_append, List.append_nil]; rfl) (fun w => by kernel_rfl)) ?_
    refine WL.g0 rfl rfl (sta rfl rfl rfl .tc ?_ ?_ ?_) ?_
    · kernel_rfl
    · simp [Value.oneCell']
    · rfl
    intro _
    refine WL.nt ?_
    refine WC.ret ?_
    refine WX.then_ret ?_
    exact WX.retN rfl (.agg rfl .tc Tryz.underlying41 rfl (by kernel_rfl) .nil) fun w' hS => ⟨by rw [fromZ, if_neg (by simpa using hc5)]; rfl, hS.below⟩
  · (try simp only [sB] at hc5)
    refine WC.skip ?_
    refine WX.then_normal ?_
    refine WC.sr ?_
    refine WL.r rfl rfl rfl (rd_move rfl rfl) ?_
    refine WL.g rfl rfl rfl (og_call rfl rfl (by kernel_rfl) (keep_val fun w hS => made_c (n := false) (a := a))) ?_
    intro _
    refine WL.g0 rfl rfl (sta rfl rfl rfl .tc ?_ ?_ ?_) ?_
    · kernel_rfl
    · simp [Value.oneCell']
    · rfl
    intro _
    refine WL.nt ?_
    refine WC.ret ?_
    exact WX.retN rfl (.agg rfl .tc Tryz.underlying41 rfl (by kernel_rfl) .nil) fun w' hS => ⟨by rw [fromZ, if_pos (by simpa using hc5)]; rfl, hS.below⟩
def mulZ (x y : Zs) : Zs × Int := if okZ x ∧ okZ y then (mkZ (x.1 != y.1) (mulN x.2 y.2).1, (mulN x.2 y.2).2) else ((false, []), 3)
theorem zmul_c {x y : Zs} {w : World} :
    Calls Tryz.prog 97 #[zV x, zV y] w fun e w' => e = .returned (ZE (mulZ x y)) ∧ Below w.heap.size w w' := by
  refine enter (S := St (fun _ => True) w [] ([])) (L := [(0, zV x), (1, zV y)]) Tryz.func97 rfl Tryz.ntmps97 rfl (args_cons rfl (args_cons rfl (args_nil _))) (St.start (fun _ _ => trivial) facts_nil) ?_
  refine WC.sr ?_
  refine WL.g rfl rfl rfl (og_box rfl rfl (by (exact cells_agg _))) ?_
  intro b2
  refine WL.g rfl rfl rfl (og_box rfl rfl (by (exact cells_agg _))) ?_
  intro b3
  refine WL.g rfl rfl rfl (og_alloc rfl (v := (.agg #[.bool false, .string (S [])])) (cs := [.bool false, .string (S [])]) (by kernel_rfl) rfl) ?_
  intro b4
  refine WL.r rfl rfl rfl (rd_assign rfl rfl) ?_
  refine WL.nt ?_
  refine WC.seq ?_
  refine WC.sr ?_
  refine WL.r rfl rfl rfl (lda rfl rfl .tc Tryz.underlying41 rfl ?_) ?_
  · kernel_rfl
  refine WL.r rfl rfl rfl (lda rfl rfl .tc Tryz.underlying41 rfl ?_) ?_
  · kernel_rfl
  refine WL.g rfl rfl rfl (og_call rfl rfl (by kernel_rfl) (keep_val fun w hS => both_c (x := x) (y := y))) ?_
  intro _
  refine WL.r rfl rfl rfl (rd_not rfl rfl) ?_
  refine WL.nt ?_
  refine WC.cond rfl (fun hc11 => ?_) (fun hc11 => ?_)
  · (try simp only [sB] at hc11)
    have hr : mulZ x y = ((false, []), 3) := by rw [mulZ, if_neg (by simpa using hc11)]
    refine WC.sr ?_
    refine WL.r rfl rfl rfl (rd_bld [[.bool false], [.string (S [])]] rfl rfl (by simp only [bld, fldv, Nat.beq, Value.cells, cond_true, cond_false, List.nil_append, List.cons_append, List.append_nil]; rfl) (fun w => by kernel_rfl)) ?_
    refine WL.g0 rfl rfl (sta rfl rfl rfl .tc ?_ ?_ ?_) ?_
    · kernel_rfl
    · simp [Value.oneCell']
    · rfl
    intro _
    refine WL.r rfl rfl rfl (rd_assign rfl rfl) ?_
    refine WL.nt ?_
    refine WC.ret ?_
    refine WX.then_ret ?_
    exact WX.retN rfl (.agg rfl .tc Tryz.underlying41 rfl (by kernel_rfl) (.tmp rfl .nil)) fun w' hS => ⟨by rw [hr]; rfl, hS.below⟩
  · (try simp only [sB] at hc11)
    have hr : mulZ x y = (mkZ (x.1 != y.1) (mulN x.2 y.2).1, (mulN x.2 y.2).2) := by rw [mulZ, if_pos (by simpa using hc11)]
    refine WC.skip ?_
    refine WX.then_normal ?_
    refine WC.sr ?_
    (refine WL.r rfl rfl rfl (rd_fa (q := 1) rfl rfl Tryz.underlying41 rfl (by kernel_rfl) rfl) ?_)
    (refine WL.r rfl rfl rfl (ld rfl rfl .tc Tryz.underlying22 rfl (by rfl)) ?_)
    (refine WL.r rfl rfl rfl (rd_fa (q := 1) rfl rfl Tryz.underlying41 rfl (by kernel_rfl) rfl) ?_)
    (refine WL.r rfl rfl rfl (ld rfl rfl .tc Tryz.underlying22 rfl (by rfl)) ?_)
    refine WL.g rfl rfl rfl (og_call rfl rfl (by kernel_rfl) (keep_val fun w hS => mul_c (a := x.2) (b := y.2))) ?_
    intro _
    refine WL.r rfl rfl rfl (rd_move rfl rfl) ?_
    refine WL.r rfl rfl rfl (rd_extL rfl rfl rfl) ?_
    refine WL.r rfl rfl rfl (rd_extL rfl rfl rfl) ?_
    refine WL.r rfl rfl rfl (rd_assign rfl rfl) ?_
    refine WL.r rfl rfl rfl (rd_assign rfl rfl) ?_
    refine WL.nt ?_
    refine WC.sr ?_
    (refine WL.r rfl rfl rfl (rd_fa (q := 0) rfl rfl Tryz.underlying41 rfl (by kernel_rfl) rfl) ?_)
    (refine WL.r rfl rfl rfl (ld rfl rfl .tc Tryz.underlying4 rfl (by rfl)) ?_)
    (refine WL.r rfl rfl rfl (rd_fa (q := 0) rfl rfl Tryz.underlying41 rfl (by kernel_rfl) rfl) ?_)
    (refine WL.r rfl rfl rfl (ld rfl rfl .tc Tryz.underlying4 rfl (by rfl)) ?_)
    refine WL.r rfl rfl rfl (rd_bne rfl rfl rfl Tryz.underlying4) ?_
    refine WL.r rfl rfl rfl (rd_move rfl rfl) ?_
    refine WL.g rfl rfl rfl (og_call rfl rfl (by kernel_rfl) (keep_val fun w hS => made_c (n := x.1 != y.1) (a := (mulN x.2 y.2).1))) ?_
    intro _
    refine WL.r rfl rfl rfl (rd_move rfl rfl) ?_
    refine WL.g0 rfl rfl (sta rfl rfl rfl .tc ?_ ?_ ?_) ?_
    · kernel_rfl
    · simp [Value.oneCell']
    · rfl
    intro _
    refine WL.r rfl rfl rfl (rd_assign rfl rfl) ?_
    refine WL.nt ?_
    refine WC.ret ?_
    exact WX.retN rfl (.agg rfl .tc Tryz.underlying41 rfl (by kernel_rfl) (.tmp rfl .nil)) fun w' hS => ⟨by rw [hr]; rfl, hS.below⟩
theorem rzmul_c {x y : Zs} {w : World} :
    Calls Tryz.prog 128 #[zV x, zV y] w fun e w' => e = .returned (ZE (mulZ x y)) ∧ Below w.heap.size w w' := by
  refine enter (S := St (fun _ => True) w [] ([])) (L := [(0, zV x), (1, zV y)]) Tryz.func128 rfl Tryz.ntmps128 rfl (args_cons rfl (args_cons rfl (args_nil _))) (St.start (fun _ _ => trivial) facts_nil) ?_
  refine WC.sr ?_
  refine WL.g rfl rfl rfl (og_box rfl rfl (by (exact cells_agg _))) ?_
  intro b2
  refine WL.g rfl rfl rfl (og_box rfl rfl (by (exact cells_agg _))) ?_
  intro b3
  refine WL.g rfl rfl rfl (og_alloc rfl (v := (.agg #[.bool false, .string (S [])])) (cs := [.bool false, .string (S [])]) (by kernel_rfl) rfl) ?_
  intro b4
  refine WL.r rfl rfl rfl (rd_assign rfl rfl) ?_
  refine WL.nt ?_
  refine WC.seq ?_
  refine WC.sr ?_
  refine WL.r rfl rfl rfl (lda rfl rfl .tc Tryz.underlying41 rfl ?_) ?_
  · kernel_rfl
  refine WL.g rfl rfl rfl (og_call rfl rfl (by kernel_rfl) (keep_val fun w hS => rzvalid_c (x := x))) ?_
  intro _
  refine WL.r rfl rfl rfl (rd_not rfl rfl) ?_
  refine WL.r rfl rfl rfl (rd_move rfl rfl) ?_
  refine WL.bool 11 rfl (fun hg11 => ?_) (fun hg11 => ?_)
  · (try simp only [sB] at hg11)
    refine WL.s rfl rfl rfl ?_
    refine WL.s rfl rfl rfl ?_
    refine WL.s rfl rfl rfl ?_
    refine WL.r rfl rfl rfl (rd_pickt rfl rfl rfl) ?_
    refine WL.nt ?_
    refine WC.cond rfl (fun _ => ?_) (fun h => by cases h)
    refine WC.sr ?_
    refine WL.r rfl rfl rfl (rd_bld [[.bool false], [.string (S [])]] rfl rfl (by simp only [bld, fldv, Nat.beq, Value.cells, cond_true, cond_false, List.nil_append, List.cons_append, List.append_nil]; rfl) (fun w => by kernel_rfl)) ?_
    refine WL.g0 rfl rfl (sta rfl rfl rfl .tc ?_ ?_ ?_) ?_
    · kernel_rfl
    · simp [Value.oneCell']
    · rfl
    intro _
    refine WL.r rfl rfl rfl (rd_assign rfl rfl) ?_
    refine WL.nt ?_
    refine WC.ret ?_
    refine WX.then_ret ?_
    exact WX.retN rfl (.agg rfl .tc Tryz.underlying41 rfl (by kernel_rfl) (.tmp rfl .nil)) fun w' hS => ⟨by rw [show mulZ x y = ((false, []), 3) from by rw [mulZ, if_neg (by simp_all)]]; rfl, hS.below⟩
  · (try simp only [sB] at hg11)
    refine WL.r rfl rfl rfl (lda rfl rfl .tc Tryz.underlying41 rfl ?_) ?_
    · kernel_rfl
    refine WL.g rfl rfl rfl (og_call rfl rfl (by kernel_rfl) (keep_val fun w hS => rzvalid_c (x := y))) ?_
    intro _
    refine WL.r rfl rfl rfl (rd_not rfl rfl) ?_
    refine WL.r rfl rfl rfl (rd_pickf rfl rfl rfl) ?_
    refine WL.nt ?_
    refine WC.cond rfl (fun hc15 => ?_) (fun hc15 => ?_)
    · (try simp only [sB] at hc15)
      refine WC.sr ?_
      refine WL.r rfl rfl rfl (rd_bld [[.bool false], [.string (S [])]] rfl rfl (by simp only [bld, fldv, Nat.beq, Value.cells, cond_true, cond_false, List.nil_append, List.cons_append, List.append_nil]; rfl) (fun w => by kernel_rfl)) ?_
      refine WL.g0 rfl rfl (sta rfl rfl rfl .tc ?_ ?_ ?_) ?_
      · kernel_rfl
      · simp [Value.oneCell']
      · rfl
      intro _
      refine WL.r rfl rfl rfl (rd_assign rfl rfl) ?_
      refine WL.nt ?_
      refine WC.ret ?_
      refine WX.then_ret ?_
      exact WX.retN rfl (.agg rfl .tc Tryz.underlying41 rfl (by kernel_rfl) (.tmp rfl .nil)) fun w' hS => ⟨by rw [show mulZ x y = ((false, []), 3) from by rw [mulZ, if_neg (by simp_all)]]; rfl, hS.below⟩
    · (try simp only [sB] at hc15)
      have hr : mulZ x y = (mkZ (x.1 != y.1) (mulN x.2 y.2).1, (mulN x.2 y.2).2) := by rw [mulZ, if_pos (by simp_all)]
      refine WC.skip ?_
      refine WX.then_normal ?_
      refine WC.sr ?_
      (refine WL.r rfl rfl rfl (rd_fa (q := 1) rfl rfl Tryz.underlying41 rfl (by kernel_rfl) rfl) ?_)
      (refine WL.r rfl rfl rfl (ld rfl rfl .tc Tryz.underlying22 rfl (by rfl)) ?_)
      (refine WL.r rfl rfl rfl (rd_fa (q := 1) rfl rfl Tryz.underlying41 rfl (by kernel_rfl) rfl) ?_)
      (refine WL.r rfl rfl rfl (ld rfl rfl .tc Tryz.underlying22 rfl (by rfl)) ?_)
      refine WL.g rfl rfl rfl (og_call rfl rfl (by kernel_rfl) (keep_val fun w hS => rmul_c (a := x.2) (b := y.2))) ?_
      intro _
      refine WL.r rfl rfl rfl (rd_move rfl rfl) ?_
      refine WL.r rfl rfl rfl (rd_extL rfl rfl rfl) ?_
      refine WL.r rfl rfl rfl (rd_extL rfl rfl rfl) ?_
      refine WL.r rfl rfl rfl (rd_assign rfl rfl) ?_
      refine WL.r rfl rfl rfl (rd_assign rfl rfl) ?_
      refine WL.nt ?_
      refine WC.sr ?_
      (refine WL.r rfl rfl rfl (rd_fa (q := 0) rfl rfl Tryz.underlying41 rfl (by kernel_rfl) rfl) ?_)
      (refine WL.r rfl rfl rfl (ld rfl rfl .tc Tryz.underlying4 rfl (by rfl)) ?_)
      (refine WL.r rfl rfl rfl (rd_fa (q := 0) rfl rfl Tryz.underlying41 rfl (by kernel_rfl) rfl) ?_)
      (refine WL.r rfl rfl rfl (ld rfl rfl .tc Tryz.underlying4 rfl (by rfl)) ?_)
      refine WL.r rfl rfl rfl (rd_bne rfl rfl rfl Tryz.underlying4) ?_
      refine WL.r rfl rfl rfl (rd_move rfl rfl) ?_
      refine WL.g rfl rfl rfl (og_call rfl rfl (by kernel_rfl) (keep_val fun w hS => rmake_c (n := x.1 != y.1) (a := (mulN x.2 y.2).1))) ?_
      intro _
      refine WL.r rfl rfl rfl (rd_move rfl rfl) ?_
      refine WL.g0 rfl rfl (sta rfl rfl rfl .tc ?_ ?_ ?_) ?_
      · kernel_rfl
      · simp [Value.oneCell']
      · rfl
      intro _
      refine WL.r rfl rfl rfl (rd_assign rfl rfl) ?_
      refine WL.nt ?_
      refine WC.ret ?_
      exact WX.retN rfl (.agg rfl .tc Tryz.underlying41 rfl (by kernel_rfl) (.tmp rfl .nil)) fun w' hS => ⟨by rw [hr]; rfl, hS.below⟩
def divZ (x y : Zs) : Zs × Int :=
  if okZ x ∧ okZ y then (if y.2 = [] then ((false, []), 11) else if val x.2 % val y.2 = 0 then (mkZ (x.1 != y.1) (canon (val x.2 / val y.2)), 0) else ((false, []), 1)) else ((false, []), 3)
theorem divN_ok {a b : Bs} (ha : okN a) (hb : okN b) (h0 : b ≠ []) : divN a b = ((canon (val a / val b), canon (val a % val b)), 0) := by rw [divN, if_pos ⟨ha, hb⟩, if_neg h0]
theorem zdivide_c {x y : Zs} {w : World} :
    Calls Tryz.prog 24 #[zV x, zV y] w fun e w' => e = .returned (ZE (divZ x y)) ∧ Below w.heap.size w w' := by
  refine enter (S := St (fun _ => True) w [] ([])) (L := [(0, zV x), (1, zV y)]) Tryz.func24 rfl Tryz.ntmps24 rfl (args_cons rfl (args_cons rfl (args_nil _))) (St.start (fun _ _ => trivial) facts_nil) ?_
  refine WC.sr ?_
  refine WL.g rfl rfl rfl (og_box rfl rfl (by (exact cells_agg _))) ?_
  intro b2
  refine WL.g rfl rfl rfl (og_box rfl rfl (by (exact cells_agg _))) ?_
  intro b3
  refine WL.g rfl rfl rfl (og_alloc rfl (v := (.agg #[.bool false, .string (S [])])) (cs := [.bool false, .string (S [])]) (by kernel_rfl) rfl) ?_
  intro b4
  refine WL.r rfl rfl rfl (rd_assign rfl rfl) ?_
  refine WL.nt ?_
  refine WC.seq ?_
  refine WC.sr ?_
  refine WL.r rfl rfl rfl (lda rfl rfl .tc Tryz.underlying41 rfl ?_) ?_
  · kernel_rfl
  refine WL.r rfl rfl rfl (lda rfl rfl .tc Tryz.underlying41 rfl ?_) ?_
  · kernel_rfl
  refine WL.g rfl rfl rfl (og_call rfl rfl (by kernel_rfl) (keep_val fun w hS => both_c (x := x) (y := y))) ?_
  intro _
  refine WL.r rfl rfl rfl (rd_not rfl rfl) ?_
  refine WL.nt ?_
  refine WC.cond rfl (fun hc12 => ?_) (fun hc12 => ?_)
  · (try simp only [sB] at hc12)
    have hr : divZ x y = ((false, []), 3) := by rw [divZ, if_neg (by simpa using hc12)]
    refine WC.sr ?_
    refine WL.r rfl rfl rfl (rd_bld [[.bool false], [.string (S [])]] rfl rfl (by simp only [bld, fldv, Nat.beq, Value.cells, cond_true, cond_false, List.nil_append, List.cons_append, List.append_nil]; rfl) (fun w => by kernel_rfl)) ?_
    refine WL.g0 rfl rfl (sta rfl rfl rfl .tc ?_ ?_ ?_) ?_
    · kernel_rfl
    · simp [Value.oneCell']
    · rfl
    intro _
    refine WL.r rfl rfl rfl (rd_assign rfl rfl) ?_
    refine WL.nt ?_
    refine WC.ret ?_
    refine WX.then_ret ?_
    exact WX.retN rfl (.agg rfl .tc Tryz.underlying41 rfl (by kernel_rfl) (.tmp rfl .nil)) fun w' hS => ⟨by rw [hr]; rfl, hS.below⟩
  · (try simp only [sB] at hc12)
    have hok : okZ x ∧ okZ y := by simpa using hc12
    refine WC.skip ?_
    refine WX.then_normal ?_
    refine WC.seq ?_
    refine WC.sr ?_
    (refine WL.r rfl rfl rfl (rd_fa (q := 1) rfl rfl Tryz.underlying41 rfl (by kernel_rfl) rfl) ?_)
    (refine WL.r rfl rfl rfl (ld rfl rfl .tc Tryz.underlying22 rfl (by rfl)) ?_)
    refine WL.r rfl rfl rfl (rd_seq rfl rfl rfl) ?_
    refine WL.nt ?_
    refine WC.cond rfl (fun hc16 => ?_) (fun hc16 => ?_)
    · (try simp only [sB] at hc16)
      have hr : divZ x y = ((false, []), 11) := by rw [divZ, if_pos hok, if_pos (by simpa using hc16)]
      refine WC.sr ?_
      refine WL.r rfl rfl rfl (rd_bld [[.bool false], [.string (S [])]] rfl rfl (by simp only [bld, fldv, Nat.beq, Value.cells, cond_true, cond_false, List.nil_append, List.cons_append, List.append_nil]; rfl) (fun w => by kernel_rfl)) ?_
      refine WL.g0 rfl rfl (sta rfl rfl rfl .tc ?_ ?_ ?_) ?_
      · kernel_rfl
      · simp [Value.oneCell']
      · rfl
      intro _
      refine WL.r rfl rfl rfl (rd_assign rfl rfl) ?_
      refine WL.nt ?_
      refine WC.ret ?_
      refine WX.then_ret ?_
      exact WX.retN rfl (.agg rfl .tc Tryz.underlying41 rfl (by kernel_rfl) (.tmp rfl .nil)) fun w' hS => ⟨by rw [hr]; rfl, hS.below⟩
    · (try simp only [sB] at hc16)
      have hy0 : y.2 ≠ [] := by simpa using hc16
      have hdv := divN_ok hok.1.1 hok.2.1 hy0
      refine WC.skip ?_
      refine WX.then_normal ?_
      refine WC.sr ?_
      (refine WL.r rfl rfl rfl (rd_fa (q := 1) rfl rfl Tryz.underlying41 rfl (by kernel_rfl) rfl) ?_)
      (refine WL.r rfl rfl rfl (ld rfl rfl .tc Tryz.underlying22 rfl (by rfl)) ?_)
      (refine WL.r rfl rfl rfl (rd_fa (q := 1) rfl rfl Tryz.underlying41 rfl (by kernel_rfl) rfl) ?_)
      (refine WL.r rfl rfl rfl (ld rfl rfl .tc Tryz.underlying22 rfl (by rfl)) ?_)
      refine WL.g rfl rfl rfl (og_call rfl rfl (by kernel_rfl) (keep_val fun w hS => (by have := divmod_c (w := w) (a := x.2) (b := y.2); rw [hdv] at this; exact this))) ?_
      intro _
      refine WL.r rfl rfl rfl (rd_move rfl rfl) ?_
      refine WL.r rfl rfl rfl (rd_extL rfl rfl rfl) ?_
      refine WL.r rfl rfl rfl (rd_extL rfl rfl rfl) ?_
      refine WL.r rfl rfl rfl (rd_extL rfl rfl rfl) ?_
      refine WL.r rfl rfl rfl (rd_assign rfl rfl) ?_
      refine WL.r rfl rfl rfl (rd_assign rfl rfl) ?_
      refine WL.r rfl rfl rfl (rd_assign rfl rfl) ?_
      refine WL.nt ?_
      refine WC.seq ?_
      refine WC.sr ?_
      refine WL.r rfl rfl rfl (rd_move rfl rfl) ?_
      refine WL.r rfl rfl rfl (rd_sne rfl rfl rfl) ?_
      refine WL.nt ?_
      refine WC.cond rfl (fun hc28 => ?_) (fun hc28 => ?_)
      · (try simp only [sB] at hc28)
        have hr : divZ x y = ((false, []), 1) := by
          have h1 : ¬ val x.2 % val y.2 = 0 := by intro h; rw [h, canon_zero] at hc28; simp at hc28
          rw [divZ, if_pos hok, if_neg hy0, if_neg h1]
        refine WC.sr ?_
        refine WL.r rfl rfl rfl (rd_bld [[.bool false], [.string (S [])]] rfl rfl (by simp only [bld, fldv, Nat.beq, Value.cells, cond_true, cond_false, List.nil_append, List.cons_append, List.append_nil]; rfl) (fun w => by kernel_rfl)) ?_
        refine WL.g0 rfl rfl (sta rfl rfl rfl .tc ?_ ?_ ?_) ?_
        · kernel_rfl
        · simp [Value.oneCell']
        · rfl
        intro _
        refine WL.r rfl rfl rfl (rd_assign rfl rfl) ?_
        refine WL.nt ?_
        refine WC.ret ?_
        refine WX.then_ret ?_
        exact WX.retN rfl (.agg rfl .tc Tryz.underlying41 rfl (by kernel_rfl) (.tmp rfl .nil)) fun w' hS => ⟨by rw [hr]; rfl, hS.below⟩
      · (try simp only [sB] at hc28)
        have hr : divZ x y = (mkZ (x.1 != y.1) (canon (val x.2 / val y.2)), 0) := by
          have h1 : val x.2 % val y.2 = 0 := canon_nil.1 (by simpa using hc28)
          rw [divZ, if_pos hok, if_neg hy0, if_pos h1]
        refine WC.skip ?_
        refine WX.then_normal ?_
        refine WC.sr ?_
        (refine WL.r rfl rfl rfl (rd_fa (q := 0) rfl rfl Tryz.underlying41 rfl (by kernel_rfl) rfl) ?_)
        (refine WL.r rfl rfl rfl (ld rfl rfl .tc Tryz.underlying4 rfl (by rfl)) ?_)
        (refine WL.r rfl rfl rfl (rd_fa (q := 0) rfl rfl Tryz.underlying41 rfl (by kernel_rfl) rfl) ?_)
        (refine WL.r rfl rfl rfl (ld rfl rfl .tc Tryz.underlying4 rfl (by rfl)) ?_)
        refine WL.r rfl rfl rfl (rd_bne rfl rfl rfl Tryz.underlying4) ?_
        refine WL.r rfl rfl rfl (rd_move rfl rfl) ?_
        refine WL.g rfl rfl rfl (og_call rfl rfl (by kernel_rfl) (keep_val fun w hS => made_c (n := x.1 != y.1) (a := canon (val x.2 / val y.2)))) ?_
        intro _
        refine WL.g0 rfl rfl (sta rfl rfl rfl .tc ?_ ?_ ?_) ?_
        · kernel_rfl
        · simp [Value.oneCell']
        · rfl
        intro _
        refine WL.r rfl rfl rfl (rd_assign rfl rfl) ?_
        refine WL.nt ?_
        refine WC.ret ?_
        exact WX.retN rfl (.agg rfl .tc Tryz.underlying41 rfl (by kernel_rfl) (.tmp rfl .nil)) fun w' hS => ⟨by rw [hr]; rfl, hS.below⟩
theorem rzof_c {n : Int} {w : World} (h0 : -9223372036854775808 ≤ n) (h1 : n ≤ 9223372036854775807) :
    Calls Tryz.prog 33 #[.int .i64 n] w fun e w' => e = .returned (zV (ofZ n)) ∧ Below w.heap.size w w' := by
  refine enter (S := St (fun _ => True) w [] ([])) (L := [(0, .int .i64 n)]) Tryz.func33 rfl Tryz.ntmps33 rfl (args_cons rfl (args_nil _)) (St.start (fun _ _ => trivial) facts_nil) ?_
  refine WC.sr ?_
  refine WL.g rfl rfl rfl (og_alloc rfl (v := (.agg #[.bool false, .string (S [])])) (cs := [.bool false, .string (S [])]) (by kernel_rfl) rfl) ?_
  intro b2
  refine WL.nt ?_
  refine WC.seq ?_
  refine WC.sr ?_
  refine WL.r rfl rfl rfl (rd_move rfl rfl) ?_
  refine WL.r rfl rfl rfl (rd_lss rfl rfl rfl) ?_
  refine WL.nt ?_
  refine WC.cond rfl (fun hc4 => ?_) (fun hc4 => ?_)
  · (try simp only [sB] at hc4)
    have hr : ofZ n = mkZ true (canon n.natAbs) := by rw [ofZ, decide_eq_true hc4]
    refine WC.sr ?_
    refine WL.r rfl rfl rfl (rd_move rfl rfl) ?_
    (refine WL.r rfl rfl rfl (rd_add64 rfl rfl rfl ?_) ?_; (focus (omega)))
    refine WL.r rfl rfl rfl (rd_neg64 rfl rfl ?_) ?_
    · omega
    refine WL.r rfl rfl rfl (rd_conv rfl rfl Tryz.underlying2 Tryz.underlying55) ?_
    refine WL.r rfl rfl rfl (rd_add rfl rfl rfl) ?_
    refine WL.set 9 rfl (v' := .int .u64 ((n.natAbs : Nat) : Int)) (by exact congrArg (Value.int .u64) (by simp only [IntKind.wrap_u64]; omega)) ?_
    refine WL.g rfl rfl rfl (og_call rfl rfl (by kernel_rfl) (keep_val fun w hS => rof_c (n := n.natAbs) (by omega))) ?_
    intro _
    refine WL.g rfl rfl rfl (og_call rfl rfl (by kernel_rfl) (keep_val fun w hS => rmake_c (n := true) (a := canon n.natAbs))) ?_
    intro _
    refine WL.g0 rfl rfl (sta rfl rfl rfl .tc ?_ ?_ ?_) ?_
    · kernel_rfl
    · simp [Value.oneCell']
    · rfl
    intro _
    refine WL.nt ?_
    refine WC.ret ?_
    refine WX.then_ret ?_
    exact WX.retN rfl (.agg rfl .tc Tryz.underlying41 rfl (by kernel_rfl) .nil) fun w' hS => ⟨by rw [hr]; rfl, hS.below⟩
  · (try simp only [sB] at hc4)
    have hr : ofZ n = mkZ false (canon n.natAbs) := by rw [ofZ, decide_eq_false (by omega)]
    refine WC.skip ?_
    refine WX.then_normal ?_
    refine WC.sr ?_
    refine WL.r rfl rfl rfl (rd_move rfl rfl) ?_
    refine WL.r rfl rfl rfl (rd_conv rfl rfl Tryz.underlying2 Tryz.underlying55) ?_
    refine WL.set 13 rfl (v' := .int .u64 ((n.natAbs : Nat) : Int)) (by exact congrArg (Value.int .u64) (by rw [IntKind.wrap_u64]; omega)) ?_
    refine WL.g rfl rfl rfl (og_call rfl rfl (by kernel_rfl) (keep_val fun w hS => rof_c (n := n.natAbs) (by omega))) ?_
    intro _
    refine WL.g rfl rfl rfl (og_call rfl rfl (by kernel_rfl) (keep_val fun w hS => rmake_c (n := false) (a := canon n.natAbs))) ?_
    intro _
    refine WL.g0 rfl rfl (sta rfl rfl rfl .tc ?_ ?_ ?_) ?_
    · kernel_rfl
    · simp [Value.oneCell']
    · rfl
    intro _
    refine WL.nt ?_
    refine WC.ret ?_
    exact WX.retN rfl (.agg rfl .tc Tryz.underlying41 rfl (by kernel_rfl) .nil) fun w' hS => ⟨by rw [hr]; rfl, hS.below⟩
/-- the division with a rest that is not negative -/
def dmZ (x y : Zs) : (Zs × Bs) × Int :=
  if okZ x ∧ okZ y then
    (if y.2 = [] then (((false, []), []), 11)
     else if x.1 = true ∧ val x.2 % val y.2 ≠ 0 then ((mkZ (x.1 != y.1) (addN (canon (val x.2 / val y.2)) [1]).1, canon (val y.2 - val x.2 % val y.2)), 0)
     else ((mkZ (x.1 != y.1) (canon (val x.2 / val y.2)), canon (val x.2 % val y.2)), 0))
  else (((false, []), []), 3)
abbrev DZE (r : (Zs × Bs) × Int) : Value := .tuple #[zV r.1.1, .string (S r.1.2), .int .i64 r.2]
theorem rzdm_c {x y : Zs} {w : World} :
    Calls Tryz.prog 59 #[zV x, zV y] w fun e w' => e = .returned (DZE (dmZ x y)) ∧ Below w.heap.size w w' := by
  refine enter (S := St (fun _ => True) w [] ([])) (L := [(0, zV x), (1, zV y)]) Tryz.func59 rfl Tryz.ntmps59 rfl (args_cons rfl (args_cons rfl (args_nil _))) (St.start (fun _ _ => trivial) facts_nil) ?_
  refine WC.sr ?_
  refine WL.g rfl rfl rfl (og_box rfl rfl (by (exact cells_agg _))) ?_
  intro b2
  refine WL.g rfl rfl rfl (og_box rfl rfl (by (exact cells_agg _))) ?_
  intro b3
  refine WL.g rfl rfl rfl (og_alloc rfl (v := (.agg #[.bool false, .string (S [])])) (cs := [.bool false, .string (S [])]) (by kernel_rfl) rfl) ?_
  intro b4
  refine WL.r rfl rfl rfl (rd_assign rfl rfl) ?_
  refine WL.r rfl rfl rfl (rd_assign rfl rfl) ?_
  refine WL.nt ?_
  refine WC.seq ?_
  refine WC.sr ?_
  refine WL.r rfl rfl rfl (lda rfl rfl .tc Tryz.underlying41 rfl ?_) ?_
  · kernel_rfl
  refine WL.g rfl rfl rfl (og_call rfl rfl (by kernel_rfl) (keep_val fun w hS => rzvalid_c (x := x))) ?_
  intro _
  refine WL.r rfl rfl rfl (rd_not rfl rfl) ?_
  refine WL.r rfl rfl rfl (rd_move rfl rfl) ?_
  refine WL.bool 13 rfl (fun hg13 => ?_) (fun hg13 => ?_)
  · (try simp only [sB] at hg13)
    refine WL.s rfl rfl rfl ?_
    refine WL.s rfl rfl rfl ?_
    refine WL.s rfl rfl rfl ?_
    refine WL.r rfl rfl rfl (rd_pickt rfl rfl rfl) ?_
    refine WL.nt ?_
    refine WC.cond rfl (fun _ => ?_) (fun h => by cases h)
    refine WC.sr ?_
    refine WL.r rfl rfl rfl (rd_bld [[.bool false], [.string (S [])]] rfl rfl (by simp only [bld, fldv, Nat.beq, Value.cells, cond_true, cond_false, List.nil_append, List.cons_append, List.append_nil]; rfl) (fun w => by kernel_rfl)) ?_
    refine WL.g0 rfl rfl (sta rfl rfl rfl .tc ?_ ?_ ?_) ?_
    · kernel_rfl
    · simp [Value.oneCell']
    · rfl
    intro _
    refine WL.r rfl rfl rfl (rd_assign rfl rfl) ?_
    refine WL.r rfl rfl rfl (rd_assign rfl rfl) ?_
    refine WL.nt ?_
    refine WC.ret ?_
    refine WX.then_ret ?_
    exact WX.retN rfl (.agg rfl .tc Tryz.underlying41 rfl (by kernel_rfl) (.tmp rfl (.tmp rfl .nil))) fun w' hS => ⟨by rw [show dmZ x y = (((false, []), []), 3) from by rw [dmZ, if_neg (by simp_all)]]; rfl, hS.below⟩
  · (try simp only [sB] at hg13)
    refine WL.r rfl rfl rfl (lda rfl rfl .tc Tryz.underlying41 rfl ?_) ?_
    · kernel_rfl
    refine WL.g rfl rfl rfl (og_call rfl rfl (by kernel_rfl) (keep_val fun w hS => rzvalid_c (x := y))) ?_
    intro _
    refine WL.r rfl rfl rfl (rd_not rfl rfl) ?_
    refine WL.r rfl rfl rfl (rd_pickf rfl rfl rfl) ?_
    refine WL.nt ?_
    refine WC.cond rfl (fun hc17 => ?_) (fun hc17 => ?_)
    · (try simp only [sB] at hc17)
      refine WC.sr ?_
      refine WL.r rfl rfl rfl (rd_bld [[.bool false], [.string (S [])]] rfl rfl (by simp only [bld, fldv, Nat.beq, Value.cells, cond_true, cond_false, List.nil_append, List.cons_append, List.append_nil]; rfl) (fun w => by kernel_rfl)) ?_
      refine WL.g0 rfl rfl (sta rfl rfl rfl .tc ?_ ?_ ?_) ?_
      · kernel_rfl
      · simp [Value.oneCell']
      · rfl
      intro _
      refine WL.r rfl rfl rfl (rd_assign rfl rfl) ?_
      refine WL.r rfl rfl rfl (rd_assign rfl rfl) ?_
      refine WL.nt ?_
      refine WC.ret ?_
      refine WX.then_ret ?_
      exact WX.retN rfl (.agg rfl .tc Tryz.underlying41 rfl (by kernel_rfl) (.tmp rfl (.tmp rfl .nil))) fun w' hS => ⟨by rw [show dmZ x y = (((false, []), []), 3) from by rw [dmZ, if_neg (by simp_all)]]; rfl, hS.below⟩
    · (try simp only [sB] at hc17)
      have hok : okZ x ∧ okZ y := by simp_all
      refine WC.skip ?_
      refine WX.then_normal ?_
      refine WC.seq ?_
      refine WC.sr ?_
      (refine WL.r rfl rfl rfl (rd_fa (q := 1) rfl rfl Tryz.underlying41 rfl (by kernel_rfl) rfl) ?_)
      (refine WL.r rfl rfl rfl (ld rfl rfl .tc Tryz.underlying22 rfl (by rfl)) ?_)
      refine WL.r rfl rfl rfl (rd_seq rfl rfl rfl) ?_
      refine WL.nt ?_
      refine WC.cond rfl (fun hc21 => ?_) (fun hc21 => ?_)
      · (try simp only [sB] at hc21)
        have hr : dmZ x y = (((false, []), []), 11) := by rw [dmZ, if_pos hok, if_pos (by simpa using hc21)]
        refine WC.sr ?_
        refine WL.r rfl rfl rfl (rd_bld [[.bool false], [.string (S [])]] rfl rfl (by simp only [bld, fldv, Nat.beq, Value.cells, cond_true, cond_false, List.nil_append, List.cons_append, List.append_nil]; rfl) (fun w => by kernel_rfl)) ?_
        refine WL.g0 rfl rfl (sta rfl rfl rfl .tc ?_ ?_ ?_) ?_
        · kernel_rfl
        · simp [Value.oneCell']
        · rfl
        intro _
        refine WL.r rfl rfl rfl (rd_assign rfl rfl) ?_
        refine WL.r rfl rfl rfl (rd_assign rfl rfl) ?_
        refine WL.nt ?_
        refine WC.ret ?_
        refine WX.then_ret ?_
        exact WX.retN rfl (.agg rfl .tc Tryz.underlying41 rfl (by kernel_rfl) (.tmp rfl (.tmp rfl .nil))) fun w' hS => ⟨by rw [hr]; rfl, hS.below⟩
      · (try simp only [sB] at hc21)
        have hy0 : y.2 ≠ [] := by simpa using hc21
        have hdv := divN_ok hok.1.1 hok.2.1 hy0
        have hvy : 0 < val y.2 := Nat.pos_of_ne_zero fun e => hy0 ((val_eq_zero hok.2.1.2).1 e)
        have hmd := Nat.mod_lt (val x.2) hvy
        have hby := okN_val hok.2.1
        refine WC.skip ?_
        refine WX.then_normal ?_
        refine WC.sr ?_
        (refine WL.r rfl rfl rfl (rd_fa (q := 1) rfl rfl Tryz.underlying41 rfl (by kernel_rfl) rfl) ?_)
        (refine WL.r rfl rfl rfl (ld rfl rfl .tc Tryz.underlying22 rfl (by rfl)) ?_)
        (refine WL.r rfl rfl rfl (rd_fa (q := 1) rfl rfl Tryz.underlying41 rfl (by kernel_rfl) rfl) ?_)
        (refine WL.r rfl rfl rfl (ld rfl rfl .tc Tryz.underlying22 rfl (by rfl)) ?_)
        refine WL.g rfl rfl rfl (og_call rfl rfl (by kernel_rfl) (keep_val fun w hS => (by have := rdivmod_c (w := w) (a := x.2) (b := y.2); rw [hdv] at this; exact this))) ?_
        intro _
        refine WL.r rfl rfl rfl (rd_move rfl rfl) ?_
        refine WL.r rfl rfl rfl (rd_extL rfl rfl rfl) ?_
        refine WL.r rfl rfl rfl (rd_extL rfl rfl rfl) ?_
        refine WL.r rfl rfl rfl (rd_extL rfl rfl rfl) ?_
        refine WL.r rfl rfl rfl (rd_assign rfl rfl) ?_
        refine WL.r rfl rfl rfl (rd_assign rfl rfl) ?_
        refine WL.r rfl rfl rfl (rd_assign rfl rfl) ?_
        refine WL.nt ?_
        refine WC.seq ?_
        refine WC.joinP (σ := Unit) [(2, _), (3, _), (4, _), (7, _), (8, _)] (fun g => [(37, .bool (decide (x.1 = true ∧ val x.2 % val y.2 ≠ 0)))]) (fun g => True) (sub_cons rfl (sub_cons rfl (sub_cons rfl (sub_cons rfl (sub_cons rfl (sub_nil _)))))) ?_ ?_
        · skip
          refine WC.region ?_
          (refine WL.r rfl rfl rfl (rd_fa (q := 0) rfl rfl Tryz.underlying41 rfl (by kernel_rfl) rfl) ?_)
          (refine WL.r rfl rfl rfl (ld rfl rfl .tc Tryz.underlying4 rfl (by rfl)) ?_)
          refine WL.r rfl rfl rfl (rd_move rfl rfl) ?_
          refine WL.bool 34 rfl (fun hg34 => ?_) (fun hg34 => ?_)
          · (try simp only [sB] at hg34)
            refine WL.r rfl rfl rfl (rd_move rfl rfl) ?_
            refine WL.r rfl rfl rfl (rd_sne rfl rfl rfl) ?_
            refine WL.set 36 rfl (v' := .bool (decide (val x.2 % val y.2 ≠ 0))) (congrArg Value.bool (by simp [canon_nil])) ?_
            refine WL.r rfl rfl rfl (rd_pickt rfl rfl rfl) ?_
            refine WL.nil ?_
            refine WX.joinP (()) (sub_cons rfl (sub_cons rfl (sub_cons rfl (sub_cons rfl (sub_cons rfl (sub_nil _)))))) (by refine (sub_cons ?_ (sub_nil _)) <;> ((refine slot_b rfl ?_; (try dsimp only); (simp [*]; done)))) ?_ (by (exact fun _ h => h))
            (try dsimp only)
            done
          · (try simp only [sB] at hg34)
            refine WL.s rfl rfl rfl ?_
            refine WL.s rfl rfl rfl ?_
            refine WL.r rfl rfl rfl (rd_pickf rfl rfl rfl) ?_
            refine WL.nil ?_
            refine WX.joinP (()) (sub_cons rfl (sub_cons rfl (sub_cons rfl (sub_cons rfl (sub_cons rfl (sub_nil _)))))) (by refine (sub_cons ?_ (sub_nil _)) <;> ((refine slot_b rfl ?_; (try dsimp only); (simp [*]; done)))) ?_ (by (exact fun _ h => h))
            (try dsimp only)
            done
        · rintro _ hmeet; (try dsimp only at hmeet ⊢)
          refine WC.cond rfl (fun hc37 => ?_) (fun hc37 => ?_)
          · (try simp only [sB] at hc37)
            have hr : dmZ x y = ((mkZ (x.1 != y.1) (addN (canon (val x.2 / val y.2)) [1]).1, canon (val y.2 - val x.2 % val y.2)), 0) := by rw [dmZ, if_pos hok, if_neg hy0, if_pos hc37]
            have hsb : subN y.2 (canon (val x.2 % val y.2)) = (canon (val y.2 - val x.2 % val y.2), 0) := by rw [subN_ok hok.2.1 (okN_can (by omega)) (by rw [val_canon]; omega), val_canon]
            refine WC.sr ?_
            refine WL.r rfl rfl rfl (rd_move rfl rfl) ?_
            refine WL.g rfl rfl rfl (og_call rfl rfl (by kernel_rfl) (keep_val fun w hS => rof_c (n := 1) (by omega))) ?_
            intro _
            refine WL.g rfl rfl rfl (og_call rfl rfl (by kernel_rfl) (keep_val fun w hS => radd_c (a := canon (val x.2 / val y.2)) (b := canon 1))) ?_
            intro _
            refine WL.r rfl rfl rfl (rd_move rfl rfl) ?_
            refine WL.r rfl rfl rfl (rd_extL rfl rfl rfl) ?_
            refine WL.r rfl rfl rfl (rd_extL rfl rfl rfl) ?_
            refine WL.r rfl rfl rfl (rd_assign rfl rfl) ?_
            refine WL.nt ?_
            refine WC.region ?_
            (refine WL.r rfl rfl rfl (rd_fa (q := 1) rfl rfl Tryz.underlying41 rfl (by kernel_rfl) rfl) ?_)
            (refine WL.r rfl rfl rfl (ld rfl rfl .tc Tryz.underlying22 rfl (by rfl)) ?_)
            refine WL.r rfl rfl rfl (rd_move rfl rfl) ?_
            refine WL.g rfl rfl rfl (og_call rfl rfl (by kernel_rfl) (keep_val fun w hS => (by have := rsub_c (w := w) (a := y.2) (b := canon (val x.2 % val y.2)); rw [hsb] at this; exact this))) ?_
            intro _
            refine WL.r rfl rfl rfl (rd_move rfl rfl) ?_
            refine WL.r rfl rfl rfl (rd_extL rfl rfl rfl) ?_
            refine WL.r rfl rfl rfl (rd_extL rfl rfl rfl) ?_
            refine WL.r rfl rfl rfl (rd_assign rfl rfl) ?_
            refine WL.nt ?_
            refine WC.sr ?_
            (refine WL.r rfl rfl rfl (rd_fa (q := 0) rfl rfl Tryz.underlying41 rfl (by kernel_rfl) rfl) ?_)
            (refine WL.r rfl rfl rfl (ld rfl rfl .tc Tryz.underlying4 rfl (by rfl)) ?_)
            (refine WL.r rfl rfl rfl (rd_fa (q := 0) rfl rfl Tryz.underlying41 rfl (by kernel_rfl) rfl) ?_)
            (refine WL.r rfl rfl rfl (ld rfl rfl .tc Tryz.underlying4 rfl (by rfl)) ?_)
            refine WL.r rfl rfl rfl (rd_bne rfl rfl rfl Tryz.underlying4) ?_
            refine WL.r rfl rfl rfl (rd_move rfl rfl) ?_
            refine WL.g rfl rfl rfl (og_call rfl rfl (by kernel_rfl) (keep_val fun w hS => rmake_c)) ?_
            intro _
            refine WL.r rfl rfl rfl (rd_move rfl rfl) ?_
            refine WL.g0 rfl rfl (sta rfl rfl rfl .tc ?_ ?_ ?_) ?_
            · kernel_rfl
            · simp [Value.oneCell']
            · rfl
            intro _
            refine WL.r rfl rfl rfl (rd_assign rfl rfl) ?_
            refine WL.r rfl rfl rfl (rd_assign rfl rfl) ?_
            refine WL.nt ?_
            refine WC.ret ?_
            exact WX.retN rfl (.agg rfl .tc Tryz.underlying41 rfl (by kernel_rfl) (.tmp rfl (.tmp rfl .nil))) fun w' hS => ⟨by rw [hr]; rfl, hS.below⟩
          · (try simp only [sB] at hc37)
            have hr : dmZ x y = ((mkZ (x.1 != y.1) (canon (val x.2 / val y.2)), canon (val x.2 % val y.2)), 0) := by rw [dmZ, if_pos hok, if_neg hy0, if_neg hc37]
            refine WC.skip ?_
            refine WX.then_normal ?_
            refine WC.sr ?_
            (refine WL.r rfl rfl rfl (rd_fa (q := 0) rfl rfl Tryz.underlying41 rfl (by kernel_rfl) rfl) ?_)
            (refine WL.r rfl rfl rfl (ld rfl rfl .tc Tryz.underlying4 rfl (by rfl)) ?_)
            (refine WL.r rfl rfl rfl (rd_fa (q := 0) rfl rfl Tryz.underlying41 rfl (by kernel_rfl) rfl) ?_)
            (refine WL.r rfl rfl rfl (ld rfl rfl .tc Tryz.underlying4 rfl (by rfl)) ?_)
            refine WL.r rfl rfl rfl (rd_bne rfl rfl rfl Tryz.underlying4) ?_
            refine WL.r rfl rfl rfl (rd_move rfl rfl) ?_
            refine WL.g rfl rfl rfl (og_call rfl rfl (by kernel_rfl) (keep_val fun w hS => rmake_c)) ?_
            intro _
            refine WL.r rfl rfl rfl (rd_move rfl rfl) ?_
            refine WL.g0 rfl rfl (sta rfl rfl rfl .tc ?_ ?_ ?_) ?_
            · kernel_rfl
            · simp [Value.oneCell']
            · rfl
            intro _
            refine WL.r rfl rfl rfl (rd_assign rfl rfl) ?_
            refine WL.r rfl rfl rfl (rd_assign rfl rfl) ?_
            refine WL.nt ?_
            refine WC.ret ?_
            exact WX.retN rfl (.agg rfl .tc Tryz.underlying41 rfl (by kernel_rfl) (.tmp rfl (.tmp rfl .nil))) fun w' hS => ⟨by rw [hr]; rfl, hS.below⟩
def modZ (x : Zs) (m : Bs) : Bs × Int := if okZ x ∧ okN m then ((dmZ x (fromZ m)).1.2, (dmZ x (fromZ m)).2) else ([], 3)
theorem rzmod_c {x : Zs} {m : Bs} {w : World} :
    Calls Tryz.prog 120 #[zV x, .string (S m)] w fun e w' => e = .returned (NE (modZ x m)) ∧ Below w.heap.size w w' := by
  refine enter (S := St (fun _ => True) w [] ([])) (L := [(0, zV x), (1, .string (S m))]) Tryz.func120 rfl Tryz.ntmps120 rfl (args_cons rfl (args_cons rfl (args_nil _))) (St.start (fun _ _ => trivial) facts_nil) ?_
  refine WC.sr ?_
  refine WL.g rfl rfl rfl (og_box rfl rfl (by (exact cells_agg _))) ?_
  intro b2
  refine WL.r rfl rfl rfl (rd_assign rfl rfl) ?_
  refine WL.r rfl rfl rfl (rd_assign rfl rfl) ?_
  refine WL.nt ?_
  refine WC.seq ?_
  refine WC.sr ?_
  refine WL.r rfl rfl rfl (lda rfl rfl .tc Tryz.underlying41 rfl ?_) ?_
  · kernel_rfl
  refine WL.g rfl rfl rfl (og_call rfl rfl (by kernel_rfl) (keep_val fun w hS => rzvalid_c (x := x))) ?_
  intro _
  refine WL.r rfl rfl rfl (rd_not rfl rfl) ?_
  refine WL.r rfl rfl rfl (rd_move rfl rfl) ?_
  refine WL.bool 12 rfl (fun hg12 => ?_) (fun hg12 => ?_)
  · (try simp only [sB] at hg12)
    refine WL.s rfl rfl rfl ?_
    refine WL.s rfl rfl rfl ?_
    refine WL.s rfl rfl rfl ?_
    refine WL.r rfl rfl rfl (rd_pickt rfl rfl rfl) ?_
    refine WL.nt ?_
    refine WC.cond rfl (fun _ => ?_) (fun h => by cases h)
    refine WC.sr ?_
    refine WL.r rfl rfl rfl (rd_assign rfl rfl) ?_
    refine WL.r rfl rfl rfl (rd_assign rfl rfl) ?_
    refine WL.nt ?_
    refine WC.ret ?_
    refine WX.then_ret ?_
    exact WX.retN rfl (.tmp rfl (.tmp rfl .nil)) fun w' hS => ⟨by rw [modZ, if_neg (by simp_all)]; rfl, hS.below⟩
  · (try simp only [sB] at hg12)
    refine WL.r rfl rfl rfl (rd_move rfl rfl) ?_
    refine WL.g rfl rfl rfl (og_call rfl rfl (by kernel_rfl) (keep_val fun w hS => rvalid_c (a := m))) ?_
    intro _
    refine WL.r rfl rfl rfl (rd_not rfl rfl) ?_
    refine WL.r rfl rfl rfl (rd_pickf rfl rfl rfl) ?_
    refine WL.nt ?_
    refine WC.cond rfl (fun hc16 => ?_) (fun hc16 => ?_)
    · (try simp only [sB] at hc16)
      refine WC.sr ?_
      refine WL.r rfl rfl rfl (rd_assign rfl rfl) ?_
      refine WL.r rfl rfl rfl (rd_assign rfl rfl) ?_
      refine WL.nt ?_
      refine WC.ret ?_
      refine WX.then_ret ?_
      exact WX.retN rfl (.tmp rfl (.tmp rfl .nil)) fun w' hS => ⟨by rw [modZ, if_neg (by simp_all)]; rfl, hS.below⟩
    · (try simp only [sB] at hc16)
      refine WC.skip ?_
      refine WX.then_normal ?_
      refine WC.seq ?_
      refine WC.free0 [1, 2, 0, 3, 4, 5, 8, 9, 6, 7, 10, 11] [] [0, 0, 1, 1, 0, 0, 0, 0, 3, 1, 0, 0] (by kernel_rfl) (by kernel_rfl) rfl ?_
      refine WJ.r rfl rfl rfl rfl rfl (rd_move rfl rfl) ?_
      refine WJ.gv rfl rfl rfl rfl rfl (fun ext => og_call rfl rfl (by kernel_rfl) (keep_val fun w hS => rfrom_c (a := m))) ?_
      refine WJ.r rfl rfl rfl rfl rfl (lda rfl rfl .tc Tryz.underlying41 rfl ?_) ?_
      · kernel_rfl
      refine WJ.gv rfl rfl rfl rfl rfl (fun ext => og_call rfl rfl (by kernel_rfl) (keep_val fun w hS => rzdm_c (x := x) (y := fromZ m))) ?_
      refine WJ.r rfl rfl rfl rfl rfl (rd_move rfl rfl) ?_
      refine WJ.r rfl rfl rfl rfl rfl (rd_extL rfl rfl rfl) ?_
      refine WJ.f rfl rfl rfl rfl rfl (fr_alloc rfl (v := (.agg #[.bool false, .string (S [])])) (cs := [.bool false, .string (S [])]) (by kernel_rfl) rfl) ?_
      intro b6
      refine WJ.st rfl rfl rfl rfl (staJ rfl rfl rfl ?_ ?_ ?_) ?_
      · kernel_rfl
      · simp [Value.oneCell']
      · rfl
      refine WJ.r rfl rfl rfl rfl rfl (rd_extL rfl rfl rfl) ?_
      refine WJ.r rfl rfl rfl rfl rfl (rd_extL rfl rfl rfl) ?_
      refine WJ.r rfl rfl rfl rfl rfl (rd_assign rfl rfl) ?_
      refine WJ.r rfl rfl rfl rfl rfl (rd_assign rfl rfl) ?_
      refine WJ.nil ?_
      refine WL.nt ?_
      refine WC.sr ?_
      refine WL.r rfl rfl rfl (rd_move rfl rfl) ?_
      refine WL.r rfl rfl rfl (rd_move rfl rfl) ?_
      refine WL.r rfl rfl rfl (rd_assign rfl rfl) ?_
      refine WL.r rfl rfl rfl (rd_assign rfl rfl) ?_
      refine WL.nt ?_
      refine WC.ret ?_
      exact WX.retN rfl (.tmp rfl (.tmp rfl .nil)) fun w' hS => ⟨by rw [modZ, if_pos (by simp_all)]; rfl, hS.below⟩
theorem divZ_dm (x y : Zs) : divZ x y = if (dmZ x y).2 ≠ 0 then ((false, []), (dmZ x y).2) else if (dmZ x y).1.2 ≠ [] then ((false, []), 1) else ((dmZ x y).1.1, 0) := by
  unfold divZ dmZ
  by_cases h : okZ x ∧ okZ y
  · rw [if_pos h, if_pos h]
    by_cases h0 : y.2 = []
    · rw [if_pos h0, if_pos h0]; rfl
    · rw [if_neg h0, if_neg h0]
      have hvy : 0 < val y.2 := Nat.pos_of_ne_zero fun e => h0 ((val_eq_zero h.2.1.2).1 e)
      have hmd := Nat.mod_lt (val x.2) hvy
      by_cases h1 : val x.2 % val y.2 = 0
      · rw [if_pos h1, if_neg (by simp [h1])]
        simp [h1, canon_zero]
      · rw [if_neg h1]
        by_cases h2 : x.1 = true
        · have h3 : canon (val y.2 - val x.2 % val y.2) ≠ [] := by rw [ne_eq, canon_nil]; omega
          simp [h1, h2, h3]
        · have h3 : canon (val x.2 % val y.2) ≠ [] := by rw [ne_eq, canon_nil]; exact h1
          simp [h1, h2, h3]
  · rw [if_neg h, if_neg h]; rfl
theorem rzdivide_c {x y : Zs} {w : World} :
    Calls Tryz.prog 31 #[zV x, zV y] w fun e w' => e = .returned (ZE (divZ x y)) ∧ Below w.heap.size w w' := by
  refine enter (S := St (fun _ => True) w [] ([])) (L := [(0, zV x), (1, zV y)]) Tryz.func31 rfl Tryz.ntmps31 rfl (args_cons rfl (args_cons rfl (args_nil _))) (St.start (fun _ _ => trivial) facts_nil) ?_
  refine WC.sr ?_
  refine WL.g rfl rfl rfl (og_box rfl rfl (by (exact cells_agg _))) ?_
  intro b2
  refine WL.g rfl rfl rfl (og_box rfl rfl (by (exact cells_agg _))) ?_
  intro b3
  refine WL.g rfl rfl rfl (og_alloc rfl (v := (.agg #[.bool false, .string (S [])])) (cs := [.bool false, .string (S [])]) (by kernel_rfl) rfl) ?_
  intro b4
  refine WL.r rfl rfl rfl (rd_assign rfl rfl) ?_
  refine WL.nt ?_
  refine WC.sr ?_
  refine WL.r rfl rfl rfl (lda rfl rfl .tc Tryz.underlying41 rfl ?_) ?_
  · kernel_rfl
  refine WL.r rfl rfl rfl (lda rfl rfl .tc Tryz.underlying41 rfl ?_) ?_
  · kernel_rfl
  refine WL.g rfl rfl rfl (og_call rfl rfl (by kernel_rfl) (keep_val fun w hS => rzdm_c (x := x) (y := y))) ?_
  intro _
  refine WL.r rfl rfl rfl (rd_move rfl rfl) ?_
  refine WL.r rfl rfl rfl (rd_extL rfl rfl rfl) ?_
  refine WL.r rfl rfl rfl (rd_extL rfl rfl rfl) ?_
  refine WL.r rfl rfl rfl (rd_extL rfl rfl rfl) ?_
  refine WL.g rfl rfl rfl (og_alloc rfl (v := (.agg #[.bool false, .string (S [])])) (cs := [.bool false, .string (S [])]) (by kernel_rfl) rfl) ?_
  intro b6
  refine WL.g0 rfl rfl (sta rfl rfl rfl .tc ?_ ?_ ?_) ?_
  · kernel_rfl
  · simp [Value.oneCell']
  · rfl
  intro _
  refine WL.r rfl rfl rfl (rd_assign rfl rfl) ?_
  refine WL.r rfl rfl rfl (rd_assign rfl rfl) ?_
  refine WL.nt ?_
  refine WC.seq ?_
  refine WC.sr ?_
  refine WL.r rfl rfl rfl (rd_move rfl rfl) ?_
  refine WL.r rfl rfl rfl (rd_neq rfl rfl rfl) ?_
  refine WL.nt ?_
  refine WC.cond rfl (fun hc17 => ?_) (fun hc17 => ?_)
  · (try simp only [sB] at hc17)
    refine WC.sr ?_
    refine WL.r rfl rfl rfl (rd_bld [[.bool false], [.string (S [])]] rfl rfl (by simp only [bld, fldv, Nat.beq, Value.cells, cond_true, cond_false, List.nil_append, List.cons_append, List.append_nil]; rfl) (fun w => by kernel_rfl)) ?_
    refine WL.r rfl rfl rfl (rd_move rfl rfl) ?_
    refine WL.g0 rfl rfl (sta rfl rfl rfl .tc ?_ ?_ ?_) ?_
    · kernel_rfl
    · simp [Value.oneCell']
    · rfl
    intro _
    refine WL.r rfl rfl rfl (rd_assign rfl rfl) ?_
    refine WL.nt ?_
    refine WC.ret ?_
    refine WX.then_ret ?_
    exact WX.retN rfl (.agg rfl .tc Tryz.underlying41 rfl (by kernel_rfl) (.tmp rfl .nil)) fun w' hS => ⟨by rw [divZ_dm, if_pos (by simpa using hc17)]; rfl, hS.below⟩
  · (try simp only [sB] at hc17)
    refine WC.skip ?_
    refine WX.then_normal ?_
    refine WC.seq ?_
    refine WC.sr ?_
    refine WL.r rfl rfl rfl (rd_move rfl rfl) ?_
    refine WL.r rfl rfl rfl (rd_sne rfl rfl rfl) ?_
    refine WL.nt ?_
    refine WC.cond rfl (fun hc21 => ?_) (fun hc21 => ?_)
    · (try simp only [sB] at hc21)
      refine WC.sr ?_
      refine WL.r rfl rfl rfl (rd_bld [[.bool false], [.string (S [])]] rfl rfl (by simp only [bld, fldv, Nat.beq, Value.cells, cond_true, cond_false, List.nil_append, List.cons_append, List.append_nil]; rfl) (fun w => by kernel_rfl)) ?_
      refine WL.g0 rfl rfl (sta rfl rfl rfl .tc ?_ ?_ ?_) ?_
      · kernel_rfl
      · simp [Value.oneCell']
      · rfl
      intro _
      refine WL.r rfl rfl rfl (rd_assign rfl rfl) ?_
      refine WL.nt ?_
      refine WC.ret ?_
      refine WX.then_ret ?_
      exact WX.retN rfl (.agg rfl .tc Tryz.underlying41 rfl (by kernel_rfl) (.tmp rfl .nil)) fun w' hS => ⟨by rw [divZ_dm, if_neg (by simpa using hc17), if_pos (by simpa using hc21)]; rfl, hS.below⟩
    · (try simp only [sB] at hc21)
      refine WC.skip ?_
      refine WX.then_normal ?_
      refine WC.sr ?_
      refine WL.r rfl rfl rfl (lda rfl rfl .tc Tryz.underlying41 rfl ?_) ?_
      · kernel_rfl
      refine WL.g0 rfl rfl (sta rfl rfl rfl .tc ?_ ?_ ?_) ?_
      · kernel_rfl
      · simp [Value.oneCell']
      · rfl
      intro _
      refine WL.r rfl rfl rfl (rd_assign rfl rfl) ?_
      refine WL.nt ?_
      refine WC.ret ?_
      exact WX.retN rfl (.agg rfl .tc Tryz.underlying41 rfl (by kernel_rfl) (.tmp rfl .nil)) fun w' hS => ⟨by rw [divZ_dm, if_neg (by simpa using hc17), if_neg (by simpa using hc21)]; rfl, hS.below⟩
end Go.Proofs.YtbcnnkcddilfjaaGreat
