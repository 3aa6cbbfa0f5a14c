/-
  integer and its reference: signs and magnitudes.
-/
import Derived.Test.YtbcnnkcddilfjaaGreatNtl2
namespace Go.Proofs.YtbcnnkcddilfjaaGreat
set_option linter.unusedSimpArgs false
set_option linter.unusedVariables false
set_option maxRecDepth 20000
set_option maxHeartbeats 600000
open Go.RowKit

/-- an integer: its sign and its magnitude -/
abbrev Zs := Bool × Bs
abbrev zV (x : Zs) : Value := .agg #[.bool x.1, .string (S x.2)]
def okZ (x : Zs) : Prop := okN x.2 ∧ ¬ (x.1 = true ∧ x.2 = [])
instance (x : Zs) : Decidable (okZ x) := inferInstanceAs (Decidable (_ ∧ _))
def mkZ (n : Bool) (a : Bs) : Zs := (n && !decide (a = []), a)
def negZ (x : Zs) : Zs := if okZ x then mkZ (!x.1) x.2 else (false, [])
def addZ (x y : Zs) : Zs × Int :=
  if okZ x ∧ okZ y then
    (if x.1 = y.1 then (mkZ x.1 (addN x.2 y.2).1, (addN x.2 y.2).2)
     else if val x.2 < val y.2 then (mkZ y.1 (canon (val y.2 - val x.2)), 0) else (mkZ x.1 (canon (val x.2 - val y.2)), 0))
  else ((false, []), 3)
def subZ (x y : Zs) : Zs × Int := if okZ x ∧ okZ y then addZ x (negZ y) else ((false, []), 3)
abbrev ZE (r : Zs × Int) : Value := .tuple #[zV r.1, .int .i64 r.2]
theorem made_c {n : Bool} {a : Bs} {w : World} :
    Calls Tryz.prog 40 #[.bool n, .string (S a)] w fun e w' => e = .returned (zV (mkZ n a)) ∧ Below w.heap.size w w' := by
  refine enter (S := St (fun _ => True) w [] ([])) (L := [(0, .bool n), (1, .string (S a))]) Tryz.func40 rfl Tryz.ntmps40 rfl (args_cons rfl (args_cons rfl (args_nil _))) (St.start (fun _ _ => trivial) facts_nil) ?_
  refine WC.sr ?_
  refine WL.g rfl rfl rfl (og_alloc rfl (v := (.agg #[.bool false, .string (S [])])) (cs := [.bool false, .string (S [])]) (by kernel_rfl) rfl) ?_
  intro b4
  refine WL.nt ?_
  refine WC.sr ?_
  refine WL.r rfl rfl rfl (rd_move rfl rfl) ?_
  refine WL.r rfl rfl rfl (rd_move rfl rfl) ?_
  refine WL.bool 6 rfl (fun hg6 => ?_) (fun hg6 => ?_)
  · (try simp only [sB] at hg6)
    refine WL.r rfl rfl rfl (rd_move rfl rfl) ?_
    refine WL.r rfl rfl rfl (rd_sne rfl rfl rfl) ?_
    refine WL.r rfl rfl rfl (rd_pickt rfl rfl rfl) ?_
    refine WL.r rfl rfl rfl (rd_move rfl rfl) ?_
    refine WL.r rfl rfl rfl (rd_bld [[.bool false], [.string (S [])]] rfl rfl (by simp only [bld, fldv, Nat.beq, Value.cells, cond_true, cond_false, List.nil_append, List.cons_append, List.append_nil]; rfl) (fun w => by kernel_rfl)) ?_
    refine WL.g0 rfl rfl (sta rfl rfl rfl .tc ?_ ?_ ?_) ?_
    · kernel_rfl
    · simp [Value.oneCell']
    · rfl
    intro _
    refine WL.nt ?_
    refine WC.ret ?_
    exact WX.retN rfl (.agg rfl .tc Tryz.underlying41 rfl (by kernel_rfl) .nil) fun w' hS => ⟨by (simp [*, tup, mkZ]; done), hS.below⟩
  · (try simp only [sB] at hg6)
    refine WL.s rfl rfl rfl ?_
    refine WL.s rfl rfl rfl ?_
    refine WL.r rfl rfl rfl (rd_pickf rfl rfl rfl) ?_
    refine WL.r rfl rfl rfl (rd_move rfl rfl) ?_
    refine WL.r rfl rfl rfl (rd_bld [[.bool false], [.string (S [])]] rfl rfl (by simp only [bld, fldv, Nat.beq, Value.cells, cond_true, cond_false, List.nil_append, List.cons_append, List.append_nil]; rfl) (fun w => by kernel_rfl)) ?_
    refine WL.g0 rfl rfl (sta rfl rfl rfl .tc ?_ ?_ ?_) ?_
    · kernel_rfl
    · simp [Value.oneCell']
    · rfl
    intro _
    refine WL.nt ?_
    refine WC.ret ?_
    exact WX.retN rfl (.agg rfl .tc Tryz.underlying41 rfl (by kernel_rfl) .nil) fun w' hS => ⟨by (simp [*, tup, mkZ]; done), hS.below⟩
theorem rmake_c {n : Bool} {a : Bs} {w : World} :
    Calls Tryz.prog 43 #[.bool n, .string (S a)] w fun e w' => e = .returned (zV (mkZ n a)) ∧ Below w.heap.size w w' := by
  refine enter (S := St (fun _ => True) w [] ([])) (L := [(0, .bool n), (1, .string (S a))]) Tryz.func43 rfl Tryz.ntmps43 rfl (args_cons rfl (args_cons rfl (args_nil _))) (St.start (fun _ _ => trivial) facts_nil) ?_
  refine WC.sr ?_
  refine WL.g rfl rfl rfl (og_alloc rfl (v := (.agg #[.bool false, .string (S [])])) (cs := [.bool false, .string (S [])]) (by kernel_rfl) rfl) ?_
  intro b4
  refine WL.nt ?_
  refine WC.sr ?_
  refine WL.r rfl rfl rfl (rd_move rfl rfl) ?_
  refine WL.r rfl rfl rfl (rd_move rfl rfl) ?_
  refine WL.bool 6 rfl (fun hg6 => ?_) (fun hg6 => ?_)
  · (try simp only [sB] at hg6)
    refine WL.r rfl rfl rfl (rd_move rfl rfl) ?_
    refine WL.r rfl rfl rfl (rd_sne rfl rfl rfl) ?_
    refine WL.r rfl rfl rfl (rd_pickt rfl rfl rfl) ?_
    refine WL.r rfl rfl rfl (rd_move rfl rfl) ?_
    refine WL.r rfl rfl rfl (rd_bld [[.bool false], [.string (S [])]] rfl rfl (by simp only [bld, fldv, Nat.beq, Value.cells, cond_true, cond_false, List.nil_append, List.cons_append, List.append_nil]; rfl) (fun w => by kernel_rfl)) ?_
    refine WL.g0 rfl rfl (sta rfl rfl rfl .tc ?_ ?_ ?_) ?_
    · kernel_rfl
    · simp [Value.oneCell']
    · rfl
    intro _
    refine WL.nt ?_
    refine WC.ret ?_
    exact WX.retN rfl (.agg rfl .tc Tryz.underlying41 rfl (by kernel_rfl) .nil) fun w' hS => ⟨by (simp [*, tup, mkZ]; done), hS.below⟩
  · (try simp only [sB] at hg6)
    refine WL.s rfl rfl rfl ?_
    refine WL.s rfl rfl rfl ?_
    refine WL.r rfl rfl rfl (rd_pickf rfl rfl rfl) ?_
    refine WL.r rfl rfl rfl (rd_move rfl rfl) ?_
    refine WL.r rfl rfl rfl (rd_bld [[.bool false], [.string (S [])]] rfl rfl (by simp only [bld, fldv, Nat.beq, Value.cells, cond_true, cond_false, List.nil_append, List.cons_append, List.append_nil]; rfl) (fun w => by kernel_rfl)) ?_
    refine WL.g0 rfl rfl (sta rfl rfl rfl .tc ?_ ?_ ?_) ?_
    · kernel_rfl
    · simp [Value.oneCell']
    · rfl
    intro _
    refine WL.nt ?_
    refine WC.ret ?_
    exact WX.retN rfl (.agg rfl .tc Tryz.underlying41 rfl (by kernel_rfl) .nil) fun w' hS => ⟨by (simp [*, tup, mkZ]; done), hS.below⟩
theorem zvalid_c {x : Zs} {w : World} :
    Calls Tryz.prog 21 #[zV x] w fun e w' => e = .returned (.bool (decide (okZ x))) ∧ Below w.heap.size w w' := by
  refine enter (S := St (fun _ => True) w [] ([])) (L := [(0, zV x)]) Tryz.func21 rfl Tryz.ntmps21 rfl (args_cons rfl (args_nil _)) (St.start (fun _ _ => trivial) facts_nil) ?_
  refine WC.sr ?_
  refine WL.g rfl rfl rfl (og_box rfl rfl (by (exact cells_agg _))) ?_
  intro b1
  refine WL.r rfl rfl rfl (rd_assign rfl rfl) ?_
  refine WL.nt ?_
  refine WC.sr ?_
  (refine WL.r rfl rfl rfl (rd_fa (q := 1) rfl rfl Tryz.underlying41 rfl (by kernel_rfl) rfl) ?_)
  (refine WL.r rfl rfl rfl (ld rfl rfl .tc Tryz.underlying22 rfl (by rfl)) ?_)
  refine WL.g rfl rfl rfl (og_call rfl rfl (by kernel_rfl) (keep_val fun w hS => valid_c (a := x.2))) ?_
  intro _
  refine WL.r rfl rfl rfl (rd_move rfl rfl) ?_
  refine WL.bool 6 rfl (fun hg6 => ?_) (fun hg6 => ?_)
  · (try simp only [sB] at hg6)
    (refine WL.r rfl rfl rfl (rd_fa (q := 0) rfl rfl Tryz.underlying41 rfl (by kernel_rfl) rfl) ?_)
    (refine WL.r rfl rfl rfl (ld rfl rfl .tc Tryz.underlying4 rfl (by rfl)) ?_)
    refine WL.r rfl rfl rfl (rd_move rfl rfl) ?_
    refine WL.bool 9 rfl (fun hg9 => ?_) (fun hg9 => ?_)
    · (try simp only [sB] at hg9)
      (refine WL.r rfl rfl rfl (rd_fa (q := 1) rfl rfl Tryz.underlying41 rfl (by kernel_rfl) rfl) ?_)
      (refine WL.r rfl rfl rfl (ld rfl rfl .tc Tryz.underlying22 rfl (by rfl)) ?_)
      refine WL.r rfl rfl rfl (rd_seq rfl rfl rfl) ?_
      refine WL.r rfl rfl rfl (rd_pickt rfl rfl rfl) ?_
      refine WL.r rfl rfl rfl (rd_not rfl rfl) ?_
      refine WL.r rfl rfl rfl (rd_pickt rfl rfl rfl) ?_
      refine WL.r rfl rfl rfl (rd_assign rfl rfl) ?_
      refine WL.nt ?_
      refine WC.ret ?_
      exact WX.retN rfl (.tmp rfl .nil) fun w' hS => ⟨by (simp [*, tup, okZ]; done), hS.below⟩
    · (try simp only [sB] at hg9)
      refine WL.s rfl rfl rfl ?_
      refine WL.s rfl rfl rfl ?_
      refine WL.s rfl rfl rfl ?_
      refine WL.r rfl rfl rfl (rd_pickf rfl rfl rfl) ?_
      refine WL.r rfl rfl rfl (rd_not rfl rfl) ?_
      refine WL.r rfl rfl rfl (rd_pickt rfl rfl rfl) ?_
      refine WL.r rfl rfl rfl (rd_assign rfl rfl) ?_
      refine WL.nt ?_
      refine WC.ret ?_
      exact WX.retN rfl (.tmp rfl .nil) fun w' hS => ⟨by (simp [*, tup, okZ]; done), hS.below⟩
  · (try simp only [sB] at hg6)
    refine WL.s rfl rfl rfl ?_
    refine WL.s rfl rfl rfl ?_
    refine WL.s rfl rfl rfl ?_
    refine WL.s rfl rfl rfl ?_
    refine WL.s rfl rfl rfl ?_
    refine WL.s rfl rfl rfl ?_
    refine WL.s rfl rfl rfl ?_
    refine WL.s rfl rfl rfl ?_
    refine WL.r rfl rfl rfl (rd_pickf rfl rfl rfl) ?_
    refine WL.r rfl rfl rfl (rd_assign rfl rfl) ?_
    refine WL.nt ?_
    refine WC.ret ?_
    exact WX.retN rfl (.tmp rfl .nil) fun w' hS => ⟨by (simp [*, tup, okZ]; done), hS.below⟩
theorem rzvalid_c {x : Zs} {w : World} :
    Calls Tryz.prog 28 #[zV x] w fun e w' => e = .returned (.bool (decide (okZ x))) ∧ Below w.heap.size w w' := by
  refine enter (S := St (fun _ => True) w [] ([])) (L := [(0, zV x)]) Tryz.func28 rfl Tryz.ntmps28 rfl (args_cons rfl (args_nil _)) (St.start (fun _ _ => trivial) facts_nil) ?_
  refine WC.sr ?_
  refine WL.g rfl rfl rfl (og_box rfl rfl (by (exact cells_agg _))) ?_
  intro b1
  refine WL.r rfl rfl rfl (rd_assign rfl rfl) ?_
  refine WL.nt ?_
  refine WC.sr ?_
  (refine WL.r rfl rfl rfl (rd_fa (q := 1) rfl rfl Tryz.underlying41 rfl (by kernel_rfl) rfl) ?_)
  (refine WL.r rfl rfl rfl (ld rfl rfl .tc Tryz.underlying22 rfl (by rfl)) ?_)
  refine WL.g rfl rfl rfl (og_call rfl rfl (by kernel_rfl) (keep_val fun w hS => rvalid_c (a := x.2))) ?_
  intro _
  refine WL.r rfl rfl rfl (rd_move rfl rfl) ?_
  refine WL.bool 6 rfl (fun hg6 => ?_) (fun hg6 => ?_)
  · (try simp only [sB] at hg6)
    (refine WL.r rfl rfl rfl (rd_fa (q := 0) rfl rfl Tryz.underlying41 rfl (by kernel_rfl) rfl) ?_)
    (refine WL.r rfl rfl rfl (ld rfl rfl .tc Tryz.underlying4 rfl (by rfl)) ?_)
    refine WL.r rfl rfl rfl (rd_move rfl rfl) ?_
    refine WL.bool 9 rfl (fun hg9 => ?_) (fun hg9 => ?_)
    · (try simp only [sB] at hg9)
      (refine WL.r rfl rfl rfl (rd_fa (q := 1) rfl rfl Tryz.underlying41 rfl (by kernel_rfl) rfl) ?_)
      (refine WL.r rfl rfl rfl (ld rfl rfl .tc Tryz.underlying22 rfl (by rfl)) ?_)
      refine WL.r rfl rfl rfl (rd_seq rfl rfl rfl) ?_
      refine WL.r rfl rfl rfl (rd_pickt rfl rfl rfl) ?_
      refine WL.r rfl rfl rfl (rd_not rfl rfl) ?_
      refine WL.r rfl rfl rfl (rd_pickt rfl rfl rfl) ?_
      refine WL.r rfl rfl rfl (rd_assign rfl rfl) ?_
      refine WL.nt ?_
      refine WC.ret ?_
      exact WX.retN rfl (.tmp rfl .nil) fun w' hS => ⟨by (simp [*, tup, okZ]; done), hS.below⟩
    · (try simp only [sB] at hg9)
      refine WL.s rfl rfl rfl ?_
      refine WL.s rfl rfl rfl ?_
      refine WL.s rfl rfl rfl ?_
      refine WL.r rfl rfl rfl (rd_pickf rfl rfl rfl) ?_
      refine WL.r rfl rfl rfl (rd_not rfl rfl) ?_
      refine WL.r rfl rfl rfl (rd_pickt rfl rfl rfl) ?_
      refine WL.r rfl rfl rfl (rd_assign rfl rfl) ?_
      refine WL.nt ?_
      refine WC.ret ?_
      exact WX.retN rfl (.tmp rfl .nil) fun w' hS => ⟨by (simp [*, tup, okZ]; done), hS.below⟩
  · (try simp only [sB] at hg6)
    refine WL.s rfl rfl rfl ?_
    refine WL.s rfl rfl rfl ?_
    refine WL.s rfl rfl rfl ?_
    refine WL.s rfl rfl rfl ?_
    refine WL.s rfl rfl rfl ?_
    refine WL.s rfl rfl rfl ?_
    refine WL.s rfl rfl rfl ?_
    refine WL.s rfl rfl rfl ?_
    refine WL.r rfl rfl rfl (rd_pickf rfl rfl rfl) ?_
    refine WL.r rfl rfl rfl (rd_assign rfl rfl) ?_
    refine WL.nt ?_
    refine WC.ret ?_
    exact WX.retN rfl (.tmp rfl .nil) fun w' hS => ⟨by (simp [*, tup, okZ]; done), hS.below⟩
theorem both_c {x y : Zs} {w : World} :
    Calls Tryz.prog 49 #[zV x, zV y] w fun e w' => e = .returned (.bool (decide (okZ x ∧ okZ y))) ∧ Below w.heap.size w w' := by
  refine enter (S := St (fun _ => True) w [] ([])) (L := [(0, zV x), (1, zV y)]) Tryz.func49 rfl Tryz.ntmps49 rfl (args_cons rfl (args_cons rfl (args_nil _))) (St.start (fun _ _ => trivial) facts_nil) ?_
  refine WC.sr ?_
  refine WL.g rfl rfl rfl (og_box rfl rfl (by (exact cells_agg _))) ?_
  intro b2
  refine WL.g rfl rfl rfl (og_box rfl rfl (by (exact cells_agg _))) ?_
  intro b3
  refine WL.r rfl rfl rfl (rd_assign rfl rfl) ?_
  refine WL.nt ?_
  refine WC.sr ?_
  refine WL.r rfl rfl rfl (lda rfl rfl .tc Tryz.underlying41 rfl ?_) ?_
  · kernel_rfl
  refine WL.g rfl rfl rfl (og_call rfl rfl (by kernel_rfl) (keep_val fun w hS => zvalid_c (x := x))) ?_
  intro _
  refine WL.r rfl rfl rfl (rd_move rfl rfl) ?_
  refine WL.bool 7 rfl (fun hg7 => ?_) (fun hg7 => ?_)
  · (try simp only [sB] at hg7)
    refine WL.r rfl rfl rfl (lda rfl rfl .tc Tryz.underlying41 rfl ?_) ?_
    · kernel_rfl
    refine WL.g rfl rfl rfl (og_call rfl rfl (by kernel_rfl) (keep_val fun w hS => zvalid_c (x := y))) ?_
    intro _
    refine WL.r rfl rfl rfl (rd_pickt rfl rfl rfl) ?_
    refine WL.r rfl rfl rfl (rd_assign rfl rfl) ?_
    refine WL.nt ?_
    refine WC.ret ?_
    exact WX.retN rfl (.tmp rfl .nil) fun w' hS => ⟨by (simp [*, tup]; done), hS.below⟩
  · (try simp only [sB] at hg7)
    refine WL.s rfl rfl rfl ?_
    refine WL.s rfl rfl rfl ?_
    refine WL.r rfl rfl rfl (rd_pickf rfl rfl rfl) ?_
    refine WL.r rfl rfl rfl (rd_assign rfl rfl) ?_
    refine WL.nt ?_
    refine WC.ret ?_
    exact WX.retN rfl (.tmp rfl .nil) fun w' hS => ⟨by (simp [*, tup]; done), hS.below⟩
theorem zneg_c {x : Zs} {w : World} :
    Calls Tryz.prog 27 #[zV x] w fun e w' => e = .returned (zV (negZ x)) ∧ Below w.heap.size w w' := by
  refine enter (S := St (fun _ => True) w [] ([])) (L := [(0, zV x)]) Tryz.func27 rfl Tryz.ntmps27 rfl (args_cons rfl (args_nil _)) (St.start (fun _ _ => trivial) facts_nil) ?_
  refine WC.sr ?_
  refine WL.g rfl rfl rfl (og_box rfl rfl (by (exact cells_agg _))) ?_
  intro b1
  refine WL.g rfl rfl rfl (og_alloc rfl (v := (.agg #[.bool false, .string (S [])])) (cs := [.bool false, .string (S [])]) (by kernel_rfl) rfl) ?_
  intro b2
  refine WL.nt ?_
  refine WC.seq ?_
  refine WC.sr ?_
  refine WL.r rfl rfl rfl (lda rfl rfl .tc Tryz.underlying41 rfl ?_) ?_
  · kernel_rfl
  refine WL.g rfl rfl rfl (og_call rfl rfl (by kernel_rfl) (keep_val fun w hS => zvalid_c (x := x))) ?_
  intro _
  refine WL.r rfl rfl rfl (rd_not rfl rfl) ?_
  refine WL.nt ?_
  refine WC.cond rfl (fun hc5 => ?_) (fun hc5 => ?_)
  · (try simp only [sB] at hc5)
    have hr : negZ x = (false, []) := by rw [negZ, if_neg (by simpa using hc5)]
    refine WC.sr ?_
    refine WL.r rfl rfl rfl (rd_bld [[.bool false], [.string (S [])]] rfl rfl (by simp only [bld, fldv, Nat.beq, Value.cells, cond_true, cond_false, List.nil_append, List.cons_append, List.append_nil]; rfl) (fun w => by kernel_rfl)) ?_
    refine WL.g0 rfl rfl (sta rfl rfl rfl .tc ?_ ?_ ?_) ?_
    · kernel_rfl
    · simp [Value.oneCell']
    · rfl
    intro _
    refine WL.nt ?_
    refine WC.ret ?_
    refine WX.then_ret ?_
    exact WX.retN rfl (.agg rfl .tc Tryz.underlying41 rfl (by kernel_rfl) .nil) fun w' hS => ⟨by rw [hr]; rfl, hS.below⟩
  · (try simp only [sB] at hc5)
    have hr : negZ x = mkZ (!x.1) x.2 := by rw [negZ, if_pos (by simpa using hc5)]
    refine WC.skip ?_
    refine WX.then_normal ?_
    refine WC.sr ?_
    (refine WL.r rfl rfl rfl (rd_fa (q := 0) rfl rfl Tryz.underlying41 rfl (by kernel_rfl) rfl) ?_)
    (refine WL.r rfl rfl rfl (ld rfl rfl .tc Tryz.underlying4 rfl (by rfl)) ?_)
    refine WL.r rfl rfl rfl (rd_not rfl rfl) ?_
    (refine WL.r rfl rfl rfl (rd_fa (q := 1) rfl rfl Tryz.underlying41 rfl (by kernel_rfl) rfl) ?_)
    (refine WL.r rfl rfl rfl (ld rfl rfl .tc Tryz.underlying22 rfl (by rfl)) ?_)
    refine WL.g rfl rfl rfl (og_call rfl rfl (by kernel_rfl) (keep_val fun w hS => made_c (n := !x.1) (a := x.2))) ?_
    intro _
    refine WL.g0 rfl rfl (sta rfl rfl rfl .tc ?_ ?_ ?_) ?_
    · kernel_rfl
    · simp [Value.oneCell']
    · rfl
    intro _
    refine WL.nt ?_
    refine WC.ret ?_
    exact WX.retN rfl (.agg rfl .tc Tryz.underlying41 rfl (by kernel_rfl) .nil) fun w' hS => ⟨by rw [hr]; rfl, hS.below⟩
theorem rzneg_c {x : Zs} {w : World} :
    Calls Tryz.prog 34 #[zV x] w fun e w' => e = .returned (zV (negZ x)) ∧ Below w.heap.size w w' := by
  refine enter (S := St (fun _ => True) w [] ([])) (L := [(0, zV x)]) Tryz.func34 rfl Tryz.ntmps34 rfl (args_cons rfl (args_nil _)) (St.start (fun _ _ => trivial) facts_nil) ?_
  refine WC.sr ?_
  refine WL.g rfl rfl rfl (og_box rfl rfl (by (exact cells_agg _))) ?_
  intro b1
  refine WL.g rfl rfl rfl (og_alloc rfl (v := (.agg #[.bool false, .string (S [])])) (cs := [.bool false, .string (S [])]) (by kernel_rfl) rfl) ?_
  intro b2
  refine WL.nt ?_
  refine WC.seq ?_
  refine WC.sr ?_
  refine WL.r rfl rfl rfl (lda rfl rfl .tc Tryz.underlying41 rfl ?_) ?_
  · kernel_rfl
  refine WL.g rfl rfl rfl (og_call rfl rfl (by kernel_rfl) (keep_val fun w hS => rzvalid_c (x := x))) ?_
  intro _
  refine WL.r rfl rfl rfl (rd_not rfl rfl) ?_
  refine WL.nt ?_
  refine WC.cond rfl (fun hc5 => ?_) (fun hc5 => ?_)
  · (try simp only [sB] at hc5)
    have hr : negZ x = (false, []) := by rw [negZ, if_neg (by simpa using hc5)]
    refine WC.sr ?_
    refine WL.r rfl rfl rfl (rd_bld [[.bool false], [.string (S [])]] rfl rfl (by simp only [bld, fldv, Nat.beq, Value.cells, cond_true, cond_false, List.nil_append, List.cons_append, List.append_nil]; rfl) (fun w => by kernel_rfl)) ?_
    refine WL.g0 rfl rfl (sta rfl rfl rfl .tc ?_ ?_ ?_) ?_
    · kernel_rfl
    · simp [Value.oneCell']
    · rfl
    intro _
    refine WL.nt ?_
    refine WC.ret ?_
    refine WX.then_ret ?_
    exact WX.retN rfl (.agg rfl .tc Tryz.underlying41 rfl (by kernel_rfl) .nil) fun w' hS => ⟨by rw [hr]; rfl, hS.below⟩
  · (try simp only [sB] at hc5)
    have hr : negZ x = mkZ (!x.1) x.2 := by rw [negZ, if_pos (by simpa using hc5)]
    refine WC.skip ?_
    refine WX.then_normal ?_
    refine WC.sr ?_
    (refine WL.r rfl rfl rfl (rd_fa (q := 0) rfl rfl Tryz.underlying41 rfl (by kernel_rfl) rfl) ?_)
    (refine WL.r rfl rfl rfl (ld rfl rfl .tc Tryz.underlying4 rfl (by rfl)) ?_)
    refine WL.r rfl rfl rfl (rd_not rfl rfl) ?_
    (refine WL.r rfl rfl rfl (rd_fa (q := 1) rfl rfl Tryz.underlying41 rfl (by kernel_rfl) rfl) ?_)
    (refine WL.r rfl rfl rfl (ld rfl rfl .tc Tryz.underlying22 rfl (by rfl)) ?_)
    refine WL.g rfl rfl rfl (og_call rfl rfl (by kernel_rfl) (keep_val fun w hS => rmake_c (n := !x.1) (a := x.2))) ?_
    intro _
    refine WL.g0 rfl rfl (sta rfl rfl rfl .tc ?_ ?_ ?_) ?_
    · kernel_rfl
    · simp [Value.oneCell']
    · rfl
    intro _
    refine WL.nt ?_
    refine WC.ret ?_
    exact WX.retN rfl (.agg rfl .tc Tryz.underlying41 rfl (by kernel_rfl) .nil) fun w' hS => ⟨by rw [hr]; rfl, hS.below⟩
theorem subN_ok {a b : Bs} (ha : okN a) (hb : okN b) (h : val b ≤ val a) : subN a b = (canon (val a - val b), 0) := by rw [subN, if_pos ⟨ha, hb⟩, if_neg (by omega)]
theorem cmpN_ok {a b : Bs} (ha : okN a) (hb : okN b) : cmpN a b = cmpI (val a) (val b) := by rw [cmpN, if_pos ⟨ha, hb⟩]
theorem zadd_c {x y : Zs} {w : World} :
    Calls Tryz.prog 99 #[zV x, zV y] w fun e w' => e = .returned (ZE (addZ x y)) ∧ Below w.heap.size w w' := by
  refine enter (S := St (fun _ => True) w [] ([])) (L := [(0, zV x), (1, zV y)]) Tryz.func99 rfl Tryz.ntmps99 rfl (args_cons rfl (args_cons rfl (args_nil _))) (St.start (fun _ _ => trivial) facts_nil) ?_
  refine WC.sr ?_
  refine WL.g rfl rfl rfl (og_box rfl rfl (by (exact cells_agg _))) ?_
  intro b2
  refine WL.g rfl rfl rfl (og_box rfl rfl (by (exact cells_agg _))) ?_
  intro b3
  refine WL.g rfl rfl rfl (og_alloc rfl (v := (.agg #[.bool false, .string (S [])])) (cs := [.bool false, .string (S [])]) (by kernel_rfl) rfl) ?_
  intro b4
  refine WL.r rfl rfl rfl (rd_assign rfl rfl) ?_
  refine WL.nt ?_
  refine WC.seq ?_
  refine WC.sr ?_
  refine WL.r rfl rfl rfl (lda rfl rfl .tc Tryz.underlying41 rfl ?_) ?_
  · kernel_rfl
  refine WL.r rfl rfl rfl (lda rfl rfl .tc Tryz.underlying41 rfl ?_) ?_
  · kernel_rfl
  refine WL.g rfl rfl rfl (og_call rfl rfl (by kernel_rfl) (keep_val fun w hS => both_c (x := x) (y := y))) ?_
  intro _
  refine WL.r rfl rfl rfl (rd_not rfl rfl) ?_
  refine WL.nt ?_
  refine WC.cond rfl (fun hc13 => ?_) (fun hc13 => ?_)
  · (try simp only [sB] at hc13)
    have hr : addZ x y = ((false, []), 3) := by rw [addZ, if_neg (by simpa using hc13)]
    refine WC.sr ?_
    refine WL.r rfl rfl rfl (rd_bld [[.bool false], [.string (S [])]] rfl rfl (by simp only [bld, fldv, Nat.beq, Value.cells, cond_true, cond_false, List.nil_append, List.cons_append, List.append_nil]; rfl) (fun w => by kernel_rfl)) ?_
    refine WL.g0 rfl rfl (sta rfl rfl rfl .tc ?_ ?_ ?_) ?_
    · kernel_rfl
    · simp [Value.oneCell']
    · rfl
    intro _
    refine WL.r rfl rfl rfl (rd_assign rfl rfl) ?_
    refine WL.nt ?_
    refine WC.ret ?_
    refine WX.then_ret ?_
    exact WX.retN rfl (.agg rfl .tc Tryz.underlying41 rfl (by kernel_rfl) (.tmp rfl .nil)) fun w' hS => ⟨by rw [hr]; rfl, hS.below⟩
  · (try simp only [sB] at hc13)
    have hok : okZ x ∧ okZ y := by simpa using hc13
    have ho1 := hok.1.1; have ho2 := hok.2.1
    refine WC.skip ?_
    refine WX.then_normal ?_
    refine WC.seq ?_
    refine WC.sr ?_
    (refine WL.r rfl rfl rfl (rd_fa (q := 0) rfl rfl Tryz.underlying41 rfl (by kernel_rfl) rfl) ?_)
    (refine WL.r rfl rfl rfl (ld rfl rfl .tc Tryz.underlying4 rfl (by rfl)) ?_)
    (refine WL.r rfl rfl rfl (rd_fa (q := 0) rfl rfl Tryz.underlying41 rfl (by kernel_rfl) rfl) ?_)
    (refine WL.r rfl rfl rfl (ld rfl rfl .tc Tryz.underlying4 rfl (by rfl)) ?_)
    refine WL.r rfl rfl rfl (rd_beq rfl rfl rfl Tryz.underlying4) ?_
    refine WL.nt ?_
    refine WC.cond rfl (fun hc19 => ?_) (fun hc19 => ?_)
    · (try simp only [sB] at hc19)
      have hs : x.1 = y.1 := by simpa using hc19
      have hr : addZ x y = (mkZ x.1 (addN x.2 y.2).1, (addN x.2 y.2).2) := by rw [addZ, if_pos hok, if_pos hs]
      refine WC.sr ?_
      (refine WL.r rfl rfl rfl (rd_fa (q := 1) rfl rfl Tryz.underlying41 rfl (by kernel_rfl) rfl) ?_)
      (refine WL.r rfl rfl rfl (ld rfl rfl .tc Tryz.underlying22 rfl (by rfl)) ?_)
      (refine WL.r rfl rfl rfl (rd_fa (q := 1) rfl rfl Tryz.underlying41 rfl (by kernel_rfl) rfl) ?_)
      (refine WL.r rfl rfl rfl (ld rfl rfl .tc Tryz.underlying22 rfl (by rfl)) ?_)
      refine WL.g rfl rfl rfl (og_call rfl rfl (by kernel_rfl) (keep_val fun w hS => add_c (a := x.2) (b := y.2))) ?_
      intro _
      refine WL.r rfl rfl rfl (rd_move rfl rfl) ?_
      refine WL.r rfl rfl rfl (rd_extL rfl rfl rfl) ?_
      refine WL.r rfl rfl rfl (rd_extL rfl rfl rfl) ?_
      refine WL.r rfl rfl rfl (rd_assign rfl rfl) ?_
      refine WL.r rfl rfl rfl (rd_assign rfl rfl) ?_
      refine WL.nt ?_
      refine WC.sr ?_
      (refine WL.r rfl rfl rfl (rd_fa (q := 0) rfl rfl Tryz.underlying41 rfl (by kernel_rfl) rfl) ?_)
      (refine WL.r rfl rfl rfl (ld rfl rfl .tc Tryz.underlying4 rfl (by rfl)) ?_)
      refine WL.r rfl rfl rfl (rd_move rfl rfl) ?_
      refine WL.g rfl rfl rfl (og_call rfl rfl (by kernel_rfl) (keep_val fun w hS => made_c (n := x.1) (a := (addN x.2 y.2).1))) ?_
      intro _
      refine WL.r rfl rfl rfl (rd_move rfl rfl) ?_
      refine WL.g0 rfl rfl (sta rfl rfl rfl .tc ?_ ?_ ?_) ?_
      · kernel_rfl
      · simp [Value.oneCell']
      · rfl
      intro _
      refine WL.r rfl rfl rfl (rd_assign rfl rfl) ?_
      refine WL.nt ?_
      refine WC.ret ?_
      refine WX.then_ret ?_
      exact WX.retN rfl (.agg rfl .tc Tryz.underlying41 rfl (by kernel_rfl) (.tmp rfl .nil)) fun w' hS => ⟨by rw [hr]; rfl, hS.below⟩
    · (try simp only [sB] at hc19)
      have hs : ¬ x.1 = y.1 := by simpa using hc19
      refine WC.skip ?_
      refine WX.then_normal ?_
      refine WC.seq ?_
      refine WC.sr ?_
      (refine WL.r rfl rfl rfl (rd_fa (q := 1) rfl rfl Tryz.underlying41 rfl (by kernel_rfl) rfl) ?_)
      (refine WL.r rfl rfl rfl (ld rfl rfl .tc Tryz.underlying22 rfl (by rfl)) ?_)
      (refine WL.r rfl rfl rfl (rd_fa (q := 1) rfl rfl Tryz.underlying41 rfl (by kernel_rfl) rfl) ?_)
      (refine WL.r rfl rfl rfl (ld rfl rfl .tc Tryz.underlying22 rfl (by rfl)) ?_)
      refine WL.g rfl rfl rfl (og_call rfl rfl (by kernel_rfl) (keep_val fun w hS => Cmp_c (a := x.2) (b := y.2))) ?_
      intro _
      refine WL.r rfl rfl rfl (rd_lss rfl rfl rfl) ?_
      refine WL.nt ?_
      refine WC.cond rfl (fun hc38 => ?_) (fun hc38 => ?_)
      · (try simp only [sB] at hc38)
        rw [cmpN_ok ho1 ho2, cmpI_neg] at hc38
        have hr : addZ x y = (mkZ y.1 (canon (val y.2 - val x.2)), 0) := by rw [addZ, if_pos hok, if_neg hs, if_pos hc38]
        refine WC.region ?_
        refine WL.r rfl rfl rfl (lda rfl rfl .tc Tryz.underlying41 rfl ?_) ?_
        · kernel_rfl
        refine WL.r rfl rfl rfl (lda rfl rfl .tc Tryz.underlying41 rfl ?_) ?_
        · kernel_rfl
        refine WL.g0 rfl rfl (sta rfl rfl rfl .tc ?_ ?_ ?_) ?_
        · kernel_rfl
        · simp [Value.oneCell']
        · rfl
        intro _
        refine WL.g0 rfl rfl (sta rfl rfl rfl .tc ?_ ?_ ?_) ?_
        · kernel_rfl
        · simp [Value.oneCell']
        · rfl
        intro _
        refine WL.nt ?_
        refine WC.sr ?_
        (refine WL.r rfl rfl rfl (rd_fa (q := 1) rfl rfl Tryz.underlying41 rfl (by kernel_rfl) rfl) ?_)
        (refine WL.r rfl rfl rfl (ld rfl rfl .tc Tryz.underlying22 rfl (by rfl)) ?_)
        (refine WL.r rfl rfl rfl (rd_fa (q := 1) rfl rfl Tryz.underlying41 rfl (by kernel_rfl) rfl) ?_)
        (refine WL.r rfl rfl rfl (ld rfl rfl .tc Tryz.underlying22 rfl (by rfl)) ?_)
        refine WL.g rfl rfl rfl (og_call rfl rfl (by kernel_rfl) (keep_val fun w hS => sub_c)) ?_
        intro _
        refine WL.r rfl rfl rfl (rd_move rfl rfl) ?_
        refine WL.r rfl rfl rfl (rd_extL rfl rfl rfl) ?_
        refine WL.r rfl rfl rfl (rd_extL rfl rfl rfl) ?_
        refine WL.r rfl rfl rfl (rd_assign rfl rfl) ?_
        refine WL.r rfl rfl rfl (rd_assign rfl rfl) ?_
        refine WL.nt ?_
        refine WC.sr ?_
        (refine WL.r rfl rfl rfl (rd_fa (q := 0) rfl rfl Tryz.underlying41 rfl (by kernel_rfl) rfl) ?_)
        (refine WL.r rfl rfl rfl (ld rfl rfl .tc Tryz.underlying4 rfl (by rfl)) ?_)
        refine WL.r rfl rfl rfl (rd_move rfl rfl) ?_
        refine WL.g rfl rfl rfl (og_call rfl rfl (by kernel_rfl) (keep_val fun w hS => made_c)) ?_
        intro _
        refine WL.r rfl rfl rfl (rd_move rfl rfl) ?_
        refine WL.g0 rfl rfl (sta rfl rfl rfl .tc ?_ ?_ ?_) ?_
        · kernel_rfl
        · simp [Value.oneCell']
        · rfl
        intro _
        refine WL.r rfl rfl rfl (rd_assign rfl rfl) ?_
        refine WL.nt ?_
        refine WC.ret ?_
        exact WX.retN rfl (.agg rfl .tc Tryz.underlying41 rfl (by kernel_rfl) (.tmp rfl .nil)) fun w' hS => ⟨by rw [hr]; (rw [subN_ok ho2 ho1 (by omega)]; rfl), hS.below⟩
      · (try simp only [sB] at hc38)
        have hge : val y.2 ≤ val x.2 := Nat.not_lt.1 fun h => by rw [cmpN_ok ho1 ho2] at hc38; have := (cmpI_neg _ _).2 h; omega
        have hr : addZ x y = (mkZ x.1 (canon (val x.2 - val y.2)), 0) := by rw [addZ, if_pos hok, if_neg hs, if_neg (by omega)]
        refine WC.skip ?_
        refine WX.then_normal ?_
        refine WC.sr ?_
        (refine WL.r rfl rfl rfl (rd_fa (q := 1) rfl rfl Tryz.underlying41 rfl (by kernel_rfl) rfl) ?_)
        (refine WL.r rfl rfl rfl (ld rfl rfl .tc Tryz.underlying22 rfl (by rfl)) ?_)
        (refine WL.r rfl rfl rfl (rd_fa (q := 1) rfl rfl Tryz.underlying41 rfl (by kernel_rfl) rfl) ?_)
        (refine WL.r rfl rfl rfl (ld rfl rfl .tc Tryz.underlying22 rfl (by rfl)) ?_)
        refine WL.g rfl rfl rfl (og_call rfl rfl (by kernel_rfl) (keep_val fun w hS => sub_c)) ?_
        intro _
        refine WL.r rfl rfl rfl (rd_move rfl rfl) ?_
        refine WL.r rfl rfl rfl (rd_extL rfl rfl rfl) ?_
        refine WL.r rfl rfl rfl (rd_extL rfl rfl rfl) ?_
        refine WL.r rfl rfl rfl (rd_assign rfl rfl) ?_
        refine WL.r rfl rfl rfl (rd_assign rfl rfl) ?_
        refine WL.nt ?_
        refine WC.sr ?_
        (refine WL.r rfl rfl rfl (rd_fa (q := 0) rfl rfl Tryz.underlying41 rfl (by kernel_rfl) rfl) ?_)
        (refine WL.r rfl rfl rfl (ld rfl rfl .tc Tryz.underlying4 rfl (by rfl)) ?_)
        refine WL.r rfl rfl rfl (rd_move rfl rfl) ?_
        refine WL.g rfl rfl rfl (og_call rfl rfl (by kernel_rfl) (keep_val fun w hS => made_c)) ?_
        intro _
        refine WL.r rfl rfl rfl (rd_move rfl rfl) ?_
        refine WL.g0 rfl rfl (sta rfl rfl rfl .tc ?_ ?_ ?_) ?_
        · kernel_rfl
        · simp [Value.oneCell']
        · rfl
        intro _
        refine WL.r rfl rfl rfl (rd_assign rfl rfl) ?_
        refine WL.nt ?_
        refine WC.ret ?_
        exact WX.retN rfl (.agg rfl .tc Tryz.underlying41 rfl (by kernel_rfl) (.tmp rfl .nil)) fun w' hS => ⟨by rw [hr]; (rw [subN_ok ho1 ho2 hge]; rfl), hS.below⟩
theorem zsub_c {x y : Zs} {w : World} :
    Calls Tryz.prog 98 #[zV x, zV y] w fun e w' => e = .returned (ZE (subZ x y)) ∧ Below w.heap.size w w' := by
  refine enter (S := St (fun _ => True) w [] ([])) (L := [(0, zV x), (1, zV y)]) Tryz.func98 rfl Tryz.ntmps98 rfl (args_cons rfl (args_cons rfl (args_nil _))) (St.start (fun _ _ => trivial) facts_nil) ?_
  refine WC.sr ?_
  refine WL.g rfl rfl rfl (og_box rfl rfl (by (exact cells_agg _))) ?_
  intro b2
  refine WL.g rfl rfl rfl (og_box rfl rfl (by (exact cells_agg _))) ?_
  intro b3
  refine WL.g rfl rfl rfl (og_alloc rfl (v := (.agg #[.bool false, .string (S [])])) (cs := [.bool false, .string (S [])]) (by kernel_rfl) rfl) ?_
  intro b4
  refine WL.r rfl rfl rfl (rd_assign rfl rfl) ?_
  refine WL.nt ?_
  refine WC.seq ?_
  refine WC.sr ?_
  refine WL.r rfl rfl rfl (lda rfl rfl .tc Tryz.underlying41 rfl ?_) ?_
  · kernel_rfl
  refine WL.r rfl rfl rfl (lda rfl rfl .tc Tryz.underlying41 rfl ?_) ?_
  · kernel_rfl
  refine WL.g rfl rfl rfl (og_call rfl rfl (by kernel_rfl) (keep_val fun w hS => both_c (x := x) (y := y))) ?_
  intro _
  refine WL.r rfl rfl rfl (rd_not rfl rfl) ?_
  refine WL.nt ?_
  refine WC.cond rfl (fun hc9 => ?_) (fun hc9 => ?_)
  · (try simp only [sB] at hc9)
    have hr : subZ x y = ((false, []), 3) := by rw [subZ, if_neg (by simpa using hc9)]
    refine WC.sr ?_
    refine WL.r rfl rfl rfl (rd_bld [[.bool false], [.string (S [])]] rfl rfl (by simp only [bld, fldv, Nat.beq, Value.cells, cond_true, cond_false, List.nil_append, List.cons_append, List.append_nil]; rfl) (fun w => by kernel_rfl)) ?_
    refine WL.g0 rfl rfl (sta rfl rfl rfl .tc ?_ ?_ ?_) ?_
    · kernel_rfl
    · simp [Value.oneCell']
    · rfl
    intro _
    refine WL.r rfl rfl rfl (rd_assign rfl rfl) ?_
    refine WL.nt ?_
    refine WC.ret ?_
    refine WX.then_ret ?_
    exact WX.retN rfl (.agg rfl .tc Tryz.underlying41 rfl (by kernel_rfl) (.tmp rfl .nil)) fun w' hS => ⟨by rw [hr]; rfl, hS.below⟩
  · (try simp only [sB] at hc9)
    have hr : subZ x y = addZ x (negZ y) := by rw [subZ, if_pos (by simpa using hc9)]
    refine WC.skip ?_
    refine WX.then_normal ?_
    refine WC.seq ?_
    refine WC.free0 [1, 2, 0, 3, 4, 5] [6, 7] [0, 0, 1, 1, 0, 0, 2, 2] (by kernel_rfl) (by kernel_rfl) rfl ?_
    refine WJ.r rfl rfl rfl rfl rfl (lda rfl rfl .tc Tryz.underlying41 rfl ?_) ?_
    · kernel_rfl
    refine WJ.gv rfl rfl rfl rfl rfl (fun ext => og_call rfl rfl (by kernel_rfl) (keep_val fun w hS => zneg_c (x := y))) ?_
    refine WJ.r rfl rfl rfl rfl rfl (lda rfl rfl .tc Tryz.underlying41 rfl ?_) ?_
    · kernel_rfl
    refine WJ.gv rfl rfl rfl rfl rfl (fun ext => og_call rfl rfl (by kernel_rfl) (keep_val fun w hS => zadd_c (x := x) (y := negZ y))) ?_
    refine WJ.r rfl rfl rfl rfl rfl (rd_extL rfl rfl rfl) ?_
    refine WJ.r rfl rfl rfl rfl rfl (rd_extL rfl rfl rfl) ?_
    refine WJ.nil ?_
    refine WL.g0 rfl rfl (sta rfl rfl rfl .tc ?_ ?_ ?_) ?_
    · kernel_rfl
    · simp [Value.oneCell']
    · rfl
    intro _
    refine WL.r rfl rfl rfl (rd_assign rfl rfl) ?_
    refine WL.nt ?_
    refine WC.ret ?_
    exact WX.retN rfl (.agg rfl .tc Tryz.underlying41 rfl (by kernel_rfl) (.tmp rfl .nil)) fun w' hS => ⟨by rw [hr]; rfl, hS.below⟩
theorem rzadd_c {x y : Zs} {w : World} :
    Calls Tryz.prog 129 #[zV x, zV y] w fun e w' => e = .returned (ZE (addZ x y)) ∧ Below w.heap.size w w' := by
  refine enter (S := St (fun _ => True) w [] ([])) (L := [(0, zV x), (1, zV y)]) Tryz.func129 rfl Tryz.ntmps129 rfl (args_cons rfl (args_cons rfl (args_nil _))) (St.start (fun _ _ => trivial) facts_nil) ?_
  refine WC.sr ?_
  refine WL.g rfl rfl rfl (og_box rfl rfl (by (exact cells_agg _))) ?_
  intro b2
  refine WL.g rfl rfl rfl (og_box rfl rfl (by (exact cells_agg _))) ?_
  intro b3
  refine WL.g rfl rfl rfl (og_alloc rfl (v := (.agg #[.bool false, .string (S [])])) (cs := [.bool false, .string (S [])]) (by kernel_rfl) rfl) ?_
  intro b4
  refine WL.r rfl rfl rfl (rd_assign rfl rfl) ?_
  refine WL.nt ?_
  refine WC.seq ?_
  refine WC.sr ?_
  refine WL.r rfl rfl rfl (lda rfl rfl .tc Tryz.underlying41 rfl ?_) ?_
  · kernel_rfl
  refine WL.g rfl rfl rfl (og_call rfl rfl (by kernel_rfl) (keep_val fun w hS => rzvalid_c (x := x))) ?_
  intro _
  refine WL.r rfl rfl rfl (rd_not rfl rfl) ?_
  refine WL.r rfl rfl rfl (rd_move rfl rfl) ?_
  refine WL.bool 15 rfl (fun hg15 => ?_) (fun hg15 => ?_)
  · (try simp only [sB] at hg15)
    refine WL.s rfl rfl rfl ?_
    refine WL.s rfl rfl rfl ?_
    refine WL.s rfl rfl rfl ?_
    refine WL.r rfl rfl rfl (rd_pickt rfl rfl rfl) ?_
    refine WL.nt ?_
    refine WC.cond rfl (fun _ => ?_) (fun h => by cases h)
    refine WC.sr ?_
    refine WL.r rfl rfl rfl (rd_bld [[.bool false], [.string (S [])]] rfl rfl (by simp only [bld, fldv, Nat.beq, Value.cells, cond_true, cond_false, List.nil_append, List.cons_append, List.append_nil]; rfl) (fun w => by kernel_rfl)) ?_
    refine WL.g0 rfl rfl (sta rfl rfl rfl .tc ?_ ?_ ?_) ?_
    · kernel_rfl
    · simp [Value.oneCell']
    · rfl
    intro _
    refine WL.r rfl rfl rfl (rd_assign rfl rfl) ?_
    refine WL.nt ?_
    refine WC.ret ?_
    refine WX.then_ret ?_
    exact WX.retN rfl (.agg rfl .tc Tryz.underlying41 rfl (by kernel_rfl) (.tmp rfl .nil)) fun w' hS => ⟨by rw [show addZ x y = ((false, []), 3) from by rw [addZ, if_neg (by simp_all)]]; rfl, hS.below⟩
  · (try simp only [sB] at hg15)
    refine WL.r rfl rfl rfl (lda rfl rfl .tc Tryz.underlying41 rfl ?_) ?_
    · kernel_rfl
    refine WL.g rfl rfl rfl (og_call rfl rfl (by kernel_rfl) (keep_val fun w hS => rzvalid_c (x := y))) ?_
    intro _
    refine WL.r rfl rfl rfl (rd_not rfl rfl) ?_
    refine WL.r rfl rfl rfl (rd_pickf rfl rfl rfl) ?_
    refine WL.nt ?_
    refine WC.cond rfl (fun hc19 => ?_) (fun hc19 => ?_)
    · (try simp only [sB] at hc19)
      refine WC.sr ?_
      refine WL.r rfl rfl rfl (rd_bld [[.bool false], [.string (S [])]] rfl rfl (by simp only [bld, fldv, Nat.beq, Value.cells, cond_true, cond_false, List.nil_append, List.cons_append, List.append_nil]; rfl) (fun w => by kernel_rfl)) ?_
      refine WL.g0 rfl rfl (sta rfl rfl rfl .tc ?_ ?_ ?_) ?_
      · kernel_rfl
      · simp [Value.oneCell']
      · rfl
      intro _
      refine WL.r rfl rfl rfl (rd_assign rfl rfl) ?_
      refine WL.nt ?_
      refine WC.ret ?_
      refine WX.then_ret ?_
      exact WX.retN rfl (.agg rfl .tc Tryz.underlying41 rfl (by kernel_rfl) (.tmp rfl .nil)) fun w' hS => ⟨by rw [show addZ x y = ((false, []), 3) from by rw [addZ, if_neg (by simp_all)]]; rfl, hS.below⟩
    · (try simp only [sB] at hc19)
      have hok : okZ x ∧ okZ y := by simp_all
      have ho1 := hok.1.1; have ho2 := hok.2.1
      refine WC.skip ?_
      refine WX.then_normal ?_
      refine WC.seq ?_
      refine WC.sr ?_
      (refine WL.r rfl rfl rfl (rd_fa (q := 0) rfl rfl Tryz.underlying41 rfl (by kernel_rfl) rfl) ?_)
      (refine WL.r rfl rfl rfl (ld rfl rfl .tc Tryz.underlying4 rfl (by rfl)) ?_)
      (refine WL.r rfl rfl rfl (rd_fa (q := 0) rfl rfl Tryz.underlying41 rfl (by kernel_rfl) rfl) ?_)
      (refine WL.r rfl rfl rfl (ld rfl rfl .tc Tryz.underlying4 rfl (by rfl)) ?_)
      refine WL.r rfl rfl rfl (rd_beq rfl rfl rfl Tryz.underlying4) ?_
      refine WL.nt ?_
      refine WC.cond rfl (fun hc25 => ?_) (fun hc25 => ?_)
      · (try simp only [sB] at hc25)
        have hs : x.1 = y.1 := by simpa using hc25
        have hr : addZ x y = (mkZ x.1 (addN x.2 y.2).1, (addN x.2 y.2).2) := by rw [addZ, if_pos hok, if_pos hs]
        refine WC.sr ?_
        (refine WL.r rfl rfl rfl (rd_fa (q := 1) rfl rfl Tryz.underlying41 rfl (by kernel_rfl) rfl) ?_)
        (refine WL.r rfl rfl rfl (ld rfl rfl .tc Tryz.underlying22 rfl (by rfl)) ?_)
        (refine WL.r rfl rfl rfl (rd_fa (q := 1) rfl rfl Tryz.underlying41 rfl (by kernel_rfl) rfl) ?_)
        (refine WL.r rfl rfl rfl (ld rfl rfl .tc Tryz.underlying22 rfl (by rfl)) ?_)
        refine WL.g rfl rfl rfl (og_call rfl rfl (by kernel_rfl) (keep_val fun w hS => radd_c (a := x.2) (b := y.2))) ?_
        intro _
        refine WL.r rfl rfl rfl (rd_move rfl rfl) ?_
        refine WL.r rfl rfl rfl (rd_extL rfl rfl rfl) ?_
        refine WL.r rfl rfl rfl (rd_extL rfl rfl rfl) ?_
        refine WL.r rfl rfl rfl (rd_assign rfl rfl) ?_
        refine WL.r rfl rfl rfl (rd_assign rfl rfl) ?_
        refine WL.nt ?_
        refine WC.sr ?_
        (refine WL.r rfl rfl rfl (rd_fa (q := 0) rfl rfl Tryz.underlying41 rfl (by kernel_rfl) rfl) ?_)
        (refine WL.r rfl rfl rfl (ld rfl rfl .tc Tryz.underlying4 rfl (by rfl)) ?_)
        refine WL.r rfl rfl rfl (rd_move rfl rfl) ?_
        refine WL.g rfl rfl rfl (og_call rfl rfl (by kernel_rfl) (keep_val fun w hS => rmake_c (n := x.1) (a := (addN x.2 y.2).1))) ?_
        intro _
        refine WL.r rfl rfl rfl (rd_move rfl rfl) ?_
        refine WL.g0 rfl rfl (sta rfl rfl rfl .tc ?_ ?_ ?_) ?_
        · kernel_rfl
        · simp [Value.oneCell']
        · rfl
        intro _
        refine WL.r rfl rfl rfl (rd_assign rfl rfl) ?_
        refine WL.nt ?_
        refine WC.ret ?_
        refine WX.then_ret ?_
        exact WX.retN rfl (.agg rfl .tc Tryz.underlying41 rfl (by kernel_rfl) (.tmp rfl .nil)) fun w' hS => ⟨by rw [hr]; rfl, hS.below⟩
      · (try simp only [sB] at hc25)
        have hs : ¬ x.1 = y.1 := by simpa using hc25
        refine WC.skip ?_
        refine WX.then_normal ?_
        refine WC.seq ?_
        refine WC.sr ?_
        (refine WL.r rfl rfl rfl (rd_fa (q := 1) rfl rfl Tryz.underlying41 rfl (by kernel_rfl) rfl) ?_)
        (refine WL.r rfl rfl rfl (ld rfl rfl .tc Tryz.underlying22 rfl (by rfl)) ?_)
        (refine WL.r rfl rfl rfl (rd_fa (q := 1) rfl rfl Tryz.underlying41 rfl (by kernel_rfl) rfl) ?_)
        (refine WL.r rfl rfl rfl (ld rfl rfl .tc Tryz.underlying22 rfl (by rfl)) ?_)
        refine WL.g rfl rfl rfl (og_call rfl rfl (by kernel_rfl) (keep_val fun w hS => rCmp_c (a := x.2) (b := y.2))) ?_
        intro _
        refine WL.r rfl rfl rfl (rd_geq rfl rfl rfl) ?_
        refine WL.nt ?_
        refine WC.cond rfl (fun hc44 => ?_) (fun hc44 => ?_)
        · (try simp only [sB] at hc44)
          have hge : val y.2 ≤ val x.2 := Nat.not_lt.1 fun h => by rw [cmpN_ok ho1 ho2] at hc44; have := (cmpI_neg _ _).2 h; omega
          have hr : addZ x y = (mkZ x.1 (canon (val x.2 - val y.2)), 0) := by rw [addZ, if_pos hok, if_neg hs, if_neg (by omega)]
          refine WC.sr ?_
          (refine WL.r rfl rfl rfl (rd_fa (q := 1) rfl rfl Tryz.underlying41 rfl (by kernel_rfl) rfl) ?_)
          (refine WL.r rfl rfl rfl (ld rfl rfl .tc Tryz.underlying22 rfl (by rfl)) ?_)
          (refine WL.r rfl rfl rfl (rd_fa (q := 1) rfl rfl Tryz.underlying41 rfl (by kernel_rfl) rfl) ?_)
          (refine WL.r rfl rfl rfl (ld rfl rfl .tc Tryz.underlying22 rfl (by rfl)) ?_)
          refine WL.g rfl rfl rfl (og_call rfl rfl (by kernel_rfl) (keep_val fun w hS => rsub_c (a := x.2) (b := y.2))) ?_
          intro _
          refine WL.r rfl rfl rfl (rd_move rfl rfl) ?_
          refine WL.r rfl rfl rfl (rd_extL rfl rfl rfl) ?_
          refine WL.r rfl rfl rfl (rd_extL rfl rfl rfl) ?_
          refine WL.r rfl rfl rfl (rd_assign rfl rfl) ?_
          refine WL.r rfl rfl rfl (rd_assign rfl rfl) ?_
          refine WL.nt ?_
          refine WC.sr ?_
          (refine WL.r rfl rfl rfl (rd_fa (q := 0) rfl rfl Tryz.underlying41 rfl (by kernel_rfl) rfl) ?_)
          (refine WL.r rfl rfl rfl (ld rfl rfl .tc Tryz.underlying4 rfl (by rfl)) ?_)
          refine WL.r rfl rfl rfl (rd_move rfl rfl) ?_
          refine WL.g rfl rfl rfl (og_call rfl rfl (by kernel_rfl) (keep_val fun w hS => rmake_c (n := x.1) (a := (subN x.2 y.2).1))) ?_
          intro _
          refine WL.g0 rfl rfl (sta rfl rfl rfl .tc ?_ ?_ ?_) ?_
          · kernel_rfl
          · simp [Value.oneCell']
          · rfl
          intro _
          refine WL.r rfl rfl rfl (rd_assign rfl rfl) ?_
          refine WL.nt ?_
          refine WC.ret ?_
          refine WX.then_ret ?_
          exact WX.retN rfl (.agg rfl .tc Tryz.underlying41 rfl (by kernel_rfl) (.tmp rfl .nil)) fun w' hS => ⟨by rw [hr, subN_ok ho1 ho2 hge]; rfl, hS.below⟩
        · (try simp only [sB] at hc44)
          rw [cmpN_ok ho1 ho2, cmpI_neg] at hc44
          have hr : addZ x y = (mkZ y.1 (canon (val y.2 - val x.2)), 0) := by rw [addZ, if_pos hok, if_neg hs, if_pos hc44]
          refine WC.skip ?_
          refine WX.then_normal ?_
          refine WC.sr ?_
          (refine WL.r rfl rfl rfl (rd_fa (q := 1) rfl rfl Tryz.underlying41 rfl (by kernel_rfl) rfl) ?_)
          (refine WL.r rfl rfl rfl (ld rfl rfl .tc Tryz.underlying22 rfl (by rfl)) ?_)
          (refine WL.r rfl rfl rfl (rd_fa (q := 1) rfl rfl Tryz.underlying41 rfl (by kernel_rfl) rfl) ?_)
          (refine WL.r rfl rfl rfl (ld rfl rfl .tc Tryz.underlying22 rfl (by rfl)) ?_)
          refine WL.g rfl rfl rfl (og_call rfl rfl (by kernel_rfl) (keep_val fun w hS => rsub_c (a := y.2) (b := x.2))) ?_
          intro _
          refine WL.r rfl rfl rfl (rd_move rfl rfl) ?_
          refine WL.r rfl rfl rfl (rd_extL rfl rfl rfl) ?_
          refine WL.r rfl rfl rfl (rd_extL rfl rfl rfl) ?_
          refine WL.r rfl rfl rfl (rd_assign rfl rfl) ?_
          refine WL.r rfl rfl rfl (rd_assign rfl rfl) ?_
          refine WL.nt ?_
          refine WC.sr ?_
          (refine WL.r rfl rfl rfl (rd_fa (q := 0) rfl rfl Tryz.underlying41 rfl (by kernel_rfl) rfl) ?_)
          (refine WL.r rfl rfl rfl (ld rfl rfl .tc Tryz.underlying4 rfl (by rfl)) ?_)
          refine WL.r rfl rfl rfl (rd_move rfl rfl) ?_
          refine WL.g rfl rfl rfl (og_call rfl rfl (by kernel_rfl) (keep_val fun w hS => rmake_c (n := y.1) (a := (subN y.2 x.2).1))) ?_
          intro _
          refine WL.g0 rfl rfl (sta rfl rfl rfl .tc ?_ ?_ ?_) ?_
          · kernel_rfl
          · simp [Value.oneCell']
          · rfl
          intro _
          refine WL.r rfl rfl rfl (rd_assign rfl rfl) ?_
          refine WL.nt ?_
          refine WC.ret ?_
          exact WX.retN rfl (.agg rfl .tc Tryz.underlying41 rfl (by kernel_rfl) (.tmp rfl .nil)) fun w' hS => ⟨by rw [hr, subN_ok ho2 ho1 (by omega)]; rfl, hS.below⟩
theorem rzsub_c {x y : Zs} {w : World} :
    Calls Tryz.prog 131 #[zV x, zV y] w fun e w' => e = .returned (ZE (subZ x y)) ∧ Below w.heap.size w w' := by
  refine enter (S := St (fun _ => True) w [] ([])) (L := [(0, zV x), (1, zV y)]) Tryz.func131 rfl Tryz.ntmps131 rfl (args_cons rfl (args_cons rfl (args_nil _))) (St.start (fun _ _ => trivial) facts_nil) ?_
  refine WC.sr ?_
  refine WL.g rfl rfl rfl (og_box rfl rfl (by (exact cells_agg _))) ?_
  intro b2
  refine WL.g rfl rfl rfl (og_box rfl rfl (by (exact cells_agg _))) ?_
  intro b3
  refine WL.g rfl rfl rfl (og_alloc rfl (v := (.agg #[.bool false, .string (S [])])) (cs := [.bool false, .string (S [])]) (by kernel_rfl) rfl) ?_
  intro b4
  refine WL.r rfl rfl rfl (rd_assign rfl rfl) ?_
  refine WL.nt ?_
  refine WC.seq ?_
  refine WC.sr ?_
  refine WL.r rfl rfl rfl (lda rfl rfl .tc Tryz.underlying41 rfl ?_) ?_
  · kernel_rfl
  refine WL.g rfl rfl rfl (og_call rfl rfl (by kernel_rfl) (keep_val fun w hS => rzvalid_c (x := x))) ?_
  intro _
  refine WL.r rfl rfl rfl (rd_not rfl rfl) ?_
  refine WL.r rfl rfl rfl (rd_move rfl rfl) ?_
  refine WL.bool 9 rfl (fun hg9 => ?_) (fun hg9 => ?_)
  · (try simp only [sB] at hg9)
    refine WL.s rfl rfl rfl ?_
    refine WL.s rfl rfl rfl ?_
    refine WL.s rfl rfl rfl ?_
    refine WL.r rfl rfl rfl (rd_pickt rfl rfl rfl) ?_
    refine WL.nt ?_
    refine WC.cond rfl (fun _ => ?_) (fun h => by cases h)
    refine WC.sr ?_
    refine WL.r rfl rfl rfl (rd_bld [[.bool false], [.string (S [])]] rfl rfl (by simp only [bld, fldv, Nat.beq, Value.cells, cond_true, cond_false, List.nil_append, List.cons_append, List.append_nil]; rfl) (fun w => by kernel_rfl)) ?_
    refine WL.g0 rfl rfl (sta rfl rfl rfl .tc ?_ ?_ ?_) ?_
    · kernel_rfl
    · simp [Value.oneCell']
    · rfl
    intro _
    refine WL.r rfl rfl rfl (rd_assign rfl rfl) ?_
    refine WL.nt ?_
    refine WC.ret ?_
    refine WX.then_ret ?_
    exact WX.retN rfl (.agg rfl .tc Tryz.underlying41 rfl (by kernel_rfl) (.tmp rfl .nil)) fun w' hS => ⟨by rw [show subZ x y = ((false, []), 3) from by rw [subZ, if_neg (by simp_all)]]; rfl, hS.below⟩
  · (try simp only [sB] at hg9)
    refine WL.r rfl rfl rfl (lda rfl rfl .tc Tryz.underlying41 rfl ?_) ?_
    · kernel_rfl
    refine WL.g rfl rfl rfl (og_call rfl rfl (by kernel_rfl) (keep_val fun w hS => rzvalid_c (x := y))) ?_
    intro _
    refine WL.r rfl rfl rfl (rd_not rfl rfl) ?_
    refine WL.r rfl rfl rfl (rd_pickf rfl rfl rfl) ?_
    refine WL.nt ?_
    refine WC.cond rfl (fun hc13 => ?_) (fun hc13 => ?_)
    · (try simp only [sB] at hc13)
      refine WC.sr ?_
      refine WL.r rfl rfl rfl (rd_bld [[.bool false], [.string (S [])]] rfl rfl (by simp only [bld, fldv, Nat.beq, Value.cells, cond_true, cond_false, List.nil_append, List.cons_append, List.append_nil]; rfl) (fun w => by kernel_rfl)) ?_
      refine WL.g0 rfl rfl (sta rfl rfl rfl .tc ?_ ?_ ?_) ?_
      · kernel_rfl
      · simp [Value.oneCell']
      · rfl
      intro _
      refine WL.r rfl rfl rfl (rd_assign rfl rfl) ?_
      refine WL.nt ?_
      refine WC.ret ?_
      refine WX.then_ret ?_
      exact WX.retN rfl (.agg rfl .tc Tryz.underlying41 rfl (by kernel_rfl) (.tmp rfl .nil)) fun w' hS => ⟨by rw [show subZ x y = ((false, []), 3) from by rw [subZ, if_neg (by simp_all)]]; rfl, hS.below⟩
    · (try simp only [sB] at hc13)
      have hr : subZ x y = addZ x (negZ y) := by rw [subZ, if_pos (by simp_all)]
      refine WC.skip ?_
      refine WX.then_normal ?_
      refine WC.seq ?_
      refine WC.free0 [1, 2, 0, 3, 4, 5] [6, 7] [0, 0, 1, 1, 0, 0, 2, 2] (by kernel_rfl) (by kernel_rfl) rfl ?_
      refine WJ.r rfl rfl rfl rfl rfl (lda rfl rfl .tc Tryz.underlying41 rfl ?_) ?_
      · kernel_rfl
      refine WJ.gv rfl rfl rfl rfl rfl (fun ext => og_call rfl rfl (by kernel_rfl) (keep_val fun w hS => rzneg_c (x := y))) ?_
      refine WJ.r rfl rfl rfl rfl rfl (lda rfl rfl .tc Tryz.underlying41 rfl ?_) ?_
      · kernel_rfl
      refine WJ.gv rfl rfl rfl rfl rfl (fun ext => og_call rfl rfl (by kernel_rfl) (keep_val fun w hS => rzadd_c (x := x) (y := negZ y))) ?_
      refine WJ.r rfl rfl rfl rfl rfl (rd_extL rfl rfl rfl) ?_
      refine WJ.r rfl rfl rfl rfl rfl (rd_extL rfl rfl rfl) ?_
      refine WJ.nil ?_
      refine WL.g0 rfl rfl (sta rfl rfl rfl .tc ?_ ?_ ?_) ?_
      · kernel_rfl
      · simp [Value.oneCell']
      · rfl
      intro _
      refine WL.r rfl rfl rfl (rd_assign rfl rfl) ?_
      refine WL.nt ?_
      refine WC.ret ?_
      exact WX.retN rfl (.agg rfl .tc Tryz.underlying41 rfl (by kernel_rfl) (.tmp rfl .nil)) fun w' hS => ⟨by rw [hr]; rfl, hS.below⟩
theorem rfrom_c {a : Bs} {w : World} :
    Calls Tryz.prog 20 #[.string (S a)] w fun e w' => e = .returned (zV (if okN a then (false, a) else (false, []))) ∧ Below w.heap.size w w' := by
  refine enter (S := St (fun _ => True) w [] ([])) (L := [(0, .string (S a))]) Tryz.func20 rfl Tryz.ntmps20 rfl (args_cons rfl (args_nil _)) (St.start (fun _ _ => trivial) facts_nil) ?_
  refine WC.sr ?_
  refine WL.g rfl rfl rfl (og_alloc rfl (v := (.agg #[.bool false, .string (S [])])) (cs := [.bool false, .string (S [])]) (by kernel_rfl) rfl) ?_
  intro b2
  refine WL.nt ?_
  refine WC.seq ?_
  refine WC.sr ?_
  refine WL.r rfl rfl rfl (rd_move rfl rfl) ?_
  refine WL.g rfl rfl rfl (og_call rfl rfl (by kernel_rfl) (keep_val fun w hS => rvalid_c)) ?_
  intro _
  refine WL.r rfl rfl rfl (rd_not rfl rfl) ?_
  refine WL.nt ?_
  refine WC.cond rfl (fun hc5 => ?_) (fun hc5 => ?_)
  · (try simp only [sB] at hc5)
    refine WC.sr ?_
    refine WL.r rfl rfl rfl (rd_bld [[.bool false], [.string (S [])]] rfl rfl (by simp only [bld, fldv, Nat.beq, Value.cells, cond_true, cond_false, List.nil_append, List.cons_append, List.append_nil]; rfl) (fun w => by kernel_rfl)) ?_
    refine WL.g0 rfl rfl (sta rfl rfl rfl .tc ?_ ?_ ?_) ?_
    · kernel_rfl
    · simp [Value.oneCell']
    · rfl
    intro _
    refine WL.nt ?_
    refine WC.ret ?_
    refine WX.then_ret ?_
    exact WX.retN rfl (.agg rfl .tc Tryz.underlying41 rfl (by kernel_rfl) .nil) fun w' hS => ⟨by rw [if_neg (by simpa using hc5)]; rfl, hS.below⟩
  · (try simp only [sB] at hc5)
    refine WC.skip ?_
    refine WX.then_normal ?_
    refine WC.sr ?_
    refine WL.r rfl rfl rfl (rd_move rfl rfl) ?_
    refine WL.g rfl rfl rfl (og_call rfl rfl (by kernel_rfl) (keep_val fun w hS => rmake_c (n := false) (a := a))) ?_
    intro _
    refine WL.g0 rfl rfl (sta rfl rfl rfl .tc ?_ ?_ ?_) ?_
    · kernel_rfl
    · simp [Value.oneCell']
    · rfl
    intro _
    refine WL.nt ?_
    refine WC.ret ?_
    exact WX.retN rfl (.agg rfl .tc Tryz.underlying41 rfl (by kernel_rfl) .nil) fun w' hS => ⟨by rw [if_pos (by simpa using hc5)]; rfl, hS.below⟩
def ofZ (n : Int) : Zs := mkZ (decide (n < 0)) (canon n.natAbs)
theorem zof_c {n : Int} {w : World} (h0 : -9223372036854775808 ≤ n) (h1 : n ≤ 9223372036854775807) :
    Calls Tryz.prog 26 #[.int .i64 n] w fun e w' => e = .returned (zV (ofZ n)) ∧ Below w.heap.size w w' := by
  refine enter (S := St (fun _ => True) w [] ([])) (L := [(0, .int .i64 n)]) Tryz.func26 rfl Tryz.ntmps26 rfl (args_cons rfl (args_nil _)) (St.start (fun _ _ => trivial) facts_nil) ?_
  refine WC.sr ?_
  refine WL.g rfl rfl rfl (og_alloc rfl (v := (.agg #[.bool false, .string (S [])])) (cs := [.bool false, .string (S [])]) (by kernel_rfl) rfl) ?_
  intro b2
  refine WL.nt ?_
  refine WC.seq ?_
  refine WC.sr ?_
  refine WL.r rfl rfl rfl (rd_move rfl rfl) ?_
  refine WL.r rfl rfl rfl (rd_lss rfl rfl rfl) ?_
  refine WL.nt ?_
  refine WC.cond rfl (fun hc4 => ?_) (fun hc4 => ?_)
  · (try simp only [sB] at hc4)
    have hr : ofZ n = mkZ true (canon n.natAbs) := by rw [ofZ, decide_eq_true hc4]
    refine WC.sr ?_
    refine WL.r rfl rfl rfl (rd_move rfl rfl) ?_
    refine WL.r rfl rfl rfl (rd_conv rfl rfl Tryz.underlying2 Tryz.underlying55) ?_
    refine WL.r rfl rfl rfl (rd_neg rfl rfl) ?_
    refine WL.set 7 rfl (v' := .int .u64 ((n.natAbs : Nat) : Int)) (by exact congrArg (Value.int .u64) (by rw [IntKind.wrap_u64, IntKind.wrap_u64]; omega)) ?_
    refine WL.g rfl rfl rfl (og_call rfl rfl (by kernel_rfl) (keep_val fun w hS => of_c (n := n.natAbs) (by omega))) ?_
    intro _
    refine WL.g rfl rfl rfl (og_call rfl rfl (by kernel_rfl) (keep_val fun w hS => made_c (n := true) (a := canon n.natAbs))) ?_
    intro _
    refine WL.g0 rfl rfl (sta rfl rfl rfl .tc ?_ ?_ ?_) ?_
    · kernel_rfl
    · simp [Value.oneCell']
    · rfl
    intro _
    refine WL.nt ?_
    refine WC.ret ?_
    refine WX.then_ret ?_
    exact WX.retN rfl (.agg rfl .tc Tryz.underlying41 rfl (by kernel_rfl) .nil) fun w' hS => ⟨by rw [hr]; rfl, hS.below⟩
  · (try simp only [sB] at hc4)
    have hr : ofZ n = mkZ false (canon n.natAbs) := by rw [ofZ, decide_eq_false (by omega)]
    refine WC.skip ?_
    refine WX.then_normal ?_
    refine WC.sr ?_
    refine WL.r rfl rfl rfl (rd_move rfl rfl) ?_
    refine WL.r rfl rfl rfl (rd_conv rfl rfl Tryz.underlying2 Tryz.underlying55) ?_
    refine WL.set 11 rfl (v' := .int .u64 ((n.natAbs : Nat) : Int)) (by exact congrArg (Value.int .u64) (by rw [IntKind.wrap_u64]; omega)) ?_
    refine WL.g rfl rfl rfl (og_call rfl rfl (by kernel_rfl) (keep_val fun w hS => of_c (n := n.natAbs) (by omega))) ?_
    intro _
    refine WL.g rfl rfl rfl (og_call rfl rfl (by kernel_rfl) (keep_val fun w hS => made_c (n := false) (a := canon n.natAbs))) ?_
    intro _
    refine WL.g0 rfl rfl (sta rfl rfl rfl .tc ?_ ?_ ?_) ?_
    · kernel_rfl
    · simp [Value.oneCell']
    · rfl
    intro _
    refine WL.nt ?_
    refine WC.ret ?_
    exact WX.retN rfl (.agg rfl .tc Tryz.underlying41 rfl (by kernel_rfl) .nil) fun w' hS => ⟨by rw [hr]; rfl, hS.below⟩
end Go.Proofs.YtbcnnkcddilfjaaGreat
