/-
  The statements about coins: awake.
-/
import Derived.Test.YtikcjkifhliidaaDoorCoi8
import Derived.Test.YtikcjkifhliidaaDoorOpz
import Derived.Test.YtikcjkifhliidaaDoorEqs
namespace Go.Proofs.YtikcjkifhliidaaDoor
set_option linter.unusedSimpArgs false
set_option linter.unusedVariables false
set_option maxRecDepth 20000
set_option maxHeartbeats 600000
open Go.RowKit

theorem awake_c {w : World} (hT : Tab w) :
    Calls Tryd.prog 12 #[] w fun e w' => e = .returned (.bool true) ∧ Below w.heap.size w w' := by
  refine enter (S := St (fun _ => True) w [] ([])) (L := []) Tryd.func12 rfl Tryd.ntmps12 rfl (args_nil _) (St.start (fun _ _ => trivial) facts_nil) ?_
  refine WC.sr ?_
  refine WL.r rfl rfl rfl (rd_assign rfl rfl) ?_
  refine WL.nt ?_
  refine WC.sr ?_
  refine WL.g rfl rfl rfl (og_call rfl rfl (by kernel_rfl) (keep_val fun w hS => of_c (n := 5) (by omega))) ?_
  intro _
  refine WL.set 14 rfl (v' := .string (S ([5]))) (congrArg (fun l => Value.string (S l)) (by exact c5)) ?_
  refine WL.g rfl rfl rfl (og_call rfl rfl (by kernel_rfl) (keep_val fun w hS => of_c (n := 9) (by omega))) ?_
  intro _
  refine WL.set 15 rfl (v' := .string (S ([9]))) (congrArg (fun l => Value.string (S l)) (by exact c9)) ?_
  refine WL.g rfl rfl rfl (og_bs1 rfl rfl Tryd.underlying22 (by kernel_rfl : _ = some (some (.string (S [])), 1, 16)) rfl (by simp only [List.map]; rfl) rfl rfl ?_ (by decide)) ?_
  · simp [Value.cells]
  intro b16
  refine WL.g rfl rfl rfl (og_call rfl rfl (by kernel_rfl) (keep_f1 fun w hS => values_c (l := [[5], [9]]) (by (exact hS.os)) (by (simp <;> omega)) (by (simp <;> omega)))) ?_
  intro g17
  refine WL.pu ?_
  intro hg17; (try dsimp only at hg17 ⊢)
  refine WL.g rfl rfl rfl (og_alloc rfl (v := (.agg #[.slice none 0 0, .string (S []), .int .i64 0])) (cs := [.slice none 0 0, .string (S []), .int .i64 0]) (by kernel_rfl) rfl) ?_
  intro b1
  refine WL.g0 rfl rfl (sta rfl rfl rfl .tc ?_ ?_ ?_) ?_
  · kernel_rfl
  · simp [Value.oneCell']
  · rfl
  intro _
  refine WL.nt ?_
  refine WC.seq ?_
  refine WC.free0 [1, 0, 2, 3, 4, 5, 7, 8, 9, 6, 10] [] [0, 1, 1, 0, 0, 0, 0, 3, 0, 1, 0] (by kernel_rfl) (by kernel_rfl) rfl ?_
  refine WJ.gv rfl rfl rfl rfl rfl (fun ext => og_call rfl rfl (by kernel_rfl) (keep_val fun w hS => of_c (n := 10) (by omega))) ?_
  refine WJ.set 20 rfl (v' := .string (S ([10]))) (congrArg (fun l => Value.string (S l)) (by exact c10)) ?_
  refine WJ.r rfl rfl rfl rfl rfl (lda rfl rfl .tc Tryd.underlying24 rfl ?_) ?_
  · kernel_rfl
  refine WJ.g rfl rfl rfl rfl rfl (fun ext => og_call rfl rfl (by kernel_rfl) (keep_f1 (val := fun g => .tuple #[.string (S [5]), .agg #[g.val 2, .string (S []), .int .i64 1], .int .i64 0]) (p := fun g => g.cap = 2 + g.sp.length) (xs := strs [[5], [9]]) (T := 33) fun w hS => (by have := below_c (t := ⟨[[5], [9]], [], 0⟩) (n := [10]) (a := g17.a) (cap := g17.cap) (w := w) hS.sl (by decide) (by decide) (tab_st hT hS); rw [aw_b1] at this; exact this))) ?_
  intro g20 hg20
  refine WJ.r rfl rfl rfl rfl rfl (rd_move rfl rfl) ?_
  refine WJ.r rfl rfl rfl rfl rfl (rd_extL rfl rfl rfl) ?_
  refine WJ.r rfl rfl rfl rfl rfl (rd_extL rfl rfl rfl) ?_
  refine WJ.f rfl rfl rfl rfl rfl (fr_alloc rfl (v := (.agg #[.slice none 0 0, .string (S []), .int .i64 0])) (cs := [.slice none 0 0, .string (S []), .int .i64 0]) (by kernel_rfl) rfl) ?_
  intro b3
  refine WJ.r rfl rfl rfl rfl rfl (rd_assign rfl rfl) ?_
  refine WJ.st rfl rfl rfl rfl (staJ rfl rfl rfl ?_ ?_ ?_) ?_
  · kernel_rfl
  · simp [Value.oneCell']
  · rfl
  refine WJ.r rfl rfl rfl rfl rfl (rd_extL rfl rfl rfl) ?_
  refine WJ.r rfl rfl rfl rfl rfl (rd_assign rfl rfl) ?_
  refine WJ.nil ?_
  refine WL.nt ?_
  refine WC.seq ?_
  refine WC.free0 [1, 0, 2, 3, 4, 5, 7, 8, 9, 6, 10] [] [0, 1, 1, 0, 0, 0, 0, 3, 0, 1, 0] (by kernel_rfl) (by kernel_rfl) rfl ?_
  refine WJ.gv rfl rfl rfl rfl rfl (fun ext => og_call rfl rfl (by kernel_rfl) (keep_val fun w hS => of_c (n := 5) (by omega))) ?_
  refine WJ.set 27 rfl (v' := .string (S ([5]))) (congrArg (fun l => Value.string (S l)) (by exact c5)) ?_
  refine WJ.r rfl rfl rfl rfl rfl (lda rfl rfl .tc Tryd.underlying24 rfl ?_) ?_
  · kernel_rfl
  refine WJ.g rfl rfl rfl rfl rfl (fun ext => og_call rfl rfl (by kernel_rfl) (keep_f1 (val := fun g => .tuple #[.string (S []), .agg #[g.val 0, .string (S []), .int .i64 0], .int .i64 2]) (p := fun g => g.cap = 0 + g.sp.length) (xs := []) (T := 33) fun w hS => (by have := below_c (t := ⟨[[5], [9]], [], 0⟩) (n := [5]) (a := g17.a) (cap := g17.cap) (w := w) hS.sl (by decide) (by decide) (tab_st hT hS); rw [aw_b2] at this; exact this))) ?_
  intro g27 hg27
  refine WJ.r rfl rfl rfl rfl rfl (rd_move rfl rfl) ?_
  refine WJ.r rfl rfl rfl rfl rfl (rd_extL rfl rfl rfl) ?_
  refine WJ.r rfl rfl rfl rfl rfl (rd_extL rfl rfl rfl) ?_
  refine WJ.f rfl rfl rfl rfl rfl (fr_alloc rfl (v := (.agg #[.slice none 0 0, .string (S []), .int .i64 0])) (cs := [.slice none 0 0, .string (S []), .int .i64 0]) (by kernel_rfl) rfl) ?_
  intro b6
  refine WJ.r rfl rfl rfl rfl rfl (rd_assign rfl rfl) ?_
  refine WJ.st rfl rfl rfl rfl (staJ rfl rfl rfl ?_ ?_ ?_) ?_
  · kernel_rfl
  · simp [Value.oneCell']
  · rfl
  refine WJ.r rfl rfl rfl rfl rfl (rd_extL rfl rfl rfl) ?_
  refine WJ.r rfl rfl rfl rfl rfl (rd_assign rfl rfl) ?_
  refine WJ.nil ?_
  refine WL.nt ?_
  refine WC.sr ?_
  refine WL.g rfl rfl rfl (og_call rfl rfl (by kernel_rfl) (keep_val fun w hS => of_c (n := 0) (by omega))) ?_
  intro _
  refine WL.set 33 rfl (v' := .string (S ([]))) (congrArg (fun l => Value.string (S l)) (by exact canon_zero)) ?_
  refine WL.g rfl rfl rfl (og_bs1 rfl rfl Tryd.underlying22 (by kernel_rfl : _ = some (some (.string (S [])), 1, 16)) rfl (by simp only [List.map]; rfl) rfl rfl ?_ (by decide)) ?_
  · simp [Value.cells]
  intro b34
  refine WL.g rfl rfl rfl (og_call rfl rfl (by kernel_rfl) (keep_f1 fun w hS => values_c (l := [[]]) (by (exact hS.os)) (by (simp <;> omega)) (by (simp <;> omega)))) ?_
  intro g35
  refine WL.pu ?_
  intro hg35; (try dsimp only at hg35 ⊢)
  refine WL.g rfl rfl rfl (og_call rfl rfl (by kernel_rfl) (keep_val fun w hS => of_c (n := 3) (by omega))) ?_
  intro _
  refine WL.set 36 rfl (v' := .string (S ([3]))) (congrArg (fun l => Value.string (S l)) (by exact c3)) ?_
  refine WL.g rfl rfl rfl (og_call rfl rfl (by kernel_rfl) (keep_f1 (val := fun g => .tuple #[.agg #[.bool true, .string (S [2])], .agg #[g.val 1, .string (S []), .int .i64 1], .int .i64 0]) (p := fun g => g.cap = 1 + g.sp.length) (xs := strs [[]]) (T := 33) fun w hS => (by have := signed_c (t := ⟨[[]], [], 0⟩) (n := [3]) (a := g35.a) (cap := g35.cap) (w := w) hS.sl (by decide) (by decide) (tab_st hT hS); rw [aw_s] at this; exact this))) ?_
  intro g37; refine WL.pu ?_; intro hg37
  refine WL.r rfl rfl rfl (rd_move rfl rfl) ?_
  refine WL.r rfl rfl rfl (rd_extL rfl rfl rfl) ?_
  refine WL.r rfl rfl rfl (rd_extL rfl rfl rfl) ?_
  refine WL.r rfl rfl rfl (rd_extL rfl rfl rfl) ?_
  refine WL.g rfl rfl rfl (og_alloc rfl (v := (.agg #[.bool false, .string (S [])])) (cs := [.bool false, .string (S [])]) (by kernel_rfl) rfl) ?_
  intro b8
  refine WL.g rfl rfl rfl (og_alloc rfl (v := (.agg #[.slice none 0 0, .string (S []), .int .i64 0])) (cs := [.slice none 0 0, .string (S []), .int .i64 0]) (by kernel_rfl) rfl) ?_
  intro b9
  refine WL.g0 rfl rfl (sta rfl rfl rfl .tc ?_ ?_ ?_) ?_
  · kernel_rfl
  · simp [Value.oneCell']
  · rfl
  intro _
  refine WL.g0 rfl rfl (sta rfl rfl rfl .tc ?_ ?_ ?_) ?_
  · kernel_rfl
  · simp [Value.oneCell']
  · rfl
  intro _
  refine WL.r rfl rfl rfl (rd_assign rfl rfl) ?_
  refine WL.nt ?_
  refine WC.sr ?_
  refine WL.g rfl rfl rfl (og_call rfl rfl (by kernel_rfl) (keep_val fun w hS => seed_c)) ?_
  intro _
  refine WL.g rfl rfl rfl (og_call rfl rfl (by kernel_rfl) (keep_val fun w hS => of_c (n := 1) (by omega))) ?_
  intro _
  refine WL.set 43 rfl (v' := .string (S ([1]))) (congrArg (fun l => Value.string (S l)) (by exact c1)) ?_
  refine WL.g rfl rfl rfl (og_call rfl rfl (by kernel_rfl) (keep_f1 (val := fun g => .tuple #[.string (S []), .agg #[g.val 0, .string (S [115, 101, 101, 100]), .int .i64 1], .int .i64 0]) (p := fun g => g.cap = 0 + g.sp.length) (xs := []) (T := 33) fun w hS => (by have := below_c (t := ⟨[], [115, 101, 101, 100], 0⟩) (n := [1]) (a := none) (cap := 0) (w := w) sl_nil (by decide) (by decide) (tab_st hT hS); rw [aw_b3] at this; exact this))) ?_
  intro g44; refine WL.pu ?_; intro hg44
  refine WL.r rfl rfl rfl (rd_move rfl rfl) ?_
  refine WL.r rfl rfl rfl (rd_extL rfl rfl rfl) ?_
  refine WL.r rfl rfl rfl (rd_extL rfl rfl rfl) ?_
  refine WL.r rfl rfl rfl (rd_extL rfl rfl rfl) ?_
  refine WL.g rfl rfl rfl (og_alloc rfl (v := (.agg #[.slice none 0 0, .string (S []), .int .i64 0])) (cs := [.slice none 0 0, .string (S []), .int .i64 0]) (by kernel_rfl) rfl) ?_
  intro b12
  refine WL.r rfl rfl rfl (rd_assign rfl rfl) ?_
  refine WL.g0 rfl rfl (sta rfl rfl rfl .tc ?_ ?_ ?_) ?_
  · kernel_rfl
  · simp [Value.oneCell']
  · rfl
  intro _
  refine WL.r rfl rfl rfl (rd_assign rfl rfl) ?_
  refine WL.nt ?_
  refine WC.seq ?_
  refine WC.free0 [0, 1, 2, 4, 3, 5, 6, 7, 8, 9, 10, 11, 12, 13, 14, 15, 16, 17, 18, 19, 20, 21, 22, 23, 24, 25, 27, 26, 28, 29, 30, 31, 32, 33, 34, 35, 36, 37, 38, 39, 40, 41, 42, 43] [] [0, 0, 0, 0, 1, 0, 0, 0, 0, 0, 0, 0, 0, 0, 1, 0, 0, 0, 0, 0, 0, 0, 0, 0, 0, 0, 0, 1, 0, 0, 0, 0, 0, 0, 0, 0, 0, 0, 0, 0, 0, 0, 0, 0] (by kernel_rfl) (by kernel_rfl) rfl ?_
  refine WJ.r rfl rfl rfl rfl rfl (rd_move rfl rfl) ?_
  refine WJ.r rfl rfl rfl rfl rfl (rd_eql rfl rfl rfl) ?_
  refine WJ.r rfl rfl rfl rfl rfl (rd_move rfl rfl) ?_
  refine WJ.set 50 rfl (v' := .bool true) (by rfl) ?_
  refine WJ.gv rfl rfl rfl rfl rfl (fun ext => og_call rfl rfl (by kernel_rfl) (keep_val fun w hS => of_c (n := 5) (by omega))) ?_
  refine WJ.set 52 rfl (v' := .string (S ([5]))) (congrArg (fun l => Value.string (S l)) (by exact c5)) ?_
  refine WJ.r rfl rfl rfl rfl rfl (rd_move rfl rfl) ?_
  refine WJ.r rfl rfl rfl rfl rfl (rd_seq rfl rfl rfl) ?_
  refine WJ.r rfl rfl rfl rfl rfl (rd_pickt rfl rfl rfl) ?_
  refine WJ.r rfl rfl rfl rfl rfl (rd_move rfl rfl) ?_
  refine WJ.set 55 rfl (v' := .bool true) (by rfl) ?_
  (refine WJ.r rfl rfl rfl rfl rfl (rd_fa (q := 2) rfl rfl Tryd.underlying24 rfl (by kernel_rfl) rfl) ?_)
  (refine WJ.r rfl rfl rfl rfl rfl (ld rfl rfl .tc Tryd.underlying3 rfl (by rfl)) ?_)
  refine WJ.r rfl rfl rfl rfl rfl (rd_eql rfl rfl rfl) ?_
  refine WJ.r rfl rfl rfl rfl rfl (rd_pickt rfl rfl rfl) ?_
  refine WJ.r rfl rfl rfl rfl rfl (rd_move rfl rfl) ?_
  refine WJ.set 60 rfl (v' := .bool true) (by rfl) ?_
  refine WJ.r rfl rfl rfl rfl rfl (lda rfl rfl .tc Tryd.underlying24 rfl ?_) ?_
  · kernel_rfl
  refine WJ.gv rfl rfl rfl rfl rfl (fun ext => og_call rfl rfl (by kernel_rfl) (keep_val (v := .int .i64 1) fun w hS => (by have := left_c (t := ⟨[[5], [9]], [], 1⟩) (a := g20.a) (cap := g20.cap) (w := w) hS.sl (by decide); rw [aw_left] at this; exact this))) ?_
  refine WJ.r rfl rfl rfl rfl rfl (rd_eql rfl rfl rfl) ?_
  refine WJ.r rfl rfl rfl rfl rfl (rd_pickt rfl rfl rfl) ?_
  refine WJ.r rfl rfl rfl rfl rfl (rd_move rfl rfl) ?_
  refine WJ.set 65 rfl (v' := .bool true) (by rfl) ?_
  refine WJ.r rfl rfl rfl rfl rfl (rd_move rfl rfl) ?_
  refine WJ.r rfl rfl rfl rfl rfl (rd_eql rfl rfl rfl) ?_
  refine WJ.r rfl rfl rfl rfl rfl (rd_pickt rfl rfl rfl) ?_
  refine WJ.r rfl rfl rfl rfl rfl (rd_move rfl rfl) ?_
  refine WJ.set 69 rfl (v' := .bool true) (by rfl) ?_
  refine WJ.r rfl rfl rfl rfl rfl (rd_move rfl rfl) ?_
  refine WJ.r rfl rfl rfl rfl rfl (rd_eql rfl rfl rfl) ?_
  refine WJ.r rfl rfl rfl rfl rfl (rd_pickt rfl rfl rfl) ?_
  refine WJ.r rfl rfl rfl rfl rfl (rd_move rfl rfl) ?_
  refine WJ.set 73 rfl (v' := .bool true) (by rfl) ?_
  refine WJ.gv rfl rfl rfl rfl rfl (fun ext => og_call rfl rfl (by kernel_rfl) (keep_val (v := .agg #[.bool true, .string (S [2])]) fun w hS => (by have := zof_c (n := -2) (w := w) (by decide) (by decide); rw [aw_of] at this; exact this))) ?_
  refine WJ.r rfl rfl rfl rfl rfl (lda rfl rfl .tc Tryd.underlying41 rfl ?_) ?_
  · kernel_rfl
  refine WJ.r rfl rfl rfl rfl rfl (rd_eqA rfl rfl rfl (by kernel_rfl) (fun w => eql_api_Int _ _ _ _ w)) ?_
  refine WJ.r rfl rfl rfl rfl rfl (rd_pickt rfl rfl rfl) ?_
  refine WJ.r rfl rfl rfl rfl rfl (rd_move rfl rfl) ?_
  refine WJ.set 78 rfl (v' := .bool true) (by rfl) ?_
  refine WJ.r rfl rfl rfl rfl rfl (rd_move rfl rfl) ?_
  refine WJ.r rfl rfl rfl rfl rfl (rd_eql rfl rfl rfl) ?_
  refine WJ.r rfl rfl rfl rfl rfl (rd_pickt rfl rfl rfl) ?_
  refine WJ.r rfl rfl rfl rfl rfl (rd_move rfl rfl) ?_
  refine WJ.set 82 rfl (v' := .bool true) (by rfl) ?_
  refine WJ.r rfl rfl rfl rfl rfl (rd_move rfl rfl) ?_
  refine WJ.r rfl rfl rfl rfl rfl (rd_seq rfl rfl rfl) ?_
  refine WJ.r rfl rfl rfl rfl rfl (rd_pickt rfl rfl rfl) ?_
  refine WJ.r rfl rfl rfl rfl rfl (rd_move rfl rfl) ?_
  refine WJ.set 86 rfl (v' := .bool true) (by rfl) ?_
  (refine WJ.r rfl rfl rfl rfl rfl (rd_fa (q := 2) rfl rfl Tryd.underlying24 rfl (by kernel_rfl) rfl) ?_)
  (refine WJ.r rfl rfl rfl rfl rfl (ld rfl rfl .tc Tryd.underlying3 rfl (by rfl)) ?_)
  refine WJ.r rfl rfl rfl rfl rfl (rd_eql rfl rfl rfl) ?_
  refine WJ.r rfl rfl rfl rfl rfl (rd_pickt rfl rfl rfl) ?_
  refine WJ.r rfl rfl rfl rfl rfl (rd_assign rfl rfl) ?_
  refine WJ.nil ?_
  refine WL.nt ?_
  refine WC.ret ?_
  exact WX.retN rfl (.tmp rfl .nil) fun w' hS => ⟨by rfl, hS.below⟩
end Go.Proofs.YtikcjkifhliidaaDoor
