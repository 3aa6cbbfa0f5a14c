/-
  The statement TopCrossHides out of the walk of its Go function.
-/
import Derived.Test.YtchonigdjamphaaGreatDoorDTopCrossHides
namespace Go.Proofs.YtchonigdjamphaaGreatDoor.topCrossHides
open Go.ChangeShapes Go.WideShapes Go.ChangeAt Go.RowKit
set_option linter.unusedVariables false
set_option linter.unusedSimpArgs false

theorem a1 : (Rows.topCrossHidesRow.inPlace == Tryz.prog.inPlace 3) = true := by kernel_rfl
theorem a2 : (Rows.topCrossHidesRow.unfollowed == Tryz.prog.unfollowed 3) = true := by kernel_rfl
theorem a3 : (Rows.topCrossHidesRow.recurses == Tryz.prog.recurses 3) = true := by kernel_rfl
theorem a4 : (Rows.topCrossHidesRow.named == Tryz.prog.varsNamed 3) = true := by kernel_rfl
theorem a5 : Go.mapsRowed Tryz.prog = true := by kernel_rfl
theorem closed : joinedFacts Tryz.prog 3 Tryz.f3 (OpenSpec.ofChange Rows.topCrossHidesSpec).bare Rows.topCrossHidesRow = true := by
  unfold joinedFacts
  rw [a1, a2, a3, a4, laid, a5]
  kernel_rfl
theorem said : Rows.TopCrossHidesSaid :=
  OpenClaim.holds_of_cond 3 Tryz.f3 rfl rfl rfl rfl rfl rfl rfl ⟨rfl, rfl, rfl, rfl, rfl⟩ rfl rfl rfl rfl rfl (by kernel_rfl) Tryz.func3 closed
    (of_decide_eq_true (by kernel_rfl)) (by unfold Func.isWrapper; first | (rw [if_pos (by decide +kernel)]; kernel_rfl) | (rw [if_neg (by decide +kernel)]; exact ⟨rfl, rfl⟩))
    (fun os started H enc _ F => by rw [OpenClaim.pre_eq_preRow]; exact lifted os started H enc F)

theorem plain (f : FuncId) (fn : Func) (hf : Tryz.pinned.checked.prog.funcNamed "domino/dominotop.TopCrossHides" = some f) (hfn : Tryz.pinned.checked.prog.funcs[f]? = some fn) :
    true = Tryz.pinned.checked.prog.looks [] ∧ ∀ (j : Nat) t, fn.params[j]? = some t → Tryz.pinned.checked.prog.wantsStandIn t = false := by
  obtain rfl : f = 3 := Option.some.inj ((show Tryz.prog.funcNamed "domino/dominotop.TopCrossHides" = some 3 by kernel_rfl).symm.trans hf) |>.symm
  obtain rfl : fn = Tryz.f3 := (Option.some.inj (Tryz.func3.symm.trans hfn)).symm
  refine ⟨by kernel_rfl, fun j t ht => ?_⟩
  rw [Tryz.params3] at ht
  have hm : t = 30 ∨ t = 32 ∨ t = 35 := by simpa using Array.mem_of_getElem? ht
  rcases hm with rfl | rfl | rfl
  · exact (show Tryz.prog.wantsStandIn 30 = false by kernel_rfl)
  · exact (show Tryz.prog.wantsStandIn 32 = false by kernel_rfl)
  · exact (show Tryz.prog.wantsStandIn 35 = false by kernel_rfl)

theorem proved : Rows.TopCrossHidesCardSaid :=
  Claim7.holds_tied_plain_at .later [] _ _ _ _ said (fun _ h => by cases h) (by kernel_rfl) (fun _ h => by cases h) topCrossHides_row_tie rfl ⟨rfl, rfl⟩ (by kernel_rfl) rfl plain (by kernel_rfl)
end Go.Proofs.YtchonigdjamphaaGreatDoor.topCrossHides
