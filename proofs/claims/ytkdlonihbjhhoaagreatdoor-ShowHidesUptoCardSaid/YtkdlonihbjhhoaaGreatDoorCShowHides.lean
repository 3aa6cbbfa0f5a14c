/-
  The statement ShowHides out of the walk of its Go function.
-/
import Derived.Test.YtkdlonihbjhhoaaGreatDoorDShowHides
namespace Go.Proofs.YtkdlonihbjhhoaaGreatDoor.showHides
open Go.ChangeShapes Go.WideShapes Go.ChangeAt Go.RowKit
set_option linter.unusedVariables false
set_option linter.unusedSimpArgs false

theorem a1 : (Rows.showHidesUptoRow.inPlace == Tryz.prog.inPlace 7) = true := by kernel_rfl
theorem a2 : (Rows.showHidesUptoRow.unfollowed == Tryz.prog.unfollowed 7) = true := by kernel_rfl
theorem a3 : (Rows.showHidesUptoRow.recurses == Tryz.prog.recurses 7) = true := by kernel_rfl
theorem a4 : (Rows.showHidesUptoRow.named == Tryz.prog.varsNamed 7) = true := by kernel_rfl
theorem a5 : Go.mapsRowed Tryz.prog = true := by kernel_rfl
theorem closed : joinedFacts Tryz.prog 7 Tryz.f7 (Rows.OpenSpec.upto Rows.showHidesSpec).bare Rows.showHidesUptoRow = true := by
  unfold joinedFacts
  rw [a1, a2, a3, a4, laid, a5]
  kernel_rfl
theorem said : Rows.ShowHidesUptoSaid :=
  OpenClaim.holds_of_cond 7 Tryz.f7 rfl rfl rfl rfl rfl rfl rfl ⟨rfl, rfl, rfl, rfl, rfl⟩ rfl rfl rfl rfl rfl (by kernel_rfl) Tryz.func7 closed
    (of_decide_eq_true (by kernel_rfl)) (by unfold Func.isWrapper; first | (rw [if_pos (by decide +kernel)]; kernel_rfl) | (rw [if_neg (by decide +kernel)]; exact ⟨rfl, rfl⟩))
    (fun os started H enc _ F => by rw [OpenClaim.pre_eq_preRow]; exact lifted os started H enc F)

theorem plain (f : FuncId) (fn : Func) (hf : Tryz.pinned.checked.prog.funcNamed "domino/dominolaw32.ShowHides" = some f) (hfn : Tryz.pinned.checked.prog.funcs[f]? = some fn) :
    false = Tryz.pinned.checked.prog.looks [] ∧ ∀ (j : Nat) t, fn.params[j]? = some t → Tryz.pinned.checked.prog.wantsStandIn t = false := by
  obtain rfl : f = 7 := Option.some.inj ((show Tryz.prog.funcNamed "domino/dominolaw32.ShowHides" = some 7 by kernel_rfl).symm.trans hf) |>.symm
  obtain rfl : fn = Tryz.f7 := (Option.some.inj (Tryz.func7.symm.trans hfn)).symm
  refine ⟨by kernel_rfl, fun j t ht => ?_⟩
  rw [Tryz.params7] at ht
  have hm : t = 30 ∨ t = 33 ∨ t = 43 := by simpa using Array.mem_of_getElem? ht
  rcases hm with rfl | rfl | rfl
  · exact (show Tryz.prog.wantsStandIn 30 = false by kernel_rfl)
  · exact (show Tryz.prog.wantsStandIn 33 = false by kernel_rfl)
  · exact (show Tryz.prog.wantsStandIn 43 = false by kernel_rfl)

theorem proved : Rows.ShowHidesUptoCardSaid :=
  Claim7.holds_tied_plain_at .later [] _ _ _ _ said (fun _ h => by cases h) (by kernel_rfl) (fun _ h => by cases h) showHidesUpto_row_tie rfl ⟨rfl, rfl⟩ (by kernel_rfl) rfl plain (by kernel_rfl)
end Go.Proofs.YtkdlonihbjhhoaaGreatDoor.showHides
