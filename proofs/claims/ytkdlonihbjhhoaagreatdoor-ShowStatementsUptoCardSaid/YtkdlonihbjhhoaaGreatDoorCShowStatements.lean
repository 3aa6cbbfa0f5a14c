/-
  The statement ShowStatements out of the walk of its Go function.
-/
import Derived.Test.YtkdlonihbjhhoaaGreatDoorDShowStatements
namespace Go.Proofs.YtkdlonihbjhhoaaGreatDoor.showStatements
open Go.ChangeShapes Go.WideShapes Go.ChangeAt Go.RowKit
set_option linter.unusedVariables false
set_option linter.unusedSimpArgs false

theorem a1 : (Rows.showStatementsUptoRow.inPlace == Tryz.prog.inPlace 4) = true := by kernel_rfl
theorem a2 : (Rows.showStatementsUptoRow.unfollowed == Tryz.prog.unfollowed 4) = true := by kernel_rfl
theorem a3 : (Rows.showStatementsUptoRow.recurses == Tryz.prog.recurses 4) = true := by kernel_rfl
theorem a4 : (Rows.showStatementsUptoRow.named == Tryz.prog.varsNamed 4) = true := by kernel_rfl
theorem a5 : Go.mapsRowed Tryz.prog = true := by kernel_rfl
theorem closed : joinedFacts Tryz.prog 4 Tryz.f4 (Rows.OpenSpec.upto Rows.showStatementsSpec).bare Rows.showStatementsUptoRow = true := by
  unfold joinedFacts
  rw [a1, a2, a3, a4, laid, a5]
  kernel_rfl
theorem said : Rows.ShowStatementsUptoSaid :=
  OpenClaim.holds_of_cond 4 Tryz.f4 rfl rfl rfl rfl rfl rfl rfl ⟨rfl, rfl, rfl, rfl, rfl⟩ rfl rfl rfl rfl rfl (by kernel_rfl) Tryz.func4 closed
    (of_decide_eq_true (by kernel_rfl)) (by unfold Func.isWrapper; first | (rw [if_pos (by decide +kernel)]; kernel_rfl) | (rw [if_neg (by decide +kernel)]; exact ⟨rfl, rfl⟩))
    (fun os started H enc _ F => by rw [OpenClaim.pre_eq_preRow]; exact lifted os started H enc F)

theorem plain (f : FuncId) (fn : Func) (hf : Tryz.pinned.checked.prog.funcNamed "domino/dominolaw32.ShowStatements" = some f) (hfn : Tryz.pinned.checked.prog.funcs[f]? = some fn) :
    false = Tryz.pinned.checked.prog.looks [] ∧ ∀ (j : Nat) t, fn.params[j]? = some t → Tryz.pinned.checked.prog.wantsStandIn t = false := by
  obtain rfl : f = 4 := Option.some.inj ((show Tryz.prog.funcNamed "domino/dominolaw32.ShowStatements" = some 4 by kernel_rfl).symm.trans hf) |>.symm
  obtain rfl : fn = Tryz.f4 := (Option.some.inj (Tryz.func4.symm.trans hfn)).symm
  refine ⟨by kernel_rfl, fun j t ht => ?_⟩
  rw [Tryz.params4] at ht
  have hm : t = 30 ∨ t = 33 ∨ t = 43 := by simpa using Array.mem_of_getElem? ht
  rcases hm with rfl | rfl | rfl
  · exact (show Tryz.prog.wantsStandIn 30 = false by kernel_rfl)
  · exact (show Tryz.prog.wantsStandIn 33 = false by kernel_rfl)
  · exact (show Tryz.prog.wantsStandIn 43 = false by kernel_rfl)

theorem proved : Rows.ShowStatementsUptoCardSaid :=
  Claim7.holds_tied_plain_at .later [] _ _ _ _ said (fun _ h => by cases h) (by kernel_rfl) (fun _ h => by cases h) showStatementsUpto_row_tie rfl ⟨rfl, rfl⟩ (by kernel_rfl) rfl plain (by kernel_rfl)
end Go.Proofs.YtkdlonihbjhhoaaGreatDoor.showStatements
