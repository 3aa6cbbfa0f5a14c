/-
  The statement ShowHolds out of the walk of its Go function.
-/
import Derived.Test.YtkdlonihbjhhoaaGreatDoorDShowHolds
namespace Go.Proofs.YtkdlonihbjhhoaaGreatDoor.showHolds
open Go.ChangeShapes Go.WideShapes Go.ChangeAt Go.RowKit
set_option linter.unusedVariables false
set_option linter.unusedSimpArgs false

theorem a1 : (Rows.showHoldsUptoRow.inPlace == Tryz.prog.inPlace 9) = true := by kernel_rfl
theorem a2 : (Rows.showHoldsUptoRow.unfollowed == Tryz.prog.unfollowed 9) = true := by kernel_rfl
theorem a3 : (Rows.showHoldsUptoRow.recurses == Tryz.prog.recurses 9) = true := by kernel_rfl
theorem a4 : (Rows.showHoldsUptoRow.named == Tryz.prog.varsNamed 9) = true := by kernel_rfl
theorem a5 : Go.mapsRowed Tryz.prog = true := by kernel_rfl
theorem closed : joinedFacts Tryz.prog 9 Tryz.f9 (Rows.OpenSpec.upto Rows.showHoldsSpec).bare Rows.showHoldsUptoRow = true := by
  unfold joinedFacts
  rw [a1, a2, a3, a4, laid, a5]
  kernel_rfl
theorem said : Rows.ShowHoldsUptoSaid :=
  OpenClaim.holds_of_cond 9 Tryz.f9 rfl rfl rfl rfl rfl rfl rfl ⟨rfl, rfl, rfl, rfl, rfl⟩ rfl rfl rfl rfl rfl (by kernel_rfl) Tryz.func9 closed
    (of_decide_eq_true (by kernel_rfl)) (by unfold Func.isWrapper; first | (rw [if_pos (by decide +kernel)]; kernel_rfl) | (rw [if_neg (by decide +kernel)]; exact ⟨rfl, rfl⟩))
    (fun os started H enc _ F => by rw [OpenClaim.pre_eq_preRow]; exact lifted os started H enc F)

theorem plain (f : FuncId) (fn : Func) (hf : Tryz.pinned.checked.prog.funcNamed "domino/dominolaw32.ShowHolds" = some f) (hfn : Tryz.pinned.checked.prog.funcs[f]? = some fn) :
    false = Tryz.pinned.checked.prog.looks [] ∧ ∀ (j : Nat) t, fn.params[j]? = some t → Tryz.pinned.checked.prog.wantsStandIn t = false := by
  obtain rfl : f = 9 := Option.some.inj ((show Tryz.prog.funcNamed "domino/dominolaw32.ShowHolds" = some 9 by kernel_rfl).symm.trans hf) |>.symm
  obtain rfl : fn = Tryz.f9 := (Option.some.inj (Tryz.func9.symm.trans hfn)).symm
  refine ⟨by kernel_rfl, fun j t ht => ?_⟩
  rw [Tryz.params9] at ht
  have hm : t = 30 ∨ t = 33 ∨ t = 43 := by simpa using Array.mem_of_getElem? ht
  rcases hm with rfl | rfl | rfl
  · exact (show Tryz.prog.wantsStandIn 30 = false by kernel_rfl)
  · exact (show Tryz.prog.wantsStandIn 33 = false by kernel_rfl)
  · exact (show Tryz.prog.wantsStandIn 43 = false by kernel_rfl)

theorem proved : Rows.ShowHoldsUptoCardSaid :=
  Claim7.holds_tied_plain_at .later [] _ _ _ _ said (fun _ h => by cases h) (by kernel_rfl) (fun _ h => by cases h) showHoldsUpto_row_tie rfl ⟨rfl, rfl⟩ (by kernel_rfl) rfl plain (by kernel_rfl)
end Go.Proofs.YtkdlonihbjhhoaaGreatDoor.showHolds
