/-
  The statement ShowCredentials out of the walk of its Go function.
-/
import Derived.Test.YtkdlonihbjhhoaaGreatDoorDShowCredentials
namespace Go.Proofs.YtkdlonihbjhhoaaGreatDoor.showCredentials
open Go.ChangeShapes Go.WideShapes Go.ChangeAt Go.RowKit
set_option linter.unusedVariables false
set_option linter.unusedSimpArgs false

theorem a1 : (Rows.showCredentialsUptoRow.inPlace == Tryz.prog.inPlace 8) = true := by kernel_rfl
theorem a2 : (Rows.showCredentialsUptoRow.unfollowed == Tryz.prog.unfollowed 8) = true := by kernel_rfl
theorem a3 : (Rows.showCredentialsUptoRow.recurses == Tryz.prog.recurses 8) = true := by kernel_rfl
theorem a4 : (Rows.showCredentialsUptoRow.named == Tryz.prog.varsNamed 8) = true := by kernel_rfl
theorem a5 : Go.mapsRowed Tryz.prog = true := by kernel_rfl
theorem closed : joinedFacts Tryz.prog 8 Tryz.f8 (Rows.OpenSpec.upto Rows.showCredentialsSpec).bare Rows.showCredentialsUptoRow = true := by
  unfold joinedFacts
  rw [a1, a2, a3, a4, laid, a5]
  kernel_rfl
theorem said : Rows.ShowCredentialsUptoSaid :=
  OpenClaim.holds_of_cond 8 Tryz.f8 rfl rfl rfl rfl rfl rfl rfl ⟨rfl, rfl, rfl, rfl, rfl⟩ rfl rfl rfl rfl rfl (by kernel_rfl) Tryz.func8 closed
    (of_decide_eq_true (by kernel_rfl)) (by unfold Func.isWrapper; first | (rw [if_pos (by decide +kernel)]; kernel_rfl) | (rw [if_neg (by decide +kernel)]; exact ⟨rfl, rfl⟩))
    (fun os started H enc _ F => by rw [OpenClaim.pre_eq_preRow]; exact lifted os started H enc F)

theorem plain (f : FuncId) (fn : Func) (hf : Tryz.pinned.checked.prog.funcNamed "domino/dominolaw32.ShowCredentials" = some f) (hfn : Tryz.pinned.checked.prog.funcs[f]? = some fn) :
    false = Tryz.pinned.checked.prog.looks [] ∧ ∀ (j : Nat) t, fn.params[j]? = some t → Tryz.pinned.checked.prog.wantsStandIn t = false := by
  obtain rfl : f = 8 := Option.some.inj ((show Tryz.prog.funcNamed "domino/dominolaw32.ShowCredentials" = some 8 by kernel_rfl).symm.trans hf) |>.symm
  obtain rfl : fn = Tryz.f8 := (Option.some.inj (Tryz.func8.symm.trans hfn)).symm
  refine ⟨by kernel_rfl, fun j t ht => ?_⟩
  rw [Tryz.params8] at ht
  have hm : t = 30 ∨ t = 33 ∨ t = 43 := by simpa using Array.mem_of_getElem? ht
  rcases hm with rfl | rfl | rfl
  · exact (show Tryz.prog.wantsStandIn 30 = false by kernel_rfl)
  · exact (show Tryz.prog.wantsStandIn 33 = false by kernel_rfl)
  · exact (show Tryz.prog.wantsStandIn 43 = false by kernel_rfl)

theorem proved : Rows.ShowCredentialsUptoCardSaid :=
  Claim7.holds_tied_plain_at .later [] _ _ _ _ said (fun _ h => by cases h) (by kernel_rfl) (fun _ h => by cases h) showCredentialsUpto_row_tie rfl ⟨rfl, rfl⟩ (by kernel_rfl) rfl plain (by kernel_rfl)
end Go.Proofs.YtkdlonihbjhhoaaGreatDoor.showCredentials
