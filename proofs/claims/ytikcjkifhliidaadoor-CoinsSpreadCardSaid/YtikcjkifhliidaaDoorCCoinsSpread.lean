/-
  The statement CoinsSpread out of the walk of its Go function.
-/
import Derived.Test.YtikcjkifhliidaaDoorCards
import Derived.Test.YtikcjkifhliidaaDoorTie
import Derived.Test.YtikcjkifhliidaaDoorCoiD
import Derived.Test.YtikcjkifhliidaaDoorLaid
import Derived.WalkKit
import Derived.ProofKit
import Derived.OpenShut
import Derived.ShutString
import Derived.ChangeOld
import Derived.Below
import Derived.Deep.DeepHandedRow
import Derived.Lay
import Derived.LaidMore
import Derived.Test.YtikcjkifhliidaaDoorOpz
import Derived.Test.YtikcjkifhliidaaDoorLaid
namespace Go.Proofs.YtikcjkifhliidaaDoor.coinsSpread
open Go.ChangeShapes Go.WideShapes Go.ChangeAt Go.RowKit
set_option linter.unusedVariables false
set_option linter.unusedSimpArgs false

theorem laid : laidOutB Tryd.prog = true := by kernel_rfl

theorem own : ownKnob Tryd.prog.godebug = none := by kernel_rfl

theorem tab {W : World} (h : laidMetH Tryd.prog Rows.coinsSpreadRow.laid W) : Tab W := by
  rw [MakeChecks.laidMetH_plain _ _ _ (by kernel_rfl)] at h
  obtain ⟨ps, h, _⟩ := h
  obtain ⟨_, h⟩ := laidVars_tail h
  obtain ⟨_, h⟩ := laidVars_tail h
  exact tab_of_vars (by kernel_rfl) Tryd.underlying123 Tryd.underlying50 (by kernel_rfl) (by kernel_rfl) h

theorem reads (os : Os) {H : Type} (enc : TypeId × Value → H) : ∃ places, DataW.whole enc Tryd.prog ((World.laidAll Tryd.prog os Rows.coinsSpreadRow.laid).forCall (fun _ _ => 0) ⟨#[], #[(.int .u8 0)], []⟩).memory Tryd.f7.params.toList Rows.coinsSpreadSpec.vars false #[(.int .u8 0)].toList 8 = some ([.lit (.int .u8 0)], [], places) :=
  ⟨[], by kernel_rfl⟩

theorem met (os : Os) : laidMetH Tryd.prog Rows.coinsSpreadRow.laid ((World.laidAll Tryd.prog os Rows.coinsSpreadRow.laid).forCall (fun _ _ => 0) ⟨#[], #[(.int .u8 0)], []⟩).memory := by
  rw [MakeChecks.laidMetH_plain _ _ _ (by kernel_rfl)]; exact laidMet_laidAll _ (by kernel_rfl) (by kernel_rfl)

theorem sized (os : Os) {H : Type} (enc : TypeId × Value → H) : (OpenSpec.ofChange Rows.coinsSpreadSpec).bare.sizedB enc Tryd.prog Tryd.f7 false ((World.laidAll Tryd.prog os Rows.coinsSpreadRow.laid).forCall (fun _ _ => 0) ⟨#[], #[(.int .u8 0)], []⟩).memory #[(.int .u8 0)] 8 = true := by kernel_rfl

theorem prerow (os : Os) {H : Type} (enc : TypeId × Value → H) : (OpenSpec.ofChange Rows.coinsSpreadSpec).preRow enc Tryd.prog Tryd.f7 Rows.coinsSpreadRow.domain false Rows.coinsSpreadRow.laid ((World.laidAll Tryd.prog os Rows.coinsSpreadRow.laid).forCall (fun _ _ => 0) ⟨#[], #[(.int .u8 0)], []⟩).memory #[(.int .u8 0)] := by
  obtain ⟨places, hx⟩ := reads os enc
  exact OpenSpec.preRow_of_cond 8 hx (by kernel_rfl) (fun k hk => by cases hk) (sized os enc) (met os)

theorem there (os : Os) {H : Type} (enc : TypeId × Value → H) : ∃ (w : World) (tape : Tape) (i : Input), w.os = os ∧ (w.forCall tape i).Shaped Tryd.checked.prog ∧ i.vars = [] ∧ Input.okWide Tryd.checked.prog (w.forCall tape i) .any w.heap.size 7 i ∧ (OpenSpec.ofChange Rows.coinsSpreadSpec).preRow enc Tryd.checked.prog Tryd.f7 Rows.coinsSpreadRow.domain false Rows.coinsSpreadRow.laid (w.forCall tape i).memory i.args ∧ ({ modest := false } : Assume).holds Tryd.checked.prog (lone (Frame.enter Tryd.checked.prog 7 i.args .normal) [] (w.forCall tape i)) :=
  witness_row_at (enc := enc) (C := Tryd.checked) (fn := Tryd.f7) (s := OpenSpec.ofChange Rows.coinsSpreadSpec) (conds := Rows.coinsSpreadRow.domain) (apart := false) (laid := Rows.coinsSpreadRow.laid) false (World.laidAll Tryd.prog os Rows.coinsSpreadRow.laid) #[(.int .u8 0)] (World.laidAll_os _ _ _) (by kernel_rfl) (by kernel_rfl) (by kernel_rfl) (prerow os enc)

set_option maxHeartbeats 1000000 in
set_option maxRecDepth 100000 in
theorem lifted (os : Os) (started : os.Started) (H : Type) (enc : TypeId × Value → H) (F : Stop.Interp) :
    ReturnsInHanded {} Tryd.checked os 7 .any ((OpenSpec.ofChange Rows.coinsSpreadSpec).preRow enc Tryd.prog Tryd.f7 Rows.coinsSpreadRow.domain false Rows.coinsSpreadRow.laid) (((OpenSpec.ofChange Rows.coinsSpreadSpec).at F).post enc Tryd.prog Tryd.f7 false true false false) := by
  refine returnsInHanded_of_row (C := Tryd.checked) (s := OpenSpec.ofChange Rows.coinsSpreadSpec) own started (by kernel_rfl) Tryd.func7 (there os enc) ?_
  intro W base args ds gs before hval0 hW hcnd _ hwt0 hL _ _
  have hTab : True → Tab W := fun _ => tab hL
  clear hL
  have hval : ∀ (j : Nat) t v, Tryd.f7.params[j]? = some t → args[j]? = some v → Value.okWide Tryd.prog W .any base t v := hval0
  have hW' := hW
  obtain ⟨p, q, hA0, hV, rfl, hfz, hnd⟩ := hW
  have hA : DataW.TrodAll enc Tryd.prog W 0 (fun _ => true) true Tryd.f7.params.toList args.toList ds p := hA0
  rw [Tryd.params7] at hA hval
  obtain ⟨v0, vs0, d0, ds0, p0, q0, hargs, rfl, rfl, h0, r0⟩ := trodAll_cons hA
  obtain ⟨rfl, rfl, rfl⟩ := trodAll_nil r0
  obtain rfl : args = #[v0] := by cases args; simp_all
  obtain ⟨rfl, rfl⟩ := trodVars_none hV
  have w0 : Wt Tryd.prog 5 d0 := wt_all hwt0 (j := 0) (by rw [Tryd.params7]; rfl) rfl
  have k0 := h0
  obtain ⟨fu0, f0⟩ := h0
  obtain ⟨q0, rfl⟩ := okWide_int Tryd.underlying5 (hval 0 5 v0 rfl rfl)
  obtain ⟨a0, e0, z0_0⟩ := op_int Tryd.underlying5 f0
  have e0' := (List.cons.inj e0).1
  rw [e0'] at k0 hW' ⊢
  clear hA0 hval0
  have hcall : Calls Tryd.prog 7 #[.int .u8 a0] W (fun e w' => e = .returned (.bool true) ∧ Below W.heap.size W w') := coinsSpread_c (b := a0) (by first | assumption | rfl | omega | (have := wf_u8 (by assumption); omega) | (have := wf_i64 (by assumption); omega) | (simp [maxLen] at *; omega) | (intro y hy; exact (‹∀ y ∈ _, _› y hy))) (by first | assumption | rfl | omega | (have := wf_u8 (by assumption); omega) | (have := wf_i64 (by assumption); omega) | (simp [maxLen] at *; omega) | (intro y hy; exact (‹∀ y ∈ _, _› y hy))) (hTab trivial)
  refine hcall.mono fun e W' ⟨he, bel⟩ => ?_
  subst he
  exact ⟨_, rfl, _, _, _, [], _, [], hW', trodAll_mk1 (shut_bool Tryd.underlying4 _), (trodAll_cons_mk (Below.trod laid (by kernel_rfl) (of_decide_eq_true (by kernel_rfl)) k0 bel (fun x hx => hW'.lt x (by simp [hx]))) trodAll_mk0), rfl, bel.frame _, fun h => by cases h⟩

theorem said : Rows.CoinsSpreadSaid :=
  OpenClaim.holds_of_cond 7 Tryd.f7 rfl rfl rfl rfl rfl rfl rfl ⟨rfl, rfl, rfl, rfl, rfl⟩ rfl rfl rfl rfl rfl (by kernel_rfl) Tryd.func7 (by kernel_rfl)
    (of_decide_eq_true (by kernel_rfl)) (by unfold Func.isWrapper; first | (rw [if_pos (by decide +kernel)]; kernel_rfl) | (rw [if_neg (by decide +kernel)]; exact ⟨rfl, rfl⟩))
    (fun os started H enc _ F => by rw [OpenClaim.pre_eq_preRow]; exact lifted os started H enc F)

theorem plain (f : FuncId) (fn : Func) (hf : Tryd.pinned.checked.prog.funcNamed "domino/dominolaw06.CoinsSpread" = some f) (hfn : Tryd.pinned.checked.prog.funcs[f]? = some fn) :
    false = Tryd.pinned.checked.prog.looks [] ∧ ∀ (j : Nat) t, fn.params[j]? = some t → Tryd.pinned.checked.prog.wantsStandIn t = false := by
  obtain rfl : f = 7 := Option.some.inj ((show Tryd.prog.funcNamed "domino/dominolaw06.CoinsSpread" = some 7 by kernel_rfl).symm.trans hf) |>.symm
  obtain rfl : fn = Tryd.f7 := (Option.some.inj (Tryd.func7.symm.trans hfn)).symm
  refine ⟨by kernel_rfl, fun j t ht => ?_⟩
  rw [Tryd.params7] at ht
  have hm : t = 5 := by simpa using Array.mem_of_getElem? ht
  subst hm; exact (show Tryd.prog.wantsStandIn 5 = false by kernel_rfl)

theorem proved : Rows.CoinsSpreadCardSaid :=
  Claim7.holds_tied_plain_at .later [] _ _ _ _ said (fun _ h => by cases h) (by kernel_rfl) (fun _ h => by cases h) coinsSpread_row_tie rfl ⟨rfl, rfl⟩ (by kernel_rfl) rfl plain (by kernel_rfl)
end Go.Proofs.YtikcjkifhliidaaDoor.coinsSpread
