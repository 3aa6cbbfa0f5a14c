/-
  The statement PseudonymOnce out of the walk of its Go function.
-/
import Derived.Test.YtddoigmffkmpcaaGreatDoorCards
import Derived.Test.YtddoigmffkmpcaaGreatDoorTie
import Derived.Test.YtddoigmffkmpcaaGreatDoorWO1
import Derived.WalkKit
import Derived.ProofKit
import Derived.OpenShut
import Derived.ShutString
import Derived.ChangeOld
import Derived.Below
import Derived.Deep.DeepHandedRow
import Derived.Lay
import Derived.LaidMore
namespace Go.Proofs.YtddoigmffkmpcaaGreatDoor.pseudonymOnce
open Go.ChangeShapes Go.WideShapes Go.ChangeAt Go.RowKit
set_option linter.unusedVariables false
set_option linter.unusedSimpArgs false

theorem laid : laidOutB Tryz.prog = true := by kernel_rfl

theorem own : ownKnob Tryz.prog.godebug = none := by kernel_rfl

set_option maxRecDepth 100000 in
theorem op_T26 {H : Type} {enc : TypeId × Value → H} {w : World} {held : Bool} {fuel : Nat} {cs : List Value} {x : DataW H × List MemPlace} (h : DataW.trod enc Tryz.prog w 0 (fun _ => true) held fuel 26 cs = some x) (hz : Wt Tryz.prog 26 x.1) :
    ∃ (x_0_0 : List UInt8) (x_0_1 : List UInt8) (x_1 : List UInt8) (x_2 : List UInt8), cs = [.string (S x_0_0), .string (S x_0_1), .string (S x_1), .string (S x_2)] ∧ (x_0_0.length ≤ 140737488351232) ∧ (x_0_1.length ≤ 140737488351232) ∧ (x_1.length ≤ 140737488351232) ∧ (x_2.length ≤ 140737488351232) := by
  have hl : cs.length = 4 := (op_struct Tryz.underlying26 h).1.trans (by kernel_rfl)
  obtain ⟨c0, c1, c2, c3, rfl⟩ : ∃ c0 c1 c2 c3, cs = [c0, c1, c2, c3] := by
    match cs, hl with
    | [c0, c1, c2, c3], _ => exact ⟨c0, c1, c2, c3, rfl⟩
  clear hl
  obtain ⟨_, m2, hf3⟩ := opz_struct Tryz.underlying26 h hz
  obtain ⟨y5, g4, hz6⟩ := hf3 0 _ rfl
  replace g4 : DataW.trod enc Tryz.prog w 0 (fun _ => true) held m2 24 [c0, c1] = some y5 := by rw [show Tryz.prog.cellsOf 24 = 2 from by kernel_rfl] at g4; exact g4
  obtain ⟨_, m8, hf9⟩ := opz_struct Tryz.underlying24 g4 hz6
  obtain ⟨y11, g10, hz12⟩ := hf9 0 _ rfl
  replace g10 : DataW.trod enc Tryz.prog w 0 (fun _ => true) held m8 22 [c0] = some y11 := by rw [show Tryz.prog.cellsOf 22 = 1 from by kernel_rfl] at g10; exact g10
  obtain ⟨x_0_0, e13, h14⟩ := opz_str Tryz.underlying22 g10 hz12; obtain rfl := (List.cons.inj e13).1
  obtain ⟨y16, g15, hz17⟩ := hf9 1 _ rfl
  replace g15 : DataW.trod enc Tryz.prog w 0 (fun _ => true) held m8 22 [c1] = some y16 := by rw [show Tryz.prog.cellsOf 22 = 1 from by kernel_rfl] at g15; exact g15
  obtain ⟨x_0_1, e18, h19⟩ := opz_str Tryz.underlying22 g15 hz17; obtain rfl := (List.cons.inj e18).1
  obtain ⟨y21, g20, hz22⟩ := hf3 1 _ rfl
  replace g20 : DataW.trod enc Tryz.prog w 0 (fun _ => true) held m2 22 [c2] = some y21 := by rw [show Tryz.prog.cellsOf 22 = 1 from by kernel_rfl] at g20; exact g20
  obtain ⟨x_1, e23, h24⟩ := opz_str Tryz.underlying22 g20 hz22; obtain rfl := (List.cons.inj e23).1
  obtain ⟨y26, g25, hz27⟩ := hf3 2 _ rfl
  replace g25 : DataW.trod enc Tryz.prog w 0 (fun _ => true) held m2 22 [c3] = some y26 := by rw [show Tryz.prog.cellsOf 22 = 1 from by kernel_rfl] at g25; exact g25
  obtain ⟨x_2, e28, h29⟩ := opz_str Tryz.underlying22 g25 hz27; obtain rfl := (List.cons.inj e28).1
  exact ⟨x_0_0, x_0_1, x_1, x_2, rfl, h14, h19, h24, h29⟩

theorem tab {W : World} (h : laidMetH Tryz.prog Rows.pseudonymOnceRow.laid W) : Tab W := by
  rw [MakeChecks.laidMetH_plain _ _ _ (by kernel_rfl)] at h
  obtain ⟨ps, h, _⟩ := h
  obtain ⟨_, h⟩ := laidVars_tail h
  obtain ⟨_, h⟩ := laidVars_tail h
  exact tab_of_vars (by kernel_rfl) Tryz.underlying205 Tryz.underlying49 (by kernel_rfl) (by kernel_rfl) h

theorem tabd {W : World} (h : laidMetH Tryz.prog Rows.pseudonymOnceRow.laid W) : TabD W := by
  rw [MakeChecks.laidMetH_plain _ _ _ (by kernel_rfl)] at h
  obtain ⟨ps, h, _⟩ := h
  obtain ⟨_, h⟩ := laidVars_tail h
  exact tabd_of_is (tab_of_vars (by kernel_rfl) Tryz.underlying182 Tryz.underlying5 (by kernel_rfl) (by kernel_rfl) h)

theorem reads (os : Os) {H : Type} (enc : TypeId × Value → H) : ∃ places, DataW.whole enc Tryz.prog ((World.laidAll Tryz.prog os Rows.pseudonymOnceRow.laid).forCall (fun _ _ => 0) ⟨#[], #[(.agg #[.string (S []), .string (S []), .string (S []), .string (S [])]), (.string (S []))], []⟩).memory Tryz.f5.params.toList Rows.pseudonymOnceSpec.vars false #[(.agg #[.string (S []), .string (S []), .string (S []), .string (S [])]), (.string (S []))].toList 8 = some ([.agg [.agg [.lit (.string []), .lit (.string [])], .lit (.string []), .lit (.string [])], .lit (.string [])], [], places) :=
  ⟨[], by kernel_rfl⟩

theorem met (os : Os) : laidMetH Tryz.prog Rows.pseudonymOnceRow.laid ((World.laidAll Tryz.prog os Rows.pseudonymOnceRow.laid).forCall (fun _ _ => 0) ⟨#[], #[(.agg #[.string (S []), .string (S []), .string (S []), .string (S [])]), (.string (S []))], []⟩).memory := by
  rw [MakeChecks.laidMetH_plain _ _ _ (by kernel_rfl)]; exact laidMet_laidAll _ (by kernel_rfl) (by kernel_rfl)

theorem sized (os : Os) {H : Type} (enc : TypeId × Value → H) : (OpenSpec.ofChange Rows.pseudonymOnceSpec).bare.sizedB enc Tryz.prog Tryz.f5 false ((World.laidAll Tryz.prog os Rows.pseudonymOnceRow.laid).forCall (fun _ _ => 0) ⟨#[], #[(.agg #[.string (S []), .string (S []), .string (S []), .string (S [])]), (.string (S []))], []⟩).memory #[(.agg #[.string (S []), .string (S []), .string (S []), .string (S [])]), (.string (S []))] 8 = true := by kernel_rfl

theorem prerow (os : Os) {H : Type} (enc : TypeId × Value → H) : (OpenSpec.ofChange Rows.pseudonymOnceSpec).preRow enc Tryz.prog Tryz.f5 Rows.pseudonymOnceRow.domain false Rows.pseudonymOnceRow.laid ((World.laidAll Tryz.prog os Rows.pseudonymOnceRow.laid).forCall (fun _ _ => 0) ⟨#[], #[(.agg #[.string (S []), .string (S []), .string (S []), .string (S [])]), (.string (S []))], []⟩).memory #[(.agg #[.string (S []), .string (S []), .string (S []), .string (S [])]), (.string (S []))] := by
  obtain ⟨places, hx⟩ := reads os enc
  exact OpenSpec.preRow_of_cond 8 hx (by kernel_rfl) (fun k hk => by cases hk) (sized os enc) (met os)

theorem there (os : Os) {H : Type} (enc : TypeId × Value → H) : ∃ (w : World) (tape : Tape) (i : Input), w.os = os ∧ (w.forCall tape i).Shaped Tryz.checked.prog ∧ i.vars = [] ∧ Input.okWide Tryz.checked.prog (w.forCall tape i) .any w.heap.size 5 i ∧ (OpenSpec.ofChange Rows.pseudonymOnceSpec).preRow enc Tryz.checked.prog Tryz.f5 Rows.pseudonymOnceRow.domain false Rows.pseudonymOnceRow.laid (w.forCall tape i).memory i.args ∧ ({ modest := false } : Assume).holds Tryz.checked.prog (lone (Frame.enter Tryz.checked.prog 5 i.args .normal) [] (w.forCall tape i)) :=
  witness_row_at (enc := enc) (C := Tryz.checked) (fn := Tryz.f5) (s := OpenSpec.ofChange Rows.pseudonymOnceSpec) (conds := Rows.pseudonymOnceRow.domain) (apart := false) (laid := Rows.pseudonymOnceRow.laid) false (World.laidAll Tryz.prog os Rows.pseudonymOnceRow.laid) #[(.agg #[.string (S []), .string (S []), .string (S []), .string (S [])]), (.string (S []))] (World.laidAll_os _ _ _) (by kernel_rfl) (by kernel_rfl) (by kernel_rfl) (prerow os enc)

set_option maxHeartbeats 1000000 in
set_option maxRecDepth 100000 in
theorem lifted (os : Os) (started : os.Started) (H : Type) (enc : TypeId × Value → H) (F : Stop.Interp) :
    ReturnsInHanded {} Tryz.checked os 5 .any ((OpenSpec.ofChange Rows.pseudonymOnceSpec).preRow enc Tryz.prog Tryz.f5 Rows.pseudonymOnceRow.domain false Rows.pseudonymOnceRow.laid) (((OpenSpec.ofChange Rows.pseudonymOnceSpec).at F).post enc Tryz.prog Tryz.f5 false true false false) := by
  refine returnsInHanded_of_row (C := Tryz.checked) (s := OpenSpec.ofChange Rows.pseudonymOnceSpec) own started (by kernel_rfl) Tryz.func5 (there os enc) ?_
  intro W base args ds gs before hval0 hW hcnd _ hwt0 hL _ _
  have hTab : True → Tab W := fun _ => tab hL
  have hTabD : True → TabD W := fun _ => tabd hL
  clear hL
  have hval : ∀ (j : Nat) t v, Tryz.f5.params[j]? = some t → args[j]? = some v → Value.okWide Tryz.prog W .any base t v := hval0
  have hW' := hW
  obtain ⟨p, q, hA0, hV, rfl, hfz, hnd⟩ := hW
  have hA : DataW.TrodAll enc Tryz.prog W 0 (fun _ => true) true Tryz.f5.params.toList args.toList ds p := hA0
  rw [Tryz.params5] at hA hval
  obtain ⟨v0, vs0, d0, ds0, p0, q0, hargs, rfl, rfl, h0, r0⟩ := trodAll_cons hA
  obtain ⟨v1, vs1, d1, ds1, p1, q1, rfl, rfl, rfl, h1, r1⟩ := trodAll_cons r0
  obtain ⟨rfl, rfl, rfl⟩ := trodAll_nil r1
  obtain rfl : args = #[v0, v1] := by cases args; simp_all
  obtain ⟨rfl, rfl⟩ := trodVars_none hV
  have w0 : Wt Tryz.prog 26 d0 := wt_all hwt0 (j := 0) (by rw [Tryz.params5]; rfl) rfl
  have w1 : Wt Tryz.prog 9 d1 := wt_all hwt0 (j := 1) (by rw [Tryz.params5]; rfl) rfl
  have k0 := h0
  obtain ⟨fu0, f0⟩ := h0
  obtain ⟨cs0, rfl, hz0⟩ : ∃ cs, v0 = .agg cs ∧ cs.size = Tryz.prog.cellsOf 26 := by have q := (hval 0 26 v0 rfl rfl); simp only [Value.okWide, Tryz.underlying26] at q; obtain ⟨cs, q1, q2, _⟩ := q; exact ⟨cs, q1, q2⟩
  obtain ⟨a0_0_0, a0_0_1, a0_1, a0_2, e0, z0_0, z0_1, z0_2, z0_3⟩ := op_T26 f0 w0
  obtain rfl : cs0 = #[.string (S a0_0_0), .string (S a0_0_1), .string (S a0_1), .string (S a0_2)] := Array.ext' e0
  have k1 := h1
  obtain ⟨fu1, f1⟩ := h1
  obtain ⟨q1, rfl⟩ := okWide_string Tryz.underlying9 (hval 1 9 v1 rfl rfl)
  obtain ⟨a1, e1, z1_0⟩ := opz_str Tryz.underlying9 f1 w1
  have e1' := (List.cons.inj e1).1
  rw [e1'] at k1 hW' ⊢
  clear hA0 hval0
  have hcall : Calls Tryz.prog 5 #[.agg #[.string (S a0_0_0), .string (S a0_0_1), .string (S a0_1), .string (S a0_2)], .string (S a1)] W (fun e w' => e = .returned (.bool true) ∧ Below W.heap.size W w') := psonce_l (k := ((a0_0_0, a0_0_1), a0_1, a0_2)) (s := a1) (hTab trivial) (hTabD trivial)
  refine hcall.mono fun e W' ⟨he, bel⟩ => ?_
  subst he
  exact ⟨_, rfl, _, _, _, [], _, [], hW', trodAll_mk1 (shut_bool Tryz.underlying4 _), (trodAll_cons_mk (Below.trod laid (by kernel_rfl) (of_decide_eq_true (by kernel_rfl)) k0 bel (fun x hx => hW'.lt x (by simp [hx]))) (trodAll_cons_mk (Below.trod laid (by kernel_rfl) (of_decide_eq_true (by kernel_rfl)) k1 bel (fun x hx => hW'.lt x (by simp [hx]))) trodAll_mk0)), rfl, bel.frame _, fun h => by cases h⟩

theorem said : Rows.PseudonymOnceSaid :=
  OpenClaim.holds_of_cond 5 Tryz.f5 rfl rfl rfl rfl rfl rfl rfl ⟨rfl, rfl, rfl, rfl, rfl⟩ rfl rfl rfl rfl rfl (by kernel_rfl) Tryz.func5 (by kernel_rfl)
    (of_decide_eq_true (by kernel_rfl)) (by unfold Func.isWrapper; first | (rw [if_pos (by decide +kernel)]; kernel_rfl) | (rw [if_neg (by decide +kernel)]; exact ⟨rfl, rfl⟩))
    (fun os started H enc _ F => by rw [OpenClaim.pre_eq_preRow]; exact lifted os started H enc F)

theorem plain (f : FuncId) (fn : Func) (hf : Tryz.pinned.checked.prog.funcNamed "domino/dominolaw48.PseudonymOnce" = some f) (hfn : Tryz.pinned.checked.prog.funcs[f]? = some fn) :
    false = Tryz.pinned.checked.prog.looks [] ∧ ∀ (j : Nat) t, fn.params[j]? = some t → Tryz.pinned.checked.prog.wantsStandIn t = false := by
  obtain rfl : f = 5 := Option.some.inj ((show Tryz.prog.funcNamed "domino/dominolaw48.PseudonymOnce" = some 5 by kernel_rfl).symm.trans hf) |>.symm
  obtain rfl : fn = Tryz.f5 := (Option.some.inj (Tryz.func5.symm.trans hfn)).symm
  refine ⟨by kernel_rfl, fun j t ht => ?_⟩
  rw [Tryz.params5] at ht
  have hm : t = 26 ∨ t = 9 := by simpa using Array.mem_of_getElem? ht
  rcases hm with rfl | rfl
  · exact (show Tryz.prog.wantsStandIn 26 = false by kernel_rfl)
  · exact (show Tryz.prog.wantsStandIn 9 = false by kernel_rfl)

theorem proved : Rows.PseudonymOnceCardSaid :=
  Claim7.holds_tied_plain_at .later [] _ _ _ _ said (fun _ h => by cases h) (by kernel_rfl) (fun _ h => by cases h) pseudonymOnce_row_tie rfl ⟨rfl, rfl⟩ (by kernel_rfl) rfl plain (by kernel_rfl)
end Go.Proofs.YtddoigmffkmpcaaGreatDoor.pseudonymOnce
