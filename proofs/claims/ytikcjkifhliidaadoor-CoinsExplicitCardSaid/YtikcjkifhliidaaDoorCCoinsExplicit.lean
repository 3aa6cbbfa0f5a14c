/-
  The statement CoinsExplicit out of the walk of its Go function.
-/
import Derived.Test.YtikcjkifhliidaaDoorCards
import Derived.Test.YtikcjkifhliidaaDoorTie
import Derived.Test.YtikcjkifhliidaaDoorCoiC
import Derived.Test.YtikcjkifhliidaaDoorLaid
import Derived.WalkKit
import Derived.ProofKit
import Derived.OpenShut
import Derived.ShutString
import Derived.ChangeOld
import Derived.Below
import Derived.Deep.DeepHandedRow
import Derived.Lay
import Derived.LaidMore
import Derived.Test.YtikcjkifhliidaaDoorOpz
import Derived.Test.YtikcjkifhliidaaDoorLaid
namespace Go.Proofs.YtikcjkifhliidaaDoor.coinsExplicit
open Go.ChangeShapes Go.WideShapes Go.ChangeAt Go.RowKit
set_option linter.unusedVariables false
set_option linter.unusedSimpArgs false

theorem laid : laidOutB Tryd.prog = true := by kernel_rfl

theorem own : ownKnob Tryd.prog.godebug = none := by kernel_rfl

theorem op_T24 {H : Type} {enc : TypeId × Value → H} {w : World} {held : Bool} {fuel : Nat} {cs : List Value} {x : DataW H × List MemPlace} (h : DataW.trod enc Tryd.prog w 0 (fun _ => true) held fuel 24 cs = some x) (hz : Wt Tryd.prog 24 x.1) :
    ∃ (x_0 : Sl (List UInt8)) (x_1 : List UInt8) (x_2 : Int), cs = [x_0.val, .string (S x_1), .int .i64 x_2] ∧ (x_0.l.length ≤ x_0.cap) ∧ (x_0.cap * 16 ≤ 140737488351232) ∧ ((Fact.sl x_0.a (x_0.l.map fun x => .string (S x))).holds (fun _ => True) w) ∧ (∀ y ∈ x_0.l, (fun s : List UInt8 => s.length ≤ 140737488351232) y) ∧ (x_1.length ≤ 140737488351232) ∧ ((Lit.int .i64 x_2).wf = true) := by
  have hl : cs.length = 3 := (op_struct Tryd.underlying24 h).1.trans (by kernel_rfl)
  obtain ⟨c0, c1, c2, rfl⟩ : ∃ c0 c1 c2, cs = [c0, c1, c2] := by
    match cs, hl with
    | [c0, c1, c2], _ => exact ⟨c0, c1, c2, rfl⟩
  clear hl
  obtain ⟨_, m2, hf3⟩ := opz_struct Tryd.underlying24 h hz
  obtain ⟨y5, g4, hz6⟩ := hf3 0 _ rfl
  replace g4 : DataW.trod enc Tryd.prog w 0 (fun _ => true) held m2 22 [c0] = some y5 := by rw [show Tryd.prog.cellsOf 22 = 1 from by kernel_rfl] at g4; exact g4
  obtain ⟨x_0, e7, h8, h9, h10, h11⟩ := opz_slice (cells := (fun s => [.string (S s)])) (F := (fun s : List UInt8 => s.length ≤ 140737488351232)) 1 16 (by kernel_rfl) Tryd.underlying22 (by kernel_rfl) (fun _ => rfl) (fun m cs y h hz => opz_str Tryd.underlying33 h hz) g4 hz6; obtain rfl := (List.cons.inj e7).1
  replace h10 := sl_map h10
  obtain ⟨y13, g12, hz14⟩ := hf3 1 _ rfl
  replace g12 : DataW.trod enc Tryd.prog w 0 (fun _ => true) held m2 9 [c1] = some y13 := by rw [show Tryd.prog.cellsOf 9 = 1 from by kernel_rfl] at g12; exact g12
  obtain ⟨x_1, e15, h16⟩ := opz_str Tryd.underlying9 g12 hz14; obtain rfl := (List.cons.inj e15).1
  obtain ⟨y18, g17, hz19⟩ := hf3 2 _ rfl
  replace g17 : DataW.trod enc Tryd.prog w 0 (fun _ => true) held m2 3 [c2] = some y18 := by rw [show Tryd.prog.cellsOf 3 = 1 from by kernel_rfl] at g17; exact g17
  obtain ⟨x_2, e20, h21⟩ := op_int Tryd.underlying3 g17; obtain rfl := (List.cons.inj e20).1
  exact ⟨x_0, x_1, x_2, rfl, h8, h9, h10, h11, h16, h21⟩

theorem tab {W : World} (h : laidMetH Tryd.prog Rows.coinsExplicitRow.laid W) : Tab W := by
  rw [MakeChecks.laidMetH_plain _ _ _ (by kernel_rfl)] at h
  obtain ⟨ps, h, _⟩ := h
  obtain ⟨_, h⟩ := laidVars_tail h
  obtain ⟨_, h⟩ := laidVars_tail h
  exact tab_of_vars (by kernel_rfl) Tryd.underlying123 Tryd.underlying50 (by kernel_rfl) (by kernel_rfl) h

theorem reads (os : Os) {H : Type} (enc : TypeId × Value → H) : ∃ places, DataW.whole enc Tryd.prog ((World.laidAll Tryd.prog os Rows.coinsExplicitRow.laid).forCall (fun _ _ => 0) ⟨#[], #[(.agg #[.slice none 0 0, .string (S []), .int .i64 0]), (.string (S []))], []⟩).memory Tryd.f6.params.toList Rows.coinsExplicitSpec.vars false #[(.agg #[.slice none 0 0, .string (S []), .int .i64 0]), (.string (S []))].toList 8 = some ([.agg [.nil, .lit (.string []), .lit (.int .i64 0)], .lit (.string [])], [], places) :=
  ⟨[], by kernel_rfl⟩

theorem met (os : Os) : laidMetH Tryd.prog Rows.coinsExplicitRow.laid ((World.laidAll Tryd.prog os Rows.coinsExplicitRow.laid).forCall (fun _ _ => 0) ⟨#[], #[(.agg #[.slice none 0 0, .string (S []), .int .i64 0]), (.string (S []))], []⟩).memory := by
  rw [MakeChecks.laidMetH_plain _ _ _ (by kernel_rfl)]; exact laidMet_laidAll _ (by kernel_rfl) (by kernel_rfl)

theorem sized (os : Os) {H : Type} (enc : TypeId × Value → H) : (OpenSpec.ofChange Rows.coinsExplicitSpec).bare.sizedB enc Tryd.prog Tryd.f6 false ((World.laidAll Tryd.prog os Rows.coinsExplicitRow.laid).forCall (fun _ _ => 0) ⟨#[], #[(.agg #[.slice none 0 0, .string (S []), .int .i64 0]), (.string (S []))], []⟩).memory #[(.agg #[.slice none 0 0, .string (S []), .int .i64 0]), (.string (S []))] 8 = true := by kernel_rfl

theorem prerow (os : Os) {H : Type} (enc : TypeId × Value → H) : (OpenSpec.ofChange Rows.coinsExplicitSpec).preRow enc Tryd.prog Tryd.f6 Rows.coinsExplicitRow.domain false Rows.coinsExplicitRow.laid ((World.laidAll Tryd.prog os Rows.coinsExplicitRow.laid).forCall (fun _ _ => 0) ⟨#[], #[(.agg #[.slice none 0 0, .string (S []), .int .i64 0]), (.string (S []))], []⟩).memory #[(.agg #[.slice none 0 0, .string (S []), .int .i64 0]), (.string (S []))] := by
  obtain ⟨places, hx⟩ := reads os enc
  exact OpenSpec.preRow_of_cond 8 hx (by kernel_rfl) (fun k hk => by cases hk) (sized os enc) (met os)

theorem there (os : Os) {H : Type} (enc : TypeId × Value → H) : ∃ (w : World) (tape : Tape) (i : Input), w.os = os ∧ (w.forCall tape i).Shaped Tryd.checked.prog ∧ i.vars = [] ∧ Input.okWide Tryd.checked.prog (w.forCall tape i) .any w.heap.size 6 i ∧ (OpenSpec.ofChange Rows.coinsExplicitSpec).preRow enc Tryd.checked.prog Tryd.f6 Rows.coinsExplicitRow.domain false Rows.coinsExplicitRow.laid (w.forCall tape i).memory i.args ∧ ({ modest := false } : Assume).holds Tryd.checked.prog (lone (Frame.enter Tryd.checked.prog 6 i.args .normal) [] (w.forCall tape i)) :=
  witness_row_at (enc := enc) (C := Tryd.checked) (fn := Tryd.f6) (s := OpenSpec.ofChange Rows.coinsExplicitSpec) (conds := Rows.coinsExplicitRow.domain) (apart := false) (laid := Rows.coinsExplicitRow.laid) false (World.laidAll Tryd.prog os Rows.coinsExplicitRow.laid) #[(.agg #[.slice none 0 0, .string (S []), .int .i64 0]), (.string (S []))] (World.laidAll_os _ _ _) (by kernel_rfl) (by kernel_rfl) (by kernel_rfl) (prerow os enc)

set_option maxHeartbeats 1000000 in
set_option maxRecDepth 100000 in
theorem lifted (os : Os) (started : os.Started) (H : Type) (enc : TypeId × Value → H) (F : Stop.Interp) :
    ReturnsInHanded {} Tryd.checked os 6 .any ((OpenSpec.ofChange Rows.coinsExplicitSpec).preRow enc Tryd.prog Tryd.f6 Rows.coinsExplicitRow.domain false Rows.coinsExplicitRow.laid) (((OpenSpec.ofChange Rows.coinsExplicitSpec).at F).post enc Tryd.prog Tryd.f6 false true false false) := by
  refine returnsInHanded_of_row (C := Tryd.checked) (s := OpenSpec.ofChange Rows.coinsExplicitSpec) own started (by kernel_rfl) Tryd.func6 (there os enc) ?_
  intro W base args ds gs before hval0 hW hcnd _ hwt0 hL _ _
  have hTab : True → Tab W := fun _ => tab hL
  clear hL
  have hval : ∀ (j : Nat) t v, Tryd.f6.params[j]? = some t → args[j]? = some v → Value.okWide Tryd.prog W .any base t v := hval0
  have hW' := hW
  obtain ⟨p, q, hA0, hV, rfl, hfz, hnd⟩ := hW
  have hA : DataW.TrodAll enc Tryd.prog W 0 (fun _ => true) true Tryd.f6.params.toList args.toList ds p := hA0
  rw [Tryd.params6] at hA hval
  obtain ⟨v0, vs0, d0, ds0, p0, q0, hargs, rfl, rfl, h0, r0⟩ := trodAll_cons hA
  obtain ⟨v1, vs1, d1, ds1, p1, q1, rfl, rfl, rfl, h1, r1⟩ := trodAll_cons r0
  obtain ⟨rfl, rfl, rfl⟩ := trodAll_nil r1
  obtain rfl : args = #[v0, v1] := by cases args; simp_all
  obtain ⟨rfl, rfl⟩ := trodVars_none hV
  have w0 : Wt Tryd.prog 24 d0 := wt_all hwt0 (j := 0) (by rw [Tryd.params6]; rfl) rfl
  have w1 : Wt Tryd.prog 33 d1 := wt_all hwt0 (j := 1) (by rw [Tryd.params6]; rfl) rfl
  have k0 := h0
  obtain ⟨fu0, f0⟩ := h0
  obtain ⟨cs0, rfl, hz0⟩ : ∃ cs, v0 = .agg cs ∧ cs.size = Tryd.prog.cellsOf 24 := by have q := (hval 0 24 v0 rfl rfl); simp only [Value.okWide, Tryd.underlying24] at q; obtain ⟨cs, q1, q2, _⟩ := q; exact ⟨cs, q1, q2⟩
  obtain ⟨a0_0, a0_1, a0_2, e0, z0_0, z0_1, z0_2, z0_3, z0_4, z0_5⟩ := op_T24 f0 w0
  obtain rfl : cs0 = #[a0_0.val, .string (S a0_1), .int .i64 a0_2] := Array.ext' e0
  have k1 := h1
  obtain ⟨fu1, f1⟩ := h1
  obtain ⟨q1, rfl⟩ := okWide_string Tryd.underlying33 (hval 1 33 v1 rfl rfl)
  obtain ⟨a1, e1, z1_0⟩ := opz_str Tryd.underlying33 f1 w1
  have e1' := (List.cons.inj e1).1
  rw [e1'] at k1 hW' ⊢
  clear hA0 hval0
  have hcall : Calls Tryd.prog 6 #[.agg #[a0_0.val, .string (S a0_1), .int .i64 a0_2], .string (S a1)] W (fun e w' => e = .returned (.bool true) ∧ Below W.heap.size W w') := coinsExplicit_c (t := ⟨a0_0.l, a0_1, a0_2⟩) (n := a1) (a := a0_0.a) (cap := a0_0.cap) (by first | assumption | rfl | omega | (have := wf_u8 (by assumption); omega) | (have := wf_i64 (by assumption); omega) | (simp [maxLen] at *; omega) | (intro y hy; exact (‹∀ y ∈ _, _› y hy))) (by first | assumption | rfl | omega | (have := wf_u8 (by assumption); omega) | (have := wf_i64 (by assumption); omega) | (simp [maxLen] at *; omega) | (intro y hy; exact (‹∀ y ∈ _, _› y hy))) (hTab trivial)
  refine hcall.mono fun e W' ⟨he, bel⟩ => ?_
  subst he
  exact ⟨_, rfl, _, _, _, [], _, [], hW', trodAll_mk1 (shut_bool Tryd.underlying4 _), (trodAll_cons_mk (Below.trod laid (by kernel_rfl) (of_decide_eq_true (by kernel_rfl)) k0 bel (fun x hx => hW'.lt x (by simp [hx]))) (trodAll_cons_mk (Below.trod laid (by kernel_rfl) (of_decide_eq_true (by kernel_rfl)) k1 bel (fun x hx => hW'.lt x (by simp [hx]))) trodAll_mk0)), rfl, bel.frame _, fun h => by cases h⟩

theorem said : Rows.CoinsExplicitSaid :=
  OpenClaim.holds_of_cond 6 Tryd.f6 rfl rfl rfl rfl rfl rfl rfl ⟨rfl, rfl, rfl, rfl, rfl⟩ rfl rfl rfl rfl rfl (by kernel_rfl) Tryd.func6 (by kernel_rfl)
    (of_decide_eq_true (by kernel_rfl)) (by unfold Func.isWrapper; first | (rw [if_pos (by decide +kernel)]; kernel_rfl) | (rw [if_neg (by decide +kernel)]; exact ⟨rfl, rfl⟩))
    (fun os started H enc _ F => by rw [OpenClaim.pre_eq_preRow]; exact lifted os started H enc F)

theorem plain (f : FuncId) (fn : Func) (hf : Tryd.pinned.checked.prog.funcNamed "domino/dominolaw06.CoinsExplicit" = some f) (hfn : Tryd.pinned.checked.prog.funcs[f]? = some fn) :
    false = Tryd.pinned.checked.prog.looks [] ∧ ∀ (j : Nat) t, fn.params[j]? = some t → Tryd.pinned.checked.prog.wantsStandIn t = false := by
  obtain rfl : f = 6 := Option.some.inj ((show Tryd.prog.funcNamed "domino/dominolaw06.CoinsExplicit" = some 6 by kernel_rfl).symm.trans hf) |>.symm
  obtain rfl : fn = Tryd.f6 := (Option.some.inj (Tryd.func6.symm.trans hfn)).symm
  refine ⟨by kernel_rfl, fun j t ht => ?_⟩
  rw [Tryd.params6] at ht
  have hm : t = 24 ∨ t = 33 := by simpa using Array.mem_of_getElem? ht
  rcases hm with rfl | rfl
  · exact (show Tryd.prog.wantsStandIn 24 = false by kernel_rfl)
  · exact (show Tryd.prog.wantsStandIn 33 = false by kernel_rfl)

theorem proved : Rows.CoinsExplicitCardSaid :=
  Claim7.holds_tied_plain_at .later [] _ _ _ _ said (fun _ h => by cases h) (by kernel_rfl) (fun _ h => by cases h) coinsExplicit_row_tie rfl ⟨rfl, rfl⟩ (by kernel_rfl) rfl plain (by kernel_rfl)
end Go.Proofs.YtikcjkifhliidaaDoor.coinsExplicit
