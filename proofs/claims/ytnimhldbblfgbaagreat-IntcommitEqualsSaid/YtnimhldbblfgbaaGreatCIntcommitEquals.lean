/-
  The statement IntcommitEquals out of the walk of its Go function.
-/
import Derived.Test.YtnimhldbblfgbaaGreatRows
import Derived.Test.YtnimhldbblfgbaaGreatK16
import Derived.WalkKit
import Derived.ProofKit
import Derived.OpenShut
import Derived.ShutString
import Derived.ChangeOld
import Derived.Below
namespace Go.Proofs.YtnimhldbblfgbaaGreat.intcommitEquals
open Go.ChangeShapes Go.WideShapes Go.ChangeAt Go.RowKit
set_option linter.unusedVariables false
set_option linter.unusedSimpArgs false

theorem laid : laidOutB Tryz.prog = true := by kernel_rfl

theorem own : ownKnob Tryz.prog.godebug = none := by kernel_rfl

set_option maxRecDepth 100000 in
theorem op_T26 {H : Type} {enc : TypeId × Value → H} {w : World} {held : Bool} {fuel : Nat} {cs : List Value} {x : DataW H × List MemPlace} (h : DataW.trod enc Tryz.prog w 0 (fun _ => true) held fuel 26 cs = some x) (hz : Wt Tryz.prog 26 x.1) :
    ∃ (x_0_0 : List UInt8) (x_0_1 : List UInt8) (x_1 : List UInt8) (x_2 : List UInt8), cs = [.string (S x_0_0), .string (S x_0_1), .string (S x_1), .string (S x_2)] ∧ x_0_0.length ≤ 140737488351232 ∧ x_0_1.length ≤ 140737488351232 ∧ x_1.length ≤ 140737488351232 ∧ x_2.length ≤ 140737488351232 := by
  have hl : cs.length = 4 := (op_struct Tryz.underlying26 h).1.trans (by kernel_rfl)
  obtain ⟨c0, c1, c2, c3, rfl⟩ : ∃ c0 c1 c2 c3, cs = [c0, c1, c2, c3] := by
    match cs, hl with
    | [c0, c1, c2, c3], _ => exact ⟨c0, c1, c2, c3, rfl⟩
  clear hl
  obtain ⟨_, m2, hf3⟩ := opz_struct Tryz.underlying26 h hz
  obtain ⟨y5, g4, hz6⟩ := hf3 0 _ rfl
  replace g4 : DataW.trod enc Tryz.prog w 0 (fun _ => true) held m2 24 [c0, c1] = some y5 := by rw [show Tryz.prog.cellsOf 24 = 2 from by kernel_rfl] at g4; exact g4
  obtain ⟨_, m8, hf9⟩ := opz_struct Tryz.underlying24 g4 hz6
  obtain ⟨y11, g10, hz12⟩ := hf9 0 _ rfl
  replace g10 : DataW.trod enc Tryz.prog w 0 (fun _ => true) held m8 22 [c0] = some y11 := by rw [show Tryz.prog.cellsOf 22 = 1 from by kernel_rfl] at g10; exact g10
  obtain ⟨x_0_0, e13, h14⟩ := opz_str Tryz.underlying22 g10 hz12; obtain rfl := (List.cons.inj e13).1
  obtain ⟨y16, g15, hz17⟩ := hf9 1 _ rfl
  replace g15 : DataW.trod enc Tryz.prog w 0 (fun _ => true) held m8 22 [c1] = some y16 := by rw [show Tryz.prog.cellsOf 22 = 1 from by kernel_rfl] at g15; exact g15
  obtain ⟨x_0_1, e18, h19⟩ := opz_str Tryz.underlying22 g15 hz17; obtain rfl := (List.cons.inj e18).1
  obtain ⟨y21, g20, hz22⟩ := hf3 1 _ rfl
  replace g20 : DataW.trod enc Tryz.prog w 0 (fun _ => true) held m2 22 [c2] = some y21 := by rw [show Tryz.prog.cellsOf 22 = 1 from by kernel_rfl] at g20; exact g20
  obtain ⟨x_1, e23, h24⟩ := opz_str Tryz.underlying22 g20 hz22; obtain rfl := (List.cons.inj e23).1
  obtain ⟨y26, g25, hz27⟩ := hf3 2 _ rfl
  replace g25 : DataW.trod enc Tryz.prog w 0 (fun _ => true) held m2 22 [c3] = some y26 := by rw [show Tryz.prog.cellsOf 22 = 1 from by kernel_rfl] at g25; exact g25
  obtain ⟨x_2, e28, h29⟩ := opz_str Tryz.underlying22 g25 hz27; obtain rfl := (List.cons.inj e28).1
  exact ⟨x_0_0, x_0_1, x_1, x_2, rfl, h14, h19, h24, h29⟩

set_option maxRecDepth 100000 in
theorem op_T28 {H : Type} {enc : TypeId × Value → H} {w : World} {held : Bool} {fuel : Nat} {cs : List Value} {x : DataW H × List MemPlace} (h : DataW.trod enc Tryz.prog w 0 (fun _ => true) held fuel 28 cs = some x) (hz : Wt Tryz.prog 28 x.1) :
    ∃ (x_0_0_0 : List UInt8) (x_0_0_1 : List UInt8) (x_0_1 : List UInt8) (x_0_2 : List UInt8) (x_1 : List UInt8) (x_2 : List UInt8) (x_3 : List UInt8) (x_4 : List UInt8) (x_5 : List UInt8), cs = [.string (S x_0_0_0), .string (S x_0_0_1), .string (S x_0_1), .string (S x_0_2), .string (S x_1), .string (S x_2), .string (S x_3), .string (S x_4), .string (S x_5)] ∧ x_0_0_0.length ≤ 140737488351232 ∧ x_0_0_1.length ≤ 140737488351232 ∧ x_0_1.length ≤ 140737488351232 ∧ x_0_2.length ≤ 140737488351232 ∧ x_1.length ≤ 140737488351232 ∧ x_2.length ≤ 140737488351232 ∧ x_3.length ≤ 140737488351232 ∧ x_4.length ≤ 140737488351232 ∧ x_5.length ≤ 140737488351232 := by
  have hl : cs.length = 9 := (op_struct Tryz.underlying28 h).1.trans (by kernel_rfl)
  obtain ⟨c0, c1, c2, c3, c4, c5, c6, c7, c8, rfl⟩ : ∃ c0 c1 c2 c3 c4 c5 c6 c7 c8, cs = [c0, c1, c2, c3, c4, c5, c6, c7, c8] := by
    match cs, hl with
    | [c0, c1, c2, c3, c4, c5, c6, c7, c8], _ => exact ⟨c0, c1, c2, c3, c4, c5, c6, c7, c8, rfl⟩
  clear hl
  obtain ⟨_, m31, hf32⟩ := opz_struct Tryz.underlying28 h hz
  obtain ⟨y34, g33, hz35⟩ := hf32 0 _ rfl
  replace g33 : DataW.trod enc Tryz.prog w 0 (fun _ => true) held m31 26 [c0, c1, c2, c3] = some y34 := by rw [show Tryz.prog.cellsOf 26 = 4 from by kernel_rfl] at g33; exact g33
  obtain ⟨_, m37, hf38⟩ := opz_struct Tryz.underlying26 g33 hz35
  obtain ⟨y40, g39, hz41⟩ := hf38 0 _ rfl
  replace g39 : DataW.trod enc Tryz.prog w 0 (fun _ => true) held m37 24 [c0, c1] = some y40 := by rw [show Tryz.prog.cellsOf 24 = 2 from by kernel_rfl] at g39; exact g39
  obtain ⟨_, m43, hf44⟩ := opz_struct Tryz.underlying24 g39 hz41
  obtain ⟨y46, g45, hz47⟩ := hf44 0 _ rfl
  replace g45 : DataW.trod enc Tryz.prog w 0 (fun _ => true) held m43 22 [c0] = some y46 := by rw [show Tryz.prog.cellsOf 22 = 1 from by kernel_rfl] at g45; exact g45
  obtain ⟨x_0_0_0, e48, h49⟩ := opz_str Tryz.underlying22 g45 hz47; obtain rfl := (List.cons.inj e48).1
  obtain ⟨y51, g50, hz52⟩ := hf44 1 _ rfl
  replace g50 : DataW.trod enc Tryz.prog w 0 (fun _ => true) held m43 22 [c1] = some y51 := by rw [show Tryz.prog.cellsOf 22 = 1 from by kernel_rfl] at g50; exact g50
  obtain ⟨x_0_0_1, e53, h54⟩ := opz_str Tryz.underlying22 g50 hz52; obtain rfl := (List.cons.inj e53).1
  obtain ⟨y56, g55, hz57⟩ := hf38 1 _ rfl
  replace g55 : DataW.trod enc Tryz.prog w 0 (fun _ => true) held m37 22 [c2] = some y56 := by rw [show Tryz.prog.cellsOf 22 = 1 from by kernel_rfl] at g55; exact g55
  obtain ⟨x_0_1, e58, h59⟩ := opz_str Tryz.underlying22 g55 hz57; obtain rfl := (List.cons.inj e58).1
  obtain ⟨y61, g60, hz62⟩ := hf38 2 _ rfl
  replace g60 : DataW.trod enc Tryz.prog w 0 (fun _ => true) held m37 22 [c3] = some y61 := by rw [show Tryz.prog.cellsOf 22 = 1 from by kernel_rfl] at g60; exact g60
  obtain ⟨x_0_2, e63, h64⟩ := opz_str Tryz.underlying22 g60 hz62; obtain rfl := (List.cons.inj e63).1
  obtain ⟨y66, g65, hz67⟩ := hf32 1 _ rfl
  replace g65 : DataW.trod enc Tryz.prog w 0 (fun _ => true) held m31 22 [c4] = some y66 := by rw [show Tryz.prog.cellsOf 22 = 1 from by kernel_rfl] at g65; exact g65
  obtain ⟨x_1, e68, h69⟩ := opz_str Tryz.underlying22 g65 hz67; obtain rfl := (List.cons.inj e68).1
  obtain ⟨y71, g70, hz72⟩ := hf32 2 _ rfl
  replace g70 : DataW.trod enc Tryz.prog w 0 (fun _ => true) held m31 22 [c5] = some y71 := by rw [show Tryz.prog.cellsOf 22 = 1 from by kernel_rfl] at g70; exact g70
  obtain ⟨x_2, e73, h74⟩ := opz_str Tryz.underlying22 g70 hz72; obtain rfl := (List.cons.inj e73).1
  obtain ⟨y76, g75, hz77⟩ := hf32 3 _ rfl
  replace g75 : DataW.trod enc Tryz.prog w 0 (fun _ => true) held m31 22 [c6] = some y76 := by rw [show Tryz.prog.cellsOf 22 = 1 from by kernel_rfl] at g75; exact g75
  obtain ⟨x_3, e78, h79⟩ := opz_str Tryz.underlying22 g75 hz77; obtain rfl := (List.cons.inj e78).1
  obtain ⟨y81, g80, hz82⟩ := hf32 4 _ rfl
  replace g80 : DataW.trod enc Tryz.prog w 0 (fun _ => true) held m31 22 [c7] = some y81 := by rw [show Tryz.prog.cellsOf 22 = 1 from by kernel_rfl] at g80; exact g80
  obtain ⟨x_4, e83, h84⟩ := opz_str Tryz.underlying22 g80 hz82; obtain rfl := (List.cons.inj e83).1
  obtain ⟨y86, g85, hz87⟩ := hf32 5 _ rfl
  replace g85 : DataW.trod enc Tryz.prog w 0 (fun _ => true) held m31 22 [c8] = some y86 := by rw [show Tryz.prog.cellsOf 22 = 1 from by kernel_rfl] at g85; exact g85
  obtain ⟨x_5, e88, h89⟩ := opz_str Tryz.underlying22 g85 hz87; obtain rfl := (List.cons.inj e88).1
  exact ⟨x_0_0_0, x_0_0_1, x_0_1, x_0_2, x_1, x_2, x_3, x_4, x_5, rfl, h49, h54, h59, h64, h69, h74, h79, h84, h89⟩

set_option maxRecDepth 100000 in
theorem lifted (os : Os) (started : os.Started) (H : Type) (enc : TypeId × Value → H) :
    ReturnsInHanded {} Tryz.checked os 8 .any (Rows.intcommitEqualsSpec.pre6 enc Tryz.prog Tryz.f8 Rows.intcommitEqualsRow.domain false) (Rows.intcommitEqualsSpec.post enc Tryz.prog Tryz.f8 false true false false) := by
  refine returnsInHanded_of_change_sized (C := Tryz.checked) own started (by kernel_rfl) Tryz.func8
    (ChangeSpec.witness6 (enc := enc) (C := Tryz.checked) false ⟨#[], #[(.agg #[.string (S []), .string (S []), .string (S []), .string (S [])]), (.agg #[.string (S []), .string (S []), .string (S []), .string (S []), .string (S []), .string (S []), .string (S []), .string (S []), .string (S [])])], []⟩ 8 (by kernel_rfl) (by kernel_rfl) (by kernel_rfl) (by kernel_rfl)) ?_
  intro W base args ds gs before hval0 hW hcnd hwt0 _
  have hval : ∀ (j : Nat) t v, Tryz.f8.params[j]? = some t → args[j]? = some v → Value.okWide Tryz.prog W .any base t v := hval0
  have hW' := hW
  obtain ⟨p, q, hA0, hV, rfl, hfz, hnd⟩ := hW
  have hA : DataW.TrodAll enc Tryz.prog W 0 (fun _ => true) true Tryz.f8.params.toList args.toList ds p := hA0
  rw [Tryz.params8] at hA hval
  obtain ⟨v0, vs0, d0, ds0, p0, q0, hargs, rfl, rfl, h0, r0⟩ := trodAll_cons hA
  obtain ⟨v1, vs1, d1, ds1, p1, q1, rfl, rfl, rfl, h1, r1⟩ := trodAll_cons r0
  obtain ⟨rfl, rfl, rfl⟩ := trodAll_nil r1
  obtain rfl : args = #[v0, v1] := by cases args; simp_all
  obtain ⟨rfl, rfl⟩ := trodVars_none hV
  have w0 : Wt Tryz.prog 26 d0 := wt_all hwt0 (j := 0) (by rw [Tryz.params8]; rfl) rfl
  have w1 : Wt Tryz.prog 28 d1 := wt_all hwt0 (j := 1) (by rw [Tryz.params8]; rfl) rfl
  have k0 := h0
  obtain ⟨fu0, f0⟩ := h0
  obtain ⟨cs0, rfl, hz0⟩ : ∃ cs, v0 = .agg cs ∧ cs.size = Tryz.prog.cellsOf 26 := by have q := (hval 0 26 v0 rfl rfl); simp only [Value.okWide, Tryz.underlying26] at q; obtain ⟨cs, q1, q2, _⟩ := q; exact ⟨cs, q1, q2⟩
  obtain ⟨a0_0_0, a0_0_1, a0_1, a0_2, e0, z0_0, z0_1, z0_2, z0_3⟩ := op_T26 f0 w0
  obtain rfl : cs0 = #[.string (S a0_0_0), .string (S a0_0_1), .string (S a0_1), .string (S a0_2)] := Array.ext' e0
  have k1 := h1
  obtain ⟨fu1, f1⟩ := h1
  obtain ⟨cs1, rfl, hz1⟩ : ∃ cs, v1 = .agg cs ∧ cs.size = Tryz.prog.cellsOf 28 := by have q := (hval 1 28 v1 rfl rfl); simp only [Value.okWide, Tryz.underlying28] at q; obtain ⟨cs, q1, q2, _⟩ := q; exact ⟨cs, q1, q2⟩
  obtain ⟨a1_0_0_0, a1_0_0_1, a1_0_1, a1_0_2, a1_1, a1_2, a1_3, a1_4, a1_5, e1, z1_0, z1_1, z1_2, z1_3, z1_4, z1_5, z1_6, z1_7, z1_8⟩ := op_T28 f1 w1
  obtain rfl : cs1 = #[.string (S a1_0_0_0), .string (S a1_0_0_1), .string (S a1_0_1), .string (S a1_0_2), .string (S a1_1), .string (S a1_2), .string (S a1_3), .string (S a1_4), .string (S a1_5)] := Array.ext' e1
  clear hA0 hval0
  have hcall : Calls Tryz.prog 8 #[.agg #[.string (S a0_0_0), .string (S a0_0_1), .string (S a0_1), .string (S a0_2)], .agg #[.string (S a1_0_0_0), .string (S a1_0_0_1), .string (S a1_0_1), .string (S a1_0_2), .string (S a1_1), .string (S a1_2), .string (S a1_3), .string (S a1_4), .string (S a1_5)]] W (fun e w' => e = .returned (.bool true) ∧ Below W.heap.size W w') := icequals_c (m := ((a0_0_0, a0_0_1), a0_1, a0_2)) (q := ⟨((a1_0_0_0, a1_0_0_1), a1_0_1, a1_0_2), a1_1, a1_2, a1_3, a1_4, a1_5⟩)
  refine hcall.mono fun e W' ⟨he, bel⟩ => ?_
  subst he
  exact ⟨_, rfl, _, _, _, [], _, [], hW', trodAll_mk1 (shut_bool Tryz.underlying4 _), (trodAll_cons_mk (Below.trod laid (by kernel_rfl) (of_decide_eq_true (by kernel_rfl)) k0 bel (fun x hx => hW'.lt x (by simp [hx]))) (trodAll_cons_mk (Below.trod laid (by kernel_rfl) (of_decide_eq_true (by kernel_rfl)) k1 bel (fun x hx => hW'.lt x (by simp [hx]))) trodAll_mk0)), rfl, bel.frame _, fun h => by cases h⟩

theorem over : Rows.intcommitEqualsRow.holds Tryz.pinned (OpenSpec.ofChange Rows.intcommitEqualsSpec) :=
  OpenClaim.holds_of_wide 8 Tryz.f8 rfl rfl rfl rfl rfl rfl rfl ⟨rfl, rfl, rfl, rfl, rfl⟩ rfl rfl rfl rfl rfl (by kernel_rfl) Tryz.func8 (by kernel_rfl)
    (of_decide_eq_true (by kernel_rfl)) (by unfold Func.isWrapper; first | (rw [if_pos (by decide +kernel)]; kernel_rfl) | (rw [if_neg (by decide +kernel)]; exact ⟨rfl, rfl⟩))
    (fun os started H enc _ => lifted os started H enc)

theorem proved : Rows.IntcommitEqualsSaid := over
end Go.Proofs.YtnimhldbblfgbaaGreat.intcommitEquals
