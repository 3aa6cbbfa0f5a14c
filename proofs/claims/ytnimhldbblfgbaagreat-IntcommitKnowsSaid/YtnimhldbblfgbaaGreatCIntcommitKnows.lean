/-
  The statement IntcommitKnows out of the walk of its Go function.
-/
import Derived.Test.YtnimhldbblfgbaaGreatRows
import Derived.Test.YtnimhldbblfgbaaGreatLE1
import Derived.WalkKit
import Derived.ProofKit
import Derived.OpenShut
import Derived.ShutString
import Derived.ChangeOld
import Derived.Below
namespace Go.Proofs.YtnimhldbblfgbaaGreat.intcommitKnows
open Go.ChangeShapes Go.WideShapes Go.ChangeAt Go.RowKit
set_option linter.unusedVariables false
set_option linter.unusedSimpArgs false

theorem laid : laidOutB Tryz.prog = true := by kernel_rfl

theorem own : ownKnob Tryz.prog.godebug = none := by kernel_rfl

set_option maxRecDepth 100000 in
theorem op_T26 {H : Type} {enc : TypeId × Value → H} {w : World} {held : Bool} {fuel : Nat} {cs : List Value} {x : DataW H × List MemPlace} (h : DataW.trod enc Tryz.prog w 0 (fun _ => true) held fuel 26 cs = some x) (hz : Wt Tryz.prog 26 x.1) :
    ∃ (x_0_0 : List UInt8) (x_0_1 : List UInt8) (x_1 : List UInt8) (x_2 : List UInt8), cs = [.string (S x_0_0), .string (S x_0_1), .string (S x_1), .string (S x_2)] ∧ x_0_0.length ≤ 140737488351232 ∧ x_0_1.length ≤ 140737488351232 ∧ x_1.length ≤ 140737488351232 ∧ x_2.length ≤ 140737488351232 := by
  have hl : cs.length = 4 := (op_struct Tryz.underlying26 h).1.trans (by kernel_rfl)
  obtain ⟨c0, c1, c2, c3, rfl⟩ : ∃ c0 c1 c2 c3, cs = [c0, c1, c2, c3] := by
    match cs, hl with
    | [c0, c1, c2, c3], _ => exact ⟨c0, c1, c2, c3, rfl⟩
  clear hl
  obtain ⟨_, m2, hf3⟩ := opz_struct Tryz.underlying26 h hz
  obtain ⟨y5, g4, hz6⟩ := hf3 0 _ rfl
  replace g4 : DataW.trod enc Tryz.prog w 0 (fun _ => true) held m2 24 [c0, c1] = some y5 := by rw [show Tryz.prog.cellsOf 24 = 2 from by kernel_rfl] at g4; exact g4
  obtain ⟨_, m8, hf9⟩ := opz_struct Tryz.underlying24 g4 hz6
  obtain ⟨y11, g10, hz12⟩ := hf9 0 _ rfl
  replace g10 : DataW.trod enc Tryz.prog w 0 (fun _ => true) held m8 22 [c0] = some y11 := by rw [show Tryz.prog.cellsOf 22 = 1 from by kernel_rfl] at g10; exact g10
  obtain ⟨x_0_0, e13, h14⟩ := opz_str Tryz.underlying22 g10 hz12; obtain rfl := (List.cons.inj e13).1
  obtain ⟨y16, g15, hz17⟩ := hf9 1 _ rfl
  replace g15 : DataW.trod enc Tryz.prog w 0 (fun _ => true) held m8 22 [c1] = some y16 := by rw [show Tryz.prog.cellsOf 22 = 1 from by kernel_rfl] at g15; exact g15
  obtain ⟨x_0_1, e18, h19⟩ := opz_str Tryz.underlying22 g15 hz17; obtain rfl := (List.cons.inj e18).1
  obtain ⟨y21, g20, hz22⟩ := hf3 1 _ rfl
  replace g20 : DataW.trod enc Tryz.prog w 0 (fun _ => true) held m2 22 [c2] = some y21 := by rw [show Tryz.prog.cellsOf 22 = 1 from by kernel_rfl] at g20; exact g20
  obtain ⟨x_1, e23, h24⟩ := opz_str Tryz.underlying22 g20 hz22; obtain rfl := (List.cons.inj e23).1
  obtain ⟨y26, g25, hz27⟩ := hf3 2 _ rfl
  replace g25 : DataW.trod enc Tryz.prog w 0 (fun _ => true) held m2 22 [c3] = some y26 := by rw [show Tryz.prog.cellsOf 22 = 1 from by kernel_rfl] at g25; exact g25
  obtain ⟨x_2, e28, h29⟩ := opz_str Tryz.underlying22 g25 hz27; obtain rfl := (List.cons.inj e28).1
  exact ⟨x_0_0, x_0_1, x_1, x_2, rfl, h14, h19, h24, h29⟩

set_option maxRecDepth 100000 in
theorem op_T47 {H : Type} {enc : TypeId × Value → H} {w : World} {held : Bool} {fuel : Nat} {cs : List Value} {x : DataW H × List MemPlace} (h : DataW.trod enc Tryz.prog w 0 (fun _ => true) held fuel 47 cs = some x) (hz : Wt Tryz.prog 47 x.1) :
    ∃ (x_0_0 : Bool) (x_0_1 : List UInt8) (x_1_0 : Bool) (x_1_1 : List UInt8), cs = [.bool x_0_0, .string (S x_0_1), .bool x_1_0, .string (S x_1_1)] ∧ x_0_1.length ≤ 140737488351232 ∧ x_1_1.length ≤ 140737488351232 := by
  have hl : cs.length = 4 := (op_struct Tryz.underlying47 h).1.trans (by kernel_rfl)
  obtain ⟨c0, c1, c2, c3, rfl⟩ : ∃ c0 c1 c2 c3, cs = [c0, c1, c2, c3] := by
    match cs, hl with
    | [c0, c1, c2, c3], _ => exact ⟨c0, c1, c2, c3, rfl⟩
  clear hl
  obtain ⟨_, m31, hf32⟩ := opz_struct Tryz.underlying47 h hz
  obtain ⟨y34, g33, hz35⟩ := hf32 0 _ rfl
  replace g33 : DataW.trod enc Tryz.prog w 0 (fun _ => true) held m31 45 [c0, c1] = some y34 := by rw [show Tryz.prog.cellsOf 45 = 2 from by kernel_rfl] at g33; exact g33
  obtain ⟨_, m37, hf38⟩ := opz_struct Tryz.underlying45 g33 hz35
  obtain ⟨y40, g39, hz41⟩ := hf38 0 _ rfl
  replace g39 : DataW.trod enc Tryz.prog w 0 (fun _ => true) held m37 4 [c0] = some y40 := by rw [show Tryz.prog.cellsOf 4 = 1 from by kernel_rfl] at g39; exact g39
  obtain ⟨x_0_0, e42⟩ := op_bool Tryz.underlying4 g39; obtain rfl := (List.cons.inj e42).1
  obtain ⟨y44, g43, hz45⟩ := hf38 1 _ rfl
  replace g43 : DataW.trod enc Tryz.prog w 0 (fun _ => true) held m37 22 [c1] = some y44 := by rw [show Tryz.prog.cellsOf 22 = 1 from by kernel_rfl] at g43; exact g43
  obtain ⟨x_0_1, e46, h47⟩ := opz_str Tryz.underlying22 g43 hz45; obtain rfl := (List.cons.inj e46).1
  obtain ⟨y49, g48, hz50⟩ := hf32 1 _ rfl
  replace g48 : DataW.trod enc Tryz.prog w 0 (fun _ => true) held m31 45 [c2, c3] = some y49 := by rw [show Tryz.prog.cellsOf 45 = 2 from by kernel_rfl] at g48; exact g48
  obtain ⟨_, m52, hf53⟩ := opz_struct Tryz.underlying45 g48 hz50
  obtain ⟨y55, g54, hz56⟩ := hf53 0 _ rfl
  replace g54 : DataW.trod enc Tryz.prog w 0 (fun _ => true) held m52 4 [c2] = some y55 := by rw [show Tryz.prog.cellsOf 4 = 1 from by kernel_rfl] at g54; exact g54
  obtain ⟨x_1_0, e57⟩ := op_bool Tryz.underlying4 g54; obtain rfl := (List.cons.inj e57).1
  obtain ⟨y59, g58, hz60⟩ := hf53 1 _ rfl
  replace g58 : DataW.trod enc Tryz.prog w 0 (fun _ => true) held m52 22 [c3] = some y59 := by rw [show Tryz.prog.cellsOf 22 = 1 from by kernel_rfl] at g58; exact g58
  obtain ⟨x_1_1, e61, h62⟩ := opz_str Tryz.underlying22 g58 hz60; obtain rfl := (List.cons.inj e61).1
  exact ⟨x_0_0, x_0_1, x_1_0, x_1_1, rfl, h47, h62⟩

set_option maxRecDepth 100000 in
theorem op_T56 {H : Type} {enc : TypeId × Value → H} {w : World} {held : Bool} {fuel : Nat} {cs : List Value} {x : DataW H × List MemPlace} (h : DataW.trod enc Tryz.prog w 0 (fun _ => true) held fuel 56 cs = some x) (hz : Wt Tryz.prog 56 x.1) :
    ∃ (x_0 : List UInt8) (x_1 : List UInt8), cs = [.string (S x_0), .string (S x_1)] ∧ x_0.length ≤ 140737488351232 ∧ x_1.length ≤ 140737488351232 := by
  have hl : cs.length = 2 := (op_array Tryz.underlying56 h).1.trans (by kernel_rfl)
  obtain ⟨c0, c1, rfl⟩ : ∃ c0 c1, cs = [c0, c1] := by
    match cs, hl with
    | [c0, c1], _ => exact ⟨c0, c1, rfl⟩
  clear hl
  obtain ⟨_, m64, hf65⟩ := opz_array Tryz.underlying56 h hz
  obtain ⟨y67, g66, hz68⟩ := hf65 0 (by decide)
  replace g66 : DataW.trod enc Tryz.prog w 0 (fun _ => true) held m64 22 [c0] = some y67 := by rw [show Tryz.prog.cellsOf 22 = 1 from by kernel_rfl] at g66; exact g66
  obtain ⟨x_0, e69, h70⟩ := opz_str Tryz.underlying22 g66 hz68; obtain rfl := (List.cons.inj e69).1
  obtain ⟨y72, g71, hz73⟩ := hf65 1 (by decide)
  replace g71 : DataW.trod enc Tryz.prog w 0 (fun _ => true) held m64 22 [c1] = some y72 := by rw [show Tryz.prog.cellsOf 22 = 1 from by kernel_rfl] at g71; exact g71
  obtain ⟨x_1, e74, h75⟩ := opz_str Tryz.underlying22 g71 hz73; obtain rfl := (List.cons.inj e74).1
  exact ⟨x_0, x_1, rfl, h70, h75⟩

set_option maxRecDepth 100000 in
theorem lifted (os : Os) (started : os.Started) (H : Type) (enc : TypeId × Value → H) :
    ReturnsInHanded {} Tryz.checked os 5 .any (Rows.intcommitKnowsSpec.pre6 enc Tryz.prog Tryz.f5 Rows.intcommitKnowsRow.domain false) (Rows.intcommitKnowsSpec.post enc Tryz.prog Tryz.f5 false true false false) := by
  refine returnsInHanded_of_change_sized (C := Tryz.checked) own started (by kernel_rfl) Tryz.func5
    (ChangeSpec.witness6 (enc := enc) (C := Tryz.checked) false ⟨#[], #[(.agg #[.string (S []), .string (S []), .string (S []), .string (S [])]), (.agg #[.bool false, .string (S []), .bool false, .string (S [])]), (.agg #[.string (S []), .string (S [])])], []⟩ 8 (by kernel_rfl) (by kernel_rfl) (by kernel_rfl) (by kernel_rfl)) ?_
  intro W base args ds gs before hval0 hW hcnd hwt0 _
  have hval : ∀ (j : Nat) t v, Tryz.f5.params[j]? = some t → args[j]? = some v → Value.okWide Tryz.prog W .any base t v := hval0
  have hW' := hW
  obtain ⟨p, q, hA0, hV, rfl, hfz, hnd⟩ := hW
  have hA : DataW.TrodAll enc Tryz.prog W 0 (fun _ => true) true Tryz.f5.params.toList args.toList ds p := hA0
  rw [Tryz.params5] at hA hval
  obtain ⟨v0, vs0, d0, ds0, p0, q0, hargs, rfl, rfl, h0, r0⟩ := trodAll_cons hA
  obtain ⟨v1, vs1, d1, ds1, p1, q1, rfl, rfl, rfl, h1, r1⟩ := trodAll_cons r0
  obtain ⟨v2, vs2, d2, ds2, p2, q2, rfl, rfl, rfl, h2, r2⟩ := trodAll_cons r1
  obtain ⟨rfl, rfl, rfl⟩ := trodAll_nil r2
  obtain rfl : args = #[v0, v1, v2] := by cases args; simp_all
  obtain ⟨rfl, rfl⟩ := trodVars_none hV
  have w0 : Wt Tryz.prog 26 d0 := wt_all hwt0 (j := 0) (by rw [Tryz.params5]; rfl) rfl
  have w1 : Wt Tryz.prog 47 d1 := wt_all hwt0 (j := 1) (by rw [Tryz.params5]; rfl) rfl
  have w2 : Wt Tryz.prog 56 d2 := wt_all hwt0 (j := 2) (by rw [Tryz.params5]; rfl) rfl
  have k0 := h0
  obtain ⟨fu0, f0⟩ := h0
  obtain ⟨cs0, rfl, hz0⟩ : ∃ cs, v0 = .agg cs ∧ cs.size = Tryz.prog.cellsOf 26 := by have q := (hval 0 26 v0 rfl rfl); simp only [Value.okWide, Tryz.underlying26] at q; obtain ⟨cs, q1, q2, _⟩ := q; exact ⟨cs, q1, q2⟩
  obtain ⟨a0_0_0, a0_0_1, a0_1, a0_2, e0, z0_0, z0_1, z0_2, z0_3⟩ := op_T26 f0 w0
  obtain rfl : cs0 = #[.string (S a0_0_0), .string (S a0_0_1), .string (S a0_1), .string (S a0_2)] := Array.ext' e0
  have k1 := h1
  obtain ⟨fu1, f1⟩ := h1
  obtain ⟨cs1, rfl, hz1⟩ : ∃ cs, v1 = .agg cs ∧ cs.size = Tryz.prog.cellsOf 47 := by have q := (hval 1 47 v1 rfl rfl); simp only [Value.okWide, Tryz.underlying47] at q; obtain ⟨cs, q1, q2, _⟩ := q; exact ⟨cs, q1, q2⟩
  obtain ⟨a1_0_0, a1_0_1, a1_1_0, a1_1_1, e1, z1_0, z1_1⟩ := op_T47 f1 w1
  obtain rfl : cs1 = #[.bool a1_0_0, .string (S a1_0_1), .bool a1_1_0, .string (S a1_1_1)] := Array.ext' e1
  have k2 := h2
  obtain ⟨fu2, f2⟩ := h2
  obtain ⟨cs2, rfl, hz2⟩ : ∃ cs, v2 = .agg cs ∧ cs.size = Tryz.prog.cellsOf 56 := by have q := (hval 2 56 v2 rfl rfl); simp only [Value.okWide, Tryz.underlying56] at q; obtain ⟨cs, q1, q2, _⟩ := q; exact ⟨cs, q1, q2⟩
  obtain ⟨a2_0, a2_1, e2, z2_0, z2_1⟩ := op_T56 f2 w2
  obtain rfl : cs2 = #[.string (S a2_0), .string (S a2_1)] := Array.ext' e2
  clear hA0 hval0
  have hcall : Calls Tryz.prog 5 #[.agg #[.string (S a0_0_0), .string (S a0_0_1), .string (S a0_1), .string (S a0_2)], .agg #[.bool a1_0_0, .string (S a1_0_1), .bool a1_1_0, .string (S a1_1_1)], .agg #[.string (S a2_0), .string (S a2_1)]] W (fun e w' => e = .returned (.bool true) ∧ Below W.heap.size W w') := icknowl_c (k := ((a0_0_0, a0_0_1), a0_1, a0_2)) (o := ((a1_0_0, a1_0_1), (a1_1_0, a1_1_1))) (x := a2_0) (y := a2_1)
  refine hcall.mono fun e W' ⟨he, bel⟩ => ?_
  subst he
  exact ⟨_, rfl, _, _, _, [], _, [], hW', trodAll_mk1 (shut_bool Tryz.underlying4 _), (trodAll_cons_mk (Below.trod laid (by kernel_rfl) (of_decide_eq_true (by kernel_rfl)) k0 bel (fun x hx => hW'.lt x (by simp [hx]))) (trodAll_cons_mk (Below.trod laid (by kernel_rfl) (of_decide_eq_true (by kernel_rfl)) k1 bel (fun x hx => hW'.lt x (by simp [hx]))) (trodAll_cons_mk (Below.trod laid (by kernel_rfl) (of_decide_eq_true (by kernel_rfl)) k2 bel (fun x hx => hW'.lt x (by simp [hx]))) trodAll_mk0))), rfl, bel.frame _, fun h => by cases h⟩

theorem over : Rows.intcommitKnowsRow.holds Tryz.pinned (OpenSpec.ofChange Rows.intcommitKnowsSpec) :=
  OpenClaim.holds_of_wide 5 Tryz.f5 rfl rfl rfl rfl rfl rfl rfl ⟨rfl, rfl, rfl, rfl, rfl⟩ rfl rfl rfl rfl rfl (by kernel_rfl) Tryz.func5 (by kernel_rfl)
    (of_decide_eq_true (by kernel_rfl)) (by unfold Func.isWrapper; first | (rw [if_pos (by decide +kernel)]; kernel_rfl) | (rw [if_neg (by decide +kernel)]; exact ⟨rfl, rfl⟩))
    (fun os started H enc _ => lifted os started H enc)

theorem proved : Rows.IntcommitKnowsSaid := over
end Go.Proofs.YtnimhldbblfgbaaGreat.intcommitKnows
