/-
  The statement IntcommitCrosses out of the walk of its Go function.
-/
import Derived.Test.YtnimhldbblfgbaaGreatRows
import Derived.Test.YtnimhldbblfgbaaGreatLC1
import Derived.WalkKit
import Derived.ProofKit
import Derived.OpenShut
import Derived.ShutString
import Derived.ChangeOld
import Derived.Below
namespace Go.Proofs.YtnimhldbblfgbaaGreat.intcommitCrosses
open Go.ChangeShapes Go.WideShapes Go.ChangeAt Go.RowKit
set_option linter.unusedVariables false
set_option linter.unusedSimpArgs false

theorem laid : laidOutB Tryz.prog = true := by kernel_rfl

theorem own : ownKnob Tryz.prog.godebug = none := by kernel_rfl

set_option maxRecDepth 100000 in
theorem op_T78 {H : Type} {enc : TypeId × Value → H} {w : World} {held : Bool} {fuel : Nat} {cs : List Value} {x : DataW H × List MemPlace} (h : DataW.trod enc Tryz.prog w 0 (fun _ => true) held fuel 78 cs = some x) (hz : Wt Tryz.prog 78 x.1) :
    ∃ (x_0_0_0 : List UInt8) (x_0_0_1 : List UInt8) (x_0_1 : List UInt8) (x_0_2 : List UInt8) (x_1_0_0 : List UInt8) (x_1_0_1 : List UInt8) (x_1_1 : List UInt8) (x_1_2 : List UInt8), cs = [.string (S x_0_0_0), .string (S x_0_0_1), .string (S x_0_1), .string (S x_0_2), .string (S x_1_0_0), .string (S x_1_0_1), .string (S x_1_1), .string (S x_1_2)] ∧ x_0_0_0.length ≤ 140737488351232 ∧ x_0_0_1.length ≤ 140737488351232 ∧ x_0_1.length ≤ 140737488351232 ∧ x_0_2.length ≤ 140737488351232 ∧ x_1_0_0.length ≤ 140737488351232 ∧ x_1_0_1.length ≤ 140737488351232 ∧ x_1_1.length ≤ 140737488351232 ∧ x_1_2.length ≤ 140737488351232 := by
  have hl : cs.length = 8 := (op_array Tryz.underlying78 h).1.trans (by kernel_rfl)
  obtain ⟨c0, c1, c2, c3, c4, c5, c6, c7, rfl⟩ : ∃ c0 c1 c2 c3 c4 c5 c6 c7, cs = [c0, c1, c2, c3, c4, c5, c6, c7] := by
    match cs, hl with
    | [c0, c1, c2, c3, c4, c5, c6, c7], _ => exact ⟨c0, c1, c2, c3, c4, c5, c6, c7, rfl⟩
  clear hl
  obtain ⟨_, m2, hf3⟩ := opz_array Tryz.underlying78 h hz
  obtain ⟨y5, g4, hz6⟩ := hf3 0 (by decide)
  replace g4 : DataW.trod enc Tryz.prog w 0 (fun _ => true) held m2 26 [c0, c1, c2, c3] = some y5 := by rw [show Tryz.prog.cellsOf 26 = 4 from by kernel_rfl] at g4; exact g4
  obtain ⟨_, m8, hf9⟩ := opz_struct Tryz.underlying26 g4 hz6
  obtain ⟨y11, g10, hz12⟩ := hf9 0 _ rfl
  replace g10 : DataW.trod enc Tryz.prog w 0 (fun _ => true) held m8 24 [c0, c1] = some y11 := by rw [show Tryz.prog.cellsOf 24 = 2 from by kernel_rfl] at g10; exact g10
  obtain ⟨_, m14, hf15⟩ := opz_struct Tryz.underlying24 g10 hz12
  obtain ⟨y17, g16, hz18⟩ := hf15 0 _ rfl
  replace g16 : DataW.trod enc Tryz.prog w 0 (fun _ => true) held m14 22 [c0] = some y17 := by rw [show Tryz.prog.cellsOf 22 = 1 from by kernel_rfl] at g16; exact g16
  obtain ⟨x_0_0_0, e19, h20⟩ := opz_str Tryz.underlying22 g16 hz18; obtain rfl := (List.cons.inj e19).1
  obtain ⟨y22, g21, hz23⟩ := hf15 1 _ rfl
  replace g21 : DataW.trod enc Tryz.prog w 0 (fun _ => true) held m14 22 [c1] = some y22 := by rw [show Tryz.prog.cellsOf 22 = 1 from by kernel_rfl] at g21; exact g21
  obtain ⟨x_0_0_1, e24, h25⟩ := opz_str Tryz.underlying22 g21 hz23; obtain rfl := (List.cons.inj e24).1
  obtain ⟨y27, g26, hz28⟩ := hf9 1 _ rfl
  replace g26 : DataW.trod enc Tryz.prog w 0 (fun _ => true) held m8 22 [c2] = some y27 := by rw [show Tryz.prog.cellsOf 22 = 1 from by kernel_rfl] at g26; exact g26
  obtain ⟨x_0_1, e29, h30⟩ := opz_str Tryz.underlying22 g26 hz28; obtain rfl := (List.cons.inj e29).1
  obtain ⟨y32, g31, hz33⟩ := hf9 2 _ rfl
  replace g31 : DataW.trod enc Tryz.prog w 0 (fun _ => true) held m8 22 [c3] = some y32 := by rw [show Tryz.prog.cellsOf 22 = 1 from by kernel_rfl] at g31; exact g31
  obtain ⟨x_0_2, e34, h35⟩ := opz_str Tryz.underlying22 g31 hz33; obtain rfl := (List.cons.inj e34).1
  obtain ⟨y37, g36, hz38⟩ := hf3 1 (by decide)
  replace g36 : DataW.trod enc Tryz.prog w 0 (fun _ => true) held m2 26 [c4, c5, c6, c7] = some y37 := by rw [show Tryz.prog.cellsOf 26 = 4 from by kernel_rfl] at g36; exact g36
  obtain ⟨_, m40, hf41⟩ := opz_struct Tryz.underlying26 g36 hz38
  obtain ⟨y43, g42, hz44⟩ := hf41 0 _ rfl
  replace g42 : DataW.trod enc Tryz.prog w 0 (fun _ => true) held m40 24 [c4, c5] = some y43 := by rw [show Tryz.prog.cellsOf 24 = 2 from by kernel_rfl] at g42; exact g42
  obtain ⟨_, m46, hf47⟩ := opz_struct Tryz.underlying24 g42 hz44
  obtain ⟨y49, g48, hz50⟩ := hf47 0 _ rfl
  replace g48 : DataW.trod enc Tryz.prog w 0 (fun _ => true) held m46 22 [c4] = some y49 := by rw [show Tryz.prog.cellsOf 22 = 1 from by kernel_rfl] at g48; exact g48
  obtain ⟨x_1_0_0, e51, h52⟩ := opz_str Tryz.underlying22 g48 hz50; obtain rfl := (List.cons.inj e51).1
  obtain ⟨y54, g53, hz55⟩ := hf47 1 _ rfl
  replace g53 : DataW.trod enc Tryz.prog w 0 (fun _ => true) held m46 22 [c5] = some y54 := by rw [show Tryz.prog.cellsOf 22 = 1 from by kernel_rfl] at g53; exact g53
  obtain ⟨x_1_0_1, e56, h57⟩ := opz_str Tryz.underlying22 g53 hz55; obtain rfl := (List.cons.inj e56).1
  obtain ⟨y59, g58, hz60⟩ := hf41 1 _ rfl
  replace g58 : DataW.trod enc Tryz.prog w 0 (fun _ => true) held m40 22 [c6] = some y59 := by rw [show Tryz.prog.cellsOf 22 = 1 from by kernel_rfl] at g58; exact g58
  obtain ⟨x_1_1, e61, h62⟩ := opz_str Tryz.underlying22 g58 hz60; obtain rfl := (List.cons.inj e61).1
  obtain ⟨y64, g63, hz65⟩ := hf41 2 _ rfl
  replace g63 : DataW.trod enc Tryz.prog w 0 (fun _ => true) held m40 22 [c7] = some y64 := by rw [show Tryz.prog.cellsOf 22 = 1 from by kernel_rfl] at g63; exact g63
  obtain ⟨x_1_2, e66, h67⟩ := opz_str Tryz.underlying22 g63 hz65; obtain rfl := (List.cons.inj e66).1
  exact ⟨x_0_0_0, x_0_0_1, x_0_1, x_0_2, x_1_0_0, x_1_0_1, x_1_1, x_1_2, rfl, h20, h25, h30, h35, h52, h57, h62, h67⟩

set_option maxRecDepth 100000 in
theorem op_T45 {H : Type} {enc : TypeId × Value → H} {w : World} {held : Bool} {fuel : Nat} {cs : List Value} {x : DataW H × List MemPlace} (h : DataW.trod enc Tryz.prog w 0 (fun _ => true) held fuel 45 cs = some x) (hz : Wt Tryz.prog 45 x.1) :
    ∃ (x_0 : Bool) (x_1 : List UInt8), cs = [.bool x_0, .string (S x_1)] ∧ x_1.length ≤ 140737488351232 := by
  have hl : cs.length = 2 := (op_struct Tryz.underlying45 h).1.trans (by kernel_rfl)
  obtain ⟨c0, c1, rfl⟩ : ∃ c0 c1, cs = [c0, c1] := by
    match cs, hl with
    | [c0, c1], _ => exact ⟨c0, c1, rfl⟩
  clear hl
  obtain ⟨_, m69, hf70⟩ := opz_struct Tryz.underlying45 h hz
  obtain ⟨y72, g71, hz73⟩ := hf70 0 _ rfl
  replace g71 : DataW.trod enc Tryz.prog w 0 (fun _ => true) held m69 4 [c0] = some y72 := by rw [show Tryz.prog.cellsOf 4 = 1 from by kernel_rfl] at g71; exact g71
  obtain ⟨x_0, e74⟩ := op_bool Tryz.underlying4 g71; obtain rfl := (List.cons.inj e74).1
  obtain ⟨y76, g75, hz77⟩ := hf70 1 _ rfl
  replace g75 : DataW.trod enc Tryz.prog w 0 (fun _ => true) held m69 22 [c1] = some y76 := by rw [show Tryz.prog.cellsOf 22 = 1 from by kernel_rfl] at g75; exact g75
  obtain ⟨x_1, e78, h79⟩ := opz_str Tryz.underlying22 g75 hz77; obtain rfl := (List.cons.inj e78).1
  exact ⟨x_0, x_1, rfl, h79⟩

set_option maxRecDepth 100000 in
theorem op_T79 {H : Type} {enc : TypeId × Value → H} {w : World} {held : Bool} {fuel : Nat} {cs : List Value} {x : DataW H × List MemPlace} (h : DataW.trod enc Tryz.prog w 0 (fun _ => true) held fuel 79 cs = some x) (hz : Wt Tryz.prog 79 x.1) :
    ∃ (x_0_0 : Bool) (x_0_1 : List UInt8) (x_1_0 : Bool) (x_1_1 : List UInt8), cs = [.bool x_0_0, .string (S x_0_1), .bool x_1_0, .string (S x_1_1)] ∧ x_0_1.length ≤ 140737488351232 ∧ x_1_1.length ≤ 140737488351232 := by
  have hl : cs.length = 4 := (op_array Tryz.underlying79 h).1.trans (by kernel_rfl)
  obtain ⟨c0, c1, c2, c3, rfl⟩ : ∃ c0 c1 c2 c3, cs = [c0, c1, c2, c3] := by
    match cs, hl with
    | [c0, c1, c2, c3], _ => exact ⟨c0, c1, c2, c3, rfl⟩
  clear hl
  obtain ⟨_, m81, hf82⟩ := opz_array Tryz.underlying79 h hz
  obtain ⟨y84, g83, hz85⟩ := hf82 0 (by decide)
  replace g83 : DataW.trod enc Tryz.prog w 0 (fun _ => true) held m81 45 [c0, c1] = some y84 := by rw [show Tryz.prog.cellsOf 45 = 2 from by kernel_rfl] at g83; exact g83
  obtain ⟨_, m87, hf88⟩ := opz_struct Tryz.underlying45 g83 hz85
  obtain ⟨y90, g89, hz91⟩ := hf88 0 _ rfl
  replace g89 : DataW.trod enc Tryz.prog w 0 (fun _ => true) held m87 4 [c0] = some y90 := by rw [show Tryz.prog.cellsOf 4 = 1 from by kernel_rfl] at g89; exact g89
  obtain ⟨x_0_0, e92⟩ := op_bool Tryz.underlying4 g89; obtain rfl := (List.cons.inj e92).1
  obtain ⟨y94, g93, hz95⟩ := hf88 1 _ rfl
  replace g93 : DataW.trod enc Tryz.prog w 0 (fun _ => true) held m87 22 [c1] = some y94 := by rw [show Tryz.prog.cellsOf 22 = 1 from by kernel_rfl] at g93; exact g93
  obtain ⟨x_0_1, e96, h97⟩ := opz_str Tryz.underlying22 g93 hz95; obtain rfl := (List.cons.inj e96).1
  obtain ⟨y99, g98, hz100⟩ := hf82 1 (by decide)
  replace g98 : DataW.trod enc Tryz.prog w 0 (fun _ => true) held m81 45 [c2, c3] = some y99 := by rw [show Tryz.prog.cellsOf 45 = 2 from by kernel_rfl] at g98; exact g98
  obtain ⟨_, m102, hf103⟩ := opz_struct Tryz.underlying45 g98 hz100
  obtain ⟨y105, g104, hz106⟩ := hf103 0 _ rfl
  replace g104 : DataW.trod enc Tryz.prog w 0 (fun _ => true) held m102 4 [c2] = some y105 := by rw [show Tryz.prog.cellsOf 4 = 1 from by kernel_rfl] at g104; exact g104
  obtain ⟨x_1_0, e107⟩ := op_bool Tryz.underlying4 g104; obtain rfl := (List.cons.inj e107).1
  obtain ⟨y109, g108, hz110⟩ := hf103 1 _ rfl
  replace g108 : DataW.trod enc Tryz.prog w 0 (fun _ => true) held m102 22 [c3] = some y109 := by rw [show Tryz.prog.cellsOf 22 = 1 from by kernel_rfl] at g108; exact g108
  obtain ⟨x_1_1, e111, h112⟩ := opz_str Tryz.underlying22 g108 hz110; obtain rfl := (List.cons.inj e111).1
  exact ⟨x_0_0, x_0_1, x_1_0, x_1_1, rfl, h97, h112⟩

set_option maxRecDepth 100000 in
theorem lifted (os : Os) (started : os.Started) (H : Type) (enc : TypeId × Value → H) :
    ReturnsInHanded {} Tryz.checked os 9 .any (Rows.intcommitCrossesSpec.pre6 enc Tryz.prog Tryz.f9 Rows.intcommitCrossesRow.domain false) (Rows.intcommitCrossesSpec.post enc Tryz.prog Tryz.f9 false true false false) := by
  refine returnsInHanded_of_change_sized (C := Tryz.checked) own started (by kernel_rfl) Tryz.func9
    (ChangeSpec.witness6 (enc := enc) (C := Tryz.checked) false ⟨#[], #[(.agg #[.string (S []), .string (S []), .string (S []), .string (S []), .string (S []), .string (S []), .string (S []), .string (S [])]), (.agg #[.bool false, .string (S [])]), (.agg #[.bool false, .string (S []), .bool false, .string (S [])])], []⟩ 8 (by kernel_rfl) (by kernel_rfl) (by kernel_rfl) (by kernel_rfl)) ?_
  intro W base args ds gs before hval0 hW hcnd hwt0 _
  have hval : ∀ (j : Nat) t v, Tryz.f9.params[j]? = some t → args[j]? = some v → Value.okWide Tryz.prog W .any base t v := hval0
  have hW' := hW
  obtain ⟨p, q, hA0, hV, rfl, hfz, hnd⟩ := hW
  have hA : DataW.TrodAll enc Tryz.prog W 0 (fun _ => true) true Tryz.f9.params.toList args.toList ds p := hA0
  rw [Tryz.params9] at hA hval
  obtain ⟨v0, vs0, d0, ds0, p0, q0, hargs, rfl, rfl, h0, r0⟩ := trodAll_cons hA
  obtain ⟨v1, vs1, d1, ds1, p1, q1, rfl, rfl, rfl, h1, r1⟩ := trodAll_cons r0
  obtain ⟨v2, vs2, d2, ds2, p2, q2, rfl, rfl, rfl, h2, r2⟩ := trodAll_cons r1
  obtain ⟨rfl, rfl, rfl⟩ := trodAll_nil r2
  obtain rfl : args = #[v0, v1, v2] := by cases args; simp_all
  obtain ⟨rfl, rfl⟩ := trodVars_none hV
  have w0 : Wt Tryz.prog 78 d0 := wt_all hwt0 (j := 0) (by rw [Tryz.params9]; rfl) rfl
  have w1 : Wt Tryz.prog 45 d1 := wt_all hwt0 (j := 1) (by rw [Tryz.params9]; rfl) rfl
  have w2 : Wt Tryz.prog 79 d2 := wt_all hwt0 (j := 2) (by rw [Tryz.params9]; rfl) rfl
  have k0 := h0
  obtain ⟨fu0, f0⟩ := h0
  obtain ⟨cs0, rfl, hz0⟩ : ∃ cs, v0 = .agg cs ∧ cs.size = Tryz.prog.cellsOf 78 := by have q := (hval 0 78 v0 rfl rfl); simp only [Value.okWide, Tryz.underlying78] at q; obtain ⟨cs, q1, q2, _⟩ := q; exact ⟨cs, q1, q2⟩
  obtain ⟨a0_0_0_0, a0_0_0_1, a0_0_1, a0_0_2, a0_1_0_0, a0_1_0_1, a0_1_1, a0_1_2, e0, z0_0, z0_1, z0_2, z0_3, z0_4, z0_5, z0_6, z0_7⟩ := op_T78 f0 w0
  obtain rfl : cs0 = #[.string (S a0_0_0_0), .string (S a0_0_0_1), .string (S a0_0_1), .string (S a0_0_2), .string (S a0_1_0_0), .string (S a0_1_0_1), .string (S a0_1_1), .string (S a0_1_2)] := Array.ext' e0
  have k1 := h1
  obtain ⟨fu1, f1⟩ := h1
  obtain ⟨cs1, rfl, hz1⟩ : ∃ cs, v1 = .agg cs ∧ cs.size = Tryz.prog.cellsOf 45 := by have q := (hval 1 45 v1 rfl rfl); simp only [Value.okWide, Tryz.underlying45] at q; obtain ⟨cs, q1, q2, _⟩ := q; exact ⟨cs, q1, q2⟩
  obtain ⟨a1_0, a1_1, e1, z1_0⟩ := op_T45 f1 w1
  obtain rfl : cs1 = #[.bool a1_0, .string (S a1_1)] := Array.ext' e1
  have k2 := h2
  obtain ⟨fu2, f2⟩ := h2
  obtain ⟨cs2, rfl, hz2⟩ : ∃ cs, v2 = .agg cs ∧ cs.size = Tryz.prog.cellsOf 79 := by have q := (hval 2 79 v2 rfl rfl); simp only [Value.okWide, Tryz.underlying79] at q; obtain ⟨cs, q1, q2, _⟩ := q; exact ⟨cs, q1, q2⟩
  obtain ⟨a2_0_0, a2_0_1, a2_1_0, a2_1_1, e2, z2_0, z2_1⟩ := op_T79 f2 w2
  obtain rfl : cs2 = #[.bool a2_0_0, .string (S a2_0_1), .bool a2_1_0, .string (S a2_1_1)] := Array.ext' e2
  clear hA0 hval0
  have hcall : Calls Tryz.prog 9 #[.agg #[.string (S a0_0_0_0), .string (S a0_0_0_1), .string (S a0_0_1), .string (S a0_0_2), .string (S a0_1_0_0), .string (S a0_1_0_1), .string (S a0_1_1), .string (S a0_1_2)], .agg #[.bool a1_0, .string (S a1_1)], .agg #[.bool a2_0_0, .string (S a2_0_1), .bool a2_1_0, .string (S a2_1_1)]] W (fun e w' => e = .returned (.bool true) ∧ Below W.heap.size W w') := iccross_l (m := ((a0_0_0_0, a0_0_0_1), a0_0_1, a0_0_2)) (k := ((a0_1_0_0, a0_1_0_1), a0_1_1, a0_1_2)) (x := (a1_0, a1_1)) (r0 := (a2_0_0, a2_0_1)) (r1 := (a2_1_0, a2_1_1))
  refine hcall.mono fun e W' ⟨he, bel⟩ => ?_
  subst he
  exact ⟨_, rfl, _, _, _, [], _, [], hW', trodAll_mk1 (shut_bool Tryz.underlying4 _), (trodAll_cons_mk (Below.trod laid (by kernel_rfl) (of_decide_eq_true (by kernel_rfl)) k0 bel (fun x hx => hW'.lt x (by simp [hx]))) (trodAll_cons_mk (Below.trod laid (by kernel_rfl) (of_decide_eq_true (by kernel_rfl)) k1 bel (fun x hx => hW'.lt x (by simp [hx]))) (trodAll_cons_mk (Below.trod laid (by kernel_rfl) (of_decide_eq_true (by kernel_rfl)) k2 bel (fun x hx => hW'.lt x (by simp [hx]))) trodAll_mk0))), rfl, bel.frame _, fun h => by cases h⟩

theorem over : Rows.intcommitCrossesRow.holds Tryz.pinned (OpenSpec.ofChange Rows.intcommitCrossesSpec) :=
  OpenClaim.holds_of_wide 9 Tryz.f9 rfl rfl rfl rfl rfl rfl rfl ⟨rfl, rfl, rfl, rfl, rfl⟩ rfl rfl rfl rfl rfl (by kernel_rfl) Tryz.func9 (by kernel_rfl)
    (of_decide_eq_true (by kernel_rfl)) (by unfold Func.isWrapper; first | (rw [if_pos (by decide +kernel)]; kernel_rfl) | (rw [if_neg (by decide +kernel)]; exact ⟨rfl, rfl⟩))
    (fun os started H enc _ => lifted os started H enc)

theorem proved : Rows.IntcommitCrossesSaid := over
end Go.Proofs.YtnimhldbblfgbaaGreat.intcommitCrosses
