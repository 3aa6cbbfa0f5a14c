/-
  The statement IntcommitWitnesses out of the walk of its Go function.
-/
import Derived.Test.YtnimhldbblfgbaaGreatRows
import Derived.Test.YtnimhldbblfgbaaGreatK16
import Derived.WalkKit
import Derived.ProofKit
import Derived.OpenShut
import Derived.ShutString
import Derived.ChangeOld
import Derived.Below
namespace Go.Proofs.YtnimhldbblfgbaaGreat.intcommitWitnesses
open Go.ChangeShapes Go.WideShapes Go.ChangeAt Go.RowKit
set_option linter.unusedVariables false
set_option linter.unusedSimpArgs false

theorem laid : laidOutB Tryz.prog = true := by kernel_rfl

theorem own : ownKnob Tryz.prog.godebug = none := by kernel_rfl

set_option maxRecDepth 100000 in
theorem op_T48 {H : Type} {enc : TypeId × Value → H} {w : World} {held : Bool} {fuel : Nat} {cs : List Value} {x : DataW H × List MemPlace} (h : DataW.trod enc Tryz.prog w 0 (fun _ => true) held fuel 48 cs = some x) (hz : Wt Tryz.prog 48 x.1) :
    ∃ (x_0_0_0 : Bool) (x_0_0_1 : List UInt8) (x_0_1_0 : Bool) (x_0_1_1 : List UInt8) (x_1_0_0 : Bool) (x_1_0_1 : List UInt8) (x_1_1_0 : Bool) (x_1_1_1 : List UInt8) (x_2_0_0 : Bool) (x_2_0_1 : List UInt8) (x_2_1_0 : Bool) (x_2_1_1 : List UInt8), cs = [.bool x_0_0_0, .string (S x_0_0_1), .bool x_0_1_0, .string (S x_0_1_1), .bool x_1_0_0, .string (S x_1_0_1), .bool x_1_1_0, .string (S x_1_1_1), .bool x_2_0_0, .string (S x_2_0_1), .bool x_2_1_0, .string (S x_2_1_1)] ∧ x_0_0_1.length ≤ 140737488351232 ∧ x_0_1_1.length ≤ 140737488351232 ∧ x_1_0_1.length ≤ 140737488351232 ∧ x_1_1_1.length ≤ 140737488351232 ∧ x_2_0_1.length ≤ 140737488351232 ∧ x_2_1_1.length ≤ 140737488351232 := by
  have hl : cs.length = 12 := (op_array Tryz.underlying48 h).1.trans (by kernel_rfl)
  obtain ⟨c0, c1, c2, c3, c4, c5, c6, c7, c8, c9, c10, c11, rfl⟩ : ∃ c0 c1 c2 c3 c4 c5 c6 c7 c8 c9 c10 c11, cs = [c0, c1, c2, c3, c4, c5, c6, c7, c8, c9, c10, c11] := by
    match cs, hl with
    | [c0, c1, c2, c3, c4, c5, c6, c7, c8, c9, c10, c11], _ => exact ⟨c0, c1, c2, c3, c4, c5, c6, c7, c8, c9, c10, c11, rfl⟩
  clear hl
  obtain ⟨_, m2, hf3⟩ := opz_array Tryz.underlying48 h hz
  obtain ⟨y5, g4, hz6⟩ := hf3 0 (by decide)
  replace g4 : DataW.trod enc Tryz.prog w 0 (fun _ => true) held m2 47 [c0, c1, c2, c3] = some y5 := by rw [show Tryz.prog.cellsOf 47 = 4 from by kernel_rfl] at g4; exact g4
  obtain ⟨_, m8, hf9⟩ := opz_struct Tryz.underlying47 g4 hz6
  obtain ⟨y11, g10, hz12⟩ := hf9 0 _ rfl
  replace g10 : DataW.trod enc Tryz.prog w 0 (fun _ => true) held m8 45 [c0, c1] = some y11 := by rw [show Tryz.prog.cellsOf 45 = 2 from by kernel_rfl] at g10; exact g10
  obtain ⟨_, m14, hf15⟩ := opz_struct Tryz.underlying45 g10 hz12
  obtain ⟨y17, g16, hz18⟩ := hf15 0 _ rfl
  replace g16 : DataW.trod enc Tryz.prog w 0 (fun _ => true) held m14 4 [c0] = some y17 := by rw [show Tryz.prog.cellsOf 4 = 1 from by kernel_rfl] at g16; exact g16
  obtain ⟨x_0_0_0, e19⟩ := op_bool Tryz.underlying4 g16; obtain rfl := (List.cons.inj e19).1
  obtain ⟨y21, g20, hz22⟩ := hf15 1 _ rfl
  replace g20 : DataW.trod enc Tryz.prog w 0 (fun _ => true) held m14 22 [c1] = some y21 := by rw [show Tryz.prog.cellsOf 22 = 1 from by kernel_rfl] at g20; exact g20
  obtain ⟨x_0_0_1, e23, h24⟩ := opz_str Tryz.underlying22 g20 hz22; obtain rfl := (List.cons.inj e23).1
  obtain ⟨y26, g25, hz27⟩ := hf9 1 _ rfl
  replace g25 : DataW.trod enc Tryz.prog w 0 (fun _ => true) held m8 45 [c2, c3] = some y26 := by rw [show Tryz.prog.cellsOf 45 = 2 from by kernel_rfl] at g25; exact g25
  obtain ⟨_, m29, hf30⟩ := opz_struct Tryz.underlying45 g25 hz27
  obtain ⟨y32, g31, hz33⟩ := hf30 0 _ rfl
  replace g31 : DataW.trod enc Tryz.prog w 0 (fun _ => true) held m29 4 [c2] = some y32 := by rw [show Tryz.prog.cellsOf 4 = 1 from by kernel_rfl] at g31; exact g31
  obtain ⟨x_0_1_0, e34⟩ := op_bool Tryz.underlying4 g31; obtain rfl := (List.cons.inj e34).1
  obtain ⟨y36, g35, hz37⟩ := hf30 1 _ rfl
  replace g35 : DataW.trod enc Tryz.prog w 0 (fun _ => true) held m29 22 [c3] = some y36 := by rw [show Tryz.prog.cellsOf 22 = 1 from by kernel_rfl] at g35; exact g35
  obtain ⟨x_0_1_1, e38, h39⟩ := opz_str Tryz.underlying22 g35 hz37; obtain rfl := (List.cons.inj e38).1
  obtain ⟨y41, g40, hz42⟩ := hf3 1 (by decide)
  replace g40 : DataW.trod enc Tryz.prog w 0 (fun _ => true) held m2 47 [c4, c5, c6, c7] = some y41 := by rw [show Tryz.prog.cellsOf 47 = 4 from by kernel_rfl] at g40; exact g40
  obtain ⟨_, m44, hf45⟩ := opz_struct Tryz.underlying47 g40 hz42
  obtain ⟨y47, g46, hz48⟩ := hf45 0 _ rfl
  replace g46 : DataW.trod enc Tryz.prog w 0 (fun _ => true) held m44 45 [c4, c5] = some y47 := by rw [show Tryz.prog.cellsOf 45 = 2 from by kernel_rfl] at g46; exact g46
  obtain ⟨_, m50, hf51⟩ := opz_struct Tryz.underlying45 g46 hz48
  obtain ⟨y53, g52, hz54⟩ := hf51 0 _ rfl
  replace g52 : DataW.trod enc Tryz.prog w 0 (fun _ => true) held m50 4 [c4] = some y53 := by rw [show Tryz.prog.cellsOf 4 = 1 from by kernel_rfl] at g52; exact g52
  obtain ⟨x_1_0_0, e55⟩ := op_bool Tryz.underlying4 g52; obtain rfl := (List.cons.inj e55).1
  obtain ⟨y57, g56, hz58⟩ := hf51 1 _ rfl
  replace g56 : DataW.trod enc Tryz.prog w 0 (fun _ => true) held m50 22 [c5] = some y57 := by rw [show Tryz.prog.cellsOf 22 = 1 from by kernel_rfl] at g56; exact g56
  obtain ⟨x_1_0_1, e59, h60⟩ := opz_str Tryz.underlying22 g56 hz58; obtain rfl := (List.cons.inj e59).1
  obtain ⟨y62, g61, hz63⟩ := hf45 1 _ rfl
  replace g61 : DataW.trod enc Tryz.prog w 0 (fun _ => true) held m44 45 [c6, c7] = some y62 := by rw [show Tryz.prog.cellsOf 45 = 2 from by kernel_rfl] at g61; exact g61
  obtain ⟨_, m65, hf66⟩ := opz_struct Tryz.underlying45 g61 hz63
  obtain ⟨y68, g67, hz69⟩ := hf66 0 _ rfl
  replace g67 : DataW.trod enc Tryz.prog w 0 (fun _ => true) held m65 4 [c6] = some y68 := by rw [show Tryz.prog.cellsOf 4 = 1 from by kernel_rfl] at g67; exact g67
  obtain ⟨x_1_1_0, e70⟩ := op_bool Tryz.underlying4 g67; obtain rfl := (List.cons.inj e70).1
  obtain ⟨y72, g71, hz73⟩ := hf66 1 _ rfl
  replace g71 : DataW.trod enc Tryz.prog w 0 (fun _ => true) held m65 22 [c7] = some y72 := by rw [show Tryz.prog.cellsOf 22 = 1 from by kernel_rfl] at g71; exact g71
  obtain ⟨x_1_1_1, e74, h75⟩ := opz_str Tryz.underlying22 g71 hz73; obtain rfl := (List.cons.inj e74).1
  obtain ⟨y77, g76, hz78⟩ := hf3 2 (by decide)
  replace g76 : DataW.trod enc Tryz.prog w 0 (fun _ => true) held m2 47 [c8, c9, c10, c11] = some y77 := by rw [show Tryz.prog.cellsOf 47 = 4 from by kernel_rfl] at g76; exact g76
  obtain ⟨_, m80, hf81⟩ := opz_struct Tryz.underlying47 g76 hz78
  obtain ⟨y83, g82, hz84⟩ := hf81 0 _ rfl
  replace g82 : DataW.trod enc Tryz.prog w 0 (fun _ => true) held m80 45 [c8, c9] = some y83 := by rw [show Tryz.prog.cellsOf 45 = 2 from by kernel_rfl] at g82; exact g82
  obtain ⟨_, m86, hf87⟩ := opz_struct Tryz.underlying45 g82 hz84
  obtain ⟨y89, g88, hz90⟩ := hf87 0 _ rfl
  replace g88 : DataW.trod enc Tryz.prog w 0 (fun _ => true) held m86 4 [c8] = some y89 := by rw [show Tryz.prog.cellsOf 4 = 1 from by kernel_rfl] at g88; exact g88
  obtain ⟨x_2_0_0, e91⟩ := op_bool Tryz.underlying4 g88; obtain rfl := (List.cons.inj e91).1
  obtain ⟨y93, g92, hz94⟩ := hf87 1 _ rfl
  replace g92 : DataW.trod enc Tryz.prog w 0 (fun _ => true) held m86 22 [c9] = some y93 := by rw [show Tryz.prog.cellsOf 22 = 1 from by kernel_rfl] at g92; exact g92
  obtain ⟨x_2_0_1, e95, h96⟩ := opz_str Tryz.underlying22 g92 hz94; obtain rfl := (List.cons.inj e95).1
  obtain ⟨y98, g97, hz99⟩ := hf81 1 _ rfl
  replace g97 : DataW.trod enc Tryz.prog w 0 (fun _ => true) held m80 45 [c10, c11] = some y98 := by rw [show Tryz.prog.cellsOf 45 = 2 from by kernel_rfl] at g97; exact g97
  obtain ⟨_, m101, hf102⟩ := opz_struct Tryz.underlying45 g97 hz99
  obtain ⟨y104, g103, hz105⟩ := hf102 0 _ rfl
  replace g103 : DataW.trod enc Tryz.prog w 0 (fun _ => true) held m101 4 [c10] = some y104 := by rw [show Tryz.prog.cellsOf 4 = 1 from by kernel_rfl] at g103; exact g103
  obtain ⟨x_2_1_0, e106⟩ := op_bool Tryz.underlying4 g103; obtain rfl := (List.cons.inj e106).1
  obtain ⟨y108, g107, hz109⟩ := hf102 1 _ rfl
  replace g107 : DataW.trod enc Tryz.prog w 0 (fun _ => true) held m101 22 [c11] = some y108 := by rw [show Tryz.prog.cellsOf 22 = 1 from by kernel_rfl] at g107; exact g107
  obtain ⟨x_2_1_1, e110, h111⟩ := opz_str Tryz.underlying22 g107 hz109; obtain rfl := (List.cons.inj e110).1
  exact ⟨x_0_0_0, x_0_0_1, x_0_1_0, x_0_1_1, x_1_0_0, x_1_0_1, x_1_1_0, x_1_1_1, x_2_0_0, x_2_0_1, x_2_1_0, x_2_1_1, rfl, h24, h39, h60, h75, h96, h111⟩

set_option maxRecDepth 100000 in
theorem lifted (os : Os) (started : os.Started) (H : Type) (enc : TypeId × Value → H) :
    ReturnsInHanded {} Tryz.checked os 4 .any (Rows.intcommitWitnessesSpec.pre6 enc Tryz.prog Tryz.f4 Rows.intcommitWitnessesRow.domain false) (Rows.intcommitWitnessesSpec.post enc Tryz.prog Tryz.f4 false true false false) := by
  refine returnsInHanded_of_change_sized (C := Tryz.checked) own started (by kernel_rfl) Tryz.func4
    (ChangeSpec.witness6 (enc := enc) (C := Tryz.checked) false ⟨#[], #[(.agg #[.bool false, .string (S []), .bool false, .string (S []), .bool false, .string (S []), .bool false, .string (S []), .bool false, .string (S []), .bool false, .string (S [])])], []⟩ 8 (by kernel_rfl) (by kernel_rfl) (by kernel_rfl) (by kernel_rfl)) ?_
  intro W base args ds gs before hval0 hW hcnd hwt0 _
  have hval : ∀ (j : Nat) t v, Tryz.f4.params[j]? = some t → args[j]? = some v → Value.okWide Tryz.prog W .any base t v := hval0
  have hW' := hW
  obtain ⟨p, q, hA0, hV, rfl, hfz, hnd⟩ := hW
  have hA : DataW.TrodAll enc Tryz.prog W 0 (fun _ => true) true Tryz.f4.params.toList args.toList ds p := hA0
  rw [Tryz.params4] at hA hval
  obtain ⟨v0, vs0, d0, ds0, p0, q0, hargs, rfl, rfl, h0, r0⟩ := trodAll_cons hA
  obtain ⟨rfl, rfl, rfl⟩ := trodAll_nil r0
  obtain rfl : args = #[v0] := by cases args; simp_all
  obtain ⟨rfl, rfl⟩ := trodVars_none hV
  have w0 : Wt Tryz.prog 48 d0 := wt_all hwt0 (j := 0) (by rw [Tryz.params4]; rfl) rfl
  have k0 := h0
  obtain ⟨fu0, f0⟩ := h0
  obtain ⟨cs0, rfl, hz0⟩ : ∃ cs, v0 = .agg cs ∧ cs.size = Tryz.prog.cellsOf 48 := by have q := (hval 0 48 v0 rfl rfl); simp only [Value.okWide, Tryz.underlying48] at q; obtain ⟨cs, q1, q2, _⟩ := q; exact ⟨cs, q1, q2⟩
  obtain ⟨a0_0_0_0, a0_0_0_1, a0_0_1_0, a0_0_1_1, a0_1_0_0, a0_1_0_1, a0_1_1_0, a0_1_1_1, a0_2_0_0, a0_2_0_1, a0_2_1_0, a0_2_1_1, e0, z0_0, z0_1, z0_2, z0_3, z0_4, z0_5⟩ := op_T48 f0 w0
  obtain rfl : cs0 = #[.bool a0_0_0_0, .string (S a0_0_0_1), .bool a0_0_1_0, .string (S a0_0_1_1), .bool a0_1_0_0, .string (S a0_1_0_1), .bool a0_1_1_0, .string (S a0_1_1_1), .bool a0_2_0_0, .string (S a0_2_0_1), .bool a0_2_1_0, .string (S a0_2_1_1)] := Array.ext' e0
  clear hA0 hval0
  have hcall : Calls Tryz.prog 4 #[.agg #[.bool a0_0_0_0, .string (S a0_0_0_1), .bool a0_0_1_0, .string (S a0_0_1_1), .bool a0_1_0_0, .string (S a0_1_0_1), .bool a0_1_1_0, .string (S a0_1_1_1), .bool a0_2_0_0, .string (S a0_2_0_1), .bool a0_2_1_0, .string (S a0_2_1_1)]] W (fun e w' => e = .returned (.bool true) ∧ Below W.heap.size W w') := icwits_c (a := ((a0_0_0_0, a0_0_0_1), (a0_0_1_0, a0_0_1_1))) (b := ((a0_1_0_0, a0_1_0_1), (a0_1_1_0, a0_1_1_1))) (c := ((a0_2_0_0, a0_2_0_1), (a0_2_1_0, a0_2_1_1)))
  refine hcall.mono fun e W' ⟨he, bel⟩ => ?_
  subst he
  exact ⟨_, rfl, _, _, _, [], _, [], hW', trodAll_mk1 (shut_bool Tryz.underlying4 _), (trodAll_cons_mk (Below.trod laid (by kernel_rfl) (of_decide_eq_true (by kernel_rfl)) k0 bel (fun x hx => hW'.lt x (by simp [hx]))) trodAll_mk0), rfl, bel.frame _, fun h => by cases h⟩

theorem over : Rows.intcommitWitnessesRow.holds Tryz.pinned (OpenSpec.ofChange Rows.intcommitWitnessesSpec) :=
  OpenClaim.holds_of_wide 4 Tryz.f4 rfl rfl rfl rfl rfl rfl rfl ⟨rfl, rfl, rfl, rfl, rfl⟩ rfl rfl rfl rfl rfl (by kernel_rfl) Tryz.func4 (by kernel_rfl)
    (of_decide_eq_true (by kernel_rfl)) (by unfold Func.isWrapper; first | (rw [if_pos (by decide +kernel)]; kernel_rfl) | (rw [if_neg (by decide +kernel)]; exact ⟨rfl, rfl⟩))
    (fun os started H enc _ => lifted os started H enc)

theorem proved : Rows.IntcommitWitnessesSaid := over
end Go.Proofs.YtnimhldbblfgbaaGreat.intcommitWitnesses
