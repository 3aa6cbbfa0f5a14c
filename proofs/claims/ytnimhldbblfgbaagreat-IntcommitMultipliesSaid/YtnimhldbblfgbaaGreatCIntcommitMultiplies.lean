/-
  The statement IntcommitMultiplies out of the walk of its Go function.
-/
import Derived.Test.YtnimhldbblfgbaaGreatRows
import Derived.Test.YtnimhldbblfgbaaGreatLL1
import Derived.WalkKit
import Derived.ProofKit
import Derived.OpenShut
import Derived.ShutString
import Derived.ChangeOld
import Derived.Below
namespace Go.Proofs.YtnimhldbblfgbaaGreat.intcommitMultiplies
open Go.ChangeShapes Go.WideShapes Go.ChangeAt Go.RowKit
set_option linter.unusedVariables false
set_option linter.unusedSimpArgs false

theorem laid : laidOutB Tryz.prog = true := by kernel_rfl

theorem own : ownKnob Tryz.prog.godebug = none := by kernel_rfl

set_option maxRecDepth 100000 in
theorem op_T26 {H : Type} {enc : TypeId × Value → H} {w : World} {held : Bool} {fuel : Nat} {cs : List Value} {x : DataW H × List MemPlace} (h : DataW.trod enc Tryz.prog w 0 (fun _ => true) held fuel 26 cs = some x) (hz : Wt Tryz.prog 26 x.1) :
    ∃ (x_0_0 : List UInt8) (x_0_1 : List UInt8) (x_1 : List UInt8) (x_2 : List UInt8), cs = [.string (S x_0_0), .string (S x_0_1), .string (S x_1), .string (S x_2)] ∧ x_0_0.length ≤ 140737488351232 ∧ x_0_1.length ≤ 140737488351232 ∧ x_1.length ≤ 140737488351232 ∧ x_2.length ≤ 140737488351232 := by
  have hl : cs.length = 4 := (op_struct Tryz.underlying26 h).1.trans (by kernel_rfl)
  obtain ⟨c0, c1, c2, c3, rfl⟩ : ∃ c0 c1 c2 c3, cs = [c0, c1, c2, c3] := by
    match cs, hl with
    | [c0, c1, c2, c3], _ => exact ⟨c0, c1, c2, c3, rfl⟩
  clear hl
  obtain ⟨_, m2, hf3⟩ := opz_struct Tryz.underlying26 h hz
  obtain ⟨y5, g4, hz6⟩ := hf3 0 _ rfl
  replace g4 : DataW.trod enc Tryz.prog w 0 (fun _ => true) held m2 24 [c0, c1] = some y5 := by rw [show Tryz.prog.cellsOf 24 = 2 from by kernel_rfl] at g4; exact g4
  obtain ⟨_, m8, hf9⟩ := opz_struct Tryz.underlying24 g4 hz6
  obtain ⟨y11, g10, hz12⟩ := hf9 0 _ rfl
  replace g10 : DataW.trod enc Tryz.prog w 0 (fun _ => true) held m8 22 [c0] = some y11 := by rw [show Tryz.prog.cellsOf 22 = 1 from by kernel_rfl] at g10; exact g10
  obtain ⟨x_0_0, e13, h14⟩ := opz_str Tryz.underlying22 g10 hz12; obtain rfl := (List.cons.inj e13).1
  obtain ⟨y16, g15, hz17⟩ := hf9 1 _ rfl
  replace g15 : DataW.trod enc Tryz.prog w 0 (fun _ => true) held m8 22 [c1] = some y16 := by rw [show Tryz.prog.cellsOf 22 = 1 from by kernel_rfl] at g15; exact g15
  obtain ⟨x_0_1, e18, h19⟩ := opz_str Tryz.underlying22 g15 hz17; obtain rfl := (List.cons.inj e18).1
  obtain ⟨y21, g20, hz22⟩ := hf3 1 _ rfl
  replace g20 : DataW.trod enc Tryz.prog w 0 (fun _ => true) held m2 22 [c2] = some y21 := by rw [show Tryz.prog.cellsOf 22 = 1 from by kernel_rfl] at g20; exact g20
  obtain ⟨x_1, e23, h24⟩ := opz_str Tryz.underlying22 g20 hz22; obtain rfl := (List.cons.inj e23).1
  obtain ⟨y26, g25, hz27⟩ := hf3 2 _ rfl
  replace g25 : DataW.trod enc Tryz.prog w 0 (fun _ => true) held m2 22 [c3] = some y26 := by rw [show Tryz.prog.cellsOf 22 = 1 from by kernel_rfl] at g25; exact g25
  obtain ⟨x_2, e28, h29⟩ := opz_str Tryz.underlying22 g25 hz27; obtain rfl := (List.cons.inj e28).1
  exact ⟨x_0_0, x_0_1, x_1, x_2, rfl, h14, h19, h24, h29⟩

set_option maxRecDepth 100000 in
theorem op_T48 {H : Type} {enc : TypeId × Value → H} {w : World} {held : Bool} {fuel : Nat} {cs : List Value} {x : DataW H × List MemPlace} (h : DataW.trod enc Tryz.prog w 0 (fun _ => true) held fuel 48 cs = some x) (hz : Wt Tryz.prog 48 x.1) :
    ∃ (x_0_0_0 : Bool) (x_0_0_1 : List UInt8) (x_0_1_0 : Bool) (x_0_1_1 : List UInt8) (x_1_0_0 : Bool) (x_1_0_1 : List UInt8) (x_1_1_0 : Bool) (x_1_1_1 : List UInt8) (x_2_0_0 : Bool) (x_2_0_1 : List UInt8) (x_2_1_0 : Bool) (x_2_1_1 : List UInt8), cs = [.bool x_0_0_0, .string (S x_0_0_1), .bool x_0_1_0, .string (S x_0_1_1), .bool x_1_0_0, .string (S x_1_0_1), .bool x_1_1_0, .string (S x_1_1_1), .bool x_2_0_0, .string (S x_2_0_1), .bool x_2_1_0, .string (S x_2_1_1)] ∧ x_0_0_1.length ≤ 140737488351232 ∧ x_0_1_1.length ≤ 140737488351232 ∧ x_1_0_1.length ≤ 140737488351232 ∧ x_1_1_1.length ≤ 140737488351232 ∧ x_2_0_1.length ≤ 140737488351232 ∧ x_2_1_1.length ≤ 140737488351232 := by
  have hl : cs.length = 12 := (op_array Tryz.underlying48 h).1.trans (by kernel_rfl)
  obtain ⟨c0, c1, c2, c3, c4, c5, c6, c7, c8, c9, c10, c11, rfl⟩ : ∃ c0 c1 c2 c3 c4 c5 c6 c7 c8 c9 c10 c11, cs = [c0, c1, c2, c3, c4, c5, c6, c7, c8, c9, c10, c11] := by
    match cs, hl with
    | [c0, c1, c2, c3, c4, c5, c6, c7, c8, c9, c10, c11], _ => exact ⟨c0, c1, c2, c3, c4, c5, c6, c7, c8, c9, c10, c11, rfl⟩
  clear hl
  obtain ⟨_, m31, hf32⟩ := opz_array Tryz.underlying48 h hz
  obtain ⟨y34, g33, hz35⟩ := hf32 0 (by decide)
  replace g33 : DataW.trod enc Tryz.prog w 0 (fun _ => true) held m31 47 [c0, c1, c2, c3] = some y34 := by rw [show Tryz.prog.cellsOf 47 = 4 from by kernel_rfl] at g33; exact g33
  obtain ⟨_, m37, hf38⟩ := opz_struct Tryz.underlying47 g33 hz35
  obtain ⟨y40, g39, hz41⟩ := hf38 0 _ rfl
  replace g39 : DataW.trod enc Tryz.prog w 0 (fun _ => true) held m37 45 [c0, c1] = some y40 := by rw [show Tryz.prog.cellsOf 45 = 2 from by kernel_rfl] at g39; exact g39
  obtain ⟨_, m43, hf44⟩ := opz_struct Tryz.underlying45 g39 hz41
  obtain ⟨y46, g45, hz47⟩ := hf44 0 _ rfl
  replace g45 : DataW.trod enc Tryz.prog w 0 (fun _ => true) held m43 4 [c0] = some y46 := by rw [show Tryz.prog.cellsOf 4 = 1 from by kernel_rfl] at g45; exact g45
  obtain ⟨x_0_0_0, e48⟩ := op_bool Tryz.underlying4 g45; obtain rfl := (List.cons.inj e48).1
  obtain ⟨y50, g49, hz51⟩ := hf44 1 _ rfl
  replace g49 : DataW.trod enc Tryz.prog w 0 (fun _ => true) held m43 22 [c1] = some y50 := by rw [show Tryz.prog.cellsOf 22 = 1 from by kernel_rfl] at g49; exact g49
  obtain ⟨x_0_0_1, e52, h53⟩ := opz_str Tryz.underlying22 g49 hz51; obtain rfl := (List.cons.inj e52).1
  obtain ⟨y55, g54, hz56⟩ := hf38 1 _ rfl
  replace g54 : DataW.trod enc Tryz.prog w 0 (fun _ => true) held m37 45 [c2, c3] = some y55 := by rw [show Tryz.prog.cellsOf 45 = 2 from by kernel_rfl] at g54; exact g54
  obtain ⟨_, m58, hf59⟩ := opz_struct Tryz.underlying45 g54 hz56
  obtain ⟨y61, g60, hz62⟩ := hf59 0 _ rfl
  replace g60 : DataW.trod enc Tryz.prog w 0 (fun _ => true) held m58 4 [c2] = some y61 := by rw [show Tryz.prog.cellsOf 4 = 1 from by kernel_rfl] at g60; exact g60
  obtain ⟨x_0_1_0, e63⟩ := op_bool Tryz.underlying4 g60; obtain rfl := (List.cons.inj e63).1
  obtain ⟨y65, g64, hz66⟩ := hf59 1 _ rfl
  replace g64 : DataW.trod enc Tryz.prog w 0 (fun _ => true) held m58 22 [c3] = some y65 := by rw [show Tryz.prog.cellsOf 22 = 1 from by kernel_rfl] at g64; exact g64
  obtain ⟨x_0_1_1, e67, h68⟩ := opz_str Tryz.underlying22 g64 hz66; obtain rfl := (List.cons.inj e67).1
  obtain ⟨y70, g69, hz71⟩ := hf32 1 (by decide)
  replace g69 : DataW.trod enc Tryz.prog w 0 (fun _ => true) held m31 47 [c4, c5, c6, c7] = some y70 := by rw [show Tryz.prog.cellsOf 47 = 4 from by kernel_rfl] at g69; exact g69
  obtain ⟨_, m73, hf74⟩ := opz_struct Tryz.underlying47 g69 hz71
  obtain ⟨y76, g75, hz77⟩ := hf74 0 _ rfl
  replace g75 : DataW.trod enc Tryz.prog w 0 (fun _ => true) held m73 45 [c4, c5] = some y76 := by rw [show Tryz.prog.cellsOf 45 = 2 from by kernel_rfl] at g75; exact g75
  obtain ⟨_, m79, hf80⟩ := opz_struct Tryz.underlying45 g75 hz77
  obtain ⟨y82, g81, hz83⟩ := hf80 0 _ rfl
  replace g81 : DataW.trod enc Tryz.prog w 0 (fun _ => true) held m79 4 [c4] = some y82 := by rw [show Tryz.prog.cellsOf 4 = 1 from by kernel_rfl] at g81; exact g81
  obtain ⟨x_1_0_0, e84⟩ := op_bool Tryz.underlying4 g81; obtain rfl := (List.cons.inj e84).1
  obtain ⟨y86, g85, hz87⟩ := hf80 1 _ rfl
  replace g85 : DataW.trod enc Tryz.prog w 0 (fun _ => true) held m79 22 [c5] = some y86 := by rw [show Tryz.prog.cellsOf 22 = 1 from by kernel_rfl] at g85; exact g85
  obtain ⟨x_1_0_1, e88, h89⟩ := opz_str Tryz.underlying22 g85 hz87; obtain rfl := (List.cons.inj e88).1
  obtain ⟨y91, g90, hz92⟩ := hf74 1 _ rfl
  replace g90 : DataW.trod enc Tryz.prog w 0 (fun _ => true) held m73 45 [c6, c7] = some y91 := by rw [show Tryz.prog.cellsOf 45 = 2 from by kernel_rfl] at g90; exact g90
  obtain ⟨_, m94, hf95⟩ := opz_struct Tryz.underlying45 g90 hz92
  obtain ⟨y97, g96, hz98⟩ := hf95 0 _ rfl
  replace g96 : DataW.trod enc Tryz.prog w 0 (fun _ => true) held m94 4 [c6] = some y97 := by rw [show Tryz.prog.cellsOf 4 = 1 from by kernel_rfl] at g96; exact g96
  obtain ⟨x_1_1_0, e99⟩ := op_bool Tryz.underlying4 g96; obtain rfl := (List.cons.inj e99).1
  obtain ⟨y101, g100, hz102⟩ := hf95 1 _ rfl
  replace g100 : DataW.trod enc Tryz.prog w 0 (fun _ => true) held m94 22 [c7] = some y101 := by rw [show Tryz.prog.cellsOf 22 = 1 from by kernel_rfl] at g100; exact g100
  obtain ⟨x_1_1_1, e103, h104⟩ := opz_str Tryz.underlying22 g100 hz102; obtain rfl := (List.cons.inj e103).1
  obtain ⟨y106, g105, hz107⟩ := hf32 2 (by decide)
  replace g105 : DataW.trod enc Tryz.prog w 0 (fun _ => true) held m31 47 [c8, c9, c10, c11] = some y106 := by rw [show Tryz.prog.cellsOf 47 = 4 from by kernel_rfl] at g105; exact g105
  obtain ⟨_, m109, hf110⟩ := opz_struct Tryz.underlying47 g105 hz107
  obtain ⟨y112, g111, hz113⟩ := hf110 0 _ rfl
  replace g111 : DataW.trod enc Tryz.prog w 0 (fun _ => true) held m109 45 [c8, c9] = some y112 := by rw [show Tryz.prog.cellsOf 45 = 2 from by kernel_rfl] at g111; exact g111
  obtain ⟨_, m115, hf116⟩ := opz_struct Tryz.underlying45 g111 hz113
  obtain ⟨y118, g117, hz119⟩ := hf116 0 _ rfl
  replace g117 : DataW.trod enc Tryz.prog w 0 (fun _ => true) held m115 4 [c8] = some y118 := by rw [show Tryz.prog.cellsOf 4 = 1 from by kernel_rfl] at g117; exact g117
  obtain ⟨x_2_0_0, e120⟩ := op_bool Tryz.underlying4 g117; obtain rfl := (List.cons.inj e120).1
  obtain ⟨y122, g121, hz123⟩ := hf116 1 _ rfl
  replace g121 : DataW.trod enc Tryz.prog w 0 (fun _ => true) held m115 22 [c9] = some y122 := by rw [show Tryz.prog.cellsOf 22 = 1 from by kernel_rfl] at g121; exact g121
  obtain ⟨x_2_0_1, e124, h125⟩ := opz_str Tryz.underlying22 g121 hz123; obtain rfl := (List.cons.inj e124).1
  obtain ⟨y127, g126, hz128⟩ := hf110 1 _ rfl
  replace g126 : DataW.trod enc Tryz.prog w 0 (fun _ => true) held m109 45 [c10, c11] = some y127 := by rw [show Tryz.prog.cellsOf 45 = 2 from by kernel_rfl] at g126; exact g126
  obtain ⟨_, m130, hf131⟩ := opz_struct Tryz.underlying45 g126 hz128
  obtain ⟨y133, g132, hz134⟩ := hf131 0 _ rfl
  replace g132 : DataW.trod enc Tryz.prog w 0 (fun _ => true) held m130 4 [c10] = some y133 := by rw [show Tryz.prog.cellsOf 4 = 1 from by kernel_rfl] at g132; exact g132
  obtain ⟨x_2_1_0, e135⟩ := op_bool Tryz.underlying4 g132; obtain rfl := (List.cons.inj e135).1
  obtain ⟨y137, g136, hz138⟩ := hf131 1 _ rfl
  replace g136 : DataW.trod enc Tryz.prog w 0 (fun _ => true) held m130 22 [c11] = some y137 := by rw [show Tryz.prog.cellsOf 22 = 1 from by kernel_rfl] at g136; exact g136
  obtain ⟨x_2_1_1, e139, h140⟩ := opz_str Tryz.underlying22 g136 hz138; obtain rfl := (List.cons.inj e139).1
  exact ⟨x_0_0_0, x_0_0_1, x_0_1_0, x_0_1_1, x_1_0_0, x_1_0_1, x_1_1_0, x_1_1_1, x_2_0_0, x_2_0_1, x_2_1_0, x_2_1_1, rfl, h53, h68, h89, h104, h125, h140⟩

set_option maxRecDepth 100000 in
theorem op_T56 {H : Type} {enc : TypeId × Value → H} {w : World} {held : Bool} {fuel : Nat} {cs : List Value} {x : DataW H × List MemPlace} (h : DataW.trod enc Tryz.prog w 0 (fun _ => true) held fuel 56 cs = some x) (hz : Wt Tryz.prog 56 x.1) :
    ∃ (x_0 : List UInt8) (x_1 : List UInt8), cs = [.string (S x_0), .string (S x_1)] ∧ x_0.length ≤ 140737488351232 ∧ x_1.length ≤ 140737488351232 := by
  have hl : cs.length = 2 := (op_array Tryz.underlying56 h).1.trans (by kernel_rfl)
  obtain ⟨c0, c1, rfl⟩ : ∃ c0 c1, cs = [c0, c1] := by
    match cs, hl with
    | [c0, c1], _ => exact ⟨c0, c1, rfl⟩
  clear hl
  obtain ⟨_, m142, hf143⟩ := opz_array Tryz.underlying56 h hz
  obtain ⟨y145, g144, hz146⟩ := hf143 0 (by decide)
  replace g144 : DataW.trod enc Tryz.prog w 0 (fun _ => true) held m142 22 [c0] = some y145 := by rw [show Tryz.prog.cellsOf 22 = 1 from by kernel_rfl] at g144; exact g144
  obtain ⟨x_0, e147, h148⟩ := opz_str Tryz.underlying22 g144 hz146; obtain rfl := (List.cons.inj e147).1
  obtain ⟨y150, g149, hz151⟩ := hf143 1 (by decide)
  replace g149 : DataW.trod enc Tryz.prog w 0 (fun _ => true) held m142 22 [c1] = some y150 := by rw [show Tryz.prog.cellsOf 22 = 1 from by kernel_rfl] at g149; exact g149
  obtain ⟨x_1, e152, h153⟩ := opz_str Tryz.underlying22 g149 hz151; obtain rfl := (List.cons.inj e152).1
  exact ⟨x_0, x_1, rfl, h148, h153⟩

set_option maxRecDepth 100000 in
theorem lifted (os : Os) (started : os.Started) (H : Type) (enc : TypeId × Value → H) :
    ReturnsInHanded {} Tryz.checked os 6 .any (Rows.intcommitMultipliesSpec.pre6 enc Tryz.prog Tryz.f6 Rows.intcommitMultipliesRow.domain false) (Rows.intcommitMultipliesSpec.post enc Tryz.prog Tryz.f6 false true false false) := by
  refine returnsInHanded_of_change_sized (C := Tryz.checked) own started (by kernel_rfl) Tryz.func6
    (ChangeSpec.witness6 (enc := enc) (C := Tryz.checked) false ⟨#[], #[(.agg #[.string (S []), .string (S []), .string (S []), .string (S [])]), (.agg #[.bool false, .string (S []), .bool false, .string (S []), .bool false, .string (S []), .bool false, .string (S []), .bool false, .string (S []), .bool false, .string (S [])]), (.agg #[.string (S []), .string (S [])])], []⟩ 8 (by kernel_rfl) (by kernel_rfl) (by kernel_rfl) (by kernel_rfl)) ?_
  intro W base args ds gs before hval0 hW hcnd hwt0 _
  have hval : ∀ (j : Nat) t v, Tryz.f6.params[j]? = some t → args[j]? = some v → Value.okWide Tryz.prog W .any base t v := hval0
  have hW' := hW
  obtain ⟨p, q, hA0, hV, rfl, hfz, hnd⟩ := hW
  have hA : DataW.TrodAll enc Tryz.prog W 0 (fun _ => true) true Tryz.f6.params.toList args.toList ds p := hA0
  rw [Tryz.params6] at hA hval
  obtain ⟨v0, vs0, d0, ds0, p0, q0, hargs, rfl, rfl, h0, r0⟩ := trodAll_cons hA
  obtain ⟨v1, vs1, d1, ds1, p1, q1, rfl, rfl, rfl, h1, r1⟩ := trodAll_cons r0
  obtain ⟨v2, vs2, d2, ds2, p2, q2, rfl, rfl, rfl, h2, r2⟩ := trodAll_cons r1
  obtain ⟨rfl, rfl, rfl⟩ := trodAll_nil r2
  obtain rfl : args = #[v0, v1, v2] := by cases args; simp_all
  obtain ⟨rfl, rfl⟩ := trodVars_none hV
  have w0 : Wt Tryz.prog 26 d0 := wt_all hwt0 (j := 0) (by rw [Tryz.params6]; rfl) rfl
  have w1 : Wt Tryz.prog 48 d1 := wt_all hwt0 (j := 1) (by rw [Tryz.params6]; rfl) rfl
  have w2 : Wt Tryz.prog 56 d2 := wt_all hwt0 (j := 2) (by rw [Tryz.params6]; rfl) rfl
  have k0 := h0
  obtain ⟨fu0, f0⟩ := h0
  obtain ⟨cs0, rfl, hz0⟩ : ∃ cs, v0 = .agg cs ∧ cs.size = Tryz.prog.cellsOf 26 := by have q := (hval 0 26 v0 rfl rfl); simp only [Value.okWide, Tryz.underlying26] at q; obtain ⟨cs, q1, q2, _⟩ := q; exact ⟨cs, q1, q2⟩
  obtain ⟨a0_0_0, a0_0_1, a0_1, a0_2, e0, z0_0, z0_1, z0_2, z0_3⟩ := op_T26 f0 w0
  obtain rfl : cs0 = #[.string (S a0_0_0), .string (S a0_0_1), .string (S a0_1), .string (S a0_2)] := Array.ext' e0
  have k1 := h1
  obtain ⟨fu1, f1⟩ := h1
  obtain ⟨cs1, rfl, hz1⟩ : ∃ cs, v1 = .agg cs ∧ cs.size = Tryz.prog.cellsOf 48 := by have q := (hval 1 48 v1 rfl rfl); simp only [Value.okWide, Tryz.underlying48] at q; obtain ⟨cs, q1, q2, _⟩ := q; exact ⟨cs, q1, q2⟩
  obtain ⟨a1_0_0_0, a1_0_0_1, a1_0_1_0, a1_0_1_1, a1_1_0_0, a1_1_0_1, a1_1_1_0, a1_1_1_1, a1_2_0_0, a1_2_0_1, a1_2_1_0, a1_2_1_1, e1, z1_0, z1_1, z1_2, z1_3, z1_4, z1_5⟩ := op_T48 f1 w1
  obtain rfl : cs1 = #[.bool a1_0_0_0, .string (S a1_0_0_1), .bool a1_0_1_0, .string (S a1_0_1_1), .bool a1_1_0_0, .string (S a1_1_0_1), .bool a1_1_1_0, .string (S a1_1_1_1), .bool a1_2_0_0, .string (S a1_2_0_1), .bool a1_2_1_0, .string (S a1_2_1_1)] := Array.ext' e1
  have k2 := h2
  obtain ⟨fu2, f2⟩ := h2
  obtain ⟨cs2, rfl, hz2⟩ : ∃ cs, v2 = .agg cs ∧ cs.size = Tryz.prog.cellsOf 56 := by have q := (hval 2 56 v2 rfl rfl); simp only [Value.okWide, Tryz.underlying56] at q; obtain ⟨cs, q1, q2, _⟩ := q; exact ⟨cs, q1, q2⟩
  obtain ⟨a2_0, a2_1, e2, z2_0, z2_1⟩ := op_T56 f2 w2
  obtain rfl : cs2 = #[.string (S a2_0), .string (S a2_1)] := Array.ext' e2
  clear hA0 hval0
  have hcall : Calls Tryz.prog 6 #[.agg #[.string (S a0_0_0), .string (S a0_0_1), .string (S a0_1), .string (S a0_2)], .agg #[.bool a1_0_0_0, .string (S a1_0_0_1), .bool a1_0_1_0, .string (S a1_0_1_1), .bool a1_1_0_0, .string (S a1_1_0_1), .bool a1_1_1_0, .string (S a1_1_1_1), .bool a1_2_0_0, .string (S a1_2_0_1), .bool a1_2_1_0, .string (S a1_2_1_1)], .agg #[.string (S a2_0), .string (S a2_1)]] W (fun e w' => e = .returned (.bool true) ∧ Below W.heap.size W w') := icmul_c (k := ((a0_0_0, a0_0_1), a0_1, a0_2)) (a := ((a1_0_0_0, a1_0_0_1), (a1_0_1_0, a1_0_1_1))) (b := ((a1_1_0_0, a1_1_0_1), (a1_1_1_0, a1_1_1_1))) (c := ((a1_2_0_0, a1_2_0_1), (a1_2_1_0, a1_2_1_1))) (x := a2_0) (y := a2_1)
  refine hcall.mono fun e W' ⟨he, bel⟩ => ?_
  subst he
  exact ⟨_, rfl, _, _, _, [], _, [], hW', trodAll_mk1 (shut_bool Tryz.underlying4 _), (trodAll_cons_mk (Below.trod laid (by kernel_rfl) (of_decide_eq_true (by kernel_rfl)) k0 bel (fun x hx => hW'.lt x (by simp [hx]))) (trodAll_cons_mk (Below.trod laid (by kernel_rfl) (of_decide_eq_true (by kernel_rfl)) k1 bel (fun x hx => hW'.lt x (by simp [hx]))) (trodAll_cons_mk (Below.trod laid (by kernel_rfl) (of_decide_eq_true (by kernel_rfl)) k2 bel (fun x hx => hW'.lt x (by simp [hx]))) trodAll_mk0))), rfl, bel.frame _, fun h => by cases h⟩

theorem over : Rows.intcommitMultipliesRow.holds Tryz.pinned (OpenSpec.ofChange Rows.intcommitMultipliesSpec) :=
  OpenClaim.holds_of_wide 6 Tryz.f6 rfl rfl rfl rfl rfl rfl rfl ⟨rfl, rfl, rfl, rfl, rfl⟩ rfl rfl rfl rfl rfl (by kernel_rfl) Tryz.func6 (by kernel_rfl)
    (of_decide_eq_true (by kernel_rfl)) (by unfold Func.isWrapper; first | (rw [if_pos (by decide +kernel)]; kernel_rfl) | (rw [if_neg (by decide +kernel)]; exact ⟨rfl, rfl⟩))
    (fun os started H enc _ => lifted os started H enc)

theorem proved : Rows.IntcommitMultipliesSaid := over
end Go.Proofs.YtnimhldbblfgbaaGreat.intcommitMultiplies
