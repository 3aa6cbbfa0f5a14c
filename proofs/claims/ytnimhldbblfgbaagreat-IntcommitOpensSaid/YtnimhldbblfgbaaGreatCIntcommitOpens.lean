/-
  The statement IntcommitOpens out of the walk of its Go function.
-/
import Derived.Test.YtnimhldbblfgbaaGreatRows
import Derived.Test.YtnimhldbblfgbaaGreatLO1
import Derived.WalkKit
import Derived.ProofKit
import Derived.OpenShut
import Derived.ShutString
import Derived.ChangeOld
import Derived.Below
namespace Go.Proofs.YtnimhldbblfgbaaGreat.intcommitOpens
open Go.ChangeShapes Go.WideShapes Go.ChangeAt Go.RowKit
set_option linter.unusedVariables false
set_option linter.unusedSimpArgs false

theorem laid : laidOutB Tryz.prog = true := by kernel_rfl

theorem own : ownKnob Tryz.prog.godebug = none := by kernel_rfl

set_option maxRecDepth 100000 in
theorem op_T28 {H : Type} {enc : TypeId × Value → H} {w : World} {held : Bool} {fuel : Nat} {cs : List Value} {x : DataW H × List MemPlace} (h : DataW.trod enc Tryz.prog w 0 (fun _ => true) held fuel 28 cs = some x) (hz : Wt Tryz.prog 28 x.1) :
    ∃ (x_0_0_0 : List UInt8) (x_0_0_1 : List UInt8) (x_0_1 : List UInt8) (x_0_2 : List UInt8) (x_1 : List UInt8) (x_2 : List UInt8) (x_3 : List UInt8) (x_4 : List UInt8) (x_5 : List UInt8), cs = [.string (S x_0_0_0), .string (S x_0_0_1), .string (S x_0_1), .string (S x_0_2), .string (S x_1), .string (S x_2), .string (S x_3), .string (S x_4), .string (S x_5)] ∧ x_0_0_0.length ≤ 140737488351232 ∧ x_0_0_1.length ≤ 140737488351232 ∧ x_0_1.length ≤ 140737488351232 ∧ x_0_2.length ≤ 140737488351232 ∧ x_1.length ≤ 140737488351232 ∧ x_2.length ≤ 140737488351232 ∧ x_3.length ≤ 140737488351232 ∧ x_4.length ≤ 140737488351232 ∧ x_5.length ≤ 140737488351232 := by
  have hl : cs.length = 9 := (op_struct Tryz.underlying28 h).1.trans (by kernel_rfl)
  obtain ⟨c0, c1, c2, c3, c4, c5, c6, c7, c8, rfl⟩ : ∃ c0 c1 c2 c3 c4 c5 c6 c7 c8, cs = [c0, c1, c2, c3, c4, c5, c6, c7, c8] := by
    match cs, hl with
    | [c0, c1, c2, c3, c4, c5, c6, c7, c8], _ => exact ⟨c0, c1, c2, c3, c4, c5, c6, c7, c8, rfl⟩
  clear hl
  obtain ⟨_, m2, hf3⟩ := opz_struct Tryz.underlying28 h hz
  obtain ⟨y5, g4, hz6⟩ := hf3 0 _ rfl
  replace g4 : DataW.trod enc Tryz.prog w 0 (fun _ => true) held m2 26 [c0, c1, c2, c3] = some y5 := by rw [show Tryz.prog.cellsOf 26 = 4 from by kernel_rfl] at g4; exact g4
  obtain ⟨_, m8, hf9⟩ := opz_struct Tryz.underlying26 g4 hz6
  obtain ⟨y11, g10, hz12⟩ := hf9 0 _ rfl
  replace g10 : DataW.trod enc Tryz.prog w 0 (fun _ => true) held m8 24 [c0, c1] = some y11 := by rw [show Tryz.prog.cellsOf 24 = 2 from by kernel_rfl] at g10; exact g10
  obtain ⟨_, m14, hf15⟩ := opz_struct Tryz.underlying24 g10 hz12
  obtain ⟨y17, g16, hz18⟩ := hf15 0 _ rfl
  replace g16 : DataW.trod enc Tryz.prog w 0 (fun _ => true) held m14 22 [c0] = some y17 := by rw [show Tryz.prog.cellsOf 22 = 1 from by kernel_rfl] at g16; exact g16
  obtain ⟨x_0_0_0, e19, h20⟩ := opz_str Tryz.underlying22 g16 hz18; obtain rfl := (List.cons.inj e19).1
  obtain ⟨y22, g21, hz23⟩ := hf15 1 _ rfl
  replace g21 : DataW.trod enc Tryz.prog w 0 (fun _ => true) held m14 22 [c1] = some y22 := by rw [show Tryz.prog.cellsOf 22 = 1 from by kernel_rfl] at g21; exact g21
  obtain ⟨x_0_0_1, e24, h25⟩ := opz_str Tryz.underlying22 g21 hz23; obtain rfl := (List.cons.inj e24).1
  obtain ⟨y27, g26, hz28⟩ := hf9 1 _ rfl
  replace g26 : DataW.trod enc Tryz.prog w 0 (fun _ => true) held m8 22 [c2] = some y27 := by rw [show Tryz.prog.cellsOf 22 = 1 from by kernel_rfl] at g26; exact g26
  obtain ⟨x_0_1, e29, h30⟩ := opz_str Tryz.underlying22 g26 hz28; obtain rfl := (List.cons.inj e29).1
  obtain ⟨y32, g31, hz33⟩ := hf9 2 _ rfl
  replace g31 : DataW.trod enc Tryz.prog w 0 (fun _ => true) held m8 22 [c3] = some y32 := by rw [show Tryz.prog.cellsOf 22 = 1 from by kernel_rfl] at g31; exact g31
  obtain ⟨x_0_2, e34, h35⟩ := opz_str Tryz.underlying22 g31 hz33; obtain rfl := (List.cons.inj e34).1
  obtain ⟨y37, g36, hz38⟩ := hf3 1 _ rfl
  replace g36 : DataW.trod enc Tryz.prog w 0 (fun _ => true) held m2 22 [c4] = some y37 := by rw [show Tryz.prog.cellsOf 22 = 1 from by kernel_rfl] at g36; exact g36
  obtain ⟨x_1, e39, h40⟩ := opz_str Tryz.underlying22 g36 hz38; obtain rfl := (List.cons.inj e39).1
  obtain ⟨y42, g41, hz43⟩ := hf3 2 _ rfl
  replace g41 : DataW.trod enc Tryz.prog w 0 (fun _ => true) held m2 22 [c5] = some y42 := by rw [show Tryz.prog.cellsOf 22 = 1 from by kernel_rfl] at g41; exact g41
  obtain ⟨x_2, e44, h45⟩ := opz_str Tryz.underlying22 g41 hz43; obtain rfl := (List.cons.inj e44).1
  obtain ⟨y47, g46, hz48⟩ := hf3 3 _ rfl
  replace g46 : DataW.trod enc Tryz.prog w 0 (fun _ => true) held m2 22 [c6] = some y47 := by rw [show Tryz.prog.cellsOf 22 = 1 from by kernel_rfl] at g46; exact g46
  obtain ⟨x_3, e49, h50⟩ := opz_str Tryz.underlying22 g46 hz48; obtain rfl := (List.cons.inj e49).1
  obtain ⟨y52, g51, hz53⟩ := hf3 4 _ rfl
  replace g51 : DataW.trod enc Tryz.prog w 0 (fun _ => true) held m2 22 [c7] = some y52 := by rw [show Tryz.prog.cellsOf 22 = 1 from by kernel_rfl] at g51; exact g51
  obtain ⟨x_4, e54, h55⟩ := opz_str Tryz.underlying22 g51 hz53; obtain rfl := (List.cons.inj e54).1
  obtain ⟨y57, g56, hz58⟩ := hf3 5 _ rfl
  replace g56 : DataW.trod enc Tryz.prog w 0 (fun _ => true) held m2 22 [c8] = some y57 := by rw [show Tryz.prog.cellsOf 22 = 1 from by kernel_rfl] at g56; exact g56
  obtain ⟨x_5, e59, h60⟩ := opz_str Tryz.underlying22 g56 hz58; obtain rfl := (List.cons.inj e59).1
  exact ⟨x_0_0_0, x_0_0_1, x_0_1, x_0_2, x_1, x_2, x_3, x_4, x_5, rfl, h20, h25, h30, h35, h40, h45, h50, h55, h60⟩

set_option maxRecDepth 100000 in
theorem op_T47 {H : Type} {enc : TypeId × Value → H} {w : World} {held : Bool} {fuel : Nat} {cs : List Value} {x : DataW H × List MemPlace} (h : DataW.trod enc Tryz.prog w 0 (fun _ => true) held fuel 47 cs = some x) (hz : Wt Tryz.prog 47 x.1) :
    ∃ (x_0_0 : Bool) (x_0_1 : List UInt8) (x_1_0 : Bool) (x_1_1 : List UInt8), cs = [.bool x_0_0, .string (S x_0_1), .bool x_1_0, .string (S x_1_1)] ∧ x_0_1.length ≤ 140737488351232 ∧ x_1_1.length ≤ 140737488351232 := by
  have hl : cs.length = 4 := (op_struct Tryz.underlying47 h).1.trans (by kernel_rfl)
  obtain ⟨c0, c1, c2, c3, rfl⟩ : ∃ c0 c1 c2 c3, cs = [c0, c1, c2, c3] := by
    match cs, hl with
    | [c0, c1, c2, c3], _ => exact ⟨c0, c1, c2, c3, rfl⟩
  clear hl
  obtain ⟨_, m62, hf63⟩ := opz_struct Tryz.underlying47 h hz
  obtain ⟨y65, g64, hz66⟩ := hf63 0 _ rfl
  replace g64 : DataW.trod enc Tryz.prog w 0 (fun _ => true) held m62 45 [c0, c1] = some y65 := by rw [show Tryz.prog.cellsOf 45 = 2 from by kernel_rfl] at g64; exact g64
  obtain ⟨_, m68, hf69⟩ := opz_struct Tryz.underlying45 g64 hz66
  obtain ⟨y71, g70, hz72⟩ := hf69 0 _ rfl
  replace g70 : DataW.trod enc Tryz.prog w 0 (fun _ => true) held m68 4 [c0] = some y71 := by rw [show Tryz.prog.cellsOf 4 = 1 from by kernel_rfl] at g70; exact g70
  obtain ⟨x_0_0, e73⟩ := op_bool Tryz.underlying4 g70; obtain rfl := (List.cons.inj e73).1
  obtain ⟨y75, g74, hz76⟩ := hf69 1 _ rfl
  replace g74 : DataW.trod enc Tryz.prog w 0 (fun _ => true) held m68 22 [c1] = some y75 := by rw [show Tryz.prog.cellsOf 22 = 1 from by kernel_rfl] at g74; exact g74
  obtain ⟨x_0_1, e77, h78⟩ := opz_str Tryz.underlying22 g74 hz76; obtain rfl := (List.cons.inj e77).1
  obtain ⟨y80, g79, hz81⟩ := hf63 1 _ rfl
  replace g79 : DataW.trod enc Tryz.prog w 0 (fun _ => true) held m62 45 [c2, c3] = some y80 := by rw [show Tryz.prog.cellsOf 45 = 2 from by kernel_rfl] at g79; exact g79
  obtain ⟨_, m83, hf84⟩ := opz_struct Tryz.underlying45 g79 hz81
  obtain ⟨y86, g85, hz87⟩ := hf84 0 _ rfl
  replace g85 : DataW.trod enc Tryz.prog w 0 (fun _ => true) held m83 4 [c2] = some y86 := by rw [show Tryz.prog.cellsOf 4 = 1 from by kernel_rfl] at g85; exact g85
  obtain ⟨x_1_0, e88⟩ := op_bool Tryz.underlying4 g85; obtain rfl := (List.cons.inj e88).1
  obtain ⟨y90, g89, hz91⟩ := hf84 1 _ rfl
  replace g89 : DataW.trod enc Tryz.prog w 0 (fun _ => true) held m83 22 [c3] = some y90 := by rw [show Tryz.prog.cellsOf 22 = 1 from by kernel_rfl] at g89; exact g89
  obtain ⟨x_1_1, e92, h93⟩ := opz_str Tryz.underlying22 g89 hz91; obtain rfl := (List.cons.inj e92).1
  exact ⟨x_0_0, x_0_1, x_1_0, x_1_1, rfl, h78, h93⟩

set_option maxRecDepth 100000 in
theorem op_T70 {H : Type} {enc : TypeId × Value → H} {w : World} {held : Bool} {fuel : Nat} {cs : List Value} {x : DataW H × List MemPlace} (h : DataW.trod enc Tryz.prog w 0 (fun _ => true) held fuel 70 cs = some x) (hz : Wt Tryz.prog 70 x.1) :
    ∃ (x_0_0 : Bool) (x_0_1 : List UInt8) (x_1_0 : Bool) (x_1_1 : List UInt8) (x_2_0 : Bool) (x_2_1 : List UInt8), cs = [.bool x_0_0, .string (S x_0_1), .bool x_1_0, .string (S x_1_1), .bool x_2_0, .string (S x_2_1)] ∧ x_0_1.length ≤ 140737488351232 ∧ x_1_1.length ≤ 140737488351232 ∧ x_2_1.length ≤ 140737488351232 := by
  have hl : cs.length = 6 := (op_array Tryz.underlying70 h).1.trans (by kernel_rfl)
  obtain ⟨c0, c1, c2, c3, c4, c5, rfl⟩ : ∃ c0 c1 c2 c3 c4 c5, cs = [c0, c1, c2, c3, c4, c5] := by
    match cs, hl with
    | [c0, c1, c2, c3, c4, c5], _ => exact ⟨c0, c1, c2, c3, c4, c5, rfl⟩
  clear hl
  obtain ⟨_, m95, hf96⟩ := opz_array Tryz.underlying70 h hz
  obtain ⟨y98, g97, hz99⟩ := hf96 0 (by decide)
  replace g97 : DataW.trod enc Tryz.prog w 0 (fun _ => true) held m95 45 [c0, c1] = some y98 := by rw [show Tryz.prog.cellsOf 45 = 2 from by kernel_rfl] at g97; exact g97
  obtain ⟨_, m101, hf102⟩ := opz_struct Tryz.underlying45 g97 hz99
  obtain ⟨y104, g103, hz105⟩ := hf102 0 _ rfl
  replace g103 : DataW.trod enc Tryz.prog w 0 (fun _ => true) held m101 4 [c0] = some y104 := by rw [show Tryz.prog.cellsOf 4 = 1 from by kernel_rfl] at g103; exact g103
  obtain ⟨x_0_0, e106⟩ := op_bool Tryz.underlying4 g103; obtain rfl := (List.cons.inj e106).1
  obtain ⟨y108, g107, hz109⟩ := hf102 1 _ rfl
  replace g107 : DataW.trod enc Tryz.prog w 0 (fun _ => true) held m101 22 [c1] = some y108 := by rw [show Tryz.prog.cellsOf 22 = 1 from by kernel_rfl] at g107; exact g107
  obtain ⟨x_0_1, e110, h111⟩ := opz_str Tryz.underlying22 g107 hz109; obtain rfl := (List.cons.inj e110).1
  obtain ⟨y113, g112, hz114⟩ := hf96 1 (by decide)
  replace g112 : DataW.trod enc Tryz.prog w 0 (fun _ => true) held m95 45 [c2, c3] = some y113 := by rw [show Tryz.prog.cellsOf 45 = 2 from by kernel_rfl] at g112; exact g112
  obtain ⟨_, m116, hf117⟩ := opz_struct Tryz.underlying45 g112 hz114
  obtain ⟨y119, g118, hz120⟩ := hf117 0 _ rfl
  replace g118 : DataW.trod enc Tryz.prog w 0 (fun _ => true) held m116 4 [c2] = some y119 := by rw [show Tryz.prog.cellsOf 4 = 1 from by kernel_rfl] at g118; exact g118
  obtain ⟨x_1_0, e121⟩ := op_bool Tryz.underlying4 g118; obtain rfl := (List.cons.inj e121).1
  obtain ⟨y123, g122, hz124⟩ := hf117 1 _ rfl
  replace g122 : DataW.trod enc Tryz.prog w 0 (fun _ => true) held m116 22 [c3] = some y123 := by rw [show Tryz.prog.cellsOf 22 = 1 from by kernel_rfl] at g122; exact g122
  obtain ⟨x_1_1, e125, h126⟩ := opz_str Tryz.underlying22 g122 hz124; obtain rfl := (List.cons.inj e125).1
  obtain ⟨y128, g127, hz129⟩ := hf96 2 (by decide)
  replace g127 : DataW.trod enc Tryz.prog w 0 (fun _ => true) held m95 45 [c4, c5] = some y128 := by rw [show Tryz.prog.cellsOf 45 = 2 from by kernel_rfl] at g127; exact g127
  obtain ⟨_, m131, hf132⟩ := opz_struct Tryz.underlying45 g127 hz129
  obtain ⟨y134, g133, hz135⟩ := hf132 0 _ rfl
  replace g133 : DataW.trod enc Tryz.prog w 0 (fun _ => true) held m131 4 [c4] = some y134 := by rw [show Tryz.prog.cellsOf 4 = 1 from by kernel_rfl] at g133; exact g133
  obtain ⟨x_2_0, e136⟩ := op_bool Tryz.underlying4 g133; obtain rfl := (List.cons.inj e136).1
  obtain ⟨y138, g137, hz139⟩ := hf132 1 _ rfl
  replace g137 : DataW.trod enc Tryz.prog w 0 (fun _ => true) held m131 22 [c5] = some y138 := by rw [show Tryz.prog.cellsOf 22 = 1 from by kernel_rfl] at g137; exact g137
  obtain ⟨x_2_1, e140, h141⟩ := opz_str Tryz.underlying22 g137 hz139; obtain rfl := (List.cons.inj e140).1
  exact ⟨x_0_0, x_0_1, x_1_0, x_1_1, x_2_0, x_2_1, rfl, h111, h126, h141⟩

set_option maxRecDepth 100000 in
theorem lifted (os : Os) (started : os.Started) (H : Type) (enc : TypeId × Value → H) :
    ReturnsInHanded {} Tryz.checked os 7 .any (Rows.intcommitOpensSpec.pre6 enc Tryz.prog Tryz.f7 Rows.intcommitOpensRow.domain false) (Rows.intcommitOpensSpec.post enc Tryz.prog Tryz.f7 false true false false) := by
  refine returnsInHanded_of_change_sized (C := Tryz.checked) own started (by kernel_rfl) Tryz.func7
    (ChangeSpec.witness6 (enc := enc) (C := Tryz.checked) false ⟨#[], #[(.agg #[.string (S []), .string (S []), .string (S []), .string (S []), .string (S []), .string (S []), .string (S []), .string (S []), .string (S [])]), (.agg #[.bool false, .string (S []), .bool false, .string (S [])]), (.agg #[.bool false, .string (S []), .bool false, .string (S []), .bool false, .string (S [])])], []⟩ 8 (by kernel_rfl) (by kernel_rfl) (by kernel_rfl) (by kernel_rfl)) ?_
  intro W base args ds gs before hval0 hW hcnd hwt0 _
  have hval : ∀ (j : Nat) t v, Tryz.f7.params[j]? = some t → args[j]? = some v → Value.okWide Tryz.prog W .any base t v := hval0
  have hW' := hW
  obtain ⟨p, q, hA0, hV, rfl, hfz, hnd⟩ := hW
  have hA : DataW.TrodAll enc Tryz.prog W 0 (fun _ => true) true Tryz.f7.params.toList args.toList ds p := hA0
  rw [Tryz.params7] at hA hval
  obtain ⟨v0, vs0, d0, ds0, p0, q0, hargs, rfl, rfl, h0, r0⟩ := trodAll_cons hA
  obtain ⟨v1, vs1, d1, ds1, p1, q1, rfl, rfl, rfl, h1, r1⟩ := trodAll_cons r0
  obtain ⟨v2, vs2, d2, ds2, p2, q2, rfl, rfl, rfl, h2, r2⟩ := trodAll_cons r1
  obtain ⟨rfl, rfl, rfl⟩ := trodAll_nil r2
  obtain rfl : args = #[v0, v1, v2] := by cases args; simp_all
  obtain ⟨rfl, rfl⟩ := trodVars_none hV
  have w0 : Wt Tryz.prog 28 d0 := wt_all hwt0 (j := 0) (by rw [Tryz.params7]; rfl) rfl
  have w1 : Wt Tryz.prog 47 d1 := wt_all hwt0 (j := 1) (by rw [Tryz.params7]; rfl) rfl
  have w2 : Wt Tryz.prog 70 d2 := wt_all hwt0 (j := 2) (by rw [Tryz.params7]; rfl) rfl
  have k0 := h0
  obtain ⟨fu0, f0⟩ := h0
  obtain ⟨cs0, rfl, hz0⟩ : ∃ cs, v0 = .agg cs ∧ cs.size = Tryz.prog.cellsOf 28 := by have q := (hval 0 28 v0 rfl rfl); simp only [Value.okWide, Tryz.underlying28] at q; obtain ⟨cs, q1, q2, _⟩ := q; exact ⟨cs, q1, q2⟩
  obtain ⟨a0_0_0_0, a0_0_0_1, a0_0_1, a0_0_2, a0_1, a0_2, a0_3, a0_4, a0_5, e0, z0_0, z0_1, z0_2, z0_3, z0_4, z0_5, z0_6, z0_7, z0_8⟩ := op_T28 f0 w0
  obtain rfl : cs0 = #[.string (S a0_0_0_0), .string (S a0_0_0_1), .string (S a0_0_1), .string (S a0_0_2), .string (S a0_1), .string (S a0_2), .string (S a0_3), .string (S a0_4), .string (S a0_5)] := Array.ext' e0
  have k1 := h1
  obtain ⟨fu1, f1⟩ := h1
  obtain ⟨cs1, rfl, hz1⟩ : ∃ cs, v1 = .agg cs ∧ cs.size = Tryz.prog.cellsOf 47 := by have q := (hval 1 47 v1 rfl rfl); simp only [Value.okWide, Tryz.underlying47] at q; obtain ⟨cs, q1, q2, _⟩ := q; exact ⟨cs, q1, q2⟩
  obtain ⟨a1_0_0, a1_0_1, a1_1_0, a1_1_1, e1, z1_0, z1_1⟩ := op_T47 f1 w1
  obtain rfl : cs1 = #[.bool a1_0_0, .string (S a1_0_1), .bool a1_1_0, .string (S a1_1_1)] := Array.ext' e1
  have k2 := h2
  obtain ⟨fu2, f2⟩ := h2
  obtain ⟨cs2, rfl, hz2⟩ : ∃ cs, v2 = .agg cs ∧ cs.size = Tryz.prog.cellsOf 70 := by have q := (hval 2 70 v2 rfl rfl); simp only [Value.okWide, Tryz.underlying70] at q; obtain ⟨cs, q1, q2, _⟩ := q; exact ⟨cs, q1, q2⟩
  obtain ⟨a2_0_0, a2_0_1, a2_1_0, a2_1_1, a2_2_0, a2_2_1, e2, z2_0, z2_1, z2_2⟩ := op_T70 f2 w2
  obtain rfl : cs2 = #[.bool a2_0_0, .string (S a2_0_1), .bool a2_1_0, .string (S a2_1_1), .bool a2_2_0, .string (S a2_2_1)] := Array.ext' e2
  clear hA0 hval0
  have hcall : Calls Tryz.prog 7 #[.agg #[.string (S a0_0_0_0), .string (S a0_0_0_1), .string (S a0_0_1), .string (S a0_0_2), .string (S a0_1), .string (S a0_2), .string (S a0_3), .string (S a0_4), .string (S a0_5)], .agg #[.bool a1_0_0, .string (S a1_0_1), .bool a1_1_0, .string (S a1_1_1)], .agg #[.bool a2_0_0, .string (S a2_0_1), .bool a2_1_0, .string (S a2_1_1), .bool a2_2_0, .string (S a2_2_1)]] W (fun e w' => e = .returned (.bool true) ∧ Below W.heap.size W w') := icopens_c (q := ⟨((a0_0_0_0, a0_0_0_1), a0_0_1, a0_0_2), a0_1, a0_2, a0_3, a0_4, a0_5⟩) (o := ((a1_0_0, a1_0_1), (a1_1_0, a1_1_1))) (w0 := (a2_0_0, a2_0_1)) (w1 := (a2_1_0, a2_1_1)) (w2 := (a2_2_0, a2_2_1))
  refine hcall.mono fun e W' ⟨he, bel⟩ => ?_
  subst he
  exact ⟨_, rfl, _, _, _, [], _, [], hW', trodAll_mk1 (shut_bool Tryz.underlying4 _), (trodAll_cons_mk (Below.trod laid (by kernel_rfl) (of_decide_eq_true (by kernel_rfl)) k0 bel (fun x hx => hW'.lt x (by simp [hx]))) (trodAll_cons_mk (Below.trod laid (by kernel_rfl) (of_decide_eq_true (by kernel_rfl)) k1 bel (fun x hx => hW'.lt x (by simp [hx]))) (trodAll_cons_mk (Below.trod laid (by kernel_rfl) (of_decide_eq_true (by kernel_rfl)) k2 bel (fun x hx => hW'.lt x (by simp [hx]))) trodAll_mk0))), rfl, bel.frame _, fun h => by cases h⟩

theorem over : Rows.intcommitOpensRow.holds Tryz.pinned (OpenSpec.ofChange Rows.intcommitOpensSpec) :=
  OpenClaim.holds_of_wide 7 Tryz.f7 rfl rfl rfl rfl rfl rfl rfl ⟨rfl, rfl, rfl, rfl, rfl⟩ rfl rfl rfl rfl rfl (by kernel_rfl) Tryz.func7 (by kernel_rfl)
    (of_decide_eq_true (by kernel_rfl)) (by unfold Func.isWrapper; first | (rw [if_pos (by decide +kernel)]; kernel_rfl) | (rw [if_neg (by decide +kernel)]; exact ⟨rfl, rfl⟩))
    (fun os started H enc _ => lifted os started H enc)

theorem proved : Rows.IntcommitOpensSaid := over
end Go.Proofs.YtnimhldbblfgbaaGreat.intcommitOpens
