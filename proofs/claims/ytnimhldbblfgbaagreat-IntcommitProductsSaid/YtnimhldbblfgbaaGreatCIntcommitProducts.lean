/-
  The statement IntcommitProducts out of the walk of its Go function.
-/
import Derived.Test.YtnimhldbblfgbaaGreatRows
import Derived.Test.YtnimhldbblfgbaaGreatK16
import Derived.WalkKit
import Derived.ProofKit
import Derived.OpenShut
import Derived.ShutString
import Derived.ChangeOld
import Derived.Below
namespace Go.Proofs.YtnimhldbblfgbaaGreat.intcommitProducts
open Go.ChangeShapes Go.WideShapes Go.ChangeAt Go.RowKit
set_option linter.unusedVariables false
set_option linter.unusedSimpArgs false

theorem laid : laidOutB Tryz.prog = true := by kernel_rfl

theorem own : ownKnob Tryz.prog.godebug = none := by kernel_rfl

set_option maxRecDepth 100000 in
theorem op_T28 {H : Type} {enc : TypeId × Value → H} {w : World} {held : Bool} {fuel : Nat} {cs : List Value} {x : DataW H × List MemPlace} (h : DataW.trod enc Tryz.prog w 0 (fun _ => true) held fuel 28 cs = some x) (hz : Wt Tryz.prog 28 x.1) :
    ∃ (x_0_0_0 : List UInt8) (x_0_0_1 : List UInt8) (x_0_1 : List UInt8) (x_0_2 : List UInt8) (x_1 : List UInt8) (x_2 : List UInt8) (x_3 : List UInt8) (x_4 : List UInt8) (x_5 : List UInt8), cs = [.string (S x_0_0_0), .string (S x_0_0_1), .string (S x_0_1), .string (S x_0_2), .string (S x_1), .string (S x_2), .string (S x_3), .string (S x_4), .string (S x_5)] ∧ x_0_0_0.length ≤ 140737488351232 ∧ x_0_0_1.length ≤ 140737488351232 ∧ x_0_1.length ≤ 140737488351232 ∧ x_0_2.length ≤ 140737488351232 ∧ x_1.length ≤ 140737488351232 ∧ x_2.length ≤ 140737488351232 ∧ x_3.length ≤ 140737488351232 ∧ x_4.length ≤ 140737488351232 ∧ x_5.length ≤ 140737488351232 := by
  have hl : cs.length = 9 := (op_struct Tryz.underlying28 h).1.trans (by kernel_rfl)
  obtain ⟨c0, c1, c2, c3, c4, c5, c6, c7, c8, rfl⟩ : ∃ c0 c1 c2 c3 c4 c5 c6 c7 c8, cs = [c0, c1, c2, c3, c4, c5, c6, c7, c8] := by
    match cs, hl with
    | [c0, c1, c2, c3, c4, c5, c6, c7, c8], _ => exact ⟨c0, c1, c2, c3, c4, c5, c6, c7, c8, rfl⟩
  clear hl
  obtain ⟨_, m2, hf3⟩ := opz_struct Tryz.underlying28 h hz
  obtain ⟨y5, g4, hz6⟩ := hf3 0 _ rfl
  replace g4 : DataW.trod enc Tryz.prog w 0 (fun _ => true) held m2 26 [c0, c1, c2, c3] = some y5 := by rw [show Tryz.prog.cellsOf 26 = 4 from by kernel_rfl] at g4; exact g4
  obtain ⟨_, m8, hf9⟩ := opz_struct Tryz.underlying26 g4 hz6
  obtain ⟨y11, g10, hz12⟩ := hf9 0 _ rfl
  replace g10 : DataW.trod enc Tryz.prog w 0 (fun _ => true) held m8 24 [c0, c1] = some y11 := by rw [show Tryz.prog.cellsOf 24 = 2 from by kernel_rfl] at g10; exact g10
  obtain ⟨_, m14, hf15⟩ := opz_struct Tryz.underlying24 g10 hz12
  obtain ⟨y17, g16, hz18⟩ := hf15 0 _ rfl
  replace g16 : DataW.trod enc Tryz.prog w 0 (fun _ => true) held m14 22 [c0] = some y17 := by rw [show Tryz.prog.cellsOf 22 = 1 from by kernel_rfl] at g16; exact g16
  obtain ⟨x_0_0_0, e19, h20⟩ := opz_str Tryz.underlying22 g16 hz18; obtain rfl := (List.cons.inj e19).1
  obtain ⟨y22, g21, hz23⟩ := hf15 1 _ rfl
  replace g21 : DataW.trod enc Tryz.prog w 0 (fun _ => true) held m14 22 [c1] = some y22 := by rw [show Tryz.prog.cellsOf 22 = 1 from by kernel_rfl] at g21; exact g21
  obtain ⟨x_0_0_1, e24, h25⟩ := opz_str Tryz.underlying22 g21 hz23; obtain rfl := (List.cons.inj e24).1
  obtain ⟨y27, g26, hz28⟩ := hf9 1 _ rfl
  replace g26 : DataW.trod enc Tryz.prog w 0 (fun _ => true) held m8 22 [c2] = some y27 := by rw [show Tryz.prog.cellsOf 22 = 1 from by kernel_rfl] at g26; exact g26
  obtain ⟨x_0_1, e29, h30⟩ := opz_str Tryz.underlying22 g26 hz28; obtain rfl := (List.cons.inj e29).1
  obtain ⟨y32, g31, hz33⟩ := hf9 2 _ rfl
  replace g31 : DataW.trod enc Tryz.prog w 0 (fun _ => true) held m8 22 [c3] = some y32 := by rw [show Tryz.prog.cellsOf 22 = 1 from by kernel_rfl] at g31; exact g31
  obtain ⟨x_0_2, e34, h35⟩ := opz_str Tryz.underlying22 g31 hz33; obtain rfl := (List.cons.inj e34).1
  obtain ⟨y37, g36, hz38⟩ := hf3 1 _ rfl
  replace g36 : DataW.trod enc Tryz.prog w 0 (fun _ => true) held m2 22 [c4] = some y37 := by rw [show Tryz.prog.cellsOf 22 = 1 from by kernel_rfl] at g36; exact g36
  obtain ⟨x_1, e39, h40⟩ := opz_str Tryz.underlying22 g36 hz38; obtain rfl := (List.cons.inj e39).1
  obtain ⟨y42, g41, hz43⟩ := hf3 2 _ rfl
  replace g41 : DataW.trod enc Tryz.prog w 0 (fun _ => true) held m2 22 [c5] = some y42 := by rw [show Tryz.prog.cellsOf 22 = 1 from by kernel_rfl] at g41; exact g41
  obtain ⟨x_2, e44, h45⟩ := opz_str Tryz.underlying22 g41 hz43; obtain rfl := (List.cons.inj e44).1
  obtain ⟨y47, g46, hz48⟩ := hf3 3 _ rfl
  replace g46 : DataW.trod enc Tryz.prog w 0 (fun _ => true) held m2 22 [c6] = some y47 := by rw [show Tryz.prog.cellsOf 22 = 1 from by kernel_rfl] at g46; exact g46
  obtain ⟨x_3, e49, h50⟩ := opz_str Tryz.underlying22 g46 hz48; obtain rfl := (List.cons.inj e49).1
  obtain ⟨y52, g51, hz53⟩ := hf3 4 _ rfl
  replace g51 : DataW.trod enc Tryz.prog w 0 (fun _ => true) held m2 22 [c7] = some y52 := by rw [show Tryz.prog.cellsOf 22 = 1 from by kernel_rfl] at g51; exact g51
  obtain ⟨x_4, e54, h55⟩ := opz_str Tryz.underlying22 g51 hz53; obtain rfl := (List.cons.inj e54).1
  obtain ⟨y57, g56, hz58⟩ := hf3 5 _ rfl
  replace g56 : DataW.trod enc Tryz.prog w 0 (fun _ => true) held m2 22 [c8] = some y57 := by rw [show Tryz.prog.cellsOf 22 = 1 from by kernel_rfl] at g56; exact g56
  obtain ⟨x_5, e59, h60⟩ := opz_str Tryz.underlying22 g56 hz58; obtain rfl := (List.cons.inj e59).1
  exact ⟨x_0_0_0, x_0_0_1, x_0_1, x_0_2, x_1, x_2, x_3, x_4, x_5, rfl, h20, h25, h30, h35, h40, h45, h50, h55, h60⟩

set_option maxRecDepth 100000 in
theorem lifted (os : Os) (started : os.Started) (H : Type) (enc : TypeId × Value → H) :
    ReturnsInHanded {} Tryz.checked os 3 .any (Rows.intcommitProductsSpec.pre6 enc Tryz.prog Tryz.f3 Rows.intcommitProductsRow.domain false) (Rows.intcommitProductsSpec.post enc Tryz.prog Tryz.f3 false true false false) := by
  refine returnsInHanded_of_change_sized (C := Tryz.checked) own started (by kernel_rfl) Tryz.func3
    (ChangeSpec.witness6 (enc := enc) (C := Tryz.checked) false ⟨#[], #[(.agg #[.string (S []), .string (S []), .string (S []), .string (S []), .string (S []), .string (S []), .string (S []), .string (S []), .string (S [])])], []⟩ 8 (by kernel_rfl) (by kernel_rfl) (by kernel_rfl) (by kernel_rfl)) ?_
  intro W base args ds gs before hval0 hW hcnd hwt0 _
  have hval : ∀ (j : Nat) t v, Tryz.f3.params[j]? = some t → args[j]? = some v → Value.okWide Tryz.prog W .any base t v := hval0
  have hW' := hW
  obtain ⟨p, q, hA0, hV, rfl, hfz, hnd⟩ := hW
  have hA : DataW.TrodAll enc Tryz.prog W 0 (fun _ => true) true Tryz.f3.params.toList args.toList ds p := hA0
  rw [Tryz.params3] at hA hval
  obtain ⟨v0, vs0, d0, ds0, p0, q0, hargs, rfl, rfl, h0, r0⟩ := trodAll_cons hA
  obtain ⟨rfl, rfl, rfl⟩ := trodAll_nil r0
  obtain rfl : args = #[v0] := by cases args; simp_all
  obtain ⟨rfl, rfl⟩ := trodVars_none hV
  have w0 : Wt Tryz.prog 28 d0 := wt_all hwt0 (j := 0) (by rw [Tryz.params3]; rfl) rfl
  have k0 := h0
  obtain ⟨fu0, f0⟩ := h0
  obtain ⟨cs0, rfl, hz0⟩ : ∃ cs, v0 = .agg cs ∧ cs.size = Tryz.prog.cellsOf 28 := by have q := (hval 0 28 v0 rfl rfl); simp only [Value.okWide, Tryz.underlying28] at q; obtain ⟨cs, q1, q2, _⟩ := q; exact ⟨cs, q1, q2⟩
  obtain ⟨a0_0_0_0, a0_0_0_1, a0_0_1, a0_0_2, a0_1, a0_2, a0_3, a0_4, a0_5, e0, z0_0, z0_1, z0_2, z0_3, z0_4, z0_5, z0_6, z0_7, z0_8⟩ := op_T28 f0 w0
  obtain rfl : cs0 = #[.string (S a0_0_0_0), .string (S a0_0_0_1), .string (S a0_0_1), .string (S a0_0_2), .string (S a0_1), .string (S a0_2), .string (S a0_3), .string (S a0_4), .string (S a0_5)] := Array.ext' e0
  clear hA0 hval0
  have hcall : Calls Tryz.prog 3 #[.agg #[.string (S a0_0_0_0), .string (S a0_0_0_1), .string (S a0_0_1), .string (S a0_0_2), .string (S a0_1), .string (S a0_2), .string (S a0_3), .string (S a0_4), .string (S a0_5)]] W (fun e w' => e = .returned (.bool true) ∧ Below W.heap.size W w') := icprods_c (q := ⟨((a0_0_0_0, a0_0_0_1), a0_0_1, a0_0_2), a0_1, a0_2, a0_3, a0_4, a0_5⟩)
  refine hcall.mono fun e W' ⟨he, bel⟩ => ?_
  subst he
  exact ⟨_, rfl, _, _, _, [], _, [], hW', trodAll_mk1 (shut_bool Tryz.underlying4 _), (trodAll_cons_mk (Below.trod laid (by kernel_rfl) (of_decide_eq_true (by kernel_rfl)) k0 bel (fun x hx => hW'.lt x (by simp [hx]))) trodAll_mk0), rfl, bel.frame _, fun h => by cases h⟩

theorem over : Rows.intcommitProductsRow.holds Tryz.pinned (OpenSpec.ofChange Rows.intcommitProductsSpec) :=
  OpenClaim.holds_of_wide 3 Tryz.f3 rfl rfl rfl rfl rfl rfl rfl ⟨rfl, rfl, rfl, rfl, rfl⟩ rfl rfl rfl rfl rfl (by kernel_rfl) Tryz.func3 (by kernel_rfl)
    (of_decide_eq_true (by kernel_rfl)) (by unfold Func.isWrapper; first | (rw [if_pos (by decide +kernel)]; kernel_rfl) | (rw [if_neg (by decide +kernel)]; exact ⟨rfl, rfl⟩))
    (fun os started H enc _ => lifted os started H enc)

theorem proved : Rows.IntcommitProductsSaid := over
end Go.Proofs.YtnimhldbblfgbaaGreat.intcommitProducts
