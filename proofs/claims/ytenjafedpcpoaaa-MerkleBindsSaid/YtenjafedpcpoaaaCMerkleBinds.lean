/-
  The statement MerkleBinds out of the walk of its Go function.
-/
import Derived.Test.YtenjafedpcpoaaaRows
import Derived.Test.YtenjafedpcpoaaaMerA
import Derived.WalkKit
import Derived.ProofKit
import Derived.OpenShut
import Derived.ShutString
import Derived.ChangeOld
import Derived.Below
import Derived.Test.YtenjafedpcpoaaaOpn
namespace Go.Proofs.Ytenjafedpcpoaaa.merkleBinds
open Go.ChangeShapes Go.WideShapes Go.ChangeAt Go.RowKit
set_option linter.unusedVariables false
set_option linter.unusedSimpArgs false

theorem laid : laidOutB Try.prog = true := by kernel_rfl

theorem own : ownKnob Try.prog.godebug = none := by kernel_rfl

theorem op_T34 {H : Type} {enc : TypeId × Value → H} {w : World} {spare : Nat → Bool} {held : Bool} {fuel : Nat} {cs : List Value} {x : DataW H × List MemPlace} (h : DataW.trod enc Try.prog w 0 spare held fuel 34 cs = some x) :
    ∃ (x_0 : List UInt8) (x_1 : Int) (x_2 : Int) (x_3 : List UInt8) (x_4 : Sl (List UInt8)), cs = [.string (S x_0), .int .i64 x_1, .int .i64 x_2, .string (S x_3), x_4.val] ∧ x_0.length ≤ maxLen ∧ (Lit.int .i64 x_1).wf = true ∧ (Lit.int .i64 x_2).wf = true ∧ x_3.length ≤ maxLen ∧ x_4.l.length ≤ x_4.cap ∧ x_4.cap ≤ maxLen ∧ (Fact.sl x_4.a (x_4.l.map fun x => .string (S x))).holds (fun _ => True) w ∧ ∀ y ∈ x_4.l, (fun s : List UInt8 => s.length ≤ maxLen) y := by
  have hl : cs.length = 5 := (op_struct Try.underlying34 h).1.trans (by kernel_rfl)
  obtain ⟨c0, c1, c2, c3, c4, rfl⟩ : ∃ c0 c1 c2 c3 c4, cs = [c0, c1, c2, c3, c4] := by
    match cs, hl with
    | [c0, c1, c2, c3, c4], _ => exact ⟨c0, c1, c2, c3, c4, rfl⟩
  clear hl
  obtain ⟨_, m2, hf3⟩ := op_struct Try.underlying34 h
  obtain ⟨y5, g4⟩ := hf3 _ (List.mem_of_getElem? (i := 0) rfl)
  replace g4 : DataW.trod enc Try.prog w 0 spare held m2 9 [c0] = some y5 := by rw [show Try.prog.cellsOf 9 = 1 from by kernel_rfl] at g4; exact g4
  obtain ⟨x_0, e6, h7⟩ := op_str Try.underlying9 g4; obtain rfl := (List.cons.inj e6).1
  obtain ⟨y9, g8⟩ := hf3 _ (List.mem_of_getElem? (i := 1) rfl)
  replace g8 : DataW.trod enc Try.prog w 0 spare held m2 3 [c1] = some y9 := by rw [show Try.prog.cellsOf 3 = 1 from by kernel_rfl] at g8; exact g8
  obtain ⟨x_1, e10, h11⟩ := op_int Try.underlying3 g8; obtain rfl := (List.cons.inj e10).1
  obtain ⟨y13, g12⟩ := hf3 _ (List.mem_of_getElem? (i := 2) rfl)
  replace g12 : DataW.trod enc Try.prog w 0 spare held m2 3 [c2] = some y13 := by rw [show Try.prog.cellsOf 3 = 1 from by kernel_rfl] at g12; exact g12
  obtain ⟨x_2, e14, h15⟩ := op_int Try.underlying3 g12; obtain rfl := (List.cons.inj e14).1
  obtain ⟨y17, g16⟩ := hf3 _ (List.mem_of_getElem? (i := 3) rfl)
  replace g16 : DataW.trod enc Try.prog w 0 spare held m2 9 [c3] = some y17 := by rw [show Try.prog.cellsOf 9 = 1 from by kernel_rfl] at g16; exact g16
  obtain ⟨x_3, e18, h19⟩ := op_str Try.underlying9 g16; obtain rfl := (List.cons.inj e18).1
  obtain ⟨y21, g20⟩ := hf3 _ (List.mem_of_getElem? (i := 4) rfl)
  replace g20 : DataW.trod enc Try.prog w 0 spare held m2 22 [c4] = some y21 := by rw [show Try.prog.cellsOf 22 = 1 from by kernel_rfl] at g20; exact g20
  obtain ⟨x_4, e22, h23, h24, h25, h26⟩ := op_slice (cells := (fun s => [.string (S s)])) (F := (fun s : List UInt8 => s.length ≤ maxLen)) 1 Try.underlying22 (by kernel_rfl) (fun _ => rfl) (fun m cs y h => op_str Try.underlying9 h) g20; obtain rfl := (List.cons.inj e22).1
  replace h25 := sl_map h25
  exact ⟨x_0, x_1, x_2, x_3, x_4, rfl, h7, h11, h15, h19, h23, h24, h25, h26⟩

set_option maxRecDepth 100000 in
theorem lifted (os : Os) (started : os.Started) (H : Type) (enc : TypeId × Value → H) :
    ReturnsInHanded {} Try.checked os 7 .any (Rows.merkleBindsSpec.pre6 enc Try.prog Try.f7 Rows.merkleBindsRow.domain false) (Rows.merkleBindsSpec.post enc Try.prog Try.f7 false true false false) := by
  refine returnsInHanded_of_change (C := Try.checked) own started (by kernel_rfl) Try.func7
    (ChangeSpec.witness6 (enc := enc) (C := Try.checked) false ⟨#[], #[(.agg #[.string (S []), .int .i64 0, .int .i64 0, .string (S []), .slice none 0 0]), (.string (S [])), (.slice none 0 0)], []⟩ 8 (by kernel_rfl) (by kernel_rfl) (by kernel_rfl) (by kernel_rfl)) ?_
  intro W base args ds gs before hval0 hW hcnd _
  have hval : ∀ (j : Nat) t v, Try.f7.params[j]? = some t → args[j]? = some v → Value.okWide Try.prog W .any base t v := hval0
  have hW' := hW
  obtain ⟨p, q, hA0, hV, rfl, hfz, hnd⟩ := hW
  have hA : DataW.TrodAll enc Try.prog W 0 (fun _ => true) true Try.f7.params.toList args.toList ds p := hA0
  rw [Try.params7] at hA hval
  obtain ⟨v0, vs0, d0, ds0, p0, q0, hargs, rfl, rfl, h0, r0⟩ := trodAll_cons hA
  obtain ⟨v1, vs1, d1, ds1, p1, q1, rfl, rfl, rfl, h1, r1⟩ := trodAll_cons r0
  obtain ⟨v2, vs2, d2, ds2, p2, q2, rfl, rfl, rfl, h2, r2⟩ := trodAll_cons r1
  obtain ⟨rfl, rfl, rfl⟩ := trodAll_nil r2
  obtain rfl : args = #[v0, v1, v2] := by cases args; simp_all
  obtain ⟨rfl, rfl⟩ := trodVars_none hV
  have k0 := h0
  obtain ⟨fu0, f0⟩ := h0
  obtain ⟨cs0, rfl, hz0⟩ : ∃ cs, v0 = .agg cs ∧ cs.size = Try.prog.cellsOf 34 := by have q := (hval 0 34 v0 rfl rfl); simp only [Value.okWide, Try.underlying34] at q; obtain ⟨cs, q1, q2, _⟩ := q; exact ⟨cs, q1, q2⟩
  obtain ⟨a0_0, a0_1, a0_2, a0_3, a0_4, e0, z0_0, z0_1, z0_2, z0_3, z0_4, z0_5, z0_6, z0_7⟩ := op_T34 f0
  obtain rfl : cs0 = #[.string (S a0_0), .int .i64 a0_1, .int .i64 a0_2, .string (S a0_3), a0_4.val] := Array.ext' e0
  have k1 := h1
  obtain ⟨fu1, f1⟩ := h1
  obtain ⟨q1, rfl⟩ := okWide_string Try.underlying9 (hval 1 9 v1 rfl rfl)
  obtain ⟨a1, e1, z1_0⟩ := op_str Try.underlying9 f1
  have e1' := (List.cons.inj e1).1
  rw [e1'] at k1 hW' ⊢
  have k2 := h2
  obtain ⟨fu2, f2⟩ := h2
  obtain ⟨x2, y2, z2, rfl⟩ := okWide_slice Try.underlying22 (hval 2 22 v2 rfl rfl)
  obtain ⟨a2, e2, z2_0, z2_1, z2_2, z2_3⟩ := op_slice (cells := (fun s => [.string (S s)])) (F := (fun s : List UInt8 => s.length ≤ maxLen)) 1 Try.underlying22 (by kernel_rfl) (fun _ => rfl) (fun m cs y h => op_str Try.underlying9 h) f2
  replace z2_2 := sl_map z2_2
  have e2' := (List.cons.inj e2).1
  rw [e2'] at k2 hW' ⊢
  clear hA0 hval0
  have hcall : Calls Try.prog 7 #[.agg #[.string (S a0_0), .int .i64 a0_1, .int .i64 a0_2, .string (S a0_3), a0_4.val], .string (S a1), a2.val] W (fun e w' => e = .returned (.bool true) ∧ Below W.heap.size W w') := binds_c (by first | assumption | rfl | omega | (simp [maxLen] at *; omega) | (intro y hy; exact (‹∀ y ∈ _, _› y hy))) (by first | assumption | rfl | omega | (simp [maxLen] at *; omega) | (intro y hy; exact (‹∀ y ∈ _, _› y hy))) (by first | assumption | rfl | omega | (simp [maxLen] at *; omega) | (intro y hy; exact (‹∀ y ∈ _, _› y hy))) (by first | assumption | rfl | omega | (simp [maxLen] at *; omega) | (intro y hy; exact (‹∀ y ∈ _, _› y hy)))
  refine hcall.mono fun e W' ⟨he, bel⟩ => ?_
  subst he
  exact ⟨_, rfl, _, _, _, [], _, [], hW', trodAll_mk1 (shut_bool Try.underlying4 _), (trodAll_cons_mk (Below.trod laid (by kernel_rfl) (of_decide_eq_true (by kernel_rfl)) k0 bel (fun x hx => hW'.lt x (by simp [hx]))) (trodAll_cons_mk (Below.trod laid (by kernel_rfl) (of_decide_eq_true (by kernel_rfl)) k1 bel (fun x hx => hW'.lt x (by simp [hx]))) (trodAll_cons_mk (Below.trod laid (by kernel_rfl) (of_decide_eq_true (by kernel_rfl)) k2 bel (fun x hx => hW'.lt x (by simp [hx]))) trodAll_mk0))), rfl, bel.frame _, fun h => by cases h⟩

theorem over : Rows.merkleBindsRow.holds Try.pinned (OpenSpec.ofChange Rows.merkleBindsSpec) :=
  OpenClaim.holds_of_wide 7 Try.f7 rfl rfl rfl rfl rfl rfl rfl ⟨rfl, rfl, rfl, rfl, rfl⟩ rfl rfl rfl rfl rfl (by kernel_rfl) Try.func7 (by kernel_rfl)
    (of_decide_eq_true (by kernel_rfl)) (by unfold Func.isWrapper; first | (rw [if_pos (by decide +kernel)]; kernel_rfl) | (rw [if_neg (by decide +kernel)]; exact ⟨rfl, rfl⟩))
    (fun os started H enc _ => lifted os started H enc)

theorem proved : Rows.MerkleBindsSaid := over
end Go.Proofs.Ytenjafedpcpoaaa.merkleBinds
