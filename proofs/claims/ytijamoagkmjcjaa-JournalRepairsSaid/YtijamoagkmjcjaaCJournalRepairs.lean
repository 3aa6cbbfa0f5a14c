/-
  The statement JournalRepairs out of the walk of its Go function.
-/
import Derived.Test.YtijamoagkmjcjaaRows
import Derived.Test.YtijamoagkmjcjaaJouM
import Derived.WalkKit
import Derived.ProofKit
import Derived.OpenShut
import Derived.ShutString
import Derived.ChangeOld
import Derived.Below
import Derived.Test.YtijamoagkmjcjaaOpz
namespace Go.Proofs.Ytijamoagkmjcjaa.journalRepairs
open Go.ChangeShapes Go.WideShapes Go.ChangeAt Go.RowKit
set_option linter.unusedVariables false
set_option linter.unusedSimpArgs false

theorem laid : laidOutB Try.prog = true := by kernel_rfl

theorem own : ownKnob Try.prog.godebug = none := by kernel_rfl

theorem op_T24 {H : Type} {enc : TypeId × Value → H} {w : World} {held : Bool} {fuel : Nat} {cs : List Value} {x : DataW H × List MemPlace} (h : DataW.trod enc Try.prog w 0 (fun _ => true) held fuel 24 cs = some x) (hz : Wt Try.prog 24 x.1) :
    ∃ (x_0 : List UInt8) (x_1 : Sl (List UInt8)) (x_2 : Bool), cs = [.string (S x_0), x_1.val, .bool x_2] ∧ x_0.length ≤ 140737488351232 ∧ x_1.l.length ≤ x_1.cap ∧ x_1.cap * 16 ≤ 140737488351232 ∧ (Fact.sl x_1.a (x_1.l.map fun x => .string (S x))).holds (fun _ => True) w ∧ ∀ y ∈ x_1.l, (fun s : List UInt8 => s.length ≤ 140737488351232) y := by
  have hl : cs.length = 3 := (op_struct Try.underlying24 h).1.trans (by kernel_rfl)
  obtain ⟨c0, c1, c2, rfl⟩ : ∃ c0 c1 c2, cs = [c0, c1, c2] := by
    match cs, hl with
    | [c0, c1, c2], _ => exact ⟨c0, c1, c2, rfl⟩
  clear hl
  obtain ⟨_, m2, hf3⟩ := opz_struct Try.underlying24 h hz
  obtain ⟨y5, g4, hz6⟩ := hf3 0 _ rfl
  replace g4 : DataW.trod enc Try.prog w 0 (fun _ => true) held m2 9 [c0] = some y5 := by rw [show Try.prog.cellsOf 9 = 1 from by kernel_rfl] at g4; exact g4
  obtain ⟨x_0, e7, h8⟩ := opz_str Try.underlying9 g4 hz6; obtain rfl := (List.cons.inj e7).1
  obtain ⟨y10, g9, hz11⟩ := hf3 1 _ rfl
  replace g9 : DataW.trod enc Try.prog w 0 (fun _ => true) held m2 22 [c1] = some y10 := by rw [show Try.prog.cellsOf 22 = 1 from by kernel_rfl] at g9; exact g9
  obtain ⟨x_1, e12, h13, h14, h15, h16⟩ := opz_slice (cells := (fun s => [.string (S s)])) (F := (fun s : List UInt8 => s.length ≤ 140737488351232)) 1 16 (by kernel_rfl) Try.underlying22 (by kernel_rfl) (fun _ => rfl) (fun m cs y h hz => opz_str Try.underlying9 h hz) g9 hz11; obtain rfl := (List.cons.inj e12).1
  replace h15 := sl_map h15
  obtain ⟨y18, g17, hz19⟩ := hf3 2 _ rfl
  replace g17 : DataW.trod enc Try.prog w 0 (fun _ => true) held m2 4 [c2] = some y18 := by rw [show Try.prog.cellsOf 4 = 1 from by kernel_rfl] at g17; exact g17
  obtain ⟨x_2, e20⟩ := op_bool Try.underlying4 g17; obtain rfl := (List.cons.inj e20).1
  exact ⟨x_0, x_1, x_2, rfl, h8, h13, h14, h15, h16⟩

set_option maxRecDepth 100000 in
theorem lifted (os : Os) (started : os.Started) (H : Type) (enc : TypeId × Value → H) :
    ReturnsInHanded {} Try.checked os 5 .any (Rows.journalRepairsSpec.pre6 enc Try.prog Try.f5 Rows.journalRepairsRow.domain false) (Rows.journalRepairsSpec.post enc Try.prog Try.f5 false true false false) := by
  refine returnsInHanded_of_change_sized (C := Try.checked) own started (by kernel_rfl) Try.func5
    (ChangeSpec.witness6 (enc := enc) (C := Try.checked) false ⟨#[], #[(.agg #[.string (S []), .slice none 0 0, .bool false]), (.string (S []))], []⟩ 8 (by kernel_rfl) (by kernel_rfl) (by kernel_rfl) (by kernel_rfl)) ?_
  intro W base args ds gs before hval0 hW hcnd hwt0 _
  have hval : ∀ (j : Nat) t v, Try.f5.params[j]? = some t → args[j]? = some v → Value.okWide Try.prog W .any base t v := hval0
  have hW' := hW
  obtain ⟨p, q, hA0, hV, rfl, hfz, hnd⟩ := hW
  have hA : DataW.TrodAll enc Try.prog W 0 (fun _ => true) true Try.f5.params.toList args.toList ds p := hA0
  rw [Try.params5] at hA hval
  obtain ⟨v0, vs0, d0, ds0, p0, q0, hargs, rfl, rfl, h0, r0⟩ := trodAll_cons hA
  obtain ⟨v1, vs1, d1, ds1, p1, q1, rfl, rfl, rfl, h1, r1⟩ := trodAll_cons r0
  obtain ⟨rfl, rfl, rfl⟩ := trodAll_nil r1
  obtain rfl : args = #[v0, v1] := by cases args; simp_all
  obtain ⟨rfl, rfl⟩ := trodVars_none hV
  have w0 : Wt Try.prog 24 d0 := wt_all hwt0 (j := 0) (by rw [Try.params5]; rfl) rfl
  have w1 : Wt Try.prog 9 d1 := wt_all hwt0 (j := 1) (by rw [Try.params5]; rfl) rfl
  have k0 := h0
  obtain ⟨fu0, f0⟩ := h0
  obtain ⟨cs0, rfl, hz0⟩ : ∃ cs, v0 = .agg cs ∧ cs.size = Try.prog.cellsOf 24 := by have q := (hval 0 24 v0 rfl rfl); simp only [Value.okWide, Try.underlying24] at q; obtain ⟨cs, q1, q2, _⟩ := q; exact ⟨cs, q1, q2⟩
  obtain ⟨a0_0, a0_1, a0_2, e0, z0_0, z0_1, z0_2, z0_3, z0_4⟩ := op_T24 f0 w0
  obtain rfl : cs0 = #[.string (S a0_0), a0_1.val, .bool a0_2] := Array.ext' e0
  have k1 := h1
  obtain ⟨fu1, f1⟩ := h1
  obtain ⟨q1, rfl⟩ := okWide_string Try.underlying9 (hval 1 9 v1 rfl rfl)
  obtain ⟨a1, e1, z1_0⟩ := opz_str Try.underlying9 f1 w1
  have e1' := (List.cons.inj e1).1
  rw [e1'] at k1 hW' ⊢
  clear hA0 hval0
  have hcall : Calls Try.prog 5 #[.agg #[.string (S a0_0), a0_1.val, .bool a0_2], .string (S a1)] W (fun e w' => e = .returned (.bool true) ∧ Below W.heap.size W w') := repairs_c (by first | assumption | rfl | omega | (simp [maxLen] at *; omega) | (intro y hy; exact (‹∀ y ∈ _, _› y hy))) (by first | assumption | rfl | omega | (simp [maxLen] at *; omega) | (intro y hy; exact (‹∀ y ∈ _, _› y hy))) (by first | assumption | rfl | omega | (simp [maxLen] at *; omega) | (intro y hy; exact (‹∀ y ∈ _, _› y hy))) (by first | assumption | rfl | omega | (simp [maxLen] at *; omega) | (intro y hy; exact (‹∀ y ∈ _, _› y hy))) (by first | assumption | rfl | omega | (simp [maxLen] at *; omega) | (intro y hy; exact (‹∀ y ∈ _, _› y hy))) (by first | assumption | rfl | omega | (simp [maxLen] at *; omega) | (intro y hy; exact (‹∀ y ∈ _, _› y hy)))
  refine hcall.mono fun e W' ⟨he, bel⟩ => ?_
  subst he
  exact ⟨_, rfl, _, _, _, [], _, [], hW', trodAll_mk1 (shut_bool Try.underlying4 _), (trodAll_cons_mk (Below.trod laid (by kernel_rfl) (of_decide_eq_true (by kernel_rfl)) k0 bel (fun x hx => hW'.lt x (by simp [hx]))) (trodAll_cons_mk (Below.trod laid (by kernel_rfl) (of_decide_eq_true (by kernel_rfl)) k1 bel (fun x hx => hW'.lt x (by simp [hx]))) trodAll_mk0)), rfl, bel.frame _, fun h => by cases h⟩

theorem over : Rows.journalRepairsRow.holds Try.pinned (OpenSpec.ofChange Rows.journalRepairsSpec) :=
  OpenClaim.holds_of_wide 5 Try.f5 rfl rfl rfl rfl rfl rfl rfl ⟨rfl, rfl, rfl, rfl, rfl⟩ rfl rfl rfl rfl rfl (by kernel_rfl) Try.func5 (by kernel_rfl)
    (of_decide_eq_true (by kernel_rfl)) (by unfold Func.isWrapper; first | (rw [if_pos (by decide +kernel)]; kernel_rfl) | (rw [if_neg (by decide +kernel)]; exact ⟨rfl, rfl⟩))
    (fun os started H enc _ => lifted os started H enc)

theorem proved : Rows.JournalRepairsSaid := over
end Go.Proofs.Ytijamoagkmjcjaa.journalRepairs
