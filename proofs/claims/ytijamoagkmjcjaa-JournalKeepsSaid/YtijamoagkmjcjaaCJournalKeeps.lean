/-
  The statement JournalKeeps out of the walk of its Go function.
-/
import Derived.Test.YtijamoagkmjcjaaRows
import Derived.Test.YtijamoagkmjcjaaJouP
import Derived.WalkKit
import Derived.ProofKit
import Derived.OpenShut
import Derived.ShutString
import Derived.ChangeOld
import Derived.Below
import Derived.Test.YtijamoagkmjcjaaOpz
namespace Go.Proofs.Ytijamoagkmjcjaa.journalKeeps
open Go.ChangeShapes Go.WideShapes Go.ChangeAt Go.RowKit
set_option linter.unusedVariables false
set_option linter.unusedSimpArgs false

theorem laid : laidOutB Try.prog = true := by kernel_rfl

theorem own : ownKnob Try.prog.godebug = none := by kernel_rfl

theorem op_T52 {H : Type} {enc : TypeId × Value → H} {w : World} {held : Bool} {fuel : Nat} {cs : List Value} {x : DataW H × List MemPlace} (h : DataW.trod enc Try.prog w 0 (fun _ => true) held fuel 52 cs = some x) (hz : Wt Try.prog 52 x.1) :
    ∃ (x_0 : Int) (x_1 : List UInt8) (x_2 : Sl (List UInt8)), cs = [.int .i64 x_0, .string (S x_1), x_2.val] ∧ (Lit.int .i64 x_0).wf = true ∧ x_1.length ≤ 140737488351232 ∧ x_2.l.length ≤ x_2.cap ∧ x_2.cap * 16 ≤ 140737488351232 ∧ (Fact.sl x_2.a (x_2.l.map fun x => .string (S x))).holds (fun _ => True) w ∧ ∀ y ∈ x_2.l, (fun s : List UInt8 => s.length ≤ 140737488351232) y := by
  have hl : cs.length = 3 := (op_struct Try.underlying52 h).1.trans (by kernel_rfl)
  obtain ⟨c0, c1, c2, rfl⟩ : ∃ c0 c1 c2, cs = [c0, c1, c2] := by
    match cs, hl with
    | [c0, c1, c2], _ => exact ⟨c0, c1, c2, rfl⟩
  clear hl
  obtain ⟨_, m2, hf3⟩ := opz_struct Try.underlying52 h hz
  obtain ⟨y5, g4, hz6⟩ := hf3 0 _ rfl
  replace g4 : DataW.trod enc Try.prog w 0 (fun _ => true) held m2 3 [c0] = some y5 := by rw [show Try.prog.cellsOf 3 = 1 from by kernel_rfl] at g4; exact g4
  obtain ⟨x_0, e7, h8⟩ := op_int Try.underlying3 g4; obtain rfl := (List.cons.inj e7).1
  obtain ⟨y10, g9, hz11⟩ := hf3 1 _ rfl
  replace g9 : DataW.trod enc Try.prog w 0 (fun _ => true) held m2 9 [c1] = some y10 := by rw [show Try.prog.cellsOf 9 = 1 from by kernel_rfl] at g9; exact g9
  obtain ⟨x_1, e12, h13⟩ := opz_str Try.underlying9 g9 hz11; obtain rfl := (List.cons.inj e12).1
  obtain ⟨y15, g14, hz16⟩ := hf3 2 _ rfl
  replace g14 : DataW.trod enc Try.prog w 0 (fun _ => true) held m2 22 [c2] = some y15 := by rw [show Try.prog.cellsOf 22 = 1 from by kernel_rfl] at g14; exact g14
  obtain ⟨x_2, e17, h18, h19, h20, h21⟩ := opz_slice (cells := (fun s => [.string (S s)])) (F := (fun s : List UInt8 => s.length ≤ 140737488351232)) 1 16 (by kernel_rfl) Try.underlying22 (by kernel_rfl) (fun _ => rfl) (fun m cs y h hz => opz_str Try.underlying9 h hz) g14 hz16; obtain rfl := (List.cons.inj e17).1
  replace h20 := sl_map h20
  exact ⟨x_0, x_1, x_2, rfl, h8, h13, h18, h19, h20, h21⟩

set_option maxRecDepth 100000 in
theorem lifted (os : Os) (started : os.Started) (H : Type) (enc : TypeId × Value → H) :
    ReturnsInHanded {} Try.checked os 7 .any (Rows.journalKeepsSpec.pre6 enc Try.prog Try.f7 Rows.journalKeepsRow.domain false) (Rows.journalKeepsSpec.post enc Try.prog Try.f7 false true false false) := by
  refine returnsInHanded_of_change_sized (C := Try.checked) own started (by kernel_rfl) Try.func7
    (ChangeSpec.witness6 (enc := enc) (C := Try.checked) false ⟨#[], #[(.slice none 0 0), (.int .u16 0), (.int .u16 0)], []⟩ 8 (by kernel_rfl) (by kernel_rfl) (by kernel_rfl) (by kernel_rfl)) ?_
  intro W base args ds gs before hval0 hW hcnd hwt0 _
  have hval : ∀ (j : Nat) t v, Try.f7.params[j]? = some t → args[j]? = some v → Value.okWide Try.prog W .any base t v := hval0
  have hW' := hW
  obtain ⟨p, q, hA0, hV, rfl, hfz, hnd⟩ := hW
  have hA : DataW.TrodAll enc Try.prog W 0 (fun _ => true) true Try.f7.params.toList args.toList ds p := hA0
  rw [Try.params7] at hA hval
  obtain ⟨v0, vs0, d0, ds0, p0, q0, hargs, rfl, rfl, h0, r0⟩ := trodAll_cons hA
  obtain ⟨v1, vs1, d1, ds1, p1, q1, rfl, rfl, rfl, h1, r1⟩ := trodAll_cons r0
  obtain ⟨v2, vs2, d2, ds2, p2, q2, rfl, rfl, rfl, h2, r2⟩ := trodAll_cons r1
  obtain ⟨rfl, rfl, rfl⟩ := trodAll_nil r2
  obtain rfl : args = #[v0, v1, v2] := by cases args; simp_all
  obtain ⟨rfl, rfl⟩ := trodVars_none hV
  have w0 : Wt Try.prog 48 d0 := wt_all hwt0 (j := 0) (by rw [Try.params7]; rfl) rfl
  have w1 : Wt Try.prog 49 d1 := wt_all hwt0 (j := 1) (by rw [Try.params7]; rfl) rfl
  have w2 : Wt Try.prog 49 d2 := wt_all hwt0 (j := 2) (by rw [Try.params7]; rfl) rfl
  have k0 := h0
  obtain ⟨fu0, f0⟩ := h0
  obtain ⟨x0, y0, z0, rfl⟩ := okWide_slice Try.underlying48 (hval 0 48 v0 rfl rfl)
  obtain ⟨a0, e0, z0_0, z0_1, z0_2, z0_3⟩ := opz_slice (cells := opC) (F := (OpFx W)) 3 48 (by kernel_rfl) Try.underlying48 (by kernel_rfl) (fun _ => rfl) (fun m cs y h hz => by obtain ⟨x_0, x_1, x_2, rfl, k0, k1, k2, k3, k4, k5⟩ := op_T52 h hz; exact ⟨OpR.mk x_0 x_1 x_2, rfl, by first | trivial | assumption | (refine ⟨?_, ?_⟩ <;> assumption) | (refine ⟨?_, ?_, ?_⟩ <;> assumption) | (refine ⟨?_, ?_, ?_, ?_⟩ <;> assumption) | (refine ⟨?_, ?_, ?_, ?_, ?_⟩ <;> assumption) | simp_all⟩) f0 w0
  have e0' := (List.cons.inj e0).1
  rw [e0'] at k0 hW' ⊢
  have k1 := h1
  obtain ⟨fu1, f1⟩ := h1
  obtain ⟨q1, rfl⟩ := okWide_int Try.underlying49 (hval 1 49 v1 rfl rfl)
  obtain ⟨a1, e1, z1_0⟩ := op_int Try.underlying49 f1
  have e1' := (List.cons.inj e1).1
  rw [e1'] at k1 hW' ⊢
  have k2 := h2
  obtain ⟨fu2, f2⟩ := h2
  obtain ⟨q2, rfl⟩ := okWide_int Try.underlying49 (hval 2 49 v2 rfl rfl)
  obtain ⟨a2, e2, z2_0⟩ := op_int Try.underlying49 f2
  have e2' := (List.cons.inj e2).1
  rw [e2'] at k2 hW' ⊢
  clear hA0 hval0
  have hcall : Calls Try.prog 7 #[a0.val, .int .u16 a1, .int .u16 a2] W (fun e w' => e = .returned (.bool true) ∧ Below W.heap.size W w') := keeps_c (by first | assumption | rfl | omega | (simp [maxLen] at *; omega) | (intro y hy; exact (‹∀ y ∈ _, _› y hy))) (by first | assumption | rfl | omega | (simp [maxLen] at *; omega) | (intro y hy; exact (‹∀ y ∈ _, _› y hy))) (by first | assumption | rfl | omega | (simp [maxLen] at *; omega) | (intro y hy; exact (‹∀ y ∈ _, _› y hy))) (by first | assumption | rfl | omega | (simp [maxLen] at *; omega) | (intro y hy; exact (‹∀ y ∈ _, _› y hy))) (by first | assumption | rfl | omega | (simp [maxLen] at *; omega) | (intro y hy; exact (‹∀ y ∈ _, _› y hy))) (by first | assumption | rfl | omega | (simp [maxLen] at *; omega) | (intro y hy; exact (‹∀ y ∈ _, _› y hy)))
  refine hcall.mono fun e W' ⟨he, bel⟩ => ?_
  subst he
  exact ⟨_, rfl, _, _, _, [], _, [], hW', trodAll_mk1 (shut_bool Try.underlying4 _), (trodAll_cons_mk (Below.trod laid (by kernel_rfl) (of_decide_eq_true (by kernel_rfl)) k0 bel (fun x hx => hW'.lt x (by simp [hx]))) (trodAll_cons_mk (Below.trod laid (by kernel_rfl) (of_decide_eq_true (by kernel_rfl)) k1 bel (fun x hx => hW'.lt x (by simp [hx]))) (trodAll_cons_mk (Below.trod laid (by kernel_rfl) (of_decide_eq_true (by kernel_rfl)) k2 bel (fun x hx => hW'.lt x (by simp [hx]))) trodAll_mk0))), rfl, bel.frame _, fun h => by cases h⟩

theorem over : Rows.journalKeepsRow.holds Try.pinned (OpenSpec.ofChange Rows.journalKeepsSpec) :=
  OpenClaim.holds_of_wide 7 Try.f7 rfl rfl rfl rfl rfl rfl rfl ⟨rfl, rfl, rfl, rfl, rfl⟩ rfl rfl rfl rfl rfl (by kernel_rfl) Try.func7 (by kernel_rfl)
    (of_decide_eq_true (by kernel_rfl)) (by unfold Func.isWrapper; first | (rw [if_pos (by decide +kernel)]; kernel_rfl) | (rw [if_neg (by decide +kernel)]; exact ⟨rfl, rfl⟩))
    (fun os started H enc _ => lifted os started H enc)

theorem proved : Rows.JournalKeepsSaid := over
end Go.Proofs.Ytijamoagkmjcjaa.journalKeeps
