/-
  The statement CoinsSeeds out of the walk of its Go function.
-/
import Derived.Test.YtikcjkifhliidaaDoorCards
import Derived.Test.YtikcjkifhliidaaDoorTie
import Derived.Test.YtikcjkifhliidaaDoorCoiD
import Derived.Test.YtikcjkifhliidaaDoorLaid
import Derived.WalkKit
import Derived.ProofKit
import Derived.OpenShut
import Derived.ShutString
import Derived.ChangeOld
import Derived.Below
import Derived.Deep.DeepHandedRow
import Derived.Lay
import Derived.LaidMore
import Derived.Test.YtikcjkifhliidaaDoorOpz
import Derived.Test.YtikcjkifhliidaaDoorLaid
namespace Go.Proofs.YtikcjkifhliidaaDoor.coinsSeeds
open Go.ChangeShapes Go.WideShapes Go.ChangeAt Go.RowKit
set_option linter.unusedVariables false
set_option linter.unusedSimpArgs false

theorem laid : laidOutB Tryd.prog = true := by kernel_rfl

theorem own : ownKnob Tryd.prog.godebug = none := by kernel_rfl

theorem tab {W : World} (h : laidMetH Tryd.prog Rows.coinsSeedsRow.laid W) : Tab W := by
  rw [MakeChecks.laidMetH_plain _ _ _ (by kernel_rfl)] at h
  obtain ⟨ps, h, _⟩ := h
  obtain ⟨_, h⟩ := laidVars_tail h
  obtain ⟨_, h⟩ := laidVars_tail h
  exact tab_of_vars (by kernel_rfl) Tryd.underlying123 Tryd.underlying50 (by kernel_rfl) (by kernel_rfl) h

theorem reads (os : Os) {H : Type} (enc : TypeId × Value → H) : ∃ places, DataW.whole enc Tryd.prog ((World.laidAll Tryd.prog os Rows.coinsSeedsRow.laid).forCall (fun _ _ => 0) ⟨#[], #[(.slice none 0 0), (.string (S [])), (.string (S []))], []⟩).memory Tryd.f8.params.toList Rows.coinsSeedsSpec.vars false #[(.slice none 0 0), (.string (S [])), (.string (S []))].toList 8 = some ([.nil, .lit (.string []), .lit (.string [])], [], places) :=
  ⟨[], by kernel_rfl⟩

theorem met (os : Os) : laidMetH Tryd.prog Rows.coinsSeedsRow.laid ((World.laidAll Tryd.prog os Rows.coinsSeedsRow.laid).forCall (fun _ _ => 0) ⟨#[], #[(.slice none 0 0), (.string (S [])), (.string (S []))], []⟩).memory := by
  rw [MakeChecks.laidMetH_plain _ _ _ (by kernel_rfl)]; exact laidMet_laidAll _ (by kernel_rfl) (by kernel_rfl)

theorem sized (os : Os) {H : Type} (enc : TypeId × Value → H) : (OpenSpec.ofChange Rows.coinsSeedsSpec).bare.sizedB enc Tryd.prog Tryd.f8 false ((World.laidAll Tryd.prog os Rows.coinsSeedsRow.laid).forCall (fun _ _ => 0) ⟨#[], #[(.slice none 0 0), (.string (S [])), (.string (S []))], []⟩).memory #[(.slice none 0 0), (.string (S [])), (.string (S []))] 8 = true := by kernel_rfl

theorem prerow (os : Os) {H : Type} (enc : TypeId × Value → H) : (OpenSpec.ofChange Rows.coinsSeedsSpec).preRow enc Tryd.prog Tryd.f8 Rows.coinsSeedsRow.domain false Rows.coinsSeedsRow.laid ((World.laidAll Tryd.prog os Rows.coinsSeedsRow.laid).forCall (fun _ _ => 0) ⟨#[], #[(.slice none 0 0), (.string (S [])), (.string (S []))], []⟩).memory #[(.slice none 0 0), (.string (S [])), (.string (S []))] := by
  obtain ⟨places, hx⟩ := reads os enc
  exact OpenSpec.preRow_of_cond 8 hx (by kernel_rfl) (fun k hk => by cases hk) (sized os enc) (met os)

theorem there (os : Os) {H : Type} (enc : TypeId × Value → H) : ∃ (w : World) (tape : Tape) (i : Input), w.os = os ∧ (w.forCall tape i).Shaped Tryd.checked.prog ∧ i.vars = [] ∧ Input.okWide Tryd.checked.prog (w.forCall tape i) .any w.heap.size 8 i ∧ (OpenSpec.ofChange Rows.coinsSeedsSpec).preRow enc Tryd.checked.prog Tryd.f8 Rows.coinsSeedsRow.domain false Rows.coinsSeedsRow.laid (w.forCall tape i).memory i.args ∧ ({ modest := false } : Assume).holds Tryd.checked.prog (lone (Frame.enter Tryd.checked.prog 8 i.args .normal) [] (w.forCall tape i)) :=
  witness_row_at (enc := enc) (C := Tryd.checked) (fn := Tryd.f8) (s := OpenSpec.ofChange Rows.coinsSeedsSpec) (conds := Rows.coinsSeedsRow.domain) (apart := false) (laid := Rows.coinsSeedsRow.laid) false (World.laidAll Tryd.prog os Rows.coinsSeedsRow.laid) #[(.slice none 0 0), (.string (S [])), (.string (S []))] (World.laidAll_os _ _ _) (by kernel_rfl) (by kernel_rfl) (by kernel_rfl) (prerow os enc)

set_option maxHeartbeats 1000000 in
set_option maxRecDepth 100000 in
theorem lifted (os : Os) (started : os.Started) (H : Type) (enc : TypeId × Value → H) (F : Stop.Interp) :
    ReturnsInHanded {} Tryd.checked os 8 .any ((OpenSpec.ofChange Rows.coinsSeedsSpec).preRow enc Tryd.prog Tryd.f8 Rows.coinsSeedsRow.domain false Rows.coinsSeedsRow.laid) (((OpenSpec.ofChange Rows.coinsSeedsSpec).at F).post enc Tryd.prog Tryd.f8 false true false false) := by
  refine returnsInHanded_of_row (C := Tryd.checked) (s := OpenSpec.ofChange Rows.coinsSeedsSpec) own started (by kernel_rfl) Tryd.func8 (there os enc) ?_
  intro W base args ds gs before hval0 hW hcnd _ hwt0 hL _ _
  have hTab : True → Tab W := fun _ => tab hL
  clear hL
  have hval : ∀ (j : Nat) t v, Tryd.f8.params[j]? = some t → args[j]? = some v → Value.okWide Tryd.prog W .any base t v := hval0
  have hW' := hW
  obtain ⟨p, q, hA0, hV, rfl, hfz, hnd⟩ := hW
  have hA : DataW.TrodAll enc Tryd.prog W 0 (fun _ => true) true Tryd.f8.params.toList args.toList ds p := hA0
  rw [Tryd.params8] at hA hval
  obtain ⟨v0, vs0, d0, ds0, p0, q0, hargs, rfl, rfl, h0, r0⟩ := trodAll_cons hA
  obtain ⟨v1, vs1, d1, ds1, p1, q1, rfl, rfl, rfl, h1, r1⟩ := trodAll_cons r0
  obtain ⟨v2, vs2, d2, ds2, p2, q2, rfl, rfl, rfl, h2, r2⟩ := trodAll_cons r1
  obtain ⟨rfl, rfl, rfl⟩ := trodAll_nil r2
  obtain rfl : args = #[v0, v1, v2] := by cases args; simp_all
  obtain ⟨rfl, rfl⟩ := trodVars_none hV
  have w0 : Wt Tryd.prog 22 d0 := wt_all hwt0 (j := 0) (by rw [Tryd.params8]; rfl) rfl
  have w1 : Wt Tryd.prog 9 d1 := wt_all hwt0 (j := 1) (by rw [Tryd.params8]; rfl) rfl
  have w2 : Wt Tryd.prog 33 d2 := wt_all hwt0 (j := 2) (by rw [Tryd.params8]; rfl) rfl
  have k0 := h0
  obtain ⟨fu0, f0⟩ := h0
  obtain ⟨x0, y0, z0, rfl⟩ := okWide_slice Tryd.underlying22 (hval 0 22 v0 rfl rfl)
  obtain ⟨a0, e0, z0_0, z0_1, z0_2, z0_3⟩ := opz_slice (cells := (fun s => [.string (S s)])) (F := (fun s : List UInt8 => s.length ≤ 140737488351232)) 1 16 (by kernel_rfl) Tryd.underlying22 (by kernel_rfl) (fun _ => rfl) (fun m cs y h hz => opz_str Tryd.underlying33 h hz) f0 w0
  replace z0_2 := sl_map z0_2
  have e0' := (List.cons.inj e0).1
  rw [e0'] at k0 hW' ⊢
  have k1 := h1
  obtain ⟨fu1, f1⟩ := h1
  obtain ⟨q1, rfl⟩ := okWide_string Tryd.underlying9 (hval 1 9 v1 rfl rfl)
  obtain ⟨a1, e1, z1_0⟩ := opz_str Tryd.underlying9 f1 w1
  have e1' := (List.cons.inj e1).1
  rw [e1'] at k1 hW' ⊢
  have k2 := h2
  obtain ⟨fu2, f2⟩ := h2
  obtain ⟨q2, rfl⟩ := okWide_string Tryd.underlying33 (hval 2 33 v2 rfl rfl)
  obtain ⟨a2, e2, z2_0⟩ := opz_str Tryd.underlying33 f2 w2
  have e2' := (List.cons.inj e2).1
  rw [e2'] at k2 hW' ⊢
  clear hA0 hval0
  have hcall : Calls Tryd.prog 8 #[a0.val, .string (S a1), .string (S a2)] W (fun e w' => e = .returned (.bool true) ∧ Below W.heap.size W w') := coinsSeeds_c (l := a0.l) (s := a1) (n := a2) (a := a0.a) (cap := a0.cap) (by first | assumption | rfl | omega | (have := wf_u8 (by assumption); omega) | (have := wf_i64 (by assumption); omega) | (simp [maxLen] at *; omega) | (intro y hy; exact (‹∀ y ∈ _, _› y hy))) (by first | assumption | rfl | omega | (have := wf_u8 (by assumption); omega) | (have := wf_i64 (by assumption); omega) | (simp [maxLen] at *; omega) | (intro y hy; exact (‹∀ y ∈ _, _› y hy))) (hTab trivial)
  refine hcall.mono fun e W' ⟨he, bel⟩ => ?_
  subst he
  exact ⟨_, rfl, _, _, _, [], _, [], hW', trodAll_mk1 (shut_bool Tryd.underlying4 _), (trodAll_cons_mk (Below.trod laid (by kernel_rfl) (of_decide_eq_true (by kernel_rfl)) k0 bel (fun x hx => hW'.lt x (by simp [hx]))) (trodAll_cons_mk (Below.trod laid (by kernel_rfl) (of_decide_eq_true (by kernel_rfl)) k1 bel (fun x hx => hW'.lt x (by simp [hx]))) (trodAll_cons_mk (Below.trod laid (by kernel_rfl) (of_decide_eq_true (by kernel_rfl)) k2 bel (fun x hx => hW'.lt x (by simp [hx]))) trodAll_mk0))), rfl, bel.frame _, fun h => by cases h⟩

theorem said : Rows.CoinsSeedsSaid :=
  OpenClaim.holds_of_cond 8 Tryd.f8 rfl rfl rfl rfl rfl rfl rfl ⟨rfl, rfl, rfl, rfl, rfl⟩ rfl rfl rfl rfl rfl (by kernel_rfl) Tryd.func8 (by kernel_rfl)
    (of_decide_eq_true (by kernel_rfl)) (by unfold Func.isWrapper; first | (rw [if_pos (by decide +kernel)]; kernel_rfl) | (rw [if_neg (by decide +kernel)]; exact ⟨rfl, rfl⟩))
    (fun os started H enc _ F => by rw [OpenClaim.pre_eq_preRow]; exact lifted os started H enc F)

theorem plain (f : FuncId) (fn : Func) (hf : Tryd.pinned.checked.prog.funcNamed "domino/dominolaw06.CoinsSeeds" = some f) (hfn : Tryd.pinned.checked.prog.funcs[f]? = some fn) :
    false = Tryd.pinned.checked.prog.looks [] ∧ ∀ (j : Nat) t, fn.params[j]? = some t → Tryd.pinned.checked.prog.wantsStandIn t = false := by
  obtain rfl : f = 8 := Option.some.inj ((show Tryd.prog.funcNamed "domino/dominolaw06.CoinsSeeds" = some 8 by kernel_rfl).symm.trans hf) |>.symm
  obtain rfl : fn = Tryd.f8 := (Option.some.inj (Tryd.func8.symm.trans hfn)).symm
  refine ⟨by kernel_rfl, fun j t ht => ?_⟩
  rw [Tryd.params8] at ht
  have hm : t = 22 ∨ t = 9 ∨ t = 33 := by simpa using Array.mem_of_getElem? ht
  rcases hm with rfl | rfl | rfl
  · exact (show Tryd.prog.wantsStandIn 22 = false by kernel_rfl)
  · exact (show Tryd.prog.wantsStandIn 9 = false by kernel_rfl)
  · exact (show Tryd.prog.wantsStandIn 33 = false by kernel_rfl)

theorem proved : Rows.CoinsSeedsCardSaid :=
  Claim7.holds_tied_plain_at .later [] _ _ _ _ said (fun _ h => by cases h) (by kernel_rfl) (fun _ h => by cases h) coinsSeeds_row_tie rfl ⟨rfl, rfl⟩ (by kernel_rfl) rfl plain (by kernel_rfl)
end Go.Proofs.YtikcjkifhliidaaDoor.coinsSeeds
