/-
  The statement IntcommitKeys out of the walk of its Go function.
-/
import Derived.Test.YtmkghgoibnncbaaGreatDoorCards
import Derived.Test.YtmkghgoibnncbaaGreatDoorTie
import Derived.Test.YtmkghgoibnncbaaGreatDoorY18
import Derived.WalkKit
import Derived.ProofKit
import Derived.OpenShut
import Derived.ShutString
import Derived.ChangeOld
import Derived.Below
import Derived.Deep.DeepHandedRow
import Derived.Lay
import Derived.LaidMore
namespace Go.Proofs.YtmkghgoibnncbaaGreatDoor.intcommitKeys
open Go.ChangeShapes Go.WideShapes Go.ChangeAt Go.RowKit
set_option linter.unusedVariables false
set_option linter.unusedSimpArgs false

theorem laid : laidOutB Tryz.prog = true := by kernel_rfl

theorem own : ownKnob Tryz.prog.godebug = none := by kernel_rfl

set_option maxRecDepth 100000 in
theorem op_T88 {H : Type} {enc : TypeId × Value → H} {w : World} {held : Bool} {fuel : Nat} {cs : List Value} {x : DataW H × List MemPlace} (h : DataW.trod enc Tryz.prog w 0 (fun _ => true) held fuel 88 cs = some x) (hz : Wt Tryz.prog 88 x.1) :
    ∃ (x_0_0_0 : List UInt8) (x_0_0_1 : List UInt8) (x_0_1 : List UInt8) (x_0_2 : List UInt8) (x_1 : List UInt8) (x_2 : List UInt8) (x_3 : List UInt8) (x_4 : List UInt8) (x_5 : List UInt8), cs = [.string (S x_0_0_0), .string (S x_0_0_1), .string (S x_0_1), .string (S x_0_2), .string (S x_1), .string (S x_2), .string (S x_3), .string (S x_4), .string (S x_5)] ∧ (x_0_0_0.length ≤ 140737488351232) ∧ (x_0_0_1.length ≤ 140737488351232) ∧ (x_0_1.length ≤ 140737488351232) ∧ (x_0_2.length ≤ 140737488351232) ∧ (x_1.length ≤ 140737488351232) ∧ (x_2.length ≤ 140737488351232) ∧ (x_3.length ≤ 140737488351232) ∧ (x_4.length ≤ 140737488351232) ∧ (x_5.length ≤ 140737488351232) := by
  have hl : cs.length = 9 := (op_struct Tryz.underlying88 h).1.trans (by kernel_rfl)
  obtain ⟨c0, c1, c2, c3, c4, c5, c6, c7, c8, rfl⟩ : ∃ c0 c1 c2 c3 c4 c5 c6 c7 c8, cs = [c0, c1, c2, c3, c4, c5, c6, c7, c8] := by
    match cs, hl with
    | [c0, c1, c2, c3, c4, c5, c6, c7, c8], _ => exact ⟨c0, c1, c2, c3, c4, c5, c6, c7, c8, rfl⟩
  clear hl
  obtain ⟨_, m2, hf3⟩ := opz_struct Tryz.underlying88 h hz
  obtain ⟨y5, g4, hz6⟩ := hf3 0 _ rfl
  replace g4 : DataW.trod enc Tryz.prog w 0 (fun _ => true) held m2 86 [c0, c1, c2, c3] = some y5 := by rw [show Tryz.prog.cellsOf 86 = 4 from by kernel_rfl] at g4; exact g4
  obtain ⟨_, m8, hf9⟩ := opz_struct Tryz.underlying86 g4 hz6
  obtain ⟨y11, g10, hz12⟩ := hf9 0 _ rfl
  replace g10 : DataW.trod enc Tryz.prog w 0 (fun _ => true) held m8 24 [c0, c1] = some y11 := by rw [show Tryz.prog.cellsOf 24 = 2 from by kernel_rfl] at g10; exact g10
  obtain ⟨_, m14, hf15⟩ := opz_struct Tryz.underlying24 g10 hz12
  obtain ⟨y17, g16, hz18⟩ := hf15 0 _ rfl
  replace g16 : DataW.trod enc Tryz.prog w 0 (fun _ => true) held m14 22 [c0] = some y17 := by rw [show Tryz.prog.cellsOf 22 = 1 from by kernel_rfl] at g16; exact g16
  obtain ⟨x_0_0_0, e19, h20⟩ := opz_str Tryz.underlying22 g16 hz18; obtain rfl := (List.cons.inj e19).1
  obtain ⟨y22, g21, hz23⟩ := hf15 1 _ rfl
  replace g21 : DataW.trod enc Tryz.prog w 0 (fun _ => true) held m14 22 [c1] = some y22 := by rw [show Tryz.prog.cellsOf 22 = 1 from by kernel_rfl] at g21; exact g21
  obtain ⟨x_0_0_1, e24, h25⟩ := opz_str Tryz.underlying22 g21 hz23; obtain rfl := (List.cons.inj e24).1
  obtain ⟨y27, g26, hz28⟩ := hf9 1 _ rfl
  replace g26 : DataW.trod enc Tryz.prog w 0 (fun _ => true) held m8 22 [c2] = some y27 := by rw [show Tryz.prog.cellsOf 22 = 1 from by kernel_rfl] at g26; exact g26
  obtain ⟨x_0_1, e29, h30⟩ := opz_str Tryz.underlying22 g26 hz28; obtain rfl := (List.cons.inj e29).1
  obtain ⟨y32, g31, hz33⟩ := hf9 2 _ rfl
  replace g31 : DataW.trod enc Tryz.prog w 0 (fun _ => true) held m8 22 [c3] = some y32 := by rw [show Tryz.prog.cellsOf 22 = 1 from by kernel_rfl] at g31; exact g31
  obtain ⟨x_0_2, e34, h35⟩ := opz_str Tryz.underlying22 g31 hz33; obtain rfl := (List.cons.inj e34).1
  obtain ⟨y37, g36, hz38⟩ := hf3 1 _ rfl
  replace g36 : DataW.trod enc Tryz.prog w 0 (fun _ => true) held m2 22 [c4] = some y37 := by rw [show Tryz.prog.cellsOf 22 = 1 from by kernel_rfl] at g36; exact g36
  obtain ⟨x_1, e39, h40⟩ := opz_str Tryz.underlying22 g36 hz38; obtain rfl := (List.cons.inj e39).1
  obtain ⟨y42, g41, hz43⟩ := hf3 2 _ rfl
  replace g41 : DataW.trod enc Tryz.prog w 0 (fun _ => true) held m2 22 [c5] = some y42 := by rw [show Tryz.prog.cellsOf 22 = 1 from by kernel_rfl] at g41; exact g41
  obtain ⟨x_2, e44, h45⟩ := opz_str Tryz.underlying22 g41 hz43; obtain rfl := (List.cons.inj e44).1
  obtain ⟨y47, g46, hz48⟩ := hf3 3 _ rfl
  replace g46 : DataW.trod enc Tryz.prog w 0 (fun _ => true) held m2 22 [c6] = some y47 := by rw [show Tryz.prog.cellsOf 22 = 1 from by kernel_rfl] at g46; exact g46
  obtain ⟨x_3, e49, h50⟩ := opz_str Tryz.underlying22 g46 hz48; obtain rfl := (List.cons.inj e49).1
  obtain ⟨y52, g51, hz53⟩ := hf3 4 _ rfl
  replace g51 : DataW.trod enc Tryz.prog w 0 (fun _ => true) held m2 22 [c7] = some y52 := by rw [show Tryz.prog.cellsOf 22 = 1 from by kernel_rfl] at g51; exact g51
  obtain ⟨x_4, e54, h55⟩ := opz_str Tryz.underlying22 g51 hz53; obtain rfl := (List.cons.inj e54).1
  obtain ⟨y57, g56, hz58⟩ := hf3 5 _ rfl
  replace g56 : DataW.trod enc Tryz.prog w 0 (fun _ => true) held m2 22 [c8] = some y57 := by rw [show Tryz.prog.cellsOf 22 = 1 from by kernel_rfl] at g56; exact g56
  obtain ⟨x_5, e59, h60⟩ := opz_str Tryz.underlying22 g56 hz58; obtain rfl := (List.cons.inj e59).1
  exact ⟨x_0_0_0, x_0_0_1, x_0_1, x_0_2, x_1, x_2, x_3, x_4, x_5, rfl, h20, h25, h30, h35, h40, h45, h50, h55, h60⟩

set_option maxRecDepth 100000 in
theorem op_T64 {H : Type} {enc : TypeId × Value → H} {w : World} {held : Bool} {fuel : Nat} {cs : List Value} {x : DataW H × List MemPlace} (h : DataW.trod enc Tryz.prog w 0 (fun _ => true) held fuel 64 cs = some x) (hz : Wt Tryz.prog 64 x.1) :
    ∃ (x_0 : Bool) (x_1 : List UInt8), cs = [.bool x_0, .string (S x_1)] ∧ (x_1.length ≤ 140737488351232) := by
  have hl : cs.length = 2 := (op_struct Tryz.underlying64 h).1.trans (by kernel_rfl)
  obtain ⟨c0, c1, rfl⟩ : ∃ c0 c1, cs = [c0, c1] := by
    match cs, hl with
    | [c0, c1], _ => exact ⟨c0, c1, rfl⟩
  clear hl
  obtain ⟨_, m62, hf63⟩ := opz_struct Tryz.underlying64 h hz
  obtain ⟨y65, g64, hz66⟩ := hf63 0 _ rfl
  replace g64 : DataW.trod enc Tryz.prog w 0 (fun _ => true) held m62 4 [c0] = some y65 := by rw [show Tryz.prog.cellsOf 4 = 1 from by kernel_rfl] at g64; exact g64
  obtain ⟨x_0, e67⟩ := op_bool Tryz.underlying4 g64; obtain rfl := (List.cons.inj e67).1
  obtain ⟨y69, g68, hz70⟩ := hf63 1 _ rfl
  replace g68 : DataW.trod enc Tryz.prog w 0 (fun _ => true) held m62 22 [c1] = some y69 := by rw [show Tryz.prog.cellsOf 22 = 1 from by kernel_rfl] at g68; exact g68
  obtain ⟨x_1, e71, h72⟩ := opz_str Tryz.underlying22 g68 hz70; obtain rfl := (List.cons.inj e71).1
  exact ⟨x_0, x_1, rfl, h72⟩

set_option maxRecDepth 100000 in
theorem op_T33 {H : Type} {enc : TypeId × Value → H} {w : World} {held : Bool} {fuel : Nat} {cs : List Value} {x : DataW H × List MemPlace} (h : DataW.trod enc Tryz.prog w 0 (fun _ => true) held fuel 33 cs = some x) (hz : Wt Tryz.prog 33 x.1) :
    ∃ (x_0 : Sl (List UInt8)) (x_1 : List UInt8) (x_2 : Int), cs = [x_0.val, .string (S x_1), .int .i64 x_2] ∧ (x_0.l.length ≤ x_0.cap) ∧ (x_0.cap * 16 ≤ 140737488351232) ∧ ((Fact.sl x_0.a (x_0.l.map fun x => .string (S x))).holds (fun _ => True) w) ∧ ((∀ y ∈ x_0.l, (fun s : List UInt8 => s.length ≤ 140737488351232) y)) ∧ (x_1.length ≤ 140737488351232) ∧ ((Lit.int .i64 x_2).wf = true) := by
  have hl : cs.length = 3 := (op_struct Tryz.underlying33 h).1.trans (by kernel_rfl)
  obtain ⟨c0, c1, c2, rfl⟩ : ∃ c0 c1 c2, cs = [c0, c1, c2] := by
    match cs, hl with
    | [c0, c1, c2], _ => exact ⟨c0, c1, c2, rfl⟩
  clear hl
  obtain ⟨_, m74, hf75⟩ := opz_struct Tryz.underlying33 h hz
  obtain ⟨y77, g76, hz78⟩ := hf75 0 _ rfl
  replace g76 : DataW.trod enc Tryz.prog w 0 (fun _ => true) held m74 31 [c0] = some y77 := by rw [show Tryz.prog.cellsOf 31 = 1 from by kernel_rfl] at g76; exact g76
  obtain ⟨x_0, e79, h80, h81, h82, h83⟩ := opz_slice (cells := (fun s => [.string (S s)])) (F := (fun s : List UInt8 => s.length ≤ 140737488351232)) 1 16 (by kernel_rfl) Tryz.underlying31 (by kernel_rfl) (fun _ => rfl) (fun m cs y h hz => opz_str Tryz.underlying22 h hz) g76 hz78; obtain rfl := (List.cons.inj e79).1
  replace h82 := sl_map h82
  obtain ⟨y85, g84, hz86⟩ := hf75 1 _ rfl
  replace g84 : DataW.trod enc Tryz.prog w 0 (fun _ => true) held m74 9 [c1] = some y85 := by rw [show Tryz.prog.cellsOf 9 = 1 from by kernel_rfl] at g84; exact g84
  obtain ⟨x_1, e87, h88⟩ := opz_str Tryz.underlying9 g84 hz86; obtain rfl := (List.cons.inj e87).1
  obtain ⟨y90, g89, hz91⟩ := hf75 2 _ rfl
  replace g89 : DataW.trod enc Tryz.prog w 0 (fun _ => true) held m74 3 [c2] = some y90 := by rw [show Tryz.prog.cellsOf 3 = 1 from by kernel_rfl] at g89; exact g89
  obtain ⟨x_2, e92, h93⟩ := op_int Tryz.underlying3 g89; obtain rfl := (List.cons.inj e92).1
  exact ⟨x_0, x_1, x_2, rfl, h80, h81, h82, h83, h88, h93⟩

theorem tab {W : World} (h : laidMetH Tryz.prog Rows.intcommitKeysRow.laid W) : Tab W := by
  rw [MakeChecks.laidMetH_plain _ _ _ (by kernel_rfl)] at h
  obtain ⟨ps, h, _⟩ := h
  obtain ⟨_, h⟩ := laidVars_tail h
  obtain ⟨_, h⟩ := laidVars_tail h
  exact tab_of_vars (by kernel_rfl) Tryz.underlying286 Tryz.underlying67 (by kernel_rfl) (by kernel_rfl) h

theorem reads (os : Os) {H : Type} (enc : TypeId × Value → H) : ∃ places, DataW.whole enc Tryz.prog ((World.laidAll Tryz.prog os Rows.intcommitKeysRow.laid).forCall (fun _ _ => 0) ⟨#[], #[(.agg #[.string (S []), .string (S []), .string (S []), .string (S []), .string (S []), .string (S []), .string (S []), .string (S []), .string (S [])]), (.agg #[.bool false, .string (S [])]), (.agg #[.slice none 0 0, .string (S []), .int .i64 0])], []⟩).memory Tryz.f10.params.toList Rows.intcommitKeysSpec.vars false #[(.agg #[.string (S []), .string (S []), .string (S []), .string (S []), .string (S []), .string (S []), .string (S []), .string (S []), .string (S [])]), (.agg #[.bool false, .string (S [])]), (.agg #[.slice none 0 0, .string (S []), .int .i64 0])].toList 8 = some ([.agg [.agg [.agg [.lit (.string []), .lit (.string [])], .lit (.string []), .lit (.string [])], .lit (.string []), .lit (.string []), .lit (.string []), .lit (.string []), .lit (.string [])], .agg [.lit (.bool false), .lit (.string [])], .agg [.nil, .lit (.string []), .lit (.int .i64 0)]], [], places) :=
  ⟨[], by kernel_rfl⟩

theorem met (os : Os) : laidMetH Tryz.prog Rows.intcommitKeysRow.laid ((World.laidAll Tryz.prog os Rows.intcommitKeysRow.laid).forCall (fun _ _ => 0) ⟨#[], #[(.agg #[.string (S []), .string (S []), .string (S []), .string (S []), .string (S []), .string (S []), .string (S []), .string (S []), .string (S [])]), (.agg #[.bool false, .string (S [])]), (.agg #[.slice none 0 0, .string (S []), .int .i64 0])], []⟩).memory := by
  rw [MakeChecks.laidMetH_plain _ _ _ (by kernel_rfl)]; exact laidMet_laidAll _ (by kernel_rfl) (by kernel_rfl)

theorem sized (os : Os) {H : Type} (enc : TypeId × Value → H) : (OpenSpec.ofChange Rows.intcommitKeysSpec).bare.sizedB enc Tryz.prog Tryz.f10 false ((World.laidAll Tryz.prog os Rows.intcommitKeysRow.laid).forCall (fun _ _ => 0) ⟨#[], #[(.agg #[.string (S []), .string (S []), .string (S []), .string (S []), .string (S []), .string (S []), .string (S []), .string (S []), .string (S [])]), (.agg #[.bool false, .string (S [])]), (.agg #[.slice none 0 0, .string (S []), .int .i64 0])], []⟩).memory #[(.agg #[.string (S []), .string (S []), .string (S []), .string (S []), .string (S []), .string (S []), .string (S []), .string (S []), .string (S [])]), (.agg #[.bool false, .string (S [])]), (.agg #[.slice none 0 0, .string (S []), .int .i64 0])] 8 = true := by kernel_rfl

theorem prerow (os : Os) {H : Type} (enc : TypeId × Value → H) : (OpenSpec.ofChange Rows.intcommitKeysSpec).preRow enc Tryz.prog Tryz.f10 Rows.intcommitKeysRow.domain false Rows.intcommitKeysRow.laid ((World.laidAll Tryz.prog os Rows.intcommitKeysRow.laid).forCall (fun _ _ => 0) ⟨#[], #[(.agg #[.string (S []), .string (S []), .string (S []), .string (S []), .string (S []), .string (S []), .string (S []), .string (S []), .string (S [])]), (.agg #[.bool false, .string (S [])]), (.agg #[.slice none 0 0, .string (S []), .int .i64 0])], []⟩).memory #[(.agg #[.string (S []), .string (S []), .string (S []), .string (S []), .string (S []), .string (S []), .string (S []), .string (S []), .string (S [])]), (.agg #[.bool false, .string (S [])]), (.agg #[.slice none 0 0, .string (S []), .int .i64 0])] := by
  obtain ⟨places, hx⟩ := reads os enc
  exact OpenSpec.preRow_of_cond 8 hx (by kernel_rfl) (fun k hk => by cases hk) (sized os enc) (met os)

theorem there (os : Os) {H : Type} (enc : TypeId × Value → H) : ∃ (w : World) (tape : Tape) (i : Input), w.os = os ∧ (w.forCall tape i).Shaped Tryz.checked.prog ∧ i.vars = [] ∧ Input.okWide Tryz.checked.prog (w.forCall tape i) .any w.heap.size 10 i ∧ (OpenSpec.ofChange Rows.intcommitKeysSpec).preRow enc Tryz.checked.prog Tryz.f10 Rows.intcommitKeysRow.domain false Rows.intcommitKeysRow.laid (w.forCall tape i).memory i.args ∧ ({ modest := false } : Assume).holds Tryz.checked.prog (lone (Frame.enter Tryz.checked.prog 10 i.args .normal) [] (w.forCall tape i)) :=
  witness_row_at (enc := enc) (C := Tryz.checked) (fn := Tryz.f10) (s := OpenSpec.ofChange Rows.intcommitKeysSpec) (conds := Rows.intcommitKeysRow.domain) (apart := false) (laid := Rows.intcommitKeysRow.laid) false (World.laidAll Tryz.prog os Rows.intcommitKeysRow.laid) #[(.agg #[.string (S []), .string (S []), .string (S []), .string (S []), .string (S []), .string (S []), .string (S []), .string (S []), .string (S [])]), (.agg #[.bool false, .string (S [])]), (.agg #[.slice none 0 0, .string (S []), .int .i64 0])] (World.laidAll_os _ _ _) (by kernel_rfl) (by kernel_rfl) (by kernel_rfl) (prerow os enc)

set_option maxHeartbeats 1000000 in
set_option maxRecDepth 100000 in
theorem lifted (os : Os) (started : os.Started) (H : Type) (enc : TypeId × Value → H) (F : Stop.Interp) :
    ReturnsInHanded {} Tryz.checked os 10 .any ((OpenSpec.ofChange Rows.intcommitKeysSpec).preRow enc Tryz.prog Tryz.f10 Rows.intcommitKeysRow.domain false Rows.intcommitKeysRow.laid) (((OpenSpec.ofChange Rows.intcommitKeysSpec).at F).post enc Tryz.prog Tryz.f10 false true false false) := by
  refine returnsInHanded_of_row (C := Tryz.checked) (s := OpenSpec.ofChange Rows.intcommitKeysSpec) own started (by kernel_rfl) Tryz.func10 (there os enc) ?_
  intro W base args ds gs before hval0 hW hcnd _ hwt0 hL _ _
  have hTab : True → Tab W := fun _ => tab hL
  clear hL
  have hval : ∀ (j : Nat) t v, Tryz.f10.params[j]? = some t → args[j]? = some v → Value.okWide Tryz.prog W .any base t v := hval0
  have hW' := hW
  obtain ⟨p, q, hA0, hV, rfl, hfz, hnd⟩ := hW
  have hA : DataW.TrodAll enc Tryz.prog W 0 (fun _ => true) true Tryz.f10.params.toList args.toList ds p := hA0
  rw [Tryz.params10] at hA hval
  obtain ⟨v0, vs0, d0, ds0, p0, q0, hargs, rfl, rfl, h0, r0⟩ := trodAll_cons hA
  obtain ⟨v1, vs1, d1, ds1, p1, q1, rfl, rfl, rfl, h1, r1⟩ := trodAll_cons r0
  obtain ⟨v2, vs2, d2, ds2, p2, q2, rfl, rfl, rfl, h2, r2⟩ := trodAll_cons r1
  obtain ⟨rfl, rfl, rfl⟩ := trodAll_nil r2
  obtain rfl : args = #[v0, v1, v2] := by cases args; simp_all
  obtain ⟨rfl, rfl⟩ := trodVars_none hV
  have w0 : Wt Tryz.prog 88 d0 := wt_all hwt0 (j := 0) (by rw [Tryz.params10]; rfl) rfl
  have w1 : Wt Tryz.prog 64 d1 := wt_all hwt0 (j := 1) (by rw [Tryz.params10]; rfl) rfl
  have w2 : Wt Tryz.prog 33 d2 := wt_all hwt0 (j := 2) (by rw [Tryz.params10]; rfl) rfl
  have k0 := h0
  obtain ⟨fu0, f0⟩ := h0
  obtain ⟨cs0, rfl, hz0⟩ : ∃ cs, v0 = .agg cs ∧ cs.size = Tryz.prog.cellsOf 88 := by have q := (hval 0 88 v0 rfl rfl); simp only [Value.okWide, Tryz.underlying88] at q; obtain ⟨cs, q1, q2, _⟩ := q; exact ⟨cs, q1, q2⟩
  obtain ⟨a0_0_0_0, a0_0_0_1, a0_0_1, a0_0_2, a0_1, a0_2, a0_3, a0_4, a0_5, e0, z0_0, z0_1, z0_2, z0_3, z0_4, z0_5, z0_6, z0_7, z0_8⟩ := op_T88 f0 w0
  obtain rfl : cs0 = #[.string (S a0_0_0_0), .string (S a0_0_0_1), .string (S a0_0_1), .string (S a0_0_2), .string (S a0_1), .string (S a0_2), .string (S a0_3), .string (S a0_4), .string (S a0_5)] := Array.ext' e0
  have k1 := h1
  obtain ⟨fu1, f1⟩ := h1
  obtain ⟨cs1, rfl, hz1⟩ : ∃ cs, v1 = .agg cs ∧ cs.size = Tryz.prog.cellsOf 64 := by have q := (hval 1 64 v1 rfl rfl); simp only [Value.okWide, Tryz.underlying64] at q; obtain ⟨cs, q1, q2, _⟩ := q; exact ⟨cs, q1, q2⟩
  obtain ⟨a1_0, a1_1, e1, z1_0⟩ := op_T64 f1 w1
  obtain rfl : cs1 = #[.bool a1_0, .string (S a1_1)] := Array.ext' e1
  have k2 := h2
  obtain ⟨fu2, f2⟩ := h2
  obtain ⟨cs2, rfl, hz2⟩ : ∃ cs, v2 = .agg cs ∧ cs.size = Tryz.prog.cellsOf 33 := by have q := (hval 2 33 v2 rfl rfl); simp only [Value.okWide, Tryz.underlying33] at q; obtain ⟨cs, q1, q2, _⟩ := q; exact ⟨cs, q1, q2⟩
  obtain ⟨a2_0, a2_1, a2_2, e2, z2_0, z2_1, z2_2, z2_3, z2_4, z2_5⟩ := op_T33 f2 w2
  obtain rfl : cs2 = #[a2_0.val, .string (S a2_1), .int .i64 a2_2] := Array.ext' e2
  clear hA0 hval0
  have hcall : Calls Tryz.prog 10 #[.agg #[.string (S a0_0_0_0), .string (S a0_0_0_1), .string (S a0_0_1), .string (S a0_0_2), .string (S a0_1), .string (S a0_2), .string (S a0_3), .string (S a0_4), .string (S a0_5)], .agg #[.bool a1_0, .string (S a1_1)], .agg #[a2_0.val, .string (S a2_1), .int .i64 a2_2]] W (fun e w' => e = .returned (.bool true) ∧ Below W.heap.size W w') := ickeys_l (q := ⟨((a0_0_0_0, a0_0_0_1), a0_0_1, a0_0_2), a0_1, a0_2, a0_3, a0_4, a0_5⟩) (m := (a1_0, a1_1)) (t := ⟨a2_0.l, a2_1, a2_2⟩) (a := a2_0.a) (cap := a2_0.cap) (by first | assumption | rfl | omega | (have := wf_u8 (by assumption); omega) | (have := wf_i64 (by assumption); omega) | (simp [maxLen] at *; omega) | (intro y hy; exact (‹∀ y ∈ _, _› y hy))) (by first | assumption | rfl | omega | (have := wf_u8 (by assumption); omega) | (have := wf_i64 (by assumption); omega) | (simp [maxLen] at *; omega) | (intro y hy; exact (‹∀ y ∈ _, _› y hy))) (hTab trivial)
  refine hcall.mono fun e W' ⟨he, bel⟩ => ?_
  subst he
  exact ⟨_, rfl, _, _, _, [], _, [], hW', trodAll_mk1 (shut_bool Tryz.underlying4 _), (trodAll_cons_mk (Below.trod laid (by kernel_rfl) (of_decide_eq_true (by kernel_rfl)) k0 bel (fun x hx => hW'.lt x (by simp [hx]))) (trodAll_cons_mk (Below.trod laid (by kernel_rfl) (of_decide_eq_true (by kernel_rfl)) k1 bel (fun x hx => hW'.lt x (by simp [hx]))) (trodAll_cons_mk (Below.trod laid (by kernel_rfl) (of_decide_eq_true (by kernel_rfl)) k2 bel (fun x hx => hW'.lt x (by simp [hx]))) trodAll_mk0))), rfl, bel.frame _, fun h => by cases h⟩

theorem said : Rows.IntcommitKeysSaid :=
  OpenClaim.holds_of_cond 10 Tryz.f10 rfl rfl rfl rfl rfl rfl rfl ⟨rfl, rfl, rfl, rfl, rfl⟩ rfl rfl rfl rfl rfl (by kernel_rfl) Tryz.func10 (by kernel_rfl)
    (of_decide_eq_true (by kernel_rfl)) (by unfold Func.isWrapper; first | (rw [if_pos (by decide +kernel)]; kernel_rfl) | (rw [if_neg (by decide +kernel)]; exact ⟨rfl, rfl⟩))
    (fun os started H enc _ F => by rw [OpenClaim.pre_eq_preRow]; exact lifted os started H enc F)

theorem plain (f : FuncId) (fn : Func) (hf : Tryz.pinned.checked.prog.funcNamed "domino/dominolaw26.IntcommitKeys" = some f) (hfn : Tryz.pinned.checked.prog.funcs[f]? = some fn) :
    false = Tryz.pinned.checked.prog.looks [] ∧ ∀ (j : Nat) t, fn.params[j]? = some t → Tryz.pinned.checked.prog.wantsStandIn t = false := by
  obtain rfl : f = 10 := Option.some.inj ((show Tryz.prog.funcNamed "domino/dominolaw26.IntcommitKeys" = some 10 by kernel_rfl).symm.trans hf) |>.symm
  obtain rfl : fn = Tryz.f10 := (Option.some.inj (Tryz.func10.symm.trans hfn)).symm
  refine ⟨by kernel_rfl, fun j t ht => ?_⟩
  rw [Tryz.params10] at ht
  have hm : t = 88 ∨ t = 64 ∨ t = 33 := by simpa using Array.mem_of_getElem? ht
  rcases hm with rfl | rfl | rfl
  · exact (show Tryz.prog.wantsStandIn 88 = false by kernel_rfl)
  · exact (show Tryz.prog.wantsStandIn 64 = false by kernel_rfl)
  · exact (show Tryz.prog.wantsStandIn 33 = false by kernel_rfl)

theorem proved : Rows.IntcommitKeysCardSaid :=
  Claim7.holds_tied_plain_at .later [] _ _ _ _ said (fun _ h => by cases h) (by kernel_rfl) (fun _ h => by cases h) intcommitKeys_row_tie rfl ⟨rfl, rfl⟩ (by kernel_rfl) rfl plain (by kernel_rfl)
end Go.Proofs.YtmkghgoibnncbaaGreatDoor.intcommitKeys
