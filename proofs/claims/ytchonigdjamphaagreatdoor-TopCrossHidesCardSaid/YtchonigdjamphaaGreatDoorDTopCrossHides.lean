/-
  The statement TopCrossHides out of the walk of its Go function.
-/
import Derived.Test.YtchonigdjamphaaGreatDoorCards
import Derived.Test.YtchonigdjamphaaGreatDoorTie
import Derived.Test.YtchonigdjamphaaGreatDoorQ22
import Derived.WalkKit
import Derived.ProofKit
import Derived.OpenShut
import Derived.ShutString
import Derived.ChangeOld
import Derived.Below
import Derived.Deep.DeepHandedRow
import Derived.Lay
import Derived.LaidMore
namespace Go.Proofs.YtchonigdjamphaaGreatDoor.topCrossHides
open Go.ChangeShapes Go.WideShapes Go.ChangeAt Go.RowKit
set_option linter.unusedVariables false
set_option linter.unusedSimpArgs false

theorem laid : laidOutB Tryz.prog = true := by kernel_rfl

theorem own : ownKnob Tryz.prog.godebug = none := by kernel_rfl

set_option maxRecDepth 100000 in
theorem op_T30 {H : Type} {enc : TypeId × Value → H} {w : World} {held : Bool} {fuel : Nat} {cs : List Value} {x : DataW H × List MemPlace} (h : DataW.trod enc Tryz.prog w 0 (fun _ => true) held fuel 30 cs = some x) (hz : Wt Tryz.prog 30 x.1) :
    ∃ (x_0_0 : List UInt8) (x_0_1 : List UInt8) (x_1_0_0 : List UInt8) (x_1_0_1 : List UInt8) (x_1_1 : List UInt8) (x_1_2 : List UInt8) (x_2_0_0 : List UInt8) (x_2_0_1 : List UInt8) (x_2_1 : List UInt8) (x_2_2 : List UInt8) (x_3 : List UInt8) (x_4 : List UInt8) (x_5 : List UInt8) (x_6 : List UInt8), cs = [.string (S x_0_0), .string (S x_0_1), .string (S x_1_0_0), .string (S x_1_0_1), .string (S x_1_1), .string (S x_1_2), .string (S x_2_0_0), .string (S x_2_0_1), .string (S x_2_1), .string (S x_2_2), .string (S x_3), .string (S x_4), .string (S x_5), .string (S x_6)] ∧ (x_0_0.length ≤ 140737488351232) ∧ (x_0_1.length ≤ 140737488351232) ∧ (x_1_0_0.length ≤ 140737488351232) ∧ (x_1_0_1.length ≤ 140737488351232) ∧ (x_1_1.length ≤ 140737488351232) ∧ (x_1_2.length ≤ 140737488351232) ∧ (x_2_0_0.length ≤ 140737488351232) ∧ (x_2_0_1.length ≤ 140737488351232) ∧ (x_2_1.length ≤ 140737488351232) ∧ (x_2_2.length ≤ 140737488351232) ∧ (x_3.length ≤ 140737488351232) ∧ (x_4.length ≤ 140737488351232) ∧ (x_5.length ≤ 140737488351232) ∧ (x_6.length ≤ 140737488351232) := by
  have hl : cs.length = 14 := (op_struct Tryz.underlying30 h).1.trans (by kernel_rfl)
  obtain ⟨c0, c1, c2, c3, c4, c5, c6, c7, c8, c9, c10, c11, c12, c13, rfl⟩ : ∃ c0 c1 c2 c3 c4 c5 c6 c7 c8 c9 c10 c11 c12 c13, cs = [c0, c1, c2, c3, c4, c5, c6, c7, c8, c9, c10, c11, c12, c13] := by
    match cs, hl with
    | [c0, c1, c2, c3, c4, c5, c6, c7, c8, c9, c10, c11, c12, c13], _ => exact ⟨c0, c1, c2, c3, c4, c5, c6, c7, c8, c9, c10, c11, c12, c13, rfl⟩
  clear hl
  obtain ⟨_, m2, hf3⟩ := opz_struct Tryz.underlying30 h hz
  obtain ⟨y5, g4, hz6⟩ := hf3 0 _ rfl
  replace g4 : DataW.trod enc Tryz.prog w 0 (fun _ => true) held m2 24 [c0, c1] = some y5 := by rw [show Tryz.prog.cellsOf 24 = 2 from by kernel_rfl] at g4; exact g4
  obtain ⟨_, m8, hf9⟩ := opz_struct Tryz.underlying24 g4 hz6
  obtain ⟨y11, g10, hz12⟩ := hf9 0 _ rfl
  replace g10 : DataW.trod enc Tryz.prog w 0 (fun _ => true) held m8 22 [c0] = some y11 := by rw [show Tryz.prog.cellsOf 22 = 1 from by kernel_rfl] at g10; exact g10
  obtain ⟨x_0_0, e13, h14⟩ := opz_str Tryz.underlying22 g10 hz12; obtain rfl := (List.cons.inj e13).1
  obtain ⟨y16, g15, hz17⟩ := hf9 1 _ rfl
  replace g15 : DataW.trod enc Tryz.prog w 0 (fun _ => true) held m8 22 [c1] = some y16 := by rw [show Tryz.prog.cellsOf 22 = 1 from by kernel_rfl] at g15; exact g15
  obtain ⟨x_0_1, e18, h19⟩ := opz_str Tryz.underlying22 g15 hz17; obtain rfl := (List.cons.inj e18).1
  obtain ⟨y21, g20, hz22⟩ := hf3 1 _ rfl
  replace g20 : DataW.trod enc Tryz.prog w 0 (fun _ => true) held m2 28 [c2, c3, c4, c5] = some y21 := by rw [show Tryz.prog.cellsOf 28 = 4 from by kernel_rfl] at g20; exact g20
  obtain ⟨_, m24, hf25⟩ := opz_struct Tryz.underlying28 g20 hz22
  obtain ⟨y27, g26, hz28⟩ := hf25 0 _ rfl
  replace g26 : DataW.trod enc Tryz.prog w 0 (fun _ => true) held m24 26 [c2, c3] = some y27 := by rw [show Tryz.prog.cellsOf 26 = 2 from by kernel_rfl] at g26; exact g26
  obtain ⟨_, m30, hf31⟩ := opz_struct Tryz.underlying26 g26 hz28
  obtain ⟨y33, g32, hz34⟩ := hf31 0 _ rfl
  replace g32 : DataW.trod enc Tryz.prog w 0 (fun _ => true) held m30 22 [c2] = some y33 := by rw [show Tryz.prog.cellsOf 22 = 1 from by kernel_rfl] at g32; exact g32
  obtain ⟨x_1_0_0, e35, h36⟩ := opz_str Tryz.underlying22 g32 hz34; obtain rfl := (List.cons.inj e35).1
  obtain ⟨y38, g37, hz39⟩ := hf31 1 _ rfl
  replace g37 : DataW.trod enc Tryz.prog w 0 (fun _ => true) held m30 22 [c3] = some y38 := by rw [show Tryz.prog.cellsOf 22 = 1 from by kernel_rfl] at g37; exact g37
  obtain ⟨x_1_0_1, e40, h41⟩ := opz_str Tryz.underlying22 g37 hz39; obtain rfl := (List.cons.inj e40).1
  obtain ⟨y43, g42, hz44⟩ := hf25 1 _ rfl
  replace g42 : DataW.trod enc Tryz.prog w 0 (fun _ => true) held m24 22 [c4] = some y43 := by rw [show Tryz.prog.cellsOf 22 = 1 from by kernel_rfl] at g42; exact g42
  obtain ⟨x_1_1, e45, h46⟩ := opz_str Tryz.underlying22 g42 hz44; obtain rfl := (List.cons.inj e45).1
  obtain ⟨y48, g47, hz49⟩ := hf25 2 _ rfl
  replace g47 : DataW.trod enc Tryz.prog w 0 (fun _ => true) held m24 22 [c5] = some y48 := by rw [show Tryz.prog.cellsOf 22 = 1 from by kernel_rfl] at g47; exact g47
  obtain ⟨x_1_2, e50, h51⟩ := opz_str Tryz.underlying22 g47 hz49; obtain rfl := (List.cons.inj e50).1
  obtain ⟨y53, g52, hz54⟩ := hf3 2 _ rfl
  replace g52 : DataW.trod enc Tryz.prog w 0 (fun _ => true) held m2 28 [c6, c7, c8, c9] = some y53 := by rw [show Tryz.prog.cellsOf 28 = 4 from by kernel_rfl] at g52; exact g52
  obtain ⟨_, m56, hf57⟩ := opz_struct Tryz.underlying28 g52 hz54
  obtain ⟨y59, g58, hz60⟩ := hf57 0 _ rfl
  replace g58 : DataW.trod enc Tryz.prog w 0 (fun _ => true) held m56 26 [c6, c7] = some y59 := by rw [show Tryz.prog.cellsOf 26 = 2 from by kernel_rfl] at g58; exact g58
  obtain ⟨_, m62, hf63⟩ := opz_struct Tryz.underlying26 g58 hz60
  obtain ⟨y65, g64, hz66⟩ := hf63 0 _ rfl
  replace g64 : DataW.trod enc Tryz.prog w 0 (fun _ => true) held m62 22 [c6] = some y65 := by rw [show Tryz.prog.cellsOf 22 = 1 from by kernel_rfl] at g64; exact g64
  obtain ⟨x_2_0_0, e67, h68⟩ := opz_str Tryz.underlying22 g64 hz66; obtain rfl := (List.cons.inj e67).1
  obtain ⟨y70, g69, hz71⟩ := hf63 1 _ rfl
  replace g69 : DataW.trod enc Tryz.prog w 0 (fun _ => true) held m62 22 [c7] = some y70 := by rw [show Tryz.prog.cellsOf 22 = 1 from by kernel_rfl] at g69; exact g69
  obtain ⟨x_2_0_1, e72, h73⟩ := opz_str Tryz.underlying22 g69 hz71; obtain rfl := (List.cons.inj e72).1
  obtain ⟨y75, g74, hz76⟩ := hf57 1 _ rfl
  replace g74 : DataW.trod enc Tryz.prog w 0 (fun _ => true) held m56 22 [c8] = some y75 := by rw [show Tryz.prog.cellsOf 22 = 1 from by kernel_rfl] at g74; exact g74
  obtain ⟨x_2_1, e77, h78⟩ := opz_str Tryz.underlying22 g74 hz76; obtain rfl := (List.cons.inj e77).1
  obtain ⟨y80, g79, hz81⟩ := hf57 2 _ rfl
  replace g79 : DataW.trod enc Tryz.prog w 0 (fun _ => true) held m56 22 [c9] = some y80 := by rw [show Tryz.prog.cellsOf 22 = 1 from by kernel_rfl] at g79; exact g79
  obtain ⟨x_2_2, e82, h83⟩ := opz_str Tryz.underlying22 g79 hz81; obtain rfl := (List.cons.inj e82).1
  obtain ⟨y85, g84, hz86⟩ := hf3 3 _ rfl
  replace g84 : DataW.trod enc Tryz.prog w 0 (fun _ => true) held m2 22 [c10] = some y85 := by rw [show Tryz.prog.cellsOf 22 = 1 from by kernel_rfl] at g84; exact g84
  obtain ⟨x_3, e87, h88⟩ := opz_str Tryz.underlying22 g84 hz86; obtain rfl := (List.cons.inj e87).1
  obtain ⟨y90, g89, hz91⟩ := hf3 4 _ rfl
  replace g89 : DataW.trod enc Tryz.prog w 0 (fun _ => true) held m2 22 [c11] = some y90 := by rw [show Tryz.prog.cellsOf 22 = 1 from by kernel_rfl] at g89; exact g89
  obtain ⟨x_4, e92, h93⟩ := opz_str Tryz.underlying22 g89 hz91; obtain rfl := (List.cons.inj e92).1
  obtain ⟨y95, g94, hz96⟩ := hf3 5 _ rfl
  replace g94 : DataW.trod enc Tryz.prog w 0 (fun _ => true) held m2 22 [c12] = some y95 := by rw [show Tryz.prog.cellsOf 22 = 1 from by kernel_rfl] at g94; exact g94
  obtain ⟨x_5, e97, h98⟩ := opz_str Tryz.underlying22 g94 hz96; obtain rfl := (List.cons.inj e97).1
  obtain ⟨y100, g99, hz101⟩ := hf3 6 _ rfl
  replace g99 : DataW.trod enc Tryz.prog w 0 (fun _ => true) held m2 22 [c13] = some y100 := by rw [show Tryz.prog.cellsOf 22 = 1 from by kernel_rfl] at g99; exact g99
  obtain ⟨x_6, e102, h103⟩ := opz_str Tryz.underlying22 g99 hz101; obtain rfl := (List.cons.inj e102).1
  exact ⟨x_0_0, x_0_1, x_1_0_0, x_1_0_1, x_1_1, x_1_2, x_2_0_0, x_2_0_1, x_2_1, x_2_2, x_3, x_4, x_5, x_6, rfl, h14, h19, h36, h41, h46, h51, h68, h73, h78, h83, h88, h93, h98, h103⟩

set_option maxRecDepth 100000 in
theorem op_T68 {H : Type} {enc : TypeId × Value → H} {w : World} {held : Bool} {fuel : Nat} {cs : List Value} {x : DataW H × List MemPlace} (h : DataW.trod enc Tryz.prog w 0 (fun _ => true) held fuel 68 cs = some x) (hz : Wt Tryz.prog 68 x.1) :
    ∃ (x_0 : Bool) (x_1 : List UInt8), cs = [.bool x_0, .string (S x_1)] ∧ (x_1.length ≤ 140737488351232) := by
  have hl : cs.length = 2 := (op_struct Tryz.underlying68 h).1.trans (by kernel_rfl)
  obtain ⟨c0, c1, rfl⟩ : ∃ c0 c1, cs = [c0, c1] := by
    match cs, hl with
    | [c0, c1], _ => exact ⟨c0, c1, rfl⟩
  clear hl
  obtain ⟨_, m105, hf106⟩ := opz_struct Tryz.underlying68 h hz
  obtain ⟨y108, g107, hz109⟩ := hf106 0 _ rfl
  replace g107 : DataW.trod enc Tryz.prog w 0 (fun _ => true) held m105 4 [c0] = some y108 := by rw [show Tryz.prog.cellsOf 4 = 1 from by kernel_rfl] at g107; exact g107
  obtain ⟨x_0, e110⟩ := op_bool Tryz.underlying4 g107; obtain rfl := (List.cons.inj e110).1
  obtain ⟨y112, g111, hz113⟩ := hf106 1 _ rfl
  replace g111 : DataW.trod enc Tryz.prog w 0 (fun _ => true) held m105 22 [c1] = some y112 := by rw [show Tryz.prog.cellsOf 22 = 1 from by kernel_rfl] at g111; exact g111
  obtain ⟨x_1, e114, h115⟩ := opz_str Tryz.underlying22 g111 hz113; obtain rfl := (List.cons.inj e114).1
  exact ⟨x_0, x_1, rfl, h115⟩

set_option maxRecDepth 100000 in
theorem op_T32 {H : Type} {enc : TypeId × Value → H} {w : World} {held : Bool} {fuel : Nat} {cs : List Value} {x : DataW H × List MemPlace} (h : DataW.trod enc Tryz.prog w 0 (fun _ => true) held fuel 32 cs = some x) (hz : Wt Tryz.prog 32 x.1) :
    ∃ (x_0 : Sl (Zs)) (x_1 : Sl (Zs)), cs = [x_0.val, x_1.val] ∧ (x_0.l.length ≤ x_0.cap) ∧ (x_0.cap * 24 ≤ 140737488351232) ∧ ((Fact.sl x_0.a (x_0.l.flatMap zc)).holds (fun _ => True) w) ∧ ((∀ y ∈ x_0.l, (zFc w) y)) ∧ (x_1.l.length ≤ x_1.cap) ∧ (x_1.cap * 24 ≤ 140737488351232) ∧ ((Fact.sl x_1.a (x_1.l.flatMap zc)).holds (fun _ => True) w) ∧ ((∀ y ∈ x_1.l, (zFc w) y)) := by
  have hl : cs.length = 2 := (op_array Tryz.underlying32 h).1.trans (by kernel_rfl)
  obtain ⟨c0, c1, rfl⟩ : ∃ c0 c1, cs = [c0, c1] := by
    match cs, hl with
    | [c0, c1], _ => exact ⟨c0, c1, rfl⟩
  clear hl
  obtain ⟨_, m117, hf118⟩ := opz_array Tryz.underlying32 h hz
  obtain ⟨y120, g119, hz121⟩ := hf118 0 (by decide)
  replace g119 : DataW.trod enc Tryz.prog w 0 (fun _ => true) held m117 31 [c0] = some y120 := by rw [show Tryz.prog.cellsOf 31 = 1 from by kernel_rfl] at g119; exact g119
  obtain ⟨x_0, e122, h123, h124, h125, h126⟩ := opz_slice (cells := zc) (F := (zFc w)) 2 24 (by kernel_rfl) Tryz.underlying31 (by kernel_rfl) (fun _ => rfl) (fun m cs y h hz => by obtain ⟨x_0, x_1, rfl, k0⟩ := op_T68 h hz; exact ⟨Prod.mk x_0 x_1, rfl, by first | trivial | assumption | (refine ⟨?_, ?_⟩ <;> assumption) | (refine ⟨?_, ?_, ?_⟩ <;> assumption) | (refine ⟨?_, ?_, ?_, ?_⟩ <;> assumption) | (refine ⟨?_, ?_, ?_, ?_, ?_⟩ <;> assumption) | simp_all⟩) g119 hz121; obtain rfl := (List.cons.inj e122).1
  obtain ⟨y128, g127, hz129⟩ := hf118 1 (by decide)
  replace g127 : DataW.trod enc Tryz.prog w 0 (fun _ => true) held m117 31 [c1] = some y128 := by rw [show Tryz.prog.cellsOf 31 = 1 from by kernel_rfl] at g127; exact g127
  obtain ⟨x_1, e130, h131, h132, h133, h134⟩ := opz_slice (cells := zc) (F := (zFc w)) 2 24 (by kernel_rfl) Tryz.underlying31 (by kernel_rfl) (fun _ => rfl) (fun m cs y h hz => by obtain ⟨x_0, x_1, rfl, k0⟩ := op_T68 h hz; exact ⟨Prod.mk x_0 x_1, rfl, by first | trivial | assumption | (refine ⟨?_, ?_⟩ <;> assumption) | (refine ⟨?_, ?_, ?_⟩ <;> assumption) | (refine ⟨?_, ?_, ?_, ?_⟩ <;> assumption) | (refine ⟨?_, ?_, ?_, ?_, ?_⟩ <;> assumption) | simp_all⟩) g127 hz129; obtain rfl := (List.cons.inj e130).1
  exact ⟨x_0, x_1, rfl, h123, h124, h125, h126, h131, h132, h133, h134⟩

set_option maxRecDepth 100000 in
theorem op_T35 {H : Type} {enc : TypeId × Value → H} {w : World} {held : Bool} {fuel : Nat} {cs : List Value} {x : DataW H × List MemPlace} (h : DataW.trod enc Tryz.prog w 0 (fun _ => true) held fuel 35 cs = some x) (hz : Wt Tryz.prog 35 x.1) :
    ∃ (x_0 : Sl (List UInt8)) (x_1 : List UInt8) (x_2 : Int), cs = [x_0.val, .string (S x_1), .int .i64 x_2] ∧ (x_0.l.length ≤ x_0.cap) ∧ (x_0.cap * 16 ≤ 140737488351232) ∧ ((Fact.sl x_0.a (x_0.l.map fun x => .string (S x))).holds (fun _ => True) w) ∧ ((∀ y ∈ x_0.l, (fun s : List UInt8 => s.length ≤ 140737488351232) y)) ∧ (x_1.length ≤ 140737488351232) ∧ ((Lit.int .i64 x_2).wf = true) := by
  have hl : cs.length = 3 := (op_struct Tryz.underlying35 h).1.trans (by kernel_rfl)
  obtain ⟨c0, c1, c2, rfl⟩ : ∃ c0 c1 c2, cs = [c0, c1, c2] := by
    match cs, hl with
    | [c0, c1, c2], _ => exact ⟨c0, c1, c2, rfl⟩
  clear hl
  obtain ⟨_, m136, hf137⟩ := opz_struct Tryz.underlying35 h hz
  obtain ⟨y139, g138, hz140⟩ := hf137 0 _ rfl
  replace g138 : DataW.trod enc Tryz.prog w 0 (fun _ => true) held m136 33 [c0] = some y139 := by rw [show Tryz.prog.cellsOf 33 = 1 from by kernel_rfl] at g138; exact g138
  obtain ⟨x_0, e141, h142, h143, h144, h145⟩ := opz_slice (cells := (fun s => [.string (S s)])) (F := (fun s : List UInt8 => s.length ≤ 140737488351232)) 1 16 (by kernel_rfl) Tryz.underlying33 (by kernel_rfl) (fun _ => rfl) (fun m cs y h hz => opz_str Tryz.underlying22 h hz) g138 hz140; obtain rfl := (List.cons.inj e141).1
  replace h144 := sl_map h144
  obtain ⟨y147, g146, hz148⟩ := hf137 1 _ rfl
  replace g146 : DataW.trod enc Tryz.prog w 0 (fun _ => true) held m136 9 [c1] = some y147 := by rw [show Tryz.prog.cellsOf 9 = 1 from by kernel_rfl] at g146; exact g146
  obtain ⟨x_1, e149, h150⟩ := opz_str Tryz.underlying9 g146 hz148; obtain rfl := (List.cons.inj e149).1
  obtain ⟨y152, g151, hz153⟩ := hf137 2 _ rfl
  replace g151 : DataW.trod enc Tryz.prog w 0 (fun _ => true) held m136 3 [c2] = some y152 := by rw [show Tryz.prog.cellsOf 3 = 1 from by kernel_rfl] at g151; exact g151
  obtain ⟨x_2, e154, h155⟩ := op_int Tryz.underlying3 g151; obtain rfl := (List.cons.inj e154).1
  exact ⟨x_0, x_1, x_2, rfl, h142, h143, h144, h145, h150, h155⟩

theorem tab {W : World} (h : laidMetH Tryz.prog Rows.topCrossHidesRow.laid W) : Tab W := by
  rw [MakeChecks.laidMetH_plain _ _ _ (by kernel_rfl)] at h
  obtain ⟨ps, h, _⟩ := h
  obtain ⟨_, h⟩ := laidVars_tail h
  obtain ⟨_, h⟩ := laidVars_tail h
  exact tab_of_vars (by kernel_rfl) Tryz.underlying367 Tryz.underlying129 (by kernel_rfl) (by kernel_rfl) h

theorem reads (os : Os) {H : Type} (enc : TypeId × Value → H) : ∃ places, DataW.whole enc Tryz.prog ((World.laidAll Tryz.prog os Rows.topCrossHidesRow.laid).forCall (fun _ _ => 0) ⟨#[], #[(.agg #[.string (S []), .string (S []), .string (S []), .string (S []), .string (S []), .string (S []), .string (S []), .string (S []), .string (S []), .string (S []), .string (S []), .string (S []), .string (S []), .string (S [])]), (.agg #[.slice none 0 0, .slice none 0 0]), (.agg #[.slice none 0 0, .string (S []), .int .i64 0])], []⟩).memory Tryz.f3.params.toList Rows.topCrossHidesSpec.vars false #[(.agg #[.string (S []), .string (S []), .string (S []), .string (S []), .string (S []), .string (S []), .string (S []), .string (S []), .string (S []), .string (S []), .string (S []), .string (S []), .string (S []), .string (S [])]), (.agg #[.slice none 0 0, .slice none 0 0]), (.agg #[.slice none 0 0, .string (S []), .int .i64 0])].toList 8 = some ([.agg [.agg [.lit (.string []), .lit (.string [])], .agg [.agg [.lit (.string []), .lit (.string [])], .lit (.string []), .lit (.string [])], .agg [.agg [.lit (.string []), .lit (.string [])], .lit (.string []), .lit (.string [])], .lit (.string []), .lit (.string []), .lit (.string []), .lit (.string [])], .agg [.nil, .nil], .agg [.nil, .lit (.string []), .lit (.int .i64 0)]], [], places) :=
  ⟨[], by kernel_rfl⟩

theorem met (os : Os) : laidMetH Tryz.prog Rows.topCrossHidesRow.laid ((World.laidAll Tryz.prog os Rows.topCrossHidesRow.laid).forCall (fun _ _ => 0) ⟨#[], #[(.agg #[.string (S []), .string (S []), .string (S []), .string (S []), .string (S []), .string (S []), .string (S []), .string (S []), .string (S []), .string (S []), .string (S []), .string (S []), .string (S []), .string (S [])]), (.agg #[.slice none 0 0, .slice none 0 0]), (.agg #[.slice none 0 0, .string (S []), .int .i64 0])], []⟩).memory := by
  rw [MakeChecks.laidMetH_plain _ _ _ (by kernel_rfl)]; exact laidMet_laidAll _ (by kernel_rfl) (by kernel_rfl)

theorem sized (os : Os) {H : Type} (enc : TypeId × Value → H) : (OpenSpec.ofChange Rows.topCrossHidesSpec).bare.sizedB enc Tryz.prog Tryz.f3 false ((World.laidAll Tryz.prog os Rows.topCrossHidesRow.laid).forCall (fun _ _ => 0) ⟨#[], #[(.agg #[.string (S []), .string (S []), .string (S []), .string (S []), .string (S []), .string (S []), .string (S []), .string (S []), .string (S []), .string (S []), .string (S []), .string (S []), .string (S []), .string (S [])]), (.agg #[.slice none 0 0, .slice none 0 0]), (.agg #[.slice none 0 0, .string (S []), .int .i64 0])], []⟩).memory #[(.agg #[.string (S []), .string (S []), .string (S []), .string (S []), .string (S []), .string (S []), .string (S []), .string (S []), .string (S []), .string (S []), .string (S []), .string (S []), .string (S []), .string (S [])]), (.agg #[.slice none 0 0, .slice none 0 0]), (.agg #[.slice none 0 0, .string (S []), .int .i64 0])] 8 = true := by kernel_rfl

theorem prerow (os : Os) {H : Type} (enc : TypeId × Value → H) : (OpenSpec.ofChange Rows.topCrossHidesSpec).preRow enc Tryz.prog Tryz.f3 Rows.topCrossHidesRow.domain false Rows.topCrossHidesRow.laid ((World.laidAll Tryz.prog os Rows.topCrossHidesRow.laid).forCall (fun _ _ => 0) ⟨#[], #[(.agg #[.string (S []), .string (S []), .string (S []), .string (S []), .string (S []), .string (S []), .string (S []), .string (S []), .string (S []), .string (S []), .string (S []), .string (S []), .string (S []), .string (S [])]), (.agg #[.slice none 0 0, .slice none 0 0]), (.agg #[.slice none 0 0, .string (S []), .int .i64 0])], []⟩).memory #[(.agg #[.string (S []), .string (S []), .string (S []), .string (S []), .string (S []), .string (S []), .string (S []), .string (S []), .string (S []), .string (S []), .string (S []), .string (S []), .string (S []), .string (S [])]), (.agg #[.slice none 0 0, .slice none 0 0]), (.agg #[.slice none 0 0, .string (S []), .int .i64 0])] := by
  obtain ⟨places, hx⟩ := reads os enc
  exact OpenSpec.preRow_of_cond 8 hx (by kernel_rfl) (fun k hk => by cases hk) (sized os enc) (met os)

theorem there (os : Os) {H : Type} (enc : TypeId × Value → H) : ∃ (w : World) (tape : Tape) (i : Input), w.os = os ∧ (w.forCall tape i).Shaped Tryz.checked.prog ∧ i.vars = [] ∧ Input.okWide Tryz.checked.prog (w.forCall tape i) .any w.heap.size 3 i ∧ (OpenSpec.ofChange Rows.topCrossHidesSpec).preRow enc Tryz.checked.prog Tryz.f3 Rows.topCrossHidesRow.domain false Rows.topCrossHidesRow.laid (w.forCall tape i).memory i.args ∧ ({ modest := false } : Assume).holds Tryz.checked.prog (lone (Frame.enter Tryz.checked.prog 3 i.args .normal) [] (w.forCall tape i)) :=
  witness_row_at (enc := enc) (C := Tryz.checked) (fn := Tryz.f3) (s := OpenSpec.ofChange Rows.topCrossHidesSpec) (conds := Rows.topCrossHidesRow.domain) (apart := false) (laid := Rows.topCrossHidesRow.laid) false (World.laidAll Tryz.prog os Rows.topCrossHidesRow.laid) #[(.agg #[.string (S []), .string (S []), .string (S []), .string (S []), .string (S []), .string (S []), .string (S []), .string (S []), .string (S []), .string (S []), .string (S []), .string (S []), .string (S []), .string (S [])]), (.agg #[.slice none 0 0, .slice none 0 0]), (.agg #[.slice none 0 0, .string (S []), .int .i64 0])] (World.laidAll_os _ _ _) (by kernel_rfl) (by kernel_rfl) (by kernel_rfl) (prerow os enc)

set_option maxHeartbeats 1000000 in
set_option maxRecDepth 100000 in
theorem lifted (os : Os) (started : os.Started) (H : Type) (enc : TypeId × Value → H) (F : Stop.Interp) :
    ReturnsInHanded {} Tryz.checked os 3 .any ((OpenSpec.ofChange Rows.topCrossHidesSpec).preRow enc Tryz.prog Tryz.f3 Rows.topCrossHidesRow.domain false Rows.topCrossHidesRow.laid) (((OpenSpec.ofChange Rows.topCrossHidesSpec).at F).post enc Tryz.prog Tryz.f3 false true false false) := by
  refine returnsInHanded_of_row (C := Tryz.checked) (s := OpenSpec.ofChange Rows.topCrossHidesSpec) own started (by kernel_rfl) Tryz.func3 (there os enc) ?_
  intro W base args ds gs before hval0 hW hcnd _ hwt0 hL _ _
  have hTab : True → Tab W := fun _ => tab hL
  clear hL
  have hval : ∀ (j : Nat) t v, Tryz.f3.params[j]? = some t → args[j]? = some v → Value.okWide Tryz.prog W .any base t v := hval0
  have hW' := hW
  obtain ⟨p, q, hA0, hV, rfl, hfz, hnd⟩ := hW
  have hA : DataW.TrodAll enc Tryz.prog W 0 (fun _ => true) true Tryz.f3.params.toList args.toList ds p := hA0
  rw [Tryz.params3] at hA hval
  obtain ⟨v0, vs0, d0, ds0, p0, q0, hargs, rfl, rfl, h0, r0⟩ := trodAll_cons hA
  obtain ⟨v1, vs1, d1, ds1, p1, q1, rfl, rfl, rfl, h1, r1⟩ := trodAll_cons r0
  obtain ⟨v2, vs2, d2, ds2, p2, q2, rfl, rfl, rfl, h2, r2⟩ := trodAll_cons r1
  obtain ⟨rfl, rfl, rfl⟩ := trodAll_nil r2
  obtain rfl : args = #[v0, v1, v2] := by cases args; simp_all
  obtain ⟨rfl, rfl⟩ := trodVars_none hV
  have w0 : Wt Tryz.prog 30 d0 := wt_all hwt0 (j := 0) (by rw [Tryz.params3]; rfl) rfl
  have w1 : Wt Tryz.prog 32 d1 := wt_all hwt0 (j := 1) (by rw [Tryz.params3]; rfl) rfl
  have w2 : Wt Tryz.prog 35 d2 := wt_all hwt0 (j := 2) (by rw [Tryz.params3]; rfl) rfl
  have k0 := h0
  obtain ⟨fu0, f0⟩ := h0
  obtain ⟨cs0, rfl, hz0⟩ : ∃ cs, v0 = .agg cs ∧ cs.size = Tryz.prog.cellsOf 30 := by have q := (hval 0 30 v0 rfl rfl); simp only [Value.okWide, Tryz.underlying30] at q; obtain ⟨cs, q1, q2, _⟩ := q; exact ⟨cs, q1, q2⟩
  obtain ⟨a0_0_0, a0_0_1, a0_1_0_0, a0_1_0_1, a0_1_1, a0_1_2, a0_2_0_0, a0_2_0_1, a0_2_1, a0_2_2, a0_3, a0_4, a0_5, a0_6, e0, z0_0, z0_1, z0_2, z0_3, z0_4, z0_5, z0_6, z0_7, z0_8, z0_9, z0_10, z0_11, z0_12, z0_13⟩ := op_T30 f0 w0
  obtain rfl : cs0 = #[.string (S a0_0_0), .string (S a0_0_1), .string (S a0_1_0_0), .string (S a0_1_0_1), .string (S a0_1_1), .string (S a0_1_2), .string (S a0_2_0_0), .string (S a0_2_0_1), .string (S a0_2_1), .string (S a0_2_2), .string (S a0_3), .string (S a0_4), .string (S a0_5), .string (S a0_6)] := Array.ext' e0
  have k1 := h1
  obtain ⟨fu1, f1⟩ := h1
  obtain ⟨cs1, rfl, hz1⟩ : ∃ cs, v1 = .agg cs ∧ cs.size = Tryz.prog.cellsOf 32 := by have q := (hval 1 32 v1 rfl rfl); simp only [Value.okWide, Tryz.underlying32] at q; obtain ⟨cs, q1, q2, _⟩ := q; exact ⟨cs, q1, q2⟩
  obtain ⟨a1_0, a1_1, e1, z1_0, z1_1, z1_2, z1_3, z1_4, z1_5, z1_6, z1_7⟩ := op_T32 f1 w1
  obtain rfl : cs1 = #[a1_0.val, a1_1.val] := Array.ext' e1
  have k2 := h2
  obtain ⟨fu2, f2⟩ := h2
  obtain ⟨cs2, rfl, hz2⟩ : ∃ cs, v2 = .agg cs ∧ cs.size = Tryz.prog.cellsOf 35 := by have q := (hval 2 35 v2 rfl rfl); simp only [Value.okWide, Tryz.underlying35] at q; obtain ⟨cs, q1, q2, _⟩ := q; exact ⟨cs, q1, q2⟩
  obtain ⟨a2_0, a2_1, a2_2, e2, z2_0, z2_1, z2_2, z2_3, z2_4, z2_5⟩ := op_T35 f2 w2
  obtain rfl : cs2 = #[a2_0.val, .string (S a2_1), .int .i64 a2_2] := Array.ext' e2
  clear hA0 hval0
  have hcall : Calls Tryz.prog 3 #[.agg #[.string (S a0_0_0), .string (S a0_0_1), .string (S a0_1_0_0), .string (S a0_1_0_1), .string (S a0_1_1), .string (S a0_1_2), .string (S a0_2_0_0), .string (S a0_2_0_1), .string (S a0_2_1), .string (S a0_2_2), .string (S a0_3), .string (S a0_4), .string (S a0_5), .string (S a0_6)], .agg #[a1_0.val, a1_1.val], .agg #[a2_0.val, .string (S a2_1), .int .i64 a2_2]] W (fun e w' => e = .returned (.bool true) ∧ Below W.heap.size W w') := tcross_l (x := ⟨(a0_0_0, a0_0_1), ((a0_1_0_0, a0_1_0_1), a0_1_1, a0_1_2), ((a0_2_0_0, a0_2_0_1), a0_2_1, a0_2_2), a0_3, a0_4, a0_5, a0_6⟩) (p := a1_0.l) (q := a1_1.l) (pa := a1_0.a) (qa := a1_1.a) (pc := a1_0.cap) (qc := a1_1.cap) (t := ⟨a2_0.l, a2_1, a2_2⟩) (ta := a2_0.a) (tc := a2_0.cap) (by first | assumption | rfl | omega | (have := wf_u8 (by assumption); omega) | (have := wf_i64 (by assumption); omega) | (simp [maxLen] at *; omega) | (intro y hy; exact (‹∀ y ∈ _, _› y hy))) (by first | assumption | rfl | omega | (have := wf_u8 (by assumption); omega) | (have := wf_i64 (by assumption); omega) | (simp [maxLen] at *; omega) | (intro y hy; exact (‹∀ y ∈ _, _› y hy))) (by first | assumption | rfl | omega | (have := wf_u8 (by assumption); omega) | (have := wf_i64 (by assumption); omega) | (simp [maxLen] at *; omega) | (intro y hy; exact (‹∀ y ∈ _, _› y hy))) (by first | assumption | rfl | omega | (have := wf_u8 (by assumption); omega) | (have := wf_i64 (by assumption); omega) | (simp [maxLen] at *; omega) | (intro y hy; exact (‹∀ y ∈ _, _› y hy))) (by first | assumption | rfl | omega | (have := wf_u8 (by assumption); omega) | (have := wf_i64 (by assumption); omega) | (simp [maxLen] at *; omega) | (intro y hy; exact (‹∀ y ∈ _, _› y hy))) (by first | assumption | rfl | omega | (have := wf_u8 (by assumption); omega) | (have := wf_i64 (by assumption); omega) | (simp [maxLen] at *; omega) | (intro y hy; exact (‹∀ y ∈ _, _› y hy))) (hTab trivial)
  refine hcall.mono fun e W' ⟨he, bel⟩ => ?_
  subst he
  exact ⟨_, rfl, _, _, _, [], _, [], hW', trodAll_mk1 (shut_bool Tryz.underlying4 _), (trodAll_cons_mk (Below.trod laid (by kernel_rfl) (of_decide_eq_true (by kernel_rfl)) k0 bel (fun x hx => hW'.lt x (by simp [hx]))) (trodAll_cons_mk (Below.trod laid (by kernel_rfl) (of_decide_eq_true (by kernel_rfl)) k1 bel (fun x hx => hW'.lt x (by simp [hx]))) (trodAll_cons_mk (Below.trod laid (by kernel_rfl) (of_decide_eq_true (by kernel_rfl)) k2 bel (fun x hx => hW'.lt x (by simp [hx]))) trodAll_mk0))), rfl, bel.frame _, fun h => by cases h⟩

end Go.Proofs.YtchonigdjamphaaGreatDoor.topCrossHides
