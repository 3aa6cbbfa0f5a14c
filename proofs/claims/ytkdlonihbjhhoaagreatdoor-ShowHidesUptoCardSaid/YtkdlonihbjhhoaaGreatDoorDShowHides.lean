/-
  The statement ShowHides out of the walk of its Go function.
-/
import Derived.Test.YtkdlonihbjhhoaaGreatDoorCards
import Derived.Test.YtkdlonihbjhhoaaGreatDoorTie
import Derived.Test.YtkdlonihbjhhoaaGreatDoorG22
import Derived.WalkKit
import Derived.ProofKit
import Derived.OpenShut
import Derived.ShutString
import Derived.ChangeOld
import Derived.Below
import Derived.Deep.DeepHandedRow
import Derived.Lay
import Derived.LaidMore
namespace Go.Proofs.YtkdlonihbjhhoaaGreatDoor.showHides
open Go.ChangeShapes Go.WideShapes Go.ChangeAt Go.RowKit
set_option linter.unusedVariables false
set_option linter.unusedSimpArgs false

theorem laid : laidOutB Tryz.prog = true := by kernel_rfl

theorem own : ownKnob Tryz.prog.godebug = none := by kernel_rfl

set_option maxRecDepth 100000 in
theorem op_T30 {H : Type} {enc : TypeId × Value → H} {w : World} {held : Bool} {fuel : Nat} {cs : List Value} {x : DataW H × List MemPlace} (h : DataW.trod enc Tryz.prog w 0 (fun _ => true) held fuel 30 cs = some x) (hz : Wu Tryz.prog 30 x.1) :
    ∃ (x_0_0 : List UInt8) (x_0_1 : List UInt8) (x_1_0_0 : List UInt8) (x_1_0_1 : List UInt8) (x_1_1 : List UInt8) (x_1_2 : List UInt8) (x_2_0_0 : List UInt8) (x_2_0_1 : List UInt8) (x_2_1 : List UInt8) (x_2_2 : List UInt8) (x_3 : List UInt8) (x_4 : List UInt8) (x_5 : List UInt8) (x_6 : List UInt8) (x_7 : List UInt8) (x_8 : List UInt8) (x_9 : List UInt8), cs = [.string (S x_0_0), .string (S x_0_1), .string (S x_1_0_0), .string (S x_1_0_1), .string (S x_1_1), .string (S x_1_2), .string (S x_2_0_0), .string (S x_2_0_1), .string (S x_2_1), .string (S x_2_2), .string (S x_3), .string (S x_4), .string (S x_5), .string (S x_6), .string (S x_7), .string (S x_8), .string (S x_9)] ∧ (x_0_0.length ≤ 140737488351232) ∧ (x_0_1.length ≤ 140737488351232) ∧ (x_1_0_0.length ≤ 140737488351232) ∧ (x_1_0_1.length ≤ 140737488351232) ∧ (x_1_1.length ≤ 140737488351232) ∧ (x_1_2.length ≤ 140737488351232) ∧ (x_2_0_0.length ≤ 140737488351232) ∧ (x_2_0_1.length ≤ 140737488351232) ∧ (x_2_1.length ≤ 140737488351232) ∧ (x_2_2.length ≤ 140737488351232) ∧ (x_3.length ≤ 140737488351232) ∧ (x_4.length ≤ 140737488351232) ∧ (x_5.length ≤ 140737488351232) ∧ (x_6.length ≤ 140737488351232) ∧ (x_7.length ≤ 140737488351232) ∧ (x_8.length ≤ 140737488351232) ∧ (x_9.length ≤ 140737488351232) := by
  have hl : cs.length = 17 := (op_struct Tryz.underlying30 h).1.trans (by kernel_rfl)
  obtain ⟨c0, c1, c2, c3, c4, c5, c6, c7, c8, c9, c10, c11, c12, c13, c14, c15, c16, rfl⟩ : ∃ c0 c1 c2 c3 c4 c5 c6 c7 c8 c9 c10 c11 c12 c13 c14 c15 c16, cs = [c0, c1, c2, c3, c4, c5, c6, c7, c8, c9, c10, c11, c12, c13, c14, c15, c16] := by
    match cs, hl with
    | [c0, c1, c2, c3, c4, c5, c6, c7, c8, c9, c10, c11, c12, c13, c14, c15, c16], _ => exact ⟨c0, c1, c2, c3, c4, c5, c6, c7, c8, c9, c10, c11, c12, c13, c14, c15, c16, rfl⟩
  clear hl
  obtain ⟨_, m2, hf3⟩ := opu_struct Tryz.underlying30 h hz
  obtain ⟨y5, g4, hz6⟩ := hf3 0 _ rfl
  replace g4 : DataW.trod enc Tryz.prog w 0 (fun _ => true) held m2 24 [c0, c1] = some y5 := by rw [show Tryz.prog.cellsOf 24 = 2 from by kernel_rfl] at g4; exact g4
  obtain ⟨_, m8, hf9⟩ := opu_struct Tryz.underlying24 g4 hz6
  obtain ⟨y11, g10, hz12⟩ := hf9 0 _ rfl
  replace g10 : DataW.trod enc Tryz.prog w 0 (fun _ => true) held m8 22 [c0] = some y11 := by rw [show Tryz.prog.cellsOf 22 = 1 from by kernel_rfl] at g10; exact g10
  obtain ⟨x_0_0, e13, h14⟩ := opu_str Tryz.underlying22 g10 hz12; obtain rfl := (List.cons.inj e13).1
  obtain ⟨y16, g15, hz17⟩ := hf9 1 _ rfl
  replace g15 : DataW.trod enc Tryz.prog w 0 (fun _ => true) held m8 22 [c1] = some y16 := by rw [show Tryz.prog.cellsOf 22 = 1 from by kernel_rfl] at g15; exact g15
  obtain ⟨x_0_1, e18, h19⟩ := opu_str Tryz.underlying22 g15 hz17; obtain rfl := (List.cons.inj e18).1
  obtain ⟨y21, g20, hz22⟩ := hf3 1 _ rfl
  replace g20 : DataW.trod enc Tryz.prog w 0 (fun _ => true) held m2 28 [c2, c3, c4, c5] = some y21 := by rw [show Tryz.prog.cellsOf 28 = 4 from by kernel_rfl] at g20; exact g20
  obtain ⟨_, m24, hf25⟩ := opu_struct Tryz.underlying28 g20 hz22
  obtain ⟨y27, g26, hz28⟩ := hf25 0 _ rfl
  replace g26 : DataW.trod enc Tryz.prog w 0 (fun _ => true) held m24 26 [c2, c3] = some y27 := by rw [show Tryz.prog.cellsOf 26 = 2 from by kernel_rfl] at g26; exact g26
  obtain ⟨_, m30, hf31⟩ := opu_struct Tryz.underlying26 g26 hz28
  obtain ⟨y33, g32, hz34⟩ := hf31 0 _ rfl
  replace g32 : DataW.trod enc Tryz.prog w 0 (fun _ => true) held m30 22 [c2] = some y33 := by rw [show Tryz.prog.cellsOf 22 = 1 from by kernel_rfl] at g32; exact g32
  obtain ⟨x_1_0_0, e35, h36⟩ := opu_str Tryz.underlying22 g32 hz34; obtain rfl := (List.cons.inj e35).1
  obtain ⟨y38, g37, hz39⟩ := hf31 1 _ rfl
  replace g37 : DataW.trod enc Tryz.prog w 0 (fun _ => true) held m30 22 [c3] = some y38 := by rw [show Tryz.prog.cellsOf 22 = 1 from by kernel_rfl] at g37; exact g37
  obtain ⟨x_1_0_1, e40, h41⟩ := opu_str Tryz.underlying22 g37 hz39; obtain rfl := (List.cons.inj e40).1
  obtain ⟨y43, g42, hz44⟩ := hf25 1 _ rfl
  replace g42 : DataW.trod enc Tryz.prog w 0 (fun _ => true) held m24 22 [c4] = some y43 := by rw [show Tryz.prog.cellsOf 22 = 1 from by kernel_rfl] at g42; exact g42
  obtain ⟨x_1_1, e45, h46⟩ := opu_str Tryz.underlying22 g42 hz44; obtain rfl := (List.cons.inj e45).1
  obtain ⟨y48, g47, hz49⟩ := hf25 2 _ rfl
  replace g47 : DataW.trod enc Tryz.prog w 0 (fun _ => true) held m24 22 [c5] = some y48 := by rw [show Tryz.prog.cellsOf 22 = 1 from by kernel_rfl] at g47; exact g47
  obtain ⟨x_1_2, e50, h51⟩ := opu_str Tryz.underlying22 g47 hz49; obtain rfl := (List.cons.inj e50).1
  obtain ⟨y53, g52, hz54⟩ := hf3 2 _ rfl
  replace g52 : DataW.trod enc Tryz.prog w 0 (fun _ => true) held m2 28 [c6, c7, c8, c9] = some y53 := by rw [show Tryz.prog.cellsOf 28 = 4 from by kernel_rfl] at g52; exact g52
  obtain ⟨_, m56, hf57⟩ := opu_struct Tryz.underlying28 g52 hz54
  obtain ⟨y59, g58, hz60⟩ := hf57 0 _ rfl
  replace g58 : DataW.trod enc Tryz.prog w 0 (fun _ => true) held m56 26 [c6, c7] = some y59 := by rw [show Tryz.prog.cellsOf 26 = 2 from by kernel_rfl] at g58; exact g58
  obtain ⟨_, m62, hf63⟩ := opu_struct Tryz.underlying26 g58 hz60
  obtain ⟨y65, g64, hz66⟩ := hf63 0 _ rfl
  replace g64 : DataW.trod enc Tryz.prog w 0 (fun _ => true) held m62 22 [c6] = some y65 := by rw [show Tryz.prog.cellsOf 22 = 1 from by kernel_rfl] at g64; exact g64
  obtain ⟨x_2_0_0, e67, h68⟩ := opu_str Tryz.underlying22 g64 hz66; obtain rfl := (List.cons.inj e67).1
  obtain ⟨y70, g69, hz71⟩ := hf63 1 _ rfl
  replace g69 : DataW.trod enc Tryz.prog w 0 (fun _ => true) held m62 22 [c7] = some y70 := by rw [show Tryz.prog.cellsOf 22 = 1 from by kernel_rfl] at g69; exact g69
  obtain ⟨x_2_0_1, e72, h73⟩ := opu_str Tryz.underlying22 g69 hz71; obtain rfl := (List.cons.inj e72).1
  obtain ⟨y75, g74, hz76⟩ := hf57 1 _ rfl
  replace g74 : DataW.trod enc Tryz.prog w 0 (fun _ => true) held m56 22 [c8] = some y75 := by rw [show Tryz.prog.cellsOf 22 = 1 from by kernel_rfl] at g74; exact g74
  obtain ⟨x_2_1, e77, h78⟩ := opu_str Tryz.underlying22 g74 hz76; obtain rfl := (List.cons.inj e77).1
  obtain ⟨y80, g79, hz81⟩ := hf57 2 _ rfl
  replace g79 : DataW.trod enc Tryz.prog w 0 (fun _ => true) held m56 22 [c9] = some y80 := by rw [show Tryz.prog.cellsOf 22 = 1 from by kernel_rfl] at g79; exact g79
  obtain ⟨x_2_2, e82, h83⟩ := opu_str Tryz.underlying22 g79 hz81; obtain rfl := (List.cons.inj e82).1
  obtain ⟨y85, g84, hz86⟩ := hf3 3 _ rfl
  replace g84 : DataW.trod enc Tryz.prog w 0 (fun _ => true) held m2 22 [c10] = some y85 := by rw [show Tryz.prog.cellsOf 22 = 1 from by kernel_rfl] at g84; exact g84
  obtain ⟨x_3, e87, h88⟩ := opu_str Tryz.underlying22 g84 hz86; obtain rfl := (List.cons.inj e87).1
  obtain ⟨y90, g89, hz91⟩ := hf3 4 _ rfl
  replace g89 : DataW.trod enc Tryz.prog w 0 (fun _ => true) held m2 22 [c11] = some y90 := by rw [show Tryz.prog.cellsOf 22 = 1 from by kernel_rfl] at g89; exact g89
  obtain ⟨x_4, e92, h93⟩ := opu_str Tryz.underlying22 g89 hz91; obtain rfl := (List.cons.inj e92).1
  obtain ⟨y95, g94, hz96⟩ := hf3 5 _ rfl
  replace g94 : DataW.trod enc Tryz.prog w 0 (fun _ => true) held m2 22 [c12] = some y95 := by rw [show Tryz.prog.cellsOf 22 = 1 from by kernel_rfl] at g94; exact g94
  obtain ⟨x_5, e97, h98⟩ := opu_str Tryz.underlying22 g94 hz96; obtain rfl := (List.cons.inj e97).1
  obtain ⟨y100, g99, hz101⟩ := hf3 6 _ rfl
  replace g99 : DataW.trod enc Tryz.prog w 0 (fun _ => true) held m2 22 [c13] = some y100 := by rw [show Tryz.prog.cellsOf 22 = 1 from by kernel_rfl] at g99; exact g99
  obtain ⟨x_6, e102, h103⟩ := opu_str Tryz.underlying22 g99 hz101; obtain rfl := (List.cons.inj e102).1
  obtain ⟨y105, g104, hz106⟩ := hf3 7 _ rfl
  replace g104 : DataW.trod enc Tryz.prog w 0 (fun _ => true) held m2 22 [c14] = some y105 := by rw [show Tryz.prog.cellsOf 22 = 1 from by kernel_rfl] at g104; exact g104
  obtain ⟨x_7, e107, h108⟩ := opu_str Tryz.underlying22 g104 hz106; obtain rfl := (List.cons.inj e107).1
  obtain ⟨y110, g109, hz111⟩ := hf3 8 _ rfl
  replace g109 : DataW.trod enc Tryz.prog w 0 (fun _ => true) held m2 22 [c15] = some y110 := by rw [show Tryz.prog.cellsOf 22 = 1 from by kernel_rfl] at g109; exact g109
  obtain ⟨x_8, e112, h113⟩ := opu_str Tryz.underlying22 g109 hz111; obtain rfl := (List.cons.inj e112).1
  obtain ⟨y115, g114, hz116⟩ := hf3 9 _ rfl
  replace g114 : DataW.trod enc Tryz.prog w 0 (fun _ => true) held m2 22 [c16] = some y115 := by rw [show Tryz.prog.cellsOf 22 = 1 from by kernel_rfl] at g114; exact g114
  obtain ⟨x_9, e117, h118⟩ := opu_str Tryz.underlying22 g114 hz116; obtain rfl := (List.cons.inj e117).1
  exact ⟨x_0_0, x_0_1, x_1_0_0, x_1_0_1, x_1_1, x_1_2, x_2_0_0, x_2_0_1, x_2_1, x_2_2, x_3, x_4, x_5, x_6, x_7, x_8, x_9, rfl, h14, h19, h36, h41, h46, h51, h68, h73, h78, h83, h88, h93, h98, h103, h108, h113, h118⟩

set_option maxRecDepth 100000 in
theorem op_T33 {H : Type} {enc : TypeId × Value → H} {w : World} {held : Bool} {fuel : Nat} {cs : List Value} {x : DataW H × List MemPlace} (h : DataW.trod enc Tryz.prog w 0 (fun _ => true) held fuel 33 cs = some x) (hz : Wu Tryz.prog 33 x.1) :
    ∃ (x_0 : List UInt8) (x_1_0 : List UInt8) (x_1_1 : List UInt8) (x_2 : List UInt8) (x_3 : List UInt8) (x_4 : Sl (List UInt8)) (x_5 : List UInt8) (x_6 : List UInt8), cs = [.string (S x_0), .string (S x_1_0), .string (S x_1_1), .string (S x_2), .string (S x_3), x_4.val, .string (S x_5), .string (S x_6)] ∧ (x_0.length ≤ 140737488351232) ∧ (x_1_0.length ≤ 140737488351232) ∧ (x_1_1.length ≤ 140737488351232) ∧ (x_2.length ≤ 140737488351232) ∧ (x_3.length ≤ 140737488351232) ∧ (x_4.l.length ≤ x_4.cap) ∧ (x_4.cap * 16 ≤ 140737488351232) ∧ (x_4.l.length ≤ 1048576) ∧ ((Fact.sl x_4.a (x_4.l.map fun x => .string (S x))).holds (fun _ => True) w) ∧ ((∀ y ∈ x_4.l, (fun s : List UInt8 => s.length ≤ 140737488351232) y)) ∧ (x_5.length ≤ 140737488351232) ∧ (x_6.length ≤ 140737488351232) := by
  have hl : cs.length = 8 := (op_struct Tryz.underlying33 h).1.trans (by kernel_rfl)
  obtain ⟨c0, c1, c2, c3, c4, c5, c6, c7, rfl⟩ : ∃ c0 c1 c2 c3 c4 c5 c6 c7, cs = [c0, c1, c2, c3, c4, c5, c6, c7] := by
    match cs, hl with
    | [c0, c1, c2, c3, c4, c5, c6, c7], _ => exact ⟨c0, c1, c2, c3, c4, c5, c6, c7, rfl⟩
  clear hl
  obtain ⟨_, m120, hf121⟩ := opu_struct Tryz.underlying33 h hz
  obtain ⟨y123, g122, hz124⟩ := hf121 0 _ rfl
  replace g122 : DataW.trod enc Tryz.prog w 0 (fun _ => true) held m120 9 [c0] = some y123 := by rw [show Tryz.prog.cellsOf 9 = 1 from by kernel_rfl] at g122; exact g122
  obtain ⟨x_0, e125, h126⟩ := opu_str Tryz.underlying9 g122 hz124; obtain rfl := (List.cons.inj e125).1
  obtain ⟨y128, g127, hz129⟩ := hf121 1 _ rfl
  replace g127 : DataW.trod enc Tryz.prog w 0 (fun _ => true) held m120 26 [c1, c2] = some y128 := by rw [show Tryz.prog.cellsOf 26 = 2 from by kernel_rfl] at g127; exact g127
  obtain ⟨_, m131, hf132⟩ := opu_struct Tryz.underlying26 g127 hz129
  obtain ⟨y134, g133, hz135⟩ := hf132 0 _ rfl
  replace g133 : DataW.trod enc Tryz.prog w 0 (fun _ => true) held m131 22 [c1] = some y134 := by rw [show Tryz.prog.cellsOf 22 = 1 from by kernel_rfl] at g133; exact g133
  obtain ⟨x_1_0, e136, h137⟩ := opu_str Tryz.underlying22 g133 hz135; obtain rfl := (List.cons.inj e136).1
  obtain ⟨y139, g138, hz140⟩ := hf132 1 _ rfl
  replace g138 : DataW.trod enc Tryz.prog w 0 (fun _ => true) held m131 22 [c2] = some y139 := by rw [show Tryz.prog.cellsOf 22 = 1 from by kernel_rfl] at g138; exact g138
  obtain ⟨x_1_1, e141, h142⟩ := opu_str Tryz.underlying22 g138 hz140; obtain rfl := (List.cons.inj e141).1
  obtain ⟨y144, g143, hz145⟩ := hf121 2 _ rfl
  replace g143 : DataW.trod enc Tryz.prog w 0 (fun _ => true) held m120 22 [c3] = some y144 := by rw [show Tryz.prog.cellsOf 22 = 1 from by kernel_rfl] at g143; exact g143
  obtain ⟨x_2, e146, h147⟩ := opu_str Tryz.underlying22 g143 hz145; obtain rfl := (List.cons.inj e146).1
  obtain ⟨y149, g148, hz150⟩ := hf121 3 _ rfl
  replace g148 : DataW.trod enc Tryz.prog w 0 (fun _ => true) held m120 22 [c4] = some y149 := by rw [show Tryz.prog.cellsOf 22 = 1 from by kernel_rfl] at g148; exact g148
  obtain ⟨x_3, e151, h152⟩ := opu_str Tryz.underlying22 g148 hz150; obtain rfl := (List.cons.inj e151).1
  obtain ⟨y154, g153, hz155⟩ := hf121 4 _ rfl
  replace g153 : DataW.trod enc Tryz.prog w 0 (fun _ => true) held m120 31 [c5] = some y154 := by rw [show Tryz.prog.cellsOf 31 = 1 from by kernel_rfl] at g153; exact g153
  obtain ⟨x_4, e156, h157, h158, h159, h160, h161⟩ := opu_slice (cells := (fun s => [.string (S s)])) (F := (fun s : List UInt8 => s.length ≤ 140737488351232)) 1 16 (by kernel_rfl) Tryz.underlying31 (by kernel_rfl) (fun _ => rfl) (fun m cs y h hz => opu_str Tryz.underlying22 h hz) g153 hz155; obtain rfl := (List.cons.inj e156).1
  replace h160 := sl_map h160
  obtain ⟨y163, g162, hz164⟩ := hf121 5 _ rfl
  replace g162 : DataW.trod enc Tryz.prog w 0 (fun _ => true) held m120 22 [c6] = some y163 := by rw [show Tryz.prog.cellsOf 22 = 1 from by kernel_rfl] at g162; exact g162
  obtain ⟨x_5, e165, h166⟩ := opu_str Tryz.underlying22 g162 hz164; obtain rfl := (List.cons.inj e165).1
  obtain ⟨y168, g167, hz169⟩ := hf121 6 _ rfl
  replace g167 : DataW.trod enc Tryz.prog w 0 (fun _ => true) held m120 22 [c7] = some y168 := by rw [show Tryz.prog.cellsOf 22 = 1 from by kernel_rfl] at g167; exact g167
  obtain ⟨x_6, e170, h171⟩ := opu_str Tryz.underlying22 g167 hz169; obtain rfl := (List.cons.inj e170).1
  exact ⟨x_0, x_1_0, x_1_1, x_2, x_3, x_4, x_5, x_6, rfl, h126, h137, h142, h147, h152, h157, h158, h159, h160, h161, h166, h171⟩

set_option maxRecDepth 100000 in
theorem op_T37 {H : Type} {enc : TypeId × Value → H} {w : World} {held : Bool} {fuel : Nat} {cs : List Value} {x : DataW H × List MemPlace} (h : DataW.trod enc Tryz.prog w 0 (fun _ => true) held fuel 37 cs = some x) (hz : Wu Tryz.prog 37 x.1) :
    ∃ (x_0 : Bool) (x_1 : List UInt8), cs = [.bool x_0, .string (S x_1)] ∧ (x_1.length ≤ 140737488351232) := by
  have hl : cs.length = 2 := (op_struct Tryz.underlying37 h).1.trans (by kernel_rfl)
  obtain ⟨c0, c1, rfl⟩ : ∃ c0 c1, cs = [c0, c1] := by
    match cs, hl with
    | [c0, c1], _ => exact ⟨c0, c1, rfl⟩
  clear hl
  obtain ⟨_, m173, hf174⟩ := opu_struct Tryz.underlying37 h hz
  obtain ⟨y176, g175, hz177⟩ := hf174 0 _ rfl
  replace g175 : DataW.trod enc Tryz.prog w 0 (fun _ => true) held m173 4 [c0] = some y176 := by rw [show Tryz.prog.cellsOf 4 = 1 from by kernel_rfl] at g175; exact g175
  obtain ⟨x_0, e178⟩ := op_bool Tryz.underlying4 g175; obtain rfl := (List.cons.inj e178).1
  obtain ⟨y180, g179, hz181⟩ := hf174 1 _ rfl
  replace g179 : DataW.trod enc Tryz.prog w 0 (fun _ => true) held m173 22 [c1] = some y180 := by rw [show Tryz.prog.cellsOf 22 = 1 from by kernel_rfl] at g179; exact g179
  obtain ⟨x_1, e182, h183⟩ := opu_str Tryz.underlying22 g179 hz181; obtain rfl := (List.cons.inj e182).1
  exact ⟨x_0, x_1, rfl, h183⟩

set_option maxRecDepth 100000 in
theorem op_T43 {H : Type} {enc : TypeId × Value → H} {w : World} {held : Bool} {fuel : Nat} {cs : List Value} {x : DataW H × List MemPlace} (h : DataW.trod enc Tryz.prog w 0 (fun _ => true) held fuel 43 cs = some x) (hz : Wu Tryz.prog 43 x.1) :
    ∃ (x_0_0 : List UInt8) (x_0_1 : List UInt8) (x_0_2 : List UInt8) (x_1 : List UInt8) (x_2_0 : Bool) (x_2_1 : List UInt8) (x_3 : Sl (List UInt8)) (x_4 : Sl (Int)) (x_5 : Sl (List UInt8)) (x_6 : Sl (Zs)) (x_7_0 : Sl (List UInt8)) (x_7_1 : List UInt8) (x_7_2 : Int), cs = [.string (S x_0_0), .string (S x_0_1), .string (S x_0_2), .string (S x_1), .bool x_2_0, .string (S x_2_1), x_3.val, x_4.val, x_5.val, x_6.val, x_7_0.val, .string (S x_7_1), .int .i64 x_7_2] ∧ (x_0_0.length ≤ 140737488351232) ∧ (x_0_1.length ≤ 140737488351232) ∧ (x_0_2.length ≤ 140737488351232) ∧ (x_1.length ≤ 140737488351232) ∧ (x_2_1.length ≤ 140737488351232) ∧ (x_3.l.length ≤ x_3.cap) ∧ (x_3.cap * 16 ≤ 140737488351232) ∧ (x_3.l.length ≤ 1048576) ∧ ((Fact.sl x_3.a (x_3.l.map fun x => .string (S x))).holds (fun _ => True) w) ∧ ((∀ y ∈ x_3.l, (fun s : List UInt8 => s.length ≤ 140737488351232) y)) ∧ (x_4.l.length ≤ x_4.cap) ∧ (x_4.cap * 8 ≤ 140737488351232) ∧ (x_4.l.length ≤ 1048576) ∧ ((Fact.sl x_4.a (x_4.l.map fun x => .int .i64 x)).holds (fun _ => True) w) ∧ ((∀ y ∈ x_4.l, (fun n : Int => (Lit.int .i64 n).wf = true) y)) ∧ (x_5.l.length ≤ x_5.cap) ∧ (x_5.cap * 16 ≤ 140737488351232) ∧ (x_5.l.length ≤ 1048576) ∧ ((Fact.sl x_5.a (x_5.l.map fun x => .string (S x))).holds (fun _ => True) w) ∧ ((∀ y ∈ x_5.l, (fun s : List UInt8 => s.length ≤ 140737488351232) y)) ∧ (x_6.l.length ≤ x_6.cap) ∧ (x_6.cap * 24 ≤ 140737488351232) ∧ (x_6.l.length ≤ 1048576) ∧ ((Fact.sl x_6.a (x_6.l.flatMap zc)).holds (fun _ => True) w) ∧ ((∀ y ∈ x_6.l, (zFs w) y)) ∧ (x_7_0.l.length ≤ x_7_0.cap) ∧ (x_7_0.cap * 16 ≤ 140737488351232) ∧ (x_7_0.l.length ≤ 1048576) ∧ ((Fact.sl x_7_0.a (x_7_0.l.map fun x => .string (S x))).holds (fun _ => True) w) ∧ ((∀ y ∈ x_7_0.l, (fun s : List UInt8 => s.length ≤ 140737488351232) y)) ∧ (x_7_1.length ≤ 140737488351232) ∧ ((Lit.int .i64 x_7_2).wf = true) := by
  have hl : cs.length = 13 := (op_struct Tryz.underlying43 h).1.trans (by kernel_rfl)
  obtain ⟨c0, c1, c2, c3, c4, c5, c6, c7, c8, c9, c10, c11, c12, rfl⟩ : ∃ c0 c1 c2 c3 c4 c5 c6 c7 c8 c9 c10 c11 c12, cs = [c0, c1, c2, c3, c4, c5, c6, c7, c8, c9, c10, c11, c12] := by
    match cs, hl with
    | [c0, c1, c2, c3, c4, c5, c6, c7, c8, c9, c10, c11, c12], _ => exact ⟨c0, c1, c2, c3, c4, c5, c6, c7, c8, c9, c10, c11, c12, rfl⟩
  clear hl
  obtain ⟨_, m185, hf186⟩ := opu_struct Tryz.underlying43 h hz
  obtain ⟨y188, g187, hz189⟩ := hf186 0 _ rfl
  replace g187 : DataW.trod enc Tryz.prog w 0 (fun _ => true) held m185 35 [c0, c1, c2] = some y188 := by rw [show Tryz.prog.cellsOf 35 = 3 from by kernel_rfl] at g187; exact g187
  obtain ⟨_, m191, hf192⟩ := opu_struct Tryz.underlying35 g187 hz189
  obtain ⟨y194, g193, hz195⟩ := hf192 0 _ rfl
  replace g193 : DataW.trod enc Tryz.prog w 0 (fun _ => true) held m191 22 [c0] = some y194 := by rw [show Tryz.prog.cellsOf 22 = 1 from by kernel_rfl] at g193; exact g193
  obtain ⟨x_0_0, e196, h197⟩ := opu_str Tryz.underlying22 g193 hz195; obtain rfl := (List.cons.inj e196).1
  obtain ⟨y199, g198, hz200⟩ := hf192 1 _ rfl
  replace g198 : DataW.trod enc Tryz.prog w 0 (fun _ => true) held m191 22 [c1] = some y199 := by rw [show Tryz.prog.cellsOf 22 = 1 from by kernel_rfl] at g198; exact g198
  obtain ⟨x_0_1, e201, h202⟩ := opu_str Tryz.underlying22 g198 hz200; obtain rfl := (List.cons.inj e201).1
  obtain ⟨y204, g203, hz205⟩ := hf192 2 _ rfl
  replace g203 : DataW.trod enc Tryz.prog w 0 (fun _ => true) held m191 22 [c2] = some y204 := by rw [show Tryz.prog.cellsOf 22 = 1 from by kernel_rfl] at g203; exact g203
  obtain ⟨x_0_2, e206, h207⟩ := opu_str Tryz.underlying22 g203 hz205; obtain rfl := (List.cons.inj e206).1
  obtain ⟨y209, g208, hz210⟩ := hf186 1 _ rfl
  replace g208 : DataW.trod enc Tryz.prog w 0 (fun _ => true) held m185 22 [c3] = some y209 := by rw [show Tryz.prog.cellsOf 22 = 1 from by kernel_rfl] at g208; exact g208
  obtain ⟨x_1, e211, h212⟩ := opu_str Tryz.underlying22 g208 hz210; obtain rfl := (List.cons.inj e211).1
  obtain ⟨y214, g213, hz215⟩ := hf186 2 _ rfl
  replace g213 : DataW.trod enc Tryz.prog w 0 (fun _ => true) held m185 37 [c4, c5] = some y214 := by rw [show Tryz.prog.cellsOf 37 = 2 from by kernel_rfl] at g213; exact g213
  obtain ⟨_, m217, hf218⟩ := opu_struct Tryz.underlying37 g213 hz215
  obtain ⟨y220, g219, hz221⟩ := hf218 0 _ rfl
  replace g219 : DataW.trod enc Tryz.prog w 0 (fun _ => true) held m217 4 [c4] = some y220 := by rw [show Tryz.prog.cellsOf 4 = 1 from by kernel_rfl] at g219; exact g219
  obtain ⟨x_2_0, e222⟩ := op_bool Tryz.underlying4 g219; obtain rfl := (List.cons.inj e222).1
  obtain ⟨y224, g223, hz225⟩ := hf218 1 _ rfl
  replace g223 : DataW.trod enc Tryz.prog w 0 (fun _ => true) held m217 22 [c5] = some y224 := by rw [show Tryz.prog.cellsOf 22 = 1 from by kernel_rfl] at g223; exact g223
  obtain ⟨x_2_1, e226, h227⟩ := opu_str Tryz.underlying22 g223 hz225; obtain rfl := (List.cons.inj e226).1
  obtain ⟨y229, g228, hz230⟩ := hf186 3 _ rfl
  replace g228 : DataW.trod enc Tryz.prog w 0 (fun _ => true) held m185 31 [c6] = some y229 := by rw [show Tryz.prog.cellsOf 31 = 1 from by kernel_rfl] at g228; exact g228
  obtain ⟨x_3, e231, h232, h233, h234, h235, h236⟩ := opu_slice (cells := (fun s => [.string (S s)])) (F := (fun s : List UInt8 => s.length ≤ 140737488351232)) 1 16 (by kernel_rfl) Tryz.underlying31 (by kernel_rfl) (fun _ => rfl) (fun m cs y h hz => opu_str Tryz.underlying22 h hz) g228 hz230; obtain rfl := (List.cons.inj e231).1
  replace h235 := sl_map h235
  obtain ⟨y238, g237, hz239⟩ := hf186 4 _ rfl
  replace g237 : DataW.trod enc Tryz.prog w 0 (fun _ => true) held m185 38 [c7] = some y238 := by rw [show Tryz.prog.cellsOf 38 = 1 from by kernel_rfl] at g237; exact g237
  obtain ⟨x_4, e240, h241, h242, h243, h244, h245⟩ := opu_slice (cells := (fun n => [.int .i64 n])) (F := (fun n : Int => (Lit.int .i64 n).wf = true)) 1 8 (by kernel_rfl) Tryz.underlying38 (by kernel_rfl) (fun _ => rfl) (fun m cs y h _ => op_int Tryz.underlying3 h) g237 hz239; obtain rfl := (List.cons.inj e240).1
  replace h244 := sl_map h244
  obtain ⟨y247, g246, hz248⟩ := hf186 5 _ rfl
  replace g246 : DataW.trod enc Tryz.prog w 0 (fun _ => true) held m185 31 [c8] = some y247 := by rw [show Tryz.prog.cellsOf 31 = 1 from by kernel_rfl] at g246; exact g246
  obtain ⟨x_5, e249, h250, h251, h252, h253, h254⟩ := opu_slice (cells := (fun s => [.string (S s)])) (F := (fun s : List UInt8 => s.length ≤ 140737488351232)) 1 16 (by kernel_rfl) Tryz.underlying31 (by kernel_rfl) (fun _ => rfl) (fun m cs y h hz => opu_str Tryz.underlying22 h hz) g246 hz248; obtain rfl := (List.cons.inj e249).1
  replace h253 := sl_map h253
  obtain ⟨y256, g255, hz257⟩ := hf186 6 _ rfl
  replace g255 : DataW.trod enc Tryz.prog w 0 (fun _ => true) held m185 39 [c9] = some y256 := by rw [show Tryz.prog.cellsOf 39 = 1 from by kernel_rfl] at g255; exact g255
  obtain ⟨x_6, e258, h259, h260, h261, h262, h263⟩ := opu_slice (cells := zc) (F := (zFs w)) 2 24 (by kernel_rfl) Tryz.underlying39 (by kernel_rfl) (fun _ => rfl) (fun m cs y h hz => by obtain ⟨x_0, x_1, rfl, k0⟩ := op_T37 h hz; exact ⟨Prod.mk x_0 x_1, rfl, by first | trivial | assumption | (refine ⟨?_, ?_⟩ <;> assumption) | (refine ⟨?_, ?_, ?_⟩ <;> assumption) | (refine ⟨?_, ?_, ?_, ?_⟩ <;> assumption) | (refine ⟨?_, ?_, ?_, ?_, ?_⟩ <;> assumption) | simp_all⟩) g255 hz257; obtain rfl := (List.cons.inj e258).1
  obtain ⟨y265, g264, hz266⟩ := hf186 7 _ rfl
  replace g264 : DataW.trod enc Tryz.prog w 0 (fun _ => true) held m185 41 [c10, c11, c12] = some y265 := by rw [show Tryz.prog.cellsOf 41 = 3 from by kernel_rfl] at g264; exact g264
  obtain ⟨_, m268, hf269⟩ := opu_struct Tryz.underlying41 g264 hz266
  obtain ⟨y271, g270, hz272⟩ := hf269 0 _ rfl
  replace g270 : DataW.trod enc Tryz.prog w 0 (fun _ => true) held m268 31 [c10] = some y271 := by rw [show Tryz.prog.cellsOf 31 = 1 from by kernel_rfl] at g270; exact g270
  obtain ⟨x_7_0, e273, h274, h275, h276, h277, h278⟩ := opu_slice (cells := (fun s => [.string (S s)])) (F := (fun s : List UInt8 => s.length ≤ 140737488351232)) 1 16 (by kernel_rfl) Tryz.underlying31 (by kernel_rfl) (fun _ => rfl) (fun m cs y h hz => opu_str Tryz.underlying22 h hz) g270 hz272; obtain rfl := (List.cons.inj e273).1
  replace h277 := sl_map h277
  obtain ⟨y280, g279, hz281⟩ := hf269 1 _ rfl
  replace g279 : DataW.trod enc Tryz.prog w 0 (fun _ => true) held m268 9 [c11] = some y280 := by rw [show Tryz.prog.cellsOf 9 = 1 from by kernel_rfl] at g279; exact g279
  obtain ⟨x_7_1, e282, h283⟩ := opu_str Tryz.underlying9 g279 hz281; obtain rfl := (List.cons.inj e282).1
  obtain ⟨y285, g284, hz286⟩ := hf269 2 _ rfl
  replace g284 : DataW.trod enc Tryz.prog w 0 (fun _ => true) held m268 3 [c12] = some y285 := by rw [show Tryz.prog.cellsOf 3 = 1 from by kernel_rfl] at g284; exact g284
  obtain ⟨x_7_2, e287, h288⟩ := op_int Tryz.underlying3 g284; obtain rfl := (List.cons.inj e287).1
  exact ⟨x_0_0, x_0_1, x_0_2, x_1, x_2_0, x_2_1, x_3, x_4, x_5, x_6, x_7_0, x_7_1, x_7_2, rfl, h197, h202, h207, h212, h227, h232, h233, h234, h235, h236, h241, h242, h243, h244, h245, h250, h251, h252, h253, h254, h259, h260, h261, h262, h263, h274, h275, h276, h277, h278, h283, h288⟩

theorem tab {W : World} (h : laidMetH Tryz.prog Rows.showHidesUptoRow.laid W) : Tab W := by
  rw [MakeChecks.laidMetH_plain _ _ _ (by kernel_rfl)] at h
  obtain ⟨ps, h, _⟩ := h
  obtain ⟨_, h⟩ := laidVars_tail h
  obtain ⟨_, h⟩ := laidVars_tail h
  exact tab_of_vars (by kernel_rfl) Tryz.underlying289 Tryz.underlying76 (by kernel_rfl) (by kernel_rfl) h

theorem tabd {W : World} (h : laidMetH Tryz.prog Rows.showHidesUptoRow.laid W) : TabD W := by
  rw [MakeChecks.laidMetH_plain _ _ _ (by kernel_rfl)] at h
  obtain ⟨ps, h, _⟩ := h
  obtain ⟨_, h⟩ := laidVars_tail h
  exact tabd_of_is (tab_of_vars (by kernel_rfl) Tryz.underlying268 Tryz.underlying5 (by kernel_rfl) (by kernel_rfl) h)

theorem reads (os : Os) {H : Type} (enc : TypeId × Value → H) : ∃ places, DataW.whole enc Tryz.prog ((World.laidAll Tryz.prog os Rows.showHidesUptoRow.laid).forCall (fun _ _ => 0) ⟨#[], #[(.agg #[.string (S []), .string (S []), .string (S []), .string (S []), .string (S []), .string (S []), .string (S []), .string (S []), .string (S []), .string (S []), .string (S []), .string (S []), .string (S []), .string (S []), .string (S []), .string (S []), .string (S [])]), (.agg #[.string (S []), .string (S []), .string (S []), .string (S []), .string (S []), .slice none 0 0, .string (S []), .string (S [])]), (.agg #[.string (S []), .string (S []), .string (S []), .string (S []), .bool false, .string (S []), .slice none 0 0, .slice none 0 0, .slice none 0 0, .slice none 0 0, .slice none 0 0, .string (S []), .int .i64 0])], []⟩).memory Tryz.f7.params.toList Rows.showHidesSpec.vars false #[(.agg #[.string (S []), .string (S []), .string (S []), .string (S []), .string (S []), .string (S []), .string (S []), .string (S []), .string (S []), .string (S []), .string (S []), .string (S []), .string (S []), .string (S []), .string (S []), .string (S []), .string (S [])]), (.agg #[.string (S []), .string (S []), .string (S []), .string (S []), .string (S []), .slice none 0 0, .string (S []), .string (S [])]), (.agg #[.string (S []), .string (S []), .string (S []), .string (S []), .bool false, .string (S []), .slice none 0 0, .slice none 0 0, .slice none 0 0, .slice none 0 0, .slice none 0 0, .string (S []), .int .i64 0])].toList 8 = some ([.agg [.agg [.lit (.string []), .lit (.string [])], .agg [.agg [.lit (.string []), .lit (.string [])], .lit (.string []), .lit (.string [])], .agg [.agg [.lit (.string []), .lit (.string [])], .lit (.string []), .lit (.string [])], .lit (.string []), .lit (.string []), .lit (.string []), .lit (.string []), .lit (.string []), .lit (.string []), .lit (.string [])], .agg [.lit (.string []), .agg [.lit (.string []), .lit (.string [])], .lit (.string []), .lit (.string []), .nil, .lit (.string []), .lit (.string [])], .agg [.agg [.lit (.string []), .lit (.string []), .lit (.string [])], .lit (.string []), .agg [.lit (.bool false), .lit (.string [])], .nil, .nil, .nil, .nil, .agg [.nil, .lit (.string []), .lit (.int .i64 0)]]], [], places) :=
  ⟨[], by kernel_rfl⟩

theorem met (os : Os) : laidMetH Tryz.prog Rows.showHidesUptoRow.laid ((World.laidAll Tryz.prog os Rows.showHidesUptoRow.laid).forCall (fun _ _ => 0) ⟨#[], #[(.agg #[.string (S []), .string (S []), .string (S []), .string (S []), .string (S []), .string (S []), .string (S []), .string (S []), .string (S []), .string (S []), .string (S []), .string (S []), .string (S []), .string (S []), .string (S []), .string (S []), .string (S [])]), (.agg #[.string (S []), .string (S []), .string (S []), .string (S []), .string (S []), .slice none 0 0, .string (S []), .string (S [])]), (.agg #[.string (S []), .string (S []), .string (S []), .string (S []), .bool false, .string (S []), .slice none 0 0, .slice none 0 0, .slice none 0 0, .slice none 0 0, .slice none 0 0, .string (S []), .int .i64 0])], []⟩).memory := by
  rw [MakeChecks.laidMetH_plain _ _ _ (by kernel_rfl)]; exact laidMet_laidAll _ (by kernel_rfl) (by kernel_rfl)

theorem sized (os : Os) {H : Type} (enc : TypeId × Value → H) : (Rows.OpenSpec.upto Rows.showHidesSpec).bare.sizedB enc Tryz.prog Tryz.f7 false ((World.laidAll Tryz.prog os Rows.showHidesUptoRow.laid).forCall (fun _ _ => 0) ⟨#[], #[(.agg #[.string (S []), .string (S []), .string (S []), .string (S []), .string (S []), .string (S []), .string (S []), .string (S []), .string (S []), .string (S []), .string (S []), .string (S []), .string (S []), .string (S []), .string (S []), .string (S []), .string (S [])]), (.agg #[.string (S []), .string (S []), .string (S []), .string (S []), .string (S []), .slice none 0 0, .string (S []), .string (S [])]), (.agg #[.string (S []), .string (S []), .string (S []), .string (S []), .bool false, .string (S []), .slice none 0 0, .slice none 0 0, .slice none 0 0, .slice none 0 0, .slice none 0 0, .string (S []), .int .i64 0])], []⟩).memory #[(.agg #[.string (S []), .string (S []), .string (S []), .string (S []), .string (S []), .string (S []), .string (S []), .string (S []), .string (S []), .string (S []), .string (S []), .string (S []), .string (S []), .string (S []), .string (S []), .string (S []), .string (S [])]), (.agg #[.string (S []), .string (S []), .string (S []), .string (S []), .string (S []), .slice none 0 0, .string (S []), .string (S [])]), (.agg #[.string (S []), .string (S []), .string (S []), .string (S []), .bool false, .string (S []), .slice none 0 0, .slice none 0 0, .slice none 0 0, .slice none 0 0, .slice none 0 0, .string (S []), .int .i64 0])] 8 = true := by kernel_rfl

theorem prerow (os : Os) {H : Type} (enc : TypeId × Value → H) : (Rows.OpenSpec.upto Rows.showHidesSpec).preRow enc Tryz.prog Tryz.f7 Rows.showHidesUptoRow.domain false Rows.showHidesUptoRow.laid ((World.laidAll Tryz.prog os Rows.showHidesUptoRow.laid).forCall (fun _ _ => 0) ⟨#[], #[(.agg #[.string (S []), .string (S []), .string (S []), .string (S []), .string (S []), .string (S []), .string (S []), .string (S []), .string (S []), .string (S []), .string (S []), .string (S []), .string (S []), .string (S []), .string (S []), .string (S []), .string (S [])]), (.agg #[.string (S []), .string (S []), .string (S []), .string (S []), .string (S []), .slice none 0 0, .string (S []), .string (S [])]), (.agg #[.string (S []), .string (S []), .string (S []), .string (S []), .bool false, .string (S []), .slice none 0 0, .slice none 0 0, .slice none 0 0, .slice none 0 0, .slice none 0 0, .string (S []), .int .i64 0])], []⟩).memory #[(.agg #[.string (S []), .string (S []), .string (S []), .string (S []), .string (S []), .string (S []), .string (S []), .string (S []), .string (S []), .string (S []), .string (S []), .string (S []), .string (S []), .string (S []), .string (S []), .string (S []), .string (S [])]), (.agg #[.string (S []), .string (S []), .string (S []), .string (S []), .string (S []), .slice none 0 0, .string (S []), .string (S [])]), (.agg #[.string (S []), .string (S []), .string (S []), .string (S []), .bool false, .string (S []), .slice none 0 0, .slice none 0 0, .slice none 0 0, .slice none 0 0, .slice none 0 0, .string (S []), .int .i64 0])] := by
  obtain ⟨places, hx⟩ := reads os enc
  exact OpenSpec.preRow_of_cond 8 hx (by kernel_rfl) (fun k hk => by cases hk; kernel_rfl) (sized os enc) (met os)

theorem there (os : Os) {H : Type} (enc : TypeId × Value → H) : ∃ (w : World) (tape : Tape) (i : Input), w.os = os ∧ (w.forCall tape i).Shaped Tryz.checked.prog ∧ i.vars = [] ∧ Input.okWide Tryz.checked.prog (w.forCall tape i) .any w.heap.size 7 i ∧ (Rows.OpenSpec.upto Rows.showHidesSpec).preRow enc Tryz.checked.prog Tryz.f7 Rows.showHidesUptoRow.domain false Rows.showHidesUptoRow.laid (w.forCall tape i).memory i.args ∧ ({ modest := false } : Assume).holds Tryz.checked.prog (lone (Frame.enter Tryz.checked.prog 7 i.args .normal) [] (w.forCall tape i)) :=
  witness_row_at (enc := enc) (C := Tryz.checked) (fn := Tryz.f7) (s := Rows.OpenSpec.upto Rows.showHidesSpec) (conds := Rows.showHidesUptoRow.domain) (apart := false) (laid := Rows.showHidesUptoRow.laid) false (World.laidAll Tryz.prog os Rows.showHidesUptoRow.laid) #[(.agg #[.string (S []), .string (S []), .string (S []), .string (S []), .string (S []), .string (S []), .string (S []), .string (S []), .string (S []), .string (S []), .string (S []), .string (S []), .string (S []), .string (S []), .string (S []), .string (S []), .string (S [])]), (.agg #[.string (S []), .string (S []), .string (S []), .string (S []), .string (S []), .slice none 0 0, .string (S []), .string (S [])]), (.agg #[.string (S []), .string (S []), .string (S []), .string (S []), .bool false, .string (S []), .slice none 0 0, .slice none 0 0, .slice none 0 0, .slice none 0 0, .slice none 0 0, .string (S []), .int .i64 0])] (World.laidAll_os _ _ _) (by kernel_rfl) (by kernel_rfl) (by kernel_rfl) (prerow os enc)

set_option maxHeartbeats 1000000 in
set_option maxRecDepth 100000 in
theorem lifted (os : Os) (started : os.Started) (H : Type) (enc : TypeId × Value → H) (F : Stop.Interp) :
    ReturnsInHanded {} Tryz.checked os 7 .any ((Rows.OpenSpec.upto Rows.showHidesSpec).preRow enc Tryz.prog Tryz.f7 Rows.showHidesUptoRow.domain false Rows.showHidesUptoRow.laid) (((Rows.OpenSpec.upto Rows.showHidesSpec).at F).post enc Tryz.prog Tryz.f7 false true false false) := by
  refine returnsInHanded_of_row (C := Tryz.checked) (s := Rows.OpenSpec.upto Rows.showHidesSpec) own started (by kernel_rfl) Tryz.func7 (there os enc) ?_
  intro W base args ds gs before hval0 hW _ hcnd hwt0 hL _ _
  have hbk : Rows.uptoSmall H (ds ++ gs) = true := hcnd _ rfl
  have hTab : True → Tab W := fun _ => tab hL
  have hTabD : True → TabD W := fun _ => tabd hL
  clear hL
  have hval : ∀ (j : Nat) t v, Tryz.f7.params[j]? = some t → args[j]? = some v → Value.okWide Tryz.prog W .any base t v := hval0
  have hW' := hW
  obtain ⟨p, q, hA0, hV, rfl, hfz, hnd⟩ := hW
  have hA : DataW.TrodAll enc Tryz.prog W 0 (fun _ => true) true Tryz.f7.params.toList args.toList ds p := hA0
  rw [Tryz.params7] at hA hval
  obtain ⟨v0, vs0, d0, ds0, p0, q0, hargs, rfl, rfl, h0, r0⟩ := trodAll_cons hA
  obtain ⟨v1, vs1, d1, ds1, p1, q1, rfl, rfl, rfl, h1, r1⟩ := trodAll_cons r0
  obtain ⟨v2, vs2, d2, ds2, p2, q2, rfl, rfl, rfl, h2, r2⟩ := trodAll_cons r1
  obtain ⟨rfl, rfl, rfl⟩ := trodAll_nil r2
  obtain rfl : args = #[v0, v1, v2] := by cases args; simp_all
  obtain ⟨rfl, rfl⟩ := trodVars_none hV
  have w0 : Wu Tryz.prog 30 d0 := wu_all (wt_all hwt0 (j := 0) (by rw [Tryz.params7]; rfl) rfl) (by simp) hbk
  have w1 : Wu Tryz.prog 33 d1 := wu_all (wt_all hwt0 (j := 1) (by rw [Tryz.params7]; rfl) rfl) (by simp) hbk
  have w2 : Wu Tryz.prog 43 d2 := wu_all (wt_all hwt0 (j := 2) (by rw [Tryz.params7]; rfl) rfl) (by simp) hbk
  have k0 := h0
  obtain ⟨fu0, f0⟩ := h0
  obtain ⟨cs0, rfl, hz0⟩ : ∃ cs, v0 = .agg cs ∧ cs.size = Tryz.prog.cellsOf 30 := by have q := (hval 0 30 v0 rfl rfl); simp only [Value.okWide, Tryz.underlying30] at q; obtain ⟨cs, q1, q2, _⟩ := q; exact ⟨cs, q1, q2⟩
  obtain ⟨a0_0_0, a0_0_1, a0_1_0_0, a0_1_0_1, a0_1_1, a0_1_2, a0_2_0_0, a0_2_0_1, a0_2_1, a0_2_2, a0_3, a0_4, a0_5, a0_6, a0_7, a0_8, a0_9, e0, z0_0, z0_1, z0_2, z0_3, z0_4, z0_5, z0_6, z0_7, z0_8, z0_9, z0_10, z0_11, z0_12, z0_13, z0_14, z0_15, z0_16⟩ := op_T30 f0 w0
  obtain rfl : cs0 = #[.string (S a0_0_0), .string (S a0_0_1), .string (S a0_1_0_0), .string (S a0_1_0_1), .string (S a0_1_1), .string (S a0_1_2), .string (S a0_2_0_0), .string (S a0_2_0_1), .string (S a0_2_1), .string (S a0_2_2), .string (S a0_3), .string (S a0_4), .string (S a0_5), .string (S a0_6), .string (S a0_7), .string (S a0_8), .string (S a0_9)] := Array.ext' e0
  have k1 := h1
  obtain ⟨fu1, f1⟩ := h1
  obtain ⟨cs1, rfl, hz1⟩ : ∃ cs, v1 = .agg cs ∧ cs.size = Tryz.prog.cellsOf 33 := by have q := (hval 1 33 v1 rfl rfl); simp only [Value.okWide, Tryz.underlying33] at q; obtain ⟨cs, q1, q2, _⟩ := q; exact ⟨cs, q1, q2⟩
  obtain ⟨a1_0, a1_1_0, a1_1_1, a1_2, a1_3, a1_4, a1_5, a1_6, e1, z1_0, z1_1, z1_2, z1_3, z1_4, z1_5, z1_6, z1_7, z1_8, z1_9, z1_10, z1_11⟩ := op_T33 f1 w1
  obtain rfl : cs1 = #[.string (S a1_0), .string (S a1_1_0), .string (S a1_1_1), .string (S a1_2), .string (S a1_3), a1_4.val, .string (S a1_5), .string (S a1_6)] := Array.ext' e1
  have k2 := h2
  obtain ⟨fu2, f2⟩ := h2
  obtain ⟨cs2, rfl, hz2⟩ : ∃ cs, v2 = .agg cs ∧ cs.size = Tryz.prog.cellsOf 43 := by have q := (hval 2 43 v2 rfl rfl); simp only [Value.okWide, Tryz.underlying43] at q; obtain ⟨cs, q1, q2, _⟩ := q; exact ⟨cs, q1, q2⟩
  obtain ⟨a2_0_0, a2_0_1, a2_0_2, a2_1, a2_2_0, a2_2_1, a2_3, a2_4, a2_5, a2_6, a2_7_0, a2_7_1, a2_7_2, e2, z2_0, z2_1, z2_2, z2_3, z2_4, z2_5, z2_6, z2_7, z2_8, z2_9, z2_10, z2_11, z2_12, z2_13, z2_14, z2_15, z2_16, z2_17, z2_18, z2_19, z2_20, z2_21, z2_22, z2_23, z2_24, z2_25, z2_26, z2_27, z2_28, z2_29, z2_30, z2_31⟩ := op_T43 f2 w2
  obtain rfl : cs2 = #[.string (S a2_0_0), .string (S a2_0_1), .string (S a2_0_2), .string (S a2_1), .bool a2_2_0, .string (S a2_2_1), a2_3.val, a2_4.val, a2_5.val, a2_6.val, a2_7_0.val, .string (S a2_7_1), .int .i64 a2_7_2] := Array.ext' e2
  clear hA0 hval0
  have hcall : Calls Tryz.prog 7 #[.agg #[.string (S a0_0_0), .string (S a0_0_1), .string (S a0_1_0_0), .string (S a0_1_0_1), .string (S a0_1_1), .string (S a0_1_2), .string (S a0_2_0_0), .string (S a0_2_0_1), .string (S a0_2_1), .string (S a0_2_2), .string (S a0_3), .string (S a0_4), .string (S a0_5), .string (S a0_6), .string (S a0_7), .string (S a0_8), .string (S a0_9)], .agg #[.string (S a1_0), .string (S a1_1_0), .string (S a1_1_1), .string (S a1_2), .string (S a1_3), a1_4.val, .string (S a1_5), .string (S a1_6)], .agg #[.string (S a2_0_0), .string (S a2_0_1), .string (S a2_0_2), .string (S a2_1), .bool a2_2_0, .string (S a2_2_1), a2_3.val, a2_4.val, a2_5.val, a2_6.val, a2_7_0.val, .string (S a2_7_1), .int .i64 a2_7_2]] W (fun e w' => e = .returned (.bool true) ∧ Below W.heap.size W w') := shhid_l (p := ⟨a0_0_0, a0_0_1, ((a0_1_0_0, a0_1_0_1), a0_1_1, a0_1_2), ((a0_2_0_0, a0_2_0_1), a0_2_1, a0_2_2), a0_3, a0_4, a0_5, a0_6, a0_7, a0_8, a0_9⟩) (k := ⟨a1_0, (a1_1_0, a1_1_1), a1_2, a1_3, a1_4.l, a1_5, a1_6⟩) (ra := a1_4.a) (rc := a1_4.cap) (q := ⟨⟨a2_0_0, a2_0_1, a2_0_2⟩, a2_1, (a2_2_0, a2_2_1), a2_3.l, a2_4.l, a2_5.l, a2_6.l, ⟨a2_7_0.l, a2_7_1, a2_7_2⟩⟩) (ma := a2_3.a) (mc := a2_3.cap) (da := a2_4.a) (dc := a2_4.cap) (va := a2_5.a) (vc := a2_5.cap) (za := a2_6.a) (zc' := a2_6.cap) (xa := a2_7_0.a) (xc := a2_7_0.cap) (by first | assumption | rfl | omega | (have := wf_u8 (by assumption); omega) | (have := wf_i64 (by assumption); omega) | (simp [maxLen] at *; omega) | (intro y hy; exact (‹∀ y ∈ _, _› y hy))) (by first | assumption | rfl | omega | (have := wf_u8 (by assumption); omega) | (have := wf_i64 (by assumption); omega) | (simp [maxLen] at *; omega) | (intro y hy; exact (‹∀ y ∈ _, _› y hy))) (by first | assumption | rfl | omega | (have := wf_u8 (by assumption); omega) | (have := wf_i64 (by assumption); omega) | (simp [maxLen] at *; omega) | (intro y hy; exact (‹∀ y ∈ _, _› y hy))) (by first | assumption | rfl | omega | (have := wf_u8 (by assumption); omega) | (have := wf_i64 (by assumption); omega) | (simp [maxLen] at *; omega) | (intro y hy; exact (‹∀ y ∈ _, _› y hy))) (by first | assumption | rfl | omega | (have := wf_u8 (by assumption); omega) | (have := wf_i64 (by assumption); omega) | (simp [maxLen] at *; omega) | (intro y hy; exact (‹∀ y ∈ _, _› y hy))) (by first | assumption | rfl | omega | (have := wf_u8 (by assumption); omega) | (have := wf_i64 (by assumption); omega) | (simp [maxLen] at *; omega) | (intro y hy; exact (‹∀ y ∈ _, _› y hy))) (by first | assumption | rfl | omega | (have := wf_u8 (by assumption); omega) | (have := wf_i64 (by assumption); omega) | (simp [maxLen] at *; omega) | (intro y hy; exact (‹∀ y ∈ _, _› y hy))) (by first | assumption | rfl | omega | (have := wf_u8 (by assumption); omega) | (have := wf_i64 (by assumption); omega) | (simp [maxLen] at *; omega) | (intro y hy; exact (‹∀ y ∈ _, _› y hy))) (by first | assumption | rfl | omega | (have := wf_u8 (by assumption); omega) | (have := wf_i64 (by assumption); omega) | (simp [maxLen] at *; omega) | (intro y hy; exact (‹∀ y ∈ _, _› y hy))) (by first | assumption | rfl | omega | (have := wf_u8 (by assumption); omega) | (have := wf_i64 (by assumption); omega) | (simp [maxLen] at *; omega) | (intro y hy; exact (‹∀ y ∈ _, _› y hy))) (by first | assumption | rfl | omega | (have := wf_u8 (by assumption); omega) | (have := wf_i64 (by assumption); omega) | (simp [maxLen] at *; omega) | (intro y hy; exact (‹∀ y ∈ _, _› y hy))) (by first | assumption | rfl | omega | (have := wf_u8 (by assumption); omega) | (have := wf_i64 (by assumption); omega) | (simp [maxLen] at *; omega) | (intro y hy; exact (‹∀ y ∈ _, _› y hy))) (hTab trivial) (hTabD trivial)
  refine hcall.mono fun e W' ⟨he, bel⟩ => ?_
  subst he
  exact ⟨_, rfl, _, _, _, [], _, [], hW', trodAll_mk1 (shut_bool Tryz.underlying4 _), (trodAll_cons_mk (Below.trod laid (by kernel_rfl) (of_decide_eq_true (by kernel_rfl)) k0 bel (fun x hx => hW'.lt x (by simp [hx]))) (trodAll_cons_mk (Below.trod laid (by kernel_rfl) (of_decide_eq_true (by kernel_rfl)) k1 bel (fun x hx => hW'.lt x (by simp [hx]))) (trodAll_cons_mk (Below.trod laid (by kernel_rfl) (of_decide_eq_true (by kernel_rfl)) k2 bel (fun x hx => hW'.lt x (by simp [hx]))) trodAll_mk0))), rfl, bel.frame _, fun h => by cases h⟩

end Go.Proofs.YtkdlonihbjhhoaaGreatDoor.showHides
