/-
  The statement ShowWitnesses out of the walk of its Go function.
-/
import Derived.Test.YtkdlonihbjhhoaaGreatDoorCards
import Derived.Test.YtkdlonihbjhhoaaGreatDoorTie
import Derived.Test.YtkdlonihbjhhoaaGreatDoorV21
import Derived.WalkKit
import Derived.ProofKit
import Derived.OpenShut
import Derived.ShutString
import Derived.ChangeOld
import Derived.Below
import Derived.Deep.DeepHandedRow
import Derived.Lay
import Derived.LaidMore
namespace Go.Proofs.YtkdlonihbjhhoaaGreatDoor.showWitnesses
open Go.ChangeShapes Go.WideShapes Go.ChangeAt Go.RowKit
set_option linter.unusedVariables false
set_option linter.unusedSimpArgs false

theorem laid : laidOutB Tryz.prog = true := by kernel_rfl

theorem own : ownKnob Tryz.prog.godebug = none := by kernel_rfl

set_option maxRecDepth 100000 in
theorem op_T30 {H : Type} {enc : TypeId × Value → H} {w : World} {held : Bool} {fuel : Nat} {cs : List Value} {x : DataW H × List MemPlace} (h : DataW.trod enc Tryz.prog w 0 (fun _ => true) held fuel 30 cs = some x) (hz : Wu Tryz.prog 30 x.1) :
    ∃ (x_0_0 : List UInt8) (x_0_1 : List UInt8) (x_1_0_0 : List UInt8) (x_1_0_1 : List UInt8) (x_1_1 : List UInt8) (x_1_2 : List UInt8) (x_2_0_0 : List UInt8) (x_2_0_1 : List UInt8) (x_2_1 : List UInt8) (x_2_2 : List UInt8) (x_3 : List UInt8) (x_4 : List UInt8) (x_5 : List UInt8) (x_6 : List UInt8) (x_7 : List UInt8) (x_8 : List UInt8) (x_9 : List UInt8), cs = [.string (S x_0_0), .string (S x_0_1), .string (S x_1_0_0), .string (S x_1_0_1), .string (S x_1_1), .string (S x_1_2), .string (S x_2_0_0), .string (S x_2_0_1), .string (S x_2_1), .string (S x_2_2), .string (S x_3), .string (S x_4), .string (S x_5), .string (S x_6), .string (S x_7), .string (S x_8), .string (S x_9)] ∧ (x_0_0.length ≤ 140737488351232) ∧ (x_0_1.length ≤ 140737488351232) ∧ (x_1_0_0.length ≤ 140737488351232) ∧ (x_1_0_1.length ≤ 140737488351232) ∧ (x_1_1.length ≤ 140737488351232) ∧ (x_1_2.length ≤ 140737488351232) ∧ (x_2_0_0.length ≤ 140737488351232) ∧ (x_2_0_1.length ≤ 140737488351232) ∧ (x_2_1.length ≤ 140737488351232) ∧ (x_2_2.length ≤ 140737488351232) ∧ (x_3.length ≤ 140737488351232) ∧ (x_4.length ≤ 140737488351232) ∧ (x_5.length ≤ 140737488351232) ∧ (x_6.length ≤ 140737488351232) ∧ (x_7.length ≤ 140737488351232) ∧ (x_8.length ≤ 140737488351232) ∧ (x_9.length ≤ 140737488351232) := by
  have hl : cs.length = 17 := (op_struct Tryz.underlying30 h).1.trans (by kernel_rfl)
  obtain ⟨c0, c1, c2, c3, c4, c5, c6, c7, c8, c9, c10, c11, c12, c13, c14, c15, c16, rfl⟩ : ∃ c0 c1 c2 c3 c4 c5 c6 c7 c8 c9 c10 c11 c12 c13 c14 c15 c16, cs = [c0, c1, c2, c3, c4, c5, c6, c7, c8, c9, c10, c11, c12, c13, c14, c15, c16] := by
    match cs, hl with
    | [c0, c1, c2, c3, c4, c5, c6, c7, c8, c9, c10, c11, c12, c13, c14, c15, c16], _ => exact ⟨c0, c1, c2, c3, c4, c5, c6, c7, c8, c9, c10, c11, c12, c13, c14, c15, c16, rfl⟩
  clear hl
  obtain ⟨_, m2, hf3⟩ := opu_struct Tryz.underlying30 h hz
  obtain ⟨y5, g4, hz6⟩ := hf3 0 _ rfl
  replace g4 : DataW.trod enc Tryz.prog w 0 (fun _ => true) held m2 24 [c0, c1] = some y5 := by rw [show Tryz.prog.cellsOf 24 = 2 from by kernel_rfl] at g4; exact g4
  obtain ⟨_, m8, hf9⟩ := opu_struct Tryz.underlying24 g4 hz6
  obtain ⟨y11, g10, hz12⟩ := hf9 0 _ rfl
  replace g10 : DataW.trod enc Tryz.prog w 0 (fun _ => true) held m8 22 [c0] = some y11 := by rw [show Tryz.prog.cellsOf 22 = 1 from by kernel_rfl] at g10; exact g10
  obtain ⟨x_0_0, e13, h14⟩ := opu_str Tryz.underlying22 g10 hz12; obtain rfl := (List.cons.inj e13).1
  obtain ⟨y16, g15, hz17⟩ := hf9 1 _ rfl
  replace g15 : DataW.trod enc Tryz.prog w 0 (fun _ => true) held m8 22 [c1] = some y16 := by rw [show Tryz.prog.cellsOf 22 = 1 from by kernel_rfl] at g15; exact g15
  obtain ⟨x_0_1, e18, h19⟩ := opu_str Tryz.underlying22 g15 hz17; obtain rfl := (List.cons.inj e18).1
  obtain ⟨y21, g20, hz22⟩ := hf3 1 _ rfl
  replace g20 : DataW.trod enc Tryz.prog w 0 (fun _ => true) held m2 28 [c2, c3, c4, c5] = some y21 := by rw [show Tryz.prog.cellsOf 28 = 4 from by kernel_rfl] at g20; exact g20
  obtain ⟨_, m24, hf25⟩ := opu_struct Tryz.underlying28 g20 hz22
  obtain ⟨y27, g26, hz28⟩ := hf25 0 _ rfl
  replace g26 : DataW.trod enc Tryz.prog w 0 (fun _ => true) held m24 26 [c2, c3] = some y27 := by rw [show Tryz.prog.cellsOf 26 = 2 from by kernel_rfl] at g26; exact g26
  obtain ⟨_, m30, hf31⟩ := opu_struct Tryz.underlying26 g26 hz28
  obtain ⟨y33, g32, hz34⟩ := hf31 0 _ rfl
  replace g32 : DataW.trod enc Tryz.prog w 0 (fun _ => true) held m30 22 [c2] = some y33 := by rw [show Tryz.prog.cellsOf 22 = 1 from by kernel_rfl] at g32; exact g32
  obtain ⟨x_1_0_0, e35, h36⟩ := opu_str Tryz.underlying22 g32 hz34; obtain rfl := (List.cons.inj e35).1
  obtain ⟨y38, g37, hz39⟩ := hf31 1 _ rfl
  replace g37 : DataW.trod enc Tryz.prog w 0 (fun _ => true) held m30 22 [c3] = some y38 := by rw [show Tryz.prog.cellsOf 22 = 1 from by kernel_rfl] at g37; exact g37
  obtain ⟨x_1_0_1, e40, h41⟩ := opu_str Tryz.underlying22 g37 hz39; obtain rfl := (List.cons.inj e40).1
  obtain ⟨y43, g42, hz44⟩ := hf25 1 _ rfl
  replace g42 : DataW.trod enc Tryz.prog w 0 (fun _ => true) held m24 22 [c4] = some y43 := by rw [show Tryz.prog.cellsOf 22 = 1 from by kernel_rfl] at g42; exact g42
  obtain ⟨x_1_1, e45, h46⟩ := opu_str Tryz.underlying22 g42 hz44; obtain rfl := (List.cons.inj e45).1
  obtain ⟨y48, g47, hz49⟩ := hf25 2 _ rfl
  replace g47 : DataW.trod enc Tryz.prog w 0 (fun _ => true) held m24 22 [c5] = some y48 := by rw [show Tryz.prog.cellsOf 22 = 1 from by kernel_rfl] at g47; exact g47
  obtain ⟨x_1_2, e50, h51⟩ := opu_str Tryz.underlying22 g47 hz49; obtain rfl := (List.cons.inj e50).1
  obtain ⟨y53, g52, hz54⟩ := hf3 2 _ rfl
  replace g52 : DataW.trod enc Tryz.prog w 0 (fun _ => true) held m2 28 [c6, c7, c8, c9] = some y53 := by rw [show Tryz.prog.cellsOf 28 = 4 from by kernel_rfl] at g52; exact g52
  obtain ⟨_, m56, hf57⟩ := opu_struct Tryz.underlying28 g52 hz54
  obtain ⟨y59, g58, hz60⟩ := hf57 0 _ rfl
  replace g58 : DataW.trod enc Tryz.prog w 0 (fun _ => true) held m56 26 [c6, c7] = some y59 := by rw [show Tryz.prog.cellsOf 26 = 2 from by kernel_rfl] at g58; exact g58
  obtain ⟨_, m62, hf63⟩ := opu_struct Tryz.underlying26 g58 hz60
  obtain ⟨y65, g64, hz66⟩ := hf63 0 _ rfl
  replace g64 : DataW.trod enc Tryz.prog w 0 (fun _ => true) held m62 22 [c6] = some y65 := by rw [show Tryz.prog.cellsOf 22 = 1 from by kernel_rfl] at g64; exact g64
  obtain ⟨x_2_0_0, e67, h68⟩ := opu_str Tryz.underlying22 g64 hz66; obtain rfl := (List.cons.inj e67).1
  obtain ⟨y70, g69, hz71⟩ := hf63 1 _ rfl
  replace g69 : DataW.trod enc Tryz.prog w 0 (fun _ => true) held m62 22 [c7] = some y70 := by rw [show Tryz.prog.cellsOf 22 = 1 from by kernel_rfl] at g69; exact g69
  obtain ⟨x_2_0_1, e72, h73⟩ := opu_str Tryz.underlying22 g69 hz71; obtain rfl := (List.cons.inj e72).1
  obtain ⟨y75, g74, hz76⟩ := hf57 1 _ rfl
  replace g74 : DataW.trod enc Tryz.prog w 0 (fun _ => true) held m56 22 [c8] = some y75 := by rw [show Tryz.prog.cellsOf 22 = 1 from by kernel_rfl] at g74; exact g74
  obtain ⟨x_2_1, e77, h78⟩ := opu_str Tryz.underlying22 g74 hz76; obtain rfl := (List.cons.inj e77).1
  obtain ⟨y80, g79, hz81⟩ := hf57 2 _ rfl
  replace g79 : DataW.trod enc Tryz.prog w 0 (fun _ => true) held m56 22 [c9] = some y80 := by rw [show Tryz.prog.cellsOf 22 = 1 from by kernel_rfl] at g79; exact g79
  obtain ⟨x_2_2, e82, h83⟩ := opu_str Tryz.underlying22 g79 hz81; obtain rfl := (List.cons.inj e82).1
  obtain ⟨y85, g84, hz86⟩ := hf3 3 _ rfl
  replace g84 : DataW.trod enc Tryz.prog w 0 (fun _ => true) held m2 22 [c10] = some y85 := by rw [show Tryz.prog.cellsOf 22 = 1 from by kernel_rfl] at g84; exact g84
  obtain ⟨x_3, e87, h88⟩ := opu_str Tryz.underlying22 g84 hz86; obtain rfl := (List.cons.inj e87).1
  obtain ⟨y90, g89, hz91⟩ := hf3 4 _ rfl
  replace g89 : DataW.trod enc Tryz.prog w 0 (fun _ => true) held m2 22 [c11] = some y90 := by rw [show Tryz.prog.cellsOf 22 = 1 from by kernel_rfl] at g89; exact g89
  obtain ⟨x_4, e92, h93⟩ := opu_str Tryz.underlying22 g89 hz91; obtain rfl := (List.cons.inj e92).1
  obtain ⟨y95, g94, hz96⟩ := hf3 5 _ rfl
  replace g94 : DataW.trod enc Tryz.prog w 0 (fun _ => true) held m2 22 [c12] = some y95 := by rw [show Tryz.prog.cellsOf 22 = 1 from by kernel_rfl] at g94; exact g94
  obtain ⟨x_5, e97, h98⟩ := opu_str Tryz.underlying22 g94 hz96; obtain rfl := (List.cons.inj e97).1
  obtain ⟨y100, g99, hz101⟩ := hf3 6 _ rfl
  replace g99 : DataW.trod enc Tryz.prog w 0 (fun _ => true) held m2 22 [c13] = some y100 := by rw [show Tryz.prog.cellsOf 22 = 1 from by kernel_rfl] at g99; exact g99
  obtain ⟨x_6, e102, h103⟩ := opu_str Tryz.underlying22 g99 hz101; obtain rfl := (List.cons.inj e102).1
  obtain ⟨y105, g104, hz106⟩ := hf3 7 _ rfl
  replace g104 : DataW.trod enc Tryz.prog w 0 (fun _ => true) held m2 22 [c14] = some y105 := by rw [show Tryz.prog.cellsOf 22 = 1 from by kernel_rfl] at g104; exact g104
  obtain ⟨x_7, e107, h108⟩ := opu_str Tryz.underlying22 g104 hz106; obtain rfl := (List.cons.inj e107).1
  obtain ⟨y110, g109, hz111⟩ := hf3 8 _ rfl
  replace g109 : DataW.trod enc Tryz.prog w 0 (fun _ => true) held m2 22 [c15] = some y110 := by rw [show Tryz.prog.cellsOf 22 = 1 from by kernel_rfl] at g109; exact g109
  obtain ⟨x_8, e112, h113⟩ := opu_str Tryz.underlying22 g109 hz111; obtain rfl := (List.cons.inj e112).1
  obtain ⟨y115, g114, hz116⟩ := hf3 9 _ rfl
  replace g114 : DataW.trod enc Tryz.prog w 0 (fun _ => true) held m2 22 [c16] = some y115 := by rw [show Tryz.prog.cellsOf 22 = 1 from by kernel_rfl] at g114; exact g114
  obtain ⟨x_9, e117, h118⟩ := opu_str Tryz.underlying22 g114 hz116; obtain rfl := (List.cons.inj e117).1
  exact ⟨x_0_0, x_0_1, x_1_0_0, x_1_0_1, x_1_1, x_1_2, x_2_0_0, x_2_0_1, x_2_1, x_2_2, x_3, x_4, x_5, x_6, x_7, x_8, x_9, rfl, h14, h19, h36, h41, h46, h51, h68, h73, h78, h83, h88, h93, h98, h103, h108, h113, h118⟩

set_option maxRecDepth 100000 in
theorem op_T37 {H : Type} {enc : TypeId × Value → H} {w : World} {held : Bool} {fuel : Nat} {cs : List Value} {x : DataW H × List MemPlace} (h : DataW.trod enc Tryz.prog w 0 (fun _ => true) held fuel 37 cs = some x) (hz : Wu Tryz.prog 37 x.1) :
    ∃ (x_0 : Bool) (x_1 : List UInt8), cs = [.bool x_0, .string (S x_1)] ∧ (x_1.length ≤ 140737488351232) := by
  have hl : cs.length = 2 := (op_struct Tryz.underlying37 h).1.trans (by kernel_rfl)
  obtain ⟨c0, c1, rfl⟩ : ∃ c0 c1, cs = [c0, c1] := by
    match cs, hl with
    | [c0, c1], _ => exact ⟨c0, c1, rfl⟩
  clear hl
  obtain ⟨_, m120, hf121⟩ := opu_struct Tryz.underlying37 h hz
  obtain ⟨y123, g122, hz124⟩ := hf121 0 _ rfl
  replace g122 : DataW.trod enc Tryz.prog w 0 (fun _ => true) held m120 4 [c0] = some y123 := by rw [show Tryz.prog.cellsOf 4 = 1 from by kernel_rfl] at g122; exact g122
  obtain ⟨x_0, e125⟩ := op_bool Tryz.underlying4 g122; obtain rfl := (List.cons.inj e125).1
  obtain ⟨y127, g126, hz128⟩ := hf121 1 _ rfl
  replace g126 : DataW.trod enc Tryz.prog w 0 (fun _ => true) held m120 22 [c1] = some y127 := by rw [show Tryz.prog.cellsOf 22 = 1 from by kernel_rfl] at g126; exact g126
  obtain ⟨x_1, e129, h130⟩ := opu_str Tryz.underlying22 g126 hz128; obtain rfl := (List.cons.inj e129).1
  exact ⟨x_0, x_1, rfl, h130⟩

set_option maxRecDepth 100000 in
theorem op_T43 {H : Type} {enc : TypeId × Value → H} {w : World} {held : Bool} {fuel : Nat} {cs : List Value} {x : DataW H × List MemPlace} (h : DataW.trod enc Tryz.prog w 0 (fun _ => true) held fuel 43 cs = some x) (hz : Wu Tryz.prog 43 x.1) :
    ∃ (x_0_0 : List UInt8) (x_0_1 : List UInt8) (x_0_2 : List UInt8) (x_1 : List UInt8) (x_2_0 : Bool) (x_2_1 : List UInt8) (x_3 : Sl (List UInt8)) (x_4 : Sl (Int)) (x_5 : Sl (List UInt8)) (x_6 : Sl (Zs)) (x_7_0 : Sl (List UInt8)) (x_7_1 : List UInt8) (x_7_2 : Int), cs = [.string (S x_0_0), .string (S x_0_1), .string (S x_0_2), .string (S x_1), .bool x_2_0, .string (S x_2_1), x_3.val, x_4.val, x_5.val, x_6.val, x_7_0.val, .string (S x_7_1), .int .i64 x_7_2] ∧ (x_0_0.length ≤ 140737488351232) ∧ (x_0_1.length ≤ 140737488351232) ∧ (x_0_2.length ≤ 140737488351232) ∧ (x_1.length ≤ 140737488351232) ∧ (x_2_1.length ≤ 140737488351232) ∧ (x_3.l.length ≤ x_3.cap) ∧ (x_3.cap * 16 ≤ 140737488351232) ∧ (x_3.l.length ≤ 1048576) ∧ ((Fact.sl x_3.a (x_3.l.map fun x => .string (S x))).holds (fun _ => True) w) ∧ ((∀ y ∈ x_3.l, (fun s : List UInt8 => s.length ≤ 140737488351232) y)) ∧ (x_4.l.length ≤ x_4.cap) ∧ (x_4.cap * 8 ≤ 140737488351232) ∧ (x_4.l.length ≤ 1048576) ∧ ((Fact.sl x_4.a (x_4.l.map fun x => .int .i64 x)).holds (fun _ => True) w) ∧ ((∀ y ∈ x_4.l, (fun n : Int => (Lit.int .i64 n).wf = true) y)) ∧ (x_5.l.length ≤ x_5.cap) ∧ (x_5.cap * 16 ≤ 140737488351232) ∧ (x_5.l.length ≤ 1048576) ∧ ((Fact.sl x_5.a (x_5.l.map fun x => .string (S x))).holds (fun _ => True) w) ∧ ((∀ y ∈ x_5.l, (fun s : List UInt8 => s.length ≤ 140737488351232) y)) ∧ (x_6.l.length ≤ x_6.cap) ∧ (x_6.cap * 24 ≤ 140737488351232) ∧ (x_6.l.length ≤ 1048576) ∧ ((Fact.sl x_6.a (x_6.l.flatMap zc)).holds (fun _ => True) w) ∧ ((∀ y ∈ x_6.l, (zFs w) y)) ∧ (x_7_0.l.length ≤ x_7_0.cap) ∧ (x_7_0.cap * 16 ≤ 140737488351232) ∧ (x_7_0.l.length ≤ 1048576) ∧ ((Fact.sl x_7_0.a (x_7_0.l.map fun x => .string (S x))).holds (fun _ => True) w) ∧ ((∀ y ∈ x_7_0.l, (fun s : List UInt8 => s.length ≤ 140737488351232) y)) ∧ (x_7_1.length ≤ 140737488351232) ∧ ((Lit.int .i64 x_7_2).wf = true) := by
  have hl : cs.length = 13 := (op_struct Tryz.underlying43 h).1.trans (by kernel_rfl)
  obtain ⟨c0, c1, c2, c3, c4, c5, c6, c7, c8, c9, c10, c11, c12, rfl⟩ : ∃ c0 c1 c2 c3 c4 c5 c6 c7 c8 c9 c10 c11 c12, cs = [c0, c1, c2, c3, c4, c5, c6, c7, c8, c9, c10, c11, c12] := by
    match cs, hl with
    | [c0, c1, c2, c3, c4, c5, c6, c7, c8, c9, c10, c11, c12], _ => exact ⟨c0, c1, c2, c3, c4, c5, c6, c7, c8, c9, c10, c11, c12, rfl⟩
  clear hl
  obtain ⟨_, m132, hf133⟩ := opu_struct Tryz.underlying43 h hz
  obtain ⟨y135, g134, hz136⟩ := hf133 0 _ rfl
  replace g134 : DataW.trod enc Tryz.prog w 0 (fun _ => true) held m132 35 [c0, c1, c2] = some y135 := by rw [show Tryz.prog.cellsOf 35 = 3 from by kernel_rfl] at g134; exact g134
  obtain ⟨_, m138, hf139⟩ := opu_struct Tryz.underlying35 g134 hz136
  obtain ⟨y141, g140, hz142⟩ := hf139 0 _ rfl
  replace g140 : DataW.trod enc Tryz.prog w 0 (fun _ => true) held m138 22 [c0] = some y141 := by rw [show Tryz.prog.cellsOf 22 = 1 from by kernel_rfl] at g140; exact g140
  obtain ⟨x_0_0, e143, h144⟩ := opu_str Tryz.underlying22 g140 hz142; obtain rfl := (List.cons.inj e143).1
  obtain ⟨y146, g145, hz147⟩ := hf139 1 _ rfl
  replace g145 : DataW.trod enc Tryz.prog w 0 (fun _ => true) held m138 22 [c1] = some y146 := by rw [show Tryz.prog.cellsOf 22 = 1 from by kernel_rfl] at g145; exact g145
  obtain ⟨x_0_1, e148, h149⟩ := opu_str Tryz.underlying22 g145 hz147; obtain rfl := (List.cons.inj e148).1
  obtain ⟨y151, g150, hz152⟩ := hf139 2 _ rfl
  replace g150 : DataW.trod enc Tryz.prog w 0 (fun _ => true) held m138 22 [c2] = some y151 := by rw [show Tryz.prog.cellsOf 22 = 1 from by kernel_rfl] at g150; exact g150
  obtain ⟨x_0_2, e153, h154⟩ := opu_str Tryz.underlying22 g150 hz152; obtain rfl := (List.cons.inj e153).1
  obtain ⟨y156, g155, hz157⟩ := hf133 1 _ rfl
  replace g155 : DataW.trod enc Tryz.prog w 0 (fun _ => true) held m132 22 [c3] = some y156 := by rw [show Tryz.prog.cellsOf 22 = 1 from by kernel_rfl] at g155; exact g155
  obtain ⟨x_1, e158, h159⟩ := opu_str Tryz.underlying22 g155 hz157; obtain rfl := (List.cons.inj e158).1
  obtain ⟨y161, g160, hz162⟩ := hf133 2 _ rfl
  replace g160 : DataW.trod enc Tryz.prog w 0 (fun _ => true) held m132 37 [c4, c5] = some y161 := by rw [show Tryz.prog.cellsOf 37 = 2 from by kernel_rfl] at g160; exact g160
  obtain ⟨_, m164, hf165⟩ := opu_struct Tryz.underlying37 g160 hz162
  obtain ⟨y167, g166, hz168⟩ := hf165 0 _ rfl
  replace g166 : DataW.trod enc Tryz.prog w 0 (fun _ => true) held m164 4 [c4] = some y167 := by rw [show Tryz.prog.cellsOf 4 = 1 from by kernel_rfl] at g166; exact g166
  obtain ⟨x_2_0, e169⟩ := op_bool Tryz.underlying4 g166; obtain rfl := (List.cons.inj e169).1
  obtain ⟨y171, g170, hz172⟩ := hf165 1 _ rfl
  replace g170 : DataW.trod enc Tryz.prog w 0 (fun _ => true) held m164 22 [c5] = some y171 := by rw [show Tryz.prog.cellsOf 22 = 1 from by kernel_rfl] at g170; exact g170
  obtain ⟨x_2_1, e173, h174⟩ := opu_str Tryz.underlying22 g170 hz172; obtain rfl := (List.cons.inj e173).1
  obtain ⟨y176, g175, hz177⟩ := hf133 3 _ rfl
  replace g175 : DataW.trod enc Tryz.prog w 0 (fun _ => true) held m132 31 [c6] = some y176 := by rw [show Tryz.prog.cellsOf 31 = 1 from by kernel_rfl] at g175; exact g175
  obtain ⟨x_3, e178, h179, h180, h181, h182, h183⟩ := opu_slice (cells := (fun s => [.string (S s)])) (F := (fun s : List UInt8 => s.length ≤ 140737488351232)) 1 16 (by kernel_rfl) Tryz.underlying31 (by kernel_rfl) (fun _ => rfl) (fun m cs y h hz => opu_str Tryz.underlying22 h hz) g175 hz177; obtain rfl := (List.cons.inj e178).1
  replace h182 := sl_map h182
  obtain ⟨y185, g184, hz186⟩ := hf133 4 _ rfl
  replace g184 : DataW.trod enc Tryz.prog w 0 (fun _ => true) held m132 38 [c7] = some y185 := by rw [show Tryz.prog.cellsOf 38 = 1 from by kernel_rfl] at g184; exact g184
  obtain ⟨x_4, e187, h188, h189, h190, h191, h192⟩ := opu_slice (cells := (fun n => [.int .i64 n])) (F := (fun n : Int => (Lit.int .i64 n).wf = true)) 1 8 (by kernel_rfl) Tryz.underlying38 (by kernel_rfl) (fun _ => rfl) (fun m cs y h _ => op_int Tryz.underlying3 h) g184 hz186; obtain rfl := (List.cons.inj e187).1
  replace h191 := sl_map h191
  obtain ⟨y194, g193, hz195⟩ := hf133 5 _ rfl
  replace g193 : DataW.trod enc Tryz.prog w 0 (fun _ => true) held m132 31 [c8] = some y194 := by rw [show Tryz.prog.cellsOf 31 = 1 from by kernel_rfl] at g193; exact g193
  obtain ⟨x_5, e196, h197, h198, h199, h200, h201⟩ := opu_slice (cells := (fun s => [.string (S s)])) (F := (fun s : List UInt8 => s.length ≤ 140737488351232)) 1 16 (by kernel_rfl) Tryz.underlying31 (by kernel_rfl) (fun _ => rfl) (fun m cs y h hz => opu_str Tryz.underlying22 h hz) g193 hz195; obtain rfl := (List.cons.inj e196).1
  replace h200 := sl_map h200
  obtain ⟨y203, g202, hz204⟩ := hf133 6 _ rfl
  replace g202 : DataW.trod enc Tryz.prog w 0 (fun _ => true) held m132 39 [c9] = some y203 := by rw [show Tryz.prog.cellsOf 39 = 1 from by kernel_rfl] at g202; exact g202
  obtain ⟨x_6, e205, h206, h207, h208, h209, h210⟩ := opu_slice (cells := zc) (F := (zFs w)) 2 24 (by kernel_rfl) Tryz.underlying39 (by kernel_rfl) (fun _ => rfl) (fun m cs y h hz => by obtain ⟨x_0, x_1, rfl, k0⟩ := op_T37 h hz; exact ⟨Prod.mk x_0 x_1, rfl, by first | trivial | assumption | (refine ⟨?_, ?_⟩ <;> assumption) | (refine ⟨?_, ?_, ?_⟩ <;> assumption) | (refine ⟨?_, ?_, ?_, ?_⟩ <;> assumption) | (refine ⟨?_, ?_, ?_, ?_, ?_⟩ <;> assumption) | simp_all⟩) g202 hz204; obtain rfl := (List.cons.inj e205).1
  obtain ⟨y212, g211, hz213⟩ := hf133 7 _ rfl
  replace g211 : DataW.trod enc Tryz.prog w 0 (fun _ => true) held m132 41 [c10, c11, c12] = some y212 := by rw [show Tryz.prog.cellsOf 41 = 3 from by kernel_rfl] at g211; exact g211
  obtain ⟨_, m215, hf216⟩ := opu_struct Tryz.underlying41 g211 hz213
  obtain ⟨y218, g217, hz219⟩ := hf216 0 _ rfl
  replace g217 : DataW.trod enc Tryz.prog w 0 (fun _ => true) held m215 31 [c10] = some y218 := by rw [show Tryz.prog.cellsOf 31 = 1 from by kernel_rfl] at g217; exact g217
  obtain ⟨x_7_0, e220, h221, h222, h223, h224, h225⟩ := opu_slice (cells := (fun s => [.string (S s)])) (F := (fun s : List UInt8 => s.length ≤ 140737488351232)) 1 16 (by kernel_rfl) Tryz.underlying31 (by kernel_rfl) (fun _ => rfl) (fun m cs y h hz => opu_str Tryz.underlying22 h hz) g217 hz219; obtain rfl := (List.cons.inj e220).1
  replace h224 := sl_map h224
  obtain ⟨y227, g226, hz228⟩ := hf216 1 _ rfl
  replace g226 : DataW.trod enc Tryz.prog w 0 (fun _ => true) held m215 9 [c11] = some y227 := by rw [show Tryz.prog.cellsOf 9 = 1 from by kernel_rfl] at g226; exact g226
  obtain ⟨x_7_1, e229, h230⟩ := opu_str Tryz.underlying9 g226 hz228; obtain rfl := (List.cons.inj e229).1
  obtain ⟨y232, g231, hz233⟩ := hf216 2 _ rfl
  replace g231 : DataW.trod enc Tryz.prog w 0 (fun _ => true) held m215 3 [c12] = some y232 := by rw [show Tryz.prog.cellsOf 3 = 1 from by kernel_rfl] at g231; exact g231
  obtain ⟨x_7_2, e234, h235⟩ := op_int Tryz.underlying3 g231; obtain rfl := (List.cons.inj e234).1
  exact ⟨x_0_0, x_0_1, x_0_2, x_1, x_2_0, x_2_1, x_3, x_4, x_5, x_6, x_7_0, x_7_1, x_7_2, rfl, h144, h149, h154, h159, h174, h179, h180, h181, h182, h183, h188, h189, h190, h191, h192, h197, h198, h199, h200, h201, h206, h207, h208, h209, h210, h221, h222, h223, h224, h225, h230, h235⟩

theorem tab {W : World} (h : laidMetH Tryz.prog Rows.showWitnessesUptoRow.laid W) : Tab W := by
  rw [MakeChecks.laidMetH_plain _ _ _ (by kernel_rfl)] at h
  obtain ⟨ps, h, _⟩ := h
  obtain ⟨_, h⟩ := laidVars_tail h
  obtain ⟨_, h⟩ := laidVars_tail h
  exact tab_of_vars (by kernel_rfl) Tryz.underlying289 Tryz.underlying76 (by kernel_rfl) (by kernel_rfl) h

theorem tabd {W : World} (h : laidMetH Tryz.prog Rows.showWitnessesUptoRow.laid W) : TabD W := by
  rw [MakeChecks.laidMetH_plain _ _ _ (by kernel_rfl)] at h
  obtain ⟨ps, h, _⟩ := h
  obtain ⟨_, h⟩ := laidVars_tail h
  exact tabd_of_is (tab_of_vars (by kernel_rfl) Tryz.underlying268 Tryz.underlying5 (by kernel_rfl) (by kernel_rfl) h)

theorem reads (os : Os) {H : Type} (enc : TypeId × Value → H) : ∃ places, DataW.whole enc Tryz.prog ((World.laidAll Tryz.prog os Rows.showWitnessesUptoRow.laid).forCall (fun _ _ => 0) ⟨#[], #[(.agg #[.string (S []), .string (S []), .string (S []), .string (S []), .string (S []), .string (S []), .string (S []), .string (S []), .string (S []), .string (S []), .string (S []), .string (S []), .string (S []), .string (S []), .string (S []), .string (S []), .string (S [])]), (.agg #[.string (S []), .string (S []), .string (S []), .string (S []), .bool false, .string (S []), .slice none 0 0, .slice none 0 0, .slice none 0 0, .slice none 0 0, .slice none 0 0, .string (S []), .int .i64 0])], []⟩).memory Tryz.f5.params.toList Rows.showWitnessesSpec.vars false #[(.agg #[.string (S []), .string (S []), .string (S []), .string (S []), .string (S []), .string (S []), .string (S []), .string (S []), .string (S []), .string (S []), .string (S []), .string (S []), .string (S []), .string (S []), .string (S []), .string (S []), .string (S [])]), (.agg #[.string (S []), .string (S []), .string (S []), .string (S []), .bool false, .string (S []), .slice none 0 0, .slice none 0 0, .slice none 0 0, .slice none 0 0, .slice none 0 0, .string (S []), .int .i64 0])].toList 8 = some ([.agg [.agg [.lit (.string []), .lit (.string [])], .agg [.agg [.lit (.string []), .lit (.string [])], .lit (.string []), .lit (.string [])], .agg [.agg [.lit (.string []), .lit (.string [])], .lit (.string []), .lit (.string [])], .lit (.string []), .lit (.string []), .lit (.string []), .lit (.string []), .lit (.string []), .lit (.string []), .lit (.string [])], .agg [.agg [.lit (.string []), .lit (.string []), .lit (.string [])], .lit (.string []), .agg [.lit (.bool false), .lit (.string [])], .nil, .nil, .nil, .nil, .agg [.nil, .lit (.string []), .lit (.int .i64 0)]]], [], places) :=
  ⟨[], by kernel_rfl⟩

theorem met (os : Os) : laidMetH Tryz.prog Rows.showWitnessesUptoRow.laid ((World.laidAll Tryz.prog os Rows.showWitnessesUptoRow.laid).forCall (fun _ _ => 0) ⟨#[], #[(.agg #[.string (S []), .string (S []), .string (S []), .string (S []), .string (S []), .string (S []), .string (S []), .string (S []), .string (S []), .string (S []), .string (S []), .string (S []), .string (S []), .string (S []), .string (S []), .string (S []), .string (S [])]), (.agg #[.string (S []), .string (S []), .string (S []), .string (S []), .bool false, .string (S []), .slice none 0 0, .slice none 0 0, .slice none 0 0, .slice none 0 0, .slice none 0 0, .string (S []), .int .i64 0])], []⟩).memory := by
  rw [MakeChecks.laidMetH_plain _ _ _ (by kernel_rfl)]; exact laidMet_laidAll _ (by kernel_rfl) (by kernel_rfl)

theorem sized (os : Os) {H : Type} (enc : TypeId × Value → H) : (Rows.OpenSpec.upto Rows.showWitnessesSpec).bare.sizedB enc Tryz.prog Tryz.f5 false ((World.laidAll Tryz.prog os Rows.showWitnessesUptoRow.laid).forCall (fun _ _ => 0) ⟨#[], #[(.agg #[.string (S []), .string (S []), .string (S []), .string (S []), .string (S []), .string (S []), .string (S []), .string (S []), .string (S []), .string (S []), .string (S []), .string (S []), .string (S []), .string (S []), .string (S []), .string (S []), .string (S [])]), (.agg #[.string (S []), .string (S []), .string (S []), .string (S []), .bool false, .string (S []), .slice none 0 0, .slice none 0 0, .slice none 0 0, .slice none 0 0, .slice none 0 0, .string (S []), .int .i64 0])], []⟩).memory #[(.agg #[.string (S []), .string (S []), .string (S []), .string (S []), .string (S []), .string (S []), .string (S []), .string (S []), .string (S []), .string (S []), .string (S []), .string (S []), .string (S []), .string (S []), .string (S []), .string (S []), .string (S [])]), (.agg #[.string (S []), .string (S []), .string (S []), .string (S []), .bool false, .string (S []), .slice none 0 0, .slice none 0 0, .slice none 0 0, .slice none 0 0, .slice none 0 0, .string (S []), .int .i64 0])] 8 = true := by kernel_rfl

theorem prerow (os : Os) {H : Type} (enc : TypeId × Value → H) : (Rows.OpenSpec.upto Rows.showWitnessesSpec).preRow enc Tryz.prog Tryz.f5 Rows.showWitnessesUptoRow.domain false Rows.showWitnessesUptoRow.laid ((World.laidAll Tryz.prog os Rows.showWitnessesUptoRow.laid).forCall (fun _ _ => 0) ⟨#[], #[(.agg #[.string (S []), .string (S []), .string (S []), .string (S []), .string (S []), .string (S []), .string (S []), .string (S []), .string (S []), .string (S []), .string (S []), .string (S []), .string (S []), .string (S []), .string (S []), .string (S []), .string (S [])]), (.agg #[.string (S []), .string (S []), .string (S []), .string (S []), .bool false, .string (S []), .slice none 0 0, .slice none 0 0, .slice none 0 0, .slice none 0 0, .slice none 0 0, .string (S []), .int .i64 0])], []⟩).memory #[(.agg #[.string (S []), .string (S []), .string (S []), .string (S []), .string (S []), .string (S []), .string (S []), .string (S []), .string (S []), .string (S []), .string (S []), .string (S []), .string (S []), .string (S []), .string (S []), .string (S []), .string (S [])]), (.agg #[.string (S []), .string (S []), .string (S []), .string (S []), .bool false, .string (S []), .slice none 0 0, .slice none 0 0, .slice none 0 0, .slice none 0 0, .slice none 0 0, .string (S []), .int .i64 0])] := by
  obtain ⟨places, hx⟩ := reads os enc
  exact OpenSpec.preRow_of_cond 8 hx (by kernel_rfl) (fun k hk => by cases hk; kernel_rfl) (sized os enc) (met os)

theorem there (os : Os) {H : Type} (enc : TypeId × Value → H) : ∃ (w : World) (tape : Tape) (i : Input), w.os = os ∧ (w.forCall tape i).Shaped Tryz.checked.prog ∧ i.vars = [] ∧ Input.okWide Tryz.checked.prog (w.forCall tape i) .any w.heap.size 5 i ∧ (Rows.OpenSpec.upto Rows.showWitnessesSpec).preRow enc Tryz.checked.prog Tryz.f5 Rows.showWitnessesUptoRow.domain false Rows.showWitnessesUptoRow.laid (w.forCall tape i).memory i.args ∧ ({ modest := false } : Assume).holds Tryz.checked.prog (lone (Frame.enter Tryz.checked.prog 5 i.args .normal) [] (w.forCall tape i)) :=
  witness_row_at (enc := enc) (C := Tryz.checked) (fn := Tryz.f5) (s := Rows.OpenSpec.upto Rows.showWitnessesSpec) (conds := Rows.showWitnessesUptoRow.domain) (apart := false) (laid := Rows.showWitnessesUptoRow.laid) false (World.laidAll Tryz.prog os Rows.showWitnessesUptoRow.laid) #[(.agg #[.string (S []), .string (S []), .string (S []), .string (S []), .string (S []), .string (S []), .string (S []), .string (S []), .string (S []), .string (S []), .string (S []), .string (S []), .string (S []), .string (S []), .string (S []), .string (S []), .string (S [])]), (.agg #[.string (S []), .string (S []), .string (S []), .string (S []), .bool false, .string (S []), .slice none 0 0, .slice none 0 0, .slice none 0 0, .slice none 0 0, .slice none 0 0, .string (S []), .int .i64 0])] (World.laidAll_os _ _ _) (by kernel_rfl) (by kernel_rfl) (by kernel_rfl) (prerow os enc)

set_option maxHeartbeats 1000000 in
set_option maxRecDepth 100000 in
theorem lifted (os : Os) (started : os.Started) (H : Type) (enc : TypeId × Value → H) (F : Stop.Interp) :
    ReturnsInHanded {} Tryz.checked os 5 .any ((Rows.OpenSpec.upto Rows.showWitnessesSpec).preRow enc Tryz.prog Tryz.f5 Rows.showWitnessesUptoRow.domain false Rows.showWitnessesUptoRow.laid) (((Rows.OpenSpec.upto Rows.showWitnessesSpec).at F).post enc Tryz.prog Tryz.f5 false true false false) := by
  refine returnsInHanded_of_row (C := Tryz.checked) (s := Rows.OpenSpec.upto Rows.showWitnessesSpec) own started (by kernel_rfl) Tryz.func5 (there os enc) ?_
  intro W base args ds gs before hval0 hW _ hcnd hwt0 hL _ _
  have hbk : Rows.uptoSmall H (ds ++ gs) = true := hcnd _ rfl
  have hTab : True → Tab W := fun _ => tab hL
  have hTabD : True → TabD W := fun _ => tabd hL
  clear hL
  have hval : ∀ (j : Nat) t v, Tryz.f5.params[j]? = some t → args[j]? = some v → Value.okWide Tryz.prog W .any base t v := hval0
  have hW' := hW
  obtain ⟨p, q, hA0, hV, rfl, hfz, hnd⟩ := hW
  have hA : DataW.TrodAll enc Tryz.prog W 0 (fun _ => true) true Tryz.f5.params.toList args.toList ds p := hA0
  rw [Tryz.params5] at hA hval
  obtain ⟨v0, vs0, d0, ds0, p0, q0, hargs, rfl, rfl, h0, r0⟩ := trodAll_cons hA
  obtain ⟨v1, vs1, d1, ds1, p1, q1, rfl, rfl, rfl, h1, r1⟩ := trodAll_cons r0
  obtain ⟨rfl, rfl, rfl⟩ := trodAll_nil r1
  obtain rfl : args = #[v0, v1] := by cases args; simp_all
  obtain ⟨rfl, rfl⟩ := trodVars_none hV
  have w0 : Wu Tryz.prog 30 d0 := wu_all (wt_all hwt0 (j := 0) (by rw [Tryz.params5]; rfl) rfl) (by simp) hbk
  have w1 : Wu Tryz.prog 43 d1 := wu_all (wt_all hwt0 (j := 1) (by rw [Tryz.params5]; rfl) rfl) (by simp) hbk
  have k0 := h0
  obtain ⟨fu0, f0⟩ := h0
  obtain ⟨cs0, rfl, hz0⟩ : ∃ cs, v0 = .agg cs ∧ cs.size = Tryz.prog.cellsOf 30 := by have q := (hval 0 30 v0 rfl rfl); simp only [Value.okWide, Tryz.underlying30] at q; obtain ⟨cs, q1, q2, _⟩ := q; exact ⟨cs, q1, q2⟩
  obtain ⟨a0_0_0, a0_0_1, a0_1_0_0, a0_1_0_1, a0_1_1, a0_1_2, a0_2_0_0, a0_2_0_1, a0_2_1, a0_2_2, a0_3, a0_4, a0_5, a0_6, a0_7, a0_8, a0_9, e0, z0_0, z0_1, z0_2, z0_3, z0_4, z0_5, z0_6, z0_7, z0_8, z0_9, z0_10, z0_11, z0_12, z0_13, z0_14, z0_15, z0_16⟩ := op_T30 f0 w0
  obtain rfl : cs0 = #[.string (S a0_0_0), .string (S a0_0_1), .string (S a0_1_0_0), .string (S a0_1_0_1), .string (S a0_1_1), .string (S a0_1_2), .string (S a0_2_0_0), .string (S a0_2_0_1), .string (S a0_2_1), .string (S a0_2_2), .string (S a0_3), .string (S a0_4), .string (S a0_5), .string (S a0_6), .string (S a0_7), .string (S a0_8), .string (S a0_9)] := Array.ext' e0
  have k1 := h1
  obtain ⟨fu1, f1⟩ := h1
  obtain ⟨cs1, rfl, hz1⟩ : ∃ cs, v1 = .agg cs ∧ cs.size = Tryz.prog.cellsOf 43 := by have q := (hval 1 43 v1 rfl rfl); simp only [Value.okWide, Tryz.underlying43] at q; obtain ⟨cs, q1, q2, _⟩ := q; exact ⟨cs, q1, q2⟩
  obtain ⟨a1_0_0, a1_0_1, a1_0_2, a1_1, a1_2_0, a1_2_1, a1_3, a1_4, a1_5, a1_6, a1_7_0, a1_7_1, a1_7_2, e1, z1_0, z1_1, z1_2, z1_3, z1_4, z1_5, z1_6, z1_7, z1_8, z1_9, z1_10, z1_11, z1_12, z1_13, z1_14, z1_15, z1_16, z1_17, z1_18, z1_19, z1_20, z1_21, z1_22, z1_23, z1_24, z1_25, z1_26, z1_27, z1_28, z1_29, z1_30, z1_31⟩ := op_T43 f1 w1
  obtain rfl : cs1 = #[.string (S a1_0_0), .string (S a1_0_1), .string (S a1_0_2), .string (S a1_1), .bool a1_2_0, .string (S a1_2_1), a1_3.val, a1_4.val, a1_5.val, a1_6.val, a1_7_0.val, .string (S a1_7_1), .int .i64 a1_7_2] := Array.ext' e1
  clear hA0 hval0
  have hcall : Calls Tryz.prog 5 #[.agg #[.string (S a0_0_0), .string (S a0_0_1), .string (S a0_1_0_0), .string (S a0_1_0_1), .string (S a0_1_1), .string (S a0_1_2), .string (S a0_2_0_0), .string (S a0_2_0_1), .string (S a0_2_1), .string (S a0_2_2), .string (S a0_3), .string (S a0_4), .string (S a0_5), .string (S a0_6), .string (S a0_7), .string (S a0_8), .string (S a0_9)], .agg #[.string (S a1_0_0), .string (S a1_0_1), .string (S a1_0_2), .string (S a1_1), .bool a1_2_0, .string (S a1_2_1), a1_3.val, a1_4.val, a1_5.val, a1_6.val, a1_7_0.val, .string (S a1_7_1), .int .i64 a1_7_2]] W (fun e w' => e = .returned (.bool true) ∧ Below W.heap.size W w') := shwits_l (p := ⟨a0_0_0, a0_0_1, ((a0_1_0_0, a0_1_0_1), a0_1_1, a0_1_2), ((a0_2_0_0, a0_2_0_1), a0_2_1, a0_2_2), a0_3, a0_4, a0_5, a0_6, a0_7, a0_8, a0_9⟩) (q := ⟨⟨a1_0_0, a1_0_1, a1_0_2⟩, a1_1, (a1_2_0, a1_2_1), a1_3.l, a1_4.l, a1_5.l, a1_6.l, ⟨a1_7_0.l, a1_7_1, a1_7_2⟩⟩) (ma := a1_3.a) (mc := a1_3.cap) (da := a1_4.a) (dc := a1_4.cap) (va := a1_5.a) (vc := a1_5.cap) (za := a1_6.a) (zc' := a1_6.cap) (xa := a1_7_0.a) (xc := a1_7_0.cap) (by first | assumption | rfl | omega | (have := wf_u8 (by assumption); omega) | (have := wf_i64 (by assumption); omega) | (simp [maxLen] at *; omega) | (intro y hy; exact (‹∀ y ∈ _, _› y hy))) (by first | assumption | rfl | omega | (have := wf_u8 (by assumption); omega) | (have := wf_i64 (by assumption); omega) | (simp [maxLen] at *; omega) | (intro y hy; exact (‹∀ y ∈ _, _› y hy))) (by first | assumption | rfl | omega | (have := wf_u8 (by assumption); omega) | (have := wf_i64 (by assumption); omega) | (simp [maxLen] at *; omega) | (intro y hy; exact (‹∀ y ∈ _, _› y hy))) (by first | assumption | rfl | omega | (have := wf_u8 (by assumption); omega) | (have := wf_i64 (by assumption); omega) | (simp [maxLen] at *; omega) | (intro y hy; exact (‹∀ y ∈ _, _› y hy))) (by first | assumption | rfl | omega | (have := wf_u8 (by assumption); omega) | (have := wf_i64 (by assumption); omega) | (simp [maxLen] at *; omega) | (intro y hy; exact (‹∀ y ∈ _, _› y hy))) (by first | assumption | rfl | omega | (have := wf_u8 (by assumption); omega) | (have := wf_i64 (by assumption); omega) | (simp [maxLen] at *; omega) | (intro y hy; exact (‹∀ y ∈ _, _› y hy))) (by first | assumption | rfl | omega | (have := wf_u8 (by assumption); omega) | (have := wf_i64 (by assumption); omega) | (simp [maxLen] at *; omega) | (intro y hy; exact (‹∀ y ∈ _, _› y hy))) (by first | assumption | rfl | omega | (have := wf_u8 (by assumption); omega) | (have := wf_i64 (by assumption); omega) | (simp [maxLen] at *; omega) | (intro y hy; exact (‹∀ y ∈ _, _› y hy))) (by first | assumption | rfl | omega | (have := wf_u8 (by assumption); omega) | (have := wf_i64 (by assumption); omega) | (simp [maxLen] at *; omega) | (intro y hy; exact (‹∀ y ∈ _, _› y hy))) (by first | assumption | rfl | omega | (have := wf_u8 (by assumption); omega) | (have := wf_i64 (by assumption); omega) | (simp [maxLen] at *; omega) | (intro y hy; exact (‹∀ y ∈ _, _› y hy))) (hTab trivial) (hTabD trivial)
  refine hcall.mono fun e W' ⟨he, bel⟩ => ?_
  subst he
  exact ⟨_, rfl, _, _, _, [], _, [], hW', trodAll_mk1 (shut_bool Tryz.underlying4 _), (trodAll_cons_mk (Below.trod laid (by kernel_rfl) (of_decide_eq_true (by kernel_rfl)) k0 bel (fun x hx => hW'.lt x (by simp [hx]))) (trodAll_cons_mk (Below.trod laid (by kernel_rfl) (of_decide_eq_true (by kernel_rfl)) k1 bel (fun x hx => hW'.lt x (by simp [hx]))) trodAll_mk0)), rfl, bel.frame _, fun h => by cases h⟩

theorem said : Rows.ShowWitnessesUptoSaid :=
  OpenClaim.holds_of_cond 5 Tryz.f5 rfl rfl rfl rfl rfl rfl rfl ⟨rfl, rfl, rfl, rfl, rfl⟩ rfl rfl rfl rfl rfl (by kernel_rfl) Tryz.func5 (by kernel_rfl)
    (of_decide_eq_true (by kernel_rfl)) (by unfold Func.isWrapper; first | (rw [if_pos (by decide +kernel)]; kernel_rfl) | (rw [if_neg (by decide +kernel)]; exact ⟨rfl, rfl⟩))
    (fun os started H enc _ F => by rw [OpenClaim.pre_eq_preRow]; exact lifted os started H enc F)

theorem plain (f : FuncId) (fn : Func) (hf : Tryz.pinned.checked.prog.funcNamed "domino/dominolaw32.ShowWitnesses" = some f) (hfn : Tryz.pinned.checked.prog.funcs[f]? = some fn) :
    false = Tryz.pinned.checked.prog.looks [] ∧ ∀ (j : Nat) t, fn.params[j]? = some t → Tryz.pinned.checked.prog.wantsStandIn t = false := by
  obtain rfl : f = 5 := Option.some.inj ((show Tryz.prog.funcNamed "domino/dominolaw32.ShowWitnesses" = some 5 by kernel_rfl).symm.trans hf) |>.symm
  obtain rfl : fn = Tryz.f5 := (Option.some.inj (Tryz.func5.symm.trans hfn)).symm
  refine ⟨by kernel_rfl, fun j t ht => ?_⟩
  rw [Tryz.params5] at ht
  have hm : t = 30 ∨ t = 43 := by simpa using Array.mem_of_getElem? ht
  rcases hm with rfl | rfl
  · exact (show Tryz.prog.wantsStandIn 30 = false by kernel_rfl)
  · exact (show Tryz.prog.wantsStandIn 43 = false by kernel_rfl)

theorem proved : Rows.ShowWitnessesUptoCardSaid :=
  Claim7.holds_tied_plain_at .later [] _ _ _ _ said (fun _ h => by cases h) (by kernel_rfl) (fun _ h => by cases h) showWitnessesUpto_row_tie rfl ⟨rfl, rfl⟩ (by kernel_rfl) rfl plain (by kernel_rfl)
end Go.Proofs.YtkdlonihbjhhoaaGreatDoor.showWitnesses
