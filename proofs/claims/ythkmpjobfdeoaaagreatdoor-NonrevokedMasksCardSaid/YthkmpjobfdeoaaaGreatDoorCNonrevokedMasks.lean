/-
  The statement NonrevokedMasks out of the walk of its Go function.
-/
import Derived.Test.YthkmpjobfdeoaaaGreatDoorCards
import Derived.Test.YthkmpjobfdeoaaaGreatDoorTie
import Derived.Test.YthkmpjobfdeoaaaGreatDoorJ22
import Derived.WalkKit
import Derived.ProofKit
import Derived.OpenShut
import Derived.ShutString
import Derived.ChangeOld
import Derived.Below
import Derived.Deep.DeepHandedRow
import Derived.Lay
import Derived.LaidMore
namespace Go.Proofs.YthkmpjobfdeoaaaGreatDoor.nonrevokedMasks
open Go.ChangeShapes Go.WideShapes Go.ChangeAt Go.RowKit
set_option linter.unusedVariables false
set_option linter.unusedSimpArgs false

theorem laid : laidOutB Tryz.prog = true := by kernel_rfl

theorem own : ownKnob Tryz.prog.godebug = none := by kernel_rfl

set_option maxRecDepth 100000 in
theorem op_T35 {H : Type} {enc : TypeId × Value → H} {w : World} {held : Bool} {fuel : Nat} {cs : List Value} {x : DataW H × List MemPlace} (h : DataW.trod enc Tryz.prog w 0 (fun _ => true) held fuel 35 cs = some x) (hz : Wt Tryz.prog 35 x.1) :
    ∃ (x_0_0_0 : List UInt8) (x_0_0_1 : List UInt8) (x_0_1_0_0 : List UInt8) (x_0_1_0_1 : List UInt8) (x_0_1_1 : List UInt8) (x_0_1_2 : List UInt8) (x_0_2_0_0 : List UInt8) (x_0_2_0_1 : List UInt8) (x_0_2_1 : List UInt8) (x_0_2_2 : List UInt8) (x_0_3 : List UInt8) (x_0_4 : List UInt8) (x_0_5 : List UInt8) (x_0_6 : List UInt8) (x_0_7 : List UInt8) (x_0_8 : List UInt8) (x_0_9 : List UInt8) (x_1_0 : List UInt8) (x_1_1_0 : List UInt8) (x_1_1_1 : List UInt8) (x_1_2 : List UInt8) (x_1_3 : List UInt8) (x_1_4 : Sl (List UInt8)) (x_1_5 : List UInt8) (x_1_6 : List UInt8) (x_2 : List UInt8) (x_3 : List UInt8) (x_4 : List UInt8) (x_5 : List UInt8), cs = [.string (S x_0_0_0), .string (S x_0_0_1), .string (S x_0_1_0_0), .string (S x_0_1_0_1), .string (S x_0_1_1), .string (S x_0_1_2), .string (S x_0_2_0_0), .string (S x_0_2_0_1), .string (S x_0_2_1), .string (S x_0_2_2), .string (S x_0_3), .string (S x_0_4), .string (S x_0_5), .string (S x_0_6), .string (S x_0_7), .string (S x_0_8), .string (S x_0_9), .string (S x_1_0), .string (S x_1_1_0), .string (S x_1_1_1), .string (S x_1_2), .string (S x_1_3), x_1_4.val, .string (S x_1_5), .string (S x_1_6), .string (S x_2), .string (S x_3), .string (S x_4), .string (S x_5)] ∧ (x_0_0_0.length ≤ 140737488351232) ∧ (x_0_0_1.length ≤ 140737488351232) ∧ (x_0_1_0_0.length ≤ 140737488351232) ∧ (x_0_1_0_1.length ≤ 140737488351232) ∧ (x_0_1_1.length ≤ 140737488351232) ∧ (x_0_1_2.length ≤ 140737488351232) ∧ (x_0_2_0_0.length ≤ 140737488351232) ∧ (x_0_2_0_1.length ≤ 140737488351232) ∧ (x_0_2_1.length ≤ 140737488351232) ∧ (x_0_2_2.length ≤ 140737488351232) ∧ (x_0_3.length ≤ 140737488351232) ∧ (x_0_4.length ≤ 140737488351232) ∧ (x_0_5.length ≤ 140737488351232) ∧ (x_0_6.length ≤ 140737488351232) ∧ (x_0_7.length ≤ 140737488351232) ∧ (x_0_8.length ≤ 140737488351232) ∧ (x_0_9.length ≤ 140737488351232) ∧ (x_1_0.length ≤ 140737488351232) ∧ (x_1_1_0.length ≤ 140737488351232) ∧ (x_1_1_1.length ≤ 140737488351232) ∧ (x_1_2.length ≤ 140737488351232) ∧ (x_1_3.length ≤ 140737488351232) ∧ (x_1_4.l.length ≤ x_1_4.cap) ∧ (x_1_4.cap * 16 ≤ 140737488351232) ∧ ((Fact.sl x_1_4.a (x_1_4.l.map fun x => .string (S x))).holds (fun _ => True) w) ∧ ((∀ y ∈ x_1_4.l, (fun s : List UInt8 => s.length ≤ 140737488351232) y)) ∧ (x_1_5.length ≤ 140737488351232) ∧ (x_1_6.length ≤ 140737488351232) ∧ (x_2.length ≤ 140737488351232) ∧ (x_3.length ≤ 140737488351232) ∧ (x_4.length ≤ 140737488351232) ∧ (x_5.length ≤ 140737488351232) := by
  have hl : cs.length = 29 := (op_struct Tryz.underlying35 h).1.trans (by kernel_rfl)
  obtain ⟨c0, c1, c2, c3, c4, c5, c6, c7, c8, c9, c10, c11, c12, c13, c14, c15, c16, c17, c18, c19, c20, c21, c22, c23, c24, c25, c26, c27, c28, rfl⟩ : ∃ c0 c1 c2 c3 c4 c5 c6 c7 c8 c9 c10 c11 c12 c13 c14 c15 c16 c17 c18 c19 c20 c21 c22 c23 c24 c25 c26 c27 c28, cs = [c0, c1, c2, c3, c4, c5, c6, c7, c8, c9, c10, c11, c12, c13, c14, c15, c16, c17, c18, c19, c20, c21, c22, c23, c24, c25, c26, c27, c28] := by
    match cs, hl with
    | [c0, c1, c2, c3, c4, c5, c6, c7, c8, c9, c10, c11, c12, c13, c14, c15, c16, c17, c18, c19, c20, c21, c22, c23, c24, c25, c26, c27, c28], _ => exact ⟨c0, c1, c2, c3, c4, c5, c6, c7, c8, c9, c10, c11, c12, c13, c14, c15, c16, c17, c18, c19, c20, c21, c22, c23, c24, c25, c26, c27, c28, rfl⟩
  clear hl
  obtain ⟨_, m2, hf3⟩ := opz_struct Tryz.underlying35 h hz
  obtain ⟨y5, g4, hz6⟩ := hf3 0 _ rfl
  replace g4 : DataW.trod enc Tryz.prog w 0 (fun _ => true) held m2 30 [c0, c1, c2, c3, c4, c5, c6, c7, c8, c9, c10, c11, c12, c13, c14, c15, c16] = some y5 := by rw [show Tryz.prog.cellsOf 30 = 17 from by kernel_rfl] at g4; exact g4
  obtain ⟨_, m8, hf9⟩ := opz_struct Tryz.underlying30 g4 hz6
  obtain ⟨y11, g10, hz12⟩ := hf9 0 _ rfl
  replace g10 : DataW.trod enc Tryz.prog w 0 (fun _ => true) held m8 24 [c0, c1] = some y11 := by rw [show Tryz.prog.cellsOf 24 = 2 from by kernel_rfl] at g10; exact g10
  obtain ⟨_, m14, hf15⟩ := opz_struct Tryz.underlying24 g10 hz12
  obtain ⟨y17, g16, hz18⟩ := hf15 0 _ rfl
  replace g16 : DataW.trod enc Tryz.prog w 0 (fun _ => true) held m14 22 [c0] = some y17 := by rw [show Tryz.prog.cellsOf 22 = 1 from by kernel_rfl] at g16; exact g16
  obtain ⟨x_0_0_0, e19, h20⟩ := opz_str Tryz.underlying22 g16 hz18; obtain rfl := (List.cons.inj e19).1
  obtain ⟨y22, g21, hz23⟩ := hf15 1 _ rfl
  replace g21 : DataW.trod enc Tryz.prog w 0 (fun _ => true) held m14 22 [c1] = some y22 := by rw [show Tryz.prog.cellsOf 22 = 1 from by kernel_rfl] at g21; exact g21
  obtain ⟨x_0_0_1, e24, h25⟩ := opz_str Tryz.underlying22 g21 hz23; obtain rfl := (List.cons.inj e24).1
  obtain ⟨y27, g26, hz28⟩ := hf9 1 _ rfl
  replace g26 : DataW.trod enc Tryz.prog w 0 (fun _ => true) held m8 28 [c2, c3, c4, c5] = some y27 := by rw [show Tryz.prog.cellsOf 28 = 4 from by kernel_rfl] at g26; exact g26
  obtain ⟨_, m30, hf31⟩ := opz_struct Tryz.underlying28 g26 hz28
  obtain ⟨y33, g32, hz34⟩ := hf31 0 _ rfl
  replace g32 : DataW.trod enc Tryz.prog w 0 (fun _ => true) held m30 26 [c2, c3] = some y33 := by rw [show Tryz.prog.cellsOf 26 = 2 from by kernel_rfl] at g32; exact g32
  obtain ⟨_, m36, hf37⟩ := opz_struct Tryz.underlying26 g32 hz34
  obtain ⟨y39, g38, hz40⟩ := hf37 0 _ rfl
  replace g38 : DataW.trod enc Tryz.prog w 0 (fun _ => true) held m36 22 [c2] = some y39 := by rw [show Tryz.prog.cellsOf 22 = 1 from by kernel_rfl] at g38; exact g38
  obtain ⟨x_0_1_0_0, e41, h42⟩ := opz_str Tryz.underlying22 g38 hz40; obtain rfl := (List.cons.inj e41).1
  obtain ⟨y44, g43, hz45⟩ := hf37 1 _ rfl
  replace g43 : DataW.trod enc Tryz.prog w 0 (fun _ => true) held m36 22 [c3] = some y44 := by rw [show Tryz.prog.cellsOf 22 = 1 from by kernel_rfl] at g43; exact g43
  obtain ⟨x_0_1_0_1, e46, h47⟩ := opz_str Tryz.underlying22 g43 hz45; obtain rfl := (List.cons.inj e46).1
  obtain ⟨y49, g48, hz50⟩ := hf31 1 _ rfl
  replace g48 : DataW.trod enc Tryz.prog w 0 (fun _ => true) held m30 22 [c4] = some y49 := by rw [show Tryz.prog.cellsOf 22 = 1 from by kernel_rfl] at g48; exact g48
  obtain ⟨x_0_1_1, e51, h52⟩ := opz_str Tryz.underlying22 g48 hz50; obtain rfl := (List.cons.inj e51).1
  obtain ⟨y54, g53, hz55⟩ := hf31 2 _ rfl
  replace g53 : DataW.trod enc Tryz.prog w 0 (fun _ => true) held m30 22 [c5] = some y54 := by rw [show Tryz.prog.cellsOf 22 = 1 from by kernel_rfl] at g53; exact g53
  obtain ⟨x_0_1_2, e56, h57⟩ := opz_str Tryz.underlying22 g53 hz55; obtain rfl := (List.cons.inj e56).1
  obtain ⟨y59, g58, hz60⟩ := hf9 2 _ rfl
  replace g58 : DataW.trod enc Tryz.prog w 0 (fun _ => true) held m8 28 [c6, c7, c8, c9] = some y59 := by rw [show Tryz.prog.cellsOf 28 = 4 from by kernel_rfl] at g58; exact g58
  obtain ⟨_, m62, hf63⟩ := opz_struct Tryz.underlying28 g58 hz60
  obtain ⟨y65, g64, hz66⟩ := hf63 0 _ rfl
  replace g64 : DataW.trod enc Tryz.prog w 0 (fun _ => true) held m62 26 [c6, c7] = some y65 := by rw [show Tryz.prog.cellsOf 26 = 2 from by kernel_rfl] at g64; exact g64
  obtain ⟨_, m68, hf69⟩ := opz_struct Tryz.underlying26 g64 hz66
  obtain ⟨y71, g70, hz72⟩ := hf69 0 _ rfl
  replace g70 : DataW.trod enc Tryz.prog w 0 (fun _ => true) held m68 22 [c6] = some y71 := by rw [show Tryz.prog.cellsOf 22 = 1 from by kernel_rfl] at g70; exact g70
  obtain ⟨x_0_2_0_0, e73, h74⟩ := opz_str Tryz.underlying22 g70 hz72; obtain rfl := (List.cons.inj e73).1
  obtain ⟨y76, g75, hz77⟩ := hf69 1 _ rfl
  replace g75 : DataW.trod enc Tryz.prog w 0 (fun _ => true) held m68 22 [c7] = some y76 := by rw [show Tryz.prog.cellsOf 22 = 1 from by kernel_rfl] at g75; exact g75
  obtain ⟨x_0_2_0_1, e78, h79⟩ := opz_str Tryz.underlying22 g75 hz77; obtain rfl := (List.cons.inj e78).1
  obtain ⟨y81, g80, hz82⟩ := hf63 1 _ rfl
  replace g80 : DataW.trod enc Tryz.prog w 0 (fun _ => true) held m62 22 [c8] = some y81 := by rw [show Tryz.prog.cellsOf 22 = 1 from by kernel_rfl] at g80; exact g80
  obtain ⟨x_0_2_1, e83, h84⟩ := opz_str Tryz.underlying22 g80 hz82; obtain rfl := (List.cons.inj e83).1
  obtain ⟨y86, g85, hz87⟩ := hf63 2 _ rfl
  replace g85 : DataW.trod enc Tryz.prog w 0 (fun _ => true) held m62 22 [c9] = some y86 := by rw [show Tryz.prog.cellsOf 22 = 1 from by kernel_rfl] at g85; exact g85
  obtain ⟨x_0_2_2, e88, h89⟩ := opz_str Tryz.underlying22 g85 hz87; obtain rfl := (List.cons.inj e88).1
  obtain ⟨y91, g90, hz92⟩ := hf9 3 _ rfl
  replace g90 : DataW.trod enc Tryz.prog w 0 (fun _ => true) held m8 22 [c10] = some y91 := by rw [show Tryz.prog.cellsOf 22 = 1 from by kernel_rfl] at g90; exact g90
  obtain ⟨x_0_3, e93, h94⟩ := opz_str Tryz.underlying22 g90 hz92; obtain rfl := (List.cons.inj e93).1
  obtain ⟨y96, g95, hz97⟩ := hf9 4 _ rfl
  replace g95 : DataW.trod enc Tryz.prog w 0 (fun _ => true) held m8 22 [c11] = some y96 := by rw [show Tryz.prog.cellsOf 22 = 1 from by kernel_rfl] at g95; exact g95
  obtain ⟨x_0_4, e98, h99⟩ := opz_str Tryz.underlying22 g95 hz97; obtain rfl := (List.cons.inj e98).1
  obtain ⟨y101, g100, hz102⟩ := hf9 5 _ rfl
  replace g100 : DataW.trod enc Tryz.prog w 0 (fun _ => true) held m8 22 [c12] = some y101 := by rw [show Tryz.prog.cellsOf 22 = 1 from by kernel_rfl] at g100; exact g100
  obtain ⟨x_0_5, e103, h104⟩ := opz_str Tryz.underlying22 g100 hz102; obtain rfl := (List.cons.inj e103).1
  obtain ⟨y106, g105, hz107⟩ := hf9 6 _ rfl
  replace g105 : DataW.trod enc Tryz.prog w 0 (fun _ => true) held m8 22 [c13] = some y106 := by rw [show Tryz.prog.cellsOf 22 = 1 from by kernel_rfl] at g105; exact g105
  obtain ⟨x_0_6, e108, h109⟩ := opz_str Tryz.underlying22 g105 hz107; obtain rfl := (List.cons.inj e108).1
  obtain ⟨y111, g110, hz112⟩ := hf9 7 _ rfl
  replace g110 : DataW.trod enc Tryz.prog w 0 (fun _ => true) held m8 22 [c14] = some y111 := by rw [show Tryz.prog.cellsOf 22 = 1 from by kernel_rfl] at g110; exact g110
  obtain ⟨x_0_7, e113, h114⟩ := opz_str Tryz.underlying22 g110 hz112; obtain rfl := (List.cons.inj e113).1
  obtain ⟨y116, g115, hz117⟩ := hf9 8 _ rfl
  replace g115 : DataW.trod enc Tryz.prog w 0 (fun _ => true) held m8 22 [c15] = some y116 := by rw [show Tryz.prog.cellsOf 22 = 1 from by kernel_rfl] at g115; exact g115
  obtain ⟨x_0_8, e118, h119⟩ := opz_str Tryz.underlying22 g115 hz117; obtain rfl := (List.cons.inj e118).1
  obtain ⟨y121, g120, hz122⟩ := hf9 9 _ rfl
  replace g120 : DataW.trod enc Tryz.prog w 0 (fun _ => true) held m8 22 [c16] = some y121 := by rw [show Tryz.prog.cellsOf 22 = 1 from by kernel_rfl] at g120; exact g120
  obtain ⟨x_0_9, e123, h124⟩ := opz_str Tryz.underlying22 g120 hz122; obtain rfl := (List.cons.inj e123).1
  obtain ⟨y126, g125, hz127⟩ := hf3 1 _ rfl
  replace g125 : DataW.trod enc Tryz.prog w 0 (fun _ => true) held m2 33 [c17, c18, c19, c20, c21, c22, c23, c24] = some y126 := by rw [show Tryz.prog.cellsOf 33 = 8 from by kernel_rfl] at g125; exact g125
  obtain ⟨_, m129, hf130⟩ := opz_struct Tryz.underlying33 g125 hz127
  obtain ⟨y132, g131, hz133⟩ := hf130 0 _ rfl
  replace g131 : DataW.trod enc Tryz.prog w 0 (fun _ => true) held m129 9 [c17] = some y132 := by rw [show Tryz.prog.cellsOf 9 = 1 from by kernel_rfl] at g131; exact g131
  obtain ⟨x_1_0, e134, h135⟩ := opz_str Tryz.underlying9 g131 hz133; obtain rfl := (List.cons.inj e134).1
  obtain ⟨y137, g136, hz138⟩ := hf130 1 _ rfl
  replace g136 : DataW.trod enc Tryz.prog w 0 (fun _ => true) held m129 26 [c18, c19] = some y137 := by rw [show Tryz.prog.cellsOf 26 = 2 from by kernel_rfl] at g136; exact g136
  obtain ⟨_, m140, hf141⟩ := opz_struct Tryz.underlying26 g136 hz138
  obtain ⟨y143, g142, hz144⟩ := hf141 0 _ rfl
  replace g142 : DataW.trod enc Tryz.prog w 0 (fun _ => true) held m140 22 [c18] = some y143 := by rw [show Tryz.prog.cellsOf 22 = 1 from by kernel_rfl] at g142; exact g142
  obtain ⟨x_1_1_0, e145, h146⟩ := opz_str Tryz.underlying22 g142 hz144; obtain rfl := (List.cons.inj e145).1
  obtain ⟨y148, g147, hz149⟩ := hf141 1 _ rfl
  replace g147 : DataW.trod enc Tryz.prog w 0 (fun _ => true) held m140 22 [c19] = some y148 := by rw [show Tryz.prog.cellsOf 22 = 1 from by kernel_rfl] at g147; exact g147
  obtain ⟨x_1_1_1, e150, h151⟩ := opz_str Tryz.underlying22 g147 hz149; obtain rfl := (List.cons.inj e150).1
  obtain ⟨y153, g152, hz154⟩ := hf130 2 _ rfl
  replace g152 : DataW.trod enc Tryz.prog w 0 (fun _ => true) held m129 22 [c20] = some y153 := by rw [show Tryz.prog.cellsOf 22 = 1 from by kernel_rfl] at g152; exact g152
  obtain ⟨x_1_2, e155, h156⟩ := opz_str Tryz.underlying22 g152 hz154; obtain rfl := (List.cons.inj e155).1
  obtain ⟨y158, g157, hz159⟩ := hf130 3 _ rfl
  replace g157 : DataW.trod enc Tryz.prog w 0 (fun _ => true) held m129 22 [c21] = some y158 := by rw [show Tryz.prog.cellsOf 22 = 1 from by kernel_rfl] at g157; exact g157
  obtain ⟨x_1_3, e160, h161⟩ := opz_str Tryz.underlying22 g157 hz159; obtain rfl := (List.cons.inj e160).1
  obtain ⟨y163, g162, hz164⟩ := hf130 4 _ rfl
  replace g162 : DataW.trod enc Tryz.prog w 0 (fun _ => true) held m129 31 [c22] = some y163 := by rw [show Tryz.prog.cellsOf 31 = 1 from by kernel_rfl] at g162; exact g162
  obtain ⟨x_1_4, e165, h166, h167, h168, h169⟩ := opz_slice (cells := (fun s => [.string (S s)])) (F := (fun s : List UInt8 => s.length ≤ 140737488351232)) 1 16 (by kernel_rfl) Tryz.underlying31 (by kernel_rfl) (fun _ => rfl) (fun m cs y h hz => opz_str Tryz.underlying22 h hz) g162 hz164; obtain rfl := (List.cons.inj e165).1
  replace h168 := sl_map h168
  obtain ⟨y171, g170, hz172⟩ := hf130 5 _ rfl
  replace g170 : DataW.trod enc Tryz.prog w 0 (fun _ => true) held m129 22 [c23] = some y171 := by rw [show Tryz.prog.cellsOf 22 = 1 from by kernel_rfl] at g170; exact g170
  obtain ⟨x_1_5, e173, h174⟩ := opz_str Tryz.underlying22 g170 hz172; obtain rfl := (List.cons.inj e173).1
  obtain ⟨y176, g175, hz177⟩ := hf130 6 _ rfl
  replace g175 : DataW.trod enc Tryz.prog w 0 (fun _ => true) held m129 22 [c24] = some y176 := by rw [show Tryz.prog.cellsOf 22 = 1 from by kernel_rfl] at g175; exact g175
  obtain ⟨x_1_6, e178, h179⟩ := opz_str Tryz.underlying22 g175 hz177; obtain rfl := (List.cons.inj e178).1
  obtain ⟨y181, g180, hz182⟩ := hf3 2 _ rfl
  replace g180 : DataW.trod enc Tryz.prog w 0 (fun _ => true) held m2 22 [c25] = some y181 := by rw [show Tryz.prog.cellsOf 22 = 1 from by kernel_rfl] at g180; exact g180
  obtain ⟨x_2, e183, h184⟩ := opz_str Tryz.underlying22 g180 hz182; obtain rfl := (List.cons.inj e183).1
  obtain ⟨y186, g185, hz187⟩ := hf3 3 _ rfl
  replace g185 : DataW.trod enc Tryz.prog w 0 (fun _ => true) held m2 22 [c26] = some y186 := by rw [show Tryz.prog.cellsOf 22 = 1 from by kernel_rfl] at g185; exact g185
  obtain ⟨x_3, e188, h189⟩ := opz_str Tryz.underlying22 g185 hz187; obtain rfl := (List.cons.inj e188).1
  obtain ⟨y191, g190, hz192⟩ := hf3 4 _ rfl
  replace g190 : DataW.trod enc Tryz.prog w 0 (fun _ => true) held m2 22 [c27] = some y191 := by rw [show Tryz.prog.cellsOf 22 = 1 from by kernel_rfl] at g190; exact g190
  obtain ⟨x_4, e193, h194⟩ := opz_str Tryz.underlying22 g190 hz192; obtain rfl := (List.cons.inj e193).1
  obtain ⟨y196, g195, hz197⟩ := hf3 5 _ rfl
  replace g195 : DataW.trod enc Tryz.prog w 0 (fun _ => true) held m2 22 [c28] = some y196 := by rw [show Tryz.prog.cellsOf 22 = 1 from by kernel_rfl] at g195; exact g195
  obtain ⟨x_5, e198, h199⟩ := opz_str Tryz.underlying22 g195 hz197; obtain rfl := (List.cons.inj e198).1
  exact ⟨x_0_0_0, x_0_0_1, x_0_1_0_0, x_0_1_0_1, x_0_1_1, x_0_1_2, x_0_2_0_0, x_0_2_0_1, x_0_2_1, x_0_2_2, x_0_3, x_0_4, x_0_5, x_0_6, x_0_7, x_0_8, x_0_9, x_1_0, x_1_1_0, x_1_1_1, x_1_2, x_1_3, x_1_4, x_1_5, x_1_6, x_2, x_3, x_4, x_5, rfl, h20, h25, h42, h47, h52, h57, h74, h79, h84, h89, h94, h99, h104, h109, h114, h119, h124, h135, h146, h151, h156, h161, h166, h167, h168, h169, h174, h179, h184, h189, h194, h199⟩

set_option maxRecDepth 100000 in
theorem op_T66 {H : Type} {enc : TypeId × Value → H} {w : World} {held : Bool} {fuel : Nat} {cs : List Value} {x : DataW H × List MemPlace} (h : DataW.trod enc Tryz.prog w 0 (fun _ => true) held fuel 66 cs = some x) (hz : Wt Tryz.prog 66 x.1) :
    ∃ (x_0 : Sl (List UInt8)) (x_1 : List UInt8) (x_2 : Int), cs = [x_0.val, .string (S x_1), .int .i64 x_2] ∧ (x_0.l.length ≤ x_0.cap) ∧ (x_0.cap * 16 ≤ 140737488351232) ∧ ((Fact.sl x_0.a (x_0.l.map fun x => .string (S x))).holds (fun _ => True) w) ∧ ((∀ y ∈ x_0.l, (fun s : List UInt8 => s.length ≤ 140737488351232) y)) ∧ (x_1.length ≤ 140737488351232) ∧ ((Lit.int .i64 x_2).wf = true) := by
  have hl : cs.length = 3 := (op_struct Tryz.underlying66 h).1.trans (by kernel_rfl)
  obtain ⟨c0, c1, c2, rfl⟩ : ∃ c0 c1 c2, cs = [c0, c1, c2] := by
    match cs, hl with
    | [c0, c1, c2], _ => exact ⟨c0, c1, c2, rfl⟩
  clear hl
  obtain ⟨_, m201, hf202⟩ := opz_struct Tryz.underlying66 h hz
  obtain ⟨y204, g203, hz205⟩ := hf202 0 _ rfl
  replace g203 : DataW.trod enc Tryz.prog w 0 (fun _ => true) held m201 31 [c0] = some y204 := by rw [show Tryz.prog.cellsOf 31 = 1 from by kernel_rfl] at g203; exact g203
  obtain ⟨x_0, e206, h207, h208, h209, h210⟩ := opz_slice (cells := (fun s => [.string (S s)])) (F := (fun s : List UInt8 => s.length ≤ 140737488351232)) 1 16 (by kernel_rfl) Tryz.underlying31 (by kernel_rfl) (fun _ => rfl) (fun m cs y h hz => opz_str Tryz.underlying22 h hz) g203 hz205; obtain rfl := (List.cons.inj e206).1
  replace h209 := sl_map h209
  obtain ⟨y212, g211, hz213⟩ := hf202 1 _ rfl
  replace g211 : DataW.trod enc Tryz.prog w 0 (fun _ => true) held m201 9 [c1] = some y212 := by rw [show Tryz.prog.cellsOf 9 = 1 from by kernel_rfl] at g211; exact g211
  obtain ⟨x_1, e214, h215⟩ := opz_str Tryz.underlying9 g211 hz213; obtain rfl := (List.cons.inj e214).1
  obtain ⟨y217, g216, hz218⟩ := hf202 2 _ rfl
  replace g216 : DataW.trod enc Tryz.prog w 0 (fun _ => true) held m201 3 [c2] = some y217 := by rw [show Tryz.prog.cellsOf 3 = 1 from by kernel_rfl] at g216; exact g216
  obtain ⟨x_2, e219, h220⟩ := op_int Tryz.underlying3 g216; obtain rfl := (List.cons.inj e219).1
  exact ⟨x_0, x_1, x_2, rfl, h207, h208, h209, h210, h215, h220⟩

theorem tab {W : World} (h : laidMetH Tryz.prog Rows.nonrevokedMasksRow.laid W) : Tab W := by
  rw [MakeChecks.laidMetH_plain _ _ _ (by kernel_rfl)] at h
  obtain ⟨ps, h, _⟩ := h
  obtain ⟨_, h⟩ := laidVars_tail h
  obtain ⟨_, h⟩ := laidVars_tail h
  exact tab_of_vars (by kernel_rfl) Tryz.underlying266 Tryz.underlying74 (by kernel_rfl) (by kernel_rfl) h

theorem tabd {W : World} (h : laidMetH Tryz.prog Rows.nonrevokedMasksRow.laid W) : TabD W := by
  rw [MakeChecks.laidMetH_plain _ _ _ (by kernel_rfl)] at h
  obtain ⟨ps, h, _⟩ := h
  obtain ⟨_, h⟩ := laidVars_tail h
  exact tabd_of_is (tab_of_vars (by kernel_rfl) Tryz.underlying241 Tryz.underlying5 (by kernel_rfl) (by kernel_rfl) h)

theorem reads (os : Os) {H : Type} (enc : TypeId × Value → H) : ∃ places, DataW.whole enc Tryz.prog ((World.laidAll Tryz.prog os Rows.nonrevokedMasksRow.laid).forCall (fun _ _ => 0) ⟨#[], #[(.agg #[.string (S []), .string (S []), .string (S []), .string (S []), .string (S []), .string (S []), .string (S []), .string (S []), .string (S []), .string (S []), .string (S []), .string (S []), .string (S []), .string (S []), .string (S []), .string (S []), .string (S []), .string (S []), .string (S []), .string (S []), .string (S []), .string (S []), .slice none 0 0, .string (S []), .string (S []), .string (S []), .string (S []), .string (S []), .string (S [])]), (.agg #[.slice none 0 0, .string (S []), .int .i64 0])], []⟩).memory Tryz.f6.params.toList Rows.nonrevokedMasksSpec.vars false #[(.agg #[.string (S []), .string (S []), .string (S []), .string (S []), .string (S []), .string (S []), .string (S []), .string (S []), .string (S []), .string (S []), .string (S []), .string (S []), .string (S []), .string (S []), .string (S []), .string (S []), .string (S []), .string (S []), .string (S []), .string (S []), .string (S []), .string (S []), .slice none 0 0, .string (S []), .string (S []), .string (S []), .string (S []), .string (S []), .string (S [])]), (.agg #[.slice none 0 0, .string (S []), .int .i64 0])].toList 8 = some ([.agg [.agg [.agg [.lit (.string []), .lit (.string [])], .agg [.agg [.lit (.string []), .lit (.string [])], .lit (.string []), .lit (.string [])], .agg [.agg [.lit (.string []), .lit (.string [])], .lit (.string []), .lit (.string [])], .lit (.string []), .lit (.string []), .lit (.string []), .lit (.string []), .lit (.string []), .lit (.string []), .lit (.string [])], .agg [.lit (.string []), .agg [.lit (.string []), .lit (.string [])], .lit (.string []), .lit (.string []), .nil, .lit (.string []), .lit (.string [])], .lit (.string []), .lit (.string []), .lit (.string []), .lit (.string [])], .agg [.nil, .lit (.string []), .lit (.int .i64 0)]], [], places) :=
  ⟨[], by kernel_rfl⟩

theorem met (os : Os) : laidMetH Tryz.prog Rows.nonrevokedMasksRow.laid ((World.laidAll Tryz.prog os Rows.nonrevokedMasksRow.laid).forCall (fun _ _ => 0) ⟨#[], #[(.agg #[.string (S []), .string (S []), .string (S []), .string (S []), .string (S []), .string (S []), .string (S []), .string (S []), .string (S []), .string (S []), .string (S []), .string (S []), .string (S []), .string (S []), .string (S []), .string (S []), .string (S []), .string (S []), .string (S []), .string (S []), .string (S []), .string (S []), .slice none 0 0, .string (S []), .string (S []), .string (S []), .string (S []), .string (S []), .string (S [])]), (.agg #[.slice none 0 0, .string (S []), .int .i64 0])], []⟩).memory := by
  rw [MakeChecks.laidMetH_plain _ _ _ (by kernel_rfl)]; exact laidMet_laidAll _ (by kernel_rfl) (by kernel_rfl)

theorem sized (os : Os) {H : Type} (enc : TypeId × Value → H) : (OpenSpec.ofChange Rows.nonrevokedMasksSpec).bare.sizedB enc Tryz.prog Tryz.f6 false ((World.laidAll Tryz.prog os Rows.nonrevokedMasksRow.laid).forCall (fun _ _ => 0) ⟨#[], #[(.agg #[.string (S []), .string (S []), .string (S []), .string (S []), .string (S []), .string (S []), .string (S []), .string (S []), .string (S []), .string (S []), .string (S []), .string (S []), .string (S []), .string (S []), .string (S []), .string (S []), .string (S []), .string (S []), .string (S []), .string (S []), .string (S []), .string (S []), .slice none 0 0, .string (S []), .string (S []), .string (S []), .string (S []), .string (S []), .string (S [])]), (.agg #[.slice none 0 0, .string (S []), .int .i64 0])], []⟩).memory #[(.agg #[.string (S []), .string (S []), .string (S []), .string (S []), .string (S []), .string (S []), .string (S []), .string (S []), .string (S []), .string (S []), .string (S []), .string (S []), .string (S []), .string (S []), .string (S []), .string (S []), .string (S []), .string (S []), .string (S []), .string (S []), .string (S []), .string (S []), .slice none 0 0, .string (S []), .string (S []), .string (S []), .string (S []), .string (S []), .string (S [])]), (.agg #[.slice none 0 0, .string (S []), .int .i64 0])] 8 = true := by kernel_rfl

theorem prerow (os : Os) {H : Type} (enc : TypeId × Value → H) : (OpenSpec.ofChange Rows.nonrevokedMasksSpec).preRow enc Tryz.prog Tryz.f6 Rows.nonrevokedMasksRow.domain false Rows.nonrevokedMasksRow.laid ((World.laidAll Tryz.prog os Rows.nonrevokedMasksRow.laid).forCall (fun _ _ => 0) ⟨#[], #[(.agg #[.string (S []), .string (S []), .string (S []), .string (S []), .string (S []), .string (S []), .string (S []), .string (S []), .string (S []), .string (S []), .string (S []), .string (S []), .string (S []), .string (S []), .string (S []), .string (S []), .string (S []), .string (S []), .string (S []), .string (S []), .string (S []), .string (S []), .slice none 0 0, .string (S []), .string (S []), .string (S []), .string (S []), .string (S []), .string (S [])]), (.agg #[.slice none 0 0, .string (S []), .int .i64 0])], []⟩).memory #[(.agg #[.string (S []), .string (S []), .string (S []), .string (S []), .string (S []), .string (S []), .string (S []), .string (S []), .string (S []), .string (S []), .string (S []), .string (S []), .string (S []), .string (S []), .string (S []), .string (S []), .string (S []), .string (S []), .string (S []), .string (S []), .string (S []), .string (S []), .slice none 0 0, .string (S []), .string (S []), .string (S []), .string (S []), .string (S []), .string (S [])]), (.agg #[.slice none 0 0, .string (S []), .int .i64 0])] := by
  obtain ⟨places, hx⟩ := reads os enc
  exact OpenSpec.preRow_of_cond 8 hx (by kernel_rfl) (fun k hk => by cases hk) (sized os enc) (met os)

theorem there (os : Os) {H : Type} (enc : TypeId × Value → H) : ∃ (w : World) (tape : Tape) (i : Input), w.os = os ∧ (w.forCall tape i).Shaped Tryz.checked.prog ∧ i.vars = [] ∧ Input.okWide Tryz.checked.prog (w.forCall tape i) .any w.heap.size 6 i ∧ (OpenSpec.ofChange Rows.nonrevokedMasksSpec).preRow enc Tryz.checked.prog Tryz.f6 Rows.nonrevokedMasksRow.domain false Rows.nonrevokedMasksRow.laid (w.forCall tape i).memory i.args ∧ ({ modest := false } : Assume).holds Tryz.checked.prog (lone (Frame.enter Tryz.checked.prog 6 i.args .normal) [] (w.forCall tape i)) :=
  witness_row_at (enc := enc) (C := Tryz.checked) (fn := Tryz.f6) (s := OpenSpec.ofChange Rows.nonrevokedMasksSpec) (conds := Rows.nonrevokedMasksRow.domain) (apart := false) (laid := Rows.nonrevokedMasksRow.laid) false (World.laidAll Tryz.prog os Rows.nonrevokedMasksRow.laid) #[(.agg #[.string (S []), .string (S []), .string (S []), .string (S []), .string (S []), .string (S []), .string (S []), .string (S []), .string (S []), .string (S []), .string (S []), .string (S []), .string (S []), .string (S []), .string (S []), .string (S []), .string (S []), .string (S []), .string (S []), .string (S []), .string (S []), .string (S []), .slice none 0 0, .string (S []), .string (S []), .string (S []), .string (S []), .string (S []), .string (S [])]), (.agg #[.slice none 0 0, .string (S []), .int .i64 0])] (World.laidAll_os _ _ _) (by kernel_rfl) (by kernel_rfl) (by kernel_rfl) (prerow os enc)

set_option maxHeartbeats 1000000 in
set_option maxRecDepth 100000 in
theorem lifted (os : Os) (started : os.Started) (H : Type) (enc : TypeId × Value → H) (F : Stop.Interp) :
    ReturnsInHanded {} Tryz.checked os 6 .any ((OpenSpec.ofChange Rows.nonrevokedMasksSpec).preRow enc Tryz.prog Tryz.f6 Rows.nonrevokedMasksRow.domain false Rows.nonrevokedMasksRow.laid) (((OpenSpec.ofChange Rows.nonrevokedMasksSpec).at F).post enc Tryz.prog Tryz.f6 false true false false) := by
  refine returnsInHanded_of_row (C := Tryz.checked) (s := OpenSpec.ofChange Rows.nonrevokedMasksSpec) own started (by kernel_rfl) Tryz.func6 (there os enc) ?_
  intro W base args ds gs before hval0 hW hcnd _ hwt0 hL _ _
  have hTab : True → Tab W := fun _ => tab hL
  have hTabD : True → TabD W := fun _ => tabd hL
  clear hL
  have hval : ∀ (j : Nat) t v, Tryz.f6.params[j]? = some t → args[j]? = some v → Value.okWide Tryz.prog W .any base t v := hval0
  have hW' := hW
  obtain ⟨p, q, hA0, hV, rfl, hfz, hnd⟩ := hW
  have hA : DataW.TrodAll enc Tryz.prog W 0 (fun _ => true) true Tryz.f6.params.toList args.toList ds p := hA0
  rw [Tryz.params6] at hA hval
  obtain ⟨v0, vs0, d0, ds0, p0, q0, hargs, rfl, rfl, h0, r0⟩ := trodAll_cons hA
  obtain ⟨v1, vs1, d1, ds1, p1, q1, rfl, rfl, rfl, h1, r1⟩ := trodAll_cons r0
  obtain ⟨rfl, rfl, rfl⟩ := trodAll_nil r1
  obtain rfl : args = #[v0, v1] := by cases args; simp_all
  obtain ⟨rfl, rfl⟩ := trodVars_none hV
  have w0 : Wt Tryz.prog 35 d0 := wt_all hwt0 (j := 0) (by rw [Tryz.params6]; rfl) rfl
  have w1 : Wt Tryz.prog 66 d1 := wt_all hwt0 (j := 1) (by rw [Tryz.params6]; rfl) rfl
  have k0 := h0
  obtain ⟨fu0, f0⟩ := h0
  obtain ⟨cs0, rfl, hz0⟩ : ∃ cs, v0 = .agg cs ∧ cs.size = Tryz.prog.cellsOf 35 := by have q := (hval 0 35 v0 rfl rfl); simp only [Value.okWide, Tryz.underlying35] at q; obtain ⟨cs, q1, q2, _⟩ := q; exact ⟨cs, q1, q2⟩
  obtain ⟨a0_0_0_0, a0_0_0_1, a0_0_1_0_0, a0_0_1_0_1, a0_0_1_1, a0_0_1_2, a0_0_2_0_0, a0_0_2_0_1, a0_0_2_1, a0_0_2_2, a0_0_3, a0_0_4, a0_0_5, a0_0_6, a0_0_7, a0_0_8, a0_0_9, a0_1_0, a0_1_1_0, a0_1_1_1, a0_1_2, a0_1_3, a0_1_4, a0_1_5, a0_1_6, a0_2, a0_3, a0_4, a0_5, e0, z0_0, z0_1, z0_2, z0_3, z0_4, z0_5, z0_6, z0_7, z0_8, z0_9, z0_10, z0_11, z0_12, z0_13, z0_14, z0_15, z0_16, z0_17, z0_18, z0_19, z0_20, z0_21, z0_22, z0_23, z0_24, z0_25, z0_26, z0_27, z0_28, z0_29, z0_30, z0_31⟩ := op_T35 f0 w0
  obtain rfl : cs0 = #[.string (S a0_0_0_0), .string (S a0_0_0_1), .string (S a0_0_1_0_0), .string (S a0_0_1_0_1), .string (S a0_0_1_1), .string (S a0_0_1_2), .string (S a0_0_2_0_0), .string (S a0_0_2_0_1), .string (S a0_0_2_1), .string (S a0_0_2_2), .string (S a0_0_3), .string (S a0_0_4), .string (S a0_0_5), .string (S a0_0_6), .string (S a0_0_7), .string (S a0_0_8), .string (S a0_0_9), .string (S a0_1_0), .string (S a0_1_1_0), .string (S a0_1_1_1), .string (S a0_1_2), .string (S a0_1_3), a0_1_4.val, .string (S a0_1_5), .string (S a0_1_6), .string (S a0_2), .string (S a0_3), .string (S a0_4), .string (S a0_5)] := Array.ext' e0
  have k1 := h1
  obtain ⟨fu1, f1⟩ := h1
  obtain ⟨cs1, rfl, hz1⟩ : ∃ cs, v1 = .agg cs ∧ cs.size = Tryz.prog.cellsOf 66 := by have q := (hval 1 66 v1 rfl rfl); simp only [Value.okWide, Tryz.underlying66] at q; obtain ⟨cs, q1, q2, _⟩ := q; exact ⟨cs, q1, q2⟩
  obtain ⟨a1_0, a1_1, a1_2, e1, z1_0, z1_1, z1_2, z1_3, z1_4, z1_5⟩ := op_T66 f1 w1
  obtain rfl : cs1 = #[a1_0.val, .string (S a1_1), .int .i64 a1_2] := Array.ext' e1
  clear hA0 hval0
  have hcall : Calls Tryz.prog 6 #[.agg #[.string (S a0_0_0_0), .string (S a0_0_0_1), .string (S a0_0_1_0_0), .string (S a0_0_1_0_1), .string (S a0_0_1_1), .string (S a0_0_1_2), .string (S a0_0_2_0_0), .string (S a0_0_2_0_1), .string (S a0_0_2_1), .string (S a0_0_2_2), .string (S a0_0_3), .string (S a0_0_4), .string (S a0_0_5), .string (S a0_0_6), .string (S a0_0_7), .string (S a0_0_8), .string (S a0_0_9), .string (S a0_1_0), .string (S a0_1_1_0), .string (S a0_1_1_1), .string (S a0_1_2), .string (S a0_1_3), a0_1_4.val, .string (S a0_1_5), .string (S a0_1_6), .string (S a0_2), .string (S a0_3), .string (S a0_4), .string (S a0_5)], .agg #[a1_0.val, .string (S a1_1), .int .i64 a1_2]] W (fun e w' => e = .returned (.bool true) ∧ Below W.heap.size W w') := nmasks_l (q := ⟨⟨a0_0_0_0, a0_0_0_1, ((a0_0_1_0_0, a0_0_1_0_1), a0_0_1_1, a0_0_1_2), ((a0_0_2_0_0, a0_0_2_0_1), a0_0_2_1, a0_0_2_2), a0_0_3, a0_0_4, a0_0_5, a0_0_6, a0_0_7, a0_0_8, a0_0_9⟩, ⟨a0_1_0, (a0_1_1_0, a0_1_1_1), a0_1_2, a0_1_3, a0_1_4.l, a0_1_5, a0_1_6⟩, a0_2, a0_3, a0_4, a0_5⟩) (a := a0_1_4.a) (c := a0_1_4.cap) (t := ⟨a1_0.l, a1_1, a1_2⟩) (b := a1_0.a) (d := a1_0.cap) (by first | assumption | rfl | omega | (have := wf_u8 (by assumption); omega) | (have := wf_i64 (by assumption); omega) | (simp [maxLen] at *; omega) | (intro y hy; exact (‹∀ y ∈ _, _› y hy))) (by first | assumption | rfl | omega | (have := wf_u8 (by assumption); omega) | (have := wf_i64 (by assumption); omega) | (simp [maxLen] at *; omega) | (intro y hy; exact (‹∀ y ∈ _, _› y hy))) (by first | assumption | rfl | omega | (have := wf_u8 (by assumption); omega) | (have := wf_i64 (by assumption); omega) | (simp [maxLen] at *; omega) | (intro y hy; exact (‹∀ y ∈ _, _› y hy))) (by first | assumption | rfl | omega | (have := wf_u8 (by assumption); omega) | (have := wf_i64 (by assumption); omega) | (simp [maxLen] at *; omega) | (intro y hy; exact (‹∀ y ∈ _, _› y hy))) (hTab trivial) (hTabD trivial)
  refine hcall.mono fun e W' ⟨he, bel⟩ => ?_
  subst he
  exact ⟨_, rfl, _, _, _, [], _, [], hW', trodAll_mk1 (shut_bool Tryz.underlying4 _), (trodAll_cons_mk (Below.trod laid (by kernel_rfl) (of_decide_eq_true (by kernel_rfl)) k0 bel (fun x hx => hW'.lt x (by simp [hx]))) (trodAll_cons_mk (Below.trod laid (by kernel_rfl) (of_decide_eq_true (by kernel_rfl)) k1 bel (fun x hx => hW'.lt x (by simp [hx]))) trodAll_mk0)), rfl, bel.frame _, fun h => by cases h⟩

theorem said : Rows.NonrevokedMasksSaid :=
  OpenClaim.holds_of_cond 6 Tryz.f6 rfl rfl rfl rfl rfl rfl rfl ⟨rfl, rfl, rfl, rfl, rfl⟩ rfl rfl rfl rfl rfl (by kernel_rfl) Tryz.func6 (by kernel_rfl)
    (of_decide_eq_true (by kernel_rfl)) (by unfold Func.isWrapper; first | (rw [if_pos (by decide +kernel)]; kernel_rfl) | (rw [if_neg (by decide +kernel)]; exact ⟨rfl, rfl⟩))
    (fun os started H enc _ F => by rw [OpenClaim.pre_eq_preRow]; exact lifted os started H enc F)

theorem plain (f : FuncId) (fn : Func) (hf : Tryz.pinned.checked.prog.funcNamed "domino/dominolaw38.NonrevokedMasks" = some f) (hfn : Tryz.pinned.checked.prog.funcs[f]? = some fn) :
    false = Tryz.pinned.checked.prog.looks [] ∧ ∀ (j : Nat) t, fn.params[j]? = some t → Tryz.pinned.checked.prog.wantsStandIn t = false := by
  obtain rfl : f = 6 := Option.some.inj ((show Tryz.prog.funcNamed "domino/dominolaw38.NonrevokedMasks" = some 6 by kernel_rfl).symm.trans hf) |>.symm
  obtain rfl : fn = Tryz.f6 := (Option.some.inj (Tryz.func6.symm.trans hfn)).symm
  refine ⟨by kernel_rfl, fun j t ht => ?_⟩
  rw [Tryz.params6] at ht
  have hm : t = 35 ∨ t = 66 := by simpa using Array.mem_of_getElem? ht
  rcases hm with rfl | rfl
  · exact (show Tryz.prog.wantsStandIn 35 = false by kernel_rfl)
  · exact (show Tryz.prog.wantsStandIn 66 = false by kernel_rfl)

theorem proved : Rows.NonrevokedMasksCardSaid :=
  Claim7.holds_tied_plain_at .later [] _ _ _ _ said (fun _ h => by cases h) (by kernel_rfl) (fun _ h => by cases h) nonrevokedMasks_row_tie rfl ⟨rfl, rfl⟩ (by kernel_rfl) rfl plain (by kernel_rfl)
end Go.Proofs.YthkmpjobfdeoaaaGreatDoor.nonrevokedMasks
