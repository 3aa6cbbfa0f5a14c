/-
  Parts of the walk: LayT.
-/
import Derived.Test.YtkdlonihbjhhoaaGreatDoorH2
import Derived.Shelf.Spec.TrailingZeros
namespace Go.Proofs.YtkdlonihbjhhoaaGreatDoor
set_option linter.unusedSimpArgs false
set_option linter.unusedVariables false
set_option maxRecDepth 20000
set_option maxHeartbeats 600000
def renTz : Go.Shelf.Ren := ⟨fun k => bif Nat.beq k 29 then 241 else 0, fun k => bif Nat.beq k 0 then 0 else bif Nat.beq k 3 then 3 else bif Nat.beq k 4 then 4 else bif Nat.beq k 5 then 5 else bif Nat.beq k 22 then 76 else bif Nat.beq k 25 then 171 else bif Nat.beq k 27 then 249 else bif Nat.beq k 53 then 292 else bif Nat.beq k 54 then 268 else 0, fun k => bif Nat.beq k 0 then 5 else bif Nat.beq k 1 then 3 else 0⟩
theorem CK : Go.Proofs.Lays7.n29 Tryz.prog renTz where
  mixed := by kernel_rfl
  f29 := by kernel_rfl
  t0 := by kernel_rfl
  a0 := fun w => by kernel_rfl
  z0 := fun w => by kernel_rfl
  v0 := fun w => by kernel_rfl
  i0 := by kernel_rfl
  t3 := by kernel_rfl
  a3 := fun w => by kernel_rfl
  z3 := fun w => by kernel_rfl
  v3 := fun w => by kernel_rfl
  i3 := by kernel_rfl
  t4 := by kernel_rfl
  a4 := fun w => by kernel_rfl
  z4 := fun w => by kernel_rfl
  v4 := fun w => by kernel_rfl
  i4 := by kernel_rfl
  t5 := by kernel_rfl
  a5 := fun w => by kernel_rfl
  z5 := fun w => by kernel_rfl
  v5 := fun w => by kernel_rfl
  i5 := by kernel_rfl
  t22 := by kernel_rfl
  a22 := fun w => by kernel_rfl
  z22 := fun w => by kernel_rfl
  v22 := fun w => by kernel_rfl
  i22 := by kernel_rfl
  t25 := by kernel_rfl
  a25 := fun w => by kernel_rfl
  z25 := fun w => by kernel_rfl
  v25 := fun w => by kernel_rfl
  i25 := by kernel_rfl
  t54 := by kernel_rfl
  a54 := fun w => by kernel_rfl
  z54 := fun w => by kernel_rfl
  g1 := by kernel_rfl
theorem zr (x : Nat) (hx : x < 18446744073709551616) (w : World) (hT : x ≠ 0 → Go.Proofs.TabAt (renTz.g 1) Lib.deBruijn64tab w) :
    Calls Tryz.prog 241 #[.int .u64 x] w fun e w' => e = .returned (.int .i64 (Lib.ctz 64 x)) ∧ w' = w :=
  Go.Proofs.Any7.bits_TrailingZeros64 CK x hx w hT
end Go.Proofs.YtkdlonihbjhhoaaGreatDoor
