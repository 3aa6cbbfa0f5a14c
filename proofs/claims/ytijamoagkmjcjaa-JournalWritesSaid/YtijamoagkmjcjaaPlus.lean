/-
  Own framework: later additions.
-/
import Derived.Test.YtijamoagkmjcjaaStr
namespace Go.Proofs.Ytijamoagkmjcjaa
set_option linter.unusedSimpArgs false
set_option linter.unusedVariables false
open Go.RowKit

theorem cells_agg (l : List Value) : (Value.agg l.toArray).cells.toList = l := by simp [Value.cells]
section
variable {ds : List Deferred} {P : Program} {o : Oper} {n : Nat} {L : Slots} {Z : World → Prop} {x y : Operand} {t t2 : TypeId} {k : IntKind} {i : Int}
theorem rd_convN {k' : IntKind} (hop : o.op = .convert t t2 x) (hx : oper L x = some (.int k' i)) {d : TypeDesc} (h1 : P.underlying t = some d) (h2 : P.underlying t2 = some (.int k)) (h : k.wrap i = i) : Rd ds P o n L Z (.int k i) := by
  have := rd_conv (ds := ds) (n := n) (St := Z) hop hx h1 h2
  rw [h] at this; exact this
theorem wrap8_64 (c : UInt8) : IntKind.i64.wrap (c.toNat : Int) = (c.toNat : Int) := wrap64n _ (by have := c.toNat_lt; omega)
end
end Go.Proofs.Ytijamoagkmjcjaa
