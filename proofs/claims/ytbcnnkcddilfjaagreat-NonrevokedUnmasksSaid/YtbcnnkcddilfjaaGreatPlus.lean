/-
  Own framework: later additions.
-/
import Derived.Test.YtbcnnkcddilfjaaGreatStr
namespace Go.Proofs.YtbcnnkcddilfjaaGreat
set_option linter.unusedSimpArgs false
set_option linter.unusedVariables false
open Go.RowKit

theorem cells_agg (l : List Value) : (Value.agg l.toArray).cells.toList = l := by simp [Value.cells]
section
variable {ds : List Deferred} {P : Program} {o : Oper} {n : Nat} {L : Slots} {Z : World → Prop} {x y : Operand} {t t2 : TypeId} {k : IntKind} {i : Int}
theorem rd_convN {k' : IntKind} (hop : o.op = .convert t t2 x) (hx : oper L x = some (.int k' i)) {d : TypeDesc} (h1 : P.underlying t = some d) (h2 : P.underlying t2 = some (.int k)) (h : k.wrap i = i) : Rd ds P o n L Z (.int k i) := by
  have := rd_conv (ds := ds) (n := n) (St := Z) hop hx h1 h2
  rw [h] at this; exact this
theorem wrap8_64 (c : UInt8) : IntKind.i64.wrap (c.toNat : Int) = (c.toNat : Int) := wrap64n _ (by have := c.toNat_lt; omega)
end
section
variable {ds : List Deferred} {P : Program} {o : Oper} {n : Nat} {L : Slots} {ok : Nat → Prop} {w0 : World} {own : List Ent} {fs : List Fact} {x y : Operand} {t T : TypeId} {b off : Nat} {cs xs ys : List Value} {C : Ent → List Ent}
theorem staJ (hop : o.op = .store t x y) (hx : oper L x = some (.pointer (some ⟨b, 0, none⟩))) (hy : oper L y = some (.agg xs.toArray)) [hk : HasC own (some b) cs T C] (hs : (P.info? t).map (·.size) = some xs.length) (h1 : ∀ v ∈ xs, v.oneCell' = true) (hl : xs.length = cs.length) :
    ∀ ext, Og ds P o n L (St ok w0 (ext ++ own) fs) (fun _ : Unit => undef) (fun _ => St ok w0 (ext ++ C ⟨some b, xs, T⟩) fs) := fun ext => sta hop hx hy (Ctx.right hk.h ext) hs h1 hl
theorem stpJ (hop : o.op = .store t x y) (hx : oper L x = some (.pointer (some ⟨b, off, none⟩))) (hy : oper L y = some (.agg xs.toArray)) [hk : HasC own (some b) cs T C] (hs : (P.info? t).map (·.size) = some xs.length) (h1 : ∀ v ∈ xs, v.oneCell' = true) (hl : off + xs.length ≤ cs.length) (hys : cs.take off ++ xs ++ cs.drop (off + xs.length) = ys) :
    ∀ ext, Og ds P o n L (St ok w0 (ext ++ own) fs) (fun _ : Unit => undef) (fun _ => St ok w0 (ext ++ C ⟨some b, ys, T⟩) fs) := fun ext => stp hop hx hy (Ctx.right hk.h ext) hs h1 hl hys
end
end Go.Proofs.YtbcnnkcddilfjaaGreat
