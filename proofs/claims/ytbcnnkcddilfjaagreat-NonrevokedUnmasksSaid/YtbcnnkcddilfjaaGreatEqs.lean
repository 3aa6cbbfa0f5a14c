/-
  Equality of structs.
-/
import Derived.Test.YtbcnnkcddilfjaaGreatInt1
import Derived.Laws.StructEq
import Derived.ChangeKeysEq
namespace Go.Proofs.YtbcnnkcddilfjaaGreat
open Go.RowKit
section
variable {ds : List Deferred} {P : Program} {o : Oper} {n : Nat} {L : Slots} {Z : World → Prop} {x y : Operand} {t t2 : TypeId} {xs ys : Array Value} {b : Bool}
theorem rd_eqA (hop : o.op = .binOp .eql t x y t2) (hx : oper L x = some (.agg xs)) (hy : oper L y = some (.agg ys)) (hg : P.eqGuardType P.depth t = false) (hr : ∀ w : World, (binOp .eql t (.agg xs) (.agg ys)).run P w = .ok (.bool b) w) : Rd ds P o n L Z (.bool b) :=
  run_bin hop hx hy (fun w => run_eqGuard_agg w _ _ _ _ _ _ hg) hr
theorem rd_neA (hop : o.op = .binOp .neq t x y t2) (hx : oper L x = some (.agg xs)) (hy : oper L y = some (.agg ys)) (hg : P.eqGuardType P.depth t = false) (hr : ∀ w : World, (binOp .eql t (.agg xs) (.agg ys)).run P w = .ok (.bool b) w) : Rd ds P o n L Z (.bool (!b)) :=
  run_bin hop hx hy (fun w => run_eqGuard_agg w _ _ _ _ _ _ hg) fun w => by
    have := hr w
    rw [run_eql_struct] at this
    rw [run_neq_struct]
    cases h : (Op.equalIn 10000 t (.agg xs) (.agg ys)).run P w with
    | ok c w' => rw [h] at this; simp at this ⊢; exact ⟨by rw [this.1], this.2⟩
    | halt c w' => rw [h] at this; simp at this
end
theorem eql_api_Int (p q : Bool) (a b : Bs) (w : World) : (binOp .eql 41 (.agg #[.bool p, .string (S a)]) (.agg #[.bool q, .string (S b)])).run Tryz.prog w = .ok (.bool (decide (p = q ∧ a = b))) w := by
  rw [run_eql_struct, run_equalIn_agg w _ _ _ _ (by kernel_rfl) (by kernel_rfl)]
  have h1 : Tryz.prog.underlying 4 = some .bool := by kernel_rfl
  have h2 : Tryz.prog.underlying 22 = some .string := by kernel_rfl
  have hf : (Tryz.prog.fieldsOf 41).toList = [⟨"Neg", 4, 0, false, "", "", 0⟩, ⟨"Abs", 22, 1, false, "", "", 8⟩] := by kernel_rfl
  have e1 : ∀ (u v : Value) (w : World), (part 4 #[u, v] 0).run Tryz.prog w = .ok u w := fun u v w => run_part_plain w (by kernel_rfl) rfl
  have e2 : ∀ (u v : Value) (w : World), (part 22 #[u, v] 1).run Tryz.prog w = .ok v w := fun u v w => run_part_plain w (by kernel_rfl) rfl
  have hb : ∀ (w : World), (Op.equalIn 9999 4 (.bool p) (.bool q)).run Tryz.prog w = .ok (p == q) w := fun w => run_equalIn_bool' w 9998 _ p q h1
  have hs : ∀ (w : World), (Op.equalIn 9999 22 (.string (S a)) (.string (S b))).run Tryz.prog w = .ok (decide (a = b)) w := fun w => by
    rw [run_equalIn_string w 9998 _ _ _ h2, str_eq]
  rw [hf]
  simp only [Op.eqFields, Sem.run_bind, e1, e2, hb, hs, Result.andThen_ok, Sem.run_ite, Sem.run_pure]
  cases p <;> cases q <;> by_cases h : a = b <;> simp [h]
end Go.Proofs.YtbcnnkcddilfjaaGreat
