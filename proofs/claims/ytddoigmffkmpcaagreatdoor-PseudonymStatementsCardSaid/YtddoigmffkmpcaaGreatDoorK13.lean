/-
  Parts of the walk: Hol Lin1 Eqs Lin2 Lin3 Lin4.
-/
import Derived.Test.YtddoigmffkmpcaaGreatDoorK12
import Derived.Laws.StructEq
import Derived.ChangeKeysEq
namespace Go.Proofs.YtddoigmffkmpcaaGreatDoor
open Go.RowKit
set_option linter.unusedSimpArgs false
set_option linter.unusedVariables false
set_option maxHeartbeats 600000
set_option maxRecDepth 20000
abbrev trm (b : Bs) (v : Int) : Tm := (b, v, ofZ 1)
def saN : SA := ⟨[], [], [], none, 0, none, 0, none, 0⟩
abbrev SME (s : SA) (n : Int) : Value := .tuple #[saV s, .int .i64 n]
section
variable {ok : Nat → Prop} {w0 w : World} {own : List Ent} {fs : List Fact}
theorem St.osk (h : St ok w0 own fs w) {b : Nat} {xs : List Value} {T : TypeId} [hf : HasE own b xs T] : (Fact.sl (some ⟨b, 0, none⟩) xs).holds ok w := by
 obtain ⟨k, hk⟩ := hf.h.get
 have := h.own_ _ (List.mem_of_getElem? hk)
 exact .inr ⟨b, 0, xs.toArray, T, (0, 0), rfl, h.okn b this.1, this.2, fun i hi => by simp⟩
theorem sm_err {r : Sm × Int} {n : Int} (hr : r = (([], [], []), n)) (hS : St (fun b => ok b ∨ w0.heap.size ≤ b) w0 own fs w) :
  ∃ gx : SA, Ending.returned (tup [.agg #[.slice none 0 0, .slice none 0 0, .slice none 0 0], .int .i64 n]) = Ending.returned (SME gx r.2) ∧ (gx.core = r.1) ∧ Below w0.heap.size w0 w ∧ ∀ x ∈ (saF gx : List Fact), x.holds (fun b => ok b ∨ w0.heap.size ≤ b) w := by
 subst hr
 exact ⟨saN, rfl, rfl, hS.below, Fc sl_nilk (Fc sl_nilk (Fc sl_nilk Fn))⟩
end
section
variable {ds : List Deferred} {P : Program} {o : Oper} {n : Nat} {L : Slots} {Z : World → Prop} {x y : Operand} {t t2 : TypeId} {xs ys : Array Value} {b : Bool}
theorem rd_neA (hop : o.op = .binOp .neq t x y t2) (hx : oper L x = some (.agg xs)) (hy : oper L y = some (.agg ys)) (hg : P.eqGuardType P.depth t = false) (hr : ∀ w : World, (binOp .eql t (.agg xs) (.agg ys)).run P w = .ok (.bool b) w) : Rd ds P o n L Z (.bool (!b)) :=
 run_bin hop hx hy (fun w => run_eqGuard_agg w _ _ _ _ _ _ hg) fun w => by
  have := hr w
  rw [run_eql_struct] at this
  rw [run_neq_struct]
  cases h : (Op.equalIn 10000 t (.agg xs) (.agg ys)).run P w with
  | ok c w' => rw [h] at this; simp at this ⊢; exact ⟨by rw [this.1], this.2⟩
  | halt c w' => rw [h] at this; simp at this
end
theorem st_addm {ok : Nat → Prop} {w0 w : World} {own : List Ent} {fs more : List Fact} {f : Fact} (h : St ok w0 own fs w) [hm : HasM fs more] (hf : f ∈ more) : St ok w0 own (f :: fs) w := h.add (h.fact f (hm.h f hf))
instance hasM_appL {a b : List Fact} : HasM (a ++ b) a := ⟨fun _ h => List.mem_append_left _ h⟩
instance hasM_appR {a b c : List Fact} [h : HasM b c] : HasM (a ++ b) c := ⟨fun _ hh => List.mem_append_right _ (h.h _ hh)⟩
section
variable {P : Program} {ok : Nat → Prop} {w0 w : World} {own : List Ent} {fs : List Fact} {γ : Type} {f : FuncId} {args : Array Value} {val : γ → Value} {p : γ → Prop} {F : γ → List Fact} {xs : List Value}
end
section
variable {ds : List Deferred} {P : Program} {ops l : List Oper} {Q : Exit → Act → World → Prop} {n : Nat} {L : Slots} {ok : Nat → Prop} {w0 : World} {own : List Ent} {fs : List Fact} {x y : Fact}
end
end Go.Proofs.YtddoigmffkmpcaaGreatDoor
