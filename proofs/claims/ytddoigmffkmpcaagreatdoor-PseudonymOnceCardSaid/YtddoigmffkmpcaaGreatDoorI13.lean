/-
  Parts of the walk: Hol Lin1 Eqs Lin2 Lin3 Lin4.
-/
import Derived.Test.YtddoigmffkmpcaaGreatDoorI12
import Derived.Laws.StructEq
import Derived.ChangeKeysEq
namespace Go.Proofs.YtddoigmffkmpcaaGreatDoor
open Go.RowKit
set_option linter.unusedSimpArgs false
set_option linter.unusedVariables false
set_option maxHeartbeats 600000
set_option maxRecDepth 20000
theorem prodS_one {g : Gp} {a : Bs} {x : Zs} (hg : chkG g = 0) (ha : elG g a) (hx : okZ x) : prodS g [a] [x] = (canon (powI (val g.1) (val a) (zv x)), 0) := by
 have h0 : chkP g [a] [x] (decide ([a].length = [x].length)) = 0 := by
  rw [chkP, if_neg (fun h => h (by simpa using ha.1)), if_neg (fun h => h (by simpa using hx)), if_neg (fun h => h hg), if_neg (by simp), if_neg (fun h => h (by simpa using ha))]
 rw [prodS, if_pos h0]; simp [prodL, powI_mod]
section
variable {ok : Nat → Prop} {w0 w : World} {own : List Ent} {fs : List Fact}
end
section
variable {ds : List Deferred} {P : Program} {o : Oper} {n : Nat} {L : Slots} {Z : World → Prop} {x y : Operand} {t t2 : TypeId} {xs ys : Array Value} {b : Bool}
end
instance hasM_appL {a b : List Fact} : HasM (a ++ b) a := ⟨fun _ h => List.mem_append_left _ h⟩
instance hasM_appR {a b c : List Fact} [h : HasM b c] : HasM (a ++ b) c := ⟨fun _ hh => List.mem_append_right _ (h.h _ hh)⟩
section
variable {P : Program} {ok : Nat → Prop} {w0 w : World} {own : List Ent} {fs : List Fact} {γ : Type} {f : FuncId} {args : Array Value} {val : γ → Value} {p : γ → Prop} {F : γ → List Fact} {xs : List Value}
end
section
variable {ds : List Deferred} {P : Program} {ops l : List Oper} {Q : Exit → Act → World → Prop} {n : Nat} {L : Slots} {ok : Nat → Prop} {w0 : World} {own : List Ent} {fs : List Fact} {x y : Fact}
end
end Go.Proofs.YtddoigmffkmpcaaGreatDoor
