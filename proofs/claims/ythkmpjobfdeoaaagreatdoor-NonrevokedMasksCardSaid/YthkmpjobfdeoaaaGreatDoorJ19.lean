/-
  Parts of the walk: Lin2 Lin3 Lin4 Lin5 Lin6 Nrs Egp.
-/
import Derived.Test.YthkmpjobfdeoaaaGreatDoorJ18
namespace Go.Proofs.YthkmpjobfdeoaaaGreatDoor
open Go.RowKit
set_option linter.unusedSimpArgs false
set_option linter.unusedVariables false
set_option maxHeartbeats 600000
set_option maxRecDepth 20000
instance hasM_appL {a b : List Fact} : HasM (a ++ b) a := ⟨fun _ h => List.mem_append_left _ h⟩
instance hasM_appR {a b c : List Fact} [h : HasM b c] : HasM (a ++ b) c := ⟨fun _ hh => List.mem_append_right _ (h.h _ hh)⟩
section
variable {P : Program} {ok : Nat → Prop} {w0 w : World} {own : List Ent} {fs : List Fact} {γ : Type} {f : FuncId} {args : Array Value} {val : γ → Value} {p : γ → Prop} {F : γ → List Fact} {xs : List Value}
end
section
variable {ds : List Deferred} {P : Program} {ops l : List Oper} {Q : Exit → Act → World → Prop} {n : Nat} {L : Slots} {ok : Nat → Prop} {w0 : World} {own : List Ent} {fs : List Fact} {x y : Fact}
end
end Go.Proofs.YthkmpjobfdeoaaaGreatDoor
