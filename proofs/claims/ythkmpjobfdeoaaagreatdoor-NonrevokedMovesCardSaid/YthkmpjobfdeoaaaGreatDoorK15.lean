/-
  Parts of the walk: Hash3 Ref1 Ref2 Mac.
-/
import Derived.Test.YthkmpjobfdeoaaaGreatDoorK14
import Derived.Laws.BitsAllLaws
namespace Go.Proofs.YthkmpjobfdeoaaaGreatDoor
open Go.RowKit
set_option linter.unusedSimpArgs false
set_option linter.unusedVariables false
set_option maxHeartbeats 600000
set_option maxRecDepth 20000
structure G4 where
 k : Nat
 ob : Option Nat
 cap : Nat
 spare : List Value
structure G3 where
 q : Nat
 ad : Option Addr
 x : List W
structure GC where
 k : Nat
 b : Nat
 cap : Nat
 sp : List Value
structure G3r where
 q : Nat
 b : Nat
 cap : Nat
 x : List W
end Go.Proofs.YthkmpjobfdeoaaaGreatDoor
