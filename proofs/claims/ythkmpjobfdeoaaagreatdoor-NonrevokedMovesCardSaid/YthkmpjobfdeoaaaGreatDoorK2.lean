/-
  Parts of the walk: Lay0.
-/
import Derived.Test.YthkmpjobfdeoaaaGreatDoorK1
import Derived.Shelf.Strconv.Itoa3
namespace Go.Proofs.YthkmpjobfdeoaaaGreatDoor
set_option linter.unusedSimpArgs false
set_option linter.unusedVariables false
set_option maxRecDepth 20000
set_option maxHeartbeats 600000
end Go.Proofs.YthkmpjobfdeoaaaGreatDoor
