/-
  Parts of the walk: LayT.
-/
import Derived.Test.YtddoigmffkmpcaaGreatDoorK2
import Derived.Shelf.Spec.TrailingZeros
namespace Go.Proofs.YtddoigmffkmpcaaGreatDoor
set_option linter.unusedSimpArgs false
set_option linter.unusedVariables false
set_option maxRecDepth 20000
set_option maxHeartbeats 600000
end Go.Proofs.YtddoigmffkmpcaaGreatDoor
