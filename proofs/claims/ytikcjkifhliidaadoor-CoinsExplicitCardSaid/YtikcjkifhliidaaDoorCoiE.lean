/-
  The example of the chapter on coins.
-/
import Derived.Test.YtikcjkifhliidaaDoorSha
namespace Go.Proofs.YtikcjkifhliidaaDoor
set_option linter.unusedSimpArgs false
set_option linter.unusedVariables false
set_option maxRecDepth 20000
theorem ex_seed : (mac [115, 101, 101, 100] [48, 46, 49, 46, 48]).take 1 = [196] := by decide +kernel
end Go.Proofs.YtikcjkifhliidaaDoor
