/- The law's run by the evaluator. -/
import Derived.Test.YtkiicpehjechlaaGreatDoorPart4N4
set_option linter.unusedVariables false
set_option linter.unusedSimpArgs false
set_option maxRecDepth 100000
namespace Go.Proofs.YtkiicpehjechlaaGreatDoor
open Go Go.Ab
theorem run4 (m : Int) : callW (E0_2 m) 4 [] [] = some (.bool true, []) := callN_W (k := 300) (by kernel_rfl)
end Go.Proofs.YtkiicpehjechlaaGreatDoor
