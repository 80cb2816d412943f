/- The law's run by the evaluator. -/
import Derived.Test.YtbkobjepahlegaaGreatDoorPart10N11
set_option linter.unusedVariables false
set_option linter.unusedSimpArgs false
set_option maxRecDepth 100000
namespace Go.Proofs.YtbkobjepahlegaaGreatDoor
open Go Go.Ab
theorem run10 (m : Int) : callW (E0_3 m) 10 [] [] = some (.bool true, []) := callN_W (k := 1100) (by kernel_rfl)
end Go.Proofs.YtbkobjepahlegaaGreatDoor
