/- The law's run by the evaluator. -/
import Derived.Test.YteenmbcmgcnkmaaGreatDoorPart8N11
set_option linter.unusedVariables false
set_option linter.unusedSimpArgs false
set_option maxRecDepth 100000
namespace Go.Proofs.YteenmbcmgcnkmaaGreatDoor
open Go Go.Ab
theorem run8 (m : Int) : callW (E0_4 m) 8 [] [] = some (.bool true, []) := callN_W (k := 1100) (by kernel_rfl)
end Go.Proofs.YteenmbcmgcnkmaaGreatDoor
