/- The law's run by the evaluator. -/
import Derived.Test.YtoohbnmhjfgclaaGreatDoorPart8N8
set_option linter.unusedVariables false
set_option linter.unusedSimpArgs false
set_option maxRecDepth 100000
namespace Go.Proofs.YtoohbnmhjfgclaaGreatDoor
open Go Go.Ab
theorem run8 (m : Int) : callW (E0_3 m) 8 [] [] = some (.bool true, []) := callN_W (k := 100) (by kernel_rfl)
end Go.Proofs.YtoohbnmhjfgclaaGreatDoor
