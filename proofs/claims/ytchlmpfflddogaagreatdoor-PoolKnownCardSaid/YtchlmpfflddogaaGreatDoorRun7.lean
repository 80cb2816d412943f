/- The law's run by the evaluator. -/
import Derived.Test.YtchlmpfflddogaaGreatDoorPart7N6
set_option linter.unusedVariables false
set_option linter.unusedSimpArgs false
set_option maxRecDepth 100000
namespace Go.Proofs.YtchlmpfflddogaaGreatDoor
open Go Go.Ab
theorem run7 (m : Int) : callW (E0_3 m) 7 [] [] = some (.bool true, []) := callN_W (k := 300) (by kernel_rfl)
end Go.Proofs.YtchlmpfflddogaaGreatDoor
