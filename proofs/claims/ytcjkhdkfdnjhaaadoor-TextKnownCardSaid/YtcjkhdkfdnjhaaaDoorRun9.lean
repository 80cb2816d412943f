/- The law's run by the evaluator. -/
import Derived.Test.YtcjkhdkfdnjhaaaDoorPart9N6
set_option linter.unusedVariables false
set_option linter.unusedSimpArgs false
set_option maxRecDepth 100000
namespace Go.Proofs.YtcjkhdkfdnjhaaaDoor
open Go Go.Ab
theorem run9 (m : Int) : callW (E0_2 m) 9 [] [] = some (.bool true, []) := callN_W (k := 3000) (by kernel_rfl)
end Go.Proofs.YtcjkhdkfdnjhaaaDoor
