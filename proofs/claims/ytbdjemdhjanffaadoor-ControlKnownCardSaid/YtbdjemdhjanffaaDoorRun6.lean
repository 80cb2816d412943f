/- The law's run by the evaluator. -/
import Derived.Test.YtbdjemdhjanffaaDoorPart6N4
set_option linter.unusedVariables false
set_option linter.unusedSimpArgs false
set_option maxRecDepth 100000
namespace Go.Proofs.YtbdjemdhjanffaaDoor
open Go Go.Ab
theorem run6 (m : Int) : callW (E0_2 m) 6 [] [] = some (.bool true, []) := callN_W (k := 300) (by kernel_rfl)
end Go.Proofs.YtbdjemdhjanffaaDoor
