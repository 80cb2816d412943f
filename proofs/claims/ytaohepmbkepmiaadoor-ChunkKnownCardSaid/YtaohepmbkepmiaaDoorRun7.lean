/- The law's run by the evaluator. -/
import Derived.Test.YtaohepmbkepmiaaDoorEnv
set_option linter.unusedVariables false
set_option linter.unusedSimpArgs false
namespace Go.Proofs.YtaohepmbkepmiaaDoor
open Go Go.Ab
theorem run7 (m : Int) : callW (E0 m) 7 [] [] = some (.bool true, []) := callN_W (k := 150) (by kernel_rfl)
end Go.Proofs.YtaohepmbkepmiaaDoor
