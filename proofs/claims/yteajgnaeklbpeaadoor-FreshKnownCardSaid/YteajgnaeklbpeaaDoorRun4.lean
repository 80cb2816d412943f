/- The law's run by the evaluator. -/
import Derived.Test.YteajgnaeklbpeaaDoorEnv
set_option linter.unusedVariables false
set_option linter.unusedSimpArgs false
namespace Go.Proofs.YteajgnaeklbpeaaDoor
open Go Go.Ab
theorem run4 (m : Int) : callW (E0 m) 4 [] [] = some (.bool true, []) := callN_W (k := 150) (by kernel_rfl)
end Go.Proofs.YteajgnaeklbpeaaDoor
