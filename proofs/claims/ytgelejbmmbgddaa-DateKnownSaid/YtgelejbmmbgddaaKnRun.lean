/- The law's run by the evaluator. -/
import Derived.Test.YtgelejbmmbgddaaEnv
set_option linter.unusedVariables false
set_option linter.unusedSimpArgs false
namespace Go.Proofs.Ytgelejbmmbgddaa
open Go Go.Ab
theorem kn (m : Int) : callW (E0 m) 7 [] [] = some (.bool true, []) := callN_W (k := 60) (by kernel_rfl)
end Go.Proofs.Ytgelejbmmbgddaa
