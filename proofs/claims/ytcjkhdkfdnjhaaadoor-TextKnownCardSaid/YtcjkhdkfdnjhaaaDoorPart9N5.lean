/- Calls that the law makes, and what they answer: each one a run of the evaluator; then their table. -/
import Derived.Test.YtcjkhdkfdnjhaaaDoorPart9N4
set_option linter.unusedVariables false
set_option linter.unusedSimpArgs false
set_option maxRecDepth 100000
namespace Go.Proofs.YtcjkhdkfdnjhaaaDoor
open Go Go.Ab
def e2_20_0 : (List V1 × Heap) × (AV × Heap) := (([], []), ((.v (.c (.d (.sc (.bool true))))), []))
theorem e2_20_0_ok (m : Int) : callW (E0_1 m) 20 e2_20_0.1.1 e2_20_0.1.2 = some e2_20_0.2 := callN_W (k := 3000) (by kernel_rfl)
end Go.Proofs.YtcjkhdkfdnjhaaaDoor
