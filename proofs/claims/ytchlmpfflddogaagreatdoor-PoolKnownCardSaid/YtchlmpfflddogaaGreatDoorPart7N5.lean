/- Calls that the law makes, and what they answer: each one a run of the evaluator; then their table. -/
import Derived.Test.YtchlmpfflddogaaGreatDoorPart7N4
set_option linter.unusedVariables false
set_option linter.unusedSimpArgs false
set_option maxRecDepth 100000
namespace Go.Proofs.YtchlmpfflddogaaGreatDoor
open Go Go.Ab
def e3_10_0 : (List V1 × Heap) × (AV × Heap) := (([], []), ((.v (.c (.d (.sc (.bool true))))), []))
theorem e3_10_0_ok (m : Int) : callW (E0_2 m) 10 e3_10_0.1.1 e3_10_0.1.2 = some e3_10_0.2 := callN_W (k := 300) (by kernel_rfl)
end Go.Proofs.YtchlmpfflddogaaGreatDoor
