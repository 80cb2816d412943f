/- Calls that the law makes, and what they answer: each one a run of the evaluator; then their table. -/
import Derived.Test.YtkiicpehjechlaaGreatDoorPart4N2
set_option linter.unusedVariables false
set_option linter.unusedSimpArgs false
set_option maxRecDepth 100000
namespace Go.Proofs.YtkiicpehjechlaaGreatDoor
open Go Go.Ab
def e2_8_0 : (List V1 × Heap) × (AV × Heap) := (([], []), ((.v (.c (.d (.sc (.bool true))))), []))
theorem e2_8_0_ok (m : Int) : callW (E0_1 m) 8 e2_8_0.1.1 e2_8_0.1.2 = some e2_8_0.2 := callN_W (k := 300) (by kernel_rfl)
end Go.Proofs.YtkiicpehjechlaaGreatDoor
