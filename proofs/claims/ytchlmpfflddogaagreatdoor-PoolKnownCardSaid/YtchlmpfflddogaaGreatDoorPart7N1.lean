/- Calls that the law makes, and what they answer: each one a run of the evaluator; then their table. -/
import Derived.Test.YtchlmpfflddogaaGreatDoorEnv
import Derived.Test.YtchlmpfflddogaaGreatDoorAb30
set_option linter.unusedVariables false
set_option linter.unusedSimpArgs false
set_option maxRecDepth 100000
namespace Go.Proofs.YtchlmpfflddogaaGreatDoor
open Go Go.Ab
def e1_47_0 : (List V1 × Heap) × (AV × Heap) := (([(.c (.d (.lst false (bl [72,84,84,80,47,49,46,49,32,50,48,52,32,13,10,13,10])))),(.c (.d (ss [71,69,84]))),(.c (.d (.sc (.bool false))))], []), ((.tup [(.agg [(.d (si 204)),(.d (ss [])),(.d (si 1)),(.d (.lst true [])),(.d (.lst true []))]),(.c (.d (si 17))),(.c (.d (si 0)))]), []))
theorem e1_47_0_ok (m : Int) : callW (E0 m) 47 e1_47_0.1.1 e1_47_0.1.2 = some e1_47_0.2 := callN_W (k := 300) (by kernel_rfl)
def e1_47_1 : (List V1 × Heap) × (AV × Heap) := (([(.c (.d (.lst false (bl [72,84,84,80,47,49,46,49,32,49,48,48,32,13,10,13,10,72,84,84,80,47,49,46,49,32,50,48,48,32,79,75,13,10,67,111,110,116,101,110,116,45,76,101,110,103,116,104,58,32,49,13,10,13,10,120])))),(.c (.d (ss [71,69,84]))),(.c (.d (.sc (.bool false))))], []), ((.tup [(.agg [(.d (si 100)),(.d (ss [])),(.d (si 1)),(.d (.lst true [])),(.d (.lst true []))]),(.c (.d (si 17))),(.c (.d (si 0)))]), []))
theorem e1_47_1_ok (m : Int) : callW (E0 m) 47 e1_47_1.1.1 e1_47_1.1.2 = some e1_47_1.2 := callN_W (k := 300) (by kernel_rfl)
def e1_47_2 : (List V1 × Heap) × (AV × Heap) := (([(.c (.d (.lst false (bl [72,84,84,80,47,49,46,49,32,50,48,48,32,79,75,13,10,67,111,110,116,101,110,116,45,76,101,110,103,116,104,58,32,49,13,10,13,10,120])))),(.c (.d (ss [71,69,84]))),(.c (.d (.sc (.bool false))))], []), ((.tup [(.agg [(.d (si 200)),(.d (ss [79,75])),(.d (si 1)),(.own false [[(ss [67,111,110,116,101,110,116,45,76,101,110,103,116,104]),(ss [49])]] 0),(.own false (bl [120]) 1)]),(.c (.d (si 39))),(.c (.d (si 0)))]), [(.row 1 2),(.row 1 1)]))
theorem e1_47_2_ok (m : Int) : callW (E0 m) 47 e1_47_2.1.1 e1_47_2.1.2 = some e1_47_2.2 := callN_W (k := 300) (by kernel_rfl)
def e1_64_0 : (List V1 × Heap) × (AV × Heap) := (([(.c (.d (si 204))),(.c (.d (ss [71,69,84]))),(.c (.d (si 1))),(.c (.d (.lst true [])))], []), ((.tup [(.c (.d (si 0))),(.c (.d (.sc (.int .u64 0)))),(.c (.d (si 0)))]), []))
theorem e1_64_0_ok (m : Int) : callW (E0 m) 64 e1_64_0.1.1 e1_64_0.1.2 = some e1_64_0.2 := callN_W (k := 300) (by kernel_rfl)
def e1_64_1 : (List V1 × Heap) × (AV × Heap) := (([(.c (.d (si 200))),(.c (.d (ss [71,69,84]))),(.c (.d (si 1))),(.c (.d (.lst false [[(ss [67,111,110,116,101,110,116,45,76,101,110,103,116,104]),(ss [49])]])))], []), ((.tup [(.c (.d (si 1))),(.c (.d (.sc (.int .u64 1)))),(.c (.d (si 0)))]), []))
theorem e1_64_1_ok (m : Int) : callW (E0 m) 64 e1_64_1.1.1 e1_64_1.1.2 = some e1_64_1.2 := callN_W (k := 300) (by kernel_rfl)
def e1_65_0 : (List V1 × Heap) × (AV × Heap) := (([(.c (.d (si 1))),(.c (.d (.lst true [])))], []), ((.v (.c (.d (.sc (.bool false))))), []))
theorem e1_65_0_ok (m : Int) : callW (E0 m) 65 e1_65_0.1.1 e1_65_0.1.2 = some e1_65_0.2 := callN_W (k := 300) (by kernel_rfl)
def e1_65_1 : (List V1 × Heap) × (AV × Heap) := (([(.c (.d (si 1))),(.c (.d (.lst false [[(ss [67,111,110,116,101,110,116,45,76,101,110,103,116,104]),(ss [49])]])))], []), ((.v (.c (.d (.sc (.bool false))))), []))
theorem e1_65_1_ok (m : Int) : callW (E0 m) 65 e1_65_1.1.1 e1_65_1.1.2 = some e1_65_1.2 := callN_W (k := 300) (by kernel_rfl)
end Go.Proofs.YtchlmpfflddogaaGreatDoor
