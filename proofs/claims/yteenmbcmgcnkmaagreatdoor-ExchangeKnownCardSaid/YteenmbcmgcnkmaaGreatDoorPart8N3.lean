/- Calls that the law makes, and what they answer: each one a run of the evaluator; then their table. -/
import Derived.Test.YteenmbcmgcnkmaaGreatDoorPart8N2
set_option linter.unusedVariables false
set_option linter.unusedSimpArgs false
set_option maxRecDepth 100000
namespace Go.Proofs.YteenmbcmgcnkmaaGreatDoor
open Go Go.Ab
def e1_210_8 : (List V1 × Heap) × (AV × Heap) := (([(.c (.d (ss [])))], []), ((.v (.c (.d (.sc (.bool true))))), []))
theorem e1_210_8_ok (m : Int) : callW (E0 m) 210 e1_210_8.1.1 e1_210_8.1.2 = some e1_210_8.2 := callN_W (k := 1100) (by kernel_rfl)
def e1_210_9 : (List V1 × Heap) × (AV × Heap) := (([(.c (.d (ss [97,58,56,48,56,48])))], []), ((.v (.c (.d (.sc (.bool true))))), []))
theorem e1_210_9_ok (m : Int) : callW (E0 m) 210 e1_210_9.1.1 e1_210_9.1.2 = some e1_210_9.2 := callN_W (k := 1100) (by kernel_rfl)
def e1_210_10 : (List V1 × Heap) × (AV × Heap) := (([(.c (.d (ss [34,121,34])))], []), ((.v (.c (.d (.sc (.bool true))))), []))
theorem e1_210_10_ok (m : Int) : callW (E0 m) 210 e1_210_10.1.1 e1_210_10.1.2 = some e1_210_10.2 := callN_W (k := 1100) (by kernel_rfl)
def e1_210_11 : (List V1 × Heap) × (AV × Heap) := (([(.c (.d (ss [109,97,120,45,97,103,101,61,57])))], []), ((.v (.c (.d (.sc (.bool true))))), []))
theorem e1_210_11_ok (m : Int) : callW (E0 m) 210 e1_210_11.1.1 e1_210_11.1.2 = some e1_210_11.2 := callN_W (k := 1100) (by kernel_rfl)
def e1_210_12 : (List V1 × Heap) × (AV × Heap) := (([(.c (.d (ss [84,104,117,44,32,48,49,32,74,97,110,32,49,57,55,48,32,48,48,58,48,48,58,48,49,32,71,77,84])))], []), ((.v (.c (.d (.sc (.bool true))))), []))
theorem e1_210_12_ok (m : Int) : callW (E0 m) 210 e1_210_12.1.1 e1_210_12.1.2 = some e1_210_12.2 := callN_W (k := 1100) (by kernel_rfl)
def e1_210_13 : (List V1 × Heap) × (AV × Heap) := (([(.c (.d (ss [49])))], []), ((.v (.c (.d (.sc (.bool true))))), []))
theorem e1_210_13_ok (m : Int) : callW (E0 m) 210 e1_210_13.1.1 e1_210_13.1.2 = some e1_210_13.2 := callN_W (k := 1100) (by kernel_rfl)
def e1_210_14 : (List V1 × Heap) × (AV × Heap) := (([(.c (.d (ss [71,97,116,101,119,97,121,32,84,105,109,101,111,117,116])))], []), ((.v (.c (.d (.sc (.bool true))))), []))
theorem e1_210_14_ok (m : Int) : callW (E0 m) 210 e1_210_14.1.1 e1_210_14.1.2 = some e1_210_14.2 := callN_W (k := 1100) (by kernel_rfl)
def e1_210_15 : (List V1 × Heap) × (AV × Heap) := (([(.c (.d (ss [116,101,120,116,47,112,108,97,105,110])))], []), ((.v (.c (.d (.sc (.bool true))))), []))
theorem e1_210_15_ok (m : Int) : callW (E0 m) 210 e1_210_15.1.1 e1_210_15.1.2 = some e1_210_15.2 := callN_W (k := 1100) (by kernel_rfl)
def e1_210_16 : (List V1 × Heap) × (AV × Heap) := (([(.c (.d (ss [110,111,45,115,116,111,114,101])))], []), ((.v (.c (.d (.sc (.bool true))))), []))
theorem e1_210_16_ok (m : Int) : callW (E0 m) 210 e1_210_16.1.1 e1_210_16.1.2 = some e1_210_16.2 := callN_W (k := 1100) (by kernel_rfl)
def e1_210_17 : (List V1 × Heap) × (AV × Heap) := (([(.c (.d (ss [49,54])))], []), ((.v (.c (.d (.sc (.bool true))))), []))
theorem e1_210_17_ok (m : Int) : callW (E0 m) 210 e1_210_17.1.1 e1_210_17.1.2 = some e1_210_17.2 := callN_W (k := 1100) (by kernel_rfl)
def e1_210_18 : (List V1 × Heap) × (AV × Heap) := (([(.c (.d (ss [80,114,111,120,121,32,65,117,116,104,101,110,116,105,99,97,116,105,111,110,32,82,101,113,117,105,114,101,100])))], []), ((.v (.c (.d (.sc (.bool true))))), []))
theorem e1_210_18_ok (m : Int) : callW (E0 m) 210 e1_210_18.1.1 e1_210_18.1.2 = some e1_210_18.2 := callN_W (k := 1100) (by kernel_rfl)
def e1_210_19 : (List V1 × Heap) × (AV × Heap) := (([(.c (.d (ss [66,101,97,114,101,114])))], []), ((.v (.c (.d (.sc (.bool true))))), []))
theorem e1_210_19_ok (m : Int) : callW (E0 m) 210 e1_210_19.1.1 e1_210_19.1.2 = some e1_210_19.2 := callN_W (k := 1100) (by kernel_rfl)
def e1_210_20 : (List V1 × Heap) × (AV × Heap) := (([(.c (.d (ss [51,48])))], []), ((.v (.c (.d (.sc (.bool true))))), []))
theorem e1_210_20_ok (m : Int) : callW (E0 m) 210 e1_210_20.1.1 e1_210_20.1.2 = some e1_210_20.2 := callN_W (k := 1100) (by kernel_rfl)
def e1_251_0 : (List V1 × Heap) × (AV × Heap) := (([(.c (.d (ss [49])))], []), ((.tup [(.c (.d (.sc (.int .u64 1)))),(.c (.d (si 0)))]), []))
theorem e1_251_0_ok (m : Int) : callW (E0 m) 251 e1_251_0.1.1 e1_251_0.1.2 = some e1_251_0.2 := callN_W (k := 1100) (by kernel_rfl)
def e1_251_1 : (List V1 × Heap) × (AV × Heap) := (([(.c (.d (ss [57])))], []), ((.tup [(.c (.d (.sc (.int .u64 9)))),(.c (.d (si 0)))]), []))
theorem e1_251_1_ok (m : Int) : callW (E0 m) 251 e1_251_1.1.1 e1_251_1.1.2 = some e1_251_1.2 := callN_W (k := 1100) (by kernel_rfl)
def e1_289_0 : (List V1 × Heap) × (AV × Heap) := (([(.c (.d (ss [109,97,120,45,97,103,101,61,57])))], []), ((.tup [(.c (.d (ss [109,97,120,45,97,103,101]))),(.c (.d (ss [57]))),(.c (.d (.sc (.bool true))))]), []))
theorem e1_289_0_ok (m : Int) : callW (E0 m) 289 e1_289_0.1.1 e1_289_0.1.2 = some e1_289_0.2 := callN_W (k := 1100) (by kernel_rfl)
def e1_292_0 : (List V1 × Heap) × (AV × Heap) := (([(.c (.d (ss [84,104,117,44,32,48,49,32,74,97,110,32,49,57,55,48,32,48,48,58,48,48,58,48,49,32,71,77,84])))], []), ((.tup [(.c (.d (.sc (.int .u64 1)))),(.c (.d (si 0)))]), []))
theorem e1_292_0_ok (m : Int) : callW (E0 m) 292 e1_292_0.1.1 e1_292_0.1.2 = some e1_292_0.2 := callN_W (k := 1100) (by kernel_rfl)
end Go.Proofs.YteenmbcmgcnkmaaGreatDoor
