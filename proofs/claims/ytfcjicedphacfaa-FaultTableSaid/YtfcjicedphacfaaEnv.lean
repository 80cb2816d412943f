/- The evaluator's surroundings. -/
import Derived.Test.YtfcjicedphacfaaProg
import Derived.KernelRfl
import Derived.Test.YtfcjicedphacfaaEv7
set_option linter.all false
set_option maxRecDepth 100000
namespace Go.Proofs.Ytfcjicedphacfaa
open Go Go.Ab
def live : FuncId → Nat → List (Nat × Co)
  | 3, 4 => [(1, .keep), (7, .keep), (8, .keep), (9, .keep)]
  | 4, 4 => [(1, .keep), (2, .keep), (3, .keep)]
  | 4, 18 => [(2, .keep), (5, .keep), (6, .keep), (7, .keep)]
  | 16, 4 => [(0, .keep), (1, .keep), (5, .keep)]
  | 18, 4 => [(0, .keep), (1, .keep), (12, .keep), (13, .keep)]
  | 19, 4 => [(0, .keep), (1, .keep), (12, .keep), (13, .keep)]
  | 20, 2 => [(0, .keep), (1, .keep), (7, .keep), (8, .keep)]
  | _, _ => []
def primT : FuncId → Option (List V1 → Heap → Option (AV × Heap))
  | _ => none
def extT : FuncId → List Value → Option Value
  | _, _ => none
def hardT : String → Bool := fun s => false
def aownT : String → Bool := fun s => s == "text.go:53"
def rowT : String → Bool := fun s => s == "fault.go:31" || s == "fault.go:33"
noncomputable def E0 (mm : Int) : Env := { P := Try.prog, live := live, hard := hardT, row := rowT, ext := extT, base := fun _ _ => none, glob := fun _ => none, hand := fun _ => false, prim := primT, extp := fun _ => none, nw := fun _ => false, aown := aownT }
end Go.Proofs.Ytfcjicedphacfaa
