/- Calls that the law makes, and what they answer: each one a run of the evaluator; then their table. -/
import Derived.Test.YtcjkhdkfdnjhaaaDoorPart9N5
set_option linter.unusedVariables false
set_option linter.unusedSimpArgs false
set_option maxRecDepth 100000
namespace Go.Proofs.YtcjkhdkfdnjhaaaDoor
open Go Go.Ab
def T2_20 : Memo := [e2_20_0]
theorem T2_20_ok (m : Int) : MemoOk (E0_1 m) 20 T2_20 := ⟨e2_20_0_ok m, trivial⟩
noncomputable def primL2 (m : Int) : FuncId → Option (List V1 → Heap → Option (AV × Heap))
  | 20 => some (lookM T2_20)
  | g => primL1 m g
noncomputable def E0_2 (m : Int) : Env := { E0_1 m with prim := primL2 m }
theorem E0_2ok (m : Int) : EnvOk (E0_2 m) := env_prim (E0_1ok m) fun g p h => by
  unfold primL2 at h
  split at h
  · cases h; exact memo_ok (E0_1ok m) (T2_20_ok m)
  · exact (E0_1ok m).prim g p h
end Go.Proofs.YtcjkhdkfdnjhaaaDoor
