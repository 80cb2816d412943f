/- Calls that the law makes, and what they answer: each one a run of the evaluator; then their table. -/
import Derived.Test.YtchlmpfflddogaaGreatDoorPart7N5
set_option linter.unusedVariables false
set_option linter.unusedSimpArgs false
set_option maxRecDepth 100000
namespace Go.Proofs.YtchlmpfflddogaaGreatDoor
open Go Go.Ab
def T3_10 : Memo := [e3_10_0]
theorem T3_10_ok (m : Int) : MemoOk (E0_2 m) 10 T3_10 := ⟨e3_10_0_ok m, trivial⟩
noncomputable def primL3 (m : Int) : FuncId → Option (List V1 → Heap → Option (AV × Heap))
  | 10 => some (lookM T3_10)
  | g => primL2 m g
noncomputable def E0_3 (m : Int) : Env := { E0_2 m with prim := primL3 m }
theorem E0_3ok (m : Int) : EnvOk (E0_3 m) := env_prim (E0_2ok m) fun g p h => by
  unfold primL3 at h
  split at h
  · cases h; exact memo_ok (E0_2ok m) (T3_10_ok m)
  · exact (E0_2ok m).prim g p h
end Go.Proofs.YtchlmpfflddogaaGreatDoor
