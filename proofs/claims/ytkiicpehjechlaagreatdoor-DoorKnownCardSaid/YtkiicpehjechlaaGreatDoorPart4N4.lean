/- Calls that the law makes, and what they answer: each one a run of the evaluator; then their table. -/
import Derived.Test.YtkiicpehjechlaaGreatDoorPart4N3
set_option linter.unusedVariables false
set_option linter.unusedSimpArgs false
set_option maxRecDepth 100000
namespace Go.Proofs.YtkiicpehjechlaaGreatDoor
open Go Go.Ab
def T2_8 : Memo := [e2_8_0]
theorem T2_8_ok (m : Int) : MemoOk (E0_1 m) 8 T2_8 := ⟨e2_8_0_ok m, trivial⟩
def primL2 : FuncId → Option (List V1 → Heap → Option (AV × Heap))
  | 8 => some (lookM T2_8)
  | g => primL1 g
noncomputable def E0_2 (m : Int) : Env := { E0_1 m with prim := primL2 }
theorem E0_2ok (m : Int) : EnvOk (E0_2 m) := env_prim (E0_1ok m) fun g p h => by
  unfold primL2 at h
  split at h
  · cases h; exact memo_ok (E0_1ok m) (T2_8_ok m)
  · exact (E0_1ok m).prim g p h
end Go.Proofs.YtkiicpehjechlaaGreatDoor
