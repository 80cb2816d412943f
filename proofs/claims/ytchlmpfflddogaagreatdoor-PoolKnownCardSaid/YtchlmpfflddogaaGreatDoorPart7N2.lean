/- Calls that the law makes, and what they answer: each one a run of the evaluator; then their table. -/
import Derived.Test.YtchlmpfflddogaaGreatDoorPart7N1
set_option linter.unusedVariables false
set_option linter.unusedSimpArgs false
set_option maxRecDepth 100000
namespace Go.Proofs.YtchlmpfflddogaaGreatDoor
open Go Go.Ab
def T1_47 : Memo := [e1_47_0, e1_47_1, e1_47_2]
theorem T1_47_ok (m : Int) : MemoOk (E0 m) 47 T1_47 := ⟨e1_47_0_ok m, e1_47_1_ok m, e1_47_2_ok m, trivial⟩
def T1_64 : Memo := [e1_64_0, e1_64_1]
theorem T1_64_ok (m : Int) : MemoOk (E0 m) 64 T1_64 := ⟨e1_64_0_ok m, e1_64_1_ok m, trivial⟩
def T1_65 : Memo := [e1_65_0, e1_65_1]
theorem T1_65_ok (m : Int) : MemoOk (E0 m) 65 T1_65 := ⟨e1_65_0_ok m, e1_65_1_ok m, trivial⟩
noncomputable def primL1 (m : Int) : FuncId → Option (List V1 → Heap → Option (AV × Heap))
  | 47 => some (lookM T1_47)
  | 64 => some (lookM T1_64)
  | 65 => some (lookM T1_65)
  | g => primT g
noncomputable def E0_1 (m : Int) : Env := { E0 m with prim := primL1 m }
theorem E0_1ok (m : Int) : EnvOk (E0_1 m) := env_prim (E0ok m) fun g p h => by
  unfold primL1 at h
  split at h
  · cases h; exact memo_ok (E0ok m) (T1_47_ok m)
  · cases h; exact memo_ok (E0ok m) (T1_64_ok m)
  · cases h; exact memo_ok (E0ok m) (T1_65_ok m)
  · exact (E0ok m).prim g p h
end Go.Proofs.YtchlmpfflddogaaGreatDoor
