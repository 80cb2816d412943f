/- Calls that the law makes, and what they answer: each one a run of the evaluator; then their table. -/
import Derived.Test.YtoohbnmhjfgclaaGreatDoorPart8N5
set_option linter.unusedVariables false
set_option linter.unusedSimpArgs false
set_option maxRecDepth 100000
namespace Go.Proofs.YtoohbnmhjfgclaaGreatDoor
open Go Go.Ab
def T2_47 : Memo := [e2_47_0, e2_47_1, e2_47_2, e2_47_3, e2_47_4, e2_47_5, e2_47_6, e2_47_7, e2_47_8]
theorem T2_47_ok (m : Int) : MemoOk (E0_1 m) 47 T2_47 := ⟨e2_47_0_ok m, e2_47_1_ok m, e2_47_2_ok m, e2_47_3_ok m, e2_47_4_ok m, e2_47_5_ok m, e2_47_6_ok m, e2_47_7_ok m, e2_47_8_ok m, trivial⟩
def T2_51 : Memo := [e2_51_0, e2_51_1, e2_51_2, e2_51_3, e2_51_4, e2_51_5]
theorem T2_51_ok (m : Int) : MemoOk (E0_1 m) 51 T2_51 := ⟨e2_51_0_ok m, e2_51_1_ok m, e2_51_2_ok m, e2_51_3_ok m, e2_51_4_ok m, e2_51_5_ok m, trivial⟩
def T2_68 : Memo := [e2_68_0, e2_68_1, e2_68_2]
theorem T2_68_ok (m : Int) : MemoOk (E0_1 m) 68 T2_68 := ⟨e2_68_0_ok m, e2_68_1_ok m, e2_68_2_ok m, trivial⟩
def T2_72 : Memo := [e2_72_0, e2_72_1]
theorem T2_72_ok (m : Int) : MemoOk (E0_1 m) 72 T2_72 := ⟨e2_72_0_ok m, e2_72_1_ok m, trivial⟩
noncomputable def primL2 (m : Int) : FuncId → Option (List V1 → Heap → Option (AV × Heap))
  | 47 => some (lookM T2_47)
  | 51 => some (lookM T2_51)
  | 68 => some (lookM T2_68)
  | 72 => some (lookM T2_72)
  | g => primL1 m g
noncomputable def E0_2 (m : Int) : Env := { E0_1 m with prim := primL2 m }
theorem E0_2ok (m : Int) : EnvOk (E0_2 m) := env_prim (E0_1ok m) fun g p h => by
  unfold primL2 at h
  split at h
  · cases h; exact memo_ok (E0_1ok m) (T2_47_ok m)
  · cases h; exact memo_ok (E0_1ok m) (T2_51_ok m)
  · cases h; exact memo_ok (E0_1ok m) (T2_68_ok m)
  · cases h; exact memo_ok (E0_1ok m) (T2_72_ok m)
  · exact (E0_1ok m).prim g p h
end Go.Proofs.YtoohbnmhjfgclaaGreatDoor
