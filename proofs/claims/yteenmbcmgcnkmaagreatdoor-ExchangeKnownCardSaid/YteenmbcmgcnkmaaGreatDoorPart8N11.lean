/- Calls that the law makes, and what they answer: each one a run of the evaluator; then their table. -/
import Derived.Test.YteenmbcmgcnkmaaGreatDoorPart8N10
set_option linter.unusedVariables false
set_option linter.unusedSimpArgs false
set_option maxRecDepth 100000
namespace Go.Proofs.YteenmbcmgcnkmaaGreatDoor
open Go Go.Ab
def T4_10 : Memo := [e4_10_0, e4_10_1, e4_10_2, e4_10_3]
theorem T4_10_ok (m : Int) : MemoOk (E0_3 m) 10 T4_10 := ⟨e4_10_0_ok m, e4_10_1_ok m, e4_10_2_ok m, e4_10_3_ok m, trivial⟩
def T4_15 : Memo := [e4_15_0, e4_15_1, e4_15_2]
theorem T4_15_ok (m : Int) : MemoOk (E0_3 m) 15 T4_15 := ⟨e4_15_0_ok m, e4_15_1_ok m, e4_15_2_ok m, trivial⟩
def T4_27 : Memo := [e4_27_0, e4_27_1, e4_27_2, e4_27_3]
theorem T4_27_ok (m : Int) : MemoOk (E0_3 m) 27 T4_27 := ⟨e4_27_0_ok m, e4_27_1_ok m, e4_27_2_ok m, e4_27_3_ok m, trivial⟩
def T4_31 : Memo := [e4_31_0]
theorem T4_31_ok (m : Int) : MemoOk (E0_3 m) 31 T4_31 := ⟨e4_31_0_ok m, trivial⟩
def T4_33 : Memo := [e4_33_0, e4_33_1, e4_33_2]
theorem T4_33_ok (m : Int) : MemoOk (E0_3 m) 33 T4_33 := ⟨e4_33_0_ok m, e4_33_1_ok m, e4_33_2_ok m, trivial⟩
noncomputable def primL4 (m : Int) : FuncId → Option (List V1 → Heap → Option (AV × Heap))
  | 10 => some (lookM T4_10)
  | 15 => some (lookM T4_15)
  | 27 => some (lookM T4_27)
  | 31 => some (lookM T4_31)
  | 33 => some (lookM T4_33)
  | g => primL3 m g
noncomputable def E0_4 (m : Int) : Env := { E0_3 m with prim := primL4 m }
theorem E0_4ok (m : Int) : EnvOk (E0_4 m) := env_prim (E0_3ok m) fun g p h => by
  unfold primL4 at h
  split at h
  · cases h; exact memo_ok (E0_3ok m) (T4_10_ok m)
  · cases h; exact memo_ok (E0_3ok m) (T4_15_ok m)
  · cases h; exact memo_ok (E0_3ok m) (T4_27_ok m)
  · cases h; exact memo_ok (E0_3ok m) (T4_31_ok m)
  · cases h; exact memo_ok (E0_3ok m) (T4_33_ok m)
  · exact (E0_3ok m).prim g p h
end Go.Proofs.YteenmbcmgcnkmaaGreatDoor
