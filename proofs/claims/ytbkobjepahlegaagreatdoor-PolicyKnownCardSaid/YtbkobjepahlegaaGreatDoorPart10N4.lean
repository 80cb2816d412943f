/- Calls that the law makes, and what they answer: each one a run of the evaluator; then their table. -/
import Derived.Test.YtbkobjepahlegaaGreatDoorPart10N3
set_option linter.unusedVariables false
set_option linter.unusedSimpArgs false
set_option maxRecDepth 100000
namespace Go.Proofs.YtbkobjepahlegaaGreatDoor
open Go Go.Ab
def T2_15 : Memo := [e2_15_0, e2_15_1, e2_15_2, e2_15_3, e2_15_4]
theorem T2_15_ok (m : Int) : MemoOk (E0_1 m) 15 T2_15 := ⟨e2_15_0_ok m, e2_15_1_ok m, e2_15_2_ok m, e2_15_3_ok m, e2_15_4_ok m, trivial⟩
def T2_23 : Memo := [e2_23_0, e2_23_1, e2_23_2, e2_23_3, e2_23_4, e2_23_5, e2_23_6, e2_23_7, e2_23_8, e2_23_9, e2_23_10]
theorem T2_23_ok (m : Int) : MemoOk (E0_1 m) 23 T2_23 := ⟨e2_23_0_ok m, e2_23_1_ok m, e2_23_2_ok m, e2_23_3_ok m, e2_23_4_ok m, e2_23_5_ok m, e2_23_6_ok m, e2_23_7_ok m, e2_23_8_ok m, e2_23_9_ok m, e2_23_10_ok m, trivial⟩
def T2_25 : Memo := [e2_25_0, e2_25_1, e2_25_2, e2_25_3, e2_25_4, e2_25_5, e2_25_6, e2_25_7, e2_25_8, e2_25_9, e2_25_10, e2_25_11, e2_25_12, e2_25_13, e2_25_14, e2_25_15, e2_25_16, e2_25_17, e2_25_18]
theorem T2_25_ok (m : Int) : MemoOk (E0_1 m) 25 T2_25 := ⟨e2_25_0_ok m, e2_25_1_ok m, e2_25_2_ok m, e2_25_3_ok m, e2_25_4_ok m, e2_25_5_ok m, e2_25_6_ok m, e2_25_7_ok m, e2_25_8_ok m, e2_25_9_ok m, e2_25_10_ok m, e2_25_11_ok m, e2_25_12_ok m, e2_25_13_ok m, e2_25_14_ok m, e2_25_15_ok m, e2_25_16_ok m, e2_25_17_ok m, e2_25_18_ok m, trivial⟩
def T2_41 : Memo := [e2_41_0, e2_41_1]
theorem T2_41_ok (m : Int) : MemoOk (E0_1 m) 41 T2_41 := ⟨e2_41_0_ok m, e2_41_1_ok m, trivial⟩
def T2_56 : Memo := [e2_56_0, e2_56_1, e2_56_2, e2_56_3]
theorem T2_56_ok (m : Int) : MemoOk (E0_1 m) 56 T2_56 := ⟨e2_56_0_ok m, e2_56_1_ok m, e2_56_2_ok m, e2_56_3_ok m, trivial⟩
noncomputable def primL2 (m : Int) : FuncId → Option (List V1 → Heap → Option (AV × Heap))
  | 15 => some (lookM T2_15)
  | 23 => some (lookM T2_23)
  | 25 => some (lookM T2_25)
  | 41 => some (lookM T2_41)
  | 56 => some (lookM T2_56)
  | g => primL1 m g
noncomputable def E0_2 (m : Int) : Env := { E0_1 m with prim := primL2 m }
theorem E0_2ok (m : Int) : EnvOk (E0_2 m) := env_prim (E0_1ok m) fun g p h => by
  unfold primL2 at h
  split at h
  · cases h; exact memo_ok (E0_1ok m) (T2_15_ok m)
  · cases h; exact memo_ok (E0_1ok m) (T2_23_ok m)
  · cases h; exact memo_ok (E0_1ok m) (T2_25_ok m)
  · cases h; exact memo_ok (E0_1ok m) (T2_41_ok m)
  · cases h; exact memo_ok (E0_1ok m) (T2_56_ok m)
  · exact (E0_1ok m).prim g p h
end Go.Proofs.YtbkobjepahlegaaGreatDoor
