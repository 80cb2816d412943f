/- Calls that the law makes, and what they answer: each one a run of the evaluator; then their table. -/
import Derived.Test.YteenmbcmgcnkmaaGreatDoorPart8N5
set_option linter.unusedVariables false
set_option linter.unusedSimpArgs false
set_option maxRecDepth 100000
namespace Go.Proofs.YteenmbcmgcnkmaaGreatDoor
open Go Go.Ab
def T2_72 : Memo := [e2_72_0, e2_72_1, e2_72_2, e2_72_3, e2_72_4, e2_72_5, e2_72_6, e2_72_7, e2_72_8, e2_72_9, e2_72_10, e2_72_11, e2_72_12, e2_72_13, e2_72_14, e2_72_15, e2_72_16, e2_72_17, e2_72_18, e2_72_19, e2_72_20, e2_72_21, e2_72_22, e2_72_23]
theorem T2_72_ok (m : Int) : MemoOk (E0_1 m) 72 T2_72 := ⟨e2_72_0_ok m, e2_72_1_ok m, e2_72_2_ok m, e2_72_3_ok m, e2_72_4_ok m, e2_72_5_ok m, e2_72_6_ok m, e2_72_7_ok m, e2_72_8_ok m, e2_72_9_ok m, e2_72_10_ok m, e2_72_11_ok m, e2_72_12_ok m, e2_72_13_ok m, e2_72_14_ok m, e2_72_15_ok m, e2_72_16_ok m, e2_72_17_ok m, e2_72_18_ok m, e2_72_19_ok m, e2_72_20_ok m, e2_72_21_ok m, e2_72_22_ok m, e2_72_23_ok m, trivial⟩
def T2_73 : Memo := [e2_73_0, e2_73_1, e2_73_2, e2_73_3, e2_73_4]
theorem T2_73_ok (m : Int) : MemoOk (E0_1 m) 73 T2_73 := ⟨e2_73_0_ok m, e2_73_1_ok m, e2_73_2_ok m, e2_73_3_ok m, e2_73_4_ok m, trivial⟩
def T2_271 : Memo := [e2_271_0, e2_271_1, e2_271_2, e2_271_3, e2_271_4, e2_271_5, e2_271_6, e2_271_7, e2_271_8, e2_271_9, e2_271_10]
theorem T2_271_ok (m : Int) : MemoOk (E0_1 m) 271 T2_271 := ⟨e2_271_0_ok m, e2_271_1_ok m, e2_271_2_ok m, e2_271_3_ok m, e2_271_4_ok m, e2_271_5_ok m, e2_271_6_ok m, e2_271_7_ok m, e2_271_8_ok m, e2_271_9_ok m, e2_271_10_ok m, trivial⟩
noncomputable def primL2 (m : Int) : FuncId → Option (List V1 → Heap → Option (AV × Heap))
  | 72 => some (lookM T2_72)
  | 73 => some (lookM T2_73)
  | 271 => some (lookM T2_271)
  | g => primL1 m g
noncomputable def E0_2 (m : Int) : Env := { E0_1 m with prim := primL2 m }
theorem E0_2ok (m : Int) : EnvOk (E0_2 m) := env_prim (E0_1ok m) fun g p h => by
  unfold primL2 at h
  split at h
  · cases h; exact memo_ok (E0_1ok m) (T2_72_ok m)
  · cases h; exact memo_ok (E0_1ok m) (T2_73_ok m)
  · cases h; exact memo_ok (E0_1ok m) (T2_271_ok m)
  · exact (E0_1ok m).prim g p h
end Go.Proofs.YteenmbcmgcnkmaaGreatDoor
