/- Calls that the law makes, and what they answer: each one a run of the evaluator; then their table. -/
import Derived.Test.YteenmbcmgcnkmaaGreatDoorPart8N8
set_option linter.unusedVariables false
set_option linter.unusedSimpArgs false
set_option maxRecDepth 100000
namespace Go.Proofs.YteenmbcmgcnkmaaGreatDoor
open Go Go.Ab
def T3_41 : Memo := [e3_41_0, e3_41_1, e3_41_2, e3_41_3, e3_41_4, e3_41_5, e3_41_6, e3_41_7, e3_41_8, e3_41_9, e3_41_10, e3_41_11, e3_41_12, e3_41_13, e3_41_14, e3_41_15, e3_41_16, e3_41_17, e3_41_18, e3_41_19, e3_41_20, e3_41_21, e3_41_22, e3_41_23, e3_41_24, e3_41_25, e3_41_26, e3_41_27, e3_41_28, e3_41_29, e3_41_30, e3_41_31, e3_41_32, e3_41_33, e3_41_34]
theorem T3_41_ok (m : Int) : MemoOk (E0_2 m) 41 T3_41 := ⟨e3_41_0_ok m, e3_41_1_ok m, e3_41_2_ok m, e3_41_3_ok m, e3_41_4_ok m, e3_41_5_ok m, e3_41_6_ok m, e3_41_7_ok m, e3_41_8_ok m, e3_41_9_ok m, e3_41_10_ok m, e3_41_11_ok m, e3_41_12_ok m, e3_41_13_ok m, e3_41_14_ok m, e3_41_15_ok m, e3_41_16_ok m, e3_41_17_ok m, e3_41_18_ok m, e3_41_19_ok m, e3_41_20_ok m, e3_41_21_ok m, e3_41_22_ok m, e3_41_23_ok m, e3_41_24_ok m, e3_41_25_ok m, e3_41_26_ok m, e3_41_27_ok m, e3_41_28_ok m, e3_41_29_ok m, e3_41_30_ok m, e3_41_31_ok m, e3_41_32_ok m, e3_41_33_ok m, e3_41_34_ok m, trivial⟩
noncomputable def primL3 (m : Int) : FuncId → Option (List V1 → Heap → Option (AV × Heap))
  | 41 => some (lookM T3_41)
  | g => primL2 m g
noncomputable def E0_3 (m : Int) : Env := { E0_2 m with prim := primL3 m }
theorem E0_3ok (m : Int) : EnvOk (E0_3 m) := env_prim (E0_2ok m) fun g p h => by
  unfold primL3 at h
  split at h
  · cases h; exact memo_ok (E0_2ok m) (T3_41_ok m)
  · exact (E0_2ok m).prim g p h
end Go.Proofs.YteenmbcmgcnkmaaGreatDoor
