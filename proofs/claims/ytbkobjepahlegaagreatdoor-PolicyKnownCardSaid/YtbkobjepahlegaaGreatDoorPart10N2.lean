/- Calls that the law makes, and what they answer: each one a run of the evaluator; then their table. -/
import Derived.Test.YtbkobjepahlegaaGreatDoorPart10N1
set_option linter.unusedVariables false
set_option linter.unusedSimpArgs false
set_option maxRecDepth 100000
namespace Go.Proofs.YtbkobjepahlegaaGreatDoor
open Go Go.Ab
def T1_24 : Memo := [e1_24_0, e1_24_1, e1_24_2, e1_24_3, e1_24_4, e1_24_5, e1_24_6, e1_24_7]
theorem T1_24_ok (m : Int) : MemoOk (E0 m) 24 T1_24 := ⟨e1_24_0_ok m, e1_24_1_ok m, e1_24_2_ok m, e1_24_3_ok m, e1_24_4_ok m, e1_24_5_ok m, e1_24_6_ok m, e1_24_7_ok m, trivial⟩
def T1_26 : Memo := [e1_26_0, e1_26_1, e1_26_2, e1_26_3, e1_26_4, e1_26_5, e1_26_6, e1_26_7]
theorem T1_26_ok (m : Int) : MemoOk (E0 m) 26 T1_26 := ⟨e1_26_0_ok m, e1_26_1_ok m, e1_26_2_ok m, e1_26_3_ok m, e1_26_4_ok m, e1_26_5_ok m, e1_26_6_ok m, e1_26_7_ok m, trivial⟩
def T1_28 : Memo := [e1_28_0, e1_28_1, e1_28_2, e1_28_3, e1_28_4, e1_28_5, e1_28_6, e1_28_7, e1_28_8, e1_28_9, e1_28_10, e1_28_11, e1_28_12, e1_28_13, e1_28_14, e1_28_15, e1_28_16, e1_28_17, e1_28_18, e1_28_19, e1_28_20, e1_28_21]
theorem T1_28_ok (m : Int) : MemoOk (E0 m) 28 T1_28 := ⟨e1_28_0_ok m, e1_28_1_ok m, e1_28_2_ok m, e1_28_3_ok m, e1_28_4_ok m, e1_28_5_ok m, e1_28_6_ok m, e1_28_7_ok m, e1_28_8_ok m, e1_28_9_ok m, e1_28_10_ok m, e1_28_11_ok m, e1_28_12_ok m, e1_28_13_ok m, e1_28_14_ok m, e1_28_15_ok m, e1_28_16_ok m, e1_28_17_ok m, e1_28_18_ok m, e1_28_19_ok m, e1_28_20_ok m, e1_28_21_ok m, trivial⟩
def T1_29 : Memo := [e1_29_0, e1_29_1, e1_29_2, e1_29_3, e1_29_4, e1_29_5, e1_29_6, e1_29_7, e1_29_8, e1_29_9, e1_29_10, e1_29_11, e1_29_12, e1_29_13, e1_29_14, e1_29_15, e1_29_16, e1_29_17]
theorem T1_29_ok (m : Int) : MemoOk (E0 m) 29 T1_29 := ⟨e1_29_0_ok m, e1_29_1_ok m, e1_29_2_ok m, e1_29_3_ok m, e1_29_4_ok m, e1_29_5_ok m, e1_29_6_ok m, e1_29_7_ok m, e1_29_8_ok m, e1_29_9_ok m, e1_29_10_ok m, e1_29_11_ok m, e1_29_12_ok m, e1_29_13_ok m, e1_29_14_ok m, e1_29_15_ok m, e1_29_16_ok m, e1_29_17_ok m, trivial⟩
def T1_30 : Memo := [e1_30_0, e1_30_1, e1_30_2, e1_30_3]
theorem T1_30_ok (m : Int) : MemoOk (E0 m) 30 T1_30 := ⟨e1_30_0_ok m, e1_30_1_ok m, e1_30_2_ok m, e1_30_3_ok m, trivial⟩
def T1_54 : Memo := [e1_54_0, e1_54_1, e1_54_2, e1_54_3, e1_54_4]
theorem T1_54_ok (m : Int) : MemoOk (E0 m) 54 T1_54 := ⟨e1_54_0_ok m, e1_54_1_ok m, e1_54_2_ok m, e1_54_3_ok m, e1_54_4_ok m, trivial⟩
def T1_59 : Memo := [e1_59_0, e1_59_1, e1_59_2, e1_59_3, e1_59_4, e1_59_5, e1_59_6, e1_59_7, e1_59_8, e1_59_9, e1_59_10, e1_59_11]
theorem T1_59_ok (m : Int) : MemoOk (E0 m) 59 T1_59 := ⟨e1_59_0_ok m, e1_59_1_ok m, e1_59_2_ok m, e1_59_3_ok m, e1_59_4_ok m, e1_59_5_ok m, e1_59_6_ok m, e1_59_7_ok m, e1_59_8_ok m, e1_59_9_ok m, e1_59_10_ok m, e1_59_11_ok m, trivial⟩
noncomputable def primL1 (m : Int) : FuncId → Option (List V1 → Heap → Option (AV × Heap))
  | 24 => some (lookM T1_24)
  | 26 => some (lookM T1_26)
  | 28 => some (lookM T1_28)
  | 29 => some (lookM T1_29)
  | 30 => some (lookM T1_30)
  | 54 => some (lookM T1_54)
  | 59 => some (lookM T1_59)
  | g => primT g
noncomputable def E0_1 (m : Int) : Env := { E0 m with prim := primL1 m }
theorem E0_1ok (m : Int) : EnvOk (E0_1 m) := env_prim (E0ok m) fun g p h => by
  unfold primL1 at h
  split at h
  · cases h; exact memo_ok (E0ok m) (T1_24_ok m)
  · cases h; exact memo_ok (E0ok m) (T1_26_ok m)
  · cases h; exact memo_ok (E0ok m) (T1_28_ok m)
  · cases h; exact memo_ok (E0ok m) (T1_29_ok m)
  · cases h; exact memo_ok (E0ok m) (T1_30_ok m)
  · cases h; exact memo_ok (E0ok m) (T1_54_ok m)
  · cases h; exact memo_ok (E0ok m) (T1_59_ok m)
  · exact (E0ok m).prim g p h
end Go.Proofs.YtbkobjepahlegaaGreatDoor
