/- Calls that the law makes, and what they answer: each one a run of the evaluator; then their table. -/
import Derived.Test.YtkiicpehjechlaaGreatDoorPart4N1
set_option linter.unusedVariables false
set_option linter.unusedSimpArgs false
set_option maxRecDepth 100000
namespace Go.Proofs.YtkiicpehjechlaaGreatDoor
open Go Go.Ab
def T1_7 : Memo := [e1_7_0, e1_7_1, e1_7_2, e1_7_3]
theorem T1_7_ok (m : Int) : MemoOk (E0 m) 7 T1_7 := ⟨e1_7_0_ok m, e1_7_1_ok m, e1_7_2_ok m, e1_7_3_ok m, trivial⟩
def T1_13 : Memo := [e1_13_0, e1_13_1]
theorem T1_13_ok (m : Int) : MemoOk (E0 m) 13 T1_13 := ⟨e1_13_0_ok m, e1_13_1_ok m, trivial⟩
def T1_14 : Memo := [e1_14_0, e1_14_1]
theorem T1_14_ok (m : Int) : MemoOk (E0 m) 14 T1_14 := ⟨e1_14_0_ok m, e1_14_1_ok m, trivial⟩
def T1_15 : Memo := [e1_15_0, e1_15_1, e1_15_2, e1_15_3, e1_15_4, e1_15_5]
theorem T1_15_ok (m : Int) : MemoOk (E0 m) 15 T1_15 := ⟨e1_15_0_ok m, e1_15_1_ok m, e1_15_2_ok m, e1_15_3_ok m, e1_15_4_ok m, e1_15_5_ok m, trivial⟩
def T1_16 : Memo := [e1_16_0, e1_16_1, e1_16_2, e1_16_3, e1_16_4, e1_16_5, e1_16_6]
theorem T1_16_ok (m : Int) : MemoOk (E0 m) 16 T1_16 := ⟨e1_16_0_ok m, e1_16_1_ok m, e1_16_2_ok m, e1_16_3_ok m, e1_16_4_ok m, e1_16_5_ok m, e1_16_6_ok m, trivial⟩
def T1_17 : Memo := [e1_17_0, e1_17_1, e1_17_2]
theorem T1_17_ok (m : Int) : MemoOk (E0 m) 17 T1_17 := ⟨e1_17_0_ok m, e1_17_1_ok m, e1_17_2_ok m, trivial⟩
def T1_18 : Memo := [e1_18_0, e1_18_1, e1_18_2, e1_18_3, e1_18_4]
theorem T1_18_ok (m : Int) : MemoOk (E0 m) 18 T1_18 := ⟨e1_18_0_ok m, e1_18_1_ok m, e1_18_2_ok m, e1_18_3_ok m, e1_18_4_ok m, trivial⟩
def T1_19 : Memo := [e1_19_0, e1_19_1, e1_19_2, e1_19_3, e1_19_4]
theorem T1_19_ok (m : Int) : MemoOk (E0 m) 19 T1_19 := ⟨e1_19_0_ok m, e1_19_1_ok m, e1_19_2_ok m, e1_19_3_ok m, e1_19_4_ok m, trivial⟩
def T1_20 : Memo := [e1_20_0, e1_20_1, e1_20_2]
theorem T1_20_ok (m : Int) : MemoOk (E0 m) 20 T1_20 := ⟨e1_20_0_ok m, e1_20_1_ok m, e1_20_2_ok m, trivial⟩
def T1_21 : Memo := [e1_21_0, e1_21_1, e1_21_2]
theorem T1_21_ok (m : Int) : MemoOk (E0 m) 21 T1_21 := ⟨e1_21_0_ok m, e1_21_1_ok m, e1_21_2_ok m, trivial⟩
def T1_22 : Memo := [e1_22_0, e1_22_1]
theorem T1_22_ok (m : Int) : MemoOk (E0 m) 22 T1_22 := ⟨e1_22_0_ok m, e1_22_1_ok m, trivial⟩
def primL1 : FuncId → Option (List V1 → Heap → Option (AV × Heap))
  | 7 => some (lookM T1_7)
  | 13 => some (lookM T1_13)
  | 14 => some (lookM T1_14)
  | 15 => some (lookM T1_15)
  | 16 => some (lookM T1_16)
  | 17 => some (lookM T1_17)
  | 18 => some (lookM T1_18)
  | 19 => some (lookM T1_19)
  | 20 => some (lookM T1_20)
  | 21 => some (lookM T1_21)
  | 22 => some (lookM T1_22)
  | g => primT g
noncomputable def E0_1 (m : Int) : Env := { E0 m with prim := primL1 }
theorem E0_1ok (m : Int) : EnvOk (E0_1 m) := env_prim (E0ok m) fun g p h => by
  unfold primL1 at h
  split at h
  · cases h; exact memo_ok (E0ok m) (T1_7_ok m)
  · cases h; exact memo_ok (E0ok m) (T1_13_ok m)
  · cases h; exact memo_ok (E0ok m) (T1_14_ok m)
  · cases h; exact memo_ok (E0ok m) (T1_15_ok m)
  · cases h; exact memo_ok (E0ok m) (T1_16_ok m)
  · cases h; exact memo_ok (E0ok m) (T1_17_ok m)
  · cases h; exact memo_ok (E0ok m) (T1_18_ok m)
  · cases h; exact memo_ok (E0ok m) (T1_19_ok m)
  · cases h; exact memo_ok (E0ok m) (T1_20_ok m)
  · cases h; exact memo_ok (E0ok m) (T1_21_ok m)
  · cases h; exact memo_ok (E0ok m) (T1_22_ok m)
  · exact (E0ok m).prim g p h
end Go.Proofs.YtkiicpehjechlaaGreatDoor
