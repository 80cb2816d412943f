/- Calls that the law makes, and what they answer: each one a run of the evaluator; then their table. -/
import Derived.Test.YtchlmpfflddogaaGreatDoorPart7N3
set_option linter.unusedVariables false
set_option linter.unusedSimpArgs false
set_option maxRecDepth 100000
namespace Go.Proofs.YtchlmpfflddogaaGreatDoor
open Go Go.Ab
def T2_9 : Memo := [e2_9_0, e2_9_1, e2_9_2, e2_9_3]
theorem T2_9_ok (m : Int) : MemoOk (E0_1 m) 9 T2_9 := ⟨e2_9_0_ok m, e2_9_1_ok m, e2_9_2_ok m, e2_9_3_ok m, trivial⟩
def T2_11 : Memo := [e2_11_0, e2_11_1, e2_11_2, e2_11_3, e2_11_4, e2_11_5, e2_11_6, e2_11_7]
theorem T2_11_ok (m : Int) : MemoOk (E0_1 m) 11 T2_11 := ⟨e2_11_0_ok m, e2_11_1_ok m, e2_11_2_ok m, e2_11_3_ok m, e2_11_4_ok m, e2_11_5_ok m, e2_11_6_ok m, e2_11_7_ok m, trivial⟩
def T2_12 : Memo := [e2_12_0, e2_12_1, e2_12_2, e2_12_3, e2_12_4]
theorem T2_12_ok (m : Int) : MemoOk (E0_1 m) 12 T2_12 := ⟨e2_12_0_ok m, e2_12_1_ok m, e2_12_2_ok m, e2_12_3_ok m, e2_12_4_ok m, trivial⟩
def T2_13 : Memo := [e2_13_0, e2_13_1, e2_13_2, e2_13_3, e2_13_4]
theorem T2_13_ok (m : Int) : MemoOk (E0_1 m) 13 T2_13 := ⟨e2_13_0_ok m, e2_13_1_ok m, e2_13_2_ok m, e2_13_3_ok m, e2_13_4_ok m, trivial⟩
def T2_14 : Memo := [e2_14_0, e2_14_1]
theorem T2_14_ok (m : Int) : MemoOk (E0_1 m) 14 T2_14 := ⟨e2_14_0_ok m, e2_14_1_ok m, trivial⟩
def T2_16 : Memo := [e2_16_0, e2_16_1, e2_16_2, e2_16_3, e2_16_4, e2_16_5, e2_16_6, e2_16_7, e2_16_8, e2_16_9]
theorem T2_16_ok (m : Int) : MemoOk (E0_1 m) 16 T2_16 := ⟨e2_16_0_ok m, e2_16_1_ok m, e2_16_2_ok m, e2_16_3_ok m, e2_16_4_ok m, e2_16_5_ok m, e2_16_6_ok m, e2_16_7_ok m, e2_16_8_ok m, e2_16_9_ok m, trivial⟩
def T2_20 : Memo := [e2_20_0, e2_20_1]
theorem T2_20_ok (m : Int) : MemoOk (E0_1 m) 20 T2_20 := ⟨e2_20_0_ok m, e2_20_1_ok m, trivial⟩
def T2_21 : Memo := [e2_21_0, e2_21_1, e2_21_2]
theorem T2_21_ok (m : Int) : MemoOk (E0_1 m) 21 T2_21 := ⟨e2_21_0_ok m, e2_21_1_ok m, e2_21_2_ok m, trivial⟩
noncomputable def primL2 (m : Int) : FuncId → Option (List V1 → Heap → Option (AV × Heap))
  | 9 => some (lookM T2_9)
  | 11 => some (lookM T2_11)
  | 12 => some (lookM T2_12)
  | 13 => some (lookM T2_13)
  | 14 => some (lookM T2_14)
  | 16 => some (lookM T2_16)
  | 20 => some (lookM T2_20)
  | 21 => some (lookM T2_21)
  | g => primL1 m g
noncomputable def E0_2 (m : Int) : Env := { E0_1 m with prim := primL2 m }
theorem E0_2ok (m : Int) : EnvOk (E0_2 m) := env_prim (E0_1ok m) fun g p h => by
  unfold primL2 at h
  split at h
  · cases h; exact memo_ok (E0_1ok m) (T2_9_ok m)
  · cases h; exact memo_ok (E0_1ok m) (T2_11_ok m)
  · cases h; exact memo_ok (E0_1ok m) (T2_12_ok m)
  · cases h; exact memo_ok (E0_1ok m) (T2_13_ok m)
  · cases h; exact memo_ok (E0_1ok m) (T2_14_ok m)
  · cases h; exact memo_ok (E0_1ok m) (T2_16_ok m)
  · cases h; exact memo_ok (E0_1ok m) (T2_20_ok m)
  · cases h; exact memo_ok (E0_1ok m) (T2_21_ok m)
  · exact (E0_1ok m).prim g p h
end Go.Proofs.YtchlmpfflddogaaGreatDoor
