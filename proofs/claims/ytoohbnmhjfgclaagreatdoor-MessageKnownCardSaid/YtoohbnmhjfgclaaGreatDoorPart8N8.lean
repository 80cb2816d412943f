/- Calls that the law makes, and what they answer: each one a run of the evaluator; then their table. -/
import Derived.Test.YtoohbnmhjfgclaaGreatDoorPart8N7
set_option linter.unusedVariables false
set_option linter.unusedSimpArgs false
set_option maxRecDepth 100000
namespace Go.Proofs.YtoohbnmhjfgclaaGreatDoor
open Go Go.Ab
def T3_9 : Memo := [e3_9_0, e3_9_1, e3_9_2, e3_9_3, e3_9_4, e3_9_5, e3_9_6, e3_9_7, e3_9_8, e3_9_9, e3_9_10]
theorem T3_9_ok (m : Int) : MemoOk (E0_2 m) 9 T3_9 := ⟨e3_9_0_ok m, e3_9_1_ok m, e3_9_2_ok m, e3_9_3_ok m, e3_9_4_ok m, e3_9_5_ok m, e3_9_6_ok m, e3_9_7_ok m, e3_9_8_ok m, e3_9_9_ok m, e3_9_10_ok m, trivial⟩
def T3_11 : Memo := [e3_11_0, e3_11_1, e3_11_2, e3_11_3]
theorem T3_11_ok (m : Int) : MemoOk (E0_2 m) 11 T3_11 := ⟨e3_11_0_ok m, e3_11_1_ok m, e3_11_2_ok m, e3_11_3_ok m, trivial⟩
def T3_17 : Memo := [e3_17_0, e3_17_1, e3_17_2, e3_17_3]
theorem T3_17_ok (m : Int) : MemoOk (E0_2 m) 17 T3_17 := ⟨e3_17_0_ok m, e3_17_1_ok m, e3_17_2_ok m, e3_17_3_ok m, trivial⟩
def T3_20 : Memo := [e3_20_0, e3_20_1]
theorem T3_20_ok (m : Int) : MemoOk (E0_2 m) 20 T3_20 := ⟨e3_20_0_ok m, e3_20_1_ok m, trivial⟩
noncomputable def primL3 (m : Int) : FuncId → Option (List V1 → Heap → Option (AV × Heap))
  | 9 => some (lookM T3_9)
  | 11 => some (lookM T3_11)
  | 17 => some (lookM T3_17)
  | 20 => some (lookM T3_20)
  | g => primL2 m g
noncomputable def E0_3 (m : Int) : Env := { E0_2 m with prim := primL3 m }
theorem E0_3ok (m : Int) : EnvOk (E0_3 m) := env_prim (E0_2ok m) fun g p h => by
  unfold primL3 at h
  split at h
  · cases h; exact memo_ok (E0_2ok m) (T3_9_ok m)
  · cases h; exact memo_ok (E0_2ok m) (T3_11_ok m)
  · cases h; exact memo_ok (E0_2ok m) (T3_17_ok m)
  · cases h; exact memo_ok (E0_2ok m) (T3_20_ok m)
  · exact (E0_2ok m).prim g p h
end Go.Proofs.YtoohbnmhjfgclaaGreatDoor
