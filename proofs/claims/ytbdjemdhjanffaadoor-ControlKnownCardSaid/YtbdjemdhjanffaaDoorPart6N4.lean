/- Calls that the law makes, and what they answer: each one a run of the evaluator; then their table. -/
import Derived.Test.YtbdjemdhjanffaaDoorPart6N3
set_option linter.unusedVariables false
set_option linter.unusedSimpArgs false
set_option maxRecDepth 100000
namespace Go.Proofs.YtbdjemdhjanffaaDoor
open Go Go.Ab
def T2_7 : Memo := [e2_7_0, e2_7_1, e2_7_2, e2_7_3, e2_7_4, e2_7_5, e2_7_6, e2_7_7, e2_7_8, e2_7_9, e2_7_10, e2_7_11]
theorem T2_7_ok (m : Int) : MemoOk (E0_1 m) 7 T2_7 := ⟨e2_7_0_ok m, e2_7_1_ok m, e2_7_2_ok m, e2_7_3_ok m, e2_7_4_ok m, e2_7_5_ok m, e2_7_6_ok m, e2_7_7_ok m, e2_7_8_ok m, e2_7_9_ok m, e2_7_10_ok m, e2_7_11_ok m, trivial⟩
def T2_9 : Memo := [e2_9_0, e2_9_1, e2_9_2, e2_9_3, e2_9_4, e2_9_5, e2_9_6, e2_9_7, e2_9_8, e2_9_9, e2_9_10]
theorem T2_9_ok (m : Int) : MemoOk (E0_1 m) 9 T2_9 := ⟨e2_9_0_ok m, e2_9_1_ok m, e2_9_2_ok m, e2_9_3_ok m, e2_9_4_ok m, e2_9_5_ok m, e2_9_6_ok m, e2_9_7_ok m, e2_9_8_ok m, e2_9_9_ok m, e2_9_10_ok m, trivial⟩
def T2_12 : Memo := [e2_12_0]
theorem T2_12_ok (m : Int) : MemoOk (E0_1 m) 12 T2_12 := ⟨e2_12_0_ok m, trivial⟩
def primL2 : FuncId → Option (List V1 → Heap → Option (AV × Heap))
  | 7 => some (lookM T2_7)
  | 9 => some (lookM T2_9)
  | 12 => some (lookM T2_12)
  | g => primL1 g
noncomputable def E0_2 (m : Int) : Env := { E0_1 m with prim := primL2 }
theorem E0_2ok (m : Int) : EnvOk (E0_2 m) := env_prim (E0_1ok m) fun g p h => by
  unfold primL2 at h
  split at h
  · cases h; exact memo_ok (E0_1ok m) (T2_7_ok m)
  · cases h; exact memo_ok (E0_1ok m) (T2_9_ok m)
  · cases h; exact memo_ok (E0_1ok m) (T2_12_ok m)
  · exact (E0_1ok m).prim g p h
end Go.Proofs.YtbdjemdhjanffaaDoor
