/- Calls that the law makes, and what they answer: each one a run of the evaluator; then their table. -/
import Derived.Test.YtbdjemdhjanffaaDoorPart6N1
set_option linter.unusedVariables false
set_option linter.unusedSimpArgs false
set_option maxRecDepth 100000
namespace Go.Proofs.YtbdjemdhjanffaaDoor
open Go Go.Ab
def T1_18 : Memo := [e1_18_0, e1_18_1, e1_18_2, e1_18_3, e1_18_4, e1_18_5, e1_18_6, e1_18_7, e1_18_8, e1_18_9, e1_18_10, e1_18_11, e1_18_12, e1_18_13, e1_18_14, e1_18_15, e1_18_16, e1_18_17, e1_18_18, e1_18_19]
theorem T1_18_ok (m : Int) : MemoOk (E0 m) 18 T1_18 := ⟨e1_18_0_ok m, e1_18_1_ok m, e1_18_2_ok m, e1_18_3_ok m, e1_18_4_ok m, e1_18_5_ok m, e1_18_6_ok m, e1_18_7_ok m, e1_18_8_ok m, e1_18_9_ok m, e1_18_10_ok m, e1_18_11_ok m, e1_18_12_ok m, e1_18_13_ok m, e1_18_14_ok m, e1_18_15_ok m, e1_18_16_ok m, e1_18_17_ok m, e1_18_18_ok m, e1_18_19_ok m, trivial⟩
def T1_33 : Memo := [e1_33_0, e1_33_1, e1_33_2, e1_33_3, e1_33_4, e1_33_5]
theorem T1_33_ok (m : Int) : MemoOk (E0 m) 33 T1_33 := ⟨e1_33_0_ok m, e1_33_1_ok m, e1_33_2_ok m, e1_33_3_ok m, e1_33_4_ok m, e1_33_5_ok m, trivial⟩
def T1_38 : Memo := [e1_38_0, e1_38_1, e1_38_2, e1_38_3, e1_38_4, e1_38_5, e1_38_6, e1_38_7, e1_38_8, e1_38_9, e1_38_10, e1_38_11, e1_38_12, e1_38_13, e1_38_14]
theorem T1_38_ok (m : Int) : MemoOk (E0 m) 38 T1_38 := ⟨e1_38_0_ok m, e1_38_1_ok m, e1_38_2_ok m, e1_38_3_ok m, e1_38_4_ok m, e1_38_5_ok m, e1_38_6_ok m, e1_38_7_ok m, e1_38_8_ok m, e1_38_9_ok m, e1_38_10_ok m, e1_38_11_ok m, e1_38_12_ok m, e1_38_13_ok m, e1_38_14_ok m, trivial⟩
def primL1 : FuncId → Option (List V1 → Heap → Option (AV × Heap))
  | 18 => some (lookM T1_18)
  | 33 => some (lookM T1_33)
  | 38 => some (lookM T1_38)
  | g => primT g
noncomputable def E0_1 (m : Int) : Env := { E0 m with prim := primL1 }
theorem E0_1ok (m : Int) : EnvOk (E0_1 m) := env_prim (E0ok m) fun g p h => by
  unfold primL1 at h
  split at h
  · cases h; exact memo_ok (E0ok m) (T1_18_ok m)
  · cases h; exact memo_ok (E0ok m) (T1_33_ok m)
  · cases h; exact memo_ok (E0ok m) (T1_38_ok m)
  · exact (E0ok m).prim g p h
end Go.Proofs.YtbdjemdhjanffaaDoor
