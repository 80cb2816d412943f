/- The law for any two errors: calls told by tables, Status for any number, and the run for each form of two numbers. -/
import Derived.Test.YtfcjicedphacfaaDoorApart2
set_option linter.unusedVariables false
set_option linter.unusedSimpArgs false
set_option maxRecDepth 100000
namespace Go.Proofs.YtfcjicedphacfaaDoor
open Go Go.Ab
def T1_4 : Memo := [e1_4_0, e1_4_1, e1_4_2, e1_4_3, e1_4_4, e1_4_5, e1_4_6, e1_4_7, e1_4_8, e1_4_9]
theorem T1_4_ok (m : Int) : MemoOk (E0s m) 4 T1_4 := ⟨e1_4_0_ok m, e1_4_1_ok m, e1_4_2_ok m, e1_4_3_ok m, e1_4_4_ok m, e1_4_5_ok m, e1_4_6_ok m, e1_4_7_ok m, e1_4_8_ok m, e1_4_9_ok m, trivial⟩
def T1_7 : Memo := [e1_7_0, e1_7_1, e1_7_2, e1_7_3, e1_7_4, e1_7_5, e1_7_6, e1_7_7, e1_7_8]
theorem T1_7_ok (m : Int) : MemoOk (E0s m) 7 T1_7 := ⟨e1_7_0_ok m, e1_7_1_ok m, e1_7_2_ok m, e1_7_3_ok m, e1_7_4_ok m, e1_7_5_ok m, e1_7_6_ok m, e1_7_7_ok m, e1_7_8_ok m, trivial⟩
def T1_8 : Memo := [e1_8_0, e1_8_1]
theorem T1_8_ok (m : Int) : MemoOk (E0s m) 8 T1_8 := ⟨e1_8_0_ok m, e1_8_1_ok m, trivial⟩
def T1_9 : Memo := [e1_9_0, e1_9_1]
theorem T1_9_ok (m : Int) : MemoOk (E0s m) 9 T1_9 := ⟨e1_9_0_ok m, e1_9_1_ok m, trivial⟩
def T1_10 : Memo := [e1_10_0]
theorem T1_10_ok (m : Int) : MemoOk (E0s m) 10 T1_10 := ⟨e1_10_0_ok m, trivial⟩
noncomputable def primL1 (m : Int) : FuncId → Option (List V1 → Heap → Option (AV × Heap))
  | 4 => some (lookF T1_4 (callN (E0s m) 60 4))
  | 7 => some (lookM T1_7)
  | 8 => some (lookM T1_8)
  | 9 => some (lookM T1_9)
  | 10 => some (lookM T1_10)
  | g => primS g
noncomputable def E0_1 (m : Int) : Env := { E0s m with prim := primL1 m }
theorem E0_1ok (m : Int) : EnvOk (E0_1 m) := env_prim (E0sok m) fun g p h => by
  unfold primL1 at h
  split at h
  · cases h; exact memoF_ok (E0sok m) (T1_4_ok m)
  · cases h; exact memo_ok (E0sok m) (T1_7_ok m)
  · cases h; exact memo_ok (E0sok m) (T1_8_ok m)
  · cases h; exact memo_ok (E0sok m) (T1_9_ok m)
  · cases h; exact memo_ok (E0sok m) (T1_10_ok m)
  · exact (E0sok m).prim g p h
end Go.Proofs.YtfcjicedphacfaaDoor
