/- Calls that are told by a table of their answers, each proved by a run of its own. -/
import Derived.Test.YteenmbcmgcnkmaaGreatDoorAb29
set_option linter.unusedVariables false
set_option linter.unusedSimpArgs false
namespace Go.Ab
open Go

abbrev Memo := List ((List V1 × Heap) × (AV × Heap))
def lookM : Memo → List V1 → Heap → Option (AV × Heap)
  | [], _, _ => none
  | e :: T, args, hp => if eqL eqV1 e.1.1 args && eqL eqOb e.1.2 hp then some e.2 else lookM T args hp
def MemoOk (E : Env) (f : FuncId) : Memo → Prop
  | [] => True
  | e :: T => callW E f e.1.1 e.1.2 = some e.2 ∧ MemoOk E f T
theorem lookM_ok {E : Env} {f : FuncId} : ∀ {T : Memo}, MemoOk E f T → ∀ {args : List V1} {hp : Heap} {r : AV × Heap}, lookM T args hp = some r → callW E f args hp = some r := by
  intro T
  induction T with
  | nil => intro _ args hp r h; cases h
  | cons e T ih =>
    intro hT args hp r h
    unfold lookM at h
    split at h
    · rename_i hc
      simp only [Bool.and_eq_true] at hc
      cases h
      rw [← eqL_ok (fun _ _ => eqV1_ok) hc.1, ← eqL_ok (fun _ _ => eqOb_ok) hc.2]
      exact hT.1
    · exact ih hT.2 h
theorem memo_ok {E : Env} {f : FuncId} {T : Memo} (he : EnvOk E) (hT : MemoOk E f T) : CallP E f (lookM T) :=
  fun args hp v h' h => callW_ok he f args hp v h' (lookM_ok hT h)
theorem env_prim {E : Env} (he : EnvOk E) {q : FuncId → Option (List V1 → Heap → Option (AV × Heap))} (hq : ∀ g p, q g = some p → CallP E g p) : EnvOk { E with prim := q } :=
  ⟨he.ext, fun g p h => hq g p h, he.glob, fun g p h => he.extp g p h⟩
/-- a string out of its bytes' numbers -/
def bs (l : List Nat) : ByteArray := ⟨(l.map UInt8.ofNat).toArray⟩
/-- a list of bytes -/
def bl (l : List Int) : List (List D) := l.map fun n => [.sc (.int .u8 n)]
/-- cells that are bytes -/
def bc (l : List Int) : List C := l.map fun n => .d (.sc (.int .u8 n))
/-- runs of like numbers -/
def rl (l : List (Nat × Int)) : List Int := l.flatMap fun p => List.replicate p.1 p.2
abbrev si (n : Int) : D := .sc (.int .i64 n)
abbrev ss (l : List Nat) : D := .sc (.string (bs l))
end Go.Ab
namespace Go.Ab
open Go
/-- a table, and the call itself where it tells nothing -/
def lookF (T : Memo) (c : List V1 → Heap → Option (AV × Heap)) (args : List V1) (hp : Heap) : Option (AV × Heap) :=
  match lookM T args hp with
  | some r => some r
  | none => c args hp
theorem memoF_ok {E : Env} {f : FuncId} {T : Memo} {k : Nat} (he : EnvOk E) (hT : MemoOk E f T) : CallP E f (lookF T (callN E k f)) := fun args hp v h' h => by
  unfold lookF at h
  split at h
  · rename_i r hr
    cases h
    exact memo_ok he hT args hp _ _ hr
  · exact callW_ok he f args hp v h' (callN_W h)
/-- tables by a number -/
def MemoAll (E : Env) (f : FuncId) : List Memo → Prop
  | [] => True
  | T :: TT => MemoOk E f T ∧ MemoAll E f TT
def lookI (TT : List Memo) (key : List V1 → Nat) (args : List V1) (hp : Heap) : Option (AV × Heap) := lookM (TT.getD (key args) []) args hp
theorem memoAll_get {E : Env} {f : FuncId} : ∀ {TT : List Memo}, MemoAll E f TT → ∀ i, MemoOk E f (TT.getD i []) := by
  intro TT
  induction TT with
  | nil => intro _ i; exact trivial
  | cons T TT ih =>
    intro h i
    cases i with
    | zero => exact h.1
    | succ i => simpa using ih h.2 i
theorem memoI_ok {E : Env} {f : FuncId} {TT : List Memo} {key : List V1 → Nat} (he : EnvOk E) (hT : MemoAll E f TT) : CallP E f (lookI TT key) :=
  fun args hp v h' h => callW_ok he f args hp v h' (lookM_ok (memoAll_get hT (key args)) h)
theorem memoAll_append {E : Env} {f : FuncId} : ∀ {A B : List Memo}, MemoAll E f A → MemoAll E f B → MemoAll E f (A ++ B) := by
  intro A
  induction A with
  | nil => intro B _ h; exact h
  | cons T A ih => intro B h h'; exact ⟨h.1, ih h.2 h'⟩
/-- the first number of the second argument -/
def key2 : List V1 → Nat
  | [_, .agg (.d (.sc (.int _ n)) :: _)] => n.toNat
  | _ => 0
end Go.Ab
