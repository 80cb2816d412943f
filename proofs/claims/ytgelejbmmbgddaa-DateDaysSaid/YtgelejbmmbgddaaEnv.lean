/- The evaluator's surroundings for this program: which slots live at a loop's head; strings.Index by the library's contract. -/
import Derived.Test.YtgelejbmmbgddaaProg
import Derived.Test.YtgelejbmmbgddaaShelf
import Derived.KernelRfl
import Derived.Test.YtgelejbmmbgddaaAb32
set_option linter.unusedVariables false
set_option linter.unusedSimpArgs false
namespace Go.Proofs.Ytgelejbmmbgddaa
open Go Go.Ab
def live : FuncId → Nat → List (Nat × Co)
  | 6, 9 => [(3, .keep), (5, .keep), (7, .keep), (9, .keep), (10, .keep)]
  | 6, 21 => [(3, .keep), (5, .keep), (11, .keep), (12, .keep), (13, .keep), (14, .keep)]
  | 8, 5 => [(4, .keep), (5, .keep), (6, .keep)]
  | 8, 8 => [(4, .keep), (5, .keep), (6, .keep), (7, .keep), (8, .keep)]
  | 9, 6 => [(0, .keep), (4, .keep), (5, .keep), (6, .keep)]
  | 9, 13 => [(0, .keep), (4, .keep), (5, .keep), (6, .keep), (8, .keep)]
  | 11, 9 => [(0, .keep), (5, .keep), (7, .keep), (53, .keep), (54, .keep)]
  | 12, 5 => [(0, .keep), (4, .keep), (5, .keep)]
  | 12, 15 => [(0, .keep), (4, .keep), (7, .keep), (8, .keep), (9, .keep), (10, .keep), (11, .keep), (12, .keep)]
  | 12, 21 => [(0, .keep), (4, .keep), (7, .keep), (8, .keep), (9, .keep), (10, .keep), (11, .keep), (13, .keep)]
  | 19, 3 => [(0, .keep), (1, .keep), (5, .keep), (6, .keep)]
  | 22, 3 => [(0, .keep), (3, .keep), (6, .keep), (7, .keep)]
  | 23, 3 => [(0, .keep), (1, .keep), (2, .keep), (7, .keep), (8, .keep)]
  | _, _ => []
noncomputable def primT : FuncId → Option (List V1 → Heap → Option (AV × Heap))
  | 21 => some pIndex
  | _ => none
noncomputable def E0 (m : Int) : Env := { P := Try.prog, live := live, hard := fun _ => false, row := fun _ => true, ext := fun _ _ => none, base := fun b i => if b = 0 ∧ i = 0 then some (.int .i64 m) else none, glob := fun _ => none, hand := fun _ => false, prim := primT, extp := fun _ => none, nw := fun _ => false }
theorem pIndex_ok (m : Int) : CallP (E0 m) 21 pIndex := by
  refine prim_ok ?_
  intro args hp v h' hh
  unfold pIndex at hh
  split at hh
  · rename_i s t
    split at hh
    · rename_i hs
      simp only [Option.some.injEq, Prod.mk.injEq] at hh
      obtain ⟨rfl, rfl⟩ := hh
      refine ⟨rfl, [.string s, .string t], _, rfl, fun G => .sc _ rfl, fun w hw => ?_⟩
      refine (Try.strings_Index s t m w hs (hw 0 0 _ (by simp [E0]))).mono ?_
      rintro e w' ⟨rfl, rfl⟩
      exact ⟨rfl, Go.RowKit.Below.refl _ _⟩
    · cases hh
  · cases hh
theorem E0ok (m : Int) : EnvOk (E0 m) := ⟨(fun _ _ _ h => nomatch (show (none : Option Value) = some _ from h)), (fun g p h => by
  have h : primT g = some p := h
  unfold primT at h
  split at h
  · cases h; exact pIndex_ok m
  · cases h), (fun g cs h => nomatch (show (none : Option (List D)) = some _ from h)), (fun g p h => nomatch (show (none : Option (List V1 → Heap → Option (AV × Heap))) = some _ from h))⟩
theorem cellM (W : World) (h : W.ShapedOpen Try.prog) : ∃ m, W.cell? ⟨0, 0, none⟩ = some (.int .i64 m) := Try.laysM143.s1_3 W h
theorem base_ok (m : Int) (W : World) (hm : W.cell? ⟨0, 0, none⟩ = some (.int .i64 m)) : ∀ b i v, (E0 m).base b i = some v → W.cell? ⟨b, i, none⟩ = some v := by
  intro b i v h
  have h2 : (if b = 0 ∧ i = 0 then some (Value.int .i64 m) else none) = some v := h
  by_cases e : b = 0 ∧ i = 0
  · rw [if_pos e] at h2
    obtain ⟨rfl, rfl⟩ := e
    rw [hm, ← h2]
  · rw [if_neg e] at h2
    cases h2
end Go.Proofs.Ytgelejbmmbgddaa
