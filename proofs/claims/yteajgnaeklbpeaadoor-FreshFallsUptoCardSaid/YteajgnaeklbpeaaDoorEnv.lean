/- The evaluator's surroundings for this program: which slots live at a loop's head; functions of the library by their contracts. -/
import Derived.Test.YteajgnaeklbpeaaDoorProg
import Derived.Test.YteajgnaeklbpeaaDoorShelf
import Derived.KernelRfl
import Derived.Test.YteajgnaeklbpeaaDoorEv7
set_option linter.unusedVariables false
set_option linter.unusedSimpArgs false
set_option maxRecDepth 100000
namespace Go.Proofs.YteajgnaeklbpeaaDoor
open Go Go.Ab
def live : FuncId → Nat → List (Nat × Co)
  | 3, 6 => [(1, .keep), (3, .keep), (4, .keep), (5, .own), (23, .keep), (24, .keep), (25, .keep)]
  | 4, 4 => [(46, .keep), (47, .keep), (48, .keep)]
  | 7, 2 => [(0, .keep), (3, .keep)]
  | 9, 3 => [(0, .keep), (3, .own), (4, .keep)]
  | 15, 3 => [(1, .keep), (5, .own), (8, .keep), (9, .keep), (10, .keep)]
  | 20, 3 => [(3, .freeze), (11, .freeze), (12, .freeze), (13, .freeze)]
  | 22, 3 => [(1, .keep), (5, .keep), (8, .keep), (9, .keep), (10, .keep)]
  | 23, 5 => [(0, .keep), (3, .keep), (4, .keep)]
  | 26, 9 => [(0, .keep), (5, .keep), (7, .keep), (53, .keep), (54, .keep)]
  | 27, 2 => [(0, .keep), (1, .keep), (7, .keep), (8, .keep)]
  | 29, 3 => [(5, .own), (10, .keep), (11, .keep), (12, .keep)]
  | 34, 3 => [(3, .keep), (8, .keep), (9, .keep), (10, .keep)]
  | 36, 3 => [(0, .keep), (3, .keep), (6, .keep), (7, .keep)]
  | 39, 5 => [(4, .keep), (5, .keep), (6, .keep)]
  | 39, 8 => [(4, .keep), (5, .keep), (6, .keep), (7, .keep), (8, .keep)]
  | 40, 5 => [(1, .keep), (2, .keep), (8, .keep), (9, .keep), (16, .keep)]
  | 42, 5 => [(1, .keep), (3, .keep), (5, .keep), (6, .keep), (7, .keep), (12, .keep)]
  | 45, 6 => [(4, .own), (5, .keep), (6, .keep)]
  | 46, 2 => [(0, .keep), (1, .keep), (7, .keep), (8, .keep)]
  | 47, 15 => [(0, .keep), (1, .keep), (5, .keep), (6, .keep), (7, .keep), (8, .keep), (9, .keep), (10, .keep)]
  | 60, 5 => [(0, .keep), (1, .keep), (5, .keep), (6, .keep), (7, .keep), (8, .keep), (9, .keep)]
  | 60, 11 => [(0, .keep), (1, .keep), (5, .keep), (6, .keep), (7, .keep), (8, .keep), (10, .keep)]
  | 65, 3 => [(0, .keep), (4, .keep), (5, .keep)]
  | 65, 8 => [(4, .keep), (6, .keep), (7, .keep), (8, .keep)]
  | 66, 1 => [(0, .keep), (1, .keep)]
  | 67, 1 => [(0, .keep), (1, .keep)]
  | 68, 2 => [(0, .keep), (2, .keep), (4, .keep)]
  | 69, 1 => [(0, .keep), (1, .keep)]
  | 70, 1 => [(0, .keep), (1, .keep)]
  | 71, 1 => [(0, .keep), (1, .keep)]
  | 72, 1 => [(0, .keep), (1, .keep)]
  | 73, 2 => [(0, .keep), (1, .keep), (7, .keep), (8, .keep)]
  | 77, 10 => [(0, .keep), (4, .keep), (5, .keep), (6, .keep)]
  | 79, 38 => [(175, .keep)]
  | 79, 1 => [(0, .keep), (1, .keep), (7, .keep), (8, .keep), (9, .keep), (14, .keep), (15, .keep)]
  | 79, 5 => [(0, .keep), (1, .keep), (7, .keep), (8, .keep), (9, .keep), (10, .keep), (14, .keep), (15, .keep)]
  | 79, 6 => [(0, .keep), (1, .keep), (7, .keep), (8, .keep), (9, .keep), (10, .keep), (14, .keep), (15, .keep)]
  | 79, 12 => [(0, .keep), (1, .keep), (7, .keep), (8, .keep), (9, .keep), (10, .keep), (12, .keep), (14, .keep), (15, .keep)]
  | 79, 23 => [(0, .keep), (7, .keep), (8, .keep), (9, .keep), (14, .keep), (15, .keep)]
  | 79, 25 => [(0, .keep), (7, .keep), (8, .keep), (9, .keep), (14, .keep), (15, .keep)]
  | 79, 29 => [(0, .keep), (7, .keep), (8, .keep), (9, .keep), (14, .keep), (15, .keep), (16, .keep)]
  | _, _ => []
def primT : FuncId → Option (List V1 → Heap → Option (AV × Heap))
  | 47 => some pIndex
  | 61 => some pTrim
  | _ => none
def extpT : FuncId → Option (List V1 → Heap → Option (AV × Heap))
  | _ => none
def extT : FuncId → List Value → Option Value
  | 64, vs => eIndexByte vs
  | _, _ => none
def tabT : Nat → Option (IntKind × List Int)
  | _ => none
def hardT : String → Bool := fun s => s == "control.go:44" || s == "text.go:39"
def aownT : String → Bool := fun s => s == "text.go:53"
def rowT : String → Bool := fun s => s == "outright.go:54" || s == "outright.go:55"
noncomputable def E0 (m : Int) : Env := { P := Tryd.prog, live := live, hard := hardT, row := rowT, ext := extT, base := tabBase tabT 0 m, glob := tabGlob tabT, hand := fun _ => false, prim := primT, extp := extpT, nw := fun _ => false, aown := aownT }
theorem pIndex_ok (m : Int) : CallP (E0 m) 47 pIndex := by
  refine prim_ok ?_
  intro args hp v h' hh
  unfold pIndex at hh
  split at hh
  · rename_i s t
    split at hh
    · rename_i hs
      simp only [Option.some.injEq, Prod.mk.injEq] at hh
      obtain ⟨rfl, rfl⟩ := hh
      refine ⟨rfl, [.string s, .string t], _, rfl, fun G => .sc _ rfl, fun w hw => ?_⟩
      refine (Tryd.stringslite_Index s t m w hs (hw 0 0 _ (by simp [E0, tabBase, tabT]))).mono ?_
      rintro e w' ⟨rfl, rfl⟩
      exact ⟨rfl, Go.RowKit.Below.refl _ _⟩
    · cases hh
  · cases hh
theorem pTrim_ok (m : Int) : CallP (E0 m) 61 pTrim := by
  refine prim_ok ?_
  intro args hp v h' hh
  unfold pTrim at hh
  split at hh
  · rename_i s t
    split at hh
    · rename_i hc
      simp only [Option.some.injEq, Prod.mk.injEq] at hh
      obtain ⟨rfl, rfl⟩ := hh
      refine ⟨rfl, [.string s, .string t], _, rfl, fun G => .sc _ rfl, fun w hw => ?_⟩
      refine (Tryd.strings_Trim_ascii s t w hc.1 hc.2.1 (asciiB_ok hc.2.2)).mono ?_
      rintro e w' ⟨rfl, hb⟩
      exact ⟨rfl, hb⟩
    · cases hh
  · cases hh
theorem ext_ok (g : FuncId) (vs : List Value) (r : Value) (h : extT g vs = some r) (w : World) : (callFunc g vs.toArray).run Tryd.prog w = .ok (.value r) w := by
  unfold extT at h
  split at h
  · exact eIndexByte_ok (fun args w => run_callFunc_extern Tryd.func64 (by kernel_rfl) (by kernel_rfl) (by kernel_rfl) (e := Extern.BytealgIndexByte.indexByte) (by kernel_rfl) args w) _ _ h w
  · cases h
theorem prim_all (m : Int) (g : FuncId) (p) (h : primT g = some p) : CallP (E0 m) g p := by
  unfold primT at h
  split at h
  · cases h; exact pIndex_ok m
  · cases h; exact pTrim_ok m
  · cases h
theorem extp_all (m : Int) (g : FuncId) (p) (h : extpT g = some p) : ExtP (E0 m) g p := by
  unfold extpT at h
  split at h
  · cases h
theorem E0ok (m : Int) : EnvOk (E0 m) := ⟨ext_ok, prim_all m, fun g cs h => tab_glob (T := tabT) (g0 := 0) (m := m) g cs h, extp_all m⟩
theorem cellM (W : World) (h : W.ShapedOpen Tryd.prog) : ∃ m, W.cell? ⟨0, 0, none⟩ = some (.int .i64 m) := Tryd.laysM219.s1_3 W h
theorem base_ok (m : Int) (W : World) (hm : W.cell? ⟨0, 0, none⟩ = some (.int .i64 m)) (hT : ∀ g k l, tabT g = some (k, l) → ∀ (i : Nat) x, l[i]? = some x → W.cell? ⟨g, i, none⟩ = some (.int k x)) : ∀ b i v, (E0 m).base b i = some v → W.cell? ⟨b, i, none⟩ = some v := by
  intro b i v h
  have h2 : tabBase tabT 0 m b i = some v := h
  unfold tabBase at h2
  split at h2
  · rename_i p hp
    simp only [Option.map_eq_some_iff] at h2
    obtain ⟨x, hx, rfl⟩ := h2
    exact hT b p.1 p.2 hp i x hx
  · by_cases e : b = 0 ∧ i = 0
    · rw [if_pos e] at h2
      obtain ⟨rfl, rfl⟩ := e
      rw [hm, ← h2]
    · rw [if_neg e] at h2
      cases h2
end Go.Proofs.YteajgnaeklbpeaaDoor
