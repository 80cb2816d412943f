/- The evaluator's surroundings for this program: which slots live at a loop's head; functions of the library by their contracts. -/
import Derived.Test.YtbdjemdhjanffaaDoorProg
import Derived.Test.YtbdjemdhjanffaaDoorShelf
import Derived.KernelRfl
import Derived.Test.YtbdjemdhjanffaaDoorEv7
set_option linter.unusedVariables false
set_option linter.unusedSimpArgs false
set_option maxRecDepth 100000
namespace Go.Proofs.YtbdjemdhjanffaaDoor
open Go Go.Ab
def live : FuncId → Nat → List (Nat × Co)
  | 5, 3 => [(0, .keep), (3, .own), (4, .keep), (5, .keep), (6, .keep)]
  | 5, 7 => [(0, .keep), (3, .keep), (4, .own), (5, .own), (7, .keep)]
  | 5, 14 => [(0, .keep), (3, .keep), (4, .own), (5, .keep), (7, .keep), (8, .keep), (9, .keep)]
  | 5, 19 => [(0, .keep), (3, .keep), (4, .keep), (5, .keep), (7, .keep), (10, .keep), (11, .keep)]
  | 6, 4 => [(1, .keep), (2, .keep), (3, .keep)]
  | 8, 4 => [(0, .keep), (2, .keep), (3, .keep), (4, .keep), (5, .keep)]
  | 8, 26 => [(0, .keep), (2, .keep), (3, .keep), (10, .keep)]
  | 8, 32 => [(2, .keep), (3, .keep), (11, .keep), (12, .keep)]
  | 10, 4 => [(2, .keep), (3, .keep), (4, .keep), (5, .keep)]
  | 11, 4 => [(0, .keep), (1, .keep), (5, .keep)]
  | 14, 3 => [(5, .own), (10, .keep), (11, .keep), (12, .keep)]
  | 16, 5 => [(1, .keep), (3, .keep), (5, .keep), (6, .keep), (7, .keep), (12, .keep)]
  | 18, 3 => [(3, .freeze), (11, .freeze), (12, .freeze), (13, .freeze)]
  | 20, 3 => [(1, .keep), (5, .keep), (8, .keep), (9, .keep), (10, .keep)]
  | 21, 5 => [(0, .keep), (3, .keep), (4, .keep)]
  | 22, 5 => [(0, .keep), (3, .keep), (4, .keep)]
  | 23, 2 => [(0, .keep), (7, .keep), (8, .keep), (9, .keep)]
  | 24, 3 => [(1, .keep), (5, .own), (8, .keep), (9, .keep), (10, .keep)]
  | 27, 3 => [(0, .keep), (1, .keep), (5, .own), (6, .keep)]
  | 28, 2 => [(0, .keep), (5, .keep)]
  | 29, 5 => [(0, .keep), (3, .keep), (4, .keep)]
  | 29, 10 => [(0, .keep), (3, .keep), (5, .keep)]
  | 32, 3 => [(0, .keep), (3, .own), (4, .keep)]
  | 33, 3 => [(3, .keep), (8, .keep), (9, .keep), (10, .keep)]
  | 39, 2 => [(0, .keep), (1, .keep), (7, .keep), (8, .keep)]
  | 40, 4 => [(0, .keep), (3, .own), (4, .keep), (5, .keep)]
  | 41, 3 => [(0, .keep), (3, .keep), (4, .keep)]
  | 41, 8 => [(0, .keep), (3, .keep), (4, .keep), (5, .keep), (6, .keep), (7, .keep)]
  | 42, 5 => [(0, .keep), (4, .own), (5, .keep)]
  | 46, 6 => [(4, .own), (5, .keep), (6, .keep)]
  | 48, 2 => [(0, .keep), (1, .keep)]
  | 49, 2 => [(0, .keep), (3, .keep), (4, .keep)]
  | 49, 4 => [(0, .keep), (3, .keep), (4, .keep)]
  | 51, 1 => [(0, .keep), (1, .keep)]
  | 52, 1 => [(0, .keep), (1, .keep)]
  | 53, 2 => [(0, .keep), (2, .keep), (4, .keep)]
  | 54, 1 => [(0, .keep), (1, .keep)]
  | 55, 1 => [(0, .keep), (1, .keep)]
  | 56, 1 => [(0, .keep), (1, .keep)]
  | 57, 1 => [(0, .keep), (1, .keep)]
  | 63, 5 => [(1, .keep), (2, .keep), (8, .keep), (9, .keep), (16, .keep)]
  | 68, 10 => [(0, .keep), (4, .keep), (5, .keep), (6, .keep)]
  | 69, 15 => [(0, .keep), (1, .keep), (5, .keep), (6, .keep), (7, .keep), (8, .keep), (9, .keep), (10, .keep)]
  | 74, 38 => [(175, .keep)]
  | 74, 1 => [(0, .keep), (1, .keep), (7, .keep), (8, .keep), (9, .keep), (14, .keep), (15, .keep)]
  | 74, 5 => [(0, .keep), (1, .keep), (7, .keep), (8, .keep), (9, .keep), (10, .keep), (14, .keep), (15, .keep)]
  | 74, 6 => [(0, .keep), (1, .keep), (7, .keep), (8, .keep), (9, .keep), (10, .keep), (14, .keep), (15, .keep)]
  | 74, 12 => [(0, .keep), (1, .keep), (7, .keep), (8, .keep), (9, .keep), (10, .keep), (12, .keep), (14, .keep), (15, .keep)]
  | 74, 23 => [(0, .keep), (7, .keep), (8, .keep), (9, .keep), (14, .keep), (15, .keep)]
  | 74, 25 => [(0, .keep), (7, .keep), (8, .keep), (9, .keep), (14, .keep), (15, .keep)]
  | 74, 29 => [(0, .keep), (7, .keep), (8, .keep), (9, .keep), (14, .keep), (15, .keep), (16, .keep)]
  | 78, 5 => [(0, .keep), (1, .keep), (5, .keep), (6, .keep), (7, .keep), (8, .keep), (9, .keep)]
  | 78, 11 => [(0, .keep), (1, .keep), (5, .keep), (6, .keep), (7, .keep), (8, .keep), (10, .keep)]
  | 79, 2 => [(0, .keep), (1, .keep), (7, .keep), (8, .keep)]
  | 82, 3 => [(0, .keep), (4, .keep), (5, .keep)]
  | 82, 8 => [(4, .keep), (6, .keep), (7, .keep), (8, .keep)]
  | _, _ => []
def primT : FuncId → Option (List V1 → Heap → Option (AV × Heap))
  | 43 => some pTrim
  | 69 => some pIndex
  | _ => none
def extpT : FuncId → Option (List V1 → Heap → Option (AV × Heap))
  | _ => none
def extT : FuncId → List Value → Option Value
  | 80, vs => eIndexByte vs
  | _, _ => none
def tabT : Nat → Option (IntKind × List Int)
  | _ => none
def hardT : String → Bool := fun s => s == "control.go:44" || s == "outright.go:48" || s == "text.go:39"
def aownT : String → Bool := fun s => s == "text.go:53"
def rowT : String → Bool := fun s => s == "law.go:12"
noncomputable def E0 (m : Int) : Env := { P := Tryd.prog, live := live, hard := hardT, row := rowT, ext := extT, base := tabBase tabT 0 m, glob := tabGlob tabT, hand := fun _ => false, prim := primT, extp := extpT, nw := fun _ => false, aown := aownT }
theorem pIndex_ok (m : Int) : CallP (E0 m) 69 pIndex := by
  refine prim_ok ?_
  intro args hp v h' hh
  unfold pIndex at hh
  split at hh
  · rename_i s t
    split at hh
    · rename_i hs
      simp only [Option.some.injEq, Prod.mk.injEq] at hh
      obtain ⟨rfl, rfl⟩ := hh
      refine ⟨rfl, [.string s, .string t], _, rfl, fun G => .sc _ rfl, fun w hw => ?_⟩
      refine (Tryd.stringslite_Index s t m w hs (hw 0 0 _ (by simp [E0, tabBase, tabT]))).mono ?_
      rintro e w' ⟨rfl, rfl⟩
      exact ⟨rfl, Go.RowKit.Below.refl _ _⟩
    · cases hh
  · cases hh
theorem pTrim_ok (m : Int) : CallP (E0 m) 43 pTrim := by
  refine prim_ok ?_
  intro args hp v h' hh
  unfold pTrim at hh
  split at hh
  · rename_i s t
    split at hh
    · rename_i hc
      simp only [Option.some.injEq, Prod.mk.injEq] at hh
      obtain ⟨rfl, rfl⟩ := hh
      refine ⟨rfl, [.string s, .string t], _, rfl, fun G => .sc _ rfl, fun w hw => ?_⟩
      refine (Tryd.strings_Trim_ascii s t w hc.1 hc.2.1 (asciiB_ok hc.2.2)).mono ?_
      rintro e w' ⟨rfl, hb⟩
      exact ⟨rfl, hb⟩
    · cases hh
  · cases hh
theorem ext_ok (g : FuncId) (vs : List Value) (r : Value) (h : extT g vs = some r) (w : World) : (callFunc g vs.toArray).run Tryd.prog w = .ok (.value r) w := by
  unfold extT at h
  split at h
  · exact eIndexByte_ok (fun args w => run_callFunc_extern Tryd.func80 (by kernel_rfl) (by kernel_rfl) (by kernel_rfl) (e := Extern.BytealgIndexByte.indexByte) (by kernel_rfl) args w) _ _ h w
  · cases h
theorem prim_all (m : Int) (g : FuncId) (p) (h : primT g = some p) : CallP (E0 m) g p := by
  unfold primT at h
  split at h
  · cases h; exact pTrim_ok m
  · cases h; exact pIndex_ok m
  · cases h
theorem extp_all (m : Int) (g : FuncId) (p) (h : extpT g = some p) : ExtP (E0 m) g p := by
  unfold extpT at h
  split at h
  · cases h
theorem E0ok (m : Int) : EnvOk (E0 m) := ⟨ext_ok, prim_all m, fun g cs h => tab_glob (T := tabT) (g0 := 0) (m := m) g cs h, extp_all m⟩
theorem cellM (W : World) (h : W.ShapedOpen Tryd.prog) : ∃ m, W.cell? ⟨0, 0, none⟩ = some (.int .i64 m) := Tryd.laysM219.s1_3 W h
theorem base_ok (m : Int) (W : World) (hm : W.cell? ⟨0, 0, none⟩ = some (.int .i64 m)) (hT : ∀ g k l, tabT g = some (k, l) → ∀ (i : Nat) x, l[i]? = some x → W.cell? ⟨g, i, none⟩ = some (.int k x)) : ∀ b i v, (E0 m).base b i = some v → W.cell? ⟨b, i, none⟩ = some v := by
  intro b i v h
  have h2 : tabBase tabT 0 m b i = some v := h
  unfold tabBase at h2
  split at h2
  · rename_i p hp
    simp only [Option.map_eq_some_iff] at h2
    obtain ⟨x, hx, rfl⟩ := h2
    exact hT b p.1 p.2 hp i x hx
  · by_cases e : b = 0 ∧ i = 0
    · rw [if_pos e] at h2
      obtain ⟨rfl, rfl⟩ := e
      rw [hm, ← h2]
    · rw [if_neg e] at h2
      cases h2
end Go.Proofs.YtbdjemdhjanffaaDoor
