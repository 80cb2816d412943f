/- The evaluator's surroundings for this program: which slots live at a loop's head; functions of the library by their contracts. -/
import Derived.Test.YtfcjicedphacfaaDoorProg
import Derived.Test.YtfcjicedphacfaaDoorShelf
import Derived.KernelRfl
import Derived.Test.YtfcjicedphacfaaDoorAb29
set_option linter.unusedVariables false
set_option linter.unusedSimpArgs false
set_option maxRecDepth 100000
namespace Go.Proofs.YtfcjicedphacfaaDoor
open Go Go.Ab
def live : FuncId → Nat → List (Nat × Co)
  | 14, 4 => [(0, .keep), (1, .keep), (12, .keep), (13, .keep)]
  | 15, 4 => [(0, .keep), (1, .keep), (12, .keep), (13, .keep)]
  | 23, 3 => [(3, .keep), (6, .keep), (7, .keep), (8, .keep)]
  | 24, 3 => [(3, .keep), (11, .keep), (12, .keep), (13, .keep)]
  | 26, 3 => [(1, .keep), (5, .keep), (8, .keep), (9, .keep), (10, .keep)]
  | 27, 5 => [(0, .keep), (3, .keep), (4, .keep)]
  | 28, 2 => [(0, .keep), (1, .keep), (7, .keep), (8, .keep)]
  | 35, 2 => [(0, .keep), (1, .keep), (7, .keep), (8, .keep)]
  | 36, 3 => [(5, .keep), (10, .keep), (11, .keep), (12, .keep)]
  | 45, 1 => [(0, .keep), (1, .keep)]
  | 46, 1 => [(0, .keep), (1, .keep)]
  | 47, 2 => [(0, .keep), (2, .keep), (4, .keep)]
  | 48, 1 => [(0, .keep), (1, .keep)]
  | 49, 1 => [(0, .keep), (1, .keep)]
  | 50, 1 => [(0, .keep), (1, .keep)]
  | 51, 1 => [(0, .keep), (1, .keep)]
  | 52, 3 => [(1, .keep), (5, .keep), (8, .keep), (9, .keep), (10, .keep)]
  | 53, 5 => [(1, .keep), (3, .keep), (5, .keep), (6, .keep), (7, .keep), (12, .keep)]
  | 55, 3 => [(3, .keep), (8, .keep), (9, .keep), (10, .keep)]
  | 56, 6 => [(4, .keep), (5, .keep), (6, .keep)]
  | 57, 2 => [(0, .keep), (1, .keep), (7, .keep), (8, .keep)]
  | 61, 1 => [(0, .keep), (1, .keep), (4, .keep)]
  | 62, 11 => [(0, .keep), (1, .keep), (3, .keep), (4, .keep), (10, .keep), (11, .keep), (12, .keep), (13, .keep), (14, .keep), (15, .keep), (16, .keep)]
  | 62, 18 => [(0, .keep), (1, .keep), (3, .keep), (4, .keep), (10, .keep), (11, .keep), (12, .keep), (13, .keep), (17, .keep)]
  | 63, 2 => [(0, .keep), (1, .keep), (7, .keep), (8, .keep)]
  | 68, 10 => [(0, .keep), (4, .keep), (5, .keep), (6, .keep)]
  | 72, 5 => [(1, .keep), (2, .keep), (8, .keep), (9, .keep), (16, .keep)]
  | 80, 38 => [(175, .keep)]
  | 80, 1 => [(0, .keep), (1, .keep), (7, .keep), (8, .keep), (9, .keep), (14, .keep), (15, .keep)]
  | 80, 5 => [(0, .keep), (1, .keep), (7, .keep), (8, .keep), (9, .keep), (10, .keep), (14, .keep), (15, .keep)]
  | 80, 6 => [(0, .keep), (1, .keep), (7, .keep), (8, .keep), (9, .keep), (10, .keep), (14, .keep), (15, .keep)]
  | 80, 12 => [(0, .keep), (1, .keep), (7, .keep), (8, .keep), (9, .keep), (10, .keep), (12, .keep), (14, .keep), (15, .keep)]
  | 80, 23 => [(0, .keep), (7, .keep), (8, .keep), (9, .keep), (14, .keep), (15, .keep)]
  | 80, 25 => [(0, .keep), (7, .keep), (8, .keep), (9, .keep), (14, .keep), (15, .keep)]
  | 80, 29 => [(0, .keep), (7, .keep), (8, .keep), (9, .keep), (14, .keep), (15, .keep), (16, .keep)]
  | 82, 15 => [(0, .keep), (1, .keep), (5, .keep), (6, .keep), (7, .keep), (8, .keep), (9, .keep), (10, .keep)]
  | 88, 5 => [(0, .keep), (1, .keep), (5, .keep), (6, .keep), (7, .keep), (8, .keep), (9, .keep)]
  | 88, 11 => [(0, .keep), (1, .keep), (5, .keep), (6, .keep), (7, .keep), (8, .keep), (10, .keep)]
  | 89, 3 => [(0, .keep), (4, .keep), (5, .keep)]
  | 89, 8 => [(4, .keep), (6, .keep), (7, .keep), (8, .keep)]
  | _, _ => []
def primT : FuncId → Option (List V1 → Heap → Option (AV × Heap))
  | 34 => some pTrim
  | 82 => some pIndex
  | _ => none
def extpT : FuncId → Option (List V1 → Heap → Option (AV × Heap))
  | _ => none
def extT : FuncId → List Value → Option Value
  | 64, vs => eIndexByte vs
  | _, _ => none
def tabT : Nat → Option (IntKind × List Int)
  | 0 => some (.u64, [1, 10, 100, 1000, 10000, 100000, 1000000, 10000000, 100000000, 1000000000, 10000000000, 100000000000, 1000000000000, 10000000000000, 100000000000000, 1000000000000000, 10000000000000000, 100000000000000000, 1000000000000000000, 10000000000000000000])
  | 4 => some (.u8, [0, 1, 28, 2, 29, 14, 24, 3, 30, 22, 20, 15, 25, 17, 4, 8, 31, 27, 13, 23, 21, 19, 16, 7, 26, 12, 18, 6, 11, 5, 10, 9])
  | 5 => some (.u8, [0, 1, 56, 2, 57, 49, 28, 3, 61, 58, 42, 50, 38, 29, 17, 4, 62, 47, 59, 36, 45, 43, 51, 22, 53, 39, 33, 30, 24, 18, 12, 5, 63, 55, 48, 27, 60, 41, 37, 16, 46, 35, 44, 21, 52, 32, 23, 11, 54, 26, 40, 15, 34, 20, 31, 10, 25, 14, 19, 9, 13, 8, 7, 6])
  | _ => none
noncomputable def E0 (m : Int) : Env := { P := Tryd.prog, live := live, hard := fun s => s == "control.go:44" || s == "hop.go:41" || s == "message.go:122" || s == "policy.go:99" || s == "slices.go:362" || s == "slices.go:428" || s == "slices.go:504" || s == "text.go:39", row := fun s => s == "fault.go:31", ext := extT, base := tabBase tabT 1 m, glob := tabGlob tabT, hand := fun f => false, prim := primT, extp := extpT }
theorem pIndex_ok (m : Int) : CallP (E0 m) 82 pIndex := by
  refine prim_ok ?_
  intro args hp v h' hh
  unfold pIndex at hh
  split at hh
  · rename_i s t
    split at hh
    · rename_i hs
      simp only [Option.some.injEq, Prod.mk.injEq] at hh
      obtain ⟨rfl, rfl⟩ := hh
      refine ⟨rfl, [.string s, .string t], _, rfl, fun G => .sc _ rfl, fun w hw => ?_⟩
      refine (Tryd.stringslite_Index s t m w hs (hw 1 0 _ (by simp [E0, tabBase, tabT]))).mono ?_
      rintro e w' ⟨rfl, rfl⟩
      exact ⟨rfl, Go.RowKit.Below.refl _ _⟩
    · cases hh
  · cases hh
theorem pTrim_ok (m : Int) : CallP (E0 m) 34 pTrim := by
  refine prim_ok ?_
  intro args hp v h' hh
  unfold pTrim at hh
  split at hh
  · rename_i s t
    split at hh
    · rename_i hc
      simp only [Option.some.injEq, Prod.mk.injEq] at hh
      obtain ⟨rfl, rfl⟩ := hh
      refine ⟨rfl, [.string s, .string t], _, rfl, fun G => .sc _ rfl, fun w hw => ?_⟩
      refine (Tryd.strings_Trim_ascii s t w hc.1 hc.2.1 (asciiB_ok hc.2.2)).mono ?_
      rintro e w' ⟨rfl, hb⟩
      exact ⟨rfl, hb⟩
    · cases hh
  · cases hh
theorem ext_ok (g : FuncId) (vs : List Value) (r : Value) (h : extT g vs = some r) (w : World) : (callFunc g vs.toArray).run Tryd.prog w = .ok (.value r) w := by
  unfold extT at h
  split at h
  · exact eIndexByte_ok (fun args w => run_callFunc_extern Tryd.func64 (by kernel_rfl) (by kernel_rfl) (by kernel_rfl) (e := Extern.BytealgIndexByte.indexByte) (by kernel_rfl) args w) _ _ h w
  · cases h
theorem prim_all (m : Int) (g : FuncId) (p) (h : primT g = some p) : CallP (E0 m) g p := by
  unfold primT at h
  split at h
  · cases h; exact pTrim_ok m
  · cases h; exact pIndex_ok m
  · cases h
theorem extp_all (m : Int) (g : FuncId) (p) (h : extpT g = some p) : ExtP (E0 m) g p := by
  unfold extpT at h
  split at h
  · cases h
theorem E0ok (m : Int) : EnvOk (E0 m) := ⟨ext_ok, prim_all m, fun g cs h => tab_glob (T := tabT) (g0 := 1) (m := m) g cs h, extp_all m⟩
theorem cellM (W : World) (h : W.ShapedOpen Tryd.prog) : ∃ m, W.cell? ⟨1, 0, none⟩ = some (.int .i64 m) := Tryd.laysM219.s1_3 W h
theorem base_ok (m : Int) (W : World) (hm : W.cell? ⟨1, 0, none⟩ = some (.int .i64 m)) (hT : ∀ g k l, tabT g = some (k, l) → ∀ (i : Nat) x, l[i]? = some x → W.cell? ⟨g, i, none⟩ = some (.int k x)) : ∀ b i v, (E0 m).base b i = some v → W.cell? ⟨b, i, none⟩ = some v := by
  intro b i v h
  have h2 : tabBase tabT 1 m b i = some v := h
  unfold tabBase at h2
  split at h2
  · rename_i p hp
    simp only [Option.map_eq_some_iff] at h2
    obtain ⟨x, hx, rfl⟩ := h2
    exact hT b p.1 p.2 hp i x hx
  · by_cases e : b = 1 ∧ i = 0
    · rw [if_pos e] at h2
      obtain ⟨rfl, rfl⟩ := e
      rw [hm, ← h2]
    · rw [if_neg e] at h2
      cases h2
end Go.Proofs.YtfcjicedphacfaaDoor
