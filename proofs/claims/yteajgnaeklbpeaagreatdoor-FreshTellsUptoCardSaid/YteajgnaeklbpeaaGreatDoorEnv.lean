/- The evaluator's surroundings for this program: which slots live at a loop's head; functions of the library by their contracts. -/
import Derived.Test.YteajgnaeklbpeaaGreatDoorProg
import Derived.Test.YteajgnaeklbpeaaGreatDoorShelf
import Derived.KernelRfl
import Derived.Test.YteajgnaeklbpeaaGreatDoorEv7
set_option linter.unusedVariables false
set_option linter.unusedSimpArgs false
set_option maxRecDepth 100000
namespace Go.Proofs.YteajgnaeklbpeaaGreatDoor
open Go Go.Ab
def live : FuncId → Nat → List (Nat × Co)
  | 16, 3 => [(1, .keep), (5, .own), (8, .keep), (9, .keep), (10, .keep)]
  | 19, 4 => [(2, .keep), (3, .keep), (4, .keep), (5, .keep)]
  | 21, 3 => [(1, .keep), (2, .keep), (5, .own), (6, .keep)]
  | 24, 3 => [(0, .keep), (3, .own), (4, .keep)]
  | 28, 9 => [(0, .keep), (5, .keep), (7, .keep), (53, .keep), (54, .keep)]
  | 29, 5 => [(0, .keep), (4, .keep), (5, .keep)]
  | 29, 15 => [(0, .keep), (4, .keep), (7, .keep), (8, .keep), (9, .keep), (10, .keep), (11, .keep), (12, .keep)]
  | 29, 21 => [(0, .keep), (4, .keep), (7, .keep), (8, .keep), (9, .keep), (10, .keep), (11, .keep), (13, .keep)]
  | 30, 3 => [(3, .freeze), (11, .freeze), (12, .freeze), (13, .freeze)]
  | 32, 3 => [(1, .keep), (5, .keep), (8, .keep), (9, .keep), (10, .keep)]
  | 33, 5 => [(0, .keep), (3, .keep), (4, .keep)]
  | 35, 2 => [(0, .keep), (1, .keep), (7, .keep), (8, .keep)]
  | 36, 3 => [(0, .keep), (1, .keep), (5, .own), (6, .keep)]
  | 37, 2 => [(0, .keep), (5, .keep)]
  | 38, 5 => [(0, .keep), (3, .keep), (4, .keep)]
  | 38, 10 => [(0, .keep), (3, .keep), (5, .keep)]
  | 44, 3 => [(0, .keep), (3, .keep), (6, .keep), (7, .keep)]
  | 47, 5 => [(4, .keep), (5, .keep), (6, .keep)]
  | 47, 8 => [(4, .keep), (5, .keep), (6, .keep), (7, .keep), (8, .keep)]
  | 49, 3 => [(0, .keep), (1, .keep), (2, .keep), (7, .keep), (8, .keep)]
  | 53, 3 => [(5, .own), (10, .keep), (11, .keep), (12, .keep)]
  | 58, 3 => [(3, .keep), (8, .keep), (9, .keep), (10, .keep)]
  | 59, 4 => [(0, .keep), (3, .own), (4, .keep), (5, .keep)]
  | 60, 3 => [(0, .keep), (3, .keep), (4, .keep)]
  | 60, 8 => [(0, .keep), (3, .keep), (4, .keep), (5, .keep), (6, .keep), (7, .keep)]
  | 61, 3 => [(0, .keep), (3, .own), (4, .keep)]
  | 62, 5 => [(0, .keep), (4, .own), (5, .keep)]
  | 63, 5 => [(1, .keep), (2, .keep), (8, .keep), (9, .keep), (16, .keep)]
  | 65, 4 => [(0, .keep), (1, .keep), (6, .keep)]
  | 65, 8 => [(0, .keep), (1, .keep)]
  | 65, 14 => [(0, .keep), (1, .keep), (7, .keep), (8, .keep)]
  | 66, 15 => [(0, .keep), (1, .keep), (5, .keep), (6, .keep), (7, .keep), (8, .keep), (9, .keep), (10, .keep)]
  | 69, 5 => [(1, .keep), (3, .keep), (5, .keep), (6, .keep), (7, .keep), (12, .keep)]
  | 72, 6 => [(4, .own), (5, .keep), (6, .keep)]
  | 73, 2 => [(0, .keep), (1, .keep), (7, .keep), (8, .keep)]
  | 74, 2 => [(0, .keep), (1, .keep)]
  | 75, 2 => [(0, .keep), (3, .keep), (4, .keep)]
  | 75, 4 => [(0, .keep), (3, .keep), (4, .keep)]
  | 81, 5 => [(0, .keep), (1, .keep), (5, .keep), (6, .keep), (7, .keep), (8, .keep), (9, .keep)]
  | 81, 11 => [(0, .keep), (1, .keep), (5, .keep), (6, .keep), (7, .keep), (8, .keep), (10, .keep)]
  | 90, 3 => [(0, .keep), (4, .keep), (5, .keep)]
  | 90, 8 => [(4, .keep), (6, .keep), (7, .keep), (8, .keep)]
  | 94, 1 => [(0, .keep), (1, .keep)]
  | 95, 1 => [(0, .keep), (1, .keep)]
  | 96, 2 => [(0, .keep), (2, .keep), (4, .keep)]
  | 97, 1 => [(0, .keep), (1, .keep)]
  | 98, 1 => [(0, .keep), (1, .keep)]
  | 99, 1 => [(0, .keep), (1, .keep)]
  | 100, 1 => [(0, .keep), (1, .keep)]
  | 101, 2 => [(0, .keep), (1, .keep), (7, .keep), (8, .keep)]
  | 105, 10 => [(0, .keep), (4, .keep), (5, .keep), (6, .keep)]
  | 107, 38 => [(175, .keep)]
  | 107, 1 => [(0, .keep), (1, .keep), (7, .keep), (8, .keep), (9, .keep), (14, .keep), (15, .keep)]
  | 107, 5 => [(0, .keep), (1, .keep), (7, .keep), (8, .keep), (9, .keep), (10, .keep), (14, .keep), (15, .keep)]
  | 107, 6 => [(0, .keep), (1, .keep), (7, .keep), (8, .keep), (9, .keep), (10, .keep), (14, .keep), (15, .keep)]
  | 107, 12 => [(0, .keep), (1, .keep), (7, .keep), (8, .keep), (9, .keep), (10, .keep), (12, .keep), (14, .keep), (15, .keep)]
  | 107, 23 => [(0, .keep), (7, .keep), (8, .keep), (9, .keep), (14, .keep), (15, .keep)]
  | 107, 25 => [(0, .keep), (7, .keep), (8, .keep), (9, .keep), (14, .keep), (15, .keep)]
  | 107, 29 => [(0, .keep), (7, .keep), (8, .keep), (9, .keep), (14, .keep), (15, .keep), (16, .keep)]
  | _, _ => []
def primT : FuncId → Option (List V1 → Heap → Option (AV × Heap))
  | 66 => some pIndex
  | 91 => some pTrim
  | _ => none
def extpT : FuncId → Option (List V1 → Heap → Option (AV × Heap))
  | _ => none
def extT : FuncId → List Value → Option Value
  | 89, vs => eIndexByte vs
  | _, _ => none
def tabT : Nat → Option (IntKind × List Int)
  | _ => none
def hardT : String → Bool := fun s => s == "control.go:44" || s == "text.go:39"
def aownT : String → Bool := fun s => s == "text.go:53"
def rowT : String → Bool := fun s => false
noncomputable def E0 (m : Int) : Env := { P := Tryz.prog, live := live, hard := hardT, row := rowT, ext := extT, base := tabBase tabT 0 m, glob := tabGlob tabT, hand := fun _ => false, prim := primT, extp := extpT, nw := fun _ => false, aown := aownT }
theorem pIndex_ok (m : Int) : CallP (E0 m) 66 pIndex := by
  refine prim_ok ?_
  intro args hp v h' hh
  unfold pIndex at hh
  split at hh
  · rename_i s t
    split at hh
    · rename_i hs
      simp only [Option.some.injEq, Prod.mk.injEq] at hh
      obtain ⟨rfl, rfl⟩ := hh
      refine ⟨rfl, [.string s, .string t], _, rfl, fun G => .sc _ rfl, fun w hw => ?_⟩
      refine (Tryz.stringslite_Index s t m w hs (hw 0 0 _ (by simp [E0, tabBase, tabT]))).mono ?_
      rintro e w' ⟨rfl, rfl⟩
      exact ⟨rfl, Go.RowKit.Below.refl _ _⟩
    · cases hh
  · cases hh
theorem pTrim_ok (m : Int) : CallP (E0 m) 91 pTrim := by
  refine prim_ok ?_
  intro args hp v h' hh
  unfold pTrim at hh
  split at hh
  · rename_i s t
    split at hh
    · rename_i hc
      simp only [Option.some.injEq, Prod.mk.injEq] at hh
      obtain ⟨rfl, rfl⟩ := hh
      refine ⟨rfl, [.string s, .string t], _, rfl, fun G => .sc _ rfl, fun w hw => ?_⟩
      refine (Tryz.strings_Trim_ascii s t w hc.1 hc.2.1 (asciiB_ok hc.2.2)).mono ?_
      rintro e w' ⟨rfl, hb⟩
      exact ⟨rfl, hb⟩
    · cases hh
  · cases hh
theorem ext_ok (g : FuncId) (vs : List Value) (r : Value) (h : extT g vs = some r) (w : World) : (callFunc g vs.toArray).run Tryz.prog w = .ok (.value r) w := by
  unfold extT at h
  split at h
  · exact eIndexByte_ok (fun args w => run_callFunc_extern Tryz.func89 (by kernel_rfl) (by kernel_rfl) (by kernel_rfl) (e := Extern.BytealgIndexByte.indexByte) (by kernel_rfl) args w) _ _ h w
  · cases h
theorem prim_all (m : Int) (g : FuncId) (p) (h : primT g = some p) : CallP (E0 m) g p := by
  unfold primT at h
  split at h
  · cases h; exact pIndex_ok m
  · cases h; exact pTrim_ok m
  · cases h
theorem extp_all (m : Int) (g : FuncId) (p) (h : extpT g = some p) : ExtP (E0 m) g p := by
  unfold extpT at h
  split at h
  · cases h
theorem E0ok (m : Int) : EnvOk (E0 m) := ⟨ext_ok, prim_all m, fun g cs h => tab_glob (T := tabT) (g0 := 0) (m := m) g cs h, extp_all m⟩
theorem cellM (W : World) (h : W.ShapedOpen Tryz.prog) : ∃ m, W.cell? ⟨0, 0, none⟩ = some (.int .i64 m) := Tryz.laysM219.s1_3 W h
theorem base_ok (m : Int) (W : World) (hm : W.cell? ⟨0, 0, none⟩ = some (.int .i64 m)) (hT : ∀ g k l, tabT g = some (k, l) → ∀ (i : Nat) x, l[i]? = some x → W.cell? ⟨g, i, none⟩ = some (.int k x)) : ∀ b i v, (E0 m).base b i = some v → W.cell? ⟨b, i, none⟩ = some v := by
  intro b i v h
  have h2 : tabBase tabT 0 m b i = some v := h
  unfold tabBase at h2
  split at h2
  · rename_i p hp
    simp only [Option.map_eq_some_iff] at h2
    obtain ⟨x, hx, rfl⟩ := h2
    exact hT b p.1 p.2 hp i x hx
  · by_cases e : b = 0 ∧ i = 0
    · rw [if_pos e] at h2
      obtain ⟨rfl, rfl⟩ := e
      rw [hm, ← h2]
    · rw [if_neg e] at h2
      cases h2
end Go.Proofs.YteajgnaeklbpeaaGreatDoor
