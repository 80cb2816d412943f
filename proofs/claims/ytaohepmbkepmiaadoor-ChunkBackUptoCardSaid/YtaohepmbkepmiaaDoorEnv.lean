/- The evaluator's surroundings for this program: which slots live at a loop's head; functions of the library by their contracts. -/
import Derived.Test.YtaohepmbkepmiaaDoorProg
import Derived.Test.YtaohepmbkepmiaaDoorShelf
import Derived.KernelRfl
import Derived.Test.YtaohepmbkepmiaaDoorEv7
set_option linter.unusedVariables false
set_option linter.unusedSimpArgs false
set_option maxRecDepth 100000
namespace Go.Proofs.YtaohepmbkepmiaaDoor
open Go Go.Ab
def live : FuncId → Nat → List (Nat × Co)
  | 3, 6 => [(0, .keep), (3, .keep), (4, .keep), (10, .keep), (41, .keep), (42, .keep)]
  | 4, 3 => [(0, .keep), (3, .own), (12, .keep), (13, .keep), (14, .keep)]
  | 4, 12 => [(0, .keep), (3, .keep), (6, .keep), (45, .keep), (46, .keep)]
  | 4, 17 => [(0, .keep), (3, .keep), (57, .keep), (58, .keep)]
  | 6, 4 => [(0, .keep), (1, .keep), (2, .keep), (7, .keep), (8, .keep), (9, .keep), (23, .keep), (24, .keep), (25, .keep)]
  | 7, 5 => [(52, .keep), (53, .keep), (54, .keep)]
  | 8, 1 => [(0, .keep), (5, .keep), (6, .keep), (9, .keep)]
  | 9, 3 => [(0, .keep), (5, .own), (6, .keep)]
  | 9, 4 => [(0, .keep), (5, .keep), (6, .keep), (7, .keep)]
  | 12, 3 => [(0, .keep), (4, .keep), (12, .keep), (13, .keep), (14, .keep)]
  | 12, 11 => [(7, .own), (28, .keep), (29, .keep), (30, .keep)]
  | 13, 4 => [(0, .keep), (4, .keep), (5, .own), (6, .keep)]
  | 14, 11 => [(0, .keep), (1, .keep), (5, .keep), (42, .keep), (43, .keep), (44, .keep)]
  | 14, 20 => [(1, .keep), (8, .keep), (9, .keep), (70, .keep), (71, .keep), (72, .keep)]
  | 15, 18 => [(7, .keep), (8, .keep), (9, .keep), (10, .keep)]
  | 20, 1 => [(0, .keep), (5, .keep), (6, .own), (7, .keep), (8, .keep), (9, .keep)]
  | 21, 5 => [(0, .keep), (4, .keep)]
  | 22, 5 => [(0, .keep), (5, .own), (6, .keep), (7, .keep), (8, .keep), (9, .keep), (10, .keep)]
  | 37, 2 => [(0, .keep), (3, .keep)]
  | 41, 2 => [(0, .keep), (3, .keep), (4, .keep)]
  | 41, 4 => [(0, .keep), (3, .keep), (4, .keep)]
  | 43, 4 => [(0, .keep), (1, .keep), (6, .keep)]
  | 49, 5 => [(1, .keep), (2, .keep), (8, .keep), (9, .keep), (16, .keep)]
  | 54, 4 => [(0, .keep), (1, .keep), (6, .keep)]
  | 54, 8 => [(0, .keep), (1, .keep)]
  | 54, 14 => [(0, .keep), (1, .keep), (7, .keep), (8, .keep)]
  | 55, 3 => [(0, .keep), (3, .keep), (4, .keep)]
  | 55, 8 => [(0, .keep), (3, .keep), (4, .keep), (5, .keep), (6, .keep), (7, .keep)]
  | 57, 15 => [(0, .keep), (1, .keep), (5, .keep), (6, .keep), (7, .keep), (8, .keep), (9, .keep), (10, .keep)]
  | 62, 1 => [(0, .keep), (1, .keep)]
  | 63, 1 => [(0, .keep), (1, .keep)]
  | 64, 2 => [(0, .keep), (2, .keep), (4, .keep)]
  | 65, 1 => [(0, .keep), (1, .keep)]
  | 66, 1 => [(0, .keep), (1, .keep)]
  | 67, 1 => [(0, .keep), (1, .keep)]
  | 68, 1 => [(0, .keep), (1, .keep)]
  | 74, 5 => [(0, .keep), (1, .keep), (5, .keep), (6, .keep), (7, .keep), (8, .keep), (9, .keep)]
  | 74, 11 => [(0, .keep), (1, .keep), (5, .keep), (6, .keep), (7, .keep), (8, .keep), (10, .keep)]
  | 75, 2 => [(0, .keep), (1, .keep), (7, .keep), (8, .keep)]
  | 79, 10 => [(0, .keep), (4, .keep), (5, .keep), (6, .keep)]
  | 82, 1 => [(0, .keep), (1, .keep), (4, .keep)]
  | 83, 11 => [(0, .keep), (1, .keep), (3, .keep), (4, .keep), (10, .keep), (11, .keep), (12, .keep), (13, .keep), (14, .keep), (15, .keep), (16, .keep)]
  | 83, 18 => [(0, .keep), (1, .keep), (3, .keep), (4, .keep), (10, .keep), (11, .keep), (12, .keep), (13, .keep), (17, .keep)]
  | 85, 3 => [(0, .keep), (4, .keep), (5, .keep)]
  | 85, 8 => [(4, .keep), (6, .keep), (7, .keep), (8, .keep)]
  | 87, 38 => [(175, .keep)]
  | 87, 1 => [(0, .keep), (1, .keep), (7, .keep), (8, .keep), (9, .keep), (14, .keep), (15, .keep)]
  | 87, 5 => [(0, .keep), (1, .keep), (7, .keep), (8, .keep), (9, .keep), (10, .keep), (14, .keep), (15, .keep)]
  | 87, 6 => [(0, .keep), (1, .keep), (7, .keep), (8, .keep), (9, .keep), (10, .keep), (14, .keep), (15, .keep)]
  | 87, 12 => [(0, .keep), (1, .keep), (7, .keep), (8, .keep), (9, .keep), (10, .keep), (12, .keep), (14, .keep), (15, .keep)]
  | 87, 23 => [(0, .keep), (7, .keep), (8, .keep), (9, .keep), (14, .keep), (15, .keep)]
  | 87, 25 => [(0, .keep), (7, .keep), (8, .keep), (9, .keep), (14, .keep), (15, .keep)]
  | 87, 29 => [(0, .keep), (7, .keep), (8, .keep), (9, .keep), (14, .keep), (15, .keep), (16, .keep)]
  | _, _ => []
def primT : FuncId → Option (List V1 → Heap → Option (AV × Heap))
  | 52 => some pTrim
  | 57 => some pIndex
  | _ => none
def extpT : FuncId → Option (List V1 → Heap → Option (AV × Heap))
  | 25 => some pNoZero
  | 27 => some pIndexB
  | _ => none
def extT : FuncId → List Value → Option Value
  | 84, vs => eIndexByte vs
  | _, _ => none
def tabT : Nat → Option (IntKind × List Int)
  | 1 => some (.u64, [1, 10, 100, 1000, 10000, 100000, 1000000, 10000000, 100000000, 1000000000, 10000000000, 100000000000, 1000000000000, 10000000000000, 100000000000000, 1000000000000000, 10000000000000000, 100000000000000000, 1000000000000000000, 10000000000000000000])
  | 4 => some (.u8, [0, 1, 28, 2, 29, 14, 24, 3, 30, 22, 20, 15, 25, 17, 4, 8, 31, 27, 13, 23, 21, 19, 16, 7, 26, 12, 18, 6, 11, 5, 10, 9])
  | 5 => some (.u8, [0, 1, 56, 2, 57, 49, 28, 3, 61, 58, 42, 50, 38, 29, 17, 4, 62, 47, 59, 36, 45, 43, 51, 22, 53, 39, 33, 30, 24, 18, 12, 5, 63, 55, 48, 27, 60, 41, 37, 16, 46, 35, 44, 21, 52, 32, 23, 11, 54, 26, 40, 15, 34, 20, 31, 10, 25, 14, 19, 9, 13, 8, 7, 6])
  | _ => none
def hardT : String → Bool := fun s => false
def aownT : String → Bool := fun s => s == "text.go:53"
def rowT : String → Bool := fun s => s == "law.go:22" || s == "law.go:36" || s == "outright.go:25" || s == "outright.go:36"
def nwT : String → Bool := fun s => s == "law.go:14" || s == "law.go:15" || s == "law.go:16" || s == "outright.go:46"
noncomputable def E0 (m : Int) : Env := { P := Tryd.prog, live := live, hard := hardT, row := rowT, ext := extT, base := tabBase tabT 0 m, glob := tabGlob tabT, hand := fun _ => false, prim := primT, extp := extpT, nw := nwT, aown := aownT }
theorem pIndex_ok (m : Int) : CallP (E0 m) 57 pIndex := by
  refine prim_ok ?_
  intro args hp v h' hh
  unfold pIndex at hh
  split at hh
  · rename_i s t
    split at hh
    · rename_i hs
      simp only [Option.some.injEq, Prod.mk.injEq] at hh
      obtain ⟨rfl, rfl⟩ := hh
      refine ⟨rfl, [.string s, .string t], _, rfl, fun G => .sc _ rfl, fun w hw => ?_⟩
      refine (Tryd.stringslite_Index s t m w hs (hw 0 0 _ (by simp [E0, tabBase, tabT]))).mono ?_
      rintro e w' ⟨rfl, rfl⟩
      exact ⟨rfl, Go.RowKit.Below.refl _ _⟩
    · cases hh
  · cases hh
theorem pTrim_ok (m : Int) : CallP (E0 m) 52 pTrim := by
  refine prim_ok ?_
  intro args hp v h' hh
  unfold pTrim at hh
  split at hh
  · rename_i s t
    split at hh
    · rename_i hc
      simp only [Option.some.injEq, Prod.mk.injEq] at hh
      obtain ⟨rfl, rfl⟩ := hh
      refine ⟨rfl, [.string s, .string t], _, rfl, fun G => .sc _ rfl, fun w hw => ?_⟩
      refine (Tryd.strings_Trim_ascii s t w hc.1 hc.2.1 (asciiB_ok hc.2.2)).mono ?_
      rintro e w' ⟨rfl, hb⟩
      exact ⟨rfl, hb⟩
    · cases hh
  · cases hh
theorem x25_ok (m : Int) : ExtP (E0 m) 25 pNoZero :=
  pNoZero_ok (ps := #[3]) (fn := Tryd.f25) Tryd.underlying22 fun args w => run_callFunc_extern Tryd.func25 (by kernel_rfl) (by kernel_rfl) (by kernel_rfl) (e := Extern.BytealgMakeNoZero.makeNoZero #[3] #[22]) (by kernel_rfl) args w
theorem x27_ok (m : Int) : ExtP (E0 m) 27 pIndexB :=
  pIndexB_ok fun args w => run_callFunc_extern Tryd.func27 (by kernel_rfl) (by kernel_rfl) (by kernel_rfl) (e := Extern.BytealgIndexByte.indexByte) (by kernel_rfl) args w
theorem ext_ok (g : FuncId) (vs : List Value) (r : Value) (h : extT g vs = some r) (w : World) : (callFunc g vs.toArray).run Tryd.prog w = .ok (.value r) w := by
  unfold extT at h
  split at h
  · exact eIndexByte_ok (fun args w => run_callFunc_extern Tryd.func84 (by kernel_rfl) (by kernel_rfl) (by kernel_rfl) (e := Extern.BytealgIndexByte.indexByte) (by kernel_rfl) args w) _ _ h w
  · cases h
theorem prim_all (m : Int) (g : FuncId) (p) (h : primT g = some p) : CallP (E0 m) g p := by
  unfold primT at h
  split at h
  · cases h; exact pTrim_ok m
  · cases h; exact pIndex_ok m
  · cases h
theorem extp_all (m : Int) (g : FuncId) (p) (h : extpT g = some p) : ExtP (E0 m) g p := by
  unfold extpT at h
  split at h
  · cases h; exact x25_ok m
  · cases h; exact x27_ok m
  · cases h
theorem E0ok (m : Int) : EnvOk (E0 m) := ⟨ext_ok, prim_all m, fun g cs h => tab_glob (T := tabT) (g0 := 0) (m := m) g cs h, extp_all m⟩
theorem cellM (W : World) (h : W.ShapedOpen Tryd.prog) : ∃ m, W.cell? ⟨0, 0, none⟩ = some (.int .i64 m) := Tryd.laysM219.s1_3 W h
theorem base_ok (m : Int) (W : World) (hm : W.cell? ⟨0, 0, none⟩ = some (.int .i64 m)) (hT : ∀ g k l, tabT g = some (k, l) → ∀ (i : Nat) x, l[i]? = some x → W.cell? ⟨g, i, none⟩ = some (.int k x)) : ∀ b i v, (E0 m).base b i = some v → W.cell? ⟨b, i, none⟩ = some v := by
  intro b i v h
  have h2 : tabBase tabT 0 m b i = some v := h
  unfold tabBase at h2
  split at h2
  · rename_i p hp
    simp only [Option.map_eq_some_iff] at h2
    obtain ⟨x, hx, rfl⟩ := h2
    exact hT b p.1 p.2 hp i x hx
  · by_cases e : b = 0 ∧ i = 0
    · rw [if_pos e] at h2
      obtain ⟨rfl, rfl⟩ := e
      rw [hm, ← h2]
    · rw [if_neg e] at h2
      cases h2
end Go.Proofs.YtaohepmbkepmiaaDoor
