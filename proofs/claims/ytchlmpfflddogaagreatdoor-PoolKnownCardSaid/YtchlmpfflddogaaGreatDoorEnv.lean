/- The evaluator's surroundings for this program: which slots live at a loop's head; functions of the library by their contracts. -/
import Derived.Test.YtchlmpfflddogaaGreatDoorProg
import Derived.Test.YtchlmpfflddogaaGreatDoorShelf
import Derived.KernelRfl
import Derived.Test.YtchlmpfflddogaaGreatDoorAb29
set_option linter.unusedVariables false
set_option linter.unusedSimpArgs false
set_option maxRecDepth 100000
namespace Go.Proofs.YtchlmpfflddogaaGreatDoor
open Go Go.Ab
def live : FuncId → Nat → List (Nat × Co)
  | 3, 7 => [(7, .keep), (8, .keep), (9, .keep), (11, .keep), (42, .keep), (43, .keep), (44, .keep)]
  | 3, 23 => [(7, .keep), (8, .keep), (9, .keep), (11, .keep), (13, .keep), (42, .keep), (43, .keep), (44, .keep), (101, .keep), (102, .keep)]
  | 4, 11 => [(1, .keep), (5, .keep), (9, .keep), (10, .keep), (43, .keep), (44, .keep), (45, .keep)]
  | 5, 7 => [(5, .keep), (6, .keep), (8, .keep), (42, .keep), (43, .keep), (44, .keep)]
  | 5, 15 => [(5, .keep), (6, .keep), (8, .keep), (10, .keep), (11, .keep), (12, .keep), (13, .keep), (42, .keep), (43, .keep), (44, .keep), (55, .keep), (56, .keep)]
  | 5, 23 => [(5, .keep), (6, .keep), (8, .keep), (42, .keep), (43, .keep), (44, .keep), (97, .keep), (98, .keep), (99, .keep)]
  | 6, 8 => [(6, .keep), (8, .keep), (9, .keep), (37, .keep), (38, .keep), (39, .keep)]
  | 8, 10 => [(7, .keep), (9, .keep), (53, .keep), (54, .keep), (55, .keep)]
  | 8, 30 => [(7, .keep), (9, .keep), (13, .keep), (14, .keep), (21, .keep), (53, .keep), (54, .keep), (55, .keep), (147, .keep), (148, .keep)]
  | 11, 4 => [(0, .keep), (1, .keep), (2, .keep), (3, .keep), (4, .keep), (33, .keep), (34, .keep)]
  | 11, 12 => [(0, .keep), (1, .keep), (2, .keep), (3, .keep), (4, .keep), (81, .keep), (82, .keep), (83, .keep)]
  | 11, 15 => [(0, .keep), (1, .keep), (2, .keep), (3, .keep), (4, .keep), (17, .keep), (81, .keep), (82, .keep), (83, .keep), (91, .keep), (92, .keep)]
  | 22, 1 => [(0, .keep), (1, .keep), (5, .keep)]
  | 25, 4 => [(0, .keep), (1, .keep), (2, .keep), (3, .keep), (4, .keep), (14, .keep), (15, .keep), (16, .keep)]
  | 25, 12 => [(0, .keep), (1, .keep), (2, .keep), (3, .keep), (4, .keep), (14, .keep), (15, .keep), (17, .keep)]
  | 33, 4 => [(0, .keep), (1, .keep), (20, .keep), (21, .keep), (22, .keep)]
  | 39, 5 => [(0, .keep), (1, .keep)]
  | 43, 1 => [(0, .keep), (1, .keep), (2, .keep), (3, .keep), (8, .keep)]
  | 54, 3 => [(0, .keep), (1, .keep), (2, .keep), (3, .keep), (8, .keep)]
  | 71, 4 => [(0, .keep), (1, .keep), (12, .keep), (13, .keep)]
  | 75, 4 => [(0, .keep), (5, .keep), (6, .keep), (7, .keep)]
  | 76, 4 => [(0, .keep), (1, .keep), (5, .keep)]
  | 81, 3 => [(5, .keep), (10, .keep), (11, .keep), (12, .keep)]
  | 85, 1 => [(0, .keep), (5, .keep), (6, .keep), (7, .keep), (8, .keep), (9, .keep)]
  | 91, 1 => [(0, .keep), (5, .keep), (6, .keep), (9, .keep)]
  | 92, 2 => [(0, .keep), (5, .keep)]
  | 93, 6 => [(0, .keep), (6, .keep), (7, .keep), (8, .keep)]
  | 96, 15 => [(5, .keep), (9, .keep), (10, .keep), (11, .keep)]
  | 98, 3 => [(0, .keep), (1, .keep), (5, .keep), (6, .keep)]
  | 99, 3 => [(0, .keep), (3, .keep), (4, .keep)]
  | 100, 3 => [(1, .keep), (5, .keep), (8, .keep), (9, .keep), (10, .keep)]
  | 103, 2 => [(0, .keep), (1, .keep), (7, .keep), (8, .keep)]
  | 104, 5 => [(1, .keep), (3, .keep), (5, .keep), (6, .keep), (7, .keep), (12, .keep)]
  | 105, 3 => [(3, .keep), (8, .keep), (9, .keep), (10, .keep)]
  | 111, 11 => [(0, .keep), (1, .keep), (2, .keep), (3, .keep), (9, .keep), (10, .keep)]
  | 112, 10 => [(5, .keep), (6, .keep), (47, .keep), (48, .keep), (49, .keep)]
  | 121, 2 => [(0, .keep), (3, .keep)]
  | 122, 5 => [(0, .keep), (5, .keep), (6, .keep), (7, .keep), (8, .keep), (9, .keep), (10, .keep)]
  | 124, 3 => [(0, .keep), (5, .keep), (6, .keep)]
  | 124, 4 => [(0, .keep), (5, .keep), (6, .keep), (7, .keep)]
  | 125, 4 => [(0, .keep), (1, .keep), (6, .keep), (7, .keep), (8, .keep)]
  | 128, 4 => [(0, .keep), (3, .keep), (4, .keep), (5, .keep)]
  | 129, 2 => [(1, .keep), (10, .keep), (11, .keep), (12, .keep)]
  | 129, 5 => [(1, .keep), (10, .keep), (11, .keep), (12, .keep), (17, .keep), (18, .keep), (19, .keep)]
  | 136, 6 => [(0, .keep), (1, .keep), (6, .keep), (7, .keep)]
  | 137, 6 => [(0, .keep), (1, .keep), (5, .keep)]
  | 154, 2 => [(0, .keep), (3, .keep), (4, .keep)]
  | 154, 4 => [(0, .keep), (3, .keep), (4, .keep)]
  | 155, 5 => [(0, .keep), (4, .keep)]
  | 156, 4 => [(0, .keep), (1, .keep), (6, .keep)]
  | 156, 8 => [(0, .keep), (1, .keep)]
  | 156, 14 => [(0, .keep), (1, .keep), (7, .keep), (8, .keep)]
  | 157, 2 => [(0, .keep), (1, .keep)]
  | 158, 5 => [(1, .keep), (2, .keep), (8, .keep), (9, .keep), (16, .keep)]
  | 162, 1 => [(0, .keep), (1, .keep)]
  | 163, 1 => [(0, .keep), (1, .keep)]
  | 164, 2 => [(0, .keep), (2, .keep), (4, .keep)]
  | 165, 1 => [(0, .keep), (1, .keep)]
  | 166, 1 => [(0, .keep), (1, .keep)]
  | 167, 1 => [(0, .keep), (1, .keep)]
  | 168, 1 => [(0, .keep), (1, .keep)]
  | 169, 2 => [(2, .keep), (4, .keep)]
  | 172, 15 => [(0, .keep), (1, .keep), (5, .keep), (6, .keep), (7, .keep), (8, .keep), (9, .keep), (10, .keep)]
  | 173, 36 => [(1, .keep), (8, .keep), (9, .keep), (10, .keep), (11, .keep), (12, .keep), (13, .keep), (99, .keep), (100, .keep), (101, .keep)]
  | 181, 3 => [(0, .keep), (3, .keep), (4, .keep)]
  | 181, 8 => [(0, .keep), (3, .keep), (4, .keep), (5, .keep), (6, .keep), (7, .keep)]
  | 187, 10 => [(0, .keep), (4, .keep), (5, .keep), (6, .keep)]
  | 191, 5 => [(0, .keep), (1, .keep), (5, .keep), (6, .keep), (7, .keep), (8, .keep), (9, .keep)]
  | 191, 11 => [(0, .keep), (1, .keep), (5, .keep), (6, .keep), (7, .keep), (8, .keep), (10, .keep)]
  | 193, 10 => [(0, .keep), (3, .keep), (4, .keep), (5, .keep)]
  | 196, 1 => [(0, .keep), (1, .keep), (4, .keep)]
  | 197, 11 => [(0, .keep), (1, .keep), (3, .keep), (4, .keep), (10, .keep), (11, .keep), (12, .keep), (13, .keep), (14, .keep), (15, .keep), (16, .keep)]
  | 197, 18 => [(0, .keep), (1, .keep), (3, .keep), (4, .keep), (10, .keep), (11, .keep), (12, .keep), (13, .keep), (17, .keep)]
  | 198, 2 => [(0, .keep), (1, .keep), (7, .keep), (8, .keep)]
  | 200, 38 => [(175, .keep)]
  | 200, 1 => [(0, .keep), (1, .keep), (7, .keep), (8, .keep), (9, .keep), (14, .keep), (15, .keep)]
  | 200, 5 => [(0, .keep), (1, .keep), (7, .keep), (8, .keep), (9, .keep), (10, .keep), (14, .keep), (15, .keep)]
  | 200, 6 => [(0, .keep), (1, .keep), (7, .keep), (8, .keep), (9, .keep), (10, .keep), (14, .keep), (15, .keep)]
  | 200, 12 => [(0, .keep), (1, .keep), (7, .keep), (8, .keep), (9, .keep), (10, .keep), (12, .keep), (14, .keep), (15, .keep)]
  | 200, 23 => [(0, .keep), (7, .keep), (8, .keep), (9, .keep), (14, .keep), (15, .keep)]
  | 200, 25 => [(0, .keep), (7, .keep), (8, .keep), (9, .keep), (14, .keep), (15, .keep)]
  | 200, 29 => [(0, .keep), (7, .keep), (8, .keep), (9, .keep), (14, .keep), (15, .keep), (16, .keep)]
  | 202, 3 => [(0, .keep), (4, .keep), (5, .keep)]
  | 202, 8 => [(4, .keep), (6, .keep), (7, .keep), (8, .keep)]
  | _, _ => []
def primT : FuncId → Option (List V1 → Heap → Option (AV × Heap))
  | 135 => some pTrim
  | 172 => some pIndex
  | _ => none
def extpT : FuncId → Option (List V1 → Heap → Option (AV × Heap))
  | 106 => some pIndexB
  | _ => none
def extT : FuncId → List Value → Option Value
  | 171, vs => eCount vs
  | 199, vs => eIndexByte vs
  | _, _ => none
def tabT : Nat → Option (IntKind × List Int)
  | 5 => some (.u64, [1, 10, 100, 1000, 10000, 100000, 1000000, 10000000, 100000000, 1000000000, 10000000000, 100000000000, 1000000000000, 10000000000000, 100000000000000, 1000000000000000, 10000000000000000, 100000000000000000, 1000000000000000000, 10000000000000000000])
  | 6 => some (.u8, [0, 1, 28, 2, 29, 14, 24, 3, 30, 22, 20, 15, 25, 17, 4, 8, 31, 27, 13, 23, 21, 19, 16, 7, 26, 12, 18, 6, 11, 5, 10, 9])
  | 7 => some (.u8, [0, 1, 56, 2, 57, 49, 28, 3, 61, 58, 42, 50, 38, 29, 17, 4, 62, 47, 59, 36, 45, 43, 51, 22, 53, 39, 33, 30, 24, 18, 12, 5, 63, 55, 48, 27, 60, 41, 37, 16, 46, 35, 44, 21, 52, 32, 23, 11, 54, 26, 40, 15, 34, 20, 31, 10, 25, 14, 19, 9, 13, 8, 7, 6])
  | _ => none
noncomputable def E0 (m : Int) : Env := { P := Tryz.prog, live := live, hard := fun s => s == "control.go:44" || s == "hop.go:41" || s == "law.go:24" || s == "message.go:122" || s == "outright.go:223" || s == "outright.go:229" || s == "policy.go:99" || s == "slices.go:362" || s == "slices.go:428" || s == "slices.go:504" || s == "text.go:39", row := fun s => s == "bytes.go:1395" || s == "fault.go:31" || s == "law.go:93", ext := extT, base := tabBase tabT 0 m, glob := tabGlob tabT, hand := fun f => false, prim := primT, extp := extpT }
theorem pIndex_ok (m : Int) : CallP (E0 m) 172 pIndex := by
  refine prim_ok ?_
  intro args hp v h' hh
  unfold pIndex at hh
  split at hh
  · rename_i s t
    split at hh
    · rename_i hs
      simp only [Option.some.injEq, Prod.mk.injEq] at hh
      obtain ⟨rfl, rfl⟩ := hh
      refine ⟨rfl, [.string s, .string t], _, rfl, fun G => .sc _ rfl, fun w hw => ?_⟩
      refine (Tryz.stringslite_Index s t m w hs (hw 0 0 _ (by simp [E0, tabBase, tabT]))).mono ?_
      rintro e w' ⟨rfl, rfl⟩
      exact ⟨rfl, Go.RowKit.Below.refl _ _⟩
    · cases hh
  · cases hh
theorem pTrim_ok (m : Int) : CallP (E0 m) 135 pTrim := by
  refine prim_ok ?_
  intro args hp v h' hh
  unfold pTrim at hh
  split at hh
  · rename_i s t
    split at hh
    · rename_i hc
      simp only [Option.some.injEq, Prod.mk.injEq] at hh
      obtain ⟨rfl, rfl⟩ := hh
      refine ⟨rfl, [.string s, .string t], _, rfl, fun G => .sc _ rfl, fun w hw => ?_⟩
      refine (Tryz.strings_Trim_ascii s t w hc.1 hc.2.1 (asciiB_ok hc.2.2)).mono ?_
      rintro e w' ⟨rfl, hb⟩
      exact ⟨rfl, hb⟩
    · cases hh
  · cases hh
theorem x106_ok (m : Int) : ExtP (E0 m) 106 pIndexB :=
  pIndexB_ok fun args w => run_callFunc_extern Tryz.func106 (by kernel_rfl) (by kernel_rfl) (by kernel_rfl) (e := Extern.BytealgIndexByte.indexByte) (by kernel_rfl) args w
theorem ext_ok (g : FuncId) (vs : List Value) (r : Value) (h : extT g vs = some r) (w : World) : (callFunc g vs.toArray).run Tryz.prog w = .ok (.value r) w := by
  unfold extT at h
  split at h
  · exact eCount_ok (fun args w => run_callFunc_extern Tryz.func171 (by kernel_rfl) (by kernel_rfl) (by kernel_rfl) (e := Extern.BytealgCount.count) (by kernel_rfl) args w) _ _ h w
  · exact eIndexByte_ok (fun args w => run_callFunc_extern Tryz.func199 (by kernel_rfl) (by kernel_rfl) (by kernel_rfl) (e := Extern.BytealgIndexByte.indexByte) (by kernel_rfl) args w) _ _ h w
  · cases h
theorem prim_all (m : Int) (g : FuncId) (p) (h : primT g = some p) : CallP (E0 m) g p := by
  unfold primT at h
  split at h
  · cases h; exact pTrim_ok m
  · cases h; exact pIndex_ok m
  · cases h
theorem extp_all (m : Int) (g : FuncId) (p) (h : extpT g = some p) : ExtP (E0 m) g p := by
  unfold extpT at h
  split at h
  · cases h; exact x106_ok m
  · cases h
theorem E0ok (m : Int) : EnvOk (E0 m) := ⟨ext_ok, prim_all m, fun g cs h => tab_glob (T := tabT) (g0 := 0) (m := m) g cs h, extp_all m⟩
theorem cellM (W : World) (h : W.ShapedOpen Tryz.prog) : ∃ m, W.cell? ⟨0, 0, none⟩ = some (.int .i64 m) := Tryz.laysM219.s1_3 W h
theorem base_ok (m : Int) (W : World) (hm : W.cell? ⟨0, 0, none⟩ = some (.int .i64 m)) (hT : ∀ g k l, tabT g = some (k, l) → ∀ (i : Nat) x, l[i]? = some x → W.cell? ⟨g, i, none⟩ = some (.int k x)) : ∀ b i v, (E0 m).base b i = some v → W.cell? ⟨b, i, none⟩ = some v := by
  intro b i v h
  have h2 : tabBase tabT 0 m b i = some v := h
  unfold tabBase at h2
  split at h2
  · rename_i p hp
    simp only [Option.map_eq_some_iff] at h2
    obtain ⟨x, hx, rfl⟩ := h2
    exact hT b p.1 p.2 hp i x hx
  · by_cases e : b = 0 ∧ i = 0
    · rw [if_pos e] at h2
      obtain ⟨rfl, rfl⟩ := e
      rw [hm, ← h2]
    · rw [if_neg e] at h2
      cases h2
end Go.Proofs.YtchlmpfflddogaaGreatDoor
