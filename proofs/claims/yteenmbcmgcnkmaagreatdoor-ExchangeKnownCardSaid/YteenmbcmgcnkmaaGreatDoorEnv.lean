/- The evaluator's surroundings for this program: which slots live at a loop's head; functions of the library by their contracts. -/
import Derived.Test.YteenmbcmgcnkmaaGreatDoorProg
import Derived.Test.YteenmbcmgcnkmaaGreatDoorShelf
import Derived.KernelRfl
import Derived.Test.YteenmbcmgcnkmaaGreatDoorAb33
set_option linter.unusedVariables false
set_option linter.unusedSimpArgs false
set_option maxRecDepth 100000
namespace Go.Proofs.YteenmbcmgcnkmaaGreatDoor
open Go Go.Ab
def live : FuncId → Nat → List (Nat × Co)
  | 3, 7 => [(1, .keep), (3, .keep), (4, .keep), (8, .keep), (54, .keep), (55, .keep)]
  | 4, 7 => [(1, .keep), (3, .keep), (4, .keep), (8, .keep), (65, .keep), (66, .keep)]
  | 5, 9 => [(1, .keep), (5, .keep), (8, .keep), (9, .keep), (85, .keep), (86, .keep), (87, .keep)]
  | 5, 16 => [(1, .keep), (5, .keep), (8, .keep), (9, .keep), (11, .keep), (12, .keep), (85, .keep), (86, .keep), (87, .keep), (105, .keep), (106, .keep), (107, .keep)]
  | 5, 23 => [(1, .keep), (5, .keep), (8, .keep), (9, .keep), (11, .keep), (85, .keep), (86, .keep), (87, .keep)]
  | 5, 31 => [(5, .keep), (8, .keep), (15, .keep), (156, .keep), (157, .keep), (158, .keep)]
  | 6, 9 => [(1, .keep), (3, .keep), (5, .keep), (7, .keep), (66, .keep), (67, .keep), (68, .keep)]
  | 6, 16 => [(1, .keep), (3, .keep), (5, .keep), (7, .keep), (108, .keep), (109, .keep), (110, .keep)]
  | 8, 5 => [(1, .keep), (30, .keep)]
  | 9, 8 => [(1, .keep), (2, .keep), (7, .keep), (56, .keep), (57, .keep), (58, .keep)]
  | 9, 16 => [(1, .keep), (2, .keep), (7, .keep), (15, .keep), (56, .keep), (57, .keep), (58, .keep), (125, .keep), (126, .keep), (127, .keep)]
  | 10, 3 => [(2, .keep), (3, .keep), (4, .keep), (8, .keep), (20, .keep), (21, .keep), (22, .keep)]
  | 16, 4 => [(1, .keep), (2, .keep), (3, .keep), (6, .keep), (8, .keep), (9, .keep), (10, .keep)]
  | 25, 2 => [(0, .keep), (7, .keep), (8, .keep), (9, .keep)]
  | 28, 3 => [(5, .keep), (10, .keep), (11, .keep), (12, .keep)]
  | 35, 3 => [(0, .keep), (3, .keep), (4, .keep)]
  | 38, 2 => [(0, .keep), (7, .keep), (8, .keep), (9, .keep)]
  | 48, 3 => [(2, .keep), (3, .keep), (4, .keep), (6, .keep), (7, .keep), (8, .keep)]
  | 49, 4 => [(0, .keep), (1, .keep), (5, .keep)]
  | 50, 4 => [(0, .keep), (1, .keep), (12, .keep), (13, .keep)]
  | 54, 6 => [(0, .keep), (4, .keep), (5, .keep), (6, .keep)]
  | 54, 13 => [(0, .keep), (4, .keep), (5, .keep), (6, .keep), (8, .keep)]
  | 66, 3 => [(0, .keep), (3, .keep), (4, .keep)]
  | 69, 4 => [(4, .keep), (5, .keep), (11, .keep), (12, .keep), (13, .keep)]
  | 71, 4 => [(5, .keep), (6, .keep), (10, .keep), (11, .keep), (12, .keep)]
  | 72, 3 => [(1, .keep), (5, .keep), (8, .keep), (9, .keep), (10, .keep)]
  | 73, 5 => [(1, .keep), (3, .keep), (5, .keep), (6, .keep), (7, .keep), (12, .keep)]
  | 74, 13 => [(5, .keep), (10, .keep), (11, .keep)]
  | 76, 5 => [(4, .keep), (5, .keep), (6, .keep), (7, .keep)]
  | 76, 12 => [(4, .keep), (5, .keep), (6, .keep), (7, .keep), (8, .keep), (9, .keep), (10, .keep)]
  | 78, 3 => [(0, .keep), (1, .keep), (5, .keep), (6, .keep)]
  | 78, 7 => [(0, .keep), (1, .keep), (5, .keep), (6, .keep), (7, .keep), (8, .keep), (9, .keep)]
  | 90, 5 => [(0, .keep), (1, .keep), (5, .keep), (6, .keep)]
  | 97, 3 => [(0, .keep), (3, .keep), (8, .keep), (9, .keep), (10, .keep)]
  | 98, 6 => [(3, .keep), (4, .keep), (25, .keep), (26, .keep), (27, .keep)]
  | 100, 2 => [(0, .keep), (1, .keep), (2, .keep), (3, .keep), (16, .keep), (17, .keep), (18, .keep)]
  | 101, 4 => [(0, .keep), (3, .keep), (4, .keep), (5, .keep)]
  | 101, 7 => [(0, .keep), (3, .keep), (4, .keep), (5, .keep), (6, .keep)]
  | 102, 6 => [(0, .keep), (3, .keep), (4, .keep), (5, .keep)]
  | 102, 15 => [(0, .keep), (3, .keep), (4, .keep), (5, .keep), (6, .keep), (7, .keep), (8, .keep)]
  | 105, 3 => [(0, .keep), (1, .keep), (2, .keep), (3, .keep), (10, .keep), (11, .keep)]
  | 106, 3 => [(0, .keep), (1, .keep), (5, .keep), (6, .keep)]
  | 109, 5 => [(4, .keep), (5, .keep), (6, .keep)]
  | 109, 8 => [(4, .keep), (5, .keep), (6, .keep), (7, .keep), (8, .keep)]
  | 111, 4 => [(0, .keep), (3, .keep), (4, .keep), (5, .keep)]
  | 115, 3 => [(0, .keep), (1, .keep), (5, .keep), (6, .keep)]
  | 122, 1 => [(0, .keep), (5, .keep), (6, .keep), (7, .keep), (8, .keep), (9, .keep)]
  | 127, 1 => [(0, .keep), (5, .keep), (6, .keep), (9, .keep)]
  | 143, 3 => [(3, .keep), (8, .keep), (9, .keep), (10, .keep)]
  | 145, 12 => [(0, .keep), (1, .keep), (5, .keep), (39, .keep), (40, .keep), (41, .keep)]
  | 145, 22 => [(1, .keep), (8, .keep), (63, .keep), (64, .keep), (65, .keep)]
  | 148, 3 => [(0, .keep), (3, .keep), (4, .keep)]
  | 149, 4 => [(0, .keep), (2, .keep), (3, .keep), (4, .keep), (5, .keep)]
  | 149, 26 => [(0, .keep), (2, .keep), (3, .keep), (10, .keep)]
  | 149, 32 => [(2, .keep), (3, .keep), (11, .keep), (12, .keep)]
  | 150, 3 => [(0, .keep), (3, .keep), (4, .keep)]
  | 151, 4 => [(2, .keep), (3, .keep), (4, .keep), (5, .keep)]
  | 153, 3 => [(0, .keep), (1, .keep), (5, .keep), (6, .keep)]
  | 154, 3 => [(0, .keep), (3, .keep), (4, .keep)]
  | 156, 11 => [(5, .keep), (7, .keep)]
  | 158, 15 => [(5, .keep), (9, .keep), (10, .keep), (11, .keep)]
  | 164, 4 => [(0, .keep), (1, .keep), (6, .keep)]
  | 175, 5 => [(0, .keep), (1, .keep), (5, .keep), (6, .keep)]
  | 176, 2 => [(0, .keep), (1, .keep), (7, .keep), (8, .keep)]
  | 177, 2 => [(0, .keep), (1, .keep), (7, .keep), (8, .keep)]
  | 195, 3 => [(0, .keep), (3, .keep), (9, .keep), (10, .keep), (11, .keep)]
  | 195, 11 => [(6, .keep), (25, .keep), (26, .keep), (27, .keep)]
  | 196, 4 => [(0, .keep), (3, .keep), (4, .keep), (5, .keep)]
  | 197, 3 => [(0, .keep), (3, .keep), (4, .keep)]
  | 198, 5 => [(0, .keep), (3, .keep), (4, .keep)]
  | 201, 2 => [(0, .keep), (3, .keep)]
  | 202, 3 => [(0, .keep), (6, .keep), (7, .keep)]
  | 203, 3 => [(0, .keep), (3, .keep), (4, .keep)]
  | 204, 5 => [(0, .keep), (4, .keep), (5, .keep)]
  | 209, 3 => [(0, .keep), (1, .keep), (5, .keep), (6, .keep)]
  | 209, 7 => [(0, .keep), (1, .keep), (5, .keep), (6, .keep), (7, .keep), (8, .keep)]
  | 211, 6 => [(0, .keep), (6, .keep), (7, .keep), (8, .keep)]
  | 216, 11 => [(0, .keep), (1, .keep), (2, .keep), (3, .keep), (9, .keep), (10, .keep)]
  | 222, 3 => [(3, .keep), (11, .keep), (12, .keep), (13, .keep)]
  | 224, 3 => [(1, .keep), (5, .keep), (8, .keep), (9, .keep), (10, .keep)]
  | 225, 5 => [(0, .keep), (3, .keep), (4, .keep)]
  | 226, 5 => [(0, .keep), (3, .keep), (4, .keep)]
  | 227, 2 => [(0, .keep), (7, .keep), (8, .keep), (9, .keep)]
  | 233, 2 => [(0, .keep), (1, .keep), (7, .keep), (8, .keep)]
  | 238, 2 => [(0, .keep), (5, .keep)]
  | 239, 5 => [(0, .keep), (3, .keep), (4, .keep)]
  | 239, 10 => [(0, .keep), (3, .keep), (5, .keep)]
  | 241, 3 => [(0, .keep), (1, .keep), (5, .keep), (6, .keep)]
  | 242, 4 => [(0, .keep), (3, .keep), (4, .keep), (5, .keep)]
  | 243, 3 => [(1, .keep), (2, .keep), (5, .keep), (6, .keep)]
  | 246, 5 => [(0, .keep), (4, .keep), (5, .keep)]
  | 246, 15 => [(0, .keep), (4, .keep), (7, .keep), (8, .keep), (9, .keep), (10, .keep), (11, .keep), (12, .keep)]
  | 246, 21 => [(0, .keep), (4, .keep), (7, .keep), (8, .keep), (9, .keep), (10, .keep), (11, .keep), (13, .keep)]
  | 247, 4 => [(0, .keep), (1, .keep), (6, .keep), (7, .keep), (8, .keep)]
  | 252, 2 => [(0, .keep), (1, .keep), (7, .keep), (8, .keep)]
  | 253, 10 => [(5, .keep), (6, .keep), (47, .keep), (48, .keep), (49, .keep)]
  | 271, 3 => [(3, .keep), (6, .keep), (7, .keep), (8, .keep)]
  | 274, 3 => [(0, .keep), (3, .keep), (4, .keep)]
  | 274, 8 => [(0, .keep), (3, .keep), (4, .keep), (5, .keep), (6, .keep), (7, .keep)]
  | 275, 2 => [(0, .keep), (3, .keep)]
  | 276, 2 => [(0, .keep), (3, .keep)]
  | 277, 2 => [(0, .keep), (3, .keep), (4, .keep)]
  | 277, 4 => [(0, .keep), (3, .keep), (4, .keep)]
  | 280, 6 => [(0, .keep), (1, .keep), (6, .keep), (7, .keep)]
  | 281, 6 => [(0, .keep), (1, .keep), (5, .keep)]
  | 283, 2 => [(1, .keep), (10, .keep), (11, .keep), (12, .keep)]
  | 283, 5 => [(1, .keep), (10, .keep), (11, .keep), (12, .keep), (17, .keep), (18, .keep), (19, .keep)]
  | 292, 9 => [(0, .keep), (5, .keep), (7, .keep), (53, .keep), (54, .keep)]
  | 297, 1 => [(0, .keep), (1, .keep)]
  | 298, 1 => [(0, .keep), (1, .keep)]
  | 299, 2 => [(0, .keep), (2, .keep), (4, .keep)]
  | 300, 1 => [(0, .keep), (1, .keep)]
  | 301, 1 => [(0, .keep), (1, .keep)]
  | 302, 1 => [(0, .keep), (1, .keep)]
  | 303, 1 => [(0, .keep), (1, .keep)]
  | 304, 5 => [(0, .keep), (4, .keep), (5, .keep)]
  | 305, 2 => [(0, .keep), (1, .keep)]
  | 306, 3 => [(0, .keep), (1, .keep), (2, .keep), (7, .keep), (8, .keep)]
  | 307, 4 => [(0, .keep), (1, .keep), (6, .keep)]
  | 307, 8 => [(0, .keep), (1, .keep)]
  | 307, 14 => [(0, .keep), (1, .keep), (7, .keep), (8, .keep)]
  | 309, 5 => [(1, .keep), (2, .keep), (8, .keep), (9, .keep), (16, .keep)]
  | 317, 2 => [(0, .keep), (1, .keep), (7, .keep), (8, .keep)]
  | 319, 36 => [(1, .keep), (8, .keep), (9, .keep), (10, .keep), (11, .keep), (12, .keep), (13, .keep), (99, .keep), (100, .keep), (101, .keep)]
  | 320, 15 => [(0, .keep), (1, .keep), (5, .keep), (6, .keep), (7, .keep), (8, .keep), (9, .keep), (10, .keep)]
  | 324, 2 => [(2, .keep), (4, .keep)]
  | 328, 6 => [(4, .keep), (5, .keep), (6, .keep)]
  | 329, 3 => [(0, .keep), (3, .keep), (6, .keep), (7, .keep)]
  | 336, 10 => [(0, .keep), (4, .keep), (5, .keep), (6, .keep)]
  | 340, 1 => [(0, .keep), (1, .keep), (4, .keep)]
  | 341, 11 => [(0, .keep), (1, .keep), (3, .keep), (4, .keep), (10, .keep), (11, .keep), (12, .keep), (13, .keep), (14, .keep), (15, .keep), (16, .keep)]
  | 341, 18 => [(0, .keep), (1, .keep), (3, .keep), (4, .keep), (10, .keep), (11, .keep), (12, .keep), (13, .keep), (17, .keep)]
  | 345, 10 => [(0, .keep), (3, .keep), (4, .keep), (5, .keep)]
  | 348, 5 => [(0, .keep), (1, .keep), (5, .keep), (6, .keep), (7, .keep), (8, .keep), (9, .keep)]
  | 348, 11 => [(0, .keep), (1, .keep), (5, .keep), (6, .keep), (7, .keep), (8, .keep), (10, .keep)]
  | 351, 38 => [(175, .keep)]
  | 351, 1 => [(0, .keep), (1, .keep), (7, .keep), (8, .keep), (9, .keep), (14, .keep), (15, .keep)]
  | 351, 5 => [(0, .keep), (1, .keep), (7, .keep), (8, .keep), (9, .keep), (10, .keep), (14, .keep), (15, .keep)]
  | 351, 6 => [(0, .keep), (1, .keep), (7, .keep), (8, .keep), (9, .keep), (10, .keep), (14, .keep), (15, .keep)]
  | 351, 12 => [(0, .keep), (1, .keep), (7, .keep), (8, .keep), (9, .keep), (10, .keep), (12, .keep), (14, .keep), (15, .keep)]
  | 351, 23 => [(0, .keep), (7, .keep), (8, .keep), (9, .keep), (14, .keep), (15, .keep)]
  | 351, 25 => [(0, .keep), (7, .keep), (8, .keep), (9, .keep), (14, .keep), (15, .keep)]
  | 351, 29 => [(0, .keep), (7, .keep), (8, .keep), (9, .keep), (14, .keep), (15, .keep), (16, .keep)]
  | 358, 3 => [(0, .keep), (4, .keep), (5, .keep)]
  | 358, 8 => [(4, .keep), (6, .keep), (7, .keep), (8, .keep)]
  | _, _ => []
def primT : FuncId → Option (List V1 → Heap → Option (AV × Heap))
  | 237 => some pTrim
  | 320 => some pIndex
  | _ => none
def extpT : FuncId → Option (List V1 → Heap → Option (AV × Heap))
  | 212 => some pIndexB
  | 333 => some pNoZero
  | _ => none
def extT : FuncId → List Value → Option Value
  | 321, vs => eIndexByte vs
  | 326, vs => eCount vs
  | _, _ => none
def tabT : Nat → Option (IntKind × List Int)
  | 3 => some (.u64, [1, 10, 100, 1000, 10000, 100000, 1000000, 10000000, 100000000, 1000000000, 10000000000, 100000000000, 1000000000000, 10000000000000, 100000000000000, 1000000000000000, 10000000000000000, 100000000000000000, 1000000000000000000, 10000000000000000000])
  | 6 => some (.u8, [0, 1, 28, 2, 29, 14, 24, 3, 30, 22, 20, 15, 25, 17, 4, 8, 31, 27, 13, 23, 21, 19, 16, 7, 26, 12, 18, 6, 11, 5, 10, 9])
  | 7 => some (.u8, [0, 1, 56, 2, 57, 49, 28, 3, 61, 58, 42, 50, 38, 29, 17, 4, 62, 47, 59, 36, 45, 43, 51, 22, 53, 39, 33, 30, 24, 18, 12, 5, 63, 55, 48, 27, 60, 41, 37, 16, 46, 35, 44, 21, 52, 32, 23, 11, 54, 26, 40, 15, 34, 20, 31, 10, 25, 14, 19, 9, 13, 8, 7, 6])
  | _ => none
noncomputable def E0 (m : Int) : Env := { P := Tryz.prog, live := live, hard := fun s => s == "control.go:44" || s == "exchange.go:109" || s == "exchange.go:119" || s == "exchange.go:135" || s == "exchange.go:47" || s == "exchange.go:52" || s == "exchange.go:81" || s == "exchange.go:90" || s == "head.go:149" || s == "hop.go:41" || s == "message.go:122" || s == "policy.go:99" || s == "slices.go:362" || s == "slices.go:428" || s == "slices.go:504" || s == "text.go:39", row := fun s => s == "bytes.go:1395" || s == "exchange.go:56" || s == "fault.go:31" || s == "law.go:45" || s == "law.go:46" || s == "law.go:58" || s == "ref.go:34" || s == "slices.go:362", ext := extT, base := tabBase tabT 0 m, glob := tabGlob tabT, hand := fun f => f == 41 || f == 90 || f == 91 || f == 175 || f == 272, prim := primT, extp := extpT, nw := fun s => s == "message.go:131" || s == "outright.go:144" || s == "outright.go:146" || s == "outright.go:153" || s == "outright.go:158" }
theorem pIndex_ok (m : Int) : CallP (E0 m) 320 pIndex := by
  refine prim_ok ?_
  intro args hp v h' hh
  unfold pIndex at hh
  split at hh
  · rename_i s t
    split at hh
    · rename_i hs
      simp only [Option.some.injEq, Prod.mk.injEq] at hh
      obtain ⟨rfl, rfl⟩ := hh
      refine ⟨rfl, [.string s, .string t], _, rfl, fun G => .sc _ rfl, fun w hw => ?_⟩
      refine (Tryz.stringslite_Index s t m w hs (hw 0 0 _ (by simp [E0, tabBase, tabT]))).mono ?_
      rintro e w' ⟨rfl, rfl⟩
      exact ⟨rfl, Go.RowKit.Below.refl _ _⟩
    · cases hh
  · cases hh
theorem pTrim_ok (m : Int) : CallP (E0 m) 237 pTrim := by
  refine prim_ok ?_
  intro args hp v h' hh
  unfold pTrim at hh
  split at hh
  · rename_i s t
    split at hh
    · rename_i hc
      simp only [Option.some.injEq, Prod.mk.injEq] at hh
      obtain ⟨rfl, rfl⟩ := hh
      refine ⟨rfl, [.string s, .string t], _, rfl, fun G => .sc _ rfl, fun w hw => ?_⟩
      refine (Tryz.strings_Trim_ascii s t w hc.1 hc.2.1 (asciiB_ok hc.2.2)).mono ?_
      rintro e w' ⟨rfl, hb⟩
      exact ⟨rfl, hb⟩
    · cases hh
  · cases hh
theorem x212_ok (m : Int) : ExtP (E0 m) 212 pIndexB :=
  pIndexB_ok fun args w => run_callFunc_extern Tryz.func212 (by kernel_rfl) (by kernel_rfl) (by kernel_rfl) (e := Extern.BytealgIndexByte.indexByte) (by kernel_rfl) args w
theorem x333_ok (m : Int) : ExtP (E0 m) 333 pNoZero :=
  pNoZero_ok (ps := #[3]) (fn := Tryz.f333) Tryz.underlying23 fun args w => run_callFunc_extern Tryz.func333 (by kernel_rfl) (by kernel_rfl) (by kernel_rfl) (e := Extern.BytealgMakeNoZero.makeNoZero #[3] #[23]) (by kernel_rfl) args w
theorem ext_ok (g : FuncId) (vs : List Value) (r : Value) (h : extT g vs = some r) (w : World) : (callFunc g vs.toArray).run Tryz.prog w = .ok (.value r) w := by
  unfold extT at h
  split at h
  · exact eIndexByte_ok (fun args w => run_callFunc_extern Tryz.func321 (by kernel_rfl) (by kernel_rfl) (by kernel_rfl) (e := Extern.BytealgIndexByte.indexByte) (by kernel_rfl) args w) _ _ h w
  · exact eCount_ok (fun args w => run_callFunc_extern Tryz.func326 (by kernel_rfl) (by kernel_rfl) (by kernel_rfl) (e := Extern.BytealgCount.count) (by kernel_rfl) args w) _ _ h w
  · cases h
theorem prim_all (m : Int) (g : FuncId) (p) (h : primT g = some p) : CallP (E0 m) g p := by
  unfold primT at h
  split at h
  · cases h; exact pTrim_ok m
  · cases h; exact pIndex_ok m
  · cases h
theorem extp_all (m : Int) (g : FuncId) (p) (h : extpT g = some p) : ExtP (E0 m) g p := by
  unfold extpT at h
  split at h
  · cases h; exact x212_ok m
  · cases h; exact x333_ok m
  · cases h
theorem E0ok (m : Int) : EnvOk (E0 m) := ⟨ext_ok, prim_all m, fun g cs h => tab_glob (T := tabT) (g0 := 0) (m := m) g cs h, extp_all m⟩
theorem cellM (W : World) (h : W.ShapedOpen Tryz.prog) : ∃ m, W.cell? ⟨0, 0, none⟩ = some (.int .i64 m) := Tryz.laysM219.s1_3 W h
theorem base_ok (m : Int) (W : World) (hm : W.cell? ⟨0, 0, none⟩ = some (.int .i64 m)) (hT : ∀ g k l, tabT g = some (k, l) → ∀ (i : Nat) x, l[i]? = some x → W.cell? ⟨g, i, none⟩ = some (.int k x)) : ∀ b i v, (E0 m).base b i = some v → W.cell? ⟨b, i, none⟩ = some v := by
  intro b i v h
  have h2 : tabBase tabT 0 m b i = some v := h
  unfold tabBase at h2
  split at h2
  · rename_i p hp
    simp only [Option.map_eq_some_iff] at h2
    obtain ⟨x, hx, rfl⟩ := h2
    exact hT b p.1 p.2 hp i x hx
  · by_cases e : b = 0 ∧ i = 0
    · rw [if_pos e] at h2
      obtain ⟨rfl, rfl⟩ := e
      rw [hm, ← h2]
    · rw [if_neg e] at h2
      cases h2
end Go.Proofs.YteenmbcmgcnkmaaGreatDoor
