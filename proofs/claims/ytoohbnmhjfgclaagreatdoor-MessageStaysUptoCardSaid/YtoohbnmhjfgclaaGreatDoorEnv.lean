/- The evaluator's surroundings for this program: which slots live at a loop's head; functions of the library by their contracts. -/
import Derived.Test.YtoohbnmhjfgclaaGreatDoorProg
import Derived.Test.YtoohbnmhjfgclaaGreatDoorShelf
import Derived.KernelRfl
import Derived.Test.YtoohbnmhjfgclaaGreatDoorEv8
set_option linter.unusedVariables false
set_option linter.unusedSimpArgs false
set_option maxRecDepth 100000
namespace Go.Proofs.YtoohbnmhjfgclaaGreatDoor
open Go Go.Ab
def live : FuncId → Nat → List (Nat × Co)
  | 3, 8 => [(0, .keep), (7, .keep), (8, .keep), (14, .keep), (20, .keep), (84, .keep), (85, .keep)]
  | 3, 13 => [(0, .keep), (7, .keep), (14, .keep), (20, .keep), (98, .keep), (99, .keep)]
  | 4, 6 => [(3, .own), (4, .own), (16, .keep), (17, .keep), (18, .keep)]
  | 4, 14 => [(3, .keep), (40, .keep), (41, .keep), (42, .keep)]
  | 8, 4 => [(44, .keep), (45, .keep), (46, .keep)]
  | 22, 18 => [(7, .keep), (8, .keep), (9, .keep), (10, .keep)]
  | 28, 2 => [(0, .keep), (5, .keep)]
  | 29, 3 => [(0, .keep), (6, .own), (7, .keep)]
  | 37, 6 => [(0, .keep), (6, .keep), (7, .keep), (8, .keep)]
  | 39, 4 => [(0, .keep), (1, .keep), (5, .keep)]
  | 41, 2 => [(0, .keep), (1, .keep), (2, .keep), (3, .keep), (16, .keep), (17, .keep), (18, .keep)]
  | 42, 4 => [(0, .keep), (1, .keep), (12, .keep), (13, .keep)]
  | 47, 1 => [(0, .keep), (5, .keep), (6, .own), (7, .keep), (8, .keep), (9, .keep)]
  | 53, 1 => [(0, .keep), (5, .keep), (6, .keep), (9, .keep)]
  | 55, 3 => [(0, .keep), (3, .keep), (4, .keep)]
  | 55, 8 => [(0, .keep), (3, .keep), (4, .keep), (5, .keep), (6, .keep), (7, .keep)]
  | 56, 2 => [(0, .keep), (3, .keep)]
  | 57, 5 => [(0, .keep), (5, .own), (6, .keep), (7, .keep), (8, .keep), (9, .keep), (10, .keep)]
  | 58, 15 => [(5, .keep), (9, .keep), (10, .keep), (11, .keep)]
  | 61, 3 => [(0, .keep), (5, .own), (6, .keep)]
  | 61, 4 => [(0, .keep), (5, .keep), (6, .keep), (7, .keep)]
  | 64, 2 => [(0, .keep), (3, .keep)]
  | 73, 3 => [(0, .keep), (3, .keep), (9, .keep), (10, .keep), (11, .keep)]
  | 73, 11 => [(6, .own), (25, .keep), (26, .keep), (27, .keep)]
  | 83, 11 => [(0, .keep), (1, .keep), (2, .keep), (3, .keep), (9, .keep), (10, .keep)]
  | 84, 3 => [(1, .keep), (5, .own), (8, .keep), (9, .keep), (10, .keep)]
  | 92, 2 => [(0, .keep), (3, .keep), (4, .keep)]
  | 92, 4 => [(0, .keep), (3, .keep), (4, .keep)]
  | 93, 4 => [(0, .keep), (1, .keep), (6, .own), (7, .keep), (8, .keep)]
  | 96, 5 => [(0, .keep), (4, .keep)]
  | 97, 10 => [(5, .keep), (6, .keep), (47, .keep), (48, .keep), (49, .keep)]
  | 105, 3 => [(3, .keep), (8, .keep), (9, .keep), (10, .keep)]
  | 108, 3 => [(3, .own), (6, .keep), (7, .keep), (8, .keep)]
  | 114, 6 => [(0, .keep), (1, .keep), (6, .keep), (7, .keep)]
  | 115, 6 => [(0, .keep), (1, .keep), (5, .keep)]
  | 117, 2 => [(1, .keep), (10, .keep), (11, .keep), (12, .keep)]
  | 117, 5 => [(1, .keep), (10, .keep), (11, .keep), (12, .keep), (17, .keep), (18, .keep), (19, .keep)]
  | 125, 4 => [(0, .keep), (3, .own), (4, .keep), (5, .keep)]
  | 126, 3 => [(0, .keep), (3, .own), (4, .keep)]
  | 127, 4 => [(0, .keep), (1, .keep), (6, .keep)]
  | 127, 8 => [(0, .keep), (1, .keep)]
  | 127, 14 => [(0, .keep), (1, .keep), (7, .keep), (8, .keep)]
  | 136, 2 => [(0, .keep), (1, .keep), (7, .keep), (8, .keep)]
  | 137, 2 => [(0, .keep), (1, .keep), (7, .keep), (8, .keep)]
  | 140, 1 => [(0, .keep), (1, .keep)]
  | 141, 1 => [(0, .keep), (1, .keep)]
  | 142, 2 => [(0, .keep), (2, .keep), (4, .keep)]
  | 143, 1 => [(0, .keep), (1, .keep)]
  | 144, 1 => [(0, .keep), (1, .keep)]
  | 145, 1 => [(0, .keep), (1, .keep)]
  | 146, 1 => [(0, .keep), (1, .keep)]
  | 147, 2 => [(2, .keep), (4, .keep)]
  | 150, 15 => [(0, .keep), (1, .keep), (5, .keep), (6, .keep), (7, .keep), (8, .keep), (9, .keep), (10, .keep)]
  | 151, 5 => [(1, .keep), (3, .keep), (5, .keep), (6, .keep), (7, .keep), (12, .keep)]
  | 152, 5 => [(1, .keep), (2, .keep), (8, .keep), (9, .keep), (16, .keep)]
  | 156, 2 => [(0, .keep), (1, .keep)]
  | 158, 36 => [(1, .keep), (8, .keep), (9, .keep), (10, .keep), (11, .keep), (12, .keep), (13, .keep), (99, .keep), (100, .keep), (101, .keep)]
  | 165, 1 => [(0, .keep), (1, .keep), (4, .keep)]
  | 166, 11 => [(0, .keep), (1, .keep), (3, .keep), (4, .keep), (10, .keep), (11, .keep), (12, .keep), (13, .keep), (14, .keep), (15, .keep), (16, .keep)]
  | 166, 18 => [(0, .keep), (1, .keep), (3, .keep), (4, .keep), (10, .keep), (11, .keep), (12, .keep), (13, .keep), (17, .keep)]
  | 169, 10 => [(0, .keep), (4, .keep), (5, .keep), (6, .keep)]
  | 173, 5 => [(0, .keep), (1, .keep), (5, .keep), (6, .keep), (7, .keep), (8, .keep), (9, .keep)]
  | 173, 11 => [(0, .keep), (1, .keep), (5, .keep), (6, .keep), (7, .keep), (8, .keep), (10, .keep)]
  | 176, 10 => [(0, .keep), (3, .keep), (4, .keep), (5, .keep)]
  | 182, 38 => [(175, .keep)]
  | 182, 1 => [(0, .keep), (1, .keep), (7, .keep), (8, .keep), (9, .keep), (14, .keep), (15, .keep)]
  | 182, 5 => [(0, .keep), (1, .keep), (7, .keep), (8, .keep), (9, .keep), (10, .keep), (14, .keep), (15, .keep)]
  | 182, 6 => [(0, .keep), (1, .keep), (7, .keep), (8, .keep), (9, .keep), (10, .keep), (14, .keep), (15, .keep)]
  | 182, 12 => [(0, .keep), (1, .keep), (7, .keep), (8, .keep), (9, .keep), (10, .keep), (12, .keep), (14, .keep), (15, .keep)]
  | 182, 23 => [(0, .keep), (7, .keep), (8, .keep), (9, .keep), (14, .keep), (15, .keep)]
  | 182, 25 => [(0, .keep), (7, .keep), (8, .keep), (9, .keep), (14, .keep), (15, .keep)]
  | 182, 29 => [(0, .keep), (7, .keep), (8, .keep), (9, .keep), (14, .keep), (15, .keep), (16, .keep)]
  | 184, 3 => [(0, .keep), (4, .keep), (5, .keep)]
  | 184, 8 => [(4, .keep), (6, .keep), (7, .keep), (8, .keep)]
  | _, _ => []
def primT : FuncId → Option (List V1 → Heap → Option (AV × Heap))
  | 48 => some pSplit
  | 62 => some pSplitN
  | 63 => some pAtoi
  | 74 => some pItoa
  | 113 => some pTrim
  | 150 => some pIndex
  | _ => none
def extpT : FuncId → Option (List V1 → Heap → Option (AV × Heap))
  | 45 => some pNoZero
  | 78 => some pIndexB
  | _ => none
def extT : FuncId → List Value → Option Value
  | 149, vs => eCount vs
  | 161, vs => eIndexByte vs
  | _, _ => none
def tabT : Nat → Option (IntKind × List Int)
  | 3 => some (.u64, [1, 10, 100, 1000, 10000, 100000, 1000000, 10000000, 100000000, 1000000000, 10000000000, 100000000000, 1000000000000, 10000000000000, 100000000000000, 1000000000000000, 10000000000000000, 100000000000000000, 1000000000000000000, 10000000000000000000])
  | 6 => some (.u8, [0, 1, 28, 2, 29, 14, 24, 3, 30, 22, 20, 15, 25, 17, 4, 8, 31, 27, 13, 23, 21, 19, 16, 7, 26, 12, 18, 6, 11, 5, 10, 9])
  | 7 => some (.u8, [0, 1, 56, 2, 57, 49, 28, 3, 61, 58, 42, 50, 38, 29, 17, 4, 62, 47, 59, 36, 45, 43, 51, 22, 53, 39, 33, 30, 24, 18, 12, 5, 63, 55, 48, 27, 60, 41, 37, 16, 46, 35, 44, 21, 52, 32, 23, 11, 54, 26, 40, 15, 34, 20, 31, 10, 25, 14, 19, 9, 13, 8, 7, 6])
  | _ => none
def blkT : Nat → Option (Array Value → Prop)
  | 3 => some fun vs => vs = (Lib.pow10Tab.map fun z => Value.int .u64 z).toArray
  | 1 => some fun vs => ∃ tp p, vs = #[.iface tp p]
  | 2 => some fun vs => ∃ tp p, vs = #[.iface tp p]
  | _ => none
def hardT : String → Bool := fun s => s == "head.go:149" || s == "message.go:122" || s == "slices.go:362" || s == "slices.go:428" || s == "slices.go:504" || s == "text.go:39"
def aownT : String → Bool := fun s => s == "text.go:53"
def rowT : String → Bool := fun s => s == "bytes.go:1395" || s == "law.go:26" || s == "outright.go:123" || s == "outright.go:19" || s == "outright.go:34" || s == "outright.go:63" || s == "slices.go:362"
def nwT : String → Bool := fun s => s == "law.go:14" || s == "law.go:15" || s == "law.go:16" || s == "message.go:131" || s == "outright.go:113" || s == "outright.go:123" || s == "outright.go:124" || s == "outright.go:125"
noncomputable def E0 (m : Int) : Env := { P := Tryz.prog, live := live, hard := hardT, row := rowT, ext := extT, base := tabBase tabT 0 m, glob := tabGlob tabT, hand := fun f => f == 71 || f == 110, plain := fun f => f == 47 || f == 52 || f == 53, prim := primT, extp := extpT, nw := nwT, aown := aownT, blk := blkT }
theorem pIndex_ok (m : Int) : CallP (E0 m) 150 pIndex := by
  refine prim_ok ?_
  intro args hp v h' hh
  unfold pIndex at hh
  split at hh
  · rename_i s t
    split at hh
    · rename_i hs
      simp only [Option.some.injEq, Prod.mk.injEq] at hh
      obtain ⟨rfl, rfl⟩ := hh
      refine ⟨rfl, [.string s, .string t], _, rfl, fun G => .sc _ rfl, fun w hw => ?_⟩
      refine (Tryz.stringslite_Index s t m w hs (hw 0 0 _ (by simp [E0, tabBase, tabT]))).mono ?_
      rintro e w' ⟨rfl, rfl⟩
      exact ⟨rfl, Go.RowKit.Below.refl _ _⟩
    · cases hh
  · cases hh
theorem pTrim_ok (m : Int) : CallP (E0 m) 113 pTrim := by
  refine prim_ok ?_
  intro args hp v h' hh
  unfold pTrim at hh
  split at hh
  · rename_i s t
    split at hh
    · rename_i hc
      simp only [Option.some.injEq, Prod.mk.injEq] at hh
      obtain ⟨rfl, rfl⟩ := hh
      refine ⟨rfl, [.string s, .string t], _, rfl, fun G => .sc _ rfl, fun w hw => ?_⟩
      refine (Tryz.strings_Trim_ascii s t w hc.1 hc.2.1 (asciiB_ok hc.2.2)).mono ?_
      rintro e w' ⟨rfl, hb⟩
      exact ⟨rfl, hb⟩
    · cases hh
  · cases hh
theorem pSplit_ok (m : Int) : CallP (E0 m) 48 pSplit :=
  Go.Ab.pSplit_ok (t := 9) fun s sep w hw hs h1 => Tryz.strings_Split s sep m w hs (hw.1 0 0 _ (by simp [E0, tabBase, tabT])) h1
theorem pSplitN_ok (m : Int) : CallP (E0 m) 62 pSplitN :=
  Go.Ab.pSplitN_ok (t := 9) fun s sep n w hw hs h1 h2 h3 => Tryz.strings_SplitN s sep n m w hs (hw.1 0 0 _ (by simp [E0, tabBase, tabT])) h1 h2 h3
theorem pItoa_ok (m : Int) : CallP (E0 m) 74 pItoa :=
  Go.Ab.pItoa_ok fun n w hw h0 h1 => (Tryz.strconv_Itoa n h0 h1 w (blk_tab (E := E0 m) hw (n := "internal/strconv.uint64pow10") (g := 3) (show Tryz.prog.globalNamed "internal/strconv.uint64pow10" = some 3 by kernel_rfl) rfl)).mono (by rintro e w' ⟨rfl, k, os, rfl⟩; exact ⟨rfl, below_grow w k os⟩)
theorem pAtoi_ok (m : Int) : CallP (E0 m) 63 pAtoi :=
  Go.Ab.pAtoi_ok (fun s v w hs h => (Tryz.strconv_Atoi_ok s (by omega) v h w).mono (by rintro e w' ⟨rfl, rfl | ⟨t, rfl⟩⟩; exact ⟨rfl, Go.RowKit.Below.refl _ _⟩; exact ⟨rfl, Lib.bytesWorld_below _ _ _⟩))
    (fun s w hw hs h => by
      obtain ⟨tp, p, hc⟩ := blk_err (E := E0 m) hw (g := 1) rfl
      refine (Tryz.strconv_Atoi_syntax s hs h _ w hc (.inr ⟨tp, p, rfl⟩)).mono ?_
      rintro e w' ⟨N, rfl, _, _, hb⟩
      exact ⟨⟨_, _, rfl⟩, hb⟩)
    (fun s w hw hs h => by
      obtain ⟨tp, p, hc⟩ := blk_err (E := E0 m) hw (g := 2) rfl
      refine (Tryz.strconv_Atoi_range s hs h _ w hc (.inr ⟨tp, p, rfl⟩)).mono ?_
      rintro e w' ⟨N, rfl, _, _, hb⟩
      exact ⟨⟨_, _, rfl⟩, hb⟩)
theorem x45_ok (m : Int) : ExtP (E0 m) 45 pNoZero :=
  pNoZero_ok (ps := #[3]) (fn := Tryz.f45) Tryz.underlying22 fun args w => run_callFunc_extern Tryz.func45 (by kernel_rfl) (by kernel_rfl) (by kernel_rfl) (e := Extern.BytealgMakeNoZero.makeNoZero #[3] #[22]) (by kernel_rfl) args w
theorem x78_ok (m : Int) : ExtP (E0 m) 78 pIndexB :=
  pIndexB_ok fun args w => run_callFunc_extern Tryz.func78 (by kernel_rfl) (by kernel_rfl) (by kernel_rfl) (e := Extern.BytealgIndexByte.indexByte) (by kernel_rfl) args w
theorem ext_ok (g : FuncId) (vs : List Value) (r : Value) (h : extT g vs = some r) (w : World) : (callFunc g vs.toArray).run Tryz.prog w = .ok (.value r) w := by
  unfold extT at h
  split at h
  · exact eCount_ok (fun args w => run_callFunc_extern Tryz.func149 (by kernel_rfl) (by kernel_rfl) (by kernel_rfl) (e := Extern.BytealgCount.count) (by kernel_rfl) args w) _ _ h w
  · exact eIndexByte_ok (fun args w => run_callFunc_extern Tryz.func161 (by kernel_rfl) (by kernel_rfl) (by kernel_rfl) (e := Extern.BytealgIndexByte.indexByte) (by kernel_rfl) args w) _ _ h w
  · cases h
theorem prim_all (m : Int) (g : FuncId) (p) (h : primT g = some p) : CallP (E0 m) g p := by
  unfold primT at h
  split at h
  · cases h; exact pSplit_ok m
  · cases h; exact pSplitN_ok m
  · cases h; exact pAtoi_ok m
  · cases h; exact pItoa_ok m
  · cases h; exact pTrim_ok m
  · cases h; exact pIndex_ok m
  · cases h
theorem extp_all (m : Int) (g : FuncId) (p) (h : extpT g = some p) : ExtP (E0 m) g p := by
  unfold extpT at h
  split at h
  · cases h; exact x45_ok m
  · cases h; exact x78_ok m
  · cases h
theorem E0ok (m : Int) : EnvOk (E0 m) := ⟨ext_ok, prim_all m, fun g cs h => tab_glob (T := tabT) (g0 := 0) (m := m) g cs h, extp_all m⟩
theorem cellM (W : World) (h : W.ShapedOpen Tryz.prog) : ∃ m, W.cell? ⟨0, 0, none⟩ = some (.int .i64 m) := Tryz.laysM219.s1_3 W h
theorem base_ok (m : Int) (W : World) (hm : W.cell? ⟨0, 0, none⟩ = some (.int .i64 m)) (hT : ∀ g k l, tabT g = some (k, l) → ∀ (i : Nat) x, l[i]? = some x → W.cell? ⟨g, i, none⟩ = some (.int k x)) : ∀ b i v, (E0 m).base b i = some v → W.cell? ⟨b, i, none⟩ = some v := by
  intro b i v h
  have h2 : tabBase tabT 0 m b i = some v := h
  unfold tabBase at h2
  split at h2
  · rename_i p hp
    simp only [Option.map_eq_some_iff] at h2
    obtain ⟨x, hx, rfl⟩ := h2
    exact hT b p.1 p.2 hp i x hx
  · by_cases e : b = 0 ∧ i = 0
    · rw [if_pos e] at h2
      obtain ⟨rfl, rfl⟩ := e
      rw [hm, ← h2]
    · rw [if_neg e] at h2
      cases h2
end Go.Proofs.YtoohbnmhjfgclaaGreatDoor
