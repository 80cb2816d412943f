/- The evaluator's surroundings for this program: which slots live at a loop's head; functions of the library by their contracts. -/
import Derived.Test.YtbkobjepahlegaaGreatDoorProg
import Derived.Test.YtbkobjepahlegaaGreatDoorShelf
import Derived.KernelRfl
import Derived.Test.YtbkobjepahlegaaGreatDoorEv7
set_option linter.unusedVariables false
set_option linter.unusedSimpArgs false
set_option maxRecDepth 100000
namespace Go.Proofs.YtbkobjepahlegaaGreatDoor
open Go Go.Ab
def live: FuncId→Nat→List (Nat×Co)
  | 5, 30 => [(3, .keep), (4, .keep), (5, .keep), (15, .keep), (20, .keep), (21, .keep)]
  | 7, 6 => [(2, .keep), (3, .keep), (5, .keep), (8, .keep)]
  | 10, 4 => [(1, .keep), (2, .keep), (3, .keep)]
  | 10, 10 => [(2, .keep), (6, .keep)]
  | 10, 18 => [(10, .keep), (11, .keep), (12, .keep)]
  | 13, 13 => [(5, .keep), (10, .keep), (11, .keep)]
  | 14, 4 => [(0, .keep), (1, .keep), (5, .keep)]
  | 24, 4 => [(4, .own), (5, .keep), (11, .keep), (12, .keep), (13, .keep)]
  | 26, 3 => [(5, .own), (10, .keep), (11, .keep), (12, .keep)]
  | 29, 3 => [(1, .keep), (5, .own), (8, .keep), (9, .keep), (10, .keep)]
  | 31, 11 => [(5, .keep), (7, .keep)]
  | 32, 3 => [(0, .keep), (3, .keep), (4, .keep)]
  | 44, 4 => [(0, .keep), (2, .keep), (3, .keep), (4, .keep), (5, .keep)]
  | 44, 26 => [(0, .keep), (2, .keep), (3, .keep), (10, .keep)]
  | 44, 32 => [(2, .keep), (3, .keep), (11, .keep), (12, .keep)]
  | 45, 3 => [(0, .keep), (3, .keep), (4, .keep)]
  | 46, 4 => [(2, .keep), (3, .keep), (4, .keep), (5, .keep)]
  | 48, 5 => [(4, .own), (5, .keep), (6, .keep), (7, .keep)]
  | 48, 12 => [(4, .keep), (5, .keep), (6, .keep), (7, .keep), (8, .keep), (9, .keep), (10, .keep)]
  | 49, 3 => [(0, .keep), (1, .keep), (5, .own), (6, .keep)]
  | 50, 3 => [(0, .keep), (3, .keep), (4, .keep)]
  | 51, 3 => [(0, .keep), (3, .own), (4, .keep)]
  | 59, 3 => [(3, .freeze), (11, .freeze), (12, .freeze), (13, .freeze)]
  | 61, 3 => [(1, .keep), (5, .keep), (8, .keep), (9, .keep), (10, .keep)]
  | 62, 5 => [(0, .keep), (3, .keep), (4, .keep)]
  | 63, 3 => [(3, .keep), (8, .keep), (9, .keep), (10, .keep)]
  | 68, 5 => [(1, .keep), (3, .keep), (5, .keep), (6, .keep), (7, .keep), (12, .keep)]
  | 74, 3 => [(0, .keep), (1, .keep), (5, .own), (6, .keep)]
  | 76, 5 => [(0, .keep), (1, .keep), (5, .keep), (6, .keep)]
  | 81, 5 => [(0, .keep), (3, .keep), (4, .keep)]
  | 82, 2 => [(0, .keep), (7, .keep), (8, .keep), (9, .keep)]
  | 92, 2 => [(0, .keep), (5, .keep)]
  | 93, 5 => [(0, .keep), (3, .keep), (4, .keep)]
  | 93, 10 => [(0, .keep), (3, .keep), (5, .keep)]
  | 96, 4 => [(0, .keep), (3, .own), (4, .keep), (5, .keep)]
  | 99, 3 => [(1, .keep), (2, .keep), (5, .own), (6, .keep)]
  | 103, 5 => [(0, .keep), (4, .keep), (5, .keep)]
  | 103, 15 => [(0, .keep), (4, .keep), (7, .keep), (8, .keep), (9, .keep), (10, .keep), (11, .keep), (12, .keep)]
  | 103, 21 => [(0, .keep), (4, .keep), (7, .keep), (8, .keep), (9, .keep), (10, .keep), (11, .keep), (13, .keep)]
  | 104, 9 => [(0, .keep), (5, .keep), (7, .keep), (53, .keep), (54, .keep)]
  | 111, 2 => [(0, .keep), (1, .keep), (7, .keep), (8, .keep)]
  | 121, 2 => [(0, .keep), (1, .keep), (7, .keep), (8, .keep)]
  | 122, 2 => [(0, .keep), (1, .keep), (7, .keep), (8, .keep)]
  | 123, 2 => [(0, .keep), (1, .keep), (7, .keep), (8, .keep)]
  | 124, 2 => [(0, .keep), (1, .keep), (7, .keep), (8, .keep)]
  | 125, 3 => [(0, .keep), (3, .keep), (4, .keep)]
  | 125, 8 => [(0, .keep), (3, .keep), (4, .keep), (5, .keep), (6, .keep), (7, .keep)]
  | 126, 5 => [(0, .keep), (4, .own), (5, .keep)]
  | 127, 2 => [(0, .keep), (1, .keep)]
  | 128, 2 => [(0, .keep), (3, .keep), (4, .keep)]
  | 128, 4 => [(0, .keep), (3, .keep), (4, .keep)]
  | 130, 3 => [(0, .keep), (1, .keep), (2, .keep), (7, .keep), (8, .keep)]
  | 134, 3 => [(0, .keep), (3, .keep), (6, .keep), (7, .keep)]
  | 137, 5 => [(4, .keep), (5, .keep), (6, .keep)]
  | 137, 8 => [(4, .keep), (5, .keep), (6, .keep), (7, .keep), (8, .keep)]
  | 141, 6 => [(4, .own), (5, .keep), (6, .keep)]
  | 145, 15 => [(0, .keep), (1, .keep), (5, .keep), (6, .keep), (7, .keep), (8, .keep), (9, .keep), (10, .keep)]
  | 147, 2 => [(0, .keep), (1, .keep), (7, .keep), (8, .keep)]
  | 151, 5 => [(1, .keep), (2, .keep), (8, .keep), (9, .keep), (16, .keep)]
  | 153, 4 => [(0, .keep), (1, .keep), (6, .keep)]
  | 153, 8 => [(0, .keep), (1, .keep)]
  | 153, 14 => [(0, .keep), (1, .keep), (7, .keep), (8, .keep)]
  | 156, 1 => [(0, .keep), (1, .keep)]
  | 157, 1 => [(0, .keep), (1, .keep)]
  | 158, 2 => [(0, .keep), (2, .keep), (4, .keep)]
  | 159, 1 => [(0, .keep), (1, .keep)]
  | 160, 1 => [(0, .keep), (1, .keep)]
  | 161, 1 => [(0, .keep), (1, .keep)]
  | 162, 1 => [(0, .keep), (1, .keep)]
  | 166, 5 => [(0, .keep), (1, .keep), (5, .keep), (6, .keep), (7, .keep), (8, .keep), (9, .keep)]
  | 166, 11 => [(0, .keep), (1, .keep), (5, .keep), (6, .keep), (7, .keep), (8, .keep), (10, .keep)]
  | 172, 10 => [(0, .keep), (4, .keep), (5, .keep), (6, .keep)]
  | 173, 3 => [(0, .keep), (4, .keep), (5, .keep)]
  | 173, 8 => [(4, .keep), (6, .keep), (7, .keep), (8, .keep)]
  | 175, 38 => [(175, .keep)]
  | 175, 1 => [(0, .keep), (1, .keep), (7, .keep), (8, .keep), (9, .keep), (14, .keep), (15, .keep)]
  | 175, 5 => [(0, .keep), (1, .keep), (7, .keep), (8, .keep), (9, .keep), (10, .keep), (14, .keep), (15, .keep)]
  | 175, 6 => [(0, .keep), (1, .keep), (7, .keep), (8, .keep), (9, .keep), (10, .keep), (14, .keep), (15, .keep)]
  | 175, 12 => [(0, .keep), (1, .keep), (7, .keep), (8, .keep), (9, .keep), (10, .keep), (12, .keep), (14, .keep), (15, .keep)]
  | 175, 23 => [(0, .keep), (7, .keep), (8, .keep), (9, .keep), (14, .keep), (15, .keep)]
  | 175, 25 => [(0, .keep), (7, .keep), (8, .keep), (9, .keep), (14, .keep), (15, .keep)]
  | 175, 29 => [(0, .keep), (7, .keep), (8, .keep), (9, .keep), (14, .keep), (15, .keep), (16, .keep)]
  | _, _ => []
def primT: FuncId→Option (List V1→Heap→Option (AV×Heap))
  | 142 => some pTrim
  | 145 => some pIndex
  | _ => none
def extpT: FuncId→Option (List V1→Heap→Option (AV×Heap))
  | _ => none
def extT: FuncId→List Value→Option Value
  | 163, vs => eIndexByte vs
  | _, _ => none
def tabT: Nat→Option (IntKind×List Int)
  | _ => none
def hardT: String→Bool := fun s => s == "control.go:44" || s == "policy.go:99" || s == "slices.go:362" || s == "text.go:39"
def aownT: String→Bool := fun s => s == "text.go:53"
def rowT: String→Bool := fun s => s == "law.go:26" || s == "slices.go:362"
def nwT: String→Bool := fun s => s == "outright.go:35"
noncomputable def E0(m : Int): Env := { P := Tryz.prog, live := live, hard := hardT, row := rowT, ext := extT, base := tabBase tabT 0 m, glob := tabGlob tabT, hand := fun f => f==38||f==76||f==77, prim := primT, extp := extpT, nw := nwT, aown := aownT }
theorem pIndex_ok(m : Int): CallP (E0 m) 145 pIndex := by
  refine prim_ok ?_
  intro args hp v h' hh
  unfold pIndex at hh
  split at hh
  · rename_i s t
    split at hh
    · rename_i hs
      simp only[Option.some.injEq, Prod.mk.injEq]at hh
      obtain ⟨rfl, rfl⟩ := hh
      refine ⟨rfl, [.string s, .string t], _, rfl, fun G => .sc _ rfl, fun w hw => ?_⟩
      refine (Tryz.stringslite_Index s t m w hs (hw 0 0 _ (by simp[E0, tabBase, tabT]))).mono ?_
      rintro e w' ⟨rfl, rfl⟩
      exact ⟨rfl, Go.RowKit.Below.refl _ _⟩
    · cases hh
  · cases hh
theorem pTrim_ok(m : Int): CallP (E0 m) 142 pTrim := by
  refine prim_ok ?_
  intro args hp v h' hh
  unfold pTrim at hh
  split at hh
  · rename_i s t
    split at hh
    · rename_i hc
      simp only[Option.some.injEq, Prod.mk.injEq]at hh
      obtain ⟨rfl, rfl⟩ := hh
      refine ⟨rfl, [.string s, .string t], _, rfl, fun G => .sc _ rfl, fun w hw => ?_⟩
      refine (Tryz.strings_Trim_ascii s t w hc.1 hc.2.1 (asciiB_ok hc.2.2)).mono ?_
      rintro e w' ⟨rfl, hb⟩
      exact ⟨rfl, hb⟩
    · cases hh
  · cases hh
theorem ext_ok(g : FuncId)(vs : List Value)(r : Value)(h : extT g vs=some r)(w : World): (callFunc g vs.toArray).run Tryz.prog w=.ok (.value r) w := by
  unfold extT at h
  split at h
  · exact eIndexByte_ok (fun args w => run_callFunc_extern Tryz.func163 (by kernel_rfl) (by kernel_rfl) (by kernel_rfl) (e := Extern.BytealgIndexByte.indexByte) (by kernel_rfl) args w) _ _ h w
  · cases h
theorem prim_all(m : Int)(g : FuncId)(p)(h : primT g=some p): CallP (E0 m) g p := by
  unfold primT at h
  split at h
  · cases h;exact pTrim_ok m
  · cases h;exact pIndex_ok m
  · cases h
theorem extp_all(m : Int)(g : FuncId)(p)(h : extpT g=some p): ExtP (E0 m) g p := by
  unfold extpT at h
  split at h
  · cases h
theorem E0ok(m : Int): EnvOk (E0 m) := ⟨ext_ok, prim_all m, fun g cs h => tab_glob (T := tabT) (g0 := 0) (m := m) g cs h, extp_all m⟩
theorem cellM(W : World)(h : W.ShapedOpen Tryz.prog): ∃ m, W.cell? ⟨0, 0, none⟩=some (.int .i64 m) := Tryz.laysM219.s1_3 W h
theorem base_ok(m : Int)(W : World)(hm : W.cell? ⟨0, 0, none⟩=some (.int .i64 m))(hT : ∀ g k l, tabT g=some (k, l)→∀ (i : Nat) x, l[i]? = some x→W.cell? ⟨g, i, none⟩=some (.int k x)): ∀ b i v, (E0 m).base b i=some v→W.cell? ⟨b, i, none⟩=some v := by
  intro b i v h
  have h2 : tabBase tabT 0 m b i=some v := h
  unfold tabBase at h2
  split at h2
  · rename_i p hp
    simp only[Option.map_eq_some_iff]at h2
    obtain ⟨x, hx, rfl⟩ := h2
    exact hT b p.1 p.2 hp i x hx
  · by_cases e : b=0∧i=0
    · rw[if_pos e]at h2
      obtain ⟨rfl, rfl⟩ := e
      rw[hm, ← h2]
    · rw[if_neg e]at h2
      cases h2
end Go.Proofs.YtbkobjepahlegaaGreatDoor
