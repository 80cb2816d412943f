/- MessageSame: Which are the same: by the program, and by the document. For every input the law returns true, and what was there reads as it did. -/
import Derived.Test.YtoohbnmhjfgclaaGreatDoorCards
import Derived.Test.YtoohbnmhjfgclaaGreatDoorTie
import Derived.Test.YtoohbnmhjfgclaaGreatDoorEv7
import Derived.Test.YtoohbnmhjfgclaaGreatDoorLawSame1
import Derived.WalkKit
import Derived.ProofKit
import Derived.OpenShut
import Derived.Deep.DeepHandedRow
import Derived.Lib.SmallJoins
import Derived.Deep.Slices
import Derived.ChangeMaps5
import Derived.Carry
set_option linter.unusedVariables false
set_option linter.unusedSimpArgs false
namespace Go.Ab
open Go Go.Proofs Go.Proofs.YtoohbnmhjfgclaaGreatDoor
theorem opnT9 : Opn Tryz.prog 9 (fun x : Bs => [.sc (.string (S x))]) (fun x : Bs => (x.length + 1)) (fun x : Bs => True) :=
  opn_str Tryz.underlying9
theorem opnT3 : Opn Tryz.prog 3 (fun x : Int => [.sc (.int .i64 x)]) (fun x : Int => 1) (fun x : Int => ((Lit.int .i64 x).wf = true)) :=
  opn_int Tryz.underlying3
theorem opnT58 : Opn Tryz.prog 58 (fun x : (Bs × (Bs × Unit)) => ([.sc (.string (S x.1))] ++ ([.sc (.string (S x.2.1))] ++ []))) (fun x : (Bs × (Bs × Unit)) => (((x.1.length + 1) + ((x.2.1.length + 1) + 0)) + 1)) (fun x : (Bs × (Bs × Unit)) => (True ∧ (True ∧ True))) :=
  opn_struct (tot := 2) Tryz.underlying58 (by kernel_rfl) (fopn_cons (off := 0) (k := 1) (t := 9) (by rfl) (by rfl) (by kernel_rfl) opnT9 (fopn_cons (off := 1) (k := 1) (t := 9) (by rfl) (by rfl) (by kernel_rfl) opnT9 fopn_nil))
theorem opnE23 : Opn Tryz.prog 58 (enSS : Bs × Bs → List D) (fun y : Bs × Bs => (((y.1.length + 1) + ((y.2.length + 1) + 0)) + 1)) (fun y : Bs × Bs => (True ∧ (True ∧ True))) :=
  Opn.map opnT58 (fun x : (Bs × (Bs × Unit)) => (x.1, x.2.1)) (fun _ => rfl) (fun _ => Nat.le_refl _) (fun _ h => h)
theorem opnT23 : Opn Tryz.prog 23 (fun x : (Bool × List (Bs × Bs)) => [.lst x.1 (enL enSS x.2)]) (fun x : (Bool × List (Bs × Bs)) => ((List.map (fun y : Bs × Bs => (((y.1.length + 1) + ((y.2.length + 1) + 0)) + 1)) x.2).sum + 1)) (fun x : (Bool × List (Bs × Bs)) => ((x.1 = true → x.2 = []) ∧ x.2.length ≤ maxLen ∧ ∀ y ∈ x.2, (True ∧ (True ∧ True)))) :=
  opn_slice (k := 2) Tryz.underlying23 (by kernel_rfl) opnE23 (fun _ => rfl) (by decide)
theorem opnT5 : Opn Tryz.prog 5 (fun x : UInt8 => [.sc (.int .u8 (x.toNat : Int))]) (fun x : UInt8 => 1) (fun x : UInt8 => True) :=
  opn_u8 Tryz.underlying5
theorem opnE22 : Opn Tryz.prog 5 (enB : UInt8 → List D) (fun y : UInt8 => 1) (fun y : UInt8 => True) :=
  Opn.map opnT5 (fun x : UInt8 => (x)) (fun _ => rfl) (fun _ => Nat.le_refl _) (fun _ h => h)
theorem opnT22 : Opn Tryz.prog 22 (fun x : (Bool × List UInt8) => [.lst x.1 (enL enB x.2)]) (fun x : (Bool × List UInt8) => ((List.map (fun y : UInt8 => 1) x.2).sum + 1)) (fun x : (Bool × List UInt8) => ((x.1 = true → x.2 = []) ∧ x.2.length ≤ maxLen ∧ ∀ y ∈ x.2, True)) :=
  opn_slice (k := 1) Tryz.underlying22 (by kernel_rfl) opnE22 (fun _ => rfl) (by decide)
theorem opnT25 : Opn Tryz.prog 25 (fun x : (Bs × (Bs × (Int × ((Bool × List (Bs × Bs)) × ((Bool × List UInt8) × Unit))))) => ([.sc (.string (S x.1))] ++ ([.sc (.string (S x.2.1))] ++ ([.sc (.int .i64 x.2.2.1)] ++ ([.lst x.2.2.2.1.1 (enL enSS x.2.2.2.1.2)] ++ ([.lst x.2.2.2.2.1.1 (enL enB x.2.2.2.2.1.2)] ++ [])))))) (fun x : (Bs × (Bs × (Int × ((Bool × List (Bs × Bs)) × ((Bool × List UInt8) × Unit))))) => (((x.1.length + 1) + ((x.2.1.length + 1) + (1 + (((List.map (fun y : Bs × Bs => (((y.1.length + 1) + ((y.2.length + 1) + 0)) + 1)) x.2.2.2.1.2).sum + 1) + (((List.map (fun y : UInt8 => 1) x.2.2.2.2.1.2).sum + 1) + 0))))) + 1)) (fun x : (Bs × (Bs × (Int × ((Bool × List (Bs × Bs)) × ((Bool × List UInt8) × Unit))))) => (True ∧ (True ∧ (((Lit.int .i64 x.2.2.1).wf = true) ∧ (((x.2.2.2.1.1 = true → x.2.2.2.1.2 = []) ∧ x.2.2.2.1.2.length ≤ maxLen ∧ ∀ y ∈ x.2.2.2.1.2, (True ∧ (True ∧ True))) ∧ (((x.2.2.2.2.1.1 = true → x.2.2.2.2.1.2 = []) ∧ x.2.2.2.2.1.2.length ≤ maxLen ∧ ∀ y ∈ x.2.2.2.2.1.2, True) ∧ True)))))) :=
  opn_struct (tot := 5) Tryz.underlying25 (by kernel_rfl) (fopn_cons (off := 0) (k := 1) (t := 9) (by rfl) (by rfl) (by kernel_rfl) opnT9 (fopn_cons (off := 1) (k := 1) (t := 9) (by rfl) (by rfl) (by kernel_rfl) opnT9 (fopn_cons (off := 2) (k := 1) (t := 3) (by rfl) (by rfl) (by kernel_rfl) opnT3 (fopn_cons (off := 3) (k := 1) (t := 23) (by rfl) (by rfl) (by kernel_rfl) opnT23 (fopn_cons (off := 4) (k := 1) (t := 22) (by rfl) (by rfl) (by kernel_rfl) opnT22 fopn_nil)))))
theorem opnT32 : Opn Tryz.prog 32 (fun x : (Int × (Bs × (Int × ((Bool × List (Bs × Bs)) × ((Bool × List UInt8) × Unit))))) => ([.sc (.int .i64 x.1)] ++ ([.sc (.string (S x.2.1))] ++ ([.sc (.int .i64 x.2.2.1)] ++ ([.lst x.2.2.2.1.1 (enL enSS x.2.2.2.1.2)] ++ ([.lst x.2.2.2.2.1.1 (enL enB x.2.2.2.2.1.2)] ++ [])))))) (fun x : (Int × (Bs × (Int × ((Bool × List (Bs × Bs)) × ((Bool × List UInt8) × Unit))))) => ((1 + ((x.2.1.length + 1) + (1 + (((List.map (fun y : Bs × Bs => (((y.1.length + 1) + ((y.2.length + 1) + 0)) + 1)) x.2.2.2.1.2).sum + 1) + (((List.map (fun y : UInt8 => 1) x.2.2.2.2.1.2).sum + 1) + 0))))) + 1)) (fun x : (Int × (Bs × (Int × ((Bool × List (Bs × Bs)) × ((Bool × List UInt8) × Unit))))) => (((Lit.int .i64 x.1).wf = true) ∧ (True ∧ (((Lit.int .i64 x.2.2.1).wf = true) ∧ (((x.2.2.2.1.1 = true → x.2.2.2.1.2 = []) ∧ x.2.2.2.1.2.length ≤ maxLen ∧ ∀ y ∈ x.2.2.2.1.2, (True ∧ (True ∧ True))) ∧ (((x.2.2.2.2.1.1 = true → x.2.2.2.2.1.2 = []) ∧ x.2.2.2.2.1.2.length ≤ maxLen ∧ ∀ y ∈ x.2.2.2.2.1.2, True) ∧ True)))))) :=
  opn_struct (tot := 5) Tryz.underlying32 (by kernel_rfl) (fopn_cons (off := 0) (k := 1) (t := 3) (by rfl) (by rfl) (by kernel_rfl) opnT3 (fopn_cons (off := 1) (k := 1) (t := 9) (by rfl) (by rfl) (by kernel_rfl) opnT9 (fopn_cons (off := 2) (k := 1) (t := 3) (by rfl) (by rfl) (by kernel_rfl) opnT3 (fopn_cons (off := 3) (k := 1) (t := 23) (by rfl) (by rfl) (by kernel_rfl) opnT23 (fopn_cons (off := 4) (k := 1) (t := 22) (by rfl) (by rfl) (by kernel_rfl) opnT22 fopn_nil)))))
theorem opnT47 : Opn Tryz.prog 47 (fun x : ((Bs × (Bs × (Int × ((Bool × List (Bs × Bs)) × ((Bool × List UInt8) × Unit))))) × ((Int × (Bs × (Int × ((Bool × List (Bs × Bs)) × ((Bool × List UInt8) × Unit))))) × (Bs × Unit))) => (([.sc (.string (S x.1.1))] ++ ([.sc (.string (S x.1.2.1))] ++ ([.sc (.int .i64 x.1.2.2.1)] ++ ([.lst x.1.2.2.2.1.1 (enL enSS x.1.2.2.2.1.2)] ++ ([.lst x.1.2.2.2.2.1.1 (enL enB x.1.2.2.2.2.1.2)] ++ []))))) ++ (([.sc (.int .i64 x.2.1.1)] ++ ([.sc (.string (S x.2.1.2.1))] ++ ([.sc (.int .i64 x.2.1.2.2.1)] ++ ([.lst x.2.1.2.2.2.1.1 (enL enSS x.2.1.2.2.2.1.2)] ++ ([.lst x.2.1.2.2.2.2.1.1 (enL enB x.2.1.2.2.2.2.1.2)] ++ []))))) ++ ([.sc (.string (S x.2.2.1))] ++ [])))) (fun x : ((Bs × (Bs × (Int × ((Bool × List (Bs × Bs)) × ((Bool × List UInt8) × Unit))))) × ((Int × (Bs × (Int × ((Bool × List (Bs × Bs)) × ((Bool × List UInt8) × Unit))))) × (Bs × Unit))) => (((((x.1.1.length + 1) + ((x.1.2.1.length + 1) + (1 + (((List.map (fun y : Bs × Bs => (((y.1.length + 1) + ((y.2.length + 1) + 0)) + 1)) x.1.2.2.2.1.2).sum + 1) + (((List.map (fun y : UInt8 => 1) x.1.2.2.2.2.1.2).sum + 1) + 0))))) + 1) + (((1 + ((x.2.1.2.1.length + 1) + (1 + (((List.map (fun y : Bs × Bs => (((y.1.length + 1) + ((y.2.length + 1) + 0)) + 1)) x.2.1.2.2.2.1.2).sum + 1) + (((List.map (fun y : UInt8 => 1) x.2.1.2.2.2.2.1.2).sum + 1) + 0))))) + 1) + ((x.2.2.1.length + 1) + 0))) + 1)) (fun x : ((Bs × (Bs × (Int × ((Bool × List (Bs × Bs)) × ((Bool × List UInt8) × Unit))))) × ((Int × (Bs × (Int × ((Bool × List (Bs × Bs)) × ((Bool × List UInt8) × Unit))))) × (Bs × Unit))) => ((True ∧ (True ∧ (((Lit.int .i64 x.1.2.2.1).wf = true) ∧ (((x.1.2.2.2.1.1 = true → x.1.2.2.2.1.2 = []) ∧ x.1.2.2.2.1.2.length ≤ maxLen ∧ ∀ y ∈ x.1.2.2.2.1.2, (True ∧ (True ∧ True))) ∧ (((x.1.2.2.2.2.1.1 = true → x.1.2.2.2.2.1.2 = []) ∧ x.1.2.2.2.2.1.2.length ≤ maxLen ∧ ∀ y ∈ x.1.2.2.2.2.1.2, True) ∧ True))))) ∧ ((((Lit.int .i64 x.2.1.1).wf = true) ∧ (True ∧ (((Lit.int .i64 x.2.1.2.2.1).wf = true) ∧ (((x.2.1.2.2.2.1.1 = true → x.2.1.2.2.2.1.2 = []) ∧ x.2.1.2.2.2.1.2.length ≤ maxLen ∧ ∀ y ∈ x.2.1.2.2.2.1.2, (True ∧ (True ∧ True))) ∧ (((x.2.1.2.2.2.2.1.1 = true → x.2.1.2.2.2.2.1.2 = []) ∧ x.2.1.2.2.2.2.1.2.length ≤ maxLen ∧ ∀ y ∈ x.2.1.2.2.2.2.1.2, True) ∧ True))))) ∧ (True ∧ True)))) :=
  opn_struct (tot := 11) Tryz.underlying47 (by kernel_rfl) (fopn_cons (off := 0) (k := 5) (t := 25) (by rfl) (by rfl) (by kernel_rfl) opnT25 (fopn_cons (off := 5) (k := 5) (t := 32) (by rfl) (by rfl) (by kernel_rfl) opnT32 (fopn_cons (off := 10) (k := 1) (t := 9) (by rfl) (by rfl) (by kernel_rfl) opnT9 fopn_nil)))
end Go.Ab
namespace Go.Proofs.YtoohbnmhjfgclaaGreatDoor.fnMessageSame
open Go.Ab (enL enB enS enSS enN S Bs)
open Go.ChangeShapes Go.WideShapes Go.ChangeAt Go.RowKit
theorem own : ownKnob Tryz.prog.godebug = none := by kernel_rfl
def cellsD (l : List (DataW Unit)) : List Value := l.flatMap fun d => match d with
  | .lit (.int k n) => [.int k n]
  | .agg ps => ps.flatMap fun q => match q with
    | .lit (.int k n) => [.int k n]
    | _ => []
  | _ => []
def partsD : DataW Unit → List (DataW Unit)
  | .agg ps => ps
  | _ => []
def wargs : Array Value := #[.agg #[.string .empty, .string .empty, .int .i64 0, .slice none 0 0, .slice none 0 0, .int .i64 0, .string .empty, .int .i64 0, .slice none 0 0, .slice none 0 0, .string .empty], .agg #[.string .empty, .string .empty, .int .i64 0, .slice none 0 0, .slice none 0 0, .int .i64 0, .string .empty, .int .i64 0, .slice none 0 0, .slice none 0 0, .string .empty]]
noncomputable def low : Nat := (World.holding Tryz.prog default ⟨#[], wargs, []⟩).heap.size
noncomputable def laidWorld (os : Os) : World :=
  { World.holding Tryz.prog os ⟨#[.cells #[.string ⟨#[118, 97, 108, 117, 101, 32, 111, 117, 116, 32, 111, 102, 32, 114, 97, 110, 103, 101]⟩] 208, .cells #[.string ⟨#[105, 110, 118, 97, 108, 105, 100, 32, 115, 121, 110, 116, 97, 120]⟩] 208], #[], []⟩ with heap := ((((((((World.holding Tryz.prog os ⟨#[.cells #[.string ⟨#[118, 97, 108, 117, 101, 32, 111, 117, 116, 32, 111, 102, 32, 114, 97, 110, 103, 101]⟩] 208, .cells #[.string ⟨#[105, 110, 118, 97, 108, 105, 100, 32, 115, 121, 110, 116, 97, 120]⟩] 208], #[], []⟩).heap.modify 6 fun | .cells _ t fz => .cells (cellsD (partsD Rows.laid_math_bits_deBruijn32tab)).toArray t fz | o => o).modify 7 fun | .cells _ t fz => .cells (cellsD (partsD Rows.laid_math_bits_deBruijn64tab)).toArray t fz | o => o).modify 3 fun | .cells _ t fz => .cells (cellsD (partsD Rows.laid_internal_strconv_uint64pow10)).toArray t fz | o => o).modify 5 fun | .cells _ t fz => .cells (cellsD (partsD Rows.laid_unicode_utf8_acceptRanges)).toArray t fz | o => o).modify 2 fun | .cells _ t fz => .cells #[.iface 206 (.pointer (some ⟨low + 0, 0, none⟩))] t fz | o => o).modify 1 fun | .cells _ t fz => .cells #[.iface 206 (.pointer (some ⟨low + 1, 0, none⟩))] t fz | o => o).modify 4 fun | .cells _ t fz => .cells (cellsD (partsD Rows.laid_unicode_utf8_first)).toArray t fz | o => o) }
theorem laid_met (os : Os) : laidMet Tryz.prog Rows.messageSameRow.laid ((laidWorld os).forCall (fun _ _ => 0) ⟨#[], wargs, []⟩).memory :=
  laidMet_of_run' 8 (by kernel_rfl) (by kernel_rfl)
theorem reads (os : Os) {H : Type} (enc : TypeId × Value → H) : ∃ places, DataW.whole enc Tryz.prog ((laidWorld os).forCall (fun _ _ => 0) ⟨#[], wargs, []⟩).memory Tryz.f5.params.toList Rows.messageSameSpec.vars false wargs.toList 8 = some ([.agg [.agg [.lit (.string []), .lit (.string []), .lit (.int .i64 0), .nil, .nil], .agg [.lit (.int .i64 0), .lit (.string []), .lit (.int .i64 0), .nil, .nil], .lit (.string [])], .agg [.agg [.lit (.string []), .lit (.string []), .lit (.int .i64 0), .nil, .nil], .agg [.lit (.int .i64 0), .lit (.string []), .lit (.int .i64 0), .nil, .nil], .lit (.string [])]], [], places) :=
  ⟨[], by kernel_rfl⟩
theorem params_ok : ∀ t ∈ [47, 47], Tryz.prog.readableRec t = true ∧ t < Tryz.prog.types.size := by
  intro t ht
  simp only [List.mem_cons, List.not_mem_nil, or_false] at ht
  rcases ht with rfl | rfl <;> exact ⟨by kernel_rfl, of_decide_eq_true (by kernel_rfl)⟩
set_option maxRecDepth 100000 in
theorem lifted (os : Os) (started : os.Started) (H : Type) (enc : TypeId × Value → H) (F : Stop.Interp) :
    ReturnsInHanded {} Tryz.checked os 5 .any ((OpenSpec.ofChange Rows.messageSameSpec).preRow enc Tryz.prog Tryz.f5 Rows.messageSameRow.domain false Rows.messageSameRow.laid) (((OpenSpec.ofChange Rows.messageSameSpec).at F).post enc Tryz.prog Tryz.f5 false true false false) := by
  obtain ⟨places, hx⟩ := reads os enc
  refine returnsInHanded_of_row (C := Tryz.checked) (s := OpenSpec.ofChange Rows.messageSameSpec) own started (by kernel_rfl) Tryz.func5
    (witness_row_at (enc := enc) (C := Tryz.checked) false (laidWorld os) wargs rfl (by kernel_rfl) (by kernel_rfl) (by kernel_rfl)
      (OpenSpec.preRow_of_cond 8 hx (by kernel_rfl) (fun k hk => by cases hk) (by kernel_rfl) (laid_met os))) ?_
  intro W base args ds gs before hval hW _ hcond hwt hL hsh _
  have hW' := hW
  obtain ⟨p, q, hA0, hV, rfl, hfz, hnd⟩ := hW
  have hA : DataW.TrodAll enc Tryz.prog W 0 (fun _ => true) true Tryz.f5.params.toList args.toList ds p := hA0
  rw [Tryz.params5] at hA
  have hA1 := hA
  have hv := hval
  rw [Tryz.params5] at hv
  obtain ⟨rfl, rfl⟩ := trodVars_none hV
  obtain ⟨v0, vs0, d0, ds0, p0, q0, hargs, rfl, rfl, h0, r0⟩ := trodAll_cons hA
  obtain ⟨v1, vs1, d1, ds1, p1, q1, rfl, rfl, rfl, h1, r1⟩ := trodAll_cons r0
  obtain ⟨rfl, rfl, rfl⟩ := trodAll_nil r1
  obtain rfl : args = #[v0, v1] := by
    obtain ⟨l⟩ := args
    simp only at hargs
    rw [hargs]
  obtain ⟨x0, g0, o0, B0⟩ := Go.Ab.arg_agg Go.Ab.opnT47 Tryz.underlying47 (hv 0 47 v0 rfl rfl) h0
  obtain ⟨x1, g1, o1, B1⟩ := Go.Ab.arg_agg Go.Ab.opnT47 Tryz.underlying47 (hv 1 47 v1 rfl rfl) h1
  clear hA0 hval
  simp only [List.append_nil, List.nil_append] at hW' hA1
  have hlt := hW'.lt
  obtain ⟨m, hm⟩ := cellM W hsh
  refine (Go.Ab.law_run (E0ok m) (show Go.Ab.callW (E0 m) 5 [.agg [.d (.sc (.string (S x0.1.1))), .d (.sc (.string (S x0.1.2.1))), .d (.sc (.int .i64 x0.1.2.2.1)), .d (.lst x0.1.2.2.2.1.1 (enL enSS x0.1.2.2.2.1.2)), .d (.lst x0.1.2.2.2.2.1.1 (enL enB x0.1.2.2.2.2.1.2)), .d (.sc (.int .i64 x0.2.1.1)), .d (.sc (.string (S x0.2.1.2.1))), .d (.sc (.int .i64 x0.2.1.2.2.1)), .d (.lst x0.2.1.2.2.2.1.1 (enL enSS x0.2.1.2.2.2.1.2)), .d (.lst x0.2.1.2.2.2.2.1.1 (enL enB x0.2.1.2.2.2.2.1.2)), .d (.sc (.string (S x0.2.2.1)))], .agg [.d (.sc (.string (S x1.1.1))), .d (.sc (.string (S x1.1.2.1))), .d (.sc (.int .i64 x1.1.2.2.1)), .d (.lst x1.1.2.2.2.1.1 (enL enSS x1.1.2.2.2.1.2)), .d (.lst x1.1.2.2.2.2.1.1 (enL enB x1.1.2.2.2.2.1.2)), .d (.sc (.int .i64 x1.2.1.1)), .d (.sc (.string (S x1.2.1.2.1))), .d (.sc (.int .i64 x1.2.1.2.2.1)), .d (.lst x1.2.1.2.2.2.1.1 (enL enSS x1.2.1.2.2.2.1.2)), .d (.lst x1.2.1.2.2.2.2.1.1 (enL enB x1.2.1.2.2.2.2.1.2)), .d (.sc (.string (S x1.2.2.1)))]] [] = some (.v (.c (.d (.sc (.bool true)))), []) from by have hm : maxLen ≤ 9223372036854775807 := (by unfold maxLen; decide); rw [f5_t, Go.Ab.messageSame _ _ _ _ _ _ _ _ _ _ _ _ _ _ _ _ _ _ _ _ _ _ _ _ _ _ _ _ _ _ (Nat.le_trans o0.1.2.2.2.1.2.1 hm) (Nat.le_trans o0.2.1.2.2.2.1.2.1 hm)]; rfl) (base_ok m W hm (fun g k l h i x hx => by
    unfold tabT at h
    split at h
    · cases h; exact Go.Ab.laid_ints hL (by kernel_rfl) (n := "internal/strconv.uint64pow10") (l := _) (k := .u64) (N := 20) (.tail _ (.tail _ (.head _))) (by kernel_rfl) (by kernel_rfl) Tryz.underlying210 Tryz.underlying64 (by kernel_rfl) rfl i x hx
    · cases h; exact Go.Ab.laid_ints hL (by kernel_rfl) (n := "math/bits.deBruijn32tab") (l := _) (k := .u8) (N := 32) (.head _) (by kernel_rfl) (by kernel_rfl) Tryz.underlying222 Tryz.underlying5 (by kernel_rfl) rfl i x hx
    · cases h; exact Go.Ab.laid_ints hL (by kernel_rfl) (n := "math/bits.deBruijn64tab") (l := _) (k := .u8) (N := 64) (.tail _ (.head _)) (by kernel_rfl) (by kernel_rfl) Tryz.underlying223 Tryz.underlying5 (by kernel_rfl) rfl i x hx
    · cases h)) (vs := [v0, v1]) (.cons g0 (.cons g1 .nil))).mono fun e' W' ⟨he, hb⟩ => ?_
  subst he
  exact ⟨_, rfl, _, _, _, [], _, [], hW', trodAll_cons_mk (shut_bool Tryz.underlying4 _) trodAll_mk0, Go.Ab.below_trodAll (by kernel_rfl) hb params_ok (fun x hx => hlt x (by first | exact hx | simpa using hx)) hA1, rfl, hb.frame _, fun h => by cases h⟩
theorem said : Rows.MessageSameSaid :=
  OpenClaim.holds_of_cond 5 Tryz.f5 rfl rfl rfl rfl rfl rfl rfl ⟨rfl, rfl, rfl, rfl, rfl⟩ rfl rfl rfl rfl rfl (by kernel_rfl) Tryz.func5 (by kernel_rfl)
    (of_decide_eq_true (by kernel_rfl)) (by unfold Func.isWrapper; first | (rw [if_pos (by decide +kernel)]; kernel_rfl) | (rw [if_neg (by decide +kernel)]; exact ⟨rfl, rfl⟩))
    (fun os started H enc _ F => by rw [OpenClaim.pre_eq_preRow]; exact lifted os started H enc F)
theorem plain (f : FuncId) (fn : Func) (hf : Tryz.pinned.checked.prog.funcNamed "tollhouse/tollhouselaw09.MessageSame" = some f) (hfn : Tryz.pinned.checked.prog.funcs[f]? = some fn) :
    true = Tryz.pinned.checked.prog.looks [] ∧ ∀ (j : Nat) t, fn.params[j]? = some t → Tryz.pinned.checked.prog.wantsStandIn t = false := by
  obtain rfl : f = 5 := Option.some.inj ((show Tryz.prog.funcNamed "tollhouse/tollhouselaw09.MessageSame" = some 5 by kernel_rfl).symm.trans hf) |>.symm
  obtain rfl : fn = Tryz.f5 := (Option.some.inj (Tryz.func5.symm.trans hfn)).symm
  refine ⟨by kernel_rfl, fun j t ht => ?_⟩
  rw [Tryz.params5] at ht
  rcases j with _ | _ | j <;> simp at ht <;> subst ht <;> kernel_rfl
theorem card : Rows.MessageSameCardSaid :=
  Claim7.holds_tied_plain_at .later [] _ _ _ _ said (fun _ h => by cases h) (by kernel_rfl) (fun _ h => by cases h) messageSame_row_tie rfl ⟨rfl, rfl⟩ (by kernel_rfl) rfl plain (by kernel_rfl)
end Go.Proofs.YtoohbnmhjfgclaaGreatDoor.fnMessageSame
