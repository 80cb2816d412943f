/- FaultTable: for every error, every status and every response the program answers as the document does, and what a caller writes into an answer changes no later one: the law returns true, and what was there reads as it did. No condition. -/
import Derived.Test.YtfcjicedphacfaaRows
import Derived.Test.YtfcjicedphacfaaEv7
import Derived.Test.YtfcjicedphacfaaLawTable1
import Derived.WalkKit
import Derived.ProofKit
import Derived.OpenShut
import Derived.ChangeMaps5
import Derived.HandedShaped
import Derived.Lib.SmallJoins
import Derived.Deep.DeepHandedRow
import Derived.Deep.Slices
import Derived.Carry
set_option linter.all false
namespace Go.Ab
open Go Go.Proofs Go.Proofs.Ytfcjicedphacfaa
theorem opnT22 : Opn Try.prog 22 (fun x : Int => [.sc (.int .i64 x)]) (fun x : Int => 1) (fun x : Int => ((Lit.int .i64 x).wf = true)) :=
  opn_int Try.underlying22
theorem opnT3 : Opn Try.prog 3 (fun x : Int => [.sc (.int .i64 x)]) (fun x : Int => 1) (fun x : Int => ((Lit.int .i64 x).wf = true)) :=
  opn_int Try.underlying3
theorem opnT9 : Opn Try.prog 9 (fun x : Bs => [.sc (.string (S x))]) (fun x : Bs => (x.length + 1)) (fun x : Bs => True) :=
  opn_str Try.underlying9
theorem opnT33 : Opn Try.prog 33 (fun x : (Bs × (Bs × Unit)) => ([.sc (.string (S x.1))] ++ ([.sc (.string (S x.2.1))] ++ []))) (fun x : (Bs × (Bs × Unit)) => (((x.1.length + 1) + ((x.2.1.length + 1) + 0)) + 1)) (fun x : (Bs × (Bs × Unit)) => (True ∧ (True ∧ True))) :=
  opn_struct (tot := 2) Try.underlying33 (by kernel_rfl) (fopn_cons (off := 0) (k := 1) (t := 9) (by rfl) (by rfl) (by kernel_rfl) opnT9 (fopn_cons (off := 1) (k := 1) (t := 9) (by rfl) (by rfl) (by kernel_rfl) opnT9 fopn_nil))
theorem opnE23 : Opn Try.prog 33 (enSS : Bs × Bs → List D) (fun y : Bs × Bs => (((y.1.length + 1) + ((y.2.length + 1) + 0)) + 1)) (fun y : Bs × Bs => (True ∧ (True ∧ True))) :=
  Opn.map opnT33 (fun x : (Bs × (Bs × Unit)) => (x.1, x.2.1)) (fun _ => rfl) (fun _ => Nat.le_refl _) (fun _ h => h)
theorem opnT23 : Opn Try.prog 23 (fun x : (Bool × List (Bs × Bs)) => [.lst x.1 (enL enSS x.2)]) (fun x : (Bool × List (Bs × Bs)) => ((List.map (fun y : Bs × Bs => (((y.1.length + 1) + ((y.2.length + 1) + 0)) + 1)) x.2).sum + 1)) (fun x : (Bool × List (Bs × Bs)) => ((x.1 = true → x.2 = []) ∧ x.2.length ≤ maxLen ∧ ∀ y ∈ x.2, (True ∧ (True ∧ True)))) :=
  opn_slice (k := 2) Try.underlying23 (by kernel_rfl) opnE23 (fun _ => rfl) (by decide)
theorem opnT5 : Opn Try.prog 5 (fun x : UInt8 => [.sc (.int .u8 (x.toNat : Int))]) (fun x : UInt8 => 1) (fun x : UInt8 => True) :=
  opn_u8 Try.underlying5
theorem opnE24 : Opn Try.prog 5 (enB : UInt8 → List D) (fun y : UInt8 => 1) (fun y : UInt8 => True) :=
  Opn.map opnT5 (fun x : UInt8 => (x)) (fun _ => rfl) (fun _ => Nat.le_refl _) (fun _ h => h)
theorem opnT24 : Opn Try.prog 24 (fun x : (Bool × List UInt8) => [.lst x.1 (enL enB x.2)]) (fun x : (Bool × List UInt8) => ((List.map (fun y : UInt8 => 1) x.2).sum + 1)) (fun x : (Bool × List UInt8) => ((x.1 = true → x.2 = []) ∧ x.2.length ≤ maxLen ∧ ∀ y ∈ x.2, True)) :=
  opn_slice (k := 1) Try.underlying24 (by kernel_rfl) opnE24 (fun _ => rfl) (by decide)
theorem opnT26 : Opn Try.prog 26 (fun x : (Int × (Bs × (Int × ((Bool × List (Bs × Bs)) × ((Bool × List UInt8) × Unit))))) => ([.sc (.int .i64 x.1)] ++ ([.sc (.string (S x.2.1))] ++ ([.sc (.int .i64 x.2.2.1)] ++ ([.lst x.2.2.2.1.1 (enL enSS x.2.2.2.1.2)] ++ ([.lst x.2.2.2.2.1.1 (enL enB x.2.2.2.2.1.2)] ++ [])))))) (fun x : (Int × (Bs × (Int × ((Bool × List (Bs × Bs)) × ((Bool × List UInt8) × Unit))))) => ((1 + ((x.2.1.length + 1) + (1 + (((List.map (fun y : Bs × Bs => (((y.1.length + 1) + ((y.2.length + 1) + 0)) + 1)) x.2.2.2.1.2).sum + 1) + (((List.map (fun y : UInt8 => 1) x.2.2.2.2.1.2).sum + 1) + 0))))) + 1)) (fun x : (Int × (Bs × (Int × ((Bool × List (Bs × Bs)) × ((Bool × List UInt8) × Unit))))) => (((Lit.int .i64 x.1).wf = true) ∧ (True ∧ (((Lit.int .i64 x.2.2.1).wf = true) ∧ (((x.2.2.2.1.1 = true → x.2.2.2.1.2 = []) ∧ x.2.2.2.1.2.length ≤ maxLen ∧ ∀ y ∈ x.2.2.2.1.2, (True ∧ (True ∧ True))) ∧ (((x.2.2.2.2.1.1 = true → x.2.2.2.2.1.2 = []) ∧ x.2.2.2.2.1.2.length ≤ maxLen ∧ ∀ y ∈ x.2.2.2.2.1.2, True) ∧ True)))))) :=
  opn_struct (tot := 5) Try.underlying26 (by kernel_rfl) (fopn_cons (off := 0) (k := 1) (t := 3) (by rfl) (by rfl) (by kernel_rfl) opnT3 (fopn_cons (off := 1) (k := 1) (t := 9) (by rfl) (by rfl) (by kernel_rfl) opnT9 (fopn_cons (off := 2) (k := 1) (t := 3) (by rfl) (by rfl) (by kernel_rfl) opnT3 (fopn_cons (off := 3) (k := 1) (t := 23) (by rfl) (by rfl) (by kernel_rfl) opnT23 (fopn_cons (off := 4) (k := 1) (t := 24) (by rfl) (by rfl) (by kernel_rfl) opnT24 fopn_nil)))))
end Go.Ab
namespace Go.Proofs.Ytfcjicedphacfaa
open Go.Ab (enL enB enS enSS enN S Bs)
open Go.ChangeShapes Go.WideShapes Go.ChangeAt Go.RowKit
theorem own3 : ownKnob Try.prog.godebug = none := by kernel_rfl
theorem params_ok : ∀ t ∈ [22, 3, 26], Try.prog.readableRec t = true ∧ t < Try.prog.types.size := by
  intro t ht
  simp only [List.mem_cons, List.not_mem_nil, or_false] at ht
  rcases ht with rfl | rfl | rfl <;> exact ⟨by kernel_rfl, of_decide_eq_true (by kernel_rfl)⟩
def wargs : Array Value := #[.int .i64 0, .int .i64 0, .agg #[.int .i64 0, .string .empty, .int .i64 0, .slice none 0 0, .slice none 0 0]]
set_option maxRecDepth 100000 in
theorem lifted3 (os : Os) (started : os.Started) (H : Type) (enc : TypeId × Value → H) :
    ReturnsInHanded {} Try.checked os 3 .any (Rows.faultTableSpec.pre6 enc Try.prog Try.f3 Rows.faultTableRow.domain false) (Rows.faultTableSpec.post enc Try.prog Try.f3 false true false false) := by
  refine returnsInHanded_of_change_shaped (C := Try.checked) own3 started (by kernel_rfl) Try.func3
    (ChangeSpec.witness6 (enc := enc) (C := Try.checked) false ⟨#[], wargs, []⟩ 8 (by kernel_rfl) (by kernel_rfl) (by kernel_rfl) (by kernel_rfl)) ?_
  intro W base args ds gs before hval0 hW hcnd _ hsh _
  have hW' := hW
  obtain ⟨p, q, hA0, hV, rfl, hfz, hnd⟩ := hW
  have hA : DataW.TrodAll enc Try.prog W 0 (fun _ => true) true Try.f3.params.toList args.toList ds p := hA0
  rw [Try.params3] at hA
  have hA1 := hA
  have hv := hval0
  rw [Try.params3] at hv
  obtain ⟨rfl, rfl⟩ := trodVars_none hV
  obtain ⟨v0, vs0, d0, ds0, p0, q0, hargs, rfl, rfl, h0, r0⟩ := trodAll_cons hA
  obtain ⟨v1, vs1, d1, ds1, p1, q1, rfl, rfl, rfl, h1, r1⟩ := trodAll_cons r0
  obtain ⟨v2, vs2, d2, ds2, p2, q2, rfl, rfl, rfl, h2, r2⟩ := trodAll_cons r1
  obtain ⟨rfl, rfl, rfl⟩ := trodAll_nil r2
  obtain rfl : args = #[v0, v1, v2] := by
    obtain ⟨l⟩ := args
    simp only at hargs
    rw [hargs]
  obtain ⟨x0, g0, o0, B0⟩ := Go.Ab.arg_cell Go.Ab.opnT22 Try.underlying22 rfl (hv 0 22 v0 rfl rfl) h0
  obtain ⟨x1, g1, o1, B1⟩ := Go.Ab.arg_cell Go.Ab.opnT3 Try.underlying3 rfl (hv 1 3 v1 rfl rfl) h1
  obtain ⟨x2, g2, o2, B2⟩ := Go.Ab.arg_agg Go.Ab.opnT26 Try.underlying26 (hv 2 26 v2 rfl rfl) h2
  clear hA0 hval0
  simp only [List.append_nil, List.nil_append] at hW' hA1
  have hlt := hW'.lt
  refine (Go.Ab.law_run E1ok (show Go.Ab.callW E1 3 [.c (.d (.sc (.int .i64 x0))), .c (.d (.sc (.int .i64 x1))), .agg [.d (.sc (.int .i64 x2.1)), .d (.sc (.string (S x2.2.1))), .d (.sc (.int .i64 x2.2.2.1)), .d (.lst x2.2.2.2.1.1 (enL enSS x2.2.2.2.1.2)), .d (.lst x2.2.2.2.2.1.1 (enL enB x2.2.2.2.2.1.2))]] [] = some (.v (.c (.d (.sc (.bool true)))), []) from law_ok _ _ _ _ _ _ _ _ _) (fun _ _ _ h => nomatch (show (none : Option Value) = some _ from h)) (vs := [v0, v1, v2]) (.cons g0 (.cons g1 (.cons g2 .nil)))).mono fun e' W' ⟨he, hb⟩ => ?_
  subst he
  exact ⟨_, rfl, _, _, _, [], _, [], hW', trodAll_cons_mk (shut_bool Try.underlying4 _) trodAll_mk0, Go.Ab.below_trodAll (by kernel_rfl) hb params_ok (fun x hx => hlt x (by first | exact hx | simpa using hx)) hA1, rfl, hb.frame _, fun h => by cases h⟩
theorem over3 : Rows.faultTableRow.holds Try.pinned (OpenSpec.ofChange Rows.faultTableSpec) :=
  OpenClaim.holds_of_wide 3 Try.f3 rfl rfl rfl rfl rfl rfl rfl ⟨rfl, rfl, rfl, rfl, rfl⟩ rfl rfl rfl rfl rfl (by kernel_rfl) Try.func3 (by kernel_rfl)
    (of_decide_eq_true (by kernel_rfl)) (by unfold Func.isWrapper; first | (rw [if_pos (by decide +kernel)]; kernel_rfl) | (rw [if_neg (by decide +kernel)]; exact ⟨rfl, rfl⟩))
    (fun os started H enc _ => lifted3 os started H enc)
theorem faultTable_proved : Rows.FaultTableSaid := over3
end Go.Proofs.Ytfcjicedphacfaa
