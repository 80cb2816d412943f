/- FreshSays: What says a number lives so long. For every input of bulk at most 1048576 the law returns true, and what was there reads as it did. Condition: the bulk of the arguments is at most 1048576. -/
import Derived.Test.YteajgnaeklbpeaaDoorCards
import Derived.Test.YteajgnaeklbpeaaDoorTie
import Derived.Test.YteajgnaeklbpeaaDoorEv8
import Derived.Test.YteajgnaeklbpeaaDoorLawSays1
import Derived.WalkKit
import Derived.ProofKit
import Derived.OpenShut
import Derived.Deep.DeepHandedRow
import Derived.Lib.SmallJoins
import Derived.Deep.Slices
import Derived.ChangeMaps5
import Derived.Carry
set_option linter.unusedVariables false
set_option linter.unusedSimpArgs false
namespace Go.Ab
open Go Go.Proofs Go.Proofs.YteajgnaeklbpeaaDoor
theorem opnT9 : Opn Tryd.prog 9 (fun x : Bs => [.sc (.string (S x))]) (fun x : Bs => (x.length + 1)) (fun x : Bs => True) :=
  opn_str Tryd.underlying9
theorem opnT29 : Opn Tryd.prog 29 (fun x : (Bs × (Bs × Unit)) => ([.sc (.string (S x.1))] ++ ([.sc (.string (S x.2.1))] ++ []))) (fun x : (Bs × (Bs × Unit)) => (((x.1.length + 1) + ((x.2.1.length + 1) + 0)) + 1)) (fun x : (Bs × (Bs × Unit)) => (True ∧ (True ∧ True))) :=
  opn_struct (tot := 2) Tryd.underlying29 (by kernel_rfl) (fopn_cons (off := 0) (k := 1) (t := 9) (by rfl) (by rfl) (by kernel_rfl) opnT9 (fopn_cons (off := 1) (k := 1) (t := 9) (by rfl) (by rfl) (by kernel_rfl) opnT9 fopn_nil))
theorem opnE22 : Opn Tryd.prog 29 (enSS : Bs × Bs → List D) (fun y : Bs × Bs => (((y.1.length + 1) + ((y.2.length + 1) + 0)) + 1)) (fun y : Bs × Bs => (True ∧ (True ∧ True))) :=
  Opn.map opnT29 (fun x : (Bs × (Bs × Unit)) => (x.1, x.2.1)) (fun _ => rfl) (fun _ => Nat.le_refl _) (fun _ h => h)
theorem opnT22 : Opn Tryd.prog 22 (fun x : (Bool × List (Bs × Bs)) => [.lst x.1 (enL enSS x.2)]) (fun x : (Bool × List (Bs × Bs)) => ((List.map (fun y : Bs × Bs => (((y.1.length + 1) + ((y.2.length + 1) + 0)) + 1)) x.2).sum + 1)) (fun x : (Bool × List (Bs × Bs)) => ((x.1 = true → x.2 = []) ∧ x.2.length ≤ maxLen ∧ ∀ y ∈ x.2, (True ∧ (True ∧ True)))) :=
  opn_slice (k := 2) Tryd.underlying22 (by kernel_rfl) opnE22 (fun _ => rfl) (by decide)
theorem opnT3 : Opn Tryd.prog 3 (fun x : Int => [.sc (.int .i64 x)]) (fun x : Int => 1) (fun x : Int => ((Lit.int .i64 x).wf = true)) :=
  opn_int Tryd.underlying3
theorem opnT23 : Opn Tryd.prog 23 (fun x : Int => [.sc (.int .u32 x)]) (fun x : Int => 1) (fun x : Int => ((Lit.int .u32 x).wf = true)) :=
  opn_int Tryd.underlying23
theorem opnT25 : Opn Tryd.prog 25 (fun x : ((Bool × List (Bs × Bs)) × (Int × (Int × (Int × Unit)))) => ([.lst x.1.1 (enL enSS x.1.2)] ++ ([.sc (.int .i64 x.2.1)] ++ ([.sc (.int .u32 x.2.2.1)] ++ ([.sc (.int .u32 x.2.2.2.1)] ++ []))))) (fun x : ((Bool × List (Bs × Bs)) × (Int × (Int × (Int × Unit)))) => ((((List.map (fun y : Bs × Bs => (((y.1.length + 1) + ((y.2.length + 1) + 0)) + 1)) x.1.2).sum + 1) + (1 + (1 + (1 + 0)))) + 1)) (fun x : ((Bool × List (Bs × Bs)) × (Int × (Int × (Int × Unit)))) => (((x.1.1 = true → x.1.2 = []) ∧ x.1.2.length ≤ maxLen ∧ ∀ y ∈ x.1.2, (True ∧ (True ∧ True))) ∧ (((Lit.int .i64 x.2.1).wf = true) ∧ (((Lit.int .u32 x.2.2.1).wf = true) ∧ (((Lit.int .u32 x.2.2.2.1).wf = true) ∧ True))))) :=
  opn_struct (tot := 4) Tryd.underlying25 (by kernel_rfl) (fopn_cons (off := 0) (k := 1) (t := 22) (by rfl) (by rfl) (by kernel_rfl) opnT22 (fopn_cons (off := 1) (k := 1) (t := 3) (by rfl) (by rfl) (by kernel_rfl) opnT3 (fopn_cons (off := 2) (k := 1) (t := 23) (by rfl) (by rfl) (by kernel_rfl) opnT23 (fopn_cons (off := 3) (k := 1) (t := 23) (by rfl) (by rfl) (by kernel_rfl) opnT23 fopn_nil))))
end Go.Ab
namespace Go.Proofs.YteajgnaeklbpeaaDoor.fnFreshSays
open Go.Ab (enL enB enS enSS enN S Bs)
open Go.ChangeShapes Go.WideShapes Go.ChangeAt Go.RowKit
theorem own : ownKnob Tryd.prog.godebug = none := by kernel_rfl
def cellsD (l : List (DataW Unit)) : List Value := l.flatMap fun d => match d with
  | .lit (.int k n) => [.int k n]
  | .agg ps => ps.flatMap fun q => match q with
    | .lit (.int k n) => [.int k n]
    | _ => []
  | _ => []
def partsD : DataW Unit → List (DataW Unit)
  | .agg ps => ps
  | _ => []
def wargs : Array Value := #[.agg #[.slice none 0 0, .int .i64 0, .int .u32 0, .int .u32 0]]
noncomputable def low : Nat := (World.holding Tryd.prog default ⟨#[], wargs, []⟩).heap.size
noncomputable def laidWorld (os : Os) : World :=
  { World.holding Tryd.prog os ⟨#[], wargs, []⟩ with heap := (((World.holding Tryd.prog os ⟨#[], wargs, []⟩).heap.modify 2 fun | .cells _ t fz => .cells (cellsD (partsD Rows.laid_unicode_utf8_acceptRanges)).toArray t fz | o => o).modify 1 fun | .cells _ t fz => .cells (cellsD (partsD Rows.laid_unicode_utf8_first)).toArray t fz | o => o) }
theorem laid_met (os : Os) : laidMet Tryd.prog Rows.freshSaysUptoRow.laid ((laidWorld os).forCall (fun _ _ => 0) ⟨#[], wargs, []⟩).memory :=
  laidMet_of_run' 8 (by kernel_rfl) (by kernel_rfl)
theorem reads (os : Os) {H : Type} (enc : TypeId × Value → H) : ∃ places, DataW.whole enc Tryd.prog ((laidWorld os).forCall (fun _ _ => 0) ⟨#[], wargs, []⟩).memory Tryd.f3.params.toList Rows.freshSaysSpec.vars false wargs.toList 8 = some ([.agg [.nil, .lit (.int .i64 0), .lit (.int .u32 0), .lit (.int .u32 0)]], [], places) :=
  ⟨[], by kernel_rfl⟩
theorem params_ok : ∀ t ∈ [25], Tryd.prog.readableRec t = true ∧ t < Tryd.prog.types.size := by
  intro t ht
  simp only [List.mem_cons, List.not_mem_nil, or_false] at ht
  rcases ht with rfl <;> exact ⟨by kernel_rfl, of_decide_eq_true (by kernel_rfl)⟩
theorem lit_bulk {H : Type} (l : Lit) : 1 ≤ Rows.uptoBulk (.lit l : DataW H) := by
  cases l <;> simp [Rows.uptoBulk]
def bulkK (H : Type) : Go.Ab.Blk H := ⟨Rows.uptoBulk, Rows.uptoBulkAll, fun _ => by simp [Rows.uptoBulk], lit_bulk, by simp [Rows.uptoBulk], fun _ _ => by simp [Rows.uptoBulk], fun _ => by simp [Rows.uptoBulk], by simp [Rows.uptoBulkAll], fun _ _ => by simp [Rows.uptoBulkAll]⟩
set_option maxRecDepth 100000 in
theorem lifted (os : Os) (started : os.Started) (H : Type) (enc : TypeId × Value → H) (F : Stop.Interp) :
    ReturnsInHanded {} Tryd.checked os 3 .any ((Rows.OpenSpec.upto Rows.freshSaysSpec).preRow enc Tryd.prog Tryd.f3 Rows.freshSaysUptoRow.domain false Rows.freshSaysUptoRow.laid) (((Rows.OpenSpec.upto Rows.freshSaysSpec).at F).post enc Tryd.prog Tryd.f3 false true false false) := by
  obtain ⟨places, hx⟩ := reads os enc
  refine returnsInHanded_of_row (C := Tryd.checked) (s := Rows.OpenSpec.upto Rows.freshSaysSpec) own started (by kernel_rfl) Tryd.func3
    (witness_row_at (enc := enc) (C := Tryd.checked) false (laidWorld os) wargs rfl (by kernel_rfl) (by kernel_rfl) (by kernel_rfl)
      (OpenSpec.preRow_of_cond 8 hx (by kernel_rfl) (fun k hk => by cases hk; kernel_rfl) (by kernel_rfl) (laid_met os))) ?_
  intro W base args ds gs before hval hW _ hcond hwt hL hsh _
  have hW' := hW
  obtain ⟨p, q, hA0, hV, rfl, hfz, hnd⟩ := hW
  have hA : DataW.TrodAll enc Tryd.prog W 0 (fun _ => true) true Tryd.f3.params.toList args.toList ds p := hA0
  rw [Tryd.params3] at hA
  have hA1 := hA
  have hv := hval
  rw [Tryd.params3] at hv
  obtain ⟨rfl, rfl⟩ := trodVars_none hV
  obtain ⟨v0, vs0, d0, ds0, p0, q0, hargs, rfl, rfl, h0, r0⟩ := trodAll_cons hA
  obtain ⟨rfl, rfl, rfl⟩ := trodAll_nil r0
  obtain rfl : args = #[v0] := by
    obtain ⟨l⟩ := args
    simp only at hargs
    rw [hargs]
  obtain ⟨x0, g0, o0, B0⟩ := Go.Ab.arg_agg Go.Ab.opnT25 Tryd.underlying25 (hv 0 25 v0 rfl rfl) h0
  have hk : Rows.uptoBulkAll ([d0] : List (DataW H)) ≤ 1048576 := of_decide_eq_true (hcond _ rfl)
  simp only [Rows.uptoBulkAll] at hk
  replace B0 : _ ≤ Rows.uptoBulk d0 := B0 (bulkK H)
  clear hA0 hval
  simp only [List.append_nil, List.nil_append] at hW' hA1
  have hlt := hW'.lt
  obtain ⟨m, hm⟩ := cellM W hsh
  refine (Go.Ab.law_run (E0ok m) (show Go.Ab.callW (E0 m) 3 [.agg [.d (.lst x0.1.1 (enL enSS x0.1.2)), .d (.sc (.int .i64 x0.2.1)), .d (.sc (.int .u32 x0.2.2.1)), .d (.sc (.int .u32 x0.2.2.2.1))]] [] = some (.v (.c (.d (.sc (.bool true)))), []) from by have h := fsz_le x0.1.2; (try simp only at B0); have u1 := bounds_u32 o0.2.2.1; have u2 := bounds_u32 o0.2.2.2.1; rw [f3_t, freshSays _ _ _ _ _ (by omega) u1.1 (by omega) u2.1 (by omega)]; rfl) (base_ok m W hm (fun g k l h i x hx => by cases h)) (vs := [v0]) (.cons g0 .nil)).mono fun e' W' ⟨he, hb⟩ => ?_
  subst he
  exact ⟨_, rfl, _, _, _, [], _, [], hW', trodAll_cons_mk (shut_bool Tryd.underlying4 _) trodAll_mk0, Go.Ab.below_trodAll (by kernel_rfl) hb params_ok (fun x hx => hlt x (by first | exact hx | simpa using hx)) hA1, rfl, hb.frame _, fun h => by cases h⟩
theorem said : Rows.FreshSaysUptoSaid :=
  OpenClaim.holds_of_cond 3 Tryd.f3 rfl rfl rfl rfl rfl rfl rfl ⟨rfl, rfl, rfl, rfl, rfl⟩ rfl rfl rfl rfl rfl (by kernel_rfl) Tryd.func3 (by kernel_rfl)
    (of_decide_eq_true (by kernel_rfl)) (by unfold Func.isWrapper; first | (rw [if_pos (by decide +kernel)]; kernel_rfl) | (rw [if_neg (by decide +kernel)]; exact ⟨rfl, rfl⟩))
    (fun os started H enc _ F => by rw [OpenClaim.pre_eq_preRow]; exact lifted os started H enc F)
theorem plain (f : FuncId) (fn : Func) (hf : Tryd.pinned.checked.prog.funcNamed "tollhouse/tollhouselaw17.FreshSays" = some f) (hfn : Tryd.pinned.checked.prog.funcs[f]? = some fn) :
    false = Tryd.pinned.checked.prog.looks [] ∧ ∀ (j : Nat) t, fn.params[j]? = some t → Tryd.pinned.checked.prog.wantsStandIn t = false := by
  obtain rfl : f = 3 := Option.some.inj ((show Tryd.prog.funcNamed "tollhouse/tollhouselaw17.FreshSays" = some 3 by kernel_rfl).symm.trans hf) |>.symm
  obtain rfl : fn = Tryd.f3 := (Option.some.inj (Tryd.func3.symm.trans hfn)).symm
  refine ⟨by kernel_rfl, fun j t ht => ?_⟩
  rw [Tryd.params3] at ht
  rcases j with _ | j <;> simp at ht <;> subst ht <;> kernel_rfl
theorem card : Rows.FreshSaysUptoCardSaid :=
  Claim7.holds_tied_plain_at .later [] _ _ _ _ said (fun _ h => by cases h) (by kernel_rfl) (fun _ h => by cases h) freshSaysUpto_row_tie rfl ⟨rfl, rfl⟩ (by kernel_rfl) rfl plain (by kernel_rfl)
end Go.Proofs.YteajgnaeklbpeaaDoor.fnFreshSays
