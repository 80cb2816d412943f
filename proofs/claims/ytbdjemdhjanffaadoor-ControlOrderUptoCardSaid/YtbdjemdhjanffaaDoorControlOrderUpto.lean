/- ControlOrder: The order of fields and of elements, and capital letters, do not matter. For every input of bulk at most 1048576 the law returns true, and what was there reads as it did. Condition: the bulk of the arguments is at most 1048576. -/
import Derived.Test.YtbdjemdhjanffaaDoorCards
import Derived.Test.YtbdjemdhjanffaaDoorTie
import Derived.Test.YtbdjemdhjanffaaDoorEv8
import Derived.Test.YtbdjemdhjanffaaDoorLawOrder1
import Derived.WalkKit
import Derived.ProofKit
import Derived.OpenShut
import Derived.Deep.DeepHandedRow
import Derived.Lib.SmallJoins
import Derived.Deep.Slices
import Derived.ChangeMaps5
import Derived.Carry
set_option linter.unusedVariables false
set_option linter.unusedSimpArgs false
namespace Go.Ab
open Go Go.Proofs Go.Proofs.YtbdjemdhjanffaaDoor
theorem opnT9 : Opn Tryd.prog 9 (fun x : Bs => [.sc (.string (S x))]) (fun x : Bs => (x.length + 1)) (fun x : Bs => True) :=
  opn_str Tryd.underlying9
theorem opnT33 : Opn Tryd.prog 33 (fun x : (Bs × (Bs × Unit)) => ([.sc (.string (S x.1))] ++ ([.sc (.string (S x.2.1))] ++ []))) (fun x : (Bs × (Bs × Unit)) => (((x.1.length + 1) + ((x.2.1.length + 1) + 0)) + 1)) (fun x : (Bs × (Bs × Unit)) => (True ∧ (True ∧ True))) :=
  opn_struct (tot := 2) Tryd.underlying33 (by kernel_rfl) (fopn_cons (off := 0) (k := 1) (t := 9) (by rfl) (by rfl) (by kernel_rfl) opnT9 (fopn_cons (off := 1) (k := 1) (t := 9) (by rfl) (by rfl) (by kernel_rfl) opnT9 fopn_nil))
theorem opnE22 : Opn Tryd.prog 33 (enSS : Bs × Bs → List D) (fun y : Bs × Bs => (((y.1.length + 1) + ((y.2.length + 1) + 0)) + 1)) (fun y : Bs × Bs => (True ∧ (True ∧ True))) :=
  Opn.map opnT33 (fun x : (Bs × (Bs × Unit)) => (x.1, x.2.1)) (fun _ => rfl) (fun _ => Nat.le_refl _) (fun _ h => h)
theorem opnT22 : Opn Tryd.prog 22 (fun x : (Bool × List (Bs × Bs)) => [.lst x.1 (enL enSS x.2)]) (fun x : (Bool × List (Bs × Bs)) => ((List.map (fun y : Bs × Bs => (((y.1.length + 1) + ((y.2.length + 1) + 0)) + 1)) x.2).sum + 1)) (fun x : (Bool × List (Bs × Bs)) => ((x.1 = true → x.2 = []) ∧ x.2.length ≤ maxLen ∧ ∀ y ∈ x.2, (True ∧ (True ∧ True)))) :=
  opn_slice (k := 2) Tryd.underlying22 (by kernel_rfl) opnE22 (fun _ => rfl) (by decide)
end Go.Ab
namespace Go.Proofs.YtbdjemdhjanffaaDoor.fnControlOrder
open Go.Ab (enL enB enS enSS enN S Bs)
open Go.ChangeShapes Go.WideShapes Go.ChangeAt Go.RowKit
theorem own : ownKnob Tryd.prog.godebug = none := by kernel_rfl
def cellsD (l : List (DataW Unit)) : List Value := l.flatMap fun d => match d with
  | .lit (.int k n) => [.int k n]
  | .agg ps => ps.flatMap fun q => match q with
    | .lit (.int k n) => [.int k n]
    | _ => []
  | _ => []
def partsD : DataW Unit → List (DataW Unit)
  | .agg ps => ps
  | _ => []
def wargs : Array Value := #[.slice none 0 0]
noncomputable def low : Nat := (World.holding Tryd.prog default ⟨#[], wargs, []⟩).heap.size
noncomputable def laidWorld (os : Os) : World :=
  { World.holding Tryd.prog os ⟨#[], wargs, []⟩ with heap := (((World.holding Tryd.prog os ⟨#[], wargs, []⟩).heap.modify 2 fun | .cells _ t fz => .cells (cellsD (partsD Rows.laid_unicode_utf8_acceptRanges)).toArray t fz | o => o).modify 1 fun | .cells _ t fz => .cells (cellsD (partsD Rows.laid_unicode_utf8_first)).toArray t fz | o => o) }
theorem laid_met (os : Os) : laidMet Tryd.prog Rows.controlOrderUptoRow.laid ((laidWorld os).forCall (fun _ _ => 0) ⟨#[], wargs, []⟩).memory :=
  laidMet_of_run' 8 (by kernel_rfl) (by kernel_rfl)
theorem reads (os : Os) {H : Type} (enc : TypeId × Value → H) : ∃ places, DataW.whole enc Tryd.prog ((laidWorld os).forCall (fun _ _ => 0) ⟨#[], wargs, []⟩).memory Tryd.f5.params.toList Rows.controlOrderSpec.vars false wargs.toList 8 = some ([.nil], [], places) :=
  ⟨[], by kernel_rfl⟩
theorem params_ok : ∀ t ∈ [22], Tryd.prog.readableRec t = true ∧ t < Tryd.prog.types.size := by
  intro t ht
  simp only [List.mem_cons, List.not_mem_nil, or_false] at ht
  rcases ht with rfl <;> exact ⟨by kernel_rfl, of_decide_eq_true (by kernel_rfl)⟩
theorem lit_bulk {H : Type} (l : Lit) : 1 ≤ Rows.uptoBulk (.lit l : DataW H) := by
  cases l <;> simp [Rows.uptoBulk]
def bulkK (H : Type) : Go.Ab.Blk H := ⟨Rows.uptoBulk, Rows.uptoBulkAll, fun _ => by simp [Rows.uptoBulk], lit_bulk, by simp [Rows.uptoBulk], fun _ _ => by simp [Rows.uptoBulk], fun _ => by simp [Rows.uptoBulk], by simp [Rows.uptoBulkAll], fun _ _ => by simp [Rows.uptoBulkAll]⟩
set_option maxRecDepth 100000 in
theorem lifted (os : Os) (started : os.Started) (H : Type) (enc : TypeId × Value → H) (F : Stop.Interp) :
    ReturnsInHanded {} Tryd.checked os 5 .any ((Rows.OpenSpec.upto Rows.controlOrderSpec).preRow enc Tryd.prog Tryd.f5 Rows.controlOrderUptoRow.domain false Rows.controlOrderUptoRow.laid) (((Rows.OpenSpec.upto Rows.controlOrderSpec).at F).post enc Tryd.prog Tryd.f5 false true false false) := by
  obtain ⟨places, hx⟩ := reads os enc
  refine returnsInHanded_of_row (C := Tryd.checked) (s := Rows.OpenSpec.upto Rows.controlOrderSpec) own started (by kernel_rfl) Tryd.func5
    (witness_row_at (enc := enc) (C := Tryd.checked) false (laidWorld os) wargs rfl (by kernel_rfl) (by kernel_rfl) (by kernel_rfl)
      (OpenSpec.preRow_of_cond 8 hx (by kernel_rfl) (fun k hk => by cases hk; kernel_rfl) (by kernel_rfl) (laid_met os))) ?_
  intro W base args ds gs before hval hW _ hcond hwt hL hsh _
  have hW' := hW
  obtain ⟨p, q, hA0, hV, rfl, hfz, hnd⟩ := hW
  have hA : DataW.TrodAll enc Tryd.prog W 0 (fun _ => true) true Tryd.f5.params.toList args.toList ds p := hA0
  rw [Tryd.params5] at hA
  have hA1 := hA
  have hv := hval
  rw [Tryd.params5] at hv
  obtain ⟨rfl, rfl⟩ := trodVars_none hV
  obtain ⟨v0, vs0, d0, ds0, p0, q0, hargs, rfl, rfl, h0, r0⟩ := trodAll_cons hA
  obtain ⟨rfl, rfl, rfl⟩ := trodAll_nil r0
  obtain rfl : args = #[v0] := by
    obtain ⟨l⟩ := args
    simp only at hargs
    rw [hargs]
  obtain ⟨x0, g0, o0, B0⟩ := Go.Ab.arg_cell Go.Ab.opnT22 Tryd.underlying22 rfl (hv 0 22 v0 rfl rfl) h0
  have hk : Rows.uptoBulkAll ([d0] : List (DataW H)) ≤ 1048576 := of_decide_eq_true (hcond _ rfl)
  simp only [Rows.uptoBulkAll] at hk
  replace B0 : _ ≤ Rows.uptoBulk d0 := B0 (bulkK H)
  clear hA0 hval
  simp only [List.append_nil, List.nil_append] at hW' hA1
  have hlt := hW'.lt
  obtain ⟨m, hm⟩ := cellM W hsh
  refine (Go.Ab.law_run (E0ok m) (show Go.Ab.callW (E0 m) 5 [.c (.d (.lst x0.1 (enL enSS x0.2)))] [] = some (.v (.c (.d (.sc (.bool true)))), []) from by rw [f5_t, m5_ok _ _ (by have h := fsz_le x0.2; (try simp only at B0); omega)]; rfl) (base_ok m W hm (fun g k l h i x hx => by cases h)) (vs := [v0]) (.cons g0 .nil)).mono fun e' W' ⟨he, hb⟩ => ?_
  subst he
  exact ⟨_, rfl, _, _, _, [], _, [], hW', trodAll_cons_mk (shut_bool Tryd.underlying4 _) trodAll_mk0, Go.Ab.below_trodAll (by kernel_rfl) hb params_ok (fun x hx => hlt x (by first | exact hx | simpa using hx)) hA1, rfl, hb.frame _, fun h => by cases h⟩
theorem said : Rows.ControlOrderUptoSaid :=
  OpenClaim.holds_of_cond 5 Tryd.f5 rfl rfl rfl rfl rfl rfl rfl ⟨rfl, rfl, rfl, rfl, rfl⟩ rfl rfl rfl rfl rfl (by kernel_rfl) Tryd.func5 (by kernel_rfl)
    (of_decide_eq_true (by kernel_rfl)) (by unfold Func.isWrapper; first | (rw [if_pos (by decide +kernel)]; kernel_rfl) | (rw [if_neg (by decide +kernel)]; exact ⟨rfl, rfl⟩))
    (fun os started H enc _ F => by rw [OpenClaim.pre_eq_preRow]; exact lifted os started H enc F)
theorem plain (f : FuncId) (fn : Func) (hf : Tryd.pinned.checked.prog.funcNamed "tollhouse/tollhouselaw12.ControlOrder" = some f) (hfn : Tryd.pinned.checked.prog.funcs[f]? = some fn) :
    false = Tryd.pinned.checked.prog.looks [] ∧ ∀ (j : Nat) t, fn.params[j]? = some t → Tryd.pinned.checked.prog.wantsStandIn t = false := by
  obtain rfl : f = 5 := Option.some.inj ((show Tryd.prog.funcNamed "tollhouse/tollhouselaw12.ControlOrder" = some 5 by kernel_rfl).symm.trans hf) |>.symm
  obtain rfl : fn = Tryd.f5 := (Option.some.inj (Tryd.func5.symm.trans hfn)).symm
  refine ⟨by kernel_rfl, fun j t ht => ?_⟩
  rw [Tryd.params5] at ht
  rcases j with _ | j <;> simp at ht <;> subst ht <;> kernel_rfl
theorem card : Rows.ControlOrderUptoCardSaid :=
  Claim7.holds_tied_plain_at .later [] _ _ _ _ said (fun _ h => by cases h) (by kernel_rfl) (fun _ h => by cases h) controlOrderUpto_row_tie rfl ⟨rfl, rfl⟩ (by kernel_rfl) rfl plain (by kernel_rfl)
end Go.Proofs.YtbdjemdhjanffaaDoor.fnControlOrder
