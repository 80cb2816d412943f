/- TextForms: Small letters, blanks, tokens. For every input of bulk at most 1048576 the law returns true, and what was there reads as it did. Condition: the bulk of the arguments is at most 1048576. -/
import Derived.Test.YtcjkhdkfdnjhaaaDoorCards
import Derived.Test.YtcjkhdkfdnjhaaaDoorTie
import Derived.Test.YtcjkhdkfdnjhaaaDoorPT68F
import Derived.WalkKit
import Derived.ProofKit
import Derived.OpenShut
import Derived.Deep.DeepHandedRow
import Derived.Lib.SmallJoins
import Derived.Deep.Slices
import Derived.ChangeMaps5
set_option linter.unusedVariables false
set_option linter.unusedSimpArgs false
namespace Go.Proofs.YtcjkhdkfdnjhaaaDoor.fnTextForms
open Go.ChangeShapes Go.WideShapes Go.ChangeAt Go.RowKit
theorem own : ownKnob Tryd.prog.godebug = none := by kernel_rfl
def cellsD (l : List (DataW Unit)) : List Value := l.flatMap fun d => match d with
  | .lit (.int k n) => [.int k n]
  | .agg ps => ps.flatMap fun q => match q with
    | .lit (.int k n) => [.int k n]
    | _ => []
  | _ => []
def partsD : DataW Unit → List (DataW Unit)
  | .agg ps => ps
  | _ => []
def wargs : Array Value := #[.string .empty, .string .empty]
/-- so many blocks has the settled world -/
noncomputable def low : Nat := (World.holding Tryd.prog default ⟨#[], wargs, []⟩).heap.size
noncomputable def laidWorld (os : Os) : World :=
  { World.holding Tryd.prog os ⟨#[], wargs, []⟩ with heap := (((World.holding Tryd.prog os ⟨#[], wargs, []⟩).heap.modify 2 fun | .cells _ t fz => .cells (cellsD (partsD Rows.laid_unicode_utf8_acceptRanges)).toArray t fz | o => o).modify 1 fun | .cells _ t fz => .cells (cellsD (partsD Rows.laid_unicode_utf8_first)).toArray t fz | o => o) }
theorem laid_met (os : Os) : laidMet Tryd.prog Rows.textFormsUptoRow.laid ((laidWorld os).forCall (fun _ _ => 0) ⟨#[], wargs, []⟩).memory :=
  laidMet_of_run' 8 (by kernel_rfl) (by kernel_rfl)
theorem reads (os : Os) {H : Type} (enc : TypeId × Value → H) : ∃ places, DataW.whole enc Tryd.prog ((laidWorld os).forCall (fun _ _ => 0) ⟨#[], wargs, []⟩).memory Tryd.f8.params.toList Rows.textFormsSpec.vars false wargs.toList 8 = some ([.lit (.string []), .lit (.string [])], [], places) :=
  ⟨[], by kernel_rfl⟩
set_option maxRecDepth 100000 in
theorem lifted (os : Os) (started : os.Started) (H : Type) (enc : TypeId × Value → H) (F : Stop.Interp) :
    ReturnsInHanded {} Tryd.checked os 8 .any ((Rows.OpenSpec.upto Rows.textFormsSpec).preRow enc Tryd.prog Tryd.f8 Rows.textFormsUptoRow.domain false Rows.textFormsUptoRow.laid) (((Rows.OpenSpec.upto Rows.textFormsSpec).at F).post enc Tryd.prog Tryd.f8 false true false false) := by
  obtain ⟨places, hx⟩ := reads os enc
  refine returnsInHanded_of_row (C := Tryd.checked) (s := Rows.OpenSpec.upto Rows.textFormsSpec) own started (by kernel_rfl) Tryd.func8
    (witness_row_at (enc := enc) (C := Tryd.checked) false (laidWorld os) wargs rfl (by kernel_rfl) (by kernel_rfl) (by kernel_rfl)
      (OpenSpec.preRow_of_cond 8 hx (by kernel_rfl) (fun k hk => by cases hk; kernel_rfl) (by kernel_rfl) (laid_met os))) ?_
  intro W base args ds gs before hval hW _ hcond hwt hL hsh _
  have hW' := hW
  obtain ⟨p, q, hA0, hV, rfl, hfz, hnd⟩ := hW
  have hA : DataW.TrodAll enc Tryd.prog W 0 (fun _ => true) true Tryd.f8.params.toList args.toList ds p := hA0
  rw [Tryd.params8] at hA
  have hv := hval
  rw [Tryd.params8] at hv
  obtain ⟨v0, vs0, d0, ds0, p0, q0, hargs, rfl, rfl, h0, r0⟩ := trodAll_cons hA
  obtain ⟨v1, vs1, d1, ds1, p1, q1, rfl, rfl, rfl, h1, r1⟩ := trodAll_cons r0
  obtain ⟨rfl, rfl, rfl⟩ := trodAll_nil r1
  obtain rfl : args = #[v0, v1] := by
    obtain ⟨l⟩ := args
    simp only at hargs
    rw [hargs]
  obtain ⟨a0, rfl, rfl, rfl, w0⟩ := Go.ChangeMaps.open_string Tryd.underlying9 (hv 0 9 v0 rfl rfl) h0
  obtain ⟨a1, rfl, rfl, rfl, w1⟩ := Go.ChangeMaps.open_string Tryd.underlying9 (hv 1 9 v1 rfl rfl) h1
  obtain ⟨rfl, rfl⟩ := trodVars_none hV
  have hk : Rows.uptoBulkAll ([.lit (.string a0.data.toList), .lit (.string a1.data.toList)] : List (DataW H)) ≤ 1048576 := of_decide_eq_true (hcond _ rfl)
  simp only [Rows.uptoBulkAll, Rows.uptoBulk] at hk
  have b0 : a0.data.toList.length ≤ 1048576 := by omega
  have b1 : a1.data.toList.length ≤ 1048576 := by omega
  clear hA0 hval
  simp only [List.append_nil, List.nil_append] at hW'
  obtain ⟨m, hm⟩ := cellM W hsh
  refine (Go.Ab.law_run (E0ok m) (show Go.Ab.callW (E0 m) 8 [.c (.d (.sc (.string a0))), .c (.d (.sc (.string a1)))] [] = some (.v (.c (.d (.sc (.bool true)))), []) from by rw [show a0 = Go.Ab.S a0.data.toList from rfl, show a1 = Go.Ab.S a1.data.toList from rfl, f8_t, Go.Ab.t8_true (by unfold Go.Ab.SZ; omega) (by unfold Go.Ab.SZ; omega)]; rfl) (base_ok m W hm (fun g k l h i x hx => by cases h)) (vs := [.string a0, .string a1]) (.cons (.sc (.string a0) rfl) (.cons (.sc (.string a1) rfl) .nil))).mono fun e' W' ⟨he, hb⟩ => ?_
  subst he
  exact ⟨_, rfl, _, _, _, [], [], [], hW', trodAll_cons_mk (shut_bool Tryd.underlying4 _) trodAll_mk0, (trodAll_cons_mk (Go.ChangeMaps.shut_string Tryd.underlying9 w0) (trodAll_cons_mk (Go.ChangeMaps.shut_string Tryd.underlying9 w1) trodAll_mk0)), rfl, hb.frame _, fun h => by cases h⟩
theorem said : Rows.TextFormsUptoSaid :=
  OpenClaim.holds_of_cond 8 Tryd.f8 rfl rfl rfl rfl rfl rfl rfl ⟨rfl, rfl, rfl, rfl, rfl⟩ rfl rfl rfl rfl rfl (by kernel_rfl) Tryd.func8 (by kernel_rfl)
    (of_decide_eq_true (by kernel_rfl)) (by unfold Func.isWrapper; first | (rw [if_pos (by decide +kernel)]; kernel_rfl) | (rw [if_neg (by decide +kernel)]; exact ⟨rfl, rfl⟩))
    (fun os started H enc _ F => by rw [OpenClaim.pre_eq_preRow]; exact lifted os started H enc F)
theorem plain (f : FuncId) (fn : Func) (hf : Tryd.pinned.checked.prog.funcNamed "tollhouse/tollhouselaw02.TextForms" = some f) (hfn : Tryd.pinned.checked.prog.funcs[f]? = some fn) :
    false = Tryd.pinned.checked.prog.looks [] ∧ ∀ (j : Nat) t, fn.params[j]? = some t → Tryd.pinned.checked.prog.wantsStandIn t = false := by
  obtain rfl : f = 8 := Option.some.inj ((show Tryd.prog.funcNamed "tollhouse/tollhouselaw02.TextForms" = some 8 by kernel_rfl).symm.trans hf) |>.symm
  obtain rfl : fn = Tryd.f8 := (Option.some.inj (Tryd.func8.symm.trans hfn)).symm
  refine ⟨by kernel_rfl, fun j t ht => ?_⟩
  rw [Tryd.params8] at ht
  rcases j with _ | _ | j <;> simp at ht <;> subst ht <;> kernel_rfl
theorem card : Rows.TextFormsUptoCardSaid :=
  Claim7.holds_tied_plain_at .later [] _ _ _ _ said (fun _ h => by cases h) (by kernel_rfl) (fun _ h => by cases h) textFormsUpto_row_tie rfl ⟨rfl, rfl⟩ (by kernel_rfl) rfl plain (by kernel_rfl)
end Go.Proofs.YtcjkhdkfdnjhaaaDoor.fnTextForms
