/- DateTexts: Any moment's text is the document's. For every input the law returns true, and what was there reads as it did. No condition. -/
import Derived.Test.YtgelejbmmbgddaaRows
import Derived.Test.YtgelejbmmbgddaaP4f
import Derived.WalkKit
import Derived.ProofKit
import Derived.OpenShut
import Derived.ChangeMaps5
import Derived.HandedShaped
set_option linter.unusedVariables false
set_option linter.unusedSimpArgs false
namespace Go.Proofs.Ytgelejbmmbgddaa
open Go.ChangeShapes Go.WideShapes Go.ChangeAt Go.RowKit
theorem nn {n : Int} (h : (Lit.int .u64 n).wf = true) : 0 ≤ n := by
  have h2 : (decide (IntKind.min .u64 ≤ n) && decide (n ≤ IntKind.max .u64)) = true := h
  rw [Bool.and_eq_true] at h2
  exact of_decide_eq_true h2.1
theorem own3 : ownKnob Try.prog.godebug = none := by kernel_rfl
set_option maxRecDepth 100000 in
theorem lifted3 (os : Os) (started : os.Started) (H : Type) (enc : TypeId × Value → H) :
    ReturnsInHanded {} Try.checked os 3 .any (Rows.dateTextsSpec.pre6 enc Try.prog Try.f3 Rows.dateTextsRow.domain false) (Rows.dateTextsSpec.post enc Try.prog Try.f3 false true false false) := by
  refine returnsInHanded_of_change_shaped (C := Try.checked) own3 started (by kernel_rfl) Try.func3
    (ChangeSpec.witness6 (enc := enc) (C := Try.checked) false ⟨#[], #[.int .u64 0], []⟩ 8 (by kernel_rfl) (by kernel_rfl) (by kernel_rfl) (by kernel_rfl)) ?_
  intro W base args ds gs before hval0 hW hcnd _ hsh _
  have hW' := hW
  obtain ⟨p, q, hA0, hV, rfl, hfz, hnd⟩ := hW
  have hA : DataW.TrodAll enc Try.prog W 0 (fun _ => true) true Try.f3.params.toList args.toList ds p := hA0
  rw [Try.params3] at hA
  have hv := hval0
  rw [Try.params3] at hv
  obtain ⟨v0, vs0, d0, ds0, p0, q0, hargs, rfl, rfl, h0, r0⟩ := trodAll_cons hA
  obtain ⟨rfl, rfl, rfl⟩ := trodAll_nil r0
  obtain rfl : args = #[v0] := by
    obtain ⟨l⟩ := args
    simp only at hargs
    rw [hargs]
  obtain ⟨a0, rfl, rfl, rfl, w0⟩ := open_int Try.underlying22 (hv 0 22 v0 rfl rfl) h0
  obtain ⟨rfl, rfl⟩ := trodVars_none hV
  clear hA0 hval0
  simp only [List.append_nil, List.nil_append] at hW'
  obtain ⟨m, hm⟩ : ∃ m, W.cell? ⟨0, 0, none⟩ = some (.int .i64 m) := cellM W hsh
  refine (Go.Ab.law_run (E0ok m) (show Go.Ab.callW (E0 m) 3 [.c (.d (.sc (.int .u64 a0)))] [] = some (.v (.c (.d (.sc (.bool true)))), []) from by rw [f3_t, Go.Ab.m3_true (nn w0)]; rfl) (base_ok m W hm) (vs := [.int .u64 a0]) (.cons (.sc (.int .u64 a0) rfl) .nil)).mono fun e W' ⟨he, hb⟩ => ?_
  subst he
  exact ⟨_, rfl, _, _, _, [], [], [], hW', trodAll_cons_mk (shut_bool Try.underlying4 _) trodAll_mk0, (trodAll_cons_mk (shut_int Try.underlying22 w0) trodAll_mk0), rfl, hb.frame _, fun h => by cases h⟩
theorem over3 : Rows.dateTextsRow.holds Try.pinned (OpenSpec.ofChange Rows.dateTextsSpec) :=
  OpenClaim.holds_of_wide 3 Try.f3 rfl rfl rfl rfl rfl rfl rfl ⟨rfl, rfl, rfl, rfl, rfl⟩ rfl rfl rfl rfl rfl (by kernel_rfl) Try.func3 (by kernel_rfl)
    (of_decide_eq_true (by kernel_rfl)) (by unfold Func.isWrapper; first | (rw [if_pos (by decide +kernel)]; kernel_rfl) | (rw [if_neg (by decide +kernel)]; exact ⟨rfl, rfl⟩))
    (fun os started H enc _ => lifted3 os started H enc)
theorem dateTexts_proved : Rows.DateTextsSaid := over3
end Go.Proofs.Ytgelejbmmbgddaa
