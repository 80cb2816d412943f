/- Each error but OK has a status whose response is a fault's, and unlike statuses have unlike responses: for any two errors and any field. -/
import Derived.Test.YtfcjicedphacfaaDoorCards
import Derived.Test.YtfcjicedphacfaaDoorTie
import Derived.Test.YtfcjicedphacfaaDoorLaw3
import Derived.WalkKit
import Derived.ProofKit
import Derived.OpenShut
import Derived.Deep.DeepHandedRow
import Derived.Lib.SmallJoins
import Derived.Deep.Slices
set_option linter.unusedVariables false
set_option linter.unusedSimpArgs false
namespace Go.Proofs.YtfcjicedphacfaaDoor.fnFaultApart
open Go.ChangeShapes Go.WideShapes Go.ChangeAt Go.RowKit
theorem own : ownKnob Tryd.prog.godebug = none := by kernel_rfl
def cellsD (l : List (DataW Unit)) : List Value := l.flatMap fun d => match d with
  | .lit (.int k n) => [.int k n]
  | .agg ps => ps.flatMap fun q => match q with
    | .lit (.int k n) => [.int k n]
    | _ => []
  | _ => []
def partsD : DataW Unit → List (DataW Unit)
  | .agg ps => ps
  | _ => []
def wargs : Array Value := #[.int .i64 0, .int .i64 0, .agg #[.string .empty, .string .empty]]
/-- so many blocks has the settled world -/
noncomputable def low : Nat := (World.holding Tryd.prog default ⟨#[], wargs, []⟩).heap.size
noncomputable def laidWorld (os : Os) : World :=
  { World.holding Tryd.prog os ⟨#[], wargs, []⟩ with heap := ((((((World.holding Tryd.prog os ⟨#[], wargs, []⟩).heap.modify 4 fun | .cells _ t fz => .cells (cellsD (partsD Rows.laid_math_bits_deBruijn32tab)).toArray t fz | o => o).modify 5 fun | .cells _ t fz => .cells (cellsD (partsD Rows.laid_math_bits_deBruijn64tab)).toArray t fz | o => o).modify 0 fun | .cells _ t fz => .cells (cellsD (partsD Rows.laid_internal_strconv_uint64pow10)).toArray t fz | o => o).modify 3 fun | .cells _ t fz => .cells (cellsD (partsD Rows.laid_unicode_utf8_acceptRanges)).toArray t fz | o => o).modify 2 fun | .cells _ t fz => .cells (cellsD (partsD Rows.laid_unicode_utf8_first)).toArray t fz | o => o) }
theorem laid_met (os : Os) : laidMet Tryd.prog Rows.faultApartRow.laid ((laidWorld os).forCall (fun _ _ => 0) ⟨#[], wargs, []⟩).memory :=
  laidMet_of_run' 8 (by kernel_rfl) (by kernel_rfl)
theorem reads (os : Os) {H : Type} (enc : TypeId × Value → H) : ∃ places, DataW.whole enc Tryd.prog ((laidWorld os).forCall (fun _ _ => 0) ⟨#[], wargs, []⟩).memory Tryd.f3.params.toList Rows.faultApartSpec.vars false wargs.toList 8 = some ([.lit (.int .i64 0), .lit (.int .i64 0), .agg [.lit (.string []), .lit (.string [])]], [], places) :=
  ⟨[], by kernel_rfl⟩
set_option maxRecDepth 100000 in
theorem lifted (os : Os) (started : os.Started) (H : Type) (enc : TypeId × Value → H) (F : Stop.Interp) :
    ReturnsInHanded {} Tryd.checked os 3 .any ((OpenSpec.ofChange Rows.faultApartSpec).preRow enc Tryd.prog Tryd.f3 Rows.faultApartRow.domain false Rows.faultApartRow.laid) (((OpenSpec.ofChange Rows.faultApartSpec).at F).post enc Tryd.prog Tryd.f3 false true false false) := by
  obtain ⟨places, hx⟩ := reads os enc
  refine returnsInHanded_of_row (C := Tryd.checked) (s := OpenSpec.ofChange Rows.faultApartSpec) own started (by kernel_rfl) Tryd.func3
    (witness_row_at (enc := enc) (C := Tryd.checked) false (laidWorld os) wargs rfl (by kernel_rfl) (by kernel_rfl) (by kernel_rfl)
      (OpenSpec.preRow_of_cond 8 hx (by kernel_rfl) (fun k hk => by cases hk) (by kernel_rfl) (laid_met os))) ?_
  intro W base args ds gs before hval hW _ _ _ hL hsh _
  have hW' := hW
  obtain ⟨p, q, hA0, hV, rfl, hfz, hnd⟩ := hW
  have hA : DataW.TrodAll enc Tryd.prog W 0 (fun _ => true) true Tryd.f3.params.toList args.toList ds p := hA0
  rw [Tryd.params3] at hA
  obtain ⟨v0, vs0, d0, ds0, p0, q0, hargs, rfl, rfl, h0, r0⟩ := trodAll_cons hA
  obtain ⟨v1, vs1, d1, ds1, p1, q1, rfl, rfl, rfl, h1, r1⟩ := trodAll_cons r0
  obtain ⟨v2, vs2, d2, ds2, p2, q2, rfl, rfl, rfl, h2, r2⟩ := trodAll_cons r1
  obtain ⟨rfl, rfl, rfl⟩ := trodAll_nil r2
  obtain rfl : args = #[v0, v1, v2] := by
    obtain ⟨l⟩ := args
    simp only at hargs
    rw [hargs]
  have hv := hval
  rw [Tryd.params3] at hv
  obtain ⟨rfl, rfl⟩ := trodVars_none hV
  obtain ⟨e, rfl, rfl, rfl, w0⟩ := open_int Tryd.underlying22 (hv 0 22 v0 rfl rfl) h0
  obtain ⟨f, rfl, rfl, rfl, w1⟩ := open_int Tryd.underlying22 (hv 1 22 v1 rfl rfl) h1
  obtain ⟨u0, u1, y0, y1, n, rfl, rfl, rfl, g0, g1⟩ := Go.Joins.open_agg2 Tryd.underlying24 (by kernel_rfl) (by kernel_rfl) (hv 2 24 v2 rfl rfl) h2
  obtain ⟨s1, k1, rfl, z1⟩ := DataW.trod_string (Tryd.underlying9) g0
  obtain ⟨s2, k2, rfl, z2⟩ := DataW.trod_string (Tryd.underlying9) g1
  simp only [List.cons.injEq, and_true] at k1 k2
  subst k1 k2
  clear hA0 hval
  simp only [List.append_nil, List.nil_append] at hW'
  obtain ⟨m, hm⟩ := cellM W hsh
  refine (Go.Ab.law_run (E0_2ok m) (law_all m f s1 s2 e) (base_ok m W hm (fun g k l h i x hx => by
    unfold tabT at h
    split at h
    · cases h; exact Go.Ab.laid_ints hL (by kernel_rfl) (n := "internal/strconv.uint64pow10") (l := _) (k := .u64) (N := 20) (.tail _ (.tail _ (.head _))) (by kernel_rfl) (by kernel_rfl) Tryd.underlying105 Tryd.underlying87 (by kernel_rfl) rfl i x hx
    · cases h; exact Go.Ab.laid_ints hL (by kernel_rfl) (n := "math/bits.deBruijn32tab") (l := _) (k := .u8) (N := 32) (.head _) (by kernel_rfl) (by kernel_rfl) Tryd.underlying119 Tryd.underlying5 (by kernel_rfl) rfl i x hx
    · cases h; exact Go.Ab.laid_ints hL (by kernel_rfl) (n := "math/bits.deBruijn64tab") (l := _) (k := .u8) (N := 64) (.tail _ (.head _)) (by kernel_rfl) (by kernel_rfl) Tryd.underlying120 Tryd.underlying5 (by kernel_rfl) rfl i x hx
    · cases h)) (vs := [.int .i64 e, .int .i64 f, .agg #[.string s1, .string s2]]) (.cons (.sc (.int .i64 e) rfl) (.cons (.sc (.int .i64 f) rfl) (.cons ⟨[.string s1, .string s2], rfl, .cons (.sc (.string s1) rfl) (.cons (.sc (.string s2) rfl) .nil)⟩ .nil)))).mono fun e' W' ⟨he, hb⟩ => ?_
  subst he
  exact ⟨_, rfl, _, _, _, [], [], [], hW', trodAll_cons_mk (shut_bool Tryd.underlying4 _) trodAll_mk0,
    trodAll_cons_mk (shut_int Tryd.underlying22 w0) (trodAll_cons_mk (shut_int Tryd.underlying22 w1) (trodAll_cons_mk (Go.Joins.shut_agg2 (y0 := (.lit (.string s1.data.toList), [])) (y1 := (.lit (.string s2.data.toList), [])) Tryd.underlying24 (by kernel_rfl) (by kernel_rfl) (Go.Deep.shut_string_cell Tryd.underlying9 z1) (Go.Deep.shut_string_cell Tryd.underlying9 z2)) trodAll_mk0)), rfl, hb.frame _, fun h => by cases h⟩
theorem said : Rows.FaultApartSaid :=
  OpenClaim.holds_of_cond 3 Tryd.f3 rfl rfl rfl rfl rfl rfl rfl ⟨rfl, rfl, rfl, rfl, rfl⟩ rfl rfl rfl rfl rfl (by kernel_rfl) Tryd.func3 (by kernel_rfl)
    (of_decide_eq_true (by kernel_rfl)) (by unfold Func.isWrapper; first | (rw [if_pos (by decide +kernel)]; kernel_rfl) | (rw [if_neg (by decide +kernel)]; exact ⟨rfl, rfl⟩))
    (fun os started H enc _ F => by rw [OpenClaim.pre_eq_preRow]; exact lifted os started H enc F)
theorem plain (f : FuncId) (fn : Func) (hf : Tryd.pinned.checked.prog.funcNamed "tollhouse/tollhouselaw22.FaultApart" = some f) (hfn : Tryd.pinned.checked.prog.funcs[f]? = some fn) :
    false = Tryd.pinned.checked.prog.looks [] ∧ ∀ (j : Nat) t, fn.params[j]? = some t → Tryd.pinned.checked.prog.wantsStandIn t = false := by
  obtain rfl : f = 3 := Option.some.inj ((show Tryd.prog.funcNamed "tollhouse/tollhouselaw22.FaultApart" = some 3 by kernel_rfl).symm.trans hf) |>.symm
  obtain rfl : fn = Tryd.f3 := (Option.some.inj (Tryd.func3.symm.trans hfn)).symm
  refine ⟨by kernel_rfl, fun j t ht => ?_⟩
  rw [Tryd.params3] at ht
  rcases j with _ | _ | _ | j <;> simp at ht <;> subst ht <;> kernel_rfl
theorem card : Rows.FaultApartCardSaid :=
  Claim7.holds_tied_plain_at .later [] _ _ _ _ said (fun _ h => by cases h) (by kernel_rfl) (fun _ h => by cases h) faultApart_row_tie rfl ⟨rfl, rfl⟩ (by kernel_rfl) rfl plain (by kernel_rfl)
end Go.Proofs.YtfcjicedphacfaaDoor.fnFaultApart
