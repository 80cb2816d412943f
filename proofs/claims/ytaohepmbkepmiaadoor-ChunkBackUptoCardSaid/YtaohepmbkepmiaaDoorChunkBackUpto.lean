/- ChunkBack: There and back, whatever stands behind; of a beginning more is wanted. For every input of bulk at most 1048576 the law returns true, and what was there reads as it did. Condition: the bulk of the arguments is at most 1048576. -/
import Derived.Test.YtaohepmbkepmiaaDoorCards
import Derived.Test.YtaohepmbkepmiaaDoorTie
import Derived.Test.YtaohepmbkepmiaaDoorEv8
import Derived.Test.YtaohepmbkepmiaaDoorLawBack1
import Derived.WalkKit
import Derived.ProofKit
import Derived.OpenShut
import Derived.Deep.DeepHandedRow
import Derived.Lib.SmallJoins
import Derived.Deep.Slices
import Derived.ChangeMaps5
import Derived.Carry
set_option linter.unusedVariables false
set_option linter.unusedSimpArgs false
namespace Go.Ab
open Go Go.Proofs Go.Proofs.YtaohepmbkepmiaaDoor
theorem opnT5 : Opn Tryd.prog 5 (fun x : UInt8 => [.sc (.int .u8 (x.toNat : Int))]) (fun x : UInt8 => 1) (fun x : UInt8 => True) :=
  opn_u8 Tryd.underlying5
theorem opnE22 : Opn Tryd.prog 5 (enB : UInt8 → List D) (fun y : UInt8 => 1) (fun y : UInt8 => True) :=
  Opn.map opnT5 (fun x : UInt8 => (x)) (fun _ => rfl) (fun _ => Nat.le_refl _) (fun _ h => h)
theorem opnT22 : Opn Tryd.prog 22 (fun x : (Bool × List UInt8) => [.lst x.1 (enL enB x.2)]) (fun x : (Bool × List UInt8) => ((List.map (fun y : UInt8 => 1) x.2).sum + 1)) (fun x : (Bool × List UInt8) => ((x.1 = true → x.2 = []) ∧ x.2.length ≤ maxLen ∧ ∀ y ∈ x.2, True)) :=
  opn_slice (k := 1) Tryd.underlying22 (by kernel_rfl) opnE22 (fun _ => rfl) (by decide)
theorem opnE31 : Opn Tryd.prog 22 (en0 : (Bool × List UInt8) → List D) (fun y : (Bool × List UInt8) => ((List.map (fun y : UInt8 => 1) y.2).sum + 1)) (fun y : (Bool × List UInt8) => ((y.1 = true → y.2 = []) ∧ y.2.length ≤ maxLen ∧ ∀ yq ∈ y.2, True)) :=
  Opn.map opnT22 (fun x : (Bool × List UInt8) => (x)) (fun _ => rfl) (fun _ => Nat.le_refl _) (fun _ h => h)
theorem opnT31 : Opn Tryd.prog 31 (fun x : (Bool × List (Bool × List UInt8)) => [.lst x.1 (enL en0 x.2)]) (fun x : (Bool × List (Bool × List UInt8)) => ((List.map (fun y : (Bool × List UInt8) => ((List.map (fun y : UInt8 => 1) y.2).sum + 1)) x.2).sum + 1)) (fun x : (Bool × List (Bool × List UInt8)) => ((x.1 = true → x.2 = []) ∧ x.2.length ≤ maxLen ∧ ∀ y ∈ x.2, ((y.1 = true → y.2 = []) ∧ y.2.length ≤ maxLen ∧ ∀ yq ∈ y.2, True))) :=
  opn_slice (k := 1) Tryd.underlying31 (by kernel_rfl) opnE31 (fun _ => rfl) (by decide)
theorem opnT37 : Opn Tryd.prog 37 (fun x : Int => [.sc (.int .u16 x)]) (fun x : Int => 1) (fun x : Int => ((Lit.int .u16 x).wf = true)) :=
  opn_int Tryd.underlying37
end Go.Ab
namespace Go.Proofs.YtaohepmbkepmiaaDoor.fnChunkBack
open Go.Ab (enL enB enS enSS enN S Bs)
open Go.ChangeShapes Go.WideShapes Go.ChangeAt Go.RowKit
theorem own : ownKnob Tryd.prog.godebug = none := by kernel_rfl
def cellsD (l : List (DataW Unit)) : List Value := l.flatMap fun d => match d with
  | .lit (.int k n) => [.int k n]
  | .agg ps => ps.flatMap fun q => match q with
    | .lit (.int k n) => [.int k n]
    | _ => []
  | _ => []
def partsD : DataW Unit → List (DataW Unit)
  | .agg ps => ps
  | _ => []
def wargs : Array Value := #[.slice none 0 0, .slice none 0 0, .int .u16 0]
noncomputable def low : Nat := (World.holding Tryd.prog default ⟨#[], wargs, []⟩).heap.size
noncomputable def laidWorld (os : Os) : World :=
  { World.holding Tryd.prog os ⟨#[], wargs, []⟩ with heap := ((((((World.holding Tryd.prog os ⟨#[], wargs, []⟩).heap.modify 4 fun | .cells _ t fz => .cells (cellsD (partsD Rows.laid_math_bits_deBruijn32tab)).toArray t fz | o => o).modify 5 fun | .cells _ t fz => .cells (cellsD (partsD Rows.laid_math_bits_deBruijn64tab)).toArray t fz | o => o).modify 1 fun | .cells _ t fz => .cells (cellsD (partsD Rows.laid_internal_strconv_uint64pow10)).toArray t fz | o => o).modify 3 fun | .cells _ t fz => .cells (cellsD (partsD Rows.laid_unicode_utf8_acceptRanges)).toArray t fz | o => o).modify 2 fun | .cells _ t fz => .cells (cellsD (partsD Rows.laid_unicode_utf8_first)).toArray t fz | o => o) }
theorem laid_met (os : Os) : laidMet Tryd.prog Rows.chunkBackUptoRow.laid ((laidWorld os).forCall (fun _ _ => 0) ⟨#[], wargs, []⟩).memory :=
  laidMet_of_run' 8 (by kernel_rfl) (by kernel_rfl)
theorem reads (os : Os) {H : Type} (enc : TypeId × Value → H) : ∃ places, DataW.whole enc Tryd.prog ((laidWorld os).forCall (fun _ _ => 0) ⟨#[], wargs, []⟩).memory Tryd.f6.params.toList Rows.chunkBackSpec.vars false wargs.toList 8 = some ([.nil, .nil, .lit (.int .u16 0)], [], places) :=
  ⟨[], by kernel_rfl⟩
theorem params_ok : ∀ t ∈ [31, 22, 37], Tryd.prog.readableRec t = true ∧ t < Tryd.prog.types.size := by
  intro t ht
  simp only [List.mem_cons, List.not_mem_nil, or_false] at ht
  rcases ht with rfl | rfl | rfl <;> exact ⟨by kernel_rfl, of_decide_eq_true (by kernel_rfl)⟩
theorem lit_bulk {H : Type} (l : Lit) : 1 ≤ Rows.uptoBulk (.lit l : DataW H) := by
  cases l <;> simp [Rows.uptoBulk]
def bulkK (H : Type) : Go.Ab.Blk H := ⟨Rows.uptoBulk, Rows.uptoBulkAll, fun _ => by simp [Rows.uptoBulk], lit_bulk, by simp [Rows.uptoBulk], fun _ _ => by simp [Rows.uptoBulk], fun _ => by simp [Rows.uptoBulk], by simp [Rows.uptoBulkAll], fun _ _ => by simp [Rows.uptoBulkAll]⟩
set_option maxRecDepth 100000 in
theorem lifted (os : Os) (started : os.Started) (H : Type) (enc : TypeId × Value → H) (F : Stop.Interp) :
    ReturnsInHanded {} Tryd.checked os 6 .any ((Rows.OpenSpec.upto Rows.chunkBackSpec).preRow enc Tryd.prog Tryd.f6 Rows.chunkBackUptoRow.domain false Rows.chunkBackUptoRow.laid) (((Rows.OpenSpec.upto Rows.chunkBackSpec).at F).post enc Tryd.prog Tryd.f6 false true false false) := by
  obtain ⟨places, hx⟩ := reads os enc
  refine returnsInHanded_of_row (C := Tryd.checked) (s := Rows.OpenSpec.upto Rows.chunkBackSpec) own started (by kernel_rfl) Tryd.func6
    (witness_row_at (enc := enc) (C := Tryd.checked) false (laidWorld os) wargs rfl (by kernel_rfl) (by kernel_rfl) (by kernel_rfl)
      (OpenSpec.preRow_of_cond 8 hx (by kernel_rfl) (fun k hk => by cases hk; kernel_rfl) (by kernel_rfl) (laid_met os))) ?_
  intro W base args ds gs before hval hW _ hcond hwt hL hsh _
  have hW' := hW
  obtain ⟨p, q, hA0, hV, rfl, hfz, hnd⟩ := hW
  have hA : DataW.TrodAll enc Tryd.prog W 0 (fun _ => true) true Tryd.f6.params.toList args.toList ds p := hA0
  rw [Tryd.params6] at hA
  have hA1 := hA
  have hv := hval
  rw [Tryd.params6] at hv
  obtain ⟨rfl, rfl⟩ := trodVars_none hV
  obtain ⟨v0, vs0, d0, ds0, p0, q0, hargs, rfl, rfl, h0, r0⟩ := trodAll_cons hA
  obtain ⟨v1, vs1, d1, ds1, p1, q1, rfl, rfl, rfl, h1, r1⟩ := trodAll_cons r0
  obtain ⟨v2, vs2, d2, ds2, p2, q2, rfl, rfl, rfl, h2, r2⟩ := trodAll_cons r1
  obtain ⟨rfl, rfl, rfl⟩ := trodAll_nil r2
  obtain rfl : args = #[v0, v1, v2] := by
    obtain ⟨l⟩ := args
    simp only at hargs
    rw [hargs]
  obtain ⟨x0, g0, o0, B0⟩ := Go.Ab.arg_cell Go.Ab.opnT31 Tryd.underlying31 rfl (hv 0 31 v0 rfl rfl) h0
  obtain ⟨x1, g1, o1, B1⟩ := Go.Ab.arg_cell Go.Ab.opnT22 Tryd.underlying22 rfl (hv 1 22 v1 rfl rfl) h1
  obtain ⟨x2, g2, o2, B2⟩ := Go.Ab.arg_cell Go.Ab.opnT37 Tryd.underlying37 rfl (hv 2 37 v2 rfl rfl) h2
  have hk : Rows.uptoBulkAll ([d0, d1, d2] : List (DataW H)) ≤ 1048576 := of_decide_eq_true (hcond _ rfl)
  simp only [Rows.uptoBulkAll] at hk
  replace B0 : _ ≤ Rows.uptoBulk d0 := B0 (bulkK H)
  replace B1 : _ ≤ Rows.uptoBulk d1 := B1 (bulkK H)
  replace B2 : _ ≤ Rows.uptoBulk d2 := B2 (bulkK H)
  clear hA0 hval
  simp only [List.append_nil, List.nil_append] at hW' hA1
  have hlt := hW'.lt
  obtain ⟨m, hm⟩ := cellM W hsh
  refine (Go.Ab.law_run (E0ok m) (show Go.Ab.callW (E0 m) 6 [.c (.d (.lst x0.1 (enL en0 x0.2))), .c (.d (.lst x1.1 (enL enB x1.2))), .c (.d (.sc (.int .u16 x2)))] [] = some (.v (.c (.d (.sc (.bool true)))), []) from by have h2 := Go.Ab.bsz_le x1.2; have h3 := Go.Ab.bounds_u16 o2; (try simp only at B0 B1 B2); have h := Nat.le_trans (Go.Ab.psz x0.2).1 (Nat.le_of_succ_le B0); have h1 := fun p hp => Nat.le_trans ((Go.Ab.psz x0.2).2 p hp) (Nat.le_of_succ_le B0); rw [f6_t, Go.Ab.chunkBack _ _ _ _ _ (by omega) (fun p hp => by have := h1 p hp; omega) (by omega) h3.1 h3.2]; rfl) (base_ok m W hm (fun g k l h i x hx => by
    unfold tabT at h
    split at h
    · cases h; exact Go.Ab.laid_ints hL (by kernel_rfl) (n := "internal/strconv.uint64pow10") (l := _) (k := .u64) (N := 20) (.tail _ (.tail _ (.head _))) (by kernel_rfl) (by kernel_rfl) Tryd.underlying112 Tryd.underlying43 (by kernel_rfl) rfl i x hx
    · cases h; exact Go.Ab.laid_ints hL (by kernel_rfl) (n := "math/bits.deBruijn32tab") (l := _) (k := .u8) (N := 32) (.head _) (by kernel_rfl) (by kernel_rfl) Tryd.underlying122 Tryd.underlying5 (by kernel_rfl) rfl i x hx
    · cases h; exact Go.Ab.laid_ints hL (by kernel_rfl) (n := "math/bits.deBruijn64tab") (l := _) (k := .u8) (N := 64) (.tail _ (.head _)) (by kernel_rfl) (by kernel_rfl) Tryd.underlying123 Tryd.underlying5 (by kernel_rfl) rfl i x hx
    · cases h)) (vs := [v0, v1, v2]) (.cons g0 (.cons g1 (.cons g2 .nil)))).mono fun e' W' ⟨he, hb⟩ => ?_
  subst he
  exact ⟨_, rfl, _, _, _, [], _, [], hW', trodAll_cons_mk (shut_bool Tryd.underlying4 _) trodAll_mk0, Go.Ab.below_trodAll (by kernel_rfl) hb params_ok (fun x hx => hlt x (by first | exact hx | simpa using hx)) hA1, rfl, hb.frame _, fun h => by cases h⟩
theorem said : Rows.ChunkBackUptoSaid :=
  OpenClaim.holds_of_cond 6 Tryd.f6 rfl rfl rfl rfl rfl rfl rfl ⟨rfl, rfl, rfl, rfl, rfl⟩ rfl rfl rfl rfl rfl (by kernel_rfl) Tryd.func6 (by kernel_rfl)
    (of_decide_eq_true (by kernel_rfl)) (by unfold Func.isWrapper; first | (rw [if_pos (by decide +kernel)]; kernel_rfl) | (rw [if_neg (by decide +kernel)]; exact ⟨rfl, rfl⟩))
    (fun os started H enc _ F => by rw [OpenClaim.pre_eq_preRow]; exact lifted os started H enc F)
theorem plain (f : FuncId) (fn : Func) (hf : Tryd.pinned.checked.prog.funcNamed "tollhouse/tollhouselaw08.ChunkBack" = some f) (hfn : Tryd.pinned.checked.prog.funcs[f]? = some fn) :
    false = Tryd.pinned.checked.prog.looks [] ∧ ∀ (j : Nat) t, fn.params[j]? = some t → Tryd.pinned.checked.prog.wantsStandIn t = false := by
  obtain rfl : f = 6 := Option.some.inj ((show Tryd.prog.funcNamed "tollhouse/tollhouselaw08.ChunkBack" = some 6 by kernel_rfl).symm.trans hf) |>.symm
  obtain rfl : fn = Tryd.f6 := (Option.some.inj (Tryd.func6.symm.trans hfn)).symm
  refine ⟨by kernel_rfl, fun j t ht => ?_⟩
  rw [Tryd.params6] at ht
  rcases j with _ | _ | _ | j <;> simp at ht <;> subst ht <;> kernel_rfl
theorem card : Rows.ChunkBackUptoCardSaid :=
  Claim7.holds_tied_plain_at .later [] _ _ _ _ said (fun _ h => by cases h) (by kernel_rfl) (fun _ h => by cases h) chunkBackUpto_row_tie rfl ⟨rfl, rfl⟩ (by kernel_rfl) rfl plain (by kernel_rfl)
end Go.Proofs.YtaohepmbkepmiaaDoor.fnChunkBack
