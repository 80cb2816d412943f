/- ChunkTakes: What bytes say is the document's; they stay, what is answered is new memory. For every input the law returns true, and what was there reads as it did. -/
import Derived.Test.YtaohepmbkepmiaaDoorCards
import Derived.Test.YtaohepmbkepmiaaDoorTie
import Derived.Test.YtaohepmbkepmiaaDoorEv8
import Derived.Test.YtaohepmbkepmiaaDoorLawTakes1
import Derived.WalkKit
import Derived.ProofKit
import Derived.OpenShut
import Derived.Deep.DeepHandedRow
import Derived.Lib.SmallJoins
import Derived.Deep.Slices
import Derived.ChangeMaps5
import Derived.Carry
set_option linter.unusedVariables false
set_option linter.unusedSimpArgs false
namespace Go.Ab
open Go Go.Proofs Go.Proofs.YtaohepmbkepmiaaDoor
theorem opnT5 : Opn Tryd.prog 5 (fun x : UInt8 => [.sc (.int .u8 (x.toNat : Int))]) (fun x : UInt8 => 1) (fun x : UInt8 => True) :=
  opn_u8 Tryd.underlying5
theorem opnE22 : Opn Tryd.prog 5 (enB : UInt8 → List D) (fun y : UInt8 => 1) (fun y : UInt8 => True) :=
  Opn.map opnT5 (fun x : UInt8 => (x)) (fun _ => rfl) (fun _ => Nat.le_refl _) (fun _ h => h)
theorem opnT22 : Opn Tryd.prog 22 (fun x : (Bool × List UInt8) => [.lst x.1 (enL enB x.2)]) (fun x : (Bool × List UInt8) => ((List.map (fun y : UInt8 => 1) x.2).sum + 1)) (fun x : (Bool × List UInt8) => ((x.1 = true → x.2 = []) ∧ x.2.length ≤ maxLen ∧ ∀ y ∈ x.2, True)) :=
  opn_slice (k := 1) Tryd.underlying22 (by kernel_rfl) opnE22 (fun _ => rfl) (by decide)
end Go.Ab
namespace Go.Proofs.YtaohepmbkepmiaaDoor.fnChunkTakes
open Go.Ab (enL enB enS enSS enN S Bs)
open Go.ChangeShapes Go.WideShapes Go.ChangeAt Go.RowKit
theorem own : ownKnob Tryd.prog.godebug = none := by kernel_rfl
def cellsD (l : List (DataW Unit)) : List Value := l.flatMap fun d => match d with
  | .lit (.int k n) => [.int k n]
  | .agg ps => ps.flatMap fun q => match q with
    | .lit (.int k n) => [.int k n]
    | _ => []
  | _ => []
def partsD : DataW Unit → List (DataW Unit)
  | .agg ps => ps
  | _ => []
def wargs : Array Value := #[.slice none 0 0]
noncomputable def low : Nat := (World.holding Tryd.prog default ⟨#[], wargs, []⟩).heap.size
noncomputable def laidWorld (os : Os) : World :=
  { World.holding Tryd.prog os ⟨#[], wargs, []⟩ with heap := ((((((World.holding Tryd.prog os ⟨#[], wargs, []⟩).heap.modify 4 fun | .cells _ t fz => .cells (cellsD (partsD Rows.laid_math_bits_deBruijn32tab)).toArray t fz | o => o).modify 5 fun | .cells _ t fz => .cells (cellsD (partsD Rows.laid_math_bits_deBruijn64tab)).toArray t fz | o => o).modify 1 fun | .cells _ t fz => .cells (cellsD (partsD Rows.laid_internal_strconv_uint64pow10)).toArray t fz | o => o).modify 3 fun | .cells _ t fz => .cells (cellsD (partsD Rows.laid_unicode_utf8_acceptRanges)).toArray t fz | o => o).modify 2 fun | .cells _ t fz => .cells (cellsD (partsD Rows.laid_unicode_utf8_first)).toArray t fz | o => o) }
theorem laid_met (os : Os) : laidMet Tryd.prog Rows.chunkTakesRow.laid ((laidWorld os).forCall (fun _ _ => 0) ⟨#[], wargs, []⟩).memory :=
  laidMet_of_run' 8 (by kernel_rfl) (by kernel_rfl)
theorem reads (os : Os) {H : Type} (enc : TypeId × Value → H) : ∃ places, DataW.whole enc Tryd.prog ((laidWorld os).forCall (fun _ _ => 0) ⟨#[], wargs, []⟩).memory Tryd.f3.params.toList Rows.chunkTakesSpec.vars false wargs.toList 8 = some ([.nil], [], places) :=
  ⟨[], by kernel_rfl⟩
theorem params_ok : ∀ t ∈ [22], Tryd.prog.readableRec t = true ∧ t < Tryd.prog.types.size := by
  intro t ht
  simp only [List.mem_cons, List.not_mem_nil, or_false] at ht
  rcases ht with rfl <;> exact ⟨by kernel_rfl, of_decide_eq_true (by kernel_rfl)⟩
set_option maxRecDepth 100000 in
theorem lifted (os : Os) (started : os.Started) (H : Type) (enc : TypeId × Value → H) (F : Stop.Interp) :
    ReturnsInHanded {} Tryd.checked os 3 .any ((OpenSpec.ofChange Rows.chunkTakesSpec).preRow enc Tryd.prog Tryd.f3 Rows.chunkTakesRow.domain false Rows.chunkTakesRow.laid) (((OpenSpec.ofChange Rows.chunkTakesSpec).at F).post enc Tryd.prog Tryd.f3 false true false false) := by
  obtain ⟨places, hx⟩ := reads os enc
  refine returnsInHanded_of_row (C := Tryd.checked) (s := OpenSpec.ofChange Rows.chunkTakesSpec) own started (by kernel_rfl) Tryd.func3
    (witness_row_at (enc := enc) (C := Tryd.checked) false (laidWorld os) wargs rfl (by kernel_rfl) (by kernel_rfl) (by kernel_rfl)
      (OpenSpec.preRow_of_cond 8 hx (by kernel_rfl) (fun k hk => by cases hk) (by kernel_rfl) (laid_met os))) ?_
  intro W base args ds gs before hval hW _ hcond hwt hL hsh _
  have hW' := hW
  obtain ⟨p, q, hA0, hV, rfl, hfz, hnd⟩ := hW
  have hA : DataW.TrodAll enc Tryd.prog W 0 (fun _ => true) true Tryd.f3.params.toList args.toList ds p := hA0
  rw [Tryd.params3] at hA
  have hA1 := hA
  have hv := hval
  rw [Tryd.params3] at hv
  obtain ⟨rfl, rfl⟩ := trodVars_none hV
  obtain ⟨v0, vs0, d0, ds0, p0, q0, hargs, rfl, rfl, h0, r0⟩ := trodAll_cons hA
  obtain ⟨rfl, rfl, rfl⟩ := trodAll_nil r0
  obtain rfl : args = #[v0] := by
    obtain ⟨l⟩ := args
    simp only at hargs
    rw [hargs]
  obtain ⟨x0, g0, o0, B0⟩ := Go.Ab.arg_cell Go.Ab.opnT22 Tryd.underlying22 rfl (hv 0 22 v0 rfl rfl) h0
  have hw0 : (DataW.weightsEach Tryd.prog (22 :: _) [d0]).all (· ≤ reachBytes) = true := hwt
  rw [DataW.weightsEach, List.all_append, Bool.and_eq_true] at hw0
  have W0 := (Go.Ab.arg_wt Tryd.underlying22 (by kernel_rfl) (hv 0 22 v0 rfl rfl) h0 (f := Go.Ab.enB) (fun _ => rfl) g0 hw0.1).1
  rw [show Tryd.prog.bytesOf 5 = 1 by kernel_rfl] at W0
  unfold reachBytes at W0
  clear hA0 hval
  simp only [List.append_nil, List.nil_append] at hW' hA1
  have hlt := hW'.lt
  obtain ⟨m, hm⟩ := cellM W hsh
  refine (Go.Ab.law_run (E0ok m) (show Go.Ab.callW (E0 m) 3 [.c (.d (.lst x0.1 (enL enB x0.2)))] [] = some (.v (.c (.d (.sc (.bool true)))), []) from by rw [f3_t, Go.Ab.chunkTakes _ _ (by omega)]; rfl) (base_ok m W hm (fun g k l h i x hx => by
    unfold tabT at h
    split at h
    · cases h; exact Go.Ab.laid_ints hL (by kernel_rfl) (n := "internal/strconv.uint64pow10") (l := _) (k := .u64) (N := 20) (.tail _ (.tail _ (.head _))) (by kernel_rfl) (by kernel_rfl) Tryd.underlying112 Tryd.underlying43 (by kernel_rfl) rfl i x hx
    · cases h; exact Go.Ab.laid_ints hL (by kernel_rfl) (n := "math/bits.deBruijn32tab") (l := _) (k := .u8) (N := 32) (.head _) (by kernel_rfl) (by kernel_rfl) Tryd.underlying122 Tryd.underlying5 (by kernel_rfl) rfl i x hx
    · cases h; exact Go.Ab.laid_ints hL (by kernel_rfl) (n := "math/bits.deBruijn64tab") (l := _) (k := .u8) (N := 64) (.tail _ (.head _)) (by kernel_rfl) (by kernel_rfl) Tryd.underlying123 Tryd.underlying5 (by kernel_rfl) rfl i x hx
    · cases h)) (vs := [v0]) (.cons g0 .nil)).mono fun e' W' ⟨he, hb⟩ => ?_
  subst he
  exact ⟨_, rfl, _, _, _, [], _, [], hW', trodAll_cons_mk (shut_bool Tryd.underlying4 _) trodAll_mk0, Go.Ab.below_trodAll (by kernel_rfl) hb params_ok (fun x hx => hlt x (by first | exact hx | simpa using hx)) hA1, rfl, hb.frame _, fun h => by cases h⟩
theorem said : Rows.ChunkTakesSaid :=
  OpenClaim.holds_of_cond 3 Tryd.f3 rfl rfl rfl rfl rfl rfl rfl ⟨rfl, rfl, rfl, rfl, rfl⟩ rfl rfl rfl rfl rfl (by kernel_rfl) Tryd.func3 (by kernel_rfl)
    (of_decide_eq_true (by kernel_rfl)) (by unfold Func.isWrapper; first | (rw [if_pos (by decide +kernel)]; kernel_rfl) | (rw [if_neg (by decide +kernel)]; exact ⟨rfl, rfl⟩))
    (fun os started H enc _ F => by rw [OpenClaim.pre_eq_preRow]; exact lifted os started H enc F)
theorem plain (f : FuncId) (fn : Func) (hf : Tryd.pinned.checked.prog.funcNamed "tollhouse/tollhouselaw08.ChunkTakes" = some f) (hfn : Tryd.pinned.checked.prog.funcs[f]? = some fn) :
    false = Tryd.pinned.checked.prog.looks [] ∧ ∀ (j : Nat) t, fn.params[j]? = some t → Tryd.pinned.checked.prog.wantsStandIn t = false := by
  obtain rfl : f = 3 := Option.some.inj ((show Tryd.prog.funcNamed "tollhouse/tollhouselaw08.ChunkTakes" = some 3 by kernel_rfl).symm.trans hf) |>.symm
  obtain rfl : fn = Tryd.f3 := (Option.some.inj (Tryd.func3.symm.trans hfn)).symm
  refine ⟨by kernel_rfl, fun j t ht => ?_⟩
  rw [Tryd.params3] at ht
  rcases j with _ | j <;> simp at ht <;> subst ht <;> kernel_rfl
theorem card : Rows.ChunkTakesCardSaid :=
  Claim7.holds_tied_plain_at .later [] _ _ _ _ said (fun _ h => by cases h) (by kernel_rfl) (fun _ h => by cases h) chunkTakes_row_tie rfl ⟨rfl, rfl⟩ (by kernel_rfl) rfl plain (by kernel_rfl)
end Go.Proofs.YtaohepmbkepmiaaDoor.fnChunkTakes
