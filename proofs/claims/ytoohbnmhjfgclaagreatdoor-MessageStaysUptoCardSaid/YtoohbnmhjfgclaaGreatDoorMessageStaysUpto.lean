/- MessageStays: What is told of bytes, but ErrMore, is told of them with whatever behind; limits. For every input of bulk at most 1048576 the law returns true, and what was there reads as it did. Condition: the bulk of the arguments is at most 1048576. -/
import Derived.Test.YtoohbnmhjfgclaaGreatDoorCards
import Derived.Test.YtoohbnmhjfgclaaGreatDoorTie
import Derived.Test.YtoohbnmhjfgclaaGreatDoorEv8
import Derived.Test.YtoohbnmhjfgclaaGreatDoorLawStays1
import Derived.WalkKit
import Derived.ProofKit
import Derived.OpenShut
import Derived.Deep.DeepHandedRow
import Derived.Lib.SmallJoins
import Derived.Deep.Slices
import Derived.ChangeMaps5
import Derived.Carry
import Derived.LaidLaws
import Derived.Stop.LaidErr
import Derived.MakeChecks
set_option linter.unusedVariables false
set_option linter.unusedSimpArgs false
namespace Go.Ab
open Go Go.Proofs Go.Proofs.YtoohbnmhjfgclaaGreatDoor
theorem opnT5 : Opn Tryz.prog 5 (fun x : UInt8 => [.sc (.int .u8 (x.toNat : Int))]) (fun x : UInt8 => 1) (fun x : UInt8 => True) :=
  opn_u8 Tryz.underlying5
theorem opnE22 : Opn Tryz.prog 5 (enB : UInt8 → List D) (fun y : UInt8 => 1) (fun y : UInt8 => True) :=
  Opn.map opnT5 (fun x : UInt8 => (x)) (fun _ => rfl) (fun _ => Nat.le_refl _) (fun _ h => h)
theorem opnT22 : Opn Tryz.prog 22 (fun x : (Bool × List UInt8) => [.lst x.1 (enL enB x.2)]) (fun x : (Bool × List UInt8) => ((List.map (fun y : UInt8 => 1) x.2).sum + 1)) (fun x : (Bool × List UInt8) => ((x.1 = true → x.2 = []) ∧ x.2.length ≤ maxLen ∧ ∀ y ∈ x.2, True)) :=
  opn_slice (k := 1) Tryz.underlying22 (by kernel_rfl) opnE22 (fun _ => rfl) (by decide)
theorem opnT9 : Opn Tryz.prog 9 (fun x : Bs => [.sc (.string (S x))]) (fun x : Bs => (x.length + 1)) (fun x : Bs => True) :=
  opn_str Tryz.underlying9
end Go.Ab
namespace Go.Proofs.YtoohbnmhjfgclaaGreatDoor.fnMessageStays
open Go.Ab (enL enB enS enSS enN S Bs)
open Go.ChangeShapes Go.WideShapes Go.ChangeAt Go.RowKit
theorem own : ownKnob Tryz.prog.godebug = none := by kernel_rfl
def cellsD (l : List (DataW Unit)) : List Value := l.flatMap fun d => match d with
  | .lit (.int k n) => [.int k n]
  | .agg ps => ps.flatMap fun q => match q with
    | .lit (.int k n) => [.int k n]
    | _ => []
  | _ => []
def partsD : DataW Unit → List (DataW Unit)
  | .agg ps => ps
  | _ => []
def wargs : Array Value := #[.slice none 0 0, .slice none 0 0, .string .empty]
noncomputable def low : Nat := (World.holding Tryz.prog default ⟨#[], wargs, []⟩).heap.size
noncomputable def laidWorld (os : Os) : World :=
  { World.holding Tryz.prog os ⟨#[.cells #[.string ⟨#[118, 97, 108, 117, 101, 32, 111, 117, 116, 32, 111, 102, 32, 114, 97, 110, 103, 101]⟩] 208, .cells #[.string ⟨#[105, 110, 118, 97, 108, 105, 100, 32, 115, 121, 110, 116, 97, 120]⟩] 208], #[], []⟩ with heap := ((((((((World.holding Tryz.prog os ⟨#[.cells #[.string ⟨#[118, 97, 108, 117, 101, 32, 111, 117, 116, 32, 111, 102, 32, 114, 97, 110, 103, 101]⟩] 208, .cells #[.string ⟨#[105, 110, 118, 97, 108, 105, 100, 32, 115, 121, 110, 116, 97, 120]⟩] 208], #[], []⟩).heap.modify 6 fun | .cells _ t fz => .cells (cellsD (partsD Rows.laid_math_bits_deBruijn32tab)).toArray t fz | o => o).modify 7 fun | .cells _ t fz => .cells (cellsD (partsD Rows.laid_math_bits_deBruijn64tab)).toArray t fz | o => o).modify 3 fun | .cells _ t fz => .cells (cellsD (partsD Rows.laid_internal_strconv_uint64pow10)).toArray t fz | o => o).modify 5 fun | .cells _ t fz => .cells (cellsD (partsD Rows.laid_unicode_utf8_acceptRanges)).toArray t fz | o => o).modify 2 fun | .cells _ t fz => .cells #[.iface 206 (.pointer (some ⟨low + 0, 0, none⟩))] t fz | o => o).modify 1 fun | .cells _ t fz => .cells #[.iface 206 (.pointer (some ⟨low + 1, 0, none⟩))] t fz | o => o).modify 4 fun | .cells _ t fz => .cells (cellsD (partsD Rows.laid_unicode_utf8_first)).toArray t fz | o => o) }
theorem laid_met (os : Os) : laidMet Tryz.prog Rows.messageStaysUptoRow.laid ((laidWorld os).forCall (fun _ _ => 0) ⟨#[], wargs, []⟩).memory :=
  laidMet_of_run' 8 (by kernel_rfl) (by kernel_rfl)
theorem reads (os : Os) {H : Type} (enc : TypeId × Value → H) : ∃ places, DataW.whole enc Tryz.prog ((laidWorld os).forCall (fun _ _ => 0) ⟨#[], wargs, []⟩).memory Tryz.f6.params.toList Rows.messageStaysSpec.vars false wargs.toList 8 = some ([.nil, .nil, .lit (.string [])], [], places) :=
  ⟨[], by kernel_rfl⟩
theorem params_ok : ∀ t ∈ [22, 22, 9], Tryz.prog.readableRec t = true ∧ t < Tryz.prog.types.size := by
  intro t ht
  simp only [List.mem_cons, List.not_mem_nil, or_false] at ht
  rcases ht with rfl | rfl | rfl <;> exact ⟨by kernel_rfl, of_decide_eq_true (by kernel_rfl)⟩
theorem lit_bulk {H : Type} (l : Lit) : 1 ≤ Rows.uptoBulk (.lit l : DataW H) := by
  cases l <;> simp [Rows.uptoBulk]
def bulkK (H : Type) : Go.Ab.Blk H := ⟨Rows.uptoBulk, Rows.uptoBulkAll, fun _ => by simp [Rows.uptoBulk], lit_bulk, by simp [Rows.uptoBulk], fun _ _ => by simp [Rows.uptoBulk], fun _ => by simp [Rows.uptoBulk], by simp [Rows.uptoBulkAll], fun _ _ => by simp [Rows.uptoBulkAll]⟩
set_option maxRecDepth 100000 in
theorem lifted (os : Os) (started : os.Started) (H : Type) (enc : TypeId × Value → H) (F : Stop.Interp) :
    ReturnsInHanded {} Tryz.checked os 6 .any ((Rows.OpenSpec.upto Rows.messageStaysSpec).preRow enc Tryz.prog Tryz.f6 Rows.messageStaysUptoRow.domain false Rows.messageStaysUptoRow.laid) (((Rows.OpenSpec.upto Rows.messageStaysSpec).at F).post enc Tryz.prog Tryz.f6 false true false false) := by
  obtain ⟨places, hx⟩ := reads os enc
  refine returnsInHanded_of_row (C := Tryz.checked) (s := Rows.OpenSpec.upto Rows.messageStaysSpec) own started (by kernel_rfl) Tryz.func6
    (witness_row_at (enc := enc) (C := Tryz.checked) false (laidWorld os) wargs rfl (by kernel_rfl) (by kernel_rfl) (by kernel_rfl)
      (OpenSpec.preRow_of_cond 8 hx (by kernel_rfl) (fun k hk => by cases hk; kernel_rfl) (by kernel_rfl) (laid_met os))) ?_
  intro W base args ds gs before hval hW _ hcond hwt hL hsh _
  have hW' := hW
  obtain ⟨p, q, hA0, hV, rfl, hfz, hnd⟩ := hW
  have hA : DataW.TrodAll enc Tryz.prog W 0 (fun _ => true) true Tryz.f6.params.toList args.toList ds p := hA0
  rw [Tryz.params6] at hA
  have hA1 := hA
  have hv := hval
  rw [Tryz.params6] at hv
  obtain ⟨rfl, rfl⟩ := trodVars_none hV
  obtain ⟨v0, vs0, d0, ds0, p0, q0, hargs, rfl, rfl, h0, r0⟩ := trodAll_cons hA
  obtain ⟨v1, vs1, d1, ds1, p1, q1, rfl, rfl, rfl, h1, r1⟩ := trodAll_cons r0
  obtain ⟨v2, vs2, d2, ds2, p2, q2, rfl, rfl, rfl, h2, r2⟩ := trodAll_cons r1
  obtain ⟨rfl, rfl, rfl⟩ := trodAll_nil r2
  obtain rfl : args = #[v0, v1, v2] := by
    obtain ⟨l⟩ := args
    simp only at hargs
    rw [hargs]
  obtain ⟨x0, g0, o0, B0⟩ := Go.Ab.arg_cell Go.Ab.opnT22 Tryz.underlying22 rfl (hv 0 22 v0 rfl rfl) h0
  obtain ⟨x1, g1, o1, B1⟩ := Go.Ab.arg_cell Go.Ab.opnT22 Tryz.underlying22 rfl (hv 1 22 v1 rfl rfl) h1
  obtain ⟨x2, g2, o2, B2⟩ := Go.Ab.arg_cell Go.Ab.opnT9 Tryz.underlying9 rfl (hv 2 9 v2 rfl rfl) h2
  have hk : Rows.uptoBulkAll ([d0, d1, d2] : List (DataW H)) ≤ 1048576 := of_decide_eq_true (hcond _ rfl)
  simp only [Rows.uptoBulkAll] at hk
  replace B0 : _ ≤ Rows.uptoBulk d0 := B0 (bulkK H)
  replace B1 : _ ≤ Rows.uptoBulk d1 := B1 (bulkK H)
  replace B2 : _ ≤ Rows.uptoBulk d2 := B2 (bulkK H)
  clear hA0 hval
  simp only [List.append_nil, List.nil_append] at hW' hA1
  have hlt := hW'.lt
  obtain ⟨m, hm⟩ := cellM W hsh
  have hM : laidMet Tryz.prog Rows.messageStaysUptoRow.laid W := by have h := hL; rwa [MakeChecks.laidMetH_plain _ _ _ (by kernel_rfl)] at h
  have hT : Lib.TabIs Tryz.prog W "internal/strconv.uint64pow10" .u64 Lib.pow10Tab := Lib.tabIs_of_head (g := 3) (t := 210) (e := 64) (n := 20) (by kernel_rfl) (by kernel_rfl) Tryz.underlying210 Tryz.underlying64 (by kernel_rfl) (by kernel_rfl) (by have h := hM.tail.tail; rwa [show (Rows.laid_internal_strconv_uint64pow10 : DataW Unit) = Lib.tabData .u64 Lib.pow10Tab by kernel_rfl] at h)
  obtain ⟨a1, s1, hE1, _⟩ := Go.laid_sentinel (g := 1) (ti := 118) (tp := 206) (te := 208) hM.tail.tail.tail.tail.tail (by kernel_rfl) (by kernel_rfl) Tryz.underlying118 (fun u hu => Go.typeName_ptr_named (nm := "errors.errorString") (by rw [show "*" ++ "errors.errorString" = "*errors.errorString" by decide]; kernel_rfl) (by kernel_rfl) (by decide) u (by rw [show "*" ++ "errors.errorString" = "*errors.errorString" by decide]; exact hu)) Tryz.underlying206 Tryz.underlying208 rfl rfl Tryz.underlying9 (by kernel_rfl) (by kernel_rfl)
  obtain ⟨a2, s2, hE2, _⟩ := Go.laid_sentinel (g := 2) (ti := 118) (tp := 206) (te := 208) hM.tail.tail.tail.tail (by kernel_rfl) (by kernel_rfl) Tryz.underlying118 (fun u hu => Go.typeName_ptr_named (nm := "errors.errorString") (by rw [show "*" ++ "errors.errorString" = "*errors.errorString" by decide]; kernel_rfl) (by kernel_rfl) (by decide) u (by rw [show "*" ++ "errors.errorString" = "*errors.errorString" by decide]; exact hu)) Tryz.underlying206 Tryz.underlying208 rfl rfl Tryz.underlying9 (by kernel_rfl) (by kernel_rfl)
  refine (Go.Ab.law_run (E0ok m) (show Go.Ab.callW (E0 m) 6 [.c (.d (.lst x0.1 (enL enB x0.2))), .c (.d (.lst x1.1 (enL enB x1.2))), .c (.d (.sc (.string (S x2))))] [] = some (.v (.c (.d (.sc (.bool true)))), []) from by have h := Go.Ab.bsz_le x0.2; have h1 := Go.Ab.bsz_le x1.2; (try simp only at B0 B1); rw [f6_t, Go.Ab.messageStays _ _ _ _ _ o0.1 (by omega)]; rfl) (base_ok m W hm (fun g k l h i x hx => by
    unfold tabT at h
    split at h
    · cases h; exact Go.Ab.laid_ints hL (by kernel_rfl) (n := "internal/strconv.uint64pow10") (l := _) (k := .u64) (N := 20) (.tail _ (.tail _ (.head _))) (by kernel_rfl) (by kernel_rfl) Tryz.underlying210 Tryz.underlying64 (by kernel_rfl) rfl i x hx
    · cases h; exact Go.Ab.laid_ints hL (by kernel_rfl) (n := "math/bits.deBruijn32tab") (l := _) (k := .u8) (N := 32) (.head _) (by kernel_rfl) (by kernel_rfl) Tryz.underlying222 Tryz.underlying5 (by kernel_rfl) rfl i x hx
    · cases h; exact Go.Ab.laid_ints hL (by kernel_rfl) (n := "math/bits.deBruijn64tab") (l := _) (k := .u8) (N := 64) (.tail _ (.head _)) (by kernel_rfl) (by kernel_rfl) Tryz.underlying223 Tryz.underlying5 (by kernel_rfl) rfl i x hx
    · cases h)) (vs := [v0, v1, v2]) (.cons g0 (.cons g1 (.cons g2 .nil))) (fun b φ hφ => by
    have hφ : blkT b = some φ := hφ
    unfold blkT at hφ
    split at hφ
    · cases hφ; exact Go.Ab.var_blk hT (g := 3) (by kernel_rfl) rfl
    · cases hφ; exact Go.Ab.var_blk hE1 (g := 1) (by kernel_rfl) ⟨_, _, rfl⟩
    · cases hφ; exact Go.Ab.var_blk hE2 (g := 2) (by kernel_rfl) ⟨_, _, rfl⟩
    · cases hφ)).mono fun e' W' ⟨he, hb⟩ => ?_
  subst he
  exact ⟨_, rfl, _, _, _, [], _, [], hW', trodAll_cons_mk (shut_bool Tryz.underlying4 _) trodAll_mk0, Go.Ab.below_trodAll (by kernel_rfl) hb params_ok (fun x hx => hlt x (by first | exact hx | simpa using hx)) hA1, rfl, hb.frame _, fun h => by cases h⟩
theorem said : Rows.MessageStaysUptoSaid :=
  OpenClaim.holds_of_cond 6 Tryz.f6 rfl rfl rfl rfl rfl rfl rfl ⟨rfl, rfl, rfl, rfl, rfl⟩ rfl rfl rfl rfl rfl (by kernel_rfl) Tryz.func6 (by kernel_rfl)
    (of_decide_eq_true (by kernel_rfl)) (by unfold Func.isWrapper; first | (rw [if_pos (by decide +kernel)]; kernel_rfl) | (rw [if_neg (by decide +kernel)]; exact ⟨rfl, rfl⟩))
    (fun os started H enc _ F => by rw [OpenClaim.pre_eq_preRow]; exact lifted os started H enc F)
theorem plain (f : FuncId) (fn : Func) (hf : Tryz.pinned.checked.prog.funcNamed "tollhouse/tollhouselaw09.MessageStays" = some f) (hfn : Tryz.pinned.checked.prog.funcs[f]? = some fn) :
    true = Tryz.pinned.checked.prog.looks [] ∧ ∀ (j : Nat) t, fn.params[j]? = some t → Tryz.pinned.checked.prog.wantsStandIn t = false := by
  obtain rfl : f = 6 := Option.some.inj ((show Tryz.prog.funcNamed "tollhouse/tollhouselaw09.MessageStays" = some 6 by kernel_rfl).symm.trans hf) |>.symm
  obtain rfl : fn = Tryz.f6 := (Option.some.inj (Tryz.func6.symm.trans hfn)).symm
  refine ⟨by kernel_rfl, fun j t ht => ?_⟩
  rw [Tryz.params6] at ht
  rcases j with _ | _ | _ | j <;> simp at ht <;> subst ht <;> kernel_rfl
theorem card : Rows.MessageStaysUptoCardSaid :=
  Claim7.holds_tied_plain_at .later [] _ _ _ _ said (fun _ h => by cases h) (by kernel_rfl) (fun _ h => by cases h) messageStaysUpto_row_tie rfl ⟨rfl, rfl⟩ (by kernel_rfl) rfl plain (by kernel_rfl)
end Go.Proofs.YtoohbnmhjfgclaaGreatDoor.fnMessageStays
