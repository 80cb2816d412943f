/- An abstract evaluator of the loaded code, and that what it says is what the machine does. -/
import Derived.Test.YtaohepmbkepmiaaDoorEv7
set_option linter.all false
section
set_option linter.all false
set_option linter.unusedVariables false
set_option linter.unusedSimpArgs false
namespace Go.Ab
open Go
structure W (T : Prop) : Type where
  o : T
theorem Q {a b : Prop} (x : a) (y : b) : a ∧ b := ⟨x, y⟩
theorem lf {α : Type} {a b c : α} (h : b = c) (e : a = b) : a = c := e.trans h
theorem tnlt {i : Int} {n : Nat} (h : 0 ≤ i ∧ i < (n : Int)) : i.toNat < n := by omega
theorem tnl0 {n : Nat} (h : (0 : Int) < (n : Int)) : 0 < n := by omega
theorem tnl1 {n : Nat} (h : (1 : Int) < (n : Int)) : 1 < n := by omega
theorem tnl2 {n : Nat} (h : (2 : Int) < (n : Int)) : 2 < n := by omega
theorem tnl3 {n : Nat} (h : (3 : Int) < (n : Int)) : 3 < n := by omega
def setC := Q @List.length_nil.{0} (Q @Option.map_none.{0,0} (Q @List.take_nil.{0} (Q @List.drop_nil.{0} (Q @Option.isNone_some.{0} (Q @Bool.false_and (Q @Bool.false_eq_true (Q @List.all_nil.{0} (Q @List.getD_cons_zero.{0} (Q @List.getD_cons_succ.{0} (Q @List.map_cons.{0,0} (Q @List.map_nil.{0,0} (Q @List.take_length.{0} (Q @decide_true (Q @Bool.and_self (Q @Nat.zero_add (Q @Nat.sub_zero (Q @Nat.zero_mul (Q @Nat.sub_self (Q @not_false_eq_true (Q @Option.getD_some.{0} (Q @Option.getD_none.{0} (Q @if_false.{1} (Q @regD_none (Q @seqD_none (Q @blockD_none (Q @stepE_none (Q @loopK_none (@bodyD_none))))))))))))))))))))))))))))
theorem rx (c : Code) {o : Oper} {l : List Oper} (h : isRg c = true := by rfl) (ho : opsOf c = o :: l := by rfl) (E : Env) (f m : Nat) (st : St) :
    den E f m (callW E) itW c none st = regD (runOps E (callW E) (o :: l) (o :: l) st) := by rw [← ho]; exact rgN h m st
abbrev Sl := Nat → AV
noncomputable abbrev dn (E : Env) (f m : Nat) (c : Code) (sl : Sl) (h : Heap) := den E f m (callW E) itW c none ⟨sl, h⟩
noncomputable abbrev sq (E : Env) (f m : Nat) (c : Code) := seqD E f m (callW E) itW c
noncomputable abbrev lp (E : Env) (f m : Nat) (c : Code) (L : List (Nat × Co)) := loopF E f m (callW E) itW c L
abbrev dS (x : Bs) : D := .sc (.string (S x))
abbrev dB (x : Bool) : D := .sc (.bool x)
abbrev dI (x : Int) : D := .sc (.int .i64 x)
abbrev dU (x : Int) : D := .sc (.int .u64 x)
abbrev vd (x : D) : AV := .v (.c (.d x))
abbrev cd (x : D) : V1 := .c (.d x)
theorem go {p C T : Prop} (c : C) (t : T) (h : W C → W T → p := by
    intro yc yk
    try simp -implicitDefEqProofs only [yc.o, *, dn, sq, lp, dS, dB, dI, dU, vd, cd, setA, setB, setC, Nat.reduceEqDiff, Nat.reduceAdd, Nat.reduceLeDiff, Nat.reduceLT, Nat.reduceMul, Nat.reduceBEq, Nat.reduceSub, Nat.reducePow, Int.reduceEq, Int.reduceLE, Int.reduceLT, Int.reduceToNat, Int.reduceNegSucc, Int.reduceAdd, Int.reduceBEq, String.reduceBEq, reduceCtorEq, zE, ↓reduceIte]
    repeat' first
      | ((with_reducible refine brB (fun ya => ?_) (fun ya => ?_))
         all_goals try first | have yb : (_ : Nat) < _ := of_decide_eq_true ya | have yb : ¬ ((_ : Nat) < _) := of_decide_eq_false ya
         all_goals try simp -implicitDefEqProofs only [yc.o, *, dn, sq, lp, dS, dB, dI, dU, vd, cd, setA, setB, setC, Nat.reduceEqDiff, Nat.reduceAdd, Nat.reduceLeDiff, Nat.reduceLT, Nat.reduceMul, Nat.reduceBEq, Nat.reduceSub, Nat.reducePow, Int.reduceEq, Int.reduceLE, Int.reduceLT, Int.reduceToNat, Int.reduceNegSucc, Int.reduceAdd, Int.reduceBEq, String.reduceBEq, reduceCtorEq, zE, ↓reduceIte])
      | ((with_reducible refine brP (fun ya => ?_) (fun ya => ?_))
         rotate_left
         · rw [if_neg ya]; rfl
         try first | have yb := tnlt ya | have yb := tnl0 ya | have yb := tnl1 ya | have yb := tnl2 ya | have yb := tnl3 ya | have yb := tnlt (And.intro (by omega) ya) | have yb := of_decide_eq_true ya
         try simp -implicitDefEqProofs only [yc.o, *, dn, sq, lp, dS, dB, dI, dU, vd, cd, setA, setB, setC, Nat.reduceEqDiff, Nat.reduceAdd, Nat.reduceLeDiff, Nat.reduceLT, Nat.reduceMul, Nat.reduceBEq, Nat.reduceSub, Nat.reducePow, Int.reduceEq, Int.reduceLE, Int.reduceLT, Int.reduceToNat, Int.reduceNegSucc, Int.reduceAdd, Int.reduceBEq, String.reduceBEq, reduceCtorEq, zE, ↓reduceIte])
      | ((with_reducible refine brM (fun ya => ?_) (fun yr ya => ?_))
         · rw [ya]; rfl
         try simp -implicitDefEqProofs only [yc.o, *, dn, sq, lp, dS, dB, dI, dU, vd, cd, setA, setB, setC, Nat.reduceEqDiff, Nat.reduceAdd, Nat.reduceLeDiff, Nat.reduceLT, Nat.reduceMul, Nat.reduceBEq, Nat.reduceSub, Nat.reducePow, Int.reduceEq, Int.reduceLE, Int.reduceLT, Int.reduceToNat, Int.reduceNegSucc, Int.reduceAdd, Int.reduceBEq, String.reduceBEq, reduceCtorEq, zE, ↓reduceIte])
      | (apply lf
         (with_reducible first | apply yk.o | apply yk.o.1 | apply yk.o.2 | apply yk.o.2.1 | apply yk.o.2.2 | apply yk.o.2.2.1 | apply yk.o.2.2.2 | apply yk.o.2.2.2.1 | apply yk.o.2.2.2.2 | apply yk.o.2.2.2.2.1 | apply yk.o.2.2.2.2.2 | apply yk.o.2.2.2.2.2.1 | apply yk.o.2.2.2.2.2.2 | apply yk.o.2.2.2.2.2.2.1 | apply yk.o.2.2.2.2.2.2.2 | apply yk.o.2.2.2.2.2.2.2.1 | apply yk.o.2.2.2.2.2.2.2.2)
         all_goals try exact rfl
         all_goals first | exact rfl | assumption)
      | (with_reducible refine mi ?_)
      | ((cases yr with | inl yr => ?_ | inr yr => ?_)
         all_goals try simp -implicitDefEqProofs only [yc.o, *, dn, sq, lp, dS, dB, dI, dU, vd, cd, setA, setB, setC, Nat.reduceEqDiff, Nat.reduceAdd, Nat.reduceLeDiff, Nat.reduceLT, Nat.reduceMul, Nat.reduceBEq, Nat.reduceSub, Nat.reducePow, Int.reduceEq, Int.reduceLE, Int.reduceLT, Int.reduceToNat, Int.reduceNegSucc, Int.reduceAdd, Int.reduceBEq, String.reduceBEq, reduceCtorEq, zE, ↓reduceIte])
      | rfl
      | (rw [if_neg (by omega)]; rfl)) : p := h ⟨c⟩ ⟨t⟩
end Go.Ab
end
section
set_option linter.unusedVariables false
set_option linter.unusedSimpArgs false
namespace Go.Ab
open Go
end Go.Ab
end
section
set_option linter.unusedVariables false
set_option linter.unusedSimpArgs false
namespace Go.Ab
open Go
theorem enC_rep (n : Nat) : (List.replicate n [C.d (D.sc (Value.int .u8 ((0 : UInt8).toNat : Int)))]).flatten = enC (List.replicate n 0) := by
  induction n with
  | zero => rfl
  | succ n ih => rw [List.replicate_succ, List.flatten_cons, ih, List.replicate_succ]; rfl
def cpy (l : Bs) (off len : Nat) (src : Bs) : Bs := l.take off ++ (src.take len ++ l.drop (off + min src.length len))
theorem wr_enC : ∀ (l src : Bs) (off : Nat), off + src.length ≤ l.length → wr (enC l) off (enC src) = enC (l.take off ++ (src ++ l.drop (off + src.length)))
  | l, [], 0, _ => by cases l <;> simp [wr, enC]
  | l, [], off + 1, h => by
    cases l with
    | nil => simp at h
    | cons a l =>
      have ih := wr_enC l [] off (by simpa using h)
      simp only [enC, List.map_cons, List.map_nil, wr] at ih ⊢
      simp only [List.take_succ_cons, List.cons_append, List.map_cons, List.length_nil, Nat.add_zero, List.drop_succ_cons] at ih ⊢
      rw [ih]
  | [], c :: src, off, h => by simp at h
  | a :: l, c :: src, 0, h => by
    have ih := wr_enC l src 0 (by simpa using h)
    simp only [enC, List.map_cons, wr] at ih ⊢
    rw [ih]
    simp [Nat.add_comm]
  | a :: l, c :: src, off + 1, h => by
    have ih := wr_enC l (c :: src) off (by simp only [List.length_cons] at h ⊢; omega)
    simp only [enC, List.map_cons, wr] at ih ⊢
    rw [ih]
    simp only [List.take_succ_cons, List.cons_append, List.map_cons, List.map_append, List.length_cons]
    rw [show off + 1 + (src.length + 1) = off + (src.length + 1) + 1 by omega, List.drop_succ_cons]
theorem enB_flat (l : Bs) : ((enL enB l).flatten.map C.d) = enC l := by
  induction l with
  | nil => rfl
  | cons c l ih =>
    have e : enL enB (c :: l) = enB c :: enL enB l := rfl
    rw [e, List.flatten_cons, List.map_append, ih]; rfl
theorem u8L_en (l : Bs) : u8L (enL enB l) = some (l.map fun c => (c.toNat : Int)) := by
  induction l with
  | nil => rfl
  | cons c l ih =>
    have e : enL enB (c :: l) = [.sc (.int .u8 (c.toNat : Int))] :: enL enB l := rfl
    rw [e]; unfold u8L; rw [ih]; rfl
theorem bytesOf_nat (l : Bs) : Lib.bytesOf (l.map fun c => (c.toNat : Int)) = l := by
  unfold Lib.bytesOf
  rw [List.map_map]
  exact (List.map_congr_left fun c _ => by simp).trans (List.map_id l)
theorem pIndexB_lst (nl : Bool) (l : Bs) (c : UInt8) (hp : Heap) : pIndexB [.c (.d (.lst nl (enL enB l))), .c (.d (.sc (.int .u8 (c.toNat : Int))))] hp = some (.int .i64 (Lib.indexByte l c), hp) := by
  have h : bytesC hp (.d (.lst nl (enL enB l))) = some (l.map fun c => (c.toNat : Int)) := u8L_en l
  show Option.map (fun xs => (AV.int .i64 (Lib.indexByte (Lib.bytesOf xs) (c.toNat : Int).toNat.toUInt8), hp)) (bytesC hp _) = _
  rw [h, Option.map_some, bytesOf_nat]
  simp
def cpO (hp : Heap) (k off len : Nat) (src : Bs) : Option Ob → Option (V1 × Heap)
  | some (.cells cs) => if off + len ≤ cs.length then some (.c (.d (.sc (.int .i64 ((min src.length len : Nat) : Int)))), hp.set k (.cells (wr cs off (enC (src.take len))))) else none
  | _ => none
theorem copyA_b {P : Program} {t e : TypeId} (hu : P.underlying t = some (.slice e)) (hz : szP P e = some 1) (hp : Heap) (k off len : Nat) (cap : Option Nat) (src : Bs) :
    copyA P hp t (.slc k off 1 len cap) (enL enB src) = cpO hp k off len src hp[k]? := by
  unfold copyA cpO
  have ha : (enL enB src).all (fun x => x.length == 1) = true := enB_a src
  simp only [hu, hz, ha, Nat.lt_one_iff, Nat.zero_lt_one, true_and, and_self, if_true, Nat.mul_one, enL_length, enL_take, enB_flat]
  split <;> simp_all
theorem cpO_en (hp : Heap) (k off len : Nat) (src l : Bs) : cpO hp k off len src (some (.cells (enC l))) = if off + len ≤ l.length then some (.c (.d (.sc (.int .i64 ((min src.length len : Nat) : Int)))), hp.set k (.cells (enC (cpy l off len src)))) else none := by
  unfold cpO
  simp only [enC_length]
  by_cases h : off + len ≤ l.length
  · rw [if_pos h, if_pos h, wr_enC _ _ _ (by rw [List.length_take]; omega)]
    unfold cpy
    rw [List.length_take, Nat.min_comm]
  · rw [if_neg h, if_neg h]
theorem den_label_n {E : Env} {fn m : Nat} {call : Caller} {it} (l : Nat) (st : St) : den E fn m call it (.label l) none st = some (.normal, st) := rfl
theorem enC_drop (l : Bs) (n : Nat) : (enC l).drop n = enC (l.drop n) := by unfold enC; rw [List.map_drop]
theorem copyA_n {P : Program} {t e : TypeId} (hu : P.underlying t = some (.slice e)) (hz : szP P e = some 1) (hp : Heap) (k off len : Nat) (cap : Option Nat) :
    copyA P hp t (.slc k off 1 len cap) [] = cpO hp k off len [] hp[k]? := copyA_b hu hz hp k off len cap []
theorem cpy_nil (l : Bs) (off len : Nat) : cpy l off len [] = l := by
  unfold cpy
  simp
end Go.Ab
end
section
set_option linter.unusedVariables false
set_option linter.unusedSimpArgs false
namespace Go.Ab
open Go Go.ChangeShapes Go.WideShapes
theorem slice_open {P : Program} {t e : TypeId} (ht : P.underlying t = some (.slice e)) (hk : P.cellsOf e = 1) {H : Type} {enc : TypeId × Value → H} {W : World} {base : Nat} {sp : Nat → Bool} {held : Bool} {fuel : Nat} {v : Value} {x : DataW H × List MemPlace}
    (h : DataW.trod enc P W base sp held fuel t [v] = some x) {nl : Bool} {es : List (List D)} (hes : ∀ e ∈ es, e.length = 1) (g : DR (cm W) (.lst nl es) v) :
    es = [] ∨ ∃ elems spare, x.1 = .slice elems spare ∧ elems.length = es.length ∧ ∀ (i : Nat) (c : D), es[i]? = some [c] → ∃ d n pl v', elems[i]? = some d ∧ DataW.trod enc P W base sp held n e [v'] = some (d, pl) ∧ DR (cm W) c v' := by
  cases g with
  | lst _ _ a cap sz vs hlen hnl hcap hsp hsz hv hm =>
    by_cases h0 : es = []
    · exact .inl h0
    right
    have hpos : 0 < es.length := List.length_pos_iff.2 h0
    rcases Go.Deep.open_slice ht h with ⟨h1, rfl⟩ | ⟨ad, len, cap', m, n, Dt, Pl, h1, hb, hl, hcap', hm', rfl, hx⟩
    · injection h1 with h1; injection h1 with _ h2; omega
    · injection h1 with h1
      injection h1 with e1 e2 e3
      subst e2
      have hlm : es.length ≤ m := by rw [hm']; split <;> omega
      refine ⟨_, _, rfl, by simp, fun i c hi => ?_⟩
      have hil : i < es.length := (List.getElem?_eq_some_iff.1 hi).1
      obtain ⟨cs', k1, k2⟩ := hx i (by omega)
      rw [hk] at k1
      obtain ⟨_, k3, k4⟩ := World.cells?_some k1
      have hsz1 : sz = 1 := by
        have hmem : [c] ∈ es := List.mem_of_getElem? hi
        have := hsz _ hmem
        simpa using this.symm
      obtain ⟨b, o, e4, e5⟩ := hm i 0 [c] c hi rfl
      have e6 : ad = ⟨b, o, none⟩ := by rw [e1] at e4; exact Option.some.inj e4
      obtain ⟨v', rfl⟩ : ∃ v', cs' = [v'] := by
        match cs', k3 with
        | [v'], _ => exact ⟨v', rfl⟩
      have k5 := k4 0 (by simp)
      have e7 : (ad.add (i * 1)).add 0 = ⟨b, o + i * sz + 0, none⟩ := by rw [e6, hsz1]; simp [addr_add]
      rw [e7] at k5
      have e8 : v' = vs i 0 := by
        have : W.cell? ⟨b, o + i * sz + 0, none⟩ = some (vs i 0) := e5
        rw [this] at k5
        exact (Option.some.inj k5).symm
      refine ⟨Dt i, n, Pl i, v', by simp [List.getElem?_map, List.getElem?_range hil], k2, ?_⟩
      rw [e8]
      exact hv i 0 [c] c hi rfl
theorem wt_all {P : Program} {e : TypeId} {R : Nat} {H : Type} : ∀ {l : List (DataW H)} {i : Nat} {d : DataW H}, (DataW.weightsAll P e l).all (fun w => decide (w ≤ R)) = true → l[i]? = some d → (d.weights P e).all (fun w => decide (w ≤ R)) = true
  | [], i, d, _, h => by simp at h
  | x :: l, i, d, hw, h => by
    rw [DataW.weightsAll, List.all_append, Bool.and_eq_true] at hw
    cases i with
    | zero => simp at h; subst h; exact hw.1
    | succ i => exact wt_all hw.2 (by simpa using h)
theorem enL1 {α : Type} {f : α → List D} (hf : ∀ a, (f a).length = 1) (l : List α) : ∀ e ∈ enL f l, e.length = 1 := by
  intro e he
  simp only [enL, List.mem_map] at he
  obtain ⟨a, _, rfl⟩ := he
  exact hf a
theorem wt_slice {P : Program} {t e : TypeId} (ht : P.underlying t = some (.slice e)) (hk : P.cellsOf e = 1) {H : Type} {enc : TypeId × Value → H} {W : World} {base : Nat} {sp : Nat → Bool} {held : Bool} {fuel : Nat} {v : Value} {x : DataW H × List MemPlace}
    (h : DataW.trod enc P W base sp held fuel t [v] = some x) {nl : Bool} {α : Type} {f : α → List D} (hf : ∀ a, (f a).length = 1) {l : List α} (g : DR (cm W) (.lst nl (enL f l)) v) {R : Nat} (hw : (x.1.weights P t).all (fun w => decide (w ≤ R)) = true) :
    l.length * P.bytesOf e ≤ R ∧ ∀ (i : Nat) (a : α) (c : D), l[i]? = some a → f a = [c] → ∃ d n pl v', DataW.trod enc P W base sp held n e [v'] = some (d, pl) ∧ DR (cm W) c v' ∧ (d.weights P e).all (fun w => decide (w ≤ R)) = true := by
  rcases slice_open ht hk h (enL1 hf l) g with h0 | ⟨elems, spare, h1, h2, h3⟩
  · have : l = [] := by simpa [enL] using h0
    subst this
    exact ⟨by simp, fun i a c hi => by simp at hi⟩
  · rw [h1, DataW.weights, ht] at hw
    simp only [List.all_cons, List.all_append, Bool.and_eq_true, decide_eq_true_eq] at hw
    rw [enL_length] at h2
    refine ⟨Nat.le_trans (Nat.mul_le_mul_right _ (by omega)) hw.1, fun i a c hi hc => ?_⟩
    obtain ⟨d, n, pl, v', k1, k2, k3⟩ := h3 i c (by simp [enL, hi, hc])
    exact ⟨d, n, pl, v', k2, k3, wt_all hw.2.1 k1⟩
theorem arg_wt {P : Program} {t e : TypeId} (ht : P.underlying t = some (.slice e)) (hk : P.cellsOf e = 1) {H : Type} {enc : TypeId × Value → H} {W : World} {r : Reach} {b0 base : Nat} {sp : Nat → Bool} {held : Bool} {v : Value} {d : DataW H} {ps : List MemPlace} (hval : Value.okWide P W r b0 t v) (h : DataW.Trod enc P W base sp held t v d ps)
    {nl : Bool} {α : Type} {f : α → List D} (hf : ∀ a, (f a).length = 1) {l : List α} (g : VR (G0 W) [] (.c (.d (.lst nl (enL f l)))) v) {R : Nat} (hw : (d.weights P t).all (fun w => decide (w ≤ R)) = true) :
    l.length * P.bytesOf e ≤ R ∧ ∀ (i : Nat) (a : α) (c : D), l[i]? = some a → f a = [c] → ∃ d n pl v', DataW.trod enc P W base sp held n e [v'] = some (d, pl) ∧ DR (cm W) c v' ∧ (d.weights P e).all (fun w => decide (w ≤ R)) = true := by
  obtain ⟨fuel, h⟩ := h
  have hc : v.cells = #[v] := by
    unfold Value.okWide at hval
    cases v with
    | agg cs => exfalso; simp [ht, Cell.okWide, Cell.ok] at hval
    | _ => rfl
  rw [hc] at h
  exact wt_slice ht hk h hf g hw
end Go.Ab
end
