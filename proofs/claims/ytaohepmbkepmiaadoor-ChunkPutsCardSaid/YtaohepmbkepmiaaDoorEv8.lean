/- An abstract evaluator of the loaded code, and that what it says is what the machine does. -/
import Derived.Test.YtaohepmbkepmiaaDoorEv7
set_option linter.all false
section
set_option linter.unusedVariables false
set_option linter.unusedSimpArgs false
namespace Go.Ab
open Go Go.ChangeShapes Go.WideShapes
theorem slice_open {P : Program} {t e : TypeId} (ht : P.underlying t = some (.slice e)) (hk : P.cellsOf e = 1) {H : Type} {enc : TypeId × Value → H} {W : World} {base : Nat} {sp : Nat → Bool} {held : Bool} {fuel : Nat} {v : Value} {x : DataW H × List MemPlace}
    (h : DataW.trod enc P W base sp held fuel t [v] = some x) {nl : Bool} {es : List (List D)} (hes : ∀ e ∈ es, e.length = 1) (g : DR (cm W) (.lst nl es) v) :
    es = [] ∨ ∃ elems spare, x.1 = .slice elems spare ∧ elems.length = es.length ∧ ∀ (i : Nat) (c : D), es[i]? = some [c] → ∃ d n pl v', elems[i]? = some d ∧ DataW.trod enc P W base sp held n e [v'] = some (d, pl) ∧ DR (cm W) c v' := by
  cases g with
  | lst _ _ a cap sz vs hlen hnl hcap hsp hsz hv hm =>
    by_cases h0 : es = []
    · exact .inl h0
    right
    have hpos : 0 < es.length := List.length_pos_iff.2 h0
    rcases Go.Deep.open_slice ht h with ⟨h1, rfl⟩ | ⟨ad, len, cap', m, n, Dt, Pl, h1, hb, hl, hcap', hm', rfl, hx⟩
    · injection h1 with h1; injection h1 with _ h2; omega
    · injection h1 with h1
      injection h1 with e1 e2 e3
      subst e2
      have hlm : es.length ≤ m := by rw [hm']; split <;> omega
      refine ⟨_, _, rfl, by simp, fun i c hi => ?_⟩
      have hil : i < es.length := (List.getElem?_eq_some_iff.1 hi).1
      obtain ⟨cs', k1, k2⟩ := hx i (by omega)
      rw [hk] at k1
      obtain ⟨_, k3, k4⟩ := World.cells?_some k1
      have hsz1 : sz = 1 := by
        have hmem : [c] ∈ es := List.mem_of_getElem? hi
        have := hsz _ hmem
        simpa using this.symm
      obtain ⟨b, o, e4, e5⟩ := hm i 0 [c] c hi rfl
      have e6 : ad = ⟨b, o, none⟩ := by rw [e1] at e4; exact Option.some.inj e4
      obtain ⟨v', rfl⟩ : ∃ v', cs' = [v'] := by
        match cs', k3 with
        | [v'], _ => exact ⟨v', rfl⟩
      have k5 := k4 0 (by simp)
      have e7 : (ad.add (i * 1)).add 0 = ⟨b, o + i * sz + 0, none⟩ := by rw [e6, hsz1]; simp [addr_add]
      rw [e7] at k5
      have e8 : v' = vs i 0 := by
        have : W.cell? ⟨b, o + i * sz + 0, none⟩ = some (vs i 0) := e5
        rw [this] at k5
        exact (Option.some.inj k5).symm
      refine ⟨Dt i, n, Pl i, v', by simp [List.getElem?_map, List.getElem?_range hil], k2, ?_⟩
      rw [e8]
      exact hv i 0 [c] c hi rfl
theorem wt_all {P : Program} {e : TypeId} {R : Nat} {H : Type} : ∀ {l : List (DataW H)} {i : Nat} {d : DataW H}, (DataW.weightsAll P e l).all (fun w => decide (w ≤ R)) = true → l[i]? = some d → (d.weights P e).all (fun w => decide (w ≤ R)) = true
  | [], i, d, _, h => by simp at h
  | x :: l, i, d, hw, h => by
    rw [DataW.weightsAll, List.all_append, Bool.and_eq_true] at hw
    cases i with
    | zero => simp at h; subst h; exact hw.1
    | succ i => exact wt_all hw.2 (by simpa using h)
theorem enL1 {α : Type} {f : α → List D} (hf : ∀ a, (f a).length = 1) (l : List α) : ∀ e ∈ enL f l, e.length = 1 := by
  intro e he
  simp only [enL, List.mem_map] at he
  obtain ⟨a, _, rfl⟩ := he
  exact hf a
theorem wt_slice {P : Program} {t e : TypeId} (ht : P.underlying t = some (.slice e)) (hk : P.cellsOf e = 1) {H : Type} {enc : TypeId × Value → H} {W : World} {base : Nat} {sp : Nat → Bool} {held : Bool} {fuel : Nat} {v : Value} {x : DataW H × List MemPlace}
    (h : DataW.trod enc P W base sp held fuel t [v] = some x) {nl : Bool} {α : Type} {f : α → List D} (hf : ∀ a, (f a).length = 1) {l : List α} (g : DR (cm W) (.lst nl (enL f l)) v) {R : Nat} (hw : (x.1.weights P t).all (fun w => decide (w ≤ R)) = true) :
    l.length * P.bytesOf e ≤ R ∧ ∀ (i : Nat) (a : α) (c : D), l[i]? = some a → f a = [c] → ∃ d n pl v', DataW.trod enc P W base sp held n e [v'] = some (d, pl) ∧ DR (cm W) c v' ∧ (d.weights P e).all (fun w => decide (w ≤ R)) = true := by
  rcases slice_open ht hk h (enL1 hf l) g with h0 | ⟨elems, spare, h1, h2, h3⟩
  · have : l = [] := by simpa [enL] using h0
    subst this
    exact ⟨by simp, fun i a c hi => by simp at hi⟩
  · rw [h1, DataW.weights, ht] at hw
    simp only [List.all_cons, List.all_append, Bool.and_eq_true, decide_eq_true_eq] at hw
    rw [enL_length] at h2
    refine ⟨Nat.le_trans (Nat.mul_le_mul_right _ (by omega)) hw.1, fun i a c hi hc => ?_⟩
    obtain ⟨d, n, pl, v', k1, k2, k3⟩ := h3 i c (by simp [enL, hi, hc])
    exact ⟨d, n, pl, v', k2, k3, wt_all hw.2.1 k1⟩
theorem arg_wt {P : Program} {t e : TypeId} (ht : P.underlying t = some (.slice e)) (hk : P.cellsOf e = 1) {H : Type} {enc : TypeId × Value → H} {W : World} {r : Reach} {b0 base : Nat} {sp : Nat → Bool} {held : Bool} {v : Value} {d : DataW H} {ps : List MemPlace} (hval : Value.okWide P W r b0 t v) (h : DataW.Trod enc P W base sp held t v d ps)
    {nl : Bool} {α : Type} {f : α → List D} (hf : ∀ a, (f a).length = 1) {l : List α} (g : VR (G0 W) [] (.c (.d (.lst nl (enL f l)))) v) {R : Nat} (hw : (d.weights P t).all (fun w => decide (w ≤ R)) = true) :
    l.length * P.bytesOf e ≤ R ∧ ∀ (i : Nat) (a : α) (c : D), l[i]? = some a → f a = [c] → ∃ d n pl v', DataW.trod enc P W base sp held n e [v'] = some (d, pl) ∧ DR (cm W) c v' ∧ (d.weights P e).all (fun w => decide (w ≤ R)) = true := by
  obtain ⟨fuel, h⟩ := h
  have hc : v.cells = #[v] := by
    unfold Value.okWide at hval
    cases v with
    | agg cs => exfalso; simp [ht, Cell.okWide, Cell.ok] at hval
    | _ => rfl
  rw [hc] at h
  exact wt_slice ht hk h hf g hw
end Go.Ab
end
