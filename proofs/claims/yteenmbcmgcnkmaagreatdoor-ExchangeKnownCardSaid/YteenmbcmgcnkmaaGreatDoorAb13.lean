/- Slices cut, maps asked and written, built-in functions. -/
import Derived.Test.YteenmbcmgcnkmaaGreatDoorAb12
set_option linter.unusedVariables false
set_option linter.unusedSimpArgs false
namespace Go.Ab
open Go

section
variable {E : Env} {G : Gh} {hp : Heap} {s : Nat → AV} {a : Act} {w : World} {o : Oper}

/-- a slice cut, whatever it is a slice of -/
theorem cut_ok (hs : SR G hp s a.tmps) (hw : WR G hp w) {sz : Nat} {x : C} {v : Value} {lo hi mx : Option Operand} {r : V1 × Heap} (hr : CR G hp x v) (h : cutSlice s hp sz x lo hi mx = some r) :
    ∃ (ad : Option Addr) (len cap l h c : Nat), v = .slice ad len cap ∧ (∀ (P : Program) (q : Bool), (Instr.sliceBounds q len cap (lo.map a.eval) (hi.map a.eval) (mx.map a.eval)).run P w = .ok (l, h, c) w) ∧
      ∃ G', WR G' r.2 w ∧ Sn G hp w G' r.2 w ∧ VR G' r.2 r.1 (.slice (if c = l then ad else ad.map (·.add (l * sz))) (h - l) (c - l)) := by
  have key : ∀ (nl : Bool) (es : List (List D)), x.list = some (nl, es) → (∀ k off sz len cap, x ≠ .slc k off sz len cap) → ∃ (ad : Option Addr) (len cap l h c : Nat), v = .slice ad len cap ∧ (∀ (P : Program) (q : Bool), (Instr.sliceBounds q len cap (lo.map a.eval) (hi.map a.eval) (mx.map a.eval)).run P w = .ok (l, h, c) w) ∧
      ∃ G', WR G' r.2 w ∧ Sn G hp w G' r.2 w ∧ VR G' r.2 r.1 (.slice (if c = l then ad else ad.map (·.add (l * sz))) (h - l) (c - l)) := by
    intro nl es hx hns
    have hcs : cutSlice s hp sz x lo hi mx = (if es.all (·.length == sz) then
      match mx with
      | none => do
        let h ← (evB s es.length hi).bind fun i => bnd i es.length
        let l ← (evB s 0 lo).bind fun i => bnd i h
        if lo.isNone && hi.isNone then some (.c x, hp) else some (.c (.d (.lst nl ((es.take h).drop l))), hp)
      | some m => do
        let c ← (evI s m).bind fun i => bnd i es.length
        let hv ← hi
        let h ← (evI s hv).bind fun i => bnd i c
        let l ← (evB s 0 lo).bind fun i => bnd i h
        if h = c then some (.c (.own nl ((es.take h).drop l) hp.length), hp ++ [.row (h - l) 0]) else none
      else none) := by
      cases x with
      | slc k off sz' len cap => exact (hns _ _ _ _ _ rfl).elim
      | _ => simp only [cutSlice, hx]; rfl
    rw [hcs] at h
    have hd := list_dr hx hr
    obtain ⟨ad, cap, sz', vs, rfl, g1, g2, g3, gsp, g4, g5, g6⟩ := DR.inv hd
    split at h
    · rename_i hall
      cases mx with
      | none =>
        simp only [Option.bind_eq_bind, Option.bind_eq_some_iff] at h
        obtain ⟨hh, ⟨i, hi1, hi2⟩, l, ⟨j, hl1, hl2⟩, h⟩ := h
        have hb := bnd_some hi2
        have hb2 := bnd_some hl2
        refine ⟨ad, es.length, cap, l, hh, cap, rfl, fun P q => run_bounds hs (n := es.length) (by simp [hi1, hi2]) (by simp [hl1, hl2]) g1, ?_⟩
        have hc := DR.cut hd hall (h := hh) (l := l) (c := cap) (by omega) (by omega) (by omega) (Nat.le_refl _)
        split at h
        · rename_i hno
          cases h
          simp only [Bool.and_eq_true, Option.isNone_iff_eq_none] at hno
          obtain ⟨rfl, rfl⟩ := hno
          simp only [evB, Option.some.injEq] at hi1 hl1
          have e1 : hh = es.length := by omega
          have e2 : l = 0 := by omega
          subst e1 e2
          refine ⟨G, hw, Sn.refl _ _ _, ?_⟩
          have : (if cap = 0 then ad else ad.map (·.add (0 * sz))) = ad := by
            split
            · rfl
            · cases ad <;> simp [Addr.add]
          rw [this]
          exact hr
        · cases h
          exact ⟨G, hw, Sn.refl _ _ _, hc⟩
      | some m =>
        simp only [Option.bind_eq_bind, Option.bind_eq_some_iff] at h
        obtain ⟨c, ⟨i, hc1, hc2⟩, hv, hhi, hh, ⟨i', hi1, hi2⟩, l, ⟨j, hl1, hl2⟩, h⟩ := h
        subst hhi
        have hb := bnd_some hi2
        have hb2 := bnd_some hl2
        have hb3 := bnd_some hc2
        refine ⟨ad, es.length, cap, l, hh, c, rfl, fun P q => run_bounds3 hs (n := es.length) (by simp [hc1, hc2]) (by simp [hi1, hi2]) (by simp [hl1, hl2]) g1, ?_⟩
        have hc := DR.cut hd hall (h := hh) (l := l) (c := c) (by omega) (by omega) (by omega) (by omega)
        split at h
        · rename_i heq
          cases h
          obtain ⟨G', hw', sn, hb', hm⟩ := name_ok (n := hh - l) hw
          refine ⟨G', hw', sn, hc.mono sn.mu, hh - l, 0, by simp, by simp; omega, fun _ => ?_⟩
          rw [hb']
          have hlen : ((es.take hh).drop l).length = hh - l := by simp; omega
          exact ⟨_, by rw [hlen, heq]⟩
        · cases h
    · cases h
  cases x with
  | slc k off sz' len cap =>
    simp only [cutSlice] at h
    split at h
    · rename_i hsz
      subst hsz
      obtain ⟨b, c0, off', hib, rfl, hlc, hcap, hoff, hrm⟩ := hr
      have htop : cap.getD len ≤ c0 := by
        cases cap with
        | none => exact hlc
        | some c' => rw [hcap c' rfl]; exact Nat.le_refl _
      cases mx with
      | none =>
        simp only [Option.bind_eq_bind, Option.bind_eq_some_iff] at h
        obtain ⟨hh, ⟨i, hi1, hi2⟩, l, ⟨j, hl1, hl2⟩, h⟩ := h
        cases h
        have hb := bnd_some hi2
        have hb2 := bnd_some hl2
        refine ⟨_, len, c0, l, hh, c0, rfl, fun P q => run_bounds hs (n := cap.getD len) (by simp [hi1, hi2]) (by simp [hl1, hl2]) htop, G, hw, Sn.refl _ _ _, ?_⟩
        refine ⟨b, c0 - l, if c0 = l then off' else off' + l * sz', hib, ?_, by omega, fun c' hc' => ?_, fun hne => ?_, fun hn hne => ?_⟩
        · split <;> simp [addr_add]
        · simp only [Option.map_eq_some_iff] at hc'
          obtain ⟨c'', e, rfl⟩ := hc'
          rw [hcap c'' e]
        · rw [if_neg (by omega), hoff (by omega)]
        · have hn' : cap = none := by cases cap <;> simp at hn ⊢
          rcases hrm hn' (by omega) with h | h
          · exact .inl h
          · right
            have h2 : l * sz' + (c0 - l) * sz' = c0 * sz' := by rw [← Nat.add_mul]; congr 1; omega
            omega
      | some m =>
        simp only [Option.bind_eq_bind, Option.bind_eq_some_iff] at h
        obtain ⟨c, ⟨i, hc1, hc2⟩, hv, hhi, hh, ⟨i', hi1, hi2⟩, l, ⟨j, hl1, hl2⟩, h⟩ := h
        subst hhi
        cases h
        have hb := bnd_some hi2
        have hb2 := bnd_some hl2
        have hb3 := bnd_some hc2
        refine ⟨_, len, c0, l, hh, c, rfl, fun P q => run_bounds3 hs (n := cap.getD len) (by simp [hc1, hc2]) (by simp [hi1, hi2]) (by simp [hl1, hl2]) htop, G, hw, Sn.refl _ _ _, ?_⟩
        refine ⟨b, c - l, if c = l then off' else off' + l * sz', hib, ?_, by omega, fun c' hc' => by cases hc'; rfl, fun hne => ?_, fun hn => by cases hn⟩
        · split <;> simp [addr_add]
        · rw [if_neg (by omega), hoff (by omega)]
    · cases h
  | d x =>
    cases x with
    | sc v => simp [cutSlice, C.list] at h
    | lst nl es => exact key nl es rfl (by simp)
  | own nl es k => exact key nl es rfl (by simp)
  | _ => simp [cutSlice, C.list] at h

theorem op_slice (hs : SR G hp s a.tmps) (hw : WR G hp w) {t : TypeId} {x : Operand} {lo hi mx : Option Operand} (hop : o.op = .slice t x lo hi mx) {v : AV × Heap} (h : dop E s hp o = some v) :
    OkV G hp w ((execOp a.eval o).run E.P w) v := by
  simp only [dop, hop] at h
  split at h
  · rename_i b hu hx
    split at h
    · simp only [Option.bind_eq_bind, Option.bind_eq_some_iff] at h
      obtain ⟨hh, ⟨i, hi1, hi2⟩, l, ⟨j, hl1, hl2⟩, h⟩ := h
      cases h
      have r := ev1_rel hs hx
      have hv : a.eval x = .string b := by generalize a.eval x = z at r; cases r; rfl
      have hb := run_bounds hs (w := w) (P := E.P) (q := false) (n := b.size) (len := b.size) (cap := b.size) (h := hh) (l := l) (lo := lo) (hi := hi) (by simp [hi1, hi2]) (by simp [hl1, hl2]) (Nat.le_refl _)
      refine OkV.same hw (x := .string (b.extract l hh)) ?_ (DR.sc (.string _) rfl)
      simp only [execOp, hop]
      refine run_val ?_
      simp [Instr.sliceAt, run_underlying hu, Instr.slice, hv, hb]
    · cases h
  · rename_i e y hu hx
    simp only [Option.bind_eq_bind, Option.bind_eq_some_iff] at h
    obtain ⟨sz, hsz, r, hr, h⟩ := h
    cases h
    obtain ⟨ad, len, cap, l, hh, c, hv, hb, G', hw', sn, hvr⟩ := cut_ok hs hw (ev1_rel hs hx) hr
    refine ⟨_, w, G', .inl ⟨?_, hvr⟩, hw', sn⟩
    simp only [execOp, hop]
    refine run_val ?_
    simp [Instr.sliceAt, run_underlying hu, Instr.slice, hv, hb, run_sizeOf hsz]
  · rename_i n e k off hu hx
    simp only [Option.bind_eq_bind, Option.bind_eq_some_iff] at h
    obtain ⟨sz, hsz, r, hr, h⟩ := h
    cases h
    obtain ⟨b, hib, hv⟩ := ev1_rel hs hx
    have hsl : CR G hp (.slc k off sz n (some n)) (.slice (some ⟨b, off, none⟩) n n) := ⟨b, n, off, hib, rfl, Nat.le_refl _, fun c' hc' => by cases hc'; rfl, fun _ => rfl, fun hn => by cases hn⟩
    obtain ⟨ad, len, cap, l, hh, c, hv2, hb, G', hw', sn, hvr⟩ := cut_ok hs hw hsl hr
    cases hv2
    refine ⟨_, w, G', .inl ⟨?_, hvr⟩, hw', sn⟩
    simp only [execOp, hop]
    refine run_val ?_
    have hb' := hb E.P false
    by_cases e : c = l
    · simp [Instr.sliceAt, run_underlying hu, hv, Instr.sureAddr, hb', run_sizeOf hsz, e]
    · simp [Instr.sliceAt, run_underlying hu, hv, Instr.sureAddr, hb', run_sizeOf hsz, e]
  · rename_i q k off hu hx
    split at h
    · rename_i n e hu2
      simp only [Option.bind_eq_bind, Option.bind_eq_some_iff] at h
      obtain ⟨sz, hsz, r, hr, h⟩ := h
      cases h
      obtain ⟨b, hib, hv⟩ := ev1_rel hs hx
      have hsl : CR G hp (.slc k off sz n (some n)) (.slice (some ⟨b, off, none⟩) n n) := ⟨b, n, off, hib, rfl, Nat.le_refl _, fun c' hc' => by cases hc'; rfl, fun _ => rfl, fun hn => by cases hn⟩
      obtain ⟨ad, len, cap, l, hh, c, hv2, hb, G', hw', sn, hvr⟩ := cut_ok hs hw hsl hr
      cases hv2
      refine ⟨_, w, G', .inl ⟨?_, hvr⟩, hw', sn⟩
      simp only [execOp, hop]
      refine run_val ?_
      have hb' := hb E.P false
      by_cases e : c = l
      · simp [Instr.sliceAt, run_underlying hu, Instr.slice, asAddr, hv, run_underlying hu2, hb', run_sizeOf hsz, e]
      · simp [Instr.sliceAt, run_underlying hu, Instr.slice, asAddr, hv, run_underlying hu2, hb', run_sizeOf hsz, e]
    · cases h
  · cases h

end
end Go.Ab
