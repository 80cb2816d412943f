/- The operations that make memory, or write it. -/
import Derived.Test.YteenmbcmgcnkmaaGreatDoorAb8
set_option linter.unusedVariables false
set_option linter.unusedSimpArgs false
namespace Go.Ab
open Go

section
variable {E : Env} {G : Gh} {hp : Heap} {s : Nat → AV} {a : Act} {w : World} {o : Oper}

def addβ (G : Gh) (k : Nat) (bd : Bd) : Nat → Bd := fun j => if j = k then bd else G.β j

theorem mu_self (hw : WR G hp w) (i : Nat) : G.μ w.heap.size i = none := by
  cases h : G.μ w.heap.size i with
  | none => rfl
  | some v => have := hw.mu_lt h; omega

/-- a new object of cells -/
theorem new_cells {w' : World} {cs : List C} {vs : Array Value} {t : TypeId} {fz : Nat × Nat} (hw : WR G hp w) (hh : w'.heap = w.heap.push (.cells vs t fz)) (hf : Fz fz vs.size)
    (hl : cs.length ≤ vs.size) (r : ∀ (i : Nat) c v, cs[i]? = some c → vs[i]? = some v → CR G hp c v) (hio : Io w w' := by first | exact ⟨rfl, rfl, rfl⟩ | assumption) :
    ∃ G', WR G' (hp ++ [.cells cs]) w' ∧ Sn G hp w G' (hp ++ [.cells cs]) w' ∧ Isb G' (hp ++ [.cells cs]) hp.length w.heap.size := by
  have hb : w'.heap[w.heap.size]? = some (.cells vs t fz) := by rw [hh]; simp
  obtain ⟨sn, k⟩ := push_ok (o := .cells cs) (bd := .blk w.heap.size) (μ' := G.μ) hw hh (fun b h => h.symm) (fun _ _ _ h => h) (fun _ _ h => .inl h)
    (fun i v h => by rw [mu_self hw] at h; cases h)
  refine ⟨_, k ?_, sn, ⟨.cells cs, by simp, rfl, .inr (by simp [Bd.at])⟩⟩
  exact ⟨w.heap.size, vs, t, fz, by simp [Bd.at], hb, hf, hl, fun i c v hc hv => (r i c v hc hv).mono sn, fun i => mu_self hw i, by simp [Bd.top]⟩

/-- new memory of which more is known to be there -/
theorem new_room {w' : World} {cs : List C} {vs : Array Value} {t : TypeId} {fz : Nat × Nat} {sz cap : Nat} (hw : WR G hp w) (hh : w'.heap = w.heap.push (.cells vs t fz)) (hf : Fz fz vs.size)
    (hl : cs.length ≤ vs.size) (hroom : cap * sz ≤ vs.size) (r : ∀ (i : Nat) c v, cs[i]? = some c → vs[i]? = some v → CR G hp c v) (hio : Io w w' := by first | exact ⟨rfl, rfl, rfl⟩ | assumption) :
    ∃ G', WR G' (hp ++ [.cells cs]) w' ∧ Sn G hp w G' (hp ++ [.cells cs]) w' ∧ Isb G' (hp ++ [.cells cs]) hp.length w.heap.size ∧ (G'.β hp.length).top = cap * sz := by
  have hb : w'.heap[w.heap.size]? = some (.cells vs t fz) := by rw [hh]; simp
  obtain ⟨sn, k⟩ := push_ok (o := .cells cs) (bd := .tail w.heap.size 0 sz cap) (μ' := G.μ) hw hh (fun b h => h.symm) (fun _ _ _ h => h) (fun _ _ h => .inl h)
    (fun i v h => by rw [mu_self hw] at h; cases h)
  refine ⟨_, k ?_, sn, ⟨.cells cs, by simp, rfl, .inr (by simp [Bd.at])⟩, by simp [Bd.top]⟩
  exact ⟨w.heap.size, vs, t, fz, by simp [Bd.at], hb, hf, hl, fun i c v hc hv => (r i c v hc hv).mono sn, fun i => mu_self hw i, by simp [Bd.top]; exact hroom⟩

/-- an object is given up: what it held, and more, is a new one's, in the same block or in a new one -/
theorem regrow {w' : World} {k bn : Nat} {cs cs0 : List C} {vs : Array Value} {t : TypeId} {fz : Nat × Nat} {sz cap : Nat} (hw : WR G hp w) (hk : hp[k]? = some (.cells cs0)) (hbn : (G.β k).at bn ∨ w.heap.size ≤ bn)
    (hh : ∀ x, x < w.heap.size → x ≠ bn → w'.heap[x]? = w.heap[x]?) (hs : w.heap.size ≤ w'.heap.size) (hb : w'.heap[bn]? = some (.cells vs t fz)) (hf : Fz fz vs.size)
    (hl : cs.length ≤ vs.size) (hroom : cap * sz ≤ vs.size) (r : ∀ (i : Nat) c v, cs[i]? = some c → vs[i]? = some v → CR G hp c v) (hio : Io w w' := by first | exact ⟨rfl, rfl, rfl⟩ | assumption) :
    ∃ G', WR G' (hp.set k .gone ++ [.cells cs]) w' ∧ Sn G hp w G' (hp.set k .gone ++ [.cells cs]) w' ∧ Isb G' (hp.set k .gone ++ [.cells cs]) hp.length bn ∧ (G'.β hp.length).top = cap * sz := by
  have hlt := lt_of_get hk
  have hmu : ∀ i, G.μ bn i = none := fun i => by
    rcases hbn with h | h
    · obtain ⟨b', _, _, _, e, _, _, _, _, hn, _⟩ := hw.ob k _ hk
      cases Bd.at_inj h e
      exact hn i
    · cases hm : G.μ bn i with
      | none => rfl
      | some v => have := hw.mu_lt hm; omega
  have other : ∀ j, j < hp.length → j ≠ k → ¬ (G.β j).at bn := fun j hj hne hat => by
    rcases hbn with h | h
    · exact hne (hw.inj j k bn hj hlt hat h)
    · have := hw.at_lt hj hat; omega
  let G' : Gh := ⟨fun j => if j = hp.length then .tail bn 0 sz cap else if j = k then .none else G.β j, G.μ, G.lo⟩
  have bold : ∀ j, j < hp.length → j ≠ k → G'.β j = G.β j := fun j hj hne => by
    show (if j = hp.length then _ else if j = k then _ else _) = _
    rw [if_neg (by omega), if_neg hne]
  have bk : G'.β k = .none := by
    show (if k = hp.length then _ else if k = k then _ else _) = _
    rw [if_neg (by omega), if_pos rfl]
  have bnew : G'.β hp.length = .tail bn 0 sz cap := by
    show (if hp.length = hp.length then _ else _) = _
    rw [if_pos rfl]
  have get : ∀ j o, (hp.set k .gone ++ [.cells cs])[j]? = some o → (j = hp.length ∧ o = .cells cs) ∨ (j = k ∧ o = .gone) ∨ (j < hp.length ∧ j ≠ k ∧ hp[j]? = some o) := fun j o h => by
    by_cases hj : j < hp.length
    · rw [List.getElem?_append_left (by simpa using hj)] at h
      by_cases e : j = k
      · subst e
        simp [hlt] at h
        exact .inr (.inl ⟨rfl, h.symm⟩)
      · rw [List.getElem?_set_ne (Ne.symm e)] at h
        exact .inr (.inr ⟨hj, e, h⟩)
    · rw [List.getElem?_append_right (by simpa using hj)] at h
      simp only [List.length_set] at h
      by_cases e : j = hp.length
      · subst e
        simp at h
        exact .inl ⟨rfl, h.symm⟩
      · have := lt_of_get h
        simp at this
        omega
  have s : Sn G hp w G' (hp.set k .gone ++ [.cells cs]) w' := by
    refine ⟨fun _ _ _ h => h, fun _ _ h => .inl h, fun j x hj h => ?_, fun x hx _ hn => ?_, hs, fun j o h => ?_, hio, rfl⟩
    · by_cases e : j = hp.length
      · subst e
        rw [bnew] at h
        have e2 : bn = x := h
        subst e2
        rcases hbn with h' | h'
        · exact .inr ⟨k, hlt, h'⟩
        · exact .inl h'
      · by_cases e2 : j = k
        · subst e2; rw [bk] at h; exact h.elim
        · simp at hj
          rw [bold j (by omega) e2] at h
          exact .inr ⟨j, by omega, h⟩
    · by_cases e : x = bn
      · subst e
        rcases hbn with h' | h'
        · exact (hn k hlt h').elim
        · omega
      · exact hh x hx e
    · have hj := lt_of_get h
      by_cases e : j = k
      · subst e
        rw [hk] at h
        cases h
        exact ⟨.gone, by rw [List.getElem?_append_left (by simpa using hj)]; simp [hlt], by simp [KR]⟩
      · refine ⟨o, by rw [List.getElem?_append_left (by simpa using hj), List.getElem?_set_ne (Ne.symm e)]; exact h, ?_⟩
        cases o <;> simp [KR, bold j hj e]
  refine ⟨G', ⟨fun x i v h => ?_, fun j o h => ?_, fun j j' x hj hj' h h' => ?_, Nat.le_trans hw.lo s.size⟩, s, ⟨.cells cs, by rw [List.getElem?_append_right (by simp)]; simp, rfl, .inr (by rw [bnew]; rfl)⟩, by rw [bnew]; simp [Bd.top]⟩
  · have h : G.μ x i = some v := h
    have hx : x ≠ bn := fun e => by subst e; rw [hmu i] at h; cases h
    obtain ⟨us, t', fz', hb2, hi⟩ := block_of_cell (hw.mu x i v h)
    rw [cell_at (by rw [hh x (lt_of_block hb2) hx]; exact hb2), hi]
  · rcases get j o h with ⟨rfl, rfl⟩ | ⟨rfl, rfl⟩ | ⟨hj, hne, h⟩
    · exact ⟨bn, vs, t, fz, by rw [bnew]; rfl, hb, hf, hl, fun i c v hc hv => (r i c v hc hv).mono s, hmu, by rw [bnew]; simp [Bd.top]; exact hroom⟩
    · exact bk
    · exact (hw.ob j o h).keep s (bold j hj hne) (fun x hx => hh x (hw.at_lt hj hx) fun e => other j hj hne (e ▸ hx)) fun _ _ _ hn => hn
  · have cl : ∀ i, i < (hp.set k .gone ++ [Ob.cells cs]).length → (G'.β i).at x → (i = hp.length ∧ x = bn) ∨ (i < hp.length ∧ i ≠ k ∧ (G.β i).at x) := fun i hi h => by
      by_cases e : i = hp.length
      · subst e; rw [bnew] at h; exact .inl ⟨rfl, Eq.symm h⟩
      · by_cases e2 : i = k
        · subst e2; rw [bk] at h; exact h.elim
        · simp at hi
          rw [bold i (by omega) e2] at h
          exact .inr ⟨by omega, e2, h⟩
    rcases cl j hj h with ⟨rfl, e⟩ | ⟨a1, a2, a3⟩ <;> rcases cl j' hj' h' with ⟨rfl, e'⟩ | ⟨c1, c2, c3⟩
    · rfl
    · subst e; exact (other j' c1 c2 c3).elim
    · subst e'; exact (other j a1 a2 a3).elim
    · exact hw.inj j j' x a1 c1 a3 c3

theorem fz0 (n : Nat) : Fz (0, 0) n := ⟨Nat.le_refl _, fun i _ => by simp⟩

theorem all2_get {α : Type} {R : C → Value → Prop} {cs : List C} {vs : Array Value} (h : All2 R cs vs.toList) : ∀ (i : Nat) c v, cs[i]? = some c → vs[i]? = some v → R c v := by
  intro i c v hc hv
  obtain ⟨v', hv', r⟩ := h.get hc
  rw [Array.getElem?_toList] at hv'
  rw [hv] at hv'
  cases hv'
  exact r

theorem name_ok {n : Nat} (hw : WR G hp w) : ∃ G', WR G' (hp ++ [.row n 0]) w ∧ Sn G hp w G' (hp ++ [.row n 0]) w ∧ G'.β hp.length = .none ∧ G'.μ = G.μ := by
  have s : Sn G hp w ⟨fun k => if k = hp.length then .none else G.β k, G.μ, G.lo⟩ (hp ++ [.row n 0]) w := by
    refine ⟨fun _ _ _ h => h, fun _ _ h => .inl h, fun k b hk h => ?_, fun b hb _ _ => rfl, Nat.le_refl _, fun k o' h => ?_, Io.refl w, rfl⟩
    · by_cases e : k = hp.length
      · simp [e, Bd.at] at h
      · simp only [e, if_false] at h
        exact .inr ⟨k, by simp at hk; omega, h⟩
    · have hk := lt_of_get h
      have : k ≠ hp.length := by omega
      exact ⟨o', by rw [List.getElem?_append_left hk]; exact h, by cases o' <;> simp [KR, this]⟩
  refine ⟨⟨fun k => if k = hp.length then .none else G.β k, G.μ, G.lo⟩, ⟨hw.mu, fun k o' h => ?_, fun k k' b hk hk' h h' => ?_, hw.lo⟩, s, by simp, rfl⟩
  · by_cases e : k = hp.length
    · subst e
      simp at h
      subst h
      simp [OR]
    · have hk : k < hp.length := by
        rcases Nat.lt_or_ge k hp.length with h' | h'
        · exact h'
        · rw [List.getElem?_append_right h'] at h
          cases hkk : k - hp.length with
          | zero => omega
          | succ n => simp [hkk] at h
      rw [List.getElem?_append_left hk] at h
      exact (hw.ob k o' h).keep s (by simp [e]) (fun _ _ => rfl) fun _ _ _ hn => hn
  · simp only [List.length_append, List.length_singleton] at hk hk'
    by_cases e : k = hp.length <;> by_cases e' : k' = hp.length <;> simp only [e, e', if_true, if_false] at h h'
    · omega
    · simp [Bd.at] at h
    · simp [Bd.at] at h'
    · exact hw.inj k k' b (by omega) (by omega) h h'

theorem op_alloc (hs : SR G hp s a.tmps) (hw : WR G hp w) {t : TypeId} (hop : o.op = .alloc t) {v : AV × Heap} (h : dop E s hp o = some v) :
    OkV G hp w ((execOp a.eval o).run E.P w) v := by
  simp only [dop, hop] at h
  split at h
  · split at h
    case h_2 => cases h
    rename_i hz
    cases h
    simp only [zeroC, Option.map_eq_some_iff, Option.bind_eq_some_iff] at hz
    obtain ⟨x, ⟨z, hz, hx⟩, hc⟩ := hz
    have r := (ofV_rel (G := G) (hp := hp) hx).cells
    rw [hc] at r
    obtain ⟨v0, hv0⟩ : ∃ v0, z.cells.toList = [v0] := by
      have := r.length
      match hzl : z.cells.toList, this with
      | [v0], _ => exact ⟨v0, rfl⟩
    rw [hv0] at r
    obtain ⟨G1, hw1, sn1, hβ1, hμ1⟩ := name_ok (n := 0) hw
    have r0 : CR G hp (.d (.lst true [])) v0 := by cases r with | cons h _ => exact h
    have r1 : CR G1 (hp ++ [.row 0 0]) (.own true [] hp.length) v0 := by
      have hd : DR G.μ (.lst true []) v0 := r0
      obtain ⟨ad, cap, sz, vs, rfl, _, hnl, hcap, _⟩ := DR.inv hd
      refine ⟨by rw [hμ1]; exact hd, 0, 0, by simp, Nat.le_refl _, fun _ => ?_⟩
      rw [hβ1]
      cases ad with
      | none => rw [hcap rfl]; exact ⟨none, rfl⟩
      | some _ => cases hnl
    obtain ⟨G', hw', sn, hi⟩ := new_cells (w' := w.alloc (.cells z.cells t)) (cs := [.own true [] hp.length]) (t := t) hw1 rfl (fz0 _) (by rw [← Array.length_toList, hv0]; simp) (all2_get (α := Unit) (by rw [hv0]; exact .cons r1 .nil))
    refine ⟨_, _, G', .inl ⟨?_, ⟨_, by simpa using hi, rfl⟩⟩, hw', sn1.trans sn⟩
    simp only [execOp, hop]
    refine run_val ?_
    simp [Instr.alloc, run_zeroValue hz, newVar, newRow]
  simp only [zeroC, Option.map_eq_some_iff, Option.bind_eq_some_iff] at h
  obtain ⟨cs, ⟨x, ⟨z, hz, hx⟩, rfl⟩, rfl⟩ := h
  have r := (ofV_rel (G := G) (hp := hp) hx).cells
  obtain ⟨G', hw', sn, hi⟩ := new_cells (w' := w.alloc (.cells z.cells t)) (cs := x.cells) (t := t) hw rfl (fz0 _) (by rw [r.length]; simp) (all2_get (α := Unit) r)
  refine ⟨_, _, G', .inl ⟨?_, ⟨_, hi, rfl⟩⟩, hw', sn⟩
  simp only [execOp, hop]
  refine run_val ?_
  simp [Instr.alloc, run_zeroValue hz, newVar, newRow]

theorem op_box (hs : SR G hp s a.tmps) (hw : WR G hp w) {t : TypeId} {x : Operand} (hop : o.op = .box t x) {v : AV × Heap} (h : dop E s hp o = some v) :
    OkV G hp w ((execOp a.eval o).run E.P w) v := by
  simp only [dop, hop, Option.map_eq_some_iff] at h
  obtain ⟨y, hy, rfl⟩ := h
  have r := (ev1_rel hs hy).cells
  obtain ⟨G', hw', sn, hi⟩ := new_cells (w' := w.alloc (.cells (a.eval x).cells t)) (cs := y.cells) (t := t) hw rfl (fz0 _) (by rw [r.length]; simp) (all2_get (α := Unit) r)
  refine ⟨_, _, G', .inl ⟨?_, ⟨_, hi, rfl⟩⟩, hw', sn⟩
  simp only [execOp, hop]
  refine run_val ?_
  simp [Instr.box, newVar, newRow]

theorem wr_length : ∀ (cs : List C) (off : Nat) (xs : List C), (wr cs off xs).length = cs.length := by
  intro cs
  induction cs with
  | nil => intro off xs; rfl
  | cons c cs ih =>
    intro off xs
    cases off with
    | zero => cases xs with
      | nil => rfl
      | cons x xs => simp only [wr, List.length_cons, ih]
    | succ off => simp only [wr, List.length_cons, ih]
theorem wr_get : ∀ (cs xs : List C) (off i : Nat), off + xs.length ≤ cs.length →
    (wr cs off xs)[i]? = if off ≤ i ∧ i < off + xs.length then xs[i - off]? else cs[i]? := by
  intro cs
  induction cs with
  | nil =>
    intro xs off i h
    simp only [List.length_nil] at h
    rw [if_neg (by omega)]
    rfl
  | cons c cs ih =>
    intro xs off i h
    simp only [List.length_cons] at h
    cases off with
    | zero => cases xs with
      | nil => simp only [wr, List.length_nil]; rw [if_neg (by omega)]
      | cons x xs =>
        simp only [List.length_cons] at h ⊢
        cases i with
        | zero => simp [wr]
        | succ i =>
          simp only [wr, List.getElem?_cons_succ]
          rw [ih xs 0 i (by omega)]
          by_cases hi : i < xs.length
          · rw [if_pos (by omega), if_pos (by omega)]
            simp
          · rw [if_neg (by omega), if_neg (by omega)]
    | succ off =>
      cases i with
      | zero => simp only [wr, List.getElem?_cons_zero]; rw [if_neg (by omega)]
      | succ i =>
        simp only [wr, List.getElem?_cons_succ]
        rw [ih xs off i (by omega)]
        by_cases hi : off ≤ i ∧ i < off + xs.length
        · rw [if_pos hi, if_pos (by omega)]
          congr 1
          omega
        · rw [if_neg hi, if_neg (by omega)]

theorem wr_nil : ∀ (cs : List C) (off : Nat), wr cs off [] = cs := by
  intro cs
  induction cs with
  | nil => intro off; rfl
  | cons c cs ih => intro off; cases off with
    | zero => rfl
    | succ off => simp only [wr, ih]
theorem wr_cons (x : C) (xs : List C) : ∀ (cs : List C) (off : Nat), wr cs off (x :: xs) = wr (cs.set off x) (off + 1) xs := by
  intro cs
  induction cs with
  | nil => intro off; rfl
  | cons c cs ih => intro off; cases off with
    | zero => simp only [wr, List.set_cons_zero]
    | succ off => simp only [wr, List.set_cons_succ, ih]

/-- cells of an object written -/
theorem write_cells {k b off : Nat} {cs xs : List C} {vs : List Value} (hw : WR G hp w) (hk : hp[k]? = some (.cells cs)) (hb : (G.β k).at b) (hle : off + xs.length ≤ cs.length)
    (r : All2 (CR G hp) xs vs) : ∃ w', (storeCells ⟨b, off, none⟩ vs).run E.P w = .ok () w' ∧ WR G (hp.set k (.cells (wr cs off xs))) w' ∧ Sn G hp w G (hp.set k (.cells (wr cs off xs))) w' := by
  obtain ⟨b', us, t, fz, e, h1, h2, h3, h4, h5⟩ := hw.ob k _ hk
  cases Bd.at_inj hb e
  have hl := r.length
  have h1c : ∀ x ∈ vs, x.oneCell' = true := by
    intro x hx
    obtain ⟨i, hi⟩ := List.getElem?_of_mem hx
    obtain ⟨c, hc, hr⟩ := (r.flip).get hi
    exact CR.one hr
  obtain ⟨w', us', hrun, e1, e2, e3, e4, e5, e6, e7⟩ := run_storeCells (P := E.P) b off t fz vs 0 us w h1 h2 (by omega) h1c
  obtain ⟨sn, kk⟩ := set_ok (o' := .cells (wr cs off xs)) hw hk hb rfl rfl e5 e6
  refine ⟨w', hrun, kk ?_, sn⟩
  refine ⟨b, us', t, fz, hb, e1, by rw [e2]; exact h2, by rw [wr_length, e2]; exact h3, fun i c v hc hv => ?_, h5.1, by rw [e2]; exact h5.2⟩
  rw [wr_get _ _ _ _ hle] at hc
  by_cases hin : off ≤ i ∧ i < off + xs.length
  · rw [if_pos hin] at hc
    obtain ⟨v', hv', hr⟩ := r.get hc
    have := e4 _ _ hv'
    rw [show off + 0 + (i - off) = i by omega, hv] at this
    cases this
    exact hr.mono sn
  · rw [if_neg hin] at hc
    rw [e3 i (by omega)] at hv
    exact (h4 i c v hc hv).mono sn

theorem op_store (hs : SR G hp s a.tmps) (hw : WR G hp w) {t : TypeId} {x y : Operand} (hop : o.op = .store t x y) {v : AV × Heap} (h : dop E s hp o = some v) :
    OkV G hp w ((execOp a.eval o).run E.P w) v := by
  simp only [dop, hop, Option.bind_eq_bind, Option.bind_eq_some_iff] at h
  obtain ⟨n, hn, z, hz, h⟩ := h
  split at h
  · rename_i k off hx
    split at h
    · rename_i cs hk
      split at h
      · rename_i hc
        cases h
        obtain ⟨b, hib, hv⟩ := evC_rel hs hx
        have r := (ev1_rel hs hz).cells
        obtain ⟨w', hrun, hw', sn⟩ := write_cells (E := E) hw hk (hib.at hk) (by rw [hc.2]; exact hc.1) r
        refine ⟨undef, w', G, .inr ⟨?_, rfl⟩, hw', sn⟩
        simp only [execOp, hop, hv]
        refine run_unit ?_
        have hsz : (a.eval y).cells.size = n := by rw [← hc.2, r.length]; simp
        simp only [Instr.storeAt, Instr.sureAddr, pure_bind, storeVar, Sem.run_bind, run_sizeOf hn, Result.andThen_ok, hsz, ne_eq, not_true_eq_false, if_false]
        exact hrun
      · cases h
    · cases h
  · cases h

theorem op_makeFunc (hs : SR G hp s a.tmps) (hw : WR G hp w) {f : Fn} {first captured : Array Operand} (hop : o.op = .makeFunc f first captured) {v : AV × Heap} (h : dop E s hp o = some v) :
    OkV G hp w ((execOp a.eval o).run E.P w) v := by
  simp only [dop, hop] at h
  split at h
  · rename_i g hf
    simp only [Option.bind_eq_bind, Option.bind_eq_some_iff] at h
    obtain ⟨cs, hcs, h⟩ := h
    have hfirst : first = #[] := by apply Array.ext'; simpa using hf
    subst hfirst
    have hcap : captured.map a.eval = ((captured.toList.map a.eval).toArray : Array Value) := by apply Array.ext'; simp
    have r : All2 (fun p x => ∃ b, Isb G hp p.1 b ∧ x = .pointer (some ⟨b, p.2, none⟩)) cs (captured.toList.map a.eval) := by
      have h2 := mapM_all2 hcs
      clear hcs hcap h
      generalize captured.toList = l at h2
      induction h2 with
      | nil => exact .nil
      | cons h _ ih =>
        refine .cons ?_ ih
        split at h
        · rename_i k off hx
          cases h
          exact evC_rel hs hx
        · cases h
    split at h
    · rename_i he
      cases h
      have hnil : captured.toList.map a.eval = [] := by
        have : cs = [] := by simpa using he
        subst this
        exact List.eq_nil_of_length_eq_zero r.length.symm
      refine OkV.same hw (x := .func (.func g) #[] #[]) ?_ (.sc _ rfl)
      simp only [execOp, hop]
      refine run_val ?_
      simp [Instr.makeFunc, hcap, hnil]
    · cases h
      refine OkV.same hw (x := .func (.func g) #[] (captured.toList.map a.eval).toArray) ?_ ⟨_, rfl, r⟩
      simp only [execOp, hop]
      refine run_val ?_
      rw [hcap, Array.map_empty]
      rfl
  · cases h

theorem alloc_at (w : World) (ob : Obj) : (w.alloc ob).heap[w.heap.size]? = some ob := by show (w.heap.push ob)[w.heap.size]? = _; simp

theorem op_makeMap (hs : SR G hp s a.tmps) (hw : WR G hp w) {t : TypeId} {x : Option Operand} (hop : o.op = .makeMap t x) {v : AV × Heap} (h : dop E s hp o = some v) :
    OkV G hp w ((execOp a.eval o).run E.P w) v := by
  cases x with
  | some x => simp [dop, hop] at h
  | none =>
    simp only [dop, hop, Option.some.injEq] at h
    subst h
    obtain ⟨sn, k⟩ := push_ok (w' := w.alloc (.map #[] 0)) (ob := .map #[] 0) (o := .amap []) (bd := .blk w.heap.size) (μ' := G.μ) hw rfl (fun b h => h.symm) (fun _ _ _ h => h) (fun _ _ h => .inl h)
      (fun i v h => by rw [mu_self hw] at h; cases h)
    refine ⟨.map (some w.heap.size), w.alloc (.map #[] 0), _, .inl ⟨?_, ⟨w.heap.size, ⟨.amap [], by simp, rfl, .inr (by simp [Bd.at])⟩, rfl⟩⟩, k ?_, sn⟩
    · simp only [execOp, hop]
      refine run_val ?_
      simp [Instr.makeMap]
    · exact ⟨w.heap.size, #[], 0, by simp, alloc_at _ _, .nil, fun i => mu_self hw i⟩

theorem op_range (hs : SR G hp s a.tmps) (hw : WR G hp w) {t : TypeId} {x : Operand} (hop : o.op = .range t x) {v : AV × Heap} (h : dop E s hp o = some v) :
    OkV G hp w ((execOp a.eval o).run E.P w) v := by
  simp only [dop, hop] at h
  split at h
  · rename_i b hu hx
    cases h
    have r := evC_rel hs hx
    have hv : a.eval x = .string b := by generalize a.eval x = z at r; cases r; rfl
    obtain ⟨sn, k⟩ := push_ok (w' := w.alloc (.stringIter b 0)) (ob := .stringIter b 0) (o := .siter b 0) (bd := .blk w.heap.size) (μ' := G.μ) hw rfl (fun b h => h.symm) (fun _ _ _ h => h) (fun _ _ h => .inl h)
      (fun i v h => by rw [mu_self hw] at h; cases h)
    refine ⟨.pointer (some ⟨w.heap.size, 0, none⟩), w.alloc (.stringIter b 0), _, .inl ⟨?_, ⟨w.heap.size, ⟨.siter b 0, by simp, rfl, .inr (by simp [Bd.at])⟩, rfl⟩⟩, k ?_, sn⟩
    · simp only [execOp, hop]
      refine run_val ?_
      simp [Instr.range, run_underlying hu, hv]
    · exact ⟨w.heap.size, by simp, alloc_at _ _, fun i => mu_self hw i⟩
  · cases h

theorem getObj_run {P : Program} {b : Nat} {ob : Obj} (h : w.heap[b]? = some ob) (hc : ∀ c t f, ob ≠ .cells c t f) : (getObj b).run P w = .ok ob w := by
  cases ob with
  | cells c t f => exact (hc c t f rfl).elim
  | _ => simp [getObj, Sem.run, h]
theorem setObj_run {P : Program} {b : Nat} {ob ob' : Obj} (h : w.heap[b]? = some ob) (hc : ∀ c t f, ob ≠ .cells c t f) : (setObj b ob').run P w = .ok () { w with heap := w.heap.setIfInBounds b ob' } := by
  cases ob with
  | cells c t f => exact (hc c t f rfl).elim
  | _ => simp [setObj, Sem.run, h]

theorem set_heap {b : Nat} {ob ob' : Obj} (h : w.heap[b]? = some ob) : ({ w with heap := w.heap.setIfInBounds b ob' } : World).heap[b]? = some ob' ∧
    (∀ x, x ≠ b → ({ w with heap := w.heap.setIfInBounds b ob' } : World).heap[x]? = w.heap[x]?) ∧ ({ w with heap := w.heap.setIfInBounds b ob' } : World).heap.size = w.heap.size := by
  have hlt := lt_of_block h
  refine ⟨by simp [hlt], fun x hx => ?_, by simp⟩
  simp [Array.getElem?_setIfInBounds, Ne.symm hx]

theorem op_next (hs : SR G hp s a.tmps) (hw : WR G hp w) {x : Operand} {q : Bool} (hop : o.op = .next x q) {v : AV × Heap} (h : dop E s hp o = some v) :
    OkV G hp w ((execOp a.eval o).run E.P w) v := by
  cases q with
  | false => simp [dop, hop] at h
  | true =>
    simp only [dop, hop] at h
    split at h
    · rename_i k hx
      split at h
      · rename_i st pos hk
        obtain ⟨b, hib, hv⟩ := evC_rel hs hx
        obtain ⟨b', hb, h1, h2⟩ := hw.ob k _ hk
        have hat : (G.β k).at b' := by rw [hb]; rfl
        cases Bd.at_inj (hib.at hk) hat
        split at h
        · rename_i hpos
          cases h
          obtain ⟨g1, g2, g3⟩ := set_heap (w := w) (ob' := .stringIter st (pos + (Utf8.decode st pos).2)) h1
          obtain ⟨sn, kk⟩ := set_ok (o' := .siter st (pos + (Utf8.decode st pos).2)) hw hk hat rfl rfl g2 g3
          refine ⟨.tuple #[.bool true, goInt pos, .int .i32 (Utf8.decode st pos).1], _, G, .inl ⟨?_, ⟨[.bool true, goInt pos, .int .i32 (Utf8.decode st pos).1], rfl, .cons (.sc _ rfl) (.cons (.sc _ rfl) (.cons (.sc _ rfl) .nil))⟩⟩, kk ⟨b, hb, g1, h2⟩, sn⟩
          simp only [execOp, hop, hv]
          refine run_val ?_
          simp [Instr.next, getObj_run h1 (by simp), setObj_run h1 (by simp), hpos]
        · rename_i hpos
          cases h
          refine OkV.same hw (x := .tuple #[.bool false]) ?_ ⟨[.bool false], rfl, .cons (.sc _ rfl) .nil⟩
          simp only [execOp, hop, hv]
          refine run_val ?_
          simp [Instr.next, getObj_run h1 (by simp), hpos]
      · cases h
    · cases h

end
end Go.Ab
