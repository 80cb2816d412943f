/- What the machine's steps do to memory, and that the relation goes on: new blocks, blocks written, rows appended. -/
import Derived.Test.YteenmbcmgcnkmaaGreatDoorAb4
import Derived.Laws.Cells
set_option linter.unusedVariables false
set_option linter.unusedSimpArgs false
namespace Go.Ab
open Go

theorem cell_at {w : World} {b : Nat} {vs : Array Value} {t : TypeId} {fz : Nat × Nat} (h : w.heap[b]? = some (.cells vs t fz)) (i : Nat) : w.cell? ⟨b, i, none⟩ = vs[i]? := by
  simp [World.cell?, h]
theorem block_of_cell {w : World} {b i : Nat} {v : Value} (h : w.cell? ⟨b, i, none⟩ = some v) : ∃ vs t fz, w.heap[b]? = some (.cells vs t fz) ∧ vs[i]? = some v := by
  simp only [World.cell?] at h
  split at h
  · rename_i c t fz hb
    exact ⟨c, t, fz, hb, by simpa using h⟩
  · simp at h
theorem lt_of_block {w : World} {b : Nat} {o : Obj} (h : w.heap[b]? = some o) : b < w.heap.size := by
  rcases Nat.lt_or_ge b w.heap.size with h' | h'
  · exact h'
  · simp [Array.getElem?_eq_none h'] at h
theorem WR.mu_lt {G : Gh} {hp : Heap} {w : World} (hw : WR G hp w) {b i : Nat} {v : Value} (h : G.μ b i = some v) : b < w.heap.size := by
  obtain ⟨vs, t, fz, hb, _⟩ := block_of_cell (hw.mu b i v h)
  exact lt_of_block hb
theorem WR.at_lt {G : Gh} {hp : Heap} {w : World} (hw : WR G hp w) {k b : Nat} (hk : k < hp.length) (h : (G.β k).at b) : b < w.heap.size := by
  have ho := hw.ob k hp[k] (List.getElem?_eq_getElem hk)
  generalize hp[k] = ob at ho
  cases hb : G.β k with
  | none => simp [hb, Bd.at] at h
  | blk b' =>
    have hbb : b' = b := by simpa [hb, Bd.at] using h
    subst hbb
    cases ob with
    | cells cs => obtain ⟨b'', vs, t, fz, h1, h2, _⟩ := ho; cases Bd.at_inj h h1; exact lt_of_block h2
    | row n rsz => simp [OR, hb] at ho
    | amap kvs => obtain ⟨b'', es, c, h1, h2, _⟩ := ho; rw [hb] at h1; cases h1; exact lt_of_block h2
    | siter s p => obtain ⟨b'', h1, h2, _⟩ := ho; rw [hb] at h1; cases h1; exact lt_of_block h2
    | gone => simp [OR, hb] at ho
  | tail b' o sz cap =>
    have hbb : b' = b := by simpa [hb, Bd.at] using h
    subst hbb
    cases ob with
    | cells cs => obtain ⟨b'', vs, t, fz, h1, h2, _⟩ := ho; cases Bd.at_inj h h1; exact lt_of_block h2
    | row n rsz => simp only [OR, hb] at ho; obtain ⟨_, ⟨vs, t, fz, h2, _⟩, _⟩ := ho; exact lt_of_block h2
    | amap kvs => obtain ⟨b'', es, c, h1, _⟩ := ho; rw [hb] at h1; cases h1
    | siter s p => obtain ⟨b'', h1, _⟩ := ho; rw [hb] at h1; cases h1
    | gone => simp [OR, hb] at ho

/-- an object goes on as it was -/
theorem OR.keep {G G' : Gh} {hp hp' : Heap} {w w' : World} {k : Nat} {o : Ob} (h : OR G hp w k o) (s : Sn G hp w G' hp' w') (hb : G'.β k = G.β k)
    (hh : ∀ b, (G.β k).at b → w'.heap[b]? = w.heap[b]?) (hm : ∀ b i, (G.β k).at b → G.μ b i = none → G'.μ b i = none) : OR G' hp' w' k o := by
  cases o with
  | cells cs =>
    obtain ⟨b, vs, t, fz, hat, h2, h3, h4, h5, h6, h7⟩ := h
    exact ⟨b, vs, t, fz, by rw [hb]; exact hat, by rw [hh b hat, h2], h3, h4, fun i c v hc hv => (h5 i c v hc hv).mono s, fun i => hm b i hat (h6 i), by rw [hb]; exact h7⟩
  | gone => exact hb.trans h
  | row n rsz =>
    simp only [OR] at h ⊢
    rw [hb]
    cases hbd : G.β k with
    | none => trivial
    | blk b => rw [hbd] at h; exact h.elim
    | tail b o sz cap =>
      rw [hbd] at h
      obtain ⟨h0, ⟨vs, t, fz, h1, h2, h3⟩, h4, h5, h6⟩ := h
      have hat : (G.β k).at b := by rw [hbd]; rfl
      exact ⟨h0, ⟨vs, t, fz, by rw [hh b hat, h1], h2, h3⟩, h4, h5, fun i hi => hm b i hat (h6 i hi)⟩
  | amap kvs =>
    obtain ⟨b, es, c, h1, h2, h3, h4⟩ := h
    have hat : (G.β k).at b := by rw [h1]; rfl
    exact ⟨b, es, c, by rw [hb, h1], by rw [hh b hat, h2], h3.mono fun _ _ r => ⟨r.1, r.2.mono s⟩, fun i => hm b i hat (h4 i)⟩
  | siter st p =>
    obtain ⟨b, h1, h2, h3⟩ := h
    have hat : (G.β k).at b := by rw [h1]; rfl
    exact ⟨b, by rw [hb, h1], by rw [hh b hat, h2], fun i => hm b i hat (h3 i)⟩

/-- a new block, under a new name -/
theorem push_ok {G : Gh} {hp : Heap} {w w' : World} {ob : Obj} {o : Ob} {bd : Bd} {μ' : Nat → Nat → Option Value} (hw : WR G hp w) (hh : w'.heap = w.heap.push ob)
    (hbd : ∀ b, bd.at b → b = w.heap.size) (hμ : ∀ b i v, G.μ b i = some v → μ' b i = some v) (hμn : ∀ b i, μ' b i ≠ none → G.μ b i ≠ none ∨ b = w.heap.size)
    (hμc : ∀ i v, μ' w.heap.size i = some v → w'.cell? ⟨w.heap.size, i, none⟩ = some v) (hio : Io w w' := by first | exact ⟨rfl, rfl, rfl⟩ | assumption) :
    Sn G hp w ⟨fun k => if k = hp.length then bd else G.β k, μ', G.lo⟩ (hp ++ [o]) w' ∧
    (OR ⟨fun k => if k = hp.length then bd else G.β k, μ', G.lo⟩ (hp ++ [o]) w' hp.length o → WR ⟨fun k => if k = hp.length then bd else G.β k, μ', G.lo⟩ (hp ++ [o]) w') := by
  have old : ∀ b, b < w.heap.size → w'.heap[b]? = w.heap[b]? := fun b hb => by rw [hh]; simp [Array.getElem?_push, Nat.ne_of_lt hb]
  have s : Sn G hp w ⟨fun k => if k = hp.length then bd else G.β k, μ', G.lo⟩ (hp ++ [o]) w' := by
    refine ⟨hμ, fun b i h => ?_, fun k b hk h => ?_, fun b hb _ _ => old b hb, by rw [hh]; simp, fun k o' h => ?_, hio, rfl⟩
    · rcases hμn b i h with h | h
      · exact .inl h
      · exact .inr (.inl (by omega))
    · by_cases e : k = hp.length
      · simp only [e, if_true] at h
        exact .inl (by have := hbd b h; omega)
      · simp only [e, if_false] at h
        exact .inr ⟨k, by simp at hk; omega, h⟩
    · have hk : k < hp.length := by
        rcases Nat.lt_or_ge k hp.length with h' | h'
        · exact h'
        · simp [List.getElem?_eq_none h'] at h
      refine ⟨o', by rw [List.getElem?_append_left hk]; exact h, ?_⟩
      have : k ≠ hp.length := by omega
      cases o' <;> simp [KR, this]
  refine ⟨s, fun hor => ⟨fun b i v h => ?_, fun k o' h => ?_, fun k k' b hk hk' h h' => ?_, Nat.le_trans hw.lo s.size⟩⟩
  · replace h : μ' b i = some v := h
    by_cases e : b = w.heap.size
    · subst e; exact hμc i v h
    · rcases hμn b i (by rw [h]; simp) with h2 | h2
      · cases hv : G.μ b i with
        | none => exact (h2 hv).elim
        | some u =>
          have := hμ b i u hv
          rw [h] at this
          cases this
          have hc := hw.mu b i v hv
          obtain ⟨vs, t, fz, hb, hi⟩ := block_of_cell hc
          have := lt_of_block hb
          rw [cell_at (by rw [old b this]; exact hb), hi]
      · exact (e h2).elim
  · by_cases e : k = hp.length
    · subst e
      simp at h
      subst h
      exact hor
    · have hk : k < hp.length := by
        rcases Nat.lt_or_ge k hp.length with h' | h'
        · exact h'
        · rw [List.getElem?_append_right h'] at h
          have : k - hp.length ≠ 0 := by omega
          cases hkk : k - hp.length with
          | zero => omega
          | succ n => simp [hkk] at h
      rw [List.getElem?_append_left hk] at h
      have hlt : ∀ b, (G.β k).at b → b < w.heap.size := fun b hb => hw.at_lt hk hb
      refine (hw.ob k o' h).keep s (by simp [e]) (fun b hb => old b (hlt b hb)) fun b i hb hn => ?_
      show μ' b i = none
      cases hm : μ' b i with
      | none => rfl
      | some u =>
        rcases hμn b i (by rw [hm]; simp) with h2 | h2
        · exact (h2 hn).elim
        · have := hlt b hb; omega
  · simp only [List.length_append, List.length_singleton] at hk hk'
    by_cases e : k = hp.length <;> by_cases e' : k' = hp.length <;> simp only [e, e', if_true, if_false] at h h'
    · omega
    · have := hbd b h; have := hw.at_lt (by omega) h'; omega
    · have := hbd b h'; have := hw.at_lt (by omega) h; omega
    · exact hw.inj k k' b (by omega) (by omega) h h'

/-- a new block that is nobody's object: cells that never change -/
theorem push_mu {G : Gh} {hp : Heap} {w w' : World} {ob : Obj} {μ' : Nat → Nat → Option Value} (hw : WR G hp w) (hh : w'.heap = w.heap.push ob)
    (hμ : ∀ b i v, G.μ b i = some v → μ' b i = some v) (hμn : ∀ b i, μ' b i ≠ none → G.μ b i ≠ none ∨ b = w.heap.size)
    (hμc : ∀ i v, μ' w.heap.size i = some v → w'.cell? ⟨w.heap.size, i, none⟩ = some v) (hio : Io w w' := by first | exact ⟨rfl, rfl, rfl⟩ | assumption) :
    Sn G hp w ⟨G.β, μ', G.lo⟩ hp w' ∧ WR ⟨G.β, μ', G.lo⟩ hp w' := by
  have old : ∀ b, b < w.heap.size → w'.heap[b]? = w.heap[b]? := fun b hb => by rw [hh]; simp [Array.getElem?_push, Nat.ne_of_lt hb]
  have s : Sn G hp w ⟨G.β, μ', G.lo⟩ hp w' := by
    refine ⟨hμ, fun b i h => ?_, fun k b hk h => .inr ⟨k, hk, h⟩, fun b hb _ _ => old b hb, by rw [hh]; simp, fun k o' h => ⟨o', h, ?_⟩, hio, rfl⟩
    · rcases hμn b i h with h | h
      · exact .inl h
      · exact .inr (.inl (by omega))
    · cases o' <;> simp [KR]
  refine ⟨s, ⟨fun b i v h => ?_, fun k o' h => ?_, hw.inj, Nat.le_trans hw.lo s.size⟩⟩
  · replace h : μ' b i = some v := h
    by_cases e : b = w.heap.size
    · subst e; exact hμc i v h
    · rcases hμn b i (by rw [h]; simp) with h2 | h2
      · cases hv : G.μ b i with
        | none => exact (h2 hv).elim
        | some u =>
          have := hμ b i u hv
          rw [h] at this
          cases this
          have hc := hw.mu b i v hv
          obtain ⟨vs, t, fz, hb, hi⟩ := block_of_cell hc
          have := lt_of_block hb
          rw [cell_at (by rw [old b this]; exact hb), hi]
      · exact (e h2).elim
  · have hk : k < hp.length := by
      rcases Nat.lt_or_ge k hp.length with h' | h'
      · exact h'
      · simp [List.getElem?_eq_none h'] at h
    have hlt : ∀ b, (G.β k).at b → b < w.heap.size := fun b hb => hw.at_lt hk hb
    refine (hw.ob k o' h).keep s rfl (fun b hb => old b (hlt b hb)) fun b i hb hn => ?_
    show μ' b i = none
    cases hm : μ' b i with
    | none => rfl
    | some u =>
      rcases hμn b i (by rw [hm]; simp) with h2 | h2
      · exact (h2 hn).elim
      · have := hlt b hb; omega

/-- a block of an object is written -/
theorem set_ok {G : Gh} {hp : Heap} {w w' : World} {k b : Nat} {o o' : Ob} (hw : WR G hp w) (hk : hp[k]? = some o) (hat : (G.β k).at b)
    (hr : o.isRow = false) (hr' : o'.isRow = false) (hh : ∀ x, x ≠ b → w'.heap[x]? = w.heap[x]?) (hs : w'.heap.size = w.heap.size) (hg : o ≠ .gone := by nofun) (hg' : o' ≠ .gone := by nofun) (hio : Io w w' := by first | exact ⟨rfl, rfl, rfl⟩ | assumption) :
    Sn G hp w G (hp.set k o') w' ∧ (OR G (hp.set k o') w' k o' → WR G (hp.set k o') w') := by
  have hlt : k < hp.length := by
    rcases Nat.lt_or_ge k hp.length with h' | h'
    · exact h'
    · simp [List.getElem?_eq_none h'] at hk
  have s : Sn G hp w G (hp.set k o') w' := by
    refine ⟨fun _ _ _ h => h, fun _ _ h => .inl h, fun k' x hk' h => .inr ⟨k', by simpa using hk', h⟩, fun x hx _ hn => ?_, by omega, fun k' o'' h => ?_, hio, rfl⟩
    · exact hh x fun e => hn k hlt (e ▸ hat)
    · by_cases e : k' = k
      · subst e
        rw [hk] at h
        cases h
        refine ⟨o', by simp [hlt], ?_⟩
        cases o <;> cases o' <;> simp_all [KR, Ob.isRow]
      · exact ⟨o'', by rw [List.getElem?_set_ne (Ne.symm e)]; exact h, KR.refl _ _ _⟩
  refine ⟨s, fun hor => ⟨fun x i v h => ?_, fun k' o'' h => ?_, fun k1 k2 x h1 h2 a1 a2 => hw.inj k1 k2 x (by simpa using h1) (by simpa using h2) a1 a2, Nat.le_trans hw.lo s.size⟩⟩
  · have hx : x ≠ b := by
      rintro rfl
      have ho := hw.ob k o hk
      have hn : G.μ x i = none := by
        cases o with
        | cells cs => obtain ⟨b', _, _, _, e, _, _, _, _, hn, _⟩ := ho; cases Bd.at_inj hat e; exact hn i
        | row n rsz => simp [Ob.isRow] at hr
        | amap kvs => obtain ⟨b', _, _, e, _, _, hn⟩ := ho; rw [e] at hat; cases hat; exact hn i
        | siter s p => obtain ⟨b', e, _, hn⟩ := ho; rw [e] at hat; cases hat; exact hn i
        | gone => exact (hg rfl).elim
      rw [hn] at h
      cases h
    obtain ⟨vs, t, fz, hb', hi⟩ := block_of_cell (hw.mu x i v h)
    rw [cell_at (by rw [hh x hx]; exact hb'), hi]
  · by_cases e : k' = k
    · subst e
      simp [hlt] at h
      subst h
      exact hor
    · rw [List.getElem?_set_ne (Ne.symm e)] at h
      have hk' : k' < hp.length := by
        rcases Nat.lt_or_ge k' hp.length with h' | h'
        · exact h'
        · simp [List.getElem?_eq_none h'] at h
      exact (hw.ob k' o'' h).keep s rfl (fun x hx => hh x fun ee => e (hw.inj k' k b hk' hlt (ee ▸ hx) hat)) fun _ _ _ hn => hn

/-- cells stored into a block -/
theorem run_storeCells {P : Program} (b off : Nat) (t : TypeId) (fz : Nat × Nat) : ∀ (xs : List Value) (i : Nat) (vs : Array Value) (w : World), w.heap[b]? = some (.cells vs t fz) → Fz fz vs.size →
    off + i + xs.length ≤ vs.size → (∀ x ∈ xs, x.oneCell' = true) →
    ∃ w' vs', (storeCells ⟨b, off, none⟩ xs i).run P w = .ok () w' ∧ w'.heap[b]? = some (.cells vs' t fz) ∧ vs'.size = vs.size ∧
      (∀ j, (j < off + i ∨ off + i + xs.length ≤ j) → vs'[j]? = vs[j]?) ∧ (∀ j x, xs[j]? = some x → vs'[off + i + j]? = some x) ∧
      (∀ x, x ≠ b → w'.heap[x]? = w.heap[x]?) ∧ w'.heap.size = w.heap.size ∧ Io w w'
  | [], i, vs, w, hb, _, _, _ => ⟨w, vs, rfl, hb, rfl, fun _ _ => rfl, fun j x h => by simp at h, fun _ _ => rfl, rfl, Io.refl w⟩
  | x :: xs, i, vs, w, hb, hf, hl, h1 => by
    simp only [List.length_cons] at hl
    have hx := h1 x List.mem_cons_self
    have hadd : (Addr.add ⟨b, off, none⟩ i) = ⟨b, off + i, none⟩ := by unfold Addr.add; split <;> simp_all
    have hcell : w.cell? ⟨b, off + i, none⟩ = some vs[off + i] := by rw [cell_at hb]; exact Array.getElem?_eq_getElem (by omega)
    have hfr : w.frozen? ⟨b, off + i, none⟩ = false := by
      obtain ⟨lo, hi⟩ := fz
      have := hf.2 (off + i) (by omega)
      simp only [World.frozen?, hb]
      simpa using this
    have hb' : (w.setCell ⟨b, off + i, none⟩ x).heap[b]? = some (.cells (vs.setIfInBounds (off + i) x) t fz) := by
      simp [World.setCell, Array.getElem?_modify, hb]
    obtain ⟨w', vs', r, e1, e2, e3, e4, e5, e6, e7⟩ := run_storeCells (P := P) b off t fz xs (i + 1) (vs.setIfInBounds (off + i) x) _ hb' (by simpa using hf) (by simp; omega) (fun y hy => h1 y (List.mem_cons_of_mem _ hy))
    refine ⟨w', vs', ?_, e1, by simpa using e2, fun j hj => ?_, fun j y hy => ?_, fun y hy => ?_, by rw [e6]; simp, ⟨e7.1, e7.2.1, e7.2.2⟩⟩
    · simp only [storeCells, Sem.run_bind, hadd, run_store P w _ x .plain hx, hcell, hfr]
      simpa using r
    · rw [e3 j (by simp only [List.length_cons] at hj; omega)]
      rw [Array.getElem?_setIfInBounds]
      have : off + i ≠ j := by simp only [List.length_cons] at hj; omega
      simp [this]
    · cases j with
      | zero =>
        simp only [List.getElem?_cons_zero, Option.some.injEq] at hy
        subst hy
        rw [Nat.add_zero, e3 (off + i) (.inl (by omega)), Array.getElem?_setIfInBounds]
        simp; omega
      | succ j =>
        have := e4 j y (by simpa using hy)
        rwa [show off + i + (j + 1) = off + (i + 1) + j by omega]
    · rw [e5 y hy]
      simp [World.setCell, Array.getElem?_modify, Ne.symm hy]

end Go.Ab
