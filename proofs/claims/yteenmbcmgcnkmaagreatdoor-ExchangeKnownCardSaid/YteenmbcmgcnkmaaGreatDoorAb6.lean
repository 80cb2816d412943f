/- Rows of the call's own, appended to: in place, or in a new block. -/
import Derived.Test.YteenmbcmgcnkmaaGreatDoorAb5
set_option linter.unusedVariables false
set_option linter.unusedSimpArgs false
namespace Go.Ab
open Go

theorem lt_of_get {α : Type} {l : List α} {k : Nat} {x : α} (h : l[k]? = some x) : k < l.length := by
  rcases Nat.lt_or_ge k l.length with h' | h'
  · exact h'
  · simp [List.getElem?_eq_none h'] at h

/-- cells laid over what is known -/
def layμ (μ : Nat → Nat → Option Value) (b at_ : Nat) (vs : List Value) : Nat → Nat → Option Value :=
  fun x i => if x = b ∧ at_ ≤ i ∧ i < at_ + vs.length then vs[i - at_]? else μ x i

theorem row_here {G : Gh} {hp : Heap} {w w' : World} {k n n' b o sz rsz cap : Nat} {vs : List Value} {cs : Array Value} {t : TypeId} {fz : Nat × Nat} (hw : WR G hp w) (hk : hp[k]? = some (.row n rsz))
    (hb : G.β k = .tail b o sz cap) (hn : n < n') (hc : n' ≤ cap) (hl : vs.length = (n' - n) * sz)
    (hh : ∀ x, x ≠ b → w'.heap[x]? = w.heap[x]?) (hs : w'.heap.size = w.heap.size) (hb' : w'.heap[b]? = some (.cells cs t fz)) (hf : Fz fz cs.size) (hsz : o + cap * sz ≤ cs.size)
    (hold : ∀ i, (i < o + n * sz ∨ o + n' * sz ≤ i) → w'.cell? ⟨b, i, none⟩ = w.cell? ⟨b, i, none⟩) (hnew : ∀ j x, vs[j]? = some x → w'.cell? ⟨b, o + n * sz + j, none⟩ = some x) (hio : Io w w' := by first | exact ⟨rfl, rfl, rfl⟩ | assumption) :
    Sn G hp w ⟨G.β, layμ G.μ b (o + n * sz) vs, G.lo⟩ (hp.set k (.row n' sz)) w' ∧ WR ⟨G.β, layμ G.μ b (o + n * sz) vs, G.lo⟩ (hp.set k (.row n' sz)) w' := by
  have hlt := lt_of_get hk
  have hat : (G.β k).at b := by rw [hb]; rfl
  have hor := hw.ob k _ hk
  simp only [OR, hb] at hor
  obtain ⟨_, _, h4, h5, h6⟩ := hor
  have hmul : n' * sz = n * sz + (n' - n) * sz := by rw [← Nat.add_mul]; congr 1; omega
  have mono : ∀ x i v, G.μ x i = some v → layμ G.μ b (o + n * sz) vs x i = some v := by
    intro x i v h
    unfold layμ
    split
    · rename_i hc
      obtain ⟨rfl, hc1, _⟩ := hc
      rw [h6 i hc1] at h
      cases h
    · exact h
  have s : Sn G hp w ⟨G.β, layμ G.μ b (o + n * sz) vs, G.lo⟩ (hp.set k (.row n' sz)) w' := by
    refine ⟨mono, fun x i h => ?_, fun k' x hk' h => .inr ⟨k', by simpa using hk', h⟩, fun x hx _ hn => hh x fun e => hn k hlt (e ▸ hat), by omega, fun k' o' h => ?_, hio, rfl⟩
    · simp only [layμ] at h
      split at h
      · rename_i hc; exact .inr (.inr ⟨k, hlt, hc.1 ▸ hat⟩)
      · exact .inl h
    · by_cases e : k' = k
      · subst e
        rw [hk] at h
        cases h
        exact ⟨.row n' sz, by simp [hlt], by simp only [KR]; exact ⟨by omega, fun h => by omega⟩⟩
      · exact ⟨o', by rw [List.getElem?_set_ne (Ne.symm e)]; exact h, by cases o' <;> simp [KR]⟩
  refine ⟨s, fun x i v h => ?_, fun k' o' h => ?_, fun k1 k2 x h1 h2 a1 a2 => hw.inj k1 k2 x (by simpa using h1) (by simpa using h2) a1 a2, Nat.le_trans hw.lo s.size⟩
  · simp only [layμ] at h
    split at h
    · rename_i hc
      obtain ⟨rfl, hc1, hc2⟩ := hc
      have := hnew _ _ h
      rwa [show o + n * sz + (i - (o + n * sz)) = i by omega] at this
    · rename_i hc
      have h0 := hw.mu x i v h
      by_cases e : x = b
      · subst e
        rw [hold i (by
          rcases Nat.lt_or_ge i (o + n * sz) with h1 | h1
          · exact .inl h1
          · rw [h6 i h1] at h; cases h)]
        exact h0
      · obtain ⟨us, t', fz', hb2, hi⟩ := block_of_cell h0
        rw [cell_at (by rw [hh x e]; exact hb2), hi]
  · by_cases e : k' = k
    · subst e
      simp [hlt] at h
      subst h
      simp only [OR, hb]
      refine ⟨trivial, ⟨cs, t, fz, hb', hf, hsz⟩, hc, h5, fun i hi => ?_⟩
      simp only [layμ]
      rw [if_neg (by omega)]
      exact h6 i (by omega)
    · rw [List.getElem?_set_ne (Ne.symm e)] at h
      refine (hw.ob k' o' h).keep s rfl (fun x hx => hh x fun ee => e (hw.inj k' k b (lt_of_get h) hlt (ee ▸ hx) hat)) fun x i hx hn => ?_
      have : x ≠ b := fun ee => e (hw.inj k' k b (lt_of_get h) hlt (ee ▸ hx) hat)
      simp only [layμ]
      rw [if_neg (by simp [this])]
      exact hn

/-- an elder name leads to a new block -/
theorem row_new {G : Gh} {hp : Heap} {w w' : World} {k n n' sz rsz cap : Nat} {cs : Array Value} {t : TypeId} (hw : WR G hp w) (hk : hp[k]? = some (.row n rsz))
    (hn : n < n') (hc : n' ≤ cap) (hsz : 0 < sz) (hh : w'.heap = w.heap.push (.cells cs t (0, 0))) (hcs : cap * sz ≤ cs.size) (hio : Io w w' := by first | exact ⟨rfl, rfl, rfl⟩ | assumption) :
    Sn G hp w ⟨fun j => if j = k then .tail w.heap.size 0 sz cap else G.β j, layμ G.μ w.heap.size 0 (cs.toList.take (n' * sz)), G.lo⟩ (hp.set k (.row n' sz)) w' ∧
    WR ⟨fun j => if j = k then .tail w.heap.size 0 sz cap else G.β j, layμ G.μ w.heap.size 0 (cs.toList.take (n' * sz)), G.lo⟩ (hp.set k (.row n' sz)) w' := by
  have hlt := lt_of_get hk
  have hle : n' * sz ≤ cap * sz := Nat.mul_le_mul_right sz hc
  have hlen : (cs.toList.take (n' * sz)).length = n' * sz := by simp; omega
  have old : ∀ b, b < w.heap.size → w'.heap[b]? = w.heap[b]? := fun b hb => by rw [hh]; simp [Array.getElem?_push, Nat.ne_of_lt hb]
  have new : w'.heap[w.heap.size]? = some (.cells cs t (0, 0)) := by rw [hh]; simp
  have nomu : ∀ i, G.μ w.heap.size i = none := fun i => by
    cases h : G.μ w.heap.size i with
    | none => rfl
    | some v => have := hw.mu_lt h; omega
  have mono : ∀ x i v, G.μ x i = some v → layμ G.μ w.heap.size 0 (cs.toList.take (n' * sz)) x i = some v := by
    intro x i v h
    have := hw.mu_lt h
    unfold layμ
    rw [if_neg (by omega)]
    exact h
  have s : Sn G hp w ⟨fun j => if j = k then .tail w.heap.size 0 sz cap else G.β j, layμ G.μ w.heap.size 0 (cs.toList.take (n' * sz)), G.lo⟩ (hp.set k (.row n' sz)) w' := by
    refine ⟨mono, fun x i h => ?_, fun k' x hk' h => ?_, fun x hx _ hn => old x hx, by rw [hh]; simp, fun k' o' h => ?_, hio, rfl⟩
    · simp only [layμ] at h
      split at h
      · rename_i hc; exact .inr (.inl (by omega))
      · exact .inl h
    · by_cases e : k' = k
      · simp only [e, if_true, Bd.at] at h; exact .inl (by omega)
      · simp only [e, if_false] at h; exact .inr ⟨k', by simpa using hk', h⟩
    · by_cases e : k' = k
      · subst e
        rw [hk] at h
        cases h
        exact ⟨.row n' sz, by simp [hlt], by simp only [KR]; exact ⟨by omega, fun h => by omega⟩⟩
      · exact ⟨o', by rw [List.getElem?_set_ne (Ne.symm e)]; exact h, by cases o' <;> simp [KR, e]⟩
  refine ⟨s, fun x i v h => ?_, fun k' o' h => ?_, fun k1 k2 x h1 h2 a1 a2 => ?_, Nat.le_trans hw.lo s.size⟩
  · simp only [layμ] at h
    split at h
    · rename_i hc
      obtain ⟨rfl, hc1, hc2⟩ := hc
      rw [cell_at new]
      rw [hlen] at hc2
      rw [List.getElem?_take] at h
      simpa [show i < n' * sz by omega] using h
    · have h0 := hw.mu x i v h
      obtain ⟨us, t', fz', hb2, hi⟩ := block_of_cell h0
      rw [cell_at (by rw [old x (lt_of_block hb2)]; exact hb2), hi]
  · by_cases e : k' = k
    · subst e
      simp [hlt] at h
      subst h
      simp only [OR, if_true]
      refine ⟨trivial, ⟨cs, t, (0, 0), new, ⟨Nat.le_refl _, fun i _ => by simp⟩, by omega⟩, hc, hsz, fun i hi => ?_⟩
      simp only [layμ]
      rw [if_neg (by omega)]
      exact nomu i
    · rw [List.getElem?_set_ne (Ne.symm e)] at h
      have hl := lt_of_get h
      refine (hw.ob k' o' h).keep s (by simp [e]) (fun x hx => old x (hw.at_lt hl hx)) fun x i hx hn => ?_
      have := hw.at_lt hl hx
      simp only [layμ]
      rw [if_neg (by omega)]
      exact hn
  · simp only [List.length_set] at h1 h2
    by_cases e1 : k1 = k <;> by_cases e2 : k2 = k <;> simp only [e1, e2, if_true, if_false, Bd.at] at a1 a2
    · omega
    · have := hw.at_lt h2 a2; omega
    · have := hw.at_lt h1 a1; omega
    · exact hw.inj k1 k2 x h1 h2 a1 a2

/-- a list's reading, out of cells that are known -/
theorem DR.mk {μ : Nat → Nat → Option Value} {nl : Bool} {es : List (List D)} {b o sz cap : Nat} (hnl : nl = false) (hcap : es.length ≤ cap) (hsz : ∀ e ∈ es, e.length = sz)
    (hv : ∀ i j e c, es[i]? = some e → e[j]? = some c → ∃ v, μ b (o + i * sz + j) = some v ∧ DR μ c v) : DR μ (.lst nl es) (.slice (some ⟨b, o, none⟩) es.length cap) := by
  refine .lst nl es _ cap sz (fun i j => (μ b (o + i * sz + j)).getD default) hcap (by simp [hnl]) (by simp) (by simp) hsz ?_ ?_
  · intro i j e c he hc
    obtain ⟨v, h1, h2⟩ := hv i j e c he hc
    simpa [h1] using h2
  · intro i j e c he hc
    obtain ⟨v, h1, h2⟩ := hv i j e c he hc
    exact ⟨b, o, rfl, by simp [h1]⟩
theorem DR.inv {μ : Nat → Nat → Option Value} {nl : Bool} {es : List (List D)} {v : Value} (h : DR μ (.lst nl es) v) :
    ∃ (a : Option Addr) (cap sz : Nat) (vs : Nat → Nat → Value), v = .slice a es.length cap ∧ es.length ≤ cap ∧ nl = a.isNone ∧ (a = none → cap = 0) ∧ (es ≠ [] → ∀ ad, a = some ad → ad.spot = none) ∧ (∀ e ∈ es, e.length = sz) ∧
      (∀ i j e c, es[i]? = some e → e[j]? = some c → DR μ c (vs i j)) ∧
      (∀ i j e c, es[i]? = some e → e[j]? = some c → ∃ b o, a = some ⟨b, o, none⟩ ∧ μ b (o + i * sz + j) = some (vs i j)) := by
  cases h with
  | lst nl es a cap sz vs h1 h2 h3 h4 h5 h6 h7 => exact ⟨a, cap, sz, vs, rfl, h1, h2, h3, h4, h5, h6, h7⟩
theorem DR.nil {μ : Nat → Nat → Option Value} : DR μ (.lst true []) (.slice none 0 0) :=
  .lst true [] none 0 0 (fun _ _ => default) (Nat.le_refl _) rfl (fun _ => rfl) (by simp) (by simp) (fun i j e c h => by simp at h) (fun i j e c h => by simp at h)

end Go.Ab
