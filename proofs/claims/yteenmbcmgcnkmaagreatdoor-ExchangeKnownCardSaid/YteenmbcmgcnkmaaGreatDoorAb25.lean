/- Functions of the library that are told by a contract: what they are given are plain values, and what was there stays as it was. -/
import Derived.Test.YteenmbcmgcnkmaaGreatDoorAb24
import Derived.Below
set_option linter.unusedVariables false
set_option linter.unusedSimpArgs false
namespace Go.Ab
open Go Go.RowKit

theorem below_heap {w w' : World} (hb : Below w.heap.size w w') {b : Nat} {o : Obj} (h : w.heap[b]? = some o) : w'.heap[b]? = some o := by
  have : b < w.heap.size := by
    rw [Array.getElem?_eq_some_iff] at h
    exact h.1
  rw [hb.block b this]
  exact h
theorem below_cell {w w' : World} (hb : Below w.heap.size w w') {b i : Nat} {v : Value} (h : w.cell? ⟨b, i, none⟩ = some v) : w'.cell? ⟨b, i, none⟩ = some v := by
  unfold World.cell? at h ⊢
  cases ho : w.heap[b]? with
  | none => simp only [ho] at h; cases h
  | some o =>
    have := below_heap hb ho
    simp only [ho] at h
    simp only [this]
    exact h
theorem below_OR {G : Gh} {hp : Heap} {w w' : World} (hb : Below w.heap.size w w') {k : Nat} {o : Ob} (h : OR G hp w k o) : OR G hp w' k o := by
  cases o with
  | cells cs =>
    obtain ⟨b, vs, t, fz, h1, h2, r⟩ := h
    exact ⟨b, vs, t, fz, h1, below_heap hb h2, r⟩
  | row n rsz =>
    simp only [OR] at h ⊢
    cases hβ : G.β k with
    | none => trivial
    | tail b o sz cap =>
      rw [hβ] at h
      obtain ⟨e, ⟨vs, t, fz, h2, r⟩, r2⟩ := h
      exact ⟨e, ⟨vs, t, fz, below_heap hb h2, r⟩, r2⟩
    | blk b => rw [hβ] at h; exact h
  | amap kvs =>
    obtain ⟨b, es, clock, h1, h2, r⟩ := h
    exact ⟨b, es, clock, h1, below_heap hb h2, r⟩
  | siter s p =>
    obtain ⟨b, h1, h2, r⟩ := h
    exact ⟨b, h1, below_heap hb h2, r⟩
  | gone => exact h
theorem below_WR {G : Gh} {hp : Heap} {w w' : World} (hb : Below w.heap.size w w') (h : WR G hp w) : WR G hp w' :=
  ⟨fun b i v hv => below_cell hb (h.mu b i v hv), fun k o ho => below_OR hb (h.ob k o ho), h.inj, Nat.le_trans h.lo hb.size⟩
theorem below_Sn {G : Gh} {hp : Heap} {w w' : World} (hb : Below w.heap.size w w') : Sn G hp w G hp w' :=
  ⟨fun _ _ _ h => h, fun _ _ h => .inl h, fun k _ hk h => .inr ⟨k, hk, h⟩, fun b hlt _ _ => hb.block b hlt, hb.size, fun k o h => ⟨o, h, KR.refl G k o⟩, ⟨hb.os, hb.output, hb.tape⟩, rfl⟩

/-- the plain values of arguments -/
def scs : List V1 → Option (List Value)
  | [] => some []
  | .c (.d (.sc v)) :: r => (scs r).map (v :: ·)
  | _ => none
theorem scs_rel {G : Gh} {hp : Heap} : ∀ {args : List V1} {vs : List Value} {us : List Value}, scs args = some us → All2 (VR G hp) args vs → vs = us := by
  intro args
  induction args with
  | nil => intro vs us h r; cases r; simp [scs] at h; exact h.symm ▸ rfl
  | cons a args ih =>
    intro vs us h r
    cases r with
    | cons ha ht =>
      rename_i b m
      cases a with
      | agg cs => simp [scs] at h
      | c x =>
        cases x with
        | d y =>
          cases y with
          | sc v =>
            simp only [scs, Option.map_eq_some_iff] at h
            obtain ⟨us', h1, rfl⟩ := h
            rw [ih h1 ht]
            have : b = v := by
              have ha' : DR G.μ (.sc v) b := ha
              cases ha'
              rfl
            rw [this]
          | lst nl es => simp [scs] at h
        | _ => simp [scs] at h

/-- a contract over plain values, its answer a plain value -/
theorem prim_ok {E : Env} {f : FuncId} {p : List V1 → Heap → Option (AV × Heap)}
    (h : ∀ args hp v h', p args hp = some (v, h') → h' = hp ∧ ∃ us x, scs args = some us ∧ (∀ G, AR G hp v x) ∧
      ∀ w, (∀ b i y, E.base b i = some y → w.cell? ⟨b, i, none⟩ = some y) → Calls E.P f us.toArray w fun e w' => e = .returned x ∧ Below w.heap.size w w') : CallP E f p := by
  intro args hp v h' hp' G w vs hb hw ha
  obtain ⟨rfl, us, x, h1, hx, hc⟩ := h _ _ _ _ hp'
  rw [scs_rel h1 ha]
  refine (hc w fun b i y hy => hw.mu b i y (hb b i y hy)).mono ?_
  rintro e w' ⟨rfl, hbl⟩
  exact ⟨x, G, rfl, hx G, below_WR hbl hw, below_Sn hbl⟩
end Go.Ab
