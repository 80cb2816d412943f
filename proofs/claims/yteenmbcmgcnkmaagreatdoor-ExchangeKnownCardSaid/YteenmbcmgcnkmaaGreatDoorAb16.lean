/- Names changed: a callee sees the objects that it can reach, under names of its own. -/
import Derived.Test.YteenmbcmgcnkmaaGreatDoorAb15
set_option linter.unusedVariables false
set_option linter.unusedSimpArgs false
namespace Go.Ab
open Go

/-- names i of the one heap are names k of the other one -/
structure Ren (τ : Nat → Option Nat) (G1 : Gh) (hp1 : Heap) (G2 : Gh) (hp2 : Heap) : Prop where
  mu : G2.μ = G1.μ
  ob : ∀ i k o, τ i = some k → hp1[i]? = some o → G2.β k = G1.β i ∧ ∃ o', hp2[k]? = some o' ∧ o.ren τ = some o'

theorem renCs_eq {τ : Nat → Option Nat} {cs : List C} : renCs τ cs = cs.mapM (C.ren τ) := by
  unfold renCs
  split
  · rename_i h
    induction cs with
    | nil => rfl
    | cons c cs ih =>
      simp only [plainCs, List.all_cons, Bool.and_eq_true] at h
      have hc : c.ren τ = some c := by cases c <;> simp [C.isD] at h; rfl
      simp [hc, ← ih h.2]
  · rfl
theorem ren_isRow {τ : Nat → Option Nat} {o o' : Ob} (h : o.ren τ = some o') : o'.isRow = o.isRow := by
  cases o <;> simp only [Ob.ren, Option.map_eq_some_iff, Option.some.injEq] at h
  · obtain ⟨_, _, rfl⟩ := h; rfl
  · subst h; rfl
  · obtain ⟨_, _, rfl⟩ := h; rfl
  · subst h; rfl
  · subst h; rfl
theorem ren_gone {τ : Nat → Option Nat} {o o' : Ob} (h : o.ren τ = some o') (hg : o = .gone) : o' = .gone := by
  subst hg
  simpa [Ob.ren] using h.symm
theorem KR_ren {τ τ' : Nat → Option Nat} {G0 G1 G0' G1' : Gh} {i k : Nat} {o o2 o3 o4 : Ob} (q3 : o.ren τ = some o2) (q5 : KR G0 G1 i o2 o3) (q7 : o3.ren τ' = some o4) (h0 : G0.β i = G0'.β k) (h1 : G1.β i = G1'.β k) :
    KR G0' G1' k o o4 := by
  cases o <;> simp only [Ob.ren, Option.map_eq_some_iff, Option.some.injEq] at q3 <;> (first | (obtain ⟨_, _, rfl⟩ := q3) | subst q3) <;>
    cases o3 <;> simp only [Ob.ren, Option.map_eq_some_iff, Option.some.injEq] at q7 <;> (first | (obtain ⟨_, _, rfl⟩ := q7) | subst q7) <;> simp_all [KR]
theorem KR_ren2 {τ' : Nat → Option Nat} {G0 G1 G1' : Gh} {i : Nat} {o o3 o4 : Ob} (q5 : KR G0 G1 i o o3) (q7 : o3.ren τ' = some o4) (h1 : G1.β i = G1'.β i) : KR G0 G1' i o o4 := by
  cases o <;> cases o3 <;> simp only [Ob.ren, Option.map_eq_some_iff, Option.some.injEq] at q7 <;> (first | (obtain ⟨_, _, rfl⟩ := q7) | subst q7) <;> simp_all [KR]

section
variable {τ : Nat → Option Nat} {G1 G2 : Gh} {hp1 hp2 : Heap}

theorem Isb.ren (r : Ren τ G1 hp1 G2 hp2) {i k b : Nat} (ht : τ i = some k) (h : Isb G1 hp1 i b) : Isb G2 hp2 k b := by
  obtain ⟨o, ho, hr, hb⟩ := h
  obtain ⟨e, o', ho', hren⟩ := r.ob i k o ht ho
  exact ⟨o', ho', by rw [ren_isRow hren, hr], hb.elim (fun h => .inl (ren_gone hren h)) fun h => .inr (by rw [e]; exact h)⟩

theorem CR.ren (r : Ren τ G1 hp1 G2 hp2) {x x' : C} {v : Value} (hx : x.ren τ = some x') (h : CR G1 hp1 x v) : CR G2 hp2 x' v := by
  cases x with
  | d x => simp only [C.ren, Option.some.injEq] at hx; subst hx; simp only [CR, r.mu] at h ⊢; exact h
  | own nl es k =>
    simp only [C.ren, Option.map_eq_some_iff] at hx
    obtain ⟨k', hk, rfl⟩ := hx
    obtain ⟨hd, n, sz, hn, hle, hc⟩ := h
    obtain ⟨e, o', ho', hren⟩ := r.ob k k' _ hk hn
    simp only [Ob.ren, Option.some.injEq] at hren
    subst hren
    exact ⟨by rw [r.mu]; exact hd, n, sz, ho', hle, fun hh => by rw [e]; exact hc hh⟩
  | slc k off sz len cap =>
    simp only [C.ren, Option.map_eq_some_iff] at hx
    obtain ⟨k', hk, rfl⟩ := hx
    obtain ⟨b, c, o, hi, r1, r2, r3, r4, r5⟩ := h
    obtain ⟨ob, hob, _⟩ := id hi
    obtain ⟨e, o', ho', hren⟩ := r.ob k k' ob hk hob
    refine ⟨b, c, o, hi.ren r hk, r1, r2, r3, r4, fun hn hc => ?_⟩
    rcases r5 hn hc with h | h
    · rw [hob] at h
      cases h
      exact .inl (by rw [ho', ren_gone hren rfl])
    · exact .inr (by rw [e]; exact h)
  | ptr k off =>
    simp only [C.ren, Option.map_eq_some_iff] at hx
    obtain ⟨k', hk, rfl⟩ := hx
    obtain ⟨b, hi, h⟩ := h
    exact ⟨b, hi.ren r hk, h⟩
  | any => simp only [C.ren, Option.some.injEq] at hx; subst hx; exact h
  | nw es => simp [C.ren] at hx
  | cptr cs off =>
    simp only [C.ren, Option.some.injEq] at hx
    subst hx
    obtain ⟨b, o, hv, vs, h⟩ := h
    exact ⟨b, o, hv, vs, by rw [r.mu]; exact h⟩
  | mp k =>
    simp only [C.ren, Option.map_eq_some_iff] at hx
    obtain ⟨k', hk, rfl⟩ := hx
    obtain ⟨b, hi, h⟩ := h
    exact ⟨b, hi.ren r hk, h⟩
  | it k =>
    simp only [C.ren, Option.map_eq_some_iff] at hx
    obtain ⟨k', hk, rfl⟩ := hx
    obtain ⟨b, hi, h⟩ := h
    exact ⟨b, hi.ren r hk, h⟩
  | fn f caps =>
    simp only [C.ren, Option.map_eq_some_iff] at hx
    obtain ⟨caps', hc, rfl⟩ := hx
    obtain ⟨vs, hv, h⟩ := h
    refine ⟨vs, hv, ?_⟩
    have h2 := (mapM_all2 hc).flip
    clear hv hc
    induction h2 generalizing vs with
    | nil => cases h; exact .nil
    | cons hq _ ih =>
      cases h with
      | cons a t =>
        refine .cons ?_ (ih _ t)
        simp only [Option.map_eq_some_iff] at hq
        obtain ⟨k', hk, rfl⟩ := hq
        obtain ⟨b, hi, e⟩ := a
        exact ⟨b, hi.ren r hk, e⟩

theorem cells_ren (r : Ren τ G1 hp1 G2 hp2) {cs cs' : List C} {vs : List Value} (hx : cs.mapM (C.ren τ) = some cs') (h : All2 (CR G1 hp1) cs vs) : All2 (CR G2 hp2) cs' vs := by
  have h2 := mapM_all2 hx
  clear hx
  induction h2 generalizing vs with
  | nil => cases h; exact .nil
  | cons hq _ ih => cases h with
    | cons a t => exact .cons (CR.ren r hq a) (ih t)

theorem VR.ren (r : Ren τ G1 hp1 G2 hp2) {x x' : V1} {v : Value} (hx : x.ren τ = some x') (h : VR G1 hp1 x v) : VR G2 hp2 x' v := by
  cases x with
  | c x => simp only [V1.ren, Option.map_eq_some_iff] at hx; obtain ⟨y, hy, rfl⟩ := hx; exact CR.ren r hy h
  | agg cs =>
    simp only [V1.ren, Option.map_eq_some_iff] at hx
    obtain ⟨cs', hc, rfl⟩ := hx
    obtain ⟨vs, hv, h⟩ := h
    exact ⟨vs, hv, cells_ren r hc h⟩

theorem V1s_ren (r : Ren τ G1 hp1 G2 hp2) {xs xs' : List V1} {vs : List Value} (hx : xs.mapM (V1.ren τ) = some xs') (h : All2 (VR G1 hp1) xs vs) : All2 (VR G2 hp2) xs' vs := by
  have h2 := mapM_all2 hx
  clear hx
  induction h2 generalizing vs with
  | nil => cases h; exact .nil
  | cons hq _ ih => cases h with
    | cons a t => exact .cons (VR.ren r hq a) (ih t)

theorem AR.ren (r : Ren τ G1 hp1 G2 hp2) {x x' : AV} {v : Value} (hx : x.ren τ = some x') (h : AR G1 hp1 x v) : AR G2 hp2 x' v := by
  cases x with
  | v x => simp only [AV.ren, Option.map_eq_some_iff] at hx; obtain ⟨y, hy, rfl⟩ := hx; exact VR.ren r hy h
  | tup xs =>
    simp only [AV.ren, Option.map_eq_some_iff] at hx
    obtain ⟨xs', hc, rfl⟩ := hx
    obtain ⟨vs, hv, h⟩ := h
    exact ⟨vs, hv, V1s_ren r hc h⟩
  | dead => simp only [AV.ren, Option.some.injEq] at hx; subst hx; trivial

theorem OR.ren (r : Ren τ G1 hp1 G2 hp2) {w : World} {i k : Nat} {o o' : Ob} (hb : G2.β k = G1.β i) (ho : o.ren τ = some o') (h : OR G1 hp1 w i o) : OR G2 hp2 w k o' := by
  cases o with
  | cells cs =>
    simp only [Ob.ren, Option.map_eq_some_iff] at ho
    obtain ⟨cs', hc, rfl⟩ := ho
    rw [renCs_eq] at hc
    obtain ⟨b, vs, t, fz, h1, h2, h3, h4, h5, h6, h7⟩ := h
    have hl := mapM_len hc
    refine ⟨b, vs, t, fz, by rw [hb]; exact h1, h2, h3, by omega, fun j c v hcj hv => ?_, by rw [r.mu]; exact h6, by rw [hb]; exact h7⟩
    obtain ⟨c0, hc0, hren⟩ := (mapM_all2 hc).flip.get hcj
    exact CR.ren r hren (h5 j c0 v hc0 hv)
  | row n sz =>
    simp only [Ob.ren, Option.some.injEq] at ho
    subst ho
    simp only [OR] at h ⊢
    rw [hb, r.mu]
    exact h
  | amap kvs =>
    simp only [Ob.ren, Option.map_eq_some_iff] at ho
    obtain ⟨kvs', hc, rfl⟩ := ho
    obtain ⟨b, es, clock, h1, h2, h3, h4⟩ := h
    refine ⟨b, es, clock, by rw [hb, h1], h2, ?_, by rw [r.mu]; exact h4⟩
    have hq := mapM_all2 hc
    clear hc h2
    generalize es.toList = l at h3
    induction hq generalizing l with
    | nil => cases h3; exact .nil
    | cons hq _ ih =>
      cases h3 with
      | cons a t =>
        simp only [Option.map_eq_some_iff] at hq
        obtain ⟨x, hx, rfl⟩ := hq
        exact .cons ⟨a.1, VR.ren r hx a.2⟩ (ih _ t)
  | siter s p =>
    simp only [Ob.ren, Option.some.injEq] at ho
    subst ho
    obtain ⟨b, h1, h2, h3⟩ := h
    exact ⟨b, by rw [hb, h1], h2, by rw [r.mu]; exact h3⟩
  | gone =>
    simp only [Ob.ren, Option.some.injEq] at ho
    subst ho
    exact hb.trans h
end

/-! ### a heap of some names -/
def subG (G : Gh) (σ : List Nat) (lo : Nat) : Gh := ⟨fun i => match σ[i]? with | some k => G.β k | none => .none, G.μ, lo⟩

theorem idxOf?_get {σ : List Nat} {k i : Nat} (h : σ.idxOf? k = some i) : σ[i]? = some k := by
  induction σ generalizing i with
  | nil => simp at h
  | cons a σ ih =>
    rw [List.idxOf?_cons] at h
    split at h
    · rename_i e
      cases h
      simpa using e
    · simp only [Option.map_eq_some_iff] at h
      obtain ⟨j, hj, rfl⟩ := h
      simpa using ih hj

theorem idxOf?_of_mem {σ : List Nat} {k : Nat} (h : k ∈ σ) : ∃ i, σ.idxOf? k = some i := by
  induction σ with
  | nil => simp at h
  | cons a σ ih =>
    rw [List.idxOf?_cons]
    by_cases e : a = k
    · exact ⟨0, by simp [e]⟩
    · rcases List.mem_cons.1 h with h | h
      · exact (e h.symm).elim
      · obtain ⟨i, hi⟩ := ih h
        exact ⟨i + 1, by simp [e, hi]⟩

theorem nodup_get {σ : List Nat} (hn : σ.Nodup) {i j k : Nat} (hi : σ[i]? = some k) (hj : σ[j]? = some k) : i = j := by
  have h1 := lt_of_get hi
  have h2 := lt_of_get hj
  rw [List.getElem?_eq_getElem h1, Option.some.injEq] at hi
  rw [List.getElem?_eq_getElem h2, Option.some.injEq] at hj
  have hp := List.pairwise_iff_getElem.1 hn
  rcases Nat.lt_trichotomy i j with h | h | h
  · exact (hp i j h1 h2 h (hi.trans hj.symm)).elim
  · exact h
  · exact (hp j i h2 h1 h (hj.trans hi.symm)).elim

theorem idxOf?_nodup {σ : List Nat} (hn : σ.Nodup) {i k : Nat} (h : σ[i]? = some k) : σ.idxOf? k = some i := by
  obtain ⟨j, hj⟩ := idxOf?_of_mem (List.mem_of_getElem? h)
  rw [hj, nodup_get hn (idxOf?_get hj) h]

theorem close_nodup (hp : Heap) : ∀ n seen todo, seen.Nodup → (close hp n seen todo).Nodup := by
  intro n
  induction n with
  | zero => intro seen todo h; exact h
  | succ n ih =>
    intro seen todo h
    cases todo with
    | nil => exact h
    | cons k ks =>
      simp only [close]
      split
      · exact ih _ _ h
      · rename_i hk
        refine ih _ _ ?_
        rw [List.nodup_append]
        exact ⟨h, by simp, fun a ha b hb => by simp at hb; subst hb; rintro rfl; exact hk ha⟩

theorem closeM_nodup (m : Nat) (hp : Heap) (l : List Nat) : (closeM m hp l).Nodup := close_nodup hp _ _ _ List.nodup_range
theorem restrict_get {σ : List Nat} {hp h : Heap} (hr : restrict σ hp = some h) {i k : Nat} (hi : σ[i]? = some k) : ∃ o o', hp[k]? = some o ∧ h[i]? = some o' ∧ o.ren (fun j => σ.idxOf? j) = some o' := by
  obtain ⟨o', ho', hb⟩ := (mapM_all2 hr).get hi
  simp only [Option.bind_eq_some_iff] at hb
  obtain ⟨o, ho, hren⟩ := hb
  exact ⟨o, o', ho, ho', hren⟩
theorem restrict_len {σ : List Nat} {hp h : Heap} (hr : restrict σ hp = some h) : h.length = σ.length := mapM_len hr

theorem sub_ren {G : Gh} {σ : List Nat} {lo : Nat} {hp h : Heap} (hr : restrict σ hp = some h) : Ren (fun j => σ.idxOf? j) G hp (subG G σ lo) h := by
  refine ⟨rfl, fun i k o ht ho => ?_⟩
  have hk := idxOf?_get ht
  obtain ⟨o1, o', h1, h2, h3⟩ := restrict_get hr hk
  rw [ho] at h1
  cases h1
  refine ⟨?_, o', h2, h3⟩
  simp [subG, hk]

theorem sub_WR {G : Gh} {σ : List Nat} {lo : Nat} {hp h : Heap} {w : World} (hlo : lo ≤ w.heap.size) (hn : σ.Nodup) (hr : restrict σ hp = some h) (hw : WR G hp w) : WR (subG G σ lo) h w := by
  refine ⟨hw.mu, fun i o' ho' => ?_, fun i j b hi hj h1 h2 => ?_, hlo⟩
  · have hi := lt_of_get ho'
    rw [restrict_len hr] at hi
    have hk : σ[i]? = some σ[i] := List.getElem?_eq_getElem hi
    obtain ⟨o, o2, h1, h2, h3⟩ := restrict_get hr hk
    rw [ho'] at h2
    cases h2
    exact (hw.ob _ _ h1).ren (sub_ren hr) (by simp [subG, hk]) h3
  · rw [restrict_len hr] at hi hj
    have ei : σ[i]? = some σ[i] := List.getElem?_eq_getElem hi
    have ej : σ[j]? = some σ[j] := List.getElem?_eq_getElem hj
    simp only [subG, ei, ej] at h1 h2
    obtain ⟨o1, _, q1, _⟩ := restrict_get hr ei
    obtain ⟨o2, _, q2, _⟩ := restrict_get hr ej
    have := hw.inj _ _ b (lt_of_get q1) (lt_of_get q2) h1 h2
    rw [this] at ei
    exact nodup_get hn ei ej

/-! ### a callee's heap laid back -/
def backG (G G' : Gh) (σ : List Nat) (n : Nat) : Gh :=
  ⟨fun k => if k < n then (match σ.idxOf? k with | some i => G'.β i | none => G.β k) else G'.β (σ.length + (k - n)), G'.μ, G.lo⟩
def backτ (σ : List Nat) (n : Nat) : Nat → Option Nat := fun i => some (if i < σ.length then σ.getD i 0 else n + (i - σ.length))
def backH (σ : List Nat) (hp h2 : Heap) : Heap := (σ.zip h2).foldl (fun acc p => acc.set p.1 p.2) hp ++ h2.drop σ.length

theorem foldl_set_len : ∀ (l : List (Nat × Ob)) (hp : Heap), (l.foldl (fun acc p => acc.set p.1 p.2) hp : Heap).length = hp.length := by
  intro l
  induction l with
  | nil => intro hp; rfl
  | cons p l ih => intro hp; simp only [List.foldl_cons]; rw [ih]; simp
theorem foldl_set_ne : ∀ (l : List (Nat × Ob)) (hp : Heap) (k : Nat), (∀ p ∈ l, p.1 ≠ k) → (l.foldl (fun acc p => acc.set p.1 p.2) hp : Heap)[k]? = hp[k]? := by
  intro l
  induction l with
  | nil => intro hp k _; rfl
  | cons p l ih =>
    intro hp k h
    simp only [List.foldl_cons]
    rw [ih _ _ fun q hq => h q (List.mem_cons_of_mem _ hq), List.getElem?_set_ne (h p List.mem_cons_self)]
theorem foldl_set_eq : ∀ (σ : List Nat) (h2 hp : Heap) (i k : Nat) (o : Ob), σ.Nodup → σ[i]? = some k → h2[i]? = some o → k < hp.length →
    ((σ.zip h2).foldl (fun acc p => acc.set p.1 p.2) hp : Heap)[k]? = some o := by
  intro σ
  induction σ with
  | nil => intro h2 hp i k o _ h; simp at h
  | cons a σ ih =>
    intro h2 hp i k o hn hi ho hk
    cases h2 with
    | nil => simp at ho
    | cons b h2 =>
      simp only [List.zip_cons_cons, List.foldl_cons]
      have hn' := List.nodup_cons.1 hn
      cases i with
      | zero =>
        simp only [List.getElem?_cons_zero, Option.some.injEq] at hi ho
        subst hi ho
        rw [foldl_set_ne]
        · exact List.getElem?_set_self hk
        · intro p hp' e
          have := (List.of_mem_zip hp').1
          rw [e] at this
          exact hn'.1 this
      | succ i =>
        exact ih h2 _ i k o hn'.2 (by simpa using hi) (by simpa using ho) (by simpa using hk)

theorem call_back {G G' : Gh} {σ : List Nat} {hp h h' h2 : Heap} {w w' : World} (hn : σ.Nodup) (hw : WR G hp w) (hr : restrict σ hp = some h) (sn : Sn (subG G σ w.heap.size) h w G' h' w') (hw' : WR G' h' w')
    (hb : h'.mapM (Ob.ren (backτ σ hp.length)) = some h2) :
    Ren (backτ σ hp.length) G' h' (backG G G' σ hp.length) (backH σ hp h2) ∧ WR (backG G G' σ hp.length) (backH σ hp h2) w' ∧ Sn G hp w (backG G G' σ hp.length) (backH σ hp h2) w' := by
  have hσ := restrict_len hr
  have hle : σ.length ≤ h'.length := by
    rcases Nat.lt_or_ge h'.length σ.length with hlt | hge
    · obtain ⟨o, o', _, q2, _⟩ := restrict_get hr (i := h'.length) (k := σ[h'.length]) (List.getElem?_eq_getElem hlt)
      obtain ⟨o2, e2, _⟩ := sn.kind _ _ q2
      simp at e2
    · exact hge
  have h2l := mapM_len hb
  have hin : ∀ i k, σ[i]? = some k → k < hp.length := fun i k h => by
    obtain ⟨o, _, q, _⟩ := restrict_get hr h
    exact lt_of_get q
  have blen : (backH σ hp h2).length = hp.length + (h2.length - σ.length) := by
    simp only [backH, List.length_append, foldl_set_len, List.length_drop]
  -- what lies under each name
  have atIn : ∀ i k o, σ[i]? = some k → h2[i]? = some o → (backH σ hp h2)[k]? = some o := fun i k o hi ho => by
    have hk := hin i k hi
    rw [backH, List.getElem?_append_left (by rw [foldl_set_len]; exact hk)]
    exact foldl_set_eq σ h2 hp i k o hn hi ho hk
  have atOut : ∀ k, k < hp.length → k ∉ σ → (backH σ hp h2)[k]? = hp[k]? := fun k hk hns => by
    rw [backH, List.getElem?_append_left (by rw [foldl_set_len]; exact hk), foldl_set_ne]
    intro p hp' e
    exact hns (e ▸ (List.of_mem_zip hp').1)
  have atNew : ∀ i o, σ.length ≤ i → h2[i]? = some o → (backH σ hp h2)[hp.length + (i - σ.length)]? = some o := fun i o hi ho => by
    rw [backH, List.getElem?_append_right (by rw [foldl_set_len]; omega), foldl_set_len, List.getElem?_drop]
    rw [← ho]
    congr 1
    omega
  have bIn : ∀ i k, σ[i]? = some k → (backG G G' σ hp.length).β k = G'.β i := fun i k hi => by
    simp [backG, hin i k hi, idxOf?_nodup hn hi]
  have bOut : ∀ k, k < hp.length → k ∉ σ → (backG G G' σ hp.length).β k = G.β k := fun k hk hns => by
    simp only [backG, hk, if_true]
    cases e : σ.idxOf? k with
    | none => rfl
    | some i => exact (hns (List.mem_of_getElem? (idxOf?_get e))).elim
  have bNew : ∀ i, σ.length ≤ i → (backG G G' σ hp.length).β (hp.length + (i - σ.length)) = G'.β i := fun i hi => by
    simp only [backG]
    rw [if_neg (by omega)]
    congr 1
    omega
  have ren : Ren (backτ σ hp.length) G' h' (backG G G' σ hp.length) (backH σ hp h2) := by
    refine ⟨rfl, fun i k o ht ho => ?_⟩
    obtain ⟨o', ho', hren⟩ := (mapM_all2 hb).get ho
    simp only [backτ, Option.some.injEq] at ht
    subst ht
    by_cases hi : i < σ.length
    · have hs : σ[i]? = some (σ.getD i 0) := by simp [List.getD, List.getElem?_eq_getElem hi]
      rw [if_pos hi]
      exact ⟨bIn i _ hs, o', atIn i _ _ hs ho', hren⟩
    · rw [if_neg hi]
      exact ⟨bNew i (by omega), o', atNew i _ (by omega) ho', hren⟩
  -- each name is one of three kinds
  have kinds : ∀ k, k < (backH σ hp h2).length → (∃ i, σ[i]? = some k ∧ i < h'.length) ∨ (k < hp.length ∧ k ∉ σ) ∨ (∃ i, σ.length ≤ i ∧ i < h'.length ∧ k = hp.length + (i - σ.length)) := fun k hk => by
    rw [blen] at hk
    by_cases h1 : k < hp.length
    · by_cases h2 : k ∈ σ
      · obtain ⟨i, hi⟩ := idxOf?_of_mem h2
        have := idxOf?_get hi
        exact .inl ⟨i, this, by have := lt_of_get this; omega⟩
      · exact .inr (.inl ⟨h1, h2⟩)
    · exact .inr (.inr ⟨σ.length + (k - hp.length), by omega, by omega, by omega⟩)
  have subAt : ∀ i b, i < h.length → ((subG G σ w.heap.size).β i).at b → ∃ k, k ∈ σ ∧ k < hp.length ∧ (G.β k).at b := fun i b hi hat => by
    rw [hσ] at hi
    have hs : σ[i]? = some σ[i] := List.getElem?_eq_getElem hi
    simp only [subG, hs] at hat
    exact ⟨_, List.getElem_mem hi, hin i _ hs, hat⟩
  have snn : Sn G hp w (backG G G' σ hp.length) (backH σ hp h2) w' := by
    refine ⟨sn.mu, fun b i hm => ?_, fun k b hk hat => ?_, fun b hb' _ hno => ?_, sn.size, fun k o ho => ?_, sn.io, rfl⟩
    · rcases sn.muNew b i hm with q | q | ⟨j, hj, q⟩
      · exact .inl q
      · exact .inr (.inl q)
      · obtain ⟨k, _, hk, hat⟩ := subAt j b hj q
        exact .inr (.inr ⟨k, hk, hat⟩)
    · have fromCallee : ∀ i, i < h'.length → (G'.β i).at b → w.heap.size ≤ b ∨ ∃ k', k' < hp.length ∧ (G.β k').at b := fun i hi q => by
        rcases sn.bdNew i b hi q with q | ⟨j, hj, q⟩
        · exact .inl q
        · obtain ⟨k, _, hk, hat⟩ := subAt j b hj q
          exact .inr ⟨k, hk, hat⟩
      rcases kinds k hk with ⟨i, hi, hil⟩ | ⟨h1, h2⟩ | ⟨i, hi, hil, rfl⟩
      · rw [bIn i k hi] at hat; exact fromCallee i hil hat
      · rw [bOut k h1 h2] at hat; exact .inr ⟨k, h1, hat⟩
      · rw [bNew i hi] at hat; exact fromCallee i hil hat
    · refine sn.same b hb' (.inl hb') fun i hi hat => ?_
      obtain ⟨k, _, hk, hat⟩ := subAt i b hi hat
      exact hno k hk hat
    · have hk := lt_of_get ho
      by_cases hs : k ∈ σ
      · obtain ⟨i, hi⟩ := idxOf?_of_mem hs
        have hi := idxOf?_get hi
        obtain ⟨o1, o2, q1, q2, q3⟩ := restrict_get hr hi
        rw [ho] at q1
        cases q1
        obtain ⟨o3, q4, q5⟩ := sn.kind i o2 q2
        obtain ⟨o4, q6, q7⟩ := (mapM_all2 hb).get q4
        refine ⟨o4, atIn i k o4 hi q6, ?_⟩
        have hβ : (subG G σ w.heap.size).β i = G.β k := by simp [subG, hi]
        have hβ' := bIn i k hi
        exact KR_ren q3 q5 q7 hβ hβ'.symm
      · refine ⟨o, by rw [atOut k hk hs]; exact ho, ?_⟩
        have := bOut k hk hs
        cases o <;> simp [KR, this]
  refine ⟨ren, ⟨hw'.mu, fun k o ho => ?_, fun k k' b hk hk' h1 h2' => ?_, Nat.le_trans hw.lo sn.size⟩, snn⟩
  · rcases kinds k (lt_of_get ho) with ⟨i, hi, hil⟩ | ⟨h1, h2'⟩ | ⟨i, hi, hil, rfl⟩
    · have e1 : h'[i]? = some h'[i] := List.getElem?_eq_getElem hil
      obtain ⟨o', q1, q2⟩ := (mapM_all2 hb).get e1
      rw [atIn i k o' hi q1] at ho
      cases ho
      exact (hw'.ob i _ e1).ren ren (bIn i k hi) q2
    · rw [atOut k h1 h2'] at ho
      refine (hw.ob k o ho).keep snn (bOut k h1 h2') (fun b hat => ?_) fun b i hat hm => ?_
      · refine sn.same b (hw.at_lt h1 hat) (.inl (hw.at_lt h1 hat)) fun j hj hat' => ?_
        obtain ⟨k2, hk2, hk2l, hat2⟩ := subAt j b hj hat'
        exact h2' (hw.inj k k2 b h1 hk2l hat hat2 ▸ hk2)
      · show G'.μ b i = none
        cases e : G'.μ b i with
        | none => rfl
        | some v =>
          rcases sn.muNew b i (by rw [e]; simp) with q | q | ⟨j, hj, q⟩
          · exact (q hm).elim
          · have := hw.at_lt h1 hat; omega
          · obtain ⟨k2, hk2, hk2l, hat2⟩ := subAt j b hj q
            exact (h2' (hw.inj k k2 b h1 hk2l hat hat2 ▸ hk2)).elim
    · have e1 : h'[i]? = some h'[i] := List.getElem?_eq_getElem hil
      obtain ⟨o', q1, q2⟩ := (mapM_all2 hb).get e1
      rw [atNew i o' hi q1] at ho
      cases ho
      exact (hw'.ob i _ e1).ren ren (bNew i hi) q2
  · have clash : ∀ i k, i < h'.length → (G'.β i).at b → k < hp.length → k ∉ σ → (G.β k).at b → False := fun i k hil q hk hns hat => by
      rcases sn.bdNew i b hil q with q | ⟨j, hj, q⟩
      · have := hw.at_lt hk hat; omega
      · obtain ⟨k2, hk2, hk2l, hat2⟩ := subAt j b hj q
        exact hns (hw.inj k k2 b hk hk2l hat hat2 ▸ hk2)
    rcases kinds k hk with ⟨i, hi, hil⟩ | ⟨q1, q2⟩ | ⟨i, hi, hil, rfl⟩ <;> rcases kinds k' hk' with ⟨i', hi', hil'⟩ | ⟨q1', q2'⟩ | ⟨i', hi', hil', rfl⟩
    · rw [bIn i k hi] at h1
      rw [bIn i' k' hi'] at h2'
      have := hw'.inj i i' b hil hil' h1 h2'
      subst this
      rw [hi] at hi'
      cases hi'
      rfl
    · rw [bIn i k hi] at h1; rw [bOut k' q1' q2'] at h2'; exact (clash i k' hil h1 q1' q2' h2').elim
    · rw [bIn i k hi] at h1
      rw [bNew i' hi'] at h2'
      have := hw'.inj i i' b hil hil' h1 h2'
      have := lt_of_get hi
      omega
    · rw [bOut k q1 q2] at h1; rw [bIn i' k' hi'] at h2'; exact (clash i' k hil' h2' q1 q2 h1).elim
    · rw [bOut k q1 q2] at h1; rw [bOut k' q1' q2'] at h2'; exact hw.inj k k' b q1 q1' h1 h2'
    · rw [bOut k q1 q2] at h1; rw [bNew i' hi'] at h2'; exact (clash i' k hil' h2' q1 q2 h1).elim
    · rw [bNew i hi] at h1
      rw [bIn i' k' hi'] at h2'
      have := hw'.inj i i' b hil hil' h1 h2'
      have := lt_of_get hi'
      omega
    · rw [bNew i hi] at h1; rw [bOut k' q1' q2'] at h2'; exact (clash i k' hil h1 q1' q2' h2').elim
    · rw [bNew i hi] at h1
      rw [bNew i' hi'] at h2'
      have := hw'.inj i i' b hil hil' h1 h2'
      omega

end Go.Ab
