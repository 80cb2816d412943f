/- The relation between the abstract evaluator's values and objects, and the machine's world. -/
import Derived.Test.YteenmbcmgcnkmaaGreatDoorAb3
import Derived.Laws.Sem
import Derived.Laws.World
set_option linter.unusedVariables false
set_option linter.unusedSimpArgs false
namespace Go.Ab
open Go

/-- where an object lies: a whole block; a row's place, element size and capacity; nowhere -/
inductive Bd where
  | blk (b : Nat)
  | tail (b o sz cap : Nat)
  | none

/-- the blocks of the objects, and the cells that never change any more -/
structure Gh where
  β : Nat → Bd
  μ : Nat → Nat → Option Value
  /-- blocks from here on are the frame's own -/
  lo : Nat

def Bd.at : Bd → Nat → Prop
  | .blk b, x => b = x
  | .tail b _ _ _, x => b = x
  | .none, _ => False

inductive DR (μ : Nat → Nat → Option Value) : D → Value → Prop
  | sc (v : Value) (h : v.oneCell' = true) : DR μ (.sc v) v
  | lst (nl : Bool) (es : List (List D)) (a : Option Addr) (cap sz : Nat) (vs : Nat → Nat → Value)
      (hlen : es.length ≤ cap) (hnl : nl = a.isNone) (hcap : a = none → cap = 0) (hsp : es ≠ [] → ∀ ad, a = some ad → ad.spot = none) (hsz : ∀ e ∈ es, e.length = sz)
      (hv : ∀ i j e c, es[i]? = some e → e[j]? = some c → DR μ c (vs i j))
      (hm : ∀ i j e c, es[i]? = some e → e[j]? = some c → ∃ b o, a = some ⟨b, o, none⟩ ∧ μ b (o + i * sz + j) = some (vs i j)) :
      DR μ (.lst nl es) (.slice a es.length cap)

inductive All2 {α β : Type} (R : α → β → Prop) : List α → List β → Prop
  | nil : All2 R [] []
  | cons {a b l m} (h : R a b) (t : All2 R l m) : All2 R (a :: l) (b :: m)

theorem All2.length {α β : Type} {R : α → β → Prop} {l : List α} {m : List β} (h : All2 R l m) : l.length = m.length := by
  induction h with
  | nil => rfl
  | cons _ _ ih => simp [ih]
theorem All2.get {α β : Type} {R : α → β → Prop} {l : List α} {m : List β} (h : All2 R l m) {i : Nat} {a : α} (ha : l[i]? = some a) : ∃ b, m[i]? = some b ∧ R a b := by
  induction h generalizing i with
  | nil => simp at ha
  | cons h _ ih =>
    cases i with
    | zero => simp only [List.getElem?_cons_zero, Option.some.injEq] at ha; subst ha; exact ⟨_, rfl, h⟩
    | succ i => simpa using ih (by simpa using ha)
theorem All2.of_get {α β : Type} {R : α → β → Prop} {l : List α} {m : List β} (hl : l.length = m.length) (h : ∀ (i : Nat) a b, l[i]? = some a → m[i]? = some b → R a b) : All2 R l m := by
  induction l generalizing m with
  | nil => cases m with
    | nil => exact .nil
    | cons _ _ => simp at hl
  | cons a l ih => cases m with
    | nil => simp at hl
    | cons b m => exact .cons (h 0 a b rfl rfl) (ih (by simpa using hl) fun i x y hx hy => h (i + 1) x y (by simpa using hx) (by simpa using hy))
theorem All2.append {α β : Type} {R : α → β → Prop} {l l' : List α} {m m' : List β} (h : All2 R l m) (h' : All2 R l' m') : All2 R (l ++ l') (m ++ m') := by
  induction h with
  | nil => exact h'
  | cons a _ ih => exact .cons a ih
theorem All2.drop {α β : Type} {R : α → β → Prop} {l : List α} {m : List β} (n : Nat) (h : All2 R l m) : All2 R (l.drop n) (m.drop n) := by
  induction n generalizing l m with
  | zero => simpa using h
  | succ n ih => cases h with
    | nil => simpa using All2.nil
    | cons _ t => simpa using ih t
theorem All2.take {α β : Type} {R : α → β → Prop} {l : List α} {m : List β} (n : Nat) (h : All2 R l m) : All2 R (l.take n) (m.take n) := by
  induction n generalizing l m with
  | zero => simpa using All2.nil
  | succ n ih => cases h with
    | nil => simpa using All2.nil
    | cons a t => simpa using All2.cons a (ih t)
theorem All2.mono {α β : Type} {R S : α → β → Prop} (h : ∀ a b, R a b → S a b) {l : List α} {m : List β} (r : All2 R l m) : All2 S l m := by
  induction r with
  | nil => exact .nil
  | cons a _ ih => exact .cons (h _ _ a) ih

def Bd.top : Bd → Nat
  | .tail _ o sz cap => o + cap * sz
  | _ => 0
theorem Bd.at_inj {β : Bd} {b b' : Nat} (h : β.at b) (h' : β.at b') : b = b' := by cases β <;> simp_all [Bd.at]

def Ob.isRow : Ob → Bool
  | .row _ _ => true
  | _ => false

/-- the name k is a block's -/
def Isb (G : Gh) (hp : Heap) (k b : Nat) : Prop := ∃ o, hp[k]? = some o ∧ o.isRow = false ∧ (o = .gone ∨ (G.β k).at b)
theorem Isb.at {G : Gh} {hp : Heap} {k b : Nat} {o : Ob} (h : Isb G hp k b) (hk : hp[k]? = some o) (hg : o ≠ .gone := by nofun) : (G.β k).at b := by
  obtain ⟨o', ho, _, h⟩ := h
  rw [hk] at ho
  cases ho
  exact h.resolve_left hg

def CapR (β : Bd) (es : List (List D)) (v : Value) : Prop :=
  match β with
  | .tail b o sz cap => v = .slice (some ⟨b, o, none⟩) es.length cap ∧ ∀ e ∈ es, e.length = sz
  | .none => ∃ a, v = .slice a es.length es.length
  | .blk _ => False

def CR (G : Gh) (hp : Heap) : C → Value → Prop
  | .d x, v => DR G.μ x v
  | .own nl es k, v => DR G.μ (.lst nl es) v ∧ ∃ n sz, hp[k]? = some (.row n sz) ∧ es.length ≤ n ∧ (es.length = n → CapR (G.β k) es v)
  | .slc k off sz len cap, v => ∃ b c off', Isb G hp k b ∧ v = .slice (some ⟨b, off', none⟩) len c ∧ len ≤ c ∧ (∀ c', cap = some c' → c = c') ∧ (c ≠ 0 → off' = off) ∧
      (cap = none → c ≠ 0 → hp[k]? = some .gone ∨ off + c * sz ≤ (G.β k).top)
  | .ptr k off, v => ∃ b, Isb G hp k b ∧ v = .pointer (some ⟨b, off, none⟩)
  | .cptr cs off, v => ∃ b o, v = .pointer (some ⟨b, o + off, none⟩) ∧ ∃ vs : Nat → Value, ∀ j c, cs[j]? = some c → DR G.μ c (vs j) ∧ G.μ b (o + j) = some (vs j)
  | .mp k, v => ∃ b, Isb G hp k b ∧ v = .map (some b)
  | .it k, v => ∃ b, Isb G hp k b ∧ v = .pointer (some ⟨b, 0, none⟩)
  | .any, v => v.oneCell' = true
  | .nw es, v => DR G.μ (.lst false es) v ∧ ∃ b o, v = .slice (some ⟨b, o, none⟩) es.length es.length ∧ G.lo ≤ b
  | .fn f caps, v => ∃ vs : List Value, v = .func (.func f) #[] vs.toArray ∧ All2 (fun p x => ∃ b, Isb G hp p.1 b ∧ x = .pointer (some ⟨b, p.2, none⟩)) caps vs

def VR (G : Gh) (hp : Heap) : V1 → Value → Prop
  | .c x, v => CR G hp x v
  | .agg cs, v => ∃ vs : List Value, v = .agg vs.toArray ∧ All2 (CR G hp) cs vs

def AR (G : Gh) (hp : Heap) : AV → Value → Prop
  | .v x, v => VR G hp x v
  | .tup xs, v => ∃ vs : List Value, v = .tuple vs.toArray ∧ All2 (VR G hp) xs vs
  | .dead, _ => True

def Fz (fz : Nat × Nat) (n : Nat) : Prop := fz.1 ≤ fz.2 ∧ ∀ i, i < n → ¬ (fz.1 ≤ i ∧ i < fz.2)

def OR (G : Gh) (hp : Heap) (w : World) (k : Nat) : Ob → Prop
  | .cells cs => ∃ b vs t fz, (G.β k).at b ∧ w.heap[b]? = some (.cells vs t fz) ∧ Fz fz vs.size ∧ cs.length ≤ vs.size ∧
      (∀ (i : Nat) c v, cs[i]? = some c → vs[i]? = some v → CR G hp c v) ∧ (∀ i, G.μ b i = none) ∧ (G.β k).top ≤ vs.size
  | .row n rsz => match G.β k with
    | .none => True
    | .tail b o sz cap => rsz = sz ∧ (∃ vs t fz, w.heap[b]? = some (.cells vs t fz) ∧ Fz fz vs.size ∧ o + cap * sz ≤ vs.size) ∧ n ≤ cap ∧ 0 < sz ∧ ∀ i, o + n * sz ≤ i → G.μ b i = none
    | .blk _ => False
  | .amap kvs => ∃ b es clock, G.β k = .blk b ∧ w.heap[b]? = some (.map es clock) ∧
      All2 (fun (e : Value × V1) (m : MapEntry) => e.1 = m.key ∧ VR G hp e.2 m.val) kvs es.toList ∧ ∀ i, G.μ b i = none
  | .siter s p => ∃ b, G.β k = .blk b ∧ w.heap[b]? = some (.stringIter s p) ∧ ∀ i, G.μ b i = none
  | .gone => G.β k = .none

structure WR (G : Gh) (hp : Heap) (w : World) : Prop where
  mu : ∀ b i v, G.μ b i = some v → w.cell? ⟨b, i, none⟩ = some v
  ob : ∀ k o, hp[k]? = some o → OR G hp w k o
  inj : ∀ k k' b, k < hp.length → k' < hp.length → (G.β k).at b → (G.β k').at b → k = k'
  lo : G.lo ≤ w.heap.size

def KR (G0 G : Gh) (k : Nat) : Ob → Ob → Prop
  | .row n _, .row n' _ => n ≤ n' ∧ (n = n' → G.β k = G0.β k)
  | .row _ _, _ => False
  | _, .row _ _ => False
  | .gone, .gone => True
  | .gone, _ => False
  | _, .gone => True
  | _, _ => G.β k = G0.β k

/-- the rest of the world is as it was -/
def Io (w0 w : World) : Prop := w.os = w0.os ∧ w.output = w0.output ∧ w.tape = w0.tape
theorem Io.refl (w : World) : Io w w := ⟨rfl, rfl, rfl⟩
theorem Io.trans {a b c : World} (h : Io a b) (h' : Io b c) : Io a c := ⟨h'.1.trans h.1, h'.2.1.trans h.2.1, h'.2.2.trans h.2.2⟩

/-- what has become of a world: what the objects do not reach is as it was -/
structure Sn (G0 : Gh) (hp0 : Heap) (w0 : World) (G : Gh) (hp : Heap) (w : World) : Prop where
  mu : ∀ b i v, G0.μ b i = some v → G.μ b i = some v
  muNew : ∀ b i, G.μ b i ≠ none → G0.μ b i ≠ none ∨ w0.heap.size ≤ b ∨ ∃ k, k < hp0.length ∧ (G0.β k).at b
  bdNew : ∀ k b, k < hp.length → (G.β k).at b → w0.heap.size ≤ b ∨ ∃ k', k' < hp0.length ∧ (G0.β k').at b
  same : ∀ b, b < w0.heap.size → (b < G0.lo ∨ ∀ i, G0.μ b i = none) → (∀ k, k < hp0.length → ¬ (G0.β k).at b) → w.heap[b]? = w0.heap[b]?
  size : w0.heap.size ≤ w.heap.size
  kind : ∀ k o, hp0[k]? = some o → ∃ o', hp[k]? = some o' ∧ KR G0 G k o o'
  io : Io w0 w
  lo : G.lo = G0.lo

theorem KR.refl (G : Gh) (k : Nat) (o : Ob) : KR G G k o o := by cases o <;> simp [KR]

theorem KR.trans {G0 G1 G2 : Gh} {k : Nat} {o0 o1 o2 : Ob} (h : KR G0 G1 k o0 o1) (h' : KR G1 G2 k o1 o2) : KR G0 G2 k o0 o2 := by
  cases o0 <;> cases o1 <;> cases o2 <;> simp_all [KR]
  obtain ⟨a, b⟩ := h
  obtain ⟨c, d⟩ := h'
  refine ⟨by omega, fun e => ?_⟩
  rw [d (by omega), b (by omega)]

theorem Sn.refl (G : Gh) (hp : Heap) (w : World) : Sn G hp w G hp w :=
  ⟨fun _ _ _ h => h, fun _ _ h => .inl h, fun k _ hk h => .inr ⟨k, hk, h⟩, fun _ _ _ _ => rfl, Nat.le_refl _, fun k o h => ⟨o, h, KR.refl G k o⟩, Io.refl w, rfl⟩

theorem Sn.trans {G0 G1 G2 : Gh} {h0 h1 h2 : Heap} {w0 w1 w2 : World} (a : Sn G0 h0 w0 G1 h1 w1) (b : Sn G1 h1 w1 G2 h2 w2) : Sn G0 h0 w0 G2 h2 w2 := by
  refine ⟨fun x i v h => b.mu _ _ _ (a.mu _ _ _ h), fun x i h => ?_, fun k x hk h => ?_, fun x hx hl hn => ?_, Nat.le_trans a.size b.size, fun k o h => ?_, a.io.trans b.io, b.lo.trans a.lo⟩
  · rcases b.muNew x i h with h | h | ⟨k, hk, h⟩
    · exact a.muNew x i h
    · exact .inr (.inl (Nat.le_trans a.size h))
    · rcases a.bdNew k x hk h with h | h
      · exact .inr (.inl h)
      · exact .inr (.inr h)
  · rcases b.bdNew k x hk h with h | ⟨k', hk', h⟩
    · exact .inl (Nat.le_trans a.size h)
    · exact a.bdNew k' x hk' h
  · rw [b.same x (Nat.lt_of_lt_of_le hx a.size) (hl.imp (fun h => by rw [a.lo]; exact h) fun h i => ?_) fun k hk hat => ?_]
    · exact a.same x hx hl hn
    · cases e : G1.μ x i with
      | none => rfl
      | some v =>
        rcases a.muNew x i (by rw [e]; simp) with q | q | ⟨k, hk, q⟩
        · exact (q (h i)).elim
        · omega
        · exact (hn k hk q).elim
    · rcases a.bdNew k x hk hat with h | ⟨k', hk', h⟩
      · omega
      · exact hn k' hk' h
  · obtain ⟨o1, e1, r1⟩ := a.kind k o h
    obtain ⟨o2, e2, r2⟩ := b.kind k o1 e1
    exact ⟨o2, e2, r1.trans r2⟩

/-- readings go on from here to there -/
structure Up (G0 : Gh) (hp0 : Heap) (G : Gh) (hp : Heap) : Prop where
  mu : ∀ b i v, G0.μ b i = some v → G.μ b i = some v
  kind : ∀ k o, hp0[k]? = some o → ∃ o', hp[k]? = some o' ∧ KR G0 G k o o'
  lo : G.lo = G0.lo
theorem Sn.up {G0 G : Gh} {hp0 hp : Heap} {w0 w : World} (s : Sn G0 hp0 w0 G hp w) : Up G0 hp0 G hp := ⟨s.mu, s.kind, s.lo⟩

/-! ### readings go on -/
theorem DR.mono {μ μ' : Nat → Nat → Option Value} (h : ∀ b i v, μ b i = some v → μ' b i = some v) {x : D} {v : Value} (r : DR μ x v) : DR μ' x v := by
  induction r with
  | sc v hv => exact .sc v hv
  | lst nl es a cap sz vs hlen hnl hcap hsp hsz _ hm ih =>
    refine .lst nl es a cap sz vs hlen hnl hcap hsp hsz ih fun i j e c he hc => ?_
    obtain ⟨b, o, ha, hb⟩ := hm i j e c he hc
    exact ⟨b, o, ha, h _ _ _ hb⟩

theorem Isb.up {G0 G : Gh} {hp0 hp : Heap} (s : Up G0 hp0 G hp) {k b : Nat} (h : Isb G0 hp0 k b) : Isb G hp k b := by
  obtain ⟨o, ho, hr, hb⟩ := h
  obtain ⟨o', ho', hk⟩ := s.kind k o ho
  cases o <;> cases o' <;> simp_all [KR, Isb, Ob.isRow]
theorem gone_up {G0 G : Gh} {hp0 hp : Heap} (s : Up G0 hp0 G hp) {k n : Nat} {o : Ob} (hk : hp0[k]? = some o) (hr : o.isRow = false) (h : hp0[k]? = some .gone ∨ n ≤ (G0.β k).top) : hp[k]? = some .gone ∨ n ≤ (G.β k).top := by
  obtain ⟨o', ho', hkr⟩ := s.kind k o hk
  cases o <;> cases o' <;> simp_all [KR, Ob.isRow]

theorem CapR.of_eq {β β' : Bd} {es : List (List D)} {v : Value} (h : β' = β) (r : CapR β es v) : CapR β' es v := h ▸ r

theorem CR.up {G0 G : Gh} {hp0 hp : Heap} (s : Up G0 hp0 G hp) {x : C} {v : Value} (h : CR G0 hp0 x v) : CR G hp x v := by
  cases x with
  | d x => exact DR.mono s.mu h
  | own nl es k =>
    obtain ⟨hd, n, sz, hn, hle, hcap⟩ := h
    obtain ⟨o', ho', hk⟩ := s.kind k _ hn
    cases o' with
    | row n' sz' =>
      simp only [KR] at hk
      exact ⟨hd.mono s.mu, n', sz', ho', by omega, fun e => (hcap (by omega)).of_eq (hk.2 (by omega))⟩
    | _ => simp [KR] at hk
  | slc k off sz len cap =>
    obtain ⟨b, c, o, hi, r1, r2, r3, r4, r5⟩ := h
    obtain ⟨ob, hob, hr, _⟩ := id hi
    exact ⟨b, c, o, hi.up s, r1, r2, r3, r4, fun e hc => gone_up s hob hr (r5 e hc)⟩
  | ptr k off => obtain ⟨b, hi, r⟩ := h; exact ⟨b, hi.up s, r⟩
  | cptr cs off =>
    obtain ⟨b, o, hv, vs, r⟩ := h
    exact ⟨b, o, hv, vs, fun j c hc => ⟨(r j c hc).1.mono s.mu, s.mu _ _ _ (r j c hc).2⟩⟩
  | mp k => obtain ⟨b, hi, r⟩ := h; exact ⟨b, hi.up s, r⟩
  | it k => obtain ⟨b, hi, r⟩ := h; exact ⟨b, hi.up s, r⟩
  | any => exact h
  | nw es => obtain ⟨h1, b, o, h2, h3⟩ := h; exact ⟨h1.mono s.mu, b, o, h2, by rw [s.lo]; exact h3⟩
  | fn f caps =>
    obtain ⟨vs, hv, r⟩ := h
    refine ⟨vs, hv, ?_⟩
    clear hv
    induction r with
    | nil => exact .nil
    | cons h _ ih => obtain ⟨b, hi, e⟩ := h; exact .cons ⟨b, hi.up s, e⟩ ih

theorem VR.up {G0 G : Gh} {hp0 hp : Heap} (s : Up G0 hp0 G hp) {x : V1} {v : Value} (h : VR G0 hp0 x v) : VR G hp x v := by
  cases x with
  | c x => exact CR.up s h
  | agg cs => obtain ⟨vs, hv, r⟩ := h; exact ⟨vs, hv, r.mono fun _ _ => CR.up s⟩

theorem AR.up {G0 G : Gh} {hp0 hp : Heap} (s : Up G0 hp0 G hp) {x : AV} {v : Value} (h : AR G0 hp0 x v) : AR G hp x v := by
  cases x with
  | v x => exact VR.up s h
  | tup xs => obtain ⟨vs, hv, r⟩ := h; exact ⟨vs, hv, r.mono fun _ _ => VR.up s⟩
  | dead => trivial

section
variable {G0 G : Gh} {hp0 hp : Heap} {w0 w : World} (s : Sn G0 hp0 w0 G hp w)
include s
theorem Isb.mono {k b : Nat} (h : Isb G0 hp0 k b) : Isb G hp k b := h.up s.up
theorem CR.mono {x : C} {v : Value} (h : CR G0 hp0 x v) : CR G hp x v := h.up s.up
theorem VR.mono {x : V1} {v : Value} (h : VR G0 hp0 x v) : VR G hp x v := h.up s.up
theorem AR.mono {x : AV} {v : Value} (h : AR G0 hp0 x v) : AR G hp x v := h.up s.up
end

/-- what a cell holds is of one cell -/
theorem DR.one {μ : Nat → Nat → Option Value} {x : D} {v : Value} (h : DR μ x v) : v.oneCell' = true := by cases h <;> first | assumption | rfl
theorem CR.one {G : Gh} {hp : Heap} {x : C} {v : Value} (h : CR G hp x v) : v.oneCell' = true := by
  cases x with
  | d x => exact DR.one h
  | own nl es k => exact DR.one h.1
  | slc k off sz len cap => obtain ⟨b, c, o, _, rfl, _⟩ := h; rfl
  | ptr k off => obtain ⟨b, _, rfl⟩ := h; rfl
  | cptr cs off => obtain ⟨b, o, rfl, _⟩ := h; rfl
  | mp k => obtain ⟨b, _, rfl⟩ := h; rfl
  | it k => obtain ⟨b, _, rfl⟩ := h; rfl
  | any => exact h
  | nw es => obtain ⟨_, b, o, rfl, _⟩ := h; rfl
  | fn f caps => obtain ⟨vs, rfl, _⟩ := h; rfl

theorem cells_of_one {v : Value} (h : v.oneCell' = true) : v.cells = #[v] := by cases v <;> first | rfl | simp [Value.oneCell'] at h

theorem VR.cells {G : Gh} {hp : Heap} {x : V1} {v : Value} (h : VR G hp x v) : All2 (CR G hp) x.cells v.cells.toList := by
  cases x with
  | c x => rw [cells_of_one (CR.one h)]; exact .cons h .nil
  | agg cs => obtain ⟨vs, rfl, r⟩ := h; simpa [Value.cells, V1.cells] using r

/-! ### steps that ask nothing of memory -/
theorem evalS_run {P : Program} {α : Type} {s : Sem α} {a : α} (h : evalS P s = some a) (w : World) : s.run P w = .ok a w := by
  induction s with
  | pure b => simp only [evalS, Option.some.injEq] at h; subst h; rfl
  | program k ih => simp only [evalS] at h; simp only [Sem.run]; exact ih P h
  | _ => simp [evalS] at h

end Go.Ab
