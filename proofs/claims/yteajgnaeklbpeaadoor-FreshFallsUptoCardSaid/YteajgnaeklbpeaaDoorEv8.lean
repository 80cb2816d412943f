/- An abstract evaluator of the loaded code, and that what it says is what the machine does. -/
import Derived.Test.YteajgnaeklbpeaaDoorEv7
import Derived.Deep.Slices
import Derived.ChangeArms
import Derived.Carry
set_option linter.all false
section
set_option linter.unusedVariables false
set_option linter.unusedSimpArgs false
namespace Go.Ab
open Go Go.ChangeShapes Go.WideShapes
structure Blk (H : Type) where
  B : DataW H → Nat
  A : List (DataW H) → Nat
  str : ∀ s, B (.lit (.string s)) = s.length + 1
  lit : ∀ l, 1 ≤ B (.lit l)
  nil : B .nil = 1
  sl : ∀ es sp, B (.slice es sp) = A es + A sp + 1
  ag : ∀ ps, B (.agg ps) = A ps + 1
  A0 : A [] = 0
  A1 : ∀ d r, A (d :: r) = B d + A r
def cm (w : World) : Nat → Nat → Option Value := fun b i => w.cell? ⟨b, i, none⟩
structure Opn (P : Program) (t : TypeId) {α : Type} (e : α → List D) (sz : α → Nat) (ok : α → Prop) : Prop where
  out : ∀ {H : Type} {enc : TypeId × Value → H} {w : World} {base : Nat} {spare : Nat → Bool} {held : Bool} {fuel : Nat} {cs : List Value} {x : DataW H × List MemPlace},
    DataW.trod enc P w base spare held fuel t cs = some x → ∃ a, All2 (DR (cm w)) (e a) cs ∧ ok a ∧ ∀ K : Blk H, sz a ≤ K.B x.1
theorem Opn.map {P : Program} {t : TypeId} {α β : Type} {e : α → List D} {sz : α → Nat} {ok : α → Prop} (O : Opn P t e sz ok) (g : α → β) {e' : β → List D} {sz' : β → Nat} {ok' : β → Prop}
    (he : ∀ a, e' (g a) = e a) (hs : ∀ a, sz' (g a) ≤ sz a) (hk : ∀ a, ok a → ok' (g a)) : Opn P t e' sz' ok' := ⟨by
  intro H enc w base spare held fuel cs x h
  obtain ⟨a, h1, h2, h3⟩ := O.out h
  exact ⟨g a, by rw [he]; exact h1, hk a h2, fun K => Nat.le_trans (hs a) (h3 K)⟩⟩
theorem opn_str {P : Program} {t : TypeId} (ht : P.underlying t = some .string) : Opn P t (fun s : Bs => [.sc (.string (S s))]) (fun s => s.length + 1) (fun _ => True) := ⟨by
  intro H enc w base spare held fuel cs x h
  obtain ⟨s, rfl, rfl, h1⟩ := DataW.trod_string ht h
  exact ⟨s.data.toList, .cons (.sc (.string s) rfl) .nil, trivial, fun K => by rw [K.str]; exact Nat.le_refl _⟩⟩
theorem opn_int {P : Program} {t : TypeId} {k : IntKind} (ht : P.underlying t = some (.int k)) : Opn P t (fun n : Int => [.sc (.int k n)]) (fun _ => 1) (fun n => (Lit.int k n).wf = true) := ⟨by
  intro H enc w base spare held fuel cs x h
  obtain ⟨n, rfl, rfl, h1⟩ := DataW.trod_int ht h
  exact ⟨n, .cons (.sc (.int k n) rfl) .nil, h1, fun K => K.lit _⟩⟩
theorem opn_u8 {P : Program} {t : TypeId} (ht : P.underlying t = some (.int .u8)) : Opn P t (fun c : UInt8 => [.sc (.int .u8 (c.toNat : Int))]) (fun _ => 1) (fun _ => True) := ⟨by
  intro H enc w base spare held fuel cs x h
  obtain ⟨n, rfl, rfl, h1⟩ := DataW.trod_int ht h
  have h2 : (decide (IntKind.min .u8 ≤ n) && decide (n ≤ IntKind.max .u8)) = true := h1
  rw [Bool.and_eq_true] at h2
  have h3 : 0 ≤ n := of_decide_eq_true h2.1
  have h4 : n ≤ 255 := of_decide_eq_true h2.2
  refine ⟨UInt8.ofNat n.toNat, ?_, trivial, fun K => K.lit _⟩
  have e : ((UInt8.ofNat n.toNat).toNat : Int) = n := by
    rw [UInt8.toNat_ofNat']
    omega
  show All2 (DR (cm w)) [D.sc (.int .u8 ((UInt8.ofNat n.toNat).toNat : Int))] _
  rw [e]
  exact .cons (.sc (.int .u8 n) rfl) .nil⟩
theorem sum_A {H : Type} (K : Blk H) {α : Type} (sz : α → Nat) (D : Nat → DataW H) : ∀ (l : List α) (o : Nat), (∀ i (h : i < l.length), sz l[i] ≤ K.B (D (o + i))) → (l.map sz).sum ≤ K.A ((List.range' o l.length).map D) := by
  intro l
  induction l with
  | nil => intro o _; exact Nat.zero_le _
  | cons a l ih =>
    intro o h
    rw [List.length_cons, List.range'_succ, List.map_cons, List.map_cons, List.sum_cons, K.A1]
    have h0 := h 0 (by simp)
    have := ih (o + 1) fun i hi => by
      have := h (i + 1) (by simpa using hi)
      rwa [show o + (i + 1) = o + 1 + i by omega] at this
    simp only [List.getElem_cons_zero, Nat.add_zero] at h0
    omega
theorem opn_slice {P : Program} {t e : TypeId} {α : Type} {f : α → List D} {sz : α → Nat} {ok : α → Prop} {k : Nat} (ht : P.underlying t = some (.slice e)) (hk : P.cellsOf e = k) (O : Opn P e f sz ok) (hf : ∀ a, (f a).length = k) (hk0 : 0 < k) :
    Opn P t (fun x : Bool × List α => [.lst x.1 (enL f x.2)]) (fun x => (x.2.map sz).sum + 1) (fun x => (x.1 = true → x.2 = []) ∧ x.2.length ≤ maxLen ∧ ∀ a ∈ x.2, ok a) := ⟨by
  intro H enc w base spare held fuel cs x h
  rcases Go.Deep.open_slice ht h with ⟨rfl, rfl⟩ | ⟨ad, len, cap, m, n, Dt, Pl, rfl, hb, hl, hcap, hm, rfl, hx⟩
  · exact ⟨(true, []), .cons .nil .nil, ⟨fun _ => rfl, Nat.zero_le _, by simp⟩, fun K => by rw [K.nil]; simp⟩
  · have hlm : len ≤ m := by rw [hm]; split <;> omega
    have each : ∀ i, i < len → ∃ q : α × List Value, w.cells? base (ad.add (i * k)) k = some q.2 ∧ All2 (DR (cm w)) (f q.1) q.2 ∧ ok q.1 ∧ ∀ K : Blk H, sz q.1 ≤ K.B (Dt i) := by
      intro i hi
      obtain ⟨cs', h1, h2⟩ := hx i (by omega)
      rw [hk] at h1
      obtain ⟨a, r1, r2, r3⟩ := O.out h2
      exact ⟨(a, cs'), h1, r1, r2, r3⟩
    by_cases h0 : len = 0
    · subst h0
      refine ⟨(false, []), .cons ?_ .nil, ⟨nofun, Nat.zero_le _, by simp⟩, fun K => by rw [K.sl]; simp⟩
      exact .lst false [] (some ad) cap k (fun _ _ => default) (Nat.zero_le _) rfl nofun (fun h => absurd rfl h) (by simp) (fun i j e c h => by simp at h) (fun i j e c h => by simp at h)
    · obtain ⟨q0, _⟩ := each 0 (by omega)
      have : Inhabited α := ⟨q0.1⟩
      obtain ⟨q, hq⟩ : ∃ q : Nat → α × List Value, ∀ i, i < len → w.cells? base (ad.add (i * k)) k = some (q i).2 ∧ All2 (DR (cm w)) (f (q i).1) (q i).2 ∧ ok (q i).1 ∧ ∀ K : Blk H, sz (q i).1 ≤ K.B (Dt i) :=
        Go.Deep.choose_lt each
      let l := (List.range len).map fun i => (q i).1
      have hll : l.length = len := by simp [l]
      have hlg : ∀ i (h : i < l.length), l[i] = (q i).1 := fun i h => by simp [l]
      refine ⟨(false, l), .cons ?_ .nil, ⟨nofun, by rw [hll]; omega, fun a ha => ?_⟩, fun K => ?_⟩
      · have hd : DR (cm w) (.lst false (enL f l)) (.slice (some ad) (enL f l).length cap) := by
          have hcell : ∀ i j, i < len → j < k → ∃ v, (q i).2[j]? = some v ∧ w.cell? ((ad.add (i * k)).add j) = some v := by
            intro i j hi hj
            obtain ⟨_, hlen, hcl⟩ := World.cells?_some (hq i hi).1
            have := hcl j (by omega)
            exact ⟨(q i).2[j]'(by omega), List.getElem?_eq_getElem _, by rw [this, List.getElem?_eq_getElem]⟩
          have hsp : 0 < k → ad.spot = none := by
            intro hk0
            obtain ⟨v, _, h2⟩ := hcell 0 0 (by omega) hk0
            rw [show (ad.add (0 * k)).add 0 = ad by simp [Addr.add]] at h2
            unfold World.cell? at h2
            split at h2
            · split at h2
              · cases h2
              · rename_i hs
                cases hsp : ad.spot with
                | none => rfl
                | some s => rw [hsp] at hs; exact absurd rfl hs
            · cases h2
          have hs := hsp hk0
          obtain ⟨b, o, sp⟩ := ad
          simp only at hs
          subst hs
          refine .lst false (enL f l) (some ⟨b, o, none⟩) cap k (fun i j => ((q i).2[j]?).getD default) (by rw [enL_length, hll]; omega) rfl nofun (fun _ a ha => by cases ha; rfl) ?_ ?_ ?_
          · intro e he
            simp only [enL, List.mem_map] at he
            obtain ⟨a, _, rfl⟩ := he
            exact hf a
          · intro i j e c he hc
            simp only [enL, List.getElem?_map, Option.map_eq_some_iff] at he
            obtain ⟨a, ha, rfl⟩ := he
            obtain ⟨hi, rfl⟩ := List.getElem?_eq_some_iff.1 ha
            rw [hlg] at hc
            obtain ⟨v, hv, hr⟩ := (hq i (by omega)).2.1.get hc
            rw [hv]
            exact hr
          · intro i j e c he hc
            simp only [enL, List.getElem?_map, Option.map_eq_some_iff] at he
            obtain ⟨a, ha, rfl⟩ := he
            obtain ⟨hi, rfl⟩ := List.getElem?_eq_some_iff.1 ha
            rw [hlg] at hc
            have hj : j < k := by
              rw [← hf (q i).1]
              exact (List.getElem?_eq_some_iff.1 hc).1
            obtain ⟨v, hv, hw⟩ := hcell i j (by omega) hj
            refine ⟨b, o, rfl, ?_⟩
            rw [hv]
            have ea : ((⟨b, o, none⟩ : Addr).add (i * k)).add j = ⟨b, o + i * k + j, none⟩ := by simp [addr_add]
            rw [ea] at hw
            exact hw
        rw [enL_length, hll] at hd
        exact hd
      · simp only [l, List.mem_map, List.mem_range] at ha
        obtain ⟨i, hi, rfl⟩ := ha
        exact (hq i hi).2.2.1
      · rw [K.sl]
        have := sum_A K sz Dt l 0 (fun i hi => by
          rw [hlg, Nat.zero_add]
          exact (hq i (by omega)).2.2.2 K)
        rw [hll, ← List.range_eq_range'] at this
        show (l.map sz).sum + 1 ≤ _
        omega
⟩
structure FOpn (P : Program) (fs : List Field) (off tot : Nat) {α : Type} (e : α → List D) (sz : α → Nat) (ok : α → Prop) : Prop where
  out : ∀ {H : Type} {enc : TypeId × Value → H} {w : World} {base : Nat} {spare : Nat → Bool} {held : Bool} {n : Nat} {cs : List Value} {xs : List (DataW H × List MemPlace)},
    cs.length = tot → xs.length = fs.length → (∀ (i : Nat) (f : Field), fs[i]? = some f → DataW.trod enc P w base spare held n f.type ((cs.drop f.offset).take (P.cellsOf f.type)) = xs[i]?) →
    ∃ a, All2 (DR (cm w)) (e a) (cs.drop off) ∧ ok a ∧ ∀ K : Blk H, sz a ≤ K.A (xs.map (·.1))
theorem fopn_nil {P : Program} {tot : Nat} : FOpn P [] tot tot (fun _ : Unit => []) (fun _ => 0) (fun _ => True) := ⟨by
  intro H enc w base spare held n cs xs hc hx _
  refine ⟨(), ?_, trivial, fun K => Nat.zero_le _⟩
  rw [List.drop_eq_nil_of_le (by omega)]
  exact .nil⟩
theorem fopn_cons {P : Program} {f : Field} {fs : List Field} {off k tot : Nat} {t : TypeId} {α β : Type} {e : α → List D} {sz : α → Nat} {ok : α → Prop} {e' : β → List D} {sz' : β → Nat} {ok' : β → Prop}
    (ho : f.offset = off) (ht : f.type = t) (hk : P.cellsOf t = k) (O : Opn P t e sz ok) (F : FOpn P fs (off + k) tot e' sz' ok') : FOpn P (f :: fs) off tot (fun x : α × β => e x.1 ++ e' x.2) (fun x => sz x.1 + sz' x.2) (fun x => ok x.1 ∧ ok' x.2) := ⟨by
  intro H enc w base spare held n cs xs hc hx h
  cases xs with
  | nil => cases hx
  | cons x xs =>
    have h0 := h 0 f rfl
    rw [ho, ht, hk] at h0
    obtain ⟨a, a1, a2, a3⟩ := O.out h0
    obtain ⟨b, b1, b2, b3⟩ := F.out (xs := xs) hc (by simpa using hx) (fun i g hg => h (i + 1) g hg)
    refine ⟨(a, b), ?_, ⟨a2, b2⟩, fun K => ?_⟩
    · have := a1.append b1
      rwa [← List.drop_drop, List.take_append_drop] at this
    · rw [List.map_cons, K.A1]
      exact Nat.add_le_add (a3 K) (b3 K)⟩
theorem opn_struct {P : Program} {t : TypeId} {fs : Array Field} {tot : Nat} {α : Type} {e : α → List D} {sz : α → Nat} {ok : α → Prop} (ht : P.underlying t = some (.struct fs)) (hc : P.cellsOf t = tot) (F : FOpn P fs.toList 0 tot e sz ok) :
    Opn P t e (fun a => sz a + 1) ok := ⟨by
  intro H enc w base spare held fuel cs x h
  obtain ⟨xs, n, _, rfl, hl, hlen, hf⟩ := DataW.trod_struct ht h
  obtain ⟨a, a1, a2, a3⟩ := F.out (xs := xs) (by rw [hl, hc]) (by rw [hlen]; simp) (fun i f hi => hf i f (by simpa using hi))
  exact ⟨a, a1, a2, fun K => by rw [K.ag]; exact Nat.succ_le_succ (a3 K)⟩⟩
theorem arg_cell {P : Program} {t : TypeId} {u : TypeDesc} {α : Type} {f : α → D} {sz : α → Nat} {ok : α → Prop} (O : Opn P t (fun a => [f a]) sz ok) (hu : P.underlying t = some u) (hn : (match u with | .bool => true | .string => true | .int _ => true | .slice _ => true | _ => false) = true)
    {H : Type} {enc : TypeId × Value → H} {W : World} {r : Reach} {b0 base : Nat} {sp : Nat → Bool} {held : Bool} {v : Value} {d : DataW H} {ps : List MemPlace} (hval : Value.okWide P W r b0 t v) (h : DataW.Trod enc P W base sp held t v d ps) :
    ∃ a, VR (G0 W) [] (.c (.d (f a))) v ∧ ok a ∧ ∀ K : Blk H, sz a ≤ K.B d := by
  obtain ⟨fuel, h⟩ := h
  obtain ⟨a, h1, h2, h3⟩ := O.out h
  refine ⟨a, ?_, h2, h3⟩
  have hc : v.cells = #[v] := by
    unfold Value.okWide at hval
    cases v with
    | agg cs =>
      exfalso
      cases u <;> simp only [Bool.false_eq_true] at hn <;> simp [hu, Cell.okWide, Cell.ok] at hval
    | _ => rfl
  rw [hc] at h1
  cases h1 with
  | cons h t => exact h
theorem arg_agg {P : Program} {t : TypeId} {fs : Array Field} {α : Type} {e : α → List D} {sz : α → Nat} {ok : α → Prop} (O : Opn P t e sz ok) (hu : P.underlying t = some (.struct fs))
    {H : Type} {enc : TypeId × Value → H} {W : World} {r : Reach} {b0 base : Nat} {sp : Nat → Bool} {held : Bool} {v : Value} {d : DataW H} {ps : List MemPlace} (hval : Value.okWide P W r b0 t v) (h : DataW.Trod enc P W base sp held t v d ps) :
    ∃ a, VR (G0 W) [] (.agg ((e a).map .d)) v ∧ ok a ∧ ∀ K : Blk H, sz a ≤ K.B d := by
  obtain ⟨fuel, h⟩ := h
  obtain ⟨a, h1, h2, h3⟩ := O.out h
  unfold Value.okWide at hval
  simp only [hu] at hval
  obtain ⟨cs, rfl, _⟩ := hval
  refine ⟨a, ⟨cs.toList, rfl, ?_⟩, h2, h3⟩
  have h1' : All2 (DR (cm W)) (e a) cs.toList := h1
  clear h1
  generalize e a = l at h1'
  generalize cs.toList = m at h1'
  induction h1' with
  | nil => exact .nil
  | cons h _ ih => exact .cons h ih
open Go.RowKit in
theorem below_trodAll {H : Type} {enc : TypeId × Value → H} {P : Program} (hl : laidOutB P = true) {W W' : World} (hb : Below W.heap.size W W') : ∀ {ts : List TypeId} {vs : List Value} {ds : List (DataW H)} {ps : List MemPlace},
    (∀ t ∈ ts, P.readableRec t = true ∧ t < P.types.size) → (∀ x ∈ ps, x.block < W.heap.size) → DataW.TrodAll enc P W 0 (fun _ => true) true ts vs ds ps →
    DataW.TrodAll enc P W' 0 (fun b => decide (b < W.heap.size)) true ts vs ds ps := by
  intro ts
  induction ts with
  | nil => intro vs ds ps _ _ h; obtain ⟨rfl, rfl, rfl⟩ := trodAll_nil h; exact trodAll_mk0
  | cons t ts ih =>
    intro vs ds ps ht hlt h
    obtain ⟨v, vs', d, ds', p, q, rfl, rfl, rfl, h1, h2⟩ := trodAll_cons h
    have h0 := ht t (List.mem_cons_self ..)
    exact trodAll_cons_mk (Below.trod hl h0.1 h0.2 h1 hb (fun x hx => hlt x (List.mem_append_left _ hx))) (ih (fun t h => ht t (List.mem_cons_of_mem _ h)) (fun x hx => hlt x (List.mem_append_right _ hx)) h2)
end Go.Ab
end
