/- An abstract evaluator of the loaded code, and that what it says is what the machine does. -/
import Derived.Test.YtaohepmbkepmiaaDoorEv7
import Derived.Deep.Slices
import Derived.ChangeArms
import Derived.Carry
set_option linter.all false
section
set_option linter.unusedVariables false
set_option linter.unusedSimpArgs false
namespace Go.Ab
open Go Go.ChangeShapes Go.WideShapes
structure Blk (H : Type) where
  B : DataW H → Nat
  A : List (DataW H) → Nat
  str : ∀ s, B (.lit (.string s)) = s.length + 1
  lit : ∀ l, 1 ≤ B (.lit l)
  nil : B .nil = 1
  sl : ∀ es sp, B (.slice es sp) = A es + A sp + 1
  ag : ∀ ps, B (.agg ps) = A ps + 1
  A0 : A [] = 0
  A1 : ∀ d r, A (d :: r) = B d + A r
def cm (w : World) : Nat → Nat → Option Value := fun b i => w.cell? ⟨b, i, none⟩
structure Opn (P : Program) (t : TypeId) {α : Type} (e : α → List D) (sz : α → Nat) (ok : α → Prop) : Prop where
  out : ∀ {H : Type} {enc : TypeId × Value → H} {w : World} {base : Nat} {spare : Nat → Bool} {held : Bool} {fuel : Nat} {cs : List Value} {x : DataW H × List MemPlace},
    DataW.trod enc P w base spare held fuel t cs = some x → ∃ a, All2 (DR (cm w)) (e a) cs ∧ ok a ∧ ∀ K : Blk H, sz a ≤ K.B x.1
theorem Opn.map {P : Program} {t : TypeId} {α β : Type} {e : α → List D} {sz : α → Nat} {ok : α → Prop} (O : Opn P t e sz ok) (g : α → β) {e' : β → List D} {sz' : β → Nat} {ok' : β → Prop}
    (he : ∀ a, e' (g a) = e a) (hs : ∀ a, sz' (g a) ≤ sz a) (hk : ∀ a, ok a → ok' (g a)) : Opn P t e' sz' ok' := ⟨by
  intro H enc w base spare held fuel cs x h
  obtain ⟨a, h1, h2, h3⟩ := O.out h
  exact ⟨g a, by rw [he]; exact h1, hk a h2, fun K => Nat.le_trans (hs a) (h3 K)⟩⟩
theorem opn_int {P : Program} {t : TypeId} {k : IntKind} (ht : P.underlying t = some (.int k)) : Opn P t (fun n : Int => [.sc (.int k n)]) (fun _ => 1) (fun n => (Lit.int k n).wf = true) := ⟨by
  intro H enc w base spare held fuel cs x h
  obtain ⟨n, rfl, rfl, h1⟩ := DataW.trod_int ht h
  exact ⟨n, .cons (.sc (.int k n) rfl) .nil, h1, fun K => K.lit _⟩⟩
theorem opn_u8 {P : Program} {t : TypeId} (ht : P.underlying t = some (.int .u8)) : Opn P t (fun c : UInt8 => [.sc (.int .u8 (c.toNat : Int))]) (fun _ => 1) (fun _ => True) := ⟨by
  intro H enc w base spare held fuel cs x h
  obtain ⟨n, rfl, rfl, h1⟩ := DataW.trod_int ht h
  have h2 : (decide (IntKind.min .u8 ≤ n) && decide (n ≤ IntKind.max .u8)) = true := h1
  rw [Bool.and_eq_true] at h2
  have h3 : 0 ≤ n := of_decide_eq_true h2.1
  have h4 : n ≤ 255 := of_decide_eq_true h2.2
  refine ⟨UInt8.ofNat n.toNat, ?_, trivial, fun K => K.lit _⟩
  have e : ((UInt8.ofNat n.toNat).toNat : Int) = n := by
    rw [UInt8.toNat_ofNat']
    omega
  show All2 (DR (cm w)) [D.sc (.int .u8 ((UInt8.ofNat n.toNat).toNat : Int))] _
  rw [e]
  exact .cons (.sc (.int .u8 n) rfl) .nil⟩
theorem sum_A {H : Type} (K : Blk H) {α : Type} (sz : α → Nat) (D : Nat → DataW H) : ∀ (l : List α) (o : Nat), (∀ i (h : i < l.length), sz l[i] ≤ K.B (D (o + i))) → (l.map sz).sum ≤ K.A ((List.range' o l.length).map D) := by
  intro l
  induction l with
  | nil => intro o _; exact Nat.zero_le _
  | cons a l ih =>
    intro o h
    rw [List.length_cons, List.range'_succ, List.map_cons, List.map_cons, List.sum_cons, K.A1]
    have h0 := h 0 (by simp)
    have := ih (o + 1) fun i hi => by
      have := h (i + 1) (by simpa using hi)
      rwa [show o + (i + 1) = o + 1 + i by omega] at this
    simp only [List.getElem_cons_zero, Nat.add_zero] at h0
    omega
theorem opn_slice {P : Program} {t e : TypeId} {α : Type} {f : α → List D} {sz : α → Nat} {ok : α → Prop} {k : Nat} (ht : P.underlying t = some (.slice e)) (hk : P.cellsOf e = k) (O : Opn P e f sz ok) (hf : ∀ a, (f a).length = k) (hk0 : 0 < k) :
    Opn P t (fun x : Bool × List α => [.lst x.1 (enL f x.2)]) (fun x => (x.2.map sz).sum + 1) (fun x => (x.1 = true → x.2 = []) ∧ x.2.length ≤ maxLen ∧ ∀ a ∈ x.2, ok a) := ⟨by
  intro H enc w base spare held fuel cs x h
  rcases Go.Deep.open_slice ht h with ⟨rfl, rfl⟩ | ⟨ad, len, cap, m, n, Dt, Pl, rfl, hb, hl, hcap, hm, rfl, hx⟩
  · exact ⟨(true, []), .cons .nil .nil, ⟨fun _ => rfl, Nat.zero_le _, by simp⟩, fun K => by rw [K.nil]; simp⟩
  · have hlm : len ≤ m := by rw [hm]; split <;> omega
    have each : ∀ i, i < len → ∃ q : α × List Value, w.cells? base (ad.add (i * k)) k = some q.2 ∧ All2 (DR (cm w)) (f q.1) q.2 ∧ ok q.1 ∧ ∀ K : Blk H, sz q.1 ≤ K.B (Dt i) := by
      intro i hi
      obtain ⟨cs', h1, h2⟩ := hx i (by omega)
      rw [hk] at h1
      obtain ⟨a, r1, r2, r3⟩ := O.out h2
      exact ⟨(a, cs'), h1, r1, r2, r3⟩
    by_cases h0 : len = 0
    · subst h0
      refine ⟨(false, []), .cons ?_ .nil, ⟨nofun, Nat.zero_le _, by simp⟩, fun K => by rw [K.sl]; simp⟩
      exact .lst false [] (some ad) cap k (fun _ _ => default) (Nat.zero_le _) rfl nofun (fun h => absurd rfl h) (by simp) (fun i j e c h => by simp at h) (fun i j e c h => by simp at h)
    · obtain ⟨q0, _⟩ := each 0 (by omega)
      have : Inhabited α := ⟨q0.1⟩
      obtain ⟨q, hq⟩ : ∃ q : Nat → α × List Value, ∀ i, i < len → w.cells? base (ad.add (i * k)) k = some (q i).2 ∧ All2 (DR (cm w)) (f (q i).1) (q i).2 ∧ ok (q i).1 ∧ ∀ K : Blk H, sz (q i).1 ≤ K.B (Dt i) :=
        Go.Deep.choose_lt each
      let l := (List.range len).map fun i => (q i).1
      have hll : l.length = len := by simp [l]
      have hlg : ∀ i (h : i < l.length), l[i] = (q i).1 := fun i h => by simp [l]
      refine ⟨(false, l), .cons ?_ .nil, ⟨nofun, by rw [hll]; omega, fun a ha => ?_⟩, fun K => ?_⟩
      · have hd : DR (cm w) (.lst false (enL f l)) (.slice (some ad) (enL f l).length cap) := by
          have hcell : ∀ i j, i < len → j < k → ∃ v, (q i).2[j]? = some v ∧ w.cell? ((ad.add (i * k)).add j) = some v := by
            intro i j hi hj
            obtain ⟨_, hlen, hcl⟩ := World.cells?_some (hq i hi).1
            have := hcl j (by omega)
            exact ⟨(q i).2[j]'(by omega), List.getElem?_eq_getElem _, by rw [this, List.getElem?_eq_getElem]⟩
          have hsp : 0 < k → ad.spot = none := by
            intro hk0
            obtain ⟨v, _, h2⟩ := hcell 0 0 (by omega) hk0
            rw [show (ad.add (0 * k)).add 0 = ad by simp [Addr.add]] at h2
            unfold World.cell? at h2
            split at h2
            · split at h2
              · cases h2
              · rename_i hs
                cases hsp : ad.spot with
                | none => rfl
                | some s => rw [hsp] at hs; exact absurd rfl hs
            · cases h2
          have hs := hsp hk0
          obtain ⟨b, o, sp⟩ := ad
          simp only at hs
          subst hs
          refine .lst false (enL f l) (some ⟨b, o, none⟩) cap k (fun i j => ((q i).2[j]?).getD default) (by rw [enL_length, hll]; omega) rfl nofun (fun _ a ha => by cases ha; rfl) ?_ ?_ ?_
          · intro e he
            simp only [enL, List.mem_map] at he
            obtain ⟨a, _, rfl⟩ := he
            exact hf a
          · intro i j e c he hc
            simp only [enL, List.getElem?_map, Option.map_eq_some_iff] at he
            obtain ⟨a, ha, rfl⟩ := he
            obtain ⟨hi, rfl⟩ := List.getElem?_eq_some_iff.1 ha
            rw [hlg] at hc
            obtain ⟨v, hv, hr⟩ := (hq i (by omega)).2.1.get hc
            rw [hv]
            exact hr
          · intro i j e c he hc
            simp only [enL, List.getElem?_map, Option.map_eq_some_iff] at he
            obtain ⟨a, ha, rfl⟩ := he
            obtain ⟨hi, rfl⟩ := List.getElem?_eq_some_iff.1 ha
            rw [hlg] at hc
            have hj : j < k := by
              rw [← hf (q i).1]
              exact (List.getElem?_eq_some_iff.1 hc).1
            obtain ⟨v, hv, hw⟩ := hcell i j (by omega) hj
            refine ⟨b, o, rfl, ?_⟩
            rw [hv]
            have ea : ((⟨b, o, none⟩ : Addr).add (i * k)).add j = ⟨b, o + i * k + j, none⟩ := by simp [addr_add]
            rw [ea] at hw
            exact hw
        rw [enL_length, hll] at hd
        exact hd
      · simp only [l, List.mem_map, List.mem_range] at ha
        obtain ⟨i, hi, rfl⟩ := ha
        exact (hq i hi).2.2.1
      · rw [K.sl]
        have := sum_A K sz Dt l 0 (fun i hi => by
          rw [hlg, Nat.zero_add]
          exact (hq i (by omega)).2.2.2 K)
        rw [hll, ← List.range_eq_range'] at this
        show (l.map sz).sum + 1 ≤ _
        omega
⟩
structure FOpn (P : Program) (fs : List Field) (off tot : Nat) {α : Type} (e : α → List D) (sz : α → Nat) (ok : α → Prop) : Prop where
  out : ∀ {H : Type} {enc : TypeId × Value → H} {w : World} {base : Nat} {spare : Nat → Bool} {held : Bool} {n : Nat} {cs : List Value} {xs : List (DataW H × List MemPlace)},
    cs.length = tot → xs.length = fs.length → (∀ (i : Nat) (f : Field), fs[i]? = some f → DataW.trod enc P w base spare held n f.type ((cs.drop f.offset).take (P.cellsOf f.type)) = xs[i]?) →
    ∃ a, All2 (DR (cm w)) (e a) (cs.drop off) ∧ ok a ∧ ∀ K : Blk H, sz a ≤ K.A (xs.map (·.1))
theorem arg_cell {P : Program} {t : TypeId} {u : TypeDesc} {α : Type} {f : α → D} {sz : α → Nat} {ok : α → Prop} (O : Opn P t (fun a => [f a]) sz ok) (hu : P.underlying t = some u) (hn : (match u with | .bool => true | .string => true | .int _ => true | .slice _ => true | _ => false) = true)
    {H : Type} {enc : TypeId × Value → H} {W : World} {r : Reach} {b0 base : Nat} {sp : Nat → Bool} {held : Bool} {v : Value} {d : DataW H} {ps : List MemPlace} (hval : Value.okWide P W r b0 t v) (h : DataW.Trod enc P W base sp held t v d ps) :
    ∃ a, VR (G0 W) [] (.c (.d (f a))) v ∧ ok a ∧ ∀ K : Blk H, sz a ≤ K.B d := by
  obtain ⟨fuel, h⟩ := h
  obtain ⟨a, h1, h2, h3⟩ := O.out h
  refine ⟨a, ?_, h2, h3⟩
  have hc : v.cells = #[v] := by
    unfold Value.okWide at hval
    cases v with
    | agg cs =>
      exfalso
      cases u <;> simp only [Bool.false_eq_true] at hn <;> simp [hu, Cell.okWide, Cell.ok] at hval
    | _ => rfl
  rw [hc] at h1
  cases h1 with
  | cons h t => exact h
open Go.RowKit in
theorem below_trodAll {H : Type} {enc : TypeId × Value → H} {P : Program} (hl : laidOutB P = true) {W W' : World} (hb : Below W.heap.size W W') : ∀ {ts : List TypeId} {vs : List Value} {ds : List (DataW H)} {ps : List MemPlace},
    (∀ t ∈ ts, P.readableRec t = true ∧ t < P.types.size) → (∀ x ∈ ps, x.block < W.heap.size) → DataW.TrodAll enc P W 0 (fun _ => true) true ts vs ds ps →
    DataW.TrodAll enc P W' 0 (fun b => decide (b < W.heap.size)) true ts vs ds ps := by
  intro ts
  induction ts with
  | nil => intro vs ds ps _ _ h; obtain ⟨rfl, rfl, rfl⟩ := trodAll_nil h; exact trodAll_mk0
  | cons t ts ih =>
    intro vs ds ps ht hlt h
    obtain ⟨v, vs', d, ds', p, q, rfl, rfl, rfl, h1, h2⟩ := trodAll_cons h
    have h0 := ht t (List.mem_cons_self ..)
    exact trodAll_cons_mk (Below.trod hl h0.1 h0.2 h1 hb (fun x hx => hlt x (List.mem_append_left _ hx))) (ih (fun t h => ht t (List.mem_cons_of_mem _ h)) (fun x hx => hlt x (List.mem_append_right _ hx)) h2)
end Go.Ab
end
section
set_option linter.unusedVariables false
set_option linter.unusedSimpArgs false
namespace Go.Ab
open Go
section
variable {α : Type} (f : α → List D)
variable {f} {n : Nat} (hf : ∀ x, (f x).length = n)
include hf
omit hf in
omit hf in
omit hf in
omit hf in
omit hf in
omit hf in
end
end Go.Ab
end
section
set_option linter.all false
set_option linter.unusedVariables false
set_option linter.unusedSimpArgs false
namespace Go.Ab
open Go
structure W (T : Prop) : Type where
  o : T
theorem Q {a b : Prop} (x : a) (y : b) : a ∧ b := ⟨x, y⟩
theorem lf {α : Type} {a b c : α} (h : b = c) (e : a = b) : a = c := e.trans h
theorem tnlt {i : Int} {n : Nat} (h : 0 ≤ i ∧ i < (n : Int)) : i.toNat < n := by omega
theorem tnl0 {n : Nat} (h : (0 : Int) < (n : Int)) : 0 < n := by omega
theorem tnl1 {n : Nat} (h : (1 : Int) < (n : Int)) : 1 < n := by omega
theorem tnl2 {n : Nat} (h : (2 : Int) < (n : Int)) : 2 < n := by omega
theorem tnl3 {n : Nat} (h : (3 : Int) < (n : Int)) : 3 < n := by omega
def setC := Q @List.length_nil.{0} (Q @Option.map_none.{0,0} (Q @List.take_nil.{0} (Q @List.drop_nil.{0} (Q @Option.isNone_some.{0} (Q @Bool.false_and (Q @Bool.false_eq_true (Q @List.all_nil.{0} (Q @List.getD_cons_zero.{0} (Q @List.getD_cons_succ.{0} (Q @List.map_cons.{0,0} (Q @List.map_nil.{0,0} (Q @List.take_length.{0} (Q @decide_true (Q @Bool.and_self (Q @Nat.zero_add (Q @Nat.sub_zero (Q @Nat.zero_mul (Q @Nat.sub_self (Q @not_false_eq_true (Q @Option.getD_some.{0} (Q @Option.getD_none.{0} (Q @if_false.{1} (Q @regD_none (Q @seqD_none (Q @blockD_none (Q @stepE_none (Q @loopK_none (@bodyD_none))))))))))))))))))))))))))))
theorem rx (c : Code) {o : Oper} {l : List Oper} (h : isRg c = true := by rfl) (ho : opsOf c = o :: l := by rfl) (E : Env) (f m : Nat) (st : St) :
    den E f m (callW E) itW c none st = regD (runOps E (callW E) (o :: l) (o :: l) st) := by rw [← ho]; exact rgN h m st
abbrev Sl := Nat → AV
noncomputable abbrev dn (E : Env) (f m : Nat) (c : Code) (sl : Sl) (h : Heap) := den E f m (callW E) itW c none ⟨sl, h⟩
noncomputable abbrev sq (E : Env) (f m : Nat) (c : Code) := seqD E f m (callW E) itW c
noncomputable abbrev lp (E : Env) (f m : Nat) (c : Code) (L : List (Nat × Co)) := loopF E f m (callW E) itW c L
abbrev dS (x : Bs) : D := .sc (.string (S x))
abbrev dB (x : Bool) : D := .sc (.bool x)
abbrev dI (x : Int) : D := .sc (.int .i64 x)
abbrev dU (x : Int) : D := .sc (.int .u64 x)
abbrev vd (x : D) : AV := .v (.c (.d x))
abbrev cd (x : D) : V1 := .c (.d x)
theorem go {p C T : Prop} (c : C) (t : T) (h : W C → W T → p := by
    intro yc yk
    try simp -implicitDefEqProofs only [yc.o, *, dn, sq, lp, dS, dB, dI, dU, vd, cd, setA, setB, setC, Nat.reduceEqDiff, Nat.reduceAdd, Nat.reduceLeDiff, Nat.reduceLT, Nat.reduceMul, Nat.reduceBEq, Nat.reduceSub, Nat.reducePow, Int.reduceEq, Int.reduceLE, Int.reduceLT, Int.reduceToNat, Int.reduceNegSucc, Int.reduceAdd, Int.reduceBEq, String.reduceBEq, reduceCtorEq, zE, ↓reduceIte]
    repeat' first
      | ((with_reducible refine brB (fun ya => ?_) (fun ya => ?_))
         all_goals try first | have yb : (_ : Nat) < _ := of_decide_eq_true ya | have yb : ¬ ((_ : Nat) < _) := of_decide_eq_false ya
         all_goals try simp -implicitDefEqProofs only [yc.o, *, dn, sq, lp, dS, dB, dI, dU, vd, cd, setA, setB, setC, Nat.reduceEqDiff, Nat.reduceAdd, Nat.reduceLeDiff, Nat.reduceLT, Nat.reduceMul, Nat.reduceBEq, Nat.reduceSub, Nat.reducePow, Int.reduceEq, Int.reduceLE, Int.reduceLT, Int.reduceToNat, Int.reduceNegSucc, Int.reduceAdd, Int.reduceBEq, String.reduceBEq, reduceCtorEq, zE, ↓reduceIte])
      | ((with_reducible refine brP (fun ya => ?_) (fun ya => ?_))
         rotate_left
         · rw [if_neg ya]; rfl
         try first | have yb := tnlt ya | have yb := tnl0 ya | have yb := tnl1 ya | have yb := tnl2 ya | have yb := tnl3 ya | have yb := tnlt (And.intro (by omega) ya) | have yb := of_decide_eq_true ya
         try simp -implicitDefEqProofs only [yc.o, *, dn, sq, lp, dS, dB, dI, dU, vd, cd, setA, setB, setC, Nat.reduceEqDiff, Nat.reduceAdd, Nat.reduceLeDiff, Nat.reduceLT, Nat.reduceMul, Nat.reduceBEq, Nat.reduceSub, Nat.reducePow, Int.reduceEq, Int.reduceLE, Int.reduceLT, Int.reduceToNat, Int.reduceNegSucc, Int.reduceAdd, Int.reduceBEq, String.reduceBEq, reduceCtorEq, zE, ↓reduceIte])
      | ((with_reducible refine brM (fun ya => ?_) (fun yr ya => ?_))
         · rw [ya]; rfl
         try simp -implicitDefEqProofs only [yc.o, *, dn, sq, lp, dS, dB, dI, dU, vd, cd, setA, setB, setC, Nat.reduceEqDiff, Nat.reduceAdd, Nat.reduceLeDiff, Nat.reduceLT, Nat.reduceMul, Nat.reduceBEq, Nat.reduceSub, Nat.reducePow, Int.reduceEq, Int.reduceLE, Int.reduceLT, Int.reduceToNat, Int.reduceNegSucc, Int.reduceAdd, Int.reduceBEq, String.reduceBEq, reduceCtorEq, zE, ↓reduceIte])
      | (apply lf
         (with_reducible first | apply yk.o | apply yk.o.1 | apply yk.o.2 | apply yk.o.2.1 | apply yk.o.2.2 | apply yk.o.2.2.1 | apply yk.o.2.2.2 | apply yk.o.2.2.2.1 | apply yk.o.2.2.2.2 | apply yk.o.2.2.2.2.1 | apply yk.o.2.2.2.2.2 | apply yk.o.2.2.2.2.2.1 | apply yk.o.2.2.2.2.2.2 | apply yk.o.2.2.2.2.2.2.1 | apply yk.o.2.2.2.2.2.2.2 | apply yk.o.2.2.2.2.2.2.2.1 | apply yk.o.2.2.2.2.2.2.2.2)
         all_goals try exact rfl
         all_goals first | exact rfl | assumption)
      | (with_reducible refine mi ?_)
      | ((cases yr with | inl yr => ?_ | inr yr => ?_)
         all_goals try simp -implicitDefEqProofs only [yc.o, *, dn, sq, lp, dS, dB, dI, dU, vd, cd, setA, setB, setC, Nat.reduceEqDiff, Nat.reduceAdd, Nat.reduceLeDiff, Nat.reduceLT, Nat.reduceMul, Nat.reduceBEq, Nat.reduceSub, Nat.reducePow, Int.reduceEq, Int.reduceLE, Int.reduceLT, Int.reduceToNat, Int.reduceNegSucc, Int.reduceAdd, Int.reduceBEq, String.reduceBEq, reduceCtorEq, zE, ↓reduceIte])
      | rfl
      | (rw [if_neg (by omega)]; rfl)) : p := h ⟨c⟩ ⟨t⟩
end Go.Ab
end
section
set_option linter.unusedVariables false
set_option linter.unusedSimpArgs false
namespace Go.Ab
open Go
end Go.Ab
end
section
set_option linter.unusedVariables false
set_option linter.unusedSimpArgs false
namespace Go.Ab
open Go
theorem enC_rep (n : Nat) : (List.replicate n [C.d (D.sc (Value.int .u8 ((0 : UInt8).toNat : Int)))]).flatten = enC (List.replicate n 0) := by
  induction n with
  | zero => rfl
  | succ n ih => rw [List.replicate_succ, List.flatten_cons, ih, List.replicate_succ]; rfl
def cpy (l : Bs) (off len : Nat) (src : Bs) : Bs := l.take off ++ (src.take len ++ l.drop (off + min src.length len))
theorem wr_enC : ∀ (l src : Bs) (off : Nat), off + src.length ≤ l.length → wr (enC l) off (enC src) = enC (l.take off ++ (src ++ l.drop (off + src.length)))
  | l, [], 0, _ => by cases l <;> simp [wr, enC]
  | l, [], off + 1, h => by
    cases l with
    | nil => simp at h
    | cons a l =>
      have ih := wr_enC l [] off (by simpa using h)
      simp only [enC, List.map_cons, List.map_nil, wr] at ih ⊢
      simp only [List.take_succ_cons, List.cons_append, List.map_cons, List.length_nil, Nat.add_zero, List.drop_succ_cons] at ih ⊢
      rw [ih]
  | [], c :: src, off, h => by simp at h
  | a :: l, c :: src, 0, h => by
    have ih := wr_enC l src 0 (by simpa using h)
    simp only [enC, List.map_cons, wr] at ih ⊢
    rw [ih]
    simp [Nat.add_comm]
  | a :: l, c :: src, off + 1, h => by
    have ih := wr_enC l (c :: src) off (by simp only [List.length_cons] at h ⊢; omega)
    simp only [enC, List.map_cons, wr] at ih ⊢
    rw [ih]
    simp only [List.take_succ_cons, List.cons_append, List.map_cons, List.map_append, List.length_cons]
    rw [show off + 1 + (src.length + 1) = off + (src.length + 1) + 1 by omega, List.drop_succ_cons]
theorem enB_flat (l : Bs) : ((enL enB l).flatten.map C.d) = enC l := by
  induction l with
  | nil => rfl
  | cons c l ih =>
    have e : enL enB (c :: l) = enB c :: enL enB l := rfl
    rw [e, List.flatten_cons, List.map_append, ih]; rfl
theorem u8L_en (l : Bs) : u8L (enL enB l) = some (l.map fun c => (c.toNat : Int)) := by
  induction l with
  | nil => rfl
  | cons c l ih =>
    have e : enL enB (c :: l) = [.sc (.int .u8 (c.toNat : Int))] :: enL enB l := rfl
    rw [e]; unfold u8L; rw [ih]; rfl
theorem bytesOf_nat (l : Bs) : Lib.bytesOf (l.map fun c => (c.toNat : Int)) = l := by
  unfold Lib.bytesOf
  rw [List.map_map]
  exact (List.map_congr_left fun c _ => by simp).trans (List.map_id l)
theorem pIndexB_lst (nl : Bool) (l : Bs) (c : UInt8) (hp : Heap) : pIndexB [.c (.d (.lst nl (enL enB l))), .c (.d (.sc (.int .u8 (c.toNat : Int))))] hp = some (.int .i64 (Lib.indexByte l c), hp) := by
  have h : bytesC hp (.d (.lst nl (enL enB l))) = some (l.map fun c => (c.toNat : Int)) := u8L_en l
  show Option.map (fun xs => (AV.int .i64 (Lib.indexByte (Lib.bytesOf xs) (c.toNat : Int).toNat.toUInt8), hp)) (bytesC hp _) = _
  rw [h, Option.map_some, bytesOf_nat]
  simp
def cpO (hp : Heap) (k off len : Nat) (src : Bs) : Option Ob → Option (V1 × Heap)
  | some (.cells cs) => if off + len ≤ cs.length then some (.c (.d (.sc (.int .i64 ((min src.length len : Nat) : Int)))), hp.set k (.cells (wr cs off (enC (src.take len))))) else none
  | _ => none
theorem copyA_b {P : Program} {t e : TypeId} (hu : P.underlying t = some (.slice e)) (hz : szP P e = some 1) (hp : Heap) (k off len : Nat) (cap : Option Nat) (src : Bs) :
    copyA P hp t (.slc k off 1 len cap) (enL enB src) = cpO hp k off len src hp[k]? := by
  unfold copyA cpO
  have ha : (enL enB src).all (fun x => x.length == 1) = true := enB_a src
  simp only [hu, hz, ha, Nat.lt_one_iff, Nat.zero_lt_one, true_and, and_self, if_true, Nat.mul_one, enL_length, enL_take, enB_flat]
  split <;> simp_all
theorem cpO_en (hp : Heap) (k off len : Nat) (src l : Bs) : cpO hp k off len src (some (.cells (enC l))) = if off + len ≤ l.length then some (.c (.d (.sc (.int .i64 ((min src.length len : Nat) : Int)))), hp.set k (.cells (enC (cpy l off len src)))) else none := by
  unfold cpO
  simp only [enC_length]
  by_cases h : off + len ≤ l.length
  · rw [if_pos h, if_pos h, wr_enC _ _ _ (by rw [List.length_take]; omega)]
    unfold cpy
    rw [List.length_take, Nat.min_comm]
  · rw [if_neg h, if_neg h]
theorem den_label_n {E : Env} {fn m : Nat} {call : Caller} {it} (l : Nat) (st : St) : den E fn m call it (.label l) none st = some (.normal, st) := rfl
theorem enC_drop (l : Bs) (n : Nat) : (enC l).drop n = enC (l.drop n) := by unfold enC; rw [List.map_drop]
theorem chunk_enDd (off n : Nat) (l : Bs) (h : off + n ≤ l.length) : chunk 1 n (enD ((l.drop off).take n)) = enL enB ((l.drop off).take n) := chunk_enD n (l.drop off) (by rw [List.length_drop]; omega)
theorem copyA_n {P : Program} {t e : TypeId} (hu : P.underlying t = some (.slice e)) (hz : szP P e = some 1) (hp : Heap) (k off len : Nat) (cap : Option Nat) :
    copyA P hp t (.slc k off 1 len cap) [] = cpO hp k off len [] hp[k]? := copyA_b hu hz hp k off len cap []
theorem chunk_enDf (l : Bs) : chunk 1 l.length (enD l) = enL enB l := by
  have := chunk_enD l.length l (Nat.le_refl _)
  rwa [List.take_length] at this
def ib_and (k : IntKind) (a b : Int) : Int := k.wrap (BitVec.ofInt k.bits a &&& BitVec.ofInt k.bits b).toNat
theorem ev_and (P : Program) (t : TypeId) (x y : Operand) (k : IntKind) (a b : Int) : evalS P (do eqGuard .and t x y (.int k a) (.int k b); binOp .and t (.int k a) (.int k b)) = some (.int k (ib_and k a b)) := by
  cases k <;> rfl
def zB (n : Nat) : Bs := List.replicate n 0
theorem zB_length (n : Nat) : (zB n).length = n := List.length_replicate
end Go.Ab
end
section
set_option linter.unusedVariables false
set_option linter.unusedSimpArgs false
namespace Go.Ab
open Go Go.ChangeShapes Go.WideShapes
end Go.Ab
end
section
set_option linter.unusedVariables false
set_option linter.unusedSimpArgs false
namespace Go.Ab
open Go
def oC : Option UInt8 → C
  | some b => .d (.sc (.int .u8 (b.toNat : Int)))
  | none => .any
def enW (L : List (Option UInt8)) : List C := L.map oC
theorem enW_length (L : List (Option UInt8)) : (enW L).length = L.length := List.length_map _
theorem enW_take (L : List (Option UInt8)) (n : Nat) : (enW L).take n = enW (L.take n) := by unfold enW; rw [List.map_take]
theorem enW_flat (L : List (Option UInt8)) : (enW L).flatMap C.refs = [] := by
  induction L with
  | nil => rfl
  | cons a L ih => cases a <;> simpa [enW, oC, C.refs] using ih
theorem enW_mapM (τ : Nat → Option Nat) (L : List (Option UInt8)) : (enW L).mapM (C.ren τ) = some (enW L) := by
  induction L with
  | nil => rfl
  | cons a L ih =>
    have : enW (a :: L) = oC a :: enW L := rfl
    rw [this, List.mapM_cons, ih]
    cases a <;> rfl
theorem pNoZero_n (n : Int) (hp : Heap) : pNoZero [.c (.d (.sc (.int .i64 n)))] hp = if 0 ≤ n ∧ n ≤ 16777216 then some (.v (.c (.slc hp.length 0 1 n.toNat none)), hp ++ [.cells (enW (List.replicate n.toNat none))]) else none := by
  unfold pNoZero
  have h : (2 : Int) ^ 24 = 16777216 := by decide
  have e : enW (List.replicate n.toNat none) = List.replicate n.toNat .any := by unfold enW; rw [List.map_replicate]; rfl
  simp only [h, e]
def cpyO (L : List (Option UInt8)) (off len : Nat) (src : Bs) : List (Option UInt8) := L.take off ++ ((src.take len).map some ++ L.drop (off + min src.length len))
theorem wr_enO : ∀ (L : List (Option UInt8)) (src : Bs) (off : Nat), off + src.length ≤ L.length → wr (enW L) off (enC src) = enW (L.take off ++ (src.map some ++ L.drop (off + src.length)))
  | [], src, off, h => by
    cases src with
    | nil => cases off <;> rfl
    | cons b s => exact absurd h (by simp)
  | a :: L, [], 0, h => rfl
  | a :: L, b :: src, 0, h => by
    have ih := wr_enO L src 0 (by simp at h ⊢; omega)
    have e1 : enW (a :: L) = oC a :: enW L := rfl
    have e2 : enC (b :: src) = oC (some b) :: enC src := rfl
    rw [e1, e2]
    show oC (some b) :: wr (enW L) 0 (enC src) = _
    rw [ih]
    simp [enW]
  | a :: L, src, off + 1, h => by
    have ih := wr_enO L src off (by simp at h; omega)
    have e1 : enW (a :: L) = oC a :: enW L := rfl
    rw [e1]
    show oC a :: wr (enW L) off (enC src) = _
    rw [ih]
    simp [enW, Nat.add_right_comm]
theorem cpO_o (hp : Heap) (k off len : Nat) (src : Bs) (L : List (Option UInt8)) : cpO hp k off len src (some (.cells (enW L))) = if off + len ≤ L.length then some (.c (.d (.sc (.int .i64 ((min src.length len : Nat) : Int)))), hp.set k (.cells (enW (cpyO L off len src)))) else none := by
  unfold cpO
  simp only [enW_length]
  by_cases h : off + len ≤ L.length
  · rw [if_pos h, if_pos h, wr_enO _ _ _ (by rw [List.length_take]; omega)]
    unfold cpyO
    rw [List.length_take, Nat.min_comm]
  · rw [if_neg h, if_neg h]
theorem cpyO_nil (L : List (Option UInt8)) (off len : Nat) : cpyO L off len [] = L := by
  unfold cpyO
  simp
def unO (L : List (Option UInt8)) : Option Bs := L.mapM id
theorem toD_o (L : List (Option UInt8)) : (enW L).mapM C.toD = (unO L).map enD := by
  unfold unO
  induction L with
  | nil => rfl
  | cons a L ih =>
    have : enW (a :: L) = oC a :: enW L := rfl
    rw [this, List.mapM_cons, List.mapM_cons, ih]
    cases a with
    | none => rfl
    | some b => cases h : L.mapM id <;> rfl
theorem unO_some {L : List (Option UInt8)} {l : Bs} (h : unO L = some l) : L = l.map some := by
  unfold unO at h
  induction L generalizing l with
  | nil => cases h; rfl
  | cons a L ih =>
    rw [List.mapM_cons] at h
    cases a with
    | none => cases h
    | some b =>
      cases hL : L.mapM id with
      | none => rw [hL] at h; cases h
      | some r => rw [hL] at h; cases h; rw [ih hL]; rfl
theorem unO_map (l : Bs) : unO (l.map some) = some l := by
  unfold unO
  induction l with
  | nil => rfl
  | cons a l ih => rw [List.map_cons, List.mapM_cons, ih]; rfl
theorem chunk_enO {L : List (Option UInt8)} {n : Nat} {l : Bs} (h : unO (L.take n) = some l) (hn : n ≤ L.length) : chunk 1 n (enD l) = enL enB l := by
  have e := congrArg List.length (unO_some h)
  rw [List.length_take, List.length_map] at e
  have : n = l.length := by omega
  rw [this]
  exact chunk_enDf l
end Go.Ab
end
