/- Functions without a body: new memory of whatever bytes; bytes counted. -/
import Derived.Test.YteenmbcmgcnkmaaGreatDoorAb28
import Derived.Lib.MakeNoZero
import Derived.Lib.Bytealg
import Derived.Lib.BytesEntry
import Derived.Laws.Externs
set_option linter.unusedVariables false
set_option linter.unusedSimpArgs false
namespace Go.Ab
open Go

/-- internal/bytealg.MakeNoZero -/
def pNoZero : List V1 → Heap → Option (AV × Heap) := fun args hp => match args with
  | [.c (.d (.sc (.int .i64 n)))] => if 0 ≤ n ∧ n ≤ 2 ^ 24 then some (.v (.c (.slc hp.length 0 1 n.toNat none)), hp ++ [.cells (List.replicate n.toNat .any)]) else none
  | _ => none

theorem digits_one : ∀ (n t : Nat) (acc : Array Value), (∀ (i : Nat) v, acc[i]? = some v → v.oneCell' = true) → ∀ (i : Nat) v, (Extern.BytealgMakeNoZero.digits n t acc)[i]? = some v → v.oneCell' = true
  | 0, _, _, h => h
  | n + 1, t, acc, h => by
    rw [Extern.BytealgMakeNoZero.digits]
    refine digits_one n _ _ fun i v hv => ?_
    rw [Array.getElem?_push] at hv
    split at hv
    · cases hv; rfl
    · exact h i v hv

theorem makeNoZero_run {P : Program} (w : World) (ps : Array TypeId) (t e : TypeId) (ht : P.underlying t = some (.slice e)) (n : Nat) (hn : n ≤ 281474976710656) :
    ∃ cs : Array Value, (Extern.BytealgMakeNoZero.makeNoZero ps #[t] #[.int .i64 n]).run P w = .ok (.slice (some ⟨w.heap.size, 0, none⟩) n cs.size) (w.drew.drew.alloc (.cells cs e)) ∧ n ≤ cs.size ∧ ∀ (i : Nat) v, cs[i]? = some v → v.oneCell' = true := by
  have hdef : Extern.BytealgMakeNoZero.makeNoZero ps #[t] #[.int .i64 n] =
      (do
        let .slice elem ← underlying t | stuck "bytealg.MakeNoZero: slice type expected"
        if (n : Int) < 0 || (n : Int) > 2 ^ 48 then runtimePanic (.error "makeslice: len out of range")
        let cap ← choose (.appendCap (n : Int).toNat 0 elem)
        askRoom cap
        let bytes ← choose (.extern "internal/bytealg.MakeNoZero.bytes" 0)
        let a ← newRow elem (Extern.BytealgMakeNoZero.digits cap bytes #[])
        pure (.slice (some a) (n : Int).toNat cap)) := rfl
  refine ⟨Extern.BytealgMakeNoZero.digits (grownCap w n 0 e) ((Question.extern "internal/bytealg.MakeNoZero.bytes" 0).cut (w.tape (w.drawn + 1) (.extern "internal/bytealg.MakeNoZero.bytes" 0))) #[], ?_, ?_, ?_⟩
  · rw [hdef]
    have h1 : ¬ (n : Int) < 0 := by omega
    have h2 : ¬ (281474976710656 : Int) < (n : Int) := by omega
    simp [run_underlying ht, h1, h2, Question.forced, newRow, Lib.size_digits, grownCap]
  · rw [Lib.size_digits]
    simpa using grownCap_ge w n 0 e
  · exact digits_one _ _ _ fun i v hv => by simp at hv

theorem pNoZero_ok {E : Env} {f : FuncId} {fn : Func} {ps : Array TypeId} {t e : TypeId} (ht : E.P.underlying t = some (.slice e))
    (hc : ∀ (args : Array Value) (w : World), (callFunc f args).run E.P w = ((Extern.BytealgMakeNoZero.makeNoZero ps #[t] args).run E.P w).andThen fun v w' => .ok (.value v) w') : ExtP E f pNoZero := by
  intro args hp v h' hp' G w vs hb hw ha
  unfold pNoZero at hp'
  split at hp'
  case h_2 => cases hp'
  rename_i n
  split at hp'
  case isFalse => cases hp'
  rename_i hn
  simp only [Option.some.injEq, Prod.mk.injEq] at hp'
  obtain ⟨rfl, rfl⟩ := hp'
  obtain ⟨v1, h1, rfl⟩ : ∃ a, VR G hp (.c (.d (.sc (.int .i64 n)))) a ∧ vs = [a] := by
    cases ha with | cons h t => cases t; exact ⟨_, h, rfl⟩
  have h1' : DR G.μ (.sc (.int .i64 n)) v1 := h1
  obtain rfl : v1 = .int .i64 n := by cases h1'; rfl
  obtain ⟨m, rfl⟩ : ∃ m : Nat, n = m := ⟨n.toNat, by omega⟩
  obtain ⟨cs, hrun, hle, hone⟩ := makeNoZero_run (P := E.P) w ps t e ht m (by omega)
  obtain ⟨G', hw', sn, hi, htop⟩ := new_room (w' := w.drew.drew.alloc (.cells cs e)) (cs := List.replicate m .any) (vs := cs) (t := e) (fz := (0, 0)) (sz := 1) (cap := cs.size) hw rfl (fz0 _) (by rw [List.length_replicate]; exact hle) (by omega)
    (fun i c v hc hv => by
      rw [List.getElem?_replicate] at hc
      split at hc
      · cases hc; exact hone i v hv
      · cases hc)
  refine ⟨.slice (some ⟨w.heap.size, 0, none⟩) m cs.size, w.drew.drew.alloc (.cells cs e), G', ?_, ?_, hw', sn⟩
  · show (callFunc f #[Value.int .i64 (m : Int)]).run E.P w = _
    rw [hc, hrun]
    rfl
  · exact ⟨w.heap.size, cs.size, 0, hi, by simp, by simpa using hle, fun c' h => (by cases h), fun _ => rfl, fun _ _ => .inr (by show 0 + cs.size * 1 ≤ _; rw [htop]; omega)⟩

/-- internal/bytealg.CountString -/
def eCount : List Value → Option Value := fun vs => match vs with
  | [.string s, .int .u8 c] => some (.int .i64 (Lib.countByte s.data.toList c.toNat.toUInt8))
  | _ => none
theorem eCount_ok {P : Program} {f : FuncId} (hc : ∀ (args : Array Value) (w : World), (callFunc f args).run P w = ((Extern.BytealgCount.count args).run P w).andThen fun v w' => .ok (.value v) w')
    (vs : List Value) (r : Value) (h : eCount vs = some r) (w : World) : (callFunc f vs.toArray).run P w = .ok (.value r) w := by
  unfold eCount at h
  split at h
  · cases h
    rw [hc]
    rw [Lib.run_countString]
    rfl
  · cases h

/-- internal/bytealg.IndexByteString -/
def eIndexByte : List Value → Option Value := fun vs => match vs with
  | [.string s, .int .u8 c] => some (.int .i64 (Lib.indexByte s.data.toList c.toNat.toUInt8))
  | _ => none
theorem eIndexByte_ok {P : Program} {f : FuncId} (hc : ∀ (args : Array Value) (w : World), (callFunc f args).run P w = ((Extern.BytealgIndexByte.indexByte args).run P w).andThen fun v w' => .ok (.value v) w')
    (vs : List Value) (r : Value) (h : eIndexByte vs = some r) (w : World) : (callFunc f vs.toArray).run P w = .ok (.value r) w := by
  unfold eIndexByte at h
  split at h
  · cases h
    rw [hc]
    rw [Lib.run_indexByteString]
    rfl
  · cases h

def u8L : List (List D) → Option (List Int)
  | [] => some []
  | [.sc (.int .u8 n)] :: r => (u8L r).map (n :: ·)
  | _ => none
theorem u8L_get : ∀ {cs : List (List D)} {xs : List Int}, u8L cs = some xs → xs.length = cs.length ∧ ∀ (i : Nat), i < xs.length → cs[i]? = some [.sc (.int .u8 (xs.getD i 0))] := by
  intro cs
  induction cs with
  | nil => intro xs h; cases h; exact ⟨rfl, fun i hi => absurd hi (Nat.not_lt_zero _)⟩
  | cons c cs ih =>
    intro xs h
    unfold u8L at h
    split at h
    · rename_i e; cases e
    · rename_i n r e
      cases e
      obtain ⟨ys, hy, rfl⟩ := Option.map_eq_some_iff.1 h
      obtain ⟨h1, h2⟩ := ih hy
      refine ⟨by simp [h1], fun i hi => ?_⟩
      cases i with
      | zero => rfl
      | succ i => simpa using h2 i (by simpa using hi)
    · cases h
/-- the bytes that a slice shows -/
def bytesC (hp : Heap) : C → Option (List Int)
  | .slc k off _ len _ => bytesAtO hp k off len
  | x => x.list.bind fun p => u8L p.2
theorem bytesC_ok {G : Gh} {hp : Heap} {w : World} {x : C} {xs : List Int} {v : Value} (hw : WR G hp w) (h : bytesC hp x = some xs) (r : CR G hp x v) :
    ∃ a cap, v = .slice a xs.length cap ∧ (xs = [] ∨ ∃ b off, a = some ⟨b, off, none⟩ ∧ ∀ i, i < xs.length → w.cell? ⟨b, off + i, none⟩ = some (.int .u8 (xs.getD i 0))) := by
  have other : ∀ nl es, x.list = some (nl, es) → (x.list.bind fun p => u8L p.2) = some xs → ∃ a cap, v = .slice a xs.length cap ∧ (xs = [] ∨ ∃ b off, a = some ⟨b, off, none⟩ ∧ ∀ i, i < xs.length → w.cell? ⟨b, off + i, none⟩ = some (.int .u8 (xs.getD i 0))) := by
    intro nl es hl h
    rw [hl] at h
    obtain ⟨hlen, hget⟩ := u8L_get (show u8L es = some xs from h)
    obtain ⟨ad, cap, sz, vs, rfl, h1, h2, h3, hsp, h4, h5, h6⟩ := DR.inv (list_dr hl r)
    refine ⟨ad, cap, by rw [hlen], ?_⟩
    cases ad with
    | none => exact .inl (List.eq_nil_of_length_eq_zero (by have := h3 rfl; omega))
    | some ad =>
      obtain ⟨b, o, sp⟩ := ad
      by_cases hne : es = []
      · exact .inl (List.eq_nil_of_length_eq_zero (by rw [hlen, hne]; rfl))
      have e : sp = none := hsp hne _ rfl
      subst e
      refine .inr ⟨b, o, rfl, fun i hi => ?_⟩
      have he := hget i hi
      obtain ⟨b', o', e1, e2⟩ := h6 i 0 _ _ he rfl
      cases e1
      have hs : sz = 1 := (h4 _ (List.mem_of_getElem? he)).symm
      subst hs
      have hd := h5 i 0 _ _ he rfl
      have h7 := hw.mu _ _ _ e2
      rw [show o + i * 1 + 0 = o + i by omega] at h7
      rw [h7]
      generalize vs i 0 = z at hd
      cases hd
      rfl
  cases x with
  | slc k off sz len cap =>
    obtain ⟨b, c, off', hib, rfl, hlc, hcap, hoff, _⟩ := r
    obtain ⟨hl, hcell⟩ := bytesAtO_ok hw h hib
    subst hl
    refine ⟨_, c, rfl, .inr ⟨b, off', rfl, fun i hi => ?_⟩⟩
    have : off' = off := hoff (by omega)
    subst this
    exact hcell i hi
  | d x => cases x with
    | sc v => simp [bytesC, C.list] at h
    | lst nl es => exact other _ _ rfl h
  | own nl es k => exact other _ _ rfl h
  | _ => simp [bytesC, C.list] at h
/-- internal/bytealg.IndexByte -/
def pIndexB : List V1 → Heap → Option (AV × Heap) := fun args hp => match args with
  | [.c x, .c (.d (.sc (.int .u8 c)))] => (bytesC hp x).map fun xs => (.int .i64 (Lib.indexByte (Lib.bytesOf xs) c.toNat.toUInt8), hp)
  | _ => none
theorem pIndexB_ok {E : Env} {f : FuncId} (hc : ∀ (args : Array Value) (w : World), (callFunc f args).run E.P w = ((Extern.BytealgIndexByte.indexByte args).run E.P w).andThen fun v w' => .ok (.value v) w') : ExtP E f pIndexB := by
  intro args hp v h' hp' G w vs hb hw ha
  unfold pIndexB at hp'
  split at hp'
  case h_2 => cases hp'
  rename_i x c
  obtain ⟨xs, hx, h⟩ := Option.map_eq_some_iff.1 hp'
  cases h
  obtain ⟨v1, r1, h1, t1, rfl⟩ : ∃ a l, VR G hp (.c x) a ∧ All2 (VR G hp) [.c (.d (.sc (.int .u8 c)))] l ∧ vs = a :: l := by
    cases ha with | cons h t => exact ⟨_, _, h, t, rfl⟩
  obtain ⟨v2, h2, rfl⟩ : ∃ a, VR G hp (.c (.d (.sc (.int .u8 c)))) a ∧ r1 = [a] := by
    cases t1 with | cons h t => cases t; exact ⟨_, h, rfl⟩
  have h2' : DR G.μ (.sc (.int .u8 c)) v2 := h2
  obtain rfl : v2 = .int .u8 c := by cases h2'; rfl
  obtain ⟨a, cap, rfl, hcase⟩ := bytesC_ok hw hx h1
  refine ⟨_, w, G, ?_, .sc (.int .i64 (Lib.indexByte (Lib.bytesOf xs) c.toNat.toUInt8)) rfl, hw, Sn.refl _ _ _⟩
  show (callFunc f #[.slice a xs.length cap, .int .u8 c]).run E.P w = _
  rw [hc]
  rcases hcase with rfl | ⟨b, off, rfl, hcell⟩
  · cases a with
    | none => rw [Lib.run_indexByteNil]; rfl
    | some a =>
      have hs : (Extern.BytealgIndexByte.indexByte #[.slice (some a) 0 cap, .int .u8 c]).run E.P w = .ok (.int .i64 (-1)) w := Lib.run_indexByteString (P := E.P) .empty c w
      rw [show ([] : List Int).length = 0 from rfl, hs]
      rfl
  · rw [Lib.run_indexByteSlice w b off xs.length cap xs rfl hcell]
    rfl
end Go.Ab
