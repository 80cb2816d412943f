/- Texts: bytes, tokens, blanks, small letters: what the program's and the document's functions compute. -/
import Derived.Test.YtcjkhdkfdnjhaaaDoorPBF
import Derived.Test.YtcjkhdkfdnjhaaaDoorFF2
set_option linter.unusedVariables false
set_option linter.unusedSimpArgs false
set_option linter.unnecessarySimpa false
open Go Go.Ab Go.Proofs Go.Proofs.YtcjkhdkfdnjhaaaDoor
namespace Go.Ab

theorem byAll {P : UInt8 → Prop} [DecidablePred P] (h : ((List.range 256).all fun n => decide (P (UInt8.ofNat n))) = true) (c : UInt8) : P c := by
  have := List.all_eq_true.1 h c.toNat (List.mem_range.2 c.toNat_lt)
  have e := of_decide_eq_true this
  have : UInt8.ofNat c.toNat = c := by simp
  rwa [this] at e
theorem drop_cons {l : Bs} {i : Nat} (h : i < l.length) : l.drop i = l.getD i 0 :: l.drop (i + 1) := by
  rw [List.drop_eq_getElem_cons h, List.getD_eq_getElem?_getD, List.getElem?_eq_getElem h, Option.getD_some]
/-- a loop that computes a function of its state -/
theorem iter_g {σ β : Type} {f : σ → Option (σ ⊕ β)} (I : σ → Prop) (μ : σ → Nat) (g : σ → Option β)
    (h : ∀ s, I s → (∃ t, f s = some (.inl t) ∧ I t ∧ μ t < μ s ∧ g t = g s) ∨ f s = (g s).map .inr) (s : σ) (hs : I s) : iter f s = g s := by
  refine iter_to (fun t => I t ∧ g t = g s) μ (g s) ?_ s ⟨hs, rfl⟩
  rintro t ⟨ht, e⟩
  rcases h t ht with ⟨u, h1, h2, h3, h4⟩ | h1
  · exact .inl ⟨u, h1, ⟨h2, h4.trans e⟩, h3⟩
  · exact .inr (by rw [h1, e])

def signsL : Bs := [33, 35, 36, 37, 38, 39, 42, 43, 45, 46, 94, 95, 96, 124, 126]
def tokB (c : UInt8) : Bool := decide (97 ≤ c ∧ c ≤ 122) || decide (65 ≤ c ∧ c ≤ 90) || decide (48 ≤ c ∧ c ≤ 57) || signsL.contains c
def shB (c : UInt8) : Bool := c == 9 || (decide (32 ≤ c) && !(c == 127))
def lowB (c : UInt8) : UInt8 := if 65 ≤ c ∧ c ≤ 90 then c + 32 else c
def tokL (s : Bs) : Bool := !s.isEmpty && s.all tokB
def lowL (s : Bs) : Bs := s.map lowB
theorem m31_eq : ∀ c, m31 c = some (tokB c) := byAll (by decide +kernel)
theorem m33_eq : ∀ c, m33 c = some (shB c) := byAll (by decide +kernel)
theorem m34_eq : ∀ c, m34 c = some (shB c) := byAll (by decide +kernel)
theorem l53_eq (z : Bool) (s : Bs) (hs : s.length < 2 ^ 60) : ∃ r, m53 z s = some r ∧ decide (0 ≤ r) = s.any (fun c => !tokB c) := by
  unfold m53 l53_6
  refine iter_post (fun (x : Bool × List UInt8 × Int × Int) => x.2.1 = s ∧ x.2.2.1 = s.length ∧ 0 ≤ x.2.2.2 ∧ x.2.2.2 ≤ s.length ∧ (s.drop x.2.2.2.toNat).any (fun c => !tokB c) = s.any (fun c => !tokB c)) (fun (x : Bool × List UInt8 × Int × Int) => ((s.length : Int) - x.2.2.2).toNat) _ ?_ _ ⟨rfl, rfl, by dsimp only; omega, by dsimp only; omega, rfl⟩
  rintro ⟨z, s', n, i⟩ hI
  dsimp only at hI ⊢
  obtain ⟨rfl, rfl, h0, h1, h2⟩ := hI
  unfold s53_6 m42
  by_cases c : i < s'.length
  · have hd := drop_cons (l := s') (i := i.toNat) (by omega)
    rw [hd] at h2
    rw [if_pos (by simpa using c), if_pos ⟨h0, c⟩, show s'.getD i.toNat default = s'.getD i.toNat 0 from rfl, m31_eq]
    simp only [Option.bind_some]
    cases e : tokB (s'.getD i.toNat 0)
    · right
      refine ⟨i, by simp, ?_⟩
      rw [← h2, List.any_cons, e]
      simp [h0]
    · left
      rw [List.any_cons, e] at h2
      refine ⟨(z, s', s'.length, i + 1), by simp [w64_eq (i + 1) (by omega) (by omega)], ⟨rfl, rfl, by dsimp only; omega, by dsimp only; omega, ?_⟩, by dsimp only; omega⟩
      dsimp only
      rw [show (i + 1).toNat = i.toNat + 1 by omega, ← h2]
      simp
  · right
    refine ⟨-1, by rw [if_neg (by simpa using c)]; rfl, ?_⟩
    rw [← h2, List.drop_eq_nil_of_le (by omega)]
    rfl
theorem l53a_eq (z : Bool) (s : Bs) (hs : s.length < 2 ^ 60) : ∃ r, m53a z s = some r ∧ decide (0 ≤ r) = s.any (fun c => !shB c) := by
  unfold m53a l53a_6
  refine iter_post (fun (x : Bool × List UInt8 × Int × Int) => x.2.1 = s ∧ x.2.2.1 = s.length ∧ 0 ≤ x.2.2.2 ∧ x.2.2.2 ≤ s.length ∧ (s.drop x.2.2.2.toNat).any (fun c => !shB c) = s.any (fun c => !shB c)) (fun (x : Bool × List UInt8 × Int × Int) => ((s.length : Int) - x.2.2.2).toNat) _ ?_ _ ⟨rfl, rfl, by dsimp only; omega, by dsimp only; omega, rfl⟩
  rintro ⟨z, s', n, i⟩ hI
  dsimp only at hI ⊢
  obtain ⟨rfl, rfl, h0, h1, h2⟩ := hI
  unfold s53a_6 m42a
  by_cases c : i < s'.length
  · have hd := drop_cons (l := s') (i := i.toNat) (by omega)
    rw [hd] at h2
    rw [if_pos (by simpa using c), if_pos ⟨h0, c⟩, show s'.getD i.toNat default = s'.getD i.toNat 0 from rfl, m33_eq]
    simp only [Option.bind_some]
    cases e : shB (s'.getD i.toNat 0)
    · right
      refine ⟨i, by simp, ?_⟩
      rw [← h2, List.any_cons, e]
      simp [h0]
    · left
      rw [List.any_cons, e] at h2
      refine ⟨(z, s', s'.length, i + 1), by simp [w64_eq (i + 1) (by omega) (by omega)], ⟨rfl, rfl, by dsimp only; omega, by dsimp only; omega, ?_⟩, by dsimp only; omega⟩
      dsimp only
      rw [show (i + 1).toNat = i.toNat + 1 by omega, ← h2]
      simp
  · right
    refine ⟨-1, by rw [if_neg (by simpa using c)]; rfl, ?_⟩
    rw [← h2, List.drop_eq_nil_of_le (by omega)]
    rfl
theorem any_not (s : Bs) (p : UInt8 → Bool) : (!(s.any fun c => !p c)) = s.all p := by
  induction s with
  | nil => rfl
  | cons c s ih => simp [List.any_cons, List.all_cons, ← ih]
theorem m10_eq (s : Bs) (hs : s.length < 2 ^ 60) : m10 s = some (tokL s) := by
  unfold m10 m30 m41 tokL
  obtain ⟨r, h1, h2⟩ := l53_eq false s hs
  rw [h1]
  cases s with
  | nil => rfl
  | cons c s =>
    rw [if_neg (by simp)]
    simp only [Option.bind_some, h2, any_not]
    rfl
theorem m12_eq (s : Bs) (hs : s.length < 2 ^ 60) : m12 s = some (s.all shB) := by
  unfold m12 m30a m41a
  obtain ⟨r, h1, h2⟩ := l53a_eq false s hs
  rw [h1]
  simp only [Option.bind_some, h2, any_not]
theorem m13_eq (s : Bs) (hs : s.length < 2 ^ 60) : m13 s = some (s.all shB) := by
  unfold m13 l13_6
  refine (iter_g (fun (x : Bs × Int) => x.1 = s ∧ 0 ≤ x.2 ∧ x.2 ≤ s.length) (fun (x : Bs × Int) => ((s.length : Int) - x.2).toNat) (fun (x : Bs × Int) => some ((s.drop x.2.toNat).all shB)) ?_ (s, 0) ⟨rfl, by dsimp only; omega, by dsimp only; omega⟩).trans (by simp)
  rintro ⟨s', i⟩ hI
  dsimp only at hI ⊢
  obtain ⟨rfl, h0, h1⟩ := hI
  unfold s13_6
  by_cases c : i < s'.length
  · have hd := drop_cons (l := s') (i := i.toNat) (by omega)
    rw [if_pos (by simpa using c), if_pos ⟨h0, c⟩, m34_eq, hd, List.all_cons]
    simp only [Option.bind_some]
    cases e : shB (s'.getD i.toNat 0)
    · right; simp
    · left
      exact ⟨(s', i + 1), by simp [w64_eq (i + 1) (by omega) (by omega)], ⟨rfl, by dsimp only; omega, by dsimp only; omega⟩, by dsimp only; omega, by dsimp only; rw [show (i + 1).toNat = i.toNat + 1 by omega]; simp⟩
  · right
    rw [if_neg (by simpa using c), List.drop_eq_nil_of_le (by omega)]
    rfl
/-! ### Token, as the document has it -/
theorem l11_25_eq {s : Bs} {i : Int} {c : UInt8} {b : Bool} : l11_25 s signsL i c b 0 = j11_36 s signsL i (b || signsL.contains c) := by
  unfold l11_25
  refine (iter_g (fun (x : Bs × Bs × Int × UInt8 × Bool × Int) => x.1 = s ∧ x.2.1 = signsL ∧ x.2.2.1 = i ∧ x.2.2.2.1 = c ∧ 0 ≤ x.2.2.2.2.2 ∧ x.2.2.2.2.2 ≤ 15) (fun (x : Bs × Bs × Int × UInt8 × Bool × Int) => (15 - x.2.2.2.2.2).toNat) (fun (x : Bs × Bs × Int × UInt8 × Bool × Int) => j11_36 s signsL i (x.2.2.2.2.1 || (signsL.drop x.2.2.2.2.2.toNat).contains c)) ?_ _ ⟨rfl, rfl, rfl, rfl, by dsimp only; omega, by dsimp only; omega⟩).trans rfl
  rintro ⟨s', sg, i', c', b', k⟩ hI
  dsimp only at hI ⊢
  obtain ⟨rfl, rfl, rfl, rfl, h0, h1⟩ := hI
  unfold s11_25 j11_35
  have hl : (signsL.length : Int) = 15 := rfl
  by_cases d : k < 15
  · left
    have hd := drop_cons (l := signsL) (i := k.toNat) (by have : signsL.length = 15 := rfl; omega)
    rw [hl, if_pos (by simpa using d)]
    rw [w64_eq (k + 1) (by omega) (by omega)]
    cases b'
    · rw [if_neg (by decide), if_pos ⟨h0, d⟩]
      refine ⟨_, rfl, ⟨rfl, rfl, rfl, rfl, by dsimp only; omega, by dsimp only; omega⟩, by dsimp only; omega, ?_⟩
      dsimp only
      rw [hd, List.contains_cons, show (k + 1).toNat = k.toNat + 1 by omega, Bool.false_or, Bool.beq_comm (a := c')]
    · rw [if_pos rfl]
      refine ⟨_, rfl, ⟨rfl, rfl, rfl, rfl, by dsimp only; omega, by dsimp only; omega⟩, by dsimp only; omega, ?_⟩
      simp
  · right
    rw [hl, if_neg (by simpa using d), List.drop_eq_nil_of_le (by have : signsL.length = 15 := rfl; omega)]
    simp
theorem s11_eq {s : Bs} {i : Int} (h0 : 0 ≤ i) (h1 : i < s.length) (hs : s.length < 2 ^ 60) : s11_8 s signsL i = if tokB (s.getD i.toNat 0) = true then some (.inl (s, signsL, i + 1)) else some (.inr false) := by
  have key : s11_8 s signsL i = j11_36 s signsL i (tokB (s.getD i.toNat 0)) := by
    unfold s11_8 j11_21
    rw [if_pos (by simpa using h1), if_pos ⟨h0, h1⟩]
    simp only [l11_25_eq]
    generalize s.getD i.toNat 0 = c
    unfold tokB
    by_cases a1 : (97 : UInt8) ≤ c <;> by_cases a2 : c ≤ (122 : UInt8) <;> by_cases a3 : (65 : UInt8) ≤ c <;> by_cases a4 : c ≤ (90 : UInt8) <;> by_cases a5 : (48 : UInt8) ≤ c <;> by_cases a6 : c ≤ (57 : UInt8) <;> simp [a1, a2, a3, a4, a5, a6]
  rw [key]
  unfold j11_36
  rw [w64_eq (i + 1) (by omega) (by omega)]
theorem m11_eq (s : Bs) (hs : s.length < 2 ^ 60) : m11 s = some (tokL s) := by
  unfold m11
  rw [show ([33, 35, 36, 37, 38, 39, 42, 43, 45, 46, 94, 95, 96, 124, 126] : Bs) = signsL from rfl]
  unfold l11_8
  refine (iter_g (fun (x : Bs × Bs × Int) => x.1 = s ∧ x.2.1 = signsL ∧ 0 ≤ x.2.2 ∧ x.2.2 ≤ s.length) (fun (x : Bs × Bs × Int) => ((s.length : Int) - x.2.2).toNat) (fun (x : Bs × Bs × Int) => some (!s.isEmpty && (s.drop x.2.2.toNat).all tokB)) ?_ (s, signsL, 0) ⟨rfl, rfl, by dsimp only; omega, by dsimp only; omega⟩).trans (by simp [tokL])
  rintro ⟨s', sg, i⟩ hI
  dsimp only at hI ⊢
  obtain ⟨rfl, rfl, h0, h1⟩ := hI
  by_cases c : i < s'.length
  · have hd := drop_cons (l := s') (i := i.toNat) (by omega)
    have hne : s'.isEmpty = false := by cases s'; simp at c; omega; rfl
    rw [s11_eq h0 c hs, hd, List.all_cons]
    cases e : tokB (s'.getD i.toNat 0)
    · right; simp [hne]
    · left
      exact ⟨(s', signsL, i + 1), by simp, ⟨rfl, rfl, by dsimp only; omega, by dsimp only; omega⟩, by dsimp only; omega, by dsimp only; rw [show (i + 1).toNat = i.toNat + 1 by omega]; simp⟩
  · right
    unfold s11_8 j11_44
    rw [if_neg (by simpa using c), List.drop_eq_nil_of_le (by omega)]
    cases s' <;> simp <;> omega

/-! ### small letters -/
theorem low_add (c : UInt8) (h : 65 ≤ c ∧ c ≤ 90) : c + 97 - 65 = c + 32 := by
  have : ∀ c : UInt8, c + 97 - 65 = c + 32 := byAll (by decide +kernel)
  exact this c
theorem set_take {l : Bs} {i : Nat} (h : i < l.length) (x : UInt8) : (l.set i x).take (i + 1) = l.take i ++ [x] := by
  rw [List.take_succ_eq_append_getElem (by simpa using h), List.take_set, List.set_eq_of_length_le (by simp; omega)]
  simp
theorem m16_eq (s : Bs) (hs : s.length < 2 ^ 60) : m16 s = some (lowL s) := by
  unfold m16 l16_8
  refine (iter_g (fun (x : Nat × Nat × Int × Int × List UInt8) => x.1 = s.length ∧ x.2.1 = s.length ∧ x.2.2.1 = s.length ∧ 0 ≤ x.2.2.2.1 ∧ x.2.2.2.1 ≤ s.length ∧ x.2.2.2.2.length = s.length) (fun (x : Nat × Nat × Int × Int × List UInt8) => ((s.length : Int) - x.2.2.2.1).toNat) (fun (x : Nat × Nat × Int × Int × List UInt8) => some (x.2.2.2.2.take x.2.2.2.1.toNat ++ lowL (x.2.2.2.2.drop x.2.2.2.1.toNat))) ?_ (s.length, s.length, s.length, 0, s) ⟨rfl, rfl, rfl, by dsimp only; omega, by dsimp only; omega, rfl⟩).trans (by simp)
  rintro ⟨b, t, n, i, h⟩ hI
  dsimp only at hI ⊢
  obtain ⟨rfl, rfl, rfl, h0, h1, h2⟩ := hI
  unfold s16_8
  by_cases c : i < s.length
  · left
    have hd := drop_cons (l := h) (i := i.toNat) (by omega)
    have key : j16_21 s.length i (h.getD i.toNat 0) s.length s.length i (decide (65 ≤ h.getD i.toNat 0) && decide (h.getD i.toNat 0 ≤ 90)) h = some (.inl (s.length, s.length, s.length, i + 1, h.set i.toNat (lowB (h.getD i.toNat 0)))) := by
      unfold j16_21 j16_24 lowB
      rw [w64_eq (i + 1) (by omega) (by omega)]
      by_cases hc : 65 ≤ h.getD i.toNat 0 ∧ h.getD i.toNat 0 ≤ 90
      · rw [if_pos (by simpa using hc), if_pos ⟨h0, c⟩, if_pos (by omega), if_pos hc, low_add _ hc]
      · rw [if_neg (by simpa using hc), if_neg hc]
        have : h.set i.toNat (h.getD i.toNat 0) = h := by
          apply List.ext_getElem?
          intro j
          rw [List.getElem?_set]
          split
          · rename_i e; subst e
            rw [if_pos (by omega), List.getD_eq_getElem?_getD, List.getElem?_eq_getElem (by omega)]
            rfl
          · rfl
        rw [this]
    refine ⟨(s.length, s.length, s.length, i + 1, h.set i.toNat (lowB (h.getD i.toNat 0))), ?_, ⟨rfl, rfl, rfl, by dsimp only; omega, by dsimp only; omega, by simpa using h2⟩, by dsimp only; omega, ?_⟩
    · rw [if_pos (by simpa using c), if_pos ⟨h0, c⟩, if_pos (by omega)]
      by_cases a : 65 ≤ h.getD i.toNat 0
      · simp only [a, decide_true, if_true, Bool.true_and] at key ⊢
        exact key
      · simp only [a, decide_false, Bool.false_eq_true, if_false, Bool.false_and] at key ⊢
        exact key
    · dsimp only
      rw [show (i + 1).toNat = i.toNat + 1 by omega, set_take (by omega), hd, List.drop_set_of_lt (by omega)]
      simp [lowL]
  · right
    have e : i.toNat = h.length := by omega
    unfold j16_25
    rw [if_neg (by simpa using c), if_pos (by omega), e, List.take_length, List.drop_length, ← h2, List.take_length]
    simp [lowL]
theorem m17_eq (s : Bs) (hs : s.length < 2 ^ 47) : m17 s = some (lowL s) := by
  unfold m17 l17_8
  refine (iter_g (fun (x : Bs × Bool × List UInt8 × Int) => x.1 = s ∧ 0 ≤ x.2.2.2 ∧ x.2.2.2 ≤ s.length ∧ x.2.2.1.length = x.2.2.2.toNat) (fun (x : Bs × Bool × List UInt8 × Int) => ((s.length : Int) - x.2.2.2).toNat) (fun (x : Bs × Bool × List UInt8 × Int) => some (x.2.2.1 ++ lowL (s.drop x.2.2.2.toNat))) ?_ (s, true, [], 0) ⟨rfl, by dsimp only; omega, by dsimp only; omega, rfl⟩).trans (by simp)
  rintro ⟨s', z, b, i⟩ hI
  dsimp only at hI ⊢
  obtain ⟨rfl, h0, h1, h2⟩ := hI
  unfold s17_8
  by_cases c : i < s'.length
  · left
    have hd := drop_cons (l := s') (i := i.toNat) (by omega)
    have key : j17_19 s' z b i (decide (65 ≤ s'.getD i.toNat 0) && decide (s'.getD i.toNat 0 ≤ 90)) = some (.inl (s', false, b ++ [lowB (s'.getD i.toNat 0)], i + 1)) := by
      unfold j17_19 j17_22 lowB
      rw [w64_eq (i + 1) (by omega) (by omega)]
      by_cases hc : 65 ≤ s'.getD i.toNat 0 ∧ s'.getD i.toNat 0 ≤ 90
      · rw [if_pos (by simpa using hc), if_pos ⟨h0, c⟩, if_pos (by omega), if_pos hc]
      · rw [if_neg (by simpa using hc), if_pos ⟨h0, c⟩, if_pos (by omega), if_neg hc]
    refine ⟨(s', false, b ++ [lowB (s'.getD i.toNat 0)], i + 1), ?_, ⟨rfl, by dsimp only; omega, by dsimp only; omega, by simp; omega⟩, by dsimp only; omega, ?_⟩
    · rw [if_pos (by simpa using c), if_pos ⟨h0, c⟩]
      by_cases a : 65 ≤ s'.getD i.toNat 0
      · simp only [a, decide_true, if_true, Bool.true_and] at key ⊢
        exact key
      · simp only [a, decide_false, Bool.false_eq_true, if_false, Bool.false_and] at key ⊢
        exact key
    · dsimp only
      rw [show (i + 1).toNat = i.toNat + 1 by omega, hd]
      simp [lowL]
  · right
    unfold j17_23
    rw [if_neg (by simpa using c), List.drop_eq_nil_of_le (by omega)]
    simp [lowL]
end Go.Ab
