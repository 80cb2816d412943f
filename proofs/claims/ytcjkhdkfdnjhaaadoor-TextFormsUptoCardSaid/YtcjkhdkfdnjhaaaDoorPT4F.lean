/- Texts: quoted strings, pairs. -/
import Derived.Test.YtcjkhdkfdnjhaaaDoorPT3F
import Derived.Test.YtcjkhdkfdnjhaaaDoorFF2
set_option linter.unusedVariables false
set_option linter.unusedSimpArgs false
set_option linter.unnecessarySimpa false
open Go Go.Ab Go.Proofs Go.Proofs.YtcjkhdkfdnjhaaaDoor
namespace Go.Ab

theorem mQuote_eq (s : Bs) (hs : s.length < 2 ^ 30) : mQuote s = some (quoteL s) := by
  unfold mQuote; rw [if_pos (by omega)]
theorem qb_cons (c : UInt8) (l : Bs) : qb (c :: l) = (if c = 34 ∨ c = 92 then [92, c] else [c]) ++ qb l := rfl
theorem m29_eq (s : Bs) (hs : s.length < 2 ^ 30) : m29 s = some (quoteL s) := by
  unfold m29 l29_8
  refine (iter_g (fun (x : Bs × Bool × List UInt8 × Int) => x.1 = s ∧ 0 ≤ x.2.2.2 ∧ x.2.2.2 ≤ s.length ∧ x.2.2.1.length ≤ 2 * x.2.2.2.toNat + 1) (fun (x : Bs × Bool × List UInt8 × Int) => ((s.length : Int) - x.2.2.2).toNat) (fun (x : Bs × Bool × List UInt8 × Int) => some (x.2.2.1 ++ (qb (s.drop x.2.2.2.toNat) ++ [34]))) ?_ (s, false, [34], 0) ⟨rfl, by dsimp only; omega, by dsimp only; omega, by simp⟩).trans (by simp [quoteL])
  rintro ⟨s', z, b, i⟩ hI
  dsimp only at hI ⊢
  obtain ⟨rfl, h0, h1, h2⟩ := hI
  unfold s29_8
  by_cases c : i < s'.length
  · left
    have hd := drop_cons (l := s') (i := i.toNat) (by omega)
    rw [if_pos (by simpa using c), if_pos ⟨h0, c⟩]
    have key : ∀ t : Bool, j29_20 s' z b i t = some (.inl (s', false, b ++ (if t = true then [92, s'.getD i.toNat 0] else [s'.getD i.toNat 0]), i + 1)) := by
      intro t
      unfold j29_20 j29_23 j29_23v1 j29_24 j29_24v1
      rw [w64_eq (i + 1) (by omega) (by omega)]
      cases t
      · rw [if_neg (by decide), if_pos ⟨h0, c⟩, if_pos (by omega), if_neg (by decide)]
      · rw [if_pos rfl, if_pos (by omega), if_pos ⟨h0, c⟩, if_pos (by simp; omega), if_pos rfl, List.append_assoc]
        rfl
    rw [key, key, hd, qb_cons]
    generalize s'.getD i.toNat 0 = d
    refine ⟨(s', false, b ++ (if d = 34 ∨ d = 92 then [92, d] else [d]), i + 1), ?_, ⟨rfl, by dsimp only; omega, by dsimp only; omega, ?_⟩, by dsimp only; omega, ?_⟩
    · by_cases e1 : d = 34
      · simp [e1]
      · by_cases e2 : d = 92
        · simp [e1, e2]
        · simp [e1, e2]
    · dsimp only
      split <;> simp <;> omega
    · dsimp only
      rw [show (i + 1).toNat = i.toNat + 1 by omega]
      simp
  · right
    unfold j29_25
    rw [if_neg (by simpa using c), if_pos (by omega), List.drop_eq_nil_of_le (by omega)]
    rfl

/-! ### what a quoted string stands for -/
/-- from behind the first quote on -/
def uq : Bs → Option Bs
  | [] => none
  | [c] => if c = 34 then some [] else none
  | c :: d :: t => if c = 34 then none else if c = 92 then (if shB d = true then (uq t).map (d :: ·) else none) else if shB c = true then (uq (d :: t)).map (c :: ·) else none
/-- between the quotes -/
def pq : Bs → Option Bs
  | [] => some []
  | [c] => if c = 34 ∨ c = 92 then none else if shB c = true then some [c] else none
  | c :: d :: t => if c = 34 then none else if c = 92 then (if shB d = true then (pq t).map (d :: ·) else none) else if shB c = true then (pq (d :: t)).map (c :: ·) else none
def unqL : Bs → Option Bs
  | c :: t => if c = 34 then uq t else none
  | [] => none
theorem unqL_cons (c : UInt8) (t : Bs) : unqL (c :: t) = if c = 34 then uq t else none := rfl
theorem pq_34 (s : Bs) : pq (34 :: s) = none := by cases s <;> simp [pq]
theorem pq_92n : pq [92] = none := by simp [pq]
theorem pq_92 (d : UInt8) (t : Bs) : pq (92 :: d :: t) = if shB d = true then (pq t).map (d :: ·) else none := by
  rw [pq, if_neg (by decide), if_pos rfl]
theorem pq_c {c : UInt8} (h1 : c ≠ 34) (h2 : c ≠ 92) (s : Bs) : pq (c :: s) = if shB c = true then (pq s).map (c :: ·) else none := by
  cases s with
  | nil => simp [pq, h1, h2]
  | cons d t => rw [pq, if_neg h1, if_neg h2]
theorem uq_92 (d : UInt8) (t : Bs) : uq (92 :: d :: t) = if shB d = true then (uq t).map (d :: ·) else none := by
  rw [uq, if_neg (by decide), if_pos rfl]
theorem uq_c {c : UInt8} (h1 : c ≠ 34) (h2 : c ≠ 92) (s : Bs) : uq (c :: s) = if shB c = true then (uq s).map (c :: ·) else none := by
  cases s with
  | nil => simp [uq, h1]
  | cons d t => rw [uq, if_neg h1, if_neg h2]
theorem uq_34 (s : Bs) : uq (34 :: s) = if s = [] then some [] else none := by
  cases s with
  | nil => simp [uq]
  | cons d t => rw [uq, if_pos rfl, if_neg (by simp)]
theorem uq_92n : uq [92] = none := by simp [uq]
theorem uq_snoc : ∀ (n : Nat) (a : Bs), a.length ≤ n → uq (a ++ [34]) = pq a := by
  intro n
  induction n with
  | zero => intro a ha; have : a = [] := by cases a; rfl; simp at ha
            subst this; rfl
  | succ n ih =>
    intro a ha
    cases a with
    | nil => rfl
    | cons c s =>
      simp only [List.length_cons] at ha
      by_cases h1 : c = 34
      · subst h1
        rw [pq_34]
        show uq (34 :: (s ++ [34])) = none
        rw [uq_34, if_neg (by simp)]
      · by_cases h2 : c = 92
        · subst h2
          cases s with
          | nil => rfl
          | cons d t =>
            show uq (92 :: d :: (t ++ [34])) = _
            rw [uq_92, pq_92, ih t (by simp at ha; omega)]
        · show uq (c :: (s ++ [34])) = _
          rw [uq_c h1 h2, pq_c h1 h2, ih s (by omega)]
theorem uq_last : ∀ (n : Nat) (a r : Bs), a.length ≤ n → uq a = some r → ∃ b, a = b ++ [34] := by
  intro n
  induction n with
  | zero => intro a r ha h; have : a = [] := by cases a; rfl; simp at ha
            subst this; cases h
  | succ n ih =>
    intro a r ha h
    cases a with
    | nil => cases h
    | cons c s =>
      simp only [List.length_cons] at ha
      by_cases h1 : c = 34
      · subst h1
        rw [uq_34] at h
        split at h
        · rename_i e; subst e; exact ⟨[], rfl⟩
        · cases h
      · by_cases h2 : c = 92
        · subst h2
          cases s with
          | nil => rw [uq_92n] at h; cases h
          | cons d t =>
            rw [uq_92] at h
            split at h
            · simp only [Option.map_eq_some_iff] at h
              obtain ⟨r', h, _⟩ := h
              obtain ⟨b, rfl⟩ := ih t r' (by simp at ha; omega) h
              exact ⟨92 :: d :: b, rfl⟩
            · cases h
        · rw [uq_c h1 h2] at h
          split at h
          · simp only [Option.map_eq_some_iff] at h
            obtain ⟨r', h, _⟩ := h
            obtain ⟨b, rfl⟩ := ih s r' (by omega) h
            exact ⟨c :: b, rfl⟩
          · cases h
def unR (o : Option Bs) : Bs × Bool := match o with | some x => (x, true) | none => ([], false)

theorem l24_eq (inn : Bs) (hs : inn.length < 2 ^ 30) : l24_18 true [] inn 0 = some (unR (pq inn)) := by
  unfold l24_18
  refine (iter_g (fun (x : Bool × List UInt8 × Bs × Int) => x.2.2.1 = inn ∧ 0 ≤ x.2.2.2 ∧ x.2.2.2 ≤ inn.length ∧ x.2.1.length ≤ x.2.2.2.toNat) (fun (x : Bool × List UInt8 × Bs × Int) => ((inn.length : Int) - x.2.2.2).toNat) (fun (x : Bool × List UInt8 × Bs × Int) => some (unR ((pq (inn.drop x.2.2.2.toNat)).map (x.2.1 ++ ·)))) ?_ (true, [], inn, 0) ⟨rfl, by dsimp only; omega, by dsimp only; omega, by simp⟩).trans (by simp)
  rintro ⟨z, b, s, i⟩ hI
  dsimp only at hI ⊢
  obtain ⟨rfl, h0, h1, h2⟩ := hI
  unfold s24_18
  by_cases c : i < s.length
  · have hd := drop_cons (l := s) (i := i.toNat) (by omega)
    rw [if_pos (by simpa using c), if_pos ⟨h0, c⟩, hd]
    -- one byte is taken
    have take : ∀ (k : Int) (R : Option Bs), i ≤ k → k < s.length → R = (if shB (s.getD k.toNat 0) = true then (pq (s.drop (k.toNat + 1))).map (s.getD k.toNat 0 :: ·) else none) →
        (∃ t, j24_48 z b s k = some (.inl t) ∧ (t.2.2.1 = s ∧ 0 ≤ t.2.2.2 ∧ t.2.2.2 ≤ s.length ∧ t.2.1.length ≤ t.2.2.2.toNat) ∧ ((s.length : Int) - t.2.2.2).toNat < ((s.length : Int) - i).toNat ∧ some (unR ((pq (s.drop t.2.2.2.toNat)).map (t.2.1 ++ ·))) = some (unR (R.map (b ++ ·)))) ∨
          j24_48 z b s k = (some (unR (R.map (b ++ ·)))).map .inr := by
      intro k R hk hk2 hR
      unfold j24_48
      rw [if_pos ⟨by omega, hk2⟩, m33_eq, Option.bind_some, hR]
      cases e : shB (s.getD k.toNat 0)
      · right; rfl
      · left
        refine ⟨(false, b ++ [s.getD k.toNat 0], s, k + 1), ?_, ⟨rfl, by dsimp only; omega, by dsimp only; omega, by simp; omega⟩, by dsimp only; omega, ?_⟩
        · simp only [if_true]
          rw [if_pos (by omega), w64_eq (k + 1) (by omega) (by omega)]
        · dsimp only
          rw [show (k + 1).toNat = k.toNat + 1 by omega, if_pos rfl]
          cases pq (s.drop (k.toNat + 1)) <;> simp [unR]
    by_cases b34 : s.getD i.toNat 0 = 34
    · right
      rw [if_pos (by simp [b34, -List.getD_eq_getElem?_getD]), b34, pq_34]
      rfl
    · rw [if_neg (by simp [b34, -List.getD_eq_getElem?_getD])]
      by_cases b92 : s.getD i.toNat 0 = 92
      · rw [if_pos (by simp [b92, -List.getD_eq_getElem?_getD]), b92, w64_eq (i + 1) (by omega) (by omega)]
        by_cases e : i + 1 = s.length
        · right
          rw [if_pos (by simpa using e), List.drop_eq_nil_of_le (by omega), pq_92n]
          rfl
        · rw [if_neg (by simpa using e)]
          refine take (i + 1) _ (by omega) (by omega) ?_
          rw [drop_cons (l := s) (i := i.toNat + 1) (by omega), pq_92, show (i + 1).toNat = i.toNat + 1 by omega]
      · rw [if_neg (by simp [b92, -List.getD_eq_getElem?_getD])]
        exact take i _ (Int.le_refl _) c (pq_c b34 b92 _)
  · right
    unfold j24_58
    rw [if_neg (by simpa using c), List.drop_eq_nil_of_le (by omega)]
    simp [pq, unR]
theorem m24_eq (s : Bs) (hs : s.length < 2 ^ 30) : m24 s = some (unR (unqL s)) := by
  unfold m24
  have hf : j24_5 s true = some ([], false) := rfl
  cases s with
  | nil => rfl
  | cons c t =>
    by_cases h2 : t = []
    · subst h2
      rw [if_pos (by simp), hf]
      rw [unqL_cons]
      split <;> simp [uq, unR]
    · have hl : 0 < t.length := by cases t; exact absurd rfl h2; simp
      rw [if_neg (by simp <;> omega), if_pos (by simp <;> omega)]
      have e0 : (c :: t).getD 0 0 = c := rfl
      rw [e0, hf]
      by_cases h34 : c = 34
      · subst h34
        rw [if_pos (by simp), w64_eq _ (by simp <;> omega) (by simp at hs ⊢ <;> omega), if_pos ⟨by simp <;> omega, by simp <;> omega⟩]
        have ed : ((34 :: t).getD (((34 :: t).length : Int) - 1).toNat 0) = t.getLast h2 := by
          have : (((34 :: t).length : Int) - 1).toNat = t.length := by simp
          rw [this]
          obtain ⟨n, hn⟩ : ∃ n, t.length = n + 1 := ⟨t.length - 1, by omega⟩
          rw [hn, List.getD_cons_succ, List.getLast_eq_getElem, List.getD_eq_getElem?_getD, List.getElem?_eq_getElem (by omega), Option.getD_some]
          congr 1
          omega
        rw [ed]
        rw [unqL_cons, if_pos rfl]
        unfold j24_5
        have ht := List.dropLast_concat_getLast h2
        by_cases hl34 : t.getLast h2 = 34
        · rw [if_neg (by simp [hl34]), w64_eq _ (by simp <;> omega) (by simp at hs ⊢ <;> omega)]
          have e1 : bnd (((34 :: t).length : Int) - 1) (34 :: t).length = some t.length := by
            have h3 : (((34 :: t).length : Int) - 1) = (t.length : Int) := by simp
            rw [h3]; exact bnd_ok (by simp)
          have e2 : bnd 1 t.length = some 1 := by unfold bnd; rw [if_pos ⟨by omega, by omega⟩]; rfl
          rw [e1, Option.bind_some, e2, Option.bind_some]
          have e3 : ((34 :: t).take t.length).drop 1 = t.dropLast := by
            obtain ⟨n, hn⟩ : ∃ n, t.length = n + 1 := ⟨t.length - 1, by omega⟩
            rw [hn, List.take_succ_cons, List.dropLast_eq_take, hn]
            rfl
          rw [e3, l24_eq _ (by simp at hs ⊢ <;> omega)]
          rw [hl34] at ht
          rw [← uq_snoc _ _ (Nat.le_refl _), ht]
        · rw [if_pos (by simp [hl34])]
          have : uq t = none := by
            cases hu : uq t with
            | none => rfl
            | some r =>
              obtain ⟨b, hb⟩ := uq_last _ _ _ (Nat.le_refl _) hu
              exact absurd (by subst hb; simp) hl34
          rw [this]
          rfl
      · rw [if_neg (by simp [h34])]
        rw [unqL_cons, if_neg h34]
        rfl
/-- the document's Unquote -/
theorem m25_eq (s : Bs) (hs : s.length < 2 ^ 30) : m25 s = some (unR (unqL s)) := by
  unfold m25
  have hf : j25_5 s true = some ([], false) := rfl
  cases s with
  | nil => rfl
  | cons c t =>
    rw [if_neg (by simp <;> omega), if_pos (by simp <;> omega)]
    have e0 : (c :: t).getD 0 0 = c := rfl
    rw [e0]
    rw [unqL_cons]
    by_cases h34 : c = 34
    · rw [if_pos h34]
      unfold j25_5
      rw [if_neg (by simp [h34])]
      generalize hS : c :: t = S at *
      have ht : t = S.drop 1 := by rw [← hS]; rfl
      rw [ht]
      have hl1 : 1 ≤ S.length := by rw [← hS]; simp
      unfold l25_16
      refine (iter_g (fun (x : Bs × Bool × List UInt8 × Int) => x.1 = S ∧ 1 ≤ x.2.2.2 ∧ x.2.2.2 ≤ S.length ∧ x.2.2.1.length ≤ x.2.2.2.toNat) (fun (x : Bs × Bool × List UInt8 × Int) => ((S.length : Int) - x.2.2.2).toNat) (fun (x : Bs × Bool × List UInt8 × Int) => some (unR ((uq (S.drop x.2.2.2.toNat)).map (x.2.2.1 ++ ·)))) ?_ (S, true, [], 1) ⟨rfl, by dsimp only; omega, by dsimp only; omega, by simp⟩).trans (by simp)
      clear ht hS hf e0 h34
      rintro ⟨s, z, b, i⟩ hI
      dsimp only at hI ⊢
      obtain ⟨rfl, h0, h1, h2⟩ := hI
      unfold s25_16
      by_cases c : i < s.length
      · have hd := drop_cons (l := s) (i := i.toNat) (by omega)
        rw [if_pos (by simpa using c), if_pos ⟨by omega, c⟩, hd]
        have take : ∀ (k : Int) (R : Option Bs), i ≤ k → k < s.length → R = (if shB (s.getD k.toNat 0) = true then (uq (s.drop (k.toNat + 1))).map (s.getD k.toNat 0 :: ·) else none) →
            (∃ t, j25_30 s z b k = some (.inl t) ∧ (t.1 = s ∧ 1 ≤ t.2.2.2 ∧ t.2.2.2 ≤ s.length ∧ t.2.2.1.length ≤ t.2.2.2.toNat) ∧ ((s.length : Int) - t.2.2.2).toNat < ((s.length : Int) - i).toNat ∧ some (unR ((uq (s.drop t.2.2.2.toNat)).map (t.2.2.1 ++ ·))) = some (unR (R.map (b ++ ·)))) ∨
              j25_30 s z b k = (some (unR (R.map (b ++ ·)))).map .inr := by
          intro k R hk hk2 hR
          unfold j25_30 j25_33
          rw [if_neg (by simp <;> omega), if_pos ⟨by omega, hk2⟩, m34_eq, Option.bind_some, hR]
          cases e : shB (s.getD k.toNat 0)
          · right; rfl
          · left
            refine ⟨(s, false, b ++ [s.getD k.toNat 0], k + 1), ?_, ⟨rfl, by dsimp only; omega, by dsimp only; omega, by simp <;> omega⟩, by dsimp only; omega, ?_⟩
            · rw [if_neg (by decide), if_pos ⟨by omega, hk2⟩, if_pos (by omega), w64_eq (k + 1) (by omega) (by omega)]
            · dsimp only
              rw [show (k + 1).toNat = k.toNat + 1 by omega, if_pos rfl]
              cases uq (s.drop (k.toNat + 1)) <;> simp [unR]
        unfold j25_20
        by_cases b34 : s.getD i.toNat 0 = 34
        · right
          unfold j25_41
          rw [if_neg (by simp [b34, -List.getD_eq_getElem?_getD]), b34, uq_34, w64_eq _ (by omega) (by omega)]
          by_cases e : i = s.length - 1
          · rw [if_pos (by simpa using e), if_pos (List.drop_eq_nil_of_le (by omega))]
            simp [unR]
          · rw [if_neg (by simpa using e), if_neg (fun h => by have := List.drop_eq_nil_iff.1 h; omega)]
            rfl
        · rw [if_pos (by simp [b34, -List.getD_eq_getElem?_getD]), if_pos ⟨by omega, c⟩]
          by_cases b92 : s.getD i.toNat 0 = 92
          · rw [if_pos (by simp [b92, -List.getD_eq_getElem?_getD]), b92, w64_eq (i + 1) (by omega) (by omega)]
            by_cases e : i + 1 = s.length
            · right
              unfold j25_30 j25_33
              rw [if_pos (by simp <;> omega), List.drop_eq_nil_of_le (by omega), uq_92n]
              rfl
            · refine take (i + 1) _ (by omega) (by omega) ?_
              rw [drop_cons (l := s) (i := i.toNat + 1) (by omega), uq_92, show (i + 1).toNat = i.toNat + 1 by omega]
          · rw [if_neg (by simp [b92, -List.getD_eq_getElem?_getD])]
            exact take i _ (Int.le_refl _) c (uq_c b34 b92 _)
      · right
        unfold j25_20 j25_41
        rw [if_neg (by simpa using c), if_neg (by decide), List.drop_eq_nil_of_le (by omega), w64_eq _ (by omega) (by omega), if_neg (by simp <;> omega)]
        rfl
    · rw [if_neg h34]
      have : (!(c == 34)) = true := by simp [h34]
      rw [this, hf]
      rfl

/-! ### pairs -/
def nameN (s : Bs) : Nat := (s.takeWhile fun c => !(c == 61)).length
theorem nameN_le (s : Bs) : nameN s ≤ s.length := by
  unfold nameN
  exact (List.takeWhile_prefix _).length_le
theorem nameN_cons (c : UInt8) (s : Bs) : nameN (c :: s) = if c = 61 then 0 else nameN s + 1 := by
  unfold nameN
  rw [List.takeWhile_cons]
  by_cases h : c = 61 <;> simp [h]
theorem nameN_lt : ∀ (s : Bs) (j : Nat), j < nameN s → s.getD j 0 ≠ 61 := by
  intro s
  induction s with
  | nil => intro j h; simp [nameN] at h
  | cons c s ih =>
    intro j h
    rw [nameN_cons] at h
    by_cases e : c = 61
    · rw [if_pos e] at h; omega
    · rw [if_neg e] at h
      cases j with
      | zero => exact e
      | succ j => rw [List.getD_cons_succ]; exact ih j (by omega)
theorem nameN_at : ∀ (s : Bs), nameN s < s.length → s.getD (nameN s) 0 = 61 := by
  intro s
  induction s with
  | nil => intro h; simp at h
  | cons c s ih =>
    intro h
    rw [nameN_cons] at h ⊢
    by_cases e : c = 61
    · rw [if_pos e]; exact e
    · rw [if_neg e] at h ⊢
      rw [List.getD_cons_succ]
      exact ih (by simpa using h)
def pairL (s : Bs) : Option (Bs × Bs) :=
  if tokL (s.take (nameN s)) = true then
    if nameN s = s.length then some (lowL (s.take (nameN s)), [])
    else if tokL (s.drop (nameN s + 1)) = true then some (lowL (s.take (nameN s)), s.drop (nameN s + 1))
    else (unqL (s.drop (nameN s + 1))).map fun v => (lowL (s.take (nameN s)), v)
  else none
def paR (o : Option (Bs × Bs)) : Bs × Bs × Bool := match o with | some x => (x.1, x.2, true) | none => ([], [], false)
theorem occ1 (s : Bs) (j : Nat) : Lib.occAt s [61] j = (decide (j < s.length) && (s.getD j 0 == 61)) := by
  unfold Lib.occAt
  by_cases h : j < s.length
  · rw [drop_cons h]
    simp [List.isPrefixOf, h, -List.getD_eq_getElem?_getD, Bool.beq_comm]
  · rw [List.drop_eq_nil_of_le (by omega)]
    simp [List.isPrefixOf, h]
theorem index1 (s : Bs) : Lib.index s [61] = if nameN s < s.length then (nameN s : Int) else -1 := by
  by_cases h : nameN s < s.length
  · rw [if_pos h]
    refine Lib.index_first (by omega) ?_ ?_
    · rw [occ1, nameN_at s h]; simp [h]
    · intro j hj
      have := nameN_lt s j hj
      rw [occ1]
      have e : (s.getD j 0 == 61) = false := by simpa [-List.getD_eq_getElem?_getD] using this
      rw [e, Bool.and_false]
  · rw [if_neg h]
    refine Lib.index_none ?_
    intro j hj
    rw [occ1]
    by_cases hj2 : j < s.length
    · have := nameN_lt s j (by omega)
      have e : (s.getD j 0 == 61) = false := by simpa [-List.getD_eq_getElem?_getD] using this
      rw [e, Bool.and_false]
    · simp [hj2]
theorem m38_eq (s : Bs) (hs : s.length < 2 ^ 30) : m38 s [61] = some (if nameN s < s.length then (s.take (nameN s), s.drop (nameN s + 1), true) else (s, [], false)) := by
  unfold m38 m51 mIx
  rw [if_pos (by omega), Option.bind_some, index1]
  by_cases h : nameN s < s.length
  · rw [if_pos h, if_pos (by simp), bnd_ok (by omega), Option.bind_some, w64_eq _ (by simp; omega) (by simp; omega), if_pos h]
    have : bnd ((nameN s : Int) + (([61] : Bs).length : Int)) s.length = some (nameN s + 1) := by
      unfold bnd
      rw [if_pos ⟨by simp; omega, by simp; omega⟩]
      congr 1
    rw [this]
    rfl
  · rw [if_neg h, if_neg (by decide), if_neg h]
    rfl
theorem m26_eq (s : Bs) (hs : s.length < 2 ^ 30) : m26 s = some (paR (pairL s)) := by
  unfold m26 pairL
  have hn := nameN_le s
  rw [m38_eq s hs, Option.bind_some]
  by_cases h : nameN s < s.length
  · rw [if_pos h, if_neg (by omega : ¬ nameN s = s.length)]
    dsimp only
    rw [m10_eq _ (by simp; omega), Option.bind_some]
    by_cases h1 : tokL (s.take (nameN s)) = true
    · rw [if_pos h1, if_pos rfl, if_pos h1, m10_eq _ (by simp; omega), Option.bind_some]
      unfold j26_15
      by_cases h2 : tokL (s.drop (nameN s + 1)) = true
      · rw [if_pos h2, if_pos h2, m16_eq _ (by simp; omega)]
        rfl
      · rw [if_neg h2, if_neg h2, m24_eq _ (by simp; omega), Option.bind_some]
        cases unqL (s.drop (nameN s + 1)) with
        | none => rfl
        | some v =>
          simp only [unR, if_true, Option.map_some, paR]
          rw [m16_eq _ (by simp; omega)]
          rfl
    · rw [if_neg h1, if_neg h1]
      rfl
  · rw [if_neg h, if_pos (by omega : nameN s = s.length)]
    dsimp only
    have e : s.take (nameN s) = s := List.take_of_length_le (by omega)
    rw [e, m10_eq _ (by omega), Option.bind_some]
    by_cases h1 : tokL s = true
    · rw [if_pos h1, if_neg (by decide), if_pos h1]
      unfold j26_15
      rw [if_pos rfl, m16_eq _ (by omega)]
      rfl
    · rw [if_neg h1, if_neg h1]
      rfl
theorem j27_15_eq (s : Bs) (hs : s.length < 2 ^ 30) : j27_15 s (nameN s) = some (paR (pairL s)) := by
  unfold j27_15 pairL
  have hn := nameN_le s
  rw [bnd_ok hn, Option.bind_some, m11_eq _ (by simp; omega), Option.bind_some]
  by_cases h1 : tokL (s.take (nameN s)) = true
  · rw [if_pos h1, if_pos h1]
    by_cases h : nameN s = s.length
    · have e : s.take (nameN s) = s := List.take_of_length_le (by omega)
      rw [if_pos (by simp [h]), if_pos h, m17_eq _ (by omega), e]
      rfl
    · rw [if_neg (by simp; omega), if_neg h, w64_eq _ (by omega) (by omega)]
      have : bnd ((nameN s : Int) + 1) s.length = some (nameN s + 1) := by
        have := bnd_ok (i := nameN s + 1) (n := s.length) (by omega)
        simpa using this
      rw [this, Option.bind_some, m11_eq _ (by simp; omega), Option.bind_some]
      by_cases h2 : tokL (s.drop (nameN s + 1)) = true
      · rw [if_pos h2, if_pos h2, m17_eq _ (by simp; omega)]
        rfl
      · rw [if_neg h2, if_neg h2, m25_eq _ (by simp; omega), Option.bind_some]
        cases unqL (s.drop (nameN s + 1)) with
        | none => rfl
        | some v =>
          simp only [unR, if_true, Option.map_some, paR]
          rw [m17_eq _ (by simp; omega)]
          rfl
  · rw [if_neg h1, if_neg h1]
    rfl
theorem m27_eq (s : Bs) (hs : s.length < 2 ^ 30) : m27 s = some (paR (pairL s)) := by
  unfold m27 l27_6
  have hn := nameN_le s
  refine iter_to (fun (x : Bs × Int) => x.1 = s ∧ 0 ≤ x.2 ∧ x.2 ≤ nameN s) (fun (x : Bs × Int) => ((nameN s : Int) - x.2).toNat) _ ?_ _ ⟨rfl, by dsimp only; omega, by dsimp only; omega⟩
  rintro ⟨s', i⟩ hI
  dsimp only at hI ⊢
  obtain ⟨rfl, h0, h1⟩ := hI
  unfold s27_6 j27_10
  by_cases c : i < nameN s'
  · left
    have := nameN_lt s' i.toNat (by omega)
    rw [if_pos (by simp; omega), if_pos ⟨h0, by omega⟩, if_pos (by simp [this, -List.getD_eq_getElem?_getD]), w64_eq _ (by omega) (by omega)]
    exact ⟨(s', i + 1), rfl, ⟨rfl, by dsimp only; omega, by dsimp only; omega⟩, by dsimp only; omega⟩
  · right
    have e : i = nameN s' := by omega
    subst e
    rw [← j27_15_eq s' hs]
    by_cases d : nameN s' < s'.length
    · have := nameN_at s' d
      rw [if_pos (by simpa using d), if_pos ⟨h0, by omega⟩, if_neg (by rw [Int.toNat_natCast, this]; decide)]
    · rw [if_neg (by simp; omega), if_neg (by decide)]
end Go.Ab
