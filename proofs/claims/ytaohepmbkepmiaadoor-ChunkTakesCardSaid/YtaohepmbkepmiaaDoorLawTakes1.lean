/- Plain laws of the functions. -/
import Derived.Test.YtaohepmbkepmiaaDoorEv8
import Derived.Test.YtaohepmbkepmiaaDoorFTakes6
import Derived.Lib.DecodeN
import Derived.Lib.IndexMore
import Derived.Lib.IndexLaws
import Derived.Lib.IndexBytes
set_option linter.all false
section
set_option linter.all false
namespace Go.Ab
open Go
theorem wu64m (x : Int) : wu64 x = x % 18446744073709551616 := by
  unfold wu64
  simp [IntKind.wrap, IntKind.min, IntKind.max, IntKind.bits, IntKind.signed] <;> omega
theorem iter_post {σ β : Type} {f : σ → Option (σ ⊕ β)} (I : σ → Prop) (μ : σ → Nat) (Q : β → Prop)
    (h : ∀ s, I s → (∃ t, f s = some (.inl t) ∧ I t ∧ μ t < μ s) ∨ (∃ r, f s = some (.inr r) ∧ Q r)) (s : σ) (hs : I s) : ∃ r, iter f s = some r ∧ Q r := by
  have key : ∀ n s, μ s < n → I s → ∃ r, iter f s = some r ∧ Q r := by
    intro n
    induction n with
    | zero => intro s h0; omega
    | succ n ih =>
      intro s hn hs
      rcases h s hs with ⟨t, ht, hI, hm⟩ | ⟨r, hr, hq⟩
      · rw [iter_l ht]; exact ih t (by omega) hI
      · exact ⟨r, iter_r hr, hq⟩
  exact key (μ s + 1) s (by omega) hs
theorem iter_to {σ β : Type} {f : σ → Option (σ ⊕ β)} (I : σ → Prop) (μ : σ → Nat) (X : Option β)
    (h : ∀ s, I s → (∃ t, f s = some (.inl t) ∧ I t ∧ μ t < μ s) ∨ f s = X.map .inr) (s : σ) (hs : I s) : iter f s = X := by
  have key : ∀ n s, μ s < n → I s → iter f s = X := by
    intro n
    induction n with
    | zero => intro s h0; omega
    | succ n ih =>
      intro s hn hs
      rcases h s hs with ⟨t, ht, hI, hm⟩ | hr
      · rw [iter_l ht]; exact ih t (by omega) hI
      · cases X with
        | none => exact iter_n hr
        | some r => exact iter_r hr
  exact key (μ s + 1) s (by omega) hs
end Go.Ab
end
section
set_option linter.all false
open Go Go.Ab Go.Proofs Go.Proofs.YtaohepmbkepmiaaDoor
namespace Go.Ab
theorem byAll {P : UInt8 → Prop} [DecidablePred P] (h : ((List.range 256).all fun n => decide (P (UInt8.ofNat n))) = true) (c : UInt8) : P c := by
  have := List.all_eq_true.1 h c.toNat (List.mem_range.2 c.toNat_lt)
  have e := of_decide_eq_true this
  have : UInt8.ofNat c.toNat = c := by simp
  rwa [this] at e
theorem drop_cons {l : Bs} {i : Nat} (h : i < l.length) : l.drop i = l.getD i 0 :: l.drop (i + 1) := by
  rw [List.drop_eq_getElem_cons h, List.getD_eq_getElem?_getD, List.getElem?_eq_getElem h, Option.getD_some]
theorem iter_g {σ β : Type} {f : σ → Option (σ ⊕ β)} (I : σ → Prop) (μ : σ → Nat) (g : σ → Option β)
    (h : ∀ s, I s → (∃ t, f s = some (.inl t) ∧ I t ∧ μ t < μ s ∧ g t = g s) ∨ f s = (g s).map .inr) (s : σ) (hs : I s) : iter f s = g s := by
  refine iter_to (fun t => I t ∧ g t = g s) μ (g s) ?_ s ⟨hs, rfl⟩
  rintro t ⟨ht, e⟩
  rcases h t ht with ⟨u, h1, h2, h3, h4⟩ | h1
  · exact .inl ⟨u, h1, ⟨h2, h4.trans e⟩, h3⟩
  · exact .inr (by rw [h1, e])
def signsL : Bs := [33, 35, 36, 37, 38, 39, 42, 43, 45, 46, 94, 95, 96, 124, 126]
def tokB (c : UInt8) : Bool := decide (97 ≤ c ∧ c ≤ 122) || decide (65 ≤ c ∧ c ≤ 90) || decide (48 ≤ c ∧ c ≤ 57) || signsL.contains c
def shB (c : UInt8) : Bool := c == 9 || (decide (32 ≤ c) && !(c == 127))
def tokL (s : Bs) : Bool := !s.isEmpty && s.all tokB
theorem m60_eq : ∀ c, m60 c = some (tokB c) := byAll (by decide +kernel)
theorem m48_eq : ∀ c, m48 c = some (shB c) := byAll (by decide +kernel)
theorem m53_eq : ∀ c, m53 c = some (shB c) := byAll (by decide +kernel)
theorem l75a_eq (z : Bool) (s : Bs) (hs : s.length < 2 ^ 60) : ∃ r, m75a z s = some r ∧ decide (0 ≤ r) = s.any (fun c => !tokB c) := by
  unfold m75a l75a_6
  refine iter_post (fun (x : Bool × List UInt8 × Int × Int) => x.2.1 = s ∧ x.2.2.1 = s.length ∧ 0 ≤ x.2.2.2 ∧ x.2.2.2 ≤ s.length ∧ (s.drop x.2.2.2.toNat).any (fun c => !tokB c) = s.any (fun c => !tokB c)) (fun (x : Bool × List UInt8 × Int × Int) => ((s.length : Int) - x.2.2.2).toNat) _ ?_ _ ⟨rfl, rfl, by dsimp only; omega, by dsimp only; omega, rfl⟩
  rintro ⟨z, s', n, i⟩ hI
  dsimp only at hI ⊢
  obtain ⟨rfl, rfl, h0, h1, h2⟩ := hI
  unfold s75a_6 m59a
  by_cases c : i < s'.length
  · have hd := drop_cons (l := s') (i := i.toNat) (by omega)
    rw [hd] at h2
    rw [if_pos (by simpa using c), if_pos ⟨h0, c⟩, show s'.getD i.toNat default = s'.getD i.toNat 0 from rfl, m60_eq]
    simp only [Option.bind_some]
    cases e : tokB (s'.getD i.toNat 0)
    · right
      refine ⟨i, by simp, ?_⟩
      rw [← h2, List.any_cons, e]
      simp [h0]
    · left
      rw [List.any_cons, e] at h2
      refine ⟨(z, s', s'.length, i + 1), by simp [w64_eq (i + 1) (by omega) (by omega)], ⟨rfl, rfl, by dsimp only; omega, by dsimp only; omega, ?_⟩, by dsimp only; omega⟩
      dsimp only
      rw [show (i + 1).toNat = i.toNat + 1 by omega, ← h2]
      simp
  · right
    refine ⟨-1, by rw [if_neg (by simpa using c)]; rfl, ?_⟩
    rw [← h2, List.drop_eq_nil_of_le (by omega)]
    rfl
theorem l75_eq (z : Bool) (s : Bs) (hs : s.length < 2 ^ 60) : ∃ r, m75 z s = some r ∧ decide (0 ≤ r) = s.any (fun c => !shB c) := by
  unfold m75 l75_6
  refine iter_post (fun (x : Bool × List UInt8 × Int × Int) => x.2.1 = s ∧ x.2.2.1 = s.length ∧ 0 ≤ x.2.2.2 ∧ x.2.2.2 ≤ s.length ∧ (s.drop x.2.2.2.toNat).any (fun c => !shB c) = s.any (fun c => !shB c)) (fun (x : Bool × List UInt8 × Int × Int) => ((s.length : Int) - x.2.2.2).toNat) _ ?_ _ ⟨rfl, rfl, by dsimp only; omega, by dsimp only; omega, rfl⟩
  rintro ⟨z, s', n, i⟩ hI
  dsimp only at hI ⊢
  obtain ⟨rfl, rfl, h0, h1, h2⟩ := hI
  unfold s75_6 m59
  by_cases c : i < s'.length
  · have hd := drop_cons (l := s') (i := i.toNat) (by omega)
    rw [hd] at h2
    rw [if_pos (by simpa using c), if_pos ⟨h0, c⟩, show s'.getD i.toNat default = s'.getD i.toNat 0 from rfl, m48_eq]
    simp only [Option.bind_some]
    cases e : shB (s'.getD i.toNat 0)
    · right
      refine ⟨i, by simp, ?_⟩
      rw [← h2, List.any_cons, e]
      simp [h0]
    · left
      rw [List.any_cons, e] at h2
      refine ⟨(z, s', s'.length, i + 1), by simp [w64_eq (i + 1) (by omega) (by omega)], ⟨rfl, rfl, by dsimp only; omega, by dsimp only; omega, ?_⟩, by dsimp only; omega⟩
      dsimp only
      rw [show (i + 1).toNat = i.toNat + 1 by omega, ← h2]
      simp
  · right
    refine ⟨-1, by rw [if_neg (by simpa using c)]; rfl, ?_⟩
    rw [← h2, List.drop_eq_nil_of_le (by omega)]
    rfl
theorem any_not (s : Bs) (p : UInt8 → Bool) : (!(s.any fun c => !p c)) = s.all p := by
  induction s with
  | nil => rfl
  | cons c s ih => simp [List.any_cons, List.all_cons, ← ih]
theorem m51_eq (s : Bs) (hs : s.length < 2 ^ 60) : m51 s = some (tokL s) := by
  unfold m51 m47a m58a tokL
  obtain ⟨r, h1, h2⟩ := l75a_eq false s hs
  rw [h1]
  cases s with
  | nil => rfl
  | cons c s =>
    rw [if_neg (by simp)]
    simp only [Option.bind_some, h2, any_not]
    rfl
theorem m30_eq (s : Bs) (hs : s.length < 2 ^ 60) : m30 s = some (s.all shB) := by
  unfold m30 m47 m58
  obtain ⟨r, h1, h2⟩ := l75_eq false s hs
  rw [h1]
  simp only [Option.bind_some, h2, any_not]
theorem m37_eq (s : Bs) (hs : s.length < 2 ^ 60) : m37 s = some (s.all shB) := by
  unfold m37 l37_6
  refine (iter_g (fun (x : Bs × Int) => x.1 = s ∧ 0 ≤ x.2 ∧ x.2 ≤ s.length) (fun (x : Bs × Int) => ((s.length : Int) - x.2).toNat) (fun (x : Bs × Int) => some ((s.drop x.2.toNat).all shB)) ?_ (s, 0) ⟨rfl, by dsimp only; omega, by dsimp only; omega⟩).trans (by simp)
  rintro ⟨s', i⟩ hI
  dsimp only at hI ⊢
  obtain ⟨rfl, h0, h1⟩ := hI
  unfold s37_6
  by_cases c : i < s'.length
  · have hd := drop_cons (l := s') (i := i.toNat) (by omega)
    rw [if_pos (by simpa using c), if_pos ⟨h0, c⟩, m53_eq, hd, List.all_cons]
    simp only [Option.bind_some]
    cases e : shB (s'.getD i.toNat 0)
    · right; simp
    · left
      exact ⟨(s', i + 1), by simp [w64_eq (i + 1) (by omega) (by omega)], ⟨rfl, by dsimp only; omega, by dsimp only; omega⟩, by dsimp only; omega, by dsimp only; rw [show (i + 1).toNat = i.toNat + 1 by omega]; simp⟩
  · right
    rw [if_neg (by simpa using c), List.drop_eq_nil_of_le (by omega)]
    rfl
theorem l55_25_eq {s : Bs} {i : Int} {c : UInt8} {b : Bool} : l55_25 s signsL i c b 0 = j55_36 s signsL i (b || signsL.contains c) := by
  unfold l55_25
  refine (iter_g (fun (x : Bs × Bs × Int × UInt8 × Bool × Int) => x.1 = s ∧ x.2.1 = signsL ∧ x.2.2.1 = i ∧ x.2.2.2.1 = c ∧ 0 ≤ x.2.2.2.2.2 ∧ x.2.2.2.2.2 ≤ 15) (fun (x : Bs × Bs × Int × UInt8 × Bool × Int) => (15 - x.2.2.2.2.2).toNat) (fun (x : Bs × Bs × Int × UInt8 × Bool × Int) => j55_36 s signsL i (x.2.2.2.2.1 || (signsL.drop x.2.2.2.2.2.toNat).contains c)) ?_ _ ⟨rfl, rfl, rfl, rfl, by dsimp only; omega, by dsimp only; omega⟩).trans rfl
  rintro ⟨s', sg, i', c', b', k⟩ hI
  dsimp only at hI ⊢
  obtain ⟨rfl, rfl, rfl, rfl, h0, h1⟩ := hI
  unfold s55_25 j55_35
  have hl : (signsL.length : Int) = 15 := rfl
  by_cases d : k < 15
  · left
    have hd := drop_cons (l := signsL) (i := k.toNat) (by have : signsL.length = 15 := rfl; omega)
    rw [hl, if_pos (by simpa using d)]
    rw [w64_eq (k + 1) (by omega) (by omega)]
    cases b'
    · rw [if_neg (by decide), if_pos ⟨h0, d⟩]
      refine ⟨_, rfl, ⟨rfl, rfl, rfl, rfl, by dsimp only; omega, by dsimp only; omega⟩, by dsimp only; omega, ?_⟩
      dsimp only
      rw [hd, List.contains_cons, show (k + 1).toNat = k.toNat + 1 by omega, Bool.false_or, Bool.beq_comm (a := c')]
    · rw [if_pos rfl]
      refine ⟨_, rfl, ⟨rfl, rfl, rfl, rfl, by dsimp only; omega, by dsimp only; omega⟩, by dsimp only; omega, ?_⟩
      simp
  · right
    rw [hl, if_neg (by simpa using d), List.drop_eq_nil_of_le (by have : signsL.length = 15 := rfl; omega)]
    simp
theorem s55_eq {s : Bs} {i : Int} (h0 : 0 ≤ i) (h1 : i < s.length) (hs : s.length < 2 ^ 60) : s55_8 s signsL i = if tokB (s.getD i.toNat 0) = true then some (.inl (s, signsL, i + 1)) else some (.inr false) := by
  have key : s55_8 s signsL i = j55_36 s signsL i (tokB (s.getD i.toNat 0)) := by
    unfold s55_8 j55_21
    rw [if_pos (by simpa using h1), if_pos ⟨h0, h1⟩]
    simp only [l55_25_eq]
    generalize s.getD i.toNat 0 = c
    unfold tokB
    by_cases a1 : (97 : UInt8) ≤ c <;> by_cases a2 : c ≤ (122 : UInt8) <;> by_cases a3 : (65 : UInt8) ≤ c <;> by_cases a4 : c ≤ (90 : UInt8) <;> by_cases a5 : (48 : UInt8) ≤ c <;> by_cases a6 : c ≤ (57 : UInt8) <;> simp [a1, a2, a3, a4, a5, a6]
  rw [key]
  unfold j55_36
  rw [w64_eq (i + 1) (by omega) (by omega)]
theorem m55_eq (s : Bs) (hs : s.length < 2 ^ 60) : m55 s = some (tokL s) := by
  unfold m55
  rw [show ([33, 35, 36, 37, 38, 39, 42, 43, 45, 46, 94, 95, 96, 124, 126] : Bs) = signsL from rfl]
  unfold l55_8
  refine (iter_g (fun (x : Bs × Bs × Int) => x.1 = s ∧ x.2.1 = signsL ∧ 0 ≤ x.2.2 ∧ x.2.2 ≤ s.length) (fun (x : Bs × Bs × Int) => ((s.length : Int) - x.2.2).toNat) (fun (x : Bs × Bs × Int) => some (!s.isEmpty && (s.drop x.2.2.toNat).all tokB)) ?_ (s, signsL, 0) ⟨rfl, rfl, by dsimp only; omega, by dsimp only; omega⟩).trans (by simp [tokL])
  rintro ⟨s', sg, i⟩ hI
  dsimp only at hI ⊢
  obtain ⟨rfl, rfl, h0, h1⟩ := hI
  by_cases c : i < s'.length
  · have hd := drop_cons (l := s') (i := i.toNat) (by omega)
    have hne : s'.isEmpty = false := by cases s'; simp at c; omega; rfl
    rw [s55_eq h0 c hs, hd, List.all_cons]
    cases e : tokB (s'.getD i.toNat 0)
    · right; simp [hne]
    · left
      exact ⟨(s', signsL, i + 1), by simp, ⟨rfl, rfl, by dsimp only; omega, by dsimp only; omega⟩, by dsimp only; omega, by dsimp only; rw [show (i + 1).toNat = i.toNat + 1 by omega]; simp⟩
  · right
    unfold s55_8 j55_44
    rw [if_neg (by simpa using c), List.drop_eq_nil_of_le (by omega)]
    cases s' <;> simp <;> omega
def blB (c : UInt8) : Bool := c == 32 || c == 9
def trimL (s : Bs) : Bs := Lib.trimS s [32, 9]
theorem m36_eq (s : Bs) (hs : s.length < 2 ^ 60) : m36 s = some (trimL s) := by
  unfold m36 mTrim
  rw [if_pos ⟨by omega, by decide, by decide⟩]
  rfl
theorem con_bl : ∀ c : UInt8, ([32, 9] : Bs).contains c = blB c := byAll (by decide +kernel)
theorem trimL_cut {s : Bs} {a b : Nat} (hab : a < b) (hb : b ≤ s.length) (h1 : ∀ j, j < a → blB (s.getD j 0) = true) (h2 : blB (s.getD a 0) = false) (h3 : ∀ j, b ≤ j → j < s.length → blB (s.getD j 0) = true) (h4 : blB (s.getD (b - 1) 0) = false) :
    trimL s = (s.take b).drop a := by
  unfold trimL Lib.trimS
  have g : ∀ (j : Nat) x, s[j]? = some x → s.getD j 0 = x := fun j x h => by rw [List.getD_eq_getElem?_getD, h]; rfl
  rw [Lib.trimRightS_take s [32, 9] b hb (fun j x hj hx => by
    have hl := (List.getElem?_eq_some_iff.1 hx).1
    have := h3 j hj hl
    rw [g _ _ hx] at this
    rw [con_bl]; exact this) (fun x _ hx => by rw [con_bl, ← g _ _ hx]; exact h4)]
  rw [Lib.trimLeftS_drop (s.take b) [32, 9] a (by simp; omega) (fun j x hj hx => by
    rw [List.getElem?_take] at hx
    split at hx
    · have := h1 j hj
      rw [g _ _ hx] at this
      rw [con_bl]; exact this
    · cases hx) (fun x hx => by
    have hx' : s[a]? = some x := by rw [List.getElem?_take, if_pos hab] at hx; exact hx
    rw [con_bl, ← g _ _ hx']; exact h2)]
theorem trimL_nil {s : Bs} (h1 : ∀ j, j < s.length → blB (s.getD j 0) = true) : trimL s = [] := by
  unfold trimL Lib.trimS
  have g : ∀ (j : Nat) x, s[j]? = some x → s.getD j 0 = x := fun j x h => by rw [List.getD_eq_getElem?_getD, h]; rfl
  rw [Lib.trimRightS_take s [32, 9] 0 (by omega) (fun j x hj hx => by
    have hl := (List.getElem?_eq_some_iff.1 hx).1
    have := h1 j hl
    rw [g _ _ hx] at this
    rw [con_bl]; exact this) (fun x h _ => by omega)]
  rfl
theorem trim_same : ∀ c : UInt8, (if (c == 32) = true then true else (c == 9)) = blB c := byAll (by decide +kernel)
theorem m41_eq (s : Bs) (hs : s.length < 2 ^ 60) : m41 s = some (trimL s) := by
  unfold m41 l41_6
  refine iter_to (fun (x : Bs × Int × Int) => x.1 = s ∧ x.2.2 = s.length ∧ 0 ≤ x.2.1 ∧ x.2.1 ≤ s.length ∧ ∀ j, j < x.2.1.toNat → blB (s.getD j 0) = true) (fun (x : Bs × Int × Int) => ((s.length : Int) - x.2.1).toNat) _ ?_ _ ⟨rfl, rfl, by dsimp only; omega, by dsimp only; omega, by dsimp only; intro j hj; omega⟩
  rintro ⟨s', f, n⟩ hI
  dsimp only at hI ⊢
  obtain ⟨rfl, rfl, h0, h1, h2⟩ := hI
  have key : s41_6 s' f s'.length = if f < s'.length then j41_10 s' f s'.length (blB (s'.getD f.toNat 0)) else j41_10 s' f s'.length false := by
    unfold s41_6
    by_cases c : f < s'.length
    · rw [if_pos (by simpa using c), if_pos ⟨h0, c⟩, if_pos c, ← trim_same]
      split <;> rfl
    · rw [if_neg (by simpa using c), if_neg c]
  rw [key]
  unfold j41_10
  by_cases c : f < s'.length
  · rw [if_pos c]
    by_cases b : blB (s'.getD f.toNat 0) = true
    · left
      refine ⟨(s', f + 1, s'.length), by rw [if_pos b, w64_eq (f + 1) (by omega) (by omega)], ⟨rfl, rfl, by dsimp only; omega, by dsimp only; omega, ?_⟩, by dsimp only; omega⟩
      dsimp only
      intro j hj
      by_cases e : j = f.toNat
      · rw [e]; exact b
      · exact h2 j (by omega)
    · right
      rw [if_neg b]
      have hb : blB (s'.getD f.toNat 0) = false := by simpa using b
      congr 1
      unfold j41_15 l41_17
      refine iter_to (fun (x : Bs × Int × Int) => x.1 = s' ∧ x.2.1 = f ∧ f < x.2.2 ∧ x.2.2 ≤ s'.length ∧ ∀ j, x.2.2.toNat ≤ j → j < s'.length → blB (s'.getD j 0) = true) (fun (x : Bs × Int × Int) => x.2.2.toNat) _ ?_ _ ⟨rfl, rfl, c, by dsimp only; omega, by dsimp only; intro j hj hj2; omega⟩
      rintro ⟨s2, f2, t⟩ hI
      dsimp only at hI ⊢
      obtain ⟨rfl, rfl, g0, g1, g2⟩ := hI
      have key2 : s41_17 s2 f2 t = j41_21 s2 f2 t (blB (s2.getD (t - 1).toNat 0)) := by
        unfold s41_17
        rw [if_pos (by simpa using g0), w64_eq (t - 1) (by omega) (by omega), if_pos ⟨by omega, by omega⟩, ← trim_same]
        split <;> rfl
      rw [key2]
      unfold j41_21
      by_cases d : blB (s2.getD (t - 1).toNat 0) = true
      · left
        have hne : t - 1 ≠ f2 := fun e => by rw [e, hb] at d; cases d
        refine ⟨(s2, f2, t - 1), by rw [if_pos d, w64_eq (t - 1) (by omega) (by omega)], ⟨rfl, rfl, by dsimp only; omega, by dsimp only; omega, ?_⟩, by dsimp only; omega⟩
        dsimp only
        intro j hj hj2
        by_cases e : j = (t - 1).toNat
        · rw [e]; exact d
        · exact g2 j (by omega) hj2
      · right
        rw [if_neg d]
        have hd : blB (s2.getD (t - 1).toNat 0) = false := by simpa using d
        congr 1
        unfold j41_26
        have e1 : bnd t s2.length = some t.toNat := by unfold bnd; rw [if_pos ⟨by omega, g1⟩]
        have e2 : bnd f2 t.toNat = some f2.toNat := by unfold bnd; rw [if_pos ⟨h0, by omega⟩]
        rw [e1, Option.bind_some, e2, Option.bind_some, trimL_cut (a := f2.toNat) (b := t.toNat) (by omega) (by omega) h2 hb g2 (by rw [show t.toNat - 1 = (t - 1).toNat by omega]; exact hd)]
  · right
    rw [if_neg c, if_neg (by decide)]
    have e : f = s'.length := by omega
    congr 1
    rw [trimL_nil (fun j hj => h2 j (by omega))]
    subst e
    unfold j41_15 l41_17
    rw [iter_r (r := [])]
    unfold s41_17 j41_21 j41_26
    dsimp only
    rw [if_neg (by simp), if_neg (by decide), bnd_self]
    simp only [Option.bind_some, bnd_self]
    simp
end Go.Ab
end
section
set_option linter.all false
set_option maxRecDepth 100000
open Go Go.Ab Go.Proofs Go.Proofs.YtaohepmbkepmiaaDoor
namespace Go.Ab
theorem rune_lo {l : Bs} {p : Nat} (h : p < l.length) (hl : (l.getD p 0).toNat < 128) : uc l p = (l.getD p 0).toNat ∧ uw l p = 1 := by
  unfold uc uw
  rw [Lib.decode_at, S_get!]
  simp only [Lib.decodeN, hl, if_true, and_self]
theorem rune_hi {l : Bs} {p : Nat} (h : p < l.length) (hl : 128 ≤ (l.getD p 0).toNat) : 128 ≤ uc l p ∧ 1 ≤ uw l p ∧ p + uw l p ≤ l.length ∧ ∀ j, j < uw l p → 128 ≤ (l.getD (p + j) 0).toNat := by
  unfold uc uw
  rw [Lib.decode_at, S_get!, S_get!, S_get!, S_get!, S_size]
  have hn : ¬ (l.getD p 0).toNat < 128 := by omega
  generalize hb0 : (l.getD p 0).toNat = b0 at *
  generalize hb1 : (l.getD (p + 1) 0).toNat = b1 at *
  generalize hb2 : (l.getD (p + 2) 0).toNat = b2 at *
  generalize hb3 : (l.getD (p + 3) 0).toNat = b3 at *
  have z0 : ∀ j, j < 1 → 128 ≤ (l.getD (p + j) 0).toNat := fun j hj => by
    have : j = 0 := by omega
    subst this; simp only [Nat.add_zero]; omega
  unfold Lib.decodeN
  rw [if_neg hn]
  split
  · rename_i g
    split
    · refine ⟨by dsimp only; omega, by dsimp only; omega, by dsimp only; omega, fun j hj => ?_⟩
      have : j = 0 ∨ j = 1 := by dsimp only at hj; omega
      rcases this with rfl | rfl
      · exact z0 0 (by omega)
      · omega
    · exact ⟨by decide, by decide, by dsimp only; omega, z0⟩
  · split
    · rename_i g
      split
      · refine ⟨by dsimp only; omega, by dsimp only; omega, by dsimp only; omega, fun j hj => ?_⟩
        have : j = 0 ∨ j = 1 ∨ j = 2 := by dsimp only at hj; omega
        rcases this with rfl | rfl | rfl
        · exact z0 0 (by omega)
        · omega
        · omega
      · exact ⟨by decide, by decide, by dsimp only; omega, z0⟩
    · split
      · rename_i g
        split
        · refine ⟨by dsimp only; omega, by dsimp only; omega, by dsimp only; omega, fun j hj => ?_⟩
          have : j = 0 ∨ j = 1 ∨ j = 2 ∨ j = 3 := by dsimp only at hj; omega
          rcases this with rfl | rfl | rfl | rfl
          · exact z0 0 (by omega)
          · omega
          · omega
          · omega
        · exact ⟨by decide, by decide, by dsimp only; omega, z0⟩
      · exact ⟨by decide, by decide, by dsimp only; omega, z0⟩
theorem m34_eq (c : UInt8) : m34 c = some (tokB c) := by
  unfold m34
  rw [m51_eq _ (by simp)]
  simp [tokL]
theorem m39_eq (c : UInt8) : m39 c = some (tokB c) := by
  unfold m39
  rw [m55_eq _ (by simp)]
  simp [tokL]
theorem m35_eq (c : UInt8) : m35 c = some (shB c) := by
  unfold m35
  rw [m30_eq _ (by simp)]
  simp
theorem m40_eq : ∀ c, m40 c = some (shB c) := byAll (by decide +kernel)
def dgI (c : UInt8) : Int := if 48 ≤ c ∧ c ≤ 57 then (c.toNat : Int) - 48 else if 97 ≤ c ∧ c ≤ 102 then (c.toNat : Int) - 87 else if 65 ≤ c ∧ c ≤ 70 then (c.toNat : Int) - 55 else -1
def hx (c : UInt8) : Bool := decide (0 ≤ dgI c)
theorem m50_eq : ∀ c : UInt8, m50 (c.toNat : Int) = some (dgI c) := byAll (by decide +kernel)
theorem m69_eq : ∀ c : UInt8, m69 c 16 = some (dgI c) := byAll (by decide +kernel)
theorem dgI_lt : ∀ c : UInt8, dgI c < 16 := byAll (by decide +kernel)
theorem hx_hi : ∀ c : UInt8, 128 ≤ c.toNat → hx c = false := byAll (by decide +kernel)
theorem m50_hi (c : Int) (h : 128 ≤ c) : m50 c = some (-1) := by
  unfold m50 j50_6 j50_12 j50_18
  rw [if_pos (by simp; omega), if_neg (by simp; omega), if_pos (by simp; omega), if_neg (by simp; omega), if_pos (by simp; omega), if_neg (by simp; omega)]
def vF (n : Int) (l : Bs) : Int := l.foldl (fun n c => 16 * n + dgI c) n
theorem vF_cons (n : Int) (c : UInt8) (l : Bs) : vF n (c :: l) = vF (16 * n + dgI c) l := rfl
theorem vF_ge : ∀ (l : Bs) (n : Int), 0 ≤ n → l.all hx = true → n ≤ vF n l
  | [], n, _, _ => Int.le_refl _
  | c :: l, n, h, ha => by
    rw [List.all_cons, Bool.and_eq_true] at ha
    have h1 : 0 ≤ dgI c := of_decide_eq_true ha.1
    have := vF_ge l (16 * n + dgI c) (by omega) ha.2
    rw [vF_cons]
    omega
theorem vF_pow : ∀ (l : Bs) (n : Int), 0 ≤ n → l.all hx = true → n * 16 ^ l.length ≤ vF n l
  | [], n, _, _ => by simp [vF]
  | c :: l, n, h, ha => by
    rw [List.all_cons, Bool.and_eq_true] at ha
    have h1 : 0 ≤ dgI c := of_decide_eq_true ha.1
    have h2 := vF_pow l (16 * n + dgI c) (by omega) ha.2
    rw [vF_cons, List.length_cons, Int.pow_succ]
    refine Int.le_trans ?_ h2
    have h3 : (0 : Int) ≤ 16 ^ l.length := Int.pow_nonneg (by decide)
    have h4 : n * (16 ^ l.length * 16) = (16 * n) * 16 ^ l.length := by rw [Int.mul_comm (16 : Int) n, Int.mul_assoc, Int.mul_comm (16 : Int)]
    rw [h4, Int.add_mul]
    have := Int.mul_nonneg h1 h3
    omega
def Most : Int := 9007199254740991
theorem hM : Most = 9007199254740991 := rfl
def hexR (n : Int) (long : Bool) (l : Bs) : Int × Int := if l.all hx = true then (if long = true ∨ Most < vF n l then (0, 3) else (vF n l, 0)) else (0, 5)
def hexS (s : Bs) : Int × Int := if s = [] then (0, 5) else hexR 0 false s
theorem m49_eq (s : Bs) : m49 s 16 = some (hexS s) := by
  unfold m49 hexS
  by_cases c0 : s = []
  · rw [if_pos (by simpa using c0), if_pos c0]
  rw [if_neg (by simpa using c0), if_neg c0]
  refine (iter_g (fun (x : Int × Int × Bool × Bs × Nat) => x.1 = 16 ∧ 0 ≤ x.2.1 ∧ x.2.1 ≤ Most ∧ x.2.2.2.1 = s ∧ x.2.2.2.2 ≤ s.length) (fun (x : Int × Int × Bool × Bs × Nat) => s.length - x.2.2.2.2) (fun (x : Int × Int × Bool × Bs × Nat) => some (hexR x.2.1 x.2.2.1 (s.drop x.2.2.2.2))) ?_ _ ⟨rfl, Int.le_refl 0, (show (0 : Int) ≤ Most by decide), rfl, Nat.zero_le _⟩).trans rfl
  rintro ⟨b, n, l, s', p⟩ hI
  dsimp only at hI ⊢
  obtain ⟨rfl, h0, h1, rfl, h2⟩ := hI
  unfold s49_16
  by_cases c : p < s'.length
  · rw [if_pos (by simpa using c), drop_cons c]
    by_cases hlo : (s'.getD p 0).toNat < 128
    · obtain ⟨e1, e2⟩ := rune_lo c hlo
      rw [e1, e2, m50_eq, Option.bind_some]
      by_cases c1 : dgI (s'.getD p 0) < 0
      · right
        rw [if_pos (by simpa using c1)]
        unfold hexR
        have hf : hx (s'.getD p 0) = false := decide_eq_false (by omega)
        rw [List.all_cons, hf, Bool.false_and, if_neg (by simp)]
        rfl
      · have hlt := dgI_lt (s'.getD p 0)
        have hh : hx (s'.getD p 0) = true := by unfold hx; exact decide_eq_true (by omega)
        left
        rw [if_neg (by simpa using c1)]
        have hM := hM
        unfold j49_39
        cases l with
        | true =>
          rw [if_pos rfl, if_pos rfl]
          refine ⟨_, rfl, ⟨rfl, h0, h1, rfl, by dsimp only; omega⟩, by dsimp only; omega, ?_⟩
          dsimp only
          unfold hexR
          rw [List.all_cons, hh, Bool.true_and]
          simp
        | false =>
          rw [if_neg (by simp), if_pos (by decide)]
          have w1 : wu64 (dgI (s'.getD p 0)) = dgI (s'.getD p 0) := by rw [wu64m]; exact Int.emod_eq_of_lt (by omega) (by omega)
          have w2 : wu64 (9007199254740991 - dgI (s'.getD p 0)) = 9007199254740991 - dgI (s'.getD p 0) := by rw [wu64m]; exact Int.emod_eq_of_lt (by omega) (by omega)
          have w3 : wu64 ((9007199254740991 - dgI (s'.getD p 0)).tdiv 16) = (9007199254740991 - dgI (s'.getD p 0)) / 16 := by
            rw [Int.tdiv_eq_ediv_of_nonneg (by omega), wu64m]; exact Int.emod_eq_of_lt (by omega) (by omega)
          rw [w1, w2, w3]
          by_cases c2 : (9007199254740991 - dgI (s'.getD p 0)) / 16 < n
          · rw [if_pos (by simpa using c2)]
            refine ⟨_, rfl, ⟨rfl, h0, h1, rfl, by dsimp only; omega⟩, by dsimp only; omega, ?_⟩
            dsimp only
            unfold hexR
            rw [List.all_cons, hh, Bool.true_and, vF_cons]
            by_cases ha : (s'.drop (p + 1)).all hx = true
            · rw [if_pos ha, if_pos ha, if_pos (.inl rfl)]
              have := vF_ge (s'.drop (p + 1)) (16 * n + dgI (s'.getD p 0)) (by omega) ha
              rw [if_pos (.inr (by unfold Most; omega))]
            · rw [if_neg ha, if_neg ha]
          · rw [if_neg (by simpa using c2)]
            have w4 : wu64 (n * 16) = 16 * n := by rw [wu64m, Int.emod_eq_of_lt (by omega) (by omega)]; omega
            have w5 : wu64 (16 * n + dgI (s'.getD p 0)) = 16 * n + dgI (s'.getD p 0) := by rw [wu64m]; exact Int.emod_eq_of_lt (by omega) (by omega)
            rw [w4, w5]
            refine ⟨_, rfl, ⟨rfl, by dsimp only; omega, by dsimp only; omega, rfl, by dsimp only; omega⟩, by dsimp only; omega, ?_⟩
            dsimp only
            unfold hexR
            rw [List.all_cons, hh, Bool.true_and, vF_cons]
    · obtain ⟨e1, e2, e3, e4⟩ := rune_hi c (by omega)
      rw [m50_hi _ (by omega), Option.bind_some, if_pos (by decide)]
      right
      unfold hexR
      rw [List.all_cons, hx_hi _ (by omega), Bool.false_and, if_neg (by simp)]
      rfl
  · right
    rw [if_neg (by simpa using c), List.drop_eq_nil_of_le (by omega)]
    unfold j49_45 hexR vF
    cases l with
    | true => simp
    | false => simp; unfold Most at *; omega
theorem m54_eq (s : Bs) (hs : s.length < 2 ^ 60) : m54 s 16 = some (hexS s) := by
  unfold m54 hexS
  by_cases c0 : s = []
  · subst c0; rfl
  have hl : 0 < s.length := by cases s; exact absurd rfl c0; simp
  rw [if_neg (by simp; exact c0), if_neg c0]
  have key3 : ∀ (q : Bs), q.all hx = true → q.length < 2 ^ 60 → l54_56 q 16 0 0 = some (if Most < vF 0 q then (0, 3) else (vF 0 q, 0)) := by
    intro q hq hq2
    unfold l54_56
    refine (iter_g (fun (x : Bs × Int × Int × Int) => x.1 = q ∧ x.2.1 = 16 ∧ 0 ≤ x.2.2.1 ∧ x.2.2.1 ≤ Most ∧ 0 ≤ x.2.2.2 ∧ x.2.2.2 ≤ q.length) (fun (x : Bs × Int × Int × Int) => ((q.length : Int) - x.2.2.2).toNat) (fun (x : Bs × Int × Int × Int) => some (if Most < vF x.2.2.1 (q.drop x.2.2.2.toNat) then (0, 3) else (vF x.2.2.1 (q.drop x.2.2.2.toNat), 0))) ?_ _ ⟨rfl, rfl, Int.le_refl 0, (show (0 : Int) ≤ Most by decide), Int.le_refl 0, by dsimp only; omega⟩).trans rfl
    rintro ⟨q', b, n, i⟩ hI
    dsimp only at hI ⊢
    obtain ⟨rfl, rfl, h0, h1, h2, h3⟩ := hI
    unfold s54_56
    by_cases c : i < q'.length
    · have hd := drop_cons (l := q') (i := i.toNat) (by omega)
      have ha : (q'.drop i.toNat).all hx = true := List.all_eq_true.2 fun x hx' => List.all_eq_true.1 hq x (List.mem_of_mem_drop hx')
      rw [hd, List.all_cons, Bool.and_eq_true] at ha
      have hh : 0 ≤ dgI (q'.getD i.toNat 0) := of_decide_eq_true ha.1
      have hlt := dgI_lt (q'.getD i.toNat 0)
      have hM := hM
      rw [if_pos (by simpa using c), if_pos ⟨h2, c⟩, m69_eq, Option.bind_some, hd]
      have w1 : wu64 (dgI (q'.getD i.toNat 0)) = dgI (q'.getD i.toNat 0) := by rw [wu64m]; exact Int.emod_eq_of_lt (by omega) (by omega)
      have w4 : wu64 (16 * n) = 16 * n := by rw [wu64m]; exact Int.emod_eq_of_lt (by omega) (by omega)
      have w5 : wu64 (16 * n + dgI (q'.getD i.toNat 0)) = 16 * n + dgI (q'.getD i.toNat 0) := by rw [wu64m]; exact Int.emod_eq_of_lt (by omega) (by omega)
      rw [w1, w4, w5, w64_eq _ (by omega) (by omega)]
      by_cases c2 : 9007199254740991 < 16 * n + dgI (q'.getD i.toNat 0)
      · right
        rw [if_pos (by simpa using c2), vF_cons]
        have := vF_ge (q'.drop (i.toNat + 1)) (16 * n + dgI (q'.getD i.toNat 0)) (by omega) ha.2
        rw [if_pos (by omega)]
        rfl
      · left
        rw [if_neg (by simpa using c2)]
        refine ⟨_, rfl, ⟨rfl, rfl, by dsimp only; omega, by dsimp only; omega, by dsimp only; omega, by dsimp only; omega⟩, by dsimp only; omega, ?_⟩
        dsimp only
        rw [show (i + 1).toNat = i.toNat + 1 by omega, vF_cons]
    · right
      rw [if_neg (by simpa using c), List.drop_eq_nil_of_le (by omega)]
      have hM := hM
      rw [show vF n [] = n from rfl, if_neg (by omega)]
      rfl
  have key2 : ∀ (q : Bs), q ≠ [] → q.all hx = true → q.length < 2 ^ 60 → l54_33 q 16 = some (if Most < vF 0 q then (0, 3) else (vF 0 q, 0)) := by
    intro q hq0 hq hq2
    unfold l54_33
    refine (iter_g (fun (x : Bs × Int) => x.2 = 16 ∧ x.1 ≠ [] ∧ x.1.all hx = true ∧ x.1.length < 2 ^ 60) (fun (x : Bs × Int) => x.1.length) (fun (x : Bs × Int) => some (if Most < vF 0 x.1 then (0, 3) else (vF 0 x.1, 0))) ?_ _ ⟨rfl, hq0, hq, hq2⟩)
    rintro ⟨q', b⟩ hI
    dsimp only at hI ⊢
    obtain ⟨rfl, h0, h1, h2⟩ := hI
    obtain ⟨d, r, rfl⟩ : ∃ d r, q' = d :: r := by cases q' with | nil => exact absurd rfl h0 | cons d r => exact ⟨d, r, rfl⟩
    have h1' := h1
    rw [List.all_cons, Bool.and_eq_true] at h1'
    have fin : ¬ (1 < (d :: r).length ∧ d = 48) → j54_37 (d :: r) 16 false = (some (if Most < vF 0 (d :: r) then ((0 : Int), (3 : Int)) else (vF 0 (d :: r), 0))).map Sum.inr := by
      intro hn
      unfold j54_37 j54_42
      rw [if_neg (by simp)]
      by_cases c : 16 < (d :: r).length
      · rw [if_pos (by simp at c ⊢; omega)]
        have hd : d ≠ 48 := fun e => hn ⟨by omega, e⟩
        have hd1 : 1 ≤ dgI d := by
          have g : 0 ≤ dgI d := of_decide_eq_true h1'.1
          have g2 : ∀ c : UInt8, dgI c = 0 → c = 48 := byAll (by decide +kernel)
          by_cases e : dgI d = 0
          · exact absurd (g2 d e) hd
          · omega
        have := vF_pow r (16 * 0 + dgI d) (by omega) h1'.2
        have hp : (16 : Int) ^ 16 ≤ 16 ^ r.length := by
          have : 16 ≤ r.length := by simp at c; omega
          obtain ⟨k, hk⟩ : ∃ k, r.length = 16 + k := ⟨r.length - 16, by omega⟩
          rw [hk, Int.pow_add]
          have : (1 : Int) ≤ 16 ^ k := by
            have := Int.pow_pos (m := k) (show (0 : Int) < 16 by decide); omega
          omega
        have h6 : (16 : Int) ^ 16 = 18446744073709551616 := by decide
        have hgt : Most < vF 0 (d :: r) := by
          have hM := hM
          have h7 : (16 : Int) ^ r.length ≤ (16 * 0 + dgI d) * 16 ^ r.length := by
            have h8 : (0 : Int) ≤ 16 ^ r.length := Int.pow_nonneg (by decide)
            have h9 := Int.mul_nonneg (show (0 : Int) ≤ dgI d - 1 by omega) h8
            rw [Int.sub_mul] at h9
            simp only [Int.mul_zero, Int.zero_add]
            omega
          rw [vF_cons]
          omega
        rw [if_pos hgt]
      · rw [if_neg (by simp at c ⊢; omega), key3 _ h1 h2]
    unfold s54_33
    by_cases c : 1 < (d :: r).length
    · rw [if_pos (by simp at c ⊢; omega), if_pos (by simp)]
      by_cases e : d = 48
      · left
        subst e
        have hb : bnd 1 ((48 : UInt8) :: r).length = some 1 := by unfold bnd; rw [if_pos ⟨by decide, by omega⟩]; rfl
        refine ⟨(r, 16), ?_, ⟨rfl, ?_, h1'.2, by have : ((48 : UInt8) :: r).length = r.length + 1 := rfl; dsimp only; omega⟩, by simp, ?_⟩
        · unfold j54_37
          rw [if_pos (show (((48 : UInt8) :: r).getD 0 0 == (48 : UInt8)) = true from rfl), hb]
          rfl
        · intro e; subst e; simp at c
        · have : vF 0 ((48 : UInt8) :: r) = vF 0 r := rfl
          dsimp only
          rw [this]
      · right
        have : (((d :: r).getD 0 0) == (48 : UInt8)) = false := by simpa using e
        rw [this]
        exact fin (fun h => e h.2)
    · right
      rw [if_neg (by have : (d :: r).length = r.length + 1 := rfl; simp only [decide_eq_true_eq]; omega)]
      exact fin (fun h => c h.1)
  unfold l54_14
  refine (iter_g (fun (x : Bs × Int × Int) => x.1 = s ∧ x.2.1 = 16 ∧ 0 ≤ x.2.2 ∧ x.2.2 ≤ s.length ∧ (s.all hx = (s.drop x.2.2.toNat).all hx)) (fun (x : Bs × Int × Int) => ((s.length : Int) - x.2.2).toNat) (fun _ => some (hexR 0 false s)) ?_ _ ⟨rfl, rfl, Int.le_refl 0, by dsimp only; omega, rfl⟩).trans rfl
  rintro ⟨s', b, i⟩ hI
  dsimp only at hI ⊢
  obtain ⟨rfl, rfl, h0, h1, h2⟩ := hI
  unfold s54_14
  by_cases c : i < s'.length
  · have hd := drop_cons (l := s') (i := i.toNat) (by omega)
    rw [hd, List.all_cons] at h2
    rw [if_pos (by simpa using c), if_pos ⟨h0, c⟩, m69_eq, Option.bind_some]
    by_cases c1 : dgI (s'.getD i.toNat 0) < 0
    · right
      rw [if_pos (by simpa using c1)]
      have : hx (s'.getD i.toNat 0) = false := decide_eq_false (by omega)
      rw [this, Bool.false_and] at h2
      unfold hexR
      rw [if_neg (by rw [h2]; simp)]
      rfl
    · left
      have : hx (s'.getD i.toNat 0) = true := decide_eq_true (by omega)
      rw [this, Bool.true_and] at h2
      rw [if_neg (by simpa using c1), w64_eq _ (by omega) (by omega)]
      refine ⟨_, rfl, ⟨rfl, rfl, by dsimp only; omega, by dsimp only; omega, ?_⟩, by dsimp only; omega, rfl⟩
      dsimp only
      rw [show (i + 1).toNat = i.toNat + 1 by omega]
      exact h2
  · right
    rw [List.drop_eq_nil_of_le (by omega)] at h2
    rw [if_neg (by simpa using c)]
    unfold j54_31
    rw [key2 s' c0 h2 hs]
    unfold hexR
    have h3 : s'.all hx = true := h2
    rw [if_pos h3]
    simp
end Go.Ab
end
section
set_option linter.all false
set_option maxRecDepth 100000
open Go Go.Ab Go.Proofs Go.Proofs.YtaohepmbkepmiaaDoor
namespace Go.Ab
theorem m31_eq (s : Bs) : m31 s = some (hexS s) := by unfold m31; rw [m49_eq]; rfl
theorem m38_eq (s : Bs) (hs : s.length < 2 ^ 60) : m38 s = some (hexS s) := by unfold m38; rw [m54_eq s hs]; rfl
theorem idx_at {s : Bs} {c : UInt8} {i : Nat} (h : s[i]? = some c) (hn : ∀ k, k < i → s[k]? ≠ some c) : Lib.indexByte s c = i := by
  have hg := Lib.indexByte_ge s c
  by_cases e : Lib.indexByte s c = -1
  · exact absurd h (Lib.indexByte_none e i)
  · obtain ⟨o, ho⟩ : ∃ o : Nat, Lib.indexByte s c = o := ⟨(Lib.indexByte s c).toNat, by omega⟩
    obtain ⟨h1, h2⟩ := Lib.indexByte_some ho
    rcases Nat.lt_trichotomy o i with g | g | g
    · exact absurd h1 (hn o g)
    · rw [ho, g]
    · exact absurd h (h2 i g)
theorem idx_no {s : Bs} {c : UInt8} (hn : ∀ k, k < s.length → s[k]? ≠ some c) : Lib.indexByte s c = -1 := by
  have hg := Lib.indexByte_ge s c
  by_cases e : Lib.indexByte s c = -1
  · exact e
  · obtain ⟨o, ho⟩ : ∃ o : Nat, Lib.indexByte s c = o := ⟨(Lib.indexByte s c).toNat, by omega⟩
    obtain ⟨h1, h2⟩ := Lib.indexByte_some ho
    by_cases g : o < s.length
    · exact absurd h1 (hn o g)
    · rw [List.getElem?_eq_none (by omega)] at h1; cases h1
theorem idx_lt {l : Bs} {c : UInt8} (h : 0 ≤ Lib.indexByte l c) : Lib.indexByte l c < l.length := by
  obtain ⟨o, ho⟩ : ∃ o : Nat, Lib.indexByte l c = o := ⟨(Lib.indexByte l c).toNat, by omega⟩
  have h1 := (Lib.indexByte_some ho).1
  have : o < l.length := by
    by_cases g : o < l.length
    · exact g
    · rw [List.getElem?_eq_none (by omega)] at h1; cases h1
  omega
def hexE (r : Int × Int) : Int × Int := if r.2 = 0 then (r.1, 0) else if r.2 = 3 then (0, 21) else (0, 20)
def sizeS (s : Bs) : Int × Int :=
  if 0 ≤ Lib.indexByte s 59 then (if (s.drop ((Lib.indexByte s 59).toNat + 1)).all shB = true then hexE (hexS (s.take (Lib.indexByte s 59).toNat)) else (0, 20)) else hexE (hexS s)
theorem hexS_nn (s : Bs) : 0 ≤ (hexS s).1 ∧ ((hexS s).2 = 0 ∨ (hexS s).2 = 3 ∨ (hexS s).2 = 5) := by
  unfold hexS hexR
  split
  · exact ⟨by decide, .inr (.inr rfl)⟩
  · split
    · rename_i h
      have := vF_ge s 0 (Int.le_refl 0) h
      split
      · exact ⟨by decide, .inr (.inl rfl)⟩
      · exact ⟨this, .inl rfl⟩
    · exact ⟨by decide, .inr (.inr rfl)⟩
theorem sizeS_nn (s : Bs) : 0 ≤ (sizeS s).1 ∧ ((sizeS s).2 = 0 ∨ (sizeS s).2 = 20 ∨ (sizeS s).2 = 21) := by
  have key : ∀ q : Bs, 0 ≤ (hexE (hexS q)).1 ∧ ((hexE (hexS q)).2 = 0 ∨ (hexE (hexS q)).2 = 20 ∨ (hexE (hexS q)).2 = 21) := by
    intro q
    have := (hexS_nn q).1
    unfold hexE
    split
    · exact ⟨this, .inl rfl⟩
    · split
      · exact ⟨by decide, .inr (.inr rfl)⟩
      · exact ⟨by decide, .inr (.inl rfl)⟩
  unfold sizeS
  split
  · split
    · exact key _
    · exact ⟨by decide, .inr (.inl rfl)⟩
  · exact key _
theorem j18_eq (s : Bs) : j18_7 s false = some (hexE (hexS s)) := by
  unfold j18_7 hexE
  rw [if_neg (by simp), m31_eq, Option.bind_some]
  by_cases a : (hexS s).2 = 0
  · rw [if_pos (by simpa using a), if_pos a]
  · rw [if_neg (by simpa using a), if_neg a]
    by_cases b : (hexS s).2 = 3
    · rw [if_pos (by simpa using b), if_pos b]
    · rw [if_neg (by simpa using b), if_neg b]
theorem m18_eq (s : Bs) (hs : s.length < 2 ^ 30) : m18 s = some (sizeS s) := by
  unfold m18 m29 m46 mIx sizeS
  rw [if_pos (by omega), Option.bind_some, Lib.index_one]
  by_cases c : 0 ≤ Lib.indexByte s 59
  · have hl := idx_lt c
    rw [if_pos (by simpa using c), if_pos c]
    simp only [List.length_cons, List.length_nil]
    unfold bnd
    rw [w64_eq _ (by omega) (by omega), if_pos ⟨c, by omega⟩, Option.bind_some, if_pos ⟨by omega, by omega⟩]
    simp only [Option.bind_some]
    rw [if_pos trivial, m30_eq _ (by simp; omega), Option.bind_some, show (Lib.indexByte s 59 + ((0 + 1 : Nat) : Int)).toNat = (Lib.indexByte s 59).toNat + 1 by omega]
    cases e : (s.drop ((Lib.indexByte s 59).toNat + 1)).all shB with
    | true => simp only [Bool.not_true, if_true]; exact j18_eq _
    | false => simp only [Bool.not_false]; rfl
  · rw [if_neg (by simpa using c), if_neg c]
    simp only [Option.bind_some]
    rw [if_neg (by simp)]
    exact j18_eq s
theorem j21_28_eq {s : Bs} {i : Int} (h0 : 0 ≤ i) (h1 : i ≤ s.length) (hs : s.length < 2 ^ 60) : j21_28 s i false = some (hexE (hexS (s.take i.toNat))) := by
  unfold j21_28 bnd hexE
  rw [if_neg (by simp), if_pos ⟨h0, h1⟩, Option.bind_some, m38_eq _ (by simp; omega), Option.bind_some]
  rcases (hexS_nn (s.take i.toNat)).2 with e | e | e
  · simp [e]
  · simp [e]
  · simp [e]
theorem l21_eq (s : Bs) (hs : s.length < 2 ^ 60) : l21_16 s 0 = some (sizeS s) := by
  unfold l21_16
  refine iter_to (fun (x : Bs × Int) => x.1 = s ∧ 0 ≤ x.2 ∧ x.2 ≤ s.length ∧ ∀ k, k < x.2.toNat → s[k]? ≠ some 59) (fun (x : Bs × Int) => ((s.length : Int) - x.2).toNat) (some (sizeS s)) ?_ _ ⟨rfl, Int.le_refl 0, by dsimp only; omega, by intro k hk; exact absurd hk (Nat.not_lt_zero _)⟩
  rintro ⟨s', i⟩ hI
  dsimp only at hI ⊢
  obtain ⟨rfl, h0, h1, h2⟩ := hI
  unfold s21_16
  by_cases c : i < s'.length
  · have hg : s'[i.toNat]? = some (s'.getD i.toNat 0) := by rw [List.getD_eq_getElem?_getD, List.getElem?_eq_getElem (by omega)]; rfl
    rw [if_pos (by simpa using c), if_pos ⟨h0, c⟩]
    by_cases e : s'.getD i.toNat 0 = 59
    · right
      have hi : Lib.indexByte s' 59 = i := by rw [idx_at (i := i.toNat) (by rw [hg, e]) h2]; omega
      have e2 : (!(s'.getD i.toNat 0 == (59 : UInt8))) = false := by rw [e]; rfl
      rw [e2]
      unfold j21_20 j21_25 sizeS
      rw [if_neg (by simp), if_pos (by simpa using c), w64_eq _ (by omega) (by omega)]
      unfold bnd
      rw [if_pos ⟨by omega, by omega⟩, Option.bind_some, m37_eq _ (by simp; omega), Option.bind_some, hi, if_pos h0, show (i + 1).toNat = i.toNat + 1 by omega]
      cases g : (s'.drop (i.toNat + 1)).all shB with
      | true => rw [Bool.not_true, j21_28_eq h0 h1 hs]; rfl
      | false => rfl
    · left
      have e2 : (!(s'.getD i.toNat 0 == (59 : UInt8))) = true := by simp [-List.getD_eq_getElem?_getD, e]
      rw [e2]
      unfold j21_20
      rw [if_pos rfl, w64_eq _ (by omega) (by omega)]
      refine ⟨_, rfl, ⟨rfl, by dsimp only; omega, by dsimp only; omega, ?_⟩, by dsimp only; omega⟩
      intro k hk
      by_cases q : k = i.toNat
      · subst q; rw [hg]; intro w; exact e (Option.some.inj w)
      · exact h2 k (by dsimp only at hk; omega)
  · right
    have hi : Lib.indexByte s' 59 = -1 := idx_no fun k hk => h2 k (by omega)
    rw [if_neg (by simpa using c)]
    unfold j21_20 j21_25 sizeS
    rw [if_neg (by simp), if_neg (by simpa using c), hi, if_neg (by decide), j21_28_eq h0 h1 hs, List.take_of_length_le (by omega)]
theorem m21_eq (s : Bs) (hs : s.length < 2 ^ 50) (hn : s.getD (s.length - 1) 0 = 10) (h0 : 1 ≤ s.length) :
    m21 s = some (if 2 ≤ s.length ∧ s.getD (s.length - 2) 0 = 13 then sizeS (s.take (s.length - 2)) else (0, 20)) := by
  unfold m21
  by_cases c : 2 ≤ s.length
  · rw [if_neg (by simp; omega), w64_eq ((s.length : Int) - 2) (by omega) (by omega), w64_eq ((s.length : Int) - 1) (by omega) (by omega)]
    rw [if_pos (show 0 ≤ (s.length : Int) - 2 ∧ (s.length : Int) - 2 < s.length from ⟨by omega, by omega⟩), show ((s.length : Int) - 2).toNat = s.length - 2 by omega]
    unfold j21_5
    by_cases e : s.getD (s.length - 2) 0 = 13
    · rw [if_pos (by simpa [-List.getD_eq_getElem?_getD] using e)]
      rw [if_pos (show 0 ≤ (s.length : Int) - 1 ∧ (s.length : Int) - 1 < s.length from ⟨by omega, by omega⟩), show ((s.length : Int) - 1).toNat = s.length - 1 by omega, hn]
      rw [if_neg (by decide), if_pos ⟨c, e⟩]
      unfold bnd
      rw [w64_eq ((s.length : Int) - 2) (by omega) (by omega), if_pos ⟨by omega, by omega⟩, Option.bind_some, show ((s.length : Int) - 2).toNat = s.length - 2 by omega]
      exact l21_eq _ (by simp; omega)
    · rw [if_neg (by simpa [-List.getD_eq_getElem?_getD] using e), if_pos rfl, if_neg (fun h => e h.2)]
  · rw [if_pos (by simp; omega), if_neg (fun h => c h.1)]
    rfl
end Go.Ab
end
section
set_option linter.all false
set_option maxRecDepth 100000
open Go Go.Ab Go.Proofs Go.Proofs.YtaohepmbkepmiaaDoor
namespace Go.Ab
abbrev T20 := (Bool × List UInt8 × Bool × List (Bs × Bs) × Int × Int × Int × Bool × List UInt8 × Int × UInt8)
abbrev S20 := ((Bool × List UInt8) ⊕ T20 ⊕ T20 ⊕ T20 ⊕ T20 ⊕ T20 ⊕ T20 ⊕ T20 ⊕ T20)
abbrev T22 := (Bool × List UInt8 × Bool × List (Bs × Bs) × Bs × Bs × Int × Int × Int)
noncomputable def g22 : T22 → Option (T22 ⊕ R22) := fun x => s22_12 x.1 x.2.1 x.2.2.1 x.2.2.2.1 x.2.2.2.2.1 x.2.2.2.2.2.1 x.2.2.2.2.2.2.1 x.2.2.2.2.2.2.2.1 x.2.2.2.2.2.2.2.2
def nErr : R20 → Int × Int
  | .inl (z, l, n, e) => (n, e)
  | .inr (z, l, n, e) => (n, e)
def RES (t : T22) (x : Int × Int) : Prop := ∃ r, iter g22 t = some r ∧ nErr r = x
theorem RES.step {t t' : T22} {x} (h : g22 t = some (.inl t')) (hr : RES t' x) : RES t x := by
  obtain ⟨r, h1, h2⟩ := hr
  exact ⟨r, by rw [iter_l h]; exact h1, h2⟩
theorem RES.done {t : T22} {r : R22} (h : g22 t = some (.inr r)) : RES t (nErr r) := ⟨r, iter_r h, rfl⟩
def TT (b : Bs) (n : Nat) (p g a : Int) (t : T22) : Prop := t.2.1 = b ∧ t.2.2.2.1.length = n ∧ (t.2.2.2.2.1.length : Int) ≤ a ∧ (t.2.2.2.2.2.1.length : Int) ≤ a ∧ t.2.2.2.2.2.2.1 = p ∧ t.2.2.2.2.2.2.2.1 = g ∧ t.2.2.2.2.2.2.2.2 = a
section
variable {b : Bs} {n : Nat} {p g a : Int} {t : T22}
theorem TT.more (h : TT b n p g a t) (ha : a = b.length) : RES t (0, 8) := by
  obtain ⟨w, b1, y, l, nm, vl, p1, g1, a1⟩ := t
  obtain ⟨h1, h2, h3, h4, h5, h6, h7⟩ := h
  dsimp only at h1 h2 h3 h4 h5 h6 h7
  subst h1 h2 h5 h6 h7
  have : g22 (w, b1, y, l, nm, vl, p1, g1, a1) = some (.inr (.inl (true, [], 0, 8))) := by
    unfold g22 s22_12
    dsimp only
    rw [if_neg (by simp; omega)]
    rfl
  exact RES.done this
theorem TT.big (h : TT b n p g a t) (ha : 2048 ≤ a) (hl : a < b.length) : RES t (0, 21) := by
  obtain ⟨w, b1, y, l, nm, vl, p1, g1, a1⟩ := t
  obtain ⟨h1, h2, h3, h4, h5, h6, h7⟩ := h
  dsimp only at h1 h2 h3 h4 h5 h6 h7
  subst h1 h2 h5 h6 h7
  have : g22 (w, b1, y, l, nm, vl, p1, g1, a1) = some (.inr (.inl (true, [], 0, 21))) := by
    unfold g22 s22_12
    dsimp only
    rw [if_pos (by simpa using hl), if_pos ⟨by omega, hl⟩, if_pos (by simpa using ha)]
  exact RES.done this
theorem TT.p0 (h : TT b n 0 0 a t) (h0 : 0 ≤ a) (ha : a < 2048) (hl : a < b.length) :
    (b.getD a.toNat default = 13 → ∃ t', TT b n 4 0 (a + 1) t' ∧ ∀ x, RES t' x → RES t x) ∧
    (b.getD a.toNat default ≠ 13 → n = 32 → RES t (0, 21)) ∧
    (b.getD a.toNat default ≠ 13 → n ≠ 32 → tokB (b.getD a.toNat default) = true → ∃ t', TT b n 1 1 (a + 1) t' ∧ ∀ x, RES t' x → RES t x) ∧
    (b.getD a.toNat default ≠ 13 → n ≠ 32 → tokB (b.getD a.toNat default) = false → RES t (0, 20)) := by
  obtain ⟨w, b1, y, l, nm, vl, p1, g1, a1⟩ := t
  obtain ⟨h1, h2, h3, h4, h5, h6, h7⟩ := h
  dsimp only at h1 h2 h3 h4 h5 h6 h7
  subst h1 h2 h5 h6 h7
  have st : g22 (w, b1, y, l, nm, vl, 0, 0, a1) = j22_34 w b1 y l nm vl 0 0 a1 (b1.getD a1.toNat default) (!((b1.getD a1.toNat default) == (13 : UInt8))) := by
    unfold g22 s22_12
    dsimp only
    rw [if_pos (by simpa using hl), if_pos ⟨h0, hl⟩, if_neg (by simp; omega), if_pos (by simp)]
  generalize b1.getD a1.toNat default = c at *
  unfold j22_34 j22_38 j22_53 j22_133 at st
  rw [w64_eq (a1 + 1) (by omega) (by omega)] at st
  refine ⟨fun e => ?_, fun e hn => ?_, fun e hn ht => ?_, fun e hn ht => ?_⟩
  · subst e
    exact ⟨_, ⟨rfl, rfl, by dsimp only; omega, by dsimp only; omega, rfl, rfl, rfl⟩, fun x => RES.step st⟩
  · have hc : (!(c == (13 : UInt8))) = true := by simp [e]
    have hl32 : ((l.length : Int) == 32) = true := by simp; omega
    rw [hc, if_pos rfl, if_pos (by decide), hl32, if_pos rfl] at st
    exact RES.done st
  · have hc : (!(c == (13 : UInt8))) = true := by simp [e]
    have hl32 : ((l.length : Int) == 32) = false := by simp; omega
    rw [hc, if_pos rfl, if_pos (by decide), hl32, if_neg (by simp), if_neg (by decide), if_pos (by decide), if_neg (by simpa using e), m39_eq, ht, Option.bind_some, if_pos rfl] at st
    exact ⟨_, ⟨rfl, rfl, by simp; omega, by dsimp only; omega, rfl, rfl, rfl⟩, fun x => RES.step st⟩
  · have hc : (!(c == (13 : UInt8))) = true := by simp [e]
    have hl32 : ((l.length : Int) == 32) = false := by simp; omega
    rw [hc, if_pos rfl, if_pos (by decide), hl32, if_neg (by simp), if_neg (by decide), if_pos (by decide), if_neg (by simpa using e), m39_eq, ht, Option.bind_some, if_neg (by simp)] at st
    exact RES.done st
theorem TT.p1 (h : TT b n 1 g a t) (h0 : 0 ≤ a) (ha : a < 2048) (hl : a < b.length) (hg : 0 ≤ g) (hg2 : g ≤ a) :
    (b.getD a.toNat default ≠ 13 → 512 < g + 1 → RES t (0, 21)) ∧
    (b.getD a.toNat default = 13 → RES t (0, 20)) ∧
    (b.getD a.toNat default = 58 → g + 1 ≤ 512 → ∃ t', TT b n 2 (g + 1) (a + 1) t' ∧ ∀ x, RES t' x → RES t x) ∧
    (b.getD a.toNat default ≠ 13 → b.getD a.toNat default ≠ 58 → g + 1 ≤ 512 → tokB (b.getD a.toNat default) = true → ∃ t', TT b n 1 (g + 1) (a + 1) t' ∧ ∀ x, RES t' x → RES t x) ∧
    (b.getD a.toNat default ≠ 13 → b.getD a.toNat default ≠ 58 → g + 1 ≤ 512 → tokB (b.getD a.toNat default) = false → RES t (0, 20)) := by
  obtain ⟨w, b1, y, l, nm, vl, p1, g1, a1⟩ := t
  obtain ⟨h1, h2, h3, h4, h5, h6, h7⟩ := h
  dsimp only at h1 h2 h3 h4 h5 h6 h7
  subst h1 h2 h5 h6 h7
  have st : g22 (w, b1, y, l, nm, vl, 1, g1, a1) = j22_34 w b1 y l nm vl 1 g1 a1 (b1.getD a1.toNat default) (!((b1.getD a1.toNat default) == (13 : UInt8))) := by
    unfold g22 s22_12
    dsimp only
    rw [if_pos (by simpa using hl), if_pos ⟨h0, hl⟩, if_neg (by simp; omega), if_pos (by simp)]
  generalize b1.getD a1.toNat default = c at *
  unfold j22_34 j22_38 j22_53 j22_133 at st
  rw [w64_eq (a1 + 1) (by omega) (by omega), w64_eq (g1 + 1) (by omega) (by omega)] at st
  refine ⟨fun e hn => ?_, fun e => ?_, fun e hn => ?_, fun e e2 hn ht => ?_, fun e e2 hn ht => ?_⟩
  · have hc : (!(c == (13 : UInt8))) = true := by simp [e]
    rw [hc, if_pos rfl, if_neg (by decide), if_neg (by simp), if_pos (by simpa using hn)] at st
    exact RES.done st
  · subst e
    have k : tokB 13 = false := by decide
    rw [if_neg (by decide), if_neg (by decide), if_pos (by decide), if_neg (by decide), m39_eq, k, Option.bind_some, if_neg (by simp)] at st
    exact RES.done st
  · subst e
    rw [if_pos (by decide), if_neg (by decide), if_neg (by simp), if_neg (by simp; omega), if_neg (by decide), if_pos (by decide), if_pos (by decide)] at st
    exact ⟨_, ⟨rfl, rfl, by dsimp only; omega, by simp; omega, rfl, rfl, rfl⟩, fun x => RES.step st⟩
  · have hc : (!(c == (13 : UInt8))) = true := by simp [e]
    rw [hc, if_pos rfl, if_neg (by decide), if_neg (by simp), if_neg (by simp; omega), if_neg (by decide), if_pos (by decide), if_neg (by simpa using e2), m39_eq, ht, Option.bind_some, if_pos rfl, if_pos (by simp; omega)] at st
    exact ⟨_, ⟨rfl, rfl, by simp; omega, by dsimp only; omega, rfl, rfl, rfl⟩, fun x => RES.step st⟩
  · have hc : (!(c == (13 : UInt8))) = true := by simp [e]
    rw [hc, if_pos rfl, if_neg (by decide), if_neg (by simp), if_neg (by simp; omega), if_neg (by decide), if_pos (by decide), if_neg (by simpa using e2), m39_eq, ht, Option.bind_some, if_neg (by simp)] at st
    exact RES.done st
theorem TT.p2 (h : TT b n 2 g a t) (h0 : 0 ≤ a) (ha : a < 2048) (hl : a < b.length) (hg : 0 ≤ g) (hg2 : g ≤ a) :
    (b.getD a.toNat default = 13 → ∃ t', TT b n 3 g (a + 1) t' ∧ ∀ x, RES t' x → RES t x) ∧
    (b.getD a.toNat default ≠ 13 → 512 < g + 1 → RES t (0, 21)) ∧
    (b.getD a.toNat default ≠ 13 → g + 1 ≤ 512 → shB (b.getD a.toNat default) = true → ∃ t', TT b n 2 (g + 1) (a + 1) t' ∧ ∀ x, RES t' x → RES t x) ∧
    (b.getD a.toNat default ≠ 13 → g + 1 ≤ 512 → shB (b.getD a.toNat default) = false → RES t (0, 20)) := by
  obtain ⟨w, b1, y, l, nm, vl, p1, g1, a1⟩ := t
  obtain ⟨h1, h2, h3, h4, h5, h6, h7⟩ := h
  dsimp only at h1 h2 h3 h4 h5 h6 h7
  subst h1 h2 h5 h6 h7
  have st : g22 (w, b1, y, l, nm, vl, 2, g1, a1) = j22_34 w b1 y l nm vl 2 g1 a1 (b1.getD a1.toNat default) (!((b1.getD a1.toNat default) == (13 : UInt8))) := by
    unfold g22 s22_12
    dsimp only
    rw [if_pos (by simpa using hl), if_pos ⟨h0, hl⟩, if_neg (by simp; omega), if_pos (by simp)]
  generalize b1.getD a1.toNat default = c at *
  unfold j22_34 j22_38 j22_53 j22_133 at st
  rw [w64_eq (a1 + 1) (by omega) (by omega), w64_eq (g1 + 1) (by omega) (by omega)] at st
  refine ⟨fun e => ?_, fun e hn => ?_, fun e hn ht => ?_, fun e hn ht => ?_⟩
  · subst e
    rw [if_neg (by decide), if_neg (by decide), if_neg (by decide), if_pos (by decide), if_pos (by decide)] at st
    exact ⟨_, ⟨rfl, rfl, by dsimp only; omega, by dsimp only; omega, rfl, rfl, rfl⟩, fun x => RES.step st⟩
  · have hc : (!(c == (13 : UInt8))) = true := by simp [e]
    rw [hc, if_pos rfl, if_neg (by decide), if_neg (by simp), if_pos (by simpa using hn)] at st
    exact RES.done st
  · have hc : (!(c == (13 : UInt8))) = true := by simp [e]
    rw [hc, if_pos rfl, if_neg (by decide), if_neg (by simp), if_neg (by simp; omega), if_neg (by decide), if_neg (by decide), if_pos (by decide), if_neg (by simpa using e), m40_eq, ht, Option.bind_some, if_pos rfl, if_pos (by simp; omega)] at st
    exact ⟨_, ⟨rfl, rfl, by dsimp only; omega, by simp; omega, rfl, rfl, rfl⟩, fun x => RES.step st⟩
  · have hc : (!(c == (13 : UInt8))) = true := by simp [e]
    rw [hc, if_pos rfl, if_neg (by decide), if_neg (by simp), if_neg (by simp; omega), if_neg (by decide), if_neg (by decide), if_pos (by decide), if_neg (by simpa using e), m40_eq, ht, Option.bind_some, if_neg (by simp)] at st
    exact RES.done st
theorem TT.p3 (h : TT b n 3 g a t) (h0 : 0 ≤ a) (ha : a < 2048) (hl : a < b.length) (hn : n ≤ 4096) :
    (b.getD a.toNat default = 10 → ∃ t', TT b (n + 1) 0 0 (a + 1) t' ∧ ∀ x, RES t' x → RES t x) ∧
    (b.getD a.toNat default ≠ 10 → RES t (0, 20)) := by
  obtain ⟨w, b1, y, l, nm, vl, p1, g1, a1⟩ := t
  obtain ⟨h1, h2, h3, h4, h5, h6, h7⟩ := h
  dsimp only at h1 h2 h3 h4 h5 h6 h7
  subst h1 h2 h5 h6 h7
  have st : g22 (w, b1, y, l, nm, vl, 3, g1, a1) = j22_34 w b1 y l nm vl 3 g1 a1 (b1.getD a1.toNat default) false := by
    unfold g22 s22_12
    dsimp only
    rw [if_pos (by simpa using hl), if_pos ⟨h0, hl⟩, if_neg (by simp; omega), if_neg (by simp)]
  generalize b1.getD a1.toNat default = c at *
  unfold j22_34 j22_53 j22_133 at st
  rw [w64_eq (a1 + 1) (by omega) (by omega), if_neg (by simp), if_neg (by decide), if_neg (by decide), if_neg (by decide), if_pos (by decide)] at st
  refine ⟨fun e => ?_, fun e => ?_⟩
  · subst e
    rw [if_pos (by decide), m41_eq _ (by omega), Option.bind_some, if_pos (by omega)] at st
    exact ⟨_, ⟨rfl, by simp, by dsimp only; omega, by dsimp only; omega, rfl, rfl, rfl⟩, fun x => RES.step st⟩
  · rw [if_neg (by simpa using e)] at st
    exact RES.done st
theorem TT.p4 (h : TT b n 4 g a t) (h0 : 0 ≤ a) (ha : a < 2048) (hl : a < b.length) :
    (b.getD a.toNat default = 10 → RES t (a + 1, 0)) ∧ (b.getD a.toNat default ≠ 10 → RES t (0, 20)) := by
  obtain ⟨w, b1, y, l, nm, vl, p1, g1, a1⟩ := t
  obtain ⟨h1, h2, h3, h4, h5, h6, h7⟩ := h
  dsimp only at h1 h2 h3 h4 h5 h6 h7
  subst h1 h2 h5 h6 h7
  have st : g22 (w, b1, y, l, nm, vl, 4, g1, a1) = j22_34 w b1 y l nm vl 4 g1 a1 (b1.getD a1.toNat default) false := by
    unfold g22 s22_12
    dsimp only
    rw [if_pos (by simpa using hl), if_pos ⟨h0, hl⟩, if_neg (by simp; omega), if_neg (by simp)]
  generalize b1.getD a1.toNat default = c at *
  unfold j22_34 j22_53 j22_133 at st
  rw [w64_eq (a1 + 1) (by omega) (by omega), if_neg (by simp), if_neg (by decide), if_neg (by decide), if_neg (by decide), if_neg (by decide), if_pos (by decide)] at st
  refine ⟨fun e => ?_, fun e => ?_⟩
  · subst e
    rw [if_pos (by decide)] at st
    exact RES.done st
  · rw [if_neg (by simpa using e)] at st
    exact RES.done st
end
def C20 (b b1 b2 : Bs) (l : List (Bs × Bs)) (f a : Int) : Prop := b1 = b ∧ b2 = b ∧ 0 ≤ f ∧ f ≤ a ∧ a ≤ b.length ∧ a ≤ 2048 ∧ (l.length : Int) ≤ a
def PP (b : Bs) : S20 → T22 → Prop
  | .inl x, t => x.2 = b ∧ TT b 0 0 0 0 t
  | .inr (.inl (z, b1, l0, l, f, o, e, hz, b2, a, c)), t => C20 b b1 b2 l f a ∧ ∃ g, TT b l.length 4 g a t
  | .inr (.inr (.inl (z, b1, l0, l, f, o, e, hz, b2, a, c))), t => C20 b b1 b2 l f a ∧ f + 1 ≤ o ∧ o ≤ a ∧ TT b l.length 2 (a - f) a t
  | .inr (.inr (.inr (.inl x))), t => RES t (0, 21)
  | .inr (.inr (.inr (.inr (.inl (z, b1, l0, l, f, o, e, hz, b2, a, c))))), t => C20 b b1 b2 l f a ∧ f < a ∧ c = b.getD (a - 1).toNat default ∧
      ((a - 1 = f ∧ c ≠ 13 ∧ l.length ≠ 32 ∧ TT b l.length 0 0 (a - 1) t) ∨ (f < a - 1 ∧ (c ≠ 13 → a - f ≤ 512) ∧ TT b l.length 1 (a - 1 - f) (a - 1) t))
  | .inr (.inr (.inr (.inr (.inr (.inl x))))), t => RES t (0, x.2.2.2.2.2.2.1)
  | .inr (.inr (.inr (.inr (.inr (.inr (.inl x)))))), t => RES t (0, 20)
  | .inr (.inr (.inr (.inr (.inr (.inr (.inr (.inl (z, b1, l0, l, f, o, e, hz, b2, a, c)))))))), t => C20 b b1 b2 l f a ∧ f + 1 ≤ o ∧ o + 1 ≤ a ∧ ∃ g, TT b l.length 3 g a t
  | .inr (.inr (.inr (.inr (.inr (.inr (.inr (.inr (z, b1, l0, l, f, o, e, hz, b2, a, c)))))))), t => C20 b b1 b2 l f a ∧ TT b l.length 0 0 a t
def mu20 (b : Bs) : S20 → Nat
  | .inl x => 3 * b.length + 3
  | .inr (.inl (z, b1, l0, l, f, o, e, hz, b2, a, c)) => 3 * ((b.length : Int) - a).toNat + 1
  | .inr (.inr (.inl (z, b1, l0, l, f, o, e, hz, b2, a, c))) => 3 * ((b.length : Int) - a).toNat + 1
  | .inr (.inr (.inr (.inl x))) => 0
  | .inr (.inr (.inr (.inr (.inl (z, b1, l0, l, f, o, e, hz, b2, a, c))))) => 3 * ((b.length : Int) - a).toNat + 2
  | .inr (.inr (.inr (.inr (.inr (.inl x))))) => 0
  | .inr (.inr (.inr (.inr (.inr (.inr (.inl x)))))) => 0
  | .inr (.inr (.inr (.inr (.inr (.inr (.inr (.inl (z, b1, l0, l, f, o, e, hz, b2, a, c)))))))) => 3 * ((b.length : Int) - a).toNat + 1
  | .inr (.inr (.inr (.inr (.inr (.inr (.inr (.inr (z, b1, l0, l, f, o, e, hz, b2, a, c)))))))) => 3 * ((b.length : Int) - a).toNat + 1
inductive Gone (b : Bs) (n : Nat) (t : T22) : Option (S20 ⊕ R20) → Prop
  | go (s' : S20) (t' : T22) (hm : mu20 b s' < n) (h : PP b s' t') (hr : ∀ x, RES t' x → RES t x) : Gone b n t (some (.inl s'))
  | ans (r : R20) (h : RES t (nErr r)) (h0 : 0 ≤ (nErr r).1) (h1 : (nErr r).1 ≤ b.length) : Gone b n t (some (.inr r))
section
variable {b : Bs} {n : Nat} {t : T22}
theorem n80 : ¬ ((8 : Int) == 0) = true := by decide
theorem n210 : ¬ ((21 : Int) == 0) = true := by decide
theorem p00 : ((0 : Int) == 0) = true := by decide
theorem Gone.out {x : T20} {e : Int} (hx : x.2.2.2.2.2.2.1 = e) (h : RES t (0, e)) (hn : 0 < n) : Gone b n t (some (.inl (.inr (.inr (.inr (.inr (.inr (.inl x)))))))) :=
  .go _ t hn (by subst hx; exact h) (fun _ h => h)
theorem Gone.bad {x : T20} (h : RES t (0, 20)) (hn : 0 < n) : Gone b n t (some (.inl (.inr (.inr (.inr (.inr (.inr (.inr (.inl x))))))))) := .go _ t hn h (fun _ h => h)
theorem Gone.big {x : T20} (h : RES t (0, 21)) (hn : 0 < n) : Gone b n t (some (.inl (.inr (.inr (.inr (.inl x)))))) := .go _ t hn h (fun _ h => h)
theorem gone_next {z : Bool} {a : Int} {c : UInt8} {k : R33 → Option (S20 ⊕ R20)} (hb : b.length < 2 ^ 60) (h0 : 0 ≤ a) (h1 : a ≤ b.length) (h2 : a ≤ 2048)
    (hA : a = b.length → Gone b n t (k (8, z, b, a, c))) (hB : a = 2048 → a < b.length → Gone b n t (k (21, z, b, a, c)))
    (hC : a < b.length → a < 2048 → Gone b n t (k (0, z, b, a + 1, b.getD a.toNat default))) : Gone b n t ((m33 z b a c).bind k) := by
  unfold m33
  by_cases e : a = b.length
  · rw [if_pos (by simpa using e)]; exact hA e
  · rw [if_neg (by simpa using e)]
    by_cases e2 : a = 2048
    · rw [if_pos (by simpa using e2)]; exact hB e2 (by omega)
    · rw [if_neg (by simpa using e2), if_pos ⟨h0, by omega⟩, w64_eq _ (by omega) (by omega)]; exact hC (by omega) (by omega)
theorem gone_name (hb : b.length < 2 ^ 60) {z l0 : Bool} {l : List (Bs × Bs)} {f o e a : Int} {hz : Bool} {c : UInt8} {t0 : T22} (h : C20 b b b l f a) (hf : f < a) (hc : c = b.getD (a - 1).toNat default)
    (hp : (a - 1 = f ∧ c ≠ 13 ∧ l.length ≠ 32 ∧ TT b l.length 0 0 (a - 1) t0) ∨ (f < a - 1 ∧ (c ≠ 13 → a - f ≤ 512) ∧ TT b l.length 1 (a - 1 - f) (a - 1) t0)) (hr : ∀ x, RES t0 x → RES t x) (hn : 3 * ((b.length : Int) - a).toNat + 1 < n) :
    Gone b n t (j20_34v1 z b l0 l f o e hz b a c) := by
  obtain ⟨-, -, h0, h1, h2, h3, h4⟩ := h
  have tok : tokB c = true → c ≠ 58 → ∃ t1, TT b l.length 1 (a - f) a t1 ∧ ∀ x, RES t1 x → RES t x := by
    intro ht h58
    have h13 : c ≠ 13 := fun q => by rw [q] at ht; exact absurd ht (by decide)
    rcases hp with ⟨p1, p2, p3, p4⟩ | ⟨p1, p2, p3⟩
    · obtain ⟨t1, k1, k2⟩ := (p4.p0 (by omega) (by omega) (by omega)).2.2.1 (by rw [← hc]; exact h13) p3 (by rw [← hc]; exact ht)
      refine ⟨t1, ?_, fun x q => hr x (k2 x q)⟩
      rw [show a - 1 + 1 = a by omega] at k1
      rw [show a - f = 1 by omega]; exact k1
    · obtain ⟨t1, k1, k2⟩ := (p3.p1 (by omega) (by omega) (by omega) (by omega) (by omega)).2.2.2.1 (by rw [← hc]; exact h13) (by rw [← hc]; exact h58) (by have := p2 h13; omega) (by rw [← hc]; exact ht)
      refine ⟨t1, ?_, fun x q => hr x (k2 x q)⟩
      rw [show a - 1 + 1 = a by omega, show a - 1 - f + 1 = a - f by omega] at k1
      exact k1
  have nt : tokB c = false → (c = 58 → ¬ f + 1 < a) → RES t (0, 20) := by
    intro ht h58
    refine hr _ ?_
    rcases hp with ⟨p1, p2, p3, p4⟩ | ⟨p1, p2, p3⟩
    · exact (p4.p0 (by omega) (by omega) (by omega)).2.2.2 (by rw [← hc]; exact p2) p3 (by rw [← hc]; exact ht)
    · by_cases h13 : c = 13
      · exact (p3.p1 (by omega) (by omega) (by omega) (by omega) (by omega)).2.1 (by rw [← hc]; exact h13)
      · exact (p3.p1 (by omega) (by omega) (by omega) (by omega) (by omega)).2.2.2.2 (by rw [← hc]; exact h13) (by rw [← hc]; exact fun q => absurd (by omega) (h58 q)) (by have := p2 h13; omega) (by rw [← hc]; exact ht)
  have val : c = 58 → f + 1 < a → ∃ t1, TT b l.length 2 (a - f) a t1 ∧ ∀ x, RES t1 x → RES t x := by
    intro h58 hfa
    rcases hp with ⟨p1, p2, p3, p4⟩ | ⟨p1, p2, p3⟩
    · omega
    · obtain ⟨t1, k1, k2⟩ := (p3.p1 (by omega) (by omega) (by omega) (by omega) (by omega)).2.2.1 (by rw [← hc]; exact h58) (by have := p2 (by rw [h58]; decide); omega)
      refine ⟨t1, ?_, fun x q => hr x (k2 x q)⟩
      rw [show a - 1 + 1 = a by omega, show a - 1 - f + 1 = a - f by omega] at k1
      exact k1
  have key : ∀ q : Bool, (q = true ↔ (c = 58 ∧ f + 1 < a)) → Gone b n t (j20_40v1 z b l0 l f o e q hz b a c) := by
    intro q hq
    unfold j20_40v1
    by_cases g : q = true
    · rw [if_pos g]
      obtain ⟨g1, g2⟩ := hq.1 g
      obtain ⟨t1, k1, k2⟩ := val g1 g2
      exact .go _ t1 hn ⟨⟨rfl, rfl, h0, h1, h2, h3, h4⟩, by omega, by omega, k1⟩ k2
    · rw [if_neg g, m34_eq, Option.bind_some]
      have hq2 : c = 58 → ¬ f + 1 < a := fun u v => g (hq.2 ⟨u, v⟩)
      by_cases ht : tokB c = true
      · rw [if_pos ht]
        have h58 : c ≠ 58 := fun q => by rw [q] at ht; exact absurd ht (by decide)
        obtain ⟨t1, k1, k2⟩ := tok ht h58
        unfold j20_49v1
        refine gone_next hb (by omega) h2 h3 (fun q => ?_) (fun q q2 => ?_) (fun h5 h6 => ?_)
        · show Gone b n t (if ((8 : Int) == 0) = true then _ else _)
          rw [if_neg n80]; exact .out rfl (k2 _ (k1.more q)) (by omega)
        · show Gone b n t (if ((21 : Int) == 0) = true then _ else _)
          rw [if_neg n210]; exact .out rfl (k2 _ (k1.big (by omega) q2)) (by omega)
        · show Gone b n t (if ((0 : Int) == 0) = true then _ else _)
          rw [if_pos p00]
          dsimp only
          have P := k1.p1 (by omega) h6 h5 (by omega) (by omega)
          unfold j20_57v1
          have fin : ∀ u : Bool, (u = true → b.getD a.toNat default ≠ 13 ∧ 512 < a + 1 - f) → (u = false → b.getD a.toNat default ≠ 13 → a + 1 - f ≤ 512) → Gone b n t (j20_60v1 z b l0 l f o 0 u hz b (a + 1) (b.getD a.toNat default)) := by
            intro u hu1 hu2
            unfold j20_60v1 j20_63v1
            cases u with
            | true =>
              rw [if_pos rfl]
              obtain ⟨u1, u2⟩ := hu1 rfl
              exact .big (k2 _ (P.1 u1 (by omega))) (by omega)
            | false =>
              rw [if_neg (by simp)]
              refine .go _ t1 (by simp only [mu20]; omega) ⟨⟨rfl, rfl, h0, by omega, by omega, by omega, by omega⟩, by omega, ?_, .inr ⟨by omega, hu2 rfl, ?_⟩⟩ k2
              · rw [show a + 1 - 1 = a by omega]
              · rw [show a + 1 - 1 = a by omega]; exact k1
          by_cases d : b.getD a.toNat default = 13
          · rw [if_pos (by simpa [-List.getD_eq_getElem?_getD] using d)]
            exact fin _ (fun u => by cases u) (fun _ w => absurd d w)
          · rw [if_neg (by simpa [-List.getD_eq_getElem?_getD] using d), w64_eq _ (by omega) (by omega)]
            exact fin _ (fun u => ⟨d, of_decide_eq_true u⟩) (fun u _ => by have := of_decide_eq_false u; omega)
      · rw [if_neg ht]
        exact .bad (nt (by simpa using ht) hq2) (by omega)
  unfold j20_34v1
  by_cases g : c = 58
  · rw [if_pos (by simpa using g), w64_eq _ (by omega) (by omega)]
    exact key _ ⟨fun q => ⟨g, of_decide_eq_true q⟩, fun q => decide_eq_true q.2⟩
  · rw [if_neg (by simpa using g)]
    exact key _ ⟨fun q => (by cases q), fun q => absurd q.1 g⟩
theorem j20_34_v (z : Bool) (b : Bs) (f o e : Int) (hz : Bool) (b2 : Bs) (a : Int) (c : UInt8) : j20_34 z b f o e hz b2 a c = j20_34v1 z b true [] f o e hz b2 a c := rfl
theorem gone_end (hb : b.length < 2 ^ 60) {z l0 : Bool} {l : List (Bs × Bs)} {f o e : Int} {hz : Bool} {a : Int} {c : UInt8} (h : C20 b b b l f a) {g : Int} (ht : TT b l.length 4 g a t) :
    Gone b (3 * ((b.length : Int) - a).toNat + 1) t (s20_2x1 z b l0 l f o e hz b a c) := by
  obtain ⟨-, -, h0, h1, h2, h3, h4⟩ := h
  unfold s20_2x1
  refine gone_next hb (by omega) h2 h3 (fun q => ?_) (fun q q2 => ?_) (fun h5 h6 => ?_)
  · show Gone b _ t (if ((8 : Int) == 0) = true then _ else _)
    rw [if_neg n80]; exact .out rfl (ht.more q) (by omega)
  · show Gone b _ t (if ((21 : Int) == 0) = true then _ else _)
    rw [if_neg n210]; exact .out rfl (ht.big (by omega) q2) (by omega)
  · show Gone b _ t (if ((0 : Int) == 0) = true then _ else _)
    rw [if_pos p00]
    dsimp only
    have P := ht.p4 (by omega) h6 h5
    by_cases d : b.getD a.toNat default = 10
    · rw [if_pos (by simpa [-List.getD_eq_getElem?_getD] using d)]
      exact .ans _ (P.1 d) (by show 0 ≤ a + 1; omega) (by show a + 1 ≤ _; omega)
    · rw [if_neg (by simpa [-List.getD_eq_getElem?_getD] using d)]
      exact .ans _ (P.2 d) (Int.le_refl 0) (Int.natCast_nonneg _)
theorem gone_value (hb : b.length < 2 ^ 60) {z l0 : Bool} {l : List (Bs × Bs)} {f o e : Int} {hz : Bool} {a : Int} {c : UInt8} (h : C20 b b b l f a) (ho : f + 1 ≤ o) (ho2 : o ≤ a) (ht : TT b l.length 2 (a - f) a t) :
    Gone b (3 * ((b.length : Int) - a).toNat + 1) t (s20_2x2 z b l0 l f o e hz b a c) := by
  obtain ⟨-, -, h0, h1, h2, h3, h4⟩ := h
  unfold s20_2x2
  refine gone_next hb (by omega) h2 h3 (fun q => ?_) (fun q q2 => ?_) (fun h5 h6 => ?_)
  · show Gone b _ t (if ((8 : Int) == 0) = true then _ else _)
    rw [if_neg n80]; exact .out rfl (ht.more q) (by omega)
  · show Gone b _ t (if ((21 : Int) == 0) = true then _ else _)
    rw [if_neg n210]; exact .out rfl (ht.big (by omega) q2) (by omega)
  · show Gone b _ t (if ((0 : Int) == 0) = true then _ else _)
    rw [if_pos p00]
    dsimp only
    have P := ht.p2 (by omega) h6 h5 (by omega) (by omega)
    by_cases d : b.getD a.toNat default = 13
    · rw [if_pos (by simpa [-List.getD_eq_getElem?_getD] using d)]
      obtain ⟨t1, k1, k2⟩ := P.1 d
      exact .go _ t1 (by simp only [mu20]; omega) ⟨⟨rfl, rfl, h0, by omega, by omega, by omega, by omega⟩, ho, by omega, _, k1⟩ k2
    · rw [if_neg (by simpa [-List.getD_eq_getElem?_getD] using d), w64_eq _ (by omega) (by omega)]
      by_cases d2 : 512 < a + 1 - f
      · rw [if_pos (by simpa using d2)]
        exact .big (P.2.1 d (by omega)) (by omega)
      · rw [if_neg (by simpa using d2), m35_eq, Option.bind_some]
        by_cases d3 : shB (b.getD a.toNat default) = true
        · rw [if_pos d3]
          obtain ⟨t1, k1, k2⟩ := P.2.2.1 d (by omega) d3
          refine .go _ t1 (by simp only [mu20]; omega) ⟨⟨rfl, rfl, h0, by omega, by omega, by omega, by omega⟩, ho, by omega, ?_⟩ k2
          rw [show a + 1 - f = a - f + 1 by omega]; exact k1
        · rw [if_neg d3]
          exact .bad (P.2.2.2 d (by omega) (by simpa using d3)) (by omega)
theorem bnd_of {i : Int} {n : Nat} (h0 : 0 ≤ i) (h1 : i ≤ n) : bnd i n = some i.toNat := if_pos ⟨h0, h1⟩
theorem gone_ended (hb : b.length < 2 ^ 60) {z l0 : Bool} {l : List (Bs × Bs)} {f o e : Int} {hz : Bool} {a : Int} {c : UInt8} (h : C20 b b b l f a) (ho : f + 1 ≤ o) (ho2 : o + 1 ≤ a) {g : Int} (ht : TT b l.length 3 g a t) :
    Gone b (3 * ((b.length : Int) - a).toNat + 1) t (s20_2x7 z b l0 l f o e hz b a c) := by
  obtain ⟨-, -, h0, h1, h2, h3, h4⟩ := h
  unfold s20_2x7
  rw [w64_eq (o - 1) (by omega) (by omega), w64_eq (a - 1) (by omega) (by omega), bnd_of (by omega) (by omega), Option.bind_some, bnd_of (by omega) (by omega), Option.bind_some, bnd_of (by omega) (by omega), Option.bind_some, bnd_of (by omega) (by omega), Option.bind_some,
    m36_eq _ (by simp; omega), Option.bind_some, if_pos (by omega)]
  refine gone_next hb (by omega) h2 h3 (fun q => ?_) (fun q q2 => ?_) (fun h5 h6 => ?_)
  · show Gone b _ t (if ((8 : Int) == 0) = true then _ else _)
    rw [if_neg n80]; exact .out rfl (ht.more q) (by omega)
  · show Gone b _ t (if ((21 : Int) == 0) = true then _ else _)
    rw [if_neg n210]; exact .out rfl (ht.big (by omega) q2) (by omega)
  · show Gone b _ t (if ((0 : Int) == 0) = true then _ else _)
    rw [if_pos p00]
    dsimp only
    have P := ht.p3 (by omega) h6 h5 (by omega)
    by_cases d : b.getD a.toNat default = 10
    · rw [if_pos (by simpa [-List.getD_eq_getElem?_getD] using d)]
      obtain ⟨t1, k1, k2⟩ := P.1 d
      exact .go _ t1 (by simp only [mu20]; omega) ⟨⟨rfl, rfl, by omega, by omega, by omega, by omega, by simp; omega⟩, by simpa using k1⟩ k2
    · rw [if_neg (by simpa [-List.getD_eq_getElem?_getD] using d)]
      exact .bad (P.2 d) (by omega)
theorem gone_first (hb : b.length < 2 ^ 60) {z l0 : Bool} {l : List (Bs × Bs)} {o e : Int} {hz : Bool} {a : Int} (h0 : 0 ≤ a) (h4 : (l.length : Int) ≤ a) (h5 : a < b.length) (h6 : a < 2048) (ht : TT b l.length 0 0 a t) (hn : 3 * ((b.length : Int) - (a + 1)).toNat + 1 < n)
    (hl : b.getD a.toNat default ≠ 13 → l.length ≠ 32 → Gone b n t (j20_34v1 z b l0 l a o e hz b (a + 1) (b.getD a.toNat default))) : Gone b n t (j20_23v1 z b l0 l a o e hz b (a + 1) (b.getD a.toNat default)) := by
  have P := ht.p0 h0 h6 h5
  unfold j20_23v1
  by_cases d : b.getD a.toNat default = 13
  · rw [if_pos (by simpa [-List.getD_eq_getElem?_getD] using d)]
    obtain ⟨t1, k1, k2⟩ := P.1 d
    exact .go _ t1 hn ⟨⟨rfl, rfl, by omega, by omega, by omega, by omega, by omega⟩, _, k1⟩ k2
  · rw [if_neg (by simpa [-List.getD_eq_getElem?_getD] using d)]
    by_cases d2 : l.length = 32
    · rw [if_pos (by simp; omega)]
      exact .big (P.2.1 d d2) (by omega)
    · rw [if_neg (by simp; omega)]
      exact hl d d2
theorem gone_line (hb : b.length < 2 ^ 60) {z l0 : Bool} {l : List (Bs × Bs)} {f o e : Int} {hz : Bool} {a : Int} {c : UInt8} (h : C20 b b b l f a) (ht : TT b l.length 0 0 a t) :
    Gone b (3 * ((b.length : Int) - a).toNat + 1) t (s20_2x8 z b l0 l f o e hz b a c) := by
  obtain ⟨-, -, h0, h1, h2, h3, h4⟩ := h
  unfold s20_2x8
  refine gone_next hb (by omega) h2 h3 (fun q => ?_) (fun q q2 => ?_) (fun h5 h6 => ?_)
  · show Gone b _ t (if ((8 : Int) == 0) = true then _ else _)
    rw [if_neg n80]; exact .out rfl (ht.more q) (by omega)
  · show Gone b _ t (if ((21 : Int) == 0) = true then _ else _)
    rw [if_neg n210]; exact .out rfl (ht.big (by omega) q2) (by omega)
  · show Gone b _ t (if ((0 : Int) == 0) = true then _ else _)
    rw [if_pos p00]
    dsimp only
    refine gone_first hb (by omega) h4 h5 h6 ht (by omega) (fun d d2 => ?_)
    refine gone_name hb (t0 := t) ⟨rfl, rfl, by omega, by omega, by omega, by omega, by omega⟩ (by omega) (by rw [show a + 1 - 1 = a by omega]) (.inl ⟨by omega, d, d2, ?_⟩) (fun _ h => h) (by omega)
    rw [show a + 1 - 1 = a by omega]; exact ht
theorem gone_start (hb : b.length < 2 ^ 60) {z : Bool} (ht : TT b 0 0 0 0 t) : Gone b (3 * b.length + 3) t (s20_2x0 z b) := by
  unfold s20_2x0
  refine gone_next hb (by omega) (by omega) (by omega) (fun q => ?_) (fun q q2 => ?_) (fun h5 h6 => ?_)
  · show Gone b _ t (if ((8 : Int) == 0) = true then _ else _)
    rw [if_neg n80]; exact .out rfl (ht.more q) (by omega)
  · show Gone b _ t (if ((21 : Int) == 0) = true then _ else _)
    rw [if_neg n210]; exact .out rfl (ht.big (by omega) q2) (by omega)
  · show Gone b _ t (if ((0 : Int) == 0) = true then _ else _)
    rw [if_pos p00]
    dsimp only
    have e : ∀ z o e hz (a : Int) c, j20_23 z b 0 o e hz b a c = j20_23v1 z b true [] 0 o e hz b a c := by
      intro z o e hz a c
      unfold j20_23 j20_23v1
      rw [j20_34_v]
      rfl
    rw [e]
    have := gone_first (n := 3 * b.length + 3) (t := t) hb (z := z) (l0 := true) (l := []) (o := 0) (e := 0) (hz := z) (a := 0) (Int.le_refl 0) (by simp) h5 h6 ht (by omega) (fun d d2 => ?_)
    · exact this
    · exact gone_name hb (t0 := t) ⟨rfl, rfl, by omega, by omega, by omega, by omega, by simp⟩ (by omega) (by rfl) (.inl ⟨by omega, d, d2, ht⟩) (fun _ h => h) (by omega)
end
theorem parse_two (b : Bs) (hb : b.length < 2 ^ 60) : ∀ (n : Nat) (s : S20) (t : T22), mu20 b s < n → PP b s t → ∃ r, iter s20_2 s = some r ∧ RES t (nErr r) ∧ 0 ≤ (nErr r).1 ∧ (nErr r).1 ≤ b.length := by
  intro n
  induction n with
  | zero => intro s t h; omega
  | succ n ih =>
    intro s t hm hp
    have fin : ∀ {x}, Gone b (mu20 b s) t x → s20_2 s = x → ∃ r, iter s20_2 s = some r ∧ RES t (nErr r) ∧ 0 ≤ (nErr r).1 ∧ (nErr r).1 ≤ b.length := by
      intro x h e
      cases h with
      | go s' t' hm' h hr =>
        obtain ⟨r, h1, h2, h3⟩ := ih s' t' (by omega) h
        exact ⟨r, by rw [iter_l e]; exact h1, hr _ h2, h3⟩
      | ans r h h0 h1 => exact ⟨r, iter_r e, h, h0, h1⟩
    rcases s with ⟨z, b1⟩ | ⟨z, b1, l0, l, f, o, e, hz, b2, a, c⟩ | ⟨z, b1, l0, l, f, o, e, hz, b2, a, c⟩ | ⟨z, b1, l0, l, f, o, e, hz, b2, a, c⟩ | ⟨z, b1, l0, l, f, o, e, hz, b2, a, c⟩ | ⟨z, b1, l0, l, f, o, e, hz, b2, a, c⟩ | ⟨z, b1, l0, l, f, o, e, hz, b2, a, c⟩ | ⟨z, b1, l0, l, f, o, e, hz, b2, a, c⟩ | ⟨z, b1, l0, l, f, o, e, hz, b2, a, c⟩
    · obtain ⟨h1, h2⟩ := hp
      obtain rfl : b1 = b := h1
      exact fin (gone_start (z := z) hb h2) rfl
    · obtain ⟨⟨rfl, rfl, h⟩, g, h2⟩ := hp
      exact fin (gone_end (z := z) (l0 := l0) (o := o) (e := e) (hz := hz) (c := c) hb ⟨rfl, rfl, h⟩ h2) rfl
    · obtain ⟨⟨rfl, rfl, h⟩, h1, h2, h3⟩ := hp
      exact fin (gone_value (z := z) (l0 := l0) (o := o) (e := e) (hz := hz) (c := c) hb ⟨rfl, rfl, h⟩ h1 h2 h3) rfl
    · exact ⟨.inr (true, [], 0, 21), iter_r rfl, hp, Int.le_refl 0, Int.natCast_nonneg _⟩
    · obtain ⟨⟨rfl, rfl, h⟩, h1, h2, h3⟩ := hp
      exact fin (gone_name (z := z) (l0 := l0) (o := o) (e := e) (hz := hz) (c := c) (t0 := t) hb ⟨rfl, rfl, h⟩ h1 h2 h3 (fun _ h => h) (by simp only [mu20]; omega)) rfl
    · exact ⟨.inr (true, [], 0, e), iter_r rfl, hp, Int.le_refl 0, Int.natCast_nonneg _⟩
    · exact ⟨.inr (true, [], 0, 20), iter_r rfl, hp, Int.le_refl 0, Int.natCast_nonneg _⟩
    · obtain ⟨⟨rfl, rfl, h⟩, h1, h2, g, h3⟩ := hp
      exact fin (gone_ended (z := z) (l0 := l0) (o := o) (e := e) (hz := hz) (c := c) hb ⟨rfl, rfl, h⟩ h1 h2 h3) rfl
    · obtain ⟨⟨rfl, rfl, h⟩, h1⟩ := hp
      exact fin (gone_line (z := z) (l0 := l0) (f := f) (o := o) (e := e) (hz := hz) (c := c) hb ⟨rfl, rfl, h⟩ h1) rfl
theorem m20_m22 (z w : Bool) (b : Bs) (hb : b.length < 2 ^ 60) : ∃ r q, m20 z b = some r ∧ m22 w b = some q ∧ nErr q = nErr r ∧ 0 ≤ (nErr r).1 ∧ (nErr r).1 ≤ b.length := by
  obtain ⟨r, h1, ⟨q, h2, h3⟩, h4⟩ := parse_two b hb _ (.inl (z, b)) (w, b, true, [], [], [], 0, 0, 0) (Nat.lt_succ_self _) ⟨rfl, rfl, rfl, Int.le_refl 0, Int.le_refl 0, rfl, rfl, rfl⟩
  exact ⟨r, q, h1, h2, h3, h4⟩
end Go.Ab
end
section
set_option linter.all false
set_option maxRecDepth 100000
open Go Go.Ab Go.Proofs Go.Proofs.YtaohepmbkepmiaaDoor
namespace Go.Ab
def eol (r : Bs) : Int := Lib.indexByte (r.take (min r.length 64)) 10
theorem min2_len (n : Nat) : bnd (min2 (n : Int) 64) n = some (min n 64) := by
  unfold min2 bnd
  split
  · rw [if_pos ⟨by decide, by omega⟩, show (64 : Int).toNat = 64 from rfl, Nat.min_eq_right (by omega)]
  · rw [if_pos ⟨by omega, by omega⟩, Int.toNat_natCast, Nat.min_eq_left (by omega)]
theorem eol_lt {r : Bs} (h : 0 ≤ eol r) : eol r < r.length ∧ eol r < 64 := by
  have := idx_lt h
  rw [List.length_take] at this
  unfold eol
  omega
theorem cpy_len {l src : Bs} {off n : Nat} (h : off + min src.length n ≤ l.length) : (cpy l off n src).length = l.length := by
  unfold cpy
  simp only [List.length_append, List.length_take, List.length_drop]
  omega
theorem d_neg {p : Prop} [Decidable p] (h : ¬ p) : ¬ (decide p) = true := by simpa using h
theorem d_pos {p : Prop} [Decidable p] (h : p) : (decide p) = true := by simpa using h
noncomputable def prs (c : Bs) : Int × Int := match m22 true c with | some q => nErr q | none => (0, 0)
theorem m20_prs (z : Bool) (c : Bs) (hc : c.length < 2 ^ 60) : ∃ r, m20 z c = some r ∧ nErr r = prs c ∧ 0 ≤ (prs c).1 ∧ (prs c).1 ≤ c.length := by
  obtain ⟨r, q, h1, h2, h3, h4, h5⟩ := m20_m22 z true c hc
  have e : prs c = nErr r := by unfold prs; rw [h2]; exact h3
  rw [e]
  exact ⟨r, h1, rfl, h4, h5⟩
theorem m22_prs (w : Bool) (c : Bs) (hc : c.length < 2 ^ 60) : ∃ q, m22 w c = some q ∧ nErr q = prs c := by
  obtain ⟨r, q, h1, h2, h3, h4, h5⟩ := m20_m22 false w c hc
  obtain ⟨r', q', h1', h2', h3', h4', h5'⟩ := m20_m22 false true c hc
  have e : prs c = nErr r' := by unfold prs; rw [h2']; exact h3'
  rw [h1] at h1'
  refine ⟨q, h2, ?_⟩
  rw [e, h3, Option.some.inj h1']
def lineV (s : Bs) : Int × Int := if 1 ≤ s.length ∧ s.getD (s.length - 1) 0 = 13 then sizeS (s.take (s.length - 1)) else (0, 20)
theorem lineV_nn (s : Bs) : 0 ≤ (lineV s).1 := by
  unfold lineV
  split
  · exact (sizeS_nn _).1
  · exact Int.le_refl 0
abbrev Out := (Nat × Bs) ⊕ (Bs × Int × Int)
noncomputable def rnd2 (b : Bs) (a : Nat) (y : Bs) (q : Int × Int) : Out :=
  if q.2 = 0 then
    if 4096 - (y.length : Int) < q.1 then .inr ([], 0, 21)
    else if q.1 = 0 then (if (prs (b.drop a)).2 = 0 then .inr (y, a + (prs (b.drop a)).1, 0) else .inr ([], 0, (prs (b.drop a)).2))
    else if (b.length : Int) < a + q.1 + 2 then .inr ([], 0, 8)
    else if b.getD (a + q.1.toNat) default = 13 ∧ b.getD (a + q.1.toNat + 1) default = 10 then .inl (a + q.1.toNat + 2, y ++ (b.drop a).take q.1.toNat)
    else .inr ([], 0, 20)
  else .inr ([], 0, q.2)
noncomputable def rnd (b : Bs) (a : Nat) (y : Bs) : Out :=
  if eol (b.drop a) < 0 then (if 64 ≤ (b.drop a).length then .inr ([], 0, 21) else .inr ([], 0, 8))
  else rnd2 b (a + (eol (b.drop a)).toNat + 1) y (lineV ((b.drop a).take (eol (b.drop a)).toNat))
abbrev A8 := (Bool × List UInt8 × Int × Int)
abbrev B8 := (Bool × List UInt8 × Nat × Nat × Int × Int × List UInt8)
abbrev S8 := ((Bool × List UInt8) ⊕ A8 ⊕ A8 ⊕ B8 ⊕ B8 ⊕ B8)
def prR : R8 → Bs × Int × Int
  | .inl (n, e) => ([], n, e)
  | .inr (l, c, n, e, h) => (h, n, e)
def okR : R8 → Prop
  | .inl _ => True
  | .inr (l, c, n, e, h) => l = h.length ∧ l ≤ 4096
def xB (z : Bool) (b : Bs) (m : Nat) (a : Nat) (e : Int) (h : Bs) : S8 := .inr (.inr (.inr (.inr (.inl (z, b, h.length, m, (a : Int), e, h)))))
def PO (z : Bool) (b : Bs) (s : S8) (o : Out) : Prop := match o with
  | .inr x => ∃ r, iter s8_2 s = some r ∧ prR r = x ∧ okR r
  | .inl (a, y) => ∃ m e, iter s8_2 s = iter s8_2 (xB z b m a e y)
theorem po_wrongA {z : Bool} {b : Bs} {s : S8} {z' : Bool} {b' : Bs} {a e : Int} (h : s8_2 s = some (.inl (.inr (.inl (z', b', a, e))))) : PO z b s (.inr ([], 0, e)) := ⟨.inl (0, e), by rw [iter_l h]; exact iter_r rfl, rfl, trivial⟩
theorem po_wrongB {z : Bool} {b : Bs} {s : S8} {x : B8} {e : Int} (h : s8_2 s = some (.inl (.inr (.inr (.inr (.inl x)))))) (he : x.2.2.2.2.2.1 = e) : PO z b s (.inr ([], 0, e)) := by
  obtain ⟨z', b', m1, m2, a, e', y⟩ := x
  subst he
  exact ⟨.inl (0, e'), by rw [iter_l h]; exact iter_r rfl, rfl, trivial⟩
theorem m17_eq (s : Bs) (hs : s.length < 2 ^ 60) : m17 s [13] = some (decide (1 ≤ s.length ∧ s.getD (s.length - 1) 0 = 13)) ∧ (1 ≤ s.length → s.getD (s.length - 1) 0 = 13 → m19 s [13] = some (s.take (s.length - 1))) := by
  have key : m28 s [13] = some (decide (1 ≤ s.length ∧ s.getD (s.length - 1) 0 = 13)) := by
    unfold m28
    simp only [List.length_cons, List.length_nil]
    by_cases c : 1 ≤ s.length
    · have hd : s.drop (s.length - 1) = [s.getD (s.length - 1) 0] := by
        rw [drop_cons (by omega), List.drop_eq_nil_of_le (by omega)]
      rw [if_pos (d_pos (by omega)), w64_eq _ (by omega) (by omega)]
      unfold bnd
      rw [if_pos ⟨by omega, by omega⟩, Option.bind_some, show ((s.length : Int) - ((0 + 1 : Nat) : Int)).toNat = s.length - 1 by omega, hd]
      simp [c]
      rfl
    · rw [if_neg (d_neg (by omega))]
      simp [c]
  refine ⟨by unfold m17; rw [key]; rfl, fun h1 h2 => ?_⟩
  unfold m19 m32
  rw [key, Option.bind_some, if_pos (d_pos ⟨h1, h2⟩)]
  simp only [List.length_cons, List.length_nil]
  rw [w64_eq _ (by omega) (by omega)]
  unfold bnd
  rw [if_pos ⟨by omega, by omega⟩, Option.bind_some, show ((s.length : Int) - ((0 + 1 : Nat) : Int)).toNat = s.length - 1 by omega]
  rfl
section
variable {z : Bool} {b : Bs}
theorem cpy_all {n : Nat} {src : Bs} (h : n ≤ src.length) : cpy (List.replicate n 0) 0 n src = src.take n := by
  unfold cpy
  rw [Nat.min_eq_right h]
  simp
theorem cpy_two {y src : Bs} {n : Nat} (h : n ≤ src.length) : cpy (cpy (List.replicate (y.length + n) 0) 0 (y.length + n) y) y.length (y.length + n - y.length) src = y ++ src.take n := by
  have e1 : cpy (List.replicate (y.length + n) 0) 0 (y.length + n) y = y ++ List.replicate n 0 := by
    unfold cpy
    rw [Nat.min_eq_left (by omega)]
    simp [List.take_of_length_le]
  rw [e1, Nat.add_sub_cancel_left]
  unfold cpy
  rw [Nat.min_eq_right h, List.take_left', List.drop_eq_nil_of_le (by simp)]
  · simp
  · rfl
theorem po_77 {s : S8} {m a : Nat} {k e : Int} {y : Bs} (hb : b.length < 2 ^ 60) (ha : a ≤ b.length) (hy : y.length ≤ 4096) (hk : 0 < k) (hk2 : k + y.length ≤ 4096) (hl : (a : Int) + k + 2 ≤ b.length) (h : s8_2 s = j8_77v1 z b y.length m (a : Int) k e y) :
    PO z b s (if b.getD (a + k.toNat) default = 13 ∧ b.getD (a + k.toNat + 1) default = 10 then .inl (a + k.toNat + 2, y ++ (b.drop a).take k.toNat) else .inr ([], 0, 20)) := by
  unfold j8_77v1 at h
  have e1 : (y.take y.length).length = y.length := by rw [List.take_length]
  have eN : ((y.length : Int) + k).toNat = y.length + k.toNat := by omega
  rw [w64_eq k (by omega) (by omega), w64_eq ((y.length : Int) + k) (by omega) (by omega), w64_eq ((a : Int) + k) (by omega) (by omega), w64_eq ((a : Int) + k + 1) (by omega) (by omega), eN,
    if_pos ⟨by omega, by omega⟩, if_pos (Nat.le_refl _), e1, Nat.min_eq_left (by omega), bnd_ok (by omega), Option.bind_some, bnd_ok ha, Option.bind_some, List.take_length, cpy_two (by simp; omega)] at h
  rw [if_pos, if_pos (show 0 ≤ (a : Int) + k ∧ (a : Int) + k < b.length from ⟨by omega, by omega⟩), if_pos (show 0 ≤ (a : Int) + k + 1 ∧ (a : Int) + k + 1 < b.length from ⟨by omega, by omega⟩), show ((a : Int) + k).toNat = a + k.toNat by omega, show ((a : Int) + k + 1).toNat = a + k.toNat + 1 by omega] at h
  · unfold j8_86v1 j8_91v1 at h
    by_cases c1 : b.getD (a + k.toNat) default = 13
    · rw [if_pos (by simpa [-List.getD_eq_getElem?_getD] using c1)] at h
      by_cases c2 : b.getD (a + k.toNat + 1) default = 10
      · have hc2 : (!(b.getD (a + k.toNat + 1) default == (10 : UInt8))) = false := by simp [-List.getD_eq_getElem?_getD, c2]
        rw [hc2, if_neg (by simp), w64_eq _ (by omega) (by omega)] at h
        rw [if_pos ⟨c1, c2⟩]
        refine ⟨y.length + k.toNat, e, (iter_l h).trans ?_⟩
        unfold xB
        have : (y ++ (b.drop a).take k.toNat).length = y.length + k.toNat := by simp; omega
        rw [this, show ((a : Int) + k + 2) = ((a + k.toNat + 2 : Nat) : Int) by omega]
      · have hc2 : (!(b.getD (a + k.toNat + 1) default == (10 : UInt8))) = true := by simp [-List.getD_eq_getElem?_getD, c2]
        rw [hc2, if_pos rfl] at h
        rw [if_neg (fun q => c2 q.2)]
        exact po_wrongB h rfl
    · rw [if_neg (by simpa [-List.getD_eq_getElem?_getD] using c1), if_pos rfl] at h
      rw [if_neg (fun q => c1 q.1)]
      exact po_wrongB h rfl
  · have : (cpy (List.replicate (y.length + k.toNat) 0) 0 (y.length + k.toNat) y).length = y.length + k.toNat := by
      rw [cpy_len (by simp), List.length_replicate]
    rw [this]; omega
theorem po_77n {s : S8} {a : Nat} {k e : Int} (hb : b.length < 2 ^ 60) (ha : a ≤ b.length) (hk : 0 < k) (hk2 : k ≤ 4096) (hl : (a : Int) + k + 2 ≤ b.length) (h : s8_2 s = j8_77 z b (a : Int) k e) :
    PO z b s (if b.getD (a + k.toNat) default = 13 ∧ b.getD (a + k.toNat + 1) default = 10 then .inl (a + k.toNat + 2, [] ++ (b.drop a).take k.toNat) else .inr ([], 0, 20)) := by
  unfold j8_77 at h
  rw [w64_eq k (by omega) (by omega), w64_eq (0 + k) (by omega) (by omega), w64_eq ((a : Int) + k) (by omega) (by omega), w64_eq ((a : Int) + k + 1) (by omega) (by omega), Int.zero_add,
    if_pos ⟨by omega, by omega⟩, bnd_ok ha, Option.bind_some, cpy_all (by simp; omega),
    if_pos (show 0 ≤ (a : Int) + k ∧ (a : Int) + k < b.length from ⟨by omega, by omega⟩), if_pos (show 0 ≤ (a : Int) + k + 1 ∧ (a : Int) + k + 1 < b.length from ⟨by omega, by omega⟩), show ((a : Int) + k).toNat = a + k.toNat by omega, show ((a : Int) + k + 1).toNat = a + k.toNat + 1 by omega] at h
  unfold j8_86 j8_91 at h
  by_cases c1 : b.getD (a + k.toNat) default = 13
  · rw [if_pos (by simpa [-List.getD_eq_getElem?_getD] using c1)] at h
    by_cases c2 : b.getD (a + k.toNat + 1) default = 10
    · have hc2 : (!(b.getD (a + k.toNat + 1) default == (10 : UInt8))) = false := by simp [-List.getD_eq_getElem?_getD, c2]
      rw [hc2, if_neg (by simp), w64_eq _ (by omega) (by omega)] at h
      rw [if_pos ⟨c1, c2⟩]
      refine ⟨k.toNat, e, (iter_l h).trans ?_⟩
      unfold xB
      have : ([] ++ (b.drop a).take k.toNat).length = k.toNat := by simp; omega
      rw [this, show ((a : Int) + k + 2) = ((a + k.toNat + 2 : Nat) : Int) by omega]
      rfl
    · have hc2 : (!(b.getD (a + k.toNat + 1) default == (10 : UInt8))) = true := by simp [-List.getD_eq_getElem?_getD, c2]
      rw [hc2, if_pos rfl] at h
      rw [if_neg (fun q => c2 q.2)]
      exact po_wrongB h rfl
  · rw [if_neg (by simpa [-List.getD_eq_getElem?_getD] using c1), if_pos rfl] at h
    rw [if_neg (fun q => c1 q.1)]
    exact po_wrongB h rfl
theorem po_trB {s : S8} {m a : Nat} {e : Int} {y : Bs} (hb : b.length < 2 ^ 60) (ha : a ≤ b.length) (hy : y.length ≤ 4096) (h : s8_2 s = some (.inl (.inr (.inr (.inr (.inr (.inr (z, b, y.length, m, (a : Int), e, y)))))))) :
    PO z b s (if (prs (b.drop a)).2 = 0 then .inr (y, a + (prs (b.drop a)).1, 0) else .inr ([], 0, (prs (b.drop a)).2)) := by
  obtain ⟨r, h1, h2, h3, h4⟩ := m20_prs z (b.drop a) (by simp; omega)
  rw [List.length_drop] at h4
  have st : s8_2 (.inr (.inr (.inr (.inr (.inr (z, b, y.length, m, (a : Int), e, y)))))) = s8_2x5 z b y.length m (a : Int) e y := rfl
  unfold s8_2x5 j8_108v2 j8_108v3 at st
  rw [bnd_ok ha, Option.bind_some, h1, Option.bind_some] at st
  have hE : ∀ n' e' : Int, (n', e') = prs (b.drop a) → ((if (e' == 0) = true then (some (.inr (.inr (y.length, m, w64 ((a : Int) + n'), 0, y))) : Option (S8 ⊕ R8)) else some (.inl (.inr (.inr (.inr (.inl (z, b, y.length, m, (a : Int), e', y))))))) = s8_2 (.inr (.inr (.inr (.inr (.inr (z, b, y.length, m, (a : Int), e, y))))))) →
      PO z b s (if (prs (b.drop a)).2 = 0 then .inr (y, a + (prs (b.drop a)).1, 0) else .inr ([], 0, (prs (b.drop a)).2)) := by
    intro n' e' hp hst
    rw [← hp] at h3 h4 ⊢
    dsimp only at h3 h4 ⊢
    by_cases c : e' = 0
    · subst c
      rw [if_pos p00, w64_eq _ (by omega) (by omega)] at hst
      rw [if_pos rfl]
      exact ⟨.inr (y.length, m, (a : Int) + n', 0, y), by rw [iter_l h]; exact iter_r hst.symm, rfl, rfl, hy⟩
    · rw [if_neg (by simpa using c)] at hst
      rw [if_neg c]
      exact ⟨.inl (0, e'), by rw [iter_l h, iter_l hst.symm]; exact iter_r rfl, rfl, trivial⟩
  rcases r with ⟨z1, l1, n1, e1⟩ | ⟨z1, l1, n1, e1⟩
  · exact hE n1 e1 h2 st.symm
  · exact hE n1 e1 h2 st.symm
theorem po_trA {s : S8} {a : Nat} {e : Int} (hb : b.length < 2 ^ 60) (ha : a ≤ b.length) (h : s8_2 s = some (.inl (.inr (.inr (.inl (z, b, (a : Int), e)))))) :
    PO z b s (if (prs (b.drop a)).2 = 0 then .inr ([], a + (prs (b.drop a)).1, 0) else .inr ([], 0, (prs (b.drop a)).2)) := by
  obtain ⟨r, h1, h2, h3, h4⟩ := m20_prs z (b.drop a) (by simp; omega)
  rw [List.length_drop] at h4
  have st : s8_2 (.inr (.inr (.inl (z, b, (a : Int), e)))) = s8_2x2 z b (a : Int) e := rfl
  unfold s8_2x2 j8_108 j8_108v1 at st
  rw [bnd_ok ha, Option.bind_some, h1, Option.bind_some] at st
  have hE : ∀ n' e' : Int, (n', e') = prs (b.drop a) → ((if (e' == 0) = true then (some (.inr (.inl (w64 ((a : Int) + n'), 0))) : Option (S8 ⊕ R8)) else some (.inl (.inr (.inl (z, b, (a : Int), e'))))) = s8_2 (.inr (.inr (.inl (z, b, (a : Int), e))))) →
      PO z b s (if (prs (b.drop a)).2 = 0 then .inr ([], a + (prs (b.drop a)).1, 0) else .inr ([], 0, (prs (b.drop a)).2)) := by
    intro n' e' hp hst
    rw [← hp] at h3 h4 ⊢
    dsimp only at h3 h4 ⊢
    by_cases c : e' = 0
    · subst c
      rw [if_pos p00, w64_eq _ (by omega) (by omega)] at hst
      rw [if_pos rfl]
      exact ⟨.inl ((a : Int) + n', 0), by rw [iter_l h]; exact iter_r hst.symm, rfl, trivial⟩
    · rw [if_neg (by simpa using c)] at hst
      rw [if_neg c]
      exact ⟨.inl (0, e'), by rw [iter_l h, iter_l hst.symm]; exact iter_r rfl, rfl, trivial⟩
  rcases r with ⟨z1, l1, n1, e1⟩ | ⟨z1, l1, n1, e1⟩
  · exact hE n1 e1 h2 st.symm
  · exact hE n1 e1 h2 st.symm
theorem po_55 {s : S8} {m a : Nat} {e : Int} {y : Bs} {q : Int × Int} (hb : b.length < 2 ^ 60) (ha : a ≤ b.length) (hy : y.length ≤ 4096) (hq : 0 ≤ q.1)
    (h : s8_2 s = if (q.2 == 0) = true then j8_55v1 z b y.length m (a : Int) q.1 q.2 y else some (.inl (.inr (.inr (.inr (.inl (z, b, y.length, m, (a : Int), q.2, y))))))) : PO z b s (rnd2 b a y q) := by
  unfold rnd2
  by_cases c : q.2 = 0
  · rw [if_pos (by simpa using c)] at h
    rw [if_pos c]
    unfold j8_55v1 at h
    rw [w64_eq _ (by omega) (by omega), wu64m, Int.emod_eq_of_lt (by omega) (by omega)] at h
    by_cases c1 : 4096 - (y.length : Int) < q.1
    · rw [if_pos (d_pos c1)] at h
      rw [if_pos c1]
      exact po_wrongB h rfl
    · rw [if_neg (d_neg c1)] at h
      rw [if_neg c1]
      unfold j8_63v1 at h
      by_cases c2 : q.1 = 0
      · rw [if_pos (by simpa using c2)] at h
        rw [if_pos c2]
        exact po_trB hb ha hy h
      · rw [if_neg (by simpa using c2)] at h
        rw [if_neg c2]
        unfold j8_69v1 at h
        rw [w64_eq q.1 (by omega) (by omega), w64_eq (q.1 + 2) (by omega) (by omega), w64_eq _ (by omega) (by omega)] at h
        by_cases c3 : (b.length : Int) < a + q.1 + 2
        · rw [if_pos (d_pos (by omega))] at h
          rw [if_pos c3]
          exact po_wrongB h rfl
        · rw [if_neg (d_neg (by omega))] at h
          rw [if_neg c3]
          exact po_77 hb ha hy (by omega) (by omega) (by omega) h
  · rw [if_neg (by simpa using c)] at h
    rw [if_neg c]
    exact po_wrongB h rfl
theorem po_55n {s : S8} {a : Nat} {e : Int} {q : Int × Int} (hb : b.length < 2 ^ 60) (ha : a ≤ b.length) (hq : 0 ≤ q.1)
    (h : s8_2 s = if (q.2 == 0) = true then j8_55 z b (a : Int) q.1 q.2 else some (.inl (.inr (.inl (z, b, (a : Int), q.2))))) : PO z b s (rnd2 b a [] q) := by
  unfold rnd2
  have e0 : (4096 - (([] : Bs).length : Int)) = 4096 := rfl
  rw [e0]
  by_cases c : q.2 = 0
  · rw [if_pos (by simpa using c)] at h
    rw [if_pos c]
    unfold j8_55 at h
    by_cases c1 : 4096 < q.1
    · rw [if_pos (d_pos c1)] at h
      rw [if_pos c1]
      exact po_wrongA h
    · rw [if_neg (d_neg c1)] at h
      rw [if_neg c1]
      unfold j8_63 at h
      by_cases c2 : q.1 = 0
      · rw [if_pos (by simpa using c2)] at h
        rw [if_pos c2]
        exact po_trA hb ha h
      · rw [if_neg (by simpa using c2)] at h
        rw [if_neg c2]
        unfold j8_69 at h
        rw [w64_eq q.1 (by omega) (by omega), w64_eq (q.1 + 2) (by omega) (by omega), w64_eq _ (by omega) (by omega)] at h
        by_cases c3 : (b.length : Int) < a + q.1 + 2
        · rw [if_pos (d_pos (by omega))] at h
          rw [if_pos c3]
          exact po_wrongA h
        · rw [if_neg (d_neg (by omega))] at h
          rw [if_neg c3]
          exact po_77n hb ha (by omega) (by omega) (by omega) h
  · rw [if_neg (by simpa using c)] at h
    rw [if_neg c]
    exact po_wrongA h
theorem po_sizes {m a : Nat} {e : Int} {y : Bs} (hb : b.length < 2 ^ 60) (ha : a ≤ b.length) (hy : y.length ≤ 4096) : PO z b (xB z b m a e y) (rnd b a y) := by
  have st : s8_2 (xB z b m a e y) = s8_2x4 z b y.length m (a : Int) e y := rfl
  unfold s8_2x4 at st
  rw [bnd_ok ha, Option.bind_some, min2_len, Option.bind_some, show m16 z ((b.drop a).take (min (b.drop a).length 64)) 10 = some (eol (b.drop a)) from rfl, Option.bind_some] at st
  unfold rnd
  have hge : -1 ≤ eol (b.drop a) := Lib.indexByte_ge _ _
  unfold j8_23v1 at st
  by_cases c : eol (b.drop a) < 0
  · rw [if_pos (d_pos c)] at st
    rw [if_pos c]
    by_cases c2 : 64 ≤ (b.drop a).length
    · rw [if_pos (d_pos (by omega))] at st
      rw [if_pos c2]
      exact po_wrongB st rfl
    · rw [if_neg (d_neg (by omega))] at st
      rw [if_neg c2]
      unfold j8_28v1 at st
      rw [if_pos (d_pos c)] at st
      exact po_wrongB st rfl
  · have hl := eol_lt (r := b.drop a) (by omega)
    have hd : (b.drop a).length = b.length - a := List.length_drop
    rw [if_neg (d_neg c), if_neg (by simp)] at st
    rw [if_neg c]
    unfold j8_28v1 j8_36v1 at st
    rw [if_neg (d_neg c), bnd_of (by omega) (by omega), Option.bind_some, (m17_eq _ (by simp; omega)).1, Option.bind_some, w64_eq (eol (b.drop a) + 1) (by omega) (by omega), w64_eq ((a : Int) + (eol (b.drop a) + 1)) (by omega) (by omega),
      show (a : Int) + (eol (b.drop a) + 1) = ((a + (eol (b.drop a)).toNat + 1 : Nat) : Int) by omega] at st
    generalize hs : (b.drop a).take (eol (b.drop a)).toNat = ln at st ⊢
    have hln : ln.length < 64 := by rw [← hs, List.length_take]; omega
    unfold lineV
    by_cases c2 : 1 ≤ ln.length ∧ ln.getD (ln.length - 1) 0 = 13
    · rw [if_pos (d_pos c2)] at st
      rw [if_pos c2]
      unfold j8_47v1 at st
      rw [(m17_eq ln (by omega)).2 c2.1 c2.2, Option.bind_some, m18_eq _ (by simp; omega), Option.bind_some] at st
      exact po_55 (e := e) hb (by omega) hy (sizeS_nn _).1 st
    · rw [if_neg (d_neg c2)] at st
      rw [if_neg c2]
      unfold rnd2
      rw [if_neg (by decide)]
      exact po_wrongB st rfl
theorem po_start (hb : b.length < 2 ^ 60) : PO z b (.inl (z, b)) (rnd b 0 []) := by
  have st : s8_2 (.inl (z, b)) = s8_2x0 z b := rfl
  unfold s8_2x0 at st
  rw [min2_len, Option.bind_some, show m16 z (b.take (min b.length 64)) 10 = some (eol b) from rfl, Option.bind_some] at st
  unfold rnd
  rw [List.drop_zero]
  have hge : -1 ≤ eol b := Lib.indexByte_ge _ _
  unfold j8_23 at st
  by_cases c : eol b < 0
  · rw [if_pos (d_pos c)] at st
    rw [if_pos c]
    by_cases c2 : 64 ≤ b.length
    · rw [if_pos (d_pos (by omega))] at st
      rw [if_pos c2]
      exact po_wrongA st
    · rw [if_neg (d_neg (by omega))] at st
      rw [if_neg c2]
      unfold j8_28 at st
      rw [if_pos (d_pos c)] at st
      exact po_wrongA st
  · have hl := eol_lt (r := b) (by omega)
    rw [if_neg (d_neg c), if_neg (by simp)] at st
    rw [if_neg c]
    unfold j8_28 j8_36 at st
    rw [if_neg (d_neg c), bnd_of (by omega) (by omega), Option.bind_some, (m17_eq _ (by simp; omega)).1, Option.bind_some, w64_eq (eol b + 1) (by omega) (by omega), w64_eq (0 + (eol b + 1)) (by omega) (by omega),
      show 0 + (eol b + 1) = ((0 + (eol b).toNat + 1 : Nat) : Int) by omega] at st
    generalize hs : b.take (eol b).toNat = ln at st ⊢
    have hln : ln.length < 64 := by rw [← hs, List.length_take]; omega
    unfold lineV
    by_cases c2 : 1 ≤ ln.length ∧ ln.getD (ln.length - 1) 0 = 13
    · rw [if_pos (d_pos c2)] at st
      rw [if_pos c2]
      unfold j8_47 at st
      rw [(m17_eq ln (by omega)).2 c2.1 c2.2, Option.bind_some, m18_eq _ (by simp; omega), Option.bind_some] at st
      exact po_55n (e := 0) hb (by omega) (sizeS_nn _).1 st
    · rw [if_neg (d_neg c2)] at st
      rw [if_neg c2]
      unfold rnd2
      rw [if_neg (by decide)]
      exact po_wrongA st
end
end Go.Ab
end
section
set_option linter.all false
set_option maxRecDepth 100000
open Go Go.Ab Go.Proofs Go.Proofs.YtaohepmbkepmiaaDoor
namespace Go.Ab
abbrev T9 := (Bool × List UInt8 × Bool × List UInt8 × Int)
noncomputable def g9 : T9 → Option (T9 ⊕ R9) := fun x => s9_7 x.1 x.2.1 x.2.2.1 x.2.2.2.1 x.2.2.2.2
def nB : R9 → Bs × Int × Int
  | .inl (z, x, n, e) => (x, n, e)
  | .inr (z, x, n, e) => (x, n, e)
def RO (w : Bool) (b : Bs) (t : T9) (o : Out) : Prop := match o with
  | .inr x => ∃ r, g9 t = some (.inr r) ∧ nB r = x
  | .inl (a, y) => ∃ u, g9 t = some (.inl (w, b, u, y, (a : Int)))
section
variable {w : Bool} {b : Bs}
theorem j51_eq {u : Bool} {y : Bs} {n : Nat} {q : Int} (hb : b.length < 2 ^ 47) (hn : n < b.length) (hy : y.length ≤ 4096) (hq : 0 ≤ q) (hq2 : q ≤ 4096) {t : T9} (h : g9 t = j9_51 w b u y (n : Int) q (decide (4096 < (y.length : Int) + q))) : RO w b t (rnd2 b (n + 1) y (q, 0)) := by
  unfold rnd2
  rw [if_pos rfl]
  dsimp only
  unfold j9_51 at h
  rw [w64_eq ((n : Int) + 1) (by omega) (by omega), w64_eq q (by omega) (by omega)] at h
  by_cases c : 4096 < (y.length : Int) + q
  · rw [if_pos (d_pos c)] at h
    rw [if_pos (by omega)]
    exact ⟨_, h, rfl⟩
  rw [if_neg (d_neg c)] at h
  rw [if_neg (by omega)]
  rw [show ((n : Int) + 1) = ((n + 1 : Nat) : Int) by omega] at h
  by_cases c2 : q = 0
  · rw [if_pos (by simpa using c2), bnd_ok (by omega), Option.bind_some] at h
    rw [if_pos c2]
    obtain ⟨r, h1, h2⟩ := m22_prs w (b.drop (n + 1)) (by simp; omega)
    obtain ⟨_, _, _, h3, h4⟩ := m20_prs w (b.drop (n + 1)) (by simp; omega)
    rw [List.length_drop] at h4
    rw [h1, Option.bind_some] at h
    have hE : ∀ n' e' : Int, (n', e') = prs (b.drop (n + 1)) → (∃ r1 r2 : R9, g9 t = (if (e' == 0) = true then some (.inr r1) else some (.inr r2)) ∧ nB r1 = (y, w64 (((n + 1 : Nat) : Int) + n'), 0) ∧ nB r2 = ([], 0, e')) →
        RO w b t (if (prs (b.drop (n + 1))).2 = 0 then .inr (y, ((n + 1 : Nat) : Int) + (prs (b.drop (n + 1))).1, 0) else .inr ([], 0, (prs (b.drop (n + 1))).2)) := by
      intro n' e' hp ⟨r1, r2, k1, k2, k3⟩
      rw [← hp] at h3 h4 ⊢
      dsimp only at h3 h4 ⊢
      by_cases d : e' = 0
      · rw [if_pos (by simpa using d)] at k1
        rw [if_pos d]
        exact ⟨r1, k1, by rw [k2, w64_eq _ (by omega) (by omega)]⟩
      · rw [if_neg (by simpa using d)] at k1
        rw [if_neg d]
        exact ⟨r2, k1, k3⟩
    rcases r with ⟨z1, l1, n1, e1⟩ | ⟨z1, l1, n1, e1⟩
    · exact hE n1 e1 h2 ⟨_, _, h, rfl, rfl⟩
    · exact hE n1 e1 h2 ⟨_, _, h, rfl, rfl⟩
  rw [if_neg (by simpa using c2)] at h
  rw [if_neg c2]
  rw [w64_eq (((n + 1 : Nat) : Int) + q) (by omega) (by omega), w64_eq (((n + 1 : Nat) : Int) + q + 2) (by omega) (by omega), w64_eq (((n + 1 : Nat) : Int) + q + 1) (by omega) (by omega)] at h
  by_cases c3 : (b.length : Int) < ((n + 1 : Nat) : Int) + q + 2
  · rw [if_pos (d_pos c3)] at h
    rw [if_pos c3]
    exact ⟨_, h, rfl⟩
  rw [if_neg (d_neg c3), show ((n + 1 : Nat) : Int) + q = ((n + 1 + q.toNat : Nat) : Int) by omega, bnd_ok (by omega), Option.bind_some, bnd_ok (by omega), Option.bind_some, if_pos (.inr (by simp; omega)), if_pos (show 0 ≤ ((n + 1 + q.toNat : Nat) : Int) ∧ ((n + 1 + q.toNat : Nat) : Int) < b.length from ⟨by omega, by omega⟩),
    Int.toNat_natCast, List.drop_take, show n + 1 + q.toNat - (n + 1) = q.toNat by omega] at h
  rw [if_neg c3]
  unfold j9_91 at h
  by_cases d1 : b.getD (n + 1 + q.toNat) default = 13
  · rw [if_pos (by simpa [-List.getD_eq_getElem?_getD] using d1), if_pos (show 0 ≤ ((n + 1 + q.toNat : Nat) : Int) + 1 ∧ ((n + 1 + q.toNat : Nat) : Int) + 1 < b.length from ⟨by omega, by omega⟩), show (((n + 1 + q.toNat : Nat) : Int) + 1).toNat = n + 1 + q.toNat + 1 by omega] at h
    by_cases d2 : b.getD (n + 1 + q.toNat + 1) default = 10
    · have e2 : (!(b.getD (n + 1 + q.toNat + 1) default == (10 : UInt8))) = false := by simp [-List.getD_eq_getElem?_getD, d2]
      rw [e2, if_neg (by simp), w64_eq _ (by omega) (by omega)] at h
      rw [if_pos ⟨d1, d2⟩]
      exact ⟨_, h⟩
    · have e2 : (!(b.getD (n + 1 + q.toNat + 1) default == (10 : UInt8))) = true := by simp [-List.getD_eq_getElem?_getD, d2]
      rw [e2, if_pos rfl] at h
      rw [if_neg (fun k => d2 k.2)]
      exact ⟨_, h, rfl⟩
  · rw [if_neg (by simpa [-List.getD_eq_getElem?_getD] using d1), if_pos rfl] at h
    rw [if_neg (fun k => d1 k.1)]
    exact ⟨_, h, rfl⟩
theorem l13_eq {u : Bool} {y : Bs} {a : Nat} (hb : b.length < 2 ^ 47) (ha : a ≤ b.length) : ∃ n : Nat, a ≤ n ∧ n ≤ b.length ∧ n ≤ a + 64 ∧ (∀ k, a ≤ k → k < n → b.getD k default ≠ 10) ∧ (n < b.length → n < a + 64 → b.getD n default = 10) ∧ l9_13 w b u y (a : Int) (a : Int) = j9_22 w b u y (a : Int) (n : Int) := by
  have key : ∀ (m n : Nat), b.length + 1 - n < m → a ≤ n → n ≤ b.length → n ≤ a + 64 → (∀ k, a ≤ k → k < n → b.getD k default ≠ 10) →
      ∃ n' : Nat, a ≤ n' ∧ n' ≤ b.length ∧ n' ≤ a + 64 ∧ (∀ k, a ≤ k → k < n' → b.getD k default ≠ 10) ∧ (n' < b.length → n' < a + 64 → b.getD n' default = 10) ∧ l9_13 w b u y (a : Int) (n : Int) = j9_22 w b u y (a : Int) (n' : Int) := by
    intro m
    induction m with
    | zero => intro n h; omega
    | succ m ih =>
      intro n hm h1 h2 h3 h4
      have st : ∀ v : Option ((Bool × List UInt8 × Bool × List UInt8 × Int × Int) ⊕ (T9 ⊕ R9)), s9_13 w b u y (a : Int) (n : Int) = v → ((fun x : (Bool × List UInt8 × Bool × List UInt8 × Int × Int) => s9_13 x.1 x.2.1 x.2.2.1 x.2.2.2.1 x.2.2.2.2.1 x.2.2.2.2.2) (w, b, u, y, (a : Int), (n : Int))) = v := fun v h => h
      have stop : (n < b.length → n < a + 64 → b.getD n default = 10) → s9_13 w b u y (a : Int) (n : Int) = (j9_22 w b u y (a : Int) (n : Int)).map .inr → ∃ n' : Nat, a ≤ n' ∧ n' ≤ b.length ∧ n' ≤ a + 64 ∧ (∀ k, a ≤ k → k < n' → b.getD k default ≠ 10) ∧ (n' < b.length → n' < a + 64 → b.getD n' default = 10) ∧ l9_13 w b u y (a : Int) (n : Int) = j9_22 w b u y (a : Int) (n' : Int) := by
        intro k1 k2
        refine ⟨n, h1, h2, h3, h4, k1, ?_⟩
        unfold l9_13
        cases hj : j9_22 w b u y (a : Int) (n : Int) with
        | none => rw [hj] at k2; exact iter_n (st _ k2)
        | some r => rw [hj] at k2; exact iter_r (st _ k2)
      by_cases c : n < b.length
      · by_cases c2 : n < a + 64
        · by_cases c3 : b.getD n default = 10
          · refine stop (fun _ _ => c3) ?_
            unfold s9_13 j9_17
            rw [if_pos (d_pos (by omega)), w64_eq _ (by omega) (by omega), if_pos (d_pos (by omega)), if_pos ⟨by omega, by omega⟩, Int.toNat_natCast]
            have e : (!(b.getD n default == (10 : UInt8))) = false := by simp [-List.getD_eq_getElem?_getD, c3]
            rw [e, if_neg (by simp)]
          · obtain ⟨n', g1, g2, g3, g4, g5, g6⟩ := ih (n + 1) (by omega) (by omega) (by omega) (by omega) (fun k k1 k2 => by
              by_cases e : k = n
              · subst e; exact c3
              · exact h4 k k1 (by omega))
            refine ⟨n', g1, g2, g3, g4, g5, ?_⟩
            have k2 : s9_13 w b u y (a : Int) (n : Int) = some (.inl (w, b, u, y, (a : Int), ((n + 1 : Nat) : Int))) := by
              unfold s9_13 j9_17
              rw [if_pos (d_pos (by omega)), w64_eq _ (by omega) (by omega), if_pos (d_pos (by omega)), if_pos ⟨by omega, by omega⟩, Int.toNat_natCast]
              have e : (!(b.getD n default == (10 : UInt8))) = true := by simp [-List.getD_eq_getElem?_getD, c3]
              rw [e, if_pos rfl, w64_eq _ (by omega) (by omega), show (n : Int) + 1 = ((n + 1 : Nat) : Int) by omega]
            unfold l9_13
            rw [iter_l (st _ k2)]
            exact g6
        · refine stop (fun _ k => absurd k c2) ?_
          unfold s9_13 j9_17
          rw [if_pos (d_pos (by omega)), w64_eq _ (by omega) (by omega), if_neg (d_neg (by omega)), if_neg (by simp)]
      · refine stop (fun k => absurd k c) ?_
        unfold s9_13 j9_17
        rw [if_neg (d_neg (by omega)), if_neg (by simp)]
  exact key (b.length + 2) a (by omega) (Nat.le_refl _) ha (by omega) (fun k k1 k2 => by omega)
theorem eol_of {a n : Nat} (ha : a ≤ n) (h0 : a ≤ b.length) (h2 : n ≤ b.length) (h3 : n ≤ a + 64) (h4 : ∀ k, a ≤ k → k < n → b.getD k default ≠ 10) (h5 : n < b.length → n < a + 64 → b.getD n default = 10) :
    (n < b.length ∧ n < a + 64 → eol (b.drop a) = ((n - a : Nat) : Int)) ∧ (¬ (n < b.length ∧ n < a + 64) → eol (b.drop a) < 0) := by
  have hg : ∀ k, k < min (b.drop a).length 64 → ((b.drop a).take (min (b.drop a).length 64))[k]? = some (b.getD (a + k) default) := by
    intro k hk
    rw [List.getElem?_take_of_lt hk, List.getElem?_drop, List.getD_eq_getElem?_getD, List.getElem?_eq_getElem (by rw [List.length_drop] at hk; omega)]
    rfl
  refine ⟨fun h => ?_, fun h => ?_⟩
  · unfold eol
    refine idx_at ?_ ?_
    · rw [hg _ (by rw [List.length_drop]; omega), show a + (n - a) = n by omega, h5 h.1 h.2]
    · intro k hk
      rw [hg _ (by rw [List.length_drop]; omega)]
      intro e
      exact h4 (a + k) (by omega) (by omega) (Option.some.inj e)
  · have : eol (b.drop a) = -1 := by
      unfold eol
      refine idx_no ?_
      intro k hk
      have hk' : k < min (b.drop a).length 64 := by rw [List.length_take] at hk; omega
      rw [hg _ hk']
      rw [List.length_drop] at hk'
      intro e
      exact h4 (a + k) (by omega) (by omega) (Option.some.inj e)
    omega
theorem ro_round {u : Bool} {y : Bs} {a : Nat} (hb : b.length < 2 ^ 47) (ha : a ≤ b.length) (hy : y.length ≤ 4096) : RO w b (w, b, u, y, (a : Int)) (rnd b a y) := by
  obtain ⟨n, h1, h2, h3, h4, h5, h6⟩ := l13_eq (w := w) (u := u) (y := y) hb ha
  have st : g9 (w, b, u, y, (a : Int)) = j9_22 w b u y (a : Int) (n : Int) := h6
  obtain ⟨e1, e2⟩ := eol_of h1 ha h2 h3 h4 h5
  unfold rnd
  unfold j9_22 at st
  rw [w64_eq ((a : Int) + 64) (by omega) (by omega)] at st
  have hd : (b.drop a).length = b.length - a := List.length_drop
  by_cases c : n = a + 64
  · rw [if_pos (by simp; omega)] at st
    rw [if_pos (e2 (by omega)), if_pos (by omega)]
    exact ⟨_, st, rfl⟩
  rw [if_neg (by simp; omega)] at st
  by_cases c2 : n = b.length
  · rw [if_pos (by simp; omega)] at st
    rw [if_pos (e2 (by omega)), if_neg (by omega)]
    exact ⟨_, st, rfl⟩
  rw [if_neg (by simp; omega)] at st
  have e := e1 ⟨by omega, by omega⟩
  rw [e, if_neg (by omega), Int.toNat_natCast, show a + (n - a) + 1 = n + 1 by omega]
  rw [w64_eq ((n : Int) + 1) (by omega) (by omega), show ((n : Int) + 1) = ((n + 1 : Nat) : Int) by omega, bnd_ok (by omega), Option.bind_some, bnd_ok (by omega), Option.bind_some, List.drop_take, show n + 1 - a = n - a + 1 by omega] at st
  have hl : ((b.drop a).take (n - a + 1)).length = n - a + 1 := by rw [List.length_take]; omega
  have hln : ((b.drop a).take (n - a)).length = n - a := by rw [List.length_take]; omega
  have hgd : ∀ k, k < n - a + 1 → ((b.drop a).take (n - a + 1)).getD k 0 = b.getD (a + k) default := by
    intro k hk
    rw [List.getD_eq_getElem?_getD, List.getElem?_take_of_lt hk, List.getElem?_drop, List.getD_eq_getElem?_getD]
    rfl
  have hgd2 : ∀ k, k < n - a → ((b.drop a).take (n - a)).getD k 0 = b.getD (a + k) default := by
    intro k hk
    rw [List.getD_eq_getElem?_getD, List.getElem?_take_of_lt hk, List.getElem?_drop, List.getD_eq_getElem?_getD]
    rfl
  have hm : m21 ((b.drop a).take (n - a + 1)) = some (lineV ((b.drop a).take (n - a))) := by
    rw [m21_eq _ (by omega) (by rw [hl, hgd _ (by omega), show a + (n - a + 1 - 1) = n by omega]; exact h5 (by omega) (by omega)) (by omega), hl]
    unfold lineV
    rw [hln]
    by_cases k : 1 ≤ n - a
    · rw [hgd _ (by omega), hgd2 _ (by omega), show a + (n - a + 1 - 2) = a + (n - a - 1) by omega, List.take_take, List.take_take, Nat.min_eq_left (by omega), Nat.min_eq_left (by omega), show n - a + 1 - 2 = n - a - 1 by omega]
      by_cases k2 : b.getD (a + (n - a - 1)) default = 13
      · rw [if_pos ⟨by omega, k2⟩, if_pos ⟨k, k2⟩]
      · rw [if_neg (fun q => k2 q.2), if_neg (fun q => k2 q.2)]
    · rw [if_neg (fun q => by omega), if_neg (fun q => k q.1)]
  rw [hm, Option.bind_some] at st
  generalize hv : lineV ((b.drop a).take (n - a)) = v at st ⊢
  have hnn : 0 ≤ v.1 := by rw [← hv]; exact lineV_nn _
  obtain ⟨v1, v2⟩ := v
  dsimp only at st hnn
  by_cases k : v2 = 0
  · subst k
    rw [if_pos p00] at st
    by_cases k2 : 4096 < v1
    · rw [if_pos (d_pos k2)] at st
      unfold rnd2
      rw [if_pos rfl]
      dsimp only
      rw [if_pos (by omega)]
      unfold j9_51 at st
      rw [if_pos rfl] at st
      exact ⟨_, st, rfl⟩
    · rw [if_neg (d_neg k2), w64_eq v1 (by omega) (by omega), w64_eq ((y.length : Int) + v1) (by omega) (by omega)] at st
      exact j51_eq hb (by omega) hy hnn (by omega) st
  · rw [if_neg (by simpa using k)] at st
    unfold rnd2
    rw [if_neg k]
    exact ⟨_, st, rfl⟩
end
theorem rnd_go {b : Bs} {a : Nat} {y : Bs} {a' : Nat} {y' : Bs} (ha : a ≤ b.length) (hy : y.length ≤ 4096) (h : rnd b a y = .inl (a', y')) : a < a' ∧ a' ≤ b.length ∧ y'.length ≤ 4096 := by
  unfold rnd rnd2 at h
  split at h
  · split at h <;> cases h
  · have hnn := lineV_nn ((b.drop a).take (eol (b.drop a)).toNat)
    split at h
    · split at h
      · cases h
      · split at h
        · split at h <;> cases h
        · split at h
          · cases h
          · split at h
            · cases h
              refine ⟨by omega, by omega, ?_⟩
              rw [List.length_append, List.length_take, List.length_drop]
              omega
            · cases h
    · cases h
theorem take_two (z w : Bool) (b : Bs) (hb : b.length < 2 ^ 47) : ∀ (m a : Nat) (y : Bs) (s : S8) (u : Bool), b.length + 1 - a < m → a ≤ b.length → y.length ≤ 4096 → PO z b s (rnd b a y) → ∃ r q, iter s8_2 s = some r ∧ iter g9 (w, b, u, y, (a : Int)) = some q ∧ nB q = prR r ∧ okR r := by
  intro m
  induction m with
  | zero => intro a y s u h; omega
  | succ m ih =>
    intro a y s u hm ha hy hp
    have hr := ro_round (w := w) (u := u) hb ha hy
    cases ho : rnd b a y with
    | inr x =>
      rw [ho] at hp hr
      obtain ⟨r, h1, h2, h3⟩ := hp
      obtain ⟨q, k1, k2⟩ := hr
      exact ⟨r, q, h1, iter_r k1, by rw [k2, h2], h3⟩
    | inl ay =>
      obtain ⟨a', y'⟩ := ay
      obtain ⟨g1, g2, g3⟩ := rnd_go ha hy ho
      rw [ho] at hp hr
      obtain ⟨m', e', h1⟩ := hp
      obtain ⟨u', k1⟩ := hr
      obtain ⟨r, q, h2, h3, h4⟩ := ih a' y' (xB z b m' a' e' y') u' (by omega) g2 g3 (po_sizes (by omega) g2 g3)
      exact ⟨r, q, by rw [h1]; exact h2, by rw [iter_l k1]; exact h3, h4⟩
theorem m8_m9 (z w : Bool) (b : Bs) (hb : b.length < 2 ^ 47) : ∃ r q, m8 z b = some r ∧ m9 w b = some q ∧ nB q = prR r ∧ okR r :=
  take_two z w b hb _ 0 [] (.inl (z, b)) true (Nat.lt_succ_self _) (Nat.zero_le _) (by simp) (po_start (by omega))
theorem l3n (b0 : Bool) (b : Bs) (ok : Bool) : l3_14 b0 b false b ok 0 0 = some ok := by
  unfold l3_14
  refine iter_r ?_
  dsimp only
  unfold s3_14 j3_27 m10
  rw [if_neg (by decide)]
  cases ok with
  | true => simp
  | false => rfl
theorem l3o (b0 : Bool) (b : Bs) (n c : Nat) (ok : Bool) (h : Bs) (hn : n = h.length) (hb : n < 2 ^ 60) : l3_14v1 b0 b false b n c ok (n : Int) 0 h = some ok := by
  unfold l3_14v1
  refine iter_to (fun (x : (Bool × List UInt8 × Bool × List UInt8 × Nat × Nat × Bool × Int × Int × List UInt8)) => x.1 = b0 ∧ x.2.1 = b ∧ x.2.2.1 = false ∧ x.2.2.2.1 = b ∧ x.2.2.2.2.1 = n ∧ x.2.2.2.2.2.2.1 = ok ∧ x.2.2.2.2.2.2.2.1 = n ∧ 0 ≤ x.2.2.2.2.2.2.2.2.1 ∧ x.2.2.2.2.2.2.2.2.1 ≤ n ∧ x.2.2.2.2.2.2.2.2.2.length = n) (fun x => ((n : Int) - x.2.2.2.2.2.2.2.2.1).toNat) (some ok) ?_ _ ⟨rfl, rfl, rfl, rfl, rfl, rfl, rfl, Int.le_refl 0, by dsimp only; omega, hn.symm⟩
  rintro ⟨b0', b', f, b2, n', c', ok', t, i, h'⟩ ⟨h1, h2, h3, h4, h5, h6, h7, h8, h9, h10⟩
  dsimp only at h1 h2 h3 h4 h5 h6 h7 h8 h9 h10 ⊢
  subst h1 h2 h3 h4 h5 h6 h7
  unfold s3_14v1
  by_cases d : i < n'
  · left
    rw [if_pos (d_pos d)]
    unfold j3_21v1
    rw [if_pos ⟨h8, d⟩, if_pos (by omega), w64_eq _ (by omega) (by omega)]
    exact ⟨_, rfl, ⟨rfl, rfl, rfl, rfl, rfl, rfl, rfl, by dsimp only; omega, by dsimp only; omega, by simp; omega⟩, by dsimp only; omega⟩
  · right
    rw [if_neg (d_neg d)]
    unfold j3_27v1 m10
    cases ok' with
    | true => simp
    | false => rfl
theorem chunkTakes (b0 : Bool) (b : Bs) (hb : b.length < 2 ^ 47) : m3 b0 b = some true := by
  obtain ⟨r, q, h1, h2, h3, h4⟩ := m8_m9 false b0 b hb
  unfold m3
  rw [if_pos (.inr (by omega)), h1, Option.bind_some, h2]
  rcases r with ⟨n, e⟩ | ⟨l, c, n, e, h⟩
  · have fin : ∀ x n' e', (x, n', e') = (([] : Bs), n, e) → x = [] ∧ n = n' ∧ e = e' := by
      intro x n' e' h; cases h; exact ⟨rfl, rfl, rfl⟩
    rcases q with ⟨z1, x1, n1, e1⟩ | ⟨z1, x1, n1, e1⟩
    · obtain ⟨rfl, rfl, rfl⟩ := fin _ _ _ h3
      simp only [Option.bind_some]
      rw [if_pos (by simp), if_pos (by simp)]
      unfold m10 j3_10
      simp only [Option.bind_some]
      rw [l3n]; rfl
    · obtain ⟨rfl, rfl, rfl⟩ := fin _ _ _ h3
      simp only [Option.bind_some]
      rw [if_pos (by simp), if_pos (by simp)]
      unfold m10 j3_10v1
      simp only [Option.bind_some]
      rw [l3n]; rfl
  · obtain ⟨hl, hl2⟩ := h4
    subst hl
    have fin : ∀ x n' e', (x, n', e') = (h, n, e) → x = h ∧ n = n' ∧ e = e' := by
      intro x n' e' k; cases k; exact ⟨rfl, rfl, rfl⟩
    have hlen : h.length < 2 ^ 60 := by omega
    rcases q with ⟨z1, x1, n1, e1⟩ | ⟨z1, x1, n1, e1⟩
    · obtain ⟨rfl, rfl, rfl⟩ := fin _ _ _ h3
      simp only [Option.bind_some]
      rw [if_pos (by simp), if_pos (by simp)]
      unfold m10a j3_10v2
      rw [if_pos (Nat.le_refl _), Option.bind_some, List.take_length]
      dsimp only
      rw [l3o _ _ _ _ _ _ rfl hlen]
      simp
    · obtain ⟨rfl, rfl, rfl⟩ := fin _ _ _ h3
      simp only [Option.bind_some]
      rw [if_pos (by simp), if_pos (by simp)]
      unfold m10a j3_10v3
      rw [if_pos (Nat.le_refl _), Option.bind_some, List.take_length]
      dsimp only
      rw [l3o _ _ _ _ _ _ rfl hlen]
      simp
end Go.Ab
end
