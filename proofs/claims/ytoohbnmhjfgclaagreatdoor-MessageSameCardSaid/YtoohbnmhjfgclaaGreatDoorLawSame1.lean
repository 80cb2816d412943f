/- Plain laws of the functions. -/
import Derived.Test.YtoohbnmhjfgclaaGreatDoorEv8
import Derived.Test.YtoohbnmhjfgclaaGreatDoorFSame1
set_option linter.all false
section
set_option linter.all false
namespace Go.Ab
open Go
theorem iter_to {σ β : Type} {f : σ → Option (σ ⊕ β)} (I : σ → Prop) (μ : σ → Nat) (X : Option β)
    (h : ∀ s, I s → (∃ t, f s = some (.inl t) ∧ I t ∧ μ t < μ s) ∨ f s = X.map .inr) (s : σ) (hs : I s) : iter f s = X := by
  have key : ∀ n s, μ s < n → I s → iter f s = X := by
    intro n
    induction n with
    | zero => intro s h0; omega
    | succ n ih =>
      intro s hn hs
      rcases h s hs with ⟨t, ht, hI, hm⟩ | hr
      · rw [iter_l ht]; exact ih t (by omega) hI
      · cases X with
        | none => exact iter_n hr
        | some r => exact iter_r hr
  exact key (μ s + 1) s (by omega) hs
end Go.Ab
end
section
set_option linter.all false
open Go Go.Ab Go.Proofs Go.Proofs.YtoohbnmhjfgclaaGreatDoor
namespace Go.Ab
theorem dropEq {α : Type} [DecidableEq α] [Inhabited α] {a b : List α} {i : Nat} (h1 : i < a.length) (h2 : i < b.length) : (a.drop i = b.drop i) ↔ (a.getD i default = b.getD i default ∧ a.drop (i + 1) = b.drop (i + 1)) := by
  rw [List.drop_eq_getElem_cons h1, List.drop_eq_getElem_cons h2, List.cons.injEq, List.getD_eq_getElem?_getD, List.getD_eq_getElem?_getD, List.getElem?_eq_getElem h1, List.getElem?_eq_getElem h2]
  rfl
theorem pairB (x y : Bs × Bs) : ((x.1 == y.1) && (x.2 == y.2)) = decide (x = y) := by
  rw [Bool.eq_iff_iff]
  simp [Prod.ext_iff]
theorem m42_eq (z w : Bool) (a b : List (Bs × Bs)) (h : a.length ≤ 9223372036854775807) : m42 z a w b = some (decide (a = b)) := by
  unfold m42
  by_cases c : a.length = b.length
  · rw [if_pos (by simp; omega)]
    refine (iter_to (fun (x : Bool × List (Bs × Bs) × Bool × List (Bs × Bs) × Int × Int) => x.2.1 = a ∧ x.2.2.2.1 = b ∧ x.2.2.2.2.1 = a.length ∧ 0 ≤ x.2.2.2.2.2 ∧ x.2.2.2.2.2 ≤ a.length ∧ ((a = b) ↔ (a.drop x.2.2.2.2.2.toNat = b.drop x.2.2.2.2.2.toNat))) (fun x => ((a.length : Int) - x.2.2.2.2.2).toNat) (some (decide (a = b))) ?_ _ ⟨rfl, rfl, rfl, Int.le_refl 0, by dsimp only; omega, by simp⟩)
    rintro ⟨z, a', w, b', n, i⟩ ⟨h1, h2, h3, h4, h5, h6⟩
    dsimp only at h1 h2 h3 h4 h5 h6 ⊢
    subst h1 h2 h3
    unfold s42_14
    by_cases d : i < a'.length
    · rw [if_pos (by simpa using d), if_pos ⟨h4, d⟩, if_pos ⟨h4, by omega⟩, pairB]
      rw [dropEq (by omega) (by omega)] at h6
      by_cases e : a'.getD i.toNat default = b'.getD i.toNat default
      · left
        rw [if_pos (by simpa using e), w64_eq _ (by omega) (by omega)]
        refine ⟨_, rfl, ⟨rfl, rfl, rfl, by dsimp only; omega, by dsimp only; omega, ?_⟩, by dsimp only; omega⟩
        dsimp only
        rw [show (i + 1).toNat = i.toNat + 1 by omega, h6]
        exact ⟨fun x => x.2, fun x => ⟨e, x⟩⟩
      · right
        rw [if_neg (by simpa using e)]
        have : a' ≠ b' := fun x => e (h6.1 x).1
        simp [this]
    · right
      rw [if_neg (by simpa using d)]
      have : a' = b' := h6.2 (by rw [List.drop_eq_nil_of_le (by omega), List.drop_eq_nil_of_le (by omega)])
      simp [this, j42_33]
  · rw [if_neg (by simp; omega)]
    have : a ≠ b := fun e => c (by rw [e])
    simp [this]
theorem m39_eq (z w : Bool) (a b : List (Bs × Bs)) (h : a.length ≤ 9223372036854775807) : m39 z a w b = some (decide (a = b)) := by
  unfold m39
  by_cases c : a.length = b.length
  · rw [if_pos (by simp; omega)]
    refine (iter_to (fun (x : Bool × List (Bs × Bs) × Bool × List (Bs × Bs) × Int) => x.2.1 = a ∧ x.2.2.2.1 = b ∧ 0 ≤ x.2.2.2.2 ∧ x.2.2.2.2 ≤ a.length ∧ ((a = b) ↔ (a.drop x.2.2.2.2.toNat = b.drop x.2.2.2.2.toNat))) (fun x => ((a.length : Int) - x.2.2.2.2).toNat) (some (decide (a = b))) ?_ _ ⟨rfl, rfl, Int.le_refl 0, by dsimp only; omega, by simp⟩)
    rintro ⟨z, a', w, b', i⟩ ⟨h1, h2, h4, h5, h6⟩
    dsimp only at h1 h2 h4 h5 h6 ⊢
    subst h1 h2
    unfold s39_14
    by_cases d : i < a'.length
    · rw [if_pos (by simpa using d), if_pos ⟨h4, d⟩, if_pos ⟨h4, by omega⟩, pairB]
      rw [dropEq (by omega) (by omega)] at h6
      by_cases e : a'.getD i.toNat default = b'.getD i.toNat default
      · left
        rw [if_pos (by simpa using e), w64_eq _ (by omega) (by omega)]
        refine ⟨_, rfl, ⟨rfl, rfl, by dsimp only; omega, by dsimp only; omega, ?_⟩, by dsimp only; omega⟩
        dsimp only
        rw [show (i + 1).toNat = i.toNat + 1 by omega, h6]
        exact ⟨fun x => x.2, fun x => ⟨e, x⟩⟩
      · right
        rw [if_neg (by simpa using e)]
        have : a' ≠ b' := fun x => e (h6.1 x).1
        simp [this]
    · right
      rw [if_neg (by simpa using d)]
      have : a' = b' := h6.2 (by rw [List.drop_eq_nil_of_le (by omega), List.drop_eq_nil_of_le (by omega)])
      simp [this, j39_31]
  · rw [if_neg (by simp; omega)]
    have : a ≠ b := fun e => c (by rw [e])
    simp [this]
theorem m18_eq (a0 a1 : Bs) (a2 : Int) (a3 : Bool) (a4 : List (Bs × Bs)) (a5 : Bool) (a6 : Bs) (b0 b1 : Bs) (b2 : Int) (b3 : Bool) (b4 : List (Bs × Bs)) (b5 : Bool) (b6 : Bs) (h : a4.length ≤ 9223372036854775807) :
    m18 a0 a1 a2 a3 a4 a5 a6 b0 b1 b2 b3 b4 b5 b6 = m13 a0 a1 a2 a3 a4 a5 a6 b0 b1 b2 b3 b4 b5 b6 ∧ ∃ r, m13 a0 a1 a2 a3 a4 a5 a6 b0 b1 b2 b3 b4 b5 b6 = some r := by
  unfold m18 m13 m16
  rw [m42_eq _ _ _ _ h, m39_eq _ _ _ _ h]
  simp only [Option.bind_some]
  refine ⟨trivial, ?_⟩
  repeat' split
  all_goals exact ⟨_, rfl⟩
theorem m19_eq (a0 : Int) (a1 : Bs) (a2 : Int) (a3 : Bool) (a4 : List (Bs × Bs)) (a5 : Bool) (a6 : Bs) (b0 : Int) (b1 : Bs) (b2 : Int) (b3 : Bool) (b4 : List (Bs × Bs)) (b5 : Bool) (b6 : Bs) (h : a4.length ≤ 9223372036854775807) :
    m19 a0 a1 a2 a3 a4 a5 a6 b0 b1 b2 b3 b4 b5 b6 = m14 a0 a1 a2 a3 a4 a5 a6 b0 b1 b2 b3 b4 b5 b6 ∧ ∃ r, m14 a0 a1 a2 a3 a4 a5 a6 b0 b1 b2 b3 b4 b5 b6 = some r := by
  unfold m19 m14 m16
  rw [m42_eq _ _ _ _ h, m39_eq _ _ _ _ h]
  simp only [Option.bind_some]
  refine ⟨trivial, ?_⟩
  repeat' split
  all_goals exact ⟨_, rfl⟩
theorem messageSame (a_0 a_1 : Bs) (a_2 : Int) (a_3 : Bool) (a_4 : List (Bs × Bs)) (a_5 : Bool) (a_6 : List UInt8) (a_7 : Int) (a_8 : Bs) (a_9 : Int) (a_10 : Bool) (a_11 : List (Bs × Bs)) (a_12 : Bool) (a_13 : List UInt8) (a_14 b_0 b_1 : Bs) (b_2 : Int) (b_3 : Bool) (b_4 : List (Bs × Bs)) (b_5 : Bool) (b_6 : List UInt8) (b_7 : Int) (b_8 : Bs) (b_9 : Int) (b_10 : Bool) (b_11 : List (Bs × Bs)) (b_12 : Bool) (b_13 : List UInt8) (b_14 : Bs)
    (h1 : a_4.length ≤ 9223372036854775807) (h2 : a_11.length ≤ 9223372036854775807) :
    m5 a_0 a_1 a_2 a_3 a_4 a_5 a_6 a_7 a_8 a_9 a_10 a_11 a_12 a_13 a_14 b_0 b_1 b_2 b_3 b_4 b_5 b_6 b_7 b_8 b_9 b_10 b_11 b_12 b_13 b_14 = some true := by
  unfold m5
  obtain ⟨e1, r1, g1⟩ := m18_eq a_0 a_1 a_2 a_3 a_4 a_5 a_6 b_0 b_1 b_2 b_3 b_4 b_5 b_6 h1
  obtain ⟨e2, r2, g2⟩ := m19_eq a_7 a_8 a_9 a_10 a_11 a_12 a_13 b_7 b_8 b_9 b_10 b_11 b_12 b_13 h2
  rw [e1, e2, g1, g2]
  simp only [Option.bind_some]
  rw [if_pos (by simp)]
  simp
end Go.Ab
end
