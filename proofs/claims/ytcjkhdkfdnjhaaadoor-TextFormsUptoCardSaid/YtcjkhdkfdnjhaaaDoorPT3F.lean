/- Texts: the elements of lists, as the document has them; lists held against each other. -/
import Derived.Test.YtcjkhdkfdnjhaaaDoorPT2F
set_option linter.unusedVariables false
set_option linter.unusedSimpArgs false
set_option linter.unnecessarySimpa false
open Go Go.Ab Go.Proofs Go.Proofs.YtcjkhdkfdnjhaaaDoor
namespace Go.Ab

theorem fl_len (l : List Bs) : (fl l).length ≤ l.length := by
  unfold fl
  exact Nat.le_trans (List.length_filter_le ..) (by simp)
theorem split_len : ∀ (s : Bs) (q m : Bool) (cur : Bs), (split q m cur s).length ≤ s.length + 1 := by
  intro s
  induction s with
  | nil => intro q m cur; simp [split]
  | cons c s ih =>
    intro q m cur
    rw [split]
    have := ih
    repeat' split
    all_goals first | exact Nat.le_trans (ih _ _ _) (by simp) | (rw [List.length_cons]; have := ih false false []; simp; omega)
theorem m22_eq (s : Bs) (hs : s.length < 2 ^ 30) : ∃ z, m22 s = some (z, listL s) := m22_big s (by omega) (by
  have := fl_len (split false false [] s)
  have := split_len s false false []
  unfold listL; omega)
theorem m37_eq {s : Bs} {f p : Nat} (hs : s.length < 2 ^ 30) (hf : f ≤ p) (hp : p < s.length) : ∃ e : Nat, m37 s p = some (e : Int) ∧ p + 1 ≤ e ∧ e ≤ s.length ∧ restL s true false f (p + 1) = restL s false false f e := by
  have main : ∃ r, m37 s p = some r ∧ ∃ e : Nat, r = e ∧ p + 1 ≤ e ∧ e ≤ s.length ∧ restL s true false f (p + 1) = restL s false false f e := by
    have hend : s.length ≤ p + 1 → restL s true false f (p + 1) = restL s false false f s.length := fun h => by rw [show p + 1 = s.length by omega, rest_end, rest_end]
    unfold m37 l37_6
    rw [w64_eq _ (by omega) (by omega)]
    refine iter_post (fun (x : Bs × Int) => x.1 = s ∧ ∃ a : Nat, x.2 = a ∧ p + 1 ≤ a ∧ a ≤ s.length + 1 ∧ (a ≤ s.length → restL s true false f (p + 1) = restL s true false f a) ∧ (s.length ≤ a → restL s true false f (p + 1) = restL s false false f s.length)) (fun (x : Bs × Int) => (s.length + 1 - x.2).toNat) _ ?_ _ ⟨rfl, p + 1, rfl, Nat.le_refl _, by omega, fun _ => rfl, hend⟩
    rintro ⟨s', a'⟩ hI
    dsimp only at hI ⊢
    obtain ⟨rfl, a, rfl, h1, h2, h3, h4⟩ := hI
    unfold s37_6 j37_10 j37_20 j37_21
    by_cases c : a < s'.length
    · have hr := h3 (by omega)
      rw [rest_step (by omega) c, if_neg (by decide)] at hr
      rw [if_pos (by simpa using c), if_pos ⟨by omega, by omega⟩]
      simp only [Int.toNat_natCast]
      by_cases b34 : s'.getD a 0 = 34
      · right
        rw [if_neg (fun h => by rw [b34] at h; exact absurd h.2 (by decide)), if_pos b34] at hr
        refine ⟨((a + 1 : Nat) : Int), ?_, a + 1, rfl, by omega, by omega, hr⟩
        rw [if_neg (by simp [b34, -List.getD_eq_getElem?_getD]), if_neg (by simp; omega), w64_eq _ (by omega) (by omega)]
        rfl
      · left
        have e34 : (!(s'.getD a 0 == 34)) = true := by simp [b34, -List.getD_eq_getElem?_getD]
        rw [if_pos e34, if_pos ⟨by omega, by omega⟩]
        by_cases b92 : s'.getD a 0 = 92
        · rw [if_pos ⟨rfl, b92⟩] at hr
          refine ⟨(s', ((a + 2 : Nat) : Int)), ?_, ⟨rfl, a + 2, rfl, by omega, by omega, ?_, ?_⟩, by dsimp only; omega⟩
          · rw [if_pos (by simp [b92, -List.getD_eq_getElem?_getD]), w64_eq ((a : Int) + 1) (by omega) (by omega), w64_eq _ (by omega) (by omega)]
            simp only [Option.some.injEq, Sum.inl.injEq, Prod.mk.injEq, true_and]
            omega
          · intro h
            rw [hr, rest_step (by omega) (by omega), if_pos rfl]
          · intro h
            by_cases e : a + 1 = s'.length
            · rw [hr, e, rest_end, rest_end]
            · rw [hr, rest_step (by omega) (by omega), if_pos rfl, show a + 1 + 1 = s'.length by omega, rest_end, rest_end]
        · rw [if_neg (fun h => b92 h.2), if_neg b34, if_neg (by simp)] at hr
          refine ⟨(s', ((a + 1 : Nat) : Int)), ?_, ⟨rfl, a + 1, rfl, by omega, by omega, fun _ => hr, ?_⟩, by dsimp only; omega⟩
          · rw [if_neg (by simp [b92, -List.getD_eq_getElem?_getD]), w64_eq _ (by omega) (by omega)]
            rfl
          · intro h
            rw [hr, show a + 1 = s'.length by omega, rest_end, rest_end]
    · right
      refine ⟨(s'.length : Int), ?_, s'.length, rfl, by omega, by omega, h4 (by omega)⟩
      rw [if_neg (by simpa using c), if_neg (by decide), if_pos (by simp; omega)]
      rfl
  obtain ⟨r, h1, e, rfl, h⟩ := main
  exact ⟨e, h1, h⟩
/-- the document's List -/
theorem m23_eq (s : Bs) (hs : s.length < 2 ^ 30) : ∃ z, m23 s = some (z, listL s) := by
  have main : ∃ r, m23 s = some r ∧ r.2 = listL s := by
    unfold m23 l23_10
    refine iter_post (fun (x : Bs × Bool × List Bs × Int × Int) => x.1 = s ∧ ∃ f a : Nat, x.2.2.2.1 = f ∧ x.2.2.2.2 = a ∧ f ≤ a ∧ a ≤ s.length + 1 ∧ x.2.2.1.length ≤ a ∧ (a ≤ s.length → x.2.2.1 ++ restL s false false f a = listL s) ∧ (s.length < a → x.2.2.1 = listL s)) (fun (x : Bs × Bool × List Bs × Int × Int) => (s.length + 1 - x.2.2.2.2).toNat) _ ?_ _ ⟨rfl, 0, 0, rfl, rfl, Nat.le_refl _, by omega, by simp, fun _ => by dsimp only; unfold restL listL; simp, fun h => by omega⟩
    rintro ⟨s', z, l, f', a'⟩ hI
    dsimp only at hI ⊢
    obtain ⟨rfl, f, a, rfl, rfl, hf, ha, hlen, h1, h2⟩ := hI
    unfold s23_10
    by_cases c0 : a ≤ s'.length
    · left
      have hr := h1 c0
      rw [if_pos (by simpa using c0)]
      -- the end of an element
      have cut : ∀ (R : List Bs), l ++ ((if trimL ((s'.take a).drop f) = [] then [] else [trimL ((s'.take a).drop f)]) ++ R) = listL s' → ∃ z' l', j23_29 s' z l f a true = some (.inl (s', z', l', ((a + 1 : Nat) : Int), ((a + 1 : Nat) : Int))) ∧ l'.length ≤ a + 1 ∧ l' ++ R = listL s' := by
        intro R hR
        unfold j23_29 j23_38 j23_38v1 j23_40 j23_40v1
        rw [if_pos rfl, bnd_ok c0, Option.bind_some, bnd_ok hf, Option.bind_some, m15_eq _ (by simp; omega), Option.bind_some, w64_eq _ (by omega) (by omega)]
        by_cases e : trimL ((s'.take a).drop f) = []
        · rw [if_pos e] at hR
          exact ⟨z, l, by rw [if_pos (by simpa using e)]; rfl, by omega, by simpa using hR⟩
        · rw [if_neg e] at hR
          exact ⟨false, l ++ [trimL ((s'.take a).drop f)], by rw [if_neg (by simpa using e), if_pos (by omega)]; rfl, by simp; omega, by simpa using hR⟩
      by_cases c : a < s'.length
      · rw [if_pos (by simpa using c), if_pos ⟨by omega, by omega⟩]
        simp only [Int.toNat_natCast]
        have hr2 := hr
        rw [rest_step hf c, if_neg (by decide), if_neg (by simp)] at hr2
        unfold j23_21
        by_cases b34 : s'.getD a 0 = 34
        · rw [if_pos b34] at hr2
          obtain ⟨e, g1, g2, g3, g4⟩ := m37_eq hs hf c
          have hn : (!false) = true := rfl
          rw [hn, g4] at hr2
          refine ⟨(s', z, l, f, e), ?_, ⟨rfl, f, e, rfl, rfl, by omega, by omega, by dsimp only; omega, fun _ => hr2, fun h => by omega⟩, by dsimp only; omega⟩
          rw [if_pos (by simp [b34, -List.getD_eq_getElem?_getD]), g1]
          rfl
        · rw [if_neg b34] at hr2
          rw [if_neg (by simp [b34, -List.getD_eq_getElem?_getD]), if_neg (by simp; omega), if_pos ⟨by omega, by omega⟩]
          by_cases b44 : s'.getD a 0 = 44
          · rw [if_pos ⟨b44, rfl⟩] at hr2
            obtain ⟨z', l', g1, g2, g3⟩ := cut _ hr2
            refine ⟨(s', z', l', ((a + 1 : Nat) : Int), ((a + 1 : Nat) : Int)), ?_, ⟨rfl, a + 1, a + 1, rfl, rfl, Nat.le_refl _, by omega, g2, fun _ => g3, fun h => by omega⟩, by dsimp only; omega⟩
            have : (s'.getD a 0 == 44) = true := by simp [b44, -List.getD_eq_getElem?_getD]
            rw [Int.toNat_natCast, this]
            exact g1
          · rw [if_neg (fun h => b44 h.1)] at hr2
            refine ⟨(s', z, l, f, ((a + 1 : Nat) : Int)), ?_, ⟨rfl, f, a + 1, rfl, rfl, by omega, by omega, by dsimp only; omega, fun _ => hr2, fun h => by omega⟩, by dsimp only; omega⟩
            have : (s'.getD a 0 == 44) = false := by simp [b44, -List.getD_eq_getElem?_getD]
            rw [Int.toNat_natCast, this]
            unfold j23_29 j23_40
            rw [if_neg (by decide), w64_eq _ (by omega) (by omega)]
            rfl
      · have e : a = s'.length := by omega
        rw [if_neg (by simpa using c)]
        unfold j23_21
        rw [if_neg (by decide), if_pos (by simp [e])]
        have hr2 : l ++ ((if trimL ((s'.take a).drop f) = [] then [] else [trimL ((s'.take a).drop f)]) ++ []) = listL s' := by
          rw [← hr, e, rest_end, List.take_length, List.append_nil]
        obtain ⟨z', l', g1, g2, g3⟩ := cut [] hr2
        exact ⟨(s', z', l', ((a + 1 : Nat) : Int), ((a + 1 : Nat) : Int)), g1, ⟨rfl, a + 1, a + 1, rfl, rfl, Nat.le_refl _, by omega, g2, fun h => by omega, fun _ => by simpa using g3⟩, by dsimp only; omega⟩
    · right
      unfold j23_41
      exact ⟨_, by rw [if_neg (by simpa using c0)]; rfl, h2 (by omega)⟩
  obtain ⟨⟨z, l⟩, h1, h2⟩ := main
  exact ⟨z, by rw [h1]; simp at h2; rw [h2]⟩
/-- Equal -/
theorem m21_eq (z z' : Bool) (a b : List Bs) (hs : a.length < 2 ^ 60) : m21 z a z' b = some (a == b) := by
  unfold m21
  by_cases c : a.length = b.length
  · rw [if_pos (by simp [c])]
    unfold l21_14
    refine (iter_g (fun (x : Bool × List Bs × Bool × List Bs × Int) => x.2.1 = a ∧ x.2.2.2.1 = b ∧ 0 ≤ x.2.2.2.2 ∧ x.2.2.2.2 ≤ a.length) (fun (x : Bool × List Bs × Bool × List Bs × Int) => (a.length - x.2.2.2.2).toNat) (fun (x : Bool × List Bs × Bool × List Bs × Int) => some (a.drop x.2.2.2.2.toNat == b.drop x.2.2.2.2.toNat)) ?_ _ ⟨rfl, rfl, by dsimp only; omega, by dsimp only; omega⟩).trans (by simp)
    rintro ⟨z1, a1, z2, b1, i⟩ hI
    dsimp only at hI ⊢
    obtain ⟨rfl, rfl, h0, h1⟩ := hI
    unfold s21_14
    by_cases d : i < a1.length
    · have e1 : a1.drop i.toNat = a1.getD i.toNat default :: a1.drop (i.toNat + 1) := by
        rw [List.drop_eq_getElem_cons (by omega), List.getD_eq_getElem?_getD, List.getElem?_eq_getElem (by omega), Option.getD_some]
      have e2 : b1.drop i.toNat = b1.getD i.toNat default :: b1.drop (i.toNat + 1) := by
        rw [List.drop_eq_getElem_cons (by omega), List.getD_eq_getElem?_getD, List.getElem?_eq_getElem (by omega), Option.getD_some]
      rw [if_pos (by simpa using d), if_pos ⟨h0, d⟩, if_pos ⟨h0, by omega⟩, e1, e2]
      by_cases g : a1.getD i.toNat default = b1.getD i.toNat default
      · left
        refine ⟨(z1, a1, z2, b1, i + 1), by rw [if_pos (by rw [g]; simp), w64_eq _ (by omega) (by omega)], ⟨rfl, rfl, by dsimp only; omega, by dsimp only; omega⟩, by dsimp only; omega, ?_⟩
        dsimp only
        rw [show (i + 1).toNat = i.toNat + 1 by omega, g]
        simp
      · right
        rw [if_neg (by simpa using g)]
        have : ((a1.getD i.toNat default :: a1.drop (i.toNat + 1)) == (b1.getD i.toNat default :: b1.drop (i.toNat + 1))) = false := by
          simp only [List.cons_beq_cons, Bool.and_eq_false_iff]
          left; simpa using g
        rw [this]
        rfl
    · right
      unfold j21_31
      rw [if_neg (by simpa using d), List.drop_eq_nil_of_le (by omega), List.drop_eq_nil_of_le (by omega)]
      rfl
  · rw [if_neg (by simp; omega)]
    congr 1
    symm
    rw [beq_eq_false_iff_ne]
    exact fun e => c (by rw [e])
end Go.Ab
