/- Texts: elements put together. -/
import Derived.Test.YtcjkhdkfdnjhaaaDoorPT5E
import Derived.Test.YtcjkhdkfdnjhaaaDoorFE2
set_option linter.unusedVariables false
set_option linter.unusedSimpArgs false
set_option linter.unnecessarySimpa false
open Go Go.Ab Go.Proofs Go.Proofs.YtcjkhdkfdnjhaaaDoor
namespace Go.Ab
/-! ### elements -/
theorem j7_66_eq {t b : Bs} {z : Bool} (hb : b.length ≤ SZ) (ht : t.length ≤ SZ) (h : ∀ c ∈ b, c ≠ 34) : j7_66 t z b = some true := by
  unfold SZ at hb ht
  unfold j7_66
  obtain ⟨z1, h1⟩ := m22_eq b (by omega)
  obtain ⟨z2, h2⟩ := m22_eq t (by omega)
  obtain ⟨z3, h3⟩ := m22_eq ((b ++ [44]) ++ t) (by simp; omega)
  have l1 := listL_len b
  have l2 := listL_len t
  rw [h1, h2]
  simp only [Option.bind_some]
  rw [if_pos (.inr (by omega)), if_pos (by omega), if_pos (by simp; omega), h3]
  simp only [Option.bind_some]
  have e : listL ((b ++ [44]) ++ t) = listL b ++ listL t := by
    rw [List.append_assoc]
    exact listL_bare b t h
  rw [e, m21_eq _ _ _ _ (by simp; omega)]
  simp
def bareL (s : Bs) : Bs := s.filter fun c => !(c == 34) && !(c == 92)
theorem l7_51_eq {s t : Bs} (hs : s.length ≤ SZ) (ht : t.length ≤ SZ) : l7_51 s t true [] 0 = some true := by
  unfold SZ at hs
  unfold l7_51
  refine iter_to (fun (x : Bs × Bs × Bool × List UInt8 × Int) => x.1 = s ∧ x.2.1 = t ∧ 0 ≤ x.2.2.2.2 ∧ x.2.2.2.2 ≤ s.length ∧ x.2.2.2.1.length ≤ x.2.2.2.2.toNat ∧ ∀ c ∈ x.2.2.2.1, c ≠ 34) (fun (x : Bs × Bs × Bool × List UInt8 × Int) => ((s.length : Int) - x.2.2.2.2).toNat) _ ?_ _ ⟨rfl, rfl, by dsimp only; omega, by dsimp only; omega, by simp, by simp⟩
  rintro ⟨s', t', z, b, i⟩ hI
  dsimp only at hI ⊢
  obtain ⟨rfl, rfl, h0, h1, h2, h3⟩ := hI
  unfold s7_51
  by_cases c : i < s'.length
  · left
    rw [if_pos (by simpa using c), if_pos ⟨h0, c⟩]
    have no : j7_62 s' t' z b i false = some (.inl (s', t', z, b, i + 1)) := by
      unfold j7_62 j7_65v1
      rw [if_neg (by decide), w64_eq _ (by omega) (by omega)]
    by_cases b34 : s'.getD i.toNat 0 = 34
    · rw [if_pos (by simp [b34, -List.getD_eq_getElem?_getD]), no]
      exact ⟨_, rfl, ⟨rfl, rfl, by dsimp only; omega, by dsimp only; omega, by dsimp only; omega, h3⟩, by dsimp only; omega⟩
    · rw [if_neg (by simp [b34, -List.getD_eq_getElem?_getD])]
      by_cases b92 : s'.getD i.toNat 0 = 92
      · have : (!(s'.getD i.toNat 0 == 92)) = false := by simp [b92, -List.getD_eq_getElem?_getD]
        rw [this, no]
        exact ⟨_, rfl, ⟨rfl, rfl, by dsimp only; omega, by dsimp only; omega, by dsimp only; omega, h3⟩, by dsimp only; omega⟩
      · have : (!(s'.getD i.toNat 0 == 92)) = true := by simp [b92, -List.getD_eq_getElem?_getD]
        rw [this]
        unfold j7_62 j7_65
        rw [if_pos rfl, if_pos ⟨h0, c⟩, if_pos (by omega), w64_eq _ (by omega) (by omega)]
        refine ⟨_, rfl, ⟨rfl, rfl, by dsimp only; omega, by dsimp only; omega, by dsimp only; simp; omega, ?_⟩, by dsimp only; omega⟩
        intro d hd
        rcases List.mem_append.1 hd with h | h
        · exact h3 d h
        · rw [List.mem_singleton.1 h]; exact b34
  · right
    rw [if_neg (by simpa using c), j7_66_eq (by unfold SZ; omega) ht h3]
theorem t7_true {s t : Bs} (hs : s.length ≤ SZ) (ht : t.length ≤ SZ) : m7 s t = some true := by
  have h51 := l7_51_eq hs ht
  unfold SZ at hs
  unfold m7
  obtain ⟨z, h1⟩ := m22_eq s (by omega)
  rw [h1]
  simp only [Option.bind_some]
  have hwl := wt_listL s
  have hll := listL_len s
  have hjj := jn_wt (listL s)
  have hmem : ∀ i : Nat, i < (listL s).length → (listL s).getD i default ≠ [] ∧ trimL ((listL s).getD i default) = (listL s).getD i default := by
    intro i hi
    have : (listL s).getD i default ∈ listL s := by
      rw [List.getD_eq_getElem?_getD, List.getElem?_eq_getElem hi]
      exact List.getElem_mem hi
    have := fl_mem this
    exact ⟨this.1, this.2.1⟩
  have hself := listL_jn s
  generalize hL : listL s = L at *
  unfold l7_10
  refine iter_to (fun (x : Bs × Bs × Bool × List Bs × Bool × List UInt8 × Int) => x.1 = s ∧ x.2.1 = t ∧ x.2.2.2.1 = L ∧ 0 ≤ x.2.2.2.2.2.2 ∧ x.2.2.2.2.2.2 ≤ L.length ∧ x.2.2.2.2.2.1 = jn (L.take x.2.2.2.2.2.2.toNat)) (fun (x : Bs × Bs × Bool × List Bs × Bool × List UInt8 × Int) => ((L.length : Int) - x.2.2.2.2.2.2).toNat) _ ?_ _ ⟨rfl, rfl, rfl, by dsimp only; omega, by dsimp only; omega, by simp [jn]⟩
  rintro ⟨s', t', z1, l, z2, b, i⟩ hI
  dsimp only at hI ⊢
  obtain ⟨rfl, rfl, rfl, h0, h1', rfl⟩ := hI
  unfold s7_10
  by_cases c : i < l.length
  · left
    obtain ⟨m1, m2⟩ := hmem i.toNat (by omega)
    have hwt := wt_take l (i.toNat + 1)
    have e1 : l.take (i.toNat + 1) = l.take i.toNat ++ [l.getD i.toNat default] := by
      rw [List.take_succ_eq_append_getElem (by omega), List.getD_eq_getElem?_getD, List.getElem?_eq_getElem (by omega)]
      rfl
    have hj2 := jn_wt (l.take (i.toNat + 1))
    have hxl : (l.getD i.toNat default).length ≤ s'.length + 1 := by
      have := wt_take l (i.toNat + 1)
      rw [e1] at this
      have h3 : wt (l.take i.toNat ++ [l.getD i.toNat default]) = wt (l.take i.toNat) + ((l.getD i.toNat default).length + 1) := by simp [wt]
      omega
    have hj0 := jn_wt (l.take i.toNat)
    have hw0 := wt_take l i.toNat
    rw [if_pos (by simpa using c), if_pos ⟨h0, c⟩, if_neg (by simpa using m1), m14_eq _ (by omega), Option.bind_some, m2]
    have : (!(l.getD i.toNat default == l.getD i.toNat default)) = false := by simp
    rw [this]
    unfold j7_22 j7_33 j7_33v1 j7_34 j7_34v1
    rw [if_neg (by decide), w64_eq _ (by omega) (by omega)]
    by_cases d : 0 < i
    · rw [if_pos (by simpa using d), if_pos (by omega), if_pos ⟨h0, c⟩, if_pos (.inr (by simp [-List.getD_eq_getElem?_getD]; omega))]
      refine ⟨_, rfl, ⟨rfl, rfl, rfl, by dsimp only; omega, by dsimp only; omega, ?_⟩, by dsimp only; omega⟩
      dsimp only
      rw [show (i + 1).toNat = i.toNat + 1 by omega, e1, jn_snoc _ _ (by intro e; have := congrArg List.length e; rw [List.length_take, List.length_nil] at this; omega)]
      simp
    · have hi : i = 0 := by omega
      subst hi
      rw [if_neg (by decide), if_pos ⟨h0, c⟩, if_pos (.inr (by omega))]
      refine ⟨_, rfl, ⟨rfl, rfl, rfl, by dsimp only; omega, by dsimp only; omega, ?_⟩, by dsimp only; omega⟩
      dsimp only
      have e2 : ((0 : Int) + 1).toNat = (0 : Int).toNat + 1 := rfl
      rw [e2, e1]
      rfl
  · right
    have e : i.toNat = l.length := by omega
    rw [if_neg (by simpa using c), e, List.take_length]
    congr 1
    unfold j7_35 j7_40 j7_40v1 j7_45 j7_45v1
    obtain ⟨z3, h3⟩ := m22_eq (jn l) (by omega)
    obtain ⟨z4, h4⟩ := m22_eq ([32, 44, 9, 44] ++ jn l) (by simp; omega)
    have e4 : listL ([32, 44, 9, 44] ++ jn l) = listL (jn l) := listL_pre (jn l)
    rw [h3, hself, Option.bind_some, m21_eq _ _ _ _ (by dsimp only; omega), Option.bind_some, if_pos (by simp), if_pos (by omega), h4, e4, hself, Option.bind_some, m21_eq _ _ _ _ (by dsimp only; omega), Option.bind_some]
    rw [if_neg (by simp), h51]
end Go.Ab
