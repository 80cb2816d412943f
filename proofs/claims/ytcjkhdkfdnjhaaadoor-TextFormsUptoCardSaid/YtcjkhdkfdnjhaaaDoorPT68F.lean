/- Texts: forms. -/
import Derived.Test.YtcjkhdkfdnjhaaaDoorPT5F
import Derived.Test.YtcjkhdkfdnjhaaaDoorFF2
set_option linter.unusedVariables false
set_option linter.unusedSimpArgs false
set_option linter.unnecessarySimpa false
open Go Go.Ab Go.Proofs Go.Proofs.YtcjkhdkfdnjhaaaDoor
namespace Go.Ab
/-! ### forms -/
theorem low_low (s : Bs) : lowL (lowL s) = lowL s := by
  have : ∀ c : UInt8, lowB (lowB c) = lowB c := byAll (by decide +kernel)
  unfold lowL
  rw [List.map_map]
  congr 1
  funext c
  exact this c
theorem low_len (s : Bs) : (lowL s).length = s.length := by simp [lowL]
theorem tok_low : ∀ c : UInt8, tokB c = true → tokB (lowB c) = true := byAll (by decide +kernel)
theorem tok_sh : ∀ c : UInt8, tokB c = true → shB c = true := byAll (by decide +kernel)
theorem tok_ne : ∀ c : UInt8, tokB c = true → blB c = false ∧ c ≠ 34 ∧ c ≠ 44 ∧ c ≠ 61 ∧ c ≠ 92 := byAll (by decide +kernel)
theorem all_map_low {s : Bs} (h : s.all tokB = true) : (lowL s).all tokB = true := by
  rw [List.all_eq_true] at h ⊢
  intro x hx
  unfold lowL at hx
  obtain ⟨c, hc, rfl⟩ := List.mem_map.1 hx
  exact tok_low c (h c hc)
theorem tokL_low {s : Bs} (h : tokL s = true) : tokL (lowL s) = true := by
  unfold tokL at *
  simp only [Bool.and_eq_true] at h ⊢
  refine ⟨?_, all_map_low h.2⟩
  cases s with
  | nil => simp at h
  | cons c s => rfl
theorem tok_trim {s : Bs} (h : s.all tokB = true) (h0 : s ≠ []) : trimL s = s := by
  have hl : 0 < s.length := by cases s; exact absurd rfl h0; simp
  have := all_get.1 h
  exact trimL_id (tok_ne _ (this 0 hl)).1 (tok_ne _ (this _ (by omega))).1 h0
theorem tok_run : ∀ (s : Bs), s.all tokB = true → run false false s = some (false, false) := by
  intro s
  induction s with
  | nil => intro _; rfl
  | cons c s ih =>
    intro h
    simp only [List.all_cons, Bool.and_eq_true] at h
    have hc := tok_ne c h.1
    rw [run, if_neg (by decide), if_neg (by simp), if_neg hc.2.1, if_neg (fun g => hc.2.2.1 g.1)]
    exact ih h.2
theorem tok_list {s : Bs} (h : s.all tokB = true) (h0 : s ≠ []) : listL s = [s] := by
  have e := split_run s _ _ _ [] [] (tok_run s h)
  rw [List.append_nil] at e
  unfold listL
  rw [e]
  show fl [[] ++ s] = [s]
  rw [List.nil_append, fl_cons, tok_trim h h0, if_neg h0]
  rfl
theorem tok_name : ∀ (s : Bs), s.all tokB = true → nameN s = s.length := by
  intro s
  induction s with
  | nil => intro _; rfl
  | cons c s ih =>
    intro h
    simp only [List.all_cons, Bool.and_eq_true] at h
    rw [nameN_cons, if_neg (tok_ne c h.1).2.2.2.1, ih h.2]
    rfl
theorem t8_true {s t : Bs} (hs : s.length ≤ SZ) (ht : t.length ≤ SZ) : m8 s t = some true := by
  unfold SZ at hs ht
  have h14 := m14_eq s (by omega)
  have hle := trimL_le s
  have key : j8_5 s false = some true := by
    unfold j8_5
    rw [if_neg (by decide), m10_eq s (by omega), Option.bind_some]
    by_cases h : tokL s = true
    · rw [if_pos h]
      have hall : s.all tokB = true := by unfold tokL at h; simp only [Bool.and_eq_true] at h; exact h.2
      have hne : s ≠ [] := by intro e; subst e; simp [tokL] at h
      obtain ⟨z, h22⟩ := m22_eq s (by omega)
      have hsh : s.all shB = true := by
        rw [List.all_eq_true] at hall ⊢
        exact fun x hx => tok_sh x (hall x hx)
      have hp : pairL s = some (lowL s, []) := by
        unfold pairL
        rw [tok_name s hall, List.take_length, if_pos h, if_pos rfl]
      rw [h22, tok_list hall hne, m26_eq s (by omega), hp, m16_eq s (by omega)]
      simp only [Option.bind_some]
      rw [m10_eq _ (by rw [low_len]; omega), tokL_low h, m12_eq s (by omega), hsh, h14, tok_trim hall hne]
      simp [paR]
    · rw [if_neg h]
  unfold m8 m18
  rw [m16_eq s (by omega), h14, m16_eq t (by omega)]
  simp only [Option.bind_some]
  rw [m16_eq (lowL s) (by rw [low_len]; omega), m14_eq (trimL s) (by omega), low_low, trimL_trimL, low_len]
  simp only [Option.bind_some]
  rw [if_pos (by simp), if_pos (by simp), if_pos (by simp), if_pos (by simp [Bool.beq_comm])]
  simp [key]
end Go.Ab
