/- Texts: quoted, read as it was. -/
import Derived.Test.YtcjkhdkfdnjhaaaDoorPT5B
import Derived.Test.YtcjkhdkfdnjhaaaDoorFB2
set_option linter.unusedVariables false
set_option linter.unusedSimpArgs false
set_option linter.unnecessarySimpa false
open Go Go.Ab Go.Proofs Go.Proofs.YtcjkhdkfdnjhaaaDoor
namespace Go.Ab
theorem j6_29_true {t : Bs} (ht : t.length ≤ SZ) : j6_29 t false = some true := by
  unfold SZ at ht
  unfold j6_29
  rw [if_neg (by decide), m24_eq t (by omega)]
  cases h : unqL t with
  | none => rfl
  | some y =>
    obtain ⟨h1, h2⟩ := unq_sh h
    have hq := quote_len y
    simp only [unR, Option.bind_some, if_true]
    rw [mQuote_eq y (by omega), Option.bind_some, m24_eq _ (by omega), unq_quote, if_pos h1, m12_eq y (by omega), h1]
    simp [unR]
theorem t6_true {s t : Bs} (hs : s.length ≤ SZ) (ht : t.length ≤ SZ) : m6 s t = some true := by
  have ht' := j6_29_true ht
  unfold SZ at hs ht
  have hq := quote_len s
  unfold m6
  rw [mQuote_eq s (by omega), Option.bind_some, m24_eq _ (by omega), m12_eq s (by omega), unq_quote]
  have key : j6_9 s t (quoteL s) false = some true := by
    obtain ⟨e0, e1, e2⟩ := quote_ends s
    have hl := list3 (quoteL s) (run_quote s) e0 e1 e2
    unfold j6_9
    rw [if_neg (by decide), if_pos (by omega), if_pos (by simp; omega), if_pos (by simp; omega)]
    obtain ⟨z, h1⟩ := m22_eq (([97, 44, 32] ++ quoteL s) ++ [32, 44, 98, 61] ++ quoteL s) (by simp; omega)
    rw [h1, hl]
    simp only [Option.bind_some]
    rw [if_pos (by rfl), if_pos (by simp), if_pos (by rfl), if_pos (by simp)]
    have g1 : (([[97], quoteL s, [98, 61] ++ quoteL s] : List Bs).getD 1 default == quoteL s) = true := by
      show (quoteL s == quoteL s) = true
      simp
    have g2 : (([[97], quoteL s, [98, 61] ++ quoteL s] : List Bs).getD 2 default == ([98, 61] ++ quoteL s)) = true := by
      show (([98, 61] ++ quoteL s) == ([98, 61] ++ quoteL s)) = true
      simp
    rw [if_pos g1, if_pos (by simp), if_pos (by omega), g2]
    unfold j6_19
    rw [if_neg (by decide), if_pos (by simp)]
    have g3 : ([[97], quoteL s, [98, 61] ++ quoteL s] : List Bs).getD 2 default = [98, 61] ++ quoteL s := rfl
    rw [g3, m26_eq _ (by simp; omega), pair_b, m12_eq s (by omega)]
    cases hsh : s.all shB
    · simp [paR, ht']
    · simp [paR, ht']
  cases hsh : s.all shB
  · simp [unR, key]
  · simp [unR, key]
end Go.Ab
