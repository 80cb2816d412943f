/- Dates: the years, the months, what a moment's text is; plain. -/
import Derived.Test.YtgelejbmmbgddaaPB
set_option linter.unusedVariables false
set_option linter.unusedSimpArgs false
set_option linter.unnecessarySimpa false
namespace Go.Ab
open Go

def lng (y : Int) : Bool := y % 400 == 0 || (y % 4 == 0 && !(y % 100 == 0))
def ah (y : Int) : Int := 365 * (y - 1970) + ((y - 1) / 4 - (y - 1) / 100 + (y - 1) / 400) - 477
def mdT : List Int := [31, 28, 31, 30, 31, 30, 31, 31, 30, 31, 30, 31]
def md (l : Bool) (m : Int) : Int := if m = 1 ∧ l = true then 29 else mdT.getD m.toNat 0
def cumT : List Int := [0, 31, 59, 90, 120, 151, 181, 212, 243, 273, 304, 334, 365]
def cum (l : Bool) (m : Int) : Int := cumT.getD m.toNat 0 + (if 2 ≤ m ∧ l = true then 1 else 0)

theorem mth {m : Int} (h0 : 0 ≤ m) (h1 : m < 12) : m = 0 ∨ m = 1 ∨ m = 2 ∨ m = 3 ∨ m = 4 ∨ m = 5 ∨ m = 6 ∨ m = 7 ∨ m = 8 ∨ m = 9 ∨ m = 10 ∨ m = 11 := by omega
theorem cum_s (l : Bool) {m : Int} (h0 : 0 ≤ m) (h1 : m < 12) : cum l (m + 1) = cum l m + md l m := by
  rcases mth h0 h1 with rfl | rfl | rfl | rfl | rfl | rfl | rfl | rfl | rfl | rfl | rfl | rfl <;> cases l <;> rfl
theorem md_pos (l : Bool) {m : Int} (h0 : 0 ≤ m) (h1 : m < 12) : 28 ≤ md l m ∧ md l m ≤ 31 := by
  rcases mth h0 h1 with rfl | rfl | rfl | rfl | rfl | rfl | rfl | rfl | rfl | rfl | rfl | rfl <;> cases l <;> decide
theorem cum_0 (l : Bool) : cum l 0 = 0 := by cases l <;> rfl
theorem cum_12 (l : Bool) : cum l 12 = 365 + (if l = true then 1 else 0) := by cases l <;> rfl
theorem cum_mono (l : Bool) (m n : Int) (h0 : 0 ≤ m) (h : m ≤ n) (h1 : n ≤ 12) : cum l m ≤ cum l n := by
  obtain ⟨k, rfl⟩ : ∃ k : Nat, n = m + k := ⟨(n - m).toNat, by omega⟩
  clear h
  induction k with
  | zero => simp
  | succ k ih =>
    have := cum_s l (m := m + k) (by omega) (by omega)
    have := md_pos l (m := m + k) (by omega) (by omega)
    have := ih (by omega)
    have e : m + ((k + 1 : Nat) : Int) = m + k + 1 := by omega
    rw [e]; omega
theorem ah_s (y : Int) : ah (y + 1) = ah y + 365 + (if lng y = true then 1 else 0) := by
  unfold ah lng
  by_cases h4 : y % 4 = 0 <;> by_cases h1 : y % 100 = 0 <;> by_cases h40 : y % 400 = 0 <;> simp [h4, h1, h40] <;> omega
theorem ah_mono {a b : Int} (h : a ≤ b) : ah a ≤ ah b := by unfold ah; omega

/-- a day since 1970 is a year's, a month's, a day of it -/
def Dt (d y m k : Int) : Prop := 1970 ≤ y ∧ y ≤ 9999 ∧ 0 ≤ m ∧ m < 12 ∧ 0 ≤ k ∧ k < md (lng y) m ∧ d = ah y + cum (lng y) m + k
theorem Dt.b {d y m k : Int} (h : Dt d y m k) : ah y ≤ d ∧ d < ah (y + 1) := by
  obtain ⟨h1, h2, h3, h4, h5, h6, h7⟩ := h
  have := cum_mono (lng y) 0 m (by omega) h3 (by omega)
  have e := cum_s (lng y) h3 h4
  have := cum_mono (lng y) (m + 1) 12 (by omega) (by omega) (by omega)
  rw [cum_12] at this
  rw [cum_0] at *
  rw [ah_s]
  omega
theorem Dt.range {d y m k : Int} (h : Dt d y m k) : 0 ≤ d ∧ d < 2932897 := by
  have := h.b
  have h1 := ah_mono (a := 1970) (b := y) h.1
  have h2 := ah_mono (a := y + 1) (b := 10000) (by have := h.2.1; omega)
  have e1 : ah 1970 = 0 := by decide
  have e2 : ah 10000 = 2932897 := by decide
  omega
theorem Dt.uniq {d y m k y' m' k' : Int} (h : Dt d y m k) (h' : Dt d y' m' k') : y = y' ∧ m = m' ∧ k = k' := by
  have hb := h.b; have hb' := h'.b
  have e : y = y' := by
    by_cases c : y < y'
    · have := ah_mono (a := y + 1) (b := y') (by omega); omega
    · by_cases c' : y' < y
      · have := ah_mono (a := y' + 1) (b := y) (by omega); omega
      · omega
  subst e
  obtain ⟨h1, h2, h3, h4, h5, h6, h7⟩ := h
  obtain ⟨g1, g2, g3, g4, g5, g6, g7⟩ := h'
  have s := cum_s (lng y) h3 h4
  have s' := cum_s (lng y) g3 g4
  have e : m = m' := by
    by_cases c : m < m'
    · have := cum_mono (lng y) (m + 1) m' (by omega) (by omega) (by omega); omega
    · by_cases c' : m' < m
      · have := cum_mono (lng y) (m' + 1) m (by omega) (by omega) (by omega); omega
      · omega
  subst e
  exact ⟨rfl, rfl, by omega⟩
theorem Dt.ex {d : Int} (h0 : 0 ≤ d) (h1 : d < 2932897) : ∃ y m k, Dt d y m k := by
  -- the year
  have hy : ∃ y, 1970 ≤ y ∧ y ≤ 9999 ∧ ah y ≤ d ∧ d < ah (y + 1) := by
    have key : ∀ n : Nat, ah (1970 + (n : Int)) ≤ d ∨ ∃ y : Int, 1970 ≤ y ∧ y < 1970 + (n : Int) ∧ ah y ≤ d ∧ d < ah (y + 1) := by
      intro n
      induction n with
      | zero => left; have e1 : ah 1970 = 0 := by decide
                simp only [Int.natCast_zero, Int.add_zero]; omega
      | succ n ih =>
        rcases ih with h | ⟨y, a, b, c, e⟩
        · by_cases c : ah (1970 + n + 1) ≤ d
          · left; have e : (1970 : Int) + ((n + 1 : Nat) : Int) = 1970 + n + 1 := by omega
            rw [e]; exact c
          · exact .inr ⟨1970 + n, by omega, by omega, h, by omega⟩
        · exact .inr ⟨y, a, by omega, c, e⟩
    rcases key 8030 with h | ⟨y, a, b, c, e⟩
    · have e2 : ah (1970 + (8030 : Nat)) = 2932897 := by decide
      omega
    · exact ⟨y, a, by omega, c, e⟩
  obtain ⟨y, hy1, hy2, hy3, hy4⟩ := hy
  have key : ∀ n : Nat, n ≤ 12 → ah y + cum (lng y) (n : Int) ≤ d ∨ ∃ m : Int, 0 ≤ m ∧ m < (n : Int) ∧ ah y + cum (lng y) m ≤ d ∧ d < ah y + cum (lng y) (m + 1) := by
    intro n
    induction n with
    | zero => intro _; left; simp only [Int.natCast_zero, cum_0]; omega
    | succ n ih =>
      intro hn
      rcases ih (by omega) with h | ⟨m, a, b, c, e⟩
      · by_cases c : ah y + cum (lng y) ((n : Int) + 1) ≤ d
        · left; have e : (((n + 1 : Nat)) : Int) = (n : Int) + 1 := by omega
          rw [e]; exact c
        · exact .inr ⟨n, by omega, by omega, h, by omega⟩
      · exact .inr ⟨m, a, by omega, c, e⟩
  rcases key 12 (by omega) with h | ⟨m, a, b, c, e⟩
  · have := cum_12 (lng y)
    rw [ah_s] at hy4
    have e : ((12 : Nat) : Int) = 12 := rfl
    rw [e] at h
    omega
  · have s := cum_s (lng y) a (m := m) (by omega)
    exact ⟨y, m, d - ah y - cum (lng y) m, hy1, hy2, a, by omega, by omega, by omega, by omega⟩

/-- a digit -/
def dg (x : Int) : UInt8 := u8 (48 + x)
def tw (x : Int) : Bs := [dg (x / 10 % 10), dg (x % 10)]
def y4 (x : Int) : Bs := [dg (x / 1000 % 10), dg (x / 100 % 10), dg (x / 10 % 10), dg (x % 10)]
def wkT : List Bs := [[84, 104, 117], [70, 114, 105], [83, 97, 116], [83, 117, 110], [77, 111, 110], [84, 117, 101], [87, 101, 100]]
def moT : List Bs := [[74, 97, 110], [70, 101, 98], [77, 97, 114], [65, 112, 114], [77, 97, 121], [74, 117, 110], [74, 117, 108], [65, 117, 103], [83, 101, 112], [79, 99, 116], [78, 111, 118], [68, 101, 99]]
def wk (q : Int) : Bs := wkT.getD q.toNat []
def mo (m : Int) : Bs := moT.getD m.toNat []
def txt (d s y m k : Int) : Bs :=
  wk (d % 7) ++ ([44, 32] ++ (tw (k + 1) ++ ([32] ++ (mo m ++ ([32] ++ (y4 y ++ ([32] ++ (tw (s / 3600) ++ ([58] ++ (tw (s / 60 % 60) ++ ([58] ++ (tw (s % 60) ++ [32, 71, 77, 84]))))))))))))
theorem q7 {q : Int} (h0 : 0 ≤ q) (h1 : q < 7) : q = 0 ∨ q = 1 ∨ q = 2 ∨ q = 3 ∨ q = 4 ∨ q = 5 ∨ q = 6 := by omega
theorem wk_len {q : Int} (h0 : 0 ≤ q) (h1 : q < 7) : (wk q).length = 3 := by
  rcases q7 h0 h1 with rfl | rfl | rfl | rfl | rfl | rfl | rfl <;> rfl
theorem mo_len {q : Int} (h0 : 0 ≤ q) (h1 : q < 12) : (mo q).length = 3 := by
  rcases mth h0 h1 with rfl | rfl | rfl | rfl | rfl | rfl | rfl | rfl | rfl | rfl | rfl | rfl <;> rfl
theorem tw_len (x : Int) : (tw x).length = 2 := rfl
theorem y4_len (x : Int) : (y4 x).length = 4 := rfl
theorem tw_y4 (y : Int) (h0 : 0 ≤ y) (h1 : y < 10000) : tw (y / 100) ++ tw (y % 100) = y4 y := by
  have e1 : y / 100 / 10 % 10 = y / 1000 % 10 := by omega
  have e2 : y % 100 / 10 % 10 = y / 10 % 10 := by omega
  have e3 : y % 100 % 10 = y % 10 := by omega
  simp only [tw, y4, e1, e2, e3, List.cons_append, List.nil_append]
end Go.Ab
