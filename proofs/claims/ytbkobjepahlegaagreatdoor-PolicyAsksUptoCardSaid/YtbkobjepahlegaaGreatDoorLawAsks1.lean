/- Plain laws of the functions. -/
import Derived.Test.YtbkobjepahlegaaGreatDoorEv8
import Derived.Test.YtbkobjepahlegaaGreatDoorFAsks2
set_option linter.all false
section
set_option linter.all false
namespace Go.Ab
open Go
theorem w64m (x : Int) : w64 x = (x + 9223372036854775808) % 18446744073709551616 - 9223372036854775808 := by
  unfold w64
  have := Int.emod_nonneg (x + 9223372036854775808) (show (18446744073709551616 : Int) ≠ 0 by decide)
  simp [IntKind.wrap, IntKind.min, IntKind.max, IntKind.bits, IntKind.signed] <;> omega
theorem iter_post {σ β : Type} {f : σ → Option (σ ⊕ β)} (I : σ → Prop) (μ : σ → Nat) (Q : β → Prop)
    (h : ∀ s, I s → (∃ t, f s = some (.inl t) ∧ I t ∧ μ t < μ s) ∨ (∃ r, f s = some (.inr r) ∧ Q r)) (s : σ) (hs : I s) : ∃ r, iter f s = some r ∧ Q r := by
  have key : ∀ n s, μ s < n → I s → ∃ r, iter f s = some r ∧ Q r := by
    intro n
    induction n with
    | zero => intro s h0; omega
    | succ n ih =>
      intro s hn hs
      rcases h s hs with ⟨t, ht, hI, hm⟩ | ⟨r, hr, hq⟩
      · rw [iter_l ht]; exact ih t (by omega) hI
      · exact ⟨r, iter_r hr, hq⟩
  exact key (μ s + 1) s (by omega) hs
theorem iter_to {σ β : Type} {f : σ → Option (σ ⊕ β)} (I : σ → Prop) (μ : σ → Nat) (X : Option β)
    (h : ∀ s, I s → (∃ t, f s = some (.inl t) ∧ I t ∧ μ t < μ s) ∨ f s = X.map .inr) (s : σ) (hs : I s) : iter f s = X := by
  have key : ∀ n s, μ s < n → I s → iter f s = X := by
    intro n
    induction n with
    | zero => intro s h0; omega
    | succ n ih =>
      intro s hn hs
      rcases h s hs with ⟨t, ht, hI, hm⟩ | hr
      · rw [iter_l ht]; exact ih t (by omega) hI
      · cases X with
        | none => exact iter_n hr
        | some r => exact iter_r hr
  exact key (μ s + 1) s (by omega) hs
end Go.Ab
end
section
set_option linter.all false
open Go Go.Ab Go.Proofs Go.Proofs.YtbkobjepahlegaaGreatDoor
namespace Go.Ab
theorem byAll {P : UInt8 → Prop} [DecidablePred P] (h : ((List.range 256).all fun n => decide (P (UInt8.ofNat n))) = true) (c : UInt8) : P c := by
  have := List.all_eq_true.1 h c.toNat (List.mem_range.2 c.toNat_lt)
  have e := of_decide_eq_true this
  have : UInt8.ofNat c.toNat = c := by simp
  rwa [this] at e
theorem drop_cons {l : Bs} {i : Nat} (h : i < l.length) : l.drop i = l.getD i 0 :: l.drop (i + 1) := by
  rw [List.drop_eq_getElem_cons h, List.getD_eq_getElem?_getD, List.getElem?_eq_getElem h, Option.getD_some]
theorem iter_g {σ β : Type} {f : σ → Option (σ ⊕ β)} (I : σ → Prop) (μ : σ → Nat) (g : σ → Option β)
    (h : ∀ s, I s → (∃ t, f s = some (.inl t) ∧ I t ∧ μ t < μ s ∧ g t = g s) ∨ f s = (g s).map .inr) (s : σ) (hs : I s) : iter f s = g s := by
  refine iter_to (fun t => I t ∧ g t = g s) μ (g s) ?_ s ⟨hs, rfl⟩
  rintro t ⟨ht, e⟩
  rcases h t ht with ⟨u, h1, h2, h3, h4⟩ | h1
  · exact .inl ⟨u, h1, ⟨h2, h4.trans e⟩, h3⟩
  · exact .inr (by rw [h1, e])
def lowB (c : UInt8) : UInt8 := if 65 ≤ c ∧ c ≤ 90 then c + 32 else c
def lowL (s : Bs) : Bs := s.map lowB
theorem low_add (c : UInt8) (h : 65 ≤ c ∧ c ≤ 90) : c + 97 - 65 = c + 32 := by
  have : ∀ c : UInt8, c + 97 - 65 = c + 32 := byAll (by decide +kernel)
  exact this c
theorem set_take {l : Bs} {i : Nat} (h : i < l.length) (x : UInt8) : (l.set i x).take (i + 1) = l.take i ++ [x] := by
  rw [List.take_succ_eq_append_getElem (by simpa using h), List.take_set, List.set_eq_of_length_le (by simp; omega)]
  simp
theorem m63_eq (s : Bs) (hs : s.length < 2 ^ 60) : m63 s = some (lowL s) := by
  unfold m63 l63_8
  refine (iter_g (fun (x : Nat × Nat × Int × Int × List UInt8) => x.1 = s.length ∧ x.2.1 = s.length ∧ x.2.2.1 = s.length ∧ 0 ≤ x.2.2.2.1 ∧ x.2.2.2.1 ≤ s.length ∧ x.2.2.2.2.length = s.length) (fun (x : Nat × Nat × Int × Int × List UInt8) => ((s.length : Int) - x.2.2.2.1).toNat) (fun (x : Nat × Nat × Int × Int × List UInt8) => some (x.2.2.2.2.take x.2.2.2.1.toNat ++ lowL (x.2.2.2.2.drop x.2.2.2.1.toNat))) ?_ (s.length, s.length, s.length, 0, s) ⟨rfl, rfl, rfl, by dsimp only; omega, by dsimp only; omega, rfl⟩).trans (by simp)
  rintro ⟨b, t, n, i, h⟩ hI
  dsimp only at hI ⊢
  obtain ⟨rfl, rfl, rfl, h0, h1, h2⟩ := hI
  unfold s63_8
  by_cases c : i < s.length
  · left
    have hd := drop_cons (l := h) (i := i.toNat) (by omega)
    have key : j63_21 s.length i (h.getD i.toNat 0) s.length s.length i (decide (65 ≤ h.getD i.toNat 0) && decide (h.getD i.toNat 0 ≤ 90)) h = some (.inl (s.length, s.length, s.length, i + 1, h.set i.toNat (lowB (h.getD i.toNat 0)))) := by
      unfold j63_21 j63_24 lowB
      rw [w64_eq (i + 1) (by omega) (by omega)]
      by_cases hc : 65 ≤ h.getD i.toNat 0 ∧ h.getD i.toNat 0 ≤ 90
      · rw [if_pos (by simpa using hc), if_pos ⟨h0, c⟩, if_pos (by omega), if_pos hc, low_add _ hc]
      · rw [if_neg (by simpa using hc), if_neg hc]
        have : h.set i.toNat (h.getD i.toNat 0) = h := by
          apply List.ext_getElem?
          intro j
          rw [List.getElem?_set]
          split
          · rename_i e; subst e
            rw [if_pos (by omega), List.getD_eq_getElem?_getD, List.getElem?_eq_getElem (by omega)]
            rfl
          · rfl
        rw [this]
    refine ⟨(s.length, s.length, s.length, i + 1, h.set i.toNat (lowB (h.getD i.toNat 0))), ?_, ⟨rfl, rfl, rfl, by dsimp only; omega, by dsimp only; omega, by simpa using h2⟩, by dsimp only; omega, ?_⟩
    · rw [if_pos (by simpa using c), if_pos ⟨h0, c⟩, if_pos (by omega)]
      by_cases a : 65 ≤ h.getD i.toNat 0
      · simp only [a, decide_true, if_true, Bool.true_and] at key ⊢
        exact key
      · simp only [a, decide_false, Bool.false_eq_true, if_false, Bool.false_and] at key ⊢
        exact key
    · dsimp only
      rw [show (i + 1).toNat = i.toNat + 1 by omega, set_take (by omega), hd, List.drop_set_of_lt (by omega)]
      simp [lowL]
  · right
    have e : i.toNat = h.length := by omega
    unfold j63_25
    rw [if_neg (by simpa using c), if_pos (by omega), e, List.take_length, List.drop_length, ← h2, List.take_length]
    simp [lowL]
end Go.Ab
end
section
set_option linter.all false
open Go Go.Ab Go.Proofs Go.Proofs.YtbkobjepahlegaaGreatDoor
namespace Go.Ab
def split (q m : Bool) (cur : Bs) : Bs → List Bs
  | [] => [cur]
  | c :: s =>
    if m = true then split q false (cur ++ [c]) s
    else if q = true ∧ c = 92 then split q true (cur ++ [c]) s
    else if c = 34 then split (!q) false (cur ++ [c]) s
    else if c = 44 ∧ q = false then cur :: split false false [] s
    else split q false (cur ++ [c]) s
end Go.Ab
end
section
set_option linter.all false
open Go Go.Ab Go.Proofs Go.Proofs.YtbkobjepahlegaaGreatDoor
namespace Go.Ab
end Go.Ab
end
section
set_option linter.all false
open Go Go.Ab Go.Proofs Go.Proofs.YtbkobjepahlegaaGreatDoor
namespace Go.Ab
end Go.Ab
end
section
set_option linter.all false
open Go Go.Ab Go.Proofs Go.Proofs.YtbkobjepahlegaaGreatDoor
namespace Go.Ab
end Go.Ab
end
section
set_option linter.all false
namespace Go.Proofs
open Go Go.Ab
theorem iter_fold {σ α γ ρ : Type} {step : σ → Option (σ ⊕ ρ)} (l : List α) (mk : γ → Nat → σ) (f : γ → α → γ) (fin : γ → ρ) (I : γ → Nat → Prop)
    (hI : ∀ g i (h : i < l.length), I g i → I (f g l[i]) (i + 1))
    (hs : ∀ g i (h : i < l.length), I g i → step (mk g i) = some (.inl (mk (f g l[i]) (i + 1))))
    (he : ∀ g, I g l.length → step (mk g l.length) = some (.inr (fin g))) (g : γ) (h0 : I g 0) : iter step (mk g 0) = some (fin (l.foldl f g)) := by
  have main : ∀ n i g, n + i = l.length → I g i → iter step (mk g i) = some (fin ((l.drop i).foldl f g)) := by
    intro n
    induction n with
    | zero =>
      intro i g hi hg
      obtain rfl : i = l.length := by omega
      rw [iter_eq, he g hg, List.drop_length]
      rfl
    | succ n ih =>
      intro i g hi hg
      have h : i < l.length := by omega
      rw [iter_eq, hs g i h hg, List.drop_eq_getElem_cons h, List.foldl_cons]
      exact ih (i + 1) _ (by omega) (hI g i h hg)
  have := main l.length 0 g (by omega) h0
  rwa [List.drop_zero] at this
end Go.Proofs
end
section
set_option linter.all false
set_option maxRecDepth 100000
open Go Go.Ab Go.Proofs Go.Proofs.YtbkobjepahlegaaGreatDoor
def fsz (l : List (Bs × Bs)) : Nat := (l.map fun f => f.1.length + f.2.length + 1).sum
theorem fsz_mem {l : List (Bs × Bs)} {f : Bs × Bs} (h : f ∈ l) : f.1.length + f.2.length + 1 ≤ fsz l := by
  induction l with
  | nil => cases h
  | cons a l ih =>
    simp only [fsz, List.map_cons, List.sum_cons] at ih ⊢
    rcases List.mem_cons.1 h with rfl | h
    · omega
    · have := ih h; omega
theorem fsz_len (l : List (Bs × Bs)) : l.length ≤ fsz l := by
  induction l with
  | nil => exact Nat.zero_le _
  | cons a l ih => simp only [fsz, List.map_cons, List.sum_cons, List.length_cons] at ih ⊢; omega
def getL (l : List (Bs × Bs)) (n : Bs) : List Bs := l.filterMap fun f => if lowL f.1 = lowL n then some f.2 else none
theorem m73_eq (a b : Bs) (ha : a.length < 2 ^ 60) (hb : b.length < 2 ^ 60) : m73 a b = some (lowL a == lowL b) := by
  simp only [m73, m63_eq a ha, m63_eq b hb, Option.bind_some]
def getF (n : Bs) (g : Bool × List Bs) (x : Bs × Bs) : Bool × List Bs := if lowL x.1 = lowL n then (false, g.2 ++ [x.2]) else g
theorem getF_fold (n : Bs) (l : List (Bs × Bs)) : ∀ g : Bool × List Bs, (l.foldl (getF n) g).2 = g.2 ++ getL l n := by
  induction l with
  | nil => intro g; simp [getL]
  | cons a l ih =>
    intro g
    rw [List.foldl_cons, ih]
    unfold getF getL
    by_cases h : lowL a.1 = lowL n
    · simp [h]
    · simp [h]
theorem m29_eq (b : Bool) (l : List (Bs × Bs)) (n : Bs) (hs : fsz l < 2 ^ 30) (hn : n.length < 2 ^ 30) : ∃ z, m29 b l n = some (z, getL l n) := by
  have hl := fsz_len l
  have e := iter_fold (step := fun x : (Bs × Bool × List Bs × Bool × List (Bs × Bs) × Int × Int) => s29_8 x.1 x.2.1 x.2.2.1 x.2.2.2.1 x.2.2.2.2.1 x.2.2.2.2.2.1 x.2.2.2.2.2.2) l
    (fun (g : Bool × List Bs) (i : Nat) => (n, g.1, g.2, b, l, (l.length : Int), (i : Int))) (getF n) (fun g => g) (fun g i => g.2.length ≤ i)
    (fun g i h hg => by
      unfold getF
      split
      · rw [List.length_append]; simp only [List.length_singleton]; omega
      · omega)
    (fun g i h hg => by
      have hm := fsz_mem (List.getElem_mem h)
      have e1 : (l.getD i default) = l[i] := by simp [List.getD_eq_getElem?_getD, h]
      simp only [s29_8, j29_24, Int.toNat_natCast, e1]
      rw [if_pos (by simpa using h), if_pos ⟨by omega, by omega⟩, m73_eq _ _ (by omega) (by omega), Option.bind_some, w64_eq _ (by omega) (by omega)]
      unfold getF
      by_cases c : lowL l[i].1 = lowL n
      · rw [if_pos (by simpa using c), if_pos (by omega), if_pos c]; rfl
      · rw [if_neg (by simpa using c), if_neg c]; rfl)
    (fun g hg => by
      simp only [s29_8, j29_25]
      rw [if_neg (by simp)]
      rfl) (true, []) (by simp)
  have e2 : m29 b l n = some (l.foldl (getF n) (true, [])) := e
  have h2 := getF_fold n l (true, [])
  rw [List.nil_append] at h2
  rw [e2, ← h2]
  exact ⟨_, rfl⟩
end
section
set_option linter.all false
set_option maxRecDepth 100000
open Go Go.Ab Go.Proofs Go.Proofs.YtbkobjepahlegaaGreatDoor
def ssz (l : List Bs) : Nat := (l.map fun s => s.length + 1).sum
theorem getL_ssz (l : List (Bs × Bs)) (n : Bs) : ssz (getL l n) ≤ fsz l := by
  induction l with
  | nil => exact Nat.zero_le _
  | cons a l ih =>
    unfold getL at ih ⊢
    by_cases h : lowL a.1 = lowL n
    · simp only [List.filterMap_cons, h, if_true, ssz, List.map_cons, List.sum_cons, fsz] at ih ⊢; omega
    · simp only [List.filterMap_cons, h, if_false, ssz, fsz, List.map_cons, List.sum_cons] at ih ⊢; omega
end
section
set_option linter.all false
set_option maxRecDepth 100000
open Go Go.Ab Go.Proofs Go.Proofs.YtbkobjepahlegaaGreatDoor
end
section
set_option linter.all false
set_option maxRecDepth 100000
open Go Go.Ab Go.Proofs Go.Proofs.YtbkobjepahlegaaGreatDoor
end
section
set_option linter.all false
set_option maxRecDepth 100000
open Go Go.Ab Go.Proofs Go.Proofs.YtbkobjepahlegaaGreatDoor
end
section
set_option linter.all false
set_option maxRecDepth 100000
open Go Go.Ab Go.Proofs Go.Proofs.YtbkobjepahlegaaGreatDoor
end
section
set_option linter.all false
set_option maxRecDepth 100000
open Go Go.Ab Go.Proofs Go.Proofs.YtbkobjepahlegaaGreatDoor
end
section
set_option linter.all false
set_option maxRecDepth 100000
open Go Go.Ab Go.Proofs Go.Proofs.YtbkobjepahlegaaGreatDoor
end
section
set_option linter.all false
set_option maxRecDepth 100000
open Go Go.Ab Go.Proofs Go.Proofs.YtbkobjepahlegaaGreatDoor
end
section
set_option linter.all false
set_option maxRecDepth 100000
open Go Go.Ab Go.Proofs Go.Proofs.YtbkobjepahlegaaGreatDoor
end
section
set_option linter.all false
set_option maxRecDepth 100000
open Go Go.Ab Go.Proofs Go.Proofs.YtbkobjepahlegaaGreatDoor
end
section
set_option linter.all false
set_option maxRecDepth 100000
open Go Go.Ab Go.Proofs Go.Proofs.YtbkobjepahlegaaGreatDoor
end
section
set_option linter.all false
set_option maxRecDepth 100000
open Go Go.Ab Go.Proofs Go.Proofs.YtbkobjepahlegaaGreatDoor
end
section
set_option linter.all false
set_option maxRecDepth 100000
open Go Go.Ab Go.Proofs Go.Proofs.YtbkobjepahlegaaGreatDoor
abbrev Ctl := Bool × Bool × Bool × Bool × Bool × Bool × Int × Int × Int × Int
end
section
set_option linter.all false
set_option maxRecDepth 100000
open Go Go.Ab Go.Proofs Go.Proofs.YtbkobjepahlegaaGreatDoor
end
section
set_option linter.all false
set_option maxRecDepth 100000
open Go Go.Ab Go.Proofs Go.Proofs.YtbkobjepahlegaaGreatDoor
end
section
set_option linter.all false
set_option maxRecDepth 100000
open Go Go.Ab Go.Proofs Go.Proofs.YtbkobjepahlegaaGreatDoor
end
section
set_option linter.all false
set_option maxRecDepth 100000
open Go Go.Ab Go.Proofs Go.Proofs.YtbkobjepahlegaaGreatDoor
end
section
set_option linter.all false
namespace Go.Ab
open Go
def lng (y : Int) : Bool := y % 400 == 0 || (y % 4 == 0 && !(y % 100 == 0))
def ah (y : Int) : Int := 365 * (y - 1970) + ((y - 1) / 4 - (y - 1) / 100 + (y - 1) / 400) - 477
def mdT : List Int := [31, 28, 31, 30, 31, 30, 31, 31, 30, 31, 30, 31]
def md (l : Bool) (m : Int) : Int := if m = 1 ∧ l = true then 29 else mdT.getD m.toNat 0
def cumT : List Int := [0, 31, 59, 90, 120, 151, 181, 212, 243, 273, 304, 334, 365]
def cum (l : Bool) (m : Int) : Int := cumT.getD m.toNat 0 + (if 2 ≤ m ∧ l = true then 1 else 0)
theorem mth {m : Int} (h0 : 0 ≤ m) (h1 : m < 12) : m = 0 ∨ m = 1 ∨ m = 2 ∨ m = 3 ∨ m = 4 ∨ m = 5 ∨ m = 6 ∨ m = 7 ∨ m = 8 ∨ m = 9 ∨ m = 10 ∨ m = 11 := by omega
theorem cum_s (l : Bool) {m : Int} (h0 : 0 ≤ m) (h1 : m < 12) : cum l (m + 1) = cum l m + md l m := by
  rcases mth h0 h1 with rfl | rfl | rfl | rfl | rfl | rfl | rfl | rfl | rfl | rfl | rfl | rfl <;> cases l <;> rfl
theorem md_pos (l : Bool) {m : Int} (h0 : 0 ≤ m) (h1 : m < 12) : 28 ≤ md l m ∧ md l m ≤ 31 := by
  rcases mth h0 h1 with rfl | rfl | rfl | rfl | rfl | rfl | rfl | rfl | rfl | rfl | rfl | rfl <;> cases l <;> decide
theorem cum_0 (l : Bool) : cum l 0 = 0 := by cases l <;> rfl
theorem cum_12 (l : Bool) : cum l 12 = 365 + (if l = true then 1 else 0) := by cases l <;> rfl
theorem cum_mono (l : Bool) (m n : Int) (h0 : 0 ≤ m) (h : m ≤ n) (h1 : n ≤ 12) : cum l m ≤ cum l n := by
  obtain ⟨k, rfl⟩ : ∃ k : Nat, n = m + k := ⟨(n - m).toNat, by omega⟩
  clear h
  induction k with
  | zero => simp
  | succ k ih =>
    have := cum_s l (m := m + k) (by omega) (by omega)
    have := md_pos l (m := m + k) (by omega) (by omega)
    have := ih (by omega)
    have e : m + ((k + 1 : Nat) : Int) = m + k + 1 := by omega
    rw [e]; omega
theorem ah_s (y : Int) : ah (y + 1) = ah y + 365 + (if lng y = true then 1 else 0) := by
  unfold ah lng
  by_cases h4 : y % 4 = 0 <;> by_cases h1 : y % 100 = 0 <;> by_cases h40 : y % 400 = 0 <;> simp [h4, h1, h40] <;> omega
theorem ah_mono {a b : Int} (h : a ≤ b) : ah a ≤ ah b := by unfold ah; omega
def Dt (d y m k : Int) : Prop := 1970 ≤ y ∧ y ≤ 9999 ∧ 0 ≤ m ∧ m < 12 ∧ 0 ≤ k ∧ k < md (lng y) m ∧ d = ah y + cum (lng y) m + k
theorem Dt.b {d y m k : Int} (h : Dt d y m k) : ah y ≤ d ∧ d < ah (y + 1) := by
  obtain ⟨h1, h2, h3, h4, h5, h6, h7⟩ := h
  have := cum_mono (lng y) 0 m (by omega) h3 (by omega)
  have e := cum_s (lng y) h3 h4
  have := cum_mono (lng y) (m + 1) 12 (by omega) (by omega) (by omega)
  rw [cum_12] at this
  rw [cum_0] at *
  rw [ah_s]
  omega
theorem Dt.range {d y m k : Int} (h : Dt d y m k) : 0 ≤ d ∧ d < 2932897 := by
  have := h.b
  have h1 := ah_mono (a := 1970) (b := y) h.1
  have h2 := ah_mono (a := y + 1) (b := 10000) (by have := h.2.1; omega)
  have e1 : ah 1970 = 0 := by decide
  have e2 : ah 10000 = 2932897 := by decide
  omega
theorem Dt.ex {d : Int} (h0 : 0 ≤ d) (h1 : d < 2932897) : ∃ y m k, Dt d y m k := by
  have hy : ∃ y, 1970 ≤ y ∧ y ≤ 9999 ∧ ah y ≤ d ∧ d < ah (y + 1) := by
    have key : ∀ n : Nat, ah (1970 + (n : Int)) ≤ d ∨ ∃ y : Int, 1970 ≤ y ∧ y < 1970 + (n : Int) ∧ ah y ≤ d ∧ d < ah (y + 1) := by
      intro n
      induction n with
      | zero => left; have e1 : ah 1970 = 0 := by decide
                simp only [Int.natCast_zero, Int.add_zero]; omega
      | succ n ih =>
        rcases ih with h | ⟨y, a, b, c, e⟩
        · by_cases c : ah (1970 + n + 1) ≤ d
          · left; have e : (1970 : Int) + ((n + 1 : Nat) : Int) = 1970 + n + 1 := by omega
            rw [e]; exact c
          · exact .inr ⟨1970 + n, by omega, by omega, h, by omega⟩
        · exact .inr ⟨y, a, by omega, c, e⟩
    rcases key 8030 with h | ⟨y, a, b, c, e⟩
    · have e2 : ah (1970 + (8030 : Nat)) = 2932897 := by decide
      omega
    · exact ⟨y, a, by omega, c, e⟩
  obtain ⟨y, hy1, hy2, hy3, hy4⟩ := hy
  have key : ∀ n : Nat, n ≤ 12 → ah y + cum (lng y) (n : Int) ≤ d ∨ ∃ m : Int, 0 ≤ m ∧ m < (n : Int) ∧ ah y + cum (lng y) m ≤ d ∧ d < ah y + cum (lng y) (m + 1) := by
    intro n
    induction n with
    | zero => intro _; left; simp only [Int.natCast_zero, cum_0]; omega
    | succ n ih =>
      intro hn
      rcases ih (by omega) with h | ⟨m, a, b, c, e⟩
      · by_cases c : ah y + cum (lng y) ((n : Int) + 1) ≤ d
        · left; have e : (((n + 1 : Nat)) : Int) = (n : Int) + 1 := by omega
          rw [e]; exact c
        · exact .inr ⟨n, by omega, by omega, h, by omega⟩
      · exact .inr ⟨m, a, by omega, c, e⟩
  rcases key 12 (by omega) with h | ⟨m, a, b, c, e⟩
  · have := cum_12 (lng y)
    rw [ah_s] at hy4
    have e : ((12 : Nat) : Int) = 12 := rfl
    rw [e] at h
    omega
  · have s := cum_s (lng y) a (m := m) (by omega)
    exact ⟨y, m, d - ah y - cum (lng y) m, hy1, hy2, a, by omega, by omega, by omega, by omega⟩
def dg (x : Int) : UInt8 := u8 (48 + x)
def tw (x : Int) : Bs := [dg (x / 10 % 10), dg (x % 10)]
def y4 (x : Int) : Bs := [dg (x / 1000 % 10), dg (x / 100 % 10), dg (x / 10 % 10), dg (x % 10)]
def wkT : List Bs := [[84, 104, 117], [70, 114, 105], [83, 97, 116], [83, 117, 110], [77, 111, 110], [84, 117, 101], [87, 101, 100]]
def moT : List Bs := [[74, 97, 110], [70, 101, 98], [77, 97, 114], [65, 112, 114], [77, 97, 121], [74, 117, 110], [74, 117, 108], [65, 117, 103], [83, 101, 112], [79, 99, 116], [78, 111, 118], [68, 101, 99]]
def wk (q : Int) : Bs := wkT.getD q.toNat []
def mo (m : Int) : Bs := moT.getD m.toNat []
def txt (d s y m k : Int) : Bs :=
  wk (d % 7) ++ ([44, 32] ++ (tw (k + 1) ++ ([32] ++ (mo m ++ ([32] ++ (y4 y ++ ([32] ++ (tw (s / 3600) ++ ([58] ++ (tw (s / 60 % 60) ++ ([58] ++ (tw (s % 60) ++ [32, 71, 77, 84]))))))))))))
theorem q7 {q : Int} (h0 : 0 ≤ q) (h1 : q < 7) : q = 0 ∨ q = 1 ∨ q = 2 ∨ q = 3 ∨ q = 4 ∨ q = 5 ∨ q = 6 := by omega
theorem wk_len {q : Int} (h0 : 0 ≤ q) (h1 : q < 7) : (wk q).length = 3 := by
  rcases q7 h0 h1 with rfl | rfl | rfl | rfl | rfl | rfl | rfl <;> rfl
theorem mo_len {q : Int} (h0 : 0 ≤ q) (h1 : q < 12) : (mo q).length = 3 := by
  rcases mth h0 h1 with rfl | rfl | rfl | rfl | rfl | rfl | rfl | rfl | rfl | rfl | rfl | rfl <;> rfl
theorem tw_len (x : Int) : (tw x).length = 2 := rfl
theorem tw_y4 (y : Int) (h0 : 0 ≤ y) (h1 : y < 10000) : tw (y / 100) ++ tw (y % 100) = y4 y := by
  have e1 : y / 100 / 10 % 10 = y / 1000 % 10 := by omega
  have e2 : y % 100 / 10 % 10 = y / 10 % 10 := by omega
  have e3 : y % 100 % 10 = y % 10 := by omega
  simp only [tw, y4, e1, e2, e3, List.cons_append, List.nil_append]
end Go.Ab
end
section
set_option linter.all false
open Go Go.Ab Go.Proofs Go.Proofs.YtbkobjepahlegaaGreatDoor
namespace Go.Ab
theorem m149_eq {y : Int} (h0 : 0 ≤ y) : m149 y = some (lng y) := by
  unfold m149 lng
  rw [Int.tmod_eq_emod_of_nonneg h0, Int.tmod_eq_emod_of_nonneg h0, Int.tmod_eq_emod_of_nonneg h0]
  by_cases h4 : y % 4 = 0 <;> by_cases h1 : y % 100 = 0 <;> by_cases h40 : y % 400 = 0 <;> simp [h4, h1, h40] <;> omega
theorem m132_eq {y : Int} (h0 : 0 ≤ y) : m132 y = some (lng y) := by
  unfold m132 lng
  rw [Int.tmod_eq_emod_of_nonneg h0, Int.tmod_eq_emod_of_nonneg h0, Int.tmod_eq_emod_of_nonneg h0]
  by_cases h4 : y % 4 = 0 <;> by_cases h1 : y % 100 = 0 <;> by_cases h40 : y % 400 = 0 <;> simp [h4, h1, h40] <;> omega
theorem m136_eq {y : Int} (h0 : 1 ≤ y) (h1 : y < 100000) : m136 y = some (ah y) := by
  unfold m136 ah
  rw [w64_eq (y - 1970) (by omega) (by omega), w64_eq (y - 1) (by omega) (by omega), Int.tdiv_eq_ediv_of_nonneg (by omega), Int.tdiv_eq_ediv_of_nonneg (by omega), Int.tdiv_eq_ediv_of_nonneg (by omega)]
  rw [w64_eq (365 * (y - 1970)) (by omega) (by omega), w64_eq ((y - 1) / 4) (by omega) (by omega), w64_eq ((y - 1) / 100) (by omega) (by omega), w64_eq ((y - 1) / 400) (by omega) (by omega)]
  rw [w64_eq ((y - 1) / 4 - (y - 1) / 100) (by omega) (by omega), w64_eq ((y - 1) / 4 - (y - 1) / 100 + (y - 1) / 400) (by omega) (by omega), w64_eq (365 * (y - 1970) + ((y - 1) / 4 - (y - 1) / 100 + (y - 1) / 400)) (by omega) (by omega), w64_eq _ (by omega) (by omega)]
theorem mdT_get {m : Int} (h0 : 0 ≤ m) (h1 : m < 12) : ([(31 : Int), (28 : Int), (31 : Int), (30 : Int), (31 : Int), (30 : Int), (31 : Int), (31 : Int), (30 : Int), (31 : Int), (30 : Int), (31 : Int)] : List Int).getD m.toNat default = md false m := by
  rcases mth h0 h1 with rfl | rfl | rfl | rfl | rfl | rfl | rfl | rfl | rfl | rfl | rfl | rfl <;> rfl
theorem m135_eq {y m : Int} (hy : 0 ≤ y) (h0 : 0 ≤ m) (h1 : m < 12) : m135 y m = some (md (lng y) m) := by
  unfold m135 j135_7
  rw [m149_eq hy, mdT_get h0 h1]
  by_cases e : m = 1
  · subst e; cases lng y <;> simp <;> rfl
  · simp [e, h0, h1]
    simp [md, e]
theorem m131_eq {y m : Int} (hy : 0 ≤ y) (h0 : 0 ≤ m) (h1 : m < 12) : m131 y m = some (md (lng y) m) := by
  unfold m131 j131_9 j131_12
  rw [m132_eq hy, mdT_get h0 h1]
  by_cases e : m = 1
  · subst e; cases lng y <;> simp <;> rfl
  · simp [e, h0, h1]
    simp [md, e]
theorem m150_eq {n : Int} (h0 : 0 ≤ n) (h1 : n < 100000) : m150 n = some (tw n) := by
  unfold m150 tw dg
  rw [Int.tdiv_eq_ediv_of_nonneg h0, w64_eq (n / 10) (by omega) (by omega), Int.tmod_eq_emod_of_nonneg (by omega), Int.tmod_eq_emod_of_nonneg h0, w64_eq _ (by omega) (by omega), w64_eq _ (by omega) (by omega)]
theorem m133_eq {d : Int} (h0 : 0 ≤ d) : m133 d = some (wk (d % 7)) := by
  unfold m133
  rw [Int.tmod_eq_emod_of_nonneg h0, if_pos (by omega)]
  rcases q7 (q := d % 7) (by omega) (by omega) with e | e | e | e | e | e | e <;> rw [e] <;> rfl
theorem m129_eq {m : Int} (h0 : 0 ≤ m) (h1 : m < 12) : m129 m = some (mo m) := by
  unfold m129
  rw [if_pos (by omega)]
  rcases mth h0 h1 with rfl | rfl | rfl | rfl | rfl | rfl | rfl | rfl | rfl | rfl | rfl | rfl <;> rfl
theorem wk_cut {q : Int} (h0 : 0 ≤ q) (h1 : q < 7) : ∃ a b, bnd (w64 (w64 (3 * q) + 3)) 21 = some a ∧ bnd (w64 (3 * q)) a = some b ∧ (([84, 104, 117, 70, 114, 105, 83, 97, 116, 83, 117, 110, 77, 111, 110, 84, 117, 101, 87, 101, 100] : Bs).take a).drop b = wk q := by
  rcases q7 h0 h1 with rfl | rfl | rfl | rfl | rfl | rfl | rfl <;> exact ⟨_, _, rfl, rfl, rfl⟩
theorem mo_cut {q : Int} (h0 : 0 ≤ q) (h1 : q < 12) : ∃ a b, bnd (w64 (w64 (3 * q) + 3)) 36 = some a ∧ bnd (w64 (3 * q)) a = some b ∧ (([74, 97, 110, 70, 101, 98, 77, 97, 114, 65, 112, 114, 77, 97, 121, 74, 117, 110, 74, 117, 108, 65, 117, 103, 83, 101, 112, 79, 99, 116, 78, 111, 118, 68, 101, 99] : Bs).take a).drop b = mo q := by
  rcases mth h0 h1 with rfl | rfl | rfl | rfl | rfl | rfl | rfl | rfl | rfl | rfl | rfl | rfl <;> exact ⟨_, _, rfl, rfl, rfl⟩
theorem j137_40_eq {d s y m k : Int} (h : Dt d y m k) (hs0 : 0 ≤ s) (hs1 : s < 86400) : j137_40 d s y k m = some (txt d s y m k, 0) := by
  have hd := h.range
  obtain ⟨h1, h2, h3, h4, h5, h6, h7⟩ := h
  have hm := md_pos (lng y) h3 h4
  unfold j137_40
  rw [Int.tmod_eq_emod_of_nonneg hd.1]
  obtain ⟨a, b, e1, e2, e3⟩ := wk_cut (q := d % 7) (by omega) (by omega)
  obtain ⟨a', b', f1, f2, f3⟩ := mo_cut h3 h4
  have wl := wk_len (q := d % 7) (by omega) (by omega)
  have ml := mo_len h3 h4
  rw [Int.tdiv_eq_ediv_of_nonneg hs0, Int.tdiv_eq_ediv_of_nonneg hs0, Int.tdiv_eq_ediv_of_nonneg (show 0 ≤ y by omega), Int.tmod_eq_emod_of_nonneg hs0, Int.tmod_eq_emod_of_nonneg (show 0 ≤ y by omega), w64_eq (k + 1) (by omega) (by omega), w64_eq (y / 100) (by omega) (by omega), w64_eq (s / 3600) (by omega) (by omega), w64_eq (s / 60) (by omega) (by omega), Int.tmod_eq_emod_of_nonneg (show 0 ≤ s / 60 by omega)]
  simp -implicitDefEqProofs only [e1, e2, e3, f1, f2, f3, Option.bind_some, m150_eq (n := k + 1) (by omega) (by omega), m150_eq (n := y / 100) (by omega) (by omega), m150_eq (n := y % 100) (by omega) (by omega), m150_eq (n := s / 3600) (by omega) (by omega), m150_eq (n := s / 60 % 60) (by omega) (by omega), m150_eq (n := s % 60) (by omega) (by omega),
    List.length_append, wl, ml, tw_len, List.length_cons, List.length_nil, Nat.reduceAdd, Nat.reduceLT, ↓reduceIte]
  simp only [txt, List.append_assoc, ← tw_y4 y (by omega) (by omega)]
theorem m137_eq {n y m k : Int} (h : Dt (n / 86400) y m k) : m137 n = some (txt (n / 86400) (n % 86400) y m k, 0) := by
  have hr := h.range
  have hb := h.b
  have hn0 : 0 ≤ n := by omega
  unfold m137
  rw [if_neg (by simp; omega), Int.tdiv_eq_ediv_of_nonneg hn0, wu64_eq (n / 86400) (by omega) (by omega), w64_eq (n / 86400) (by omega) (by omega), Int.tdiv_eq_ediv_of_nonneg hr.1, w64_eq (n / 86400 / 366) (by omega) (by omega), w64_eq (1970 + n / 86400 / 366) (by omega) (by omega), Int.tmod_eq_emod_of_nonneg hn0, w64_eq (n % 86400) (by omega) (by omega)]
  have hs0 : 0 ≤ n % 86400 := by omega
  have hs1 : n % 86400 < 86400 := by omega
  generalize n / 86400 = d at *
  generalize n % 86400 = s at *
  have hy := h.1; have hy2 := h.2.1
  obtain ⟨r, h1, h2⟩ := iter_post (f := fun x : Int × Int × Int => s137_16 x.1 x.2.1 x.2.2) (fun x => x.1 = d ∧ x.2.1 = s ∧ 1970 ≤ x.2.2 ∧ x.2.2 ≤ y) (fun x => (y - x.2.2).toNat) (fun r => r = (txt d s y m k, 0)) (by
    rintro ⟨d', s', v⟩ hI
    dsimp only at hI ⊢
    obtain ⟨rfl, rfl, hv1, hv2⟩ := hI
    unfold s137_16
    rw [w64_eq (v + 1) (by omega) (by omega), m136_eq (y := v + 1) (by omega) (by omega)]
    simp only [Option.bind_some]
    by_cases c : ah (v + 1) ≤ d'
    · have : v < y := by
        by_cases c2 : y ≤ v
        · have := ah_mono (a := y + 1) (b := v + 1) (by omega); omega
        · omega
      exact .inl ⟨(d', s', v + 1), by simp [c], ⟨rfl, rfl, by dsimp only; omega, by dsimp only; omega⟩, by dsimp only; omega⟩
    · have e : v = y := by
        by_cases c2 : v < y
        · have := ah_mono (a := v + 1) (b := y) (by omega); omega
        · omega
      subst e
      refine .inr ⟨_, ?_, rfl⟩
      rw [if_neg (by simpa using c)]
      have : j137_25 d' s' v = some (txt d' s' v m k, 0) := by
        unfold j137_25 l137_29
        have hz := ah_mono (a := 1970) (b := v) hv1
        have e19 : ah 1970 = 0 := by decide
        obtain ⟨h1, h2, h3, h4, h5, h6, h7⟩ := h
        rw [m136_eq (by omega) (by omega), Option.bind_some, w64_eq _ (by omega) (by omega)]
        obtain ⟨r, g1, g2⟩ := iter_post (f := fun x : Int × Int × Int × Int × Int => s137_29 x.1 x.2.1 x.2.2.1 x.2.2.2.1 x.2.2.2.2) (fun x => x.1 = d' ∧ x.2.1 = s' ∧ x.2.2.1 = v ∧ 0 ≤ x.2.2.2.2 ∧ x.2.2.2.2 ≤ m ∧ x.2.2.2.1 = d' - ah v - cum (lng v) x.2.2.2.2) (fun x => (m - x.2.2.2.2).toNat) (fun r => r = (txt d' s' v m k, 0)) (by
          rintro ⟨d2, s2, v2, r, q⟩ hI
          dsimp only at hI ⊢
          obtain ⟨rfl, rfl, rfl, a0, a1, a2⟩ := hI
          unfold s137_29
          have hq : q < 12 := by omega
          have hp := md_pos (lng v2) a0 hq
          have hs := cum_s (lng v2) a0 hq
          have hc := cum_mono (lng v2) 0 q (by omega) a0 (by omega)
          have hc2 := cum_mono (lng v2) q m (by omega) a1 (by omega)
          rw [cum_0] at hc
          rw [m135_eq (by omega) a0 hq, Option.bind_some]
          by_cases c : md (lng v2) q ≤ r
          · have : q < m := by
              by_cases c2 : q = m
              · subst c2; omega
              · omega
            exact .inl ⟨(d2, s2, v2, r - md (lng v2) q, q + 1), by rw [if_pos (by simpa using c), w64_eq _ (by omega) (by omega), w64_eq _ (by omega) (by omega)], ⟨rfl, rfl, rfl, by dsimp only; omega, by dsimp only; omega, by dsimp only; omega⟩, by dsimp only; omega⟩
          · have e : q = m := by
              by_cases c2 : q < m
              · have := cum_mono (lng v2) (q + 1) m (by omega) (by omega) (by omega); omega
              · omega
            subst e
            refine .inr ⟨_, ?_, rfl⟩
            rw [if_neg (by simpa using c), show r = k by omega, j137_40_eq ⟨h1, h2, h3, h4, h5, h6, h7⟩ hs0 hs1]
            rfl) (d', s', v, d' - ah v, 0) ⟨rfl, rfl, rfl, Int.le_refl _, h3, by rw [cum_0]; dsimp only; omega⟩
        rw [g1, g2]
      rw [this]
      rfl) (d, s, 1970 + d / 366) ⟨rfl, rfl, by dsimp only; omega, by
        dsimp only
        by_cases c2 : y < 1970 + d / 366
        · have := ah_mono (a := y + 1) (b := 1970 + d / 366) (by omega)
          have : ah (1970 + d / 366) ≤ d := by unfold ah; omega
          omega
        · omega⟩
  unfold l137_16
  rw [h1, h2]
end Go.Ab
end
section
set_option linter.all false
open Go Go.Ab Go.Proofs Go.Proofs.YtbkobjepahlegaaGreatDoor
namespace Go.Ab
theorem cons1 {s : Bs} {n : Nat} (h : s.length = n + 1) : ∃ a t, s = a :: t ∧ t.length = n := by
  cases s with
  | nil => simp at h
  | cons a t => exact ⟨a, t, rfl, by simpa using h⟩
def vl (c : UInt8) : Int := ((c - 48).toNat : Int) % 10
def isd (c : UInt8) : Bool := !decide (c < 48) && !decide (57 < c)
theorem vl_b (c : UInt8) : 0 ≤ vl c ∧ vl c < 10 := by unfold vl; omega
theorem dg_toNat {x : Int} (h0 : 0 ≤ x) (h1 : x < 10) : (dg x).toNat = 48 + x.toNat := by
  have := u8_toNat (48 + x)
  unfold dg; omega
theorem dg_vl_i {x : Int} (h0 : 0 ≤ x) (h1 : x < 10) : (((dg x) - 48).toNat : Int) = x := by
  have := dg_toNat h0 h1
  rw [UInt8.toNat_sub]
  have : (48 : UInt8).toNat = 48 := rfl
  omega
theorem vl_dg {x : Int} (h0 : 0 ≤ x) (h1 : x < 10) : vl (dg x) = x := by
  unfold vl
  rw [dg_vl_i h0 h1]; omega
theorem isd_iff (c : UInt8) : isd c = true ↔ 48 ≤ c.toNat ∧ c.toNat ≤ 57 := by
  unfold isd
  simp [UInt8.lt_iff_toNat_lt, UInt8.le_iff_toNat_le]
theorem isd_dg {x : Int} (h0 : 0 ≤ x) (h1 : x < 10) : isd (dg x) = true := by
  rw [isd_iff, dg_toNat h0 h1]; omega
theorem isd_v {c : UInt8} (h : isd c = true) : ((c - 48).toNat : Int) = vl c ∧ dg (vl c) = c := by
  rw [isd_iff] at h
  have e : ((c - 48).toNat : Int) = c.toNat - 48 := by
    rw [UInt8.toNat_sub]
    have : (48 : UInt8).toNat = 48 := rfl
    omega
  have e2 : vl c = c.toNat - 48 := by unfold vl; rw [e]; omega
  refine ⟨by omega, ?_⟩
  apply u8_inj
  have := dg_toNat (x := vl c) (by omega) (by omega)
  omega
theorem m134_s {s : Bs} {n i : Int} (h0 : 0 ≤ i) (h1 : i < s.length) (hl : s.length < 1000) (hn0 : 0 ≤ n) (hn1 : n < 1000000000) :
    l134_8 s n s.length i = l134_8 s (10 * n + vl (s.getD i.toNat 0)) s.length (i + 1) := by
  unfold l134_8
  rw [iter_l]
  unfold s134_8
  have := vl_b (s.getD i.toNat 0)
  have e : (((s.getD i.toNat 0 - 48).toNat : Int)).tmod 10 = vl (s.getD i.toNat 0) := by
    rw [Int.tmod_eq_emod_of_nonneg (by omega)]; rfl
  dsimp only
  rw [if_pos (by simpa using h1), if_pos ⟨h0, h1⟩, e, w64_eq (10 * n) (by omega) (by omega), w64_eq _ (by omega) (by omega), w64_eq _ (by omega) (by omega)]
theorem m134_e {s : Bs} {n : Int} : l134_8 s n s.length s.length = some n := by
  unfold l134_8
  rw [iter_r (r := n)]
  unfold s134_8 j134_21
  rw [if_neg (by simp)]
  rfl
theorem m134_2 (a b : UInt8) : m134 [a, b] = some (10 * vl a + vl b) := by
  have ha := vl_b a; have hb := vl_b b
  unfold m134
  rw [m134_s (s := [a, b]) (by decide) (by simp) (by simp) (by decide) (by decide)]
  rw [m134_s (s := [a, b]) (by decide) (by simp) (by simp) (by simp; omega) (by simp; omega)]
  refine Eq.trans ?_ (m134_e (s := [a, b]))
  congr 1
  simp
theorem m134_4 (a b c d : UInt8) : m134 [a, b, c, d] = some (1000 * vl a + 100 * vl b + 10 * vl c + vl d) := by
  have ha := vl_b a; have hb := vl_b b; have hc := vl_b c; have hd := vl_b d
  unfold m134
  rw [m134_s (s := [a, b, c, d]) (by decide) (by simp) (by simp) (by decide) (by decide)]
  rw [m134_s (s := [a, b, c, d]) (by decide) (by simp) (by simp) (by simp; omega) (by simp; omega)]
  rw [m134_s (s := [a, b, c, d]) (by decide) (by simp) (by simp) (by simp; omega) (by simp; omega)]
  rw [m134_s (s := [a, b, c, d]) (by decide) (by simp) (by simp) (by simp; omega) (by simp; omega)]
  refine Eq.trans ?_ (m134_e (s := [a, b, c, d]))
  congr 1
  simp
  omega
theorem m130_s {s : Bs} {a k n i : Int} (h0 : 0 ≤ i) (h1 : i < a + k) (h2 : i < s.length) (ha : 0 ≤ a) (hk : 0 ≤ k) (hak : a + k < 1000) (hn0 : 0 ≤ n) (hn1 : n < 1000000000) :
    l130_8 s a k n i = if isd (s.getD i.toNat 0) = true then l130_8 s a k (10 * n + vl (s.getD i.toNat 0)) (i + 1) else some (-1) := by
  unfold l130_8
  rw [iter_eq]
  unfold s130_8 j130_20
  dsimp only
  rw [w64_eq (a + k) (by omega) (by omega), if_pos (by simpa using h1), if_pos ⟨h0, h2⟩]
  generalize s.getD i.toNat 0 = c
  have hv := vl_b c
  by_cases e1 : c < 48
  · have : isd c = false := by simp [isd, e1]
    simp [e1, this]
  · by_cases e2 : (57 : UInt8) < c
    · have : isd c = false := by simp [isd, e2]
      simp [e1, e2, this]
    · have : isd c = true := by simp only [isd, e1, e2, decide_false, Bool.not_false, Bool.and_self]
      rw [if_neg (by simpa using e1), if_neg (by simpa using e2), if_pos ⟨h0, h2⟩, if_pos this, (isd_v this).1, w64_eq (10 * n) (by omega) (by omega), w64_eq _ (by omega) (by omega), w64_eq _ (by omega) (by omega)]
theorem m130_e {s : Bs} {a k n : Int} (ha : 0 ≤ a) (hk : 0 ≤ k) (hak : a + k < 1000) : l130_8 s a k n (a + k) = some n := by
  unfold l130_8
  rw [iter_r (r := n)]
  unfold s130_8 j130_27
  dsimp only
  rw [w64_eq (a + k) (by omega) (by omega), if_neg (by simp)]
  rfl
theorem m130_2 {s : Bs} (a : Nat) (h : a + 2 ≤ s.length) (hl : a < 100) : m130 s a 2 = some (if isd (s.getD a 0) = true ∧ isd (s.getD (a + 1) 0) = true then 10 * vl (s.getD a 0) + vl (s.getD (a + 1) 0) else -1) := by
  have ha := vl_b (s.getD a 0)
  unfold m130
  rw [m130_s (by omega) (by omega) (by omega) (by omega) (by omega) (by omega) (by omega) (by omega)]
  simp only [Int.toNat_natCast]
  by_cases e : isd (s.getD a 0) = true
  · rw [if_pos e, m130_s (by omega) (by omega) (by omega) (by omega) (by omega) (by omega) (by omega) (by omega)]
    have e3 : ((a : Int) + 1).toNat = a + 1 := by omega
    rw [e3]
    by_cases e2 : isd (s.getD (a + 1) 0) = true
    · rw [if_pos e2, if_pos ⟨e, e2⟩]
      have := m130_e (s := s) (a := a) (k := 2) (n := 10 * vl (s.getD a 0) + vl (s.getD (a + 1) 0)) (by omega) (by omega) (by omega)
      rw [← this]; congr 1
      · omega
    · rw [if_neg e2, if_neg (fun h => e2 h.2)]
  · rw [if_neg e, if_neg (fun h => e h.1)]
theorem m130_4 {s : Bs} (a : Nat) (h : a + 4 ≤ s.length) (hl : a < 100) : m130 s a 4 = some (if isd (s.getD a 0) = true ∧ isd (s.getD (a + 1) 0) = true ∧ isd (s.getD (a + 2) 0) = true ∧ isd (s.getD (a + 3) 0) = true then 1000 * vl (s.getD a 0) + 100 * vl (s.getD (a + 1) 0) + 10 * vl (s.getD (a + 2) 0) + vl (s.getD (a + 3) 0) else -1) := by
  have ha := vl_b (s.getD a 0)
  have hb := vl_b (s.getD (a + 1) 0)
  have hc := vl_b (s.getD (a + 2) 0)
  have e1 : ((a : Int) + 1).toNat = a + 1 := by omega
  have e2 : ((a : Int) + 1 + 1).toNat = a + 2 := by omega
  have e3 : ((a : Int) + 1 + 1 + 1).toNat = a + 3 := by omega
  unfold m130
  rw [m130_s (by omega) (by omega) (by omega) (by omega) (by omega) (by omega) (by omega) (by omega)]
  simp only [Int.toNat_natCast]
  by_cases e : isd (s.getD a 0) = true
  · rw [if_pos e, m130_s (by omega) (by omega) (by omega) (by omega) (by omega) (by omega) (by omega) (by omega), e1]
    by_cases f : isd (s.getD (a + 1) 0) = true
    · rw [if_pos f, m130_s (by omega) (by omega) (by omega) (by omega) (by omega) (by omega) (by omega) (by omega), e2]
      by_cases g : isd (s.getD (a + 2) 0) = true
      · rw [if_pos g, m130_s (by omega) (by omega) (by omega) (by omega) (by omega) (by omega) (by omega) (by omega), e3]
        by_cases i : isd (s.getD (a + 3) 0) = true
        · rw [if_pos i, if_pos ⟨e, f, g, i⟩]
          have := m130_e (s := s) (a := a) (k := 4) (n := 1000 * vl (s.getD a 0) + 100 * vl (s.getD (a + 1) 0) + 10 * vl (s.getD (a + 2) 0) + vl (s.getD (a + 3) 0)) (by omega) (by omega) (by omega)
          rw [← this]; congr 1 <;> omega
        · rw [if_neg i, if_neg (fun h => i h.2.2.2)]
      · rw [if_neg g, if_neg (fun h => g h.2.2.1)]
    · rw [if_neg f, if_neg (fun h => f h.2.1)]
  · rw [if_neg e, if_neg (fun h => e h.1)]
theorem m137_any {n : Int} (h0 : 0 ≤ n) : m137 n = some ([], 3) ∧ 253402300799 < n ∨ ∃ y m k, Dt (n / 86400) y m k ∧ m137 n = some (txt (n / 86400) (n % 86400) y m k, 0) := by
  by_cases c : 253402300799 < n
  · left; refine ⟨?_, c⟩; unfold m137; rw [if_pos (by simpa using c)]
  · right
    obtain ⟨y, m, k, h⟩ := Dt.ex (d := n / 86400) (by omega) (by omega)
    exact ⟨y, m, k, h, m137_eq h⟩
theorem index_le : ∀ (s t : Bs), Lib.index s t ≤ s.length - t.length ∨ Lib.index s t = -1 := by
  intro s
  induction s with
  | nil => intro t; unfold Lib.index; cases t <;> simp
  | cons b l ih =>
    intro t
    unfold Lib.index
    split
    · rename_i h
      have := (List.isPrefixOf_iff_prefix.1 h).length_le
      left; simp at this ⊢; omega
    · split
      · right; rfl
      · rename_i h
        rcases ih t with g | g
        · left; simp; omega
        · rw [g] at h; exact absurd rfl h
end Go.Ab
end
section
set_option linter.all false
open Go Go.Ab Go.Proofs Go.Proofs.YtbkobjepahlegaaGreatDoor
namespace Go.Ab
theorem L29 {s : Bs} (h : s.length = 29) : ∃ c0 c1 c2 c3 c4 c5 c6 c7 c8 c9 c10 c11 c12 c13 c14 c15 c16 c17 c18 c19 c20 c21 c22 c23 c24 c25 c26 c27 c28 : UInt8, s = [c0, c1, c2, c3, c4, c5, c6, c7, c8, c9, c10, c11, c12, c13, c14, c15, c16, c17, c18, c19, c20, c21, c22, c23, c24, c25, c26, c27, c28] := by
  obtain ⟨c0, s0, e0, h0⟩ := cons1 h
  obtain ⟨c1, s1, e1, h1⟩ := cons1 h0
  obtain ⟨c2, s2, e2, h2⟩ := cons1 h1
  obtain ⟨c3, s3, e3, h3⟩ := cons1 h2
  obtain ⟨c4, s4, e4, h4⟩ := cons1 h3
  obtain ⟨c5, s5, e5, h5⟩ := cons1 h4
  obtain ⟨c6, s6, e6, h6⟩ := cons1 h5
  obtain ⟨c7, s7, e7, h7⟩ := cons1 h6
  obtain ⟨c8, s8, e8, h8⟩ := cons1 h7
  obtain ⟨c9, s9, e9, h9⟩ := cons1 h8
  obtain ⟨c10, s10, e10, h10⟩ := cons1 h9
  obtain ⟨c11, s11, e11, h11⟩ := cons1 h10
  obtain ⟨c12, s12, e12, h12⟩ := cons1 h11
  obtain ⟨c13, s13, e13, h13⟩ := cons1 h12
  obtain ⟨c14, s14, e14, h14⟩ := cons1 h13
  obtain ⟨c15, s15, e15, h15⟩ := cons1 h14
  obtain ⟨c16, s16, e16, h16⟩ := cons1 h15
  obtain ⟨c17, s17, e17, h17⟩ := cons1 h16
  obtain ⟨c18, s18, e18, h18⟩ := cons1 h17
  obtain ⟨c19, s19, e19, h19⟩ := cons1 h18
  obtain ⟨c20, s20, e20, h20⟩ := cons1 h19
  obtain ⟨c21, s21, e21, h21⟩ := cons1 h20
  obtain ⟨c22, s22, e22, h22⟩ := cons1 h21
  obtain ⟨c23, s23, e23, h23⟩ := cons1 h22
  obtain ⟨c24, s24, e24, h24⟩ := cons1 h23
  obtain ⟨c25, s25, e25, h25⟩ := cons1 h24
  obtain ⟨c26, s26, e26, h26⟩ := cons1 h25
  obtain ⟨c27, s27, e27, h27⟩ := cons1 h26
  obtain ⟨c28, s28, e28, h28⟩ := cons1 h27
  have : s28 = [] := by cases s28; rfl; simp at h28
  subst this
  exact ⟨c0, c1, c2, c3, c4, c5, c6, c7, c8, c9, c10, c11, c12, c13, c14, c15, c16, c17, c18, c19, c20, c21, c22, c23, c24, c25, c26, c27, c28, by rw [e0, e1, e2, e3, e4, e5, e6, e7, e8, e9, e10, e11, e12, e13, e14, e15, e16, e17, e18, e19, e20, e21, e22, e23, e24, e25, e26, e27, e28]⟩
theorem l104_eq {s : Bs} {y D M : Int} (hy : 0 ≤ y) (hD : -100000000 ≤ D ∧ D ≤ 100000000) (hM0 : 0 ≤ M) (hM : M ≤ 12) : l104_28 s y D M 0 = j104_41 s (D + cum (lng y) M) := by
  unfold l104_28
  refine iter_to (fun x => x.1 = s ∧ x.2.1 = y ∧ x.2.2.2.1 = M ∧ 0 ≤ x.2.2.2.2 ∧ x.2.2.2.2 ≤ M ∧ x.2.2.1 = D + cum (lng y) x.2.2.2.2) (fun x => (M - x.2.2.2.2).toNat) _ ?_ _ ⟨rfl, rfl, rfl, by dsimp only; omega, by dsimp only; omega, by dsimp only; rw [cum_0]; omega⟩
  rintro ⟨s', y', d, M', q⟩ hI
  dsimp only at hI ⊢
  obtain ⟨rfl, rfl, rfl, h0, h1, rfl⟩ := hI
  unfold s104_28
  by_cases c : q < M'
  · left
    have := cum_s (lng y') h0 (show q < 12 by omega)
    have := cum_mono (lng y') 0 q (by omega) h0 (by omega)
    have := cum_mono (lng y') q 12 h0 (by omega) (by omega)
    have h12 := cum_12 (lng y')
    have : cum (lng y') 12 ≤ 366 := by rw [h12]; cases lng y' <;> simp
    have := md_pos (lng y') h0 (show q < 12 by omega)
    rw [cum_0] at *
    exact ⟨(s', y', D + cum (lng y') (q + 1), M', q + 1), by rw [if_pos (by simpa using c), m135_eq hy h0 (by omega), Option.bind_some, w64_eq _ (by omega) (by omega), w64_eq _ (by omega) (by omega), show D + cum (lng y') q + md (lng y') q = D + cum (lng y') (q + 1) by omega], ⟨rfl, rfl, rfl, by dsimp only; omega, by dsimp only; omega, rfl⟩, by dsimp only; omega⟩
  · right
    have : q = M' := by omega
    subst this
    rw [if_neg (by simp)]
theorem j104_41_eq {c0 c1 c2 c3 c4 c5 c6 c7 c8 c9 c10 c11 c12 c13 c14 c15 c16 c17 c18 c19 c20 c21 c22 c23 c24 c25 c26 c27 c28 : UInt8} {d : Int} (h0 : 0 ≤ d) (h1 : d < 100000000)
    {s : Bs} (hs : s = [c0, c1, c2, c3, c4, c5, c6, c7, c8, c9, c10, c11, c12, c13, c14, c15, c16, c17, c18, c19, c20, c21, c22, c23, c24, c25, c26, c27, c28]) :
    j104_41 s d = (m137 (86400 * d + 3600 * (10 * vl c17 + vl c18) + 60 * (10 * vl c20 + vl c21) + (10 * vl c23 + vl c24))).bind fun r => if r.2 = 0 ∧ r.1 = s then some (86400 * d + 3600 * (10 * vl c17 + vl c18) + 60 * (10 * vl c20 + vl c21) + (10 * vl c23 + vl c24), 0) else some (0, 5) := by
  have a1 := vl_b c17; have a2 := vl_b c18; have a3 := vl_b c20; have a4 := vl_b c21; have a5 := vl_b c23; have a6 := vl_b c24
  have hl : s.length = 29 := by rw [hs]; rfl
  have e1 : (s.take 19).drop 17 = [c17, c18] := by rw [hs]; rfl
  have e2 : (s.take 22).drop 20 = [c20, c21] := by rw [hs]; rfl
  have e3 : (s.take 25).drop 23 = [c23, c24] := by rw [hs]; rfl
  unfold j104_41
  rw [hl]
  simp only [show bnd 19 29 = some 19 from rfl, show bnd 17 19 = some 17 from rfl, show bnd 22 29 = some 22 from rfl, show bnd 20 22 = some 20 from rfl, show bnd 25 29 = some 25 from rfl, show bnd 23 25 = some 23 from rfl, Option.bind_some, e1, e2, e3, m134_2]
  rw [w64_eq (d * 86400) (by omega) (by omega), w64_eq ((10 * vl c17 + vl c18) * 3600) (by omega) (by omega), w64_eq ((10 * vl c20 + vl c21) * 60) (by omega) (by omega), w64_eq (d * 86400 + (10 * vl c17 + vl c18) * 3600) (by omega) (by omega), w64_eq (d * 86400 + (10 * vl c17 + vl c18) * 3600 + (10 * vl c20 + vl c21) * 60) (by omega) (by omega), w64_eq _ (by omega) (by omega), wu64_eq _ (by omega) (by omega)]
  have e : d * 86400 + (10 * vl c17 + vl c18) * 3600 + (10 * vl c20 + vl c21) * 60 + (10 * vl c23 + vl c24) = 86400 * d + 3600 * (10 * vl c17 + vl c18) + 60 * (10 * vl c20 + vl c21) + (10 * vl c23 + vl c24) := by omega
  rw [e]
  congr 1
  funext r
  unfold j104_48
  by_cases f1 : r.2 = 0
  · by_cases f2 : r.1 = s
    · simp [f1, f2]
    · simp [f1, f2]
  · simp [f1]
def monS : Bs := [74, 97, 110, 70, 101, 98, 77, 97, 114, 65, 112, 114, 77, 97, 121, 74, 117, 110, 74, 117, 108, 65, 117, 103, 83, 101, 112, 79, 99, 116, 78, 111, 118, 68, 101, 99]
theorem m104_29 {c0 c1 c2 c3 c4 c5 c6 c7 c8 c9 c10 c11 c12 c13 c14 c15 c16 c17 c18 c19 c20 c21 c22 c23 c24 c25 c26 c27 c28 : UInt8}
    {s : Bs} (hs : s = [c0, c1, c2, c3, c4, c5, c6, c7, c8, c9, c10, c11, c12, c13, c14, c15, c16, c17, c18, c19, c20, c21, c22, c23, c24, c25, c26, c27, c28]) :
    m104 s = if 0 ≤ Lib.index monS [c8, c9, c10] ∧ Lib.index monS [c8, c9, c10] % 3 = 0 ∧ 1970 ≤ 1000 * vl c12 + 100 * vl c13 + 10 * vl c14 + vl c15 ∧ 1 ≤ 10 * vl c5 + vl c6 ∧ 10 * vl c5 + vl c6 ≤ md (lng (1000 * vl c12 + 100 * vl c13 + 10 * vl c14 + vl c15)) (Lib.index monS [c8, c9, c10] / 3)
      then j104_41 s (ah (1000 * vl c12 + 100 * vl c13 + 10 * vl c14 + vl c15) + (10 * vl c5 + vl c6) - 1 + cum (lng (1000 * vl c12 + 100 * vl c13 + 10 * vl c14 + vl c15)) (Lib.index monS [c8, c9, c10] / 3)) else some (0, 5) := by
  have a1 := vl_b c12; have a2 := vl_b c13; have a3 := vl_b c14; have a4 := vl_b c15; have a5 := vl_b c5; have a6 := vl_b c6
  have hl : s.length = 29 := by rw [hs]; rfl
  have e1 : (s.take 11).drop 8 = [c8, c9, c10] := by rw [hs]; rfl
  have e2 : (s.take 16).drop 12 = [c12, c13, c14, c15] := by rw [hs]; rfl
  have e3 : (s.take 7).drop 5 = [c5, c6] := by rw [hs]; rfl
  have hi := index_le monS [c8, c9, c10]
  have hi2 := Lib.index_ge monS [c8, c9, c10]
  have e4 : m117 monS [c8, c9, c10] = some (Lib.index monS [c8, c9, c10]) := by unfold m117 mIx; rw [if_pos (by decide)]; rfl
  have hml : monS.length = 36 := rfl
  unfold m104
  rw [if_pos (by simp [hl]), hl, show ([74, 97, 110, 70, 101, 98, 77, 97, 114, 65, 112, 114, 77, 97, 121, 74, 117, 110, 74, 117, 108, 65, 117, 103, 83, 101, 112, 79, 99, 116, 78, 111, 118, 68, 101, 99] : Bs) = monS from rfl]
  simp only [show bnd 11 29 = some 11 from rfl, show bnd 8 11 = some 8 from rfl, show bnd 16 29 = some 16 from rfl, show bnd 12 16 = some 12 from rfl, show bnd 7 29 = some 7 from rfl, show bnd 5 7 = some 5 from rfl, Option.bind_some, e1, e2, e3, e4, m134_2, m134_4]
  generalize Lib.index monS [c8, c9, c10] = ix at *
  generalize hY : 1000 * vl c12 + 100 * vl c13 + 10 * vl c14 + vl c15 = Y at *
  generalize hD : 10 * vl c5 + vl c6 = D at *
  have hix : ix ≤ 33 := by rw [hml] at hi; simp at hi; omega
  have hf : ∀ x y z, j104_17 s x y z true = some (0, 5) := fun _ _ _ => rfl
  simp only [hf]
  by_cases f1 : ix < 0
  · rw [if_pos (by simpa using f1), if_neg (fun h => by omega)]
  · rw [if_neg (by simpa using f1), Int.tmod_eq_emod_of_nonneg (by omega), Int.tdiv_eq_ediv_of_nonneg (by omega)]
    by_cases f2 : ix % 3 = 0
    · rw [if_pos (by simpa using f2)]
      by_cases f3 : Y < 1970
      · rw [if_pos (by simpa using f3), if_neg (fun h => by omega)]
      · rw [if_neg (by simpa using f3)]
        by_cases f4 : D < 1
        · rw [if_pos (by simpa using f4), if_neg (fun h => by omega)]
        · rw [if_neg (by simpa using f4), w64_eq _ (by omega) (by omega), m135_eq (by omega) (by omega) (by omega), Option.bind_some]
          unfold j104_17
          by_cases f5 : md (lng Y) (ix / 3) < D
          · rw [if_pos (by simpa using f5), if_neg (fun h => by omega)]
          · have hb1 := ah_mono (a := 1970) (b := Y) (by omega)
            have hb2 := ah_mono (a := Y) (b := 10000) (by omega)
            have eb1 : ah 1970 = 0 := by decide
            have eb2 : ah 10000 = 2932897 := by decide
            rw [if_neg (by simpa using f5), if_pos ⟨by omega, f2, by omega, by omega, by omega⟩, m136_eq (by omega) (by omega), Option.bind_some, Int.tdiv_eq_ediv_of_nonneg (by omega), w64_eq (ix / 3) (by omega) (by omega), w64_eq (ah Y + D) (by omega) (by omega), w64_eq _ (by omega) (by omega), l104_eq (by omega) (by omega) (by omega) (by omega)]
    · rw [if_neg (by simpa using f2), if_neg (fun h => f2 h.2.1)]
theorem m104_ok (s : Bs) : m104 s = some (0, 5) ∨ ∃ n, m104 s = some (n, 0) ∧ 0 ≤ n ∧ m137 n = some (s, 0) := by
  by_cases hl : s.length = 29
  · obtain ⟨c0, c1, c2, c3, c4, c5, c6, c7, c8, c9, c10, c11, c12, c13, c14, c15, c16, c17, c18, c19, c20, c21, c22, c23, c24, c25, c26, c27, c28, hs⟩ := L29 hl
    rw [m104_29 hs]
    split
    · rename_i h
      have a1 := vl_b c12; have a2 := vl_b c13; have a3 := vl_b c14; have a4 := vl_b c15; have a5 := vl_b c5; have a6 := vl_b c6
      have b1 := vl_b c17; have b2 := vl_b c18; have b3 := vl_b c20; have b4 := vl_b c21; have b5 := vl_b c23; have b6 := vl_b c24
      have hi := index_le monS [c8, c9, c10]
      generalize Lib.index monS [c8, c9, c10] = ix at *
      generalize hY : 1000 * vl c12 + 100 * vl c13 + 10 * vl c14 + vl c15 = Y at *
      generalize hD : 10 * vl c5 + vl c6 = D at *
      have hml : monS.length = 36 := rfl
      have hix : ix ≤ 33 := by rw [hml] at hi; simp at hi; omega
      have hb1 := ah_mono (a := 1970) (b := Y) (by omega)
      have hb2 := ah_mono (a := Y) (b := 10000) (by omega)
      have eb1 : ah 1970 = 0 := by decide
      have eb2 : ah 10000 = 2932897 := by decide
      have hc := cum_mono (lng Y) 0 (ix / 3) (by omega) (by omega) (by omega)
      have hc2 := cum_mono (lng Y) (ix / 3) 12 (by omega) (by omega) (by omega)
      have h12 := cum_12 (lng Y)
      have : cum (lng Y) 12 ≤ 366 := by rw [h12]; cases lng Y <;> simp
      rw [cum_0] at hc
      rw [j104_41_eq (by omega) (by omega) hs]
      rcases m137_any (n := 86400 * (ah Y + D - 1 + cum (lng Y) (ix / 3)) + 3600 * (10 * vl c17 + vl c18) + 60 * (10 * vl c20 + vl c21) + (10 * vl c23 + vl c24)) (by omega) with ⟨e, _⟩ | ⟨y, m, k, hd, e⟩
      · rw [e]; left; rfl
      · rw [e, Option.bind_some]
        dsimp only
        split
        · rename_i g
          right
          exact ⟨_, rfl, by omega, by rw [e, g.2]⟩
        · left; rfl
    · left; rfl
  · left
    unfold m104
    rw [if_neg (by simp; omega)]
theorem mo_ix {m : Int} (h0 : 0 ≤ m) (h1 : m < 12) : ∃ a b c, mo m = [a, b, c] ∧ Lib.index monS [a, b, c] = 3 * m := by
  rcases mth h0 h1 with rfl | rfl | rfl | rfl | rfl | rfl | rfl | rfl | rfl | rfl | rfl | rfl <;> exact ⟨_, _, _, rfl, by decide +kernel⟩
theorem wk_ex {q : Int} (h0 : 0 ≤ q) (h1 : q < 7) : ∃ a b c, wk q = [a, b, c] := by
  rcases q7 h0 h1 with rfl | rfl | rfl | rfl | rfl | rfl | rfl <;> exact ⟨_, _, _, rfl⟩
theorem m104_txt {n y m k : Int} (h : Dt (n / 86400) y m k) : m104 (txt (n / 86400) (n % 86400) y m k) = some (n, 0) := by
  have h8 := m137_eq h
  have hr := h.range
  have hs0 : 0 ≤ n % 86400 := by omega
  have hs1 : n % 86400 < 86400 := by omega
  generalize hd : n / 86400 = d at *
  generalize hsd : n % 86400 = s at *
  obtain ⟨h1, h2, h3, h4, h5, h6, h7⟩ := h
  have hm := md_pos (lng y) h3 h4
  obtain ⟨w0, w1, w2, hw⟩ := wk_ex (q := d % 7) (by omega) (by omega)
  obtain ⟨m0, m1, m2, hm0, hix⟩ := mo_ix h3 h4
  have hz : txt d s y m k = [w0, w1, w2, 44, 32, dg ((k + 1) / 10 % 10), dg ((k + 1) % 10), 32, m0, m1, m2, 32, dg (y / 1000 % 10), dg (y / 100 % 10), dg (y / 10 % 10), dg (y % 10), 32, dg (s / 3600 / 10 % 10), dg (s / 3600 % 10), 58, dg (s / 60 % 60 / 10 % 10), dg (s / 60 % 60 % 10), 58, dg (s % 60 / 10 % 10), dg (s % 60 % 10), 32, 71, 77, 84] := by
    simp only [txt, hw, hm0, tw, y4, List.cons_append, List.nil_append]
  rw [m104_29 hz, hix]
  have v : ∀ x : Int, vl (dg (x % 10)) = x % 10 := fun x => vl_dg (by omega) (by omega)
  simp only [v]
  rw [show 1000 * (y / 1000 % 10) + 100 * (y / 100 % 10) + 10 * (y / 10 % 10) + y % 10 = y by omega, show 10 * ((k + 1) / 10 % 10) + (k + 1) % 10 = k + 1 by omega, show 3 * m / 3 = m by omega]
  rw [if_pos ⟨by omega, by omega, by omega, by omega, by omega⟩, show ah y + (k + 1) - 1 + cum (lng y) m = d by omega, j104_41_eq hr.1 (by omega) hz]
  simp only [v]
  rw [show 10 * (s / 3600 / 10 % 10) + s / 3600 % 10 = s / 3600 by omega, show 10 * (s / 60 % 60 / 10 % 10) + s / 60 % 60 % 10 = s / 60 % 60 by omega, show 10 * (s % 60 / 10 % 10) + s % 60 % 10 = s % 60 by omega, show 86400 * d + 3600 * (s / 3600) + 60 * (s / 60 % 60) + s % 60 = n by omega, h8]
  simp
end Go.Ab
end
section
set_option linter.all false
open Go Go.Ab Go.Proofs Go.Proofs.YtbkobjepahlegaaGreatDoor
namespace Go.Ab
def secs (h mi se : Int) : Int := 3600 * h + 60 * mi + se
theorem j103_81_eq {s : Bs} {h mi se d : Int} (hl : s.length = 29) (h0 : 0 ≤ d) (h1 : d < 100000000) (a0 : 0 ≤ h) (a1 : h ≤ 23) (b0 : 0 ≤ mi) (b1 : mi ≤ 59) (c0 : 0 ≤ se) (c1 : se ≤ 59) :
    j103_81 s h mi se d = if wk (d % 7) = s.take 3 then some (86400 * d + secs h mi se, 0) else some (0, 5) := by
  unfold j103_81 secs
  rw [m133_eq h0, hl, Option.bind_some, show bnd 3 29 = some 3 from rfl, Option.bind_some]
  by_cases c : wk (d % 7) = s.take 3
  · rw [if_pos (by simpa using c), if_pos c, w64_eq (3600 * h) (by omega) (by omega), w64_eq (60 * mi) (by omega) (by omega), w64_eq (3600 * h + 60 * mi) (by omega) (by omega), w64_eq _ (by omega) (by omega), wu64_eq (86400 * d) (by omega) (by omega), wu64_eq (3600 * h + 60 * mi + se) (by omega) (by omega), wu64_eq _ (by omega) (by omega)]
  · rw [if_neg (by simpa using c), if_neg c]
theorem l103_70_eq {s : Bs} {m y h mi se D : Int} (hy : 0 ≤ y) (hm0 : 0 ≤ m) (hm : m ≤ 12) (hD0 : 0 ≤ D) (hD1 : D ≤ 100000000) : l103_70 s m y h mi se D 0 = j103_81 s h mi se (D + cum (lng y) m) := by
  unfold l103_70
  refine iter_to (fun x => x.1 = s ∧ x.2.1 = m ∧ x.2.2.1 = y ∧ x.2.2.2.1 = h ∧ x.2.2.2.2.1 = mi ∧ x.2.2.2.2.2.1 = se ∧ 0 ≤ x.2.2.2.2.2.2.2 ∧ x.2.2.2.2.2.2.2 ≤ m ∧ x.2.2.2.2.2.2.1 = D + cum (lng y) x.2.2.2.2.2.2.2) (fun x => (m - x.2.2.2.2.2.2.2).toNat) _ ?_ _ ⟨rfl, rfl, rfl, rfl, rfl, rfl, by dsimp only; omega, by dsimp only; omega, by dsimp only; rw [cum_0]; omega⟩
  rintro ⟨s', m', y', h', mi', se', d, q⟩ hI
  dsimp only at hI ⊢
  obtain ⟨rfl, rfl, rfl, rfl, rfl, rfl, h0, h1, rfl⟩ := hI
  unfold s103_70
  by_cases c : q < m'
  · left
    have := cum_s (lng y') h0 (show q < 12 by omega)
    have := cum_mono (lng y') 0 q (by omega) h0 (by omega)
    have := cum_mono (lng y') q 12 h0 (by omega) (by omega)
    have h12 := cum_12 (lng y')
    have : cum (lng y') 12 ≤ 366 := by rw [h12]; cases lng y' <;> simp
    have := md_pos (lng y') h0 (show q < 12 by omega)
    rw [cum_0] at *
    exact ⟨(s', m', y', h', mi', se', D + cum (lng y') (q + 1), q + 1), by rw [if_pos (by simpa using c), m131_eq hy h0 (by omega), Option.bind_some, wu64_eq (md (lng y') q) (by omega) (by omega), wu64_eq _ (by omega) (by omega), w64_eq _ (by omega) (by omega), show D + cum (lng y') q + md (lng y') q = D + cum (lng y') (q + 1) by omega], ⟨rfl, rfl, rfl, rfl, rfl, rfl, by dsimp only; omega, by dsimp only; omega, rfl⟩, by dsimp only; omega⟩
  · right
    have : q = m' := by omega
    subst this
    rw [if_neg (by simpa using c)]
theorem l103_49_eq {s : Bs} {m y h mi se D : Int} (hy : 1970 ≤ y) (hy2 : y ≤ 9999) (hD0 : 0 ≤ D) (hD1 : D ≤ 1000) : l103_49 s m y h mi se D 1970 = j103_66 s m y h mi se (D + ah y) := by
  have e19 : ah 1970 = 0 := by decide
  have e20 : ah 9999 = 2932532 := by decide
  unfold l103_49
  refine iter_to (fun x => x.1 = s ∧ x.2.1 = m ∧ x.2.2.1 = y ∧ x.2.2.2.1 = h ∧ x.2.2.2.2.1 = mi ∧ x.2.2.2.2.2.1 = se ∧ 1970 ≤ x.2.2.2.2.2.2.2 ∧ x.2.2.2.2.2.2.2 ≤ y ∧ x.2.2.2.2.2.2.1 = D + ah x.2.2.2.2.2.2.2) (fun x => (y - x.2.2.2.2.2.2.2).toNat) _ ?_ _ ⟨rfl, rfl, rfl, rfl, rfl, rfl, by dsimp only; omega, by dsimp only; omega, by dsimp only; omega⟩
  rintro ⟨s', m', y', h', mi', se', d, q⟩ hI
  dsimp only at hI ⊢
  obtain ⟨rfl, rfl, rfl, rfl, rfl, rfl, h0, h1, rfl⟩ := hI
  unfold s103_49 j103_65
  by_cases c : q < y'
  · left
    have hs := ah_s q
    have := ah_mono (a := 1970) (b := q) h0
    have := ah_mono (a := q) (b := 9999) (by omega)
    refine ⟨(s', m', y', h', mi', se', D + ah (q + 1), q + 1), ?_, ⟨rfl, rfl, rfl, rfl, rfl, rfl, by dsimp only; omega, by dsimp only; omega, rfl⟩, by dsimp only; omega⟩
    rw [if_pos (by simpa using c), m132_eq (by omega), Option.bind_some, wu64_eq (D + ah q + 365) (by omega) (by omega), w64_eq (q + 1) (by omega) (by omega), wu64_eq (D + ah q + 365 + 1) (by omega) (by omega)]
    cases hq : lng q <;> rw [hq] at hs <;> simp at hs ⊢ <;> omega
  · right
    have : q = y' := by omega
    subst this
    rw [if_neg (by simpa using c)]
theorem mo_inj {a b : Int} (h0 : 0 ≤ a) (h1 : a < 12) (g0 : 0 ≤ b) (g1 : b < 12) (h : mo a = mo b) : a = b := by
  obtain ⟨a0, a1, a2, e, f⟩ := mo_ix h0 h1
  obtain ⟨b0, b1, b2, e', f'⟩ := mo_ix g0 g1
  have hh := h
  rw [e, e'] at hh
  rw [hh] at f
  omega
theorem l103_16_yes {s : Bs} {m m0 : Int} (hl : s.length = 29) (h0 : 0 ≤ m) (h1 : m < 12) (h : mo m = (s.take 11).drop 8) : l103_16 s (-1) 0 = j103_31 s m := by
  unfold l103_16
  refine iter_to (fun x => x.1 = s ∧ 0 ≤ x.2.2 ∧ x.2.2 ≤ 12 ∧ (m < x.2.2 → x.2.1 = m)) (fun x => (12 - x.2.2).toNat) _ ?_ _ ⟨rfl, by dsimp only; omega, by dsimp only; omega, by dsimp only; omega⟩
  rintro ⟨s', m', q⟩ hI
  dsimp only at hI ⊢
  obtain ⟨rfl, a0, a1, a2⟩ := hI
  unfold s103_16 j103_30
  by_cases c : q < 12
  · left
    rw [if_pos (by simpa using c), m129_eq a0 c, hl]
    simp only [Option.bind_some, show bnd 11 29 = some 11 from rfl, show bnd 8 11 = some 8 from rfl, ← h]
    rw [w64_eq _ (by omega) (by omega)]
    by_cases e : mo q = mo m
    · have := mo_inj a0 c h0 h1 e
      exact ⟨(s', q, q + 1), by rw [if_pos (by simpa using e)], ⟨rfl, by dsimp only; omega, by dsimp only; omega, fun _ => this⟩, by dsimp only; omega⟩
    · have : q ≠ m := fun h => e (by rw [h])
      exact ⟨(s', m', q + 1), by rw [if_neg (by simpa using e)], ⟨rfl, by dsimp only; omega, by dsimp only; omega, fun g => a2 (by dsimp only at g; omega)⟩, by dsimp only; omega⟩
  · right
    rw [if_neg (by simpa using c), a2 (by omega)]
theorem l103_16_any {s : Bs} (hl : s.length = 29) : l103_16 s (-1) 0 = j103_31 s (-1) ∨ ∃ m, 0 ≤ m ∧ m < 12 ∧ mo m = (s.take 11).drop 8 ∧ l103_16 s (-1) 0 = j103_31 s m := by
  by_cases c : ∃ m, 0 ≤ m ∧ m < 12 ∧ mo m = (s.take 11).drop 8
  · obtain ⟨m, h0, h1, h2⟩ := c
    exact .inr ⟨m, h0, h1, h2, l103_16_yes (m0 := 0) hl h0 h1 h2⟩
  · left
    unfold l103_16
    refine iter_to (fun x => x.1 = s ∧ x.2.1 = -1 ∧ 0 ≤ x.2.2) (fun x => (12 - x.2.2).toNat) _ ?_ _ ⟨rfl, rfl, by dsimp only; omega⟩
    rintro ⟨s', m', q⟩ hI
    dsimp only at hI ⊢
    obtain ⟨rfl, rfl, a0⟩ := hI
    unfold s103_16 j103_30
    by_cases d : q < 12
    · left
      rw [if_pos (by simpa using d), m129_eq a0 d, hl]
      simp only [Option.bind_some, show bnd 11 29 = some 11 from rfl, show bnd 8 11 = some 8 from rfl]
      rw [w64_eq _ (by omega) (by omega)]
      exact ⟨(s', -1, q + 1), by rw [if_neg (by simpa using fun e => c ⟨q, a0, d, e⟩)], ⟨rfl, rfl, by dsimp only; omega⟩, by dsimp only; omega⟩
    · right
      rw [if_neg (by simpa using d)]
section
variable {c0 c1 c2 c3 c4 c5 c6 c7 c8 c9 c10 c11 c12 c13 c14 c15 c16 c17 c18 c19 c20 c21 c22 c23 c24 c25 c26 c27 c28 : UInt8}
    {s : Bs} (hs : s = [c0, c1, c2, c3, c4, c5, c6, c7, c8, c9, c10, c11, c12, c13, c14, c15, c16, c17, c18, c19, c20, c21, c22, c23, c24, c25, c26, c27, c28])
def nu2 (a b : UInt8) : Int := if isd a = true ∧ isd b = true then 10 * vl a + vl b else -1
def nu4 (a b c d : UInt8) : Int := if isd a = true ∧ isd b = true ∧ isd c = true ∧ isd d = true then 1000 * vl a + 100 * vl b + 10 * vl c + vl d else -1
theorem nu2_b (a b : UInt8) : nu2 a b ≤ 99 ∧ -1 ≤ nu2 a b := by
  have := vl_b a; have := vl_b b
  unfold nu2; split <;> omega
theorem nu4_b (a b c d : UInt8) : nu4 a b c d ≤ 9999 := by
  have := vl_b a; have := vl_b b; have := vl_b c; have := vl_b d
  unfold nu4; split <;> omega
theorem nu2_tw {a b : UInt8} (h : 0 ≤ nu2 a b) : tw (nu2 a b) = [a, b] := by
  have ha := vl_b a; have hb := vl_b b
  unfold nu2 at *
  split at h
  · rename_i g
    rw [if_pos g]
    unfold tw
    rw [show (10 * vl a + vl b) / 10 % 10 = vl a by omega, show (10 * vl a + vl b) % 10 = vl b by omega, (isd_v g.1).2, (isd_v g.2).2]
  · omega
theorem nu4_y4 {a b c d : UInt8} (h : 0 ≤ nu4 a b c d) : y4 (nu4 a b c d) = [a, b, c, d] := by
  have ha := vl_b a; have hb := vl_b b; have hc := vl_b c; have hd := vl_b d
  unfold nu4 at *
  split at h
  · rename_i g
    rw [if_pos g]
    unfold y4
    rw [show (1000 * vl a + 100 * vl b + 10 * vl c + vl d) / 1000 % 10 = vl a by omega, show (1000 * vl a + 100 * vl b + 10 * vl c + vl d) / 100 % 10 = vl b by omega, show (1000 * vl a + 100 * vl b + 10 * vl c + vl d) / 10 % 10 = vl c by omega, show (1000 * vl a + 100 * vl b + 10 * vl c + vl d) % 10 = vl d by omega, (isd_v g.1).2, (isd_v g.2.1).2, (isd_v g.2.2.1).2, (isd_v g.2.2.2).2]
  · omega
theorem nu2_dg {x : Int} (h0 : 0 ≤ x) (h1 : x < 100) : nu2 (dg (x / 10 % 10)) (dg (x % 10)) = x := by
  unfold nu2
  rw [if_pos ⟨isd_dg (by omega) (by omega), isd_dg (by omega) (by omega)⟩, vl_dg (by omega) (by omega), vl_dg (by omega) (by omega)]
  omega
theorem nu4_dg {x : Int} (h0 : 0 ≤ x) (h1 : x < 10000) : nu4 (dg (x / 1000 % 10)) (dg (x / 100 % 10)) (dg (x / 10 % 10)) (dg (x % 10)) = x := by
  unfold nu4
  rw [if_pos ⟨isd_dg (by omega) (by omega), isd_dg (by omega) (by omega), isd_dg (by omega) (by omega), isd_dg (by omega) (by omega)⟩, vl_dg (by omega) (by omega), vl_dg (by omega) (by omega), vl_dg (by omega) (by omega), vl_dg (by omega) (by omega)]
  omega
include hs in
theorem j103_31_eq (m : Int) (hm : m < 12) : j103_31 s m =
    if 0 ≤ m ∧ 1970 ≤ nu4 c12 c13 c14 c15 ∧ 1 ≤ nu2 c5 c6 ∧ nu2 c5 c6 ≤ md (lng (nu4 c12 c13 c14 c15)) m ∧ 0 ≤ nu2 c17 c18 ∧ nu2 c17 c18 ≤ 23 ∧ 0 ≤ nu2 c20 c21 ∧ nu2 c20 c21 ≤ 59 ∧ 0 ≤ nu2 c23 c24 ∧ nu2 c23 c24 ≤ 59 ∧
        wk ((ah (nu4 c12 c13 c14 c15) + cum (lng (nu4 c12 c13 c14 c15)) m + (nu2 c5 c6 - 1)) % 7) = [c0, c1, c2] then
      some (86400 * (ah (nu4 c12 c13 c14 c15) + cum (lng (nu4 c12 c13 c14 c15)) m + (nu2 c5 c6 - 1)) + secs (nu2 c17 c18) (nu2 c20 c21) (nu2 c23 c24), 0)
    else some (0, 5) := by
  have hl : s.length = 29 := by rw [hs]; rfl
  have x1 := m130_2 (s := s) 5 (by omega) (by omega)
  have x2 := m130_4 (s := s) 12 (by omega) (by omega)
  have x3 := m130_2 (s := s) 17 (by omega) (by omega)
  have x4 := m130_2 (s := s) 20 (by omega) (by omega)
  have x5 := m130_2 (s := s) 23 (by omega) (by omega)
  have y1 : m130 s 5 2 = some (nu2 c5 c6) := by rw [show ((5 : Nat) : Int) = 5 from rfl] at x1; rw [x1, hs]; rfl
  have y2 : m130 s 12 4 = some (nu4 c12 c13 c14 c15) := by rw [show ((12 : Nat) : Int) = 12 from rfl] at x2; rw [x2, hs]; rfl
  have y3 : m130 s 17 2 = some (nu2 c17 c18) := by rw [show ((17 : Nat) : Int) = 17 from rfl] at x3; rw [x3, hs]; rfl
  have y4 : m130 s 20 2 = some (nu2 c20 c21) := by rw [show ((20 : Nat) : Int) = 20 from rfl] at x4; rw [x4, hs]; rfl
  have y5 : m130 s 23 2 = some (nu2 c23 c24) := by rw [show ((23 : Nat) : Int) = 23 from rfl] at x5; rw [x5, hs]; rfl
  have b1 := nu2_b c5 c6; have b2 := nu2_b c17 c18; have b3 := nu2_b c20 c21; have b4 := nu2_b c23 c24; have b5 := nu4_b c12 c13 c14 c15
  have et : s.take 3 = [c0, c1, c2] := by rw [hs]; rfl
  unfold j103_31
  rw [y1, y2, y3, y4, y5]
  simp only [Option.bind_some]
  generalize nu4 c12 c13 c14 c15 = Y at *
  generalize nu2 c5 c6 = D at *
  generalize nu2 c17 c18 = H at *
  generalize nu2 c20 c21 = M at *
  generalize nu2 c23 c24 = S at *
  have hf : j103_38 s m D Y H M S true = some (0, 5) := rfl
  rw [hf]
  by_cases f1 : m < 0
  · rw [if_pos (by simpa using f1), if_neg (fun h => by omega)]
  rw [if_neg (by simpa using f1)]
  by_cases f2 : Y < 1970
  · rw [if_pos (by simpa using f2), if_neg (fun h => by omega)]
  rw [if_neg (by simpa using f2)]
  by_cases f3 : D < 1
  · rw [if_pos (by simpa using f3), if_neg (fun h => by omega)]
  rw [if_neg (by simpa using f3), m131_eq (by omega) (by omega) hm, Option.bind_some]
  by_cases f4 : md (lng Y) m < D
  · rw [if_pos (by simpa using f4), if_neg (fun h => by omega)]
  rw [if_neg (by simpa using f4)]
  by_cases f5 : H < 0
  · rw [if_pos (by simpa using f5), if_neg (fun h => by omega)]
  rw [if_neg (by simpa using f5)]
  by_cases f6 : 23 < H
  · rw [if_pos (by simpa using f6), if_neg (fun h => by omega)]
  rw [if_neg (by simpa using f6)]
  by_cases f7 : M < 0
  · rw [if_pos (by simpa using f7), if_neg (fun h => by omega)]
  rw [if_neg (by simpa using f7)]
  by_cases f8 : 59 < M
  · rw [if_pos (by simpa using f8), if_neg (fun h => by omega)]
  rw [if_neg (by simpa using f8)]
  by_cases f9 : S < 0
  · rw [if_pos (by simpa using f9), if_neg (fun h => by omega)]
  rw [if_neg (by simpa using f9)]
  unfold j103_38
  by_cases f10 : 59 < S
  · rw [if_pos (by simpa using f10), if_neg (fun h => by omega)]
  rw [if_neg (by simpa using f10)]
  have hb1 := ah_mono (a := 1970) (b := Y) (by omega)
  have hb2 := ah_mono (a := Y) (b := 10000) (by omega)
  have eb1 : ah 1970 = 0 := by decide
  have eb2 : ah 10000 = 2932897 := by decide
  have hc := cum_mono (lng Y) 0 m (by omega) (by omega) (by omega)
  have hc2 := cum_mono (lng Y) m 12 (by omega) (by omega) (by omega)
  have h12 := cum_12 (lng Y)
  have : cum (lng Y) 12 ≤ 366 := by rw [h12]; cases lng Y <;> simp
  rw [cum_0] at hc
  have hmd := md_pos (lng Y) (m := m) (by omega) hm
  rw [w64_eq _ (by omega) (by omega), wu64_eq _ (by omega) (by omega), l103_49_eq (by omega) (by omega) (by omega) (by omega)]
  unfold j103_66
  rw [l103_70_eq (by omega) (by omega) (by omega) (by omega) (by omega), j103_81_eq hl (by omega) (by omega) (by omega) (by omega) (by omega) (by omega) (by omega) (by omega), et, show D - 1 + ah Y + cum (lng Y) m = ah Y + cum (lng Y) m + (D - 1) by omega]
  by_cases g : wk ((ah Y + cum (lng Y) m + (D - 1)) % 7) = [c0, c1, c2]
  · rw [if_pos g, if_pos ⟨by omega, by omega, by omega, by omega, by omega, by omega, by omega, by omega, by omega, by omega, g⟩]
  · rw [if_neg g, if_neg (fun h => g h.2.2.2.2.2.2.2.2.2.2)]
include hs in
theorem m103_29 : m103 s = if c3 = 44 ∧ c4 = 32 ∧ c7 = 32 ∧ c11 = 32 ∧ c16 = 32 ∧ c19 = 58 ∧ c22 = 58 ∧ c25 = 32 ∧ c26 = 71 ∧ c27 = 77 ∧ c28 = 84 then l103_16 s (-1) 0 else some (0, 5) := by
  have hl : s.length = 29 := by rw [hs]; rfl
  have e1 : (s.take 5).drop 3 = [c3, c4] := by rw [hs]; rfl
  have e2 : s.drop 25 = [c25, c26, c27, c28] := by rw [hs]; rfl
  have e3 : s.getD 7 0 = c7 := by rw [hs]; rfl
  have e4 : s.getD 11 0 = c11 := by rw [hs]; rfl
  have e5 : s.getD 16 0 = c16 := by rw [hs]; rfl
  have e6 : s.getD 19 0 = c19 := by rw [hs]; rfl
  have e7 : s.getD 22 0 = c22 := by rw [hs]; rfl
  unfold m103
  have hf : j103_5 s true = some (0, 5) := rfl
  rw [if_pos (by simp [hl]), hl, e3, e4, e5, e6, e7, hf]
  simp only [show bnd 5 29 = some 5 from rfl, show bnd 3 5 = some 3 from rfl, show bnd 25 29 = some 25 from rfl, Option.bind_some, e1, e2]
  by_cases f1 : c3 = 44
  case neg => rw [if_neg (by simp [f1]), if_neg (fun h => f1 h.1)]
  by_cases f2 : c4 = 32
  case neg => rw [if_neg (by simp [f2]), if_neg (fun h => f2 h.2.1)]
  rw [if_pos (by simp [f1, f2]), if_pos (by decide)]
  by_cases f3 : c7 = 32
  case neg => rw [if_neg (by simp [f3]), if_neg (fun h => f3 h.2.2.1)]
  rw [if_pos (by simp [f3]), if_pos (by decide)]
  by_cases f4 : c11 = 32
  case neg => rw [if_neg (by simp [f4]), if_neg (fun h => f4 h.2.2.2.1)]
  rw [if_pos (by simp [f4]), if_pos (by decide)]
  by_cases f5 : c16 = 32
  case neg => rw [if_neg (by simp [f5]), if_neg (fun h => f5 h.2.2.2.2.1)]
  rw [if_pos (by simp [f5]), if_pos (by decide)]
  by_cases f6 : c19 = 58
  case neg => rw [if_neg (by simp [f6]), if_neg (fun h => f6 h.2.2.2.2.2.1)]
  rw [if_pos (by simp [f6]), if_pos (by decide)]
  by_cases f7 : c22 = 58
  case neg => rw [if_neg (by simp [f7]), if_neg (fun h => f7 h.2.2.2.2.2.2.1)]
  rw [if_pos (by simp [f7])]
  unfold j103_5
  by_cases f8 : c25 = 32 ∧ c26 = 71 ∧ c27 = 77 ∧ c28 = 84
  · rw [if_neg (by simp [f8.1, f8.2.1, f8.2.2.1, f8.2.2.2]), if_pos ⟨f1, f2, f3, f4, f5, f6, f7, f8⟩]
  · rw [if_pos (by simp only [Bool.not_eq_true', beq_eq_false_iff_ne, ne_eq, List.cons.injEq, and_true]; exact f8), if_neg (fun h => f8 h.2.2.2.2.2.2.2)]
end
theorem m103_ok (s : Bs) : m103 s = some (0, 5) ∨ ∃ n y m k, m103 s = some (n, 0) ∧ Dt (n / 86400) y m k ∧ s = txt (n / 86400) (n % 86400) y m k := by
  by_cases hl : s.length = 29
  case neg =>
    left
    unfold m103
    rw [if_neg (by simp; omega)]
    rfl
  obtain ⟨c0, c1, c2, c3, c4, c5, c6, c7, c8, c9, c10, c11, c12, c13, c14, c15, c16, c17, c18, c19, c20, c21, c22, c23, c24, c25, c26, c27, c28, hs⟩ := L29 hl
  rw [m103_29 hs]
  split
  case isFalse => exact .inl rfl
  rename_i hf
  have em : (s.take 11).drop 8 = [c8, c9, c10] := by rw [hs]; rfl
  rcases l103_16_any hl with e | ⟨m, h0, h1, h2, e⟩
  · rw [e, j103_31_eq hs _ (by decide), if_neg (fun h => by omega)]
    exact .inl rfl
  · rw [e, j103_31_eq hs _ h1]
    split
    case isFalse => exact .inl rfl
    rename_i g
    right
    obtain ⟨g0, g1, g2, g3, g4, g5, g6, g7, g8, g9, g10⟩ := g
    have z1 := nu2_tw (show 0 ≤ nu2 c5 c6 by omega)
    have z2 := nu4_y4 (show 0 ≤ nu4 c12 c13 c14 c15 by omega)
    have z3 := nu2_tw g4
    have z4 := nu2_tw g6
    have z5 := nu2_tw g8
    have b5 := nu4_b c12 c13 c14 c15
    generalize nu4 c12 c13 c14 c15 = Y at *
    generalize nu2 c5 c6 = D at *
    generalize nu2 c17 c18 = H at *
    generalize nu2 c20 c21 = M at *
    generalize nu2 c23 c24 = S at *
    have hd : Dt (ah Y + cum (lng Y) m + (D - 1)) Y m (D - 1) := ⟨g1, b5, h0, h1, by omega, by omega, rfl⟩
    generalize hX : ah Y + cum (lng Y) m + (D - 1) = d at *
    have q1 : (86400 * d + secs H M S) / 86400 = d := by unfold secs; omega
    have q2 : (86400 * d + secs H M S) % 86400 = secs H M S := by unfold secs; omega
    refine ⟨_, Y, m, D - 1, rfl, by rw [q1]; exact hd, ?_⟩
    rw [q1, q2]
    unfold txt
    rw [g10, h2, em, z2, show D - 1 + 1 = D by omega, z1, show secs H M S / 3600 = H by unfold secs; omega, show secs H M S / 60 % 60 = M by unfold secs; omega, show secs H M S % 60 = S by unfold secs; omega, z3, z4, z5, hs]
    obtain ⟨rfl, rfl, rfl, rfl, rfl, rfl, rfl, rfl, rfl, rfl, rfl⟩ := hf
    rfl
theorem m103_txt {n y m k : Int} (h : Dt (n / 86400) y m k) : m103 (txt (n / 86400) (n % 86400) y m k) = some (n, 0) := by
  have hr := h.range
  have hs0 : 0 ≤ n % 86400 := by omega
  have hs1 : n % 86400 < 86400 := by omega
  generalize hd : n / 86400 = d at *
  generalize hsd : n % 86400 = s at *
  obtain ⟨h1, h2, h3, h4, h5, h6, h7⟩ := h
  have hm := md_pos (lng y) h3 h4
  obtain ⟨w0, w1, w2, hw⟩ := wk_ex (q := d % 7) (by omega) (by omega)
  obtain ⟨m0, m1, m2, hm0, hix⟩ := mo_ix h3 h4
  have hz : txt d s y m k = [w0, w1, w2, 44, 32, dg ((k + 1) / 10 % 10), dg ((k + 1) % 10), 32, m0, m1, m2, 32, dg (y / 1000 % 10), dg (y / 100 % 10), dg (y / 10 % 10), dg (y % 10), 32, dg (s / 3600 / 10 % 10), dg (s / 3600 % 10), 58, dg (s / 60 % 60 / 10 % 10), dg (s / 60 % 60 % 10), 58, dg (s % 60 / 10 % 10), dg (s % 60 % 10), 32, 71, 77, 84] := by
    simp only [txt, hw, hm0, tw, y4, List.cons_append, List.nil_append]
  have hl : (txt d s y m k).length = 29 := by rw [hz]; rfl
  rw [m103_29 hz, if_pos ⟨rfl, rfl, rfl, rfl, rfl, rfl, rfl, rfl, rfl, rfl, rfl⟩, l103_16_yes (m0 := 0) hl h3 h4 (by rw [hz, hm0]; rfl), j103_31_eq hz _ h4]
  rw [nu4_dg (by omega) (by omega), nu2_dg (x := k + 1) (by omega) (by omega), nu2_dg (x := s / 3600) (by omega) (by omega), nu2_dg (x := s / 60 % 60) (by omega) (by omega), nu2_dg (x := s % 60) (by omega) (by omega)]
  have e : ah y + cum (lng y) m + (k + 1 - 1) = d := by omega
  rw [e, if_pos ⟨by omega, by omega, by omega, by omega, by omega, by omega, by omega, by omega, by omega, by omega, hw⟩]
  unfold secs
  rw [show 86400 * d + (3600 * (s / 3600) + 60 * (s / 60 % 60) + s % 60) = n by omega]
end Go.Ab
end
section
set_option linter.all false
open Go Go.Ab Go.Proofs Go.Proofs.YtbkobjepahlegaaGreatDoor
noncomputable def par (s : Bs) : Int × Int := (m103 s).getD (0, 5)
theorem par_ok (s : Bs) : m104 s = some (par s) ∧ m103 s = some (par s) ∧ 0 ≤ (par s).1 ∧ (par s).1 ≤ 253402300799 ∧ ((par s).2 = 0 ∨ (par s).2 = 5 ∧ (par s).1 = 0) := by
  unfold par
  have dto : ∀ {n : Int}, 0 ≤ n → m137 n = some (s, 0) → ∃ y m k, Dt (n / 86400) y m k ∧ s = txt (n / 86400) (n % 86400) y m k := by
    intro n h0 h
    rcases m137_any h0 with ⟨e, hb⟩ | ⟨y, m, k, hd, e⟩
    · rw [e] at h; simp at h
    · rw [e] at h
      simp only [Option.some.injEq, Prod.mk.injEq, and_true] at h
      exact ⟨y, m, k, hd, h.symm⟩
  have rg : ∀ {n y m k : Int}, Dt (n / 86400) y m k → 0 ≤ n ∧ n ≤ 253402300799 := by
    intro n y m k h
    have := h.range
    omega
  have mk : ∀ {a : Int × Int}, m104 s = some a → m103 s = some a → 0 ≤ a.1 → a.1 ≤ 253402300799 → (a.2 = 0 ∨ a.2 = 5 ∧ a.1 = 0) →
      m104 s = some ((m103 s).getD (0, 5)) ∧ m103 s = some ((m103 s).getD (0, 5)) ∧ 0 ≤ ((m103 s).getD (0, 5)).1 ∧ ((m103 s).getD (0, 5)).1 ≤ 253402300799 ∧ (((m103 s).getD (0, 5)).2 = 0 ∨ ((m103 s).getD (0, 5)).2 = 5 ∧ ((m103 s).getD (0, 5)).1 = 0) := by
    intro a h1 h2 h3 h4 h5
    rw [h1, h2]
    exact ⟨rfl, rfl, h3, h4, h5⟩
  rcases m104_ok s with e | ⟨n, e, h0, h8⟩
  · rcases m103_ok s with f | ⟨n, y, m, k, f, hd, hs⟩
    · exact mk e f (by decide) (by decide) (.inr ⟨rfl, rfl⟩)
    · have g := m104_txt hd
      rw [← hs, e] at g
      simp at g
  · obtain ⟨y, m, k, hd, hs⟩ := dto h0 h8
    have g := m103_txt hd
    rw [← hs] at g
    exact mk e g (rg hd).1 (rg hd).2 (.inl rfl)
end
section
set_option linter.all false
set_option maxRecDepth 100000
open Go Go.Ab Go.Proofs Go.Proofs.YtbkobjepahlegaaGreatDoor
abbrev lmB : Bs := [108, 97, 115, 116, 45, 109, 111, 100, 105, 102, 105, 101, 100]
theorem get_one {l : List (Bs × Bs)} {n : Bs} (h : (getL l n).length = 1) : ((getL l n).getD 0 default).length ≤ fsz l := by
  have h2 := getL_ssz l n
  cases hg : getL l n with
  | nil => rw [hg] at h; cases h
  | cons v r =>
    rw [hg] at h2
    simp only [ssz, List.map_cons, List.sum_cons] at h2
    show v.length ≤ _
    omega
end
section
set_option linter.all false
set_option maxRecDepth 100000
open Go Go.Ab Go.Proofs Go.Proofs.YtbkobjepahlegaaGreatDoor
def u64 (x : Int) : Prop := 0 ≤ x ∧ x < 18446744073709551616
theorem mm {a : Int} (h : 0 ≤ a) : 0 ≤ min2 a 2147483648000 ∧ min2 a 2147483648000 ≤ 2147483648000 := by unfold min2; split <;> omega
end
section
set_option linter.all false
set_option maxRecDepth 100000
open Go Go.Ab Go.Proofs Go.Proofs.YtbkobjepahlegaaGreatDoor
def badB (c : UInt8) : Bool := decide (c < 33) || (c == 34 || c == 127)
theorem m119_eq : ∀ c, m119 c = some (badB c) := byAll (by decide +kernel)
theorem m147_eq (b : Bool) (L : List UInt8) (hL : L.length < 2 ^ 60) : ∃ r, m147 b L = some r ∧ decide (0 ≤ r) = L.any badB := by
  refine iter_post (fun s => ∃ i : Nat, s = (b, L, (L.length : Int), (i : Int)) ∧ i ≤ L.length ∧ (L.any badB) = ((L.drop i).any badB)) (fun s => L.length + 1 - s.2.2.2.toNat) _ ?_ _ ⟨0, rfl, by omega, by simp⟩
  rintro s ⟨i, rfl, hi, ha⟩
  by_cases h : i < L.length
  · have e1 : (L.getD i default) = L[i] := by simp [List.getD_eq_getElem?_getD, h]
    have ha' := ha
    rw [List.drop_eq_getElem_cons h, List.any_cons] at ha'
    simp only [s147_6, Int.toNat_natCast, e1]
    rw [if_pos (by simpa using h), if_pos ⟨by omega, by omega⟩, m119_eq, Option.bind_some, w64_eq _ (by omega) (by omega)]
    cases c : badB L[i] with
    | true =>
      right
      rw [if_pos rfl]
      refine ⟨_, rfl, ?_⟩
      rw [ha', c]
      simp
    | false =>
      left
      rw [if_neg (by simp)]
      refine ⟨_, rfl, ⟨i + 1, rfl, by omega, ?_⟩, ?_⟩
      · rw [ha', c, Bool.false_or]
      · show L.length + 1 - ((i : Int) + 1).toNat < L.length + 1 - (i : Int).toNat
        omega
  · right
    obtain rfl : i = L.length := by omega
    simp only [s147_6, j147_25]
    rw [if_neg (by simp)]
    refine ⟨-1, rfl, ?_⟩
    rw [ha, List.drop_length]
    rfl
theorem m120_eq (b : Bool) (L : List UInt8) (hL : L.length < 2 ^ 60) : m120 b L = some (L.any badB) := by
  obtain ⟨r, h1, h2⟩ := m147_eq b L hL
  simp only [m120, h1, Option.bind_some, h2]
def tagAt (s : Bs) (a : Nat) : Bool := decide (a + 2 ≤ s.length) && (s.getD a 0 == 34 && (s.getD (s.length - 1) 0 == 34 && !((s.take (s.length - 1)).drop (a + 1)).any badB))
def tagP (s : Bs) : Bool := decide (2 ≤ s.length) && (s.getD 0 0 == 87 && s.getD 1 0 == 47)
def tagB (s : Bs) : Bool := tagAt s (if tagP s = true then 2 else 0)
theorem w64_id {x : Int} (h0 : -9223372036854775808 ≤ x) (h1 : x < 9223372036854775808) : w64 x = x := by rw [w64m]; omega
theorem bnd_n (i n : Nat) (h : i ≤ n) : bnd (i : Int) n = some i := by
  unfold bnd
  rw [if_pos ⟨by omega, by omega⟩]
  simp
end
section
set_option linter.all false
set_option maxRecDepth 100000
open Go Go.Ab Go.Proofs Go.Proofs.YtbkobjepahlegaaGreatDoor
def tagU (u : Bs) : Bool := decide (2 ≤ u.length) && (u.getD 0 0 == 34 && (u.getD (u.length - 1) 0 == 34 && !((u.take (u.length - 1)).drop 1).any badB))
theorem tagU_0 (s : Bs) : tagAt s 0 = tagU s := rfl
theorem tagU_2 (a b : UInt8) (t : Bs) : tagAt (a :: b :: t) 2 = tagU t := by
  cases t with
  | nil => rfl
  | cons c t =>
    have e : (a :: b :: c :: t).length - 1 = ((c :: t).length - 1) + 2 := by simp only [List.length_cons]; omega
    have e1 : decide (2 + 2 ≤ (a :: b :: c :: t).length) = decide (2 ≤ (c :: t).length) := by
      have : (2 + 2 ≤ (a :: b :: c :: t).length) = (2 ≤ (c :: t).length) := by simp only [List.length_cons]; exact propext ⟨fun h => by omega, fun h => by omega⟩
      simp only [this]
    unfold tagAt tagU
    rw [e, e1]
    rfl
theorem m118_eq (s : Bs) (hl : s.length < 2 ^ 60) : m118 s [87, 47] = some (if tagP s = true then s.drop 2 else s) := by
  match s with
  | [] => rfl
  | [a] => rfl
  | a :: b :: t =>
    have e : bnd ((([87, 47] : Bs).length : Nat) : Int) (a :: b :: t).length = some 2 := bnd_n 2 _ (by simp)
    have ht : tagP (a :: b :: t) = (a == 87 && b == 47) := by simp [tagP]
    have e2 : ((a :: b :: t).take 2 == ([87, 47] : Bs)) = (a == 87 && b == 47) := by
      show ([a, b] == ([87, 47] : Bs)) = _
      simp [List.cons_beq_cons]
    unfold m118 m146 m167
    rw [if_pos (by simp; omega), e]
    simp only [Option.bind_some, e2, ht]
    by_cases c : (a == 87 && b == 47) = true
    · simp only [c, if_true, Option.bind_some]
    · simp only [c, if_false, Option.bind_some, Bool.false_eq_true]
theorem m72_eq (s : Bs) (hl : s.length < 2 ^ 60) : m72 s = some (tagB s) := by
  have key : ∀ u : Bs, u.length < 2 ^ 60 →
      (if (decide ((u.length : Int) < 2)) = true then j72_7 u true
      else if (0 : Int) < (u.length : Int) then
          if ((u.getD 0 0) == (34 : UInt8)) = true then
            if 0 ≤ (w64 ((u.length : Int) - 1)) ∧ (w64 ((u.length : Int) - 1)) < (u.length : Int) then
              j72_7 u (!((u.getD (w64 ((u.length : Int) - 1)).toNat 0) == (34 : UInt8)))
            else none
          else j72_7 u true
        else none) = some (tagU u) := by
    intro u hu
    by_cases h2 : u.length < 2
    · rw [if_pos (by simp; omega)]
      unfold j72_7 tagU
      rw [if_pos rfl, show decide (2 ≤ u.length) = false from by simp; omega]
      rfl
    · rw [if_neg (by simp; omega), if_pos (by omega), w64_id (by omega) (by omega)]
      have e0 : decide (2 ≤ u.length) = true := by simp; omega
      have et : ((u.length : Int) - 1).toNat = u.length - 1 := by omega
      have ei : ((u.length : Int) - 1) = ((u.length - 1 : Nat) : Int) := by omega
      unfold tagU
      rw [e0, Bool.true_and]
      cases c : (u.getD 0 0 == (34 : UInt8)) with
      | false => rw [if_neg (by decide)]; unfold j72_7; rw [if_pos rfl]; rfl
      | true =>
        rw [if_pos rfl, if_pos ⟨by omega, by omega⟩, et, Bool.true_and]
        unfold j72_7
        cases d : (u.getD (u.length - 1) 0 == (34 : UInt8)) with
        | false => rfl
        | true =>
          rw [if_neg (by decide), w64_id (by omega) (by omega), ei, bnd_n _ _ (by omega), Option.bind_some, show (1 : Int) = ((1 : Nat) : Int) from rfl, bnd_n 1 _ (by omega), Option.bind_some,
            m120_eq _ _ (by rw [List.length_drop, List.length_take]; omega), Option.bind_some, Bool.true_and]
  unfold m72
  rw [m118_eq s hl, Option.bind_some, key _ (by split <;> (try rw [List.length_drop]) <;> omega)]
  unfold tagB
  by_cases c : tagP s = true
  · rw [if_pos c, if_pos c]
    match s, c with
    | a :: b :: t, _ => rw [tagU_2]; rfl
  · rw [if_neg c, if_neg c, tagU_0]
end
section
set_option linter.all false
set_option maxRecDepth 100000
open Go Go.Ab Go.Proofs Go.Proofs.YtbkobjepahlegaaGreatDoor
def etB : Bs := [101, 116, 97, 103]
noncomputable def oneL (l : List (Bs × Bs)) (n : Bs) : Bs := if (getL l n).length = 1 then (getL l n).getD 0 default else []
theorem one_len (l : List (Bs × Bs)) (n : Bs) : (oneL l n).length ≤ fsz l := by
  unfold oneL
  split
  · rename_i h; exact get_one h
  · exact Nat.zero_le _
theorem m71_eq (b : Bool) (l : List (Bs × Bs)) (n : Bs) (hs : fsz l < 2 ^ 30) (hn : n.length < 2 ^ 30) : m71 b l n = some (oneL l n) := by
  obtain ⟨z, e⟩ := m29_eq b l n hs hn
  unfold m71 oneL
  rw [e, Option.bind_some]
  by_cases h : (getL l n).length = 1
  · rw [if_pos (by simp [h]), if_pos (by simp only; omega), if_pos h]
  · rw [if_neg (by simp; omega), if_neg h]
noncomputable def tagL (l : List (Bs × Bs)) : Bs × Bool := if tagB (oneL l etB) = true then (oneL l etB, true) else ([], false)
theorem m28_eq (b : Bool) (l : List (Bs × Bs)) (hs : fsz l < 2 ^ 30) : m28 b l = some (tagL l) := by
  have h1 := one_len l etB
  unfold m28 tagL
  rw [show ([101, 116, 97, 103] : Bs) = etB from rfl, m71_eq b l etB hs (by decide), Option.bind_some, m72_eq _ (by omega), Option.bind_some]
  by_cases c : tagB (oneL l etB) = true
  · rw [if_pos c, if_pos c]
  · rw [if_neg c, if_neg c]
noncomputable def chgL (l : List (Bs × Bs)) : Bs × Bool := (oneL l lmB, (par (oneL l lmB)).2 == 0)
theorem m54_eq (b : Bool) (l : List (Bs × Bs)) (hs : fsz l < 2 ^ 30) : m54 b l = some (chgL l) := by
  unfold m54 chgL
  rw [show ([108, 97, 115, 116, 45, 109, 111, 100, 105, 102, 105, 101, 100] : Bs) = lmB from rfl, m71_eq b l lmB hs (by decide), Option.bind_some, (par_ok _).1, Option.bind_some]
theorem par_nil : par [] = (0, 5) := by
  have h := (par_ok []).1
  have e : m104 [] = some (0, 5) := rfl
  rw [e] at h
  exact (Option.some.inj h).symm
end
section
set_option linter.all false
set_option maxRecDepth 100000
open Go Go.Ab Go.Proofs Go.Proofs.YtbkobjepahlegaaGreatDoor
end
section
set_option linter.all false
set_option maxRecDepth 100000
open Go Go.Ab Go.Proofs Go.Proofs.YtbkobjepahlegaaGreatDoor
def RU (R : Ctl) (life age : Int) (x0 x1 x2 x3 x4 x5 : Bool) (x6 x7 x8 x9 : Int) : Prop := x1 = false ∧ R.2.1 = false ∧ (x6 < 0 ∨ age ≤ x6) ∧ (x8 < 0 ∨ age + x8 ≤ life) ∧ (age < life ∨ 0 ≤ x9 ∧ age ≤ life + x9 ∧ R.2.2.2.2.1 = false ∧ R.2.2.2.2.2.2.2.1 < 0)
instance {R : Ctl} {life age : Int} {x0 x1 x2 x3 x4 x5 : Bool} {x6 x7 x8 x9 : Int} : Decidable (RU R life age x0 x1 x2 x3 x4 x5 x6 x7 x8 x9) := by unfold RU; infer_instance
end
section
set_option linter.all false
set_option maxRecDepth 100000
open Go Go.Ab Go.Proofs Go.Proofs.YtbkobjepahlegaaGreatDoor
end
section
set_option linter.all false
set_option maxRecDepth 100000
open Go Go.Ab Go.Proofs Go.Proofs.YtbkobjepahlegaaGreatDoor
def inN (L : List Bs) (x : Bs) : Bool := L.any fun n => lowL x == lowL n
theorem m123_eq (b : Bool) (L : List Bs) (x y : Bs) (hL : L.length < 2 ^ 60) (hN : ∀ n ∈ L, n.length < 2 ^ 60) (hx : x.length < 2 ^ 60) : ∃ r, m123 b L x y = some (r, x, y) ∧ decide (0 ≤ r) = inN L x := by
  have main : ∃ z : Int × Bs × Bs, m123 b L x y = some z ∧ (z.2 = (x, y) ∧ decide (0 ≤ z.1) = inN L x) := by
    refine iter_post (fun s => ∃ i : Nat, s = (b, L, (L.length : Int), (i : Int), x, y) ∧ i ≤ L.length ∧ inN L x = ((L.drop i).any fun n => lowL x == lowL n)) (fun s => L.length + 1 - s.2.2.2.1.toNat) _ ?_ _ ⟨0, rfl, by omega, by simp [inN]⟩
    rintro s ⟨i, rfl, hi, ha⟩
    by_cases h : i < L.length
    · have e1 : (L.getD i default) = L[i] := by simp [List.getD_eq_getElem?_getD, h]
      have ha' := ha
      rw [List.drop_eq_getElem_cons h, List.any_cons] at ha'
      simp only [s123_6, Int.toNat_natCast, e1]
      rw [if_pos (by simpa using h), if_pos ⟨by omega, by omega⟩, m80, m73_eq x L[i] hx (hN _ (List.getElem_mem h)), Option.bind_some, Option.bind_some, w64_eq _ (by omega) (by omega)]
      cases c : (lowL x == lowL L[i]) with
      | true =>
        right
        rw [if_pos rfl]
        refine ⟨_, rfl, rfl, ?_⟩
        rw [ha', c]
        simp
      | false =>
        left
        rw [if_neg (by simp)]
        refine ⟨_, rfl, ⟨i + 1, rfl, by omega, ?_⟩, ?_⟩
        · rw [ha', c, Bool.false_or]
        · show L.length + 1 - ((i : Int) + 1).toNat < L.length + 1 - (i : Int).toNat
          omega
    · right
      obtain rfl : i = L.length := by omega
      simp only [s123_6, j123_25]
      rw [if_neg (by simp)]
      refine ⟨_, rfl, rfl, ?_⟩
      rw [ha, List.drop_length]
      rfl
  obtain ⟨⟨r, q⟩, h1, h2, h3⟩ := main
  obtain rfl : q = (x, y) := h2
  exact ⟨r, h1, h3⟩
theorem m78_eq (x y : Bs) (b : Bool) (L : List Bs) (hL : L.length < 2 ^ 60) (hN : ∀ n ∈ L, n.length < 2 ^ 60) (hx : x.length < 2 ^ 60) : m78 x y b L = some (inN L x, b, L) := by
  obtain ⟨r, h1, h2⟩ := m123_eq b L x y hL hN hx
  simp only [m78, m79, h1, Option.bind_some, h2]
section
variable {l : List (Bs × Bs)} {L : List Bs} (hl : l.length < 2 ^ 60) (hL : L.length < 2 ^ 60) (hN : ∀ n ∈ L, n.length < 2 ^ 60) (hx : ∀ f ∈ l, f.1.length < 2 ^ 60)
include hl hL hN hx
theorem m122b_eq (b : Bool) : ∃ r, m122b l.length l b L = some (r, l, b, L) ∧ ((r = -1 ∧ ∀ f ∈ l, inN L f.1 = false) ∨ ∃ i : Nat, r = i ∧ i < l.length ∧ inN L (l.getD i default).1 = true ∧ ∀ f ∈ l.take i, inN L f.1 = false) := by
  have main : ∃ z : Int × List (Bs × Bs) × Bool × List Bs, m122b l.length l b L = some z ∧ (z.2 = (l, b, L) ∧ ((z.1 = -1 ∧ ∀ f ∈ l, inN L f.1 = false) ∨ ∃ i : Nat, z.1 = i ∧ i < l.length ∧ inN L (l.getD i default).1 = true ∧ ∀ f ∈ l.take i, inN L f.1 = false)) := by
    refine iter_post (fun s => ∃ i : Nat, s = (l.length, (l.length : Int), (i : Int), l, b, L) ∧ i ≤ l.length ∧ ∀ f ∈ l.take i, inN L f.1 = false) (fun s => l.length + 1 - s.2.2.1.toNat) _ ?_ _ ⟨0, rfl, by omega, by simp⟩
    rintro s ⟨i, rfl, hi, ha⟩
    by_cases h : i < l.length
    · have e1 : (l.getD i default) = l[i] := by simp [List.getD_eq_getElem?_getD, h]
      simp only [s122b_6, Int.toNat_natCast]
      rw [if_pos (by simpa using h), if_pos ⟨by omega, by omega⟩, if_pos h, m78_eq _ _ b L hL hN (by rw [e1]; exact hx _ (List.getElem_mem h)), Option.bind_some, w64_eq _ (by omega) (by omega)]
      cases c : inN L (l.getD i default).1 with
      | true =>
        right
        rw [if_pos rfl]
        exact ⟨_, rfl, rfl, Or.inr ⟨i, rfl, h, c, ha⟩⟩
      | false =>
        left
        rw [if_neg (by simp)]
        refine ⟨_, rfl, ⟨i + 1, rfl, by omega, ?_⟩, ?_⟩
        · intro f hf
          rw [List.take_succ_eq_append_getElem h, List.mem_append, List.mem_singleton] at hf
          rcases hf with hf | rfl
          · exact ha f hf
          · rw [← e1]; exact c
        · show l.length + 1 - ((i : Int) + 1).toNat < l.length + 1 - (i : Int).toNat
          omega
    · right
      obtain rfl : i = l.length := by omega
      simp only [s122b_6, j122b_25]
      rw [if_neg (by simp)]
      refine ⟨_, rfl, rfl, Or.inl ⟨rfl, ?_⟩⟩
      rwa [List.take_length] at ha
  obtain ⟨⟨r, q⟩, h1, h2, h3⟩ := main
  obtain rfl : q = (l, b, L) := h2
  exact ⟨r, h1, h3⟩
theorem m76b_eq (b : Bool) : ∃ k h, m76b l.length l b L = some (k, h, b, L) ∧ k ≤ h.length ∧ h.take k = l.filter fun f => !inN L f.1 := by
  obtain ⟨r, e, hr⟩ := m122b_eq hl hL hN hx b
  unfold m76b
  rw [e, Option.bind_some]
  rcases hr with ⟨rfl, hr⟩ | ⟨i, rfl, hi, hp, ht⟩
  · refine ⟨l.length, l, if_pos rfl, Nat.le_refl _, ?_⟩
    rw [List.take_length, List.filter_eq_self.2]
    intro f hf; rw [hr f hf]; rfl
  · rw [if_neg (by simp), w64_eq _ (by omega) (by omega)]
    have main : ∃ z : Nat × List (Bs × Bs) × Bool × List Bs, l76b_16 l.length (i : Int) ((i : Int) + 1) l b L = some z ∧ (z.2.2 = (b, L) ∧ z.1 ≤ z.2.1.length ∧ z.2.1.take z.1 = l.filter fun f => !inN L f.1) := by
      refine iter_post (fun s => ∃ (i j : Nat) (h : List (Bs × Bs)), s = (l.length, (i : Int), (j : Int), h, b, L) ∧ i ≤ j ∧ j ≤ l.length ∧ h.length = l.length ∧ h.take i = (l.take j).filter (fun f => !inN L f.1) ∧ h.drop j = l.drop j) (fun s => l.length + 1 - s.2.2.1.toNat) _ ?_ _ ⟨i, i + 1, l, rfl, by omega, by omega, rfl, ?_, rfl⟩
      · rintro s ⟨i, j, h, rfl, hij, hj, hh, h1, h2⟩
        by_cases c : j < l.length
        · have e1 : (h.getD j default) = l[j] := by
            have : h[j]? = l[j]? := by
              have := congrArg (fun x : List (Bs × Bs) => x[0]?) h2
              simpa using this
            rw [List.getD_eq_getElem?_getD, this, List.getElem?_eq_getElem c]; rfl
          have hd : h.drop (j + 1) = l.drop (j + 1) := by
            have := congrArg (List.drop 1) h2
            rwa [List.drop_drop, List.drop_drop] at this
          simp only [s76b_16, Int.toNat_natCast, e1]
          rw [if_pos (by simpa using c), if_pos ⟨by omega, by omega⟩, if_pos (by omega), m78_eq _ _ b L hL hN (hx _ (List.getElem_mem c)), Option.bind_some]
          left
          cases q : inN L l[j].1 with
          | true =>
            rw [if_pos rfl]
            refine ⟨_, rfl, ⟨i, j + 1, h, ?_, by omega, by omega, hh, ?_, hd⟩, ?_⟩
            · rw [w64_eq _ (by omega) (by omega)]; rfl
            · rw [h1, List.take_succ_eq_append_getElem c, List.filter_append]; simp [q]
            · show l.length + 1 - (w64 ((j : Int) + 1)).toNat < l.length + 1 - (j : Int).toNat
              rw [w64_eq _ (by omega) (by omega)]; omega
          | false =>
            rw [if_neg (by simp), if_pos ⟨by omega, by omega⟩, if_pos (by omega)]
            refine ⟨_, rfl, ⟨i + 1, j + 1, h.set i l[j], ?_, by omega, by omega, by rw [List.length_set, hh], ?_, ?_⟩, ?_⟩
            · rw [w64_eq _ (by omega) (by omega), w64_eq _ (by omega) (by omega)]; rfl
            · rw [List.take_succ_eq_append_getElem (by rw [List.length_set]; omega), List.take_set_of_le (by omega), List.getElem_set_self, h1, List.take_succ_eq_append_getElem c, List.filter_append]; simp [q]
            · rw [List.drop_set_of_lt (by omega), hd]
            · show l.length + 1 - (w64 ((j : Int) + 1)).toNat < l.length + 1 - (j : Int).toNat
              rw [w64_eq _ (by omega) (by omega)]; omega
        · right
          obtain rfl : j = l.length := by omega
          simp only [s76b_16, j76b_35]
          rw [if_neg (by simp), bnd_n i l.length (by omega), Option.bind_some, if_pos (by omega)]
          refine ⟨_, rfl, rfl, ?_, ?_⟩
          · simp only [List.length_append, List.length_take]; omega
          · rw [List.take_length] at h1
            show List.take i (List.take i h ++ _) = _
            rw [List.take_append_of_le_length (by rw [List.length_take]; omega), List.take_of_length_le (by rw [List.length_take]; omega), h1]
      · have e1 : (l.getD i default) = l[i] := by simp [List.getD_eq_getElem?_getD, hi]
        rw [e1] at hp
        rw [List.take_succ_eq_append_getElem hi, List.filter_append, List.filter_eq_self.2]
        · simp [hp]
        · intro f hf; rw [ht f hf]; rfl
    obtain ⟨⟨k, h, q⟩, g1, g2, g3⟩ := main
    obtain rfl : q = (b, L) := g2
    exact ⟨k, h, g1, g3⟩
end
theorem fst_len {l : List (Bs × Bs)} (hs : fsz l < 2 ^ 30) : ∀ f ∈ l, f.1.length < 2 ^ 60 := fun f hf => by have := fsz_mem hf; omega
theorem m37_eq (b : Bool) (l : List (Bs × Bs)) (z : Bool) (L : List Bs) (hb : b = true → l = []) (hs : fsz l < 2 ^ 30) (hL : L.length < 2 ^ 60) (hN : ∀ n ∈ L, n.length < 2 ^ 60) : m37 b l z L = some (b, l.filter fun f => !inN L f.1) := by
  have hl := fsz_len l
  unfold m37 m77
  cases b with
  | true =>
    obtain rfl := hb rfl
    rw [if_pos rfl, Option.bind_some]
    simp only [m76, show m122 z L = some (-1, z, L) from iter_r rfl, Option.bind_some]
    rfl
  | false =>
    rw [if_neg (by simp)]
    by_cases h : l.isEmpty = true
    · obtain rfl : l = [] := by cases l with | nil => rfl | cons => cases h
      rw [if_pos (show (([] : List (Bs × Bs)).isEmpty) = true from rfl), Option.bind_some]
      simp only [m76a, show m122a z L = some (-1, z, L) from iter_r rfl, Option.bind_some]
      rfl
    · rw [if_neg h, if_pos (by omega), Option.bind_some]
      obtain ⟨k, g, e, h1, h2⟩ := m76b_eq (l := l) (L := L) (by omega) hL hN (fst_len hs) z
      simp only [e, Option.bind_some]
      rw [if_pos h1, h2]
theorem m58_eq (b : Bool) (l : List (Bs × Bs)) (z : Bool) (L : List Bs) (hb : b = true → l = []) (hs : fsz l < 2 ^ 30) (hL : L.length < 2 ^ 60) (hN : ∀ n ∈ L, n.length < 2 ^ 60) : m58 b l z L = some (l.any fun f => inN L f.1) := by
  unfold m58
  rw [m37_eq b l z L hb hs hL hN, Option.bind_some]
  refine congrArg some (Bool.eq_iff_iff.2 ?_)
  rw [decide_eq_true_eq, Int.ofNat_lt, List.length_filter_lt_length_iff_exists, List.any_eq_true]
  simp
end
section
set_option linter.all false
set_option maxRecDepth 100000
open Go Go.Ab Go.Proofs Go.Proofs.YtbkobjepahlegaaGreatDoor
def plainN : List Bs := [[105, 102, 45, 109, 97, 116, 99, 104], [105, 102, 45, 110, 111, 110, 101, 45, 109, 97, 116, 99, 104], [105, 102, 45, 109, 111, 100, 105, 102, 105, 101, 100, 45, 115, 105, 110, 99, 101], [105, 102, 45, 117, 110, 109, 111, 100, 105, 102, 105, 101, 100, 45, 115, 105, 110, 99, 101], [105, 102, 45, 114, 97, 110, 103, 101], [114, 97, 110, 103, 101], [99, 111, 110, 116, 101, 110, 116, 45, 108, 101, 110, 103, 116, 104], [116, 114, 97, 110, 115, 102, 101, 114, 45, 101, 110, 99, 111, 100, 105, 110, 103]]
def plainL (l : List (Bs × Bs)) : Bool := !(l.any fun f => inN plainN f.1)
theorem plainN_s : ∀ n ∈ plainN, n.length < 2 ^ 30 := by decide
theorem m30_eq (b : Bool) (l : List (Bs × Bs)) (hb : b = true → l = []) (hs : fsz l < 2 ^ 30) : m30 b l = some (plainL l) := by
  show (m58 b l false plainN).bind _ = _
  rw [m58_eq b l false plainN hb hs (by decide) (fun n hn => Nat.lt_trans (plainN_s n hn) (by decide))]; rfl
end
section
set_option linter.all false
set_option maxRecDepth 100000
open Go Go.Ab Go.Proofs Go.Proofs.YtbkobjepahlegaaGreatDoor
def inmB : Bs := [73, 102, 45, 78, 111, 110, 101, 45, 77, 97, 116, 99, 104]
def imsB : Bs := [73, 102, 45, 77, 111, 100, 105, 102, 105, 101, 100, 45, 83, 105, 110, 99, 101]
theorem get_sing {l : List (Bs × Bs)} {n : Bs} (h : (getL l n).length = 1) : getL l n = [oneL l n] := by
  unfold oneL; rw [if_pos h]
  cases e : getL l n with
  | nil => rw [e] at h; cases h
  | cons a t =>
    rw [e] at h
    cases t with
    | nil => rfl
    | cons => simp at h
theorem tag_get {l : List (Bs × Bs)} (h : (tagL l).2 = true) : getL l etB = [(tagL l).1] := by
  unfold tagL at h ⊢
  by_cases c : tagB (oneL l etB) = true
  · rw [if_pos c]
    by_cases q : (getL l etB).length = 1
    · exact get_sing q
    · have ho : oneL l etB = [] := by unfold oneL; rw [if_neg q]
      rw [ho] at c; exact absurd c (by decide)
  · rw [if_neg c] at h; cases h
theorem chg_get {l : List (Bs × Bs)} (h : (chgL l).2 = true) : getL l lmB = [(chgL l).1] := by
  unfold chgL at h ⊢
  by_cases q : (getL l lmB).length = 1
  · exact get_sing q
  · have ho : oneL l lmB = [] := by unfold oneL; rw [if_neg q]
    rw [ho, par_nil] at h; exact absurd h (by decide)
theorem tag_len (l : List (Bs × Bs)) : (tagL l).1.length ≤ fsz l := by
  unfold tagL; split
  · exact one_len l etB
  · exact Nat.zero_le _
theorem chg_len (l : List (Bs × Bs)) : (chgL l).1.length ≤ fsz l := one_len l lmB
theorem J25 (u : Bs) (asked came : Int) (cb : Bool) (cl : List (Bs × Bs)) (st : Int) (r : Bs) (mi : Int) (b : Bool) (l : List (Bs × Bs)) (c : Bool) (bo : List UInt8) (qm qu : Bs) (qi : Int) (qb : Bool) (ql : List (Bs × Bs)) (qc : Bool) (qo : List UInt8) (z : Bool) (L : List (Bs × Bs)) (i : Nat) (n v : Bs) (h : L[i]? = some (n, v)) (h2 : i < 2) (hs : fsz l < 2 ^ 30)
    (hn : n = inmB ∧ getL l etB = [v] ∨ n = imsB ∧ getL l lmB = [v]) (hd : i = 1 → (n == (L.getD 0 default).1) = false) :
    j7_25 z L (i : Int) u asked came cb cl st r mi b l c bo qm qu qi qb ql qc qo = some (.inl (z, L, ((i + 1 : Nat) : Int), u, asked, came, cb, cl, st, r, mi, b, l, c, bo, qm, qu, qi, qb, ql, qc, qo)) := by
  obtain ⟨hi, he⟩ := List.getElem?_eq_some_iff.1 h
  have e1 : L.getD i default = (n, v) := by rw [List.getD_eq_getElem?_getD, h]; rfl
  have go : ∀ nm, nm.length < 2 ^ 30 → getL l nm = [v] → j7_35 z L (i : Int) nm u asked came cb cl st r mi b l c bo qm qu qi qb ql qc qo = some (.inl (z, L, ((i + 1 : Nat) : Int), u, asked, came, cb, cl, st, r, mi, b, l, c, bo, qm, qu, qi, qb, ql, qc, qo)) := by
    intro nm hl hg
    have fin : j7_39 z L (i : Int) false u asked came cb cl st r mi b l c bo qm qu qi qb ql qc qo = some (.inl (z, L, ((i + 1 : Nat) : Int), u, asked, came, cb, cl, st, r, mi, b, l, c, bo, qm, qu, qi, qb, ql, qc, qo)) := by
      simp only [j7_39, j7_44]
      rw [if_neg (by simp), w64_eq _ (by omega) (by omega)]; rfl
    obtain ⟨y, e⟩ := m29_eq b l nm hs hl
    simp only [j7_35, e, Option.bind_some, hg, Int.toNat_natCast, e1]
    rw [if_pos (by rfl), if_pos (by simp), if_pos ⟨by omega, by omega⟩, if_pos (by simp)]
    by_cases c1 : i = 1
    · have c2 := hd c1
      rw [if_pos (by simp [c1]), if_pos (by omega), c2]; exact fin
    · rw [if_neg (by simp; omega)]; exact fin
  simp only [j7_25, Int.toNat_natCast, e1]
  rw [if_pos ⟨by omega, by omega⟩]
  rcases hn with ⟨rfl, hg⟩ | ⟨rfl, hg⟩
  · rw [if_neg (by decide)]; exact go etB (by decide) hg
  · rw [if_pos (by decide)]; exact go lmB (by decide) hg
theorem plain_no (a L : List (Bs × Bs)) (n v : Bs) (h : L[0]? = some (n, v)) (hn : n = inmB ∨ n = imsB) : plainL (a ++ L) = false := by
  have : inN plainN n = true := by rcases hn with rfl | rfl <;> decide +kernel
  unfold plainL
  rw [List.any_append]
  cases L with
  | nil => cases h
  | cons f L =>
    obtain rfl : f = (n, v) := by simpa using h
    rw [List.any_cons, this]; simp
theorem J45 (qm qu : Bs) (qi : Int) (qb : Bool) (ql : List (Bs × Bs)) (qc : Bool) (qo : List UInt8) (z : Bool) (L : List (Bs × Bs)) (hq : fsz ql < 2 ^ 29) (hL : fsz L < 2 ^ 28) (h : L = [] ∨ ∃ n v, L[0]? = some (n, v) ∧ (n = inmB ∨ n = imsB)) : j7_45 z L qm qu qi qb ql qc qo = some true := by
  have h1 := fsz_len ql
  have h2 := fsz_len L
  unfold j7_45
  rcases h with rfl | ⟨n, v, h, hn⟩
  · by_cases hi : ql.isEmpty = true
    · rw [if_pos hi]; rfl
    · rw [if_neg hi, if_pos (by omega), if_pos (Or.inl rfl)]; rfl
  · have h0 : 0 < L.length := (List.getElem?_eq_some_iff.1 h).1
    have ap : ∀ a, fsz (a ++ L) = fsz a + fsz L := fun a => by simp [fsz]
    by_cases hi : ql.isEmpty = true
    · rw [if_pos hi, if_neg (by cases L with | nil => simp at h0 | cons => simp), if_pos (by omega), if_neg (by simp; intro q; rw [q] at h0; simp at h0), m30_eq false L (by simp) (by omega), show plainL L = false from plain_no [] L n v h hn]; rfl
    · rw [if_neg hi, if_pos (by omega), if_pos (Or.inr (by omega)), if_neg (by simp; intro q; rw [q] at h0; simp at h0), m30_eq false _ (by simp) (by rw [ap]; omega), plain_no ql L n v h hn]; rfl
theorem J45v1 (qm qu : Bs) (qi : Int) (qb : Bool) (ql : List (Bs × Bs)) (qc : Bool) (qo : List UInt8) (z : Bool) (L : List (Bs × Bs)) (hq : fsz ql < 2 ^ 29) (hL : fsz L < 2 ^ 28) (h : L = [] ∨ ∃ n v, L[0]? = some (n, v) ∧ (n = inmB ∨ n = imsB)) : j7_45v1 z L qm qu qi qb ql qc qo = some true := by
  have h1 := fsz_len ql
  have h2 := fsz_len L
  unfold j7_45v1
  rcases h with rfl | ⟨n, v, h, hn⟩
  · by_cases hi : ql.isEmpty = true
    · rw [if_pos hi]; rfl
    · rw [if_neg hi, if_pos (by omega), if_pos (Or.inl rfl)]; rfl
  · have h0 : 0 < L.length := (List.getElem?_eq_some_iff.1 h).1
    have ap : ∀ a, fsz (a ++ L) = fsz a + fsz L := fun a => by simp [fsz]
    by_cases hi : ql.isEmpty = true
    · rw [if_pos hi, if_neg (by cases L with | nil => simp at h0 | cons => simp), if_pos (by omega), if_neg (by simp; intro q; rw [q] at h0; simp at h0), m30_eq false L (by simp) (by omega), show plainL L = false from plain_no [] L n v h hn]; rfl
    · rw [if_neg hi, if_pos (by omega), if_pos (Or.inr (by omega)), if_neg (by simp; intro q; rw [q] at h0; simp at h0), m30_eq false _ (by simp) (by rw [ap]; omega), plain_no ql L n v h hn]; rfl
theorem J9 (u : Bs) (asked came : Int) (cb : Bool) (cl : List (Bs × Bs)) (st : Int) (r : Bs) (mi : Int) (b : Bool) (l : List (Bs × Bs)) (c : Bool) (bo : List UInt8) (qm qu : Bs) (qi : Int) (qb : Bool) (ql : List (Bs × Bs)) (qc : Bool) (qo : List UInt8) (z t : Bool) (ht : t = false) (L : List (Bs × Bs)) (hs : fsz l < 2 ^ 26) (hq : fsz ql < 2 ^ 29) (hL : fsz L < 2 ^ 28)
    (h : (∃ v, (L = [(inmB, v)] ∧ getL l etB = [v]) ∨ (L = [(imsB, v)] ∧ getL l lmB = [v])) ∨ ∃ v w, L = [(inmB, v), (imsB, w)] ∧ getL l etB = [v] ∧ getL l lmB = [w]) : j7_9 z L t u asked came cb cl st r mi b l c bo qm qu qi qb ql qc qo = some true := by
  subst ht
  unfold j7_9 j7_14 l7_18
  rw [if_neg (by simp)]
  have stp : ∀ (i : Nat), i < L.length → s7_18 z L (i : Int) u asked came cb cl st r mi b l c bo qm qu qi qb ql qc qo = j7_25 z L (i : Int) u asked came cb cl st r mi b l c bo qm qu qi qb ql qc qo := by
    intro i hi; simp only [s7_18]; rw [if_pos (by simpa using hi)]
  have en : ∀ (i : Nat), i = L.length → (L = [] ∨ ∃ n v, L[0]? = some (n, v) ∧ (n = inmB ∨ n = imsB)) → s7_18 z L (i : Int) u asked came cb cl st r mi b l c bo qm qu qi qb ql qc qo = some (.inr true) := by
    intro i hi hl; simp only [s7_18]; rw [if_neg (by simp; omega), J45 qm qu qi qb ql qc qo z L hq hL hl]; rfl
  show iter _ (z, L, ((0 : Nat) : Int), u, asked, came, cb, cl, st, r, mi, b, l, c, bo, qm, qu, qi, qb, ql, qc, qo) = _
  rcases h with ⟨v, ⟨rfl, hg⟩ | ⟨rfl, hg⟩⟩ | ⟨v, w, rfl, hg, hg'⟩
  · have s0 := (stp 0 (by simp)).trans (J25 u asked came cb cl st r mi b l c bo qm qu qi qb ql qc qo z _ 0 inmB v rfl (by omega) (by omega) (Or.inl ⟨rfl, hg⟩) (by omega))
    rw [iter_l s0, iter_r (en 1 rfl (Or.inr ⟨_, _, rfl, Or.inl rfl⟩))]
  · have s0 := (stp 0 (by simp)).trans (J25 u asked came cb cl st r mi b l c bo qm qu qi qb ql qc qo z _ 0 imsB v rfl (by omega) (by omega) (Or.inr ⟨rfl, hg⟩) (by omega))
    rw [iter_l s0, iter_r (en 1 rfl (Or.inr ⟨_, _, rfl, Or.inr rfl⟩))]
  · have s0 := (stp 0 (by simp)).trans (J25 u asked came cb cl st r mi b l c bo qm qu qi qb ql qc qo z _ 0 inmB v rfl (by omega) (by omega) (Or.inl ⟨rfl, hg⟩) (by omega))
    have s1 := (stp 1 (by simp)).trans (J25 u asked came cb cl st r mi b l c bo qm qu qi qb ql qc qo z _ 1 imsB w rfl (by omega) (by omega) (Or.inr ⟨rfl, hg'⟩) (by intro _; show (imsB == inmB) = false; decide))
    rw [iter_l s0, iter_l s1, iter_r (en 2 rfl (Or.inr ⟨_, _, rfl, Or.inl rfl⟩))]
theorem J9v1 (u : Bs) (asked came : Int) (cb : Bool) (cl : List (Bs × Bs)) (st : Int) (r : Bs) (mi : Int) (b : Bool) (l : List (Bs × Bs)) (c : Bool) (bo : List UInt8) (qm qu : Bs) (qi : Int) (qb : Bool) (ql : List (Bs × Bs)) (qc : Bool) (qo : List UInt8) (z : Bool) (hq : fsz ql < 2 ^ 29) : j7_9v1 z [] false u asked came cb cl st r mi b l c bo qm qu qi qb ql qc qo = some true := by
  unfold j7_9v1 j7_14v1 l7_18v1
  rw [if_neg (by simp)]
  refine iter_r ?_
  simp only [s7_18v1]
  rw [if_neg (by simp), J45v1 qm qu qi qb ql qc qo z [] hq (by decide) (Or.inl rfl)]; rfl
theorem policyAsks (u : Bs) (asked came : Int) (cb : Bool) (cl : List (Bs × Bs)) (st : Int) (r : Bs) (mi : Int) (b : Bool) (l : List (Bs × Bs)) (c : Bool) (bo : List UInt8) (qm qu : Bs) (qi : Int) (qb : Bool) (ql : List (Bs × Bs)) (qc : Bool) (qo : List UInt8) (hs : fsz l < 2 ^ 26) (hq : fsz ql < 2 ^ 29) : m7 u asked came cb cl st r mi b l c bo qm qu qi qb ql qc qo = some true := by
  have ht := tag_len l
  have hc := chg_len l
  have gt : (tagL l).2 = true → getL l etB = [(tagL l).1] := tag_get
  have gc : (chgL l).2 = true → getL l lmB = [(chgL l).1] := chg_get
  unfold m7 m15 j15_12 j15_12v1 j15_20 j15_20v1
  rw [m28_eq b l (by omega), m54_eq b l (by omega)]
  simp only [Option.bind_some]
  generalize tagL l = T at *
  generalize chgL l = G at *
  obtain ⟨tv, t⟩ := T
  obtain ⟨gv, g⟩ := G
  cases t <;> cases g
  · exact J9v1 u asked came cb cl st r mi b l c bo qm qu qi qb ql qc qo true hq
  · exact J9 u asked came cb cl st r mi b l c bo qm qu qi qb ql qc qo false false rfl [(imsB, gv)] hs hq (by simp only [fsz, List.map_cons, List.map_nil, List.sum_cons, List.sum_nil, imsB, List.length_cons, List.length_nil] at *; omega) (Or.inl ⟨gv, Or.inr ⟨rfl, gc rfl⟩⟩)
  · have e := J9 u asked came cb cl st r mi b l c bo qm qu qi qb ql qc qo false (!(tv == tv)) (by simp) [(inmB, tv)] hs hq (by simp only [fsz, List.map_cons, List.map_nil, List.sum_cons, List.sum_nil, inmB, List.length_cons, List.length_nil] at *; omega) (Or.inl ⟨tv, Or.inl ⟨rfl, gt rfl⟩⟩)
    exact e
  · have e := J9 u asked came cb cl st r mi b l c bo qm qu qi qb ql qc qo false (!(tv == tv)) (by simp) [(inmB, tv), (imsB, gv)] hs hq (by simp only [fsz, List.map_cons, List.map_nil, List.sum_cons, List.sum_nil, inmB, imsB, List.length_cons, List.length_nil] at *; omega) (Or.inr ⟨tv, gv, rfl, gt rfl, gc rfl⟩)
    rw [if_pos rfl, if_pos rfl, if_pos (by simp)]; exact e
end
section
set_option linter.all false
open Go Go.Ab Go.Proofs Go.Proofs.YtbkobjepahlegaaGreatDoor
theorem fsz_le (l : List (Bs × Bs)) : fsz l ≤ (List.map (fun y : Bs × Bs => (((y.1.length + 1) + ((y.2.length + 1) + 0)) + 1)) l).sum := by
  induction l with
  | nil => exact Nat.zero_le _
  | cons a l ih => simp only [fsz, List.map_cons, List.sum_cons] at ih ⊢; omega
end
