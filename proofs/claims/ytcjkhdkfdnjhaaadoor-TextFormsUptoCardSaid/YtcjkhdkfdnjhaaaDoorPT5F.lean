/- Texts: what is quoted is read as it was; elements put together; forms. -/
import Derived.Test.YtcjkhdkfdnjhaaaDoorPT4F
set_option linter.unusedVariables false
set_option linter.unusedSimpArgs false
set_option linter.unnecessarySimpa false
open Go Go.Ab Go.Proofs Go.Proofs.YtcjkhdkfdnjhaaaDoor
namespace Go.Ab

theorem split_comma (cur s : Bs) : split false false cur (44 :: s) = cur :: split false false [] s := by
  rw [split]; simp
theorem split_ff {c : UInt8} (h : c ≠ 34) (cur s : Bs) : split false false cur (c :: s) = if c = 44 then cur :: split false false [] s else split false false (cur ++ [c]) s := by
  rw [split]; simp [h]
/-- through bytes without a part's end -/
def run : Bool → Bool → Bs → Option (Bool × Bool)
  | q, m, [] => some (q, m)
  | q, m, c :: s =>
    if m = true then run q false s
    else if q = true ∧ c = 92 then run q true s
    else if c = 34 then run (!q) false s
    else if c = 44 ∧ q = false then none
    else run q false s
theorem split_run : ∀ (x : Bs) (q m : Bool) (st : Bool × Bool) (cur r : Bs), run q m x = some st → split q m cur (x ++ r) = split st.1 st.2 (cur ++ x) r := by
  intro x
  induction x with
  | nil => intro q m st cur r h; simp [run] at h; subst h; simp
  | cons c x ih =>
    intro q m st cur r h
    rw [run] at h
    rw [List.cons_append, split]
    have e : cur ++ c :: x = (cur ++ [c]) ++ x := by simp
    rw [e]
    split at h
    · rw [if_pos (by assumption)]; exact ih _ _ _ _ _ h
    · rw [if_neg (by assumption)]
      split at h
      · rw [if_pos (by assumption)]; exact ih _ _ _ _ _ h
      · rw [if_neg (by assumption)]
        split at h
        · rw [if_pos (by assumption)]; exact ih _ _ _ _ _ h
        · rw [if_neg (by assumption)]
          split at h
          · cases h
          · rw [if_neg (by assumption)]; exact ih _ _ _ _ _ h
theorem run_app : ∀ (x : Bs) (q m : Bool) (y : Bs), run q m (x ++ y) = (run q m x).bind fun st => run st.1 st.2 y := by
  intro x
  induction x with
  | nil => intro q m y; rfl
  | cons c x ih =>
    intro q m y
    rw [List.cons_append, run, run]
    simp only [ih]
    split
    · rfl
    · split
      · rfl
      · split
        · rfl
        · split <;> rfl
theorem run_inv : ∀ (x : Bs) (q m : Bool) (st : Bool × Bool), (m = true → q = true) → run q m x = some st → (st.2 = true → st.1 = true) := by
  intro x
  induction x with
  | nil => intro q m st h e; simp [run] at e; subst e; exact h
  | cons c x ih =>
    intro q m st h e
    rw [run] at e
    split at e
    · exact ih _ _ _ (by simp) e
    · split at e
      · rename_i g; exact ih _ _ _ (fun _ => g.1) e
      · split at e
        · exact ih _ _ _ (by simp) e
        · split at e
          · cases e
          · exact ih _ _ _ (by simp) e
theorem bl_ne {c : UInt8} (h : blB c = true) : c ≠ 92 ∧ c ≠ 34 ∧ c ≠ 44 := by
  have : ∀ c : UInt8, blB c = true → c ≠ 92 ∧ c ≠ 34 ∧ c ≠ 44 := byAll (by decide +kernel)
  exact this c h
/-- blanks -/
theorem run_bl : ∀ (x : Bs) (q m : Bool), x.all blB = true → run q m x = some (q, if x = [] then m else false) := by
  intro x
  induction x with
  | nil => intro q m _; rfl
  | cons c x ih =>
    intro q m h
    simp only [List.all_cons, Bool.and_eq_true] at h
    have hc := bl_ne h.1
    rw [run]
    have hx : run q false x = some (q, false) := by rw [ih q false h.2]; simp
    rw [if_neg (fun g : q = true ∧ c = 92 => hc.1 g.2), if_neg hc.2.1, if_neg (fun g : c = 44 ∧ q = false => hc.2.2 g.1), hx]
    simp
theorem all_get {s : Bs} {p : UInt8 → Bool} : s.all p = true ↔ ∀ j, j < s.length → p (s.getD j 0) = true := by
  rw [List.all_eq_true]
  constructor
  · intro h j hj
    rw [List.getD_eq_getElem?_getD, List.getElem?_eq_getElem hj]
    exact h _ (List.getElem_mem hj)
  · intro h x hx
    obtain ⟨j, hj, rfl⟩ := List.mem_iff_getElem.1 hx
    have := h j hj
    rwa [List.getD_eq_getElem?_getD, List.getElem?_eq_getElem hj] at this
/-- what is trimmed: blanks at both ends are left out -/
theorem trimL_parts (s : Bs) : ∃ a b, a.all blB = true ∧ b.all blB = true ∧ s = a ++ (trimL s ++ b) ∧ (trimL s = [] → b = []) ∧ (trimL s ≠ [] → blB ((trimL s).getD 0 0) = false ∧ blB ((trimL s).getD ((trimL s).length - 1) 0) = false) := by
  by_cases hall : s.all blB = true
  · have e := trimL_nil (all_get.1 hall)
    exact ⟨s, [], hall, rfl, by rw [e]; simp, fun _ => rfl, fun h => absurd e h⟩
  · -- the first that is none, the last
    have hex : ∃ j, j < s.length ∧ blB (s.getD j 0) = false := by
      rcases Classical.em (∃ j, j < s.length ∧ blB (s.getD j 0) = false) with h | h
      · exact h
      · exfalso
        exact hall (all_get.2 fun j hj => by
          cases e : blB (s.getD j 0)
          · exact absurd ⟨j, hj, e⟩ h
          · rfl)
    have first : ∀ n, n ≤ s.length → (∀ j, j < n → blB (s.getD j 0) = true) ∨ ∃ a, a < n ∧ blB (s.getD a 0) = false ∧ ∀ j, j < a → blB (s.getD j 0) = true := by
      intro n
      induction n with
      | zero => intro _; left; intro j hj; omega
      | succ n ih =>
        intro hn
        rcases ih (by omega) with h | ⟨a, h1, h2⟩
        · cases e : blB (s.getD n 0)
          · right; exact ⟨n, by omega, e, h⟩
          · left; intro j hj
            by_cases e2 : j = n
            · rw [e2]; exact e
            · exact h j (by omega)
        · right; exact ⟨a, by omega, h2⟩
    have last : ∀ n, n ≤ s.length → (∀ j, s.length - n ≤ j → j < s.length → blB (s.getD j 0) = true) ∨ ∃ b, s.length - n < b ∧ b ≤ s.length ∧ blB (s.getD (b - 1) 0) = false ∧ ∀ j, b ≤ j → j < s.length → blB (s.getD j 0) = true := by
      intro n
      induction n with
      | zero => intro _; left; intro j hj hj2; omega
      | succ n ih =>
        intro hn
        rcases ih (by omega) with h | ⟨b, h1, h2⟩
        · cases e : blB (s.getD (s.length - (n + 1)) 0)
          · right; exact ⟨s.length - n, by omega, by omega, by rw [show s.length - n - 1 = s.length - (n + 1) by omega]; exact e, h⟩
          · left; intro j hj hj2
            by_cases e2 : j = s.length - (n + 1)
            · rw [e2]; exact e
            · exact h j (by omega) hj2
        · right; exact ⟨b, by omega, h2⟩
    obtain ⟨j0, hj0, hj1⟩ := hex
    rcases first s.length (Nat.le_refl _) with h | ⟨a, ha, ha2, ha3⟩
    · rw [h j0 hj0] at hj1; cases hj1
    rcases last s.length (Nat.le_refl _) with h | ⟨b, hb, hb2, hb3, hb4⟩
    · rw [h j0 (by omega) hj0] at hj1; cases hj1
    have hab : a < b := by
      rcases Nat.lt_or_ge a b with h | h
      · exact h
      · rw [hb4 a h ha] at ha2; cases ha2
    have e := trimL_cut hab hb2 ha3 ha2 hb4 hb3
    have hlen : ((s.take b).drop a).length = b - a := by simp; omega
    have hg : ∀ j, j < b - a → ((s.take b).drop a).getD j 0 = s.getD (a + j) 0 := by
      intro j hj
      rw [List.getD_eq_getElem?_getD, List.getD_eq_getElem?_getD, List.getElem?_drop, List.getElem?_take, if_pos (by omega)]
    refine ⟨s.take a, s.drop b, all_get.2 fun j hj => ?_, all_get.2 fun j hj => ?_, ?_, fun h => ?_, fun _ => ?_⟩
    · have : j < a := by simp at hj; omega
      have := ha3 j this
      rw [List.getD_eq_getElem?_getD] at this ⊢
      rw [List.getElem?_take, if_pos (by assumption)]
      exact this
    · have := hb4 (b + j) (by omega) (by simp at hj; omega)
      rw [List.getD_eq_getElem?_getD] at this ⊢
      rw [List.getElem?_drop]
      exact this
    · rw [e, ← List.append_assoc]
      have : s.take a ++ (s.take b).drop a = s.take b := by
        have := List.take_append_drop a (s.take b)
        rwa [List.take_take, Nat.min_eq_left (by omega)] at this
      rw [this, List.take_append_drop]
    · rw [e] at h
      have := congrArg List.length h
      rw [hlen] at this
      simp at this; omega
    · rw [e, hlen, hg 0 (by omega), hg (b - a - 1) (by omega), Nat.add_zero, show a + (b - a - 1) = b - 1 by omega]
      exact ⟨ha2, hb3⟩
/-- what has no blanks at its ends is its own -/
theorem trimL_id {x : Bs} (h1 : blB (x.getD 0 0) = false) (h2 : blB (x.getD (x.length - 1) 0) = false) (h0 : x ≠ []) : trimL x = x := by
  have hl : 0 < x.length := by cases x; exact absurd rfl h0; simp
  rw [trimL_cut (a := 0) (b := x.length) hl (Nat.le_refl _) (fun j hj => by omega) h1 (fun j hj hj2 => by omega) h2]
  simp
theorem trimL_trimL (s : Bs) : trimL (trimL s) = trimL s := by
  obtain ⟨a, b, h1, h2, h3, h4, h5⟩ := trimL_parts s
  by_cases e : trimL s = []
  · rw [e]; rfl
  · exact trimL_id (h5 e).1 (h5 e).2 e
theorem run_trim {s : Bs} {st : Bool × Bool} (h : run false false s = some st) : ∃ st', run false false (trimL s) = some st' ∧ (st = (false, false) → st' = (false, false)) := by
  obtain ⟨a, b, h1, h2, h3, h4, h5⟩ := trimL_parts s
  rw [h3, run_app, run_bl a _ _ h1] at h
  simp only [Option.bind_some, ite_self] at h
  rw [run_app] at h
  simp only [Option.bind_eq_some_iff] at h
  obtain ⟨⟨q, m⟩, g1, g2⟩ := h
  have hi := run_inv _ _ _ _ (by simp) g1
  rw [run_bl b _ _ h2] at g2
  refine ⟨(q, m), g1, fun e => ?_⟩
  rw [e] at g2
  simp only [Option.some.injEq, Prod.mk.injEq] at g2
  obtain ⟨rfl, _⟩ := g2
  cases m
  · rfl
  · exact absurd (hi rfl) (by simp)
/-- the parts: none has an end in it; behind all but the last one nothing is open -/
theorem split_ok : ∀ (s : Bs) (q m : Bool) (cur : Bs), run false false cur = some (q, m) → ∃ ps z, split q m cur s = ps ++ [z] ∧ (∀ p ∈ ps, run false false p = some (false, false)) ∧ ∃ st, run false false z = some st := by
  intro s
  induction s with
  | nil => intro q m cur h; exact ⟨[], cur, rfl, by simp, _, h⟩
  | cons c s ih =>
    intro q m cur h
    have hi := run_inv _ _ _ _ (by simp) h
    have hs : ∀ st, run q m [c] = some st → run false false (cur ++ [c]) = some st := by
      intro st e
      rw [run_app, h]
      exact e
    rw [split]
    simp only [run] at hs
    split
    · rename_i g; rw [if_pos g] at hs; exact ih _ _ _ (hs _ rfl)
    · rename_i g; rw [if_neg g] at hs
      split
      · rename_i g; rw [if_pos g] at hs; exact ih _ _ _ (hs _ rfl)
      · rename_i g; rw [if_neg g] at hs
        split
        · rename_i g; rw [if_pos g] at hs; exact ih _ _ _ (hs _ rfl)
        · rename_i g; rw [if_neg g] at hs
          split
          · have gg : c = 44 ∧ q = false := by assumption
            obtain ⟨ps, z, e, h1, h2⟩ := ih false false [] rfl
            refine ⟨cur :: ps, z, by rw [e]; rfl, ?_, h2⟩
            intro p hp
            rcases List.mem_cons.1 hp with rfl | hp
            · rw [h, gg.2]
              cases m
              · rfl
              · exact absurd (hi rfl) (by simp [gg.2])
            · exact h1 p hp
          · rename_i g; rw [if_neg g] at hs; exact ih _ _ _ (hs _ rfl)
theorem fl_app (a b : List Bs) : fl (a ++ b) = fl a ++ fl b := by
  unfold fl
  rw [List.map_append, List.filter_append]
theorem fl_mem {x : Bs} {l : List Bs} (h : x ∈ fl l) : x ≠ [] ∧ trimL x = x ∧ ∃ y ∈ l, x = trimL y := by
  unfold fl at h
  rw [List.mem_filter, List.mem_map] at h
  obtain ⟨⟨y, hy, rfl⟩, h2⟩ := h
  exact ⟨by intro e; rw [e] at h2; simp at h2, trimL_trimL y, y, hy, rfl⟩
theorem fl_id {l : List Bs} (h : ∀ x ∈ l, x ≠ [] ∧ trimL x = x) : fl l = l := by
  induction l with
  | nil => rfl
  | cons x l ih =>
    obtain ⟨h1, h2⟩ := h x (List.mem_cons_self ..)
    rw [fl_cons, ih fun y hy => h y (List.mem_cons_of_mem _ hy), h2, if_neg h1]
    rfl
/-- elements put together -/
def jn : List Bs → Bs
  | [] => []
  | [x] => x
  | x :: y :: r => x ++ 44 :: jn (y :: r)
theorem jn_cons {x : Bs} {l : List Bs} (h : l ≠ []) : jn (x :: l) = x ++ 44 :: jn l := by
  cases l with
  | nil => exact absurd rfl h
  | cons y r => rfl
theorem jn_snoc : ∀ (l : List Bs) (x : Bs), l ≠ [] → jn (l ++ [x]) = jn l ++ 44 :: x := by
  intro l
  induction l with
  | nil => intro x h; exact absurd rfl h
  | cons y l ih =>
    intro x _
    cases l with
    | nil => rfl
    | cons z r =>
      rw [List.cons_append, jn_cons (x := y) (l := z :: r ++ [x]) (by simp), ih x (by simp), jn_cons (x := y) (l := z :: r) (by simp)]
      simp
theorem split_jn : ∀ (ps : List Bs) (z : Bs), (∀ p ∈ ps, run false false p = some (false, false)) → (∃ st, run false false z = some st) → split false false [] (jn (ps ++ [z])) = ps ++ [z] := by
  intro ps
  induction ps with
  | nil =>
    intro z _ ⟨st, h⟩
    have := split_run z _ _ _ [] [] h
    simp only [List.append_nil, List.nil_append] at this
    show split false false [] z = [z]
    rw [this]
    rfl
  | cons p ps ih =>
    intro z h hz
    have hp := h p (List.mem_cons_self ..)
    rw [List.cons_append, jn_cons (by simp), split_run p _ _ _ [] _ hp]
    simp only [List.nil_append]
    rw [split_comma, ih z (fun q hq => h q (List.mem_cons_of_mem _ hq)) hz]
theorem listL_jn (s : Bs) : listL (jn (listL s)) = listL s := by
  obtain ⟨ps, z, e, h1, st, h2⟩ := split_ok s false false [] rfl
  have hl : listL s = fl ps ++ fl [z] := by unfold listL; rw [e, fl_app]
  have hps : ∀ p ∈ fl ps, run false false p = some (false, false) := by
    intro p hp
    obtain ⟨_, _, y, hy, rfl⟩ := fl_mem hp
    obtain ⟨st', g1, g2⟩ := run_trim (h1 y hy)
    rw [g1, g2 rfl]
  have hid : fl (listL s) = listL s := fl_id fun x hx => ⟨(fl_mem hx).1, (fl_mem hx).2.1⟩
  have key : split false false [] (jn (listL s)) = listL s ∨ listL s = [] := by
    by_cases hz : trimL z = []
    · have : fl [z] = [] := by rw [fl_cons, if_pos hz]; rfl
      rw [this, List.append_nil] at hl
      rw [hl]
      rcases List.eq_nil_or_concat (fl ps) with h | ⟨l, x, h⟩
      · right; exact h
      · left
        rw [h] at hps ⊢
        rw [List.concat_eq_append] at *
        exact split_jn l x (fun p hp => hps p (by simp [hp])) ⟨_, hps x (by simp)⟩
    · have : fl [z] = [trimL z] := by rw [fl_cons, if_neg hz]; rfl
      rw [this] at hl
      left
      rw [hl]
      obtain ⟨st', g1, _⟩ := run_trim h2
      exact split_jn (fl ps) (trimL z) hps ⟨_, g1⟩
  rcases key with h | h
  · show fl (split false false [] (jn (listL s))) = listL s
    rw [h, hid]
  · rw [h]; rfl
theorem listL_pre (x : Bs) : listL (32 :: 44 :: 9 :: 44 :: x) = listL x := by
  unfold listL
  rw [split_plain (c := 32) (by decide), split_comma, fl_cons, split_plain (c := 9) (by decide), split_comma, fl_cons]
  rfl
theorem split_bare : ∀ (x : Bs) (cur t : Bs), (∀ c ∈ x, c ≠ 34) → split false false cur (x ++ 44 :: t) = split false false cur x ++ split false false [] t := by
  intro x
  induction x with
  | nil => intro cur t _; rw [List.nil_append, split_comma]; rfl
  | cons c x ih =>
    intro cur t h
    have h34 := h c (List.mem_cons_self ..)
    have hx : ∀ d ∈ x, d ≠ 34 := fun d hd => h d (List.mem_cons_of_mem _ hd)
    rw [List.cons_append, split_ff h34, split_ff h34]
    split
    · rw [ih [] t hx]; rfl
    · exact ih _ t hx
theorem listL_bare (x t : Bs) (h : ∀ c ∈ x, c ≠ 34) : listL (x ++ 44 :: t) = listL x ++ listL t := by
  unfold listL
  rw [split_bare x [] t h, fl_app]
/-! ### how long -/
def wt (l : List Bs) : Nat := (l.map fun x => x.length + 1).sum
theorem wt_cons (x : Bs) (l : List Bs) : wt (x :: l) = x.length + 1 + wt l := by simp [wt]
theorem wt_split : ∀ (s : Bs) (q m : Bool) (cur : Bs), wt (split q m cur s) = cur.length + s.length + 1 := by
  intro s
  induction s with
  | nil => intro q m cur; simp [split, wt]
  | cons c s ih =>
    intro q m cur
    rw [split]
    split
    · rw [ih]; simp; omega
    · split
      · rw [ih]; simp; omega
      · split
        · rw [ih]; simp; omega
        · split
          · rw [wt_cons, ih]; simp; omega
          · rw [ih]; simp; omega
theorem trimL_le (s : Bs) : (trimL s).length ≤ s.length := by
  obtain ⟨a, b, _, _, h, _⟩ := trimL_parts s
  have := congrArg List.length h
  simp at this; omega
theorem wt_fl (l : List Bs) : wt (fl l) ≤ wt l := by
  induction l with
  | nil => exact Nat.le_refl _
  | cons x l ih =>
    rw [fl_cons, wt_cons]
    have := trimL_le x
    split
    · rw [List.nil_append]; omega
    · rw [List.cons_append, List.nil_append, wt_cons]; omega
theorem wt_listL (s : Bs) : wt (listL s) ≤ s.length + 1 := by
  have := wt_fl (split false false [] s)
  rw [wt_split] at this
  unfold listL; simp at this; omega
theorem jn_wt (l : List Bs) : (jn l).length ≤ wt l := by
  induction l with
  | nil => simp [jn]
  | cons x l ih =>
    rw [wt_cons]
    cases l with
    | nil => simp [jn]; omega
    | cons y r => rw [jn_cons (by simp)]; simp; omega
theorem wt_len (l : List Bs) : l.length ≤ wt l := by
  induction l with
  | nil => simp
  | cons x l ih => rw [wt_cons]; simp; omega
theorem wt_take (l : List Bs) (n : Nat) : wt (l.take n) ≤ wt l := by
  induction l generalizing n with
  | nil => simp
  | cons x l ih => cases n with
    | zero => simp [wt]
    | succ n => rw [List.take_succ_cons, wt_cons, wt_cons]; have := ih n; omega

/-! ### quoted -/
theorem run_qb : ∀ (s : Bs), run true false (qb s) = some (true, false) := by
  intro s
  induction s with
  | nil => rfl
  | cons c s ih =>
    rw [qb_cons, run_app]
    have : run true false (if c = 34 ∨ c = 92 then [92, c] else [c]) = some (true, false) := by
      by_cases h : c = 34 ∨ c = 92
      · rw [if_pos h]; rfl
      · rw [if_neg h]
        simp only [not_or] at h
        simp [run, h.1, h.2]
    rw [this]
    exact ih
theorem run_quote (s : Bs) : run false false (quoteL s) = some (false, false) := by
  have : quoteL s = [34] ++ (qb s ++ [34]) := rfl
  rw [this, run_app]
  have h1 : run false false [34] = some (true, false) := by decide
  rw [h1]
  show run true false (qb s ++ [34]) = _
  rw [run_app, run_qb]
  decide
theorem quote_ends (s : Bs) : (quoteL s).getD 0 0 = 34 ∧ (quoteL s).getD ((quoteL s).length - 1) 0 = 34 ∧ quoteL s ≠ [] := by
  refine ⟨rfl, ?_, by simp [quoteL]⟩
  have : quoteL s = (34 :: qb s) ++ [34] := rfl
  rw [this]
  simp
theorem list3 (q : Bs) (hr : run false false q = some (false, false)) (h0 : q.getD 0 0 = 34) (h1 : q.getD (q.length - 1) 0 = 34) (hn : q ≠ []) :
    listL (([97, 44, 32] ++ q) ++ [32, 44, 98, 61] ++ q) = [[97], q, [98, 61] ++ q] := by
  have hl : 0 < q.length := by cases q; exact absurd rfl hn; simp
  unfold listL
  simp only [List.append_assoc, List.cons_append, List.nil_append]
  rw [split_plain (c := 97) (by decide), split_comma, split_plain (c := 32) (by decide), split_run q _ _ _ _ _ hr]
  simp only [List.nil_append, List.cons_append]
  rw [split_plain (c := 32) (by decide), split_comma, split_plain (c := 98) (by decide), split_plain (c := 61) (by decide)]
  have e := split_run q _ _ _ ([] ++ [98] ++ [61]) [] hr
  rw [List.append_nil] at e
  rw [e]
  have t1 : trimL [97] = [97] := by decide
  have t2 : trimL ((32 :: q) ++ [32]) = q := by
    have : trimL ((32 :: q) ++ [32]) = (((32 :: q) ++ [32]).take (q.length + 1)).drop 1 := by
      refine trimL_cut (by omega) (by simp) ?_ ?_ ?_ ?_
      · intro j hj
        have : j = 0 := by omega
        subst this; rfl
      · have : ((32 :: q) ++ [32]).getD 1 0 = q.getD 0 0 := by
          rw [List.cons_append, List.getD_cons_succ, List.getD_eq_getElem?_getD, List.getD_eq_getElem?_getD, List.getElem?_append_left hl]
        rw [this, h0]; rfl
      · intro j hj hj2
        have : j = q.length + 1 := by simp at hj2; omega
        subst this
        rw [List.cons_append, List.getD_cons_succ, List.getD_eq_getElem?_getD, List.getElem?_append_right (Nat.le_refl _)]
        simp; rfl
      · have : ((32 :: q) ++ [32]).getD (q.length + 1 - 1) 0 = q.getD (q.length - 1) 0 := by
          obtain ⟨n, hn⟩ : ∃ n, q.length = n + 1 := ⟨q.length - 1, by omega⟩
          rw [hn, List.cons_append]
          show (32 :: (q ++ [32])).getD (n + 1) 0 = _
          rw [List.getD_cons_succ, List.getD_eq_getElem?_getD, List.getD_eq_getElem?_getD, List.getElem?_append_left (by omega)]
          rfl
        rw [this, h1]; rfl
    rw [this]
    simp
  have t3 : trimL ([98, 61] ++ q) = [98, 61] ++ q := by
    refine trimL_id rfl ?_ (by simp)
    have : ([98, 61] ++ q).getD (([98, 61] ++ q).length - 1) 0 = q.getD (q.length - 1) 0 := by
      obtain ⟨n, hn⟩ : ∃ n, q.length = n + 1 := ⟨q.length - 1, by omega⟩
      have : ([98, 61] ++ q).length - 1 = n + 2 := by simp; omega
      rw [this, hn]
      rfl
    rw [this, h1]; rfl
  have s1 : split false false ([] ++ [98] ++ [61] ++ q) [] = [[98, 61] ++ q] := rfl
  rw [s1, fl_cons, fl_cons, fl_cons, t1, t2, t3, if_neg (by simp), if_neg hn, if_neg (by simp)]
  rfl
theorem sh_marks {c : UInt8} (h : c = 34 ∨ c = 92) : shB c = true := by rcases h with rfl | rfl <;> rfl
theorem pq_qb : ∀ (s : Bs), pq (qb s) = if s.all shB = true then some s else none := by
  intro s
  induction s with
  | nil => rfl
  | cons c s ih =>
    rw [qb_cons]
    by_cases h : c = 34 ∨ c = 92
    · rw [if_pos h]
      show pq (92 :: c :: qb s) = _
      rw [pq_92, sh_marks h, if_pos rfl, ih, List.all_cons, sh_marks h, Bool.true_and]
      split <;> rfl
    · rw [if_neg h]
      simp only [not_or] at h
      show pq (c :: qb s) = _
      rw [pq_c h.1 h.2, ih, List.all_cons]
      cases shB c
      · simp
      · simp only [if_true, Bool.true_and]
        split <;> rfl
theorem unq_quote (s : Bs) : unqL (quoteL s) = if s.all shB = true then some s else none := by
  have : quoteL s = 34 :: (qb s ++ [34]) := rfl
  rw [this, unqL_cons, if_pos rfl, uq_snoc _ _ (Nat.le_refl _), pq_qb]
theorem uq_sh : ∀ (n : Nat) (a r : Bs), a.length ≤ n → uq a = some r → r.all shB = true ∧ r.length ≤ a.length := by
  intro n
  induction n with
  | zero => intro a r ha h; have : a = [] := by cases a; rfl; simp at ha
            subst this; cases h
  | succ n ih =>
    intro a r ha h
    cases a with
    | nil => cases h
    | cons c s =>
      simp only [List.length_cons] at ha
      by_cases h1 : c = 34
      · subst h1
        rw [uq_34] at h
        split at h
        · cases h; exact ⟨rfl, by simp⟩
        · cases h
      · by_cases h2 : c = 92
        · subst h2
          cases s with
          | nil => rw [uq_92n] at h; cases h
          | cons d t =>
            rw [uq_92] at h
            split at h
            · rename_i hd
              simp only [Option.map_eq_some_iff] at h
              obtain ⟨r', h, rfl⟩ := h
              have := ih t r' (by simp at ha; omega) h
              exact ⟨by rw [List.all_cons, hd, this.1]; rfl, by simp; omega⟩
            · cases h
        · rw [uq_c h1 h2] at h
          split at h
          · rename_i hd
            simp only [Option.map_eq_some_iff] at h
            obtain ⟨r', h, rfl⟩ := h
            have := ih s r' (by omega) h
            exact ⟨by rw [List.all_cons, hd, this.1]; rfl, by simp; omega⟩
          · cases h
theorem unq_sh {a r : Bs} (h : unqL a = some r) : r.all shB = true ∧ r.length ≤ a.length := by
  cases a with
  | nil => cases h
  | cons c t =>
    rw [unqL_cons] at h
    split at h
    · have := uq_sh _ _ _ (Nat.le_refl _) h
      exact ⟨this.1, by simp; omega⟩
    · cases h
theorem quote_len (s : Bs) : (quoteL s).length ≤ 2 * s.length + 2 := by
  have := qb_len s
  simp [quoteL]; omega
theorem pair_b (s : Bs) : pairL ([98, 61] ++ quoteL s) = if s.all shB = true then some ([98], s) else none := by
  unfold pairL
  have hn : nameN ([98, 61] ++ quoteL s) = 1 := by
    show nameN (98 :: 61 :: quoteL s) = 1
    rw [nameN_cons, if_neg (by decide), nameN_cons, if_pos rfl]
  have hl : ([98, 61] ++ quoteL s).length = (quoteL s).length + 2 := by simp
  rw [hn]
  have h1 : tokL (([98, 61] ++ quoteL s).take 1) = true := by show tokL [98] = true; decide
  have h2 : ([98, 61] ++ quoteL s).drop (1 + 1) = quoteL s := rfl
  have h3 : tokL (quoteL s) = false := by
    have : quoteL s = 34 :: (qb s ++ [34]) := rfl
    rw [this]
    unfold tokL
    rw [List.all_cons]
    have : tokB 34 = false := by decide
    rw [this]; rfl
  have h4 : lowL (([98, 61] ++ quoteL s).take 1) = [98] := by show lowL [98] = [98]; decide
  rw [if_pos h1, hl, if_neg (by omega), h2, h3, if_neg (by decide), unq_quote, h4]
  split <;> rfl
def SZ : Nat := 2000000
theorem listL_len (s : Bs) : (listL s).length ≤ s.length + 1 := Nat.le_trans (wt_len _) (wt_listL s)
end Go.Ab
