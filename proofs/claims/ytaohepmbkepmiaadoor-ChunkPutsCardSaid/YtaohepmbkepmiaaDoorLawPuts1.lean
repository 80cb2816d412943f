/- Plain laws of the functions. -/
import Derived.Test.YtaohepmbkepmiaaDoorEv7
import Derived.Test.YtaohepmbkepmiaaDoorFPuts2
import Derived.Lib.DecodeN
set_option linter.all false
section
set_option linter.all false
namespace Go.Ab
open Go
theorem wu64m (x : Int) : wu64 x = x % 18446744073709551616 := by
  unfold wu64
  simp [IntKind.wrap, IntKind.min, IntKind.max, IntKind.bits, IntKind.signed] <;> omega
theorem iter_post {σ β : Type} {f : σ → Option (σ ⊕ β)} (I : σ → Prop) (μ : σ → Nat) (Q : β → Prop)
    (h : ∀ s, I s → (∃ t, f s = some (.inl t) ∧ I t ∧ μ t < μ s) ∨ (∃ r, f s = some (.inr r) ∧ Q r)) (s : σ) (hs : I s) : ∃ r, iter f s = some r ∧ Q r := by
  have key : ∀ n s, μ s < n → I s → ∃ r, iter f s = some r ∧ Q r := by
    intro n
    induction n with
    | zero => intro s h0; omega
    | succ n ih =>
      intro s hn hs
      rcases h s hs with ⟨t, ht, hI, hm⟩ | ⟨r, hr, hq⟩
      · rw [iter_l ht]; exact ih t (by omega) hI
      · exact ⟨r, iter_r hr, hq⟩
  exact key (μ s + 1) s (by omega) hs
theorem iter_to {σ β : Type} {f : σ → Option (σ ⊕ β)} (I : σ → Prop) (μ : σ → Nat) (X : Option β)
    (h : ∀ s, I s → (∃ t, f s = some (.inl t) ∧ I t ∧ μ t < μ s) ∨ f s = X.map .inr) (s : σ) (hs : I s) : iter f s = X := by
  have key : ∀ n s, μ s < n → I s → iter f s = X := by
    intro n
    induction n with
    | zero => intro s h0; omega
    | succ n ih =>
      intro s hn hs
      rcases h s hs with ⟨t, ht, hI, hm⟩ | hr
      · rw [iter_l ht]; exact ih t (by omega) hI
      · cases X with
        | none => exact iter_n hr
        | some r => exact iter_r hr
  exact key (μ s + 1) s (by omega) hs
end Go.Ab
end
section
set_option linter.all false
set_option maxRecDepth 100000
open Go Go.Ab Go.Proofs Go.Proofs.YtaohepmbkepmiaaDoor
namespace Go.Ab
theorem iter_g {σ β : Type} {f : σ → Option (σ ⊕ β)} (I : σ → Prop) (μ : σ → Nat) (g : σ → Option β)
    (h : ∀ s, I s → (∃ t, f s = some (.inl t) ∧ I t ∧ μ t < μ s ∧ g t = g s) ∨ f s = (g s).map .inr) (s : σ) (hs : I s) : iter f s = g s := by
  refine iter_to (fun t => I t ∧ g t = g s) μ (g s) ?_ s ⟨hs, rfl⟩
  rintro t ⟨ht, e⟩
  rcases h t ht with ⟨u, h1, h2, h3, h4⟩ | h1
  · exact .inl ⟨u, h1, ⟨h2, h4.trans e⟩, h3⟩
  · exact .inr (by rw [h1, e])
theorem d_neg {p : Prop} [Decidable p] (h : ¬ p) : ¬ (decide p) = true := by simpa using h
theorem d_pos {p : Prop} [Decidable p] (h : p) : (decide p) = true := by simpa using h
theorem bnd_of {i : Int} {n : Nat} (h0 : 0 ≤ i) (h1 : i ≤ n) : bnd i n = some i.toNat := if_pos ⟨h0, h1⟩
def hexD : Bs := [48, 49, 50, 51, 52, 53, 54, 55, 56, 57, 97, 98, 99, 100, 101, 102]
def dig (k : Nat) : UInt8 := hexD.getD k 0
def hexL (n : Nat) : Bs := if n < 16 then [dig n] else hexL (n / 16) ++ [dig (n % 16)]
termination_by n
decreasing_by omega
theorem hexL_lt {n : Nat} (h : n < 16) : hexL n = [dig n] := by rw [hexL, if_pos h]
theorem hexL_ge {n : Nat} (h : ¬ n < 16) : hexL n = hexL (n / 16) ++ [dig (n % 16)] := by rw [hexL, if_neg h]
theorem hexL_pos : ∀ n, 0 < (hexL n).length := by
  intro n
  by_cases h : n < 16
  · rw [hexL_lt h]; simp
  · rw [hexL_ge h]; simp
theorem hexL_le : ∀ (k n : Nat), n < 16 ^ (k + 1) → (hexL n).length ≤ k + 1 := by
  intro k
  induction k with
  | zero => intro n h; rw [hexL_lt (by simpa using h)]; simp
  | succ k ih =>
    intro n h
    by_cases c : n < 16
    · rw [hexL_lt c]; simp
    · rw [hexL_ge c, List.length_append]
      have := ih (n / 16) (by rw [Nat.pow_succ] at h; exact Nat.div_lt_of_lt_mul (by omega))
      simp; omega
theorem dig_run : ∀ k : Nat, k < 16 → runeS ((dig k).toNat : Int) = [dig k] := by decide +kernel
theorem m43_eq (n : Int) (h0 : 0 ≤ n) (h1 : n < 2 ^ 50) : m43 n 16 = some (hexL n.toNat, 0) := by
  unfold m43
  rw [if_neg (d_neg (by omega))]
  unfold l43_13
  refine (iter_g (fun (x : Int × Int × Bs) => x.2.1 = 16 ∧ 0 ≤ x.1 ∧ x.1 < 2 ^ 50 ∧ (x.2.2.length : Int) + x.1 < 2 ^ 51) (fun (x : Int × Int × Bs) => x.1.toNat) (fun (x : Int × Int × Bs) => some (hexL x.1.toNat ++ x.2.2, 0)) ?_ (n, 16, []) ⟨rfl, h0, h1, by simp; omega⟩).trans (by simp)
  rintro ⟨n, b, s⟩ hI
  dsimp only at hI ⊢
  obtain ⟨rfl, h0, h1, h2⟩ := hI
  unfold s43_13
  have e1 : n.tmod 16 = n % 16 := Int.tmod_eq_emod_of_nonneg h0
  have e2 : wu64 (n.tdiv 16) = n / 16 := by rw [Int.tdiv_eq_ediv_of_nonneg h0, wu64m]; exact Int.emod_eq_of_lt (by omega) (by omega)
  have e3 : (([48, 49, 50, 51, 52, 53, 54, 55, 56, 57, 97, 98, 99, 100, 101, 102] : Bs).getD (n % 16).toNat 0) = dig (n.toNat % 16) := by
    unfold dig hexD
    rw [show (n % 16).toNat = n.toNat % 16 by omega]
  rw [if_pos (by decide), e1, if_pos ⟨by omega, by omega⟩, e2, e3, dig_run _ (by omega), if_pos (by simp; omega)]
  by_cases c : n / 16 = 0
  · right
    rw [if_pos (by simpa using c), hexL_lt (by omega), show n.toNat % 16 = n.toNat by omega]
    rfl
  · left
    rw [if_neg (by simpa using c)]
    refine ⟨_, rfl, ⟨rfl, by (try dsimp only); omega, by (try dsimp only); omega, by simp; omega⟩, by (try dsimp only); omega, ?_⟩
    dsimp only
    rw [hexL_ge (n := n.toNat) (by omega), show (n / 16).toNat = n.toNat / 16 by omega, List.append_assoc]
theorem and15 (u : Int) (h0 : 0 ≤ u) (h1 : u < 2 ^ 64) : ib_and .u64 u 15 = u % 16 := by
  have h : (BitVec.ofInt 64 u &&& BitVec.ofInt 64 15).toNat = u.toNat % 16 := by
    rw [BitVec.toNat_and]
    have a : (BitVec.ofInt 64 u).toNat = u.toNat := by
      rw [BitVec.toNat_ofInt]; omega
    have b : (BitVec.ofInt 64 15).toNat = 2 ^ 4 - 1 := by decide
    rw [a, b, Nat.and_two_pow_sub_one_eq_mod]
  show wu64 _ = _
  rw [show (BitVec.ofInt IntKind.u64.bits u &&& BitVec.ofInt IntKind.u64.bits 15).toNat = u.toNat % 16 from h, wu64m]
  omega
theorem shr4 (u : Int) (h0 : 0 ≤ u) : ib_shr .u64 u 4 = u / 16 := by
  show u.fdiv (2 ^ 4) = u / 16
  rw [Int.fdiv_eq_ediv_of_nonneg _ (by decide)]
  rfl
theorem set_drop {l : Bs} {i : Nat} {x : UInt8} (h : i < l.length) : (l.set i x).drop i = x :: l.drop (i + 1) := by
  rw [List.drop_set, if_neg (by omega), Nat.sub_self, List.drop_eq_getElem_cons h, List.set_cons_zero]
theorem dig36 : ∀ k : Nat, k < 16 → (([48, 49, 50, 51, 52, 53, 54, 55, 56, 57, 97, 98, 99, 100, 101, 102, 103, 104, 105, 106, 107, 108, 109, 110, 111, 112, 113, 114, 115, 116, 117, 118, 119, 120, 121, 122] : Bs).getD k 0) = dig k := by decide +kernel
theorem m83_eq (n : Int) (h0 : 0 ≤ n) (h1 : n < 2 ^ 50) : ∃ r, m83 n = some r ∧ r.2.2 = hexL n.toNat := by
  have h15 : n.toNat < 16 ^ 15 := by
    have : (16 : Nat) ^ 15 = 1152921504606846976 := by decide
    omega
  unfold m83 m92
  rw [Option.bind_some, if_pos rfl]
  unfold l83_30
  refine iter_post (fun (x : List UInt8 × Int × List UInt8 × Bs × Int × List UInt8) => ∃ k : Nat, 1 ≤ k ∧ k ≤ 15 ∧ x.2.2.2.2.1 = 50 + k ∧ 0 ≤ x.2.1 ∧ x.2.1 < 2 ^ 50 ∧ x.2.1.toNat < 16 ^ k ∧ x.2.2.2.2.2.length = 65 ∧ hexL n.toNat = hexL x.2.1.toNat ++ x.2.2.2.2.2.drop (50 + k)) (fun x => x.2.1.toNat) (fun r : R83 => r.2.2 = hexL n.toNat) ?_ _ ⟨15, by decide, by decide, rfl, h0, h1, h15, zB_length 65, by dsimp only; rw [List.drop_eq_nil_of_le (by rw [zB_length]; omega), List.append_nil]⟩
  rintro ⟨d, u, d10, s, i, h⟩ ⟨k, k1, k2, hi, g0, g1, g2, g3, g4⟩
  dsimp only at hi g0 g1 g2 g3 g4 ⊢
  subst hi
  unfold s83_30
  have e50 : w64 (50 + (k : Int) - 1) = ((49 + k : Nat) : Int) := by rw [w64_eq _ (by omega) (by omega)]; omega
  have e51 : (((49 + k : Nat) : Int)).toNat = 49 + k := Int.toNat_natCast _
  by_cases c : 16 ≤ u
  · left
    have hk : 2 ≤ k := by
      by_cases q : k = 1
      · subst q; simp at g2; omega
      · omega
    rw [if_pos (d_pos c), and15 u g0 (by omega), if_pos ⟨by omega, by omega⟩, e50, e51, if_pos ⟨by omega, by omega⟩, if_pos (by omega), shr4 u g0]
    refine ⟨_, rfl, ⟨k - 1, by omega, by omega, by (try dsimp only); omega, by (try dsimp only); omega, by (try dsimp only); omega, ?_, by simp [g3], ?_⟩, by (try dsimp only); omega⟩
    · dsimp only
      have : (16 : Nat) ^ k = 16 ^ (k - 1) * 16 := by rw [← Nat.pow_succ]; congr 1; omega
      omega
    · dsimp only
      rw [show 50 + (k - 1) = 49 + k by omega, set_drop (by omega), show 49 + k + 1 = 50 + k by omega, show (u % 16).toNat = u.toNat % 16 by omega, dig36 _ (by omega), g4, hexL_ge (n := u.toNat) (by omega), show (u / 16).toNat = u.toNat / 16 by omega, List.append_assoc]
      rfl
  · right
    rw [if_neg (d_neg c)]
    unfold j83_43 j83_68
    rw [if_pos ⟨g0, by omega⟩, e50, e51, if_pos ⟨by omega, by omega⟩, if_pos (by omega), bnd_of (by omega) (by omega), Option.bind_some, e51, if_pos (by simp [g3]; omega)]
    refine ⟨_, rfl, ?_⟩
    dsimp only
    rw [List.take_of_length_le (by simp [g3]), set_drop (by omega), show 49 + k + 1 = 50 + k by omega, dig36 _ (by omega), g4, hexL_lt (by omega)]
    rfl
theorem m23_eq (n : Nat) (h1 : n < 2 ^ 50) : m23 (wu64 (n : Int)) = some (hexL n, 0) := by
  have e : wu64 (n : Int) = n := by rw [wu64m]; exact Int.emod_eq_of_lt (by omega) (by omega)
  obtain ⟨r, h2, h3⟩ := m83_eq (n : Int) (by omega) (by omega)
  unfold m23 m42 m56 m70
  rw [e, if_neg (d_neg (by omega)), h2]
  simp only [Option.bind_some, h3, Int.toNat_natCast]
theorem m24_eq (n : Nat) (h1 : n < 2 ^ 50) : m24 (wu64 (n : Int)) = some (hexL n, 0) := by
  have e : wu64 (n : Int) = n := by rw [wu64m]; exact Int.emod_eq_of_lt (by omega) (by omega)
  unfold m24
  rw [e, m43_eq _ (by omega) (by omega)]
  simp only [Option.bind_some, Int.toNat_natCast]
abbrev Part := Bool × List UInt8
def part (p : Bs) : Bs := if p = [] then [] else hexL p.length ++ [13, 10] ++ p ++ [13, 10]
def partsL (l : List Part) : Bs := (l.map fun p => part p.2).flatten
def sumL (l : List Part) : Nat := (l.map fun p => p.2.length).sum
theorem part_le {p : Bs} (h : p.length ≤ 4096) : (part p).length ≤ p.length + 8 ∧ (p = [] → part p = []) := by
  unfold part
  split
  · rename_i e; subst e; exact ⟨by simp, fun _ => rfl⟩
  · rename_i e
    have := hexL_le 3 p.length (by omega)
    exact ⟨by simp; omega, fun q => absurd q e⟩
theorem partsL_le : ∀ l : List Part, sumL l ≤ 4096 → (partsL l).length ≤ 9 * sumL l := by
  intro l
  induction l with
  | nil => intro _; simp [partsL, sumL]
  | cons p l ih =>
    intro h
    have hs : sumL (p :: l) = p.2.length + sumL l := by simp [sumL]
    have hp : partsL (p :: l) = part p.2 ++ partsL l := by simp [partsL]
    have := ih (by omega)
    have h2 := part_le (p := p.2) (by omega)
    rw [hp, List.length_append, hs]
    by_cases e : p.2 = []
    · rw [h2.2 e]; simp; omega
    · have : 0 < p.2.length := List.length_pos_iff.2 e
      omega
theorem part_take {l : List Part} {i : Nat} (h : i < l.length) : partsL (l.take (i + 1)) = partsL (l.take i) ++ part (l.getD i default).2 ∧ sumL (l.take (i + 1)) = sumL (l.take i) + (l.getD i default).2.length := by
  have e : l.getD i default = l[i] := by simp [List.getD_eq_getElem?_getD, h]
  rw [List.take_succ_eq_append_getElem h, e]
  constructor
  · simp only [partsL, List.map_append, List.flatten_append, List.map_cons, List.map_nil, List.flatten_cons, List.flatten_nil, List.append_nil]
  · simp only [sumL, List.map_append, List.sum_append, List.map_cons, List.map_nil, List.sum_cons, List.sum_nil, Nat.add_zero]
theorem sum_take (l : List Part) (i : Nat) : sumL (l.take i) ≤ sumL l := by
  conv => rhs; rw [← List.take_append_drop i l]
  simp only [sumL, List.map_append, List.sum_append]
  omega
def putS (l : List Part) : Option Bs := if sumL l ≤ 4096 then some (partsL l ++ [48, 13, 10, 13, 10]) else none
def nB : R13 → Bs × Int
  | .inl (z, x, e) => (x, e)
  | .inr (z, x, e) => (x, e)
def putR : Option Bs → Bs × Int
  | some x => (x, 0)
  | none => ([], 21)
theorem m13_eq (z : Bool) (l : List Part) (hl : l.length < 2 ^ 47) (hp : ∀ p ∈ l, p.2.length < 2 ^ 47) : ∃ r, m13 z l = some r ∧ nB r = putR (putS l) := by
  unfold m13 l13_10
  refine iter_post (fun (x : Bool × List (Bool × List UInt8) × Int × Bool × List UInt8 × Int) => ∃ i : Nat, x.2.1 = l ∧ i ≤ l.length ∧ x.2.2.2.2.2 = i ∧ x.2.2.1 = sumL (l.take i) ∧ sumL (l.take i) ≤ 4096 ∧ x.2.2.2.2.1 = partsL (l.take i)) (fun x => ((l.length : Int) - x.2.2.2.2.2).toNat) (fun r : R13 => nB r = putR (putS l)) ?_ _ ⟨0, rfl, Nat.zero_le _, rfl, rfl, by simp [sumL], rfl⟩
  rintro ⟨z, l', tot, o0, o1, ii⟩ ⟨i, h1, h2, h3, h4, h5, h6⟩
  dsimp only at h1 h3 h4 h6 ⊢
  subst h1 h3 h4 h6
  unfold s13_10
  have hx := partsL_le (l'.take i) h5
  by_cases c : i < l'.length
  · have hpl : (l'.getD i default).2.length < 2 ^ 47 := by
      have e : l'.getD i default = l'[i] := by simp [List.getD_eq_getElem?_getD, c]
      rw [e]; exact hp _ (List.getElem_mem c)
    obtain ⟨t1, t2⟩ := part_take c
    rw [if_pos (d_pos (by omega)), if_pos ⟨by omega, by omega⟩, Int.toNat_natCast, w64_eq _ (by omega) (by omega)]
    generalize hq : (l'.getD i default).2 = q at *
    by_cases c2 : 4096 < (sumL (l'.take i) : Int) + q.length
    · right
      rw [if_pos (d_pos c2)]
      refine ⟨_, rfl, ?_⟩
      have := sum_take l' (i + 1)
      unfold putS
      rw [if_neg (by omega)]
      rfl
    · left
      rw [if_neg (d_neg c2)]
      have hpart : q ≠ [] → (part q).length = (hexL q.length).length + q.length + 4 := by
        intro e; unfold part; rw [if_neg e]; simp; omega
      have hh := hexL_le 3 q.length (by omega)
      unfold j13_42
      by_cases c3 : q = []
      · subst c3
        rw [if_neg (by simp), w64_eq _ (by omega) (by omega)]
        refine ⟨_, rfl, ⟨i + 1, rfl, by omega, by (try dsimp only); omega, by dsimp only; rw [t2]; simp, by rw [t2]; simp; exact h5, by dsimp only; rw [t1]; simp [part]⟩, by (try dsimp only); omega⟩
      · have hpos : 0 < q.length := List.length_pos_iff.2 c3
        rw [if_pos (by simp; omega), m24_eq _ (by omega), Option.bind_some, if_pos (.inr (by (try dsimp only); omega)), if_pos (by simp; omega), if_pos (.inr (by simp; omega)), if_pos (by simp; omega), w64_eq _ (by omega) (by omega)]
        refine ⟨_, rfl, ⟨i + 1, rfl, by omega, by (try dsimp only); omega, by dsimp only; rw [t2]; omega, by rw [t2]; omega, ?_⟩, by (try dsimp only); omega⟩
        dsimp only
        rw [t1]
        unfold part
        rw [if_neg c3]
        simp
  · right
    have e : l'.take i = l' := List.take_of_length_le (by omega)
    rw [if_neg (d_neg (by omega))]
    rw [e] at h5 hx ⊢
    unfold j13_43
    rw [if_pos (by omega)]
    refine ⟨_, rfl, ?_⟩
    unfold putS
    rw [if_pos h5]
    rfl
def nP : R12 → Bs × Int
  | .inl e => ([], e)
  | .inr (e, h) => (h, e)
theorem l12_eq (z : Bool) (l : List Part) (hl : l.length < 2 ^ 47) (hs : sumL l ≤ 4096) : ∃ r, l12_35 z l (l.length : Int) 0 = some r ∧ r = .inr (0, partsL l ++ [48, 13, 10, 13, 10]) := by
  unfold l12_35
  have I0 : ∀ i : Nat, i ≤ l.length → sumL (l.take i) ≤ 4096 := fun i _ => Nat.le_trans (sum_take l i) hs
  refine iter_post (fun (x : (Bool × List (Bool × List UInt8) × Int × Int) ⊕ (Bool × List (Bool × List UInt8) × Int × Int × List UInt8)) => ∃ i : Nat, i ≤ l.length ∧ match x with
      | .inl (z, l', n, t) => l' = l ∧ n = l.length ∧ t = i ∧ partsL (l.take i) = []
      | .inr (z, l', n, t, h) => l' = l ∧ n = l.length ∧ t = i ∧ h = partsL (l.take i))
    (fun x => match x with | .inl (z, l', n, t) => ((l.length : Int) - t).toNat | .inr (z, l', n, t, h) => ((l.length : Int) - t).toNat) (fun r : R12 => r = .inr (0, partsL l ++ [48, 13, 10, 13, 10])) ?_ _ ⟨0, Nat.zero_le _, rfl, rfl, rfl, rfl⟩
  rintro (⟨z, l', n, t⟩ | ⟨z, l', n, t, h⟩) ⟨i, hi, hI⟩
  · obtain ⟨rfl, rfl, rfl, h0⟩ := hI
    rw [show s12_35 (.inl (z, l', (l'.length : Int), (i : Int))) = s12_35x0 z l' (l'.length : Int) (i : Int) from rfl]
    unfold s12_35x0
    by_cases c : i < l'.length
    · left
      obtain ⟨t1, t2⟩ := part_take c
      have h5 := I0 (i + 1) (by omega)
      rw [if_pos (d_pos (by omega))]
      unfold j12_42
      rw [if_pos ⟨by omega, by omega⟩, Int.toNat_natCast]
      generalize hq : (l'.getD i default).2 = q at *
      rw [h0, List.nil_append] at t1
      by_cases c3 : q = []
      · subst c3
        rw [if_pos (by simp)]
        unfold j12_61
        rw [w64_eq _ (by omega) (by omega)]
        exact ⟨_, rfl, ⟨i + 1, by omega, rfl, rfl, by (try dsimp only); omega, by rw [t1]; rfl⟩, by (try dsimp only); omega⟩
      · have hpos : 0 < q.length := List.length_pos_iff.2 c3
        have hh := hexL_le 3 q.length (by omega)
        have hh0 := hexL_pos q.length
        rw [if_neg (by simp; exact c3)]
        unfold j12_52
        rw [m23_eq _ (by omega), Option.bind_some, if_neg (by simp; exact List.ne_nil_of_length_pos hh0), if_pos (by (try dsimp only); omega), if_pos (by (try dsimp only); omega), if_neg (by simp; exact c3), if_pos (by simp; omega), if_pos (by simp; omega)]
        unfold j12_61v3
        rw [w64_eq _ (by omega) (by omega)]
        refine ⟨_, rfl, ⟨i + 1, by omega, rfl, rfl, by (try dsimp only); omega, ?_⟩, by (try dsimp only); omega⟩
        rw [t1]
        unfold part
        rw [if_neg c3]
    · right
      rw [if_neg (d_neg (by omega))]
      unfold j12_62
      have e : l'.take i = l' := List.take_of_length_le (by omega)
      rw [e] at h0
      refine ⟨_, rfl, ?_⟩
      rw [h0]
      rfl
  · obtain ⟨rfl, rfl, rfl, rfl⟩ := hI
    rw [show s12_35 (.inr (z, l', (l'.length : Int), (i : Int), partsL (l'.take i))) = s12_35x1 z l' (l'.length : Int) (i : Int) (partsL (l'.take i)) from rfl]
    unfold s12_35x1
    have hx := partsL_le (l'.take i) (I0 i hi)
    have h4 := I0 i hi
    by_cases c : i < l'.length
    · left
      obtain ⟨t1, t2⟩ := part_take c
      have h5 := I0 (i + 1) (by omega)
      rw [if_pos (d_pos (by omega))]
      unfold j12_42v1
      rw [if_pos ⟨by omega, by omega⟩, Int.toNat_natCast]
      generalize hq : (l'.getD i default).2 = q at *
      by_cases c3 : q = []
      · subst c3
        rw [if_pos (by simp)]
        unfold j12_61v4
        rw [w64_eq _ (by omega) (by omega)]
        exact ⟨_, rfl, ⟨i + 1, by omega, rfl, rfl, by (try dsimp only); omega, by rw [t1]; simp [part]⟩, by (try dsimp only); omega⟩
      · have hpos : 0 < q.length := List.length_pos_iff.2 c3
        have hh := hexL_le 3 q.length (by omega)
        have hh0 := hexL_pos q.length
        rw [if_neg (by simp; exact c3)]
        unfold j12_52v1
        rw [m23_eq _ (by omega), Option.bind_some, if_neg (by simp; exact List.ne_nil_of_length_pos hh0), if_pos (by (try dsimp only); omega), if_pos (by simp; omega), if_neg (by simp; exact c3), if_pos (by simp; omega), if_pos (by simp; omega)]
        unfold j12_61v5
        rw [w64_eq _ (by omega) (by omega)]
        refine ⟨_, rfl, ⟨i + 1, by omega, rfl, rfl, by (try dsimp only); omega, ?_⟩, by (try dsimp only); omega⟩
        rw [t1]
        unfold part
        rw [if_neg c3]
        simp
    · right
      rw [if_neg (d_neg (by omega))]
      unfold j12_62v1
      have e : l'.take i = l' := List.take_of_length_le (by omega)
      rw [e] at hx h4 ⊢
      rw [if_pos (by omega)]
      exact ⟨_, rfl, rfl⟩
theorem m12_eq (z : Bool) (l : List Part) (hl : l.length < 2 ^ 47) (hp : ∀ p ∈ l, p.2.length < 2 ^ 47) : ∃ r, m12 z l = some r ∧ nP r = putR (putS l) := by
  unfold m12 l12_8
  refine iter_post (fun (x : Bool × List (Bool × List UInt8) × Int × Bool × List (Bool × List UInt8) × Int × Int) => ∃ i : Nat, x.2.1 = l ∧ i ≤ l.length ∧ x.2.2.1 = sumL (l.take i) ∧ sumL (l.take i) ≤ 4096 ∧ x.2.2.2.2.1 = l ∧ x.2.2.2.2.2.1 = l.length ∧ x.2.2.2.2.2.2 = i) (fun x => ((l.length : Int) - x.2.2.2.2.2.2).toNat) (fun r : R12 => nP r = putR (putS l)) ?_ _ ⟨0, rfl, Nat.zero_le _, rfl, by simp [sumL], rfl, rfl, rfl⟩
  rintro ⟨z, l', tot, z2, l2, n, t⟩ ⟨i, h1, h2, h3, h4, h5, h6, h7⟩
  dsimp only at h1 h3 h5 h6 h7 ⊢
  subst h3 h6 h7
  obtain rfl : l' = l := h1
  obtain rfl : l' = l2 := h5.symm
  unfold s12_8
  by_cases c : i < l'.length
  · have hpl : (l'.getD i default).2.length < 2 ^ 47 := by
      have e : l'.getD i default = l'[i] := by simp [List.getD_eq_getElem?_getD, c]
      rw [e]; exact hp _ (List.getElem_mem c)
    obtain ⟨t1, t2⟩ := part_take c
    rw [if_pos (d_pos (by omega)), if_pos ⟨by omega, by omega⟩, Int.toNat_natCast, w64_eq (4096 - (sumL (l'.take i) : Int)) (by omega) (by omega)]
    generalize hq : (l'.getD i default).2 = q at *
    by_cases c2 : 4096 - (sumL (l'.take i) : Int) < q.length
    · right
      rw [if_pos (d_pos c2)]
      refine ⟨_, rfl, ?_⟩
      have := sum_take l' (i + 1)
      unfold putS
      rw [if_neg (by omega)]
      rfl
    · left
      rw [if_neg (d_neg c2), w64_eq _ (by omega) (by omega), w64_eq _ (by omega) (by omega)]
      exact ⟨_, rfl, ⟨i + 1, rfl, by omega, by dsimp only; rw [t2]; omega, by rw [t2]; omega, rfl, rfl, by (try dsimp only); omega⟩, by (try dsimp only); omega⟩
  · right
    have e : l'.take i = l' := List.take_of_length_le (by omega)
    rw [e] at h4
    rw [if_neg (d_neg (by omega))]
    unfold j12_29
    obtain ⟨r, k1, rfl⟩ := l12_eq z l' hl h4
    rw [k1]
    refine ⟨_, rfl, ?_⟩
    unfold putS
    rw [if_pos h4]
    rfl
end Go.Ab
end
section
set_option linter.all false
set_option maxRecDepth 100000
open Go Go.Ab Go.Proofs Go.Proofs.YtaohepmbkepmiaaDoor
namespace Go.Ab
def ownP (l : List Part) : List Part := l.map fun p => (false, p.2)
theorem ownP_len (l : List Part) : (ownP l).length = l.length := by simp [ownP]
theorem ownP_putS (l : List Part) : putS (ownP l) = putS l := by
  have a : sumL (ownP l) = sumL l := by simp [sumL, ownP, List.map_map, Function.comp_def]
  have b : partsL (ownP l) = partsL l := by simp [partsL, ownP, List.map_map, Function.comp_def]
  unfold putS
  rw [a, b]
theorem ownP_getD {l : List Part} {i : Nat} (h : i < l.length) : ((ownP l).getD i default).2 = (l.getD i default).2 := by
  have e : l.getD i default = l[i] := by simp [List.getD_eq_getElem?_getD, h]
  have e2 : (ownP l).getD i default = (ownP l)[i]'(by rw [ownP_len]; exact h) := by simp [List.getD_eq_getElem?_getD, ownP_len, h]
  rw [e, e2]
  simp [ownP]
theorem l54_eq (z w : Bool) (l : List Part) (hl : l.length < 2 ^ 47) : l4_54 z l w (ownP l) (l.length : Int) 0 = some true := by
  unfold l4_54
  refine iter_to (fun (x : (Bool × List (Bool × List UInt8) × Bool × List (Bool × List UInt8) × Int × Int)) => x.2.1 = l ∧ x.2.2.2.1 = ownP l ∧ x.2.2.2.2.1 = l.length ∧ 0 ≤ x.2.2.2.2.2 ∧ x.2.2.2.2.2 ≤ l.length) (fun x => ((l.length : Int) - x.2.2.2.2.2).toNat) (some true) ?_ _ ⟨rfl, rfl, rfl, Int.le_refl 0, by dsimp only; omega⟩
  rintro ⟨z, l', w, o, n, i⟩ ⟨h1, h2, h3, h4, h5⟩
  dsimp only at h1 h2 h3 h4 h5 ⊢
  subst h2 h3
  obtain rfl : l' = l := h1
  unfold s4_54
  by_cases c : i < l'.length
  · left
    rw [if_pos (d_pos c), if_pos ⟨h4, by rw [ownP_len]; exact c⟩, if_pos ⟨h4, c⟩]
    unfold m10
    rw [Option.bind_some, ownP_getD (by omega), if_pos (by simp), w64_eq _ (by omega) (by omega)]
    exact ⟨_, rfl, ⟨rfl, rfl, rfl, by dsimp only; omega, by dsimp only; omega⟩, by dsimp only; omega⟩
  · right
    rw [if_neg (d_neg c)]
    rfl
theorem l37n (z w : Bool) (l : List Part) (hl : l.length < 2 ^ 47) : l4_37 z l w (ownP l) 0 0 = some true := by
  unfold l4_37
  refine iter_r ?_
  dsimp only
  unfold s4_37 j4_50
  rw [if_neg (by decide), l54_eq z w l hl]
  rfl
theorem l37o (z w : Bool) (l : List Part) (hl : l.length < 2 ^ 47) (n : Nat) (h : Bs) (hn : n = h.length) (hb : n < 2 ^ 60) : l4_37v1 z l w (ownP l) n (n : Int) 0 h = some true := by
  unfold l4_37v1
  refine iter_to (fun (x : (Bool × List (Bool × List UInt8) × Bool × List (Bool × List UInt8) × Nat × Int × Int × List UInt8)) => x.1 = z ∧ x.2.1 = l ∧ x.2.2.1 = w ∧ x.2.2.2.1 = ownP l ∧ x.2.2.2.2.1 = n ∧ x.2.2.2.2.2.1 = n ∧ 0 ≤ x.2.2.2.2.2.2.1 ∧ x.2.2.2.2.2.2.1 ≤ n ∧ x.2.2.2.2.2.2.2.length = n) (fun x => ((n : Int) - x.2.2.2.2.2.2.1).toNat) (some true) ?_ _ ⟨rfl, rfl, rfl, rfl, rfl, rfl, Int.le_refl 0, by dsimp only; omega, hn.symm⟩
  rintro ⟨z', l', w', o, n', t, i, h'⟩ ⟨h1, h2, h3, h4, h5, h6, h7, h8, h9⟩
  dsimp only at h1 h2 h3 h4 h5 h6 h7 h8 h9 ⊢
  subst h1 h3 h4 h6
  obtain rfl : l' = l := h2
  obtain rfl : n' = n := h5
  unfold s4_37v1
  by_cases d : i < n'
  · left
    rw [if_pos (d_pos d)]
    unfold j4_44v1
    rw [if_pos ⟨h7, d⟩, if_pos (by omega), w64_eq _ (by omega) (by omega)]
    exact ⟨_, rfl, ⟨rfl, rfl, rfl, rfl, rfl, rfl, by dsimp only; omega, by dsimp only; omega, by simp; omega⟩, by dsimp only; omega⟩
  · right
    rw [if_neg (d_neg d)]
    unfold j4_50v1
    rw [l54_eq z' w' l' hl]
theorem putS_len {l : List Part} {x : Bs} (h : putS l = some x) : x.length < 2 ^ 60 := by
  unfold putS at h
  split at h
  · rename_i c
    cases h
    have := partsL_le l c
    rw [List.length_append]
    simp
    omega
  · cases h
theorem j21_eq (z w : Bool) (l : List Part) (hl : l.length < 2 ^ 47) (hp : ∀ p ∈ l, p.2.length < 2 ^ 47) : j4_21 z l w (ownP l) = some true := by
  have hp2 : ∀ p ∈ ownP l, p.2.length < 2 ^ 47 := by
    intro p h
    obtain ⟨q, hq, rfl⟩ := List.mem_map.1 h
    exact hp q hq
  obtain ⟨r, h1, h2⟩ := m12_eq w (ownP l) (by rw [ownP_len]; exact hl) hp2
  obtain ⟨q, h3, h4⟩ := m13_eq z l hl hp
  rw [ownP_putS] at h2
  have h5 := h2.trans h4.symm
  unfold j4_21
  rw [h1, Option.bind_some, h3]
  rcases r with e | ⟨e, h⟩
  · have fin : ∀ (x : Bs) (e' : Int), (([] : Bs), e) = (x, e') → x = [] ∧ e = e' := by intro x e' k; cases k; exact ⟨rfl, rfl⟩
    rcases q with ⟨z1, x1, e1⟩ | ⟨z1, x1, e1⟩
    · obtain ⟨rfl, rfl⟩ := fin _ _ h5
      simp only [Option.bind_some]
      rw [if_pos (by simp)]
      unfold m10 j4_28 j4_33
      simp only [Option.bind_some, beq_self_eq_true, Bool.not_true]
      rw [if_neg (by simp)]
      exact l37n z w l hl
    · obtain ⟨rfl, rfl⟩ := fin _ _ h5
      simp only [Option.bind_some]
      rw [if_pos (by simp)]
      unfold m10 j4_28v1 j4_33v1
      simp only [Option.bind_some, beq_self_eq_true, Bool.not_true]
      rw [if_neg (by simp)]
      exact l37n z w l hl
  · have fin : ∀ (x : Bs) (e' : Int), (h, e) = (x, e') → x = h ∧ e = e' := by intro x e' k; cases k; exact ⟨rfl, rfl⟩
    have hlen : h.length < 2 ^ 60 := by
      have h6 : (h, e) = putR (putS l) := h2
      cases hq : putS l with
      | none => rw [hq] at h6; cases h6; simp
      | some y => rw [hq] at h6; cases h6; exact putS_len hq
    rcases q with ⟨z1, x1, e1⟩ | ⟨z1, x1, e1⟩
    · obtain ⟨rfl, rfl⟩ := fin _ _ h5
      simp only [Option.bind_some]
      rw [if_pos (by simp)]
      unfold m10a j4_28v2 j4_33v2
      rw [if_pos (Nat.le_refl _), List.take_length]
      simp only [Option.bind_some, beq_self_eq_true, Bool.not_true]
      rw [if_neg (by simp)]
      exact l37o z w l hl _ _ rfl hlen
    · obtain ⟨rfl, rfl⟩ := fin _ _ h5
      simp only [Option.bind_some]
      rw [if_pos (by simp)]
      unfold m10a j4_28v3 j4_33v3
      rw [if_pos (Nat.le_refl _), List.take_length]
      simp only [Option.bind_some, beq_self_eq_true, Bool.not_true]
      rw [if_neg (by simp)]
      exact l37o z w l hl _ _ rfl hlen
theorem chunkPuts (z : Bool) (l : List Part) (hl24 : l.length * 24 ≤ 140737488355328) (hp : ∀ p ∈ l, p.2.length < 2 ^ 47) : m4 z l = some true := by
  have hl : l.length < 2 ^ 47 := by omega
  unfold m4 l4_8
  refine iter_to (fun (x : (Bool × List (Bool × List UInt8) × Bool × List (Bool × List UInt8) × Bool × List (Bool × List UInt8) × Int × Int)) => ∃ i : Nat, i ≤ l.length ∧ x.2.1 = l ∧ x.2.2.2.1 = ownP (l.take i) ∧ x.2.2.2.2.2.1 = l ∧ x.2.2.2.2.2.2.1 = l.length ∧ x.2.2.2.2.2.2.2 = i) (fun x => ((l.length : Int) - x.2.2.2.2.2.2.2).toNat) (some true) ?_ _ ⟨0, Nat.zero_le _, rfl, rfl, rfl, rfl, rfl⟩
  rintro ⟨z, l', w, o, z2, l2, n, t⟩ ⟨i, h0, h1, h2, h3, h4, h5⟩
  dsimp only at h1 h2 h3 h4 h5 ⊢
  subst h2 h4 h5
  obtain rfl : l' = l := h1
  obtain rfl : l' = l2 := h3.symm
  unfold s4_8
  by_cases c : i < l'.length
  · left
    have e : l'.getD i default = l'[i] := by simp [List.getD_eq_getElem?_getD, c]
    have hpl : (l'.getD i default).2.length < 2 ^ 47 := by rw [e]; exact hp _ (List.getElem_mem c)
    have ho : (ownP (l'.take i)).length = i := by rw [ownP_len, List.length_take]; omega
    rw [if_pos (d_pos (by omega)), if_pos ⟨by omega, by omega⟩, Int.toNat_natCast, if_pos (.inr (by omega)), if_pos (by omega), w64_eq _ (by omega) (by omega)]
    refine ⟨_, rfl, ⟨i + 1, by omega, rfl, ?_, rfl, rfl, by dsimp only; omega⟩, by dsimp only; omega⟩
    dsimp only
    rw [List.take_succ_eq_append_getElem c, e]
    simp only [ownP, List.map_append, List.map_cons, List.map_nil]
  · right
    have e : l'.take i = l' := List.take_of_length_le (by omega)
    rw [if_neg (d_neg (by omega)), e, j21_eq z w l' hl hp]
end Go.Ab
end
