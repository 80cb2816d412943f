/- The evaluator's operations over typed values: the rewriting laws that the printed proofs use. -/
import Derived.Test.YteenmbcmgcnkmaaGreatDoorAb23
set_option linter.unusedVariables false
set_option linter.unusedSimpArgs false
namespace Go.Ab
open Go

/-! ### places in code -/
def bodyOf (f : Func) : Code := match f.body with | some c => c | none => .skip
def cA : Code → Code
  | .seq a _ => a
  | .cond _ a _ => a
  | .block _ a => a
  | .loop a => a
  | .scope a => a
  | c => c
def cB : Code → Code
  | .seq _ b => b
  | .cond _ _ b => b
  | c => c
def opsOf : Code → List Oper
  | .region _ ops _ => ops.toList
  | _ => []
def isRg : Code → Bool
  | .region _ _ d => !d
  | _ => false
def isDr : Code → Bool
  | .region _ _ d => d
  | _ => false
section
variable {E : Env} {fn : FuncId} {m : Nat} {call : Caller} {it : It} {c : Code} {st : St}
theorem den_rg (h : isRg c = true) : den E fn m call it c none st = regD (runOps E call (opsOf c) (opsOf c) st) := by
  cases c <;> simp [isRg] at h
  subst h
  rfl
theorem den_dr2 (h : (isDr c && (drawOk E (opsOf c) && (floats E (opsOf c)).isEmpty)) = true) : den E fn m call it c none st = regD (runOps E call (opsOf c) (opsOf c) st) := by
  cases c <;> simp only [isDr, Bool.false_and, Bool.false_eq_true] at h
  simp only [Bool.and_eq_true] at h
  obtain ⟨h1, h2⟩ := h
  subst h1
  exact den_dr (by simp only [Bool.and_eq_true]; exact h2)
end

/-! ### branching: the plain function on the right says where -/
section
variable {α β : Type} {L : Option β} {e : α → β} {x y : Option α}
theorem brB {b : Bool} (h1 : b = true → L = x.map e) (h0 : b = false → L = y.map e) : L = Option.map e (if b = true then x else y) := by
  cases b
  · simpa using h0 rfl
  · simpa using h1 rfl
theorem brP {p : Prop} [Decidable p] (h1 : p → L = x.map e) (h0 : ¬ p → L = none) : L = Option.map e (if p then x else none) := by
  by_cases h : p
  · simpa [h] using h1 h
  · simpa [h] using h0 h
theorem brM {γ : Type} {q : Option γ} {f : γ → Option α} (h0 : q = none → L = none) (h1 : ∀ r, q = some r → L = (f r).map e) : L = Option.map e (q.bind f) := by
  cases q with
  | none => simpa using h0 rfl
  | some r => simpa using h1 r rfl
end

/-! ### lists of typed elements -/
def enL {α : Type} (f : α → List D) (l : List α) : List (List D) := l.map f
def enB : UInt8 → List D := fun x => [.sc (.int .u8 (x.toNat : Int))]
theorem enB_e (x : UInt8) : enB x = [.sc (.int .u8 (x.toNat : Int))] := rfl
theorem enL_length {α : Type} (f : α → List D) (l : List α) : (enL f l).length = l.length := by simp [enL]
theorem enL_get {α : Type} [Inhabited α] (f : α → List D) (l : List α) (k : Nat) (h : k < l.length) : (enL f l).getD k [] = f (l.getD k default) := by
  simp [enL, List.getD, h]
theorem enL_take {α : Type} (f : α → List D) (l : List α) (k : Nat) : (enL f l).take k = enL f (l.take k) := by simp [enL, List.map_take]
theorem enL_drop {α : Type} (f : α → List D) (l : List α) (k : Nat) : (enL f l).drop k = enL f (l.drop k) := by simp [enL, List.map_drop]
theorem enL_all {α : Type} (f : α → List D) (sz : Nat) (h : ∀ x, (f x).length = sz) (l : List α) : ((enL f l).all fun e => e.length == sz) = true := by
  simp [enL, h]
theorem enB_a (l : List UInt8) : ((enL enB l).all fun e => e.length == 1) = true := enL_all enB 1 (fun _ => rfl) l
theorem encB_S (l : Bs) : encB (S l).data.toList = enL enB l := by rw [S_toList]; rfl
theorem bytesOf_en (l : Bs) : bytesOf (enL enB l) = some l := by
  unfold bytesOf enL
  induction l with
  | nil => rfl
  | cons x l ih =>
    rw [List.map_cons, List.mapM_cons, ih]
    simp [enB, byteOf]
theorem str_mk (l : Bs) : AV.str ⟨l.toArray⟩ = AV.str (S l) := rfl
def rz (nl : Bool) (sz : Nat) : Nat := bif nl then 0 else sz
theorem rz_t (sz : Nat) : rz true sz = 0 := rfl
theorem rz_f (sz : Nat) : rz false sz = sz := rfl

theorem getElem?_set_self' {α : Type} {l : List α} {k : Nat} {x y : α} (h : l[k]? = some x) : (l.set k y)[k]? = some y := by
  have : k < l.length := by rw [List.getElem?_eq_some_iff] at h; exact h.1
  simp [this]
theorem appendA_own {P : Program} {t e : TypeId} {α : Type} (f : α → List D) (sz by_ : Nat) (hf : ∀ x, (f x).length = sz) (ht : P.underlying t = some (.slice e)) (hs : szP P e = some sz)
    (hb : bytesP P e = some by_) {z : List C} (hz : zeroC P e = some z) (hzl : z.length = sz) (h0 : 0 < sz) (h1 : 0 < by_) {hp : Heap} {k : Nat} {nl : Bool} {a b : List α}
    (hk : hp[k]? = some (.row a.length (rz nl sz))) : appendA P false hp t (.own nl (enL f a) k) (enL f b) =
      if b = [] ∨ (a.length + b.length) * by_ ≤ 140737488355328 then some (.c (.own (nl && b.isEmpty) (enL f (a ++ b)) k), hp.set k (.row (a ++ b).length (rz (nl && b.isEmpty) sz))) else none := by
  have ha : ((enL f a).all fun e => e.length == sz) = true := enL_all f sz hf a
  have hbb : ((enL f b).all fun e => e.length == sz) = true := enL_all f sz hf b
  have hrz : rz nl sz = sz ∨ rz nl sz = 0 := by cases nl <;> simp [rz]
  have hset : ∀ x, hp[k]? = some x → hp.set k x = hp := by
    intro x hx
    apply List.ext_getElem?
    intro i
    by_cases hi : i = k
    · subst hi; rw [getElem?_set_self' hx, hx]
    · rw [List.getElem?_set]; simp [Ne.symm hi]
  cases b with
  | nil =>
    simp only [appendA, ht, hs, hb, hz, hzl, h0, h1, true_and, enL, List.map_nil, List.all_nil, if_true, List.append_nil, List.isEmpty_nil, Bool.and_true, true_or]
    rw [hset _ hk]
  | cons x b =>
    have h2 : enL f (x :: b) ≠ [] := by simp [enL]
    simp only [appendA, ht, hs, hb, hz, hzl, h0, h1, true_and, hbb, if_true, if_neg h2, hk, enL_length, hrz, ha, List.isEmpty_cons, Bool.and_false, reduceCtorEq, false_or, List.length_append, Bool.false_eq_true, false_and, if_false]
    have h3 : (2 : Nat) ^ 47 = 140737488355328 := by decide
    rw [h3]
    by_cases hc : (a.length + (x :: b).length) * by_ ≤ 140737488355328
    · rw [if_pos hc, if_pos hc]
      simp [enL, rz]
    · rw [if_neg hc, if_neg hc]
theorem appendA_nil {P : Program} {t e : TypeId} {α : Type} (f : α → List D) (sz by_ : Nat) (hf : ∀ x, (f x).length = sz) (ht : P.underlying t = some (.slice e)) (hs : szP P e = some sz)
    (hb : bytesP P e = some by_) {z : List C} (hz : zeroC P e = some z) (hzl : z.length = sz) (h0 : 0 < sz) (h1 : 0 < by_) {hp : Heap} {b : List α} : appendA P false hp t (.d (.lst true [])) (enL f b) =
      if b.isEmpty = true then some (.c (.d (.lst true [])), hp) else if b.length * by_ ≤ 140737488355328 then some (.c (.own false (enL f b) hp.length), hp ++ [.row b.length sz]) else none := by
  have hbb : ((enL f b).all fun e => e.length == sz) = true := enL_all f sz hf b
  cases b with
  | nil => simp only [appendA, ht, hs, hb, hz, hzl, h0, h1, true_and, enL, List.map_nil, List.all_nil, if_true, List.isEmpty_nil]
  | cons x b =>
    have h2 : enL f (x :: b) ≠ [] := by simp [enL]
    simp only [appendA, ht, hs, hb, hz, hzl, h0, h1, true_and, hbb, if_true, if_neg h2, enL_length, List.isEmpty_cons, Bool.false_eq_true, if_false]
    have h3 : (2 : Nat) ^ 47 = 140737488355328 := by decide
    rw [h3]
    by_cases hc : (x :: b).length * by_ ≤ 140737488355328
    · rw [if_pos hc, if_pos hc]
      simp only [newOwn, Bool.false_eq_true, if_false, enL_length]
    · rw [if_neg hc, if_neg hc]
theorem arr_get {α : Type} [Inhabited α] (f : α → D) (l : List α) (k : Nat) (h : k < l.length) : mkV false (((l.map fun x => C.d (f x)).drop k).take 1) = some (.c (.d (f (l.getD k default)))) := by
  have : k < (l.map fun x => C.d (f x)).length := by simpa using h
  rw [List.drop_eq_getElem_cons this]
  simp [mkV, h]

/-! ### numbers -/
def w64 (x : Int) : Int := IntKind.wrap .i64 x
def wu64 (x : Int) : Int := IntKind.wrap .u64 x
def w32 (x : Int) : Int := IntKind.wrap .i32 x
def wu32 (x : Int) : Int := IntKind.wrap .u32 x
def u8 (x : Int) : UInt8 := UInt8.ofNat (x % 256).toNat
theorem wr_w64 (x : Int) : IntKind.wrap .i64 x = w64 x := rfl
theorem wr_wu64 (x : Int) : IntKind.wrap .u64 x = wu64 x := rfl
theorem wr_w32 (x : Int) : IntKind.wrap .i32 x = w32 x := rfl
theorem wr_wu32 (x : Int) : IntKind.wrap .u32 x = wu32 x := rfl
theorem wr_u8 (x : Int) : IntKind.wrap .u8 x = ((u8 x).toNat : Int) := by
  unfold IntKind.wrap u8
  simp only [IntKind.bits, IntKind.signed, Bool.false_and, Bool.false_eq_true, if_false]
  rw [UInt8.toNat_ofNat']
  omega
theorem w64_eq (n : Int) (h1 : -9223372036854775808 ≤ n) (h2 : n < 9223372036854775808) : w64 n = n := wrap_64 n h1 h2
theorem wu64_eq (n : Int) (h1 : 0 ≤ n) (h2 : n < 18446744073709551616) : wu64 n = n := by
  unfold wu64 IntKind.wrap
  simp only [IntKind.bits, IntKind.signed, Bool.false_and, Bool.false_eq_true, if_false]
  exact Int.emod_eq_of_lt h1 h2
theorem w32_eq (n : Int) (h1 : -2147483648 ≤ n) (h2 : n < 2147483648) : w32 n = n := by
  show (if (true && decide (n % 4294967296 ≥ 2147483648)) = true then n % 4294967296 - 4294967296 else n % 4294967296) = n
  by_cases h : n % 4294967296 ≥ 2147483648
  · simp only [h, decide_true, Bool.and_self, if_true]; omega
  · simp only [h, decide_false, Bool.and_false, Bool.false_eq_true, if_false]; omega
theorem wu32_eq (n : Int) (h1 : 0 ≤ n) (h2 : n < 4294967296) : wu32 n = n := by
  unfold wu32 IntKind.wrap
  simp only [IntKind.bits, IntKind.signed, Bool.false_and, Bool.false_eq_true, if_false]
  exact Int.emod_eq_of_lt h1 h2
theorem w64_lit (n : Nat) (h : n < 9223372036854775808) : w64 (no_index (OfNat.ofNat n)) = OfNat.ofNat n := by
  exact w64_eq (n : Int) (by omega) (by omega)
theorem w64_nlit (n : Nat) (h : n < 9223372036854775809) : w64 (-(no_index (OfNat.ofNat n))) = -(OfNat.ofNat n) := by
  exact w64_eq (-(n : Int)) (by omega) (by omega)
theorem wu64_lit (n : Nat) (h : n < 18446744073709551616) : wu64 (no_index (OfNat.ofNat n)) = OfNat.ofNat n := by
  exact wu64_eq (n : Int) (by omega) (by omega)
theorem w64_u8 (c : UInt8) : w64 (c.toNat : Int) = c.toNat := by
  have := c.toNat_lt
  exact w64_eq _ (by omega) (by omega)
theorem wu64_u8 (c : UInt8) : wu64 (c.toNat : Int) = c.toNat := by
  have := c.toNat_lt
  exact wu64_eq _ (by omega) (by omega)
theorem w32_u8 (c : UInt8) : w32 (c.toNat : Int) = c.toNat := by
  have := c.toNat_lt
  exact w32_eq _ (by omega) (by omega)
theorem wu32_u8 (c : UInt8) : wu32 (c.toNat : Int) = c.toNat := by
  have := c.toNat_lt
  exact wu32_eq _ (by omega) (by omega)
theorem u8_inj {a b : UInt8} (h : (a.toNat : Int) = b.toNat) : a = b := UInt8.toNat_inj.1 (by omega)
theorem u8_toNat (x : Int) : ((u8 x).toNat : Int) = x % 256 := by
  unfold u8
  rw [UInt8.toNat_ofNat']
  omega
theorem u8_u8 (c : UInt8) : u8 (c.toNat : Int) = c := by
  have := c.toNat_lt
  exact u8_inj (by rw [u8_toNat]; omega)
theorem u8_add (a b : UInt8) : u8 ((a.toNat : Int) + b.toNat) = a + b := by
  apply u8_inj
  rw [u8_toNat, UInt8.toNat_add]
  omega
theorem u8_sub (a b : UInt8) : u8 ((a.toNat : Int) - b.toNat) = a - b := by
  have h1 := a.toNat_lt
  have h2 := b.toNat_lt
  apply u8_inj
  rw [u8_toNat, UInt8.toNat_sub]
  omega
theorem u8_mul (a b : UInt8) : u8 ((a.toNat : Int) * b.toNat) = a * b := by
  apply u8_inj
  rw [u8_toNat, UInt8.toNat_mul]
  simp only [Int.natCast_emod, Int.natCast_mul]
  rfl
theorem u8_lt (a b : UInt8) : decide ((a.toNat : Int) < (b.toNat : Int)) = decide (a < b) := by
  simp [UInt8.lt_iff_toNat_lt]
theorem u8_le (a b : UInt8) : decide ((a.toNat : Int) ≤ (b.toNat : Int)) = decide (a ≤ b) := by
  simp [UInt8.le_iff_toNat_le]
theorem u8_eq (a b : UInt8) : ((a.toNat : Int) == (b.toNat : Int)) = (a == b) := by
  rw [Bool.eq_iff_iff]
  simp only [beq_iff_eq]
  constructor
  · intro h; exact UInt8.toNat_inj.1 (by omega)
  · intro h; rw [h]
theorem ofV_u8 (n : Nat) (h : n < 256) : ofV (.int .u8 (no_index (OfNat.ofNat n))) = some (.c (.d (.sc (.int .u8 (((OfNat.ofNat n : UInt8)).toNat : Int))))) := by
  have : ((OfNat.ofNat n : UInt8)).toNat = n := by
    show (UInt8.ofNat n).toNat = n
    simp [UInt8.toNat_ofNat']; omega
  rw [this]
  rfl
/-- texts' operators -/
theorem ev_cat (P : Program) (t : TypeId) (x y : Operand) (a b : Bs) : evalS P (do eqGuard .add t x y (.string (S a)) (.string (S b)); binOp .add t (.string (S a)) (.string (S b))) =
    if a.length + b.length < 9223372036854775808 then some (.string (S (a ++ b))) else none := by
  have h2 : IntKind.i64.max = 9223372036854775807 := by decide
  simp only [eqGuard, binOp, Op.stringOp]
  by_cases h : a.length + b.length < 9223372036854775808
  · have : ¬ (((S a).size + (S b).size : Nat) : Int) > IntKind.i64.max := by rw [h2, S_size, S_size]; omega
    rw [if_pos h, if_neg this, S_append]
    rfl
  · have : (((S a).size + (S b).size : Nat) : Int) > IntKind.i64.max := by rw [h2, S_size, S_size]; omega
    rw [if_neg h, if_pos this]
    rfl
theorem ev_eqS (P : Program) (t : TypeId) (x y : Operand) (a b : Bs) : evalS P (do eqGuard .eql t x y (.string (S a)) (.string (S b)); binOp .eql t (.string (S a)) (.string (S b))) = some (.bool (a == b)) := by
  rw [ev_eql_s, S_toL, S_toL]
theorem ev_neS (P : Program) (t : TypeId) (x y : Operand) (a b : Bs) : evalS P (do eqGuard .neq t x y (.string (S a)) (.string (S b)); binOp .neq t (.string (S a)) (.string (S b))) = some (.bool (!(a == b))) := by
  rw [ev_neq_s, S_toL, S_toL]
theorem ev_rem (P : Program) (t : TypeId) (x y : Operand) (k : IntKind) (a b : Int) (h : b ≠ 0) : evalS P (do eqGuard .rem t x y (.int k a) (.int k b); binOp .rem t (.int k a) (.int k b)) = some (.int k (a.tmod b)) := by
  cases k <;> simp [eqGuard, binOp, Op.intDiv, h] <;> rfl
def convF (P : Program) (s d : TypeId) (x : Value) : Option Value := evalS P (convert s d x)
theorem evalS_bind' (P : Program) {α β : Type} (x : Sem α) (f : α → Sem β) : evalS P (x >>= f) = (evalS P x).bind fun a => evalS P (f a) := evalS_bind P x f
theorem evalS_und (P : Program) (t : TypeId) : evalS P (underlying t) = P.underlying t := by
  unfold underlying
  rw [evalS_bind]
  show (Option.some P).bind _ = _
  simp only [Option.bind_some]
  cases P.underlying t <;> rfl
theorem ev_conv (P : Program) (s d : TypeId) (k' : IntKind) (n : Int) : evalS P (convert s d (.int k' n)) = (match P.underlying s, P.underlying d with
    | some _, some (.int k) => some (.int k (k.wrap n))
    | _, _ => convF P s d (.int k' n)) := by
  cases h1 : P.underlying s with
  | none => rfl
  | some ds => cases h2 : P.underlying d with
    | none => rfl
    | some dd =>
      cases dd with
      | int k =>
        simp only [convert, evalS_bind, evalS_und, h1, h2, Option.bind_some]
        rfl
      | _ => rfl
theorem bnd_zero (n : Nat) : bnd 0 n = some 0 := by simp [bnd]
theorem bnd_self (n : Nat) : bnd (n : Int) n = some n := by simp [bnd]
theorem bnd_ok {i n : Nat} (h : i ≤ n) : bnd (i : Int) n = some i := by simp [bnd, h]
theorem slotsOf_z (a : V1) (l : List V1) : slotsOf (a :: l) 0 = .v a := rfl
theorem slotsOf_s (a : V1) (l : List V1) (n : Nat) : slotsOf (a :: l) (n + 1) = slotsOf l n := rfl
theorem slots_z (i : Nat) (c : Co) (r : List (Nat × Co)) (v : AV) (vs : List AV) : slots ((i, c) :: r) (v :: vs) i = v := by simp [slots, upd]
theorem slots_n (i j : Nat) (c : Co) (r : List (Nat × Co)) (v : AV) (vs : List AV) (h : Nat.beq j i = false) : slots ((i, c) :: r) (v :: vs) j = slots r vs j := by
  simp only [slots]
  exact upd_ne _ _ _ _ h
theorem mkV_t (cs : List C) : mkV true cs = some (.agg cs) := rfl
theorem mkV_1 (x : C) : mkV false [x] = some (.c x) := rfl
section
variable (E : Env) (fn : FuncId) (m : Nat) (call : Caller) (it : It)
theorem stepK_x (all os : List Oper) (d : Option Nat) (sl : Nat → AV) : stepK E call all os d sl none = none := rfl
theorem runK_x (all os : List Oper) (o : Oper) (st : St) : runK E call all os o st none = none := rfl
theorem regD_x : regD none = none := rfl
theorem seqD_x (b : Code) : seqD E fn m call it b none = none := rfl
theorem blockD_x (id : Nat) : blockD id none = none := rfl
theorem condD_x (t e : Code) (st : St) : condD E fn m call it t e st none = none := rfl
theorem loopK_x (L : List (Nat × Co)) : loopK m L none = none := rfl
theorem bodyD_x (res : List ResultVar) (hand : Bool) : bodyD E res m hand none = none := rfl
end
theorem beqT (b : Bool) : (b == true) = b := by cases b <;> rfl
theorem beqF (b : Bool) : (b == false) = !b := by cases b <;> rfl
theorem ofV_i64 (n : Int) : ofV (.int .i64 n) = some (.c (.d (.sc (.int .i64 n)))) := rfl
theorem ofV_u64 (n : Int) : ofV (.int .u64 n) = some (.c (.d (.sc (.int .u64 n)))) := rfl
theorem ofV_i32 (n : Int) : ofV (.int .i32 n) = some (.c (.d (.sc (.int .i32 n)))) := rfl
theorem ofV_u32 (n : Int) : ofV (.int .u32 n) = some (.c (.d (.sc (.int .u32 n)))) := rfl
theorem ofV_u8n (n : Nat) : ofV (.int .u8 (n : Int)) = some (.c (.d (.sc (.int .u8 (n : Int))))) := rfl
theorem ev_program (P : Program) : evalS P program = some P := rfl
theorem S_beq (a b : Bs) : (S a == S b) = (a == b) := by
  show ((S a).data == (S b).data) = (a == b)
  rw [Bool.eq_iff_iff, beq_iff_eq, beq_iff_eq]
  simp [S]
theorem toV_agg (cs : List C) : Ab.toV (.agg cs) = (cs.mapM toV1).map fun l => .agg l.toArray := rfl
theorem toV1_sc (v : Value) : toV1 (.d (.sc v)) = some v := rfl
theorem sm_l {σ τ β γ : Type} (e : σ → τ) (d : β → γ) (a : σ) : sm e d (.inl a) = .inl (e a) := rfl
theorem sm_r {σ τ β γ : Type} (e : σ → τ) (d : β → γ) (a : β) : sm e d (.inr a) = .inr (d a) := rfl
end Go.Ab
