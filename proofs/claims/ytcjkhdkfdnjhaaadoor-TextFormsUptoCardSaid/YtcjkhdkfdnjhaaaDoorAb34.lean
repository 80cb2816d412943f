/- Objects of bytes, texts' runes, and functions without a body, over typed values. -/
import Derived.Test.YtcjkhdkfdnjhaaaDoorAb33
set_option linter.unusedVariables false
set_option linter.unusedSimpArgs false
namespace Go.Ab
open Go
def byC (c : UInt8) : C := .d (.sc (.int .u8 (c.toNat : Int)))
/-- bytes as an object's cells -/
def enC (l : Bs) : List C := l.map byC
def enD (l : Bs) : List D := l.map fun c => .sc (.int .u8 (c.toNat : Int))
theorem enC_S (s : Bs) : ((S s).data.toList.map fun c => C.d (.sc (.int .u8 (c.toNat : Int)))) = enC s := by rw [S_toList]; rfl
theorem enC_length (l : Bs) : (enC l).length = l.length := by simp [enC]
theorem enC_all (l : Bs) : (enC l).all C.isD = true := by simp [enC, byC, C.isD]
theorem enC_take (l : Bs) (n : Nat) : (enC l).take n = enC (l.take n) := by simp [enC, List.map_take]
theorem enC_load (l : Bs) (k : Nat) (h : k < l.length) : ((enC l).drop k).take 1 = [.d (.sc (.int .u8 ((l.getD k 0).toNat : Int)))] := by
  have : k < (enC l).length := by rw [enC_length]; exact h
  rw [List.drop_eq_getElem_cons this, List.take_succ_cons, List.take_zero]
  simp [enC, byC, List.getD_eq_getElem?_getD, h]
theorem enC_wr (l : Bs) (k : Nat) (x : UInt8) : wr (enC l) k [.d (.sc (.int .u8 (x.toNat : Int)))] = enC (l.set k x) := by
  induction l generalizing k with
  | nil => cases k <;> rfl
  | cons c l ih =>
    cases k with
    | zero =>
      show wr (byC c :: enC l) 0 _ = byC x :: enC l
      simp only [wr, byC]
      congr 1
      cases enC l <;> rfl
    | succ k =>
      show wr (byC c :: enC l) (k + 1) _ = byC c :: enC (l.set k x)
      rw [← ih k]
      rfl
theorem mapM_enC (l : Bs) : (enC l).mapM C.toD = some (enD l) := by
  induction l with
  | nil => rfl
  | cons c l ih =>
    have : enC (c :: l) = byC c :: enC l := rfl
    rw [this, List.mapM_cons, ih]
    rfl
theorem chunk_enD (n : Nat) (l : Bs) (h : n ≤ l.length) : chunk 1 n (enD (l.take n)) = enL enB (l.take n) := by
  induction n generalizing l with
  | zero => rfl
  | succ n ih =>
    cases l with
    | nil => simp at h
    | cons c l =>
      have := ih l (by simpa using h)
      simp only [List.take_succ_cons]
      show chunk 1 (n + 1) (.sc (.int .u8 (c.toNat : Int)) :: enD (l.take n)) = enB c :: enL enB (l.take n)
      rw [← this]
      rfl
/-- the rune at a place, and how wide it is -/
def uc (s : Bs) (p : Nat) : Nat := (Utf8.decode (S s) p).1
def uw (s : Bs) (p : Nat) : Nat := (Utf8.decode (S s) p).2
theorem dec_eq (s : Bs) (p : Nat) : Utf8.decode (S s) p = (uc s p, uw s p) := rfl
theorem eIndexByte_t (s : Bs) (c : UInt8) : eIndexByte [.string (S s), .int .u8 (c.toNat : Int)] = some (.int .i64 (Lib.indexByte s c)) := by
  show some (Value.int .i64 (Lib.indexByte (S s).data.toList ((c.toNat : Int).toNat.toUInt8))) = _
  rw [S_toList]
  simp
theorem eCount_t (s : Bs) (c : UInt8) : eCount [.string (S s), .int .u8 (c.toNat : Int)] = some (.int .i64 (Lib.countByte s c)) := by
  show some (Value.int .i64 (Lib.countByte (S s).data.toList ((c.toNat : Int).toNat.toUInt8))) = _
  rw [S_toList]
  simp

/-! ### bits -/
section
variable (P : Program) (t : TypeId) (x y : Operand)
theorem u8bv (a : UInt8) : BitVec.ofInt 8 (a.toNat : Int) = a.toBitVec := by
  apply BitVec.eq_of_toNat_eq
  simp
theorem wr8 (a : UInt8) : IntKind.wrap .u8 (a.toNat : Int) = (a.toNat : Int) := by rw [wr_u8, u8_u8]
theorem ev_or8 (a b : UInt8) : evalS P (do eqGuard .or t x y (.int .u8 (a.toNat : Int)) (.int .u8 (b.toNat : Int)); binOp .or t (.int .u8 (a.toNat : Int)) (.int .u8 (b.toNat : Int))) = some (.int .u8 ((a ||| b).toNat : Int)) := by
  have : evalS P (do eqGuard .or t x y (.int .u8 (a.toNat : Int)) (.int .u8 (b.toNat : Int)); binOp .or t (.int .u8 (a.toNat : Int)) (.int .u8 (b.toNat : Int))) = some (.int .u8 (IntKind.wrap .u8 ((BitVec.ofInt 8 (a.toNat : Int) ||| BitVec.ofInt 8 (b.toNat : Int)).toNat : Int))) := rfl
  rw [this, u8bv, u8bv, ← UInt8.toBitVec_or]
  exact congrArg (fun z => some (Value.int .u8 z)) (wr8 (a ||| b))
theorem ev_and8 (a b : UInt8) : evalS P (do eqGuard .and t x y (.int .u8 (a.toNat : Int)) (.int .u8 (b.toNat : Int)); binOp .and t (.int .u8 (a.toNat : Int)) (.int .u8 (b.toNat : Int))) = some (.int .u8 ((a &&& b).toNat : Int)) := by
  have : evalS P (do eqGuard .and t x y (.int .u8 (a.toNat : Int)) (.int .u8 (b.toNat : Int)); binOp .and t (.int .u8 (a.toNat : Int)) (.int .u8 (b.toNat : Int))) = some (.int .u8 (IntKind.wrap .u8 ((BitVec.ofInt 8 (a.toNat : Int) &&& BitVec.ofInt 8 (b.toNat : Int)).toNat : Int))) := rfl
  rw [this, u8bv, u8bv, ← UInt8.toBitVec_and]
  exact congrArg (fun z => some (Value.int .u8 z)) (wr8 (a &&& b))
theorem ev_xor8 (a b : UInt8) : evalS P (do eqGuard .xor t x y (.int .u8 (a.toNat : Int)) (.int .u8 (b.toNat : Int)); binOp .xor t (.int .u8 (a.toNat : Int)) (.int .u8 (b.toNat : Int))) = some (.int .u8 ((a ^^^ b).toNat : Int)) := by
  have : evalS P (do eqGuard .xor t x y (.int .u8 (a.toNat : Int)) (.int .u8 (b.toNat : Int)); binOp .xor t (.int .u8 (a.toNat : Int)) (.int .u8 (b.toNat : Int))) = some (.int .u8 (IntKind.wrap .u8 ((BitVec.ofInt 8 (a.toNat : Int) ^^^ BitVec.ofInt 8 (b.toNat : Int)).toNat : Int))) := rfl
  rw [this, u8bv, u8bv, ← UInt8.toBitVec_xor]
  exact congrArg (fun z => some (Value.int .u8 z)) (wr8 (a ^^^ b))
end
/-! ### slots of many arguments -/
theorem slots4 (a b c d : V1) : slotsOf [a, b, c, d] = upd (upd (upd (upd (fun _ => .dead) 0 (.v a)) 1 (.v b)) 2 (.v c)) 3 (.v d) := by
  funext i
  rcases i with _ | _ | _ | _ | i <;> simp [slotsOf, upd]
theorem slots5 (a b c d e : V1) : slotsOf [a, b, c, d, e] = upd (upd (upd (upd (upd (fun _ => .dead) 0 (.v a)) 1 (.v b)) 2 (.v c)) 3 (.v d)) 4 (.v e) := by
  funext i
  rcases i with _ | _ | _ | _ | _ | i <;> simp [slotsOf, upd]
theorem slots6 (a b c d e f : V1) : slotsOf [a, b, c, d, e, f] = upd (upd (upd (upd (upd (upd (fun _ => .dead) 0 (.v a)) 1 (.v b)) 2 (.v c)) 3 (.v d)) 4 (.v e)) 5 (.v f) := by
  funext i
  rcases i with _ | _ | _ | _ | _ | _ | i <;> simp [slotsOf, upd]
end Go.Ab
