/- What the printed functions rest on: sizes, zeros, encoders. -/
import Derived.Test.YtoohbnmhjfgclaaGreatDoorEnv
import Derived.Test.YtoohbnmhjfgclaaGreatDoorEv8
set_option linter.all false
set_option maxRecDepth 100000
namespace Go.Proofs.YtoohbnmhjfgclaaGreatDoor
open Go Go.Ab
open Nat renaming reduceEqDiff → za, reduceAdd → zb, reduceLeDiff → zc, reduceLT → zd, reduceMul → ze, reduceBEq → zf, reduceSub → zg, reducePow → zh
open Int renaming reduceEq → zi, reduceLE → zj, reduceLT → zk, reduceToNat → zl, reduceNegSucc → zm, reduceAdd → zn, reduceBEq → zo
open String renaming reduceBEq → zp
noncomputable section
variable {mm : Int}
theorem E0P : (E0 mm).P = Tryz.prog := rfl
theorem E0hand : (E0 mm).hand = fun f => f == 71 || f == 110 := rfl
theorem E0glob : (E0 mm).glob = tabGlob tabT := rfl
theorem zE : (E0 mm).P = Tryz.prog ∧ ((E0 mm).hand = fun f => f == 71 || f == 110) ∧ ((E0 mm).glob = tabGlob tabT) := ⟨rfl, rfl, rfl⟩
theorem ext149_t (s : Bs) (c : UInt8) : (E0 mm).ext 149 [.string (S s), .int .u8 (c.toNat : Int)] = some (.int .i64 (Lib.countByte s c : Int)) := eCount_t s c
theorem ext161_t (s : Bs) (c : UInt8) : (E0 mm).ext 161 [.string (S s), .int .u8 (c.toNat : Int)] = some (.int .i64 (Lib.indexByte s c)) := eIndexByte_t s c
theorem ag22 : aggP Tryz.prog 22 = some false := by kernel_rfl
theorem ag23 : aggP Tryz.prog 23 = some false := by kernel_rfl
theorem ag25 : aggP Tryz.prog 25 = some true := by kernel_rfl
theorem ag3 : aggP Tryz.prog 3 = some false := by kernel_rfl
theorem ag32 : aggP Tryz.prog 32 = some true := by kernel_rfl
theorem ag58 : aggP Tryz.prog 58 = some true := by kernel_rfl
theorem ag9 : aggP Tryz.prog 9 = some false := by kernel_rfl
theorem ent13 : entersB Tryz.prog 13 = some true := by kernel_rfl
theorem ent14 : entersB Tryz.prog 14 = some true := by kernel_rfl
theorem ent15 : entersB Tryz.prog 15 = some true := by kernel_rfl
theorem ent16 : entersB Tryz.prog 16 = some true := by kernel_rfl
theorem ent18 : entersB Tryz.prog 18 = some true := by kernel_rfl
theorem ent19 : entersB Tryz.prog 19 = some true := by kernel_rfl
theorem ent39 : entersB Tryz.prog 39 = some true := by kernel_rfl
theorem ent42 : entersB Tryz.prog 42 = some true := by kernel_rfl
theorem prm13 : (E0 mm).prim 13 = none := rfl
theorem prm14 : (E0 mm).prim 14 = none := rfl
theorem prm15 : (E0 mm).prim 15 = none := rfl
theorem prm16 : (E0 mm).prim 16 = none := rfl
theorem prm18 : (E0 mm).prim 18 = none := rfl
theorem prm19 : (E0 mm).prim 19 = none := rfl
theorem prm39 : (E0 mm).prim 39 = none := rfl
theorem prm42 : (E0 mm).prim 42 = none := rfl
theorem sz22 : szP Tryz.prog 22 = some 1 := by kernel_rfl
theorem sz23 : szP Tryz.prog 23 = some 1 := by kernel_rfl
theorem sz25 : szP Tryz.prog 25 = some 5 := by kernel_rfl
theorem sz3 : szP Tryz.prog 3 = some 1 := by kernel_rfl
theorem sz32 : szP Tryz.prog 32 = some 5 := by kernel_rfl
theorem sz58 : szP Tryz.prog 58 = some 2 := by kernel_rfl
theorem sz9 : szP Tryz.prog 9 = some 1 := by kernel_rfl

theorem eqg58neq (x y : Operand) (a0 : ByteArray) (a1 : ByteArray) (b0 : ByteArray) (b1 : ByteArray) : evalS Tryz.prog (eqGuard .neq 58 x y (.agg #[.string a0, .string a1]) (.agg #[.string b0, .string b1])) = some () := by kernel_rfl
theorem eqg58eql (x y : Operand) (a0 : ByteArray) (a1 : ByteArray) (b0 : ByteArray) (b1 : ByteArray) : evalS Tryz.prog (eqGuard .eql 58 x y (.agg #[.string a0, .string a1]) (.agg #[.string b0, .string b1])) = some () := by kernel_rfl
theorem eqh58 : Tryz.prog.stoodInHeld 58 = false := by kernel_rfl
theorem eqp58_0 (c : Value) (a0 : ByteArray) (a1 : ByteArray) : evalS Tryz.prog (part 9 #[.string a0, .string a1] 0) = some (.string a0) := by kernel_rfl
theorem eqq58_0 (d : Nat) (a b : ByteArray) : evalS Tryz.prog (Op.equalIn (d + 1) 9 (.string a) (.string b)) = some (a == b) := by kernel_rfl
theorem eqp58_1 (c : Value) (a0 : ByteArray) (a1 : ByteArray) : evalS Tryz.prog (part 9 #[.string a0, .string a1] 1) = some (.string a1) := by kernel_rfl
theorem eqq58_1 (d : Nat) (a b : ByteArray) : evalS Tryz.prog (Op.equalIn (d + 1) 9 (.string a) (.string b)) = some (a == b) := by kernel_rfl
theorem eqe58 (D : Nat) (a0 : ByteArray) (a1 : ByteArray) (b0 : ByteArray) (b1 : ByteArray) : evalS Tryz.prog (Op.equalIn (D + 2) 58 (.agg #[.string a0, .string a1]) (.agg #[.string b0, .string b1])) = some ((a0 == b0 && a1 == b1)) := by
  unfold Op.equalIn
  simp only [evalS_bind, underlying, ev_program, Option.bind_some, Tryz.underlying58, evalS_pure, eqh58, Bool.false_eq_true, if_false]
  simp only [evalS_bind, evalS_pure, List.forIn_toArray, bind_pure_comp, List.forIn_cons, List.forIn_nil, ne_eq, String.reduceEq, not_false_eq_true, if_true, eqp58_0 .nilIface, eqp58_1 .nilIface, eqq58_0, eqq58_1, Option.bind_some]
  cases h0 : (a0 == b0)
  · simp only [Bool.not_true, Bool.not_false, Bool.false_eq_true, if_true, if_false, evalS_bind, evalS_pure, Option.bind_some, eqp58_0 .nilIface, eqp58_1 .nilIface, eqq58_0, eqq58_1, h0]
    rfl
  · cases h1 : (a1 == b1)
    · simp only [Bool.not_true, Bool.not_false, Bool.false_eq_true, if_true, if_false, evalS_bind, evalS_pure, Option.bind_some, eqp58_0 .nilIface, eqp58_1 .nilIface, eqq58_0, eqq58_1, h0, h1]
      rfl
    · simp only [Bool.not_true, Bool.not_false, Bool.false_eq_true, if_true, if_false, evalS_bind, evalS_pure, Option.bind_some, eqp58_0 .nilIface, eqp58_1 .nilIface, eqq58_0, eqq58_1, h0, h1]
      rfl
theorem eqs58n (x y : Operand) (a0 a1 : Bs) (b0 b1 : Bs) : evalS Tryz.prog (do eqGuard .neq 58 x y (.agg #[.string (S a0), .string (S a1)]) (.agg #[.string (S b0), .string (S b1)]); binOp .neq 58 (.agg #[.string (S a0), .string (S a1)]) (.agg #[.string (S b0), .string (S b1)])) = some (.bool (!((a0 == b0 && a1 == b1)))) := by
  have : binOp .neq 58 (.agg #[.string (S a0), .string (S a1)]) (.agg #[.string (S b0), .string (S b1)]) = (do pure (.bool (!(← Op.equal 58 (.agg #[.string (S a0), .string (S a1)]) (.agg #[.string (S b0), .string (S b1)]))))) := rfl
  simp only [evalS_bind, eqg58neq, Option.bind_some, this, Op.equal]
  rw [show Op.maxDepth = 9998 + 2 from rfl, eqe58]
  try simp only [S_beq]
  rfl
theorem eqs58e (x y : Operand) (a0 a1 : Bs) (b0 b1 : Bs) : evalS Tryz.prog (do eqGuard .eql 58 x y (.agg #[.string (S a0), .string (S a1)]) (.agg #[.string (S b0), .string (S b1)]); binOp .eql 58 (.agg #[.string (S a0), .string (S a1)]) (.agg #[.string (S b0), .string (S b1)])) = some (.bool ((a0 == b0 && a1 == b1))) := by
  have : binOp .eql 58 (.agg #[.string (S a0), .string (S a1)]) (.agg #[.string (S b0), .string (S b1)]) = (do pure (.bool ((← Op.equal 58 (.agg #[.string (S a0), .string (S a1)]) (.agg #[.string (S b0), .string (S b1)]))))) := rfl
  simp only [evalS_bind, eqg58eql, Option.bind_some, this, Op.equal]
  rw [show Op.maxDepth = 9998 + 2 from rfl, eqe58]
  try simp only [S_beq]
  rfl
end
end Go.Proofs.YtoohbnmhjfgclaaGreatDoor
