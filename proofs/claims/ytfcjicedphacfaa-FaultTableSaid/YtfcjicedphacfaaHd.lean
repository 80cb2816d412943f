/- What the printed functions rest on: sizes, zeros, encoders. -/
import Derived.Test.YtfcjicedphacfaaEnv
import Derived.Test.YtfcjicedphacfaaEv7
set_option linter.all false
set_option maxRecDepth 100000
namespace Go.Proofs.Ytfcjicedphacfaa
open Go Go.Ab
open Nat renaming reduceEqDiff → za, reduceAdd → zb, reduceLeDiff → zc, reduceLT → zd, reduceMul → ze, reduceBEq → zf, reduceSub → zg, reducePow → zh
open Int renaming reduceEq → zi, reduceLE → zj, reduceLT → zk, reduceToNat → zl, reduceNegSucc → zm, reduceAdd → zn, reduceBEq → zo
open String renaming reduceBEq → zp
noncomputable section
variable {mm : Int}
theorem E0P : (E0 mm).P = Try.prog := rfl
theorem E0hand : (E0 mm).hand = fun _ => false := rfl
theorem E0glob : (E0 mm).glob = fun _ => none := rfl
theorem zE : (E0 mm).P = Try.prog ∧ ((E0 mm).hand = fun _ => false) ∧ ((E0 mm).glob = fun _ => none) := ⟨rfl, rfl, rfl⟩
theorem ag23 : aggP Try.prog 23 = some false := by kernel_rfl
theorem ag24 : aggP Try.prog 24 = some false := by kernel_rfl
theorem ag26 : aggP Try.prog 26 = some true := by kernel_rfl
theorem ag3 : aggP Try.prog 3 = some false := by kernel_rfl
theorem ag33 : aggP Try.prog 33 = some true := by kernel_rfl
theorem ag36 : aggP Try.prog 36 = some true := by kernel_rfl
theorem ag5 : aggP Try.prog 5 = some false := by kernel_rfl
theorem ag9 : aggP Try.prog 9 = some false := by kernel_rfl
theorem by33 : bytesP Try.prog 33 = some 32 := by kernel_rfl
theorem ent13 : entersB Try.prog 13 = some true := by kernel_rfl
theorem ent14 : entersB Try.prog 14 = some true := by kernel_rfl
theorem ent15 : entersB Try.prog 15 = some true := by kernel_rfl
theorem ent16 : entersB Try.prog 16 = some true := by kernel_rfl
theorem ent17 : entersB Try.prog 17 = some true := by kernel_rfl
theorem ent18 : entersB Try.prog 18 = some true := by kernel_rfl
theorem ent19 : entersB Try.prog 19 = some true := by kernel_rfl
theorem ent20 : entersB Try.prog 20 = some true := by kernel_rfl
theorem ent5 : entersB Try.prog 5 = some true := by kernel_rfl
theorem ent8 : entersB Try.prog 8 = some true := by kernel_rfl
theorem ent9 : entersB Try.prog 9 = some true := by kernel_rfl
theorem prm13 : (E0 mm).prim 13 = none := rfl
theorem prm14 : (E0 mm).prim 14 = none := rfl
theorem prm15 : (E0 mm).prim 15 = none := rfl
theorem prm16 : (E0 mm).prim 16 = none := rfl
theorem prm17 : (E0 mm).prim 17 = none := rfl
theorem prm18 : (E0 mm).prim 18 = none := rfl
theorem prm19 : (E0 mm).prim 19 = none := rfl
theorem prm20 : (E0 mm).prim 20 = none := rfl
theorem prm5 : (E0 mm).prim 5 = none := rfl
theorem prm8 : (E0 mm).prim 8 = none := rfl
theorem prm9 : (E0 mm).prim 9 = none := rfl
theorem sz23 : szP Try.prog 23 = some 1 := by kernel_rfl
theorem sz24 : szP Try.prog 24 = some 1 := by kernel_rfl
theorem sz26 : szP Try.prog 26 = some 5 := by kernel_rfl
theorem sz3 : szP Try.prog 3 = some 1 := by kernel_rfl
theorem sz33 : szP Try.prog 33 = some 2 := by kernel_rfl
theorem sz36 : szP Try.prog 36 = some 10 := by kernel_rfl
theorem sz5 : szP Try.prog 5 = some 1 := by kernel_rfl
theorem sz9 : szP Try.prog 9 = some 1 := by kernel_rfl
theorem zc26 : zeroC Try.prog 26 = some [.d (.sc (.int .i64 0)), .d (.sc (.string (S ([] : Bs)))), .d (.sc (.int .i64 0)), .d (.lst true []), .d (.lst true [])] := by kernel_rfl
theorem zc3 : zeroC Try.prog 3 = some [.d (.sc (.int .i64 0))] := by kernel_rfl
theorem zc33 : zeroC Try.prog 33 = some [.d (.sc (.string (S ([] : Bs)))), .d (.sc (.string (S ([] : Bs))))] := by kernel_rfl
theorem zc36 : zeroC Try.prog 36 = some [.d (.sc (.int .i64 0)), .d (.sc (.int .i64 0)), .d (.sc (.int .i64 0)), .d (.sc (.int .i64 0)), .d (.sc (.int .i64 0)), .d (.sc (.int .i64 0)), .d (.sc (.int .i64 0)), .d (.sc (.int .i64 0)), .d (.sc (.int .i64 0)), .d (.sc (.int .i64 0))] := by kernel_rfl
theorem zc9 : zeroC Try.prog 9 = some [.d (.sc (.string (S ([] : Bs))))] := by kernel_rfl
theorem zv3 : (zeroP Try.prog 3).bind ofV = some (.c (.d (.sc (.int .i64 0)))) := by kernel_rfl
theorem zv9 : (zeroP Try.prog 9).bind ofV = some (.c (.d (.sc (.string (S ([] : Bs)))))) := by kernel_rfl

theorem ao0 : (E0 mm).aown "fault.go:26" = false := rfl
theorem ao1 : (E0 mm).aown "fault.go:12" = false := rfl
theorem ao2 : (E0 mm).aown "fault.go:27" = false := rfl
theorem ar3 (k : Nat) (h : k < 10) : mkV false (([.d (.sc (.int .i64 400)), .d (.sc (.int .i64 403)), .d (.sc (.int .i64 407)), .d (.sc (.int .i64 413)), .d (.sc (.int .i64 429)), .d (.sc (.int .i64 431)), .d (.sc (.int .i64 501)), .d (.sc (.int .i64 502)), .d (.sc (.int .i64 503)), .d (.sc (.int .i64 504))].drop k).take 1) = some (.c (.d (.sc (.int .i64 (([(400 : Int), (403 : Int), (407 : Int), (413 : Int), (429 : Int), (431 : Int), (501 : Int), (502 : Int), (503 : Int), (504 : Int)] : List Int).getD k default))))) := arr_get (fun a : Int => .sc (.int .i64 a)) ([(400 : Int), (403 : Int), (407 : Int), (413 : Int), (429 : Int), (431 : Int), (501 : Int), (502 : Int), (503 : Int), (504 : Int)] : List Int) k h
theorem hd4 : (E0 mm).hard "fault.go:31" = false := rfl
theorem nv5 : (E0 mm).nw "fault.go:31" = false := rfl
theorem rw6 : (E0 mm).row "fault.go:31" = true := rfl
theorem ns7 (hp : Heap) (a0 a1 : Bs) (a2 a3 : Bs) : newSlice hp false true 2 2 [.d (.sc (.string (S a0))), .d (.sc (.string (S a1))), .d (.sc (.string (S a2))), .d (.sc (.string (S a3)))] = some (.c (.own false (enL enSS [(a0, a1), (a2, a3)]) hp.length), hp ++ [.row 2 2]) := rfl
theorem ao8 : (E0 mm).aown "fault.go:31" = false := rfl
theorem hd9 : (E0 mm).hard "fault.go:33" = false := rfl
theorem nv10 : (E0 mm).nw "fault.go:33" = false := rfl
theorem rw11 : (E0 mm).row "fault.go:33" = true := rfl
theorem ns12 (hp : Heap) (a0 a1 : Bs) : newSlice hp false true 2 1 [.d (.sc (.string (S a0))), .d (.sc (.string (S a1)))] = some (.c (.own false (enL enSS [(a0, a1)]) hp.length), hp ++ [.row 1 2]) := rfl
theorem ap23 {hp : Heap} {k : Nat} {nl : Bool} {a b : List (Bs × Bs)} (hk : hp[k]? = some (.row a.length (rz nl 2))) : appendA Try.prog false hp 23 (.own nl (enL enSS a) k) (enL enSS b) = if b = [] ∨ (a.length + b.length) * 32 ≤ 140737488355328 then some (.c (.own (nl && b.isEmpty) (enL enSS (a ++ b)) k), hp.set k (.row (a ++ b).length (rz (nl && b.isEmpty) 2))) else none := appendA_own (P := Try.prog) (t := 23) enSS 2 32 (fun _ => rfl) Try.underlying23 sz33 by33 zc33 rfl (by decide) (by decide) (nl := nl) hk (b := b)
theorem hd14 : (E0 mm).hard "fault.go:35" = false := rfl
theorem rw15 : (E0 mm).row "fault.go:35" = false := rfl
theorem ao16 : (E0 mm).aown "fault.go:41" = false := rfl
theorem eqg33neq (x y : Operand) (a0 : ByteArray) (a1 : ByteArray) (b0 : ByteArray) (b1 : ByteArray) : evalS Try.prog (eqGuard .neq 33 x y (.agg #[.string a0, .string a1]) (.agg #[.string b0, .string b1])) = some () := by kernel_rfl
theorem eqg33eql (x y : Operand) (a0 : ByteArray) (a1 : ByteArray) (b0 : ByteArray) (b1 : ByteArray) : evalS Try.prog (eqGuard .eql 33 x y (.agg #[.string a0, .string a1]) (.agg #[.string b0, .string b1])) = some () := by kernel_rfl
theorem eqh33 : Try.prog.stoodInHeld 33 = false := by kernel_rfl
theorem eqp33_0 (c : Value) (a0 : ByteArray) (a1 : ByteArray) : evalS Try.prog (part 9 #[.string a0, .string a1] 0) = some (.string a0) := by kernel_rfl
theorem eqq33_0 (d : Nat) (a b : ByteArray) : evalS Try.prog (Op.equalIn (d + 1) 9 (.string a) (.string b)) = some (a == b) := by kernel_rfl
theorem eqp33_1 (c : Value) (a0 : ByteArray) (a1 : ByteArray) : evalS Try.prog (part 9 #[.string a0, .string a1] 1) = some (.string a1) := by kernel_rfl
theorem eqq33_1 (d : Nat) (a b : ByteArray) : evalS Try.prog (Op.equalIn (d + 1) 9 (.string a) (.string b)) = some (a == b) := by kernel_rfl
theorem eqe33 (D : Nat) (a0 : ByteArray) (a1 : ByteArray) (b0 : ByteArray) (b1 : ByteArray) : evalS Try.prog (Op.equalIn (D + 2) 33 (.agg #[.string a0, .string a1]) (.agg #[.string b0, .string b1])) = some ((a0 == b0 && a1 == b1)) := by
  unfold Op.equalIn
  simp only [evalS_bind, underlying, ev_program, Option.bind_some, Try.underlying33, evalS_pure, eqh33, Bool.false_eq_true, if_false]
  simp only [evalS_bind, evalS_pure, List.forIn_toArray, bind_pure_comp, List.forIn_cons, List.forIn_nil, ne_eq, String.reduceEq, not_false_eq_true, if_true, eqp33_0 .nilIface, eqp33_1 .nilIface, eqq33_0, eqq33_1, Option.bind_some]
  cases h0 : (a0 == b0)
  · simp only [Bool.not_true, Bool.not_false, Bool.false_eq_true, if_true, if_false, evalS_bind, evalS_pure, Option.bind_some, eqp33_0 .nilIface, eqp33_1 .nilIface, eqq33_0, eqq33_1, h0]
    rfl
  · cases h1 : (a1 == b1)
    · simp only [Bool.not_true, Bool.not_false, Bool.false_eq_true, if_true, if_false, evalS_bind, evalS_pure, Option.bind_some, eqp33_0 .nilIface, eqp33_1 .nilIface, eqq33_0, eqq33_1, h0, h1]
      rfl
    · simp only [Bool.not_true, Bool.not_false, Bool.false_eq_true, if_true, if_false, evalS_bind, evalS_pure, Option.bind_some, eqp33_0 .nilIface, eqp33_1 .nilIface, eqq33_0, eqq33_1, h0, h1]
      rfl
theorem eqs33n (x y : Operand) (a0 a1 : Bs) (b0 b1 : Bs) : evalS Try.prog (do eqGuard .neq 33 x y (.agg #[.string (S a0), .string (S a1)]) (.agg #[.string (S b0), .string (S b1)]); binOp .neq 33 (.agg #[.string (S a0), .string (S a1)]) (.agg #[.string (S b0), .string (S b1)])) = some (.bool (!((a0 == b0 && a1 == b1)))) := by
  have : binOp .neq 33 (.agg #[.string (S a0), .string (S a1)]) (.agg #[.string (S b0), .string (S b1)]) = (do pure (.bool (!(← Op.equal 33 (.agg #[.string (S a0), .string (S a1)]) (.agg #[.string (S b0), .string (S b1)]))))) := rfl
  simp only [evalS_bind, eqg33neq, Option.bind_some, this, Op.equal]
  rw [show Op.maxDepth = 9998 + 2 from rfl, eqe33]
  try simp only [S_beq]
  rfl
theorem eqs33e (x y : Operand) (a0 a1 : Bs) (b0 b1 : Bs) : evalS Try.prog (do eqGuard .eql 33 x y (.agg #[.string (S a0), .string (S a1)]) (.agg #[.string (S b0), .string (S b1)]); binOp .eql 33 (.agg #[.string (S a0), .string (S a1)]) (.agg #[.string (S b0), .string (S b1)])) = some (.bool ((a0 == b0 && a1 == b1))) := by
  have : binOp .eql 33 (.agg #[.string (S a0), .string (S a1)]) (.agg #[.string (S b0), .string (S b1)]) = (do pure (.bool ((← Op.equal 33 (.agg #[.string (S a0), .string (S a1)]) (.agg #[.string (S b0), .string (S b1)]))))) := rfl
  simp only [evalS_bind, eqg33eql, Option.bind_some, this, Op.equal]
  rw [show Op.maxDepth = 9998 + 2 from rfl, eqe33]
  try simp only [S_beq]
  rfl
theorem ao18 : (E0 mm).aown "ref.go:36" = false := rfl
theorem hd19 : (E0 mm).hard "ref.go:43" = false := rfl
theorem nv20 : (E0 mm).nw "ref.go:43" = false := rfl
theorem rw21 : (E0 mm).row "ref.go:43" = false := rfl
theorem ns22 (hp : Heap) (a0 a1 : Bs) : newSlice hp false false 2 1 [.d (.sc (.string (S a0))), .d (.sc (.string (S a1)))] = some (.c (.d (.lst false (enL enSS [(a0, a1)]))), hp) := rfl
theorem an23 {hp : Heap} {b : List (Bs × Bs)} : appendA Try.prog false hp 23 (.d (.lst true [])) (enL enSS b) = if b.isEmpty = true then some (.c (.d (.lst true [])), hp) else if b.length * 32 ≤ 140737488355328 then some (.c (.own false (enL enSS b) hp.length), hp ++ [.row b.length 2]) else none := appendA_nil (P := Try.prog) (t := 23) (hp := hp) (b := b) enSS 2 32 (fun _ => rfl) Try.underlying23 sz33 by33 zc33 rfl (by decide) (by decide)
theorem hd24 : (E0 mm).hard "ref.go:44" = false := rfl
theorem nv25 : (E0 mm).nw "ref.go:44" = false := rfl
theorem rw26 : (E0 mm).row "ref.go:44" = false := rfl
theorem hd27 : (E0 mm).hard "ref.go:46" = false := rfl
theorem nv28 : (E0 mm).nw "ref.go:46" = false := rfl
theorem rw29 : (E0 mm).row "ref.go:46" = false := rfl
theorem hd30 : (E0 mm).hard "ref.go:49" = false := rfl
theorem rw31 : (E0 mm).row "ref.go:49" = false := rfl
end
end Go.Proofs.Ytfcjicedphacfaa
