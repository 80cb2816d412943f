/- What the printed functions rest on: sizes, zeros, encoders. -/
import Derived.Test.YtbdjemdhjanffaaDoorEnv
import Derived.Test.YtbdjemdhjanffaaDoorEv7
set_option linter.all false
set_option maxRecDepth 100000
namespace Go.Proofs.YtbdjemdhjanffaaDoor
open Go Go.Ab
open Nat renaming reduceEqDiff → za, reduceAdd → zb, reduceLeDiff → zc, reduceLT → zd, reduceMul → ze, reduceBEq → zf, reduceSub → zg, reducePow → zh
open Int renaming reduceEq → zi, reduceLE → zj, reduceLT → zk, reduceToNat → zl, reduceNegSucc → zm, reduceAdd → zn, reduceBEq → zo
open String renaming reduceBEq → zp
noncomputable section
variable {mm : Int}
theorem E0P : (E0 mm).P = Tryd.prog := rfl
theorem E0hand : (E0 mm).hand = fun _ => false := rfl
theorem E0glob : (E0 mm).glob = fun _ => none := rfl
theorem zE : (E0 mm).P = Tryd.prog ∧ ((E0 mm).hand = fun _ => false) ∧ ((E0 mm).glob = fun _ => none) := ⟨rfl, rfl, rfl⟩
theorem ext80_t (s : Bs) (c : UInt8) : (E0 mm).ext 80 [.string (S s), .int .u8 (c.toNat : Int)] = some (.int .i64 (Lib.indexByte s c)) := eIndexByte_t s c
theorem ag24 : aggP Tryd.prog 24 = some true := by kernel_rfl
theorem ag3 : aggP Tryd.prog 3 = some false := by kernel_rfl
theorem ag30 : aggP Tryd.prog 30 = some false := by kernel_rfl
theorem ag33 : aggP Tryd.prog 33 = some true := by kernel_rfl
theorem ag4 : aggP Tryd.prog 4 = some false := by kernel_rfl
theorem ag40 : aggP Tryd.prog 40 = some false := by kernel_rfl
theorem ag5 : aggP Tryd.prog 5 = some false := by kernel_rfl
theorem ag65 : aggP Tryd.prog 65 = some false := by kernel_rfl
theorem ag9 : aggP Tryd.prog 9 = some false := by kernel_rfl
theorem by3 : bytesP Tryd.prog 3 = some 8 := by kernel_rfl
theorem by33 : bytesP Tryd.prog 33 = some 32 := by kernel_rfl
theorem by5 : bytesP Tryd.prog 5 = some 1 := by kernel_rfl
theorem by9 : bytesP Tryd.prog 9 = some 16 := by kernel_rfl
theorem ent10 : entersB Tryd.prog 10 = some true := by kernel_rfl
theorem ent11 : entersB Tryd.prog 11 = some true := by kernel_rfl
theorem ent12 : entersB Tryd.prog 12 = some true := by kernel_rfl
theorem ent13 : entersB Tryd.prog 13 = some true := by kernel_rfl
theorem ent14 : entersB Tryd.prog 14 = some true := by kernel_rfl
theorem ent15 : entersB Tryd.prog 15 = some true := by kernel_rfl
theorem ent16 : entersB Tryd.prog 16 = some true := by kernel_rfl
theorem ent18 : entersB Tryd.prog 18 = some true := by kernel_rfl
theorem ent19 : entersB Tryd.prog 19 = some true := by kernel_rfl
theorem ent20 : entersB Tryd.prog 20 = some true := by kernel_rfl
theorem ent21 : entersB Tryd.prog 21 = some true := by kernel_rfl
theorem ent22 : entersB Tryd.prog 22 = some true := by kernel_rfl
theorem ent23 : entersB Tryd.prog 23 = some true := by kernel_rfl
theorem ent24 : entersB Tryd.prog 24 = some true := by kernel_rfl
theorem ent25 : entersB Tryd.prog 25 = some true := by kernel_rfl
theorem ent26 : entersB Tryd.prog 26 = some true := by kernel_rfl
theorem ent27 : entersB Tryd.prog 27 = some true := by kernel_rfl
theorem ent28 : entersB Tryd.prog 28 = some true := by kernel_rfl
theorem ent29 : entersB Tryd.prog 29 = some true := by kernel_rfl
theorem ent30 : entersB Tryd.prog 30 = some true := by kernel_rfl
theorem ent31 : entersB Tryd.prog 31 = some true := by kernel_rfl
theorem ent32 : entersB Tryd.prog 32 = some true := by kernel_rfl
theorem ent33 : entersB Tryd.prog 33 = some true := by kernel_rfl
theorem ent34 : entersB Tryd.prog 34 = some true := by kernel_rfl
theorem ent35 : entersB Tryd.prog 35 = some true := by kernel_rfl
theorem ent36 : entersB Tryd.prog 36 = some true := by kernel_rfl
theorem ent37 : entersB Tryd.prog 37 = some true := by kernel_rfl
theorem ent38 : entersB Tryd.prog 38 = some true := by kernel_rfl
theorem ent39 : entersB Tryd.prog 39 = some true := by kernel_rfl
theorem ent40 : entersB Tryd.prog 40 = some true := by kernel_rfl
theorem ent41 : entersB Tryd.prog 41 = some true := by kernel_rfl
theorem ent42 : entersB Tryd.prog 42 = some true := by kernel_rfl
theorem ent43 : entersB Tryd.prog 43 = some true := by kernel_rfl
theorem ent44 : entersB Tryd.prog 44 = some true := by kernel_rfl
theorem ent45 : entersB Tryd.prog 45 = some true := by kernel_rfl
theorem ent46 : entersB Tryd.prog 46 = some true := by kernel_rfl
theorem ent47 : entersB Tryd.prog 47 = some true := by kernel_rfl
theorem ent48 : entersB Tryd.prog 48 = some true := by kernel_rfl
theorem ent49 : entersB Tryd.prog 49 = some true := by kernel_rfl
theorem ent50 : entersB Tryd.prog 50 = some true := by kernel_rfl
theorem ent58 : entersB Tryd.prog 58 = some true := by kernel_rfl
theorem ent59 : entersB Tryd.prog 59 = some true := by kernel_rfl
theorem ent60 : entersB Tryd.prog 60 = some true := by kernel_rfl
theorem ent61 : entersB Tryd.prog 61 = some true := by kernel_rfl
theorem ent62 : entersB Tryd.prog 62 = some true := by kernel_rfl
theorem ent63 : entersB Tryd.prog 63 = some true := by kernel_rfl
theorem ent64 : entersB Tryd.prog 64 = some true := by kernel_rfl
theorem ent69 : entersB Tryd.prog 69 = some true := by kernel_rfl
theorem ent7 : entersB Tryd.prog 7 = some true := by kernel_rfl
theorem ent70 : entersB Tryd.prog 70 = some true := by kernel_rfl
theorem ent71 : entersB Tryd.prog 71 = some true := by kernel_rfl
theorem ent72 : entersB Tryd.prog 72 = some true := by kernel_rfl
theorem ent79 : entersB Tryd.prog 79 = some true := by kernel_rfl
theorem ent8 : entersB Tryd.prog 8 = some true := by kernel_rfl
theorem ent9 : entersB Tryd.prog 9 = some true := by kernel_rfl
theorem entf80 : entersB Tryd.prog 80 = some false := by kernel_rfl
theorem exf80 : (E0 mm).extp 80 = none := rfl
theorem prm10 : (E0 mm).prim 10 = none := rfl
theorem prm11 : (E0 mm).prim 11 = none := rfl
theorem prm12 : (E0 mm).prim 12 = none := rfl
theorem prm13 : (E0 mm).prim 13 = none := rfl
theorem prm14 : (E0 mm).prim 14 = none := rfl
theorem prm15 : (E0 mm).prim 15 = none := rfl
theorem prm16 : (E0 mm).prim 16 = none := rfl
theorem prm18 : (E0 mm).prim 18 = none := rfl
theorem prm19 : (E0 mm).prim 19 = none := rfl
theorem prm20 : (E0 mm).prim 20 = none := rfl
theorem prm21 : (E0 mm).prim 21 = none := rfl
theorem prm22 : (E0 mm).prim 22 = none := rfl
theorem prm23 : (E0 mm).prim 23 = none := rfl
theorem prm24 : (E0 mm).prim 24 = none := rfl
theorem prm25 : (E0 mm).prim 25 = none := rfl
theorem prm26 : (E0 mm).prim 26 = none := rfl
theorem prm27 : (E0 mm).prim 27 = none := rfl
theorem prm28 : (E0 mm).prim 28 = none := rfl
theorem prm29 : (E0 mm).prim 29 = none := rfl
theorem prm30 : (E0 mm).prim 30 = none := rfl
theorem prm31 : (E0 mm).prim 31 = none := rfl
theorem prm32 : (E0 mm).prim 32 = none := rfl
theorem prm33 : (E0 mm).prim 33 = none := rfl
theorem prm34 : (E0 mm).prim 34 = none := rfl
theorem prm35 : (E0 mm).prim 35 = none := rfl
theorem prm36 : (E0 mm).prim 36 = none := rfl
theorem prm37 : (E0 mm).prim 37 = none := rfl
theorem prm38 : (E0 mm).prim 38 = none := rfl
theorem prm39 : (E0 mm).prim 39 = none := rfl
theorem prm40 : (E0 mm).prim 40 = none := rfl
theorem prm41 : (E0 mm).prim 41 = none := rfl
theorem prm42 : (E0 mm).prim 42 = none := rfl
theorem prm43 : (E0 mm).prim 43 = some pTrim := rfl
theorem prm44 : (E0 mm).prim 44 = none := rfl
theorem prm45 : (E0 mm).prim 45 = none := rfl
theorem prm46 : (E0 mm).prim 46 = none := rfl
theorem prm47 : (E0 mm).prim 47 = none := rfl
theorem prm48 : (E0 mm).prim 48 = none := rfl
theorem prm49 : (E0 mm).prim 49 = none := rfl
theorem prm50 : (E0 mm).prim 50 = none := rfl
theorem prm58 : (E0 mm).prim 58 = none := rfl
theorem prm59 : (E0 mm).prim 59 = none := rfl
theorem prm60 : (E0 mm).prim 60 = none := rfl
theorem prm61 : (E0 mm).prim 61 = none := rfl
theorem prm62 : (E0 mm).prim 62 = none := rfl
theorem prm63 : (E0 mm).prim 63 = none := rfl
theorem prm64 : (E0 mm).prim 64 = none := rfl
theorem prm69 : (E0 mm).prim 69 = some pIndex := rfl
theorem prm7 : (E0 mm).prim 7 = none := rfl
theorem prm70 : (E0 mm).prim 70 = none := rfl
theorem prm71 : (E0 mm).prim 71 = none := rfl
theorem prm72 : (E0 mm).prim 72 = none := rfl
theorem prm79 : (E0 mm).prim 79 = none := rfl
theorem prm8 : (E0 mm).prim 8 = none := rfl
theorem prm9 : (E0 mm).prim 9 = none := rfl
theorem sz24 : szP Tryd.prog 24 = some 10 := by kernel_rfl
theorem sz3 : szP Tryd.prog 3 = some 1 := by kernel_rfl
theorem sz30 : szP Tryd.prog 30 = some 1 := by kernel_rfl
theorem sz33 : szP Tryd.prog 33 = some 2 := by kernel_rfl
theorem sz4 : szP Tryd.prog 4 = some 1 := by kernel_rfl
theorem sz40 : szP Tryd.prog 40 = some 1 := by kernel_rfl
theorem sz5 : szP Tryd.prog 5 = some 1 := by kernel_rfl
theorem sz65 : szP Tryd.prog 65 = some 1 := by kernel_rfl
theorem sz9 : szP Tryd.prog 9 = some 1 := by kernel_rfl
theorem zc24 : zeroC Tryd.prog 24 = some [.d (.sc (.bool false)), .d (.sc (.bool false)), .d (.sc (.bool false)), .d (.sc (.bool false)), .d (.sc (.bool false)), .d (.sc (.bool false)), .d (.sc (.int .i64 0)), .d (.sc (.int .i64 0)), .d (.sc (.int .i64 0)), .d (.sc (.int .i64 0))] := by kernel_rfl
theorem zc3 : zeroC Tryd.prog 3 = some [.d (.sc (.int .i64 0))] := by kernel_rfl
theorem zc30 : zeroC Tryd.prog 30 = some [.d (.lst true [])] := by kernel_rfl
theorem zc33 : zeroC Tryd.prog 33 = some [.d (.sc (.string (S ([] : Bs)))), .d (.sc (.string (S ([] : Bs))))] := by kernel_rfl
theorem zc40 : zeroC Tryd.prog 40 = some [.d (.sc (.map none))] := by kernel_rfl
theorem zc5 : zeroC Tryd.prog 5 = some [.d (.sc (.int .u8 ((0 : UInt8).toNat : Int)))] := by kernel_rfl
theorem zc9 : zeroC Tryd.prog 9 = some [.d (.sc (.string (S ([] : Bs))))] := by kernel_rfl
theorem zv30 : (zeroP Tryd.prog 30).bind ofV = some (.c (.d (.lst true []))) := by kernel_rfl

theorem hd0 : (E0 mm).hard "law.go:26" = false := rfl
theorem an22 {hp : Heap} {b : List (Bs × Bs)} : appendA Tryd.prog false hp 22 (.d (.lst true [])) (enL enSS b) = if b.isEmpty = true then some (.c (.d (.lst true [])), hp) else if b.length * 32 ≤ 140737488355328 then some (.c (.own false (enL enSS b) hp.length), hp ++ [.row b.length 2]) else none := appendA_nil (P := Tryd.prog) (t := 22) (hp := hp) (b := b) enSS 2 32 (fun _ => rfl) Tryd.underlying22 sz33 by33 zc33 rfl (by decide) (by decide)
theorem ao2 : (E0 mm).aown "control.go:61" = false := rfl
theorem ao3 : (E0 mm).aown "head.go:132" = false := rfl
theorem hd4 : (E0 mm).hard "text.go:39" = true := rfl
theorem hd5 : (E0 mm).hard "head.go:134" = false := rfl
theorem nv6 : (E0 mm).nw "head.go:134" = false := rfl
theorem rw7 : (E0 mm).row "head.go:134" = false := rfl
theorem ns8 (hp : Heap) (a0 : Bs) : newSlice hp false false 1 1 [.d (.sc (.string (S a0)))] = some (.c (.d (.lst false (enL enS [a0]))), hp) := rfl
theorem ap30 {hp : Heap} {k : Nat} {nl : Bool} {a b : List Bs} (hk : hp[k]? = some (.row a.length (rz nl 1))) : appendA Tryd.prog false hp 30 (.own nl (enL enS a) k) (enL enS b) = if b = [] ∨ (a.length + b.length) * 16 ≤ 140737488355328 then some (.c (.own (nl && b.isEmpty) (enL enS (a ++ b)) k), hp.set k (.row (a ++ b).length (rz (nl && b.isEmpty) 1))) else none := appendA_own (P := Tryd.prog) (t := 30) enS 1 16 (fun _ => rfl) Tryd.underlying30 sz9 by9 zc9 rfl (by decide) (by decide) (nl := nl) hk (b := b)
theorem ao10 : (E0 mm).aown "text.go:53" = true := rfl
theorem ao11 : (E0 mm).aown "text.go:54" = false := rfl
theorem hd12 : (E0 mm).hard "text.go:57" = false := rfl
theorem nv13 : (E0 mm).nw "text.go:57" = false := rfl
theorem rw14 : (E0 mm).row "text.go:57" = false := rfl
theorem hd15 : (E0 mm).hard "hop.go:20" = false := rfl
theorem hd16 : (E0 mm).hard "text.go:17" = false := rfl
theorem rw17 : (E0 mm).row "text.go:17" = false := rfl
theorem hd18 : (E0 mm).hard "text.go:110" = false := rfl
theorem nv19 : (E0 mm).nw "text.go:110" = false := rfl
theorem rw20 : (E0 mm).row "text.go:110" = false := rfl
theorem ns21 (hp : Heap) (a0 : UInt8) : newSlice hp false false 1 1 [.d (.sc (.int .u8 (a0.toNat : Int)))] = some (.c (.d (.lst false (enL enB [a0]))), hp) := rfl
theorem ap36 {hp : Heap} {k : Nat} {nl : Bool} {a b : List UInt8} (hk : hp[k]? = some (.row a.length (rz nl 1))) : appendA Tryd.prog false hp 36 (.own nl (enL enB a) k) (enL enB b) = if b = [] ∨ (a.length + b.length) * 1 ≤ 140737488355328 then some (.c (.own (nl && b.isEmpty) (enL enB (a ++ b)) k), hp.set k (.row (a ++ b).length (rz (nl && b.isEmpty) 1))) else none := appendA_own (P := Tryd.prog) (t := 36) enB 1 1 (fun _ => rfl) Tryd.underlying36 sz5 by5 zc5 rfl (by decide) (by decide) (nl := nl) hk (b := b)
theorem hd23 : (E0 mm).hard "control.go:22" = false := rfl
theorem nv24 : (E0 mm).nw "control.go:22" = false := rfl
theorem rw25 : (E0 mm).row "control.go:22" = false := rfl
theorem ao30O {kvs : Kvs} {k x : Bs} (h : hasM k kvs = true) : type_of% (appendA_O (P := Tryd.prog) (t := 30) (kvs := kvs) (x := x) Tryd.underlying30 sz9 by9 zc9 rfl h) := (appendA_O (P := Tryd.prog) (t := 30) (kvs := kvs) (x := x) Tryd.underlying30 sz9 by9 zc9 rfl h)
theorem ao30O0 {kvs : Kvs} {x : Bs} : type_of% (appendA_O0 (P := Tryd.prog) (t := 30) (kvs := kvs) (x := x) Tryd.underlying30 sz9 by9 zc9 rfl) := (appendA_O0 (P := Tryd.prog) (t := 30) (kvs := kvs) (x := x) Tryd.underlying30 sz9 by9 zc9 rfl)
theorem ao28 : (E0 mm).aown "control.go:62" = false := rfl
theorem hd29 : (E0 mm).hard "control.go:63" = false := rfl
theorem nv30 : (E0 mm).nw "control.go:63" = false := rfl
theorem rw31 : (E0 mm).row "control.go:63" = false := rfl
theorem ao32 : (E0 mm).aown "control.go:63" = false := rfl
theorem hd33 : (E0 mm).hard "control.go:44" = true := rfl
theorem nv34 : (E0 mm).nw "control.go:44" = false := rfl
theorem rw35 : (E0 mm).row "control.go:44" = false := rfl
theorem nh36 (hp : Heap) (a0 : Int) : newSlice hp true false 1 1 [.d (.sc (.int .i64 a0))] = some (.c (.slc hp.length 0 1 1 (some 1)), hp ++ [.cells (enI [a0])]) := rfl
theorem shnh36 {hp : Heap} {k : Nat} {cap : Option Nat} (a0 : Int) (hk : hp[k]? = some (.cells (enI [a0]))) : srcOf hp (.c (.slc k 0 1 1 cap)) = some (enL enN [a0]) := listOf_enI (cap := cap) (l := [a0]) hk
theorem ah45hnil {hp : Heap} {b : List Int} : type_of% (appendA_hnil (P := Tryd.prog) (t := 45) (hp := hp) (b := b) Tryd.underlying45 sz3 by3 zc3 rfl) := (appendA_hnil (P := Tryd.prog) (t := 45) (hp := hp) (b := b) Tryd.underlying45 sz3 by3 zc3 rfl)
theorem ah45hslc {hp : Heap} {k : Nat} {l b : List Int} (hk : hp[k]? = some (.cells (enI l))) : type_of% (appendA_hslc (P := Tryd.prog) (t := 45) (hp := hp) (b := b) Tryd.underlying45 sz3 by3 zc3 rfl hk) := (appendA_hslc (P := Tryd.prog) (t := 45) (hp := hp) (b := b) Tryd.underlying45 sz3 by3 zc3 rfl hk)
theorem ao39 : (E0 mm).aown "ref.go:42" = false := rfl
theorem ao40 : (E0 mm).aown "ref.go:43" = false := rfl
theorem hd41 : (E0 mm).hard "ref.go:50" = false := rfl
theorem nv42 : (E0 mm).nw "ref.go:50" = false := rfl
theorem rw43 : (E0 mm).row "ref.go:50" = false := rfl
theorem hd44 : (E0 mm).hard "ref.go:52" = false := rfl
theorem nv45 : (E0 mm).nw "ref.go:52" = false := rfl
theorem rw46 : (E0 mm).row "ref.go:52" = false := rfl
theorem hd47 : (E0 mm).hard "ref.go:88" = false := rfl
theorem nv48 : (E0 mm).nw "ref.go:88" = false := rfl
theorem rw49 : (E0 mm).row "ref.go:88" = false := rfl
theorem hd50 : (E0 mm).hard "ref.go:15" = false := rfl
theorem hd51 : (E0 mm).hard "ref.go:123" = false := rfl
theorem nv52 : (E0 mm).nw "ref.go:123" = false := rfl
theorem rw53 : (E0 mm).row "ref.go:123" = false := rfl
theorem eqg24neq (x y : Operand) (a0 a1 : Bool) (a2 a3 : Bool) (a4 a5 : Bool) (a6 a7 : Int) (a8 a9 : Int) (b0 b1 : Bool) (b2 b3 : Bool) (b4 b5 : Bool) (b6 b7 : Int) (b8 b9 : Int) : evalS Tryd.prog (eqGuard .neq 24 x y (.agg #[.bool a0, .bool a1, .bool a2, .bool a3, .bool a4, .bool a5, .int .i64 a6, .int .i64 a7, .int .i64 a8, .int .i64 a9]) (.agg #[.bool b0, .bool b1, .bool b2, .bool b3, .bool b4, .bool b5, .int .i64 b6, .int .i64 b7, .int .i64 b8, .int .i64 b9])) = some () := by kernel_rfl
theorem eqg24eql (x y : Operand) (a0 a1 : Bool) (a2 a3 : Bool) (a4 a5 : Bool) (a6 a7 : Int) (a8 a9 : Int) (b0 b1 : Bool) (b2 b3 : Bool) (b4 b5 : Bool) (b6 b7 : Int) (b8 b9 : Int) : evalS Tryd.prog (eqGuard .eql 24 x y (.agg #[.bool a0, .bool a1, .bool a2, .bool a3, .bool a4, .bool a5, .int .i64 a6, .int .i64 a7, .int .i64 a8, .int .i64 a9]) (.agg #[.bool b0, .bool b1, .bool b2, .bool b3, .bool b4, .bool b5, .int .i64 b6, .int .i64 b7, .int .i64 b8, .int .i64 b9])) = some () := by kernel_rfl
theorem eqh24 : Tryd.prog.stoodInHeld 24 = false := by kernel_rfl
theorem eqp24_0 (c : Value) (a0 a1 : Bool) (a2 a3 : Bool) (a4 a5 : Bool) (a6 a7 : Int) (a8 a9 : Int) : evalS Tryd.prog (part 4 #[.bool a0, .bool a1, .bool a2, .bool a3, .bool a4, .bool a5, .int .i64 a6, .int .i64 a7, .int .i64 a8, .int .i64 a9] 0) = some (.bool a0) := by kernel_rfl
theorem eqq24_0 (d : Nat) (a b : Bool) : evalS Tryd.prog (Op.equalIn (d + 1) 4 (.bool a) (.bool b)) = some (a == b) := by kernel_rfl
theorem eqp24_1 (c : Value) (a0 a1 : Bool) (a2 a3 : Bool) (a4 a5 : Bool) (a6 a7 : Int) (a8 a9 : Int) : evalS Tryd.prog (part 4 #[.bool a0, .bool a1, .bool a2, .bool a3, .bool a4, .bool a5, .int .i64 a6, .int .i64 a7, .int .i64 a8, .int .i64 a9] 1) = some (.bool a1) := by kernel_rfl
theorem eqq24_1 (d : Nat) (a b : Bool) : evalS Tryd.prog (Op.equalIn (d + 1) 4 (.bool a) (.bool b)) = some (a == b) := by kernel_rfl
theorem eqp24_2 (c : Value) (a0 a1 : Bool) (a2 a3 : Bool) (a4 a5 : Bool) (a6 a7 : Int) (a8 a9 : Int) : evalS Tryd.prog (part 4 #[.bool a0, .bool a1, .bool a2, .bool a3, .bool a4, .bool a5, .int .i64 a6, .int .i64 a7, .int .i64 a8, .int .i64 a9] 2) = some (.bool a2) := by kernel_rfl
theorem eqq24_2 (d : Nat) (a b : Bool) : evalS Tryd.prog (Op.equalIn (d + 1) 4 (.bool a) (.bool b)) = some (a == b) := by kernel_rfl
theorem eqp24_3 (c : Value) (a0 a1 : Bool) (a2 a3 : Bool) (a4 a5 : Bool) (a6 a7 : Int) (a8 a9 : Int) : evalS Tryd.prog (part 4 #[.bool a0, .bool a1, .bool a2, .bool a3, .bool a4, .bool a5, .int .i64 a6, .int .i64 a7, .int .i64 a8, .int .i64 a9] 3) = some (.bool a3) := by kernel_rfl
theorem eqq24_3 (d : Nat) (a b : Bool) : evalS Tryd.prog (Op.equalIn (d + 1) 4 (.bool a) (.bool b)) = some (a == b) := by kernel_rfl
theorem eqp24_4 (c : Value) (a0 a1 : Bool) (a2 a3 : Bool) (a4 a5 : Bool) (a6 a7 : Int) (a8 a9 : Int) : evalS Tryd.prog (part 4 #[.bool a0, .bool a1, .bool a2, .bool a3, .bool a4, .bool a5, .int .i64 a6, .int .i64 a7, .int .i64 a8, .int .i64 a9] 4) = some (.bool a4) := by kernel_rfl
theorem eqq24_4 (d : Nat) (a b : Bool) : evalS Tryd.prog (Op.equalIn (d + 1) 4 (.bool a) (.bool b)) = some (a == b) := by kernel_rfl
theorem eqp24_5 (c : Value) (a0 a1 : Bool) (a2 a3 : Bool) (a4 a5 : Bool) (a6 a7 : Int) (a8 a9 : Int) : evalS Tryd.prog (part 4 #[.bool a0, .bool a1, .bool a2, .bool a3, .bool a4, .bool a5, .int .i64 a6, .int .i64 a7, .int .i64 a8, .int .i64 a9] 5) = some (.bool a5) := by kernel_rfl
theorem eqq24_5 (d : Nat) (a b : Bool) : evalS Tryd.prog (Op.equalIn (d + 1) 4 (.bool a) (.bool b)) = some (a == b) := by kernel_rfl
theorem eqp24_6 (c : Value) (a0 a1 : Bool) (a2 a3 : Bool) (a4 a5 : Bool) (a6 a7 : Int) (a8 a9 : Int) : evalS Tryd.prog (part 3 #[.bool a0, .bool a1, .bool a2, .bool a3, .bool a4, .bool a5, .int .i64 a6, .int .i64 a7, .int .i64 a8, .int .i64 a9] 6) = some (.int .i64 a6) := by kernel_rfl
theorem eqq24_6 (d : Nat) (a b : Int) : evalS Tryd.prog (Op.equalIn (d + 1) 3 (.int .i64 a) (.int .i64 b)) = some (a == b) := by kernel_rfl
theorem eqp24_7 (c : Value) (a0 a1 : Bool) (a2 a3 : Bool) (a4 a5 : Bool) (a6 a7 : Int) (a8 a9 : Int) : evalS Tryd.prog (part 3 #[.bool a0, .bool a1, .bool a2, .bool a3, .bool a4, .bool a5, .int .i64 a6, .int .i64 a7, .int .i64 a8, .int .i64 a9] 7) = some (.int .i64 a7) := by kernel_rfl
theorem eqq24_7 (d : Nat) (a b : Int) : evalS Tryd.prog (Op.equalIn (d + 1) 3 (.int .i64 a) (.int .i64 b)) = some (a == b) := by kernel_rfl
theorem eqp24_8 (c : Value) (a0 a1 : Bool) (a2 a3 : Bool) (a4 a5 : Bool) (a6 a7 : Int) (a8 a9 : Int) : evalS Tryd.prog (part 3 #[.bool a0, .bool a1, .bool a2, .bool a3, .bool a4, .bool a5, .int .i64 a6, .int .i64 a7, .int .i64 a8, .int .i64 a9] 8) = some (.int .i64 a8) := by kernel_rfl
theorem eqq24_8 (d : Nat) (a b : Int) : evalS Tryd.prog (Op.equalIn (d + 1) 3 (.int .i64 a) (.int .i64 b)) = some (a == b) := by kernel_rfl
theorem eqp24_9 (c : Value) (a0 a1 : Bool) (a2 a3 : Bool) (a4 a5 : Bool) (a6 a7 : Int) (a8 a9 : Int) : evalS Tryd.prog (part 3 #[.bool a0, .bool a1, .bool a2, .bool a3, .bool a4, .bool a5, .int .i64 a6, .int .i64 a7, .int .i64 a8, .int .i64 a9] 9) = some (.int .i64 a9) := by kernel_rfl
theorem eqq24_9 (d : Nat) (a b : Int) : evalS Tryd.prog (Op.equalIn (d + 1) 3 (.int .i64 a) (.int .i64 b)) = some (a == b) := by kernel_rfl
theorem eqe24 (D : Nat) (a0 a1 : Bool) (a2 a3 : Bool) (a4 a5 : Bool) (a6 a7 : Int) (a8 a9 : Int) (b0 b1 : Bool) (b2 b3 : Bool) (b4 b5 : Bool) (b6 b7 : Int) (b8 b9 : Int) : evalS Tryd.prog (Op.equalIn (D + 2) 24 (.agg #[.bool a0, .bool a1, .bool a2, .bool a3, .bool a4, .bool a5, .int .i64 a6, .int .i64 a7, .int .i64 a8, .int .i64 a9]) (.agg #[.bool b0, .bool b1, .bool b2, .bool b3, .bool b4, .bool b5, .int .i64 b6, .int .i64 b7, .int .i64 b8, .int .i64 b9])) = some ((((((((((a0 == b0 && a1 == b1) && a2 == b2) && a3 == b3) && a4 == b4) && a5 == b5) && a6 == b6) && a7 == b7) && a8 == b8) && a9 == b9)) := by
  unfold Op.equalIn
  simp only [evalS_bind, underlying, ev_program, Option.bind_some, Tryd.underlying24, evalS_pure, eqh24, Bool.false_eq_true, if_false]
  simp only [evalS_bind, evalS_pure, List.forIn_toArray, bind_pure_comp, List.forIn_cons, List.forIn_nil, ne_eq, String.reduceEq, not_false_eq_true, if_true, eqp24_0 .nilIface, eqp24_1 .nilIface, eqp24_2 .nilIface, eqp24_3 .nilIface, eqp24_4 .nilIface, eqp24_5 .nilIface, eqp24_6 .nilIface, eqp24_7 .nilIface, eqp24_8 .nilIface, eqp24_9 .nilIface, eqq24_0, eqq24_1, eqq24_2, eqq24_3, eqq24_4, eqq24_5, eqq24_6, eqq24_7, eqq24_8, eqq24_9, Option.bind_some]
  cases h0 : (a0 == b0)
  · simp only [Bool.not_true, Bool.not_false, Bool.false_eq_true, if_true, if_false, evalS_bind, evalS_pure, Option.bind_some, eqp24_0 .nilIface, eqp24_1 .nilIface, eqp24_2 .nilIface, eqp24_3 .nilIface, eqp24_4 .nilIface, eqp24_5 .nilIface, eqp24_6 .nilIface, eqp24_7 .nilIface, eqp24_8 .nilIface, eqp24_9 .nilIface, eqq24_0, eqq24_1, eqq24_2, eqq24_3, eqq24_4, eqq24_5, eqq24_6, eqq24_7, eqq24_8, eqq24_9, h0]
    rfl
  · cases h1 : (a1 == b1)
    · simp only [Bool.not_true, Bool.not_false, Bool.false_eq_true, if_true, if_false, evalS_bind, evalS_pure, Option.bind_some, eqp24_0 .nilIface, eqp24_1 .nilIface, eqp24_2 .nilIface, eqp24_3 .nilIface, eqp24_4 .nilIface, eqp24_5 .nilIface, eqp24_6 .nilIface, eqp24_7 .nilIface, eqp24_8 .nilIface, eqp24_9 .nilIface, eqq24_0, eqq24_1, eqq24_2, eqq24_3, eqq24_4, eqq24_5, eqq24_6, eqq24_7, eqq24_8, eqq24_9, h0, h1]
      rfl
    · cases h2 : (a2 == b2)
      · simp only [Bool.not_true, Bool.not_false, Bool.false_eq_true, if_true, if_false, evalS_bind, evalS_pure, Option.bind_some, eqp24_0 .nilIface, eqp24_1 .nilIface, eqp24_2 .nilIface, eqp24_3 .nilIface, eqp24_4 .nilIface, eqp24_5 .nilIface, eqp24_6 .nilIface, eqp24_7 .nilIface, eqp24_8 .nilIface, eqp24_9 .nilIface, eqq24_0, eqq24_1, eqq24_2, eqq24_3, eqq24_4, eqq24_5, eqq24_6, eqq24_7, eqq24_8, eqq24_9, h0, h1, h2]
        rfl
      · cases h3 : (a3 == b3)
        · simp only [Bool.not_true, Bool.not_false, Bool.false_eq_true, if_true, if_false, evalS_bind, evalS_pure, Option.bind_some, eqp24_0 .nilIface, eqp24_1 .nilIface, eqp24_2 .nilIface, eqp24_3 .nilIface, eqp24_4 .nilIface, eqp24_5 .nilIface, eqp24_6 .nilIface, eqp24_7 .nilIface, eqp24_8 .nilIface, eqp24_9 .nilIface, eqq24_0, eqq24_1, eqq24_2, eqq24_3, eqq24_4, eqq24_5, eqq24_6, eqq24_7, eqq24_8, eqq24_9, h0, h1, h2, h3]
          rfl
        · cases h4 : (a4 == b4)
          · simp only [Bool.not_true, Bool.not_false, Bool.false_eq_true, if_true, if_false, evalS_bind, evalS_pure, Option.bind_some, eqp24_0 .nilIface, eqp24_1 .nilIface, eqp24_2 .nilIface, eqp24_3 .nilIface, eqp24_4 .nilIface, eqp24_5 .nilIface, eqp24_6 .nilIface, eqp24_7 .nilIface, eqp24_8 .nilIface, eqp24_9 .nilIface, eqq24_0, eqq24_1, eqq24_2, eqq24_3, eqq24_4, eqq24_5, eqq24_6, eqq24_7, eqq24_8, eqq24_9, h0, h1, h2, h3, h4]
            rfl
          · cases h5 : (a5 == b5)
            · simp only [Bool.not_true, Bool.not_false, Bool.false_eq_true, if_true, if_false, evalS_bind, evalS_pure, Option.bind_some, eqp24_0 .nilIface, eqp24_1 .nilIface, eqp24_2 .nilIface, eqp24_3 .nilIface, eqp24_4 .nilIface, eqp24_5 .nilIface, eqp24_6 .nilIface, eqp24_7 .nilIface, eqp24_8 .nilIface, eqp24_9 .nilIface, eqq24_0, eqq24_1, eqq24_2, eqq24_3, eqq24_4, eqq24_5, eqq24_6, eqq24_7, eqq24_8, eqq24_9, h0, h1, h2, h3, h4, h5]
              rfl
            · cases h6 : (a6 == b6)
              · simp only [Bool.not_true, Bool.not_false, Bool.false_eq_true, if_true, if_false, evalS_bind, evalS_pure, Option.bind_some, eqp24_0 .nilIface, eqp24_1 .nilIface, eqp24_2 .nilIface, eqp24_3 .nilIface, eqp24_4 .nilIface, eqp24_5 .nilIface, eqp24_6 .nilIface, eqp24_7 .nilIface, eqp24_8 .nilIface, eqp24_9 .nilIface, eqq24_0, eqq24_1, eqq24_2, eqq24_3, eqq24_4, eqq24_5, eqq24_6, eqq24_7, eqq24_8, eqq24_9, h0, h1, h2, h3, h4, h5, h6]
                rfl
              · cases h7 : (a7 == b7)
                · simp only [Bool.not_true, Bool.not_false, Bool.false_eq_true, if_true, if_false, evalS_bind, evalS_pure, Option.bind_some, eqp24_0 .nilIface, eqp24_1 .nilIface, eqp24_2 .nilIface, eqp24_3 .nilIface, eqp24_4 .nilIface, eqp24_5 .nilIface, eqp24_6 .nilIface, eqp24_7 .nilIface, eqp24_8 .nilIface, eqp24_9 .nilIface, eqq24_0, eqq24_1, eqq24_2, eqq24_3, eqq24_4, eqq24_5, eqq24_6, eqq24_7, eqq24_8, eqq24_9, h0, h1, h2, h3, h4, h5, h6, h7]
                  rfl
                · cases h8 : (a8 == b8)
                  · simp only [Bool.not_true, Bool.not_false, Bool.false_eq_true, if_true, if_false, evalS_bind, evalS_pure, Option.bind_some, eqp24_0 .nilIface, eqp24_1 .nilIface, eqp24_2 .nilIface, eqp24_3 .nilIface, eqp24_4 .nilIface, eqp24_5 .nilIface, eqp24_6 .nilIface, eqp24_7 .nilIface, eqp24_8 .nilIface, eqp24_9 .nilIface, eqq24_0, eqq24_1, eqq24_2, eqq24_3, eqq24_4, eqq24_5, eqq24_6, eqq24_7, eqq24_8, eqq24_9, h0, h1, h2, h3, h4, h5, h6, h7, h8]
                    rfl
                  · cases h9 : (a9 == b9)
                    · simp only [Bool.not_true, Bool.not_false, Bool.false_eq_true, if_true, if_false, evalS_bind, evalS_pure, Option.bind_some, eqp24_0 .nilIface, eqp24_1 .nilIface, eqp24_2 .nilIface, eqp24_3 .nilIface, eqp24_4 .nilIface, eqp24_5 .nilIface, eqp24_6 .nilIface, eqp24_7 .nilIface, eqp24_8 .nilIface, eqp24_9 .nilIface, eqq24_0, eqq24_1, eqq24_2, eqq24_3, eqq24_4, eqq24_5, eqq24_6, eqq24_7, eqq24_8, eqq24_9, h0, h1, h2, h3, h4, h5, h6, h7, h8, h9]
                      rfl
                    · simp only [Bool.not_true, Bool.not_false, Bool.false_eq_true, if_true, if_false, evalS_bind, evalS_pure, Option.bind_some, eqp24_0 .nilIface, eqp24_1 .nilIface, eqp24_2 .nilIface, eqp24_3 .nilIface, eqp24_4 .nilIface, eqp24_5 .nilIface, eqp24_6 .nilIface, eqp24_7 .nilIface, eqp24_8 .nilIface, eqp24_9 .nilIface, eqq24_0, eqq24_1, eqq24_2, eqq24_3, eqq24_4, eqq24_5, eqq24_6, eqq24_7, eqq24_8, eqq24_9, h0, h1, h2, h3, h4, h5, h6, h7, h8, h9]
                      rfl
theorem eqs24n (x y : Operand) (a0 a1 : Bool) (a2 a3 : Bool) (a4 a5 : Bool) (a6 a7 : Int) (a8 a9 : Int) (b0 b1 : Bool) (b2 b3 : Bool) (b4 b5 : Bool) (b6 b7 : Int) (b8 b9 : Int) : evalS Tryd.prog (do eqGuard .neq 24 x y (.agg #[.bool a0, .bool a1, .bool a2, .bool a3, .bool a4, .bool a5, .int .i64 a6, .int .i64 a7, .int .i64 a8, .int .i64 a9]) (.agg #[.bool b0, .bool b1, .bool b2, .bool b3, .bool b4, .bool b5, .int .i64 b6, .int .i64 b7, .int .i64 b8, .int .i64 b9]); binOp .neq 24 (.agg #[.bool a0, .bool a1, .bool a2, .bool a3, .bool a4, .bool a5, .int .i64 a6, .int .i64 a7, .int .i64 a8, .int .i64 a9]) (.agg #[.bool b0, .bool b1, .bool b2, .bool b3, .bool b4, .bool b5, .int .i64 b6, .int .i64 b7, .int .i64 b8, .int .i64 b9])) = some (.bool (!((((((((((a0 == b0 && a1 == b1) && a2 == b2) && a3 == b3) && a4 == b4) && a5 == b5) && a6 == b6) && a7 == b7) && a8 == b8) && a9 == b9)))) := by
  have : binOp .neq 24 (.agg #[.bool a0, .bool a1, .bool a2, .bool a3, .bool a4, .bool a5, .int .i64 a6, .int .i64 a7, .int .i64 a8, .int .i64 a9]) (.agg #[.bool b0, .bool b1, .bool b2, .bool b3, .bool b4, .bool b5, .int .i64 b6, .int .i64 b7, .int .i64 b8, .int .i64 b9]) = (do pure (.bool (!(← Op.equal 24 (.agg #[.bool a0, .bool a1, .bool a2, .bool a3, .bool a4, .bool a5, .int .i64 a6, .int .i64 a7, .int .i64 a8, .int .i64 a9]) (.agg #[.bool b0, .bool b1, .bool b2, .bool b3, .bool b4, .bool b5, .int .i64 b6, .int .i64 b7, .int .i64 b8, .int .i64 b9]))))) := rfl
  simp only [evalS_bind, eqg24neq, Option.bind_some, this, Op.equal]
  rw [show Op.maxDepth = 9998 + 2 from rfl, eqe24]
  try simp only [S_beq]
  rfl
theorem eqs24e (x y : Operand) (a0 a1 : Bool) (a2 a3 : Bool) (a4 a5 : Bool) (a6 a7 : Int) (a8 a9 : Int) (b0 b1 : Bool) (b2 b3 : Bool) (b4 b5 : Bool) (b6 b7 : Int) (b8 b9 : Int) : evalS Tryd.prog (do eqGuard .eql 24 x y (.agg #[.bool a0, .bool a1, .bool a2, .bool a3, .bool a4, .bool a5, .int .i64 a6, .int .i64 a7, .int .i64 a8, .int .i64 a9]) (.agg #[.bool b0, .bool b1, .bool b2, .bool b3, .bool b4, .bool b5, .int .i64 b6, .int .i64 b7, .int .i64 b8, .int .i64 b9]); binOp .eql 24 (.agg #[.bool a0, .bool a1, .bool a2, .bool a3, .bool a4, .bool a5, .int .i64 a6, .int .i64 a7, .int .i64 a8, .int .i64 a9]) (.agg #[.bool b0, .bool b1, .bool b2, .bool b3, .bool b4, .bool b5, .int .i64 b6, .int .i64 b7, .int .i64 b8, .int .i64 b9])) = some (.bool ((((((((((a0 == b0 && a1 == b1) && a2 == b2) && a3 == b3) && a4 == b4) && a5 == b5) && a6 == b6) && a7 == b7) && a8 == b8) && a9 == b9))) := by
  have : binOp .eql 24 (.agg #[.bool a0, .bool a1, .bool a2, .bool a3, .bool a4, .bool a5, .int .i64 a6, .int .i64 a7, .int .i64 a8, .int .i64 a9]) (.agg #[.bool b0, .bool b1, .bool b2, .bool b3, .bool b4, .bool b5, .int .i64 b6, .int .i64 b7, .int .i64 b8, .int .i64 b9]) = (do pure (.bool ((← Op.equal 24 (.agg #[.bool a0, .bool a1, .bool a2, .bool a3, .bool a4, .bool a5, .int .i64 a6, .int .i64 a7, .int .i64 a8, .int .i64 a9]) (.agg #[.bool b0, .bool b1, .bool b2, .bool b3, .bool b4, .bool b5, .int .i64 b6, .int .i64 b7, .int .i64 b8, .int .i64 b9]))))) := rfl
  simp only [evalS_bind, eqg24eql, Option.bind_some, this, Op.equal]
  rw [show Op.maxDepth = 9998 + 2 from rfl, eqe24]
  try simp only [S_beq]
  rfl
theorem ao55 : (E0 mm).aown "control.go:80" = false := rfl
theorem hd56 : (E0 mm).hard "control.go:82" = false := rfl
theorem nv57 : (E0 mm).nw "control.go:82" = false := rfl
theorem rw58 : (E0 mm).row "control.go:82" = false := rfl
theorem ns59 (hp : Heap) (a0 a1 : Bs) : newSlice hp false false 1 2 [.d (.sc (.string (S a0))), .d (.sc (.string (S a1)))] = some (.c (.d (.lst false (enL enS [a0, a1]))), hp) := rfl
theorem ao60 : (E0 mm).aown "ref.go:86" = false := rfl
theorem ao61 : (E0 mm).aown "ref.go:87" = false := rfl
theorem eqg33neq (x y : Operand) (a0 : ByteArray) (a1 : ByteArray) (b0 : ByteArray) (b1 : ByteArray) : evalS Tryd.prog (eqGuard .neq 33 x y (.agg #[.string a0, .string a1]) (.agg #[.string b0, .string b1])) = some () := by kernel_rfl
theorem eqg33eql (x y : Operand) (a0 : ByteArray) (a1 : ByteArray) (b0 : ByteArray) (b1 : ByteArray) : evalS Tryd.prog (eqGuard .eql 33 x y (.agg #[.string a0, .string a1]) (.agg #[.string b0, .string b1])) = some () := by kernel_rfl
theorem eqh33 : Tryd.prog.stoodInHeld 33 = false := by kernel_rfl
theorem eqp33_0 (c : Value) (a0 : ByteArray) (a1 : ByteArray) : evalS Tryd.prog (part 9 #[.string a0, .string a1] 0) = some (.string a0) := by kernel_rfl
theorem eqq33_0 (d : Nat) (a b : ByteArray) : evalS Tryd.prog (Op.equalIn (d + 1) 9 (.string a) (.string b)) = some (a == b) := by kernel_rfl
theorem eqp33_1 (c : Value) (a0 : ByteArray) (a1 : ByteArray) : evalS Tryd.prog (part 9 #[.string a0, .string a1] 1) = some (.string a1) := by kernel_rfl
theorem eqq33_1 (d : Nat) (a b : ByteArray) : evalS Tryd.prog (Op.equalIn (d + 1) 9 (.string a) (.string b)) = some (a == b) := by kernel_rfl
theorem eqe33 (D : Nat) (a0 : ByteArray) (a1 : ByteArray) (b0 : ByteArray) (b1 : ByteArray) : evalS Tryd.prog (Op.equalIn (D + 2) 33 (.agg #[.string a0, .string a1]) (.agg #[.string b0, .string b1])) = some ((a0 == b0 && a1 == b1)) := by
  unfold Op.equalIn
  simp only [evalS_bind, underlying, ev_program, Option.bind_some, Tryd.underlying33, evalS_pure, eqh33, Bool.false_eq_true, if_false]
  simp only [evalS_bind, evalS_pure, List.forIn_toArray, bind_pure_comp, List.forIn_cons, List.forIn_nil, ne_eq, String.reduceEq, not_false_eq_true, if_true, eqp33_0 .nilIface, eqp33_1 .nilIface, eqq33_0, eqq33_1, Option.bind_some]
  cases h0 : (a0 == b0)
  · simp only [Bool.not_true, Bool.not_false, Bool.false_eq_true, if_true, if_false, evalS_bind, evalS_pure, Option.bind_some, eqp33_0 .nilIface, eqp33_1 .nilIface, eqq33_0, eqq33_1, h0]
    rfl
  · cases h1 : (a1 == b1)
    · simp only [Bool.not_true, Bool.not_false, Bool.false_eq_true, if_true, if_false, evalS_bind, evalS_pure, Option.bind_some, eqp33_0 .nilIface, eqp33_1 .nilIface, eqq33_0, eqq33_1, h0, h1]
      rfl
    · simp only [Bool.not_true, Bool.not_false, Bool.false_eq_true, if_true, if_false, evalS_bind, evalS_pure, Option.bind_some, eqp33_0 .nilIface, eqp33_1 .nilIface, eqq33_0, eqq33_1, h0, h1]
      rfl
theorem eqs33n (x y : Operand) (a0 a1 : Bs) (b0 b1 : Bs) : evalS Tryd.prog (do eqGuard .neq 33 x y (.agg #[.string (S a0), .string (S a1)]) (.agg #[.string (S b0), .string (S b1)]); binOp .neq 33 (.agg #[.string (S a0), .string (S a1)]) (.agg #[.string (S b0), .string (S b1)])) = some (.bool (!((a0 == b0 && a1 == b1)))) := by
  have : binOp .neq 33 (.agg #[.string (S a0), .string (S a1)]) (.agg #[.string (S b0), .string (S b1)]) = (do pure (.bool (!(← Op.equal 33 (.agg #[.string (S a0), .string (S a1)]) (.agg #[.string (S b0), .string (S b1)]))))) := rfl
  simp only [evalS_bind, eqg33neq, Option.bind_some, this, Op.equal]
  rw [show Op.maxDepth = 9998 + 2 from rfl, eqe33]
  try simp only [S_beq]
  rfl
theorem eqs33e (x y : Operand) (a0 a1 : Bs) (b0 b1 : Bs) : evalS Tryd.prog (do eqGuard .eql 33 x y (.agg #[.string (S a0), .string (S a1)]) (.agg #[.string (S b0), .string (S b1)]); binOp .eql 33 (.agg #[.string (S a0), .string (S a1)]) (.agg #[.string (S b0), .string (S b1)])) = some (.bool ((a0 == b0 && a1 == b1))) := by
  have : binOp .eql 33 (.agg #[.string (S a0), .string (S a1)]) (.agg #[.string (S b0), .string (S b1)]) = (do pure (.bool ((← Op.equal 33 (.agg #[.string (S a0), .string (S a1)]) (.agg #[.string (S b0), .string (S b1)]))))) := rfl
  simp only [evalS_bind, eqg33eql, Option.bind_some, this, Op.equal]
  rw [show Op.maxDepth = 9998 + 2 from rfl, eqe33]
  try simp only [S_beq]
  rfl
theorem hd63 : (E0 mm).hard "outright.go:17" = false := rfl
theorem ao64 : (E0 mm).aown "outright.go:18" = false := rfl
theorem ao65 : (E0 mm).aown "outright.go:25" = false := rfl
theorem ap22 {hp : Heap} {k : Nat} {nl : Bool} {a b : List (Bs × Bs)} (hk : hp[k]? = some (.row a.length (rz nl 2))) : appendA Tryd.prog false hp 22 (.own nl (enL enSS a) k) (enL enSS b) = if b = [] ∨ (a.length + b.length) * 32 ≤ 140737488355328 then some (.c (.own (nl && b.isEmpty) (enL enSS (a ++ b)) k), hp.set k (.row (a ++ b).length (rz (nl && b.isEmpty) 2))) else none := appendA_own (P := Tryd.prog) (t := 22) enSS 2 32 (fun _ => rfl) Tryd.underlying22 sz33 by33 zc33 rfl (by decide) (by decide) (nl := nl) hk (b := b)
theorem hd67 : (E0 mm).hard "outright.go:36" = false := rfl
theorem nv68 : (E0 mm).nw "outright.go:36" = false := rfl
theorem rw69 : (E0 mm).row "outright.go:36" = false := rfl
theorem ns70 (hp : Heap) (a0 a1 : Bs) : newSlice hp false false 2 1 [.d (.sc (.string (S a0))), .d (.sc (.string (S a1)))] = some (.c (.d (.lst false (enL enSS [(a0, a1)]))), hp) := rfl
theorem hd71 : (E0 mm).hard "outright.go:44" = false := rfl
theorem nv72 : (E0 mm).nw "outright.go:44" = false := rfl
theorem rw73 : (E0 mm).row "outright.go:44" = false := rfl
theorem hd74 : (E0 mm).hard "outright.go:46" = false := rfl
theorem nv75 : (E0 mm).nw "outright.go:46" = false := rfl
theorem rw76 : (E0 mm).row "outright.go:46" = false := rfl
theorem hd77 : (E0 mm).hard "outright.go:48" = true := rfl
theorem hd78 : (E0 mm).hard "outright.go:54" = false := rfl
theorem nv79 : (E0 mm).nw "outright.go:54" = false := rfl
theorem rw80 : (E0 mm).row "outright.go:54" = false := rfl
theorem hd81 : (E0 mm).hard "outright.go:40" = false := rfl
theorem nv82 : (E0 mm).nw "outright.go:40" = false := rfl
theorem rw83 : (E0 mm).row "outright.go:40" = false := rfl
theorem ao84 : (E0 mm).aown "outright.go:56" = false := rfl
end
end Go.Proofs.YtbdjemdhjanffaaDoor
