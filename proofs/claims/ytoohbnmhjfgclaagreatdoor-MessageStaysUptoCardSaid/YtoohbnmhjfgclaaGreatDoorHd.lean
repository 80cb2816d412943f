/- What the printed functions rest on: sizes, zeros, encoders. -/
import Derived.Test.YtoohbnmhjfgclaaGreatDoorEnv
import Derived.Test.YtoohbnmhjfgclaaGreatDoorEv8
set_option linter.all false
set_option maxRecDepth 100000
namespace Go.Proofs.YtoohbnmhjfgclaaGreatDoor
open Go Go.Ab
open Nat renaming reduceEqDiff → za, reduceAdd → zb, reduceLeDiff → zc, reduceLT → zd, reduceMul → ze, reduceBEq → zf, reduceSub → zg, reducePow → zh
open Int renaming reduceEq → zi, reduceLE → zj, reduceLT → zk, reduceToNat → zl, reduceNegSucc → zm, reduceAdd → zn, reduceBEq → zo
open String renaming reduceBEq → zp
noncomputable section
variable {mm : Int}
theorem E0P : (E0 mm).P = Tryz.prog := rfl
theorem E0hand : (E0 mm).hand = fun f => f == 71 || f == 110 := rfl
theorem E0keep : (E0 mm).keep = fun f => f == 71 || f == 110 := rfl
theorem E0plain : (E0 mm).plain = fun f => f == 47 || f == 52 || f == 53 := rfl
theorem E0glob : (E0 mm).glob = tabGlob tabT := rfl
theorem zE : (E0 mm).P = Tryz.prog ∧ ((E0 mm).hand = fun f => f == 71 || f == 110) ∧ ((E0 mm).glob = tabGlob tabT) ∧ ((E0 mm).keep = fun f => f == 71 || f == 110) ∧ ((E0 mm).plain = fun f => f == 47 || f == 52 || f == 53) := ⟨rfl, rfl, rfl, rfl, rfl⟩
theorem ext149_t (s : Bs) (c : UInt8) : (E0 mm).ext 149 [.string (S s), .int .u8 (c.toNat : Int)] = some (.int .i64 (Lib.countByte s c : Int)) := eCount_t s c
theorem ext161_t (s : Bs) (c : UInt8) : (E0 mm).ext 161 [.string (S s), .int .u8 (c.toNat : Int)] = some (.int .i64 (Lib.indexByte s c)) := eIndexByte_t s c
theorem ag101 : aggP Tryz.prog 101 = some false := by kernel_rfl
theorem ag137 : aggP Tryz.prog 137 = some false := by kernel_rfl
theorem ag22 : aggP Tryz.prog 22 = some false := by kernel_rfl
theorem ag23 : aggP Tryz.prog 23 = some false := by kernel_rfl
theorem ag25 : aggP Tryz.prog 25 = some true := by kernel_rfl
theorem ag3 : aggP Tryz.prog 3 = some false := by kernel_rfl
theorem ag32 : aggP Tryz.prog 32 = some true := by kernel_rfl
theorem ag4 : aggP Tryz.prog 4 = some false := by kernel_rfl
theorem ag5 : aggP Tryz.prog 5 = some false := by kernel_rfl
theorem ag58 : aggP Tryz.prog 58 = some true := by kernel_rfl
theorem ag64 : aggP Tryz.prog 64 = some false := by kernel_rfl
theorem ag9 : aggP Tryz.prog 9 = some false := by kernel_rfl
theorem by5 : bytesP Tryz.prog 5 = some 1 := by kernel_rfl
theorem by58 : bytesP Tryz.prog 58 = some 32 := by kernel_rfl
theorem by9 : bytesP Tryz.prog 9 = some 16 := by kernel_rfl
theorem ent100 : entersB Tryz.prog 100 = some true := by kernel_rfl
theorem ent101 : entersB Tryz.prog 101 = some true := by kernel_rfl
theorem ent102 : entersB Tryz.prog 102 = some true := by kernel_rfl
theorem ent103 : entersB Tryz.prog 103 = some true := by kernel_rfl
theorem ent104 : entersB Tryz.prog 104 = some true := by kernel_rfl
theorem ent105 : entersB Tryz.prog 105 = some true := by kernel_rfl
theorem ent11 : entersB Tryz.prog 11 = some true := by kernel_rfl
theorem ent112 : entersB Tryz.prog 112 = some true := by kernel_rfl
theorem ent113 : entersB Tryz.prog 113 = some true := by kernel_rfl
theorem ent117 : entersB Tryz.prog 117 = some true := by kernel_rfl
theorem ent118 : entersB Tryz.prog 118 = some true := by kernel_rfl
theorem ent119 : entersB Tryz.prog 119 = some true := by kernel_rfl
theorem ent120 : entersB Tryz.prog 120 = some true := by kernel_rfl
theorem ent121 : entersB Tryz.prog 121 = some true := by kernel_rfl
theorem ent122 : entersB Tryz.prog 122 = some true := by kernel_rfl
theorem ent123 : entersB Tryz.prog 123 = some true := by kernel_rfl
theorem ent124 : entersB Tryz.prog 124 = some true := by kernel_rfl
theorem ent134 : entersB Tryz.prog 134 = some true := by kernel_rfl
theorem ent135 : entersB Tryz.prog 135 = some true := by kernel_rfl
theorem ent136 : entersB Tryz.prog 136 = some true := by kernel_rfl
theorem ent15 : entersB Tryz.prog 15 = some true := by kernel_rfl
theorem ent150 : entersB Tryz.prog 150 = some true := by kernel_rfl
theorem ent151 : entersB Tryz.prog 151 = some true := by kernel_rfl
theorem ent152 : entersB Tryz.prog 152 = some true := by kernel_rfl
theorem ent153 : entersB Tryz.prog 153 = some true := by kernel_rfl
theorem ent154 : entersB Tryz.prog 154 = some true := by kernel_rfl
theorem ent155 : entersB Tryz.prog 155 = some true := by kernel_rfl
theorem ent16 : entersB Tryz.prog 16 = some true := by kernel_rfl
theorem ent174 : entersB Tryz.prog 174 = some true := by kernel_rfl
theorem ent18 : entersB Tryz.prog 18 = some true := by kernel_rfl
theorem ent19 : entersB Tryz.prog 19 = some true := by kernel_rfl
theorem ent23 : entersB Tryz.prog 23 = some true := by kernel_rfl
theorem ent24 : entersB Tryz.prog 24 = some true := by kernel_rfl
theorem ent25 : entersB Tryz.prog 25 = some true := by kernel_rfl
theorem ent26 : entersB Tryz.prog 26 = some true := by kernel_rfl
theorem ent27 : entersB Tryz.prog 27 = some true := by kernel_rfl
theorem ent33 : entersB Tryz.prog 33 = some true := by kernel_rfl
theorem ent34 : entersB Tryz.prog 34 = some true := by kernel_rfl
theorem ent35 : entersB Tryz.prog 35 = some true := by kernel_rfl
theorem ent36 : entersB Tryz.prog 36 = some true := by kernel_rfl
theorem ent40 : entersB Tryz.prog 40 = some true := by kernel_rfl
theorem ent42 : entersB Tryz.prog 42 = some true := by kernel_rfl
theorem ent43 : entersB Tryz.prog 43 = some true := by kernel_rfl
theorem ent46 : entersB Tryz.prog 46 = some true := by kernel_rfl
theorem ent47 : entersB Tryz.prog 47 = some true := by kernel_rfl
theorem ent48 : entersB Tryz.prog 48 = some true := by kernel_rfl
theorem ent49 : entersB Tryz.prog 49 = some true := by kernel_rfl
theorem ent50 : entersB Tryz.prog 50 = some true := by kernel_rfl
theorem ent51 : entersB Tryz.prog 51 = some true := by kernel_rfl
theorem ent52 : entersB Tryz.prog 52 = some true := by kernel_rfl
theorem ent53 : entersB Tryz.prog 53 = some true := by kernel_rfl
theorem ent62 : entersB Tryz.prog 62 = some true := by kernel_rfl
theorem ent63 : entersB Tryz.prog 63 = some true := by kernel_rfl
theorem ent65 : entersB Tryz.prog 65 = some true := by kernel_rfl
theorem ent66 : entersB Tryz.prog 66 = some true := by kernel_rfl
theorem ent67 : entersB Tryz.prog 67 = some true := by kernel_rfl
theorem ent68 : entersB Tryz.prog 68 = some true := by kernel_rfl
theorem ent74 : entersB Tryz.prog 74 = some true := by kernel_rfl
theorem ent75 : entersB Tryz.prog 75 = some true := by kernel_rfl
theorem ent79 : entersB Tryz.prog 79 = some true := by kernel_rfl
theorem ent80 : entersB Tryz.prog 80 = some true := by kernel_rfl
theorem ent81 : entersB Tryz.prog 81 = some true := by kernel_rfl
theorem ent82 : entersB Tryz.prog 82 = some true := by kernel_rfl
theorem ent84 : entersB Tryz.prog 84 = some true := by kernel_rfl
theorem ent85 : entersB Tryz.prog 85 = some true := by kernel_rfl
theorem ent86 : entersB Tryz.prog 86 = some true := by kernel_rfl
theorem ent87 : entersB Tryz.prog 87 = some true := by kernel_rfl
theorem ent88 : entersB Tryz.prog 88 = some true := by kernel_rfl
theorem ent89 : entersB Tryz.prog 89 = some true := by kernel_rfl
theorem ent9 : entersB Tryz.prog 9 = some true := by kernel_rfl
theorem entf161 : entersB Tryz.prog 161 = some false := by kernel_rfl
theorem exf161 : (E0 mm).extp 161 = none := rfl
theorem entf78 : entersB Tryz.prog 78 = some false := by kernel_rfl
theorem exf78 : (E0 mm).extp 78 = some pIndexB := rfl
theorem prm100 : (E0 mm).prim 100 = none := rfl
theorem prm101 : (E0 mm).prim 101 = none := rfl
theorem prm102 : (E0 mm).prim 102 = none := rfl
theorem prm103 : (E0 mm).prim 103 = none := rfl
theorem prm104 : (E0 mm).prim 104 = none := rfl
theorem prm105 : (E0 mm).prim 105 = none := rfl
theorem prm11 : (E0 mm).prim 11 = none := rfl
theorem prm112 : (E0 mm).prim 112 = none := rfl
theorem prm113 : (E0 mm).prim 113 = some pTrim := rfl
theorem prm117 : (E0 mm).prim 117 = none := rfl
theorem prm118 : (E0 mm).prim 118 = none := rfl
theorem prm119 : (E0 mm).prim 119 = none := rfl
theorem prm120 : (E0 mm).prim 120 = none := rfl
theorem prm121 : (E0 mm).prim 121 = none := rfl
theorem prm122 : (E0 mm).prim 122 = none := rfl
theorem prm123 : (E0 mm).prim 123 = none := rfl
theorem prm124 : (E0 mm).prim 124 = none := rfl
theorem prm134 : (E0 mm).prim 134 = none := rfl
theorem prm135 : (E0 mm).prim 135 = none := rfl
theorem prm136 : (E0 mm).prim 136 = none := rfl
theorem prm15 : (E0 mm).prim 15 = none := rfl
theorem prm150 : (E0 mm).prim 150 = some pIndex := rfl
theorem prm151 : (E0 mm).prim 151 = none := rfl
theorem prm152 : (E0 mm).prim 152 = none := rfl
theorem prm153 : (E0 mm).prim 153 = none := rfl
theorem prm154 : (E0 mm).prim 154 = none := rfl
theorem prm155 : (E0 mm).prim 155 = none := rfl
theorem prm16 : (E0 mm).prim 16 = none := rfl
theorem prm174 : (E0 mm).prim 174 = none := rfl
theorem prm18 : (E0 mm).prim 18 = none := rfl
theorem prm19 : (E0 mm).prim 19 = none := rfl
theorem prm23 : (E0 mm).prim 23 = none := rfl
theorem prm24 : (E0 mm).prim 24 = none := rfl
theorem prm25 : (E0 mm).prim 25 = none := rfl
theorem prm26 : (E0 mm).prim 26 = none := rfl
theorem prm27 : (E0 mm).prim 27 = none := rfl
theorem prm33 : (E0 mm).prim 33 = none := rfl
theorem prm34 : (E0 mm).prim 34 = none := rfl
theorem prm35 : (E0 mm).prim 35 = none := rfl
theorem prm36 : (E0 mm).prim 36 = none := rfl
theorem prm40 : (E0 mm).prim 40 = none := rfl
theorem prm42 : (E0 mm).prim 42 = none := rfl
theorem prm43 : (E0 mm).prim 43 = none := rfl
theorem prm46 : (E0 mm).prim 46 = none := rfl
theorem prm47 : (E0 mm).prim 47 = none := rfl
theorem prm48 : (E0 mm).prim 48 = some pSplit := rfl
theorem prm49 : (E0 mm).prim 49 = none := rfl
theorem prm50 : (E0 mm).prim 50 = none := rfl
theorem prm51 : (E0 mm).prim 51 = none := rfl
theorem prm52 : (E0 mm).prim 52 = none := rfl
theorem prm53 : (E0 mm).prim 53 = none := rfl
theorem prm62 : (E0 mm).prim 62 = some pSplitN := rfl
theorem prm63 : (E0 mm).prim 63 = some pAtoi := rfl
theorem prm65 : (E0 mm).prim 65 = none := rfl
theorem prm66 : (E0 mm).prim 66 = none := rfl
theorem prm67 : (E0 mm).prim 67 = none := rfl
theorem prm68 : (E0 mm).prim 68 = none := rfl
theorem prm74 : (E0 mm).prim 74 = some pItoa := rfl
theorem prm75 : (E0 mm).prim 75 = none := rfl
theorem prm79 : (E0 mm).prim 79 = none := rfl
theorem prm80 : (E0 mm).prim 80 = none := rfl
theorem prm81 : (E0 mm).prim 81 = none := rfl
theorem prm82 : (E0 mm).prim 82 = none := rfl
theorem prm84 : (E0 mm).prim 84 = none := rfl
theorem prm85 : (E0 mm).prim 85 = none := rfl
theorem prm86 : (E0 mm).prim 86 = none := rfl
theorem prm87 : (E0 mm).prim 87 = none := rfl
theorem prm88 : (E0 mm).prim 88 = none := rfl
theorem prm89 : (E0 mm).prim 89 = none := rfl
theorem prm9 : (E0 mm).prim 9 = none := rfl
theorem sz101 : szP Tryz.prog 101 = some 1 := by kernel_rfl
theorem sz137 : szP Tryz.prog 137 = some 1 := by kernel_rfl
theorem sz22 : szP Tryz.prog 22 = some 1 := by kernel_rfl
theorem sz23 : szP Tryz.prog 23 = some 1 := by kernel_rfl
theorem sz25 : szP Tryz.prog 25 = some 5 := by kernel_rfl
theorem sz3 : szP Tryz.prog 3 = some 1 := by kernel_rfl
theorem sz32 : szP Tryz.prog 32 = some 5 := by kernel_rfl
theorem sz4 : szP Tryz.prog 4 = some 1 := by kernel_rfl
theorem sz5 : szP Tryz.prog 5 = some 1 := by kernel_rfl
theorem sz58 : szP Tryz.prog 58 = some 2 := by kernel_rfl
theorem sz64 : szP Tryz.prog 64 = some 1 := by kernel_rfl
theorem sz9 : szP Tryz.prog 9 = some 1 := by kernel_rfl
theorem zc101 : zeroC Tryz.prog 101 = some [.d (.lst true [])] := by kernel_rfl
theorem zc135 : zeroC Tryz.prog 135 = some [.d (.lst true []), .d (.sc (.int .i64 0)), .d (.sc (.int .u8 ((0 : UInt8).toNat : Int)))] := by kernel_rfl
theorem zc25 : zeroC Tryz.prog 25 = some [.d (.sc (.string (S ([] : Bs)))), .d (.sc (.string (S ([] : Bs)))), .d (.sc (.int .i64 0)), .d (.lst true []), .d (.lst true [])] := by kernel_rfl
theorem zc3 : zeroC Tryz.prog 3 = some [.d (.sc (.int .i64 0))] := by kernel_rfl
theorem zc32 : zeroC Tryz.prog 32 = some [.d (.sc (.int .i64 0)), .d (.sc (.string (S ([] : Bs)))), .d (.sc (.int .i64 0)), .d (.lst true []), .d (.lst true [])] := by kernel_rfl
theorem zc4 : zeroC Tryz.prog 4 = some [.d (.sc (.bool false))] := by kernel_rfl
theorem zc5 : zeroC Tryz.prog 5 = some [.d (.sc (.int .u8 ((0 : UInt8).toNat : Int)))] := by kernel_rfl
theorem zc58 : zeroC Tryz.prog 58 = some [.d (.sc (.string (S ([] : Bs)))), .d (.sc (.string (S ([] : Bs))))] := by kernel_rfl
theorem zc64 : zeroC Tryz.prog 64 = some [.d (.sc (.int .u64 0))] := by kernel_rfl
theorem zc9 : zeroC Tryz.prog 9 = some [.d (.sc (.string (S ([] : Bs))))] := by kernel_rfl

theorem hd0 : (E0 mm).hard "outright.go:63" = false := rfl
theorem nv1 : (E0 mm).nw "outright.go:63" = false := rfl
theorem rw2 : (E0 mm).row "outright.go:63" = true := rfl
theorem ns3 (hp : Heap)  : newSlice hp false true 1 0 [] = some (.c (.own false (enL enB []) hp.length), hp ++ [.row 0 1]) := rfl
theorem ap22 {hp : Heap} {k : Nat} {nl : Bool} {a b : List UInt8} (hk : hp[k]? = some (.row a.length (rz nl 1))) : appendA Tryz.prog false hp 22 (.own nl (enL enB a) k) (enL enB b) = if b = [] ∨ (a.length + b.length) * 1 ≤ 140737488355328 then some (.c (.own (nl && b.isEmpty) (enL enB (a ++ b)) k), hp.set k (.row (a ++ b).length (rz (nl && b.isEmpty) 1))) else none := appendA_own (P := Tryz.prog) (t := 22) enB 1 1 (fun _ => rfl) Tryz.underlying22 sz5 by5 zc5 rfl (by decide) (by decide) (nl := nl) hk (b := b)
theorem ao5 : (E0 mm).aown "message.go:66" = false := rfl
theorem ao6 : (E0 mm).aown "message.go:18" = false := rfl
theorem ao7 : (E0 mm).aown "message.go:19" = false := rfl
theorem ao8 : (E0 mm).aown "message.go:67" = false := rfl
theorem hd9 : (E0 mm).hard "text.go:17" = false := rfl
theorem rw10 : (E0 mm).row "text.go:17" = false := rfl
theorem hd11 : (E0 mm).hard "start.go:24" = false := rfl
theorem rw12 : (E0 mm).row "start.go:24" = false := rfl
theorem hd13 : (E0 mm).hard "head.go:37" = false := rfl
theorem nv14 : (E0 mm).nw "head.go:37" = false := rfl
theorem rw15 : (E0 mm).row "head.go:37" = false := rfl
theorem ns16 (hp : Heap) (a0 : UInt8) : newSlice hp false false 1 1 [.d (.sc (.int .u8 (a0.toNat : Int)))] = some (.c (.d (.lst false (enL enB [a0]))), hp) := rfl
theorem hd17 : (E0 mm).hard "head.go:38" = false := rfl
theorem nv18 : (E0 mm).nw "head.go:38" = false := rfl
theorem rw19 : (E0 mm).row "head.go:38" = false := rfl
theorem hd20 : (E0 mm).hard "head.go:106" = false := rfl
theorem nv21 : (E0 mm).nw "head.go:106" = false := rfl
theorem rw22 : (E0 mm).row "head.go:106" = false := rfl
theorem ns23 (hp : Heap) (a0 a1 : Bs) : newSlice hp false false 2 1 [.d (.sc (.string (S a0))), .d (.sc (.string (S a1)))] = some (.c (.d (.lst false (enL enSS [(a0, a1)]))), hp) := rfl
theorem ap23 {hp : Heap} {k : Nat} {nl : Bool} {a b : List (Bs × Bs)} (hk : hp[k]? = some (.row a.length (rz nl 2))) : appendA Tryz.prog false hp 23 (.own nl (enL enSS a) k) (enL enSS b) = if b = [] ∨ (a.length + b.length) * 32 ≤ 140737488355328 then some (.c (.own (nl && b.isEmpty) (enL enSS (a ++ b)) k), hp.set k (.row (a ++ b).length (rz (nl && b.isEmpty) 2))) else none := appendA_own (P := Tryz.prog) (t := 23) enSS 2 32 (fun _ => rfl) Tryz.underlying23 sz58 by58 zc58 rfl (by decide) (by decide) (nl := nl) hk (b := b)
theorem ao25 : (E0 mm).aown "head.go:132" = false := rfl
theorem hd26 : (E0 mm).hard "text.go:39" = true := rfl
theorem hd27 : (E0 mm).hard "head.go:134" = false := rfl
theorem nv28 : (E0 mm).nw "head.go:134" = false := rfl
theorem rw29 : (E0 mm).row "head.go:134" = false := rfl
theorem ns30 (hp : Heap) (a0 : Bs) : newSlice hp false false 1 1 [.d (.sc (.string (S a0)))] = some (.c (.d (.lst false (enL enS [a0]))), hp) := rfl
theorem ap101 {hp : Heap} {k : Nat} {nl : Bool} {a b : List Bs} (hk : hp[k]? = some (.row a.length (rz nl 1))) : appendA Tryz.prog false hp 101 (.own nl (enL enS a) k) (enL enS b) = if b = [] ∨ (a.length + b.length) * 16 ≤ 140737488355328 then some (.c (.own (nl && b.isEmpty) (enL enS (a ++ b)) k), hp.set k (.row (a ++ b).length (rz (nl && b.isEmpty) 1))) else none := appendA_own (P := Tryz.prog) (t := 101) enS 1 16 (fun _ => rfl) Tryz.underlying101 sz9 by9 zc9 rfl (by decide) (by decide) (nl := nl) hk (b := b)
theorem ao32 : (E0 mm).aown "frame.go:33" = false := rfl
theorem ao33 : (E0 mm).aown "text.go:53" = true := rfl
theorem ao34 : (E0 mm).aown "text.go:54" = false := rfl
theorem hd35 : (E0 mm).hard "text.go:57" = false := rfl
theorem nv36 : (E0 mm).nw "text.go:57" = false := rfl
theorem rw37 : (E0 mm).row "text.go:57" = false := rfl
theorem ao38 : (E0 mm).aown "frame.go:44" = false := rfl
theorem ao39 : (E0 mm).aown "frame.go:45" = false := rfl
theorem hd40 : (E0 mm).hard "bytes.go:1395" = false := rfl
theorem nv41 : (E0 mm).nw "bytes.go:1395" = false := rfl
theorem rw42 : (E0 mm).row "bytes.go:1395" = true := rfl
theorem ao43 : (E0 mm).aown "outright.go:64" = false := rfl
theorem ao44 : (E0 mm).aown "message.go:87" = false := rfl
theorem ao45 : (E0 mm).aown "message.go:88" = false := rfl
theorem ao46 : (E0 mm).aown "outright.go:71" = false := rfl
theorem ao47 : (E0 mm).aown "outright.go:73" = false := rfl
theorem ao48 : (E0 mm).aown "outright.go:74" = false := rfl
theorem eqg58neq (x y : Operand) (a0 : ByteArray) (a1 : ByteArray) (b0 : ByteArray) (b1 : ByteArray) : evalS Tryz.prog (eqGuard .neq 58 x y (.agg #[.string a0, .string a1]) (.agg #[.string b0, .string b1])) = some () := by kernel_rfl
theorem eqg58eql (x y : Operand) (a0 : ByteArray) (a1 : ByteArray) (b0 : ByteArray) (b1 : ByteArray) : evalS Tryz.prog (eqGuard .eql 58 x y (.agg #[.string a0, .string a1]) (.agg #[.string b0, .string b1])) = some () := by kernel_rfl
theorem eqh58 : Tryz.prog.stoodInHeld 58 = false := by kernel_rfl
theorem eqp58_0 (c : Value) (a0 : ByteArray) (a1 : ByteArray) : evalS Tryz.prog (part 9 #[.string a0, .string a1] 0) = some (.string a0) := by kernel_rfl
theorem eqq58_0 (d : Nat) (a b : ByteArray) : evalS Tryz.prog (Op.equalIn (d + 1) 9 (.string a) (.string b)) = some (a == b) := by kernel_rfl
theorem eqp58_1 (c : Value) (a0 : ByteArray) (a1 : ByteArray) : evalS Tryz.prog (part 9 #[.string a0, .string a1] 1) = some (.string a1) := by kernel_rfl
theorem eqq58_1 (d : Nat) (a b : ByteArray) : evalS Tryz.prog (Op.equalIn (d + 1) 9 (.string a) (.string b)) = some (a == b) := by kernel_rfl
theorem eqe58 (D : Nat) (a0 : ByteArray) (a1 : ByteArray) (b0 : ByteArray) (b1 : ByteArray) : evalS Tryz.prog (Op.equalIn (D + 2) 58 (.agg #[.string a0, .string a1]) (.agg #[.string b0, .string b1])) = some ((a0 == b0 && a1 == b1)) := by
  unfold Op.equalIn
  simp only [evalS_bind, underlying, ev_program, Option.bind_some, Tryz.underlying58, evalS_pure, eqh58, Bool.false_eq_true, if_false]
  simp only [evalS_bind, evalS_pure, List.forIn_toArray, bind_pure_comp, List.forIn_cons, List.forIn_nil, ne_eq, String.reduceEq, not_false_eq_true, if_true, eqp58_0 .nilIface, eqp58_1 .nilIface, eqq58_0, eqq58_1, Option.bind_some]
  cases h0 : (a0 == b0)
  · simp only [Bool.not_true, Bool.not_false, Bool.false_eq_true, if_true, if_false, evalS_bind, evalS_pure, Option.bind_some, eqp58_0 .nilIface, eqp58_1 .nilIface, eqq58_0, eqq58_1, h0]
    rfl
  · cases h1 : (a1 == b1)
    · simp only [Bool.not_true, Bool.not_false, Bool.false_eq_true, if_true, if_false, evalS_bind, evalS_pure, Option.bind_some, eqp58_0 .nilIface, eqp58_1 .nilIface, eqq58_0, eqq58_1, h0, h1]
      rfl
    · simp only [Bool.not_true, Bool.not_false, Bool.false_eq_true, if_true, if_false, evalS_bind, evalS_pure, Option.bind_some, eqp58_0 .nilIface, eqp58_1 .nilIface, eqq58_0, eqq58_1, h0, h1]
      rfl
theorem eqs58n (x y : Operand) (a0 a1 : Bs) (b0 b1 : Bs) : evalS Tryz.prog (do eqGuard .neq 58 x y (.agg #[.string (S a0), .string (S a1)]) (.agg #[.string (S b0), .string (S b1)]); binOp .neq 58 (.agg #[.string (S a0), .string (S a1)]) (.agg #[.string (S b0), .string (S b1)])) = some (.bool (!((a0 == b0 && a1 == b1)))) := by
  have : binOp .neq 58 (.agg #[.string (S a0), .string (S a1)]) (.agg #[.string (S b0), .string (S b1)]) = (do pure (.bool (!(← Op.equal 58 (.agg #[.string (S a0), .string (S a1)]) (.agg #[.string (S b0), .string (S b1)]))))) := rfl
  simp only [evalS_bind, eqg58neq, Option.bind_some, this, Op.equal]
  rw [show Op.maxDepth = 9998 + 2 from rfl, eqe58]
  try simp only [S_beq]
  rfl
theorem eqs58e (x y : Operand) (a0 a1 : Bs) (b0 b1 : Bs) : evalS Tryz.prog (do eqGuard .eql 58 x y (.agg #[.string (S a0), .string (S a1)]) (.agg #[.string (S b0), .string (S b1)]); binOp .eql 58 (.agg #[.string (S a0), .string (S a1)]) (.agg #[.string (S b0), .string (S b1)])) = some (.bool ((a0 == b0 && a1 == b1))) := by
  have : binOp .eql 58 (.agg #[.string (S a0), .string (S a1)]) (.agg #[.string (S b0), .string (S b1)]) = (do pure (.bool ((← Op.equal 58 (.agg #[.string (S a0), .string (S a1)]) (.agg #[.string (S b0), .string (S b1)]))))) := rfl
  simp only [evalS_bind, eqg58eql, Option.bind_some, this, Op.equal]
  rw [show Op.maxDepth = 9998 + 2 from rfl, eqe58]
  try simp only [S_beq]
  rfl
theorem ao50 : (E0 mm).aown "outright.go:66" = false := rfl
end
end Go.Proofs.YtoohbnmhjfgclaaGreatDoor
