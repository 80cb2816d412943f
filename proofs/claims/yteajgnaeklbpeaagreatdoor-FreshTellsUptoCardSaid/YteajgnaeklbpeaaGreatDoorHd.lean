/- What the printed functions rest on: sizes, zeros, encoders. -/
import Derived.Test.YteajgnaeklbpeaaGreatDoorEnv
import Derived.Test.YteajgnaeklbpeaaGreatDoorEv7
set_option linter.all false
set_option maxRecDepth 100000
namespace Go.Proofs.YteajgnaeklbpeaaGreatDoor
open Go Go.Ab
open Nat renaming reduceEqDiff → za, reduceAdd → zb, reduceLeDiff → zc, reduceLT → zd, reduceMul → ze, reduceBEq → zf, reduceSub → zg, reducePow → zh
open Int renaming reduceEq → zi, reduceLE → zj, reduceLT → zk, reduceToNat → zl, reduceNegSucc → zm, reduceAdd → zn, reduceBEq → zo
open String renaming reduceBEq → zp
noncomputable section
variable {mm : Int}
theorem E0P : (E0 mm).P = Tryz.prog := rfl
theorem E0hand : (E0 mm).hand = fun _ => false := rfl
theorem E0glob : (E0 mm).glob = fun _ => none := rfl
theorem zE : (E0 mm).P = Tryz.prog ∧ ((E0 mm).hand = fun _ => false) ∧ ((E0 mm).glob = fun _ => none) := ⟨rfl, rfl, rfl⟩
theorem ext89_t (s : Bs) (c : UInt8) : (E0 mm).ext 89 [.string (S s), .int .u8 (c.toNat : Int)] = some (.int .i64 (Lib.indexByte s c)) := eIndexByte_t s c
theorem ag22 : aggP Tryz.prog 22 = some false := by kernel_rfl
theorem ag23 : aggP Tryz.prog 23 = some false := by kernel_rfl
theorem ag26 : aggP Tryz.prog 26 = some true := by kernel_rfl
theorem ag28 : aggP Tryz.prog 28 = some true := by kernel_rfl
theorem ag3 : aggP Tryz.prog 3 = some false := by kernel_rfl
theorem ag38 : aggP Tryz.prog 38 = some true := by kernel_rfl
theorem ag40 : aggP Tryz.prog 40 = some false := by kernel_rfl
theorem ag5 : aggP Tryz.prog 5 = some false := by kernel_rfl
theorem ag56 : aggP Tryz.prog 56 = some false := by kernel_rfl
theorem ag62 : aggP Tryz.prog 62 = some true := by kernel_rfl
theorem ag9 : aggP Tryz.prog 9 = some false := by kernel_rfl
theorem ag91 : aggP Tryz.prog 91 = some false := by kernel_rfl
theorem by3 : bytesP Tryz.prog 3 = some 8 := by kernel_rfl
theorem by5 : bytesP Tryz.prog 5 = some 1 := by kernel_rfl
theorem by9 : bytesP Tryz.prog 9 = some 16 := by kernel_rfl
theorem ent10 : entersB Tryz.prog 10 = some true := by kernel_rfl
theorem ent101 : entersB Tryz.prog 101 = some true := by kernel_rfl
theorem ent11 : entersB Tryz.prog 11 = some true := by kernel_rfl
theorem ent12 : entersB Tryz.prog 12 = some true := by kernel_rfl
theorem ent13 : entersB Tryz.prog 13 = some true := by kernel_rfl
theorem ent14 : entersB Tryz.prog 14 = some true := by kernel_rfl
theorem ent15 : entersB Tryz.prog 15 = some true := by kernel_rfl
theorem ent16 : entersB Tryz.prog 16 = some true := by kernel_rfl
theorem ent17 : entersB Tryz.prog 17 = some true := by kernel_rfl
theorem ent18 : entersB Tryz.prog 18 = some true := by kernel_rfl
theorem ent19 : entersB Tryz.prog 19 = some true := by kernel_rfl
theorem ent20 : entersB Tryz.prog 20 = some true := by kernel_rfl
theorem ent21 : entersB Tryz.prog 21 = some true := by kernel_rfl
theorem ent22 : entersB Tryz.prog 22 = some true := by kernel_rfl
theorem ent23 : entersB Tryz.prog 23 = some true := by kernel_rfl
theorem ent25 : entersB Tryz.prog 25 = some true := by kernel_rfl
theorem ent26 : entersB Tryz.prog 26 = some true := by kernel_rfl
theorem ent27 : entersB Tryz.prog 27 = some true := by kernel_rfl
theorem ent28 : entersB Tryz.prog 28 = some true := by kernel_rfl
theorem ent29 : entersB Tryz.prog 29 = some true := by kernel_rfl
theorem ent30 : entersB Tryz.prog 30 = some true := by kernel_rfl
theorem ent31 : entersB Tryz.prog 31 = some true := by kernel_rfl
theorem ent32 : entersB Tryz.prog 32 = some true := by kernel_rfl
theorem ent33 : entersB Tryz.prog 33 = some true := by kernel_rfl
theorem ent34 : entersB Tryz.prog 34 = some true := by kernel_rfl
theorem ent35 : entersB Tryz.prog 35 = some true := by kernel_rfl
theorem ent36 : entersB Tryz.prog 36 = some true := by kernel_rfl
theorem ent37 : entersB Tryz.prog 37 = some true := by kernel_rfl
theorem ent38 : entersB Tryz.prog 38 = some true := by kernel_rfl
theorem ent39 : entersB Tryz.prog 39 = some true := by kernel_rfl
theorem ent4 : entersB Tryz.prog 4 = some true := by kernel_rfl
theorem ent40 : entersB Tryz.prog 40 = some true := by kernel_rfl
theorem ent41 : entersB Tryz.prog 41 = some true := by kernel_rfl
theorem ent42 : entersB Tryz.prog 42 = some true := by kernel_rfl
theorem ent43 : entersB Tryz.prog 43 = some true := by kernel_rfl
theorem ent44 : entersB Tryz.prog 44 = some true := by kernel_rfl
theorem ent45 : entersB Tryz.prog 45 = some true := by kernel_rfl
theorem ent46 : entersB Tryz.prog 46 = some true := by kernel_rfl
theorem ent47 : entersB Tryz.prog 47 = some true := by kernel_rfl
theorem ent48 : entersB Tryz.prog 48 = some true := by kernel_rfl
theorem ent49 : entersB Tryz.prog 49 = some true := by kernel_rfl
theorem ent5 : entersB Tryz.prog 5 = some true := by kernel_rfl
theorem ent50 : entersB Tryz.prog 50 = some true := by kernel_rfl
theorem ent51 : entersB Tryz.prog 51 = some true := by kernel_rfl
theorem ent52 : entersB Tryz.prog 52 = some true := by kernel_rfl
theorem ent53 : entersB Tryz.prog 53 = some true := by kernel_rfl
theorem ent54 : entersB Tryz.prog 54 = some true := by kernel_rfl
theorem ent55 : entersB Tryz.prog 55 = some true := by kernel_rfl
theorem ent56 : entersB Tryz.prog 56 = some true := by kernel_rfl
theorem ent57 : entersB Tryz.prog 57 = some true := by kernel_rfl
theorem ent58 : entersB Tryz.prog 58 = some true := by kernel_rfl
theorem ent59 : entersB Tryz.prog 59 = some true := by kernel_rfl
theorem ent6 : entersB Tryz.prog 6 = some true := by kernel_rfl
theorem ent60 : entersB Tryz.prog 60 = some true := by kernel_rfl
theorem ent61 : entersB Tryz.prog 61 = some true := by kernel_rfl
theorem ent62 : entersB Tryz.prog 62 = some true := by kernel_rfl
theorem ent63 : entersB Tryz.prog 63 = some true := by kernel_rfl
theorem ent64 : entersB Tryz.prog 64 = some true := by kernel_rfl
theorem ent65 : entersB Tryz.prog 65 = some true := by kernel_rfl
theorem ent66 : entersB Tryz.prog 66 = some true := by kernel_rfl
theorem ent67 : entersB Tryz.prog 67 = some true := by kernel_rfl
theorem ent68 : entersB Tryz.prog 68 = some true := by kernel_rfl
theorem ent69 : entersB Tryz.prog 69 = some true := by kernel_rfl
theorem ent7 : entersB Tryz.prog 7 = some true := by kernel_rfl
theorem ent70 : entersB Tryz.prog 70 = some true := by kernel_rfl
theorem ent71 : entersB Tryz.prog 71 = some true := by kernel_rfl
theorem ent72 : entersB Tryz.prog 72 = some true := by kernel_rfl
theorem ent73 : entersB Tryz.prog 73 = some true := by kernel_rfl
theorem ent74 : entersB Tryz.prog 74 = some true := by kernel_rfl
theorem ent75 : entersB Tryz.prog 75 = some true := by kernel_rfl
theorem ent76 : entersB Tryz.prog 76 = some true := by kernel_rfl
theorem ent77 : entersB Tryz.prog 77 = some true := by kernel_rfl
theorem ent78 : entersB Tryz.prog 78 = some true := by kernel_rfl
theorem ent8 : entersB Tryz.prog 8 = some true := by kernel_rfl
theorem ent82 : entersB Tryz.prog 82 = some true := by kernel_rfl
theorem ent83 : entersB Tryz.prog 83 = some true := by kernel_rfl
theorem ent84 : entersB Tryz.prog 84 = some true := by kernel_rfl
theorem ent85 : entersB Tryz.prog 85 = some true := by kernel_rfl
theorem ent86 : entersB Tryz.prog 86 = some true := by kernel_rfl
theorem ent87 : entersB Tryz.prog 87 = some true := by kernel_rfl
theorem ent88 : entersB Tryz.prog 88 = some true := by kernel_rfl
theorem ent9 : entersB Tryz.prog 9 = some true := by kernel_rfl
theorem ent91 : entersB Tryz.prog 91 = some true := by kernel_rfl
theorem ent92 : entersB Tryz.prog 92 = some true := by kernel_rfl
theorem ent93 : entersB Tryz.prog 93 = some true := by kernel_rfl
theorem entf89 : entersB Tryz.prog 89 = some false := by kernel_rfl
theorem exf89 : (E0 mm).extp 89 = none := rfl
theorem prm10 : (E0 mm).prim 10 = none := rfl
theorem prm101 : (E0 mm).prim 101 = none := rfl
theorem prm11 : (E0 mm).prim 11 = none := rfl
theorem prm12 : (E0 mm).prim 12 = none := rfl
theorem prm13 : (E0 mm).prim 13 = none := rfl
theorem prm14 : (E0 mm).prim 14 = none := rfl
theorem prm15 : (E0 mm).prim 15 = none := rfl
theorem prm16 : (E0 mm).prim 16 = none := rfl
theorem prm17 : (E0 mm).prim 17 = none := rfl
theorem prm18 : (E0 mm).prim 18 = none := rfl
theorem prm19 : (E0 mm).prim 19 = none := rfl
theorem prm20 : (E0 mm).prim 20 = none := rfl
theorem prm21 : (E0 mm).prim 21 = none := rfl
theorem prm22 : (E0 mm).prim 22 = none := rfl
theorem prm23 : (E0 mm).prim 23 = none := rfl
theorem prm25 : (E0 mm).prim 25 = none := rfl
theorem prm26 : (E0 mm).prim 26 = none := rfl
theorem prm27 : (E0 mm).prim 27 = none := rfl
theorem prm28 : (E0 mm).prim 28 = none := rfl
theorem prm29 : (E0 mm).prim 29 = none := rfl
theorem prm30 : (E0 mm).prim 30 = none := rfl
theorem prm31 : (E0 mm).prim 31 = none := rfl
theorem prm32 : (E0 mm).prim 32 = none := rfl
theorem prm33 : (E0 mm).prim 33 = none := rfl
theorem prm34 : (E0 mm).prim 34 = none := rfl
theorem prm35 : (E0 mm).prim 35 = none := rfl
theorem prm36 : (E0 mm).prim 36 = none := rfl
theorem prm37 : (E0 mm).prim 37 = none := rfl
theorem prm38 : (E0 mm).prim 38 = none := rfl
theorem prm39 : (E0 mm).prim 39 = none := rfl
theorem prm4 : (E0 mm).prim 4 = none := rfl
theorem prm40 : (E0 mm).prim 40 = none := rfl
theorem prm41 : (E0 mm).prim 41 = none := rfl
theorem prm42 : (E0 mm).prim 42 = none := rfl
theorem prm43 : (E0 mm).prim 43 = none := rfl
theorem prm44 : (E0 mm).prim 44 = none := rfl
theorem prm45 : (E0 mm).prim 45 = none := rfl
theorem prm46 : (E0 mm).prim 46 = none := rfl
theorem prm47 : (E0 mm).prim 47 = none := rfl
theorem prm48 : (E0 mm).prim 48 = none := rfl
theorem prm49 : (E0 mm).prim 49 = none := rfl
theorem prm5 : (E0 mm).prim 5 = none := rfl
theorem prm50 : (E0 mm).prim 50 = none := rfl
theorem prm51 : (E0 mm).prim 51 = none := rfl
theorem prm52 : (E0 mm).prim 52 = none := rfl
theorem prm53 : (E0 mm).prim 53 = none := rfl
theorem prm54 : (E0 mm).prim 54 = none := rfl
theorem prm55 : (E0 mm).prim 55 = none := rfl
theorem prm56 : (E0 mm).prim 56 = none := rfl
theorem prm57 : (E0 mm).prim 57 = none := rfl
theorem prm58 : (E0 mm).prim 58 = none := rfl
theorem prm59 : (E0 mm).prim 59 = none := rfl
theorem prm6 : (E0 mm).prim 6 = none := rfl
theorem prm60 : (E0 mm).prim 60 = none := rfl
theorem prm61 : (E0 mm).prim 61 = none := rfl
theorem prm62 : (E0 mm).prim 62 = none := rfl
theorem prm63 : (E0 mm).prim 63 = none := rfl
theorem prm64 : (E0 mm).prim 64 = none := rfl
theorem prm65 : (E0 mm).prim 65 = none := rfl
theorem prm66 : (E0 mm).prim 66 = some pIndex := rfl
theorem prm67 : (E0 mm).prim 67 = none := rfl
theorem prm68 : (E0 mm).prim 68 = none := rfl
theorem prm69 : (E0 mm).prim 69 = none := rfl
theorem prm7 : (E0 mm).prim 7 = none := rfl
theorem prm70 : (E0 mm).prim 70 = none := rfl
theorem prm71 : (E0 mm).prim 71 = none := rfl
theorem prm72 : (E0 mm).prim 72 = none := rfl
theorem prm73 : (E0 mm).prim 73 = none := rfl
theorem prm74 : (E0 mm).prim 74 = none := rfl
theorem prm75 : (E0 mm).prim 75 = none := rfl
theorem prm76 : (E0 mm).prim 76 = none := rfl
theorem prm77 : (E0 mm).prim 77 = none := rfl
theorem prm78 : (E0 mm).prim 78 = none := rfl
theorem prm8 : (E0 mm).prim 8 = none := rfl
theorem prm82 : (E0 mm).prim 82 = none := rfl
theorem prm83 : (E0 mm).prim 83 = none := rfl
theorem prm84 : (E0 mm).prim 84 = none := rfl
theorem prm85 : (E0 mm).prim 85 = none := rfl
theorem prm86 : (E0 mm).prim 86 = none := rfl
theorem prm87 : (E0 mm).prim 87 = none := rfl
theorem prm88 : (E0 mm).prim 88 = none := rfl
theorem prm9 : (E0 mm).prim 9 = none := rfl
theorem prm91 : (E0 mm).prim 91 = some pTrim := rfl
theorem prm92 : (E0 mm).prim 92 = none := rfl
theorem prm93 : (E0 mm).prim 93 = none := rfl
theorem sz22 : szP Tryz.prog 22 = some 1 := by kernel_rfl
theorem sz23 : szP Tryz.prog 23 = some 1 := by kernel_rfl
theorem sz26 : szP Tryz.prog 26 = some 5 := by kernel_rfl
theorem sz28 : szP Tryz.prog 28 = some 9 := by kernel_rfl
theorem sz3 : szP Tryz.prog 3 = some 1 := by kernel_rfl
theorem sz38 : szP Tryz.prog 38 = some 10 := by kernel_rfl
theorem sz4 : szP Tryz.prog 4 = some 1 := by kernel_rfl
theorem sz40 : szP Tryz.prog 40 = some 1 := by kernel_rfl
theorem sz5 : szP Tryz.prog 5 = some 1 := by kernel_rfl
theorem sz56 : szP Tryz.prog 56 = some 1 := by kernel_rfl
theorem sz62 : szP Tryz.prog 62 = some 2 := by kernel_rfl
theorem sz85 : szP Tryz.prog 85 = some 12 := by kernel_rfl
theorem sz86 : szP Tryz.prog 86 = some 12 := by kernel_rfl
theorem sz87 : szP Tryz.prog 87 = some 7 := by kernel_rfl
theorem sz9 : szP Tryz.prog 9 = some 1 := by kernel_rfl
theorem sz91 : szP Tryz.prog 91 = some 1 := by kernel_rfl
theorem zc3 : zeroC Tryz.prog 3 = some [.d (.sc (.int .i64 0))] := by kernel_rfl
theorem zc38 : zeroC Tryz.prog 38 = some [.d (.sc (.bool false)), .d (.sc (.bool false)), .d (.sc (.bool false)), .d (.sc (.bool false)), .d (.sc (.bool false)), .d (.sc (.bool false)), .d (.sc (.int .i64 0)), .d (.sc (.int .i64 0)), .d (.sc (.int .i64 0)), .d (.sc (.int .i64 0))] := by kernel_rfl
theorem zc40 : zeroC Tryz.prog 40 = some [.d (.lst true [])] := by kernel_rfl
theorem zc5 : zeroC Tryz.prog 5 = some [.d (.sc (.int .u8 ((0 : UInt8).toNat : Int)))] := by kernel_rfl
theorem zc62 : zeroC Tryz.prog 62 = some [.d (.sc (.string (S ([] : Bs)))), .d (.sc (.string (S ([] : Bs))))] := by kernel_rfl
theorem zc85 : zeroC Tryz.prog 85 = some [.d (.sc (.int .i64 0)), .d (.sc (.int .i64 0)), .d (.sc (.int .i64 0)), .d (.sc (.int .i64 0)), .d (.sc (.int .i64 0)), .d (.sc (.int .i64 0)), .d (.sc (.int .i64 0)), .d (.sc (.int .i64 0)), .d (.sc (.int .i64 0)), .d (.sc (.int .i64 0)), .d (.sc (.int .i64 0)), .d (.sc (.int .i64 0))] := by kernel_rfl
theorem zc86 : zeroC Tryz.prog 86 = some [.d (.sc (.string (S ([] : Bs)))), .d (.sc (.string (S ([] : Bs)))), .d (.sc (.string (S ([] : Bs)))), .d (.sc (.string (S ([] : Bs)))), .d (.sc (.string (S ([] : Bs)))), .d (.sc (.string (S ([] : Bs)))), .d (.sc (.string (S ([] : Bs)))), .d (.sc (.string (S ([] : Bs)))), .d (.sc (.string (S ([] : Bs)))), .d (.sc (.string (S ([] : Bs)))), .d (.sc (.string (S ([] : Bs)))), .d (.sc (.string (S ([] : Bs))))] := by kernel_rfl
theorem zc87 : zeroC Tryz.prog 87 = some [.d (.sc (.string (S ([] : Bs)))), .d (.sc (.string (S ([] : Bs)))), .d (.sc (.string (S ([] : Bs)))), .d (.sc (.string (S ([] : Bs)))), .d (.sc (.string (S ([] : Bs)))), .d (.sc (.string (S ([] : Bs)))), .d (.sc (.string (S ([] : Bs))))] := by kernel_rfl
theorem zc9 : zeroC Tryz.prog 9 = some [.d (.sc (.string (S ([] : Bs))))] := by kernel_rfl
theorem zv40 : (zeroP Tryz.prog 40).bind ofV = some (.c (.d (.lst true []))) := by kernel_rfl

theorem ao0 : (E0 mm).aown "head.go:132" = false := rfl
theorem hd1 : (E0 mm).hard "text.go:39" = true := rfl
theorem hd2 : (E0 mm).hard "head.go:134" = false := rfl
theorem nv3 : (E0 mm).nw "head.go:134" = false := rfl
theorem rw4 : (E0 mm).row "head.go:134" = false := rfl
theorem ns5 (hp : Heap) (a0 : Bs) : newSlice hp false false 1 1 [.d (.sc (.string (S a0)))] = some (.c (.d (.lst false (enL enS [a0]))), hp) := rfl
theorem ap40 {hp : Heap} {k : Nat} {nl : Bool} {a b : List Bs} (hk : hp[k]? = some (.row a.length (rz nl 1))) : appendA Tryz.prog false hp 40 (.own nl (enL enS a) k) (enL enS b) = if b = [] ∨ (a.length + b.length) * 16 ≤ 140737488355328 then some (.c (.own (nl && b.isEmpty) (enL enS (a ++ b)) k), hp.set k (.row (a ++ b).length (rz (nl && b.isEmpty) 1))) else none := appendA_own (P := Tryz.prog) (t := 40) enS 1 16 (fun _ => rfl) Tryz.underlying40 sz9 by9 zc9 rfl (by decide) (by decide) (nl := nl) hk (b := b)
theorem ao7 : (E0 mm).aown "date.go:25" = false := rfl
theorem ar8 (k : Nat) (h : k < 12) : mkV false (([.d (.sc (.int .i64 31)), .d (.sc (.int .i64 28)), .d (.sc (.int .i64 31)), .d (.sc (.int .i64 30)), .d (.sc (.int .i64 31)), .d (.sc (.int .i64 30)), .d (.sc (.int .i64 31)), .d (.sc (.int .i64 31)), .d (.sc (.int .i64 30)), .d (.sc (.int .i64 31)), .d (.sc (.int .i64 30)), .d (.sc (.int .i64 31))].drop k).take 1) = some (.c (.d (.sc (.int .i64 (([(31 : Int), (28 : Int), (31 : Int), (30 : Int), (31 : Int), (30 : Int), (31 : Int), (31 : Int), (30 : Int), (31 : Int), (30 : Int), (31 : Int)] : List Int).getD k default))))) := arr_get (fun a : Int => .sc (.int .i64 a)) ([(31 : Int), (28 : Int), (31 : Int), (30 : Int), (31 : Int), (30 : Int), (31 : Int), (31 : Int), (30 : Int), (31 : Int), (30 : Int), (31 : Int)] : List Int) k h
theorem hd9 : (E0 mm).hard "date.go:40" = false := rfl
theorem nv10 : (E0 mm).nw "date.go:40" = false := rfl
theorem rw11 : (E0 mm).row "date.go:40" = false := rfl
theorem ns12 (hp : Heap) (a0 a1 : UInt8) : newSlice hp false false 1 2 [.d (.sc (.int .u8 (a0.toNat : Int))), .d (.sc (.int .u8 (a1.toNat : Int)))] = some (.c (.d (.lst false (enL enB [a0, a1]))), hp) := rfl
theorem hd13 : (E0 mm).hard "ref.go:50" = false := rfl
theorem nv14 : (E0 mm).nw "ref.go:50" = false := rfl
theorem rw15 : (E0 mm).row "ref.go:50" = false := rfl
theorem ns16 (hp : Heap) (a0 : UInt8) : newSlice hp false false 1 1 [.d (.sc (.int .u8 (a0.toNat : Int)))] = some (.c (.d (.lst false (enL enB [a0]))), hp) := rfl
theorem ap24 {hp : Heap} {k : Nat} {nl : Bool} {a b : List UInt8} (hk : hp[k]? = some (.row a.length (rz nl 1))) : appendA Tryz.prog false hp 24 (.own nl (enL enB a) k) (enL enB b) = if b = [] ∨ (a.length + b.length) * 1 ≤ 140737488355328 then some (.c (.own (nl && b.isEmpty) (enL enB (a ++ b)) k), hp.set k (.row (a ++ b).length (rz (nl && b.isEmpty) 1))) else none := appendA_own (P := Tryz.prog) (t := 24) enB 1 1 (fun _ => rfl) Tryz.underlying24 sz5 by5 zc5 rfl (by decide) (by decide) (nl := nl) hk (b := b)
theorem hd18 : (E0 mm).hard "ref.go:52" = false := rfl
theorem nv19 : (E0 mm).nw "ref.go:52" = false := rfl
theorem rw20 : (E0 mm).row "ref.go:52" = false := rfl
theorem hd21 : (E0 mm).hard "ref.go:24" = false := rfl
theorem nv22 : (E0 mm).nw "ref.go:24" = false := rfl
theorem rw23 : (E0 mm).row "ref.go:24" = false := rfl
theorem ao24 : (E0 mm).aown "ref.go:27" = false := rfl
theorem ar25 (k : Nat) (h : k < 12) : mkV false (([.d (.sc (.string (S ([74, 97, 110] : Bs)))), .d (.sc (.string (S ([70, 101, 98] : Bs)))), .d (.sc (.string (S ([77, 97, 114] : Bs)))), .d (.sc (.string (S ([65, 112, 114] : Bs)))), .d (.sc (.string (S ([77, 97, 121] : Bs)))), .d (.sc (.string (S ([74, 117, 110] : Bs)))), .d (.sc (.string (S ([74, 117, 108] : Bs)))), .d (.sc (.string (S ([65, 117, 103] : Bs)))), .d (.sc (.string (S ([83, 101, 112] : Bs)))), .d (.sc (.string (S ([79, 99, 116] : Bs)))), .d (.sc (.string (S ([78, 111, 118] : Bs)))), .d (.sc (.string (S ([68, 101, 99] : Bs))))].drop k).take 1) = some (.c (.d (.sc (.string (S (([([74, 97, 110] : Bs), ([70, 101, 98] : Bs), ([77, 97, 114] : Bs), ([65, 112, 114] : Bs), ([77, 97, 121] : Bs), ([74, 117, 110] : Bs), ([74, 117, 108] : Bs), ([65, 117, 103] : Bs), ([83, 101, 112] : Bs), ([79, 99, 116] : Bs), ([78, 111, 118] : Bs), ([68, 101, 99] : Bs)] : List Bs).getD k default)))))) := arr_get (fun a : Bs => .sc (.string (S a))) ([([74, 97, 110] : Bs), ([70, 101, 98] : Bs), ([77, 97, 114] : Bs), ([65, 112, 114] : Bs), ([77, 97, 121] : Bs), ([74, 117, 110] : Bs), ([74, 117, 108] : Bs), ([65, 117, 103] : Bs), ([83, 101, 112] : Bs), ([79, 99, 116] : Bs), ([78, 111, 118] : Bs), ([68, 101, 99] : Bs)] : List Bs) k h
theorem ao26 : (E0 mm).aown "ref.go:17" = false := rfl
theorem ao27 : (E0 mm).aown "ref.go:33" = false := rfl
theorem ar28 (k : Nat) (h : k < 7) : mkV false (([.d (.sc (.string (S ([84, 104, 117] : Bs)))), .d (.sc (.string (S ([70, 114, 105] : Bs)))), .d (.sc (.string (S ([83, 97, 116] : Bs)))), .d (.sc (.string (S ([83, 117, 110] : Bs)))), .d (.sc (.string (S ([77, 111, 110] : Bs)))), .d (.sc (.string (S ([84, 117, 101] : Bs)))), .d (.sc (.string (S ([87, 101, 100] : Bs))))].drop k).take 1) = some (.c (.d (.sc (.string (S (([([84, 104, 117] : Bs), ([70, 114, 105] : Bs), ([83, 97, 116] : Bs), ([83, 117, 110] : Bs), ([77, 111, 110] : Bs), ([84, 117, 101] : Bs), ([87, 101, 100] : Bs)] : List Bs).getD k default)))))) := arr_get (fun a : Bs => .sc (.string (S a))) ([([84, 104, 117] : Bs), ([70, 114, 105] : Bs), ([83, 97, 116] : Bs), ([83, 117, 110] : Bs), ([77, 111, 110] : Bs), ([84, 117, 101] : Bs), ([87, 101, 100] : Bs)] : List Bs) k h
theorem ao29 : (E0 mm).aown "control.go:80" = false := rfl
theorem ao30 : (E0 mm).aown "text.go:53" = true := rfl
theorem ao31 : (E0 mm).aown "text.go:54" = false := rfl
theorem hd32 : (E0 mm).hard "text.go:57" = false := rfl
theorem nv33 : (E0 mm).nw "text.go:57" = false := rfl
theorem rw34 : (E0 mm).row "text.go:57" = false := rfl
theorem hd35 : (E0 mm).hard "hop.go:20" = false := rfl
theorem hd36 : (E0 mm).hard "text.go:17" = false := rfl
theorem rw37 : (E0 mm).row "text.go:17" = false := rfl
theorem hd38 : (E0 mm).hard "text.go:110" = false := rfl
theorem nv39 : (E0 mm).nw "text.go:110" = false := rfl
theorem rw40 : (E0 mm).row "text.go:110" = false := rfl
theorem hd41 : (E0 mm).hard "control.go:22" = false := rfl
theorem nv42 : (E0 mm).nw "control.go:22" = false := rfl
theorem rw43 : (E0 mm).row "control.go:22" = false := rfl
theorem ao40O {kvs : Kvs} {k x : Bs} (h : hasM k kvs = true) : type_of% (appendA_O (P := Tryz.prog) (t := 40) (kvs := kvs) (x := x) Tryz.underlying40 sz9 by9 zc9 rfl h) := (appendA_O (P := Tryz.prog) (t := 40) (kvs := kvs) (x := x) Tryz.underlying40 sz9 by9 zc9 rfl h)
theorem ao40O0 {kvs : Kvs} {x : Bs} : type_of% (appendA_O0 (P := Tryz.prog) (t := 40) (kvs := kvs) (x := x) Tryz.underlying40 sz9 by9 zc9 rfl) := (appendA_O0 (P := Tryz.prog) (t := 40) (kvs := kvs) (x := x) Tryz.underlying40 sz9 by9 zc9 rfl)
theorem hd46 : (E0 mm).hard "control.go:82" = false := rfl
theorem nv47 : (E0 mm).nw "control.go:82" = false := rfl
theorem rw48 : (E0 mm).row "control.go:82" = false := rfl
theorem ns49 (hp : Heap) (a0 a1 : Bs) : newSlice hp false false 1 2 [.d (.sc (.string (S a0))), .d (.sc (.string (S a1)))] = some (.c (.d (.lst false (enL enS [a0, a1]))), hp) := rfl
theorem hd50 : (E0 mm).hard "control.go:44" = true := rfl
theorem nv51 : (E0 mm).nw "control.go:44" = false := rfl
theorem rw52 : (E0 mm).row "control.go:44" = false := rfl
theorem nh53 (hp : Heap) (a0 : Int) : newSlice hp true false 1 1 [.d (.sc (.int .i64 a0))] = some (.c (.slc hp.length 0 1 1 (some 1)), hp ++ [.cells (enI [a0])]) := rfl
theorem shnh53 {hp : Heap} {k : Nat} {cap : Option Nat} (a0 : Int) (hk : hp[k]? = some (.cells (enI [a0]))) : srcOf hp (.c (.slc k 0 1 1 cap)) = some (enL enN [a0]) := listOf_enI (cap := cap) (l := [a0]) hk
theorem ah44hnil {hp : Heap} {b : List Int} : type_of% (appendA_hnil (P := Tryz.prog) (t := 44) (hp := hp) (b := b) Tryz.underlying44 sz3 by3 zc3 rfl) := (appendA_hnil (P := Tryz.prog) (t := 44) (hp := hp) (b := b) Tryz.underlying44 sz3 by3 zc3 rfl)
theorem ah44hslc {hp : Heap} {k : Nat} {l b : List Int} (hk : hp[k]? = some (.cells (enI l))) : type_of% (appendA_hslc (P := Tryz.prog) (t := 44) (hp := hp) (b := b) Tryz.underlying44 sz3 by3 zc3 rfl hk) := (appendA_hslc (P := Tryz.prog) (t := 44) (hp := hp) (b := b) Tryz.underlying44 sz3 by3 zc3 rfl hk)
theorem ao56 : (E0 mm).aown "fresh.go:52" = false := rfl
theorem hd57 : (E0 mm).hard "fresh.go:67" = false := rfl
theorem nv58 : (E0 mm).nw "fresh.go:67" = false := rfl
theorem rw59 : (E0 mm).row "fresh.go:67" = false := rfl
theorem ns60 (hp : Heap) (a0 a1 : Int) (a2 a3 : Int) (a4 a5 : Int) (a6 a7 : Int) (a8 a9 a10 : Int) : newSlice hp false false 1 11 [.d (.sc (.int .i64 a0)), .d (.sc (.int .i64 a1)), .d (.sc (.int .i64 a2)), .d (.sc (.int .i64 a3)), .d (.sc (.int .i64 a4)), .d (.sc (.int .i64 a5)), .d (.sc (.int .i64 a6)), .d (.sc (.int .i64 a7)), .d (.sc (.int .i64 a8)), .d (.sc (.int .i64 a9)), .d (.sc (.int .i64 a10))] = some (.c (.d (.lst false (enL enN [a0, a1, a2, a3, a4, a5, a6, a7, a8, a9, a10]))), hp) := rfl
theorem ao61 : (E0 mm).aown "ref.go:86" = false := rfl
theorem ao62 : (E0 mm).aown "ref.go:87" = false := rfl
theorem hd63 : (E0 mm).hard "ref.go:88" = false := rfl
theorem nv64 : (E0 mm).nw "ref.go:88" = false := rfl
theorem rw65 : (E0 mm).row "ref.go:88" = false := rfl
theorem hd66 : (E0 mm).hard "ref.go:15" = false := rfl
theorem hd67 : (E0 mm).hard "ref.go:123" = false := rfl
theorem nv68 : (E0 mm).nw "ref.go:123" = false := rfl
theorem rw69 : (E0 mm).row "ref.go:123" = false := rfl
theorem ao70 : (E0 mm).aown "ref.go:69" = false := rfl
end
end Go.Proofs.YteajgnaeklbpeaaGreatDoor
