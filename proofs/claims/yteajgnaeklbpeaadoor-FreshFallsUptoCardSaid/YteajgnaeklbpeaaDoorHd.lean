/- What the printed functions rest on: sizes, zeros, encoders. -/
import Derived.Test.YteajgnaeklbpeaaDoorEnv
import Derived.Test.YteajgnaeklbpeaaDoorEv7
set_option linter.all false
set_option maxRecDepth 100000
namespace Go.Proofs.YteajgnaeklbpeaaDoor
open Go Go.Ab
open Nat renaming reduceEqDiff → za, reduceAdd → zb, reduceLeDiff → zc, reduceLT → zd, reduceMul → ze, reduceBEq → zf, reduceSub → zg, reducePow → zh
open Int renaming reduceEq → zi, reduceLE → zj, reduceLT → zk, reduceToNat → zl, reduceNegSucc → zm, reduceAdd → zn, reduceBEq → zo
open String renaming reduceBEq → zp
noncomputable section
variable {mm : Int}
theorem E0P : (E0 mm).P = Tryd.prog := rfl
theorem E0hand : (E0 mm).hand = fun _ => false := rfl
theorem E0glob : (E0 mm).glob = fun _ => none := rfl
theorem zE : (E0 mm).P = Tryd.prog ∧ ((E0 mm).hand = fun _ => false) ∧ ((E0 mm).glob = fun _ => none) := ⟨rfl, rfl, rfl⟩
theorem ext64_t (s : Bs) (c : UInt8) : (E0 mm).ext 64 [.string (S s), .int .u8 (c.toNat : Int)] = some (.int .i64 (Lib.indexByte s c)) := eIndexByte_t s c
theorem ag22 : aggP Tryd.prog 22 = some false := by kernel_rfl
theorem ag23 : aggP Tryd.prog 23 = some false := by kernel_rfl
theorem ag29 : aggP Tryd.prog 29 = some true := by kernel_rfl
theorem ag3 : aggP Tryd.prog 3 = some false := by kernel_rfl
theorem ag35 : aggP Tryd.prog 35 = some true := by kernel_rfl
theorem ag40 : aggP Tryd.prog 40 = some false := by kernel_rfl
theorem ag41 : aggP Tryd.prog 41 = some false := by kernel_rfl
theorem ag44 : aggP Tryd.prog 44 = some true := by kernel_rfl
theorem ag5 : aggP Tryd.prog 5 = some false := by kernel_rfl
theorem ag51 : aggP Tryd.prog 51 = some true := by kernel_rfl
theorem ag59 : aggP Tryd.prog 59 = some false := by kernel_rfl
theorem ag9 : aggP Tryd.prog 9 = some false := by kernel_rfl
theorem ag95 : aggP Tryd.prog 95 = some false := by kernel_rfl
theorem by29 : bytesP Tryd.prog 29 = some 32 := by kernel_rfl
theorem by3 : bytesP Tryd.prog 3 = some 8 := by kernel_rfl
theorem by5 : bytesP Tryd.prog 5 = some 1 := by kernel_rfl
theorem by9 : bytesP Tryd.prog 9 = some 16 := by kernel_rfl
theorem ent11 : entersB Tryd.prog 11 = some true := by kernel_rfl
theorem ent12 : entersB Tryd.prog 12 = some true := by kernel_rfl
theorem ent13 : entersB Tryd.prog 13 = some true := by kernel_rfl
theorem ent14 : entersB Tryd.prog 14 = some true := by kernel_rfl
theorem ent15 : entersB Tryd.prog 15 = some true := by kernel_rfl
theorem ent16 : entersB Tryd.prog 16 = some true := by kernel_rfl
theorem ent17 : entersB Tryd.prog 17 = some true := by kernel_rfl
theorem ent18 : entersB Tryd.prog 18 = some true := by kernel_rfl
theorem ent19 : entersB Tryd.prog 19 = some true := by kernel_rfl
theorem ent20 : entersB Tryd.prog 20 = some true := by kernel_rfl
theorem ent21 : entersB Tryd.prog 21 = some true := by kernel_rfl
theorem ent22 : entersB Tryd.prog 22 = some true := by kernel_rfl
theorem ent23 : entersB Tryd.prog 23 = some true := by kernel_rfl
theorem ent24 : entersB Tryd.prog 24 = some true := by kernel_rfl
theorem ent25 : entersB Tryd.prog 25 = some true := by kernel_rfl
theorem ent26 : entersB Tryd.prog 26 = some true := by kernel_rfl
theorem ent27 : entersB Tryd.prog 27 = some true := by kernel_rfl
theorem ent28 : entersB Tryd.prog 28 = some true := by kernel_rfl
theorem ent29 : entersB Tryd.prog 29 = some true := by kernel_rfl
theorem ent30 : entersB Tryd.prog 30 = some true := by kernel_rfl
theorem ent31 : entersB Tryd.prog 31 = some true := by kernel_rfl
theorem ent32 : entersB Tryd.prog 32 = some true := by kernel_rfl
theorem ent33 : entersB Tryd.prog 33 = some true := by kernel_rfl
theorem ent34 : entersB Tryd.prog 34 = some true := by kernel_rfl
theorem ent35 : entersB Tryd.prog 35 = some true := by kernel_rfl
theorem ent36 : entersB Tryd.prog 36 = some true := by kernel_rfl
theorem ent37 : entersB Tryd.prog 37 = some true := by kernel_rfl
theorem ent38 : entersB Tryd.prog 38 = some true := by kernel_rfl
theorem ent39 : entersB Tryd.prog 39 = some true := by kernel_rfl
theorem ent40 : entersB Tryd.prog 40 = some true := by kernel_rfl
theorem ent41 : entersB Tryd.prog 41 = some true := by kernel_rfl
theorem ent42 : entersB Tryd.prog 42 = some true := by kernel_rfl
theorem ent43 : entersB Tryd.prog 43 = some true := by kernel_rfl
theorem ent44 : entersB Tryd.prog 44 = some true := by kernel_rfl
theorem ent45 : entersB Tryd.prog 45 = some true := by kernel_rfl
theorem ent46 : entersB Tryd.prog 46 = some true := by kernel_rfl
theorem ent47 : entersB Tryd.prog 47 = some true := by kernel_rfl
theorem ent48 : entersB Tryd.prog 48 = some true := by kernel_rfl
theorem ent49 : entersB Tryd.prog 49 = some true := by kernel_rfl
theorem ent50 : entersB Tryd.prog 50 = some true := by kernel_rfl
theorem ent51 : entersB Tryd.prog 51 = some true := by kernel_rfl
theorem ent52 : entersB Tryd.prog 52 = some true := by kernel_rfl
theorem ent53 : entersB Tryd.prog 53 = some true := by kernel_rfl
theorem ent54 : entersB Tryd.prog 54 = some true := by kernel_rfl
theorem ent55 : entersB Tryd.prog 55 = some true := by kernel_rfl
theorem ent56 : entersB Tryd.prog 56 = some true := by kernel_rfl
theorem ent57 : entersB Tryd.prog 57 = some true := by kernel_rfl
theorem ent6 : entersB Tryd.prog 6 = some true := by kernel_rfl
theorem ent61 : entersB Tryd.prog 61 = some true := by kernel_rfl
theorem ent62 : entersB Tryd.prog 62 = some true := by kernel_rfl
theorem ent63 : entersB Tryd.prog 63 = some true := by kernel_rfl
theorem ent7 : entersB Tryd.prog 7 = some true := by kernel_rfl
theorem ent73 : entersB Tryd.prog 73 = some true := by kernel_rfl
theorem ent8 : entersB Tryd.prog 8 = some true := by kernel_rfl
theorem entf64 : entersB Tryd.prog 64 = some false := by kernel_rfl
theorem exf64 : (E0 mm).extp 64 = none := rfl
theorem prm11 : (E0 mm).prim 11 = none := rfl
theorem prm12 : (E0 mm).prim 12 = none := rfl
theorem prm13 : (E0 mm).prim 13 = none := rfl
theorem prm14 : (E0 mm).prim 14 = none := rfl
theorem prm15 : (E0 mm).prim 15 = none := rfl
theorem prm16 : (E0 mm).prim 16 = none := rfl
theorem prm17 : (E0 mm).prim 17 = none := rfl
theorem prm18 : (E0 mm).prim 18 = none := rfl
theorem prm19 : (E0 mm).prim 19 = none := rfl
theorem prm20 : (E0 mm).prim 20 = none := rfl
theorem prm21 : (E0 mm).prim 21 = none := rfl
theorem prm22 : (E0 mm).prim 22 = none := rfl
theorem prm23 : (E0 mm).prim 23 = none := rfl
theorem prm24 : (E0 mm).prim 24 = none := rfl
theorem prm25 : (E0 mm).prim 25 = none := rfl
theorem prm26 : (E0 mm).prim 26 = none := rfl
theorem prm27 : (E0 mm).prim 27 = none := rfl
theorem prm28 : (E0 mm).prim 28 = none := rfl
theorem prm29 : (E0 mm).prim 29 = none := rfl
theorem prm30 : (E0 mm).prim 30 = none := rfl
theorem prm31 : (E0 mm).prim 31 = none := rfl
theorem prm32 : (E0 mm).prim 32 = none := rfl
theorem prm33 : (E0 mm).prim 33 = none := rfl
theorem prm34 : (E0 mm).prim 34 = none := rfl
theorem prm35 : (E0 mm).prim 35 = none := rfl
theorem prm36 : (E0 mm).prim 36 = none := rfl
theorem prm37 : (E0 mm).prim 37 = none := rfl
theorem prm38 : (E0 mm).prim 38 = none := rfl
theorem prm39 : (E0 mm).prim 39 = none := rfl
theorem prm40 : (E0 mm).prim 40 = none := rfl
theorem prm41 : (E0 mm).prim 41 = none := rfl
theorem prm42 : (E0 mm).prim 42 = none := rfl
theorem prm43 : (E0 mm).prim 43 = none := rfl
theorem prm44 : (E0 mm).prim 44 = none := rfl
theorem prm45 : (E0 mm).prim 45 = none := rfl
theorem prm46 : (E0 mm).prim 46 = none := rfl
theorem prm47 : (E0 mm).prim 47 = some pIndex := rfl
theorem prm48 : (E0 mm).prim 48 = none := rfl
theorem prm49 : (E0 mm).prim 49 = none := rfl
theorem prm50 : (E0 mm).prim 50 = none := rfl
theorem prm51 : (E0 mm).prim 51 = none := rfl
theorem prm52 : (E0 mm).prim 52 = none := rfl
theorem prm53 : (E0 mm).prim 53 = none := rfl
theorem prm54 : (E0 mm).prim 54 = none := rfl
theorem prm55 : (E0 mm).prim 55 = none := rfl
theorem prm56 : (E0 mm).prim 56 = none := rfl
theorem prm57 : (E0 mm).prim 57 = none := rfl
theorem prm6 : (E0 mm).prim 6 = none := rfl
theorem prm61 : (E0 mm).prim 61 = some pTrim := rfl
theorem prm62 : (E0 mm).prim 62 = none := rfl
theorem prm63 : (E0 mm).prim 63 = none := rfl
theorem prm7 : (E0 mm).prim 7 = none := rfl
theorem prm73 : (E0 mm).prim 73 = none := rfl
theorem prm8 : (E0 mm).prim 8 = none := rfl
theorem sz22 : szP Tryd.prog 22 = some 1 := by kernel_rfl
theorem sz23 : szP Tryd.prog 23 = some 1 := by kernel_rfl
theorem sz29 : szP Tryd.prog 29 = some 2 := by kernel_rfl
theorem sz3 : szP Tryd.prog 3 = some 1 := by kernel_rfl
theorem sz33 : szP Tryd.prog 33 = some 1 := by kernel_rfl
theorem sz35 : szP Tryd.prog 35 = some 5 := by kernel_rfl
theorem sz4 : szP Tryd.prog 4 = some 1 := by kernel_rfl
theorem sz40 : szP Tryd.prog 40 = some 1 := by kernel_rfl
theorem sz41 : szP Tryd.prog 41 = some 1 := by kernel_rfl
theorem sz44 : szP Tryd.prog 44 = some 9 := by kernel_rfl
theorem sz5 : szP Tryd.prog 5 = some 1 := by kernel_rfl
theorem sz51 : szP Tryd.prog 51 = some 10 := by kernel_rfl
theorem sz59 : szP Tryd.prog 59 = some 1 := by kernel_rfl
theorem sz89 : szP Tryd.prog 89 = some 12 := by kernel_rfl
theorem sz9 : szP Tryd.prog 9 = some 1 := by kernel_rfl
theorem sz95 : szP Tryd.prog 95 = some 1 := by kernel_rfl
theorem zc29 : zeroC Tryd.prog 29 = some [.d (.sc (.string (S ([] : Bs)))), .d (.sc (.string (S ([] : Bs))))] := by kernel_rfl
theorem zc3 : zeroC Tryd.prog 3 = some [.d (.sc (.int .i64 0))] := by kernel_rfl
theorem zc35 : zeroC Tryd.prog 35 = some [.d (.sc (.int .i64 0)), .d (.sc (.string (S ([] : Bs)))), .d (.sc (.int .i64 0)), .d (.lst true []), .d (.lst true [])] := by kernel_rfl
theorem zc41 : zeroC Tryd.prog 41 = some [.d (.lst true [])] := by kernel_rfl
theorem zc5 : zeroC Tryd.prog 5 = some [.d (.sc (.int .u8 ((0 : UInt8).toNat : Int)))] := by kernel_rfl
theorem zc51 : zeroC Tryd.prog 51 = some [.d (.sc (.bool false)), .d (.sc (.bool false)), .d (.sc (.bool false)), .d (.sc (.bool false)), .d (.sc (.bool false)), .d (.sc (.bool false)), .d (.sc (.int .i64 0)), .d (.sc (.int .i64 0)), .d (.sc (.int .i64 0)), .d (.sc (.int .i64 0))] := by kernel_rfl
theorem zc89 : zeroC Tryd.prog 89 = some [.d (.sc (.int .i64 0)), .d (.sc (.int .i64 0)), .d (.sc (.int .i64 0)), .d (.sc (.int .i64 0)), .d (.sc (.int .i64 0)), .d (.sc (.int .i64 0)), .d (.sc (.int .i64 0)), .d (.sc (.int .i64 0)), .d (.sc (.int .i64 0)), .d (.sc (.int .i64 0)), .d (.sc (.int .i64 0)), .d (.sc (.int .i64 0))] := by kernel_rfl
theorem zc9 : zeroC Tryd.prog 9 = some [.d (.sc (.string (S ([] : Bs))))] := by kernel_rfl
theorem zv41 : (zeroP Tryd.prog 41).bind ofV = some (.c (.d (.lst true []))) := by kernel_rfl

theorem ao0 : (E0 mm).aown "outright.go:49" = false := rfl
theorem hd1 : (E0 mm).hard "outright.go:51" = false := rfl
theorem nv2 : (E0 mm).nw "outright.go:51" = false := rfl
theorem rw3 : (E0 mm).row "outright.go:51" = false := rfl
theorem ns4 (hp : Heap) (a0 a1 : Bs) : newSlice hp false false 2 1 [.d (.sc (.string (S a0))), .d (.sc (.string (S a1)))] = some (.c (.d (.lst false (enL enSS [(a0, a1)]))), hp) := rfl
theorem ap22 {hp : Heap} {k : Nat} {nl : Bool} {a b : List (Bs × Bs)} (hk : hp[k]? = some (.row a.length (rz nl 2))) : appendA Tryd.prog false hp 22 (.own nl (enL enSS a) k) (enL enSS b) = if b = [] ∨ (a.length + b.length) * 32 ≤ 140737488355328 then some (.c (.own (nl && b.isEmpty) (enL enSS (a ++ b)) k), hp.set k (.row (a ++ b).length (rz (nl && b.isEmpty) 2))) else none := appendA_own (P := Tryd.prog) (t := 22) enSS 2 32 (fun _ => rfl) Tryd.underlying22 sz29 by29 zc29 rfl (by decide) (by decide) (nl := nl) hk (b := b)
theorem hd6 : (E0 mm).hard "outright.go:54" = false := rfl
theorem nv7 : (E0 mm).nw "outright.go:54" = false := rfl
theorem rw8 : (E0 mm).row "outright.go:54" = true := rfl
theorem ns9 (hp : Heap)  : newSlice hp false true 2 0 [] = some (.c (.own false (enL enSS []) hp.length), hp ++ [.row 0 2]) := rfl
theorem ns10 (hp : Heap) (a0 a1 : Bs) : newSlice hp false true 2 1 [.d (.sc (.string (S a0))), .d (.sc (.string (S a1)))] = some (.c (.own false (enL enSS [(a0, a1)]) hp.length), hp ++ [.row 1 2]) := rfl
theorem hd11 : (E0 mm).hard "outright.go:55" = false := rfl
theorem nv12 : (E0 mm).nw "outright.go:55" = false := rfl
theorem rw13 : (E0 mm).row "outright.go:55" = true := rfl
theorem ao14 : (E0 mm).aown "control.go:80" = false := rfl
theorem ao15 : (E0 mm).aown "head.go:132" = false := rfl
theorem hd16 : (E0 mm).hard "text.go:39" = true := rfl
theorem hd17 : (E0 mm).hard "head.go:134" = false := rfl
theorem nv18 : (E0 mm).nw "head.go:134" = false := rfl
theorem rw19 : (E0 mm).row "head.go:134" = false := rfl
theorem ns20 (hp : Heap) (a0 : Bs) : newSlice hp false false 1 1 [.d (.sc (.string (S a0)))] = some (.c (.d (.lst false (enL enS [a0]))), hp) := rfl
theorem ap41 {hp : Heap} {k : Nat} {nl : Bool} {a b : List Bs} (hk : hp[k]? = some (.row a.length (rz nl 1))) : appendA Tryd.prog false hp 41 (.own nl (enL enS a) k) (enL enS b) = if b = [] ∨ (a.length + b.length) * 16 ≤ 140737488355328 then some (.c (.own (nl && b.isEmpty) (enL enS (a ++ b)) k), hp.set k (.row (a ++ b).length (rz (nl && b.isEmpty) 1))) else none := appendA_own (P := Tryd.prog) (t := 41) enS 1 16 (fun _ => rfl) Tryd.underlying41 sz9 by9 zc9 rfl (by decide) (by decide) (nl := nl) hk (b := b)
theorem ao22 : (E0 mm).aown "text.go:53" = true := rfl
theorem ao23 : (E0 mm).aown "text.go:54" = false := rfl
theorem hd24 : (E0 mm).hard "text.go:57" = false := rfl
theorem nv25 : (E0 mm).nw "text.go:57" = false := rfl
theorem rw26 : (E0 mm).row "text.go:57" = false := rfl
theorem hd27 : (E0 mm).hard "hop.go:20" = false := rfl
theorem hd28 : (E0 mm).hard "text.go:17" = false := rfl
theorem rw29 : (E0 mm).row "text.go:17" = false := rfl
theorem hd30 : (E0 mm).hard "text.go:110" = false := rfl
theorem nv31 : (E0 mm).nw "text.go:110" = false := rfl
theorem rw32 : (E0 mm).row "text.go:110" = false := rfl
theorem ns33 (hp : Heap) (a0 : UInt8) : newSlice hp false false 1 1 [.d (.sc (.int .u8 (a0.toNat : Int)))] = some (.c (.d (.lst false (enL enB [a0]))), hp) := rfl
theorem ap33 {hp : Heap} {k : Nat} {nl : Bool} {a b : List UInt8} (hk : hp[k]? = some (.row a.length (rz nl 1))) : appendA Tryd.prog false hp 33 (.own nl (enL enB a) k) (enL enB b) = if b = [] ∨ (a.length + b.length) * 1 ≤ 140737488355328 then some (.c (.own (nl && b.isEmpty) (enL enB (a ++ b)) k), hp.set k (.row (a ++ b).length (rz (nl && b.isEmpty) 1))) else none := appendA_own (P := Tryd.prog) (t := 33) enB 1 1 (fun _ => rfl) Tryd.underlying33 sz5 by5 zc5 rfl (by decide) (by decide) (nl := nl) hk (b := b)
theorem hd35 : (E0 mm).hard "control.go:22" = false := rfl
theorem nv36 : (E0 mm).nw "control.go:22" = false := rfl
theorem rw37 : (E0 mm).row "control.go:22" = false := rfl
theorem ao41O {kvs : Kvs} {k x : Bs} (h : hasM k kvs = true) : type_of% (appendA_O (P := Tryd.prog) (t := 41) (kvs := kvs) (x := x) Tryd.underlying41 sz9 by9 zc9 rfl h) := (appendA_O (P := Tryd.prog) (t := 41) (kvs := kvs) (x := x) Tryd.underlying41 sz9 by9 zc9 rfl h)
theorem ao41O0 {kvs : Kvs} {x : Bs} : type_of% (appendA_O0 (P := Tryd.prog) (t := 41) (kvs := kvs) (x := x) Tryd.underlying41 sz9 by9 zc9 rfl) := (appendA_O0 (P := Tryd.prog) (t := 41) (kvs := kvs) (x := x) Tryd.underlying41 sz9 by9 zc9 rfl)
theorem hd40 : (E0 mm).hard "control.go:82" = false := rfl
theorem nv41 : (E0 mm).nw "control.go:82" = false := rfl
theorem rw42 : (E0 mm).row "control.go:82" = false := rfl
theorem ns43 (hp : Heap) (a0 a1 : Bs) : newSlice hp false false 1 2 [.d (.sc (.string (S a0))), .d (.sc (.string (S a1)))] = some (.c (.d (.lst false (enL enS [a0, a1]))), hp) := rfl
theorem hd44 : (E0 mm).hard "control.go:44" = true := rfl
theorem nv45 : (E0 mm).nw "control.go:44" = false := rfl
theorem rw46 : (E0 mm).row "control.go:44" = false := rfl
theorem nh47 (hp : Heap) (a0 : Int) : newSlice hp true false 1 1 [.d (.sc (.int .i64 a0))] = some (.c (.slc hp.length 0 1 1 (some 1)), hp ++ [.cells (enI [a0])]) := rfl
theorem shnh47 {hp : Heap} {k : Nat} {cap : Option Nat} (a0 : Int) (hk : hp[k]? = some (.cells (enI [a0]))) : srcOf hp (.c (.slc k 0 1 1 cap)) = some (enL enN [a0]) := listOf_enI (cap := cap) (l := [a0]) hk
theorem ah57hnil {hp : Heap} {b : List Int} : type_of% (appendA_hnil (P := Tryd.prog) (t := 57) (hp := hp) (b := b) Tryd.underlying57 sz3 by3 zc3 rfl) := (appendA_hnil (P := Tryd.prog) (t := 57) (hp := hp) (b := b) Tryd.underlying57 sz3 by3 zc3 rfl)
theorem ah57hslc {hp : Heap} {k : Nat} {l b : List Int} (hk : hp[k]? = some (.cells (enI l))) : type_of% (appendA_hslc (P := Tryd.prog) (t := 57) (hp := hp) (b := b) Tryd.underlying57 sz3 by3 zc3 rfl hk) := (appendA_hslc (P := Tryd.prog) (t := 57) (hp := hp) (b := b) Tryd.underlying57 sz3 by3 zc3 rfl hk)
theorem ao50 : (E0 mm).aown "fresh.go:52" = false := rfl
theorem ao51 : (E0 mm).aown "date.go:25" = false := rfl
theorem ar52 (k : Nat) (h : k < 12) : mkV false (([.d (.sc (.int .i64 31)), .d (.sc (.int .i64 28)), .d (.sc (.int .i64 31)), .d (.sc (.int .i64 30)), .d (.sc (.int .i64 31)), .d (.sc (.int .i64 30)), .d (.sc (.int .i64 31)), .d (.sc (.int .i64 31)), .d (.sc (.int .i64 30)), .d (.sc (.int .i64 31)), .d (.sc (.int .i64 30)), .d (.sc (.int .i64 31))].drop k).take 1) = some (.c (.d (.sc (.int .i64 (([(31 : Int), (28 : Int), (31 : Int), (30 : Int), (31 : Int), (30 : Int), (31 : Int), (31 : Int), (30 : Int), (31 : Int), (30 : Int), (31 : Int)] : List Int).getD k default))))) := arr_get (fun a : Int => .sc (.int .i64 a)) ([(31 : Int), (28 : Int), (31 : Int), (30 : Int), (31 : Int), (30 : Int), (31 : Int), (31 : Int), (30 : Int), (31 : Int), (30 : Int), (31 : Int)] : List Int) k h
theorem hd53 : (E0 mm).hard "date.go:40" = false := rfl
theorem nv54 : (E0 mm).nw "date.go:40" = false := rfl
theorem rw55 : (E0 mm).row "date.go:40" = false := rfl
theorem ns56 (hp : Heap) (a0 a1 : UInt8) : newSlice hp false false 1 2 [.d (.sc (.int .u8 (a0.toNat : Int))), .d (.sc (.int .u8 (a1.toNat : Int)))] = some (.c (.d (.lst false (enL enB [a0, a1]))), hp) := rfl
theorem hd57 : (E0 mm).hard "fresh.go:67" = false := rfl
theorem nv58 : (E0 mm).nw "fresh.go:67" = false := rfl
theorem rw59 : (E0 mm).row "fresh.go:67" = false := rfl
theorem ns60 (hp : Heap) (a0 a1 : Int) (a2 a3 : Int) (a4 a5 : Int) (a6 a7 : Int) (a8 a9 a10 : Int) : newSlice hp false false 1 11 [.d (.sc (.int .i64 a0)), .d (.sc (.int .i64 a1)), .d (.sc (.int .i64 a2)), .d (.sc (.int .i64 a3)), .d (.sc (.int .i64 a4)), .d (.sc (.int .i64 a5)), .d (.sc (.int .i64 a6)), .d (.sc (.int .i64 a7)), .d (.sc (.int .i64 a8)), .d (.sc (.int .i64 a9)), .d (.sc (.int .i64 a10))] = some (.c (.d (.lst false (enL enN [a0, a1, a2, a3, a4, a5, a6, a7, a8, a9, a10]))), hp) := rfl
end
end Go.Proofs.YteajgnaeklbpeaaDoor
