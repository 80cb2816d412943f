/- What the printed functions rest on: sizes, zeros, encoders. -/
import Derived.Test.YtaohepmbkepmiaaDoorEnv
import Derived.Test.YtaohepmbkepmiaaDoorEv8
set_option linter.all false
set_option maxRecDepth 100000
namespace Go.Proofs.YtaohepmbkepmiaaDoor
open Go Go.Ab
open Nat renaming reduceEqDiff → za, reduceAdd → zb, reduceLeDiff → zc, reduceLT → zd, reduceMul → ze, reduceBEq → zf, reduceSub → zg, reducePow → zh
open Int renaming reduceEq → zi, reduceLE → zj, reduceLT → zk, reduceToNat → zl, reduceNegSucc → zm, reduceAdd → zn, reduceBEq → zo
open String renaming reduceBEq → zp
noncomputable section
variable {mm : Int}
theorem E0P : (E0 mm).P = Tryd.prog := rfl
theorem E0hand : (E0 mm).hand = fun _ => false := rfl
theorem E0keep : (E0 mm).keep = fun _ => false := rfl
theorem E0glob : (E0 mm).glob = tabGlob tabT := rfl
theorem zE : (E0 mm).P = Tryd.prog ∧ ((E0 mm).hand = fun _ => false) ∧ ((E0 mm).glob = tabGlob tabT) ∧ ((E0 mm).keep = fun _ => false) := ⟨rfl, rfl, rfl, rfl⟩
theorem ext84_t (s : Bs) (c : UInt8) : (E0 mm).ext 84 [.string (S s), .int .u8 (c.toNat : Int)] = some (.int .i64 (Lib.indexByte s c)) := eIndexByte_t s c
theorem ag22 : aggP Tryd.prog 22 = some false := by kernel_rfl
theorem ag3 : aggP Tryd.prog 3 = some false := by kernel_rfl
theorem ag5 : aggP Tryd.prog 5 = some false := by kernel_rfl
theorem ag71 : aggP Tryd.prog 71 = some false := by kernel_rfl
theorem by5 : bytesP Tryd.prog 5 = some 1 := by kernel_rfl
theorem by74 : bytesP Tryd.prog 74 = some 32 := by kernel_rfl
theorem ent10 : entersB Tryd.prog 10 = some true := by kernel_rfl
theorem ent11 : entersB Tryd.prog 11 = some true := by kernel_rfl
theorem ent12 : entersB Tryd.prog 12 = some true := by kernel_rfl
theorem ent14 : entersB Tryd.prog 14 = some true := by kernel_rfl
theorem ent16 : entersB Tryd.prog 16 = some true := by kernel_rfl
theorem ent17 : entersB Tryd.prog 17 = some true := by kernel_rfl
theorem ent18 : entersB Tryd.prog 18 = some true := by kernel_rfl
theorem ent19 : entersB Tryd.prog 19 = some true := by kernel_rfl
theorem ent20 : entersB Tryd.prog 20 = some true := by kernel_rfl
theorem ent23 : entersB Tryd.prog 23 = some true := by kernel_rfl
theorem ent28 : entersB Tryd.prog 28 = some true := by kernel_rfl
theorem ent29 : entersB Tryd.prog 29 = some true := by kernel_rfl
theorem ent30 : entersB Tryd.prog 30 = some true := by kernel_rfl
theorem ent31 : entersB Tryd.prog 31 = some true := by kernel_rfl
theorem ent32 : entersB Tryd.prog 32 = some true := by kernel_rfl
theorem ent33 : entersB Tryd.prog 33 = some true := by kernel_rfl
theorem ent34 : entersB Tryd.prog 34 = some true := by kernel_rfl
theorem ent35 : entersB Tryd.prog 35 = some true := by kernel_rfl
theorem ent36 : entersB Tryd.prog 36 = some true := by kernel_rfl
theorem ent42 : entersB Tryd.prog 42 = some true := by kernel_rfl
theorem ent46 : entersB Tryd.prog 46 = some true := by kernel_rfl
theorem ent47 : entersB Tryd.prog 47 = some true := by kernel_rfl
theorem ent48 : entersB Tryd.prog 48 = some true := by kernel_rfl
theorem ent49 : entersB Tryd.prog 49 = some true := by kernel_rfl
theorem ent50 : entersB Tryd.prog 50 = some true := by kernel_rfl
theorem ent51 : entersB Tryd.prog 51 = some true := by kernel_rfl
theorem ent52 : entersB Tryd.prog 52 = some true := by kernel_rfl
theorem ent56 : entersB Tryd.prog 56 = some true := by kernel_rfl
theorem ent57 : entersB Tryd.prog 57 = some true := by kernel_rfl
theorem ent58 : entersB Tryd.prog 58 = some true := by kernel_rfl
theorem ent59 : entersB Tryd.prog 59 = some true := by kernel_rfl
theorem ent60 : entersB Tryd.prog 60 = some true := by kernel_rfl
theorem ent61 : entersB Tryd.prog 61 = some true := by kernel_rfl
theorem ent70 : entersB Tryd.prog 70 = some true := by kernel_rfl
theorem ent71 : entersB Tryd.prog 71 = some true := by kernel_rfl
theorem ent75 : entersB Tryd.prog 75 = some true := by kernel_rfl
theorem ent8 : entersB Tryd.prog 8 = some true := by kernel_rfl
theorem ent83 : entersB Tryd.prog 83 = some true := by kernel_rfl
theorem ent92 : entersB Tryd.prog 92 = some true := by kernel_rfl
theorem ent93 : entersB Tryd.prog 93 = some true := by kernel_rfl
theorem entf25 : entersB Tryd.prog 25 = some false := by kernel_rfl
theorem exf25 : (E0 mm).extp 25 = some pNoZero := rfl
theorem entf27 : entersB Tryd.prog 27 = some false := by kernel_rfl
theorem exf27 : (E0 mm).extp 27 = some pIndexB := rfl
theorem entf84 : entersB Tryd.prog 84 = some false := by kernel_rfl
theorem exf84 : (E0 mm).extp 84 = none := rfl
theorem prm10 : (E0 mm).prim 10 = none := rfl
theorem prm11 : (E0 mm).prim 11 = none := rfl
theorem prm12 : (E0 mm).prim 12 = none := rfl
theorem prm14 : (E0 mm).prim 14 = none := rfl
theorem prm16 : (E0 mm).prim 16 = none := rfl
theorem prm17 : (E0 mm).prim 17 = none := rfl
theorem prm18 : (E0 mm).prim 18 = none := rfl
theorem prm19 : (E0 mm).prim 19 = none := rfl
theorem prm20 : (E0 mm).prim 20 = none := rfl
theorem prm23 : (E0 mm).prim 23 = none := rfl
theorem prm28 : (E0 mm).prim 28 = none := rfl
theorem prm29 : (E0 mm).prim 29 = none := rfl
theorem prm30 : (E0 mm).prim 30 = none := rfl
theorem prm31 : (E0 mm).prim 31 = none := rfl
theorem prm32 : (E0 mm).prim 32 = none := rfl
theorem prm33 : (E0 mm).prim 33 = none := rfl
theorem prm34 : (E0 mm).prim 34 = none := rfl
theorem prm35 : (E0 mm).prim 35 = none := rfl
theorem prm36 : (E0 mm).prim 36 = none := rfl
theorem prm42 : (E0 mm).prim 42 = none := rfl
theorem prm46 : (E0 mm).prim 46 = none := rfl
theorem prm47 : (E0 mm).prim 47 = none := rfl
theorem prm48 : (E0 mm).prim 48 = none := rfl
theorem prm49 : (E0 mm).prim 49 = none := rfl
theorem prm50 : (E0 mm).prim 50 = none := rfl
theorem prm51 : (E0 mm).prim 51 = none := rfl
theorem prm52 : (E0 mm).prim 52 = some pTrim := rfl
theorem prm56 : (E0 mm).prim 56 = none := rfl
theorem prm57 : (E0 mm).prim 57 = some pIndex := rfl
theorem prm58 : (E0 mm).prim 58 = none := rfl
theorem prm59 : (E0 mm).prim 59 = none := rfl
theorem prm60 : (E0 mm).prim 60 = none := rfl
theorem prm61 : (E0 mm).prim 61 = none := rfl
theorem prm70 : (E0 mm).prim 70 = none := rfl
theorem prm71 : (E0 mm).prim 71 = none := rfl
theorem prm75 : (E0 mm).prim 75 = none := rfl
theorem prm8 : (E0 mm).prim 8 = none := rfl
theorem prm83 : (E0 mm).prim 83 = none := rfl
theorem prm92 : (E0 mm).prim 92 = none := rfl
theorem prm93 : (E0 mm).prim 93 = none := rfl
theorem sz22 : szP Tryd.prog 22 = some 1 := by kernel_rfl
theorem sz3 : szP Tryd.prog 3 = some 1 := by kernel_rfl
theorem sz5 : szP Tryd.prog 5 = some 1 := by kernel_rfl
theorem sz71 : szP Tryd.prog 71 = some 1 := by kernel_rfl
theorem sz74 : szP Tryd.prog 74 = some 2 := by kernel_rfl
theorem sz9 : szP Tryd.prog 9 = some 1 := by kernel_rfl
theorem zc5 : zeroC Tryd.prog 5 = some [.d (.sc (.int .u8 ((0 : UInt8).toNat : Int)))] := by kernel_rfl
theorem zc69 : zeroC Tryd.prog 69 = some [.d (.lst true []), .d (.sc (.int .i64 0)), .d (.sc (.int .u8 ((0 : UInt8).toNat : Int)))] := by kernel_rfl
theorem zc74 : zeroC Tryd.prog 74 = some [.d (.sc (.string (S ([] : Bs)))), .d (.sc (.string (S ([] : Bs))))] := by kernel_rfl
theorem zy113 : zeroC Tryd.prog 113 = some (enC (zB 65)) := by kernel_rfl
def en0 : (Bool × List UInt8) → List D := fun x => [.lst x.1 (enL enB x.2)]
theorem en0_e (x : (Bool × List UInt8)) : en0 x = [.lst x.1 (enL enB x.2)] := rfl
theorem en0_l (x : (Bool × List UInt8)) : (en0 x).length = 1 := rfl
theorem en0_a (l : List (Bool × List UInt8)) : ((enL en0 l).all fun e => e.length == 1) = true := enL_all en0 1 (fun _ => rfl) l
theorem ao0 : (E0 mm).aown "itoa.go:97" = false := rfl
theorem hd1 : (E0 mm).hard "chunk.go:114" = false := rfl
theorem ap22 {hp : Heap} {k : Nat} {nl : Bool} {a b : List UInt8} (hk : hp[k]? = some (.row a.length (rz nl 1))) : appendA Tryd.prog false hp 22 (.own nl (enL enB a) k) (enL enB b) = if b = [] ∨ (a.length + b.length) * 1 ≤ 140737488355328 then some (.c (.own (nl && b.isEmpty) (enL enB (a ++ b)) k), hp.set k (.row (a ++ b).length (rz (nl && b.isEmpty) 1))) else none := appendA_own (P := Tryd.prog) (t := 22) enB 1 1 (fun _ => rfl) Tryd.underlying22 sz5 by5 zc5 rfl (by decide) (by decide) (nl := nl) hk (b := b)
theorem hd3 : (E0 mm).hard "chunk.go:115" = false := rfl
theorem hd4 : (E0 mm).hard "chunk.go:116" = false := rfl
theorem hd5 : (E0 mm).hard "chunk.go:117" = false := rfl
theorem hd6 : (E0 mm).hard "chunk.go:119" = false := rfl
theorem hd7 : (E0 mm).hard "outright.go:25" = false := rfl
theorem nv8 : (E0 mm).nw "outright.go:25" = false := rfl
theorem rw9 : (E0 mm).row "outright.go:25" = true := rfl
theorem ns10 (hp : Heap)  : newSlice hp false true 1 0 [] = some (.c (.own false (enL enB []) hp.length), hp ++ [.row 0 1]) := rfl
theorem hd11 : (E0 mm).hard "text.go:17" = false := rfl
theorem rw12 : (E0 mm).row "text.go:17" = false := rfl
theorem hd13 : (E0 mm).hard "head.go:37" = false := rfl
theorem nv14 : (E0 mm).nw "head.go:37" = false := rfl
theorem rw15 : (E0 mm).row "head.go:37" = false := rfl
theorem ns16 (hp : Heap) (a0 : UInt8) : newSlice hp false false 1 1 [.d (.sc (.int .u8 (a0.toNat : Int)))] = some (.c (.d (.lst false (enL enB [a0]))), hp) := rfl
theorem hd17 : (E0 mm).hard "head.go:38" = false := rfl
theorem nv18 : (E0 mm).nw "head.go:38" = false := rfl
theorem rw19 : (E0 mm).row "head.go:38" = false := rfl
theorem hd20 : (E0 mm).hard "head.go:106" = false := rfl
theorem nv21 : (E0 mm).nw "head.go:106" = false := rfl
theorem rw22 : (E0 mm).row "head.go:106" = false := rfl
theorem ns23 (hp : Heap) (a0 a1 : Bs) : newSlice hp false false 2 1 [.d (.sc (.string (S a0))), .d (.sc (.string (S a1)))] = some (.c (.d (.lst false (enL enSS [(a0, a1)]))), hp) := rfl
theorem ap49 {hp : Heap} {k : Nat} {nl : Bool} {a b : List (Bs × Bs)} (hk : hp[k]? = some (.row a.length (rz nl 2))) : appendA Tryd.prog false hp 49 (.own nl (enL enSS a) k) (enL enSS b) = if b = [] ∨ (a.length + b.length) * 32 ≤ 140737488355328 then some (.c (.own (nl && b.isEmpty) (enL enSS (a ++ b)) k), hp.set k (.row (a ++ b).length (rz (nl && b.isEmpty) 2))) else none := appendA_own (P := Tryd.prog) (t := 49) enSS 2 32 (fun _ => rfl) Tryd.underlying49 sz74 by74 zc74 rfl (by decide) (by decide) (nl := nl) hk (b := b)
theorem hd25 : (E0 mm).hard "bytes.go:553" = false := rfl
theorem nv26 : (E0 mm).nw "bytes.go:553" = false := rfl
theorem rw27 : (E0 mm).row "bytes.go:553" = false := rfl
theorem ns28 (hp : Heap)  : newSlice hp false false 1 0 [] = some (.c (.d (.lst false (enL enB []))), hp) := rfl
theorem hd29 : (E0 mm).hard "bytes.go:557" = false := rfl
theorem an22 {hp : Heap} {b : List UInt8} : appendA Tryd.prog false hp 22 (.d (.lst true [])) (enL enB b) = if b.isEmpty = true then some (.c (.d (.lst true [])), hp) else if b.length * 1 ≤ 140737488355328 then some (.c (.own false (enL enB b) hp.length), hp ++ [.row b.length 1]) else none := appendA_nil (P := Tryd.prog) (t := 22) (hp := hp) (b := b) enB 1 1 (fun _ => rfl) Tryd.underlying22 sz5 by5 zc5 rfl (by decide) (by decide)
end
end Go.Proofs.YtaohepmbkepmiaaDoor
