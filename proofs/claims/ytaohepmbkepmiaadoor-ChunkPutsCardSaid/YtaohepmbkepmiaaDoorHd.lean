/- What the printed functions rest on: sizes, zeros, encoders. -/
import Derived.Test.YtaohepmbkepmiaaDoorEnv
import Derived.Test.YtaohepmbkepmiaaDoorEv7
set_option linter.all false
set_option maxRecDepth 100000
namespace Go.Proofs.YtaohepmbkepmiaaDoor
open Go Go.Ab
open Nat renaming reduceEqDiff → za, reduceAdd → zb, reduceLeDiff → zc, reduceLT → zd, reduceMul → ze, reduceBEq → zf, reduceSub → zg, reducePow → zh
open Int renaming reduceEq → zi, reduceLE → zj, reduceLT → zk, reduceToNat → zl, reduceNegSucc → zm, reduceAdd → zn, reduceBEq → zo
open String renaming reduceBEq → zp
noncomputable section
variable {mm : Int}
theorem E0P : (E0 mm).P = Tryd.prog := rfl
theorem E0hand : (E0 mm).hand = fun f => f == 8 || f == 12 := rfl
theorem E0keep : (E0 mm).keep = fun _ => false := rfl
theorem E0glob : (E0 mm).glob = tabGlob tabT := rfl
theorem zE : (E0 mm).P = Tryd.prog ∧ ((E0 mm).hand = fun f => f == 8 || f == 12) ∧ ((E0 mm).glob = tabGlob tabT) ∧ ((E0 mm).keep = fun _ => false) := ⟨rfl, rfl, rfl, rfl⟩
theorem ext84_t (s : Bs) (c : UInt8) : (E0 mm).ext 84 [.string (S s), .int .u8 (c.toNat : Int)] = some (.int .i64 (Lib.indexByte s c)) := eIndexByte_t s c
theorem ag22 : aggP Tryd.prog 22 = some false := by kernel_rfl
theorem ag5 : aggP Tryd.prog 5 = some false := by kernel_rfl
theorem by22 : bytesP Tryd.prog 22 = some 24 := by kernel_rfl
theorem by5 : bytesP Tryd.prog 5 = some 1 := by kernel_rfl
theorem ent10 : entersB Tryd.prog 10 = some true := by kernel_rfl
theorem ent11 : entersB Tryd.prog 11 = some true := by kernel_rfl
theorem ent12 : entersB Tryd.prog 12 = some true := by kernel_rfl
theorem ent13 : entersB Tryd.prog 13 = some true := by kernel_rfl
theorem ent23 : entersB Tryd.prog 23 = some true := by kernel_rfl
theorem ent24 : entersB Tryd.prog 24 = some true := by kernel_rfl
theorem ent42 : entersB Tryd.prog 42 = some true := by kernel_rfl
theorem ent43 : entersB Tryd.prog 43 = some true := by kernel_rfl
theorem ent56 : entersB Tryd.prog 56 = some true := by kernel_rfl
theorem ent70 : entersB Tryd.prog 70 = some true := by kernel_rfl
theorem ent83 : entersB Tryd.prog 83 = some true := by kernel_rfl
theorem ent92 : entersB Tryd.prog 92 = some true := by kernel_rfl
theorem ent93 : entersB Tryd.prog 93 = some true := by kernel_rfl
theorem prm10 : (E0 mm).prim 10 = none := rfl
theorem prm11 : (E0 mm).prim 11 = none := rfl
theorem prm12 : (E0 mm).prim 12 = none := rfl
theorem prm13 : (E0 mm).prim 13 = none := rfl
theorem prm23 : (E0 mm).prim 23 = none := rfl
theorem prm24 : (E0 mm).prim 24 = none := rfl
theorem prm42 : (E0 mm).prim 42 = none := rfl
theorem prm43 : (E0 mm).prim 43 = none := rfl
theorem prm56 : (E0 mm).prim 56 = none := rfl
theorem prm70 : (E0 mm).prim 70 = none := rfl
theorem prm83 : (E0 mm).prim 83 = none := rfl
theorem prm92 : (E0 mm).prim 92 = none := rfl
theorem prm93 : (E0 mm).prim 93 = none := rfl
theorem sz22 : szP Tryd.prog 22 = some 1 := by kernel_rfl
theorem sz5 : szP Tryd.prog 5 = some 1 := by kernel_rfl
theorem zc22 : zeroC Tryd.prog 22 = some [.d (.lst true [])] := by kernel_rfl
theorem zc5 : zeroC Tryd.prog 5 = some [.d (.sc (.int .u8 ((0 : UInt8).toNat : Int)))] := by kernel_rfl
theorem zy113 : zeroC Tryd.prog 113 = some (enC (zB 65)) := by kernel_rfl
def en0 : (Bool × List UInt8) → List D := fun x => [.lst x.1 (enL enB x.2)]
theorem en0_e (x : (Bool × List UInt8)) : en0 x = [.lst x.1 (enL enB x.2)] := rfl
theorem en0_l (x : (Bool × List UInt8)) : (en0 x).length = 1 := rfl
theorem en0_a (l : List (Bool × List UInt8)) : ((enL en0 l).all fun e => e.length == 1) = true := enL_all en0 1 (fun _ => rfl) l
theorem hd0 : (E0 mm).hard "law.go:36" = false := rfl
theorem nv1 : (E0 mm).nw "law.go:36" = false := rfl
theorem rw2 : (E0 mm).row "law.go:36" = true := rfl
theorem ns3 (hp : Heap)  : newSlice hp false true 1 0 [] = some (.c (.own false (enL enB []) hp.length), hp ++ [.row 0 1]) := rfl
theorem ap22 {hp : Heap} {k : Nat} {nl : Bool} {a b : List UInt8} (hk : hp[k]? = some (.row a.length (rz nl 1))) : appendA Tryd.prog false hp 22 (.own nl (enL enB a) k) (enL enB b) = if b = [] ∨ (a.length + b.length) * 1 ≤ 140737488355328 then some (.c (.own (nl && b.isEmpty) (enL enB (a ++ b)) k), hp.set k (.row (a ++ b).length (rz (nl && b.isEmpty) 1))) else none := appendA_own (P := Tryd.prog) (t := 22) enB 1 1 (fun _ => rfl) Tryd.underlying22 sz5 by5 zc5 rfl (by decide) (by decide) (nl := nl) hk (b := b)
theorem ns5 (hp : Heap) (b0 : Bool) (a0 : List UInt8) (k0 : Nat) : newSlice hp false true 1 1 [.own b0 (enL enB a0) k0] = some (.c (.own false (enL en0 [(b0, a0)]) hp.length), hp ++ [.row 1 1]) := rfl
theorem ap31 {hp : Heap} {k : Nat} {nl : Bool} {a b : List (Bool × List UInt8)} (hk : hp[k]? = some (.row a.length (rz nl 1))) : appendA Tryd.prog false hp 31 (.own nl (enL en0 a) k) (enL en0 b) = if b = [] ∨ (a.length + b.length) * 24 ≤ 140737488355328 then some (.c (.own (nl && b.isEmpty) (enL en0 (a ++ b)) k), hp.set k (.row (a ++ b).length (rz (nl && b.isEmpty) 1))) else none := appendA_own (P := Tryd.prog) (t := 31) en0 1 24 (fun _ => rfl) Tryd.underlying31 sz22 by22 zc22 rfl (by decide) (by decide) (nl := nl) hk (b := b)
theorem ao7 : (E0 mm).aown "itoa.go:97" = false := rfl
theorem hd8 : (E0 mm).hard "chunk.go:114" = true := rfl
theorem ah22bnil {hp : Heap} {b : Bs} : type_of% (appendA_bnil (P := Tryd.prog) (t := 22) (hp := hp) (b := b) Tryd.underlying22 sz5 by5 zc5 rfl) := (appendA_bnil (P := Tryd.prog) (t := 22) (hp := hp) (b := b) Tryd.underlying22 sz5 by5 zc5 rfl)
theorem hd10 : (E0 mm).hard "chunk.go:115" = true := rfl
theorem hd11 : (E0 mm).hard "chunk.go:116" = true := rfl
theorem ah22bslc {hp : Heap} {k : Nat} {l b : Bs} (hk : hp[k]? = some (.cells (enC l))) : type_of% (appendA_bslc (P := Tryd.prog) (t := 22) (hp := hp) (b := b) Tryd.underlying22 sz5 by5 zc5 rfl hk) := (appendA_bslc (P := Tryd.prog) (t := 22) (hp := hp) (b := b) Tryd.underlying22 sz5 by5 zc5 rfl hk)
theorem hd13 : (E0 mm).hard "chunk.go:117" = true := rfl
theorem hd14 : (E0 mm).hard "chunk.go:119" = true := rfl
theorem hd15 : (E0 mm).hard "ref.go:96" = false := rfl
theorem hd16 : (E0 mm).hard "ref.go:97" = false := rfl
theorem nv17 : (E0 mm).nw "ref.go:97" = false := rfl
theorem rw18 : (E0 mm).row "ref.go:97" = false := rfl
theorem ns19 (hp : Heap) (a0 a1 : UInt8) : newSlice hp false false 1 2 [.d (.sc (.int .u8 (a0.toNat : Int))), .d (.sc (.int .u8 (a1.toNat : Int)))] = some (.c (.d (.lst false (enL enB [a0, a1]))), hp) := rfl
theorem hd20 : (E0 mm).hard "ref.go:98" = false := rfl
theorem hd21 : (E0 mm).hard "ref.go:99" = false := rfl
theorem nv22 : (E0 mm).nw "ref.go:99" = false := rfl
theorem rw23 : (E0 mm).row "ref.go:99" = false := rfl
theorem hd24 : (E0 mm).hard "ref.go:102" = false := rfl
theorem nv25 : (E0 mm).nw "ref.go:102" = false := rfl
theorem rw26 : (E0 mm).row "ref.go:102" = false := rfl
theorem ns27 (hp : Heap) (a0 a1 : UInt8) (a2 a3 a4 : UInt8) : newSlice hp false false 1 5 [.d (.sc (.int .u8 (a0.toNat : Int))), .d (.sc (.int .u8 (a1.toNat : Int))), .d (.sc (.int .u8 (a2.toNat : Int))), .d (.sc (.int .u8 (a3.toNat : Int))), .d (.sc (.int .u8 (a4.toNat : Int)))] = some (.c (.d (.lst false (enL enB [a0, a1, a2, a3, a4]))), hp) := rfl
end
end Go.Proofs.YtaohepmbkepmiaaDoor
