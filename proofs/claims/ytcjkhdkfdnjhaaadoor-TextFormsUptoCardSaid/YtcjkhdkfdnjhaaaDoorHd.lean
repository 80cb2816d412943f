/- What the printed functions rest on: sizes, zeros, encoders. -/
import Derived.Test.YtcjkhdkfdnjhaaaDoorEnv
import Derived.Test.YtcjkhdkfdnjhaaaDoorAb36
set_option linter.all false
set_option maxRecDepth 100000
namespace Go.Proofs.YtcjkhdkfdnjhaaaDoor
open Go Go.Ab
section
variable {mm : Int}
theorem E0P : (E0 mm).P = Tryd.prog := rfl
theorem E0hard : (E0 mm).hard = fun s => s == "text.go:39" := rfl
theorem E0row : (E0 mm).row = fun _ => true := rfl
theorem E0hand : (E0 mm).hand = fun _ => false := rfl
theorem E0nw : (E0 mm).nw = fun _ => false := rfl
theorem E0glob : (E0 mm).glob = fun _ => none := rfl
theorem E0aown : (E0 mm).aown = fun s => s == "text.go:53" := rfl
theorem ext54_t (s : Bs) (c : UInt8) : (E0 mm).ext 54 [.string (S s), .int .u8 (c.toNat : Int)] = some (.int .i64 (Lib.indexByte s c)) := eIndexByte_t s c
set_option maxRecDepth 100000 in
theorem f20_t : callW (E0 mm) 20 [] [] = some (.v (.c (.d (.sc (.bool true)))), []) := callN_W (k := 400) (by kernel_rfl)
theorem ag27 : aggP Tryd.prog 27 = some false := by kernel_rfl
theorem ag3 : aggP Tryd.prog 3 = some false := by kernel_rfl
theorem ag37 : aggP Tryd.prog 37 = some false := by kernel_rfl
theorem ag42 : aggP Tryd.prog 42 = some false := by kernel_rfl
theorem ag5 : aggP Tryd.prog 5 = some false := by kernel_rfl
theorem ag9 : aggP Tryd.prog 9 = some false := by kernel_rfl
theorem by5 : bytesP Tryd.prog 5 = some 1 := by kernel_rfl
theorem by9 : bytesP Tryd.prog 9 = some 16 := by kernel_rfl
theorem ent10 : entersB Tryd.prog 10 = some true := by kernel_rfl
theorem ent11 : entersB Tryd.prog 11 = some true := by kernel_rfl
theorem ent12 : entersB Tryd.prog 12 = some true := by kernel_rfl
theorem ent13 : entersB Tryd.prog 13 = some true := by kernel_rfl
theorem ent14 : entersB Tryd.prog 14 = some true := by kernel_rfl
theorem ent15 : entersB Tryd.prog 15 = some true := by kernel_rfl
theorem ent16 : entersB Tryd.prog 16 = some true := by kernel_rfl
theorem ent17 : entersB Tryd.prog 17 = some true := by kernel_rfl
theorem ent18 : entersB Tryd.prog 18 = some true := by kernel_rfl
theorem ent19 : entersB Tryd.prog 19 = some true := by kernel_rfl
theorem ent20 : entersB Tryd.prog 20 = some true := by kernel_rfl
theorem ent21 : entersB Tryd.prog 21 = some true := by kernel_rfl
theorem ent22 : entersB Tryd.prog 22 = some true := by kernel_rfl
theorem ent23 : entersB Tryd.prog 23 = some true := by kernel_rfl
theorem ent24 : entersB Tryd.prog 24 = some true := by kernel_rfl
theorem ent25 : entersB Tryd.prog 25 = some true := by kernel_rfl
theorem ent26 : entersB Tryd.prog 26 = some true := by kernel_rfl
theorem ent27 : entersB Tryd.prog 27 = some true := by kernel_rfl
theorem ent28 : entersB Tryd.prog 28 = some true := by kernel_rfl
theorem ent29 : entersB Tryd.prog 29 = some true := by kernel_rfl
theorem ent30 : entersB Tryd.prog 30 = some true := by kernel_rfl
theorem ent31 : entersB Tryd.prog 31 = some true := by kernel_rfl
theorem ent32 : entersB Tryd.prog 32 = some true := by kernel_rfl
theorem ent33 : entersB Tryd.prog 33 = some true := by kernel_rfl
theorem ent34 : entersB Tryd.prog 34 = some true := by kernel_rfl
theorem ent35 : entersB Tryd.prog 35 = some true := by kernel_rfl
theorem ent36 : entersB Tryd.prog 36 = some true := by kernel_rfl
theorem ent37 : entersB Tryd.prog 37 = some true := by kernel_rfl
theorem ent38 : entersB Tryd.prog 38 = some true := by kernel_rfl
theorem ent41 : entersB Tryd.prog 41 = some true := by kernel_rfl
theorem ent42 : entersB Tryd.prog 42 = some true := by kernel_rfl
theorem ent43 : entersB Tryd.prog 43 = some true := by kernel_rfl
theorem ent51 : entersB Tryd.prog 51 = some true := by kernel_rfl
theorem ent53 : entersB Tryd.prog 53 = some true := by kernel_rfl
theorem ent59 : entersB Tryd.prog 59 = some true := by kernel_rfl
theorem entf54 : entersB Tryd.prog 54 = some false := by kernel_rfl
theorem exf54 : (E0 mm).extp 54 = none := rfl
theorem prm10 : (E0 mm).prim 10 = none := rfl
theorem prm11 : (E0 mm).prim 11 = none := rfl
theorem prm12 : (E0 mm).prim 12 = none := rfl
theorem prm13 : (E0 mm).prim 13 = none := rfl
theorem prm14 : (E0 mm).prim 14 = none := rfl
theorem prm15 : (E0 mm).prim 15 = none := rfl
theorem prm16 : (E0 mm).prim 16 = none := rfl
theorem prm17 : (E0 mm).prim 17 = none := rfl
theorem prm18 : (E0 mm).prim 18 = none := rfl
theorem prm19 : (E0 mm).prim 19 = none := rfl
theorem prm20 : (E0 mm).prim 20 = none := rfl
theorem prm21 : (E0 mm).prim 21 = none := rfl
theorem prm22 : (E0 mm).prim 22 = none := rfl
theorem prm23 : (E0 mm).prim 23 = none := rfl
theorem prm24 : (E0 mm).prim 24 = none := rfl
theorem prm25 : (E0 mm).prim 25 = none := rfl
theorem prm26 : (E0 mm).prim 26 = none := rfl
theorem prm27 : (E0 mm).prim 27 = none := rfl
theorem prm28 : (E0 mm).prim 28 = some pQuote := rfl
theorem prm29 : (E0 mm).prim 29 = none := rfl
theorem prm30 : (E0 mm).prim 30 = none := rfl
theorem prm31 : (E0 mm).prim 31 = none := rfl
theorem prm32 : (E0 mm).prim 32 = none := rfl
theorem prm33 : (E0 mm).prim 33 = none := rfl
theorem prm34 : (E0 mm).prim 34 = none := rfl
theorem prm35 : (E0 mm).prim 35 = some pTrim := rfl
theorem prm36 : (E0 mm).prim 36 = none := rfl
theorem prm37 : (E0 mm).prim 37 = none := rfl
theorem prm38 : (E0 mm).prim 38 = none := rfl
theorem prm41 : (E0 mm).prim 41 = none := rfl
theorem prm42 : (E0 mm).prim 42 = none := rfl
theorem prm43 : (E0 mm).prim 43 = none := rfl
theorem prm51 : (E0 mm).prim 51 = none := rfl
theorem prm53 : (E0 mm).prim 53 = none := rfl
theorem prm59 : (E0 mm).prim 59 = some pIndex := rfl
theorem sz27 : szP Tryd.prog 27 = some 1 := by kernel_rfl
theorem sz3 : szP Tryd.prog 3 = some 1 := by kernel_rfl
theorem sz37 : szP Tryd.prog 37 = some 1 := by kernel_rfl
theorem sz42 : szP Tryd.prog 42 = some 1 := by kernel_rfl
theorem sz5 : szP Tryd.prog 5 = some 1 := by kernel_rfl
theorem sz9 : szP Tryd.prog 9 = some 1 := by kernel_rfl
theorem zc27 : zeroC Tryd.prog 27 = some [.d (.lst true [])] := by kernel_rfl
theorem zc3 : zeroC Tryd.prog 3 = some [.d (.sc (.int .i64 0))] := by kernel_rfl
theorem zc44 : zeroC Tryd.prog 44 = some [.d (.sc (.pointer none)), .d (.lst true [])] := by kernel_rfl
theorem zc5 : zeroC Tryd.prog 5 = some [.d (.sc (.int .u8 ((0 : UInt8).toNat : Int)))] := by kernel_rfl
theorem zc9 : zeroC Tryd.prog 9 = some [.d (.sc (.string (S ([] : Bs))))] := by kernel_rfl
def en0 : Bs → List D := fun x => [.sc (.string (S x))]
theorem en0_e (x : Bs) : en0 x = [.sc (.string (S x))] := rfl
theorem en0_l (x : Bs) : (en0 x).length = 1 := rfl
theorem en0_a (l : List Bs) : ((enL en0 l).all fun e => e.length == 1) = true := enL_all en0 1 (fun _ => rfl) l
theorem ns0 (hp : Heap) (a0 : UInt8) : newSlice hp false true 1 1 [.d (.sc (.int .u8 (a0.toNat : Int)))] = some (.c (.own false (enL enB [a0]) hp.length), hp ++ [.row 1 1]) := rfl
theorem ap33 {hp : Heap} {k : Nat} {nl : Bool} {a b : List UInt8} (hk : hp[k]? = some (.row a.length (rz nl 1))) : appendA Tryd.prog false hp 33 (.own nl (enL enB a) k) (enL enB b) = if b = [] ∨ (a.length + b.length) * 1 ≤ 140737488355328 then some (.c (.own (nl && b.isEmpty) (enL enB (a ++ b)) k), hp.set k (.row (a ++ b).length (rz (nl && b.isEmpty) 1))) else none := appendA_own (P := Tryd.prog) (t := 33) enB 1 1 (fun _ => rfl) Tryd.underlying33 sz5 by5 zc5 rfl (by decide) (by decide) (nl := nl) hk (b := b)
theorem ns2 (hp : Heap) (a0 : Bs) : newSlice hp false true 1 1 [.d (.sc (.string (S a0)))] = some (.c (.own false (enL en0 [a0]) hp.length), hp ++ [.row 1 1]) := rfl
theorem ap27 {hp : Heap} {k : Nat} {nl : Bool} {a b : List Bs} (hk : hp[k]? = some (.row a.length (rz nl 1))) : appendA Tryd.prog false hp 27 (.own nl (enL en0 a) k) (enL en0 b) = if b = [] ∨ (a.length + b.length) * 16 ≤ 140737488355328 then some (.c (.own (nl && b.isEmpty) (enL en0 (a ++ b)) k), hp.set k (.row (a ++ b).length (rz (nl && b.isEmpty) 1))) else none := appendA_own (P := Tryd.prog) (t := 27) en0 1 16 (fun _ => rfl) Tryd.underlying27 sz9 by9 zc9 rfl (by decide) (by decide) (nl := nl) hk (b := b)
end
end Go.Proofs.YtcjkhdkfdnjhaaaDoor
