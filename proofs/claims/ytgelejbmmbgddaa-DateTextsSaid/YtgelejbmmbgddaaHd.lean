/- What the printed functions rest on: sizes, zeros, encoders. -/
import Derived.Test.YtgelejbmmbgddaaEnv
set_option linter.all false
set_option maxRecDepth 100000
namespace Go.Proofs.Ytgelejbmmbgddaa
open Go Go.Ab
section
variable {mm : Int}
theorem E0P : (E0 mm).P = Try.prog := rfl
theorem E0hard : (E0 mm).hard = fun _ => false := rfl
theorem E0row : (E0 mm).row = fun _ => true := rfl
theorem E0hand : (E0 mm).hand = fun _ => false := rfl
theorem E0nw : (E0 mm).nw = fun _ => false := rfl
theorem E0glob : (E0 mm).glob = fun _ => none := rfl
set_option maxRecDepth 100000 in
theorem f10_t : callW (E0 mm) 10 [] [] = some (.v (.c (.d (.sc (.bool true)))), []) := callN_W (k := 60) (by kernel_rfl)
theorem ag3 : aggP Try.prog 3 = some false := by kernel_rfl
theorem ag9 : aggP Try.prog 9 = some false := by kernel_rfl
theorem ent10 : entersB Try.prog 10 = some true := by kernel_rfl
theorem ent11 : entersB Try.prog 11 = some true := by kernel_rfl
theorem ent12 : entersB Try.prog 12 = some true := by kernel_rfl
theorem ent13 : entersB Try.prog 13 = some true := by kernel_rfl
theorem ent14 : entersB Try.prog 14 = some true := by kernel_rfl
theorem ent15 : entersB Try.prog 15 = some true := by kernel_rfl
theorem ent16 : entersB Try.prog 16 = some true := by kernel_rfl
theorem ent17 : entersB Try.prog 17 = some true := by kernel_rfl
theorem ent18 : entersB Try.prog 18 = some true := by kernel_rfl
theorem ent19 : entersB Try.prog 19 = some true := by kernel_rfl
theorem ent20 : entersB Try.prog 20 = some true := by kernel_rfl
theorem ent21 : entersB Try.prog 21 = some true := by kernel_rfl
theorem ent22 : entersB Try.prog 22 = some true := by kernel_rfl
theorem ent23 : entersB Try.prog 23 = some true := by kernel_rfl
theorem ent24 : entersB Try.prog 24 = some true := by kernel_rfl
theorem ent8 : entersB Try.prog 8 = some true := by kernel_rfl
theorem ent9 : entersB Try.prog 9 = some true := by kernel_rfl
theorem prm10 : (E0 mm).prim 10 = none := rfl
theorem prm11 : (E0 mm).prim 11 = none := rfl
theorem prm12 : (E0 mm).prim 12 = none := rfl
theorem prm13 : (E0 mm).prim 13 = none := rfl
theorem prm14 : (E0 mm).prim 14 = none := rfl
theorem prm15 : (E0 mm).prim 15 = none := rfl
theorem prm16 : (E0 mm).prim 16 = none := rfl
theorem prm17 : (E0 mm).prim 17 = none := rfl
theorem prm18 : (E0 mm).prim 18 = none := rfl
theorem prm19 : (E0 mm).prim 19 = none := rfl
theorem prm20 : (E0 mm).prim 20 = none := rfl
theorem prm21 : (E0 mm).prim 21 = some pIndex := rfl
theorem prm22 : (E0 mm).prim 22 = none := rfl
theorem prm23 : (E0 mm).prim 23 = none := rfl
theorem prm24 : (E0 mm).prim 24 = none := rfl
theorem prm8 : (E0 mm).prim 8 = none := rfl
theorem prm9 : (E0 mm).prim 9 = none := rfl
theorem sz3 : szP Try.prog 3 = some 1 := by kernel_rfl
theorem sz46 : szP Try.prog 46 = some 12 := by kernel_rfl
theorem sz48 : szP Try.prog 48 = some 7 := by kernel_rfl
theorem sz49 : szP Try.prog 49 = some 12 := by kernel_rfl
theorem sz5 : szP Try.prog 5 = some 1 := by kernel_rfl
theorem sz9 : szP Try.prog 9 = some 1 := by kernel_rfl
theorem zc46 : zeroC Try.prog 46 = some [.d (.sc (.int .i64 0)), .d (.sc (.int .i64 0)), .d (.sc (.int .i64 0)), .d (.sc (.int .i64 0)), .d (.sc (.int .i64 0)), .d (.sc (.int .i64 0)), .d (.sc (.int .i64 0)), .d (.sc (.int .i64 0)), .d (.sc (.int .i64 0)), .d (.sc (.int .i64 0)), .d (.sc (.int .i64 0)), .d (.sc (.int .i64 0))] := by kernel_rfl
theorem zc48 : zeroC Try.prog 48 = some [.d (.sc (.string (S ([] : Bs)))), .d (.sc (.string (S ([] : Bs)))), .d (.sc (.string (S ([] : Bs)))), .d (.sc (.string (S ([] : Bs)))), .d (.sc (.string (S ([] : Bs)))), .d (.sc (.string (S ([] : Bs)))), .d (.sc (.string (S ([] : Bs))))] := by kernel_rfl
theorem zc49 : zeroC Try.prog 49 = some [.d (.sc (.string (S ([] : Bs)))), .d (.sc (.string (S ([] : Bs)))), .d (.sc (.string (S ([] : Bs)))), .d (.sc (.string (S ([] : Bs)))), .d (.sc (.string (S ([] : Bs)))), .d (.sc (.string (S ([] : Bs)))), .d (.sc (.string (S ([] : Bs)))), .d (.sc (.string (S ([] : Bs)))), .d (.sc (.string (S ([] : Bs)))), .d (.sc (.string (S ([] : Bs)))), .d (.sc (.string (S ([] : Bs)))), .d (.sc (.string (S ([] : Bs))))] := by kernel_rfl
theorem zc5 : zeroC Try.prog 5 = some [.d (.sc (.int .u8 ((0 : UInt8).toNat : Int)))] := by kernel_rfl

theorem ar0 (k : Nat) (h : k < 12) : mkV false (([.d (.sc (.int .i64 31)), .d (.sc (.int .i64 28)), .d (.sc (.int .i64 31)), .d (.sc (.int .i64 30)), .d (.sc (.int .i64 31)), .d (.sc (.int .i64 30)), .d (.sc (.int .i64 31)), .d (.sc (.int .i64 31)), .d (.sc (.int .i64 30)), .d (.sc (.int .i64 31)), .d (.sc (.int .i64 30)), .d (.sc (.int .i64 31))].drop k).take 1) = some (.c (.d (.sc (.int .i64 (([(31 : Int), (28 : Int), (31 : Int), (30 : Int), (31 : Int), (30 : Int), (31 : Int), (31 : Int), (30 : Int), (31 : Int), (30 : Int), (31 : Int)] : List Int).getD k default))))) := arr_get (fun a : Int => .sc (.int .i64 a)) ([(31 : Int), (28 : Int), (31 : Int), (30 : Int), (31 : Int), (30 : Int), (31 : Int), (31 : Int), (30 : Int), (31 : Int), (30 : Int), (31 : Int)] : List Int) k h
theorem ns1 (hp : Heap) (a0 : UInt8) (a1 : UInt8) : newSlice hp false true 1 2 [.d (.sc (.int .u8 (a0.toNat : Int))), .d (.sc (.int .u8 (a1.toNat : Int)))] = some (.c (.own false (enL enB [a0, a1]) hp.length), hp ++ [.row 2 1]) := rfl
theorem ar2 (k : Nat) (h : k < 7) : mkV false (([.d (.sc (.string (S ([84, 104, 117] : Bs)))), .d (.sc (.string (S ([70, 114, 105] : Bs)))), .d (.sc (.string (S ([83, 97, 116] : Bs)))), .d (.sc (.string (S ([83, 117, 110] : Bs)))), .d (.sc (.string (S ([77, 111, 110] : Bs)))), .d (.sc (.string (S ([84, 117, 101] : Bs)))), .d (.sc (.string (S ([87, 101, 100] : Bs))))].drop k).take 1) = some (.c (.d (.sc (.string (S (([([84, 104, 117] : Bs), ([70, 114, 105] : Bs), ([83, 97, 116] : Bs), ([83, 117, 110] : Bs), ([77, 111, 110] : Bs), ([84, 117, 101] : Bs), ([87, 101, 100] : Bs)] : List Bs).getD k default)))))) := arr_get (fun a : Bs => .sc (.string (S a))) ([([84, 104, 117] : Bs), ([70, 114, 105] : Bs), ([83, 97, 116] : Bs), ([83, 117, 110] : Bs), ([77, 111, 110] : Bs), ([84, 117, 101] : Bs), ([87, 101, 100] : Bs)] : List Bs) k h
theorem ns3 (hp : Heap) (a0 : UInt8) : newSlice hp false true 1 1 [.d (.sc (.int .u8 (a0.toNat : Int)))] = some (.c (.own false (enL enB [a0]) hp.length), hp ++ [.row 1 1]) := rfl
theorem ar4 (k : Nat) (h : k < 12) : mkV false (([.d (.sc (.string (S ([74, 97, 110] : Bs)))), .d (.sc (.string (S ([70, 101, 98] : Bs)))), .d (.sc (.string (S ([77, 97, 114] : Bs)))), .d (.sc (.string (S ([65, 112, 114] : Bs)))), .d (.sc (.string (S ([77, 97, 121] : Bs)))), .d (.sc (.string (S ([74, 117, 110] : Bs)))), .d (.sc (.string (S ([74, 117, 108] : Bs)))), .d (.sc (.string (S ([65, 117, 103] : Bs)))), .d (.sc (.string (S ([83, 101, 112] : Bs)))), .d (.sc (.string (S ([79, 99, 116] : Bs)))), .d (.sc (.string (S ([78, 111, 118] : Bs)))), .d (.sc (.string (S ([68, 101, 99] : Bs))))].drop k).take 1) = some (.c (.d (.sc (.string (S (([([74, 97, 110] : Bs), ([70, 101, 98] : Bs), ([77, 97, 114] : Bs), ([65, 112, 114] : Bs), ([77, 97, 121] : Bs), ([74, 117, 110] : Bs), ([74, 117, 108] : Bs), ([65, 117, 103] : Bs), ([83, 101, 112] : Bs), ([79, 99, 116] : Bs), ([78, 111, 118] : Bs), ([68, 101, 99] : Bs)] : List Bs).getD k default)))))) := arr_get (fun a : Bs => .sc (.string (S a))) ([([74, 97, 110] : Bs), ([70, 101, 98] : Bs), ([77, 97, 114] : Bs), ([65, 112, 114] : Bs), ([77, 97, 121] : Bs), ([74, 117, 110] : Bs), ([74, 117, 108] : Bs), ([65, 117, 103] : Bs), ([83, 101, 112] : Bs), ([79, 99, 116] : Bs), ([78, 111, 118] : Bs), ([68, 101, 99] : Bs)] : List Bs) k h
end
end Go.Proofs.Ytgelejbmmbgddaa
