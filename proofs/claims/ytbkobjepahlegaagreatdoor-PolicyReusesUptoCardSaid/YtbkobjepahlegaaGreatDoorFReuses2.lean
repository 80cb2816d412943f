/- The Go functions as plain functions, and that the evaluator computes them. -/
import Derived.Test.YtbkobjepahlegaaGreatDoorFReuses1
set_option linter.all false
set_option maxRecDepth 100000
namespace Go.Proofs.YtbkobjepahlegaaGreatDoor
open Go Go.Ab
open Nat renaming reduceEqDiff → za, reduceAdd → zb, reduceLeDiff → zc, reduceLT → zd, reduceMul → ze, reduceBEq → zf, reduceSub → zg, reducePow → zh
open Int renaming reduceEq → zi, reduceLE → zj, reduceLT → zk, reduceToNat → zl, reduceNegSucc → zm, reduceAdd → zn, reduceBEq → zo
open String renaming reduceBEq → zp
set_option maxHeartbeats 4000000
noncomputable section
variable {mm : Int}
abbrev b123a (mm : Int) := bodyD (E0 mm) [.tmp 4] 2 false
abbrev R123a := (Int)
def L123a_0 : List (Nat × Co) := [(0, .keep), (1, .keep), (7, .keep), (8, .keep)]
def e123a (gm1 : List (Bs × List Bs)) (x : R123a) : AV × Heap := (vd (dI x), [.cells [.mp 1], .amap (enM gm1)])
def j123a_25 (gm1 : List (Bs × List Bs))  : Option R123a :=
  some (-1 : Int)
def K123a_6 (mm : Int) (r : Option (Ex × St)) : Option (AV × Heap) := b123a mm (sq (E0 mm) 123 2 c123_25 (blockD 0 (r)))
def en123a_6 (gm1 : List (Bs × List Bs)) : (Bool × List Bs × Int × Int) → X := fun x => (none, [vd (.lst x.1 (enL enS x.2.1)), .v (.c (.fn 108 [(0, 0)])), vd (dI x.2.2.1), vd (dI x.2.2.2)], [.cells [.mp 1], .amap (enM gm1)])
def k123a := Q (rx c123_26) (Q (rx c123_8) (Q (rx c123_16) (Q (rx c123_18) (Q @ent108 (Q @prm108 (Q @f108_t (Q @e108.eq_1 (Q (rx c123_21) (Q @K123a_6.eq_1 (Q (rx c123_24) (Q (rx c123_1) (Q (rx c123_4) (Q (fun mm => lx (E0 mm) 123 c123_6 c123_7 L123a_0) (Q (nE c123_0 (.seq c123_1 (.seq (.seq c123_4 (.block 0 c123_6)) c123_25))) (Q (nE c123_7 (.seq c123_8 (.seq (.cond _ .skip (.exit 0)) (.seq (.block 1 (.seq c123_16 (.seq c123_18 (.cond _ (.seq c123_21 .ret) .skip)))) c123_24)))) (Q @L123a_0.eq_1 hA))))))))))))))))
theorem j123a_25_t (gm1 : List (Bs × List Bs))   (sl : Sl)  :
    b123a mm (dn (E0 mm) 123 2 c123_25 sl [.cells [.mp 1], .amap (enM gm1)]) = (j123a_25 gm1).map (e123a gm1) := by
  unfold j123a_25; exact go (Q (nE c123_25 (.seq c123_26 .ret)) k123a) trivial
def s123a_6 (gm1 : List (Bs × List Bs)) (s0_0 : Bool) (s0_1 : List Bs) (t7 t8 : Int) : Option ((Bool × List Bs × Int × Int) ⊕ R123a) :=
  if (decide (t8 < t7)) = true then
    if 0 ≤ t8 ∧ t8 < (s0_1.length : Int) then
      (m108 (s0_1.getD t8.toNat default) gm1).bind fun yr5 =>
        if yr5 = true then
          some (.inr t8)
        else
          some (.inl (s0_0, s0_1, t7, (w64 (t8 + 1))))
    else none
  else
    (j123a_25 gm1).map .inr
theorem s123a_6_t (gm1 : List (Bs × List Bs)) (s0_0 : Bool) (s0_1 : List Bs) (t7 t8 : Int) :
    stepE (K123a_6 mm) (lp (E0 mm) 123 2 c123_7 L123a_0 (none, [vd (.lst s0_0 (enL enS s0_1)), .v (.c (.fn 108 [(0, 0)])), vd (dI t7), vd (dI t8)], [.cells [.mp 1], .amap (enM gm1)])) = (s123a_6 gm1 s0_0 s0_1 t7 t8).map (sm (en123a_6 gm1) (e123a gm1)) := by
  unfold s123a_6; exact go k123a @j123a_25_t
def l123a_6 (gm1 : List (Bs × List Bs)) (s0_0 : Bool) (s0_1 : List Bs) (t7 t8 : Int) : Option R123a := iter (fun x : (Bool × List Bs × Int × Int) => s123a_6 gm1 x.1 x.2.1 x.2.2.1 x.2.2.2) (s0_0, s0_1, t7, t8)
theorem l123a_6_t (gm1 : List (Bs × List Bs)) (s0_0 : Bool) (s0_1 : List Bs) (t7 t8 : Int) : b123a mm (sq (E0 mm) 123 2 c123_25 (blockD 0 (itW (lp (E0 mm) 123 2 c123_7 L123a_0) (none, [vd (.lst s0_0 (enL enS s0_1)), .v (.c (.fn 108 [(0, 0)])), vd (dI t7), vd (dI t8)], [.cells [.mp 1], .amap (enM gm1)])))) = (l123a_6 gm1 s0_0 s0_1 t7 t8).map (e123a gm1) :=
  it_sim (K := (K123a_6 mm)) rfl (enc := (en123a_6 gm1)) (fun x => s123a_6_t gm1 x.1 x.2.1 x.2.2.1 x.2.2.2) (s0_0, s0_1, t7, t8)
def m123a (s_0 : Bool) (s_1 : List Bs) (gm1 : List (Bs × List Bs)) : Option R123a :=
  l123a_6 gm1 s_0 s_1 (s_1.length : Int) (0 : Int)
theorem f123a_t (s_0 : Bool) (s_1 : List Bs) (gm1 : List (Bs × List Bs)) :
    callW (E0 mm) 123 [cd (.lst s_0 (enL enS s_1)), .c (.fn 108 [(0, 0)])] [.cells [.mp 1], .amap (enM gm1)] = (m123a s_0 s_1 gm1).map (e123a gm1) := by
  rw [cR c123_0 [.tmp 4] Tryz.func123]
  unfold m123a; exact go k123a @l123a_6_t
abbrev R79a := (Bool)
def e79a (gm1 : List (Bs × List Bs)) (x : R79a) : AV × Heap := (vd (dB x), [.cells [.mp 1], .amap (enM gm1)])
def m79a (s_0 : Bool) (s_1 : List Bs) (gm1 : List (Bs × List Bs)) : Option R79a :=
  (m123a s_0 s_1 gm1).bind fun yr2 =>
    some (decide (0 ≤ yr2))
def k79a := Q (rx c79_1) (Q (rx c79_3) (Q @f123a_t (Q @e123a.eq_1 (Q (nE c79_0 (.seq c79_1 (.seq c79_3 .ret))) hA))))
theorem f79a_t (s_0 : Bool) (s_1 : List Bs) (gm1 : List (Bs × List Bs)) :
    callW (E0 mm) 79 [cd (.lst s_0 (enL enS s_1)), .c (.fn 108 [(0, 0)])] [.cells [.mp 1], .amap (enM gm1)] = (m79a s_0 s_1 gm1).map (e79a gm1) := by
  rw [cR c79_0 [.tmp 4] Tryz.func79]
  unfold m79a; exact go k79a trivial
noncomputable def c60_0 : Code := bodyOf Tryz.f60
def c60_1 := cA c60_0
def c60_3 := cA (cB c60_0)
abbrev R60 := (Bool)
def e60 (gm0 : List (Bs × List Bs)) (x : R60) : AV × Heap := (vd (dB x), [.amap (enM gm0)])
def m60 (names_0 : Bool) (names_1 : List Bs) (gm0 : List (Bs × List Bs)) : Option R60 :=
  (m79a names_0 names_1 gm0).bind fun yr2 =>
    some yr2
def k60 := Q (rx c60_1) (Q (rx c60_3) (Q @ent79 (Q @prm79 (Q @f79a_t (Q @e79a.eq_1 (Q (nE c60_0 (.seq c60_1 (.seq c60_3 .ret))) hA))))))
theorem f60_t (names_0 : Bool) (names_1 : List Bs) (gm0 : List (Bs × List Bs)) :
    callW (E0 mm) 60 [.c (.mp 0), cd (.lst names_0 (enL enS names_1))] [.amap (enM gm0)] = (m60 names_0 names_1 gm0).map (e60 gm0) := by
  rw [cR c60_0 [.tmp 4] Tryz.func60]
  unfold m60; exact go k60 trivial
noncomputable def c152_0 : Code := bodyOf Tryz.f152
def c152_1 := cA c152_0
def c152_4 := cA (cA (cB c152_0))
def c152_5 := cB (cA (cB c152_0))
def c152_7 := cA (cA c152_5)
def c152_10 := cB (cB c152_0)
def c152_11 := cA c152_10
abbrev R152 := (Int)
def e152 (x : R152) : AV × Heap := (vd (dI x), [])
def j152_5 (c0 : Int) (t8 : Bool) : Option R152 :=
  if t8 = true then
    some (w64 (w32 (c0 - 48)))
  else
    some (-1 : Int)
def k152 := Q (rx c152_7) (Q @Tryz.underlying21 (Q (rx c152_11) (Q (rx c152_1) (Q (rx c152_4) (Q (nE c152_0 (.seq c152_1 (.seq (.seq c152_4 c152_5) c152_10))) (Q (nE c152_10 (.seq c152_11 .ret)) hA))))))
theorem j152_5_t (c0 : Int) (t8 : Bool)  (sl : Sl) (_ : sl 0 = vd (.sc (.int .i32 c0))) (_ : sl 8 = vd (dB t8)) :
    bodyD (E0 mm) [.tmp 2] 0 false (sq (E0 mm) 152 0 c152_10 (dn (E0 mm) 152 0 c152_5 sl [])) = (j152_5 c0 t8).map e152 := by
  unfold j152_5; exact go (Q (nE c152_5 (.cond _ (.seq c152_7 .ret) .skip)) k152) trivial
def m152 (c : Int) : Option R152 :=
  if (decide (48 ≤ c)) = true then
    j152_5 c (decide (c ≤ 57))
  else
    j152_5 c false
theorem f152_t (c : Int) :
    callW (E0 mm) 152 [cd (.sc (.int .i32 c))] [] = (m152 c).map e152 := by
  rw [cR c152_0 [.tmp 2] Tryz.func152]
  unfold m152; exact go k152 @j152_5_t
noncomputable def c151_0 : Code := bodyOf Tryz.f151
def c151_1 := cA c151_0
def c151_4 := cA (cA (cB c151_0))
def c151_7 := cA (cA (cB (cA (cB c151_0))))
def c151_11 := cA (cB (cB c151_0))
def c151_14 := cA (cA (cB (cB (cB c151_0))))
def c151_16 := cA (cB (cA (cB (cB (cB c151_0)))))
def c151_17 := cA c151_16
def c151_18 := cA c151_17
def c151_25 := cA (cA (cB (cB c151_17)))
def c151_27 := cA (cB (cA (cB (cB c151_17))))
def c151_30 := cA (cA (cB (cB (cA (cB (cB c151_17))))))
def c151_33 := cA (cA (cB (cA (cB (cB (cA (cB (cB c151_17))))))))
def c151_38 := cA (cA (cB (cB (cB (cA (cB (cB c151_17)))))))
def c151_39 := cB (cA (cB (cB (cB (cA (cB (cB c151_17)))))))
def c151_41 := cA (cA c151_39)
def c151_44 := cB (cB (cB (cB (cA (cB (cB c151_17))))))
def c151_45 := cB (cB (cB (cB c151_0)))
def c151_47 := cA (cA c151_45)
def c151_50 := cA (cA (cB (cA c151_45)))
def c151_54 := cA (cB c151_45)
def L151_0 : List (Nat × Co) := [(1, .keep), (2, .keep), (8, .keep), (9, .keep), (16, .keep)]
abbrev R151 := (Int × Int)
def e151 (x : R151) : AV × Heap := (.tup [cd (dU x.1), cd (dI x.2)], [])
def j151_39 (base1 n8 : Int) (long9 : Bool) (d12 : Int) (t34 : Bool) (s0 : Bs) (p0 : Nat) : Option ((Int × Int × Bool × Bs × Nat) ⊕ R151) :=
  if t34 = true then
    some (.inl (base1, n8, true, s0, p0))
  else
    some (.inl (base1, (wu64 ((wu64 (n8 * base1)) + (wu64 d12))), long9, s0, p0))
def K151_16 (mm : Int) (r : Option (Ex × St)) : Option (AV × Heap) := bodyD (E0 mm) [.tmp 6, .tmp 7] 0 false (sq (E0 mm) 151 0 c151_45 (blockD 0 (r)))
def en151_16 (x : (Int × Int × Bool × Bs × Nat)) : X := (none, [vd (dU x.1), vd (.sc (.func (.func 152) #[] #[])), vd (dU x.2.1), vd (dB x.2.2.1), .v (.c (.it 0))], [.siter (S x.2.2.2.1) x.2.2.2.2])
def k151 := Q (rx c151_41) (Q (rx c151_44) (Q (rx c151_47) (Q (rx c151_50) (Q (rx c151_54) (Q (rx c151_18) (Q @dec_eq (Q (rx c151_25) (Q (rx c151_27) (Q @ent152 (Q @prm152 (Q @f152_t (Q @e152.eq_1 (Q (rx c151_30) (Q (rx c151_33) (Q @K151_16.eq_1 (Q (rx c151_38) (Q @ev_quo0 (Q (rx c151_1) (Q (rx c151_4) (Q (rx c151_7) (Q (rx c151_11) (Q (rx c151_14) (Q (fun mm => lx (E0 mm) 151 c151_16 c151_17 L151_0) (Q (nE c151_0 (.seq c151_1 (.seq (.seq c151_4 (.cond _ (.seq c151_7 .ret) .skip)) (.seq c151_11 (.seq (.seq c151_14 (.block 0 c151_16)) c151_45))))) (Q (nE c151_17 (.seq c151_18 (.seq (.cond _ .skip (.exit 0)) (.block 1 (.seq c151_25 (.seq c151_27 (.seq (.seq c151_30 (.cond _ (.seq c151_33 .ret) .skip)) (.seq (.seq c151_38 c151_39) c151_44)))))))) (Q @en151_16.eq_1 (Q @L151_0.eq_1 hA)))))))))))))))))))))))))))
theorem j151_39_t (base1 n8 : Int) (long9 : Bool) (d12 : Int) (t34 : Bool) (s0 : Bs) (p0 : Nat)  (sl : Sl) (_ : sl 1 = vd (dU base1)) (_ : sl 2 = vd (.sc (.func (.func 152) #[] #[]))) (_ : sl 8 = vd (dU n8)) (_ : sl 9 = vd (dB long9)) (_ : sl 12 = vd (dI d12)) (_ : sl 16 = .v (.c (.it 0))) (_ : sl 34 = vd (dB t34)) :
    stepE (K151_16 mm) (loopK 0 L151_0 (blockD 1 (sq (E0 mm) 151 0 c151_44 (dn (E0 mm) 151 0 c151_39 sl [.siter (S s0) p0])))) = (j151_39 base1 n8 long9 d12 t34 s0 p0).map (sm en151_16 e151) := by
  unfold j151_39; exact go (Q (nE c151_39 (.cond _ (.seq c151_41 (.exit 1)) .skip)) k151) trivial
def j151_45 (n8 : Int) (long9 : Bool) : Option R151 :=
  if long9 = true then
    some ((0 : Int), (3 : Int))
  else
    some (n8, (0 : Int))
theorem j151_45_t (n8 : Int) (long9 : Bool) (g0 : Ob) (sl : Sl) (_ : sl 8 = vd (dU n8)) (_ : sl 9 = vd (dB long9)) :
    bodyD (E0 mm) [.tmp 6, .tmp 7] 0 false (dn (E0 mm) 151 0 c151_45 sl [g0]) = (j151_45 n8 long9).map e151 := by
  unfold j151_45; exact go (Q (nE c151_45 (.seq (.seq c151_47 (.cond _ (.seq c151_50 .ret) .skip)) (.seq c151_54 .ret))) k151) trivial
def s151_16 (base1 n8 : Int) (long9 : Bool) (s0 : Bs) (p0 : Nat) : Option ((Int × Int × Bool × Bs × Nat) ⊕ R151) :=
  if (decide (p0 < s0.length)) = true then
    (m152 (uc s0 p0 : Int)).bind fun yr5 =>
      if (decide (yr5 < 0)) = true then
        some (.inr ((0 : Int), (5 : Int)))
      else
        if long9 = true then
          j151_39 base1 n8 true yr5 true s0 (p0 + uw s0 p0)
        else
          if (base1 == 0) = false then
            j151_39 base1 n8 false yr5 (decide ((wu64 ((wu64 (9007199254740991 - (wu64 yr5))).tdiv base1)) < n8)) s0 (p0 + uw s0 p0)
          else none
  else
    (j151_45 n8 long9).map .inr
theorem s151_16_t (base1 n8 : Int) (long9 : Bool) (s0 : Bs) (p0 : Nat) :
    stepE (K151_16 mm) (lp (E0 mm) 151 0 c151_17 L151_0 (en151_16 (base1, n8, long9, s0, p0))) = (s151_16 base1 n8 long9 s0 p0).map (sm en151_16 e151) := by
  unfold s151_16; exact go k151 (Q @j151_39_t @j151_45_t)
def l151_16 (base1 n8 : Int) (long9 : Bool) (s0 : Bs) (p0 : Nat) : Option R151 := iter (fun x : (Int × Int × Bool × Bs × Nat) => s151_16 x.1 x.2.1 x.2.2.1 x.2.2.2.1 x.2.2.2.2) (base1, n8, long9, s0, p0)
theorem l151_16_t (base1 n8 : Int) (long9 : Bool) (s0 : Bs) (p0 : Nat) : (K151_16 mm) (itW (lp (E0 mm) 151 0 c151_17 L151_0) (en151_16 (base1, n8, long9, s0, p0))) = (l151_16 base1 n8 long9 s0 p0).map e151 :=
  it_sim (K := (K151_16 mm)) rfl (enc := en151_16) (fun x => s151_16_t x.1 x.2.1 x.2.2.1 x.2.2.2.1 x.2.2.2.2) (base1, n8, long9, s0, p0)
def m151 (s : Bs) (base : Int) : Option R151 :=
  if (s == ([] : Bs)) = true then
    some ((0 : Int), (5 : Int))
  else
    l151_16 base (0 : Int) false s 0
theorem f151_t (s : Bs) (base : Int) :
    callW (E0 mm) 151 [cd (dS s), cd (dU base), cd (.sc (.func (.func 152) #[] #[]))] [] = (m151 s base).map e151 := by
  rw [cR c151_0 [.tmp 6, .tmp 7] Tryz.func151]
  unfold m151; exact go k151 @l151_16_t
noncomputable def c138_0 : Code := bodyOf Tryz.f138
def c138_1 := cA c138_0
def c138_3 := cA (cB c138_0)
abbrev R138 := (Int × Int)
def e138 (x : R138) : AV × Heap := (.tup [cd (dU x.1), cd (dI x.2)], [])
def m138 (s : Bs) : Option R138 :=
  (m151 s (10 : Int)).bind fun yr2 =>
    some (yr2.1, yr2.2)
def k138 := Q (rx c138_1) (Q (rx c138_3) (Q @ent151 (Q @prm151 (Q @f151_t (Q @e151.eq_1 (Q (nE c138_0 (.seq c138_1 (.seq c138_3 .ret))) hA))))))
theorem f138_t (s : Bs) :
    callW (E0 mm) 138 [cd (dS s)] [] = (m138 s).map e138 := by
  rw [cR c138_0 [.tmp 2, .tmp 3] Tryz.func138]
  unfold m138; exact go k138 trivial
noncomputable def c109_0 : Code := bodyOf Tryz.f109
def c109_1 := cA c109_0
def c109_3 := cA (cB c109_0)
def c109_6 := cA (cA (cB (cB c109_0)))
def c109_9 := cA (cA (cB (cA (cB (cB c109_0)))))
def c109_12 := cA (cA (cB (cA (cB (cA (cB (cB c109_0)))))))
def c109_15 := cA (cB (cB (cA (cB (cA (cB (cB c109_0)))))))
def c109_18 := cA (cA (cB (cB (cB (cA (cB (cA (cB (cB c109_0)))))))))
def c109_22 := cA (cB (cB (cB c109_0)))
abbrev R109 := (Int)
def e109 (x : R109) : AV × Heap := (vd (dI x), [])
def m109 (s : Bs) : Option R109 :=
  (m138 s).bind fun yr2 =>
    if (yr2.2 == 0) = true then
      some (w64 (min2 yr2.1 2147483647))
    else
      if (yr2.2 == 3) = true then
        some (2147483647 : Int)
      else
        some (0 : Int)
def k109 := Q (rx c109_1) (Q (rx c109_3) (Q @f138_t (Q @e138.eq_1 (Q (rx c109_6) (Q (rx c109_9) (Q (rx c109_12) (Q (rx c109_15) (Q (rx c109_18) (Q (rx c109_22) (Q (nE c109_0 (.seq c109_1 (.seq c109_3 (.seq (.seq c109_6 (.block 0 (.seq c109_9 (.cond _ (.seq c109_12 .ret) (.seq c109_15 (.cond _ (.seq c109_18 .ret) .skip)))))) (.seq c109_22 .ret))))) hA))))))))))
theorem f109_t (s : Bs) :
    callW (E0 mm) 109 [cd (dS s)] [] = (m109 s).map e109 := by
  rw [cR c109_0 [.tmp 2] Tryz.func109]
  unfold m109; exact go k109 trivial
noncomputable def c62_0 : Code := bodyOf Tryz.f62
def c62_1 := cA c62_0
def c62_4 := cA (cA (cB c62_0))
def c62_6 := cA (cB (cA (cB c62_0)))
def c62_9 := cA (cB (cB c62_0))
def c62_12 := cA (cA (cB (cB (cB c62_0))))
def c62_14 := cA (cB (cA (cB (cB (cB c62_0)))))
def c62_15 := cA c62_14
def c62_17 := cA (cA c62_15)
def c62_23 := cA (cA (cB c62_15))
def c62_24 := cB (cB c62_15)
def c62_25 := cB (cB (cB (cB c62_0)))
def c62_26 := cA c62_25
theorem c62_6_r : RG (E0 mm) 62 c62_6 := rgN rfl
def L62_0 : List (Nat × Co) := [(0, .keep), (3, .keep), (4, .keep)]
abbrev R62 := (Int × List Int)
def e62 (x : R62) : AV × Heap := (vd (dI x.1), [.cells (enI x.2)])
def j62_25 (m3 : Int) (h0 : List Int) : Option R62 :=
  some (m3, h0)
def K62_14 (mm : Int) (r : Option (Ex × St)) : Option (AV × Heap) := bodyD (E0 mm) [.tmp 2] 1 false (sq (E0 mm) 62 1 c62_25 (blockD 0 (r)))
def en62_14 (x : (Int × Int × List Int)) : X := (none, [.v (.c (.slc 0 0 1 x.2.2.length none)), vd (dI x.1), vd (dI x.2.1)], [.cells (enI x.2.2)])
def k62 (mm : Int) := Q (rx c62_26) (Q (rx c62_17) (Q (rx c62_23) (Q @enI_length (Q @enI_load (Q (rx c62_24) (Q @K62_14.eq_1 (Q (rx c62_1) (Q (rx c62_4) (Q @c62_6_r (Q (runOps_dead (E := (E0 mm)) (call := callW (E0 mm)) (all := opsOf c62_6) (os := opsOf c62_6) (by kernel_rfl)) (Q (rx c62_9) (Q (fun l => enI_load0 l 0) (Q (rx c62_12) (Q (fun mm => lx (E0 mm) 62 c62_14 c62_15 L62_0) (Q (nE c62_0 (.seq c62_1 (.seq (.seq c62_4 (.cond _ c62_6 .skip)) (.seq c62_9 (.seq (.seq c62_12 (.block 0 c62_14)) c62_25))))) (Q (nE c62_15 (.seq (.seq c62_17 (.cond _ .skip (.exit 0))) (.seq (.block 1 c62_23) c62_24))) (Q @en62_14.eq_1 (Q @L62_0.eq_1 hA))))))))))))))))))
theorem j62_25_t (m3 : Int) (h0 : List Int)  (sl : Sl) (_ : sl 3 = vd (dI m3)) :
    bodyD (E0 mm) [.tmp 2] 1 false (dn (E0 mm) 62 1 c62_25 sl [.cells (enI h0)]) = (j62_25 m3 h0).map e62 := by
  unfold j62_25; exact go (Q (nE c62_25 (.seq c62_26 .ret)) (k62 mm)) trivial
def s62_14 (m3 i4 : Int) (h0 : List Int) : Option ((Int × Int × List Int) ⊕ R62) :=
  if (decide (i4 < (h0.length : Int))) = true then
    if 0 ≤ i4 ∧ i4 < (h0.length : Int) then
      some (.inl ((min2 m3 (h0.getD i4.toNat default)), (w64 (i4 + 1)), h0))
    else none
  else
    (j62_25 m3 h0).map .inr
theorem s62_14_t (m3 i4 : Int) (h0 : List Int) :
    stepE (K62_14 mm) (lp (E0 mm) 62 1 c62_15 L62_0 (en62_14 (m3, i4, h0))) = (s62_14 m3 i4 h0).map (sm en62_14 e62) := by
  unfold s62_14; exact go (k62 mm) @j62_25_t
def l62_14 (m3 i4 : Int) (h0 : List Int) : Option R62 := iter (fun x : (Int × Int × List Int) => s62_14 x.1 x.2.1 x.2.2) (m3, i4, h0)
theorem l62_14_t (m3 i4 : Int) (h0 : List Int) : (K62_14 mm) (itW (lp (E0 mm) 62 1 c62_15 L62_0) (en62_14 (m3, i4, h0))) = (l62_14 m3 i4 h0).map e62 :=
  it_sim (K := (K62_14 mm)) rfl (enc := en62_14) (fun x => s62_14_t x.1 x.2.1 x.2.2) (m3, i4, h0)
def m62 (h0 : List Int) : Option R62 :=
  if (decide ((h0.length : Int) < 1)) = true then
    none
  else
    if (0 : Int) < (h0.length : Int) then
      l62_14 (h0.getD 0 default) (1 : Int) h0
    else none
theorem f62_t (h0 : List Int) :
    callW (E0 mm) 62 [.c (.slc 0 0 1 h0.length none)] [.cells (enI h0)] = (m62 h0).map e62 := by
  rw [cR c62_0 [.tmp 2] Tryz.func62]
  unfold m62; exact go (k62 mm) @l62_14_t
noncomputable def c61_0 : Code := bodyOf Tryz.f61
def c61_1 := cA c61_0
def c61_3 := cA (cB c61_0)
def c61_6 := cA (cA (cB (cB c61_0)))
def c61_8 := cA (cB (cA (cB (cB c61_0))))
def c61_9 := cA c61_8
def c61_10 := cA c61_9
def c61_15 := cB (cB c61_9)
def c61_18 := cA (cA (cA c61_15))
def c61_19 := cB (cA (cA c61_15))
def c61_20 := cB c61_15
def c61_21 := cB (cB (cB c61_0))
def c61_23 := cA (cA c61_21)
def c61_26 := cA (cA (cB (cA c61_21)))
def c61_30 := cA (cB c61_21)
def L61_0 : List (Nat × Co) := [(1, .keep), (5, .keep), (8, .keep), (9, .keep), (10, .keep)]
abbrev b61 (mm : Int) := bodyD (E0 mm) [.tmp 4] 0 false
abbrev R61 := (Int)
def e61 (x : R61) : AV × Heap := (vd (dI x), [])
def j61_20 (t8_0 : Bool) (t8_1 : List Bs) (t9 t10 : Int) (h1 : List Int) : Option (((Bool × List Bs × Int × Int) ⊕ (Bool × List Bs × Int × Int × List Int)) ⊕ R61) :=
  some (.inl (.inr (t8_0, t8_1, t9, (w64 (t10 + 1)), h1)))
def K61_8 (mm : Int) (r : Option (Ex × St)) : Option (AV × Heap) := b61 mm (sq (E0 mm) 61 0 c61_21 (blockD 0 (r)))
def en61_8 : ((Bool × List Bs × Int × Int) ⊕ (Bool × List Bs × Int × Int × List Int)) → X := fun x => match x with
  | (.inl x) => (none, [vd (.sc (.func (.func 62) #[] #[])), vd (.lst true []), vd (.lst x.1 (enL enS x.2.1)), vd (dI x.2.2.1), vd (dI x.2.2.2)], [])
  | (.inr x) => (none, [vd (.sc (.func (.func 62) #[] #[])), .v (.c (.slc 0 0 1 x.2.2.2.2.length none)), vd (.lst x.1 (enL enS x.2.1)), vd (dI x.2.2.1), vd (dI x.2.2.2.1)], [.cells (enI x.2.2.2.2)])
def k61 := Q (rx c61_18) (Q (rx c61_19) (Q @ent109 (Q @prm109 (Q @f109_t (Q @e109.eq_1 (Q @hd59 (Q @nv60 (Q @rw61 (Q @nh62 (Q @enI_length (Q @enI1_src (Q @ah78hnil (Q (rx c61_23) (Q (rx c61_26) (Q (rx c61_10) (Q @K61_8.eq_1 (Q @ah78hslc (Q (rx c61_30) (Q @ent62 (Q @prm62 (Q @f62_t (Q @e62.eq_1 (Q (rx c61_1) (Q (rx c61_3) (Q (rx c61_6) (Q (fun mm => lx (E0 mm) 61 c61_8 c61_9 L61_0) (Q (nE c61_0 (.seq c61_1 (.seq c61_3 (.seq (.seq c61_6 (.block 0 c61_8)) c61_21)))) (Q (nE c61_9 (.seq c61_10 (.seq (.cond _ .skip (.exit 0)) c61_15))) (Q @L61_0.eq_1 hA)))))))))))))))))))))))))))))
theorem j61_20_t (t8_0 : Bool) (t8_1 : List Bs) (t9 t10 : Int) (h1 : List Int) (g0 : Ob) (sl : Sl) (_ : sl 1 = vd (.sc (.func (.func 62) #[] #[]))) (_ : sl 5 = .v (.c (.slc 1 0 1 h1.length none))) (_ : sl 8 = vd (.lst t8_0 (enL enS t8_1))) (_ : sl 9 = vd (dI t9)) (_ : sl 10 = vd (dI t10)) :
    stepE (K61_8 mm) (loopK 0 L61_0 (dn (E0 mm) 61 0 c61_20 sl [g0, .cells (enI h1)])) = (j61_20 t8_0 t8_1 t9 t10 h1).map (sm en61_8 e61) := by
  unfold j61_20; exact go (Q (rx c61_20) k61) trivial
def j61_15 (t8_0 : Bool) (t8_1 : List Bs) (t9 t10 : Int) : Option (((Bool × List Bs × Int × Int) ⊕ (Bool × List Bs × Int × Int × List Int)) ⊕ R61) :=
  if 0 ≤ t10 ∧ t10 < (t8_1.length : Int) then
    (m109 (t8_1.getD t10.toNat default)).bind fun yr5 =>
      j61_20 t8_0 t8_1 t9 t10 ([yr5] : List Int)
  else none
theorem j61_15_t (t8_0 : Bool) (t8_1 : List Bs) (t9 t10 : Int)  (sl : Sl) (_ : sl 1 = vd (.sc (.func (.func 62) #[] #[]))) (_ : sl 5 = vd (.lst true [])) (_ : sl 8 = vd (.lst t8_0 (enL enS t8_1))) (_ : sl 9 = vd (dI t9)) (_ : sl 10 = vd (dI t10)) :
    stepE (K61_8 mm) (loopK 0 L61_0 (dn (E0 mm) 61 0 c61_15 sl [])) = (j61_15 t8_0 t8_1 t9 t10).map (sm en61_8 e61) := by
  unfold j61_15; exact go (Q (nE c61_15 (.seq (.block 1 (.seq c61_18 c61_19)) c61_20)) k61) @j61_20_t
def j61_21  : Option R61 :=
  some (-1 : Int)
theorem j61_21_t (sl : Sl) (_ : sl 1 = vd (.sc (.func (.func 62) #[] #[]))) (_ : sl 5 = vd (.lst true [])) :
    b61 mm (dn (E0 mm) 61 0 c61_21 sl []) = (j61_21).map e61 := by
  unfold j61_21; exact go (Q (nE c61_21 (.seq (.seq c61_23 (.cond _ (.seq c61_26 .ret) .skip)) (.seq c61_30 .ret))) k61) trivial
def s61_8x0 (t8_0 : Bool) (t8_1 : List Bs) (t9 t10 : Int) : Option (((Bool × List Bs × Int × Int) ⊕ (Bool × List Bs × Int × Int × List Int)) ⊕ R61) :=
  if (decide (t10 < t9)) = true then
    j61_15 t8_0 t8_1 t9 t10
  else
    (j61_21).map .inr
theorem s61_8x0_t (t8_0 : Bool) (t8_1 : List Bs) (t9 t10 : Int) :
    stepE (K61_8 mm) (lp (E0 mm) 61 0 c61_9 L61_0 (none, [vd (.sc (.func (.func 62) #[] #[])), vd (.lst true []), vd (.lst t8_0 (enL enS t8_1)), vd (dI t9), vd (dI t10)], [])) = (s61_8x0 t8_0 t8_1 t9 t10).map (sm en61_8 e61) := by
  unfold s61_8x0; exact go k61 (Q @j61_15_t @j61_21_t)
def j61_20v1 (t8_0 : Bool) (t8_1 : List Bs) (t9 t10 : Int) (h2 : List Int) : Option (((Bool × List Bs × Int × Int) ⊕ (Bool × List Bs × Int × Int × List Int)) ⊕ R61) :=
  some (.inl (.inr (t8_0, t8_1, t9, (w64 (t10 + 1)), h2)))
theorem j61_20v1_t (t8_0 : Bool) (t8_1 : List Bs) (t9 t10 : Int) (h2 : List Int) (g0 g1 : Ob) (sl : Sl) (_ : sl 1 = vd (.sc (.func (.func 62) #[] #[]))) (_ : sl 5 = .v (.c (.slc 2 0 1 h2.length none))) (_ : sl 8 = vd (.lst t8_0 (enL enS t8_1))) (_ : sl 9 = vd (dI t9)) (_ : sl 10 = vd (dI t10)) :
    stepE (K61_8 mm) (loopK 0 L61_0 (dn (E0 mm) 61 0 c61_20 sl [g0, g1, .cells (enI h2)])) = (j61_20v1 t8_0 t8_1 t9 t10 h2).map (sm en61_8 e61) := by
  unfold j61_20v1; exact go (Q (rx c61_20) k61) trivial
def j61_15v1 (t8_0 : Bool) (t8_1 : List Bs) (t9 t10 : Int) (h0 : List Int) : Option (((Bool × List Bs × Int × Int) ⊕ (Bool × List Bs × Int × Int × List Int)) ⊕ R61) :=
  if 0 ≤ t10 ∧ t10 < (t8_1.length : Int) then
    (m109 (t8_1.getD t10.toNat default)).bind fun yr10 =>
      if (h0.length + 1) * 8 ≤ 140737488355328 then
        j61_20v1 t8_0 t8_1 t9 t10 (h0 ++ ([yr10] : List Int))
      else none
  else none
theorem j61_15v1_t (t8_0 : Bool) (t8_1 : List Bs) (t9 t10 : Int) (h0 : List Int)  (sl : Sl) (_ : sl 1 = vd (.sc (.func (.func 62) #[] #[]))) (_ : sl 5 = .v (.c (.slc 0 0 1 h0.length none))) (_ : sl 8 = vd (.lst t8_0 (enL enS t8_1))) (_ : sl 9 = vd (dI t9)) (_ : sl 10 = vd (dI t10)) :
    stepE (K61_8 mm) (loopK 0 L61_0 (dn (E0 mm) 61 0 c61_15 sl [.cells (enI h0)])) = (j61_15v1 t8_0 t8_1 t9 t10 h0).map (sm en61_8 e61) := by
  unfold j61_15v1; exact go (Q (nE c61_15 (.seq (.block 1 (.seq c61_18 c61_19)) c61_20)) k61) @j61_20v1_t
def j61_21v1 (h0 : List Int) : Option R61 :=
  if ((h0.length : Int) == 0) = true then
    some (-1 : Int)
  else
    (m62 h0).bind fun yr14 =>
      some yr14.1
theorem j61_21v1_t (h0 : List Int)  (sl : Sl) (_ : sl 1 = vd (.sc (.func (.func 62) #[] #[]))) (_ : sl 5 = .v (.c (.slc 0 0 1 h0.length none))) :
    b61 mm (dn (E0 mm) 61 0 c61_21 sl [.cells (enI h0)]) = (j61_21v1 h0).map e61 := by
  unfold j61_21v1; exact go (Q (nE c61_21 (.seq (.seq c61_23 (.cond _ (.seq c61_26 .ret) .skip)) (.seq c61_30 .ret))) k61) trivial
def s61_8x1 (t8_0 : Bool) (t8_1 : List Bs) (t9 t10 : Int) (h0 : List Int) : Option (((Bool × List Bs × Int × Int) ⊕ (Bool × List Bs × Int × Int × List Int)) ⊕ R61) :=
  if (decide (t10 < t9)) = true then
    j61_15v1 t8_0 t8_1 t9 t10 h0
  else
    (j61_21v1 h0).map .inr
theorem s61_8x1_t (t8_0 : Bool) (t8_1 : List Bs) (t9 t10 : Int) (h0 : List Int) :
    stepE (K61_8 mm) (lp (E0 mm) 61 0 c61_9 L61_0 (none, [vd (.sc (.func (.func 62) #[] #[])), .v (.c (.slc 0 0 1 h0.length none)), vd (.lst t8_0 (enL enS t8_1)), vd (dI t9), vd (dI t10)], [.cells (enI h0)])) = (s61_8x1 t8_0 t8_1 t9 t10 h0).map (sm en61_8 e61) := by
  unfold s61_8x1; exact go k61 (Q @j61_15v1_t @j61_21v1_t)
def s61_8 : ((Bool × List Bs × Int × Int) ⊕ (Bool × List Bs × Int × Int × List Int)) → Option (((Bool × List Bs × Int × Int) ⊕ (Bool × List Bs × Int × Int × List Int)) ⊕ R61) := fun x => match x with
  | (.inl x) => s61_8x0 x.1 x.2.1 x.2.2.1 x.2.2.2
  | (.inr x) => s61_8x1 x.1 x.2.1 x.2.2.1 x.2.2.2.1 x.2.2.2.2
def l61_8 (t8_0 : Bool) (t8_1 : List Bs) (t9 t10 : Int) : Option R61 := iter s61_8 (.inl (t8_0, t8_1, t9, t10))
theorem l61_8_t (t8_0 : Bool) (t8_1 : List Bs) (t9 t10 : Int) : b61 mm (sq (E0 mm) 61 0 c61_21 (blockD 0 (itW (lp (E0 mm) 61 0 c61_9 L61_0) (none, [vd (.sc (.func (.func 62) #[] #[])), vd (.lst true []), vd (.lst t8_0 (enL enS t8_1)), vd (dI t9), vd (dI t10)], [])))) = (l61_8 t8_0 t8_1 t9 t10).map e61 :=
  it_sim (K := (K61_8 mm)) rfl (enc := en61_8) (fun x => match x with
  | (.inl x) => s61_8x0_t x.1 x.2.1 x.2.2.1 x.2.2.2
  | (.inr x) => s61_8x1_t x.1 x.2.1 x.2.2.1 x.2.2.2.1 x.2.2.2.2) (.inl (t8_0, t8_1, t9, t10))
def m61 (values_0 : Bool) (values_1 : List Bs) : Option R61 :=
  l61_8 values_0 values_1 (values_1.length : Int) (0 : Int)
theorem f61_t (values_0 : Bool) (values_1 : List Bs) :
    callW (E0 mm) 61 [cd (.lst values_0 (enL enS values_1)), cd (.sc (.func (.func 62) #[] #[]))] [] = (m61 values_0 values_1).map e61 := by
  rw [cR c61_0 [.tmp 4] Tryz.func61]
  unfold m61; exact go k61 @l61_8_t
noncomputable def c127_0 : Code := bodyOf Tryz.f127
def c127_1 := cA c127_0
def c127_3 := cA (cB c127_0)
def c127_6 := cA (cA (cB (cB c127_0)))
def c127_7 := cA c127_6
def c127_9 := cA (cA c127_7)
def c127_10 := cB (cA c127_7)
def c127_13 := cB c127_7
def c127_16 := cA (cA (cA c127_13))
def c127_18 := cA (cB (cA (cA c127_13)))
def c127_20 := cB (cA c127_13)
def c127_21 := cB (cB (cB c127_0))
def c127_23 := cA (cA c127_21)
def c127_26 := cA (cA (cB (cA c127_21)))
def c127_30 := cA (cB c127_21)
def L127_0 : List (Nat × Co) := [(0, .keep), (1, .keep)]
abbrev R127 := (Int)
def e127 (x : R127) : AV × Heap := (vd (dI x), [])
def j127_20 (s0 : Bs) (at1 : Int) : Option ((Bs × Int) ⊕ R127) :=
  some (.inl (s0, (w64 (at1 + 1))))
def K127_6 (mm : Int) (r : Option (Ex × St)) : Option (AV × Heap) := bodyD (E0 mm) [.tmp 4] 0 false (sq (E0 mm) 127 0 c127_21 (blockD 0 (r)))
def en127_6 (x : (Bs × Int)) : X := (none, [vd (dS x.1), vd (dI x.2)], [])
def k127 := Q (rx c127_23) (Q (rx c127_26) (Q (rx c127_30) (Q (rx c127_16) (Q (rx c127_18) (Q @K127_6.eq_1 (Q (rx c127_9) (Q (rx c127_1) (Q (rx c127_3) (Q (fun mm => lx (E0 mm) 127 c127_6 c127_7 L127_0) (Q (nE c127_0 (.seq c127_1 (.seq c127_3 (.seq (.block 0 c127_6) c127_21)))) (Q (nE c127_7 (.seq (.seq c127_9 c127_10) c127_13)) (Q (nE c127_13 (.block 1 (.seq (.seq c127_16 (.cond _ c127_18 .skip)) c127_20))) (Q @en127_6.eq_1 (Q @L127_0.eq_1 hA))))))))))))))
theorem j127_20_t (s0 : Bs) (at1 : Int)  (sl : Sl) (_ : sl 0 = vd (dS s0)) (_ : sl 1 = vd (dI at1)) :
    stepE (K127_6 mm) (loopK 0 L127_0 (blockD 1 (dn (E0 mm) 127 0 c127_20 sl []))) = (j127_20 s0 at1).map (sm en127_6 e127) := by
  unfold j127_20; exact go (Q (rx c127_20) k127) trivial
def j127_21 (s0 : Bs) (at1 : Int) : Option R127 :=
  if (decide ((s0.length : Int) ≤ at1)) = true then
    some (s0.length : Int)
  else
    some (w64 (at1 + 1))
theorem j127_21_t (s0 : Bs) (at1 : Int)  (sl : Sl) (_ : sl 0 = vd (dS s0)) (_ : sl 1 = vd (dI at1)) :
    bodyD (E0 mm) [.tmp 4] 0 false (dn (E0 mm) 127 0 c127_21 sl []) = (j127_21 s0 at1).map e127 := by
  unfold j127_21; exact go (Q (nE c127_21 (.seq (.seq c127_23 (.cond _ (.seq c127_26 .ret) .skip)) (.seq c127_30 .ret))) k127) trivial
def j127_10 (s0 : Bs) (at1 : Int) (t16 : Bool) : Option ((Bs × Int) ⊕ R127) :=
  if t16 = true then
    if 0 ≤ at1 ∧ at1 < (s0.length : Int) then
      if ((s0.getD at1.toNat 0) == (92 : UInt8)) = true then
        j127_20 s0 (w64 (at1 + 1))
      else
        j127_20 s0 at1
    else none
  else
    (j127_21 s0 at1).map .inr
theorem j127_10_t (s0 : Bs) (at1 : Int) (t16 : Bool)  (sl : Sl) (_ : sl 0 = vd (dS s0)) (_ : sl 1 = vd (dI at1)) (_ : sl 16 = vd (dB t16)) :
    stepE (K127_6 mm) (loopK 0 L127_0 (sq (E0 mm) 127 0 c127_13 (dn (E0 mm) 127 0 c127_10 sl []))) = (j127_10 s0 at1 t16).map (sm en127_6 e127) := by
  unfold j127_10; exact go (Q (nE c127_10 (.cond _ .skip (.exit 0))) k127) (Q @j127_20_t @j127_21_t)
def s127_6 (s0 : Bs) (at1 : Int) : Option ((Bs × Int) ⊕ R127) :=
  if (decide (at1 < (s0.length : Int))) = true then
    if 0 ≤ at1 ∧ at1 < (s0.length : Int) then
      j127_10 s0 at1 (!((s0.getD at1.toNat 0) == (34 : UInt8)))
    else none
  else
    j127_10 s0 at1 false
theorem s127_6_t (s0 : Bs) (at1 : Int) :
    stepE (K127_6 mm) (lp (E0 mm) 127 0 c127_7 L127_0 (en127_6 (s0, at1))) = (s127_6 s0 at1).map (sm en127_6 e127) := by
  unfold s127_6; exact go k127 @j127_10_t
def l127_6 (s0 : Bs) (at1 : Int) : Option R127 := iter (fun x : (Bs × Int) => s127_6 x.1 x.2) (s0, at1)
theorem l127_6_t (s0 : Bs) (at1 : Int) : (K127_6 mm) (itW (lp (E0 mm) 127 0 c127_7 L127_0) (en127_6 (s0, at1))) = (l127_6 s0 at1).map e127 :=
  it_sim (K := (K127_6 mm)) rfl (enc := en127_6) (fun x => s127_6_t x.1 x.2) (s0, at1)
def m127 (s : Bs) (xat : Int) : Option R127 :=
  l127_6 s (w64 (xat + 1))
theorem f127_t (s : Bs) (xat : Int) :
    callW (E0 mm) 127 [cd (dS s), cd (dI xat)] [] = (m127 s xat).map e127 := by
  rw [cR c127_0 [.tmp 4] Tryz.func127]
  unfold m127; exact go k127 @l127_6_t
noncomputable def c128_0 : Code := bodyOf Tryz.f128
def c128_1 := cA c128_0
def c128_3 := cA (cB c128_0)
def c128_6 := cA (cA (cB (cB c128_0)))
def c128_7 := cA c128_6
def c128_9 := cA (cA c128_7)
def c128_10 := cB (cA c128_7)
def c128_13 := cB c128_7
def c128_14 := cA c128_13
def c128_15 := cB (cB (cB c128_0))
def c128_17 := cA (cA c128_15)
def c128_18 := cA c128_17
def c128_20 := cA (cA c128_18)
def c128_21 := cB (cA c128_18)
def c128_24 := cB c128_18
def c128_25 := cA c128_24
def c128_26 := cB c128_15
def c128_27 := cA c128_26
def L128_0 : List (Nat × Co) := [(0, .keep), (3, .keep), (4, .keep)]
abbrev b128 (mm : Int) := bodyD (E0 mm) [.tmp 2] 0 false
abbrev R128 := (Bs)
def e128 (x : R128) : AV × Heap := (vd (dS x), [])
def j128_26 (s0 : Bs) (from3 to4 : Int) : Option R128 :=
  (bnd to4 s0.length).bind fun yk10 =>
    (bnd from3 yk10).bind fun yk12 =>
      some ((s0.take yk10).drop yk12)
def K128_6 (mm : Int) (r : Option (Ex × St)) : Option (AV × Heap) := b128 mm (sq (E0 mm) 128 0 c128_15 (blockD 0 (r)))
def en128_6 (x : (Bs × Int × Int)) : X := (none, [vd (dS x.1), vd (dI x.2.1), vd (dI x.2.2)], [])
def K128_17 (mm : Int) (r : Option (Ex × St)) : Option (AV × Heap) := b128 mm (sq (E0 mm) 128 0 c128_26 (blockD 2 (r)))
def en128_17 (x : (Bs × Int × Int)) : X := (none, [vd (dS x.1), vd (dI x.2.1), vd (dI x.2.2)], [])
def k128 := Q (rx c128_27) (Q (rx c128_25) (Q @K128_17.eq_1 (Q (rx c128_20) (Q (fun mm => lx (E0 mm) 128 c128_17 c128_18 L128_0) (Q (rx c128_14) (Q @K128_6.eq_1 (Q (rx c128_9) (Q (rx c128_1) (Q (rx c128_3) (Q (fun mm => lx (E0 mm) 128 c128_6 c128_7 L128_0) (Q (nE c128_0 (.seq c128_1 (.seq c128_3 (.seq (.block 0 c128_6) c128_15)))) (Q (nE c128_7 (.seq (.seq c128_9 c128_10) c128_13)) (Q (nE c128_13 (.block 1 c128_14)) (Q (nE c128_18 (.seq (.seq c128_20 c128_21) c128_24)) (Q (nE c128_24 (.block 3 c128_25)) (Q @en128_6.eq_1 (Q @en128_17.eq_1 (Q @L128_0.eq_1 hA))))))))))))))))))
theorem j128_26_t (s0 : Bs) (from3 to4 : Int)  (sl : Sl) (_ : sl 0 = vd (dS s0)) (_ : sl 3 = vd (dI from3)) (_ : sl 4 = vd (dI to4)) :
    b128 mm (dn (E0 mm) 128 0 c128_26 sl []) = (j128_26 s0 from3 to4).map e128 := by
  unfold j128_26; exact go (Q (nE c128_26 (.seq c128_27 .ret)) k128) trivial
def j128_21 (s0 : Bs) (from3 to4 : Int) (t40 : Bool) : Option ((Bs × Int × Int) ⊕ R128) :=
  if t40 = true then
    some (.inl (s0, from3, (w64 (to4 - 1))))
  else
    (j128_26 s0 from3 to4).map .inr
theorem j128_21_t (s0 : Bs) (from3 to4 : Int) (t40 : Bool)  (sl : Sl) (_ : sl 0 = vd (dS s0)) (_ : sl 3 = vd (dI from3)) (_ : sl 4 = vd (dI to4)) (_ : sl 40 = vd (dB t40)) :
    stepE (K128_17 mm) (loopK 0 L128_0 (sq (E0 mm) 128 0 c128_24 (dn (E0 mm) 128 0 c128_21 sl []))) = (j128_21 s0 from3 to4 t40).map (sm en128_17 e128) := by
  unfold j128_21; exact go (Q (nE c128_21 (.cond _ .skip (.exit 2))) k128) @j128_26_t
def s128_17 (s0 : Bs) (from3 to4 : Int) : Option ((Bs × Int × Int) ⊕ R128) :=
  if (decide (from3 < to4)) = true then
    if 0 ≤ (w64 (to4 - 1)) ∧ (w64 (to4 - 1)) < (s0.length : Int) then
      if ((s0.getD (w64 (to4 - 1)).toNat 0) == (32 : UInt8)) = true then
        j128_21 s0 from3 to4 true
      else
        j128_21 s0 from3 to4 ((s0.getD (w64 (to4 - 1)).toNat 0) == (9 : UInt8))
    else none
  else
    j128_21 s0 from3 to4 false
theorem s128_17_t (s0 : Bs) (from3 to4 : Int) :
    stepE (K128_17 mm) (lp (E0 mm) 128 0 c128_18 L128_0 (en128_17 (s0, from3, to4))) = (s128_17 s0 from3 to4).map (sm en128_17 e128) := by
  unfold s128_17; exact go k128 @j128_21_t
def l128_17 (s0 : Bs) (from3 to4 : Int) : Option R128 := iter (fun x : (Bs × Int × Int) => s128_17 x.1 x.2.1 x.2.2) (s0, from3, to4)
theorem l128_17_t (s0 : Bs) (from3 to4 : Int) : (K128_17 mm) (itW (lp (E0 mm) 128 0 c128_18 L128_0) (en128_17 (s0, from3, to4))) = (l128_17 s0 from3 to4).map e128 :=
  it_sim (K := (K128_17 mm)) rfl (enc := en128_17) (fun x => s128_17_t x.1 x.2.1 x.2.2) (s0, from3, to4)
def j128_15 (s0 : Bs) (from3 to4 : Int) : Option R128 :=
  l128_17 s0 from3 to4
theorem j128_15_t (s0 : Bs) (from3 to4 : Int)  (sl : Sl) (_ : sl 0 = vd (dS s0)) (_ : sl 3 = vd (dI from3)) (_ : sl 4 = vd (dI to4)) :
    b128 mm (dn (E0 mm) 128 0 c128_15 sl []) = (j128_15 s0 from3 to4).map e128 := by
  unfold j128_15; exact go (Q (nE c128_15 (.seq (.block 2 c128_17) c128_26)) k128) @l128_17_t
def j128_10 (s0 : Bs) (from3 to4 : Int) (t21 : Bool) : Option ((Bs × Int × Int) ⊕ R128) :=
  if t21 = true then
    some (.inl (s0, (w64 (from3 + 1)), to4))
  else
    (j128_15 s0 from3 to4).map .inr
theorem j128_10_t (s0 : Bs) (from3 to4 : Int) (t21 : Bool)  (sl : Sl) (_ : sl 0 = vd (dS s0)) (_ : sl 3 = vd (dI from3)) (_ : sl 4 = vd (dI to4)) (_ : sl 21 = vd (dB t21)) :
    stepE (K128_6 mm) (loopK 0 L128_0 (sq (E0 mm) 128 0 c128_13 (dn (E0 mm) 128 0 c128_10 sl []))) = (j128_10 s0 from3 to4 t21).map (sm en128_6 e128) := by
  unfold j128_10; exact go (Q (nE c128_10 (.cond _ .skip (.exit 0))) k128) @j128_15_t
def s128_6 (s0 : Bs) (from3 to4 : Int) : Option ((Bs × Int × Int) ⊕ R128) :=
  if (decide (from3 < to4)) = true then
    if 0 ≤ from3 ∧ from3 < (s0.length : Int) then
      if ((s0.getD from3.toNat 0) == (32 : UInt8)) = true then
        j128_10 s0 from3 to4 true
      else
        j128_10 s0 from3 to4 ((s0.getD from3.toNat 0) == (9 : UInt8))
    else none
  else
    j128_10 s0 from3 to4 false
theorem s128_6_t (s0 : Bs) (from3 to4 : Int) :
    stepE (K128_6 mm) (lp (E0 mm) 128 0 c128_7 L128_0 (en128_6 (s0, from3, to4))) = (s128_6 s0 from3 to4).map (sm en128_6 e128) := by
  unfold s128_6; exact go k128 @j128_10_t
def l128_6 (s0 : Bs) (from3 to4 : Int) : Option R128 := iter (fun x : (Bs × Int × Int) => s128_6 x.1 x.2.1 x.2.2) (s0, from3, to4)
theorem l128_6_t (s0 : Bs) (from3 to4 : Int) : (K128_6 mm) (itW (lp (E0 mm) 128 0 c128_7 L128_0) (en128_6 (s0, from3, to4))) = (l128_6 s0 from3 to4).map e128 :=
  it_sim (K := (K128_6 mm)) rfl (enc := en128_6) (fun x => s128_6_t x.1 x.2.1 x.2.2) (s0, from3, to4)
def m128 (s : Bs) : Option R128 :=
  l128_6 s (0 : Int) (s.length : Int)
theorem f128_t (s : Bs) :
    callW (E0 mm) 128 [cd (dS s)] [] = (m128 s).map e128 := by
  rw [cR c128_0 [.tmp 2] Tryz.func128]
  unfold m128; exact go k128 @l128_6_t
noncomputable def c96_0 : Code := bodyOf Tryz.f96
def c96_1 := cA c96_0
def c96_3 := cA (cB c96_0)
def c96_5 := cA (cB (cB c96_0))
def c96_8 := cA (cA (cB (cB (cB c96_0))))
def c96_10 := cA (cB (cA (cB (cB (cB c96_0)))))
def c96_11 := cA c96_10
def c96_13 := cA (cA c96_11)
def c96_20 := cA (cA (cA (cB c96_11)))
def c96_21 := cB (cA (cA (cB c96_11)))
def c96_23 := cA (cA c96_21)
def c96_26 := cB (cA (cB c96_11))
def c96_28 := cA (cA c96_26)
def c96_29 := cB (cA c96_26)
def c96_31 := cA (cA c96_29)
def c96_34 := cA (cA (cB (cA c96_29)))
def c96_36 := cA (cB (cA (cB (cA c96_29))))
def c96_38 := cB (cB (cA c96_29))
def c96_40 := cB c96_26
def c96_41 := cB (cB (cB (cB c96_0)))
def c96_42 := cA c96_41
def L96_0 : List (Nat × Co) := [(0, .keep), (3, .own), (4, .keep), (5, .keep)]
abbrev R96 := (Bool × List Bs)
def e96 (x : R96) : AV × Heap := (.v (.c (.own x.1 (enL enS x.2) 0)), [.row x.2.length (rz x.1 1)])
def j96_40 (s0 : Bs) (l3_0 : Bool) (l3_1 : List Bs) (from4 at5 : Int) : Option ((Bs × Bool × List Bs × Int × Int) ⊕ R96) :=
  some (.inl (s0, l3_0, l3_1, from4, (w64 (at5 + 1))))
def K96_10 (mm : Int) (r : Option (Ex × St)) : Option (AV × Heap) := bodyD (E0 mm) [.tmp 2] 0 false (sq (E0 mm) 96 0 c96_41 (blockD 0 (r)))
def en96_10 (x : (Bs × Bool × List Bs × Int × Int)) : X := (none, [vd (dS x.1), .v (.c (.own x.2.1 (enL enS x.2.2.1) 0)), vd (dI x.2.2.2.1), vd (dI x.2.2.2.2)], [.row x.2.2.1.length (rz x.2.1 1)])
def k96 := Q (rx c96_31) (Q @ent128 (Q @prm128 (Q @f128_t (Q @e128.eq_1 (Q (rx c96_34) (Q (rx c96_36) (Q @hd67 (Q @nv68 (Q @rw69 (Q (rx c96_23) (Q @ent127 (Q @prm127 (Q @f127_t (Q @e127.eq_1 (Q (rx c96_28) (Q (rx c96_42) (Q (rx c96_13) (Q (rx c96_20) (Q @K96_10.eq_1 (Q (rx c96_1) (Q (rx c96_3) (Q (rx c96_5) (Q (rx c96_8) (Q (fun mm => lx (E0 mm) 96 c96_10 c96_11 L96_0) (Q (nE c96_0 (.seq c96_1 (.seq c96_3 (.seq c96_5 (.seq (.seq c96_8 (.block 0 c96_10)) c96_41))))) (Q (nE c96_11 (.seq (.seq c96_13 (.cond _ .skip (.exit 0))) (.block 1 (.seq (.seq c96_20 c96_21) c96_26)))) (Q (nE c96_26 (.seq (.seq c96_28 c96_29) c96_40)) (Q @en96_10.eq_1 (Q @L96_0.eq_1 hA)))))))))))))))))))))))))))))
theorem j96_40_t (s0 : Bs) (l3_0 : Bool) (l3_1 : List Bs) (from4 at5 : Int)  (sl : Sl) (_ : sl 0 = vd (dS s0)) (_ : sl 3 = .v (.c (.own l3_0 (enL enS l3_1) 0))) (_ : sl 4 = vd (dI from4)) (_ : sl 5 = vd (dI at5)) :
    stepE (K96_10 mm) (loopK 0 L96_0 (blockD 1 (dn (E0 mm) 96 0 c96_40 sl [.row l3_1.length (rz l3_0 1)]))) = (j96_40 s0 l3_0 l3_1 from4 at5).map (sm en96_10 e96) := by
  unfold j96_40; exact go (Q (rx c96_40) k96) trivial
def j96_38 (s0 : Bs) (l3_0 : Bool) (l3_1 : List Bs) (at5 : Int) : Option ((Bs × Bool × List Bs × Int × Int) ⊕ R96) :=
  j96_40 s0 l3_0 l3_1 (w64 (at5 + 1)) at5
theorem j96_38_t (s0 : Bs) (l3_0 : Bool) (l3_1 : List Bs) (at5 : Int)  (sl : Sl) (_ : sl 0 = vd (dS s0)) (_ : sl 3 = .v (.c (.own l3_0 (enL enS l3_1) 0))) (_ : sl 5 = vd (dI at5)) :
    stepE (K96_10 mm) (loopK 0 L96_0 (blockD 1 (sq (E0 mm) 96 0 c96_40 (dn (E0 mm) 96 0 c96_38 sl [.row l3_1.length (rz l3_0 1)])))) = (j96_38 s0 l3_0 l3_1 at5).map (sm en96_10 e96) := by
  unfold j96_38; exact go (Q (rx c96_38) k96) @j96_40_t
def j96_29 (s0 : Bs) (l3_0 : Bool) (l3_1 : List Bs) (from4 at5 : Int) (t33 : Bool) : Option ((Bs × Bool × List Bs × Int × Int) ⊕ R96) :=
  if t33 = true then
    (bnd at5 s0.length).bind fun yk10 =>
      (bnd from4 yk10).bind fun yk12 =>
        (m128 ((s0.take yk10).drop yk12)).bind fun yr14 =>
          if (yr14 == ([] : Bs)) = true then
            j96_38 s0 l3_0 l3_1 at5
          else
            if (l3_1.length + 1) * 16 ≤ 140737488355328 then
              j96_38 s0 false (l3_1 ++ ([yr14] : List Bs)) at5
            else none
  else
    j96_40 s0 l3_0 l3_1 from4 at5
theorem j96_29_t (s0 : Bs) (l3_0 : Bool) (l3_1 : List Bs) (from4 at5 : Int) (t33 : Bool)  (sl : Sl) (_ : sl 0 = vd (dS s0)) (_ : sl 3 = .v (.c (.own l3_0 (enL enS l3_1) 0))) (_ : sl 4 = vd (dI from4)) (_ : sl 5 = vd (dI at5)) (_ : sl 33 = vd (dB t33)) :
    stepE (K96_10 mm) (loopK 0 L96_0 (blockD 1 (sq (E0 mm) 96 0 c96_40 (dn (E0 mm) 96 0 c96_29 sl [.row l3_1.length (rz l3_0 1)])))) = (j96_29 s0 l3_0 l3_1 from4 at5 t33).map (sm en96_10 e96) := by
  unfold j96_29; exact go (Q (nE c96_29 (.cond _ (.seq c96_31 (.seq (.seq c96_34 (.cond _ c96_36 .skip)) c96_38)) .skip)) k96) (Q @j96_38_t @j96_40_t)
def j96_21 (s0 : Bs) (l3_0 : Bool) (l3_1 : List Bs) (from4 at5 : Int) (t20 : Bool) : Option ((Bs × Bool × List Bs × Int × Int) ⊕ R96) :=
  if t20 = true then
    (m127 s0 at5).bind fun yr6 =>
      some (.inl (s0, l3_0, l3_1, from4, yr6))
  else
    if (at5 == (s0.length : Int)) = true then
      j96_29 s0 l3_0 l3_1 from4 at5 true
    else
      if 0 ≤ at5 ∧ at5 < (s0.length : Int) then
        j96_29 s0 l3_0 l3_1 from4 at5 ((s0.getD at5.toNat 0) == (44 : UInt8))
      else none
theorem j96_21_t (s0 : Bs) (l3_0 : Bool) (l3_1 : List Bs) (from4 at5 : Int) (t20 : Bool)  (sl : Sl) (_ : sl 0 = vd (dS s0)) (_ : sl 3 = .v (.c (.own l3_0 (enL enS l3_1) 0))) (_ : sl 4 = vd (dI from4)) (_ : sl 5 = vd (dI at5)) (_ : sl 20 = vd (dB t20)) :
    stepE (K96_10 mm) (loopK 0 L96_0 (blockD 1 (sq (E0 mm) 96 0 c96_26 (dn (E0 mm) 96 0 c96_21 sl [.row l3_1.length (rz l3_0 1)])))) = (j96_21 s0 l3_0 l3_1 from4 at5 t20).map (sm en96_10 e96) := by
  unfold j96_21; exact go (Q (nE c96_21 (.cond _ (.seq c96_23 (.exit 1)) .skip)) k96) @j96_29_t
def j96_41 (l3_0 : Bool) (l3_1 : List Bs) : Option R96 :=
  some (l3_0, l3_1)
theorem j96_41_t (l3_0 : Bool) (l3_1 : List Bs)  (sl : Sl) (_ : sl 3 = .v (.c (.own l3_0 (enL enS l3_1) 0))) :
    bodyD (E0 mm) [.tmp 2] 0 false (dn (E0 mm) 96 0 c96_41 sl [.row l3_1.length (rz l3_0 1)]) = (j96_41 l3_0 l3_1).map e96 := by
  unfold j96_41; exact go (Q (nE c96_41 (.seq c96_42 .ret)) k96) trivial
def s96_10 (s0 : Bs) (l3_0 : Bool) (l3_1 : List Bs) (from4 at5 : Int) : Option ((Bs × Bool × List Bs × Int × Int) ⊕ R96) :=
  if (decide (at5 ≤ (s0.length : Int))) = true then
    if (decide (at5 < (s0.length : Int))) = true then
      if 0 ≤ at5 ∧ at5 < (s0.length : Int) then
        j96_21 s0 l3_0 l3_1 from4 at5 ((s0.getD at5.toNat 0) == (34 : UInt8))
      else none
    else
      j96_21 s0 l3_0 l3_1 from4 at5 false
  else
    (j96_41 l3_0 l3_1).map .inr
theorem s96_10_t (s0 : Bs) (l3_0 : Bool) (l3_1 : List Bs) (from4 at5 : Int) :
    stepE (K96_10 mm) (lp (E0 mm) 96 0 c96_11 L96_0 (en96_10 (s0, l3_0, l3_1, from4, at5))) = (s96_10 s0 l3_0 l3_1 from4 at5).map (sm en96_10 e96) := by
  unfold s96_10; exact go k96 (Q @j96_21_t @j96_41_t)
def l96_10 (s0 : Bs) (l3_0 : Bool) (l3_1 : List Bs) (from4 at5 : Int) : Option R96 := iter (fun x : (Bs × Bool × List Bs × Int × Int) => s96_10 x.1 x.2.1 x.2.2.1 x.2.2.2.1 x.2.2.2.2) (s0, l3_0, l3_1, from4, at5)
theorem l96_10_t (s0 : Bs) (l3_0 : Bool) (l3_1 : List Bs) (from4 at5 : Int) : (K96_10 mm) (itW (lp (E0 mm) 96 0 c96_11 L96_0) (en96_10 (s0, l3_0, l3_1, from4, at5))) = (l96_10 s0 l3_0 l3_1 from4 at5).map e96 :=
  it_sim (K := (K96_10 mm)) rfl (enc := en96_10) (fun x => s96_10_t x.1 x.2.1 x.2.2.1 x.2.2.2.1 x.2.2.2.2) (s0, l3_0, l3_1, from4, at5)
def m96 (s : Bs) : Option R96 :=
  l96_10 s true ([] : List Bs) (0 : Int) (0 : Int)
theorem f96_t (s : Bs) :
    callW (E0 mm) 96 [cd (dS s)] [] = (m96 s).map e96 := by
  rw [cR c96_0 [.tmp 2] Tryz.func96]
  unfold m96; exact go k96 @l96_10_t
noncomputable def c49_0 : Code := bodyOf Tryz.f49
def c49_1 := cA c49_0
def c49_3 := cA (cB c49_0)
def c49_6 := cA (cA (cB (cB c49_0)))
def c49_8 := cA (cB (cA (cB (cB c49_0))))
def c49_9 := cA c49_8
def c49_11 := cA (cA c49_9)
def c49_18 := cA (cA (cA (cB c49_9)))
def c49_20 := cA (cB (cA (cA (cB c49_9))))
def c49_22 := cB (cB c49_9)
def c49_23 := cB (cB (cB c49_0))
def c49_24 := cA c49_23
def L49_0 : List (Nat × Co) := [(0, .keep), (1, .keep), (5, .own), (6, .keep)]
abbrev R49 := (Bool × List Bs)
def e49 (x : R49) : AV × Heap := (.v (.c (.own x.1 (enL enS x.2) 0)), [.row x.2.length (rz x.1 1)])
def j49_22 (l0_0 : Bool) (l0_1 : List (Bs × Bs)) (name1 : Bs) (out5_0 : Bool) (out5_1 : List Bs) (i6 : Int) : Option ((Bool × List (Bs × Bs) × Bs × Bool × List Bs × Int) ⊕ R49) :=
  some (.inl (l0_0, l0_1, name1, out5_0, out5_1, (w64 (i6 + 1))))
def K49_8 (mm : Int) (r : Option (Ex × St)) : Option (AV × Heap) := bodyD (E0 mm) [.tmp 4] 0 false (sq (E0 mm) 49 0 c49_23 (blockD 0 (r)))
def en49_8 (x : (Bool × List (Bs × Bs) × Bs × Bool × List Bs × Int)) : X := (none, [vd (.lst x.1 (enL enSS x.2.1)), vd (dS x.2.2.1), .v (.c (.own x.2.2.2.1 (enL enS x.2.2.2.2.1) 0)), vd (dI x.2.2.2.2.2)], [.row x.2.2.2.2.1.length (rz x.2.2.2.1 1)])
def k49 := Q (rx c49_24) (Q (rx c49_11) (Q (rx c49_18) (Q @f95_t (Q @e95.eq_1 (Q (rx c49_20) (Q @ent96 (Q @prm96 (Q @f96_t (Q @e96.eq_1 (Q @hd70 (Q @K49_8.eq_1 (Q (rx c49_1) (Q (rx c49_3) (Q (rx c49_6) (Q (fun mm => lx (E0 mm) 49 c49_8 c49_9 L49_0) (Q (nE c49_0 (.seq c49_1 (.seq c49_3 (.seq (.seq c49_6 (.block 0 c49_8)) c49_23)))) (Q (nE c49_9 (.seq (.seq c49_11 (.cond _ .skip (.exit 0))) (.seq (.block 1 (.seq c49_18 (.cond _ c49_20 .skip))) c49_22))) (Q @en49_8.eq_1 (Q @L49_0.eq_1 hA)))))))))))))))))))
theorem j49_22_t (l0_0 : Bool) (l0_1 : List (Bs × Bs)) (name1 : Bs) (out5_0 : Bool) (out5_1 : List Bs) (i6 : Int) (g1 : Ob) (sl : Sl) (_ : sl 0 = vd (.lst l0_0 (enL enSS l0_1))) (_ : sl 1 = vd (dS name1)) (_ : sl 5 = .v (.c (.own out5_0 (enL enS out5_1) 0))) (_ : sl 6 = vd (dI i6)) :
    stepE (K49_8 mm) (loopK 0 L49_0 (dn (E0 mm) 49 0 c49_22 sl [.row out5_1.length (rz out5_0 1), g1])) = (j49_22 l0_0 l0_1 name1 out5_0 out5_1 i6).map (sm en49_8 e49) := by
  unfold j49_22; exact go (Q (rx c49_22) k49) trivial
def j49_22v1 (l0_0 : Bool) (l0_1 : List (Bs × Bs)) (name1 : Bs) (out5_0 : Bool) (out5_1 : List Bs) (i6 : Int) : Option ((Bool × List (Bs × Bs) × Bs × Bool × List Bs × Int) ⊕ R49) :=
  some (.inl (l0_0, l0_1, name1, out5_0, out5_1, (w64 (i6 + 1))))
theorem j49_22v1_t (l0_0 : Bool) (l0_1 : List (Bs × Bs)) (name1 : Bs) (out5_0 : Bool) (out5_1 : List Bs) (i6 : Int)  (sl : Sl) (_ : sl 0 = vd (.lst l0_0 (enL enSS l0_1))) (_ : sl 1 = vd (dS name1)) (_ : sl 5 = .v (.c (.own out5_0 (enL enS out5_1) 0))) (_ : sl 6 = vd (dI i6)) :
    stepE (K49_8 mm) (loopK 0 L49_0 (dn (E0 mm) 49 0 c49_22 sl [.row out5_1.length (rz out5_0 1)])) = (j49_22v1 l0_0 l0_1 name1 out5_0 out5_1 i6).map (sm en49_8 e49) := by
  unfold j49_22v1; exact go (Q (rx c49_22) k49) trivial
def j49_23 (out5_0 : Bool) (out5_1 : List Bs) : Option R49 :=
  some (out5_0, out5_1)
theorem j49_23_t (out5_0 : Bool) (out5_1 : List Bs)  (sl : Sl) (_ : sl 5 = .v (.c (.own out5_0 (enL enS out5_1) 0))) :
    bodyD (E0 mm) [.tmp 4] 0 false (dn (E0 mm) 49 0 c49_23 sl [.row out5_1.length (rz out5_0 1)]) = (j49_23 out5_0 out5_1).map e49 := by
  unfold j49_23; exact go (Q (nE c49_23 (.seq c49_24 .ret)) k49) trivial
def s49_8 (l0_0 : Bool) (l0_1 : List (Bs × Bs)) (name1 : Bs) (out5_0 : Bool) (out5_1 : List Bs) (i6 : Int) : Option ((Bool × List (Bs × Bs) × Bs × Bool × List Bs × Int) ⊕ R49) :=
  if (decide (i6 < (l0_1.length : Int))) = true then
    if 0 ≤ i6 ∧ i6 < (l0_1.length : Int) then
      (m95 ((l0_1.getD i6.toNat default).1) name1).bind fun yr5 =>
        if yr5 = true then
          (m96 ((l0_1.getD i6.toNat default).2)).bind fun yr8 =>
            if yr8.2 = [] ∨ (out5_1.length + yr8.2.length) * 16 ≤ 140737488355328 then
              j49_22 l0_0 l0_1 name1 (out5_0 && yr8.2.isEmpty) (out5_1 ++ yr8.2) i6
            else none
        else
          j49_22v1 l0_0 l0_1 name1 out5_0 out5_1 i6
    else none
  else
    (j49_23 out5_0 out5_1).map .inr
theorem s49_8_t (l0_0 : Bool) (l0_1 : List (Bs × Bs)) (name1 : Bs) (out5_0 : Bool) (out5_1 : List Bs) (i6 : Int) :
    stepE (K49_8 mm) (lp (E0 mm) 49 0 c49_9 L49_0 (en49_8 (l0_0, l0_1, name1, out5_0, out5_1, i6))) = (s49_8 l0_0 l0_1 name1 out5_0 out5_1 i6).map (sm en49_8 e49) := by
  unfold s49_8; exact go k49 (Q @j49_22_t (Q @j49_22v1_t @j49_23_t))
def l49_8 (l0_0 : Bool) (l0_1 : List (Bs × Bs)) (name1 : Bs) (out5_0 : Bool) (out5_1 : List Bs) (i6 : Int) : Option R49 := iter (fun x : (Bool × List (Bs × Bs) × Bs × Bool × List Bs × Int) => s49_8 x.1 x.2.1 x.2.2.1 x.2.2.2.1 x.2.2.2.2.1 x.2.2.2.2.2) (l0_0, l0_1, name1, out5_0, out5_1, i6)
theorem l49_8_t (l0_0 : Bool) (l0_1 : List (Bs × Bs)) (name1 : Bs) (out5_0 : Bool) (out5_1 : List Bs) (i6 : Int) : (K49_8 mm) (itW (lp (E0 mm) 49 0 c49_9 L49_0) (en49_8 (l0_0, l0_1, name1, out5_0, out5_1, i6))) = (l49_8 l0_0 l0_1 name1 out5_0 out5_1 i6).map e49 :=
  it_sim (K := (K49_8 mm)) rfl (enc := en49_8) (fun x => s49_8_t x.1 x.2.1 x.2.2.1 x.2.2.2.1 x.2.2.2.2.1 x.2.2.2.2.2) (l0_0, l0_1, name1, out5_0, out5_1, i6)
def m49 (l_0 : Bool) (l_1 : List (Bs × Bs)) (name : Bs) : Option R49 :=
  l49_8 l_0 l_1 name true ([] : List Bs) (0 : Int)
theorem f49_t (l_0 : Bool) (l_1 : List (Bs × Bs)) (name : Bs) :
    callW (E0 mm) 49 [cd (.lst l_0 (enL enSS l_1)), cd (dS name)] [] = (m49 l_0 l_1 name).map e49 := by
  rw [cR c49_0 [.tmp 4] Tryz.func49]
  unfold m49; exact go k49 @l49_8_t
noncomputable def c125_0 : Code := bodyOf Tryz.f125
def c125_1 := cA c125_0
def c125_3 := cA (cB c125_0)
def c125_6 := cA (cA (cB (cB c125_0)))
def c125_8 := cA (cB (cA (cB (cB c125_0))))
def c125_9 := cA c125_8
def c125_11 := cA (cA c125_9)
def c125_18 := cA (cA (cA (cB c125_9)))
def c125_20 := cA (cB (cA (cA (cB c125_9))))
def c125_21 := cB (cB (cA (cA (cB c125_9))))
def c125_23 := cA (cA c125_21)
def c125_25 := cA (cB (cA c125_21))
def c125_26 := cA c125_25
def c125_28 := cA (cA c125_26)
def c125_34 := cA (cA (cB c125_26))
def c125_35 := cB (cB c125_26)
def c125_36 := cB c125_21
def c125_37 := cA c125_36
def c125_40 := cA (cA (cB c125_36))
def c125_43 := cB (cB c125_9)
def c125_44 := cB (cB (cB c125_0))
def c125_45 := cA c125_44
def L125_0 : List (Nat × Co) := [(0, .keep), (3, .keep), (4, .keep)]
def L125_1 : List (Nat × Co) := [(0, .keep), (3, .keep), (4, .keep), (5, .keep), (6, .keep), (7, .keep)]
abbrev R125 := (Bool)
def e125 (x : R125) : AV × Heap := (vd (dB x), [])
def j125_35 (s0 signs3 : Bs) (i4 : Int) (c5 : UInt8) (is6 : Bool) (k7 : Int) : Option ((Bs × Bs × Int × UInt8 × Bool × Int) ⊕ ((Bs × Bs × Int) ⊕ R125)) :=
  some (.inl (s0, signs3, i4, c5, is6, (w64 (k7 + 1))))
def K125_8 (mm : Int) (r : Option (Ex × St)) : Option (AV × Heap) := bodyD (E0 mm) [.tmp 2] 0 false (sq (E0 mm) 125 0 c125_44 (blockD 0 (r)))
def en125_8 (x : (Bs × Bs × Int)) : X := (none, [vd (dS x.1), vd (dS x.2.1), vd (dI x.2.2)], [])
def K125_25 (mm : Int) (r : Option (Ex × St)) : Option (X ⊕ (AV × Heap)) := stepE (K125_8 mm) (loopK 0 L125_0 (sq (E0 mm) 125 0 c125_43 (blockD 1 (sq (E0 mm) 125 0 c125_36 (blockD 2 (r))))))
def en125_25 (x : (Bs × Bs × Int × UInt8 × Bool × Int)) : X := (none, [vd (dS x.1), vd (dS x.2.1), vd (dI x.2.2.1), vd (.sc (.int .u8 ((x.2.2.2.1).toNat : Int))), vd (dB x.2.2.2.2.1), vd (dI x.2.2.2.2.2)], [])
def k125 := Q (rx c125_37) (Q (rx c125_43) (Q (rx c125_40) (Q @K125_8.eq_1 (Q (rx c125_28) (Q (rx c125_34) (Q @K125_25.eq_1 (Q (rx c125_23) (Q (fun mm => lx (E0 mm) 125 c125_25 c125_26 L125_1) (Q (rx c125_45) (Q (rx c125_11) (Q (rx c125_18) (Q (rx c125_20) (Q (rx c125_1) (Q (rx c125_3) (Q (rx c125_6) (Q (fun mm => lx (E0 mm) 125 c125_8 c125_9 L125_0) (Q (nE c125_0 (.seq c125_1 (.seq c125_3 (.seq (.seq c125_6 (.block 0 c125_8)) c125_44)))) (Q (nE c125_9 (.seq (.seq c125_11 (.cond _ .skip (.exit 0))) (.seq (.block 1 (.seq c125_18 (.seq c125_20 c125_21))) c125_43))) (Q (nE c125_26 (.seq (.seq c125_28 (.cond _ .skip (.exit 2))) (.seq (.block 3 c125_34) c125_35))) (Q @en125_8.eq_1 (Q @en125_25.eq_1 (Q @L125_0.eq_1 (Q @L125_1.eq_1 hA)))))))))))))))))))))))
theorem j125_35_t (s0 signs3 : Bs) (i4 : Int) (c5 : UInt8) (is6 : Bool) (k7 : Int)  (sl : Sl) (_ : sl 0 = vd (dS s0)) (_ : sl 3 = vd (dS signs3)) (_ : sl 4 = vd (dI i4)) (_ : sl 5 = vd (.sc (.int .u8 ((c5).toNat : Int)))) (_ : sl 6 = vd (dB is6)) (_ : sl 7 = vd (dI k7)) :
    stepE (K125_25 mm) (loopK 0 L125_1 (dn (E0 mm) 125 0 c125_35 sl [])) = (j125_35 s0 signs3 i4 c5 is6 k7).map (sm en125_25 (sm en125_8 e125)) := by
  unfold j125_35; exact go (Q (rx c125_35) k125) trivial
def j125_36 (s0 signs3 : Bs) (i4 : Int) (is6 : Bool) : Option ((Bs × Bs × Int) ⊕ R125) :=
  if is6 = true then
    some (.inl (s0, signs3, (w64 (i4 + 1))))
  else
    some (.inr false)
theorem j125_36_t (s0 signs3 : Bs) (i4 : Int) (is6 : Bool)  (sl : Sl) (_ : sl 0 = vd (dS s0)) (_ : sl 3 = vd (dS signs3)) (_ : sl 4 = vd (dI i4)) (_ : sl 6 = vd (dB is6)) :
    stepE (K125_8 mm) (loopK 0 L125_0 (sq (E0 mm) 125 0 c125_43 (blockD 1 (dn (E0 mm) 125 0 c125_36 sl [])))) = (j125_36 s0 signs3 i4 is6).map (sm en125_8 e125) := by
  unfold j125_36; exact go (Q (nE c125_36 (.seq c125_37 (.cond _ (.seq c125_40 .ret) .skip))) k125) trivial
def s125_25 (s0 signs3 : Bs) (i4 : Int) (c5 : UInt8) (is6 : Bool) (k7 : Int) : Option ((Bs × Bs × Int × UInt8 × Bool × Int) ⊕ ((Bs × Bs × Int) ⊕ R125)) :=
  if (decide (k7 < (signs3.length : Int))) = true then
    if is6 = true then
      j125_35 s0 signs3 i4 c5 true k7
    else
      if 0 ≤ k7 ∧ k7 < (signs3.length : Int) then
        j125_35 s0 signs3 i4 c5 ((signs3.getD k7.toNat 0) == c5) k7
      else none
  else
    (j125_36 s0 signs3 i4 is6).map .inr
theorem s125_25_t (s0 signs3 : Bs) (i4 : Int) (c5 : UInt8) (is6 : Bool) (k7 : Int) :
    stepE (K125_25 mm) (lp (E0 mm) 125 0 c125_26 L125_1 (en125_25 (s0, signs3, i4, c5, is6, k7))) = (s125_25 s0 signs3 i4 c5 is6 k7).map (sm en125_25 (sm en125_8 e125)) := by
  unfold s125_25; exact go k125 (Q @j125_35_t @j125_36_t)
def l125_25 (s0 signs3 : Bs) (i4 : Int) (c5 : UInt8) (is6 : Bool) (k7 : Int) : Option ((Bs × Bs × Int) ⊕ R125) := iter (fun x : (Bs × Bs × Int × UInt8 × Bool × Int) => s125_25 x.1 x.2.1 x.2.2.1 x.2.2.2.1 x.2.2.2.2.1 x.2.2.2.2.2) (s0, signs3, i4, c5, is6, k7)
theorem l125_25_t (s0 signs3 : Bs) (i4 : Int) (c5 : UInt8) (is6 : Bool) (k7 : Int) : (K125_25 mm) (itW (lp (E0 mm) 125 0 c125_26 L125_1) (en125_25 (s0, signs3, i4, c5, is6, k7))) = (l125_25 s0 signs3 i4 c5 is6 k7).map (sm en125_8 e125) :=
  it_sim (K := (K125_25 mm)) rfl (enc := en125_25) (fun x => s125_25_t x.1 x.2.1 x.2.2.1 x.2.2.2.1 x.2.2.2.2.1 x.2.2.2.2.2) (s0, signs3, i4, c5, is6, k7)
def j125_21 (s0 signs3 : Bs) (i4 : Int) (c5 : UInt8) (is6 : Bool) : Option ((Bs × Bs × Int) ⊕ R125) :=
  l125_25 s0 signs3 i4 c5 is6 (0 : Int)
theorem j125_21_t (s0 signs3 : Bs) (i4 : Int) (c5 : UInt8) (is6 : Bool)  (sl : Sl) (_ : sl 0 = vd (dS s0)) (_ : sl 3 = vd (dS signs3)) (_ : sl 4 = vd (dI i4)) (_ : sl 5 = vd (.sc (.int .u8 ((c5).toNat : Int)))) (_ : sl 6 = vd (dB is6)) :
    stepE (K125_8 mm) (loopK 0 L125_0 (sq (E0 mm) 125 0 c125_43 (blockD 1 (dn (E0 mm) 125 0 c125_21 sl [])))) = (j125_21 s0 signs3 i4 c5 is6).map (sm en125_8 e125) := by
  unfold j125_21; exact go (Q (nE c125_21 (.seq (.seq c125_23 (.block 2 c125_25)) c125_36)) k125) @l125_25_t
def j125_44 (s0 : Bs) : Option R125 :=
  some (decide (0 < (s0.length : Int)))
theorem j125_44_t (s0 : Bs)  (sl : Sl) (_ : sl 0 = vd (dS s0)) :
    bodyD (E0 mm) [.tmp 2] 0 false (dn (E0 mm) 125 0 c125_44 sl []) = (j125_44 s0).map e125 := by
  unfold j125_44; exact go (Q (nE c125_44 (.seq c125_45 .ret)) k125) trivial
def s125_8 (s0 signs3 : Bs) (i4 : Int) : Option ((Bs × Bs × Int) ⊕ R125) :=
  if (decide (i4 < (s0.length : Int))) = true then
    if 0 ≤ i4 ∧ i4 < (s0.length : Int) then
      if (decide ((97 : UInt8) ≤ (s0.getD i4.toNat 0))) = true then
        if (decide ((s0.getD i4.toNat 0) ≤ (122 : UInt8))) = true then
          j125_21 s0 signs3 i4 (s0.getD i4.toNat 0) true
        else
          if (decide ((65 : UInt8) ≤ (s0.getD i4.toNat 0))) = true then
            if (decide ((s0.getD i4.toNat 0) ≤ (90 : UInt8))) = true then
              j125_21 s0 signs3 i4 (s0.getD i4.toNat 0) true
            else
              if (decide ((48 : UInt8) ≤ (s0.getD i4.toNat 0))) = true then
                j125_21 s0 signs3 i4 (s0.getD i4.toNat 0) (decide ((s0.getD i4.toNat 0) ≤ (57 : UInt8)))
              else
                j125_21 s0 signs3 i4 (s0.getD i4.toNat 0) false
          else
            if (decide ((48 : UInt8) ≤ (s0.getD i4.toNat 0))) = true then
              j125_21 s0 signs3 i4 (s0.getD i4.toNat 0) (decide ((s0.getD i4.toNat 0) ≤ (57 : UInt8)))
            else
              j125_21 s0 signs3 i4 (s0.getD i4.toNat 0) false
      else
        if (decide ((65 : UInt8) ≤ (s0.getD i4.toNat 0))) = true then
          if (decide ((s0.getD i4.toNat 0) ≤ (90 : UInt8))) = true then
            j125_21 s0 signs3 i4 (s0.getD i4.toNat 0) true
          else
            if (decide ((48 : UInt8) ≤ (s0.getD i4.toNat 0))) = true then
              j125_21 s0 signs3 i4 (s0.getD i4.toNat 0) (decide ((s0.getD i4.toNat 0) ≤ (57 : UInt8)))
            else
              j125_21 s0 signs3 i4 (s0.getD i4.toNat 0) false
        else
          if (decide ((48 : UInt8) ≤ (s0.getD i4.toNat 0))) = true then
            j125_21 s0 signs3 i4 (s0.getD i4.toNat 0) (decide ((s0.getD i4.toNat 0) ≤ (57 : UInt8)))
          else
            j125_21 s0 signs3 i4 (s0.getD i4.toNat 0) false
    else none
  else
    (j125_44 s0).map .inr
theorem s125_8_t (s0 signs3 : Bs) (i4 : Int) :
    stepE (K125_8 mm) (lp (E0 mm) 125 0 c125_9 L125_0 (en125_8 (s0, signs3, i4))) = (s125_8 s0 signs3 i4).map (sm en125_8 e125) := by
  unfold s125_8; exact go k125 (Q @j125_21_t @j125_44_t)
def l125_8 (s0 signs3 : Bs) (i4 : Int) : Option R125 := iter (fun x : (Bs × Bs × Int) => s125_8 x.1 x.2.1 x.2.2) (s0, signs3, i4)
theorem l125_8_t (s0 signs3 : Bs) (i4 : Int) : (K125_8 mm) (itW (lp (E0 mm) 125 0 c125_9 L125_0) (en125_8 (s0, signs3, i4))) = (l125_8 s0 signs3 i4).map e125 :=
  it_sim (K := (K125_8 mm)) rfl (enc := en125_8) (fun x => s125_8_t x.1 x.2.1 x.2.2) (s0, signs3, i4)
def m125 (s : Bs) : Option R125 :=
  l125_8 s ([33, 35, 36, 37, 38, 39, 42, 43, 45, 46, 94, 95, 96, 124, 126] : Bs) (0 : Int)
theorem f125_t (s : Bs) :
    callW (E0 mm) 125 [cd (dS s)] [] = (m125 s).map e125 := by
  rw [cR c125_0 [.tmp 2] Tryz.func125]
  unfold m125; exact go k125 @l125_8_t
noncomputable def c148_0 : Code := bodyOf Tryz.f148
def c148_1 := cA c148_0
def c148_3 := cA (cB c148_0)
abbrev R148 := (Bool)
def e148 (x : R148) : AV × Heap := (vd (dB x), [])
def m148 (c : UInt8) : Option R148 :=
  if (c == (9 : UInt8)) = true then
    some true
  else
    if (decide ((32 : UInt8) ≤ c)) = true then
      if (decide (c ≤ (126 : UInt8))) = true then
        some true
      else
        some (decide ((128 : UInt8) ≤ c))
    else
      some (decide ((128 : UInt8) ≤ c))
def k148 := Q (rx c148_1) (Q (rx c148_3) (Q (nE c148_0 (.seq c148_1 (.seq c148_3 .ret))) hA))
theorem f148_t (c : UInt8) :
    callW (E0 mm) 148 [cd (.sc (.int .u8 ((c).toNat : Int)))] [] = (m148 c).map e148 := by
  rw [cR c148_0 [.tmp 2] Tryz.func148]
  unfold m148; exact go k148 trivial
noncomputable def c126_0 : Code := bodyOf Tryz.f126
def c126_1 := cA c126_0
def c126_4 := cA (cA (cB c126_0))
def c126_5 := cB (cA (cB c126_0))
def c126_7 := cA (cA c126_5)
def c126_10 := cB (cB c126_0)
def c126_11 := cA c126_10
def c126_13 := cA (cB c126_10)
def c126_16 := cA (cA (cB (cB c126_10)))
def c126_17 := cA c126_16
def c126_19 := cA (cA c126_17)
def c126_20 := cB (cA c126_17)
def c126_23 := cB c126_17
def c126_26 := cA (cA (cA c126_23))
def c126_28 := cA (cB (cA (cA c126_23)))
def c126_30 := cB (cA c126_23)
def c126_32 := cA (cA c126_30)
def c126_33 := cB (cA c126_30)
def c126_35 := cA (cA c126_33)
def c126_38 := cB c126_30
def c126_39 := cA c126_38
def c126_40 := cB c126_38
def c126_41 := cB (cB (cB c126_10))
def c126_43 := cA (cA c126_41)
def c126_46 := cA (cA (cB (cA c126_41)))
def c126_50 := cA (cB c126_41)
def L126_0 : List (Nat × Co) := [(0, .keep), (4, .own), (5, .keep)]
abbrev b126 (mm : Int) := bodyD (E0 mm) [.tmp 2, .tmp 3] 0 false
abbrev R126 := (Bs × Bool)
def e126 (x : R126) : AV × Heap := (.tup [cd (dS x.1), cd (dB x.2)], [])
def j126_33 (s0 : Bs) (b4_0 : Bool) (b4_1 : List UInt8) (at5 : Int) (t40 : Bool) : Option ((Bs × Bool × List UInt8 × Int) ⊕ R126) :=
  if t40 = true then
    some (.inr (([] : Bs), false))
  else
    if 0 ≤ at5 ∧ at5 < (s0.length : Int) then
      if (b4_1.length + 1) * 1 ≤ 140737488355328 then
        some (.inl (s0, false, (b4_1 ++ ([(s0.getD at5.toNat 0)] : List UInt8)), (w64 (at5 + 1))))
      else none
    else none
def K126_16 (mm : Int) (r : Option (Ex × St)) : Option (AV × Heap) := b126 mm (sq (E0 mm) 126 0 c126_41 (blockD 0 (r)))
def en126_16 (x : (Bs × Bool × List UInt8 × Int)) : X := (none, [vd (dS x.1), .v (.c (.own x.2.1 (enL enB x.2.2.1) 0)), vd (dI x.2.2.2)], [.row x.2.2.1.length (rz x.2.1 1)])
def k126 := Q (rx c126_35) (Q @K126_16.eq_1 (Q (rx c126_39) (Q (rx c126_40) (Q (rx c126_32) (Q @ent148 (Q @prm148 (Q @f148_t (Q @e148.eq_1 (Q (rx c126_43) (Q (rx c126_50) (Q (rx c126_46) (Q (rx c126_26) (Q (rx c126_28) (Q (rx c126_19) (Q (rx c126_7) (Q (rx c126_11) (Q (rx c126_13) (Q (fun mm => lx (E0 mm) 126 c126_16 c126_17 L126_0) (Q (rx c126_1) (Q (rx c126_4) (Q (nE c126_0 (.seq c126_1 (.seq (.seq c126_4 c126_5) c126_10))) (Q (nE c126_10 (.seq c126_11 (.seq c126_13 (.seq (.block 0 c126_16) c126_41)))) (Q (nE c126_17 (.seq (.seq c126_19 c126_20) c126_23)) (Q (nE c126_23 (.block 1 (.seq (.seq c126_26 (.cond _ c126_28 .skip)) c126_30))) (Q (nE c126_38 (.seq c126_39 c126_40)) (Q @en126_16.eq_1 (Q @L126_0.eq_1 hA)))))))))))))))))))))))))))
theorem j126_33_t (s0 : Bs) (b4_0 : Bool) (b4_1 : List UInt8) (at5 : Int) (t40 : Bool)  (sl : Sl) (_ : sl 0 = vd (dS s0)) (_ : sl 4 = .v (.c (.own b4_0 (enL enB b4_1) 0))) (_ : sl 5 = vd (dI at5)) (_ : sl 40 = vd (dB t40)) :
    stepE (K126_16 mm) (loopK 0 L126_0 (blockD 1 (sq (E0 mm) 126 0 c126_38 (dn (E0 mm) 126 0 c126_33 sl [.row b4_1.length (rz b4_0 1)])))) = (j126_33 s0 b4_0 b4_1 at5 t40).map (sm en126_16 e126) := by
  unfold j126_33; exact go (Q (nE c126_33 (.cond _ (.seq c126_35 .ret) .skip)) k126) trivial
def j126_30 (s0 : Bs) (b4_0 : Bool) (b4_1 : List UInt8) (at5 : Int) : Option ((Bs × Bool × List UInt8 × Int) ⊕ R126) :=
  if (decide ((s0.length : Int) ≤ at5)) = true then
    j126_33 s0 b4_0 b4_1 at5 true
  else
    if 0 ≤ at5 ∧ at5 < (s0.length : Int) then
      (m148 (s0.getD at5.toNat 0)).bind fun yr14 =>
        j126_33 s0 b4_0 b4_1 at5 (!yr14)
    else none
theorem j126_30_t (s0 : Bs) (b4_0 : Bool) (b4_1 : List UInt8) (at5 : Int)  (sl : Sl) (_ : sl 0 = vd (dS s0)) (_ : sl 4 = .v (.c (.own b4_0 (enL enB b4_1) 0))) (_ : sl 5 = vd (dI at5)) :
    stepE (K126_16 mm) (loopK 0 L126_0 (blockD 1 (dn (E0 mm) 126 0 c126_30 sl [.row b4_1.length (rz b4_0 1)]))) = (j126_30 s0 b4_0 b4_1 at5).map (sm en126_16 e126) := by
  unfold j126_30; exact go (Q (nE c126_30 (.seq (.seq c126_32 c126_33) c126_38)) k126) @j126_33_t
def j126_41 (s0 : Bs) (b4_0 : Bool) (b4_1 : List UInt8) (at5 : Int) : Option R126 :=
  if (at5 == (w64 ((s0.length : Int) - 1))) = true then
    some (b4_1, true)
  else
    some (([] : Bs), false)
theorem j126_41_t (s0 : Bs) (b4_0 : Bool) (b4_1 : List UInt8) (at5 : Int)  (sl : Sl) (_ : sl 0 = vd (dS s0)) (_ : sl 4 = .v (.c (.own b4_0 (enL enB b4_1) 0))) (_ : sl 5 = vd (dI at5)) :
    b126 mm (dn (E0 mm) 126 0 c126_41 sl [.row b4_1.length (rz b4_0 1)]) = (j126_41 s0 b4_0 b4_1 at5).map e126 := by
  unfold j126_41; exact go (Q (nE c126_41 (.seq (.seq c126_43 (.cond _ (.seq c126_46 .ret) .skip)) (.seq c126_50 .ret))) k126) trivial
def j126_20 (s0 : Bs) (b4_0 : Bool) (b4_1 : List UInt8) (at5 : Int) (t23 : Bool) : Option ((Bs × Bool × List UInt8 × Int) ⊕ R126) :=
  if t23 = true then
    if 0 ≤ at5 ∧ at5 < (s0.length : Int) then
      if ((s0.getD at5.toNat 0) == (92 : UInt8)) = true then
        j126_30 s0 b4_0 b4_1 (w64 (at5 + 1))
      else
        j126_30 s0 b4_0 b4_1 at5
    else none
  else
    (j126_41 s0 b4_0 b4_1 at5).map .inr
theorem j126_20_t (s0 : Bs) (b4_0 : Bool) (b4_1 : List UInt8) (at5 : Int) (t23 : Bool)  (sl : Sl) (_ : sl 0 = vd (dS s0)) (_ : sl 4 = .v (.c (.own b4_0 (enL enB b4_1) 0))) (_ : sl 5 = vd (dI at5)) (_ : sl 23 = vd (dB t23)) :
    stepE (K126_16 mm) (loopK 0 L126_0 (sq (E0 mm) 126 0 c126_23 (dn (E0 mm) 126 0 c126_20 sl [.row b4_1.length (rz b4_0 1)]))) = (j126_20 s0 b4_0 b4_1 at5 t23).map (sm en126_16 e126) := by
  unfold j126_20; exact go (Q (nE c126_20 (.cond _ .skip (.exit 0))) k126) (Q @j126_30_t @j126_41_t)
def s126_16 (s0 : Bs) (b4_0 : Bool) (b4_1 : List UInt8) (at5 : Int) : Option ((Bs × Bool × List UInt8 × Int) ⊕ R126) :=
  if (decide (at5 < (s0.length : Int))) = true then
    if 0 ≤ at5 ∧ at5 < (s0.length : Int) then
      j126_20 s0 b4_0 b4_1 at5 (!((s0.getD at5.toNat 0) == (34 : UInt8)))
    else none
  else
    j126_20 s0 b4_0 b4_1 at5 false
theorem s126_16_t (s0 : Bs) (b4_0 : Bool) (b4_1 : List UInt8) (at5 : Int) :
    stepE (K126_16 mm) (lp (E0 mm) 126 0 c126_17 L126_0 (en126_16 (s0, b4_0, b4_1, at5))) = (s126_16 s0 b4_0 b4_1 at5).map (sm en126_16 e126) := by
  unfold s126_16; exact go k126 @j126_20_t
def l126_16 (s0 : Bs) (b4_0 : Bool) (b4_1 : List UInt8) (at5 : Int) : Option R126 := iter (fun x : (Bs × Bool × List UInt8 × Int) => s126_16 x.1 x.2.1 x.2.2.1 x.2.2.2) (s0, b4_0, b4_1, at5)
theorem l126_16_t (s0 : Bs) (b4_0 : Bool) (b4_1 : List UInt8) (at5 : Int) : (K126_16 mm) (itW (lp (E0 mm) 126 0 c126_17 L126_0) (en126_16 (s0, b4_0, b4_1, at5))) = (l126_16 s0 b4_0 b4_1 at5).map e126 :=
  it_sim (K := (K126_16 mm)) rfl (enc := en126_16) (fun x => s126_16_t x.1 x.2.1 x.2.2.1 x.2.2.2) (s0, b4_0, b4_1, at5)
def j126_5 (s0 : Bs) (t13 : Bool) : Option R126 :=
  if t13 = true then
    some (([] : Bs), false)
  else
    l126_16 s0 true ([] : List UInt8) (1 : Int)
theorem j126_5_t (s0 : Bs) (t13 : Bool)  (sl : Sl) (_ : sl 0 = vd (dS s0)) (_ : sl 13 = vd (dB t13)) :
    b126 mm (sq (E0 mm) 126 0 c126_10 (dn (E0 mm) 126 0 c126_5 sl [])) = (j126_5 s0 t13).map e126 := by
  unfold j126_5; exact go (Q (nE c126_5 (.cond _ (.seq c126_7 .ret) .skip)) k126) @l126_16_t
def m126 (s : Bs) : Option R126 :=
  if ((s.length : Int) == 0) = true then
    j126_5 s true
  else
    if (0 : Int) < (s.length : Int) then
      j126_5 s (!((s.getD 0 0) == (34 : UInt8)))
    else none
theorem f126_t (s : Bs) :
    callW (E0 mm) 126 [cd (dS s)] [] = (m126 s).map e126 := by
  rw [cR c126_0 [.tmp 2, .tmp 3] Tryz.func126]
  unfold m126; exact go k126 @j126_5_t
noncomputable def c92_0 : Code := bodyOf Tryz.f92
def c92_1 := cA c92_0
def c92_3 := cA (cB c92_0)
def c92_6 := cA (cA (cB (cB c92_0)))
def c92_7 := cA c92_6
def c92_9 := cA (cA c92_7)
def c92_10 := cB (cA c92_7)
def c92_13 := cB c92_7
def c92_14 := cA c92_13
def c92_15 := cB (cB (cB c92_0))
def c92_17 := cA (cA c92_15)
def c92_20 := cA (cA (cB (cA c92_15)))
def c92_25 := cA (cA (cB c92_15))
def c92_28 := cA (cA (cB (cA (cB c92_15))))
def c92_32 := cA (cB (cB c92_15))
def c92_35 := cA (cA (cB (cB (cB c92_15))))
def c92_38 := cA (cA (cB (cA (cB (cB (cB c92_15))))))
def c92_42 := cA (cB (cB (cB (cB c92_15))))
def c92_45 := cA (cA (cB (cB (cB (cB (cB c92_15))))))
def c92_48 := cA (cA (cB (cA (cB (cB (cB (cB (cB c92_15))))))))
def c92_52 := cA (cB (cB (cB (cB (cB (cB c92_15))))))
def L92_0 : List (Nat × Co) := [(0, .keep), (5, .keep)]
abbrev R92 := (Bs × Bs × Bool)
def e92 (x : R92) : AV × Heap := (.tup [cd (dS x.1), cd (dS x.2.1), cd (dB x.2.2)], [])
def j92_15 (s0 : Bs) (n5 : Int) : Option R92 :=
  (bnd n5 s0.length).bind fun yk5 =>
    (m125 (s0.take yk5)).bind fun yr7 =>
      if yr7 = true then
        if (n5 == (s0.length : Int)) = true then
          (m51 s0).bind fun yr11 =>
            some (yr11, ([] : Bs), true)
        else
          (bnd (w64 (n5 + 1)) s0.length).bind fun yk13 =>
            (m125 (s0.drop yk13)).bind fun yr15 =>
              if yr15 = true then
                (m51 (s0.take yk5)).bind fun yr18 =>
                  some (yr18, (s0.drop yk13), true)
              else
                (m126 (s0.drop yk13)).bind fun yr20 =>
                  if yr20.2 = true then
                    (m51 (s0.take yk5)).bind fun yr23 =>
                      some (yr23, yr20.1, true)
                  else
                    some (([] : Bs), ([] : Bs), false)
      else
        some (([] : Bs), ([] : Bs), false)
def K92_6 (mm : Int) (r : Option (Ex × St)) : Option (AV × Heap) := bodyD (E0 mm) [.tmp 2, .tmp 3, .tmp 4] 0 false (sq (E0 mm) 92 0 c92_15 (blockD 0 (r)))
def en92_6 (x : (Bs × Int)) : X := (none, [vd (dS x.1), vd (dI x.2)], [])
def k92 := Q (rx c92_17) (Q @ent125 (Q @prm125 (Q @f125_t (Q @e125.eq_1 (Q (rx c92_25) (Q (rx c92_28) (Q @f51_t (Q @e51.eq_1 (Q (rx c92_32) (Q (rx c92_35) (Q (rx c92_38) (Q (rx c92_42) (Q @ent126 (Q @prm126 (Q @f126_t (Q @e126.eq_1 (Q (rx c92_45) (Q (rx c92_52) (Q (rx c92_48) (Q (rx c92_20) (Q (rx c92_14) (Q @K92_6.eq_1 (Q (rx c92_9) (Q (rx c92_1) (Q (rx c92_3) (Q (fun mm => lx (E0 mm) 92 c92_6 c92_7 L92_0) (Q (nE c92_0 (.seq c92_1 (.seq c92_3 (.seq (.block 0 c92_6) c92_15)))) (Q (nE c92_7 (.seq (.seq c92_9 c92_10) c92_13)) (Q (nE c92_13 (.block 1 c92_14)) (Q @en92_6.eq_1 (Q @L92_0.eq_1 hA)))))))))))))))))))))))))))))))
theorem j92_15_t (s0 : Bs) (n5 : Int)  (sl : Sl) (_ : sl 0 = vd (dS s0)) (_ : sl 5 = vd (dI n5)) :
    bodyD (E0 mm) [.tmp 2, .tmp 3, .tmp 4] 0 false (dn (E0 mm) 92 0 c92_15 sl []) = (j92_15 s0 n5).map e92 := by
  unfold j92_15; exact go (Q (nE c92_15 (.seq (.seq c92_17 (.cond _ (.seq c92_20 .ret) .skip)) (.seq (.seq c92_25 (.cond _ (.seq c92_28 .ret) .skip)) (.seq c92_32 (.seq (.seq c92_35 (.cond _ (.seq c92_38 .ret) .skip)) (.seq c92_42 (.seq (.seq c92_45 (.cond _ (.seq c92_48 .ret) .skip)) (.seq c92_52 .ret)))))))) k92) trivial
def j92_10 (s0 : Bs) (n5 : Int) (t18 : Bool) : Option ((Bs × Int) ⊕ R92) :=
  if t18 = true then
    some (.inl (s0, (w64 (n5 + 1))))
  else
    (j92_15 s0 n5).map .inr
theorem j92_10_t (s0 : Bs) (n5 : Int) (t18 : Bool)  (sl : Sl) (_ : sl 0 = vd (dS s0)) (_ : sl 5 = vd (dI n5)) (_ : sl 18 = vd (dB t18)) :
    stepE (K92_6 mm) (loopK 0 L92_0 (sq (E0 mm) 92 0 c92_13 (dn (E0 mm) 92 0 c92_10 sl []))) = (j92_10 s0 n5 t18).map (sm en92_6 e92) := by
  unfold j92_10; exact go (Q (nE c92_10 (.cond _ .skip (.exit 0))) k92) @j92_15_t
def s92_6 (s0 : Bs) (n5 : Int) : Option ((Bs × Int) ⊕ R92) :=
  if (decide (n5 < (s0.length : Int))) = true then
    if 0 ≤ n5 ∧ n5 < (s0.length : Int) then
      j92_10 s0 n5 (!((s0.getD n5.toNat 0) == (61 : UInt8)))
    else none
  else
    j92_10 s0 n5 false
theorem s92_6_t (s0 : Bs) (n5 : Int) :
    stepE (K92_6 mm) (lp (E0 mm) 92 0 c92_7 L92_0 (en92_6 (s0, n5))) = (s92_6 s0 n5).map (sm en92_6 e92) := by
  unfold s92_6; exact go k92 @j92_10_t
def l92_6 (s0 : Bs) (n5 : Int) : Option R92 := iter (fun x : (Bs × Int) => s92_6 x.1 x.2) (s0, n5)
theorem l92_6_t (s0 : Bs) (n5 : Int) : (K92_6 mm) (itW (lp (E0 mm) 92 0 c92_7 L92_0) (en92_6 (s0, n5))) = (l92_6 s0 n5).map e92 :=
  it_sim (K := (K92_6 mm)) rfl (enc := en92_6) (fun x => s92_6_t x.1 x.2) (s0, n5)
def m92 (s : Bs) : Option R92 :=
  l92_6 s (0 : Int)
theorem f92_t (s : Bs) :
    callW (E0 mm) 92 [cd (dS s)] [] = (m92 s).map e92 := by
  rw [cR c92_0 [.tmp 2, .tmp 3, .tmp 4] Tryz.func92]
  unfold m92; exact go k92 @l92_6_t
noncomputable def c93_0 : Code := bodyOf Tryz.f93
def c93_1 := cA c93_0
def c93_4 := cA (cA (cB c93_0))
def c93_7 := cA (cA (cB (cA (cB c93_0))))
def c93_11 := cA (cB (cB c93_0))
def c93_14 := cA (cA (cB (cB (cB c93_0))))
def c93_16 := cA (cB (cA (cB (cB (cB c93_0)))))
def c93_17 := cA c93_16
def c93_19 := cA (cA c93_17)
def c93_26 := cA (cA (cA (cB c93_17)))
def c93_27 := cB (cA (cA (cB c93_17)))
def c93_29 := cA (cA c93_27)
def c93_32 := cB (cB c93_17)
def c93_33 := cB (cB (cB (cB c93_0)))
def c93_35 := cA (cA c93_33)
def c93_37 := cA (cB (cA c93_33))
def c93_38 := cA c93_37
def c93_40 := cA (cA c93_38)
def c93_47 := cA (cA (cA (cB c93_38)))
def c93_49 := cA (cB (cA (cA (cB c93_38))))
def c93_51 := cA (cB (cB (cA (cA (cB c93_38)))))
def c93_53 := cB (cB c93_38)
def c93_54 := cB c93_33
def c93_55 := cA c93_54
def L93_0 : List (Nat × Co) := [(0, .keep), (3, .keep), (4, .keep)]
def L93_1 : List (Nat × Co) := [(0, .keep), (3, .keep), (5, .keep)]
abbrev b93 (mm : Int) := bodyD (E0 mm) [.tmp 2] 0 false
abbrev R93 := (Int)
def e93 (x : R93) : AV × Heap := (vd (dI x), [])
def j93_27 (s0 : Bs) (n3 i4 : Int) (t24 : Bool) : Option ((Bs × Int × Int) ⊕ R93) :=
  if t24 = true then
    some (.inr (0 : Int))
  else
    some (.inl (s0, n3, (w64 (i4 + 1))))
def K93_16 (mm : Int) (r : Option (Ex × St)) : Option (AV × Heap) := b93 mm (sq (E0 mm) 93 0 c93_33 (blockD 0 (r)))
def en93_16 (x : (Bs × Int × Int)) : X := (none, [vd (dS x.1), vd (dI x.2.1), vd (dI x.2.2)], [])
def K93_37 (mm : Int) (r : Option (Ex × St)) : Option (AV × Heap) := b93 mm (sq (E0 mm) 93 0 c93_54 (blockD 2 (r)))
def en93_37 (x : (Bs × Int × Int)) : X := (none, [vd (dS x.1), vd (dI x.2.1), vd (dI x.2.2)], [])
def k93 := Q (rx c93_29) (Q @K93_16.eq_1 (Q (rx c93_32) (Q (rx c93_55) (Q (rx c93_40) (Q (rx c93_47) (Q (rx c93_49) (Q (rx c93_51) (Q @K93_37.eq_1 (Q (rx c93_35) (Q (fun mm => lx (E0 mm) 93 c93_37 c93_38 L93_1) (Q (rx c93_19) (Q (rx c93_26) (Q (rx c93_1) (Q (rx c93_4) (Q (rx c93_7) (Q (rx c93_11) (Q (rx c93_14) (Q (fun mm => lx (E0 mm) 93 c93_16 c93_17 L93_0) (Q (nE c93_0 (.seq c93_1 (.seq (.seq c93_4 (.cond _ (.seq c93_7 .ret) .skip)) (.seq c93_11 (.seq (.seq c93_14 (.block 0 c93_16)) c93_33))))) (Q (nE c93_17 (.seq (.seq c93_19 (.cond _ .skip (.exit 0))) (.seq (.block 1 (.seq c93_26 c93_27)) c93_32))) (Q (nE c93_38 (.seq (.seq c93_40 (.cond _ .skip (.exit 2))) (.seq (.block 3 (.seq c93_47 (.seq c93_49 (.cond _ c93_51 .skip)))) c93_53))) (Q @en93_16.eq_1 (Q @en93_37.eq_1 (Q @L93_0.eq_1 (Q @L93_1.eq_1 hA)))))))))))))))))))))))))
theorem j93_27_t (s0 : Bs) (n3 i4 : Int) (t24 : Bool)  (sl : Sl) (_ : sl 0 = vd (dS s0)) (_ : sl 3 = vd (dI n3)) (_ : sl 4 = vd (dI i4)) (_ : sl 24 = vd (dB t24)) :
    stepE (K93_16 mm) (loopK 0 L93_0 (sq (E0 mm) 93 0 c93_32 (blockD 1 (dn (E0 mm) 93 0 c93_27 sl [])))) = (j93_27 s0 n3 i4 t24).map (sm en93_16 e93) := by
  unfold j93_27; exact go (Q (nE c93_27 (.cond _ (.seq c93_29 .ret) .skip)) k93) trivial
def j93_53 (s0 : Bs) (n3 i5 : Int) : Option ((Bs × Int × Int) ⊕ R93) :=
  some (.inl (s0, n3, (w64 (i5 + 1))))
theorem j93_53_t (s0 : Bs) (n3 i5 : Int)  (sl : Sl) (_ : sl 0 = vd (dS s0)) (_ : sl 3 = vd (dI n3)) (_ : sl 5 = vd (dI i5)) :
    stepE (K93_37 mm) (loopK 0 L93_1 (dn (E0 mm) 93 0 c93_53 sl [])) = (j93_53 s0 n3 i5).map (sm en93_37 e93) := by
  unfold j93_53; exact go (Q (rx c93_53) k93) trivial
def j93_54 (n3 : Int) : Option R93 :=
  some n3
theorem j93_54_t (n3 : Int)  (sl : Sl) (_ : sl 3 = vd (dI n3)) :
    b93 mm (dn (E0 mm) 93 0 c93_54 sl []) = (j93_54 n3).map e93 := by
  unfold j93_54; exact go (Q (nE c93_54 (.seq c93_55 .ret)) k93) trivial
def s93_37 (s0 : Bs) (n3 i5 : Int) : Option ((Bs × Int × Int) ⊕ R93) :=
  if (decide (i5 < (s0.length : Int))) = true then
    if 0 ≤ i5 ∧ i5 < (s0.length : Int) then
      if (decide (2147483647 < (w64 ((w64 (10 * n3)) + (((s0.getD i5.toNat 0) - (48 : UInt8)).toNat : Int))))) = true then
        j93_53 s0 (2147483647 : Int) i5
      else
        j93_53 s0 (w64 ((w64 (10 * n3)) + (((s0.getD i5.toNat 0) - (48 : UInt8)).toNat : Int))) i5
    else none
  else
    (j93_54 n3).map .inr
theorem s93_37_t (s0 : Bs) (n3 i5 : Int) :
    stepE (K93_37 mm) (lp (E0 mm) 93 0 c93_38 L93_1 (en93_37 (s0, n3, i5))) = (s93_37 s0 n3 i5).map (sm en93_37 e93) := by
  unfold s93_37; exact go k93 (Q @j93_53_t @j93_54_t)
def l93_37 (s0 : Bs) (n3 i5 : Int) : Option R93 := iter (fun x : (Bs × Int × Int) => s93_37 x.1 x.2.1 x.2.2) (s0, n3, i5)
theorem l93_37_t (s0 : Bs) (n3 i5 : Int) : (K93_37 mm) (itW (lp (E0 mm) 93 0 c93_38 L93_1) (en93_37 (s0, n3, i5))) = (l93_37 s0 n3 i5).map e93 :=
  it_sim (K := (K93_37 mm)) rfl (enc := en93_37) (fun x => s93_37_t x.1 x.2.1 x.2.2) (s0, n3, i5)
def j93_33 (s0 : Bs) (n3 : Int) : Option R93 :=
  l93_37 s0 n3 (0 : Int)
theorem j93_33_t (s0 : Bs) (n3 : Int)  (sl : Sl) (_ : sl 0 = vd (dS s0)) (_ : sl 3 = vd (dI n3)) :
    b93 mm (dn (E0 mm) 93 0 c93_33 sl []) = (j93_33 s0 n3).map e93 := by
  unfold j93_33; exact go (Q (nE c93_33 (.seq (.seq c93_35 (.block 2 c93_37)) c93_54)) k93) @l93_37_t
def s93_16 (s0 : Bs) (n3 i4 : Int) : Option ((Bs × Int × Int) ⊕ R93) :=
  if (decide (i4 < (s0.length : Int))) = true then
    if 0 ≤ i4 ∧ i4 < (s0.length : Int) then
      if (decide ((s0.getD i4.toNat 0) < (48 : UInt8))) = true then
        j93_27 s0 n3 i4 true
      else
        j93_27 s0 n3 i4 (decide ((57 : UInt8) < (s0.getD i4.toNat 0)))
    else none
  else
    (j93_33 s0 n3).map .inr
theorem s93_16_t (s0 : Bs) (n3 i4 : Int) :
    stepE (K93_16 mm) (lp (E0 mm) 93 0 c93_17 L93_0 (en93_16 (s0, n3, i4))) = (s93_16 s0 n3 i4).map (sm en93_16 e93) := by
  unfold s93_16; exact go k93 (Q @j93_27_t @j93_33_t)
def l93_16 (s0 : Bs) (n3 i4 : Int) : Option R93 := iter (fun x : (Bs × Int × Int) => s93_16 x.1 x.2.1 x.2.2) (s0, n3, i4)
theorem l93_16_t (s0 : Bs) (n3 i4 : Int) : (K93_16 mm) (itW (lp (E0 mm) 93 0 c93_17 L93_0) (en93_16 (s0, n3, i4))) = (l93_16 s0 n3 i4).map e93 :=
  it_sim (K := (K93_16 mm)) rfl (enc := en93_16) (fun x => s93_16_t x.1 x.2.1 x.2.2) (s0, n3, i4)
def m93 (s : Bs) : Option R93 :=
  if ((s.length : Int) == 0) = true then
    some (0 : Int)
  else
    l93_16 s (0 : Int) (0 : Int)
theorem f93_t (s : Bs) :
    callW (E0 mm) 93 [cd (dS s)] [] = (m93 s).map e93 := by
  rw [cR c93_0 [.tmp 2] Tryz.func93]
  unfold m93; exact go k93 @l93_16_t
noncomputable def c94_0 : Code := bodyOf Tryz.f94
def c94_1 := cA c94_0
def c94_4 := cA (cA (cB c94_0))
def c94_5 := cB (cA (cB c94_0))
def c94_7 := cA (cA c94_5)
def c94_10 := cB (cB c94_0)
def c94_11 := cA c94_10
abbrev R94 := (Int)
def e94 (x : R94) : AV × Heap := (vd (dI x), [])
def j94_5 (was0 n1 : Int) (t11 : Bool) : Option R94 :=
  if t11 = true then
    some n1
  else
    some was0
def k94 := Q (rx c94_7) (Q (rx c94_11) (Q (rx c94_1) (Q (rx c94_4) (Q (nE c94_0 (.seq c94_1 (.seq (.seq c94_4 c94_5) c94_10))) (Q (nE c94_10 (.seq c94_11 .ret)) hA)))))
theorem j94_5_t (was0 n1 : Int) (t11 : Bool)  (sl : Sl) (_ : sl 0 = vd (dI was0)) (_ : sl 1 = vd (dI n1)) (_ : sl 11 = vd (dB t11)) :
    bodyD (E0 mm) [.tmp 4] 0 false (sq (E0 mm) 94 0 c94_10 (dn (E0 mm) 94 0 c94_5 sl [])) = (j94_5 was0 n1 t11).map e94 := by
  unfold j94_5; exact go (Q (nE c94_5 (.cond _ (.seq c94_7 .ret) .skip)) k94) trivial
def m94 (was n : Int) : Option R94 :=
  if (decide (was < 0)) = true then
    j94_5 was n true
  else
    j94_5 was n (decide (n < was))
theorem f94_t (was n : Int) :
    callW (E0 mm) 94 [cd (dI was), cd (dI n)] [] = (m94 was n).map e94 := by
  rw [cR c94_0 [.tmp 4] Tryz.func94]
  unfold m94; exact go k94 @j94_5_t
noncomputable def c55_0 : Code := bodyOf Tryz.f55
def c55_1 := cA c55_0
def c55_3 := cA (cB c55_0)
abbrev R55 := (Int)
def e55 (x : R55) : AV × Heap := (vd (dI x), [])
def m55 (n : Int) : Option R55 :=
  some (max2 (-1) (min2 n 2147483647))
def k55 := Q (rx c55_1) (Q (rx c55_3) (Q (nE c55_0 (.seq c55_1 (.seq c55_3 .ret))) hA))
theorem f55_t (n : Int) :
    callW (E0 mm) 55 [cd (dI n)] [] = (m55 n).map e55 := by
  rw [cR c55_0 [.tmp 2] Tryz.func55]
  unfold m55; exact go k55 trivial
noncomputable def c18_0 : Code := bodyOf Tryz.f18
def c18_1 := cA c18_0
def c18_3 := cA (cB c18_0)
def c18_5 := cA (cB (cB c18_0))
theorem c18_3_r (m : Nat) (st : St) : den (E0 mm) 18 m (callW (E0 mm)) itW c18_3 none st = regD ((runF (E0 mm) (callW (E0 mm)) (opsOf c18_3) (opsOf c18_3) [none, none, some false, none, some true, some false, none, some true, some false, none, some true, none, none, none, none, none, none, none, none, none] st []).bind (ckF [(4, 2), (7, 2), (7, 5), (10, 2), (10, 5), (10, 8)])) := den_dF (by kernel_rfl)
abbrev R18 := (Bool × Bool × Bool × Bool × Bool × Bool × Int × Int × Int × Int)
def e18 (x : R18) : AV × Heap := (.v (.agg [.d (dB x.1), .d (dB x.2.1), .d (dB x.2.2.1), .d (dB x.2.2.2.1), .d (dB x.2.2.2.2.1), .d (dB x.2.2.2.2.2.1), .d (dI x.2.2.2.2.2.2.1), .d (dI x.2.2.2.2.2.2.2.1), .d (dI x.2.2.2.2.2.2.2.2.1), .d (dI x.2.2.2.2.2.2.2.2.2)]), [])
def m18 (c_0 c_1 : Bool) (c_2 c_3 : Bool) (c_4 c_5 : Bool) (c_6 c_7 : Int) (c_8 c_9 : Int) : Option R18 :=
  (m55 c_6).bind fun yr2 =>
    (m55 c_7).bind fun yr4 =>
      (m55 c_8).bind fun yr6 =>
        (m55 c_9).bind fun yr8 =>
          some (c_0, c_1, c_2, c_3, c_4, c_5, yr2, yr4, yr6, yr8)
def k18 := Q (rx c18_1) (Q @ao77 (Q @c18_3_r (Q (show opsOf c18_3 = _ :: _ from rfl) (Q @ent55 (Q @prm55 (Q @f55_t (Q setF (Q @e55.eq_1 (Q (rx c18_5) (Q (nE c18_0 (.seq c18_1 (.seq c18_3 (.seq c18_5 .ret)))) hA))))))))))
theorem f18_t (c_0 c_1 : Bool) (c_2 c_3 : Bool) (c_4 c_5 : Bool) (c_6 c_7 : Int) (c_8 c_9 : Int) :
    callW (E0 mm) 18 [.agg [.d (dB c_0), .d (dB c_1), .d (dB c_2), .d (dB c_3), .d (dB c_4), .d (dB c_5), .d (dI c_6), .d (dI c_7), .d (dI c_8), .d (dI c_9)]] [] = (m18 c_0 c_1 c_2 c_3 c_4 c_5 c_6 c_7 c_8 c_9).map e18 := by
  rw [cR c18_0 [.cell 2 37] Tryz.func18]
  unfold m18; exact go k18 trivial
noncomputable def c23_0 : Code := bodyOf Tryz.f23
def c23_1 := cA c23_0
def c23_3 := cA (cB c23_0)
def c23_5 := cA (cB (cB c23_0))
theorem c23_5_r (m : Nat) (st : St) : den (E0 mm) 23 m (callW (E0 mm)) itW c23_5 none st = regD ((runF (E0 mm) (callW (E0 mm)) (opsOf c23_5) (opsOf c23_5) [none, none, some false, none, none, some false, none, none, some false, none, none, some false, none, none, some false, none, some true, some false, none, some true, none, none, none] st []).bind (ckF [(16, 2), (16, 5), (16, 8), (16, 11), (16, 14), (19, 2), (19, 5), (19, 8), (19, 11), (19, 14), (19, 17)])) := den_dF (by kernel_rfl)
abbrev R23 := (Bool × Bool × Bool × Bool × Bool × Bool × Int × Int × Int × Int)
def e23 (x : R23) : AV × Heap := (.v (.agg [.d (dB x.1), .d (dB x.2.1), .d (dB x.2.2.1), .d (dB x.2.2.2.1), .d (dB x.2.2.2.2.1), .d (dB x.2.2.2.2.2.1), .d (dI x.2.2.2.2.2.2.1), .d (dI x.2.2.2.2.2.2.2.1), .d (dI x.2.2.2.2.2.2.2.2.1), .d (dI x.2.2.2.2.2.2.2.2.2)]), [])
def m23 (l_0 : Bool) (l_1 : List (Bs × Bs)) : Option R23 :=
  (m59 l_0 l_1).bind fun yr2 =>
    (m60 false ([([110, 111, 45, 115, 116, 111, 114, 101] : Bs)] : List Bs) yr2).bind fun yr4 =>
      (m60 false ([([110, 111, 45, 99, 97, 99, 104, 101] : Bs)] : List Bs) yr2).bind fun yr6 =>
        (m60 false ([([112, 114, 105, 118, 97, 116, 101] : Bs)] : List Bs) yr2).bind fun yr8 =>
          (m60 false ([([112, 117, 98, 108, 105, 99] : Bs)] : List Bs) yr2).bind fun yr10 =>
            (m60 false ([([109, 117, 115, 116, 45, 114, 101, 118, 97, 108, 105, 100, 97, 116, 101] : Bs), ([112, 114, 111, 120, 121, 45, 114, 101, 118, 97, 108, 105, 100, 97, 116, 101] : Bs)] : List Bs) yr2).bind fun yr12 =>
              (m61 (!(hasM ([109, 97, 120, 45, 97, 103, 101] : Bs) yr2)) (valM ([109, 97, 120, 45, 97, 103, 101] : Bs) yr2)).bind fun yr14 =>
                (m61 (!(hasM ([115, 45, 109, 97, 120, 97, 103, 101] : Bs) yr2)) (valM ([115, 45, 109, 97, 120, 97, 103, 101] : Bs) yr2)).bind fun yr16 =>
                  some (yr4, yr6, yr8, yr10, yr12, false, yr14, yr16, (-1 : Int), (-1 : Int))
def k23 := Q (rx c23_1) (Q @ao78 (Q (rx c23_3) (Q @ent59 (Q @prm59 (Q @f59_t (Q @e59.eq_1 (Q @c23_5_r (Q (show opsOf c23_5 = _ :: _ from rfl) (Q @hd79 (Q @nv80 (Q @rw81 (Q @ent60 (Q @prm60 (Q (fun (mm : Int) (yr2 : R59) => (show callW (E0 mm) 60 [.c (.mp 0), cd (.lst false (enL enS ([([110, 111, 45, 115, 116, 111, 114, 101] : Bs)] : List Bs)))] [.amap (enM yr2)] = _ from f60_t false ([([110, 111, 45, 115, 116, 111, 114, 101] : Bs)] : List Bs) yr2)) (Q @f60_t (Q setF (Q @e60.eq_1 (Q (fun (mm : Int) (yr2 : R59) => (show callW (E0 mm) 60 [.c (.mp 0), cd (.lst false (enL enS ([([110, 111, 45, 99, 97, 99, 104, 101] : Bs)] : List Bs)))] [.amap (enM yr2)] = _ from f60_t false ([([110, 111, 45, 99, 97, 99, 104, 101] : Bs)] : List Bs) yr2)) (Q (fun (mm : Int) (yr2 : R59) => (show callW (E0 mm) 60 [.c (.mp 0), cd (.lst false (enL enS ([([112, 114, 105, 118, 97, 116, 101] : Bs)] : List Bs)))] [.amap (enM yr2)] = _ from f60_t false ([([112, 114, 105, 118, 97, 116, 101] : Bs)] : List Bs) yr2)) (Q (fun (mm : Int) (yr2 : R59) => (show callW (E0 mm) 60 [.c (.mp 0), cd (.lst false (enL enS ([([112, 117, 98, 108, 105, 99] : Bs)] : List Bs)))] [.amap (enM yr2)] = _ from f60_t false ([([112, 117, 98, 108, 105, 99] : Bs)] : List Bs) yr2)) (Q @ns82 (Q (fun (mm : Int) (yr2 : R59) => (show callW (E0 mm) 60 [.c (.mp 0), cd (.lst false (enL enS ([([109, 117, 115, 116, 45, 114, 101, 118, 97, 108, 105, 100, 97, 116, 101] : Bs), ([112, 114, 111, 120, 121, 45, 114, 101, 118, 97, 108, 105, 100, 97, 116, 101] : Bs)] : List Bs)))] [.amap (enM yr2)] = _ from f60_t false ([([109, 117, 115, 116, 45, 114, 101, 118, 97, 108, 105, 100, 97, 116, 101] : Bs), ([112, 114, 111, 120, 121, 45, 114, 101, 118, 97, 108, 105, 100, 97, 116, 101] : Bs)] : List Bs) yr2)) (Q @ent61 (Q @prm61 (Q @f61_t (Q @e61.eq_1 (Q (nE c23_0 (.seq c23_1 (.seq c23_3 (.seq c23_5 .ret)))) hA)))))))))))))))))))))))))))
theorem f23_t (l_0 : Bool) (l_1 : List (Bs × Bs)) :
    callW (E0 mm) 23 [cd (.lst l_0 (enL enSS l_1))] [] = (m23 l_0 l_1).map e23 := by
  rw [cR c23_0 [.cell 2 37] Tryz.func23]
  unfold m23; exact go k23 trivial
noncomputable def c110_0 : Code := bodyOf Tryz.f110
def c110_1 := cA c110_0
def c110_3 := cA (cB c110_0)
def c110_6 := cA (cA (cB (cB c110_0)))
def c110_9 := cA (cA (cB (cA (cB (cB c110_0)))))
def c110_13 := cA (cB (cB (cB c110_0)))
abbrev R110 := (Bs × Bool)
def e110 (x : R110) : AV × Heap := (.tup [cd (dS x.1), cd (dB x.2)], [])
def m110 (r0_0 : Int) (r0_1 : Bs) (r0_2 : Int) (r0_3 : Bool) (r0_4 : List (Bs × Bs)) (r0_5 : Bool) (r0_6 : List UInt8) (name : Bs) : Option R110 :=
  (m29 r0_3 r0_4 name).bind fun yr2 =>
    if ((yr2.2.length : Int) == 1) = true then
      if (0 : Int) < (yr2.2.length : Int) then
        some ((yr2.2.getD 0 default), true)
      else none
    else
      some (([] : Bs), false)
def k110 := Q (rx c110_1) (Q (rx c110_3) (Q @f29_t (Q @e29.eq_1 (Q (rx c110_6) (Q (rx c110_13) (Q (rx c110_9) (Q (nE c110_0 (.seq c110_1 (.seq c110_3 (.seq (.seq c110_6 (.cond _ (.seq c110_9 .ret) .skip)) (.seq c110_13 .ret))))) hA)))))))
theorem f110_t (r0_0 : Int) (r0_1 : Bs) (r0_2 : Int) (r0_3 : Bool) (r0_4 : List (Bs × Bs)) (r0_5 : Bool) (r0_6 : List UInt8) (name : Bs) :
    callW (E0 mm) 110 [.agg [.d (dI r0_0), .d (dS r0_1), .d (dI r0_2), .d (.lst r0_3 (enL enSS r0_4)), .d (.lst r0_5 (enL enB r0_6))], cd (dS name)] [] = (m110 r0_0 r0_1 r0_2 r0_3 r0_4 r0_5 r0_6 name).map e110 := by
  rw [cR c110_0 [.tmp 4, .tmp 5] Tryz.func110]
  unfold m110; exact go k110 trivial
noncomputable def c117_0 : Code := bodyOf Tryz.f117
def c117_1 := cA c117_0
def c117_3 := cA (cB c117_0)
abbrev R117 := (Int)
def e117 (x : R117) : AV × Heap := (vd (dI x), [])
def m117 (s substr : Bs) : Option R117 :=
  (mIx s substr).bind fun yr2 =>
    some yr2
def k117 := Q (rx c117_1) (Q (rx c117_3) (Q @pIndex_t (Q (nE c117_0 (.seq c117_1 (.seq c117_3 .ret))) hA)))
theorem f117_t (s substr : Bs) :
    callW (E0 mm) 117 [cd (dS s), cd (dS substr)] [] = (m117 s substr).map e117 := by
  rw [cR c117_0 [.tmp 4] Tryz.func117]
  unfold m117; exact go k117 trivial
end
end Go.Proofs.YtbkobjepahlegaaGreatDoor
