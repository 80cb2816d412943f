/- The Go functions as plain functions, and that the evaluator computes them. -/
import Derived.Test.YtbdjemdhjanffaaDoorFOrder1
set_option linter.all false
set_option maxRecDepth 100000
namespace Go.Proofs.YtbdjemdhjanffaaDoor
open Go Go.Ab
open Nat renaming reduceEqDiff → za, reduceAdd → zb, reduceLeDiff → zc, reduceLT → zd, reduceMul → ze, reduceBEq → zf, reduceSub → zg, reducePow → zh
open Int renaming reduceEq → zi, reduceLE → zj, reduceLT → zk, reduceToNat → zl, reduceNegSucc → zm, reduceAdd → zn, reduceBEq → zo
open String renaming reduceBEq → zp
set_option maxHeartbeats 4000000
noncomputable section
variable {mm : Int}
abbrev R32 := (Bs)
def j32_22 (s0 : Bs) (b3_0 : Bool) (b3_1 : List UInt8) (i4 : Int) : Option ((Bs × Bool × List UInt8 × Int) ⊕ R32) :=
  some (.inl (s0, b3_0, b3_1, (w64 (i4 + 1))))
def j32_19 (s0 : Bs) (b3_0 : Bool) (b3_1 : List UInt8) (i4 : Int) (t20 : Bool) : Option ((Bs × Bool × List UInt8 × Int) ⊕ R32) :=
  if t20 = true then
    if 0 ≤ i4 ∧ i4 < (s0.length : Int) then
      if (b3_1.length + 1) * 1 ≤ 140737488355328 then
        j32_22 s0 false (b3_1 ++ ([((s0.getD i4.toNat 0) + (32 : UInt8))] : List UInt8)) i4
      else none
    else none
  else
    if 0 ≤ i4 ∧ i4 < (s0.length : Int) then
      if (b3_1.length + 1) * 1 ≤ 140737488355328 then
        j32_22 s0 false (b3_1 ++ ([(s0.getD i4.toNat 0)] : List UInt8)) i4
      else none
    else none
def j32_23 (b3_0 : Bool) (b3_1 : List UInt8) : Option R32 :=
  some b3_1
def s32_8 (s0 : Bs) (b3_0 : Bool) (b3_1 : List UInt8) (i4 : Int) : Option ((Bs × Bool × List UInt8 × Int) ⊕ R32) :=
  if (decide (i4 < (s0.length : Int))) = true then
    if 0 ≤ i4 ∧ i4 < (s0.length : Int) then
      if (decide ((65 : UInt8) ≤ (s0.getD i4.toNat 0))) = true then
        j32_19 s0 b3_0 b3_1 i4 (decide ((s0.getD i4.toNat 0) ≤ (90 : UInt8)))
      else
        j32_19 s0 b3_0 b3_1 i4 false
    else none
  else
    (j32_23 b3_0 b3_1).map .inr
def l32_8 (s0 : Bs) (b3_0 : Bool) (b3_1 : List UInt8) (i4 : Int) : Option R32 := iter (fun x : (Bs × Bool × List UInt8 × Int) => s32_8 x.1 x.2.1 x.2.2.1 x.2.2.2) (s0, b3_0, b3_1, i4)
def m32 (s : Bs) : Option R32 :=
  l32_8 s true ([] : List UInt8) (0 : Int)
abbrev R31 := (Bool)
def m31 (a b : Bs) : Option R31 :=
  (m32 a).bind fun yr2 =>
    (m32 b).bind fun yr4 =>
      some (yr2 == yr4)
abbrev R48 := (Int)
def j48_20 (s0 : Bs) (at1 : Int) : Option ((Bs × Int) ⊕ R48) :=
  some (.inl (s0, (w64 (at1 + 1))))
def j48_21 (s0 : Bs) (at1 : Int) : Option R48 :=
  if (decide ((s0.length : Int) ≤ at1)) = true then
    some (s0.length : Int)
  else
    some (w64 (at1 + 1))
def j48_10 (s0 : Bs) (at1 : Int) (t16 : Bool) : Option ((Bs × Int) ⊕ R48) :=
  if t16 = true then
    if 0 ≤ at1 ∧ at1 < (s0.length : Int) then
      if ((s0.getD at1.toNat 0) == (92 : UInt8)) = true then
        j48_20 s0 (w64 (at1 + 1))
      else
        j48_20 s0 at1
    else none
  else
    (j48_21 s0 at1).map .inr
def s48_6 (s0 : Bs) (at1 : Int) : Option ((Bs × Int) ⊕ R48) :=
  if (decide (at1 < (s0.length : Int))) = true then
    if 0 ≤ at1 ∧ at1 < (s0.length : Int) then
      j48_10 s0 at1 (!((s0.getD at1.toNat 0) == (34 : UInt8)))
    else none
  else
    j48_10 s0 at1 false
def l48_6 (s0 : Bs) (at1 : Int) : Option R48 := iter (fun x : (Bs × Int) => s48_6 x.1 x.2) (s0, at1)
def m48 (s : Bs) (xat : Int) : Option R48 :=
  l48_6 s (w64 (xat + 1))
abbrev R49 := (Bs)
def j49_26 (s0 : Bs) (from3 to4 : Int) : Option R49 :=
  (bnd to4 s0.length).bind fun yk10 =>
    (bnd from3 yk10).bind fun yk12 =>
      some ((s0.take yk10).drop yk12)
def j49_21 (s0 : Bs) (from3 to4 : Int) (t40 : Bool) : Option ((Bs × Int × Int) ⊕ R49) :=
  if t40 = true then
    some (.inl (s0, from3, (w64 (to4 - 1))))
  else
    (j49_26 s0 from3 to4).map .inr
def s49_17 (s0 : Bs) (from3 to4 : Int) : Option ((Bs × Int × Int) ⊕ R49) :=
  if (decide (from3 < to4)) = true then
    if 0 ≤ (w64 (to4 - 1)) ∧ (w64 (to4 - 1)) < (s0.length : Int) then
      if ((s0.getD (w64 (to4 - 1)).toNat 0) == (32 : UInt8)) = true then
        j49_21 s0 from3 to4 true
      else
        j49_21 s0 from3 to4 ((s0.getD (w64 (to4 - 1)).toNat 0) == (9 : UInt8))
    else none
  else
    j49_21 s0 from3 to4 false
def l49_17 (s0 : Bs) (from3 to4 : Int) : Option R49 := iter (fun x : (Bs × Int × Int) => s49_17 x.1 x.2.1 x.2.2) (s0, from3, to4)
def j49_15 (s0 : Bs) (from3 to4 : Int) : Option R49 :=
  l49_17 s0 from3 to4
def j49_10 (s0 : Bs) (from3 to4 : Int) (t21 : Bool) : Option ((Bs × Int × Int) ⊕ R49) :=
  if t21 = true then
    some (.inl (s0, (w64 (from3 + 1)), to4))
  else
    (j49_15 s0 from3 to4).map .inr
def s49_6 (s0 : Bs) (from3 to4 : Int) : Option ((Bs × Int × Int) ⊕ R49) :=
  if (decide (from3 < to4)) = true then
    if 0 ≤ from3 ∧ from3 < (s0.length : Int) then
      if ((s0.getD from3.toNat 0) == (32 : UInt8)) = true then
        j49_10 s0 from3 to4 true
      else
        j49_10 s0 from3 to4 ((s0.getD from3.toNat 0) == (9 : UInt8))
    else none
  else
    j49_10 s0 from3 to4 false
def l49_6 (s0 : Bs) (from3 to4 : Int) : Option R49 := iter (fun x : (Bs × Int × Int) => s49_6 x.1 x.2.1 x.2.2) (s0, from3, to4)
def m49 (s : Bs) : Option R49 :=
  l49_6 s (0 : Int) (s.length : Int)
abbrev R40 := (Bool × List Bs)
def j40_40 (s0 : Bs) (l3_0 : Bool) (l3_1 : List Bs) (from4 at5 : Int) : Option ((Bs × Bool × List Bs × Int × Int) ⊕ R40) :=
  some (.inl (s0, l3_0, l3_1, from4, (w64 (at5 + 1))))
def j40_38 (s0 : Bs) (l3_0 : Bool) (l3_1 : List Bs) (at5 : Int) : Option ((Bs × Bool × List Bs × Int × Int) ⊕ R40) :=
  j40_40 s0 l3_0 l3_1 (w64 (at5 + 1)) at5
def j40_29 (s0 : Bs) (l3_0 : Bool) (l3_1 : List Bs) (from4 at5 : Int) (t33 : Bool) : Option ((Bs × Bool × List Bs × Int × Int) ⊕ R40) :=
  if t33 = true then
    (bnd at5 s0.length).bind fun yk10 =>
      (bnd from4 yk10).bind fun yk12 =>
        (m49 ((s0.take yk10).drop yk12)).bind fun yr14 =>
          if (yr14 == ([] : Bs)) = true then
            j40_38 s0 l3_0 l3_1 at5
          else
            if (l3_1.length + 1) * 16 ≤ 140737488355328 then
              j40_38 s0 false (l3_1 ++ ([yr14] : List Bs)) at5
            else none
  else
    j40_40 s0 l3_0 l3_1 from4 at5
def j40_21 (s0 : Bs) (l3_0 : Bool) (l3_1 : List Bs) (from4 at5 : Int) (t20 : Bool) : Option ((Bs × Bool × List Bs × Int × Int) ⊕ R40) :=
  if t20 = true then
    (m48 s0 at5).bind fun yr6 =>
      some (.inl (s0, l3_0, l3_1, from4, yr6))
  else
    if (at5 == (s0.length : Int)) = true then
      j40_29 s0 l3_0 l3_1 from4 at5 true
    else
      if 0 ≤ at5 ∧ at5 < (s0.length : Int) then
        j40_29 s0 l3_0 l3_1 from4 at5 ((s0.getD at5.toNat 0) == (44 : UInt8))
      else none
def j40_41 (l3_0 : Bool) (l3_1 : List Bs) : Option R40 :=
  some (l3_0, l3_1)
def s40_10 (s0 : Bs) (l3_0 : Bool) (l3_1 : List Bs) (from4 at5 : Int) : Option ((Bs × Bool × List Bs × Int × Int) ⊕ R40) :=
  if (decide (at5 ≤ (s0.length : Int))) = true then
    if (decide (at5 < (s0.length : Int))) = true then
      if 0 ≤ at5 ∧ at5 < (s0.length : Int) then
        j40_21 s0 l3_0 l3_1 from4 at5 ((s0.getD at5.toNat 0) == (34 : UInt8))
      else none
    else
      j40_21 s0 l3_0 l3_1 from4 at5 false
  else
    (j40_41 l3_0 l3_1).map .inr
def l40_10 (s0 : Bs) (l3_0 : Bool) (l3_1 : List Bs) (from4 at5 : Int) : Option R40 := iter (fun x : (Bs × Bool × List Bs × Int × Int) => s40_10 x.1 x.2.1 x.2.2.1 x.2.2.2.1 x.2.2.2.2) (s0, l3_0, l3_1, from4, at5)
def m40 (s : Bs) : Option R40 :=
  l40_10 s true ([] : List Bs) (0 : Int) (0 : Int)
abbrev R27 := (Bool × List Bs)
def j27_22 (l0_0 : Bool) (l0_1 : List (Bs × Bs)) (name1 : Bs) (out5_0 : Bool) (out5_1 : List Bs) (i6 : Int) : Option ((Bool × List (Bs × Bs) × Bs × Bool × List Bs × Int) ⊕ R27) :=
  some (.inl (l0_0, l0_1, name1, out5_0, out5_1, (w64 (i6 + 1))))
def j27_22v1 (l0_0 : Bool) (l0_1 : List (Bs × Bs)) (name1 : Bs) (out5_0 : Bool) (out5_1 : List Bs) (i6 : Int) : Option ((Bool × List (Bs × Bs) × Bs × Bool × List Bs × Int) ⊕ R27) :=
  some (.inl (l0_0, l0_1, name1, out5_0, out5_1, (w64 (i6 + 1))))
def j27_23 (out5_0 : Bool) (out5_1 : List Bs) : Option R27 :=
  some (out5_0, out5_1)
def s27_8 (l0_0 : Bool) (l0_1 : List (Bs × Bs)) (name1 : Bs) (out5_0 : Bool) (out5_1 : List Bs) (i6 : Int) : Option ((Bool × List (Bs × Bs) × Bs × Bool × List Bs × Int) ⊕ R27) :=
  if (decide (i6 < (l0_1.length : Int))) = true then
    if 0 ≤ i6 ∧ i6 < (l0_1.length : Int) then
      (m31 ((l0_1.getD i6.toNat default).1) name1).bind fun yr5 =>
        if yr5 = true then
          (m40 ((l0_1.getD i6.toNat default).2)).bind fun yr8 =>
            if yr8.2 = [] ∨ (out5_1.length + yr8.2.length) * 16 ≤ 140737488355328 then
              j27_22 l0_0 l0_1 name1 (out5_0 && yr8.2.isEmpty) (out5_1 ++ yr8.2) i6
            else none
        else
          j27_22v1 l0_0 l0_1 name1 out5_0 out5_1 i6
    else none
  else
    (j27_23 out5_0 out5_1).map .inr
def l27_8 (l0_0 : Bool) (l0_1 : List (Bs × Bs)) (name1 : Bs) (out5_0 : Bool) (out5_1 : List Bs) (i6 : Int) : Option R27 := iter (fun x : (Bool × List (Bs × Bs) × Bs × Bool × List Bs × Int) => s27_8 x.1 x.2.1 x.2.2.1 x.2.2.2.1 x.2.2.2.2.1 x.2.2.2.2.2) (l0_0, l0_1, name1, out5_0, out5_1, i6)
def m27 (l_0 : Bool) (l_1 : List (Bs × Bs)) (name : Bs) : Option R27 :=
  l27_8 l_0 l_1 name true ([] : List Bs) (0 : Int)
abbrev R41 := (Bool)
def j41_35 (s0 signs3 : Bs) (i4 : Int) (c5 : UInt8) (is6 : Bool) (k7 : Int) : Option ((Bs × Bs × Int × UInt8 × Bool × Int) ⊕ ((Bs × Bs × Int) ⊕ R41)) :=
  some (.inl (s0, signs3, i4, c5, is6, (w64 (k7 + 1))))
def j41_36 (s0 signs3 : Bs) (i4 : Int) (is6 : Bool) : Option ((Bs × Bs × Int) ⊕ R41) :=
  if is6 = true then
    some (.inl (s0, signs3, (w64 (i4 + 1))))
  else
    some (.inr false)
def s41_25 (s0 signs3 : Bs) (i4 : Int) (c5 : UInt8) (is6 : Bool) (k7 : Int) : Option ((Bs × Bs × Int × UInt8 × Bool × Int) ⊕ ((Bs × Bs × Int) ⊕ R41)) :=
  if (decide (k7 < (signs3.length : Int))) = true then
    if is6 = true then
      j41_35 s0 signs3 i4 c5 true k7
    else
      if 0 ≤ k7 ∧ k7 < (signs3.length : Int) then
        j41_35 s0 signs3 i4 c5 ((signs3.getD k7.toNat 0) == c5) k7
      else none
  else
    (j41_36 s0 signs3 i4 is6).map .inr
def l41_25 (s0 signs3 : Bs) (i4 : Int) (c5 : UInt8) (is6 : Bool) (k7 : Int) : Option ((Bs × Bs × Int) ⊕ R41) := iter (fun x : (Bs × Bs × Int × UInt8 × Bool × Int) => s41_25 x.1 x.2.1 x.2.2.1 x.2.2.2.1 x.2.2.2.2.1 x.2.2.2.2.2) (s0, signs3, i4, c5, is6, k7)
def j41_21 (s0 signs3 : Bs) (i4 : Int) (c5 : UInt8) (is6 : Bool) : Option ((Bs × Bs × Int) ⊕ R41) :=
  l41_25 s0 signs3 i4 c5 is6 (0 : Int)
def j41_44 (s0 : Bs) : Option R41 :=
  some (decide (0 < (s0.length : Int)))
def s41_8 (s0 signs3 : Bs) (i4 : Int) : Option ((Bs × Bs × Int) ⊕ R41) :=
  if (decide (i4 < (s0.length : Int))) = true then
    if 0 ≤ i4 ∧ i4 < (s0.length : Int) then
      if (decide ((97 : UInt8) ≤ (s0.getD i4.toNat 0))) = true then
        if (decide ((s0.getD i4.toNat 0) ≤ (122 : UInt8))) = true then
          j41_21 s0 signs3 i4 (s0.getD i4.toNat 0) true
        else
          if (decide ((65 : UInt8) ≤ (s0.getD i4.toNat 0))) = true then
            if (decide ((s0.getD i4.toNat 0) ≤ (90 : UInt8))) = true then
              j41_21 s0 signs3 i4 (s0.getD i4.toNat 0) true
            else
              if (decide ((48 : UInt8) ≤ (s0.getD i4.toNat 0))) = true then
                j41_21 s0 signs3 i4 (s0.getD i4.toNat 0) (decide ((s0.getD i4.toNat 0) ≤ (57 : UInt8)))
              else
                j41_21 s0 signs3 i4 (s0.getD i4.toNat 0) false
          else
            if (decide ((48 : UInt8) ≤ (s0.getD i4.toNat 0))) = true then
              j41_21 s0 signs3 i4 (s0.getD i4.toNat 0) (decide ((s0.getD i4.toNat 0) ≤ (57 : UInt8)))
            else
              j41_21 s0 signs3 i4 (s0.getD i4.toNat 0) false
      else
        if (decide ((65 : UInt8) ≤ (s0.getD i4.toNat 0))) = true then
          if (decide ((s0.getD i4.toNat 0) ≤ (90 : UInt8))) = true then
            j41_21 s0 signs3 i4 (s0.getD i4.toNat 0) true
          else
            if (decide ((48 : UInt8) ≤ (s0.getD i4.toNat 0))) = true then
              j41_21 s0 signs3 i4 (s0.getD i4.toNat 0) (decide ((s0.getD i4.toNat 0) ≤ (57 : UInt8)))
            else
              j41_21 s0 signs3 i4 (s0.getD i4.toNat 0) false
        else
          if (decide ((48 : UInt8) ≤ (s0.getD i4.toNat 0))) = true then
            j41_21 s0 signs3 i4 (s0.getD i4.toNat 0) (decide ((s0.getD i4.toNat 0) ≤ (57 : UInt8)))
          else
            j41_21 s0 signs3 i4 (s0.getD i4.toNat 0) false
    else none
  else
    (j41_44 s0).map .inr
def l41_8 (s0 signs3 : Bs) (i4 : Int) : Option R41 := iter (fun x : (Bs × Bs × Int) => s41_8 x.1 x.2.1 x.2.2) (s0, signs3, i4)
def m41 (s : Bs) : Option R41 :=
  l41_8 s ([33, 35, 36, 37, 38, 39, 42, 43, 45, 46, 94, 95, 96, 124, 126] : Bs) (0 : Int)
abbrev R50 := (Bool)
def m50 (c : UInt8) : Option R50 :=
  if (c == (9 : UInt8)) = true then
    some true
  else
    if (decide ((32 : UInt8) ≤ c)) = true then
      if (decide (c ≤ (126 : UInt8))) = true then
        some true
      else
        some (decide ((128 : UInt8) ≤ c))
    else
      some (decide ((128 : UInt8) ≤ c))
abbrev R42 := (Bs × Bool)
def j42_33 (s0 : Bs) (b4_0 : Bool) (b4_1 : List UInt8) (at5 : Int) (t40 : Bool) : Option ((Bs × Bool × List UInt8 × Int) ⊕ R42) :=
  if t40 = true then
    some (.inr (([] : Bs), false))
  else
    if 0 ≤ at5 ∧ at5 < (s0.length : Int) then
      if (b4_1.length + 1) * 1 ≤ 140737488355328 then
        some (.inl (s0, false, (b4_1 ++ ([(s0.getD at5.toNat 0)] : List UInt8)), (w64 (at5 + 1))))
      else none
    else none
def j42_30 (s0 : Bs) (b4_0 : Bool) (b4_1 : List UInt8) (at5 : Int) : Option ((Bs × Bool × List UInt8 × Int) ⊕ R42) :=
  if (decide ((s0.length : Int) ≤ at5)) = true then
    j42_33 s0 b4_0 b4_1 at5 true
  else
    if 0 ≤ at5 ∧ at5 < (s0.length : Int) then
      (m50 (s0.getD at5.toNat 0)).bind fun yr14 =>
        j42_33 s0 b4_0 b4_1 at5 (!yr14)
    else none
def j42_41 (s0 : Bs) (b4_0 : Bool) (b4_1 : List UInt8) (at5 : Int) : Option R42 :=
  if (at5 == (w64 ((s0.length : Int) - 1))) = true then
    some (b4_1, true)
  else
    some (([] : Bs), false)
def j42_20 (s0 : Bs) (b4_0 : Bool) (b4_1 : List UInt8) (at5 : Int) (t23 : Bool) : Option ((Bs × Bool × List UInt8 × Int) ⊕ R42) :=
  if t23 = true then
    if 0 ≤ at5 ∧ at5 < (s0.length : Int) then
      if ((s0.getD at5.toNat 0) == (92 : UInt8)) = true then
        j42_30 s0 b4_0 b4_1 (w64 (at5 + 1))
      else
        j42_30 s0 b4_0 b4_1 at5
    else none
  else
    (j42_41 s0 b4_0 b4_1 at5).map .inr
def s42_16 (s0 : Bs) (b4_0 : Bool) (b4_1 : List UInt8) (at5 : Int) : Option ((Bs × Bool × List UInt8 × Int) ⊕ R42) :=
  if (decide (at5 < (s0.length : Int))) = true then
    if 0 ≤ at5 ∧ at5 < (s0.length : Int) then
      j42_20 s0 b4_0 b4_1 at5 (!((s0.getD at5.toNat 0) == (34 : UInt8)))
    else none
  else
    j42_20 s0 b4_0 b4_1 at5 false
def l42_16 (s0 : Bs) (b4_0 : Bool) (b4_1 : List UInt8) (at5 : Int) : Option R42 := iter (fun x : (Bs × Bool × List UInt8 × Int) => s42_16 x.1 x.2.1 x.2.2.1 x.2.2.2) (s0, b4_0, b4_1, at5)
def j42_5 (s0 : Bs) (t13 : Bool) : Option R42 :=
  if t13 = true then
    some (([] : Bs), false)
  else
    l42_16 s0 true ([] : List UInt8) (1 : Int)
def m42 (s : Bs) : Option R42 :=
  if ((s.length : Int) == 0) = true then
    j42_5 s true
  else
    if (0 : Int) < (s.length : Int) then
      j42_5 s (!((s.getD 0 0) == (34 : UInt8)))
    else none
abbrev R28 := (Bs × Bs × Bool)
def j28_15 (s0 : Bs) (n5 : Int) : Option R28 :=
  (bnd n5 s0.length).bind fun yk5 =>
    (m41 (s0.take yk5)).bind fun yr7 =>
      if yr7 = true then
        if (n5 == (s0.length : Int)) = true then
          (m32 s0).bind fun yr11 =>
            some (yr11, ([] : Bs), true)
        else
          (bnd (w64 (n5 + 1)) s0.length).bind fun yk13 =>
            (m41 (s0.drop yk13)).bind fun yr15 =>
              if yr15 = true then
                (m32 (s0.take yk5)).bind fun yr18 =>
                  some (yr18, (s0.drop yk13), true)
              else
                (m42 (s0.drop yk13)).bind fun yr20 =>
                  if yr20.2 = true then
                    (m32 (s0.take yk5)).bind fun yr23 =>
                      some (yr23, yr20.1, true)
                  else
                    some (([] : Bs), ([] : Bs), false)
      else
        some (([] : Bs), ([] : Bs), false)
def j28_10 (s0 : Bs) (n5 : Int) (t18 : Bool) : Option ((Bs × Int) ⊕ R28) :=
  if t18 = true then
    some (.inl (s0, (w64 (n5 + 1))))
  else
    (j28_15 s0 n5).map .inr
def s28_6 (s0 : Bs) (n5 : Int) : Option ((Bs × Int) ⊕ R28) :=
  if (decide (n5 < (s0.length : Int))) = true then
    if 0 ≤ n5 ∧ n5 < (s0.length : Int) then
      j28_10 s0 n5 (!((s0.getD n5.toNat 0) == (61 : UInt8)))
    else none
  else
    j28_10 s0 n5 false
def l28_6 (s0 : Bs) (n5 : Int) : Option R28 := iter (fun x : (Bs × Int) => s28_6 x.1 x.2) (s0, n5)
def m28 (s : Bs) : Option R28 :=
  l28_6 s (0 : Int)
abbrev R29 := (Int)
def j29_27 (s0 : Bs) (n3 i4 : Int) (t24 : Bool) : Option ((Bs × Int × Int) ⊕ R29) :=
  if t24 = true then
    some (.inr (0 : Int))
  else
    some (.inl (s0, n3, (w64 (i4 + 1))))
def j29_53 (s0 : Bs) (n3 i5 : Int) : Option ((Bs × Int × Int) ⊕ R29) :=
  some (.inl (s0, n3, (w64 (i5 + 1))))
def j29_54 (n3 : Int) : Option R29 :=
  some n3
def s29_37 (s0 : Bs) (n3 i5 : Int) : Option ((Bs × Int × Int) ⊕ R29) :=
  if (decide (i5 < (s0.length : Int))) = true then
    if 0 ≤ i5 ∧ i5 < (s0.length : Int) then
      if (decide (2147483647 < (w64 ((w64 (10 * n3)) + (((s0.getD i5.toNat 0) - (48 : UInt8)).toNat : Int))))) = true then
        j29_53 s0 (2147483647 : Int) i5
      else
        j29_53 s0 (w64 ((w64 (10 * n3)) + (((s0.getD i5.toNat 0) - (48 : UInt8)).toNat : Int))) i5
    else none
  else
    (j29_54 n3).map .inr
def l29_37 (s0 : Bs) (n3 i5 : Int) : Option R29 := iter (fun x : (Bs × Int × Int) => s29_37 x.1 x.2.1 x.2.2) (s0, n3, i5)
def j29_33 (s0 : Bs) (n3 : Int) : Option R29 :=
  l29_37 s0 n3 (0 : Int)
def s29_16 (s0 : Bs) (n3 i4 : Int) : Option ((Bs × Int × Int) ⊕ R29) :=
  if (decide (i4 < (s0.length : Int))) = true then
    if 0 ≤ i4 ∧ i4 < (s0.length : Int) then
      if (decide ((s0.getD i4.toNat 0) < (48 : UInt8))) = true then
        j29_27 s0 n3 i4 true
      else
        j29_27 s0 n3 i4 (decide ((57 : UInt8) < (s0.getD i4.toNat 0)))
    else none
  else
    (j29_33 s0 n3).map .inr
def l29_16 (s0 : Bs) (n3 i4 : Int) : Option R29 := iter (fun x : (Bs × Int × Int) => s29_16 x.1 x.2.1 x.2.2) (s0, n3, i4)
def m29 (s : Bs) : Option R29 :=
  if ((s.length : Int) == 0) = true then
    some (0 : Int)
  else
    l29_16 s (0 : Int) (0 : Int)
abbrev R30 := (Int)
def j30_5 (was0 n1 : Int) (t11 : Bool) : Option R30 :=
  if t11 = true then
    some n1
  else
    some was0
def m30 (was n : Int) : Option R30 :=
  if (decide (was < 0)) = true then
    j30_5 was n true
  else
    j30_5 was n (decide (n < was))
abbrev R8 := (Bool × Bool × Bool × Bool × Bool × Bool × Int × Int × Int × Int)
def j8_67 (l0_0 : Bool) (l0_1 : List (Bs × Bs)) (all4_0 : Bool) (all4_1 : List Bs) (i5 : Int) (h0_0 h0_1 : Bool) (h0_2 h0_3 : Bool) (h0_4 h0_5 : Bool) (h0_6 h0_7 : Int) (h0_8 h0_9 : Int) (h1_0 h1_1 : Bool) (h1_2 h1_3 : Bool) (h1_4 h1_5 : Bool) (h1_6 h1_7 : Int) (h1_8 h1_9 : Int) : Option ((Bool × List (Bs × Bs) × Bool × List Bs × Int × Bool × Bool × Bool × Bool × Bool × Bool × Int × Int × Int × Int × Bool × Bool × Bool × Bool × Bool × Bool × Int × Int × Int × Int) ⊕ R8) :=
  some (.inl (l0_0, l0_1, all4_0, all4_1, (w64 (i5 + 1)), h0_0, h0_1, h0_2, h0_3, h0_4, h0_5, h0_6, h0_7, h0_8, h0_9, h1_0, h1_1, h1_2, h1_3, h1_4, h1_5, h1_6, h1_7, h1_8, h1_9))
def j8_65 (l0_0 : Bool) (l0_1 : List (Bs × Bs)) (all4_0 : Bool) (all4_1 : List Bs) (i5 n9 : Int) (h0_0 h0_1 : Bool) (h0_2 h0_3 : Bool) (h0_4 h0_5 : Bool) (h0_6 h0_7 : Int) (h0_8 h0_9 : Int) (h1_0 h1_1 : Bool) (h1_2 h1_3 : Bool) (h1_4 h1_5 : Bool) (h1_6 h1_7 : Int) (h1_8 h1_9 : Int) : Option ((Bool × List (Bs × Bs) × Bool × List Bs × Int × Bool × Bool × Bool × Bool × Bool × Bool × Int × Int × Int × Int × Bool × Bool × Bool × Bool × Bool × Bool × Int × Int × Int × Int) ⊕ R8) :=
  (m30 h1_9 n9).bind fun yr22 =>
    j8_67 l0_0 l0_1 all4_0 all4_1 i5 h0_0 h0_1 h0_2 h0_3 h0_4 h0_5 h0_6 h0_7 h0_8 h0_9 h1_0 h1_1 h1_2 h1_3 h1_4 h1_5 h1_6 h1_7 h1_8 yr22
def j8_109 (old11_0 : Bool) (old11_1 : List Bs) (i12 : Int) (h0_0 h0_1 : Bool) (h0_2 h0_3 : Bool) (h0_4 h0_5 : Bool) (h0_6 h0_7 : Int) (h0_8 h0_9 : Int) (h1_0 h1_1 : Bool) (h1_2 h1_3 : Bool) (h1_4 h1_5 : Bool) (h1_6 h1_7 : Int) (h1_8 h1_9 : Int) : Option ((Bool × List Bs × Int × Bool × Bool × Bool × Bool × Bool × Bool × Int × Int × Int × Int × Bool × Bool × Bool × Bool × Bool × Bool × Int × Int × Int × Int) ⊕ R8) :=
  some (.inl (old11_0, old11_1, (w64 (i12 + 1)), h0_0, h0_1, h0_2, h0_3, h0_4, h0_5, h0_6, h0_7, h0_8, h0_9, h1_0, h1_1, h1_2, h1_3, h1_4, h1_5, h1_6, h1_7, h1_8, h1_9))
def j8_110 (h0_0 h0_1 : Bool) (h0_2 h0_3 : Bool) (h0_4 h0_5 : Bool) (h0_6 h0_7 : Int) (h0_8 h0_9 : Int) (h1_0 h1_1 : Bool) (h1_2 h1_3 : Bool) (h1_4 h1_5 : Bool) (h1_6 h1_7 : Int) (h1_8 h1_9 : Int) : Option R8 :=
  some (h1_0, h1_1, h1_2, h1_3, h1_4, h1_5, h1_6, h1_7, h1_8, h1_9)
def s8_95 (old11_0 : Bool) (old11_1 : List Bs) (i12 : Int) (h0_0 h0_1 : Bool) (h0_2 h0_3 : Bool) (h0_4 h0_5 : Bool) (h0_6 h0_7 : Int) (h0_8 h0_9 : Int) (h1_0 h1_1 : Bool) (h1_2 h1_3 : Bool) (h1_4 h1_5 : Bool) (h1_6 h1_7 : Int) (h1_8 h1_9 : Int) : Option ((Bool × List Bs × Int × Bool × Bool × Bool × Bool × Bool × Bool × Int × Int × Int × Int × Bool × Bool × Bool × Bool × Bool × Bool × Int × Int × Int × Int) ⊕ R8) :=
  if (decide (i12 < (old11_1.length : Int))) = true then
    if 0 ≤ i12 ∧ i12 < (old11_1.length : Int) then
      (m32 (old11_1.getD i12.toNat default)).bind fun yr35 =>
        if (yr35 == ([110, 111, 45, 99, 97, 99, 104, 101] : Bs)) = true then
          j8_109 old11_0 old11_1 i12 h0_0 h0_1 h0_2 h0_3 h0_4 h0_5 h0_6 h0_7 h0_8 h0_9 h1_0 true h1_2 h1_3 h1_4 h1_5 h1_6 h1_7 h1_8 h1_9
        else
          j8_109 old11_0 old11_1 i12 h0_0 h0_1 h0_2 h0_3 h0_4 h0_5 h0_6 h0_7 h0_8 h0_9 h1_0 h1_1 h1_2 h1_3 h1_4 h1_5 h1_6 h1_7 h1_8 h1_9
    else none
  else
    (j8_110 h0_0 h0_1 h0_2 h0_3 h0_4 h0_5 h0_6 h0_7 h0_8 h0_9 h1_0 h1_1 h1_2 h1_3 h1_4 h1_5 h1_6 h1_7 h1_8 h1_9).map .inr
def l8_95 (old11_0 : Bool) (old11_1 : List Bs) (i12 : Int) (h0_0 h0_1 : Bool) (h0_2 h0_3 : Bool) (h0_4 h0_5 : Bool) (h0_6 h0_7 : Int) (h0_8 h0_9 : Int) (h1_0 h1_1 : Bool) (h1_2 h1_3 : Bool) (h1_4 h1_5 : Bool) (h1_6 h1_7 : Int) (h1_8 h1_9 : Int) : Option R8 := iter (fun x : (Bool × List Bs × Int × Bool × Bool × Bool × Bool × Bool × Bool × Int × Int × Int × Int × Bool × Bool × Bool × Bool × Bool × Bool × Int × Int × Int × Int) => s8_95 x.1 x.2.1 x.2.2.1 x.2.2.2.1 x.2.2.2.2.1 x.2.2.2.2.2.1 x.2.2.2.2.2.2.1 x.2.2.2.2.2.2.2.1 x.2.2.2.2.2.2.2.2.1 x.2.2.2.2.2.2.2.2.2.1 x.2.2.2.2.2.2.2.2.2.2.1 x.2.2.2.2.2.2.2.2.2.2.2.1 x.2.2.2.2.2.2.2.2.2.2.2.2.1 x.2.2.2.2.2.2.2.2.2.2.2.2.2.1 x.2.2.2.2.2.2.2.2.2.2.2.2.2.2.1 x.2.2.2.2.2.2.2.2.2.2.2.2.2.2.2.1 x.2.2.2.2.2.2.2.2.2.2.2.2.2.2.2.2.1 x.2.2.2.2.2.2.2.2.2.2.2.2.2.2.2.2.2.1 x.2.2.2.2.2.2.2.2.2.2.2.2.2.2.2.2.2.2.1 x.2.2.2.2.2.2.2.2.2.2.2.2.2.2.2.2.2.2.2.1 x.2.2.2.2.2.2.2.2.2.2.2.2.2.2.2.2.2.2.2.2.1 x.2.2.2.2.2.2.2.2.2.2.2.2.2.2.2.2.2.2.2.2.2.1 x.2.2.2.2.2.2.2.2.2.2.2.2.2.2.2.2.2.2.2.2.2.2) (old11_0, old11_1, i12, h0_0, h0_1, h0_2, h0_3, h0_4, h0_5, h0_6, h0_7, h0_8, h0_9, h1_0, h1_1, h1_2, h1_3, h1_4, h1_5, h1_6, h1_7, h1_8, h1_9)
def j8_89 (l0_0 : Bool) (l0_1 : List (Bs × Bs)) (h0_0 h0_1 : Bool) (h0_2 h0_3 : Bool) (h0_4 h0_5 : Bool) (h0_6 h0_7 : Int) (h0_8 h0_9 : Int) (h1_0 h1_1 : Bool) (h1_2 h1_3 : Bool) (h1_4 h1_5 : Bool) (h1_6 h1_7 : Int) (h1_8 h1_9 : Int) : Option R8 :=
  (m27 l0_0 l0_1 ([112, 114, 97, 103, 109, 97] : Bs)).bind fun yr30 =>
    l8_95 yr30.1 yr30.2 (0 : Int) h0_0 h0_1 h0_2 h0_3 h0_4 h0_5 h0_6 h0_7 h0_8 h0_9 h1_0 h1_1 h1_2 h1_3 h1_4 h1_5 h1_6 h1_7 h1_8 h1_9
def s8_72 (l0_0 : Bool) (l0_1 : List (Bs × Bs)) (i10 : Int) (h0_0 h0_1 : Bool) (h0_2 h0_3 : Bool) (h0_4 h0_5 : Bool) (h0_6 h0_7 : Int) (h0_8 h0_9 : Int) (h1_0 h1_1 : Bool) (h1_2 h1_3 : Bool) (h1_4 h1_5 : Bool) (h1_6 h1_7 : Int) (h1_8 h1_9 : Int) : Option ((Bool × List (Bs × Bs) × Int × Bool × Bool × Bool × Bool × Bool × Bool × Int × Int × Int × Int × Bool × Bool × Bool × Bool × Bool × Bool × Int × Int × Int × Int) ⊕ R8) :=
  if (decide (i10 < (l0_1.length : Int))) = true then
    if 0 ≤ i10 ∧ i10 < (l0_1.length : Int) then
      (m31 ((l0_1.getD i10.toNat default).1) ([99, 97, 99, 104, 101, 45, 99, 111, 110, 116, 114, 111, 108] : Bs)).bind fun yr27 =>
        if yr27 = true then
          some (.inr (h1_0, h1_1, h1_2, h1_3, h1_4, h1_5, h1_6, h1_7, h1_8, h1_9))
        else
          some (.inl (l0_0, l0_1, (w64 (i10 + 1)), h0_0, h0_1, h0_2, h0_3, h0_4, h0_5, h0_6, h0_7, h0_8, h0_9, h1_0, h1_1, h1_2, h1_3, h1_4, h1_5, h1_6, h1_7, h1_8, h1_9))
    else none
  else
    (j8_89 l0_0 l0_1 h0_0 h0_1 h0_2 h0_3 h0_4 h0_5 h0_6 h0_7 h0_8 h0_9 h1_0 h1_1 h1_2 h1_3 h1_4 h1_5 h1_6 h1_7 h1_8 h1_9).map .inr
def l8_72 (l0_0 : Bool) (l0_1 : List (Bs × Bs)) (i10 : Int) (h0_0 h0_1 : Bool) (h0_2 h0_3 : Bool) (h0_4 h0_5 : Bool) (h0_6 h0_7 : Int) (h0_8 h0_9 : Int) (h1_0 h1_1 : Bool) (h1_2 h1_3 : Bool) (h1_4 h1_5 : Bool) (h1_6 h1_7 : Int) (h1_8 h1_9 : Int) : Option R8 := iter (fun x : (Bool × List (Bs × Bs) × Int × Bool × Bool × Bool × Bool × Bool × Bool × Int × Int × Int × Int × Bool × Bool × Bool × Bool × Bool × Bool × Int × Int × Int × Int) => s8_72 x.1 x.2.1 x.2.2.1 x.2.2.2.1 x.2.2.2.2.1 x.2.2.2.2.2.1 x.2.2.2.2.2.2.1 x.2.2.2.2.2.2.2.1 x.2.2.2.2.2.2.2.2.1 x.2.2.2.2.2.2.2.2.2.1 x.2.2.2.2.2.2.2.2.2.2.1 x.2.2.2.2.2.2.2.2.2.2.2.1 x.2.2.2.2.2.2.2.2.2.2.2.2.1 x.2.2.2.2.2.2.2.2.2.2.2.2.2.1 x.2.2.2.2.2.2.2.2.2.2.2.2.2.2.1 x.2.2.2.2.2.2.2.2.2.2.2.2.2.2.2.1 x.2.2.2.2.2.2.2.2.2.2.2.2.2.2.2.2.1 x.2.2.2.2.2.2.2.2.2.2.2.2.2.2.2.2.2.1 x.2.2.2.2.2.2.2.2.2.2.2.2.2.2.2.2.2.2.1 x.2.2.2.2.2.2.2.2.2.2.2.2.2.2.2.2.2.2.2.1 x.2.2.2.2.2.2.2.2.2.2.2.2.2.2.2.2.2.2.2.2.1 x.2.2.2.2.2.2.2.2.2.2.2.2.2.2.2.2.2.2.2.2.2.1 x.2.2.2.2.2.2.2.2.2.2.2.2.2.2.2.2.2.2.2.2.2.2) (l0_0, l0_1, i10, h0_0, h0_1, h0_2, h0_3, h0_4, h0_5, h0_6, h0_7, h0_8, h0_9, h1_0, h1_1, h1_2, h1_3, h1_4, h1_5, h1_6, h1_7, h1_8, h1_9)
def j8_68 (l0_0 : Bool) (l0_1 : List (Bs × Bs)) (h0_0 h0_1 : Bool) (h0_2 h0_3 : Bool) (h0_4 h0_5 : Bool) (h0_6 h0_7 : Int) (h0_8 h0_9 : Int) (h1_0 h1_1 : Bool) (h1_2 h1_3 : Bool) (h1_4 h1_5 : Bool) (h1_6 h1_7 : Int) (h1_8 h1_9 : Int) : Option R8 :=
  l8_72 l0_0 l0_1 (0 : Int) h0_0 h0_1 h0_2 h0_3 h0_4 h0_5 h0_6 h0_7 h0_8 h0_9 h1_0 h1_1 h1_2 h1_3 h1_4 h1_5 h1_6 h1_7 h1_8 h1_9
def s8_10 (l0_0 : Bool) (l0_1 : List (Bs × Bs)) (all4_0 : Bool) (all4_1 : List Bs) (i5 : Int) (h0_0 h0_1 : Bool) (h0_2 h0_3 : Bool) (h0_4 h0_5 : Bool) (h0_6 h0_7 : Int) (h0_8 h0_9 : Int) (h1_0 h1_1 : Bool) (h1_2 h1_3 : Bool) (h1_4 h1_5 : Bool) (h1_6 h1_7 : Int) (h1_8 h1_9 : Int) : Option ((Bool × List (Bs × Bs) × Bool × List Bs × Int × Bool × Bool × Bool × Bool × Bool × Bool × Int × Int × Int × Int × Bool × Bool × Bool × Bool × Bool × Bool × Int × Int × Int × Int) ⊕ R8) :=
  if (decide (i5 < (all4_1.length : Int))) = true then
    if 0 ≤ i5 ∧ i5 < (all4_1.length : Int) then
      (m28 (all4_1.getD i5.toNat default)).bind fun yr7 =>
        if yr7.2.2 = true then
          (m29 yr7.2.1).bind fun yr10 =>
            if (yr7.1 == ([110, 111, 45, 115, 116, 111, 114, 101] : Bs)) = true then
              j8_67 l0_0 l0_1 all4_0 all4_1 i5 h0_0 h0_1 h0_2 h0_3 h0_4 h0_5 h0_6 h0_7 h0_8 h0_9 true h1_1 h1_2 h1_3 h1_4 h1_5 h1_6 h1_7 h1_8 h1_9
            else
              if (yr7.1 == ([110, 111, 45, 99, 97, 99, 104, 101] : Bs)) = true then
                j8_67 l0_0 l0_1 all4_0 all4_1 i5 h0_0 h0_1 h0_2 h0_3 h0_4 h0_5 h0_6 h0_7 h0_8 h0_9 h1_0 true h1_2 h1_3 h1_4 h1_5 h1_6 h1_7 h1_8 h1_9
              else
                if (yr7.1 == ([111, 110, 108, 121, 45, 105, 102, 45, 99, 97, 99, 104, 101, 100] : Bs)) = true then
                  j8_67 l0_0 l0_1 all4_0 all4_1 i5 h0_0 h0_1 h0_2 h0_3 h0_4 h0_5 h0_6 h0_7 h0_8 h0_9 h1_0 h1_1 h1_2 h1_3 h1_4 true h1_6 h1_7 h1_8 h1_9
                else
                  if (yr7.1 == ([109, 97, 120, 45, 97, 103, 101] : Bs)) = true then
                    (m30 h1_6 yr10).bind fun yr16 =>
                      j8_67 l0_0 l0_1 all4_0 all4_1 i5 h0_0 h0_1 h0_2 h0_3 h0_4 h0_5 h0_6 h0_7 h0_8 h0_9 h1_0 h1_1 h1_2 h1_3 h1_4 h1_5 yr16 h1_7 h1_8 h1_9
                  else
                    if (yr7.1 == ([109, 105, 110, 45, 102, 114, 101, 115, 104] : Bs)) = true then
                      if (decide (h1_8 < yr10)) = true then
                        j8_67 l0_0 l0_1 all4_0 all4_1 i5 h0_0 h0_1 h0_2 h0_3 h0_4 h0_5 h0_6 h0_7 h0_8 h0_9 h1_0 h1_1 h1_2 h1_3 h1_4 h1_5 h1_6 h1_7 yr10 h1_9
                      else
                        j8_67 l0_0 l0_1 all4_0 all4_1 i5 h0_0 h0_1 h0_2 h0_3 h0_4 h0_5 h0_6 h0_7 h0_8 h0_9 h1_0 h1_1 h1_2 h1_3 h1_4 h1_5 h1_6 h1_7 h1_8 h1_9
                    else
                      if (yr7.1 == ([109, 97, 120, 45, 115, 116, 97, 108, 101] : Bs)) = true then
                        if (yr7.2.1 == ([] : Bs)) = true then
                          j8_65 l0_0 l0_1 all4_0 all4_1 i5 (2147483647 : Int) h0_0 h0_1 h0_2 h0_3 h0_4 h0_5 h0_6 h0_7 h0_8 h0_9 h1_0 h1_1 h1_2 h1_3 h1_4 h1_5 h1_6 h1_7 h1_8 h1_9
                        else
                          j8_65 l0_0 l0_1 all4_0 all4_1 i5 yr10 h0_0 h0_1 h0_2 h0_3 h0_4 h0_5 h0_6 h0_7 h0_8 h0_9 h1_0 h1_1 h1_2 h1_3 h1_4 h1_5 h1_6 h1_7 h1_8 h1_9
                      else
                        j8_67 l0_0 l0_1 all4_0 all4_1 i5 h0_0 h0_1 h0_2 h0_3 h0_4 h0_5 h0_6 h0_7 h0_8 h0_9 h1_0 h1_1 h1_2 h1_3 h1_4 h1_5 h1_6 h1_7 h1_8 h1_9
        else
          j8_67 l0_0 l0_1 all4_0 all4_1 i5 h0_0 h0_1 h0_2 h0_3 h0_4 h0_5 h0_6 h0_7 h0_8 h0_9 h1_0 h1_1 h1_2 h1_3 h1_4 h1_5 h1_6 h1_7 h1_8 h1_9
    else none
  else
    (j8_68 l0_0 l0_1 h0_0 h0_1 h0_2 h0_3 h0_4 h0_5 h0_6 h0_7 h0_8 h0_9 h1_0 h1_1 h1_2 h1_3 h1_4 h1_5 h1_6 h1_7 h1_8 h1_9).map .inr
def l8_10 (l0_0 : Bool) (l0_1 : List (Bs × Bs)) (all4_0 : Bool) (all4_1 : List Bs) (i5 : Int) (h0_0 h0_1 : Bool) (h0_2 h0_3 : Bool) (h0_4 h0_5 : Bool) (h0_6 h0_7 : Int) (h0_8 h0_9 : Int) (h1_0 h1_1 : Bool) (h1_2 h1_3 : Bool) (h1_4 h1_5 : Bool) (h1_6 h1_7 : Int) (h1_8 h1_9 : Int) : Option R8 := iter (fun x : (Bool × List (Bs × Bs) × Bool × List Bs × Int × Bool × Bool × Bool × Bool × Bool × Bool × Int × Int × Int × Int × Bool × Bool × Bool × Bool × Bool × Bool × Int × Int × Int × Int) => s8_10 x.1 x.2.1 x.2.2.1 x.2.2.2.1 x.2.2.2.2.1 x.2.2.2.2.2.1 x.2.2.2.2.2.2.1 x.2.2.2.2.2.2.2.1 x.2.2.2.2.2.2.2.2.1 x.2.2.2.2.2.2.2.2.2.1 x.2.2.2.2.2.2.2.2.2.2.1 x.2.2.2.2.2.2.2.2.2.2.2.1 x.2.2.2.2.2.2.2.2.2.2.2.2.1 x.2.2.2.2.2.2.2.2.2.2.2.2.2.1 x.2.2.2.2.2.2.2.2.2.2.2.2.2.2.1 x.2.2.2.2.2.2.2.2.2.2.2.2.2.2.2.1 x.2.2.2.2.2.2.2.2.2.2.2.2.2.2.2.2.1 x.2.2.2.2.2.2.2.2.2.2.2.2.2.2.2.2.2.1 x.2.2.2.2.2.2.2.2.2.2.2.2.2.2.2.2.2.2.1 x.2.2.2.2.2.2.2.2.2.2.2.2.2.2.2.2.2.2.2.1 x.2.2.2.2.2.2.2.2.2.2.2.2.2.2.2.2.2.2.2.2.1 x.2.2.2.2.2.2.2.2.2.2.2.2.2.2.2.2.2.2.2.2.2.1 x.2.2.2.2.2.2.2.2.2.2.2.2.2.2.2.2.2.2.2.2.2.2.1 x.2.2.2.2.2.2.2.2.2.2.2.2.2.2.2.2.2.2.2.2.2.2.2.1 x.2.2.2.2.2.2.2.2.2.2.2.2.2.2.2.2.2.2.2.2.2.2.2.2) (l0_0, l0_1, all4_0, all4_1, i5, h0_0, h0_1, h0_2, h0_3, h0_4, h0_5, h0_6, h0_7, h0_8, h0_9, h1_0, h1_1, h1_2, h1_3, h1_4, h1_5, h1_6, h1_7, h1_8, h1_9)
def m8 (l_0 : Bool) (l_1 : List (Bs × Bs)) : Option R8 :=
  (m27 l_0 l_1 ([99, 97, 99, 104, 101, 45, 99, 111, 110, 116, 114, 111, 108] : Bs)).bind fun yr2 =>
    l8_10 l_0 l_1 yr2.1 yr2.2 (0 : Int) false false false false false false (0 : Int) (0 : Int) (0 : Int) (0 : Int) false false false false false false (-1 : Int) (-1 : Int) (-1 : Int) (-1 : Int)
noncomputable def c9_0 : Code := bodyOf Tryd.f9
def c9_1 := cA c9_0
def c9_2 := cB c9_0
def c9_3 := cA c9_2
def c9_4 := cB c9_2
def c9_5 := cA c9_4
def c9_6 := cB c9_4
theorem c9_0_e : c9_0 = .seq c9_1 c9_2 := rfl
theorem c9_1_r : RG (E0 mm) 9 c9_1 := rgN rfl
theorem c9_2_e : c9_2 = .seq c9_3 c9_4 := rfl
theorem c9_3_r : RG (E0 mm) 9 c9_3 := rgN rfl
theorem c9_4_e : c9_4 = .seq c9_5 c9_6 := rfl
theorem c9_5_r (m : Nat) (st : St) : den (E0 mm) 9 m (callW (E0 mm)) itW c9_5 none st = regD ((runF (E0 mm) (callW (E0 mm)) (opsOf c9_5) (opsOf c9_5) [none, none, some false, none, none, some false, none, none, some false, none, none, some false, none, none, some false, none, some true, some false, none, some true, none, none, none] st []).bind (ckF [(16, 2), (16, 5), (16, 8), (16, 11), (16, 14), (19, 2), (19, 5), (19, 8), (19, 11), (19, 14), (19, 17)])) := den_dF (by kernel_rfl)
theorem c9_6_e : c9_6 = .ret := rfl
abbrev R9 := (Bool × Bool × Bool × Bool × Bool × Bool × Int × Int × Int × Int)
def e9 : R9 → AV × Heap := fun x => (.v (.agg [.d (.sc (.bool x.1)), .d (.sc (.bool x.2.1)), .d (.sc (.bool x.2.2.1)), .d (.sc (.bool x.2.2.2.1)), .d (.sc (.bool x.2.2.2.2.1)), .d (.sc (.bool x.2.2.2.2.2.1)), .d (.sc (.int .i64 x.2.2.2.2.2.2.1)), .d (.sc (.int .i64 x.2.2.2.2.2.2.2.1)), .d (.sc (.int .i64 x.2.2.2.2.2.2.2.2.1)), .d (.sc (.int .i64 x.2.2.2.2.2.2.2.2.2))]), [])
def m9 (l_0 : Bool) (l_1 : List (Bs × Bs)) : Option R9 :=
  (m18 l_0 l_1).bind fun yr2 =>
    (m19 false ([([110, 111, 45, 115, 116, 111, 114, 101] : Bs)] : List Bs) yr2).bind fun yr4 =>
      (m19 false ([([110, 111, 45, 99, 97, 99, 104, 101] : Bs)] : List Bs) yr2).bind fun yr6 =>
        (m19 false ([([112, 114, 105, 118, 97, 116, 101] : Bs)] : List Bs) yr2).bind fun yr8 =>
          (m19 false ([([112, 117, 98, 108, 105, 99] : Bs)] : List Bs) yr2).bind fun yr10 =>
            (m19 false ([([109, 117, 115, 116, 45, 114, 101, 118, 97, 108, 105, 100, 97, 116, 101] : Bs), ([112, 114, 111, 120, 121, 45, 114, 101, 118, 97, 108, 105, 100, 97, 116, 101] : Bs)] : List Bs) yr2).bind fun yr12 =>
              (m20 (!(hasM ([109, 97, 120, 45, 97, 103, 101] : Bs) yr2)) (valM ([109, 97, 120, 45, 97, 103, 101] : Bs) yr2)).bind fun yr14 =>
                (m20 (!(hasM ([115, 45, 109, 97, 120, 97, 103, 101] : Bs) yr2)) (valM ([115, 45, 109, 97, 120, 97, 103, 101] : Bs) yr2)).bind fun yr16 =>
                  some (yr4, yr6, yr8, yr10, yr12, false, yr14, yr16, (-1 : Int), (-1 : Int))
theorem f9_t (l_0 : Bool) (l_1 : List (Bs × Bs)) :
    callW (E0 mm) 9 [.c (.d (.lst l_0 (enL enSS l_1)))] [] = (m9 l_0 l_1).map e9 := by
  rw [callW_run (body := c9_0) (res := [.cell 2 24]) Tryd.func9 rfl rfl (by kernel_rfl)]
  simp -implicitDefEqProofs only [m9, slots1, c9_0_e, c9_1_r, (show opsOf c9_1 = _ :: _ from rfl), zc24, ao55, c9_2_e, c9_3_r, (show opsOf c9_3 = _ :: _ from rfl), ent18, prm18, f18_t, setA, setB, za, zb, zc, zd, ze, zf, zg, zh, zi, zj, zk, zl, zm, zn, zo, zp, reduceCtorEq, zE, ↓reduceIte]
  refine brM (fun yc1 => ?_) (fun yr2 yc1 => ?_)
  · rw [yc1]; rfl
  · simp -implicitDefEqProofs only [e18, c9_4_e, c9_5_r, (show opsOf c9_5 = _ :: _ from rfl), Tryd.underlying30, sz9, zc9, hd56, nv57, rw58, ns8, ent19, prm19, (show callW (E0 mm) 19 [.c (.mp 0), .c (.d (.lst false (enL enS ([([110, 111, 45, 115, 116, 111, 114, 101] : Bs)] : List Bs))))] [.amap (enM yr2)] = _ from f19_t false ([([110, 111, 45, 115, 116, 111, 114, 101] : Bs)] : List Bs) yr2), yc1, runF_nil, runF_none, runF_some, runKF_t, runKF_f, runKF_x, stepKF_s, stepKF_x, tlT_c, tlT_n, hdT_c, hdT_n, footT_n, foot_t, readsO, setA, setB, za, zb, zc, zd, ze, zf, zg, zh, zi, zj, zk, zl, zm, zn, zo, zp, reduceCtorEq, zE, ↓reduceIte]
    refine brM (fun yc3 => ?_) (fun yr4 yc3 => ?_)
    · rw [yc3]; rfl
    · simp -implicitDefEqProofs only [e19, Tryd.underlying30, sz9, zc9, hd56, nv57, rw58, ns8, ent19, prm19, (show callW (E0 mm) 19 [.c (.mp 0), .c (.d (.lst false (enL enS ([([110, 111, 45, 99, 97, 99, 104, 101] : Bs)] : List Bs))))] [.amap (enM yr2)] = _ from f19_t false ([([110, 111, 45, 99, 97, 99, 104, 101] : Bs)] : List Bs) yr2), yc1, runF_nil, runF_none, runF_some, runKF_t, runKF_f, runKF_x, stepKF_s, stepKF_x, tlT_c, tlT_n, hdT_c, hdT_n, footT_n, foot_t, readsO, yc3, setA, setB, za, zb, zc, zd, ze, zf, zg, zh, zi, zj, zk, zl, zm, zn, zo, zp, reduceCtorEq, zE, ↓reduceIte]
      refine brM (fun yc5 => ?_) (fun yr6 yc5 => ?_)
      · rw [yc5]; rfl
      · simp -implicitDefEqProofs only [e19, Tryd.underlying30, sz9, zc9, hd56, nv57, rw58, ns8, ent19, prm19, (show callW (E0 mm) 19 [.c (.mp 0), .c (.d (.lst false (enL enS ([([112, 114, 105, 118, 97, 116, 101] : Bs)] : List Bs))))] [.amap (enM yr2)] = _ from f19_t false ([([112, 114, 105, 118, 97, 116, 101] : Bs)] : List Bs) yr2), yc1, runF_nil, runF_none, runF_some, runKF_t, runKF_f, runKF_x, stepKF_s, stepKF_x, tlT_c, tlT_n, hdT_c, hdT_n, footT_n, foot_t, readsO, yc3, yc5, setA, setB, za, zb, zc, zd, ze, zf, zg, zh, zi, zj, zk, zl, zm, zn, zo, zp, reduceCtorEq, zE, ↓reduceIte]
        refine brM (fun yc7 => ?_) (fun yr8 yc7 => ?_)
        · rw [yc7]; rfl
        · simp -implicitDefEqProofs only [e19, Tryd.underlying30, sz9, zc9, hd56, nv57, rw58, ns8, ent19, prm19, (show callW (E0 mm) 19 [.c (.mp 0), .c (.d (.lst false (enL enS ([([112, 117, 98, 108, 105, 99] : Bs)] : List Bs))))] [.amap (enM yr2)] = _ from f19_t false ([([112, 117, 98, 108, 105, 99] : Bs)] : List Bs) yr2), yc1, runF_nil, runF_none, runF_some, runKF_t, runKF_f, runKF_x, stepKF_s, stepKF_x, tlT_c, tlT_n, hdT_c, hdT_n, footT_n, foot_t, readsO, yc3, yc5, yc7, setA, setB, za, zb, zc, zd, ze, zf, zg, zh, zi, zj, zk, zl, zm, zn, zo, zp, reduceCtorEq, zE, ↓reduceIte]
          refine brM (fun yc9 => ?_) (fun yr10 yc9 => ?_)
          · rw [yc9]; rfl
          · simp -implicitDefEqProofs only [e19, Tryd.underlying30, sz9, zc9, hd56, nv57, rw58, ns59, ent19, prm19, (show callW (E0 mm) 19 [.c (.mp 0), .c (.d (.lst false (enL enS ([([109, 117, 115, 116, 45, 114, 101, 118, 97, 108, 105, 100, 97, 116, 101] : Bs), ([112, 114, 111, 120, 121, 45, 114, 101, 118, 97, 108, 105, 100, 97, 116, 101] : Bs)] : List Bs))))] [.amap (enM yr2)] = _ from f19_t false ([([109, 117, 115, 116, 45, 114, 101, 118, 97, 108, 105, 100, 97, 116, 101] : Bs), ([112, 114, 111, 120, 121, 45, 114, 101, 118, 97, 108, 105, 100, 97, 116, 101] : Bs)] : List Bs) yr2), yc1, runF_nil, runF_none, runF_some, runKF_t, runKF_f, runKF_x, stepKF_s, stepKF_x, tlT_c, tlT_n, hdT_c, hdT_n, footT_n, foot_t, readsO, yc3, yc5, yc7, yc9, setA, setB, za, zb, zc, zd, ze, zf, zg, zh, zi, zj, zk, zl, zm, zn, zo, zp, reduceCtorEq, zE, ↓reduceIte]
            refine brM (fun yc11 => ?_) (fun yr12 yc11 => ?_)
            · rw [yc11]; rfl
            · simp -implicitDefEqProofs only [e19, Tryd.underlying40, Tryd.underlying9, zv30, ent20, prm20, f20_t, yc1, runF_nil, runF_none, runF_some, runKF_t, runKF_f, runKF_x, stepKF_s, stepKF_x, tlT_c, tlT_n, hdT_c, hdT_n, footT_n, foot_t, readsO, yc3, yc5, yc7, yc9, yc11, setA, setB, za, zb, zc, zd, ze, zf, zg, zh, zi, zj, zk, zl, zm, zn, zo, zp, reduceCtorEq, zE, ↓reduceIte]
              refine brM (fun yc13 => ?_) (fun yr14 yc13 => ?_)
              · rw [yc13]; rfl
              · simp -implicitDefEqProofs only [e20, Tryd.underlying40, Tryd.underlying9, zv30, ent20, prm20, f20_t, yc1, runF_nil, runF_none, runF_some, runKF_t, runKF_f, runKF_x, stepKF_s, stepKF_x, tlT_c, tlT_n, hdT_c, hdT_n, footT_n, foot_t, readsO, yc3, yc5, yc7, yc9, yc11, yc13, setA, setB, za, zb, zc, zd, ze, zf, zg, zh, zi, zj, zk, zl, zm, zn, zo, zp, reduceCtorEq, zE, ↓reduceIte]
                refine brM (fun yc15 => ?_) (fun yr16 yc15 => ?_)
                · rw [yc15]; rfl
                · simp -implicitDefEqProofs only [e20, Tryd.underlying24, zc24, sz4, sz3, sz24, ckF, foot_f, pair1, pair0, chgA, eqO, eqOb_cells, eqOb_row, eqOb_siter, eqOb_amapN, eqOb_amapC, eqOb_sm, eqE_S, eqE_SS, eqE_N, eqE_B, eqL, eqC, eqD, eqV, eqV1, eqB_refl, eq_self, decide_true, List.all_nil, List.getD_cons_zero, List.getD_cons_succ, Bool.and_self, c9_6_e, ag24, yc1, runF_nil, runF_none, runF_some, runKF_t, runKF_f, runKF_x, stepKF_s, stepKF_x, tlT_c, tlT_n, hdT_c, hdT_n, footT_n, foot_t, readsO, yc3, yc5, yc7, yc9, yc11, yc13, yc15, setA, setB, za, zb, zc, zd, ze, zf, zg, zh, zi, zj, zk, zl, zm, zn, zo, zp, reduceCtorEq, zE, ↓reduceIte]
                  all_goals rfl
abbrev R10 := (Bool × Bool × Bool × Bool × Bool × Bool × Int × Int × Int × Int)
def j10_65 (all4_0 : Bool) (all4_1 : List Bs) (i5 : Int) (h0_0 h0_1 : Bool) (h0_2 h0_3 : Bool) (h0_4 h0_5 : Bool) (h0_6 h0_7 : Int) (h0_8 h0_9 : Int) (h1_0 h1_1 : Bool) (h1_2 h1_3 : Bool) (h1_4 h1_5 : Bool) (h1_6 h1_7 : Int) (h1_8 h1_9 : Int) : Option ((Bool × List Bs × Int × Bool × Bool × Bool × Bool × Bool × Bool × Int × Int × Int × Int × Bool × Bool × Bool × Bool × Bool × Bool × Int × Int × Int × Int) ⊕ R10) :=
  some (.inl (all4_0, all4_1, (w64 (i5 + 1)), h0_0, h0_1, h0_2, h0_3, h0_4, h0_5, h0_6, h0_7, h0_8, h0_9, h1_0, h1_1, h1_2, h1_3, h1_4, h1_5, h1_6, h1_7, h1_8, h1_9))
def j10_54 (all4_0 : Bool) (all4_1 : List Bs) (i5 n9 : Int) (t32 : Bs) (t45 h0_0 : Bool) (h0_1 h0_2 : Bool) (h0_3 h0_4 h0_5 : Bool) (h0_6 h0_7 : Int) (h0_8 h0_9 : Int) (h1_0 h1_1 : Bool) (h1_2 h1_3 : Bool) (h1_4 h1_5 : Bool) (h1_6 h1_7 : Int) (h1_8 h1_9 : Int) : Option ((Bool × List Bs × Int × Bool × Bool × Bool × Bool × Bool × Bool × Int × Int × Int × Int × Bool × Bool × Bool × Bool × Bool × Bool × Int × Int × Int × Int) ⊕ R10) :=
  if t45 = true then
    j10_65 all4_0 all4_1 i5 h0_0 h0_1 h0_2 h0_3 h0_4 h0_5 h0_6 h0_7 h0_8 h0_9 h1_0 h1_1 h1_2 h1_3 true h1_5 h1_6 h1_7 h1_8 h1_9
  else
    if (t32 == ([109, 97, 120, 45, 97, 103, 101] : Bs)) = true then
      (m30 h1_6 n9).bind fun yr19 =>
        j10_65 all4_0 all4_1 i5 h0_0 h0_1 h0_2 h0_3 h0_4 h0_5 h0_6 h0_7 h0_8 h0_9 h1_0 h1_1 h1_2 h1_3 h1_4 h1_5 yr19 h1_7 h1_8 h1_9
    else
      if (t32 == ([115, 45, 109, 97, 120, 97, 103, 101] : Bs)) = true then
        (m30 h1_7 n9).bind fun yr22 =>
          j10_65 all4_0 all4_1 i5 h0_0 h0_1 h0_2 h0_3 h0_4 h0_5 h0_6 h0_7 h0_8 h0_9 h1_0 h1_1 h1_2 h1_3 h1_4 h1_5 h1_6 yr22 h1_8 h1_9
      else
        j10_65 all4_0 all4_1 i5 h0_0 h0_1 h0_2 h0_3 h0_4 h0_5 h0_6 h0_7 h0_8 h0_9 h1_0 h1_1 h1_2 h1_3 h1_4 h1_5 h1_6 h1_7 h1_8 h1_9
def j10_66 (h0_0 h0_1 : Bool) (h0_2 h0_3 : Bool) (h0_4 h0_5 : Bool) (h0_6 h0_7 : Int) (h0_8 h0_9 : Int) (h1_0 h1_1 : Bool) (h1_2 h1_3 : Bool) (h1_4 h1_5 : Bool) (h1_6 h1_7 : Int) (h1_8 h1_9 : Int) : Option R10 :=
  some (h1_0, h1_1, h1_2, h1_3, h1_4, h1_5, h1_6, h1_7, h1_8, h1_9)
def s10_10 (all4_0 : Bool) (all4_1 : List Bs) (i5 : Int) (h0_0 h0_1 : Bool) (h0_2 h0_3 : Bool) (h0_4 h0_5 : Bool) (h0_6 h0_7 : Int) (h0_8 h0_9 : Int) (h1_0 h1_1 : Bool) (h1_2 h1_3 : Bool) (h1_4 h1_5 : Bool) (h1_6 h1_7 : Int) (h1_8 h1_9 : Int) : Option ((Bool × List Bs × Int × Bool × Bool × Bool × Bool × Bool × Bool × Int × Int × Int × Int × Bool × Bool × Bool × Bool × Bool × Bool × Int × Int × Int × Int) ⊕ R10) :=
  if (decide (i5 < (all4_1.length : Int))) = true then
    if 0 ≤ i5 ∧ i5 < (all4_1.length : Int) then
      (m28 (all4_1.getD i5.toNat default)).bind fun yr7 =>
        if yr7.2.2 = true then
          (m29 yr7.2.1).bind fun yr10 =>
            if (yr7.1 == ([110, 111, 45, 115, 116, 111, 114, 101] : Bs)) = true then
              j10_65 all4_0 all4_1 i5 h0_0 h0_1 h0_2 h0_3 h0_4 h0_5 h0_6 h0_7 h0_8 h0_9 true h1_1 h1_2 h1_3 h1_4 h1_5 h1_6 h1_7 h1_8 h1_9
            else
              if (yr7.1 == ([110, 111, 45, 99, 97, 99, 104, 101] : Bs)) = true then
                j10_65 all4_0 all4_1 i5 h0_0 h0_1 h0_2 h0_3 h0_4 h0_5 h0_6 h0_7 h0_8 h0_9 h1_0 true h1_2 h1_3 h1_4 h1_5 h1_6 h1_7 h1_8 h1_9
              else
                if (yr7.1 == ([112, 114, 105, 118, 97, 116, 101] : Bs)) = true then
                  j10_65 all4_0 all4_1 i5 h0_0 h0_1 h0_2 h0_3 h0_4 h0_5 h0_6 h0_7 h0_8 h0_9 h1_0 h1_1 true h1_3 h1_4 h1_5 h1_6 h1_7 h1_8 h1_9
                else
                  if (yr7.1 == ([112, 117, 98, 108, 105, 99] : Bs)) = true then
                    j10_65 all4_0 all4_1 i5 h0_0 h0_1 h0_2 h0_3 h0_4 h0_5 h0_6 h0_7 h0_8 h0_9 h1_0 h1_1 h1_2 true h1_4 h1_5 h1_6 h1_7 h1_8 h1_9
                  else
                    if (yr7.1 == ([109, 117, 115, 116, 45, 114, 101, 118, 97, 108, 105, 100, 97, 116, 101] : Bs)) = true then
                      j10_54 all4_0 all4_1 i5 yr10 yr7.1 true h0_0 h0_1 h0_2 h0_3 h0_4 h0_5 h0_6 h0_7 h0_8 h0_9 h1_0 h1_1 h1_2 h1_3 h1_4 h1_5 h1_6 h1_7 h1_8 h1_9
                    else
                      j10_54 all4_0 all4_1 i5 yr10 yr7.1 (yr7.1 == ([112, 114, 111, 120, 121, 45, 114, 101, 118, 97, 108, 105, 100, 97, 116, 101] : Bs)) h0_0 h0_1 h0_2 h0_3 h0_4 h0_5 h0_6 h0_7 h0_8 h0_9 h1_0 h1_1 h1_2 h1_3 h1_4 h1_5 h1_6 h1_7 h1_8 h1_9
        else
          j10_65 all4_0 all4_1 i5 h0_0 h0_1 h0_2 h0_3 h0_4 h0_5 h0_6 h0_7 h0_8 h0_9 h1_0 h1_1 h1_2 h1_3 h1_4 h1_5 h1_6 h1_7 h1_8 h1_9
    else none
  else
    (j10_66 h0_0 h0_1 h0_2 h0_3 h0_4 h0_5 h0_6 h0_7 h0_8 h0_9 h1_0 h1_1 h1_2 h1_3 h1_4 h1_5 h1_6 h1_7 h1_8 h1_9).map .inr
def l10_10 (all4_0 : Bool) (all4_1 : List Bs) (i5 : Int) (h0_0 h0_1 : Bool) (h0_2 h0_3 : Bool) (h0_4 h0_5 : Bool) (h0_6 h0_7 : Int) (h0_8 h0_9 : Int) (h1_0 h1_1 : Bool) (h1_2 h1_3 : Bool) (h1_4 h1_5 : Bool) (h1_6 h1_7 : Int) (h1_8 h1_9 : Int) : Option R10 := iter (fun x : (Bool × List Bs × Int × Bool × Bool × Bool × Bool × Bool × Bool × Int × Int × Int × Int × Bool × Bool × Bool × Bool × Bool × Bool × Int × Int × Int × Int) => s10_10 x.1 x.2.1 x.2.2.1 x.2.2.2.1 x.2.2.2.2.1 x.2.2.2.2.2.1 x.2.2.2.2.2.2.1 x.2.2.2.2.2.2.2.1 x.2.2.2.2.2.2.2.2.1 x.2.2.2.2.2.2.2.2.2.1 x.2.2.2.2.2.2.2.2.2.2.1 x.2.2.2.2.2.2.2.2.2.2.2.1 x.2.2.2.2.2.2.2.2.2.2.2.2.1 x.2.2.2.2.2.2.2.2.2.2.2.2.2.1 x.2.2.2.2.2.2.2.2.2.2.2.2.2.2.1 x.2.2.2.2.2.2.2.2.2.2.2.2.2.2.2.1 x.2.2.2.2.2.2.2.2.2.2.2.2.2.2.2.2.1 x.2.2.2.2.2.2.2.2.2.2.2.2.2.2.2.2.2.1 x.2.2.2.2.2.2.2.2.2.2.2.2.2.2.2.2.2.2.1 x.2.2.2.2.2.2.2.2.2.2.2.2.2.2.2.2.2.2.2.1 x.2.2.2.2.2.2.2.2.2.2.2.2.2.2.2.2.2.2.2.2.1 x.2.2.2.2.2.2.2.2.2.2.2.2.2.2.2.2.2.2.2.2.2.1 x.2.2.2.2.2.2.2.2.2.2.2.2.2.2.2.2.2.2.2.2.2.2) (all4_0, all4_1, i5, h0_0, h0_1, h0_2, h0_3, h0_4, h0_5, h0_6, h0_7, h0_8, h0_9, h1_0, h1_1, h1_2, h1_3, h1_4, h1_5, h1_6, h1_7, h1_8, h1_9)
def m10 (l_0 : Bool) (l_1 : List (Bs × Bs)) : Option R10 :=
  (m27 l_0 l_1 ([99, 97, 99, 104, 101, 45, 99, 111, 110, 116, 114, 111, 108] : Bs)).bind fun yr2 =>
    l10_10 yr2.1 yr2.2 (0 : Int) false false false false false false (0 : Int) (0 : Int) (0 : Int) (0 : Int) false false false false false false (-1 : Int) (-1 : Int) (-1 : Int) (-1 : Int)
abbrev R11 := (Bool)
def j11_31  : Option R11 :=
  some true
def s11_14 (a0_0 : Bool) (a0_1 : List (Bs × Bs)) (b1_0 : Bool) (b1_1 : List (Bs × Bs)) (i5 : Int) : Option ((Bool × List (Bs × Bs) × Bool × List (Bs × Bs) × Int) ⊕ R11) :=
  if (decide (i5 < (a0_1.length : Int))) = true then
    if 0 ≤ i5 ∧ i5 < (a0_1.length : Int) then
      if 0 ≤ i5 ∧ i5 < (b1_1.length : Int) then
        if (((a0_1.getD i5.toNat default).1 == (b1_1.getD i5.toNat default).1) && ((a0_1.getD i5.toNat default).2 == (b1_1.getD i5.toNat default).2)) = true then
          some (.inl (a0_0, a0_1, b1_0, b1_1, (w64 (i5 + 1))))
        else
          some (.inr false)
      else none
    else none
  else
    (j11_31).map .inr
def l11_14 (a0_0 : Bool) (a0_1 : List (Bs × Bs)) (b1_0 : Bool) (b1_1 : List (Bs × Bs)) (i5 : Int) : Option R11 := iter (fun x : (Bool × List (Bs × Bs) × Bool × List (Bs × Bs) × Int) => s11_14 x.1 x.2.1 x.2.2.1 x.2.2.2.1 x.2.2.2.2) (a0_0, a0_1, b1_0, b1_1, i5)
def m11 (a_0 : Bool) (a_1 : List (Bs × Bs)) (b_0 : Bool) (b_1 : List (Bs × Bs)) : Option R11 :=
  if ((a_1.length : Int) == (b_1.length : Int)) = true then
    l11_14 a_0 a_1 b_0 b_1 (0 : Int)
  else
    some false
abbrev R3 := (Bool)
def e3 : R3 → AV × Heap := fun x => (.v (.c (.d (.sc (.bool x)))), [])
def m3 (l_0 : Bool) (l_1 : List (Bs × Bs)) : Option R3 :=
  if l_1.isEmpty = true then
    (m7 true ([] : List (Bs × Bs))).bind fun yr3 =>
      (m8 l_0 l_1).bind fun yr5 =>
        if ((((((((((yr3.1 == yr5.1) && (yr3.2.1 == yr5.2.1)) && (yr3.2.2.1 == yr5.2.2.1)) && (yr3.2.2.2.1 == yr5.2.2.2.1)) && (yr3.2.2.2.2.1 == yr5.2.2.2.2.1)) && (yr3.2.2.2.2.2.1 == yr5.2.2.2.2.2.1)) && (yr3.2.2.2.2.2.2.1 == yr5.2.2.2.2.2.2.1)) && (yr3.2.2.2.2.2.2.2.1 == yr5.2.2.2.2.2.2.2.1)) && (yr3.2.2.2.2.2.2.2.2.1 == yr5.2.2.2.2.2.2.2.2.1)) && (yr3.2.2.2.2.2.2.2.2.2 == yr5.2.2.2.2.2.2.2.2.2)) = true then
          (m9 true ([] : List (Bs × Bs))).bind fun yr8 =>
            (m10 l_0 l_1).bind fun yr10 =>
              if ((((((((((yr8.1 == yr10.1) && (yr8.2.1 == yr10.2.1)) && (yr8.2.2.1 == yr10.2.2.1)) && (yr8.2.2.2.1 == yr10.2.2.2.1)) && (yr8.2.2.2.2.1 == yr10.2.2.2.2.1)) && (yr8.2.2.2.2.2.1 == yr10.2.2.2.2.2.1)) && (yr8.2.2.2.2.2.2.1 == yr10.2.2.2.2.2.2.1)) && (yr8.2.2.2.2.2.2.2.1 == yr10.2.2.2.2.2.2.2.1)) && (yr8.2.2.2.2.2.2.2.2.1 == yr10.2.2.2.2.2.2.2.2.1)) && (yr8.2.2.2.2.2.2.2.2.2 == yr10.2.2.2.2.2.2.2.2.2)) = true then
                (m11 true ([] : List (Bs × Bs)) l_0 l_1).bind fun yr13 =>
                  if yr13 = true then
                    some true
                  else
                    some false
              else
                some false
        else
          some false
  else
    if l_1.length * 32 ≤ 140737488355328 then
      (m7 false l_1).bind fun yr17 =>
        (m8 l_0 l_1).bind fun yr19 =>
          if ((((((((((yr17.1 == yr19.1) && (yr17.2.1 == yr19.2.1)) && (yr17.2.2.1 == yr19.2.2.1)) && (yr17.2.2.2.1 == yr19.2.2.2.1)) && (yr17.2.2.2.2.1 == yr19.2.2.2.2.1)) && (yr17.2.2.2.2.2.1 == yr19.2.2.2.2.2.1)) && (yr17.2.2.2.2.2.2.1 == yr19.2.2.2.2.2.2.1)) && (yr17.2.2.2.2.2.2.2.1 == yr19.2.2.2.2.2.2.2.1)) && (yr17.2.2.2.2.2.2.2.2.1 == yr19.2.2.2.2.2.2.2.2.1)) && (yr17.2.2.2.2.2.2.2.2.2 == yr19.2.2.2.2.2.2.2.2.2)) = true then
            (m9 false l_1).bind fun yr22 =>
              (m10 l_0 l_1).bind fun yr24 =>
                if ((((((((((yr22.1 == yr24.1) && (yr22.2.1 == yr24.2.1)) && (yr22.2.2.1 == yr24.2.2.1)) && (yr22.2.2.2.1 == yr24.2.2.2.1)) && (yr22.2.2.2.2.1 == yr24.2.2.2.2.1)) && (yr22.2.2.2.2.2.1 == yr24.2.2.2.2.2.1)) && (yr22.2.2.2.2.2.2.1 == yr24.2.2.2.2.2.2.1)) && (yr22.2.2.2.2.2.2.2.1 == yr24.2.2.2.2.2.2.2.1)) && (yr22.2.2.2.2.2.2.2.2.1 == yr24.2.2.2.2.2.2.2.2.1)) && (yr22.2.2.2.2.2.2.2.2.2 == yr24.2.2.2.2.2.2.2.2.2)) = true then
                  (m11 false l_1 l_0 l_1).bind fun yr27 =>
                    if yr27 = true then
                      some true
                    else
                      some false
                else
                  some false
          else
            some false
    else none
end
end Go.Proofs.YtbdjemdhjanffaaDoor
