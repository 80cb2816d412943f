/- The law for any two errors: calls told by tables, Status for any number, and the run for each form of two numbers. -/
import Derived.Test.YtfcjicedphacfaaDoorEnv
import Derived.Test.YtfcjicedphacfaaDoorAb30
set_option linter.unusedVariables false
set_option linter.unusedSimpArgs false
set_option maxRecDepth 100000
namespace Go.Proofs.YtfcjicedphacfaaDoor
open Go Go.Ab
def stat (n : Int) : Int := bif n == 0 then 200 else bif n == 3 then 431 else bif n == 21 then 413 else bif n == 30 then 407 else bif n == 31 then 403 else bif n == 32 then 429 else bif n == 33 then 503 else bif n == 34 then 502 else bif n == 35 then 504 else 400
theorem st_n0 (m : Int) : callW (E0 m) 5 [.c (.d (si (Int.ofNat 0)))] [] = some (.v (.c (.d (si 200))), []) := callN_W (k := 60) (by kernel_rfl)
theorem st_n1 (m : Int) : callW (E0 m) 5 [.c (.d (si (Int.ofNat 1)))] [] = some (.v (.c (.d (si 400))), []) := callN_W (k := 60) (by kernel_rfl)
theorem st_n2 (m : Int) : callW (E0 m) 5 [.c (.d (si (Int.ofNat 2)))] [] = some (.v (.c (.d (si 400))), []) := callN_W (k := 60) (by kernel_rfl)
theorem st_n3 (m : Int) : callW (E0 m) 5 [.c (.d (si (Int.ofNat 3)))] [] = some (.v (.c (.d (si 431))), []) := callN_W (k := 60) (by kernel_rfl)
theorem st_n4 (m : Int) : callW (E0 m) 5 [.c (.d (si (Int.ofNat 4)))] [] = some (.v (.c (.d (si 400))), []) := callN_W (k := 60) (by kernel_rfl)
theorem st_n5 (m : Int) : callW (E0 m) 5 [.c (.d (si (Int.ofNat 5)))] [] = some (.v (.c (.d (si 400))), []) := callN_W (k := 60) (by kernel_rfl)
theorem st_n6 (m : Int) : callW (E0 m) 5 [.c (.d (si (Int.ofNat 6)))] [] = some (.v (.c (.d (si 400))), []) := callN_W (k := 60) (by kernel_rfl)
theorem st_n7 (m : Int) : callW (E0 m) 5 [.c (.d (si (Int.ofNat 7)))] [] = some (.v (.c (.d (si 400))), []) := callN_W (k := 60) (by kernel_rfl)
theorem st_n8 (m : Int) : callW (E0 m) 5 [.c (.d (si (Int.ofNat 8)))] [] = some (.v (.c (.d (si 400))), []) := callN_W (k := 60) (by kernel_rfl)
theorem st_n9 (m : Int) : callW (E0 m) 5 [.c (.d (si (Int.ofNat 9)))] [] = some (.v (.c (.d (si 400))), []) := callN_W (k := 60) (by kernel_rfl)
theorem st_n10 (m : Int) : callW (E0 m) 5 [.c (.d (si (Int.ofNat 10)))] [] = some (.v (.c (.d (si 400))), []) := callN_W (k := 60) (by kernel_rfl)
theorem st_n11 (m : Int) : callW (E0 m) 5 [.c (.d (si (Int.ofNat 11)))] [] = some (.v (.c (.d (si 400))), []) := callN_W (k := 60) (by kernel_rfl)
theorem st_n12 (m : Int) : callW (E0 m) 5 [.c (.d (si (Int.ofNat 12)))] [] = some (.v (.c (.d (si 400))), []) := callN_W (k := 60) (by kernel_rfl)
theorem st_n13 (m : Int) : callW (E0 m) 5 [.c (.d (si (Int.ofNat 13)))] [] = some (.v (.c (.d (si 400))), []) := callN_W (k := 60) (by kernel_rfl)
theorem st_n14 (m : Int) : callW (E0 m) 5 [.c (.d (si (Int.ofNat 14)))] [] = some (.v (.c (.d (si 400))), []) := callN_W (k := 60) (by kernel_rfl)
theorem st_n15 (m : Int) : callW (E0 m) 5 [.c (.d (si (Int.ofNat 15)))] [] = some (.v (.c (.d (si 400))), []) := callN_W (k := 60) (by kernel_rfl)
theorem st_n16 (m : Int) : callW (E0 m) 5 [.c (.d (si (Int.ofNat 16)))] [] = some (.v (.c (.d (si 400))), []) := callN_W (k := 60) (by kernel_rfl)
theorem st_n17 (m : Int) : callW (E0 m) 5 [.c (.d (si (Int.ofNat 17)))] [] = some (.v (.c (.d (si 400))), []) := callN_W (k := 60) (by kernel_rfl)
theorem st_n18 (m : Int) : callW (E0 m) 5 [.c (.d (si (Int.ofNat 18)))] [] = some (.v (.c (.d (si 400))), []) := callN_W (k := 60) (by kernel_rfl)
theorem st_n19 (m : Int) : callW (E0 m) 5 [.c (.d (si (Int.ofNat 19)))] [] = some (.v (.c (.d (si 400))), []) := callN_W (k := 60) (by kernel_rfl)
theorem st_n20 (m : Int) : callW (E0 m) 5 [.c (.d (si (Int.ofNat 20)))] [] = some (.v (.c (.d (si 400))), []) := callN_W (k := 60) (by kernel_rfl)
theorem st_n21 (m : Int) : callW (E0 m) 5 [.c (.d (si (Int.ofNat 21)))] [] = some (.v (.c (.d (si 413))), []) := callN_W (k := 60) (by kernel_rfl)
theorem st_n22 (m : Int) : callW (E0 m) 5 [.c (.d (si (Int.ofNat 22)))] [] = some (.v (.c (.d (si 400))), []) := callN_W (k := 60) (by kernel_rfl)
theorem st_n23 (m : Int) : callW (E0 m) 5 [.c (.d (si (Int.ofNat 23)))] [] = some (.v (.c (.d (si 400))), []) := callN_W (k := 60) (by kernel_rfl)
theorem st_n24 (m : Int) : callW (E0 m) 5 [.c (.d (si (Int.ofNat 24)))] [] = some (.v (.c (.d (si 400))), []) := callN_W (k := 60) (by kernel_rfl)
theorem st_n25 (m : Int) : callW (E0 m) 5 [.c (.d (si (Int.ofNat 25)))] [] = some (.v (.c (.d (si 400))), []) := callN_W (k := 60) (by kernel_rfl)
theorem st_n26 (m : Int) : callW (E0 m) 5 [.c (.d (si (Int.ofNat 26)))] [] = some (.v (.c (.d (si 400))), []) := callN_W (k := 60) (by kernel_rfl)
theorem st_n27 (m : Int) : callW (E0 m) 5 [.c (.d (si (Int.ofNat 27)))] [] = some (.v (.c (.d (si 400))), []) := callN_W (k := 60) (by kernel_rfl)
theorem st_n28 (m : Int) : callW (E0 m) 5 [.c (.d (si (Int.ofNat 28)))] [] = some (.v (.c (.d (si 400))), []) := callN_W (k := 60) (by kernel_rfl)
theorem st_n29 (m : Int) : callW (E0 m) 5 [.c (.d (si (Int.ofNat 29)))] [] = some (.v (.c (.d (si 400))), []) := callN_W (k := 60) (by kernel_rfl)
theorem st_n30 (m : Int) : callW (E0 m) 5 [.c (.d (si (Int.ofNat 30)))] [] = some (.v (.c (.d (si 407))), []) := callN_W (k := 60) (by kernel_rfl)
theorem st_n31 (m : Int) : callW (E0 m) 5 [.c (.d (si (Int.ofNat 31)))] [] = some (.v (.c (.d (si 403))), []) := callN_W (k := 60) (by kernel_rfl)
theorem st_n32 (m : Int) : callW (E0 m) 5 [.c (.d (si (Int.ofNat 32)))] [] = some (.v (.c (.d (si 429))), []) := callN_W (k := 60) (by kernel_rfl)
theorem st_n33 (m : Int) : callW (E0 m) 5 [.c (.d (si (Int.ofNat 33)))] [] = some (.v (.c (.d (si 503))), []) := callN_W (k := 60) (by kernel_rfl)
theorem st_n34 (m : Int) : callW (E0 m) 5 [.c (.d (si (Int.ofNat 34)))] [] = some (.v (.c (.d (si 502))), []) := callN_W (k := 60) (by kernel_rfl)
theorem st_n35 (m : Int) : callW (E0 m) 5 [.c (.d (si (Int.ofNat 35)))] [] = some (.v (.c (.d (si 504))), []) := callN_W (k := 60) (by kernel_rfl)
theorem st_big (m : Int) (k : Nat) : callW (E0 m) 5 [.c (.d (si (Int.ofNat (k + 36))))] [] = some (.v (.c (.d (si 400))), []) := callN_W (k := 60) (by kernel_rfl)
theorem st_neg (m : Int) (k : Nat) : callW (E0 m) 5 [.c (.d (si (Int.negSucc k)))] [] = some (.v (.c (.d (si 400))), []) := callN_W (k := 60) (by kernel_rfl)
theorem sn_n0 : stat (Int.ofNat 0) = 200 := by kernel_rfl
theorem sn_n1 : stat (Int.ofNat 1) = 400 := by kernel_rfl
theorem sn_n2 : stat (Int.ofNat 2) = 400 := by kernel_rfl
theorem sn_n3 : stat (Int.ofNat 3) = 431 := by kernel_rfl
theorem sn_n4 : stat (Int.ofNat 4) = 400 := by kernel_rfl
theorem sn_n5 : stat (Int.ofNat 5) = 400 := by kernel_rfl
theorem sn_n6 : stat (Int.ofNat 6) = 400 := by kernel_rfl
theorem sn_n7 : stat (Int.ofNat 7) = 400 := by kernel_rfl
theorem sn_n8 : stat (Int.ofNat 8) = 400 := by kernel_rfl
theorem sn_n9 : stat (Int.ofNat 9) = 400 := by kernel_rfl
theorem sn_n10 : stat (Int.ofNat 10) = 400 := by kernel_rfl
theorem sn_n11 : stat (Int.ofNat 11) = 400 := by kernel_rfl
theorem sn_n12 : stat (Int.ofNat 12) = 400 := by kernel_rfl
theorem sn_n13 : stat (Int.ofNat 13) = 400 := by kernel_rfl
theorem sn_n14 : stat (Int.ofNat 14) = 400 := by kernel_rfl
theorem sn_n15 : stat (Int.ofNat 15) = 400 := by kernel_rfl
theorem sn_n16 : stat (Int.ofNat 16) = 400 := by kernel_rfl
theorem sn_n17 : stat (Int.ofNat 17) = 400 := by kernel_rfl
theorem sn_n18 : stat (Int.ofNat 18) = 400 := by kernel_rfl
theorem sn_n19 : stat (Int.ofNat 19) = 400 := by kernel_rfl
theorem sn_n20 : stat (Int.ofNat 20) = 400 := by kernel_rfl
theorem sn_n21 : stat (Int.ofNat 21) = 413 := by kernel_rfl
theorem sn_n22 : stat (Int.ofNat 22) = 400 := by kernel_rfl
theorem sn_n23 : stat (Int.ofNat 23) = 400 := by kernel_rfl
theorem sn_n24 : stat (Int.ofNat 24) = 400 := by kernel_rfl
theorem sn_n25 : stat (Int.ofNat 25) = 400 := by kernel_rfl
theorem sn_n26 : stat (Int.ofNat 26) = 400 := by kernel_rfl
theorem sn_n27 : stat (Int.ofNat 27) = 400 := by kernel_rfl
theorem sn_n28 : stat (Int.ofNat 28) = 400 := by kernel_rfl
theorem sn_n29 : stat (Int.ofNat 29) = 400 := by kernel_rfl
theorem sn_n30 : stat (Int.ofNat 30) = 407 := by kernel_rfl
theorem sn_n31 : stat (Int.ofNat 31) = 403 := by kernel_rfl
theorem sn_n32 : stat (Int.ofNat 32) = 429 := by kernel_rfl
theorem sn_n33 : stat (Int.ofNat 33) = 503 := by kernel_rfl
theorem sn_n34 : stat (Int.ofNat 34) = 502 := by kernel_rfl
theorem sn_n35 : stat (Int.ofNat 35) = 504 := by kernel_rfl
theorem sn_big (k : Nat) : stat (Int.ofNat (k + 36)) = 400 := by kernel_rfl
theorem sn_neg (k : Nat) : stat (Int.negSucc k) = 400 := by kernel_rfl
theorem st_all (m : Int) : ∀ n : Int, callW (E0 m) 5 [.c (.d (si n))] [] = some (.v (.c (.d (si (stat n)))), [])
  | .ofNat 0 => by rw [sn_n0]; exact st_n0 m
  | .ofNat 1 => by rw [sn_n1]; exact st_n1 m
  | .ofNat 2 => by rw [sn_n2]; exact st_n2 m
  | .ofNat 3 => by rw [sn_n3]; exact st_n3 m
  | .ofNat 4 => by rw [sn_n4]; exact st_n4 m
  | .ofNat 5 => by rw [sn_n5]; exact st_n5 m
  | .ofNat 6 => by rw [sn_n6]; exact st_n6 m
  | .ofNat 7 => by rw [sn_n7]; exact st_n7 m
  | .ofNat 8 => by rw [sn_n8]; exact st_n8 m
  | .ofNat 9 => by rw [sn_n9]; exact st_n9 m
  | .ofNat 10 => by rw [sn_n10]; exact st_n10 m
  | .ofNat 11 => by rw [sn_n11]; exact st_n11 m
  | .ofNat 12 => by rw [sn_n12]; exact st_n12 m
  | .ofNat 13 => by rw [sn_n13]; exact st_n13 m
  | .ofNat 14 => by rw [sn_n14]; exact st_n14 m
  | .ofNat 15 => by rw [sn_n15]; exact st_n15 m
  | .ofNat 16 => by rw [sn_n16]; exact st_n16 m
  | .ofNat 17 => by rw [sn_n17]; exact st_n17 m
  | .ofNat 18 => by rw [sn_n18]; exact st_n18 m
  | .ofNat 19 => by rw [sn_n19]; exact st_n19 m
  | .ofNat 20 => by rw [sn_n20]; exact st_n20 m
  | .ofNat 21 => by rw [sn_n21]; exact st_n21 m
  | .ofNat 22 => by rw [sn_n22]; exact st_n22 m
  | .ofNat 23 => by rw [sn_n23]; exact st_n23 m
  | .ofNat 24 => by rw [sn_n24]; exact st_n24 m
  | .ofNat 25 => by rw [sn_n25]; exact st_n25 m
  | .ofNat 26 => by rw [sn_n26]; exact st_n26 m
  | .ofNat 27 => by rw [sn_n27]; exact st_n27 m
  | .ofNat 28 => by rw [sn_n28]; exact st_n28 m
  | .ofNat 29 => by rw [sn_n29]; exact st_n29 m
  | .ofNat 30 => by rw [sn_n30]; exact st_n30 m
  | .ofNat 31 => by rw [sn_n31]; exact st_n31 m
  | .ofNat 32 => by rw [sn_n32]; exact st_n32 m
  | .ofNat 33 => by rw [sn_n33]; exact st_n33 m
  | .ofNat 34 => by rw [sn_n34]; exact st_n34 m
  | .ofNat 35 => by rw [sn_n35]; exact st_n35 m
  | .ofNat (k + 36) => by rw [sn_big]; exact st_big m k
  | .negSucc k => by rw [sn_neg]; exact st_neg m k
def statP : List V1 → Heap → Option (AV × Heap) := fun args hp => match args, hp with
  | [.c (.d (.sc (.int .i64 n)))], [] => some (.v (.c (.d (si (stat n)))), [])
  | _, _ => none
def primS : FuncId → Option (List V1 → Heap → Option (AV × Heap))
  | 5 => some statP
  | g => primT g
noncomputable def E0s (m : Int) : Env := { E0 m with prim := primS }
theorem statP_ok (m : Int) : CallP (E0 m) 5 statP := fun args hp v h' h => by
  unfold statP at h
  split at h
  · rename_i n
    have e : callW (E0 m) 5 [.c (.d (si n))] [] = some (v, h') := by rw [st_all]; exact h
    exact callW_ok (E0ok m) 5 _ _ v h' e
  · cases h
theorem E0sok (m : Int) : EnvOk (E0s m) := env_prim (E0ok m) fun g p h => by
  unfold primS at h
  split at h
  · cases h; exact statP_ok m
  · exact (E0ok m).prim g p h
end Go.Proofs.YtfcjicedphacfaaDoor
