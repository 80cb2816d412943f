/- The law for any two errors: calls told by tables, Status for any number, and the run for each form of two numbers. -/
import Derived.Test.YtfcjicedphacfaaDoorApart15
set_option linter.unusedVariables false
set_option linter.unusedSimpArgs false
set_option maxRecDepth 100000
namespace Go.Proofs.YtfcjicedphacfaaDoor
open Go Go.Ab
theorem law_all (m : Int) (f : Int) (l1 l2 : ByteArray) : ∀ e : Int, callW (E0_2 m) 3 [.c (.d (si e)), .c (.d (si f)), .agg [.d (.sc (.string l1)), .d (.sc (.string l2))]] [] = some (.bool true, [])
  | .ofNat 0 => law_n0 m l1 l2 f
  | .ofNat 1 => law_n1 m l1 l2 f
  | .ofNat 2 => law_n2 m l1 l2 f
  | .ofNat 3 => law_n3 m l1 l2 f
  | .ofNat 4 => law_n4 m l1 l2 f
  | .ofNat 5 => law_n5 m l1 l2 f
  | .ofNat 6 => law_n6 m l1 l2 f
  | .ofNat 7 => law_n7 m l1 l2 f
  | .ofNat 8 => law_n8 m l1 l2 f
  | .ofNat 9 => law_n9 m l1 l2 f
  | .ofNat 10 => law_n10 m l1 l2 f
  | .ofNat 11 => law_n11 m l1 l2 f
  | .ofNat 12 => law_n12 m l1 l2 f
  | .ofNat 13 => law_n13 m l1 l2 f
  | .ofNat 14 => law_n14 m l1 l2 f
  | .ofNat 15 => law_n15 m l1 l2 f
  | .ofNat 16 => law_n16 m l1 l2 f
  | .ofNat 17 => law_n17 m l1 l2 f
  | .ofNat 18 => law_n18 m l1 l2 f
  | .ofNat 19 => law_n19 m l1 l2 f
  | .ofNat 20 => law_n20 m l1 l2 f
  | .ofNat 21 => law_n21 m l1 l2 f
  | .ofNat 22 => law_n22 m l1 l2 f
  | .ofNat 23 => law_n23 m l1 l2 f
  | .ofNat 24 => law_n24 m l1 l2 f
  | .ofNat 25 => law_n25 m l1 l2 f
  | .ofNat 26 => law_n26 m l1 l2 f
  | .ofNat 27 => law_n27 m l1 l2 f
  | .ofNat 28 => law_n28 m l1 l2 f
  | .ofNat 29 => law_n29 m l1 l2 f
  | .ofNat 30 => law_n30 m l1 l2 f
  | .ofNat 31 => law_n31 m l1 l2 f
  | .ofNat 32 => law_n32 m l1 l2 f
  | .ofNat 33 => law_n33 m l1 l2 f
  | .ofNat 34 => law_n34 m l1 l2 f
  | .ofNat 35 => law_n35 m l1 l2 f
  | .ofNat (k + 36) => law_big m k l1 l2 f
  | .negSucc k => law_neg m k l1 l2 f
end Go.Proofs.YtfcjicedphacfaaDoor
