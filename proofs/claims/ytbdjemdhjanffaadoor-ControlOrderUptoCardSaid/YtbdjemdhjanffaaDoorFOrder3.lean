/- The Go functions as plain functions, and that the evaluator computes them. -/
import Derived.Test.YtbdjemdhjanffaaDoorFOrder2
set_option linter.all false
set_option maxRecDepth 100000
namespace Go.Proofs.YtbdjemdhjanffaaDoor
open Go Go.Ab
open Nat renaming reduceEqDiff → za, reduceAdd → zb, reduceLeDiff → zc, reduceLT → zd, reduceMul → ze, reduceBEq → zf, reduceSub → zg, reducePow → zh
open Int renaming reduceEq → zi, reduceLE → zj, reduceLT → zk, reduceToNat → zl, reduceNegSucc → zm, reduceAdd → zn, reduceBEq → zo
open String renaming reduceBEq → zp
set_option maxHeartbeats 4000000
noncomputable section
variable {mm : Int}
end
end Go.Proofs.YtbdjemdhjanffaaDoor
