/- What FaultKnown's code computes, run by the evaluator: it hands back true. -/
import Derived.Test.YtfcjicedphacfaaProg
import Derived.KernelRfl
import Derived.Test.YtfcjicedphacfaaAb21
set_option linter.unusedVariables false
set_option linter.unusedSimpArgs false
namespace Go.Proofs.Ytfcjicedphacfaa
open Go Go.Ab Go.Proofs
def live : FuncId → Nat → List (Nat × Co)
  | 3, 4 => [(1, .keep), (7, .keep), (8, .keep), (9, .keep)] -- tollhouse/tollhouselaw22.FaultTable 1=status 7=x 8=right 9=i
  | 4, 4 => [(1, .keep), (2, .keep), (3, .keep)] -- tollhouse/tollhouselaw22.FaultKnown 1=statuses 2=is 3=n
  | 4, 18 => [(2, .keep), (5, .keep), (6, .keep), (7, .keep)] -- tollhouse/tollhouselaw22.FaultKnown 2=is 5=errors 6=wants 7=i
  | 16, 4 => [(0, .keep), (1, .keep), (5, .keep)] -- tollhouse/tollhouseref05.Same 0=a 1=b 5=i
  | 18, 4 => [(0, .keep), (1, .keep), (12, .keep), (13, .keep)] -- slices.Equal[[]tollhouse/api.Field,tollhouse/api.Field] 0=s1 1=s2 12= 13=
  | 19, 4 => [(0, .keep), (1, .keep), (12, .keep), (13, .keep)] -- slices.Equal[[]byte,byte] 0=s1 1=s2 12= 13=
  | 20, 2 => [(0, .keep), (1, .keep), (7, .keep), (8, .keep)] -- slices.Index[[]int,int] 0=s 1=v 7= 8=
  | _, _ => []
noncomputable def E0 : Env := { P := Try.prog, live := live, hard := fun _ => false, ext := fun _ _ => none, hand := fun _ => false, prim := fun _ => none }
abbrev I (n : Int) : V1 := .c (.d (.sc (.int .i64 n)))
theorem E0P : E0.P = Try.prog := rfl
theorem E0live : E0.live = live := rfl
theorem E0hard : E0.hard = fun _ => false := rfl
theorem E0prim : E0.prim = fun _ => none := rfl
theorem E0hand : E0.hand = fun _ => false := rfl
theorem sz0 : szP Try.prog 0 = some 1 := by kernel_rfl
theorem by0 : bytesP Try.prog 0 = some 0 := by kernel_rfl
theorem ag0 : aggP Try.prog 0 = some false := by kernel_rfl
theorem sz1 : szP Try.prog 1 = some 1 := by kernel_rfl
theorem by1 : bytesP Try.prog 1 = some 8 := by kernel_rfl
theorem ag1 : aggP Try.prog 1 = some false := by kernel_rfl
theorem sz2 : szP Try.prog 2 = some 1 := by kernel_rfl
theorem by2 : bytesP Try.prog 2 = some 8 := by kernel_rfl
theorem ag2 : aggP Try.prog 2 = some false := by kernel_rfl
theorem sz3 : szP Try.prog 3 = some 1 := by kernel_rfl
theorem by3 : bytesP Try.prog 3 = some 8 := by kernel_rfl
theorem ag3 : aggP Try.prog 3 = some false := by kernel_rfl
theorem sz4 : szP Try.prog 4 = some 1 := by kernel_rfl
theorem by4 : bytesP Try.prog 4 = some 1 := by kernel_rfl
theorem ag4 : aggP Try.prog 4 = some false := by kernel_rfl
theorem sz5 : szP Try.prog 5 = some 1 := by kernel_rfl
theorem by5 : bytesP Try.prog 5 = some 1 := by kernel_rfl
theorem ag5 : aggP Try.prog 5 = some false := by kernel_rfl
theorem sz6 : szP Try.prog 6 = some 1 := by kernel_rfl
theorem by6 : bytesP Try.prog 6 = some 1 := by kernel_rfl
theorem ag6 : aggP Try.prog 6 = some false := by kernel_rfl
theorem sz7 : szP Try.prog 7 = some 4 := by kernel_rfl
theorem by7 : bytesP Try.prog 7 = some 24 := by kernel_rfl
theorem ag7 : aggP Try.prog 7 = some true := by kernel_rfl
theorem sz8 : szP Try.prog 8 = some 4 := by kernel_rfl
theorem by8 : bytesP Try.prog 8 = some 24 := by kernel_rfl
theorem ag8 : aggP Try.prog 8 = some true := by kernel_rfl
theorem sz9 : szP Try.prog 9 = some 1 := by kernel_rfl
theorem by9 : bytesP Try.prog 9 = some 16 := by kernel_rfl
theorem ag9 : aggP Try.prog 9 = some false := by kernel_rfl
theorem sz10 : szP Try.prog 10 = some 1 := by kernel_rfl
theorem by10 : bytesP Try.prog 10 = some 16 := by kernel_rfl
theorem ag10 : aggP Try.prog 10 = some false := by kernel_rfl
theorem sz11 : szP Try.prog 11 = some 1 := by kernel_rfl
theorem by11 : bytesP Try.prog 11 = some 16 := by kernel_rfl
theorem ag11 : aggP Try.prog 11 = some false := by kernel_rfl
theorem sz12 : szP Try.prog 12 = some 1 := by kernel_rfl
theorem by12 : bytesP Try.prog 12 = some 8 := by kernel_rfl
theorem ag12 : aggP Try.prog 12 = some false := by kernel_rfl
theorem sz13 : szP Try.prog 13 = some 2 := by kernel_rfl
theorem by13 : bytesP Try.prog 13 = some 24 := by kernel_rfl
theorem ag13 : aggP Try.prog 13 = some true := by kernel_rfl
theorem sz14 : szP Try.prog 14 = some 2 := by kernel_rfl
theorem by14 : bytesP Try.prog 14 = some 24 := by kernel_rfl
theorem ag14 : aggP Try.prog 14 = some true := by kernel_rfl
theorem sz15 : szP Try.prog 15 = some 1 := by kernel_rfl
theorem by15 : bytesP Try.prog 15 = some 8 := by kernel_rfl
theorem ag15 : aggP Try.prog 15 = some false := by kernel_rfl
theorem sz16 : szP Try.prog 16 = some 1 := by kernel_rfl
theorem by16 : bytesP Try.prog 16 = some 8 := by kernel_rfl
theorem ag16 : aggP Try.prog 16 = some false := by kernel_rfl
theorem sz17 : szP Try.prog 17 = some 1 := by kernel_rfl
theorem by17 : bytesP Try.prog 17 = some 8 := by kernel_rfl
theorem ag17 : aggP Try.prog 17 = some false := by kernel_rfl
theorem sz18 : szP Try.prog 18 = some 1 := by kernel_rfl
theorem by18 : bytesP Try.prog 18 = some 8 := by kernel_rfl
theorem ag18 : aggP Try.prog 18 = some true := by kernel_rfl
theorem sz19 : szP Try.prog 19 = some 1 := by kernel_rfl
theorem by19 : bytesP Try.prog 19 = some 8 := by kernel_rfl
theorem ag19 : aggP Try.prog 19 = some true := by kernel_rfl
theorem sz20 : szP Try.prog 20 = some 1 := by kernel_rfl
theorem by20 : bytesP Try.prog 20 = some 16 := by kernel_rfl
theorem ag20 : aggP Try.prog 20 = some false := by kernel_rfl
theorem sz21 : szP Try.prog 21 = some 1 := by kernel_rfl
theorem by21 : bytesP Try.prog 21 = some 4 := by kernel_rfl
theorem ag21 : aggP Try.prog 21 = some false := by kernel_rfl
theorem sz22 : szP Try.prog 22 = some 1 := by kernel_rfl
theorem by22 : bytesP Try.prog 22 = some 8 := by kernel_rfl
theorem ag22 : aggP Try.prog 22 = some false := by kernel_rfl
theorem sz23 : szP Try.prog 23 = some 1 := by kernel_rfl
theorem by23 : bytesP Try.prog 23 = some 24 := by kernel_rfl
theorem ag23 : aggP Try.prog 23 = some false := by kernel_rfl
theorem sz24 : szP Try.prog 24 = some 1 := by kernel_rfl
theorem by24 : bytesP Try.prog 24 = some 24 := by kernel_rfl
theorem ag24 : aggP Try.prog 24 = some false := by kernel_rfl
theorem sz25 : szP Try.prog 25 = some 5 := by kernel_rfl
theorem by25 : bytesP Try.prog 25 = some 80 := by kernel_rfl
theorem ag25 : aggP Try.prog 25 = some true := by kernel_rfl
theorem sz26 : szP Try.prog 26 = some 5 := by kernel_rfl
theorem by26 : bytesP Try.prog 26 = some 80 := by kernel_rfl
theorem ag26 : aggP Try.prog 26 = some true := by kernel_rfl
theorem sz27 : szP Try.prog 27 = some 1 := by kernel_rfl
theorem by27 : bytesP Try.prog 27 = some 8 := by kernel_rfl
theorem ag27 : aggP Try.prog 27 = some false := by kernel_rfl
theorem sz28 : szP Try.prog 28 = some 1 := by kernel_rfl
theorem by28 : bytesP Try.prog 28 = some 8 := by kernel_rfl
theorem ag28 : aggP Try.prog 28 = some false := by kernel_rfl
theorem sz29 : szP Try.prog 29 = some 1 := by kernel_rfl
theorem by29 : bytesP Try.prog 29 = some 8 := by kernel_rfl
theorem ag29 : aggP Try.prog 29 = some false := by kernel_rfl
theorem sz30 : szP Try.prog 30 = some 1 := by kernel_rfl
theorem by30 : bytesP Try.prog 30 = some 8 := by kernel_rfl
theorem ag30 : aggP Try.prog 30 = some false := by kernel_rfl
theorem sz31 : szP Try.prog 31 = some 1 := by kernel_rfl
theorem by31 : bytesP Try.prog 31 = some 8 := by kernel_rfl
theorem ag31 : aggP Try.prog 31 = some false := by kernel_rfl
theorem sz32 : szP Try.prog 32 = some 2 := by kernel_rfl
theorem by32 : bytesP Try.prog 32 = some 32 := by kernel_rfl
theorem ag32 : aggP Try.prog 32 = some true := by kernel_rfl
theorem sz33 : szP Try.prog 33 = some 2 := by kernel_rfl
theorem by33 : bytesP Try.prog 33 = some 32 := by kernel_rfl
theorem ag33 : aggP Try.prog 33 = some true := by kernel_rfl
theorem sz34 : szP Try.prog 34 = some 1 := by kernel_rfl
theorem by34 : bytesP Try.prog 34 = some 8 := by kernel_rfl
theorem ag34 : aggP Try.prog 34 = some false := by kernel_rfl
theorem sz35 : szP Try.prog 35 = some 1 := by kernel_rfl
theorem by35 : bytesP Try.prog 35 = some 8 := by kernel_rfl
theorem ag35 : aggP Try.prog 35 = some false := by kernel_rfl
theorem sz36 : szP Try.prog 36 = some 10 := by kernel_rfl
theorem by36 : bytesP Try.prog 36 = some 80 := by kernel_rfl
theorem ag36 : aggP Try.prog 36 = some true := by kernel_rfl
theorem sz37 : szP Try.prog 37 = some 8 := by kernel_rfl
theorem by37 : bytesP Try.prog 37 = some 64 := by kernel_rfl
theorem ag37 : aggP Try.prog 37 = some true := by kernel_rfl
theorem sz38 : szP Try.prog 38 = some 8 := by kernel_rfl
theorem by38 : bytesP Try.prog 38 = some 64 := by kernel_rfl
theorem ag38 : aggP Try.prog 38 = some true := by kernel_rfl
theorem sz39 : szP Try.prog 39 = some 1 := by kernel_rfl
theorem by39 : bytesP Try.prog 39 = some 8 := by kernel_rfl
theorem ag39 : aggP Try.prog 39 = some false := by kernel_rfl
theorem sz40 : szP Try.prog 40 = some 1 := by kernel_rfl
theorem by40 : bytesP Try.prog 40 = some 8 := by kernel_rfl
theorem ag40 : aggP Try.prog 40 = some false := by kernel_rfl
theorem sz41 : szP Try.prog 41 = some 1 := by kernel_rfl
theorem by41 : bytesP Try.prog 41 = some 24 := by kernel_rfl
theorem ag41 : aggP Try.prog 41 = some false := by kernel_rfl
abbrev H10 : Heap := [.cells [C.d (.sc (.int .i64 400)), C.d (.sc (.int .i64 403)), C.d (.sc (.int .i64 407)), C.d (.sc (.int .i64 413)), C.d (.sc (.int .i64 429)), C.d (.sc (.int .i64 431)), C.d (.sc (.int .i64 501)), C.d (.sc (.int .i64 502)), C.d (.sc (.int .i64 503)), C.d (.sc (.int .i64 504))]]
def Nin (n : Int) : Prop := n ≠ 400 ∧ n ≠ 403 ∧ n ≠ 407 ∧ n ≠ 413 ∧ n ≠ 429 ∧ n ≠ 431 ∧ n ≠ 501 ∧ n ≠ 502 ∧ n ≠ 503 ∧ n ≠ 504
theorem en20 : entersB Try.prog 20 = some true := by kernel_rfl
theorem en14 : entersB Try.prog 14 = some true := by kernel_rfl
theorem en13 : entersB Try.prog 13 = some true := by kernel_rfl
theorem en15 : entersB Try.prog 15 = some true := by kernel_rfl
theorem c13 : callW E0 13 [] [] = some (.v (.agg [C.d (.sc (.int .i64 400)), C.d (.sc (.int .i64 403)), C.d (.sc (.int .i64 407)), C.d (.sc (.int .i64 413)), C.d (.sc (.int .i64 429)), C.d (.sc (.int .i64 431)), C.d (.sc (.int .i64 501)), C.d (.sc (.int .i64 502)), C.d (.sc (.int .i64 503)), C.d (.sc (.int .i64 504))]), []) := callN_W (k := 10) (by kernel_rfl)
theorem c15 : callW E0 15 [I 502] [] = some (.str ⟨#[66, 97, 100, 32, 71, 97, 116, 101, 119, 97, 121]⟩, []) := callN_W (k := 10) (by kernel_rfl)
abbrev ci (n : Int) : C := .d (.sc (.int .i64 n))
abbrev cs (s : ByteArray) : C := .d (.sc (.string s))
abbrev cn : C := .d (.lst true [])
theorem z36 : zeroC Try.prog 36 = some [ci 0, ci 0, ci 0, ci 0, ci 0, ci 0, ci 0, ci 0, ci 0, ci 0] := by kernel_rfl
theorem z26 : zeroC Try.prog 26 = some [ci 0, cs ⟨#[]⟩, ci 0, cn, cn] := by kernel_rfl
theorem z33 : zeroC Try.prog 33 = some [cs ⟨#[]⟩, cs ⟨#[]⟩] := by kernel_rfl
set_option maxRecDepth 100000 in
set_option maxHeartbeats 4000000 in
theorem c20 (n : Int) (h400 : (n == 400) = false) (h403 : (n == 403) = false) (h407 : (n == 407) = false) (h413 : (n == 413) = false) (h429 : (n == 429) = false) (h431 : (n == 431) = false) (h501 : (n == 501) = false) (h502 : (n == 502) = false) (h503 : (n == 503) = false) (h504 : (n == 504) = false) : callW E0 20 [.c (.slc 0 0 1 10 (some 10)), I n] H10 = some (.int .i64 (-1), H10) := by
  rw [callW_run (fnc := Try.f20) (res := [.tmp 4]) Try.func20 rfl rfl (by kernel_rfl)]
  simp only [h400, h403, h407, h413, h429, h431, h501, h502, h503, h504, itW_K, itK_l, itK_r, Try.underlying3, Try.underlying4, Try.underlying5, Try.underlying9, Try.underlying22, Try.underlying23, Try.underlying24, Try.underlying26, Try.underlying33, Try.underlying36, Try.underlying37, Try.underlying38, Try.underlying41, wrap_64, sz0, by0, ag0, sz1, by1, ag1, sz2, by2, ag2, sz3, by3, ag3, sz4, by4, ag4, sz5, by5, ag5, sz6, by6, ag6, sz7, by7, ag7, sz8, by8, ag8, sz9, by9, ag9, sz10, by10, ag10, sz11, by11, ag11, sz12, by12, ag12, sz13, by13, ag13, sz14, by14, ag14, sz15, by15, ag15, sz16, by16, ag16, sz17, by17, ag17, sz18, by18, ag18, sz19, by19, ag19, sz20, by20, ag20, sz21, by21, ag21, sz22, by22, ag22, sz23, by23, ag23, sz24, by24, ag24, sz25, by25, ag25, sz26, by26, ag26, sz27, by27, ag27, sz28, by28, ag28, sz29, by29, ag29, sz30, by30, ag30, sz31, by31, ag31, sz32, by32, ag32, sz33, by33, ag33, sz34, by34, ag34, sz35, by35, ag35, sz36, by36, ag36, sz37, by37, ag37, sz38, by38, ag38, sz39, by39, ag39, sz40, by40, ag40, sz41, by41, ag41, den_seq, den_cond, den_block, den_region, den_loop, den_skip, den_ret, den_exit, seqD_n, seqD_r, seqD_e, condD_t, condD_f, blockD_n, blockD_r, blockD_e, blockD_e', regD_s, loopD_s, runOps_nil, runOps_none, runOps_some, runK_t, runK_f, stepK_s, bodyD_r, bodyD_n, wantA, stepA, dop, ev, ev1, evC, evI, upd_same, upd_ne, putO, ev_sub, ev_add, ev_mul, ev_quo, ev_lss, ev_leq, ev_gtr, ev_geq, ev_eql, ev_neq, ev_not, ofV_int, ofV_bool, ofV_str, toV_sc, slots0, slots1, slots2, slots3, Option.map_some, Option.bind_some, Option.bind_eq_bind, E0P, E0live, E0hand, E0hard, E0prim, live, firstRegion, Option.getD_some, builtinA, lenA, canon, coerceAll, coerce, coerceC, AV.freeze, V1.freeze, C.freeze, AV.refs, V1.refs, C.refs, V1.cells, close, fuelR, AV.ren, V1.ren, C.ren, Ob.ren, Ob.refs, restrict, slots, resultsL, resultA, finish, mkV, opCall, viaCall, V1.ro, C.ro, AV.toV, newSlice, appendA, srcOf, listOf, C.list, chunk, C.toD, slcCells, wr, cutSlice, evB, bnd, places, evParts, fillC, freezeAll, freezeVs,
    ↓reduceIte, Nat.reduceEqDiff, ne_eq, not_false_eq_true, Int.reduceEq, List.mapM_cons, List.mapM_nil, List.flatMap_cons, List.flatMap_nil, List.append_nil, List.range_zero, List.take_nil, List.length_nil, List.take_zero, Option.pure_def, Nat.beq,
    nc_lit, rg0, rg1, rg2, rg3, rg4, List.length_cons, List.length_map, Nat.reduceAdd, List.cons_append, List.nil_append, List.mem_cons, List.not_mem_nil, or_false, false_or, List.getD_cons_zero, List.getD_cons_succ, List.getElem?_cons_zero, List.getElem?_cons_succ, List.idxOf?_cons, BEq.rfl, List.take_succ_cons, List.all_nil, and_self, true_and, and_true, List.drop_zero, List.drop_succ_cons, Nat.zero_add, Nat.mul_one, Int.toNat_natCast, Int.toNat_zero, List.map_cons, List.map_nil, Nat.reduceLeDiff, Nat.reduceLT, Int.reduceLE, Int.reduceLT, Int.reduceToNat, Int.reduceNegSucc, decide_true, decide_false, or_true, true_or, Bool.false_eq_true, loopF_eq, loopK_n, loopK_r, loopK_e, Nat.reduceMul, Int.reduceAdd, false_and, and_false, Nat.reduceBEq, beq_self_eq_true, Bool.not_true, Bool.not_false, Array.isEmpty_empty, Bool.and_self, List.zip_cons_cons, List.zip_nil_left, List.zip_nil_right, List.foldl_cons, List.foldl_nil, List.set_cons_zero, List.set_cons_succ, List.drop_nil, List.getD_nil, List.getElem?_nil, Option.bind_none, Option.map_none, List.drop_length, List.set_nil, Nat.sub_zero, Nat.reduceSub, Nat.sub_self, List.length_append, Nat.add_zero, List.replicate_succ, List.replicate_zero, List.flatten_cons, List.flatten_nil, Nat.reducePow, Int.reduceBEq, Nat.reduceBEq, Bool.false_and, Bool.true_and, List.getElem?_toArray, Bool.and_true, Bool.and_false]
set_option maxRecDepth 100000 in
set_option maxHeartbeats 4000000 in
theorem c14 (n : Int) (h400 : (n == 400) = false) (h403 : (n == 403) = false) (h407 : (n == 407) = false) (h413 : (n == 413) = false) (h429 : (n == 429) = false) (h431 : (n == 431) = false) (h501 : (n == 501) = false) (h502 : (n == 502) = false) (h503 : (n == 503) = false) (h504 : (n == 504) = false) : callW E0 14 [.c (.slc 0 0 1 10 (some 10)), I n] H10 = some (.bool false, H10) := by
  rw [callW_run (fnc := Try.f14) (res := [.tmp 4]) Try.func14 rfl rfl (by kernel_rfl)]
  simp only [h400, h403, h407, h413, h429, h431, h501, h502, h503, h504, c20, en20, Try.underlying3, Try.underlying4, Try.underlying5, Try.underlying9, Try.underlying22, Try.underlying23, Try.underlying24, Try.underlying26, Try.underlying33, Try.underlying36, Try.underlying37, Try.underlying38, Try.underlying41, wrap_64, sz0, by0, ag0, sz1, by1, ag1, sz2, by2, ag2, sz3, by3, ag3, sz4, by4, ag4, sz5, by5, ag5, sz6, by6, ag6, sz7, by7, ag7, sz8, by8, ag8, sz9, by9, ag9, sz10, by10, ag10, sz11, by11, ag11, sz12, by12, ag12, sz13, by13, ag13, sz14, by14, ag14, sz15, by15, ag15, sz16, by16, ag16, sz17, by17, ag17, sz18, by18, ag18, sz19, by19, ag19, sz20, by20, ag20, sz21, by21, ag21, sz22, by22, ag22, sz23, by23, ag23, sz24, by24, ag24, sz25, by25, ag25, sz26, by26, ag26, sz27, by27, ag27, sz28, by28, ag28, sz29, by29, ag29, sz30, by30, ag30, sz31, by31, ag31, sz32, by32, ag32, sz33, by33, ag33, sz34, by34, ag34, sz35, by35, ag35, sz36, by36, ag36, sz37, by37, ag37, sz38, by38, ag38, sz39, by39, ag39, sz40, by40, ag40, sz41, by41, ag41, den_seq, den_cond, den_block, den_region, den_loop, den_skip, den_ret, den_exit, seqD_n, seqD_r, seqD_e, condD_t, condD_f, blockD_n, blockD_r, blockD_e, blockD_e', regD_s, loopD_s, runOps_nil, runOps_none, runOps_some, runK_t, runK_f, stepK_s, bodyD_r, bodyD_n, wantA, stepA, dop, ev, ev1, evC, evI, upd_same, upd_ne, putO, ev_sub, ev_add, ev_mul, ev_quo, ev_lss, ev_leq, ev_gtr, ev_geq, ev_eql, ev_neq, ev_not, ofV_int, ofV_bool, ofV_str, toV_sc, slots0, slots1, slots2, slots3, Option.map_some, Option.bind_some, Option.bind_eq_bind, E0P, E0live, E0hand, E0hard, E0prim, live, firstRegion, Option.getD_some, builtinA, lenA, canon, coerceAll, coerce, coerceC, AV.freeze, V1.freeze, C.freeze, AV.refs, V1.refs, C.refs, V1.cells, close, fuelR, AV.ren, V1.ren, C.ren, Ob.ren, Ob.refs, restrict, slots, resultsL, resultA, finish, mkV, opCall, viaCall, V1.ro, C.ro, AV.toV, newSlice, appendA, srcOf, listOf, C.list, chunk, C.toD, slcCells, wr, cutSlice, evB, bnd, places, evParts, fillC, freezeAll, freezeVs,
    ↓reduceIte, Nat.reduceEqDiff, ne_eq, not_false_eq_true, Int.reduceEq, List.mapM_cons, List.mapM_nil, List.flatMap_cons, List.flatMap_nil, List.append_nil, List.range_zero, List.take_nil, List.length_nil, List.take_zero, Option.pure_def, Nat.beq,
    nc_lit, rg0, rg1, rg2, rg3, rg4, List.length_cons, List.length_map, Nat.reduceAdd, List.cons_append, List.nil_append, List.mem_cons, List.not_mem_nil, or_false, false_or, List.getD_cons_zero, List.getD_cons_succ, List.getElem?_cons_zero, List.getElem?_cons_succ, List.idxOf?_cons, BEq.rfl, List.take_succ_cons, List.all_nil, and_self, true_and, and_true, List.drop_zero, List.drop_succ_cons, Nat.zero_add, Nat.mul_one, Int.toNat_natCast, Int.toNat_zero, List.map_cons, List.map_nil, Nat.reduceLeDiff, Nat.reduceLT, Int.reduceLE, Int.reduceLT, Int.reduceToNat, Int.reduceNegSucc, decide_true, decide_false, or_true, true_or, Bool.false_eq_true, loopF_eq, loopK_n, loopK_r, loopK_e, Nat.reduceMul, Int.reduceAdd, false_and, and_false, Nat.reduceBEq, beq_self_eq_true, Bool.not_true, Bool.not_false, Array.isEmpty_empty, Bool.and_self, List.zip_cons_cons, List.zip_nil_left, List.zip_nil_right, List.foldl_cons, List.foldl_nil, List.set_cons_zero, List.set_cons_succ, List.drop_nil, List.getD_nil, List.getElem?_nil, Option.bind_none, Option.map_none, List.drop_length, List.set_nil, Nat.sub_zero, Nat.reduceSub, Nat.sub_self, List.length_append, Nat.add_zero, List.replicate_succ, List.replicate_zero, List.flatten_cons, List.flatten_nil, Nat.reducePow, Int.reduceBEq, Nat.reduceBEq, Bool.false_and, Bool.true_and, List.getElem?_toArray, Bool.and_true, Bool.and_false]
set_option maxRecDepth 100000 in
set_option maxHeartbeats 4000000 in
theorem c5 (n : Int) (h400 : (n == 400) = false) (h403 : (n == 403) = false) (h407 : (n == 407) = false) (h413 : (n == 413) = false) (h429 : (n == 429) = false) (h431 : (n == 431) = false) (h501 : (n == 501) = false) (h502 : (n == 502) = false) (h503 : (n == 503) = false) (h504 : (n == 504) = false) : callW E0 5 [I n] [] = some (.v (.agg [ci 502, cs ⟨#[66, 97, 100, 32, 71, 97, 116, 101, 119, 97, 121]⟩, ci 1, .own false [[.sc (.string ⟨#[67, 111, 110, 116, 101, 110, 116, 45, 84, 121, 112, 101]⟩), .sc (.string ⟨#[116, 101, 120, 116, 47, 112, 108, 97, 105, 110]⟩)], [.sc (.string ⟨#[67, 97, 99, 104, 101, 45, 67, 111, 110, 116, 114, 111, 108]⟩), .sc (.string ⟨#[110, 111, 45, 115, 116, 111, 114, 101]⟩)]] 0, .own false [[.sc (.int .u8 66)], [.sc (.int .u8 97)], [.sc (.int .u8 100)], [.sc (.int .u8 32)], [.sc (.int .u8 71)], [.sc (.int .u8 97)], [.sc (.int .u8 116)], [.sc (.int .u8 101)], [.sc (.int .u8 119)], [.sc (.int .u8 97)], [.sc (.int .u8 121)], [.sc (.int .u8 10)]] 1]), [.row 2 2, .row 12 1]) := by
  rw [callW_run (fnc := Try.f5) (res := [.cell 2 26]) Try.func5 rfl rfl (by kernel_rfl)]
  simp only [h400, h403, h407, h413, h429, h431, h501, h502, h503, h504, c13, c14, c15, en13, en14, en15, z36, z26, z33, Try.underlying3, Try.underlying4, Try.underlying5, Try.underlying9, Try.underlying22, Try.underlying23, Try.underlying24, Try.underlying26, Try.underlying33, Try.underlying36, Try.underlying37, Try.underlying38, Try.underlying41, wrap_64, sz0, by0, ag0, sz1, by1, ag1, sz2, by2, ag2, sz3, by3, ag3, sz4, by4, ag4, sz5, by5, ag5, sz6, by6, ag6, sz7, by7, ag7, sz8, by8, ag8, sz9, by9, ag9, sz10, by10, ag10, sz11, by11, ag11, sz12, by12, ag12, sz13, by13, ag13, sz14, by14, ag14, sz15, by15, ag15, sz16, by16, ag16, sz17, by17, ag17, sz18, by18, ag18, sz19, by19, ag19, sz20, by20, ag20, sz21, by21, ag21, sz22, by22, ag22, sz23, by23, ag23, sz24, by24, ag24, sz25, by25, ag25, sz26, by26, ag26, sz27, by27, ag27, sz28, by28, ag28, sz29, by29, ag29, sz30, by30, ag30, sz31, by31, ag31, sz32, by32, ag32, sz33, by33, ag33, sz34, by34, ag34, sz35, by35, ag35, sz36, by36, ag36, sz37, by37, ag37, sz38, by38, ag38, sz39, by39, ag39, sz40, by40, ag40, sz41, by41, ag41, den_seq, den_cond, den_block, den_region, den_loop, den_skip, den_ret, den_exit, seqD_n, seqD_r, seqD_e, condD_t, condD_f, blockD_n, blockD_r, blockD_e, blockD_e', regD_s, loopD_s, runOps_nil, runOps_none, runOps_some, runK_t, runK_f, stepK_s, bodyD_r, bodyD_n, wantA, stepA, dop, ev, ev1, evC, evI, upd_same, upd_ne, putO, ev_sub, ev_add, ev_mul, ev_quo, ev_lss, ev_leq, ev_gtr, ev_geq, ev_eql, ev_neq, ev_not, ofV_int, ofV_bool, ofV_str, toV_sc, slots0, slots1, slots2, slots3, Option.map_some, Option.bind_some, Option.bind_eq_bind, E0P, E0live, E0hand, E0hard, E0prim, live, firstRegion, Option.getD_some, builtinA, lenA, canon, coerceAll, coerce, coerceC, AV.freeze, V1.freeze, C.freeze, AV.refs, V1.refs, C.refs, V1.cells, close, fuelR, AV.ren, V1.ren, C.ren, Ob.ren, Ob.refs, restrict, slots, resultsL, resultA, finish, mkV, opCall, viaCall, V1.ro, C.ro, AV.toV, newSlice, appendA, srcOf, listOf, C.list, chunk, C.toD, slcCells, wr, cutSlice, evB, bnd, places, evParts, fillC, freezeAll, freezeVs,
    ↓reduceIte, Nat.reduceEqDiff, ne_eq, not_false_eq_true, Int.reduceEq, List.mapM_cons, List.mapM_nil, List.flatMap_cons, List.flatMap_nil, List.append_nil, List.range_zero, List.take_nil, List.length_nil, List.take_zero, Option.pure_def, Nat.beq,
    nc_lit, rg0, rg1, rg2, rg3, rg4, List.length_cons, List.length_map, Nat.reduceAdd, List.cons_append, List.nil_append, List.mem_cons, List.not_mem_nil, or_false, false_or, List.getD_cons_zero, List.getD_cons_succ, List.getElem?_cons_zero, List.getElem?_cons_succ, List.idxOf?_cons, BEq.rfl, List.take_succ_cons, List.all_nil, and_self, true_and, and_true, List.drop_zero, List.drop_succ_cons, Nat.zero_add, Nat.mul_one, Int.toNat_natCast, Int.toNat_zero, List.map_cons, List.map_nil, Nat.reduceLeDiff, Nat.reduceLT, Int.reduceLE, Int.reduceLT, Int.reduceToNat, Int.reduceNegSucc, decide_true, decide_false, or_true, true_or, Bool.false_eq_true, loopF_eq, loopK_n, loopK_r, loopK_e, Nat.reduceMul, Int.reduceAdd, false_and, and_false, Nat.reduceBEq, beq_self_eq_true, Bool.not_true, Bool.not_false, Array.isEmpty_empty, Bool.and_self, List.zip_cons_cons, List.zip_nil_left, List.zip_nil_right, List.foldl_cons, List.foldl_nil, List.set_cons_zero, List.set_cons_succ, List.drop_nil, List.getD_nil, List.getElem?_nil, Option.bind_none, Option.map_none, List.drop_length, List.set_nil, Nat.sub_zero, Nat.reduceSub, Nat.sub_self, List.length_append, Nat.add_zero, List.replicate_succ, List.replicate_zero, List.flatten_cons, List.flatten_nil, Nat.reducePow, Int.reduceBEq, Nat.reduceBEq, Bool.false_and, Bool.true_and, List.getElem?_toArray, Bool.and_true, Bool.and_false]
  kernel_rfl
theorem r400 : callW E0 5 [I 400] [] = some (.v (.agg [ci 400, cs ⟨#[66, 97, 100, 32, 82, 101, 113, 117, 101, 115, 116]⟩, ci 1, .own false [[.sc (.string ⟨#[67, 111, 110, 116, 101, 110, 116, 45, 84, 121, 112, 101]⟩), .sc (.string ⟨#[116, 101, 120, 116, 47, 112, 108, 97, 105, 110]⟩)], [.sc (.string ⟨#[67, 97, 99, 104, 101, 45, 67, 111, 110, 116, 114, 111, 108]⟩), .sc (.string ⟨#[110, 111, 45, 115, 116, 111, 114, 101]⟩)]] 0, .own false [[.sc (.int .u8 66)], [.sc (.int .u8 97)], [.sc (.int .u8 100)], [.sc (.int .u8 32)], [.sc (.int .u8 82)], [.sc (.int .u8 101)], [.sc (.int .u8 113)], [.sc (.int .u8 117)], [.sc (.int .u8 101)], [.sc (.int .u8 115)], [.sc (.int .u8 116)], [.sc (.int .u8 10)]] 1]), [.row 2 2, .row 12 1]) := callN_W (k := 20) (by kernel_rfl)
theorem r403 : callW E0 5 [I 403] [] = some (.v (.agg [ci 403, cs ⟨#[70, 111, 114, 98, 105, 100, 100, 101, 110]⟩, ci 1, .own false [[.sc (.string ⟨#[67, 111, 110, 116, 101, 110, 116, 45, 84, 121, 112, 101]⟩), .sc (.string ⟨#[116, 101, 120, 116, 47, 112, 108, 97, 105, 110]⟩)], [.sc (.string ⟨#[67, 97, 99, 104, 101, 45, 67, 111, 110, 116, 114, 111, 108]⟩), .sc (.string ⟨#[110, 111, 45, 115, 116, 111, 114, 101]⟩)]] 0, .own false [[.sc (.int .u8 70)], [.sc (.int .u8 111)], [.sc (.int .u8 114)], [.sc (.int .u8 98)], [.sc (.int .u8 105)], [.sc (.int .u8 100)], [.sc (.int .u8 100)], [.sc (.int .u8 101)], [.sc (.int .u8 110)], [.sc (.int .u8 10)]] 1]), [.row 2 2, .row 10 1]) := callN_W (k := 20) (by kernel_rfl)
theorem r407 : callW E0 5 [I 407] [] = some (.v (.agg [ci 407, cs ⟨#[80, 114, 111, 120, 121, 32, 65, 117, 116, 104, 101, 110, 116, 105, 99, 97, 116, 105, 111, 110, 32, 82, 101, 113, 117, 105, 114, 101, 100]⟩, ci 1, .own false [[.sc (.string ⟨#[67, 111, 110, 116, 101, 110, 116, 45, 84, 121, 112, 101]⟩), .sc (.string ⟨#[116, 101, 120, 116, 47, 112, 108, 97, 105, 110]⟩)], [.sc (.string ⟨#[67, 97, 99, 104, 101, 45, 67, 111, 110, 116, 114, 111, 108]⟩), .sc (.string ⟨#[110, 111, 45, 115, 116, 111, 114, 101]⟩)], [.sc (.string ⟨#[80, 114, 111, 120, 121, 45, 65, 117, 116, 104, 101, 110, 116, 105, 99, 97, 116, 101]⟩), .sc (.string ⟨#[66, 101, 97, 114, 101, 114]⟩)]] 0, .own false [[.sc (.int .u8 80)], [.sc (.int .u8 114)], [.sc (.int .u8 111)], [.sc (.int .u8 120)], [.sc (.int .u8 121)], [.sc (.int .u8 32)], [.sc (.int .u8 65)], [.sc (.int .u8 117)], [.sc (.int .u8 116)], [.sc (.int .u8 104)], [.sc (.int .u8 101)], [.sc (.int .u8 110)], [.sc (.int .u8 116)], [.sc (.int .u8 105)], [.sc (.int .u8 99)], [.sc (.int .u8 97)], [.sc (.int .u8 116)], [.sc (.int .u8 105)], [.sc (.int .u8 111)], [.sc (.int .u8 110)], [.sc (.int .u8 32)], [.sc (.int .u8 82)], [.sc (.int .u8 101)], [.sc (.int .u8 113)], [.sc (.int .u8 117)], [.sc (.int .u8 105)], [.sc (.int .u8 114)], [.sc (.int .u8 101)], [.sc (.int .u8 100)], [.sc (.int .u8 10)]] 1]), [.row 3 2, .row 30 1]) := callN_W (k := 20) (by kernel_rfl)
theorem r413 : callW E0 5 [I 413] [] = some (.v (.agg [ci 413, cs ⟨#[67, 111, 110, 116, 101, 110, 116, 32, 84, 111, 111, 32, 76, 97, 114, 103, 101]⟩, ci 1, .own false [[.sc (.string ⟨#[67, 111, 110, 116, 101, 110, 116, 45, 84, 121, 112, 101]⟩), .sc (.string ⟨#[116, 101, 120, 116, 47, 112, 108, 97, 105, 110]⟩)], [.sc (.string ⟨#[67, 97, 99, 104, 101, 45, 67, 111, 110, 116, 114, 111, 108]⟩), .sc (.string ⟨#[110, 111, 45, 115, 116, 111, 114, 101]⟩)]] 0, .own false [[.sc (.int .u8 67)], [.sc (.int .u8 111)], [.sc (.int .u8 110)], [.sc (.int .u8 116)], [.sc (.int .u8 101)], [.sc (.int .u8 110)], [.sc (.int .u8 116)], [.sc (.int .u8 32)], [.sc (.int .u8 84)], [.sc (.int .u8 111)], [.sc (.int .u8 111)], [.sc (.int .u8 32)], [.sc (.int .u8 76)], [.sc (.int .u8 97)], [.sc (.int .u8 114)], [.sc (.int .u8 103)], [.sc (.int .u8 101)], [.sc (.int .u8 10)]] 1]), [.row 2 2, .row 18 1]) := callN_W (k := 20) (by kernel_rfl)
theorem r429 : callW E0 5 [I 429] [] = some (.v (.agg [ci 429, cs ⟨#[84, 111, 111, 32, 77, 97, 110, 121, 32, 82, 101, 113, 117, 101, 115, 116, 115]⟩, ci 1, .own false [[.sc (.string ⟨#[67, 111, 110, 116, 101, 110, 116, 45, 84, 121, 112, 101]⟩), .sc (.string ⟨#[116, 101, 120, 116, 47, 112, 108, 97, 105, 110]⟩)], [.sc (.string ⟨#[67, 97, 99, 104, 101, 45, 67, 111, 110, 116, 114, 111, 108]⟩), .sc (.string ⟨#[110, 111, 45, 115, 116, 111, 114, 101]⟩)]] 0, .own false [[.sc (.int .u8 84)], [.sc (.int .u8 111)], [.sc (.int .u8 111)], [.sc (.int .u8 32)], [.sc (.int .u8 77)], [.sc (.int .u8 97)], [.sc (.int .u8 110)], [.sc (.int .u8 121)], [.sc (.int .u8 32)], [.sc (.int .u8 82)], [.sc (.int .u8 101)], [.sc (.int .u8 113)], [.sc (.int .u8 117)], [.sc (.int .u8 101)], [.sc (.int .u8 115)], [.sc (.int .u8 116)], [.sc (.int .u8 115)], [.sc (.int .u8 10)]] 1]), [.row 2 2, .row 18 1]) := callN_W (k := 20) (by kernel_rfl)
theorem r431 : callW E0 5 [I 431] [] = some (.v (.agg [ci 431, cs ⟨#[82, 101, 113, 117, 101, 115, 116, 32, 72, 101, 97, 100, 101, 114, 32, 70, 105, 101, 108, 100, 115, 32, 84, 111, 111, 32, 76, 97, 114, 103, 101]⟩, ci 1, .own false [[.sc (.string ⟨#[67, 111, 110, 116, 101, 110, 116, 45, 84, 121, 112, 101]⟩), .sc (.string ⟨#[116, 101, 120, 116, 47, 112, 108, 97, 105, 110]⟩)], [.sc (.string ⟨#[67, 97, 99, 104, 101, 45, 67, 111, 110, 116, 114, 111, 108]⟩), .sc (.string ⟨#[110, 111, 45, 115, 116, 111, 114, 101]⟩)]] 0, .own false [[.sc (.int .u8 82)], [.sc (.int .u8 101)], [.sc (.int .u8 113)], [.sc (.int .u8 117)], [.sc (.int .u8 101)], [.sc (.int .u8 115)], [.sc (.int .u8 116)], [.sc (.int .u8 32)], [.sc (.int .u8 72)], [.sc (.int .u8 101)], [.sc (.int .u8 97)], [.sc (.int .u8 100)], [.sc (.int .u8 101)], [.sc (.int .u8 114)], [.sc (.int .u8 32)], [.sc (.int .u8 70)], [.sc (.int .u8 105)], [.sc (.int .u8 101)], [.sc (.int .u8 108)], [.sc (.int .u8 100)], [.sc (.int .u8 115)], [.sc (.int .u8 32)], [.sc (.int .u8 84)], [.sc (.int .u8 111)], [.sc (.int .u8 111)], [.sc (.int .u8 32)], [.sc (.int .u8 76)], [.sc (.int .u8 97)], [.sc (.int .u8 114)], [.sc (.int .u8 103)], [.sc (.int .u8 101)], [.sc (.int .u8 10)]] 1]), [.row 2 2, .row 32 1]) := callN_W (k := 20) (by kernel_rfl)
theorem r501 : callW E0 5 [I 501] [] = some (.v (.agg [ci 501, cs ⟨#[78, 111, 116, 32, 73, 109, 112, 108, 101, 109, 101, 110, 116, 101, 100]⟩, ci 1, .own false [[.sc (.string ⟨#[67, 111, 110, 116, 101, 110, 116, 45, 84, 121, 112, 101]⟩), .sc (.string ⟨#[116, 101, 120, 116, 47, 112, 108, 97, 105, 110]⟩)], [.sc (.string ⟨#[67, 97, 99, 104, 101, 45, 67, 111, 110, 116, 114, 111, 108]⟩), .sc (.string ⟨#[110, 111, 45, 115, 116, 111, 114, 101]⟩)]] 0, .own false [[.sc (.int .u8 78)], [.sc (.int .u8 111)], [.sc (.int .u8 116)], [.sc (.int .u8 32)], [.sc (.int .u8 73)], [.sc (.int .u8 109)], [.sc (.int .u8 112)], [.sc (.int .u8 108)], [.sc (.int .u8 101)], [.sc (.int .u8 109)], [.sc (.int .u8 101)], [.sc (.int .u8 110)], [.sc (.int .u8 116)], [.sc (.int .u8 101)], [.sc (.int .u8 100)], [.sc (.int .u8 10)]] 1]), [.row 2 2, .row 16 1]) := callN_W (k := 20) (by kernel_rfl)
theorem r502 : callW E0 5 [I 502] [] = some (.v (.agg [ci 502, cs ⟨#[66, 97, 100, 32, 71, 97, 116, 101, 119, 97, 121]⟩, ci 1, .own false [[.sc (.string ⟨#[67, 111, 110, 116, 101, 110, 116, 45, 84, 121, 112, 101]⟩), .sc (.string ⟨#[116, 101, 120, 116, 47, 112, 108, 97, 105, 110]⟩)], [.sc (.string ⟨#[67, 97, 99, 104, 101, 45, 67, 111, 110, 116, 114, 111, 108]⟩), .sc (.string ⟨#[110, 111, 45, 115, 116, 111, 114, 101]⟩)]] 0, .own false [[.sc (.int .u8 66)], [.sc (.int .u8 97)], [.sc (.int .u8 100)], [.sc (.int .u8 32)], [.sc (.int .u8 71)], [.sc (.int .u8 97)], [.sc (.int .u8 116)], [.sc (.int .u8 101)], [.sc (.int .u8 119)], [.sc (.int .u8 97)], [.sc (.int .u8 121)], [.sc (.int .u8 10)]] 1]), [.row 2 2, .row 12 1]) := callN_W (k := 20) (by kernel_rfl)
theorem r503 : callW E0 5 [I 503] [] = some (.v (.agg [ci 503, cs ⟨#[83, 101, 114, 118, 105, 99, 101, 32, 85, 110, 97, 118, 97, 105, 108, 97, 98, 108, 101]⟩, ci 1, .own false [[.sc (.string ⟨#[67, 111, 110, 116, 101, 110, 116, 45, 84, 121, 112, 101]⟩), .sc (.string ⟨#[116, 101, 120, 116, 47, 112, 108, 97, 105, 110]⟩)], [.sc (.string ⟨#[67, 97, 99, 104, 101, 45, 67, 111, 110, 116, 114, 111, 108]⟩), .sc (.string ⟨#[110, 111, 45, 115, 116, 111, 114, 101]⟩)]] 0, .own false [[.sc (.int .u8 83)], [.sc (.int .u8 101)], [.sc (.int .u8 114)], [.sc (.int .u8 118)], [.sc (.int .u8 105)], [.sc (.int .u8 99)], [.sc (.int .u8 101)], [.sc (.int .u8 32)], [.sc (.int .u8 85)], [.sc (.int .u8 110)], [.sc (.int .u8 97)], [.sc (.int .u8 118)], [.sc (.int .u8 97)], [.sc (.int .u8 105)], [.sc (.int .u8 108)], [.sc (.int .u8 97)], [.sc (.int .u8 98)], [.sc (.int .u8 108)], [.sc (.int .u8 101)], [.sc (.int .u8 10)]] 1]), [.row 2 2, .row 20 1]) := callN_W (k := 20) (by kernel_rfl)
theorem r504 : callW E0 5 [I 504] [] = some (.v (.agg [ci 504, cs ⟨#[71, 97, 116, 101, 119, 97, 121, 32, 84, 105, 109, 101, 111, 117, 116]⟩, ci 1, .own false [[.sc (.string ⟨#[67, 111, 110, 116, 101, 110, 116, 45, 84, 121, 112, 101]⟩), .sc (.string ⟨#[116, 101, 120, 116, 47, 112, 108, 97, 105, 110]⟩)], [.sc (.string ⟨#[67, 97, 99, 104, 101, 45, 67, 111, 110, 116, 114, 111, 108]⟩), .sc (.string ⟨#[110, 111, 45, 115, 116, 111, 114, 101]⟩)]] 0, .own false [[.sc (.int .u8 71)], [.sc (.int .u8 97)], [.sc (.int .u8 116)], [.sc (.int .u8 101)], [.sc (.int .u8 119)], [.sc (.int .u8 97)], [.sc (.int .u8 121)], [.sc (.int .u8 32)], [.sc (.int .u8 84)], [.sc (.int .u8 105)], [.sc (.int .u8 109)], [.sc (.int .u8 101)], [.sc (.int .u8 111)], [.sc (.int .u8 117)], [.sc (.int .u8 116)], [.sc (.int .u8 10)]] 1]), [.row 2 2, .row 16 1]) := callN_W (k := 20) (by kernel_rfl)
theorem i400 : callW E0 10 [.agg [ci 400, cs ⟨#[66, 97, 100, 32, 82, 101, 113, 117, 101, 115, 116]⟩, ci 1, .d (.lst false [[.sc (.string ⟨#[67, 111, 110, 116, 101, 110, 116, 45, 84, 121, 112, 101]⟩), .sc (.string ⟨#[116, 101, 120, 116, 47, 112, 108, 97, 105, 110]⟩)], [.sc (.string ⟨#[67, 97, 99, 104, 101, 45, 67, 111, 110, 116, 114, 111, 108]⟩), .sc (.string ⟨#[110, 111, 45, 115, 116, 111, 114, 101]⟩)]]), .d (.lst false [[.sc (.int .u8 66)], [.sc (.int .u8 97)], [.sc (.int .u8 100)], [.sc (.int .u8 32)], [.sc (.int .u8 82)], [.sc (.int .u8 101)], [.sc (.int .u8 113)], [.sc (.int .u8 117)], [.sc (.int .u8 101)], [.sc (.int .u8 115)], [.sc (.int .u8 116)], [.sc (.int .u8 10)]])]] [] = some (.bool true, []) := callN_W (k := 60) (by kernel_rfl)
theorem i403 : callW E0 10 [.agg [ci 403, cs ⟨#[70, 111, 114, 98, 105, 100, 100, 101, 110]⟩, ci 1, .d (.lst false [[.sc (.string ⟨#[67, 111, 110, 116, 101, 110, 116, 45, 84, 121, 112, 101]⟩), .sc (.string ⟨#[116, 101, 120, 116, 47, 112, 108, 97, 105, 110]⟩)], [.sc (.string ⟨#[67, 97, 99, 104, 101, 45, 67, 111, 110, 116, 114, 111, 108]⟩), .sc (.string ⟨#[110, 111, 45, 115, 116, 111, 114, 101]⟩)]]), .d (.lst false [[.sc (.int .u8 70)], [.sc (.int .u8 111)], [.sc (.int .u8 114)], [.sc (.int .u8 98)], [.sc (.int .u8 105)], [.sc (.int .u8 100)], [.sc (.int .u8 100)], [.sc (.int .u8 101)], [.sc (.int .u8 110)], [.sc (.int .u8 10)]])]] [] = some (.bool true, []) := callN_W (k := 60) (by kernel_rfl)
theorem i407 : callW E0 10 [.agg [ci 407, cs ⟨#[80, 114, 111, 120, 121, 32, 65, 117, 116, 104, 101, 110, 116, 105, 99, 97, 116, 105, 111, 110, 32, 82, 101, 113, 117, 105, 114, 101, 100]⟩, ci 1, .d (.lst false [[.sc (.string ⟨#[67, 111, 110, 116, 101, 110, 116, 45, 84, 121, 112, 101]⟩), .sc (.string ⟨#[116, 101, 120, 116, 47, 112, 108, 97, 105, 110]⟩)], [.sc (.string ⟨#[67, 97, 99, 104, 101, 45, 67, 111, 110, 116, 114, 111, 108]⟩), .sc (.string ⟨#[110, 111, 45, 115, 116, 111, 114, 101]⟩)], [.sc (.string ⟨#[80, 114, 111, 120, 121, 45, 65, 117, 116, 104, 101, 110, 116, 105, 99, 97, 116, 101]⟩), .sc (.string ⟨#[66, 101, 97, 114, 101, 114]⟩)]]), .d (.lst false [[.sc (.int .u8 80)], [.sc (.int .u8 114)], [.sc (.int .u8 111)], [.sc (.int .u8 120)], [.sc (.int .u8 121)], [.sc (.int .u8 32)], [.sc (.int .u8 65)], [.sc (.int .u8 117)], [.sc (.int .u8 116)], [.sc (.int .u8 104)], [.sc (.int .u8 101)], [.sc (.int .u8 110)], [.sc (.int .u8 116)], [.sc (.int .u8 105)], [.sc (.int .u8 99)], [.sc (.int .u8 97)], [.sc (.int .u8 116)], [.sc (.int .u8 105)], [.sc (.int .u8 111)], [.sc (.int .u8 110)], [.sc (.int .u8 32)], [.sc (.int .u8 82)], [.sc (.int .u8 101)], [.sc (.int .u8 113)], [.sc (.int .u8 117)], [.sc (.int .u8 105)], [.sc (.int .u8 114)], [.sc (.int .u8 101)], [.sc (.int .u8 100)], [.sc (.int .u8 10)]])]] [] = some (.bool true, []) := callN_W (k := 60) (by kernel_rfl)
theorem i413 : callW E0 10 [.agg [ci 413, cs ⟨#[67, 111, 110, 116, 101, 110, 116, 32, 84, 111, 111, 32, 76, 97, 114, 103, 101]⟩, ci 1, .d (.lst false [[.sc (.string ⟨#[67, 111, 110, 116, 101, 110, 116, 45, 84, 121, 112, 101]⟩), .sc (.string ⟨#[116, 101, 120, 116, 47, 112, 108, 97, 105, 110]⟩)], [.sc (.string ⟨#[67, 97, 99, 104, 101, 45, 67, 111, 110, 116, 114, 111, 108]⟩), .sc (.string ⟨#[110, 111, 45, 115, 116, 111, 114, 101]⟩)]]), .d (.lst false [[.sc (.int .u8 67)], [.sc (.int .u8 111)], [.sc (.int .u8 110)], [.sc (.int .u8 116)], [.sc (.int .u8 101)], [.sc (.int .u8 110)], [.sc (.int .u8 116)], [.sc (.int .u8 32)], [.sc (.int .u8 84)], [.sc (.int .u8 111)], [.sc (.int .u8 111)], [.sc (.int .u8 32)], [.sc (.int .u8 76)], [.sc (.int .u8 97)], [.sc (.int .u8 114)], [.sc (.int .u8 103)], [.sc (.int .u8 101)], [.sc (.int .u8 10)]])]] [] = some (.bool true, []) := callN_W (k := 60) (by kernel_rfl)
theorem i429 : callW E0 10 [.agg [ci 429, cs ⟨#[84, 111, 111, 32, 77, 97, 110, 121, 32, 82, 101, 113, 117, 101, 115, 116, 115]⟩, ci 1, .d (.lst false [[.sc (.string ⟨#[67, 111, 110, 116, 101, 110, 116, 45, 84, 121, 112, 101]⟩), .sc (.string ⟨#[116, 101, 120, 116, 47, 112, 108, 97, 105, 110]⟩)], [.sc (.string ⟨#[67, 97, 99, 104, 101, 45, 67, 111, 110, 116, 114, 111, 108]⟩), .sc (.string ⟨#[110, 111, 45, 115, 116, 111, 114, 101]⟩)]]), .d (.lst false [[.sc (.int .u8 84)], [.sc (.int .u8 111)], [.sc (.int .u8 111)], [.sc (.int .u8 32)], [.sc (.int .u8 77)], [.sc (.int .u8 97)], [.sc (.int .u8 110)], [.sc (.int .u8 121)], [.sc (.int .u8 32)], [.sc (.int .u8 82)], [.sc (.int .u8 101)], [.sc (.int .u8 113)], [.sc (.int .u8 117)], [.sc (.int .u8 101)], [.sc (.int .u8 115)], [.sc (.int .u8 116)], [.sc (.int .u8 115)], [.sc (.int .u8 10)]])]] [] = some (.bool true, []) := callN_W (k := 60) (by kernel_rfl)
theorem i431 : callW E0 10 [.agg [ci 431, cs ⟨#[82, 101, 113, 117, 101, 115, 116, 32, 72, 101, 97, 100, 101, 114, 32, 70, 105, 101, 108, 100, 115, 32, 84, 111, 111, 32, 76, 97, 114, 103, 101]⟩, ci 1, .d (.lst false [[.sc (.string ⟨#[67, 111, 110, 116, 101, 110, 116, 45, 84, 121, 112, 101]⟩), .sc (.string ⟨#[116, 101, 120, 116, 47, 112, 108, 97, 105, 110]⟩)], [.sc (.string ⟨#[67, 97, 99, 104, 101, 45, 67, 111, 110, 116, 114, 111, 108]⟩), .sc (.string ⟨#[110, 111, 45, 115, 116, 111, 114, 101]⟩)]]), .d (.lst false [[.sc (.int .u8 82)], [.sc (.int .u8 101)], [.sc (.int .u8 113)], [.sc (.int .u8 117)], [.sc (.int .u8 101)], [.sc (.int .u8 115)], [.sc (.int .u8 116)], [.sc (.int .u8 32)], [.sc (.int .u8 72)], [.sc (.int .u8 101)], [.sc (.int .u8 97)], [.sc (.int .u8 100)], [.sc (.int .u8 101)], [.sc (.int .u8 114)], [.sc (.int .u8 32)], [.sc (.int .u8 70)], [.sc (.int .u8 105)], [.sc (.int .u8 101)], [.sc (.int .u8 108)], [.sc (.int .u8 100)], [.sc (.int .u8 115)], [.sc (.int .u8 32)], [.sc (.int .u8 84)], [.sc (.int .u8 111)], [.sc (.int .u8 111)], [.sc (.int .u8 32)], [.sc (.int .u8 76)], [.sc (.int .u8 97)], [.sc (.int .u8 114)], [.sc (.int .u8 103)], [.sc (.int .u8 101)], [.sc (.int .u8 10)]])]] [] = some (.bool true, []) := callN_W (k := 60) (by kernel_rfl)
theorem i501 : callW E0 10 [.agg [ci 501, cs ⟨#[78, 111, 116, 32, 73, 109, 112, 108, 101, 109, 101, 110, 116, 101, 100]⟩, ci 1, .d (.lst false [[.sc (.string ⟨#[67, 111, 110, 116, 101, 110, 116, 45, 84, 121, 112, 101]⟩), .sc (.string ⟨#[116, 101, 120, 116, 47, 112, 108, 97, 105, 110]⟩)], [.sc (.string ⟨#[67, 97, 99, 104, 101, 45, 67, 111, 110, 116, 114, 111, 108]⟩), .sc (.string ⟨#[110, 111, 45, 115, 116, 111, 114, 101]⟩)]]), .d (.lst false [[.sc (.int .u8 78)], [.sc (.int .u8 111)], [.sc (.int .u8 116)], [.sc (.int .u8 32)], [.sc (.int .u8 73)], [.sc (.int .u8 109)], [.sc (.int .u8 112)], [.sc (.int .u8 108)], [.sc (.int .u8 101)], [.sc (.int .u8 109)], [.sc (.int .u8 101)], [.sc (.int .u8 110)], [.sc (.int .u8 116)], [.sc (.int .u8 101)], [.sc (.int .u8 100)], [.sc (.int .u8 10)]])]] [] = some (.bool true, []) := callN_W (k := 60) (by kernel_rfl)
theorem i502 : callW E0 10 [.agg [ci 502, cs ⟨#[66, 97, 100, 32, 71, 97, 116, 101, 119, 97, 121]⟩, ci 1, .d (.lst false [[.sc (.string ⟨#[67, 111, 110, 116, 101, 110, 116, 45, 84, 121, 112, 101]⟩), .sc (.string ⟨#[116, 101, 120, 116, 47, 112, 108, 97, 105, 110]⟩)], [.sc (.string ⟨#[67, 97, 99, 104, 101, 45, 67, 111, 110, 116, 114, 111, 108]⟩), .sc (.string ⟨#[110, 111, 45, 115, 116, 111, 114, 101]⟩)]]), .d (.lst false [[.sc (.int .u8 66)], [.sc (.int .u8 97)], [.sc (.int .u8 100)], [.sc (.int .u8 32)], [.sc (.int .u8 71)], [.sc (.int .u8 97)], [.sc (.int .u8 116)], [.sc (.int .u8 101)], [.sc (.int .u8 119)], [.sc (.int .u8 97)], [.sc (.int .u8 121)], [.sc (.int .u8 10)]])]] [] = some (.bool true, []) := callN_W (k := 60) (by kernel_rfl)
theorem i503 : callW E0 10 [.agg [ci 503, cs ⟨#[83, 101, 114, 118, 105, 99, 101, 32, 85, 110, 97, 118, 97, 105, 108, 97, 98, 108, 101]⟩, ci 1, .d (.lst false [[.sc (.string ⟨#[67, 111, 110, 116, 101, 110, 116, 45, 84, 121, 112, 101]⟩), .sc (.string ⟨#[116, 101, 120, 116, 47, 112, 108, 97, 105, 110]⟩)], [.sc (.string ⟨#[67, 97, 99, 104, 101, 45, 67, 111, 110, 116, 114, 111, 108]⟩), .sc (.string ⟨#[110, 111, 45, 115, 116, 111, 114, 101]⟩)]]), .d (.lst false [[.sc (.int .u8 83)], [.sc (.int .u8 101)], [.sc (.int .u8 114)], [.sc (.int .u8 118)], [.sc (.int .u8 105)], [.sc (.int .u8 99)], [.sc (.int .u8 101)], [.sc (.int .u8 32)], [.sc (.int .u8 85)], [.sc (.int .u8 110)], [.sc (.int .u8 97)], [.sc (.int .u8 118)], [.sc (.int .u8 97)], [.sc (.int .u8 105)], [.sc (.int .u8 108)], [.sc (.int .u8 97)], [.sc (.int .u8 98)], [.sc (.int .u8 108)], [.sc (.int .u8 101)], [.sc (.int .u8 10)]])]] [] = some (.bool true, []) := callN_W (k := 60) (by kernel_rfl)
theorem i504 : callW E0 10 [.agg [ci 504, cs ⟨#[71, 97, 116, 101, 119, 97, 121, 32, 84, 105, 109, 101, 111, 117, 116]⟩, ci 1, .d (.lst false [[.sc (.string ⟨#[67, 111, 110, 116, 101, 110, 116, 45, 84, 121, 112, 101]⟩), .sc (.string ⟨#[116, 101, 120, 116, 47, 112, 108, 97, 105, 110]⟩)], [.sc (.string ⟨#[67, 97, 99, 104, 101, 45, 67, 111, 110, 116, 114, 111, 108]⟩), .sc (.string ⟨#[110, 111, 45, 115, 116, 111, 114, 101]⟩)]]), .d (.lst false [[.sc (.int .u8 71)], [.sc (.int .u8 97)], [.sc (.int .u8 116)], [.sc (.int .u8 101)], [.sc (.int .u8 119)], [.sc (.int .u8 97)], [.sc (.int .u8 121)], [.sc (.int .u8 32)], [.sc (.int .u8 84)], [.sc (.int .u8 105)], [.sc (.int .u8 109)], [.sc (.int .u8 101)], [.sc (.int .u8 111)], [.sc (.int .u8 117)], [.sc (.int .u8 116)], [.sc (.int .u8 10)]])]] [] = some (.bool true, []) := callN_W (k := 60) (by kernel_rfl)
theorem en5 : entersB Try.prog 5 = some true := by kernel_rfl
theorem en10 : entersB Try.prog 10 = some true := by kernel_rfl
set_option maxRecDepth 100000 in
set_option maxHeartbeats 4000000 in
theorem c4 : callW E0 4 [] [] = some (.bool true, []) := by
  rw [callW_run (fnc := Try.f4) (res := [.tmp 0]) Try.func4 rfl rfl (by kernel_rfl)]
  simp only [en5, en10, z36, z26, z33, Try.underlying3, Try.underlying4, Try.underlying5, Try.underlying9, Try.underlying22, Try.underlying23, Try.underlying24, Try.underlying26, Try.underlying33, Try.underlying36, Try.underlying37, Try.underlying38, Try.underlying41, wrap_64, sz0, by0, ag0, sz1, by1, ag1, sz2, by2, ag2, sz3, by3, ag3, sz4, by4, ag4, sz5, by5, ag5, sz6, by6, ag6, sz7, by7, ag7, sz8, by8, ag8, sz9, by9, ag9, sz10, by10, ag10, sz11, by11, ag11, sz12, by12, ag12, sz13, by13, ag13, sz14, by14, ag14, sz15, by15, ag15, sz16, by16, ag16, sz17, by17, ag17, sz18, by18, ag18, sz19, by19, ag19, sz20, by20, ag20, sz21, by21, ag21, sz22, by22, ag22, sz23, by23, ag23, sz24, by24, ag24, sz25, by25, ag25, sz26, by26, ag26, sz27, by27, ag27, sz28, by28, ag28, sz29, by29, ag29, sz30, by30, ag30, sz31, by31, ag31, sz32, by32, ag32, sz33, by33, ag33, sz34, by34, ag34, sz35, by35, ag35, sz36, by36, ag36, sz37, by37, ag37, sz38, by38, ag38, sz39, by39, ag39, sz40, by40, ag40, sz41, by41, ag41, den_seq, den_cond, den_block, den_region, den_loop, den_skip, den_ret, den_exit, seqD_n, seqD_r, seqD_e, condD_t, condD_f, blockD_n, blockD_r, blockD_e, blockD_e', regD_s, loopD_s, runOps_nil, runOps_none, runOps_some, runK_t, runK_f, stepK_s, bodyD_r, bodyD_n, wantA, stepA, dop, ev, ev1, evC, evI, upd_same, upd_ne, putO, ev_sub, ev_add, ev_mul, ev_quo, ev_lss, ev_leq, ev_gtr, ev_geq, ev_eql, ev_neq, ev_not, ofV_int, ofV_bool, ofV_str, toV_sc, slots0, slots1, slots2, slots3, Option.map_some, Option.bind_some, Option.bind_eq_bind, E0P, E0live, E0hand, E0hard, E0prim, live, firstRegion, Option.getD_some, builtinA, lenA, canon, coerceAll, coerce, coerceC, AV.freeze, V1.freeze, C.freeze, AV.refs, V1.refs, C.refs, V1.cells, close, fuelR, AV.ren, V1.ren, C.ren, Ob.ren, Ob.refs, restrict, slots, resultsL, resultA, finish, mkV, opCall, viaCall, V1.ro, C.ro, AV.toV, newSlice, appendA, srcOf, listOf, C.list, chunk, C.toD, slcCells, wr, cutSlice, evB, bnd, places, evParts, fillC, freezeAll, freezeVs,
    ↓reduceIte, Nat.reduceEqDiff, ne_eq, not_false_eq_true, Int.reduceEq, List.mapM_cons, List.mapM_nil, List.flatMap_cons, List.flatMap_nil, List.append_nil, List.range_zero, List.take_nil, List.length_nil, List.take_zero, Option.pure_def, Nat.beq,
    nc_lit, rg0, rg1, rg2, rg3, rg4, List.length_cons, List.length_map, Nat.reduceAdd, List.cons_append, List.nil_append, List.mem_cons, List.not_mem_nil, or_false, false_or, List.getD_cons_zero, List.getD_cons_succ, List.getElem?_cons_zero, List.getElem?_cons_succ, List.idxOf?_cons, BEq.rfl, List.take_succ_cons, List.all_nil, and_self, true_and, and_true, List.drop_zero, List.drop_succ_cons, Nat.zero_add, Nat.mul_one, Int.toNat_natCast, Int.toNat_zero, List.map_cons, List.map_nil, Nat.reduceLeDiff, Nat.reduceLT, Int.reduceLE, Int.reduceLT, Int.reduceToNat, Int.reduceNegSucc, decide_true, decide_false, or_true, true_or, Bool.false_eq_true, loopF_eq, loopK_n, loopK_r, loopK_e, Nat.reduceMul, Int.reduceAdd, false_and, and_false, Nat.reduceBEq, beq_self_eq_true, Bool.not_true, Bool.not_false, Array.isEmpty_empty, Bool.and_self, List.zip_cons_cons, List.zip_nil_left, List.zip_nil_right, List.foldl_cons, List.foldl_nil, List.set_cons_zero, List.set_cons_succ, List.drop_nil, List.getD_nil, List.getElem?_nil, Option.bind_none, Option.map_none, List.drop_length, List.set_nil, Nat.sub_zero, Nat.reduceSub, Nat.sub_self, List.length_append, Nat.add_zero, List.replicate_succ, List.replicate_zero, List.flatten_cons, List.flatten_nil, Nat.reducePow, Int.reduceBEq, Nat.reduceBEq, Bool.false_and, Bool.true_and, List.getElem?_toArray, Bool.and_true, Bool.and_false]
  generalize hG : loopF E0 4 0 (callW E0) itW _ _ = G
  have step : ∀ (n is : Int) (h400 : (n == 400) = false) (h403 : (n == 403) = false) (h407 : (n == 407) = false) (h413 : (n == 413) = false) (h429 : (n == 429) = false) (h431 : (n == 431) = false) (h501 : (n == 501) = false) (h502 : (n == 502) = false) (h503 : (n == 503) = false) (h504 : (n == 504) = false) (g502 : ((502 : Int) == n) = false) (hb : 0 ≤ n) (hn : n < 1000), G (none, [.v (.c (.ptr 0 0)), .int .i64 is, .int .i64 n], H10) = some (.inl (none, [.v (.c (.ptr 0 0)), .int .i64 is, .int .i64 (n + 1)], H10)) := by
    intro n is h400 h403 h407 h413 h429 h431 h501 h502 h503 h504 g502 hb hn
    rw [← hG]
    have hlt := decide_eq_true hn
    have hw : IntKind.wrap .i64 (n + 1) = n + 1 := wrap_64 _ (by omega) (by omega)
    simp only [h400, h403, h407, h413, h429, h431, h501, h502, h503, h504, hw, g502, hlt, c5, i502, en5, en10, z36, z26, z33, Try.underlying3, Try.underlying4, Try.underlying5, Try.underlying9, Try.underlying22, Try.underlying23, Try.underlying24, Try.underlying26, Try.underlying33, Try.underlying36, Try.underlying37, Try.underlying38, Try.underlying41, wrap_64, sz0, by0, ag0, sz1, by1, ag1, sz2, by2, ag2, sz3, by3, ag3, sz4, by4, ag4, sz5, by5, ag5, sz6, by6, ag6, sz7, by7, ag7, sz8, by8, ag8, sz9, by9, ag9, sz10, by10, ag10, sz11, by11, ag11, sz12, by12, ag12, sz13, by13, ag13, sz14, by14, ag14, sz15, by15, ag15, sz16, by16, ag16, sz17, by17, ag17, sz18, by18, ag18, sz19, by19, ag19, sz20, by20, ag20, sz21, by21, ag21, sz22, by22, ag22, sz23, by23, ag23, sz24, by24, ag24, sz25, by25, ag25, sz26, by26, ag26, sz27, by27, ag27, sz28, by28, ag28, sz29, by29, ag29, sz30, by30, ag30, sz31, by31, ag31, sz32, by32, ag32, sz33, by33, ag33, sz34, by34, ag34, sz35, by35, ag35, sz36, by36, ag36, sz37, by37, ag37, sz38, by38, ag38, sz39, by39, ag39, sz40, by40, ag40, sz41, by41, ag41, den_seq, den_cond, den_block, den_region, den_loop, den_skip, den_ret, den_exit, seqD_n, seqD_r, seqD_e, condD_t, condD_f, blockD_n, blockD_r, blockD_e, blockD_e', regD_s, loopD_s, runOps_nil, runOps_none, runOps_some, runK_t, runK_f, stepK_s, bodyD_r, bodyD_n, wantA, stepA, dop, ev, ev1, evC, evI, upd_same, upd_ne, putO, ev_sub, ev_add, ev_mul, ev_quo, ev_lss, ev_leq, ev_gtr, ev_geq, ev_eql, ev_neq, ev_not, ofV_int, ofV_bool, ofV_str, toV_sc, slots0, slots1, slots2, slots3, Option.map_some, Option.bind_some, Option.bind_eq_bind, E0P, E0live, E0hand, E0hard, E0prim, live, firstRegion, Option.getD_some, builtinA, lenA, canon, coerceAll, coerce, coerceC, AV.freeze, V1.freeze, C.freeze, AV.refs, V1.refs, C.refs, V1.cells, close, fuelR, AV.ren, V1.ren, C.ren, Ob.ren, Ob.refs, restrict, slots, resultsL, resultA, finish, mkV, opCall, viaCall, V1.ro, C.ro, AV.toV, newSlice, appendA, srcOf, listOf, C.list, chunk, C.toD, slcCells, wr, cutSlice, evB, bnd, places, evParts, fillC, freezeAll, freezeVs,
    ↓reduceIte, Nat.reduceEqDiff, ne_eq, not_false_eq_true, Int.reduceEq, List.mapM_cons, List.mapM_nil, List.flatMap_cons, List.flatMap_nil, List.append_nil, List.range_zero, List.take_nil, List.length_nil, List.take_zero, Option.pure_def, Nat.beq,
    nc_lit, rg0, rg1, rg2, rg3, rg4, List.length_cons, List.length_map, Nat.reduceAdd, List.cons_append, List.nil_append, List.mem_cons, List.not_mem_nil, or_false, false_or, List.getD_cons_zero, List.getD_cons_succ, List.getElem?_cons_zero, List.getElem?_cons_succ, List.idxOf?_cons, BEq.rfl, List.take_succ_cons, List.all_nil, and_self, true_and, and_true, List.drop_zero, List.drop_succ_cons, Nat.zero_add, Nat.mul_one, Int.toNat_natCast, Int.toNat_zero, List.map_cons, List.map_nil, Nat.reduceLeDiff, Nat.reduceLT, Int.reduceLE, Int.reduceLT, Int.reduceToNat, Int.reduceNegSucc, decide_true, decide_false, or_true, true_or, Bool.false_eq_true, loopF_eq, loopK_n, loopK_r, loopK_e, Nat.reduceMul, Int.reduceAdd, false_and, and_false, Nat.reduceBEq, beq_self_eq_true, Bool.not_true, Bool.not_false, Array.isEmpty_empty, Bool.and_self, List.zip_cons_cons, List.zip_nil_left, List.zip_nil_right, List.foldl_cons, List.foldl_nil, List.set_cons_zero, List.set_cons_succ, List.drop_nil, List.getD_nil, List.getElem?_nil, Option.bind_none, Option.map_none, List.drop_length, List.set_nil, Nat.sub_zero, Nat.reduceSub, Nat.sub_self, List.length_append, Nat.add_zero, List.replicate_succ, List.replicate_zero, List.flatten_cons, List.flatten_nil, Nat.reducePow, Int.reduceBEq, Nat.reduceBEq, Bool.false_and, Bool.true_and, List.getElem?_toArray, Bool.and_true, Bool.and_false]
  have seg : ∀ (k : Nat) (a is : Int), 0 ≤ a → a + k ≤ 1000 → (∀ n, a ≤ n → n < a + k → Nin n) → itW G (none, [.v (.c (.ptr 0 0)), .int .i64 is, .int .i64 a], H10) = itW G (none, [.v (.c (.ptr 0 0)), .int .i64 is, .int .i64 (a + k)], H10) := by
    intro k
    induction k with
    | zero => intro a is _ _ _; simp
    | succ k ih =>
      intro a is h0 h1 hn
      have q := hn a (by omega) (by omega)
      simp only [Nin] at q
      rw [itW_l (step a is (by simp; omega) (by simp; omega) (by simp; omega) (by simp; omega) (by simp; omega) (by simp; omega) (by simp; omega) (by simp; omega) (by simp; omega) (by simp; omega) (by simp; omega) h0 (by omega))]
      rw [ih (a + 1) is (by omega) (by omega) (fun n h2 h3 => hn n (by omega) (by omega))]
      rw [show a + 1 + (k : Int) = a + ((k + 1 : Nat) : Int) by omega]
  have j400 : G (none, [.v (.c (.ptr 0 0)), .int .i64 0, .int .i64 400], H10) = some (.inl (none, [.v (.c (.ptr 0 0)), .int .i64 1, .int .i64 401], H10)) := by
    rw [← hG]
    exact loopF_W 60 (by kernel_rfl)
  have j403 : G (none, [.v (.c (.ptr 0 0)), .int .i64 1, .int .i64 403], H10) = some (.inl (none, [.v (.c (.ptr 0 0)), .int .i64 2, .int .i64 404], H10)) := by
    rw [← hG]
    exact loopF_W 60 (by kernel_rfl)
  have j407 : G (none, [.v (.c (.ptr 0 0)), .int .i64 2, .int .i64 407], H10) = some (.inl (none, [.v (.c (.ptr 0 0)), .int .i64 3, .int .i64 408], H10)) := by
    rw [← hG]
    exact loopF_W 60 (by kernel_rfl)
  have j413 : G (none, [.v (.c (.ptr 0 0)), .int .i64 3, .int .i64 413], H10) = some (.inl (none, [.v (.c (.ptr 0 0)), .int .i64 4, .int .i64 414], H10)) := by
    rw [← hG]
    exact loopF_W 60 (by kernel_rfl)
  have j429 : G (none, [.v (.c (.ptr 0 0)), .int .i64 4, .int .i64 429], H10) = some (.inl (none, [.v (.c (.ptr 0 0)), .int .i64 5, .int .i64 430], H10)) := by
    rw [← hG]
    exact loopF_W 60 (by kernel_rfl)
  have j431 : G (none, [.v (.c (.ptr 0 0)), .int .i64 5, .int .i64 431], H10) = some (.inl (none, [.v (.c (.ptr 0 0)), .int .i64 6, .int .i64 432], H10)) := by
    rw [← hG]
    exact loopF_W 60 (by kernel_rfl)
  have j501 : G (none, [.v (.c (.ptr 0 0)), .int .i64 6, .int .i64 501], H10) = some (.inl (none, [.v (.c (.ptr 0 0)), .int .i64 7, .int .i64 502], H10)) := by
    rw [← hG]
    exact loopF_W 60 (by kernel_rfl)
  have j502 : G (none, [.v (.c (.ptr 0 0)), .int .i64 7, .int .i64 502], H10) = some (.inl (none, [.v (.c (.ptr 0 0)), .int .i64 8, .int .i64 503], H10)) := by
    rw [← hG]
    exact loopF_W 60 (by kernel_rfl)
  have j503 : G (none, [.v (.c (.ptr 0 0)), .int .i64 8, .int .i64 503], H10) = some (.inl (none, [.v (.c (.ptr 0 0)), .int .i64 9, .int .i64 504], H10)) := by
    rw [← hG]
    exact loopF_W 60 (by kernel_rfl)
  have j504 : G (none, [.v (.c (.ptr 0 0)), .int .i64 9, .int .i64 504], H10) = some (.inl (none, [.v (.c (.ptr 0 0)), .int .i64 10, .int .i64 505], H10)) := by
    rw [← hG]
    exact loopF_W 60 (by kernel_rfl)
  have run : itW G (none, [.v (.c (.ptr 0 0)), .int .i64 0, .int .i64 0], H10) = itW G (none, [.v (.c (.ptr 0 0)), .int .i64 10, .int .i64 1000], H10) := by
    rw [seg 400 0 0 (by omega) (by omega) (by intro n h1 h2; simp only [Nin]; omega)]
    rw [show ((0 : Int) + ((400 : Nat) : Int)) = 400 from rfl]
    rw [itW_l j400]
    rw [seg 2 401 1 (by omega) (by omega) (by intro n h1 h2; simp only [Nin]; omega)]
    rw [show ((401 : Int) + ((2 : Nat) : Int)) = 403 from rfl]
    rw [itW_l j403]
    rw [seg 3 404 2 (by omega) (by omega) (by intro n h1 h2; simp only [Nin]; omega)]
    rw [show ((404 : Int) + ((3 : Nat) : Int)) = 407 from rfl]
    rw [itW_l j407]
    rw [seg 5 408 3 (by omega) (by omega) (by intro n h1 h2; simp only [Nin]; omega)]
    rw [show ((408 : Int) + ((5 : Nat) : Int)) = 413 from rfl]
    rw [itW_l j413]
    rw [seg 15 414 4 (by omega) (by omega) (by intro n h1 h2; simp only [Nin]; omega)]
    rw [show ((414 : Int) + ((15 : Nat) : Int)) = 429 from rfl]
    rw [itW_l j429]
    rw [seg 1 430 5 (by omega) (by omega) (by intro n h1 h2; simp only [Nin]; omega)]
    rw [show ((430 : Int) + ((1 : Nat) : Int)) = 431 from rfl]
    rw [itW_l j431]
    rw [seg 69 432 6 (by omega) (by omega) (by intro n h1 h2; simp only [Nin]; omega)]
    rw [show ((432 : Int) + ((69 : Nat) : Int)) = 501 from rfl]
    rw [itW_l j501]
    rw [seg 0 502 7 (by omega) (by omega) (by intro n h1 h2; simp only [Nin]; omega)]
    rw [show ((502 : Int) + ((0 : Nat) : Int)) = 502 from rfl]
    rw [itW_l j502]
    rw [seg 0 503 8 (by omega) (by omega) (by intro n h1 h2; simp only [Nin]; omega)]
    rw [show ((503 : Int) + ((0 : Nat) : Int)) = 503 from rfl]
    rw [itW_l j503]
    rw [seg 0 504 9 (by omega) (by omega) (by intro n h1 h2; simp only [Nin]; omega)]
    rw [show ((504 : Int) + ((0 : Nat) : Int)) = 504 from rfl]
    rw [itW_l j504]
    rw [seg 495 505 10 (by omega) (by omega) (by intro n h1 h2; simp only [Nin]; omega)]
    rw [show ((505 : Int) + ((495 : Nat) : Int)) = 1000 from rfl]
  have out : G (none, [.v (.c (.ptr 0 0)), .int .i64 10, .int .i64 1000], H10) = some (.inr (.exit 0, ⟨upd (upd (slots [(1, .keep), (2, .keep), (3, .keep)] [.v (.c (.ptr 0 0)), .int .i64 10, .int .i64 1000]) 9 (.int .i64 1000)) 10 (.bool false), H10⟩)) := by
    rw [← hG]
    exact loopF_W 60 (by kernel_rfl)
  rw [run, itW_r out, blockD_e, seqD_n]
  exact bodyD_W 200 (by kernel_rfl)
end Go.Proofs.Ytfcjicedphacfaa
