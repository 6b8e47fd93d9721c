/- Names: the reference's tables; names by number; going through all names. -/
import Derived.Test.YtkjkogmnijfanaaDoorA6
set_option linter.unusedVariables false
set_option linter.unusedSimpArgs false
namespace Go.Proofs.YtkjkogmnijfanaaDoor
open Go.RowKit

set_option maxRecDepth 100000 in
set_option maxHeartbeats 8000000 in
theorem table2_sw (k : Int) : SW Tryd.prog ⟨none, 0⟩ Tryd.f31.ntmps (Tryd.f31.body.getD .skip) ⟨0, zipT 0 [(tInt .i64).enc k], []⟩ (outQ Tryd.prog Tryd.f31.results.toList (.ret (tblO k))) := by
  refine aRun_sound (ctx := []) 4000 ?_
  rw [Tryd.ntmps31, Tryd.results31]
  simp only [Tryd.f31, Option.getD_some, zipT]
  by_cases h2 : k = 2
  · subst h2
    have e : tblO 2 = tblV condsL := rfl
    simp only [List.map_nil, Nat.le_refl, retQ, retD, aRun_o0, aRun_o1, aRun_ret, aRun_seq, aRun_block, aRun_cond, aRun_region, aCont_some, aBr_true, aBr_false, aBr_beq, Int.reduceBEq, aOp, evT, tget, putT, dstOk, hget, aBin, flatOf, cellsOf, LV.one, Value.oneCell', fillL, splice, chunks, repL, aBuild, aBuildSlice, List.getElem?_cons_zero, List.getElem?_cons_succ, List.map_cons, reduceIte, reduceCtorEq, Nat.reduceEqDiff, Nat.reduceAdd, Nat.reduceLT, Nat.reduceLeDiff, Nat.reduceMul, decide_true, true_and, forall_const, not_false_eq_true, List.cons_append, List.nil_append, List.append_nil, List.take_succ_cons, List.take_zero, List.drop_succ_cons, List.drop_zero, List.length_cons, List.length_nil, false_implies, and_self, Bool.true_and, Bool.and_self, Nat.zero_add, aPanQ_none, aPan, ofD, outQ_ret, rvOf, rvsOf, aRet, zipT, mapT, AV.toD, SV.toD, LV.toD, tInt, Option.getD_some, PO.ret.injEq, el_31, sz_35, zero_35, pl_35, e, condsL, namedR]
    rfl
  by_cases h3 : k = 3
  · subst h3
    have e : tblO 3 = tblV modsL := rfl
    simp only [List.map_nil, Nat.le_refl, retQ, retD, aRun_o0, aRun_o1, aRun_ret, aRun_seq, aRun_block, aRun_cond, aRun_region, aCont_some, aBr_true, aBr_false, aBr_beq, Int.reduceBEq, aOp, evT, tget, putT, dstOk, hget, aBin, flatOf, cellsOf, LV.one, Value.oneCell', fillL, splice, chunks, repL, aBuild, aBuildSlice, List.getElem?_cons_zero, List.getElem?_cons_succ, List.map_cons, reduceIte, reduceCtorEq, Nat.reduceEqDiff, Nat.reduceAdd, Nat.reduceLT, Nat.reduceLeDiff, Nat.reduceMul, decide_true, true_and, forall_const, not_false_eq_true, List.cons_append, List.nil_append, List.append_nil, List.take_succ_cons, List.take_zero, List.drop_succ_cons, List.drop_zero, List.length_cons, List.length_nil, false_implies, and_self, Bool.true_and, Bool.and_self, Nat.zero_add, aPanQ_none, aPan, ofD, outQ_ret, rvOf, rvsOf, aRet, zipT, mapT, AV.toD, SV.toD, LV.toD, tInt, Option.getD_some, PO.ret.injEq, el_31, sz_35, zero_35, pl_35, e, modsL, namedR]
    rfl
  by_cases h4 : k = 4
  · subst h4
    have e : tblO 4 = tblV barriersL := rfl
    simp only [List.map_nil, Nat.le_refl, retQ, retD, aRun_o0, aRun_o1, aRun_ret, aRun_seq, aRun_block, aRun_cond, aRun_region, aCont_some, aBr_true, aBr_false, aBr_beq, Int.reduceBEq, aOp, evT, tget, putT, dstOk, hget, aBin, flatOf, cellsOf, LV.one, Value.oneCell', fillL, splice, chunks, repL, aBuild, aBuildSlice, List.getElem?_cons_zero, List.getElem?_cons_succ, List.map_cons, reduceIte, reduceCtorEq, Nat.reduceEqDiff, Nat.reduceAdd, Nat.reduceLT, Nat.reduceLeDiff, Nat.reduceMul, decide_true, true_and, forall_const, not_false_eq_true, List.cons_append, List.nil_append, List.append_nil, List.take_succ_cons, List.take_zero, List.drop_succ_cons, List.drop_zero, List.length_cons, List.length_nil, false_implies, and_self, Bool.true_and, Bool.and_self, Nat.zero_add, aPanQ_none, aPan, ofD, outQ_ret, rvOf, rvsOf, aRet, zipT, mapT, AV.toD, SV.toD, LV.toD, tInt, Option.getD_some, PO.ret.injEq, el_31, sz_35, zero_35, pl_35, e, barriersL, namedR]
    rfl
  by_cases h5 : k = 5
  · subst h5
    have e : tblO 5 = tblV hintsL := rfl
    simp only [List.map_nil, Nat.le_refl, retQ, retD, aRun_o0, aRun_o1, aRun_ret, aRun_seq, aRun_block, aRun_cond, aRun_region, aCont_some, aBr_true, aBr_false, aBr_beq, Int.reduceBEq, aOp, evT, tget, putT, dstOk, hget, aBin, flatOf, cellsOf, LV.one, Value.oneCell', fillL, splice, chunks, repL, aBuild, aBuildSlice, List.getElem?_cons_zero, List.getElem?_cons_succ, List.map_cons, reduceIte, reduceCtorEq, Nat.reduceEqDiff, Nat.reduceAdd, Nat.reduceLT, Nat.reduceLeDiff, Nat.reduceMul, decide_true, true_and, forall_const, not_false_eq_true, List.cons_append, List.nil_append, List.append_nil, List.take_succ_cons, List.take_zero, List.drop_succ_cons, List.drop_zero, List.length_cons, List.length_nil, false_implies, and_self, Bool.true_and, Bool.and_self, Nat.zero_add, aPanQ_none, aPan, ofD, outQ_ret, rvOf, rvsOf, aRet, zipT, mapT, AV.toD, SV.toD, LV.toD, tInt, Option.getD_some, PO.ret.injEq, el_31, sz_35, zero_35, pl_35, e, hintsL, namedR]
    rfl
  by_cases h6 : k = 6
  · subst h6
    have e : tblO 6 = tblV systemsL := rfl
    simp only [List.map_nil, Nat.le_refl, retQ, retD, aRun_o0, aRun_o1, aRun_ret, aRun_seq, aRun_block, aRun_cond, aRun_region, aCont_some, aBr_true, aBr_false, aBr_beq, Int.reduceBEq, aOp, evT, tget, putT, dstOk, hget, aBin, flatOf, cellsOf, LV.one, Value.oneCell', fillL, splice, chunks, repL, aBuild, aBuildSlice, List.getElem?_cons_zero, List.getElem?_cons_succ, List.map_cons, reduceIte, reduceCtorEq, Nat.reduceEqDiff, Nat.reduceAdd, Nat.reduceLT, Nat.reduceLeDiff, Nat.reduceMul, decide_true, true_and, forall_const, not_false_eq_true, List.cons_append, List.nil_append, List.append_nil, List.take_succ_cons, List.take_zero, List.drop_succ_cons, List.drop_zero, List.length_cons, List.length_nil, false_implies, and_self, Bool.true_and, Bool.and_self, Nat.zero_add, aPanQ_none, aPan, ofD, outQ_ret, rvOf, rvsOf, aRet, zipT, mapT, AV.toD, SV.toD, LV.toD, tInt, Option.getD_some, PO.ret.injEq, el_31, sz_35, zero_35, pl_35, e, systemsL, namedR]
    rfl
  by_cases h7 : k = 7
  · subst h7
    have e : tblO 7 = tblV fetchesL := rfl
    simp only [List.map_nil, Nat.le_refl, retQ, retD, aRun_o0, aRun_o1, aRun_ret, aRun_seq, aRun_block, aRun_cond, aRun_region, aCont_some, aBr_true, aBr_false, aBr_beq, Int.reduceBEq, aOp, evT, tget, putT, dstOk, hget, aBin, flatOf, cellsOf, LV.one, Value.oneCell', fillL, splice, chunks, repL, aBuild, aBuildSlice, List.getElem?_cons_zero, List.getElem?_cons_succ, List.map_cons, reduceIte, reduceCtorEq, Nat.reduceEqDiff, Nat.reduceAdd, Nat.reduceLT, Nat.reduceLeDiff, Nat.reduceMul, decide_true, true_and, forall_const, not_false_eq_true, List.cons_append, List.nil_append, List.append_nil, List.take_succ_cons, List.take_zero, List.drop_succ_cons, List.drop_zero, List.length_cons, List.length_nil, false_implies, and_self, Bool.true_and, Bool.and_self, Nat.zero_add, aPanQ_none, aPan, ofD, outQ_ret, rvOf, rvsOf, aRet, zipT, mapT, AV.toD, SV.toD, LV.toD, tInt, Option.getD_some, PO.ret.injEq, el_31, sz_35, zero_35, pl_35, e, fetchesL, namedR]
    rfl
  by_cases h8 : k = 8
  · subst h8
    have e : tblO 8 = tblV partsL := rfl
    simp only [List.map_nil, Nat.le_refl, retQ, retD, aRun_o0, aRun_o1, aRun_ret, aRun_seq, aRun_block, aRun_cond, aRun_region, aCont_some, aBr_true, aBr_false, aBr_beq, Int.reduceBEq, aOp, evT, tget, putT, dstOk, hget, aBin, flatOf, cellsOf, LV.one, Value.oneCell', fillL, splice, chunks, repL, aBuild, aBuildSlice, List.getElem?_cons_zero, List.getElem?_cons_succ, List.map_cons, reduceIte, reduceCtorEq, Nat.reduceEqDiff, Nat.reduceAdd, Nat.reduceLT, Nat.reduceLeDiff, Nat.reduceMul, decide_true, true_and, forall_const, not_false_eq_true, List.cons_append, List.nil_append, List.append_nil, List.take_succ_cons, List.take_zero, List.drop_succ_cons, List.drop_zero, List.length_cons, List.length_nil, false_implies, and_self, Bool.true_and, Bool.and_self, Nat.zero_add, aPanQ_none, aPan, ofD, outQ_ret, rvOf, rvsOf, aRet, zipT, mapT, AV.toD, SV.toD, LV.toD, tInt, Option.getD_some, PO.ret.injEq, el_31, sz_35, zero_35, pl_35, e, partsL, namedR]
    rfl
  simp only [List.map_nil, Nat.le_refl, retQ, retD, aRun_o0, aRun_o1, aRun_ret, aRun_seq, aRun_block, aRun_cond, aRun_region, aCont_some, aBr_true, aBr_false, aBr_beq, Int.reduceBEq, aOp, evT, tget, putT, dstOk, hget, aBin, flatOf, cellsOf, LV.one, Value.oneCell', fillL, splice, chunks, repL, aBuild, aBuildSlice, List.getElem?_cons_zero, List.getElem?_cons_succ, List.map_cons, reduceIte, reduceCtorEq, Nat.reduceEqDiff, Nat.reduceAdd, Nat.reduceLT, Nat.reduceLeDiff, Nat.reduceMul, decide_true, true_and, forall_const, not_false_eq_true, List.cons_append, List.nil_append, List.append_nil, List.take_succ_cons, List.take_zero, List.drop_succ_cons, List.drop_zero, List.length_cons, List.length_nil, false_implies, and_self, Bool.true_and, Bool.and_self, Nat.zero_add, aPanQ_none, aPan, ofD, outQ_ret, rvOf, rvsOf, aRet, zipT, mapT, AV.toD, SV.toD, LV.toD, tInt, Option.getD_some, PO.ret.injEq, el_31, sz_35, zero_35, pl_35, h2, h3, h4, h5, h6, h7, h8, tblO, tblF, nilV]
theorem en_table2 (args : Array Value) (w : World) : (callFunc 31 args).run Tryd.prog w = .ok (.enter 31 args) w := by go_simp
def table2S : Spec Tryd.prog 31 :=
  mk1 _ _ _ Tryd.func31 rfl en_table2 (tInt .i64) ((fun _ => True)) ((fun k => .ret (tblO k))) (by rw [Tryd.ntmps31]; decide) (fun k _ => table2_sw k)
theorem table2_run {id : Nat} {h : Heap} {args : List AV} : (table2S).run id h args = runP (args1 (tInt .i64) ((fun _ => True))) ((fun k => .ret (tblO k))) h args := rfl
theorem table2_pan {id : Nat} {h : Heap} {args : List AV} : (table2S).pan id h args = panP (args1 (tInt .i64) ((fun _ => True))) ((fun k => .ret (tblO k))) h args := rfl

end Go.Proofs.YtkjkogmnijfanaaDoor
