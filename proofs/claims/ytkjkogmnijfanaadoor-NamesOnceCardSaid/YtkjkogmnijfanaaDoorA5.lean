/- Names: names of registers, numbers of registers, tables. -/
import Derived.Test.YtkjkogmnijfanaaDoorA4
set_option linter.unusedVariables false
set_option linter.unusedSimpArgs false
namespace Go.Proofs.YtkjkogmnijfanaaDoor
open Go.RowKit

theorem textF_size (n : Int) : (textF n).size ≤ 3 := by
  unfold textF
  split
  · rw [ofBytes_size]; simp
  · split <;> (rw [ofBytes_size]; simp)

set_option maxRecDepth 100000 in
set_option maxHeartbeats 4000000 in
theorem regName_sw (r : RegV) : SW Tryd.prog ⟨none, 0⟩ Tryd.f11.ntmps (Tryd.f11.body.getD .skip) ⟨0, zipT 0 [(tAgg regR).enc r], []⟩ (outQ Tryd.prog Tryd.f11.results.toList (.ret (nameO (regNameF r)))) := by
  obtain ⟨n, x, sp⟩ := r
  refine aRun_sound (ctx := [⟨_, textS⟩]) 4000 ?_
  rw [Tryd.ntmps11, Tryd.results11]
  simp only [Tryd.f11, Option.getD_some, zipT]
  have hz : (textF n).size ≤ 3 := textF_size n
  have e1 : (1 + (textF n).size : Nat) ≤ maxLen := by unfold maxLen; omega
  have e2 : (⟨#[119]⟩ : ByteArray) = wS := rfl
  have e3 : (⟨#[120]⟩ : ByteArray) = xS := rfl
  by_cases h1 : n < 0
  · cases x <;> cases sp <;> simp only [List.map_nil, retQ, retD, aRun_b, aRun_o0, aRun_o1, aRun_o2, aRun_skip, aRun_ret, aRun_seq, aRun_block, aRun_cond, aRun_region, aCont_some, aBr_true, aBr_false, aBr_beq, aBr_bne, aGd_yes, aGd_skip, aGd_tf, aGd_ft, Int.reduceBEq, Int.reduceBNe, Int.reduceLT, aOp, evT, tget, putT, dstOk, gAt, setG, hget, aBin, aLoad, aNew, aField, flatOf, cellsOf, crun, List.getElem?_cons_zero, List.getElem?_cons_succ, List.map_cons, Option.map_some, reduceIte, reduceCtorEq, Nat.reduceEqDiff, Nat.reduceAdd, Nat.reduceLT, decide_true, decide_false, true_and, and_true, forall_const, not_true_eq_false, not_false_eq_true, List.nil_append, List.append_nil, List.length_cons, List.length_nil, true_or, or_true, or_false, Bool.false_eq_true, false_implies, and_self, Bool.and_true, Bool.true_and, Bool.and_self, Nat.zero_add, Nat.add_zero, aPanQ_none, aPan, cpan, calleeOf, ofD, ofDs, outQ_ret, rvOf, rvsOf, toSs, aRet, zipT, runP, panP, hides, mapT, AV.toD, SV.toD, LV.toD, args1, tInt, tAgg, AV.plain, SV.plain, LV.plain, gt_iff_lt, Option.getD_some, PO.ret.injEq, sz_3, row_3, sz_4, row_4, off_23_0, off_23_1, off_23_2, regR, h1, nameO, regNameF, lit_emp]
  by_cases h2 : 31 < n
  · cases x <;> cases sp <;> simp only [List.map_nil, retQ, retD, aRun_b, aRun_o0, aRun_o1, aRun_o2, aRun_skip, aRun_ret, aRun_seq, aRun_block, aRun_cond, aRun_region, aCont_some, aBr_true, aBr_false, aBr_beq, aBr_bne, aGd_yes, aGd_skip, aGd_tf, aGd_ft, Int.reduceBEq, Int.reduceBNe, Int.reduceLT, aOp, evT, tget, putT, dstOk, gAt, setG, hget, aBin, aLoad, aNew, aField, flatOf, cellsOf, crun, List.getElem?_cons_zero, List.getElem?_cons_succ, List.map_cons, Option.map_some, reduceIte, reduceCtorEq, Nat.reduceEqDiff, Nat.reduceAdd, Nat.reduceLT, decide_true, decide_false, true_and, and_true, forall_const, not_true_eq_false, not_false_eq_true, List.nil_append, List.append_nil, List.length_cons, List.length_nil, true_or, or_true, or_false, Bool.false_eq_true, false_implies, and_self, Bool.and_true, Bool.true_and, Bool.and_self, Nat.zero_add, Nat.add_zero, aPanQ_none, aPan, cpan, calleeOf, ofD, ofDs, outQ_ret, rvOf, rvsOf, toSs, aRet, zipT, runP, panP, hides, mapT, AV.toD, SV.toD, LV.toD, args1, tInt, tAgg, AV.plain, SV.plain, LV.plain, gt_iff_lt, Option.getD_some, PO.ret.injEq, sz_3, row_3, sz_4, row_4, off_23_0, off_23_1, off_23_2, regR, h1, h2, nameO, regNameF, lit_emp]
  by_cases h3 : n = 31
  · subst h3
    cases x <;> cases sp <;> simp only [List.map_nil, retQ, retD, aRun_b, aRun_o0, aRun_o1, aRun_o2, aRun_skip, aRun_ret, aRun_seq, aRun_block, aRun_cond, aRun_region, aCont_some, aBr_true, aBr_false, aBr_beq, aBr_bne, aGd_yes, aGd_skip, aGd_tf, aGd_ft, Int.reduceBEq, Int.reduceBNe, Int.reduceLT, aOp, evT, tget, putT, dstOk, gAt, setG, hget, aBin, aLoad, aNew, aField, flatOf, cellsOf, crun, List.getElem?_cons_zero, List.getElem?_cons_succ, List.map_cons, Option.map_some, reduceIte, reduceCtorEq, Nat.reduceEqDiff, Nat.reduceAdd, Nat.reduceLT, decide_true, decide_false, true_and, and_true, forall_const, not_true_eq_false, not_false_eq_true, List.nil_append, List.append_nil, List.length_cons, List.length_nil, true_or, or_true, or_false, Bool.false_eq_true, false_implies, and_self, Bool.and_true, Bool.true_and, Bool.and_self, Nat.zero_add, Nat.add_zero, aPanQ_none, aPan, cpan, calleeOf, ofD, ofDs, outQ_ret, rvOf, rvsOf, toSs, aRet, zipT, runP, panP, hides, mapT, AV.toD, SV.toD, LV.toD, args1, tInt, tAgg, AV.plain, SV.plain, LV.plain, gt_iff_lt, Option.getD_some, PO.ret.injEq, sz_3, row_3, sz_4, row_4, off_23_0, off_23_1, off_23_2, regR, nameO, regNameF, lit_emp] <;> first | rfl | exact ⟨by decide, rfl⟩ | decide
  · have h4 : 0 ≤ n ∧ n < 1000 := by omega
    have h5 : ¬ n > 31 := h2
    cases x <;> cases sp <;> simp only [List.map_nil, retQ, retD, aRun_b, aRun_o0, aRun_o1, aRun_o2, aRun_skip, aRun_ret, aRun_seq, aRun_block, aRun_cond, aRun_region, aCont_some, aBr_true, aBr_false, aBr_beq, aBr_bne, aGd_yes, aGd_skip, aGd_tf, aGd_ft, Int.reduceBEq, Int.reduceBNe, Int.reduceLT, aOp, evT, tget, putT, dstOk, gAt, setG, hget, aBin, aLoad, aNew, aField, flatOf, cellsOf, crun, List.getElem?_cons_zero, List.getElem?_cons_succ, List.map_cons, Option.map_some, reduceIte, reduceCtorEq, Nat.reduceEqDiff, Nat.reduceAdd, Nat.reduceLT, decide_true, decide_false, true_and, and_true, forall_const, not_true_eq_false, not_false_eq_true, List.nil_append, List.append_nil, List.length_cons, List.length_nil, true_or, or_true, or_false, Bool.false_eq_true, false_implies, and_self, Bool.and_true, Bool.true_and, Bool.and_self, Nat.zero_add, Nat.add_zero, aPanQ_none, aPan, cpan, calleeOf, ofD, ofDs, outQ_ret, rvOf, rvsOf, toSs, aRet, zipT, runP, panP, hides, mapT, AV.toD, SV.toD, LV.toD, args1, tInt, tAgg, AV.plain, SV.plain, LV.plain, gt_iff_lt, Option.getD_some, PO.ret.injEq, sz_3, row_3, sz_4, row_4, off_23_0, off_23_1, off_23_2, regR, h1, h2, h3, h4, nameO, regNameF, lit_emp, text_run, text_pan, e2, e3, show wS.size = 1 from rfl, show xS.size = 1 from rfl, e1]

set_option maxRecDepth 100000 in
set_option maxHeartbeats 4000000 in
theorem regName2_sw (r : RegV) : SW Tryd.prog ⟨none, 0⟩ Tryd.f12.ntmps (Tryd.f12.body.getD .skip) ⟨0, zipT 0 [(tAgg regR).enc r], []⟩ (outQ Tryd.prog Tryd.f12.results.toList (.ret (nameO (regNameF r)))) := by
  obtain ⟨n, x, sp⟩ := r
  refine aRun_sound (ctx := [⟨_, text2S⟩]) 4000 ?_
  rw [Tryd.ntmps12, Tryd.results12]
  simp only [Tryd.f12, Option.getD_some, zipT]
  have hz : (textF n).size ≤ 3 := textF_size n
  have e1 : (1 + (textF n).size : Nat) ≤ maxLen := by unfold maxLen; omega
  have e2 : (⟨#[119]⟩ : ByteArray) = wS := rfl
  have e3 : (⟨#[120]⟩ : ByteArray) = xS := rfl
  by_cases h1 : n < 0
  · cases x <;> cases sp <;> simp only [List.map_nil, retQ, retD, aRun_o0, aRun_o1, aRun_o2, aRun_skip, aRun_ret, aRun_seq, aRun_block, aRun_cond, aRun_region, aCont_some, aBr_true, aBr_false, aBr_beq, aBr_bne, aGd_yes, aGd_skip, aGd_tf, aGd_ft, aGd_beq, Int.reduceBEq, Int.reduceBNe, Int.reduceLT, aOp, evT, tget, putT, dstOk, gAt, setG, hget, aBin, aLoad, aNew, aField, flatOf, cellsOf, crun, List.getElem?_cons_zero, List.getElem?_cons_succ, List.map_cons, Option.map_some, reduceIte, reduceCtorEq, Nat.reduceEqDiff, Nat.reduceAdd, Nat.reduceLT, decide_true, decide_false, true_and, and_true, forall_const, not_true_eq_false, not_false_eq_true, List.nil_append, List.append_nil, List.length_cons, List.length_nil, true_or, or_true, or_false, implies_true, Bool.false_eq_true, false_implies, and_self, Bool.and_true, Bool.true_and, Bool.and_self, Nat.zero_add, Nat.add_zero, aPanQ_none, aPan, cpan, calleeOf, ofD, ofDs, outQ_ret, rvOf, rvsOf, toSs, aRet, zipT, runP, panP, hides, mapT, AV.toD, SV.toD, LV.toD, args1, tInt, tAgg, AV.plain, SV.plain, LV.plain, gt_iff_lt, Option.getD_some, PO.ret.injEq, sz_3, row_3, sz_4, row_4, off_23_0, off_23_1, off_23_2, regR, h1, nameO, regNameF, lit_emp]
  by_cases h2 : 31 < n
  · cases x <;> cases sp <;> simp only [List.map_nil, retQ, retD, aRun_o0, aRun_o1, aRun_o2, aRun_skip, aRun_ret, aRun_seq, aRun_block, aRun_cond, aRun_region, aCont_some, aBr_true, aBr_false, aBr_beq, aBr_bne, aGd_yes, aGd_skip, aGd_tf, aGd_ft, aGd_beq, Int.reduceBEq, Int.reduceBNe, Int.reduceLT, aOp, evT, tget, putT, dstOk, gAt, setG, hget, aBin, aLoad, aNew, aField, flatOf, cellsOf, crun, List.getElem?_cons_zero, List.getElem?_cons_succ, List.map_cons, Option.map_some, reduceIte, reduceCtorEq, Nat.reduceEqDiff, Nat.reduceAdd, Nat.reduceLT, decide_true, decide_false, true_and, and_true, forall_const, not_true_eq_false, not_false_eq_true, List.nil_append, List.append_nil, List.length_cons, List.length_nil, true_or, or_true, or_false, implies_true, Bool.false_eq_true, false_implies, and_self, Bool.and_true, Bool.true_and, Bool.and_self, Nat.zero_add, Nat.add_zero, aPanQ_none, aPan, cpan, calleeOf, ofD, ofDs, outQ_ret, rvOf, rvsOf, toSs, aRet, zipT, runP, panP, hides, mapT, AV.toD, SV.toD, LV.toD, args1, tInt, tAgg, AV.plain, SV.plain, LV.plain, gt_iff_lt, Option.getD_some, PO.ret.injEq, sz_3, row_3, sz_4, row_4, off_23_0, off_23_1, off_23_2, regR, h1, h2, nameO, regNameF, lit_emp]
  by_cases h3 : n = 31
  · subst h3
    cases x <;> cases sp <;> simp only [List.map_nil, retQ, retD, aRun_o0, aRun_o1, aRun_o2, aRun_skip, aRun_ret, aRun_seq, aRun_block, aRun_cond, aRun_region, aCont_some, aBr_true, aBr_false, aBr_beq, aBr_bne, aGd_yes, aGd_skip, aGd_tf, aGd_ft, aGd_beq, Int.reduceBEq, Int.reduceBNe, Int.reduceLT, aOp, evT, tget, putT, dstOk, gAt, setG, hget, aBin, aLoad, aNew, aField, flatOf, cellsOf, crun, List.getElem?_cons_zero, List.getElem?_cons_succ, List.map_cons, Option.map_some, reduceIte, reduceCtorEq, Nat.reduceEqDiff, Nat.reduceAdd, Nat.reduceLT, decide_true, decide_false, true_and, and_true, forall_const, not_true_eq_false, not_false_eq_true, List.nil_append, List.append_nil, List.length_cons, List.length_nil, true_or, or_true, or_false, implies_true, Bool.false_eq_true, false_implies, and_self, Bool.and_true, Bool.true_and, Bool.and_self, Nat.zero_add, Nat.add_zero, aPanQ_none, aPan, cpan, calleeOf, ofD, ofDs, outQ_ret, rvOf, rvsOf, toSs, aRet, zipT, runP, panP, hides, mapT, AV.toD, SV.toD, LV.toD, args1, tInt, tAgg, AV.plain, SV.plain, LV.plain, gt_iff_lt, Option.getD_some, PO.ret.injEq, sz_3, row_3, sz_4, row_4, off_23_0, off_23_1, off_23_2, regR, nameO, regNameF, lit_emp] <;> first | rfl | exact ⟨by decide, rfl⟩ | decide
  · have h4 : 0 ≤ n ∧ n < 100 := by omega
    have h5 : ¬ n > 31 := h2
    cases x <;> cases sp <;> simp only [List.map_nil, retQ, retD, aRun_o0, aRun_o1, aRun_o2, aRun_skip, aRun_ret, aRun_seq, aRun_block, aRun_cond, aRun_region, aCont_some, aBr_true, aBr_false, aBr_beq, aBr_bne, aGd_yes, aGd_skip, aGd_tf, aGd_ft, aGd_beq, Int.reduceBEq, Int.reduceBNe, Int.reduceLT, aOp, evT, tget, putT, dstOk, gAt, setG, hget, aBin, aLoad, aNew, aField, flatOf, cellsOf, crun, List.getElem?_cons_zero, List.getElem?_cons_succ, List.map_cons, Option.map_some, reduceIte, reduceCtorEq, Nat.reduceEqDiff, Nat.reduceAdd, Nat.reduceLT, decide_true, decide_false, true_and, and_true, forall_const, not_true_eq_false, not_false_eq_true, List.nil_append, List.append_nil, List.length_cons, List.length_nil, true_or, or_true, or_false, implies_true, Bool.false_eq_true, false_implies, and_self, Bool.and_true, Bool.true_and, Bool.and_self, Nat.zero_add, Nat.add_zero, aPanQ_none, aPan, cpan, calleeOf, ofD, ofDs, outQ_ret, rvOf, rvsOf, toSs, aRet, zipT, runP, panP, hides, mapT, AV.toD, SV.toD, LV.toD, args1, tInt, tAgg, AV.plain, SV.plain, LV.plain, gt_iff_lt, Option.getD_some, PO.ret.injEq, sz_3, row_3, sz_4, row_4, off_23_0, off_23_1, off_23_2, regR, h1, h2, h3, h4, nameO, regNameF, lit_emp, text2_run, text2_pan, e2, e3, show wS.size = 1 from rfl, show xS.size = 1 from rfl, e1]

theorem en_regName (args : Array Value) (w : World) : (callFunc 11 args).run Tryd.prog w = .ok (.enter 11 args) w := by go_simp
def regNameS : Spec Tryd.prog 11 :=
  mk1 _ _ _ Tryd.func11 rfl en_regName (tAgg regR) ((fun _ => True)) ((fun r => .ret (nameO (regNameF r)))) (by rw [Tryd.ntmps11]; decide) (fun r _ => regName_sw r)
theorem regName_run {id : Nat} {h : Heap} {args : List AV} : (regNameS).run id h args = runP (args1 (tAgg regR) ((fun _ => True))) ((fun r => .ret (nameO (regNameF r)))) h args := rfl
theorem regName_pan {id : Nat} {h : Heap} {args : List AV} : (regNameS).pan id h args = panP (args1 (tAgg regR) ((fun _ => True))) ((fun r => .ret (nameO (regNameF r)))) h args := rfl
theorem en_regName2 (args : Array Value) (w : World) : (callFunc 12 args).run Tryd.prog w = .ok (.enter 12 args) w := by go_simp
def regName2S : Spec Tryd.prog 12 :=
  mk1 _ _ _ Tryd.func12 rfl en_regName2 (tAgg regR) ((fun _ => True)) ((fun r => .ret (nameO (regNameF r)))) (by rw [Tryd.ntmps12]; decide) (fun r _ => regName2_sw r)
theorem regName2_run {id : Nat} {h : Heap} {args : List AV} : (regName2S).run id h args = runP (args1 (tAgg regR) ((fun _ => True))) ((fun r => .ret (nameO (regNameF r)))) h args := rfl
theorem regName2_pan {id : Nat} {h : Heap} {args : List AV} : (regName2S).pan id h args = panP (args1 (tAgg regR) ((fun _ => True))) ((fun r => .ret (nameO (regNameF r)))) h args := rfl

def regV (r : RegV) : AV := .s (.agg [.v (.int .i64 r.n), .v (.bool r.x), .v (.bool r.sp)])
theorem en_regOf (args : Array Value) (w : World) : (callFunc 33 args).run Tryd.prog w = .ok (.enter 33 args) w := by go_simp
def regOfS : Spec Tryd.prog 33 :=
  mk1 _ _ _ Tryd.func33 rfl en_regOf (tInt .i64) ((fun n => 0 ≤ n ∧ n < 128)) ((fun n => .ret (regV (regOfF n)))) (by rw [Tryd.ntmps33]; decide) (fun n hn => by
  obtain ⟨h0, h1⟩ := hn
  refine aRun_sound (ctx := []) 4000 ?_
  rw [Tryd.ntmps33, Tryd.results33]
  simp only [Tryd.f33, Option.getD_some, zipT]
  have d1 : n.tdiv 32 = n / 32 := Int.tdiv_eq_ediv_of_nonneg h0
  have d2 : n.tmod 32 = n % 32 := Int.tmod_eq_emod_of_nonneg h0
  have d3 : (n / 32).tmod 2 = n / 32 % 2 := Int.tmod_eq_emod_of_nonneg (by omega)
  have e1 : IntKind.i64.wrap (n / 32) = n / 32 := by rw [IntKind.wrap_i64]; omega
  have e2 : IntKind.i64.wrap (n % 32) = n % 32 := by rw [IntKind.wrap_i64]; omega
  simp only [List.map_nil, Nat.le_refl, retQ, retD, aRun_o0, aRun_o1, aRun_ret, aRun_seq, aRun_region, aCont_some, Int.reduceEq, aOp, evT, tget, putT, dstOk, hget, aBin, aLoad, aStore, aNew, flatOf, cellsOf, LV.one, Value.oneCell', fillL, splice, aBuild, List.getElem?_cons_zero, List.getElem?_cons_succ, List.map_cons, reduceIte, reduceCtorEq, Nat.reduceEqDiff, Nat.reduceAdd, Nat.reduceLT, Nat.reduceLeDiff, decide_true, decide_false, true_and, not_false_eq_true, List.cons_append, List.nil_append, List.append_nil, beq_eq_false_iff_ne, ne_eq, List.take_succ_cons, List.take_zero, List.drop_succ_cons, List.drop_zero, List.length_cons, List.length_nil, List.set_cons_zero, and_self, Bool.true_and, Bool.and_self, Nat.zero_add, aPanQ_none, aPan, ofD, ofDs, outQ_ret, rvOf, rvsOf, aRet, zipT, mapT, AV.toD, SV.toD, LV.toD, tInt, ge_iff_le, PO.ret.injEq, sz_23, row_23, zero_23, pl_23, regV, regOfF, d1, d2, d3, e1, e2]
  have e3 : (n / 32 % 2 == 1) = decide (n / 32 % 2 = 1) := by by_cases h : n / 32 % 2 = 1 <;> simp [h]
  rw [e3])
theorem regOf_run {id : Nat} {h : Heap} {args : List AV} : (regOfS).run id h args = runP (args1 (tInt .i64) ((fun n => 0 ≤ n ∧ n < 128))) ((fun n => .ret (regV (regOfF n)))) h args := rfl
theorem regOf_pan {id : Nat} {h : Heap} {args : List AV} : (regOfS).pan id h args = panP (args1 (tInt .i64) ((fun n => 0 ≤ n ∧ n < 128))) ((fun n => .ret (regV (regOfF n)))) h args := rfl

theorem en_numOf (args : Array Value) (w : World) : (callFunc 28 args).run Tryd.prog w = .ok (.enter 28 args) w := by go_simp
def numOfS : Spec Tryd.prog 28 :=
  mk1 _ _ _ Tryd.func28 rfl en_numOf (tAgg regR) ((fun r => -100000 < r.n ∧ r.n < 100000)) ((fun r => .ret (iv (numOfF r)))) (by rw [Tryd.ntmps28]; decide) (fun r hr => by
  obtain ⟨n, x, sp⟩ := r
  obtain ⟨h0, h1⟩ := hr
  simp only at h0 h1
  refine aRun_sound (ctx := []) 4000 ?_
  rw [Tryd.ntmps28, Tryd.results28]
  simp only [Tryd.f28, Option.getD_some, zipT]
  have e1 : IntKind.i64.wrap n = n := by rw [IntKind.wrap_i64]; omega
  have e2 : IntKind.i64.wrap (n + 32) = n + 32 := by rw [IntKind.wrap_i64]; omega
  have e3 : IntKind.i64.wrap (n + 64) = n + 64 := by rw [IntKind.wrap_i64]; omega
  have e4 : IntKind.i64.wrap (n + 32 + 64) = n + 32 + 64 := by rw [IntKind.wrap_i64]; omega
  cases x <;> cases sp <;> simp only [List.map_nil, retQ, retD, aRun_o0, aRun_o1, aRun_skip, aRun_ret, aRun_seq, aRun_cond, aRun_region, aCont_some, aBr_true, aBr_false, aOp, evT, tget, putT, dstOk, hget, aBin, aLoad, aNew, aField, flatOf, cellsOf, List.getElem?_cons_zero, List.getElem?_cons_succ, List.map_cons, reduceIte, reduceCtorEq, Nat.reduceEqDiff, Nat.reduceAdd, Nat.reduceLT, decide_true, List.nil_append, List.append_nil, List.length_cons, List.length_nil, Bool.false_eq_true, and_self, Bool.and_self, Nat.zero_add, Nat.add_zero, aPanQ_none, aPan, ofD, ofDs, outQ_ret, rvOf, rvsOf, aRet, zipT, AV.toD, SV.toD, LV.toD, tAgg, sz_3, row_3, sz_4, row_4, off_23_0, off_23_1, off_23_2, regR, numOfF, e1, e2, e3, e4, Int.add_zero])
theorem numOf_run {id : Nat} {h : Heap} {args : List AV} : (numOfS).run id h args = runP (args1 (tAgg regR) ((fun r => -100000 < r.n ∧ r.n < 100000))) ((fun r => .ret (iv (numOfF r)))) h args := rfl
theorem numOf_pan {id : Nat} {h : Heap} {args : List AV} : (numOfS).pan id h args = panP (args1 (tAgg regR) ((fun r => -100000 < r.n ∧ r.n < 100000))) ((fun r => .ret (iv (numOfF r)))) h args := rfl
theorem en_numOf2 (args : Array Value) (w : World) : (callFunc 30 args).run Tryd.prog w = .ok (.enter 30 args) w := by go_simp
def numOf2S : Spec Tryd.prog 30 :=
  mk1 _ _ _ Tryd.func30 rfl en_numOf2 (tAgg regR) ((fun r => -100000 < r.n ∧ r.n < 100000)) ((fun r => .ret (iv (numOfF r)))) (by rw [Tryd.ntmps30]; decide) (fun r hr => by
  obtain ⟨n, x, sp⟩ := r
  obtain ⟨h0, h1⟩ := hr
  simp only at h0 h1
  refine aRun_sound (ctx := []) 4000 ?_
  rw [Tryd.ntmps30, Tryd.results30]
  simp only [Tryd.f30, Option.getD_some, zipT]
  have e1 : IntKind.i64.wrap n = n := by rw [IntKind.wrap_i64]; omega
  have e2 : IntKind.i64.wrap (n + 32) = n + 32 := by rw [IntKind.wrap_i64]; omega
  have e3 : IntKind.i64.wrap (n + 64) = n + 64 := by rw [IntKind.wrap_i64]; omega
  have e4 : IntKind.i64.wrap (n + 32 + 64) = n + 32 + 64 := by rw [IntKind.wrap_i64]; omega
  cases x <;> cases sp <;> simp only [List.map_nil, retQ, retD, aRun_o0, aRun_o1, aRun_skip, aRun_ret, aRun_seq, aRun_cond, aRun_region, aCont_some, aBr_true, aBr_false, aOp, evT, tget, putT, dstOk, hget, aBin, aLoad, aNew, aField, flatOf, cellsOf, List.getElem?_cons_zero, List.getElem?_cons_succ, List.map_cons, reduceIte, reduceCtorEq, Nat.reduceEqDiff, Nat.reduceAdd, Nat.reduceLT, decide_true, List.nil_append, List.append_nil, List.length_cons, List.length_nil, Bool.false_eq_true, and_self, Bool.and_self, Nat.zero_add, Nat.add_zero, aPanQ_none, aPan, ofD, ofDs, outQ_ret, rvOf, rvsOf, aRet, zipT, AV.toD, SV.toD, LV.toD, tAgg, sz_3, row_3, sz_4, row_4, off_23_0, off_23_1, off_23_2, regR, numOfF, e1, e2, e3, e4, Int.add_zero])
theorem numOf2_run {id : Nat} {h : Heap} {args : List AV} : (numOf2S).run id h args = runP (args1 (tAgg regR) ((fun r => -100000 < r.n ∧ r.n < 100000))) ((fun r => .ret (iv (numOfF r)))) h args := rfl
theorem numOf2_pan {id : Nat} {h : Heap} {args : List AV} : (numOf2S).pan id h args = panP (args1 (tAgg regR) ((fun r => -100000 < r.n ∧ r.n < 100000))) ((fun r => .ret (iv (numOfF r)))) h args := rfl

end Go.Proofs.YtkjkogmnijfanaaDoor
