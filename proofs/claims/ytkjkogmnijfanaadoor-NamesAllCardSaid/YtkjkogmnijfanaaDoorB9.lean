/- Names: the laws' small parts; the law on registers. -/
import Derived.Test.YtkjkogmnijfanaaDoorB8
import Derived.Test.YtkjkogmnijfanaaDoorC0
set_option linter.unusedVariables false
set_option linter.unusedSimpArgs false
namespace Go.Proofs.YtkjkogmnijfanaaDoor
open Go.RowKit

theorem flat_reg : flatT Tryd.prog 23 = some [1, 2, 2] := by kernel_rfl

def nzcvN : ByteArray := ⟨#[115, 51, 95, 51, 95, 99, 52, 95, 99, 50, 95, 48]⟩
def nzcvS : ByteArray := ⟨#[110, 122, 99, 118]⟩
theorem nzcv_num : numberF 3 6 nzcvN = (23056, 0) := by decide +kernel
theorem nzcv_name : nameF 6 23056 = (nzcvS, 0) := by decide +kernel
theorem wsp_reg : regF 3 ⟨#[119, 115, 112]⟩ = (⟨31, false, true⟩, 0) := by decide +kernel

set_option maxHeartbeats 4000000 in
set_option maxRecDepth 100000 in
theorem live_sw : SW Tryd.prog ⟨none, 0⟩ Tryd.f8.ntmps (Tryd.f8.body.getD .skip) ⟨0, [], []⟩ (outQ Tryd.prog Tryd.f8.results.toList (.ret (bv true))) := by
  refine aRun_sound (ctx := [⟨_, regS⟩, ⟨_, numberS⟩, ⟨_, nameS⟩]) 4000 ?_
  rw [Tryd.ntmps8, Tryd.results8]
  simp only [Tryd.f8, Option.getD_some, zipT]
  have e1 : nzcvN = ⟨#[115, 51, 95, 51, 95, 99, 52, 95, 99, 50, 95, 48]⟩ := rfl
  have e2 : nzcvS = ⟨#[110, 122, 99, 118]⟩ := rfl
  have hz : (nzcvN.size ≤ 1099511627776) = True := eq_true (by decide)
  have e3 := nzcv_num
  have e4 := nzcv_name
  rw [e1] at e3 hz
  rw [e2] at e4
  simp only [List.map_nil, Nat.le_refl, retQ, retD, aRun_o0, aRun_o1, aRun_o2, aRun_ret, aRun_seq, aRun_region, aCont_some, aGd_yes, Int.reduceBEq, aOp, evT, tget, putT, dstOk, gAt, setG, hget, aBin, aLoad, aStore, aNew, flatOf, flatLs, cellsOf, LV.one, Value.oneCell', fillL, splice, aBuild, crun, List.getElem?_cons_zero, List.getElem?_cons_succ, List.map_cons, Option.map_some, reduceIte, reduceCtorEq, Nat.reduceEqDiff, Nat.reduceAdd, Nat.reduceLT, Nat.reduceLeDiff, decide_true, true_and, List.cons_append, List.nil_append, List.append_nil, List.take_succ_cons, List.take_zero, List.drop_succ_cons, List.drop_zero, List.length_cons, List.length_nil, List.set_cons_zero, and_self, Bool.true_and, Bool.and_self, Nat.zero_add, aPanQ_none, aPan, cpan, calleeOf, ofD, outQ_ret, rvOf, rvsOf, aRet, runP, panP, hides, mapT, AV.toD, SV.toD, LV.toD, args1, args2, tInt, tStr, AV.plain, SV.plain, LV.plain, List.all_cons, List.all_nil, Option.getD_some, sz_23, row_23, zero_23, pl_23, reg_run, reg_pan, number_run, number_pan, name_run, name_pan, regO, numO, nameO, e3, e4, hz, wsp_reg, pure_flat_eql, orPure_eq, flatEq, flat_reg, eqKs]
theorem en_live (args : Array Value) (w : World) : (callFunc 8 args).run Tryd.prog w = .ok (.enter 8 args) w := by go_simp
def liveS : Spec Tryd.prog 8 :=
  mk0 _ _ _ Tryd.func8 rfl en_live  (True) ((.ret (bv true))) (fun _ => live_sw)
theorem live_run {id : Nat} {h : Heap} {args : List AV} : (liveS).run id h args = runP (args0  (True)) (fun _ => (.ret (bv true))) h args := rfl
theorem live_pan {id : Nat} {h : Heap} {args : List AV} : (liveS).pan id h args = panP (args0  (True)) (fun _ => (.ret (bv true))) h args := rfl

set_option maxRecDepth 100000 in
set_option maxHeartbeats 4000000 in
theorem regs_sw (s : ByteArray) (r : RegV) : SW Tryd.prog ⟨none, 0⟩ Tryd.f3.ntmps (Tryd.f3.body.getD .skip) ⟨0, zipT 0 [tStr.enc s, (tAgg regR).enc r], []⟩ (outQ Tryd.prog Tryd.f3.results.toList (.ret (bv true))) := by
  refine aRun_sound (ctx := [⟨_, liveS⟩, ⟨_, regS⟩, ⟨_, reg2S⟩, ⟨_, regNameS⟩, ⟨_, regName2S⟩]) 4000 ?_
  rw [Tryd.ntmps3, Tryd.results3]
  simp only [Tryd.f3, Option.getD_some, zipT]
  have e := (regF_agree s).symm
  simp only [List.map_nil, Nat.le_refl, retQ, retD, aRun_o0, aRun_o1, aRun_o2, aRun_skip, aRun_ret, aRun_seq, aRun_cond, aRun_region, aCont_some, aBr_false, aGd_yes, aOp, evT, tget, putT, dstOk, gAt, setG, hget, aBin, aUn, aLoad, aStore, aNew, flatOf, flatLs, cellsOf, Value.oneCell', splice, crun, List.getElem?_cons_zero, List.getElem?_cons_succ, List.map_cons, Option.map_some, reduceIte, reduceCtorEq, Nat.reduceEqDiff, Nat.reduceAdd, Nat.reduceLT, decide_true, true_and, Bool.not_true, List.cons_append, List.nil_append, List.append_nil, List.take_succ_cons, List.take_zero, List.drop_succ_cons, List.drop_zero, List.length_cons, List.length_nil, List.set_cons_zero, and_self, Bool.true_and, Bool.and_self, Nat.zero_add, aPanQ_none, aPan, cpan, calleeOf, LV.toD0, toDs0, ofD, ofDs, outQ_ret, rvOf, rvsOf, aRet, zipT, runP, panP, hides, mapT, AV.toD, SV.toD, LV.toD, args0, args1, tStr, tAgg, AV.plain, SV.plain, LV.plain, List.all_cons, List.all_nil, Option.getD_some, sz_23, row_23, zero_23, live_run, live_pan, reg_run, reg_pan, reg2_run, reg2_pan, regName_run, regName_pan, regName2_run, regName2_pan, regR, regO, nameO, e, pure_flat_eql, orPure_eq, flatEq, flat_reg, eqKs, beq_self_eq_true]

end Go.Proofs.YtkjkogmnijfanaaDoor
