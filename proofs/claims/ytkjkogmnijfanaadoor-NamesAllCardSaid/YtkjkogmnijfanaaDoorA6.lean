/- Names: tables. -/
import Derived.Test.YtkjkogmnijfanaaDoorA5
set_option linter.unusedVariables false
set_option linter.unusedSimpArgs false
namespace Go.Proofs.YtkjkogmnijfanaaDoor
open Go.RowKit

def namedR : RowTy (ByteArray × Int) where
  dec := fun | [.v (.string s), .v (.int .i64 n)] => some (s, n) | _ => none
  enc := fun r => [.v (.string r.1), .v (.int .i64 r.2)]
  inv := by
    intro c x h
    split at h
    · injection h with h; subst h; rfl
    · cases h
  back := by intro x; rfl
def nilV : AV := .s (.l (.v (.slice none 0 0)))
/-- a table, lasting -/
abbrev tblV (l : List (ByteArray × Int)) : AV := .s (.l (.d (.sd 2 (l.map namedR.enc))))

set_option maxRecDepth 100000 in
set_option maxHeartbeats 4000000 in
theorem conds_sw : SW Tryd.prog ⟨none, 0⟩ Tryd.f39.ntmps (Tryd.f39.body.getD .skip) ⟨0, [], []⟩ (outQ Tryd.prog Tryd.f39.results.toList (.ret (tblV condsL))) := by
  refine aRun_sound (ctx := []) 4000 ?_
  rw [Tryd.ntmps39, Tryd.results39]
  simp only [Tryd.f39, Option.getD_some, zipT]
  simp only [List.map_nil, Nat.le_refl, retQ, retD, aRun_o0, aRun_o1, aRun_ret, aRun_seq, aRun_region, aCont_some, aOp, evT, tget, putT, dstOk, hget, cellsOf, LV.one, Value.oneCell', fillL, splice, chunks, repL, aBuild, aBuildSlice, List.getElem?_cons_zero, List.getElem?_cons_succ, List.map_cons, reduceIte, reduceCtorEq, Nat.reduceEqDiff, Nat.reduceAdd, Nat.reduceLT, Nat.reduceLeDiff, Nat.reduceMul, decide_true, true_and, List.cons_append, List.nil_append, List.append_nil, List.take_succ_cons, List.take_zero, List.drop_succ_cons, List.drop_zero, List.length_cons, List.length_nil, and_self, Bool.true_and, Bool.and_self, Nat.zero_add, aPanQ_none, aPan, ofD, outQ_ret, rvOf, rvsOf, aRet, mapT, AV.toD, SV.toD, LV.toD, Option.getD_some, PO.ret.injEq, el_55, sz_58, zero_58, pl_58, condsL, namedR]
  rfl
theorem en_conds (args : Array Value) (w : World) : (callFunc 39 args).run Tryd.prog w = .ok (.enter 39 args) w := by go_simp
def condsS : Spec Tryd.prog 39 :=
  mk0 _ _ _ Tryd.func39 rfl en_conds  (True) ((.ret (tblV condsL))) (fun _ => conds_sw)
theorem conds_run {id : Nat} {h : Heap} {args : List AV} : (condsS).run id h args = runP (args0  (True)) (fun _ => (.ret (tblV condsL))) h args := rfl
theorem conds_pan {id : Nat} {h : Heap} {args : List AV} : (condsS).pan id h args = panP (args0  (True)) (fun _ => (.ret (tblV condsL))) h args := rfl
set_option maxRecDepth 100000 in
set_option maxHeartbeats 4000000 in
theorem mods_sw : SW Tryd.prog ⟨none, 0⟩ Tryd.f40.ntmps (Tryd.f40.body.getD .skip) ⟨0, [], []⟩ (outQ Tryd.prog Tryd.f40.results.toList (.ret (tblV modsL))) := by
  refine aRun_sound (ctx := []) 4000 ?_
  rw [Tryd.ntmps40, Tryd.results40]
  simp only [Tryd.f40, Option.getD_some, zipT]
  simp only [List.map_nil, Nat.le_refl, retQ, retD, aRun_o0, aRun_o1, aRun_ret, aRun_seq, aRun_region, aCont_some, aOp, evT, tget, putT, dstOk, hget, cellsOf, LV.one, Value.oneCell', fillL, splice, chunks, repL, aBuild, aBuildSlice, List.getElem?_cons_zero, List.getElem?_cons_succ, List.map_cons, reduceIte, reduceCtorEq, Nat.reduceEqDiff, Nat.reduceAdd, Nat.reduceLT, Nat.reduceLeDiff, Nat.reduceMul, decide_true, true_and, List.cons_append, List.nil_append, List.append_nil, List.take_succ_cons, List.take_zero, List.drop_succ_cons, List.drop_zero, List.length_cons, List.length_nil, and_self, Bool.true_and, Bool.and_self, Nat.zero_add, aPanQ_none, aPan, ofD, outQ_ret, rvOf, rvsOf, aRet, mapT, AV.toD, SV.toD, LV.toD, Option.getD_some, PO.ret.injEq, el_55, sz_58, zero_58, pl_58, modsL, namedR]
  rfl
theorem en_mods (args : Array Value) (w : World) : (callFunc 40 args).run Tryd.prog w = .ok (.enter 40 args) w := by go_simp
def modsS : Spec Tryd.prog 40 :=
  mk0 _ _ _ Tryd.func40 rfl en_mods  (True) ((.ret (tblV modsL))) (fun _ => mods_sw)
theorem mods_run {id : Nat} {h : Heap} {args : List AV} : (modsS).run id h args = runP (args0  (True)) (fun _ => (.ret (tblV modsL))) h args := rfl
theorem mods_pan {id : Nat} {h : Heap} {args : List AV} : (modsS).pan id h args = panP (args0  (True)) (fun _ => (.ret (tblV modsL))) h args := rfl
set_option maxRecDepth 100000 in
set_option maxHeartbeats 4000000 in
theorem barriers_sw : SW Tryd.prog ⟨none, 0⟩ Tryd.f41.ntmps (Tryd.f41.body.getD .skip) ⟨0, [], []⟩ (outQ Tryd.prog Tryd.f41.results.toList (.ret (tblV barriersL))) := by
  refine aRun_sound (ctx := []) 4000 ?_
  rw [Tryd.ntmps41, Tryd.results41]
  simp only [Tryd.f41, Option.getD_some, zipT]
  simp only [List.map_nil, Nat.le_refl, retQ, retD, aRun_o0, aRun_o1, aRun_ret, aRun_seq, aRun_region, aCont_some, aOp, evT, tget, putT, dstOk, hget, cellsOf, LV.one, Value.oneCell', fillL, splice, chunks, repL, aBuild, aBuildSlice, List.getElem?_cons_zero, List.getElem?_cons_succ, List.map_cons, reduceIte, reduceCtorEq, Nat.reduceEqDiff, Nat.reduceAdd, Nat.reduceLT, Nat.reduceLeDiff, Nat.reduceMul, decide_true, true_and, List.cons_append, List.nil_append, List.append_nil, List.take_succ_cons, List.take_zero, List.drop_succ_cons, List.drop_zero, List.length_cons, List.length_nil, and_self, Bool.true_and, Bool.and_self, Nat.zero_add, aPanQ_none, aPan, ofD, outQ_ret, rvOf, rvsOf, aRet, mapT, AV.toD, SV.toD, LV.toD, Option.getD_some, PO.ret.injEq, el_55, sz_58, zero_58, pl_58, barriersL, namedR]
  rfl
theorem en_barriers (args : Array Value) (w : World) : (callFunc 41 args).run Tryd.prog w = .ok (.enter 41 args) w := by go_simp
def barriersS : Spec Tryd.prog 41 :=
  mk0 _ _ _ Tryd.func41 rfl en_barriers  (True) ((.ret (tblV barriersL))) (fun _ => barriers_sw)
theorem barriers_run {id : Nat} {h : Heap} {args : List AV} : (barriersS).run id h args = runP (args0  (True)) (fun _ => (.ret (tblV barriersL))) h args := rfl
theorem barriers_pan {id : Nat} {h : Heap} {args : List AV} : (barriersS).pan id h args = panP (args0  (True)) (fun _ => (.ret (tblV barriersL))) h args := rfl
set_option maxRecDepth 100000 in
set_option maxHeartbeats 4000000 in
theorem hints_sw : SW Tryd.prog ⟨none, 0⟩ Tryd.f42.ntmps (Tryd.f42.body.getD .skip) ⟨0, [], []⟩ (outQ Tryd.prog Tryd.f42.results.toList (.ret (tblV hintsL))) := by
  refine aRun_sound (ctx := []) 4000 ?_
  rw [Tryd.ntmps42, Tryd.results42]
  simp only [Tryd.f42, Option.getD_some, zipT]
  simp only [List.map_nil, Nat.le_refl, retQ, retD, aRun_o0, aRun_o1, aRun_ret, aRun_seq, aRun_region, aCont_some, aOp, evT, tget, putT, dstOk, hget, cellsOf, LV.one, Value.oneCell', fillL, splice, chunks, repL, aBuild, aBuildSlice, List.getElem?_cons_zero, List.getElem?_cons_succ, List.map_cons, reduceIte, reduceCtorEq, Nat.reduceEqDiff, Nat.reduceAdd, Nat.reduceLT, Nat.reduceLeDiff, Nat.reduceMul, decide_true, true_and, List.cons_append, List.nil_append, List.append_nil, List.take_succ_cons, List.take_zero, List.drop_succ_cons, List.drop_zero, List.length_cons, List.length_nil, and_self, Bool.true_and, Bool.and_self, Nat.zero_add, aPanQ_none, aPan, ofD, outQ_ret, rvOf, rvsOf, aRet, mapT, AV.toD, SV.toD, LV.toD, Option.getD_some, PO.ret.injEq, el_55, sz_58, zero_58, pl_58, hintsL, namedR]
  rfl
theorem en_hints (args : Array Value) (w : World) : (callFunc 42 args).run Tryd.prog w = .ok (.enter 42 args) w := by go_simp
def hintsS : Spec Tryd.prog 42 :=
  mk0 _ _ _ Tryd.func42 rfl en_hints  (True) ((.ret (tblV hintsL))) (fun _ => hints_sw)
theorem hints_run {id : Nat} {h : Heap} {args : List AV} : (hintsS).run id h args = runP (args0  (True)) (fun _ => (.ret (tblV hintsL))) h args := rfl
theorem hints_pan {id : Nat} {h : Heap} {args : List AV} : (hintsS).pan id h args = panP (args0  (True)) (fun _ => (.ret (tblV hintsL))) h args := rfl
set_option maxRecDepth 100000 in
set_option maxHeartbeats 4000000 in
theorem systems_sw : SW Tryd.prog ⟨none, 0⟩ Tryd.f43.ntmps (Tryd.f43.body.getD .skip) ⟨0, [], []⟩ (outQ Tryd.prog Tryd.f43.results.toList (.ret (tblV systemsL))) := by
  refine aRun_sound (ctx := []) 4000 ?_
  rw [Tryd.ntmps43, Tryd.results43]
  simp only [Tryd.f43, Option.getD_some, zipT]
  simp only [List.map_nil, Nat.le_refl, retQ, retD, aRun_o0, aRun_o1, aRun_ret, aRun_seq, aRun_region, aCont_some, aOp, evT, tget, putT, dstOk, hget, cellsOf, LV.one, Value.oneCell', fillL, splice, chunks, repL, aBuild, aBuildSlice, List.getElem?_cons_zero, List.getElem?_cons_succ, List.map_cons, reduceIte, reduceCtorEq, Nat.reduceEqDiff, Nat.reduceAdd, Nat.reduceLT, Nat.reduceLeDiff, Nat.reduceMul, decide_true, true_and, List.cons_append, List.nil_append, List.append_nil, List.take_succ_cons, List.take_zero, List.drop_succ_cons, List.drop_zero, List.length_cons, List.length_nil, and_self, Bool.true_and, Bool.and_self, Nat.zero_add, aPanQ_none, aPan, ofD, outQ_ret, rvOf, rvsOf, aRet, mapT, AV.toD, SV.toD, LV.toD, Option.getD_some, PO.ret.injEq, el_55, sz_58, zero_58, pl_58, systemsL, namedR]
  rfl
theorem en_systems (args : Array Value) (w : World) : (callFunc 43 args).run Tryd.prog w = .ok (.enter 43 args) w := by go_simp
def systemsS : Spec Tryd.prog 43 :=
  mk0 _ _ _ Tryd.func43 rfl en_systems  (True) ((.ret (tblV systemsL))) (fun _ => systems_sw)
theorem systems_run {id : Nat} {h : Heap} {args : List AV} : (systemsS).run id h args = runP (args0  (True)) (fun _ => (.ret (tblV systemsL))) h args := rfl
theorem systems_pan {id : Nat} {h : Heap} {args : List AV} : (systemsS).pan id h args = panP (args0  (True)) (fun _ => (.ret (tblV systemsL))) h args := rfl
set_option maxRecDepth 100000 in
set_option maxHeartbeats 4000000 in
theorem fetches_sw : SW Tryd.prog ⟨none, 0⟩ Tryd.f44.ntmps (Tryd.f44.body.getD .skip) ⟨0, [], []⟩ (outQ Tryd.prog Tryd.f44.results.toList (.ret (tblV fetchesL))) := by
  refine aRun_sound (ctx := []) 4000 ?_
  rw [Tryd.ntmps44, Tryd.results44]
  simp only [Tryd.f44, Option.getD_some, zipT]
  simp only [List.map_nil, Nat.le_refl, retQ, retD, aRun_o0, aRun_o1, aRun_ret, aRun_seq, aRun_region, aCont_some, aOp, evT, tget, putT, dstOk, hget, cellsOf, LV.one, Value.oneCell', fillL, splice, chunks, repL, aBuild, aBuildSlice, List.getElem?_cons_zero, List.getElem?_cons_succ, List.map_cons, reduceIte, reduceCtorEq, Nat.reduceEqDiff, Nat.reduceAdd, Nat.reduceLT, Nat.reduceLeDiff, Nat.reduceMul, decide_true, true_and, List.cons_append, List.nil_append, List.append_nil, List.take_succ_cons, List.take_zero, List.drop_succ_cons, List.drop_zero, List.length_cons, List.length_nil, and_self, Bool.true_and, Bool.and_self, Nat.zero_add, aPanQ_none, aPan, ofD, outQ_ret, rvOf, rvsOf, aRet, mapT, AV.toD, SV.toD, LV.toD, Option.getD_some, PO.ret.injEq, el_55, sz_58, zero_58, pl_58, fetchesL, namedR]
  rfl
theorem en_fetches (args : Array Value) (w : World) : (callFunc 44 args).run Tryd.prog w = .ok (.enter 44 args) w := by go_simp
def fetchesS : Spec Tryd.prog 44 :=
  mk0 _ _ _ Tryd.func44 rfl en_fetches  (True) ((.ret (tblV fetchesL))) (fun _ => fetches_sw)
theorem fetches_run {id : Nat} {h : Heap} {args : List AV} : (fetchesS).run id h args = runP (args0  (True)) (fun _ => (.ret (tblV fetchesL))) h args := rfl
theorem fetches_pan {id : Nat} {h : Heap} {args : List AV} : (fetchesS).pan id h args = panP (args0  (True)) (fun _ => (.ret (tblV fetchesL))) h args := rfl
set_option maxRecDepth 100000 in
set_option maxHeartbeats 4000000 in
theorem parts_sw : SW Tryd.prog ⟨none, 0⟩ Tryd.f45.ntmps (Tryd.f45.body.getD .skip) ⟨0, [], []⟩ (outQ Tryd.prog Tryd.f45.results.toList (.ret (tblV partsL))) := by
  refine aRun_sound (ctx := []) 4000 ?_
  rw [Tryd.ntmps45, Tryd.results45]
  simp only [Tryd.f45, Option.getD_some, zipT]
  simp only [List.map_nil, Nat.le_refl, retQ, retD, aRun_o0, aRun_o1, aRun_ret, aRun_seq, aRun_region, aCont_some, aOp, evT, tget, putT, dstOk, hget, cellsOf, LV.one, Value.oneCell', fillL, splice, chunks, repL, aBuild, aBuildSlice, List.getElem?_cons_zero, List.getElem?_cons_succ, List.map_cons, reduceIte, reduceCtorEq, Nat.reduceEqDiff, Nat.reduceAdd, Nat.reduceLT, Nat.reduceLeDiff, Nat.reduceMul, decide_true, true_and, List.cons_append, List.nil_append, List.append_nil, List.take_succ_cons, List.take_zero, List.drop_succ_cons, List.drop_zero, List.length_cons, List.length_nil, and_self, Bool.true_and, Bool.and_self, Nat.zero_add, aPanQ_none, aPan, ofD, outQ_ret, rvOf, rvsOf, aRet, mapT, AV.toD, SV.toD, LV.toD, Option.getD_some, PO.ret.injEq, el_55, sz_58, zero_58, pl_58, partsL, namedR]
  rfl
theorem en_parts (args : Array Value) (w : World) : (callFunc 45 args).run Tryd.prog w = .ok (.enter 45 args) w := by go_simp
def partsS : Spec Tryd.prog 45 :=
  mk0 _ _ _ Tryd.func45 rfl en_parts  (True) ((.ret (tblV partsL))) (fun _ => parts_sw)
theorem parts_run {id : Nat} {h : Heap} {args : List AV} : (partsS).run id h args = runP (args0  (True)) (fun _ => (.ret (tblV partsL))) h args := rfl
theorem parts_pan {id : Nat} {h : Heap} {args : List AV} : (partsS).pan id h args = panP (args0  (True)) (fun _ => (.ret (tblV partsL))) h args := rfl

def tblO (k : Int) : AV := if tblF k = [] then nilV else tblV (tblF k)
set_option maxRecDepth 100000 in
set_option maxHeartbeats 4000000 in
theorem table_sw (k : Int) : SW Tryd.prog ⟨none, 0⟩ Tryd.f34.ntmps (Tryd.f34.body.getD .skip) ⟨0, zipT 0 [(tInt .i64).enc k], []⟩ (outQ Tryd.prog Tryd.f34.results.toList (.ret (tblO k))) := by
  refine aRun_sound (ctx := [⟨_, condsS⟩, ⟨_, modsS⟩, ⟨_, barriersS⟩, ⟨_, hintsS⟩, ⟨_, systemsS⟩, ⟨_, fetchesS⟩, ⟨_, partsS⟩]) 4000 ?_
  rw [Tryd.ntmps34, Tryd.results34]
  simp only [Tryd.f34, Option.getD_some, zipT]
  by_cases h2 : k = 2
  · have e : tblO k = tblV condsL := by rw [h2]; rfl
    simp only [List.map_nil, retQ, retD, aRun_b, aRun_o0, aRun_o1, aRun_skip, aRun_ret, aRun_seq, aRun_block, aRun_cond, aRun_region, aCont_some, aBr_beq, aOp, evT, tget, putT, dstOk, aBin, flatOf, crun, reduceIte, reduceCtorEq, Nat.reduceEqDiff, Nat.reduceAdd, Nat.reduceLT, decide_true, true_and, forall_const, not_true_eq_false, not_false_eq_true, List.append_nil, Bool.false_eq_true, false_implies, and_self, Bool.true_and, Bool.and_self, Nat.zero_add, aPanQ_none, aPan, cpan, calleeOf, ofD, outQ_ret, rvOf, rvsOf, aRet, zipT, runP, panP, hides, mapT, AV.toD, SV.toD, LV.toD, args0, tInt, AV.plain, SV.plain, LV.plain, Option.getD_some, PO.ret.injEq, conds_run, conds_pan, mods_run, mods_pan, barriers_run, barriers_pan, hints_run, hints_pan, systems_run, systems_pan, fetches_run, fetches_pan, parts_run, parts_pan, e, eq_true h2]
  by_cases h3 : k = 3
  · have e : tblO k = tblV modsL := by rw [h3]; rfl
    simp only [List.map_nil, retQ, retD, aRun_b, aRun_o0, aRun_o1, aRun_skip, aRun_ret, aRun_seq, aRun_block, aRun_cond, aRun_region, aCont_some, aBr_beq, aOp, evT, tget, putT, dstOk, aBin, flatOf, crun, reduceIte, reduceCtorEq, Nat.reduceEqDiff, Nat.reduceAdd, Nat.reduceLT, decide_true, true_and, forall_const, not_true_eq_false, not_false_eq_true, List.append_nil, Bool.false_eq_true, false_implies, and_self, Bool.true_and, Bool.and_self, Nat.zero_add, aPanQ_none, aPan, cpan, calleeOf, ofD, outQ_ret, rvOf, rvsOf, aRet, zipT, runP, panP, hides, mapT, AV.toD, SV.toD, LV.toD, args0, tInt, AV.plain, SV.plain, LV.plain, Option.getD_some, PO.ret.injEq, conds_run, conds_pan, mods_run, mods_pan, barriers_run, barriers_pan, hints_run, hints_pan, systems_run, systems_pan, fetches_run, fetches_pan, parts_run, parts_pan, e, h2, eq_true h3]
  by_cases h4 : k = 4
  · have e : tblO k = tblV barriersL := by rw [h4]; rfl
    simp only [List.map_nil, retQ, retD, aRun_b, aRun_o0, aRun_o1, aRun_skip, aRun_ret, aRun_seq, aRun_block, aRun_cond, aRun_region, aCont_some, aBr_beq, aOp, evT, tget, putT, dstOk, aBin, flatOf, crun, reduceIte, reduceCtorEq, Nat.reduceEqDiff, Nat.reduceAdd, Nat.reduceLT, decide_true, true_and, forall_const, not_true_eq_false, not_false_eq_true, List.append_nil, Bool.false_eq_true, false_implies, and_self, Bool.true_and, Bool.and_self, Nat.zero_add, aPanQ_none, aPan, cpan, calleeOf, ofD, outQ_ret, rvOf, rvsOf, aRet, zipT, runP, panP, hides, mapT, AV.toD, SV.toD, LV.toD, args0, tInt, AV.plain, SV.plain, LV.plain, Option.getD_some, PO.ret.injEq, conds_run, conds_pan, mods_run, mods_pan, barriers_run, barriers_pan, hints_run, hints_pan, systems_run, systems_pan, fetches_run, fetches_pan, parts_run, parts_pan, e, h2, h3, eq_true h4]
  by_cases h5 : k = 5
  · have e : tblO k = tblV hintsL := by rw [h5]; rfl
    simp only [List.map_nil, retQ, retD, aRun_b, aRun_o0, aRun_o1, aRun_skip, aRun_ret, aRun_seq, aRun_block, aRun_cond, aRun_region, aCont_some, aBr_beq, aOp, evT, tget, putT, dstOk, aBin, flatOf, crun, reduceIte, reduceCtorEq, Nat.reduceEqDiff, Nat.reduceAdd, Nat.reduceLT, decide_true, true_and, forall_const, not_true_eq_false, not_false_eq_true, List.append_nil, Bool.false_eq_true, false_implies, and_self, Bool.true_and, Bool.and_self, Nat.zero_add, aPanQ_none, aPan, cpan, calleeOf, ofD, outQ_ret, rvOf, rvsOf, aRet, zipT, runP, panP, hides, mapT, AV.toD, SV.toD, LV.toD, args0, tInt, AV.plain, SV.plain, LV.plain, Option.getD_some, PO.ret.injEq, conds_run, conds_pan, mods_run, mods_pan, barriers_run, barriers_pan, hints_run, hints_pan, systems_run, systems_pan, fetches_run, fetches_pan, parts_run, parts_pan, e, h2, h3, h4, eq_true h5]
  by_cases h6 : k = 6
  · have e : tblO k = tblV systemsL := by rw [h6]; rfl
    simp only [List.map_nil, retQ, retD, aRun_b, aRun_o0, aRun_o1, aRun_skip, aRun_ret, aRun_seq, aRun_block, aRun_cond, aRun_region, aCont_some, aBr_beq, aOp, evT, tget, putT, dstOk, aBin, flatOf, crun, reduceIte, reduceCtorEq, Nat.reduceEqDiff, Nat.reduceAdd, Nat.reduceLT, decide_true, true_and, forall_const, not_true_eq_false, not_false_eq_true, List.append_nil, Bool.false_eq_true, false_implies, and_self, Bool.true_and, Bool.and_self, Nat.zero_add, aPanQ_none, aPan, cpan, calleeOf, ofD, outQ_ret, rvOf, rvsOf, aRet, zipT, runP, panP, hides, mapT, AV.toD, SV.toD, LV.toD, args0, tInt, AV.plain, SV.plain, LV.plain, Option.getD_some, PO.ret.injEq, conds_run, conds_pan, mods_run, mods_pan, barriers_run, barriers_pan, hints_run, hints_pan, systems_run, systems_pan, fetches_run, fetches_pan, parts_run, parts_pan, e, h2, h3, h4, h5, eq_true h6]
  by_cases h7 : k = 7
  · have e : tblO k = tblV fetchesL := by rw [h7]; rfl
    simp only [List.map_nil, retQ, retD, aRun_b, aRun_o0, aRun_o1, aRun_skip, aRun_ret, aRun_seq, aRun_block, aRun_cond, aRun_region, aCont_some, aBr_beq, aOp, evT, tget, putT, dstOk, aBin, flatOf, crun, reduceIte, reduceCtorEq, Nat.reduceEqDiff, Nat.reduceAdd, Nat.reduceLT, decide_true, true_and, forall_const, not_true_eq_false, not_false_eq_true, List.append_nil, Bool.false_eq_true, false_implies, and_self, Bool.true_and, Bool.and_self, Nat.zero_add, aPanQ_none, aPan, cpan, calleeOf, ofD, outQ_ret, rvOf, rvsOf, aRet, zipT, runP, panP, hides, mapT, AV.toD, SV.toD, LV.toD, args0, tInt, AV.plain, SV.plain, LV.plain, Option.getD_some, PO.ret.injEq, conds_run, conds_pan, mods_run, mods_pan, barriers_run, barriers_pan, hints_run, hints_pan, systems_run, systems_pan, fetches_run, fetches_pan, parts_run, parts_pan, e, h2, h3, h4, h5, h6, eq_true h7]
  by_cases h8 : k = 8
  · have e : tblO k = tblV partsL := by rw [h8]; rfl
    simp only [List.map_nil, retQ, retD, aRun_b, aRun_o0, aRun_o1, aRun_skip, aRun_ret, aRun_seq, aRun_block, aRun_cond, aRun_region, aCont_some, aBr_beq, aOp, evT, tget, putT, dstOk, aBin, flatOf, crun, reduceIte, reduceCtorEq, Nat.reduceEqDiff, Nat.reduceAdd, Nat.reduceLT, decide_true, true_and, forall_const, not_true_eq_false, not_false_eq_true, List.append_nil, Bool.false_eq_true, false_implies, and_self, Bool.true_and, Bool.and_self, Nat.zero_add, aPanQ_none, aPan, cpan, calleeOf, ofD, outQ_ret, rvOf, rvsOf, aRet, zipT, runP, panP, hides, mapT, AV.toD, SV.toD, LV.toD, args0, tInt, AV.plain, SV.plain, LV.plain, Option.getD_some, PO.ret.injEq, conds_run, conds_pan, mods_run, mods_pan, barriers_run, barriers_pan, hints_run, hints_pan, systems_run, systems_pan, fetches_run, fetches_pan, parts_run, parts_pan, e, h2, h3, h4, h5, h6, h7, eq_true h8]
  simp only [List.map_nil, retQ, retD, aRun_b, aRun_o0, aRun_o1, aRun_skip, aRun_ret, aRun_seq, aRun_block, aRun_cond, aRun_region, aCont_some, aBr_beq, aOp, evT, tget, putT, dstOk, aBin, flatOf, crun, reduceIte, reduceCtorEq, Nat.reduceEqDiff, Nat.reduceAdd, Nat.reduceLT, decide_true, true_and, forall_const, not_true_eq_false, not_false_eq_true, List.append_nil, Bool.false_eq_true, false_implies, and_self, Bool.true_and, Bool.and_self, Nat.zero_add, aPanQ_none, aPan, cpan, calleeOf, ofD, outQ_ret, rvOf, rvsOf, aRet, zipT, runP, panP, hides, mapT, AV.toD, SV.toD, LV.toD, args0, tInt, AV.plain, SV.plain, LV.plain, Option.getD_some, PO.ret.injEq, h2, h3, h4, h5, h6, h7, h8, tblO, tblF, nilV]
theorem en_table (args : Array Value) (w : World) : (callFunc 34 args).run Tryd.prog w = .ok (.enter 34 args) w := by go_simp
def tableS : Spec Tryd.prog 34 :=
  mk1 _ _ _ Tryd.func34 rfl en_table (tInt .i64) ((fun _ => True)) ((fun k => .ret (tblO k))) (by rw [Tryd.ntmps34]; decide) (fun k _ => table_sw k)
theorem table_run {id : Nat} {h : Heap} {args : List AV} : (tableS).run id h args = runP (args1 (tInt .i64) ((fun _ => True))) ((fun k => .ret (tblO k))) h args := rfl
theorem table_pan {id : Nat} {h : Heap} {args : List AV} : (tableS).pan id h args = panP (args1 (tInt .i64) ((fun _ => True))) ((fun k => .ret (tblO k))) h args := rfl

end Go.Proofs.YtkjkogmnijfanaaDoor
