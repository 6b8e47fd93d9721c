/- Names: going through all names of a kind. -/
import Derived.Test.YtkjkogmnijfanaaDoorA9
set_option linter.unusedVariables false
set_option linter.unusedSimpArgs false
namespace Go.Proofs.YtkjkogmnijfanaaDoor
open Go.RowKit

/-- the registers' names below a number -/
def regsTo : Nat → List (ByteArray × Int)
  | 0 => []
  | n + 1 => regsTo n ++ (if (regNameF (regOfF n)).2 = 0 then [((regNameF (regOfF n)).1, (n : Int))] else [])
def allF (k : Int) : List (ByteArray × Int) := if k = 1 then regsTo 128 else tblF k
/-- what is yielded -/
def yrow (r : ByteArray × Int) : List AV := [sv r.1, iv r.2]

def decAll1 : List D → Option (Prop × List (List AV))
  | [.pd [.v (.int .i64 k)]] => some (True, (allF k).map yrow)
  | _ => none

theorem regsTo_get {n m : Nat} (h : n < m) (hr : (regNameF (regOfF n)).2 = 0) : (regsTo m)[(regsTo n).length]? = some ((regNameF (regOfF n)).1, (n : Int)) := by
  induction m with
  | zero => omega
  | succ m ih =>
    rw [regsTo]
    by_cases e : n = m
    · subst e
      rw [if_pos hr, List.getElem?_append_right (Nat.le_refl _), Nat.sub_self]
      rfl
    · have := ih (by omega)
      rw [List.getElem?_append_left (List.getElem?_eq_some_iff.1 this).1]
      exact this

set_option maxRecDepth 100000 in
set_option maxHeartbeats 8000000 in
theorem all1_sw (l : Nat) (k : Int) : SWy Tryd.prog l ((allF k).map yrow) ⟨none, 0⟩ Tryd.f37.ntmps (Tryd.f37.body.getD .skip) ⟨0, zipT 0 [.s (.l (.v (.func (.yield l) #[] #[]))), .s (.l (.d (.pd [.v (.int .i64 k)])))], []⟩ (0, true) (itQ ((allF k).map yrow)) := by
  refine yRun_sound (ctx := [⟨_, regOfS⟩, ⟨_, regNameS⟩, ⟨_, tableS⟩]) 4000 ?_
  rw [Tryd.ntmps37]
  simp only [Tryd.f37, Option.getD_some, zipT]
  by_cases hk : k = 1
  · subst hk
    simp only [List.map_nil, Nat.le_refl, List.length_map, Int.cast_ofNat_Int, popTo, Int.reduceBEq, Int.reduceLT, aOp, evT, tget, putT, dstOk, gAt, setG, hget, aBin, aUn, aLoad, aStore, aNew, aField, aIndexAt, fitsAt, aLen, flatOf, cellsOf, LV.one, Value.oneCell', splice, crun, List.getElem?_cons_zero, List.getElem?_cons_succ, List.map_cons, Option.map_some, Int.toNat_natCast, Option.isSome_some, List.getElem?_map, reduceIte, reduceCtorEq, Nat.reduceEqDiff, Nat.reduceAdd, Nat.reduceLT, decide_true, decide_false, true_and, and_true, forall_const, not_false_eq_true, Bool.not_true, Bool.not_false, List.cons_append, List.nil_append, List.append_nil, List.take_succ_cons, List.take_zero, List.drop_succ_cons, List.drop_zero, List.length_cons, List.length_nil, List.set_cons_zero, Option.some.injEq, implies_true, Bool.false_eq_true, false_implies, and_self, Bool.and_true, Bool.true_and, Bool.and_self, Nat.zero_add, Nat.add_zero, aPan, cpan, calleeOf, aNil, D.one, LV.toD0, toDs0, ofD, ofDs, zipT, runP, panP, hides, mapT, AV.toD, SV.toD, LV.toD, args1, tInt, tAgg, AV.plain, SV.plain, LV.plain, List.all_cons, List.all_nil, List.append_assoc, Int.natCast_nonneg, Option.getD_some, yStep_eq, yP_none, yO_none, yO_some, yY_some, yRun_nil, yRun_b, yRun_o0, yRun_o1, yRun_o2, yRun_skip, yRun_ret, yRun_seq, yRun_block, yRun_cond, yRun_region, yRun_exit, yRun_loop, afterY_exit, afterY_ret, yEx_some, yEx_none, yBr_true, yBr_false, yBr_beq, yGd_yes, yGd_tf, yGd_beq, yOp, ownL, AV.pin, SV.pin, LV.pin, itQ_normal, itQ_ret, roundY_normal, roundY_exit, roundY_ret, sz_2, row_2, sz_3, row_3, sz_9, row_9, el_55, str_55, sz_58, row_58, zero_58, off_58_0, off_58_1]
    refine swy_loop (ι := Nat) (fun i => i ≤ 128) (fun i => ⟨0, [(0, .s (.l (.v (.func (.yield l) #[] #[])))), (10, iv i)], []⟩) (fun i => ((regsTo i).length, true)) (fun i => 128 - i) 0 (by omega) rfl (fun i _ b k hk => by cases hk) (Wk.renL [] (by simp) (by simp) (by simp) rfl rfl) ?_
    intro i hi
    refine yRun_sound (ctx := [⟨_, regOfS⟩, ⟨_, regNameS⟩]) 4000 ?_
    by_cases hlt : i < 128
    · have hltI : (i : Int) < 128 := by omega
      have h0 : (0 : Int) ≤ i := by omega
      have ei : IntKind.i64.wrap ((i : Int) + 1) = ((i + 1 : Nat) : Int) := by rw [IntKind.wrap_i64]; omega
      by_cases hr : (regNameF (regOfF i)).2 = 0
      · have hg := regsTo_get hlt hr
        simp only [List.map_nil, Nat.le_refl, List.length_map, Int.cast_ofNat_Int, popTo, Int.reduceBEq, Int.reduceLT, aOp, evT, tget, putT, dstOk, gAt, setG, hget, aBin, aUn, aLoad, aStore, aNew, aField, aIndexAt, fitsAt, aLen, flatOf, cellsOf, LV.one, Value.oneCell', splice, crun, List.getElem?_cons_zero, List.getElem?_cons_succ, List.map_cons, Option.map_some, Int.toNat_natCast, Option.isSome_some, List.getElem?_map, reduceIte, reduceCtorEq, Nat.reduceEqDiff, Nat.reduceAdd, Nat.reduceLT, decide_true, decide_false, true_and, and_true, forall_const, not_false_eq_true, Bool.not_true, Bool.not_false, List.cons_append, List.nil_append, List.append_nil, List.take_succ_cons, List.take_zero, List.drop_succ_cons, List.drop_zero, List.length_cons, List.length_nil, List.set_cons_zero, Option.some.injEq, implies_true, Bool.false_eq_true, false_implies, and_self, Bool.and_true, Bool.true_and, Bool.and_self, Nat.zero_add, Nat.add_zero, aPan, cpan, calleeOf, aNil, D.one, LV.toD0, toDs0, ofD, ofDs, zipT, runP, panP, hides, mapT, AV.toD, SV.toD, LV.toD, args1, tInt, tAgg, AV.plain, SV.plain, LV.plain, List.all_cons, List.all_nil, List.append_assoc, Int.natCast_nonneg, Option.getD_some, yStep_eq, yP_none, yO_none, yO_some, yY_some, yRun_nil, yRun_b, yRun_o0, yRun_o1, yRun_o2, yRun_skip, yRun_ret, yRun_seq, yRun_block, yRun_cond, yRun_region, yRun_exit, yRun_loop, afterY_exit, afterY_ret, yEx_some, yEx_none, yBr_true, yBr_false, yBr_beq, yGd_yes, yGd_tf, yGd_beq, yOp, ownL, AV.pin, SV.pin, LV.pin, itQ_normal, itQ_ret, roundY_normal, roundY_exit, roundY_ret, sz_2, row_2, sz_3, row_3, sz_9, row_9, el_55, str_55, sz_58, row_58, zero_58, off_58_0, off_58_1, hltI, h0, regOf_run, regOf_pan, regName_run, regName_pan, regV, regR, nameO, hr, ei]
        refine ⟨?_, i + 1, by omega, by omega, ?_, Wk.renL [] (by simp) (by simp) (by simp) rfl rfl⟩
        · rw [show allF 1 = regsTo 128 from rfl, hg]; rfl
        · rw [regsTo, if_pos hr]; simp
      · simp only [List.map_nil, Nat.le_refl, List.length_map, Int.cast_ofNat_Int, popTo, Int.reduceBEq, Int.reduceLT, aOp, evT, tget, putT, dstOk, gAt, setG, hget, aBin, aUn, aLoad, aStore, aNew, aField, aIndexAt, fitsAt, aLen, flatOf, cellsOf, LV.one, Value.oneCell', splice, crun, List.getElem?_cons_zero, List.getElem?_cons_succ, List.map_cons, Option.map_some, Int.toNat_natCast, Option.isSome_some, List.getElem?_map, reduceIte, reduceCtorEq, Nat.reduceEqDiff, Nat.reduceAdd, Nat.reduceLT, decide_true, decide_false, true_and, and_true, forall_const, not_false_eq_true, Bool.not_true, Bool.not_false, List.cons_append, List.nil_append, List.append_nil, List.take_succ_cons, List.take_zero, List.drop_succ_cons, List.drop_zero, List.length_cons, List.length_nil, List.set_cons_zero, Option.some.injEq, implies_true, Bool.false_eq_true, false_implies, and_self, Bool.and_true, Bool.true_and, Bool.and_self, Nat.zero_add, Nat.add_zero, aPan, cpan, calleeOf, aNil, D.one, LV.toD0, toDs0, ofD, ofDs, zipT, runP, panP, hides, mapT, AV.toD, SV.toD, LV.toD, args1, tInt, tAgg, AV.plain, SV.plain, LV.plain, List.all_cons, List.all_nil, List.append_assoc, Int.natCast_nonneg, Option.getD_some, yStep_eq, yP_none, yO_none, yO_some, yY_some, yRun_nil, yRun_b, yRun_o0, yRun_o1, yRun_o2, yRun_skip, yRun_ret, yRun_seq, yRun_block, yRun_cond, yRun_region, yRun_exit, yRun_loop, afterY_exit, afterY_ret, yEx_some, yEx_none, yBr_true, yBr_false, yBr_beq, yGd_yes, yGd_tf, yGd_beq, yOp, ownL, AV.pin, SV.pin, LV.pin, itQ_normal, itQ_ret, roundY_normal, roundY_exit, roundY_ret, sz_2, row_2, sz_3, row_3, sz_9, row_9, el_55, str_55, sz_58, row_58, zero_58, off_58_0, off_58_1, hltI, h0, regOf_run, regOf_pan, regName_run, regName_pan, regV, regR, nameO, hr, ei]
        exact ⟨i + 1, by omega, by omega, by rw [regsTo, if_neg hr]; simp, Wk.renL [] (by simp) (by simp) (by simp) rfl rfl⟩
    · obtain rfl : i = 128 := by omega
      simp only [List.map_nil, Nat.le_refl, List.length_map, Int.cast_ofNat_Int, popTo, Int.reduceBEq, Int.reduceLT, aOp, evT, tget, putT, dstOk, gAt, setG, hget, aBin, aUn, aLoad, aStore, aNew, aField, aIndexAt, fitsAt, aLen, flatOf, cellsOf, LV.one, Value.oneCell', splice, crun, List.getElem?_cons_zero, List.getElem?_cons_succ, List.map_cons, Option.map_some, Int.toNat_natCast, Option.isSome_some, List.getElem?_map, reduceIte, reduceCtorEq, Nat.reduceEqDiff, Nat.reduceAdd, Nat.reduceLT, decide_true, decide_false, true_and, and_true, forall_const, not_false_eq_true, Bool.not_true, Bool.not_false, List.cons_append, List.nil_append, List.append_nil, List.take_succ_cons, List.take_zero, List.drop_succ_cons, List.drop_zero, List.length_cons, List.length_nil, List.set_cons_zero, Option.some.injEq, implies_true, Bool.false_eq_true, false_implies, and_self, Bool.and_true, Bool.true_and, Bool.and_self, Nat.zero_add, Nat.add_zero, aPan, cpan, calleeOf, aNil, D.one, LV.toD0, toDs0, ofD, ofDs, zipT, runP, panP, hides, mapT, AV.toD, SV.toD, LV.toD, args1, tInt, tAgg, AV.plain, SV.plain, LV.plain, List.all_cons, List.all_nil, List.append_assoc, Int.natCast_nonneg, Option.getD_some, yStep_eq, yP_none, yO_none, yO_some, yY_some, yRun_nil, yRun_b, yRun_o0, yRun_o1, yRun_o2, yRun_skip, yRun_ret, yRun_seq, yRun_block, yRun_cond, yRun_region, yRun_exit, yRun_loop, afterY_exit, afterY_ret, yEx_some, yEx_none, yBr_true, yBr_false, yBr_beq, yGd_yes, yGd_tf, yGd_beq, yOp, ownL, AV.pin, SV.pin, LV.pin, itQ_normal, itQ_ret, roundY_normal, roundY_exit, roundY_ret, sz_2, row_2, sz_3, row_3, sz_9, row_9, el_55, str_55, sz_58, row_58, zero_58, off_58_0, off_58_1, show allF 1 = regsTo 128 from rfl]
  · have ha : allF k = tblF k := by unfold allF; rw [if_neg hk]
    obtain ⟨t, ht⟩ : ∃ t, tblF k = t := ⟨_, rfl⟩
    rw [ha, ht]
    have hlen : t.length ≤ 100 := by
      rw [← ht]
      unfold tblF
      repeat' split
      all_goals decide
    by_cases hnil : t = []
    have e : tblO k = nilV := by unfold tblO; rw [ht, if_pos hnil]
    simp only [List.map_nil, Nat.le_refl, List.length_map, Int.cast_ofNat_Int, popTo, Int.reduceBEq, Int.reduceLT, aOp, evT, tget, putT, dstOk, gAt, setG, hget, aBin, aUn, aLoad, aStore, aNew, aField, aIndexAt, fitsAt, aLen, flatOf, cellsOf, LV.one, Value.oneCell', splice, crun, List.getElem?_cons_zero, List.getElem?_cons_succ, List.map_cons, Option.map_some, Int.toNat_natCast, Option.isSome_some, List.getElem?_map, reduceIte, reduceCtorEq, Nat.reduceEqDiff, Nat.reduceAdd, Nat.reduceLT, decide_true, decide_false, true_and, and_true, forall_const, not_false_eq_true, Bool.not_true, Bool.not_false, List.cons_append, List.nil_append, List.append_nil, List.take_succ_cons, List.take_zero, List.drop_succ_cons, List.drop_zero, List.length_cons, List.length_nil, List.set_cons_zero, Option.some.injEq, implies_true, Bool.false_eq_true, false_implies, and_self, Bool.and_true, Bool.true_and, Bool.and_self, Nat.zero_add, Nat.add_zero, aPan, cpan, calleeOf, aNil, D.one, LV.toD0, toDs0, ofD, ofDs, zipT, runP, panP, hides, mapT, AV.toD, SV.toD, LV.toD, args1, tInt, tAgg, AV.plain, SV.plain, LV.plain, List.all_cons, List.all_nil, List.append_assoc, Int.natCast_nonneg, Option.getD_some, yStep_eq, yP_none, yO_none, yO_some, yY_some, yRun_nil, yRun_b, yRun_o0, yRun_o1, yRun_o2, yRun_skip, yRun_ret, yRun_seq, yRun_block, yRun_cond, yRun_region, yRun_exit, yRun_loop, afterY_exit, afterY_ret, yEx_some, yEx_none, yBr_true, yBr_false, yBr_beq, yGd_yes, yGd_tf, yGd_beq, yOp, ownL, AV.pin, SV.pin, LV.pin, itQ_normal, itQ_ret, roundY_normal, roundY_exit, roundY_ret, sz_2, row_2, sz_3, row_3, sz_9, row_9, el_55, str_55, sz_58, row_58, zero_58, off_58_0, off_58_1, hk, table_run, table_pan, e, nilV]
    refine swy_loop (ι := Nat) (fun i => i ≤ t.length) (fun i => ⟨0, [(0, .s (.l (.v (.func (.yield l) #[] #[])))), (30, tblV t), (31, iv t.length), (32, iv i)], []⟩) (fun i => (i, true)) (fun i => t.length - i) 0 (Nat.zero_le _) rfl (fun i _ b k hk => by cases hk) ((Wk.nilD 30 2 rfl).trans (Wk.renL [] (by simp) (by simp) (by simp) (by subst hnil; rfl) rfl)) ?_
    rotate_left
    have e : tblO k = tblV t := by unfold tblO; rw [ht, if_neg hnil]
    simp only [List.map_nil, Nat.le_refl, List.length_map, Int.cast_ofNat_Int, popTo, Int.reduceBEq, Int.reduceLT, aOp, evT, tget, putT, dstOk, gAt, setG, hget, aBin, aUn, aLoad, aStore, aNew, aField, aIndexAt, fitsAt, aLen, flatOf, cellsOf, LV.one, Value.oneCell', splice, crun, List.getElem?_cons_zero, List.getElem?_cons_succ, List.map_cons, Option.map_some, Int.toNat_natCast, Option.isSome_some, List.getElem?_map, reduceIte, reduceCtorEq, Nat.reduceEqDiff, Nat.reduceAdd, Nat.reduceLT, decide_true, decide_false, true_and, and_true, forall_const, not_false_eq_true, Bool.not_true, Bool.not_false, List.cons_append, List.nil_append, List.append_nil, List.take_succ_cons, List.take_zero, List.drop_succ_cons, List.drop_zero, List.length_cons, List.length_nil, List.set_cons_zero, Option.some.injEq, implies_true, Bool.false_eq_true, false_implies, and_self, Bool.and_true, Bool.true_and, Bool.and_self, Nat.zero_add, Nat.add_zero, aPan, cpan, calleeOf, aNil, D.one, LV.toD0, toDs0, ofD, ofDs, zipT, runP, panP, hides, mapT, AV.toD, SV.toD, LV.toD, args1, tInt, tAgg, AV.plain, SV.plain, LV.plain, List.all_cons, List.all_nil, List.append_assoc, Int.natCast_nonneg, Option.getD_some, yStep_eq, yP_none, yO_none, yO_some, yY_some, yRun_nil, yRun_b, yRun_o0, yRun_o1, yRun_o2, yRun_skip, yRun_ret, yRun_seq, yRun_block, yRun_cond, yRun_region, yRun_exit, yRun_loop, afterY_exit, afterY_ret, yEx_some, yEx_none, yBr_true, yBr_false, yBr_beq, yGd_yes, yGd_tf, yGd_beq, yOp, ownL, AV.pin, SV.pin, LV.pin, itQ_normal, itQ_ret, roundY_normal, roundY_exit, roundY_ret, sz_2, row_2, sz_3, row_3, sz_9, row_9, el_55, str_55, sz_58, row_58, zero_58, off_58_0, off_58_1, hk, table_run, table_pan, e]
    refine swy_loop (ι := Nat) (fun i => i ≤ t.length) (fun i => ⟨0, [(0, .s (.l (.v (.func (.yield l) #[] #[])))), (30, tblV t), (31, iv t.length), (32, iv i)], []⟩) (fun i => (i, true)) (fun i => t.length - i) 0 (Nat.zero_le _) rfl (fun i _ b k hk => by cases hk) (Wk.renL [] (by simp) (by simp) (by simp) rfl rfl) ?_
    all_goals
      intro i hi
      refine yRun_sound (ctx := []) 4000 ?_
      rcases Nat.lt_or_ge i t.length with hlt | hge
      · have hltI : (i : Int) < t.length := by omega
        obtain ⟨r, hr⟩ : ∃ r, t[i]? = some r := ⟨_, List.getElem?_eq_getElem hlt⟩
        have ei : IntKind.i64.wrap ((i : Int) + 1) = ((i + 1 : Nat) : Int) := by rw [IntKind.wrap_i64]; omega
        simp only [List.map_nil, Nat.le_refl, List.length_map, Int.cast_ofNat_Int, popTo, Int.reduceBEq, Int.reduceLT, aOp, evT, tget, putT, dstOk, gAt, setG, hget, aBin, aUn, aLoad, aStore, aNew, aField, aIndexAt, fitsAt, aLen, flatOf, cellsOf, LV.one, Value.oneCell', splice, crun, List.getElem?_cons_zero, List.getElem?_cons_succ, List.map_cons, Option.map_some, Int.toNat_natCast, Option.isSome_some, List.getElem?_map, reduceIte, reduceCtorEq, Nat.reduceEqDiff, Nat.reduceAdd, Nat.reduceLT, decide_true, decide_false, true_and, and_true, forall_const, not_false_eq_true, Bool.not_true, Bool.not_false, List.cons_append, List.nil_append, List.append_nil, List.take_succ_cons, List.take_zero, List.drop_succ_cons, List.drop_zero, List.length_cons, List.length_nil, List.set_cons_zero, Option.some.injEq, implies_true, Bool.false_eq_true, false_implies, and_self, Bool.and_true, Bool.true_and, Bool.and_self, Nat.zero_add, Nat.add_zero, aPan, cpan, calleeOf, aNil, D.one, LV.toD0, toDs0, ofD, ofDs, zipT, runP, panP, hides, mapT, AV.toD, SV.toD, LV.toD, args1, tInt, tAgg, AV.plain, SV.plain, LV.plain, List.all_cons, List.all_nil, List.append_assoc, Int.natCast_nonneg, Option.getD_some, yStep_eq, yP_none, yO_none, yO_some, yY_some, yRun_nil, yRun_b, yRun_o0, yRun_o1, yRun_o2, yRun_skip, yRun_ret, yRun_seq, yRun_block, yRun_cond, yRun_region, yRun_exit, yRun_loop, afterY_exit, afterY_ret, yEx_some, yEx_none, yBr_true, yBr_false, yBr_beq, yGd_yes, yGd_tf, yGd_beq, yOp, ownL, AV.pin, SV.pin, LV.pin, itQ_normal, itQ_ret, roundY_normal, roundY_exit, roundY_ret, sz_2, row_2, sz_3, row_3, sz_9, row_9, el_55, str_55, sz_58, row_58, zero_58, off_58_0, off_58_1, hltI, hr, namedR, ei]
        exact ⟨rfl, i + 1, by omega, by omega, rfl, Wk.renL [] (by simp) (by simp) (by simp) rfl rfl⟩
      · obtain rfl : i = t.length := by omega
        have hI : ¬ (t.length : Int) < t.length := by omega
        simp only [List.map_nil, Nat.le_refl, List.length_map, Int.cast_ofNat_Int, popTo, Int.reduceBEq, Int.reduceLT, aOp, evT, tget, putT, dstOk, gAt, setG, hget, aBin, aUn, aLoad, aStore, aNew, aField, aIndexAt, fitsAt, aLen, flatOf, cellsOf, LV.one, Value.oneCell', splice, crun, List.getElem?_cons_zero, List.getElem?_cons_succ, List.map_cons, Option.map_some, Int.toNat_natCast, Option.isSome_some, List.getElem?_map, reduceIte, reduceCtorEq, Nat.reduceEqDiff, Nat.reduceAdd, Nat.reduceLT, decide_true, decide_false, true_and, and_true, forall_const, not_false_eq_true, Bool.not_true, Bool.not_false, List.cons_append, List.nil_append, List.append_nil, List.take_succ_cons, List.take_zero, List.drop_succ_cons, List.drop_zero, List.length_cons, List.length_nil, List.set_cons_zero, Option.some.injEq, implies_true, Bool.false_eq_true, false_implies, and_self, Bool.and_true, Bool.true_and, Bool.and_self, Nat.zero_add, Nat.add_zero, aPan, cpan, calleeOf, aNil, D.one, LV.toD0, toDs0, ofD, ofDs, zipT, runP, panP, hides, mapT, AV.toD, SV.toD, LV.toD, args1, tInt, tAgg, AV.plain, SV.plain, LV.plain, List.all_cons, List.all_nil, List.append_assoc, Int.natCast_nonneg, Option.getD_some, yStep_eq, yP_none, yO_none, yO_some, yY_some, yRun_nil, yRun_b, yRun_o0, yRun_o1, yRun_o2, yRun_skip, yRun_ret, yRun_seq, yRun_block, yRun_cond, yRun_region, yRun_exit, yRun_loop, afterY_exit, afterY_ret, yEx_some, yEx_none, yBr_true, yBr_false, yBr_beq, yGd_yes, yGd_tf, yGd_beq, yOp, ownL, AV.pin, SV.pin, LV.pin, itQ_normal, itQ_ret, roundY_normal, roundY_exit, roundY_ret, sz_2, row_2, sz_3, row_3, sz_9, row_9, el_55, str_55, sz_58, row_58, zero_58, off_58_0, off_58_1, hI]

theorem en_all1 (args : Array Value) (w : World) : (callFunc 37 args).run Tryd.prog w = .ok (.enter 37 args) w := by go_simp
noncomputable def all1It : It Tryd.prog 37 :=
  mkIt _ _ _ Tryd.func37 rfl rfl en_all1 decAll1 (by
    intro ds q L hd hq l
    unfold decAll1 at hd
    split at hd
    case h_2 => cases hd
    rename_i k
    injection hd with hd
    injection hd with _ hd
    subst hd
    exact ⟨by rw [Tryd.ntmps37]; show 1 + 1 ≤ 44; decide, all1_sw l k⟩)
theorem all1_dec {k : Int} : all1It.dec [.pd [.v (.int .i64 k)]] = some (True, (allF k).map yrow) := rfl

theorem en_all (args : Array Value) (w : World) : (callFunc 27 args).run Tryd.prog w = .ok (.enter 27 args) w := by go_simp
def allS : Spec Tryd.prog 27 :=
  mk1 _ _ _ Tryd.func27 rfl en_all (tInt .i64) ((fun _ => True)) ((fun k => .ret (.fn 37 [] [.d (.pd [.v (.int .i64 k)])]))) (by rw [Tryd.ntmps27]; decide) (fun k _ => by
  refine aRun_sound (ctx := []) 4000 ?_
  rw [Tryd.ntmps27, Tryd.results27]
  simp only [Tryd.f27, Option.getD_some, zipT]
  simp only [List.map_nil, retQ, retD, aRun_o0, aRun_o1, aRun_ret, aRun_seq, aRun_region, aCont_some, aOp, evT, tget, putT, dstOk, hget, aNew, cellsOf, LV.one, Value.oneCell', List.getElem?_cons_zero, List.map_cons, reduceIte, reduceCtorEq, Nat.reduceEqDiff, Nat.reduceAdd, Nat.reduceLT, decide_true, List.nil_append, List.append_nil, List.drop_zero, List.length_cons, List.length_nil, and_self, Bool.and_self, Nat.zero_add, aPanQ_none, aPan, caught, oneOf, ofD, ofDs, outQ_ret, rvOf, rvsOf, aRet, zipT, mapT, AV.toD, LV.toD, tInt])
theorem all_run {id : Nat} {h : Heap} {args : List AV} : (allS).run id h args = runP (args1 (tInt .i64) ((fun _ => True))) ((fun k => .ret (.fn 37 [] [.d (.pd [.v (.int .i64 k)])]))) h args := rfl
theorem all_pan {id : Nat} {h : Heap} {args : List AV} : (allS).pan id h args = panP (args1 (tInt .i64) ((fun _ => True))) ((fun k => .ret (.fn 37 [] [.d (.pd [.v (.int .i64 k)])]))) h args := rfl

end Go.Proofs.YtkjkogmnijfanaaDoor
