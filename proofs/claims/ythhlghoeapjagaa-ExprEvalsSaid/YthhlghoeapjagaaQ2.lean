/- Functions of package expr and of its reference by the value logic: form, lengthOrForm, Check; signs. -/
import Derived.Test.YthhlghoeapjagaaQ1
import Derived.Test.YthhlghoeapjagaaV12
import Derived.Test.YthhlghoeapjagaaPlain7
import Derived.Test.YthhlghoeapjagaaPlain9
import Derived.Test.YthhlghoeapjagaaRc
import Derived.Test.YthhlghoeapjagaaEg
set_option linter.unusedVariables false
set_option linter.unusedSimpArgs false
namespace Go.Proofs.Ythhlghoeapjagaa
open Go.RowKit

theorem mixed : Try.prog.follows .mixedOrders = true := by kernel_rfl

def Ts : DecSl Term where
  T := 57
  sz := 3
  dec := decTerm
  enc := Term.lv
  inv := decTerm_inv
  flat := fun _ => rfl
  ob := fun ts => ts.length ≤ maxLen ∧ ∀ t ∈ ts, t.sym.size ≤ maxLen

theorem Ts_dec (ts : List Term) : decAll Ts.dec (ts.map Term.lv) = some ts := decAll_enc decTerm_lv ts
theorem Ts_sz : Ts.sz = 3 := rfl
theorem Ts_ob (ts : List Term) : Ts.ob ts = (ts.length ≤ maxLen ∧ ∀ t ∈ ts, t.sym.size ≤ maxLen) := rfl

theorem en_form (args : Array Value) (w : World) : (callFunc 48 args).run Try.prog w = .ok (.enter 48 args) w := by go_simp
def formS : Spec Try.prog 48 :=
  mkFlat _ _ _ Try.func48 rfl en_form (dec1 Ts) (fun ts => iv (formF 0 ts)) dec1_mono (fun _ => rfl) 1 (by rw [Try.ntmps48]; decide) (by
    intro h args ob x hd hob
    obtain ⟨hv, hob⟩ := dec1_view Ts hd hob
    exact ⟨_, _, hv, form_sw _ hob.1 hob.2⟩)
theorem form_run {id : Nat} {h : Heap} {args : List AV} : (formS).run id h args = runFlat (dec1 Ts) (fun ts => iv (formF 0 ts)) 1 h args := rfl

theorem lof_sw (ts : List Term) (hob : Ts.ob ts) : SW Try.prog Try.f47.ntmps (Try.f47.body.getD .skip) ⟨1, zipT 0 [slv 0 0 ts.length], Tms ts⟩ (retQ Try.prog Try.f47.results.toList (iv (if formF 0 ts = 0 then 93 else formF 0 ts))) := by
  refine aRun_sound (ctx := [⟨_, formS⟩]) 4000 ?_
  rw [Try.ntmps47, Try.results47]
  simp only [Try.f47, Option.getD_some, zipT]
  rw [Ts_ob] at hob
  simp only [Tms, aRun_nil, aRun_b, aRun_o0, aRun_o1, aRun_o2, aRun_skip, aRun_label, aRun_ret, aRun_seq, aRun_block, aRun_cond, aRun_region, aRun_exit, aRun_loop, aRun_draw, afterQ_normal, afterQ_exit, afterQ_ret, aEx_some, aEx_none, aCont_some, aCont_none, aBr_true, aBr_false, aBr_dec, aBr_not, aBr_beq, aBr_bne, aGd_yes, aGd_skip, aGd_tf, aGd_ft, aGd_dec_t, aGd_beq, aGd_bne, aGd_not, popTo, aDr_nil, aDr_one, aDr_yes, aDr_no, aDk_some, eOk, befOf, bindsE, Region.binds, bit, Hp, Nat.reduceOr, Nat.reducePow, Nat.reduceDiv, Nat.reduceMod, Nat.reduceBEq, Int.reduceBEq, Int.reduceBNe, Int.reduceEq, Int.reduceLT, Int.reduceLE, Int.reduceToNat, List.getD_cons_zero, List.getD_cons_succ, List.getD_nil, List.mem_cons, List.mem_singleton, List.not_mem_nil, roundQ_normal, roundQ_exit, roundQ_ret, runPlain, runFlat, dec1, slEls, take_map_len, aOp, evT, tget, putT, dstOk, gAt, setG, hget, aBin, aUn, aConv, aConvS, aLoad, aStore, aNew, aField, aIndexAt, fitsAt, aIndex, aSlice, bnd, aAppend, aLen, aFld, aMin, flatOf, flatLs, cellsOf, LV.one, Value.oneCell', fillL, splice, chunks, repL, aBuild, aBuildSlice, crun, zipT, retQ, aRet, rvsOf, rvOf, toSs, List.getElem?_cons_zero, List.getElem?_cons_succ, List.map_cons, List.map_nil, Option.map_some, Option.map_none, List.toList_toArray, List.size_toArray, flatArgs, Int.toNat_natCast, Option.isSome_some, AV.ren, SV.ren, LV.ren, Blk.ren, List.getElem?_map, reduceIte, reduceCtorEq, Nat.reduceEqDiff, Nat.reduceAdd, Nat.reduceLT, Nat.reduceLeDiff, Nat.reduceMul, Nat.reduceSub, decide_true, decide_false, true_and, and_true, forall_const, not_true_eq_false, not_false_eq_true, Bool.not_true, Bool.not_false, List.cons_append, List.nil_append, List.append_nil, forall_eq, eq_self, beq_iff_eq, decide_eq_true_eq, decide_eq_false_iff_not, beq_eq_false_iff_ne, ne_eq, bne_iff_ne, List.take_succ_cons, List.take_zero, List.drop_succ_cons, List.drop_zero, List.length_cons, List.length_nil, List.set_cons_zero, List.set_cons_succ, Option.some.injEq, true_or, or_true, false_or, or_false, implies_true, Bool.false_eq_true, Bool.true_eq_false, false_implies, and_self, Bool.and_true, Bool.true_and, Bool.and_self, Nat.zero_add, Nat.add_zero, sz_2, row_2, zero_2, by_2, str_2, kind_2, sz_3, row_3, zero_3, by_3, str_3, kind_3, sz_4, row_4, zero_4, by_4, str_4, sz_5, row_5, zero_5, by_5, str_5, kind_5, sz_9, row_9, zero_9, by_9, str_9, bs_9, sz_21, row_21, zero_21, by_21, str_21, kind_21, sz_22, row_22, zero_22, by_22, str_22, pl_22, off_22_0, fld_22_0, off_22_1, fld_22_1, off_22_2, fld_22_2, sz_23, row_23, zero_23, by_23, str_23, pl_23, off_23_0, fld_23_0, off_23_1, fld_23_1, off_23_2, fld_23_2, sz_25, row_25, zero_25, by_25, str_25, kind_25, sz_34, row_34, zero_34, by_34, el_34, str_34, bs_34, sz_46, row_46, zero_46, by_46, el_46, str_46, bs_46, sz_49, row_49, zero_49, by_49, el_49, str_49, bs_49, sz_50, row_50, zero_50, by_50, str_50, kind_50, sz_51, row_51, zero_51, by_51, str_51, pl_51, off_51_0, fld_51_0, off_51_1, fld_51_1, off_51_2, fld_51_2, off_51_3, fld_51_3, sz_52, row_52, zero_52, by_52, str_52, pl_52, off_52_0, fld_52_0, off_52_1, fld_52_1, off_52_2, fld_52_2, off_52_3, fld_52_3, sz_56, row_56, zero_56, by_56, str_56, pl_56, off_56_0, fld_56_0, off_56_1, fld_56_1, off_56_2, fld_56_2, sz_57, row_57, zero_57, by_57, str_57, pl_57, off_57_0, fld_57_0, off_57_1, fld_57_1, off_57_2, fld_57_2, sz_70, row_70, zero_70, by_70, el_70, str_70, bs_70, sz_72, row_72, zero_72, by_72, str_72, pl_72, off_72_0, fld_72_0, off_72_1, fld_72_1, sz_74, row_74, zero_74, by_74, el_74, str_74, bs_74, sz_76, row_76, zero_76, by_76, str_76, pl_76, off_76_0, fld_76_0, off_76_1, fld_76_1, sz_88, row_88, zero_88, by_88, el_88, str_88, bs_88, sz_94, row_94, zero_94, by_94, str_94, asz_94, pl_94, arr_94, crun, form_run, Ts_dec, Ts_sz, Ts_ob, hob, List.length_map, Nat.le_refl]
  generalize formF 0 ts = x
  exact ⟨hob.2, fun h => by rw [if_pos h], fun h => by rw [if_neg h]⟩

theorem en_lof (args : Array Value) (w : World) : (callFunc 47 args).run Try.prog w = .ok (.enter 47 args) w := by go_simp
def lofS : Spec Try.prog 47 :=
  mkFlat _ _ _ Try.func47 rfl en_lof (dec1 Ts) (fun ts => iv (if formF 0 ts = 0 then 93 else formF 0 ts)) dec1_mono (fun _ => rfl) 1 (by rw [Try.ntmps47]; decide) (by
    intro h args ob x hd hob
    obtain ⟨hv, hob⟩ := dec1_view Ts hd hob
    exact ⟨_, _, hv, lof_sw _ hob⟩)
theorem lof_run {id : Nat} {h : Heap} {args : List AV} : (lofS).run id h args = runFlat (dec1 Ts) (fun ts => iv (if formF 0 ts = 0 then 93 else formF 0 ts)) 1 h args := rfl

theorem check_sw (ts : List Term) (hob : Ts.ob ts) : SW Try.prog Try.f22.ntmps (Try.f22.body.getD .skip) ⟨1, zipT 0 [slv 0 0 ts.length], Tms ts⟩ (retQ Try.prog Try.f22.results.toList (iv (checkF ts))) := by
  refine aRun_sound (ctx := [⟨_, formS⟩, ⟨_, lofS⟩]) 4000 ?_
  rw [Try.ntmps22, Try.results22]
  simp only [Try.f22, Option.getD_some, zipT]
  rw [Ts_ob] at hob
  simp only [Tms, aRun_nil, aRun_b, aRun_o0, aRun_o1, aRun_o2, aRun_skip, aRun_label, aRun_ret, aRun_seq, aRun_block, aRun_cond, aRun_region, aRun_exit, aRun_loop, aRun_draw, afterQ_normal, afterQ_exit, afterQ_ret, aEx_some, aEx_none, aCont_some, aCont_none, aBr_true, aBr_false, aBr_dec, aBr_not, aBr_beq, aBr_bne, aGd_yes, aGd_skip, aGd_tf, aGd_ft, aGd_dec_t, aGd_beq, aGd_bne, aGd_not, popTo, aDr_nil, aDr_one, aDr_yes, aDr_no, aDk_some, eOk, befOf, bindsE, Region.binds, bit, Hp, Nat.reduceOr, Nat.reducePow, Nat.reduceDiv, Nat.reduceMod, Nat.reduceBEq, Int.reduceBEq, Int.reduceBNe, Int.reduceEq, Int.reduceLT, Int.reduceLE, Int.reduceToNat, List.getD_cons_zero, List.getD_cons_succ, List.getD_nil, List.mem_cons, List.mem_singleton, List.not_mem_nil, roundQ_normal, roundQ_exit, roundQ_ret, runPlain, runFlat, dec1, slEls, take_map_len, aOp, evT, tget, putT, dstOk, gAt, setG, hget, aBin, aUn, aConv, aConvS, aLoad, aStore, aNew, aField, aIndexAt, fitsAt, aIndex, aSlice, bnd, aAppend, aLen, aFld, aMin, flatOf, flatLs, cellsOf, LV.one, Value.oneCell', fillL, splice, chunks, repL, aBuild, aBuildSlice, crun, zipT, retQ, aRet, rvsOf, rvOf, toSs, List.getElem?_cons_zero, List.getElem?_cons_succ, List.map_cons, List.map_nil, Option.map_some, Option.map_none, List.toList_toArray, List.size_toArray, flatArgs, Int.toNat_natCast, Option.isSome_some, AV.ren, SV.ren, LV.ren, Blk.ren, List.getElem?_map, reduceIte, reduceCtorEq, Nat.reduceEqDiff, Nat.reduceAdd, Nat.reduceLT, Nat.reduceLeDiff, Nat.reduceMul, Nat.reduceSub, decide_true, decide_false, true_and, and_true, forall_const, not_true_eq_false, not_false_eq_true, Bool.not_true, Bool.not_false, List.cons_append, List.nil_append, List.append_nil, forall_eq, eq_self, beq_iff_eq, decide_eq_true_eq, decide_eq_false_iff_not, beq_eq_false_iff_ne, ne_eq, bne_iff_ne, List.take_succ_cons, List.take_zero, List.drop_succ_cons, List.drop_zero, List.length_cons, List.length_nil, List.set_cons_zero, List.set_cons_succ, Option.some.injEq, true_or, or_true, false_or, or_false, implies_true, Bool.false_eq_true, Bool.true_eq_false, false_implies, and_self, Bool.and_true, Bool.true_and, Bool.and_self, Nat.zero_add, Nat.add_zero, sz_2, row_2, zero_2, by_2, str_2, kind_2, sz_3, row_3, zero_3, by_3, str_3, kind_3, sz_4, row_4, zero_4, by_4, str_4, sz_5, row_5, zero_5, by_5, str_5, kind_5, sz_9, row_9, zero_9, by_9, str_9, bs_9, sz_21, row_21, zero_21, by_21, str_21, kind_21, sz_22, row_22, zero_22, by_22, str_22, pl_22, off_22_0, fld_22_0, off_22_1, fld_22_1, off_22_2, fld_22_2, sz_23, row_23, zero_23, by_23, str_23, pl_23, off_23_0, fld_23_0, off_23_1, fld_23_1, off_23_2, fld_23_2, sz_25, row_25, zero_25, by_25, str_25, kind_25, sz_34, row_34, zero_34, by_34, el_34, str_34, bs_34, sz_46, row_46, zero_46, by_46, el_46, str_46, bs_46, sz_49, row_49, zero_49, by_49, el_49, str_49, bs_49, sz_50, row_50, zero_50, by_50, str_50, kind_50, sz_51, row_51, zero_51, by_51, str_51, pl_51, off_51_0, fld_51_0, off_51_1, fld_51_1, off_51_2, fld_51_2, off_51_3, fld_51_3, sz_52, row_52, zero_52, by_52, str_52, pl_52, off_52_0, fld_52_0, off_52_1, fld_52_1, off_52_2, fld_52_2, off_52_3, fld_52_3, sz_56, row_56, zero_56, by_56, str_56, pl_56, off_56_0, fld_56_0, off_56_1, fld_56_1, off_56_2, fld_56_2, sz_57, row_57, zero_57, by_57, str_57, pl_57, off_57_0, fld_57_0, off_57_1, fld_57_1, off_57_2, fld_57_2, sz_70, row_70, zero_70, by_70, el_70, str_70, bs_70, sz_72, row_72, zero_72, by_72, str_72, pl_72, off_72_0, fld_72_0, off_72_1, fld_72_1, sz_74, row_74, zero_74, by_74, el_74, str_74, bs_74, sz_76, row_76, zero_76, by_76, str_76, pl_76, off_76_0, fld_76_0, off_76_1, fld_76_1, sz_88, row_88, zero_88, by_88, el_88, str_88, bs_88, sz_94, row_94, zero_94, by_94, str_94, asz_94, pl_94, arr_94, crun, form_run, lof_run, Ts_dec, Ts_sz, Ts_ob, hob, List.length_map, Nat.le_refl]
  refine ⟨fun h => ⟨hob.2, ?_⟩, fun h => ⟨hob.2, ?_⟩⟩
  · rw [checkF, if_pos (show 256 < ts.length by omega)]
  · rw [checkF, if_neg (show ¬ 256 < ts.length by omega)]

theorem en_check (args : Array Value) (w : World) : (callFunc 22 args).run Try.prog w = .ok (.enter 22 args) w := by go_simp
def checkS : Spec Try.prog 22 :=
  mkFlat _ _ _ Try.func22 rfl en_check (dec1 Ts) (fun ts => iv (checkF ts)) dec1_mono (fun _ => rfl) 1 (by rw [Try.ntmps22]; decide) (by
    intro h args ob x hd hob
    obtain ⟨hv, hob⟩ := dec1_view Ts hd hob
    exact ⟨_, _, hv, check_sw _ hob⟩)
theorem check_run {id : Nat} {h : Heap} {args : List AV} : (checkS).run id h args = runFlat (dec1 Ts) (fun ts => iv (checkF ts)) 1 h args := rfl

/-! the reference's -/
def dRtakes : List Value → Option (Prop × AV)
  | [.int .i64 k] => some (True, iv (rtakesF k))
  | _ => none

set_option maxHeartbeats 400000 in
theorem rtakes_sw (k : Int) : SW Try.prog Try.f39.ntmps (Try.f39.body.getD .skip) ⟨1, zipT 0 [iv k], []⟩ (retQ Try.prog Try.f39.results.toList (iv (rtakesF k))) := by
  refine aRun_sound (ctx := []) 4000 ?_
  rw [Try.ntmps39, Try.results39]
  simp only [Try.f39, Option.getD_some, zipT]
  simp only [aRun_nil, aRun_b, aRun_o0, aRun_o1, aRun_o2, aRun_skip, aRun_label, aRun_ret, aRun_seq, aRun_block, aRun_cond, aRun_region, aRun_exit, aRun_loop, aRun_draw, afterQ_normal, afterQ_exit, afterQ_ret, aEx_some, aEx_none, aCont_some, aCont_none, aBr_true, aBr_false, aBr_dec, aBr_not, aBr_beq, aBr_bne, aGd_yes, aGd_skip, aGd_tf, aGd_ft, aGd_dec_t, aGd_beq, aGd_bne, aGd_not, popTo, aDr_nil, aDr_one, aDr_yes, aDr_no, aDk_some, eOk, befOf, bindsE, Region.binds, bit, Hp, Nat.reduceOr, Nat.reducePow, Nat.reduceDiv, Nat.reduceMod, Nat.reduceBEq, Int.reduceBEq, Int.reduceBNe, Int.reduceEq, Int.reduceLT, Int.reduceLE, Int.reduceToNat, List.getD_cons_zero, List.getD_cons_succ, List.getD_nil, List.mem_cons, List.mem_singleton, List.not_mem_nil, roundQ_normal, roundQ_exit, roundQ_ret, runPlain, runFlat, dec1, slEls, take_map_len, aOp, evT, tget, putT, dstOk, gAt, setG, hget, aBin, aUn, aConv, aConvS, aLoad, aStore, aNew, aField, aIndexAt, fitsAt, aIndex, aSlice, bnd, aAppend, aLen, aFld, aMin, flatOf, flatLs, cellsOf, LV.one, Value.oneCell', fillL, splice, chunks, repL, aBuild, aBuildSlice, crun, zipT, retQ, aRet, rvsOf, rvOf, toSs, List.getElem?_cons_zero, List.getElem?_cons_succ, List.map_cons, List.map_nil, Option.map_some, Option.map_none, List.toList_toArray, List.size_toArray, flatArgs, Int.toNat_natCast, Option.isSome_some, AV.ren, SV.ren, LV.ren, Blk.ren, List.getElem?_map, reduceIte, reduceCtorEq, Nat.reduceEqDiff, Nat.reduceAdd, Nat.reduceLT, Nat.reduceLeDiff, Nat.reduceMul, Nat.reduceSub, decide_true, decide_false, true_and, and_true, forall_const, not_true_eq_false, not_false_eq_true, Bool.not_true, Bool.not_false, List.cons_append, List.nil_append, List.append_nil, forall_eq, eq_self, beq_iff_eq, decide_eq_true_eq, decide_eq_false_iff_not, beq_eq_false_iff_ne, ne_eq, bne_iff_ne, List.take_succ_cons, List.take_zero, List.drop_succ_cons, List.drop_zero, List.length_cons, List.length_nil, List.set_cons_zero, List.set_cons_succ, Option.some.injEq, true_or, or_true, false_or, or_false, implies_true, Bool.false_eq_true, Bool.true_eq_false, false_implies, and_self, Bool.and_true, Bool.true_and, Bool.and_self, Nat.zero_add, Nat.add_zero, sz_2, row_2, zero_2, by_2, str_2, kind_2, sz_3, row_3, zero_3, by_3, str_3, kind_3, sz_4, row_4, zero_4, by_4, str_4, sz_5, row_5, zero_5, by_5, str_5, kind_5, sz_9, row_9, zero_9, by_9, str_9, bs_9, sz_21, row_21, zero_21, by_21, str_21, kind_21, sz_22, row_22, zero_22, by_22, str_22, pl_22, off_22_0, fld_22_0, off_22_1, fld_22_1, off_22_2, fld_22_2, sz_23, row_23, zero_23, by_23, str_23, pl_23, off_23_0, fld_23_0, off_23_1, fld_23_1, off_23_2, fld_23_2, sz_25, row_25, zero_25, by_25, str_25, kind_25, sz_34, row_34, zero_34, by_34, el_34, str_34, bs_34, sz_46, row_46, zero_46, by_46, el_46, str_46, bs_46, sz_49, row_49, zero_49, by_49, el_49, str_49, bs_49, sz_50, row_50, zero_50, by_50, str_50, kind_50, sz_51, row_51, zero_51, by_51, str_51, pl_51, off_51_0, fld_51_0, off_51_1, fld_51_1, off_51_2, fld_51_2, off_51_3, fld_51_3, sz_52, row_52, zero_52, by_52, str_52, pl_52, off_52_0, fld_52_0, off_52_1, fld_52_1, off_52_2, fld_52_2, off_52_3, fld_52_3, sz_56, row_56, zero_56, by_56, str_56, pl_56, off_56_0, fld_56_0, off_56_1, fld_56_1, off_56_2, fld_56_2, sz_57, row_57, zero_57, by_57, str_57, pl_57, off_57_0, fld_57_0, off_57_1, fld_57_1, off_57_2, fld_57_2, sz_70, row_70, zero_70, by_70, el_70, str_70, bs_70, sz_72, row_72, zero_72, by_72, str_72, pl_72, off_72_0, fld_72_0, off_72_1, fld_72_1, sz_74, row_74, zero_74, by_74, el_74, str_74, bs_74, sz_76, row_76, zero_76, by_76, str_76, pl_76, off_76_0, fld_76_0, off_76_1, fld_76_1, sz_88, row_88, zero_88, by_88, el_88, str_88, bs_88, sz_94, row_94, zero_94, by_94, str_94, asz_94, pl_94, arr_94]
  unfold rtakesF
  repeat' (first | (refine ⟨fun _ => ?_, fun _ => ?_⟩) | (refine fun _ => ?_))
  all_goals simp_all
  all_goals omega

theorem en_rtakes (args : Array Value) (w : World) : (callFunc 39 args).run Try.prog w = .ok (.enter 39 args) w := by go_simp
def rtakesS : Spec Try.prog 39 :=
  mkPlain _ _ _ Try.func39 rfl en_rtakes dRtakes 1 (by rw [Try.ntmps39]; decide) (by
    intro vs ob r h hob
    unfold dRtakes at h
    split at h
    case h_2 => cases h
    injection h with h
    injection h with h1 h
    subst h
    subst h1
    exact ⟨rfl, _, rfl, rtakes_sw _⟩)
theorem rtakes_run {id : Nat} {h : Heap} {args : List AV} : (rtakesS).run id h args = runPlain dRtakes 1 args := rfl

/-! signs -/
def dSign : List Value → Option (Prop × AV)
  | [.int .i64 k] => some (3 ≤ k ∧ k ≤ 14, sv (signF k))
  | _ => none

set_option maxHeartbeats 1000000 in
theorem rsign_sw (k : Int) (h : 3 ≤ k ∧ k ≤ 14) : SW Try.prog Try.f44.ntmps (Try.f44.body.getD .skip) ⟨1, zipT 0 [iv k], []⟩ (retQ Try.prog Try.f44.results.toList (sv (signF k))) := by
  refine aRun_sound (ctx := []) 4000 ?_
  rw [Try.ntmps44, Try.results44]
  simp only [Try.f44, Option.getD_some, zipT]
  simp only [aRun_nil, aRun_b, aRun_o0, aRun_o1, aRun_o2, aRun_skip, aRun_label, aRun_ret, aRun_seq, aRun_block, aRun_cond, aRun_region, aRun_exit, aRun_loop, aRun_draw, afterQ_normal, afterQ_exit, afterQ_ret, aEx_some, aEx_none, aCont_some, aCont_none, aBr_true, aBr_false, aBr_dec, aBr_not, aBr_beq, aBr_bne, aGd_yes, aGd_skip, aGd_tf, aGd_ft, aGd_dec_t, aGd_beq, aGd_bne, aGd_not, popTo, aDr_nil, aDr_one, aDr_yes, aDr_no, aDk_some, eOk, befOf, bindsE, Region.binds, bit, Hp, Nat.reduceOr, Nat.reducePow, Nat.reduceDiv, Nat.reduceMod, Nat.reduceBEq, Int.reduceBEq, Int.reduceBNe, Int.reduceEq, Int.reduceLT, Int.reduceLE, Int.reduceToNat, List.getD_cons_zero, List.getD_cons_succ, List.getD_nil, List.mem_cons, List.mem_singleton, List.not_mem_nil, roundQ_normal, roundQ_exit, roundQ_ret, runPlain, runFlat, dec1, slEls, take_map_len, aOp, evT, tget, putT, dstOk, gAt, setG, hget, aBin, aUn, aConv, aConvS, aLoad, aStore, aNew, aField, aIndexAt, fitsAt, aIndex, aSlice, bnd, aAppend, aLen, aFld, aMin, flatOf, flatLs, cellsOf, LV.one, Value.oneCell', fillL, splice, chunks, repL, aBuild, aBuildSlice, crun, zipT, retQ, aRet, rvsOf, rvOf, toSs, List.getElem?_cons_zero, List.getElem?_cons_succ, List.map_cons, List.map_nil, Option.map_some, Option.map_none, List.toList_toArray, List.size_toArray, flatArgs, Int.toNat_natCast, Option.isSome_some, AV.ren, SV.ren, LV.ren, Blk.ren, List.getElem?_map, reduceIte, reduceCtorEq, Nat.reduceEqDiff, Nat.reduceAdd, Nat.reduceLT, Nat.reduceLeDiff, Nat.reduceMul, Nat.reduceSub, decide_true, decide_false, true_and, and_true, forall_const, not_true_eq_false, not_false_eq_true, Bool.not_true, Bool.not_false, List.cons_append, List.nil_append, List.append_nil, forall_eq, eq_self, beq_iff_eq, decide_eq_true_eq, decide_eq_false_iff_not, beq_eq_false_iff_ne, ne_eq, bne_iff_ne, List.take_succ_cons, List.take_zero, List.drop_succ_cons, List.drop_zero, List.length_cons, List.length_nil, List.set_cons_zero, List.set_cons_succ, Option.some.injEq, true_or, or_true, false_or, or_false, implies_true, Bool.false_eq_true, Bool.true_eq_false, false_implies, and_self, Bool.and_true, Bool.true_and, Bool.and_self, Nat.zero_add, Nat.add_zero, sz_2, row_2, zero_2, by_2, str_2, kind_2, sz_3, row_3, zero_3, by_3, str_3, kind_3, sz_4, row_4, zero_4, by_4, str_4, sz_5, row_5, zero_5, by_5, str_5, kind_5, sz_9, row_9, zero_9, by_9, str_9, bs_9, sz_21, row_21, zero_21, by_21, str_21, kind_21, sz_22, row_22, zero_22, by_22, str_22, pl_22, off_22_0, fld_22_0, off_22_1, fld_22_1, off_22_2, fld_22_2, sz_23, row_23, zero_23, by_23, str_23, pl_23, off_23_0, fld_23_0, off_23_1, fld_23_1, off_23_2, fld_23_2, sz_25, row_25, zero_25, by_25, str_25, kind_25, sz_34, row_34, zero_34, by_34, el_34, str_34, bs_34, sz_46, row_46, zero_46, by_46, el_46, str_46, bs_46, sz_49, row_49, zero_49, by_49, el_49, str_49, bs_49, sz_50, row_50, zero_50, by_50, str_50, kind_50, sz_51, row_51, zero_51, by_51, str_51, pl_51, off_51_0, fld_51_0, off_51_1, fld_51_1, off_51_2, fld_51_2, off_51_3, fld_51_3, sz_52, row_52, zero_52, by_52, str_52, pl_52, off_52_0, fld_52_0, off_52_1, fld_52_1, off_52_2, fld_52_2, off_52_3, fld_52_3, sz_56, row_56, zero_56, by_56, str_56, pl_56, off_56_0, fld_56_0, off_56_1, fld_56_1, off_56_2, fld_56_2, sz_57, row_57, zero_57, by_57, str_57, pl_57, off_57_0, fld_57_0, off_57_1, fld_57_1, off_57_2, fld_57_2, sz_70, row_70, zero_70, by_70, el_70, str_70, bs_70, sz_72, row_72, zero_72, by_72, str_72, pl_72, off_72_0, fld_72_0, off_72_1, fld_72_1, sz_74, row_74, zero_74, by_74, el_74, str_74, bs_74, sz_76, row_76, zero_76, by_76, str_76, pl_76, off_76_0, fld_76_0, off_76_1, fld_76_1, sz_88, row_88, zero_88, by_88, el_88, str_88, bs_88, sz_94, row_94, zero_94, by_94, str_94, asz_94, pl_94, arr_94]
  repeat' (first | (refine ⟨fun _ => ?_, fun _ => ?_⟩) | (refine fun _ => ?_))
  all_goals (first | (subst_vars; rfl) | (exfalso; omega) | (have e : k = 14 := by omega); subst e; rfl)

theorem en_rsgn (args : Array Value) (w : World) : (callFunc 44 args).run Try.prog w = .ok (.enter 44 args) w := by go_simp
def rsgnS : Spec Try.prog 44 :=
  mkPlain _ _ _ Try.func44 rfl en_rsgn dSign 1 (by rw [Try.ntmps44]; decide) (by
    intro vs ob r h hob
    unfold dSign at h
    split at h
    case h_2 => cases h
    injection h with h
    injection h with h1 h
    subst h
    subst h1
    exact ⟨rfl, _, rfl, rsign_sw _ hob⟩)
theorem rsgn_run {id : Nat} {h : Heap} {args : List AV} : (rsgnS).run id h args = runPlain dSign 1 args := rfl

set_option maxHeartbeats 2000000 in
theorem sign_sw (k : Int) (h : 3 ≤ k ∧ k ≤ 14) : SW Try.prog Try.f42.ntmps (Try.f42.body.getD .skip) ⟨1, zipT 0 [iv k], []⟩ (retQ Try.prog Try.f42.results.toList (sv (signF k))) := by
  refine aRun_sound (ctx := []) 4000 ?_
  rw [Try.ntmps42, Try.results42]
  simp only [Try.f42, Option.getD_some, zipT]
  have hk : k = 3 ∨ k = 4 ∨ k = 5 ∨ k = 6 ∨ k = 7 ∨ k = 8 ∨ k = 9 ∨ k = 10 ∨ k = 11 ∨ k = 12 ∨ k = 13 ∨ k = 14 := by omega
  rcases hk with rfl | rfl | rfl | rfl | rfl | rfl | rfl | rfl | rfl | rfl | rfl | rfl
  all_goals simp only [aRun_nil, aRun_b, aRun_o0, aRun_o1, aRun_o2, aRun_skip, aRun_label, aRun_ret, aRun_seq, aRun_block, aRun_cond, aRun_region, aRun_exit, aRun_loop, aRun_draw, afterQ_normal, afterQ_exit, afterQ_ret, aEx_some, aEx_none, aCont_some, aCont_none, aBr_true, aBr_false, aBr_dec, aBr_not, aBr_beq, aBr_bne, aGd_yes, aGd_skip, aGd_tf, aGd_ft, aGd_dec_t, aGd_beq, aGd_bne, aGd_not, popTo, aDr_nil, aDr_one, aDr_yes, aDr_no, aDk_some, eOk, befOf, bindsE, Region.binds, bit, Hp, Nat.reduceOr, Nat.reducePow, Nat.reduceDiv, Nat.reduceMod, Nat.reduceBEq, Int.reduceBEq, Int.reduceBNe, Int.reduceEq, Int.reduceLT, Int.reduceLE, Int.reduceToNat, List.getD_cons_zero, List.getD_cons_succ, List.getD_nil, List.mem_cons, List.mem_singleton, List.not_mem_nil, roundQ_normal, roundQ_exit, roundQ_ret, runPlain, runFlat, dec1, slEls, take_map_len, aOp, evT, tget, putT, dstOk, gAt, setG, hget, aBin, aUn, aConv, aConvS, aLoad, aStore, aNew, aField, aIndexAt, fitsAt, aIndex, aSlice, bnd, aAppend, aLen, aFld, aMin, flatOf, flatLs, cellsOf, LV.one, Value.oneCell', fillL, splice, chunks, repL, aBuild, aBuildSlice, crun, zipT, retQ, aRet, rvsOf, rvOf, toSs, List.getElem?_cons_zero, List.getElem?_cons_succ, List.map_cons, List.map_nil, Option.map_some, Option.map_none, List.toList_toArray, List.size_toArray, flatArgs, Int.toNat_natCast, Option.isSome_some, AV.ren, SV.ren, LV.ren, Blk.ren, List.getElem?_map, reduceIte, reduceCtorEq, Nat.reduceEqDiff, Nat.reduceAdd, Nat.reduceLT, Nat.reduceLeDiff, Nat.reduceMul, Nat.reduceSub, decide_true, decide_false, true_and, and_true, forall_const, not_true_eq_false, not_false_eq_true, Bool.not_true, Bool.not_false, List.cons_append, List.nil_append, List.append_nil, forall_eq, eq_self, beq_iff_eq, decide_eq_true_eq, decide_eq_false_iff_not, beq_eq_false_iff_ne, ne_eq, bne_iff_ne, List.take_succ_cons, List.take_zero, List.drop_succ_cons, List.drop_zero, List.length_cons, List.length_nil, List.set_cons_zero, List.set_cons_succ, Option.some.injEq, true_or, or_true, false_or, or_false, implies_true, Bool.false_eq_true, Bool.true_eq_false, false_implies, and_self, Bool.and_true, Bool.true_and, Bool.and_self, Nat.zero_add, Nat.add_zero, sz_2, row_2, zero_2, by_2, str_2, kind_2, sz_3, row_3, zero_3, by_3, str_3, kind_3, sz_4, row_4, zero_4, by_4, str_4, sz_5, row_5, zero_5, by_5, str_5, kind_5, sz_9, row_9, zero_9, by_9, str_9, bs_9, sz_21, row_21, zero_21, by_21, str_21, kind_21, sz_22, row_22, zero_22, by_22, str_22, pl_22, off_22_0, fld_22_0, off_22_1, fld_22_1, off_22_2, fld_22_2, sz_23, row_23, zero_23, by_23, str_23, pl_23, off_23_0, fld_23_0, off_23_1, fld_23_1, off_23_2, fld_23_2, sz_25, row_25, zero_25, by_25, str_25, kind_25, sz_34, row_34, zero_34, by_34, el_34, str_34, bs_34, sz_46, row_46, zero_46, by_46, el_46, str_46, bs_46, sz_49, row_49, zero_49, by_49, el_49, str_49, bs_49, sz_50, row_50, zero_50, by_50, str_50, kind_50, sz_51, row_51, zero_51, by_51, str_51, pl_51, off_51_0, fld_51_0, off_51_1, fld_51_1, off_51_2, fld_51_2, off_51_3, fld_51_3, sz_52, row_52, zero_52, by_52, str_52, pl_52, off_52_0, fld_52_0, off_52_1, fld_52_1, off_52_2, fld_52_2, off_52_3, fld_52_3, sz_56, row_56, zero_56, by_56, str_56, pl_56, off_56_0, fld_56_0, off_56_1, fld_56_1, off_56_2, fld_56_2, sz_57, row_57, zero_57, by_57, str_57, pl_57, off_57_0, fld_57_0, off_57_1, fld_57_1, off_57_2, fld_57_2, sz_70, row_70, zero_70, by_70, el_70, str_70, bs_70, sz_72, row_72, zero_72, by_72, str_72, pl_72, off_72_0, fld_72_0, off_72_1, fld_72_1, sz_74, row_74, zero_74, by_74, el_74, str_74, bs_74, sz_76, row_76, zero_76, by_76, str_76, pl_76, off_76_0, fld_76_0, off_76_1, fld_76_1, sz_88, row_88, zero_88, by_88, el_88, str_88, bs_88, sz_94, row_94, zero_94, by_94, str_94, asz_94, pl_94, arr_94, Int.reduceLT, Int.reduceLE, Int.reduceToNat, ge_iff_le]
  all_goals exact ⟨by decide, rfl⟩

theorem en_sgn (args : Array Value) (w : World) : (callFunc 42 args).run Try.prog w = .ok (.enter 42 args) w := by go_simp
def sgnS : Spec Try.prog 42 :=
  mkPlain _ _ _ Try.func42 rfl en_sgn dSign 1 (by rw [Try.ntmps42]; decide) (by
    intro vs ob r h hob
    unfold dSign at h
    split at h
    case h_2 => cases h
    injection h with h
    injection h with h1 h
    subst h
    subst h1
    exact ⟨rfl, _, rfl, sign_sw _ hob⟩)
theorem sgn_run {id : Nat} {h : Heap} {args : List AV} : (sgnS).run id h args = runPlain dSign 1 args := rfl

end Go.Proofs.Ythhlghoeapjagaa
