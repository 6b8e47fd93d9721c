/- Functions of package expr and of its reference by the value logic: numbers as an expression's text has them. -/
import Derived.Test.YthhlghoeapjagaaQ2
import Derived.Test.YthhlghoeapjagaaPlain10
set_option linter.unusedVariables false
set_option linter.unusedSimpArgs false
namespace Go.Proofs.Ythhlghoeapjagaa
open Go.RowKit

def dDec : List Value → Option (Prop × AV)
  | [.int .u64 z] => some (0 ≤ z ∧ z < 18446744073709551616, sv (decS z.toNat))
  | _ => none

theorem en_dcm (args : Array Value) (w : World) : (callFunc 34 args).run Try.prog w = .ok (.enter 34 args) w := by go_simp
def dcmS : Spec Try.prog 34 :=
  mkOld _ en_dcm dDec 1 (by
    intro vs ob r h hob w
    unfold dDec at h
    split at h
    case h_2 => cases h
    injection h with h
    injection h with h1 h2
    subst h1
    subst h2
    exact (by obtain ⟨N, rfl⟩ := Int.eq_ofNat_of_zero_le hob.1; refine (decimal_any N w (by omega)).mono ?_; rintro e w' ⟨rfl, hb⟩; exact ⟨_, rfl, fun _ _ => rfl, hb⟩))
theorem dcm_run {id : Nat} {h : Heap} {args : List AV} : (dcmS).run id h args = runPlain dDec 1 args := rfl
theorem en_rdcm (args : Array Value) (w : World) : (callFunc 35 args).run Try.prog w = .ok (.enter 35 args) w := by go_simp
def rdcmS : Spec Try.prog 35 :=
  mkOld _ en_rdcm dDec 1 (by
    intro vs ob r h hob w
    unfold dDec at h
    split at h
    case h_2 => cases h
    injection h with h
    injection h with h1 h2
    subst h1
    subst h2
    exact (by obtain ⟨N, rfl⟩ := Int.eq_ofNat_of_zero_le hob.1; refine (rdecimal_any N w (by omega)).mono ?_; rintro e w' ⟨rfl, rfl⟩; exact ⟨_, rfl, fun _ _ => rfl, .refl _ _⟩))
theorem rdcm_run {id : Nat} {h : Heap} {args : List AV} : (rdcmS).run id h args = runPlain dDec 1 args := rfl

def dNum : List Value → Option (Prop × AV)
  | [.int .i64 n] => some (-9223372036854775808 ≤ n ∧ n < 9223372036854775808, sv (numS n))
  | _ => none

def rnumI (u : Int) (n : Int) (k : Nat) : St := ⟨0, [(3, sv (ofBytes (hexL u k))), (4, .s (.l (.v (.int .u64 (u / 16 ^ k))))), (5, iv k), (0, iv n)], []⟩

set_option maxHeartbeats 1000000 in
theorem rnumber_sw (n : Int) (h : -9223372036854775808 ≤ n ∧ n < 9223372036854775808) : SW Try.prog Try.f43.ntmps (Try.f43.body.getD .skip) ⟨1, zipT 0 [iv n], []⟩ (retQ Try.prog Try.f43.results.toList (sv (numS n))) := by
  refine aRun_sound (ctx := [⟨_, rdcmS⟩]) 4000 ?_
  rw [Try.ntmps43, Try.results43]
  simp only [Try.f43, Option.getD_some, zipT]
  simp only [aRun_nil, aRun_b, aRun_o0, aRun_o1, aRun_o2, aRun_skip, aRun_label, aRun_ret, aRun_seq, aRun_block, aRun_cond, aRun_region, aRun_exit, aRun_loop, aRun_draw, afterQ_normal, afterQ_exit, afterQ_ret, aEx_some, aEx_none, aCont_some, aCont_none, aBr_true, aBr_false, aBr_dec, aBr_not, aBr_beq, aBr_bne, aGd_yes, aGd_skip, aGd_tf, aGd_ft, aGd_dec_t, aGd_beq, aGd_bne, aGd_not, popTo, aDr_nil, aDr_one, aDr_yes, aDr_no, aDk_some, eOk, befOf, bindsE, Region.binds, bit, Hp, Nat.reduceOr, Nat.reducePow, Nat.reduceDiv, Nat.reduceMod, Nat.reduceBEq, Int.reduceBEq, Int.reduceBNe, Int.reduceEq, Int.reduceLT, Int.reduceLE, Int.reduceToNat, List.getD_cons_zero, List.getD_cons_succ, List.getD_nil, List.mem_cons, List.mem_singleton, List.not_mem_nil, roundQ_normal, roundQ_exit, roundQ_ret, runPlain, runFlat, dec1, slEls, take_map_len, aOp, evT, tget, putT, dstOk, gAt, setG, hget, aBin, aUn, aConv, aConvS, aLoad, aStore, aNew, aField, aIndexAt, fitsAt, aIndex, aSlice, bnd, aAppend, aLen, aFld, aMin, flatOf, flatLs, cellsOf, LV.one, Value.oneCell', fillL, splice, chunks, repL, aBuild, aBuildSlice, crun, zipT, retQ, aRet, rvsOf, rvOf, toSs, List.getElem?_cons_zero, List.getElem?_cons_succ, List.map_cons, List.map_nil, Option.map_some, Option.map_none, List.toList_toArray, List.size_toArray, flatArgs, Int.toNat_natCast, Option.isSome_some, AV.ren, SV.ren, LV.ren, Blk.ren, List.getElem?_map, reduceIte, reduceCtorEq, Nat.reduceEqDiff, Nat.reduceAdd, Nat.reduceLT, Nat.reduceLeDiff, Nat.reduceMul, Nat.reduceSub, decide_true, decide_false, true_and, and_true, forall_const, not_true_eq_false, not_false_eq_true, Bool.not_true, Bool.not_false, List.cons_append, List.nil_append, List.append_nil, forall_eq, eq_self, beq_iff_eq, decide_eq_true_eq, decide_eq_false_iff_not, beq_eq_false_iff_ne, ne_eq, bne_iff_ne, List.take_succ_cons, List.take_zero, List.drop_succ_cons, List.drop_zero, List.length_cons, List.length_nil, List.set_cons_zero, List.set_cons_succ, Option.some.injEq, true_or, or_true, false_or, or_false, implies_true, Bool.false_eq_true, Bool.true_eq_false, false_implies, and_self, Bool.and_true, Bool.true_and, Bool.and_self, Nat.zero_add, Nat.add_zero, sz_2, row_2, zero_2, by_2, str_2, kind_2, sz_3, row_3, zero_3, by_3, str_3, kind_3, sz_4, row_4, zero_4, by_4, str_4, sz_5, row_5, zero_5, by_5, str_5, kind_5, sz_9, row_9, zero_9, by_9, str_9, bs_9, sz_21, row_21, zero_21, by_21, str_21, kind_21, sz_22, row_22, zero_22, by_22, str_22, pl_22, off_22_0, fld_22_0, off_22_1, fld_22_1, off_22_2, fld_22_2, sz_23, row_23, zero_23, by_23, str_23, pl_23, off_23_0, fld_23_0, off_23_1, fld_23_1, off_23_2, fld_23_2, sz_25, row_25, zero_25, by_25, str_25, kind_25, sz_34, row_34, zero_34, by_34, el_34, str_34, bs_34, sz_46, row_46, zero_46, by_46, el_46, str_46, bs_46, sz_49, row_49, zero_49, by_49, el_49, str_49, bs_49, sz_50, row_50, zero_50, by_50, str_50, kind_50, sz_51, row_51, zero_51, by_51, str_51, pl_51, off_51_0, fld_51_0, off_51_1, fld_51_1, off_51_2, fld_51_2, off_51_3, fld_51_3, sz_52, row_52, zero_52, by_52, str_52, pl_52, off_52_0, fld_52_0, off_52_1, fld_52_1, off_52_2, fld_52_2, off_52_3, fld_52_3, sz_56, row_56, zero_56, by_56, str_56, pl_56, off_56_0, fld_56_0, off_56_1, fld_56_1, off_56_2, fld_56_2, sz_57, row_57, zero_57, by_57, str_57, pl_57, off_57_0, fld_57_0, off_57_1, fld_57_1, off_57_2, fld_57_2, sz_70, row_70, zero_70, by_70, el_70, str_70, bs_70, sz_72, row_72, zero_72, by_72, str_72, pl_72, off_72_0, fld_72_0, off_72_1, fld_72_1, sz_74, row_74, zero_74, by_74, el_74, str_74, bs_74, sz_76, row_76, zero_76, by_76, str_76, pl_76, off_76_0, fld_76_0, off_76_1, fld_76_1, sz_88, row_88, zero_88, by_88, el_88, str_88, bs_88, sz_94, row_94, zero_94, by_94, str_94, asz_94, pl_94, arr_94, crun, rdcm_run, dDec]
  refine ⟨fun h0 => ?_, fun h0 => ?_⟩
  · have e : IntKind.u64.wrap n = n := by rw [IntKind.wrap_u64]; omega
    rw [e]
    exact ⟨⟨by omega, by omega⟩, by rw [numS, if_pos (by omega)]⟩
  · have hu0 : 0 ≤ IntKind.u64.wrap n := by rw [IntKind.wrap_u64]; omega
    have hu1 : IntKind.u64.wrap n < 18446744073709551616 := by rw [IntKind.wrap_u64]; omega
    have hnum : numS n = ofBytes (48 :: 120 :: hexL (IntKind.u64.wrap n) 16) := by rw [numS, if_neg (by omega)]
    rw [hnum]
    clear hnum
    generalize IntKind.u64.wrap n = u at *
    refine sw_loop (fun k => k ≤ 16) (rnumI u n) (fun k => 16 - k) 0 (by omega) ?_ ?_
    · refine Wk.ren [] rfl (by decide) ?_ ?_
      · simp [rnumI, tget, AV.ren, SV.ren, LV.ren, hexL]
        rfl
      · simp [rnumI]
    · intro k hk
      refine aRun_sound (ctx := []) 4000 ?_
      rw [show rnumI u n k = ⟨0, [(3, sv (ofBytes (hexL u k))), (4, .s (.l (.v (.int .u64 (u / 16 ^ k))))), (5, iv k), (0, iv n)], []⟩ from rfl]
      by_cases hlt : k < 16
      · have hlt' : (k : Int) < 16 := by omega
        simp only [aRun_nil, aRun_b, aRun_o0, aRun_o1, aRun_o2, aRun_skip, aRun_label, aRun_ret, aRun_seq, aRun_block, aRun_cond, aRun_region, aRun_exit, aRun_loop, aRun_draw, afterQ_normal, afterQ_exit, afterQ_ret, aEx_some, aEx_none, aCont_some, aCont_none, aBr_true, aBr_false, aBr_dec, aBr_not, aBr_beq, aBr_bne, aGd_yes, aGd_skip, aGd_tf, aGd_ft, aGd_dec_t, aGd_beq, aGd_bne, aGd_not, popTo, aDr_nil, aDr_one, aDr_yes, aDr_no, aDk_some, eOk, befOf, bindsE, Region.binds, bit, Hp, Nat.reduceOr, Nat.reducePow, Nat.reduceDiv, Nat.reduceMod, Nat.reduceBEq, Int.reduceBEq, Int.reduceBNe, Int.reduceEq, Int.reduceLT, Int.reduceLE, Int.reduceToNat, List.getD_cons_zero, List.getD_cons_succ, List.getD_nil, List.mem_cons, List.mem_singleton, List.not_mem_nil, roundQ_normal, roundQ_exit, roundQ_ret, runPlain, runFlat, dec1, slEls, take_map_len, aOp, evT, tget, putT, dstOk, gAt, setG, hget, aBin, aUn, aConv, aConvS, aLoad, aStore, aNew, aField, aIndexAt, fitsAt, aIndex, aSlice, bnd, aAppend, aLen, aFld, aMin, flatOf, flatLs, cellsOf, LV.one, Value.oneCell', fillL, splice, chunks, repL, aBuild, aBuildSlice, crun, zipT, retQ, aRet, rvsOf, rvOf, toSs, List.getElem?_cons_zero, List.getElem?_cons_succ, List.map_cons, List.map_nil, Option.map_some, Option.map_none, List.toList_toArray, List.size_toArray, flatArgs, Int.toNat_natCast, Option.isSome_some, AV.ren, SV.ren, LV.ren, Blk.ren, List.getElem?_map, reduceIte, reduceCtorEq, Nat.reduceEqDiff, Nat.reduceAdd, Nat.reduceLT, Nat.reduceLeDiff, Nat.reduceMul, Nat.reduceSub, decide_true, decide_false, true_and, and_true, forall_const, not_true_eq_false, not_false_eq_true, Bool.not_true, Bool.not_false, List.cons_append, List.nil_append, List.append_nil, forall_eq, eq_self, beq_iff_eq, decide_eq_true_eq, decide_eq_false_iff_not, beq_eq_false_iff_ne, ne_eq, bne_iff_ne, List.take_succ_cons, List.take_zero, List.drop_succ_cons, List.drop_zero, List.length_cons, List.length_nil, List.set_cons_zero, List.set_cons_succ, Option.some.injEq, true_or, or_true, false_or, or_false, implies_true, Bool.false_eq_true, Bool.true_eq_false, false_implies, and_self, Bool.and_true, Bool.true_and, Bool.and_self, Nat.zero_add, Nat.add_zero, sz_2, row_2, zero_2, by_2, str_2, kind_2, sz_3, row_3, zero_3, by_3, str_3, kind_3, sz_4, row_4, zero_4, by_4, str_4, sz_5, row_5, zero_5, by_5, str_5, kind_5, sz_9, row_9, zero_9, by_9, str_9, bs_9, sz_21, row_21, zero_21, by_21, str_21, kind_21, sz_22, row_22, zero_22, by_22, str_22, pl_22, off_22_0, fld_22_0, off_22_1, fld_22_1, off_22_2, fld_22_2, sz_23, row_23, zero_23, by_23, str_23, pl_23, off_23_0, fld_23_0, off_23_1, fld_23_1, off_23_2, fld_23_2, sz_25, row_25, zero_25, by_25, str_25, kind_25, sz_34, row_34, zero_34, by_34, el_34, str_34, bs_34, sz_46, row_46, zero_46, by_46, el_46, str_46, bs_46, sz_49, row_49, zero_49, by_49, el_49, str_49, bs_49, sz_50, row_50, zero_50, by_50, str_50, kind_50, sz_51, row_51, zero_51, by_51, str_51, pl_51, off_51_0, fld_51_0, off_51_1, fld_51_1, off_51_2, fld_51_2, off_51_3, fld_51_3, sz_52, row_52, zero_52, by_52, str_52, pl_52, off_52_0, fld_52_0, off_52_1, fld_52_1, off_52_2, fld_52_2, off_52_3, fld_52_3, sz_56, row_56, zero_56, by_56, str_56, pl_56, off_56_0, fld_56_0, off_56_1, fld_56_1, off_56_2, fld_56_2, sz_57, row_57, zero_57, by_57, str_57, pl_57, off_57_0, fld_57_0, off_57_1, fld_57_1, off_57_2, fld_57_2, sz_70, row_70, zero_70, by_70, el_70, str_70, bs_70, sz_72, row_72, zero_72, by_72, str_72, pl_72, off_72_0, fld_72_0, off_72_1, fld_72_1, sz_74, row_74, zero_74, by_74, el_74, str_74, bs_74, sz_76, row_76, zero_76, by_76, str_76, pl_76, off_76_0, fld_76_0, off_76_1, fld_76_1, sz_88, row_88, zero_88, by_88, el_88, str_88, bs_88, sz_94, row_94, zero_94, by_94, str_94, asz_94, pl_94, arr_94, hlt']
        obtain ⟨q0, q1⟩ := div_lt u k hu0 hu1
        have e1 : (u / 16 ^ k).tmod 16 = u / 16 ^ k % 16 := Int.tmod_eq_emod_of_nonneg q0
        have e2 : (u / 16 ^ k).tdiv 16 = u / 16 ^ (k + 1) := by rw [Int.tdiv_eq_ediv_of_nonneg q0, Int.pow_succ, Int.ediv_ediv_of_nonneg (Int.le_of_lt (Int.pow_pos (by decide)))]
        obtain ⟨r0, r1⟩ := div_lt u (k + 1) hu0 hu1
        have e3 : IntKind.u64.wrap (u / 16 ^ (k + 1)) = u / 16 ^ (k + 1) := by rw [IntKind.wrap_u64]; omega
        have e4 : IntKind.u64.wrap (u / 16 ^ k % 16 + 1) = u / 16 ^ k % 16 + 1 := by rw [IntKind.wrap_u64]; omega
        have e5 : IntKind.i64.wrap ((k : Int) + 1) = ((k + 1 : Nat) : Int) := by rw [IntKind.wrap_i64]; omega
        have e6 := byteAt_hexes (u / 16 ^ k % 16) (by omega) (by omega)
        have e7 : ofBytes [byteAt hexes (u / 16 ^ k % 16)] ++ ofBytes (hexL u k) = ofBytes (hexL u (k + 1)) := by rw [ofBytes_append]; rfl
        have e8 : (ofBytes [byteAt hexes (u / 16 ^ k % 16)]).size = 1 := rfl
        have e9 : (ofBytes (hexL u k)).size = k := by show (ofBytes (hexL u k)).data.size = k; simp [ofBytes, hexL_length]
        have hx : hexes.size = 16 := rfl
        rw [show (⟨#[48, 49, 50, 51, 52, 53, 54, 55, 56, 57, 97, 98, 99, 100, 101, 102]⟩ : ByteArray) = hexes from rfl]
        rw [e1, e4, e6, e8, e9, hx]
        refine ⟨⟨by omega, by omega, by omega⟩, by unfold maxLen; omega, k + 1, by omega, by omega, Wk.ren [] rfl (by decide) ?_ ?_⟩
        · simp [rnumI, tget, AV.ren, SV.ren, LV.ren, e2, e3, e5, e7]
        · simp [rnumI]
      · have hlt' : ¬ (k : Int) < 16 := by omega
        obtain rfl : k = 16 := by omega
        simp only [aRun_nil, aRun_b, aRun_o0, aRun_o1, aRun_o2, aRun_skip, aRun_label, aRun_ret, aRun_seq, aRun_block, aRun_cond, aRun_region, aRun_exit, aRun_loop, aRun_draw, afterQ_normal, afterQ_exit, afterQ_ret, aEx_some, aEx_none, aCont_some, aCont_none, aBr_true, aBr_false, aBr_dec, aBr_not, aBr_beq, aBr_bne, aGd_yes, aGd_skip, aGd_tf, aGd_ft, aGd_dec_t, aGd_beq, aGd_bne, aGd_not, popTo, aDr_nil, aDr_one, aDr_yes, aDr_no, aDk_some, eOk, befOf, bindsE, Region.binds, bit, Hp, Nat.reduceOr, Nat.reducePow, Nat.reduceDiv, Nat.reduceMod, Nat.reduceBEq, Int.reduceBEq, Int.reduceBNe, Int.reduceEq, Int.reduceLT, Int.reduceLE, Int.reduceToNat, List.getD_cons_zero, List.getD_cons_succ, List.getD_nil, List.mem_cons, List.mem_singleton, List.not_mem_nil, roundQ_normal, roundQ_exit, roundQ_ret, runPlain, runFlat, dec1, slEls, take_map_len, aOp, evT, tget, putT, dstOk, gAt, setG, hget, aBin, aUn, aConv, aConvS, aLoad, aStore, aNew, aField, aIndexAt, fitsAt, aIndex, aSlice, bnd, aAppend, aLen, aFld, aMin, flatOf, flatLs, cellsOf, LV.one, Value.oneCell', fillL, splice, chunks, repL, aBuild, aBuildSlice, crun, zipT, retQ, aRet, rvsOf, rvOf, toSs, List.getElem?_cons_zero, List.getElem?_cons_succ, List.map_cons, List.map_nil, Option.map_some, Option.map_none, List.toList_toArray, List.size_toArray, flatArgs, Int.toNat_natCast, Option.isSome_some, AV.ren, SV.ren, LV.ren, Blk.ren, List.getElem?_map, reduceIte, reduceCtorEq, Nat.reduceEqDiff, Nat.reduceAdd, Nat.reduceLT, Nat.reduceLeDiff, Nat.reduceMul, Nat.reduceSub, decide_true, decide_false, true_and, and_true, forall_const, not_true_eq_false, not_false_eq_true, Bool.not_true, Bool.not_false, List.cons_append, List.nil_append, List.append_nil, forall_eq, eq_self, beq_iff_eq, decide_eq_true_eq, decide_eq_false_iff_not, beq_eq_false_iff_ne, ne_eq, bne_iff_ne, List.take_succ_cons, List.take_zero, List.drop_succ_cons, List.drop_zero, List.length_cons, List.length_nil, List.set_cons_zero, List.set_cons_succ, Option.some.injEq, true_or, or_true, false_or, or_false, implies_true, Bool.false_eq_true, Bool.true_eq_false, false_implies, and_self, Bool.and_true, Bool.true_and, Bool.and_self, Nat.zero_add, Nat.add_zero, sz_2, row_2, zero_2, by_2, str_2, kind_2, sz_3, row_3, zero_3, by_3, str_3, kind_3, sz_4, row_4, zero_4, by_4, str_4, sz_5, row_5, zero_5, by_5, str_5, kind_5, sz_9, row_9, zero_9, by_9, str_9, bs_9, sz_21, row_21, zero_21, by_21, str_21, kind_21, sz_22, row_22, zero_22, by_22, str_22, pl_22, off_22_0, fld_22_0, off_22_1, fld_22_1, off_22_2, fld_22_2, sz_23, row_23, zero_23, by_23, str_23, pl_23, off_23_0, fld_23_0, off_23_1, fld_23_1, off_23_2, fld_23_2, sz_25, row_25, zero_25, by_25, str_25, kind_25, sz_34, row_34, zero_34, by_34, el_34, str_34, bs_34, sz_46, row_46, zero_46, by_46, el_46, str_46, bs_46, sz_49, row_49, zero_49, by_49, el_49, str_49, bs_49, sz_50, row_50, zero_50, by_50, str_50, kind_50, sz_51, row_51, zero_51, by_51, str_51, pl_51, off_51_0, fld_51_0, off_51_1, fld_51_1, off_51_2, fld_51_2, off_51_3, fld_51_3, sz_52, row_52, zero_52, by_52, str_52, pl_52, off_52_0, fld_52_0, off_52_1, fld_52_1, off_52_2, fld_52_2, off_52_3, fld_52_3, sz_56, row_56, zero_56, by_56, str_56, pl_56, off_56_0, fld_56_0, off_56_1, fld_56_1, off_56_2, fld_56_2, sz_57, row_57, zero_57, by_57, str_57, pl_57, off_57_0, fld_57_0, off_57_1, fld_57_1, off_57_2, fld_57_2, sz_70, row_70, zero_70, by_70, el_70, str_70, bs_70, sz_72, row_72, zero_72, by_72, str_72, pl_72, off_72_0, fld_72_0, off_72_1, fld_72_1, sz_74, row_74, zero_74, by_74, el_74, str_74, bs_74, sz_76, row_76, zero_76, by_76, str_76, pl_76, off_76_0, fld_76_0, off_76_1, fld_76_1, sz_88, row_88, zero_88, by_88, el_88, str_88, bs_88, sz_94, row_94, zero_94, by_94, str_94, asz_94, pl_94, arr_94, hlt']
        have e9 : (ofBytes (hexL u 16)).size = 16 := by show (ofBytes (hexL u 16)).data.size = 16; simp [ofBytes, hexL_length]
        have e1 : (⟨#[48, 120]⟩ : ByteArray) = ofBytes [48, 120] := rfl
        rw [e1, e9, ofBytes_append]
        exact ⟨by decide, rfl⟩

theorem hexL_get (u : Int) : ∀ (m j : Nat), j < m → (hexL u m)[j]? = some (hexD u (m - 1 - j))
  | m + 1, 0, _ => by simp [hexL]
  | m + 1, j + 1, h => by
    rw [hexL, List.getElem?_cons_succ, hexL_get u m j (by omega)]
    congr 2
    omega

def hexB (u : Int) (j : Nat) : List Int := 48 :: 120 :: (hexL u 16).take j
theorem hexB_length (u : Int) (j : Nat) (h : j ≤ 16) : (hexB u j).length = j + 2 := by simp [hexB, hexL_length]; omega
theorem hexB_next (u : Int) (j : Nat) (h : j < 16) : hexB u (j + 1) = hexB u j ++ [hexD u (15 - j)] := by
  unfold hexB
  rw [List.take_add_one, hexL_get u 16 j h]
  simp

def numI (n u : Int) (j : Nat) : St := ⟨1, [(3, slv 0 0 (j + 2)), (4, iv (15 - j)), (0, iv n)], [(0, some ⟨true, 5, 1, (hexB u j).map encByte⟩)]⟩

set_option maxHeartbeats 1000000 in
theorem number_sw (n : Int) (h : -9223372036854775808 ≤ n ∧ n < 9223372036854775808) : SW Try.prog Try.f41.ntmps (Try.f41.body.getD .skip) ⟨1, zipT 0 [iv n], []⟩ (retQ Try.prog Try.f41.results.toList (sv (numS n))) := by
  refine aRun_sound (ctx := [⟨_, dcmS⟩]) 4000 ?_
  rw [Try.ntmps41, Try.results41]
  simp only [Try.f41, Option.getD_some, zipT]
  simp only [aRun_nil, aRun_b, aRun_o0, aRun_o1, aRun_o2, aRun_skip, aRun_label, aRun_ret, aRun_seq, aRun_block, aRun_cond, aRun_region, aRun_exit, aRun_loop, aRun_draw, afterQ_normal, afterQ_exit, afterQ_ret, aEx_some, aEx_none, aCont_some, aCont_none, aBr_true, aBr_false, aBr_dec, aBr_not, aBr_beq, aBr_bne, aGd_yes, aGd_skip, aGd_tf, aGd_ft, aGd_dec_t, aGd_beq, aGd_bne, aGd_not, popTo, aDr_nil, aDr_one, aDr_yes, aDr_no, aDk_some, eOk, befOf, bindsE, Region.binds, bit, Hp, Nat.reduceOr, Nat.reducePow, Nat.reduceDiv, Nat.reduceMod, Nat.reduceBEq, Int.reduceBEq, Int.reduceBNe, Int.reduceEq, Int.reduceLT, Int.reduceLE, Int.reduceToNat, List.getD_cons_zero, List.getD_cons_succ, List.getD_nil, List.mem_cons, List.mem_singleton, List.not_mem_nil, roundQ_normal, roundQ_exit, roundQ_ret, runPlain, runFlat, dec1, slEls, take_map_len, aOp, evT, tget, putT, dstOk, gAt, setG, hget, aBin, aUn, aConv, aConvS, aLoad, aStore, aNew, aField, aIndexAt, fitsAt, aIndex, aSlice, bnd, aAppend, aLen, aFld, aMin, flatOf, flatLs, cellsOf, LV.one, Value.oneCell', fillL, splice, chunks, repL, aBuild, aBuildSlice, crun, zipT, retQ, aRet, rvsOf, rvOf, toSs, List.getElem?_cons_zero, List.getElem?_cons_succ, List.map_cons, List.map_nil, Option.map_some, Option.map_none, List.toList_toArray, List.size_toArray, flatArgs, Int.toNat_natCast, Option.isSome_some, AV.ren, SV.ren, LV.ren, Blk.ren, List.getElem?_map, reduceIte, reduceCtorEq, Nat.reduceEqDiff, Nat.reduceAdd, Nat.reduceLT, Nat.reduceLeDiff, Nat.reduceMul, Nat.reduceSub, decide_true, decide_false, true_and, and_true, forall_const, not_true_eq_false, not_false_eq_true, Bool.not_true, Bool.not_false, List.cons_append, List.nil_append, List.append_nil, forall_eq, eq_self, beq_iff_eq, decide_eq_true_eq, decide_eq_false_iff_not, beq_eq_false_iff_ne, ne_eq, bne_iff_ne, List.take_succ_cons, List.take_zero, List.drop_succ_cons, List.drop_zero, List.length_cons, List.length_nil, List.set_cons_zero, List.set_cons_succ, Option.some.injEq, true_or, or_true, false_or, or_false, implies_true, Bool.false_eq_true, Bool.true_eq_false, false_implies, and_self, Bool.and_true, Bool.true_and, Bool.and_self, Nat.zero_add, Nat.add_zero, sz_2, row_2, zero_2, by_2, str_2, kind_2, sz_3, row_3, zero_3, by_3, str_3, kind_3, sz_4, row_4, zero_4, by_4, str_4, sz_5, row_5, zero_5, by_5, str_5, kind_5, sz_9, row_9, zero_9, by_9, str_9, bs_9, sz_21, row_21, zero_21, by_21, str_21, kind_21, sz_22, row_22, zero_22, by_22, str_22, pl_22, off_22_0, fld_22_0, off_22_1, fld_22_1, off_22_2, fld_22_2, sz_23, row_23, zero_23, by_23, str_23, pl_23, off_23_0, fld_23_0, off_23_1, fld_23_1, off_23_2, fld_23_2, sz_25, row_25, zero_25, by_25, str_25, kind_25, sz_34, row_34, zero_34, by_34, el_34, str_34, bs_34, sz_46, row_46, zero_46, by_46, el_46, str_46, bs_46, sz_49, row_49, zero_49, by_49, el_49, str_49, bs_49, sz_50, row_50, zero_50, by_50, str_50, kind_50, sz_51, row_51, zero_51, by_51, str_51, pl_51, off_51_0, fld_51_0, off_51_1, fld_51_1, off_51_2, fld_51_2, off_51_3, fld_51_3, sz_52, row_52, zero_52, by_52, str_52, pl_52, off_52_0, fld_52_0, off_52_1, fld_52_1, off_52_2, fld_52_2, off_52_3, fld_52_3, sz_56, row_56, zero_56, by_56, str_56, pl_56, off_56_0, fld_56_0, off_56_1, fld_56_1, off_56_2, fld_56_2, sz_57, row_57, zero_57, by_57, str_57, pl_57, off_57_0, fld_57_0, off_57_1, fld_57_1, off_57_2, fld_57_2, sz_70, row_70, zero_70, by_70, el_70, str_70, bs_70, sz_72, row_72, zero_72, by_72, str_72, pl_72, off_72_0, fld_72_0, off_72_1, fld_72_1, sz_74, row_74, zero_74, by_74, el_74, str_74, bs_74, sz_76, row_76, zero_76, by_76, str_76, pl_76, off_76_0, fld_76_0, off_76_1, fld_76_1, sz_88, row_88, zero_88, by_88, el_88, str_88, bs_88, sz_94, row_94, zero_94, by_94, str_94, asz_94, pl_94, arr_94, crun, dcm_run, dDec]
  refine ⟨fun h0 => ?_, fun h0 => ?_⟩
  · have e : IntKind.u64.wrap n = n := by rw [IntKind.wrap_u64]; omega
    rw [e]
    exact ⟨⟨by omega, by omega⟩, by rw [numS, if_pos (by omega)]⟩
  · have hu0 : 0 ≤ IntKind.u64.wrap n := by rw [IntKind.wrap_u64]; omega
    have hu1 : IntKind.u64.wrap n < 18446744073709551616 := by rw [IntKind.wrap_u64]; omega
    have hnum : numS n = ofBytes (48 :: 120 :: hexL (IntKind.u64.wrap n) 16) := by rw [numS, if_neg (by omega)]
    rw [hnum]
    clear hnum
    obtain ⟨u, hu⟩ : ∃ u, IntKind.u64.wrap n = u := ⟨_, rfl⟩
    rw [hu] at hu0 hu1 ⊢
    refine sw_loop (fun j => j ≤ 16) (numI n u) (fun j => 16 - j) 0 (by omega) ?_ ?_
    · refine Wk.ren [49] rfl (by decide) ?_ ?_
      · simp [numI, tget, AV.ren, SV.ren, LV.ren]
      · simp [numI, hget, Blk.ren, hexB, encByte, LV.ren]
    · intro j hj
      refine aRun_sound (ctx := []) 4000 ?_
      rw [show numI n u j = ⟨1, [(3, slv 0 0 (j + 2)), (4, iv (15 - j)), (0, iv n)], [(0, some ⟨true, 5, 1, (hexB u j).map encByte⟩)]⟩ from rfl]
      by_cases hlt : j < 16
      · have hlt' : (15 : Int) - j ≥ 0 := by omega
        simp only [aRun_nil, aRun_b, aRun_o0, aRun_o1, aRun_o2, aRun_skip, aRun_label, aRun_ret, aRun_seq, aRun_block, aRun_cond, aRun_region, aRun_exit, aRun_loop, aRun_draw, afterQ_normal, afterQ_exit, afterQ_ret, aEx_some, aEx_none, aCont_some, aCont_none, aBr_true, aBr_false, aBr_dec, aBr_not, aBr_beq, aBr_bne, aGd_yes, aGd_skip, aGd_tf, aGd_ft, aGd_dec_t, aGd_beq, aGd_bne, aGd_not, popTo, aDr_nil, aDr_one, aDr_yes, aDr_no, aDk_some, eOk, befOf, bindsE, Region.binds, bit, Hp, Nat.reduceOr, Nat.reducePow, Nat.reduceDiv, Nat.reduceMod, Nat.reduceBEq, Int.reduceBEq, Int.reduceBNe, Int.reduceEq, Int.reduceLT, Int.reduceLE, Int.reduceToNat, List.getD_cons_zero, List.getD_cons_succ, List.getD_nil, List.mem_cons, List.mem_singleton, List.not_mem_nil, roundQ_normal, roundQ_exit, roundQ_ret, runPlain, runFlat, dec1, slEls, take_map_len, aOp, evT, tget, putT, dstOk, gAt, setG, hget, aBin, aUn, aConv, aConvS, aLoad, aStore, aNew, aField, aIndexAt, fitsAt, aIndex, aSlice, bnd, aAppend, aLen, aFld, aMin, flatOf, flatLs, cellsOf, LV.one, Value.oneCell', fillL, splice, chunks, repL, aBuild, aBuildSlice, crun, zipT, retQ, aRet, rvsOf, rvOf, toSs, List.getElem?_cons_zero, List.getElem?_cons_succ, List.map_cons, List.map_nil, Option.map_some, Option.map_none, List.toList_toArray, List.size_toArray, flatArgs, Int.toNat_natCast, Option.isSome_some, AV.ren, SV.ren, LV.ren, Blk.ren, List.getElem?_map, reduceIte, reduceCtorEq, Nat.reduceEqDiff, Nat.reduceAdd, Nat.reduceLT, Nat.reduceLeDiff, Nat.reduceMul, Nat.reduceSub, decide_true, decide_false, true_and, and_true, forall_const, not_true_eq_false, not_false_eq_true, Bool.not_true, Bool.not_false, List.cons_append, List.nil_append, List.append_nil, forall_eq, eq_self, beq_iff_eq, decide_eq_true_eq, decide_eq_false_iff_not, beq_eq_false_iff_ne, ne_eq, bne_iff_ne, List.take_succ_cons, List.take_zero, List.drop_succ_cons, List.drop_zero, List.length_cons, List.length_nil, List.set_cons_zero, List.set_cons_succ, Option.some.injEq, true_or, or_true, false_or, or_false, implies_true, Bool.false_eq_true, Bool.true_eq_false, false_implies, and_self, Bool.and_true, Bool.true_and, Bool.and_self, Nat.zero_add, Nat.add_zero, sz_2, row_2, zero_2, by_2, str_2, kind_2, sz_3, row_3, zero_3, by_3, str_3, kind_3, sz_4, row_4, zero_4, by_4, str_4, sz_5, row_5, zero_5, by_5, str_5, kind_5, sz_9, row_9, zero_9, by_9, str_9, bs_9, sz_21, row_21, zero_21, by_21, str_21, kind_21, sz_22, row_22, zero_22, by_22, str_22, pl_22, off_22_0, fld_22_0, off_22_1, fld_22_1, off_22_2, fld_22_2, sz_23, row_23, zero_23, by_23, str_23, pl_23, off_23_0, fld_23_0, off_23_1, fld_23_1, off_23_2, fld_23_2, sz_25, row_25, zero_25, by_25, str_25, kind_25, sz_34, row_34, zero_34, by_34, el_34, str_34, bs_34, sz_46, row_46, zero_46, by_46, el_46, str_46, bs_46, sz_49, row_49, zero_49, by_49, el_49, str_49, bs_49, sz_50, row_50, zero_50, by_50, str_50, kind_50, sz_51, row_51, zero_51, by_51, str_51, pl_51, off_51_0, fld_51_0, off_51_1, fld_51_1, off_51_2, fld_51_2, off_51_3, fld_51_3, sz_52, row_52, zero_52, by_52, str_52, pl_52, off_52_0, fld_52_0, off_52_1, fld_52_1, off_52_2, fld_52_2, off_52_3, fld_52_3, sz_56, row_56, zero_56, by_56, str_56, pl_56, off_56_0, fld_56_0, off_56_1, fld_56_1, off_56_2, fld_56_2, sz_57, row_57, zero_57, by_57, str_57, pl_57, off_57_0, fld_57_0, off_57_1, fld_57_1, off_57_2, fld_57_2, sz_70, row_70, zero_70, by_70, el_70, str_70, bs_70, sz_72, row_72, zero_72, by_72, str_72, pl_72, off_72_0, fld_72_0, off_72_1, fld_72_1, sz_74, row_74, zero_74, by_74, el_74, str_74, bs_74, sz_76, row_76, zero_76, by_76, str_76, pl_76, off_76_0, fld_76_0, off_76_1, fld_76_1, sz_88, row_88, zero_88, by_88, el_88, str_88, bs_88, sz_94, row_94, zero_94, by_94, str_94, asz_94, pl_94, arr_94, hlt', hu]
        obtain ⟨q0, q1⟩ := div_lt u (15 - j) hu0 hu1
        have e1 : IntKind.i64.wrap (4 * (15 - (j : Int))) = ((4 * (15 - j) : Nat) : Int) := by rw [IntKind.wrap_i64]; omega
        have e2 := shr_u64 u (15 - j) hu0 (by omega)
        have e3 := and15 (u / 16 ^ (15 - j)) q0 q1
        have e4 : IntKind.i64.wrap (15 - (j : Int) - 1) = 15 - ((j + 1 : Nat) : Int) := by rw [IntKind.wrap_i64]; omega
        have e5 : List.take (j + 2) (List.map encByte (hexB u j)) = List.map encByte (hexB u j) := List.take_of_length_le (by simp [hexB_length u j hj])
        rw [show IntKind.u64.bits = 64 from rfl, e1, e2, e3, show (⟨#[48, 49, 50, 51, 52, 53, 54, 55, 56, 57, 97, 98, 99, 100, 101, 102]⟩ : ByteArray) = hexes from rfl, show hexes.size = 16 from rfl, e4, e5]
        refine ⟨by omega, ⟨by omega, by omega⟩, ⟨by simp [hexB_length u j hj], by unfold maxLen; omega, by omega⟩, j + 1, by omega, by omega, Wk.ren [177] rfl (by decide) ?_ ?_⟩
        · simp [numI, tget, AV.ren, SV.ren, LV.ren]
        · simp [numI, hget, Blk.ren, hexB_next u j hlt, encByte, LV.ren, List.map_map, Function.comp_def, hexD]
      · have hlt' : ¬ (15 : Int) - j ≥ 0 := by omega
        obtain rfl : j = 16 := by omega
        have e5 : List.take 18 (List.map encByte (hexB u 16)) = List.map encByte (hexB u 16) := List.take_of_length_le (by simp [hexB_length u 16 hj])
        have e6 : decAll decByte (List.map encByte (hexB u 16)) = some (hexB u 16) := decAll_enc decByte_enc _
        simp only [aRun_nil, aRun_b, aRun_o0, aRun_o1, aRun_o2, aRun_skip, aRun_label, aRun_ret, aRun_seq, aRun_block, aRun_cond, aRun_region, aRun_exit, aRun_loop, aRun_draw, afterQ_normal, afterQ_exit, afterQ_ret, aEx_some, aEx_none, aCont_some, aCont_none, aBr_true, aBr_false, aBr_dec, aBr_not, aBr_beq, aBr_bne, aGd_yes, aGd_skip, aGd_tf, aGd_ft, aGd_dec_t, aGd_beq, aGd_bne, aGd_not, popTo, aDr_nil, aDr_one, aDr_yes, aDr_no, aDk_some, eOk, befOf, bindsE, Region.binds, bit, Hp, Nat.reduceOr, Nat.reducePow, Nat.reduceDiv, Nat.reduceMod, Nat.reduceBEq, Int.reduceBEq, Int.reduceBNe, Int.reduceEq, Int.reduceLT, Int.reduceLE, Int.reduceToNat, List.getD_cons_zero, List.getD_cons_succ, List.getD_nil, List.mem_cons, List.mem_singleton, List.not_mem_nil, roundQ_normal, roundQ_exit, roundQ_ret, runPlain, runFlat, dec1, slEls, take_map_len, aOp, evT, tget, putT, dstOk, gAt, setG, hget, aBin, aUn, aConv, aConvS, aLoad, aStore, aNew, aField, aIndexAt, fitsAt, aIndex, aSlice, bnd, aAppend, aLen, aFld, aMin, flatOf, flatLs, cellsOf, LV.one, Value.oneCell', fillL, splice, chunks, repL, aBuild, aBuildSlice, crun, zipT, retQ, aRet, rvsOf, rvOf, toSs, List.getElem?_cons_zero, List.getElem?_cons_succ, List.map_cons, List.map_nil, Option.map_some, Option.map_none, List.toList_toArray, List.size_toArray, flatArgs, Int.toNat_natCast, Option.isSome_some, AV.ren, SV.ren, LV.ren, Blk.ren, List.getElem?_map, reduceIte, reduceCtorEq, Nat.reduceEqDiff, Nat.reduceAdd, Nat.reduceLT, Nat.reduceLeDiff, Nat.reduceMul, Nat.reduceSub, decide_true, decide_false, true_and, and_true, forall_const, not_true_eq_false, not_false_eq_true, Bool.not_true, Bool.not_false, List.cons_append, List.nil_append, List.append_nil, forall_eq, eq_self, beq_iff_eq, decide_eq_true_eq, decide_eq_false_iff_not, beq_eq_false_iff_ne, ne_eq, bne_iff_ne, List.take_succ_cons, List.take_zero, List.drop_succ_cons, List.drop_zero, List.length_cons, List.length_nil, List.set_cons_zero, List.set_cons_succ, Option.some.injEq, true_or, or_true, false_or, or_false, implies_true, Bool.false_eq_true, Bool.true_eq_false, false_implies, and_self, Bool.and_true, Bool.true_and, Bool.and_self, Nat.zero_add, Nat.add_zero, sz_2, row_2, zero_2, by_2, str_2, kind_2, sz_3, row_3, zero_3, by_3, str_3, kind_3, sz_4, row_4, zero_4, by_4, str_4, sz_5, row_5, zero_5, by_5, str_5, kind_5, sz_9, row_9, zero_9, by_9, str_9, bs_9, sz_21, row_21, zero_21, by_21, str_21, kind_21, sz_22, row_22, zero_22, by_22, str_22, pl_22, off_22_0, fld_22_0, off_22_1, fld_22_1, off_22_2, fld_22_2, sz_23, row_23, zero_23, by_23, str_23, pl_23, off_23_0, fld_23_0, off_23_1, fld_23_1, off_23_2, fld_23_2, sz_25, row_25, zero_25, by_25, str_25, kind_25, sz_34, row_34, zero_34, by_34, el_34, str_34, bs_34, sz_46, row_46, zero_46, by_46, el_46, str_46, bs_46, sz_49, row_49, zero_49, by_49, el_49, str_49, bs_49, sz_50, row_50, zero_50, by_50, str_50, kind_50, sz_51, row_51, zero_51, by_51, str_51, pl_51, off_51_0, fld_51_0, off_51_1, fld_51_1, off_51_2, fld_51_2, off_51_3, fld_51_3, sz_52, row_52, zero_52, by_52, str_52, pl_52, off_52_0, fld_52_0, off_52_1, fld_52_1, off_52_2, fld_52_2, off_52_3, fld_52_3, sz_56, row_56, zero_56, by_56, str_56, pl_56, off_56_0, fld_56_0, off_56_1, fld_56_1, off_56_2, fld_56_2, sz_57, row_57, zero_57, by_57, str_57, pl_57, off_57_0, fld_57_0, off_57_1, fld_57_1, off_57_2, fld_57_2, sz_70, row_70, zero_70, by_70, el_70, str_70, bs_70, sz_72, row_72, zero_72, by_72, str_72, pl_72, off_72_0, fld_72_0, off_72_1, fld_72_1, sz_74, row_74, zero_74, by_74, el_74, str_74, bs_74, sz_76, row_76, zero_76, by_76, str_76, pl_76, off_76_0, fld_76_0, off_76_1, fld_76_1, sz_88, row_88, zero_88, by_88, el_88, str_88, bs_88, sz_94, row_94, zero_94, by_94, str_94, asz_94, pl_94, arr_94, hlt', e5, e6]
        refine ⟨by simp [hexB_length u 16 hj], ?_⟩
        rw [hexB, List.take_of_length_le (by simp [hexL_length])]

theorem en_number (args : Array Value) (w : World) : (callFunc 41 args).run Try.prog w = .ok (.enter 41 args) w := by go_simp
def numberS : Spec Try.prog 41 :=
  mkPlain _ _ _ Try.func41 rfl en_number dNum 1 (by rw [Try.ntmps41]; decide) (by
    intro vs ob r h hob
    unfold dNum at h
    split at h
    case h_2 => cases h
    injection h with h
    injection h with h1 h
    subst h
    subst h1
    exact ⟨rfl, _, rfl, number_sw _ hob⟩)
theorem number_run {id : Nat} {h : Heap} {args : List AV} : (numberS).run id h args = runPlain dNum 1 args := rfl
theorem en_rnumber (args : Array Value) (w : World) : (callFunc 43 args).run Try.prog w = .ok (.enter 43 args) w := by go_simp
def rnumberS : Spec Try.prog 43 :=
  mkPlain _ _ _ Try.func43 rfl en_rnumber dNum 1 (by rw [Try.ntmps43]; decide) (by
    intro vs ob r h hob
    unfold dNum at h
    split at h
    case h_2 => cases h
    injection h with h
    injection h with h1 h
    subst h
    subst h1
    exact ⟨rfl, _, rfl, rnumber_sw _ hob⟩)
theorem rnumber_run {id : Nat} {h : Heap} {args : List AV} : (rnumberS).run id h args = runPlain dNum 1 args := rfl

end Go.Proofs.Ythhlghoeapjagaa
