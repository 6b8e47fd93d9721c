/- Functions of Go's package strings: Count and Index at one byte, Split. -/
import Derived.Test.YtkjkogmnijfanaaDoorChecked
import Derived.Test.YtkjkogmnijfanaaDoorTyU
import Derived.Test.YtkjkogmnijfanaaDoorB0
import Derived.Lib.Strings
import Derived.Lib.Slices
import Derived.Lib.Walk
set_option linter.unusedVariables false
set_option linter.unusedSimpArgs false
namespace Go.Proofs.YtkjkogmnijfanaaDoor
open Go.RowKit

theorem one_byte {p : ByteArray} (h : p.size = 1) : p = ⟨#[hdU p]⟩ := by
  have h1 : p.data.toList.length = 1 := by simpa using h
  apply ByteArray.ext
  rw [← Array.toList_inj]
  unfold hdU
  cases hd : p.data.toList with
  | nil => rw [hd] at h1; cases h1
  | cons x l =>
    cases l with
    | nil => rfl
    | cons _ _ => rw [hd] at h1; simp at h1

set_option maxHeartbeats 1000000 in
set_option maxRecDepth 100000 in
theorem count_any (s : ByteArray) (c : UInt8) (w : World) :
    Calls Tryd.prog 50 #[.string s, .string ⟨#[c]⟩] w fun e w' => e = .returned (.int .i64 (Lib.countByte s.data.toList c)) ∧ w' = w := by
  go_enter Tryd.func50, Tryd.ntmps50
  go_wp2
  rw [run_callFunc_extern Tryd.func54 (by kernel_rfl) (by kernel_rfl) (by kernel_rfl) (e := Extern.BytealgCount.count) (by kernel_rfl), Lib.run_countString]
  simp only [Result.andThen]
  rw [Oper.upon_value]
  go_wp2
  go_ret
  exact ⟨rfl, rfl⟩

set_option maxHeartbeats 1000000 in
set_option maxRecDepth 100000 in
theorem indexByte_any (s : ByteArray) (c : Int) (w : World) :
    Calls Tryd.prog 57 #[.string s, .int .u8 c] w fun e w' => e = .returned (.int .i64 (Lib.indexByte s.data.toList c.toNat.toUInt8)) ∧ w' = w := by
  go_enter Tryd.func57, Tryd.ntmps57
  go_wp2
  rw [run_callFunc_extern Tryd.func61 (by kernel_rfl) (by kernel_rfl) (by kernel_rfl) (e := Extern.BytealgIndexByte.indexByte) (by kernel_rfl), Lib.run_indexByteString]
  simp only [Result.andThen]
  rw [Oper.upon_value]
  go_wp2
  go_ret
  exact ⟨rfl, rfl⟩

set_option maxHeartbeats 2000000 in
set_option maxRecDepth 100000 in
theorem indexLite_any (s : ByteArray) (c : UInt8) (w : World) :
    Calls Tryd.prog 55 #[.string s, .string ⟨#[c]⟩] w fun e w' => e = .returned (.int .i64 (Lib.indexByte s.data.toList c)) ∧ w' = w := by
  go_enter Tryd.func55, Tryd.ntmps55
  go_wp2_with (go_at_call 57; refine (indexByte_any _ _ _).mono ?_; rintro e w' ⟨rfl, rfl⟩)
  · have h : ([c] == s.toList) = true := by assumption
    go_ret
    refine ⟨?_, rfl⟩
    have e : s.data.toList = [c] := by rw [← Lib.toList_data]; exact (beq_iff_eq.1 h).symm
    rw [e]
    simp [Lib.indexByte]
  · go_ret
    exact ⟨rfl, rfl⟩

theorem en_count (args : Array Value) (w : World) : (callFunc 50 args).run Tryd.prog w = .ok (.enter 50 args) w := by go_simp
def countS : Spec Tryd.prog 50 :=
  mk2C _ en_count tStr tStr (fun _ p => p.size = 1) (fun s p => iv (((splitF s p).length : Int) - 1)) (fun _ _ => rfl) (fun s p hp M w u v _ hu hv => by
    have hu' : u = .string s := hu
    have hv' : v = .string p := hv
    subst hu'
    subst hv'
    rw [one_byte hp]
    refine (count_any s (hdU p) w).mono ?_
    rintro e w' ⟨rfl, rfl⟩
    refine ⟨⟨_, rfl, ?_⟩, .refl _ _⟩
    rw [← one_byte hp, splitF_len]
    show _ = _
    congr 1
    unfold Lib.countByte
    omega)
theorem count_run {id : Nat} {h : Heap} {args : List AV} : countS.run id h args = runP (args2 tStr tStr (fun _ p => p.size = 1)) (fun x => .ret (iv (((splitF x.1 x.2).length : Int) - 1))) h args := rfl
theorem count_pan {id : Nat} {h : Heap} {args : List AV} : countS.pan id h args = panP (args2 tStr tStr (fun _ p => p.size = 1)) (fun x => .ret (iv (((splitF x.1 x.2).length : Int) - 1))) h args := rfl

theorem en_ixl (args : Array Value) (w : World) : (callFunc 55 args).run Tryd.prog w = .ok (.enter 55 args) w := by go_simp
def ixlS : Spec Tryd.prog 55 :=
  mk2C _ en_ixl tStr tStr (fun _ p => p.size = 1) (fun s p => iv (Lib.indexByte s.data.toList (hdU p))) (fun _ _ => rfl) (fun s p hp M w u v _ hu hv => by
    have hu' : u = .string s := hu
    have hv' : v = .string p := hv
    subst hu'
    subst hv'
    have e1 := one_byte hp
    generalize hdU p = c at *
    subst e1
    refine (indexLite_any s c w).mono ?_
    rintro e w' ⟨rfl, rfl⟩
    exact ⟨⟨_, rfl, rfl⟩, .refl _ _⟩)
theorem ixl_run {id : Nat} {h : Heap} {args : List AV} : ixlS.run id h args = runP (args2 tStr tStr (fun _ p => p.size = 1)) (fun x => .ret (iv (Lib.indexByte x.1.data.toList (hdU x.2)))) h args := rfl
theorem ixl_pan {id : Nat} {h : Heap} {args : List AV} : ixlS.pan id h args = panP (args2 tStr tStr (fun _ p => p.size = 1)) (fun x => .ret (iv (Lib.indexByte x.1.data.toList (hdU x.2)))) h args := rfl

theorem en_index (args : Array Value) (w : World) : (callFunc 51 args).run Tryd.prog w = .ok (.enter 51 args) w := by go_simp
def indexS : Spec Tryd.prog 51 :=
  mk2 _ _ _ Tryd.func51 rfl en_index (tStr) (tStr) ((fun _ p => p.size = 1)) ((fun s p => .ret (iv (Lib.indexByte s.data.toList (hdU p))))) (by rw [Tryd.ntmps51]; decide) (fun s p hp => by
  refine aRun_sound (ctx := [⟨_, ixlS⟩]) 4000 ?_
  rw [Tryd.ntmps51, Tryd.results51]
  simp only [Tryd.f51, Option.getD_some, zipT]
  simp only [aMake, aRun_range, declOf, veil, List.map_nil, roundQ_panic, afterQ_panic, Nat.le_refl, Int.le_refl, take_map1, take_map2, List.take_length, List.length_map, retQ, retD, Int.cast_ofNat_Int, aRun_nil, aRun_b, aRun_o0, aRun_o1, aRun_o2, aRun_skip, aRun_label, aRun_ret, aRun_seq, aRun_block, aRun_cond, aRun_region, aRun_exit, aRun_loop, aRun_draw, afterQ_normal, afterQ_exit, afterQ_ret, aEx_some, aEx_none, aCont_some, aCont_none, aBr_true, aBr_false, aBr_dec, aBr_not, aBr_beq, aBr_bne, aGd_yes, aGd_skip, aGd_tf, aGd_ft, aGd_dec_t, aGd_beq, aGd_bne, aGd_not, popTo, aDr_nil, aDr_one, aDr_yes, aDr_no, aDk_some, eOk, befOf, bindsE, Region.binds, bit, Hp, Nat.reduceOr, Nat.reducePow, Nat.reduceDiv, Nat.reduceMod, Nat.reduceBEq, Int.reduceBEq, Int.reduceBNe, Int.reduceEq, Int.reduceLT, Int.reduceLE, Int.reduceToNat, List.getD_cons_zero, List.getD_cons_succ, List.getD_nil, List.mem_cons, List.mem_singleton, List.not_mem_nil, roundQ_normal, roundQ_exit, roundQ_ret, aOp, evT, tget, putT, dstOk, gAt, setG, hget, aBin, aUn, aConv, aConvS, aLoad, aStore, aNew, aField, aIndexAt, fitsAt, aIndex, bnd, aAppend, aLen, aFld, aMin, flatOf, flatLs, cellsOf, LV.one, Value.oneCell', fillL, splice, chunks, repL, aBuild, aBuildSlice, crun, List.getElem?_cons_zero, List.getElem?_cons_succ, List.map_cons, List.map_nil, Option.map_some, Option.map_none, List.toList_toArray, List.size_toArray, Int.toNat_natCast, Option.isSome_some, List.getElem?_map, reduceIte, reduceCtorEq, Nat.reduceEqDiff, Nat.reduceAdd, Nat.reduceLT, Nat.reduceLeDiff, Nat.reduceMul, Nat.reduceSub, decide_true, decide_false, true_and, and_true, forall_const, not_true_eq_false, not_false_eq_true, Bool.not_true, Bool.not_false, List.cons_append, List.nil_append, List.append_nil, forall_eq, eq_self, beq_iff_eq, decide_eq_true_eq, decide_eq_false_iff_not, beq_eq_false_iff_ne, ne_eq, bne_iff_ne, List.take_succ_cons, List.take_zero, List.drop_succ_cons, List.drop_zero, List.length_cons, List.length_nil, List.set_cons_zero, List.set_cons_succ, Option.some.injEq, true_or, or_true, false_or, or_false, implies_true, Bool.false_eq_true, Bool.true_eq_false, false_implies, and_self, Bool.and_true, Bool.true_and, Bool.and_self, Nat.zero_add, Nat.add_zero, aSlice, aPanQ_none, aPanQ_some, aPan, cpan, calleeOf, aNil, aNilOp, caught, oneOf, D.one, LV.toD0, toDs0, srcOf, ofD, ofDs, outQ_normal, outQ_ret, outQ_panic, outR_normal, outR_ret, outR_panic, endQ_normal, endQ_ret, endQ_panic, rvOf, rvsOf, toSs, aRet, zipT, zipH, zipO, runP, panP, hides, mapT, AV.toD, SV.toD, LV.toD, mapT_ofDs, rows_ofDs, toD_ofD, toDs0_ofDs, args0, args1, args2, args3, args4, tInt, tBool, tStr, tFn, tD, tSl, tAgg, rInt, rStr, decAllD_map, decAllD, AV.plain, SV.plain, LV.plain, List.all_cons, List.all_nil, runR, panR, renH, gOf, AV.ren, SV.ren, LV.ren_v, LV.ren_d, LV.ren_sl, LV.ren_p, LV.ren_any, Blk.ren, rows_ren, ofDs_ren, ofD_ren, List.append_assoc, Int.natCast_nonneg, ge_iff_le, gt_iff_lt, List.getD_eq_getElem?_getD, Option.getD_some, PO.ret.injEq, exists_eq_left, exists_eq_left', exists_and_left, exists_const, kt_1, sz_1, row_1, sz_2, row_2, zero_2, by_2, str_2, kind_2, cc_2, kt_2, sz_3, row_3, zero_3, by_3, str_3, kind_3, cc_3, kt_3, sz_4, row_4, zero_4, by_4, str_4, cc_4, kt_4, sz_5, row_5, zero_5, by_5, str_5, kind_5, cc_5, kt_5, sz_7, row_7, zero_7, by_7, str_7, cc_7, kt_7, pl_7, off_7_0, fld_7_0, off_7_1, fld_7_1, off_7_2, fld_7_2, off_7_3, fld_7_3, sz_9, row_9, zero_9, by_9, str_9, bs_9, cc_9, kt_9, sz_12, row_12, zero_12, by_12, str_12, kind_12, cc_12, kt_12, sz_13, row_13, zero_13, by_13, str_13, cc_13, kt_13, pl_13, off_13_0, fld_13_0, off_13_1, fld_13_1, sz_15, row_15, zero_15, by_15, str_15, cc_15, und_15, kt_15, sz_16, row_16, zero_16, by_16, str_16, cc_16, und_16, kt_16, sz_17, row_17, zero_17, by_17, str_17, cc_17, und_17, kt_17, sz_18, row_18, zero_18, by_18, str_18, cc_18, kt_18, pl_18, off_18_0, fld_18_0, sz_20, row_20, zero_20, by_20, str_20, cc_20, kt_20, sz_21, row_21, zero_21, by_21, str_21, kind_21, cc_21, kt_21, sz_22, row_22, zero_22, by_22, str_22, cc_22, kt_22, pl_22, off_22_0, fld_22_0, off_22_1, fld_22_1, off_22_2, fld_22_2, sz_23, row_23, zero_23, by_23, str_23, cc_23, kt_23, pl_23, off_23_0, fld_23_0, off_23_1, fld_23_1, off_23_2, fld_23_2, kt_24, sz_24, row_24, sz_25, row_25, zero_25, by_25, str_25, kind_25, cc_25, kt_25, kt_27, sz_27, row_27, kt_29, sz_29, row_29, kt_30, sz_30, row_30, sz_31, row_31, zero_31, by_31, el_31, str_31, bs_31, cc_31, und_31, kt_31, kt_32, sz_32, row_32, sz_34, row_34, zero_34, by_34, str_34, cc_34, kt_34, pl_34, off_34_0, fld_34_0, off_34_1, fld_34_1, sz_35, row_35, zero_35, by_35, str_35, cc_35, kt_35, pl_35, off_35_0, fld_35_0, off_35_1, fld_35_1, kt_36, sz_36, row_36, kt_38, sz_38, row_38, kt_39, sz_39, row_39, kt_40, sz_40, row_40, kt_41, sz_41, row_41, kt_42, sz_42, row_42, kt_44, sz_44, row_44, kt_46, sz_46, row_46, kt_47, sz_47, row_47, kt_48, sz_48, row_48, sz_49, row_49, zero_49, by_49, str_49, cc_49, kt_49, kt_50, sz_50, row_50, kt_51, sz_51, row_51, kt_53, sz_53, row_53, kt_54, sz_54, row_54, sz_55, row_55, zero_55, by_55, el_55, str_55, bs_55, cc_55, und_55, kt_55, kt_56, sz_56, row_56, sz_57, row_57, zero_57, by_57, str_57, cc_57, kt_57, pl_57, off_57_0, fld_57_0, off_57_1, fld_57_1, sz_58, row_58, zero_58, by_58, str_58, cc_58, kt_58, pl_58, off_58_0, fld_58_0, off_58_1, fld_58_1, kt_59, sz_59, row_59, sz_60, row_60, zero_60, by_60, str_60, cc_60, und_60, kt_60, asz_60, pl_60, arr_60, sz_61, row_61, zero_61, by_61, el_61, str_61, bs_61, cc_61, und_61, kt_61, kt_62, sz_62, row_62, sz_63, row_63, zero_63, by_63, el_63, str_63, bs_63, cc_63, und_63, kt_63, kt_64, sz_64, row_64, sz_65, row_65, zero_65, by_65, str_65, cc_65, und_65, kt_65, asz_65, pl_65, arr_65, sz_66, row_66, zero_66, by_66, str_66, cc_66, und_66, kt_66, asz_66, pl_66, arr_66, kt_67, sz_67, row_67, kt_68, sz_68, row_68, sz_69, row_69, zero_69, by_69, str_69, kind_69, cc_69, kt_69, kt_70, sz_70, row_70, kt_71, sz_71, row_71, kt_72, sz_72, row_72, kt_73, sz_73, row_73, kt_74, sz_74, row_74, kt_76, sz_76, row_76, kt_77, sz_77, row_77, kt_78, sz_78, row_78, sz_79, row_79, by_79, str_79, cc_79, und_79, kt_79, asz_79, pl_79, arr_79, sz_80, row_80, zero_80, by_80, str_80, cc_80, kt_80, pl_80, off_80_0, fld_80_0, off_80_1, fld_80_1, sz_81, row_81, zero_81, by_81, str_81, cc_81, kt_81, pl_81, off_81_0, fld_81_0, off_81_1, fld_81_1, sz_82, row_82, zero_82, by_82, str_82, cc_82, und_82, kt_82, asz_82, pl_82, arr_82, sz_83, row_83, zero_83, by_83, str_83, kind_83, cc_83, kt_83, kt_85, sz_85, row_85, kt_86, sz_86, row_86, sz_87, row_87, zero_87, by_87, str_87, cc_87, kt_87, pl_87, off_87_0, fld_87_0, off_87_1, fld_87_1, off_87_2, fld_87_2, off_87_3, fld_87_3, sz_89, row_89, by_89, str_89, cc_89, und_89, kt_89, asz_89, pl_89, sz_90, row_90, by_90, str_90, cc_90, kt_90, pl_90, kt_92, sz_92, row_92, kt_95, sz_95, row_95, sz_96, row_96, zero_96, by_96, str_96, cc_96, und_96, kt_96, sz_99, row_99, zero_99, by_99, str_99, cc_99, kt_99, pl_99, off_99_0, fld_99_0, off_99_1, fld_99_1, off_99_2, fld_99_2, off_99_3, fld_99_3, off_99_4, fld_99_4, off_99_5, fld_99_5, off_99_6, fld_99_6, off_99_7, fld_99_7, off_99_8, fld_99_8, off_99_9, fld_99_9, off_99_10, fld_99_10, sz_101, row_101, zero_101, by_101, str_101, cc_101, kt_101, ixl_run, ixl_pan, hp])
theorem index_run {id : Nat} {h : Heap} {args : List AV} : (indexS).run id h args = runP (args2 (tStr) (tStr) ((fun _ p => p.size = 1))) (fun x => ((fun s p => .ret (iv (Lib.indexByte s.data.toList (hdU p))))) x.1 x.2) h args := rfl
theorem index_pan {id : Nat} {h : Heap} {args : List AV} : (indexS).pan id h args = panP (args2 (tStr) (tStr) ((fun _ p => p.size = 1))) (fun x => ((fun s p => .ret (iv (Lib.indexByte s.data.toList (hdU p))))) x.1 x.2) h args := rfl

end Go.Proofs.YtkjkogmnijfanaaDoor
