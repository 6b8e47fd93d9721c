/- Lines: the law on lines. -/
import Derived.Test.YtcdbldakjepjiaaDoorLH
import Derived.Test.YtcdbldakjepjiaaDoorLU
set_option linter.unusedVariables false
set_option linter.unusedSimpArgs false
namespace Go.Proofs.YtcdbldakjepjiaaDoor
open Go.RowKit
set_option maxRecDepth 100000

theorem tokensL_len : ∀ (N p : Nat) (l : List Int), l.length ≤ N → (tokensL p l).1.length ≤ l.length
  | N, p, l, hN => by
    cases hD : doneL (l.drop (runL blankB l)) with
    | true => rw [tokensL_done hD]; exact Nat.zero_le _
    | false =>
      have h1 : (l.drop (runL blankB l)).length ≠ 0 := fun e => by unfold doneL at hD; rw [e] at hD; simp at hD
      rw [List.length_drop] at h1
      rcases ho : oneL (l.drop (runL blankB l)) with e | ⟨t, n⟩
      · rw [tokensL_error hD ho]; exact Nat.zero_le _
      · rw [tokensL_ok hD ho]
        have hn := oneL_le (by rw [List.length_drop]; exact h1) ho
        rw [List.length_drop] at hn
        match N, hN with
        | 0, hN => exact absurd (by omega) h1
        | N + 1, hN =>
          have := tokensL_len N (p + runL blankB l + n) (l.drop (runL blankB l + n)) (by rw [List.length_drop]; omega)
          rw [List.length_drop] at this
          simp only [List.length_cons]
          omega
theorem lines_some (s : ByteArray) : ∃ (ts : List Tok) (n : Nat) (e : Int), linesF (toBytes s) = (ts, n, e) ∧ ts.length ≤ 512 ∧ (longL512 (toBytes s) = true → ts = [] ∧ e = 3) := by
  by_cases h : 512 < (toBytes s).length
  · exact ⟨[], 0, 3, by unfold linesF; rw [if_pos h], Nat.zero_le _, fun _ => ⟨rfl, rfl⟩⟩
  · have h1 := tokensL_len _ 0 (toBytes s) (Nat.le_refl _)
    refine ⟨(tokensL 0 (toBytes s)).1, (tokensL 0 (toBytes s)).2.1, (tokensL 0 (toBytes s)).2.2, by unfold linesF; rw [if_neg h], by omega, fun h4 => ?_⟩
    unfold longL512 at h4
    exact absurd (of_decide_eq_true h4) h

set_option maxHeartbeats 4000000 in
theorem lines_sw (s : ByteArray) (o : Int) (ho : 0 ≤ o ∧ o ≤ 255) : SW Tryd.prog ⟨none, 0⟩ Tryd.f4.ntmps (Tryd.f4.body.getD .skip) ⟨0, zipT 0 [tStr.enc s, (tInt .u8).enc o], []⟩ (outQ Tryd.prog Tryd.f4.results.toList (.ret (bv true))) := by
  refine aRun_sound (ctx := [⟨_, lexS⟩, ⟨_, rlexS⟩, ⟨_, rtokensS⟩, ⟨_, begunS⟩, ⟨_, eqToksS⟩, ⟨_, seqS⟩, ⟨_, toldS⟩]) 4000 ?_
  rw [Tryd.ntmps4, Tryd.results4]
  simp only [Tryd.f4, Option.getD_some, zipT]
  obtain ⟨ts, n, e, hl, hlen, hlong⟩ := lines_some s
  have ht1 : List.take 999 ts = ts := List.take_of_length_le (by omega)
  have hq : ts.length ≤ 1000000 := by omega
  have hl1 : (linesF (toBytes s)).1 = ts := by rw [hl]
  have ho0 : (0 : Int) ≤ o := ho.1
  have ew : IntKind.i64.wrap o = o := by rw [IntKind.wrap_i64]; omega
  have hnn : ((n : Int) == (n : Int)) = true := beq_self_eq_true _
  have hee : (e == e) = true := beq_self_eq_true _
  cases hx : longL512 (toBytes s) with
  | true =>
    obtain ⟨rfl, rfl⟩ := hlong hx
    have hsd : sliceD (D.v (.slice none 0 0)) = some [] := rfl
    have hoN : ¬ o < 0 := by omega
    have eL : lexO (linesF (toBytes s)) = .tup [nilSV, .l (.v (.int .i64 n)), .l (.v (.int .i64 3))] := by rw [hl]; rfl
    have eT : tokensO (linesF (toBytes s)) true = .tup [nilSV, .l (.v (.int .i64 n)), .l (.v (.int .i64 3))] := by rw [hl]; rfl
    simp only [declOf, veil, List.map_nil, Int.le_refl, List.length_map, retQ, retD, Int.cast_ofNat_Int, aRun_o0, aRun_o1, aRun_ret, aRun_seq, aRun_region, aRun_draw, afterQ_normal, aCont_some, aDr_nil, aDr_one, aDr_yes, aDk_some, eOk, befOf, bindsE, Region.binds, bit, Hp, Nat.reduceOr, Nat.reducePow, Nat.reduceDiv, Nat.reduceMod, Nat.reduceBEq, Int.reduceBEq, Int.reduceLE, Int.reduceToNat, aOp, evT, tget, putT, dstOk, gAt, aBin, aConv, bnd, aLen, aMin, flatOf, crun, List.getElem?_cons_zero, List.getElem?_cons_succ, List.map_cons, Option.map_some, Option.map_none, Int.toNat_natCast, Option.isSome_some, reduceIte, reduceCtorEq, Nat.reduceEqDiff, Nat.reduceAdd, Nat.reduceLT, Nat.reduceLeDiff, Nat.reduceMul, decide_true, true_and, and_true, List.cons_append, List.nil_append, List.append_nil, List.drop_zero, List.length_nil, Bool.false_eq_true, and_self, Bool.and_true, Bool.true_and, Bool.and_self, Nat.zero_add, Nat.add_zero, aSlice, aPanQ_none, aPan, cpan, calleeOf, ofD, ofDs, outQ_ret, rvOf, rvsOf, aRet, zipT, runP, panP, hides, mapT, AV.toD, SV.toD, LV.toD, args0, args1, args2, tInt, tStr, tSl, decAllD_map, decAllD, AV.plain, SV.plain, LV.plain, List.all_cons, List.all_nil, Int.natCast_nonneg, List.getD_eq_getElem?_getD, Option.getD_some, kind_3, row_5, el_23, sz_30, lex_run, lex_pan, rlex_run, rlex_pan, rtokens_run, rtokens_pan, hx, eL, eT, nilSV]
    refine sw_draw (ctx := [⟨_, begunS⟩, ⟨_, eqToksS⟩, ⟨_, seqS⟩, ⟨_, toldS⟩]) mixed [] (by kernel_rfl) ?_
    simp only [declOf, veil, List.map_nil, Int.le_refl, List.length_map, retQ, retD, Int.cast_ofNat_Int, aRun_o0, aRun_o1, aRun_ret, aRun_seq, aRun_region, aRun_draw, afterQ_normal, aCont_some, aDr_nil, aDr_one, aDr_yes, aDk_some, eOk, befOf, bindsE, Region.binds, bit, Hp, Nat.reduceOr, Nat.reducePow, Nat.reduceDiv, Nat.reduceMod, Nat.reduceBEq, Int.reduceBEq, Int.reduceLE, Int.reduceToNat, aOp, evT, tget, putT, dstOk, gAt, aBin, aConv, bnd, aLen, aMin, flatOf, crun, List.getElem?_cons_zero, List.getElem?_cons_succ, List.map_cons, Option.map_some, Option.map_none, Int.toNat_natCast, Option.isSome_some, reduceIte, reduceCtorEq, Nat.reduceEqDiff, Nat.reduceAdd, Nat.reduceLT, Nat.reduceLeDiff, Nat.reduceMul, decide_true, true_and, and_true, List.cons_append, List.nil_append, List.append_nil, List.drop_zero, List.length_nil, Bool.false_eq_true, and_self, Bool.and_true, Bool.true_and, Bool.and_self, Nat.zero_add, Nat.add_zero, aSlice, aPanQ_none, aPan, cpan, calleeOf, ofD, ofDs, outQ_ret, rvOf, rvsOf, aRet, zipT, runP, panP, hides, mapT, AV.toD, SV.toD, LV.toD, args0, args1, args2, tInt, tStr, tSl, decAllD_map, decAllD, AV.plain, SV.plain, LV.plain, List.all_cons, List.all_nil, Int.natCast_nonneg, List.getD_eq_getElem?_getD, Option.getD_some, kind_3, row_5, el_23, sz_30, seq_run, seq_pan, seqV, rowsD, told_run, told_pan, tSeq, hx, hl1, hsd, ht1, hq, ho0, hoN, ew, hnn, List.take_nil, toksV, begun_run, begun_pan, eqToks_run, eqToks_pan]
  | false =>
    have hsd : sliceD (D.sd 4 (ts.map tokR.enc)) = some ts := by simp only [sliceD, decAllD_map]
    have eT : tokensO (linesF (toBytes s)) false = .tup [toksV ts, .l (.v (.int .i64 n)), .l (.v (.int .i64 e))] := by rw [hl]; rfl
    have hmin : ∃ m : Nat, (if o < (ts.length : Int) then o else (ts.length : Int)) = m ∧ m ≤ ts.length ∧ ts.take o.toNat = ts.take m := by
      by_cases h : o < (ts.length : Int)
      · exact ⟨o.toNat, by rw [if_pos h]; omega, by omega, rfl⟩
      · exact ⟨ts.length, by rw [if_neg h], Nat.le_refl _, by rw [List.take_length, List.take_of_length_le (by omega)]⟩
    obtain ⟨m, hm1, hm2, hm3⟩ := hmin
    have hm2I : (m : Int) ≤ ts.length := by omega
    have hdk : decAllD tokR.dec (List.take (m - 0) (List.map tokR.enc ts)) = some (ts.take m) := by rw [Nat.sub_zero, ← List.map_take, decAllD_map]
    have hlo3 : (ts.take m).length ≤ 1000000 := by rw [List.length_take]; omega
    by_cases he : e = 0
    · have eL : lexO (linesF (toBytes s)) = .tup [toksV ts, .l (.v (.int .i64 n)), .l (.v (.int .i64 e))] := by rw [hl, he]; rfl
      simp only [declOf, veil, List.map_nil, Int.le_refl, List.length_map, retQ, retD, Int.cast_ofNat_Int, aRun_o0, aRun_o1, aRun_ret, aRun_seq, aRun_region, aRun_draw, afterQ_normal, aCont_some, aDr_nil, aDr_one, aDr_yes, aDk_some, eOk, befOf, bindsE, Region.binds, bit, Hp, Nat.reduceOr, Nat.reducePow, Nat.reduceDiv, Nat.reduceMod, Nat.reduceBEq, Int.reduceBEq, Int.reduceLE, Int.reduceToNat, aOp, evT, tget, putT, dstOk, gAt, aBin, aConv, bnd, aLen, aMin, flatOf, crun, List.getElem?_cons_zero, List.getElem?_cons_succ, List.map_cons, Option.map_some, Option.map_none, Int.toNat_natCast, Option.isSome_some, reduceIte, reduceCtorEq, Nat.reduceEqDiff, Nat.reduceAdd, Nat.reduceLT, Nat.reduceLeDiff, Nat.reduceMul, decide_true, true_and, and_true, List.cons_append, List.nil_append, List.append_nil, List.drop_zero, List.length_nil, Bool.false_eq_true, and_self, Bool.and_true, Bool.true_and, Bool.and_self, Nat.zero_add, Nat.add_zero, aSlice, aPanQ_none, aPan, cpan, calleeOf, ofD, ofDs, outQ_ret, rvOf, rvsOf, aRet, zipT, runP, panP, hides, mapT, AV.toD, SV.toD, LV.toD, args0, args1, args2, tInt, tStr, tSl, decAllD_map, decAllD, AV.plain, SV.plain, LV.plain, List.all_cons, List.all_nil, Int.natCast_nonneg, List.getD_eq_getElem?_getD, Option.getD_some, kind_3, row_5, el_23, sz_30, lex_run, lex_pan, rlex_run, rlex_pan, rtokens_run, rtokens_pan, hx, eL, eT, toksV]
      refine sw_draw (ctx := [⟨_, begunS⟩, ⟨_, eqToksS⟩, ⟨_, seqS⟩, ⟨_, toldS⟩]) mixed [] (by kernel_rfl) ?_
      simp only [declOf, veil, List.map_nil, Int.le_refl, List.length_map, retQ, retD, Int.cast_ofNat_Int, aRun_o0, aRun_o1, aRun_ret, aRun_seq, aRun_region, aRun_draw, afterQ_normal, aCont_some, aDr_nil, aDr_one, aDr_yes, aDk_some, eOk, befOf, bindsE, Region.binds, bit, Hp, Nat.reduceOr, Nat.reducePow, Nat.reduceDiv, Nat.reduceMod, Nat.reduceBEq, Int.reduceBEq, Int.reduceLE, Int.reduceToNat, aOp, evT, tget, putT, dstOk, gAt, aBin, aConv, bnd, aLen, aMin, flatOf, crun, List.getElem?_cons_zero, List.getElem?_cons_succ, List.map_cons, Option.map_some, Option.map_none, Int.toNat_natCast, Option.isSome_some, reduceIte, reduceCtorEq, Nat.reduceEqDiff, Nat.reduceAdd, Nat.reduceLT, Nat.reduceLeDiff, Nat.reduceMul, decide_true, true_and, and_true, List.cons_append, List.nil_append, List.append_nil, List.drop_zero, List.length_nil, Bool.false_eq_true, and_self, Bool.and_true, Bool.true_and, Bool.and_self, Nat.zero_add, Nat.add_zero, aSlice, aPanQ_none, aPan, cpan, calleeOf, ofD, ofDs, outQ_ret, rvOf, rvsOf, aRet, zipT, runP, panP, hides, mapT, AV.toD, SV.toD, LV.toD, args0, args1, args2, tInt, tStr, tSl, decAllD_map, decAllD, AV.plain, SV.plain, LV.plain, List.all_cons, List.all_nil, Int.natCast_nonneg, List.getD_eq_getElem?_getD, Option.getD_some, kind_3, row_5, el_23, sz_30, seq_run, seq_pan, seqV, rowsD, told_run, told_pan, tSeq, hx, hl1, hsd, ht1, hq, ho0, ew, hnn, hee, hm1, hm2I, hm3, hlo3, hdk, toksV, begun_run, begun_pan, eqToks_run, eqToks_pan]
    · have eL : lexO (linesF (toBytes s)) = .tup [nilSV, .l (.v (.int .i64 n)), .l (.v (.int .i64 e))] := by rw [hl]; unfold lexO; rw [if_neg he]
      simp only [declOf, veil, List.map_nil, Int.le_refl, List.length_map, retQ, retD, Int.cast_ofNat_Int, aRun_o0, aRun_o1, aRun_ret, aRun_seq, aRun_region, aRun_draw, afterQ_normal, aCont_some, aDr_nil, aDr_one, aDr_yes, aDk_some, eOk, befOf, bindsE, Region.binds, bit, Hp, Nat.reduceOr, Nat.reducePow, Nat.reduceDiv, Nat.reduceMod, Nat.reduceBEq, Int.reduceBEq, Int.reduceLE, Int.reduceToNat, aOp, evT, tget, putT, dstOk, gAt, aBin, aConv, bnd, aLen, aMin, flatOf, crun, List.getElem?_cons_zero, List.getElem?_cons_succ, List.map_cons, Option.map_some, Option.map_none, Int.toNat_natCast, Option.isSome_some, reduceIte, reduceCtorEq, Nat.reduceEqDiff, Nat.reduceAdd, Nat.reduceLT, Nat.reduceLeDiff, Nat.reduceMul, decide_true, true_and, and_true, List.cons_append, List.nil_append, List.append_nil, List.drop_zero, List.length_nil, Bool.false_eq_true, and_self, Bool.and_true, Bool.true_and, Bool.and_self, Nat.zero_add, Nat.add_zero, aSlice, aPanQ_none, aPan, cpan, calleeOf, ofD, ofDs, outQ_ret, rvOf, rvsOf, aRet, zipT, runP, panP, hides, mapT, AV.toD, SV.toD, LV.toD, args0, args1, args2, tInt, tStr, tSl, decAllD_map, decAllD, AV.plain, SV.plain, LV.plain, List.all_cons, List.all_nil, Int.natCast_nonneg, List.getD_eq_getElem?_getD, Option.getD_some, kind_3, row_5, el_23, sz_30, lex_run, lex_pan, rlex_run, rlex_pan, rtokens_run, rtokens_pan, hx, eL, eT, nilSV, toksV]
      refine sw_draw (ctx := [⟨_, begunS⟩, ⟨_, eqToksS⟩, ⟨_, seqS⟩, ⟨_, toldS⟩]) mixed [] (by kernel_rfl) ?_
      simp only [declOf, veil, List.map_nil, Int.le_refl, List.length_map, retQ, retD, Int.cast_ofNat_Int, aRun_o0, aRun_o1, aRun_ret, aRun_seq, aRun_region, aRun_draw, afterQ_normal, aCont_some, aDr_nil, aDr_one, aDr_yes, aDk_some, eOk, befOf, bindsE, Region.binds, bit, Hp, Nat.reduceOr, Nat.reducePow, Nat.reduceDiv, Nat.reduceMod, Nat.reduceBEq, Int.reduceBEq, Int.reduceLE, Int.reduceToNat, aOp, evT, tget, putT, dstOk, gAt, aBin, aConv, bnd, aLen, aMin, flatOf, crun, List.getElem?_cons_zero, List.getElem?_cons_succ, List.map_cons, Option.map_some, Option.map_none, Int.toNat_natCast, Option.isSome_some, reduceIte, reduceCtorEq, Nat.reduceEqDiff, Nat.reduceAdd, Nat.reduceLT, Nat.reduceLeDiff, Nat.reduceMul, decide_true, true_and, and_true, List.cons_append, List.nil_append, List.append_nil, List.drop_zero, List.length_nil, Bool.false_eq_true, and_self, Bool.and_true, Bool.true_and, Bool.and_self, Nat.zero_add, Nat.add_zero, aSlice, aPanQ_none, aPan, cpan, calleeOf, ofD, ofDs, outQ_ret, rvOf, rvsOf, aRet, zipT, runP, panP, hides, mapT, AV.toD, SV.toD, LV.toD, args0, args1, args2, tInt, tStr, tSl, decAllD_map, decAllD, AV.plain, SV.plain, LV.plain, List.all_cons, List.all_nil, Int.natCast_nonneg, List.getD_eq_getElem?_getD, Option.getD_some, kind_3, row_5, el_23, sz_30, seq_run, seq_pan, seqV, rowsD, told_run, told_pan, tSeq, hx, hl1, hsd, ht1, hq, ho0, ew, hnn, hee, hm1, hm2I, hm3, hlo3, hdk, toksV, begun_run, begun_pan, eqToks_run, eqToks_pan]

end Go.Proofs.YtcdbldakjepjiaaDoor
