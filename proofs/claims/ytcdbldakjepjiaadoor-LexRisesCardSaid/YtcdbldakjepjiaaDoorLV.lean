/- Lines: the law on places. -/
import Derived.Test.YtcdbldakjepjiaaDoorLU
import Derived.Test.YtcdbldakjepjiaaDoorLR
set_option linter.unusedVariables false
set_option linter.unusedSimpArgs false
namespace Go.Proofs.YtcdbldakjepjiaaDoor
open Go.RowKit
set_option maxRecDepth 100000

/-- what a line's tokens are, with all that is known of them -/
theorem lines_facts (s : ByteArray) : ∃ (ts : List Tok) (n : Nat) (e : Int), linesF (toBytes s) = (ts, n, e) ∧ ts.length ≤ 512 ∧ n ≤ s.size ∧ Rises s.size 0 ts ∧ (longL512 (toBytes s) = true → ts = [] ∧ e = 3) := by
  have hL : (toBytes s).length = s.size := toBytes_length s
  by_cases h : 512 < (toBytes s).length
  · exact ⟨[], 0, 3, by unfold linesF; rw [if_pos h], Nat.zero_le _, Nat.zero_le _, trivial, fun _ => ⟨rfl, rfl⟩⟩
  · obtain ⟨ts, n, e, hts⟩ : ∃ ts n e, tokensL 0 (toBytes s) = (ts, n, e) := ⟨_, _, _, rfl⟩
    have hts' : tokensL 0 ((toBytes s).drop 0) = (ts, n, e) := by rw [List.drop_zero]; exact hts
    have h1 := tokens_good ts 0 n e (Nat.zero_le _) hts'
    have h2 := tokens_rise (fun z hz => toBytes_range hz) (by omega) ts 0 n e (Nat.zero_le _) hts'
    have h3 := tokens_place (l := toBytes s) (toBytes s).length 0 (by omega) (Nat.zero_le _)
    rw [hts'] at h3
    refine ⟨ts, n, e, by unfold linesF; rw [if_neg h, hts], by omega, by rw [← hL]; exact h3, by rw [← hL]; exact h2, fun h4 => ?_⟩
    unfold longL512 at h4
    exact absurd (of_decide_eq_true h4) h

theorem rises_drop {len : Nat} : ∀ {ts : List Tok} {p i : Nat} {t : Tok}, Rises len p ts → ts[i]? = some t → (checkT t = 0 ∧ t.text.size ≤ 512) ∧ ∃ a : Nat, t.pos = (a : Int) ∧ a < len
  | [], _, _, _, _, h => by simp at h
  | t0 :: ts, p, 0, t, h, ht => by
    simp at ht
    subst ht
    obtain ⟨h1, a, h2, h3, h4, h5⟩ := h
    exact ⟨h1, a, h2, h4⟩
  | t0 :: ts, p, i + 1, t, h, ht => by
    obtain ⟨h1, a, h2, h3, h4, h5⟩ := h
    exact rises_drop h5 (by simpa using ht)
theorem rises_next {len p : Nat} {ts : List Tok} {i : Nat} {t : Tok} (h : Rises len p (ts.drop i)) (ht : ts[i]? = some t) : checkT t = 0 ∧ t.text.size ≤ 512 ∧ ∃ a : Nat, t.pos = (a : Int) ∧ p ≤ a ∧ a < len ∧ Rises len (a + 1) (ts.drop (i + 1)) := by
  have hi := (List.getElem?_eq_some_iff.1 ht).1
  have e : ts.drop i = t :: ts.drop (i + 1) := by
    rw [List.drop_eq_getElem_cons hi]
    rw [List.getElem?_eq_getElem hi] at ht
    injection ht with ht
    rw [ht]
  rw [e] at h
  obtain ⟨⟨h1, h1'⟩, a, h2, h3, h4, h5⟩ := h
  exact ⟨h1, h1', a, h2, h3, h4, h5⟩

set_option maxHeartbeats 4000000 in
theorem rises_sw (s : ByteArray) : SW Tryd.prog ⟨none, 0⟩ Tryd.f5.ntmps (Tryd.f5.body.getD .skip) ⟨0, zipT 0 [tStr.enc s], []⟩ (outQ Tryd.prog Tryd.f5.results.toList (.ret (bv true))) := by
  refine aRun_sound (ctx := [⟨_, seqS⟩, ⟨_, toldS⟩, ⟨_, lexS⟩, ⟨_, begunS⟩, ⟨_, eqToksS⟩, ⟨_, checkS⟩]) 4000 ?_
  rw [Tryd.ntmps5, Tryd.results5]
  simp only [Tryd.f5, Option.getD_some, zipT]
  obtain ⟨ts, n, e, hl, hlen, hn, hri, hlong⟩ := lines_facts s
  have hsd : sliceD (if longL512 (toBytes s) = true then D.v (.slice none 0 0) else .sd 4 (ts.map tokR.enc)) = some ts := by
    cases hx : longL512 (toBytes s) with
    | true => rw [(hlong hx).1]; rfl
    | false => simp only [Bool.false_eq_true, if_false, sliceD, decAllD_map]
  have ht1 : List.take 999 ts = ts := List.take_of_length_le (by omega)
  have hq : ts.length ≤ 1000000 := by omega
  have hn1 : ¬ (s.size : Int) < n := by omega
  have hn0 : ¬ (n : Int) < 0 := by omega
  have hl1 : (linesF (toBytes s)).1 = ts := by rw [hl]
  by_cases he : e = 0
  · have eL : lexO (linesF (toBytes s)) = .tup [toksV ts, .l (.v (.int .i64 n)), .l (.v (.int .i64 0))] := by rw [hl, he]; rfl
    simp only [List.map_nil, Nat.le_refl, List.length_map, retQ, retD, Int.cast_ofNat_Int, aRun_nil, aRun_b, aRun_o0, aRun_o1, aRun_o2, aRun_skip, aRun_ret, aRun_seq, aRun_block, aRun_cond, aRun_region, aRun_exit, aRun_loop, afterQ_exit, aEx_some, aEx_none, aCont_some, aBr_true, aBr_false, aGd_yes, aGd_tf, aGd_beq, aGd_bne, popTo, Int.reduceBEq, Int.reduceBNe, Int.reduceLE, Int.reduceToNat, roundQ_normal, roundQ_exit, aOp, evT, tget, putT, dstOk, gAt, setG, hget, aBin, aUn, aLoad, aStore, aNew, aField, aIndexAt, fitsAt, aLen, flatOf, cellsOf, splice, crun, List.getElem?_cons_zero, List.getElem?_cons_succ, List.map_cons, Option.map_some, Int.toNat_natCast, Option.isSome_some, List.getElem?_map, reduceIte, reduceCtorEq, Nat.reduceEqDiff, Nat.reduceAdd, Nat.reduceLT, decide_true, decide_false, true_and, and_true, forall_const, not_false_eq_true, Bool.not_true, List.cons_append, List.nil_append, List.append_nil, List.take_succ_cons, List.take_zero, List.drop_succ_cons, List.drop_zero, List.length_cons, List.length_nil, List.set_cons_zero, implies_true, Bool.false_eq_true, false_implies, and_self, Bool.and_true, Bool.true_and, Bool.and_self, Nat.zero_add, aPanQ_none, aPan, cpan, calleeOf, LV.toD0, toDs0, ofD, ofDs, outQ_ret, rvOf, rvsOf, aRet, zipT, runP, panP, hides, mapT, AV.toD, SV.toD, LV.toD, args0, args1, args2, tInt, tStr, tSl, tAgg, decAllD_map, AV.plain, SV.plain, LV.plain, List.all_cons, List.all_nil, Int.natCast_nonneg, ge_iff_le, gt_iff_lt, Option.getD_some, sz_3, row_3, str_9, el_23, sz_30, row_30, zero_30, off_30_3, seq_run, seq_pan, seqV, rowsD, told_run, told_pan, tSeq, hl1, hsd, ht1, hq, lex_run, lex_pan, eL, toksV, begun_run, begun_pan, eqToks_run, eqToks_pan, hn1, hn0]
    refine sw_loop (ι := Nat × Int) (fun p => p.1 ≤ ts.length ∧ ∃ a : Nat, p.2 = (a : Int) - 1 ∧ Rises s.size a (ts.drop p.1)) (fun p => ⟨0, [(0, sv s), (7, iv p.2), (50, tToks.enc ts), (51, iv ts.length), (52, iv p.1)], []⟩) (fun p => ts.length - p.1) (0, -1) ⟨Nat.zero_le _, 0, rfl, hri⟩ (Wk.renL [] (by simp) (by simp) (by simp) rfl rfl) ?_
    rintro ⟨i, last⟩ ⟨hi, p, hp, hr⟩
    simp only at hi hp hr
    refine aRun_sound (ctx := [⟨_, checkS⟩]) 4000 ?_
    by_cases hlt : i < ts.length
    · have hltI : (i : Int) < ts.length := by omega
      obtain ⟨t, ht⟩ : ∃ t, ts[i]? = some t := ⟨_, List.getElem?_eq_getElem hlt⟩
      obtain ⟨hc, hsz, a, ha, hpa, hal, hr2⟩ := rises_next hr ht
      have hm : t.text.size ≤ maxLen := by unfold maxLen; omega
      have ei : IntKind.i64.wrap ((i : Int) + 1) = ((i + 1 : Nat) : Int) := by rw [IntKind.wrap_i64]; omega
      have c1 : ¬ (a : Int) ≤ last := by omega
      have c2 : ¬ (s.size : Int) ≤ a := by omega
      have hdec : tokR.dec [.v (.int .i64 t.kind), .v (.string t.text), .v (.int .u64 t.n), .v (.int .i64 (a : Int))] = some t := by rw [← ha]; rfl
      simp only [List.map_nil, Nat.le_refl, List.length_map, retQ, retD, Int.cast_ofNat_Int, aRun_nil, aRun_b, aRun_o0, aRun_o1, aRun_o2, aRun_skip, aRun_ret, aRun_seq, aRun_block, aRun_cond, aRun_region, aRun_exit, aRun_loop, afterQ_exit, aEx_some, aEx_none, aCont_some, aBr_true, aBr_false, aGd_yes, aGd_tf, aGd_beq, aGd_bne, popTo, Int.reduceBEq, Int.reduceBNe, Int.reduceLE, Int.reduceToNat, roundQ_normal, roundQ_exit, aOp, evT, tget, putT, dstOk, gAt, setG, hget, aBin, aUn, aLoad, aStore, aNew, aField, aIndexAt, fitsAt, aLen, flatOf, cellsOf, splice, crun, List.getElem?_cons_zero, List.getElem?_cons_succ, List.map_cons, Option.map_some, Int.toNat_natCast, Option.isSome_some, List.getElem?_map, reduceIte, reduceCtorEq, Nat.reduceEqDiff, Nat.reduceAdd, Nat.reduceLT, decide_true, decide_false, true_and, and_true, forall_const, not_false_eq_true, Bool.not_true, List.cons_append, List.nil_append, List.append_nil, List.take_succ_cons, List.take_zero, List.drop_succ_cons, List.drop_zero, List.length_cons, List.length_nil, List.set_cons_zero, implies_true, Bool.false_eq_true, false_implies, and_self, Bool.and_true, Bool.true_and, Bool.and_self, Nat.zero_add, aPanQ_none, aPan, cpan, calleeOf, LV.toD0, toDs0, ofD, ofDs, outQ_ret, rvOf, rvsOf, aRet, zipT, runP, panP, hides, mapT, AV.toD, SV.toD, LV.toD, args0, args1, args2, tInt, tStr, tSl, tAgg, decAllD_map, AV.plain, SV.plain, LV.plain, List.all_cons, List.all_nil, Int.natCast_nonneg, ge_iff_le, gt_iff_lt, Option.getD_some, sz_3, row_3, str_9, el_23, sz_30, row_30, zero_30, off_30_3, hltI, ht, tokE, ha, c1, c2, check_run, check_pan, hdec, hm, hc, ei]
      exact ⟨(i + 1, a), ⟨hlt, a + 1, by simp only; omega, hr2⟩, by simp only; omega, Wk.renL [] (by simp) (by simp) (by simp) rfl rfl⟩
    · obtain rfl : i = ts.length := by omega
      have hI : ¬ (ts.length : Int) < ts.length := by omega
      simp only [List.map_nil, Nat.le_refl, List.length_map, retQ, retD, Int.cast_ofNat_Int, aRun_nil, aRun_b, aRun_o0, aRun_o1, aRun_o2, aRun_skip, aRun_ret, aRun_seq, aRun_block, aRun_cond, aRun_region, aRun_exit, aRun_loop, afterQ_exit, aEx_some, aEx_none, aCont_some, aBr_true, aBr_false, aGd_yes, aGd_tf, aGd_beq, aGd_bne, popTo, Int.reduceBEq, Int.reduceBNe, Int.reduceLE, Int.reduceToNat, roundQ_normal, roundQ_exit, aOp, evT, tget, putT, dstOk, gAt, setG, hget, aBin, aUn, aLoad, aStore, aNew, aField, aIndexAt, fitsAt, aLen, flatOf, cellsOf, splice, crun, List.getElem?_cons_zero, List.getElem?_cons_succ, List.map_cons, Option.map_some, Int.toNat_natCast, Option.isSome_some, List.getElem?_map, reduceIte, reduceCtorEq, Nat.reduceEqDiff, Nat.reduceAdd, Nat.reduceLT, decide_true, decide_false, true_and, and_true, forall_const, not_false_eq_true, Bool.not_true, List.cons_append, List.nil_append, List.append_nil, List.take_succ_cons, List.take_zero, List.drop_succ_cons, List.drop_zero, List.length_cons, List.length_nil, List.set_cons_zero, implies_true, Bool.false_eq_true, false_implies, and_self, Bool.and_true, Bool.true_and, Bool.and_self, Nat.zero_add, aPanQ_none, aPan, cpan, calleeOf, LV.toD0, toDs0, ofD, ofDs, outQ_ret, rvOf, rvsOf, aRet, zipT, runP, panP, hides, mapT, AV.toD, SV.toD, LV.toD, args0, args1, args2, tInt, tStr, tSl, tAgg, decAllD_map, AV.plain, SV.plain, LV.plain, List.all_cons, List.all_nil, Int.natCast_nonneg, ge_iff_le, gt_iff_lt, Option.getD_some, sz_3, row_3, str_9, el_23, sz_30, row_30, zero_30, off_30_3, hI]
  · have eL : lexO (linesF (toBytes s)) = .tup [nilSV, .l (.v (.int .i64 n)), .l (.v (.int .i64 e))] := by rw [hl]; unfold lexO; rw [if_neg he]
    simp only [List.map_nil, Nat.le_refl, List.length_map, retQ, retD, Int.cast_ofNat_Int, aRun_nil, aRun_b, aRun_o0, aRun_o1, aRun_o2, aRun_skip, aRun_ret, aRun_seq, aRun_block, aRun_cond, aRun_region, aRun_exit, aRun_loop, afterQ_exit, aEx_some, aEx_none, aCont_some, aBr_true, aBr_false, aGd_yes, aGd_tf, aGd_beq, aGd_bne, popTo, Int.reduceBEq, Int.reduceBNe, Int.reduceLE, Int.reduceToNat, roundQ_normal, roundQ_exit, aOp, evT, tget, putT, dstOk, gAt, setG, hget, aBin, aUn, aLoad, aStore, aNew, aField, aIndexAt, fitsAt, aLen, flatOf, cellsOf, splice, crun, List.getElem?_cons_zero, List.getElem?_cons_succ, List.map_cons, Option.map_some, Int.toNat_natCast, Option.isSome_some, List.getElem?_map, reduceIte, reduceCtorEq, Nat.reduceEqDiff, Nat.reduceAdd, Nat.reduceLT, decide_true, decide_false, true_and, and_true, forall_const, not_false_eq_true, Bool.not_true, List.cons_append, List.nil_append, List.append_nil, List.take_succ_cons, List.take_zero, List.drop_succ_cons, List.drop_zero, List.length_cons, List.length_nil, List.set_cons_zero, implies_true, Bool.false_eq_true, false_implies, and_self, Bool.and_true, Bool.true_and, Bool.and_self, Nat.zero_add, aPanQ_none, aPan, cpan, calleeOf, LV.toD0, toDs0, ofD, ofDs, outQ_ret, rvOf, rvsOf, aRet, zipT, runP, panP, hides, mapT, AV.toD, SV.toD, LV.toD, args0, args1, args2, tInt, tStr, tSl, tAgg, decAllD_map, AV.plain, SV.plain, LV.plain, List.all_cons, List.all_nil, Int.natCast_nonneg, ge_iff_le, gt_iff_lt, Option.getD_some, sz_3, row_3, str_9, el_23, sz_30, row_30, zero_30, off_30_3, seq_run, seq_pan, seqV, rowsD, told_run, told_pan, tSeq, hl1, hsd, ht1, hq, lex_run, lex_pan, eL, nilSV, toksV, begun_run, begun_pan, he, hn1, hn0]
    refine sw_loop (ι := Nat × Int) (fun p => p.1 ≤ ts.length ∧ ∃ a : Nat, p.2 = (a : Int) - 1 ∧ Rises s.size a (ts.drop p.1)) (fun p => ⟨0, [(0, sv s), (7, iv p.2), (50, tToks.enc ts), (51, iv ts.length), (52, iv p.1)], []⟩) (fun p => ts.length - p.1) (0, -1) ⟨Nat.zero_le _, 0, rfl, hri⟩ (Wk.renL [] (by simp) (by simp) (by simp) rfl rfl) ?_
    rintro ⟨i, last⟩ ⟨hi, p, hp, hr⟩
    simp only at hi hp hr
    refine aRun_sound (ctx := [⟨_, checkS⟩]) 4000 ?_
    by_cases hlt : i < ts.length
    · have hltI : (i : Int) < ts.length := by omega
      obtain ⟨t, ht⟩ : ∃ t, ts[i]? = some t := ⟨_, List.getElem?_eq_getElem hlt⟩
      obtain ⟨hc, hsz, a, ha, hpa, hal, hr2⟩ := rises_next hr ht
      have hm : t.text.size ≤ maxLen := by unfold maxLen; omega
      have ei : IntKind.i64.wrap ((i : Int) + 1) = ((i + 1 : Nat) : Int) := by rw [IntKind.wrap_i64]; omega
      have c1 : ¬ (a : Int) ≤ last := by omega
      have c2 : ¬ (s.size : Int) ≤ a := by omega
      have hdec : tokR.dec [.v (.int .i64 t.kind), .v (.string t.text), .v (.int .u64 t.n), .v (.int .i64 (a : Int))] = some t := by rw [← ha]; rfl
      simp only [List.map_nil, Nat.le_refl, List.length_map, retQ, retD, Int.cast_ofNat_Int, aRun_nil, aRun_b, aRun_o0, aRun_o1, aRun_o2, aRun_skip, aRun_ret, aRun_seq, aRun_block, aRun_cond, aRun_region, aRun_exit, aRun_loop, afterQ_exit, aEx_some, aEx_none, aCont_some, aBr_true, aBr_false, aGd_yes, aGd_tf, aGd_beq, aGd_bne, popTo, Int.reduceBEq, Int.reduceBNe, Int.reduceLE, Int.reduceToNat, roundQ_normal, roundQ_exit, aOp, evT, tget, putT, dstOk, gAt, setG, hget, aBin, aUn, aLoad, aStore, aNew, aField, aIndexAt, fitsAt, aLen, flatOf, cellsOf, splice, crun, List.getElem?_cons_zero, List.getElem?_cons_succ, List.map_cons, Option.map_some, Int.toNat_natCast, Option.isSome_some, List.getElem?_map, reduceIte, reduceCtorEq, Nat.reduceEqDiff, Nat.reduceAdd, Nat.reduceLT, decide_true, decide_false, true_and, and_true, forall_const, not_false_eq_true, Bool.not_true, List.cons_append, List.nil_append, List.append_nil, List.take_succ_cons, List.take_zero, List.drop_succ_cons, List.drop_zero, List.length_cons, List.length_nil, List.set_cons_zero, implies_true, Bool.false_eq_true, false_implies, and_self, Bool.and_true, Bool.true_and, Bool.and_self, Nat.zero_add, aPanQ_none, aPan, cpan, calleeOf, LV.toD0, toDs0, ofD, ofDs, outQ_ret, rvOf, rvsOf, aRet, zipT, runP, panP, hides, mapT, AV.toD, SV.toD, LV.toD, args0, args1, args2, tInt, tStr, tSl, tAgg, decAllD_map, AV.plain, SV.plain, LV.plain, List.all_cons, List.all_nil, Int.natCast_nonneg, ge_iff_le, gt_iff_lt, Option.getD_some, sz_3, row_3, str_9, el_23, sz_30, row_30, zero_30, off_30_3, hltI, ht, tokE, ha, c1, c2, check_run, check_pan, hdec, hm, hc, ei]
      exact ⟨(i + 1, a), ⟨hlt, a + 1, by simp only; omega, hr2⟩, by simp only; omega, Wk.renL [] (by simp) (by simp) (by simp) rfl rfl⟩
    · obtain rfl : i = ts.length := by omega
      have hI : ¬ (ts.length : Int) < ts.length := by omega
      simp only [List.map_nil, Nat.le_refl, List.length_map, retQ, retD, Int.cast_ofNat_Int, aRun_nil, aRun_b, aRun_o0, aRun_o1, aRun_o2, aRun_skip, aRun_ret, aRun_seq, aRun_block, aRun_cond, aRun_region, aRun_exit, aRun_loop, afterQ_exit, aEx_some, aEx_none, aCont_some, aBr_true, aBr_false, aGd_yes, aGd_tf, aGd_beq, aGd_bne, popTo, Int.reduceBEq, Int.reduceBNe, Int.reduceLE, Int.reduceToNat, roundQ_normal, roundQ_exit, aOp, evT, tget, putT, dstOk, gAt, setG, hget, aBin, aUn, aLoad, aStore, aNew, aField, aIndexAt, fitsAt, aLen, flatOf, cellsOf, splice, crun, List.getElem?_cons_zero, List.getElem?_cons_succ, List.map_cons, Option.map_some, Int.toNat_natCast, Option.isSome_some, List.getElem?_map, reduceIte, reduceCtorEq, Nat.reduceEqDiff, Nat.reduceAdd, Nat.reduceLT, decide_true, decide_false, true_and, and_true, forall_const, not_false_eq_true, Bool.not_true, List.cons_append, List.nil_append, List.append_nil, List.take_succ_cons, List.take_zero, List.drop_succ_cons, List.drop_zero, List.length_cons, List.length_nil, List.set_cons_zero, implies_true, Bool.false_eq_true, false_implies, and_self, Bool.and_true, Bool.true_and, Bool.and_self, Nat.zero_add, aPanQ_none, aPan, cpan, calleeOf, LV.toD0, toDs0, ofD, ofDs, outQ_ret, rvOf, rvsOf, aRet, zipT, runP, panP, hides, mapT, AV.toD, SV.toD, LV.toD, args0, args1, args2, tInt, tStr, tSl, tAgg, decAllD_map, AV.plain, SV.plain, LV.plain, List.all_cons, List.all_nil, Int.natCast_nonneg, ge_iff_le, gt_iff_lt, Option.getD_some, sz_3, row_3, str_9, el_23, sz_30, row_30, zero_30, off_30_3, hI]

end Go.Proofs.YtcdbldakjepjiaaDoor
