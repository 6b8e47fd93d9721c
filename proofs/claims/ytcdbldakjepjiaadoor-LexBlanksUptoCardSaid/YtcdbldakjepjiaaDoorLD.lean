/- Lines: the law on blanks. -/
import Derived.Test.YtcdbldakjepjiaaDoorLC
set_option linter.unusedVariables false
set_option linter.unusedSimpArgs false
namespace Go.Proofs.YtcdbldakjepjiaaDoor
open Go.RowKit
set_option maxRecDepth 100000

abbrev tBytes : Ty (List Int) := tSl 1 (rInt .u8)
theorem rem_nat (i n : Nat) : (i : Int).tmod (n : Int) = ((i % n : Nat) : Int) := (Int.ofNat_tmod i n).symm
theorem snocM (a b : List Int) : a.map encByte ++ b.map encByte = (a ++ b).map encByte := List.map_append.symm
def blkS : ByteArray := ⟨#[32, 9, 32, 32]⟩
theorem toBytes_blk (n : Nat) : toBytes (blkS.extract 0 n) = ([32, 9, 32, 32] : List Int).take n := by rw [toBytes_take]; rfl
structure BlInv (l : List Int) (bl : List Int) (ts : List Tok) (p : Nat × List Int × Nat) : Prop where
  i : p.1 ≤ ts.length
  all : p.2.1 ++ pcs l (blks bl) p.1 (ts.drop p.1) = pcs l (blks bl) 0 ts
  n : p.2.2 = p.2.1.length
  len : p.2.1.length ≤ p.1 * 600
  rng : ∀ z ∈ p.2.1, 0 ≤ z ∧ z ≤ 255

set_option maxHeartbeats 8000000 in
theorem blanks_sw (line behind : ByteArray) (bl : List Int) (hbl : ∀ z ∈ bl, 0 ≤ z ∧ z ≤ 255) (hbh : behind.size ≤ 1099511627776) :
    SW Tryd.prog ⟨none, 0⟩ Tryd.f3.ntmps (Tryd.f3.body.getD .skip) ⟨0, zipT 0 [tStr.enc line, tStr.enc behind, tBytes.enc bl], []⟩ (outQ Tryd.prog Tryd.f3.results.toList (.ret (bv true))) := by
  refine aRun_sound (ctx := [⟨_, lexS⟩, ⟨_, begunS⟩, ⟨_, plainS⟩, ⟨_, eqToksS⟩]) 4000 ?_
  rw [Tryd.ntmps3, Tryd.results3]
  simp only [Tryd.f3, Option.getD_some, zipT]
  have hL : (toBytes line).length = line.size := toBytes_length line
  by_cases h0 : (linesF (toBytes line)).2.2 = 0
  case neg =>
    have e : lexO (linesF (toBytes line)) = .tup [nilSV, .l (.v (.int .i64 (linesF (toBytes line)).2.1)), .l (.v (.int .i64 (linesF (toBytes line)).2.2))] := by unfold lexO; rw [if_neg h0]
    simp only [List.map_nil, Nat.le_refl, Int.le_refl, take_map1, List.length_map, retQ, retD, Int.cast_ofNat_Int, aRun_nil, aRun_b, aRun_o0, aRun_o1, aRun_o2, aRun_skip, aRun_ret, aRun_seq, aRun_block, aRun_cond, aRun_region, aRun_exit, aRun_loop, afterQ_exit, aEx_some, aEx_none, aCont_some, aBr_true, aBr_false, aBr_bne, aGd_yes, aGd_tf, popTo, Int.reduceBEq, Int.reduceBNe, Int.reduceEq, Int.reduceToNat, List.not_mem_nil, roundQ_normal, roundQ_exit, aOp, evT, tget, putT, dstOk, gAt, setG, hget, aBin, aUn, aConv, aConvS, aLoad, aStore, aNew, aField, aIndexAt, fitsAt, bnd, aAppend, aLen, flatOf, cellsOf, splice, crun, List.getElem?_cons_zero, List.getElem?_cons_succ, List.map_cons, Option.map_some, Option.map_none, Int.toNat_natCast, Option.isSome_some, List.getElem?_map, reduceIte, reduceCtorEq, Nat.reduceEqDiff, Nat.reduceAdd, Nat.reduceLT, decide_true, decide_false, true_and, and_true, forall_const, not_false_eq_true, Bool.not_true, List.cons_append, List.nil_append, List.append_nil, ne_eq, List.take_succ_cons, List.take_zero, List.drop_succ_cons, List.drop_zero, List.length_cons, List.length_nil, List.set_cons_zero, Option.some.injEq, implies_true, Bool.false_eq_true, false_implies, and_self, Bool.and_true, Bool.true_and, Bool.and_self, Nat.zero_add, aSlice, aPanQ_none, aPan, cpan, calleeOf, srcOf, ofD, ofDs, outQ_ret, rvOf, rvsOf, aRet, zipT, runP, panP, hides, mapT, AV.toD, SV.toD, LV.toD, args0, args1, args2, tStr, tSl, rInt, decAllD_map, AV.plain, SV.plain, LV.plain, List.all_cons, List.all_nil, AV.ren, SV.ren, Blk.ren, List.append_assoc, Int.natCast_nonneg, gt_iff_lt, List.getD_eq_getElem?_getD, Option.getD_some, sz_3, row_3, kind_3, sz_5, row_5, zero_5, by_5, str_9, el_22, bs_22, el_23, sz_30, row_30, zero_30, off_30_3, lex_run, lex_pan, begun_run, begun_pan, e, nilSV, h0]
  have hsz : ¬ 512 < (toBytes line).length := fun h => by unfold linesF at h0; rw [if_pos h] at h0; cases h0
  obtain ⟨ts, n, hts⟩ : ∃ ts n, tokensL 0 (toBytes line) = (ts, n, 0) := by
    unfold linesF at h0
    rw [if_neg hsz] at h0
    exact ⟨_, _, Prod.ext rfl (Prod.ext rfl h0)⟩
  have hlF : linesF (toBytes line) = (ts, n, 0) := by unfold linesF; rw [if_neg hsz, hts]
  have e : lexO (linesF (toBytes line)) = .tup [toksV ts, .l (.v (.int .i64 n)), .l (.v (.int .i64 0))] := by rw [hlF]; rfl
  have hgd := tokens_good ts 0 n 0 (Nat.zero_le _) (by rw [List.drop_zero]; exact hts)
  obtain ⟨hg, _, _, hlen⟩ := hgd
  have hlen2 : ts.length ≤ 512 := by omega
  simp only [List.map_nil, Nat.le_refl, Int.le_refl, take_map1, List.length_map, retQ, retD, Int.cast_ofNat_Int, aRun_nil, aRun_b, aRun_o0, aRun_o1, aRun_o2, aRun_skip, aRun_ret, aRun_seq, aRun_block, aRun_cond, aRun_region, aRun_exit, aRun_loop, afterQ_exit, aEx_some, aEx_none, aCont_some, aBr_true, aBr_false, aBr_bne, aGd_yes, aGd_tf, popTo, Int.reduceBEq, Int.reduceBNe, Int.reduceEq, Int.reduceToNat, List.not_mem_nil, roundQ_normal, roundQ_exit, aOp, evT, tget, putT, dstOk, gAt, setG, hget, aBin, aUn, aConv, aConvS, aLoad, aStore, aNew, aField, aIndexAt, fitsAt, bnd, aAppend, aLen, flatOf, cellsOf, splice, crun, List.getElem?_cons_zero, List.getElem?_cons_succ, List.map_cons, Option.map_some, Option.map_none, Int.toNat_natCast, Option.isSome_some, List.getElem?_map, reduceIte, reduceCtorEq, Nat.reduceEqDiff, Nat.reduceAdd, Nat.reduceLT, decide_true, decide_false, true_and, and_true, forall_const, not_false_eq_true, Bool.not_true, List.cons_append, List.nil_append, List.append_nil, ne_eq, List.take_succ_cons, List.take_zero, List.drop_succ_cons, List.drop_zero, List.length_cons, List.length_nil, List.set_cons_zero, Option.some.injEq, implies_true, Bool.false_eq_true, false_implies, and_self, Bool.and_true, Bool.true_and, Bool.and_self, Nat.zero_add, aSlice, aPanQ_none, aPan, cpan, calleeOf, srcOf, ofD, ofDs, outQ_ret, rvOf, rvsOf, aRet, zipT, runP, panP, hides, mapT, AV.toD, SV.toD, LV.toD, args0, args1, args2, tStr, tSl, rInt, decAllD_map, AV.plain, SV.plain, LV.plain, List.all_cons, List.all_nil, AV.ren, SV.ren, Blk.ren, List.append_assoc, Int.natCast_nonneg, gt_iff_lt, List.getD_eq_getElem?_getD, Option.getD_some, sz_3, row_3, kind_3, sz_5, row_5, zero_5, by_5, str_9, el_22, bs_22, el_23, sz_30, row_30, zero_30, off_30_3, lex_run, lex_pan, begun_run, begun_pan, e, toksV]
  refine sw_loop (ι := Nat × List Int × Nat) (BlInv (toBytes line) bl ts) (fun p => ⟨1, [(0, sv line), (1, sv behind), (2, tBytes.enc bl), (7, tToks.enc ts), (10, .s (.l (.sl 0 0 p.2.2))), (31, tToks.enc ts), (32, iv ts.length), (33, iv p.1)], [(0, some (bytesK p.2.1))]⟩) (fun p => ts.length - p.1) (0, [], 0) ⟨Nat.zero_le _, by simp, rfl, Nat.zero_le _, by simp⟩ ?_ ?_
  · exact (Wk.nil 10 5 1 rfl).trans (Wk.renL [320] (by simp) (by simp) (by simp) rfl rfl)
  rintro ⟨i, B, m⟩ ⟨hi, hall, hm, hBl, hrng⟩
  simp only at hi hall hm hBl hrng
  subst hm
  refine aRun_sound (ctx := [⟨_, lexS⟩, ⟨_, begunS⟩, ⟨_, plainS⟩, ⟨_, eqToksS⟩]) 4000 ?_
  by_cases hlt : i < ts.length
  · have hltI : (i : Int) < ts.length := by omega
    obtain ⟨t, ht⟩ : ∃ t, ts[i]? = some t := ⟨_, List.getElem?_eq_getElem hlt⟩
    obtain ⟨a, ha, hae, hel, hdr⟩ := good_at hg ht
    obtain ⟨en, hen⟩ : ∃ en, endP (toBytes line) (ts.drop (i + 1)) = en := ⟨_, rfl⟩
    rw [hen] at hae hel
    have ei : IntKind.i64.wrap ((i : Int) + 1) = ((i + 1 : Nat) : Int) := by rw [IntKind.wrap_i64]; omega
    have hpc := pcs_drop (l := toBytes line) (bl := blks bl) hdr
    rw [ha, Int.toNat_natCast, hen] at hpc
    have go : ∀ k : Nat, k ≤ 4 → blks bl i = ([32, 9, 32, 32] : List Int).take k → ∃ X Y : ByteArray, (⟨#[32, 9, 32, 32]⟩ : ByteArray).extract 0 k = X ∧ line.extract a en = Y ∧ B.length + X.size ≤ maxLen ∧ (B.length + X.size) * 1 ≤ 140737488355328 ∧ B.length + X.size + Y.size ≤ maxLen ∧ (B.length + X.size + Y.size) * 1 ≤ 140737488355328 ∧ List.take (B.length + X.size) ((B ++ toBytes X).map encByte) = (B ++ toBytes X).map encByte ∧ (k : Int) ≤ ((⟨#[32, 9, 32, 32]⟩ : ByteArray).size : Int) ∧ BlInv (toBytes line) bl ts (i + 1, B ++ (toBytes X ++ toBytes Y), B.length + X.size + Y.size) := by
      intro k hk hkb
      obtain ⟨X, hX⟩ : ∃ X, (⟨#[32, 9, 32, 32]⟩ : ByteArray).extract 0 k = X := ⟨_, rfl⟩
      obtain ⟨Y, hY⟩ : ∃ Y, line.extract a en = Y := ⟨_, rfl⟩
      have tX : toBytes X = blks bl i := by rw [← hX, hkb]; exact toBytes_blk k
      have tY : toBytes Y = ((toBytes line).drop a).take (en - a) := by rw [← hY, toBytes_extract]
      have sX : X.size ≤ 4 := by rw [← toBytes_length, tX, hkb, List.length_take]; omega
      have sY : Y.size ≤ 512 := by rw [← toBytes_length, tY, List.length_take, List.length_drop]; omega
      refine ⟨X, Y, hX, hY, by unfold maxLen; omega, by omega, by unfold maxLen; omega, by omega, List.take_of_length_le (by simp [toBytes_length]), ?_, ⟨hlt, ?_, ?_, ?_, ?_⟩⟩
      · show (k : Int) ≤ 4
        omega
      · rw [← hall, hpc, tX, tY]
        simp only [List.append_assoc]
      · simp [toBytes_length]; omega
      · simp [toBytes_length]; omega
      · intro z hz
        simp only [List.mem_append] at hz
        rcases hz with hz | hz | hz
        · exact hrng z hz
        · exact toBytes_range hz
        · exact toBytes_range hz
    have hae1 : ¬ (en : Int) < a := by omega
    have hel1 : ¬ (line.size : Int) < en := by omega
    have hael : (a : Int) ≤ en := by omega
    have hell : (en : Int) ≤ line.size := by omega
    have ha0 : ¬ (a : Int) < 0 := by omega
    have hemptyA : bl.length = 0 → blks bl i = ([32, 9, 32, 32] : List Int).take 0 := fun h => by unfold blks; rw [if_pos h]; rfl
    by_cases hn : i + 1 < ts.length
    · have hnI : ((i + 1 : Nat) : Int) < ts.length := by omega
      obtain ⟨t2, ht2⟩ : ∃ t2, ts[i + 1]? = some t2 := ⟨_, List.getElem?_eq_getElem hn⟩
      have hp2 : t2.pos = (en : Int) := by rw [good_next hg ht2, hen]
      by_cases hb0 : bl.length = 0
      · have hb0I : ¬ (0 : Int) < bl.length := by omega
        have em : Int.tmod 0 4 = ((0 : Nat) : Int) := rfl
        obtain ⟨X, Y, hX, hY, hm1, hb1, hm2, hb2, ht1, hks, hinv⟩ := go 0 (by omega) (hemptyA hb0)
        simp only [List.map_nil, Nat.le_refl, Int.le_refl, take_map1, List.length_map, retQ, retD, Int.cast_ofNat_Int, aRun_nil, aRun_b, aRun_o0, aRun_o1, aRun_o2, aRun_skip, aRun_ret, aRun_seq, aRun_block, aRun_cond, aRun_region, aRun_exit, aRun_loop, afterQ_exit, aEx_some, aEx_none, aCont_some, aBr_true, aBr_false, aBr_bne, aGd_yes, aGd_tf, popTo, Int.reduceBEq, Int.reduceBNe, Int.reduceEq, Int.reduceToNat, List.not_mem_nil, roundQ_normal, roundQ_exit, aOp, evT, tget, putT, dstOk, gAt, setG, hget, aBin, aUn, aConv, aConvS, aLoad, aStore, aNew, aField, aIndexAt, fitsAt, bnd, aAppend, aLen, flatOf, cellsOf, splice, crun, List.getElem?_cons_zero, List.getElem?_cons_succ, List.map_cons, Option.map_some, Option.map_none, Int.toNat_natCast, Option.isSome_some, List.getElem?_map, reduceIte, reduceCtorEq, Nat.reduceEqDiff, Nat.reduceAdd, Nat.reduceLT, decide_true, decide_false, true_and, and_true, forall_const, not_false_eq_true, Bool.not_true, List.cons_append, List.nil_append, List.append_nil, ne_eq, List.take_succ_cons, List.take_zero, List.drop_succ_cons, List.drop_zero, List.length_cons, List.length_nil, List.set_cons_zero, Option.some.injEq, implies_true, Bool.false_eq_true, false_implies, and_self, Bool.and_true, Bool.true_and, Bool.and_self, Nat.zero_add, aSlice, aPanQ_none, aPan, cpan, calleeOf, srcOf, ofD, ofDs, outQ_ret, rvOf, rvsOf, aRet, zipT, runP, panP, hides, mapT, AV.toD, SV.toD, LV.toD, args0, args1, args2, tStr, tSl, rInt, decAllD_map, AV.plain, SV.plain, LV.plain, List.all_cons, List.all_nil, AV.ren, SV.ren, Blk.ren, List.append_assoc, Int.natCast_nonneg, gt_iff_lt, List.getD_eq_getElem?_getD, Option.getD_some, sz_3, row_3, kind_3, sz_5, row_5, zero_5, by_5, str_9, el_22, bs_22, el_23, sz_30, row_30, zero_30, off_30_3, bytesK, hltI, ht, tokE, ha, hnI, ht2, hp2, hb0I, em, hX, hY, hm1, hb1, hm2, hb2, ht1, hks, snocM, toBytes_length, hae1, hel1, hael, hell, ha0, ei]
        exact ⟨by simp [toBytes_length], (i + 1, B ++ (toBytes X ++ toBytes Y), B.length + X.size + Y.size), hinv, by simp only; omega, Wk.renL [849] (by simp) (by simp) (by simp) (by simp [tget, AV.ren, SV.ren, LV.ren]) (by simp [hget, Blk.ren, encByte, LV.ren, Function.comp_def]; rfl)⟩
      · have hb0I : (0 : Int) < bl.length := by omega
        have hbne : ¬ (bl.length : Int) = 0 := by omega
        have hmod := rem_nat i bl.length
        have hlm : i % bl.length < bl.length := Nat.mod_lt _ (by omega)
        have hlmI : ((i % bl.length : Nat) : Int) < bl.length := by omega
        obtain ⟨z, hz⟩ : ∃ z, bl[i % bl.length]? = some z := ⟨_, List.getElem?_eq_getElem hlm⟩
        have hzr := hbl z (List.mem_of_getElem? hz)
        have ez : IntKind.i64.wrap z = z := by rw [IntKind.wrap_i64]; omega
        have em : z.tmod 4 = (((z % 4).toNat : Nat) : Int) := by rw [Int.tmod_eq_emod_of_nonneg hzr.1, Int.toNat_of_nonneg (by omega)]
        obtain ⟨k, hk⟩ : ∃ k, (z % 4).toNat = k := ⟨_, rfl⟩
        rw [hk] at em
        obtain ⟨X, Y, hX, hY, hm1, hb1, hm2, hb2, ht1, hks, hinv⟩ := go k (by omega) (by unfold blks; rw [if_neg hb0, List.getD_eq_getElem?_getD, hz, ← hk]; rfl)
        simp only [List.map_nil, Nat.le_refl, Int.le_refl, take_map1, List.length_map, retQ, retD, Int.cast_ofNat_Int, aRun_nil, aRun_b, aRun_o0, aRun_o1, aRun_o2, aRun_skip, aRun_ret, aRun_seq, aRun_block, aRun_cond, aRun_region, aRun_exit, aRun_loop, afterQ_exit, aEx_some, aEx_none, aCont_some, aBr_true, aBr_false, aBr_bne, aGd_yes, aGd_tf, popTo, Int.reduceBEq, Int.reduceBNe, Int.reduceEq, Int.reduceToNat, List.not_mem_nil, roundQ_normal, roundQ_exit, aOp, evT, tget, putT, dstOk, gAt, setG, hget, aBin, aUn, aConv, aConvS, aLoad, aStore, aNew, aField, aIndexAt, fitsAt, bnd, aAppend, aLen, flatOf, cellsOf, splice, crun, List.getElem?_cons_zero, List.getElem?_cons_succ, List.map_cons, Option.map_some, Option.map_none, Int.toNat_natCast, Option.isSome_some, List.getElem?_map, reduceIte, reduceCtorEq, Nat.reduceEqDiff, Nat.reduceAdd, Nat.reduceLT, decide_true, decide_false, true_and, and_true, forall_const, not_false_eq_true, Bool.not_true, List.cons_append, List.nil_append, List.append_nil, ne_eq, List.take_succ_cons, List.take_zero, List.drop_succ_cons, List.drop_zero, List.length_cons, List.length_nil, List.set_cons_zero, Option.some.injEq, implies_true, Bool.false_eq_true, false_implies, and_self, Bool.and_true, Bool.true_and, Bool.and_self, Nat.zero_add, aSlice, aPanQ_none, aPan, cpan, calleeOf, srcOf, ofD, ofDs, outQ_ret, rvOf, rvsOf, aRet, zipT, runP, panP, hides, mapT, AV.toD, SV.toD, LV.toD, args0, args1, args2, tStr, tSl, rInt, decAllD_map, AV.plain, SV.plain, LV.plain, List.all_cons, List.all_nil, AV.ren, SV.ren, Blk.ren, List.append_assoc, Int.natCast_nonneg, gt_iff_lt, List.getD_eq_getElem?_getD, Option.getD_some, sz_3, row_3, kind_3, sz_5, row_5, zero_5, by_5, str_9, el_22, bs_22, el_23, sz_30, row_30, zero_30, off_30_3, bytesK, hltI, ht, tokE, ha, hnI, ht2, hp2, hb0I, hbne, hmod, hlm, hlmI, hz, ez, em, hX, hY, hm1, hb1, hm2, hb2, ht1, hks, snocM, toBytes_length, hae1, hel1, hael, hell, ha0, ei]
        exact ⟨by simp [toBytes_length], (i + 1, B ++ (toBytes X ++ toBytes Y), B.length + X.size + Y.size), hinv, by simp only; omega, Wk.renL [993] (by simp) (by simp) (by simp) (by simp [tget, AV.ren, SV.ren, LV.ren]) (by simp [hget, Blk.ren, encByte, LV.ren, Function.comp_def]; rfl)⟩
    · have hnI : ¬ ((i + 1 : Nat) : Int) < ts.length := by omega
      have hen2 : en = line.size := by
        rw [← hen, List.drop_of_length_le (by omega)]
        exact hL
      subst hen2
      by_cases hb0 : bl.length = 0
      · have hb0I : ¬ (0 : Int) < bl.length := by omega
        have em : Int.tmod 0 4 = ((0 : Nat) : Int) := rfl
        obtain ⟨X, Y, hX, hY, hm1, hb1, hm2, hb2, ht1, hks, hinv⟩ := go 0 (by omega) (hemptyA hb0)
        simp only [List.map_nil, Nat.le_refl, Int.le_refl, take_map1, List.length_map, retQ, retD, Int.cast_ofNat_Int, aRun_nil, aRun_b, aRun_o0, aRun_o1, aRun_o2, aRun_skip, aRun_ret, aRun_seq, aRun_block, aRun_cond, aRun_region, aRun_exit, aRun_loop, afterQ_exit, aEx_some, aEx_none, aCont_some, aBr_true, aBr_false, aBr_bne, aGd_yes, aGd_tf, popTo, Int.reduceBEq, Int.reduceBNe, Int.reduceEq, Int.reduceToNat, List.not_mem_nil, roundQ_normal, roundQ_exit, aOp, evT, tget, putT, dstOk, gAt, setG, hget, aBin, aUn, aConv, aConvS, aLoad, aStore, aNew, aField, aIndexAt, fitsAt, bnd, aAppend, aLen, flatOf, cellsOf, splice, crun, List.getElem?_cons_zero, List.getElem?_cons_succ, List.map_cons, Option.map_some, Option.map_none, Int.toNat_natCast, Option.isSome_some, List.getElem?_map, reduceIte, reduceCtorEq, Nat.reduceEqDiff, Nat.reduceAdd, Nat.reduceLT, decide_true, decide_false, true_and, and_true, forall_const, not_false_eq_true, Bool.not_true, List.cons_append, List.nil_append, List.append_nil, ne_eq, List.take_succ_cons, List.take_zero, List.drop_succ_cons, List.drop_zero, List.length_cons, List.length_nil, List.set_cons_zero, Option.some.injEq, implies_true, Bool.false_eq_true, false_implies, and_self, Bool.and_true, Bool.true_and, Bool.and_self, Nat.zero_add, aSlice, aPanQ_none, aPan, cpan, calleeOf, srcOf, ofD, ofDs, outQ_ret, rvOf, rvsOf, aRet, zipT, runP, panP, hides, mapT, AV.toD, SV.toD, LV.toD, args0, args1, args2, tStr, tSl, rInt, decAllD_map, AV.plain, SV.plain, LV.plain, List.all_cons, List.all_nil, AV.ren, SV.ren, Blk.ren, List.append_assoc, Int.natCast_nonneg, gt_iff_lt, List.getD_eq_getElem?_getD, Option.getD_some, sz_3, row_3, kind_3, sz_5, row_5, zero_5, by_5, str_9, el_22, bs_22, el_23, sz_30, row_30, zero_30, off_30_3, bytesK, hltI, ht, tokE, ha, hnI, hb0I, em, hX, hY, hm1, hb1, hm2, hb2, ht1, hks, snocM, toBytes_length, hae1, hel1, hael, hell, ha0, ei]
        exact ⟨by simp [toBytes_length], (i + 1, B ++ (toBytes X ++ toBytes Y), B.length + X.size + Y.size), hinv, by simp only; omega, Wk.renL [737] (by simp) (by simp) (by simp) (by simp [tget, AV.ren, SV.ren, LV.ren]) (by simp [hget, Blk.ren, encByte, LV.ren, Function.comp_def]; rfl)⟩
      · have hb0I : (0 : Int) < bl.length := by omega
        have hbne : ¬ (bl.length : Int) = 0 := by omega
        have hmod := rem_nat i bl.length
        have hlm : i % bl.length < bl.length := Nat.mod_lt _ (by omega)
        have hlmI : ((i % bl.length : Nat) : Int) < bl.length := by omega
        obtain ⟨z, hz⟩ : ∃ z, bl[i % bl.length]? = some z := ⟨_, List.getElem?_eq_getElem hlm⟩
        have hzr := hbl z (List.mem_of_getElem? hz)
        have ez : IntKind.i64.wrap z = z := by rw [IntKind.wrap_i64]; omega
        have em : z.tmod 4 = (((z % 4).toNat : Nat) : Int) := by rw [Int.tmod_eq_emod_of_nonneg hzr.1, Int.toNat_of_nonneg (by omega)]
        obtain ⟨k, hk⟩ : ∃ k, (z % 4).toNat = k := ⟨_, rfl⟩
        rw [hk] at em
        obtain ⟨X, Y, hX, hY, hm1, hb1, hm2, hb2, ht1, hks, hinv⟩ := go k (by omega) (by unfold blks; rw [if_neg hb0, List.getD_eq_getElem?_getD, hz, ← hk]; rfl)
        simp only [List.map_nil, Nat.le_refl, Int.le_refl, take_map1, List.length_map, retQ, retD, Int.cast_ofNat_Int, aRun_nil, aRun_b, aRun_o0, aRun_o1, aRun_o2, aRun_skip, aRun_ret, aRun_seq, aRun_block, aRun_cond, aRun_region, aRun_exit, aRun_loop, afterQ_exit, aEx_some, aEx_none, aCont_some, aBr_true, aBr_false, aBr_bne, aGd_yes, aGd_tf, popTo, Int.reduceBEq, Int.reduceBNe, Int.reduceEq, Int.reduceToNat, List.not_mem_nil, roundQ_normal, roundQ_exit, aOp, evT, tget, putT, dstOk, gAt, setG, hget, aBin, aUn, aConv, aConvS, aLoad, aStore, aNew, aField, aIndexAt, fitsAt, bnd, aAppend, aLen, flatOf, cellsOf, splice, crun, List.getElem?_cons_zero, List.getElem?_cons_succ, List.map_cons, Option.map_some, Option.map_none, Int.toNat_natCast, Option.isSome_some, List.getElem?_map, reduceIte, reduceCtorEq, Nat.reduceEqDiff, Nat.reduceAdd, Nat.reduceLT, decide_true, decide_false, true_and, and_true, forall_const, not_false_eq_true, Bool.not_true, List.cons_append, List.nil_append, List.append_nil, ne_eq, List.take_succ_cons, List.take_zero, List.drop_succ_cons, List.drop_zero, List.length_cons, List.length_nil, List.set_cons_zero, Option.some.injEq, implies_true, Bool.false_eq_true, false_implies, and_self, Bool.and_true, Bool.true_and, Bool.and_self, Nat.zero_add, aSlice, aPanQ_none, aPan, cpan, calleeOf, srcOf, ofD, ofDs, outQ_ret, rvOf, rvsOf, aRet, zipT, runP, panP, hides, mapT, AV.toD, SV.toD, LV.toD, args0, args1, args2, tStr, tSl, rInt, decAllD_map, AV.plain, SV.plain, LV.plain, List.all_cons, List.all_nil, AV.ren, SV.ren, Blk.ren, List.append_assoc, Int.natCast_nonneg, gt_iff_lt, List.getD_eq_getElem?_getD, Option.getD_some, sz_3, row_3, kind_3, sz_5, row_5, zero_5, by_5, str_9, el_22, bs_22, el_23, sz_30, row_30, zero_30, off_30_3, bytesK, hltI, ht, tokE, ha, hnI, hb0I, hbne, hmod, hlm, hlmI, hz, ez, em, hX, hY, hm1, hb1, hm2, hb2, ht1, hks, snocM, toBytes_length, hae1, hel1, hael, hell, ha0, ei]
        exact ⟨by simp [toBytes_length], (i + 1, B ++ (toBytes X ++ toBytes Y), B.length + X.size + Y.size), hinv, by simp only; omega, Wk.renL [881] (by simp) (by simp) (by simp) (by simp [tget, AV.ren, SV.ren, LV.ren]) (by simp [hget, Blk.ren, encByte, LV.ren, Function.comp_def]; rfl)⟩
  · obtain rfl : i = ts.length := by omega
    have hI : ¬ (ts.length : Int) < ts.length := by omega
    rw [List.drop_length, pcs, List.append_nil] at hall
    obtain ⟨B3, hB3⟩ : ∃ B3, B ++ (toBytes ⟨#[32, 47, 47]⟩ ++ toBytes behind) = B3 := ⟨_, rfl⟩
    have hs3 : (⟨#[32, 47, 47]⟩ : ByteArray).size = 3 := rfl
    have hl3 : B3.length = B.length + 3 + behind.size := by
      rw [← hB3]
      simp [toBytes_length, hs3]
      omega
    have hrng3 : ∀ z ∈ B3, 0 ≤ z ∧ z ≤ 255 := by
      rw [← hB3]
      intro z hz
      simp only [List.mem_append] at hz
      rcases hz with hz | hz | hz
      · exact hrng z hz
      · exact toBytes_range hz
      · exact toBytes_range hz
    have hm1 : B.length + 3 ≤ maxLen := by unfold maxLen; omega
    have hb1 : (B.length + 3) * 1 ≤ 140737488355328 := by omega
    have hm2 : B.length + 3 + behind.size ≤ maxLen := by unfold maxLen; omega
    have hb2 : (B.length + 3 + behind.size) * 1 ≤ 140737488355328 := by omega
    have ht1 : List.take (B.length + 3) ((B ++ toBytes ⟨#[32, 47, 47]⟩).map encByte) = (B ++ toBytes ⟨#[32, 47, 47]⟩).map encByte := List.take_of_length_le (by simp [toBytes_length, hs3])
    have hsd1 : B.length + 3 ≤ (B ++ toBytes ⟨#[32, 47, 47]⟩).length := by simp [toBytes_length, hs3]
    have ht3 : List.take (B.length + 3 + behind.size) (B3.map encByte) = B3.map encByte := List.take_of_length_le (by rw [List.length_map, hl3]; exact Nat.le_refl _)
    have hsd3 : B.length + 3 + behind.size ≤ B3.length := by omega
    by_cases hnil : ts = []
    · have hp0 : ¬ (0 : Int) < ts.length := by rw [hnil]; decide
      simp only [List.map_nil, Nat.le_refl, Int.le_refl, take_map1, List.length_map, retQ, retD, Int.cast_ofNat_Int, aRun_nil, aRun_b, aRun_o0, aRun_o1, aRun_o2, aRun_skip, aRun_ret, aRun_seq, aRun_block, aRun_cond, aRun_region, aRun_exit, aRun_loop, afterQ_exit, aEx_some, aEx_none, aCont_some, aBr_true, aBr_false, aBr_bne, aGd_yes, aGd_tf, popTo, Int.reduceBEq, Int.reduceBNe, Int.reduceEq, Int.reduceToNat, List.not_mem_nil, roundQ_normal, roundQ_exit, aOp, evT, tget, putT, dstOk, gAt, setG, hget, aBin, aUn, aConv, aConvS, aLoad, aStore, aNew, aField, aIndexAt, fitsAt, bnd, aAppend, aLen, flatOf, cellsOf, splice, crun, List.getElem?_cons_zero, List.getElem?_cons_succ, List.map_cons, Option.map_some, Option.map_none, Int.toNat_natCast, Option.isSome_some, List.getElem?_map, reduceIte, reduceCtorEq, Nat.reduceEqDiff, Nat.reduceAdd, Nat.reduceLT, decide_true, decide_false, true_and, and_true, forall_const, not_false_eq_true, Bool.not_true, List.cons_append, List.nil_append, List.append_nil, ne_eq, List.take_succ_cons, List.take_zero, List.drop_succ_cons, List.drop_zero, List.length_cons, List.length_nil, List.set_cons_zero, Option.some.injEq, implies_true, Bool.false_eq_true, false_implies, and_self, Bool.and_true, Bool.true_and, Bool.and_self, Nat.zero_add, aSlice, aPanQ_none, aPan, cpan, calleeOf, srcOf, ofD, ofDs, outQ_ret, rvOf, rvsOf, aRet, zipT, runP, panP, hides, mapT, AV.toD, SV.toD, LV.toD, args0, args1, args2, tStr, tSl, rInt, decAllD_map, AV.plain, SV.plain, LV.plain, List.all_cons, List.all_nil, AV.ren, SV.ren, Blk.ren, List.append_assoc, Int.natCast_nonneg, gt_iff_lt, List.getD_eq_getElem?_getD, Option.getD_some, sz_3, row_3, kind_3, sz_5, row_5, zero_5, by_5, str_9, el_22, bs_22, el_23, sz_30, row_30, zero_30, off_30_3, bytesK, hI, hs3, hm1, hb1, hm2, hb2, ht1, hsd1, snocM, toBytes_length, hp0]
      try exact hsd1
    · obtain ⟨t, rest, hcons⟩ := List.exists_cons_of_ne_nil hnil
      have hpos : (0 : Int) < (ts.length : Int) := by rw [hcons]; simp
      have hpos3 : (0 : Int) < ((B.length + 3 + behind.size : Nat) : Int) := by omega
      by_cases h5 : B.length + 3 + behind.size ≤ 512
      · have h5I : ((B.length + 3 + behind.size : Nat) : Int) ≤ 512 := by omega
        have hrl := relex (l := toBytes line) (bl := blks bl) (tail := toBytes ⟨#[32, 47, 47]⟩ ++ toBytes behind) (blks_blank bl) ⟨toBytes behind, rfl⟩ (fun l e h => by have := oneL_err h; omega) rest t 0 0 n (Nat.zero_le _) (by rw [List.drop_zero, ← hcons]; exact hts) 0
        rw [← hcons, ← hall, hB3] at hrl
        obtain ⟨xs, n2, hxs⟩ : ∃ xs n2, tokensL 0 B3 = (xs, n2, 0) := ⟨_, _, Prod.ext rfl (Prod.ext rfl hrl.2)⟩
        rw [hxs] at hrl
        have hx1 := hrl.1
        simp only at hx1
        have hxl : xs.length = ts.length := by rw [← List.length_map bare, hx1, List.length_map]
        have hxn : xs ≠ [] := by intro h; rw [h, hcons] at hxl; simp at hxl
        have hF3 : lexO (linesF (toBytes (ofBytes B3))) = .tup [toksV xs, .l (.v (.int .i64 n2)), .l (.v (.int .i64 0))] := by
          rw [toBytes_ofBytes hrng3]
          unfold linesF
          rw [if_neg (by omega), hxs]
          rfl
        have hq1 : xs.length ≤ 1000000 := by omega
        have hq2 : ts.length ≤ 1000000 := by omega
        have hq3 : (ts.map bare).length ≤ 1000000 := by rw [List.length_map]; omega
        simp only [List.map_nil, Nat.le_refl, Int.le_refl, take_map1, List.length_map, retQ, retD, Int.cast_ofNat_Int, aRun_nil, aRun_b, aRun_o0, aRun_o1, aRun_o2, aRun_skip, aRun_ret, aRun_seq, aRun_block, aRun_cond, aRun_region, aRun_exit, aRun_loop, afterQ_exit, aEx_some, aEx_none, aCont_some, aBr_true, aBr_false, aBr_bne, aGd_yes, aGd_tf, popTo, Int.reduceBEq, Int.reduceBNe, Int.reduceEq, Int.reduceToNat, List.not_mem_nil, roundQ_normal, roundQ_exit, aOp, evT, tget, putT, dstOk, gAt, setG, hget, aBin, aUn, aConv, aConvS, aLoad, aStore, aNew, aField, aIndexAt, fitsAt, bnd, aAppend, aLen, flatOf, cellsOf, splice, crun, List.getElem?_cons_zero, List.getElem?_cons_succ, List.map_cons, Option.map_some, Option.map_none, Int.toNat_natCast, Option.isSome_some, List.getElem?_map, reduceIte, reduceCtorEq, Nat.reduceEqDiff, Nat.reduceAdd, Nat.reduceLT, decide_true, decide_false, true_and, and_true, forall_const, not_false_eq_true, Bool.not_true, List.cons_append, List.nil_append, List.append_nil, ne_eq, List.take_succ_cons, List.take_zero, List.drop_succ_cons, List.drop_zero, List.length_cons, List.length_nil, List.set_cons_zero, Option.some.injEq, implies_true, Bool.false_eq_true, false_implies, and_self, Bool.and_true, Bool.true_and, Bool.and_self, Nat.zero_add, aSlice, aPanQ_none, aPan, cpan, calleeOf, srcOf, ofD, ofDs, outQ_ret, rvOf, rvsOf, aRet, zipT, runP, panP, hides, mapT, AV.toD, SV.toD, LV.toD, args0, args1, args2, tStr, tSl, rInt, decAllD_map, AV.plain, SV.plain, LV.plain, List.all_cons, List.all_nil, AV.ren, SV.ren, Blk.ren, List.append_assoc, Int.natCast_nonneg, gt_iff_lt, List.getD_eq_getElem?_getD, Option.getD_some, sz_3, row_3, kind_3, sz_5, row_5, zero_5, by_5, str_9, el_22, bs_22, el_23, sz_30, row_30, zero_30, off_30_3, bytesK, hI, hs3, hm1, hb1, hm2, hb2, ht1, hsd1, snocM, toBytes_length, hpos, hpos3, h5I, hB3, ht3, hsd3, decBytes, lex_run, lex_pan, hF3, toksV, plain_run, plain_pan, eqToks_run, eqToks_pan, hxn, hnil, hq1, hq2, hq3, hx1]
      · have h5I : ¬ ((B.length + 3 + behind.size : Nat) : Int) ≤ 512 := by omega
        simp only [List.map_nil, Nat.le_refl, Int.le_refl, take_map1, List.length_map, retQ, retD, Int.cast_ofNat_Int, aRun_nil, aRun_b, aRun_o0, aRun_o1, aRun_o2, aRun_skip, aRun_ret, aRun_seq, aRun_block, aRun_cond, aRun_region, aRun_exit, aRun_loop, afterQ_exit, aEx_some, aEx_none, aCont_some, aBr_true, aBr_false, aBr_bne, aGd_yes, aGd_tf, popTo, Int.reduceBEq, Int.reduceBNe, Int.reduceEq, Int.reduceToNat, List.not_mem_nil, roundQ_normal, roundQ_exit, aOp, evT, tget, putT, dstOk, gAt, setG, hget, aBin, aUn, aConv, aConvS, aLoad, aStore, aNew, aField, aIndexAt, fitsAt, bnd, aAppend, aLen, flatOf, cellsOf, splice, crun, List.getElem?_cons_zero, List.getElem?_cons_succ, List.map_cons, Option.map_some, Option.map_none, Int.toNat_natCast, Option.isSome_some, List.getElem?_map, reduceIte, reduceCtorEq, Nat.reduceEqDiff, Nat.reduceAdd, Nat.reduceLT, decide_true, decide_false, true_and, and_true, forall_const, not_false_eq_true, Bool.not_true, List.cons_append, List.nil_append, List.append_nil, ne_eq, List.take_succ_cons, List.take_zero, List.drop_succ_cons, List.drop_zero, List.length_cons, List.length_nil, List.set_cons_zero, Option.some.injEq, implies_true, Bool.false_eq_true, false_implies, and_self, Bool.and_true, Bool.true_and, Bool.and_self, Nat.zero_add, aSlice, aPanQ_none, aPan, cpan, calleeOf, srcOf, ofD, ofDs, outQ_ret, rvOf, rvsOf, aRet, zipT, runP, panP, hides, mapT, AV.toD, SV.toD, LV.toD, args0, args1, args2, tStr, tSl, rInt, decAllD_map, AV.plain, SV.plain, LV.plain, List.all_cons, List.all_nil, AV.ren, SV.ren, Blk.ren, List.append_assoc, Int.natCast_nonneg, gt_iff_lt, List.getD_eq_getElem?_getD, Option.getD_some, sz_3, row_3, kind_3, sz_5, row_5, zero_5, by_5, str_9, el_22, bs_22, el_23, sz_30, row_30, zero_30, off_30_3, bytesK, hI, hs3, hm1, hb1, hm2, hb2, ht1, hsd1, snocM, toBytes_length, hpos, hpos3, h5I]

end Go.Proofs.YtcdbldakjepjiaaDoor
