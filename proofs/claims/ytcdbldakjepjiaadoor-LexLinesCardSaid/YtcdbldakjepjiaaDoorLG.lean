/- Lines, the reference: numbers are read. -/
import Derived.Test.YtcdbldakjepjiaaDoorLF
import Derived.Test.YtcdbldakjepjiaaDoorL7
set_option linter.unusedVariables false
set_option linter.unusedSimpArgs false
namespace Go.Proofs.YtcdbldakjepjiaaDoor
open Go.RowKit
set_option maxRecDepth 100000

/-! ### Plain -/
theorem natL_nonneg {base : Int} (hb : 0 ≤ base) (l : List Int) : 0 ≤ natL base l := by
  suffices ∀ (l : List Int) (n : Int), 0 ≤ n → 0 ≤ l.foldl (fun n c => n * base + hexB c) n from this l 0 (Int.le_refl _)
  intro l
  induction l with
  | nil => exact fun n h => h
  | cons c l ih => exact fun n h => ih _ (by have := hexB_range c; have := Int.mul_nonneg h hb; show 0 ≤ n * base + hexB c; omega)
theorem take_snoc {l : List Int} {k : Nat} (h : k < l.length) : l.take (k + 1) = l.take k ++ [bAt l k] := by
  rw [List.take_add_one, bAt_get h]; rfl
theorem natL_mono {base : Int} (hb : 1 ≤ base) (l : List Int) : ∀ (j k : Nat), k ≤ k + j → natL base (l.take k) ≤ natL base (l.take (k + j))
  | 0, k, _ => Int.le_refl _
  | j + 1, k, _ => by
    have ih := natL_mono hb l j k (Nat.le_add_right _ _)
    rcases Nat.lt_or_ge (k + j) l.length with h | h
    · rw [← Nat.add_assoc, take_snoc h, natL_snoc]
      have h0 := natL_nonneg (by omega : 0 ≤ base) (l.take (k + j))
      have := hexB_range (bAt l (k + j))
      have : natL base (l.take (k + j)) * 1 ≤ natL base (l.take (k + j)) * base := Int.mul_le_mul_of_nonneg_left hb h0
      omega
    · rw [List.take_of_length_le (show l.length ≤ k + (j + 1) by omega)]; rw [List.take_of_length_le h] at ih; exact ih

/-- the number of the digits with which a text begins, how many there are; -1: too great -/
def basedF (base : Int) (l : List Int) : Int × Int := if 18446744073709551616 ≤ natL base (l.take (hexRun base l)) then (0, -1) else (natL base (l.take (hexRun base l)), hexRun base l)
def basedO (base : Int) (l : List Int) : AV := .tup [.l (.v (.int .u64 (basedF base l).1)), .l (.v (.int .i64 (basedF base l).2))]
def digs (base : Int) (s : ByteArray) (k : Nat) : Prop := k ≤ s.size ∧ (∀ j, j < k → hexB (byteAt s j) < base) ∧ natL base ((toBytes s).take k) < 18446744073709551616
theorem based_over {base : Int} {s : ByteArray} {k : Nat} (hb : 1 ≤ base) (h : digs base s k) (hk : k < s.size) (hg : hexB (byteAt s k) < base) (ho : 18446744073709551616 ≤ natL base ((toBytes s).take k) * base + hexB (byteAt s k)) : basedF base (toBytes s) = (0, -1) := by
  have hl := toBytes_length s
  have hrun : k + 1 ≤ hexRun base (toBytes s) := by
    rcases Nat.lt_or_ge k (hexRun base (toBytes s)) with h1 | h1
    · exact h1
    · exfalso
      have h2 := runL_stop (fun c => decide (hexB c < base)) (toBytes s) (by unfold hexRun at h1; omega)
      have h3 := decide_eq_false_iff_not.1 h2
      rcases Nat.lt_or_ge (runL (fun c => decide (hexB c < base)) (toBytes s)) k with h4 | h4
      · exact h3 (by rw [← byteAt_bAt]; exact h.2.1 _ h4)
      · have h5 : runL (fun c => decide (hexB c < base)) (toBytes s) = k := Nat.le_antisymm h1 h4
        rw [h5] at h3
        exact h3 (by rw [← byteAt_bAt]; exact hg)
  obtain ⟨j, hj⟩ : ∃ j, hexRun base (toBytes s) = k + 1 + j := ⟨hexRun base (toBytes s) - (k + 1), by omega⟩
  have hm := natL_mono hb (toBytes s) j (k + 1) (Nat.le_add_right _ _)
  rw [take_snoc (by omega), natL_snoc, ← byteAt_bAt, ← hj] at hm
  unfold basedF
  rw [if_pos (by omega)]
theorem based_end {base : Int} {s : ByteArray} {k : Nat} (h : digs base s k) (hx : k < s.size → ¬ hexB (byteAt s k) < base) : basedF base (toBytes s) = (natL base ((toBytes s).take k), (k : Int)) := by
  have hl := toBytes_length s
  have e : hexRun base (toBytes s) = k := runL_eq _ _ _ (by have := h.1; omega) (fun i hi => by rw [← byteAt_bAt]; exact decide_eq_true (h.2.1 i hi)) (fun hk => by rw [← byteAt_bAt]; exact decide_eq_false (hx (by omega)))
  unfold basedF
  rw [e, if_neg (by have := h.2.2; omega)]

set_option maxHeartbeats 2000000 in
theorem based_sw (s : ByteArray) (base : Int) (hs : s.size ≤ 1099511627776) (hb : base = 2 ∨ base = 10 ∨ base = 16) : SW Tryd.prog ⟨none, 0⟩ Tryd.f103.ntmps (Tryd.f103.body.getD .skip) ⟨0, zipT 0 [tStr.enc s, (tInt .i64).enc base], []⟩ (outQ Tryd.prog Tryd.f103.results.toList (.ret (basedO base (toBytes s)))) := by
  refine aRun_sound (ctx := [⟨_, rhexS⟩]) 4000 ?_
  rw [Tryd.ntmps103, Tryd.results103]
  simp only [Tryd.f103, Option.getD_some, zipT]
  have hl : (toBytes s).length = s.size := toBytes_length s
  simp only [List.map_nil, retQ, retD, aRun_nil, aRun_b, aRun_o0, aRun_o1, aRun_o2, aRun_skip, aRun_ret, aRun_seq, aRun_block, aRun_cond, aRun_region, aRun_exit, aRun_loop, afterQ_exit, afterQ_ret, aEx_some, aEx_none, aCont_some, aBr_true, aBr_false, aGd_yes, aGd_tf, popTo, Int.reduceLE, roundQ_normal, roundQ_exit, roundQ_ret, aOp, evT, tget, putT, dstOk, gAt, setG, aBin, aConv, aIndex, aLen, flatOf, crun, List.getElem?_cons_zero, List.getElem?_cons_succ, List.map_cons, Option.map_some, reduceIte, reduceCtorEq, Nat.reduceEqDiff, Nat.reduceAdd, Nat.reduceLT, decide_true, decide_false, true_and, not_false_eq_true, List.nil_append, List.append_nil, ne_eq, List.length_nil, implies_true, and_self, Bool.true_and, Bool.and_self, Nat.zero_add, aPanQ_none, aPan, cpan, calleeOf, ofD, outQ_ret, rvOf, rvsOf, toSs, aRet, zipT, runP, panP, hides, mapT, AV.toD, SV.toD, LV.toD, args1, tInt, tStr, AV.plain, SV.plain, LV.plain, Int.natCast_nonneg, ge_iff_le, gt_iff_lt, Option.getD_some, row_3, str_9, kind_28]
  refine sw_loop (ι := Nat) (digs base s) (fun k => ⟨0, [(0, sv s), (1, iv base), (6, .s (.l (.v (.int .u64 (natL base ((toBytes s).take k)))))), (7, iv k)], []⟩) (fun k => s.size - k) 0 ⟨Nat.zero_le _, fun j hj => absurd hj (Nat.not_lt_zero _), by rw [List.take_zero]; show (0 : Int) < 18446744073709551616; decide⟩ (Wk.renL [] (by simp) (by simp) (by simp) rfl rfl) ?_
  intro k hd
  have hks := hd.1
  have hlt64 := hd.2.2
  have hn0 := natL_nonneg (show 0 ≤ base by omega) ((toBytes s).take k)
  refine aRun_sound (ctx := [⟨_, rhexS⟩]) 4000 ?_
  by_cases hlt : k < s.size
  · have hltI : (k : Int) < s.size := by omega
    have hr := byteAt_range s k
    have hh := hexB_range (byteAt s k)
    by_cases hg : hexB (byteAt s k) < base
    · have e1 : hexR (byteAt s k) = hexB (byteAt s k) := by unfold hexR; rw [if_neg (by omega)]
      have hsn : natL base ((toBytes s).take (k + 1)) = natL base ((toBytes s).take k) * base + hexB (byteAt s k) := by rw [take_snoc (by omega), natL_snoc, byteAt_bAt]
      have over := based_over (by omega) hd hlt hg
      have next : natL base ((toBytes s).take k) * base + hexB (byteAt s k) < 18446744073709551616 → digs base s (k + 1) := fun h => ⟨hlt, fun j hj => by
        rcases Nat.lt_or_ge j k with h1 | h1
        · exact hd.2.1 j h1
        · obtain rfl : j = k := by omega
          exact hg, by rw [hsn]; exact h⟩
      generalize natL base ((toBytes s).take k) = n at *
      generalize hexB (byteAt s k) = d at *
      have hd0 : (0 : Int) ≤ d := hh.1
      have ek : IntKind.i64.wrap ((k : Int) + 1) = ((k + 1 : Nat) : Int) := by rw [IntKind.wrap_i64]; omega
      have w1 : IntKind.u64.wrap d = d := by rw [IntKind.wrap_u64]; omega
      have w2 : IntKind.u64.wrap (18446744073709551615 - d) = 18446744073709551615 - d := by rw [IntKind.wrap_u64]; omega
      have w3 : IntKind.u64.wrap base = base := by rw [IntKind.wrap_u64]; omega
      have hb0 : ¬ base = 0 := by omega
      have hq : (18446744073709551615 - d).tdiv base = (18446744073709551615 - d) / base := Int.tdiv_eq_ediv_of_nonneg (by omega)
      have w4 : IntKind.u64.wrap ((18446744073709551615 - d) / base) = (18446744073709551615 - d) / base := by
        rw [IntKind.wrap_u64]
        rcases hb with rfl | rfl | rfl <;> omega
      by_cases ho : (18446744073709551615 - d) / base < n
      · have e := over (by rcases hb with rfl | rfl | rfl <;> omega)
        simp only [List.map_nil, retQ, retD, aRun_nil, aRun_b, aRun_o0, aRun_o1, aRun_o2, aRun_skip, aRun_ret, aRun_seq, aRun_block, aRun_cond, aRun_region, aRun_exit, aRun_loop, afterQ_exit, afterQ_ret, aEx_some, aEx_none, aCont_some, aBr_true, aBr_false, aGd_yes, aGd_tf, popTo, Int.reduceLE, roundQ_normal, roundQ_exit, roundQ_ret, aOp, evT, tget, putT, dstOk, gAt, setG, aBin, aConv, aIndex, aLen, flatOf, crun, List.getElem?_cons_zero, List.getElem?_cons_succ, List.map_cons, Option.map_some, reduceIte, reduceCtorEq, Nat.reduceEqDiff, Nat.reduceAdd, Nat.reduceLT, decide_true, decide_false, true_and, not_false_eq_true, List.nil_append, List.append_nil, ne_eq, List.length_nil, implies_true, and_self, Bool.true_and, Bool.and_self, Nat.zero_add, aPanQ_none, aPan, cpan, calleeOf, ofD, outQ_ret, rvOf, rvsOf, toSs, aRet, zipT, runP, panP, hides, mapT, AV.toD, SV.toD, LV.toD, args1, tInt, tStr, AV.plain, SV.plain, LV.plain, Int.natCast_nonneg, ge_iff_le, gt_iff_lt, Option.getD_some, row_3, str_9, kind_28, hltI, rhex_run, rhex_pan, hr, e1, hd0, hg, w1, w2, w3, hb0, hq, w4, ho, basedO, e]
      · have hn : n * base + d < 18446744073709551616 := by rcases hb with rfl | rfl | rfl <;> omega
        have hnb : 0 ≤ n * base := Int.mul_nonneg hn0 (by omega)
        have w5 : IntKind.u64.wrap (n * base) = n * base := by rw [IntKind.wrap_u64]; omega
        have w6 : IntKind.u64.wrap (n * base + d) = n * base + d := by rw [IntKind.wrap_u64]; omega
        simp only [List.map_nil, retQ, retD, aRun_nil, aRun_b, aRun_o0, aRun_o1, aRun_o2, aRun_skip, aRun_ret, aRun_seq, aRun_block, aRun_cond, aRun_region, aRun_exit, aRun_loop, afterQ_exit, afterQ_ret, aEx_some, aEx_none, aCont_some, aBr_true, aBr_false, aGd_yes, aGd_tf, popTo, Int.reduceLE, roundQ_normal, roundQ_exit, roundQ_ret, aOp, evT, tget, putT, dstOk, gAt, setG, aBin, aConv, aIndex, aLen, flatOf, crun, List.getElem?_cons_zero, List.getElem?_cons_succ, List.map_cons, Option.map_some, reduceIte, reduceCtorEq, Nat.reduceEqDiff, Nat.reduceAdd, Nat.reduceLT, decide_true, decide_false, true_and, not_false_eq_true, List.nil_append, List.append_nil, ne_eq, List.length_nil, implies_true, and_self, Bool.true_and, Bool.and_self, Nat.zero_add, aPanQ_none, aPan, cpan, calleeOf, ofD, outQ_ret, rvOf, rvsOf, toSs, aRet, zipT, runP, panP, hides, mapT, AV.toD, SV.toD, LV.toD, args1, tInt, tStr, AV.plain, SV.plain, LV.plain, Int.natCast_nonneg, ge_iff_le, gt_iff_lt, Option.getD_some, row_3, str_9, kind_28, hltI, rhex_run, rhex_pan, hr, e1, hd0, hg, w1, w2, w3, hb0, hq, w4, ho, w5, w6, ek]
        exact ⟨k + 1, next hn, by omega, Wk.renL [] (by simp) (by simp) (by simp) (by rw [hsn]; rfl) rfl⟩
    · have e := based_end hd (fun _ => hg)
      by_cases h16 : hexB (byteAt s k) = 16
      · have e1 : hexR (byteAt s k) = -1 := by unfold hexR; rw [if_pos h16]
        simp only [List.map_nil, retQ, retD, aRun_nil, aRun_b, aRun_o0, aRun_o1, aRun_o2, aRun_skip, aRun_ret, aRun_seq, aRun_block, aRun_cond, aRun_region, aRun_exit, aRun_loop, afterQ_exit, afterQ_ret, aEx_some, aEx_none, aCont_some, aBr_true, aBr_false, aGd_yes, aGd_tf, popTo, Int.reduceLE, roundQ_normal, roundQ_exit, roundQ_ret, aOp, evT, tget, putT, dstOk, gAt, setG, aBin, aConv, aIndex, aLen, flatOf, crun, List.getElem?_cons_zero, List.getElem?_cons_succ, List.map_cons, Option.map_some, reduceIte, reduceCtorEq, Nat.reduceEqDiff, Nat.reduceAdd, Nat.reduceLT, decide_true, decide_false, true_and, not_false_eq_true, List.nil_append, List.append_nil, ne_eq, List.length_nil, implies_true, and_self, Bool.true_and, Bool.and_self, Nat.zero_add, aPanQ_none, aPan, cpan, calleeOf, ofD, outQ_ret, rvOf, rvsOf, toSs, aRet, zipT, runP, panP, hides, mapT, AV.toD, SV.toD, LV.toD, args1, tInt, tStr, AV.plain, SV.plain, LV.plain, Int.natCast_nonneg, ge_iff_le, gt_iff_lt, Option.getD_some, row_3, str_9, kind_28, hltI, rhex_run, rhex_pan, hr, e1, basedO, e]
      · have e1 : hexR (byteAt s k) = hexB (byteAt s k) := by unfold hexR; rw [if_neg h16]
        have hd0 : (0 : Int) ≤ hexB (byteAt s k) := hh.1
        simp only [List.map_nil, retQ, retD, aRun_nil, aRun_b, aRun_o0, aRun_o1, aRun_o2, aRun_skip, aRun_ret, aRun_seq, aRun_block, aRun_cond, aRun_region, aRun_exit, aRun_loop, afterQ_exit, afterQ_ret, aEx_some, aEx_none, aCont_some, aBr_true, aBr_false, aGd_yes, aGd_tf, popTo, Int.reduceLE, roundQ_normal, roundQ_exit, roundQ_ret, aOp, evT, tget, putT, dstOk, gAt, setG, aBin, aConv, aIndex, aLen, flatOf, crun, List.getElem?_cons_zero, List.getElem?_cons_succ, List.map_cons, Option.map_some, reduceIte, reduceCtorEq, Nat.reduceEqDiff, Nat.reduceAdd, Nat.reduceLT, decide_true, decide_false, true_and, not_false_eq_true, List.nil_append, List.append_nil, ne_eq, List.length_nil, implies_true, and_self, Bool.true_and, Bool.and_self, Nat.zero_add, aPanQ_none, aPan, cpan, calleeOf, ofD, outQ_ret, rvOf, rvsOf, toSs, aRet, zipT, runP, panP, hides, mapT, AV.toD, SV.toD, LV.toD, args1, tInt, tStr, AV.plain, SV.plain, LV.plain, Int.natCast_nonneg, ge_iff_le, gt_iff_lt, Option.getD_some, row_3, str_9, kind_28, hltI, rhex_run, rhex_pan, hr, e1, hd0, hg, basedO, e]
  · have hltI : ¬ (k : Int) < s.size := by omega
    have e := based_end hd (fun h => absurd h hlt)
    simp only [List.map_nil, retQ, retD, aRun_nil, aRun_b, aRun_o0, aRun_o1, aRun_o2, aRun_skip, aRun_ret, aRun_seq, aRun_block, aRun_cond, aRun_region, aRun_exit, aRun_loop, afterQ_exit, afterQ_ret, aEx_some, aEx_none, aCont_some, aBr_true, aBr_false, aGd_yes, aGd_tf, popTo, Int.reduceLE, roundQ_normal, roundQ_exit, roundQ_ret, aOp, evT, tget, putT, dstOk, gAt, setG, aBin, aConv, aIndex, aLen, flatOf, crun, List.getElem?_cons_zero, List.getElem?_cons_succ, List.map_cons, Option.map_some, reduceIte, reduceCtorEq, Nat.reduceEqDiff, Nat.reduceAdd, Nat.reduceLT, decide_true, decide_false, true_and, not_false_eq_true, List.nil_append, List.append_nil, ne_eq, List.length_nil, implies_true, and_self, Bool.true_and, Bool.and_self, Nat.zero_add, aPanQ_none, aPan, cpan, calleeOf, ofD, outQ_ret, rvOf, rvsOf, toSs, aRet, zipT, runP, panP, hides, mapT, AV.toD, SV.toD, LV.toD, args1, tInt, tStr, AV.plain, SV.plain, LV.plain, Int.natCast_nonneg, ge_iff_le, gt_iff_lt, Option.getD_some, row_3, str_9, kind_28, hltI, basedO, e]
theorem en_based (args : Array Value) (w : World) : (callFunc 103 args).run Tryd.prog w = .ok (.enter 103 args) w := by go_simp
def basedS : Spec Tryd.prog 103 :=
  mk2 _ _ _ Tryd.func103 rfl en_based (tStr) (tInt .i64) ((fun s base => s.size ≤ 1099511627776 ∧ (base = 2 ∨ base = 10 ∨ base = 16))) ((fun s base => .ret (basedO base (toBytes s)))) (by rw [Tryd.ntmps103]; decide) (fun s base h => based_sw s base h.1 h.2)
theorem based_run {id : Nat} {h : Heap} {args : List AV} : (basedS).run id h args = runP (args2 (tStr) (tInt .i64) ((fun s base => s.size ≤ 1099511627776 ∧ (base = 2 ∨ base = 10 ∨ base = 16)))) (fun x => ((fun s base => .ret (basedO base (toBytes s)))) x.1 x.2) h args := rfl
theorem based_pan {id : Nat} {h : Heap} {args : List AV} : (basedS).pan id h args = panP (args2 (tStr) (tInt .i64) ((fun s base => s.size ≤ 1099511627776 ∧ (base = 2 ∨ base = 10 ∨ base = 16)))) (fun x => ((fun s base => .ret (basedO base (toBytes s)))) x.1 x.2) h args := rfl

/-! ### Numbers -/
set_option maxHeartbeats 4000000 in
theorem rnumber_sw (s : ByteArray) (h0 : 0 < s.size) (hs : s.size ≤ 1099511627776) : SW Tryd.prog ⟨none, 0⟩ Tryd.f80.ntmps (Tryd.f80.body.getD .skip) ⟨0, zipT 0 [tStr.enc s], []⟩ (outQ Tryd.prog Tryd.f80.results.toList (.ret (numO (toBytes s)))) := by
  refine aRun_sound (ctx := [⟨_, basedS⟩]) 4000 ?_
  rw [Tryd.ntmps80, Tryd.results80]
  simp only [Tryd.f80, Option.getD_some, zipT]
  have hl : (toBytes s).length = s.size := toBytes_length s
  have hpI : (0 : Int) < s.size := by omega
  have hb0 := byteAt_bAt0 s
  have hb1 := byteAt_bAt1 s
  have hb2 := byteAt_bAt2 s
  have hr := byteAt_range s 1
  by_cases hq : byteAt s 0 = 39
  · have hF : numberL (toBytes s) = if 3 ≤ s.size ∧ byteAt s 2 = 39 ∧ shownB (byteAt s 1) = true ∧ byteAt s 1 ≠ 39 ∧ byteAt s 1 ≠ 92 then (byteAt s 1, 3) else (0, 0) := by
      unfold numberL; rw [if_pos (by rw [← hb0]; exact hq), hl, ← hb1, ← hb2]
    have hsh : shownB (byteAt s 1) = true ↔ ¬ byteAt s 1 < 32 ∧ ¬ 126 < byteAt s 1 := by unfold shownB; rw [decide_eq_true_eq]; omega
    have hbad : ¬ (3 ≤ s.size ∧ byteAt s 2 = 39 ∧ shownB (byteAt s 1) = true ∧ byteAt s 1 ≠ 39 ∧ byteAt s 1 ≠ 92) → numO (toBytes s) = .tup [.l (.v (.int .u64 0)), .l (.v (.int .i64 0))] := fun h => by unfold numO; rw [hF, if_neg h]; rfl
    by_cases c1 : s.size < 3
    · have c1I : (s.size : Int) < 3 := by omega
      have e := hbad (by omega)
      simp only [List.map_nil, Int.le_refl, retQ, retD, aRun_o0, aRun_o1, aRun_o2, aRun_skip, aRun_ret, aRun_seq, aRun_cond, aRun_region, aCont_some, aBr_true, aBr_false, aBr_beq, aGd_yes, aGd_skip, aGd_tf, aGd_ft, aGd_dec_t, aGd_beq, aGd_bne, Int.reduceBEq, Int.reduceBNe, Int.reduceEq, Int.reduceLT, Int.reduceLE, Int.reduceToNat, aOp, evT, tget, putT, dstOk, gAt, setG, aBin, aConv, aIndex, bnd, aLen, flatOf, crun, List.getElem?_cons_zero, List.getElem?_cons_succ, List.map_cons, Option.map_some, Option.map_none, Int.toNat_natCast, reduceIte, reduceCtorEq, Nat.reduceEqDiff, Nat.reduceAdd, Nat.reduceLT, decide_true, decide_false, true_and, and_true, forall_const, not_false_eq_true, List.nil_append, List.append_nil, or_true, or_false, implies_true, false_implies, and_self, Bool.and_true, Bool.true_and, Bool.and_self, Nat.zero_add, aSlice, aPanQ_none, aPan, cpan, calleeOf, ofD, outQ_ret, rvOf, rvsOf, toSs, aRet, zipT, runP, panP, hides, mapT, AV.toD, SV.toD, LV.toD, args2, tInt, tStr, AV.plain, SV.plain, LV.plain, List.all_cons, List.all_nil, gt_iff_lt, Option.getD_some, PO.ret.injEq, row_5, str_9, kind_28, hpI, hq, c1I, e]
    have c1I : ¬ (s.size : Int) < 3 := by omega
    have p1 : (1 : Int) < s.size := by omega
    have p2 : (2 : Int) < s.size := by omega
    by_cases c2 : byteAt s 2 = 39
    case neg =>
      have e := hbad (fun h => c2 h.2.1)
      simp only [List.map_nil, Int.le_refl, retQ, retD, aRun_o0, aRun_o1, aRun_o2, aRun_skip, aRun_ret, aRun_seq, aRun_cond, aRun_region, aCont_some, aBr_true, aBr_false, aBr_beq, aGd_yes, aGd_skip, aGd_tf, aGd_ft, aGd_dec_t, aGd_beq, aGd_bne, Int.reduceBEq, Int.reduceBNe, Int.reduceEq, Int.reduceLT, Int.reduceLE, Int.reduceToNat, aOp, evT, tget, putT, dstOk, gAt, setG, aBin, aConv, aIndex, bnd, aLen, flatOf, crun, List.getElem?_cons_zero, List.getElem?_cons_succ, List.map_cons, Option.map_some, Option.map_none, Int.toNat_natCast, reduceIte, reduceCtorEq, Nat.reduceEqDiff, Nat.reduceAdd, Nat.reduceLT, decide_true, decide_false, true_and, and_true, forall_const, not_false_eq_true, List.nil_append, List.append_nil, or_true, or_false, implies_true, false_implies, and_self, Bool.and_true, Bool.true_and, Bool.and_self, Nat.zero_add, aSlice, aPanQ_none, aPan, cpan, calleeOf, ofD, outQ_ret, rvOf, rvsOf, toSs, aRet, zipT, runP, panP, hides, mapT, AV.toD, SV.toD, LV.toD, args2, tInt, tStr, AV.plain, SV.plain, LV.plain, List.all_cons, List.all_nil, gt_iff_lt, Option.getD_some, PO.ret.injEq, row_5, str_9, kind_28, hpI, hq, c1I, p2, c2, e]
    by_cases c3 : byteAt s 1 < 32
    · have e := hbad (fun h => (hsh.1 h.2.2.1).1 c3)
      simp only [List.map_nil, Int.le_refl, retQ, retD, aRun_o0, aRun_o1, aRun_o2, aRun_skip, aRun_ret, aRun_seq, aRun_cond, aRun_region, aCont_some, aBr_true, aBr_false, aBr_beq, aGd_yes, aGd_skip, aGd_tf, aGd_ft, aGd_dec_t, aGd_beq, aGd_bne, Int.reduceBEq, Int.reduceBNe, Int.reduceEq, Int.reduceLT, Int.reduceLE, Int.reduceToNat, aOp, evT, tget, putT, dstOk, gAt, setG, aBin, aConv, aIndex, bnd, aLen, flatOf, crun, List.getElem?_cons_zero, List.getElem?_cons_succ, List.map_cons, Option.map_some, Option.map_none, Int.toNat_natCast, reduceIte, reduceCtorEq, Nat.reduceEqDiff, Nat.reduceAdd, Nat.reduceLT, decide_true, decide_false, true_and, and_true, forall_const, not_false_eq_true, List.nil_append, List.append_nil, or_true, or_false, implies_true, false_implies, and_self, Bool.and_true, Bool.true_and, Bool.and_self, Nat.zero_add, aSlice, aPanQ_none, aPan, cpan, calleeOf, ofD, outQ_ret, rvOf, rvsOf, toSs, aRet, zipT, runP, panP, hides, mapT, AV.toD, SV.toD, LV.toD, args2, tInt, tStr, AV.plain, SV.plain, LV.plain, List.all_cons, List.all_nil, gt_iff_lt, Option.getD_some, PO.ret.injEq, row_5, str_9, kind_28, hpI, hq, c1I, p1, p2, c2, c3, e]
    by_cases c3' : 126 < byteAt s 1
    · have e := hbad (fun h => (hsh.1 h.2.2.1).2 c3')
      simp only [List.map_nil, Int.le_refl, retQ, retD, aRun_o0, aRun_o1, aRun_o2, aRun_skip, aRun_ret, aRun_seq, aRun_cond, aRun_region, aCont_some, aBr_true, aBr_false, aBr_beq, aGd_yes, aGd_skip, aGd_tf, aGd_ft, aGd_dec_t, aGd_beq, aGd_bne, Int.reduceBEq, Int.reduceBNe, Int.reduceEq, Int.reduceLT, Int.reduceLE, Int.reduceToNat, aOp, evT, tget, putT, dstOk, gAt, setG, aBin, aConv, aIndex, bnd, aLen, flatOf, crun, List.getElem?_cons_zero, List.getElem?_cons_succ, List.map_cons, Option.map_some, Option.map_none, Int.toNat_natCast, reduceIte, reduceCtorEq, Nat.reduceEqDiff, Nat.reduceAdd, Nat.reduceLT, decide_true, decide_false, true_and, and_true, forall_const, not_false_eq_true, List.nil_append, List.append_nil, or_true, or_false, implies_true, false_implies, and_self, Bool.and_true, Bool.true_and, Bool.and_self, Nat.zero_add, aSlice, aPanQ_none, aPan, cpan, calleeOf, ofD, outQ_ret, rvOf, rvsOf, toSs, aRet, zipT, runP, panP, hides, mapT, AV.toD, SV.toD, LV.toD, args2, tInt, tStr, AV.plain, SV.plain, LV.plain, List.all_cons, List.all_nil, gt_iff_lt, Option.getD_some, PO.ret.injEq, row_5, str_9, kind_28, hpI, hq, c1I, p1, p2, c2, c3, c3', e]
    by_cases c4 : byteAt s 1 = 39
    · have e := hbad (fun h => h.2.2.2.1 c4)
      simp only [List.map_nil, Int.le_refl, retQ, retD, aRun_o0, aRun_o1, aRun_o2, aRun_skip, aRun_ret, aRun_seq, aRun_cond, aRun_region, aCont_some, aBr_true, aBr_false, aBr_beq, aGd_yes, aGd_skip, aGd_tf, aGd_ft, aGd_dec_t, aGd_beq, aGd_bne, Int.reduceBEq, Int.reduceBNe, Int.reduceEq, Int.reduceLT, Int.reduceLE, Int.reduceToNat, aOp, evT, tget, putT, dstOk, gAt, setG, aBin, aConv, aIndex, bnd, aLen, flatOf, crun, List.getElem?_cons_zero, List.getElem?_cons_succ, List.map_cons, Option.map_some, Option.map_none, Int.toNat_natCast, reduceIte, reduceCtorEq, Nat.reduceEqDiff, Nat.reduceAdd, Nat.reduceLT, decide_true, decide_false, true_and, and_true, forall_const, not_false_eq_true, List.nil_append, List.append_nil, or_true, or_false, implies_true, false_implies, and_self, Bool.and_true, Bool.true_and, Bool.and_self, Nat.zero_add, aSlice, aPanQ_none, aPan, cpan, calleeOf, ofD, outQ_ret, rvOf, rvsOf, toSs, aRet, zipT, runP, panP, hides, mapT, AV.toD, SV.toD, LV.toD, args2, tInt, tStr, AV.plain, SV.plain, LV.plain, List.all_cons, List.all_nil, gt_iff_lt, Option.getD_some, PO.ret.injEq, row_5, str_9, kind_28, hpI, hq, c1I, p1, p2, c2, c3, c3', c4, e]
    by_cases c5 : byteAt s 1 = 92
    · have e := hbad (fun h => h.2.2.2.2 c5)
      simp only [List.map_nil, Int.le_refl, retQ, retD, aRun_o0, aRun_o1, aRun_o2, aRun_skip, aRun_ret, aRun_seq, aRun_cond, aRun_region, aCont_some, aBr_true, aBr_false, aBr_beq, aGd_yes, aGd_skip, aGd_tf, aGd_ft, aGd_dec_t, aGd_beq, aGd_bne, Int.reduceBEq, Int.reduceBNe, Int.reduceEq, Int.reduceLT, Int.reduceLE, Int.reduceToNat, aOp, evT, tget, putT, dstOk, gAt, setG, aBin, aConv, aIndex, bnd, aLen, flatOf, crun, List.getElem?_cons_zero, List.getElem?_cons_succ, List.map_cons, Option.map_some, Option.map_none, Int.toNat_natCast, reduceIte, reduceCtorEq, Nat.reduceEqDiff, Nat.reduceAdd, Nat.reduceLT, decide_true, decide_false, true_and, and_true, forall_const, not_false_eq_true, List.nil_append, List.append_nil, or_true, or_false, implies_true, false_implies, and_self, Bool.and_true, Bool.true_and, Bool.and_self, Nat.zero_add, aSlice, aPanQ_none, aPan, cpan, calleeOf, ofD, outQ_ret, rvOf, rvsOf, toSs, aRet, zipT, runP, panP, hides, mapT, AV.toD, SV.toD, LV.toD, args2, tInt, tStr, AV.plain, SV.plain, LV.plain, List.all_cons, List.all_nil, gt_iff_lt, Option.getD_some, PO.ret.injEq, row_5, str_9, kind_28, hpI, hq, c1I, p1, p2, c2, c3, c3', c4, c5, e]
    have e : numO (toBytes s) = .tup [.l (.v (.int .u64 (byteAt s 1))), .l (.v (.int .i64 3))] := by unfold numO; rw [hF, if_pos ⟨by omega, c2, hsh.2 ⟨c3, c3'⟩, c4, c5⟩]; rfl
    have ew : IntKind.u64.wrap (byteAt s 1) = byteAt s 1 := by rw [IntKind.wrap_u64]; omega
    simp only [List.map_nil, Int.le_refl, retQ, retD, aRun_o0, aRun_o1, aRun_o2, aRun_skip, aRun_ret, aRun_seq, aRun_cond, aRun_region, aCont_some, aBr_true, aBr_false, aBr_beq, aGd_yes, aGd_skip, aGd_tf, aGd_ft, aGd_dec_t, aGd_beq, aGd_bne, Int.reduceBEq, Int.reduceBNe, Int.reduceEq, Int.reduceLT, Int.reduceLE, Int.reduceToNat, aOp, evT, tget, putT, dstOk, gAt, setG, aBin, aConv, aIndex, bnd, aLen, flatOf, crun, List.getElem?_cons_zero, List.getElem?_cons_succ, List.map_cons, Option.map_some, Option.map_none, Int.toNat_natCast, reduceIte, reduceCtorEq, Nat.reduceEqDiff, Nat.reduceAdd, Nat.reduceLT, decide_true, decide_false, true_and, and_true, forall_const, not_false_eq_true, List.nil_append, List.append_nil, or_true, or_false, implies_true, false_implies, and_self, Bool.and_true, Bool.true_and, Bool.and_self, Nat.zero_add, aSlice, aPanQ_none, aPan, cpan, calleeOf, ofD, outQ_ret, rvOf, rvsOf, toSs, aRet, zipT, runP, panP, hides, mapT, AV.toD, SV.toD, LV.toD, args2, tInt, tStr, AV.plain, SV.plain, LV.plain, List.all_cons, List.all_nil, gt_iff_lt, Option.getD_some, PO.ret.injEq, row_5, str_9, kind_28, hpI, hq, c1I, p1, p2, c2, c3, c3', c4, c5, ew, e]
  have hF : ∀ base head, baseL (toBytes s) = base → headL (toBytes s) = head → numberL (toBytes s) = if (basedF base ((toBytes s).drop head)).2 < 1 ∨ head = 0 ∧ 1 < (basedF base ((toBytes s).drop head)).2 ∧ byteAt s 0 = 48 then (0, 0)
      else ((basedF base ((toBytes s).drop head)).1, head + (basedF base ((toBytes s).drop head)).2.toNat) := by
    intro base head e1 e2
    unfold numberL basedF
    rw [if_neg (by rw [← hb0]; exact hq), e1, e2, ← hb0]
    by_cases k1 : 18446744073709551616 ≤ natL base (((toBytes s).drop head).take (hexRun base ((toBytes s).drop head)))
    · simp only [if_pos k1]
      rw [ite_self]
      exact (if_pos (.inl (by decide))).symm
    · rw [if_neg k1, if_neg k1]
      by_cases k2 : hexRun base ((toBytes s).drop head) = 0 ∨ head = 0 ∧ 1 < hexRun base ((toBytes s).drop head) ∧ byteAt s 0 = 48
      · rw [if_pos k2, if_pos (by simp only; omega)]
      · rw [if_neg k2, if_neg (by simp only; omega)]; rfl
  have hle : ∀ base head, head ≤ s.size → (basedF base ((toBytes s).drop head)).2 ≤ s.size - head := by
    intro base head hhd
    unfold basedF
    have : hexRun base ((toBytes s).drop head) ≤ ((toBytes s).drop head).length := runL_le _ _
    rw [List.length_drop, hl] at this
    split
    · simp only; omega
    · simp only; omega
  by_cases k : 1 < s.size ∧ byteAt s 0 = 48 ∧ (byteAt s 1 = 120 ∨ byteAt s 1 = 98)
  · obtain ⟨p1, z, kk⟩ := k
    have p1I : (1 : Int) < s.size := by omega
    have p2 : (2 : Int) ≤ s.size := by omega
    have hs2 : (s.extract 2 s.size).size ≤ 1099511627776 := by rw [← toBytes_length, toBytes_drop, List.length_drop, hl]; omega
    have hd2 : toBytes (s.extract 2 s.size) = (toBytes s).drop 2 := toBytes_drop s 2
    have hH : headL (toBytes s) = 2 := by unfold headL; rw [if_pos (by rw [hl, ← hb0, ← hb1]; exact ⟨p1, z, kk⟩)]
    rcases kk with kk | kk
    · have hB : baseL (toBytes s) = 16 := by unfold baseL; rw [if_pos (by rw [hl, ← hb0, ← hb1]; exact ⟨p1, z, kk⟩)]
      have hF := hF 16 2 hB hH
      have hle := hle 16 2 (by omega)
      generalize he : basedF 16 ((toBytes s).drop 2) = r at *
      obtain ⟨n, m⟩ := r
      simp only at hF hle
      by_cases m1 : m < 1
      · have e : numO (toBytes s) = .tup [.l (.v (.int .u64 0)), .l (.v (.int .i64 0))] := by unfold numO; rw [hF, if_pos (.inl m1)]; rfl
        simp only [List.map_nil, Int.le_refl, retQ, retD, aRun_o0, aRun_o1, aRun_o2, aRun_skip, aRun_ret, aRun_seq, aRun_cond, aRun_region, aCont_some, aBr_true, aBr_false, aBr_beq, aGd_yes, aGd_skip, aGd_tf, aGd_ft, aGd_dec_t, aGd_beq, aGd_bne, Int.reduceBEq, Int.reduceBNe, Int.reduceEq, Int.reduceLT, Int.reduceLE, Int.reduceToNat, aOp, evT, tget, putT, dstOk, gAt, setG, aBin, aConv, aIndex, bnd, aLen, flatOf, crun, List.getElem?_cons_zero, List.getElem?_cons_succ, List.map_cons, Option.map_some, Option.map_none, Int.toNat_natCast, reduceIte, reduceCtorEq, Nat.reduceEqDiff, Nat.reduceAdd, Nat.reduceLT, decide_true, decide_false, true_and, and_true, forall_const, not_false_eq_true, List.nil_append, List.append_nil, or_true, or_false, implies_true, false_implies, and_self, Bool.and_true, Bool.true_and, Bool.and_self, Nat.zero_add, aSlice, aPanQ_none, aPan, cpan, calleeOf, ofD, outQ_ret, rvOf, rvsOf, toSs, aRet, zipT, runP, panP, hides, mapT, AV.toD, SV.toD, LV.toD, args2, tInt, tStr, AV.plain, SV.plain, LV.plain, List.all_cons, List.all_nil, gt_iff_lt, Option.getD_some, PO.ret.injEq, row_5, str_9, kind_28, hpI, hq, p1I, p2, z, kk, based_run, based_pan, basedO, hs2, hd2, he, m1, e]
      · have ew : IntKind.i64.wrap (2 + m) = 2 + m := by rw [IntKind.wrap_i64]; omega
        have e : numO (toBytes s) = .tup [.l (.v (.int .u64 n)), .l (.v (.int .i64 (2 + m)))] := by unfold numO; rw [hF, if_neg (by omega)]; simp only [Int.natCast_add]; rw [Int.toNat_of_nonneg (by omega)]; rfl
        simp only [List.map_nil, Int.le_refl, retQ, retD, aRun_o0, aRun_o1, aRun_o2, aRun_skip, aRun_ret, aRun_seq, aRun_cond, aRun_region, aCont_some, aBr_true, aBr_false, aBr_beq, aGd_yes, aGd_skip, aGd_tf, aGd_ft, aGd_dec_t, aGd_beq, aGd_bne, Int.reduceBEq, Int.reduceBNe, Int.reduceEq, Int.reduceLT, Int.reduceLE, Int.reduceToNat, aOp, evT, tget, putT, dstOk, gAt, setG, aBin, aConv, aIndex, bnd, aLen, flatOf, crun, List.getElem?_cons_zero, List.getElem?_cons_succ, List.map_cons, Option.map_some, Option.map_none, Int.toNat_natCast, reduceIte, reduceCtorEq, Nat.reduceEqDiff, Nat.reduceAdd, Nat.reduceLT, decide_true, decide_false, true_and, and_true, forall_const, not_false_eq_true, List.nil_append, List.append_nil, or_true, or_false, implies_true, false_implies, and_self, Bool.and_true, Bool.true_and, Bool.and_self, Nat.zero_add, aSlice, aPanQ_none, aPan, cpan, calleeOf, ofD, outQ_ret, rvOf, rvsOf, toSs, aRet, zipT, runP, panP, hides, mapT, AV.toD, SV.toD, LV.toD, args2, tInt, tStr, AV.plain, SV.plain, LV.plain, List.all_cons, List.all_nil, gt_iff_lt, Option.getD_some, PO.ret.injEq, row_5, str_9, kind_28, hpI, hq, p1I, p2, z, kk, based_run, based_pan, basedO, hs2, hd2, he, m1, ew, e]
    · have hB : baseL (toBytes s) = 2 := by unfold baseL; rw [if_neg (by rw [← hb1]; omega), if_pos (by rw [hl, ← hb0, ← hb1]; exact ⟨p1, z, kk⟩)]
      have hF := hF 2 2 hB hH
      have hle := hle 2 2 (by omega)
      generalize he : basedF 2 ((toBytes s).drop 2) = r at *
      obtain ⟨n, m⟩ := r
      simp only at hF hle
      by_cases m1 : m < 1
      · have e : numO (toBytes s) = .tup [.l (.v (.int .u64 0)), .l (.v (.int .i64 0))] := by unfold numO; rw [hF, if_pos (.inl m1)]; rfl
        simp only [List.map_nil, Int.le_refl, retQ, retD, aRun_o0, aRun_o1, aRun_o2, aRun_skip, aRun_ret, aRun_seq, aRun_cond, aRun_region, aCont_some, aBr_true, aBr_false, aBr_beq, aGd_yes, aGd_skip, aGd_tf, aGd_ft, aGd_dec_t, aGd_beq, aGd_bne, Int.reduceBEq, Int.reduceBNe, Int.reduceEq, Int.reduceLT, Int.reduceLE, Int.reduceToNat, aOp, evT, tget, putT, dstOk, gAt, setG, aBin, aConv, aIndex, bnd, aLen, flatOf, crun, List.getElem?_cons_zero, List.getElem?_cons_succ, List.map_cons, Option.map_some, Option.map_none, Int.toNat_natCast, reduceIte, reduceCtorEq, Nat.reduceEqDiff, Nat.reduceAdd, Nat.reduceLT, decide_true, decide_false, true_and, and_true, forall_const, not_false_eq_true, List.nil_append, List.append_nil, or_true, or_false, implies_true, false_implies, and_self, Bool.and_true, Bool.true_and, Bool.and_self, Nat.zero_add, aSlice, aPanQ_none, aPan, cpan, calleeOf, ofD, outQ_ret, rvOf, rvsOf, toSs, aRet, zipT, runP, panP, hides, mapT, AV.toD, SV.toD, LV.toD, args2, tInt, tStr, AV.plain, SV.plain, LV.plain, List.all_cons, List.all_nil, gt_iff_lt, Option.getD_some, PO.ret.injEq, row_5, str_9, kind_28, hpI, hq, p1I, p2, z, kk, based_run, based_pan, basedO, hs2, hd2, he, m1, e]
      · have ew : IntKind.i64.wrap (2 + m) = 2 + m := by rw [IntKind.wrap_i64]; omega
        have e : numO (toBytes s) = .tup [.l (.v (.int .u64 n)), .l (.v (.int .i64 (2 + m)))] := by unfold numO; rw [hF, if_neg (by omega)]; simp only [Int.natCast_add]; rw [Int.toNat_of_nonneg (by omega)]; rfl
        simp only [List.map_nil, Int.le_refl, retQ, retD, aRun_o0, aRun_o1, aRun_o2, aRun_skip, aRun_ret, aRun_seq, aRun_cond, aRun_region, aCont_some, aBr_true, aBr_false, aBr_beq, aGd_yes, aGd_skip, aGd_tf, aGd_ft, aGd_dec_t, aGd_beq, aGd_bne, Int.reduceBEq, Int.reduceBNe, Int.reduceEq, Int.reduceLT, Int.reduceLE, Int.reduceToNat, aOp, evT, tget, putT, dstOk, gAt, setG, aBin, aConv, aIndex, bnd, aLen, flatOf, crun, List.getElem?_cons_zero, List.getElem?_cons_succ, List.map_cons, Option.map_some, Option.map_none, Int.toNat_natCast, reduceIte, reduceCtorEq, Nat.reduceEqDiff, Nat.reduceAdd, Nat.reduceLT, decide_true, decide_false, true_and, and_true, forall_const, not_false_eq_true, List.nil_append, List.append_nil, or_true, or_false, implies_true, false_implies, and_self, Bool.and_true, Bool.true_and, Bool.and_self, Nat.zero_add, aSlice, aPanQ_none, aPan, cpan, calleeOf, ofD, outQ_ret, rvOf, rvsOf, toSs, aRet, zipT, runP, panP, hides, mapT, AV.toD, SV.toD, LV.toD, args2, tInt, tStr, AV.plain, SV.plain, LV.plain, List.all_cons, List.all_nil, gt_iff_lt, Option.getD_some, PO.ret.injEq, row_5, str_9, kind_28, hpI, hq, p1I, p2, z, kk, based_run, based_pan, basedO, hs2, hd2, he, m1, ew, e]
  have hB : baseL (toBytes s) = 10 := by unfold baseL; rw [if_neg (by rw [hl, ← hb0, ← hb1]; omega), if_neg (by rw [hl, ← hb0, ← hb1]; omega)]
  have hH : headL (toBytes s) = 0 := by unfold headL; rw [if_neg (by rw [hl, ← hb0, ← hb1]; exact k)]
  have hF := hF 10 0 hB hH
  have hle := hle 10 0 (by omega)
  have p2 : (0 : Int) ≤ s.size := by omega
  have hs2 : (s.extract 0 s.size).size ≤ 1099511627776 := by rw [← toBytes_length, toBytes_drop, List.length_drop, hl]; omega
  have hd2 : toBytes (s.extract 0 s.size) = toBytes s := by rw [toBytes_drop, List.drop_zero]
  rw [List.drop_zero] at hF hle
  generalize he : basedF 10 (toBytes s) = r at *
  obtain ⟨n, m⟩ := r
  simp only at hF hle
  by_cases p1 : 1 < s.size
  case neg =>
    have p1I : ¬ (1 : Int) < s.size := by omega
    by_cases m1 : m < 1
    · have e : numO (toBytes s) = .tup [.l (.v (.int .u64 0)), .l (.v (.int .i64 0))] := by unfold numO; rw [hF, if_pos (.inl m1)]; rfl
      simp only [List.map_nil, Int.le_refl, retQ, retD, aRun_o0, aRun_o1, aRun_o2, aRun_skip, aRun_ret, aRun_seq, aRun_cond, aRun_region, aCont_some, aBr_true, aBr_false, aBr_beq, aGd_yes, aGd_skip, aGd_tf, aGd_ft, aGd_dec_t, aGd_beq, aGd_bne, Int.reduceBEq, Int.reduceBNe, Int.reduceEq, Int.reduceLT, Int.reduceLE, Int.reduceToNat, aOp, evT, tget, putT, dstOk, gAt, setG, aBin, aConv, aIndex, bnd, aLen, flatOf, crun, List.getElem?_cons_zero, List.getElem?_cons_succ, List.map_cons, Option.map_some, Option.map_none, Int.toNat_natCast, reduceIte, reduceCtorEq, Nat.reduceEqDiff, Nat.reduceAdd, Nat.reduceLT, decide_true, decide_false, true_and, and_true, forall_const, not_false_eq_true, List.nil_append, List.append_nil, or_true, or_false, implies_true, false_implies, and_self, Bool.and_true, Bool.true_and, Bool.and_self, Nat.zero_add, aSlice, aPanQ_none, aPan, cpan, calleeOf, ofD, outQ_ret, rvOf, rvsOf, toSs, aRet, zipT, runP, panP, hides, mapT, AV.toD, SV.toD, LV.toD, args2, tInt, tStr, AV.plain, SV.plain, LV.plain, List.all_cons, List.all_nil, gt_iff_lt, Option.getD_some, PO.ret.injEq, row_5, str_9, kind_28, hpI, hq, p1I, p2, based_run, based_pan, basedO, hs2, hd2, he, m1, e]
    · have m2 : ¬ 1 < m := by omega
      have ew : IntKind.i64.wrap (0 + m) = m := by rw [IntKind.wrap_i64]; omega
      have e : numO (toBytes s) = .tup [.l (.v (.int .u64 n)), .l (.v (.int .i64 m))] := by unfold numO; rw [hF, if_neg (by omega)]; simp only [Nat.zero_add]; rw [Int.toNat_of_nonneg (by omega)]
      simp only [List.map_nil, Int.le_refl, retQ, retD, aRun_o0, aRun_o1, aRun_o2, aRun_skip, aRun_ret, aRun_seq, aRun_cond, aRun_region, aCont_some, aBr_true, aBr_false, aBr_beq, aGd_yes, aGd_skip, aGd_tf, aGd_ft, aGd_dec_t, aGd_beq, aGd_bne, Int.reduceBEq, Int.reduceBNe, Int.reduceEq, Int.reduceLT, Int.reduceLE, Int.reduceToNat, aOp, evT, tget, putT, dstOk, gAt, setG, aBin, aConv, aIndex, bnd, aLen, flatOf, crun, List.getElem?_cons_zero, List.getElem?_cons_succ, List.map_cons, Option.map_some, Option.map_none, Int.toNat_natCast, reduceIte, reduceCtorEq, Nat.reduceEqDiff, Nat.reduceAdd, Nat.reduceLT, decide_true, decide_false, true_and, and_true, forall_const, not_false_eq_true, List.nil_append, List.append_nil, or_true, or_false, implies_true, false_implies, and_self, Bool.and_true, Bool.true_and, Bool.and_self, Nat.zero_add, aSlice, aPanQ_none, aPan, cpan, calleeOf, ofD, outQ_ret, rvOf, rvsOf, toSs, aRet, zipT, runP, panP, hides, mapT, AV.toD, SV.toD, LV.toD, args2, tInt, tStr, AV.plain, SV.plain, LV.plain, List.all_cons, List.all_nil, gt_iff_lt, Option.getD_some, PO.ret.injEq, row_5, str_9, kind_28, hpI, hq, p1I, p2, based_run, based_pan, basedO, hs2, hd2, he, m1, m2, ew, e]
  have p1I : (1 : Int) < s.size := by omega
  by_cases z : byteAt s 0 = 48
  · have k1 : ¬ byteAt s 1 = 120 := fun h => k ⟨p1, z, .inl h⟩
    have k2 : ¬ byteAt s 1 = 98 := fun h => k ⟨p1, z, .inr h⟩
    by_cases m1 : m < 1
    · have e : numO (toBytes s) = .tup [.l (.v (.int .u64 0)), .l (.v (.int .i64 0))] := by unfold numO; rw [hF, if_pos (.inl m1)]; rfl
      simp only [List.map_nil, Int.le_refl, retQ, retD, aRun_o0, aRun_o1, aRun_o2, aRun_skip, aRun_ret, aRun_seq, aRun_cond, aRun_region, aCont_some, aBr_true, aBr_false, aBr_beq, aGd_yes, aGd_skip, aGd_tf, aGd_ft, aGd_dec_t, aGd_beq, aGd_bne, Int.reduceBEq, Int.reduceBNe, Int.reduceEq, Int.reduceLT, Int.reduceLE, Int.reduceToNat, aOp, evT, tget, putT, dstOk, gAt, setG, aBin, aConv, aIndex, bnd, aLen, flatOf, crun, List.getElem?_cons_zero, List.getElem?_cons_succ, List.map_cons, Option.map_some, Option.map_none, Int.toNat_natCast, reduceIte, reduceCtorEq, Nat.reduceEqDiff, Nat.reduceAdd, Nat.reduceLT, decide_true, decide_false, true_and, and_true, forall_const, not_false_eq_true, List.nil_append, List.append_nil, or_true, or_false, implies_true, false_implies, and_self, Bool.and_true, Bool.true_and, Bool.and_self, Nat.zero_add, aSlice, aPanQ_none, aPan, cpan, calleeOf, ofD, outQ_ret, rvOf, rvsOf, toSs, aRet, zipT, runP, panP, hides, mapT, AV.toD, SV.toD, LV.toD, args2, tInt, tStr, AV.plain, SV.plain, LV.plain, List.all_cons, List.all_nil, gt_iff_lt, Option.getD_some, PO.ret.injEq, row_5, str_9, kind_28, hpI, hq, p1I, p2, z, k1, k2, based_run, based_pan, basedO, hs2, hd2, he, m1, e]
    · by_cases m2 : 1 < m
      · have e : numO (toBytes s) = .tup [.l (.v (.int .u64 0)), .l (.v (.int .i64 0))] := by unfold numO; rw [hF, if_pos (.inr ⟨trivial, m2, z⟩)]; rfl
        simp only [List.map_nil, Int.le_refl, retQ, retD, aRun_o0, aRun_o1, aRun_o2, aRun_skip, aRun_ret, aRun_seq, aRun_cond, aRun_region, aCont_some, aBr_true, aBr_false, aBr_beq, aGd_yes, aGd_skip, aGd_tf, aGd_ft, aGd_dec_t, aGd_beq, aGd_bne, Int.reduceBEq, Int.reduceBNe, Int.reduceEq, Int.reduceLT, Int.reduceLE, Int.reduceToNat, aOp, evT, tget, putT, dstOk, gAt, setG, aBin, aConv, aIndex, bnd, aLen, flatOf, crun, List.getElem?_cons_zero, List.getElem?_cons_succ, List.map_cons, Option.map_some, Option.map_none, Int.toNat_natCast, reduceIte, reduceCtorEq, Nat.reduceEqDiff, Nat.reduceAdd, Nat.reduceLT, decide_true, decide_false, true_and, and_true, forall_const, not_false_eq_true, List.nil_append, List.append_nil, or_true, or_false, implies_true, false_implies, and_self, Bool.and_true, Bool.true_and, Bool.and_self, Nat.zero_add, aSlice, aPanQ_none, aPan, cpan, calleeOf, ofD, outQ_ret, rvOf, rvsOf, toSs, aRet, zipT, runP, panP, hides, mapT, AV.toD, SV.toD, LV.toD, args2, tInt, tStr, AV.plain, SV.plain, LV.plain, List.all_cons, List.all_nil, gt_iff_lt, Option.getD_some, PO.ret.injEq, row_5, str_9, kind_28, hpI, hq, p1I, p2, z, k1, k2, based_run, based_pan, basedO, hs2, hd2, he, m1, m2, e]
      · have ew : IntKind.i64.wrap (0 + m) = m := by rw [IntKind.wrap_i64]; omega
        have e : numO (toBytes s) = .tup [.l (.v (.int .u64 n)), .l (.v (.int .i64 m))] := by unfold numO; rw [hF, if_neg (by omega)]; simp only [Nat.zero_add]; rw [Int.toNat_of_nonneg (by omega)]
        simp only [List.map_nil, Int.le_refl, retQ, retD, aRun_o0, aRun_o1, aRun_o2, aRun_skip, aRun_ret, aRun_seq, aRun_cond, aRun_region, aCont_some, aBr_true, aBr_false, aBr_beq, aGd_yes, aGd_skip, aGd_tf, aGd_ft, aGd_dec_t, aGd_beq, aGd_bne, Int.reduceBEq, Int.reduceBNe, Int.reduceEq, Int.reduceLT, Int.reduceLE, Int.reduceToNat, aOp, evT, tget, putT, dstOk, gAt, setG, aBin, aConv, aIndex, bnd, aLen, flatOf, crun, List.getElem?_cons_zero, List.getElem?_cons_succ, List.map_cons, Option.map_some, Option.map_none, Int.toNat_natCast, reduceIte, reduceCtorEq, Nat.reduceEqDiff, Nat.reduceAdd, Nat.reduceLT, decide_true, decide_false, true_and, and_true, forall_const, not_false_eq_true, List.nil_append, List.append_nil, or_true, or_false, implies_true, false_implies, and_self, Bool.and_true, Bool.true_and, Bool.and_self, Nat.zero_add, aSlice, aPanQ_none, aPan, cpan, calleeOf, ofD, outQ_ret, rvOf, rvsOf, toSs, aRet, zipT, runP, panP, hides, mapT, AV.toD, SV.toD, LV.toD, args2, tInt, tStr, AV.plain, SV.plain, LV.plain, List.all_cons, List.all_nil, gt_iff_lt, Option.getD_some, PO.ret.injEq, row_5, str_9, kind_28, hpI, hq, p1I, p2, z, k1, k2, based_run, based_pan, basedO, hs2, hd2, he, m1, m2, ew, e]
  · by_cases m1 : m < 1
    · have e : numO (toBytes s) = .tup [.l (.v (.int .u64 0)), .l (.v (.int .i64 0))] := by unfold numO; rw [hF, if_pos (.inl m1)]; rfl
      simp only [List.map_nil, Int.le_refl, retQ, retD, aRun_o0, aRun_o1, aRun_o2, aRun_skip, aRun_ret, aRun_seq, aRun_cond, aRun_region, aCont_some, aBr_true, aBr_false, aBr_beq, aGd_yes, aGd_skip, aGd_tf, aGd_ft, aGd_dec_t, aGd_beq, aGd_bne, Int.reduceBEq, Int.reduceBNe, Int.reduceEq, Int.reduceLT, Int.reduceLE, Int.reduceToNat, aOp, evT, tget, putT, dstOk, gAt, setG, aBin, aConv, aIndex, bnd, aLen, flatOf, crun, List.getElem?_cons_zero, List.getElem?_cons_succ, List.map_cons, Option.map_some, Option.map_none, Int.toNat_natCast, reduceIte, reduceCtorEq, Nat.reduceEqDiff, Nat.reduceAdd, Nat.reduceLT, decide_true, decide_false, true_and, and_true, forall_const, not_false_eq_true, List.nil_append, List.append_nil, or_true, or_false, implies_true, false_implies, and_self, Bool.and_true, Bool.true_and, Bool.and_self, Nat.zero_add, aSlice, aPanQ_none, aPan, cpan, calleeOf, ofD, outQ_ret, rvOf, rvsOf, toSs, aRet, zipT, runP, panP, hides, mapT, AV.toD, SV.toD, LV.toD, args2, tInt, tStr, AV.plain, SV.plain, LV.plain, List.all_cons, List.all_nil, gt_iff_lt, Option.getD_some, PO.ret.injEq, row_5, str_9, kind_28, hpI, hq, p1I, p2, z, based_run, based_pan, basedO, hs2, hd2, he, m1, e]
    · have ew : IntKind.i64.wrap (0 + m) = m := by rw [IntKind.wrap_i64]; omega
      have e : numO (toBytes s) = .tup [.l (.v (.int .u64 n)), .l (.v (.int .i64 m))] := by unfold numO; rw [hF, if_neg (by omega)]; simp only [Nat.zero_add]; rw [Int.toNat_of_nonneg (by omega)]
      by_cases m2 : 1 < m
      · simp only [List.map_nil, Int.le_refl, retQ, retD, aRun_o0, aRun_o1, aRun_o2, aRun_skip, aRun_ret, aRun_seq, aRun_cond, aRun_region, aCont_some, aBr_true, aBr_false, aBr_beq, aGd_yes, aGd_skip, aGd_tf, aGd_ft, aGd_dec_t, aGd_beq, aGd_bne, Int.reduceBEq, Int.reduceBNe, Int.reduceEq, Int.reduceLT, Int.reduceLE, Int.reduceToNat, aOp, evT, tget, putT, dstOk, gAt, setG, aBin, aConv, aIndex, bnd, aLen, flatOf, crun, List.getElem?_cons_zero, List.getElem?_cons_succ, List.map_cons, Option.map_some, Option.map_none, Int.toNat_natCast, reduceIte, reduceCtorEq, Nat.reduceEqDiff, Nat.reduceAdd, Nat.reduceLT, decide_true, decide_false, true_and, and_true, forall_const, not_false_eq_true, List.nil_append, List.append_nil, or_true, or_false, implies_true, false_implies, and_self, Bool.and_true, Bool.true_and, Bool.and_self, Nat.zero_add, aSlice, aPanQ_none, aPan, cpan, calleeOf, ofD, outQ_ret, rvOf, rvsOf, toSs, aRet, zipT, runP, panP, hides, mapT, AV.toD, SV.toD, LV.toD, args2, tInt, tStr, AV.plain, SV.plain, LV.plain, List.all_cons, List.all_nil, gt_iff_lt, Option.getD_some, PO.ret.injEq, row_5, str_9, kind_28, hpI, hq, p1I, p2, z, based_run, based_pan, basedO, hs2, hd2, he, m1, m2, ew, e]
      · simp only [List.map_nil, Int.le_refl, retQ, retD, aRun_o0, aRun_o1, aRun_o2, aRun_skip, aRun_ret, aRun_seq, aRun_cond, aRun_region, aCont_some, aBr_true, aBr_false, aBr_beq, aGd_yes, aGd_skip, aGd_tf, aGd_ft, aGd_dec_t, aGd_beq, aGd_bne, Int.reduceBEq, Int.reduceBNe, Int.reduceEq, Int.reduceLT, Int.reduceLE, Int.reduceToNat, aOp, evT, tget, putT, dstOk, gAt, setG, aBin, aConv, aIndex, bnd, aLen, flatOf, crun, List.getElem?_cons_zero, List.getElem?_cons_succ, List.map_cons, Option.map_some, Option.map_none, Int.toNat_natCast, reduceIte, reduceCtorEq, Nat.reduceEqDiff, Nat.reduceAdd, Nat.reduceLT, decide_true, decide_false, true_and, and_true, forall_const, not_false_eq_true, List.nil_append, List.append_nil, or_true, or_false, implies_true, false_implies, and_self, Bool.and_true, Bool.true_and, Bool.and_self, Nat.zero_add, aSlice, aPanQ_none, aPan, cpan, calleeOf, ofD, outQ_ret, rvOf, rvsOf, toSs, aRet, zipT, runP, panP, hides, mapT, AV.toD, SV.toD, LV.toD, args2, tInt, tStr, AV.plain, SV.plain, LV.plain, List.all_cons, List.all_nil, gt_iff_lt, Option.getD_some, PO.ret.injEq, row_5, str_9, kind_28, hpI, hq, p1I, p2, z, based_run, based_pan, basedO, hs2, hd2, he, m1, m2, ew, e]
theorem en_rnum (args : Array Value) (w : World) : (callFunc 80 args).run Tryd.prog w = .ok (.enter 80 args) w := by go_simp
def rnumS : Spec Tryd.prog 80 :=
  mk1 _ _ _ Tryd.func80 rfl en_rnum (tStr) ((fun s => 0 < s.size ∧ s.size ≤ 1099511627776)) ((fun s => .ret (numO (toBytes s)))) (by rw [Tryd.ntmps80]; decide) (fun s h => rnumber_sw s h.1 h.2)
theorem rnum_run {id : Nat} {h : Heap} {args : List AV} : (rnumS).run id h args = runP (args1 (tStr) ((fun s => 0 < s.size ∧ s.size ≤ 1099511627776))) ((fun s => .ret (numO (toBytes s)))) h args := rfl
theorem rnum_pan {id : Nat} {h : Heap} {args : List AV} : (rnumS).pan id h args = panP (args1 (tStr) ((fun s => 0 < s.size ∧ s.size ≤ 1099511627776))) ((fun s => .ret (numO (toBytes s)))) h args := rfl

end Go.Proofs.YtcdbldakjepjiaaDoor
