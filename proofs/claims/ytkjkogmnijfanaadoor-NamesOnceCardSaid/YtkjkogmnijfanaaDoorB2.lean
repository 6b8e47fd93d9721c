/- Functions of Go's package strings: Split. -/
import Derived.Test.YtkjkogmnijfanaaDoorB1
set_option linter.unusedVariables false
set_option linter.unusedSimpArgs false
namespace Go.Proofs.YtkjkogmnijfanaaDoor
open Go.RowKit

theorem mixedS : Tryd.prog.follows .mixedOrders = true := by kernel_rfl

def empS : ByteArray := ⟨#[]⟩
def rowS (s : ByteArray) : List LV := [.v (.string s)]
def fillS (all : List ByteArray) (i : Nat) : List (List LV) := (all.take i).map rowS ++ List.replicate (all.length - i) (rowS empS)
theorem fillS_len {all : List ByteArray} {i : Nat} (h : i ≤ all.length) : (fillS all i).length = all.length := by
  unfold fillS
  simp
  omega
theorem fillS_zero (all : List ByteArray) : fillS all 0 = List.replicate all.length [.v (.string ⟨#[]⟩)] := rfl
theorem fillS_all (all : List ByteArray) : fillS all all.length = (all.map rStr.enc).map ofDs := by
  unfold fillS
  rw [List.take_of_length_le (Nat.le_refl _), Nat.sub_self, List.replicate_zero, List.append_nil, List.map_map]
  rfl
theorem fillS_ren (all : List ByteArray) (i : Nat) (g : Nat → Nat) : (fillS all i).map (fun e => e.map (·.ren g)) = fillS all i := by
  unfold fillS
  rw [List.map_append, List.map_map, List.map_replicate]
  rfl
theorem fillS_at {all : List ByteArray} {i : Nat} (h : i < all.length) : (fillS all i)[i]? = some [.v (.string ⟨#[]⟩)] := by
  unfold fillS
  rw [List.getElem?_append_right (by simp; omega), List.getElem?_replicate, if_pos (by simp; omega)]
  rfl
theorem fillS_set {all : List ByteArray} {i : Nat} {x : ByteArray} (hx : all[i]? = some x) : (fillS all i).set i (rowS x) = fillS all (i + 1) := by
  have hi : i < all.length := (List.getElem?_eq_some_iff.1 hx).1
  unfold fillS
  rw [show all.length - i = (all.length - (i + 1)) + 1 by omega, List.replicate_succ, List.set_append_right _ _ (by simp; omega)]
  have e : i - ((all.take i).map rowS).length = 0 := by simp; omega
  rw [e, List.set_cons_zero, List.take_add_one, hx]
  simp

set_option maxRecDepth 100000 in
set_option maxHeartbeats 4000000 in
theorem genSplit_sw (s p : ByteArray) (hp : p.size = 1) (hs : s.size ≤ 1099511627776) : SW Tryd.prog ⟨none, 0⟩ Tryd.f48.ntmps (Tryd.f48.body.getD .skip) ⟨0, zipT 0 [tStr.enc s, tStr.enc p, (tInt .i64).enc 0, (tInt .i64).enc (-1)], []⟩ (outQ Tryd.prog Tryd.f48.results.toList (.ret (.s (.l (.d (.sd 1 ((splitF s p).map rStr.enc))))))) := by
  refine aRun_sound (ctx := [⟨_, countS⟩, ⟨_, indexS⟩]) 4000 ?_
  rw [Tryd.ntmps48, Tryd.results48]
  simp only [Tryd.f48, Option.getD_some, zipT]
  have hpe : ¬ p = ⟨#[]⟩ := by rintro rfl; cases hp
  obtain ⟨all, hall⟩ : ∃ all, splitF s p = all := ⟨_, rfl⟩
  have hlen : all.length = s.data.toList.count (hdU p) + 1 := by rw [← hall, splitF_len]
  have hcnt := count_le s p
  have h1 : all.length ≤ s.size + 1 := by omega
  have e1 : IntKind.i64.wrap ((all.length : Int) - 1 + 1) = all.length := by rw [IntKind.wrap_i64]; omega
  have e2 : IntKind.i64.wrap ((s.size : Int) + 1) = s.size + 1 := by rw [IntKind.wrap_i64]; omega
  have e3 : IntKind.i64.wrap ((all.length : Int) - 1) = all.length - 1 := by rw [IntKind.wrap_i64]; omega
  have hmin : ¬ ((s.size : Int) + 1 < all.length) := by omega
  have hm : maxLen = 9223372036854775807 := rfl
  simp only [aMake, List.map_nil, Nat.le_refl, Int.le_refl, take_map2, List.length_map, retQ, retD, Int.cast_ofNat_Int, aRun_nil, aRun_b, aRun_o0, aRun_o1, aRun_skip, aRun_ret, aRun_seq, aRun_block, aRun_cond, aRun_region, aRun_exit, aRun_loop, afterQ_exit, aEx_some, aEx_none, aCont_some, aBr_true, aBr_false, popTo, Int.reduceBEq, Int.reduceLT, List.not_mem_nil, roundQ_normal, roundQ_exit, aOp, evT, tget, putT, dstOk, hget, aBin, aStore, aIndexAt, fitsAt, bnd, aLen, aMin, flatOf, cellsOf, LV.one, Value.oneCell', splice, crun, List.map_cons, Option.map_some, Option.map_none, Int.toNat_natCast, reduceIte, reduceCtorEq, Nat.reduceEqDiff, Nat.reduceAdd, Nat.reduceLT, decide_true, decide_false, true_and, and_true, not_false_eq_true, List.cons_append, List.nil_append, List.append_nil, beq_iff_eq, List.take_zero, List.drop_succ_cons, List.drop_zero, List.length_cons, List.length_nil, implies_true, false_implies, and_self, Bool.and_true, Bool.true_and, Bool.and_self, Nat.zero_add, Nat.add_zero, aSlice, aPanQ_none, aPan, cpan, calleeOf, ofD, outQ_ret, rvOf, rvsOf, aRet, zipT, runP, panP, hides, mapT, AV.toD, SV.toD, LV.toD, rows_ofDs, args2, tInt, tStr, rStr, AV.plain, SV.plain, LV.plain, Blk.ren, Int.natCast_nonneg, List.getD_eq_getElem?_getD, Option.getD_some, sz_9, zero_9, by_9, str_9, el_63, hpe, count_run, count_pan, hp, hall, e1, e2, e3, hmin]
  refine ⟨by rw [hm]; omega, ?_⟩
  refine sw_loop (ι := Nat × ByteArray) (fun x => x.1 < all.length ∧ x.2.size ≤ s.size ∧ splitF x.2 p = all.drop x.1) (fun x => ⟨1, [(0, sv x.2), (1, sv p), (2, iv 0), (3, iv ((all.length : Int) - 1)), (9, .s (.l (.sl 0 0 all.length))), (10, iv x.1)], [(0, some ⟨true, 9, 1, fillS all x.1⟩)]⟩) (fun x => all.length - x.1) (0, s) ⟨by simp only; omega, Nat.le_refl _, hall⟩ (Wk.renL [304] (by simp) (by simp) (by simp) rfl (by simp [hget, Blk.ren, fillS_zero, LV.ren])) ?_
  rintro ⟨i, r⟩ ⟨hi, hrs, hr⟩
  simp only at hi hrs hr
  refine aRun_sound (ctx := [⟨_, indexS⟩]) 4000 ?_
  have hl := congrArg List.length hr
  rw [List.length_drop] at hl
  by_cases hlt : i + 1 < all.length
  · obtain ⟨m, m1, m2, m3⟩ := splitF_cut (s := r) (p := p) (by omega)
    rw [m3] at hr
    have hltI : (i : Int) < (all.length : Int) - 1 := by omega
    have hat : all[i]? = some (r.extract 0 m) := by
      have := congrArg (·[0]?) hr
      simpa using this.symm
    have hnext : splitF (r.extract (m + 1) r.size) p = all.drop (i + 1) := by
      have := congrArg List.tail hr
      simpa using this
    have f1 : ¬ (m : Int) < 0 := by omega
    have f2 : IntKind.i64.wrap ((m : Int) + 0) = m := by rw [IntKind.wrap_i64]; omega
    have f3 : IntKind.i64.wrap ((m : Int) + 1) = ((m + 1 : Nat) : Int) := by rw [IntKind.wrap_i64]; omega
    have f4 : IntKind.i64.wrap ((i : Int) + 1) = ((i + 1 : Nat) : Int) := by rw [IntKind.wrap_i64]; omega
    simp only [aMake, List.map_nil, Nat.le_refl, Int.le_refl, take_map2, List.length_map, retQ, retD, Int.cast_ofNat_Int, aRun_nil, aRun_b, aRun_o0, aRun_o1, aRun_skip, aRun_ret, aRun_seq, aRun_block, aRun_cond, aRun_region, aRun_exit, aRun_loop, afterQ_exit, aEx_some, aEx_none, aCont_some, aBr_true, aBr_false, popTo, Int.reduceBEq, Int.reduceLT, List.not_mem_nil, roundQ_normal, roundQ_exit, aOp, evT, tget, putT, dstOk, hget, aBin, aStore, aIndexAt, fitsAt, bnd, aLen, aMin, flatOf, cellsOf, LV.one, Value.oneCell', splice, crun, List.map_cons, Option.map_some, Option.map_none, Int.toNat_natCast, reduceIte, reduceCtorEq, Nat.reduceEqDiff, Nat.reduceAdd, Nat.reduceLT, decide_true, decide_false, true_and, and_true, not_false_eq_true, List.cons_append, List.nil_append, List.append_nil, beq_iff_eq, List.take_zero, List.drop_succ_cons, List.drop_zero, List.length_cons, List.length_nil, implies_true, false_implies, and_self, Bool.and_true, Bool.true_and, Bool.and_self, Nat.zero_add, Nat.add_zero, aSlice, aPanQ_none, aPan, cpan, calleeOf, ofD, outQ_ret, rvOf, rvsOf, aRet, zipT, runP, panP, hides, mapT, AV.toD, SV.toD, LV.toD, rows_ofDs, args2, tInt, tStr, rStr, AV.plain, SV.plain, LV.plain, Blk.ren, Int.natCast_nonneg, List.getD_eq_getElem?_getD, Option.getD_some, sz_9, zero_9, by_9, str_9, el_63, hltI, index_run, index_pan, hp, m1, f1, f2, f3, f4, fillS_len (Nat.le_of_lt hi), fillS_at hi, Int.toNat_zero]
    refine ⟨by omega, by omega, by omega, (i + 1, r.extract (m + 1) r.size), ⟨by simp only; omega, ?_, hnext⟩, by simp only; omega, Wk.renL [0] (by simp) (by simp) (by simp) rfl ?_⟩
    · simp only [ByteArray.size_extract]
      omega
    · have := fillS_set hat
      unfold rowS at this
      simp [hget, Blk.ren, this, fillS_ren]
  · have hil : i + 1 = all.length := by omega
    have hr1 := splitF_one (s := r) (p := p) (by omega)
    rw [hr1] at hr
    have hat : all[i]? = some r := by
      have := congrArg (·[0]?) hr
      simpa using this.symm
    have hltI : ¬ (i : Int) < (all.length : Int) - 1 := by omega
    have f4 : IntKind.i64.wrap ((i : Int) + 1) = all.length := by rw [IntKind.wrap_i64]; omega
    have hset := fillS_set hat
    unfold rowS at hset
    rw [hil, fillS_all] at hset
    have hiI : (i : Int) < all.length := by omega
    simp only [aMake, List.map_nil, Nat.le_refl, Int.le_refl, take_map2, List.length_map, retQ, retD, Int.cast_ofNat_Int, aRun_nil, aRun_b, aRun_o0, aRun_o1, aRun_skip, aRun_ret, aRun_seq, aRun_block, aRun_cond, aRun_region, aRun_exit, aRun_loop, afterQ_exit, aEx_some, aEx_none, aCont_some, aBr_true, aBr_false, popTo, Int.reduceBEq, Int.reduceLT, List.not_mem_nil, roundQ_normal, roundQ_exit, aOp, evT, tget, putT, dstOk, hget, aBin, aStore, aIndexAt, fitsAt, bnd, aLen, aMin, flatOf, cellsOf, LV.one, Value.oneCell', splice, crun, List.map_cons, Option.map_some, Option.map_none, Int.toNat_natCast, reduceIte, reduceCtorEq, Nat.reduceEqDiff, Nat.reduceAdd, Nat.reduceLT, decide_true, decide_false, true_and, and_true, not_false_eq_true, List.cons_append, List.nil_append, List.append_nil, beq_iff_eq, List.take_zero, List.drop_succ_cons, List.drop_zero, List.length_cons, List.length_nil, implies_true, false_implies, and_self, Bool.and_true, Bool.true_and, Bool.and_self, Nat.zero_add, Nat.add_zero, aSlice, aPanQ_none, aPan, cpan, calleeOf, ofD, outQ_ret, rvOf, rvsOf, aRet, zipT, runP, panP, hides, mapT, AV.toD, SV.toD, LV.toD, rows_ofDs, args2, tInt, tStr, rStr, AV.plain, SV.plain, LV.plain, Blk.ren, Int.natCast_nonneg, List.getD_eq_getElem?_getD, Option.getD_some, sz_9, zero_9, by_9, str_9, el_63, hltI, fillS_len (Nat.le_of_lt hi), fillS_at hi, f4, hset, hiI, Int.toNat_zero, Nat.sub_zero]
    trace_state

end Go.Proofs.YtkjkogmnijfanaaDoor
