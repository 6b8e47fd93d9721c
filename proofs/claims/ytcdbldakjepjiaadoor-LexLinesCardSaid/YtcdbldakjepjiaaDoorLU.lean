/- Lines: the tokens that are told. -/
import Derived.Test.YtcdbldakjepjiaaDoorLT
set_option linter.unusedVariables false
set_option linter.unusedSimpArgs false
namespace Go.Proofs.YtcdbldakjepjiaaDoor
open Go.RowKit
set_option maxRecDepth 100000

def tdT (ts : List Tok) : Tmps := [(3, pv 0 0 0), (5, pv 1 0 0), (9, .s (.l (.d (.fn 43 [] [.pd [rowsD ts]]))))]
def tdC (n : Nat) : Blk := ⟨true, 23, 1, [[.sl 2 0 n]]⟩
def tdH (most : Int) (x : List Tok) : Heap := [(0, some (numK 3 most)), (1, some (tdC x.length)), (2, some (toksK x))]
def tdE (most : Int) (ts : List Tok) (x : List Tok) (As : List AV) : St := ⟨4, (6, pv 3 0 0) :: putPs ([10].zip As) (tdT ts), (3, some ⟨true, 30, 4, [cellsA As]⟩) :: tdH most x⟩
set_option maxHeartbeats 4000000 in
theorem told_sw (ts : List Tok) (most : Int) (hz : ts.length ≤ 1000000) (hm0 : 0 ≤ most) : SW Tryd.prog ⟨none, 0⟩ Tryd.f17.ntmps (Tryd.f17.body.getD .skip) ⟨0, zipT 0 [tSeq.enc ts, (tInt .i64).enc most], []⟩ (outQ Tryd.prog Tryd.f17.results.toList (.ret (.s (toksV (ts.take most.toNat))))) := by
  refine aRun_sound (ctx := []) 4000 ?_
  rw [Tryd.ntmps17, Tryd.results17]
  simp only [Tryd.f17, Option.getD_some, zipT]
  have nf : ∀ (Q : Exit → St → Prop), (ts.take most.toNat = ts → Q .normal ⟨3, tdT ts, tdH most ts⟩) → (∀ nx k3, Q (.exit 0) ⟨nx, tdT ts, (3, some k3) :: tdH most (ts.take most.toNat)⟩) → SW Tryd.prog ⟨none, 0⟩ 20 (rangeIn (Tryd.f17.body.getD .skip)) ⟨3, tdT ts, tdH most []⟩ Q := by
    intro Q hdone hexit
    refine sw_pin (K' := 2) (by decide) (fun j hj => ?_) ?_
    · have hj' : j = 0 ∨ j = 1 := by omega
      rcases hj' with rfl | rfl <;> exact ⟨_, rfl⟩
    refine sw_rangeG (ι := List Tok) (t := tdT ts) (tdE most ts) (fun i x => x = ts.take i ∧ (i : Int) ≤ most) (tdH most) (fun _ => 3) (fun c s => c = .exit 0 ∧ ∃ k3, k3.own = true ∧ s.h = (3, some k3) :: tdH most (ts.take most.toNat)) tokensIt tokens_dec hz rfl (fun x As hA => ?_) (by decide) (fun As hA => ?_) (tpin_of rfl) (fun i x _ => ownL_get rfl) (fun c s h => ?_) [] ⟨rfl, hm0⟩ (fun l i x As hinv hA => ?_) (fun x hinv => ?_) (fun c s h => ?_)
    · obtain ⟨r, _, rfl⟩ := List.mem_map.1 hA
      exact asg_box (T := 30) (tb := 6) (tp := 10) rfl (by decide) (xs := [.v (.int .i64 r.kind), .v (.string r.text), .v (.int .u64 r.n), .v (.int .i64 r.pos)]) rfl zero_30 sz_30 rfl
    · obtain ⟨r, _, rfl⟩ := List.mem_map.1 hA
      rfl
    · obtain ⟨rfl, k3, h1, h2⟩ := h
      rw [h2]
      intro b k hk
      rw [hget] at hk
      split at hk
      · injection hk with hk; rw [← hk]; exact h1
      · exact ownL_get (show ownL (tdH most (ts.take most.toNat)) = true from rfl) b k hk
    · obtain ⟨hx, hi⟩ := hinv
      rw [List.getElem?_map, Option.map_eq_some_iff] at hA
      obtain ⟨r, hr, rfl⟩ := hA
      have hil := (List.getElem?_eq_some_iff.1 hr).1
      have hxl : x.length = i := by rw [hx, List.length_take]; omega
      have hx' : ts.take (i + 1) = x ++ [r] := by rw [List.take_add_one, hr, hx]; rfl
      refine aRun_sound (ctx := []) 4000 ?_
      by_cases hge : most ≤ (x.length : Int)
      · have hmi : most.toNat = i := by omega
        simp only [aRun_range, List.map_nil, Nat.le_refl, take_map2, List.length_map, retQ, retD, aRun_nil, aRun_b, aRun_o0, aRun_o1, aRun_skip, aRun_ret, aRun_seq, aRun_block, aRun_cond, aRun_region, aRun_exit, afterQ_normal, afterQ_exit, aEx_some, aEx_none, aCont_some, aBr_true, aBr_false, popTo, aOp, evT, tget, putT, dstOk, hget, aBin, aLoad, aStore, aNew, aAppend, aLen, flatOf, cellsOf, LV.one, Value.oneCell', fillL, splice, chunks, repL, aBuildSlice, List.getElem?_cons_zero, List.getElem?_cons_succ, List.map_cons, Option.map_some, Option.isSome_some, reduceIte, reduceCtorEq, Nat.reduceEqDiff, Nat.reduceAdd, Nat.reduceLT, Nat.reduceLeDiff, Nat.reduceMul, decide_true, decide_false, true_and, List.cons_append, List.nil_append, List.append_nil, List.take_succ_cons, List.take_zero, List.drop_succ_cons, List.drop_zero, List.length_cons, List.length_nil, List.set_cons_zero, or_false, implies_true, false_implies, and_self, Bool.true_and, Bool.and_self, Nat.zero_add, aPanQ_none, aPan, aNil, aNilOp, srcOf, ofD, outQ_ret, rvOf, rvsOf, aRet, zipT, AV.toD, SV.toD, LV.toD, rows_ofDs, tInt, Blk.ren, rows_ren, ge_iff_le, List.getD_eq_getElem?_getD, Option.getD_some, sz_3, row_3, sz_23, row_23, zero_23, el_23, sz_30, row_30, zero_30, by_30, tdE, tdT, tdH, tdC, numK, toksK, trow, tokV, cellsA, putPs, List.zip_cons_cons, List.zip_nil_left, List.foldl_cons, List.foldl_nil, hge]
        have hxt : ts.take most.toNat = x := by rw [hmi, hx]
        rw [hxt]
        exact ⟨_, rfl, rfl⟩
      · have hm1 : x.length + 1 ≤ maxLen := by unfold maxLen; omega
        have hb1 : (x.length + 1) * 40 ≤ 140737488355328 := by omega
        have hsn := toks_snoc x r
        simp only [aRun_range, List.map_nil, Nat.le_refl, take_map2, List.length_map, retQ, retD, aRun_nil, aRun_b, aRun_o0, aRun_o1, aRun_skip, aRun_ret, aRun_seq, aRun_block, aRun_cond, aRun_region, aRun_exit, afterQ_normal, afterQ_exit, aEx_some, aEx_none, aCont_some, aBr_true, aBr_false, popTo, aOp, evT, tget, putT, dstOk, hget, aBin, aLoad, aStore, aNew, aAppend, aLen, flatOf, cellsOf, LV.one, Value.oneCell', fillL, splice, chunks, repL, aBuildSlice, List.getElem?_cons_zero, List.getElem?_cons_succ, List.map_cons, Option.map_some, Option.isSome_some, reduceIte, reduceCtorEq, Nat.reduceEqDiff, Nat.reduceAdd, Nat.reduceLT, Nat.reduceLeDiff, Nat.reduceMul, decide_true, decide_false, true_and, List.cons_append, List.nil_append, List.append_nil, List.take_succ_cons, List.take_zero, List.drop_succ_cons, List.drop_zero, List.length_cons, List.length_nil, List.set_cons_zero, or_false, implies_true, false_implies, and_self, Bool.true_and, Bool.and_self, Nat.zero_add, aPanQ_none, aPan, aNil, aNilOp, srcOf, ofD, outQ_ret, rvOf, rvsOf, aRet, zipT, AV.toD, SV.toD, LV.toD, rows_ofDs, tInt, Blk.ren, rows_ren, ge_iff_le, List.getD_eq_getElem?_getD, Option.getD_some, sz_3, row_3, sz_23, row_23, zero_23, el_23, sz_30, row_30, zero_30, by_30, tdE, tdT, tdH, tdC, numK, toksK, trow, tokV, cellsA, putPs, List.zip_cons_cons, List.zip_nil_left, List.foldl_cons, List.foldl_nil, hge, hm1, hb1, hsn]
        refine ⟨⟨x ++ [r], ⟨hx'.symm, by omega⟩, Wk.renL [0, 1, 116] (fun j hj => ?_) (Nat.le_refl 3) (by decide) rfl (by simp only [hget, Nat.reduceEqDiff, if_false, if_true, List.map_cons, List.map_nil, Option.map_some, List.getD_eq_getElem?_getD, List.getElem?_cons_zero, List.getElem?_cons_succ, Option.getD_some, Blk.ren, rows_ren, List.length_append, List.length_cons, List.length_nil]; rfl)⟩, rfl⟩
        have hj' : j = 0 ∨ j = 1 := by have : j < 2 := hj; omega
        rcases hj' with rfl | rfl <;> rfl
    · obtain ⟨hx, hi⟩ := hinv
      rw [List.length_map] at hx hi
      rw [List.take_length] at hx
      subst hx
      exact hdone (List.take_of_length_le (by omega))
    · obtain ⟨rfl, k3, h1, h2⟩ := h
      obtain ⟨nx, t, hp⟩ := s
      simp only at h2
      subst h2
      exact swy_exit (hexit nx k3)
  have kt : kT Tryd.prog 36 = 3 := by kernel_rfl
  simp only [aRun_range, List.map_nil, Nat.le_refl, take_map2, List.length_map, retQ, retD, aRun_nil, aRun_b, aRun_o0, aRun_o1, aRun_skip, aRun_ret, aRun_seq, aRun_block, aRun_cond, aRun_region, aRun_exit, afterQ_normal, afterQ_exit, aEx_some, aEx_none, aCont_some, aBr_true, aBr_false, popTo, aOp, evT, tget, putT, dstOk, hget, aBin, aLoad, aStore, aNew, aAppend, aLen, flatOf, cellsOf, LV.one, Value.oneCell', fillL, splice, chunks, repL, aBuildSlice, List.getElem?_cons_zero, List.getElem?_cons_succ, List.map_cons, Option.map_some, Option.isSome_some, reduceIte, reduceCtorEq, Nat.reduceEqDiff, Nat.reduceAdd, Nat.reduceLT, Nat.reduceLeDiff, Nat.reduceMul, decide_true, decide_false, true_and, List.cons_append, List.nil_append, List.append_nil, List.take_succ_cons, List.take_zero, List.drop_succ_cons, List.drop_zero, List.length_cons, List.length_nil, List.set_cons_zero, or_false, implies_true, false_implies, and_self, Bool.true_and, Bool.and_self, Nat.zero_add, aPanQ_none, aPan, aNil, aNilOp, srcOf, ofD, outQ_ret, rvOf, rvsOf, aRet, zipT, AV.toD, SV.toD, LV.toD, rows_ofDs, tInt, Blk.ren, rows_ren, ge_iff_le, List.getD_eq_getElem?_getD, Option.getD_some, sz_3, row_3, sz_23, row_23, zero_23, el_23, sz_30, row_30, zero_30, by_30, tSeq, kt, rowsD]
  refine SW.wk (nf _ (fun he => ?_) (fun nx k3 => ?_)) ((Wk.nilC 32 0 30 4 (k := ⟨true, 23, 1, [[.v (.slice none 0 0)]]⟩) rfl rfl rfl).trans (Wk.renL [0, 32, 96] (by simp) (Nat.le_refl 3) (by decide) rfl rfl))
  · rw [he]
    simp only [aRun_range, List.map_nil, Nat.le_refl, take_map2, List.length_map, retQ, retD, aRun_nil, aRun_b, aRun_o0, aRun_o1, aRun_skip, aRun_ret, aRun_seq, aRun_block, aRun_cond, aRun_region, aRun_exit, afterQ_normal, afterQ_exit, aEx_some, aEx_none, aCont_some, aBr_true, aBr_false, popTo, aOp, evT, tget, putT, dstOk, hget, aBin, aLoad, aStore, aNew, aAppend, aLen, flatOf, cellsOf, LV.one, Value.oneCell', fillL, splice, chunks, repL, aBuildSlice, List.getElem?_cons_zero, List.getElem?_cons_succ, List.map_cons, Option.map_some, Option.isSome_some, reduceIte, reduceCtorEq, Nat.reduceEqDiff, Nat.reduceAdd, Nat.reduceLT, Nat.reduceLeDiff, Nat.reduceMul, decide_true, decide_false, true_and, List.cons_append, List.nil_append, List.append_nil, List.take_succ_cons, List.take_zero, List.drop_succ_cons, List.drop_zero, List.length_cons, List.length_nil, List.set_cons_zero, or_false, implies_true, false_implies, and_self, Bool.true_and, Bool.and_self, Nat.zero_add, aPanQ_none, aPan, aNil, aNilOp, srcOf, ofD, outQ_ret, rvOf, rvsOf, aRet, zipT, AV.toD, SV.toD, LV.toD, rows_ofDs, tInt, Blk.ren, rows_ren, ge_iff_le, List.getD_eq_getElem?_getD, Option.getD_some, sz_3, row_3, sz_23, row_23, zero_23, el_23, sz_30, row_30, zero_30, by_30, tdT, tdH, tdC, numK, toksK, toksV]
  · obtain ⟨x, hx⟩ : ∃ x, ts.take most.toNat = x := ⟨_, rfl⟩
    rw [hx]
    simp only [aRun_range, List.map_nil, Nat.le_refl, take_map2, List.length_map, retQ, retD, aRun_nil, aRun_b, aRun_o0, aRun_o1, aRun_skip, aRun_ret, aRun_seq, aRun_block, aRun_cond, aRun_region, aRun_exit, afterQ_normal, afterQ_exit, aEx_some, aEx_none, aCont_some, aBr_true, aBr_false, popTo, aOp, evT, tget, putT, dstOk, hget, aBin, aLoad, aStore, aNew, aAppend, aLen, flatOf, cellsOf, LV.one, Value.oneCell', fillL, splice, chunks, repL, aBuildSlice, List.getElem?_cons_zero, List.getElem?_cons_succ, List.map_cons, Option.map_some, Option.isSome_some, reduceIte, reduceCtorEq, Nat.reduceEqDiff, Nat.reduceAdd, Nat.reduceLT, Nat.reduceLeDiff, Nat.reduceMul, decide_true, decide_false, true_and, List.cons_append, List.nil_append, List.append_nil, List.take_succ_cons, List.take_zero, List.drop_succ_cons, List.drop_zero, List.length_cons, List.length_nil, List.set_cons_zero, or_false, implies_true, false_implies, and_self, Bool.true_and, Bool.and_self, Nat.zero_add, aPanQ_none, aPan, aNil, aNilOp, srcOf, ofD, outQ_ret, rvOf, rvsOf, aRet, zipT, AV.toD, SV.toD, LV.toD, rows_ofDs, tInt, Blk.ren, rows_ren, ge_iff_le, List.getD_eq_getElem?_getD, Option.getD_some, sz_3, row_3, sz_23, row_23, zero_23, el_23, sz_30, row_30, zero_30, by_30, tdT, tdH, tdC, numK, toksK, toksV]
theorem en_told (args : Array Value) (w : World) : (callFunc 17 args).run Tryd.prog w = .ok (.enter 17 args) w := by go_simp
def toldS : Spec Tryd.prog 17 :=
  mk2 _ _ _ Tryd.func17 rfl en_told (tSeq) (tInt .i64) ((fun ts most => ts.length ≤ 1000000 ∧ 0 ≤ most)) ((fun ts most => .ret (.s (toksV (ts.take most.toNat))))) (by rw [Tryd.ntmps17]; decide) (fun ts most h => told_sw ts most h.1 h.2)
theorem told_run {id : Nat} {h : Heap} {args : List AV} : (toldS).run id h args = runP (args2 (tSeq) (tInt .i64) ((fun ts most => ts.length ≤ 1000000 ∧ 0 ≤ most))) (fun x => ((fun ts most => .ret (.s (toksV (ts.take most.toNat))))) x.1 x.2) h args := rfl
theorem told_pan {id : Nat} {h : Heap} {args : List AV} : (toldS).pan id h args = panP (args2 (tSeq) (tInt .i64) ((fun ts most => ts.length ≤ 1000000 ∧ 0 ≤ most))) (fun x => ((fun ts most => .ret (.s (toksV (ts.take most.toNat))))) x.1 x.2) h args := rfl

end Go.Proofs.YtcdbldakjepjiaaDoor
