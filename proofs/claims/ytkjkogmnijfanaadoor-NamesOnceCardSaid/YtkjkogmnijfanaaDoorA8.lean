/- Names: names by number. -/
import Derived.Test.YtkjkogmnijfanaaDoorA7
set_option linter.unusedVariables false
set_option linter.unusedSimpArgs false
namespace Go.Proofs.YtkjkogmnijfanaaDoor
open Go.RowKit

/-- a pointer to a number, lasting -/
def tPI : Ty Int where
  dec := fun | .s (.l (.d (.pd [.v (.int .i64 z)]))) => some z | _ => none
  enc := fun z => .s (.l (.d (.pd [.v (.int .i64 z)])))
  ok := by
    intro A x h ρ al v hr
    split at h
    · injection h with h; subst h; exact hr
    · cases h

theorem and_i64 (i : Nat) (hi : i ≤ 62) (x : Int) (h0 : 0 ≤ x) (h1 : x < 4611686018427387904) : bits .and .i64 x (2 ^ i - 1) = x % 2 ^ i :=
  bits_mask .i64 62 (by decide) (fun n h0 h1 => by rw [IntKind.wrap_i64]; omega) i hi x h0 h1

theorem part_bits (n : Int) (h0 : 0 ≤ n) (h1 : n < 32768) (lo wd : Nat) (hl : lo ≤ 62) (hw : wd ≤ 10) : bits .and .i64 (n.fdiv (2 ^ min lo IntKind.i64.bits)) (IntKind.i64.wrap (IntKind.i64.wrap (1 * 2 ^ min wd IntKind.i64.bits) - 1)) = n / 2 ^ lo % 2 ^ wd := by
  have hp : (0 : Int) < 2 ^ lo := Int.pow_pos (by decide)
  have hq : (1 : Int) ≤ 2 ^ wd := Int.pow_pos (by decide)
  have hq2 : (2 : Int) ^ wd ≤ 1024 := by
    have h2 : ((2 ^ wd : Nat) : Int) ≤ ((1024 : Nat) : Int) := Int.ofNat_le.2 (Nat.pow_le_pow_right (n := 2) (by decide) hw)
    rw [Int.natCast_pow] at h2
    exact h2
  have e1 : min lo IntKind.i64.bits = lo := by rw [show IntKind.i64.bits = 64 from rfl]; omega
  have e2 : min wd IntKind.i64.bits = wd := by rw [show IntKind.i64.bits = 64 from rfl]; omega
  have e3 : IntKind.i64.wrap (1 * 2 ^ wd) = 2 ^ wd := by rw [IntKind.wrap_i64]; omega
  have e4 : IntKind.i64.wrap (2 ^ wd - 1) = 2 ^ wd - 1 := by rw [IntKind.wrap_i64]; omega
  rw [e1, e2, e3, e4, Int.fdiv_eq_ediv_of_nonneg _ (Int.le_of_lt hp)]
  have h2 : 0 ≤ n / 2 ^ lo := Int.ediv_nonneg h0 (Int.le_of_lt hp)
  have h3 : n / 2 ^ lo ≤ n := Int.ediv_le_self _ h0
  exact and_i64 wd (by omega) _ h2 (by omega)

theorem part_range (n : Int) (lo wd : Nat) (hw : wd ≤ 4) : 0 ≤ n / 2 ^ lo % 2 ^ wd ∧ n / 2 ^ lo % 2 ^ wd < 16 := by
  have hq : (0 : Int) < 2 ^ wd := Int.pow_pos (by decide)
  have hq2 : (2 : Int) ^ wd ≤ 16 := by
    have h2 : ((2 ^ wd : Nat) : Int) ≤ ((16 : Nat) : Int) := Int.ofNat_le.2 (Nat.pow_le_pow_right (n := 2) (by decide) hw)
    rw [Int.natCast_pow] at h2
    exact h2
  have := Int.emod_nonneg (n / 2 ^ lo) (Int.ne_of_gt hq)
  have := Int.emod_lt_of_pos (n / 2 ^ lo) hq
  omega

def okPart (low width n : Int) : Prop := (0 ≤ n ∧ n < 32768) ∧ (low = 11 ∧ width = 3 ∨ low = 7 ∧ width = 4 ∨ low = 3 ∧ width = 4 ∨ low = 0 ∧ width = 3)
set_option maxHeartbeats 2000000 in
theorem part_sw (low width n : Int) (h : okPart low width n) :
    SW Tryd.prog ⟨none, 0⟩ Tryd.f46.ntmps (Tryd.f46.body.getD .skip) ⟨0, zipT 0 [(tInt .i64).enc low, (tInt .i64).enc width, tPI.enc n], []⟩ (outQ Tryd.prog Tryd.f46.results.toList (.ret (sv (partF n low.toNat width.toNat)))) := by
  obtain ⟨⟨h0, h1⟩, h⟩ := h
  refine aRun_sound (ctx := [⟨_, textS⟩]) 4000 ?_
  rw [Tryd.ntmps46, Tryd.results46]
  simp only [Tryd.f46, Option.getD_some, zipT]
  have hb := part_bits n h0 h1
  rcases h with ⟨rfl, rfl⟩ | ⟨rfl, rfl⟩ | ⟨rfl, rfl⟩ | ⟨rfl, rfl⟩
  · have hr := part_range n 11 3 (by decide)
    simp only [declOf, veil, List.map_nil, Int.le_refl, retQ, retD, aRun_o0, aRun_o1, aRun_ret, aRun_seq, aRun_region, aRun_draw, afterQ_normal, aCont_some, aDr_nil, aDr_one, aDk_some, eOk, befOf, bindsE, Region.binds, bit, Hp, Nat.reduceOr, Nat.reducePow, Nat.reduceDiv, Nat.reduceMod, Nat.reduceBEq, Int.reduceLE, Int.reduceToNat, aOp, evT, tget, putT, dstOk, aBin, aLoad, flatOf, crun, List.getElem?_cons_zero, List.getElem?_cons_succ, List.map_cons, reduceIte, reduceCtorEq, Nat.reduceEqDiff, Nat.reduceAdd, Nat.reduceLT, Nat.reduceMul, decide_true, true_and, List.cons_append, List.nil_append, List.append_nil, and_self, Bool.true_and, Bool.and_self, Nat.zero_add, aPanQ_none, aPan, calleeOf, ofD, outQ_ret, rvOf, rvsOf, aRet, zipT, runP, hides, mapT, AV.toD, SV.toD, LV.toD, args1, tInt, AV.plain, SV.plain, LV.plain, List.getD_eq_getElem?_getD, Option.getD_some, PO.ret.injEq, sz_2, row_2, tPI]
    refine sw_draw (ctx := [⟨_, textS⟩]) mixed [] (by kernel_rfl) ?_
    simp only [declOf, veil, List.map_nil, Int.le_refl, retQ, retD, aRun_o0, aRun_o1, aRun_ret, aRun_seq, aRun_region, aRun_draw, afterQ_normal, aCont_some, aDr_nil, aDr_one, aDk_some, eOk, befOf, bindsE, Region.binds, bit, Hp, Nat.reduceOr, Nat.reducePow, Nat.reduceDiv, Nat.reduceMod, Nat.reduceBEq, Int.reduceLE, Int.reduceToNat, aOp, evT, tget, putT, dstOk, aBin, aLoad, flatOf, crun, List.getElem?_cons_zero, List.getElem?_cons_succ, List.map_cons, reduceIte, reduceCtorEq, Nat.reduceEqDiff, Nat.reduceAdd, Nat.reduceLT, Nat.reduceMul, decide_true, true_and, List.cons_append, List.nil_append, List.append_nil, and_self, Bool.true_and, Bool.and_self, Nat.zero_add, aPanQ_none, aPan, calleeOf, ofD, outQ_ret, rvOf, rvsOf, aRet, zipT, runP, hides, mapT, AV.toD, SV.toD, LV.toD, args1, tInt, AV.plain, SV.plain, LV.plain, List.getD_eq_getElem?_getD, Option.getD_some, PO.ret.injEq, sz_2, row_2, tPI, text_run, text_pan]
    rw [hb 11 3 (by decide) (by decide)]
    exact ⟨by omega, rfl⟩
  · have hr := part_range n 7 4 (by decide)
    simp only [declOf, veil, List.map_nil, Int.le_refl, retQ, retD, aRun_o0, aRun_o1, aRun_ret, aRun_seq, aRun_region, aRun_draw, afterQ_normal, aCont_some, aDr_nil, aDr_one, aDk_some, eOk, befOf, bindsE, Region.binds, bit, Hp, Nat.reduceOr, Nat.reducePow, Nat.reduceDiv, Nat.reduceMod, Nat.reduceBEq, Int.reduceLE, Int.reduceToNat, aOp, evT, tget, putT, dstOk, aBin, aLoad, flatOf, crun, List.getElem?_cons_zero, List.getElem?_cons_succ, List.map_cons, reduceIte, reduceCtorEq, Nat.reduceEqDiff, Nat.reduceAdd, Nat.reduceLT, Nat.reduceMul, decide_true, true_and, List.cons_append, List.nil_append, List.append_nil, and_self, Bool.true_and, Bool.and_self, Nat.zero_add, aPanQ_none, aPan, calleeOf, ofD, outQ_ret, rvOf, rvsOf, aRet, zipT, runP, hides, mapT, AV.toD, SV.toD, LV.toD, args1, tInt, AV.plain, SV.plain, LV.plain, List.getD_eq_getElem?_getD, Option.getD_some, PO.ret.injEq, sz_2, row_2, tPI]
    refine sw_draw (ctx := [⟨_, textS⟩]) mixed [] (by kernel_rfl) ?_
    simp only [declOf, veil, List.map_nil, Int.le_refl, retQ, retD, aRun_o0, aRun_o1, aRun_ret, aRun_seq, aRun_region, aRun_draw, afterQ_normal, aCont_some, aDr_nil, aDr_one, aDk_some, eOk, befOf, bindsE, Region.binds, bit, Hp, Nat.reduceOr, Nat.reducePow, Nat.reduceDiv, Nat.reduceMod, Nat.reduceBEq, Int.reduceLE, Int.reduceToNat, aOp, evT, tget, putT, dstOk, aBin, aLoad, flatOf, crun, List.getElem?_cons_zero, List.getElem?_cons_succ, List.map_cons, reduceIte, reduceCtorEq, Nat.reduceEqDiff, Nat.reduceAdd, Nat.reduceLT, Nat.reduceMul, decide_true, true_and, List.cons_append, List.nil_append, List.append_nil, and_self, Bool.true_and, Bool.and_self, Nat.zero_add, aPanQ_none, aPan, calleeOf, ofD, outQ_ret, rvOf, rvsOf, aRet, zipT, runP, hides, mapT, AV.toD, SV.toD, LV.toD, args1, tInt, AV.plain, SV.plain, LV.plain, List.getD_eq_getElem?_getD, Option.getD_some, PO.ret.injEq, sz_2, row_2, tPI, text_run, text_pan]
    rw [hb 7 4 (by decide) (by decide)]
    exact ⟨by omega, rfl⟩
  · have hr := part_range n 3 4 (by decide)
    simp only [declOf, veil, List.map_nil, Int.le_refl, retQ, retD, aRun_o0, aRun_o1, aRun_ret, aRun_seq, aRun_region, aRun_draw, afterQ_normal, aCont_some, aDr_nil, aDr_one, aDk_some, eOk, befOf, bindsE, Region.binds, bit, Hp, Nat.reduceOr, Nat.reducePow, Nat.reduceDiv, Nat.reduceMod, Nat.reduceBEq, Int.reduceLE, Int.reduceToNat, aOp, evT, tget, putT, dstOk, aBin, aLoad, flatOf, crun, List.getElem?_cons_zero, List.getElem?_cons_succ, List.map_cons, reduceIte, reduceCtorEq, Nat.reduceEqDiff, Nat.reduceAdd, Nat.reduceLT, Nat.reduceMul, decide_true, true_and, List.cons_append, List.nil_append, List.append_nil, and_self, Bool.true_and, Bool.and_self, Nat.zero_add, aPanQ_none, aPan, calleeOf, ofD, outQ_ret, rvOf, rvsOf, aRet, zipT, runP, hides, mapT, AV.toD, SV.toD, LV.toD, args1, tInt, AV.plain, SV.plain, LV.plain, List.getD_eq_getElem?_getD, Option.getD_some, PO.ret.injEq, sz_2, row_2, tPI]
    refine sw_draw (ctx := [⟨_, textS⟩]) mixed [] (by kernel_rfl) ?_
    simp only [declOf, veil, List.map_nil, Int.le_refl, retQ, retD, aRun_o0, aRun_o1, aRun_ret, aRun_seq, aRun_region, aRun_draw, afterQ_normal, aCont_some, aDr_nil, aDr_one, aDk_some, eOk, befOf, bindsE, Region.binds, bit, Hp, Nat.reduceOr, Nat.reducePow, Nat.reduceDiv, Nat.reduceMod, Nat.reduceBEq, Int.reduceLE, Int.reduceToNat, aOp, evT, tget, putT, dstOk, aBin, aLoad, flatOf, crun, List.getElem?_cons_zero, List.getElem?_cons_succ, List.map_cons, reduceIte, reduceCtorEq, Nat.reduceEqDiff, Nat.reduceAdd, Nat.reduceLT, Nat.reduceMul, decide_true, true_and, List.cons_append, List.nil_append, List.append_nil, and_self, Bool.true_and, Bool.and_self, Nat.zero_add, aPanQ_none, aPan, calleeOf, ofD, outQ_ret, rvOf, rvsOf, aRet, zipT, runP, hides, mapT, AV.toD, SV.toD, LV.toD, args1, tInt, AV.plain, SV.plain, LV.plain, List.getD_eq_getElem?_getD, Option.getD_some, PO.ret.injEq, sz_2, row_2, tPI, text_run, text_pan]
    rw [hb 3 4 (by decide) (by decide)]
    exact ⟨by omega, rfl⟩
  · have hr := part_range n 0 3 (by decide)
    simp only [declOf, veil, List.map_nil, Int.le_refl, retQ, retD, aRun_o0, aRun_o1, aRun_ret, aRun_seq, aRun_region, aRun_draw, afterQ_normal, aCont_some, aDr_nil, aDr_one, aDk_some, eOk, befOf, bindsE, Region.binds, bit, Hp, Nat.reduceOr, Nat.reducePow, Nat.reduceDiv, Nat.reduceMod, Nat.reduceBEq, Int.reduceLE, Int.reduceToNat, aOp, evT, tget, putT, dstOk, aBin, aLoad, flatOf, crun, List.getElem?_cons_zero, List.getElem?_cons_succ, List.map_cons, reduceIte, reduceCtorEq, Nat.reduceEqDiff, Nat.reduceAdd, Nat.reduceLT, Nat.reduceMul, decide_true, true_and, List.cons_append, List.nil_append, List.append_nil, and_self, Bool.true_and, Bool.and_self, Nat.zero_add, aPanQ_none, aPan, calleeOf, ofD, outQ_ret, rvOf, rvsOf, aRet, zipT, runP, hides, mapT, AV.toD, SV.toD, LV.toD, args1, tInt, AV.plain, SV.plain, LV.plain, List.getD_eq_getElem?_getD, Option.getD_some, PO.ret.injEq, sz_2, row_2, tPI]
    refine sw_draw (ctx := [⟨_, textS⟩]) mixed [] (by kernel_rfl) ?_
    simp only [declOf, veil, List.map_nil, Int.le_refl, retQ, retD, aRun_o0, aRun_o1, aRun_ret, aRun_seq, aRun_region, aRun_draw, afterQ_normal, aCont_some, aDr_nil, aDr_one, aDk_some, eOk, befOf, bindsE, Region.binds, bit, Hp, Nat.reduceOr, Nat.reducePow, Nat.reduceDiv, Nat.reduceMod, Nat.reduceBEq, Int.reduceLE, Int.reduceToNat, aOp, evT, tget, putT, dstOk, aBin, aLoad, flatOf, crun, List.getElem?_cons_zero, List.getElem?_cons_succ, List.map_cons, reduceIte, reduceCtorEq, Nat.reduceEqDiff, Nat.reduceAdd, Nat.reduceLT, Nat.reduceMul, decide_true, true_and, List.cons_append, List.nil_append, List.append_nil, and_self, Bool.true_and, Bool.and_self, Nat.zero_add, aPanQ_none, aPan, calleeOf, ofD, outQ_ret, rvOf, rvsOf, aRet, zipT, runP, hides, mapT, AV.toD, SV.toD, LV.toD, args1, tInt, AV.plain, SV.plain, LV.plain, List.getD_eq_getElem?_getD, Option.getD_some, PO.ret.injEq, sz_2, row_2, tPI, text_run, text_pan]
    rw [hb 0 3 (by decide) (by decide)]
    exact ⟨by omega, rfl⟩
theorem en_part (args : Array Value) (w : World) : (callFunc 46 args).run Tryd.prog w = .ok (.enter 46 args) w := by go_simp
def partS : Spec Tryd.prog 46 :=
  mk3 _ _ _ Tryd.func46 rfl en_part (tInt .i64) (tInt .i64) (tPI) ((fun l w n => okPart l w n)) ((fun l w n => .ret (sv (partF n l.toNat w.toNat)))) (by rw [Tryd.ntmps46]; decide) (fun l w n h => part_sw l w n h)
theorem part_run {id : Nat} {h : Heap} {args : List AV} : (partS).run id h args = runP (args3 (tInt .i64) (tInt .i64) (tPI) ((fun l w n => okPart l w n))) (fun x => ((fun l w n => .ret (sv (partF n l.toNat w.toNat)))) x.1 x.2.1 x.2.2) h args := rfl
theorem part_pan {id : Nat} {h : Heap} {args : List AV} : (partS).pan id h args = panP (args3 (tInt .i64) (tInt .i64) (tPI) ((fun l w n => okPart l w n))) (fun x => ((fun l w n => .ret (sv (partF n l.toNat w.toNat)))) x.1 x.2.1 x.2.2) h args := rfl

set_option maxHeartbeats 2000000 in
theorem sysName_sw (n : Int) (h : 0 ≤ n ∧ n < 32768) : SW Tryd.prog ⟨none, 0⟩ Tryd.f35.ntmps (Tryd.f35.body.getD .skip) ⟨0, zipT 0 [(tInt .i64).enc n], []⟩ (outQ Tryd.prog Tryd.f35.results.toList (.ret (sv (sysNameF n)))) := by
  obtain ⟨h0, h1⟩ := h
  refine aRun_sound (ctx := [⟨_, textS⟩, ⟨_, partS⟩]) 4000 ?_
  rw [Tryd.ntmps35, Tryd.results35]
  simp only [Tryd.f35, Option.getD_some, zipT]
  have e1 : n.fdiv (2 ^ min 14 IntKind.i64.bits) = n / 16384 := by
    rw [show min 14 IntKind.i64.bits = 14 from rfl, Int.fdiv_eq_ediv_of_nonneg _ (by decide)]
    rfl
  have e2 : IntKind.i64.wrap (n / 16384 + 2) = n / 16384 + 2 := by rw [IntKind.wrap_i64]; omega
  have q1 : okPart 11 3 n := ⟨⟨h0, h1⟩, by omega⟩
  have q2 : okPart 7 4 n := ⟨⟨h0, h1⟩, by omega⟩
  have q3 : okPart 3 4 n := ⟨⟨h0, h1⟩, by omega⟩
  have q4 : okPart 0 3 n := ⟨⟨h0, h1⟩, by omega⟩
  have sz := textF_size
  have z1 := sz (n / 16384 + 2)
  have z2 : (partF n 11 3).size ≤ 3 := sz _
  have z3 : (partF n 7 4).size ≤ 3 := sz _
  have z4 : (partF n 3 4).size ≤ 3 := sz _
  have z5 : (partF n 0 3).size ≤ 3 := sz _
  have hm : maxLen = 9223372036854775807 := rfl
  have c1 : (⟨#[115]⟩ : ByteArray).size = 1 := rfl
  have c2 : (⟨#[95]⟩ : ByteArray).size = 1 := rfl
  have c3 : (⟨#[95, 99]⟩ : ByteArray).size = 2 := rfl
  have er : sysNameF n = ⟨#[115]⟩ ++ textF (n / 16384 + 2) ++ ⟨#[95]⟩ ++ partF n 11 3 ++ ⟨#[95, 99]⟩ ++ partF n 7 4 ++ ⟨#[95, 99]⟩ ++ partF n 3 4 ++ ⟨#[95]⟩ ++ partF n 0 3 := by
    unfold sysNameF partF
    rw [show n / 2 ^ 0 % 2 ^ 3 = n % 8 by omega]
    rfl
  simp only [List.map_nil, retQ, retD, aRun_o0, aRun_o1, aRun_ret, aRun_seq, aRun_region, aCont_some, Int.reduceLE, Int.reduceToNat, aOp, evT, tget, putT, dstOk, hget, aBin, aLoad, aNew, flatOf, cellsOf, LV.one, Value.oneCell', crun, List.getElem?_cons_zero, List.map_cons, reduceIte, reduceCtorEq, Nat.reduceEqDiff, Nat.reduceAdd, Nat.reduceLT, Nat.reduceLeDiff, decide_true, true_and, and_true, List.cons_append, List.nil_append, List.append_nil, List.drop_zero, List.length_cons, List.length_nil, and_self, Bool.and_true, Bool.true_and, Bool.and_self, Nat.zero_add, aPanQ_none, aPan, cpan, calleeOf, caught, oneOf, ofD, outQ_ret, rvOf, rvsOf, aRet, zipT, runP, panP, hides, mapT, AV.toD, SV.toD, LV.toD, args1, args3, tInt, AV.plain, SV.plain, LV.plain, Option.getD_some, sz_2, row_2, text_run, text_pan, part_run, part_pan, tPI, e1, e2, q1, q2, q3, q4, er, ByteArray.size_append, c1, c2, c3, hm]
  omega
theorem en_sysName (args : Array Value) (w : World) : (callFunc 35 args).run Tryd.prog w = .ok (.enter 35 args) w := by go_simp
def sysNameS : Spec Tryd.prog 35 :=
  mk1 _ _ _ Tryd.func35 rfl en_sysName (tInt .i64) ((fun n => 0 ≤ n ∧ n < 32768)) ((fun n => .ret (sv (sysNameF n)))) (by rw [Tryd.ntmps35]; decide) (fun n h => sysName_sw n h)
theorem sysName_run {id : Nat} {h : Heap} {args : List AV} : (sysNameS).run id h args = runP (args1 (tInt .i64) ((fun n => 0 ≤ n ∧ n < 32768))) ((fun n => .ret (sv (sysNameF n)))) h args := rfl
theorem sysName_pan {id : Nat} {h : Heap} {args : List AV} : (sysNameS).pan id h args = panP (args1 (tInt .i64) ((fun n => 0 ≤ n ∧ n < 32768))) ((fun n => .ret (sv (sysNameF n)))) h args := rfl

/-- where a search through a table stands -/
def noneYet (l : List (ByteArray × Int)) (n : Int) (i : Nat) : Prop := i ≤ l.length ∧ ∀ (j : Nat) (r : ByteArray × Int), j < i → l[j]? = some r → ¬ r.2 = n

set_option maxHeartbeats 4000000 in
theorem name_sw (k n : Int) : SW Tryd.prog ⟨none, 0⟩ Tryd.f16.ntmps (Tryd.f16.body.getD .skip) ⟨0, zipT 0 [(tInt .i64).enc k, (tInt .i64).enc n], []⟩ (outQ Tryd.prog Tryd.f16.results.toList (.ret (nameO (nameF k n)))) := by
  refine aRun_sound (ctx := [⟨_, regOfS⟩, ⟨_, regNameS⟩, ⟨_, tableS⟩, ⟨_, sysNameS⟩]) 4000 ?_
  rw [Tryd.ntmps16, Tryd.results16]
  simp only [Tryd.f16, Option.getD_some, zipT]
  by_cases hk : k = 1
  · subst hk
    by_cases h1 : n < 0
    · simp only [List.map_nil, Nat.le_refl, List.length_map, retQ, retD, Int.cast_ofNat_Int, aRun_nil, aRun_b, aRun_o0, aRun_o1, aRun_o2, aRun_skip, aRun_ret, aRun_seq, aRun_block, aRun_cond, aRun_region, aRun_exit, aRun_loop, afterQ_exit, afterQ_ret, aEx_some, aEx_none, aCont_some, aBr_true, aBr_false, aBr_dec, aBr_beq, aGd_yes, aGd_tf, aGd_ft, aGd_dec_t, aGd_beq, popTo, Int.reduceBEq, Int.reduceEq, roundQ_normal, roundQ_exit, roundQ_ret, aOp, evT, tget, putT, dstOk, gAt, setG, hget, aBin, aLoad, aStore, aNew, aField, aIndexAt, fitsAt, aLen, flatOf, cellsOf, splice, crun, List.getElem?_cons_zero, List.getElem?_cons_succ, List.map_cons, Option.map_some, Int.toNat_natCast, Option.isSome_some, List.getElem?_map, reduceIte, reduceCtorEq, Nat.reduceEqDiff, Nat.reduceAdd, Nat.reduceLT, decide_true, decide_false, true_and, and_true, forall_const, not_true_eq_false, not_false_eq_true, List.cons_append, List.nil_append, List.append_nil, List.take_succ_cons, List.take_zero, List.drop_succ_cons, List.drop_zero, List.length_cons, List.length_nil, List.set_cons_zero, true_or, or_true, or_false, implies_true, Bool.false_eq_true, false_implies, and_self, Bool.and_true, Bool.true_and, Bool.and_self, Nat.zero_add, Nat.add_zero, aPanQ_none, aPan, cpan, calleeOf, LV.toD0, toDs0, ofD, ofDs, outQ_ret, rvOf, rvsOf, toSs, aRet, zipT, runP, panP, hides, mapT, AV.toD, SV.toD, LV.toD, args1, tInt, tAgg, AV.plain, SV.plain, LV.plain, List.all_cons, List.all_nil, Int.natCast_nonneg, ge_iff_le, Option.getD_some, PO.ret.injEq, sz_2, row_2, sz_9, row_9, el_55, sz_58, row_58, zero_58, off_58_0, off_58_1, h1, nameO, nameF, lit_emp]
    by_cases h2 : 128 ≤ n
    · simp only [List.map_nil, Nat.le_refl, List.length_map, retQ, retD, Int.cast_ofNat_Int, aRun_nil, aRun_b, aRun_o0, aRun_o1, aRun_o2, aRun_skip, aRun_ret, aRun_seq, aRun_block, aRun_cond, aRun_region, aRun_exit, aRun_loop, afterQ_exit, afterQ_ret, aEx_some, aEx_none, aCont_some, aBr_true, aBr_false, aBr_dec, aBr_beq, aGd_yes, aGd_tf, aGd_ft, aGd_dec_t, aGd_beq, popTo, Int.reduceBEq, Int.reduceEq, roundQ_normal, roundQ_exit, roundQ_ret, aOp, evT, tget, putT, dstOk, gAt, setG, hget, aBin, aLoad, aStore, aNew, aField, aIndexAt, fitsAt, aLen, flatOf, cellsOf, splice, crun, List.getElem?_cons_zero, List.getElem?_cons_succ, List.map_cons, Option.map_some, Int.toNat_natCast, Option.isSome_some, List.getElem?_map, reduceIte, reduceCtorEq, Nat.reduceEqDiff, Nat.reduceAdd, Nat.reduceLT, decide_true, decide_false, true_and, and_true, forall_const, not_true_eq_false, not_false_eq_true, List.cons_append, List.nil_append, List.append_nil, List.take_succ_cons, List.take_zero, List.drop_succ_cons, List.drop_zero, List.length_cons, List.length_nil, List.set_cons_zero, true_or, or_true, or_false, implies_true, Bool.false_eq_true, false_implies, and_self, Bool.and_true, Bool.true_and, Bool.and_self, Nat.zero_add, Nat.add_zero, aPanQ_none, aPan, cpan, calleeOf, LV.toD0, toDs0, ofD, ofDs, outQ_ret, rvOf, rvsOf, toSs, aRet, zipT, runP, panP, hides, mapT, AV.toD, SV.toD, LV.toD, args1, tInt, tAgg, AV.plain, SV.plain, LV.plain, List.all_cons, List.all_nil, Int.natCast_nonneg, ge_iff_le, Option.getD_some, PO.ret.injEq, sz_2, row_2, sz_9, row_9, el_55, sz_58, row_58, zero_58, off_58_0, off_58_1, h1, h2, nameO, nameF, lit_emp]
    have h3 : 0 ≤ n ∧ n < 128 := by omega
    simp only [List.map_nil, Nat.le_refl, List.length_map, retQ, retD, Int.cast_ofNat_Int, aRun_nil, aRun_b, aRun_o0, aRun_o1, aRun_o2, aRun_skip, aRun_ret, aRun_seq, aRun_block, aRun_cond, aRun_region, aRun_exit, aRun_loop, afterQ_exit, afterQ_ret, aEx_some, aEx_none, aCont_some, aBr_true, aBr_false, aBr_dec, aBr_beq, aGd_yes, aGd_tf, aGd_ft, aGd_dec_t, aGd_beq, popTo, Int.reduceBEq, Int.reduceEq, roundQ_normal, roundQ_exit, roundQ_ret, aOp, evT, tget, putT, dstOk, gAt, setG, hget, aBin, aLoad, aStore, aNew, aField, aIndexAt, fitsAt, aLen, flatOf, cellsOf, splice, crun, List.getElem?_cons_zero, List.getElem?_cons_succ, List.map_cons, Option.map_some, Int.toNat_natCast, Option.isSome_some, List.getElem?_map, reduceIte, reduceCtorEq, Nat.reduceEqDiff, Nat.reduceAdd, Nat.reduceLT, decide_true, decide_false, true_and, and_true, forall_const, not_true_eq_false, not_false_eq_true, List.cons_append, List.nil_append, List.append_nil, List.take_succ_cons, List.take_zero, List.drop_succ_cons, List.drop_zero, List.length_cons, List.length_nil, List.set_cons_zero, true_or, or_true, or_false, implies_true, Bool.false_eq_true, false_implies, and_self, Bool.and_true, Bool.true_and, Bool.and_self, Nat.zero_add, Nat.add_zero, aPanQ_none, aPan, cpan, calleeOf, LV.toD0, toDs0, ofD, ofDs, outQ_ret, rvOf, rvsOf, toSs, aRet, zipT, runP, panP, hides, mapT, AV.toD, SV.toD, LV.toD, args1, tInt, tAgg, AV.plain, SV.plain, LV.plain, List.all_cons, List.all_nil, Int.natCast_nonneg, ge_iff_le, Option.getD_some, PO.ret.injEq, sz_2, row_2, sz_9, row_9, el_55, sz_58, row_58, zero_58, off_58_0, off_58_1, h1, h2, h3, nameO, nameF, lit_emp, regOf_run, regOf_pan, regName_run, regName_pan, regV, regR]
  · have loop : ∀ (l : List (ByteArray × Int)) (Q : Exit → St → Prop) (c : Code) (s0 : St), tblF k = l → l.length ≤ 100 → Wk ⟨none, 0⟩ s0 ⟨0, [(0, iv k), (1, iv n), (22, tblV l), (23, iv l.length), (24, iv 0)], []⟩ → (∀ i, i ≤ l.length → (∀ (j : Nat) (r : ByteArray × Int), j < i → l[j]? = some r → ¬ r.2 = n) → SW Tryd.prog ⟨none, 0⟩ 47 c ⟨0, [(0, iv k), (1, iv n), (22, tblV l), (23, iv l.length), (24, iv i)], []⟩ (roundQ ⟨none, 0⟩ (fun i => i ≤ l.length ∧ ∀ (j : Nat) (r : ByteArray × Int), j < i → l[j]? = some r → ¬ r.2 = n) (fun (i : Nat) => (⟨0, [(0, iv k), (1, iv n), (22, tblV l), (23, iv l.length), (24, iv i)], []⟩ : St)) (fun i => l.length - i) i Q)) → SW Tryd.prog ⟨none, 0⟩ 47 (.loop c) s0 Q :=
      fun l Q c s0 _ _ hw hr => sw_loop (ι := Nat) (fun i => i ≤ l.length ∧ ∀ (j : Nat) (r : ByteArray × Int), j < i → l[j]? = some r → ¬ r.2 = n) _ (fun i => l.length - i) 0 ⟨Nat.zero_le _, fun j r hj => absurd hj (Nat.not_lt_zero j)⟩ hw (fun i hi => hr i hi.1 hi.2)
    obtain ⟨l, hl⟩ : ∃ l, tblF k = l := ⟨_, rfl⟩
    have hlen : l.length ≤ 100 := by
      rw [← hl]
      unfold tblF
      repeat' split
      all_goals decide
    by_cases hnil : l = []
    have e : tblO k = nilV := by unfold tblO; rw [hl, if_pos hnil]
    simp only [List.map_nil, Nat.le_refl, List.length_map, retQ, retD, Int.cast_ofNat_Int, aRun_nil, aRun_b, aRun_o0, aRun_o1, aRun_o2, aRun_skip, aRun_ret, aRun_seq, aRun_block, aRun_cond, aRun_region, aRun_exit, aRun_loop, afterQ_exit, afterQ_ret, aEx_some, aEx_none, aCont_some, aBr_true, aBr_false, aBr_dec, aBr_beq, aGd_yes, aGd_tf, aGd_ft, aGd_dec_t, aGd_beq, popTo, Int.reduceBEq, Int.reduceEq, roundQ_normal, roundQ_exit, roundQ_ret, aOp, evT, tget, putT, dstOk, gAt, setG, hget, aBin, aLoad, aStore, aNew, aField, aIndexAt, fitsAt, aLen, flatOf, cellsOf, splice, crun, List.getElem?_cons_zero, List.getElem?_cons_succ, List.map_cons, Option.map_some, Int.toNat_natCast, Option.isSome_some, List.getElem?_map, reduceIte, reduceCtorEq, Nat.reduceEqDiff, Nat.reduceAdd, Nat.reduceLT, decide_true, decide_false, true_and, and_true, forall_const, not_true_eq_false, not_false_eq_true, List.cons_append, List.nil_append, List.append_nil, List.take_succ_cons, List.take_zero, List.drop_succ_cons, List.drop_zero, List.length_cons, List.length_nil, List.set_cons_zero, true_or, or_true, or_false, implies_true, Bool.false_eq_true, false_implies, and_self, Bool.and_true, Bool.true_and, Bool.and_self, Nat.zero_add, Nat.add_zero, aPanQ_none, aPan, cpan, calleeOf, LV.toD0, toDs0, ofD, ofDs, outQ_ret, rvOf, rvsOf, toSs, aRet, zipT, runP, panP, hides, mapT, AV.toD, SV.toD, LV.toD, args1, tInt, tAgg, AV.plain, SV.plain, LV.plain, List.all_cons, List.all_nil, Int.natCast_nonneg, ge_iff_le, Option.getD_some, PO.ret.injEq, sz_2, row_2, sz_9, row_9, el_55, sz_58, row_58, zero_58, off_58_0, off_58_1, hk, table_run, table_pan, e, nilV]
    refine loop l _ _ _ hl hlen ((Wk.nilD 22 2 rfl).trans (Wk.renL [] (by simp) (by simp) (by simp) (by subst hnil; rfl) rfl)) (fun i hi hn => ?_)
    rotate_left
    have e : tblO k = tblV l := by unfold tblO; rw [hl, if_neg hnil]
    simp only [List.map_nil, Nat.le_refl, List.length_map, retQ, retD, Int.cast_ofNat_Int, aRun_nil, aRun_b, aRun_o0, aRun_o1, aRun_o2, aRun_skip, aRun_ret, aRun_seq, aRun_block, aRun_cond, aRun_region, aRun_exit, aRun_loop, afterQ_exit, afterQ_ret, aEx_some, aEx_none, aCont_some, aBr_true, aBr_false, aBr_dec, aBr_beq, aGd_yes, aGd_tf, aGd_ft, aGd_dec_t, aGd_beq, popTo, Int.reduceBEq, Int.reduceEq, roundQ_normal, roundQ_exit, roundQ_ret, aOp, evT, tget, putT, dstOk, gAt, setG, hget, aBin, aLoad, aStore, aNew, aField, aIndexAt, fitsAt, aLen, flatOf, cellsOf, splice, crun, List.getElem?_cons_zero, List.getElem?_cons_succ, List.map_cons, Option.map_some, Int.toNat_natCast, Option.isSome_some, List.getElem?_map, reduceIte, reduceCtorEq, Nat.reduceEqDiff, Nat.reduceAdd, Nat.reduceLT, decide_true, decide_false, true_and, and_true, forall_const, not_true_eq_false, not_false_eq_true, List.cons_append, List.nil_append, List.append_nil, List.take_succ_cons, List.take_zero, List.drop_succ_cons, List.drop_zero, List.length_cons, List.length_nil, List.set_cons_zero, true_or, or_true, or_false, implies_true, Bool.false_eq_true, false_implies, and_self, Bool.and_true, Bool.true_and, Bool.and_self, Nat.zero_add, Nat.add_zero, aPanQ_none, aPan, cpan, calleeOf, LV.toD0, toDs0, ofD, ofDs, outQ_ret, rvOf, rvsOf, toSs, aRet, zipT, runP, panP, hides, mapT, AV.toD, SV.toD, LV.toD, args1, tInt, tAgg, AV.plain, SV.plain, LV.plain, List.all_cons, List.all_nil, Int.natCast_nonneg, ge_iff_le, Option.getD_some, PO.ret.injEq, sz_2, row_2, sz_9, row_9, el_55, sz_58, row_58, zero_58, off_58_0, off_58_1, hk, table_run, table_pan, e]
    refine loop l _ _ _ hl hlen (Wk.renL [] (by simp) (by simp) (by simp) rfl rfl) (fun i hi hn => ?_)
    all_goals
      refine aRun_sound (ctx := [⟨_, sysNameS⟩]) 4000 ?_
      rcases Nat.lt_or_ge i l.length with hlt | hge
      · have hltI : (i : Int) < l.length := by omega
        obtain ⟨r, hr⟩ : ∃ r, l[i]? = some r := ⟨_, List.getElem?_eq_getElem hlt⟩
        have ei : IntKind.i64.wrap ((i : Int) + 1) = ((i + 1 : Nat) : Int) := by rw [IntKind.wrap_i64]; omega
        by_cases hrn : r.2 = n
        · have er : nameF k n = (r.1, 0) := by unfold nameF; rw [if_neg hk, hl, nameIn_at hn hr hrn]
          simp only [List.map_nil, Nat.le_refl, List.length_map, retQ, retD, Int.cast_ofNat_Int, aRun_nil, aRun_b, aRun_o0, aRun_o1, aRun_o2, aRun_skip, aRun_ret, aRun_seq, aRun_block, aRun_cond, aRun_region, aRun_exit, aRun_loop, afterQ_exit, afterQ_ret, aEx_some, aEx_none, aCont_some, aBr_true, aBr_false, aBr_dec, aBr_beq, aGd_yes, aGd_tf, aGd_ft, aGd_dec_t, aGd_beq, popTo, Int.reduceBEq, Int.reduceEq, roundQ_normal, roundQ_exit, roundQ_ret, aOp, evT, tget, putT, dstOk, gAt, setG, hget, aBin, aLoad, aStore, aNew, aField, aIndexAt, fitsAt, aLen, flatOf, cellsOf, splice, crun, List.getElem?_cons_zero, List.getElem?_cons_succ, List.map_cons, Option.map_some, Int.toNat_natCast, Option.isSome_some, List.getElem?_map, reduceIte, reduceCtorEq, Nat.reduceEqDiff, Nat.reduceAdd, Nat.reduceLT, decide_true, decide_false, true_and, and_true, forall_const, not_true_eq_false, not_false_eq_true, List.cons_append, List.nil_append, List.append_nil, List.take_succ_cons, List.take_zero, List.drop_succ_cons, List.drop_zero, List.length_cons, List.length_nil, List.set_cons_zero, true_or, or_true, or_false, implies_true, Bool.false_eq_true, false_implies, and_self, Bool.and_true, Bool.true_and, Bool.and_self, Nat.zero_add, Nat.add_zero, aPanQ_none, aPan, cpan, calleeOf, LV.toD0, toDs0, ofD, ofDs, outQ_ret, rvOf, rvsOf, toSs, aRet, zipT, runP, panP, hides, mapT, AV.toD, SV.toD, LV.toD, args1, tInt, tAgg, AV.plain, SV.plain, LV.plain, List.all_cons, List.all_nil, Int.natCast_nonneg, ge_iff_le, Option.getD_some, PO.ret.injEq, sz_2, row_2, sz_9, row_9, el_55, sz_58, row_58, zero_58, off_58_0, off_58_1, hltI, hr, namedR, hrn, er, nameO]
        · simp only [List.map_nil, Nat.le_refl, List.length_map, retQ, retD, Int.cast_ofNat_Int, aRun_nil, aRun_b, aRun_o0, aRun_o1, aRun_o2, aRun_skip, aRun_ret, aRun_seq, aRun_block, aRun_cond, aRun_region, aRun_exit, aRun_loop, afterQ_exit, afterQ_ret, aEx_some, aEx_none, aCont_some, aBr_true, aBr_false, aBr_dec, aBr_beq, aGd_yes, aGd_tf, aGd_ft, aGd_dec_t, aGd_beq, popTo, Int.reduceBEq, Int.reduceEq, roundQ_normal, roundQ_exit, roundQ_ret, aOp, evT, tget, putT, dstOk, gAt, setG, hget, aBin, aLoad, aStore, aNew, aField, aIndexAt, fitsAt, aLen, flatOf, cellsOf, splice, crun, List.getElem?_cons_zero, List.getElem?_cons_succ, List.map_cons, Option.map_some, Int.toNat_natCast, Option.isSome_some, List.getElem?_map, reduceIte, reduceCtorEq, Nat.reduceEqDiff, Nat.reduceAdd, Nat.reduceLT, decide_true, decide_false, true_and, and_true, forall_const, not_true_eq_false, not_false_eq_true, List.cons_append, List.nil_append, List.append_nil, List.take_succ_cons, List.take_zero, List.drop_succ_cons, List.drop_zero, List.length_cons, List.length_nil, List.set_cons_zero, true_or, or_true, or_false, implies_true, Bool.false_eq_true, false_implies, and_self, Bool.and_true, Bool.true_and, Bool.and_self, Nat.zero_add, Nat.add_zero, aPanQ_none, aPan, cpan, calleeOf, LV.toD0, toDs0, ofD, ofDs, outQ_ret, rvOf, rvsOf, toSs, aRet, zipT, runP, panP, hides, mapT, AV.toD, SV.toD, LV.toD, args1, tInt, tAgg, AV.plain, SV.plain, LV.plain, List.all_cons, List.all_nil, Int.natCast_nonneg, ge_iff_le, Option.getD_some, PO.ret.injEq, sz_2, row_2, sz_9, row_9, el_55, sz_58, row_58, zero_58, off_58_0, off_58_1, hltI, hr, namedR, hrn, ei]
          refine ⟨i + 1, ⟨hlt, fun j r' hj hr' => ?_⟩, by omega, Wk.renL [] (by simp) (by simp) (by simp) rfl rfl⟩
          by_cases e2 : j = i
          · subst e2
            rw [hr] at hr'
            injection hr' with hr'
            rw [← hr']
            exact hrn
          · exact hn j r' (by omega) hr'
      · obtain rfl : i = l.length := by omega
        have hI : ¬ (l.length : Int) < l.length := by omega
        have hno := nameIn_none hn
        by_cases hs : k = 6 ∧ 0 ≤ n ∧ n < 32768
        · have er : nameF k n = (sysNameF n, 0) := by unfold nameF; rw [if_neg hk, hl, hno]; simp only [hs, and_self, if_true]
          simp only [List.map_nil, Nat.le_refl, List.length_map, retQ, retD, Int.cast_ofNat_Int, aRun_nil, aRun_b, aRun_o0, aRun_o1, aRun_o2, aRun_skip, aRun_ret, aRun_seq, aRun_block, aRun_cond, aRun_region, aRun_exit, aRun_loop, afterQ_exit, afterQ_ret, aEx_some, aEx_none, aCont_some, aBr_true, aBr_false, aBr_dec, aBr_beq, aGd_yes, aGd_tf, aGd_ft, aGd_dec_t, aGd_beq, popTo, Int.reduceBEq, Int.reduceEq, roundQ_normal, roundQ_exit, roundQ_ret, aOp, evT, tget, putT, dstOk, gAt, setG, hget, aBin, aLoad, aStore, aNew, aField, aIndexAt, fitsAt, aLen, flatOf, cellsOf, splice, crun, List.getElem?_cons_zero, List.getElem?_cons_succ, List.map_cons, Option.map_some, Int.toNat_natCast, Option.isSome_some, List.getElem?_map, reduceIte, reduceCtorEq, Nat.reduceEqDiff, Nat.reduceAdd, Nat.reduceLT, decide_true, decide_false, true_and, and_true, forall_const, not_true_eq_false, not_false_eq_true, List.cons_append, List.nil_append, List.append_nil, List.take_succ_cons, List.take_zero, List.drop_succ_cons, List.drop_zero, List.length_cons, List.length_nil, List.set_cons_zero, true_or, or_true, or_false, implies_true, Bool.false_eq_true, false_implies, and_self, Bool.and_true, Bool.true_and, Bool.and_self, Nat.zero_add, Nat.add_zero, aPanQ_none, aPan, cpan, calleeOf, LV.toD0, toDs0, ofD, ofDs, outQ_ret, rvOf, rvsOf, toSs, aRet, zipT, runP, panP, hides, mapT, AV.toD, SV.toD, LV.toD, args1, tInt, tAgg, AV.plain, SV.plain, LV.plain, List.all_cons, List.all_nil, Int.natCast_nonneg, ge_iff_le, Option.getD_some, PO.ret.injEq, sz_2, row_2, sz_9, row_9, el_55, sz_58, row_58, zero_58, off_58_0, off_58_1, hI, eq_true hs.1, hs.2.1, hs.2.2, sysName_run, sysName_pan, er, nameO]
        · have er : nameF k n = (emp, 30) := by unfold nameF; rw [if_neg hk, hl, hno]; simp only [hs, if_false]
          by_cases a1 : k = 6
          · by_cases a2 : 0 ≤ n
            · have a3 : ¬ n < 32768 := fun h => hs ⟨a1, a2, h⟩
              simp only [List.map_nil, Nat.le_refl, List.length_map, retQ, retD, Int.cast_ofNat_Int, aRun_nil, aRun_b, aRun_o0, aRun_o1, aRun_o2, aRun_skip, aRun_ret, aRun_seq, aRun_block, aRun_cond, aRun_region, aRun_exit, aRun_loop, afterQ_exit, afterQ_ret, aEx_some, aEx_none, aCont_some, aBr_true, aBr_false, aBr_dec, aBr_beq, aGd_yes, aGd_tf, aGd_ft, aGd_dec_t, aGd_beq, popTo, Int.reduceBEq, Int.reduceEq, roundQ_normal, roundQ_exit, roundQ_ret, aOp, evT, tget, putT, dstOk, gAt, setG, hget, aBin, aLoad, aStore, aNew, aField, aIndexAt, fitsAt, aLen, flatOf, cellsOf, splice, crun, List.getElem?_cons_zero, List.getElem?_cons_succ, List.map_cons, Option.map_some, Int.toNat_natCast, Option.isSome_some, List.getElem?_map, reduceIte, reduceCtorEq, Nat.reduceEqDiff, Nat.reduceAdd, Nat.reduceLT, decide_true, decide_false, true_and, and_true, forall_const, not_true_eq_false, not_false_eq_true, List.cons_append, List.nil_append, List.append_nil, List.take_succ_cons, List.take_zero, List.drop_succ_cons, List.drop_zero, List.length_cons, List.length_nil, List.set_cons_zero, true_or, or_true, or_false, implies_true, Bool.false_eq_true, false_implies, and_self, Bool.and_true, Bool.true_and, Bool.and_self, Nat.zero_add, Nat.add_zero, aPanQ_none, aPan, cpan, calleeOf, LV.toD0, toDs0, ofD, ofDs, outQ_ret, rvOf, rvsOf, toSs, aRet, zipT, runP, panP, hides, mapT, AV.toD, SV.toD, LV.toD, args1, tInt, tAgg, AV.plain, SV.plain, LV.plain, List.all_cons, List.all_nil, Int.natCast_nonneg, ge_iff_le, Option.getD_some, PO.ret.injEq, sz_2, row_2, sz_9, row_9, el_55, sz_58, row_58, zero_58, off_58_0, off_58_1, hI, eq_true a1, a2, a3, er, nameO, lit_emp]
            · simp only [List.map_nil, Nat.le_refl, List.length_map, retQ, retD, Int.cast_ofNat_Int, aRun_nil, aRun_b, aRun_o0, aRun_o1, aRun_o2, aRun_skip, aRun_ret, aRun_seq, aRun_block, aRun_cond, aRun_region, aRun_exit, aRun_loop, afterQ_exit, afterQ_ret, aEx_some, aEx_none, aCont_some, aBr_true, aBr_false, aBr_dec, aBr_beq, aGd_yes, aGd_tf, aGd_ft, aGd_dec_t, aGd_beq, popTo, Int.reduceBEq, Int.reduceEq, roundQ_normal, roundQ_exit, roundQ_ret, aOp, evT, tget, putT, dstOk, gAt, setG, hget, aBin, aLoad, aStore, aNew, aField, aIndexAt, fitsAt, aLen, flatOf, cellsOf, splice, crun, List.getElem?_cons_zero, List.getElem?_cons_succ, List.map_cons, Option.map_some, Int.toNat_natCast, Option.isSome_some, List.getElem?_map, reduceIte, reduceCtorEq, Nat.reduceEqDiff, Nat.reduceAdd, Nat.reduceLT, decide_true, decide_false, true_and, and_true, forall_const, not_true_eq_false, not_false_eq_true, List.cons_append, List.nil_append, List.append_nil, List.take_succ_cons, List.take_zero, List.drop_succ_cons, List.drop_zero, List.length_cons, List.length_nil, List.set_cons_zero, true_or, or_true, or_false, implies_true, Bool.false_eq_true, false_implies, and_self, Bool.and_true, Bool.true_and, Bool.and_self, Nat.zero_add, Nat.add_zero, aPanQ_none, aPan, cpan, calleeOf, LV.toD0, toDs0, ofD, ofDs, outQ_ret, rvOf, rvsOf, toSs, aRet, zipT, runP, panP, hides, mapT, AV.toD, SV.toD, LV.toD, args1, tInt, tAgg, AV.plain, SV.plain, LV.plain, List.all_cons, List.all_nil, Int.natCast_nonneg, ge_iff_le, Option.getD_some, PO.ret.injEq, sz_2, row_2, sz_9, row_9, el_55, sz_58, row_58, zero_58, off_58_0, off_58_1, hI, eq_true a1, a2, er, nameO, lit_emp]
          · simp only [List.map_nil, Nat.le_refl, List.length_map, retQ, retD, Int.cast_ofNat_Int, aRun_nil, aRun_b, aRun_o0, aRun_o1, aRun_o2, aRun_skip, aRun_ret, aRun_seq, aRun_block, aRun_cond, aRun_region, aRun_exit, aRun_loop, afterQ_exit, afterQ_ret, aEx_some, aEx_none, aCont_some, aBr_true, aBr_false, aBr_dec, aBr_beq, aGd_yes, aGd_tf, aGd_ft, aGd_dec_t, aGd_beq, popTo, Int.reduceBEq, Int.reduceEq, roundQ_normal, roundQ_exit, roundQ_ret, aOp, evT, tget, putT, dstOk, gAt, setG, hget, aBin, aLoad, aStore, aNew, aField, aIndexAt, fitsAt, aLen, flatOf, cellsOf, splice, crun, List.getElem?_cons_zero, List.getElem?_cons_succ, List.map_cons, Option.map_some, Int.toNat_natCast, Option.isSome_some, List.getElem?_map, reduceIte, reduceCtorEq, Nat.reduceEqDiff, Nat.reduceAdd, Nat.reduceLT, decide_true, decide_false, true_and, and_true, forall_const, not_true_eq_false, not_false_eq_true, List.cons_append, List.nil_append, List.append_nil, List.take_succ_cons, List.take_zero, List.drop_succ_cons, List.drop_zero, List.length_cons, List.length_nil, List.set_cons_zero, true_or, or_true, or_false, implies_true, Bool.false_eq_true, false_implies, and_self, Bool.and_true, Bool.true_and, Bool.and_self, Nat.zero_add, Nat.add_zero, aPanQ_none, aPan, cpan, calleeOf, LV.toD0, toDs0, ofD, ofDs, outQ_ret, rvOf, rvsOf, toSs, aRet, zipT, runP, panP, hides, mapT, AV.toD, SV.toD, LV.toD, args1, tInt, tAgg, AV.plain, SV.plain, LV.plain, List.all_cons, List.all_nil, Int.natCast_nonneg, ge_iff_le, Option.getD_some, PO.ret.injEq, sz_2, row_2, sz_9, row_9, el_55, sz_58, row_58, zero_58, off_58_0, off_58_1, hI, a1, er, nameO, lit_emp]

theorem en_name (args : Array Value) (w : World) : (callFunc 16 args).run Tryd.prog w = .ok (.enter 16 args) w := by go_simp
def nameS : Spec Tryd.prog 16 :=
  mk2 _ _ _ Tryd.func16 rfl en_name (tInt .i64) (tInt .i64) ((fun _ _ => True)) ((fun k n => .ret (nameO (nameF k n)))) (by rw [Tryd.ntmps16]; decide) (fun k n _ => name_sw k n)
theorem name_run {id : Nat} {h : Heap} {args : List AV} : (nameS).run id h args = runP (args2 (tInt .i64) (tInt .i64) ((fun _ _ => True))) (fun x => ((fun k n => .ret (nameO (nameF k n)))) x.1 x.2) h args := rfl
theorem name_pan {id : Nat} {h : Heap} {args : List AV} : (nameS).pan id h args = panP (args2 (tInt .i64) (tInt .i64) ((fun _ _ => True))) (fun x => ((fun k n => .ret (nameO (nameF k n)))) x.1 x.2) h args := rfl

end Go.Proofs.YtkjkogmnijfanaaDoor
