/- Functions of package expr by the value logic: takes, term, form. -/
import Derived.Test.YthhlghoeapjagaaChecked
import Derived.Test.YthhlghoeapjagaaV10
import Derived.Test.YthhlghoeapjagaaTy
import Derived.Test.YthhlghoeapjagaaPlain
import Derived.Test.YthhlghoeapjagaaEb
set_option linter.unusedVariables false
set_option linter.unusedSimpArgs false
namespace Go.Proofs.Ythhlghoeapjagaa
open Go.RowKit

abbrev iv (z : Int) : AV := .s (.l (.v (.int .i64 z)))
abbrev bv (b : Bool) : AV := .s (.l (.v (.bool b)))
abbrev sv (b : ByteArray) : AV := .s (.l (.v (.string b)))
abbrev slv (b i n : Nat) : AV := .s (.l (.sl b i n))

def Term.lv (t : Term) : List LV := [.v (.int .i64 t.kind), .v (.int .i64 t.n), .v (.string t.sym)]
def decTerm : List LV → Option Term
  | [.v (.int .i64 k), .v (.int .i64 n), .v (.string s)] => some ⟨k, n, s⟩
  | _ => none
theorem decTerm_lv (t : Term) : decTerm t.lv = some t := rfl
theorem decTerm_inv (c : List LV) (t : Term) (h : decTerm c = some t) : c = t.lv := by
  unfold decTerm at h
  split at h
  · injection h with h; subst h; rfl
  · cases h

/-! takes -/
def dTakes : List Value → Option (Prop × AV)
  | [.int .i64 k] => some (True, iv (takesF k))
  | _ => none

set_option maxHeartbeats 400000 in
theorem takes_sw (k : Int) : SW Try.prog Try.f37.ntmps (Try.f37.body.getD .skip) ⟨1, zipT 0 [iv k], []⟩ (retQ Try.prog Try.f37.results.toList (iv (takesF k))) := by
  refine aRun_sound (ctx := []) 4000 ?_
  rw [Try.ntmps37, Try.results37]
  simp only [Try.f37, Option.getD_some, zipT]
  simp only [aRun_nil, aRun_b, aRun_o0, aRun_o1, aRun_o2, aRun_skip, aRun_label, aRun_ret, aRun_seq, aRun_block, aRun_cond, aRun_region, aRun_exit, aRun_loop, aRun_draw, afterQ_normal, afterQ_exit, afterQ_ret, aEx_some, aEx_none, aCont_some, aCont_none, aBr_true, aBr_false, aBr_dec, aBr_not, aBr_beq, aBr_bne, aGd_yes, aGd_skip, aGd_tf, aGd_ft, aGd_dec_t, aGd_beq, aGd_bne, aGd_not, popTo, aDr_nil, aDr_one, aDr_yes, aDr_no, aDk_some, eOk, befOf, bindsE, Region.binds, bit, Hp, Nat.reduceOr, Nat.reducePow, Nat.reduceDiv, Nat.reduceMod, Nat.reduceBEq, Int.reduceBEq, Int.reduceBNe, Int.reduceEq, Int.reduceLT, Int.reduceLE, Int.reduceToNat, List.getD_cons_zero, List.getD_cons_succ, List.getD_nil, List.mem_cons, List.mem_singleton, List.not_mem_nil, roundQ_normal, roundQ_exit, roundQ_ret, runPlain, runFlat, dec1, slEls, take_map_len, aOp, evT, tget, putT, dstOk, gAt, setG, hget, aBin, aUn, aConv, aConvS, aLoad, aStore, aNew, aField, aIndexAt, fitsAt, aIndex, aSlice, bnd, aAppend, aLen, aFld, aMin, flatOf, flatLs, cellsOf, LV.one, Value.oneCell', fillL, splice, chunks, repL, aBuild, aBuildSlice, crun, zipT, retQ, aRet, rvsOf, rvOf, toSs, List.getElem?_cons_zero, List.getElem?_cons_succ, List.map_cons, List.map_nil, Option.map_some, Option.map_none, List.toList_toArray, List.size_toArray, flatArgs, Int.toNat_natCast, Option.isSome_some, AV.ren, SV.ren, LV.ren, Blk.ren, List.getElem?_map, reduceIte, reduceCtorEq, Nat.reduceEqDiff, Nat.reduceAdd, Nat.reduceLT, Nat.reduceLeDiff, Nat.reduceMul, Nat.reduceSub, decide_true, decide_false, true_and, and_true, forall_const, not_true_eq_false, not_false_eq_true, Bool.not_true, Bool.not_false, List.cons_append, List.nil_append, List.append_nil, forall_eq, eq_self, beq_iff_eq, decide_eq_true_eq, decide_eq_false_iff_not, beq_eq_false_iff_ne, ne_eq, bne_iff_ne, List.take_succ_cons, List.take_zero, List.drop_succ_cons, List.drop_zero, List.length_cons, List.length_nil, List.set_cons_zero, List.set_cons_succ, Option.some.injEq, true_or, or_true, false_or, or_false, implies_true, Bool.false_eq_true, Bool.true_eq_false, false_implies, and_self, Bool.and_true, Bool.true_and, Bool.and_self, Nat.zero_add, Nat.add_zero, sz_2, row_2, zero_2, by_2, str_2, kind_2, sz_3, row_3, zero_3, by_3, str_3, kind_3, sz_4, row_4, zero_4, by_4, str_4, sz_5, row_5, zero_5, by_5, str_5, kind_5, sz_9, row_9, zero_9, by_9, str_9, bs_9, sz_21, row_21, zero_21, by_21, str_21, kind_21, sz_22, row_22, zero_22, by_22, str_22, pl_22, off_22_0, fld_22_0, off_22_1, fld_22_1, off_22_2, fld_22_2, sz_23, row_23, zero_23, by_23, str_23, pl_23, off_23_0, fld_23_0, off_23_1, fld_23_1, off_23_2, fld_23_2, sz_25, row_25, zero_25, by_25, str_25, kind_25, sz_34, row_34, zero_34, by_34, el_34, str_34, bs_34, sz_46, row_46, zero_46, by_46, el_46, str_46, bs_46, sz_49, row_49, zero_49, by_49, el_49, str_49, bs_49, sz_50, row_50, zero_50, by_50, str_50, kind_50, sz_51, row_51, zero_51, by_51, str_51, pl_51, off_51_0, fld_51_0, off_51_1, fld_51_1, off_51_2, fld_51_2, off_51_3, fld_51_3, sz_52, row_52, zero_52, by_52, str_52, pl_52, off_52_0, fld_52_0, off_52_1, fld_52_1, off_52_2, fld_52_2, off_52_3, fld_52_3, sz_56, row_56, zero_56, by_56, str_56, pl_56, off_56_0, fld_56_0, off_56_1, fld_56_1, off_56_2, fld_56_2, sz_57, row_57, zero_57, by_57, str_57, pl_57, off_57_0, fld_57_0, off_57_1, fld_57_1, off_57_2, fld_57_2, sz_70, row_70, zero_70, by_70, el_70, str_70, bs_70, sz_72, row_72, zero_72, by_72, str_72, pl_72, off_72_0, fld_72_0, off_72_1, fld_72_1, sz_74, row_74, zero_74, by_74, el_74, str_74, bs_74, sz_76, row_76, zero_76, by_76, str_76, pl_76, off_76_0, fld_76_0, off_76_1, fld_76_1, sz_88, row_88, zero_88, by_88, el_88, str_88, bs_88, sz_94, row_94, zero_94, by_94, str_94, asz_94, pl_94, arr_94]
  unfold takesF
  refine ⟨fun h3 => ?_, fun h3 => ⟨fun h4 => ?_, fun h4 => ⟨fun h5 => ⟨fun h6 => ?_, fun h6 => ?_⟩, fun h5 => ?_⟩⟩⟩
  all_goals simp_all
  all_goals omega

theorem en_takes (args : Array Value) (w : World) : (callFunc 37 args).run Try.prog w = .ok (.enter 37 args) w := by go_simp
def takesS : Spec Try.prog 37 :=
  mkPlain _ _ _ Try.func37 rfl en_takes dTakes 1 (by rw [Try.ntmps37]; decide) (by
    intro vs ob r h hob
    unfold dTakes at h
    split at h
    case h_2 => cases h
    injection h with h
    injection h with h1 h
    subst h
    subst h1
    exact ⟨rfl, _, rfl, takes_sw _⟩)
theorem takes_run {id : Nat} {h : Heap} {args : List AV} : (takesS).run id h args = runPlain dTakes 1 args := rfl

/-! IsSym -/
def dIsSym : List Value → Option (Prop × AV)
  | [.string s] => some (s.size ≤ maxLen, bv (symB s))
  | _ => none

theorem en_isSym (args : Array Value) (w : World) : (callFunc 14 args).run Try.prog w = .ok (.enter 14 args) w := by go_simp
def isSymS : Spec Try.prog 14 :=
  mkOld _ en_isSym dIsSym 1 (by
    intro vs ob r h hob w
    unfold dIsSym at h
    split at h
    case h_2 => cases h
    injection h with h
    injection h with h1 h2
    subst h1
    subst h2
    exact (isSym_any _ w hob).mono fun e w' ⟨he, hw⟩ => ⟨_, he, fun _ _ => rfl, hw ▸ .refl _ _⟩)
theorem isSym_run {id : Nat} {h : Heap} {args : List AV} : (isSymS).run id h args = runPlain dIsSym 1 args := rfl

/-! term -/
def dTerm : List Value → Option (Prop × AV)
  | [.agg ⟨[.int .i64 k, .int .i64 n, .string s]⟩] => some (s.size ≤ maxLen, bv (termB ⟨k, n, s⟩))
  | _ => none

set_option maxHeartbeats 400000 in
theorem term_sw (k n : Int) (s : ByteArray) (hs : s.size ≤ maxLen) : SW Try.prog Try.f59.ntmps (Try.f59.body.getD .skip) ⟨1, zipT 0 [.s (.agg [.v (.int .i64 k), .v (.int .i64 n), .v (.string s)])], []⟩ (retQ Try.prog Try.f59.results.toList (bv (termB ⟨k, n, s⟩))) := by
  refine aRun_sound (ctx := [⟨_, isSymS⟩, ⟨_, takesS⟩]) 4000 ?_
  rw [Try.ntmps59, Try.results59]
  simp only [Try.f59, Option.getD_some, zipT]
  simp only [aRun_nil, aRun_b, aRun_o0, aRun_o1, aRun_o2, aRun_skip, aRun_label, aRun_ret, aRun_seq, aRun_block, aRun_cond, aRun_region, aRun_exit, aRun_loop, aRun_draw, afterQ_normal, afterQ_exit, afterQ_ret, aEx_some, aEx_none, aCont_some, aCont_none, aBr_true, aBr_false, aBr_dec, aBr_not, aBr_beq, aBr_bne, aGd_yes, aGd_skip, aGd_tf, aGd_ft, aGd_dec_t, aGd_beq, aGd_bne, aGd_not, popTo, aDr_nil, aDr_one, aDr_yes, aDr_no, aDk_some, eOk, befOf, bindsE, Region.binds, bit, Hp, Nat.reduceOr, Nat.reducePow, Nat.reduceDiv, Nat.reduceMod, Nat.reduceBEq, Int.reduceBEq, Int.reduceBNe, Int.reduceEq, Int.reduceLT, Int.reduceLE, Int.reduceToNat, List.getD_cons_zero, List.getD_cons_succ, List.getD_nil, List.mem_cons, List.mem_singleton, List.not_mem_nil, roundQ_normal, roundQ_exit, roundQ_ret, runPlain, runFlat, dec1, slEls, take_map_len, aOp, evT, tget, putT, dstOk, gAt, setG, hget, aBin, aUn, aConv, aConvS, aLoad, aStore, aNew, aField, aIndexAt, fitsAt, aIndex, aSlice, bnd, aAppend, aLen, aFld, aMin, flatOf, flatLs, cellsOf, LV.one, Value.oneCell', fillL, splice, chunks, repL, aBuild, aBuildSlice, crun, zipT, retQ, aRet, rvsOf, rvOf, toSs, List.getElem?_cons_zero, List.getElem?_cons_succ, List.map_cons, List.map_nil, Option.map_some, Option.map_none, List.toList_toArray, List.size_toArray, flatArgs, Int.toNat_natCast, Option.isSome_some, AV.ren, SV.ren, LV.ren, Blk.ren, List.getElem?_map, reduceIte, reduceCtorEq, Nat.reduceEqDiff, Nat.reduceAdd, Nat.reduceLT, Nat.reduceLeDiff, Nat.reduceMul, Nat.reduceSub, decide_true, decide_false, true_and, and_true, forall_const, not_true_eq_false, not_false_eq_true, Bool.not_true, Bool.not_false, List.cons_append, List.nil_append, List.append_nil, forall_eq, eq_self, beq_iff_eq, decide_eq_true_eq, decide_eq_false_iff_not, beq_eq_false_iff_ne, ne_eq, bne_iff_ne, List.take_succ_cons, List.take_zero, List.drop_succ_cons, List.drop_zero, List.length_cons, List.length_nil, List.set_cons_zero, List.set_cons_succ, Option.some.injEq, true_or, or_true, false_or, or_false, implies_true, Bool.false_eq_true, Bool.true_eq_false, false_implies, and_self, Bool.and_true, Bool.true_and, Bool.and_self, Nat.zero_add, Nat.add_zero, sz_2, row_2, zero_2, by_2, str_2, kind_2, sz_3, row_3, zero_3, by_3, str_3, kind_3, sz_4, row_4, zero_4, by_4, str_4, sz_5, row_5, zero_5, by_5, str_5, kind_5, sz_9, row_9, zero_9, by_9, str_9, bs_9, sz_21, row_21, zero_21, by_21, str_21, kind_21, sz_22, row_22, zero_22, by_22, str_22, pl_22, off_22_0, fld_22_0, off_22_1, fld_22_1, off_22_2, fld_22_2, sz_23, row_23, zero_23, by_23, str_23, pl_23, off_23_0, fld_23_0, off_23_1, fld_23_1, off_23_2, fld_23_2, sz_25, row_25, zero_25, by_25, str_25, kind_25, sz_34, row_34, zero_34, by_34, el_34, str_34, bs_34, sz_46, row_46, zero_46, by_46, el_46, str_46, bs_46, sz_49, row_49, zero_49, by_49, el_49, str_49, bs_49, sz_50, row_50, zero_50, by_50, str_50, kind_50, sz_51, row_51, zero_51, by_51, str_51, pl_51, off_51_0, fld_51_0, off_51_1, fld_51_1, off_51_2, fld_51_2, off_51_3, fld_51_3, sz_52, row_52, zero_52, by_52, str_52, pl_52, off_52_0, fld_52_0, off_52_1, fld_52_1, off_52_2, fld_52_2, off_52_3, fld_52_3, sz_56, row_56, zero_56, by_56, str_56, pl_56, off_56_0, fld_56_0, off_56_1, fld_56_1, off_56_2, fld_56_2, sz_57, row_57, zero_57, by_57, str_57, pl_57, off_57_0, fld_57_0, off_57_1, fld_57_1, off_57_2, fld_57_2, sz_70, row_70, zero_70, by_70, el_70, str_70, bs_70, sz_72, row_72, zero_72, by_72, str_72, pl_72, off_72_0, fld_72_0, off_72_1, fld_72_1, sz_74, row_74, zero_74, by_74, el_74, str_74, bs_74, sz_76, row_76, zero_76, by_76, str_76, pl_76, off_76_0, fld_76_0, off_76_1, fld_76_1, sz_88, row_88, zero_88, by_88, el_88, str_88, bs_88, sz_94, row_94, zero_94, by_94, str_94, asz_94, pl_94, arr_94, crun, isSym_run, takes_run, dIsSym, dTakes]
  simp only [isEmpty_emp, show (⟨#[]⟩ : ByteArray) = emp from rfl, hs, true_and]
  refine ⟨fun h1 => ?_, fun h1 => ⟨fun h2 => ⟨fun h0 => ?_, fun h0 => ?_⟩, fun h2 => ⟨fun h3 => ⟨fun h0 => ?_, fun h0 => ?_⟩, fun h3 => ?_⟩⟩⟩
  all_goals (congr 4; simp_all [termB])
  omega

theorem en_term (args : Array Value) (w : World) : (callFunc 59 args).run Try.prog w = .ok (.enter 59 args) w := by go_simp
def termS : Spec Try.prog 59 :=
  mkPlain _ _ _ Try.func59 rfl en_term dTerm 1 (by rw [Try.ntmps59]; decide) (by
    intro vs ob r h hob
    unfold dTerm at h
    split at h
    case h_2 => cases h
    injection h with h
    injection h with h1 h
    subst h
    subst h1
    exact ⟨rfl, [.s (.agg [.v (.int .i64 _), .v (.int .i64 _), .v (.string _)])], rfl, term_sw _ _ _ hob⟩)
theorem term_run {id : Nat} {h : Heap} {args : List AV} : (termS).run id h args = runPlain dTerm 1 args := rfl

/-! form -/
def Tms (ts : List Term) : Heap := [(0, some ⟨false, 57, 3, ts.map Term.lv⟩)]

def formI (ts : List Term) (i : Nat × Int) : St := ⟨1, [(7, slv 0 0 ts.length), (8, iv ts.length), (9, iv i.1), (3, iv i.2)], Tms ts⟩

set_option maxHeartbeats 1000000 in
theorem form_sw (ts : List Term) (hl : ts.length ≤ maxLen) (hz : ∀ t ∈ ts, t.sym.size ≤ maxLen) : SW Try.prog Try.f48.ntmps (Try.f48.body.getD .skip) ⟨1, zipT 0 [slv 0 0 ts.length], Tms ts⟩ (retQ Try.prog Try.f48.results.toList (iv (formF 0 ts))) := by
  unfold maxLen at hl
  refine aRun_sound (ctx := [⟨_, takesS⟩, ⟨_, termS⟩]) 4000 ?_
  rw [Try.ntmps48, Try.results48]
  simp only [Try.f48, Option.getD_some, zipT]
  simp only [Tms, aRun_nil, aRun_b, aRun_o0, aRun_o1, aRun_o2, aRun_skip, aRun_label, aRun_ret, aRun_seq, aRun_block, aRun_cond, aRun_region, aRun_exit, aRun_loop, aRun_draw, afterQ_normal, afterQ_exit, afterQ_ret, aEx_some, aEx_none, aCont_some, aCont_none, aBr_true, aBr_false, aBr_dec, aBr_not, aBr_beq, aBr_bne, aGd_yes, aGd_skip, aGd_tf, aGd_ft, aGd_dec_t, aGd_beq, aGd_bne, aGd_not, popTo, aDr_nil, aDr_one, aDr_yes, aDr_no, aDk_some, eOk, befOf, bindsE, Region.binds, bit, Hp, Nat.reduceOr, Nat.reducePow, Nat.reduceDiv, Nat.reduceMod, Nat.reduceBEq, Int.reduceBEq, Int.reduceBNe, Int.reduceEq, Int.reduceLT, Int.reduceLE, Int.reduceToNat, List.getD_cons_zero, List.getD_cons_succ, List.getD_nil, List.mem_cons, List.mem_singleton, List.not_mem_nil, roundQ_normal, roundQ_exit, roundQ_ret, runPlain, runFlat, dec1, slEls, take_map_len, aOp, evT, tget, putT, dstOk, gAt, setG, hget, aBin, aUn, aConv, aConvS, aLoad, aStore, aNew, aField, aIndexAt, fitsAt, aIndex, aSlice, bnd, aAppend, aLen, aFld, aMin, flatOf, flatLs, cellsOf, LV.one, Value.oneCell', fillL, splice, chunks, repL, aBuild, aBuildSlice, crun, zipT, retQ, aRet, rvsOf, rvOf, toSs, List.getElem?_cons_zero, List.getElem?_cons_succ, List.map_cons, List.map_nil, Option.map_some, Option.map_none, List.toList_toArray, List.size_toArray, flatArgs, Int.toNat_natCast, Option.isSome_some, AV.ren, SV.ren, LV.ren, Blk.ren, List.getElem?_map, reduceIte, reduceCtorEq, Nat.reduceEqDiff, Nat.reduceAdd, Nat.reduceLT, Nat.reduceLeDiff, Nat.reduceMul, Nat.reduceSub, decide_true, decide_false, true_and, and_true, forall_const, not_true_eq_false, not_false_eq_true, Bool.not_true, Bool.not_false, List.cons_append, List.nil_append, List.append_nil, forall_eq, eq_self, beq_iff_eq, decide_eq_true_eq, decide_eq_false_iff_not, beq_eq_false_iff_ne, ne_eq, bne_iff_ne, List.take_succ_cons, List.take_zero, List.drop_succ_cons, List.drop_zero, List.length_cons, List.length_nil, List.set_cons_zero, List.set_cons_succ, Option.some.injEq, true_or, or_true, false_or, or_false, implies_true, Bool.false_eq_true, Bool.true_eq_false, false_implies, and_self, Bool.and_true, Bool.true_and, Bool.and_self, Nat.zero_add, Nat.add_zero, sz_2, row_2, zero_2, by_2, str_2, kind_2, sz_3, row_3, zero_3, by_3, str_3, kind_3, sz_4, row_4, zero_4, by_4, str_4, sz_5, row_5, zero_5, by_5, str_5, kind_5, sz_9, row_9, zero_9, by_9, str_9, bs_9, sz_21, row_21, zero_21, by_21, str_21, kind_21, sz_22, row_22, zero_22, by_22, str_22, pl_22, off_22_0, fld_22_0, off_22_1, fld_22_1, off_22_2, fld_22_2, sz_23, row_23, zero_23, by_23, str_23, pl_23, off_23_0, fld_23_0, off_23_1, fld_23_1, off_23_2, fld_23_2, sz_25, row_25, zero_25, by_25, str_25, kind_25, sz_34, row_34, zero_34, by_34, el_34, str_34, bs_34, sz_46, row_46, zero_46, by_46, el_46, str_46, bs_46, sz_49, row_49, zero_49, by_49, el_49, str_49, bs_49, sz_50, row_50, zero_50, by_50, str_50, kind_50, sz_51, row_51, zero_51, by_51, str_51, pl_51, off_51_0, fld_51_0, off_51_1, fld_51_1, off_51_2, fld_51_2, off_51_3, fld_51_3, sz_52, row_52, zero_52, by_52, str_52, pl_52, off_52_0, fld_52_0, off_52_1, fld_52_1, off_52_2, fld_52_2, off_52_3, fld_52_3, sz_56, row_56, zero_56, by_56, str_56, pl_56, off_56_0, fld_56_0, off_56_1, fld_56_1, off_56_2, fld_56_2, sz_57, row_57, zero_57, by_57, str_57, pl_57, off_57_0, fld_57_0, off_57_1, fld_57_1, off_57_2, fld_57_2, sz_70, row_70, zero_70, by_70, el_70, str_70, bs_70, sz_72, row_72, zero_72, by_72, str_72, pl_72, off_72_0, fld_72_0, off_72_1, fld_72_1, sz_74, row_74, zero_74, by_74, el_74, str_74, bs_74, sz_76, row_76, zero_76, by_76, str_76, pl_76, off_76_0, fld_76_0, off_76_1, fld_76_1, sz_88, row_88, zero_88, by_88, el_88, str_88, bs_88, sz_94, row_94, zero_94, by_94, str_94, asz_94, pl_94, arr_94]
  refine sw_loop (fun i => i.1 ≤ ts.length ∧ 0 ≤ i.2 ∧ i.2 ≤ i.1 ∧ formF i.2 (ts.drop i.1) = formF 0 ts) (formI ts) (fun i => ts.length - i.1) (0, 0) (by simp) ?_ ?_
  · refine Wk.ren [0] rfl (by decide) ?_ ?_
    · simp [formI, tget, AV.ren, SV.ren, LV.ren]
    · simp [formI, Tms, hget, Blk.ren, List.map_map, Function.comp_def, Term.lv, LV.ren]
  · rintro ⟨k, hv⟩ ⟨hk, h0, h1, hr⟩
    simp only at hk h0 h1 hr
    refine aRun_sound (ctx := [⟨_, takesS⟩, ⟨_, termS⟩]) 4000 ?_
    rw [show formI ts (k, hv) = ⟨1, [(7, slv 0 0 ts.length), (8, iv ts.length), (9, iv k), (3, iv hv)], [(0, some ⟨false, 57, 3, ts.map Term.lv⟩)]⟩ from rfl]
    by_cases hlt : k < ts.length
    · obtain ⟨t, ht⟩ : ∃ t, ts[k]? = some t := ⟨_, List.getElem?_eq_getElem hlt⟩
      have hlt' : (k : Int) < ts.length := by omega
      have hzt := hz t (List.mem_of_getElem? ht)
      simp only [aRun_nil, aRun_b, aRun_o0, aRun_o1, aRun_o2, aRun_skip, aRun_label, aRun_ret, aRun_seq, aRun_block, aRun_cond, aRun_region, aRun_exit, aRun_loop, aRun_draw, afterQ_normal, afterQ_exit, afterQ_ret, aEx_some, aEx_none, aCont_some, aCont_none, aBr_true, aBr_false, aBr_dec, aBr_not, aBr_beq, aBr_bne, aGd_yes, aGd_skip, aGd_tf, aGd_ft, aGd_dec_t, aGd_beq, aGd_bne, aGd_not, popTo, aDr_nil, aDr_one, aDr_yes, aDr_no, aDk_some, eOk, befOf, bindsE, Region.binds, bit, Hp, Nat.reduceOr, Nat.reducePow, Nat.reduceDiv, Nat.reduceMod, Nat.reduceBEq, Int.reduceBEq, Int.reduceBNe, Int.reduceEq, Int.reduceLT, Int.reduceLE, Int.reduceToNat, List.getD_cons_zero, List.getD_cons_succ, List.getD_nil, List.mem_cons, List.mem_singleton, List.not_mem_nil, roundQ_normal, roundQ_exit, roundQ_ret, runPlain, runFlat, dec1, slEls, take_map_len, aOp, evT, tget, putT, dstOk, gAt, setG, hget, aBin, aUn, aConv, aConvS, aLoad, aStore, aNew, aField, aIndexAt, fitsAt, aIndex, aSlice, bnd, aAppend, aLen, aFld, aMin, flatOf, flatLs, cellsOf, LV.one, Value.oneCell', fillL, splice, chunks, repL, aBuild, aBuildSlice, crun, zipT, retQ, aRet, rvsOf, rvOf, toSs, List.getElem?_cons_zero, List.getElem?_cons_succ, List.map_cons, List.map_nil, Option.map_some, Option.map_none, List.toList_toArray, List.size_toArray, flatArgs, Int.toNat_natCast, Option.isSome_some, AV.ren, SV.ren, LV.ren, Blk.ren, List.getElem?_map, reduceIte, reduceCtorEq, Nat.reduceEqDiff, Nat.reduceAdd, Nat.reduceLT, Nat.reduceLeDiff, Nat.reduceMul, Nat.reduceSub, decide_true, decide_false, true_and, and_true, forall_const, not_true_eq_false, not_false_eq_true, Bool.not_true, Bool.not_false, List.cons_append, List.nil_append, List.append_nil, forall_eq, eq_self, beq_iff_eq, decide_eq_true_eq, decide_eq_false_iff_not, beq_eq_false_iff_ne, ne_eq, bne_iff_ne, List.take_succ_cons, List.take_zero, List.drop_succ_cons, List.drop_zero, List.length_cons, List.length_nil, List.set_cons_zero, List.set_cons_succ, Option.some.injEq, true_or, or_true, false_or, or_false, implies_true, Bool.false_eq_true, Bool.true_eq_false, false_implies, and_self, Bool.and_true, Bool.true_and, Bool.and_self, Nat.zero_add, Nat.add_zero, sz_2, row_2, zero_2, by_2, str_2, kind_2, sz_3, row_3, zero_3, by_3, str_3, kind_3, sz_4, row_4, zero_4, by_4, str_4, sz_5, row_5, zero_5, by_5, str_5, kind_5, sz_9, row_9, zero_9, by_9, str_9, bs_9, sz_21, row_21, zero_21, by_21, str_21, kind_21, sz_22, row_22, zero_22, by_22, str_22, pl_22, off_22_0, fld_22_0, off_22_1, fld_22_1, off_22_2, fld_22_2, sz_23, row_23, zero_23, by_23, str_23, pl_23, off_23_0, fld_23_0, off_23_1, fld_23_1, off_23_2, fld_23_2, sz_25, row_25, zero_25, by_25, str_25, kind_25, sz_34, row_34, zero_34, by_34, el_34, str_34, bs_34, sz_46, row_46, zero_46, by_46, el_46, str_46, bs_46, sz_49, row_49, zero_49, by_49, el_49, str_49, bs_49, sz_50, row_50, zero_50, by_50, str_50, kind_50, sz_51, row_51, zero_51, by_51, str_51, pl_51, off_51_0, fld_51_0, off_51_1, fld_51_1, off_51_2, fld_51_2, off_51_3, fld_51_3, sz_52, row_52, zero_52, by_52, str_52, pl_52, off_52_0, fld_52_0, off_52_1, fld_52_1, off_52_2, fld_52_2, off_52_3, fld_52_3, sz_56, row_56, zero_56, by_56, str_56, pl_56, off_56_0, fld_56_0, off_56_1, fld_56_1, off_56_2, fld_56_2, sz_57, row_57, zero_57, by_57, str_57, pl_57, off_57_0, fld_57_0, off_57_1, fld_57_1, off_57_2, fld_57_2, sz_70, row_70, zero_70, by_70, el_70, str_70, bs_70, sz_72, row_72, zero_72, by_72, str_72, pl_72, off_72_0, fld_72_0, off_72_1, fld_72_1, sz_74, row_74, zero_74, by_74, el_74, str_74, bs_74, sz_76, row_76, zero_76, by_76, str_76, pl_76, off_76_0, fld_76_0, off_76_1, fld_76_1, sz_88, row_88, zero_88, by_88, el_88, str_88, bs_88, sz_94, row_94, zero_94, by_94, str_94, asz_94, pl_94, arr_94, hlt', ht, Term.lv, crun, takes_run, term_run, dTakes, dTerm, hzt]
      have hd : ts.drop k = t :: ts.drop (k + 1) := by rw [List.drop_eq_getElem_cons hlt]; congr 1; rw [List.getElem?_eq_getElem hlt] at ht; injection ht
      have tb := takesF_bd t.kind
      rw [hd] at hr
      refine ⟨by omega, fun htm => ⟨fun hlk => ?_, fun hlk => ?_⟩, fun htm => ?_⟩
      · rw [← hr, formF, if_pos (.inr hlk)]
      · have e1 : IntKind.i64.wrap ((k : Int) + 1) = ((k + 1 : Nat) : Int) := by rw [IntKind.wrap_i64]; omega
        have e2 : IntKind.i64.wrap (1 - takesF t.kind) = 1 - takesF t.kind := by rw [IntKind.wrap_i64]; omega
        have e3 : IntKind.i64.wrap (hv + (1 - takesF t.kind)) = hv + (1 - takesF t.kind) := by rw [IntKind.wrap_i64]; omega
        refine ⟨(k + 1, hv + (1 - takesF t.kind)), ⟨by omega, by simp only; omega, by simp only; omega, ?_⟩, by simp only; omega, Wk.ren [0] rfl (by decide) ?_ ?_⟩
        · rw [← hr, formF, if_neg]
          rintro (h | h)
          · rw [htm] at h; cases h
          · exact hlk h
        · simp [formI, tget, AV.ren, SV.ren, LV.ren, e1, e2, e3]
        · simp [formI, Tms, hget, Blk.ren, List.map_map, Function.comp_def, Term.lv, LV.ren]
      · rw [← hr, formF, if_pos (.inl htm)]
    · have hlt' : ¬ (k : Int) < ts.length := by omega
      simp only [aRun_nil, aRun_b, aRun_o0, aRun_o1, aRun_o2, aRun_skip, aRun_label, aRun_ret, aRun_seq, aRun_block, aRun_cond, aRun_region, aRun_exit, aRun_loop, aRun_draw, afterQ_normal, afterQ_exit, afterQ_ret, aEx_some, aEx_none, aCont_some, aCont_none, aBr_true, aBr_false, aBr_dec, aBr_not, aBr_beq, aBr_bne, aGd_yes, aGd_skip, aGd_tf, aGd_ft, aGd_dec_t, aGd_beq, aGd_bne, aGd_not, popTo, aDr_nil, aDr_one, aDr_yes, aDr_no, aDk_some, eOk, befOf, bindsE, Region.binds, bit, Hp, Nat.reduceOr, Nat.reducePow, Nat.reduceDiv, Nat.reduceMod, Nat.reduceBEq, Int.reduceBEq, Int.reduceBNe, Int.reduceEq, Int.reduceLT, Int.reduceLE, Int.reduceToNat, List.getD_cons_zero, List.getD_cons_succ, List.getD_nil, List.mem_cons, List.mem_singleton, List.not_mem_nil, roundQ_normal, roundQ_exit, roundQ_ret, runPlain, runFlat, dec1, slEls, take_map_len, aOp, evT, tget, putT, dstOk, gAt, setG, hget, aBin, aUn, aConv, aConvS, aLoad, aStore, aNew, aField, aIndexAt, fitsAt, aIndex, aSlice, bnd, aAppend, aLen, aFld, aMin, flatOf, flatLs, cellsOf, LV.one, Value.oneCell', fillL, splice, chunks, repL, aBuild, aBuildSlice, crun, zipT, retQ, aRet, rvsOf, rvOf, toSs, List.getElem?_cons_zero, List.getElem?_cons_succ, List.map_cons, List.map_nil, Option.map_some, Option.map_none, List.toList_toArray, List.size_toArray, flatArgs, Int.toNat_natCast, Option.isSome_some, AV.ren, SV.ren, LV.ren, Blk.ren, List.getElem?_map, reduceIte, reduceCtorEq, Nat.reduceEqDiff, Nat.reduceAdd, Nat.reduceLT, Nat.reduceLeDiff, Nat.reduceMul, Nat.reduceSub, decide_true, decide_false, true_and, and_true, forall_const, not_true_eq_false, not_false_eq_true, Bool.not_true, Bool.not_false, List.cons_append, List.nil_append, List.append_nil, forall_eq, eq_self, beq_iff_eq, decide_eq_true_eq, decide_eq_false_iff_not, beq_eq_false_iff_ne, ne_eq, bne_iff_ne, List.take_succ_cons, List.take_zero, List.drop_succ_cons, List.drop_zero, List.length_cons, List.length_nil, List.set_cons_zero, List.set_cons_succ, Option.some.injEq, true_or, or_true, false_or, or_false, implies_true, Bool.false_eq_true, Bool.true_eq_false, false_implies, and_self, Bool.and_true, Bool.true_and, Bool.and_self, Nat.zero_add, Nat.add_zero, sz_2, row_2, zero_2, by_2, str_2, kind_2, sz_3, row_3, zero_3, by_3, str_3, kind_3, sz_4, row_4, zero_4, by_4, str_4, sz_5, row_5, zero_5, by_5, str_5, kind_5, sz_9, row_9, zero_9, by_9, str_9, bs_9, sz_21, row_21, zero_21, by_21, str_21, kind_21, sz_22, row_22, zero_22, by_22, str_22, pl_22, off_22_0, fld_22_0, off_22_1, fld_22_1, off_22_2, fld_22_2, sz_23, row_23, zero_23, by_23, str_23, pl_23, off_23_0, fld_23_0, off_23_1, fld_23_1, off_23_2, fld_23_2, sz_25, row_25, zero_25, by_25, str_25, kind_25, sz_34, row_34, zero_34, by_34, el_34, str_34, bs_34, sz_46, row_46, zero_46, by_46, el_46, str_46, bs_46, sz_49, row_49, zero_49, by_49, el_49, str_49, bs_49, sz_50, row_50, zero_50, by_50, str_50, kind_50, sz_51, row_51, zero_51, by_51, str_51, pl_51, off_51_0, fld_51_0, off_51_1, fld_51_1, off_51_2, fld_51_2, off_51_3, fld_51_3, sz_52, row_52, zero_52, by_52, str_52, pl_52, off_52_0, fld_52_0, off_52_1, fld_52_1, off_52_2, fld_52_2, off_52_3, fld_52_3, sz_56, row_56, zero_56, by_56, str_56, pl_56, off_56_0, fld_56_0, off_56_1, fld_56_1, off_56_2, fld_56_2, sz_57, row_57, zero_57, by_57, str_57, pl_57, off_57_0, fld_57_0, off_57_1, fld_57_1, off_57_2, fld_57_2, sz_70, row_70, zero_70, by_70, el_70, str_70, bs_70, sz_72, row_72, zero_72, by_72, str_72, pl_72, off_72_0, fld_72_0, off_72_1, fld_72_1, sz_74, row_74, zero_74, by_74, el_74, str_74, bs_74, sz_76, row_76, zero_76, by_76, str_76, pl_76, off_76_0, fld_76_0, off_76_1, fld_76_1, sz_88, row_88, zero_88, by_88, el_88, str_88, bs_88, sz_94, row_94, zero_94, by_94, str_94, asz_94, pl_94, arr_94, hlt']
      rw [List.drop_eq_nil_of_le (by omega), formF] at hr
      rw [← hr]
      exact ⟨fun h => by rw [if_pos h], fun h => by rw [if_neg h]⟩

end Go.Proofs.Ythhlghoeapjagaa
