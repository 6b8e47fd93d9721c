/- Lines: a fixed line; a copy of tokens without their places. -/
import Derived.Test.YtcdbldakjepjiaaDoorLA
set_option linter.unusedVariables false
set_option linter.unusedSimpArgs false
namespace Go.Proofs.YtcdbldakjepjiaaDoor
open Go.RowKit
set_option maxRecDepth 100000

/-! ### A line's tokens, by computing -/
def tokensN : Nat → Nat → List Int → List Tok × Nat × Int
  | 0, p, _ => ([], p, 99)
  | f + 1, p, l =>
    if doneL (l.drop (runL blankB l)) = true then ([], p + l.length, 0) else
    match oneL (l.drop (runL blankB l)) with
    | .error e => ([], p + runL blankB l, e)
    | .ok (t, n) => ({ t with pos := ((p + runL blankB l : Nat) : Int) } :: (tokensN f (p + runL blankB l + n) (l.drop (runL blankB l + n))).1, (tokensN f (p + runL blankB l + n) (l.drop (runL blankB l + n))).2)
theorem tokensN_eq : ∀ (f p : Nat) (l : List Int), l.length < f → tokensN f p l = tokensL p l
  | 0, p, l, h => absurd h (Nat.not_lt_zero _)
  | f + 1, p, l, h => by
    rw [tokensN]
    split
    · rename_i hd; rw [tokensL_done hd]
    · rename_i hd
      have hd' : doneL (l.drop (runL blankB l)) = false := by simpa using hd
      split
      · rename_i e he; rw [tokensL_error hd' he]
      · rename_i t n he
        have h1 : (l.drop (runL blankB l)).length ≠ 0 := fun e => hd (by unfold doneL; rw [e]; rfl)
        have hn := oneL_le h1 he
        rw [tokensL_ok hd' he, tokensN_eq f _ _ (by rw [List.length_drop]; rw [List.length_drop] at h1 hn; omega)]

def begunL : List Int := [108, 100, 114, 32, 120, 48, 44, 32, 91, 120, 49, 44, 32, 35, 48, 120, 49, 48, 93, 33]
def begunT : List Tok := [⟨1, ⟨#[108, 100, 114]⟩, 0, 0⟩, ⟨1, ⟨#[120, 48]⟩, 0, 4⟩, ⟨4, ⟨#[44]⟩, 0, 6⟩, ⟨4, ⟨#[91]⟩, 0, 8⟩, ⟨1, ⟨#[120, 49]⟩, 0, 9⟩, ⟨4, ⟨#[44]⟩, 0, 11⟩, ⟨4, ⟨#[35]⟩, 0, 13⟩, ⟨2, emp, 16, 14⟩, ⟨4, ⟨#[93]⟩, 0, 18⟩, ⟨4, ⟨#[33]⟩, 0, 19⟩]
theorem begun_tokens : tokensN 21 0 begunL = (begunT, 20, 0) := by decide +kernel
theorem begun_lines : linesF (toBytes ⟨#[108, 100, 114, 32, 120, 48, 44, 32, 91, 120, 49, 44, 32, 35, 48, 120, 49, 48, 93, 33]⟩) = (begunT, 20, 0) := by
  have e : toBytes ⟨#[108, 100, 114, 32, 120, 48, 44, 32, 91, 120, 49, 44, 32, 35, 48, 120, 49, 48, 93, 33]⟩ = begunL := rfl
  rw [e]
  unfold linesF
  rw [if_neg (by decide), ← tokensN_eq 21 0 begunL (by decide), begun_tokens]

theorem begun_sw : SW Tryd.prog ⟨none, 0⟩ Tryd.f12.ntmps (Tryd.f12.body.getD .skip) ⟨0, [], []⟩ (outQ Tryd.prog Tryd.f12.results.toList (.ret (bv true))) := by
  refine aRun_sound (ctx := [⟨_, lexS⟩]) 4000 ?_
  rw [Tryd.ntmps12, Tryd.results12]
  simp only [Tryd.f12, Option.getD_some, zipT]
  simp only [aMake, aRun_range, declOf, veil, List.map_nil, roundQ_panic, afterQ_panic, Nat.le_refl, Int.le_refl, take_map1, take_map2, List.take_length, List.length_map, retQ, retD, Int.cast_ofNat_Int, aRun_nil, aRun_b, aRun_o0, aRun_o1, aRun_o2, aRun_skip, aRun_label, aRun_ret, aRun_seq, aRun_block, aRun_cond, aRun_region, aRun_exit, aRun_loop, aRun_draw, afterQ_normal, afterQ_exit, afterQ_ret, aEx_some, aEx_none, aCont_some, aCont_none, aBr_true, aBr_false, aBr_dec, aBr_not, aBr_beq, aBr_bne, aGd_yes, aGd_skip, aGd_tf, aGd_ft, aGd_dec_t, aGd_beq, aGd_bne, aGd_not, popTo, aDr_nil, aDr_one, aDr_yes, aDr_no, aDk_some, eOk, befOf, bindsE, Region.binds, bit, Hp, Nat.reduceOr, Nat.reducePow, Nat.reduceDiv, Nat.reduceMod, Nat.reduceBEq, Int.reduceBEq, Int.reduceBNe, Int.reduceEq, Int.reduceLT, Int.reduceLE, Int.reduceToNat, List.getD_cons_zero, List.getD_cons_succ, List.getD_nil, List.mem_cons, List.mem_singleton, List.not_mem_nil, roundQ_normal, roundQ_exit, roundQ_ret, aOp, evT, tget, putT, dstOk, gAt, setG, hget, aBin, aUn, aConv, aConvS, aLoad, aStore, aNew, aField, aIndexAt, fitsAt, aIndex, bnd, aAppend, aLen, aFld, aMin, flatOf, flatLs, cellsOf, LV.one, Value.oneCell', fillL, splice, chunks, repL, aBuild, aBuildSlice, crun, List.getElem?_cons_zero, List.getElem?_cons_succ, List.map_cons, List.map_nil, Option.map_some, Option.map_none, List.toList_toArray, List.size_toArray, Int.toNat_natCast, Option.isSome_some, List.getElem?_map, reduceIte, reduceCtorEq, Nat.reduceEqDiff, Nat.reduceAdd, Nat.reduceLT, Nat.reduceLeDiff, Nat.reduceMul, Nat.reduceSub, decide_true, decide_false, true_and, and_true, forall_const, not_true_eq_false, not_false_eq_true, Bool.not_true, Bool.not_false, List.cons_append, List.nil_append, List.append_nil, forall_eq, eq_self, beq_iff_eq, decide_eq_true_eq, decide_eq_false_iff_not, beq_eq_false_iff_ne, ne_eq, bne_iff_ne, List.take_succ_cons, List.take_zero, List.drop_succ_cons, List.drop_zero, List.length_cons, List.length_nil, List.set_cons_zero, List.set_cons_succ, Option.some.injEq, true_or, or_true, false_or, or_false, implies_true, Bool.false_eq_true, Bool.true_eq_false, false_implies, and_self, Bool.and_true, Bool.true_and, Bool.and_self, Nat.zero_add, Nat.add_zero, aSlice, aPanQ_none, aPanQ_some, aPan, cpan, calleeOf, aNil, aNilOp, caught, oneOf, D.one, LV.toD0, toDs0, srcOf, ofD, ofDs, outQ_normal, outQ_ret, outQ_panic, outR_normal, outR_ret, outR_panic, endQ_normal, endQ_ret, endQ_panic, rvOf, rvsOf, toSs, aRet, zipT, zipH, zipO, runP, panP, hides, mapT, AV.toD, SV.toD, LV.toD, mapT_ofDs, rows_ofDs, toD_ofD, toDs0_ofDs, args0, args1, args2, args3, args4, tInt, tBool, tStr, tFn, tD, tSl, tAgg, rInt, rStr, decAllD_map, decAllD, AV.plain, SV.plain, LV.plain, List.all_cons, List.all_nil, runR, panR, renH, gOf, AV.ren, SV.ren, LV.ren_v, LV.ren_d, LV.ren_sl, LV.ren_p, LV.ren_any, Blk.ren, rows_ren, ofDs_ren, ofD_ren, List.append_assoc, Int.natCast_nonneg, ge_iff_le, gt_iff_lt, List.getD_eq_getElem?_getD, Option.getD_some, PO.ret.injEq, exists_eq_left, exists_eq_left', exists_and_left, exists_const, kt_1, sz_1, row_1, sz_2, row_2, zero_2, by_2, str_2, kind_2, cc_2, kt_2, sz_3, row_3, zero_3, by_3, str_3, kind_3, cc_3, kt_3, sz_4, row_4, zero_4, by_4, str_4, cc_4, kt_4, sz_5, row_5, zero_5, by_5, str_5, kind_5, cc_5, kt_5, sz_7, row_7, zero_7, by_7, str_7, cc_7, kt_7, pl_7, off_7_0, fld_7_0, off_7_1, fld_7_1, off_7_2, fld_7_2, off_7_3, fld_7_3, sz_9, row_9, zero_9, by_9, str_9, bs_9, cc_9, kt_9, sz_12, row_12, zero_12, by_12, str_12, kind_12, cc_12, kt_12, sz_13, row_13, zero_13, by_13, str_13, cc_13, kt_13, pl_13, off_13_0, fld_13_0, off_13_1, fld_13_1, sz_15, row_15, zero_15, by_15, str_15, cc_15, und_15, kt_15, sz_16, row_16, zero_16, by_16, str_16, cc_16, und_16, kt_16, sz_17, row_17, zero_17, by_17, str_17, cc_17, und_17, kt_17, sz_18, row_18, zero_18, by_18, str_18, cc_18, kt_18, pl_18, off_18_0, fld_18_0, sz_20, row_20, zero_20, by_20, str_20, cc_20, kt_20, sz_21, row_21, zero_21, by_21, str_21, kind_21, cc_21, kt_21, sz_22, row_22, zero_22, by_22, el_22, str_22, bs_22, cc_22, und_22, kt_22, sz_23, row_23, zero_23, by_23, el_23, str_23, bs_23, cc_23, und_23, kt_23, sz_24, row_24, zero_24, by_24, str_24, kind_24, cc_24, kt_24, kt_26, sz_26, row_26, kt_27, sz_27, row_27, sz_28, row_28, zero_28, by_28, str_28, kind_28, cc_28, kt_28, sz_29, row_29, zero_29, by_29, str_29, cc_29, kt_29, pl_29, off_29_0, fld_29_0, off_29_1, fld_29_1, off_29_2, fld_29_2, off_29_3, fld_29_3, sz_30, row_30, zero_30, by_30, str_30, cc_30, kt_30, pl_30, off_30_0, fld_30_0, off_30_1, fld_30_1, off_30_2, fld_30_2, off_30_3, fld_30_3, kt_31, sz_31, row_31, kt_32, sz_32, row_32, kt_33, sz_33, row_33, kt_34, sz_34, row_34, kt_35, sz_35, row_35, sz_36, row_36, zero_36, by_36, str_36, cc_36, kt_36, kt_37, sz_37, row_37, kt_38, sz_38, row_38, kt_39, sz_39, row_39, kt_40, sz_40, row_40, kt_42, sz_42, row_42, kt_43, sz_43, row_43, kt_44, sz_44, row_44, kt_45, sz_45, row_45, kt_46, sz_46, row_46, kt_47, sz_47, row_47, kt_48, sz_48, row_48, kt_49, sz_49, row_49, sz_50, row_50, zero_50, by_50, str_50, cc_50, kt_50, pl_50, off_50_0, fld_50_0, off_50_1, fld_50_1, off_50_2, fld_50_2, sz_51, row_51, zero_51, by_51, str_51, cc_51, kt_51, pl_51, off_51_0, fld_51_0, off_51_1, fld_51_1, off_51_2, fld_51_2, kt_52, sz_52, row_52, sz_53, row_53, zero_53, by_53, el_53, str_53, bs_53, cc_53, und_53, kt_53, kt_55, sz_55, row_55, kt_57, sz_57, row_57, kt_58, sz_58, row_58, kt_59, sz_59, row_59, kt_60, sz_60, row_60, kt_61, sz_61, row_61, kt_62, sz_62, row_62, kt_64, sz_64, row_64, kt_65, sz_65, row_65, kt_66, sz_66, row_66, kt_67, sz_67, row_67, kt_68, sz_68, row_68, kt_70, sz_70, row_70, kt_71, sz_71, row_71, kt_72, sz_72, row_72, kt_73, sz_73, row_73, sz_74, row_74, zero_74, by_74, str_74, kind_74, cc_74, kt_74, sz_75, row_75, zero_75, by_75, str_75, kind_75, cc_75, kt_75, kt_76, sz_76, row_76, kt_77, sz_77, row_77, kt_78, sz_78, row_78, sz_79, row_79, zero_79, by_79, str_79, cc_79, und_79, kt_79, sz_80, row_80, zero_80, by_80, str_80, cc_80, kt_80, pl_80, off_80_0, fld_80_0, off_80_1, fld_80_1, sz_81, row_81, zero_81, by_81, str_81, cc_81, kt_81, pl_81, off_81_0, fld_81_0, off_81_1, fld_81_1, kt_82, sz_82, row_82, sz_83, row_83, zero_83, by_83, str_83, cc_83, kt_83, sz_84, row_84, zero_84, by_84, str_84, cc_84, kt_84, kt_85, sz_85, row_85, kt_87, sz_87, row_87, kt_88, sz_88, row_88, kt_89, sz_89, row_89, sz_90, row_90, zero_90, by_90, str_90, cc_90, kt_90, pl_90, off_90_0, fld_90_0, off_90_1, fld_90_1, off_90_2, fld_90_2, sz_91, row_91, zero_91, by_91, str_91, cc_91, kt_91, pl_91, off_91_0, fld_91_0, off_91_1, fld_91_1, off_91_2, fld_91_2, sz_92, row_92, zero_92, by_92, str_92, cc_92, und_92, kt_92, asz_92, pl_92, arr_92, kt_93, sz_93, row_93, sz_94, row_94, zero_94, by_94, str_94, cc_94, kt_94, pl_94, off_94_0, fld_94_0, sz_95, row_95, zero_95, by_95, str_95, cc_95, kt_95, pl_95, off_95_0, fld_95_0, sz_96, row_96, zero_96, by_96, str_96, cc_96, und_96, kt_96, sz_97, row_97, zero_97, by_97, str_97, cc_97, kt_97, pl_97, off_97_0, fld_97_0, off_97_1, fld_97_1, off_97_2, fld_97_2, off_97_3, fld_97_3, sz_98, row_98, zero_98, by_98, str_98, cc_98, kt_98, pl_98, off_98_0, fld_98_0, off_98_1, fld_98_1, off_98_2, fld_98_2, off_98_3, fld_98_3, kt_99, sz_99, row_99, sz_100, row_100, zero_100, by_100, el_100, str_100, bs_100, cc_100, und_100, kt_100, kt_101, sz_101, row_101, kt_102, sz_102, row_102, sz_103, row_103, zero_103, by_103, el_103, str_103, bs_103, cc_103, und_103, kt_103, sz_104, row_104, zero_104, by_104, str_104, cc_104, kt_104, pl_104, off_104_0, fld_104_0, off_104_1, fld_104_1, sz_105, row_105, zero_105, by_105, str_105, cc_105, kt_105, pl_105, off_105_0, fld_105_0, off_105_1, fld_105_1, kt_106, sz_106, row_106, sz_107, row_107, zero_107, by_107, el_107, str_107, bs_107, cc_107, und_107, kt_107, sz_108, row_108, zero_108, by_108, str_108, bs_108, cc_108, kt_108, kt_109, sz_109, row_109, kt_111, sz_111, row_111, kt_112, sz_112, row_112, kt_114, sz_114, row_114, kt_115, sz_115, row_115, sz_116, row_116, zero_116, by_116, str_116, cc_116, und_116, kt_116, sz_117, row_117, zero_117, by_117, str_117, cc_117, und_117, kt_117, asz_117, pl_117, arr_117, kt_118, sz_118, row_118, kt_119, sz_119, row_119, kt_120, sz_120, row_120, kt_121, sz_121, row_121, kt_122, sz_122, row_122, kt_124, sz_124, row_124, sz_125, row_125, zero_125, by_125, str_125, cc_125, und_125, kt_125, asz_125, pl_125, arr_125, kt_126, sz_126, row_126, sz_127, row_127, zero_127, by_127, str_127, cc_127, kt_127, pl_127, off_127_0, fld_127_0, off_127_1, fld_127_1, sz_128, row_128, zero_128, by_128, str_128, cc_128, kt_128, pl_128, off_128_0, fld_128_0, off_128_1, fld_128_1, kt_130, sz_130, row_130, sz_131, row_131, zero_131, by_131, str_131, cc_131, und_131, kt_131, asz_131, pl_131, arr_131, kt_132, sz_132, row_132, kt_133, sz_133, row_133, kt_135, sz_135, row_135, sz_136, row_136, zero_136, by_136, str_136, cc_136, kt_136, kt_137, sz_137, row_137, kt_138, sz_138, row_138, kt_139, sz_139, row_139, kt_140, sz_140, row_140, sz_141, row_141, zero_141, by_141, str_141, cc_141, und_141, kt_141, kt_142, sz_142, row_142, sz_143, row_143, zero_143, by_143, str_143, cc_143, und_143, kt_143, asz_143, pl_143, arr_143, sz_144, row_144, zero_144, by_144, str_144, kind_144, cc_144, kt_144, sz_145, row_145, by_145, str_145, cc_145, und_145, kt_145, asz_145, pl_145, arr_145, kt_146, sz_146, row_146, kt_147, sz_147, row_147, kt_148, sz_148, row_148, kt_150, sz_150, row_150, kt_151, sz_151, row_151, kt_152, sz_152, row_152, sz_153, row_153, zero_153, by_153, str_153, cc_153, und_153, kt_153, asz_153, pl_153, arr_153, sz_154, row_154, by_154, str_154, cc_154, und_154, kt_154, asz_154, pl_154, arr_154, sz_156, row_156, zero_156, by_156, str_156, cc_156, und_156, kt_156, kt_157, sz_157, row_157, kt_158, sz_158, row_158, sz_159, row_159, zero_159, by_159, str_159, cc_159, kt_159, pl_159, off_159_0, fld_159_0, off_159_1, fld_159_1, off_159_2, fld_159_2, kt_161, sz_161, row_161, kt_162, sz_162, row_162, sz_163, row_163, zero_163, by_163, str_163, cc_163, und_163, kt_163, sz_164, row_164, zero_164, by_164, str_164, cc_164, kt_164, pl_164, off_164_0, fld_164_0, kt_166, sz_166, row_166, sz_167, row_167, zero_167, by_167, str_167, cc_167, kt_167, pl_167, off_167_0, fld_167_0, off_167_1, fld_167_1, off_167_2, fld_167_2, off_167_3, fld_167_3, sz_169, row_169, by_169, str_169, cc_169, und_169, kt_169, asz_169, pl_169, sz_170, row_170, by_170, str_170, cc_170, kt_170, pl_170, kt_174, sz_174, row_174, sz_177, row_177, zero_177, by_177, str_177, cc_177, kt_177, pl_177, off_177_0, fld_177_0, off_177_1, fld_177_1, off_177_2, fld_177_2, off_177_3, fld_177_3, off_177_4, fld_177_4, off_177_5, fld_177_5, off_177_6, fld_177_6, off_177_7, fld_177_7, off_177_8, fld_177_8, off_177_9, fld_177_9, off_177_10, fld_177_10, lex_run, lex_pan, begun_lines, lexO, toksV, begunT, tokR, pure_flat_eql, orPure_eq, flatEq, flat_tok, eqKs, lit_emp]
theorem en_begun (args : Array Value) (w : World) : (callFunc 12 args).run Tryd.prog w = .ok (.enter 12 args) w := by go_simp
def begunS : Spec Tryd.prog 12 :=
  mk0 _ _ _ Tryd.func12 rfl en_begun  (True) ((.ret (bv true))) (fun _ => begun_sw)
theorem begun_run {id : Nat} {h : Heap} {args : List AV} : (begunS).run id h args = runP (args0  (True)) (fun _ => (.ret (bv true))) h args := rfl
theorem begun_pan {id : Nat} {h : Heap} {args : List AV} : (begunS).pan id h args = panP (args0  (True)) (fun _ => (.ret (bv true))) h args := rfl

/-! ### Functions that hand back a new slice of their own -/
def Blk.flatB (k : Blk) : Bool := k.els.all fun e => e.all (·.flat)
theorem BRep.flat {ρ ρ' : Nat → Loc} {al al' : Al} {w : World} {b b' : Nat} {k : Blk} (hM : al.M.le al'.M) (hl : ρ' b' = ρ b) (ha : al' b') (hf : k.flatB = true) (H : BRep ρ al w b k) : BRep ρ' al' w b' k := by
  obtain ⟨a1, a2, a3, a4, a5, a6, a7⟩ := H
  refine ⟨ha, by rw [hl]; exact a2, by rw [hl]; exact a3, a4, by rw [hl]; exact a5, ?_, by rw [hl]; exact a7⟩
  intro i j x hx
  obtain ⟨y, h1, h2, h3⟩ := a6 i j x hx
  refine ⟨y, by rw [hl]; exact h1, h2, h3.flat hM ?_⟩
  obtain ⟨e, g1, g2⟩ := cellAt_some.1 hx
  unfold Blk.flatB at hf
  rw [List.all_eq_true] at hf
  have := hf e (List.mem_of_getElem? g1)
  rw [List.all_eq_true] at this
  exact this x (List.mem_of_getElem? g2)
def decO {α : Type} (T : Ty α) (q : α → Prop) : List AV → Option (Prop × α)
  | [A] => match T.dec A with | some x => some (q x, x) | none => none
  | _ => none
def runN {α : Type} (dec : List AV → Option (Prop × α)) (n : α → Nat) (k : α → Blk) (id : Nat) (zs : List AV) : Option Res := match dec zs with
  | some (q, x) => some ⟨q, .s (.l (.sl id 0 (n x))), [(id, some (k x))]⟩
  | none => none
def mkO {P : Program} {α : Type} (f : FuncId) (fn : Func) (c : Code) (hf : P.funcs[f]? = some fn) (hb : fn.body = some c)
    (hen : ∀ (args : Array Value) (w : World), (callFunc f args).run P w = .ok (.enter f args) w) (T : Ty α) (hT : ∀ x, (T.enc x).flat = true) (q : α → Prop) (n : α → Nat) (k : α → Blk) (hk : ∀ x, (k x).own = true ∧ (k x).flatB = true) (hn : 1 ≤ fn.ntmps)
    (body : ∀ x, q x → SW P ⟨none, 0⟩ fn.ntmps c ⟨0, zipT 0 [T.enc x], []⟩ (endQ (fun s => ∃ b, aRet P fn.results.toList s = some (.s (.l (.sl b 0 (n x)))) ∧ hget s.h b = some (k x)) (fun _ _ => False))) : Spec P f where
  enter := hen
  run := fun id _ zs => runN (decO T q) n k id zs
  mono := by
    intro id h h' args R hs hr
    exact hr
  sound := by
    intro id h args R hr hob B w0 ρ al w vals H hid hA
    unfold runN at hr
    split at hr
    case h_2 => cases hr
    rename_i q' x hd
    injection hr with hr
    subst hr
    unfold decO at hd
    split at hd
    case h_2 => cases hd
    rename_i A
    split at hd
    case h_2 => cases hd
    rename_i x' hx
    injection hd with hd
    injection hd with e1 e2
    subst e1
    subst e2
    match vals, hA with
    | [v], ⟨a, _⟩ =>
      have hA1 : AsRep (fun _ => ⟨0, 0, 0, 0, false⟩) ⟨fun _ => False, frzM al.M ρ h [] w⟩ [T.enc x'] [v] := ⟨(T.ok hx a).flat (frzM_le) (hT x'), trivial⟩
      refine calls_of_sw (B := ⟨fun k => k < w.heap.size, frzM al.M ρ h [] w, [], [], gokP H []⟩) (ρ := fun _ => ⟨0, 0, 0, 0, false⟩) (al := ⟨fun _ => False, frzM al.M ρ h [] w⟩) (s0 := ⟨0, zipT 0 [T.enc x'], []⟩) hf hb rfl rfl ⟨by simp; omega, Marks.nil _ _ _, enter_t hA1 _, enterP H [], fun b hb => hb.elim⟩ (body x' hob) ?_ ?_
      · intro s ρ1 al1s a w1 hq1 H1
        obtain ⟨b, h1, h2⟩ := hq1
        obtain ⟨v', g1, g2⟩ := aRet_sound (fn := fn) H1 h1
        refine ⟨v', g1, ?_⟩
        obtain ⟨g4, g5⟩ := leaveD (U := []) (U1 := []) H H1.w
        obtain ⟨M2, hM2⟩ : ∃ M2, frzM al1s.M ρ1 s.h [] w1 = M2 := ⟨_, rfl⟩
        rw [hM2] at g4 g5
        have hMle : al1s.M.le M2 := by rw [← hM2]; exact frzM_le
        have hid0 : ¬ (⟨al.p, M2⟩ : Al) id := hid id (Nat.le_refl _) (by omega)
        have E2 : Ext ρ (Go.Proofs.YtcdbldakjepjiaaDoor.ρ1 ρ id (ρ1 b)) ⟨al.p, M2⟩ (al1 ⟨al.p, M2⟩ id) := Ext.new hid0 _
        have e := ρ1_id ρ id (ρ1 b)
        obtain ⟨ho, hfl⟩ := hk x'
        have hB1 := H1.w.blk b _ h2
        have hown := H1.w.own b _ h2 ho
        have hsz : w.heap.size ≤ w1.heap.size := H1.w.below.size
        refine ⟨v', Go.Proofs.YtcdbldakjepjiaaDoor.ρ1 ρ id (ρ1 b), al1 ⟨al.p, M2⟩ id, rfl, g4.trans E2, ?_, ?_, ?_⟩
        · rintro c (hc | rfl)
          · exact .inl hc
          · exact .inr ⟨Nat.le_refl _, by omega⟩
        · obtain ⟨_, A', e1, e2, e3⟩ := g2
          refine ⟨.inr rfl, A', ?_, ?_, ?_⟩
          · rw [e]; exact e1
          · rw [e]; exact e2
          · rw [e]; exact e3
        · have g6 : WRep B w0 ρ ⟨al.p, M2⟩ h w1 := by simpa using g5
          refine (g6.step E2 g6.below (fun _ _ _ _ => rfl) (fun _ _ => rfl)).more (BRep.flat (al := al1s) hMle e (.inr rfl) hfl hB1) ho ?_ ?_ ?_
          · rw [e]
            exact fun hc hS => hown hc (H.size _ hS)
          · rw [e]
            intro hc o
            show M2 _ o = none
            cases hy : M2 (ρ1 b).blk o with
            | none => rfl
            | some y =>
              rw [← hM2] at hy
              rcases frzM_some hy with hy | ⟨⟨c, _, hc, _⟩, _⟩
              · rw [H1.w.memOwn b _ h2 ho hc o] at hy; cases hy
              · cases hc
          · rw [e]
            intro c l hcl hol hcap hne hc2 heq
            have hcne : Go.Proofs.YtcdbldakjepjiaaDoor.ρ1 ρ id (ρ1 b) c = ρ c := by unfold Go.Proofs.YtcdbldakjepjiaaDoor.ρ1; rw [if_neg hne]
            rw [hcne] at hcap heq
            have := (H.blk c l hcl).lt hol hcap
            exact hown hc2 (show (ρ1 b).blk < w.heap.size by rw [← heq]; exact this)
      · intro y s ρ1 al1 a w1 h1 H1
        exact h1.elim
  psound := by
    intro id h args ob y E hr
    cases hr

end Go.Proofs.YtcdbldakjepjiaaDoor
