/- The value logic's rules as one set. -/
import Derived.Test.YtpjlafmhoifkmaaGreatTyU
import Derived.Test.YtpjlafmhoifkmaaGreatBb
set_option linter.unusedVariables false
set_option linter.unusedSimpArgs false
namespace Go.Proofs.YtpjlafmhoifkmaaGreat
open Go.RowKit
attribute [go_sem] aMake aRun_range declOf veil List.map_nil roundQ_panic afterQ_panic Nat.le_refl Int.le_refl take_map1 take_map2 List.take_length List.length_map retQ retD Int.cast_ofNat_Int aRun_nil aRun_b aRun_o0 aRun_o1 aRun_o2 aRun_skip aRun_label aRun_ret aRun_seq aRun_block aRun_cond
attribute [go_sem] aRun_region aRun_exit aRun_loop aRun_draw afterQ_normal afterQ_exit afterQ_ret aEx_some aEx_none aCont_some aCont_none aBr_true aBr_false aBr_dec aBr_not aBr_beq aBr_bne aGd_yes aGd_skip aGd_tf aGd_ft aGd_dec_t aGd_beq aGd_bne aGd_not popTo aDr_nil aDr_one aDr_yes aDr_no aDk_some
attribute [go_sem] eOk befOf bindsE Region.binds bit Hp List.getD_cons_zero List.getD_cons_succ List.getD_nil List.mem_cons List.mem_singleton List.not_mem_nil roundQ_normal roundQ_exit roundQ_ret aOp evT tget putT dstOk gAt setG hget aBin aUn aConv aConvS aLoad aStore aNew aField aIndexAt fitsAt
attribute [go_sem] aIndex bnd aAppend aLen aFld aMin flatOf flatLs cellsOf LV.one Value.oneCell' fillL splice chunks repL aBuild aBuildSlice crun List.getElem?_cons_zero List.getElem?_cons_succ List.map_cons Option.map_some Option.map_none List.toList_toArray List.size_toArray Int.toNat_natCast
attribute [go_sem] Option.isSome_some List.getElem?_map decide_true decide_false true_and and_true forall_const not_true_eq_false not_false_eq_true Bool.not_true Bool.not_false List.cons_append List.nil_append List.append_nil forall_eq eq_self beq_iff_eq decide_eq_true_eq decide_eq_false_iff_not
attribute [go_sem] beq_eq_false_iff_ne ne_eq bne_iff_ne List.take_succ_cons List.take_zero List.drop_succ_cons List.drop_zero List.length_cons List.length_nil List.set_cons_zero List.set_cons_succ Option.some.injEq true_or or_true false_or or_false implies_true Bool.false_eq_true Bool.true_eq_false
attribute [go_sem] false_implies and_self Bool.and_true Bool.true_and Bool.and_self Nat.zero_add Nat.add_zero aSlice aPanQ_none aPanQ_some aPan cpan calleeOf aNil aNilOp caught oneOf D.one LV.toD0 toDs0 srcOf ofD ofDs outQ_normal outQ_ret outQ_panic outR_normal outR_ret outR_panic endQ_normal
attribute [go_sem] endQ_ret endQ_panic rvOf rvsOf toSs aRet zipT zipH zipO runP panP hides mapT AV.toD SV.toD LV.toD mapT_ofDs rows_ofDs toD_ofD toDs0_ofDs args0 args1 args2 args3 args4 tInt tBool tStr tFn tD tSl tAgg rInt rStr decAllD_map decAllD AV.plain SV.plain LV.plain List.all_cons List.all_nil
attribute [go_sem] runR panR renH gOf AV.ren SV.ren LV.ren_v LV.ren_d LV.ren_sl LV.ren_p LV.ren_bf psOf LV.ren_any Blk.ren rows_ren ofDs_ren ofD_ren List.append_assoc Int.natCast_nonneg ge_iff_le gt_iff_lt List.getD_eq_getElem?_getD Option.getD_some PO.ret.injEq exists_eq_left exists_eq_left'
attribute [go_sem] exists_and_left exists_const sz_1 row_1 sz_2 row_2 zero_2 sz_3 row_3 zero_3 by_3 kind_3 kt_3 sz_4 row_4
attribute [go_sem] sz_9 row_9 zero_9 str_9
attribute [go_sem] sz_23 zero_23 pl_23 sz_24 row_24 kind_24
attribute [go_sem] sz_27 row_27 zero_27
attribute [go_sem] pl_27 off_27_0 off_27_1 off_27_2 off_27_3 off_27_4 off_27_5 off_27_6 off_27_7 off_27_8 off_27_9 sz_28 row_28 zero_28 sz_31 row_31
attribute [go_sem] el_31 sz_33 row_33 zero_33 pl_33 off_33_0 off_33_1
attribute [go_sem] zero_38 pl_38 off_38_0
attribute [go_sem] sz_40 row_40 zero_40 by_40 pl_40 off_40_2 off_40_3 off_40_4
attribute [go_sem] off_40_6 off_40_8
attribute [go_sem] kind_65 sz_66 row_66 zero_66
attribute [go_sem] zero_68 pl_68 off_68_0 off_68_1 sz_70 row_70 el_70 str_70 kt_70
attribute [go_sem] sz_75 row_75 zero_75 by_75 pl_75 off_75_0 off_75_1 off_75_2 el_77
attribute [go_sem] sz_91 row_91 zero_91 pl_91 off_91_0 off_91_1 off_91_2
attribute [go_sem] el_98
attribute [go_sem] el_108 sz_111
attribute [go_sem] zero_111 pl_111 off_111_0 off_111_1
attribute [go_sem] el_118 el_123
attribute [go_sem] sz_126 row_126 zero_126 pl_126 off_126_0 off_126_1 sz_128 row_128 zero_128 asz_128 pl_128
attribute [go_sem] arr_128 zero_129 und_129 asz_129 pl_129 el_131
attribute [go_sem] yStep_eq yP_none yP_some yO_none yO_some yY_some yRun_nil yRun_b yRun_o0 yRun_o1 yRun_o2 yRun_skip yRun_label yRun_ret yRun_seq yRun_block yRun_cond yRun_region yRun_exit yRun_loop yRun_draw yRun_range afterY_normal afterY_exit afterY_ret yEx_some
attribute [go_sem] yEx_none yBr_true yBr_false yBr_dec yBr_not yBr_beq yBr_bne yGd_yes yGd_skip yGd_tf yGd_ft yGd_dec_t yGd_beq yGd_bne yGd_not yOp ownL AV.pin SV.pin LV.pin itQ_normal itQ_ret roundY_normal roundY_exit roundY_ret
attribute [go_sem_proc] Nat.reduceOr Nat.reducePow Nat.reduceDiv Nat.reduceMod Nat.reduceBEq Int.reduceBEq Int.reduceBNe Int.reduceEq Int.reduceLT Int.reduceLE Int.reduceToNat reduceIte reduceCtorEq Nat.reduceEqDiff Nat.reduceAdd Nat.reduceLT Nat.reduceLeDiff Nat.reduceMul Nat.reduceSub
end Go.Proofs.YtpjlafmhoifkmaaGreat
