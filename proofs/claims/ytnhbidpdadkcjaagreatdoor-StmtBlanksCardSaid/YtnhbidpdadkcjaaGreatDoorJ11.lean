import Derived.Test.YtnhbidpdadkcjaaGreatDoorJ04
import Derived.Test.YtnhbidpdadkcjaaGreatDoorJ10
set_option linter.unusedVariables false
set_option linter.unusedSimpArgs false
set_option maxRecDepth 100000
set_option maxHeartbeats 8000000
namespace Go.Proofs.YtnhbidpdadkcjaaGreatDoor
open Go.RowKit
attribute [go_sem] F0 DP gc y4 List.map_nil pQ pj Nat.le_refl Int.le_refl Jv Jw List.take_length List.length_map yW R1 Int.cast_ofNat_Int J2 QR N1 N7 N8 G0 J3 J4 DO GW
attribute [go_sem] BF GY GZ GX yI BI DQ JY JX DH DG JV GT NN NO NL NM NW JZ QP QO GU NT NU NV ij NP NQ NR QN
attribute [go_sem] JW eOk kc pm Region.binds bit Hp List.getD_cons_zero List.getD_cons_succ List.getD_nil List.mem_cons List.mem_singleton List.not_mem_nil yX C4 Fl aOp evT dk putT cO gAt ka hget NK aUn FZ pi sR rU QQ ud sQ
attribute [go_sem] si Am bnd ph NX NS J0 lV kQ cellsOf LV.one Value.oneCell' vo nq jP MH wu nD Kl List.getElem?_cons_zero List.getElem?_cons_succ List.map_cons Option.map_some Option.map_none List.toList_toArray List.size_toArray
attribute [go_sem] Int.toNat_natCast Option.isSome_some List.getElem?_map decide_true decide_false true_and and_true forall_const not_true_eq_false not_false_eq_true Bool.not_true Bool.not_false List.cons_append List.nil_append List.append_nil forall_eq eq_self beq_iff_eq decide_eq_true_eq
attribute [go_sem] decide_eq_false_iff_not beq_eq_false_iff_ne ne_eq bne_iff_ne List.take_succ_cons List.take_zero List.drop_succ_cons List.drop_zero List.length_cons List.length_nil List.set_cons_zero List.set_cons_succ Option.some.injEq true_or or_true false_or or_false implies_true
attribute [go_sem] Bool.false_eq_true Bool.true_eq_false false_implies and_self Bool.and_true Bool.true_and Bool.and_self Nat.zero_add Nat.add_zero rT DM DN sS Kk qh NY Ao ug CR D.one LV.toD0 nQ yn ofD cG CU Mn ET CV
attribute [go_sem] Mo EU Cb KQ po PN De FP nT aC bB gm bT bU xn ez AV.toD SV.toD LV.toD uy im GN jl ba cg rD y8 bq GL bx tFn tSl jr gj dQ ac dT AV.plain SV.plain
attribute [go_sem] LV.plain List.all_cons List.all_nil gu fX yV gOf AV.ren SV.ren LV.ren_v LV.ren_d LV.ren_sl LV.ren_p LV.ren_bf E9 LV.ren_any Blk.ren jF CQ Gw List.append_assoc Int.natCast_nonneg ge_iff_le gt_iff_lt List.getD_eq_getElem?_getD Option.getD_some PO.ret.injEq
attribute [go_sem] exists_eq_left exists_eq_left' exists_and_left exists_const sz_2 TR SZ Rl sz_3 TS S0 Rm sz_4 TT sz_5 TU S1 by_5 Rn
attribute [go_sem] sz_9 TV S2 by_9 T5
attribute [go_sem] xw
attribute [go_sem] T7 R7 Qk
attribute [go_sem] T8 R8 Tp
attribute [go_sem] T9 R9 Ql Tq Ua Qm TE LF LG Ub
attribute [go_sem] Sa Tr Uc Sb Ts So Tj
attribute [go_sem] Ud Sc Qn TF LH LI LJ LK LL LM LN
attribute [go_sem] Ue Sd Qo
attribute [go_sem] Tk TG LO LP LQ Uf Se Qp TH LR LS
attribute [go_sem] LT Ug Sf Qq Tl
attribute [go_sem] TI LU LW LX LY LZ L0 Ma Mb Mc Qr SQ QX TJ
attribute [go_sem] Uh Qt Tn TK Md Ui Sg Tt Uj Sh
attribute [go_sem] Qu TL Me Mf
attribute [go_sem] Rp
attribute [go_sem] Ss Nw Oi RJ Oe Su PA Lb
attribute [go_sem] Sv PB Nx QZ RK IA IB IC
attribute [go_sem] ID
attribute [go_sem] Ny RM IE PC
attribute [go_sem] Q7
attribute [go_sem] Lc PV
attribute [go_sem] Sw Nz Q2 RN IF
attribute [go_sem] Q8 PW
attribute [go_sem] Sx PD NA RP IG IH Sy PE
attribute [go_sem] Sz NB RQ II IJ SA PF NC Q9
attribute [go_sem] SB
attribute [go_sem] ND Oj RR Of SC NE P4 Ok RS Og
attribute [go_sem] SD NF Q3 RT IK
attribute [go_sem] NG RU IL IM IN zQ0
attribute [go_sem] SE PG NH Q0 RV
attribute [go_sem] SF NI Ol RW Oh
attribute [go_sem] Nu Qe Qf Qb Qc Qj Ns SY
attribute [go_sem] Qg Qh Qi JM DA Nt FT JJ Dz JK JL yJ BJ DR Nr Nq Np JI P8 Qa SX
attribute [go_sem] P9 yOp qA AV.pin SV.pin LV.pin Et OW yZ C5 Fm
attribute [go_sem_proc] Nat.reduceOr Nat.reducePow Nat.reduceDiv Nat.reduceMod Nat.reduceBEq Int.reduceBEq Int.reduceBNe Int.reduceEq Int.reduceLT Int.reduceLE Int.reduceToNat reduceIte reduceCtorEq Nat.reduceEqDiff Nat.reduceAdd Nat.reduceLT Nat.reduceLeDiff Nat.reduceMul Nat.reduceSub
end Go.Proofs.YtnhbidpdadkcjaaGreatDoor
