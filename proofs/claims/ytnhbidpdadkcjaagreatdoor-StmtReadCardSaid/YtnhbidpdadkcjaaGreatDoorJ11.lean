import Derived.Test.YtnhbidpdadkcjaaGreatDoorJ04
import Derived.Test.YtnhbidpdadkcjaaGreatDoorJ10
set_option linter.unusedVariables false
set_option linter.unusedSimpArgs false
set_option maxRecDepth 100000
set_option maxHeartbeats 8000000
namespace Go.Proofs.YtnhbidpdadkcjaaGreatDoor
open Go.RowKit
attribute [go_sem] Jq Gv fV A4 List.map_nil Dk Cv Nat.le_refl Int.le_refl M1 M2 List.take_length List.length_map AW Wg Int.cast_ofNat_Int NG U2 RS RT RU Kj NH NI Gu Kf
attribute [go_sem] DL Kh Ki Kg AF DO Gw NC NB Gl Gk Nz Kc RD RE RB RC RN ND UZ UY Kd RJ RK RM gW RF RG RH UX
attribute [go_sem] NA eOk jT pm Region.binds bit Hp List.getD_cons_zero List.getD_cons_succ List.getD_nil List.mem_cons List.mem_singleton List.not_mem_nil AX FD IF aOp evT bQ putT bW gAt jN hget RA aUn Jp pk tF sC U0 uQ tE
attribute [go_sem] sQ Cp bnd pj RP RI NE lA kB cellsOf LV.one Value.oneCell' wy mK jt Qg xR mX NZ List.getElem?_cons_zero List.getElem?_cons_succ List.map_cons Option.map_some Option.map_none List.toList_toArray List.size_toArray
attribute [go_sem] Int.toNat_natCast Option.isSome_some List.getElem?_map decide_true decide_false true_and and_true forall_const not_true_eq_false not_false_eq_true Bool.not_true Bool.not_false List.cons_append List.nil_append List.append_nil forall_eq eq_self beq_iff_eq decide_eq_true_eq
attribute [go_sem] decide_eq_false_iff_not beq_eq_false_iff_ne ne_eq bne_iff_ne List.take_succ_cons List.take_zero List.drop_succ_cons List.drop_zero List.length_cons List.length_nil List.set_cons_zero List.set_cons_succ Option.some.injEq true_or or_true false_or or_false implies_true
attribute [go_sem] Bool.false_eq_true Bool.true_eq_false false_implies and_self Bool.and_true Bool.true_and Bool.and_self Nat.zero_add Nat.add_zero sB Gr Gt tG NY qp RQ Cr uS E8 D.one LV.toD0 nw Ai ofD bw Ff PL HJ Fg
attribute [go_sem] PM HM Ej Ol pr TQ FV Jb nz aA aN gh iV iR yT dA AV.toD SV.toD LV.toD vu gy J5 wl eg jQ sf wm bN UW bu tFn tSl lr gw dZ ez dg AV.plain SV.plain
attribute [go_sem] LV.plain List.all_cons List.all_nil kM kf AU gOf AV.ren SV.ren LV.ren_v LV.ren_d LV.ren_sl LV.ren_p LV.ren_bf Ij LV.ren_any Blk.ren gZ E7 JR List.append_assoc Int.natCast_nonneg ge_iff_le gt_iff_lt List.getD_eq_getElem?_getD Option.getD_some PO.ret.injEq
attribute [go_sem] exists_eq_left exists_eq_left' exists_and_left exists_const Zo Yl Xi Vw Zp Ym Xj Vx Zq Yn Zr Yo Xk Y3 Vy
attribute [go_sem] Zs Yp Xl Y4 Yy
attribute [go_sem] y3
attribute [go_sem] YA Wi Uv
attribute [go_sem] YB Wj XJ
attribute [go_sem] YC Wl Uw XK YD Ux X5 O5 O6 YE
attribute [go_sem] Wm XL YF Wn XM WE Xy
attribute [go_sem] YG Wo Uy X6 O7 O8 O9 Pa Pb Pd Pe
attribute [go_sem] YH Wp Uz
attribute [go_sem] Xz X7 Pf Pg Ph YI Wq UA X8 Pi Pj
attribute [go_sem] Pk YJ Wr UB XA
attribute [go_sem] X9 Pm Pn Po Pp Pq Pr Ps Pt Pv UC Xa U5 Ya
attribute [go_sem] YK UD XB Yb Pw YL Ws XN YM Wt
attribute [go_sem] UE Yc Px Py
attribute [go_sem] Vz
attribute [go_sem] WH Rj Sb V0 R7 WI TD OH
attribute [go_sem] WJ TE Rk Va V1 LJ LK LL
attribute [go_sem] LM
attribute [go_sem] Rl V2 LN TF
attribute [go_sem] Vo
attribute [go_sem] OI TW
attribute [go_sem] WK Rm Vd V3 LO
attribute [go_sem] Vp WL Rn V4 LP LQ
attribute [go_sem] Vq TX
attribute [go_sem] WM TG Rp V5 LR LS WN TH
attribute [go_sem] WO Rq V6 LT LU WP TI Rr Vr
attribute [go_sem] WQ
attribute [go_sem] Rt Sc V7 R8 WS Ru Ub Sd V8 R9
attribute [go_sem] WT Rv Ve V9 LW
attribute [go_sem] Rw Wa LX LY LZ L0
attribute [go_sem] WU TJ Rx Vb Wb
attribute [go_sem] WV Ry Se Wc Sa
attribute [go_sem] Rh Up Uq Um Un Uu Rf Xh
attribute [go_sem] Ur Us Ut Np Gd Rg Jf Nl Gc Nm Nn AG DP Gx Re Rd Rc Nk Uj Ul Xg
attribute [go_sem] Uk yOp qX AV.pin SV.pin LV.pin Ha SM AY FE IG
attribute [go_sem_proc] Nat.reduceOr Nat.reducePow Nat.reduceDiv Nat.reduceMod Nat.reduceBEq Int.reduceBEq Int.reduceBNe Int.reduceEq Int.reduceLT Int.reduceLE Int.reduceToNat reduceIte reduceCtorEq Nat.reduceEqDiff Nat.reduceAdd Nat.reduceLT Nat.reduceLeDiff Nat.reduceMul Nat.reduceSub
end Go.Proofs.YtnhbidpdadkcjaaGreatDoor
