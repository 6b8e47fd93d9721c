import Derived.Test.YtnhbidpdadkcjaaGreatDoorR04
import Derived.Test.YtnhbidpdadkcjaaGreatDoorR10
set_option linter.unusedVariables false
set_option linter.unusedSimpArgs false
set_option maxRecDepth 100000
set_option maxHeartbeats 8000000
namespace Go.Proofs.YtnhbidpdadkcjaaGreatDoor
open Go.RowKit
attribute [go_sem] Jt GI fO AY List.map_nil Du CC Nat.le_refl Int.le_refl M1 M2 List.take_length List.length_map AP Wp Int.cast_ofNat_Int NH U4 RS RT RU Kt NI NJ GH Kp
attribute [go_sem] DU Kr Ks Kq Ax DX GJ ND NC GA Gz NA Km RD RE RB RC RN NE U2 U0 Kn RJ RK RM gP RF RG RH UZ
attribute [go_sem] NB eOk jQ pc Region.binds bit Hp List.getD_cons_zero List.getD_cons_succ List.getD_nil List.mem_cons List.mem_singleton List.not_mem_nil AQ FQ IK aOp evT bR putT bY gAt jK hget RA aUn Js oY tw sq U3 uL tv
attribute [go_sem] sI Cw bnd oX RP RI NF lw ky cellsOf LV.one Value.oneCell' wi mH jo Qf xI mU NZ List.getElem?_cons_zero List.getElem?_cons_succ List.map_cons Option.map_some Option.map_none List.toList_toArray List.size_toArray
attribute [go_sem] Int.toNat_natCast Option.isSome_some List.getElem?_map decide_true decide_false true_and and_true forall_const not_true_eq_false not_false_eq_true Bool.not_true Bool.not_false List.cons_append List.nil_append List.append_nil forall_eq eq_self beq_iff_eq decide_eq_true_eq
attribute [go_sem] decide_eq_false_iff_not beq_eq_false_iff_ne ne_eq bne_iff_ne List.take_succ_cons List.take_zero List.drop_succ_cons List.drop_zero List.length_cons List.length_nil List.set_cons_zero List.set_cons_succ Option.some.injEq true_or or_true false_or or_false implies_true
attribute [go_sem] Bool.false_eq_true Bool.true_eq_false false_implies and_self Bool.and_true Bool.true_and Bool.and_self Nat.zero_add Nat.add_zero so GF GG tx NY qg RQ Cy uN Fm D.one LV.toD0 nk Ac ofD bu Ft PL H8 Fu
attribute [go_sem] PM H9 Ey On pi TS F6 Je np aB aL fX iN iK yK dx AV.toD SV.toD LV.toD vi gk Kf vW dV jN rY vX bO UY bw tFn tSl ln fU dr dX df AV.plain SV.plain
attribute [go_sem] LV.plain List.all_cons List.all_nil kJ kb AO gOf AV.ren SV.ren LV.ren_v LV.ren_d LV.ren_sl LV.ren_p LV.ren_bf Ip LV.ren_any Blk.ren gS Fl J0 List.append_assoc Int.natCast_nonneg ge_iff_le gt_iff_lt List.getD_eq_getElem?_getD Option.getD_some PO.ret.injEq
attribute [go_sem] exists_eq_left exists_eq_left' exists_and_left exists_const ZC Yu Xq VA ZD Yv Xr VB ZE Yw ZF Yx Xt Zf VC
attribute [go_sem] ZG Yy Xu Zg YJ
attribute [go_sem] yR
attribute [go_sem] YL Wr Uy
attribute [go_sem] YM Ws Uz XR
attribute [go_sem] YN Wt UA XS YO UB Ye O6 O7 YP
attribute [go_sem] Wu XT YQ Wv XU WM XG
attribute [go_sem] YR Ww UC Yf O8 O9 Pa Pb Pd Pe Pf
attribute [go_sem] XV YS Wx UD
attribute [go_sem] XH Yg Pg Ph Pi YT Wy UE Yh Pj Pk
attribute [go_sem] Pm YU Wz UF XI
attribute [go_sem] Yi Pn Po Pp Pq Pr Ps Pt Pv Pw UG Xj U7 Yj
attribute [go_sem] YV UH XJ Yk Px YW WA XW YX WB
attribute [go_sem] UI Yl Py Pz
attribute [go_sem] VD
attribute [go_sem] WP Rj Sb V8 R7 WQ TF OJ
attribute [go_sem] WS TG Rk Vc V9 LR LS LT
attribute [go_sem] LU
attribute [go_sem] Rl Wa LW TH
attribute [go_sem] Vr
attribute [go_sem] OK TY
attribute [go_sem] WT Rm Vg Wb LX
attribute [go_sem] Vs WU Rn Wc LY LZ
attribute [go_sem] Vt TZ
attribute [go_sem] WV TI Rp Wd L0 L1 WW TJ
attribute [go_sem] WX Rq We L2 L3 WY TK Rr Vu
attribute [go_sem] WZ
attribute [go_sem] Rt Sc Wf R8 W2 Ru Ue Sd Wg R9
attribute [go_sem] W4 Rv Vh Wh L4
attribute [go_sem] Rw Wi L5 L6 L7 L8
attribute [go_sem] W6 TL Rx Vd Wj
attribute [go_sem] W7 Ry Se Wl Sa
attribute [go_sem] Rh Us Ut Up Uq Ux Rf Xp
attribute [go_sem] Uu Uv Uw No Gt Rg Jj Nl Gr Nm Nn Ay DY GK Re Rd Rc Nk Um Uo Xo
attribute [go_sem] Un yOp qK AV.pin SV.pin LV.pin Ho SP AR FR IL
attribute [go_sem_proc] Nat.reduceOr Nat.reducePow Nat.reduceDiv Nat.reduceMod Nat.reduceBEq Int.reduceBEq Int.reduceBNe Int.reduceEq Int.reduceLT Int.reduceLE Int.reduceToNat reduceIte reduceCtorEq Nat.reduceEqDiff Nat.reduceAdd Nat.reduceLT Nat.reduceLeDiff Nat.reduceMul Nat.reduceSub
end Go.Proofs.YtnhbidpdadkcjaaGreatDoor
