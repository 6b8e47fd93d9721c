import Derived.Test.YtnhbidpdadkcjaaGreatDoorG04
import Derived.Test.YtnhbidpdadkcjaaGreatDoorG10
set_option linter.unusedVariables false
set_option linter.unusedSimpArgs false
set_option maxRecDepth 100000
set_option maxHeartbeats 8000000
namespace Go.Proofs.YtnhbidpdadkcjaaGreatDoor
open Go.RowKit
attribute [go_sem] Ff C6 d6 xz List.map_nil zM y7 Nat.le_refl Int.le_refl IW IX List.take_length List.length_map xv Rd Int.cast_ofNat_Int Jw PZ Nc Nd Nf Gc Jx Jy C5 F8
attribute [go_sem] Am Ga Gb F9 xd Ap C7 Js Jr CX CW Jp F5 MX MY MV MW M8 Jt PX PW F6 M5 M6 M7 fh MZ M1 M3 PV
attribute [go_sem] Jq eOk iA mV Region.binds bit Hp List.getD_cons_zero List.getD_cons_succ List.getD_nil List.mem_cons List.mem_singleton List.not_mem_nil xw B9 EE aOp evT bI putT bC gAt iu ac MU aUn Fe mU qR qe PY sj qQ
attribute [go_sem] qo yX bnd mT M9 M4 Ju j5 jl cellsOf LV.one Value.oneCell' tI li gU LM uH lr JN List.getElem?_cons_zero List.getElem?_cons_succ List.map_cons Option.map_some Option.map_none List.toList_toArray List.size_toArray
attribute [go_sem] Int.toNat_natCast Option.isSome_some List.getElem?_map decide_true decide_false true_and and_true forall_const not_true_eq_false not_false_eq_true Bool.not_true Bool.not_false List.cons_append List.nil_append List.append_nil forall_eq eq_self beq_iff_eq decide_eq_true_eq
attribute [go_sem] decide_eq_false_iff_not beq_eq_false_iff_ne ne_eq bne_iff_ne List.take_succ_cons List.take_zero List.drop_succ_cons List.drop_zero List.length_cons List.length_nil List.set_cons_zero List.set_cons_succ Option.some.injEq true_or or_true false_or or_false implies_true
attribute [go_sem] Bool.false_eq_true Bool.true_eq_false false_implies and_self Bool.and_true Bool.true_and Bool.and_self Nat.zero_add Nat.add_zero qd C3 C4 qS JM oh Na y3 sk BI D.one LV.toD0 lJ wL ofD bp BO Lt D7 BP
attribute [go_sem] Lu D8 AQ J6 mY OJ Cr E4 kf ax aC ee fT gh vD cZ AV.toD SV.toD LV.toD sH gl FY tw cE e9 pW tx bq PT aT tFn tSl nX gE jr fK dc AV.plain SV.plain
attribute [go_sem] LV.plain List.all_cons List.all_nil jv iT xu gOf AV.ren SV.ren LV.ren_v LV.ren_d LV.ren_sl LV.ren_p LV.ren_bf En LV.ren_any Blk.ren fS BH FI List.append_assoc Int.natCast_nonneg ge_iff_le gt_iff_lt List.getD_eq_getElem?_getD Option.getD_some PO.ret.injEq
attribute [go_sem] exists_eq_left exists_eq_left' exists_and_left exists_const UT TD Sq Qr UU TE Sr Qt UV TF UW TG Ss Uu Qu
attribute [go_sem] UX TI Su Uv TT
attribute [go_sem] vH
attribute [go_sem] TU Rf Pk SX Tc TV Rg Pm SY TW Rh Pn
attribute [go_sem] TX Ri Po SN Tp KN TY Rj SZ
attribute [go_sem] TZ Rk Pp S0 T0 Pq Tq KO KP T4
attribute [go_sem] Rl S1 T5 Rm S3 RM SM
attribute [go_sem] T6 Rn Pr Tr KQ KR KS KT KU KV KW
attribute [go_sem] T7 Ps SO Ts KX KY
attribute [go_sem] T8 Rp Pt
attribute [go_sem] SP Tt KZ K0 K1 T9 Rq Pv Tu K2 K3
attribute [go_sem] K4 Ua Rr Pw SQ
attribute [go_sem] Tv K5 K6 K7 K8 K9 La Lb Lc Ld
attribute [go_sem] Ub Px SR Tw Le Uc Rt S4 Ud Ru
attribute [go_sem] Py Tx Lf Lg
attribute [go_sem] Qv
attribute [go_sem] RP Ox Kq
attribute [go_sem] RQ Oy MH P6 QY HH HI HJ
attribute [go_sem] HM
attribute [go_sem] MI QZ HN Oz
attribute [go_sem] Qj
attribute [go_sem] Kr OS
attribute [go_sem] RR MJ P9 Q0 HO
attribute [go_sem] Qk OT
attribute [go_sem] RS OA MK Q1 HP HR RU OB
attribute [go_sem] RV ML Q2 HV HY RW OC MM Ql
attribute [go_sem] RX
attribute [go_sem] MN Nn Q3 Nk RY MO O3 Np Q4 Nl
attribute [go_sem] RZ MP Qa Q5 H6
attribute [go_sem] MQ Q6 H7 H8 H9 Ia
attribute [go_sem] R6 OD MR P7 Q7
attribute [go_sem] R7 MS Nq Q8 Nm
attribute [go_sem] MF Pe Pf Pa Pb Pj MD Sp
attribute [go_sem] Pg Ph Pi Jd CP ME E8 Ja CO Jb Jc xe Aq C8 MC MB MA I9 O7 O9 So
attribute [go_sem] O8 yOp oW AV.pin SV.pin LV.pin DO NT xx Ca EF
attribute [go_sem_proc] Nat.reduceOr Nat.reducePow Nat.reduceDiv Nat.reduceMod Nat.reduceBEq Int.reduceBEq Int.reduceBNe Int.reduceEq Int.reduceLT Int.reduceLE Int.reduceToNat reduceIte reduceCtorEq Nat.reduceEqDiff Nat.reduceAdd Nat.reduceLT Nat.reduceLeDiff Nat.reduceMul Nat.reduceSub
end Go.Proofs.YtnhbidpdadkcjaaGreatDoor
