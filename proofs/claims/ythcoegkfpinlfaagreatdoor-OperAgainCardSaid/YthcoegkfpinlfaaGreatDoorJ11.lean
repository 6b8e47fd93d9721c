import Derived.Test.YthcoegkfpinlfaaGreatDoorJ04
import Derived.Test.YthcoegkfpinlfaaGreatDoorJ10
set_option linter.unusedVariables false
set_option linter.unusedSimpArgs false
set_option maxRecDepth 100000
set_option maxHeartbeats 8000000
namespace Go.Proofs.YthcoegkfpinlfaaGreatDoor
open Go.RowKit
attribute [go_sem] Fp De fR xy List.map_nil oN nR Nat.le_refl Int.le_refl IS IT List.take_length List.length_map Aa P9 Int.cast_ofNat_Int Jp Pq MV MW MX GG Jq Jr Dd GC
attribute [go_sem] Az GE GF GD xe AD Df Jj Ji C5 C4 Jf Gz MI MJ MG MH MR Jk Po Pn GA MO MP MQ gH MK ML MM Pm
attribute [go_sem] Jh eOk jD nT Region.binds bit Hp List.getD_cons_zero List.getD_cons_succ List.getD_nil List.mem_cons List.mem_singleton List.not_mem_nil xu Cy EO aOp evT cE putT cP gAt jA aq MF aUn Fo nQ rA qG Pp uR rz
attribute [go_sem] qU zk bnd nP MS MN Jl kZ kg cellsOf LV.one Value.oneCell' tF mc jf Lv uP ml JN List.getElem?_cons_zero List.getElem?_cons_succ List.map_cons Option.map_some Option.map_none List.toList_toArray List.size_toArray
attribute [go_sem] Int.toNat_natCast Option.isSome_some List.getElem?_map decide_true decide_false true_and and_true forall_const not_true_eq_false not_false_eq_true Bool.not_true Bool.not_false List.cons_append List.nil_append List.append_nil forall_eq eq_self beq_iff_eq decide_eq_true_eq
attribute [go_sem] decide_eq_false_iff_not beq_eq_false_iff_ne ne_eq bne_iff_ne List.take_succ_cons List.take_zero List.drop_succ_cons List.drop_zero List.length_cons List.length_nil List.set_cons_zero List.set_cons_succ Option.some.injEq true_or or_true false_or or_false implies_true
attribute [go_sem] Bool.false_eq_true Bool.true_eq_false false_implies and_self Bool.and_true Bool.true_and Bool.and_self Nat.zero_add Nat.add_zero qF Db Dc ue JM pi MT zm sD B8 D.one LV.toD0 mD wT ofD dj Ce K0 Ee Cg
attribute [go_sem] K1 Ef Ba Kd nX Oi CC Fe mX aw cu gM bV ca vG gU AV.toD SV.toD LV.toD sS nD Gk jp aI cA xC xD bA Gi bh tFn tSl jZ xq um pt kA AV.plain SV.plain
attribute [go_sem] LV.plain List.all_cons List.all_nil mj lp xt gOf AV.ren SV.ren LV.ren_v LV.ren_d LV.ren_sl LV.ren_p LV.ren_bf Eu LV.ren_any Blk.ren ff BL F1 List.append_assoc Int.natCast_nonneg ge_iff_le gt_iff_lt List.getD_eq_getElem?_getD Option.getD_some PO.ret.injEq
attribute [go_sem] exists_eq_left exists_eq_left' exists_and_left exists_const QZ O5 Mz Ky Q0 O6 MA Kz Q1 O7 Q2 O8 MB QF KA
attribute [go_sem] Q3 O9 MC QG Pa
attribute [go_sem] ya
attribute [go_sem] Pb LB Gn OQ Pd LC Gp Pe LD OR
attribute [go_sem] Pf LI Gq OW BM BN BO
attribute [go_sem] Pg LJ Gr OX BP BQ BR
attribute [go_sem] Ph LK Gt ON OY BS BT BU BV BW BX
attribute [go_sem] BY BZ B0 OS
attribute [go_sem] Gu OZ B2
attribute [go_sem] OT OM
attribute [go_sem] Pi LL FS
attribute [go_sem] Pj LM Gv OO O0 B3 B4 B5 B6
attribute [go_sem] Pk Gw OP O1 B7 J4 Ge
attribute [go_sem] L5 F7 CS K7 yl ym
attribute [go_sem] L6 CT Fx K8 Ft L7 CU Gm
attribute [go_sem] Fy K9 Fu
attribute [go_sem] L8 F8 CV J5 J6
attribute [go_sem] L9 CW JD La yn
attribute [go_sem] CX Lb yp
attribute [go_sem] yq yu yv
attribute [go_sem] Ma F9 CY JC Lc
attribute [go_sem] Mb CZ Fz Ld Fv
attribute [go_sem] Mx OG OH OD OE OL Mv Qx
attribute [go_sem] OI OJ OK I7 CQ Mw Fg I4 CP I5 I6 xf AE Dg Mu Mt Mr I3 OA OC Qw
attribute [go_sem] OB yOp pK AV.pin SV.pin LV.pin DR Nx xv Cz EP
attribute [go_sem_proc] Nat.reduceOr Nat.reducePow Nat.reduceDiv Nat.reduceMod Nat.reduceBEq Int.reduceBEq Int.reduceBNe Int.reduceEq Int.reduceLT Int.reduceLE Int.reduceToNat reduceIte reduceCtorEq Nat.reduceEqDiff Nat.reduceAdd Nat.reduceLT Nat.reduceLeDiff Nat.reduceMul Nat.reduceSub
end Go.Proofs.YthcoegkfpinlfaaGreatDoor
