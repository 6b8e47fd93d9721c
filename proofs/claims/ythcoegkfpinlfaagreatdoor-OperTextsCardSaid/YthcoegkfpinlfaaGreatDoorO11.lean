import Derived.Test.YthcoegkfpinlfaaGreatDoorO04
import Derived.Test.YthcoegkfpinlfaaGreatDoorO10
set_option linter.unusedVariables false
set_option linter.unusedSimpArgs false
set_option maxRecDepth 100000
set_option maxHeartbeats 8000000
namespace Go.Proofs.YthcoegkfpinlfaaGreatDoor
open Go.RowKit
attribute [go_sem] AR cC df sx List.map_nil dO dQ Nat.le_refl Int.le_refl cO hP List.take_length List.length_map bD bH Int.cast_ofNat_Int aE aP aw au aH ai fB ak an ae ah
attribute [go_sem] aa aB aA dA bw ap ay aK aJ ab fC ar aj bN rD aO aY aI bW bI bt cD bn cy qA bA eK eQ rv wQ kq
attribute [go_sem] dI eOk dY et Region.binds bit Hp List.getD_cons_zero List.getD_cons_succ List.getD_nil List.mem_cons List.mem_singleton List.not_mem_nil ag aq aD aOp evT aW putT aG gAt bL hget bC aUn eA iR bm bB cI co aX
attribute [go_sem] bJ cp bnd de ct Kj JW az fM cellsOf LV.one Value.oneCell' bZ aU cH iM bQ bu bO List.getElem?_cons_zero List.getElem?_cons_succ List.map_cons Option.map_some Option.map_none List.toList_toArray List.size_toArray
attribute [go_sem] Int.toNat_natCast Option.isSome_some List.getElem?_map decide_true decide_false true_and and_true forall_const not_true_eq_false not_false_eq_true Bool.not_true Bool.not_false List.cons_append List.nil_append List.append_nil forall_eq eq_self beq_iff_eq decide_eq_true_eq
attribute [go_sem] decide_eq_false_iff_not beq_eq_false_iff_ne ne_eq bne_iff_ne List.take_succ_cons List.take_zero List.drop_succ_cons List.drop_zero List.length_cons List.length_nil List.set_cons_zero List.set_cons_succ Option.some.injEq true_or or_true false_or or_false implies_true
attribute [go_sem] Bool.false_eq_true Bool.true_eq_false false_implies and_self Bool.and_true Bool.true_and Bool.and_self Nat.zero_add Nat.add_zero cM ac fA bx bX ax I9 mf i6 td D.one LV.toD0 cz fg ofD cf eC ao fy eB
attribute [go_sem] jH fo ez kb ey bG aQ bV bz aN lX i2 be bi bh br AV.toD SV.toD LV.toD fD fJ mh eU fx aV bE te ta aR s9 bg tFn tD tSl cB LS iQ dx fe AV.plain SV.plain
attribute [go_sem] LV.plain List.all_cons List.all_nil Mx MJ Ea gOf AV.ren SV.ren LV.ren_v LV.ren_d LV.ren_sl LV.ren_p LV.ren_bf JC LV.ren_any Blk.ren dz iZ l9 List.append_assoc Int.natCast_nonneg ge_iff_le gt_iff_lt List.getD_eq_getElem?_getD Option.getD_some PO.ret.injEq
attribute [go_sem] exists_eq_left exists_eq_left' exists_and_left exists_const LK Mh Es dE cE eD LR E9 yb Mt L6 iW dX zk Mz FV dG MS MF Dv qt xa LY Fb MP LZ Mf ff BN L4 FT Bo Mi L9 MG FC uJ Mg FL
attribute [go_sem] Ma LL Mn rQ oT qb m6 m7 oh nT qm cN bY eH sN cQ Mv MV LO EB xL oS Ii tk og IU Fu FQ Ae nr Hm wK Hh En Iv kf kS lc ju FU BT
attribute [go_sem] pa Fx yw GT AH I2 HO wY qd EI um GJ tY IS H6 BV qL Hs tR Ha x8 Fe F4 Bn oP Il xg E5 Gm GN kI kA Ei yi rb Fm Ca E4 F8 ED tZ oF
attribute [go_sem] Fy xq rk G2 Ib FK uF ot F5 EE vR I5 Ey vh Fd Iu Fj uv FX Gf Cg iT eG dF Ep tL nz EX IV GP GY A7 EV xV rm GC EK uE GZ FR xm EL HP
attribute [go_sem] IA tT Iw I3 zc EN yM nB Ft uV IQ Hn Ix je jT kX jC li jr cX cr bK EY B0 Gu EG eg dR jk dP lJ dN kh G1 Bc pN Gc Co
attribute [go_sem] Ee G4 Ga lm jI jP lj j4 lu Gx yk nk I1 tz Hd E7 Ie jA kU ke jv jp jz Hw tQ oa Ej xw Fv ER FP lr lN jy jj kK
attribute [go_sem] jd jK j7 jg lb kF km jh kW lk kJ kD j9 DX xD ma Hy vm GV FO E8 jS lx j2 kC lp lB j3 lF lD j5 lv lI
attribute [go_sem] jx jt jE jo jJ ko IF In xI Hz HH tB GG Ir ti HJ Fa Av G5 E2 tt FI ve po Ec dD Ch GQ Gn xh GI FZ EF tl G8 II yq G3 Ef uu Er GB
attribute [go_sem] xk Em xc oO Gi x6 Fs Fz Ih EM vP Fl EJ wP GE IY vV I6 Gy t6 EZ Id tO Hx GK Ac IR El BH IL Bv pG Hf Aq Gl ws Gj He yx pz I4 wZ G7
attribute [go_sem] wX IJ IZ wW rp EU Ci Gw t8 H8 Ic BY nO Fo BZ IC FE FY lq ly IT Af nj Fp tn Et Ed HM jq jZ Gr GU u5 FS Eo tU Hj EW u6 GH HB uo
attribute [go_sem] F0 HY B3 Eb G6 tu ID EP uL Iy Eh AC FF GF uU FH IP zv H7 x5 ri HI xu Fg FW Is Gv uI EH Hu tC FN GA wR Gg G9 Cn Fi Ge AD GW IH wH Iq
attribute [go_sem] Gh zw Hl wL nC FJ zC FM vG ES Fh tX qY E3 HV xC Ip Hq uZ Gb I0 BI nY Gt B6 HA HN Eu kM la ji lM Im vJ ng Ig wG IW F9 If j8
attribute [go_sem] lG lK kV IK Fq uH FB yd pc Gk xH EQ EO IN Ar qx Iz Cc Eg Gp F7 GO uY H9 EA yA FD yh oK ET ui qC Ho Gq F6 A6 oy IB Ck Ia Fr Fc
attribute [go_sem] kN kE jW lz jM jO lg lE Ij tF rR FA zf Ez Gd Ew jN ki k6 lC kR kL kP kH F3 GL yL IX wp rC IM zg Fk zQ0 F2 kr
attribute [go_sem] jQ Gz B7 qW GX Bs IG HG Hg kj lf Io GS vi Hk Ik x4 xb vd rY yp AT r5 ua AP o0 wV nA jB wi eF pf uk ux qf yy vB wz px
attribute [go_sem] wB qG lh BP mT vv AI zq gW gE gQ fW eE eS dk wa oY zK AZ lO dB gI dC gA vu zu m9 BF BW mX xJ u7 qT ue Bj
attribute [go_sem] oH B8 oZ j0 zI mW vL xY yf xf oG xx yX nu Bw rc kO zO nh Bz pg zh np vK qs uq BM m8 yn nt kG Am db pw By xv rX
attribute [go_sem] xQ Bb yu qj zG oQ jL vg n5 AQ vZ tW gv ia gw gF da pR ep tv oB tM vU i7 ce io ca hZ BE Ce qK Az zD rt vp
attribute [go_sem] pS kQ uT pO xZ qa Bu zS vo qZ ug Ax mR wt x2 pD wh yU pK uQ BU pU Bh uA oX zH xd rL Bl xe rV wJ Au qI zz zM rh AU
attribute [go_sem] oc jw vy rT jc wI yv wv yN qR wA Cd qh xW wb pT tw yT qy dM na cU yE p8 yW oW yJ dv dK dq dJ pH cT xE rE xG ry
attribute [go_sem] u9 dm dL du Br qu ky tN ph ww pF vr mY xU rG xP Bq rj wg wD pV vS nD lw vq oe Aw zm tf AX qi u4 A9 rJ zW vb rI
attribute [go_sem] xM uO re wT vT qP yc pq jn t7 zN qQ uy ud qo uC xK Bm pk xt uR nR Ai oN jm Ak AJ oE yg vI ou zV yD qM jD Ay rF
attribute [go_sem] AS p9 BS pr uS rW tP wl pW Ao nE jF uz rl lA xl Bi xB x3 nL yZ BD qD Bk ru ku yF qV uG qr uD qE tg qz wC tA mM
attribute [go_sem] zX BX mO xz xj rZ yG nP lH yj qe j6 AB zZ xN uM oo wj oI kz yl ny zj Aa zR f9 ik AA qO jX tG qv Bg zi tV iD
attribute [go_sem] gT yS rK jl uc pu vC rq yK A5 py kn tE qc Be AG tH ip iC gy gU iA gB gC gj vM mQ ln tq oU v6 zr yR gV
attribute [go_sem] gY fZ iB ij gZ ir ic ze ub pt zl rN jY wm v8 pQ uj Ap qH Ah vE qp kB uW pA zQ vW zd iJ hH gJ iG gr
attribute [go_sem] fV Aj nq jb vO ow Cb vY zb ib iI gu gG gd ii za wU nN vc BG rd vX xA nG AK rU kY yz nV x7 oi wN oV va p6
attribute [go_sem] vz pI vt ql vk qF AW rA An qU ya zJ nK wo B9 nw AE xR rH A8 Bt pm yC B4 p7 ye zY rP wE B2 oj vQ BJ nF vn xp nZ wn
attribute [go_sem] th pX uN uK rr Ba wu rO zy yI rM vN mZ jG vF nX y9 mP A4 vD mU ll uh pE Cp ov At pJ tK mN uX oA u3 mS Cq pi Ag
attribute [go_sem] rB BK nU uB nI kc v7 pj Bx qk zE qw vl oz zP oJ tI qn wy qN zo rz zA pZ wO qS ka tj pP wM vH BB iy iH gX gz
attribute [go_sem] ur oL jf xn nQ AO vj vA gN iz gH gL AL pC kg BL oC xO ox ym pY yQ mV ul BO ni x9 nH jR uw oq yB vx tr iF
attribute [go_sem] iw gc gt gq il gK gb yH nJ tS ra B5 nW AN nS AM Ab pM Cj pL BQ Cm xX zt zB oR Bp pb kl AF qJ yV zF xy fX
attribute [go_sem] iE gD gO gS gh ge fY iu fU gR gp gM gP ig gk im iq g9 gl fu fq zT Dx Dz Dw Do DG AY JR
attribute [go_sem] Du Dm Dr sC l7 sM zL my sA lL mJ sB sy mA fQ jV mb BA ut BR sE DK Dq Dl Ds Dt wF JP J8
attribute [go_sem] sG DI DD DJ yOp Dd AV.pin SV.pin LV.pin mq Dn fP kp ml
attribute [go_sem_proc] Nat.reduceOr Nat.reducePow Nat.reduceDiv Nat.reduceMod Nat.reduceBEq Int.reduceBEq Int.reduceBNe Int.reduceEq Int.reduceLT Int.reduceLE Int.reduceToNat reduceIte reduceCtorEq Nat.reduceEqDiff Nat.reduceAdd Nat.reduceLT Nat.reduceLeDiff Nat.reduceMul Nat.reduceSub
end Go.Proofs.YthcoegkfpinlfaaGreatDoor
