import Derived.Test.YtpjlafmhoifkmaaGreatM04
import Derived.Test.YtpjlafmhoifkmaaGreatM10
import Derived.Test.YtpjlafmhoifkmaaGreatM07
set_option linter.unusedVariables false
set_option linter.unusedSimpArgs false
set_option maxRecDepth 100000
set_option maxHeartbeats 8000000
namespace Go.Proofs.YtpjlafmhoifkmaaGreat
section
open Go.RowKit
attribute [go_sem] zV yC fv sq List.map_nil uY uJ Nat.le_refl Int.le_refl BS List.take_length List.length_map CU Lr Int.cast_ofNat_Int DY NM JP HL Ib Cn zy Fv Gy xw CX
attribute [go_sem] vT Ca BM BR sn vu xk Fx Dq xI xd D3 By JB HN Iv H4 If Gu MV LF B9 Hj HO fX Hz Ie Jk Lc Gw
attribute [go_sem] DL eOk iq lh Region.binds bit Hp List.getD_cons_zero List.getD_cons_succ List.getD_nil List.mem_cons List.mem_singleton List.not_mem_nil sF wK x1 aOp evT dD putT di gAt iw hget Iy aUn z8 lr oO nN LB qJ oL
attribute [go_sem] nD uu bnd lF IN Kn FD js i7 cellsOf LV.one Value.oneCell' pO ja ij DD rD kn GO List.getElem?_cons_zero List.getElem?_cons_succ List.map_cons Option.map_some Option.map_none List.toList_toArray List.size_toArray
attribute [go_sem] Int.toNat_natCast Option.isSome_some List.getElem?_map decide_true decide_false true_and and_true forall_const not_true_eq_false not_false_eq_true Bool.not_true Bool.not_false List.cons_append List.nil_append List.append_nil forall_eq eq_self beq_iff_eq decide_eq_true_eq
attribute [go_sem] decide_eq_false_iff_not beq_eq_false_iff_ne ne_eq bne_iff_ne List.take_succ_cons List.take_zero List.drop_succ_cons List.drop_zero List.length_cons List.length_nil List.set_cons_zero List.set_cons_succ Option.some.injEq true_or or_true false_or or_false implies_true
attribute [go_sem] Bool.false_eq_true Bool.true_eq_false false_implies and_self Bool.and_true Bool.true_and Bool.and_self Nat.zero_add Nat.add_zero nL zr w9 qi E4 l5 Ka tT o7 wT D.one LV.toD0 j9 ru ofD cG w5 FI wZ
attribute [go_sem] D5 wt DE JA vA zB py ag cX eL aY aZ wQ iB AV.toD SV.toD LV.toD pG z5 nl au bT gj td ao cW lH tSl ai mb gZ AV.plain SV.plain
attribute [go_sem] LV.plain List.all_cons List.all_nil bU bW uh gOf AV.ren SV.ren LV.ren_v LV.ren_d LV.ren_sl LV.ren_p LV.ren_bf ya LV.ren_any Blk.ren oh Au List.append_assoc Int.natCast_nonneg ge_iff_le gt_iff_lt List.getD_eq_getElem?_getD Option.getD_some PO.ret.injEq
attribute [go_sem] exists_eq_left exists_eq_left' exists_and_left exists_const sz_1 Ow sz_2 OE MU L9 sz_3 OB NE by_3 Ny kt_3 sz_4 N2
attribute [go_sem] sz_9 O0 MD Qi
attribute [go_sem] OP MT JY Pn Fs DU Eh P7 M6
attribute [go_sem] HK OS
attribute [go_sem] LJ HQ Qu G2 GS FJ Fm F7 C7 G6 Gm Dp EG On MW JL
attribute [go_sem] QS Ln Rk OV K9 H6 O6 EF FT Ec
attribute [go_sem] HY NW GA
attribute [go_sem] Qv My Ja Qz Qq Gt EX
attribute [go_sem] C6 E9 Fr
attribute [go_sem] J4 P4 Mb Jz
attribute [go_sem] JQ Qm FA ES PQ LW P2 NF NV
attribute [go_sem] KD LI zR NX Ob ER EY EB PZ
attribute [go_sem] O7 Nf J9 PH DF DX Fy
attribute [go_sem] Oc
attribute [go_sem] LX
attribute [go_sem] Nb DI MP Cp B0
attribute [go_sem] Nt Lh
attribute [go_sem] MB HJ G9 K1 CK B3 L3 HG Db
attribute [go_sem] Ig Mn J5 EN IC Is MN ML
attribute [go_sem] Ez Jy Ix Ic IS In F9 Ld J3 Ij Jx Ba vK Gp zz Cl vS tK Cr sG vr
attribute [go_sem] xP DV Dl Dx CZ I8 NI yOp lQ AV.pin SV.pin LV.pin xZ I0 sx wB xg
attribute [go_sem_proc] Nat.reduceOr Nat.reducePow Nat.reduceDiv Nat.reduceMod Nat.reduceBEq Int.reduceBEq Int.reduceBNe Int.reduceEq Int.reduceLT Int.reduceLE Int.reduceToNat reduceIte reduceCtorEq Nat.reduceEqDiff Nat.reduceAdd Nat.reduceLT Nat.reduceLeDiff Nat.reduceMul Nat.reduceSub
end
section
open Go.RowKit
abbrev Lf (f:Func) (a:List AV) (r:PO):Prop:=SW Tryz.prog ⟨none,0⟩ f.ntmps (f.body.getD .skip) ⟨0,ag 0 a,[]⟩ (ax Tryz.prog f.results.toList r)
theorem Lf.go {f:Func} {n:Nat} {rs:Array ResultVar} {c:Code} {a:List AV} {r:PO} {ctx:Ctx Tryz.prog} (hn:f.ntmps=n) (hr:f.results=rs) (hb:f.body=some c) (h:bS Tryz.prog ctx ⟨none,0⟩ n 4000 [.c c] ⟨0,ag 0 a,[]⟩ (ax Tryz.prog rs.toList r)):Lf f a r:=by
 unfold Lf
 rw [hn,hr,hb]
 exact aa 4000 h
theorem Lf.eq {f:Func} {a:List AV} {r s:AV} (h:Lf f a (.ret r)) (e:s=r):Lf f a (.ret s):=e▸h
theorem b0 {a b:Int} (h:¬a=b):(a==b)=false:=by simpa using h
theorem b1 {a b:Int} (h:a=b):(a==b)=true:=by simpa using h
theorem n0 {a b:Int} (h:a=b):(a !=b)=false:=by simpa using h
theorem n1 {a b:Int} (h:¬a=b):(a !=b)=true:=by simpa using h
theorem wr {n:Int} (h : -9223372036854775808≤n∧n≤9223372036854775807):IntKind.i64.wrap n=n:=by rw [IntKind.wrap_i64];omega
end
end Go.Proofs.YtpjlafmhoifkmaaGreat
