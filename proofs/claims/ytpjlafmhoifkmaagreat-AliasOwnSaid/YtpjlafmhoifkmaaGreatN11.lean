import Derived.Test.YtpjlafmhoifkmaaGreatN04
import Derived.Test.YtpjlafmhoifkmaaGreatN10
import Derived.Test.YtpjlafmhoifkmaaGreatN07
set_option linter.unusedVariables false
set_option linter.unusedSimpArgs false
set_option maxRecDepth 100000
set_option maxHeartbeats 8000000
namespace Go.Proofs.YtpjlafmhoifkmaaGreat
section
open Go.RowKit
attribute [go_sem] xH vi dM pO List.map_nil rC rp Nat.le_refl Int.le_refl x1 List.take_length List.length_map ye Is Int.cast_ofNat_Int DG Jd FV E7 F5 zl vV CQ Ca wb zT
attribute [go_sem] s9 yR zO yM pP sE vk AH B0 uV vt Cz xU Fo FQ F6 FB Ga CX II Ju zD G4 Er eb FD EJ Fv IG DJ
attribute [go_sem] Dq eOk fk jb Region.binds bit Hp List.getD_cons_zero List.getD_cons_succ List.getD_nil List.mem_cons List.mem_singleton List.not_mem_nil pJ sG wH aOp evT cR putT cy gAt fo hget Gr aUn xp iZ lh kU Jz o8 lm
attribute [go_sem] k7 rW bnd i7 Hg G8 CU gm fS cellsOf LV.one Value.oneCell' m9 fP eV Ao oD ik Bt List.getElem?_cons_zero List.getElem?_cons_succ List.map_cons Option.map_some Option.map_none List.toList_toArray List.size_toArray
attribute [go_sem] Int.toNat_natCast Option.isSome_some List.getElem?_map decide_true decide_false true_and and_true forall_const not_true_eq_false not_false_eq_true Bool.not_true Bool.not_false List.cons_append List.nil_append List.append_nil forall_eq eq_self beq_iff_eq decide_eq_true_eq
attribute [go_sem] decide_eq_false_iff_not beq_eq_false_iff_ne ne_eq bne_iff_ne List.take_succ_cons List.take_zero List.drop_succ_cons List.drop_zero List.length_cons List.length_nil List.set_cons_zero List.set_cons_succ Option.some.injEq true_or or_true false_or or_false implies_true
attribute [go_sem] Bool.false_eq_true Bool.true_eq_false false_implies and_self Bool.and_true Bool.true_and Bool.and_self Nat.zero_add Nat.add_zero kC vG we nC D1 jz G9 sc my uj D.one LV.toD0 g7 oT ofD bX sx DH ub
attribute [go_sem] BK su B5 EN sC uD mi ag cn dC bm bt uc fI AV.toD SV.toD LV.toD l9 xw kr av cq gp qB ar ez tSl am jX eQ AV.plain SV.plain
attribute [go_sem] LV.plain List.all_cons List.all_nil bK bO rv gOf AV.ren SV.ren LV.ren_v LV.ren_d LV.ren_sl LV.ren_p LV.ren_bf wJ LV.ren_any Blk.ren lz xg List.append_assoc Int.natCast_nonneg ge_iff_le gt_iff_lt List.getD_eq_getElem?_getD Option.getD_some PO.ret.injEq
attribute [go_sem] exists_eq_left exists_eq_left' exists_and_left exists_const sz_1 Mx sz_2 Oy Ja Kz sz_3 L5 KZ by_3 Ka kt_3 sz_4 NY
attribute [go_sem] sz_9 NP Ku Lv
attribute [go_sem] Og KG E4 Oi Dj DV Bz MO Iz
attribute [go_sem] EZ Nc
attribute [go_sem] JE En Oz Cm Ar BQ Aq B7 CA AQ Dd BL Ed Mk KR GO
attribute [go_sem] Nv KV Le MM JB EL N5 CB Bi CI
attribute [go_sem] Gv Oh D7
attribute [go_sem] MH KN Gd MB MP Dg Do
attribute [go_sem] AT AZ CH
attribute [go_sem] Gq Ol Jb FT
attribute [go_sem] F0 Lm DF DW Oo IX M6 J2 Mz
attribute [go_sem] Il I1 wR Ls Mt BA Co AL Ok
attribute [go_sem] L7 J0 GD Ly CR Az A9
attribute [go_sem] NG
attribute [go_sem] Km I0
attribute [go_sem] Jf EO DC JW x6 zE KB Fh AB
attribute [go_sem] Gp Io EB Be ED Fg K2 Je
attribute [go_sem] Cb Gg GT Gf Fi EV Dn IT F9 Gi GS Ag s7 DA uW yq tV qh zr pF tY
attribute [go_sem] wz CL BR A4 zQ Ef IB yOp js AV.pin SV.pin LV.pin wc Gb pK tS wK
attribute [go_sem_proc] Nat.reduceOr Nat.reducePow Nat.reduceDiv Nat.reduceMod Nat.reduceBEq Int.reduceBEq Int.reduceBNe Int.reduceEq Int.reduceLT Int.reduceLE Int.reduceToNat reduceIte reduceCtorEq Nat.reduceEqDiff Nat.reduceAdd Nat.reduceLT Nat.reduceLeDiff Nat.reduceMul Nat.reduceSub
end
section
open Go.RowKit
abbrev Lf (f:Func) (a:List AV) (r:PO):Prop:=SW Tryz.prog ⟨none,0⟩ f.ntmps (f.body.getD .skip) ⟨0,ag 0 a,[]⟩ (aH Tryz.prog f.results.toList r)
theorem Lf.go {f:Func} {n:Nat} {rs:Array ResultVar} {c:Code} {a:List AV} {r:PO} {ctx:Ctx Tryz.prog} (hn:f.ntmps=n) (hr:f.results=rs) (hb:f.body=some c) (h:bA Tryz.prog ctx ⟨none,0⟩ n 4000 [.c c] ⟨0,ag 0 a,[]⟩ (aH Tryz.prog rs.toList r)):Lf f a r:=by
 unfold Lf
 rw [hn,hr,hb]
 exact aa 4000 h
theorem Lf.eq {f:Func} {a:List AV} {r s:AV} (h:Lf f a (.ret r)) (e:s=r):Lf f a (.ret s):=e▸h
theorem b0 {a b:Int} (h:¬a=b):(a==b)=false:=by simpa using h
theorem b1 {a b:Int} (h:a=b):(a==b)=true:=by simpa using h
theorem n1 {a b:Int} (h:¬a=b):(a !=b)=true:=by simpa using h
theorem wr {n:Int} (h : -9223372036854775808≤n∧n≤9223372036854775807):IntKind.i64.wrap n=n:=by rw [IntKind.wrap_i64];omega
end
end Go.Proofs.YtpjlafmhoifkmaaGreat
