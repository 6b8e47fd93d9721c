import Derived.Test.YtpjlafmhoifkmaaGreatM41
import Derived.Test.YtpjlafmhoifkmaaGreatM42
import Derived.Test.YtpjlafmhoifkmaaGreatM28
import Derived.Test.YtpjlafmhoifkmaaGreatM11
set_option linter.unusedVariables false
set_option linter.unusedSimpArgs false
set_option maxRecDepth 100000
set_option maxHeartbeats 8000000
namespace Go.Proofs.YtpjlafmhoifkmaaGreat
section
open Go.RowKit
def wrC (x:Ins):St:=⟨5,[(1,.s (.l (.p 0 0 0))),(2,.s (.l (.p 1 0 0))),(3,bv false),(4,.s (.l (.p 2 0 0)))],[(0,some ⟨true,27,10,[az x]⟩),(1,some bQ),(2,some (pcK 3)),(3,some (wrK x emp 0 4)),(4,some (aD []))]⟩
theorem Jh (y x:Ins) (nm:ByteArray) (l:List OpV) (h:l.length≤1000):SW Tryz.prog ⟨none,3⟩ Tryz.f110.ntmps (Tryz.f110.body.getD .skip) ⟨4,ag 0 [.s (.l (.p 1 0 0)),.s (.l (.p 2 0 0))],cX 0 [wrK x nm l.length 3,pcK 0,gO y,aD l]⟩ (jq Tryz.prog Tryz.f110.results.toList 3 (sC (gO y) (ah y.rn false) (x,nm,l))):=by
 refine aa (ctx:=[]) 4000 ?_
 rw [Tryz.ntmps110,Tryz.results110]
 simp only [Tryz.f110,Option.getD_some,ag]
 simp only [go_sem,wrK,az,aD,pcK,gO]
 refine aP (ctx:=[⟨_,g9⟩,⟨_,fE⟩]) ak [4] (by kernel_rfl) ?_
 simp only [go_sem,cu,cv,ce,ca,opV,ah,oOf,op0,r0,opR,opE,emp,db,bp,aT,aq,xwT,bI,wrK,az,aD,dn,h]
 refine AD (kk:=gO y) (o:=ah y.rn false) (x:=x) (nm:=nm) (l:=l) (tb:=68) (fun _=>rfl) rfl ?_ ?_ ?_ ?_ (by decide)
 all_goals simp [hget,wrK,az,gO,pcK,aD,ah,oOf,op0,r0,emp]
def qg (y:Ins):Cst where
 g:=110
 kk:=gO y
 own:=rfl
 ren:=fun _=>rfl
 o:=ah y.rn false
 spec:=Ko _ _ _ Tryz.func110 rfl (fun _ _=>by go_simp) (gO y) (fun _=>rfl) rfl (ah y.rn false) (by rw [Tryz.ntmps110];decide) (fun x nm l h=>Jh y x nm l h)
 run_eq:=fun _ _ _=>rfl
 pan_eq:=fun _ _ _=>rfl
theorem HF (y x:Ins) (nm:ByteArray) (l:List OpV) (h:l.length≤1000):SW Tryz.prog ⟨none,3⟩ Tryz.f115.ntmps (Tryz.f115.body.getD .skip) ⟨4,ag 0 [.s (.l (.p 1 0 0)),.s (.l (.p 2 0 0))],cX 0 [wrK x nm l.length 3,pcK 0,gO y,aD l]⟩ (jq Tryz.prog Tryz.f115.results.toList 3 (sC (gO y) (oOf 4 (gt y.a)) (x,nm,l))):=by
 refine aa (ctx:=[]) 4000 ?_
 rw [Tryz.ntmps115,Tryz.results115]
 simp only [Tryz.f115,Option.getD_some,ag]
 simp only [go_sem,wrK,az,aD,pcK,gO]
 refine aP (ctx:=[⟨_,oi⟩,⟨_,ofS⟩,⟨_,fE⟩]) ak [5] (by kernel_rfl) ?_
 simp only [go_sem,rI,rz,fC,fF,ce,ca,opV,ah,oOf,op0,r0,opR,opE,emp,db,bp,aT,aq,xwT,bI,wrK,az,aD,dn,h]
 refine AD (kk:=gO y) (o:=oOf 4 (gt y.a)) (x:=x) (nm:=nm) (l:=l) (tb:=84) (fun _=>rfl) rfl ?_ ?_ ?_ ?_ (by decide)
 all_goals simp [hget,wrK,az,gO,pcK,aD,ah,oOf,op0,r0,emp]
def lW (y:Ins):Cst where
 g:=115
 kk:=gO y
 own:=rfl
 ren:=fun _=>rfl
 o:=oOf 4 (gt y.a)
 spec:=Ko _ _ _ Tryz.func115 rfl (fun _ _=>by go_simp) (gO y) (fun _=>rfl) rfl (oOf 4 (gt y.a)) (by rw [Tryz.ntmps115];decide) (fun x nm l h=>HF y x nm l h)
 run_eq:=fun _ _ _=>rfl
 pan_eq:=fun _ _ _=>rfl
attribute [local go_sem] ag wrA wrC az wrK aD bQ pcK gO aV bV bj bk jJ jL co bX iP bp aT aq aX ci kc gOf aH aF aI cn bF bh my lI ng mw kD jD lD kz nC gS iO kF jZ jN fA mK lO oC aL aK bU bW bu aC bm bD bE d9 ef ce ca db xwT xw0 bI opV opL cG ofD opR cy opE dO nO mO dL ah aw oOf op0 r0 emp oR oI lM jx alO ac
end
section
open Go.RowKit
def dP:Ctx Tryz.prog:=[⟨_,cL⟩,⟨_,bJ⟩,⟨_,ly⟩,⟨_,fE⟩,⟨_,NB⟩,⟨_,cI bG⟩]
theorem wbf0:aU true=1:=rfl
theorem wbf1:IntKind.i64.wrap ((32:Int)*1)=32:=by decide
theorem wbf2:IntKind.i64.wrap ((32:Int)+32)=64:=by decide
theorem wbf3:IntKind.i64.wrap ((64:Int)-1)=63:=by decide
theorem wbf4:aU false=0:=rfl
theorem wbf5:IntKind.i64.wrap ((32:Int)*0)=0:=by decide
theorem wbf6:IntKind.i64.wrap ((32:Int)+0)=32:=by decide
theorem wbf7:IntKind.i64.wrap ((32:Int)-1)=31:=by decide
theorem wbf8:IntKind.i64.wrap ((7:Int)+1)=8:=by decide
theorem wbf9:IntKind.i64.wrap ((15:Int)+1)=16:=by decide
attribute [local go_sem] ag wrA wrC az wrK aD bQ pcK gO aV bV bj bk jJ jL co bX iP bp aT aq aX ci kc gOf aH aF aI cn bF bh my lI ng mw kD jD lD kz nC gS iO kF jZ jN fA mK lO oC aL aK bU bW bu aC bm bD bE d9 ef ce ca db xwT xw0 bI opV opL cG ofD opR cy opE dO nO mO dL ah aw oOf op0 r0 emp oR oI lM jx alO ac dP wbf0 wbf1 wbf2 wbf3 wbf4 wbf5 wbf6 wbf7 wbf8 wbf9 jI jK kV nh qf pX sxQ sxF Sx.q Sx.F qg lW List.nodup_cons List.nodup_nil List.mem_cons List.not_mem_nil List.mem_nil_iff or_false false_or or_self not_false_eq_true and_self true_and and_true
theorem bfP {x:Ins} {r:PO} {n:Nat} {rs:Array ResultVar} {ctx:Ctx Tryz.prog} {c0 c1 c:Code} (hn:Tryz.f47.ntmps=n) (hr:Tryz.f47.results=rs) (hb:Tryz.f47.body=some (.seq c0 (.seq c1 c))) (h:bS Tryz.prog ctx ⟨none,0⟩ n 4000 [.c c] (wrC x) (ax Tryz.prog rs.toList r)):Lf Tryz.f47 [(ai ac).enc x] r:=by
 subst hn
 rw [Tryz.ntmps47] at h
 unfold Lf
 rw [Tryz.ntmps47,hr,hb]
 simp only [Tryz.f47] at hb
 injection hb with hb
 injection hb with ha hb
 injection hb with hb hc
 subst ha hb hc
 simp only [Option.getD_some,ag]
 refine aE (aa (ctx:=[]) 4000 ?_)
 simp only [go_sem,aS,ac]
 refine aE (aa (ctx:=[]) 4000 ?_)
 simp only [go_sem,aS]
 refine SW.wk (s':=wrC x) ?_ ((Wk.nilC 80 11 40 15 (k:=⟨true,68,12,[az x++[.v (.string emp),.v (.slice none 0 0)]]⟩) rfl rfl rfl).trans (Wk.renL [0,16,96,80,128] (by simp) (by simp [wrC]) (by decide) rfl rfl))
 exact aa 4000 h
theorem Rm (ss:Bool) (rd rn rm ra a:Int):Lf Tryz.f47 [(ai ac).enc ⟨5,true,ss,rd,rn,rm,ra,a,0,63⟩] (.ret (alO (.ln ((⟨#[97,115,114]⟩:ByteArray),[ah rd true,ah rn true,aw a]) true))):=by
 refine bfP (ctx:=dP) Tryz.ntmps47 Tryz.results47 rfl ?_
 simp only [go_sem]
theorem Rz (ss:Bool) (rd rn rm ra:Int):Lf Tryz.f47 [(ai ac).enc ⟨5,true,ss,rd,rn,rm,ra,0,0,7⟩] (.ret (alO (.ln ((⟨#[115,120,116,98]⟩:ByteArray),[ah rd true,ah rn false]) true))):=by
 refine bfP (ctx:=[⟨_,cL⟩,⟨_,bJ⟩,⟨_,dk bG (qg ⟨5,true,ss,rd,rn,rm,ra,0,0,7⟩)⟩]) Tryz.ntmps47 Tryz.results47 rfl ?_
 have hsh:Int.fdiv 7 (2 ^ min 3 64)=0:=rfl
 have hpk:ae 0 [(⟨#[115,120,116,98]⟩:ByteArray),(⟨#[115,120,116,104]⟩:ByteArray),(⟨#[]⟩:ByteArray),(⟨#[115,120,116,119]⟩:ByteArray)]=(⟨#[115,120,116,98]⟩:ByteArray):=by decide
 simp only [go_sem,hsh,hpk]
 refine ab (ctx:=[⟨_,cL⟩,⟨_,bJ⟩,⟨_,dk bG (qg ⟨5,true,ss,rd,rn,rm,ra,0,0,7⟩)⟩]) ak ⟨[10,11],[(5,[693])],[(0,[693]),(6,[693]),(7,[693]),(8,[693]),(9,[693])]⟩ (by kernel_rfl) ?_
 simp only [go_sem,hsh,hpk]
theorem Na (ss:Bool) (rd rn rm ra:Int):Lf Tryz.f47 [(ai ac).enc ⟨5,true,ss,rd,rn,rm,ra,0,0,15⟩] (.ret (alO (.ln ((⟨#[115,120,116,104]⟩:ByteArray),[ah rd true,ah rn false]) true))):=by
 refine bfP (ctx:=[⟨_,cL⟩,⟨_,bJ⟩,⟨_,dk bG (qg ⟨5,true,ss,rd,rn,rm,ra,0,0,15⟩)⟩]) Tryz.ntmps47 Tryz.results47 rfl ?_
 have hsh:Int.fdiv 15 (2 ^ min 3 64)=1:=rfl
 have hpk:ae 1 [(⟨#[115,120,116,98]⟩:ByteArray),(⟨#[115,120,116,104]⟩:ByteArray),(⟨#[]⟩:ByteArray),(⟨#[115,120,116,119]⟩:ByteArray)]=(⟨#[115,120,116,104]⟩:ByteArray):=by decide
 simp only [go_sem,hsh,hpk]
 refine ab (ctx:=[⟨_,cL⟩,⟨_,bJ⟩,⟨_,dk bG (qg ⟨5,true,ss,rd,rn,rm,ra,0,0,15⟩)⟩]) ak ⟨[10,11],[(5,[741])],[(0,[741]),(6,[741]),(7,[741]),(8,[741]),(9,[741])]⟩ (by kernel_rfl) ?_
 simp only [go_sem,hsh,hpk]
theorem Np (ss:Bool) (rd rn rm ra:Int):Lf Tryz.f47 [(ai ac).enc ⟨5,true,ss,rd,rn,rm,ra,0,0,31⟩] (.ret (alO (.ln ((⟨#[115,120,116,119]⟩:ByteArray),[ah rd true,ah rn false]) true))):=by
 refine bfP (ctx:=[⟨_,cL⟩,⟨_,bJ⟩,⟨_,dk bG (qg ⟨5,true,ss,rd,rn,rm,ra,0,0,31⟩)⟩]) Tryz.ntmps47 Tryz.results47 rfl ?_
 have hsh:Int.fdiv 31 (2 ^ min 3 64)=3:=rfl
 have hpk:ae 3 [(⟨#[115,120,116,98]⟩:ByteArray),(⟨#[115,120,116,104]⟩:ByteArray),(⟨#[]⟩:ByteArray),(⟨#[115,120,116,119]⟩:ByteArray)]=(⟨#[115,120,116,119]⟩:ByteArray):=by decide
 simp only [go_sem,hsh,hpk]
 refine ab (ctx:=[⟨_,cL⟩,⟨_,bJ⟩,⟨_,dk bG (qg ⟨5,true,ss,rd,rn,rm,ra,0,0,31⟩)⟩]) ak ⟨[10,11],[(5,[789])],[(0,[789]),(6,[789]),(7,[789]),(8,[789]),(9,[789])]⟩ (by kernel_rfl) ?_
 simp only [go_sem,hsh,hpk]
theorem RA (ss:Bool) (rd rn rm ra a c:Int) (ha:0≤a∧a≤63) (hc:0≤c∧c≤63) (hf:¬c=63) (hl:c<a):Lf Tryz.f47 [(ai ac).enc ⟨5,true,ss,rd,rn,rm,ra,a,0,c⟩] (.ret (alO (.ln ((⟨#[115,98,102,105,122]⟩:ByteArray),[ah rd true,ah rn true,aw (64-a),aw (c+1)]) true))):=by
 refine bfP (ctx:=dP) Tryz.ntmps47 Tryz.results47 rfl ?_
 have k2:(a==(0:Int))=false:=b0 (by omega)
 have hfv:FdV.F (⟨(⟨#[115,98,102,105,122]⟩:ByteArray),(⟨#[115,98,102,120]⟩:ByteArray),64,true⟩:FdV) ⟨5,true,ss,rd,rn,rm,ra,a,0,c⟩=((⟨#[115,98,102,105,122]⟩:ByteArray),[ah rd true,ah rn true,aw (64-a),aw (c+1)]):=by simp only [FdV.F,dy];first | (rw [if_pos (by omega)];rfl) | (rw [if_neg (by omega)];rfl)
 have hfq:fdQ ((⟨(⟨#[115,98,102,105,122]⟩:ByteArray),(⟨#[115,98,102,120]⟩:ByteArray),64,true⟩:FdV),⟨5,true,ss,rd,rn,rm,ra,a,0,c⟩):=by unfold fdQ;simp only [];omega
 simp only [go_sem,b0 hf,k2,hfv,hfq]
theorem OI (ss:Bool) (rd rn rm ra c:Int) (hc:0≤c∧c≤63) (hf:¬c=63) (hz:¬c=7∧¬c=15∧¬c=31):Lf Tryz.f47 [(ai ac).enc ⟨5,true,ss,rd,rn,rm,ra,0,0,c⟩] (.ret (alO (.ln ((⟨#[115,98,102,120]⟩:ByteArray),[ah rd true,ah rn true,aw 0,aw (c-0+1)]) true))):=by
 refine bfP (ctx:=dP) Tryz.ntmps47 Tryz.results47 rfl ?_
 have hfv:FdV.F (⟨(⟨#[115,98,102,105,122]⟩:ByteArray),(⟨#[115,98,102,120]⟩:ByteArray),64,true⟩:FdV) ⟨5,true,ss,rd,rn,rm,ra,0,0,c⟩=((⟨#[115,98,102,120]⟩:ByteArray),[ah rd true,ah rn true,aw 0,aw (c-0+1)]):=by simp only [FdV.F,dy];first | (rw [if_pos (by omega)];rfl) | (rw [if_neg (by omega)];rfl)
 have hfq:fdQ ((⟨(⟨#[115,98,102,105,122]⟩:ByteArray),(⟨#[115,98,102,120]⟩:ByteArray),64,true⟩:FdV),⟨5,true,ss,rd,rn,rm,ra,0,0,c⟩):=by unfold fdQ;simp only [];omega
 simp only [go_sem,b0 hf,b0 hz.1,b0 hz.2.1,b0 hz.2.2,hfv,hfq]
theorem Rw (ss:Bool) (rd rn rm ra a c:Int) (ha:0≤a∧a≤63) (hc:0≤c∧c≤63) (hf:¬c=63) (h0:¬a=0) (hl:¬c<a):Lf Tryz.f47 [(ai ac).enc ⟨5,true,ss,rd,rn,rm,ra,a,0,c⟩] (.ret (alO (.ln ((⟨#[115,98,102,120]⟩:ByteArray),[ah rd true,ah rn true,aw a,aw (c-a+1)]) true))):=by
 refine bfP (ctx:=dP) Tryz.ntmps47 Tryz.results47 rfl ?_
 have hfv:FdV.F (⟨(⟨#[115,98,102,105,122]⟩:ByteArray),(⟨#[115,98,102,120]⟩:ByteArray),64,true⟩:FdV) ⟨5,true,ss,rd,rn,rm,ra,a,0,c⟩=((⟨#[115,98,102,120]⟩:ByteArray),[ah rd true,ah rn true,aw a,aw (c-a+1)]):=by simp only [FdV.F,dy];first | (rw [if_pos (by omega)];rfl) | (rw [if_neg (by omega)];rfl)
 have hfq:fdQ ((⟨(⟨#[115,98,102,105,122]⟩:ByteArray),(⟨#[115,98,102,120]⟩:ByteArray),64,true⟩:FdV),⟨5,true,ss,rd,rn,rm,ra,a,0,c⟩):=by unfold fdQ;simp only [];omega
 simp only [go_sem,b0 hf,b0 h0,hfv,hfq]
theorem Ou (ss:Bool) (rd rm ra a c:Int) (ha:0≤a∧a≤63) (hc:0≤c∧c≤63) (hl:c<a):Lf Tryz.f47 [(ai ac).enc ⟨5,true,ss,rd,31,rm,ra,a,1,c⟩] (.ret (alO (.ln ((⟨#[98,102,99]⟩:ByteArray),[ah rd true,aw (64-a),aw (c+1)]) true))):=by
 refine bfP (ctx:=dP) Tryz.ntmps47 Tryz.results47 rfl ?_
 have hfv:FdV.F (⟨(⟨#[98,102,99]⟩:ByteArray),(⟨#[98,102,120,105,108]⟩:ByteArray),64,false⟩:FdV) ⟨5,true,ss,rd,31,rm,ra,a,1,c⟩=((⟨#[98,102,99]⟩:ByteArray),[ah rd true,aw (64-a),aw (c+1)]):=by simp only [FdV.F,dy];first | (rw [if_pos (by omega)];rfl) | (rw [if_neg (by omega)];rfl)
 have hfq:fdQ ((⟨(⟨#[98,102,99]⟩:ByteArray),(⟨#[98,102,120,105,108]⟩:ByteArray),64,false⟩:FdV),⟨5,true,ss,rd,31,rm,ra,a,1,c⟩):=by unfold fdQ;simp only [];omega
 have hp2:ae 1 [(⟨#[98,102,105]⟩:ByteArray),(⟨#[98,102,99]⟩:ByteArray)]=(⟨#[98,102,99]⟩:ByteArray):=by decide
 have hf1:aU true=1:=rfl
 have hf0:aU false=0:=rfl
 simp only [go_sem,hl,hfv,hfq,hp2,hf1,hf0]
 refine ab (ctx:=dP) ak ⟨[8,9],[(4,[805])],[(0,[805]),(5,[805]),(6,[805]),(7,[805])]⟩ (by kernel_rfl) ?_
 simp only [go_sem,hl,hfv,hfq,hp2,hf1,hf0]
theorem OJ (ss:Bool) (rd rn rm ra a c:Int) (ha:0≤a∧a≤63) (hc:0≤c∧c≤63) (hl:c<a) (hn:¬rn=31):Lf Tryz.f47 [(ai ac).enc ⟨5,true,ss,rd,rn,rm,ra,a,1,c⟩] (.ret (alO (.ln ((⟨#[98,102,105]⟩:ByteArray),[ah rd true,ah rn true,aw (64-a),aw (c+1)]) true))):=by
 refine bfP (ctx:=dP) Tryz.ntmps47 Tryz.results47 rfl ?_
 have hfv:FdV.F (⟨(⟨#[98,102,105]⟩:ByteArray),(⟨#[98,102,120,105,108]⟩:ByteArray),64,true⟩:FdV) ⟨5,true,ss,rd,rn,rm,ra,a,1,c⟩=((⟨#[98,102,105]⟩:ByteArray),[ah rd true,ah rn true,aw (64-a),aw (c+1)]):=by simp only [FdV.F,dy];first | (rw [if_pos (by omega)];rfl) | (rw [if_neg (by omega)];rfl)
 have hfq:fdQ ((⟨(⟨#[98,102,105]⟩:ByteArray),(⟨#[98,102,120,105,108]⟩:ByteArray),64,true⟩:FdV),⟨5,true,ss,rd,rn,rm,ra,a,1,c⟩):=by unfold fdQ;simp only [];omega
 have hp2:ae 0 [(⟨#[98,102,105]⟩:ByteArray),(⟨#[98,102,99]⟩:ByteArray)]=(⟨#[98,102,105]⟩:ByteArray):=by decide
 have hf1:aU true=1:=rfl
 have hf0:aU false=0:=rfl
 simp only [go_sem,hl,b0 hn,hfv,hfq,hp2,hf1,hf0]
 refine ab (ctx:=dP) ak ⟨[8,9],[(4,[805])],[(0,[805]),(5,[805]),(6,[805]),(7,[805])]⟩ (by kernel_rfl) ?_
 simp only [go_sem,hl,b0 hn,hfv,hfq,hp2,hf1,hf0]
theorem Qg (ss:Bool) (rd rn rm ra a c:Int) (ha:0≤a∧a≤63) (hc:0≤c∧c≤63) (hl:¬c<a):Lf Tryz.f47 [(ai ac).enc ⟨5,true,ss,rd,rn,rm,ra,a,1,c⟩] (.ret (alO (.ln ((⟨#[98,102,120,105,108]⟩:ByteArray),[ah rd true,ah rn true,aw a,aw (c-a+1)]) true))):=by
 refine bfP (ctx:=dP) Tryz.ntmps47 Tryz.results47 rfl ?_
 have hfv:FdV.F (⟨(⟨#[98,102,105]⟩:ByteArray),(⟨#[98,102,120,105,108]⟩:ByteArray),64,true⟩:FdV) ⟨5,true,ss,rd,rn,rm,ra,a,1,c⟩=((⟨#[98,102,120,105,108]⟩:ByteArray),[ah rd true,ah rn true,aw a,aw (c-a+1)]):=by simp only [FdV.F,dy];first | (rw [if_pos (by omega)];rfl) | (rw [if_neg (by omega)];rfl)
 have hfq:fdQ ((⟨(⟨#[98,102,105]⟩:ByteArray),(⟨#[98,102,120,105,108]⟩:ByteArray),64,true⟩:FdV),⟨5,true,ss,rd,rn,rm,ra,a,1,c⟩):=by unfold fdQ;simp only [];omega
 have hp2:ae 0 [(⟨#[98,102,105]⟩:ByteArray),(⟨#[98,102,99]⟩:ByteArray)]=(⟨#[98,102,105]⟩:ByteArray):=by decide
 have hf1:aU true=1:=rfl
 have hf0:aU false=0:=rfl
 simp only [go_sem,hl,hfv,hfq,hp2,hf1,hf0]
 refine ab (ctx:=dP) ak ⟨[8,9],[(4,[757])],[(0,[757]),(5,[757]),(6,[757]),(7,[757])]⟩ (by kernel_rfl) ?_
 simp only [go_sem,hl,hfv,hfq,hp2,hf1,hf0]
theorem O5 (ss:Bool) (rd rn rm ra a:Int):Lf Tryz.f47 [(ai ac).enc ⟨5,true,ss,rd,rn,rm,ra,a,2,63⟩] (.ret (alO (.ln ((⟨#[108,115,114]⟩:ByteArray),[ah rd true,ah rn true,aw a]) true))):=by
 refine bfP (ctx:=dP) Tryz.ntmps47 Tryz.results47 rfl ?_
 simp only [go_sem]
theorem OL (ss:Bool) (rd rn rm ra a c:Int) (ha:0≤a∧a≤63) (hc:0≤c∧c≤63) (hf:¬c=63) (hs:c+1=a):Lf Tryz.f47 [(ai ac).enc ⟨5,true,ss,rd,rn,rm,ra,a,2,c⟩] (.ret (alO (.ln ((⟨#[108,115,108]⟩:ByteArray),[ah rd true,ah rn true,aw (64-a)]) true))):=by
 refine bfP (ctx:=dP) Tryz.ntmps47 Tryz.results47 rfl ?_
 have k2:IntKind.i64.wrap (c+1)=c+1:=wr (by omega)
 have k3:((c+1)==(a:Int))=true:=b1 (by omega)
 have k4:IntKind.i64.wrap (64-a)=64-a:=wr (by omega)
 simp only [go_sem,b0 hf,k2,k3,k4]
 refine ab (ctx:=dP) ak ⟨[6],[],[]⟩ (by kernel_rfl) ?_
 simp only [go_sem,b0 hf,k2,k3,k4]
theorem Pf (ss:Bool) (rd rn rm ra c:Int) (hc:0≤c∧c≤63) (hf:¬c=63):Lf Tryz.f47 [(ai ac).enc ⟨5,true,ss,rd,rn,rm,ra,0,2,c⟩] (.ret (alO (.ln ((⟨#[117,98,102,120]⟩:ByteArray),[ah rd true,ah rn true,aw 0,aw (c-0+1)]) true))):=by
 refine bfP (ctx:=dP) Tryz.ntmps47 Tryz.results47 rfl ?_
 have k2:IntKind.i64.wrap (c+1)=c+1:=wr (by omega)
 have k3:((c+1)==(0:Int))=false:=b0 (by omega)
 have hfv:FdV.F (⟨(⟨#[117,98,102,105,122]⟩:ByteArray),(⟨#[117,98,102,120]⟩:ByteArray),64,true⟩:FdV) ⟨5,true,ss,rd,rn,rm,ra,0,2,c⟩=((⟨#[117,98,102,120]⟩:ByteArray),[ah rd true,ah rn true,aw 0,aw (c-0+1)]):=by simp only [FdV.F,dy];first | (rw [if_pos (by omega)];rfl) | (rw [if_neg (by omega)];rfl)
 have hfq:fdQ ((⟨(⟨#[117,98,102,105,122]⟩:ByteArray),(⟨#[117,98,102,120]⟩:ByteArray),64,true⟩:FdV),⟨5,true,ss,rd,rn,rm,ra,0,2,c⟩):=by unfold fdQ;simp only [];omega
 simp only [go_sem,b0 hf,k2,k3,hfv,hfq]
theorem QO (ss:Bool) (rd rn rm ra a c:Int) (ha:0≤a∧a≤63) (hc:0≤c∧c≤63) (hf:¬c=63) (hs:¬c+1=a) (hl:c<a):Lf Tryz.f47 [(ai ac).enc ⟨5,true,ss,rd,rn,rm,ra,a,2,c⟩] (.ret (alO (.ln ((⟨#[117,98,102,105,122]⟩:ByteArray),[ah rd true,ah rn true,aw (64-a),aw (c+1)]) true))):=by
 refine bfP (ctx:=dP) Tryz.ntmps47 Tryz.results47 rfl ?_
 have k2:IntKind.i64.wrap (c+1)=c+1:=wr (by omega)
 have k3:((c+1)==(a:Int))=false:=b0 (by omega)
 have k4:(a==(0:Int))=false:=b0 (by omega)
 have hfv:FdV.F (⟨(⟨#[117,98,102,105,122]⟩:ByteArray),(⟨#[117,98,102,120]⟩:ByteArray),64,true⟩:FdV) ⟨5,true,ss,rd,rn,rm,ra,a,2,c⟩=((⟨#[117,98,102,105,122]⟩:ByteArray),[ah rd true,ah rn true,aw (64-a),aw (c+1)]):=by simp only [FdV.F,dy];first | (rw [if_pos (by omega)];rfl) | (rw [if_neg (by omega)];rfl)
 have hfq:fdQ ((⟨(⟨#[117,98,102,105,122]⟩:ByteArray),(⟨#[117,98,102,120]⟩:ByteArray),64,true⟩:FdV),⟨5,true,ss,rd,rn,rm,ra,a,2,c⟩):=by unfold fdQ;simp only [];omega
 simp only [go_sem,b0 hf,k2,k3,k4,hfv,hfq]
theorem Pb (ss:Bool) (rd rn rm ra a c:Int) (ha:0≤a∧a≤63) (hc:0≤c∧c≤63) (hf:¬c=63) (h0:¬a=0) (hl:¬c<a):Lf Tryz.f47 [(ai ac).enc ⟨5,true,ss,rd,rn,rm,ra,a,2,c⟩] (.ret (alO (.ln ((⟨#[117,98,102,120]⟩:ByteArray),[ah rd true,ah rn true,aw a,aw (c-a+1)]) true))):=by
 refine bfP (ctx:=dP) Tryz.ntmps47 Tryz.results47 rfl ?_
 have k2:IntKind.i64.wrap (c+1)=c+1:=wr (by omega)
 have k3:((c+1)==(a:Int))=false:=b0 (by omega)
 have hfv:FdV.F (⟨(⟨#[117,98,102,105,122]⟩:ByteArray),(⟨#[117,98,102,120]⟩:ByteArray),64,true⟩:FdV) ⟨5,true,ss,rd,rn,rm,ra,a,2,c⟩=((⟨#[117,98,102,120]⟩:ByteArray),[ah rd true,ah rn true,aw a,aw (c-a+1)]):=by simp only [FdV.F,dy];first | (rw [if_pos (by omega)];rfl) | (rw [if_neg (by omega)];rfl)
 have hfq:fdQ ((⟨(⟨#[117,98,102,105,122]⟩:ByteArray),(⟨#[117,98,102,120]⟩:ByteArray),64,true⟩:FdV),⟨5,true,ss,rd,rn,rm,ra,a,2,c⟩):=by unfold fdQ;simp only [];omega
 simp only [go_sem,b0 hf,k2,k3,b0 h0,hfv,hfq]
theorem pb0f (ss:Bool) (rd rn rm ra a:Int):Lf Tryz.f47 [(ai ac).enc ⟨5,false,ss,rd,rn,rm,ra,a,0,31⟩] (.ret (alO (.ln ((⟨#[97,115,114]⟩:ByteArray),[ah rd false,ah rn false,aw a]) true))):=by
 refine bfP (ctx:=dP) Tryz.ntmps47 Tryz.results47 rfl ?_
 simp only [go_sem]
theorem pb07 (ss:Bool) (rd rn rm ra:Int):Lf Tryz.f47 [(ai ac).enc ⟨5,false,ss,rd,rn,rm,ra,0,0,7⟩] (.ret (alO (.ln ((⟨#[115,120,116,98]⟩:ByteArray),[ah rd false,ah rn false]) true))):=by
 refine bfP (ctx:=[⟨_,cL⟩,⟨_,bJ⟩,⟨_,dk bG (qg ⟨5,false,ss,rd,rn,rm,ra,0,0,7⟩)⟩]) Tryz.ntmps47 Tryz.results47 rfl ?_
 have hsh:Int.fdiv 7 (2 ^ min 3 64)=0:=rfl
 have hpk:ae 0 [(⟨#[115,120,116,98]⟩:ByteArray),(⟨#[115,120,116,104]⟩:ByteArray),(⟨#[]⟩:ByteArray),(⟨#[115,120,116,119]⟩:ByteArray)]=(⟨#[115,120,116,98]⟩:ByteArray):=by decide
 simp only [go_sem,hsh,hpk]
 refine ab (ctx:=[⟨_,cL⟩,⟨_,bJ⟩,⟨_,dk bG (qg ⟨5,false,ss,rd,rn,rm,ra,0,0,7⟩)⟩]) ak ⟨[10,11],[(5,[693])],[(0,[693]),(6,[693]),(7,[693]),(8,[693]),(9,[693])]⟩ (by kernel_rfl) ?_
 simp only [go_sem,hsh,hpk]
theorem P6 (ss:Bool) (rd rn rm ra:Int):Lf Tryz.f47 [(ai ac).enc ⟨5,false,ss,rd,rn,rm,ra,0,0,15⟩] (.ret (alO (.ln ((⟨#[115,120,116,104]⟩:ByteArray),[ah rd false,ah rn false]) true))):=by
 refine bfP (ctx:=[⟨_,cL⟩,⟨_,bJ⟩,⟨_,dk bG (qg ⟨5,false,ss,rd,rn,rm,ra,0,0,15⟩)⟩]) Tryz.ntmps47 Tryz.results47 rfl ?_
 have hsh:Int.fdiv 15 (2 ^ min 3 64)=1:=rfl
 have hpk:ae 1 [(⟨#[115,120,116,98]⟩:ByteArray),(⟨#[115,120,116,104]⟩:ByteArray),(⟨#[]⟩:ByteArray),(⟨#[115,120,116,119]⟩:ByteArray)]=(⟨#[115,120,116,104]⟩:ByteArray):=by decide
 simp only [go_sem,hsh,hpk]
 refine ab (ctx:=[⟨_,cL⟩,⟨_,bJ⟩,⟨_,dk bG (qg ⟨5,false,ss,rd,rn,rm,ra,0,0,15⟩)⟩]) ak ⟨[10,11],[(5,[741])],[(0,[741]),(6,[741]),(7,[741]),(8,[741]),(9,[741])]⟩ (by kernel_rfl) ?_
 simp only [go_sem,hsh,hpk]
theorem pb0l (ss:Bool) (rd rn rm ra a c:Int) (ha:0≤a∧a≤63) (hc:0≤c∧c≤63) (hf:¬c=31) (hl:c<a):Lf Tryz.f47 [(ai ac).enc ⟨5,false,ss,rd,rn,rm,ra,a,0,c⟩] (.ret (alO (.ln ((⟨#[115,98,102,105,122]⟩:ByteArray),[ah rd false,ah rn false,aw (32-a),aw (c+1)]) true))):=by
 refine bfP (ctx:=dP) Tryz.ntmps47 Tryz.results47 rfl ?_
 have k2:(a==(0:Int))=false:=b0 (by omega)
 have hfv:FdV.F (⟨(⟨#[115,98,102,105,122]⟩:ByteArray),(⟨#[115,98,102,120]⟩:ByteArray),32,true⟩:FdV) ⟨5,false,ss,rd,rn,rm,ra,a,0,c⟩=((⟨#[115,98,102,105,122]⟩:ByteArray),[ah rd false,ah rn false,aw (32-a),aw (c+1)]):=by simp only [FdV.F,dy];first | (rw [if_pos (by omega)];rfl) | (rw [if_neg (by omega)];rfl)
 have hfq:fdQ ((⟨(⟨#[115,98,102,105,122]⟩:ByteArray),(⟨#[115,98,102,120]⟩:ByteArray),32,true⟩:FdV),⟨5,false,ss,rd,rn,rm,ra,a,0,c⟩):=by unfold fdQ;simp only [];omega
 simp only [go_sem,b0 hf,k2,hfv,hfq]
theorem pb0z (ss:Bool) (rd rn rm ra c:Int) (hc:0≤c∧c≤63) (hf:¬c=31) (hz:¬c=7∧¬c=15∧¬c=31):Lf Tryz.f47 [(ai ac).enc ⟨5,false,ss,rd,rn,rm,ra,0,0,c⟩] (.ret (alO (.ln ((⟨#[115,98,102,120]⟩:ByteArray),[ah rd false,ah rn false,aw 0,aw (c-0+1)]) true))):=by
 refine bfP (ctx:=dP) Tryz.ntmps47 Tryz.results47 rfl ?_
 have hfv:FdV.F (⟨(⟨#[115,98,102,105,122]⟩:ByteArray),(⟨#[115,98,102,120]⟩:ByteArray),32,true⟩:FdV) ⟨5,false,ss,rd,rn,rm,ra,0,0,c⟩=((⟨#[115,98,102,120]⟩:ByteArray),[ah rd false,ah rn false,aw 0,aw (c-0+1)]):=by simp only [FdV.F,dy];first | (rw [if_pos (by omega)];rfl) | (rw [if_neg (by omega)];rfl)
 have hfq:fdQ ((⟨(⟨#[115,98,102,105,122]⟩:ByteArray),(⟨#[115,98,102,120]⟩:ByteArray),32,true⟩:FdV),⟨5,false,ss,rd,rn,rm,ra,0,0,c⟩):=by unfold fdQ;simp only [];omega
 simp only [go_sem,b0 hz.2.2,b0 hz.1,b0 hz.2.1,hfv,hfq]
theorem pb0g (ss:Bool) (rd rn rm ra a c:Int) (ha:0≤a∧a≤63) (hc:0≤c∧c≤63) (hf:¬c=31) (h0:¬a=0) (hl:¬c<a):Lf Tryz.f47 [(ai ac).enc ⟨5,false,ss,rd,rn,rm,ra,a,0,c⟩] (.ret (alO (.ln ((⟨#[115,98,102,120]⟩:ByteArray),[ah rd false,ah rn false,aw a,aw (c-a+1)]) true))):=by
 refine bfP (ctx:=dP) Tryz.ntmps47 Tryz.results47 rfl ?_
 have hfv:FdV.F (⟨(⟨#[115,98,102,105,122]⟩:ByteArray),(⟨#[115,98,102,120]⟩:ByteArray),32,true⟩:FdV) ⟨5,false,ss,rd,rn,rm,ra,a,0,c⟩=((⟨#[115,98,102,120]⟩:ByteArray),[ah rd false,ah rn false,aw a,aw (c-a+1)]):=by simp only [FdV.F,dy];first | (rw [if_pos (by omega)];rfl) | (rw [if_neg (by omega)];rfl)
 have hfq:fdQ ((⟨(⟨#[115,98,102,105,122]⟩:ByteArray),(⟨#[115,98,102,120]⟩:ByteArray),32,true⟩:FdV),⟨5,false,ss,rd,rn,rm,ra,a,0,c⟩):=by unfold fdQ;simp only [];omega
 simp only [go_sem,b0 hf,b0 h0,hfv,hfq]
theorem pb1z (ss:Bool) (rd rm ra a c:Int) (ha:0≤a∧a≤63) (hc:0≤c∧c≤63) (hl:c<a):Lf Tryz.f47 [(ai ac).enc ⟨5,false,ss,rd,31,rm,ra,a,1,c⟩] (.ret (alO (.ln ((⟨#[98,102,99]⟩:ByteArray),[ah rd false,aw (32-a),aw (c+1)]) true))):=by
 refine bfP (ctx:=dP) Tryz.ntmps47 Tryz.results47 rfl ?_
 have hfv:FdV.F (⟨(⟨#[98,102,99]⟩:ByteArray),(⟨#[98,102,120,105,108]⟩:ByteArray),32,false⟩:FdV) ⟨5,false,ss,rd,31,rm,ra,a,1,c⟩=((⟨#[98,102,99]⟩:ByteArray),[ah rd false,aw (32-a),aw (c+1)]):=by simp only [FdV.F,dy];first | (rw [if_pos (by omega)];rfl) | (rw [if_neg (by omega)];rfl)
 have hfq:fdQ ((⟨(⟨#[98,102,99]⟩:ByteArray),(⟨#[98,102,120,105,108]⟩:ByteArray),32,false⟩:FdV),⟨5,false,ss,rd,31,rm,ra,a,1,c⟩):=by unfold fdQ;simp only [];omega
 have hp2:ae 1 [(⟨#[98,102,105]⟩:ByteArray),(⟨#[98,102,99]⟩:ByteArray)]=(⟨#[98,102,99]⟩:ByteArray):=by decide
 have hf1:aU true=1:=rfl
 have hf0:aU false=0:=rfl
 simp only [go_sem,hl,hfv,hfq,hp2,hf1,hf0]
 refine ab (ctx:=dP) ak ⟨[8,9],[(4,[805])],[(0,[805]),(5,[805]),(6,[805]),(7,[805])]⟩ (by kernel_rfl) ?_
 simp only [go_sem,hl,hfv,hfq,hp2,hf1,hf0]
theorem pb1l (ss:Bool) (rd rn rm ra a c:Int) (ha:0≤a∧a≤63) (hc:0≤c∧c≤63) (hl:c<a) (hn:¬rn=31):Lf Tryz.f47 [(ai ac).enc ⟨5,false,ss,rd,rn,rm,ra,a,1,c⟩] (.ret (alO (.ln ((⟨#[98,102,105]⟩:ByteArray),[ah rd false,ah rn false,aw (32-a),aw (c+1)]) true))):=by
 refine bfP (ctx:=dP) Tryz.ntmps47 Tryz.results47 rfl ?_
 have hfv:FdV.F (⟨(⟨#[98,102,105]⟩:ByteArray),(⟨#[98,102,120,105,108]⟩:ByteArray),32,true⟩:FdV) ⟨5,false,ss,rd,rn,rm,ra,a,1,c⟩=((⟨#[98,102,105]⟩:ByteArray),[ah rd false,ah rn false,aw (32-a),aw (c+1)]):=by simp only [FdV.F,dy];first | (rw [if_pos (by omega)];rfl) | (rw [if_neg (by omega)];rfl)
 have hfq:fdQ ((⟨(⟨#[98,102,105]⟩:ByteArray),(⟨#[98,102,120,105,108]⟩:ByteArray),32,true⟩:FdV),⟨5,false,ss,rd,rn,rm,ra,a,1,c⟩):=by unfold fdQ;simp only [];omega
 have hp2:ae 0 [(⟨#[98,102,105]⟩:ByteArray),(⟨#[98,102,99]⟩:ByteArray)]=(⟨#[98,102,105]⟩:ByteArray):=by decide
 have hf1:aU true=1:=rfl
 have hf0:aU false=0:=rfl
 simp only [go_sem,hl,b0 hn,hfv,hfq,hp2,hf1,hf0]
 refine ab (ctx:=dP) ak ⟨[8,9],[(4,[805])],[(0,[805]),(5,[805]),(6,[805]),(7,[805])]⟩ (by kernel_rfl) ?_
 simp only [go_sem,hl,b0 hn,hfv,hfq,hp2,hf1,hf0]
theorem pb1g (ss:Bool) (rd rn rm ra a c:Int) (ha:0≤a∧a≤63) (hc:0≤c∧c≤63) (hl:¬c<a):Lf Tryz.f47 [(ai ac).enc ⟨5,false,ss,rd,rn,rm,ra,a,1,c⟩] (.ret (alO (.ln ((⟨#[98,102,120,105,108]⟩:ByteArray),[ah rd false,ah rn false,aw a,aw (c-a+1)]) true))):=by
 refine bfP (ctx:=dP) Tryz.ntmps47 Tryz.results47 rfl ?_
 have hfv:FdV.F (⟨(⟨#[98,102,105]⟩:ByteArray),(⟨#[98,102,120,105,108]⟩:ByteArray),32,true⟩:FdV) ⟨5,false,ss,rd,rn,rm,ra,a,1,c⟩=((⟨#[98,102,120,105,108]⟩:ByteArray),[ah rd false,ah rn false,aw a,aw (c-a+1)]):=by simp only [FdV.F,dy];first | (rw [if_pos (by omega)];rfl) | (rw [if_neg (by omega)];rfl)
 have hfq:fdQ ((⟨(⟨#[98,102,105]⟩:ByteArray),(⟨#[98,102,120,105,108]⟩:ByteArray),32,true⟩:FdV),⟨5,false,ss,rd,rn,rm,ra,a,1,c⟩):=by unfold fdQ;simp only [];omega
 have hp2:ae 0 [(⟨#[98,102,105]⟩:ByteArray),(⟨#[98,102,99]⟩:ByteArray)]=(⟨#[98,102,105]⟩:ByteArray):=by decide
 have hf1:aU true=1:=rfl
 have hf0:aU false=0:=rfl
 simp only [go_sem,hl,hfv,hfq,hp2,hf1,hf0]
 refine ab (ctx:=dP) ak ⟨[8,9],[(4,[757])],[(0,[757]),(5,[757]),(6,[757]),(7,[757])]⟩ (by kernel_rfl) ?_
 simp only [go_sem,hl,hfv,hfq,hp2,hf1,hf0]
theorem pb2f (ss:Bool) (rd rn rm ra a:Int):Lf Tryz.f47 [(ai ac).enc ⟨5,false,ss,rd,rn,rm,ra,a,2,31⟩] (.ret (alO (.ln ((⟨#[108,115,114]⟩:ByteArray),[ah rd false,ah rn false,aw a]) true))):=by
 refine bfP (ctx:=dP) Tryz.ntmps47 Tryz.results47 rfl ?_
 simp only [go_sem]
theorem pb2s (ss:Bool) (rd rn rm ra a c:Int) (ha:0≤a∧a≤63) (hc:0≤c∧c≤63) (hf:¬c=31) (hs:c+1=a):Lf Tryz.f47 [(ai ac).enc ⟨5,false,ss,rd,rn,rm,ra,a,2,c⟩] (.ret (alO (.ln ((⟨#[108,115,108]⟩:ByteArray),[ah rd false,ah rn false,aw (32-a)]) true))):=by
 refine bfP (ctx:=dP) Tryz.ntmps47 Tryz.results47 rfl ?_
 have k2:IntKind.i64.wrap (c+1)=c+1:=wr (by omega)
 have k3:((c+1)==(a:Int))=true:=b1 (by omega)
 have k4:IntKind.i64.wrap (32-a)=32-a:=wr (by omega)
 simp only [go_sem,b0 hf,k2,k3,k4]
 refine ab (ctx:=dP) ak ⟨[6],[],[]⟩ (by kernel_rfl) ?_
 simp only [go_sem,b0 hf,k2,k3,k4]
theorem pb27 (ss:Bool) (rd rn rm ra:Int):Lf Tryz.f47 [(ai ac).enc ⟨5,false,ss,rd,rn,rm,ra,0,2,7⟩] (.ret (alO (.ln ((⟨#[117,120,116,98]⟩:ByteArray),[ah rd false,ah rn false]) true))):=by
 refine bfP (ctx:=dP) Tryz.ntmps47 Tryz.results47 rfl ?_
 have hsh:Int.fdiv 7 (2 ^ min 3 64)=0:=rfl
 have hpk:ae 0 [(⟨#[117,120,116,98]⟩:ByteArray),(⟨#[117,120,116,104]⟩:ByteArray)]=(⟨#[117,120,116,98]⟩:ByteArray):=by decide
 simp only [go_sem,hsh,hpk]
 refine ab (ctx:=dP) ak ⟨[11,12],[(5,[1045])],[(0,[1045]),(6,[1045]),(7,[1045]),(8,[1045]),(9,[1045]),(10,[1045])]⟩ (by kernel_rfl) ?_
 simp only [go_sem,hsh,hpk]
theorem QV (ss:Bool) (rd rn rm ra:Int):Lf Tryz.f47 [(ai ac).enc ⟨5,false,ss,rd,rn,rm,ra,0,2,15⟩] (.ret (alO (.ln ((⟨#[117,120,116,104]⟩:ByteArray),[ah rd false,ah rn false]) true))):=by
 refine bfP (ctx:=dP) Tryz.ntmps47 Tryz.results47 rfl ?_
 have hsh:Int.fdiv 15 (2 ^ min 3 64)=1:=rfl
 have hpk:ae 1 [(⟨#[117,120,116,98]⟩:ByteArray),(⟨#[117,120,116,104]⟩:ByteArray)]=(⟨#[117,120,116,104]⟩:ByteArray):=by decide
 simp only [go_sem,hsh,hpk]
 refine ab (ctx:=dP) ak ⟨[11,12],[(5,[1093])],[(0,[1093]),(6,[1093]),(7,[1093]),(8,[1093]),(9,[1093]),(10,[1093])]⟩ (by kernel_rfl) ?_
 simp only [go_sem,hsh,hpk]
theorem pb2z (ss:Bool) (rd rn rm ra c:Int) (hc:0≤c∧c≤63) (hf:¬c=31) (hz:¬c=7∧¬c=15):Lf Tryz.f47 [(ai ac).enc ⟨5,false,ss,rd,rn,rm,ra,0,2,c⟩] (.ret (alO (.ln ((⟨#[117,98,102,120]⟩:ByteArray),[ah rd false,ah rn false,aw 0,aw (c-0+1)]) true))):=by
 refine bfP (ctx:=dP) Tryz.ntmps47 Tryz.results47 rfl ?_
 have k2:IntKind.i64.wrap (c+1)=c+1:=wr (by omega)
 have k3:((c+1)==(0:Int))=false:=b0 (by omega)
 have hfv:FdV.F (⟨(⟨#[117,98,102,105,122]⟩:ByteArray),(⟨#[117,98,102,120]⟩:ByteArray),32,true⟩:FdV) ⟨5,false,ss,rd,rn,rm,ra,0,2,c⟩=((⟨#[117,98,102,120]⟩:ByteArray),[ah rd false,ah rn false,aw 0,aw (c-0+1)]):=by simp only [FdV.F,dy];first | (rw [if_pos (by omega)];rfl) | (rw [if_neg (by omega)];rfl)
 have hfq:fdQ ((⟨(⟨#[117,98,102,105,122]⟩:ByteArray),(⟨#[117,98,102,120]⟩:ByteArray),32,true⟩:FdV),⟨5,false,ss,rd,rn,rm,ra,0,2,c⟩):=by unfold fdQ;simp only [];omega
 simp only [go_sem,b0 hf,k2,k3,b0 hz.1,b0 hz.2,hfv,hfq]
theorem pb2l (ss:Bool) (rd rn rm ra a c:Int) (ha:0≤a∧a≤63) (hc:0≤c∧c≤63) (hf:¬c=31) (hs:¬c+1=a) (hl:c<a):Lf Tryz.f47 [(ai ac).enc ⟨5,false,ss,rd,rn,rm,ra,a,2,c⟩] (.ret (alO (.ln ((⟨#[117,98,102,105,122]⟩:ByteArray),[ah rd false,ah rn false,aw (32-a),aw (c+1)]) true))):=by
 refine bfP (ctx:=dP) Tryz.ntmps47 Tryz.results47 rfl ?_
 have k2:IntKind.i64.wrap (c+1)=c+1:=wr (by omega)
 have k3:((c+1)==(a:Int))=false:=b0 (by omega)
 have k4:(a==(0:Int))=false:=b0 (by omega)
 have hfv:FdV.F (⟨(⟨#[117,98,102,105,122]⟩:ByteArray),(⟨#[117,98,102,120]⟩:ByteArray),32,true⟩:FdV) ⟨5,false,ss,rd,rn,rm,ra,a,2,c⟩=((⟨#[117,98,102,105,122]⟩:ByteArray),[ah rd false,ah rn false,aw (32-a),aw (c+1)]):=by simp only [FdV.F,dy];first | (rw [if_pos (by omega)];rfl) | (rw [if_neg (by omega)];rfl)
 have hfq:fdQ ((⟨(⟨#[117,98,102,105,122]⟩:ByteArray),(⟨#[117,98,102,120]⟩:ByteArray),32,true⟩:FdV),⟨5,false,ss,rd,rn,rm,ra,a,2,c⟩):=by unfold fdQ;simp only [];omega
 simp only [go_sem,b0 hf,k2,k3,k4,hfv,hfq]
theorem pb2g (ss:Bool) (rd rn rm ra a c:Int) (ha:0≤a∧a≤63) (hc:0≤c∧c≤63) (hf:¬c=31) (h0:¬a=0) (hl:¬c<a):Lf Tryz.f47 [(ai ac).enc ⟨5,false,ss,rd,rn,rm,ra,a,2,c⟩] (.ret (alO (.ln ((⟨#[117,98,102,120]⟩:ByteArray),[ah rd false,ah rn false,aw a,aw (c-a+1)]) true))):=by
 refine bfP (ctx:=dP) Tryz.ntmps47 Tryz.results47 rfl ?_
 have k2:IntKind.i64.wrap (c+1)=c+1:=wr (by omega)
 have k3:((c+1)==(a:Int))=false:=b0 (by omega)
 have hfv:FdV.F (⟨(⟨#[117,98,102,105,122]⟩:ByteArray),(⟨#[117,98,102,120]⟩:ByteArray),32,true⟩:FdV) ⟨5,false,ss,rd,rn,rm,ra,a,2,c⟩=((⟨#[117,98,102,120]⟩:ByteArray),[ah rd false,ah rn false,aw a,aw (c-a+1)]):=by simp only [FdV.F,dy];first | (rw [if_pos (by omega)];rfl) | (rw [if_neg (by omega)];rfl)
 have hfq:fdQ ((⟨(⟨#[117,98,102,105,122]⟩:ByteArray),(⟨#[117,98,102,120]⟩:ByteArray),32,true⟩:FdV),⟨5,false,ss,rd,rn,rm,ra,a,2,c⟩):=by unfold fdQ;simp only [];omega
 simp only [go_sem,b0 hf,k2,k3,b0 h0,hfv,hfq]
end
end Go.Proofs.YtpjlafmhoifkmaaGreat
