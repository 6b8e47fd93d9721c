import Derived.Test.YtpjlafmhoifkmaaGreatN41
import Derived.Test.YtpjlafmhoifkmaaGreatN42
import Derived.Test.YtpjlafmhoifkmaaGreatN28
import Derived.Test.YtpjlafmhoifkmaaGreatN11
set_option linter.unusedVariables false
set_option linter.unusedSimpArgs false
set_option maxRecDepth 100000
set_option maxHeartbeats 8000000
namespace Go.Proofs.YtpjlafmhoifkmaaGreat
section
open Go.RowKit
def wrC (x:Ins):St:=⟨5,[(1,.s (.l (.p 0 0 0))),(2,.s (.l (.p 1 0 0))),(3,bv false),(4,.s (.l (.p 2 0 0)))],[(0,some ⟨true,27,10,[aw x]⟩),(1,some bB),(2,some (pcK 3)),(3,some (wrK x emp 0 4)),(4,some (ay []))]⟩
theorem G7 (y x:Ins) (nm:ByteArray) (l:List OpV) (h:l.length≤1000):SW Tryz.prog ⟨none,3⟩ Tryz.f110.ntmps (Tryz.f110.body.getD .skip) ⟨4,ag 0 [.s (.l (.p 1 0 0)),.s (.l (.p 2 0 0))],cn 0 [wrK x nm l.length 3,pcK 0,fJ y,ay l]⟩ (gn Tryz.prog Tryz.f110.results.toList 3 (pH (fJ y) (ab y.rn false) (x,nm,l))):=by
 refine aa (ctx:=[]) 4000 ?_
 rw [Tryz.ntmps110,Tryz.results110]
 simp only [Tryz.f110,Option.getD_some,ag]
 simp only [go_sem,wrK,aw,ay,pcK,fJ]
 refine aI (ctx:=[⟨_,eU⟩,⟨_,dV⟩]) ax [4] (by kernel_rfl) ?_
 simp only [go_sem,bM,bL,bE,bF,opV,ab,oOf,op0,r0,opR,opE,emp,cp,aX,aL,ap,xwT,bk,wrK,aw,ay,cz,h]
 refine wV (kk:=fJ y) (o:=ab y.rn false) (x:=x) (nm:=nm) (l:=l) (tb:=68) (fun _=>rfl) rfl ?_ ?_ ?_ ?_ (by decide)
 all_goals simp [hget,wrK,aw,fJ,pcK,ay,ab,oOf,op0,r0,emp]
def nz (y:Ins):Cst where
 g:=110
 kk:=fJ y
 own:=rfl
 ren:=fun _=>rfl
 o:=ab y.rn false
 spec:=El _ _ _ Tryz.func110 rfl (fun _ _=>by go_simp) (fJ y) (fun _=>rfl) rfl (ab y.rn false) (by rw [Tryz.ntmps110];decide) (fun x nm l h=>G7 y x nm l h)
 run_eq:=fun _ _ _=>rfl
 pan_eq:=fun _ _ _=>rfl
theorem FU (y x:Ins) (nm:ByteArray) (l:List OpV) (h:l.length≤1000):SW Tryz.prog ⟨none,3⟩ Tryz.f115.ntmps (Tryz.f115.body.getD .skip) ⟨4,ag 0 [.s (.l (.p 1 0 0)),.s (.l (.p 2 0 0))],cn 0 [wrK x nm l.length 3,pcK 0,fJ y,ay l]⟩ (gn Tryz.prog Tryz.f115.results.toList 3 (pH (fJ y) (oOf 4 (gt y.a)) (x,nm,l))):=by
 refine aa (ctx:=[]) 4000 ?_
 rw [Tryz.ntmps115,Tryz.results115]
 simp only [Tryz.f115,Option.getD_some,ag]
 simp only [go_sem,wrK,aw,ay,pcK,fJ]
 refine aI (ctx:=[⟨_,rT⟩,⟨_,ofS⟩,⟨_,dV⟩]) ax [5] (by kernel_rfl) ?_
 simp only [go_sem,uq,uQ,dR,dQ,bE,bF,opV,ab,oOf,op0,r0,opR,opE,emp,cp,aX,aL,ap,xwT,bk,wrK,aw,ay,cz,h]
 refine wV (kk:=fJ y) (o:=oOf 4 (gt y.a)) (x:=x) (nm:=nm) (l:=l) (tb:=84) (fun _=>rfl) rfl ?_ ?_ ?_ ?_ (by decide)
 all_goals simp [hget,wrK,aw,fJ,pcK,ay,ab,oOf,op0,r0,emp]
def jt (y:Ins):Cst where
 g:=115
 kk:=fJ y
 own:=rfl
 ren:=fun _=>rfl
 o:=oOf 4 (gt y.a)
 spec:=El _ _ _ Tryz.func115 rfl (fun _ _=>by go_simp) (fJ y) (fun _=>rfl) rfl (oOf 4 (gt y.a)) (by rw [Tryz.ntmps115];decide) (fun x nm l h=>FU y x nm l h)
 run_eq:=fun _ _ _=>rfl
 pan_eq:=fun _ _ _=>rfl
attribute [local go_sem] ag wrA wrC aw wrK ay bB pcK fJ aM bC aW aV gC gD bT bD fz aX aL ap aS bH ij gOf aG aF aK bI bg aT jy jo kt jW iq gy jj iz kE eM fH iw gH gO dP jE jr ll aE aD bK bO bu aC bj be aZ dc da bE bF cp xwT xw0 bk opV opL bX ofD opR cB opE dO nO mO cF ab aB oOf op0 r0 emp l5 lw jq gq alO ae
end
section
open Go.RowKit
def cP:Ctx Tryz.prog:=[⟨_,ca⟩,⟨_,bp⟩,⟨_,ji⟩,⟨_,dV⟩,⟨_,KM⟩,⟨_,bZ bh⟩]
theorem wbf0:an true=1:=rfl
theorem wbf1:IntKind.i64.wrap ((32:Int)*1)=32:=by decide
theorem wbf2:IntKind.i64.wrap ((32:Int)+32)=64:=by decide
theorem wbf3:IntKind.i64.wrap ((64:Int)-1)=63:=by decide
theorem wbf4:an false=0:=rfl
theorem wbf5:IntKind.i64.wrap ((32:Int)*0)=0:=by decide
theorem wbf6:IntKind.i64.wrap ((32:Int)+0)=32:=by decide
theorem wbf7:IntKind.i64.wrap ((32:Int)-1)=31:=by decide
theorem wbf8:IntKind.i64.wrap ((7:Int)+1)=8:=by decide
theorem wbf9:IntKind.i64.wrap ((15:Int)+1)=16:=by decide
attribute [local go_sem] ag wrA wrC aw wrK ay bB pcK fJ aM bC aW aV gC gD bT bD fz aX aL ap aS bH ij gOf aG aF aK bI bg aT jy jo kt jW iq gy jj iz kE eM fH iw gH gO dP jE jr ll aE aD bK bO bu aC bj be aZ dc da bE bF cp xwT xw0 bk opV opL bX ofD opR cB opE dO nO mO cF ab aB oOf op0 r0 emp l5 lw jq gq alO ae cP wbf0 wbf1 wbf2 wbf3 wbf4 wbf5 wbf6 wbf7 wbf8 wbf9 gz gB iL ky m8 mV sxQ sxF Sx.q Sx.F nz jt List.nodup_cons List.nodup_nil List.mem_cons List.not_mem_nil List.mem_nil_iff or_false false_or or_self not_false_eq_true and_self true_and and_true
theorem bfP {x:Ins} {r:PO} {n:Nat} {rs:Array ResultVar} {ctx:Ctx Tryz.prog} {c0 c1 c:Code} (hn:Tryz.f47.ntmps=n) (hr:Tryz.f47.results=rs) (hb:Tryz.f47.body=some (.seq c0 (.seq c1 c))) (h:bA Tryz.prog ctx ⟨none,0⟩ n 4000 [.c c] (wrC x) (aH Tryz.prog rs.toList r)):Lf Tryz.f47 [(am ae).enc x] r:=by
 subst hn
 rw [Tryz.ntmps47] at h
 unfold Lf
 rw [Tryz.ntmps47,hr,hb]
 simp only [Tryz.f47] at hb
 injection hb with hb
 injection hb with ha hb
 injection hb with hb hc
 subst ha hb hc
 simp only [Option.getD_some,ag]
 refine az (aa (ctx:=[]) 4000 ?_)
 simp only [go_sem,aJ,ae]
 refine az (aa (ctx:=[]) 4000 ?_)
 simp only [go_sem,aJ]
 refine SW.wk (s':=wrC x) ?_ ((Wk.nilC 80 11 40 15 (k:=⟨true,68,12,[aw x++[.v (.string emp),.v (.slice none 0 0)]]⟩) rfl rfl rfl).trans (Wk.renL [0,16,96,80,128] (by simp) (by simp [wrC]) (by decide) rfl rfl))
 exact aa 4000 h
theorem Nt (ss:Bool) (rd rn rm ra a:Int):Lf Tryz.f47 [(am ae).enc ⟨5,true,ss,rd,rn,rm,ra,a,0,63⟩] (.ret (alO (.ln ((⟨#[97,115,114]⟩:ByteArray),[ab rd true,ab rn true,aB a]) true))):=by
 refine bfP (ctx:=cP) Tryz.ntmps47 Tryz.results47 rfl ?_
 simp only [go_sem]
theorem NN (ss:Bool) (rd rn rm ra:Int):Lf Tryz.f47 [(am ae).enc ⟨5,true,ss,rd,rn,rm,ra,0,0,7⟩] (.ret (alO (.ln ((⟨#[115,120,116,98]⟩:ByteArray),[ab rd true,ab rn false]) true))):=by
 refine bfP (ctx:=[⟨_,ca⟩,⟨_,bp⟩,⟨_,cw bh (nz ⟨5,true,ss,rd,rn,rm,ra,0,0,7⟩)⟩]) Tryz.ntmps47 Tryz.results47 rfl ?_
 have hsh:Int.fdiv 7 (2 ^ min 3 64)=0:=rfl
 have hpk:ak 0 [(⟨#[115,120,116,98]⟩:ByteArray),(⟨#[115,120,116,104]⟩:ByteArray),(⟨#[]⟩:ByteArray),(⟨#[115,120,116,119]⟩:ByteArray)]=(⟨#[115,120,116,98]⟩:ByteArray):=by decide
 simp only [go_sem,hsh,hpk]
 refine aq (ctx:=[⟨_,ca⟩,⟨_,bp⟩,⟨_,cw bh (nz ⟨5,true,ss,rd,rn,rm,ra,0,0,7⟩)⟩]) ax ⟨[10,11],[(5,[693])],[(0,[693]),(6,[693]),(7,[693]),(8,[693]),(9,[693])]⟩ (by kernel_rfl) ?_
 simp only [go_sem,hsh,hpk]
theorem Jt (ss:Bool) (rd rn rm ra:Int):Lf Tryz.f47 [(am ae).enc ⟨5,true,ss,rd,rn,rm,ra,0,0,15⟩] (.ret (alO (.ln ((⟨#[115,120,116,104]⟩:ByteArray),[ab rd true,ab rn false]) true))):=by
 refine bfP (ctx:=[⟨_,ca⟩,⟨_,bp⟩,⟨_,cw bh (nz ⟨5,true,ss,rd,rn,rm,ra,0,0,15⟩)⟩]) Tryz.ntmps47 Tryz.results47 rfl ?_
 have hsh:Int.fdiv 15 (2 ^ min 3 64)=1:=rfl
 have hpk:ak 1 [(⟨#[115,120,116,98]⟩:ByteArray),(⟨#[115,120,116,104]⟩:ByteArray),(⟨#[]⟩:ByteArray),(⟨#[115,120,116,119]⟩:ByteArray)]=(⟨#[115,120,116,104]⟩:ByteArray):=by decide
 simp only [go_sem,hsh,hpk]
 refine aq (ctx:=[⟨_,ca⟩,⟨_,bp⟩,⟨_,cw bh (nz ⟨5,true,ss,rd,rn,rm,ra,0,0,15⟩)⟩]) ax ⟨[10,11],[(5,[741])],[(0,[741]),(6,[741]),(7,[741]),(8,[741]),(9,[741])]⟩ (by kernel_rfl) ?_
 simp only [go_sem,hsh,hpk]
theorem Kt (ss:Bool) (rd rn rm ra:Int):Lf Tryz.f47 [(am ae).enc ⟨5,true,ss,rd,rn,rm,ra,0,0,31⟩] (.ret (alO (.ln ((⟨#[115,120,116,119]⟩:ByteArray),[ab rd true,ab rn false]) true))):=by
 refine bfP (ctx:=[⟨_,ca⟩,⟨_,bp⟩,⟨_,cw bh (nz ⟨5,true,ss,rd,rn,rm,ra,0,0,31⟩)⟩]) Tryz.ntmps47 Tryz.results47 rfl ?_
 have hsh:Int.fdiv 31 (2 ^ min 3 64)=3:=rfl
 have hpk:ak 3 [(⟨#[115,120,116,98]⟩:ByteArray),(⟨#[115,120,116,104]⟩:ByteArray),(⟨#[]⟩:ByteArray),(⟨#[115,120,116,119]⟩:ByteArray)]=(⟨#[115,120,116,119]⟩:ByteArray):=by decide
 simp only [go_sem,hsh,hpk]
 refine aq (ctx:=[⟨_,ca⟩,⟨_,bp⟩,⟨_,cw bh (nz ⟨5,true,ss,rd,rn,rm,ra,0,0,31⟩)⟩]) ax ⟨[10,11],[(5,[789])],[(0,[789]),(6,[789]),(7,[789]),(8,[789]),(9,[789])]⟩ (by kernel_rfl) ?_
 simp only [go_sem,hsh,hpk]
theorem NR (ss:Bool) (rd rn rm ra a c:Int) (ha:0≤a∧a≤63) (hc:0≤c∧c≤63) (hf:¬c=63) (hl:c<a):Lf Tryz.f47 [(am ae).enc ⟨5,true,ss,rd,rn,rm,ra,a,0,c⟩] (.ret (alO (.ln ((⟨#[115,98,102,105,122]⟩:ByteArray),[ab rd true,ab rn true,aB (64-a),aB (c+1)]) true))):=by
 refine bfP (ctx:=cP) Tryz.ntmps47 Tryz.results47 rfl ?_
 have k2:(a==(0:Int))=false:=b0 (by omega)
 have hfv:FdV.F (⟨(⟨#[115,98,102,105,122]⟩:ByteArray),(⟨#[115,98,102,120]⟩:ByteArray),64,true⟩:FdV) ⟨5,true,ss,rd,rn,rm,ra,a,0,c⟩=((⟨#[115,98,102,105,122]⟩:ByteArray),[ab rd true,ab rn true,aB (64-a),aB (c+1)]):=by simp only [FdV.F,cx];first | (rw [if_pos (by omega)];rfl) | (rw [if_neg (by omega)];rfl)
 have hfq:fdQ ((⟨(⟨#[115,98,102,105,122]⟩:ByteArray),(⟨#[115,98,102,120]⟩:ByteArray),64,true⟩:FdV),⟨5,true,ss,rd,rn,rm,ra,a,0,c⟩):=by unfold fdQ;simp only [];omega
 simp only [go_sem,b0 hf,k2,hfv,hfq]
theorem Ot (ss:Bool) (rd rn rm ra c:Int) (hc:0≤c∧c≤63) (hf:¬c=63) (hz:¬c=7∧¬c=15∧¬c=31):Lf Tryz.f47 [(am ae).enc ⟨5,true,ss,rd,rn,rm,ra,0,0,c⟩] (.ret (alO (.ln ((⟨#[115,98,102,120]⟩:ByteArray),[ab rd true,ab rn true,aB 0,aB (c-0+1)]) true))):=by
 refine bfP (ctx:=cP) Tryz.ntmps47 Tryz.results47 rfl ?_
 have hfv:FdV.F (⟨(⟨#[115,98,102,105,122]⟩:ByteArray),(⟨#[115,98,102,120]⟩:ByteArray),64,true⟩:FdV) ⟨5,true,ss,rd,rn,rm,ra,0,0,c⟩=((⟨#[115,98,102,120]⟩:ByteArray),[ab rd true,ab rn true,aB 0,aB (c-0+1)]):=by simp only [FdV.F,cx];first | (rw [if_pos (by omega)];rfl) | (rw [if_neg (by omega)];rfl)
 have hfq:fdQ ((⟨(⟨#[115,98,102,105,122]⟩:ByteArray),(⟨#[115,98,102,120]⟩:ByteArray),64,true⟩:FdV),⟨5,true,ss,rd,rn,rm,ra,0,0,c⟩):=by unfold fdQ;simp only [];omega
 simp only [go_sem,b0 hf,b0 hz.1,b0 hz.2.1,b0 hz.2.2,hfv,hfq]
theorem MW (ss:Bool) (rd rn rm ra a c:Int) (ha:0≤a∧a≤63) (hc:0≤c∧c≤63) (hf:¬c=63) (h0:¬a=0) (hl:¬c<a):Lf Tryz.f47 [(am ae).enc ⟨5,true,ss,rd,rn,rm,ra,a,0,c⟩] (.ret (alO (.ln ((⟨#[115,98,102,120]⟩:ByteArray),[ab rd true,ab rn true,aB a,aB (c-a+1)]) true))):=by
 refine bfP (ctx:=cP) Tryz.ntmps47 Tryz.results47 rfl ?_
 have hfv:FdV.F (⟨(⟨#[115,98,102,105,122]⟩:ByteArray),(⟨#[115,98,102,120]⟩:ByteArray),64,true⟩:FdV) ⟨5,true,ss,rd,rn,rm,ra,a,0,c⟩=((⟨#[115,98,102,120]⟩:ByteArray),[ab rd true,ab rn true,aB a,aB (c-a+1)]):=by simp only [FdV.F,cx];first | (rw [if_pos (by omega)];rfl) | (rw [if_neg (by omega)];rfl)
 have hfq:fdQ ((⟨(⟨#[115,98,102,105,122]⟩:ByteArray),(⟨#[115,98,102,120]⟩:ByteArray),64,true⟩:FdV),⟨5,true,ss,rd,rn,rm,ra,a,0,c⟩):=by unfold fdQ;simp only [];omega
 simp only [go_sem,b0 hf,b0 h0,hfv,hfq]
theorem LL (ss:Bool) (rd rm ra a c:Int) (ha:0≤a∧a≤63) (hc:0≤c∧c≤63) (hl:c<a):Lf Tryz.f47 [(am ae).enc ⟨5,true,ss,rd,31,rm,ra,a,1,c⟩] (.ret (alO (.ln ((⟨#[98,102,99]⟩:ByteArray),[ab rd true,aB (64-a),aB (c+1)]) true))):=by
 refine bfP (ctx:=cP) Tryz.ntmps47 Tryz.results47 rfl ?_
 have hfv:FdV.F (⟨(⟨#[98,102,99]⟩:ByteArray),(⟨#[98,102,120,105,108]⟩:ByteArray),64,false⟩:FdV) ⟨5,true,ss,rd,31,rm,ra,a,1,c⟩=((⟨#[98,102,99]⟩:ByteArray),[ab rd true,aB (64-a),aB (c+1)]):=by simp only [FdV.F,cx];first | (rw [if_pos (by omega)];rfl) | (rw [if_neg (by omega)];rfl)
 have hfq:fdQ ((⟨(⟨#[98,102,99]⟩:ByteArray),(⟨#[98,102,120,105,108]⟩:ByteArray),64,false⟩:FdV),⟨5,true,ss,rd,31,rm,ra,a,1,c⟩):=by unfold fdQ;simp only [];omega
 have hp2:ak 1 [(⟨#[98,102,105]⟩:ByteArray),(⟨#[98,102,99]⟩:ByteArray)]=(⟨#[98,102,99]⟩:ByteArray):=by decide
 have hf1:an true=1:=rfl
 have hf0:an false=0:=rfl
 simp only [go_sem,hl,hfv,hfq,hp2,hf1,hf0]
 refine aq (ctx:=cP) ax ⟨[8,9],[(4,[805])],[(0,[805]),(5,[805]),(6,[805]),(7,[805])]⟩ (by kernel_rfl) ?_
 simp only [go_sem,hl,hfv,hfq,hp2,hf1,hf0]
theorem L9 (ss:Bool) (rd rn rm ra a c:Int) (ha:0≤a∧a≤63) (hc:0≤c∧c≤63) (hl:c<a) (hn:¬rn=31):Lf Tryz.f47 [(am ae).enc ⟨5,true,ss,rd,rn,rm,ra,a,1,c⟩] (.ret (alO (.ln ((⟨#[98,102,105]⟩:ByteArray),[ab rd true,ab rn true,aB (64-a),aB (c+1)]) true))):=by
 refine bfP (ctx:=cP) Tryz.ntmps47 Tryz.results47 rfl ?_
 have hfv:FdV.F (⟨(⟨#[98,102,105]⟩:ByteArray),(⟨#[98,102,120,105,108]⟩:ByteArray),64,true⟩:FdV) ⟨5,true,ss,rd,rn,rm,ra,a,1,c⟩=((⟨#[98,102,105]⟩:ByteArray),[ab rd true,ab rn true,aB (64-a),aB (c+1)]):=by simp only [FdV.F,cx];first | (rw [if_pos (by omega)];rfl) | (rw [if_neg (by omega)];rfl)
 have hfq:fdQ ((⟨(⟨#[98,102,105]⟩:ByteArray),(⟨#[98,102,120,105,108]⟩:ByteArray),64,true⟩:FdV),⟨5,true,ss,rd,rn,rm,ra,a,1,c⟩):=by unfold fdQ;simp only [];omega
 have hp2:ak 0 [(⟨#[98,102,105]⟩:ByteArray),(⟨#[98,102,99]⟩:ByteArray)]=(⟨#[98,102,105]⟩:ByteArray):=by decide
 have hf1:an true=1:=rfl
 have hf0:an false=0:=rfl
 simp only [go_sem,hl,b0 hn,hfv,hfq,hp2,hf1,hf0]
 refine aq (ctx:=cP) ax ⟨[8,9],[(4,[805])],[(0,[805]),(5,[805]),(6,[805]),(7,[805])]⟩ (by kernel_rfl) ?_
 simp only [go_sem,hl,b0 hn,hfv,hfq,hp2,hf1,hf0]
theorem NW (ss:Bool) (rd rn rm ra a c:Int) (ha:0≤a∧a≤63) (hc:0≤c∧c≤63) (hl:¬c<a):Lf Tryz.f47 [(am ae).enc ⟨5,true,ss,rd,rn,rm,ra,a,1,c⟩] (.ret (alO (.ln ((⟨#[98,102,120,105,108]⟩:ByteArray),[ab rd true,ab rn true,aB a,aB (c-a+1)]) true))):=by
 refine bfP (ctx:=cP) Tryz.ntmps47 Tryz.results47 rfl ?_
 have hfv:FdV.F (⟨(⟨#[98,102,105]⟩:ByteArray),(⟨#[98,102,120,105,108]⟩:ByteArray),64,true⟩:FdV) ⟨5,true,ss,rd,rn,rm,ra,a,1,c⟩=((⟨#[98,102,120,105,108]⟩:ByteArray),[ab rd true,ab rn true,aB a,aB (c-a+1)]):=by simp only [FdV.F,cx];first | (rw [if_pos (by omega)];rfl) | (rw [if_neg (by omega)];rfl)
 have hfq:fdQ ((⟨(⟨#[98,102,105]⟩:ByteArray),(⟨#[98,102,120,105,108]⟩:ByteArray),64,true⟩:FdV),⟨5,true,ss,rd,rn,rm,ra,a,1,c⟩):=by unfold fdQ;simp only [];omega
 have hp2:ak 0 [(⟨#[98,102,105]⟩:ByteArray),(⟨#[98,102,99]⟩:ByteArray)]=(⟨#[98,102,105]⟩:ByteArray):=by decide
 have hf1:an true=1:=rfl
 have hf0:an false=0:=rfl
 simp only [go_sem,hl,hfv,hfq,hp2,hf1,hf0]
 refine aq (ctx:=cP) ax ⟨[8,9],[(4,[757])],[(0,[757]),(5,[757]),(6,[757]),(7,[757])]⟩ (by kernel_rfl) ?_
 simp only [go_sem,hl,hfv,hfq,hp2,hf1,hf0]
theorem Nx (ss:Bool) (rd rn rm ra a:Int):Lf Tryz.f47 [(am ae).enc ⟨5,true,ss,rd,rn,rm,ra,a,2,63⟩] (.ret (alO (.ln ((⟨#[108,115,114]⟩:ByteArray),[ab rd true,ab rn true,aB a]) true))):=by
 refine bfP (ctx:=cP) Tryz.ntmps47 Tryz.results47 rfl ?_
 simp only [go_sem]
theorem Nf (ss:Bool) (rd rn rm ra a c:Int) (ha:0≤a∧a≤63) (hc:0≤c∧c≤63) (hf:¬c=63) (hs:c+1=a):Lf Tryz.f47 [(am ae).enc ⟨5,true,ss,rd,rn,rm,ra,a,2,c⟩] (.ret (alO (.ln ((⟨#[108,115,108]⟩:ByteArray),[ab rd true,ab rn true,aB (64-a)]) true))):=by
 refine bfP (ctx:=cP) Tryz.ntmps47 Tryz.results47 rfl ?_
 have k2:IntKind.i64.wrap (c+1)=c+1:=wr (by omega)
 have k3:((c+1)==(a:Int))=true:=b1 (by omega)
 have k4:IntKind.i64.wrap (64-a)=64-a:=wr (by omega)
 simp only [go_sem,b0 hf,k2,k3,k4]
 refine aq (ctx:=cP) ax ⟨[6],[],[]⟩ (by kernel_rfl) ?_
 simp only [go_sem,b0 hf,k2,k3,k4]
theorem OF (ss:Bool) (rd rn rm ra c:Int) (hc:0≤c∧c≤63) (hf:¬c=63):Lf Tryz.f47 [(am ae).enc ⟨5,true,ss,rd,rn,rm,ra,0,2,c⟩] (.ret (alO (.ln ((⟨#[117,98,102,120]⟩:ByteArray),[ab rd true,ab rn true,aB 0,aB (c-0+1)]) true))):=by
 refine bfP (ctx:=cP) Tryz.ntmps47 Tryz.results47 rfl ?_
 have k2:IntKind.i64.wrap (c+1)=c+1:=wr (by omega)
 have k3:((c+1)==(0:Int))=false:=b0 (by omega)
 have hfv:FdV.F (⟨(⟨#[117,98,102,105,122]⟩:ByteArray),(⟨#[117,98,102,120]⟩:ByteArray),64,true⟩:FdV) ⟨5,true,ss,rd,rn,rm,ra,0,2,c⟩=((⟨#[117,98,102,120]⟩:ByteArray),[ab rd true,ab rn true,aB 0,aB (c-0+1)]):=by simp only [FdV.F,cx];first | (rw [if_pos (by omega)];rfl) | (rw [if_neg (by omega)];rfl)
 have hfq:fdQ ((⟨(⟨#[117,98,102,105,122]⟩:ByteArray),(⟨#[117,98,102,120]⟩:ByteArray),64,true⟩:FdV),⟨5,true,ss,rd,rn,rm,ra,0,2,c⟩):=by unfold fdQ;simp only [];omega
 simp only [go_sem,b0 hf,k2,k3,hfv,hfq]
theorem Ml (ss:Bool) (rd rn rm ra a c:Int) (ha:0≤a∧a≤63) (hc:0≤c∧c≤63) (hf:¬c=63) (hs:¬c+1=a) (hl:c<a):Lf Tryz.f47 [(am ae).enc ⟨5,true,ss,rd,rn,rm,ra,a,2,c⟩] (.ret (alO (.ln ((⟨#[117,98,102,105,122]⟩:ByteArray),[ab rd true,ab rn true,aB (64-a),aB (c+1)]) true))):=by
 refine bfP (ctx:=cP) Tryz.ntmps47 Tryz.results47 rfl ?_
 have k2:IntKind.i64.wrap (c+1)=c+1:=wr (by omega)
 have k3:((c+1)==(a:Int))=false:=b0 (by omega)
 have k4:(a==(0:Int))=false:=b0 (by omega)
 have hfv:FdV.F (⟨(⟨#[117,98,102,105,122]⟩:ByteArray),(⟨#[117,98,102,120]⟩:ByteArray),64,true⟩:FdV) ⟨5,true,ss,rd,rn,rm,ra,a,2,c⟩=((⟨#[117,98,102,105,122]⟩:ByteArray),[ab rd true,ab rn true,aB (64-a),aB (c+1)]):=by simp only [FdV.F,cx];first | (rw [if_pos (by omega)];rfl) | (rw [if_neg (by omega)];rfl)
 have hfq:fdQ ((⟨(⟨#[117,98,102,105,122]⟩:ByteArray),(⟨#[117,98,102,120]⟩:ByteArray),64,true⟩:FdV),⟨5,true,ss,rd,rn,rm,ra,a,2,c⟩):=by unfold fdQ;simp only [];omega
 simp only [go_sem,b0 hf,k2,k3,k4,hfv,hfq]
theorem Mh (ss:Bool) (rd rn rm ra a c:Int) (ha:0≤a∧a≤63) (hc:0≤c∧c≤63) (hf:¬c=63) (h0:¬a=0) (hl:¬c<a):Lf Tryz.f47 [(am ae).enc ⟨5,true,ss,rd,rn,rm,ra,a,2,c⟩] (.ret (alO (.ln ((⟨#[117,98,102,120]⟩:ByteArray),[ab rd true,ab rn true,aB a,aB (c-a+1)]) true))):=by
 refine bfP (ctx:=cP) Tryz.ntmps47 Tryz.results47 rfl ?_
 have k2:IntKind.i64.wrap (c+1)=c+1:=wr (by omega)
 have k3:((c+1)==(a:Int))=false:=b0 (by omega)
 have hfv:FdV.F (⟨(⟨#[117,98,102,105,122]⟩:ByteArray),(⟨#[117,98,102,120]⟩:ByteArray),64,true⟩:FdV) ⟨5,true,ss,rd,rn,rm,ra,a,2,c⟩=((⟨#[117,98,102,120]⟩:ByteArray),[ab rd true,ab rn true,aB a,aB (c-a+1)]):=by simp only [FdV.F,cx];first | (rw [if_pos (by omega)];rfl) | (rw [if_neg (by omega)];rfl)
 have hfq:fdQ ((⟨(⟨#[117,98,102,105,122]⟩:ByteArray),(⟨#[117,98,102,120]⟩:ByteArray),64,true⟩:FdV),⟨5,true,ss,rd,rn,rm,ra,a,2,c⟩):=by unfold fdQ;simp only [];omega
 simp only [go_sem,b0 hf,k2,k3,b0 h0,hfv,hfq]
theorem pb0f (ss:Bool) (rd rn rm ra a:Int):Lf Tryz.f47 [(am ae).enc ⟨5,false,ss,rd,rn,rm,ra,a,0,31⟩] (.ret (alO (.ln ((⟨#[97,115,114]⟩:ByteArray),[ab rd false,ab rn false,aB a]) true))):=by
 refine bfP (ctx:=cP) Tryz.ntmps47 Tryz.results47 rfl ?_
 simp only [go_sem]
theorem pb07 (ss:Bool) (rd rn rm ra:Int):Lf Tryz.f47 [(am ae).enc ⟨5,false,ss,rd,rn,rm,ra,0,0,7⟩] (.ret (alO (.ln ((⟨#[115,120,116,98]⟩:ByteArray),[ab rd false,ab rn false]) true))):=by
 refine bfP (ctx:=[⟨_,ca⟩,⟨_,bp⟩,⟨_,cw bh (nz ⟨5,false,ss,rd,rn,rm,ra,0,0,7⟩)⟩]) Tryz.ntmps47 Tryz.results47 rfl ?_
 have hsh:Int.fdiv 7 (2 ^ min 3 64)=0:=rfl
 have hpk:ak 0 [(⟨#[115,120,116,98]⟩:ByteArray),(⟨#[115,120,116,104]⟩:ByteArray),(⟨#[]⟩:ByteArray),(⟨#[115,120,116,119]⟩:ByteArray)]=(⟨#[115,120,116,98]⟩:ByteArray):=by decide
 simp only [go_sem,hsh,hpk]
 refine aq (ctx:=[⟨_,ca⟩,⟨_,bp⟩,⟨_,cw bh (nz ⟨5,false,ss,rd,rn,rm,ra,0,0,7⟩)⟩]) ax ⟨[10,11],[(5,[693])],[(0,[693]),(6,[693]),(7,[693]),(8,[693]),(9,[693])]⟩ (by kernel_rfl) ?_
 simp only [go_sem,hsh,hpk]
theorem Mj (ss:Bool) (rd rn rm ra:Int):Lf Tryz.f47 [(am ae).enc ⟨5,false,ss,rd,rn,rm,ra,0,0,15⟩] (.ret (alO (.ln ((⟨#[115,120,116,104]⟩:ByteArray),[ab rd false,ab rn false]) true))):=by
 refine bfP (ctx:=[⟨_,ca⟩,⟨_,bp⟩,⟨_,cw bh (nz ⟨5,false,ss,rd,rn,rm,ra,0,0,15⟩)⟩]) Tryz.ntmps47 Tryz.results47 rfl ?_
 have hsh:Int.fdiv 15 (2 ^ min 3 64)=1:=rfl
 have hpk:ak 1 [(⟨#[115,120,116,98]⟩:ByteArray),(⟨#[115,120,116,104]⟩:ByteArray),(⟨#[]⟩:ByteArray),(⟨#[115,120,116,119]⟩:ByteArray)]=(⟨#[115,120,116,104]⟩:ByteArray):=by decide
 simp only [go_sem,hsh,hpk]
 refine aq (ctx:=[⟨_,ca⟩,⟨_,bp⟩,⟨_,cw bh (nz ⟨5,false,ss,rd,rn,rm,ra,0,0,15⟩)⟩]) ax ⟨[10,11],[(5,[741])],[(0,[741]),(6,[741]),(7,[741]),(8,[741]),(9,[741])]⟩ (by kernel_rfl) ?_
 simp only [go_sem,hsh,hpk]
theorem pb0l (ss:Bool) (rd rn rm ra a c:Int) (ha:0≤a∧a≤63) (hc:0≤c∧c≤63) (hf:¬c=31) (hl:c<a):Lf Tryz.f47 [(am ae).enc ⟨5,false,ss,rd,rn,rm,ra,a,0,c⟩] (.ret (alO (.ln ((⟨#[115,98,102,105,122]⟩:ByteArray),[ab rd false,ab rn false,aB (32-a),aB (c+1)]) true))):=by
 refine bfP (ctx:=cP) Tryz.ntmps47 Tryz.results47 rfl ?_
 have k2:(a==(0:Int))=false:=b0 (by omega)
 have hfv:FdV.F (⟨(⟨#[115,98,102,105,122]⟩:ByteArray),(⟨#[115,98,102,120]⟩:ByteArray),32,true⟩:FdV) ⟨5,false,ss,rd,rn,rm,ra,a,0,c⟩=((⟨#[115,98,102,105,122]⟩:ByteArray),[ab rd false,ab rn false,aB (32-a),aB (c+1)]):=by simp only [FdV.F,cx];first | (rw [if_pos (by omega)];rfl) | (rw [if_neg (by omega)];rfl)
 have hfq:fdQ ((⟨(⟨#[115,98,102,105,122]⟩:ByteArray),(⟨#[115,98,102,120]⟩:ByteArray),32,true⟩:FdV),⟨5,false,ss,rd,rn,rm,ra,a,0,c⟩):=by unfold fdQ;simp only [];omega
 simp only [go_sem,b0 hf,k2,hfv,hfq]
theorem pb0z (ss:Bool) (rd rn rm ra c:Int) (hc:0≤c∧c≤63) (hf:¬c=31) (hz:¬c=7∧¬c=15∧¬c=31):Lf Tryz.f47 [(am ae).enc ⟨5,false,ss,rd,rn,rm,ra,0,0,c⟩] (.ret (alO (.ln ((⟨#[115,98,102,120]⟩:ByteArray),[ab rd false,ab rn false,aB 0,aB (c-0+1)]) true))):=by
 refine bfP (ctx:=cP) Tryz.ntmps47 Tryz.results47 rfl ?_
 have hfv:FdV.F (⟨(⟨#[115,98,102,105,122]⟩:ByteArray),(⟨#[115,98,102,120]⟩:ByteArray),32,true⟩:FdV) ⟨5,false,ss,rd,rn,rm,ra,0,0,c⟩=((⟨#[115,98,102,120]⟩:ByteArray),[ab rd false,ab rn false,aB 0,aB (c-0+1)]):=by simp only [FdV.F,cx];first | (rw [if_pos (by omega)];rfl) | (rw [if_neg (by omega)];rfl)
 have hfq:fdQ ((⟨(⟨#[115,98,102,105,122]⟩:ByteArray),(⟨#[115,98,102,120]⟩:ByteArray),32,true⟩:FdV),⟨5,false,ss,rd,rn,rm,ra,0,0,c⟩):=by unfold fdQ;simp only [];omega
 simp only [go_sem,b0 hz.2.2,b0 hz.1,b0 hz.2.1,hfv,hfq]
theorem pb0g (ss:Bool) (rd rn rm ra a c:Int) (ha:0≤a∧a≤63) (hc:0≤c∧c≤63) (hf:¬c=31) (h0:¬a=0) (hl:¬c<a):Lf Tryz.f47 [(am ae).enc ⟨5,false,ss,rd,rn,rm,ra,a,0,c⟩] (.ret (alO (.ln ((⟨#[115,98,102,120]⟩:ByteArray),[ab rd false,ab rn false,aB a,aB (c-a+1)]) true))):=by
 refine bfP (ctx:=cP) Tryz.ntmps47 Tryz.results47 rfl ?_
 have hfv:FdV.F (⟨(⟨#[115,98,102,105,122]⟩:ByteArray),(⟨#[115,98,102,120]⟩:ByteArray),32,true⟩:FdV) ⟨5,false,ss,rd,rn,rm,ra,a,0,c⟩=((⟨#[115,98,102,120]⟩:ByteArray),[ab rd false,ab rn false,aB a,aB (c-a+1)]):=by simp only [FdV.F,cx];first | (rw [if_pos (by omega)];rfl) | (rw [if_neg (by omega)];rfl)
 have hfq:fdQ ((⟨(⟨#[115,98,102,105,122]⟩:ByteArray),(⟨#[115,98,102,120]⟩:ByteArray),32,true⟩:FdV),⟨5,false,ss,rd,rn,rm,ra,a,0,c⟩):=by unfold fdQ;simp only [];omega
 simp only [go_sem,b0 hf,b0 h0,hfv,hfq]
theorem pb1z (ss:Bool) (rd rm ra a c:Int) (ha:0≤a∧a≤63) (hc:0≤c∧c≤63) (hl:c<a):Lf Tryz.f47 [(am ae).enc ⟨5,false,ss,rd,31,rm,ra,a,1,c⟩] (.ret (alO (.ln ((⟨#[98,102,99]⟩:ByteArray),[ab rd false,aB (32-a),aB (c+1)]) true))):=by
 refine bfP (ctx:=cP) Tryz.ntmps47 Tryz.results47 rfl ?_
 have hfv:FdV.F (⟨(⟨#[98,102,99]⟩:ByteArray),(⟨#[98,102,120,105,108]⟩:ByteArray),32,false⟩:FdV) ⟨5,false,ss,rd,31,rm,ra,a,1,c⟩=((⟨#[98,102,99]⟩:ByteArray),[ab rd false,aB (32-a),aB (c+1)]):=by simp only [FdV.F,cx];first | (rw [if_pos (by omega)];rfl) | (rw [if_neg (by omega)];rfl)
 have hfq:fdQ ((⟨(⟨#[98,102,99]⟩:ByteArray),(⟨#[98,102,120,105,108]⟩:ByteArray),32,false⟩:FdV),⟨5,false,ss,rd,31,rm,ra,a,1,c⟩):=by unfold fdQ;simp only [];omega
 have hp2:ak 1 [(⟨#[98,102,105]⟩:ByteArray),(⟨#[98,102,99]⟩:ByteArray)]=(⟨#[98,102,99]⟩:ByteArray):=by decide
 have hf1:an true=1:=rfl
 have hf0:an false=0:=rfl
 simp only [go_sem,hl,hfv,hfq,hp2,hf1,hf0]
 refine aq (ctx:=cP) ax ⟨[8,9],[(4,[805])],[(0,[805]),(5,[805]),(6,[805]),(7,[805])]⟩ (by kernel_rfl) ?_
 simp only [go_sem,hl,hfv,hfq,hp2,hf1,hf0]
theorem pb1l (ss:Bool) (rd rn rm ra a c:Int) (ha:0≤a∧a≤63) (hc:0≤c∧c≤63) (hl:c<a) (hn:¬rn=31):Lf Tryz.f47 [(am ae).enc ⟨5,false,ss,rd,rn,rm,ra,a,1,c⟩] (.ret (alO (.ln ((⟨#[98,102,105]⟩:ByteArray),[ab rd false,ab rn false,aB (32-a),aB (c+1)]) true))):=by
 refine bfP (ctx:=cP) Tryz.ntmps47 Tryz.results47 rfl ?_
 have hfv:FdV.F (⟨(⟨#[98,102,105]⟩:ByteArray),(⟨#[98,102,120,105,108]⟩:ByteArray),32,true⟩:FdV) ⟨5,false,ss,rd,rn,rm,ra,a,1,c⟩=((⟨#[98,102,105]⟩:ByteArray),[ab rd false,ab rn false,aB (32-a),aB (c+1)]):=by simp only [FdV.F,cx];first | (rw [if_pos (by omega)];rfl) | (rw [if_neg (by omega)];rfl)
 have hfq:fdQ ((⟨(⟨#[98,102,105]⟩:ByteArray),(⟨#[98,102,120,105,108]⟩:ByteArray),32,true⟩:FdV),⟨5,false,ss,rd,rn,rm,ra,a,1,c⟩):=by unfold fdQ;simp only [];omega
 have hp2:ak 0 [(⟨#[98,102,105]⟩:ByteArray),(⟨#[98,102,99]⟩:ByteArray)]=(⟨#[98,102,105]⟩:ByteArray):=by decide
 have hf1:an true=1:=rfl
 have hf0:an false=0:=rfl
 simp only [go_sem,hl,b0 hn,hfv,hfq,hp2,hf1,hf0]
 refine aq (ctx:=cP) ax ⟨[8,9],[(4,[805])],[(0,[805]),(5,[805]),(6,[805]),(7,[805])]⟩ (by kernel_rfl) ?_
 simp only [go_sem,hl,b0 hn,hfv,hfq,hp2,hf1,hf0]
theorem pb1g (ss:Bool) (rd rn rm ra a c:Int) (ha:0≤a∧a≤63) (hc:0≤c∧c≤63) (hl:¬c<a):Lf Tryz.f47 [(am ae).enc ⟨5,false,ss,rd,rn,rm,ra,a,1,c⟩] (.ret (alO (.ln ((⟨#[98,102,120,105,108]⟩:ByteArray),[ab rd false,ab rn false,aB a,aB (c-a+1)]) true))):=by
 refine bfP (ctx:=cP) Tryz.ntmps47 Tryz.results47 rfl ?_
 have hfv:FdV.F (⟨(⟨#[98,102,105]⟩:ByteArray),(⟨#[98,102,120,105,108]⟩:ByteArray),32,true⟩:FdV) ⟨5,false,ss,rd,rn,rm,ra,a,1,c⟩=((⟨#[98,102,120,105,108]⟩:ByteArray),[ab rd false,ab rn false,aB a,aB (c-a+1)]):=by simp only [FdV.F,cx];first | (rw [if_pos (by omega)];rfl) | (rw [if_neg (by omega)];rfl)
 have hfq:fdQ ((⟨(⟨#[98,102,105]⟩:ByteArray),(⟨#[98,102,120,105,108]⟩:ByteArray),32,true⟩:FdV),⟨5,false,ss,rd,rn,rm,ra,a,1,c⟩):=by unfold fdQ;simp only [];omega
 have hp2:ak 0 [(⟨#[98,102,105]⟩:ByteArray),(⟨#[98,102,99]⟩:ByteArray)]=(⟨#[98,102,105]⟩:ByteArray):=by decide
 have hf1:an true=1:=rfl
 have hf0:an false=0:=rfl
 simp only [go_sem,hl,hfv,hfq,hp2,hf1,hf0]
 refine aq (ctx:=cP) ax ⟨[8,9],[(4,[757])],[(0,[757]),(5,[757]),(6,[757]),(7,[757])]⟩ (by kernel_rfl) ?_
 simp only [go_sem,hl,hfv,hfq,hp2,hf1,hf0]
theorem pb2f (ss:Bool) (rd rn rm ra a:Int):Lf Tryz.f47 [(am ae).enc ⟨5,false,ss,rd,rn,rm,ra,a,2,31⟩] (.ret (alO (.ln ((⟨#[108,115,114]⟩:ByteArray),[ab rd false,ab rn false,aB a]) true))):=by
 refine bfP (ctx:=cP) Tryz.ntmps47 Tryz.results47 rfl ?_
 simp only [go_sem]
theorem pb2s (ss:Bool) (rd rn rm ra a c:Int) (ha:0≤a∧a≤63) (hc:0≤c∧c≤63) (hf:¬c=31) (hs:c+1=a):Lf Tryz.f47 [(am ae).enc ⟨5,false,ss,rd,rn,rm,ra,a,2,c⟩] (.ret (alO (.ln ((⟨#[108,115,108]⟩:ByteArray),[ab rd false,ab rn false,aB (32-a)]) true))):=by
 refine bfP (ctx:=cP) Tryz.ntmps47 Tryz.results47 rfl ?_
 have k2:IntKind.i64.wrap (c+1)=c+1:=wr (by omega)
 have k3:((c+1)==(a:Int))=true:=b1 (by omega)
 have k4:IntKind.i64.wrap (32-a)=32-a:=wr (by omega)
 simp only [go_sem,b0 hf,k2,k3,k4]
 refine aq (ctx:=cP) ax ⟨[6],[],[]⟩ (by kernel_rfl) ?_
 simp only [go_sem,b0 hf,k2,k3,k4]
theorem pb27 (ss:Bool) (rd rn rm ra:Int):Lf Tryz.f47 [(am ae).enc ⟨5,false,ss,rd,rn,rm,ra,0,2,7⟩] (.ret (alO (.ln ((⟨#[117,120,116,98]⟩:ByteArray),[ab rd false,ab rn false]) true))):=by
 refine bfP (ctx:=cP) Tryz.ntmps47 Tryz.results47 rfl ?_
 have hsh:Int.fdiv 7 (2 ^ min 3 64)=0:=rfl
 have hpk:ak 0 [(⟨#[117,120,116,98]⟩:ByteArray),(⟨#[117,120,116,104]⟩:ByteArray)]=(⟨#[117,120,116,98]⟩:ByteArray):=by decide
 simp only [go_sem,hsh,hpk]
 refine aq (ctx:=cP) ax ⟨[11,12],[(5,[1045])],[(0,[1045]),(6,[1045]),(7,[1045]),(8,[1045]),(9,[1045]),(10,[1045])]⟩ (by kernel_rfl) ?_
 simp only [go_sem,hsh,hpk]
theorem NU (ss:Bool) (rd rn rm ra:Int):Lf Tryz.f47 [(am ae).enc ⟨5,false,ss,rd,rn,rm,ra,0,2,15⟩] (.ret (alO (.ln ((⟨#[117,120,116,104]⟩:ByteArray),[ab rd false,ab rn false]) true))):=by
 refine bfP (ctx:=cP) Tryz.ntmps47 Tryz.results47 rfl ?_
 have hsh:Int.fdiv 15 (2 ^ min 3 64)=1:=rfl
 have hpk:ak 1 [(⟨#[117,120,116,98]⟩:ByteArray),(⟨#[117,120,116,104]⟩:ByteArray)]=(⟨#[117,120,116,104]⟩:ByteArray):=by decide
 simp only [go_sem,hsh,hpk]
 refine aq (ctx:=cP) ax ⟨[11,12],[(5,[1093])],[(0,[1093]),(6,[1093]),(7,[1093]),(8,[1093]),(9,[1093]),(10,[1093])]⟩ (by kernel_rfl) ?_
 simp only [go_sem,hsh,hpk]
theorem pb2z (ss:Bool) (rd rn rm ra c:Int) (hc:0≤c∧c≤63) (hf:¬c=31) (hz:¬c=7∧¬c=15):Lf Tryz.f47 [(am ae).enc ⟨5,false,ss,rd,rn,rm,ra,0,2,c⟩] (.ret (alO (.ln ((⟨#[117,98,102,120]⟩:ByteArray),[ab rd false,ab rn false,aB 0,aB (c-0+1)]) true))):=by
 refine bfP (ctx:=cP) Tryz.ntmps47 Tryz.results47 rfl ?_
 have k2:IntKind.i64.wrap (c+1)=c+1:=wr (by omega)
 have k3:((c+1)==(0:Int))=false:=b0 (by omega)
 have hfv:FdV.F (⟨(⟨#[117,98,102,105,122]⟩:ByteArray),(⟨#[117,98,102,120]⟩:ByteArray),32,true⟩:FdV) ⟨5,false,ss,rd,rn,rm,ra,0,2,c⟩=((⟨#[117,98,102,120]⟩:ByteArray),[ab rd false,ab rn false,aB 0,aB (c-0+1)]):=by simp only [FdV.F,cx];first | (rw [if_pos (by omega)];rfl) | (rw [if_neg (by omega)];rfl)
 have hfq:fdQ ((⟨(⟨#[117,98,102,105,122]⟩:ByteArray),(⟨#[117,98,102,120]⟩:ByteArray),32,true⟩:FdV),⟨5,false,ss,rd,rn,rm,ra,0,2,c⟩):=by unfold fdQ;simp only [];omega
 simp only [go_sem,b0 hf,k2,k3,b0 hz.1,b0 hz.2,hfv,hfq]
theorem pb2l (ss:Bool) (rd rn rm ra a c:Int) (ha:0≤a∧a≤63) (hc:0≤c∧c≤63) (hf:¬c=31) (hs:¬c+1=a) (hl:c<a):Lf Tryz.f47 [(am ae).enc ⟨5,false,ss,rd,rn,rm,ra,a,2,c⟩] (.ret (alO (.ln ((⟨#[117,98,102,105,122]⟩:ByteArray),[ab rd false,ab rn false,aB (32-a),aB (c+1)]) true))):=by
 refine bfP (ctx:=cP) Tryz.ntmps47 Tryz.results47 rfl ?_
 have k2:IntKind.i64.wrap (c+1)=c+1:=wr (by omega)
 have k3:((c+1)==(a:Int))=false:=b0 (by omega)
 have k4:(a==(0:Int))=false:=b0 (by omega)
 have hfv:FdV.F (⟨(⟨#[117,98,102,105,122]⟩:ByteArray),(⟨#[117,98,102,120]⟩:ByteArray),32,true⟩:FdV) ⟨5,false,ss,rd,rn,rm,ra,a,2,c⟩=((⟨#[117,98,102,105,122]⟩:ByteArray),[ab rd false,ab rn false,aB (32-a),aB (c+1)]):=by simp only [FdV.F,cx];first | (rw [if_pos (by omega)];rfl) | (rw [if_neg (by omega)];rfl)
 have hfq:fdQ ((⟨(⟨#[117,98,102,105,122]⟩:ByteArray),(⟨#[117,98,102,120]⟩:ByteArray),32,true⟩:FdV),⟨5,false,ss,rd,rn,rm,ra,a,2,c⟩):=by unfold fdQ;simp only [];omega
 simp only [go_sem,b0 hf,k2,k3,k4,hfv,hfq]
theorem pb2g (ss:Bool) (rd rn rm ra a c:Int) (ha:0≤a∧a≤63) (hc:0≤c∧c≤63) (hf:¬c=31) (h0:¬a=0) (hl:¬c<a):Lf Tryz.f47 [(am ae).enc ⟨5,false,ss,rd,rn,rm,ra,a,2,c⟩] (.ret (alO (.ln ((⟨#[117,98,102,120]⟩:ByteArray),[ab rd false,ab rn false,aB a,aB (c-a+1)]) true))):=by
 refine bfP (ctx:=cP) Tryz.ntmps47 Tryz.results47 rfl ?_
 have k2:IntKind.i64.wrap (c+1)=c+1:=wr (by omega)
 have k3:((c+1)==(a:Int))=false:=b0 (by omega)
 have hfv:FdV.F (⟨(⟨#[117,98,102,105,122]⟩:ByteArray),(⟨#[117,98,102,120]⟩:ByteArray),32,true⟩:FdV) ⟨5,false,ss,rd,rn,rm,ra,a,2,c⟩=((⟨#[117,98,102,120]⟩:ByteArray),[ab rd false,ab rn false,aB a,aB (c-a+1)]):=by simp only [FdV.F,cx];first | (rw [if_pos (by omega)];rfl) | (rw [if_neg (by omega)];rfl)
 have hfq:fdQ ((⟨(⟨#[117,98,102,105,122]⟩:ByteArray),(⟨#[117,98,102,120]⟩:ByteArray),32,true⟩:FdV),⟨5,false,ss,rd,rn,rm,ra,a,2,c⟩):=by unfold fdQ;simp only [];omega
 simp only [go_sem,b0 hf,k2,k3,b0 h0,hfv,hfq]
end
end Go.Proofs.YtpjlafmhoifkmaaGreat
