import Derived.Test.YtpjlafmhoifkmaaGreatM13
import Derived.Test.YtpjlafmhoifkmaaGreatM23
import Derived.Test.YtpjlafmhoifkmaaGreatM25
import Derived.Test.YtpjlafmhoifkmaaGreatM28
import Derived.Test.YtpjlafmhoifkmaaGreatM29
set_option linter.unusedVariables false
set_option linter.unusedSimpArgs false
set_option maxRecDepth 100000
set_option maxHeartbeats 8000000
namespace Go.Proofs.YtpjlafmhoifkmaaGreat
section
open Go.RowKit
def bz (x:Ins):cE:=if x.op≤6 then fY x else if x.op≤12 then brF x else if x.op≤17 then dT x else if x.op≤23 then ldF x else if x.op≤28 then bP x else bM x
theorem EP (x:Ins) (hq:PlB x):SW Tryz.prog ⟨none,0⟩ Tryz.f27.ntmps (Tryz.f27.body.getD .skip) ⟨0,ag 0 [(ai ac).enc x],[]⟩ (ax Tryz.prog Tryz.f27.results.toList (.ret (aj (bz x)))):=by
 refine aa (ctx:=[⟨_,M4⟩,⟨_,brS⟩,⟨_,rj⟩,⟨_,xf⟩,⟨_,C9⟩,⟨_,uE⟩]) 4000 ?_
 rw [Tryz.ntmps27,Tryz.results27]
 simp only [Tryz.f27,Option.getD_some,ag]
 have ho:=hq.op
 by_cases h6:x.op≤6
 ·have e:bz x=fY x:=by unfold bz;rw [if_pos h6]
  have q:GX x:=⟨ho.1,h6,fun h=>by have:=hq.adr h;omega,fun h=>hq.wide h⟩
  rw [e]
  simp only [go_sem,ac,h6,IG,Hu,q,aj]
 by_cases h12:x.op≤12
 ·have e:bz x=brF x:=by unfold bz;rw [if_neg h6,if_pos h12]
  have q:brQ x:=⟨by omega,h12,fun h=>by have:=hq.far (by omega) h;unfold Bz;omega⟩
  rw [e]
  simp only [go_sem,ac,h6,h12,Ly,LN,q,aj]
 by_cases h17:x.op≤17
 ·have e:bz x=dT x:=by unfold bz;rw [if_neg h6,if_neg h12,if_pos h17]
  have q:DN x:=⟨by omega,h17,fun h=>by have:=hq.sys h;omega⟩
  rw [e]
  simp only [go_sem,ac,h6,h12,h17,wq,vf,q,aj]
 by_cases h23:x.op≤23
 ·have e:bz x=ldF x:=by unfold bz;rw [if_neg h6,if_neg h12,if_neg h17,if_pos h23]
  have q:ldQ x:=⟨by omega,h23,fun h=>by have:=hq.lit (by omega);omega,fun h1 h2=>⟨h1,h2,fun h=>by have:=hq.ld h;omega,fun h=>hq.idx h,fun h=>hq.reg h⟩⟩
  rw [e]
  simp only [go_sem,ac,h6,h12,h17,h23,Cv,AF,q,aj]
 by_cases h28:x.op≤28
 ·have e:bz x=bP x:=by unfold bz;rw [if_neg h6,if_neg h12,if_neg h17,if_neg h23,if_pos h28]
  have q:GQ x:=⟨by omega,h28,fun h=>hq.logR h,fun h=>hq.mods (by omega) h⟩
  rw [e]
  simp only [go_sem,ac,h6,h12,h17,h23,h28,Gq,E8,q,aj]
 ·have e:bz x=bM x:=by unfold bz;rw [if_neg h6,if_neg h12,if_neg h17,if_neg h23,if_neg h28]
  have q:DR x:=⟨by omega,ho.2,fun h=>hq.two h⟩
  rw [e]
  simp only [go_sem,ac,h6,h12,h17,h23,h28,zI,yH,q,aj]
def q7:aJ Tryz.prog 27 :=
 mk1 _ _ _ Tryz.func27 rfl (fun _ _=>by go_simp) (ai ac) (PlB) ((fun x=>.ret (aj (bz x)))) (by rw [Tryz.ntmps27];decide) (fun x h=>EP x h)
theorem oV {id:Nat} {h:am} {args:List AV}:(q7).run id h args=aY (au (ai ac) (PlB)) ((fun x=>.ret (aj (bz x)))) h args:=rfl
theorem pB {id:Nat} {h:am} {args:List AV}:(q7).pan id h args=aZ (au (ai ac) (PlB)) ((fun x=>.ret (aj (bz x)))) h args:=rfl
def lnO (r:cE):AV:=.tup [.agg [.v (.string r.1),.d (.sd 15 (r.2.map opE))],.l (.v (.int .i64 0))]
def xY:AV:=.tup [.agg [.v (.string emp),.v (.slice none 0 0)],.l (.v (.int .i64 40))]
theorem tB {x:Ins} (h:¬ay x=0):ay x=40:=by
 unfold ay at h ⊢
 split
 ·rename_i h1;rw [if_pos h1] at h;exact absurd rfl h
 ·rfl
end
section
open Go.RowKit
def gD:Option cE→AV
 | some r=>.tup [.agg [.v (.string r.1),.d (.sd 15 (r.2.map opE))],.l (.v (.bool true))]
 | none=>.tup [.agg [.v (.string emp),.v (.slice none 0 0)],.l (.v (.bool false))]
def wrA (x:Ins):St:=⟨4,[(1,.s (.l (.p 0 0 0))),(2,.s (.l (.p 1 0 0))),(3,bv false),(4,.s (.l (.p 2 0 0)))],[(0,some ⟨true,27,10,[az x]⟩),(1,some bQ),(2,some (wrK x emp 0 3)),(3,some (aD []))]⟩
def tM (x:Ins):Prop:=x.b=1∧x.s=false∧x.rn=31∧x.a=0∧x.c=0
def sI (x:Ins):Prop:=x.b=1∧x.s=true∧x.rd=31∧x.a=0∧x.c=0
theorem AJ (x:Ins) (h:tM x):SW Tryz.prog ⟨none,0⟩ Tryz.f52.ntmps (Tryz.f52.body.getD .skip) ⟨0,ag 0 [(ai ac).enc x],[]⟩ (ax Tryz.prog Tryz.f52.results.toList (.ret (gD (some ((⟨#[109,111,118]⟩:ByteArray),[dO x,mO x]))))):=by
 rw [Tryz.ntmps52,Tryz.results52]
 simp only [Tryz.f52,Option.getD_some,ag]
 refine aE (aa (ctx:=[]) 4000 ?_)
 simp only [go_sem,aS,ac]
 refine aE (aa (ctx:=[]) 4000 ?_)
 simp only [go_sem,aS]
 refine SW.wk (s':=wrA x) ?_ ((Wk.nilC 80 11 40 15 (k:=⟨true,68,12,[az x++[.v (.string emp),.v (.slice none 0 0)]]⟩) rfl rfl rfl).trans (Wk.renL [0,16,80,112] (by simp) (by simp [wrA]) (by decide) rfl rfl))
 refine aa (ctx:=[⟨_,cI cC⟩]) 4000 ?_
 obtain ⟨h1,h2,h3,h4,h5⟩:=h
 have b1:(x.b==1)=true:=by simpa using h1
 have b3:(x.rn==31)=true:=by simpa using h3
 have b4:(x.a==0)=true:=by simpa using h4
 have b5:(x.c==0)=true:=by simpa using h5
 simp only [go_sem,wrA,az,wrK,aD,bQ,b1,h2,b3,b4,b5,aV,bV,bj,bk,co,bX,bp,aT,aq,aX,ci,gOf,aH,aF,aI,gD,cn,bF,bh,lU,wc,gS,kF]
 rfl
theorem Bd (x:Ins) (ho:x.op=25) (h:sI x):SW Tryz.prog ⟨none,0⟩ Tryz.f53.ntmps (Tryz.f53.body.getD .skip) ⟨0,ag 0 [(ai ac).enc x],[]⟩ (ax Tryz.prog Tryz.f53.results.toList (.ret (gD (some ((⟨#[99,109,112]⟩:ByteArray),[nO x,mO x]))))):=by
 rw [Tryz.ntmps53,Tryz.results53]
 simp only [Tryz.f53,Option.getD_some,ag]
 refine aE (aa (ctx:=[]) 4000 ?_)
 simp only [go_sem,aS,ac]
 refine aE (aa (ctx:=[]) 4000 ?_)
 simp only [go_sem,aS]
 refine SW.wk (s':=wrA x) ?_ ((Wk.nilC 80 11 40 15 (k:=⟨true,68,12,[az x++[.v (.string emp),.v (.slice none 0 0)]]⟩) rfl rfl rfl).trans (Wk.renL [0,16,80,112] (by simp) (by simp [wrA]) (by decide) rfl rfl))
 refine aa (ctx:=[⟨_,bJ⟩,⟨_,cI bG⟩]) 4000 ?_
 obtain ⟨h1,h2,h3,h4,h5⟩:=h
 have b0:(x.op==27)=false:=by rw [ho];decide
 have b3:(x.rd==31)=true:=by simpa using h3
 have hp:ae 1 [(⟨#[99,109,110]⟩:ByteArray),(⟨#[99,109,112]⟩:ByteArray)]=(⟨#[99,109,112]⟩:ByteArray):=by decide
 have hm:cK x [nO x,mO x]=[nO x,mO x]:=o5 ⟨h4,h5⟩
 have hc:0≤x.c∧x.c≤7:=by omega
 simp only [go_sem,wrA,az,wrK,aD,bQ,b0,h1,h2,b3,aL,aK,bU,bW,bu,aC,aH,bm,hp,aV,bV,bj,bk,co,bX,bp,aT,aq,aX,ci,gOf,aF,aI,gD,cn,bF,bh,lI,ng,lD,iO,kF,mK,hm,h4,h5,o5,and_self]
 rfl
def uS:aJ Tryz.prog 52 :=
 mk1 _ _ _ Tryz.func52 rfl (fun _ _=>by go_simp) (ai ac) (tM) ((fun x=>.ret (gD (some ((⟨#[109,111,118]⟩:ByteArray),[dO x,mO x]))))) (by rw [Tryz.ntmps52];decide) (fun x h=>AJ x h)
theorem yN {id:Nat} {h:am} {args:List AV}:(uS).run id h args=aY (au (ai ac) (tM)) ((fun x=>.ret (gD (some ((⟨#[109,111,118]⟩:ByteArray),[dO x,mO x]))))) h args:=rfl
theorem yT {id:Nat} {h:am} {args:List AV}:(uS).pan id h args=aZ (au (ai ac) (tM)) ((fun x=>.ret (gD (some ((⟨#[109,111,118]⟩:ByteArray),[dO x,mO x]))))) h args:=rfl
def ug:aJ Tryz.prog 53 :=
 mk1 _ _ _ Tryz.func53 rfl (fun _ _=>by go_simp) (ai ac) ((fun x=>x.op=25∧sI x)) ((fun x=>.ret (gD (some ((⟨#[99,109,112]⟩:ByteArray),[nO x,mO x]))))) (by rw [Tryz.ntmps53];decide) (fun x h=>Bd x h.1 h.2)
theorem zj {id:Nat} {h:am} {args:List AV}:(ug).run id h args=aY (au (ai ac) ((fun x=>x.op=25∧sI x))) ((fun x=>.ret (gD (some ((⟨#[99,109,112]⟩:ByteArray),[nO x,mO x]))))) h args:=rfl
theorem yf {id:Nat} {h:am} {args:List AV}:(ug).pan id h args=aZ (au (ai ac) ((fun x=>x.op=25∧sI x))) ((fun x=>.ret (gD (some ((⟨#[99,109,112]⟩:ByteArray),[nO x,mO x]))))) h args:=rfl
def iV (x:Ins):cE:=if x.op=24 then ((⟨#[109,111,118]⟩:ByteArray),[dO x,mO x]) else ((⟨#[99,109,112]⟩:ByteArray),[nO x,mO x])
def alQ (x:Ins):Prop:=(x.op=24∧tM x)∨(x.op=25∧sI x)
theorem D9 (x:Ins) (h:alQ x):SW Tryz.prog ⟨none,0⟩ Tryz.f26.ntmps (Tryz.f26.body.getD .skip) ⟨0,ag 0 [(ai ac).enc x],[]⟩ (ax Tryz.prog Tryz.f26.results.toList (.ret (gD (some (iV x))))):=by
 refine aa (ctx:=[⟨_,uS⟩,⟨_,ug⟩]) 4000 ?_
 rw [Tryz.ntmps26,Tryz.results26]
 simp only [Tryz.f26,Option.getD_some,ag]
 rcases h with ⟨h,hq⟩ | ⟨h,hq⟩
 ·have e:iV x=((⟨#[109,111,118]⟩:ByteArray),[dO x,mO x]):=by unfold iV;rw [if_pos h]
  have hq':tM ⟨24,x.x,x.s,x.rd,x.rn,x.rm,x.ra,x.a,x.b,x.c⟩:=hq
  rw [e]
  simp only [go_sem,ac,h,yN,yT,hq',gD]
  rfl
 ·have e:iV x=((⟨#[99,109,112]⟩:ByteArray),[nO x,mO x]):=by unfold iV;rw [if_neg (by omega)]
  have hq':sI ⟨25,x.x,x.s,x.rd,x.rn,x.rm,x.ra,x.a,x.b,x.c⟩:=hq
  rw [e]
  simp only [go_sem,ac,h,zj,yf,hq',gD]
  rfl
def zb:aJ Tryz.prog 26 :=
 mk1 _ _ _ Tryz.func26 rfl (fun _ _=>by go_simp) (ai ac) (alQ) ((fun x=>.ret (gD (some (iV x))))) (by rw [Tryz.ntmps26];decide) (fun x h=>D9 x h)
theorem AW {id:Nat} {h:am} {args:List AV}:(zb).run id h args=aY (au (ai ac) (alQ)) ((fun x=>.ret (gD (some (iV x))))) h args:=rfl
theorem B6 {id:Nat} {h:am} {args:List AV}:(zb).pan id h args=aZ (au (ai ac) (alQ)) ((fun x=>.ret (gD (some (iV x))))) h args:=rfl
def lnQ (x:Ins):Prop:=ay x=0∧alQ x
def yd:aJ Tryz.prog 9 :=
 mk1 _ _ _ Tryz.func9 rfl (fun _ _=>by go_simp) (ai ac) (lnQ) ((fun x=>.ret (lnO (iV x)))) (by rw [Tryz.ntmps9];decide) (fun x h=>by
 refine aa (ctx:=[⟨_,qB⟩,⟨_,zb⟩]) 4000 ?_
 rw [Tryz.ntmps9,Tryz.results9]
 simp only [Tryz.f9,Option.getD_some,ag]
 obtain ⟨h1,h3⟩:=h
 simp only [go_sem,ac,j0,jO,h1,AW,B6,h3,gD,lnO])
theorem Bg {id:Nat} {h:am} {args:List AV}:(yd).run id h args=aY (au (ai ac) (lnQ)) ((fun x=>.ret (lnO (iV x)))) h args:=rfl
theorem Cg {id:Nat} {h:am} {args:List AV}:(yd).pan id h args=aZ (au (ai ac) (lnQ)) ((fun x=>.ret (lnO (iV x)))) h args:=rfl
def L1:Ins:=⟨24,true,false,0,31,1,0,0,1,0⟩
def L2:Ins:=⟨25,true,true,31,1,2,0,0,1,0⟩
theorem QI:lnQ ⟨24,true,false,0,31,1,0,0,1,0⟩:=⟨by decide,.inl ⟨rfl,rfl,rfl,rfl,rfl,rfl⟩⟩
theorem Rx:lnQ ⟨25,true,true,31,1,2,0,0,1,0⟩:=⟨by decide,.inr ⟨rfl,rfl,rfl,rfl,rfl,rfl⟩⟩
theorem Qp:iV ⟨24,true,false,0,31,1,0,0,1,0⟩=((⟨#[109,111,118]⟩:ByteArray),[dO L1,mO L1]):=rfl
theorem O4:iV ⟨25,true,true,31,1,2,0,0,1,0⟩=((⟨#[99,109,112]⟩:ByteArray),[nO L2,mO L2]):=rfl
def FF:aJ Tryz.prog 7 :=
 mk0 _ _ _ Tryz.func7 rfl (fun _ _=>by go_simp) (True) ((.ret (bv true))) (fun _=>by
 refine aa (ctx:=[⟨_,yd⟩]) 4000 ?_
 rw [Tryz.ntmps7,Tryz.results7]
 simp only [Tryz.f7,Option.getD_some,ag]
 simp only [go_sem,ac,Bg,Cg,QI,Rx,Qp,O4,lnO])
theorem D6 {id:Nat} {h:am} {args:List AV}:(FF).run id h args=aY (nl (True)) (fun _=>(.ret (bv true))) h args:=rfl
theorem C5 {id:Nat} {h:am} {args:List AV}:(FF).pan id h args=aZ (nl (True)) (fun _=>(.ret (bv true))) h args:=rfl
end
end Go.Proofs.YtpjlafmhoifkmaaGreat
