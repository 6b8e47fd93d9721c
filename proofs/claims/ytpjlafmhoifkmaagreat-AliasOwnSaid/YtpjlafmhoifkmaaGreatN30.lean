import Derived.Test.YtpjlafmhoifkmaaGreatN13
import Derived.Test.YtpjlafmhoifkmaaGreatN23
import Derived.Test.YtpjlafmhoifkmaaGreatN25
import Derived.Test.YtpjlafmhoifkmaaGreatN28
import Derived.Test.YtpjlafmhoifkmaaGreatN29
set_option linter.unusedVariables false
set_option linter.unusedSimpArgs false
set_option maxRecDepth 100000
set_option maxHeartbeats 8000000
namespace Go.Proofs.YtpjlafmhoifkmaaGreat
section
open Go.RowKit
def aj (x:Ins):cG:=if x.op≤6 then d8 x else if x.op≤12 then brF x else if x.op≤17 then cY x else if x.op≤23 then ldF x else if x.op≤28 then bx x else bG x
theorem Eb (x:Ins) (hq:PlB x):SW Tryz.prog ⟨none,0⟩ Tryz.f27.ntmps (Tryz.f27.body.getD .skip) ⟨0,ag 0 [(am ae).enc x],[]⟩ (aH Tryz.prog Tryz.f27.results.toList (.ret (au (aj x)))):=by
 refine aa (ctx:=[⟨_,I6⟩,⟨_,brS⟩,⟨_,oY⟩,⟨_,vS⟩,⟨_,Cr⟩,⟨_,qQ⟩]) 4000 ?_
 rw [Tryz.ntmps27,Tryz.results27]
 simp only [Tryz.f27,Option.getD_some,ag]
 have ho:=hq.op
 by_cases h6:x.op≤6
 ·have e:aj x=d8 x:=by unfold aj;rw [if_pos h6]
  have q:Bf x:=⟨ho.1,h6,fun h=>by have:=hq.adr h;omega,fun h=>hq.wide h⟩
  rw [e]
  simp only [go_sem,ae,h6,Gx,FH,q,au]
 by_cases h12:x.op≤12
 ·have e:aj x=brF x:=by unfold aj;rw [if_neg h6,if_pos h12]
  have q:brQ x:=⟨by omega,h12,fun h=>by have:=hq.far (by omega) h;unfold yD;omega⟩
  rw [e]
  simp only [go_sem,ae,h6,h12,IJ,I9,q,au]
 by_cases h17:x.op≤17
 ·have e:aj x=cY x:=by unfold aj;rw [if_neg h6,if_neg h12,if_pos h17]
  have q:Cj x:=⟨by omega,h17,fun h=>by have:=hq.sys h;omega⟩
  rw [e]
  simp only [go_sem,ae,h6,h12,h17,sy,tM,q,au]
 by_cases h23:x.op≤23
 ·have e:aj x=ldF x:=by unfold aj;rw [if_neg h6,if_neg h12,if_neg h17,if_pos h23]
  have q:ldQ x:=⟨by omega,h23,fun h=>by have:=hq.lit (by omega);omega,fun h1 h2=>⟨h1,h2,fun h=>by have:=hq.ld h;omega,fun h=>hq.idx h,fun h=>hq.reg h⟩⟩
  rw [e]
  simp only [go_sem,ae,h6,h12,h17,h23,zp,zo,q,au]
 by_cases h28:x.op≤28
 ·have e:aj x=bx x:=by unfold aj;rw [if_neg h6,if_neg h12,if_neg h17,if_neg h23,if_pos h28]
  have q:DB x:=⟨by omega,h28,fun h=>hq.logR h,fun h=>hq.mods (by omega) h⟩
  rw [e]
  simp only [go_sem,ae,h6,h12,h17,h23,h28,CY,Bx,q,au]
 ·have e:aj x=bG x:=by unfold aj;rw [if_neg h6,if_neg h12,if_neg h17,if_neg h23,if_neg h28]
  have q:Ec x:=⟨by omega,ho.2,fun h=>hq.two h⟩
  rw [e]
  simp only [go_sem,ae,h6,h12,h17,h23,h28,wx,uO,q,au]
def l8:aQ Tryz.prog 27 :=
 mk1 _ _ _ Tryz.func27 rfl (fun _ _=>by go_simp) (am ae) (PlB) ((fun x=>.ret (au (aj x)))) (by rw [Tryz.ntmps27];decide) (fun x h=>Eb x h)
theorem j8 {id:Nat} {h:ah} {args:List AV}:(l8).run id h args=bm (av (am ae) (PlB)) ((fun x=>.ret (au (aj x)))) h args:=rfl
theorem j5 {id:Nat} {h:ah} {args:List AV}:(l8).pan id h args=bt (av (am ae) (PlB)) ((fun x=>.ret (au (aj x)))) h args:=rfl
def lnO (r:cG):AV:=.tup [.agg [.v (.string r.1),.d (.sd 15 (r.2.map opE))],.l (.v (.int .i64 0))]
def zX:AV:=.tup [.agg [.v (.string emp),.v (.slice none 0 0)],.l (.v (.int .i64 40))]
def plO (x:Ins):AV:=if ao x=0 then lnO (aj x) else zX
theorem j3 {x:Ins} (h:¬ao x=0):ao x=40:=by
 unfold ao at h ⊢
 split
 ·rename_i h1;rw [if_pos h1] at h;exact absurd rfl h
 ·rfl
def rk:aQ Tryz.prog 11 :=
 mk1 _ _ _ Tryz.func11 rfl (fun _ _=>by go_simp) (am ae) ((fun _=>True)) ((fun x=>.ret (plO x))) (by rw [Tryz.ntmps11];decide) (fun x _=>by
 refine aa (ctx:=[⟨_,lu⟩,⟨_,l8⟩]) 4000 ?_
 rw [Tryz.ntmps11,Tryz.results11]
 simp only [Tryz.f11,Option.getD_some,ag]
 by_cases h:ao x=0
 ·have q:=gl h
  have e:plO x=lnO (aj x):=by unfold plO;rw [if_pos h]
  rw [e]
  simp only [go_sem,ae,fa,eW,h,j8,j5,q,au,lnO]
 ·have e:plO x=zX:=by unfold plO;rw [if_neg h]
  have h40:=j3 h
  rw [e]
  simp only [go_sem,ae,fa,eW,h40,zX,emp])
theorem wh {id:Nat} {h:ah} {args:List AV}:(rk).run id h args=bm (av (am ae) ((fun _=>True))) ((fun x=>.ret (plO x))) h args:=rfl
theorem ws {id:Nat} {h:ah} {args:List AV}:(rk).pan id h args=bt (av (am ae) ((fun _=>True))) ((fun x=>.ret (plO x))) h args:=rfl
end
section
open Go.RowKit
def et:Option cG→AV
 | some r=>.tup [.agg [.v (.string r.1),.d (.sd 15 (r.2.map opE))],.l (.v (.bool true))]
 | none=>.tup [.agg [.v (.string emp),.v (.slice none 0 0)],.l (.v (.bool false))]
def wrA (x:Ins):St:=⟨4,[(1,.s (.l (.p 0 0 0))),(2,.s (.l (.p 1 0 0))),(3,bv false),(4,.s (.l (.p 2 0 0)))],[(0,some ⟨true,27,10,[aw x]⟩),(1,some bB),(2,some (wrK x emp 0 3)),(3,some (ay []))]⟩
def pZ (x:Ins):Prop:=x.b=1∧x.s=false∧x.rn=31∧x.a=0∧x.c=0
def qN (x:Ins):Prop:=x.b=1∧x.s=true∧x.rd=31∧x.a=0∧x.c=0
theorem Ac (x:Ins) (h:pZ x):SW Tryz.prog ⟨none,0⟩ Tryz.f52.ntmps (Tryz.f52.body.getD .skip) ⟨0,ag 0 [(am ae).enc x],[]⟩ (aH Tryz.prog Tryz.f52.results.toList (.ret (et (some ((⟨#[109,111,118]⟩:ByteArray),[dO x,mO x]))))):=by
 rw [Tryz.ntmps52,Tryz.results52]
 simp only [Tryz.f52,Option.getD_some,ag]
 refine az (aa (ctx:=[]) 4000 ?_)
 simp only [go_sem,aJ,ae]
 refine az (aa (ctx:=[]) 4000 ?_)
 simp only [go_sem,aJ]
 refine SW.wk (s':=wrA x) ?_ ((Wk.nilC 80 11 40 15 (k:=⟨true,68,12,[aw x++[.v (.string emp),.v (.slice none 0 0)]]⟩) rfl rfl rfl).trans (Wk.renL [0,16,80,112] (by simp) (by simp [wrA]) (by decide) rfl rfl))
 refine aa (ctx:=[⟨_,bZ bU⟩]) 4000 ?_
 obtain ⟨h1,h2,h3,h4,h5⟩:=h
 have b1:(x.b==1)=true:=by simpa using h1
 have b3:(x.rn==31)=true:=by simpa using h3
 have b4:(x.a==0)=true:=by simpa using h4
 have b5:(x.c==0)=true:=by simpa using h5
 simp only [go_sem,wrA,aw,wrK,ay,bB,b1,h2,b3,b4,b5,aM,bC,aW,aV,bT,bD,aX,aL,ap,aS,bH,gOf,aG,aF,aK,et,bI,bg,aT,ju,th,eM,iw]
 rfl
theorem yi (x:Ins) (ho:x.op=25) (h:qN x):SW Tryz.prog ⟨none,0⟩ Tryz.f53.ntmps (Tryz.f53.body.getD .skip) ⟨0,ag 0 [(am ae).enc x],[]⟩ (aH Tryz.prog Tryz.f53.results.toList (.ret (et (some ((⟨#[99,109,112]⟩:ByteArray),[nO x,mO x]))))):=by
 rw [Tryz.ntmps53,Tryz.results53]
 simp only [Tryz.f53,Option.getD_some,ag]
 refine az (aa (ctx:=[]) 4000 ?_)
 simp only [go_sem,aJ,ae]
 refine az (aa (ctx:=[]) 4000 ?_)
 simp only [go_sem,aJ]
 refine SW.wk (s':=wrA x) ?_ ((Wk.nilC 80 11 40 15 (k:=⟨true,68,12,[aw x++[.v (.string emp),.v (.slice none 0 0)]]⟩) rfl rfl rfl).trans (Wk.renL [0,16,80,112] (by simp) (by simp [wrA]) (by decide) rfl rfl))
 refine aa (ctx:=[⟨_,bp⟩,⟨_,bZ bh⟩]) 4000 ?_
 obtain ⟨h1,h2,h3,h4,h5⟩:=h
 have b0:(x.op==27)=false:=by rw [ho];decide
 have b3:(x.rd==31)=true:=by simpa using h3
 have hp:ak 1 [(⟨#[99,109,110]⟩:ByteArray),(⟨#[99,109,112]⟩:ByteArray)]=(⟨#[99,109,112]⟩:ByteArray):=by decide
 have hm:bS x [nO x,mO x]=[nO x,mO x]:=mC ⟨h4,h5⟩
 have hc:0≤x.c∧x.c≤7:=by omega
 simp only [go_sem,wrA,aw,wrK,ay,bB,b0,h1,h2,b3,aE,aD,bK,bO,bu,aC,aG,bj,hp,aM,bC,aW,aV,bT,bD,aX,aL,ap,aS,bH,gOf,aF,aK,et,bI,bg,aT,jo,kt,jj,fH,iw,jE,hm,h4,h5,mC,and_self]
 rfl
def rt:aQ Tryz.prog 52 :=
 mk1 _ _ _ Tryz.func52 rfl (fun _ _=>by go_simp) (am ae) (pZ) ((fun x=>.ret (et (some ((⟨#[109,111,118]⟩:ByteArray),[dO x,mO x]))))) (by rw [Tryz.ntmps52];decide) (fun x h=>Ac x h)
theorem ux {id:Nat} {h:ah} {args:List AV}:(rt).run id h args=bm (av (am ae) (pZ)) ((fun x=>.ret (et (some ((⟨#[109,111,118]⟩:ByteArray),[dO x,mO x]))))) h args:=rfl
theorem uR {id:Nat} {h:ah} {args:List AV}:(rt).pan id h args=bt (av (am ae) (pZ)) ((fun x=>.ret (et (some ((⟨#[109,111,118]⟩:ByteArray),[dO x,mO x]))))) h args:=rfl
def qS:aQ Tryz.prog 53 :=
 mk1 _ _ _ Tryz.func53 rfl (fun _ _=>by go_simp) (am ae) ((fun x=>x.op=25∧qN x)) ((fun x=>.ret (et (some ((⟨#[99,109,112]⟩:ByteArray),[nO x,mO x]))))) (by rw [Tryz.ntmps53];decide) (fun x h=>yi x h.1 h.2)
theorem vh {id:Nat} {h:ah} {args:List AV}:(qS).run id h args=bm (av (am ae) ((fun x=>x.op=25∧qN x))) ((fun x=>.ret (et (some ((⟨#[99,109,112]⟩:ByteArray),[nO x,mO x]))))) h args:=rfl
theorem uH {id:Nat} {h:ah} {args:List AV}:(qS).pan id h args=bt (av (am ae) ((fun x=>x.op=25∧qN x))) ((fun x=>.ret (et (some ((⟨#[99,109,112]⟩:ByteArray),[nO x,mO x]))))) h args:=rfl
def fU (x:Ins):cG:=if x.op=24 then ((⟨#[109,111,118]⟩:ByteArray),[dO x,mO x]) else ((⟨#[99,109,112]⟩:ByteArray),[nO x,mO x])
def alQ (x:Ins):Prop:=(x.op=24∧pZ x)∨(x.op=25∧qN x)
theorem DK (x:Ins) (h:alQ x):SW Tryz.prog ⟨none,0⟩ Tryz.f26.ntmps (Tryz.f26.body.getD .skip) ⟨0,ag 0 [(am ae).enc x],[]⟩ (aH Tryz.prog Tryz.f26.results.toList (.ret (et (some (fU x))))):=by
 refine aa (ctx:=[⟨_,rt⟩,⟨_,qS⟩]) 4000 ?_
 rw [Tryz.ntmps26,Tryz.results26]
 simp only [Tryz.f26,Option.getD_some,ag]
 rcases h with ⟨h,hq⟩ | ⟨h,hq⟩
 ·have e:fU x=((⟨#[109,111,118]⟩:ByteArray),[dO x,mO x]):=by unfold fU;rw [if_pos h]
  have hq':pZ ⟨24,x.x,x.s,x.rd,x.rn,x.rm,x.ra,x.a,x.b,x.c⟩:=hq
  rw [e]
  simp only [go_sem,ae,h,ux,uR,hq',et]
  rfl
 ·have e:fU x=((⟨#[99,109,112]⟩:ByteArray),[nO x,mO x]):=by unfold fU;rw [if_neg (by omega)]
  have hq':qN ⟨25,x.x,x.s,x.rd,x.rn,x.rm,x.ra,x.a,x.b,x.c⟩:=hq
  rw [e]
  simp only [go_sem,ae,h,vh,uH,hq',et]
  rfl
def vN:aQ Tryz.prog 26 :=
 mk1 _ _ _ Tryz.func26 rfl (fun _ _=>by go_simp) (am ae) (alQ) ((fun x=>.ret (et (some (fU x))))) (by rw [Tryz.ntmps26];decide) (fun x h=>DK x h)
theorem zb {id:Nat} {h:ah} {args:List AV}:(vN).run id h args=bm (av (am ae) (alQ)) ((fun x=>.ret (et (some (fU x))))) h args:=rfl
theorem xK {id:Nat} {h:ah} {args:List AV}:(vN).pan id h args=bt (av (am ae) (alQ)) ((fun x=>.ret (et (some (fU x))))) h args:=rfl
def lnQ (x:Ins):Prop:=ao x=0∧alQ x
def vQ:aQ Tryz.prog 9 :=
 mk1 _ _ _ Tryz.func9 rfl (fun _ _=>by go_simp) (am ae) (lnQ) ((fun x=>.ret (lnO (fU x)))) (by rw [Tryz.ntmps9];decide) (fun x h=>by
 refine aa (ctx:=[⟨_,lu⟩,⟨_,vN⟩]) 4000 ?_
 rw [Tryz.ntmps9,Tryz.results9]
 simp only [Tryz.f9,Option.getD_some,ag]
 obtain ⟨h1,h3⟩:=h
 simp only [go_sem,ae,fa,eW,h1,zb,xK,h3,et,lnO])
theorem zU {id:Nat} {h:ah} {args:List AV}:(vQ).run id h args=bm (av (am ae) (lnQ)) ((fun x=>.ret (lnO (fU x)))) h args:=rfl
theorem zw {id:Nat} {h:ah} {args:List AV}:(vQ).pan id h args=bt (av (am ae) (lnQ)) ((fun x=>.ret (lnO (fU x)))) h args:=rfl
def L1:Ins:=⟨24,true,false,0,31,1,0,0,1,0⟩
def L2:Ins:=⟨25,true,true,31,1,2,0,0,1,0⟩
theorem Of:lnQ ⟨24,true,false,0,31,1,0,0,1,0⟩:=⟨by decide,.inl ⟨rfl,rfl,rfl,rfl,rfl,rfl⟩⟩
theorem Ow:lnQ ⟨25,true,true,31,1,2,0,0,1,0⟩:=⟨by decide,.inr ⟨rfl,rfl,rfl,rfl,rfl,rfl⟩⟩
theorem Nl:fU ⟨24,true,false,0,31,1,0,0,1,0⟩=((⟨#[109,111,118]⟩:ByteArray),[dO L1,mO L1]):=rfl
theorem Lh:fU ⟨25,true,true,31,1,2,0,0,1,0⟩=((⟨#[99,109,112]⟩:ByteArray),[nO L2,mO L2]):=rfl
def BC:aQ Tryz.prog 7 :=
 mk0 _ _ _ Tryz.func7 rfl (fun _ _=>by go_simp) (True) ((.ret (bv true))) (fun _=>by
 refine aa (ctx:=[⟨_,vQ⟩]) 4000 ?_
 rw [Tryz.ntmps7,Tryz.results7]
 simp only [Tryz.f7,Option.getD_some,ag]
 simp only [go_sem,ae,zU,zw,Of,Ow,Nl,Lh,lnO])
theorem pi {id:Nat} {h:ah} {args:List AV}:(BC).run id h args=bm (kr (True)) (fun _=>(.ret (bv true))) h args:=rfl
theorem oj {id:Nat} {h:ah} {args:List AV}:(BC).pan id h args=bt (kr (True)) (fun _=>(.ret (bv true))) h args:=rfl
end
end Go.Proofs.YtpjlafmhoifkmaaGreat
