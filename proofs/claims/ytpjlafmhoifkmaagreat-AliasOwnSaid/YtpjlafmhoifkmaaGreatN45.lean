import Derived.Test.YtpjlafmhoifkmaaGreatN41
import Derived.Test.YtpjlafmhoifkmaaGreatN10
import Derived.Test.YtpjlafmhoifkmaaGreatN19
import Derived.Test.YtpjlafmhoifkmaaGreatN21
import Derived.Test.YtpjlafmhoifkmaaGreatN42
import Derived.Test.YtpjlafmhoifkmaaGreatN11
set_option linter.unusedVariables false
set_option linter.unusedSimpArgs false
set_option maxRecDepth 100000
set_option maxHeartbeats 8000000
namespace Go.Proofs.YtpjlafmhoifkmaaGreat
section
open Go.RowKit
def ow {X:Type} (D:Xw X) (q:X→Prop) (_:ah) (zs:List AV):Option (Prop×List Nat×X):=(D.dec zs).map fun x=>(q x,[],x)
def Ob {X:Type} (f:FuncId) (fn:Func) (c:Code) (hf:Tryz.prog.funcs[f]? = some fn) (hb:fn.body=some c)
  (hen:∀ (args:Array Value) (w:World),(callFunc f args).run Tryz.prog w=.ok (.enter f args) w) (D:Xw X) (q:X→Prop) (out:X→RO) (hn:D.len≤fn.ntmps) (hn0:0<fn.ntmps)
  (body:∀ x,q x→SW Tryz.prog ⟨none,0⟩ fn.ntmps c ⟨0,ag 0 (D.enc x),[]⟩ (fy Tryz.prog fn.results.toList 0 (out x))):aQ Tryz.prog f :=
 mkQ 0 0 (by decide) f fn c hf hb hen (ow D q) D.enc (fun _=>[]) out hn0 (fun _ hd=>hd)
  (by
   intro h zs q' bs x hd hq
   unfold ow at hd
   cases hx:D.dec zs with
   | none=>rw [hx] at hd;cases hd
   | some y =>
    rw [hx] at hd
    simp only [Option.map_some,Option.some.injEq,Prod.mk.injEq] at hd
    obtain ⟨rfl,rfl,rfl⟩:=hd
    exact ⟨by rw [D.enc_len];exact hn,rfl,rfl,List.nodup_nil,fun d=>⟨fun j b k hj=>by simp at hj,fun ρ al vals hA=>D.ok hx hA⟩⟩)
  (by
   intro h zs q' bs x hd hq
   unfold ow at hd
   cases hx:D.dec zs with
   | none=>rw [hx] at hd;cases hd
   | some y =>
    rw [hx] at hd
    simp only [Option.map_some,Option.some.injEq,Prod.mk.injEq] at hd
    obtain ⟨rfl,rfl,rfl⟩:=hd
    exact body y hq)
theorem Ce (g:Nat→Nat):((fun x=>List.map (fun x=>LV.ren g x) x)∘opL)=opL:=funext fun o=>aF o g
theorem yw (g:Nat→Nat):(List.map (LV.ren g)∘opL)=opL:=funext fun o=>aF o g
def pu (r:cG):RO:=.ret (.s (.agg [.v (.string r.1),.sl 0 0 r.2.length])) [] [ay r.2]
def xwI:Xw Ins:=xwT (am ae) (fun _=>rfl)
theorem Fa (xx:Bool) (rd rn rm ra a b c:Int) (x:Ins) (hx:x=⟨26,xx,true,rd,rn,rm,ra,a,b,c⟩) (hc:0≤x.c∧x.c≤7):SW Tryz.prog ⟨none,0⟩ Tryz.f63.ntmps (Tryz.f63.body.getD .skip) ⟨0,ag 0 [(am ae).enc x],[]⟩ (fy Tryz.prog Tryz.f63.results.toList 0 (pu (bx x))):=by
 rw [Tryz.ntmps63,Tryz.results63]
 simp only [Tryz.f63,Option.getD_some,ag]
 refine az (aa (ctx:=[]) 4000 ?_)
 simp only [go_sem,aJ,ae]
 refine az (aa (ctx:=[]) 4000 ?_)
 simp only [go_sem,aJ]
 refine SW.wk (s':=wr3 x) ?_ ((Wk.nilC 64 11 40 15 (k:=⟨true,68,12,[aw x++[.v (.string emp),.v (.slice none 0 0)]]⟩) rfl rfl rfl).trans (Wk.renL [0,16,64,96] (by simp) (by simp [wr3]) (by decide) rfl rfl))
 refine aa (ctx:=[⟨_,ca⟩,⟨_,bp⟩,⟨_,bZ bh⟩]) 4000 ?_
 have h:x.op=26:=by rw [hx]
 have hs:x.s=true:=by rw [hx]
 obtain ⟨S,hS⟩:∃ S,ak (an x.s) [⟨#[]⟩,(⟨#[115]⟩:ByteArray)]=S:=⟨_,rfl⟩
 have lS:S.size≤1:=by rw [← hS];exact bz (by decide)
 have hS2:sS x=S:=hS
 obtain ⟨P,hP⟩:∃ P,ak x.b [(⟨#[97,100,100]⟩:ByteArray),(⟨#[115,117,98]⟩:ByteArray)]=P:=⟨_,rfl⟩
 have lP:P.size≤3:=by rw [← hP];exact bz (by decide)
 have m1:P.size+S.size≤maxLen:=by unfold maxLen;omega
 have e:bx x=(P++S,[dO x,nsO x,im x]):=by unfold bx;rw [if_neg (by omega),if_neg (by omega),if_pos h,hP,hS2,if_pos hs]
 rw [hs] at hS
 have b24:(x.op==24)=false:=by rw [h];decide
 have b25:(x.op==25)=false:=by rw [h];decide
 have b26:(x.op==26)=true:=by rw [h];decide
 subst hx
 simp only at hS hP hc
 simp only [go_sem,be,aZ,hS,hP,e,m1,hc.1,hc.2,wr3,aw,wrK,ay,bB,aM,bC,aE,aD,bK,bO,bu,aC,aG,bj,aW,aV,bT,bD,aX,aL,ap,aS,bH,gOf,aF,dE,cA,pu,bI,bg,aT,jy,eM,iq,gO,iz,jr]
 exact ⟨_,_,_,rfl,rfl,by simp,by simp,by simp [ay],Wk.renL [564] (by simp) (Nat.le_refl _) (by simp) rfl (by simp [dC,cn,hget,ay,Blk.ren,cz,aF])⟩
theorem Ew (xx:Bool) (rd rn rm ra a b c:Int) (x:Ins) (hx:x=⟨26,xx,false,rd,rn,rm,ra,a,b,c⟩) (hc:0≤x.c∧x.c≤7):SW Tryz.prog ⟨none,0⟩ Tryz.f63.ntmps (Tryz.f63.body.getD .skip) ⟨0,ag 0 [(am ae).enc x],[]⟩ (fy Tryz.prog Tryz.f63.results.toList 0 (pu (bx x))):=by
 rw [Tryz.ntmps63,Tryz.results63]
 simp only [Tryz.f63,Option.getD_some,ag]
 refine az (aa (ctx:=[]) 4000 ?_)
 simp only [go_sem,aJ,ae]
 refine az (aa (ctx:=[]) 4000 ?_)
 simp only [go_sem,aJ]
 refine SW.wk (s':=wr3 x) ?_ ((Wk.nilC 64 11 40 15 (k:=⟨true,68,12,[aw x++[.v (.string emp),.v (.slice none 0 0)]]⟩) rfl rfl rfl).trans (Wk.renL [0,16,64,96] (by simp) (by simp [wr3]) (by decide) rfl rfl))
 refine aa (ctx:=[⟨_,ca⟩,⟨_,bp⟩,⟨_,bZ bh⟩]) 4000 ?_
 have h:x.op=26:=by rw [hx]
 have hs:x.s=false:=by rw [hx]
 obtain ⟨S,hS⟩:∃ S,ak (an x.s) [⟨#[]⟩,(⟨#[115]⟩:ByteArray)]=S:=⟨_,rfl⟩
 have lS:S.size≤1:=by rw [← hS];exact bz (by decide)
 have hS2:sS x=S:=hS
 obtain ⟨P,hP⟩:∃ P,ak x.b [(⟨#[97,100,100]⟩:ByteArray),(⟨#[115,117,98]⟩:ByteArray)]=P:=⟨_,rfl⟩
 have lP:P.size≤3:=by rw [← hP];exact bz (by decide)
 have m1:P.size+S.size≤maxLen:=by unfold maxLen;omega
 have e:bx x=(P++S,[dsO x,nsO x,im x]):=by unfold bx;rw [if_neg (by omega),if_neg (by omega),if_pos h,hP,hS2,hs];rfl
 rw [hs] at hS
 have b24:(x.op==24)=false:=by rw [h];decide
 have b25:(x.op==25)=false:=by rw [h];decide
 have b26:(x.op==26)=true:=by rw [h];decide
 subst hx
 simp only at hS hP hc
 simp only [go_sem,be,aZ,hS,hP,e,m1,hc.1,hc.2,wr3,aw,wrK,ay,bB,aM,bC,aE,aD,bK,bO,bu,aC,aG,bj,aW,aV,bT,bD,aX,aL,ap,aS,bH,gOf,aF,dE,cA,pu,bI,bg,aT,jW,gH,iq,gO,iz,jr]
 exact ⟨_,_,_,rfl,rfl,by simp,by simp,by simp [ay],Wk.renL [516] (by simp) (Nat.le_refl _) (by simp) rfl (by simp [dC,cn,hget,ay,Blk.ren,cz,aF])⟩
def q26 (x:Ins):Prop:=x.op=26∧(0≤x.c∧x.c≤7)
def vx:aQ Tryz.prog 63 :=
 Ob _ _ _ Tryz.func63 rfl (fun _ _=>by go_simp) xwI q26 (fun x=>pu (bx x)) (by rw [Tryz.ntmps63];decide) (by rw [Tryz.ntmps63];decide) (fun x h=>by
  cases hs:x.s
  ·obtain ⟨op,xx,ss,rd,rn,rm,ra,a,b,c⟩:=x;obtain ⟨h1,h2⟩:=h;simp only at h1 hs;subst h1 hs;exact Ew _ _ _ _ _ _ _ _ _ rfl h2
  ·obtain ⟨op,xx,ss,rd,rn,rm,ra,a,b,c⟩:=x;obtain ⟨h1,h2⟩:=h;simp only at h1 hs;subst h1 hs;exact Fa _ _ _ _ _ _ _ _ _ rfl h2)
theorem z7 {id:Nat} {h:ah} {args:List AV}:vx.run id h args=bT 0 (ow xwI q26) (fun x=>pu (bx x)) id h args:=rfl
theorem zg {id:Nat} {h:ah} {args:List AV}:vx.pan id h args=none:=rfl
theorem xP (x:Ins) (h:q26 x):SW Tryz.prog ⟨none,0⟩ Tryz.f27.ntmps (Tryz.f27.body.getD .skip) ⟨0,ag 0 [(am ae).enc x],[]⟩ (fy Tryz.prog Tryz.f27.results.toList 0 (pu (bx x))):=by
 refine aa (ctx:=[⟨_,vx⟩]) 4000 ?_
 rw [Tryz.ntmps27,Tryz.results27]
 simp only [Tryz.f27,Option.getD_some,ag]
 have l6:¬x.op≤6:=by have:=h.1;omega
 have l12:¬x.op≤12:=by have:=h.1;omega
 have l17:¬x.op≤17:=by have:=h.1;omega
 have l23:¬x.op≤23:=by have:=h.1;omega
 have l28:x.op≤28:=by have:=h.1;omega
 obtain ⟨r,hr⟩:∃ r,bx x=r:=⟨_,rfl⟩
 simp only [go_sem,ae,l6,l12,l17,l23,l28,z7,zg,bT,ow,xwI,xwT,h,hr,pu,gOf,dE,cA]
 exact ⟨_,_,_,rfl,rfl,by simp,by simp,by simp [ay],Wk.renL [368] (by simp) (Nat.le_refl _) (by simp) rfl (by simp [dC,cn,hget,ay,Blk.ren,Ce,yw])⟩
def rL:aQ Tryz.prog 27 :=
 Ob _ _ _ Tryz.func27 rfl (fun _ _=>by go_simp) xwI q26 (fun x=>pu (bx x)) (by rw [Tryz.ntmps27];decide) (by rw [Tryz.ntmps27];decide) (fun x h=>xP x h)
theorem vq {id:Nat} {h:ah} {args:List AV}:rL.run id h args=bT 0 (ow xwI q26) (fun x=>pu (bx x)) id h args:=rfl
theorem uJ {id:Nat} {h:ah} {args:List AV}:rL.pan id h args=none:=rfl
end
section
open Go.RowKit
def gb (r:Ins×Int):AV:=.tup [.agg (aw r.1),.l (.v (.int .i64 r.2))]
theorem Ff (rd:pM) (v:Nat) (hv:v<18446744073709551616):SW Tryz.prog ⟨none,0⟩ Tryz.f8.ntmps (Tryz.f8.body.getD .skip) ⟨0,ag 0 [(am gd).enc rd,tU.enc (v:Int)],[]⟩ (aH Tryz.prog Tryz.f8.results.toList (.ret (gb (cS rd v)))):=by
 have t:∀ n:Nat,Int.toNat (n:Int)=n:=fun _=>rfl
 obtain ⟨n,x,sp⟩:=rd
 have hvI:(0:Int)≤v∧(v:Int)<18446744073709551616:=by omega
 have hfw:IntKind.i64.wrap (32+IntKind.i64.wrap (32*an x))=((wN x:Nat):Int):=by cases x<;>rfl
 have hwq:((wN x:Nat):Int)=32∨((wN x:Nat):Int)=64:=by cases x<;>simp [wN]
 refine aa (ctx:=[⟨_,oG⟩,⟨_,n5⟩,⟨_,sT⟩,⟨_,ca⟩,⟨_,re⟩]) 4000 ?_
 rw [Tryz.ntmps8,Tryz.results8]
 simp only [Tryz.f8,Option.getD_some,ag]
 by_cases hr:(cH ⟨n,x,sp⟩).2=0
 case neg =>
  have e:cS ⟨n,x,sp⟩ v=(bW 0,1):=by unfold cS;rw [if_pos (.inl hr)]
  have hb:((cH ⟨n,x,sp⟩).2 !=0)=true:=by simpa using hr
  simp only [go_sem,tU,gd,dY,dX,dy,hb,e,gb,aw,bW]
 have hb:((cH ⟨n,x,sp⟩).2 !=0)=false:=by simpa using hr
 by_cases ho:cj x<v
 case pos =>
  have e:cS ⟨n,x,sp⟩ v=(bW 0,1):=by unfold cS;rw [if_pos (.inr ho)]
  have hoI:((cj x:Nat):Int)<v:=by omega
  simp only [go_sem,tU,gd,dY,dX,dy,hb,dr,dt,hoI,e,gb,aw,bW]
 have hoI:¬((cj x:Nat):Int)<v:=by omega
 have hno:¬(¬(cH ⟨n,x,sp⟩).2=0∨cj x<v):=by
  rintro (h | h)
  ·exact h hr
  ·exact ho h
 have hi:∀ z:Nat,IntKind.i64.wrap ((z:Nat):Int)=mw z:=fun _=>rfl
 have hx1:cj x<2 ^ 64:=lF x
 have hxor:=Hm v (cj x) hv hx1
 have hx2:(v ^^^ cj x)<18446744073709551616:=Nat.xor_lt_two_pow hv hx1
 have hx2I:(0:Int)≤((v ^^^ cj x:Nat):Int)∧((v ^^^ cj x:Nat):Int)<18446744073709551616:=by omega
 have hfe:=qJ v (wN x)
 obtain ⟨A,hA⟩:∃ A,(ey (j0 v (wN x))).1=A:=⟨_,rfl⟩
 cases sp
 case false =>
  cases h1:ge v x with
  | some y =>
   obtain ⟨a,c⟩:=y
   have e:cS ⟨n,x,false⟩ v=(⟨4,x,false,n,0,0,0,a,2,c⟩,0):=by unfold cS;rw [if_neg hno];simp [h1]
   simp only [go_sem,tU,gd,dY,dX,dy,hb,dr,dt,hoI,gI,gQ,hvI.1,hvI.2,t,h1,iX,e,gb,aw,bW]
  | none =>
   cases h2:ge (v ^^^ cj x) x with
   | some y =>
    obtain ⟨a,c⟩:=y
    have e:cS ⟨n,x,false⟩ v=(⟨4,x,false,n,0,0,0,a,0,c⟩,0):=by unfold cS;rw [if_neg hno];simp [h1,h2]
    simp only [go_sem,tU,gd,dY,dX,dy,hb,dr,dt,hoI,gI,gQ,hvI.1,hvI.2,t,h1,iX]
    refine aI (ctx:=[⟨_,n5⟩,⟨_,sT⟩]) ax [13,15] (by kernel_rfl) ?_
    simp only [go_sem,tU,dr,dt,gI,gQ,hxor,hx2I.1,hx2I.2,t,h2,iX,e,gb,aw,bW]
   | none =>
    simp only [go_sem,tU,gd,dY,dX,dy,hb,dr,dt,hoI,gI,gQ,hvI.1,hvI.2,t,h1,iX]
    refine aI (ctx:=[⟨_,n5⟩,⟨_,sT⟩]) ax [13,15] (by kernel_rfl) ?_
    by_cases h3:(cN v (wN x)).isSome=true
    ·have hF:ey (j0 v (wN x))=(A,0):=by rw [← hA];exact Prod.ext rfl (by rw [hfe,if_pos h3])
     by_cases h4:n=31
     ·have e:cS ⟨n,x,false⟩ v=(bW 0,70):=by unfold cS;rw [if_neg hno];simp [h1,h2,h4]
      have hb4:(n==31)=true:=by simpa using h4
      simp only [go_sem,tU,gd,dr,dt,gI,gQ,hxor,hx2I.1,hx2I.2,t,h2,iX,be,aZ,hfw,dW,dU,hvI.1,hvI.2,hwq,hF,de,hb4,e,gb,aw,bW]
     ·have e:cS ⟨n,x,false⟩ v=(⟨3,x,false,n,31,0,0,mw v,1,0⟩,0):=by unfold cS;rw [if_neg hno];simp [h1,h2,h3,h4]
      have hb4:(n==31)=false:=by simpa using h4
      simp only [go_sem,tU,gd,dr,dt,gI,gQ,hxor,hx2I.1,hx2I.2,t,h2,iX,be,aZ,hfw,dW,dU,hvI.1,hvI.2,hwq,hF,de,hb4,hi,e,gb,aw,bW]
    ·have hF:ey (j0 v (wN x))=(A,20):=by rw [← hA];exact Prod.ext rfl (by rw [hfe,if_neg h3])
     have e:cS ⟨n,x,false⟩ v=(bW 0,70):=by unfold cS;rw [if_neg hno];simp [h1,h2,h3]
     simp only [go_sem,tU,gd,dr,dt,gI,gQ,hxor,hx2I.1,hx2I.2,t,h2,iX,be,aZ,hfw,dW,dU,hvI.1,hvI.2,hwq,hF,de,e,gb,aw,bW]
 case true =>
  by_cases h3:(cN v (wN x)).isSome=true
  ·have hF:ey (j0 v (wN x))=(A,0):=by rw [← hA];exact Prod.ext rfl (by rw [hfe,if_pos h3])
   have e:cS ⟨n,x,true⟩ v=(⟨3,x,false,n,31,0,0,mw v,1,0⟩,0):=by unfold cS;rw [if_neg hno];simp [h3]
   by_cases h4:n=31
   ·have hb4:(n==31)=true:=by simpa using h4
    simp only [go_sem,tU,gd,dY,dX,dy,hb,dr,dt,hoI,be,aZ,hfw,dW,dU,hvI.1,hvI.2,hwq,t,hF,de,hb4,hi,e,gb,aw,bW]
   ·have hb4:(n==31)=false:=by simpa using h4
    simp only [go_sem,tU,gd,dY,dX,dy,hb,dr,dt,hoI,be,aZ,hfw,dW,dU,hvI.1,hvI.2,hwq,t,hF,de,hb4,hi,e,gb,aw,bW]
  ·have hF:ey (j0 v (wN x))=(A,20):=by rw [← hA];exact Prod.ext rfl (by rw [hfe,if_neg h3])
   have e:cS ⟨n,x,true⟩ v=(bW 0,70):=by unfold cS;rw [if_neg hno];simp [h3]
   simp only [go_sem,tU,gd,dY,dX,dy,hb,dr,dt,hoI,be,aZ,hfw,dW,dU,hvI.1,hvI.2,hwq,t,hF,de,e,gb,aw,bW]
def wi:aQ Tryz.prog 8 :=
 mk2 _ _ _ Tryz.func8 rfl (fun _ _=>by go_simp) (am gd) (tU) ((fun _ v=>0≤v∧v<18446744073709551616)) ((fun rd v=>.ret (gb (cS rd v.toNat)))) (by rw [Tryz.ntmps8];decide) (fun rd v h=>by
 obtain ⟨v,rfl⟩:=Int.eq_ofNat_of_zero_le h.1
 exact Ff rd v (by omega))
theorem mD {id:Nat} {h:ah} {args:List AV}:(wi).run id h args=bm (cq (am gd) (tU) ((fun _ v=>0≤v∧v<18446744073709551616))) (fun x=>((fun rd v=>.ret (gb (cS rd v.toNat)))) x.1 x.2) h args:=rfl
theorem ml {id:Nat} {h:ah} {args:List AV}:(wi).pan id h args=bt (cq (am gd) (tU) ((fun _ v=>0≤v∧v<18446744073709551616))) (fun x=>((fun rd v=>.ret (gb (cS rd v.toNat)))) x.1 x.2) h args:=rfl
end
section
open Go.RowKit
def wrE (x:Ins):St:=⟨4,[(1,.s (.l (.p 0 0 0))),(2,.s (.l (.p 1 0 0))),(3,bv false),(4,.s (.l (.p 2 0 0)))],[(0,some (eT x)),(1,some bB),(2,some (wrK x emp 0 3)),(3,some (ay []))]⟩
theorem wf (x:Ins):SW Tryz.prog ⟨none,0⟩ Tryz.f45.ntmps (Tryz.f45.body.getD .skip) ⟨0,ag 0 [(am ae).enc x],[]⟩ (aH Tryz.prog Tryz.f45.results.toList (.ret (alO (ofO (ft x))))):=by
 rw [Tryz.ntmps45,Tryz.results45]
 simp only [Tryz.f45,Option.getD_some,ag]
 refine az (aa (ctx:=[]) 4000 ?_)
 simp only [go_sem,aJ,ae]
 refine az (aa (ctx:=[]) 4000 ?_)
 simp only [go_sem,aJ]
 refine SW.wk (s':=wrE x) ?_ ((Wk.nilC 80 11 40 15 (k:=⟨true,68,12,[aw x++[.v (.string emp),.v (.slice none 0 0)]]⟩) rfl rfl rfl).trans (Wk.renL [0,16,80,112] (by simp) (by simp [wrE]) (by decide) rfl rfl))
 refine aa (ctx:=[⟨_,bZ bU⟩]) 4000 ?_
 have beq:∀ a b:Int,(a==b)=decide (a=b):=fun a b=>by by_cases h:a=b<;>simp [h]
 have ht:=rJ x.a
 have t:∀ n:Nat,Int.toNat (n:Int)=n:=fun _=>rfl
 have tst:(x.b==3)=true→(x.rd==31)=true→ft x=some ((⟨#[116,115,116]⟩:ByteArray),[nO x,cF x]):=by
  intro h1 h2
  unfold ft
  rw [if_pos ⟨by simpa using h1,by simpa using h2⟩]
 have non:((x.b==3)=false∨(x.rd==31)=false)→((x.b==1)=false∨(x.rn==31)=false)→ft x=none:=by
  intro h1 h2
  unfold ft
  rw [if_neg,if_neg]
  ·rintro ⟨a,b⟩;rcases h2 with h | h<;>simp [a,b] at h
  ·rintro ⟨a,b⟩;rcases h1 with h | h<;>simp [a,b] at h
 obtain ⟨m,hm⟩:∃ m,cS ⟨x.rd,x.x,false⟩ (dB x.a &&& cj x.x)=m:=⟨_,rfl⟩
 have mv:((x.b==3)=false∨(x.rd==31)=false)→(x.b==1)=true→(x.rn==31)=true→ft x=if m.2=0∧m.1.op=4 then none else some ((⟨#[109,111,118]⟩:ByteArray),[dsO x,cF x]):=by
  intro h1 h2 h3
  unfold ft
  rw [if_neg,if_pos ⟨by simpa using h2,by simpa using h3⟩]
  ·simp only [hm]
  ·rintro ⟨a,b⟩;rcases h1 with h | h<;>simp [a,b] at h
 have hand:=li (dB x.a) (cj x.x) (nV x.a) (lF x.x)
 have hv64:(dB x.a &&& cj x.x)<18446744073709551616:=Nat.lt_of_le_of_lt Nat.and_le_left (nV x.a)
 have hvI:(0:Int)≤((dB x.a &&& cj x.x:Nat):Int)∧((dB x.a &&& cj x.x:Nat):Int)<18446744073709551616:=by omega
 cases h1:x.b==3
 ·cases h3:x.b==1
  ·have e:=non (.inl h1) (.inl h3)
   simp only [go_sem,h1,h3,wrE,eT,aw,wrK,ay,bB,aM,bC,aW,aV,bT,bD,aX,aL,ap,aS,bH,gOf,aG,aF,aK,alO,ofO,e,bI,bg,aT,emp]
  ·cases h4:x.rn==31
   ·have e:=non (.inl h1) (.inr h4)
    simp only [go_sem,h1,h3,h4,wrE,eT,aw,wrK,ay,bB,aM,bC,aW,aV,bT,bD,aX,aL,ap,aS,bH,gOf,aG,aF,aK,alO,ofO,e,bI,bg,aT,emp]
   ·have e:=mv (.inl h1) h3 h4
    simp only [go_sem,h1,h3,h4,wrE,eT,aw,wrK,ay,bB]
    refine aI (ctx:=[⟨_,n5⟩,⟨_,wi⟩]) ax [17] (by kernel_rfl) ?_
    by_cases h5:m.2=0
    ·have hb5:(m.2==0)=true:=by simpa using h5
     by_cases h6:m.1.op=4
     ·have hb6:(m.1.op==4)=true:=by simpa using h6
      rw [if_pos ⟨h5,h6⟩] at e
      simp only [go_sem,ht,t,tU,gd,dr,dt,hand,mD,ml,hvI.1,hvI.2,hm,gb,aw,hb5,hb6,alO,ofO,e,emp]
     ·have hb6:(m.1.op==4)=false:=by simpa using h6
      rw [if_neg (fun h=>h6 h.2)] at e
      simp only [go_sem,ht,t,tU,gd,dr,dt,hand,mD,ml,hvI.1,hvI.2,hm,gb,hb5,hb6,wrE,eT,aw,wrK,ay,bB,aM,bC,aW,aV,bT,bD,aX,aL,ap,aS,bH,gOf,aG,aF,aK,alO,ofO,e,bI,bg,aT,xa,jw,gH,dP]
    ·have hb5:(m.2==0)=false:=by simpa using h5
     rw [if_neg (fun h=>h5 h.1)] at e
     simp only [go_sem,ht,t,tU,gd,dr,dt,hand,mD,ml,hvI.1,hvI.2,hm,gb,hb5,wrE,eT,aw,wrK,ay,bB,aM,bC,aW,aV,bT,bD,aX,aL,ap,aS,bH,gOf,aG,aF,aK,alO,ofO,e,bI,bg,aT,xa,jw,gH,dP]
 ·have h3:(x.b==1)=false:=by
   have:x.b=3:=by simpa using h1
   rw [this];decide
  cases h2:x.rd==31
  ·have e:=non (.inr h2) (.inl h3)
   simp only [go_sem,h1,h2,h3,wrE,eT,aw,wrK,ay,bB,aM,bC,aW,aV,bT,bD,aX,aL,ap,aS,bH,gOf,aG,aF,aK,alO,ofO,e,bI,bg,aT,emp]
  ·have e:=tst h1 h2
   simp only [go_sem,h1,h2,wrE,eT,aw,wrK,ay,bB,aM,bC,aW,aV,bT,bD,aX,aL,ap,aS,bH,gOf,aG,aF,aK,alO,ofO,e,bI,bg,aT,lG,jw,fH,dP]
def nZ:aQ Tryz.prog 45 :=
 mk1 _ _ _ Tryz.func45 rfl (fun _ _=>by go_simp) (am ae) ((fun _=>True)) ((fun x=>.ret (alO (ofO (ft x))))) (by rw [Tryz.ntmps45];decide) (fun x _=>wf x)
theorem tK {id:Nat} {h:ah} {args:List AV}:(nZ).run id h args=bm (av (am ae) ((fun _=>True))) ((fun x=>.ret (alO (ofO (ft x))))) h args:=rfl
theorem um {id:Nat} {h:ah} {args:List AV}:(nZ).pan id h args=bt (av (am ae) ((fun _=>True))) ((fun x=>.ret (alO (ofO (ft x))))) h args:=rfl
def rl:aQ Tryz.prog 109 :=
 mk1 _ _ _ Tryz.func109 rfl (fun _ _=>by go_simp) (am ae) ((fun x=>0≤x.c∧x.c≤3)) ((fun x=>.ret (iv (mo x)))) (by rw [Tryz.ntmps109];decide) (fun x h=>by
 refine aa (ctx:=[⟨_,n5⟩]) 4000 ?_
 rw [Tryz.ntmps109,Tryz.results109]
 simp only [Tryz.f109,Option.getD_some,ag]
 have ht:=rJ x.a
 have e1:IntKind.i64.wrap (16*x.c)=16*x.c:=by rw [IntKind.wrap_i64];omega
 have e0:0≤16*x.c:=by omega
 have e2:=sV (dB x.a) (16*x.c).toNat (by omega)
 obtain ⟨P,hP⟩:∃ P,dB x.a*2 ^ (16*x.c).toNat % 18446744073709551616=P:=⟨_,rfl⟩
 have hP64:P<2 ^ 64:=by rw [← hP];exact Nat.mod_lt _ (by decide)
 rw [hP] at e2
 have hxor:=Hm P (cj x.x) hP64 (lF x.x)
 have hi:∀ z:Nat,IntKind.i64.wrap ((z:Nat):Int)=mw z:=fun _=>rfl
 have hm:mo x=mw (if x.b=0 then P ^^^ cj x.x else P):=by unfold mo;rw [hP]
 by_cases hb:x.b=0
 ·have hb1:(x.b==0)=true:=by simpa using hb
  rw [hm,if_pos hb]
  simp only [go_sem,ae,ht,e0,e1,e2,hb1,dr,dt,hxor,hi]
 ·have hb1:(x.b==0)=false:=by simpa using hb
  rw [hm,if_neg hb]
  simp only [go_sem,ae,ht,e0,e1,e2,hb1,hi])
theorem vM {id:Nat} {h:ah} {args:List AV}:(rl).run id h args=bm (av (am ae) ((fun x=>0≤x.c∧x.c≤3))) ((fun x=>.ret (iv (mo x)))) h args:=rfl
theorem vd {id:Nat} {h:ah} {args:List AV}:(rl).pan id h args=bt (av (am ae) ((fun x=>0≤x.c∧x.c≤3))) ((fun x=>.ret (iv (mo x)))) h args:=rfl
def wrF (x:Ins) (q:Bool):St:=⟨4,(35,bv q)::(wrE x).t,(wrE x).h⟩
theorem sm (x:Ins) (hc:0≤x.c∧x.c≤3):SW Tryz.prog ⟨none,0⟩ Tryz.f46.ntmps (Tryz.f46.body.getD .skip) ⟨0,ag 0 [(am ae).enc x],[]⟩ (aH Tryz.prog Tryz.f46.results.toList (.ret (alO (ofO (fL x))))):=by
 rw [Tryz.ntmps46,Tryz.results46]
 simp only [Tryz.f46,Option.getD_some,ag]
 refine az (aa (ctx:=[]) 4000 ?_)
 simp only [go_sem,aJ,ae]
 refine az (aa (ctx:=[]) 4000 ?_)
 simp only [go_sem,aJ]
 refine SW.wk (s':=wrE x) ?_ ((Wk.nilC 80 11 40 15 (k:=⟨true,68,12,[aw x++[.v (.string emp),.v (.slice none 0 0)]]⟩) rfl rfl rfl).trans (Wk.renL [0,16,80,112] (by simp) (by simp [wrE]) (by decide) rfl rfl))
 obtain ⟨op,xx,ss,rd,rn,rm,ra,a,b,c⟩:=x
 simp only at hc
 have no:(b=3∨(a=0∧¬c=0)∨(b=0∧xx=false∧a=65535))→fL ⟨op,xx,ss,rd,rn,rm,ra,a,b,c⟩=none:=by
  intro h
  unfold fL
  exact if_pos h
 have yes:¬(b=3∨(a=0∧¬c=0)∨(b=0∧xx=false∧a=65535))→fL ⟨op,xx,ss,rd,rn,rm,ra,a,b,c⟩=some ((⟨#[109,111,118]⟩:ByteArray),[dO ⟨op,xx,ss,rd,rn,rm,ra,a,b,c⟩,aB (mo ⟨op,xx,ss,rd,rn,rm,ra,a,b,c⟩)]):=by
  intro h
  unfold fL
  exact if_neg h
 have beq:∀ a b:Int,(a==b)=decide (a=b):=fun a b=>by by_cases h:a=b<;>simp [h]
 have bne:∀ a b:Int,(a !=b) = !decide (a=b):=fun a b=>by by_cases h:a=b<;>simp [h]
 have fin:∀ b3 a0 c0 b0 af:Bool,(b==3)=b3→(a==0)=a0→(c !=0)=c0→(b==0)=b0→(a==65535)=af→(decide (b=3)=b3∧decide (a=0)=a0∧decide (c=0) = !c0∧decide (b=0)=b0∧decide (a=65535)=af):=by
  intro b3 a0 c0 b0 af h1 h2 h3 h4 h6
  rw [beq] at h1 h2 h4 h6
  rw [bne] at h3
  exact ⟨h1,h2,by rw [← h3];simp,h4,h6⟩
 obtain ⟨x,hx⟩:∃ x:Ins,x=⟨op,xx,ss,rd,rn,rm,ra,a,b,c⟩:=⟨_,rfl⟩
 rw [← hx] at no yes ⊢
 refine az (az (SW.mono (Q:=fun e s'=>e=.normal∧∃ q:Bool,(q=true→fL x=none)∧(q=false→fL x=some ((⟨#[109,111,118]⟩:ByteArray),[dO x,aB (mo x)]))∧Wk ⟨none,0⟩ s' (wrF x q)) (aa (ctx:=[]) 4000 ?_) ?_))
 ·subst hx
  cases h1:b==3<;>cases h2:a==0<;>cases h3:c !=0<;>cases h4:b==0<;>cases h6:a==65535<;>cases xx
  all_goals
   obtain ⟨g1,g2,g3,g4,g6⟩:=fin _ _ _ _ _ h1 h2 h3 h4 h6
   simp only [decide_eq_true_eq,decide_eq_false_iff_not,Bool.not_true,Bool.not_false] at g1 g2 g3 g4 g6
   first
   | (exfalso;omega)
   | (
    simp only [go_sem,wrE,eT,aw,wrK,ay,bB,h1,h2,h3,h4,h6]
    first
    | exact ⟨true,fun _=>no (by simp only [g1,g2,g3,g4,g6];simp),(fun h=>by cases h),Wk.renL [0,1,2,3] (by simp) (by simp [wrF,wrE]) (by decide) rfl rfl⟩
    | exact ⟨false,(fun h=>by cases h),fun _=>yes (by simp only [g1,g2,g3,g4,g6];simp),Wk.renL [0,1,2,3] (by simp) (by simp [wrF,wrE]) (by decide) rfl rfl⟩)
 ·rintro e s' ⟨rfl,q,hq1,hq2,hwk⟩
  refine SW.wk (s':=wrF x q) ?_ hwk
  have hcx:0≤x.c∧x.c≤3:=by rw [hx];exact hc
  refine aa (ctx:=[]) 4000 ?_
  cases q
  ·have e:=hq2 rfl
   simp only [go_sem,aJ,wrF,wrE,eT,aw,wrK,ay,bB,alO,ofO,e]
   refine aa (ctx:=[⟨_,bZ bU⟩,⟨_,ji⟩,⟨_,rl⟩,⟨_,dV⟩]) 4000 ?_
   simp only [go_sem,ae,aM,bC,aW,aV,bT,bD,aX,aL,ap,aS,bH,gOf,aG,aF,aK,bI,bg,aT,ju,eM,vM,vd,hcx.1,hcx.2,dc,da,opV,aB,op0,r0,opR,opE,emp,aw,wrK,ay,bE,bF,cp,xwT,bk,dO,ab,opL,bX,ofD,cB]
  ·have e:=hq1 rfl
   simp only [go_sem,aJ,wrF,wrE,eT,aw,wrK,ay,bB,alO,ofO,e,emp]
def mp:aQ Tryz.prog 46 :=
 mk1 _ _ _ Tryz.func46 rfl (fun _ _=>by go_simp) (am ae) ((fun x=>0≤x.c∧x.c≤3)) ((fun x=>.ret (alO (ofO (fL x))))) (by rw [Tryz.ntmps46];decide) (fun x h=>sm x h)
theorem sh {id:Nat} {h:ah} {args:List AV}:(mp).run id h args=bm (av (am ae) ((fun x=>0≤x.c∧x.c≤3))) ((fun x=>.ret (alO (ofO (fL x))))) h args:=rfl
theorem se {id:Nat} {h:ah} {args:List AV}:(mp).pan id h args=bt (av (am ae) ((fun x=>0≤x.c∧x.c≤3))) ((fun x=>.ret (alO (ofO (fL x))))) h args:=rfl
end
section
open Go.RowKit
theorem we1:IntKind.i64.wrap ((2:Int)-1)=1:=by decide
theorem we2:IntKind.i64.wrap ((3:Int)-1)=2:=by decide
def bJ:Ctx Tryz.prog:=[⟨_,rL⟩,⟨_,ca⟩,⟨_,bp⟩,⟨_,bZ bh⟩]
theorem wae0:an true=1:=rfl
theorem wae1:IntKind.i64.wrap ((2:Int)+1)=3:=by decide
theorem wae2:an false=0:=rfl
theorem wae3:IntKind.i64.wrap ((2:Int)+0)=2:=by decide
attribute [local go_sem] ag wrA aw wrK ay bB pcK fJ aM bC aW aV gC gD bT bD fz aX aL ap aS bH ij gOf aG aF aK bI bg aT jy jo kt jW iq gy jj iz kE eM fH iw gH gO dP jE jr ll aE aD bK bO bu aC bj be aZ dc da bE bF cp xwT xw0 bk opV opL bX ofD opR cB opE dO nO mO cF ab aB oOf op0 r0 emp l5 lw jq gq alO ae bJ wae0 wae1 wae2 wae3 vq uJ ow xwI q26 pu we1 we2
theorem aeP {x:Ins} {r:PO} {n:Nat} {rs:Array ResultVar} {ctx:Ctx Tryz.prog} {c0 c1 c:Code} (hn:Tryz.f54.ntmps=n) (hr:Tryz.f54.results=rs) (hb:Tryz.f54.body=some (.seq c0 (.seq c1 c))) (h:bA Tryz.prog ctx ⟨none,0⟩ n 4000 [.c c] (wrA x) (aH Tryz.prog rs.toList r)):Lf Tryz.f54 [(am ae).enc x] r:=by
 subst hn
 rw [Tryz.ntmps54] at h
 unfold Lf
 rw [Tryz.ntmps54,hr,hb]
 simp only [Tryz.f54] at hb
 injection hb with hb
 injection hb with ha hb
 injection hb with hb hc
 subst ha hb hc
 simp only [Option.getD_some,ag]
 refine az (aa (ctx:=[]) 4000 ?_)
 simp only [go_sem,aJ,ae]
 refine az (aa (ctx:=[]) 4000 ?_)
 simp only [go_sem,aJ]
 refine SW.wk (s':=wrA x) ?_ ((Wk.nilC 80 11 40 15 (k:=⟨true,68,12,[aw x++[.v (.string emp),.v (.slice none 0 0)]]⟩) rfl rfl rfl).trans (Wk.renL [0,16,80,112] (by simp) (by simp [wrA]) (by decide) rfl rfl))
 exact aa 4000 h
theorem M8 (rm ra b:Int) (pn:ByteArray) (o1 o2 o3:OpV) (hs:bx ⟨26,true,true,31,31,rm,ra,0,b,3⟩=(pn,[o1,o2,o3])) (hc:(0:Int)≤3∧(3:Int)≤7):Lf Tryz.f54 [(am ae).enc ⟨26,true,true,31,31,rm,ra,0,b,3⟩] (.ret (alO (.ln (ak b [(⟨#[99,109,110]⟩:ByteArray),(⟨#[99,109,112]⟩:ByteArray)],[nsO ⟨26,true,true,31,31,rm,ra,0,b,3⟩,{ im ⟨26,true,true,31,31,rm,ra,0,b,3⟩ with md:=0 }]) true))):=by
 refine aeP (ctx:=bJ) Tryz.ntmps54 Tryz.results54 rfl ?_
 simp only [go_sem,hc.1,hc.2,hs]
 refine aq (ctx:=bJ) ax ⟨[],[],[]⟩ (by kernel_rfl) ?_
 simp only [go_sem,hc.1,hc.2,hs]
theorem Lj (rm ra a b:Int) (pn:ByteArray) (o1 o2 o3:OpV) (hs:bx ⟨26,true,true,31,31,rm,ra,a,b,3⟩=(pn,[o1,o2,o3])) (hc:(0:Int)≤3∧(3:Int)≤7) (h0:¬a=0):Lf Tryz.f54 [(am ae).enc ⟨26,true,true,31,31,rm,ra,a,b,3⟩] (.ret (alO (.ln (ak b [(⟨#[99,109,110]⟩:ByteArray),(⟨#[99,109,112]⟩:ByteArray)],[nsO ⟨26,true,true,31,31,rm,ra,a,b,3⟩,{ im ⟨26,true,true,31,31,rm,ra,a,b,3⟩ with md:=1 }]) true))):=by
 refine aeP (ctx:=bJ) Tryz.ntmps54 Tryz.results54 rfl ?_
 simp only [go_sem,b0 h0,hc.1,hc.2,hs]
 refine aq (ctx:=bJ) ax ⟨[],[],[]⟩ (by kernel_rfl) ?_
 simp only [go_sem,b0 h0,hc.1,hc.2,hs]
theorem Mr (rm ra a b c:Int) (pn:ByteArray) (o1 o2 o3:OpV) (hs:bx ⟨26,true,true,31,31,rm,ra,a,b,c⟩=(pn,[o1,o2,o3])) (hc:(0:Int)≤c∧(c:Int)≤7) (hw:¬c=3):Lf Tryz.f54 [(am ae).enc ⟨26,true,true,31,31,rm,ra,a,b,c⟩] (.ret (alO (.ln (ak b [(⟨#[99,109,110]⟩:ByteArray),(⟨#[99,109,112]⟩:ByteArray)],[nsO ⟨26,true,true,31,31,rm,ra,a,b,c⟩,im ⟨26,true,true,31,31,rm,ra,a,b,c⟩]) true))):=by
 refine aeP (ctx:=bJ) Tryz.ntmps54 Tryz.results54 rfl ?_
 simp only [go_sem,b0 hw,hc.1,hc.2,hs]
 refine aq (ctx:=bJ) ax ⟨[],[],[]⟩ (by kernel_rfl) ?_
 simp only [go_sem,b0 hw,hc.1,hc.2,hs]
theorem NB (rn rm ra a b c:Int) (pn:ByteArray) (o1 o2 o3:OpV) (hs:bx ⟨26,true,true,31,rn,rm,ra,a,b,c⟩=(pn,[o1,o2,o3])) (hc:(0:Int)≤c∧(c:Int)≤7) (hn:¬rn=31):Lf Tryz.f54 [(am ae).enc ⟨26,true,true,31,rn,rm,ra,a,b,c⟩] (.ret (alO (.ln (ak b [(⟨#[99,109,110]⟩:ByteArray),(⟨#[99,109,112]⟩:ByteArray)],[nsO ⟨26,true,true,31,rn,rm,ra,a,b,c⟩,im ⟨26,true,true,31,rn,rm,ra,a,b,c⟩]) true))):=by
 refine aeP (ctx:=bJ) Tryz.ntmps54 Tryz.results54 rfl ?_
 simp only [go_sem,b0 hn,hc.1,hc.2,hs]
 refine aq (ctx:=bJ) ax ⟨[],[],[]⟩ (by kernel_rfl) ?_
 simp only [go_sem,b0 hn,hc.1,hc.2,hs]
theorem MT (rd rm ra b:Int) (pn:ByteArray) (o1 o2 o3:OpV) (hs:bx ⟨26,true,true,rd,31,rm,ra,0,b,3⟩=(pn,[o1,o2,o3])) (hc:(0:Int)≤3∧(3:Int)≤7) (hd:¬rd=31):Lf Tryz.f54 [(am ae).enc ⟨26,true,true,rd,31,rm,ra,0,b,3⟩] (.ret (alO (.ln (pn,[o1,o2,{ o3 with md:=0 }]) true))):=by
 refine aeP (ctx:=bJ) Tryz.ntmps54 Tryz.results54 rfl ?_
 simp only [go_sem,b0 hd,hc.1,hc.2,hs]
 refine aq (ctx:=bJ) ax ⟨[],[],[]⟩ (by kernel_rfl) ?_
 simp only [go_sem,b0 hd,hc.1,hc.2,hs]
theorem ND (rd rm ra a b:Int) (pn:ByteArray) (o1 o2 o3:OpV) (hs:bx ⟨26,true,true,rd,31,rm,ra,a,b,3⟩=(pn,[o1,o2,o3])) (hc:(0:Int)≤3∧(3:Int)≤7) (hd:¬rd=31) (h0:¬a=0):Lf Tryz.f54 [(am ae).enc ⟨26,true,true,rd,31,rm,ra,a,b,3⟩] (.ret (alO (.ln (pn,[o1,o2,{ o3 with md:=1 }]) true))):=by
 refine aeP (ctx:=bJ) Tryz.ntmps54 Tryz.results54 rfl ?_
 simp only [go_sem,b0 hd,b0 h0,hc.1,hc.2,hs]
 refine aq (ctx:=bJ) ax ⟨[],[],[]⟩ (by kernel_rfl) ?_
 simp only [go_sem,b0 hd,b0 h0,hc.1,hc.2,hs]
theorem NS (rd rm ra a b c:Int) (pn:ByteArray) (o1 o2 o3:OpV) (hs:bx ⟨26,true,true,rd,31,rm,ra,a,b,c⟩=(pn,[o1,o2,o3])) (hc:(0:Int)≤c∧(c:Int)≤7) (hd:¬rd=31) (hw:¬c=3):Lf Tryz.f54 [(am ae).enc ⟨26,true,true,rd,31,rm,ra,a,b,c⟩] (.ret (alO (.ln (pn,[o1,o2,o3]) false))):=by
 refine aeP (ctx:=bJ) Tryz.ntmps54 Tryz.results54 rfl ?_
 simp only [go_sem,b0 hd,b0 hw,hc.1,hc.2,hs]
 refine aq (ctx:=bJ) ax ⟨[],[],[]⟩ (by kernel_rfl) ?_
 simp only [go_sem,b0 hd,b0 hw,hc.1,hc.2,hs]
theorem LE (rd rn rm ra a b c:Int) (pn:ByteArray) (o1 o2 o3:OpV) (hs:bx ⟨26,true,true,rd,rn,rm,ra,a,b,c⟩=(pn,[o1,o2,o3])) (hc:(0:Int)≤c∧(c:Int)≤7) (hd:¬rd=31) (hn:¬rn=31):Lf Tryz.f54 [(am ae).enc ⟨26,true,true,rd,rn,rm,ra,a,b,c⟩] (.ret (alO (.ln (pn,[o1,o2,o3]) false))):=by
 refine aeP (ctx:=bJ) Tryz.ntmps54 Tryz.results54 rfl ?_
 simp only [go_sem,b0 hd,b0 hn,hc.1,hc.2,hs]
 refine aq (ctx:=bJ) ax ⟨[],[],[]⟩ (by kernel_rfl) ?_
 simp only [go_sem,b0 hd,b0 hn,hc.1,hc.2,hs]
theorem L3 (rd rm ra b:Int) (pn:ByteArray) (o1 o2 o3:OpV) (hs:bx ⟨26,true,false,rd,31,rm,ra,0,b,3⟩=(pn,[o1,o2,o3])) (hc:(0:Int)≤3∧(3:Int)≤7):Lf Tryz.f54 [(am ae).enc ⟨26,true,false,rd,31,rm,ra,0,b,3⟩] (.ret (alO (.ln (pn,[o1,o2,{ o3 with md:=0 }]) true))):=by
 refine aeP (ctx:=bJ) Tryz.ntmps54 Tryz.results54 rfl ?_
 simp only [go_sem,hc.1,hc.2,hs]
 refine aq (ctx:=bJ) ax ⟨[],[],[]⟩ (by kernel_rfl) ?_
 simp only [go_sem,hc.1,hc.2,hs]
theorem N6 (rd rm ra a b:Int) (pn:ByteArray) (o1 o2 o3:OpV) (hs:bx ⟨26,true,false,rd,31,rm,ra,a,b,3⟩=(pn,[o1,o2,o3])) (hc:(0:Int)≤3∧(3:Int)≤7) (h0:¬a=0):Lf Tryz.f54 [(am ae).enc ⟨26,true,false,rd,31,rm,ra,a,b,3⟩] (.ret (alO (.ln (pn,[o1,o2,{ o3 with md:=1 }]) true))):=by
 refine aeP (ctx:=bJ) Tryz.ntmps54 Tryz.results54 rfl ?_
 simp only [go_sem,b0 h0,hc.1,hc.2,hs]
 refine aq (ctx:=bJ) ax ⟨[],[],[]⟩ (by kernel_rfl) ?_
 simp only [go_sem,b0 h0,hc.1,hc.2,hs]
theorem Ni (rd rm ra a b c:Int) (pn:ByteArray) (o1 o2 o3:OpV) (hs:bx ⟨26,true,false,rd,31,rm,ra,a,b,c⟩=(pn,[o1,o2,o3])) (hc:(0:Int)≤c∧(c:Int)≤7) (hw:¬c=3):Lf Tryz.f54 [(am ae).enc ⟨26,true,false,rd,31,rm,ra,a,b,c⟩] (.ret (alO (.ln (pn,[o1,o2,o3]) false))):=by
 refine aeP (ctx:=bJ) Tryz.ntmps54 Tryz.results54 rfl ?_
 simp only [go_sem,b0 hw,hc.1,hc.2,hs]
 refine aq (ctx:=bJ) ax ⟨[],[],[]⟩ (by kernel_rfl) ?_
 simp only [go_sem,b0 hw,hc.1,hc.2,hs]
theorem M7 (rn rm ra b:Int) (pn:ByteArray) (o1 o2 o3:OpV) (hs:bx ⟨26,true,false,31,rn,rm,ra,0,b,3⟩=(pn,[o1,o2,o3])) (hc:(0:Int)≤3∧(3:Int)≤7) (hn:¬rn=31):Lf Tryz.f54 [(am ae).enc ⟨26,true,false,31,rn,rm,ra,0,b,3⟩] (.ret (alO (.ln (pn,[o1,o2,{ o3 with md:=0 }]) true))):=by
 refine aeP (ctx:=bJ) Tryz.ntmps54 Tryz.results54 rfl ?_
 simp only [go_sem,b0 hn,hc.1,hc.2,hs]
 refine aq (ctx:=bJ) ax ⟨[],[],[]⟩ (by kernel_rfl) ?_
 simp only [go_sem,b0 hn,hc.1,hc.2,hs]
theorem Oa (rn rm ra a b:Int) (pn:ByteArray) (o1 o2 o3:OpV) (hs:bx ⟨26,true,false,31,rn,rm,ra,a,b,3⟩=(pn,[o1,o2,o3])) (hc:(0:Int)≤3∧(3:Int)≤7) (hn:¬rn=31) (h0:¬a=0):Lf Tryz.f54 [(am ae).enc ⟨26,true,false,31,rn,rm,ra,a,b,3⟩] (.ret (alO (.ln (pn,[o1,o2,{ o3 with md:=1 }]) true))):=by
 refine aeP (ctx:=bJ) Tryz.ntmps54 Tryz.results54 rfl ?_
 simp only [go_sem,b0 hn,b0 h0,hc.1,hc.2,hs]
 refine aq (ctx:=bJ) ax ⟨[],[],[]⟩ (by kernel_rfl) ?_
 simp only [go_sem,b0 hn,b0 h0,hc.1,hc.2,hs]
theorem Mp (rn rm ra a b c:Int) (pn:ByteArray) (o1 o2 o3:OpV) (hs:bx ⟨26,true,false,31,rn,rm,ra,a,b,c⟩=(pn,[o1,o2,o3])) (hc:(0:Int)≤c∧(c:Int)≤7) (hn:¬rn=31) (hw:¬c=3):Lf Tryz.f54 [(am ae).enc ⟨26,true,false,31,rn,rm,ra,a,b,c⟩] (.ret (alO (.ln (pn,[o1,o2,o3]) false))):=by
 refine aeP (ctx:=bJ) Tryz.ntmps54 Tryz.results54 rfl ?_
 simp only [go_sem,b0 hn,b0 hw,hc.1,hc.2,hs]
 refine aq (ctx:=bJ) ax ⟨[],[],[]⟩ (by kernel_rfl) ?_
 simp only [go_sem,b0 hn,b0 hw,hc.1,hc.2,hs]
theorem Mv (rd rn rm ra a b c:Int) (pn:ByteArray) (o1 o2 o3:OpV) (hs:bx ⟨26,true,false,rd,rn,rm,ra,a,b,c⟩=(pn,[o1,o2,o3])) (hc:(0:Int)≤c∧(c:Int)≤7) (hn:¬rn=31) (hd:¬rd=31):Lf Tryz.f54 [(am ae).enc ⟨26,true,false,rd,rn,rm,ra,a,b,c⟩] (.ret (alO (.ln (pn,[o1,o2,o3]) false))):=by
 refine aeP (ctx:=bJ) Tryz.ntmps54 Tryz.results54 rfl ?_
 simp only [go_sem,b0 hn,b0 hd,hc.1,hc.2,hs]
 refine aq (ctx:=bJ) ax ⟨[],[],[]⟩ (by kernel_rfl) ?_
 simp only [go_sem,b0 hn,b0 hd,hc.1,hc.2,hs]
theorem peAz (rm ra b:Int) (pn:ByteArray) (o1 o2 o3:OpV) (hs:bx ⟨26,false,true,31,31,rm,ra,0,b,2⟩=(pn,[o1,o2,o3])) (hc:(0:Int)≤2∧(2:Int)≤7):Lf Tryz.f54 [(am ae).enc ⟨26,false,true,31,31,rm,ra,0,b,2⟩] (.ret (alO (.ln (ak b [(⟨#[99,109,110]⟩:ByteArray),(⟨#[99,109,112]⟩:ByteArray)],[nsO ⟨26,false,true,31,31,rm,ra,0,b,2⟩,{ im ⟨26,false,true,31,31,rm,ra,0,b,2⟩ with md:=0 }]) true))):=by
 refine aeP (ctx:=bJ) Tryz.ntmps54 Tryz.results54 rfl ?_
 simp only [go_sem,hc.1,hc.2,hs]
 refine aq (ctx:=bJ) ax ⟨[],[],[]⟩ (by kernel_rfl) ?_
 simp only [go_sem,hc.1,hc.2,hs]
theorem peAa (rm ra a b:Int) (pn:ByteArray) (o1 o2 o3:OpV) (hs:bx ⟨26,false,true,31,31,rm,ra,a,b,2⟩=(pn,[o1,o2,o3])) (hc:(0:Int)≤2∧(2:Int)≤7) (h0:¬a=0):Lf Tryz.f54 [(am ae).enc ⟨26,false,true,31,31,rm,ra,a,b,2⟩] (.ret (alO (.ln (ak b [(⟨#[99,109,110]⟩:ByteArray),(⟨#[99,109,112]⟩:ByteArray)],[nsO ⟨26,false,true,31,31,rm,ra,a,b,2⟩,{ im ⟨26,false,true,31,31,rm,ra,a,b,2⟩ with md:=1 }]) true))):=by
 refine aeP (ctx:=bJ) Tryz.ntmps54 Tryz.results54 rfl ?_
 simp only [go_sem,b0 h0,hc.1,hc.2,hs]
 refine aq (ctx:=bJ) ax ⟨[],[],[]⟩ (by kernel_rfl) ?_
 simp only [go_sem,b0 h0,hc.1,hc.2,hs]
theorem peAw (rm ra a b c:Int) (pn:ByteArray) (o1 o2 o3:OpV) (hs:bx ⟨26,false,true,31,31,rm,ra,a,b,c⟩=(pn,[o1,o2,o3])) (hc:(0:Int)≤c∧(c:Int)≤7) (hw:¬c=2):Lf Tryz.f54 [(am ae).enc ⟨26,false,true,31,31,rm,ra,a,b,c⟩] (.ret (alO (.ln (ak b [(⟨#[99,109,110]⟩:ByteArray),(⟨#[99,109,112]⟩:ByteArray)],[nsO ⟨26,false,true,31,31,rm,ra,a,b,c⟩,im ⟨26,false,true,31,31,rm,ra,a,b,c⟩]) true))):=by
 refine aeP (ctx:=bJ) Tryz.ntmps54 Tryz.results54 rfl ?_
 simp only [go_sem,b0 hw,hc.1,hc.2,hs]
 refine aq (ctx:=bJ) ax ⟨[],[],[]⟩ (by kernel_rfl) ?_
 simp only [go_sem,b0 hw,hc.1,hc.2,hs]
theorem peAn (rn rm ra a b c:Int) (pn:ByteArray) (o1 o2 o3:OpV) (hs:bx ⟨26,false,true,31,rn,rm,ra,a,b,c⟩=(pn,[o1,o2,o3])) (hc:(0:Int)≤c∧(c:Int)≤7) (hn:¬rn=31):Lf Tryz.f54 [(am ae).enc ⟨26,false,true,31,rn,rm,ra,a,b,c⟩] (.ret (alO (.ln (ak b [(⟨#[99,109,110]⟩:ByteArray),(⟨#[99,109,112]⟩:ByteArray)],[nsO ⟨26,false,true,31,rn,rm,ra,a,b,c⟩,im ⟨26,false,true,31,rn,rm,ra,a,b,c⟩]) true))):=by
 refine aeP (ctx:=bJ) Tryz.ntmps54 Tryz.results54 rfl ?_
 simp only [go_sem,b0 hn,hc.1,hc.2,hs]
 refine aq (ctx:=bJ) ax ⟨[],[],[]⟩ (by kernel_rfl) ?_
 simp only [go_sem,b0 hn,hc.1,hc.2,hs]
theorem peBz (rd rm ra b:Int) (pn:ByteArray) (o1 o2 o3:OpV) (hs:bx ⟨26,false,true,rd,31,rm,ra,0,b,2⟩=(pn,[o1,o2,o3])) (hc:(0:Int)≤2∧(2:Int)≤7) (hd:¬rd=31):Lf Tryz.f54 [(am ae).enc ⟨26,false,true,rd,31,rm,ra,0,b,2⟩] (.ret (alO (.ln (pn,[o1,o2,{ o3 with md:=0 }]) true))):=by
 refine aeP (ctx:=bJ) Tryz.ntmps54 Tryz.results54 rfl ?_
 simp only [go_sem,b0 hd,hc.1,hc.2,hs]
 refine aq (ctx:=bJ) ax ⟨[],[],[]⟩ (by kernel_rfl) ?_
 simp only [go_sem,b0 hd,hc.1,hc.2,hs]
theorem peBa (rd rm ra a b:Int) (pn:ByteArray) (o1 o2 o3:OpV) (hs:bx ⟨26,false,true,rd,31,rm,ra,a,b,2⟩=(pn,[o1,o2,o3])) (hc:(0:Int)≤2∧(2:Int)≤7) (hd:¬rd=31) (h0:¬a=0):Lf Tryz.f54 [(am ae).enc ⟨26,false,true,rd,31,rm,ra,a,b,2⟩] (.ret (alO (.ln (pn,[o1,o2,{ o3 with md:=1 }]) true))):=by
 refine aeP (ctx:=bJ) Tryz.ntmps54 Tryz.results54 rfl ?_
 simp only [go_sem,b0 hd,b0 h0,hc.1,hc.2,hs]
 refine aq (ctx:=bJ) ax ⟨[],[],[]⟩ (by kernel_rfl) ?_
 simp only [go_sem,b0 hd,b0 h0,hc.1,hc.2,hs]
theorem peBw (rd rm ra a b c:Int) (pn:ByteArray) (o1 o2 o3:OpV) (hs:bx ⟨26,false,true,rd,31,rm,ra,a,b,c⟩=(pn,[o1,o2,o3])) (hc:(0:Int)≤c∧(c:Int)≤7) (hd:¬rd=31) (hw:¬c=2):Lf Tryz.f54 [(am ae).enc ⟨26,false,true,rd,31,rm,ra,a,b,c⟩] (.ret (alO (.ln (pn,[o1,o2,o3]) false))):=by
 refine aeP (ctx:=bJ) Tryz.ntmps54 Tryz.results54 rfl ?_
 simp only [go_sem,b0 hd,b0 hw,hc.1,hc.2,hs]
 refine aq (ctx:=bJ) ax ⟨[],[],[]⟩ (by kernel_rfl) ?_
 simp only [go_sem,b0 hd,b0 hw,hc.1,hc.2,hs]
theorem peBn (rd rn rm ra a b c:Int) (pn:ByteArray) (o1 o2 o3:OpV) (hs:bx ⟨26,false,true,rd,rn,rm,ra,a,b,c⟩=(pn,[o1,o2,o3])) (hc:(0:Int)≤c∧(c:Int)≤7) (hd:¬rd=31) (hn:¬rn=31):Lf Tryz.f54 [(am ae).enc ⟨26,false,true,rd,rn,rm,ra,a,b,c⟩] (.ret (alO (.ln (pn,[o1,o2,o3]) false))):=by
 refine aeP (ctx:=bJ) Tryz.ntmps54 Tryz.results54 rfl ?_
 simp only [go_sem,b0 hd,b0 hn,hc.1,hc.2,hs]
 refine aq (ctx:=bJ) ax ⟨[],[],[]⟩ (by kernel_rfl) ?_
 simp only [go_sem,b0 hd,b0 hn,hc.1,hc.2,hs]
theorem peCz (rd rm ra b:Int) (pn:ByteArray) (o1 o2 o3:OpV) (hs:bx ⟨26,false,false,rd,31,rm,ra,0,b,2⟩=(pn,[o1,o2,o3])) (hc:(0:Int)≤2∧(2:Int)≤7):Lf Tryz.f54 [(am ae).enc ⟨26,false,false,rd,31,rm,ra,0,b,2⟩] (.ret (alO (.ln (pn,[o1,o2,{ o3 with md:=0 }]) true))):=by
 refine aeP (ctx:=bJ) Tryz.ntmps54 Tryz.results54 rfl ?_
 simp only [go_sem,hc.1,hc.2,hs]
 refine aq (ctx:=bJ) ax ⟨[],[],[]⟩ (by kernel_rfl) ?_
 simp only [go_sem,hc.1,hc.2,hs]
theorem peCa (rd rm ra a b:Int) (pn:ByteArray) (o1 o2 o3:OpV) (hs:bx ⟨26,false,false,rd,31,rm,ra,a,b,2⟩=(pn,[o1,o2,o3])) (hc:(0:Int)≤2∧(2:Int)≤7) (h0:¬a=0):Lf Tryz.f54 [(am ae).enc ⟨26,false,false,rd,31,rm,ra,a,b,2⟩] (.ret (alO (.ln (pn,[o1,o2,{ o3 with md:=1 }]) true))):=by
 refine aeP (ctx:=bJ) Tryz.ntmps54 Tryz.results54 rfl ?_
 simp only [go_sem,b0 h0,hc.1,hc.2,hs]
 refine aq (ctx:=bJ) ax ⟨[],[],[]⟩ (by kernel_rfl) ?_
 simp only [go_sem,b0 h0,hc.1,hc.2,hs]
theorem peCw (rd rm ra a b c:Int) (pn:ByteArray) (o1 o2 o3:OpV) (hs:bx ⟨26,false,false,rd,31,rm,ra,a,b,c⟩=(pn,[o1,o2,o3])) (hc:(0:Int)≤c∧(c:Int)≤7) (hw:¬c=2):Lf Tryz.f54 [(am ae).enc ⟨26,false,false,rd,31,rm,ra,a,b,c⟩] (.ret (alO (.ln (pn,[o1,o2,o3]) false))):=by
 refine aeP (ctx:=bJ) Tryz.ntmps54 Tryz.results54 rfl ?_
 simp only [go_sem,b0 hw,hc.1,hc.2,hs]
 refine aq (ctx:=bJ) ax ⟨[],[],[]⟩ (by kernel_rfl) ?_
 simp only [go_sem,b0 hw,hc.1,hc.2,hs]
theorem peDz (rn rm ra b:Int) (pn:ByteArray) (o1 o2 o3:OpV) (hs:bx ⟨26,false,false,31,rn,rm,ra,0,b,2⟩=(pn,[o1,o2,o3])) (hc:(0:Int)≤2∧(2:Int)≤7) (hn:¬rn=31):Lf Tryz.f54 [(am ae).enc ⟨26,false,false,31,rn,rm,ra,0,b,2⟩] (.ret (alO (.ln (pn,[o1,o2,{ o3 with md:=0 }]) true))):=by
 refine aeP (ctx:=bJ) Tryz.ntmps54 Tryz.results54 rfl ?_
 simp only [go_sem,b0 hn,hc.1,hc.2,hs]
 refine aq (ctx:=bJ) ax ⟨[],[],[]⟩ (by kernel_rfl) ?_
 simp only [go_sem,b0 hn,hc.1,hc.2,hs]
theorem peDa (rn rm ra a b:Int) (pn:ByteArray) (o1 o2 o3:OpV) (hs:bx ⟨26,false,false,31,rn,rm,ra,a,b,2⟩=(pn,[o1,o2,o3])) (hc:(0:Int)≤2∧(2:Int)≤7) (hn:¬rn=31) (h0:¬a=0):Lf Tryz.f54 [(am ae).enc ⟨26,false,false,31,rn,rm,ra,a,b,2⟩] (.ret (alO (.ln (pn,[o1,o2,{ o3 with md:=1 }]) true))):=by
 refine aeP (ctx:=bJ) Tryz.ntmps54 Tryz.results54 rfl ?_
 simp only [go_sem,b0 hn,b0 h0,hc.1,hc.2,hs]
 refine aq (ctx:=bJ) ax ⟨[],[],[]⟩ (by kernel_rfl) ?_
 simp only [go_sem,b0 hn,b0 h0,hc.1,hc.2,hs]
theorem peDw (rn rm ra a b c:Int) (pn:ByteArray) (o1 o2 o3:OpV) (hs:bx ⟨26,false,false,31,rn,rm,ra,a,b,c⟩=(pn,[o1,o2,o3])) (hc:(0:Int)≤c∧(c:Int)≤7) (hn:¬rn=31) (hw:¬c=2):Lf Tryz.f54 [(am ae).enc ⟨26,false,false,31,rn,rm,ra,a,b,c⟩] (.ret (alO (.ln (pn,[o1,o2,o3]) false))):=by
 refine aeP (ctx:=bJ) Tryz.ntmps54 Tryz.results54 rfl ?_
 simp only [go_sem,b0 hn,b0 hw,hc.1,hc.2,hs]
 refine aq (ctx:=bJ) ax ⟨[],[],[]⟩ (by kernel_rfl) ?_
 simp only [go_sem,b0 hn,b0 hw,hc.1,hc.2,hs]
theorem peDn (rd rn rm ra a b c:Int) (pn:ByteArray) (o1 o2 o3:OpV) (hs:bx ⟨26,false,false,rd,rn,rm,ra,a,b,c⟩=(pn,[o1,o2,o3])) (hc:(0:Int)≤c∧(c:Int)≤7) (hn:¬rn=31) (hd:¬rd=31):Lf Tryz.f54 [(am ae).enc ⟨26,false,false,rd,rn,rm,ra,a,b,c⟩] (.ret (alO (.ln (pn,[o1,o2,o3]) false))):=by
 refine aeP (ctx:=bJ) Tryz.ntmps54 Tryz.results54 rfl ?_
 simp only [go_sem,b0 hn,b0 hd,hc.1,hc.2,hs]
 refine aq (ctx:=bJ) ax ⟨[],[],[]⟩ (by kernel_rfl) ?_
 simp only [go_sem,b0 hn,b0 hd,hc.1,hc.2,hs]
end
end Go.Proofs.YtpjlafmhoifkmaaGreat
