import Derived.Test.YtpjlafmhoifkmaaGreatM40
import Derived.Test.YtpjlafmhoifkmaaGreatM30
import Derived.Test.YtpjlafmhoifkmaaGreatM41
import Derived.Test.YtpjlafmhoifkmaaGreatM33
import Derived.Test.YtpjlafmhoifkmaaGreatM24
set_option linter.unusedVariables false
set_option linter.unusedSimpArgs false
set_option maxRecDepth 100000
set_option maxHeartbeats 8000000
namespace Go.Proofs.YtpjlafmhoifkmaaGreat
section
open Go.RowKit
theorem qm (x:Ins) (a b:OpV):∃ M,cK x [a,b]=[a,M]:=by
 unfold cK
 split
 ·exact ⟨b,rfl⟩
 ·exact ⟨_,rfl⟩
attribute [local go_sem] wrA az wrK aD bQ aV bV bj bk co bX bp aT aq aX ci gOf aH aF aI cn bF bh my lI ng mw kD jD lD kz gS iO kF jZ jN fA mK lO aL aK bU bW bu aC bm bD bE alO
theorem xi (x:Ins) (hc:0≤x.c∧x.c≤7):SW Tryz.prog ⟨none,0⟩ Tryz.f52.ntmps (Tryz.f52.body.getD .skip) ⟨0,ag 0 [(ai ac).enc x],[]⟩ (ax Tryz.prog Tryz.f52.results.toList (.ret (alO (gn x)))):=by
 rw [Tryz.ntmps52,Tryz.results52]
 simp only [Tryz.f52,Option.getD_some,ag]
 refine aE (aa (ctx:=[]) 4000 ?_)
 simp only [go_sem,aS,ac]
 refine aE (aa (ctx:=[]) 4000 ?_)
 simp only [go_sem,aS]
 refine SW.wk (s':=wrA x) ?_ ((Wk.nilC 80 11 40 15 (k:=⟨true,68,12,[az x++[.v (.string emp),.v (.slice none 0 0)]]⟩) rfl rfl rfl).trans (Wk.renL [0,16,80,112] (by simp) (by simp [wrA]) (by decide) rfl rfl))
 refine aa (ctx:=[⟨_,cI bG⟩]) 4000 ?_
 obtain ⟨M1,h1⟩:=qm x (dO x) (mO x)
 obtain ⟨M2,h2⟩:=qm x (nO x) (mO x)
 unfold gn
 rw [h1,h2]
 cases b1:(x.b==1)<;>cases bs:x.s
 ·have h1':cK ⟨x.op,x.x,false,x.rd,x.rn,x.rm,x.ra,x.a,x.b,x.c⟩ [dO ⟨x.op,x.x,false,x.rd,x.rn,x.rm,x.ra,x.a,x.b,x.c⟩,mO ⟨x.op,x.x,false,x.rd,x.rn,x.rm,x.ra,x.a,x.b,x.c⟩]=[dO x,M1]:=h1
  have h2':cK ⟨x.op,x.x,false,x.rd,x.rn,x.rm,x.ra,x.a,x.b,x.c⟩ [nO ⟨x.op,x.x,false,x.rd,x.rn,x.rm,x.ra,x.a,x.b,x.c⟩,mO ⟨x.op,x.x,false,x.rd,x.rn,x.rm,x.ra,x.a,x.b,x.c⟩]=[nO x,M2]:=h2
  cases b3:(x.b==3)<;>cases br:(x.rd==31)<;>simp only [go_sem,b1,bs,b3,br,h1,h2,h1',h2',hc.1,hc.2,Bool.false_and,Bool.true_and,Bool.not_true,Bool.not_false,Bool.and_true,Bool.and_false,emp]<;>rfl
 ·have h1':cK ⟨x.op,x.x,true,x.rd,x.rn,x.rm,x.ra,x.a,x.b,x.c⟩ [dO ⟨x.op,x.x,true,x.rd,x.rn,x.rm,x.ra,x.a,x.b,x.c⟩,mO ⟨x.op,x.x,true,x.rd,x.rn,x.rm,x.ra,x.a,x.b,x.c⟩]=[dO x,M1]:=h1
  have h2':cK ⟨x.op,x.x,true,x.rd,x.rn,x.rm,x.ra,x.a,x.b,x.c⟩ [nO ⟨x.op,x.x,true,x.rd,x.rn,x.rm,x.ra,x.a,x.b,x.c⟩,mO ⟨x.op,x.x,true,x.rd,x.rn,x.rm,x.ra,x.a,x.b,x.c⟩]=[nO x,M2]:=h2
  cases b3:(x.b==3)<;>simp only [go_sem,b1,bs,b3,h1,h2,h1',h2',Bool.false_and,Bool.true_and,Bool.not_true,Bool.not_false,Bool.and_true,Bool.and_false,emp]<;>rfl
 ·have h1':cK ⟨x.op,x.x,false,x.rd,x.rn,x.rm,x.ra,x.a,x.b,x.c⟩ [dO ⟨x.op,x.x,false,x.rd,x.rn,x.rm,x.ra,x.a,x.b,x.c⟩,mO ⟨x.op,x.x,false,x.rd,x.rn,x.rm,x.ra,x.a,x.b,x.c⟩]=[dO x,M1]:=h1
  have h2':cK ⟨x.op,x.x,false,x.rd,x.rn,x.rm,x.ra,x.a,x.b,x.c⟩ [nO ⟨x.op,x.x,false,x.rd,x.rn,x.rm,x.ra,x.a,x.b,x.c⟩,mO ⟨x.op,x.x,false,x.rd,x.rn,x.rm,x.ra,x.a,x.b,x.c⟩]=[nO x,M2]:=h2
  have b3:(x.b==3)=false:=by
   simp only [beq_iff_eq] at b1
   simp only [beq_eq_false_iff_ne,ne_eq]
   omega
  cases bn:(x.rn==31)<;>cases ba:(x.a==0)<;>cases bc:(x.c==0)<;>simp only [go_sem,b1,bs,b3,bn,ba,bc,h1,h2,h1',h2',hc.1,hc.2,Bool.false_and,Bool.true_and,Bool.not_true,Bool.not_false,Bool.and_true,Bool.and_false,emp]<;>rfl
 ·have h1':cK ⟨x.op,x.x,true,x.rd,x.rn,x.rm,x.ra,x.a,x.b,x.c⟩ [dO ⟨x.op,x.x,true,x.rd,x.rn,x.rm,x.ra,x.a,x.b,x.c⟩,mO ⟨x.op,x.x,true,x.rd,x.rn,x.rm,x.ra,x.a,x.b,x.c⟩]=[dO x,M1]:=h1
  have h2':cK ⟨x.op,x.x,true,x.rd,x.rn,x.rm,x.ra,x.a,x.b,x.c⟩ [nO ⟨x.op,x.x,true,x.rd,x.rn,x.rm,x.ra,x.a,x.b,x.c⟩,mO ⟨x.op,x.x,true,x.rd,x.rn,x.rm,x.ra,x.a,x.b,x.c⟩]=[nO x,M2]:=h2
  have b3:(x.b==3)=false:=by
   simp only [beq_iff_eq] at b1
   simp only [beq_eq_false_iff_ne,ne_eq]
   omega
  cases bn:(x.rn==31)<;>simp only [go_sem,b1,bs,b3,bn,h1,h2,h1',h2',hc.1,hc.2,Bool.false_and,Bool.true_and,Bool.not_true,Bool.not_false,Bool.and_true,Bool.and_false,emp]<;>rfl
def rE:aJ Tryz.prog 52 :=
 mk1 _ _ _ Tryz.func52 rfl (fun _ _=>by go_simp) (ai ac) ((fun x=>0≤x.c∧x.c≤7)) ((fun x=>.ret (alO (gn x)))) (by rw [Tryz.ntmps52];decide) (fun x h=>xi x h)
theorem vP {id:Nat} {h:am} {args:List AV}:(rE).run id h args=aY (au (ai ac) ((fun x=>0≤x.c∧x.c≤7))) ((fun x=>.ret (alO (gn x)))) h args:=rfl
theorem w6 {id:Nat} {h:am} {args:List AV}:(rE).pan id h args=aZ (au (ai ac) ((fun x=>0≤x.c∧x.c≤7))) ((fun x=>.ret (alO (gn x)))) h args:=rfl
theorem x4 (x:Ins):SW Tryz.prog ⟨none,0⟩ Tryz.f44.ntmps (Tryz.f44.body.getD .skip) ⟨0,ag 0 [(ai ac).enc x],[]⟩ (ax Tryz.prog Tryz.f44.results.toList (.ret (alO (gq x)))):=by
 rw [Tryz.ntmps44,Tryz.results44]
 simp only [Tryz.f44,Option.getD_some,ag]
 refine aE (aa (ctx:=[]) 4000 ?_)
 simp only [go_sem,aS,ac]
 refine aE (aa (ctx:=[]) 4000 ?_)
 simp only [go_sem,aS]
 refine SW.wk (s':=wrA x) ?_ ((Wk.nilC 80 11 40 15 (k:=⟨true,68,12,[az x++[.v (.string emp),.v (.slice none 0 0)]]⟩) rfl rfl rfl).trans (Wk.renL [0,16,80,112] (by simp) (by simp [wrA]) (by decide) rfl rfl))
 refine aa (ctx:=[⟨_,bJ⟩,⟨_,cI bG⟩,⟨_,mD⟩,⟨_,fE⟩]) 4000 ?_
 obtain ⟨P,hP⟩:∃ P,ae x.b [(⟨#[99,109,110]⟩:ByteArray),(⟨#[99,109,112]⟩:ByteArray)]=P:=⟨_,rfl⟩
 obtain ⟨Z,hZ⟩:∃ Z,eI x=Z:=⟨_,rfl⟩
 unfold gq
 rw [hP,hZ]
 cases bs:x.s<;>cases bd:(x.rd==31)
 ·cases b0:(x.b==0)<;>cases a0:(x.a==0)<;>cases c0:(x.c==0)<;>cases bn:(x.rn==31)<;>simp only [go_sem,bs,bd,b0,a0,c0,bn,Bool.false_and,Bool.true_and,Bool.not_true,Bool.not_false,Bool.and_true,Bool.and_false,Bool.true_or,Bool.or_true,Bool.false_or,Bool.or_false,emp]<;>rfl
 ·cases b0:(x.b==0)<;>cases a0:(x.a==0)<;>cases c0:(x.c==0)<;>simp only [go_sem,bs,bd,b0,a0,c0,Bool.false_and,Bool.true_and,Bool.not_true,Bool.not_false,Bool.and_true,Bool.and_false,Bool.true_or,Bool.or_true,Bool.false_or,Bool.or_false,emp]<;>rfl
 ·cases b0:(x.b==0)<;>cases a0:(x.a==0)<;>cases c0:(x.c==0)<;>simp only [go_sem,bs,bd,b0,a0,c0,Bool.false_and,Bool.true_and,Bool.not_true,Bool.not_false,Bool.and_true,Bool.and_false,Bool.true_or,Bool.or_true,Bool.false_or,Bool.or_false,emp]<;>rfl
 ·have hZ2:eI ⟨x.op,x.x,true,x.rd,x.rn,x.rm,x.ra,x.a,x.b,x.c⟩=Z:=by rw [← hZ];rfl
  obtain ⟨zk,⟨zr1,zr2,zr3⟩,⟨zm1,zm2,zm3⟩,zmd,zam,zn,zad,zpl,zmi,zlo,zmo⟩:=Z
  simp only [go_sem,ac,bs,bd,hP,hZ,hZ2,mH,mz,ce,ca,db,xwT,xw0,bI,opV,opL,cG,ofD,opR,cy,opE,nsO,dsO,dO,nO,mO,ah,oSP,op0,r0,Bool.false_and,Bool.true_and,Bool.not_true,Bool.not_false,Bool.and_true,Bool.and_false,Bool.true_or,Bool.or_true,Bool.false_or,Bool.or_false,emp]<;>rfl
def rK:aJ Tryz.prog 44 :=
 mk1 _ _ _ Tryz.func44 rfl (fun _ _=>by go_simp) (ai ac) ((fun _=>True)) ((fun x=>.ret (alO (gq x)))) (by rw [Tryz.ntmps44];decide) (fun x _=>x4 x)
theorem ww {id:Nat} {h:am} {args:List AV}:(rK).run id h args=aY (au (ai ac) ((fun _=>True))) ((fun x=>.ret (alO (gq x)))) h args:=rfl
theorem wb {id:Nat} {h:am} {args:List AV}:(rK).pan id h args=aZ (au (ai ac) ((fun _=>True))) ((fun x=>.ret (alO (gq x)))) h args:=rfl
theorem Ea (x:Ins) (h:x.op=27):SW Tryz.prog ⟨none,0⟩ Tryz.f53.ntmps (Tryz.f53.body.getD .skip) ⟨0,ag 0 [(ai ac).enc x],[]⟩ (ax Tryz.prog Tryz.f53.results.toList (.ret (alO (dw x)))):=by
 rw [Tryz.ntmps53,Tryz.results53]
 simp only [Tryz.f53,Option.getD_some,ag]
 refine aE (aa (ctx:=[]) 4000 ?_)
 simp only [go_sem,aS,ac]
 refine aE (aa (ctx:=[]) 4000 ?_)
 simp only [go_sem,aS]
 refine SW.wk (s':=wrA x) ?_ ((Wk.nilC 80 11 40 15 (k:=⟨true,68,12,[az x++[.v (.string emp),.v (.slice none 0 0)]]⟩) rfl rfl rfl).trans (Wk.renL [0,16,80,112] (by simp) (by simp [wrA]) (by decide) rfl rfl))
 refine aa (ctx:=[]) 4000 ?_
 have b0:(x.op==27)=true:=by rw [h];decide
 obtain ⟨P,hP⟩:∃ P,ae (aU x.s) [(⟨#[110,103,99]⟩:ByteArray),(⟨#[110,103,99,115]⟩:ByteArray)]=P:=⟨_,rfl⟩
 unfold dw
 rw [hP]
 simp only [go_sem,b0]
 refine ab (ctx:=[⟨_,cL⟩,⟨_,bJ⟩,⟨_,cI bG⟩]) ak ⟨[],[(5,[132]),(11,[2,3,228]),(20,[1])],[(0,[132]),(6,[132]),(7,[132]),(8,[132]),(9,[132]),(10,[132]),(12,[132,2,3,228]),(13,[132,2,3,228]),(14,[132,2,3,228]),(16,[1]),(17,[1]),(18,[1]),(19,[1])]⟩ (by kernel_rfl) ?_
 cases b1:(x.b==1)<;>cases bn:(x.rn==31)<;>simp only [go_sem,b0,b1,bn,hP,Bool.false_and,Bool.true_and,Bool.not_true,Bool.not_false,Bool.and_true,Bool.and_false,Bool.true_or,Bool.or_true,Bool.false_or,Bool.or_false,emp]<;>rfl
theorem C8 (x:Ins) (h:¬x.op=27) (hc:0≤x.c∧x.c≤7):SW Tryz.prog ⟨none,0⟩ Tryz.f53.ntmps (Tryz.f53.body.getD .skip) ⟨0,ag 0 [(ai ac).enc x],[]⟩ (ax Tryz.prog Tryz.f53.results.toList (.ret (alO (dw x)))):=by
 rw [Tryz.ntmps53,Tryz.results53]
 simp only [Tryz.f53,Option.getD_some,ag]
 refine aE (aa (ctx:=[]) 4000 ?_)
 simp only [go_sem,aS,ac]
 refine aE (aa (ctx:=[]) 4000 ?_)
 simp only [go_sem,aS]
 refine SW.wk (s':=wrA x) ?_ ((Wk.nilC 80 11 40 15 (k:=⟨true,68,12,[az x++[.v (.string emp),.v (.slice none 0 0)]]⟩) rfl rfl rfl).trans (Wk.renL [0,16,80,112] (by simp) (by simp [wrA]) (by decide) rfl rfl))
 refine aa (ctx:=[⟨_,cL⟩,⟨_,bJ⟩,⟨_,cI bG⟩]) 4000 ?_
 have b0:(x.op==27)=false:=by simpa using h
 obtain ⟨P,hP⟩:∃ P,ae x.b [(⟨#[99,109,110]⟩:ByteArray),(⟨#[99,109,112]⟩:ByteArray)]=P:=⟨_,rfl⟩
 obtain ⟨Q,hQ⟩:∃ P,ae (aU x.s) [(⟨#[110,101,103]⟩:ByteArray),(⟨#[110,101,103,115]⟩:ByteArray)]=P:=⟨_,rfl⟩
 obtain ⟨M1,h1⟩:=qm x (nO x) (mO x)
 obtain ⟨M2,h2⟩:=qm x (dO x) (mO x)
 unfold dw
 rw [hP,hQ,h1,h2]
 cases bs:x.s
 ·have h1':cK ⟨x.op,x.x,false,x.rd,x.rn,x.rm,x.ra,x.a,x.b,x.c⟩ [nO ⟨x.op,x.x,false,x.rd,x.rn,x.rm,x.ra,x.a,x.b,x.c⟩,mO ⟨x.op,x.x,false,x.rd,x.rn,x.rm,x.ra,x.a,x.b,x.c⟩]=[nO x,M1]:=h1
  have h2':cK ⟨x.op,x.x,false,x.rd,x.rn,x.rm,x.ra,x.a,x.b,x.c⟩ [dO ⟨x.op,x.x,false,x.rd,x.rn,x.rm,x.ra,x.a,x.b,x.c⟩,mO ⟨x.op,x.x,false,x.rd,x.rn,x.rm,x.ra,x.a,x.b,x.c⟩]=[dO x,M2]:=h2
  rw [bs] at hQ
  cases bd:(x.rd==31)<;>cases b1:(x.b==1)<;>cases bn:(x.rn==31)<;>simp only [go_sem,b0,bs,bd,b1,bn,hP,hQ,h1,h2,h1',h2',hc.1,hc.2,Bool.false_and,Bool.true_and,Bool.not_true,Bool.not_false,Bool.and_true,Bool.and_false,Bool.true_or,Bool.or_true,Bool.false_or,Bool.or_false,emp]<;>rfl
 ·have h1':cK ⟨x.op,x.x,true,x.rd,x.rn,x.rm,x.ra,x.a,x.b,x.c⟩ [nO ⟨x.op,x.x,true,x.rd,x.rn,x.rm,x.ra,x.a,x.b,x.c⟩,mO ⟨x.op,x.x,true,x.rd,x.rn,x.rm,x.ra,x.a,x.b,x.c⟩]=[nO x,M1]:=h1
  have h2':cK ⟨x.op,x.x,true,x.rd,x.rn,x.rm,x.ra,x.a,x.b,x.c⟩ [dO ⟨x.op,x.x,true,x.rd,x.rn,x.rm,x.ra,x.a,x.b,x.c⟩,mO ⟨x.op,x.x,true,x.rd,x.rn,x.rm,x.ra,x.a,x.b,x.c⟩]=[dO x,M2]:=h2
  rw [bs] at hQ
  cases bd:(x.rd==31)
  ·cases b1:(x.b==1)<;>cases bn:(x.rn==31)<;>simp only [go_sem,b0,bs,bd,b1,bn,hP,hQ,h1,h2,h1',h2',hc.1,hc.2,Bool.false_and,Bool.true_and,Bool.not_true,Bool.not_false,Bool.and_true,Bool.and_false,Bool.true_or,Bool.or_true,Bool.false_or,Bool.or_false,emp]<;>rfl
  ·simp only [go_sem,b0,bs,bd,hP,hQ,h1,h2,h1',h2',hc.1,hc.2,Bool.false_and,Bool.true_and,Bool.not_true,Bool.not_false,Bool.and_true,Bool.and_false,Bool.true_or,Bool.or_true,Bool.false_or,Bool.or_false,emp]<;>rfl
theorem zv (x:Ins) (hc:x.op=27∨(0≤x.c∧x.c≤7)):SW Tryz.prog ⟨none,0⟩ Tryz.f53.ntmps (Tryz.f53.body.getD .skip) ⟨0,ag 0 [(ai ac).enc x],[]⟩ (ax Tryz.prog Tryz.f53.results.toList (.ret (alO (dw x)))):=by
 by_cases h:x.op=27
 ·exact Ea x h
 ·exact C8 x h (hc.resolve_left h)
def rf:aJ Tryz.prog 53 :=
 mk1 _ _ _ Tryz.func53 rfl (fun _ _=>by go_simp) (ai ac) ((fun x=>x.op=27∨(0≤x.c∧x.c≤7))) ((fun x=>.ret (alO (dw x)))) (by rw [Tryz.ntmps53];decide) (fun x h=>zv x h)
theorem wF {id:Nat} {h:am} {args:List AV}:(rf).run id h args=aY (au (ai ac) ((fun x=>x.op=27∨(0≤x.c∧x.c≤7)))) ((fun x=>.ret (alO (dw x)))) h args:=rfl
theorem vj {id:Nat} {h:am} {args:List AV}:(rf).pan id h args=aZ (au (ai ac) ((fun x=>x.op=27∨(0≤x.c∧x.c≤7)))) ((fun x=>.ret (alO (dw x)))) h args:=rfl
end
section
open Go.RowKit
theorem FM:SW Tryz.prog ⟨none,0⟩ Tryz.f185.ntmps (Tryz.f185.body.getD .skip) ⟨0,[],[]⟩ (ax Tryz.prog Tryz.f185.results.toList (.ret (jE eM))):=by
 refine aa (ctx:=[]) 4000 ?_
 rw [Tryz.ntmps185,Tryz.results185]
 simp only [Tryz.f185,Option.getD_some,ag]
 simp only [go_sem,true_or,or_true,or_false,false_or,eM,i8]
 rfl
def xC:aJ Tryz.prog 185 :=
 mk0 _ _ _ Tryz.func185 rfl (fun _ _=>by go_simp) (True) ((.ret (jE eM))) (fun _=>FM)
theorem CN {id:Nat} {h:am} {args:List AV}:(xC).run id h args=aY (nl (True)) (fun _=>(.ret (jE eM))) h args:=rfl
theorem Bc {id:Nat} {h:am} {args:List AV}:(xC).pan id h args=aZ (nl (True)) (fun _=>(.ret (jE eM))) h args:=rfl
def vd:aJ Tryz.prog 163 :=
 mk1 _ _ _ Tryz.func163 rfl (fun _ _=>by go_simp) (ao .i64) ((fun k=>k=5)) ((fun _=>.ret (jE eM))) (by rw [Tryz.ntmps163];decide) (fun k h=>by
 subst h
 refine aa (ctx:=[⟨_,xC⟩]) 4000 ?_
 rw [Tryz.ntmps163,Tryz.results163]
 simp only [Tryz.f163,Option.getD_some,ag]
 simp only [go_sem,CN,Bc,true_or,or_true,or_false,false_or])
theorem xt {id:Nat} {h:am} {args:List AV}:(vd).run id h args=aY (au (ao .i64) ((fun k=>k=5))) ((fun _=>.ret (jE eM))) h args:=rfl
theorem yF {id:Nat} {h:am} {args:List AV}:(vd).pan id h args=aZ (au (ao .i64) ((fun k=>k=5))) ((fun _=>.ret (jE eM))) h args:=rfl
def nmH (n:Int) (i:Nat):St:=⟨0,[(0,iv 5),(1,iv n),(22,jE eM),(23,iv 9),(24,iv i)],[]⟩
theorem mU:eM.length=9:=rfl
theorem Dn (n:Int):SW Tryz.prog ⟨none,0⟩ Tryz.f117.ntmps (Tryz.f117.body.getD .skip) ⟨0,ag 0 [(ao .i64).enc 5,(ao .i64).enc n],[]⟩ (ax Tryz.prog Tryz.f117.results.toList (.ret (cf (cV 5 n)))):=by
 refine aa (ctx:=[⟨_,vd⟩]) 4000 ?_
 rw [Tryz.ntmps117,Tryz.results117]
 simp only [Tryz.f117,Option.getD_some,ag]
 simp only [go_sem,xt,yF,List.length_map,mU,eM]
 refine cM (ι:=Nat) (fun i=>i≤9∧∀ (j:Nat) (r:ByteArray×Int),j<i→eM[j]? = some r→¬r.2=n) (nmH n) (fun i=>9-i) 0 ⟨Nat.zero_le _,fun j r hj=>absurd hj (Nat.not_lt_zero j)⟩ (Wk.renL [] (by simp) (by simp) (by simp) rfl rfl) ?_
 rintro i ⟨hi,hn⟩
 refine aa (ctx:=[]) 4000 ?_
 obtain ⟨l,hl⟩:∃ l,eM=l:=⟨_,rfl⟩
 have hlen:l.length=9:=by rw [← hl];rfl
 unfold nmH
 rw [hl] at hn ⊢
 rcases Nat.lt_or_ge i 9 with hlt | hge
 ·have hltI:(i:Int)<9:=by omega
  obtain ⟨r,hr⟩:∃ r,l[i]? = some r:=⟨_,List.getElem?_eq_getElem (by omega)⟩
  have ei:IntKind.i64.wrap ((i:Int)+1)=((i+1:Nat):Int):=by rw [IntKind.wrap_i64];omega
  by_cases hrn:r.2=n
  ·have er:cV 5 n=(r.1,0):=by
    have:=mM (by rw [← hl] at hn;exact hn) (by rw [← hl] at hr;exact hr) hrn
    unfold cV sE
    rw [if_neg (by decide),if_neg (by decide),if_neg (by decide),if_neg (by decide),if_pos rfl,this]
   have hb:(r.2==n)=true:=by simpa using hrn
   simp only [go_sem,hltI,hr,i8,hb,er,cf,hlen,List.length_map,List.getElem?_map]
  ·have hb:(r.2==n)=false:=by simpa using hrn
   simp only [go_sem,hltI,hr,i8,hb,ei,hlen,List.length_map,List.getElem?_map]
   refine ⟨i+1,⟨hlt,fun j r' hj hr'=>?_⟩,by omega,Wk.renL [] (by simp) (by simp) (by simp) rfl rfl⟩
   by_cases e2:j=i
   ·subst e2
    rw [hr] at hr'
    injection hr' with hr'
    rw [← hr']
    exact hrn
   ·exact hn j r' (by omega) hr'
 ·obtain rfl:i=9:=by omega
  have er:cV 5 n=(emp,30):=by
   have:=kt (by rw [← hl,mU] at *;exact hn)
   unfold cV sE
   rw [if_neg (by decide),if_neg (by decide),if_neg (by decide),if_neg (by decide),if_pos rfl,this]
   rfl
  simp only [go_sem,er,cf,emp]
def x9:aJ Tryz.prog 117 :=
 mk2 _ _ _ Tryz.func117 rfl (fun _ _=>by go_simp) (ao .i64) (ao .i64) ((fun k _=>k=5)) ((fun k n=>.ret (cf (cV 5 n)))) (by rw [Tryz.ntmps117];decide) (fun k n h=>by
 subst h
 exact Dn n)
theorem Cy {id:Nat} {h:am} {args:List AV}:(x9).run id h args=aY (bT (ao .i64) (ao .i64) ((fun k _=>k=5))) (fun x=>((fun k n=>.ret (cf (cV 5 n)))) x.1 x.2) h args:=rfl
theorem Bl {id:Nat} {h:am} {args:List AV}:(x9).pan id h args=aZ (bT (ao .i64) (ao .i64) ((fun k _=>k=5))) (fun x=>((fun k n=>.ret (cf (cV 5 n)))) x.1 x.2) h args:=rfl
def rv:aJ Tryz.prog 148 :=
 mk1 _ _ _ Tryz.func148 rfl (fun _ _=>by go_simp) (ao .i64) ((fun k=>k=5)) ((fun _=>.ret (jE eM))) (by rw [Tryz.ntmps148];decide) (fun k h=>by
 subst h
 refine aa (ctx:=[]) 4000 ?_
 rw [Tryz.ntmps148,Tryz.results148]
 simp only [Tryz.f148,Option.getD_some,ag]
 simp only [go_sem,true_or,or_true,or_false,false_or,eM,i8]
 rfl)
theorem wY {id:Nat} {h:am} {args:List AV}:(rv).run id h args=aY (au (ao .i64) ((fun k=>k=5))) ((fun _=>.ret (jE eM))) h args:=rfl
theorem vZ {id:Nat} {h:am} {args:List AV}:(rv).pan id h args=aZ (au (ao .i64) ((fun k=>k=5))) ((fun _=>.ret (jE eM))) h args:=rfl
def OZ (n:Int) (i:Nat):St:=⟨0,[(0,iv 5),(1,iv n),(6,jE eM),(7,iv i)],[]⟩
theorem CD (n:Int):SW Tryz.prog ⟨none,0⟩ Tryz.f87.ntmps (Tryz.f87.body.getD .skip) ⟨0,ag 0 [(ao .i64).enc 5,(ao .i64).enc n],[]⟩ (ax Tryz.prog Tryz.f87.results.toList (.ret (cf (cV 5 n)))):=by
 refine aa (ctx:=[⟨_,rv⟩]) 4000 ?_
 rw [Tryz.ntmps87,Tryz.results87]
 simp only [Tryz.f87,Option.getD_some,ag]
 simp only [go_sem,wY,vZ,List.length_map,mU,eM]
 refine cM (ι:=Nat) (fun i=>i≤9∧∀ (j:Nat) (r:ByteArray×Int),j<i→eM[j]? = some r→¬r.2=n) (OZ n) (fun i=>9-i) 0 ⟨Nat.zero_le _,fun j r hj=>absurd hj (Nat.not_lt_zero j)⟩ (Wk.renL [] (by simp) (by simp) (by simp) rfl rfl) ?_
 rintro i ⟨hi,hn⟩
 refine aa (ctx:=[]) 4000 ?_
 obtain ⟨l,hl⟩:∃ l,eM=l:=⟨_,rfl⟩
 have hlen:l.length=9:=by rw [← hl];rfl
 unfold OZ
 rw [hl] at hn ⊢
 rcases Nat.lt_or_ge i 9 with hlt | hge
 ·have hltI:(i:Int)<9:=by omega
  obtain ⟨r,hr⟩:∃ r,l[i]? = some r:=⟨_,List.getElem?_eq_getElem (by omega)⟩
  have ei:IntKind.i64.wrap ((i:Int)+1)=((i+1:Nat):Int):=by rw [IntKind.wrap_i64];omega
  by_cases hrn:r.2=n
  ·have er:cV 5 n=(r.1,0):=by
    have:=mM (by rw [← hl] at hn;exact hn) (by rw [← hl] at hr;exact hr) hrn
    unfold cV sE
    rw [if_neg (by decide),if_neg (by decide),if_neg (by decide),if_neg (by decide),if_pos rfl,this]
   have hb:(r.2==n)=true:=by simpa using hrn
   simp only [go_sem,hltI,hr,i8,hb,er,cf,hlen,List.length_map,List.getElem?_map]
  ·have hb:(r.2==n)=false:=by simpa using hrn
   simp only [go_sem,hltI,hr,i8,hb,ei,hlen,List.length_map,List.getElem?_map]
   refine ⟨i+1,⟨hlt,fun j r' hj hr'=>?_⟩,by omega,Wk.renL [] (by simp) (by simp) (by simp) rfl rfl⟩
   by_cases e2:j=i
   ·subst e2
    rw [hr] at hr'
    injection hr' with hr'
    rw [← hr']
    exact hrn
   ·exact hn j r' (by omega) hr'
 ·obtain rfl:i=9:=by omega
  have er:cV 5 n=(emp,30):=by
   have:=kt (by rw [← hl,mU] at *;exact hn)
   unfold cV sE
   rw [if_neg (by decide),if_neg (by decide),if_neg (by decide),if_neg (by decide),if_pos rfl,this]
   rfl
  simp only [go_sem,hlen,List.length_map,er,cf,emp]
def va:aJ Tryz.prog 87 :=
 mk2 _ _ _ Tryz.func87 rfl (fun _ _=>by go_simp) (ao .i64) (ao .i64) ((fun k _=>k=5)) ((fun k n=>.ret (cf (cV 5 n)))) (by rw [Tryz.ntmps87];decide) (fun k n h=>by
 subst h
 exact CD n)
theorem xc {id:Nat} {h:am} {args:List AV}:(va).run id h args=aY (bT (ao .i64) (ao .i64) ((fun k _=>k=5))) (fun x=>((fun k n=>.ret (cf (cV 5 n)))) x.1 x.2) h args:=rfl
theorem yZ {id:Nat} {h:am} {args:List AV}:(va).pan id h args=aZ (bT (ao .i64) (ao .i64) ((fun k _=>k=5))) (fun x=>((fun k n=>.ret (cf (cV 5 n)))) x.1 x.2) h args:=rfl
end
end Go.Proofs.YtpjlafmhoifkmaaGreat
