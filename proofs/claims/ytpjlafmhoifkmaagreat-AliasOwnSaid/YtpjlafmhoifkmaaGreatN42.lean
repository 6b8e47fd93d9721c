import Derived.Test.YtpjlafmhoifkmaaGreatN35
import Derived.Test.YtpjlafmhoifkmaaGreatN30
import Derived.Test.YtpjlafmhoifkmaaGreatN41
import Derived.Test.YtpjlafmhoifkmaaGreatN33
import Derived.Test.YtpjlafmhoifkmaaGreatN24
set_option linter.unusedVariables false
set_option linter.unusedSimpArgs false
set_option maxRecDepth 100000
set_option maxHeartbeats 8000000
namespace Go.Proofs.YtpjlafmhoifkmaaGreat
section
open Go.RowKit
theorem nN (x:Ins) (a b:OpV):∃ M,bS x [a,b]=[a,M]:=by
 unfold bS
 split
 ·exact ⟨b,rfl⟩
 ·exact ⟨_,rfl⟩
attribute [local go_sem] wrA aw wrK ay bB aM bC aW aV bT bD aX aL ap aS bH gOf aG aF aK bI bg aT jy jo kt jW iq gy jj iz eM fH iw gH gO dP jE jr aE aD bK bO bu aC bj be aZ alO
theorem wL (x:Ins) (hc:0≤x.c∧x.c≤7):SW Tryz.prog ⟨none,0⟩ Tryz.f52.ntmps (Tryz.f52.body.getD .skip) ⟨0,ag 0 [(am ae).enc x],[]⟩ (aH Tryz.prog Tryz.f52.results.toList (.ret (alO (eH x)))):=by
 rw [Tryz.ntmps52,Tryz.results52]
 simp only [Tryz.f52,Option.getD_some,ag]
 refine az (aa (ctx:=[]) 4000 ?_)
 simp only [go_sem,aJ,ae]
 refine az (aa (ctx:=[]) 4000 ?_)
 simp only [go_sem,aJ]
 refine SW.wk (s':=wrA x) ?_ ((Wk.nilC 80 11 40 15 (k:=⟨true,68,12,[aw x++[.v (.string emp),.v (.slice none 0 0)]]⟩) rfl rfl rfl).trans (Wk.renL [0,16,80,112] (by simp) (by simp [wrA]) (by decide) rfl rfl))
 refine aa (ctx:=[⟨_,bZ bh⟩]) 4000 ?_
 obtain ⟨M1,h1⟩:=nN x (dO x) (mO x)
 obtain ⟨M2,h2⟩:=nN x (nO x) (mO x)
 unfold eH
 rw [h1,h2]
 cases b1:(x.b==1)<;>cases bs:x.s
 ·have h1':bS ⟨x.op,x.x,false,x.rd,x.rn,x.rm,x.ra,x.a,x.b,x.c⟩ [dO ⟨x.op,x.x,false,x.rd,x.rn,x.rm,x.ra,x.a,x.b,x.c⟩,mO ⟨x.op,x.x,false,x.rd,x.rn,x.rm,x.ra,x.a,x.b,x.c⟩]=[dO x,M1]:=h1
  have h2':bS ⟨x.op,x.x,false,x.rd,x.rn,x.rm,x.ra,x.a,x.b,x.c⟩ [nO ⟨x.op,x.x,false,x.rd,x.rn,x.rm,x.ra,x.a,x.b,x.c⟩,mO ⟨x.op,x.x,false,x.rd,x.rn,x.rm,x.ra,x.a,x.b,x.c⟩]=[nO x,M2]:=h2
  cases b3:(x.b==3)<;>cases br:(x.rd==31)<;>simp only [go_sem,b1,bs,b3,br,h1,h2,h1',h2',hc.1,hc.2,Bool.false_and,Bool.true_and,Bool.not_true,Bool.not_false,Bool.and_true,Bool.and_false,emp]<;>rfl
 ·have h1':bS ⟨x.op,x.x,true,x.rd,x.rn,x.rm,x.ra,x.a,x.b,x.c⟩ [dO ⟨x.op,x.x,true,x.rd,x.rn,x.rm,x.ra,x.a,x.b,x.c⟩,mO ⟨x.op,x.x,true,x.rd,x.rn,x.rm,x.ra,x.a,x.b,x.c⟩]=[dO x,M1]:=h1
  have h2':bS ⟨x.op,x.x,true,x.rd,x.rn,x.rm,x.ra,x.a,x.b,x.c⟩ [nO ⟨x.op,x.x,true,x.rd,x.rn,x.rm,x.ra,x.a,x.b,x.c⟩,mO ⟨x.op,x.x,true,x.rd,x.rn,x.rm,x.ra,x.a,x.b,x.c⟩]=[nO x,M2]:=h2
  cases b3:(x.b==3)<;>simp only [go_sem,b1,bs,b3,h1,h2,h1',h2',Bool.false_and,Bool.true_and,Bool.not_true,Bool.not_false,Bool.and_true,Bool.and_false,emp]<;>rfl
 ·have h1':bS ⟨x.op,x.x,false,x.rd,x.rn,x.rm,x.ra,x.a,x.b,x.c⟩ [dO ⟨x.op,x.x,false,x.rd,x.rn,x.rm,x.ra,x.a,x.b,x.c⟩,mO ⟨x.op,x.x,false,x.rd,x.rn,x.rm,x.ra,x.a,x.b,x.c⟩]=[dO x,M1]:=h1
  have h2':bS ⟨x.op,x.x,false,x.rd,x.rn,x.rm,x.ra,x.a,x.b,x.c⟩ [nO ⟨x.op,x.x,false,x.rd,x.rn,x.rm,x.ra,x.a,x.b,x.c⟩,mO ⟨x.op,x.x,false,x.rd,x.rn,x.rm,x.ra,x.a,x.b,x.c⟩]=[nO x,M2]:=h2
  have b3:(x.b==3)=false:=by
   simp only [beq_iff_eq] at b1
   simp only [beq_eq_false_iff_ne,ne_eq]
   omega
  cases bn:(x.rn==31)<;>cases ba:(x.a==0)<;>cases bc:(x.c==0)<;>simp only [go_sem,b1,bs,b3,bn,ba,bc,h1,h2,h1',h2',hc.1,hc.2,Bool.false_and,Bool.true_and,Bool.not_true,Bool.not_false,Bool.and_true,Bool.and_false,emp]<;>rfl
 ·have h1':bS ⟨x.op,x.x,true,x.rd,x.rn,x.rm,x.ra,x.a,x.b,x.c⟩ [dO ⟨x.op,x.x,true,x.rd,x.rn,x.rm,x.ra,x.a,x.b,x.c⟩,mO ⟨x.op,x.x,true,x.rd,x.rn,x.rm,x.ra,x.a,x.b,x.c⟩]=[dO x,M1]:=h1
  have h2':bS ⟨x.op,x.x,true,x.rd,x.rn,x.rm,x.ra,x.a,x.b,x.c⟩ [nO ⟨x.op,x.x,true,x.rd,x.rn,x.rm,x.ra,x.a,x.b,x.c⟩,mO ⟨x.op,x.x,true,x.rd,x.rn,x.rm,x.ra,x.a,x.b,x.c⟩]=[nO x,M2]:=h2
  have b3:(x.b==3)=false:=by
   simp only [beq_iff_eq] at b1
   simp only [beq_eq_false_iff_ne,ne_eq]
   omega
  cases bn:(x.rn==31)<;>simp only [go_sem,b1,bs,b3,bn,h1,h2,h1',h2',hc.1,hc.2,Bool.false_and,Bool.true_and,Bool.not_true,Bool.not_false,Bool.and_true,Bool.and_false,emp]<;>rfl
def oX:aQ Tryz.prog 52 :=
 mk1 _ _ _ Tryz.func52 rfl (fun _ _=>by go_simp) (am ae) ((fun x=>0≤x.c∧x.c≤7)) ((fun x=>.ret (alO (eH x)))) (by rw [Tryz.ntmps52];decide) (fun x h=>wL x h)
theorem tF {id:Nat} {h:ah} {args:List AV}:(oX).run id h args=bm (av (am ae) ((fun x=>0≤x.c∧x.c≤7))) ((fun x=>.ret (alO (eH x)))) h args:=rfl
theorem ua {id:Nat} {h:ah} {args:List AV}:(oX).pan id h args=bt (av (am ae) ((fun x=>0≤x.c∧x.c≤7))) ((fun x=>.ret (alO (eH x)))) h args:=rfl
theorem ut (x:Ins):SW Tryz.prog ⟨none,0⟩ Tryz.f44.ntmps (Tryz.f44.body.getD .skip) ⟨0,ag 0 [(am ae).enc x],[]⟩ (aH Tryz.prog Tryz.f44.results.toList (.ret (alO (eG x)))):=by
 rw [Tryz.ntmps44,Tryz.results44]
 simp only [Tryz.f44,Option.getD_some,ag]
 refine az (aa (ctx:=[]) 4000 ?_)
 simp only [go_sem,aJ,ae]
 refine az (aa (ctx:=[]) 4000 ?_)
 simp only [go_sem,aJ]
 refine SW.wk (s':=wrA x) ?_ ((Wk.nilC 80 11 40 15 (k:=⟨true,68,12,[aw x++[.v (.string emp),.v (.slice none 0 0)]]⟩) rfl rfl rfl).trans (Wk.renL [0,16,80,112] (by simp) (by simp [wrA]) (by decide) rfl rfl))
 refine aa (ctx:=[⟨_,bp⟩,⟨_,bZ bh⟩,⟨_,jU⟩,⟨_,dV⟩]) 4000 ?_
 obtain ⟨P,hP⟩:∃ P,ak x.b [(⟨#[99,109,110]⟩:ByteArray),(⟨#[99,109,112]⟩:ByteArray)]=P:=⟨_,rfl⟩
 obtain ⟨Z,hZ⟩:∃ Z,dh x=Z:=⟨_,rfl⟩
 unfold eG
 rw [hP,hZ]
 cases bs:x.s<;>cases bd:(x.rd==31)
 ·cases b0:(x.b==0)<;>cases a0:(x.a==0)<;>cases c0:(x.c==0)<;>cases bn:(x.rn==31)<;>simp only [go_sem,bs,bd,b0,a0,c0,bn,Bool.false_and,Bool.true_and,Bool.not_true,Bool.not_false,Bool.and_true,Bool.and_false,Bool.true_or,Bool.or_true,Bool.false_or,Bool.or_false,emp]<;>rfl
 ·cases b0:(x.b==0)<;>cases a0:(x.a==0)<;>cases c0:(x.c==0)<;>simp only [go_sem,bs,bd,b0,a0,c0,Bool.false_and,Bool.true_and,Bool.not_true,Bool.not_false,Bool.and_true,Bool.and_false,Bool.true_or,Bool.or_true,Bool.false_or,Bool.or_false,emp]<;>rfl
 ·cases b0:(x.b==0)<;>cases a0:(x.a==0)<;>cases c0:(x.c==0)<;>simp only [go_sem,bs,bd,b0,a0,c0,Bool.false_and,Bool.true_and,Bool.not_true,Bool.not_false,Bool.and_true,Bool.and_false,Bool.true_or,Bool.or_true,Bool.false_or,Bool.or_false,emp]<;>rfl
 ·have hZ2:dh ⟨x.op,x.x,true,x.rd,x.rn,x.rm,x.ra,x.a,x.b,x.c⟩=Z:=by rw [← hZ];rfl
  obtain ⟨zk,⟨zr1,zr2,zr3⟩,⟨zm1,zm2,zm3⟩,zmd,zam,zn,zad,zpl,zmi,zlo,zmo⟩:=Z
  simp only [go_sem,ae,bs,bd,hP,hZ,hZ2,jD,jG,bE,bF,cp,xwT,xw0,bk,opV,opL,bX,ofD,opR,cB,opE,nsO,dsO,dO,nO,mO,ab,oSP,op0,r0,Bool.false_and,Bool.true_and,Bool.not_true,Bool.not_false,Bool.and_true,Bool.and_false,Bool.true_or,Bool.or_true,Bool.false_or,Bool.or_false,emp]<;>rfl
def oz:aQ Tryz.prog 44 :=
 mk1 _ _ _ Tryz.func44 rfl (fun _ _=>by go_simp) (am ae) ((fun _=>True)) ((fun x=>.ret (alO (eG x)))) (by rw [Tryz.ntmps44];decide) (fun x _=>ut x)
theorem s8 {id:Nat} {h:ah} {args:List AV}:(oz).run id h args=bm (av (am ae) ((fun _=>True))) ((fun x=>.ret (alO (eG x)))) h args:=rfl
theorem sF {id:Nat} {h:ah} {args:List AV}:(oz).pan id h args=bt (av (am ae) ((fun _=>True))) ((fun x=>.ret (alO (eG x)))) h args:=rfl
theorem Dk (x:Ins) (h:x.op=27):SW Tryz.prog ⟨none,0⟩ Tryz.f53.ntmps (Tryz.f53.body.getD .skip) ⟨0,ag 0 [(am ae).enc x],[]⟩ (aH Tryz.prog Tryz.f53.results.toList (.ret (alO (dw x)))):=by
 rw [Tryz.ntmps53,Tryz.results53]
 simp only [Tryz.f53,Option.getD_some,ag]
 refine az (aa (ctx:=[]) 4000 ?_)
 simp only [go_sem,aJ,ae]
 refine az (aa (ctx:=[]) 4000 ?_)
 simp only [go_sem,aJ]
 refine SW.wk (s':=wrA x) ?_ ((Wk.nilC 80 11 40 15 (k:=⟨true,68,12,[aw x++[.v (.string emp),.v (.slice none 0 0)]]⟩) rfl rfl rfl).trans (Wk.renL [0,16,80,112] (by simp) (by simp [wrA]) (by decide) rfl rfl))
 refine aa (ctx:=[]) 4000 ?_
 have b0:(x.op==27)=true:=by rw [h];decide
 obtain ⟨P,hP⟩:∃ P,ak (an x.s) [(⟨#[110,103,99]⟩:ByteArray),(⟨#[110,103,99,115]⟩:ByteArray)]=P:=⟨_,rfl⟩
 unfold dw
 rw [hP]
 simp only [go_sem,b0]
 refine aq (ctx:=[⟨_,ca⟩,⟨_,bp⟩,⟨_,bZ bh⟩]) ax ⟨[],[(5,[132]),(11,[2,3,228]),(20,[1])],[(0,[132]),(6,[132]),(7,[132]),(8,[132]),(9,[132]),(10,[132]),(12,[132,2,3,228]),(13,[132,2,3,228]),(14,[132,2,3,228]),(16,[1]),(17,[1]),(18,[1]),(19,[1])]⟩ (by kernel_rfl) ?_
 cases b1:(x.b==1)<;>cases bn:(x.rn==31)<;>simp only [go_sem,b0,b1,bn,hP,Bool.false_and,Bool.true_and,Bool.not_true,Bool.not_false,Bool.and_true,Bool.and_false,Bool.true_or,Bool.or_true,Bool.false_or,Bool.or_false,emp]<;>rfl
theorem AS (x:Ins) (h:¬x.op=27) (hc:0≤x.c∧x.c≤7):SW Tryz.prog ⟨none,0⟩ Tryz.f53.ntmps (Tryz.f53.body.getD .skip) ⟨0,ag 0 [(am ae).enc x],[]⟩ (aH Tryz.prog Tryz.f53.results.toList (.ret (alO (dw x)))):=by
 rw [Tryz.ntmps53,Tryz.results53]
 simp only [Tryz.f53,Option.getD_some,ag]
 refine az (aa (ctx:=[]) 4000 ?_)
 simp only [go_sem,aJ,ae]
 refine az (aa (ctx:=[]) 4000 ?_)
 simp only [go_sem,aJ]
 refine SW.wk (s':=wrA x) ?_ ((Wk.nilC 80 11 40 15 (k:=⟨true,68,12,[aw x++[.v (.string emp),.v (.slice none 0 0)]]⟩) rfl rfl rfl).trans (Wk.renL [0,16,80,112] (by simp) (by simp [wrA]) (by decide) rfl rfl))
 refine aa (ctx:=[⟨_,ca⟩,⟨_,bp⟩,⟨_,bZ bh⟩]) 4000 ?_
 have b0:(x.op==27)=false:=by simpa using h
 obtain ⟨P,hP⟩:∃ P,ak x.b [(⟨#[99,109,110]⟩:ByteArray),(⟨#[99,109,112]⟩:ByteArray)]=P:=⟨_,rfl⟩
 obtain ⟨Q,hQ⟩:∃ P,ak (an x.s) [(⟨#[110,101,103]⟩:ByteArray),(⟨#[110,101,103,115]⟩:ByteArray)]=P:=⟨_,rfl⟩
 obtain ⟨M1,h1⟩:=nN x (nO x) (mO x)
 obtain ⟨M2,h2⟩:=nN x (dO x) (mO x)
 unfold dw
 rw [hP,hQ,h1,h2]
 cases bs:x.s
 ·have h1':bS ⟨x.op,x.x,false,x.rd,x.rn,x.rm,x.ra,x.a,x.b,x.c⟩ [nO ⟨x.op,x.x,false,x.rd,x.rn,x.rm,x.ra,x.a,x.b,x.c⟩,mO ⟨x.op,x.x,false,x.rd,x.rn,x.rm,x.ra,x.a,x.b,x.c⟩]=[nO x,M1]:=h1
  have h2':bS ⟨x.op,x.x,false,x.rd,x.rn,x.rm,x.ra,x.a,x.b,x.c⟩ [dO ⟨x.op,x.x,false,x.rd,x.rn,x.rm,x.ra,x.a,x.b,x.c⟩,mO ⟨x.op,x.x,false,x.rd,x.rn,x.rm,x.ra,x.a,x.b,x.c⟩]=[dO x,M2]:=h2
  rw [bs] at hQ
  cases bd:(x.rd==31)<;>cases b1:(x.b==1)<;>cases bn:(x.rn==31)<;>simp only [go_sem,b0,bs,bd,b1,bn,hP,hQ,h1,h2,h1',h2',hc.1,hc.2,Bool.false_and,Bool.true_and,Bool.not_true,Bool.not_false,Bool.and_true,Bool.and_false,Bool.true_or,Bool.or_true,Bool.false_or,Bool.or_false,emp]<;>rfl
 ·have h1':bS ⟨x.op,x.x,true,x.rd,x.rn,x.rm,x.ra,x.a,x.b,x.c⟩ [nO ⟨x.op,x.x,true,x.rd,x.rn,x.rm,x.ra,x.a,x.b,x.c⟩,mO ⟨x.op,x.x,true,x.rd,x.rn,x.rm,x.ra,x.a,x.b,x.c⟩]=[nO x,M1]:=h1
  have h2':bS ⟨x.op,x.x,true,x.rd,x.rn,x.rm,x.ra,x.a,x.b,x.c⟩ [dO ⟨x.op,x.x,true,x.rd,x.rn,x.rm,x.ra,x.a,x.b,x.c⟩,mO ⟨x.op,x.x,true,x.rd,x.rn,x.rm,x.ra,x.a,x.b,x.c⟩]=[dO x,M2]:=h2
  rw [bs] at hQ
  cases bd:(x.rd==31)
  ·cases b1:(x.b==1)<;>cases bn:(x.rn==31)<;>simp only [go_sem,b0,bs,bd,b1,bn,hP,hQ,h1,h2,h1',h2',hc.1,hc.2,Bool.false_and,Bool.true_and,Bool.not_true,Bool.not_false,Bool.and_true,Bool.and_false,Bool.true_or,Bool.or_true,Bool.false_or,Bool.or_false,emp]<;>rfl
  ·simp only [go_sem,b0,bs,bd,hP,hQ,h1,h2,h1',h2',hc.1,hc.2,Bool.false_and,Bool.true_and,Bool.not_true,Bool.not_false,Bool.and_true,Bool.and_false,Bool.true_or,Bool.or_true,Bool.false_or,Bool.or_false,emp]<;>rfl
theorem uN (x:Ins) (hc:x.op=27∨(0≤x.c∧x.c≤7)):SW Tryz.prog ⟨none,0⟩ Tryz.f53.ntmps (Tryz.f53.body.getD .skip) ⟨0,ag 0 [(am ae).enc x],[]⟩ (aH Tryz.prog Tryz.f53.results.toList (.ret (alO (dw x)))):=by
 by_cases h:x.op=27
 ·exact Dk x h
 ·exact AS x h (hc.resolve_left h)
def pr:aQ Tryz.prog 53 :=
 mk1 _ _ _ Tryz.func53 rfl (fun _ _=>by go_simp) (am ae) ((fun x=>x.op=27∨(0≤x.c∧x.c≤7))) ((fun x=>.ret (alO (dw x)))) (by rw [Tryz.ntmps53];decide) (fun x h=>uN x h)
theorem ul {id:Nat} {h:ah} {args:List AV}:(pr).run id h args=bm (av (am ae) ((fun x=>x.op=27∨(0≤x.c∧x.c≤7)))) ((fun x=>.ret (alO (dw x)))) h args:=rfl
theorem td {id:Nat} {h:ah} {args:List AV}:(pr).pan id h args=bt (av (am ae) ((fun x=>x.op=27∨(0≤x.c∧x.c≤7)))) ((fun x=>.ret (alO (dw x)))) h args:=rfl
end
section
open Go.RowKit
theorem CG:SW Tryz.prog ⟨none,0⟩ Tryz.f185.ntmps (Tryz.f185.body.getD .skip) ⟨0,[],[]⟩ (aH Tryz.prog Tryz.f185.results.toList (.ret (kh fu))):=by
 refine aa (ctx:=[]) 4000 ?_
 rw [Tryz.ntmps185,Tryz.results185]
 simp only [Tryz.f185,Option.getD_some,ag]
 simp only [go_sem,true_or,or_true,or_false,false_or,fu,kS]
 rfl
def u8:aQ Tryz.prog 185 :=
 mk0 _ _ _ Tryz.func185 rfl (fun _ _=>by go_simp) (True) ((.ret (kh fu))) (fun _=>CG)
theorem zY {id:Nat} {h:ah} {args:List AV}:(u8).run id h args=bm (kr (True)) (fun _=>(.ret (kh fu))) h args:=rfl
theorem zF {id:Nat} {h:ah} {args:List AV}:(u8).pan id h args=bt (kr (True)) (fun _=>(.ret (kh fu))) h args:=rfl
def sk:aQ Tryz.prog 163 :=
 mk1 _ _ _ Tryz.func163 rfl (fun _ _=>by go_simp) (ar .i64) ((fun k=>k=5)) ((fun _=>.ret (kh fu))) (by rw [Tryz.ntmps163];decide) (fun k h=>by
 subst h
 refine aa (ctx:=[⟨_,u8⟩]) 4000 ?_
 rw [Tryz.ntmps163,Tryz.results163]
 simp only [Tryz.f163,Option.getD_some,ag]
 simp only [go_sem,zY,zF,true_or,or_true,or_false,false_or])
theorem uG {id:Nat} {h:ah} {args:List AV}:(sk).run id h args=bm (av (ar .i64) ((fun k=>k=5))) ((fun _=>.ret (kh fu))) h args:=rfl
theorem vY {id:Nat} {h:ah} {args:List AV}:(sk).pan id h args=bt (av (ar .i64) ((fun k=>k=5))) ((fun _=>.ret (kh fu))) h args:=rfl
def nmH (n:Int) (i:Nat):St:=⟨0,[(0,iv 5),(1,iv n),(22,kh fu),(23,iv 9),(24,iv i)],[]⟩
theorem qE:fu.length=9:=rfl
theorem Bv (n:Int):SW Tryz.prog ⟨none,0⟩ Tryz.f117.ntmps (Tryz.f117.body.getD .skip) ⟨0,ag 0 [(ar .i64).enc 5,(ar .i64).enc n],[]⟩ (aH Tryz.prog Tryz.f117.results.toList (.ret (dy (dn 5 n)))):=by
 refine aa (ctx:=[⟨_,sk⟩]) 4000 ?_
 rw [Tryz.ntmps117,Tryz.results117]
 simp only [Tryz.f117,Option.getD_some,ag]
 simp only [go_sem,uG,vY,List.length_map,qE,fu]
 refine cM (ι:=Nat) (fun i=>i≤9∧∀ (j:Nat) (r:ByteArray×Int),j<i→fu[j]? = some r→¬r.2=n) (nmH n) (fun i=>9-i) 0 ⟨Nat.zero_le _,fun j r hj=>absurd hj (Nat.not_lt_zero j)⟩ (Wk.renL [] (by simp) (by simp) (by simp) rfl rfl) ?_
 rintro i ⟨hi,hn⟩
 refine aa (ctx:=[]) 4000 ?_
 obtain ⟨l,hl⟩:∃ l,fu=l:=⟨_,rfl⟩
 have hlen:l.length=9:=by rw [← hl];rfl
 unfold nmH
 rw [hl] at hn ⊢
 rcases Nat.lt_or_ge i 9 with hlt | hge
 ·have hltI:(i:Int)<9:=by omega
  obtain ⟨r,hr⟩:∃ r,l[i]? = some r:=⟨_,List.getElem?_eq_getElem (by omega)⟩
  have ei:IntKind.i64.wrap ((i:Int)+1)=((i+1:Nat):Int):=by rw [IntKind.wrap_i64];omega
  by_cases hrn:r.2=n
  ·have er:dn 5 n=(r.1,0):=by
    have:=p9 (by rw [← hl] at hn;exact hn) (by rw [← hl] at hr;exact hr) hrn
    unfold dn yC
    rw [if_neg (by decide),if_neg (by decide),if_neg (by decide),if_neg (by decide),if_pos rfl,this]
   have hb:(r.2==n)=true:=by simpa using hrn
   simp only [go_sem,hltI,hr,kS,hb,er,dy,hlen,List.length_map,List.getElem?_map]
  ·have hb:(r.2==n)=false:=by simpa using hrn
   simp only [go_sem,hltI,hr,kS,hb,ei,hlen,List.length_map,List.getElem?_map]
   refine ⟨i+1,⟨hlt,fun j r' hj hr'=>?_⟩,by omega,Wk.renL [] (by simp) (by simp) (by simp) rfl rfl⟩
   by_cases e2:j=i
   ·subst e2
    rw [hr] at hr'
    injection hr' with hr'
    rw [← hr']
    exact hrn
   ·exact hn j r' (by omega) hr'
 ·obtain rfl:i=9:=by omega
  have er:dn 5 n=(emp,30):=by
   have:=nn (by rw [← hl,qE] at *;exact hn)
   unfold dn yC
   rw [if_neg (by decide),if_neg (by decide),if_neg (by decide),if_neg (by decide),if_pos rfl,this]
   rfl
  simp only [go_sem,er,dy,emp]
def vw:aQ Tryz.prog 117 :=
 mk2 _ _ _ Tryz.func117 rfl (fun _ _=>by go_simp) (ar .i64) (ar .i64) ((fun k _=>k=5)) ((fun k n=>.ret (dy (dn 5 n)))) (by rw [Tryz.ntmps117];decide) (fun k n h=>by
 subst h
 exact Bv n)
theorem yT {id:Nat} {h:ah} {args:List AV}:(vw).run id h args=bm (cq (ar .i64) (ar .i64) ((fun k _=>k=5))) (fun x=>((fun k n=>.ret (dy (dn 5 n)))) x.1 x.2) h args:=rfl
theorem yG {id:Nat} {h:ah} {args:List AV}:(vw).pan id h args=bt (cq (ar .i64) (ar .i64) ((fun k _=>k=5))) (fun x=>((fun k n=>.ret (dy (dn 5 n)))) x.1 x.2) h args:=rfl
end
end Go.Proofs.YtpjlafmhoifkmaaGreat
