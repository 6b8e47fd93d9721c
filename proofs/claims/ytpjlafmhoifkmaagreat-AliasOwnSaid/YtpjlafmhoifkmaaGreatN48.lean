import Derived.Test.YtpjlafmhoifkmaaGreatN47
set_option linter.unusedVariables false
set_option linter.unusedSimpArgs false
set_option maxRecDepth 100000
set_option maxHeartbeats 8000000
namespace Go.Proofs.YtpjlafmhoifkmaaGreat
section
variable {xx ss:Bool} {rd rn rm ra a b c:Int}
theorem nmL:lkT aR (⟨#[108,100,114]⟩:ByteArray)=(20,0,true)∧lkT aR (⟨#[108,100,114,115,119]⟩:ByteArray)=(23,0,false)∧lkT aR (⟨#[112,114,102,109]⟩:ByteArray)=(24,0,false):=by decide +kernel
theorem Hq (h:ao ⟨18,xx,ss,rd,rn,rm,ra,a,b,c⟩=0):back (aj ⟨18,xx,ss,rd,rn,rm,ra,a,b,c⟩)=⟨18,xx,ss,rd,rn,rm,ra,a,b,c⟩:=by
 obtain ⟨rfl,rfl,h1,rfl,rfl,rfl,h2,h3,rfl⟩:=wf18 h
 have e4:4*a / 4=a:=by omega
 rcases b4 h3 with rfl | rfl | rfl | rfl
 ·rw [show aj ⟨18,false,false,rd,0,0,0,a,0,0⟩=((⟨#[108,100,114]⟩:ByteArray),[ab rd false,oTo (4*a)]) from rfl,ai nmL.1,zI]
  simp [ci,ab,oTo,op0,r0,o0,an]
 ·rw [show aj ⟨18,false,false,rd,0,0,0,a,1,0⟩=((⟨#[108,100,114]⟩:ByteArray),[ab rd true,oTo (4*a)]) from rfl,ai nmL.1,zI]
  simp [ci,ab,oTo,op0,r0,o0,an]
 ·rw [show aj ⟨18,false,false,rd,0,0,0,a,2,0⟩=((⟨#[108,100,114,115,119]⟩:ByteArray),[ab rd true,oTo (4*a)]) from rfl,ai nmL.2.1,Ld]
  simp [ci,ab,oTo,op0,r0,o0]
 ·rw [show aj ⟨18,false,false,rd,0,0,0,a,3,0⟩=((⟨#[112,114,102,109]⟩:ByteArray),[oOf 8 rd,oTo (4*a)]) from rfl,ai nmL.2.2,MU]
  simp [ci,oOf,oTo,op0,r0,o0]
theorem FS:∀ s p:Bool,lkT aR (ak (an s) [(⟨#[115,116]⟩:ByteArray),(⟨#[108,100]⟩:ByteArray)]++ak (an p) [(⟨#[112]⟩:ByteArray),(⟨#[110,112]⟩:ByteArray)])=(34,an p,s):=by decide +kernel
theorem nm35:lkT aR (⟨#[108,100,112,115,119]⟩:ByteArray)=(35,0,false):=by decide +kernel
theorem Ai (n z:Int) (hc:c=1∨c=2∨c=3):vj (bi n (fF c) z)=c:=by
 rcases hc with rfl | rfl | rfl<;>rfl
theorem Hr (h:ao ⟨19,xx,ss,rd,rn,rm,ra,a,b,c⟩=0):back (aj ⟨19,xx,ss,rd,rn,rm,ra,a,b,c⟩)=⟨19,xx,ss,rd,rn,rm,ra,a,b,c⟩:=by
 have hq:=(gl h).pairB rfl
 obtain ⟨rfl,h1,h2,rfl,h3,h4,h5,h6⟩:=wf19 h
 have e4:4*a / 4=a:=by omega
 have e8:8*a / 8=a:=by omega
 by_cases hc:c=0
 ·subst hc
  rcases (show b=0∨b=1∨b=2 by omega) with rfl | rfl | rfl
  ·rw [show aj ⟨19,false,ss,rd,rn,0,ra,a,0,0⟩=(ak (an ss) [(⟨#[115,116]⟩:ByteArray),(⟨#[108,100]⟩:ByteArray)]++ak (an true) [(⟨#[112]⟩:ByteArray),(⟨#[110,112]⟩:ByteArray)],[ab rd false,ab ra false,bi rn 0 (4*a)]) from rfl,ai (FS ss true),E0]
   simp [zz,ab,bi,op0,r0,an]
  ·exact absurd rfl (hq.2.2 rfl).2
  ·rw [show aj ⟨19,false,ss,rd,rn,0,ra,a,2,0⟩=(ak (an ss) [(⟨#[115,116]⟩:ByteArray),(⟨#[108,100]⟩:ByteArray)]++ak (an true) [(⟨#[112]⟩:ByteArray),(⟨#[110,112]⟩:ByteArray)],[ab rd true,ab ra true,bi rn 0 (8*a)]) from rfl,ai (FS ss true),E0]
   simp [zz,ab,bi,op0,r0,an]
 ·have hm:=fun z=>Ai rn z (show c=1∨c=2∨c=3 by omega)
  have hd:decide (c=0)=false:=by simpa using hc
  rcases (show b=0∨b=1∨b=2 by omega) with rfl | rfl | rfl
  ·rw [show aj ⟨19,false,ss,rd,rn,0,ra,a,0,c⟩=(ak (an ss) [(⟨#[115,116]⟩:ByteArray),(⟨#[108,100]⟩:ByteArray)]++ak (an (decide (c=0))) [(⟨#[112]⟩:ByteArray),(⟨#[110,112]⟩:ByteArray)],[ab rd false,ab ra false,bi rn (fF c) (4*a)]) from rfl,hd,ai (FS ss false),E0]
   unfold zz
   dsimp only
   rw [hm]
   simp [ab,bi,op0,r0,an]
  ·obtain ⟨hs,-⟩:=hq.2.2 rfl
   have hs:ss=true:=hs
   subst hs
   rw [show aj ⟨19,false,true,rd,rn,0,ra,a,1,c⟩=((⟨#[108,100,112,115,119]⟩:ByteArray),[ab rd true,ab ra true,bi rn (fF c) (4*a)]) from rfl,ai nm35,rg35]
   unfold Jq
   dsimp only
   rw [hm]
   simp [ab,bi,op0,r0]
  ·rw [show aj ⟨19,false,ss,rd,rn,0,ra,a,2,c⟩=(ak (an ss) [(⟨#[115,116]⟩:ByteArray),(⟨#[108,100]⟩:ByteArray)]++ak (an (decide (c=0))) [(⟨#[112]⟩:ByteArray),(⟨#[110,112]⟩:ByteArray)],[ab rd true,ab ra true,bi rn (fF c) (8*a)]) from rfl,hd,ai (FS ss false),E0]
   unfold zz
   dsimp only
   rw [hm]
   simp [ab,bi,op0,r0,an]
def dT (b c rd:Int):OpV:=if (dk b c).1=(⟨#[112,114,102,109]⟩:ByteArray) then oOf 8 rd else ab rd (dk b c).2.2
def dj (ra b c:Int):ByteArray :=
 if ra=0 then (if (dk b c).1=(⟨#[112,114,102,109]⟩:ByteArray) then (⟨#[112,114,102,117,109]⟩:ByteArray) else (dk b c).1.extract 0 2++(⟨#[117]⟩:ByteArray)++(dk b c).1.extract 2 (dk b c).1.size)
 else if ra=2 then (dk b c).1.extract 0 2++(⟨#[116,114]⟩:ByteArray)++(dk b c).1.extract 3 (dk b c).1.size else (dk b c).1
theorem J3 (rd:Int):dT 0 0 rd=ab rd false:=by kernel_rfl
theorem Jx (rd:Int):dT 0 1 rd=ab rd false:=by kernel_rfl
theorem I3 (rd:Int):dT 0 2 rd=ab rd true:=by kernel_rfl
theorem Kp (rd:Int):dT 0 3 rd=ab rd false:=by kernel_rfl
theorem Iy (rd:Int):dT 1 0 rd=ab rd false:=by kernel_rfl
theorem Kl (rd:Int):dT 1 1 rd=ab rd false:=by kernel_rfl
theorem JR (rd:Int):dT 1 2 rd=ab rd true:=by kernel_rfl
theorem JK (rd:Int):dT 1 3 rd=ab rd false:=by kernel_rfl
theorem Ki (rd:Int):dT 2 0 rd=ab rd false:=by kernel_rfl
theorem Kg (rd:Int):dT 2 1 rd=ab rd false:=by kernel_rfl
theorem IQ (rd:Int):dT 2 2 rd=ab rd true:=by kernel_rfl
theorem JN (rd:Int):dT 3 0 rd=ab rd true:=by kernel_rfl
theorem JZ (rd:Int):dT 3 1 rd=ab rd true:=by kernel_rfl
theorem Lk (rd:Int):dT 3 2 rd=oOf 8 rd:=by kernel_rfl
theorem trn (hb:0≤b∧b≤3) (hc:0≤c∧c≤3) (h3:¬c=3∨b<2) (rd:Int) (m:OpV) (hm:m.kind=5):back (dj (-1) b c,[dT b c rd,m])=gJ (-1) b c rd m:=by
 have hk:¬m.kind=3:=by omega
 rcases b4 hb with rfl | rfl | rfl | rfl<;>rcases b4 hc with rfl | rfl | rfl | rfl
 ·rw [ai (show lkT aR (dj (-1) 0 0)=(21,0,false) by decide +kernel),J3,ES]
  simp [ci,ab,op0,r0,hk,an]
 ·rw [ai (show lkT aR (dj (-1) 0 1)=(21,0,true) by decide +kernel),Jx,ES]
  simp [ci,ab,op0,r0,hk,an]
 ·rw [ai (show lkT aR (dj (-1) 0 2)=(22,0,false) by decide +kernel),I3,Hl]
  simp [ci,ab,op0,r0,hk,an]
 ·rw [ai (show lkT aR (dj (-1) 0 3)=(22,0,false) by decide +kernel),Kp,Hl]
  simp [ci,ab,op0,r0,hk,an]
 ·rw [ai (show lkT aR (dj (-1) 1 0)=(21,1,false) by decide +kernel),Iy,ES]
  simp [ci,ab,op0,r0,hk,an]
 ·rw [ai (show lkT aR (dj (-1) 1 1)=(21,1,true) by decide +kernel),Kl,ES]
  simp [ci,ab,op0,r0,hk,an]
 ·rw [ai (show lkT aR (dj (-1) 1 2)=(22,1,false) by decide +kernel),JR,Hl]
  simp [ci,ab,op0,r0,hk,an]
 ·rw [ai (show lkT aR (dj (-1) 1 3)=(22,1,false) by decide +kernel),JK,Hl]
  simp [ci,ab,op0,r0,hk,an]
 ·rw [ai (show lkT aR (dj (-1) 2 0)=(20,0,false) by decide +kernel),Ki,zI]
  simp [ci,ab,op0,r0,hk,an]
 ·rw [ai (show lkT aR (dj (-1) 2 1)=(20,0,true) by decide +kernel),Kg,zI]
  simp [ci,ab,op0,r0,hk,an]
 ·rw [ai (show lkT aR (dj (-1) 2 2)=(23,0,false) by decide +kernel),IQ,Ld]
  simp [ci,ab,op0,r0,hk,an]
 ·exfalso;omega
 ·rw [ai (show lkT aR (dj (-1) 3 0)=(20,0,false) by decide +kernel),JN,zI]
  simp [ci,ab,op0,r0,hk,an]
 ·rw [ai (show lkT aR (dj (-1) 3 1)=(20,0,true) by decide +kernel),JZ,zI]
  simp [ci,ab,op0,r0,hk,an]
 ·rw [ai (show lkT aR (dj (-1) 3 2)=(24,0,false) by decide +kernel),Lk,MU]
  simp [ci,oOf,op0,r0,hk,an]
 ·exfalso;omega
theorem tru (hb:0≤b∧b≤3) (hc:0≤c∧c≤3) (h3:¬c=3∨b<2) (rd:Int) (m:OpV) (hm:m.kind=5):back (dj 0 b c,[dT b c rd,m])=gJ (0) b c rd m:=by
 have hk:¬m.kind=3:=by omega
 rcases b4 hb with rfl | rfl | rfl | rfl<;>rcases b4 hc with rfl | rfl | rfl | rfl
 ·rw [ai (show lkT aR (dj 0 0 0)=(26,0,false) by decide +kernel),J3,GP]
  simp [ci,ab,op0,r0,hk,an]
 ·rw [ai (show lkT aR (dj 0 0 1)=(26,0,true) by decide +kernel),Jx,GP]
  simp [ci,ab,op0,r0,hk,an]
 ·rw [ai (show lkT aR (dj 0 0 2)=(27,0,false) by decide +kernel),I3,He]
  simp [ci,ab,op0,r0,hk,an]
 ·rw [ai (show lkT aR (dj 0 0 3)=(27,0,false) by decide +kernel),Kp,He]
  simp [ci,ab,op0,r0,hk,an]
 ·rw [ai (show lkT aR (dj 0 1 0)=(26,1,false) by decide +kernel),Iy,GP]
  simp [ci,ab,op0,r0,hk,an]
 ·rw [ai (show lkT aR (dj 0 1 1)=(26,1,true) by decide +kernel),Kl,GP]
  simp [ci,ab,op0,r0,hk,an]
 ·rw [ai (show lkT aR (dj 0 1 2)=(27,1,false) by decide +kernel),JR,He]
  simp [ci,ab,op0,r0,hk,an]
 ·rw [ai (show lkT aR (dj 0 1 3)=(27,1,false) by decide +kernel),JK,He]
  simp [ci,ab,op0,r0,hk,an]
 ·rw [ai (show lkT aR (dj 0 2 0)=(25,0,false) by decide +kernel),Ki,GE]
  simp [ci,ab,op0,r0,hk,an]
 ·rw [ai (show lkT aR (dj 0 2 1)=(25,0,true) by decide +kernel),Kg,GE]
  simp [ci,ab,op0,r0,hk,an]
 ·rw [ai (show lkT aR (dj 0 2 2)=(28,0,false) by decide +kernel),IQ,rg28]
  simp [ci,ab,op0,r0,hk,an]
 ·exfalso;omega
 ·rw [ai (show lkT aR (dj 0 3 0)=(25,0,false) by decide +kernel),JN,GE]
  simp [ci,ab,op0,r0,hk,an]
 ·rw [ai (show lkT aR (dj 0 3 1)=(25,0,true) by decide +kernel),JZ,GE]
  simp [ci,ab,op0,r0,hk,an]
 ·rw [ai (show lkT aR (dj 0 3 2)=(29,0,false) by decide +kernel),Lk,rg29]
  simp [ci,oOf,op0,r0,hk,an]
 ·exfalso;omega
theorem trt (hb:0≤b∧b≤3) (hc:0≤c∧c≤3) (h3:¬c=3∨b<2) (h4:¬(c=2∧b=3)) (rd:Int) (m:OpV) (hm:m.kind=5):back (dj 2 b c,[dT b c rd,m])=gJ (2) b c rd m:=by
 have hk:¬m.kind=3:=by omega
 rcases b4 hb with rfl | rfl | rfl | rfl<;>rcases b4 hc with rfl | rfl | rfl | rfl
 ·rw [ai (show lkT aR (dj 2 0 0)=(31,0,false) by decide +kernel),J3,Hk]
  simp [ci,ab,op0,r0,hk,an]
 ·rw [ai (show lkT aR (dj 2 0 1)=(31,0,true) by decide +kernel),Jx,Hk]
  simp [ci,ab,op0,r0,hk,an]
 ·rw [ai (show lkT aR (dj 2 0 2)=(32,0,false) by decide +kernel),I3,Hj]
  simp [ci,ab,op0,r0,hk,an]
 ·rw [ai (show lkT aR (dj 2 0 3)=(32,0,false) by decide +kernel),Kp,Hj]
  simp [ci,ab,op0,r0,hk,an]
 ·rw [ai (show lkT aR (dj 2 1 0)=(31,1,false) by decide +kernel),Iy,Hk]
  simp [ci,ab,op0,r0,hk,an]
 ·rw [ai (show lkT aR (dj 2 1 1)=(31,1,true) by decide +kernel),Kl,Hk]
  simp [ci,ab,op0,r0,hk,an]
 ·rw [ai (show lkT aR (dj 2 1 2)=(32,1,false) by decide +kernel),JR,Hj]
  simp [ci,ab,op0,r0,hk,an]
 ·rw [ai (show lkT aR (dj 2 1 3)=(32,1,false) by decide +kernel),JK,Hj]
  simp [ci,ab,op0,r0,hk,an]
 ·rw [ai (show lkT aR (dj 2 2 0)=(30,0,false) by decide +kernel),Ki,F3]
  simp [ci,ab,op0,r0,hk,an]
 ·rw [ai (show lkT aR (dj 2 2 1)=(30,0,true) by decide +kernel),Kg,F3]
  simp [ci,ab,op0,r0,hk,an]
 ·rw [ai (show lkT aR (dj 2 2 2)=(33,0,false) by decide +kernel),IQ,rg33]
  simp [ci,ab,op0,r0,hk,an]
 ·exfalso;omega
 ·rw [ai (show lkT aR (dj 2 3 0)=(30,0,false) by decide +kernel),JN,F3]
  simp [ci,ab,op0,r0,hk,an]
 ·rw [ai (show lkT aR (dj 2 3 1)=(30,0,true) by decide +kernel),JZ,F3]
  simp [ci,ab,op0,r0,hk,an]
 ·exfalso;omega
 ·exfalso;omega
theorem Ho (h:ao ⟨20,xx,ss,rd,rn,rm,ra,a,b,c⟩=0):back (aj ⟨20,xx,ss,rd,rn,rm,ra,a,b,c⟩)=⟨20,xx,ss,rd,rn,rm,ra,a,b,c⟩:=by
 have hq:=(gl h).tr (show (20:Int)≤20 by decide) (show (20:Int)≤22 by decide)
 obtain ⟨rfl,rfl,h1,h2,rfl,rfl,h3,h4,h5⟩:=wf20 h
 rw [show aj ⟨20,false,false,rd,rn,0,0,a,b,c⟩=(dj (-1) b c,[dT b c rd,bi rn 0 (a*2 ^ b.toNat)]) from rfl,trn h4 h5 hq.2.2 rd _ rfl]
 have hz:(2:Int) ^ b.toNat≠0:=Int.pow_ne_zero (by decide)
 simp [gJ,bi,op0,r0,Int.mul_ediv_cancel a hz]
theorem HG (h:ao ⟨21,xx,ss,rd,rn,rm,ra,a,b,c⟩=0):back (aj ⟨21,xx,ss,rd,rn,rm,ra,a,b,c⟩)=⟨21,xx,ss,rd,rn,rm,ra,a,b,c⟩:=by
 have hq:=(gl h).tr (show (20:Int)≤21 by decide) (show (21:Int)≤22 by decide)
 have ht:=(aA h).2
 obtain ⟨rfl,rfl,h1,h2,rfl,h3,h4,h5,h6⟩:=wf21 h
 have hi:¬c=2∨¬b=3∨ra=0:=by
  simp [ce,mA] at ht
  exact ht.1.2
 rcases b4 h3 with rfl | rfl | rfl | rfl
 ·rw [show aj ⟨21,false,false,rd,rn,0,0,a,b,c⟩=(dj 0 b c,[dT b c rd,bi rn 0 a]) from rfl,tru h5 h6 hq.2.2 rd _ rfl]
  simp [gJ,bi,op0,r0]
 ·rw [show aj ⟨21,false,false,rd,rn,0,1,a,b,c⟩=(dj (-1) b c,[dT b c rd,bi rn 2 a]) from rfl,trn h5 h6 hq.2.2 rd _ rfl]
  simp [gJ,bi,op0,r0]
 ·rw [show aj ⟨21,false,false,rd,rn,0,2,a,b,c⟩=(dj 2 b c,[dT b c rd,bi rn 0 a]) from rfl,trt h5 h6 hq.2.2 (by omega) rd _ rfl]
  simp [gJ,bi,op0,r0]
 ·rw [show aj ⟨21,false,false,rd,rn,0,3,a,b,c⟩=(dj (-1) b c,[dT b c rd,bi rn 1 a]) from rfl,trn h5 h6 hq.2.2 rd _ rfl]
  simp [gJ,bi,op0,r0]
theorem Ks {b c rd:Int} {m:OpV} (hm:m.mode=3):gJ (-1) b c rd m=⟨22,false,decide (¬m.amt = -1),rd,m.r.n,m.m.n,0,Ia m,b,c⟩:=by
 unfold gJ
 rw [if_neg (by decide),if_pos hm]
theorem HX (h:ao ⟨22,xx,ss,rd,rn,rm,ra,a,b,c⟩=0):back (aj ⟨22,xx,ss,rd,rn,rm,ra,a,b,c⟩)=⟨22,xx,ss,rd,rn,rm,ra,a,b,c⟩:=by
 have hq:=(gl h).tr (show (20:Int)≤22 by decide) (show (22:Int)≤22 by decide)
 have ht:=(aA h).2
 obtain ⟨rfl,h1,h2,h3,rfl,h4,h5,h6⟩:=wf22 h
 have ha:a=2∨a=3∨a=6∨a=7:=by
  simp [ce] at ht
  omega
 rw [show aj ⟨22,false,ss,rd,rn,rm,0,a,b,c⟩=(dj (-1) b c,[dT b c rd,⟨5,⟨rn,true,rn==31⟩,⟨rm,decide (a % 2=1),false⟩,u6 a,if ss then b else -1,0,0,emp,emp,false,3⟩]) from rfl,trn h5 h6 hq.2.2 rd _ rfl,Ks rfl]
 have hs:decide (¬(if ss then b else -1) = -1)=ss:=by
  cases ss
  ·rfl
  ·simp;omega
 dsimp only
 rw [hs]
 rcases ha with rfl | rfl | rfl | rfl<;>rfl
def exM (s x:Bool) (a b:Int):ByteArray :=
 if a=2 then ak (an s) [(⟨#[115,116]⟩:ByteArray),(⟨#[108,100]⟩:ByteArray)]++(ak (an s) [(⟨#[108]⟩:ByteArray),(⟨#[97]⟩:ByteArray)]++(⟨#[114]⟩:ByteArray)++ak b [(⟨#[98]⟩:ByteArray),(⟨#[104]⟩:ByteArray),emp,emp])
 else (if x then ak (an s) [(⟨#[115,116]⟩:ByteArray),(⟨#[108,100]⟩:ByteArray)]++ak (an s) [(⟨#[108]⟩:ByteArray),(⟨#[97]⟩:ByteArray)] else ak (an s) [(⟨#[115,116]⟩:ByteArray),(⟨#[108,100]⟩:ByteArray)])++ak a [(⟨#[120,114]⟩:ByteArray)++ak b [(⟨#[98]⟩:ByteArray),(⟨#[104]⟩:ByteArray),emp,emp],(⟨#[120,112]⟩:ByteArray)]
theorem dm (s:Bool) (l:List OpV):rdG 36 0 s l=dp 0 false 0 s l∧rdG 36 1 s l=dp 0 false 1 s l∧rdG 36 2 s l=dp 0 false 2 s l∧rdG 36 3 s l=dp 0 true 0 s l∧rdG 36 4 s l=dp 0 true 1 s l∧rdG 36 5 s l=dp 0 true 2 s l∧rdG 36 6 s l=dp 2 true 0 s l∧rdG 36 7 s l=dp 2 true 1 s l∧rdG 36 8 s l=dp 2 true 2 s l∧rdG 36 11 s l=dp 1 false 2 s l∧rdG 36 14 s l=dp 1 true 2 s l:=⟨rfl,rfl,rfl,rfl,rfl,rfl,rfl,rfl,rfl,rfl,rfl⟩
theorem ex00:back (aj ⟨23,false,false,rd,rn,rm,0,0,0,0⟩)=⟨23,false,false,rd,rn,rm,0,0,0,0⟩:=by
 rw [show aj ⟨23,false,false,rd,rn,rm,0,0,0,0⟩=(exM false false 0 0,[ab rm false,ab rd false,bi rn 0 0]) from rfl,ai (show lkT aR (exM false false 0 0)=(36,0,false) by decide +kernel),(dm _ _).1]
 simp [dp,ab,bi,op0,r0,an]
theorem Ou:back (aj ⟨23,true,false,rd,rn,rm,0,0,0,0⟩)=⟨23,true,false,rd,rn,rm,0,0,0,0⟩:=by
 rw [show aj ⟨23,true,false,rd,rn,rm,0,0,0,0⟩=(exM false true 0 0,[ab rm false,ab rd false,bi rn 0 0]) from rfl,ai (show lkT aR (exM false true 0 0)=(36,3,false) by decide +kernel),(dm _ _).2.2.2.1]
 simp [dp,ab,bi,op0,r0,an]
theorem Ny:back (aj ⟨23,false,true,rd,rn,0,0,0,0,0⟩)=⟨23,false,true,rd,rn,0,0,0,0,0⟩:=by
 rw [show aj ⟨23,false,true,rd,rn,0,0,0,0,0⟩=(exM true false 0 0,[ab rd false,bi rn 0 0]) from rfl,ai (show lkT aR (exM true false 0 0)=(36,0,true) by decide +kernel),(dm _ _).1]
 simp [dp,ab,bi,op0,r0,an]
theorem J6:back (aj ⟨23,true,true,rd,rn,0,0,0,0,0⟩)=⟨23,true,true,rd,rn,0,0,0,0,0⟩:=by
 rw [show aj ⟨23,true,true,rd,rn,0,0,0,0,0⟩=(exM true true 0 0,[ab rd false,bi rn 0 0]) from rfl,ai (show lkT aR (exM true true 0 0)=(36,3,true) by decide +kernel),(dm _ _).2.2.2.1]
 simp [dp,ab,bi,op0,r0,an]
theorem ex01:back (aj ⟨23,false,false,rd,rn,rm,0,0,1,0⟩)=⟨23,false,false,rd,rn,rm,0,0,1,0⟩:=by
 rw [show aj ⟨23,false,false,rd,rn,rm,0,0,1,0⟩=(exM false false 0 1,[ab rm false,ab rd false,bi rn 0 0]) from rfl,ai (show lkT aR (exM false false 0 1)=(36,1,false) by decide +kernel),(dm _ _).2.1]
 simp [dp,ab,bi,op0,r0,an]
theorem LU:back (aj ⟨23,true,false,rd,rn,rm,0,0,1,0⟩)=⟨23,true,false,rd,rn,rm,0,0,1,0⟩:=by
 rw [show aj ⟨23,true,false,rd,rn,rm,0,0,1,0⟩=(exM false true 0 1,[ab rm false,ab rd false,bi rn 0 0]) from rfl,ai (show lkT aR (exM false true 0 1)=(36,4,false) by decide +kernel),(dm _ _).2.2.2.2.1]
 simp [dp,ab,bi,op0,r0,an]
theorem Oe:back (aj ⟨23,false,true,rd,rn,0,0,0,1,0⟩)=⟨23,false,true,rd,rn,0,0,0,1,0⟩:=by
 rw [show aj ⟨23,false,true,rd,rn,0,0,0,1,0⟩=(exM true false 0 1,[ab rd false,bi rn 0 0]) from rfl,ai (show lkT aR (exM true false 0 1)=(36,1,true) by decide +kernel),(dm _ _).2.1]
 simp [dp,ab,bi,op0,r0,an]
theorem Kn:back (aj ⟨23,true,true,rd,rn,0,0,0,1,0⟩)=⟨23,true,true,rd,rn,0,0,0,1,0⟩:=by
 rw [show aj ⟨23,true,true,rd,rn,0,0,0,1,0⟩=(exM true true 0 1,[ab rd false,bi rn 0 0]) from rfl,ai (show lkT aR (exM true true 0 1)=(36,4,true) by decide +kernel),(dm _ _).2.2.2.2.1]
 simp [dp,ab,bi,op0,r0,an]
theorem ex02:back (aj ⟨23,false,false,rd,rn,rm,0,0,2,0⟩)=⟨23,false,false,rd,rn,rm,0,0,2,0⟩:=by
 rw [show aj ⟨23,false,false,rd,rn,rm,0,0,2,0⟩=(exM false false 0 2,[ab rm false,ab rd false,bi rn 0 0]) from rfl,ai (show lkT aR (exM false false 0 2)=(36,2,false) by decide +kernel),(dm _ _).2.2.1]
 simp [dp,ab,bi,op0,r0,an]
theorem MY:back (aj ⟨23,true,false,rd,rn,rm,0,0,2,0⟩)=⟨23,true,false,rd,rn,rm,0,0,2,0⟩:=by
 rw [show aj ⟨23,true,false,rd,rn,rm,0,0,2,0⟩=(exM false true 0 2,[ab rm false,ab rd false,bi rn 0 0]) from rfl,ai (show lkT aR (exM false true 0 2)=(36,5,false) by decide +kernel),(dm _ _).2.2.2.2.2.1]
 simp [dp,ab,bi,op0,r0,an]
theorem MV:back (aj ⟨23,false,true,rd,rn,0,0,0,2,0⟩)=⟨23,false,true,rd,rn,0,0,0,2,0⟩:=by
 rw [show aj ⟨23,false,true,rd,rn,0,0,0,2,0⟩=(exM true false 0 2,[ab rd false,bi rn 0 0]) from rfl,ai (show lkT aR (exM true false 0 2)=(36,2,true) by decide +kernel),(dm _ _).2.2.1]
 simp [dp,ab,bi,op0,r0,an]
theorem KC:back (aj ⟨23,true,true,rd,rn,0,0,0,2,0⟩)=⟨23,true,true,rd,rn,0,0,0,2,0⟩:=by
 rw [show aj ⟨23,true,true,rd,rn,0,0,0,2,0⟩=(exM true true 0 2,[ab rd false,bi rn 0 0]) from rfl,ai (show lkT aR (exM true true 0 2)=(36,5,true) by decide +kernel),(dm _ _).2.2.2.2.2.1]
 simp [dp,ab,bi,op0,r0,an]
theorem ex03:back (aj ⟨23,false,false,rd,rn,rm,0,0,3,0⟩)=⟨23,false,false,rd,rn,rm,0,0,3,0⟩:=by
 rw [show aj ⟨23,false,false,rd,rn,rm,0,0,3,0⟩=(exM false false 0 3,[ab rm false,ab rd true,bi rn 0 0]) from rfl,ai (show lkT aR (exM false false 0 3)=(36,2,false) by decide +kernel),(dm _ _).2.2.1]
 simp [dp,ab,bi,op0,r0,an]
theorem Od:back (aj ⟨23,true,false,rd,rn,rm,0,0,3,0⟩)=⟨23,true,false,rd,rn,rm,0,0,3,0⟩:=by
 rw [show aj ⟨23,true,false,rd,rn,rm,0,0,3,0⟩=(exM false true 0 3,[ab rm false,ab rd true,bi rn 0 0]) from rfl,ai (show lkT aR (exM false true 0 3)=(36,5,false) by decide +kernel),(dm _ _).2.2.2.2.2.1]
 simp [dp,ab,bi,op0,r0,an]
theorem Lz:back (aj ⟨23,false,true,rd,rn,0,0,0,3,0⟩)=⟨23,false,true,rd,rn,0,0,0,3,0⟩:=by
 rw [show aj ⟨23,false,true,rd,rn,0,0,0,3,0⟩=(exM true false 0 3,[ab rd true,bi rn 0 0]) from rfl,ai (show lkT aR (exM true false 0 3)=(36,2,true) by decide +kernel),(dm _ _).2.2.1]
 simp [dp,ab,bi,op0,r0,an]
theorem Iq:back (aj ⟨23,true,true,rd,rn,0,0,0,3,0⟩)=⟨23,true,true,rd,rn,0,0,0,3,0⟩:=by
 rw [show aj ⟨23,true,true,rd,rn,0,0,0,3,0⟩=(exM true true 0 3,[ab rd true,bi rn 0 0]) from rfl,ai (show lkT aR (exM true true 0 3)=(36,5,true) by decide +kernel),(dm _ _).2.2.2.2.2.1]
 simp [dp,ab,bi,op0,r0,an]
theorem ex12:back (aj ⟨23,false,false,rd,rn,rm,ra,1,2,0⟩)=⟨23,false,false,rd,rn,rm,ra,1,2,0⟩:=by
 rw [show aj ⟨23,false,false,rd,rn,rm,ra,1,2,0⟩=(exM false false 1 2,[ab rm false,ab rd false,ab ra false,bi rn 0 0]) from rfl,ai (show lkT aR (exM false false 1 2)=(36,11,false) by decide +kernel),(dm _ _).2.2.2.2.2.2.2.2.2.1]
 simp [dp,ab,bi,op0,r0,an]
theorem Np:back (aj ⟨23,true,false,rd,rn,rm,ra,1,2,0⟩)=⟨23,true,false,rd,rn,rm,ra,1,2,0⟩:=by
 rw [show aj ⟨23,true,false,rd,rn,rm,ra,1,2,0⟩=(exM false true 1 2,[ab rm false,ab rd false,ab ra false,bi rn 0 0]) from rfl,ai (show lkT aR (exM false true 1 2)=(36,14,false) by decide +kernel),(dm _ _).2.2.2.2.2.2.2.2.2.2]
 simp [dp,ab,bi,op0,r0,an]
theorem L4:back (aj ⟨23,false,true,rd,rn,0,ra,1,2,0⟩)=⟨23,false,true,rd,rn,0,ra,1,2,0⟩:=by
 rw [show aj ⟨23,false,true,rd,rn,0,ra,1,2,0⟩=(exM true false 1 2,[ab rd false,ab ra false,bi rn 0 0]) from rfl,ai (show lkT aR (exM true false 1 2)=(36,11,true) by decide +kernel),(dm _ _).2.2.2.2.2.2.2.2.2.1]
 simp [dp,ab,bi,op0,r0,an]
theorem JH:back (aj ⟨23,true,true,rd,rn,0,ra,1,2,0⟩)=⟨23,true,true,rd,rn,0,ra,1,2,0⟩:=by
 rw [show aj ⟨23,true,true,rd,rn,0,ra,1,2,0⟩=(exM true true 1 2,[ab rd false,ab ra false,bi rn 0 0]) from rfl,ai (show lkT aR (exM true true 1 2)=(36,14,true) by decide +kernel),(dm _ _).2.2.2.2.2.2.2.2.2.2]
 simp [dp,ab,bi,op0,r0,an]
theorem ex13:back (aj ⟨23,false,false,rd,rn,rm,ra,1,3,0⟩)=⟨23,false,false,rd,rn,rm,ra,1,3,0⟩:=by
 rw [show aj ⟨23,false,false,rd,rn,rm,ra,1,3,0⟩=(exM false false 1 3,[ab rm false,ab rd true,ab ra true,bi rn 0 0]) from rfl,ai (show lkT aR (exM false false 1 3)=(36,11,false) by decide +kernel),(dm _ _).2.2.2.2.2.2.2.2.2.1]
 simp [dp,ab,bi,op0,r0,an]
theorem NL:back (aj ⟨23,true,false,rd,rn,rm,ra,1,3,0⟩)=⟨23,true,false,rd,rn,rm,ra,1,3,0⟩:=by
 rw [show aj ⟨23,true,false,rd,rn,rm,ra,1,3,0⟩=(exM false true 1 3,[ab rm false,ab rd true,ab ra true,bi rn 0 0]) from rfl,ai (show lkT aR (exM false true 1 3)=(36,14,false) by decide +kernel),(dm _ _).2.2.2.2.2.2.2.2.2.2]
 simp [dp,ab,bi,op0,r0,an]
theorem Nw:back (aj ⟨23,false,true,rd,rn,0,ra,1,3,0⟩)=⟨23,false,true,rd,rn,0,ra,1,3,0⟩:=by
 rw [show aj ⟨23,false,true,rd,rn,0,ra,1,3,0⟩=(exM true false 1 3,[ab rd true,ab ra true,bi rn 0 0]) from rfl,ai (show lkT aR (exM true false 1 3)=(36,11,true) by decide +kernel),(dm _ _).2.2.2.2.2.2.2.2.2.1]
 simp [dp,ab,bi,op0,r0,an]
theorem Kj:back (aj ⟨23,true,true,rd,rn,0,ra,1,3,0⟩)=⟨23,true,true,rd,rn,0,ra,1,3,0⟩:=by
 rw [show aj ⟨23,true,true,rd,rn,0,ra,1,3,0⟩=(exM true true 1 3,[ab rd true,ab ra true,bi rn 0 0]) from rfl,ai (show lkT aR (exM true true 1 3)=(36,14,true) by decide +kernel),(dm _ _).2.2.2.2.2.2.2.2.2.2]
 simp [dp,ab,bi,op0,r0,an]
theorem Nq:back (aj ⟨23,true,false,rd,rn,0,0,2,0,0⟩)=⟨23,true,false,rd,rn,0,0,2,0,0⟩:=by
 rw [show aj ⟨23,true,false,rd,rn,0,0,2,0,0⟩=(exM false true 2 0,[ab rd false,bi rn 0 0]) from rfl,ai (show lkT aR (exM false true 2 0)=(36,6,false) by decide +kernel),(dm _ _).2.2.2.2.2.2.1]
 simp [dp,ab,bi,op0,r0,an]
theorem JX:back (aj ⟨23,true,true,rd,rn,0,0,2,0,0⟩)=⟨23,true,true,rd,rn,0,0,2,0,0⟩:=by
 rw [show aj ⟨23,true,true,rd,rn,0,0,2,0,0⟩=(exM true true 2 0,[ab rd false,bi rn 0 0]) from rfl,ai (show lkT aR (exM true true 2 0)=(36,6,true) by decide +kernel),(dm _ _).2.2.2.2.2.2.1]
 simp [dp,ab,bi,op0,r0,an]
theorem L6:back (aj ⟨23,true,false,rd,rn,0,0,2,1,0⟩)=⟨23,true,false,rd,rn,0,0,2,1,0⟩:=by
 rw [show aj ⟨23,true,false,rd,rn,0,0,2,1,0⟩=(exM false true 2 1,[ab rd false,bi rn 0 0]) from rfl,ai (show lkT aR (exM false true 2 1)=(36,7,false) by decide +kernel),(dm _ _).2.2.2.2.2.2.2.1]
 simp [dp,ab,bi,op0,r0,an]
theorem KW:back (aj ⟨23,true,true,rd,rn,0,0,2,1,0⟩)=⟨23,true,true,rd,rn,0,0,2,1,0⟩:=by
 rw [show aj ⟨23,true,true,rd,rn,0,0,2,1,0⟩=(exM true true 2 1,[ab rd false,bi rn 0 0]) from rfl,ai (show lkT aR (exM true true 2 1)=(36,7,true) by decide +kernel),(dm _ _).2.2.2.2.2.2.2.1]
 simp [dp,ab,bi,op0,r0,an]
theorem LY:back (aj ⟨23,true,false,rd,rn,0,0,2,2,0⟩)=⟨23,true,false,rd,rn,0,0,2,2,0⟩:=by
 rw [show aj ⟨23,true,false,rd,rn,0,0,2,2,0⟩=(exM false true 2 2,[ab rd false,bi rn 0 0]) from rfl,ai (show lkT aR (exM false true 2 2)=(36,8,false) by decide +kernel),(dm _ _).2.2.2.2.2.2.2.2.1]
 simp [dp,ab,bi,op0,r0,an]
theorem JY:back (aj ⟨23,true,true,rd,rn,0,0,2,2,0⟩)=⟨23,true,true,rd,rn,0,0,2,2,0⟩:=by
 rw [show aj ⟨23,true,true,rd,rn,0,0,2,2,0⟩=(exM true true 2 2,[ab rd false,bi rn 0 0]) from rfl,ai (show lkT aR (exM true true 2 2)=(36,8,true) by decide +kernel),(dm _ _).2.2.2.2.2.2.2.2.1]
 simp [dp,ab,bi,op0,r0,an]
theorem OB:back (aj ⟨23,true,false,rd,rn,0,0,2,3,0⟩)=⟨23,true,false,rd,rn,0,0,2,3,0⟩:=by
 rw [show aj ⟨23,true,false,rd,rn,0,0,2,3,0⟩=(exM false true 2 3,[ab rd true,bi rn 0 0]) from rfl,ai (show lkT aR (exM false true 2 3)=(36,8,false) by decide +kernel),(dm _ _).2.2.2.2.2.2.2.2.1]
 simp [dp,ab,bi,op0,r0,an]
theorem JT:back (aj ⟨23,true,true,rd,rn,0,0,2,3,0⟩)=⟨23,true,true,rd,rn,0,0,2,3,0⟩:=by
 rw [show aj ⟨23,true,true,rd,rn,0,0,2,3,0⟩=(exM true true 2 3,[ab rd true,bi rn 0 0]) from rfl,ai (show lkT aR (exM true true 2 3)=(36,8,true) by decide +kernel),(dm _ _).2.2.2.2.2.2.2.2.1]
 simp [dp,ab,bi,op0,r0,an]
theorem HJ (h:ao ⟨23,xx,ss,rd,rn,rm,ra,a,b,c⟩=0):back (aj ⟨23,xx,ss,rd,rn,rm,ra,a,b,c⟩)=⟨23,xx,ss,rd,rn,rm,ra,a,b,c⟩:=by
 have ht:=(aA h).2
 obtain ⟨h1,h2,h3,h4,h5,h6,rfl⟩:=wf23 h
 have hx:cV ⟨23,xx,ss,rd,rn,rm,ra,a,b,0⟩=true:=by simpa [ce] using ht
 clear h ht
 have hx1:¬((a=1∧b<2)∨(a=2∧xx=false)∨((ss=true∨a=2)∧¬rm=0)∨(¬a=1∧¬ra=0)):=by
  intro hc
  unfold cV at hx
  rw [if_pos hc] at hx
  cases hx
 clear hx
 have q1:a=1→¬b<2:=fun e f=>hx1 (.inl ⟨e,f⟩)
 have q2:a=2→¬xx=false:=fun e f=>hx1 (.inr (.inl ⟨e,f⟩))
 have q3:ss=true∨a=2→rm=0:=fun e=>Decidable.byContradiction fun f=>hx1 (.inr (.inr (.inl ⟨e,f⟩)))
 have q4:¬a=1→ra=0:=fun e=>Decidable.byContradiction fun f=>hx1 (.inr (.inr (.inr ⟨e,f⟩)))
 clear hx1
 rcases (show a=0∨a=1∨a=2 by omega) with rfl | rfl | rfl
 ·obtain rfl:ra=0:=q4 (by decide)
  rcases b4 h6 with rfl | rfl | rfl | rfl
  ·cases ss
   ·cases xx
    ·exact ex00
    ·exact Ou
   ·obtain rfl:rm=0:=q3 (.inl rfl);cases xx
    ·exact Ny
    ·exact J6
  ·cases ss
   ·cases xx
    ·exact ex01
    ·exact LU
   ·obtain rfl:rm=0:=q3 (.inl rfl);cases xx
    ·exact Oe
    ·exact Kn
  ·cases ss
   ·cases xx
    ·exact ex02
    ·exact MY
   ·obtain rfl:rm=0:=q3 (.inl rfl);cases xx
    ·exact MV
    ·exact KC
  ·cases ss
   ·cases xx
    ·exact ex03
    ·exact Od
   ·obtain rfl:rm=0:=q3 (.inl rfl);cases xx
    ·exact Lz
    ·exact Iq
 ·have q:=q1 rfl
  rcases b4 h6 with rfl | rfl | rfl | rfl
  ·exact absurd (by decide) q
  ·exact absurd (by decide) q
  ·cases ss
   ·cases xx
    ·exact ex12
    ·exact Np
   ·obtain rfl:rm=0:=q3 (.inl rfl);cases xx
    ·exact L4
    ·exact JH
  ·cases ss
   ·cases xx
    ·exact ex13
    ·exact NL
   ·obtain rfl:rm=0:=q3 (.inl rfl);cases xx
    ·exact Nw
    ·exact Kj
 ·obtain rfl:ra=0:=q4 (by decide)
  obtain rfl:rm=0:=q3 (.inr rfl)
  rcases b4 h6 with rfl | rfl | rfl | rfl
  ·cases ss
   ·cases xx
    ·exact absurd rfl (q2 rfl)
    ·exact Nq
   ·cases xx
    ·exact absurd rfl (q2 rfl)
    ·exact JX
  ·cases ss
   ·cases xx
    ·exact absurd rfl (q2 rfl)
    ·exact L6
   ·cases xx
    ·exact absurd rfl (q2 rfl)
    ·exact KW
  ·cases ss
   ·cases xx
    ·exact absurd rfl (q2 rfl)
    ·exact LY
   ·cases xx
    ·exact absurd rfl (q2 rfl)
    ·exact JY
  ·cases ss
   ·cases xx
    ·exact absurd rfl (q2 rfl)
    ·exact OB
   ·cases xx
    ·exact absurd rfl (q2 rfl)
    ·exact JT
end
end Go.Proofs.YtpjlafmhoifkmaaGreat
