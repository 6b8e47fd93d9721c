import Derived.Test.YtpjlafmhoifkmaaGreatM40
import Derived.Test.YtpjlafmhoifkmaaGreatM46
import Derived.Test.YtpjlafmhoifkmaaGreatM54
import Derived.Test.YtpjlafmhoifkmaaGreatM32
set_option linter.unusedVariables false
set_option linter.unusedSimpArgs false
set_option maxRecDepth 100000
set_option maxHeartbeats 8000000
namespace Go.Proofs.YtpjlafmhoifkmaaGreat
open Go.RowKit
theorem gu {x:Ins} (h:rlA x=.no):wC x=bt x:=by unfold wC;rw [h]
theorem jy {x:Ins} {r:cE} (h:rlA x=.ln r false):wC x=bt x:=by unfold wC;rw [h]
theorem jh {x:Ins} {r:cE} (h:rlA x=.ln r true):wC x=r:=by unfold wC;rw [h]
theorem BT (x:Ins):SW Tryz.prog ⟨none,0⟩ Tryz.f16.ntmps (Tryz.f16.body.getD .skip) ⟨0,ag 0 [(ai ac).enc x],[]⟩ (ax Tryz.prog Tryz.f16.results.toList (.ret (lV x))):=by
 refine aa (ctx:=[⟨_,uH⟩,⟨_,Gr⟩,⟨_,GZ⟩,⟨_,Ej⟩,⟨_,FW⟩,⟨_,De⟩,⟨_,wW⟩]) 4000 ?_
 rw [Tryz.ntmps16,Tryz.results16]
 simp only [Tryz.f16,Option.getD_some,ag]
 by_cases h:ay x=0
 case neg =>
  have e:lV x=xY:=by unfold lV;rw [if_neg h]
  have h40:=tB h
  rw [e]
  simp only [go_sem,ac,aM,aN,h40,xY,emp]
 have e:lV x=lnO (wC x):=by unfold lV;rw [if_pos h,La h]
 rw [e]
 clear e
 have hop:x.op=2∨x.op=3∨x.op=4∨x.op=6∨x.op=5∨x.op=11∨x.op=12∨x.op=13∨x.op=14∨x.op=17∨x.op=24∨x.op=25∨x.op=27∨x.op=26∨x.op=29∨x.op=31∨x.op=32∨(¬x.op=2∧¬x.op=3∧¬x.op=4∧¬x.op=6∧¬x.op=5∧¬x.op=11∧¬x.op=12∧¬x.op=13∧¬x.op=14∧¬x.op=17∧¬x.op=24∧¬x.op=25∧¬x.op=27∧¬x.op=26∧¬x.op=29∧¬x.op=31∧¬x.op=32):=by omega
 rcases hop with ho | ho | ho | ho | ho | ho | ho | ho | ho | ho | ho | ho | ho | ho | ho | ho | ho | ho
 ·have f:(x.op==2)=true:=by rw [ho];decide
  have hor:x.op=2∨x.op=3∨x.op=4∨x.op=6:=by omega
  have g:rlA x=fK x:=by unfold rlA;rw [ho];rfl
  cases hr:fK x with
  | no =>
   rw [gu (g.trans hr)]
   simp only [go_sem,ac,aM,aN,h,f,hor,fV,ga,hr,alO,bY,bZ,aj,lnO]
  | ln r b =>
   cases b
   ·rw [jy (g.trans hr)]
    simp only [go_sem,ac,aM,aN,h,f,hor,fV,ga,hr,alO,bY,bZ,aj,lnO]
   ·rw [jh (g.trans hr)]
    simp only [go_sem,ac,aM,aN,h,f,hor,fV,ga,hr,alO,aj,lnO]
 ·have f:(x.op==2)=false∧(x.op==3)=true:=by rw [ho];decide
  have hor:x.op=2∨x.op=3∨x.op=4∨x.op=6:=by omega
  have g:rlA x=fK x:=by unfold rlA;rw [ho];rfl
  cases hr:fK x with
  | no =>
   rw [gu (g.trans hr)]
   simp only [go_sem,ac,aM,aN,h,f,hor,fV,ga,hr,alO,bY,bZ,aj,lnO]
  | ln r b =>
   cases b
   ·rw [jy (g.trans hr)]
    simp only [go_sem,ac,aM,aN,h,f,hor,fV,ga,hr,alO,bY,bZ,aj,lnO]
   ·rw [jh (g.trans hr)]
    simp only [go_sem,ac,aM,aN,h,f,hor,fV,ga,hr,alO,aj,lnO]
 ·have f:(x.op==2)=false∧(x.op==3)=false∧(x.op==4)=true:=by rw [ho];decide
  have hor:x.op=2∨x.op=3∨x.op=4∨x.op=6:=by omega
  have g:rlA x=fK x:=by unfold rlA;rw [ho];rfl
  cases hr:fK x with
  | no =>
   rw [gu (g.trans hr)]
   simp only [go_sem,ac,aM,aN,h,f,hor,fV,ga,hr,alO,bY,bZ,aj,lnO]
  | ln r b =>
   cases b
   ·rw [jy (g.trans hr)]
    simp only [go_sem,ac,aM,aN,h,f,hor,fV,ga,hr,alO,bY,bZ,aj,lnO]
   ·rw [jh (g.trans hr)]
    simp only [go_sem,ac,aM,aN,h,f,hor,fV,ga,hr,alO,aj,lnO]
 ·have f:(x.op==2)=false∧(x.op==3)=false∧(x.op==4)=false∧(x.op==6)=true:=by rw [ho];decide
  have hor:x.op=2∨x.op=3∨x.op=4∨x.op=6:=by omega
  have g:rlA x=fK x:=by unfold rlA;rw [ho];rfl
  cases hr:fK x with
  | no =>
   rw [gu (g.trans hr)]
   simp only [go_sem,ac,aM,aN,h,f,hor,fV,ga,hr,alO,bY,bZ,aj,lnO]
  | ln r b =>
   cases b
   ·rw [jy (g.trans hr)]
    simp only [go_sem,ac,aM,aN,h,f,hor,fV,ga,hr,alO,bY,bZ,aj,lnO]
   ·rw [jh (g.trans hr)]
    simp only [go_sem,ac,aM,aN,h,f,hor,fV,ga,hr,alO,aj,lnO]
 ·have f:(x.op==2)=false∧(x.op==3)=false∧(x.op==4)=false∧(x.op==6)=false∧(x.op==5)=true:=by rw [ho];decide
  have hor:x.op=5:=by omega
  have g:rlA x=.ln (ne x) true:=by unfold rlA;rw [ho];rfl
  rw [jh g]
  simp only [go_sem,ac,aM,aN,h,f,eq_true hor,GR,FU,aj,lnO]
 ·have f:(x.op==2)=false∧(x.op==3)=false∧(x.op==4)=false∧(x.op==6)=false∧(x.op==5)=false∧(x.op==11)=true:=by rw [ho];decide
  have hor:x.op=11∨x.op=12∨x.op=13∨x.op=14∨x.op=17:=by omega
  have g:rlA x=iR x:=by unfold rlA;rw [ho];rfl
  cases hr:iR x with
  | no =>
   rw [gu (g.trans hr)]
   simp only [go_sem,ac,aM,aN,h,f,hor,eG,eH,hr,alO,bY,bZ,aj,lnO]
  | ln r b =>
   cases b
   ·rw [jy (g.trans hr)]
    simp only [go_sem,ac,aM,aN,h,f,hor,eG,eH,hr,alO,bY,bZ,aj,lnO]
   ·rw [jh (g.trans hr)]
    simp only [go_sem,ac,aM,aN,h,f,hor,eG,eH,hr,alO,aj,lnO]
 ·have f:(x.op==2)=false∧(x.op==3)=false∧(x.op==4)=false∧(x.op==6)=false∧(x.op==5)=false∧(x.op==11)=false∧(x.op==12)=true:=by rw [ho];decide
  have hor:x.op=11∨x.op=12∨x.op=13∨x.op=14∨x.op=17:=by omega
  have g:rlA x=iR x:=by unfold rlA;rw [ho];rfl
  cases hr:iR x with
  | no =>
   rw [gu (g.trans hr)]
   simp only [go_sem,ac,aM,aN,h,f,hor,eG,eH,hr,alO,bY,bZ,aj,lnO]
  | ln r b =>
   cases b
   ·rw [jy (g.trans hr)]
    simp only [go_sem,ac,aM,aN,h,f,hor,eG,eH,hr,alO,bY,bZ,aj,lnO]
   ·rw [jh (g.trans hr)]
    simp only [go_sem,ac,aM,aN,h,f,hor,eG,eH,hr,alO,aj,lnO]
 ·have f:(x.op==2)=false∧(x.op==3)=false∧(x.op==4)=false∧(x.op==6)=false∧(x.op==5)=false∧(x.op==11)=false∧(x.op==12)=false∧(x.op==13)=true:=by rw [ho];decide
  have hor:x.op=11∨x.op=12∨x.op=13∨x.op=14∨x.op=17:=by omega
  have g:rlA x=iR x:=by unfold rlA;rw [ho];rfl
  cases hr:iR x with
  | no =>
   rw [gu (g.trans hr)]
   simp only [go_sem,ac,aM,aN,h,f,hor,eG,eH,hr,alO,bY,bZ,aj,lnO]
  | ln r b =>
   cases b
   ·rw [jy (g.trans hr)]
    simp only [go_sem,ac,aM,aN,h,f,hor,eG,eH,hr,alO,bY,bZ,aj,lnO]
   ·rw [jh (g.trans hr)]
    simp only [go_sem,ac,aM,aN,h,f,hor,eG,eH,hr,alO,aj,lnO]
 ·have f:(x.op==2)=false∧(x.op==3)=false∧(x.op==4)=false∧(x.op==6)=false∧(x.op==5)=false∧(x.op==11)=false∧(x.op==12)=false∧(x.op==13)=false∧(x.op==14)=true:=by rw [ho];decide
  have hor:x.op=11∨x.op=12∨x.op=13∨x.op=14∨x.op=17:=by omega
  have g:rlA x=iR x:=by unfold rlA;rw [ho];rfl
  cases hr:iR x with
  | no =>
   rw [gu (g.trans hr)]
   simp only [go_sem,ac,aM,aN,h,f,hor,eG,eH,hr,alO,bY,bZ,aj,lnO]
  | ln r b =>
   cases b
   ·rw [jy (g.trans hr)]
    simp only [go_sem,ac,aM,aN,h,f,hor,eG,eH,hr,alO,bY,bZ,aj,lnO]
   ·rw [jh (g.trans hr)]
    simp only [go_sem,ac,aM,aN,h,f,hor,eG,eH,hr,alO,aj,lnO]
 ·have f:(x.op==2)=false∧(x.op==3)=false∧(x.op==4)=false∧(x.op==6)=false∧(x.op==5)=false∧(x.op==11)=false∧(x.op==12)=false∧(x.op==13)=false∧(x.op==14)=false∧(x.op==17)=true:=by rw [ho];decide
  have hor:x.op=11∨x.op=12∨x.op=13∨x.op=14∨x.op=17:=by omega
  have g:rlA x=iR x:=by unfold rlA;rw [ho];rfl
  cases hr:iR x with
  | no =>
   rw [gu (g.trans hr)]
   simp only [go_sem,ac,aM,aN,h,f,hor,eG,eH,hr,alO,bY,bZ,aj,lnO]
  | ln r b =>
   cases b
   ·rw [jy (g.trans hr)]
    simp only [go_sem,ac,aM,aN,h,f,hor,eG,eH,hr,alO,bY,bZ,aj,lnO]
   ·rw [jh (g.trans hr)]
    simp only [go_sem,ac,aM,aN,h,f,hor,eG,eH,hr,alO,aj,lnO]
 ·have f:(x.op==2)=false∧(x.op==3)=false∧(x.op==4)=false∧(x.op==6)=false∧(x.op==5)=false∧(x.op==11)=false∧(x.op==12)=false∧(x.op==13)=false∧(x.op==14)=false∧(x.op==17)=false∧(x.op==24)=true:=by rw [ho];decide
  have hor:x.op=24∨x.op=25∨x.op=27∨x.op=26:=by omega
  have g:rlA x=fI x:=by unfold rlA;rw [ho];rfl
  cases hr:fI x with
  | no =>
   rw [gu (g.trans hr)]
   simp only [go_sem,ac,aM,aN,h,f,hor,fQ,fU,hr,alO,bY,bZ,aj,lnO]
  | ln r b =>
   cases b
   ·rw [jy (g.trans hr)]
    simp only [go_sem,ac,aM,aN,h,f,hor,fQ,fU,hr,alO,bY,bZ,aj,lnO]
   ·rw [jh (g.trans hr)]
    simp only [go_sem,ac,aM,aN,h,f,hor,fQ,fU,hr,alO,aj,lnO]
 ·have f:(x.op==2)=false∧(x.op==3)=false∧(x.op==4)=false∧(x.op==6)=false∧(x.op==5)=false∧(x.op==11)=false∧(x.op==12)=false∧(x.op==13)=false∧(x.op==14)=false∧(x.op==17)=false∧(x.op==24)=false∧(x.op==25)=true:=by rw [ho];decide
  have hor:x.op=24∨x.op=25∨x.op=27∨x.op=26:=by omega
  have g:rlA x=fI x:=by unfold rlA;rw [ho];rfl
  cases hr:fI x with
  | no =>
   rw [gu (g.trans hr)]
   simp only [go_sem,ac,aM,aN,h,f,hor,fQ,fU,hr,alO,bY,bZ,aj,lnO]
  | ln r b =>
   cases b
   ·rw [jy (g.trans hr)]
    simp only [go_sem,ac,aM,aN,h,f,hor,fQ,fU,hr,alO,bY,bZ,aj,lnO]
   ·rw [jh (g.trans hr)]
    simp only [go_sem,ac,aM,aN,h,f,hor,fQ,fU,hr,alO,aj,lnO]
 ·have f:(x.op==2)=false∧(x.op==3)=false∧(x.op==4)=false∧(x.op==6)=false∧(x.op==5)=false∧(x.op==11)=false∧(x.op==12)=false∧(x.op==13)=false∧(x.op==14)=false∧(x.op==17)=false∧(x.op==24)=false∧(x.op==25)=false∧(x.op==27)=true:=by rw [ho];decide
  have hor:x.op=24∨x.op=25∨x.op=27∨x.op=26:=by omega
  have g:rlA x=fI x:=by unfold rlA;rw [ho];rfl
  cases hr:fI x with
  | no =>
   rw [gu (g.trans hr)]
   simp only [go_sem,ac,aM,aN,h,f,hor,fQ,fU,hr,alO,bY,bZ,aj,lnO]
  | ln r b =>
   cases b
   ·rw [jy (g.trans hr)]
    simp only [go_sem,ac,aM,aN,h,f,hor,fQ,fU,hr,alO,bY,bZ,aj,lnO]
   ·rw [jh (g.trans hr)]
    simp only [go_sem,ac,aM,aN,h,f,hor,fQ,fU,hr,alO,aj,lnO]
 ·have f:(x.op==2)=false∧(x.op==3)=false∧(x.op==4)=false∧(x.op==6)=false∧(x.op==5)=false∧(x.op==11)=false∧(x.op==12)=false∧(x.op==13)=false∧(x.op==14)=false∧(x.op==17)=false∧(x.op==24)=false∧(x.op==25)=false∧(x.op==27)=false∧(x.op==26)=true:=by rw [ho];decide
  have hor:x.op=24∨x.op=25∨x.op=27∨x.op=26:=by omega
  have g:rlA x=fI x:=by unfold rlA;rw [ho];rfl
  cases hr:fI x with
  | no =>
   rw [gu (g.trans hr)]
   simp only [go_sem,ac,aM,aN,h,f,hor,fQ,fU,hr,alO,bY,bZ,aj,lnO]
  | ln r b =>
   cases b
   ·rw [jy (g.trans hr)]
    simp only [go_sem,ac,aM,aN,h,f,hor,fQ,fU,hr,alO,bY,bZ,aj,lnO]
   ·rw [jh (g.trans hr)]
    simp only [go_sem,ac,aM,aN,h,f,hor,fQ,fU,hr,alO,aj,lnO]
 ·have f:(x.op==2)=false∧(x.op==3)=false∧(x.op==4)=false∧(x.op==6)=false∧(x.op==5)=false∧(x.op==11)=false∧(x.op==12)=false∧(x.op==13)=false∧(x.op==14)=false∧(x.op==17)=false∧(x.op==24)=false∧(x.op==25)=false∧(x.op==27)=false∧(x.op==26)=false∧(x.op==29)=true:=by rw [ho];decide
  have hor:x.op=29∨x.op=31∨x.op=32:=by omega
  have g:rlA x=gR x:=by unfold rlA;rw [ho];rfl
  cases hr:gR x with
  | no =>
   rw [gu (g.trans hr)]
   simp only [go_sem,ac,aM,aN,h,f,hor,iS,iL,hr,alO,bY,bZ,aj,lnO]
  | ln r b =>
   cases b
   ·rw [jy (g.trans hr)]
    simp only [go_sem,ac,aM,aN,h,f,hor,iS,iL,hr,alO,bY,bZ,aj,lnO]
   ·rw [jh (g.trans hr)]
    simp only [go_sem,ac,aM,aN,h,f,hor,iS,iL,hr,alO,aj,lnO]
 ·have f:(x.op==2)=false∧(x.op==3)=false∧(x.op==4)=false∧(x.op==6)=false∧(x.op==5)=false∧(x.op==11)=false∧(x.op==12)=false∧(x.op==13)=false∧(x.op==14)=false∧(x.op==17)=false∧(x.op==24)=false∧(x.op==25)=false∧(x.op==27)=false∧(x.op==26)=false∧(x.op==29)=false∧(x.op==31)=true:=by rw [ho];decide
  have hor:x.op=29∨x.op=31∨x.op=32:=by omega
  have g:rlA x=gR x:=by unfold rlA;rw [ho];rfl
  cases hr:gR x with
  | no =>
   rw [gu (g.trans hr)]
   simp only [go_sem,ac,aM,aN,h,f,hor,iS,iL,hr,alO,bY,bZ,aj,lnO]
  | ln r b =>
   cases b
   ·rw [jy (g.trans hr)]
    simp only [go_sem,ac,aM,aN,h,f,hor,iS,iL,hr,alO,bY,bZ,aj,lnO]
   ·rw [jh (g.trans hr)]
    simp only [go_sem,ac,aM,aN,h,f,hor,iS,iL,hr,alO,aj,lnO]
 ·have f:(x.op==2)=false∧(x.op==3)=false∧(x.op==4)=false∧(x.op==6)=false∧(x.op==5)=false∧(x.op==11)=false∧(x.op==12)=false∧(x.op==13)=false∧(x.op==14)=false∧(x.op==17)=false∧(x.op==24)=false∧(x.op==25)=false∧(x.op==27)=false∧(x.op==26)=false∧(x.op==29)=false∧(x.op==31)=false∧(x.op==32)=true:=by rw [ho];decide
  have hor:x.op=29∨x.op=31∨x.op=32:=by omega
  have g:rlA x=gR x:=by unfold rlA;rw [ho];rfl
  cases hr:gR x with
  | no =>
   rw [gu (g.trans hr)]
   simp only [go_sem,ac,aM,aN,h,f,hor,iS,iL,hr,alO,bY,bZ,aj,lnO]
  | ln r b =>
   cases b
   ·rw [jy (g.trans hr)]
    simp only [go_sem,ac,aM,aN,h,f,hor,iS,iL,hr,alO,bY,bZ,aj,lnO]
   ·rw [jh (g.trans hr)]
    simp only [go_sem,ac,aM,aN,h,f,hor,iS,iL,hr,alO,aj,lnO]
 ·have f:(x.op==2)=false∧(x.op==3)=false∧(x.op==4)=false∧(x.op==6)=false∧(x.op==5)=false∧(x.op==11)=false∧(x.op==12)=false∧(x.op==13)=false∧(x.op==14)=false∧(x.op==17)=false∧(x.op==24)=false∧(x.op==25)=false∧(x.op==27)=false∧(x.op==26)=false∧(x.op==29)=false∧(x.op==31)=false∧(x.op==32)=false:=by simpa using ho
  have g:rlA x=.no:=by unfold rlA;simp [ho]
  rw [gu g]
  simp only [go_sem,ac,aM,aN,h,f,bY,bZ,aj,lnO]
def tZ:aJ Tryz.prog 16 :=
 mk1 _ _ _ Tryz.func16 rfl (fun _ _=>by go_simp) (ai ac) ((fun _=>True)) ((fun x=>.ret (lV x))) (by rw [Tryz.ntmps16];decide) (fun x _=>BT x)
theorem x5 {id:Nat} {h:am} {args:List AV}:(tZ).run id h args=aY (au (ai ac) ((fun _=>True))) ((fun x=>.ret (lV x))) h args:=rfl
theorem zl {id:Nat} {h:am} {args:List AV}:(tZ).pan id h args=aZ (au (ai ac) ((fun _=>True))) ((fun x=>.ret (lV x))) h args:=rfl
end Go.Proofs.YtpjlafmhoifkmaaGreat
