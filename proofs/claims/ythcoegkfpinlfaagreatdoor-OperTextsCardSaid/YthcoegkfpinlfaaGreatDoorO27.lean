import Derived.Test.YthcoegkfpinlfaaGreatDoorO26
set_option linter.unusedVariables false
set_option linter.unusedSimpArgs false
set_option maxRecDepth 100000
set_option maxHeartbeats 8000000
namespace Go.Proofs.YthcoegkfpinlfaaGreatDoor
open Go.RowKit
theorem txt_sw (o:OpV) (hO:okO o) (hc:iS o=0):SW Tryz.prog ⟨none,0⟩ Tryz.f22.ntmps (Tryz.f22.body.getD .skip) ⟨0,aN 0 [tOp.enc o],[]⟩ (fa Tryz.prog Tryz.f22.results.toList (.ret (sv (ci o)))):=by
 refine aC (ctx:=[⟨_,QT⟩,⟨_,RB⟩,⟨_,Us⟩,⟨_,memS⟩]) 4000 ?_
 rw [Tryz.ntmps22,Tryz.results22]
 simp only [Tryz.f22,Option.getD_some,aN]
 obtain ⟨hf,hp,hw⟩:=Kt hc
 obtain ⟨hb,hk⟩:=C1 hf
 have hR:=iU o.r
 have hV:=CE hO
 have ho:=DM hO
 rcases hk with ⟨k1,hr,ha⟩ | ⟨k2,ha⟩ | k3 | ⟨hk,n0,n1⟩ | ⟨k5,hm⟩
 ·obtain ⟨-,a0,a1⟩:=KP ha
  have hq:0≤o.amt∧o.amt<100:=⟨a0,a1⟩
  have fin:∀ s:Bool,(decide (5≤o.md)&&(o.amt==0))=s→ci o=lZ o.r++mC o s:=fun s hs=>by
   unfold ci
   rw [if_pos k1,← hs]
   rfl
  have hz:∀ s:Bool,(lZ o.r).size+(mC o s).size≤maxLen:=fun s=>by
   have:=me o s
   have e:(lZ o.r).size≤4:=hR
   unfold maxLen
   omega
  simp only [go_sem,bk,opE,eq_true k1]
  refine dc (ctx:=[⟨_,Og⟩,⟨_,RZ⟩]) mixed [] (by kernel_rfl) ?_
  by_cases g:5≤o.md
  ·cases hB:(o.amt==0) with
   | false =>
    rw [fin false (by rw [decide_eq_true g,hB];rfl)]
    simp only [go_sem,bk,opE,opD,bU,bT,cW,fT,fR,J9,Kc,hq,or_true,g,hB,hz]
   | true =>
    rw [fin true (by rw [decide_eq_true g,hB];rfl)]
    simp only [go_sem,bk,opE,opD,bU,bT,cW,fT,fR,J9,Kc,hq,or_true,true_or,g,hB,hz]
  ·rw [fin false (by rw [decide_eq_false g];rfl)]
   simp only [go_sem,bk,opE,opD,bU,bT,cW,fT,fR,J9,Kc,hq,or_true,g,hz]
 ·obtain ⟨-,a0,a1⟩:=KP ha
  have hq:0≤o.amt∧o.amt<100:=⟨a0,a1⟩
  have q1:¬o.kind=1:=by omega
  have hz:(qg o).size+(mC o false).size≤maxLen:=by
   have h1:=me o false
   have h2:=CC hO
   unfold maxLen
   omega
  simp only [go_sem,bk,opE,q1,eq_true k2,ci]
  refine dc (ctx:=[⟨_,lowS⟩,⟨_,RZ⟩]) mixed [] (by kernel_rfl) ?_
  simp only [go_sem,bk,opE,opD,bU,bT,Kf,J7,J9,Kc,hO,hq,or_true,hz]
 ·have q1:¬o.kind=1:=by omega
  have q2:¬o.kind=2:=by omega
  have z1:1+(Ct o).size≤maxLen:=by unfold maxLen;omega
  have eV:(Ex.printF o.val).1=Ct o:=rfl
  cases hA:Nr o
  ·have hA':(decide (o.val.plus=emp)&&decide (o.val.minus=emp))=false:=hA
   simp only [go_sem,bk,opE,q1,q2,eq_true k3,ci,hA,hA',KT,KL,KI,KJ,fN,iL,ho,eV,Bool.false_eq_true]
  ·have hA':(decide (o.val.plus=emp)&&decide (o.val.minus=emp))=true:=hA
   simp only [go_sem,bk,opE,q1,q2,eq_true k3,ci,hA,hA',KT,KL,KI,KJ,fN,iL,ho,eV,nm,z1]
 ·have q1:¬o.kind=1:=by omega
  have q2:¬o.kind=2:=by omega
  have q3:¬o.kind=3:=by omega
  rcases hk with h | h | h | h | h
  ·have e:(cG 2 o.n).2=0:=Qx n0 (by rw [h] at n1;exact n1)
   simp only [go_sem,bk,opE,q1,q2,q3,eq_true h,ci,JH,JD,e,true_or]
  ·have e:(cG 6 o.n).2=0:=Sa n0 (by rw [h] at n1;exact n1)
   have q4:¬o.kind=4:=by omega
   simp only [go_sem,bk,opE,q1,q2,q3,q4,eq_true h,ci,JH,JD,e,true_or]
  ·have e:0≤o.n∧o.n<100:=by
    rw [h] at n1
    have:Cs 7=15:=rfl
    omega
   have q4:¬o.kind=4:=by omega
   have q6:¬o.kind=6:=by omega
   simp only [go_sem,bk,opE,q1,q2,q3,q4,q6,eq_true h,ci,JH,JD,e,or_true,and_self]
  ·have e:0≤o.n∧o.n<100:=by
    rw [h] at n1
    have:Cs 8=31:=rfl
    omega
   have q4:¬o.kind=4:=by omega
   have q6:¬o.kind=6:=by omega
   have q7:¬o.kind=7:=by omega
   simp only [go_sem,bk,opE,q1,q2,q3,q4,q6,q7,eq_true h,ci,JH,JD,e,or_true,and_self]
  ·have e:0≤o.n∧o.n<100:=by
    rw [h] at n1
    have:Cs 9=5:=rfl
    omega
   have q4:¬o.kind=4:=by omega
   have q6:¬o.kind=6:=by omega
   have q7:¬o.kind=7:=by omega
   have q8:¬o.kind=8:=by omega
   simp only [go_sem,bk,opE,q1,q2,q3,q4,q6,q7,q8,eq_true h,ci,JH,JD,e,or_true,and_self]
 ·have q1:¬o.kind=1:=by omega
  have q2:¬o.kind=2:=by omega
  have q3:¬o.kind=3:=by omega
  have q4:¬o.kind=4:=by omega
  have q6:¬o.kind=6:=by omega
  have q7:¬o.kind=7:=by omega
  have q8:¬o.kind=8:=by omega
  have q9:¬o.kind=9:=by omega
  simp only [go_sem,bk,opE,opD,bU,bT,q1,q2,q3,q4,q6,q7,q8,q9,ci,mem_run,mem_pan,hO,hm,and_self]
def txtS:cK Tryz.prog 22 :=
 mk1 _ _ _ Tryz.func22 rfl (fun _ _=>by go_simp) (tOp) ((fun o=>okO o∧iS o=0)) ((fun o=>.ret (sv (ci o)))) (by rw [Tryz.ntmps22];decide) (fun o h=>txt_sw o h.1 h.2)
theorem Ke {id:Nat} {h:aF} {args:List AV}:(txtS).run id h args=be (aV (tOp) ((fun o=>okO o∧iS o=0))) ((fun o=>.ret (sv (ci o)))) h args:=rfl
theorem JZ {id:Nat} {h:aF} {args:List AV}:(txtS).pan id h args=bi (aV (tOp) ((fun o=>okO o∧iS o=0))) ((fun o=>.ret (sv (ci o)))) h args:=rfl
theorem UR {o:OpV} (h:okO o):(fE o).size≤2199023255700:=by
 have h1:=iU o.r
 have h2:=iU o.m
 have h3:=CC h
 have h4:=me o (o.amt == -1)
 have e1:(lZ o.r).size≤4:=h1
 have e2:(lZ o.m).size≤4:=h2
 have f1:brS.size=1:=rfl
 have f2:lY.size=2:=rfl
 have f3:ekS.size=1:=rfl
 have f4:ekbS.size=2:=rfl
 have f5:XF.size=3:=rfl
 unfold fE
 repeat' split
 all_goals simp only [ByteArray.size_append]
 all_goals omega
theorem MT (k n:Int):(fc k n).size≤40:=by
 have h1:=J4 k n
 have h2:=CL n
 have f1:nm.size=1:=rfl
 unfold fc
 split
 ·exact h1
 ·simp only [ByteArray.size_append]
  omega
theorem D3 {o:OpV} (h:okO o):(ci o).size≤2199023255800:=by
 have h1:=iU o.r
 have e1:(lZ o.r).size≤4:=h1
 have h2:=me o (decide (5≤o.md)&&decide (o.amt=0))
 have h3:=me o false
 have h4:=CC h
 have h5:=CE h
 have h6:=UR h
 have f1:nm.size=1:=rfl
 have g:=fun k=>MT k o.n
 have g2:=g 2
 have g6:=g 6
 have g4:=g 4
 have g7:=g 7
 have g8:=g 8
 unfold ci
 repeat' split
 all_goals try simp only [ByteArray.size_append]
 all_goals omega
theorem ZC {o:OpV} (h:o.kind=9):(ci o).size≤1099511627776:=by
 have:=MT 8 o.n
 unfold ci
 rw [if_neg (by omega),if_neg (by omega),if_neg (by omega),if_neg (by omega),if_neg (by omega),if_neg (by omega),if_neg (by omega),if_pos h]
 omega
theorem ZM (o:OpV) (hO:okO o):SW Tryz.prog ⟨none,0⟩ Tryz.f11.ntmps (Tryz.f11.body.getD .skip) ⟨0,aN 0 [tOp.enc o],[]⟩ (fa Tryz.prog Tryz.f11.results.toList (.ret (opV (fm o)))):=by
 refine aC (ctx:=[⟨_,WU⟩,⟨_,QT⟩,⟨_,SD⟩,⟨_,KS⟩,⟨_,txtS⟩]) 4000 ?_
 rw [Tryz.ntmps11,Tryz.results11]
 simp only [Tryz.f11,Option.getD_some,aN]
 by_cases hc:iS o=0
 case neg=>simp only [go_sem,bk,opE,opD,bU,bT,opV,mw,mr,hO,hc,fm,not_false_eq_true]
 by_cases k3:o.kind=3
 ·cases hA:Nr o
  ·have hA':(decide (o.val.plus=emp)&&decide (o.val.minus=emp))=false:=hA
   simp only [go_sem,bk,opE,opD,bU,bT,iL,fN,opV,mw,mr,hO,eq_true hc,eq_true k3,KT,KL,hA,hA',fm,not_true_eq_false,Bool.false_eq_true]
  ·have hA':(decide (o.val.plus=emp)&&decide (o.val.minus=emp))=true:=hA
   simp only [go_sem,bk,opE,opD,bU,bT,iL,fN,opV,mw,mr,hO,eq_true hc,eq_true k3,KT,KL,hA,hA',fm,not_true_eq_false,r0,aS]
 by_cases k7:o.kind=7
 ·have k8:¬o.kind=8:=by omega
  by_cases hn:(cG 4 o.n).2=0
  ·simp only [go_sem,bk,opE,opD,bU,bT,opV,mw,mr,hO,eq_true hc,k3,eq_true k7,k8,CW,C0,cZ,eq_true hn,fm,not_true_eq_false]
  ·simp only [go_sem,bk,opE,opD,bU,bT,opV,mw,mr,hO,eq_true hc,k3,eq_true k7,k8,CW,C0,cZ,hn,fm,not_true_eq_false,not_false_eq_true,P2,r0,aS]
 by_cases k8:o.kind=8
 ·by_cases hn:(cG 7 o.n).2=0
  ·simp only [go_sem,bk,opE,opD,bU,bT,opV,mw,mr,hO,eq_true hc,k3,k7,eq_true k8,CW,C0,cZ,eq_true hn,fm,not_true_eq_false]
  ·simp only [go_sem,bk,opE,opD,bU,bT,opV,mw,mr,hO,eq_true hc,k3,k7,eq_true k8,CW,C0,cZ,hn,fm,not_true_eq_false,not_false_eq_true,P2,r0,aS]
 by_cases k9:o.kind=9
 ·have hz:=ZC k9
  by_cases hn:(cV 3 6 (ci o)).2=0
  ·simp only [go_sem,bk,opE,opD,bU,bT,opV,mw,mr,hO,eq_true hc,k3,k7,k8,eq_true k9,Ke,JZ,J2,JN,lW,hz,eq_true hn,fm,not_true_eq_false,and_self,r0,aS]
  ·simp only [go_sem,bk,opE,opD,bU,bT,opV,mw,mr,hO,eq_true hc,k3,k7,k8,eq_true k9,Ke,JZ,J2,JN,lW,hz,hn,fm,not_true_eq_false,and_self]
 ·simp only [go_sem,bk,opE,opD,bU,bT,opV,mw,mr,hO,eq_true hc,k3,k7,k8,k9,fm,not_true_eq_false]
def Rn:cK Tryz.prog 11 :=
 mk1 _ _ _ Tryz.func11 rfl (fun _ _=>by go_simp) (tOp) (okO) ((fun o=>.ret (opV (fm o)))) (by rw [Tryz.ntmps11];decide) (fun o h=>ZM o h)
theorem Uu {id:Nat} {h:aF} {args:List AV}:(Rn).run id h args=be (aV (tOp) (okO)) ((fun o=>.ret (opV (fm o)))) h args:=rfl
theorem TH {id:Nat} {h:aF} {args:List AV}:(Rn).pan id h args=bi (aV (tOp) (okO)) ((fun o=>.ret (opV (fm o)))) h args:=rfl
end Go.Proofs.YthcoegkfpinlfaaGreatDoor
