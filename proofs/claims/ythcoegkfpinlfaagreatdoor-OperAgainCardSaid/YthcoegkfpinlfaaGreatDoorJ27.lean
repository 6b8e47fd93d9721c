import Derived.Test.YthcoegkfpinlfaaGreatDoorJ26
set_option linter.unusedVariables false
set_option linter.unusedSimpArgs false
set_option maxRecDepth 100000
set_option maxHeartbeats 8000000
namespace Go.Proofs.YthcoegkfpinlfaaGreatDoor
open Go.RowKit
theorem Qr (o:OpV) (hO:okO o) (hc:fi o=0):SW Tryz.prog ⟨none,0⟩ Tryz.f22.ntmps (Tryz.f22.body.getD .skip) ⟨0,aw 0 [tOp.enc o],[]⟩ (eK Tryz.prog Tryz.f22.results.toList (.ret (sv (aT o)))):=by
 refine ab (ctx:=[⟨_,uV⟩,⟨_,Ao⟩,⟨_,D5⟩,⟨_,PL⟩]) 4000 ?_
 rw [Tryz.ntmps22,Tryz.results22]
 simp only [Tryz.f22,Option.getD_some,aw]
 obtain ⟨hf,hp,hw⟩:=dz hc
 obtain ⟨hb,hk⟩:=dr hf
 have hR:=gO o.r
 have hV:=oU hO
 have ho:=sW hO
 rcases hk with ⟨k1,hr,ha⟩ | ⟨k2,ha⟩ | k3 | ⟨hk,n0,n1⟩ | ⟨k5,hm⟩
 ·obtain ⟨-,a0,a1⟩:=pY ha
  have hq:0≤o.amt∧o.amt<100:=⟨a0,a1⟩
  have fin:∀ s:Bool,(decide (5≤o.md)&&(o.amt==0))=s→aT o=dy o.r++kK o s:=fun s hs=>by
   unfold aT
   rw [if_pos k1,← hs]
   rfl
  have hz:∀ s:Bool,(dy o.r).size+(kK o s).size≤maxLen:=fun s=>by
   have:=km o s
   have e:(dy o.r).size≤4:=hR
   unfold maxLen
   omega
  simp only [go_sem,aF,opE,eq_true k1]
  refine cr (ctx:=[⟨_,ww⟩,⟨_,BC⟩]) mixed [] (by kernel_rfl) ?_
  by_cases g:5≤o.md
  ·cases hB:(o.amt==0) with
   | false =>
    rw [fin false (by rw [decide_eq_true g,hB];rfl)]
    simp only [go_sem,aF,opE,opD,bj,bi,oH,d8,d7,ov,ou,hq,or_true,g,hB,hz]
   | true =>
    rw [fin true (by rw [decide_eq_true g,hB];rfl)]
    simp only [go_sem,aF,opE,opD,bj,bi,oH,d8,d7,ov,ou,hq,or_true,true_or,g,hB,hz]
  ·rw [fin false (by rw [decide_eq_false g];rfl)]
   simp only [go_sem,aF,opE,opD,bj,bi,oH,d8,d7,ov,ou,hq,or_true,g,hz]
 ·obtain ⟨-,a0,a1⟩:=pY ha
  have hq:0≤o.amt∧o.amt<100:=⟨a0,a1⟩
  have q1:¬o.kind=1:=by omega
  have hz:(j6 o).size+(kK o false).size≤maxLen:=by
   have h1:=km o false
   have h2:=oj hO
   unfold maxLen
   omega
  simp only [go_sem,aF,opE,q1,eq_true k2,aT]
  refine cr (ctx:=[⟨_,NB⟩,⟨_,BC⟩]) mixed [] (by kernel_rfl) ?_
  simp only [go_sem,aF,opE,opD,bj,bi,oq,oo,ov,ou,hO,hq,or_true,hz]
 ·have q1:¬o.kind=1:=by omega
  have q2:¬o.kind=2:=by omega
  have z1:1+(mh o).size≤maxLen:=by unfold maxLen;omega
  have eV:(Ex.printF o.val).1=mh o:=rfl
  cases hA:kW o
  ·have hA':(decide (o.val.plus=emp)&&decide (o.val.minus=emp))=false:=hA
   simp only [go_sem,aF,opE,q1,q2,eq_true k3,aT,hA,hA',jo,jn,qr,qp,g9,vr,ho,eV,Bool.false_eq_true]
  ·have hA':(decide (o.val.plus=emp)&&decide (o.val.minus=emp))=true:=hA
   simp only [go_sem,aF,opE,q1,q2,eq_true k3,aT,hA,hA',jo,jn,qr,qp,g9,vr,ho,eV,bc,z1]
 ·have q1:¬o.kind=1:=by omega
  have q2:¬o.kind=2:=by omega
  have q3:¬o.kind=3:=by omega
  rcases hk with h | h | h | h | h
  ·have e:(ay 2 o.n).2=0:=yi n0 (by rw [h] at n1;exact n1)
   simp only [go_sem,aF,opE,q1,q2,q3,eq_true h,aT,nj,ni,e,true_or]
  ·have e:(ay 6 o.n).2=0:=BG n0 (by rw [h] at n1;exact n1)
   have q4:¬o.kind=4:=by omega
   simp only [go_sem,aF,opE,q1,q2,q3,q4,eq_true h,aT,nj,ni,e,true_or]
  ·have e:0≤o.n∧o.n<100:=by
    rw [h] at n1
    have:jP 7=15:=rfl
    omega
   have q4:¬o.kind=4:=by omega
   have q6:¬o.kind=6:=by omega
   simp only [go_sem,aF,opE,q1,q2,q3,q4,q6,eq_true h,aT,nj,ni,e,or_true,and_self]
  ·have e:0≤o.n∧o.n<100:=by
    rw [h] at n1
    have:jP 8=31:=rfl
    omega
   have q4:¬o.kind=4:=by omega
   have q6:¬o.kind=6:=by omega
   have q7:¬o.kind=7:=by omega
   simp only [go_sem,aF,opE,q1,q2,q3,q4,q6,q7,eq_true h,aT,nj,ni,e,or_true,and_self]
  ·have e:0≤o.n∧o.n<100:=by
    rw [h] at n1
    have:jP 9=5:=rfl
    omega
   have q4:¬o.kind=4:=by omega
   have q6:¬o.kind=6:=by omega
   have q7:¬o.kind=7:=by omega
   have q8:¬o.kind=8:=by omega
   simp only [go_sem,aF,opE,q1,q2,q3,q4,q6,q7,q8,eq_true h,aT,nj,ni,e,or_true,and_self]
 ·have q1:¬o.kind=1:=by omega
  have q2:¬o.kind=2:=by omega
  have q3:¬o.kind=3:=by omega
  have q4:¬o.kind=4:=by omega
  have q6:¬o.kind=6:=by omega
  have q7:¬o.kind=7:=by omega
  have q8:¬o.kind=8:=by omega
  have q9:¬o.kind=9:=by omega
  simp only [go_sem,aF,opE,opD,bj,bi,q1,q2,q3,q4,q6,q7,q8,q9,aT,NJ,NH,hO,hm,and_self]
def Mn:bq Tryz.prog 22 :=
 mk1 _ _ _ Tryz.func22 rfl (fun _ _=>by go_simp) (tOp) ((fun o=>okO o∧fi o=0)) ((fun o=>.ret (sv (aT o)))) (by rw [Tryz.ntmps22];decide) (fun o h=>Qr o h.1 h.2)
theorem eU {id:Nat} {h:ag} {args:List AV}:(Mn).run id h args=bV (aI (tOp) ((fun o=>okO o∧fi o=0))) ((fun o=>.ret (sv (aT o)))) h args:=rfl
theorem eS {id:Nat} {h:ag} {args:List AV}:(Mn).pan id h args=ca (aI (tOp) ((fun o=>okO o∧fi o=0))) ((fun o=>.ret (sv (aT o)))) h args:=rfl
theorem D1 {o:OpV} (h:okO o):(gG o).size≤2199023255700:=by
 have h1:=gO o.r
 have h2:=gO o.m
 have h3:=oj h
 have h4:=km o (o.amt == -1)
 have e1:(dy o.r).size≤4:=h1
 have e2:(dy o.m).size≤4:=h2
 have f1:brS.size=1:=rfl
 have f2:gr.size=2:=rfl
 have f3:ekS.size=1:=rfl
 have f4:Ng.size=2:=rfl
 have f5:J3.size=3:=rfl
 unfold gG
 repeat' split
 all_goals simp only [ByteArray.size_append]
 all_goals omega
theorem rT (k n:Int):(dU k n).size≤40:=by
 have h1:=qZ k n
 have h2:=og n
 have f1:bc.size=1:=rfl
 unfold dU
 split
 ·exact h1
 ·simp only [ByteArray.size_append]
  omega
theorem w8 {o:OpV} (h:okO o):(aT o).size≤2199023255800:=by
 have h1:=gO o.r
 have e1:(dy o.r).size≤4:=h1
 have h2:=km o (decide (5≤o.md)&&decide (o.amt=0))
 have h3:=km o false
 have h4:=oj h
 have h5:=oU h
 have h6:=D1 h
 have f1:bc.size=1:=rfl
 have g:=fun k=>rT k o.n
 have g2:=g 2
 have g6:=g 6
 have g4:=g 4
 have g7:=g 7
 have g8:=g 8
 unfold aT
 repeat' split
 all_goals try simp only [ByteArray.size_append]
 all_goals omega
theorem Kk {o:OpV} (h:o.kind=9):(aT o).size≤1099511627776:=by
 have:=rT 8 o.n
 unfold aT
 rw [if_neg (by omega),if_neg (by omega),if_neg (by omega),if_neg (by omega),if_neg (by omega),if_neg (by omega),if_neg (by omega),if_pos h]
 omega
theorem Le (o:OpV) (hO:okO o):SW Tryz.prog ⟨none,0⟩ Tryz.f11.ntmps (Tryz.f11.body.getD .skip) ⟨0,aw 0 [tOp.enc o],[]⟩ (eK Tryz.prog Tryz.f11.results.toList (.ret (opV (aN o)))):=by
 refine ab (ctx:=[⟨_,GX⟩,⟨_,uV⟩,⟨_,BE⟩,⟨_,oz⟩,⟨_,Mn⟩]) 4000 ?_
 rw [Tryz.ntmps11,Tryz.results11]
 simp only [Tryz.f11,Option.getD_some,aw]
 by_cases hc:fi o=0
 case neg=>simp only [go_sem,aF,opE,opD,bj,bi,opV,cY,cX,hO,hc,aN,not_false_eq_true]
 by_cases k3:o.kind=3
 ·cases hA:kW o
  ·have hA':(decide (o.val.plus=emp)&&decide (o.val.minus=emp))=false:=hA
   simp only [go_sem,aF,opE,opD,bj,bi,vr,g9,opV,cY,cX,hO,eq_true hc,eq_true k3,jo,jn,hA,hA',aN,not_true_eq_false,Bool.false_eq_true]
  ·have hA':(decide (o.val.plus=emp)&&decide (o.val.minus=emp))=true:=hA
   simp only [go_sem,aF,opE,opD,bj,bi,vr,g9,opV,cY,cX,hO,eq_true hc,eq_true k3,jo,jn,hA,hA',aN,not_true_eq_false,r0,ax]
 by_cases k7:o.kind=7
 ·have k8:¬o.kind=8:=by omega
  by_cases hn:(ay 4 o.n).2=0
  ·simp only [go_sem,aF,opE,opD,bj,bi,opV,cY,cX,hO,eq_true hc,k3,eq_true k7,k8,kM,kL,eW,eq_true hn,aN,not_true_eq_false]
  ·simp only [go_sem,aF,opE,opD,bj,bi,opV,cY,cX,hO,eq_true hc,k3,eq_true k7,k8,kM,kL,eW,hn,aN,not_true_eq_false,not_false_eq_true,pF,r0,ax]
 by_cases k8:o.kind=8
 ·by_cases hn:(ay 7 o.n).2=0
  ·simp only [go_sem,aF,opE,opD,bj,bi,opV,cY,cX,hO,eq_true hc,k3,k7,eq_true k8,kM,kL,eW,eq_true hn,aN,not_true_eq_false]
  ·simp only [go_sem,aF,opE,opD,bj,bi,opV,cY,cX,hO,eq_true hc,k3,k7,eq_true k8,kM,kL,eW,hn,aN,not_true_eq_false,not_false_eq_true,pF,r0,ax]
 by_cases k9:o.kind=9
 ·have hz:=Kk k9
  by_cases hn:(ap 3 6 (aT o)).2=0
  ·simp only [go_sem,aF,opE,opD,bj,bi,opV,cY,cX,hO,eq_true hc,k3,k7,k8,eq_true k9,eU,eS,bQ,bP,cB,hz,eq_true hn,aN,not_true_eq_false,and_self,r0,ax]
  ·simp only [go_sem,aF,opE,opD,bj,bi,opV,cY,cX,hO,eq_true hc,k3,k7,k8,eq_true k9,eU,eS,bQ,bP,cB,hz,hn,aN,not_true_eq_false,and_self]
 ·simp only [go_sem,aF,opE,opD,bj,bi,opV,cY,cX,hO,eq_true hc,k3,k7,k8,k9,aN,not_true_eq_false]
def uE:bq Tryz.prog 11 :=
 mk1 _ _ _ Tryz.func11 rfl (fun _ _=>by go_simp) (tOp) (okO) ((fun o=>.ret (opV (aN o)))) (by rw [Tryz.ntmps11];decide) (fun o h=>Le o h)
theorem wj {id:Nat} {h:ag} {args:List AV}:(uE).run id h args=bV (aI (tOp) (okO)) ((fun o=>.ret (opV (aN o)))) h args:=rfl
theorem wi {id:Nat} {h:ag} {args:List AV}:(uE).pan id h args=ca (aI (tOp) (okO)) ((fun o=>.ret (opV (aN o)))) h args:=rfl
end Go.Proofs.YthcoegkfpinlfaaGreatDoor
