import Derived.Test.YtnhbidpdadkcjaaGreatDoorJ26
set_option linter.unusedVariables false
set_option linter.unusedSimpArgs false
set_option maxRecDepth 100000
set_option maxHeartbeats 8000000
namespace Go.Proofs.YtnhbidpdadkcjaaGreatDoor
open Go.RowKit
theorem SP (o:OpV) (hO:okO o) (hc:iD o=0):SW Tryz.prog ⟨none,0⟩ Tryz.f127.ntmps (Tryz.f127.body.getD .skip) ⟨0,aC 0 [tOp.enc o],[]⟩ (es Tryz.prog Tryz.f127.results.toList (.ret (sv (cD o)))):=by
 refine aa (ctx:=[⟨_,At⟩,⟨_,Bw⟩,⟨_,EO⟩,⟨_,Rw⟩]) 4000 ?_
 rw [Tryz.ntmps127,Tryz.results127]
 simp only [Tryz.f127,Option.getD_some,aC]
 obtain ⟨hf,hp,hw⟩:=ox hc
 obtain ⟨hb,hk⟩:=nI hf
 have hR:=il o.r
 have hV:=pV hO
 have ho:=uE hO
 rcases hk with ⟨k1,hr,ha⟩ | ⟨k2,ha⟩ | k3 | ⟨hk,n0,n1⟩ | ⟨k5,hm⟩
 ·obtain ⟨-,a0,a1⟩:=qU ha
  have hq:0≤o.amt∧o.amt<100:=⟨a0,a1⟩
  have fin:∀ s:Bool,(decide (5≤o.md)&&(o.amt==0))=s→cD o=jE o.r++mU o s:=fun s hs=>by
   unfold cD
   rw [if_pos k1,← hs]
   rfl
  have hz:∀ s:Bool,(jE o.r).size+(mU o s).size≤maxLen:=fun s=>by
   have:=kY o s
   have e:(jE o.r).size≤4:=hR
   unfold maxLen
   omega
  simp only [go_sem,bh,opE,eq_true k1]
  refine bI (ctx:=[⟨_,x8⟩,⟨_,CG⟩]) mixed [] (by kernel_rfl) ?_
  by_cases g:5≤o.md
  ·cases hB:(o.amt==0) with
   | false =>
    rw [fin false (by rw [decide_eq_true g,hB];rfl)]
    simp only [go_sem,bh,opE,opD,bQ,bP,pL,eS,eR,pC,pB,hq,or_true,g,hB,hz]
   | true =>
    rw [fin true (by rw [decide_eq_true g,hB];rfl)]
    simp only [go_sem,bh,opE,opD,bQ,bP,pL,eS,eR,pC,pB,hq,or_true,true_or,g,hB,hz]
  ·rw [fin false (by rw [decide_eq_false g];rfl)]
   simp only [go_sem,bh,opE,opD,bQ,bP,pL,eS,eR,pC,pB,hq,or_true,g,hz]
 ·obtain ⟨-,a0,a1⟩:=qU ha
  have hq:0≤o.amt∧o.amt<100:=⟨a0,a1⟩
  have q1:¬o.kind=1:=by omega
  have hz:(oI o).size+(mU o false).size≤maxLen:=by
   have h1:=kY o false
   have h2:=px hO
   unfold maxLen
   omega
  simp only [go_sem,bh,opE,q1,eq_true k2,cD]
  refine bI (ctx:=[⟨_,O2⟩,⟨_,CG⟩]) mixed [] (by kernel_rfl) ?_
  simp only [go_sem,bh,opE,opD,bQ,bP,pz,py,pC,pB,hO,hq,or_true,hz]
 ·have q1:¬o.kind=1:=by omega
  have q2:¬o.kind=2:=by omega
  have z1:1+(qN o).size≤maxLen:=by unfold maxLen;omega
  have eV:(Ex.printF o.val).1=qN o:=rfl
  cases hA:DT o
  ·have hA':(decide (o.val.plus=emp)&&decide (o.val.minus=emp))=false:=hA
   simp only [go_sem,bh,opE,q1,q2,eq_true k3,cD,hA,hA',mu,mr,ru,rt,gJ,AM,ho,eV,Bool.false_eq_true]
  ·have hA':(decide (o.val.plus=emp)&&decide (o.val.minus=emp))=true:=hA
   simp only [go_sem,bh,opE,q1,q2,eq_true k3,cD,hA,hA',mu,mr,ru,rt,gJ,AM,ho,eV,eQ,z1]
 ·have q1:¬o.kind=1:=by omega
  have q2:¬o.kind=2:=by omega
  have q3:¬o.kind=3:=by omega
  rcases hk with h | h | h | h | h
  ·have e:(cX 2 o.n).2=0:=zH n0 (by rw [h] at n1;exact n1)
   simp only [go_sem,bh,opE,q1,q2,q3,eq_true h,cD,oK,oJ,e,true_or]
  ·have e:(cX 6 o.n).2=0:=CI n0 (by rw [h] at n1;exact n1)
   have q4:¬o.kind=4:=by omega
   simp only [go_sem,bh,opE,q1,q2,q3,q4,eq_true h,cD,oK,oJ,e,true_or]
  ·have e:0≤o.n∧o.n<100:=by
    rw [h] at n1
    have:lE 7=15:=rfl
    omega
   have q4:¬o.kind=4:=by omega
   have q6:¬o.kind=6:=by omega
   simp only [go_sem,bh,opE,q1,q2,q3,q4,q6,eq_true h,cD,oK,oJ,e,or_true,and_self]
  ·have e:0≤o.n∧o.n<100:=by
    rw [h] at n1
    have:lE 8=31:=rfl
    omega
   have q4:¬o.kind=4:=by omega
   have q6:¬o.kind=6:=by omega
   have q7:¬o.kind=7:=by omega
   simp only [go_sem,bh,opE,q1,q2,q3,q4,q6,q7,eq_true h,cD,oK,oJ,e,or_true,and_self]
  ·have e:0≤o.n∧o.n<100:=by
    rw [h] at n1
    have:lE 9=5:=rfl
    omega
   have q4:¬o.kind=4:=by omega
   have q6:¬o.kind=6:=by omega
   have q7:¬o.kind=7:=by omega
   have q8:¬o.kind=8:=by omega
   simp only [go_sem,bh,opE,q1,q2,q3,q4,q6,q7,q8,eq_true h,cD,oK,oJ,e,or_true,and_self]
 ·have q1:¬o.kind=1:=by omega
  have q2:¬o.kind=2:=by omega
  have q3:¬o.kind=3:=by omega
  have q4:¬o.kind=4:=by omega
  have q6:¬o.kind=6:=by omega
  have q7:¬o.kind=7:=by omega
  have q8:¬o.kind=8:=by omega
  have q9:¬o.kind=9:=by omega
  simp only [go_sem,bh,opE,opD,bQ,bP,q1,q2,q3,q4,q6,q7,q8,q9,cD,Pb,O9,hO,hm,and_self]
def P2:bi Tryz.prog 127 :=
 mk1 _ _ _ Tryz.func127 rfl (fun _ _=>by go_simp) (tOp) ((fun o=>okO o∧iD o=0)) ((fun o=>.ret (sv (cD o)))) (by rw [Tryz.ntmps127];decide) (fun o h=>SP o h.1 h.2)
theorem f9 {id:Nat} {h:ah} {args:List AV}:(P2).run id h args=bT (ba (tOp) ((fun o=>okO o∧iD o=0))) ((fun o=>.ret (sv (cD o)))) h args:=rfl
theorem f8 {id:Nat} {h:ah} {args:List AV}:(P2).pan id h args=bU (ba (tOp) ((fun o=>okO o∧iD o=0))) ((fun o=>.ret (sv (cD o)))) h args:=rfl
theorem EJ {o:OpV} (h:okO o):(kH o).size≤2199023255700:=by
 have h1:=il o.r
 have h2:=il o.m
 have h3:=px h
 have h4:=kY o (o.amt == -1)
 have e1:(jE o.r).size≤4:=h1
 have e2:(jE o.m).size≤4:=h2
 have f1:brS.size=1:=rfl
 have f2:gQ.size=2:=rfl
 have f3:ekS.size=1:=rfl
 have f4:OH.size=2:=rfl
 have f5:OI.size=3:=rfl
 unfold kH
 repeat' split
 all_goals simp only [ByteArray.size_append]
 all_goals omega
theorem A6 (k n:Int):(jI k n).size≤40:=by
 have h1:=sx k n
 have h2:=pw n
 have f1:eQ.size=1:=rfl
 unfold jI
 split
 ·exact h1
 ·simp only [ByteArray.size_append]
  omega
theorem sI {o:OpV} (h:okO o):(cD o).size≤2199023255800:=by
 have h1:=il o.r
 have e1:(jE o.r).size≤4:=h1
 have h2:=kY o (decide (5≤o.md)&&decide (o.amt=0))
 have h3:=kY o false
 have h4:=px h
 have h5:=pV h
 have h6:=EJ h
 have f1:eQ.size=1:=rfl
 have g:=fun k=>A6 k o.n
 have g2:=g 2
 have g6:=g 6
 have g4:=g 4
 have g7:=g 7
 have g8:=g 8
 unfold cD
 repeat' split
 all_goals try simp only [ByteArray.size_append]
 all_goals omega
end Go.Proofs.YtnhbidpdadkcjaaGreatDoor
