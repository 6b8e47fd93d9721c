import Derived.Test.YthcoegkfpinlfaaGreatDoorO33
set_option linter.unusedVariables false
set_option linter.unusedSimpArgs false
set_option maxRecDepth 100000
set_option maxHeartbeats 8000000
namespace Go.Proofs.YthcoegkfpinlfaaGreatDoor
open Go.RowKit
theorem one_sw (o:OpV) (hO:okO o) (hc:iS o=0):SW Tryz.prog ⟨none,0⟩ Tryz.f35.ntmps (Tryz.f35.body.getD .skip) ⟨0,aN 0 [tOp.enc o],[]⟩ (fa Tryz.prog Tryz.f35.results.toList (.ret (sv (ci o)))):=by
 refine aC (ctx:=[⟨_,LU⟩,⟨_,KY⟩,⟨_,N8⟩,⟨_,Jw⟩,⟨_,V5⟩,⟨_,Wj⟩,⟨_,N5⟩]) 4000 ?_
 rw [Tryz.ntmps35,Tryz.results35]
 simp only [Tryz.f35,Option.getD_some,aN]
 obtain ⟨hf,hp,hw⟩:=Kt hc
 obtain ⟨hb,hk⟩:=C1 hf
 have hR:=iU o.r
 have hV:=CE hO
 have ho:=DM hO
 have eV:(Ex.printF o.val).1=Ct o:=rfl
 obtain ⟨a,ha⟩:∃ a,lZ o.r=a:=⟨_,rfl⟩
 have ha':(cA o.r).1=a:=ha
 rcases hk with ⟨k1,hr,hA⟩ | ⟨k2,hA⟩ | k3 | ⟨hk,n0,n1⟩ | ⟨k5,hm⟩
 ·obtain ⟨⟨d0,d1⟩,a0,a1⟩:=KP hA
  have hq:o.md=0∨(cG 3 o.md).2=0∧0≤o.amt∧o.amt<100:=by
   by_cases z:o.md=0
   ·exact .inl z
   ·exact .inr ⟨O2 (by omega) d1,a0,a1⟩
  have hq2:o.md=0∨(cG 3 o.md).2=0:=hq.imp_right fun h=>h.1
  have fin:∀ s:Bool,(decide (5≤o.md)&&(o.amt==0))=s→ci o=a++mC o s:=fun s hs=>by
   unfold ci
   rw [if_pos k1,← hs,ha]
   rfl
  have hz:∀ s:Bool,a.size+(mC o s).size≤maxLen:=fun s=>by
   have:=me o s
   rw [ha'] at hR
   unfold maxLen
   omega
  by_cases g:5≤o.md
  ·cases hB:(o.amt==0) with
   | false =>
    rw [fin false (by rw [decide_eq_true g,hB];rfl)]
    simp only [go_sem,bk,opE,opD,bU,bT,cW,eq_true k1,d9,ef,cZ,ha',DW,DU,hq,g,hB,hz]
   | true =>
    rw [fin true (by rw [decide_eq_true g,hB];rfl)]
    simp only [go_sem,bk,opE,opD,bU,bT,cW,eq_true k1,d9,ef,cZ,ha',DW,DU,hq2,g,hB,hz]
  ·rw [fin false (by rw [decide_eq_false g];rfl)]
   simp only [go_sem,bk,opE,opD,bU,bT,cW,eq_true k1,d9,ef,cZ,ha',DW,DU,hq,g,hz]
 ·obtain ⟨⟨d0,d1⟩,a0,a1⟩:=KP hA
  have hq:o.md=0∨(cG 3 o.md).2=0∧0≤o.amt∧o.amt<100:=by
   by_cases z:o.md=0
   ·exact .inl z
   ·exact .inr ⟨O2 (by omega) (by omega),a0,a1⟩
  have q1:¬o.kind=1:=by omega
  have hz:(qg o).size+(mC o false).size≤maxLen:=by
   have h1:=me o false
   have h2:=CC hO
   unfold maxLen
   omega
  simp only [go_sem,bk,opE,opD,bU,bT,cW,q1,eq_true k2,ci]
  refine dc (ctx:=[⟨_,Wj⟩,⟨_,V5⟩]) mixed [] (by kernel_rfl) ?_
  simp only [go_sem,bk,opE,opD,bU,bT,cW,Sm,SK,DW,DU,hO,hq,hz]
 ·have q1:¬o.kind=1:=by omega
  have q2:¬o.kind=2:=by omega
  have z1:1+(Ct o).size≤maxLen:=by unfold maxLen;omega
  cases hA:Nr o
  ·have hA':(decide (o.val.plus=emp)&&decide (o.val.minus=emp))=false:=hA
   simp only [go_sem,bk,opE,opD,bU,bT,cW,q1,q2,eq_true k3,ci,hA,hA',Ff,G0,sg,r7,fN,iL,ho,eV,Bool.false_eq_true]
  ·have hA':(decide (o.val.plus=emp)&&decide (o.val.minus=emp))=true:=hA
   simp only [go_sem,bk,opE,opD,bU,bT,cW,q1,q2,eq_true k3,ci,hA,hA',Ff,G0,sg,r7,fN,iL,ho,eV,nm,z1]
 ·have q1:¬o.kind=1:=by omega
  have q2:¬o.kind=2:=by omega
  have q3:¬o.kind=3:=by omega
  rcases hk with h | h | h | h | h
  ·have e:(cG 2 o.n).2=0:=Qx n0 (by rw [h] at n1;exact n1)
   simp only [go_sem,bk,opE,opD,bU,bT,cW,q1,q2,q3,eq_true h,ci,sR,sX,e,true_or]
  ·have e:(cG 6 o.n).2=0:=Sa n0 (by rw [h] at n1;exact n1)
   have q4:¬o.kind=4:=by omega
   have q7:¬o.kind=7:=by omega
   simp only [go_sem,bk,opE,opD,bU,bT,cW,q1,q2,q3,q4,q7,eq_true h,ci,sR,sX,e,true_or]
  ·have e:0≤o.n∧o.n<100:=by
    rw [h] at n1
    have:Cs 7=15:=rfl
    omega
   have q4:¬o.kind=4:=by omega
   have q6:¬o.kind=6:=by omega
   simp only [go_sem,bk,opE,opD,bU,bT,cW,q1,q2,q3,q4,q6,eq_true h,ci,sR,sX,e,or_true,and_self]
  ·have e:0≤o.n∧o.n<100:=by
    rw [h] at n1
    have:Cs 8=31:=rfl
    omega
   have q4:¬o.kind=4:=by omega
   have q6:¬o.kind=6:=by omega
   have q7:¬o.kind=7:=by omega
   simp only [go_sem,bk,opE,opD,bU,bT,cW,q1,q2,q3,q4,q6,q7,eq_true h,ci,sR,sX,e,or_true,and_self]
  ·have e:0≤o.n∧o.n<100:=by
    rw [h] at n1
    have:Cs 9=5:=rfl
    omega
   have q4:¬o.kind=4:=by omega
   have q6:¬o.kind=6:=by omega
   have q7:¬o.kind=7:=by omega
   have q8:¬o.kind=8:=by omega
   simp only [go_sem,bk,opE,opD,bU,bT,cW,q1,q2,q3,q4,q6,q7,q8,eq_true h,ci,sR,sX,e,or_true,and_self]
 ·have q1:¬o.kind=1:=by omega
  have q2:¬o.kind=2:=by omega
  have q3:¬o.kind=3:=by omega
  have q4:¬o.kind=4:=by omega
  have q6:¬o.kind=6:=by omega
  have q7:¬o.kind=7:=by omega
  have q8:¬o.kind=8:=by omega
  have q9:¬o.kind=9:=by omega
  have eT:ci o=fE o:=by
   unfold ci
   rw [if_neg q1,if_neg q2,if_neg q3,if_neg q4,if_neg q6,if_neg q7,if_neg q8,if_neg q9]
  rw [eT]
  obtain ⟨m1,m2,m3⟩:=M4 hm
  have hM:=iU o.m
  have hL:=CC hO
  have hX:=me o (o.amt == -1)
  obtain ⟨b,hbb⟩:∃ b,lZ o.m=b:=⟨_,rfl⟩
  have hbb':(cA o.m).1=b:=hbb
  obtain ⟨l,hl⟩:∃ l,qg o=l:=⟨_,rfl⟩
  obtain ⟨y,hy⟩:∃ y,Ct o=y:=⟨_,rfl⟩
  obtain ⟨x,hx⟩:∃ x,mC o (o.amt == -1)=x:=⟨_,rfl⟩
  rw [ha'] at hR
  rw [hbb'] at hM
  rw [hl] at hL
  rw [hx] at hX
  rw [hy] at hV
  have z1:1+a.size≤maxLen:=by unfold maxLen;omega
  have z2:1+a.size+2≤maxLen:=by unfold maxLen;omega
  have z3:1+a.size+2+l.size≤maxLen:=by unfold maxLen;omega
  have z5:1+a.size+3≤maxLen:=by unfold maxLen;omega
  have z6:1+a.size+3+y.size≤maxLen:=by unfold maxLen;omega
  have z6':1+a.size+3+y.size+2≤maxLen:=by unfold maxLen;omega
  have z7:1+a.size+2+b.size≤maxLen:=by unfold maxLen;omega
  have z8:1+a.size+2+b.size+1≤maxLen:=by unfold maxLen;omega
  have z9:1+a.size+2+b.size+x.size≤maxLen:=by unfold maxLen;omega
  have z10:1+a.size+2+b.size+x.size+1≤maxLen:=by unfold maxLen;omega
  have z11:1+a.size+1≤maxLen:=by unfold maxLen;omega
  have z12:1+a.size+2+l.size+1≤maxLen:=by unfold maxLen;omega
  have z13:1+a.size+4≤maxLen:=by unfold maxLen;omega
  have z14:1+a.size+4+y.size≤maxLen:=by unfold maxLen;omega
  by_cases e1:o.mode=1
  ·have hlo:=VQ hb k5 (.inl e1)
   have eM:fE o=⟨#[91]⟩++a++⟨#[44,32,35]⟩++y++⟨#[93,33]⟩:=by
    unfold fE qg
    rw [if_pos e1,if_neg (by rw [hlo];simp),ha,hy,Yq]
    rfl
   rw [eM]
   simp only [go_sem,bk,opE,opD,bU,bT,cW,q1,q2,q3,q4,q6,q7,q8,q9,d9,ef,cZ,ha',sg,r7,fN,iL,ho,eV,hy,eq_true e1,z1,z5,z6,z6']
  by_cases e2:o.mode=2
  ·have hlo:=VQ hb k5 (.inr e2)
   have eM:fE o=⟨#[91]⟩++a++⟨#[93,44,32,35]⟩++y:=by
    unfold fE qg
    rw [if_neg e1,if_pos e2,if_neg (by rw [hlo];simp),ha,hy,Ym]
    rfl
   rw [eM]
   simp only [go_sem,bk,opE,opD,bU,bT,cW,q1,q2,q3,q4,q6,q7,q8,q9,d9,ef,cZ,ha',sg,r7,fN,iL,ho,eV,hy,e1,eq_true e2,z1,z13,z14]
  by_cases e3:o.mode=3
  ·have hi:iY o=true:=by
    rcases m3 with h | h | h | h
    ·omega
    ·omega
    ·omega
    ·exact h.2
   have hamt:=P8 hi
   have hmd:=aak hi
   have hnm:=O2 hmd.1 hmd.2
   by_cases e4:o.amt<0
   ·have e4':o.amt = -1:=by omega
    have e6:(o.amt == -1)=true:=by rw [beq_iff_eq];exact e4'
    rw [e6] at hx
    by_cases e5:o.md=1
    ·have eM:fE o=⟨#[91]⟩++a++⟨#[44,32]⟩++b++⟨#[93]⟩:=by
      unfold fE
      rw [if_neg e1,if_neg e2,if_pos e3,if_pos ⟨e5,e4'⟩,ha,hbb]
      rfl
     rw [eM]
     simp only [go_sem,bk,opE,opD,bU,bT,cW,q1,q2,q3,q4,q6,q7,q8,q9,d9,ef,cZ,ha',hbb',e1,e2,eq_true e3,e4,eq_true e5,z1,z2,z7,z8]
    ·have eM:fE o=⟨#[91]⟩++a++⟨#[44,32]⟩++b++x++⟨#[93]⟩:=by
      unfold fE
      rw [if_neg e1,if_neg e2,if_pos e3,if_neg (fun h=>e5 h.1),ha,hbb,e6,hx]
      rfl
     rw [eM]
     simp only [go_sem,bk,opE,opD,bU,bT,cW,q1,q2,q3,q4,q6,q7,q8,q9,d9,ef,cZ,ha',hbb',e1,e2,eq_true e3,e4,e5,DW,DU,hnm,hx,true_and,true_or,or_true,z1,z2,z7,z9,z10]
   ·have hq:0≤o.amt∧o.amt<100:=by omega
    have e6:(o.amt == -1)=false:=by rw [beq_eq_false_iff_ne];omega
    rw [e6] at hx
    have eM:fE o=⟨#[91]⟩++a++⟨#[44,32]⟩++b++x++⟨#[93]⟩:=by
     unfold fE
     rw [if_neg e1,if_neg e2,if_pos e3,if_neg (fun h=>by omega),ha,hbb,e6,hx]
     rfl
    rw [eM]
    by_cases e5:o.md=1
    ·simp only [go_sem,bk,opE,opD,bU,bT,cW,q1,q2,q3,q4,q6,q7,q8,q9,d9,ef,cZ,ha',hbb',e1,e2,eq_true e3,e4,eq_true e5,DW,DU,hnm,hq,hx,true_and,true_or,or_true,z1,z2,z7,z9,z10]
    ·simp only [go_sem,bk,opE,opD,bU,bT,cW,q1,q2,q3,q4,q6,q7,q8,q9,d9,ef,cZ,ha',hbb',e1,e2,eq_true e3,e4,e5,DW,DU,hnm,hq,hx,true_and,true_or,or_true,z1,z2,z7,z9,z10]
  have e0:o.mode=0:=by
   rcases m3 with h | h | h | h
   ·exact h
   ·exact absurd h e1
   ·exact absurd h e2
   ·exact absurd h.1 e3
  cases hA:aloneM o
  ·have eM:fE o=⟨#[91]⟩++a++⟨#[44,32]⟩++l++⟨#[93]⟩:=by
    unfold fE
    rw [if_neg e1,if_neg e2,if_neg e3,if_neg,ha,hl]
    ·rfl
    ·rintro ⟨⟨h1,h2,h3⟩,h4⟩
     unfold aloneM at hA
     rw [k5,e0,decide_eq_true h1,decide_eq_true h2,decide_eq_true h3,h4] at hA
     cases hA
   rw [eM]
   simp only [go_sem,bk,opE,opD,bU,bT,cW,q1,q2,q3,q4,q6,q7,q8,q9,d9,ef,cZ,ha',e1,e2,e3,D6,DY,hA,Sm,SK,hO,hl,z1,z2,z3,z12]
  ·have eM:fE o=⟨#[91]⟩++a++⟨#[93]⟩:=by
    unfold aloneM at hA
    simp only [Bool.and_eq_true,decide_eq_true_eq,Bool.not_eq_true'] at hA
    unfold fE
    rw [if_neg e1,if_neg e2,if_neg e3,if_pos ⟨⟨hA.2.2.1.1,hA.2.2.1.2.1,hA.2.2.1.2.2⟩,hA.2.2.2⟩,ha]
    rfl
   rw [eM]
   simp only [go_sem,bk,opE,opD,bU,bT,cW,q1,q2,q3,q4,q6,q7,q8,q9,d9,ef,cZ,ha',e1,e2,e3,D6,DY,hA,z1,z11]
def oneS:cK Tryz.prog 35 :=
 mk1 _ _ _ Tryz.func35 rfl (fun _ _=>by go_simp) (tOp) ((fun o=>okO o∧iS o=0)) ((fun o=>.ret (sv (ci o)))) (by rw [Tryz.ntmps35];decide) (fun o h=>one_sw o h.1 h.2)
theorem NV {id:Nat} {h:aF} {args:List AV}:(oneS).run id h args=be (aV (tOp) ((fun o=>okO o∧iS o=0))) ((fun o=>.ret (sv (ci o)))) h args:=rfl
theorem Oc {id:Nat} {h:aF} {args:List AV}:(oneS).pan id h args=bi (aV (tOp) ((fun o=>okO o∧iS o=0))) ((fun o=>.ret (sv (ci o)))) h args:=rfl
end Go.Proofs.YthcoegkfpinlfaaGreatDoor
