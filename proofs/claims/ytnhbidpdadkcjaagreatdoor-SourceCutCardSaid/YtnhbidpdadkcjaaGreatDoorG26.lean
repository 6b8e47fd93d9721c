import Derived.Test.YtnhbidpdadkcjaaGreatDoorG24
import Derived.Test.YtnhbidpdadkcjaaGreatDoorG25
import Derived.Shelf.Strings.OnBuilder
open Go.RowKit
set_option linter.unusedVariables false
set_option linter.unusedSimpArgs false
set_option maxRecDepth 100000
set_option maxHeartbeats 8000000
namespace Go.Proofs.YtnhbidpdadkcjaaGreatDoor
open Tryz
theorem zL {r:gO}(h:¬(aH r).2=0):(aH r).1=emp:=by
 unfold aH at h ⊢;by_cases c:r.n<0∨31<r.n∨(r.sp=true∧¬r.n=31)
 ·rw[if_pos c]
 ·exfalso;apply h;rw[if_neg c]
  repeat' split
  all_goals rfl
theorem fq (r:gO):(aH r).1.size≤4:=by
 have h1:=qG r.n;unfold aH
 repeat' split
 all_goals first
  |decide
  |(simp only[ByteArray.size_append];first | (have:xS.size=1:=rfl;omega) | (have:wS.size=1:=rfl;omega))
theorem qx (k n:Int):(aK k n).1.size≤40:=by
 by_cases h:(aK k n).2=0
 ·have e:aK k n=((aK k n).1,0):=by rw[←h]
  exact(there e).2.2
 ·have:(aK k n).1=emp:=by
   unfold aK at h ⊢
   repeat' split
   all_goals first
    |rfl
    |(rename_i h1 h2;exact zL (by simpa[h1,h2] using h))
    |(exfalso;apply h;simp_all)
  rw[this]
  decide
theorem nh (n:Int):(oH n).size≤20:=Ex.decS_size _
theorem BU (v:Val):(Ex.printF v).1.size≤v.plus.size+v.minus.size+30:=by
 have h1:=Ex.decS_size v.add.toNat;have h2:=Ex.signS_size v.add;have h3:emp.size=0:=rfl;have h4:(⟨#[48]⟩:ByteArray).size=1:=rfl;have h5:(⟨#[45]⟩:ByteArray).size=1:=rfl;unfold Ex.printF
 repeat' split
 all_goals simp only[ByteArray.size_append]
 all_goals omega
theorem nQ {o:OpV}(h:okO o):(mR o).size≤2199023255582:=by
 have:=BU o.val;obtain⟨⟨h1,h2⟩,-⟩:=h;have e1:o.val.plus.size=o.plus.size:=rfl;have e2:o.val.minus.size=o.minus.size:=rfl;unfold mR prO;omega
theorem nk {o:OpV}(h:okO o):(lC o).size≤2199023255590:=by
 have:=nQ h;have h4:FE.size=6:=rfl;have h5:cL.size=1:=rfl;unfold lC;split<;>simp only[ByteArray.size_append]<;>omega
theorem jo (o:OpV)(s:Bool):(kQ o s).size≤64:=by
 have h1:=qx 3 o.md;have h2:=nh o.amt;have h3:emp.size=0:=rfl;have h4:eO.size=2:=rfl;have h5:zT.size=2:=rfl;unfold kQ
 repeat' split
 all_goals try simp only[ByteArray.size_append]
 all_goals omega
abbrev Ti:am prog 171 :=
 mz1 func171 (tOp) (okO) ((fun o=>.ret (sv (lC o)))) (asP fun o h=>by
 refine aq [⟨_,Mw⟩] rfl ?_;have ho:=sR h;have hz:=nQ h;unfold mR prO at hz;have z1:1+(Ex.printF o.val).1.size≤maxLen:=by unfold maxLen;omega
 have z2:6+(Ex.printF o.val).1.size≤maxLen:=by unfold maxLen;omega
 cases g:o.lo
 ·simp only[go_sem,ap,opE,g,fH,zl,ho,lC,cL,mR,prO,z1]
 ·simp only[go_sem,ap,opE,g,fH,zl,ho,lC,FE,mR,prO,z2])
abbrev Hs:am prog 170 :=
 mz2 func170 (tOp) (PT) ((fun o s=>o.md=0∨s=true∨0≤o.amt∧o.amt<100)) ((fun o s=>.ret (sv (kQ o s)))) (asP fun o s h=>by
 refine aq [⟨_,vX⟩,⟨_,Ta⟩] rfl ?_;have hn:=qx 3 o.md;have hi:=nh o.amt;have z1:2+(aK 3 o.md).1.size≤maxLen:=by unfold maxLen;omega
 have z2:2+(aK 3 o.md).1.size+2≤maxLen:=by unfold maxLen;omega
 have z3:2+(aK 3 o.md).1.size+2+(oH o.amt).size≤maxLen:=by unfold maxLen;omega
 by_cases g:o.md=0
 ·simp only[go_sem,ap,opE,eq_true g,kQ,ak]
 cases s
 ·have h2:0≤o.amt∧o.amt<100:=by
   rcases h with h | h | h
   ·exact absurd h g
   ·cases h
   ·exact h
  simp only[go_sem,ap,opE,g,g8,ek,eQ,h2,kQ,eO,zT,z1,z2,z3]
 ·simp only[go_sem,ap,opE,g,g8,ek,eQ,kQ,eO,z1])
abbrev QD:am prog 173 :=
 mz2 func173 (bq .i64) (bq .i64) ((fun k n=>(aK k n).2=0∨0≤n∧n<100)) ((fun k n=>.ret (sv (gd k n)))) (asP fun k n h=>by
 refine aq [⟨_,vX⟩,⟨_,Uz⟩] rfl ?_;by_cases g:(aK k n).2=0
 ·simp only[go_sem,g8,ek,eQ,eq_true g,gd]
 ·have h2:0≤n∧n<100:=h.resolve_left g;have hi:=nh n;have z1:1+(oH n).size≤maxLen:=by unfold maxLen;omega
  simp only[go_sem,g8,ek,eQ,g,h2,gd,cL,z1])
theorem jH {o:OpV}(h:gT o=0):kh o=true∧(prO o).2=0∧(o.kind=3→o.plus=emp∨ke 3 o.plus=false):=by
 unfold gT at h;split at h
 ·cases h
 rename_i h1;split at h
 ·rename_i h2;exact absurd h h2
 rename_i h2;split at h
 ·cases h
 rename_i h3;refine⟨by simpa using h1,by simpa using h2,fun hk=>?_⟩;by_cases e:o.plus=emp
 ·exact .inl e
 ·cases hw:ke 3 o.plus
  ·exact .inr rfl
  ·exact absurd ⟨hk,e,hw⟩ h3
theorem py {o:OpV}{m:Int}(h:ez o m=true):(0≤o.md∧o.md≤m)∧0≤o.amt∧o.amt<100:=by
 unfold ez at h;rw[decide_eq_true_eq]at h;omega
theorem jJ {o:OpV}(h:kh o=true):kH o=o∧((o.kind=1∧lc o.r=true∧ez o 12=true)∨(o.kind=2∧ez o 1=true)∨o.kind=3∨((o.kind=4∨o.kind=6∨o.kind=7∨o.kind=8∨o.kind=9)∧0≤o.n∧o.n≤kR o.kind)∨(o.kind=5∧fe o=true)):=by
 unfold kh at h;split at h
 ·cases h
 rename_i h0;refine⟨by simpa using h0,?_⟩;split at h
 ·rename_i h1;rw[Bool.and_eq_true]at h;exact .inl ⟨h1,h⟩
 split at h
 ·rename_i h1;exact .inr (.inl ⟨h1,h⟩)
 split at h
 ·rename_i h1;exact .inr (.inr (.inl h1))
 split at h
 ·rename_i h1;rw[Bool.and_eq_true,decide_eq_true_eq,decide_eq_true_eq]at h;exact .inr (.inr (.inr (.inl ⟨h1,h⟩)))
 split at h
 ·rename_i h1;exact .inr (.inr (.inr (.inr ⟨h1,h⟩)))
 ·cases h
theorem yc {o:OpV}(h:fe o=true):lc o.r=true∧o.r.x=true∧(o.mode=0∨o.mode=1∨o.mode=2∨(o.mode=3∧dy o=true)):=by
 unfold fe at h;simp only[Bool.and_eq_true,decide_eq_true_eq,Bool.or_eq_true]at h;obtain⟨⟨⟨⟨⟨h1,h2⟩,h3⟩,h4⟩,h5⟩,h6⟩:=h;refine⟨h1,h2,?_⟩;rcases h6 with h6 | h6
 ·omega
 ·by_cases e:o.mode=3
  ·exact .inr (.inr (.inr ⟨e,h6⟩))
  ·omega
theorem G8 {o:OpV}(h:dy o=true) : -1≤o.amt∧o.amt<100:=by
 unfold dy at h;split at h
 ·cases h
 ·rename_i h1;simp only[not_or]at h1;omega
theorem yg {n:Int}(h0:0≤n)(h1:n≤15):(aK 2 n).2=0:=by
 have:∀k:Fin 16,(aK 2 (k.val:Int)).2=0:=by decide +kernel
 have:=this ⟨n.toNat,by omega⟩
 rwa [show(((⟨n.toNat,by omega⟩:Fin 16).val:Nat):Int)=n by simp only;omega]at this
theorem Bz {n:Int}(h0:0≤n)(h1:n≤32767):(aK 6 n).2=0:=by
 unfold aK;rw[if_neg (by decide)];split
 ·rfl
 ·rw[if_pos ⟨rfl,h0,by omega⟩]
theorem Qz (o:OpV)(hO:okO o)(hm:fe o=true):Sw f174 0 ⟨0,ax 0 [tOp.enc o],[]⟩ (oQ f174 (.ret (sv (jd o)))):=by
 refine aq [⟨_,BZ⟩,⟨_,Ti⟩,⟨_,Hs⟩] rfl ?_;obtain⟨m1,m2,m3⟩:=yc hm;have hR:=fq o.r;have hM:=fq o.m;have hL:=nk hO;have hX:=jo o (o.amt == -1);obtain⟨a,ha⟩:∃a,fj o.r=a:=⟨_,rfl⟩;obtain⟨b,hb⟩:∃b,fj o.m=b:=⟨_,rfl⟩;obtain⟨l,hl⟩:∃l,lC o=l:=⟨_,rfl⟩;obtain⟨x,hx⟩:∃x,kQ o (o.amt == -1)=x:=⟨_,rfl⟩;rw[show(aH o.r).1=a from ha]at hR;rw[show(aH o.m).1=b from hb]at hM;rw[hl]at hL;rw[hx]at hX;have z1:1+a.size≤maxLen:=by unfold maxLen;omega
 have z2:1+a.size+2≤maxLen:=by unfold maxLen;omega
 have z3:1+a.size+2+l.size≤maxLen:=by unfold maxLen;omega
 have z4:1+a.size+2+l.size+2≤maxLen:=by unfold maxLen;omega
 have z5:1+a.size+3≤maxLen:=by unfold maxLen;omega
 have z6:1+a.size+3+l.size≤maxLen:=by unfold maxLen;omega
 have z7:1+a.size+2+b.size≤maxLen:=by unfold maxLen;omega
 have z8:1+a.size+2+b.size+1≤maxLen:=by unfold maxLen;omega
 have z9:1+a.size+2+b.size+x.size≤maxLen:=by unfold maxLen;omega
 have z10:1+a.size+2+b.size+x.size+1≤maxLen:=by unfold maxLen;omega
 have z11:1+a.size+1≤maxLen:=by unfold maxLen;omega
 have z12:1+a.size+2+l.size+1≤maxLen:=by unfold maxLen;omega
 by_cases e1:o.mode=1
 ·simp only[go_sem,ap,opE,opD,aO,aN,nC,hO,jd,ha,hl,brS,eO,NL,eq_true e1,z1,z2,z3,z4]
 by_cases e2:o.mode=2
 ·simp only[go_sem,ap,opE,opD,aO,aN,nC,hO,jd,ha,hl,brS,NM,e1,eq_true e2,z1,z5,z6]
 by_cases e3:o.mode=3
 ·have hi:dy o=true:=by
   rcases m3 with h | h | h | h
   ·omega
   ·omega
   ·omega
   ·exact h.2
  have hamt:=G8 hi;by_cases e4:o.amt = -1
  ·by_cases e5:o.md=1
   ·simp only[go_sem,ap,opE,opD,aO,aN,nC,jd,ha,hb,brS,eO,ekS,e1,e2,eq_true e3,eq_true e4,eq_true e5,z1,z2,z7,z8]
   ·simp only[go_sem,ap,opE,opD,aO,aN,nC,jd,ha,hb,e1,e2,eq_true e3,eq_true e4,e5,z1,false_and];refine sD mixed [⟨_,BZ⟩,⟨_,Hs⟩] [] ?_;simp only[go_sem,ap,opE,opD,aO,aN,nC,ha,hb,hx,brS,eO,ekS,eq_true e4,z2,z7,z9,z10]
  ·have hq:0≤o.amt∧o.amt<100:=by omega
   by_cases e5:o.md=1
   ·skip
    simp only[go_sem,ap,opE,opD,aO,aN,nC,jd,ha,hb,e1,e2,eq_true e3,e4,eq_true e5,z1,and_false];refine sD mixed [⟨_,BZ⟩,⟨_,Hs⟩] [] ?_;simp only[go_sem,ap,opE,opD,aO,aN,nC,ha,hb,hx,brS,eO,ekS,e4,hq,z2,z7,z9,z10]
   ·skip
    simp only[go_sem,ap,opE,opD,aO,aN,nC,jd,ha,hb,e1,e2,eq_true e3,e4,e5,z1,and_false,false_and];refine sD mixed [⟨_,BZ⟩,⟨_,Hs⟩] [] ?_;simp only[go_sem,ap,opE,opD,aO,aN,nC,ha,hb,hx,brS,eO,ekS,e4,hq,z2,z7,z9,z10]
 by_cases v1:o.add=0
 case neg=>simp only[go_sem,ap,opE,opD,aO,aN,nC,hO,jd,ha,hl,brS,eO,ekS,e1,e2,e3,fp,ky,eU,iG,fN,v1,Bool.false_and,false_and,z1,z2,z3,z12]
 by_cases v2:o.plus=emp
 case neg=>simp only[go_sem,ap,opE,opD,aO,aN,nC,hO,jd,ha,hl,brS,eO,ekS,e1,e2,e3,fp,ky,eU,iG,fN,ak,eq_true v1,v2,Bool.false_and,false_and,and_false,z1,z2,z3,z12]
 by_cases v3:o.minus=emp
 case neg=>simp only[go_sem,ap,opE,opD,aO,aN,nC,hO,jd,ha,hl,brS,eO,ekS,e1,e2,e3,fp,ky,eU,iG,fN,ak,eq_true v1,eq_true v2,v3,Bool.false_and,false_and,and_false,z1,z2,z3,z12]
 cases v4:o.lo
 ·simp only[go_sem,ap,opE,opD,aO,aN,nC,jd,ha,hl,brS,ekS,e1,e2,e3,fp,ky,eU,iG,fN,ak,eq_true v1,eq_true v2,eq_true v3,v4,z1,z11]
 ·have eL:(⟨o.kind,o.r,o.m,o.md,o.amt,o.n,o.add,o.plus,o.minus,true,o.mode⟩:OpV)=o:=by rw[←v4]
  simp only[go_sem,ap,opE,opD,aO,aN,nC,hO,jd,ha,hl,brS,eO,ekS,e1,e2,e3,fp,ky,eU,iG,fN,ak,eq_true v1,eq_true v2,eq_true v3,v4,eL,and_false,z1,z2,z3,z12]
abbrev UC:am prog 174 :=
 mz1 func174 (tOp) ((fun o=>okO o∧fe o=true)) ((fun o=>.ret (sv (jd o)))) (asP fun o h=>Qz o h.1 h.2)
theorem Si (o:OpV)(hO:okO o)(hc:gT o=0):Sw f127 0 ⟨0,ax 0 [tOp.enc o],[]⟩ (oQ f127 (.ret (sv (bG o)))):=by
 refine aq [⟨_,JC⟩,⟨_,Mw⟩,⟨_,QD⟩,⟨_,UC⟩] rfl ?_;obtain⟨hf,hp,hw⟩:=jH hc;obtain⟨hb,hk⟩:=jJ hf;have hR:=fq o.r;have hV:=nQ hO;have ho:=sR hO;rcases hk with ⟨k1,hr,ha⟩ | ⟨k2,ha⟩ | k3 | ⟨hk,n0,n1⟩ | ⟨k5,hm⟩
 ·obtain⟨-,a0,a1⟩:=py ha;have hq:0≤o.amt∧o.amt<100:=⟨a0,a1⟩
  have fin:∀s:Bool,(decide (5≤o.md)&&(o.amt==0))=s→bG o=fj o.r++kQ o s:=fun s hs=>by
   unfold bG;rw[if_pos k1,←hs];rfl
  have hz:∀s:Bool,(fj o.r).size+(kQ o s).size≤maxLen:=fun s=>by
   have:=jo o s;have e:(fj o.r).size≤4:=hR;unfold maxLen;omega
  simp only[go_sem,ap,opE,eq_true k1];refine sD mixed [⟨_,BZ⟩,⟨_,Hs⟩] [] ?_;by_cases g:5≤o.md
  ·cases hB:(o.amt==0) with
   |false =>
    rw[fin false (by rw[decide_eq_true g,hB];rfl)];simp only[go_sem,ap,opE,opD,aO,aN,nC,hq,g,hB,hz]
   |true =>
    rw[fin true (by rw[decide_eq_true g,hB];rfl)];simp only[go_sem,ap,opE,opD,aO,aN,nC,hq,g,hB,hz]
  ·rw[fin false (by rw[decide_eq_false g];rfl)];simp only[go_sem,ap,opE,opD,aO,aN,nC,hq,g,hz]
 ·obtain⟨-,a0,a1⟩:=py ha;have hq:0≤o.amt∧o.amt<100:=⟨a0,a1⟩;have q1:¬o.kind=1:=by omega
  have hz:(lC o).size+(kQ o false).size≤maxLen:=by
   have h1:=jo o false;have h2:=nk hO;unfold maxLen;omega
  simp only[go_sem,ap,opE,q1,eq_true k2,bG];refine sD mixed [⟨_,Ti⟩,⟨_,Hs⟩] [] ?_;simp only[go_sem,ap,opE,opD,aO,aN,hO,hq,hz]
 ·have q1:¬o.kind=1:=by omega
  have q2:¬o.kind=2:=by omega
  have z1:1+(mR o).size≤maxLen:=by unfold maxLen;omega
  have eV:(Ex.printF o.val).1=mR o:=rfl;cases hA:qf o
  ·have hA':(decide (o.val.plus=emp)&&decide (o.val.minus=emp))=false:=hA;simp only[go_sem,ap,opE,q1,q2,eq_true k3,bG,hA,hA',fH,zl,ho,eV]
  ·have hA':(decide (o.val.plus=emp)&&decide (o.val.minus=emp))=true:=hA;simp only[go_sem,ap,opE,q1,q2,eq_true k3,bG,hA,hA',fH,zl,ho,eV,cL,z1]
 ·have q1:¬o.kind=1:=by omega
  have q2:¬o.kind=2:=by omega
  have q3:¬o.kind=3:=by omega
  rcases hk with h | h | h | h | h
  ·have e:(aK 2 o.n).2=0:=yg n0 (by rw[h]at n1;exact n1);simp only[go_sem,ap,opE,q1,q2,q3,eq_true h,bG,e]
  ·have e:(aK 6 o.n).2=0:=Bz n0 (by rw[h]at n1;exact n1);have q4:¬o.kind=4:=by omega
   simp only[go_sem,ap,opE,q1,q2,q3,q4,eq_true h,bG,e]
  ·have e:0≤o.n∧o.n<100:=by
    rw[h]at n1;have:kR 7=15:=rfl;omega
   have q4:¬o.kind=4:=by omega
   have q6:¬o.kind=6:=by omega
   simp only[go_sem,ap,opE,q1,q2,q3,q4,q6,eq_true h,bG,e]
  ·have e:0≤o.n∧o.n<100:=by
    rw[h]at n1;have:kR 8=31:=rfl;omega
   have q4:¬o.kind=4:=by omega
   have q6:¬o.kind=6:=by omega
   have q7:¬o.kind=7:=by omega
   simp only[go_sem,ap,opE,q1,q2,q3,q4,q6,q7,eq_true h,bG,e]
  ·have e:0≤o.n∧o.n<100:=by
    rw[h]at n1;have:kR 9=5:=rfl;omega
   have q4:¬o.kind=4:=by omega
   have q6:¬o.kind=6:=by omega
   have q7:¬o.kind=7:=by omega
   have q8:¬o.kind=8:=by omega
   simp only[go_sem,ap,opE,q1,q2,q3,q4,q6,q7,q8,eq_true h,bG,e]
 ·have q1:¬o.kind=1:=by omega
  have q2:¬o.kind=2:=by omega
  have q3:¬o.kind=3:=by omega
  have q4:¬o.kind=4:=by omega
  have q6:¬o.kind=6:=by omega
  have q7:¬o.kind=7:=by omega
  have q8:¬o.kind=8:=by omega
  have q9:¬o.kind=9:=by omega
  simp only[go_sem,ap,opE,opD,aO,aN,q1,q2,q3,q4,q6,q7,q8,q9,bG,hO,hm]
abbrev U0:am prog 127 :=
 mz1 func127 (tOp) ((fun o=>okO o∧gT o=0)) ((fun o=>.ret (sv (bG o)))) (asP fun o h=>Si o h.1 h.2)
section
open Go.RowKit Go.Shelf
def FL:Ren:=⟨fun k=>if k=156 then 41 else if k=165 then 94 else if k=166 then 64 else if k=169 then 66 else if k=240 then 129 else if k=241 then 146 else if k=276 then 176 else if k=277 then 191 else k,
 fun k=>if k=0 then 0 else if k=3 then 3 else if k=4 then 4 else if k=5 then 5 else if k=9 then 9 else if k=20 then 20 else if k=31 then 34 else if k=37 then 39 else if k=70 then 104 else if k=72 then 106 else if k=75 then 109 else if k=76 then 110 else if k=80 then 113 else if k=127 then 160 else if k=164 then 193 else k,
 fun k=>k⟩
theorem PE:Go.Proofs.Lays.n156 prog FL where
 mixed:=by kernel_rfl
 f156:=by kernel_rfl
 f165:=by kernel_rfl
 f166:=by kernel_rfl
 f169:=by kernel_rfl
 f240:=by kernel_rfl
 f241:=by kernel_rfl
 f276:=by kernel_rfl
 f277:=by kernel_rfl
 t0:=by kernel_rfl
 a0:=fun w=>by kernel_rfl
 z0:=fun w=>by kernel_rfl
 v0:=fun w=>by kernel_rfl
 t3:=by kernel_rfl
 a3:=fun w=>by kernel_rfl
 z3:=fun w=>by kernel_rfl
 v3:=fun w=>by kernel_rfl
 t4:=by kernel_rfl
 a4:=fun w=>by kernel_rfl
 z4:=fun w=>by kernel_rfl
 v4:=fun w=>by kernel_rfl
 t9:=by kernel_rfl
 a9:=fun w=>by kernel_rfl
 z9:=fun w=>by kernel_rfl
 v9:=fun w=>by kernel_rfl
 t20:=by kernel_rfl
 a20:=fun w=>by kernel_rfl
 z20:=fun w=>by kernel_rfl
 v20:=fun w=>by kernel_rfl
 t31:=by kernel_rfl
 a31:=fun w=>by kernel_rfl
 z31:=fun w=>by kernel_rfl
 v31:=fun w=>by kernel_rfl
 t37:=by kernel_rfl
 a37:=fun w=>by kernel_rfl
 z37:=fun w=>by kernel_rfl
 v37:=fun w=>by kernel_rfl
 t70:=by kernel_rfl
 a70:=fun w=>by kernel_rfl
 z70:=fun w=>by kernel_rfl
 v70:=fun w=>by kernel_rfl
 t72:=by kernel_rfl
 a72:=fun w=>by kernel_rfl
 z72:=fun w=>by kernel_rfl
 v72:=fun w=>by kernel_rfl
 t75:=by kernel_rfl
 a75:=fun w=>by kernel_rfl
 z75:=fun w=>by kernel_rfl
 v75:=fun w=>by kernel_rfl
 t76:=by kernel_rfl
 a76:=fun w=>by kernel_rfl
 z76:=fun w=>by kernel_rfl
 v76:=fun w=>by kernel_rfl
 t127:=by kernel_rfl
 a127:=fun w=>by kernel_rfl
 z127:=fun w=>by kernel_rfl
 v127:=fun w=>by kernel_rfl
 t164:=by kernel_rfl
 a164:=fun w=>by kernel_rfl
 z164:=fun w=>by kernel_rfl
 v164:=fun w=>by kernel_rfl
theorem jnX:Go.Proofs.Builder.Extra prog FL where
 sizeBuilder:=by kernel_rfl
 liesBuilder:=by kernel_rfl
 t5:=by kernel_rfl
 a5:=fun w=>by kernel_rfl
 z5:=fun w=>by kernel_rfl
 v5:=fun w=>by kernel_rfl
 infoByte:=by kernel_rfl
 cellsByte:=by kernel_rfl
 sizeByte:=by kernel_rfl
 neB5:=by decide
abbrev wQ:Ty (List ByteArray):=tSl 1 jr
def Bg (l:List ByteArray)(p:ByteArray):ByteArray:=⟨(Lib.join (l.map (·.data.toList)) p.data.toList).toArray⟩
abbrev U4:am prog 41 :=
 Bv _ (asP fun _ _=>by go_simp) wQ aT (fun l p=>l.length≤1000000∧(Bg l p).size≤140737488355328) (fun l p=>sv (Bg l p)) (asP fun _ _=>rfl) (asP fun l p hq M w u v hM hu hv=>by
  have hv':v=.string p:=hv;subst hv';have hu':DRep M (.sd 1 (l.map jr.enc)) u:=hu;simp only[DRep]at hu';obtain⟨A,cap,rfl,hc,hA⟩:=hu';rw[List.length_map]at hc ⊢
  have hz:(Lib.join (l.map (·.data.toList)) p.data.toList).length≤140737488355328:=by
   have:=hq.2;unfold Bg at this;simpa[ByteArray.size] using this
  cases l with
  |nil =>
   refine(Any.strings_Join_none (ρ:=FL) PE jnX A cap p w).mono fun e w' ⟨he,hw⟩=>⟨⟨_,he,rfl⟩,hw▸Below.refl _ _⟩
  |cons x r =>
   obtain⟨blk,off,rfl,hat⟩:=hA (by simp)
   have e:(x::r).map jr.enc=((x::r).map fun s=>[Value.string s]).map fun e=>e.map D.v:=by
    rw[List.map_map];rfl
   rw[e]at hat;have hg:=sy hat
   have hf:((x::r).map fun s=>[Value.string s]).flatten=(x::r).map Value.string:=by
    rw[←List.flatMap_def]
    induction (x::r) with
    |nil=>rfl
    |cons a t ih=>rw[List.flatMap_cons,ih];rfl
   rw[hf]at hg;have hcell:∀(j:Nat) y,(x::r)[j]? = some y→w.cell? ⟨blk,off+j,none⟩=some (.string y):=fun j y hj=>hM _ _ _ (hg j _ (by rw[List.getElem?_map,hj];rfl))
   have hblk:blk<w.heap.size:=by
    obtain⟨q,h1,_⟩:=fO (hcell 0 x rfl);exact(Array.getElem?_eq_some_iff.1 h1).1
   refine(Any.strings_Join (ρ:=FL) PE jnX blk off cap (x::r) p w hcell hblk (by have:=hq.1;omega) hc hz).mono fun e w' ⟨he,hw⟩=>⟨⟨_,he,rfl⟩,hw⟩)
def mz:List ByteArray→ByteArray
 |[]=>emp
 |x::r=>r.foldl (fun a y=>a++eO++y) x
end
def uz (s:ByteArray):Bool:=decide (0≤Lib.indexByte s.data.toList 44)
abbrev Gy:am prog 128 :=
 mz2 func128 (aT) (aT) ((fun _ p=>p.size=1)) ((fun s p=>.ret (bv (decide (0≤Lib.indexByte s.data.toList (hdU p)))))) (asP fun s p hp=>by
 refine aq [⟨_,DN⟩] rfl ?_;simp only[go_sem,hp])
abbrev vA:am prog 47 :=
 mz2 func47 (aT) (aT) ((fun _ _=>True)) ((fun s p=>.ret (bv (bY s p)))) (asP fun s p _=>by
 refine aq [⟨_,oG⟩] rfl ?_;simp only[go_sem,cw,cv])
def ou:List OpV→Int
 |[]=>0
 |o::r=>if gT o=0 then ou r else gT o
theorem xG:∀{l:List OpV} {i:Nat} {o:OpV},(∀j p,j<i→l[j]? = some p→gT p=0)→l[i]? = some o→¬gT o=0→ou l=gT o
 |[],i,o,_,h,_=>by cases h
 |x::l,0,o,_,h,hc=>by
  injection h with h;subst h;rw[ou,if_neg hc]
 |x::l,i+1,o,hn,h,hc=>by
  rw[ou,if_pos (hn 0 x (Nat.zero_lt_succ _) rfl)];exact xG (i:=i) (fun j p hj hp=>hn (j+1) p (by omega) (by simpa using hp)) (by simpa using h) hc
theorem xH:∀{l:List OpV},(∀o∈l,gT o=0)→ou l=0
 |[],_=>rfl
 |x::l,h=>by
  rw[ou,if_pos (h x (by simp))];exact xH fun o ho=>h o (by simp[ho])
def mg (a b:OpV):Bool:=bY (bG b) cL&&(a.kind==5)&&!uz (bG a)
def pB:List OpV→Bool
 |[]=>false
 |[_]=>false
 |a::b::r=>mg a b||pB (b::r)
theorem qh:∀{l:List OpV},(∀i a b,l[i]? = some a→l[i+1]? = some b→mg a b=false)→pB l=false
 |[],_=>rfl
 |[x],_=>rfl
 |x::y::l,h=>by
  rw[pB,h 0 x y rfl rfl,qh (l:=y::l) fun i a b h1 h2=>h (i+1) a b (by simpa using h1) (by simpa using h2)];rfl
def ll (l:List OpV):ByteArray×Int :=
 if ¬ou l=0 then(emp,ou l) else if 8<l.length then(emp,3) else if pB l=true then(emp,100) else(mz (l.map bG),0)
abbrev IV:Ty (List OpV):=tSl 15 opR
theorem UQ (s:ByteArray):jr.enc s=[.v (.string s)]:=rfl
end Go.Proofs.YtnhbidpdadkcjaaGreatDoor
