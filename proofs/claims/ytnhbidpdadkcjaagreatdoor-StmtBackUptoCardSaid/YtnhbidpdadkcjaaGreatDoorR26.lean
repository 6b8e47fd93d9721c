import Derived.Test.YtnhbidpdadkcjaaGreatDoorR24
import Derived.Test.YtnhbidpdadkcjaaGreatDoorR25
import Derived.Shelf.Strings.OnBuilder
open Go.RowKit
set_option linter.unusedVariables false
set_option linter.unusedSimpArgs false
set_option maxRecDepth 100000
set_option maxHeartbeats 8000000
open List (map_cons map_nil)
open Option (map_some)
namespace Go.Proofs.YtnhbidpdadkcjaaGreatDoor
open Tryz
theorem Dt {r:gu}(h:¬(aJ r).2=0):(aJ r).1=emp:=by
 unfold aJ at h ⊢;by_cases c:r.n<0∨31<r.n∨(r.sp=true∧¬r.n=31)
 ·rw[if_pos c]
 ·exfalso;apply h;rw[if_neg c]
  repeat' split
  all_goals rfl
theorem gV (r:gu):(aJ r).1.size≤4:=by
 have h1:=mK r.n;unfold aJ
 repeat' split
 all_goals first
  |decide
  |(simp only[ByteArray.size_append];first | (have:xS.size=1:=rfl;omega) | (have:wS.size=1:=rfl;omega))
theorem sR (k n:Int):(an k n).1.size≤40:=by
 by_cases h:(an k n).2=0
 ·have e:an k n=((an k n).1,0):=by rw[←h]
  exact(there e).2.2
 ·have:(an k n).1=emp:=by
   unfold an at h ⊢
   repeat' split
   all_goals first
    |rfl
    |(rename_i h1 h2;exact Dt (by simpa[h1,h2] using h))
    |(exfalso;apply h;simp_all)
  rw[this]
  decide
theorem pq (n:Int):(ng n).size≤20:=Ex.decS_size _
theorem wA (v:Val):(Ex.printF v).1.size≤v.plus.size+v.minus.size+30:=by
 have h1:=Ex.decS_size v.add.toNat;have h2:=Ex.signS_size v.add;have h3:emp.size=0:=rfl;have h4:(⟨#[48]⟩:ByteArray).size=1:=rfl;have h5:(⟨#[45]⟩:ByteArray).size=1:=rfl;unfold Ex.printF
 repeat' split
 all_goals simp only[ByteArray.size_append]
 all_goals omega
theorem pV {o:OpV}(h:okO o):(mN o).size≤2199023255582:=by
 have:=wA o.val;obtain⟨⟨h1,h2⟩,-⟩:=h;have e1:o.val.plus.size=o.plus.size:=rfl;have e2:o.val.minus.size=o.minus.size:=rfl;unfold mN prO;omega
theorem pu {o:OpV}(h:okO o):(lB o).size≤2199023255590:=by
 have:=pV h;have h4:E3.size=6:=rfl;have h5:aU.size=1:=rfl;unfold lB;split<;>simp only[ByteArray.size_append]<;>omega
theorem kC (o:OpV)(s:Bool):(mw o s).size≤64:=by
 have h1:=sR 3 o.md;have h2:=pq o.amt;have h3:emp.size=0:=rfl;have h4:dR.size=2:=rfl;have h5:Dz.size=2:=rfl;unfold mw
 repeat' split
 all_goals try simp only[ByteArray.size_append]
 all_goals omega
abbrev Ya:ap prog 171 :=
 mz1 func171 (tOp) (okO) ((fun o=>.ret (sv (lB o)))) (asP fun o h=>by
 refine aq [⟨_,Q7⟩] rfl ?_;have ho:=rE h;have hz:=pV h;unfold mN prO at hz;have z1:1+(Ex.printF o.val).1.size≤maxLen:=by unfold maxLen;omega
 have z2:6+(Ex.printF o.val).1.size≤maxLen:=by unfold maxLen;omega
 cases g:o.lo
 ·simp only[go_sem,ah,opE,g,ce,fP,ho,lB,aU,mN,prO,z1]
 ·simp only[go_sem,ah,opE,g,ce,fP,ho,lB,E3,mN,prO,z2])
abbrev LM:ap prog 170 :=
 mz2 func170 (tOp) (UY) ((fun o s=>o.md=0∨s=true∨0≤o.amt∧o.amt<100)) ((fun o s=>.ret (sv (mw o s)))) (asP fun o s h=>by
 refine aq [⟨_,nameS⟩,⟨_,X5⟩] rfl ?_;have hn:=sR 3 o.md;have hi:=pq o.amt;have z1:2+(an 3 o.md).1.size≤maxLen:=by unfold maxLen;omega
 have z2:2+(an 3 o.md).1.size+2≤maxLen:=by unfold maxLen;omega
 have z3:2+(an 3 o.md).1.size+2+(ng o.amt).size≤maxLen:=by unfold maxLen;omega
 by_cases g:o.md=0
 ·simp only[go_sem,ah,opE,eq_true g,mw,ac]
 cases s
 ·have h2:0≤o.amt∧o.amt<100:=by
   rcases h with h | h | h
   ·exact absurd h g
   ·cases h
   ·exact h
  simp only[go_sem,ah,opE,g,name_run,name_pan,cx,h2,mw,dR,Dz,z1,z2,z3]
 ·simp only[go_sem,ah,opE,g,name_run,name_pan,cx,mw,dR,z1])
abbrev VL:ap prog 173 :=
 mz2 func173 (bO .i64) (bO .i64) ((fun k n=>(an k n).2=0∨0≤n∧n<100)) ((fun k n=>.ret (sv (dS k n)))) (asP fun k n h=>by
 refine aq [⟨_,nameS⟩,⟨_,Zk⟩] rfl ?_;by_cases g:(an k n).2=0
 ·simp only[go_sem,name_run,name_pan,cx,eq_true g,dS]
 ·have h2:0≤n∧n<100:=h.resolve_left g;have hi:=pq n;have z1:1+(ng n).size≤maxLen:=by unfold maxLen;omega
  simp only[go_sem,name_run,name_pan,cx,g,h2,dS,aU,z1])
theorem cW {o:OpV}(h:fB o=0):iI o=true∧(prO o).2=0∧(o.kind=3→o.plus=emp∨fa 3 o.plus=false):=by
 unfold fB at h;split at h
 ·cases h
 rename_i h1;split at h
 ·rename_i h2;exact absurd h h2
 rename_i h2;split at h
 ·cases h
 rename_i h3;refine⟨by simpa using h1,by simpa using h2,fun hk=>?_⟩;by_cases e:o.plus=emp
 ·exact .inl e
 ·cases hw:fa 3 o.plus
  ·exact .inr rfl
  ·exact absurd ⟨hk,e,hw⟩ h3
theorem ri {o:OpV}{m:Int}(h:dA o m=true):(0≤o.md∧o.md≤m)∧0≤o.amt∧o.amt<100:=by
 unfold dA at h;rw[decide_eq_true_eq]at h;omega
theorem cJ {o:OpV}(h:iI o=true):cL o=o∧((o.kind=1∧eD o.r=true∧dA o 12=true)∨(o.kind=2∧dA o 1=true)∨o.kind=3∨((o.kind=4∨o.kind=6∨o.kind=7∨o.kind=8∨o.kind=9)∧0≤o.n∧o.n≤j7 o.kind)∨(o.kind=5∧ff o=true)):=by
 unfold iI at h;split at h
 ·cases h
 rename_i h0;refine⟨by simpa using h0,?_⟩;split at h
 ·rename_i h1;rw[Bool.and_eq_true]at h;exact .inl ⟨h1,h⟩
 split at h
 ·rename_i h1;exact .inr (.inl ⟨h1,h⟩)
 split at h
 ·rename_i h1;exact .inr (.inr (.inl h1))
 split at h
 ·rename_i h1;rw[Bool.and_eq_true,decide_eq_true_eq,decide_eq_true_eq]at h;exact .inr (.inr (.inr (.inl ⟨h1,h⟩)))
 split at h
 ·rename_i h1;exact .inr (.inr (.inr (.inr ⟨h1,h⟩)))
 ·cases h
theorem ot {o:OpV}(h:ff o=true):eD o.r=true∧o.r.x=true∧(o.mode=0∨o.mode=1∨o.mode=2∨(o.mode=3∧dY o=true)):=by
 unfold ff at h;simp only[Bool.and_eq_true,decide_eq_true_eq,Bool.or_eq_true]at h;obtain⟨⟨⟨⟨⟨h1,h2⟩,h3⟩,h4⟩,h5⟩,h6⟩:=h;refine⟨h1,h2,?_⟩;rcases h6 with h6 | h6
 ·omega
 ·by_cases e:o.mode=3
  ·exact .inr (.inr (.inr ⟨e,h6⟩))
  ·omega
theorem Ls {o:OpV}(h:dY o=true) : -1≤o.amt∧o.amt<100:=by
 unfold dY at h;split at h
 ·cases h
 ·rename_i h1;simp only[not_or]at h1;omega
theorem BI {n:Int}(h0:0≤n)(h1:n≤15):(an 2 n).2=0:=by
 have:∀k:Fin 16,(an 2 (k.val:Int)).2=0:=by decide +kernel
 have:=this ⟨n.toNat,by omega⟩
 rwa [show(((⟨n.toNat,by omega⟩:Fin 16).val:Nat):Int)=n by simp only;omega]at this
theorem Fa {n:Int}(h0:0≤n)(h1:n≤32767):(an 6 n).2=0:=by
 unfold an;rw[if_neg (by decide)];split
 ·rfl
 ·rw[if_pos ⟨rfl,h0,by omega⟩]
theorem VH (o:OpV)(hO:okO o)(hm:ff o=true):Sw f174 0 ⟨0,aB 0 [tOp.enc o],[]⟩ (oQ f174 (.ret (sv (ir o)))):=by
 refine aq [⟨_,FI⟩,⟨_,Ya⟩,⟨_,LM⟩] rfl ?_;obtain⟨m1,m2,m3⟩:=ot hm;have hR:=gV o.r;have hM:=gV o.m;have hL:=pu hO;have hX:=kC o (o.amt == -1);obtain⟨a,ha⟩:∃a,dv o.r=a:=⟨_,rfl⟩;obtain⟨b,hb⟩:∃b,dv o.m=b:=⟨_,rfl⟩;obtain⟨l,hl⟩:∃l,lB o=l:=⟨_,rfl⟩;obtain⟨x,hx⟩:∃x,mw o (o.amt == -1)=x:=⟨_,rfl⟩;rw[show(aJ o.r).1=a from ha]at hR;rw[show(aJ o.m).1=b from hb]at hM;rw[hl]at hL;rw[hx]at hX;have z1:1+a.size≤maxLen:=by unfold maxLen;omega
 have z2:1+a.size+2≤maxLen:=by unfold maxLen;omega
 have z3:1+a.size+2+l.size≤maxLen:=by unfold maxLen;omega
 have z4:1+a.size+2+l.size+2≤maxLen:=by unfold maxLen;omega
 have z5:1+a.size+3≤maxLen:=by unfold maxLen;omega
 have z6:1+a.size+3+l.size≤maxLen:=by unfold maxLen;omega
 have z7:1+a.size+2+b.size≤maxLen:=by unfold maxLen;omega
 have z8:1+a.size+2+b.size+1≤maxLen:=by unfold maxLen;omega
 have z9:1+a.size+2+b.size+x.size≤maxLen:=by unfold maxLen;omega
 have z10:1+a.size+2+b.size+x.size+1≤maxLen:=by unfold maxLen;omega
 have z11:1+a.size+1≤maxLen:=by unfold maxLen;omega
 have z12:1+a.size+2+l.size+1≤maxLen:=by unfold maxLen;omega
 by_cases e1:o.mode=1
 ·simp only[go_sem,ah,opE,opD,au,ar,bG,hO,ir,ha,hl,brS,dR,SH,eq_true e1,z1,z2,z3,z4]
 by_cases e2:o.mode=2
 ·simp only[go_sem,ah,opE,opD,au,ar,bG,hO,ir,ha,hl,brS,Om,e1,eq_true e2,z1,z5,z6]
 by_cases e3:o.mode=3
 ·have hi:dY o=true:=by
   rcases m3 with h | h | h | h
   ·omega
   ·omega
   ·omega
   ·exact h.2
  have hamt:=Ls hi;by_cases e4:o.amt = -1
  ·by_cases e5:o.md=1
   ·simp only[go_sem,ah,opE,opD,au,ar,bG,ir,ha,hb,brS,dR,ekS,e1,e2,eq_true e3,eq_true e4,eq_true e5,z1,z2,z7,z8]
   ·simp only[go_sem,ah,opE,opD,au,ar,bG,ir,ha,hb,e1,e2,eq_true e3,eq_true e4,e5,z1,false_and];refine sD mixed [⟨_,FI⟩,⟨_,LM⟩] [] ?_;simp only[go_sem,ah,opE,opD,au,ar,bG,ha,hb,hx,brS,dR,ekS,eq_true e4,z2,z7,z9,z10]
  ·have hq:0≤o.amt∧o.amt<100:=by omega
   by_cases e5:o.md=1
   ·skip
    simp only[go_sem,ah,opE,opD,au,ar,bG,ir,ha,hb,e1,e2,eq_true e3,e4,eq_true e5,z1,and_false];refine sD mixed [⟨_,FI⟩,⟨_,LM⟩] [] ?_;simp only[go_sem,ah,opE,opD,au,ar,bG,ha,hb,hx,brS,dR,ekS,e4,hq,z2,z7,z9,z10]
   ·skip
    simp only[go_sem,ah,opE,opD,au,ar,bG,ir,ha,hb,e1,e2,eq_true e3,e4,e5,z1,and_false,false_and];refine sD mixed [⟨_,FI⟩,⟨_,LM⟩] [] ?_;simp only[go_sem,ah,opE,opD,au,ar,bG,ha,hb,hx,brS,dR,ekS,e4,hq,z2,z7,z9,z10]
 by_cases v1:o.add=0
 case neg=>simp only[go_sem,ah,opE,opD,au,ar,bG,hO,ir,ha,hl,brS,dR,ekS,e1,e2,e3,i8,oB,jt,jW,iT,v1,Bool.false_and,false_and,z1,z2,z3,z12]
 by_cases v2:o.plus=emp
 case neg=>simp only[go_sem,ah,opE,opD,au,ar,bG,hO,ir,ha,hl,brS,dR,ekS,e1,e2,e3,i8,oB,jt,jW,iT,ac,eq_true v1,v2,Bool.false_and,false_and,and_false,z1,z2,z3,z12]
 by_cases v3:o.minus=emp
 case neg=>simp only[go_sem,ah,opE,opD,au,ar,bG,hO,ir,ha,hl,brS,dR,ekS,e1,e2,e3,i8,oB,jt,jW,iT,ac,eq_true v1,eq_true v2,v3,Bool.false_and,false_and,and_false,z1,z2,z3,z12]
 cases v4:o.lo
 ·simp only[go_sem,ah,opE,opD,au,ar,bG,ir,ha,hl,brS,ekS,e1,e2,e3,i8,oB,jt,jW,iT,ac,eq_true v1,eq_true v2,eq_true v3,v4,z1,z11]
 ·have eL:(⟨o.kind,o.r,o.m,o.md,o.amt,o.n,o.add,o.plus,o.minus,true,o.mode⟩:OpV)=o:=by rw[←v4]
  simp only[go_sem,ah,opE,opD,au,ar,bG,hO,ir,ha,hl,brS,dR,ekS,e1,e2,e3,i8,oB,jt,jW,iT,ac,eq_true v1,eq_true v2,eq_true v3,v4,eL,and_false,z1,z2,z3,z12]
abbrev Zm:ap prog 174 :=
 mz1 func174 (tOp) ((fun o=>okO o∧ff o=true)) ((fun o=>.ret (sv (ir o)))) (asP fun o h=>VH o h.1 h.2)
theorem Xi (o:OpV)(hO:okO o)(hc:fB o=0):Sw f127 0 ⟨0,aB 0 [tOp.enc o],[]⟩ (oQ f127 (.ret (sv (aS o)))):=by
 refine aq [⟨_,NN⟩,⟨_,Q7⟩,⟨_,VL⟩,⟨_,Zm⟩] rfl ?_;obtain⟨hf,hp,hw⟩:=cW hc;obtain⟨hb,hk⟩:=cJ hf;have hR:=gV o.r;have hV:=pV hO;have ho:=rE hO;rcases hk with ⟨k1,hr,ha⟩ | ⟨k2,ha⟩ | k3 | ⟨hk,n0,n1⟩ | ⟨k5,hm⟩
 ·obtain⟨-,a0,a1⟩:=ri ha;have hq:0≤o.amt∧o.amt<100:=⟨a0,a1⟩
  have fin:∀s:Bool,(decide (5≤o.md)&&(o.amt==0))=s→aS o=dv o.r++mw o s:=fun s hs=>by
   unfold aS;rw[if_pos k1,←hs];rfl
  have hz:∀s:Bool,(dv o.r).size+(mw o s).size≤maxLen:=fun s=>by
   have:=kC o s;have e:(dv o.r).size≤4:=hR;unfold maxLen;omega
  simp only[go_sem,ah,opE,eq_true k1];refine sD mixed [⟨_,FI⟩,⟨_,LM⟩] [] ?_;by_cases g:5≤o.md
  ·cases hB:(o.amt==0) with
   |false =>
    rw[fin false (by rw[decide_eq_true g,hB];rfl)];simp only[go_sem,ah,opE,opD,au,ar,bG,hq,g,hB,hz]
   |true =>
    rw[fin true (by rw[decide_eq_true g,hB];rfl)];simp only[go_sem,ah,opE,opD,au,ar,bG,hq,g,hB,hz]
  ·rw[fin false (by rw[decide_eq_false g];rfl)];simp only[go_sem,ah,opE,opD,au,ar,bG,hq,g,hz]
 ·obtain⟨-,a0,a1⟩:=ri ha;have hq:0≤o.amt∧o.amt<100:=⟨a0,a1⟩;have q1:¬o.kind=1:=by omega
  have hz:(lB o).size+(mw o false).size≤maxLen:=by
   have h1:=kC o false;have h2:=pu hO;unfold maxLen;omega
  simp only[go_sem,ah,opE,q1,eq_true k2,aS];refine sD mixed [⟨_,Ya⟩,⟨_,LM⟩] [] ?_;simp only[go_sem,ah,opE,opD,au,ar,hO,hq,hz]
 ·have q1:¬o.kind=1:=by omega
  have q2:¬o.kind=2:=by omega
  have z1:1+(mN o).size≤maxLen:=by unfold maxLen;omega
  have eV:(Ex.printF o.val).1=mN o:=rfl;cases hA:oZ o
  ·have hA':(decide (o.val.plus=emp)&&decide (o.val.minus=emp))=false:=hA;simp only[go_sem,ah,opE,q1,q2,eq_true k3,aS,hA,hA',ce,fP,ho,eV]
  ·have hA':(decide (o.val.plus=emp)&&decide (o.val.minus=emp))=true:=hA;simp only[go_sem,ah,opE,q1,q2,eq_true k3,aS,hA,hA',ce,fP,ho,eV,aU,z1]
 ·have q1:¬o.kind=1:=by omega
  have q2:¬o.kind=2:=by omega
  have q3:¬o.kind=3:=by omega
  rcases hk with h | h | h | h | h
  ·have e:(an 2 o.n).2=0:=BI n0 (by rw[h]at n1;exact n1);simp only[go_sem,ah,opE,q1,q2,q3,eq_true h,aS,e]
  ·have e:(an 6 o.n).2=0:=Fa n0 (by rw[h]at n1;exact n1);have q4:¬o.kind=4:=by omega
   simp only[go_sem,ah,opE,q1,q2,q3,q4,eq_true h,aS,e]
  ·have e:0≤o.n∧o.n<100:=by
    rw[h]at n1;have:j7 7=15:=rfl;omega
   have q4:¬o.kind=4:=by omega
   have q6:¬o.kind=6:=by omega
   simp only[go_sem,ah,opE,q1,q2,q3,q4,q6,eq_true h,aS,e]
  ·have e:0≤o.n∧o.n<100:=by
    rw[h]at n1;have:j7 8=31:=rfl;omega
   have q4:¬o.kind=4:=by omega
   have q6:¬o.kind=6:=by omega
   have q7:¬o.kind=7:=by omega
   simp only[go_sem,ah,opE,q1,q2,q3,q4,q6,q7,eq_true h,aS,e]
  ·have e:0≤o.n∧o.n<100:=by
    rw[h]at n1;have:j7 9=5:=rfl;omega
   have q4:¬o.kind=4:=by omega
   have q6:¬o.kind=6:=by omega
   have q7:¬o.kind=7:=by omega
   have q8:¬o.kind=8:=by omega
   simp only[go_sem,ah,opE,q1,q2,q3,q4,q6,q7,q8,eq_true h,aS,e]
 ·have q1:¬o.kind=1:=by omega
  have q2:¬o.kind=2:=by omega
  have q3:¬o.kind=3:=by omega
  have q4:¬o.kind=4:=by omega
  have q6:¬o.kind=6:=by omega
  have q7:¬o.kind=7:=by omega
  have q8:¬o.kind=8:=by omega
  have q9:¬o.kind=9:=by omega
  simp only[go_sem,ah,opE,opD,au,ar,q1,q2,q3,q4,q6,q7,q8,q9,aS,hO,hm]
abbrev Y3:ap prog 127 :=
 mz1 func127 (tOp) ((fun o=>okO o∧fB o=0)) ((fun o=>.ret (sv (aS o)))) (asP fun o h=>Xi o h.1 h.2)
theorem HG {o:OpV}(h:okO o):(ir o).size≤2199023255700:=by
 have h1:=gV o.r;have h2:=gV o.m;have h3:=pu h;have h4:=kC o (o.amt == -1);have e1:(dv o.r).size≤4:=h1;have e2:(dv o.m).size≤4:=h2;have f1:brS.size=1:=rfl;have f2:dR.size=2:=rfl;have f3:ekS.size=1:=rfl;have f4:SH.size=2:=rfl;have f5:Om.size=3:=rfl;unfold ir
 repeat' split
 all_goals simp only[ByteArray.size_append]
 all_goals omega
theorem De (k n:Int):(dS k n).size≤40:=by
 have h1:=sR k n;have h2:=pq n;have f1:aU.size=1:=rfl;unfold dS;split
 ·exact h1
 ·simp only[ByteArray.size_append];omega
theorem ta {o:OpV}(h:okO o):(aS o).size≤2199023255800:=by
 have h1:=gV o.r;have e1:(dv o.r).size≤4:=h1;have h2:=kC o (decide (5≤o.md)&&decide (o.amt=0));have h3:=kC o false;have h4:=pu h;have h5:=pV h;have h6:=HG h;have f1:aU.size=1:=rfl;have g:=fun k=>De k o.n;have g2:=g 2;have g6:=g 6;have g4:=g 4;have g7:=g 7;have g8:=g 8;unfold aS
 repeat' split
 all_goals try simp only[ByteArray.size_append]
 all_goals omega
section
open Go.RowKit Go.Shelf
def J2:Ren:=⟨fun k=>if k=156 then 41 else if k=165 then 94 else if k=166 then 64 else if k=169 then 66 else if k=240 then 129 else if k=241 then 146 else if k=276 then 176 else if k=277 then 191 else k,
 fun k=>if k=0 then 0 else if k=3 then 3 else if k=4 then 4 else if k=5 then 5 else if k=9 then 9 else if k=20 then 20 else if k=31 then 34 else if k=37 then 39 else if k=70 then 104 else if k=72 then 106 else if k=75 then 109 else if k=76 then 110 else if k=80 then 113 else if k=127 then 160 else if k=164 then 193 else k,
 fun k=>k⟩
theorem UM:Go.Proofs.Lays.n156 prog J2 where
 mixed:=by kernel_rfl
 f156:=by kernel_rfl
 f165:=by kernel_rfl
 f166:=by kernel_rfl
 f169:=by kernel_rfl
 f240:=by kernel_rfl
 f241:=by kernel_rfl
 f276:=by kernel_rfl
 f277:=by kernel_rfl
 t0:=by kernel_rfl
 a0:=fun w=>by kernel_rfl
 z0:=fun w=>by kernel_rfl
 v0:=fun w=>by kernel_rfl
 t3:=by kernel_rfl
 a3:=fun w=>by kernel_rfl
 z3:=fun w=>by kernel_rfl
 v3:=fun w=>by kernel_rfl
 t4:=by kernel_rfl
 a4:=fun w=>by kernel_rfl
 z4:=fun w=>by kernel_rfl
 v4:=fun w=>by kernel_rfl
 t9:=by kernel_rfl
 a9:=fun w=>by kernel_rfl
 z9:=fun w=>by kernel_rfl
 v9:=fun w=>by kernel_rfl
 t20:=by kernel_rfl
 a20:=fun w=>by kernel_rfl
 z20:=fun w=>by kernel_rfl
 v20:=fun w=>by kernel_rfl
 t31:=by kernel_rfl
 a31:=fun w=>by kernel_rfl
 z31:=fun w=>by kernel_rfl
 v31:=fun w=>by kernel_rfl
 t37:=by kernel_rfl
 a37:=fun w=>by kernel_rfl
 z37:=fun w=>by kernel_rfl
 v37:=fun w=>by kernel_rfl
 t70:=by kernel_rfl
 a70:=fun w=>by kernel_rfl
 z70:=fun w=>by kernel_rfl
 v70:=fun w=>by kernel_rfl
 t72:=by kernel_rfl
 a72:=fun w=>by kernel_rfl
 z72:=fun w=>by kernel_rfl
 v72:=fun w=>by kernel_rfl
 t75:=by kernel_rfl
 a75:=fun w=>by kernel_rfl
 z75:=fun w=>by kernel_rfl
 v75:=fun w=>by kernel_rfl
 t76:=by kernel_rfl
 a76:=fun w=>by kernel_rfl
 z76:=fun w=>by kernel_rfl
 v76:=fun w=>by kernel_rfl
 t127:=by kernel_rfl
 a127:=fun w=>by kernel_rfl
 z127:=fun w=>by kernel_rfl
 v127:=fun w=>by kernel_rfl
 t164:=by kernel_rfl
 a164:=fun w=>by kernel_rfl
 z164:=fun w=>by kernel_rfl
 v164:=fun w=>by kernel_rfl
theorem jnX:Go.Proofs.Builder.Extra prog J2 where
 sizeBuilder:=by kernel_rfl
 liesBuilder:=by kernel_rfl
 t5:=by kernel_rfl
 a5:=fun w=>by kernel_rfl
 z5:=fun w=>by kernel_rfl
 v5:=fun w=>by kernel_rfl
 infoByte:=by kernel_rfl
 cellsByte:=by kernel_rfl
 sizeByte:=by kernel_rfl
 neB5:=by decide
abbrev oT:Ty (List ByteArray):=tSl 1 dr
def oj (l:List ByteArray)(p:ByteArray):ByteArray:=⟨(Lib.join (l.map (·.data.toList)) p.data.toList).toArray⟩
abbrev yN:ap prog 41 :=
 HH _ (asP fun _ _=>by go_simp) oT bw (fun l p=>l.length≤1000000∧(oj l p).size≤140737488355328) (fun l p=>sv (oj l p)) (asP fun _ _=>rfl) (asP fun l p hq M w u v hM hu hv=>by
  have hv':v=.string p:=hv;subst hv';have hu':DRep M (.sd 1 (l.map dr.enc)) u:=hu;simp only[DRep]at hu';obtain⟨A,cap,rfl,hc,hA⟩:=hu';rw[List.length_map]at hc ⊢
  have hz:(Lib.join (l.map (·.data.toList)) p.data.toList).length≤140737488355328:=by
   have:=hq.2;unfold oj at this;simpa[ByteArray.size] using this
  cases l with
  |nil =>
   refine(Any.strings_Join_none (ρ:=J2) UM jnX A cap p w).mono fun e w' ⟨he,hw⟩=>⟨⟨_,he,rfl⟩,hw▸Below.refl _ _⟩
  |cons x r =>
   obtain⟨blk,off,rfl,hat⟩:=hA (by simp)
   have e:(x::r).map dr.enc=((x::r).map fun s=>[Value.string s]).map fun e=>e.map D.v:=by
    rw[List.map_map];rfl
   rw[e]at hat;have hg:=uW hat
   have hf:((x::r).map fun s=>[Value.string s]).flatten=(x::r).map Value.string:=by
    rw[←List.flatMap_def]
    induction (x::r) with
    |nil=>rfl
    |cons a t ih=>rw[List.flatMap_cons,ih];rfl
   rw[hf]at hg;have hcell:∀(j:Nat) y,(x::r)[j]? = some y→w.cell? ⟨blk,off+j,none⟩=some (.string y):=fun j y hj=>hM _ _ _ (hg j _ (by rw[List.getElem?_map,hj];rfl))
   have hblk:blk<w.heap.size:=by
    obtain⟨q,h1,_⟩:=iq (hcell 0 x rfl);exact(Array.getElem?_eq_some_iff.1 h1).1
   refine(Any.strings_Join (ρ:=J2) UM jnX blk off cap (x::r) p w hcell hblk (by have:=hq.1;omega) hc hz).mono fun e w' ⟨he,hw⟩=>⟨⟨_,he,rfl⟩,hw⟩)
def cZ:List ByteArray→ByteArray
 |[]=>emp
 |x::r=>r.foldl (fun a y=>a++dR++y) x
theorem BC:∀(r:List ByteArray) (x:ByteArray),(r.foldl (fun a y=>a++dR++y) x).data.toList=x.data.toList++Lib.joinTail dR.data.toList (r.map (·.data.toList))
 |[],x=>by simp[Lib.joinTail]
 |y::r,x=>by
  rw[List.foldl_cons,BC r];have e:(x++dR++y).data.toList=x.data.toList++(dR.data.toList++y.data.toList):=by simp[ByteArray.data_append,Array.toList_append]
  rw[e,map_cons];simp[Lib.joinTail,List.append_assoc]
theorem qy (l:List ByteArray):oj l dR=cZ l:=by
 cases l with
 |nil=>rfl
 |cons x r =>
  apply ByteArray.ext;rw[←Array.toList_inj];show _=(r.foldl (fun a y=>a++dR++y) x).data.toList;rw[BC,←Lib.join_cons];rfl
end
def fC (s:ByteArray):Bool:=decide (0≤Lib.indexByte s.data.toList 44)
abbrev Bi:ap prog 128 :=
 mz2 func128 (bw) (bw) ((fun _ p=>p.size=1)) ((fun s p=>.ret (bv (decide (0≤Lib.indexByte s.data.toList (hdU p)))))) (asP fun s p hp=>by
 refine aq [⟨_,Hm⟩] rfl ?_;simp only[go_sem,hp])
abbrev nC:ap prog 47 :=
 mz2 func47 (bw) (bw) ((fun _ _=>True)) ((fun s p=>.ret (bv (bS s p)))) (asP fun s p _=>by
 refine aq [⟨_,qx⟩] rfl ?_;simp only[go_sem,cY,cX])
def ql:List OpV→Int
 |[]=>0
 |o::r=>if fB o=0 then ql r else fB o
theorem uO:∀{l:List OpV} {i:Nat} {o:OpV},(∀j p,j<i→l[j]? = some p→fB p=0)→l[i]? = some o→¬fB o=0→ql l=fB o
 |[],i,o,_,h,_=>by cases h
 |x::l,0,o,_,h,hc=>by
  injection h with h;subst h;rw[ql,if_neg hc]
 |x::l,i+1,o,hn,h,hc=>by
  rw[ql,if_pos (hn 0 x (Nat.zero_lt_succ _) rfl)];exact uO (i:=i) (fun j p hj hp=>hn (j+1) p (by omega) (by simpa using hp)) (by simpa using h) hc
theorem Bd:∀{l:List OpV},(∀o∈l,fB o=0)→ql l=0
 |[],_=>rfl
 |x::l,h=>by
  rw[ql,if_pos (h x (by simp))];exact Bd fun o ho=>h o (by simp[ho])
def fy (a b:OpV):Bool:=bS (aS b) aU&&(a.kind==5)&&!fC (aS a)
def jf:List OpV→Bool
 |[]=>false
 |[_]=>false
 |a::b::r=>fy a b||jf (b::r)
theorem sr:∀{l:List OpV} {i:Nat} {a b:OpV},l[i]? = some a→l[i+1]? = some b→fy a b=true→jf l=true
 |[],i,a,b,h,_,_=>by cases h
 |[x],i,a,b,_,h,_=>by simp at h
 |x::y::l,0,a,b,h,h1,hb=>by
  injection h with h;injection h1 with h1;subst h h1;rw[jf,hb];rfl
 |x::y::l,i+1,a,b,h,h1,hb=>by
  rw[jf,sr (l:=y::l) (i:=i) (by simpa using h) (by simpa using h1) hb,Bool.or_true]
theorem xW:∀{l:List OpV},(∀i a b,l[i]? = some a→l[i+1]? = some b→fy a b=false)→jf l=false
 |[],_=>rfl
 |[x],_=>rfl
 |x::y::l,h=>by
  rw[jf,h 0 x y rfl rfl,xW (l:=y::l) fun i a b h1 h2=>h (i+1) a b (by simpa using h1) (by simpa using h2)];rfl
def fm (l:List OpV):ByteArray×Int :=
 if ¬ql l=0 then(emp,ql l) else if 8<l.length then(emp,3) else if jf l=true then(emp,100) else(cZ (l.map aS),0)
abbrev xe:Ty (List OpV):=tSl 15 opR
def pR (r:ByteArray×Int):AV:=.tup [.l (.v (.string r.1)),.l (.v (.int .i64 r.2))]
def AW (l:List ByteArray):Blk:=⟨true,9,1,(l.map fun s=>[D.v (.string s)]).map bu⟩
theorem YI (s:ByteArray):dr.enc s=[.v (.string s)]:=rfl
theorem Hs:∀{l:List OpV},l.length≤8→(∀o∈l,okO o)→(cZ (l.map aS)).size≤140737488355328:=by
 have key:∀(r:List OpV) (x:ByteArray),(∀o∈r,okO o)→((r.map aS).foldl (fun a y=>a++dR++y) x).size≤x.size+r.length*2199023255802:=by
  intro r
  induction r with
  |nil=>intro x _;simp
  |cons o r ih =>
   intro x h;have h1:=ta (h o (by simp));have h2:=ih (x++dR++aS o) fun p hp=>h p (by simp[hp]);have h3:dR.size=2:=rfl;rw[map_cons,List.foldl_cons,List.length_cons];simp only[ByteArray.size_append]at h2;omega
 intro l hl h;cases l with
 |nil=>decide
 |cons o r =>
  have h1:=ta (h o (by simp));have h2:=key r (aS o) fun p hp=>h p (by simp[hp]);simp only[List.length_cons]at hl;show((r.map aS).foldl _ (aS o)).size≤_;omega
theorem QW (l:List OpV)(hl:l.length≤1000000)(hO:∀o∈l,okO o):Sw f62 0 ⟨0,aB 0 [xe.enc l],[]⟩ (oQ f62 (.ret (pR (fm l)))):=by
 refine aq [⟨_,yN⟩] rfl ?_;simp only[go_sem];refine ba (ι:=Nat) (fun i=>i≤l.length∧∀j p,j<i→l[j]? = some p→fB p=0) (fun i=>⟨0,[(0,xe.enc l),(11,xe.enc l),(12,iv l.length),(13,iv i)],[]⟩) (fun i=>l.length-i) 0 ⟨Nat.zero_le _,fun j p hj=>absurd hj (Nat.not_lt_zero _)⟩ (wR []) ?_;rintro i ⟨hi,hn⟩;refine aw [⟨_,XM⟩] ?_;by_cases hlt:i<l.length
 ·have hltI:(i:Int)<l.length:=by omega
  obtain⟨o,ho⟩:∃o,l[i]? = some o:=⟨_,List.getElem?_eq_getElem hlt⟩;have hok:=hO o (List.mem_of_getElem? ho);have ei:=wI i;by_cases hc:fB o=0
  ·simp only[go_sem,hltI,hlt,ho,ah,opE,opD,au,ar,hok,eq_true hc,ei]
   exact⟨i+1,⟨hlt,fun j p hj hp=>by
    by_cases e:j=i
    ·subst e;rw[ho]at hp;injection hp with hp;rw[←hp];exact hc
    ·exact hn j p (by omega) hp⟩,by omega,wR []⟩
  ·have e:fm l=(emp,fB o):=by unfold fm;rw[uO hn ho hc,if_pos hc]
   simp only[go_sem,hltI,hlt,ho,ah,opE,opD,au,ar,hok,hc,e,pR,ac]
 obtain rfl:i=l.length:=by omega
 have hI:¬(l.length:Int)<l.length:=by omega
 have hall:∀o∈l,fB o=0:=fun o ho=>by
  obtain⟨j,hj,he⟩:=List.mem_iff_getElem.1 ho;exact hn j o hj (by rw[List.getElem?_eq_getElem hj,he])
 have h0:=Bd hall;by_cases h8:8<l.length
 ·have h8I:(8:Int)<l.length:=by omega
  have e:fm l=(emp,3):=by unfold fm;rw[if_neg (by rw[h0];simp),if_pos h8]
  simp only[go_sem,hI,h8I,e,pR,ac]
 have h8I:¬(8:Int)<l.length:=by omega
 have hF:fm l=if jf l=true then(emp,100) else(cZ (l.map aS),0):=by unfold fm;rw[if_neg (by rw[h0];simp),if_neg h8]
 simp only[go_sem,hI,h8I];refine ba (ι:=Nat) (fun i=>i≤l.length∧∀j a b,j+1<i→l[j]? = some a→l[j+1]? = some b→fy a b=false) (fun i=>⟨1,[(0,xe.enc l),(26,xe.enc l),(27,iv l.length),(28,iv i),(7,.s (.l (.sl 0 0 i)))],[(0,some (AW ((l.take i).map aS)))]⟩) (fun i=>l.length-i) 0 ⟨Nat.zero_le _,fun j a b hj=>absurd hj (by omega)⟩ ?_ ?_
 ·exact(Wk.nil 7 9 1 rfl).trans (wR [128])
 rintro i ⟨hi,hn2⟩;refine aw [⟨_,Y3⟩,⟨_,nC⟩,⟨_,Bi⟩] ?_;by_cases hlt:i<l.length
 ·have hltI:(i:Int)<l.length:=by omega
  obtain⟨o,ho⟩:∃o,l[i]? = some o:=⟨_,List.getElem?_eq_getElem hlt⟩;have hok:=hO o (List.mem_of_getElem? ho);have hch:=hall o (List.mem_of_getElem? ho);have ei:=wI i;have hT:(l.take (i+1)).map aS=(l.take i).map aS++[aS o]:=by rw[List.take_add_one,ho,List.map_append];rfl
  have hlen:((l.take i).map aS).length=i:=by rw[List.length_map,List.length_take];omega
  obtain⟨T,hTT⟩:∃T,(l.take i).map aS=T:=⟨_,rfl⟩;rw[hTT]at hT hlen;have hK:List.take i ((T.map (fun s=>[D.v (.string s)])).map bu)=(T.map (fun s=>[D.v (.string s)])).map bu:=List.take_of_length_le (by simp[hlen]);have hK2:(T.map (fun s=>[D.v (.string s)])).map bu++[[LV.v (.string (aS o))]]=((T++[aS o]).map (fun s=>[D.v (.string s)])).map bu:=by rw[List.map_append,List.map_append];rfl
  have m1:i+1≤maxLen:=by unfold maxLen;omega
  have m2:(i+1)*16≤140737488355328:=by omega
  cases i with
  |zero =>
   have z0:(0:Int)<(l.length:Int):=by omega
   have z1:IntKind.i64.wrap ((0:Int)+1)=((0+1:Nat):Int):=rfl;have hTn:T=[]:=List.eq_nil_of_length_eq_zero hlen;subst hTn;simp only[go_sem,hltI,hlt,ho,ah,opE,opD,au,ar,hok,hch,hTT,AW,hK,hK2,hlen,m1,m2,ei,z0,z1];exact⟨1,⟨hlt,fun j a b hj=>absurd hj (by omega)⟩,by omega,Wk.renL [337] (by simp) (Nat.le_refl 1) (by simp) rfl (by rw[hT];rfl)⟩
  |succ k =>
   have ek:IntKind.i64.wrap (((k+1:Nat):Int)-1)=(k:Int):=by rw[IntKind.wrap_i64];omega
   have hk:k<l.length:=by omega
   have p0:(0:Int)<((k+1:Nat):Int):=by omega
   have hkI:(k:Int)<((k+1:Nat):Int):=by omega
   obtain⟨a,ha⟩:∃a,l[k]? = some a:=⟨_,List.getElem?_eq_getElem hk⟩;have hTk:T[k]? = some (aS a):=by rw[←hTT,List.getElem?_map,List.getElem?_take,pS,ha];rfl
   have hU:hdU (⟨#[44]⟩:ByteArray)=44:=rfl;have hU1:(⟨#[44]⟩:ByteArray).size=1:=rfl;have hp1:bS (aS o) ⟨#[35]⟩=bS (aS o) aU:=rfl
   have go:fy a o=false→k+1+1≤l.length∧∀j p q,j+1<k+1+1→l[j]? = some p→l[j+1]? = some q→fy p q=false:=fun hb=>⟨hlt,fun j p q hj hp hq=>by
    by_cases e:j=k
    ·subst e;rw[ha]at hp;rw[ho]at hq;injection hp with hp;injection hq with hq;rw[←hp,←hq];exact hb
    ·exact hn2 j p q (by omega) hp hq⟩
   cases h1:bS (aS o) aU
   ·simp only[go_sem,hltI,hlt,ho,ah,opE,opD,au,ar,hok,hch,hTT,AW,p0,hp1,h1,hK,hK2,hlen,m1,m2,ei];exact⟨k+1+1,go (by unfold fy;rw[h1];rfl),by omega,Wk.renL [369] (by simp) (Nat.le_refl 1) (by simp) rfl (by rw[hT];simp only[hget,if_true,map_cons,map_nil,map_some,List.getD_cons_zero,Blk.ren,gS,AW])⟩
   by_cases h2:a.kind=5
   case neg =>
    simp only[go_sem,hltI,hlt,ho,ah,opE,opD,au,ar,hok,hch,hTT,AW,p0,hp1,h1,ek,hk,ha,h2,hK,hK2,hlen,m1,m2,ei];exact⟨k+1+1,go (by unfold fy;rw[beq_eq_false_iff_ne.2 h2];simp),by omega,Wk.renL [481] (by simp) (Nat.le_refl 1) (by simp) rfl (by rw[hT];simp only[hget,if_true,map_cons,map_nil,map_some,List.getD_cons_zero,Blk.ren,gS,AW])⟩
   cases h3:(decide (0≤Lib.indexByte (aS a).data.toList 44))
   ·have hb:fy a o=true:=by unfold fy fC;rw[h1,h3,h2];rfl
    rw[hF,if_pos (sr ha ho hb)];simp only[go_sem,hltI,hlt,ho,ah,opE,opD,au,ar,hok,hch,hTT,AW,p0,hp1,h1,ek,hk,ha,eq_true h2,hkI,hTk,YI,hU1,hU,h3,pR,ac]
   ·simp only[go_sem,hltI,hlt,ho,ah,opE,opD,au,ar,hok,hch,hTT,AW,p0,hp1,h1,ek,hk,ha,eq_true h2,hkI,hTk,YI,hU1,hU,h3,hK,hK2,hlen,m1,m2,ei];exact⟨k+1+1,go (by unfold fy fC;rw[h3];simp),by omega,Wk.renL [593] (by simp) (Nat.le_refl 1) (by simp) rfl (by rw[hT];simp only[hget,if_true,map_cons,map_nil,map_some,List.getD_cons_zero,Blk.ren,gS,AW])⟩
 ·obtain rfl:i=l.length:=by omega
  have hI:¬(l.length:Int)<l.length:=by omega
  have hb:jf l=false:=xW fun j a b h1 h2=>hn2 j a b (List.getElem?_eq_some_iff.1 h2).1 h1 h2;rw[if_neg (by rw[hb];simp)]at hF;have hj:oj (l.map aS) ⟨#[44,32]⟩=cZ (l.map aS):=qy _;have hs1:(l.map aS).length≤1000000:=by rw[List.length_map];exact hl
  have hs2:=Hs (l:=l) (by omega) hO;have htl:List.take l.length l=l:=List.take_length;have hK:List.take l.length (((l.map aS).map (fun s=>[D.v (.string s)])).map bu)=((l.map aS).map (fun s=>[D.v (.string s)])).map bu:=List.take_of_length_le (by simp);have hD:df dr.dec ((l.map aS).map dr.enc)=some (l.map aS):=dX dr _;simp only[dr]at hD;simp only[go_sem,hI,hl,htl,AW,hK,hD,hj,hs1,hs2,hF,pR]
abbrev DJ:ap prog 62 :=
 mz1 func62 (xe) ((fun l=>l.length≤1000000∧∀o∈l,okO o)) ((fun l=>.ret (pR (fm l)))) (asP fun l h=>QW l h.1 h.2)
end Go.Proofs.YtnhbidpdadkcjaaGreatDoor
