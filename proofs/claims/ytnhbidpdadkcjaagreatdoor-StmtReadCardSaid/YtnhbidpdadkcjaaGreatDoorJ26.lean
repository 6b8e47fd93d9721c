import Derived.Test.YtnhbidpdadkcjaaGreatDoorJ24
import Derived.Test.YtnhbidpdadkcjaaGreatDoorJ25
import Derived.Shelf.Strings.OnBuilder
open Go.RowKit
set_option linter.unusedVariables false
set_option linter.unusedSimpArgs false
set_option maxRecDepth 100000
set_option maxHeartbeats 8000000
open List (map_cons map_nil)
open Option (map_some)
namespace Go.Proofs.YtnhbidpdadkcjaaGreatDoor
open Tryz
theorem Dj {r:gR}(h:¬(aJ r).2=0):(aJ r).1=emp:=by
 unfold aJ at h ⊢;by_cases c:r.n<0∨31<r.n∨(r.sp=true∧¬r.n=31)
 ·rw[if_pos c]
 ·exfalso;apply h;rw[if_neg c]
  repeat' split
  all_goals rfl
theorem ia (r:gR):(aJ r).1.size≤4:=by
 have h1:=mO r.n;unfold aJ
 repeat' split
 all_goals first
  |decide
  |(simp only[ByteArray.size_append];first | (have:xS.size=1:=rfl;omega) | (have:wS.size=1:=rfl;omega))
theorem sY (k n:Int):(ak k n).1.size≤40:=by
 by_cases h:(ak k n).2=0
 ·have e:ak k n=((ak k n).1,0):=by rw[←h]
  exact(there e).2.2
 ·have:(ak k n).1=emp:=by
   unfold ak at h ⊢
   repeat' split
   all_goals first
    |rfl
    |(rename_i h1 h2;exact Dj (by simpa[h1,h2] using h))
    |(exfalso;apply h;simp_all)
  rw[this]
  decide
theorem pz (n:Int):(nk n).size≤20:=Ex.decS_size _
theorem wN (v:Val):(Ex.printF v).1.size≤v.plus.size+v.minus.size+30:=by
 have h1:=Ex.decS_size v.add.toNat;have h2:=Ex.signS_size v.add;have h3:emp.size=0:=rfl;have h4:(⟨#[48]⟩:ByteArray).size=1:=rfl;have h5:(⟨#[45]⟩:ByteArray).size=1:=rfl;unfold Ex.printF
 repeat' split
 all_goals simp only[ByteArray.size_append]
 all_goals omega
theorem qd {o:OpV}(h:okO o):(mS o).size≤2199023255582:=by
 have:=wN o.val;obtain⟨⟨h1,h2⟩,-⟩:=h;have e1:o.val.plus.size=o.plus.size:=rfl;have e2:o.val.minus.size=o.minus.size:=rfl;unfold mS prO;omega
theorem pD {o:OpV}(h:okO o):(lE o).size≤2199023255590:=by
 have:=qd h;have h4:EQ.size=6:=rfl;have h5:aS.size=1:=rfl;unfold lE;split<;>simp only[ByteArray.size_append]<;>omega
theorem kF (o:OpV)(s:Bool):(mA o s).size≤64:=by
 have h1:=sY 3 o.md;have h2:=pz o.amt;have h3:emp.size=0:=rfl;have h4:dX.size=2:=rfl;have h5:Dq.size=2:=rfl;unfold mA
 repeat' split
 all_goals try simp only[ByteArray.size_append]
 all_goals omega
abbrev X1:ao prog 171 :=
 mz1 func171 (tOp) (okO) ((fun o=>.ret (sv (lE o)))) (asP fun o h=>by
 refine aq [⟨_,Q7⟩] rfl ?_;have ho:=rN h;have hz:=qd h;unfold mS prO at hz;have z1:1+(Ex.printF o.val).1.size≤maxLen:=by unfold maxLen;omega
 have z2:6+(Ex.printF o.val).1.size≤maxLen:=by unfold maxLen;omega
 cases g:o.lo
 ·simp only[go_sem,ah,opE,g,bZ,fW,ho,lE,aS,mS,prO,z1]
 ·simp only[go_sem,ah,opE,g,bZ,fW,ho,lE,EQ,mS,prO,z2])
abbrev LC:ao prog 170 :=
 mz2 func170 (tOp) (UW) ((fun o s=>o.md=0∨s=true∨0≤o.amt∧o.amt<100)) ((fun o s=>.ret (sv (mA o s)))) (asP fun o s h=>by
 refine aq [⟨_,nameS⟩,⟨_,XV⟩] rfl ?_;have hn:=sY 3 o.md;have hi:=pz o.amt;have z1:2+(ak 3 o.md).1.size≤maxLen:=by unfold maxLen;omega
 have z2:2+(ak 3 o.md).1.size+2≤maxLen:=by unfold maxLen;omega
 have z3:2+(ak 3 o.md).1.size+2+(nk o.amt).size≤maxLen:=by unfold maxLen;omega
 by_cases g:o.md=0
 ·simp only[go_sem,ah,opE,eq_true g,mA,ac]
 cases s
 ·have h2:0≤o.amt∧o.amt<100:=by
   rcases h with h | h | h
   ·exact absurd h g
   ·cases h
   ·exact h
  simp only[go_sem,ah,opE,g,name_run,name_pan,cu,h2,mA,dX,Dq,z1,z2,z3]
 ·simp only[go_sem,ah,opE,g,name_run,name_pan,cu,mA,dX,z1])
abbrev VG:ao prog 173 :=
 mz2 func173 (bN .i64) (bN .i64) ((fun k n=>(ak k n).2=0∨0≤n∧n<100)) ((fun k n=>.ret (sv (dF k n)))) (asP fun k n h=>by
 refine aq [⟨_,nameS⟩,⟨_,Y7⟩] rfl ?_;by_cases g:(ak k n).2=0
 ·simp only[go_sem,name_run,name_pan,cu,eq_true g,dF]
 ·have h2:0≤n∧n<100:=h.resolve_left g;have hi:=pz n;have z1:1+(nk n).size≤maxLen:=by unfold maxLen;omega
  simp only[go_sem,name_run,name_pan,cu,g,h2,dF,aS,z1])
theorem cY {o:OpV}(h:fh o=0):iO o=true∧(prO o).2=0∧(o.kind=3→o.plus=emp∨ff 3 o.plus=false):=by
 unfold fh at h;split at h
 ·cases h
 rename_i h1;split at h
 ·rename_i h2;exact absurd h h2
 rename_i h2;split at h
 ·cases h
 rename_i h3;refine⟨by simpa using h1,by simpa using h2,fun hk=>?_⟩;by_cases e:o.plus=emp
 ·exact .inl e
 ·cases hw:ff 3 o.plus
  ·exact .inr rfl
  ·exact absurd ⟨hk,e,hw⟩ h3
theorem rB {o:OpV}{m:Int}(h:dD o m=true):(0≤o.md∧o.md≤m)∧0≤o.amt∧o.amt<100:=by
 unfold dD at h;rw[decide_eq_true_eq]at h;omega
theorem cI {o:OpV}(h:iO o=true):cM o=o∧((o.kind=1∧eO o.r=true∧dD o 12=true)∨(o.kind=2∧dD o 1=true)∨o.kind=3∨((o.kind=4∨o.kind=6∨o.kind=7∨o.kind=8∨o.kind=9)∧0≤o.n∧o.n≤ka o.kind)∨(o.kind=5∧fj o=true)):=by
 unfold iO at h;split at h
 ·cases h
 rename_i h0;refine⟨by simpa using h0,?_⟩;split at h
 ·rename_i h1;rw[Bool.and_eq_true]at h;exact .inl ⟨h1,h⟩
 split at h
 ·rename_i h1;exact .inr (.inl ⟨h1,h⟩)
 split at h
 ·rename_i h1;exact .inr (.inr (.inl h1))
 split at h
 ·rename_i h1;rw[Bool.and_eq_true,decide_eq_true_eq,decide_eq_true_eq]at h;exact .inr (.inr (.inr (.inl ⟨h1,h⟩)))
 split at h
 ·rename_i h1;exact .inr (.inr (.inr (.inr ⟨h1,h⟩)))
 ·cases h
theorem oC {o:OpV}(h:fj o=true):eO o.r=true∧o.r.x=true∧(o.mode=0∨o.mode=1∨o.mode=2∨(o.mode=3∧eA o=true)):=by
 unfold fj at h;simp only[Bool.and_eq_true,decide_eq_true_eq,Bool.or_eq_true]at h;obtain⟨⟨⟨⟨⟨h1,h2⟩,h3⟩,h4⟩,h5⟩,h6⟩:=h;refine⟨h1,h2,?_⟩;rcases h6 with h6 | h6
 ·omega
 ·by_cases e:o.mode=3
  ·exact .inr (.inr (.inr ⟨e,h6⟩))
  ·omega
theorem Lh {o:OpV}(h:eA o=true) : -1≤o.amt∧o.amt<100:=by
 unfold eA at h;split at h
 ·cases h
 ·rename_i h1;simp only[not_or]at h1;omega
theorem BH {n:Int}(h0:0≤n)(h1:n≤15):(ak 2 n).2=0:=by
 have:∀k:Fin 16,(ak 2 (k.val:Int)).2=0:=by decide +kernel
 have:=this ⟨n.toNat,by omega⟩
 rwa [show(((⟨n.toNat,by omega⟩:Fin 16).val:Nat):Int)=n by simp only;omega]at this
theorem EW {n:Int}(h0:0≤n)(h1:n≤32767):(ak 6 n).2=0:=by
 unfold ak;rw[if_neg (by decide)];split
 ·rfl
 ·rw[if_pos ⟨rfl,h0,by omega⟩]
theorem VC (o:OpV)(hO:okO o)(hm:fj o=true):Sw f174 0 ⟨0,aA 0 [tOp.enc o],[]⟩ (oQ f174 (.ret (sv (iz o)))):=by
 refine aq [⟨_,Fv⟩,⟨_,X1⟩,⟨_,LC⟩] rfl ?_;obtain⟨m1,m2,m3⟩:=oC hm;have hR:=ia o.r;have hM:=ia o.m;have hL:=pD hO;have hX:=kF o (o.amt == -1);obtain⟨a,ha⟩:∃a,dy o.r=a:=⟨_,rfl⟩;obtain⟨b,hb⟩:∃b,dy o.m=b:=⟨_,rfl⟩;obtain⟨l,hl⟩:∃l,lE o=l:=⟨_,rfl⟩;obtain⟨x,hx⟩:∃x,mA o (o.amt == -1)=x:=⟨_,rfl⟩;rw[show(aJ o.r).1=a from ha]at hR;rw[show(aJ o.m).1=b from hb]at hM;rw[hl]at hL;rw[hx]at hX;have z1:1+a.size≤maxLen:=by unfold maxLen;omega
 have z2:1+a.size+2≤maxLen:=by unfold maxLen;omega
 have z3:1+a.size+2+l.size≤maxLen:=by unfold maxLen;omega
 have z4:1+a.size+2+l.size+2≤maxLen:=by unfold maxLen;omega
 have z5:1+a.size+3≤maxLen:=by unfold maxLen;omega
 have z6:1+a.size+3+l.size≤maxLen:=by unfold maxLen;omega
 have z7:1+a.size+2+b.size≤maxLen:=by unfold maxLen;omega
 have z8:1+a.size+2+b.size+1≤maxLen:=by unfold maxLen;omega
 have z9:1+a.size+2+b.size+x.size≤maxLen:=by unfold maxLen;omega
 have z10:1+a.size+2+b.size+x.size+1≤maxLen:=by unfold maxLen;omega
 have z11:1+a.size+1≤maxLen:=by unfold maxLen;omega
 have z12:1+a.size+2+l.size+1≤maxLen:=by unfold maxLen;omega
 by_cases e1:o.mode=1
 ·simp only[go_sem,ah,opE,opD,ar,ap,bF,hO,iz,ha,hl,brS,dX,SB,eq_true e1,z1,z2,z3,z4]
 by_cases e2:o.mode=2
 ·simp only[go_sem,ah,opE,opD,ar,ap,bF,hO,iz,ha,hl,brS,Ok,e1,eq_true e2,z1,z5,z6]
 by_cases e3:o.mode=3
 ·have hi:eA o=true:=by
   rcases m3 with h | h | h | h
   ·omega
   ·omega
   ·omega
   ·exact h.2
  have hamt:=Lh hi;by_cases e4:o.amt = -1
  ·by_cases e5:o.md=1
   ·simp only[go_sem,ah,opE,opD,ar,ap,bF,iz,ha,hb,brS,dX,ekS,e1,e2,eq_true e3,eq_true e4,eq_true e5,z1,z2,z7,z8]
   ·simp only[go_sem,ah,opE,opD,ar,ap,bF,iz,ha,hb,e1,e2,eq_true e3,eq_true e4,e5,z1,false_and];refine sD mixed [⟨_,Fv⟩,⟨_,LC⟩] [] ?_;simp only[go_sem,ah,opE,opD,ar,ap,bF,ha,hb,hx,brS,dX,ekS,eq_true e4,z2,z7,z9,z10]
  ·have hq:0≤o.amt∧o.amt<100:=by omega
   by_cases e5:o.md=1
   ·skip
    simp only[go_sem,ah,opE,opD,ar,ap,bF,iz,ha,hb,e1,e2,eq_true e3,e4,eq_true e5,z1,and_false];refine sD mixed [⟨_,Fv⟩,⟨_,LC⟩] [] ?_;simp only[go_sem,ah,opE,opD,ar,ap,bF,ha,hb,hx,brS,dX,ekS,e4,hq,z2,z7,z9,z10]
   ·skip
    simp only[go_sem,ah,opE,opD,ar,ap,bF,iz,ha,hb,e1,e2,eq_true e3,e4,e5,z1,and_false,false_and];refine sD mixed [⟨_,Fv⟩,⟨_,LC⟩] [] ?_;simp only[go_sem,ah,opE,opD,ar,ap,bF,ha,hb,hx,brS,dX,ekS,e4,hq,z2,z7,z9,z10]
 by_cases v1:o.add=0
 case neg=>simp only[go_sem,ah,opE,opD,ar,ap,bF,hO,iz,ha,hl,brS,dX,ekS,e1,e2,e3,je,oL,jx,jZ,i7,v1,Bool.false_and,false_and,z1,z2,z3,z12]
 by_cases v2:o.plus=emp
 case neg=>simp only[go_sem,ah,opE,opD,ar,ap,bF,hO,iz,ha,hl,brS,dX,ekS,e1,e2,e3,je,oL,jx,jZ,i7,ac,eq_true v1,v2,Bool.false_and,false_and,and_false,z1,z2,z3,z12]
 by_cases v3:o.minus=emp
 case neg=>simp only[go_sem,ah,opE,opD,ar,ap,bF,hO,iz,ha,hl,brS,dX,ekS,e1,e2,e3,je,oL,jx,jZ,i7,ac,eq_true v1,eq_true v2,v3,Bool.false_and,false_and,and_false,z1,z2,z3,z12]
 cases v4:o.lo
 ·simp only[go_sem,ah,opE,opD,ar,ap,bF,iz,ha,hl,brS,ekS,e1,e2,e3,je,oL,jx,jZ,i7,ac,eq_true v1,eq_true v2,eq_true v3,v4,z1,z11]
 ·have eL:(⟨o.kind,o.r,o.m,o.md,o.amt,o.n,o.add,o.plus,o.minus,true,o.mode⟩:OpV)=o:=by rw[←v4]
  simp only[go_sem,ah,opE,opD,ar,ap,bF,hO,iz,ha,hl,brS,dX,ekS,e1,e2,e3,je,oL,jx,jZ,i7,ac,eq_true v1,eq_true v2,eq_true v3,v4,eL,and_false,z1,z2,z3,z12]
abbrev Y9:ao prog 174 :=
 mz1 func174 (tOp) ((fun o=>okO o∧fj o=true)) ((fun o=>.ret (sv (iz o)))) (asP fun o h=>VC o h.1 h.2)
theorem W9 (o:OpV)(hO:okO o)(hc:fh o=0):Sw f127 0 ⟨0,aA 0 [tOp.enc o],[]⟩ (oQ f127 (.ret (sv (aO o)))):=by
 refine aq [⟨_,NM⟩,⟨_,Q7⟩,⟨_,VG⟩,⟨_,Y9⟩] rfl ?_;obtain⟨hf,hp,hw⟩:=cY hc;obtain⟨hb,hk⟩:=cI hf;have hR:=ia o.r;have hV:=qd hO;have ho:=rN hO;rcases hk with ⟨k1,hr,ha⟩ | ⟨k2,ha⟩ | k3 | ⟨hk,n0,n1⟩ | ⟨k5,hm⟩
 ·obtain⟨-,a0,a1⟩:=rB ha;have hq:0≤o.amt∧o.amt<100:=⟨a0,a1⟩
  have fin:∀s:Bool,(decide (5≤o.md)&&(o.amt==0))=s→aO o=dy o.r++mA o s:=fun s hs=>by
   unfold aO;rw[if_pos k1,←hs];rfl
  have hz:∀s:Bool,(dy o.r).size+(mA o s).size≤maxLen:=fun s=>by
   have:=kF o s;have e:(dy o.r).size≤4:=hR;unfold maxLen;omega
  simp only[go_sem,ah,opE,eq_true k1];refine sD mixed [⟨_,Fv⟩,⟨_,LC⟩] [] ?_;by_cases g:5≤o.md
  ·cases hB:(o.amt==0) with
   |false =>
    rw[fin false (by rw[decide_eq_true g,hB];rfl)];simp only[go_sem,ah,opE,opD,ar,ap,bF,hq,g,hB,hz]
   |true =>
    rw[fin true (by rw[decide_eq_true g,hB];rfl)];simp only[go_sem,ah,opE,opD,ar,ap,bF,hq,g,hB,hz]
  ·rw[fin false (by rw[decide_eq_false g];rfl)];simp only[go_sem,ah,opE,opD,ar,ap,bF,hq,g,hz]
 ·obtain⟨-,a0,a1⟩:=rB ha;have hq:0≤o.amt∧o.amt<100:=⟨a0,a1⟩;have q1:¬o.kind=1:=by omega
  have hz:(lE o).size+(mA o false).size≤maxLen:=by
   have h1:=kF o false;have h2:=pD hO;unfold maxLen;omega
  simp only[go_sem,ah,opE,q1,eq_true k2,aO];refine sD mixed [⟨_,X1⟩,⟨_,LC⟩] [] ?_;simp only[go_sem,ah,opE,opD,ar,ap,hO,hq,hz]
 ·have q1:¬o.kind=1:=by omega
  have q2:¬o.kind=2:=by omega
  have z1:1+(mS o).size≤maxLen:=by unfold maxLen;omega
  have eV:(Ex.printF o.val).1=mS o:=rfl;cases hA:ly o
  ·have hA':(decide (o.val.plus=emp)&&decide (o.val.minus=emp))=false:=hA;simp only[go_sem,ah,opE,q1,q2,eq_true k3,aO,hA,hA',bZ,fW,ho,eV]
  ·have hA':(decide (o.val.plus=emp)&&decide (o.val.minus=emp))=true:=hA;simp only[go_sem,ah,opE,q1,q2,eq_true k3,aO,hA,hA',bZ,fW,ho,eV,aS,z1]
 ·have q1:¬o.kind=1:=by omega
  have q2:¬o.kind=2:=by omega
  have q3:¬o.kind=3:=by omega
  rcases hk with h | h | h | h | h
  ·have e:(ak 2 o.n).2=0:=BH n0 (by rw[h]at n1;exact n1);simp only[go_sem,ah,opE,q1,q2,q3,eq_true h,aO,e]
  ·have e:(ak 6 o.n).2=0:=EW n0 (by rw[h]at n1;exact n1);have q4:¬o.kind=4:=by omega
   simp only[go_sem,ah,opE,q1,q2,q3,q4,eq_true h,aO,e]
  ·have e:0≤o.n∧o.n<100:=by
    rw[h]at n1;have:ka 7=15:=rfl;omega
   have q4:¬o.kind=4:=by omega
   have q6:¬o.kind=6:=by omega
   simp only[go_sem,ah,opE,q1,q2,q3,q4,q6,eq_true h,aO,e]
  ·have e:0≤o.n∧o.n<100:=by
    rw[h]at n1;have:ka 8=31:=rfl;omega
   have q4:¬o.kind=4:=by omega
   have q6:¬o.kind=6:=by omega
   have q7:¬o.kind=7:=by omega
   simp only[go_sem,ah,opE,q1,q2,q3,q4,q6,q7,eq_true h,aO,e]
  ·have e:0≤o.n∧o.n<100:=by
    rw[h]at n1;have:ka 9=5:=rfl;omega
   have q4:¬o.kind=4:=by omega
   have q6:¬o.kind=6:=by omega
   have q7:¬o.kind=7:=by omega
   have q8:¬o.kind=8:=by omega
   simp only[go_sem,ah,opE,q1,q2,q3,q4,q6,q7,q8,eq_true h,aO,e]
 ·have q1:¬o.kind=1:=by omega
  have q2:¬o.kind=2:=by omega
  have q3:¬o.kind=3:=by omega
  have q4:¬o.kind=4:=by omega
  have q6:¬o.kind=6:=by omega
  have q7:¬o.kind=7:=by omega
  have q8:¬o.kind=8:=by omega
  have q9:¬o.kind=9:=by omega
  simp only[go_sem,ah,opE,opD,ar,ap,q1,q2,q3,q4,q6,q7,q8,q9,aO,hO,hm]
abbrev YR:ao prog 127 :=
 mz1 func127 (tOp) ((fun o=>okO o∧fh o=0)) ((fun o=>.ret (sv (aO o)))) (asP fun o h=>W9 o h.1 h.2)
theorem Hs {o:OpV}(h:okO o):(iz o).size≤2199023255700:=by
 have h1:=ia o.r;have h2:=ia o.m;have h3:=pD h;have h4:=kF o (o.amt == -1);have e1:(dy o.r).size≤4:=h1;have e2:(dy o.m).size≤4:=h2;have f1:brS.size=1:=rfl;have f2:dX.size=2:=rfl;have f3:ekS.size=1:=rfl;have f4:SB.size=2:=rfl;have f5:Ok.size=3:=rfl;unfold iz
 repeat' split
 all_goals simp only[ByteArray.size_append]
 all_goals omega
theorem C6 (k n:Int):(dF k n).size≤40:=by
 have h1:=sY k n;have h2:=pz n;have f1:aS.size=1:=rfl;unfold dF;split
 ·exact h1
 ·simp only[ByteArray.size_append];omega
theorem tr {o:OpV}(h:okO o):(aO o).size≤2199023255800:=by
 have h1:=ia o.r;have e1:(dy o.r).size≤4:=h1;have h2:=kF o (decide (5≤o.md)&&decide (o.amt=0));have h3:=kF o false;have h4:=pD h;have h5:=qd h;have h6:=Hs h;have f1:aS.size=1:=rfl;have g:=fun k=>C6 k o.n;have g2:=g 2;have g6:=g 6;have g4:=g 4;have g7:=g 7;have g8:=g 8;unfold aO
 repeat' split
 all_goals try simp only[ByteArray.size_append]
 all_goals omega
section
open Go.RowKit Go.Shelf
def JT:Ren:=⟨fun k=>if k=156 then 41 else if k=165 then 94 else if k=166 then 64 else if k=169 then 66 else if k=240 then 129 else if k=241 then 146 else if k=276 then 176 else if k=277 then 191 else k,
 fun k=>if k=0 then 0 else if k=3 then 3 else if k=4 then 4 else if k=5 then 5 else if k=9 then 9 else if k=20 then 20 else if k=31 then 34 else if k=37 then 39 else if k=70 then 104 else if k=72 then 106 else if k=75 then 109 else if k=76 then 110 else if k=80 then 113 else if k=127 then 160 else if k=164 then 193 else k,
 fun k=>k⟩
theorem UI:Go.Proofs.Lays.n156 prog JT where
 mixed:=by kernel_rfl
 f156:=by kernel_rfl
 f165:=by kernel_rfl
 f166:=by kernel_rfl
 f169:=by kernel_rfl
 f240:=by kernel_rfl
 f241:=by kernel_rfl
 f276:=by kernel_rfl
 f277:=by kernel_rfl
 t0:=by kernel_rfl
 a0:=fun w=>by kernel_rfl
 z0:=fun w=>by kernel_rfl
 v0:=fun w=>by kernel_rfl
 t3:=by kernel_rfl
 a3:=fun w=>by kernel_rfl
 z3:=fun w=>by kernel_rfl
 v3:=fun w=>by kernel_rfl
 t4:=by kernel_rfl
 a4:=fun w=>by kernel_rfl
 z4:=fun w=>by kernel_rfl
 v4:=fun w=>by kernel_rfl
 t9:=by kernel_rfl
 a9:=fun w=>by kernel_rfl
 z9:=fun w=>by kernel_rfl
 v9:=fun w=>by kernel_rfl
 t20:=by kernel_rfl
 a20:=fun w=>by kernel_rfl
 z20:=fun w=>by kernel_rfl
 v20:=fun w=>by kernel_rfl
 t31:=by kernel_rfl
 a31:=fun w=>by kernel_rfl
 z31:=fun w=>by kernel_rfl
 v31:=fun w=>by kernel_rfl
 t37:=by kernel_rfl
 a37:=fun w=>by kernel_rfl
 z37:=fun w=>by kernel_rfl
 v37:=fun w=>by kernel_rfl
 t70:=by kernel_rfl
 a70:=fun w=>by kernel_rfl
 z70:=fun w=>by kernel_rfl
 v70:=fun w=>by kernel_rfl
 t72:=by kernel_rfl
 a72:=fun w=>by kernel_rfl
 z72:=fun w=>by kernel_rfl
 v72:=fun w=>by kernel_rfl
 t75:=by kernel_rfl
 a75:=fun w=>by kernel_rfl
 z75:=fun w=>by kernel_rfl
 v75:=fun w=>by kernel_rfl
 t76:=by kernel_rfl
 a76:=fun w=>by kernel_rfl
 z76:=fun w=>by kernel_rfl
 v76:=fun w=>by kernel_rfl
 t127:=by kernel_rfl
 a127:=fun w=>by kernel_rfl
 z127:=fun w=>by kernel_rfl
 v127:=fun w=>by kernel_rfl
 t164:=by kernel_rfl
 a164:=fun w=>by kernel_rfl
 z164:=fun w=>by kernel_rfl
 v164:=fun w=>by kernel_rfl
theorem jnX:Go.Proofs.Builder.Extra prog JT where
 sizeBuilder:=by kernel_rfl
 liesBuilder:=by kernel_rfl
 t5:=by kernel_rfl
 a5:=fun w=>by kernel_rfl
 z5:=fun w=>by kernel_rfl
 v5:=fun w=>by kernel_rfl
 infoByte:=by kernel_rfl
 cellsByte:=by kernel_rfl
 sizeByte:=by kernel_rfl
 neB5:=by decide
abbrev qi:Ty (List ByteArray):=tSl 1 dZ
def oz (l:List ByteArray)(p:ByteArray):ByteArray:=⟨(Lib.join (l.map (·.data.toList)) p.data.toList).toArray⟩
abbrev yX:ao prog 41 :=
 Hw _ (asP fun _ _=>by go_simp) qi bu (fun l p=>l.length≤1000000∧(oz l p).size≤140737488355328) (fun l p=>sv (oz l p)) (asP fun _ _=>rfl) (asP fun l p hq M w u v hM hu hv=>by
  have hv':v=.string p:=hv;subst hv';have hu':DRep M (.sd 1 (l.map dZ.enc)) u:=hu;simp only[DRep]at hu';obtain⟨A,cap,rfl,hc,hA⟩:=hu';rw[List.length_map]at hc ⊢
  have hz:(Lib.join (l.map (·.data.toList)) p.data.toList).length≤140737488355328:=by
   have:=hq.2;unfold oz at this;simpa[ByteArray.size] using this
  cases l with
  |nil =>
   refine(Any.strings_Join_none (ρ:=JT) UI jnX A cap p w).mono fun e w' ⟨he,hw⟩=>⟨⟨_,he,rfl⟩,hw▸Below.refl _ _⟩
  |cons x r =>
   obtain⟨blk,off,rfl,hat⟩:=hA (by simp)
   have e:(x::r).map dZ.enc=((x::r).map fun s=>[Value.string s]).map fun e=>e.map D.v:=by
    rw[List.map_map];rfl
   rw[e]at hat;have hg:=vh hat
   have hf:((x::r).map fun s=>[Value.string s]).flatten=(x::r).map Value.string:=by
    rw[←List.flatMap_def]
    induction (x::r) with
    |nil=>rfl
    |cons a t ih=>rw[List.flatMap_cons,ih];rfl
   rw[hf]at hg;have hcell:∀(j:Nat) y,(x::r)[j]? = some y→w.cell? ⟨blk,off+j,none⟩=some (.string y):=fun j y hj=>hM _ _ _ (hg j _ (by rw[List.getElem?_map,hj];rfl))
   have hblk:blk<w.heap.size:=by
    obtain⟨q,h1,_⟩:=iw (hcell 0 x rfl);exact(Array.getElem?_eq_some_iff.1 h1).1
   refine(Any.strings_Join (ρ:=JT) UI jnX blk off cap (x::r) p w hcell hblk (by have:=hq.1;omega) hc hz).mono fun e w' ⟨he,hw⟩=>⟨⟨_,he,rfl⟩,hw⟩)
def cO:List ByteArray→ByteArray
 |[]=>emp
 |x::r=>r.foldl (fun a y=>a++dX++y) x
theorem BA:∀(r:List ByteArray) (x:ByteArray),(r.foldl (fun a y=>a++dX++y) x).data.toList=x.data.toList++Lib.joinTail dX.data.toList (r.map (·.data.toList))
 |[],x=>by simp[Lib.joinTail]
 |y::r,x=>by
  rw[List.foldl_cons,BA r];have e:(x++dX++y).data.toList=x.data.toList++(dX.data.toList++y.data.toList):=by simp[ByteArray.data_append,Array.toList_append]
  rw[e,map_cons];simp[Lib.joinTail,List.append_assoc]
theorem qJ (l:List ByteArray):oz l dX=cO l:=by
 cases l with
 |nil=>rfl
 |cons x r =>
  apply ByteArray.ext;rw[←Array.toList_inj];show _=(r.foldl (fun a y=>a++dX++y) x).data.toList;rw[BA,←Lib.join_cons];rfl
end
def fL (s:ByteArray):Bool:=decide (0≤Lib.indexByte s.data.toList 44)
abbrev Bg:ao prog 128 :=
 mz2 func128 (bu) (bu) ((fun _ p=>p.size=1)) ((fun s p=>.ret (bv (decide (0≤Lib.indexByte s.data.toList (hdU p)))))) (asP fun s p hp=>by
 refine aq [⟨_,G8⟩] rfl ?_;simp only[go_sem,hp])
abbrev nL:ao prog 47 :=
 mz2 func47 (bu) (bu) ((fun _ _=>True)) ((fun s p=>.ret (bv (bL s p)))) (asP fun s p _=>by
 refine aq [⟨_,qI⟩] rfl ?_;simp only[go_sem,c9,cZ])
def qx:List OpV→Int
 |[]=>0
 |o::r=>if fh o=0 then qx r else fh o
theorem uT:∀{l:List OpV} {i:Nat} {o:OpV},(∀j p,j<i→l[j]? = some p→fh p=0)→l[i]? = some o→¬fh o=0→qx l=fh o
 |[],i,o,_,h,_=>by cases h
 |x::l,0,o,_,h,hc=>by
  injection h with h;subst h;rw[qx,if_neg hc]
 |x::l,i+1,o,hn,h,hc=>by
  rw[qx,if_pos (hn 0 x (Nat.zero_lt_succ _) rfl)];exact uT (i:=i) (fun j p hj hp=>hn (j+1) p (by omega) (by simpa using hp)) (by simpa using h) hc
theorem uU:∀{l:List OpV},(∀o∈l,fh o=0)→qx l=0
 |[],_=>rfl
 |x::l,h=>by
  rw[qx,if_pos (h x (by simp))];exact uU fun o ho=>h o (by simp[ho])
def fI (a b:OpV):Bool:=bL (aO b) aS&&(a.kind==5)&&!fL (aO a)
def jj:List OpV→Bool
 |[]=>false
 |[_]=>false
 |a::b::r=>fI a b||jj (b::r)
theorem sE:∀{l:List OpV} {i:Nat} {a b:OpV},l[i]? = some a→l[i+1]? = some b→fI a b=true→jj l=true
 |[],i,a,b,h,_,_=>by cases h
 |[x],i,a,b,_,h,_=>by simp at h
 |x::y::l,0,a,b,h,h1,hb=>by
  injection h with h;injection h1 with h1;subst h h1;rw[jj,hb];rfl
 |x::y::l,i+1,a,b,h,h1,hb=>by
  rw[jj,sE (l:=y::l) (i:=i) (by simpa using h) (by simpa using h1) hb,Bool.or_true]
theorem sF:∀{l:List OpV},(∀i a b,l[i]? = some a→l[i+1]? = some b→fI a b=false)→jj l=false
 |[],_=>rfl
 |[x],_=>rfl
 |x::y::l,h=>by
  rw[jj,h 0 x y rfl rfl,sF (l:=y::l) fun i a b h1 h2=>h (i+1) a b (by simpa using h1) (by simpa using h2)];rfl
def eE (l:List OpV):ByteArray×Int :=
 if ¬qx l=0 then(emp,qx l) else if 8<l.length then(emp,3) else if jj l=true then(emp,100) else(cO (l.map aO),0)
abbrev xq:Ty (List OpV):=tSl 15 opR
def p9 (r:ByteArray×Int):AV:=.tup [.l (.v (.string r.1)),.l (.v (.int .i64 r.2))]
def AZ (l:List ByteArray):Blk:=⟨true,9,1,(l.map fun s=>[D.v (.string s)]).map bw⟩
theorem Yx (s:ByteArray):dZ.enc s=[.v (.string s)]:=rfl
theorem He:∀{l:List OpV},l.length≤8→(∀o∈l,okO o)→(cO (l.map aO)).size≤140737488355328:=by
 have key:∀(r:List OpV) (x:ByteArray),(∀o∈r,okO o)→((r.map aO).foldl (fun a y=>a++dX++y) x).size≤x.size+r.length*2199023255802:=by
  intro r
  induction r with
  |nil=>intro x _;simp
  |cons o r ih =>
   intro x h;have h1:=tr (h o (by simp));have h2:=ih (x++dX++aO o) fun p hp=>h p (by simp[hp]);have h3:dX.size=2:=rfl;rw[map_cons,List.foldl_cons,List.length_cons];simp only[ByteArray.size_append]at h2;omega
 intro l hl h;cases l with
 |nil=>decide
 |cons o r =>
  have h1:=tr (h o (by simp));have h2:=key r (aO o) fun p hp=>h p (by simp[hp]);simp only[List.length_cons]at hl;show((r.map aO).foldl _ (aO o)).size≤_;omega
theorem QY (l:List OpV)(hl:l.length≤1000000)(hO:∀o∈l,okO o):Sw f62 0 ⟨0,aA 0 [xq.enc l],[]⟩ (oQ f62 (.ret (p9 (eE l)))):=by
 refine aq [⟨_,yX⟩] rfl ?_;simp only[go_sem];refine bm (ι:=Nat) (fun i=>i≤l.length∧∀j p,j<i→l[j]? = some p→fh p=0) (fun i=>⟨0,[(0,xq.enc l),(11,xq.enc l),(12,iv l.length),(13,iv i)],[]⟩) (fun i=>l.length-i) 0 ⟨Nat.zero_le _,fun j p hj=>absurd hj (Nat.not_lt_zero _)⟩ (wR []) ?_;rintro i ⟨hi,hn⟩;refine aw [⟨_,XE⟩] ?_;by_cases hlt:i<l.length
 ·have hltI:(i:Int)<l.length:=by omega
  obtain⟨o,ho⟩:∃o,l[i]? = some o:=⟨_,List.getElem?_eq_getElem hlt⟩;have hok:=hO o (List.mem_of_getElem? ho);have ei:=wI i;by_cases hc:fh o=0
  ·simp only[go_sem,hltI,hlt,ho,ah,opE,opD,ar,ap,hok,eq_true hc,ei]
   exact⟨i+1,⟨hlt,fun j p hj hp=>by
    by_cases e:j=i
    ·subst e;rw[ho]at hp;injection hp with hp;rw[←hp];exact hc
    ·exact hn j p (by omega) hp⟩,by omega,wR []⟩
  ·have e:eE l=(emp,fh o):=by unfold eE;rw[uT hn ho hc,if_pos hc]
   simp only[go_sem,hltI,hlt,ho,ah,opE,opD,ar,ap,hok,hc,e,p9,ac]
 obtain rfl:i=l.length:=by omega
 have hI:¬(l.length:Int)<l.length:=by omega
 have hall:∀o∈l,fh o=0:=fun o ho=>by
  obtain⟨j,hj,he⟩:=List.mem_iff_getElem.1 ho;exact hn j o hj (by rw[List.getElem?_eq_getElem hj,he])
 have h0:=uU hall;by_cases h8:8<l.length
 ·have h8I:(8:Int)<l.length:=by omega
  have e:eE l=(emp,3):=by unfold eE;rw[if_neg (by rw[h0];simp),if_pos h8]
  simp only[go_sem,hI,h8I,e,p9,ac]
 have h8I:¬(8:Int)<l.length:=by omega
 have hF:eE l=if jj l=true then(emp,100) else(cO (l.map aO),0):=by unfold eE;rw[if_neg (by rw[h0];simp),if_neg h8]
 simp only[go_sem,hI,h8I];refine bm (ι:=Nat) (fun i=>i≤l.length∧∀j a b,j+1<i→l[j]? = some a→l[j+1]? = some b→fI a b=false) (fun i=>⟨1,[(0,xq.enc l),(26,xq.enc l),(27,iv l.length),(28,iv i),(7,.s (.l (.sl 0 0 i)))],[(0,some (AZ ((l.take i).map aO)))]⟩) (fun i=>l.length-i) 0 ⟨Nat.zero_le _,fun j a b hj=>absurd hj (by omega)⟩ ?_ ?_
 ·exact(Wk.nil 7 9 1 rfl).trans (wR [128])
 rintro i ⟨hi,hn2⟩;refine aw [⟨_,YR⟩,⟨_,nL⟩,⟨_,Bg⟩] ?_;by_cases hlt:i<l.length
 ·have hltI:(i:Int)<l.length:=by omega
  obtain⟨o,ho⟩:∃o,l[i]? = some o:=⟨_,List.getElem?_eq_getElem hlt⟩;have hok:=hO o (List.mem_of_getElem? ho);have hch:=hall o (List.mem_of_getElem? ho);have ei:=wI i;have hT:(l.take (i+1)).map aO=(l.take i).map aO++[aO o]:=by rw[List.take_add_one,ho,List.map_append];rfl
  have hlen:((l.take i).map aO).length=i:=by rw[List.length_map,List.length_take];omega
  obtain⟨T,hTT⟩:∃T,(l.take i).map aO=T:=⟨_,rfl⟩;rw[hTT]at hT hlen;have hK:List.take i ((T.map (fun s=>[D.v (.string s)])).map bw)=(T.map (fun s=>[D.v (.string s)])).map bw:=List.take_of_length_le (by simp[hlen]);have hK2:(T.map (fun s=>[D.v (.string s)])).map bw++[[LV.v (.string (aO o))]]=((T++[aO o]).map (fun s=>[D.v (.string s)])).map bw:=by rw[List.map_append,List.map_append];rfl
  have m1:i+1≤maxLen:=by unfold maxLen;omega
  have m2:(i+1)*16≤140737488355328:=by omega
  cases i with
  |zero =>
   have z0:(0:Int)<(l.length:Int):=by omega
   have z1:IntKind.i64.wrap ((0:Int)+1)=((0+1:Nat):Int):=rfl;have hTn:T=[]:=List.eq_nil_of_length_eq_zero hlen;subst hTn;simp only[go_sem,hltI,hlt,ho,ah,opE,opD,ar,ap,hok,hch,hTT,AZ,hK,hK2,hlen,m1,m2,ei,z0,z1];exact⟨1,⟨hlt,fun j a b hj=>absurd hj (by omega)⟩,by omega,Wk.renL [337] (by simp) (Nat.le_refl 1) (by simp) rfl (by rw[hT];rfl)⟩
  |succ k =>
   have ek:IntKind.i64.wrap (((k+1:Nat):Int)-1)=(k:Int):=by rw[IntKind.wrap_i64];omega
   have hk:k<l.length:=by omega
   have p0:(0:Int)<((k+1:Nat):Int):=by omega
   have hkI:(k:Int)<((k+1:Nat):Int):=by omega
   obtain⟨a,ha⟩:∃a,l[k]? = some a:=⟨_,List.getElem?_eq_getElem hk⟩;have hTk:T[k]? = some (aO a):=by rw[←hTT,List.getElem?_map,List.getElem?_take,pS,ha];rfl
   have hU:hdU (⟨#[44]⟩:ByteArray)=44:=rfl;have hU1:(⟨#[44]⟩:ByteArray).size=1:=rfl;have hp1:bL (aO o) ⟨#[35]⟩=bL (aO o) aS:=rfl
   have go:fI a o=false→k+1+1≤l.length∧∀j p q,j+1<k+1+1→l[j]? = some p→l[j+1]? = some q→fI p q=false:=fun hb=>⟨hlt,fun j p q hj hp hq=>by
    by_cases e:j=k
    ·subst e;rw[ha]at hp;rw[ho]at hq;injection hp with hp;injection hq with hq;rw[←hp,←hq];exact hb
    ·exact hn2 j p q (by omega) hp hq⟩
   cases h1:bL (aO o) aS
   ·simp only[go_sem,hltI,hlt,ho,ah,opE,opD,ar,ap,hok,hch,hTT,AZ,p0,hp1,h1,hK,hK2,hlen,m1,m2,ei];exact⟨k+1+1,go (by unfold fI;rw[h1];rfl),by omega,Wk.renL [369] (by simp) (Nat.le_refl 1) (by simp) rfl (by rw[hT];simp only[hget,if_true,map_cons,map_nil,map_some,List.getD_cons_zero,Blk.ren,gZ,AZ])⟩
   by_cases h2:a.kind=5
   case neg =>
    simp only[go_sem,hltI,hlt,ho,ah,opE,opD,ar,ap,hok,hch,hTT,AZ,p0,hp1,h1,ek,hk,ha,h2,hK,hK2,hlen,m1,m2,ei];exact⟨k+1+1,go (by unfold fI;rw[beq_eq_false_iff_ne.2 h2];simp),by omega,Wk.renL [481] (by simp) (Nat.le_refl 1) (by simp) rfl (by rw[hT];simp only[hget,if_true,map_cons,map_nil,map_some,List.getD_cons_zero,Blk.ren,gZ,AZ])⟩
   cases h3:(decide (0≤Lib.indexByte (aO a).data.toList 44))
   ·have hb:fI a o=true:=by unfold fI fL;rw[h1,h3,h2];rfl
    rw[hF,if_pos (sE ha ho hb)];simp only[go_sem,hltI,hlt,ho,ah,opE,opD,ar,ap,hok,hch,hTT,AZ,p0,hp1,h1,ek,hk,ha,eq_true h2,hkI,hTk,Yx,hU1,hU,h3,p9,ac]
   ·simp only[go_sem,hltI,hlt,ho,ah,opE,opD,ar,ap,hok,hch,hTT,AZ,p0,hp1,h1,ek,hk,ha,eq_true h2,hkI,hTk,Yx,hU1,hU,h3,hK,hK2,hlen,m1,m2,ei];exact⟨k+1+1,go (by unfold fI fL;rw[h3];simp),by omega,Wk.renL [593] (by simp) (Nat.le_refl 1) (by simp) rfl (by rw[hT];simp only[hget,if_true,map_cons,map_nil,map_some,List.getD_cons_zero,Blk.ren,gZ,AZ])⟩
 ·obtain rfl:i=l.length:=by omega
  have hI:¬(l.length:Int)<l.length:=by omega
  have hb:jj l=false:=sF fun j a b h1 h2=>hn2 j a b (List.getElem?_eq_some_iff.1 h2).1 h1 h2;rw[if_neg (by rw[hb];simp)]at hF;have hj:oz (l.map aO) ⟨#[44,32]⟩=cO (l.map aO):=qJ _;have hs1:(l.map aO).length≤1000000:=by rw[List.length_map];exact hl
  have hs2:=He (l:=l) (by omega) hO;have htl:List.take l.length l=l:=List.take_length;have hK:List.take l.length (((l.map aO).map (fun s=>[D.v (.string s)])).map bw)=((l.map aO).map (fun s=>[D.v (.string s)])).map bw:=List.take_of_length_le (by simp);have hD:dg dZ.dec ((l.map aO).map dZ.enc)=some (l.map aO):=ez dZ _;simp only[dZ]at hD;simp only[go_sem,hI,hl,htl,AZ,hK,hD,hj,hs1,hs2,hF,p9]
abbrev Dy:ao prog 62 :=
 mz1 func62 (xq) ((fun l=>l.length≤1000000∧∀o∈l,okO o)) ((fun l=>.ret (p9 (eE l)))) (asP fun l h=>QY l h.1 h.2)
end Go.Proofs.YtnhbidpdadkcjaaGreatDoor
