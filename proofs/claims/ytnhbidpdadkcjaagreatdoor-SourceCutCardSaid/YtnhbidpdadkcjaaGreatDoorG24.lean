import Derived.Test.YtnhbidpdadkcjaaGreatDoorG23
open Go.RowKit
set_option linter.unusedVariables false
set_option linter.unusedSimpArgs false
set_option maxRecDepth 100000
set_option maxHeartbeats 8000000
namespace Go.Proofs.YtnhbidpdadkcjaaGreatDoor
open Tryz
abbrev JC:am prog 139 :=
 mz1 func139 (nX nZ) ((fun _=>True)) ((fun v=>.ret (bv (decide (v.plus=emp)&&decide (v.minus=emp))))) (asP fun v _=>by
 refine aq [] rfl ?_;obtain⟨a,p,m⟩:=v;by_cases h1:p=emp
 ·simp only[go_sem,E6,ak,eq_true h1]
 ·simp only[go_sem,E6,ak,h1,Bool.false_and])
abbrev sZ:am prog 210 :=
 mz1 func210 (nX gu) ((fun _=>True)) ((fun r=>.ret (bv (lc r)))) (asP fun r _=>by
 refine aq [⟨_,pc⟩] rfl ?_;simp only[go_sem,gu,eQ,lc];rfl)
abbrev BZ:am prog 169 :=
 mz1 func169 (nX gu) ((fun _=>True)) ((fun r=>.ret (sv (fj r)))) (asP fun r _=>by
 refine aq [⟨_,pc⟩] rfl ?_;simp only[go_sem,gu,eQ,fj])
abbrev Mw:am prog 172 :=
 mz1 func172 (nX nZ) (nt) ((fun v=>.ret (sv (Ex.printF v).1))) (asP fun v hv=>by
 refine aq [⟨_,Eg⟩] rfl ?_;obtain⟨a,p,m⟩:=v;simp only[go_sem,E6,fH,kB,jQ,hv])
abbrev Bx:am prog 212 :=
 mz1 func212 (bq .i64) ((fun _=>True)) ((fun k=>.ret (iv (kR k)))) (asP fun k _=>by
 refine aq [] rfl ?_;by_cases h1:k=6
 ·simp only[go_sem,eq_true h1,kR]
 by_cases h2:k=8
 ·simp only[go_sem,h1,eq_true h2,kR]
 by_cases h3:k=9
 ·simp only[go_sem,h1,h2,eq_true h3,kR]
 simp only[go_sem,h1,h2,h3,kR])
theorem Gf (o:OpV)(most:Int):Sw f211 0 ⟨0,ax 0 [tOp.enc o,(bq .i64).enc most],[]⟩ (oQ f211 (.ret (bv (ez o most)))):=by
 refine aq [] rfl ?_;obtain⟨kind,⟨rn,rx,rs⟩,⟨mn,mx,ms⟩,md,amt,n,add,plus,minus,lo,mode⟩:=o;by_cases h1:0≤md
 case neg=>simp only[go_sem,ap,opE,ez,h1,false_and]
 by_cases h2:md≤most
 case neg=>simp only[go_sem,ap,opE,ez,h1,h2,false_and,and_false]
 by_cases h3:0≤amt
 case neg=>simp only[go_sem,ap,opE,ez,h1,h2,h3,false_and,and_false]
 by_cases h4:amt≤63
 case neg=>simp only[go_sem,ap,opE,ez,h1,h2,h3,h4,false_and,and_false]
 by_cases h5:0<md
 ·simp only[go_sem,ap,opE,ez,h1,h2,h3,h4,h5]
 ·simp only[go_sem,ap,opE,ez,h1,h2,h3,h4,h5];rfl
abbrev Ni:am prog 211 :=
 mz2 func211 (tOp) (bq .i64) ((fun _ _=>True)) ((fun o m=>.ret (bv (ez o m)))) (asP fun o m _=>Gf o m)
theorem Kj (o:OpV):Sw f242 0 ⟨0,ax 0 [tOp.enc o],[]⟩ (oQ f242 (.ret (bv (dy o)))):=by
 refine aq [⟨_,sZ⟩] rfl ?_;obtain⟨kind,⟨rn,rx,rs⟩,⟨mn,mx,ms⟩,md,amt,n,add,plus,minus,lo,mode⟩:=o;cases h1:lc ⟨mn,mx,ms⟩
 ·simp only[go_sem,ap,opE,gu,dy,h1]
 cases ms
 case true=>simp only[go_sem,ap,opE,gu,dy,h1]
 by_cases h3:amt < -1
 ·simp only[go_sem,ap,opE,gu,dy,h1,h3]
 by_cases h4:63<amt
 ·simp only[go_sem,ap,opE,gu,dy,h1,h3,h4]
 by_cases h5:md=1
 ·simp only[go_sem,ap,opE,gu,dy,h1,h3,h4,eq_true h5,or_self]
 by_cases h6:md=12
 ·simp only[go_sem,ap,opE,gu,dy,h1,h3,h4,h5,eq_true h6,or_self]
 by_cases h7:md=7
 ·simp only[go_sem,ap,opE,gu,dy,h1,h3,h4,h5,h6,eq_true h7,or_self]
 by_cases h8:md=11
 ·simp only[go_sem,ap,opE,gu,dy,h1,h3,h4,h5,h6,h7,eq_true h8,or_self]
 simp only[go_sem,ap,opE,gu,dy,h1,h3,h4,h5,h6,h7,h8,or_self]
abbrev uC:am prog 242 :=
 mz1 func242 (tOp) ((fun _=>True)) ((fun o=>.ret (bv (dy o)))) (asP fun o _=>Kj o)
theorem mG {x y:Operand}{a b:Bool}:iU prog (do eqGuard .eql 4 x y (.bool a) (.bool b);binOp .eql 4 (.bool a) (.bool b))=some (.bool (a==b)):=by
  refine iV fun w=>?_;cases a<;>cases b<;>rfl
theorem Hq (o:OpV):Sw f213 0 ⟨0,ax 0 [tOp.enc o],[]⟩ (oQ f213 (.ret (bv (fe o)))):=by
 refine aq [⟨_,sZ⟩,⟨_,uC⟩] rfl ?_;obtain⟨kind,⟨rn,rx,rs⟩,⟨mn,mx,ms⟩,md,amt,n,add,plus,minus,lo,mode⟩:=o;cases h1:lc ⟨rn,rx,rs⟩
 ·simp only[go_sem,ap,opE,gu,fe,h1,Bool.false_and]
 cases rx
 case false=>simp only[go_sem,ap,opE,gu,fe,h1,Bool.false_and]
 cases h2:((rn==31)==rs)
 ·simp only[go_sem,↓mG,ap,opE,gu,fe,h1,h2,Bool.false_and]
 by_cases h3:0≤mode
 case neg=>simp only[go_sem,↓mG,ap,opE,gu,fe,h1,h2,h3,Bool.false_and]
 by_cases h4:mode≤3
 case neg=>simp only[go_sem,↓mG,ap,opE,gu,fe,h1,h2,h3,h4,Bool.false_and]
 by_cases h5:mode=3
 ·simp only[go_sem,↓mG,ap,opE,opD,gu,fe,h1,h2,h3,h4,eq_true h5,Bool.false_or]
 ·simp only[go_sem,↓mG,ap,opE,gu,fe,h1,h2,h3,h4,h5,Bool.true_or]
abbrev eC:am prog 213 :=
 mz1 func213 (tOp) ((fun _=>True)) ((fun o=>.ret (bv (fe o)))) (asP fun o _=>Hq o)
theorem Nv (o:OpV):Sw f209 0 ⟨0,ax 0 [tOp.enc o],[]⟩ (oQ f209 (.ret (opV (kH o)))):=by
 refine aq [] rfl ?_;obtain⟨kind,⟨rn,rx,rs⟩,⟨mn,mx,ms⟩,md,amt,n,add,plus,minus,lo,mode⟩:=o;by_cases h1:kind=1
 ·subst h1;simp only[go_sem,ap,opE,opV,kH,r0];refine bu (ctx:=[]) mixed ⟨[],[(7,[80]),(9,[80]),(11,[80])],[(2,[80]),(3,[80]),(4,[80]),(5,[80])]⟩ (by kernel_rfl) ?_;simp only[go_sem,ak]
 by_cases h2:kind=2
 ·subst h2;simp only[go_sem,ap,opE,opV,kH,r0];refine bu (ctx:=[]) mixed ⟨[],[(5,[80]),(7,[80])],[(2,[80]),(3,[80])]⟩ (by kernel_rfl) ?_;cases lo
  ·simp only[go_sem,ak];refine bu (ctx:=[]) mixed ⟨[],[(5,[80]),(7,[80])],[(2,[80]),(3,[80])]⟩ (by kernel_rfl) ?_;simp only[go_sem,ak]
  ·simp only[go_sem,ak]
 by_cases h3:kind=3
 ·subst h3;simp only[go_sem,ap,opE,opV,kH,r0,ak]
 by_cases h5:kind=5
 ·subst h5;simp only[go_sem,ap,opE,opV,kH,r0];refine bu (ctx:=[]) mixed ⟨[],[(5,[80]),(7,[80])],[(2,[80]),(3,[80])]⟩ (by kernel_rfl) ?_;by_cases m0:mode=0
  ·subst m0;simp only[go_sem,ak];refine bu (ctx:=[]) mixed ⟨[],[(5,[80]),(7,[80])],[(2,[80]),(3,[80])]⟩ (by kernel_rfl) ?_;simp only[go_sem,ak]
  by_cases m3:mode=3
  ·subst m3;simp only[go_sem,ak];refine bu (ctx:=[]) mixed ⟨[],[(7,[80]),(9,[80]),(11,[80])],[(2,[80]),(3,[80]),(4,[80]),(5,[80])]⟩ (by kernel_rfl) ?_;simp only[go_sem,ak]
  ·simp only[go_sem,ak,m0,m3]
 by_cases h4:kind=4
 ·subst h4;simp only[go_sem,ap,opE,opV,kH,r0,ak]
 by_cases h6:kind=6
 ·subst h6;simp only[go_sem,ap,opE,opV,kH,r0,ak]
 by_cases h7:kind=7
 ·subst h7;simp only[go_sem,ap,opE,opV,kH,r0,ak]
 by_cases h8:kind=8
 ·subst h8;simp only[go_sem,ap,opE,opV,kH,r0,ak]
 by_cases h9:kind=9
 ·subst h9;simp only[go_sem,ap,opE,opV,kH,r0,ak]
 simp only[go_sem,ap,opE,opV,kH,r0,ak,h1,h2,h3,h4,h5,h6,h7,h8,h9,or_self]
abbrev SJ:am prog 209 :=
 mz1 func209 (tOp) ((fun _=>True)) ((fun o=>.ret (opV (kH o)))) (asP fun o _=>Nv o)
theorem GX (o:OpV):Sw f167 0 ⟨0,ax 0 [tOp.enc o],[]⟩ (oQ f167 (.ret (bv (kh o)))):=by
 refine aq [⟨_,sZ⟩,⟨_,Ni⟩,⟨_,eC⟩] rfl ?_;obtain⟨b,hb⟩:∃b,kH o=b:=⟨_,rfl⟩;have hD:opR.dec (opE o)=some o:=rfl
 have hF:kh o=if ¬b=o then false
  else if o.kind=1 then lc o.r&&ez o 12
  else if o.kind=2 then ez o 1
  else if o.kind=3 then true
  else if o.kind=4∨o.kind=6∨o.kind=7∨o.kind=8∨o.kind=9 then decide (0≤o.n)&&decide (o.n≤kR o.kind)
  else if o.kind=5 then fe o
  else false:=by unfold kh;rw[hb]
 rw[hF];simp only[go_sem,ap,opE];refine sD mixed [⟨_,SJ⟩] [] ?_;by_cases h0:b=o
 case neg =>
  have hd:decide (b=o)=false:=by simpa using h0
  simp only[go_sem,ap,opE,opD,aO,aN,opV,hb,↓cy,hd,h0]
 have hd:decide (b=o)=true:=by simpa using h0
 by_cases h1:o.kind=1
 ·cases g:lc o.r
  ·simp only[go_sem,ap,opE,opD,aO,aN,opV,hb,↓cy,hd,eq_true h0,eq_true h1,nC,g,Bool.false_and]
  ·simp only[go_sem,ap,opE,opD,aO,aN,opV,hb,↓cy,hd,eq_true h0,eq_true h1,nC,g]
 by_cases h2:o.kind=2
 ·simp only[go_sem,ap,opE,opD,aO,aN,opV,hb,↓cy,hd,eq_true h0,h1,eq_true h2]
 by_cases h3:o.kind=3
 ·simp only[go_sem,ap,opE,opD,aO,aN,opV,hb,↓cy,hd,eq_true h0,h1,h2,eq_true h3]
 by_cases hk:o.kind=4∨o.kind=6∨o.kind=7∨o.kind=8∨o.kind=9
 ·rcases hk with h | h | h | h | h
  ·simp only[go_sem,ap,opE,opD,aO,aN,opV,hb,↓cy,hd,eq_true h0,h1,h2,h3,eq_true h];refine sD mixed [⟨_,Bx⟩] [] ?_;by_cases q:0≤o.n
   ·simp only[go_sem,ap,opE,opD,aO,aN,opV,hb,↓cy,hd,eq_true h0,h1,h2,h3,eq_true h,q]
   ·simp only[go_sem,ap,opE,opD,aO,aN,opV,hb,↓cy,hd,eq_true h0,h1,h2,h3,eq_true h,q,Bool.false_and]
  ·have n4:¬o.kind=4:=by omega
   simp only[go_sem,ap,opE,opD,aO,aN,opV,hb,↓cy,hd,eq_true h0,h1,h2,h3,eq_true h,n4];refine sD mixed [⟨_,Bx⟩] [] ?_;by_cases q:0≤o.n
   ·simp only[go_sem,ap,opE,opD,aO,aN,opV,hb,↓cy,hd,eq_true h0,h1,h2,h3,eq_true h,n4,q]
   ·simp only[go_sem,ap,opE,opD,aO,aN,opV,hb,↓cy,hd,eq_true h0,h1,h2,h3,eq_true h,n4,q,Bool.false_and]
  ·have n4:¬o.kind=4:=by omega
   have n6:¬o.kind=6:=by omega
   simp only[go_sem,ap,opE,opD,aO,aN,opV,hb,↓cy,hd,eq_true h0,h1,h2,h3,eq_true h,n4,n6];refine sD mixed [⟨_,Bx⟩] [] ?_;by_cases q:0≤o.n
   ·simp only[go_sem,ap,opE,opD,aO,aN,opV,hb,↓cy,hd,eq_true h0,h1,h2,h3,eq_true h,n4,n6,q]
   ·simp only[go_sem,ap,opE,opD,aO,aN,opV,hb,↓cy,hd,eq_true h0,h1,h2,h3,eq_true h,n4,n6,q,Bool.false_and]
  ·have n4:¬o.kind=4:=by omega
   have n6:¬o.kind=6:=by omega
   have n7:¬o.kind=7:=by omega
   simp only[go_sem,ap,opE,opD,aO,aN,opV,hb,↓cy,hd,eq_true h0,h1,h2,h3,eq_true h,n4,n6,n7];refine sD mixed [⟨_,Bx⟩] [] ?_;by_cases q:0≤o.n
   ·simp only[go_sem,ap,opE,opD,aO,aN,opV,hb,↓cy,hd,eq_true h0,h1,h2,h3,eq_true h,n4,n6,n7,q]
   ·simp only[go_sem,ap,opE,opD,aO,aN,opV,hb,↓cy,hd,eq_true h0,h1,h2,h3,eq_true h,n4,n6,n7,q,Bool.false_and]
  ·have n4:¬o.kind=4:=by omega
   have n6:¬o.kind=6:=by omega
   have n7:¬o.kind=7:=by omega
   have n8:¬o.kind=8:=by omega
   simp only[go_sem,ap,opE,opD,aO,aN,opV,hb,↓cy,hd,eq_true h0,h1,h2,h3,eq_true h,n4,n6,n7,n8];refine sD mixed [⟨_,Bx⟩] [] ?_;by_cases q:0≤o.n
   ·simp only[go_sem,ap,opE,opD,aO,aN,opV,hb,↓cy,hd,eq_true h0,h1,h2,h3,eq_true h,n4,n6,n7,n8,q]
   ·simp only[go_sem,ap,opE,opD,aO,aN,opV,hb,↓cy,hd,eq_true h0,h1,h2,h3,eq_true h,n4,n6,n7,n8,q,Bool.false_and]
 have hk':=hk;simp only[not_or]at hk';obtain⟨n4,n6,n7,n8,n9⟩:=hk';by_cases h5:o.kind=5
 ·simp only[go_sem,ap,opE,opD,aO,aN,opV,hb,↓cy,hd,eq_true h0,h1,h2,h3,n4,n6,n7,n8,n9,or_self,eq_true h5]
 ·simp only[go_sem,ap,opE,opD,aO,aN,opV,hb,↓cy,hd,eq_true h0,h1,h2,h3,n4,n6,n7,n8,n9,or_self,h5]
abbrev NP:am prog 167 :=
 mz1 func167 (tOp) ((fun _=>True)) ((fun o=>.ret (bv (kh o)))) (asP fun o _=>GX o)
theorem Qb (o:OpV)(hO:okO o):Sw f126 0 ⟨0,ax 0 [tOp.enc o],[]⟩ (oQ f126 (.ret (iv (gT o)))):=by
 refine aq [⟨_,NP⟩,⟨_,Eg⟩,⟨_,My⟩] rfl ?_;have hz:=hO.1.1;have ho:=sR hO;cases g:kh o
 ·simp only[go_sem,ap,opE,opD,aO,aN,g,gT]
 obtain⟨x,hx⟩:∃x,prO o=x:=⟨_,rfl⟩;have hx':Ex.printF o.val=x:=hx;by_cases g2:x.2=0
 case neg=>simp only[go_sem,ap,opE,opD,aO,aN,g,gT,kB,fH,zl,ho,hx,hx',jQ,g2]
 by_cases g3:o.kind=3
 case neg=>simp only[go_sem,ap,opE,opD,aO,aN,g,gT,kB,fH,zl,ho,hx,hx',jQ,eq_true g2,g3,false_and]
 by_cases g4:o.plus=emp
 ·simp only[go_sem,ap,opE,opD,aO,aN,g,gT,kB,fH,zl,ho,hx,hx',jQ,eq_true g2,eq_true g3,ak,eq_true g4,false_and,and_false]
 cases g5:ke 3 o.plus
 ·simp only[go_sem,ap,opE,opD,aO,aN,g,gT,kB,fH,zl,ho,hx,hx',jQ,eq_true g2,eq_true g3,ak,g4,hz,g5,and_false]
 ·simp only[go_sem,ap,opE,opD,aO,aN,g,gT,kB,fH,zl,ho,hx,hx',jQ,eq_true g2,eq_true g3,ak,g4,hz,g5]
abbrev Ux:am prog 126 :=
 mz1 func126 (tOp) (okO) ((fun o=>.ret (iv (gT o)))) (asP fun o h=>Qb o h)
end Go.Proofs.YtnhbidpdadkcjaaGreatDoor
