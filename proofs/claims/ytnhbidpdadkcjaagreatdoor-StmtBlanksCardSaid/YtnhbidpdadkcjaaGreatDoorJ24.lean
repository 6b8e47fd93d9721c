import Derived.Test.YtnhbidpdadkcjaaGreatDoorJ23
set_option linter.unusedVariables false
set_option linter.unusedSimpArgs false
set_option maxRecDepth 100000
set_option maxHeartbeats 8000000
namespace Go.Proofs.YtnhbidpdadkcjaaGreatDoor
section
open Go.RowKit
def At:bi Tryz.prog 139 :=
 mk1 _ _ _ Tryz.func139 rfl (fun _ _=>by go_simp) (jr lR) ((fun _=>True)) ((fun v=>.ret (bv (decide (v.plus=emp)&&decide (v.minus=emp))))) (by rw [Tryz.ntmps139];decide) (fun v _=>by
 refine aa (ctx:=[]) 4000 ?_
 rw [Tryz.ntmps139,Tryz.results139]
 simp only [Tryz.f139,Option.getD_some,aC]
 obtain ⟨a,p,m⟩:=v
 by_cases h1:p=emp
 ·simp only [go_sem,v7,aR,eq_true h1,decide_true,Bool.true_and]
 ·simp only [go_sem,v7,aR,h1,decide_false,Bool.false_and])
theorem mu {id:Nat} {h:ah} {args:List AV}:(At).run id h args=bT (ba (jr lR) ((fun _=>True))) ((fun v=>.ret (bv (decide (v.plus=emp)&&decide (v.minus=emp))))) h args:=rfl
theorem mr {id:Nat} {h:ah} {args:List AV}:(At).pan id h args=bU (ba (jr lR) ((fun _=>True))) ((fun v=>.ret (bv (decide (v.plus=emp)&&decide (v.minus=emp))))) h args:=rfl
def oT:bi Tryz.prog 210 :=
 mk1 _ _ _ Tryz.func210 rfl (fun _ _=>by go_simp) (jr gF) ((fun _=>True)) ((fun r=>.ret (bv (nl r)))) (by rw [Tryz.ntmps210];decide) (fun r _=>by
 refine aa (ctx:=[⟨_,nk⟩]) 4000 ?_
 rw [Tryz.ntmps210,Tryz.results210]
 simp only [Tryz.f210,Option.getD_some,aC]
 simp only [go_sem,gF,lJ,lI,gr,nl]
 rfl)
theorem cq {id:Nat} {h:ah} {args:List AV}:(oT).run id h args=bT (ba (jr gF) ((fun _=>True))) ((fun r=>.ret (bv (nl r)))) h args:=rfl
theorem co {id:Nat} {h:ah} {args:List AV}:(oT).pan id h args=bU (ba (jr gF) ((fun _=>True))) ((fun r=>.ret (bv (nl r)))) h args:=rfl
def x8:bi Tryz.prog 169 :=
 mk1 _ _ _ Tryz.func169 rfl (fun _ _=>by go_simp) (jr gF) ((fun _=>True)) ((fun r=>.ret (sv (jE r)))) (by rw [Tryz.ntmps169];decide) (fun r _=>by
 refine aa (ctx:=[⟨_,nk⟩]) 4000 ?_
 rw [Tryz.ntmps169,Tryz.results169]
 simp only [Tryz.f169,Option.getD_some,aC]
 simp only [go_sem,gF,lJ,lI,gr,jE])
theorem eS {id:Nat} {h:ah} {args:List AV}:(x8).run id h args=bT (ba (jr gF) ((fun _=>True))) ((fun r=>.ret (sv (jE r)))) h args:=rfl
theorem eR {id:Nat} {h:ah} {args:List AV}:(x8).pan id h args=bU (ba (jr gF) ((fun _=>True))) ((fun r=>.ret (sv (jE r)))) h args:=rfl
def Bw:bi Tryz.prog 172 :=
 mk1 _ _ _ Tryz.func172 rfl (fun _ _=>by go_simp) (jr lR) (gW) ((fun v=>.ret (sv (Ex.printF v).1))) (by rw [Tryz.ntmps172];decide) (fun v hv=>by
 refine aa (ctx:=[⟨_,uI⟩]) 4000 ?_
 rw [Tryz.ntmps172,Tryz.results172]
 simp only [Tryz.f172,Option.getD_some,aC]
 obtain ⟨a,p,m⟩:=v
 simp only [go_sem,v7,gJ,jh,jg,ii,hv])
theorem ru {id:Nat} {h:ah} {args:List AV}:(Bw).run id h args=bT (ba (jr lR) (gW)) ((fun v=>.ret (sv (Ex.printF v).1))) h args:=rfl
theorem rt {id:Nat} {h:ah} {args:List AV}:(Bw).pan id h args=bU (ba (jr lR) (gW)) ((fun v=>.ret (sv (Ex.printF v).1))) h args:=rfl
def xE:bi Tryz.prog 212 :=
 mk1 _ _ _ Tryz.func212 rfl (fun _ _=>by go_simp) (bq .i64) ((fun _=>True)) ((fun k=>.ret (iv (lE k)))) (by rw [Tryz.ntmps212];decide) (fun k _=>by
 refine aa (ctx:=[]) 4000 ?_
 rw [Tryz.ntmps212,Tryz.results212]
 simp only [Tryz.f212,Option.getD_some,aC]
 by_cases h1:k=6
 ·simp only [go_sem,eq_true h1,lE]
 by_cases h2:k=8
 ·simp only [go_sem,h1,eq_true h2,lE]
 by_cases h3:k=9
 ·simp only [go_sem,h1,h2,eq_true h3,lE]
 simp only [go_sem,h1,h2,h3,lE])
theorem jz {id:Nat} {h:ah} {args:List AV}:(xE).run id h args=bT (ba (bq .i64) ((fun _=>True))) ((fun k=>.ret (iv (lE k)))) h args:=rfl
theorem jy {id:Nat} {h:ah} {args:List AV}:(xE).pan id h args=bU (ba (bq .i64) ((fun _=>True))) ((fun k=>.ret (iv (lE k)))) h args:=rfl
theorem G3 (o:OpV) (most:Int):SW Tryz.prog ⟨none,0⟩ Tryz.f211.ntmps (Tryz.f211.body.getD .skip) ⟨0,aC 0 [tOp.enc o,(bq .i64).enc most],[]⟩ (es Tryz.prog Tryz.f211.results.toList (.ret (bv (fE o most)))):=by
 refine aa (ctx:=[]) 4000 ?_
 rw [Tryz.ntmps211,Tryz.results211]
 simp only [Tryz.f211,Option.getD_some,aC]
 obtain ⟨kind,⟨rn,rx,rs⟩,⟨mn,mx,ms⟩,md,amt,n,add,plus,minus,lo,mode⟩:=o
 by_cases h1:0≤md
 case neg=>simp only [go_sem,bh,opE,fE,h1,false_and,decide_false]
 by_cases h2:md≤most
 case neg=>simp only [go_sem,bh,opE,fE,h1,h2,false_and,and_false,decide_false]
 by_cases h3:0≤amt
 case neg=>simp only [go_sem,bh,opE,fE,h1,h2,h3,false_and,and_false,decide_false]
 by_cases h4:amt≤63
 case neg=>simp only [go_sem,bh,opE,fE,h1,h2,h3,h4,false_and,and_false,decide_false]
 by_cases h5:0<md
 ·simp only [go_sem,bh,opE,fE,h1,h2,h3,h4,h5,true_and,true_or,decide_true]
 ·simp only [go_sem,bh,opE,fE,h1,h2,h3,h4,h5,true_and,false_or]
  rfl
def Au:bi Tryz.prog 211 :=
 mk2 _ _ _ Tryz.func211 rfl (fun _ _=>by go_simp) (tOp) (bq .i64) ((fun _ _=>True)) ((fun o m=>.ret (bv (fE o m)))) (by rw [Tryz.ntmps211];decide) (fun o m _=>G3 o m)
theorem wB {id:Nat} {h:ah} {args:List AV}:(Au).run id h args=bT (cg (tOp) (bq .i64) ((fun _ _=>True))) (fun x=>((fun o m=>.ret (bv (fE o m)))) x.1 x.2) h args:=rfl
theorem wA {id:Nat} {h:ah} {args:List AV}:(Au).pan id h args=bU (cg (tOp) (bq .i64) ((fun _ _=>True))) (fun x=>((fun o m=>.ret (bv (fE o m)))) x.1 x.2) h args:=rfl
theorem K4 (o:OpV):SW Tryz.prog ⟨none,0⟩ Tryz.f242.ntmps (Tryz.f242.body.getD .skip) ⟨0,aC 0 [tOp.enc o],[]⟩ (es Tryz.prog Tryz.f242.results.toList (.ret (bv (fo o)))):=by
 refine aa (ctx:=[⟨_,oT⟩]) 4000 ?_
 rw [Tryz.ntmps242,Tryz.results242]
 simp only [Tryz.f242,Option.getD_some,aC]
 obtain ⟨kind,⟨rn,rx,rs⟩,⟨mn,mx,ms⟩,md,amt,n,add,plus,minus,lo,mode⟩:=o
 cases h1:nl ⟨mn,mx,ms⟩
 ·simp only [go_sem,bh,opE,gF,cq,co,fo,h1,true_or]
 cases ms
 case true=>simp only [go_sem,bh,opE,gF,cq,co,fo,h1,true_or,or_true]
 by_cases h3:amt < -1
 ·simp only [go_sem,bh,opE,gF,cq,co,fo,h1,h3,true_or,or_true]
 by_cases h4:63<amt
 ·simp only [go_sem,bh,opE,gF,cq,co,fo,h1,h3,h4,true_or,or_true]
 by_cases h5:md=1
 ·simp only [go_sem,bh,opE,gF,cq,co,fo,h1,h3,h4,eq_true h5,or_false,false_or,or_self,true_or]
 by_cases h6:md=12
 ·simp only [go_sem,bh,opE,gF,cq,co,fo,h1,h3,h4,h5,eq_true h6,or_false,false_or,or_self,or_true]
 by_cases h7:md=7
 ·simp only [go_sem,bh,opE,gF,cq,co,fo,h1,h3,h4,h5,h6,eq_true h7,or_false,false_or,or_self,true_or]
 by_cases h8:md=11
 ·simp only [go_sem,bh,opE,gF,cq,co,fo,h1,h3,h4,h5,h6,h7,eq_true h8,or_false,false_or,or_self,or_true]
 simp only [go_sem,bh,opE,gF,cq,co,fo,h1,h3,h4,h5,h6,h7,h8,or_false,false_or,or_self]
def qZ:bi Tryz.prog 242 :=
 mk1 _ _ _ Tryz.func242 rfl (fun _ _=>by go_simp) (tOp) ((fun _=>True)) ((fun o=>.ret (bv (fo o)))) (by rw [Tryz.ntmps242];decide) (fun o _=>K4 o)
theorem bZ {id:Nat} {h:ah} {args:List AV}:(qZ).run id h args=bT (ba (tOp) ((fun _=>True))) ((fun o=>.ret (bv (fo o)))) h args:=rfl
theorem bY {id:Nat} {h:ah} {args:List AV}:(qZ).pan id h args=bU (ba (tOp) ((fun _=>True))) ((fun o=>.ret (bv (fo o)))) h args:=rfl
end
section
open Go.RowKit
theorem oR {x y:Operand} {a b:Bool}:l9 Tryz.prog (do eqGuard .eql 4 x y (.bool a) (.bool b);binOp .eql 4 (.bool a) (.bool b))=some (.bool (a==b)):=by
  refine lH fun w=>?_
  cases a<;>cases b<;>rfl
theorem Is (o:OpV):SW Tryz.prog ⟨none,0⟩ Tryz.f213.ntmps (Tryz.f213.body.getD .skip) ⟨0,aC 0 [tOp.enc o],[]⟩ (es Tryz.prog Tryz.f213.results.toList (.ret (bv (gB o)))):=by
 refine aa (ctx:=[⟨_,oT⟩,⟨_,qZ⟩]) 4000 ?_
 rw [Tryz.ntmps213,Tryz.results213]
 simp only [Tryz.f213,Option.getD_some,aC]
 obtain ⟨kind,⟨rn,rx,rs⟩,⟨mn,mx,ms⟩,md,amt,n,add,plus,minus,lo,mode⟩:=o
 cases h1:nl ⟨rn,rx,rs⟩
 ·simp only [go_sem,bh,opE,gF,cq,co,gB,h1,Bool.false_and]
 cases rx
 case false=>simp only [go_sem,bh,opE,gF,cq,co,gB,h1,Bool.false_and,Bool.true_and]
 cases h2:((rn==31)==rs)
 ·simp only [go_sem,↓oR,bh,opE,gF,cq,co,gB,h1,h2,Bool.false_and,Bool.true_and]
 by_cases h3:0≤mode
 case neg=>simp only [go_sem,↓oR,bh,opE,gF,cq,co,gB,h1,h2,h3,decide_false,Bool.false_and,Bool.true_and]
 by_cases h4:mode≤3
 case neg=>simp only [go_sem,↓oR,bh,opE,gF,cq,co,gB,h1,h2,h3,h4,decide_false,decide_true,Bool.false_and,Bool.true_and]
 by_cases h5:mode=3
 ·simp only [go_sem,↓oR,bh,opE,opD,gF,cq,co,bZ,bY,gB,h1,h2,h3,h4,eq_true h5,decide_false,decide_true,Bool.false_or,Bool.true_and,not_true_eq_false]
 ·simp only [go_sem,↓oR,bh,opE,gF,cq,co,gB,h1,h2,h3,h4,h5,decide_false,decide_true,Bool.true_or,Bool.true_and,not_false_eq_true]
def fF:bi Tryz.prog 213 :=
 mk1 _ _ _ Tryz.func213 rfl (fun _ _=>by go_simp) (tOp) ((fun _=>True)) ((fun o=>.ret (bv (gB o)))) (by rw [Tryz.ntmps213];decide) (fun o _=>Is o)
theorem ce {id:Nat} {h:ah} {args:List AV}:(fF).run id h args=bT (ba (tOp) ((fun _=>True))) ((fun o=>.ret (bv (gB o)))) h args:=rfl
theorem ca {id:Nat} {h:ah} {args:List AV}:(fF).pan id h args=bU (ba (tOp) ((fun _=>True))) ((fun o=>.ret (bv (gB o)))) h args:=rfl
theorem Oo (o:OpV):SW Tryz.prog ⟨none,0⟩ Tryz.f209.ntmps (Tryz.f209.body.getD .skip) ⟨0,aC 0 [tOp.enc o],[]⟩ (es Tryz.prog Tryz.f209.results.toList (.ret (opV (lr o)))):=by
 refine aa (ctx:=[]) 4000 ?_
 rw [Tryz.ntmps209,Tryz.results209]
 simp only [Tryz.f209,Option.getD_some,aC]
 obtain ⟨kind,⟨rn,rx,rs⟩,⟨mn,mx,ms⟩,md,amt,n,add,plus,minus,lo,mode⟩:=o
 by_cases h1:kind=1
 ·subst h1
  simp only [go_sem,bh,opE,opV,lr,r0]
  refine du (ctx:=[]) mixed ⟨[],[(7,[80]),(9,[80]),(11,[80])],[(2,[80]),(3,[80]),(4,[80]),(5,[80])]⟩ (by kernel_rfl) ?_
  simp only [go_sem,aR]
 by_cases h2:kind=2
 ·subst h2
  simp only [go_sem,bh,opE,opV,lr,r0]
  refine du (ctx:=[]) mixed ⟨[],[(5,[80]),(7,[80])],[(2,[80]),(3,[80])]⟩ (by kernel_rfl) ?_
  cases lo
  ·simp only [go_sem,aR]
   refine du (ctx:=[]) mixed ⟨[],[(5,[80]),(7,[80])],[(2,[80]),(3,[80])]⟩ (by kernel_rfl) ?_
   simp only [go_sem,aR]
  ·simp only [go_sem,aR]
 by_cases h3:kind=3
 ·subst h3
  simp only [go_sem,bh,opE,opV,lr,r0,aR]
 by_cases h5:kind=5
 ·subst h5
  simp only [go_sem,bh,opE,opV,lr,r0]
  refine du (ctx:=[]) mixed ⟨[],[(5,[80]),(7,[80])],[(2,[80]),(3,[80])]⟩ (by kernel_rfl) ?_
  by_cases m0:mode=0
  ·subst m0
   simp only [go_sem,aR]
   refine du (ctx:=[]) mixed ⟨[],[(5,[80]),(7,[80])],[(2,[80]),(3,[80])]⟩ (by kernel_rfl) ?_
   simp only [go_sem,aR]
  by_cases m3:mode=3
  ·subst m3
   simp only [go_sem,aR]
   refine du (ctx:=[]) mixed ⟨[],[(7,[80]),(9,[80]),(11,[80])],[(2,[80]),(3,[80]),(4,[80]),(5,[80])]⟩ (by kernel_rfl) ?_
   simp only [go_sem,aR]
  ·simp only [go_sem,aR,m0,m3]
 by_cases h4:kind=4
 ·subst h4
  simp only [go_sem,bh,opE,opV,lr,r0,aR,true_or]
 by_cases h6:kind=6
 ·subst h6
  simp only [go_sem,bh,opE,opV,lr,r0,aR,true_or,or_true]
 by_cases h7:kind=7
 ·subst h7
  simp only [go_sem,bh,opE,opV,lr,r0,aR,true_or,or_true]
 by_cases h8:kind=8
 ·subst h8
  simp only [go_sem,bh,opE,opV,lr,r0,aR,true_or,or_true]
 by_cases h9:kind=9
 ·subst h9
  simp only [go_sem,bh,opE,opV,lr,r0,aR,true_or,or_true]
 simp only [go_sem,bh,opE,opV,lr,r0,aR,h1,h2,h3,h4,h5,h6,h7,h8,h9,or_self]
def Ka:bi Tryz.prog 209 :=
 mk1 _ _ _ Tryz.func209 rfl (fun _ _=>by go_simp) (tOp) ((fun _=>True)) ((fun o=>.ret (opV (lr o)))) (by rw [Tryz.ntmps209];decide) (fun o _=>Oo o)
theorem dp {id:Nat} {h:ah} {args:List AV}:(Ka).run id h args=bT (ba (tOp) ((fun _=>True))) ((fun o=>.ret (opV (lr o)))) h args:=rfl
theorem dm {id:Nat} {h:ah} {args:List AV}:(Ka).pan id h args=bU (ba (tOp) ((fun _=>True))) ((fun o=>.ret (opV (lr o)))) h args:=rfl
theorem HR (o:OpV):SW Tryz.prog ⟨none,0⟩ Tryz.f167.ntmps (Tryz.f167.body.getD .skip) ⟨0,aC 0 [tOp.enc o],[]⟩ (es Tryz.prog Tryz.f167.results.toList (.ret (bv (ki o)))):=by
 refine aa (ctx:=[⟨_,oT⟩,⟨_,Au⟩,⟨_,fF⟩]) 4000 ?_
 rw [Tryz.ntmps167,Tryz.results167]
 simp only [Tryz.f167,Option.getD_some,aC]
 obtain ⟨b,hb⟩:∃ b,lr o=b:=⟨_,rfl⟩
 have hD:opR.dec (opE o)=some o:=rfl
 have hF:ki o=if ¬b=o then false
  else if o.kind=1 then nl o.r&&fE o 12
  else if o.kind=2 then fE o 1
  else if o.kind=3 then true
  else if o.kind=4∨o.kind=6∨o.kind=7∨o.kind=8∨o.kind=9 then decide (0≤o.n)&&decide (o.n≤lE o.kind)
  else if o.kind=5 then gB o
  else false:=by unfold ki;rw [hb]
 rw [hF]
 simp only [go_sem,bh,opE]
 refine bI (ctx:=[⟨_,Ka⟩]) mixed [] (by kernel_rfl) ?_
 by_cases h0:b=o
 case neg =>
  have hd:decide (b=o)=false:=by simpa using h0
  simp only [go_sem,bh,opE,opD,bQ,bP,opV,dp,dm,hb,↓dU,hd,h0,not_false_eq_true]
 have hd:decide (b=o)=true:=by simpa using h0
 by_cases h1:o.kind=1
 ·cases g:nl o.r
  ·simp only [go_sem,bh,opE,opD,bQ,bP,opV,dp,dm,hb,↓dU,hd,eq_true h0,eq_true h1,pL,cq,co,g,Bool.false_and,not_true_eq_false]
  ·simp only [go_sem,bh,opE,opD,bQ,bP,opV,dp,dm,hb,↓dU,hd,eq_true h0,eq_true h1,pL,cq,co,wB,wA,g,Bool.true_and,not_true_eq_false]
 by_cases h2:o.kind=2
 ·simp only [go_sem,bh,opE,opD,bQ,bP,opV,dp,dm,hb,↓dU,hd,eq_true h0,h1,eq_true h2,wB,wA,not_true_eq_false]
 by_cases h3:o.kind=3
 ·simp only [go_sem,bh,opE,opD,bQ,bP,opV,dp,dm,hb,↓dU,hd,eq_true h0,h1,h2,eq_true h3,not_true_eq_false]
 by_cases hk:o.kind=4∨o.kind=6∨o.kind=7∨o.kind=8∨o.kind=9
 ·rcases hk with h | h | h | h | h
  ·simp only [go_sem,bh,opE,opD,bQ,bP,opV,dp,dm,hb,↓dU,hd,eq_true h0,h1,h2,h3,true_or,or_true,not_true_eq_false,eq_true h]
   refine bI (ctx:=[⟨_,xE⟩]) mixed [] (by kernel_rfl) ?_
   by_cases q:0≤o.n
   ·simp only [go_sem,bh,opE,opD,bQ,bP,opV,dp,dm,hb,↓dU,hd,eq_true h0,h1,h2,h3,true_or,or_true,not_true_eq_false,eq_true h,jz,jy,q,decide_true,Bool.true_and]
   ·simp only [go_sem,bh,opE,opD,bQ,bP,opV,dp,dm,hb,↓dU,hd,eq_true h0,h1,h2,h3,true_or,or_true,not_true_eq_false,eq_true h,jz,jy,q,decide_false,Bool.false_and]
  ·have n4:¬o.kind=4:=by omega
   simp only [go_sem,bh,opE,opD,bQ,bP,opV,dp,dm,hb,↓dU,hd,eq_true h0,h1,h2,h3,true_or,or_true,not_true_eq_false,eq_true h,n4]
   refine bI (ctx:=[⟨_,xE⟩]) mixed [] (by kernel_rfl) ?_
   by_cases q:0≤o.n
   ·simp only [go_sem,bh,opE,opD,bQ,bP,opV,dp,dm,hb,↓dU,hd,eq_true h0,h1,h2,h3,true_or,or_true,not_true_eq_false,eq_true h,n4,jz,jy,q,decide_true,Bool.true_and]
   ·simp only [go_sem,bh,opE,opD,bQ,bP,opV,dp,dm,hb,↓dU,hd,eq_true h0,h1,h2,h3,true_or,or_true,not_true_eq_false,eq_true h,n4,jz,jy,q,decide_false,Bool.false_and]
  ·have n4:¬o.kind=4:=by omega
   have n6:¬o.kind=6:=by omega
   simp only [go_sem,bh,opE,opD,bQ,bP,opV,dp,dm,hb,↓dU,hd,eq_true h0,h1,h2,h3,true_or,or_true,not_true_eq_false,eq_true h,n4,n6]
   refine bI (ctx:=[⟨_,xE⟩]) mixed [] (by kernel_rfl) ?_
   by_cases q:0≤o.n
   ·simp only [go_sem,bh,opE,opD,bQ,bP,opV,dp,dm,hb,↓dU,hd,eq_true h0,h1,h2,h3,true_or,or_true,not_true_eq_false,eq_true h,n4,n6,jz,jy,q,decide_true,Bool.true_and]
   ·simp only [go_sem,bh,opE,opD,bQ,bP,opV,dp,dm,hb,↓dU,hd,eq_true h0,h1,h2,h3,true_or,or_true,not_true_eq_false,eq_true h,n4,n6,jz,jy,q,decide_false,Bool.false_and]
  ·have n4:¬o.kind=4:=by omega
   have n6:¬o.kind=6:=by omega
   have n7:¬o.kind=7:=by omega
   simp only [go_sem,bh,opE,opD,bQ,bP,opV,dp,dm,hb,↓dU,hd,eq_true h0,h1,h2,h3,true_or,or_true,not_true_eq_false,eq_true h,n4,n6,n7]
   refine bI (ctx:=[⟨_,xE⟩]) mixed [] (by kernel_rfl) ?_
   by_cases q:0≤o.n
   ·simp only [go_sem,bh,opE,opD,bQ,bP,opV,dp,dm,hb,↓dU,hd,eq_true h0,h1,h2,h3,true_or,or_true,not_true_eq_false,eq_true h,n4,n6,n7,jz,jy,q,decide_true,Bool.true_and]
   ·simp only [go_sem,bh,opE,opD,bQ,bP,opV,dp,dm,hb,↓dU,hd,eq_true h0,h1,h2,h3,true_or,or_true,not_true_eq_false,eq_true h,n4,n6,n7,jz,jy,q,decide_false,Bool.false_and]
  ·have n4:¬o.kind=4:=by omega
   have n6:¬o.kind=6:=by omega
   have n7:¬o.kind=7:=by omega
   have n8:¬o.kind=8:=by omega
   simp only [go_sem,bh,opE,opD,bQ,bP,opV,dp,dm,hb,↓dU,hd,eq_true h0,h1,h2,h3,true_or,or_true,not_true_eq_false,eq_true h,n4,n6,n7,n8]
   refine bI (ctx:=[⟨_,xE⟩]) mixed [] (by kernel_rfl) ?_
   by_cases q:0≤o.n
   ·simp only [go_sem,bh,opE,opD,bQ,bP,opV,dp,dm,hb,↓dU,hd,eq_true h0,h1,h2,h3,true_or,or_true,not_true_eq_false,eq_true h,n4,n6,n7,n8,jz,jy,q,decide_true,Bool.true_and]
   ·simp only [go_sem,bh,opE,opD,bQ,bP,opV,dp,dm,hb,↓dU,hd,eq_true h0,h1,h2,h3,true_or,or_true,not_true_eq_false,eq_true h,n4,n6,n7,n8,jz,jy,q,decide_false,Bool.false_and]
 have hk':=hk
 simp only [not_or] at hk'
 obtain ⟨n4,n6,n7,n8,n9⟩:=hk'
 by_cases h5:o.kind=5
 ·simp only [go_sem,bh,opE,opD,bQ,bP,opV,dp,dm,hb,↓dU,hd,eq_true h0,h1,h2,h3,n4,n6,n7,n8,n9,or_self,eq_true h5,ce,ca,not_true_eq_false]
 ·simp only [go_sem,bh,opE,opD,bQ,bP,opV,dp,dm,hb,↓dU,hd,eq_true h0,h1,h2,h3,n4,n6,n7,n8,n9,or_self,h5,not_true_eq_false]
def AO:bi Tryz.prog 167 :=
 mk1 _ _ _ Tryz.func167 rfl (fun _ _=>by go_simp) (tOp) ((fun _=>True)) ((fun o=>.ret (bv (ki o)))) (by rw [Tryz.ntmps167];decide) (fun o _=>HR o)
theorem kS {id:Nat} {h:ah} {args:List AV}:(AO).run id h args=bT (ba (tOp) ((fun _=>True))) ((fun o=>.ret (bv (ki o)))) h args:=rfl
theorem kR {id:Nat} {h:ah} {args:List AV}:(AO).pan id h args=bU (ba (tOp) ((fun _=>True))) ((fun o=>.ret (bv (ki o)))) h args:=rfl
theorem Q5 (o:OpV) (hO:okO o):SW Tryz.prog ⟨none,0⟩ Tryz.f126.ntmps (Tryz.f126.body.getD .skip) ⟨0,aC 0 [tOp.enc o],[]⟩ (es Tryz.prog Tryz.f126.results.toList (.ret (iv (iD o)))):=by
 refine aa (ctx:=[⟨_,AO⟩,⟨_,uI⟩,⟨_,Dy⟩]) 4000 ?_
 rw [Tryz.ntmps126,Tryz.results126]
 simp only [Tryz.f126,Option.getD_some,aC]
 have hz:=hO.1.1
 have ho:=uE hO
 cases g:ki o
 ·simp only [go_sem,bh,opE,opD,bQ,bP,kS,kR,g,iD]
 obtain ⟨x,hx⟩:∃ x,prO o=x:=⟨_,rfl⟩
 have hx':Ex.printF o.val=x:=hx
 by_cases g2:x.2=0
 case neg=>simp only [go_sem,bh,opE,opD,bQ,bP,kS,kR,g,iD,jh,jg,gJ,AM,ho,hx,hx',ii,g2,not_false_eq_true]
 by_cases g3:o.kind=3
 case neg=>simp only [go_sem,bh,opE,opD,bQ,bP,kS,kR,g,iD,jh,jg,gJ,AM,ho,hx,hx',ii,eq_true g2,g3,not_true_eq_false,false_and]
 by_cases g4:o.plus=emp
 ·simp only [go_sem,bh,opE,opD,bQ,bP,kS,kR,g,iD,jh,jg,gJ,AM,ho,hx,hx',ii,eq_true g2,eq_true g3,aR,eq_true g4,not_true_eq_false,false_and,and_false]
 cases g5:kJ 3 o.plus
 ·simp only [go_sem,bh,opE,opD,bQ,bP,kS,kR,g,iD,jh,jg,gJ,AM,ho,hx,hx',ii,eq_true g2,eq_true g3,aR,g4,dw,dv,hz,g5,not_true_eq_false,not_false_eq_true,true_and,and_false]
 ·simp only [go_sem,bh,opE,opD,bQ,bP,kS,kR,g,iD,jh,jg,gJ,AM,ho,hx,hx',ii,eq_true g2,eq_true g3,aR,g4,dw,dv,hz,g5,not_true_eq_false,not_false_eq_true,true_and,and_true]
def Ov:bi Tryz.prog 126 :=
 mk1 _ _ _ Tryz.func126 rfl (fun _ _=>by go_simp) (tOp) (okO) ((fun o=>.ret (iv (iD o)))) (by rw [Tryz.ntmps126];decide) (fun o h=>Q5 o h)
theorem iy {id:Nat} {h:ah} {args:List AV}:(Ov).run id h args=bT (ba (tOp) (okO)) ((fun o=>.ret (iv (iD o)))) h args:=rfl
theorem iw {id:Nat} {h:ah} {args:List AV}:(Ov).pan id h args=bU (ba (tOp) (okO)) ((fun o=>.ret (iv (iD o)))) h args:=rfl
end
end Go.Proofs.YtnhbidpdadkcjaaGreatDoor
