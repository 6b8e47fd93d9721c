import Derived.Test.YthcoegkfpinlfaaGreatDoorJ23
set_option linter.unusedVariables false
set_option linter.unusedSimpArgs false
set_option maxRecDepth 100000
set_option maxHeartbeats 8000000
namespace Go.Proofs.YthcoegkfpinlfaaGreatDoor
section
open Go.RowKit
def uV:bq Tryz.prog 29 :=
 mk1 _ _ _ Tryz.func29 rfl (fun _ _=>by go_simp) (jZ uo) ((fun _=>True)) ((fun v=>.ret (bv (decide (v.plus=emp)&&decide (v.minus=emp))))) (by rw [Tryz.ntmps29];decide) (fun v _=>by
 refine ab (ctx:=[]) 4000 ?_
 rw [Tryz.ntmps29,Tryz.results29]
 simp only [Tryz.f29,Option.getD_some,aw]
 obtain ⟨a,p,m⟩:=v
 by_cases h1:p=emp
 ·simp only [go_sem,Qs,ax,eq_true h1,decide_true,Bool.true_and]
 ·simp only [go_sem,Qs,ax,h1,decide_false,Bool.false_and])
theorem jo {id:Nat} {h:ag} {args:List AV}:(uV).run id h args=bV (aI (jZ uo) ((fun _=>True))) ((fun v=>.ret (bv (decide (v.plus=emp)&&decide (v.minus=emp))))) h args:=rfl
theorem jn {id:Nat} {h:ag} {args:List AV}:(uV).pan id h args=ca (aI (jZ uo) ((fun _=>True))) ((fun v=>.ret (bv (decide (v.plus=emp)&&decide (v.minus=emp))))) h args:=rfl
def nz:bq Tryz.prog 73 :=
 mk1 _ _ _ Tryz.func73 rfl (fun _ _=>by go_simp) (jZ gk) ((fun _=>True)) ((fun r=>.ret (bv (iO r)))) (by rw [Tryz.ntmps73];decide) (fun r _=>by
 refine ab (ctx:=[⟨_,lY⟩]) 4000 ?_
 rw [Tryz.ntmps73,Tryz.results73]
 simp only [Tryz.f73,Option.getD_some,aw]
 simp only [go_sem,gk,kS,kR,eW,iO]
 rfl)
theorem bM {id:Nat} {h:ag} {args:List AV}:(nz).run id h args=bV (aI (jZ gk) ((fun _=>True))) ((fun r=>.ret (bv (iO r)))) h args:=rfl
theorem bL {id:Nat} {h:ag} {args:List AV}:(nz).pan id h args=ca (aI (jZ gk) ((fun _=>True))) ((fun r=>.ret (bv (iO r)))) h args:=rfl
def ww:bq Tryz.prog 49 :=
 mk1 _ _ _ Tryz.func49 rfl (fun _ _=>by go_simp) (jZ gk) ((fun _=>True)) ((fun r=>.ret (sv (dy r)))) (by rw [Tryz.ntmps49];decide) (fun r _=>by
 refine ab (ctx:=[⟨_,lY⟩]) 4000 ?_
 rw [Tryz.ntmps49,Tryz.results49]
 simp only [Tryz.f49,Option.getD_some,aw]
 simp only [go_sem,gk,kS,kR,eW,dy])
theorem d8 {id:Nat} {h:ag} {args:List AV}:(ww).run id h args=bV (aI (jZ gk) ((fun _=>True))) ((fun r=>.ret (sv (dy r)))) h args:=rfl
theorem d7 {id:Nat} {h:ag} {args:List AV}:(ww).pan id h args=ca (aI (jZ gk) ((fun _=>True))) ((fun r=>.ret (sv (dy r)))) h args:=rfl
def Ao:bq Tryz.prog 52 :=
 mk1 _ _ _ Tryz.func52 rfl (fun _ _=>by go_simp) (jZ uo) (oB) ((fun v=>.ret (sv (Ex.printF v).1))) (by rw [Tryz.ntmps52];decide) (fun v hv=>by
 refine ab (ctx:=[⟨_,zW⟩]) 4000 ?_
 rw [Tryz.ntmps52,Tryz.results52]
 simp only [Tryz.f52,Option.getD_some,aw]
 obtain ⟨a,p,m⟩:=v
 simp only [go_sem,Qs,g9,lA,lz,jT,hv])
theorem qr {id:Nat} {h:ag} {args:List AV}:(Ao).run id h args=bV (aI (jZ uo) (oB)) ((fun v=>.ret (sv (Ex.printF v).1))) h args:=rfl
theorem qp {id:Nat} {h:ag} {args:List AV}:(Ao).pan id h args=ca (aI (jZ uo) (oB)) ((fun v=>.ret (sv (Ex.printF v).1))) h args:=rfl
def vT:bq Tryz.prog 75 :=
 mk1 _ _ _ Tryz.func75 rfl (fun _ _=>by go_simp) (bA .i64) ((fun _=>True)) ((fun k=>.ret (iv (jP k)))) (by rw [Tryz.ntmps75];decide) (fun k _=>by
 refine ab (ctx:=[]) 4000 ?_
 rw [Tryz.ntmps75,Tryz.results75]
 simp only [Tryz.f75,Option.getD_some,aw]
 by_cases h1:k=6
 ·simp only [go_sem,eq_true h1,jP]
 by_cases h2:k=8
 ·simp only [go_sem,h1,eq_true h2,jP]
 by_cases h3:k=9
 ·simp only [go_sem,h1,h2,eq_true h3,jP]
 simp only [go_sem,h1,h2,h3,jP])
theorem iT {id:Nat} {h:ag} {args:List AV}:(vT).run id h args=bV (aI (bA .i64) ((fun _=>True))) ((fun k=>.ret (iv (jP k)))) h args:=rfl
theorem iS {id:Nat} {h:ag} {args:List AV}:(vT).pan id h args=ca (aI (bA .i64) ((fun _=>True))) ((fun k=>.ret (iv (jP k)))) h args:=rfl
theorem GI (o:OpV) (most:Int):SW Tryz.prog ⟨none,0⟩ Tryz.f74.ntmps (Tryz.f74.body.getD .skip) ⟨0,aw 0 [tOp.enc o,(bA .i64).enc most],[]⟩ (eK Tryz.prog Tryz.f74.results.toList (.ret (bv (dF o most)))):=by
 refine ab (ctx:=[]) 4000 ?_
 rw [Tryz.ntmps74,Tryz.results74]
 simp only [Tryz.f74,Option.getD_some,aw]
 obtain ⟨kind,⟨rn,rx,rs⟩,⟨mn,mx,ms⟩,md,amt,n,add,plus,minus,lo,mode⟩:=o
 by_cases h1:0≤md
 case neg=>simp only [go_sem,aF,opE,dF,h1,false_and,decide_false]
 by_cases h2:md≤most
 case neg=>simp only [go_sem,aF,opE,dF,h1,h2,false_and,and_false,decide_false]
 by_cases h3:0≤amt
 case neg=>simp only [go_sem,aF,opE,dF,h1,h2,h3,false_and,and_false,decide_false]
 by_cases h4:amt≤63
 case neg=>simp only [go_sem,aF,opE,dF,h1,h2,h3,h4,false_and,and_false,decide_false]
 by_cases h5:0<md
 ·simp only [go_sem,aF,opE,dF,h1,h2,h3,h4,h5,true_and,true_or,decide_true]
 ·simp only [go_sem,aF,opE,dF,h1,h2,h3,h4,h5,true_and,false_or]
  rfl
def zq:bq Tryz.prog 74 :=
 mk2 _ _ _ Tryz.func74 rfl (fun _ _=>by go_simp) (tOp) (bA .i64) ((fun _ _=>True)) ((fun o m=>.ret (bv (dF o m)))) (by rw [Tryz.ntmps74];decide) (fun o m _=>GI o m)
theorem uY {id:Nat} {h:ag} {args:List AV}:(zq).run id h args=bV (cA (tOp) (bA .i64) ((fun _ _=>True))) (fun x=>((fun o m=>.ret (bv (dF o m)))) x.1 x.2) h args:=rfl
theorem uX {id:Nat} {h:ag} {args:List AV}:(zq).pan id h args=ca (cA (tOp) (bA .i64) ((fun _ _=>True))) (fun x=>((fun o m=>.ret (bv (dF o m)))) x.1 x.2) h args:=rfl
theorem Kp (o:OpV):SW Tryz.prog ⟨none,0⟩ Tryz.f129.ntmps (Tryz.f129.body.getD .skip) ⟨0,aw 0 [tOp.enc o],[]⟩ (eK Tryz.prog Tryz.f129.results.toList (.ret (bv (d5 o)))):=by
 refine ab (ctx:=[⟨_,nz⟩]) 4000 ?_
 rw [Tryz.ntmps129,Tryz.results129]
 simp only [Tryz.f129,Option.getD_some,aw]
 obtain ⟨kind,⟨rn,rx,rs⟩,⟨mn,mx,ms⟩,md,amt,n,add,plus,minus,lo,mode⟩:=o
 cases h1:iO ⟨mn,mx,ms⟩
 ·simp only [go_sem,aF,opE,gk,bM,bL,d5,h1,true_or]
 cases ms
 case true=>simp only [go_sem,aF,opE,gk,bM,bL,d5,h1,true_or,or_true]
 by_cases h3:amt < -1
 ·simp only [go_sem,aF,opE,gk,bM,bL,d5,h1,h3,true_or,or_true]
 by_cases h4:63<amt
 ·simp only [go_sem,aF,opE,gk,bM,bL,d5,h1,h3,h4,true_or,or_true]
 by_cases h5:md=1
 ·simp only [go_sem,aF,opE,gk,bM,bL,d5,h1,h3,h4,eq_true h5,or_false,false_or,or_self,true_or]
 by_cases h6:md=12
 ·simp only [go_sem,aF,opE,gk,bM,bL,d5,h1,h3,h4,h5,eq_true h6,or_false,false_or,or_self,or_true]
 by_cases h7:md=7
 ·simp only [go_sem,aF,opE,gk,bM,bL,d5,h1,h3,h4,h5,h6,eq_true h7,or_false,false_or,or_self,true_or]
 by_cases h8:md=11
 ·simp only [go_sem,aF,opE,gk,bM,bL,d5,h1,h3,h4,h5,h6,h7,eq_true h8,or_false,false_or,or_self,or_true]
 simp only [go_sem,aF,opE,gk,bM,bL,d5,h1,h3,h4,h5,h6,h7,h8,or_false,false_or,or_self]
def qb:bq Tryz.prog 129 :=
 mk1 _ _ _ Tryz.func129 rfl (fun _ _=>by go_simp) (tOp) ((fun _=>True)) ((fun o=>.ret (bv (d5 o)))) (by rw [Tryz.ntmps129];decide) (fun o _=>Kp o)
theorem bF {id:Nat} {h:ag} {args:List AV}:(qb).run id h args=bV (aI (tOp) ((fun _=>True))) ((fun o=>.ret (bv (d5 o)))) h args:=rfl
theorem bE {id:Nat} {h:ag} {args:List AV}:(qb).pan id h args=ca (aI (tOp) ((fun _=>True))) ((fun o=>.ret (bv (d5 o)))) h args:=rfl
end
section
open Go.RowKit
theorem nu {x y:Operand} {a b:Bool}:lf Tryz.prog (do eqGuard .eql 4 x y (.bool a) (.bool b);binOp .eql 4 (.bool a) (.bool b))=some (.bool (a==b)):=by
  refine nt fun w=>?_
  cases a<;>cases b<;>rfl
theorem H6 (o:OpV):SW Tryz.prog ⟨none,0⟩ Tryz.f76.ntmps (Tryz.f76.body.getD .skip) ⟨0,aw 0 [tOp.enc o],[]⟩ (eK Tryz.prog Tryz.f76.results.toList (.ret (bv (eN o)))):=by
 refine ab (ctx:=[⟨_,nz⟩,⟨_,qb⟩]) 4000 ?_
 rw [Tryz.ntmps76,Tryz.results76]
 simp only [Tryz.f76,Option.getD_some,aw]
 obtain ⟨kind,⟨rn,rx,rs⟩,⟨mn,mx,ms⟩,md,amt,n,add,plus,minus,lo,mode⟩:=o
 cases h1:iO ⟨rn,rx,rs⟩
 ·simp only [go_sem,aF,opE,gk,bM,bL,eN,h1,Bool.false_and]
 cases rx
 case false=>simp only [go_sem,aF,opE,gk,bM,bL,eN,h1,Bool.false_and,Bool.true_and]
 cases h2:((rn==31)==rs)
 ·simp only [go_sem,↓nu,aF,opE,gk,bM,bL,eN,h1,h2,Bool.false_and,Bool.true_and]
 by_cases h3:0≤mode
 case neg=>simp only [go_sem,↓nu,aF,opE,gk,bM,bL,eN,h1,h2,h3,decide_false,Bool.false_and,Bool.true_and]
 by_cases h4:mode≤3
 case neg=>simp only [go_sem,↓nu,aF,opE,gk,bM,bL,eN,h1,h2,h3,h4,decide_false,decide_true,Bool.false_and,Bool.true_and]
 by_cases h5:mode=3
 ·simp only [go_sem,↓nu,aF,opE,opD,gk,bM,bL,bF,bE,eN,h1,h2,h3,h4,eq_true h5,decide_false,decide_true,Bool.false_or,Bool.true_and,not_true_eq_false]
 ·simp only [go_sem,↓nu,aF,opE,gk,bM,bL,eN,h1,h2,h3,h4,h5,decide_false,decide_true,Bool.true_or,Bool.true_and,not_false_eq_true]
def fh:bq Tryz.prog 76 :=
 mk1 _ _ _ Tryz.func76 rfl (fun _ _=>by go_simp) (tOp) ((fun _=>True)) ((fun o=>.ret (bv (eN o)))) (by rw [Tryz.ntmps76];decide) (fun o _=>H6 o)
theorem bI {id:Nat} {h:ag} {args:List AV}:(fh).run id h args=bV (aI (tOp) ((fun _=>True))) ((fun o=>.ret (bv (eN o)))) h args:=rfl
theorem bH {id:Nat} {h:ag} {args:List AV}:(fh).pan id h args=ca (aI (tOp) ((fun _=>True))) ((fun o=>.ret (bv (eN o)))) h args:=rfl
theorem M5 (o:OpV):SW Tryz.prog ⟨none,0⟩ Tryz.f72.ntmps (Tryz.f72.body.getD .skip) ⟨0,aw 0 [tOp.enc o],[]⟩ (eK Tryz.prog Tryz.f72.results.toList (.ret (opV (fX o)))):=by
 refine ab (ctx:=[]) 4000 ?_
 rw [Tryz.ntmps72,Tryz.results72]
 simp only [Tryz.f72,Option.getD_some,aw]
 obtain ⟨kind,⟨rn,rx,rs⟩,⟨mn,mx,ms⟩,md,amt,n,add,plus,minus,lo,mode⟩:=o
 by_cases h1:kind=1
 ·subst h1
  simp only [go_sem,aF,opE,opV,fX,r0]
  refine fP (ctx:=[]) mixed ⟨[],[(7,[80]),(9,[80]),(11,[80])],[(2,[80]),(3,[80]),(4,[80]),(5,[80])]⟩ (by kernel_rfl) ?_
  simp only [go_sem,ax]
 by_cases h2:kind=2
 ·subst h2
  simp only [go_sem,aF,opE,opV,fX,r0]
  refine fP (ctx:=[]) mixed ⟨[],[(5,[80]),(7,[80])],[(2,[80]),(3,[80])]⟩ (by kernel_rfl) ?_
  cases lo
  ·simp only [go_sem,ax]
   refine fP (ctx:=[]) mixed ⟨[],[(5,[80]),(7,[80])],[(2,[80]),(3,[80])]⟩ (by kernel_rfl) ?_
   simp only [go_sem,ax]
  ·simp only [go_sem,ax]
 by_cases h3:kind=3
 ·subst h3
  simp only [go_sem,aF,opE,opV,fX,r0,ax]
 by_cases h5:kind=5
 ·subst h5
  simp only [go_sem,aF,opE,opV,fX,r0]
  refine fP (ctx:=[]) mixed ⟨[],[(5,[80]),(7,[80])],[(2,[80]),(3,[80])]⟩ (by kernel_rfl) ?_
  by_cases m0:mode=0
  ·subst m0
   simp only [go_sem,ax]
   refine fP (ctx:=[]) mixed ⟨[],[(5,[80]),(7,[80])],[(2,[80]),(3,[80])]⟩ (by kernel_rfl) ?_
   simp only [go_sem,ax]
  by_cases m3:mode=3
  ·subst m3
   simp only [go_sem,ax]
   refine fP (ctx:=[]) mixed ⟨[],[(7,[80]),(9,[80]),(11,[80])],[(2,[80]),(3,[80]),(4,[80]),(5,[80])]⟩ (by kernel_rfl) ?_
   simp only [go_sem,ax]
  ·simp only [go_sem,ax,m0,m3]
 by_cases h4:kind=4
 ·subst h4
  simp only [go_sem,aF,opE,opV,fX,r0,ax,true_or]
 by_cases h6:kind=6
 ·subst h6
  simp only [go_sem,aF,opE,opV,fX,r0,ax,true_or,or_true]
 by_cases h7:kind=7
 ·subst h7
  simp only [go_sem,aF,opE,opV,fX,r0,ax,true_or,or_true]
 by_cases h8:kind=8
 ·subst h8
  simp only [go_sem,aF,opE,opV,fX,r0,ax,true_or,or_true]
 by_cases h9:kind=9
 ·subst h9
  simp only [go_sem,aF,opE,opV,fX,r0,ax,true_or,or_true]
 simp only [go_sem,aF,opE,opV,fX,r0,ax,h1,h2,h3,h4,h5,h6,h7,h8,h9,or_self]
def Jz:bq Tryz.prog 72 :=
 mk1 _ _ _ Tryz.func72 rfl (fun _ _=>by go_simp) (tOp) ((fun _=>True)) ((fun o=>.ret (opV (fX o)))) (by rw [Tryz.ntmps72];decide) (fun o _=>M5 o)
theorem cM {id:Nat} {h:ag} {args:List AV}:(Jz).run id h args=bV (aI (tOp) ((fun _=>True))) ((fun o=>.ret (opV (fX o)))) h args:=rfl
theorem cL {id:Nat} {h:ag} {args:List AV}:(Jz).pan id h args=ca (aI (tOp) ((fun _=>True))) ((fun o=>.ret (opV (fX o)))) h args:=rfl
theorem Hl (o:OpV):SW Tryz.prog ⟨none,0⟩ Tryz.f32.ntmps (Tryz.f32.body.getD .skip) ⟨0,aw 0 [tOp.enc o],[]⟩ (eK Tryz.prog Tryz.f32.results.toList (.ret (bv (iH o)))):=by
 refine ab (ctx:=[⟨_,nz⟩,⟨_,zq⟩,⟨_,fh⟩]) 4000 ?_
 rw [Tryz.ntmps32,Tryz.results32]
 simp only [Tryz.f32,Option.getD_some,aw]
 obtain ⟨b,hb⟩:∃ b,fX o=b:=⟨_,rfl⟩
 have hD:opR.dec (opE o)=some o:=rfl
 have hF:iH o=if ¬b=o then false
  else if o.kind=1 then iO o.r&&dF o 12
  else if o.kind=2 then dF o 1
  else if o.kind=3 then true
  else if o.kind=4∨o.kind=6∨o.kind=7∨o.kind=8∨o.kind=9 then decide (0≤o.n)&&decide (o.n≤jP o.kind)
  else if o.kind=5 then eN o
  else false:=by unfold iH;rw [hb]
 rw [hF]
 simp only [go_sem,aF,opE]
 refine cr (ctx:=[⟨_,Jz⟩]) mixed [] (by kernel_rfl) ?_
 by_cases h0:b=o
 case neg =>
  have hd:decide (b=o)=false:=by simpa using h0
  simp only [go_sem,aF,opE,opD,bj,bi,opV,cM,cL,hb,↓df,hd,h0,not_false_eq_true]
 have hd:decide (b=o)=true:=by simpa using h0
 by_cases h1:o.kind=1
 ·cases g:iO o.r
  ·simp only [go_sem,aF,opE,opD,bj,bi,opV,cM,cL,hb,↓df,hd,eq_true h0,eq_true h1,oH,bM,bL,g,Bool.false_and,not_true_eq_false]
  ·simp only [go_sem,aF,opE,opD,bj,bi,opV,cM,cL,hb,↓df,hd,eq_true h0,eq_true h1,oH,bM,bL,uY,uX,g,Bool.true_and,not_true_eq_false]
 by_cases h2:o.kind=2
 ·simp only [go_sem,aF,opE,opD,bj,bi,opV,cM,cL,hb,↓df,hd,eq_true h0,h1,eq_true h2,uY,uX,not_true_eq_false]
 by_cases h3:o.kind=3
 ·simp only [go_sem,aF,opE,opD,bj,bi,opV,cM,cL,hb,↓df,hd,eq_true h0,h1,h2,eq_true h3,not_true_eq_false]
 by_cases hk:o.kind=4∨o.kind=6∨o.kind=7∨o.kind=8∨o.kind=9
 ·rcases hk with h | h | h | h | h
  ·simp only [go_sem,aF,opE,opD,bj,bi,opV,cM,cL,hb,↓df,hd,eq_true h0,h1,h2,h3,true_or,or_true,not_true_eq_false,eq_true h]
   refine cr (ctx:=[⟨_,vT⟩]) mixed [] (by kernel_rfl) ?_
   by_cases q:0≤o.n
   ·simp only [go_sem,aF,opE,opD,bj,bi,opV,cM,cL,hb,↓df,hd,eq_true h0,h1,h2,h3,true_or,or_true,not_true_eq_false,eq_true h,iT,iS,q,decide_true,Bool.true_and]
   ·simp only [go_sem,aF,opE,opD,bj,bi,opV,cM,cL,hb,↓df,hd,eq_true h0,h1,h2,h3,true_or,or_true,not_true_eq_false,eq_true h,iT,iS,q,decide_false,Bool.false_and]
  ·have n4:¬o.kind=4:=by omega
   simp only [go_sem,aF,opE,opD,bj,bi,opV,cM,cL,hb,↓df,hd,eq_true h0,h1,h2,h3,true_or,or_true,not_true_eq_false,eq_true h,n4]
   refine cr (ctx:=[⟨_,vT⟩]) mixed [] (by kernel_rfl) ?_
   by_cases q:0≤o.n
   ·simp only [go_sem,aF,opE,opD,bj,bi,opV,cM,cL,hb,↓df,hd,eq_true h0,h1,h2,h3,true_or,or_true,not_true_eq_false,eq_true h,n4,iT,iS,q,decide_true,Bool.true_and]
   ·simp only [go_sem,aF,opE,opD,bj,bi,opV,cM,cL,hb,↓df,hd,eq_true h0,h1,h2,h3,true_or,or_true,not_true_eq_false,eq_true h,n4,iT,iS,q,decide_false,Bool.false_and]
  ·have n4:¬o.kind=4:=by omega
   have n6:¬o.kind=6:=by omega
   simp only [go_sem,aF,opE,opD,bj,bi,opV,cM,cL,hb,↓df,hd,eq_true h0,h1,h2,h3,true_or,or_true,not_true_eq_false,eq_true h,n4,n6]
   refine cr (ctx:=[⟨_,vT⟩]) mixed [] (by kernel_rfl) ?_
   by_cases q:0≤o.n
   ·simp only [go_sem,aF,opE,opD,bj,bi,opV,cM,cL,hb,↓df,hd,eq_true h0,h1,h2,h3,true_or,or_true,not_true_eq_false,eq_true h,n4,n6,iT,iS,q,decide_true,Bool.true_and]
   ·simp only [go_sem,aF,opE,opD,bj,bi,opV,cM,cL,hb,↓df,hd,eq_true h0,h1,h2,h3,true_or,or_true,not_true_eq_false,eq_true h,n4,n6,iT,iS,q,decide_false,Bool.false_and]
  ·have n4:¬o.kind=4:=by omega
   have n6:¬o.kind=6:=by omega
   have n7:¬o.kind=7:=by omega
   simp only [go_sem,aF,opE,opD,bj,bi,opV,cM,cL,hb,↓df,hd,eq_true h0,h1,h2,h3,true_or,or_true,not_true_eq_false,eq_true h,n4,n6,n7]
   refine cr (ctx:=[⟨_,vT⟩]) mixed [] (by kernel_rfl) ?_
   by_cases q:0≤o.n
   ·simp only [go_sem,aF,opE,opD,bj,bi,opV,cM,cL,hb,↓df,hd,eq_true h0,h1,h2,h3,true_or,or_true,not_true_eq_false,eq_true h,n4,n6,n7,iT,iS,q,decide_true,Bool.true_and]
   ·simp only [go_sem,aF,opE,opD,bj,bi,opV,cM,cL,hb,↓df,hd,eq_true h0,h1,h2,h3,true_or,or_true,not_true_eq_false,eq_true h,n4,n6,n7,iT,iS,q,decide_false,Bool.false_and]
  ·have n4:¬o.kind=4:=by omega
   have n6:¬o.kind=6:=by omega
   have n7:¬o.kind=7:=by omega
   have n8:¬o.kind=8:=by omega
   simp only [go_sem,aF,opE,opD,bj,bi,opV,cM,cL,hb,↓df,hd,eq_true h0,h1,h2,h3,true_or,or_true,not_true_eq_false,eq_true h,n4,n6,n7,n8]
   refine cr (ctx:=[⟨_,vT⟩]) mixed [] (by kernel_rfl) ?_
   by_cases q:0≤o.n
   ·simp only [go_sem,aF,opE,opD,bj,bi,opV,cM,cL,hb,↓df,hd,eq_true h0,h1,h2,h3,true_or,or_true,not_true_eq_false,eq_true h,n4,n6,n7,n8,iT,iS,q,decide_true,Bool.true_and]
   ·simp only [go_sem,aF,opE,opD,bj,bi,opV,cM,cL,hb,↓df,hd,eq_true h0,h1,h2,h3,true_or,or_true,not_true_eq_false,eq_true h,n4,n6,n7,n8,iT,iS,q,decide_false,Bool.false_and]
 have hk':=hk
 simp only [not_or] at hk'
 obtain ⟨n4,n6,n7,n8,n9⟩:=hk'
 by_cases h5:o.kind=5
 ·simp only [go_sem,aF,opE,opD,bj,bi,opV,cM,cL,hb,↓df,hd,eq_true h0,h1,h2,h3,n4,n6,n7,n8,n9,or_self,eq_true h5,bI,bH,not_true_eq_false]
 ·simp only [go_sem,aF,opE,opD,bj,bi,opV,cM,cL,hb,↓df,hd,eq_true h0,h1,h2,h3,n4,n6,n7,n8,n9,or_self,h5,not_true_eq_false]
def zD:bq Tryz.prog 32 :=
 mk1 _ _ _ Tryz.func32 rfl (fun _ _=>by go_simp) (tOp) ((fun _=>True)) ((fun o=>.ret (bv (iH o)))) (by rw [Tryz.ntmps32];decide) (fun o _=>Hl o)
theorem ki {id:Nat} {h:ag} {args:List AV}:(zD).run id h args=bV (aI (tOp) ((fun _=>True))) ((fun o=>.ret (bv (iH o)))) h args:=rfl
theorem kh {id:Nat} {h:ag} {args:List AV}:(zD).pan id h args=ca (aI (tOp) ((fun _=>True))) ((fun o=>.ret (bv (iH o)))) h args:=rfl
theorem Py (o:OpV) (hO:okO o):SW Tryz.prog ⟨none,0⟩ Tryz.f12.ntmps (Tryz.f12.body.getD .skip) ⟨0,aw 0 [tOp.enc o],[]⟩ (eK Tryz.prog Tryz.f12.results.toList (.ret (iv (fi o)))):=by
 refine ab (ctx:=[⟨_,zD⟩,⟨_,zW⟩,⟨_,CO⟩]) 4000 ?_
 rw [Tryz.ntmps12,Tryz.results12]
 simp only [Tryz.f12,Option.getD_some,aw]
 have hz:=hO.1.1
 have ho:=sW hO
 cases g:iH o
 ·simp only [go_sem,aF,opE,opD,bj,bi,ki,kh,g,fi]
 obtain ⟨x,hx⟩:∃ x,prO o=x:=⟨_,rfl⟩
 have hx':Ex.printF o.val=x:=hx
 by_cases g2:x.2=0
 case neg=>simp only [go_sem,aF,opE,opD,bj,bi,ki,kh,g,fi,lA,lz,g9,vr,ho,hx,hx',jT,g2,not_false_eq_true]
 by_cases g3:o.kind=3
 case neg=>simp only [go_sem,aF,opE,opD,bj,bi,ki,kh,g,fi,lA,lz,g9,vr,ho,hx,hx',jT,eq_true g2,g3,not_true_eq_false,false_and]
 by_cases g4:o.plus=emp
 ·simp only [go_sem,aF,opE,opD,bj,bi,ki,kh,g,fi,lA,lz,g9,vr,ho,hx,hx',jT,eq_true g2,eq_true g3,ax,eq_true g4,not_true_eq_false,false_and,and_false]
 cases g5:iE 3 o.plus
 ·simp only [go_sem,aF,opE,opD,bj,bi,ki,kh,g,fi,lA,lz,g9,vr,ho,hx,hx',jT,eq_true g2,eq_true g3,ax,g4,cO,cN,hz,g5,not_true_eq_false,not_false_eq_true,true_and,and_false]
 ·simp only [go_sem,aF,opE,opD,bj,bi,ki,kh,g,fi,lA,lz,g9,vr,ho,hx,hx',jT,eq_true g2,eq_true g3,ax,g4,cO,cN,hz,g5,not_true_eq_false,not_false_eq_true,true_and,and_true]
def GX:bq Tryz.prog 12 :=
 mk1 _ _ _ Tryz.func12 rfl (fun _ _=>by go_simp) (tOp) (okO) ((fun o=>.ret (iv (fi o)))) (by rw [Tryz.ntmps12];decide) (fun o h=>Py o h)
theorem cY {id:Nat} {h:ag} {args:List AV}:(GX).run id h args=bV (aI (tOp) (okO)) ((fun o=>.ret (iv (fi o)))) h args:=rfl
theorem cX {id:Nat} {h:ag} {args:List AV}:(GX).pan id h args=ca (aI (tOp) (okO)) ((fun o=>.ret (iv (fi o)))) h args:=rfl
end
end Go.Proofs.YthcoegkfpinlfaaGreatDoor
