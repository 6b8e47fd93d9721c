import Derived.Test.YthcoegkfpinlfaaGreatDoorO23
set_option linter.unusedVariables false
set_option linter.unusedSimpArgs false
set_option maxRecDepth 100000
set_option maxHeartbeats 8000000
namespace Go.Proofs.YthcoegkfpinlfaaGreatDoor
section
open Go.RowKit
def QT:cK Tryz.prog 29 :=
 mk1 _ _ _ Tryz.func29 rfl (fun _ _=>by go_simp) (cB DB) ((fun _=>True)) ((fun v=>.ret (bv (decide (v.plus=emp)&&decide (v.minus=emp))))) (by rw [Tryz.ntmps29];decide) (fun v _=>by
 refine aC (ctx:=[]) 4000 ?_
 rw [Tryz.ntmps29,Tryz.results29]
 simp only [Tryz.f29,Option.getD_some,aN]
 obtain ⟨a,p,m⟩:=v
 by_cases h1:p=emp
 ·simp only [go_sem,Sc,aS,eq_true h1,decide_true,Bool.true_and]
 ·simp only [go_sem,Sc,aS,h1,decide_false,Bool.false_and])
theorem KT {id:Nat} {h:aF} {args:List AV}:(QT).run id h args=be (aV (cB DB) ((fun _=>True))) ((fun v=>.ret (bv (decide (v.plus=emp)&&decide (v.minus=emp))))) h args:=rfl
theorem KL {id:Nat} {h:aF} {args:List AV}:(QT).pan id h args=bi (aV (cB DB) ((fun _=>True))) ((fun v=>.ret (bv (decide (v.plus=emp)&&decide (v.minus=emp))))) h args:=rfl
def Jy:cK Tryz.prog 73 :=
 mk1 _ _ _ Tryz.func73 rfl (fun _ _=>by go_simp) (cB fh) ((fun _=>True)) ((fun r=>.ret (bv (iO r)))) (by rw [Tryz.ntmps73];decide) (fun r _=>by
 refine aC (ctx:=[⟨_,CT⟩]) 4000 ?_
 rw [Tryz.ntmps73,Tryz.results73]
 simp only [Tryz.f73,Option.getD_some,aN]
 simp only [go_sem,fh,C4,CY,cZ,iO]
 rfl)
theorem dw {id:Nat} {h:aF} {args:List AV}:(Jy).run id h args=be (aV (cB fh) ((fun _=>True))) ((fun r=>.ret (bv (iO r)))) h args:=rfl
theorem dt {id:Nat} {h:aF} {args:List AV}:(Jy).pan id h args=bi (aV (cB fh) ((fun _=>True))) ((fun r=>.ret (bv (iO r)))) h args:=rfl
def Og:cK Tryz.prog 49 :=
 mk1 _ _ _ Tryz.func49 rfl (fun _ _=>by go_simp) (cB fh) ((fun _=>True)) ((fun r=>.ret (sv (lZ r)))) (by rw [Tryz.ntmps49];decide) (fun r _=>by
 refine aC (ctx:=[⟨_,CT⟩]) 4000 ?_
 rw [Tryz.ntmps49,Tryz.results49]
 simp only [Tryz.f49,Option.getD_some,aN]
 simp only [go_sem,fh,C4,CY,cZ,lZ])
theorem fT {id:Nat} {h:aF} {args:List AV}:(Og).run id h args=be (aV (cB fh) ((fun _=>True))) ((fun r=>.ret (sv (lZ r)))) h args:=rfl
theorem fR {id:Nat} {h:aF} {args:List AV}:(Og).pan id h args=bi (aV (cB fh) ((fun _=>True))) ((fun r=>.ret (sv (lZ r)))) h args:=rfl
def RB:cK Tryz.prog 52 :=
 mk1 _ _ _ Tryz.func52 rfl (fun _ _=>by go_simp) (cB DB) (lS) ((fun v=>.ret (sv (Ex.printF v).1))) (by rw [Tryz.ntmps52];decide) (fun v hv=>by
 refine aC (ctx:=[⟨_,O6⟩]) 4000 ?_
 rw [Tryz.ntmps52,Tryz.results52]
 simp only [Tryz.f52,Option.getD_some,aN]
 obtain ⟨a,p,m⟩:=v
 simp only [go_sem,Sc,fN,DL,DR,cv,hv])
theorem KI {id:Nat} {h:aF} {args:List AV}:(RB).run id h args=be (aV (cB DB) (lS)) ((fun v=>.ret (sv (Ex.printF v).1))) h args:=rfl
theorem KJ {id:Nat} {h:aF} {args:List AV}:(RB).pan id h args=bi (aV (cB DB) (lS)) ((fun v=>.ret (sv (Ex.printF v).1))) h args:=rfl
def Pp:cK Tryz.prog 75 :=
 mk1 _ _ _ Tryz.func75 rfl (fun _ _=>by go_simp) (aR .i64) ((fun _=>True)) ((fun k=>.ret (iv (Cs k)))) (by rw [Tryz.ntmps75];decide) (fun k _=>by
 refine aC (ctx:=[]) 4000 ?_
 rw [Tryz.ntmps75,Tryz.results75]
 simp only [Tryz.f75,Option.getD_some,aN]
 by_cases h1:k=6
 ·simp only [go_sem,eq_true h1,Cs]
 by_cases h2:k=8
 ·simp only [go_sem,h1,eq_true h2,Cs]
 by_cases h3:k=9
 ·simp only [go_sem,h1,h2,eq_true h3,Cs]
 simp only [go_sem,h1,h2,h3,Cs])
theorem sL {id:Nat} {h:aF} {args:List AV}:(Pp).run id h args=be (aV (aR .i64) ((fun _=>True))) ((fun k=>.ret (iv (Cs k)))) h args:=rfl
theorem sO {id:Nat} {h:aF} {args:List AV}:(Pp).pan id h args=bi (aV (aR .i64) ((fun _=>True))) ((fun k=>.ret (iv (Cs k)))) h args:=rfl
theorem X7 (o:OpV) (most:Int):SW Tryz.prog ⟨none,0⟩ Tryz.f74.ntmps (Tryz.f74.body.getD .skip) ⟨0,aN 0 [tOp.enc o,(aR .i64).enc most],[]⟩ (fa Tryz.prog Tryz.f74.results.toList (.ret (bv (gm o most)))):=by
 refine aC (ctx:=[]) 4000 ?_
 rw [Tryz.ntmps74,Tryz.results74]
 simp only [Tryz.f74,Option.getD_some,aN]
 obtain ⟨kind,⟨rn,rx,rs⟩,⟨mn,mx,ms⟩,md,amt,n,add,plus,minus,lo,mode⟩:=o
 by_cases h1:0≤md
 case neg=>simp only [go_sem,bk,opE,gm,h1,false_and,decide_false]
 by_cases h2:md≤most
 case neg=>simp only [go_sem,bk,opE,gm,h1,h2,false_and,and_false,decide_false]
 by_cases h3:0≤amt
 case neg=>simp only [go_sem,bk,opE,gm,h1,h2,h3,false_and,and_false,decide_false]
 by_cases h4:amt≤63
 case neg=>simp only [go_sem,bk,opE,gm,h1,h2,h3,h4,false_and,and_false,decide_false]
 by_cases h5:0<md
 ·simp only [go_sem,bk,opE,gm,h1,h2,h3,h4,h5,true_and,true_or,decide_true]
 ·simp only [go_sem,bk,opE,gm,h1,h2,h3,h4,h5,true_and,false_or]
  rfl
def Rt:cK Tryz.prog 74 :=
 mk2 _ _ _ Tryz.func74 rfl (fun _ _=>by go_simp) (tOp) (aR .i64) ((fun _ _=>True)) ((fun o m=>.ret (bv (gm o m)))) (by rw [Tryz.ntmps74];decide) (fun o m _=>X7 o m)
theorem OX {id:Nat} {h:aF} {args:List AV}:(Rt).run id h args=be (bE (tOp) (aR .i64) ((fun _ _=>True))) (fun x=>((fun o m=>.ret (bv (gm o m)))) x.1 x.2) h args:=rfl
theorem Om {id:Nat} {h:aF} {args:List AV}:(Rt).pan id h args=bi (bE (tOp) (aR .i64) ((fun _ _=>True))) (fun x=>((fun o m=>.ret (bv (gm o m)))) x.1 x.2) h args:=rfl
theorem ZJ (o:OpV):SW Tryz.prog ⟨none,0⟩ Tryz.f129.ntmps (Tryz.f129.body.getD .skip) ⟨0,aN 0 [tOp.enc o],[]⟩ (fa Tryz.prog Tryz.f129.results.toList (.ret (bv (iY o)))):=by
 refine aC (ctx:=[⟨_,Jy⟩]) 4000 ?_
 rw [Tryz.ntmps129,Tryz.results129]
 simp only [Tryz.f129,Option.getD_some,aN]
 obtain ⟨kind,⟨rn,rx,rs⟩,⟨mn,mx,ms⟩,md,amt,n,add,plus,minus,lo,mode⟩:=o
 cases h1:iO ⟨mn,mx,ms⟩
 ·simp only [go_sem,bk,opE,fh,dw,dt,iY,h1,true_or]
 cases ms
 case true=>simp only [go_sem,bk,opE,fh,dw,dt,iY,h1,true_or,or_true]
 by_cases h3:amt < -1
 ·simp only [go_sem,bk,opE,fh,dw,dt,iY,h1,h3,true_or,or_true]
 by_cases h4:63<amt
 ·simp only [go_sem,bk,opE,fh,dw,dt,iY,h1,h3,h4,true_or,or_true]
 by_cases h5:md=1
 ·simp only [go_sem,bk,opE,fh,dw,dt,iY,h1,h3,h4,eq_true h5,or_false,false_or,or_self,true_or]
 by_cases h6:md=12
 ·simp only [go_sem,bk,opE,fh,dw,dt,iY,h1,h3,h4,h5,eq_true h6,or_false,false_or,or_self,or_true]
 by_cases h7:md=7
 ·simp only [go_sem,bk,opE,fh,dw,dt,iY,h1,h3,h4,h5,h6,eq_true h7,or_false,false_or,or_self,true_or]
 by_cases h8:md=11
 ·simp only [go_sem,bk,opE,fh,dw,dt,iY,h1,h3,h4,h5,h6,h7,eq_true h8,or_false,false_or,or_self,or_true]
 simp only [go_sem,bk,opE,fh,dw,dt,iY,h1,h3,h4,h5,h6,h7,h8,or_false,false_or,or_self]
def QV:cK Tryz.prog 129 :=
 mk1 _ _ _ Tryz.func129 rfl (fun _ _=>by go_simp) (tOp) ((fun _=>True)) ((fun o=>.ret (bv (iY o)))) (by rw [Tryz.ntmps129];decide) (fun o _=>ZJ o)
theorem Vl {id:Nat} {h:aF} {args:List AV}:(QV).run id h args=be (aV (tOp) ((fun _=>True))) ((fun o=>.ret (bv (iY o)))) h args:=rfl
theorem Ud {id:Nat} {h:aF} {args:List AV}:(QV).pan id h args=bi (aV (tOp) ((fun _=>True))) ((fun o=>.ret (bv (iY o)))) h args:=rfl
end
section
open Go.RowKit
theorem JB {x y:Operand} {a b:Bool}:sK Tryz.prog (do eqGuard .eql 4 x y (.bool a) (.bool b);binOp .eql 4 (.bool a) (.bool b))=some (.bool (a==b)):=by
  refine mF fun w=>?_
  cases a<;>cases b<;>rfl
theorem XA (o:OpV):SW Tryz.prog ⟨none,0⟩ Tryz.f76.ntmps (Tryz.f76.body.getD .skip) ⟨0,aN 0 [tOp.enc o],[]⟩ (fa Tryz.prog Tryz.f76.results.toList (.ret (bv (Dy o)))):=by
 refine aC (ctx:=[⟨_,Jy⟩,⟨_,QV⟩]) 4000 ?_
 rw [Tryz.ntmps76,Tryz.results76]
 simp only [Tryz.f76,Option.getD_some,aN]
 obtain ⟨kind,⟨rn,rx,rs⟩,⟨mn,mx,ms⟩,md,amt,n,add,plus,minus,lo,mode⟩:=o
 cases h1:iO ⟨rn,rx,rs⟩
 ·simp only [go_sem,bk,opE,fh,dw,dt,Dy,h1,Bool.false_and]
 cases rx
 case false=>simp only [go_sem,bk,opE,fh,dw,dt,Dy,h1,Bool.false_and,Bool.true_and]
 cases h2:((rn==31)==rs)
 ·simp only [go_sem,↓JB,bk,opE,fh,dw,dt,Dy,h1,h2,Bool.false_and,Bool.true_and]
 by_cases h3:0≤mode
 case neg=>simp only [go_sem,↓JB,bk,opE,fh,dw,dt,Dy,h1,h2,h3,decide_false,Bool.false_and,Bool.true_and]
 by_cases h4:mode≤3
 case neg=>simp only [go_sem,↓JB,bk,opE,fh,dw,dt,Dy,h1,h2,h3,h4,decide_false,decide_true,Bool.false_and,Bool.true_and]
 by_cases h5:mode=3
 ·simp only [go_sem,↓JB,bk,opE,opD,fh,dw,dt,Vl,Ud,Dy,h1,h2,h3,h4,eq_true h5,decide_false,decide_true,Bool.false_or,Bool.true_and,not_true_eq_false]
 ·simp only [go_sem,↓JB,bk,opE,fh,dw,dt,Dy,h1,h2,h3,h4,h5,decide_false,decide_true,Bool.true_or,Bool.true_and,not_false_eq_true]
def Q5:cK Tryz.prog 76 :=
 mk1 _ _ _ Tryz.func76 rfl (fun _ _=>by go_simp) (tOp) ((fun _=>True)) ((fun o=>.ret (bv (Dy o)))) (by rw [Tryz.ntmps76];decide) (fun o _=>XA o)
theorem US {id:Nat} {h:aF} {args:List AV}:(Q5).run id h args=be (aV (tOp) ((fun _=>True))) ((fun o=>.ret (bv (Dy o)))) h args:=rfl
theorem UI {id:Nat} {h:aF} {args:List AV}:(Q5).pan id h args=bi (aV (tOp) ((fun _=>True))) ((fun o=>.ret (bv (Dy o)))) h args:=rfl
theorem bare_sw (o:OpV):SW Tryz.prog ⟨none,0⟩ Tryz.f72.ntmps (Tryz.f72.body.getD .skip) ⟨0,aN 0 [tOp.enc o],[]⟩ (fa Tryz.prog Tryz.f72.results.toList (.ret (opV (fO o)))):=by
 refine aC (ctx:=[]) 4000 ?_
 rw [Tryz.ntmps72,Tryz.results72]
 simp only [Tryz.f72,Option.getD_some,aN]
 obtain ⟨kind,⟨rn,rx,rs⟩,⟨mn,mx,ms⟩,md,amt,n,add,plus,minus,lo,mode⟩:=o
 by_cases h1:kind=1
 ·subst h1
  simp only [go_sem,bk,opE,opV,fO,r0]
  refine C2 (ctx:=[]) mixed ⟨[],[(7,[80]),(9,[80]),(11,[80])],[(2,[80]),(3,[80]),(4,[80]),(5,[80])]⟩ (by kernel_rfl) ?_
  simp only [go_sem,aS]
 by_cases h2:kind=2
 ·subst h2
  simp only [go_sem,bk,opE,opV,fO,r0]
  refine C2 (ctx:=[]) mixed ⟨[],[(5,[80]),(7,[80])],[(2,[80]),(3,[80])]⟩ (by kernel_rfl) ?_
  cases lo
  ·simp only [go_sem,aS]
   refine C2 (ctx:=[]) mixed ⟨[],[(5,[80]),(7,[80])],[(2,[80]),(3,[80])]⟩ (by kernel_rfl) ?_
   simp only [go_sem,aS]
  ·simp only [go_sem,aS]
 by_cases h3:kind=3
 ·subst h3
  simp only [go_sem,bk,opE,opV,fO,r0,aS]
 by_cases h5:kind=5
 ·subst h5
  simp only [go_sem,bk,opE,opV,fO,r0]
  refine C2 (ctx:=[]) mixed ⟨[],[(5,[80]),(7,[80])],[(2,[80]),(3,[80])]⟩ (by kernel_rfl) ?_
  by_cases m0:mode=0
  ·subst m0
   simp only [go_sem,aS]
   refine C2 (ctx:=[]) mixed ⟨[],[(5,[80]),(7,[80])],[(2,[80]),(3,[80])]⟩ (by kernel_rfl) ?_
   simp only [go_sem,aS]
  by_cases m3:mode=3
  ·subst m3
   simp only [go_sem,aS]
   refine C2 (ctx:=[]) mixed ⟨[],[(7,[80]),(9,[80]),(11,[80])],[(2,[80]),(3,[80]),(4,[80]),(5,[80])]⟩ (by kernel_rfl) ?_
   simp only [go_sem,aS]
  ·simp only [go_sem,aS,m0,m3]
 by_cases h4:kind=4
 ·subst h4
  simp only [go_sem,bk,opE,opV,fO,r0,aS,true_or]
 by_cases h6:kind=6
 ·subst h6
  simp only [go_sem,bk,opE,opV,fO,r0,aS,true_or,or_true]
 by_cases h7:kind=7
 ·subst h7
  simp only [go_sem,bk,opE,opV,fO,r0,aS,true_or,or_true]
 by_cases h8:kind=8
 ·subst h8
  simp only [go_sem,bk,opE,opV,fO,r0,aS,true_or,or_true]
 by_cases h9:kind=9
 ·subst h9
  simp only [go_sem,bk,opE,opV,fO,r0,aS,true_or,or_true]
 simp only [go_sem,bk,opE,opV,fO,r0,aS,h1,h2,h3,h4,h5,h6,h7,h8,h9,or_self]
def YA:cK Tryz.prog 72 :=
 mk1 _ _ _ Tryz.func72 rfl (fun _ _=>by go_simp) (tOp) ((fun _=>True)) ((fun o=>.ret (opV (fO o)))) (by rw [Tryz.ntmps72];decide) (fun o _=>bare_sw o)
theorem eh {id:Nat} {h:aF} {args:List AV}:(YA).run id h args=be (aV (tOp) ((fun _=>True))) ((fun o=>.ret (opV (fO o)))) h args:=rfl
theorem es {id:Nat} {h:aF} {args:List AV}:(YA).pan id h args=bi (aV (tOp) ((fun _=>True))) ((fun o=>.ret (opV (fO o)))) h args:=rfl
theorem WF (o:OpV):SW Tryz.prog ⟨none,0⟩ Tryz.f32.ntmps (Tryz.f32.body.getD .skip) ⟨0,aN 0 [tOp.enc o],[]⟩ (fa Tryz.prog Tryz.f32.results.toList (.ret (bv (sr o)))):=by
 refine aC (ctx:=[⟨_,Jy⟩,⟨_,Rt⟩,⟨_,Q5⟩]) 4000 ?_
 rw [Tryz.ntmps32,Tryz.results32]
 simp only [Tryz.f32,Option.getD_some,aN]
 obtain ⟨b,hb⟩:∃ b,fO o=b:=⟨_,rfl⟩
 have hD:opR.dec (opE o)=some o:=rfl
 have hF:sr o=if ¬b=o then false
  else if o.kind=1 then iO o.r&&gm o 12
  else if o.kind=2 then gm o 1
  else if o.kind=3 then true
  else if o.kind=4∨o.kind=6∨o.kind=7∨o.kind=8∨o.kind=9 then decide (0≤o.n)&&decide (o.n≤Cs o.kind)
  else if o.kind=5 then Dy o
  else false:=by unfold sr;rw [hb]
 rw [hF]
 simp only [go_sem,bk,opE]
 refine dc (ctx:=[⟨_,YA⟩]) mixed [] (by kernel_rfl) ?_
 by_cases h0:b=o
 case neg =>
  have hd:decide (b=o)=false:=by simpa using h0
  simp only [go_sem,bk,opE,opD,bU,bT,opV,eh,es,hb,↓cu,hd,h0,not_false_eq_true]
 have hd:decide (b=o)=true:=by simpa using h0
 by_cases h1:o.kind=1
 ·cases g:iO o.r
  ·simp only [go_sem,bk,opE,opD,bU,bT,opV,eh,es,hb,↓cu,hd,eq_true h0,eq_true h1,cW,dw,dt,g,Bool.false_and,not_true_eq_false]
  ·simp only [go_sem,bk,opE,opD,bU,bT,opV,eh,es,hb,↓cu,hd,eq_true h0,eq_true h1,cW,dw,dt,OX,Om,g,Bool.true_and,not_true_eq_false]
 by_cases h2:o.kind=2
 ·simp only [go_sem,bk,opE,opD,bU,bT,opV,eh,es,hb,↓cu,hd,eq_true h0,h1,eq_true h2,OX,Om,not_true_eq_false]
 by_cases h3:o.kind=3
 ·simp only [go_sem,bk,opE,opD,bU,bT,opV,eh,es,hb,↓cu,hd,eq_true h0,h1,h2,eq_true h3,not_true_eq_false]
 by_cases hk:o.kind=4∨o.kind=6∨o.kind=7∨o.kind=8∨o.kind=9
 ·rcases hk with h | h | h | h | h
  ·simp only [go_sem,bk,opE,opD,bU,bT,opV,eh,es,hb,↓cu,hd,eq_true h0,h1,h2,h3,true_or,or_true,not_true_eq_false,eq_true h]
   refine dc (ctx:=[⟨_,Pp⟩]) mixed [] (by kernel_rfl) ?_
   by_cases q:0≤o.n
   ·simp only [go_sem,bk,opE,opD,bU,bT,opV,eh,es,hb,↓cu,hd,eq_true h0,h1,h2,h3,true_or,or_true,not_true_eq_false,eq_true h,sL,sO,q,decide_true,Bool.true_and]
   ·simp only [go_sem,bk,opE,opD,bU,bT,opV,eh,es,hb,↓cu,hd,eq_true h0,h1,h2,h3,true_or,or_true,not_true_eq_false,eq_true h,sL,sO,q,decide_false,Bool.false_and]
  ·have n4:¬o.kind=4:=by omega
   simp only [go_sem,bk,opE,opD,bU,bT,opV,eh,es,hb,↓cu,hd,eq_true h0,h1,h2,h3,true_or,or_true,not_true_eq_false,eq_true h,n4]
   refine dc (ctx:=[⟨_,Pp⟩]) mixed [] (by kernel_rfl) ?_
   by_cases q:0≤o.n
   ·simp only [go_sem,bk,opE,opD,bU,bT,opV,eh,es,hb,↓cu,hd,eq_true h0,h1,h2,h3,true_or,or_true,not_true_eq_false,eq_true h,n4,sL,sO,q,decide_true,Bool.true_and]
   ·simp only [go_sem,bk,opE,opD,bU,bT,opV,eh,es,hb,↓cu,hd,eq_true h0,h1,h2,h3,true_or,or_true,not_true_eq_false,eq_true h,n4,sL,sO,q,decide_false,Bool.false_and]
  ·have n4:¬o.kind=4:=by omega
   have n6:¬o.kind=6:=by omega
   simp only [go_sem,bk,opE,opD,bU,bT,opV,eh,es,hb,↓cu,hd,eq_true h0,h1,h2,h3,true_or,or_true,not_true_eq_false,eq_true h,n4,n6]
   refine dc (ctx:=[⟨_,Pp⟩]) mixed [] (by kernel_rfl) ?_
   by_cases q:0≤o.n
   ·simp only [go_sem,bk,opE,opD,bU,bT,opV,eh,es,hb,↓cu,hd,eq_true h0,h1,h2,h3,true_or,or_true,not_true_eq_false,eq_true h,n4,n6,sL,sO,q,decide_true,Bool.true_and]
   ·simp only [go_sem,bk,opE,opD,bU,bT,opV,eh,es,hb,↓cu,hd,eq_true h0,h1,h2,h3,true_or,or_true,not_true_eq_false,eq_true h,n4,n6,sL,sO,q,decide_false,Bool.false_and]
  ·have n4:¬o.kind=4:=by omega
   have n6:¬o.kind=6:=by omega
   have n7:¬o.kind=7:=by omega
   simp only [go_sem,bk,opE,opD,bU,bT,opV,eh,es,hb,↓cu,hd,eq_true h0,h1,h2,h3,true_or,or_true,not_true_eq_false,eq_true h,n4,n6,n7]
   refine dc (ctx:=[⟨_,Pp⟩]) mixed [] (by kernel_rfl) ?_
   by_cases q:0≤o.n
   ·simp only [go_sem,bk,opE,opD,bU,bT,opV,eh,es,hb,↓cu,hd,eq_true h0,h1,h2,h3,true_or,or_true,not_true_eq_false,eq_true h,n4,n6,n7,sL,sO,q,decide_true,Bool.true_and]
   ·simp only [go_sem,bk,opE,opD,bU,bT,opV,eh,es,hb,↓cu,hd,eq_true h0,h1,h2,h3,true_or,or_true,not_true_eq_false,eq_true h,n4,n6,n7,sL,sO,q,decide_false,Bool.false_and]
  ·have n4:¬o.kind=4:=by omega
   have n6:¬o.kind=6:=by omega
   have n7:¬o.kind=7:=by omega
   have n8:¬o.kind=8:=by omega
   simp only [go_sem,bk,opE,opD,bU,bT,opV,eh,es,hb,↓cu,hd,eq_true h0,h1,h2,h3,true_or,or_true,not_true_eq_false,eq_true h,n4,n6,n7,n8]
   refine dc (ctx:=[⟨_,Pp⟩]) mixed [] (by kernel_rfl) ?_
   by_cases q:0≤o.n
   ·simp only [go_sem,bk,opE,opD,bU,bT,opV,eh,es,hb,↓cu,hd,eq_true h0,h1,h2,h3,true_or,or_true,not_true_eq_false,eq_true h,n4,n6,n7,n8,sL,sO,q,decide_true,Bool.true_and]
   ·simp only [go_sem,bk,opE,opD,bU,bT,opV,eh,es,hb,↓cu,hd,eq_true h0,h1,h2,h3,true_or,or_true,not_true_eq_false,eq_true h,n4,n6,n7,n8,sL,sO,q,decide_false,Bool.false_and]
 have hk':=hk
 simp only [not_or] at hk'
 obtain ⟨n4,n6,n7,n8,n9⟩:=hk'
 by_cases h5:o.kind=5
 ·simp only [go_sem,bk,opE,opD,bU,bT,opV,eh,es,hb,↓cu,hd,eq_true h0,h1,h2,h3,n4,n6,n7,n8,n9,or_self,eq_true h5,US,UI,not_true_eq_false]
 ·simp only [go_sem,bk,opE,opD,bU,bT,opV,eh,es,hb,↓cu,hd,eq_true h0,h1,h2,h3,n4,n6,n7,n8,n9,or_self,h5,not_true_eq_false]
def QI:cK Tryz.prog 32 :=
 mk1 _ _ _ Tryz.func32 rfl (fun _ _=>by go_simp) (tOp) ((fun _=>True)) ((fun o=>.ret (bv (sr o)))) (by rw [Tryz.ntmps32];decide) (fun o _=>WF o)
theorem CK {id:Nat} {h:aF} {args:List AV}:(QI).run id h args=be (aV (tOp) ((fun _=>True))) ((fun o=>.ret (bv (sr o)))) h args:=rfl
theorem CJ {id:Nat} {h:aF} {args:List AV}:(QI).pan id h args=bi (aV (tOp) ((fun _=>True))) ((fun o=>.ret (bv (sr o)))) h args:=rfl
theorem chk_sw (o:OpV) (hO:okO o):SW Tryz.prog ⟨none,0⟩ Tryz.f12.ntmps (Tryz.f12.body.getD .skip) ⟨0,aN 0 [tOp.enc o],[]⟩ (fa Tryz.prog Tryz.f12.results.toList (.ret (iv (iS o)))):=by
 refine aC (ctx:=[⟨_,QI⟩,⟨_,O6⟩,⟨_,YH⟩]) 4000 ?_
 rw [Tryz.ntmps12,Tryz.results12]
 simp only [Tryz.f12,Option.getD_some,aN]
 have hz:=hO.1.1
 have ho:=DM hO
 cases g:sr o
 ·simp only [go_sem,bk,opE,opD,bU,bT,CK,CJ,g,iS]
 obtain ⟨x,hx⟩:∃ x,prO o=x:=⟨_,rfl⟩
 have hx':Ex.printF o.val=x:=hx
 by_cases g2:x.2=0
 case neg=>simp only [go_sem,bk,opE,opD,bU,bT,CK,CJ,g,iS,DL,DR,fN,iL,ho,hx,hx',cv,g2,not_false_eq_true]
 by_cases g3:o.kind=3
 case neg=>simp only [go_sem,bk,opE,opD,bU,bT,CK,CJ,g,iS,DL,DR,fN,iL,ho,hx,hx',cv,eq_true g2,g3,not_true_eq_false,false_and]
 by_cases g4:o.plus=emp
 ·simp only [go_sem,bk,opE,opD,bU,bT,CK,CJ,g,iS,DL,DR,fN,iL,ho,hx,hx',cv,eq_true g2,eq_true g3,aS,eq_true g4,not_true_eq_false,false_and,and_false]
 cases g5:mB 3 o.plus
 ·simp only [go_sem,bk,opE,opD,bU,bT,CK,CJ,g,iS,DL,DR,fN,iL,ho,hx,hx',cv,eq_true g2,eq_true g3,aS,g4,S3,Sk,hz,g5,not_true_eq_false,not_false_eq_true,true_and,and_false]
 ·simp only [go_sem,bk,opE,opD,bU,bT,CK,CJ,g,iS,DL,DR,fN,iL,ho,hx,hx',cv,eq_true g2,eq_true g3,aS,g4,S3,Sk,hz,g5,not_true_eq_false,not_false_eq_true,true_and,and_true]
def WU:cK Tryz.prog 12 :=
 mk1 _ _ _ Tryz.func12 rfl (fun _ _=>by go_simp) (tOp) (okO) ((fun o=>.ret (iv (iS o)))) (by rw [Tryz.ntmps12];decide) (fun o h=>chk_sw o h)
theorem mw {id:Nat} {h:aF} {args:List AV}:(WU).run id h args=be (aV (tOp) (okO)) ((fun o=>.ret (iv (iS o)))) h args:=rfl
theorem mr {id:Nat} {h:aF} {args:List AV}:(WU).pan id h args=bi (aV (tOp) (okO)) ((fun o=>.ret (iv (iS o)))) h args:=rfl
end
end Go.Proofs.YthcoegkfpinlfaaGreatDoor
