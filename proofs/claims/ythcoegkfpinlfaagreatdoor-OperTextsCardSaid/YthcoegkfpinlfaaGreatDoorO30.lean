import Derived.Test.YthcoegkfpinlfaaGreatDoorO27
import Derived.Test.YthcoegkfpinlfaaGreatDoorO29
set_option linter.unusedVariables false
set_option linter.unusedSimpArgs false
set_option maxRecDepth 100000
set_option maxHeartbeats 8000000
namespace Go.Proofs.YthcoegkfpinlfaaGreatDoor
open Go.RowKit
def dU (o:OpV):OpV :=
 if o.kind=1 then ⟨o.kind,o.r,r0,o.md,o.amt,0,0,emp,emp,false,0⟩
 else if o.kind=2 then ⟨o.kind,r0,r0,o.md,o.amt,0,o.add,o.plus,o.minus,o.lo,0⟩
 else if o.kind=3 then ⟨o.kind,r0,r0,0,0,0,o.add,o.plus,o.minus,false,0⟩
 else if o.kind=5 then (if o.mode=3 then ⟨o.kind,o.r,o.m,o.md,o.amt,0,0,emp,emp,false,o.mode⟩ else ⟨o.kind,o.r,r0,0,0,0,o.add,o.plus,o.minus,o.lo,o.mode⟩)
 else ⟨o.kind,r0,r0,0,0,o.n,0,emp,emp,false,0⟩
def C5 (o:OpV) (least:Int):Bool:=decide (least≤o.amt∧o.amt≤63∧(¬o.md=0∨o.amt=0))
def sQ (o:OpV):Bool:=if iO o.m=false∨o.m.sp=true∨C5 o (-1)=false then false else if o.md=1∨o.md=12 then o.m.x else if o.md=7∨o.md=11 then !o.m.x else false
def Cu (o:OpV):Bool:=if iO o.r=false∨o.r.x=false∨((o.r.n==31) !=o.r.sp)=true∨o.mode<0∨3<o.mode then false else if o.mode=3 then sQ o else !o.lo||(o.mode==0)
def D7 (k:Int):Int:=if k=4∨k=7 then 15 else if k=8 then 31 else if k=6 then 32767 else if k=9 then 5 else -1
def mL (o:OpV):Bool :=
 if o.kind=1 then iO o.r&&(decide (0≤o.md)&&(decide (o.md≤12)&&C5 o 0))
 else if o.kind=2 then (decide (o.md=0)||(decide (o.md=1)&&!o.lo))&&C5 o 0
 else if o.kind=3 then true
 else if o.kind=5 then Cu o
 else decide (0≤o.n)&&decide (o.n≤D7 o.kind)
def Ky (o:OpV):Int :=
 if mL o=false∨¬dU o=o then 100
 else if ¬(prO o).2=0 then (prO o).2
 else if o.kind=3∧¬o.plus=emp∧mB 3 o.plus=true then 100
 else 0
def LU:cK Tryz.prog 44 :=
 mk1 _ _ _ Tryz.func44 rfl (fun _ _=>by go_simp) (cB DB) ((fun _=>True)) ((fun v=>.ret (bv (decide (v.plus=emp)&&decide (v.minus=emp))))) (by rw [Tryz.ntmps44];decide) (fun v _=>by
 refine aC (ctx:=[]) 4000 ?_
 rw [Tryz.ntmps44,Tryz.results44]
 simp only [Tryz.f44,Option.getD_some,aN]
 obtain ⟨a,p,m⟩:=v
 by_cases h1:p=emp
 ·simp only [go_sem,Sc,aS,eq_true h1,decide_true,Bool.true_and]
 ·simp only [go_sem,Sc,aS,h1,decide_false,Bool.false_and])
theorem Ff {id:Nat} {h:aF} {args:List AV}:(LU).run id h args=be (aV (cB DB) ((fun _=>True))) ((fun v=>.ret (bv (decide (v.plus=emp)&&decide (v.minus=emp))))) h args:=rfl
theorem G0 {id:Nat} {h:aF} {args:List AV}:(LU).pan id h args=bi (aV (cB DB) ((fun _=>True))) ((fun v=>.ret (bv (decide (v.plus=emp)&&decide (v.minus=emp))))) h args:=rfl
def Lp:cK Tryz.prog 43 :=
 mk1 _ _ _ Tryz.func43 rfl (fun _ _=>by go_simp) (cB DB) ((fun v=>v.plus.size≤1099511627776)) ((fun v=>.ret (bv (!decide (v.plus=emp)&&mB 3 v.plus)))) (by rw [Tryz.ntmps43];decide) (fun v hv=>by
 refine aC (ctx:=[⟨_,TV⟩]) 4000 ?_
 rw [Tryz.ntmps43,Tryz.results43]
 simp only [Tryz.f43,Option.getD_some,aN]
 obtain ⟨a,p,m⟩:=v
 simp only at hv
 by_cases h1:p=emp
 ·simp only [go_sem,Sc,aS,eq_true h1,decide_true,Bool.not_true,Bool.false_and]
 ·simp only [go_sem,Sc,aS,h1,decide_false,Bool.not_false,Bool.true_and,WB,WI,hv])
theorem bS {id:Nat} {h:aF} {args:List AV}:(Lp).run id h args=be (aV (cB DB) ((fun v=>v.plus.size≤1099511627776))) ((fun v=>.ret (bv (!decide (v.plus=emp)&&mB 3 v.plus)))) h args:=rfl
theorem bR {id:Nat} {h:aF} {args:List AV}:(Lp).pan id h args=bi (aV (cB DB) ((fun v=>v.plus.size≤1099511627776))) ((fun v=>.ret (bv (!decide (v.plus=emp)&&mB 3 v.plus)))) h args:=rfl
def DV:cK Tryz.prog 37 :=
 mk1 _ _ _ Tryz.func37 rfl (fun _ _=>by go_simp) (cB fh) ((fun _=>True)) ((fun r=>.ret (bv (iO r)))) (by rw [Tryz.ntmps37];decide) (fun r _=>by
 refine aC (ctx:=[⟨_,Jw⟩]) 4000 ?_
 rw [Tryz.ntmps37,Tryz.results37]
 simp only [Tryz.f37,Option.getD_some,aN]
 simp only [go_sem,fh,d9,ef,cZ,iO]
 rfl)
theorem aM {id:Nat} {h:aF} {args:List AV}:(DV).run id h args=be (aV (cB fh) ((fun _=>True))) ((fun r=>.ret (bv (iO r)))) h args:=rfl
theorem aL {id:Nat} {h:aF} {args:List AV}:(DV).pan id h args=bi (aV (cB fh) ((fun _=>True))) ((fun r=>.ret (bv (iO r)))) h args:=rfl
def Ou:cK Tryz.prog 40 :=
 mk1 _ _ _ Tryz.func40 rfl (fun _ _=>by go_simp) (aR .i64) ((fun _=>True)) ((fun k=>.ret (iv (D7 k)))) (by rw [Tryz.ntmps40];decide) (fun k _=>by
 refine aC (ctx:=[]) 4000 ?_
 rw [Tryz.ntmps40,Tryz.results40]
 simp only [Tryz.f40,Option.getD_some,aN]
 by_cases h1:k=4
 ·simp only [go_sem,eq_true h1,D7,true_or]
 by_cases h2:k=7
 ·simp only [go_sem,h1,eq_true h2,D7,or_true]
 by_cases h3:k=8
 ·simp only [go_sem,h1,h2,eq_true h3,D7,or_self]
 by_cases h4:k=6
 ·simp only [go_sem,h1,h2,h3,eq_true h4,D7,or_self]
 by_cases h5:k=9
 ·simp only [go_sem,h1,h2,h3,h4,eq_true h5,D7,or_self]
 simp only [go_sem,h1,h2,h3,h4,h5,D7,or_self])
theorem M5 {id:Nat} {h:aF} {args:List AV}:(Ou).run id h args=be (aV (aR .i64) ((fun _=>True))) ((fun k=>.ret (iv (D7 k)))) h args:=rfl
theorem Nq {id:Nat} {h:aF} {args:List AV}:(Ou).pan id h args=bi (aV (aR .i64) ((fun _=>True))) ((fun k=>.ret (iv (D7 k)))) h args:=rfl
theorem Vc (o:OpV) (least:Int):SW Tryz.prog ⟨none,0⟩ Tryz.f38.ntmps (Tryz.f38.body.getD .skip) ⟨0,aN 0 [tOp.enc o,(aR .i64).enc least],[]⟩ (fa Tryz.prog Tryz.f38.results.toList (.ret (bv (C5 o least)))):=by
 refine aC (ctx:=[]) 4000 ?_
 rw [Tryz.ntmps38,Tryz.results38]
 simp only [Tryz.f38,Option.getD_some,aN]
 obtain ⟨kind,⟨rn,rx,rs⟩,⟨mn,mx,ms⟩,md,amt,n,add,plus,minus,lo,mode⟩:=o
 by_cases h3:least≤amt
 case neg=>simp only [go_sem,bk,opE,C5,h3,false_and,decide_false]
 by_cases h4:amt≤63
 case neg=>simp only [go_sem,bk,opE,C5,h3,h4,false_and,and_false,decide_false]
 by_cases h5:md=0
 ·simp only [go_sem,bk,opE,C5,h3,h4,eq_true h5,true_and,not_true_eq_false,false_or]
  rfl
 ·simp only [go_sem,bk,opE,C5,h3,h4,h5,true_and,not_false_eq_true,true_or,decide_true]
def ML:cK Tryz.prog 38 :=
 mk2 _ _ _ Tryz.func38 rfl (fun _ _=>by go_simp) (tOp) (aR .i64) ((fun _ _=>True)) ((fun o m=>.ret (bv (C5 o m)))) (by rw [Tryz.ntmps38];decide) (fun o m _=>Vc o m)
theorem aZ {id:Nat} {h:aF} {args:List AV}:(ML).run id h args=be (bE (tOp) (aR .i64) ((fun _ _=>True))) (fun x=>((fun o m=>.ret (bv (C5 o m)))) x.1 x.2) h args:=rfl
theorem ba {id:Nat} {h:aF} {args:List AV}:(ML).pan id h args=bi (bE (tOp) (aR .i64) ((fun _ _=>True))) (fun x=>((fun o m=>.ret (bv (C5 o m)))) x.1 x.2) h args:=rfl
theorem W4 (o:OpV):SW Tryz.prog ⟨none,0⟩ Tryz.f86.ntmps (Tryz.f86.body.getD .skip) ⟨0,aN 0 [tOp.enc o],[]⟩ (fa Tryz.prog Tryz.f86.results.toList (.ret (bv (sQ o)))):=by
 refine aC (ctx:=[⟨_,DV⟩,⟨_,ML⟩]) 4000 ?_
 rw [Tryz.ntmps86,Tryz.results86]
 simp only [Tryz.f86,Option.getD_some,aN]
 cases h1:iO o.m
 ·simp only [go_sem,bk,opE,opD,bU,bT,cW,aM,aL,sQ,h1,true_or]
 by_cases h2:o.m.sp=true
 ·simp only [go_sem,bk,opE,opD,bU,bT,cW,aM,aL,sQ,h1,h2,true_or,or_true]
 have h2':o.m.sp=false:=by simpa using h2
 have eM:(⟨o.m.n,o.m.x,false⟩:CF)=o.m:=by rw [← h2']
 cases h3:C5 o (-1)
 ·simp only [go_sem,bk,opE,opD,bU,bT,cW,eM,aM,aL,aZ,ba,sQ,h1,h2',h3,true_or,or_true]
 by_cases h5:o.md=1
 ·simp only [go_sem,bk,opE,opD,bU,bT,cW,eM,aM,aL,aZ,ba,sQ,h1,h2',h3,eq_true h5,or_false,false_or,or_self,true_or,Bool.true_eq_false,Bool.false_eq_true]
 by_cases h6:o.md=12
 ·simp only [go_sem,bk,opE,opD,bU,bT,cW,eM,aM,aL,aZ,ba,sQ,h1,h2',h3,h5,eq_true h6,or_false,false_or,or_self,or_true,Bool.true_eq_false,Bool.false_eq_true]
 by_cases h7:o.md=7
 ·simp only [go_sem,bk,opE,opD,bU,bT,cW,eM,aM,aL,aZ,ba,sQ,h1,h2',h3,h5,h6,eq_true h7,or_false,false_or,or_self,true_or,Bool.true_eq_false,Bool.false_eq_true]
 by_cases h8:o.md=11
 ·simp only [go_sem,bk,opE,opD,bU,bT,cW,eM,aM,aL,aZ,ba,sQ,h1,h2',h3,h5,h6,h7,eq_true h8,or_false,false_or,or_self,or_true,Bool.true_eq_false,Bool.false_eq_true]
 simp only [go_sem,bk,opE,opD,bU,bT,cW,eM,aM,aL,aZ,ba,sQ,h1,h2',h3,h5,h6,h7,h8,or_false,false_or,or_self,Bool.true_eq_false,Bool.false_eq_true]
def QU:cK Tryz.prog 86 :=
 mk1 _ _ _ Tryz.func86 rfl (fun _ _=>by go_simp) (tOp) ((fun _=>True)) ((fun o=>.ret (bv (sQ o)))) (by rw [Tryz.ntmps86];decide) (fun o _=>W4 o)
theorem UU {id:Nat} {h:aF} {args:List AV}:(QU).run id h args=be (aV (tOp) ((fun _=>True))) ((fun o=>.ret (bv (sQ o)))) h args:=rfl
theorem TF {id:Nat} {h:aF} {args:List AV}:(QU).pan id h args=bi (aV (tOp) ((fun _=>True))) ((fun o=>.ret (bv (sQ o)))) h args:=rfl
theorem Ju {x y:Operand} {a b:Bool}:sK Tryz.prog (do eqGuard .neq 4 x y (.bool a) (.bool b);binOp .neq 4 (.bool a) (.bool b))=some (.bool (a !=b)):=by
  refine mF fun w=>?_
  cases a<;>cases b<;>rfl
theorem Vd (o:OpV):SW Tryz.prog ⟨none,0⟩ Tryz.f39.ntmps (Tryz.f39.body.getD .skip) ⟨0,aN 0 [tOp.enc o],[]⟩ (fa Tryz.prog Tryz.f39.results.toList (.ret (bv (Cu o)))):=by
 refine aC (ctx:=[⟨_,DV⟩,⟨_,QU⟩]) 4000 ?_
 rw [Tryz.ntmps39,Tryz.results39]
 simp only [Tryz.f39,Option.getD_some,aN]
 cases h1:iO o.r
 ·simp only [go_sem,bk,opE,opD,bU,bT,cW,aM,aL,Cu,h1,true_or]
 by_cases hx:o.r.x=true
 case neg =>
  have hx':o.r.x=false:=by simpa using hx
  have eR:(⟨o.r.n,false,o.r.sp⟩:CF)=o.r:=by rw [← hx']
  simp only [go_sem,bk,opE,opD,bU,bT,cW,eR,aM,aL,Cu,h1,hx',true_or,or_true]
 have eR:(⟨o.r.n,true,o.r.sp⟩:CF)=o.r:=by rw [← hx]
 cases h2:((o.r.n==31) !=o.r.sp)
 case true=>simp only [go_sem,bk,opE,opD,bU,bT,cW,eR,↓Ju,aM,aL,Cu,h1,hx,h2,true_or,or_true]
 by_cases h3:o.mode<0
 ·simp only [go_sem,bk,opE,opD,bU,bT,cW,eR,↓Ju,aM,aL,Cu,h1,hx,h2,h3,true_or,or_true]
 by_cases h4:3<o.mode
 ·simp only [go_sem,bk,opE,opD,bU,bT,cW,eR,↓Ju,aM,aL,Cu,h1,hx,h2,h3,h4,true_or,or_true]
 by_cases h5:o.mode=3
 ·simp only [go_sem,bk,opE,opD,bU,bT,cW,eR,↓Ju,aM,aL,UU,TF,Cu,h1,hx,h2,h3,h4,eq_true h5,or_self,Bool.true_eq_false,Bool.false_eq_true]
 by_cases h6:o.lo=true
 ·simp only [go_sem,bk,opE,opD,bU,bT,cW,eR,↓Ju,aM,aL,Cu,h1,hx,h2,h3,h4,h5,h6,or_self,Bool.true_eq_false,Bool.false_eq_true,Bool.not_true,Bool.false_or]
 ·have h6':o.lo=false:=by simpa using h6
  simp only [go_sem,bk,opE,opD,bU,bT,cW,eR,↓Ju,aM,aL,Cu,h1,hx,h2,h3,h4,h5,h6',or_self,Bool.true_eq_false,Bool.false_eq_true,Bool.not_false,Bool.true_or]
def OU:cK Tryz.prog 39 :=
 mk1 _ _ _ Tryz.func39 rfl (fun _ _=>by go_simp) (tOp) ((fun _=>True)) ((fun o=>.ret (bv (Cu o)))) (by rw [Tryz.ntmps39];decide) (fun o _=>Vd o)
theorem bq {id:Nat} {h:aF} {args:List AV}:(OU).run id h args=be (aV (tOp) ((fun _=>True))) ((fun o=>.ret (bv (Cu o)))) h args:=rfl
theorem bp {id:Nat} {h:aF} {args:List AV}:(OU).pan id h args=bi (aV (tOp) ((fun _=>True))) ((fun o=>.ret (bv (Cu o)))) h args:=rfl
theorem YS (o:OpV):SW Tryz.prog ⟨none,0⟩ Tryz.f41.ntmps (Tryz.f41.body.getD .skip) ⟨0,aN 0 [tOp.enc o],[]⟩ (fa Tryz.prog Tryz.f41.results.toList (.ret (opV (dU o)))):=by
 refine aC (ctx:=[]) 4000 ?_
 rw [Tryz.ntmps41,Tryz.results41]
 simp only [Tryz.f41,Option.getD_some,aN]
 by_cases h1:o.kind=1
 ·simp only [go_sem,bk,opE,opV,dU,r0,aS,eq_true h1]
 by_cases h2:o.kind=2
 ·simp only [go_sem,bk,opE,opV,dU,r0,aS,h1,eq_true h2]
 by_cases h3:o.kind=3
 ·simp only [go_sem,bk,opE,opV,dU,r0,aS,h1,h2,eq_true h3]
 by_cases h5:o.kind=5
 ·by_cases m3:o.mode=3
  ·simp only [go_sem,bk,opE,opV,dU,r0,aS,h1,h2,h3,eq_true h5,eq_true m3]
  ·simp only [go_sem,bk,opE,opV,dU,r0,aS,h1,h2,h3,eq_true h5,m3]
 simp only [go_sem,bk,opE,opV,dU,r0,aS,h1,h2,h3,h5]
def lP:cK Tryz.prog 41 :=
 mk1 _ _ _ Tryz.func41 rfl (fun _ _=>by go_simp) (tOp) ((fun _=>True)) ((fun o=>.ret (opV (dU o)))) (by rw [Tryz.ntmps41];decide) (fun o _=>YS o)
theorem cR {id:Nat} {h:aF} {args:List AV}:(lP).run id h args=be (aV (tOp) ((fun _=>True))) ((fun o=>.ret (opV (dU o)))) h args:=rfl
theorem cP {id:Nat} {h:aF} {args:List AV}:(lP).pan id h args=bi (aV (tOp) ((fun _=>True))) ((fun o=>.ret (opV (dU o)))) h args:=rfl
end Go.Proofs.YthcoegkfpinlfaaGreatDoor
