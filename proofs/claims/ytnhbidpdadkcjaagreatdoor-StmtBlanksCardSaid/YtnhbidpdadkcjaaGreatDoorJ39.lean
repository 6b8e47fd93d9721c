import Derived.Test.YtnhbidpdadkcjaaGreatDoorJ38
import Derived.Test.YtnhbidpdadkcjaaGreatDoorJ31
import Derived.Test.YtnhbidpdadkcjaaGreatDoorJ10
set_option linter.unusedVariables false
set_option linter.unusedSimpArgs false
set_option maxRecDepth 100000
set_option maxHeartbeats 8000000
namespace Go.Proofs.YtnhbidpdadkcjaaGreatDoor
section
open Go.RowKit
open Ex (Xs xs0)
section
variable {l l1 l2 l3:List Tok} {rn va:Int} {rx rs:Bool} {vp vm:ByteArray} {e:Int} {w:kC}
abbrev qz (l:List Tok) (r:RdR OpV):Prop:=SW Tryz.prog ⟨none,1⟩ Tryz.f152.ntmps (Tryz.f152.body.getD .skip) ⟨1,aC 0 [pv 0 0 0],bB 0 [rdK l]⟩ (dy Tryz.prog Tryz.f152.results.toList 1 (dA (r.map fun p=>(opV p.1,p.2))))
theorem Mj (h0:RdOk l1) (h1:aQ l=((⟨rn,rx,rs⟩,true),l1)):qz l (changedR ⟨1,⟨rn,rx,rs⟩,⟨0,false,false⟩,0,0,0,0,⟨#[]⟩,⟨#[]⟩,false,0⟩ 12 0 l1):=by
 refine aa (ctx:=[⟨_,iz⟩,⟨_,lx⟩]) 4000 ?_
 rw [Tryz.ntmps152,Tryz.results152]
 simp only [Tryz.f152,Option.getD_some,aC]
 rcases h2:changedR ⟨1,⟨rn,rx,rs⟩,⟨0,false,false⟩,0,0,0,0,⟨#[]⟩,⟨#[]⟩,false,0⟩ 12 0 l1 with e | ⟨o,l2⟩
 ·simp only [go_sem,rdK,aT,bm,aB,aA,xs2,xs1,xs0,aI,ai,Except.map,aZ,aY,aK,aJ,az,ay,bh,opE,opD,opV,bQ,bP,bD,bC,cV,bA,bz,bg,bd,db,gJ,bS,bR,aV,aU,fH,eY,eX,dS,dR,dw,dv,gh,eh,eg,gd,ge,h0,h1,h2]
 ·simp only [go_sem,rdK,aT,bm,aB,aA,xs2,xs1,xs0,aI,ai,Except.map,aZ,aY,aK,aJ,az,ay,bh,opE,opD,opV,bQ,bP,bD,bC,cV,bA,bz,bg,bd,db,gJ,bS,bR,aV,aU,fH,eY,eX,dS,dR,dw,dv,gh,eh,eg,gd,ge,h0,h1,h2]
  exact cF rfl rfl
theorem Mi (h0:RdOk l2) (h1:aQ l=((w,false),l1)) (h2:bW ⟨#[91]⟩ l1=(true,l2)):qz l (je l2):=by
 refine aa (ctx:=[⟨_,iz⟩,⟨_,atS⟩,⟨_,iS⟩,⟨_,RA⟩]) 4000 ?_
 rw [Tryz.ntmps152,Tryz.results152]
 simp only [Tryz.f152,Option.getD_some,aC]
 rcases h3:je l2 with e | ⟨o,l3⟩
 ·simp only [go_sem,rdK,aT,bm,aB,aA,xs2,xs1,xs0,aI,ai,Except.map,aZ,aY,aK,aJ,az,ay,bh,opE,opD,opV,bQ,bP,bD,bC,cV,bA,bz,bg,bd,db,gJ,bS,bR,aV,aU,fH,eY,eX,dS,dR,dw,dv,gh,eh,eg,gd,ge,h0,h1,h2,h3,Int.toNat_zero]
 ·simp only [go_sem,rdK,aT,bm,aB,aA,xs2,xs1,xs0,aI,ai,Except.map,aZ,aY,aK,aJ,az,ay,bh,opE,opD,opV,bQ,bP,bD,bC,cV,bA,bz,bg,bd,db,gJ,bS,bR,aV,aU,fH,eY,eX,dS,dR,dw,dv,gh,eh,eg,gd,ge,h0,h1,h2,h3,Int.toNat_zero]
  exact cF rfl rfl
theorem IR (h0:RdOk l2) (h1:aQ l=((w,false),l1)) (h2:bW ⟨#[91]⟩ l1=(false,l1)) (h3:bW ⟨#[35]⟩ l1=(true,l2)):qz l (xk l2):=by
 refine aa (ctx:=[⟨_,iz⟩,⟨_,atS⟩,⟨_,iS⟩,⟨_,li⟩,⟨_,lx⟩]) 4000 ?_
 rw [Tryz.ntmps152,Tryz.results152]
 simp only [Tryz.f152,Option.getD_some,aC]
 unfold xk
 rcases hv:valueR l2 with e | ⟨⟨va,vp,vm⟩,l3⟩
 ·simp only [go_sem,rdK,aT,bm,aB,aA,xs2,xs1,xs0,aI,ai,Except.map,aZ,aY,aK,aJ,az,ay,bh,opE,opD,opV,bQ,bP,bD,bC,cV,bA,bz,bg,bd,db,gJ,bS,bR,aV,aU,fH,eY,eX,dS,dR,dw,dv,gh,eh,eg,gd,ge,h0,h1,h2,h3,hv,Int.toNat_zero]
 ·obtain ⟨-,h4,-⟩:=jj h0 hv
  have e5:changedR (qx ⟨va,vp,vm⟩ false) 1 0 l3=changedR ⟨2,⟨0,false,false⟩,⟨0,false,false⟩,0,0,0,va,vp,vm,false,0⟩ 1 0 l3:=rfl
  simp only [e5]
  rcases h5:changedR ⟨2,⟨0,false,false⟩,⟨0,false,false⟩,0,0,0,va,vp,vm,false,0⟩ 1 0 l3 with e | ⟨o,l4⟩
  ·simp only [go_sem,rdK,aT,bm,aB,aA,xs2,xs1,xs0,aI,ai,Except.map,aZ,aY,aK,aJ,az,ay,bh,opE,opD,opV,bQ,bP,bD,bC,cV,bA,bz,bg,bd,db,gJ,bS,bR,aV,aU,fH,eY,eX,dS,dR,dw,dv,gh,eh,eg,gd,ge,h0,h1,h2,h3,h4,h5,hv,Int.toNat_zero]
  ·simp only [go_sem,rdK,aT,bm,aB,aA,xs2,xs1,xs0,aI,ai,Except.map,aZ,aY,aK,aJ,az,ay,bh,opE,opD,opV,bQ,bP,bD,bC,cV,bA,bz,bg,bd,db,gJ,bS,bR,aV,aU,fH,eY,eX,dS,dR,dw,dv,gh,eh,eg,gd,ge,h0,h1,h2,h3,h4,h5,hv,Int.toNat_zero]
   exact cF rfl rfl
theorem Mh (h1:aQ l=((w,false),l1)) (h2:bW ⟨#[91]⟩ l1=(false,l1)) (h3:bW ⟨#[35]⟩ l1=(false,l1)) (h4:loR l1=.error e):qz l (.error e):=by
 refine aa (ctx:=[⟨_,iz⟩,⟨_,atS⟩,⟨_,iS⟩,⟨_,vY⟩]) 4000 ?_
 rw [Tryz.ntmps152,Tryz.results152]
 simp only [Tryz.f152,Option.getD_some,aC]
 simp only [go_sem,rdK,aT,bm,aB,aA,xs2,xs1,xs0,aI,ai,Except.map,aZ,aY,aK,aJ,az,ay,bh,opE,opD,opV,bQ,bP,bD,bC,cV,bA,bz,bg,bd,db,gJ,bS,bR,aV,aU,fH,eY,eX,dS,dR,dw,dv,gh,eh,eg,gd,ge,h1,h2,h3,h4,Int.toNat_zero]
theorem Pi (h0:RdOk l2) (h1:aQ l=((w,false),l1)) (h2:bW ⟨#[91]⟩ l1=(false,l1)) (h3:bW ⟨#[35]⟩ l1=(false,l1)) (h4:loR l1=.ok (true,l2)) :
  qz l (match valueR l2 with | .error e=>.error e | .ok (v,l)=>.ok (qx v true,l)):=by
 refine aa (ctx:=[⟨_,iz⟩,⟨_,atS⟩,⟨_,iS⟩,⟨_,vY⟩,⟨_,li⟩]) 4000 ?_
 rw [Tryz.ntmps152,Tryz.results152]
 simp only [Tryz.f152,Option.getD_some,aC]
 rcases hv:valueR l2 with e | ⟨⟨va,vp,vm⟩,l3⟩
 ·simp only [go_sem,rdK,aT,bm,aB,aA,xs2,xs1,xs0,aI,ai,Except.map,aZ,aY,aK,aJ,az,ay,bh,opE,opD,opV,bQ,bP,bD,bC,cV,bA,bz,bg,bd,db,gJ,bS,bR,aV,aU,fH,eY,eX,dS,dR,dw,dv,gh,eh,eg,gd,ge,h0,h1,h2,h3,h4,hv,Int.toNat_zero]
 ·simp only [go_sem,rdK,aT,bm,aB,aA,xs2,xs1,xs0,aI,ai,Except.map,aZ,aY,aK,aJ,az,ay,bh,opE,opD,opV,bQ,bP,bD,bC,cV,bA,bz,bg,bd,db,gJ,bS,bR,aV,aU,fH,eY,eX,dS,dR,dw,dv,gh,eh,eg,gd,ge,h0,h1,h2,h3,h4,hv,Int.toNat_zero,qx,r0]
  exact cF rfl rfl
theorem IS (h0:RdOk l1) (h1:aQ l=((w,false),l1)) (h2:bW ⟨#[91]⟩ l1=(false,l1)) (h3:bW ⟨#[35]⟩ l1=(false,l1)) (h4:loR l1=.ok (false,l1)) (h5:¬atF l1 1 0=⟨#[]⟩) (h6:kJ 3 (atF l1 1 0)=true) :
  qz l (eB (atF l1 1 0) l1):=by
 refine aa (ctx:=[⟨_,iz⟩,⟨_,atS⟩,⟨_,iS⟩,⟨_,vY⟩,⟨_,Dy⟩,⟨_,MP⟩]) 4000 ?_
 rw [Tryz.ntmps152,Tryz.results152]
 simp only [Tryz.f152,Option.getD_some,aC]
 have hz:(atF l1 1 0).size≤1099511627776:=by have:=wF h0 0;omega
 have hl:1≤l1.length:=by have:=jN (l:=l1) (k:=1) (n:=0) h5;omega
 rcases h7:eB (atF l1 1 0) l1 with e | ⟨o,l3⟩
 ·simp only [go_sem,rdK,aT,bm,aB,aA,xs2,xs1,xs0,aI,ai,Except.map,aZ,aY,aK,aJ,az,ay,bh,opE,opD,opV,bQ,bP,bD,bC,cV,bA,bz,bg,bd,db,gJ,bS,bR,aV,aU,fH,eY,eX,dS,dR,dw,dv,gh,eh,eg,gd,ge,h1,h2,h3,h4,h5,h6,h7,hz,hl,Int.toNat_zero]
 ·simp only [go_sem,rdK,aT,bm,aB,aA,xs2,xs1,xs0,aI,ai,Except.map,aZ,aY,aK,aJ,az,ay,bh,opE,opD,opV,bQ,bP,bD,bC,cV,bA,bz,bg,bd,db,gJ,bS,bR,aV,aU,fH,eY,eX,dS,dR,dw,dv,gh,eh,eg,gd,ge,h1,h2,h3,h4,h5,h6,h7,hz,hl,Int.toNat_zero]
  exact cF rfl rfl
theorem Mk (h0:RdOk l1) (h1:aQ l=((w,false),l1)) (h2:bW ⟨#[91]⟩ l1=(false,l1)) (h3:bW ⟨#[35]⟩ l1=(false,l1)) (h4:loR l1=.ok (false,l1)) (h5:¬(¬atF l1 1 0=⟨#[]⟩∧kJ 3 (atF l1 1 0)=true)) :
  qz l (match valueR l1 with | .error e=>.error e | .ok (v,l)=>.ok (if v.plus=emp∧v.minus=emp then qx v false else toV v,l)):=by
 refine aa (ctx:=[⟨_,iz⟩,⟨_,atS⟩,⟨_,iS⟩,⟨_,vY⟩,⟨_,Dy⟩,⟨_,li⟩]) 4000 ?_
 rw [Tryz.ntmps152,Tryz.results152]
 simp only [Tryz.f152,Option.getD_some,aC]
 have hz:(atF l1 1 0).size≤1099511627776:=by have:=wF h0 0;omega
 by_cases h6:atF l1 1 0=⟨#[]⟩
 ·rcases hv:valueR l1 with e | ⟨⟨va,vp,vm⟩,l3⟩
  ·simp only [go_sem,rdK,aT,bm,aB,aA,xs2,xs1,xs0,aI,ai,Except.map,aZ,aY,aK,aJ,az,ay,bh,opE,opD,opV,bQ,bP,bD,bC,cV,bA,bz,bg,bd,db,gJ,bS,bR,aV,aU,fH,eY,eX,dS,dR,dw,dv,gh,eh,eg,gd,ge,h0,h1,h2,h3,h4,h6,hv,hz,Int.toNat_zero]
  ·by_cases hp:vp=⟨#[]⟩
   ·by_cases hm:vm=⟨#[]⟩
    ·have hX:(if vp=emp∧vm=emp then qx ⟨va,vp,vm⟩ false else toV ⟨va,vp,vm⟩)=qx ⟨va,vp,vm⟩ false:=if_pos ⟨hp,hm⟩
     simp only [go_sem,rdK,aT,bm,aB,aA,xs2,xs1,xs0,aI,ai,Except.map,aZ,aY,aK,aJ,az,ay,bh,opE,opD,opV,bQ,bP,bD,bC,cV,bA,bz,bg,bd,db,gJ,bS,bR,aV,aU,fH,eY,eX,dS,dR,dw,dv,gh,eh,eg,gd,ge,h0,h1,h2,h3,h4,h6,hv,hz,↓hX,hp,hm,Int.toNat_zero,qx,r0]
     exact cF rfl rfl
    ·have hX:(if vp=emp∧vm=emp then qx ⟨va,vp,vm⟩ false else toV ⟨va,vp,vm⟩)=toV ⟨va,vp,vm⟩:=if_neg fun h=>hm h.2
     simp only [go_sem,rdK,aT,bm,aB,aA,xs2,xs1,xs0,aI,ai,Except.map,aZ,aY,aK,aJ,az,ay,bh,opE,opD,opV,bQ,bP,bD,bC,cV,bA,bz,bg,bd,db,gJ,bS,bR,aV,aU,fH,eY,eX,dS,dR,dw,dv,gh,eh,eg,gd,ge,h0,h1,h2,h3,h4,h6,hv,hz,↓hX,hp,hm,Int.toNat_zero,toV,r0]
     exact cF rfl rfl
   ·have hX:(if vp=emp∧vm=emp then qx ⟨va,vp,vm⟩ false else toV ⟨va,vp,vm⟩)=toV ⟨va,vp,vm⟩:=if_neg fun h=>hp h.1
    simp only [go_sem,rdK,aT,bm,aB,aA,xs2,xs1,xs0,aI,ai,Except.map,aZ,aY,aK,aJ,az,ay,bh,opE,opD,opV,bQ,bP,bD,bC,cV,bA,bz,bg,bd,db,gJ,bS,bR,aV,aU,fH,eY,eX,dS,dR,dw,dv,gh,eh,eg,gd,ge,h0,h1,h2,h3,h4,h6,hv,hz,↓hX,hp,Int.toNat_zero,toV,r0]
    exact cF rfl rfl
 ·have h7:kJ 3 (atF l1 1 0)=false:=by
   cases hw:kJ 3 (atF l1 1 0) with
   | false=>rfl
   | true=>exact absurd ⟨h6,hw⟩ h5
  rcases hv:valueR l1 with e | ⟨⟨va,vp,vm⟩,l3⟩
  ·simp only [go_sem,rdK,aT,bm,aB,aA,xs2,xs1,xs0,aI,ai,Except.map,aZ,aY,aK,aJ,az,ay,bh,opE,opD,opV,bQ,bP,bD,bC,cV,bA,bz,bg,bd,db,gJ,bS,bR,aV,aU,fH,eY,eX,dS,dR,dw,dv,gh,eh,eg,gd,ge,h0,h1,h2,h3,h4,h6,h7,hv,hz,Int.toNat_zero]
  ·by_cases hp:vp=⟨#[]⟩
   ·by_cases hm:vm=⟨#[]⟩
    ·have hX:(if vp=emp∧vm=emp then qx ⟨va,vp,vm⟩ false else toV ⟨va,vp,vm⟩)=qx ⟨va,vp,vm⟩ false:=if_pos ⟨hp,hm⟩
     simp only [go_sem,rdK,aT,bm,aB,aA,xs2,xs1,xs0,aI,ai,Except.map,aZ,aY,aK,aJ,az,ay,bh,opE,opD,opV,bQ,bP,bD,bC,cV,bA,bz,bg,bd,db,gJ,bS,bR,aV,aU,fH,eY,eX,dS,dR,dw,dv,gh,eh,eg,gd,ge,h0,h1,h2,h3,h4,h6,h7,hv,hz,↓hX,hp,hm,Int.toNat_zero,qx,r0]
     exact cF rfl rfl
    ·have hX:(if vp=emp∧vm=emp then qx ⟨va,vp,vm⟩ false else toV ⟨va,vp,vm⟩)=toV ⟨va,vp,vm⟩:=if_neg fun h=>hm h.2
     simp only [go_sem,rdK,aT,bm,aB,aA,xs2,xs1,xs0,aI,ai,Except.map,aZ,aY,aK,aJ,az,ay,bh,opE,opD,opV,bQ,bP,bD,bC,cV,bA,bz,bg,bd,db,gJ,bS,bR,aV,aU,fH,eY,eX,dS,dR,dw,dv,gh,eh,eg,gd,ge,h0,h1,h2,h3,h4,h6,h7,hv,hz,↓hX,hp,hm,Int.toNat_zero,toV,r0]
     exact cF rfl rfl
   ·have hX:(if vp=emp∧vm=emp then qx ⟨va,vp,vm⟩ false else toV ⟨va,vp,vm⟩)=toV ⟨va,vp,vm⟩:=if_neg fun h=>hp h.1
    simp only [go_sem,rdK,aT,bm,aB,aA,xs2,xs1,xs0,aI,ai,Except.map,aZ,aY,aK,aJ,az,ay,bh,opE,opD,opV,bQ,bP,bD,bC,cV,bA,bz,bg,bd,db,gJ,bS,bR,aV,aU,fH,eY,eX,dS,dR,dw,dv,gh,eh,eg,gd,ge,h0,h1,h2,h3,h4,h6,h7,hv,hz,↓hX,hp,Int.toNat_zero,toV,r0]
    exact cF rfl rfl
end
theorem Pj (l:List Tok) (h:RdOk l):qz l (operR l):=by
 rcases h1:aQ l with ⟨⟨⟨rn,rx,rs⟩,b⟩,l1⟩
 obtain ⟨e1,e2⟩:=pN h1
 have k1:=pO h h1
 unfold operR
 rw [e1]
 cases b with
 | true =>
  rw [if_pos rfl] at e2
  rw [if_pos rfl,← e2]
  exact Mj k1 h1
 | false =>
 rw [if_neg (by simp)] at e2
 rw [if_neg (by simp)]
 subst e2
 have sg:∀ s:ByteArray,¬atF l1 4 0=s→bW s l1=(false,l1):=fun s hs=>by unfold bW;rw [if_neg hs]
 by_cases h2:atF l1 4 0=⟨#[91]⟩
 ·rw [if_pos (show atF l1 4 0=Ot from h2)]
  exact Mi (k1.drop 1) h1 (by unfold bW;rw [if_pos h2])
 rw [if_neg (show ¬atF l1 4 0=Ot from h2)]
 by_cases h3:atF l1 4 0=⟨#[35]⟩
 ·rw [if_pos (show atF l1 4 0=eQ from h3)]
  exact IR (k1.drop 1) h1 (sg _ h2) (by unfold bW;rw [if_pos h3])
 rw [if_neg (show ¬atF l1 4 0=eQ from h3)]
 rcases h4:loR l1 with e | ⟨b,l2⟩
 ·exact Mh h1 (sg _ h2) (sg _ h3) h4
 have k2:=Lk k1 h4
 cases b with
 | true=>exact Pi k2 h1 (sg _ h2) (sg _ h3) h4
 | false =>
  have hl:l2=l1:=by
   unfold loR at h4
   split at h4
   ·injection h4 with h4;injection h4 with _ h4;exact h4.symm
   ·split at h4
    ·cases h4
    ·injection h4 with h4;injection h4 with h4;cases h4
  subst hl
  simp only
  by_cases h5:¬atF l2 1 0=⟨#[]⟩∧kJ 3 (atF l2 1 0)=true
  ·rw [if_pos (show ¬atF l2 1 0=emp∧kJ 3 (atF l2 1 0)=true from h5)]
   exact IS k1 h1 (sg _ h2) (sg _ h3) h4 h5.1 h5.2
  ·rw [if_neg (show ¬(¬atF l2 1 0=emp∧kJ 3 (atF l2 1 0)=true) from h5)]
   exact Mk k1 h1 (sg _ h2) (sg _ h3) h4 h5
def ER:bi Tryz.prog 152 :=
 uz _ _ _ Tryz.func152 rfl (fun _ _=>by go_simp) (xs0) ((fun _ l=>RdOk l)) ((fun _ l=>(operR l).map fun (p:OpV×List Tok)=>(opV p.1,p.2))) (by rw [Tryz.ntmps152];decide) (fun _ l h=>Pj l h)
theorem fO {id:Nat} {h:ah} {args:List AV}:(ER).run id h args=gu 1 (aT (xs0) ((fun _ l=>RdOk l))) (fun x=>dA (((fun _ l=>(operR l).map fun (p:OpV×List Tok)=>(opV p.1,p.2))) x.1 x.2)) id h args:=rfl
theorem fN {id:Nat} {h:ah} {args:List AV}:(ER).pan id h args=fX (aT (xs0) ((fun _ l=>RdOk l))) (fun x=>dA (((fun _ l=>(operR l).map fun (p:OpV×List Tok)=>(opV p.1,p.2))) x.1 x.2)) h args:=rfl
end
section
open Go.RowKit
open Ex (Xs xs0)
def fW (l:List OpV):Blk:=⟨true,79,15,(l.map opR.enc).map cG⟩
def uF (r:Except Int (List OpV)):RO:=match r with
 | .ok out=>.ret (.s (.l (.sl 1 0 out.length))) [some (rdK [])] [fW out]
 | .error e=>.pan (sU e)
theorem uG {out:List OpV}:uF (.ok out)=.ret (.s (.l (.sl 1 0 out.length))) [some (rdK [])] [fW out]:=rfl
theorem fp {e:Int}:uF (.error e)=.pan (sU e):=rfl
theorem zX {st:St} {l:List Tok} {out:List OpV} {X:et} {b:Nat} (h1:hget st.h 0=some (rdK l)) (h2:hget st.h b=some (fW out)) (hn:b≠0) (hx:2≤st.nx) (hX:X.map (fun p=>dk st.t p.1)=X.map fun p=>p.2.ren fun j=>[0,b].getD j st.nx):Wk ⟨none,1⟩ st ⟨2,X,bB 0 [rdK l,fW out]⟩:=by
 refine Wk.ren [0,b] (by intro j hj;have:j=0:=(by simpa using hj);subst this;rfl) (Nat.le_refl _) (by simpa using fun h=>hn h.symm) (fun p hp=>List.map_inj_left.1 hX p hp) ?_
 intro p hp k hk
 simp only [bB,List.mem_cons,List.not_mem_nil,or_false] at hp
 rcases hp with rfl | rfl
 ·simp only [Option.some.injEq] at hk
  subst hk
  simp only [List.getD_eq_getElem?_getD,List.getElem?_cons_zero,Option.getD_some,h1]
  rfl
 ·simp only [Option.some.injEq] at hk
  subst hk
  simp only [List.getD_eq_getElem?_getD,List.getElem?_cons_succ,List.getElem?_cons_zero,Option.getD_some,h2]
  simp only [fW,Blk.ren,jF]
theorem OZ {st:St} {l:List Tok} {out:List OpV} {b:Nat} (h1:hget st.h 0=some (rdK l)) (h2:hget st.h b=some (fW out)) (hn:b≠0) (hx:2≤st.nx) :
  xz 1 st (.ret (.s (.l (.sl 1 0 out.length))) [some (rdK l)] [fW out]) (some (.s (.l (.sl b 0 out.length)))):=by
 refine ⟨_,_,_,rfl,rfl,by simp,by simp [rdK],by simp [fW],?_⟩
 exact zX (st:=⟨st.nx,(0,.s (.l (.sl b 0 out.length)))::st.t,st.h⟩) h1 h2 hn hx rfl
theorem En {out:List OpV} {q o:OpV} (h:out.getLast? = some q):xj out o=jt q o:=by unfold xj;rw [h]
theorem xV {l:List OpV} {o:OpV}:(l.map opR.enc).map cG++[[.v (.int .i64 o.kind),.v (.int .i64 o.r.n),.v (.bool o.r.x),.v (.bool o.r.sp),.v (.int .i64 o.m.n),.v (.bool o.m.x),.v (.bool o.m.sp),.v (.int .i64 o.md),.v (.int .i64 o.amt),.v (.int .i64 o.n),.v (.int .i64 o.add),.v (.string o.plus),.v (.string o.minus),.v (.bool o.lo),.v (.int .i64 o.mode)]]=((l++[o]).map opR.enc).map cG:=by
 rw [List.map_append,List.map_append];rfl
section
variable {out:List OpV} {l l1 l2:List Tok} {o q:OpV} {e:Int}
def Tf (i:List OpV×List Tok):St:=⟨2,[(0,pv 0 0 0),(3,.s (.l (.sl 1 0 i.1.length)))],bB 0 [rdK i.2,fW i.1]⟩
end
theorem QU (l0:List Tok) (h:RdOk l0):SW Tryz.prog ⟨none,1⟩ Tryz.f111.ntmps (Tryz.f111.body.getD .skip) ⟨1,aC 0 [pv 0 0 0],bB 0 [rdK l0]⟩ (xX Tryz.prog Tryz.f111.results.toList 1 (uF (listF l0))):=by
 refine aa (ctx:=[]) 4000 ?_
 rw [Tryz.ntmps111,Tryz.results111]
 simp only [Tryz.f111,Option.getD_some,aC]
 simp only [go_sem]
 refine cW (ι:=List OpV×List Tok) (fun i=>RdOk i.2∧qd i.1∧gZ i.2.length i.1 i.2=listF l0) Tf (fun i=>i.2.length) ([],l0) ⟨h,uH,rfl⟩ ?_ ?_
 ·exact (Wk.nil 3 79 15 rfl).trans (zX (b:=33) rfl rfl (by decide) (show 2≤33+1 by decide) rfl)
 rintro ⟨out,l⟩ ⟨hk,ho,hR⟩
 simp only at hk ho hR
 have hlm:l.length≤maxLen:=by have:=hk.few;unfold maxLen;omega
 have h8:=ho.few
 unfold Tf
 refine aa (ctx:=[⟨_,mX⟩,⟨_,fm⟩,⟨_,ER⟩,⟨_,Ov⟩,⟨_,P2⟩,⟨_,lW⟩,⟨_,qW⟩]) 4000 ?_
 cases hl0:l with
 | nil =>
  subst hl0
  rw [← hR,iQ]
  simp only [go_sem,rdK,aT,bm,aB,aA,xs2,xs1,xs0,aI,ai,Except.map,aZ,aY,aK,aJ,az,ay,bh,opE,opD,opV,bQ,bP,bF,bE,fO,fN,iy,iw,f9,f8,bt,br,cT,cR,df,fc,dF,fW,eh,eg,uG,List.length_nil,Int.lt_irrefl,Int.ofNat_zero,Int.natCast_zero,Int.cast_ofNat_Int]
  exact OZ (l:=[]) (out:=out) (b:=1) rfl rfl (by decide) (show 2≤130 by decide)
 | cons t r =>
 have hlpos:(0:Int)<l.length:=by rw [hl0,List.length_cons];omega
 have hlne:l≠[]:=by rw [hl0];simp
 rw [← hl0]
 obtain ⟨n,hn⟩:∃ n,l.length=n+1:=⟨r.length,by rw [hl0];rfl⟩
 rw [hn,g9 hlne] at hR
 have hl63:(out.map opR.enc).map cG=((out.map opR.enc).map cG):=rfl
 have hK:List.take out.length ((out.map opR.enc).map cG)=(out.map opR.enc).map cG:=List.take_of_length_le (by simp)
 have m1:out.length+1≤maxLen:=by unfold maxLen;omega
 have m2:(out.length+1)*120≤140737488355328:=by omega
 rcases hc1:(if out=[] then (.ok l:Except Int (List Tok)) else mustR fJ l) with e | l1
 ·
  have hs:stepR out l=.error e:=by unfold stepR;rw [hc1]
  rw [← hR,hs]
  have hne:¬out=[]:=fun he=>by rw [if_pos he] at hc1;cases hc1
  rw [if_neg hne] at hc1
  have hpos:(0:Int)<out.length:=by have:=List.length_pos_iff.2 hne;omega
  simp only [go_sem,rdK,aT,bm,aB,aA,xs2,xs1,xs0,aI,ai,Except.map,aZ,aY,aK,aJ,az,ay,bh,opE,opD,opV,bQ,bP,bF,bE,fO,fN,iy,iw,f9,f8,bt,br,cT,cR,df,fc,dF,fW,eh,eg,fp,List.length_map,hlpos,hpos,show mustR (⟨#[44]⟩:ByteArray) l=.error e from hc1]
 have k1:RdOk l1:=by
  split at hc1
  ·injection hc1 with hc1;subst hc1;exact hk
  ·exact (fV qn hk hc1).1
 by_cases h88:out.length=8
 ·have hne:¬out=[]:=fun he=>by rw [he] at h88;simp at h88
  have hs:stepR out l=.error 3:=by unfold stepR;rw [hc1];simp only [if_pos h88]
  rw [← hR,hs]
  rw [if_neg hne] at hc1
  simp only [go_sem,rdK,aT,bm,aB,aA,xs2,xs1,xs0,aI,ai,Except.map,aZ,aY,aK,aJ,az,ay,bh,opE,opD,opV,bQ,bP,bF,bE,fO,fN,iy,iw,f9,f8,bt,br,cT,cR,df,fc,dF,fW,eh,eg,fp,List.length_map,hlpos,h88,show mustR (⟨#[44]⟩:ByteArray) l=.ok l1 from hc1,Int.reduceLT,Int.ofNat_lt,Nat.reduceLT,Int.cast_ofNat_Int]
 have h88I:¬(out.length:Int)=8:=by omega
 rcases ho2:operR l1 with e | ⟨o,l2⟩
 ·have hs:stepR out l=.error e:=by unfold stepR;rw [hc1];simp only [if_neg h88,ho2]
  rw [← hR,hs]
  by_cases hne:out=[]
  ·rw [if_pos hne] at hc1
   injection hc1 with hc1
   subst hc1 hne
   simp only [go_sem,rdK,aT,bm,aB,aA,xs2,xs1,xs0,aI,ai,Except.map,aZ,aY,aK,aJ,az,ay,bh,opE,opD,opV,bQ,bP,bF,bE,fO,fN,iy,iw,f9,f8,bt,br,cT,cR,df,fc,dF,fW,eh,eg,fp,List.length_map,List.length_nil,hlpos,hk,ho2,Int.lt_irrefl,Int.reduceEq,Int.cast_ofNat_Int]
  ·have hpos:(0:Int)<out.length:=by have:=List.length_pos_iff.2 hne;omega
   rw [if_neg hne] at hc1
   simp only [go_sem,rdK,aT,bm,aB,aA,xs2,xs1,xs0,aI,ai,Except.map,aZ,aY,aK,aJ,az,ay,bh,opE,opD,opV,bQ,bP,bF,bE,fO,fN,iy,iw,f9,f8,bt,br,cT,cR,df,fc,dF,fW,eh,eg,fp,List.length_map,hlpos,hpos,show mustR (⟨#[44]⟩:ByteArray) l=.ok l1 from hc1,h88I,k1,ho2]
 obtain ⟨hoO,k2,hlt2⟩:=CT k1 ho2
 by_cases hch:iD o=0
 case neg =>
  have hs:stepR out l=.error (iD o):=by unfold stepR;rw [hc1];simp only [if_neg h88,ho2,if_pos hch]
  rw [← hR,hs]
  by_cases hne:out=[]
  ·rw [if_pos hne] at hc1
   injection hc1 with hc1
   subst hc1 hne
   simp only [go_sem,rdK,aT,bm,aB,aA,xs2,xs1,xs0,aI,ai,Except.map,aZ,aY,aK,aJ,az,ay,bh,opE,opD,opV,bQ,bP,bF,bE,fO,fN,iy,iw,f9,f8,bt,br,cT,cR,df,fc,dF,fW,eh,eg,fp,List.length_map,List.length_nil,hlpos,hk,ho2,hoO,hch,Int.lt_irrefl,Int.reduceEq,Int.cast_ofNat_Int]
  ·have hpos:(0:Int)<out.length:=by have:=List.length_pos_iff.2 hne;omega
   rw [if_neg hne] at hc1
   simp only [go_sem,rdK,aT,bm,aB,aA,xs2,xs1,xs0,aI,ai,Except.map,aZ,aY,aK,aJ,az,ay,bh,opE,opD,opV,bQ,bP,bF,bE,fO,fN,iy,iw,f9,f8,bt,br,cT,cR,df,fc,dF,fW,eh,eg,fp,List.length_map,hlpos,hpos,show mustR (⟨#[44]⟩:ByteArray) l=.ok l1 from hc1,h88I,k1,ho2,hoO,hch]
 have hS:stepR out l=if xj out o=true then .error 100 else .ok (out++[o],l2):=by unfold stepR;rw [hc1];simp only [if_neg h88,ho2,if_neg (not_not_intro hch)]
 have hlt:l2.length≤n:=by
  have:l1.length≤l.length:=by
   split at hc1
   ·injection hc1 with hc1;subst hc1;exact Nat.le_refl _
   ·have:=(fV qn hk hc1).2.1;omega
  omega
 have hnext:xj out o=false→qd (out++[o])∧gZ l2.length (out++[o]) l2=listF l0:=fun hg=>by
  rw [if_neg (by rw [hg];simp)] at hS
  obtain ⟨g1,-⟩:=tX hk ho hS
  refine ⟨g1,?_⟩
  rw [← hR,hS]
  exact (pK k2 g1 hlt).symm
 by_cases hne:out=[]
 ·rw [if_pos hne] at hc1
  injection hc1 with hc1
  subst hc1 hne
  have hg:xj [] o=false:=rfl
  obtain ⟨g1,g2⟩:=hnext hg
  simp only [go_sem,rdK,aT,bm,aB,aA,xs2,xs1,xs0,aI,ai,Except.map,aZ,aY,aK,aJ,az,ay,bh,opE,opD,opV,bQ,bP,bF,bE,fO,fN,iy,iw,f9,f8,bt,br,cT,cR,df,fc,dF,fW,eh,eg,List.length_map,List.length_nil,hlpos,hk,ho2,hoO,eq_true hch,Int.lt_irrefl,Int.reduceEq,Int.cast_ofNat_Int,List.map_nil,List.take_nil]
  exact ⟨by decide,([o],l2),⟨k2,g1,g2⟩,by show l2.length<l.length;omega,zX (b:=562) rfl rfl (by decide) (show 2≤594 by decide) rfl⟩
 have hpos:(0:Int)<out.length:=by have:=List.length_pos_iff.2 hne;omega
 rw [if_neg hne] at hc1
 have hc1':mustR (⟨#[44]⟩:ByteArray) l=.ok l1:=hc1
 obtain ⟨q,hq⟩:∃ q,out.getLast? = some q:=by
  cases hg:out.getLast? with
  | none=>exact absurd (List.getLast?_eq_none_iff.1 hg) hne
  | some q=>exact ⟨q,rfl⟩
 obtain ⟨m,hm⟩:∃ m,out.length=m+1:=⟨out.length-1,by have:=List.length_pos_iff.2 hne;omega⟩
 have hqm:out[m]? = some q:=by
  rw [List.getLast?_eq_getElem?,hm] at hq
  simpa using hq
 have em:IntKind.i64.wrap ((out.length:Int)-1)=(m:Int):=by rw [IntKind.wrap_i64];omega
 have hmI:(m:Int)<(out.length:Int):=by omega
 have hmN:m<out.length:=by omega
 obtain ⟨qO,qc⟩:=ho.all q (List.mem_of_getElem? hqm)
 have hU:hdU (⟨#[44]⟩:ByteArray)=44:=rfl
 have hU1:(⟨#[44]⟩:ByteArray).size=1:=rfl
 have hG:xj out o=jt q o:=En hq
 have hp1:cM (cD o) ⟨#[35]⟩=cM (cD o) eQ:=rfl
 have fin:jt q o=false→∃ j:List OpV×List Tok,j=(out++[o],l2)∧(RdOk j.2∧qd j.1∧gZ j.2.length j.1 j.2=listF l0)∧j.2.length<l.length:=fun hb=>by
  obtain ⟨g1,g2⟩:=hnext (by rw [hG];exact hb)
  exact ⟨_,rfl,⟨k2,g1,g2⟩,by show l2.length<l.length;omega⟩
 have el:(out++[o]).length=out.length+1:=by rw [List.length_append];rfl
 cases h1:cM (cD o) eQ
 ·obtain ⟨j,rfl,j1,j2⟩:=fin (by unfold jt;rw [h1];rfl)
  simp only [go_sem,rdK,aT,bm,aB,aA,xs2,xs1,xs0,aI,ai,Except.map,aZ,aY,aK,aJ,az,ay,bh,opE,opD,opV,bQ,bP,bF,bE,fO,fN,iy,iw,f9,f8,bt,br,cT,cR,df,fc,dF,fW,eh,eg,List.length_map,hlpos,hpos,hc1',h88I,k1,ho2,hoO,eq_true hch,and_self,hp1,h1,hK,m1,m2]
  exact ⟨_,j1,j2,zX (b:=642) rfl (congrArg (fun r=>some (⟨true,79,15,r⟩:Blk)) xV) (by decide) (show 2≤674 by decide) (by rw [el];rfl)⟩
 by_cases h2:q.kind=5
 case neg =>
  obtain ⟨j,rfl,j1,j2⟩:=fin (by unfold jt;rw [beq_eq_false_iff_ne.2 h2];simp)
  simp only [go_sem,rdK,aT,bm,aB,aA,xs2,xs1,xs0,aI,ai,Except.map,aZ,aY,aK,aJ,az,ay,bh,opE,opD,opV,bQ,bP,bF,bE,fO,fN,iy,iw,f9,f8,bt,br,cT,cR,df,fc,dF,fW,eh,eg,List.length_map,hlpos,hpos,hc1',h88I,k1,ho2,hoO,eq_true hch,and_self,hp1,h1,em,hmI,hmN,hqm,h2,hK,m1,m2]
  exact ⟨_,j1,j2,zX (b:=754) rfl (congrArg (fun r=>some (⟨true,79,15,r⟩:Blk)) xV) (by decide) (show 2≤786 by decide) (by rw [el];rfl)⟩
 cases h3:(decide (0≤Lib.indexByte (cD q).data.toList 44))
 ·have hb:jt q o=true:=by unfold jt sZ;rw [h1,h3,h2];rfl
  rw [hG,if_pos hb] at hS
  rw [← hR,hS]
  simp only [go_sem,rdK,aT,bm,aB,aA,xs2,xs1,xs0,aI,ai,Except.map,aZ,aY,aK,aJ,az,ay,bh,opE,opD,opV,bQ,bP,bF,bE,fO,fN,iy,iw,f9,f8,bt,br,cT,cR,df,fc,dF,fW,eh,eg,fp,List.length_map,hlpos,hpos,hc1',h88I,k1,ho2,hoO,eq_true hch,and_self,hp1,h1,em,hmI,hmN,hqm,eq_true h2,qO,qc,hU1,hU,h3]
 ·obtain ⟨j,rfl,j1,j2⟩:=fin (by unfold jt sZ;rw [h3];simp)
  simp only [go_sem,rdK,aT,bm,aB,aA,xs2,xs1,xs0,aI,ai,Except.map,aZ,aY,aK,aJ,az,ay,bh,opE,opD,opV,bQ,bP,bF,bE,fO,fN,iy,iw,f9,f8,bt,br,cT,cR,df,fc,dF,fW,eh,eg,List.length_map,hlpos,hpos,hc1',h88I,k1,ho2,hoO,eq_true hch,and_self,hp1,h1,em,hmI,hmN,hqm,eq_true h2,qO,qc,hU1,hU,h3,hK,m1,m2]
  exact ⟨_,j1,j2,zX (b:=882) rfl (congrArg (fun r=>some (⟨true,79,15,r⟩:Blk)) xV) (by decide) (show 2≤914 by decide) (by rw [el];rfl)⟩
end
end Go.Proofs.YtnhbidpdadkcjaaGreatDoor
