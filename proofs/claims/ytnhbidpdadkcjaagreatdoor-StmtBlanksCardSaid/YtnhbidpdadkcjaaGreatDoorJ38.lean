import Derived.Test.YtnhbidpdadkcjaaGreatDoorJ37
import Derived.Test.YtnhbidpdadkcjaaGreatDoorJ24
set_option linter.unusedVariables false
set_option linter.unusedSimpArgs false
set_option maxRecDepth 100000
set_option maxHeartbeats 8000000
namespace Go.Proofs.YtnhbidpdadkcjaaGreatDoor
open Go.RowKit
open Ex (Xs xs0)
theorem gh:¬(⟨#[93]⟩:ByteArray)=emp:=by decide
theorem ge:¬(⟨#[91]⟩:ByteArray)=emp:=by decide
theorem eh:¬(⟨#[44]⟩:ByteArray)=emp:=by decide
theorem eg:¬(⟨#[35]⟩:ByteArray)=emp:=by decide
theorem gd:¬(⟨#[33]⟩:ByteArray)=emp:=by decide
theorem pN {l l1:List Tok} {r:kC} {b:Bool} (h:aQ l=((r,b),l1)):j5 l=(r,b)∧l1=if b=true then l.drop 1 else l:=by
 unfold aQ at h
 injection h with h1 h2
 rw [h1] at h2
 exact ⟨h1,h2.symm⟩
theorem pO {l l1:List Tok} {p:kC×Bool} (h:RdOk l) (e:aQ l=(p,l1)):RdOk l1:=by
 unfold aQ at e
 injection e with e1 e2
 rw [← e2]
 split
 ·exact h.drop 1
 ·exact h
theorem MY {s:ByteArray} {l l1:List Tok} {b:Bool} (h:RdOk l) (e:bW s l=(b,l1)):RdOk l1:=by
 unfold bW at e
 split at e<;>injection e with e1 e2<;>subst e2
 ·exact h.drop 1
 ·exact h
theorem Lk {l l1:List Tok} {b:Bool} (h:RdOk l) (e:loR l=.ok (b,l1)):RdOk l1:=by
 unfold loR at e
 split at e
 ·injection e with e;injection e with e1 e2;subst e2;exact h
 ·split at e
  ·cases e
  ·injection e with e;injection e with e1 e2;subst e2;exact h.drop 3
section
variable {l l1 l2 l3 l4 l5:List Tok} {rn mn va:Int} {rx rs mx ms is b:Bool} {vp vm:ByteArray} {e:Int}
abbrev lD (l:List Tok) (r:RdR OpV):Prop:=SW Tryz.prog ⟨none,1⟩ Tryz.f202.ntmps (Tryz.f202.body.getD .skip) ⟨1,aC 0 [pv 0 0 0],bB 0 [rdK l]⟩ (dy Tryz.prog Tryz.f202.results.toList 1 (dA (r.map fun p=>(opV p.1,p.2))))
abbrev jx (rn:Int) (rx rs:Bool):OpV:=⟨5,⟨rn,rx,rs⟩,⟨0,false,false⟩,0,0,0,0,⟨#[]⟩,⟨#[]⟩,false,0⟩
theorem O5 (h1:aQ l=((⟨rn,rx,rs⟩,is),l1)) (h2:gB (jx rn rx rs)=false):lD l (.error 100):=by
 refine aa (ctx:=[⟨_,iz⟩,⟨_,fF⟩,⟨_,fm⟩]) 4000 ?_
 rw [Tryz.ntmps202,Tryz.results202]
 simp only [Tryz.f202,Option.getD_some,aC]
 simp only [go_sem,rdK,aT,bm,aB,aA,xs2,xs1,xs0,aI,ai,Except.map,aZ,aY,aK,aJ,az,ay,bh,opE,opD,opV,bQ,bP,bD,bC,cV,ce,ca,bA,bz,bF,bE,bg,bd,db,bS,bR,aV,aU,fH,bZ,bY,gh,eh,eg,gd,ge,h1,h2]
theorem Iq (h1:aQ l=((⟨rn,rx,rs⟩,is),l1)) (h2:gB (jx rn rx rs)=true) (h3:bW ⟨#[93]⟩ l1=(true,l2)) (h4:¬(atF l2 4 0=⟨#[44]⟩∧atF l2 4 1=⟨#[35]⟩)):lD l (.ok (jx rn rx rs,l2)):=by
 refine aa (ctx:=[⟨_,iz⟩,⟨_,fF⟩,⟨_,fm⟩,⟨_,iS⟩,⟨_,atS⟩]) 4000 ?_
 rw [Tryz.ntmps202,Tryz.results202]
 simp only [Tryz.f202,Option.getD_some,aC]
 by_cases h5:atF l2 4 0=⟨#[44]⟩
 ·have h6:¬atF l2 4 1=⟨#[35]⟩:=fun h=>h4 ⟨h5,h⟩
  simp only [go_sem,rdK,aT,bm,aB,aA,xs2,xs1,xs0,aI,ai,Except.map,aZ,aY,aK,aJ,az,ay,bh,opE,opD,opV,bQ,bP,bD,bC,cV,ce,ca,bA,bz,bF,bE,bg,bd,db,bS,bR,aV,aU,fH,bZ,bY,gh,eh,eg,gd,ge,h1,h2,h3,h5,h6,Int.toNat_zero,Int.toNat_one]
  exact cF rfl rfl
 ·simp only [go_sem,rdK,aT,bm,aB,aA,xs2,xs1,xs0,aI,ai,Except.map,aZ,aY,aK,aJ,az,ay,bh,opE,opD,opV,bQ,bP,bD,bC,cV,ce,ca,bA,bz,bF,bE,bg,bd,db,bS,bR,aV,aU,fH,bZ,bY,gh,eh,eg,gd,ge,h1,h2,h3,h5,Int.toNat_zero,Int.toNat_one]
  exact cF rfl rfl
theorem Ls (h0:RdOk l2) (h1:aQ l=((⟨rn,rx,rs⟩,is),l1)) (h2:gB (jx rn rx rs)=true) (h3:bW ⟨#[93]⟩ l1=(true,l2)) (h4:atF l2 4 0=⟨#[44]⟩) (h5:atF l2 4 1=⟨#[35]⟩) (hv:valueR (l2.drop 2)=.ok (⟨va,vp,vm⟩,l3)) :
  lD l (.ok ({ p6 (jx rn rx rs) ⟨va,vp,vm⟩ with mode:=2 },l3)):=by
 refine aa (ctx:=[⟨_,iz⟩,⟨_,fF⟩,⟨_,fm⟩,⟨_,iS⟩,⟨_,atS⟩,⟨_,rO⟩,⟨_,li⟩]) 4000 ?_
 rw [Tryz.ntmps202,Tryz.results202]
 simp only [Tryz.f202,Option.getD_some,aC]
 have hl:(2:Int)≤l2.length:=by have:=jN (l:=l2) (k:=4) (n:=1) (by rw [h5];decide);omega
 have hd:=h0.drop 2
 simp only [go_sem,rdK,aT,bm,aB,aA,xs2,xs1,xs0,aI,ai,Except.map,aZ,aY,aK,aJ,az,ay,bh,opE,opD,opV,bQ,bP,bD,bC,cV,ce,ca,bA,bz,bF,bE,bg,bd,db,bS,bR,aV,aU,fH,bZ,bY,gh,eh,eg,gd,ge,h1,h2,h3,h4,h5,Int.toNat_zero,Int.toNat_one,Int.reduceToNat,hl,hd,hv,p6]
 exact cF rfl rfl
theorem Ir (h0:RdOk l2) (h1:aQ l=((⟨rn,rx,rs⟩,is),l1)) (h2:gB (jx rn rx rs)=true) (h3:bW ⟨#[93]⟩ l1=(true,l2)) (h4:atF l2 4 0=⟨#[44]⟩) (h5:atF l2 4 1=⟨#[35]⟩) (hv:valueR (l2.drop 2)=.error e):lD l (.error e):=by
 refine aa (ctx:=[⟨_,iz⟩,⟨_,fF⟩,⟨_,fm⟩,⟨_,iS⟩,⟨_,atS⟩,⟨_,rO⟩,⟨_,li⟩]) 4000 ?_
 rw [Tryz.ntmps202,Tryz.results202]
 simp only [Tryz.f202,Option.getD_some,aC]
 have hl:(2:Int)≤l2.length:=by have:=jN (l:=l2) (k:=4) (n:=1) (by rw [h5];decide);omega
 have hd:=h0.drop 2
 simp only [go_sem,rdK,aT,bm,aB,aA,xs2,xs1,xs0,aI,ai,Except.map,aZ,aY,aK,aJ,az,ay,bh,opE,opD,opV,bQ,bP,bD,bC,cV,ce,ca,bA,bz,bF,bE,bg,bd,db,bS,bR,aV,aU,fH,bZ,bY,gh,eh,eg,gd,ge,h1,h2,h3,h4,h5,Int.toNat_zero,Int.toNat_one,Int.reduceToNat,hl,hd,hv]
theorem Lm (h1:aQ l=((⟨rn,rx,rs⟩,is),l1)) (h2:gB (jx rn rx rs)=true) (h3:bW ⟨#[93]⟩ l1=(false,l2)) (h4:mustR ⟨#[44]⟩ l2=.error e):lD l (.error e):=by
 refine aa (ctx:=[⟨_,iz⟩,⟨_,fF⟩,⟨_,fm⟩,⟨_,iS⟩,⟨_,mX⟩]) 4000 ?_
 rw [Tryz.ntmps202,Tryz.results202]
 simp only [Tryz.f202,Option.getD_some,aC]
 simp only [go_sem,rdK,aT,bm,aB,aA,xs2,xs1,xs0,aI,ai,Except.map,aZ,aY,aK,aJ,az,ay,bh,opE,opD,opV,bQ,bP,bD,bC,cV,ce,ca,bA,bz,bF,bE,bg,bd,db,bS,bR,aV,aU,fH,bZ,bY,gh,eh,eg,gd,ge,h1,h2,h3,h4]
variable {o:OpV}
abbrev zE (rn:Int) (rx rs:Bool) (mn:Int) (mx ms:Bool):OpV:=⟨5,⟨rn,rx,rs⟩,⟨mn,mx,ms⟩,1,-1,0,0,⟨#[]⟩,⟨#[]⟩,false,3⟩
theorem Lp (h0:RdOk l4) (h1:aQ l=((⟨rn,rx,rs⟩,is),l1)) (h2:gB (jx rn rx rs)=true) (h3:bW ⟨#[93]⟩ l1=(false,l2)) (h4:mustR ⟨#[44]⟩ l2=.ok l3) (h5:aQ l3=((⟨mn,mx,ms⟩,true),l4)) (h6:changedR (zE rn rx rs mn mx ms) 12 (-1) l4=.error e):lD l (.error e):=by
 refine aa (ctx:=[⟨_,iz⟩,⟨_,fF⟩,⟨_,fm⟩,⟨_,iS⟩,⟨_,mX⟩,⟨_,lx⟩]) 4000 ?_
 rw [Tryz.ntmps202,Tryz.results202]
 simp only [Tryz.f202,Option.getD_some,aC]
 simp only [go_sem,rdK,aT,bm,aB,aA,xs2,xs1,xs0,aI,ai,Except.map,aZ,aY,aK,aJ,az,ay,bh,opE,opD,opV,bQ,bP,bD,bC,cV,ce,ca,bA,bz,bF,bE,bg,bd,db,bS,bR,aV,aU,fH,bZ,bY,gh,eh,eg,gd,ge,h1,h2,h3,h4,h5]
 refine du (ctx:=[]) mixed ⟨[],[(2,[177]),(4,[177]),(6,[177]),(8,[177])],[(0,[177])]⟩ (by kernel_rfl) ?_
 simp only [go_sem,rdK,aT,bm,aB,aA,xs2,xs1,xs0,aI,ai,Except.map,aZ,aY,aK,aJ,az,ay,bh,opE,opD,opV,bQ,bP,bD,bC,cV,ce,ca,bA,bz,bF,bE,bg,bd,db,bS,bR,aV,aU,fH,bZ,bY,gh,eh,eg,gd,ge,h1,h2,h3,h4,h5,h6,h0]
theorem Ln (h0:RdOk l4) (h1:aQ l=((⟨rn,rx,rs⟩,is),l1)) (h2:gB (jx rn rx rs)=true) (h3:bW ⟨#[93]⟩ l1=(false,l2)) (h4:mustR ⟨#[44]⟩ l2=.ok l3) (h5:aQ l3=((⟨mn,mx,ms⟩,true),l4)) (h6:changedR (zE rn rx rs mn mx ms) 12 (-1) l4=.ok (o,l5)) (h7:fo o=false):lD l (.error 100):=by
 refine aa (ctx:=[⟨_,iz⟩,⟨_,fF⟩,⟨_,fm⟩,⟨_,iS⟩,⟨_,mX⟩,⟨_,lx⟩,⟨_,qZ⟩]) 4000 ?_
 rw [Tryz.ntmps202,Tryz.results202]
 simp only [Tryz.f202,Option.getD_some,aC]
 simp only [go_sem,rdK,aT,bm,aB,aA,xs2,xs1,xs0,aI,ai,Except.map,aZ,aY,aK,aJ,az,ay,bh,opE,opD,opV,bQ,bP,bD,bC,cV,ce,ca,bA,bz,bF,bE,bg,bd,db,bS,bR,aV,aU,fH,bZ,bY,gh,eh,eg,gd,ge,h1,h2,h3,h4,h5]
 refine du (ctx:=[]) mixed ⟨[],[(2,[177]),(4,[177]),(6,[177]),(8,[177])],[(0,[177])]⟩ (by kernel_rfl) ?_
 simp only [go_sem,rdK,aT,bm,aB,aA,xs2,xs1,xs0,aI,ai,Except.map,aZ,aY,aK,aJ,az,ay,bh,opE,opD,opV,bQ,bP,bD,bC,cV,ce,ca,bA,bz,bF,bE,bg,bd,db,bS,bR,aV,aU,fH,bZ,bY,gh,eh,eg,gd,ge,h1,h2,h3,h4,h5,h6,h0,h7]
theorem Lq (h0:RdOk l4) (h1:aQ l=((⟨rn,rx,rs⟩,is),l1)) (h2:gB (jx rn rx rs)=true) (h3:bW ⟨#[93]⟩ l1=(false,l2)) (h4:mustR ⟨#[44]⟩ l2=.ok l3) (h5:aQ l3=((⟨mn,mx,ms⟩,true),l4)) (h6:changedR (zE rn rx rs mn mx ms) 12 (-1) l4=.ok (o,l5)) (h7:fo o=true) (h8:mustR ⟨#[93]⟩ l5=.error e):lD l (.error e):=by
 refine aa (ctx:=[⟨_,iz⟩,⟨_,fF⟩,⟨_,fm⟩,⟨_,iS⟩,⟨_,mX⟩,⟨_,lx⟩,⟨_,qZ⟩]) 4000 ?_
 rw [Tryz.ntmps202,Tryz.results202]
 simp only [Tryz.f202,Option.getD_some,aC]
 simp only [go_sem,rdK,aT,bm,aB,aA,xs2,xs1,xs0,aI,ai,Except.map,aZ,aY,aK,aJ,az,ay,bh,opE,opD,opV,bQ,bP,bD,bC,cV,ce,ca,bA,bz,bF,bE,bg,bd,db,bS,bR,aV,aU,fH,bZ,bY,gh,eh,eg,gd,ge,h1,h2,h3,h4,h5]
 refine du (ctx:=[]) mixed ⟨[],[(2,[177]),(4,[177]),(6,[177]),(8,[177])],[(0,[177])]⟩ (by kernel_rfl) ?_
 simp only [go_sem,rdK,aT,bm,aB,aA,xs2,xs1,xs0,aI,ai,Except.map,aZ,aY,aK,aJ,az,ay,bh,opE,opD,opV,bQ,bP,bD,bC,cV,ce,ca,bA,bz,bF,bE,bg,bd,db,bS,bR,aV,aU,fH,bZ,bY,gh,eh,eg,gd,ge,h1,h2,h3,h4,h5,h6,h0,h7,h8]
theorem O6 {l6:List Tok} (h0:RdOk l4) (h1:aQ l=((⟨rn,rx,rs⟩,is),l1)) (h2:gB (jx rn rx rs)=true) (h3:bW ⟨#[93]⟩ l1=(false,l2)) (h4:mustR ⟨#[44]⟩ l2=.ok l3) (h5:aQ l3=((⟨mn,mx,ms⟩,true),l4)) (h6:changedR (zE rn rx rs mn mx ms) 12 (-1) l4=.ok (o,l5)) (h7:fo o=true) (h8:mustR ⟨#[93]⟩ l5=.ok l6):lD l (.ok (o,l6)):=by
 refine aa (ctx:=[⟨_,iz⟩,⟨_,fF⟩,⟨_,fm⟩,⟨_,iS⟩,⟨_,mX⟩,⟨_,lx⟩,⟨_,qZ⟩]) 4000 ?_
 rw [Tryz.ntmps202,Tryz.results202]
 simp only [Tryz.f202,Option.getD_some,aC]
 simp only [go_sem,rdK,aT,bm,aB,aA,xs2,xs1,xs0,aI,ai,Except.map,aZ,aY,aK,aJ,az,ay,bh,opE,opD,opV,bQ,bP,bD,bC,cV,ce,ca,bA,bz,bF,bE,bg,bd,db,bS,bR,aV,aU,fH,bZ,bY,gh,eh,eg,gd,ge,h1,h2,h3,h4,h5]
 refine du (ctx:=[]) mixed ⟨[],[(2,[177]),(4,[177]),(6,[177]),(8,[177])],[(0,[177])]⟩ (by kernel_rfl) ?_
 simp only [go_sem,rdK,aT,bm,aB,aA,xs2,xs1,xs0,aI,ai,Except.map,aZ,aY,aK,aJ,az,ay,bh,opE,opD,opV,bQ,bP,bD,bC,cV,ce,ca,bA,bz,bF,bE,bg,bd,db,bS,bR,aV,aU,fH,bZ,bY,gh,eh,eg,gd,ge,h1,h2,h3,h4,h5,h6,h0,h7,h8]
 exact cF rfl rfl
variable {w:kC}
theorem O7 (h1:aQ l=((⟨rn,rx,rs⟩,is),l1)) (h2:gB (jx rn rx rs)=true) (h3:bW ⟨#[93]⟩ l1=(false,l2)) (h4:mustR ⟨#[44]⟩ l2=.ok l3) (h5:aQ l3=((w,false),l4)) (h6:loR l4=.error e):lD l (.error e):=by
 refine aa (ctx:=[⟨_,iz⟩,⟨_,fF⟩,⟨_,fm⟩,⟨_,iS⟩,⟨_,mX⟩,⟨_,vY⟩]) 4000 ?_
 rw [Tryz.ntmps202,Tryz.results202]
 simp only [Tryz.f202,Option.getD_some,aC]
 simp only [go_sem,rdK,aT,bm,aB,aA,xs2,xs1,xs0,aI,ai,Except.map,aZ,aY,aK,aJ,az,ay,bh,opE,opD,opV,bQ,bP,bD,bC,cV,ce,ca,bA,bz,bF,bE,bg,bd,db,bS,bR,aV,aU,fH,bZ,bY,gh,eh,eg,gd,ge,h1,h2,h3,h4,h5,h6]
theorem O8 {l6:List Tok} (h0:RdOk l5) (h1:aQ l=((⟨rn,rx,rs⟩,is),l1)) (h2:gB (jx rn rx rs)=true) (h3:bW ⟨#[93]⟩ l1=(false,l2)) (h4:mustR ⟨#[44]⟩ l2=.ok l3) (h5:aQ l3=((w,false),l4)) (h6:loR l4=.ok (true,l5)) (hv:valueR l5=.ok (⟨va,vp,vm⟩,l6)) :
  lD l (match mustR ⟨#[93]⟩ l6 with | .error e=>.error e | .ok l=>.ok ({ p6 (jx rn rx rs) ⟨va,vp,vm⟩ with lo:=true },l)):=by
 refine aa (ctx:=[⟨_,iz⟩,⟨_,fF⟩,⟨_,fm⟩,⟨_,iS⟩,⟨_,mX⟩,⟨_,vY⟩,⟨_,li⟩]) 4000 ?_
 rw [Tryz.ntmps202,Tryz.results202]
 simp only [Tryz.f202,Option.getD_some,aC]
 rcases h7:mustR ⟨#[93]⟩ l6 with e | l7
 ·simp only [go_sem,rdK,aT,bm,aB,aA,xs2,xs1,xs0,aI,ai,Except.map,aZ,aY,aK,aJ,az,ay,bh,opE,opD,opV,bQ,bP,bD,bC,cV,ce,ca,bA,bz,bF,bE,bg,bd,db,bS,bR,aV,aU,fH,bZ,bY,gh,eh,eg,gd,ge,h1,h2,h3,h4,h5,h6,h0,hv,h7]
 ·simp only [go_sem,rdK,aT,bm,aB,aA,xs2,xs1,xs0,aI,ai,Except.map,aZ,aY,aK,aJ,az,ay,bh,opE,opD,opV,bQ,bP,bD,bC,cV,ce,ca,bA,bz,bF,bE,bg,bd,db,bS,bR,aV,aU,fH,bZ,bY,gh,eh,eg,gd,ge,h1,h2,h3,h4,h5,h6,h0,hv,h7,p6]
  exact cF rfl rfl
theorem Lr (h0:RdOk l5) (h1:aQ l=((⟨rn,rx,rs⟩,is),l1)) (h2:gB (jx rn rx rs)=true) (h3:bW ⟨#[93]⟩ l1=(false,l2)) (h4:mustR ⟨#[44]⟩ l2=.ok l3) (h5:aQ l3=((w,false),l4)) (h6:loR l4=.ok (true,l5)) (hv:valueR l5=.error e):lD l (.error e):=by
 refine aa (ctx:=[⟨_,iz⟩,⟨_,fF⟩,⟨_,fm⟩,⟨_,iS⟩,⟨_,mX⟩,⟨_,vY⟩,⟨_,li⟩]) 4000 ?_
 rw [Tryz.ntmps202,Tryz.results202]
 simp only [Tryz.f202,Option.getD_some,aC]
 simp only [go_sem,rdK,aT,bm,aB,aA,xs2,xs1,xs0,aI,ai,Except.map,aZ,aY,aK,aJ,az,ay,bh,opE,opD,opV,bQ,bP,bD,bC,cV,ce,ca,bA,bz,bF,bE,bg,bd,db,bS,bR,aV,aU,fH,bZ,bY,gh,eh,eg,gd,ge,h1,h2,h3,h4,h5,h6,h0,hv]
theorem Lt (h1:aQ l=((⟨rn,rx,rs⟩,is),l1)) (h2:gB (jx rn rx rs)=true) (h3:bW ⟨#[93]⟩ l1=(false,l2)) (h4:mustR ⟨#[44]⟩ l2=.ok l3) (h5:aQ l3=((w,false),l4)) (h6:loR l4=.ok (false,l5)) (h7:mustR ⟨#[35]⟩ l5=.error e):lD l (.error e):=by
 refine aa (ctx:=[⟨_,iz⟩,⟨_,fF⟩,⟨_,fm⟩,⟨_,iS⟩,⟨_,mX⟩,⟨_,vY⟩,⟨_,li⟩]) 4000 ?_
 rw [Tryz.ntmps202,Tryz.results202]
 simp only [Tryz.f202,Option.getD_some,aC]
 simp only [go_sem,rdK,aT,bm,aB,aA,xs2,xs1,xs0,aI,ai,Except.map,aZ,aY,aK,aJ,az,ay,bh,opE,opD,opV,bQ,bP,bD,bC,cV,ce,ca,bA,bz,bF,bE,bg,bd,db,bS,bR,aV,aU,fH,bZ,bY,gh,eh,eg,gd,ge,h1,h2,h3,h4,h5,h6,h7]
theorem Lu {l6:List Tok} (h0:RdOk l6) (h1:aQ l=((⟨rn,rx,rs⟩,is),l1)) (h2:gB (jx rn rx rs)=true) (h3:bW ⟨#[93]⟩ l1=(false,l2)) (h4:mustR ⟨#[44]⟩ l2=.ok l3) (h5:aQ l3=((w,false),l4)) (h6:loR l4=.ok (false,l5)) (h7:mustR ⟨#[35]⟩ l5=.ok l6) (hv:valueR l6=.error e):lD l (.error e):=by
 refine aa (ctx:=[⟨_,iz⟩,⟨_,fF⟩,⟨_,fm⟩,⟨_,iS⟩,⟨_,mX⟩,⟨_,vY⟩,⟨_,li⟩]) 4000 ?_
 rw [Tryz.ntmps202,Tryz.results202]
 simp only [Tryz.f202,Option.getD_some,aC]
 simp only [go_sem,rdK,aT,bm,aB,aA,xs2,xs1,xs0,aI,ai,Except.map,aZ,aY,aK,aJ,az,ay,bh,opE,opD,opV,bQ,bP,bD,bC,cV,ce,ca,bA,bz,bF,bE,bg,bd,db,bS,bR,aV,aU,fH,bZ,bY,gh,eh,eg,gd,ge,h1,h2,h3,h4,h5,h6,h7,h0,hv]
theorem Pa {l6 l7:List Tok} (h0:RdOk l6) (h1:aQ l=((⟨rn,rx,rs⟩,is),l1)) (h2:gB (jx rn rx rs)=true) (h3:bW ⟨#[93]⟩ l1=(false,l2)) (h4:mustR ⟨#[44]⟩ l2=.ok l3) (h5:aQ l3=((w,false),l4)) (h6:loR l4=.ok (false,l5)) (h7:mustR ⟨#[35]⟩ l5=.ok l6) (hv:valueR l6=.ok (⟨va,vp,vm⟩,l7)) :
  lD l (match mustR ⟨#[93]⟩ l7 with | .error e=>.error e | .ok l=>if (bW ⟨#[33]⟩ l).1=true then .ok ({ p6 (jx rn rx rs) ⟨va,vp,vm⟩ with mode:=1 },(bW ⟨#[33]⟩ l).2) else .ok (p6 (jx rn rx rs) ⟨va,vp,vm⟩,l)):=by
 refine aa (ctx:=[⟨_,iz⟩,⟨_,fF⟩,⟨_,fm⟩,⟨_,iS⟩,⟨_,mX⟩,⟨_,vY⟩,⟨_,li⟩]) 4000 ?_
 rw [Tryz.ntmps202,Tryz.results202]
 simp only [Tryz.f202,Option.getD_some,aC]
 rcases h8:mustR ⟨#[93]⟩ l7 with e | l8
 ·simp only [go_sem,rdK,aT,bm,aB,aA,xs2,xs1,xs0,aI,ai,Except.map,aZ,aY,aK,aJ,az,ay,bh,opE,opD,opV,bQ,bP,bD,bC,cV,ce,ca,bA,bz,bF,bE,bg,bd,db,bS,bR,aV,aU,fH,bZ,bY,gh,eh,eg,gd,ge,h1,h2,h3,h4,h5,h6,h7,h0,hv,h8]
 ·by_cases hb:atF l8 4 0=⟨#[33]⟩
  ·have h9:bW ⟨#[33]⟩ l8=(true,l8.drop 1):=by unfold bW;rw [if_pos hb]
   simp only [go_sem,rdK,aT,bm,aB,aA,xs2,xs1,xs0,aI,ai,Except.map,aZ,aY,aK,aJ,az,ay,bh,opE,opD,opV,bQ,bP,bD,bC,cV,ce,ca,bA,bz,bF,bE,bg,bd,db,bS,bR,aV,aU,fH,bZ,bY,gh,eh,eg,gd,ge,h1,h2,h3,h4,h5,h6,h7,h0,hv,h8,h9,p6]
   exact cF rfl rfl
  ·have h9:bW ⟨#[33]⟩ l8=(false,l8):=by unfold bW;rw [if_neg hb]
   simp only [go_sem,rdK,aT,bm,aB,aA,xs2,xs1,xs0,aI,ai,Except.map,aZ,aY,aK,aJ,az,ay,bh,opE,opD,opV,bQ,bP,bD,bC,cV,ce,ca,bA,bz,bF,bE,bg,bd,db,bS,bR,aV,aU,fH,bZ,bY,gh,eh,eg,gd,ge,h1,h2,h3,h4,h5,h6,h7,h0,hv,h8,h9,p6]
   exact cF rfl rfl
end
theorem RB (l:List Tok) (h:RdOk l):lD l (je l):=by
 rcases h1:aQ l with ⟨⟨⟨rn,rx,rs⟩,is⟩,l1⟩
 obtain ⟨e1,-⟩:=pN h1
 have k1:=pO h h1
 unfold je
 rw [e1,h1]
 simp only
 cases h2:gB (jx rn rx rs) with
 | false=>rw [if_pos (show gB (EK ⟨rn,rx,rs⟩)=false from h2)];exact O5 h1 h2
 | true =>
 rw [if_neg (show ¬gB (EK ⟨rn,rx,rs⟩)=false by rw [show gB (EK ⟨rn,rx,rs⟩)=true from h2];simp)]
 rcases h3:bW ⟨#[93]⟩ l1 with ⟨b,l2⟩
 have k2:=MY k1 h3
 rw [show bW qp l1=(b,l2) from h3]
 cases b with
 | true =>
  simp only [if_true]
  unfold xZ
  by_cases h4:atF l2 4 0=⟨#[44]⟩∧atF l2 4 1=⟨#[35]⟩
  ·rw [if_pos (show atF l2 4 0=fJ∧atF l2 4 1=eQ from h4)]
   rcases hv:valueR (l2.drop 2) with e | ⟨⟨va,vp,vm⟩,l3⟩
   ·exact Ir k2 h1 h2 h3 h4.1 h4.2 hv
   ·exact Ls k2 h1 h2 h3 h4.1 h4.2 hv
  ·rw [if_neg (show ¬(atF l2 4 0=fJ∧atF l2 4 1=eQ) from h4)]
   exact Iq h1 h2 h3 h4
 | false =>
  have hs:l2=l1:=by
   unfold bW at h3
   split at h3<;>injection h3 with h3 h4
   ·cases h3
   ·exact h4.symm
  rw [if_neg (by simp)]
  unfold pk
  rcases h4:mustR ⟨#[44]⟩ l2 with e | l3
  ·rw [← hs,show mustR fJ l2=.error e from h4]
   exact Lm h1 h2 h3 h4
  rw [← hs,show mustR fJ l2=.ok l3 from h4]
  obtain ⟨k3,-⟩:=fV eh k2 h4
  simp only
  rcases h5:aQ l3 with ⟨⟨⟨mn,mx,ms⟩,b⟩,l4⟩
  obtain ⟨e5,e6⟩:=pN h5
  have k4:=pO k3 h5
  rw [e5]
  cases b with
  | true =>
   rw [if_pos rfl] at e6
   rw [if_pos rfl,← e6]
   show lD l (Cq (zE rn rx rs mn mx ms) l4)
   unfold Cq
   rcases h6:changedR (zE rn rx rs mn mx ms) 12 (-1) l4 with e | ⟨o,l5⟩
   ·exact Lp k4 h1 h2 h3 h4 h5 h6
   ·simp only
    cases h7:fo o with
    | false=>rw [if_pos rfl];exact Ln k4 h1 h2 h3 h4 h5 h6 h7
    | true =>
     rw [if_neg (by simp)]
     rcases h8:mustR ⟨#[93]⟩ l5 with e | l6
     ·rw [show mustR qp l5=.error e from h8];exact Lq k4 h1 h2 h3 h4 h5 h6 h7 h8
     ·rw [show mustR qp l5=.ok l6 from h8];exact O6 k4 h1 h2 h3 h4 h5 h6 h7 h8
  | false =>
   rw [if_neg (by simp)] at e6
   rw [if_neg (by simp)]
   subst e6
   rcases h6:loR l4 with e | ⟨b,l5⟩
   ·exact O7 h1 h2 h3 h4 h5 h6
   have k5:=Lk k4 h6
   simp only
   cases b with
   | true =>
    rw [if_pos rfl]
    unfold EH
    rcases hv:valueR l5 with e | ⟨⟨va,vp,vm⟩,l6⟩
    ·exact Lr k5 h1 h2 h3 h4 h5 h6 hv
    ·exact O8 k5 h1 h2 h3 h4 h5 h6 hv
   | false =>
    rw [if_neg (by simp)]
    unfold E2
    rcases h7:mustR ⟨#[35]⟩ l5 with e | l6
    ·rw [show mustR eQ l5=.error e from h7];exact Lt h1 h2 h3 h4 h5 h6 h7
    obtain ⟨k6,-⟩:=fV eg k5 h7
    rw [show mustR eQ l5=.ok l6 from h7]
    simp only
    rcases hv:valueR l6 with e | ⟨⟨va,vp,vm⟩,l7⟩
    ·exact Lu k6 h1 h2 h3 h4 h5 h6 h7 hv
    ·exact Pa k6 h1 h2 h3 h4 h5 h6 h7 hv
def RA:bi Tryz.prog 202 :=
 uz _ _ _ Tryz.func202 rfl (fun _ _=>by go_simp) (xs0) ((fun _ l=>RdOk l)) ((fun _ l=>(je l).map fun (p:OpV×List Tok)=>(opV p.1,p.2))) (by rw [Tryz.ntmps202];decide) (fun _ l h=>RB l h)
theorem eY {id:Nat} {h:ah} {args:List AV}:(RA).run id h args=gu 1 (aT (xs0) ((fun _ l=>RdOk l))) (fun x=>dA (((fun _ l=>(je l).map fun (p:OpV×List Tok)=>(opV p.1,p.2))) x.1 x.2)) id h args:=rfl
theorem eX {id:Nat} {h:ah} {args:List AV}:(RA).pan id h args=fX (aT (xs0) ((fun _ l=>RdOk l))) (fun x=>dA (((fun _ l=>(je l).map fun (p:OpV×List Tok)=>(opV p.1,p.2))) x.1 x.2)) h args:=rfl
end Go.Proofs.YtnhbidpdadkcjaaGreatDoor
