import Derived.Test.YthcoegkfpinlfaaGreatDoorJ37
import Derived.Test.YthcoegkfpinlfaaGreatDoorJ24
set_option linter.unusedVariables false
set_option linter.unusedSimpArgs false
set_option maxRecDepth 100000
set_option maxHeartbeats 8000000
namespace Go.Proofs.YthcoegkfpinlfaaGreatDoor
open Go.RowKit
open Ex (Xs xs0)
theorem fU:¬(⟨#[93]⟩:ByteArray)=emp:=by decide
theorem fT:¬(⟨#[91]⟩:ByteArray)=emp:=by decide
theorem dJ:¬(⟨#[44]⟩:ByteArray)=emp:=by decide
theorem dI:¬(⟨#[35]⟩:ByteArray)=emp:=by decide
theorem fS:¬(⟨#[33]⟩:ByteArray)=emp:=by decide
theorem oJ {l l1:List Tok} {r:hP} {b:Bool} (h:au l=((r,b),l1)):gJ l=(r,b)∧l1=if b=true then l.drop 1 else l:=by
 unfold au at h
 injection h with h1 h2
 rw [h1] at h2
 exact ⟨h1,h2.symm⟩
theorem oK {l l1:List Tok} {p:hP×Bool} (h:RdOk l) (e:au l=(p,l1)):RdOk l1:=by
 unfold au at e
 injection e with e1 e2
 rw [← e2]
 split
 ·exact h.drop 1
 ·exact h
theorem LW {s:ByteArray} {l l1:List Tok} {b:Bool} (h:RdOk l) (e:br s l=(b,l1)):RdOk l1:=by
 unfold br at e
 split at e<;>injection e with e1 e2<;>subst e2
 ·exact h.drop 1
 ·exact h
theorem KE {l l1:List Tok} {b:Bool} (h:RdOk l) (e:loR l=.ok (b,l1)):RdOk l1:=by
 unfold loR at e
 split at e
 ·injection e with e;injection e with e1 e2;subst e2;exact h
 ·split at e
  ·cases e
  ·injection e with e;injection e with e1 e2;subst e2;exact h.drop 3
section
variable {l l1 l2 l3 l4 l5:List Tok} {rn mn va:Int} {rx rs mx ms is b:Bool} {vp vm:ByteArray} {e:Int}
abbrev kJ (l:List Tok) (r:RdR OpV):Prop:=SW Tryz.prog ⟨none,1⟩ Tryz.f112.ntmps (Tryz.f112.body.getD .skip) ⟨1,aw 0 [pv 0 0 0],cu 0 [rdK l]⟩ (ji Tryz.prog Tryz.f112.results.toList 1 (cU (r.map fun p=>(opV p.1,p.2))))
abbrev iR (rn:Int) (rx rs:Bool):OpV:=⟨5,⟨rn,rx,rs⟩,⟨0,false,false⟩,0,0,0,0,⟨#[]⟩,⟨#[]⟩,false,0⟩
theorem ND (h1:au l=((⟨rn,rx,rs⟩,is),l1)) (h2:eN (iR rn rx rs)=false):kJ l (.error 100):=by
 refine ab (ctx:=[⟨_,gW⟩,⟨_,fh⟩,⟨_,eM⟩]) 4000 ?_
 rw [Tryz.ntmps112,Tryz.results112]
 simp only [Tryz.f112,Option.getD_some,aw]
 simp only [go_sem,rdK,az,aM,aO,aL,xs2,xs1,xs0,aj,ae,Except.map,aD,aC,ao,ak,ai,ah,aF,opE,opD,opV,bj,bi,aX,aW,cx,bI,bH,aS,aR,bb,ba,aH,aG,cz,bx,bw,aB,aA,fk,bF,bE,fU,dJ,dI,fS,fT,h1,h2]
theorem HV (h1:au l=((⟨rn,rx,rs⟩,is),l1)) (h2:eN (iR rn rx rs)=true) (h3:br ⟨#[93]⟩ l1=(true,l2)) (h4:¬(atF l2 4 0=⟨#[44]⟩∧atF l2 4 1=⟨#[35]⟩)):kJ l (.ok (iR rn rx rs,l2)):=by
 refine ab (ctx:=[⟨_,gW⟩,⟨_,fh⟩,⟨_,eM⟩,⟨_,ir⟩,⟨_,atS⟩]) 4000 ?_
 rw [Tryz.ntmps112,Tryz.results112]
 simp only [Tryz.f112,Option.getD_some,aw]
 by_cases h5:atF l2 4 0=⟨#[44]⟩
 ·have h6:¬atF l2 4 1=⟨#[35]⟩:=fun h=>h4 ⟨h5,h⟩
  simp only [go_sem,rdK,az,aM,aO,aL,xs2,xs1,xs0,aj,ae,Except.map,aD,aC,ao,ak,ai,ah,aF,opE,opD,opV,bj,bi,aX,aW,cx,bI,bH,aS,aR,bb,ba,aH,aG,cz,bx,bw,aB,aA,fk,bF,bE,fU,dJ,dI,fS,fT,h1,h2,h3,h5,h6,Int.toNat_zero,Int.toNat_one]
  exact bZ rfl rfl
 ·simp only [go_sem,rdK,az,aM,aO,aL,xs2,xs1,xs0,aj,ae,Except.map,aD,aC,ao,ak,ai,ah,aF,opE,opD,opV,bj,bi,aX,aW,cx,bI,bH,aS,aR,bb,ba,aH,aG,cz,bx,bw,aB,aA,fk,bF,bE,fU,dJ,dI,fS,fT,h1,h2,h3,h5,Int.toNat_zero,Int.toNat_one]
  exact bZ rfl rfl
theorem KM (h0:RdOk l2) (h1:au l=((⟨rn,rx,rs⟩,is),l1)) (h2:eN (iR rn rx rs)=true) (h3:br ⟨#[93]⟩ l1=(true,l2)) (h4:atF l2 4 0=⟨#[44]⟩) (h5:atF l2 4 1=⟨#[35]⟩) (hv:valueR (l2.drop 2)=.ok (⟨va,vp,vm⟩,l3)) :
  kJ l (.ok ({ lh (iR rn rx rs) ⟨va,vp,vm⟩ with mode:=2 },l3)):=by
 refine ab (ctx:=[⟨_,gW⟩,⟨_,fh⟩,⟨_,eM⟩,⟨_,ir⟩,⟨_,atS⟩,⟨_,qD⟩,⟨_,kx⟩]) 4000 ?_
 rw [Tryz.ntmps112,Tryz.results112]
 simp only [Tryz.f112,Option.getD_some,aw]
 have hl:(2:Int)≤l2.length:=by have:=lI (l:=l2) (k:=4) (n:=1) (by rw [h5];decide);omega
 have hd:=h0.drop 2
 simp only [go_sem,rdK,az,aM,aO,aL,xs2,xs1,xs0,aj,ae,Except.map,aD,aC,ao,ak,ai,ah,aF,opE,opD,opV,bj,bi,aX,aW,cx,bI,bH,aS,aR,bb,ba,aH,aG,cz,bx,bw,aB,aA,fk,bF,bE,fU,dJ,dI,fS,fT,h1,h2,h3,h4,h5,Int.toNat_zero,Int.toNat_one,Int.reduceToNat,hl,hd,hv,lh]
 exact bZ rfl rfl
theorem HY (h0:RdOk l2) (h1:au l=((⟨rn,rx,rs⟩,is),l1)) (h2:eN (iR rn rx rs)=true) (h3:br ⟨#[93]⟩ l1=(true,l2)) (h4:atF l2 4 0=⟨#[44]⟩) (h5:atF l2 4 1=⟨#[35]⟩) (hv:valueR (l2.drop 2)=.error e):kJ l (.error e):=by
 refine ab (ctx:=[⟨_,gW⟩,⟨_,fh⟩,⟨_,eM⟩,⟨_,ir⟩,⟨_,atS⟩,⟨_,qD⟩,⟨_,kx⟩]) 4000 ?_
 rw [Tryz.ntmps112,Tryz.results112]
 simp only [Tryz.f112,Option.getD_some,aw]
 have hl:(2:Int)≤l2.length:=by have:=lI (l:=l2) (k:=4) (n:=1) (by rw [h5];decide);omega
 have hd:=h0.drop 2
 simp only [go_sem,rdK,az,aM,aO,aL,xs2,xs1,xs0,aj,ae,Except.map,aD,aC,ao,ak,ai,ah,aF,opE,opD,opV,bj,bi,aX,aW,cx,bI,bH,aS,aR,bb,ba,aH,aG,cz,bx,bw,aB,aA,fk,bF,bE,fU,dJ,dI,fS,fT,h1,h2,h3,h4,h5,Int.toNat_zero,Int.toNat_one,Int.reduceToNat,hl,hd,hv]
theorem KH (h1:au l=((⟨rn,rx,rs⟩,is),l1)) (h2:eN (iR rn rx rs)=true) (h3:br ⟨#[93]⟩ l1=(false,l2)) (h4:mustR ⟨#[44]⟩ l2=.error e):kJ l (.error e):=by
 refine ab (ctx:=[⟨_,gW⟩,⟨_,fh⟩,⟨_,eM⟩,⟨_,ir⟩,⟨_,lU⟩]) 4000 ?_
 rw [Tryz.ntmps112,Tryz.results112]
 simp only [Tryz.f112,Option.getD_some,aw]
 simp only [go_sem,rdK,az,aM,aO,aL,xs2,xs1,xs0,aj,ae,Except.map,aD,aC,ao,ak,ai,ah,aF,opE,opD,opV,bj,bi,aX,aW,cx,bI,bH,aS,aR,bb,ba,aH,aG,cz,bx,bw,aB,aA,fk,bF,bE,fU,dJ,dI,fS,fT,h1,h2,h3,h4]
variable {o:OpV}
abbrev ye (rn:Int) (rx rs:Bool) (mn:Int) (mx ms:Bool):OpV:=⟨5,⟨rn,rx,rs⟩,⟨mn,mx,ms⟩,1,-1,0,0,⟨#[]⟩,⟨#[]⟩,false,3⟩
theorem KJ (h0:RdOk l4) (h1:au l=((⟨rn,rx,rs⟩,is),l1)) (h2:eN (iR rn rx rs)=true) (h3:br ⟨#[93]⟩ l1=(false,l2)) (h4:mustR ⟨#[44]⟩ l2=.ok l3) (h5:au l3=((⟨mn,mx,ms⟩,true),l4)) (h6:changedR (ye rn rx rs mn mx ms) 12 (-1) l4=.error e):kJ l (.error e):=by
 refine ab (ctx:=[⟨_,gW⟩,⟨_,fh⟩,⟨_,eM⟩,⟨_,ir⟩,⟨_,lU⟩,⟨_,kH⟩]) 4000 ?_
 rw [Tryz.ntmps112,Tryz.results112]
 simp only [Tryz.f112,Option.getD_some,aw]
 simp only [go_sem,rdK,az,aM,aO,aL,xs2,xs1,xs0,aj,ae,Except.map,aD,aC,ao,ak,ai,ah,aF,opE,opD,opV,bj,bi,aX,aW,cx,bI,bH,aS,aR,bb,ba,aH,aG,cz,bx,bw,aB,aA,fk,bF,bE,fU,dJ,dI,fS,fT,h1,h2,h3,h4,h5]
 refine fP (ctx:=[]) mixed ⟨[],[(2,[177]),(4,[177]),(6,[177]),(8,[177])],[(0,[177])]⟩ (by kernel_rfl) ?_
 simp only [go_sem,rdK,az,aM,aO,aL,xs2,xs1,xs0,aj,ae,Except.map,aD,aC,ao,ak,ai,ah,aF,opE,opD,opV,bj,bi,aX,aW,cx,bI,bH,aS,aR,bb,ba,aH,aG,cz,bx,bw,aB,aA,fk,bF,bE,fU,dJ,dI,fS,fT,h1,h2,h3,h4,h5,h6,h0]
theorem KI (h0:RdOk l4) (h1:au l=((⟨rn,rx,rs⟩,is),l1)) (h2:eN (iR rn rx rs)=true) (h3:br ⟨#[93]⟩ l1=(false,l2)) (h4:mustR ⟨#[44]⟩ l2=.ok l3) (h5:au l3=((⟨mn,mx,ms⟩,true),l4)) (h6:changedR (ye rn rx rs mn mx ms) 12 (-1) l4=.ok (o,l5)) (h7:d5 o=false):kJ l (.error 100):=by
 refine ab (ctx:=[⟨_,gW⟩,⟨_,fh⟩,⟨_,eM⟩,⟨_,ir⟩,⟨_,lU⟩,⟨_,kH⟩,⟨_,qb⟩]) 4000 ?_
 rw [Tryz.ntmps112,Tryz.results112]
 simp only [Tryz.f112,Option.getD_some,aw]
 simp only [go_sem,rdK,az,aM,aO,aL,xs2,xs1,xs0,aj,ae,Except.map,aD,aC,ao,ak,ai,ah,aF,opE,opD,opV,bj,bi,aX,aW,cx,bI,bH,aS,aR,bb,ba,aH,aG,cz,bx,bw,aB,aA,fk,bF,bE,fU,dJ,dI,fS,fT,h1,h2,h3,h4,h5]
 refine fP (ctx:=[]) mixed ⟨[],[(2,[177]),(4,[177]),(6,[177]),(8,[177])],[(0,[177])]⟩ (by kernel_rfl) ?_
 simp only [go_sem,rdK,az,aM,aO,aL,xs2,xs1,xs0,aj,ae,Except.map,aD,aC,ao,ak,ai,ah,aF,opE,opD,opV,bj,bi,aX,aW,cx,bI,bH,aS,aR,bb,ba,aH,aG,cz,bx,bw,aB,aA,fk,bF,bE,fU,dJ,dI,fS,fT,h1,h2,h3,h4,h5,h6,h0,h7]
theorem KK (h0:RdOk l4) (h1:au l=((⟨rn,rx,rs⟩,is),l1)) (h2:eN (iR rn rx rs)=true) (h3:br ⟨#[93]⟩ l1=(false,l2)) (h4:mustR ⟨#[44]⟩ l2=.ok l3) (h5:au l3=((⟨mn,mx,ms⟩,true),l4)) (h6:changedR (ye rn rx rs mn mx ms) 12 (-1) l4=.ok (o,l5)) (h7:d5 o=true) (h8:mustR ⟨#[93]⟩ l5=.error e):kJ l (.error e):=by
 refine ab (ctx:=[⟨_,gW⟩,⟨_,fh⟩,⟨_,eM⟩,⟨_,ir⟩,⟨_,lU⟩,⟨_,kH⟩,⟨_,qb⟩]) 4000 ?_
 rw [Tryz.ntmps112,Tryz.results112]
 simp only [Tryz.f112,Option.getD_some,aw]
 simp only [go_sem,rdK,az,aM,aO,aL,xs2,xs1,xs0,aj,ae,Except.map,aD,aC,ao,ak,ai,ah,aF,opE,opD,opV,bj,bi,aX,aW,cx,bI,bH,aS,aR,bb,ba,aH,aG,cz,bx,bw,aB,aA,fk,bF,bE,fU,dJ,dI,fS,fT,h1,h2,h3,h4,h5]
 refine fP (ctx:=[]) mixed ⟨[],[(2,[177]),(4,[177]),(6,[177]),(8,[177])],[(0,[177])]⟩ (by kernel_rfl) ?_
 simp only [go_sem,rdK,az,aM,aO,aL,xs2,xs1,xs0,aj,ae,Except.map,aD,aC,ao,ak,ai,ah,aF,opE,opD,opV,bj,bi,aX,aW,cx,bI,bH,aS,aR,bb,ba,aH,aG,cz,bx,bw,aB,aA,fk,bF,bE,fU,dJ,dI,fS,fT,h1,h2,h3,h4,h5,h6,h0,h7,h8]
theorem NE {l6:List Tok} (h0:RdOk l4) (h1:au l=((⟨rn,rx,rs⟩,is),l1)) (h2:eN (iR rn rx rs)=true) (h3:br ⟨#[93]⟩ l1=(false,l2)) (h4:mustR ⟨#[44]⟩ l2=.ok l3) (h5:au l3=((⟨mn,mx,ms⟩,true),l4)) (h6:changedR (ye rn rx rs mn mx ms) 12 (-1) l4=.ok (o,l5)) (h7:d5 o=true) (h8:mustR ⟨#[93]⟩ l5=.ok l6):kJ l (.ok (o,l6)):=by
 refine ab (ctx:=[⟨_,gW⟩,⟨_,fh⟩,⟨_,eM⟩,⟨_,ir⟩,⟨_,lU⟩,⟨_,kH⟩,⟨_,qb⟩]) 4000 ?_
 rw [Tryz.ntmps112,Tryz.results112]
 simp only [Tryz.f112,Option.getD_some,aw]
 simp only [go_sem,rdK,az,aM,aO,aL,xs2,xs1,xs0,aj,ae,Except.map,aD,aC,ao,ak,ai,ah,aF,opE,opD,opV,bj,bi,aX,aW,cx,bI,bH,aS,aR,bb,ba,aH,aG,cz,bx,bw,aB,aA,fk,bF,bE,fU,dJ,dI,fS,fT,h1,h2,h3,h4,h5]
 refine fP (ctx:=[]) mixed ⟨[],[(2,[177]),(4,[177]),(6,[177]),(8,[177])],[(0,[177])]⟩ (by kernel_rfl) ?_
 simp only [go_sem,rdK,az,aM,aO,aL,xs2,xs1,xs0,aj,ae,Except.map,aD,aC,ao,ak,ai,ah,aF,opE,opD,opV,bj,bi,aX,aW,cx,bI,bH,aS,aR,bb,ba,aH,aG,cz,bx,bw,aB,aA,fk,bF,bE,fU,dJ,dI,fS,fT,h1,h2,h3,h4,h5,h6,h0,h7,h8]
 exact bZ rfl rfl
variable {w:hP}
theorem NF (h1:au l=((⟨rn,rx,rs⟩,is),l1)) (h2:eN (iR rn rx rs)=true) (h3:br ⟨#[93]⟩ l1=(false,l2)) (h4:mustR ⟨#[44]⟩ l2=.ok l3) (h5:au l3=((w,false),l4)) (h6:loR l4=.error e):kJ l (.error e):=by
 refine ab (ctx:=[⟨_,gW⟩,⟨_,fh⟩,⟨_,eM⟩,⟨_,ir⟩,⟨_,lU⟩,⟨_,ui⟩]) 4000 ?_
 rw [Tryz.ntmps112,Tryz.results112]
 simp only [Tryz.f112,Option.getD_some,aw]
 simp only [go_sem,rdK,az,aM,aO,aL,xs2,xs1,xs0,aj,ae,Except.map,aD,aC,ao,ak,ai,ah,aF,opE,opD,opV,bj,bi,aX,aW,cx,bI,bH,aS,aR,bb,ba,aH,aG,cz,bx,bw,aB,aA,fk,bF,bE,fU,dJ,dI,fS,fT,h1,h2,h3,h4,h5,h6]
theorem NG {l6:List Tok} (h0:RdOk l5) (h1:au l=((⟨rn,rx,rs⟩,is),l1)) (h2:eN (iR rn rx rs)=true) (h3:br ⟨#[93]⟩ l1=(false,l2)) (h4:mustR ⟨#[44]⟩ l2=.ok l3) (h5:au l3=((w,false),l4)) (h6:loR l4=.ok (true,l5)) (hv:valueR l5=.ok (⟨va,vp,vm⟩,l6)) :
  kJ l (match mustR ⟨#[93]⟩ l6 with | .error e=>.error e | .ok l=>.ok ({ lh (iR rn rx rs) ⟨va,vp,vm⟩ with lo:=true },l)):=by
 refine ab (ctx:=[⟨_,gW⟩,⟨_,fh⟩,⟨_,eM⟩,⟨_,ir⟩,⟨_,lU⟩,⟨_,ui⟩,⟨_,kx⟩]) 4000 ?_
 rw [Tryz.ntmps112,Tryz.results112]
 simp only [Tryz.f112,Option.getD_some,aw]
 rcases h7:mustR ⟨#[93]⟩ l6 with e | l7
 ·simp only [go_sem,rdK,az,aM,aO,aL,xs2,xs1,xs0,aj,ae,Except.map,aD,aC,ao,ak,ai,ah,aF,opE,opD,opV,bj,bi,aX,aW,cx,bI,bH,aS,aR,bb,ba,aH,aG,cz,bx,bw,aB,aA,fk,bF,bE,fU,dJ,dI,fS,fT,h1,h2,h3,h4,h5,h6,h0,hv,h7]
 ·simp only [go_sem,rdK,az,aM,aO,aL,xs2,xs1,xs0,aj,ae,Except.map,aD,aC,ao,ak,ai,ah,aF,opE,opD,opV,bj,bi,aX,aW,cx,bI,bH,aS,aR,bb,ba,aH,aG,cz,bx,bw,aB,aA,fk,bF,bE,fU,dJ,dI,fS,fT,h1,h2,h3,h4,h5,h6,h0,hv,h7,lh]
  exact bZ rfl rfl
theorem KL (h0:RdOk l5) (h1:au l=((⟨rn,rx,rs⟩,is),l1)) (h2:eN (iR rn rx rs)=true) (h3:br ⟨#[93]⟩ l1=(false,l2)) (h4:mustR ⟨#[44]⟩ l2=.ok l3) (h5:au l3=((w,false),l4)) (h6:loR l4=.ok (true,l5)) (hv:valueR l5=.error e):kJ l (.error e):=by
 refine ab (ctx:=[⟨_,gW⟩,⟨_,fh⟩,⟨_,eM⟩,⟨_,ir⟩,⟨_,lU⟩,⟨_,ui⟩,⟨_,kx⟩]) 4000 ?_
 rw [Tryz.ntmps112,Tryz.results112]
 simp only [Tryz.f112,Option.getD_some,aw]
 simp only [go_sem,rdK,az,aM,aO,aL,xs2,xs1,xs0,aj,ae,Except.map,aD,aC,ao,ak,ai,ah,aF,opE,opD,opV,bj,bi,aX,aW,cx,bI,bH,aS,aR,bb,ba,aH,aG,cz,bx,bw,aB,aA,fk,bF,bE,fU,dJ,dI,fS,fT,h1,h2,h3,h4,h5,h6,h0,hv]
theorem KN (h1:au l=((⟨rn,rx,rs⟩,is),l1)) (h2:eN (iR rn rx rs)=true) (h3:br ⟨#[93]⟩ l1=(false,l2)) (h4:mustR ⟨#[44]⟩ l2=.ok l3) (h5:au l3=((w,false),l4)) (h6:loR l4=.ok (false,l5)) (h7:mustR ⟨#[35]⟩ l5=.error e):kJ l (.error e):=by
 refine ab (ctx:=[⟨_,gW⟩,⟨_,fh⟩,⟨_,eM⟩,⟨_,ir⟩,⟨_,lU⟩,⟨_,ui⟩,⟨_,kx⟩]) 4000 ?_
 rw [Tryz.ntmps112,Tryz.results112]
 simp only [Tryz.f112,Option.getD_some,aw]
 simp only [go_sem,rdK,az,aM,aO,aL,xs2,xs1,xs0,aj,ae,Except.map,aD,aC,ao,ak,ai,ah,aF,opE,opD,opV,bj,bi,aX,aW,cx,bI,bH,aS,aR,bb,ba,aH,aG,cz,bx,bw,aB,aA,fk,bF,bE,fU,dJ,dI,fS,fT,h1,h2,h3,h4,h5,h6,h7]
theorem KO {l6:List Tok} (h0:RdOk l6) (h1:au l=((⟨rn,rx,rs⟩,is),l1)) (h2:eN (iR rn rx rs)=true) (h3:br ⟨#[93]⟩ l1=(false,l2)) (h4:mustR ⟨#[44]⟩ l2=.ok l3) (h5:au l3=((w,false),l4)) (h6:loR l4=.ok (false,l5)) (h7:mustR ⟨#[35]⟩ l5=.ok l6) (hv:valueR l6=.error e):kJ l (.error e):=by
 refine ab (ctx:=[⟨_,gW⟩,⟨_,fh⟩,⟨_,eM⟩,⟨_,ir⟩,⟨_,lU⟩,⟨_,ui⟩,⟨_,kx⟩]) 4000 ?_
 rw [Tryz.ntmps112,Tryz.results112]
 simp only [Tryz.f112,Option.getD_some,aw]
 simp only [go_sem,rdK,az,aM,aO,aL,xs2,xs1,xs0,aj,ae,Except.map,aD,aC,ao,ak,ai,ah,aF,opE,opD,opV,bj,bi,aX,aW,cx,bI,bH,aS,aR,bb,ba,aH,aG,cz,bx,bw,aB,aA,fk,bF,bE,fU,dJ,dI,fS,fT,h1,h2,h3,h4,h5,h6,h7,h0,hv]
theorem NI {l6 l7:List Tok} (h0:RdOk l6) (h1:au l=((⟨rn,rx,rs⟩,is),l1)) (h2:eN (iR rn rx rs)=true) (h3:br ⟨#[93]⟩ l1=(false,l2)) (h4:mustR ⟨#[44]⟩ l2=.ok l3) (h5:au l3=((w,false),l4)) (h6:loR l4=.ok (false,l5)) (h7:mustR ⟨#[35]⟩ l5=.ok l6) (hv:valueR l6=.ok (⟨va,vp,vm⟩,l7)) :
  kJ l (match mustR ⟨#[93]⟩ l7 with | .error e=>.error e | .ok l=>if (br ⟨#[33]⟩ l).1=true then .ok ({ lh (iR rn rx rs) ⟨va,vp,vm⟩ with mode:=1 },(br ⟨#[33]⟩ l).2) else .ok (lh (iR rn rx rs) ⟨va,vp,vm⟩,l)):=by
 refine ab (ctx:=[⟨_,gW⟩,⟨_,fh⟩,⟨_,eM⟩,⟨_,ir⟩,⟨_,lU⟩,⟨_,ui⟩,⟨_,kx⟩]) 4000 ?_
 rw [Tryz.ntmps112,Tryz.results112]
 simp only [Tryz.f112,Option.getD_some,aw]
 rcases h8:mustR ⟨#[93]⟩ l7 with e | l8
 ·simp only [go_sem,rdK,az,aM,aO,aL,xs2,xs1,xs0,aj,ae,Except.map,aD,aC,ao,ak,ai,ah,aF,opE,opD,opV,bj,bi,aX,aW,cx,bI,bH,aS,aR,bb,ba,aH,aG,cz,bx,bw,aB,aA,fk,bF,bE,fU,dJ,dI,fS,fT,h1,h2,h3,h4,h5,h6,h7,h0,hv,h8]
 ·by_cases hb:atF l8 4 0=⟨#[33]⟩
  ·have h9:br ⟨#[33]⟩ l8=(true,l8.drop 1):=by unfold br;rw [if_pos hb]
   simp only [go_sem,rdK,az,aM,aO,aL,xs2,xs1,xs0,aj,ae,Except.map,aD,aC,ao,ak,ai,ah,aF,opE,opD,opV,bj,bi,aX,aW,cx,bI,bH,aS,aR,bb,ba,aH,aG,cz,bx,bw,aB,aA,fk,bF,bE,fU,dJ,dI,fS,fT,h1,h2,h3,h4,h5,h6,h7,h0,hv,h8,h9,lh]
   exact bZ rfl rfl
  ·have h9:br ⟨#[33]⟩ l8=(false,l8):=by unfold br;rw [if_neg hb]
   simp only [go_sem,rdK,az,aM,aO,aL,xs2,xs1,xs0,aj,ae,Except.map,aD,aC,ao,ak,ai,ah,aF,opE,opD,opV,bj,bi,aX,aW,cx,bI,bH,aS,aR,bb,ba,aH,aG,cz,bx,bw,aB,aA,fk,bF,bE,fU,dJ,dI,fS,fT,h1,h2,h3,h4,h5,h6,h7,h0,hv,h8,h9,lh]
   exact bZ rfl rfl
end
theorem PQ (l:List Tok) (h:RdOk l):kJ l (fg l):=by
 rcases h1:au l with ⟨⟨⟨rn,rx,rs⟩,is⟩,l1⟩
 obtain ⟨e1,-⟩:=oJ h1
 have k1:=oK h h1
 unfold fg
 rw [e1,h1]
 simp only
 cases h2:eN (iR rn rx rs) with
 | false=>rw [if_pos (show eN (la ⟨rn,rx,rs⟩)=false from h2)];exact ND h1 h2
 | true =>
 rw [if_neg (show ¬eN (la ⟨rn,rx,rs⟩)=false by rw [show eN (la ⟨rn,rx,rs⟩)=true from h2];simp)]
 rcases h3:br ⟨#[93]⟩ l1 with ⟨b,l2⟩
 have k2:=LW k1 h3
 rw [show br dE l1=(b,l2) from h3]
 cases b with
 | true =>
  simp only [if_true]
  unfold nr
  by_cases h4:atF l2 4 0=⟨#[44]⟩∧atF l2 4 1=⟨#[35]⟩
  ·rw [if_pos (show atF l2 4 0=aY∧atF l2 4 1=bc from h4)]
   rcases hv:valueR (l2.drop 2) with e | ⟨⟨va,vp,vm⟩,l3⟩
   ·exact HY k2 h1 h2 h3 h4.1 h4.2 hv
   ·exact KM k2 h1 h2 h3 h4.1 h4.2 hv
  ·rw [if_neg (show ¬(atF l2 4 0=aY∧atF l2 4 1=bc) from h4)]
   exact HV h1 h2 h3 h4
 | false =>
  have hs:l2=l1:=by
   unfold br at h3
   split at h3<;>injection h3 with h3 h4
   ·cases h3
   ·exact h4.symm
  rw [if_neg (by simp)]
  unfold gz
  rcases h4:mustR ⟨#[44]⟩ l2 with e | l3
  ·rw [← hs,show mustR aY l2=.error e from h4]
   exact KH h1 h2 h3 h4
  rw [← hs,show mustR aY l2=.ok l3 from h4]
  obtain ⟨k3,-⟩:=eH dJ k2 h4
  simp only
  rcases h5:au l3 with ⟨⟨⟨mn,mx,ms⟩,b⟩,l4⟩
  obtain ⟨e5,e6⟩:=oJ h5
  have k4:=oK k3 h5
  rw [e5]
  cases b with
  | true =>
   rw [if_pos rfl] at e6
   rw [if_pos rfl,← e6]
   show kJ l (uh (ye rn rx rs mn mx ms) l4)
   unfold uh
   rcases h6:changedR (ye rn rx rs mn mx ms) 12 (-1) l4 with e | ⟨o,l5⟩
   ·exact KJ k4 h1 h2 h3 h4 h5 h6
   ·simp only
    cases h7:d5 o with
    | false=>rw [if_pos rfl];exact KI k4 h1 h2 h3 h4 h5 h6 h7
    | true =>
     rw [if_neg (by simp)]
     rcases h8:mustR ⟨#[93]⟩ l5 with e | l6
     ·rw [show mustR dE l5=.error e from h8];exact KK k4 h1 h2 h3 h4 h5 h6 h7 h8
     ·rw [show mustR dE l5=.ok l6 from h8];exact NE k4 h1 h2 h3 h4 h5 h6 h7 h8
  | false =>
   rw [if_neg (by simp)] at e6
   rw [if_neg (by simp)]
   subst e6
   rcases h6:loR l4 with e | ⟨b,l5⟩
   ·exact NF h1 h2 h3 h4 h5 h6
   have k5:=KE k4 h6
   simp only
   cases b with
   | true =>
    rw [if_pos rfl]
    unfold vO
    rcases hv:valueR l5 with e | ⟨⟨va,vp,vm⟩,l6⟩
    ·exact KL k5 h1 h2 h3 h4 h5 h6 hv
    ·exact NG k5 h1 h2 h3 h4 h5 h6 hv
   | false =>
    rw [if_neg (by simp)]
    unfold wm
    rcases h7:mustR ⟨#[35]⟩ l5 with e | l6
    ·rw [show mustR bc l5=.error e from h7];exact KN h1 h2 h3 h4 h5 h6 h7
    obtain ⟨k6,-⟩:=eH dI k5 h7
    rw [show mustR bc l5=.ok l6 from h7]
    simp only
    rcases hv:valueR l6 with e | ⟨⟨va,vp,vm⟩,l7⟩
    ·exact KO k6 h1 h2 h3 h4 h5 h6 h7 hv
    ·exact NI k6 h1 h2 h3 h4 h5 h6 h7 hv
def PP:bq Tryz.prog 112 :=
 sT _ _ _ Tryz.func112 rfl (fun _ _=>by go_simp) (xs0) ((fun _ l=>RdOk l)) ((fun _ l=>(fg l).map fun (p:OpV×List Tok)=>(opV p.1,p.2))) (by rw [Tryz.ntmps112];decide) (fun _ l h=>PQ l h)
theorem ez {id:Nat} {h:ag} {args:List AV}:(PP).run id h args=mj 1 (az (xs0) ((fun _ l=>RdOk l))) (fun x=>cU (((fun _ l=>(fg l).map fun (p:OpV×List Tok)=>(opV p.1,p.2))) x.1 x.2)) id h args:=rfl
theorem eh {id:Nat} {h:ag} {args:List AV}:(PP).pan id h args=lp (az (xs0) ((fun _ l=>RdOk l))) (fun x=>cU (((fun _ l=>(fg l).map fun (p:OpV×List Tok)=>(opV p.1,p.2))) x.1 x.2)) h args:=rfl
end Go.Proofs.YthcoegkfpinlfaaGreatDoor
