import Derived.Test.YthcoegkfpinlfaaGreatDoorJ38
import Derived.Test.YthcoegkfpinlfaaGreatDoorJ31
import Derived.Test.YthcoegkfpinlfaaGreatDoorJ10
set_option linter.unusedVariables false
set_option linter.unusedSimpArgs false
set_option maxRecDepth 100000
set_option maxHeartbeats 8000000
namespace Go.Proofs.YthcoegkfpinlfaaGreatDoor
section
open Go.RowKit
open Ex (Xs xs0)
section
variable {l l1 l2 l3:List Tok} {rn va:Int} {rx rs:Bool} {vp vm:ByteArray} {e:Int} {w:hP}
abbrev pI (l:List Tok) (r:RdR OpV):Prop:=SW Tryz.prog ⟨none,1⟩ Tryz.f63.ntmps (Tryz.f63.body.getD .skip) ⟨1,aw 0 [pv 0 0 0],cu 0 [rdK l]⟩ (ji Tryz.prog Tryz.f63.results.toList 1 (cU (r.map fun p=>(opV p.1,p.2))))
theorem KW (h0:RdOk l1) (h1:au l=((⟨rn,rx,rs⟩,true),l1)):pI l (changedR ⟨1,⟨rn,rx,rs⟩,⟨0,false,false⟩,0,0,0,0,⟨#[]⟩,⟨#[]⟩,false,0⟩ 12 0 l1):=by
 refine ab (ctx:=[⟨_,gW⟩,⟨_,kH⟩]) 4000 ?_
 rw [Tryz.ntmps63,Tryz.results63]
 simp only [Tryz.f63,Option.getD_some,aw]
 rcases h2:changedR ⟨1,⟨rn,rx,rs⟩,⟨0,false,false⟩,0,0,0,0,⟨#[]⟩,⟨#[]⟩,false,0⟩ 12 0 l1 with e | ⟨o,l2⟩
 ·simp only [go_sem,rdK,az,aM,aO,aL,xs2,xs1,xs0,aj,ae,Except.map,aD,aC,ao,ak,ai,ah,aF,opE,opD,opV,bj,bi,aX,aW,cx,aS,aR,aH,aG,cz,g9,bx,bw,aB,aA,fk,ez,eh,dw,dv,cO,cN,fU,dJ,dI,fS,fT,h0,h1,h2]
 ·simp only [go_sem,rdK,az,aM,aO,aL,xs2,xs1,xs0,aj,ae,Except.map,aD,aC,ao,ak,ai,ah,aF,opE,opD,opV,bj,bi,aX,aW,cx,aS,aR,aH,aG,cz,g9,bx,bw,aB,aA,fk,ez,eh,dw,dv,cO,cN,fU,dJ,dI,fS,fT,h0,h1,h2]
  exact bZ rfl rfl
theorem KV (h0:RdOk l2) (h1:au l=((w,false),l1)) (h2:br ⟨#[91]⟩ l1=(true,l2)):pI l (fg l2):=by
 refine ab (ctx:=[⟨_,gW⟩,⟨_,atS⟩,⟨_,ir⟩,⟨_,PP⟩]) 4000 ?_
 rw [Tryz.ntmps63,Tryz.results63]
 simp only [Tryz.f63,Option.getD_some,aw]
 rcases h3:fg l2 with e | ⟨o,l3⟩
 ·simp only [go_sem,rdK,az,aM,aO,aL,xs2,xs1,xs0,aj,ae,Except.map,aD,aC,ao,ak,ai,ah,aF,opE,opD,opV,bj,bi,aX,aW,cx,aS,aR,aH,aG,cz,g9,bx,bw,aB,aA,fk,ez,eh,dw,dv,cO,cN,fU,dJ,dI,fS,fT,h0,h1,h2,h3,Int.toNat_zero]
 ·simp only [go_sem,rdK,az,aM,aO,aL,xs2,xs1,xs0,aj,ae,Except.map,aD,aC,ao,ak,ai,ah,aF,opE,opD,opV,bj,bi,aX,aW,cx,aS,aR,aH,aG,cz,g9,bx,bw,aB,aA,fk,ez,eh,dw,dv,cO,cN,fU,dJ,dI,fS,fT,h0,h1,h2,h3,Int.toNat_zero]
  exact bZ rfl rfl
theorem Ii (h0:RdOk l2) (h1:au l=((w,false),l1)) (h2:br ⟨#[91]⟩ l1=(false,l1)) (h3:br ⟨#[35]⟩ l1=(true,l2)):pI l (m9 l2):=by
 refine ab (ctx:=[⟨_,gW⟩,⟨_,atS⟩,⟨_,ir⟩,⟨_,kx⟩,⟨_,kH⟩]) 4000 ?_
 rw [Tryz.ntmps63,Tryz.results63]
 simp only [Tryz.f63,Option.getD_some,aw]
 unfold m9
 rcases hv:valueR l2 with e | ⟨⟨va,vp,vm⟩,l3⟩
 ·simp only [go_sem,rdK,az,aM,aO,aL,xs2,xs1,xs0,aj,ae,Except.map,aD,aC,ao,ak,ai,ah,aF,opE,opD,opV,bj,bi,aX,aW,cx,aS,aR,aH,aG,cz,g9,bx,bw,aB,aA,fk,ez,eh,dw,dv,cO,cN,fU,dJ,dI,fS,fT,h0,h1,h2,h3,hv,Int.toNat_zero]
 ·obtain ⟨-,h4,-⟩:=iL h0 hv
  have e5:changedR (iI ⟨va,vp,vm⟩ false) 1 0 l3=changedR ⟨2,⟨0,false,false⟩,⟨0,false,false⟩,0,0,0,va,vp,vm,false,0⟩ 1 0 l3:=rfl
  simp only [e5]
  rcases h5:changedR ⟨2,⟨0,false,false⟩,⟨0,false,false⟩,0,0,0,va,vp,vm,false,0⟩ 1 0 l3 with e | ⟨o,l4⟩
  ·simp only [go_sem,rdK,az,aM,aO,aL,xs2,xs1,xs0,aj,ae,Except.map,aD,aC,ao,ak,ai,ah,aF,opE,opD,opV,bj,bi,aX,aW,cx,aS,aR,aH,aG,cz,g9,bx,bw,aB,aA,fk,ez,eh,dw,dv,cO,cN,fU,dJ,dI,fS,fT,h0,h1,h2,h3,h4,h5,hv,Int.toNat_zero]
  ·simp only [go_sem,rdK,az,aM,aO,aL,xs2,xs1,xs0,aj,ae,Except.map,aD,aC,ao,ak,ai,ah,aF,opE,opD,opV,bj,bi,aX,aW,cx,aS,aR,aH,aG,cz,g9,bx,bw,aB,aA,fk,ez,eh,dw,dv,cO,cN,fU,dJ,dI,fS,fT,h0,h1,h2,h3,h4,h5,hv,Int.toNat_zero]
   exact bZ rfl rfl
theorem KU (h1:au l=((w,false),l1)) (h2:br ⟨#[91]⟩ l1=(false,l1)) (h3:br ⟨#[35]⟩ l1=(false,l1)) (h4:loR l1=.error e):pI l (.error e):=by
 refine ab (ctx:=[⟨_,gW⟩,⟨_,atS⟩,⟨_,ir⟩,⟨_,ui⟩]) 4000 ?_
 rw [Tryz.ntmps63,Tryz.results63]
 simp only [Tryz.f63,Option.getD_some,aw]
 simp only [go_sem,rdK,az,aM,aO,aL,xs2,xs1,xs0,aj,ae,Except.map,aD,aC,ao,ak,ai,ah,aF,opE,opD,opV,bj,bi,aX,aW,cx,aS,aR,aH,aG,cz,g9,bx,bw,aB,aA,fk,ez,eh,dw,dv,cO,cN,fU,dJ,dI,fS,fT,h1,h2,h3,h4,Int.toNat_zero]
theorem NR (h0:RdOk l2) (h1:au l=((w,false),l1)) (h2:br ⟨#[91]⟩ l1=(false,l1)) (h3:br ⟨#[35]⟩ l1=(false,l1)) (h4:loR l1=.ok (true,l2)) :
  pI l (match valueR l2 with | .error e=>.error e | .ok (v,l)=>.ok (iI v true,l)):=by
 refine ab (ctx:=[⟨_,gW⟩,⟨_,atS⟩,⟨_,ir⟩,⟨_,ui⟩,⟨_,kx⟩]) 4000 ?_
 rw [Tryz.ntmps63,Tryz.results63]
 simp only [Tryz.f63,Option.getD_some,aw]
 rcases hv:valueR l2 with e | ⟨⟨va,vp,vm⟩,l3⟩
 ·simp only [go_sem,rdK,az,aM,aO,aL,xs2,xs1,xs0,aj,ae,Except.map,aD,aC,ao,ak,ai,ah,aF,opE,opD,opV,bj,bi,aX,aW,cx,aS,aR,aH,aG,cz,g9,bx,bw,aB,aA,fk,ez,eh,dw,dv,cO,cN,fU,dJ,dI,fS,fT,h0,h1,h2,h3,h4,hv,Int.toNat_zero]
 ·simp only [go_sem,rdK,az,aM,aO,aL,xs2,xs1,xs0,aj,ae,Except.map,aD,aC,ao,ak,ai,ah,aF,opE,opD,opV,bj,bi,aX,aW,cx,aS,aR,aH,aG,cz,g9,bx,bw,aB,aA,fk,ez,eh,dw,dv,cO,cN,fU,dJ,dI,fS,fT,h0,h1,h2,h3,h4,hv,Int.toNat_zero,iI,r0]
  exact bZ rfl rfl
theorem Ij (h0:RdOk l1) (h1:au l=((w,false),l1)) (h2:br ⟨#[91]⟩ l1=(false,l1)) (h3:br ⟨#[35]⟩ l1=(false,l1)) (h4:loR l1=.ok (false,l1)) (h5:¬atF l1 1 0=⟨#[]⟩) (h6:iE 3 (atF l1 1 0)=true) :
  pI l (cJ (atF l1 1 0) l1):=by
 refine ab (ctx:=[⟨_,gW⟩,⟨_,atS⟩,⟨_,ir⟩,⟨_,ui⟩,⟨_,CO⟩,⟨_,LQ⟩]) 4000 ?_
 rw [Tryz.ntmps63,Tryz.results63]
 simp only [Tryz.f63,Option.getD_some,aw]
 have hz:(atF l1 1 0).size≤1099511627776:=by have:=zzu5 h0 0;omega
 have hl:1≤l1.length:=by have:=lI (l:=l1) (k:=1) (n:=0) h5;omega
 rcases h7:cJ (atF l1 1 0) l1 with e | ⟨o,l3⟩
 ·simp only [go_sem,rdK,az,aM,aO,aL,xs2,xs1,xs0,aj,ae,Except.map,aD,aC,ao,ak,ai,ah,aF,opE,opD,opV,bj,bi,aX,aW,cx,aS,aR,aH,aG,cz,g9,bx,bw,aB,aA,fk,ez,eh,dw,dv,cO,cN,fU,dJ,dI,fS,fT,h1,h2,h3,h4,h5,h6,h7,hz,hl,Int.toNat_zero]
 ·simp only [go_sem,rdK,az,aM,aO,aL,xs2,xs1,xs0,aj,ae,Except.map,aD,aC,ao,ak,ai,ah,aF,opE,opD,opV,bj,bi,aX,aW,cx,aS,aR,aH,aG,cz,g9,bx,bw,aB,aA,fk,ez,eh,dw,dv,cO,cN,fU,dJ,dI,fS,fT,h1,h2,h3,h4,h5,h6,h7,hz,hl,Int.toNat_zero]
  exact bZ rfl rfl
theorem KX (h0:RdOk l1) (h1:au l=((w,false),l1)) (h2:br ⟨#[91]⟩ l1=(false,l1)) (h3:br ⟨#[35]⟩ l1=(false,l1)) (h4:loR l1=.ok (false,l1)) (h5:¬(¬atF l1 1 0=⟨#[]⟩∧iE 3 (atF l1 1 0)=true)) :
  pI l (match valueR l1 with | .error e=>.error e | .ok (v,l)=>.ok (if v.plus=emp∧v.minus=emp then iI v false else toV v,l)):=by
 refine ab (ctx:=[⟨_,gW⟩,⟨_,atS⟩,⟨_,ir⟩,⟨_,ui⟩,⟨_,CO⟩,⟨_,kx⟩]) 4000 ?_
 rw [Tryz.ntmps63,Tryz.results63]
 simp only [Tryz.f63,Option.getD_some,aw]
 have hz:(atF l1 1 0).size≤1099511627776:=by have:=zzu5 h0 0;omega
 by_cases h6:atF l1 1 0=⟨#[]⟩
 ·rcases hv:valueR l1 with e | ⟨⟨va,vp,vm⟩,l3⟩
  ·simp only [go_sem,rdK,az,aM,aO,aL,xs2,xs1,xs0,aj,ae,Except.map,aD,aC,ao,ak,ai,ah,aF,opE,opD,opV,bj,bi,aX,aW,cx,aS,aR,aH,aG,cz,g9,bx,bw,aB,aA,fk,ez,eh,dw,dv,cO,cN,fU,dJ,dI,fS,fT,h0,h1,h2,h3,h4,h6,hv,hz,Int.toNat_zero]
  ·by_cases hp:vp=⟨#[]⟩
   ·by_cases hm:vm=⟨#[]⟩
    ·have hX:(if vp=emp∧vm=emp then iI ⟨va,vp,vm⟩ false else toV ⟨va,vp,vm⟩)=iI ⟨va,vp,vm⟩ false:=if_pos ⟨hp,hm⟩
     simp only [go_sem,rdK,az,aM,aO,aL,xs2,xs1,xs0,aj,ae,Except.map,aD,aC,ao,ak,ai,ah,aF,opE,opD,opV,bj,bi,aX,aW,cx,aS,aR,aH,aG,cz,g9,bx,bw,aB,aA,fk,ez,eh,dw,dv,cO,cN,fU,dJ,dI,fS,fT,h0,h1,h2,h3,h4,h6,hv,hz,↓hX,hp,hm,Int.toNat_zero,iI,r0]
     exact bZ rfl rfl
    ·have hX:(if vp=emp∧vm=emp then iI ⟨va,vp,vm⟩ false else toV ⟨va,vp,vm⟩)=toV ⟨va,vp,vm⟩:=if_neg fun h=>hm h.2
     simp only [go_sem,rdK,az,aM,aO,aL,xs2,xs1,xs0,aj,ae,Except.map,aD,aC,ao,ak,ai,ah,aF,opE,opD,opV,bj,bi,aX,aW,cx,aS,aR,aH,aG,cz,g9,bx,bw,aB,aA,fk,ez,eh,dw,dv,cO,cN,fU,dJ,dI,fS,fT,h0,h1,h2,h3,h4,h6,hv,hz,↓hX,hp,hm,Int.toNat_zero,toV,r0]
     exact bZ rfl rfl
   ·have hX:(if vp=emp∧vm=emp then iI ⟨va,vp,vm⟩ false else toV ⟨va,vp,vm⟩)=toV ⟨va,vp,vm⟩:=if_neg fun h=>hp h.1
    simp only [go_sem,rdK,az,aM,aO,aL,xs2,xs1,xs0,aj,ae,Except.map,aD,aC,ao,ak,ai,ah,aF,opE,opD,opV,bj,bi,aX,aW,cx,aS,aR,aH,aG,cz,g9,bx,bw,aB,aA,fk,ez,eh,dw,dv,cO,cN,fU,dJ,dI,fS,fT,h0,h1,h2,h3,h4,h6,hv,hz,↓hX,hp,Int.toNat_zero,toV,r0]
    exact bZ rfl rfl
 ·have h7:iE 3 (atF l1 1 0)=false:=by
   cases hw:iE 3 (atF l1 1 0) with
   | false=>rfl
   | true=>exact absurd ⟨h6,hw⟩ h5
  rcases hv:valueR l1 with e | ⟨⟨va,vp,vm⟩,l3⟩
  ·simp only [go_sem,rdK,az,aM,aO,aL,xs2,xs1,xs0,aj,ae,Except.map,aD,aC,ao,ak,ai,ah,aF,opE,opD,opV,bj,bi,aX,aW,cx,aS,aR,aH,aG,cz,g9,bx,bw,aB,aA,fk,ez,eh,dw,dv,cO,cN,fU,dJ,dI,fS,fT,h0,h1,h2,h3,h4,h6,h7,hv,hz,Int.toNat_zero]
  ·by_cases hp:vp=⟨#[]⟩
   ·by_cases hm:vm=⟨#[]⟩
    ·have hX:(if vp=emp∧vm=emp then iI ⟨va,vp,vm⟩ false else toV ⟨va,vp,vm⟩)=iI ⟨va,vp,vm⟩ false:=if_pos ⟨hp,hm⟩
     simp only [go_sem,rdK,az,aM,aO,aL,xs2,xs1,xs0,aj,ae,Except.map,aD,aC,ao,ak,ai,ah,aF,opE,opD,opV,bj,bi,aX,aW,cx,aS,aR,aH,aG,cz,g9,bx,bw,aB,aA,fk,ez,eh,dw,dv,cO,cN,fU,dJ,dI,fS,fT,h0,h1,h2,h3,h4,h6,h7,hv,hz,↓hX,hp,hm,Int.toNat_zero,iI,r0]
     exact bZ rfl rfl
    ·have hX:(if vp=emp∧vm=emp then iI ⟨va,vp,vm⟩ false else toV ⟨va,vp,vm⟩)=toV ⟨va,vp,vm⟩:=if_neg fun h=>hm h.2
     simp only [go_sem,rdK,az,aM,aO,aL,xs2,xs1,xs0,aj,ae,Except.map,aD,aC,ao,ak,ai,ah,aF,opE,opD,opV,bj,bi,aX,aW,cx,aS,aR,aH,aG,cz,g9,bx,bw,aB,aA,fk,ez,eh,dw,dv,cO,cN,fU,dJ,dI,fS,fT,h0,h1,h2,h3,h4,h6,h7,hv,hz,↓hX,hp,hm,Int.toNat_zero,toV,r0]
     exact bZ rfl rfl
   ·have hX:(if vp=emp∧vm=emp then iI ⟨va,vp,vm⟩ false else toV ⟨va,vp,vm⟩)=toV ⟨va,vp,vm⟩:=if_neg fun h=>hp h.1
    simp only [go_sem,rdK,az,aM,aO,aL,xs2,xs1,xs0,aj,ae,Except.map,aD,aC,ao,ak,ai,ah,aF,opE,opD,opV,bj,bi,aX,aW,cx,aS,aR,aH,aG,cz,g9,bx,bw,aB,aA,fk,ez,eh,dw,dv,cO,cN,fU,dJ,dI,fS,fT,h0,h1,h2,h3,h4,h6,h7,hv,hz,↓hX,hp,Int.toNat_zero,toV,r0]
    exact bZ rfl rfl
end
theorem NS (l:List Tok) (h:RdOk l):pI l (operR l):=by
 rcases h1:au l with ⟨⟨⟨rn,rx,rs⟩,b⟩,l1⟩
 obtain ⟨e1,e2⟩:=oJ h1
 have k1:=oK h h1
 unfold operR
 rw [e1]
 cases b with
 | true =>
  rw [if_pos rfl] at e2
  rw [if_pos rfl,← e2]
  exact KW k1 h1
 | false =>
 rw [if_neg (by simp)] at e2
 rw [if_neg (by simp)]
 subst e2
 have sg:∀ s:ByteArray,¬atF l1 4 0=s→br s l1=(false,l1):=fun s hs=>by unfold br;rw [if_neg hs]
 by_cases h2:atF l1 4 0=⟨#[91]⟩
 ·rw [if_pos (show atF l1 4 0=AN from h2)]
  exact KV (k1.drop 1) h1 (by unfold br;rw [if_pos h2])
 rw [if_neg (show ¬atF l1 4 0=AN from h2)]
 by_cases h3:atF l1 4 0=⟨#[35]⟩
 ·rw [if_pos (show atF l1 4 0=bc from h3)]
  exact Ii (k1.drop 1) h1 (sg _ h2) (by unfold br;rw [if_pos h3])
 rw [if_neg (show ¬atF l1 4 0=bc from h3)]
 rcases h4:loR l1 with e | ⟨b,l2⟩
 ·exact KU h1 (sg _ h2) (sg _ h3) h4
 have k2:=KE k1 h4
 cases b with
 | true=>exact NR k2 h1 (sg _ h2) (sg _ h3) h4
 | false =>
  have hl:l2=l1:=by
   unfold loR at h4
   split at h4
   ·injection h4 with h4;injection h4 with _ h4;exact h4.symm
   ·split at h4
    ·cases h4
    ·injection h4 with h4;injection h4 with h4;cases h4
  subst hl
  simp only
  by_cases h5:¬atF l2 1 0=⟨#[]⟩∧iE 3 (atF l2 1 0)=true
  ·rw [if_pos (show ¬atF l2 1 0=emp∧iE 3 (atF l2 1 0)=true from h5)]
   exact Ij k1 h1 (sg _ h2) (sg _ h3) h4 h5.1 h5.2
  ·rw [if_neg (show ¬(¬atF l2 1 0=emp∧iE 3 (atF l2 1 0)=true) from h5)]
   exact KX k1 h1 (sg _ h2) (sg _ h3) h4 h5
def Ec:bq Tryz.prog 63 :=
 sT _ _ _ Tryz.func63 rfl (fun _ _=>by go_simp) (xs0) ((fun _ l=>RdOk l)) ((fun _ l=>(operR l).map fun (p:OpV×List Tok)=>(opV p.1,p.2))) (by rw [Tryz.ntmps63];decide) (fun _ l h=>NS l h)
theorem fA {id:Nat} {h:ag} {args:List AV}:(Ec).run id h args=mj 1 (az (xs0) ((fun _ l=>RdOk l))) (fun x=>cU (((fun _ l=>(operR l).map fun (p:OpV×List Tok)=>(opV p.1,p.2))) x.1 x.2)) id h args:=rfl
theorem fy {id:Nat} {h:ag} {args:List AV}:(Ec).pan id h args=lp (az (xs0) ((fun _ l=>RdOk l))) (fun x=>cU (((fun _ l=>(operR l).map fun (p:OpV×List Tok)=>(opV p.1,p.2))) x.1 x.2)) h args:=rfl
end
section
open Go.RowKit
open Ex (Xs xs0)
def fL (l:List OpV):Blk:=⟨true,38,15,(l.map opR.enc).map dj⟩
def sX (r:Except Int (List OpV)):RO:=match r with
 | .ok out=>.ret (.s (.l (.sl 1 0 out.length))) [some (rdK [])] [fL out]
 | .error e=>.pan (rC e)
theorem sY {out:List OpV}:sX (.ok out)=.ret (.s (.l (.sl 1 0 out.length))) [some (rdK [])] [fL out]:=rfl
theorem eP {e:Int}:sX (.error e)=.pan (rC e):=rfl
theorem yX {st:St} {l:List Tok} {out:List OpV} {X:dY} {b:Nat} (h1:aq st.h 0=some (rdK l)) (h2:aq st.h b=some (fL out)) (hn:b≠0) (hx:2≤st.nx) (hX:X.map (fun p=>cE st.t p.1)=X.map fun p=>p.2.ren fun j=>[0,b].getD j st.nx):Wk ⟨none,1⟩ st ⟨2,X,cu 0 [rdK l,fL out]⟩:=by
 refine Wk.ren [0,b] (by intro j hj;have:j=0:=(by simpa using hj);subst this;rfl) (Nat.le_refl _) (by simpa using fun h=>hn h.symm) (fun p hp=>List.map_inj_left.1 hX p hp) ?_
 intro p hp k hk
 simp only [cu,List.mem_cons,List.not_mem_nil,or_false] at hp
 rcases hp with rfl | rfl
 ·simp only [Option.some.injEq] at hk
  subst hk
  simp only [List.getD_eq_getElem?_getD,List.getElem?_cons_zero,Option.getD_some,h1]
  rfl
 ·simp only [Option.some.injEq] at hk
  subst hk
  simp only [List.getD_eq_getElem?_getD,List.getElem?_cons_succ,List.getElem?_cons_zero,Option.getD_some,h2]
  simp only [fL,Blk.ren,ff]
theorem NA {st:St} {l:List Tok} {out:List OpV} {b:Nat} (h1:aq st.h 0=some (rdK l)) (h2:aq st.h b=some (fL out)) (hn:b≠0) (hx:2≤st.nx) :
  vK 1 st (.ret (.s (.l (.sl 1 0 out.length))) [some (rdK l)] [fL out]) (some (.s (.l (.sl b 0 out.length)))):=by
 refine ⟨_,_,_,rfl,rfl,by simp,by simp [rdK],by simp [fL],?_⟩
 exact yX (st:=⟨st.nx,(0,.s (.l (.sl b 0 out.length)))::st.t,st.h⟩) h1 h2 hn hx rfl
theorem DO {out:List OpV} {q o:OpV} (h:out.getLast? = some q):qx out o=fE q o:=by unfold qx;rw [h]
theorem wb {l:List OpV} {o:OpV}:(l.map opR.enc).map dj++[[.v (.int .i64 o.kind),.v (.int .i64 o.r.n),.v (.bool o.r.x),.v (.bool o.r.sp),.v (.int .i64 o.m.n),.v (.bool o.m.x),.v (.bool o.m.sp),.v (.int .i64 o.md),.v (.int .i64 o.amt),.v (.int .i64 o.n),.v (.int .i64 o.add),.v (.string o.plus),.v (.string o.minus),.v (.bool o.lo),.v (.int .i64 o.mode)]]=((l++[o]).map opR.enc).map dj:=by
 rw [List.map_append,List.map_append];rfl
section
variable {out:List OpV} {l l1 l2:List Tok} {o q:OpV} {e:Int}
def QA (i:List OpV×List Tok):St:=⟨2,[(0,pv 0 0 0),(3,.s (.l (.sl 1 0 i.1.length)))],cu 0 [rdK i.2,fL i.1]⟩
end
theorem Pt (l0:List Tok) (h:RdOk l0):SW Tryz.prog ⟨none,1⟩ Tryz.f28.ntmps (Tryz.f28.body.getD .skip) ⟨1,aw 0 [pv 0 0 0],cu 0 [rdK l0]⟩ (wg Tryz.prog Tryz.f28.results.toList 1 (sX (ii l0))):=by
 refine ab (ctx:=[]) 4000 ?_
 rw [Tryz.ntmps28,Tryz.results28]
 simp only [Tryz.f28,Option.getD_some,aw]
 simp only [go_sem]
 refine dG (ι:=List OpV×List Tok) (fun i=>RdOk i.2∧oW i.1∧fO i.2.length i.1 i.2=ii l0) QA (fun i=>i.2.length) ([],l0) ⟨h,qg,rfl⟩ ?_ ?_
 ·exact (Wk.nil 3 38 15 rfl).trans (yX (b:=33) rfl rfl (by decide) (show 2≤33+1 by decide) rfl)
 rintro ⟨out,l⟩ ⟨hk,ho,hR⟩
 simp only at hk ho hR
 have hlm:l.length≤maxLen:=by have:=hk.few;unfold maxLen;omega
 have h8:=ho.few
 unfold QA
 refine ab (ctx:=[⟨_,lU⟩,⟨_,eM⟩,⟨_,Ec⟩,⟨_,GX⟩,⟨_,Mn⟩,⟨_,zI⟩,⟨_,p7⟩]) 4000 ?_
 cases hl0:l with
 | nil =>
  subst hl0
  rw [← hR,eX]
  simp only [go_sem,rdK,az,aM,aO,aL,xs2,xs1,xs0,aj,ae,Except.map,aD,aC,ao,ak,ai,ah,aF,opE,opD,opV,bj,bi,bb,ba,fA,fy,cY,cX,eU,eS,dD,dC,cw,cv,cG,eE,dg,fL,dJ,dI,sY,List.length_nil,Int.lt_irrefl,Int.ofNat_zero,Int.natCast_zero,Int.cast_ofNat_Int]
  exact NA (l:=[]) (out:=out) (b:=1) rfl rfl (by decide) (show 2≤130 by decide)
 | cons t r =>
 have hlpos:(0:Int)<l.length:=by rw [hl0,List.length_cons];omega
 have hlne:l≠[]:=by rw [hl0];simp
 rw [← hl0]
 obtain ⟨n,hn⟩:∃ n,l.length=n+1:=⟨r.length,by rw [hl0];rfl⟩
 rw [hn,eQ hlne] at hR
 have hl63:(out.map opR.enc).map dj=((out.map opR.enc).map dj):=rfl
 have hK:List.take out.length ((out.map opR.enc).map dj)=(out.map opR.enc).map dj:=List.take_of_length_le (by simp)
 have m1:out.length+1≤maxLen:=by unfold maxLen;omega
 have m2:(out.length+1)*120≤140737488355328:=by omega
 rcases hc1:(if out=[] then (.ok l:Except Int (List Tok)) else mustR aY l) with e | l1
 ·
  have hs:stepR out l=.error e:=by unfold stepR;rw [hc1]
  rw [← hR,hs]
  have hne:¬out=[]:=fun he=>by rw [if_pos he] at hc1;cases hc1
  rw [if_neg hne] at hc1
  have hpos:(0:Int)<out.length:=by have:=List.length_pos_iff.2 hne;omega
  simp only [go_sem,rdK,az,aM,aO,aL,xs2,xs1,xs0,aj,ae,Except.map,aD,aC,ao,ak,ai,ah,aF,opE,opD,opV,bj,bi,bb,ba,fA,fy,cY,cX,eU,eS,dD,dC,cw,cv,cG,eE,dg,fL,dJ,dI,eP,List.length_map,hlpos,hpos,show mustR (⟨#[44]⟩:ByteArray) l=.error e from hc1]
 have k1:RdOk l1:=by
  split at hc1
  ·injection hc1 with hc1;subst hc1;exact hk
  ·exact (eH lK hk hc1).1
 by_cases h88:out.length=8
 ·have hne:¬out=[]:=fun he=>by rw [he] at h88;simp at h88
  have hs:stepR out l=.error 3:=by unfold stepR;rw [hc1];simp only [if_pos h88]
  rw [← hR,hs]
  rw [if_neg hne] at hc1
  simp only [go_sem,rdK,az,aM,aO,aL,xs2,xs1,xs0,aj,ae,Except.map,aD,aC,ao,ak,ai,ah,aF,opE,opD,opV,bj,bi,bb,ba,fA,fy,cY,cX,eU,eS,dD,dC,cw,cv,cG,eE,dg,fL,dJ,dI,eP,List.length_map,hlpos,h88,show mustR (⟨#[44]⟩:ByteArray) l=.ok l1 from hc1,Int.reduceLT,Int.ofNat_lt,Nat.reduceLT,Int.cast_ofNat_Int]
 have h88I:¬(out.length:Int)=8:=by omega
 rcases ho2:operR l1 with e | ⟨o,l2⟩
 ·have hs:stepR out l=.error e:=by unfold stepR;rw [hc1];simp only [if_neg h88,ho2]
  rw [← hR,hs]
  by_cases hne:out=[]
  ·rw [if_pos hne] at hc1
   injection hc1 with hc1
   subst hc1 hne
   simp only [go_sem,rdK,az,aM,aO,aL,xs2,xs1,xs0,aj,ae,Except.map,aD,aC,ao,ak,ai,ah,aF,opE,opD,opV,bj,bi,bb,ba,fA,fy,cY,cX,eU,eS,dD,dC,cw,cv,cG,eE,dg,fL,dJ,dI,eP,List.length_map,List.length_nil,hlpos,hk,ho2,Int.lt_irrefl,Int.reduceEq,Int.cast_ofNat_Int]
  ·have hpos:(0:Int)<out.length:=by have:=List.length_pos_iff.2 hne;omega
   rw [if_neg hne] at hc1
   simp only [go_sem,rdK,az,aM,aO,aL,xs2,xs1,xs0,aj,ae,Except.map,aD,aC,ao,ak,ai,ah,aF,opE,opD,opV,bj,bi,bb,ba,fA,fy,cY,cX,eU,eS,dD,dC,cw,cv,cG,eE,dg,fL,dJ,dI,eP,List.length_map,hlpos,hpos,show mustR (⟨#[44]⟩:ByteArray) l=.ok l1 from hc1,h88I,k1,ho2]
 obtain ⟨hoO,k2,hlt2⟩:=Ca k1 ho2
 by_cases hch:fi o=0
 case neg =>
  have hs:stepR out l=.error (fi o):=by unfold stepR;rw [hc1];simp only [if_neg h88,ho2,if_pos hch]
  rw [← hR,hs]
  by_cases hne:out=[]
  ·rw [if_pos hne] at hc1
   injection hc1 with hc1
   subst hc1 hne
   simp only [go_sem,rdK,az,aM,aO,aL,xs2,xs1,xs0,aj,ae,Except.map,aD,aC,ao,ak,ai,ah,aF,opE,opD,opV,bj,bi,bb,ba,fA,fy,cY,cX,eU,eS,dD,dC,cw,cv,cG,eE,dg,fL,dJ,dI,eP,List.length_map,List.length_nil,hlpos,hk,ho2,hoO,hch,Int.lt_irrefl,Int.reduceEq,Int.cast_ofNat_Int]
  ·have hpos:(0:Int)<out.length:=by have:=List.length_pos_iff.2 hne;omega
   rw [if_neg hne] at hc1
   simp only [go_sem,rdK,az,aM,aO,aL,xs2,xs1,xs0,aj,ae,Except.map,aD,aC,ao,ak,ai,ah,aF,opE,opD,opV,bj,bi,bb,ba,fA,fy,cY,cX,eU,eS,dD,dC,cw,cv,cG,eE,dg,fL,dJ,dI,eP,List.length_map,hlpos,hpos,show mustR (⟨#[44]⟩:ByteArray) l=.ok l1 from hc1,h88I,k1,ho2,hoO,hch]
 have hS:stepR out l=if qx out o=true then .error 100 else .ok (out++[o],l2):=by unfold stepR;rw [hc1];simp only [if_neg h88,ho2,if_neg (not_not_intro hch)]
 have hlt:l2.length≤n:=by
  have:l1.length≤l.length:=by
   split at hc1
   ·injection hc1 with hc1;subst hc1;exact Nat.le_refl _
   ·have:=(eH lK hk hc1).2.1;omega
  omega
 have hnext:qx out o=false→oW (out++[o])∧fO l2.length (out++[o]) l2=ii l0:=fun hg=>by
  rw [if_neg (by rw [hg];simp)] at hS
  obtain ⟨g1,-⟩:=pT hk ho hS
  refine ⟨g1,?_⟩
  rw [← hR,hS]
  exact (oG k2 g1 hlt).symm
 by_cases hne:out=[]
 ·rw [if_pos hne] at hc1
  injection hc1 with hc1
  subst hc1 hne
  have hg:qx [] o=false:=rfl
  obtain ⟨g1,g2⟩:=hnext hg
  simp only [go_sem,rdK,az,aM,aO,aL,xs2,xs1,xs0,aj,ae,Except.map,aD,aC,ao,ak,ai,ah,aF,opE,opD,opV,bj,bi,bb,ba,fA,fy,cY,cX,eU,eS,dD,dC,cw,cv,cG,eE,dg,fL,dJ,dI,List.length_map,List.length_nil,hlpos,hk,ho2,hoO,eq_true hch,Int.lt_irrefl,Int.reduceEq,Int.cast_ofNat_Int,List.map_nil,List.take_nil]
  exact ⟨by decide,([o],l2),⟨k2,g1,g2⟩,by show l2.length<l.length;omega,yX (b:=562) rfl rfl (by decide) (show 2≤594 by decide) rfl⟩
 have hpos:(0:Int)<out.length:=by have:=List.length_pos_iff.2 hne;omega
 rw [if_neg hne] at hc1
 have hc1':mustR (⟨#[44]⟩:ByteArray) l=.ok l1:=hc1
 obtain ⟨q,hq⟩:∃ q,out.getLast? = some q:=by
  cases hg:out.getLast? with
  | none=>exact absurd (List.getLast?_eq_none_iff.1 hg) hne
  | some q=>exact ⟨q,rfl⟩
 obtain ⟨m,hm⟩:∃ m,out.length=m+1:=⟨out.length-1,by have:=List.length_pos_iff.2 hne;omega⟩
 have hqm:out[m]? = some q:=by
  rw [List.getLast?_eq_getElem?,hm] at hq
  simpa using hq
 have em:IntKind.i64.wrap ((out.length:Int)-1)=(m:Int):=by rw [IntKind.wrap_i64];omega
 have hmI:(m:Int)<(out.length:Int):=by omega
 have hmN:m<out.length:=by omega
 obtain ⟨qO,qc⟩:=ho.all q (List.mem_of_getElem? hqm)
 have hU:hdU (⟨#[44]⟩:ByteArray)=44:=rfl
 have hU1:(⟨#[44]⟩:ByteArray).size=1:=rfl
 have hG:qx out o=fE q o:=DO hq
 have hp1:gt (aT o) ⟨#[35]⟩=gt (aT o) bc:=rfl
 have fin:fE q o=false→∃ j:List OpV×List Tok,j=(out++[o],l2)∧(RdOk j.2∧oW j.1∧fO j.2.length j.1 j.2=ii l0)∧j.2.length<l.length:=fun hb=>by
  obtain ⟨g1,g2⟩:=hnext (by rw [hG];exact hb)
  exact ⟨_,rfl,⟨k2,g1,g2⟩,by show l2.length<l.length;omega⟩
 have el:(out++[o]).length=out.length+1:=by rw [List.length_append];rfl
 cases h1:gt (aT o) bc
 ·obtain ⟨j,rfl,j1,j2⟩:=fin (by unfold fE;rw [h1];rfl)
  simp only [go_sem,rdK,az,aM,aO,aL,xs2,xs1,xs0,aj,ae,Except.map,aD,aC,ao,ak,ai,ah,aF,opE,opD,opV,bj,bi,bb,ba,fA,fy,cY,cX,eU,eS,dD,dC,cw,cv,cG,eE,dg,fL,dJ,dI,List.length_map,hlpos,hpos,hc1',h88I,k1,ho2,hoO,eq_true hch,and_self,hp1,h1,hK,m1,m2]
  exact ⟨_,j1,j2,yX (b:=642) rfl (congrArg (fun r=>some (⟨true,38,15,r⟩:Blk)) wb) (by decide) (show 2≤674 by decide) (by rw [el];rfl)⟩
 by_cases h2:q.kind=5
 case neg =>
  obtain ⟨j,rfl,j1,j2⟩:=fin (by unfold fE;rw [beq_eq_false_iff_ne.2 h2];simp)
  simp only [go_sem,rdK,az,aM,aO,aL,xs2,xs1,xs0,aj,ae,Except.map,aD,aC,ao,ak,ai,ah,aF,opE,opD,opV,bj,bi,bb,ba,fA,fy,cY,cX,eU,eS,dD,dC,cw,cv,cG,eE,dg,fL,dJ,dI,List.length_map,hlpos,hpos,hc1',h88I,k1,ho2,hoO,eq_true hch,and_self,hp1,h1,em,hmI,hmN,hqm,h2,hK,m1,m2]
  exact ⟨_,j1,j2,yX (b:=754) rfl (congrArg (fun r=>some (⟨true,38,15,r⟩:Blk)) wb) (by decide) (show 2≤786 by decide) (by rw [el];rfl)⟩
 cases h3:(decide (0≤Lib.indexByte (aT q).data.toList 44))
 ·have hb:fE q o=true:=by unfold fE fH;rw [h1,h3,h2];rfl
  rw [hG,if_pos hb] at hS
  rw [← hR,hS]
  simp only [go_sem,rdK,az,aM,aO,aL,xs2,xs1,xs0,aj,ae,Except.map,aD,aC,ao,ak,ai,ah,aF,opE,opD,opV,bj,bi,bb,ba,fA,fy,cY,cX,eU,eS,dD,dC,cw,cv,cG,eE,dg,fL,dJ,dI,eP,List.length_map,hlpos,hpos,hc1',h88I,k1,ho2,hoO,eq_true hch,and_self,hp1,h1,em,hmI,hmN,hqm,eq_true h2,qO,qc,hU1,hU,h3]
 ·obtain ⟨j,rfl,j1,j2⟩:=fin (by unfold fE fH;rw [h3];simp)
  simp only [go_sem,rdK,az,aM,aO,aL,xs2,xs1,xs0,aj,ae,Except.map,aD,aC,ao,ak,ai,ah,aF,opE,opD,opV,bj,bi,bb,ba,fA,fy,cY,cX,eU,eS,dD,dC,cw,cv,cG,eE,dg,fL,dJ,dI,List.length_map,hlpos,hpos,hc1',h88I,k1,ho2,hoO,eq_true hch,and_self,hp1,h1,em,hmI,hmN,hqm,eq_true h2,qO,qc,hU1,hU,h3,hK,m1,m2]
  exact ⟨_,j1,j2,yX (b:=882) rfl (congrArg (fun r=>some (⟨true,38,15,r⟩:Blk)) wb) (by decide) (show 2≤914 by decide) (by rw [el];rfl)⟩
end
end Go.Proofs.YthcoegkfpinlfaaGreatDoor
