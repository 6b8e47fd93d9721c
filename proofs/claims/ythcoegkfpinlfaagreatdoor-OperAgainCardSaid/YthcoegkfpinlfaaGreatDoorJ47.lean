import Derived.Test.YthcoegkfpinlfaaGreatDoorJ34
import Derived.Test.YthcoegkfpinlfaaGreatDoorJ45
import Derived.Test.YthcoegkfpinlfaaGreatDoorJ46
set_option linter.unusedVariables false
set_option linter.unusedSimpArgs false
set_option maxRecDepth 100000
set_option maxHeartbeats 8000000
namespace Go.Proofs.YthcoegkfpinlfaaGreatDoor
open Go.RowKit
def nS:ByteArray:=(⟨#[120,48,44,32,91,120,49,44,32,119,50,44,32,115,120,116,119,32,35,51,93]⟩:ByteArray)
def sB:List Tok:=(dP (aa nS)).1
theorem sC:dP (aa nS)=(sB,21,0):=by
 show _=((dP (aa nS)).1,21,0)
 have h:(dP (aa nS)).2=(21,0):=by decide +kernel
 rw [← h]
theorem JB:RdOk sB:=DX sC
def vb:OpV:=⟨5,⟨1,true,false⟩,⟨2,false,false⟩,11,3,0,0,⟨#[]⟩,⟨#[]⟩,false,3⟩
def pg:List OpV:=[⟨1,⟨0,true,false⟩,⟨0,false,false⟩,0,0,0,0,⟨#[]⟩,⟨#[]⟩,false,0⟩,⟨5,⟨1,true,false⟩,⟨2,false,false⟩,11,3,0,0,⟨#[]⟩,⟨#[]⟩,false,3⟩]
theorem vc:iA pg=(nS,0):=by kernel_rfl
theorem xI:∀ o∈pg,okO o:=by
 intro o ho
 simp only [pg,List.mem_cons,List.not_mem_nil,or_false] at ho
 rcases ho with rfl | rfl<;>exact pG rfl rfl rfl
theorem AM:pg.map aN=pg:=by kernel_rfl
theorem Dr:ii sB=.ok pg:=by
 obtain ⟨ts,n,h1,-,h2⟩:=qI xI vc (by decide)
 rw [sC] at h1
 injection h1 with h1 h3
 rw [h1,h2,AM]
def Mk:bq Tryz.prog 21 :=
 mk1 _ _ _ Tryz.func21 rfl (fun _ _=>by go_simp) (bh) ((fun s=>s=nS)) ((fun _=>.ret (.s (j9 sB)))) (by rw [Tryz.ntmps21];decide) (fun s hs=>by
 refine ab (ctx:=[⟨_,Lx.rlexS⟩]) 4000 ?_
 rw [Tryz.ntmps21,Tryz.results21]
 simp only [Tryz.f21,Option.getD_some,aw]
 subst hs
 simp only [go_sem,Lx.rlex_run,Lx.rlex_pan,sC,sR,j9])
theorem Mm {id:Nat} {h:ag} {args:List AV}:(Mk).run id h args=bV (aI (bh) ((fun s=>s=nS))) ((fun _=>.ret (.s (j9 sB)))) h args:=rfl
theorem Ml {id:Nat} {h:ag} {args:List AV}:(Mk).pan id h args=ca (aI (bh) ((fun s=>s=nS))) ((fun _=>.ret (.s (j9 sB)))) h args:=rfl
def uw:bq Tryz.prog 6 :=
 mk0 _ _ _ Tryz.func6 rfl (fun _ _=>by go_simp) (True) ((.ret (bv true))) (fun _=>by
 refine ab (ctx:=[⟨_,Mk⟩,⟨_,yd⟩,⟨_,tu⟩]) 4000 ?_
 rw [Tryz.ntmps6,Tryz.results6]
 simp only [Tryz.f6,Option.getD_some,aw]
 have h1:=fun (x y:Operand)=>NT (x:=x) (y:=y) (a:=vb) (b:=vb)
 simp only [vb,decide_true] at h1
 have h2:=vc
 have h3:=xI
 have h4:=Dr
 have h5:(⟨#[120,48,44,32,91,120,49,44,32,119,50,44,32,115,120,116,119,32,35,51,93]⟩:ByteArray)=nS:=rfl
 simp only [go_sem,Mm,Ml,h5,j9,pB,pA,JB,i7,h4,ku,kt]
 refine ⟨⟨by decide,h3⟩,?_⟩
 simp only [go_sem,ku,kt,h2,j3]
 have h6:((pg.length:Nat):Int)=2:=rfl
 refine ⟨fun _=>?_,fun h=>absurd h6 h⟩
 have h7:pg[1]? = some vb:=rfl
 simp only [go_sem,h6,h7,vb,opR,opE,↓h1]
 skip)
theorem jd {id:Nat} {h:ag} {args:List AV}:(uw).run id h args=bV (jp (True)) (fun _=>(.ret (bv true))) h args:=rfl
theorem jc {id:Nat} {h:ag} {args:List AV}:(uw).pan id h args=ca (jp (True)) (fun _=>(.ret (bv true))) h args:=rfl
end Go.Proofs.YthcoegkfpinlfaaGreatDoor
