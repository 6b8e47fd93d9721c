import Derived.Test.YthcoegkfpinlfaaGreatDoorO33
set_option linter.unusedVariables false
set_option linter.unusedSimpArgs false
set_option maxRecDepth 100000
set_option maxHeartbeats 8000000
namespace Go.Proofs.YthcoegkfpinlfaaGreatDoor
open Go.RowKit
theorem QC:∀ k:Fin 6,(k.val=0→cV 3 6 (fc 8 (k.val:Int))=((cV 3 6 ⟨#[115,112,115,101,108]⟩).1,0))∧(k.val≠0→¬(cV 3 6 (fc 8 (k.val:Int))).2=0):=by decide +kernel
theorem Sj {o:OpV} (h:o.kind=9):ci o=fc 8 o.n:=by
 unfold ci
 rw [if_neg (by omega),if_neg (by omega),if_neg (by omega),if_neg (by omega),if_neg (by omega),if_neg (by omega),if_neg (by omega),if_pos h]
theorem Wt {o:OpV} (h:o.kind=9) (hc:iS o=0):0≤o.n∧o.n≤5:=by
 obtain ⟨hf,-,-⟩:=Kt hc
 obtain ⟨-,hk⟩:=C1 hf
 rcases hk with h1 | h1 | h1 | h1 | h1
 ·omega
 ·omega
 ·omega
 ·have h2:=h1.2.2
  rw [h] at h2
  have:Cs 9=5:=rfl
  omega
 ·omega
theorem Xi {o:OpV} (h:o.kind=9) (hc:iS o=0) (h0:o.n=0):cV 3 6 (ci o)=((cV 3 6 ⟨#[115,112,115,101,108]⟩).1,0):=by
 rw [Sj h,h0]
 exact (QC 0).1 rfl
theorem Ww {o:OpV} (h:o.kind=9) (hc:iS o=0) (h0:¬o.n=0):¬(cV 3 6 (ci o)).2=0:=by
 have hr:=Wt h hc
 rw [Sj h]
 have:=(QC ⟨o.n.toNat,by omega⟩).2 (by simp only;omega)
 rwa [show (((⟨o.n.toNat,by omega⟩:Fin 6).val:Nat):Int)=o.n by simp only;omega] at this
theorem Xa (o:OpV) (hO:okO o):SW Tryz.prog ⟨none,0⟩ Tryz.f16.ntmps (Tryz.f16.body.getD .skip) ⟨0,aN 0 [tOp.enc o],[]⟩ (fa Tryz.prog Tryz.f16.results.toList (.ret (opV (fm o)))):=by
 refine aC (ctx:=[⟨_,P7⟩,⟨_,LU⟩,⟨_,Q4⟩,⟨_,Kl⟩]) 4000 ?_
 rw [Tryz.ntmps16,Tryz.results16]
 simp only [Tryz.f16,Option.getD_some,aN]
 have hcs:=LQ o
 by_cases hc:iS o=0
 case neg=>simp only [go_sem,bk,opE,opD,bU,bT,opV,fI,fH,hO,hcs,hc,fm,not_false_eq_true]
 by_cases k3:o.kind=3
 ·cases hA:Nr o
  ·have hA':(decide (o.val.plus=emp)&&decide (o.val.minus=emp))=false:=hA
   simp only [go_sem,bk,opE,opD,bU,bT,iL,fN,opV,fI,fH,hO,hcs,eq_true hc,eq_true k3,Ff,G0,hA,hA',fm,not_true_eq_false,Bool.false_eq_true]
  ·have hA':(decide (o.val.plus=emp)&&decide (o.val.minus=emp))=true:=hA
   simp only [go_sem,bk,opE,opD,bU,bT,iL,fN,opV,fI,fH,hO,hcs,eq_true hc,eq_true k3,Ff,G0,hA,hA',fm,not_true_eq_false,r0,aS]
 by_cases k7:o.kind=7
 ·have k8:¬o.kind=8:=by omega
  by_cases hn:(cG 4 o.n).2=0
  ·simp only [go_sem,bk,opE,opD,bU,bT,opV,fI,fH,hO,hcs,eq_true hc,k3,eq_true k7,k8,DO,DN,cZ,eq_true hn,fm,not_true_eq_false]
  ·simp only [go_sem,bk,opE,opD,bU,bT,opV,fI,fH,hO,hcs,eq_true hc,k3,eq_true k7,k8,DO,DN,cZ,hn,fm,not_true_eq_false,not_false_eq_true,P2,r0,aS]
 by_cases k8:o.kind=8
 ·by_cases hn:(cG 7 o.n).2=0
  ·simp only [go_sem,bk,opE,opD,bU,bT,opV,fI,fH,hO,hcs,eq_true hc,k3,k7,eq_true k8,DO,DN,cZ,eq_true hn,fm,not_true_eq_false]
  ·simp only [go_sem,bk,opE,opD,bU,bT,opV,fI,fH,hO,hcs,eq_true hc,k3,k7,eq_true k8,DO,DN,cZ,hn,fm,not_true_eq_false,not_false_eq_true,P2,r0,aS]
 by_cases k9:o.kind=9
 ·have hs:(⟨#[115,112,115,101,108]⟩:ByteArray).size≤1099511627776:=by decide
  by_cases h0:o.n=0
  ·have e:=Xi k9 hc h0
   have e2:(cV 3 6 (ci o)).2=0:=by rw [e]
   have e1:(cV 3 6 (ci o)).1=(cV 3 6 ⟨#[115,112,115,101,108]⟩).1:=by rw [e]
   simp only [go_sem,bk,opE,opD,bU,bT,opV,fI,fH,hO,hcs,eq_true hc,k3,k7,k8,eq_true k9,eq_true h0,Kw,Kq,lW,hs,fm,not_true_eq_false,eq_true e2,e1,r0,aS]
  ·have e:=Ww k9 hc h0
   simp only [go_sem,bk,opE,opD,bU,bT,opV,fI,fH,hO,hcs,eq_true hc,k3,k7,k8,eq_true k9,h0,fm,not_true_eq_false,e]
 ·simp only [go_sem,bk,opE,opD,bU,bT,opV,fI,fH,hO,hcs,eq_true hc,k3,k7,k8,k9,fm,not_true_eq_false]
def Oi:cK Tryz.prog 16 :=
 mk1 _ _ _ Tryz.func16 rfl (fun _ _=>by go_simp) (tOp) (okO) ((fun o=>.ret (opV (fm o)))) (by rw [Tryz.ntmps16];decide) (fun o h=>Xa o h)
theorem RM {id:Nat} {h:aF} {args:List AV}:(Oi).run id h args=be (aV (tOp) (okO)) ((fun o=>.ret (opV (fm o)))) h args:=rfl
theorem Tg {id:Nat} {h:aF} {args:List AV}:(Oi).pan id h args=bi (aV (tOp) (okO)) ((fun o=>.ret (opV (fm o)))) h args:=rfl
end Go.Proofs.YthcoegkfpinlfaaGreatDoor
