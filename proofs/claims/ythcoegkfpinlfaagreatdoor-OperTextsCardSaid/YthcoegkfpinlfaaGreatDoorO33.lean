import Derived.Test.YthcoegkfpinlfaaGreatDoorO30
import Derived.Test.YthcoegkfpinlfaaGreatDoorO32
import Derived.Test.YthcoegkfpinlfaaGreatDoorO20
set_option linter.unusedVariables false
set_option linter.unusedSimpArgs false
set_option maxRecDepth 100000
set_option maxHeartbeats 8000000
namespace Go.Proofs.YthcoegkfpinlfaaGreatDoor
section
open Go.RowKit
theorem NC (o:OpV) (m:Int):gm o m=(decide (0≤o.md)&&(decide (o.md≤m)&&C5 o 0)):=by
 unfold gm C5
 rw [Bool.eq_iff_iff]
 simp only [Bool.and_eq_true,decide_eq_true_eq]
 omega
theorem TB (o:OpV):iY o=sQ o:=by
 unfold iY sQ
 by_cases h1:iO o.m=false
 ·rw [if_pos (.inl h1),if_pos (.inl h1)]
 by_cases h2:o.m.sp=true
 ·rw [if_pos (.inr (.inl h2)),if_pos (.inr (.inl h2))]
 by_cases h3 : -1≤o.amt∧o.amt≤63
 ·have c1:¬(iO o.m=false∨o.m.sp=true∨o.amt < -1∨63<o.amt):=by
   simp only [not_or]
   exact ⟨h1,h2,by omega,by omega⟩
  rw [if_neg c1]
  by_cases h4:o.md=0
  ·have d1:¬(o.md=1∨o.md=12):=by omega
   have d2:¬(o.md=7∨o.md=11):=by omega
   rw [if_neg d1,if_neg d2]
   split<;>rfl
  ·have:C5 o (-1)=true:=by unfold C5;rw [decide_eq_true_eq];exact ⟨h3.1,h3.2,.inl h4⟩
   have c2:¬(iO o.m=false∨o.m.sp=true∨C5 o (-1)=false):=by
    simp only [not_or]
    exact ⟨h1,h2,by rw [this];simp⟩
   rw [if_neg c2]
 ·rw [if_pos (show iO o.m=false∨o.m.sp=true∨o.amt < -1∨63<o.amt by omega)]
  have:C5 o (-1)=false:=by unfold C5;rw [decide_eq_false_iff_not];omega
  rw [if_pos (show iO o.m=false∨o.m.sp=true∨C5 o (-1)=false from .inr (.inr this))]
theorem OT {o:OpV} (h:¬(o.mode=1∨o.mode=2)∨o.lo=false):Dy o=Cu o:=by
 unfold Dy Cu
 cases h1:iO o.r
 ·rw [if_pos (.inl rfl)];rfl
 cases h2:o.r.x
 ·rw [if_pos (.inr (.inl rfl))];rfl
 cases h3:((o.r.n==31)==o.r.sp)
 ·rw [if_pos (.inr (.inr (.inl (by rw [bne,h3];rfl))))];rfl
 by_cases h4:o.mode<0
 ·rw [if_pos (.inr (.inr (.inr (.inl h4)))),decide_eq_false (show ¬0≤o.mode by omega)];rfl
 by_cases h5:3<o.mode
 ·rw [if_pos (.inr (.inr (.inr (.inr h5)))),decide_eq_false (show ¬o.mode≤3 by omega)];simp
 have h3':((o.r.n==31) !=o.r.sp)=false:=by rw [bne,h3];rfl
 rw [if_neg (by simp [h3',h4,h5]),decide_eq_true (show 0≤o.mode by omega),decide_eq_true (show o.mode≤3 by omega)]
 by_cases h6:o.mode=3
 ·rw [if_pos h6,decide_eq_false (by simp [h6]),TB];rfl
 ·rw [if_neg h6,decide_eq_true h6]
  rcases h with h | h
  ·have:o.mode=0:=by omega
   rw [this]
   cases o.lo<;>rfl
  ·rw [h];rfl
theorem Sg (o:OpV):sr o=(mL o&&decide (dU o=o)):=by
 unfold sr mL
 by_cases h1:o.kind=1
 ·have e:fO o=dU o:=by unfold fO dU;rw [if_pos h1,if_pos h1]
  rw [e,if_pos h1,if_pos h1,NC]
  by_cases hb:dU o=o
  ·rw [if_neg (by simp [hb]),decide_eq_true hb,Bool.and_true]
  ·rw [if_pos hb,decide_eq_false hb,Bool.and_false]
 rw [if_neg h1,if_neg h1]
 by_cases h2:o.kind=2
 ·rw [if_pos h2,if_pos h2,NC]
  cases hl:o.lo
  ·have e:fO o=dU o:=by unfold fO dU;rw [if_neg h1,if_pos h2,if_neg (by rw [hl];simp),if_neg h1,if_pos h2]
   rw [e]
   by_cases hb:dU o=o
   ·rw [if_neg (by simp [hb]),decide_eq_true hb,Bool.and_true,Bool.eq_iff_iff]
    simp only [Bool.and_eq_true,Bool.or_eq_true,decide_eq_true_eq,Bool.not_false,and_true]
    unfold C5
    simp only [decide_eq_true_eq]
    omega
   ·rw [if_pos hb,decide_eq_false hb,Bool.and_false]
  ·have e1:fO o=⟨o.kind,r0,r0,0,0,0,o.add,o.plus,o.minus,o.lo,0⟩:=by unfold fO;rw [if_neg h1,if_pos h2,if_pos hl]
   have e2:dU o=⟨o.kind,r0,r0,o.md,o.amt,0,o.add,o.plus,o.minus,o.lo,0⟩:=by unfold dU;rw [if_neg h1,if_pos h2]
   rw [e1,e2]
   by_cases hb:(⟨o.kind,r0,r0,0,0,0,o.add,o.plus,o.minus,o.lo,0⟩:OpV)=o
   ·have g1:o.md=0:=(congrArg OpV.md hb).symm
    have g2:o.amt=0:=(congrArg OpV.amt hb).symm
    have hb2:(⟨o.kind,r0,r0,o.md,o.amt,0,o.add,o.plus,o.minus,o.lo,0⟩:OpV)=o:=by rw [g1,g2];exact hb
    rw [if_neg (by simp [hb]),decide_eq_true hb2]
    unfold C5
    rw [g1,g2]
    rfl
   ·rw [if_pos hb]
    by_cases hb2:(⟨o.kind,r0,r0,o.md,o.amt,0,o.add,o.plus,o.minus,o.lo,0⟩:OpV)=o
    ·have:((decide (o.md=0)||(decide (o.md=1)&&!true))&&C5 o 0)=false:=by
      rw [Bool.not_true,Bool.and_false,Bool.or_false]
      by_cases g1:o.md=0
      ·have g2:¬o.amt=0:=by
        intro g2
        rw [g1,g2] at hb2
        exact hb hb2
       rw [decide_eq_true g1]
       unfold C5
       rw [decide_eq_false (by omega)]
       rfl
      ·rw [decide_eq_false g1];rfl
     rw [this];rfl
    ·rw [decide_eq_false hb2,Bool.and_false]
 rw [if_neg h2,if_neg h2]
 by_cases h3:o.kind=3
 ·have e:fO o=dU o:=by unfold fO dU;rw [if_neg h1,if_neg h2,if_pos h3,if_neg h1,if_neg h2,if_pos h3]
  rw [e,if_pos h3,if_pos h3]
  by_cases hb:dU o=o
  ·rw [if_neg (by simp [hb]),decide_eq_true hb];rfl
  ·rw [if_pos hb,decide_eq_false hb];rfl
 rw [if_neg h3,if_neg h3]
 by_cases h5:o.kind=5
 ·rw [if_neg (show ¬(o.kind=4∨o.kind=6∨o.kind=7∨o.kind=8∨o.kind=9) by omega),if_pos h5,if_pos h5]
  by_cases m3:o.mode=3
  ·have e:fO o=dU o:=by unfold fO dU;rw [if_neg h1,if_neg h2,if_neg h3,if_pos h5,if_neg (by omega),if_pos m3,if_neg h1,if_neg h2,if_neg h3,if_pos h5,if_pos m3]
   rw [e,OT (.inl (by omega))]
   by_cases hb:dU o=o
   ·rw [if_neg (by simp [hb]),decide_eq_true hb,Bool.and_true]
   ·rw [if_pos hb,decide_eq_false hb,Bool.and_false]
  ·have e2:dU o=⟨o.kind,o.r,r0,0,0,0,o.add,o.plus,o.minus,o.lo,o.mode⟩:=by unfold dU;rw [if_neg h1,if_neg h2,if_neg h3,if_pos h5,if_neg m3]
   by_cases m0:o.mode=0
   ·have e:fO o=dU o:=by unfold fO;rw [e2,if_neg h1,if_neg h2,if_neg h3,if_pos h5,if_pos m0]
    rw [e,OT (.inl (by omega))]
    by_cases hb:dU o=o
    ·rw [if_neg (by simp [hb]),decide_eq_true hb,Bool.and_true]
    ·rw [if_pos hb,decide_eq_false hb,Bool.and_false]
   ·have e1:fO o=⟨o.kind,o.r,r0,0,0,0,o.add,o.plus,o.minus,false,o.mode⟩:=by unfold fO;rw [if_neg h1,if_neg h2,if_neg h3,if_pos h5,if_neg m0,if_neg m3]
    rw [e1,e2]
    cases hl:o.lo
    ·rw [OT (.inr hl)]
     by_cases hb:(⟨o.kind,o.r,r0,0,0,0,o.add,o.plus,o.minus,false,o.mode⟩:OpV)=o
     ·rw [if_neg (by simp [hb]),decide_eq_true hb,Bool.and_true]
     ·rw [if_pos hb,decide_eq_false hb,Bool.and_false]
    ·rw [if_pos (by intro hb;have:=congrArg OpV.lo hb;rw [hl] at this;cases this)]
     have:Cu o=false:=by
      have z:(!o.lo||(o.mode==0))=false:=by rw [hl,beq_eq_false_iff_ne.2 m0];rfl
      unfold Cu
      rw [if_neg m3,z]
      split<;>rfl
     rw [this];rfl
 rw [if_neg h5,if_neg h5]
 by_cases hk:o.kind=4∨o.kind=6∨o.kind=7∨o.kind=8∨o.kind=9
 ·have e:fO o=dU o:=by unfold fO dU;rw [if_neg h1,if_neg h2,if_neg h3,if_neg h5,if_pos hk,if_neg h1,if_neg h2,if_neg h3,if_neg h5]
  have em:Cs o.kind=D7 o.kind:=by
   rcases hk with h | h | h | h | h<;>rw [h]<;>rfl
  rw [e,if_pos hk,em]
  by_cases hb:dU o=o
  ·rw [if_neg (by simp [hb]),decide_eq_true hb,Bool.and_true]
  ·rw [if_pos hb,decide_eq_false hb,Bool.and_false]
 ·rw [if_neg hk]
  have em:D7 o.kind = -1:=by
   unfold D7
   rw [if_neg (by omega),if_neg (by omega),if_neg (by omega),if_neg (by omega)]
  have:(decide (0≤o.n)&&decide (o.n≤D7 o.kind))=false:=by
   rw [em,Bool.and_eq_false_iff,decide_eq_false_iff_not,decide_eq_false_iff_not]
   omega
  rw [this]
  split<;>rfl
theorem LQ (o:OpV):Ky o=iS o:=by
 unfold Ky iS
 rw [Sg]
 by_cases h:mL o=true∧dU o=o
 ·have e1:(mL o&&decide (dU o=o))=true:=by rw [h.1,decide_eq_true h.2];rfl
  have c:¬(mL o=false∨¬dU o=o):=by rw [h.1];simp [h.2]
  rw [if_neg c,e1,if_neg (show ¬(true=false) by decide)]
 ·have h1:mL o=false∨¬dU o=o:=by
   cases ho:mL o
   ·exact .inl rfl
   ·exact .inr fun hb=>h ⟨ho,hb⟩
  rw [if_pos h1,if_pos]
  rcases h1 with h1 | h1
  ·rw [h1];rfl
  ·rw [decide_eq_false h1,Bool.and_false]
end
section
open Go.RowKit
theorem YX {n:Int} (h:0≤n):Ex.printF ⟨n,emp,emp⟩=(rS n,0):=by
 unfold Ex.printF rS
 rw [if_neg (by simp),if_neg (by simp),if_pos ⟨rfl,rfl⟩,if_neg (show ¬n<0 by omega)]
theorem aaf {n:Int} (h:0≤n∧n<100):lS ⟨n,emp,emp⟩:=⟨Nat.zero_le _,Nat.zero_le _,by simp only;omega,by simp only;omega⟩
def KY:cK Tryz.prog 84 :=
 mk1 _ _ _ Tryz.func84 rfl (fun _ _=>by go_simp) (cB DB) (lS) ((fun v=>.ret (sv (Ex.printF v).1))) (by rw [Tryz.ntmps84];decide) (fun v hv=>by
 refine aC (ctx:=[⟨_,Oa⟩]) 4000 ?_
 rw [Tryz.ntmps84,Tryz.results84]
 simp only [Tryz.f84,Option.getD_some,aN]
 obtain ⟨a,p,m⟩:=v
 simp only [go_sem,Sc,fN,cx,cw,cv,hv])
theorem sg {id:Nat} {h:aF} {args:List AV}:(KY).run id h args=be (aV (cB DB) (lS)) ((fun v=>.ret (sv (Ex.printF v).1))) h args:=rfl
theorem r7 {id:Nat} {h:aF} {args:List AV}:(KY).pan id h args=bi (aV (cB DB) (lS)) ((fun v=>.ret (sv (Ex.printF v).1))) h args:=rfl
def N8:cK Tryz.prog 85 :=
 mk2 _ _ _ Tryz.func85 rfl (fun _ _=>by go_simp) (aR .i64) (aR .i64) ((fun k n=>(cG k n).2=0∨0≤n∧n<100)) ((fun k n=>.ret (sv (fc k n)))) (by rw [Tryz.ntmps85];decide) (fun k n h=>by
 refine aC (ctx:=[⟨_,Q4⟩,⟨_,KY⟩]) 4000 ?_
 rw [Tryz.ntmps85,Tryz.results85]
 simp only [Tryz.f85,Option.getD_some,aN]
 by_cases g:(cG k n).2=0
 ·simp only [go_sem,DO,DN,cZ,eq_true g,fc]
 ·have h2:0≤n∧n<100:=h.resolve_left g
  have hi:=CL n
  have z1:1+(rS n).size≤maxLen:=by unfold maxLen;omega
  have e1:=YX h2.1
  have e2:=aaf h2
  simp only [go_sem,DO,DN,cZ,g,sg,r7,fN,aS,e1,e2,fc,nm,z1])
theorem sR {id:Nat} {h:aF} {args:List AV}:(N8).run id h args=be (bE (aR .i64) (aR .i64) ((fun k n=>(cG k n).2=0∨0≤n∧n<100))) (fun x=>((fun k n=>.ret (sv (fc k n)))) x.1 x.2) h args:=rfl
theorem sX {id:Nat} {h:aF} {args:List AV}:(N8).pan id h args=bi (bE (aR .i64) (aR .i64) ((fun k n=>(cG k n).2=0∨0≤n∧n<100))) (fun x=>((fun k n=>.ret (sv (fc k n)))) x.1 x.2) h args:=rfl
def Wj:cK Tryz.prog 83 :=
 mk1 _ _ _ Tryz.func83 rfl (fun _ _=>by go_simp) (tOp) (okO) ((fun o=>.ret (sv (qg o)))) (by rw [Tryz.ntmps83];decide) (fun o h=>by
 refine aC (ctx:=[⟨_,KY⟩]) 4000 ?_
 rw [Tryz.ntmps83,Tryz.results83]
 simp only [Tryz.f83,Option.getD_some,aN]
 have ho:=DM h
 have hz:=CE h
 unfold Ct prO at hz
 have z1:1+(Ex.printF o.val).1.size≤maxLen:=by unfold maxLen;omega
 have z2:6+(Ex.printF o.val).1.size≤maxLen:=by unfold maxLen;omega
 cases g:o.lo
 ·simp only [go_sem,bk,opE,g,sg,r7,fN,iL,ho,qg,nm,Ct,prO,Bool.false_eq_true,z1]
 ·simp only [go_sem,bk,opE,g,sg,r7,fN,iL,ho,qg,RS,Ct,prO,z2])
theorem Sm {id:Nat} {h:aF} {args:List AV}:(Wj).run id h args=be (aV (tOp) (okO)) ((fun o=>.ret (sv (qg o)))) h args:=rfl
theorem SK {id:Nat} {h:aF} {args:List AV}:(Wj).pan id h args=bi (aV (tOp) (okO)) ((fun o=>.ret (sv (qg o)))) h args:=rfl
def V5:cK Tryz.prog 82 :=
 mk2 _ _ _ Tryz.func82 rfl (fun _ _=>by go_simp) (tOp) (s9) ((fun o s=>o.md=0∨((cG 3 o.md).2=0∧(s=true∨0≤o.amt∧o.amt<100)))) ((fun o s=>.ret (sv (mC o s)))) (by rw [Tryz.ntmps82];decide) (fun o s h=>by
 refine aC (ctx:=[⟨_,N8⟩,⟨_,KY⟩]) 4000 ?_
 rw [Tryz.ntmps82,Tryz.results82]
 simp only [Tryz.f82,Option.getD_some,aN]
 have hn:=J4 3 o.md
 have hi:=CL o.amt
 have z1:2+(cG 3 o.md).1.size≤maxLen:=by unfold maxLen;omega
 have z2:2+(cG 3 o.md).1.size+2≤maxLen:=by unfold maxLen;omega
 have z3:2+(cG 3 o.md).1.size+2+(rS o.amt).size≤maxLen:=by unfold maxLen;omega
 by_cases g:o.md=0
 ·simp only [go_sem,bk,opE,eq_true g,mC,aS]
 obtain ⟨g1,g2⟩:=h.resolve_left g
 have e0:fc 3 o.md=(cG 3 o.md).1:=by unfold fc;rw [if_pos g1]
 cases s
 ·have h2:0≤o.amt∧o.amt<100:=by
   rcases g2 with h | h
   ·cases h
   ·exact h
  have e1:=YX h2.1
  have e2:=aaf h2
  simp only [go_sem,bk,opE,g,sR,sX,g1,true_or,e0,sg,r7,fN,aS,e1,e2,mC,lY,Rh,Bool.false_eq_true,z1,z2,z3]
 ·simp only [go_sem,bk,opE,g,sR,sX,g1,true_or,e0,mC,lY,z1])
theorem DW {id:Nat} {h:aF} {args:List AV}:(V5).run id h args=be (bE (tOp) (s9) ((fun o s=>o.md=0∨((cG 3 o.md).2=0∧(s=true∨0≤o.amt∧o.amt<100))))) (fun x=>((fun o s=>.ret (sv (mC o s)))) x.1 x.2) h args:=rfl
theorem DU {id:Nat} {h:aF} {args:List AV}:(V5).pan id h args=bi (bE (tOp) (s9) ((fun o s=>o.md=0∨((cG 3 o.md).2=0∧(s=true∨0≤o.amt∧o.amt<100))))) (fun x=>((fun o s=>.ret (sv (mC o s)))) x.1 x.2) h args:=rfl
def aloneM (o:OpV):Bool:=(o.kind==5)&&((o.mode==0)&&((decide (o.add=0)&&(decide (o.plus=emp)&&decide (o.minus=emp)))&&!o.lo))
theorem XH (o:OpV):SW Tryz.prog ⟨none,0⟩ Tryz.f36.ntmps (Tryz.f36.body.getD .skip) ⟨0,aN 0 [tOp.enc o],[]⟩ (fa Tryz.prog Tryz.f36.results.toList (.ret (bv (aloneM o)))):=by
 refine aC (ctx:=[]) 4000 ?_
 rw [Tryz.ntmps36,Tryz.results36]
 simp only [Tryz.f36,Option.getD_some,aN]
 by_cases h1:o.kind=5
 case neg =>
  have e:aloneM o=false:=by unfold aloneM;rw [beq_eq_false_iff_ne.2 h1];rfl
  simp only [go_sem,bk,opE,h1,e]
 by_cases h2:o.mode=0
 case neg =>
  have e:aloneM o=false:=by unfold aloneM;rw [beq_eq_false_iff_ne.2 h2];simp
  simp only [go_sem,bk,opE,eq_true h1,h2,e]
 by_cases v1:o.add=0
 case neg =>
  have e:aloneM o=false:=by unfold aloneM;rw [decide_eq_false v1];simp
  simp only [go_sem,bk,opE,eq_true h1,eq_true h2,fi,lT,sI,we,sJ,v1,Bool.false_and,e]
 by_cases v2:o.plus=emp
 case neg =>
  have e:aloneM o=false:=by unfold aloneM;rw [decide_eq_false v2];simp
  simp only [go_sem,bk,opE,eq_true h1,eq_true h2,fi,lT,sI,we,sJ,aS,eq_true v1,v2,Bool.false_and,e]
 by_cases v3:o.minus=emp
 case neg =>
  have e:aloneM o=false:=by unfold aloneM;rw [decide_eq_false v3];simp
  simp only [go_sem,bk,opE,eq_true h1,eq_true h2,fi,lT,sI,we,sJ,aS,eq_true v1,eq_true v2,v3,Bool.false_and,e]
 have e:aloneM o = !o.lo:=by unfold aloneM;rw [h1,h2,decide_eq_true v1,decide_eq_true v2,decide_eq_true v3];rfl
 simp only [go_sem,bk,opE,eq_true h1,eq_true h2,fi,lT,sI,we,sJ,aS,eq_true v1,eq_true v2,eq_true v3,e]
def N5:cK Tryz.prog 36 :=
 mk1 _ _ _ Tryz.func36 rfl (fun _ _=>by go_simp) (tOp) ((fun _=>True)) ((fun o=>.ret (bv (aloneM o)))) (by rw [Tryz.ntmps36];decide) (fun o _=>XH o)
theorem D6 {id:Nat} {h:aF} {args:List AV}:(N5).run id h args=be (aV (tOp) ((fun _=>True))) ((fun o=>.ret (bv (aloneM o)))) h args:=rfl
theorem DY {id:Nat} {h:aF} {args:List AV}:(N5).pan id h args=bi (aV (tOp) ((fun _=>True))) ((fun o=>.ret (bv (aloneM o)))) h args:=rfl
theorem O2 {n:Int} (h0:0<n) (h1:n≤12):(cG 3 n).2=0:=by
 have:∀ k:Fin 13,k.val≠0→(cG 3 (k.val:Int)).2=0:=by decide +kernel
 have:=this ⟨n.toNat,by omega⟩ (by simp only;omega)
 rwa [show (((⟨n.toNat,by omega⟩:Fin 13).val:Nat):Int)=n by simp only;omega] at this
theorem aak {o:OpV} (h:iY o=true):0<o.md∧o.md≤12:=by
 unfold iY at h
 split at h
 ·cases h
 split at h
 ·omega
 split at h
 ·omega
 ·cases h
theorem VQ {o:OpV} (h:fO o=o) (h5:o.kind=5) (hm:o.mode=1∨o.mode=2):o.lo=false:=by
 have e:fO o=⟨o.kind,o.r,r0,0,0,0,o.add,o.plus,o.minus,false,o.mode⟩:=by
  unfold fO
  rw [if_neg (by omega),if_neg (by omega),if_neg (by omega),if_pos h5,if_neg (by omega),if_neg (by omega)]
 rw [e] at h
 exact (congrArg OpV.lo h).symm
theorem Yq (a b:ByteArray):a++⟨#[44,32,35]⟩++b=a++lY++(nm++b):=by
 rw [show (⟨#[44,32,35]⟩:ByteArray)=lY++nm from rfl,← ByteArray.append_assoc]
 exact ByteArray.append_assoc
theorem Ym (a b:ByteArray):a++⟨#[93,44,32,35]⟩++b=a++XF++(nm++b):=by
 rw [show (⟨#[93,44,32,35]⟩:ByteArray)=XF++nm from rfl,← ByteArray.append_assoc]
 exact ByteArray.append_assoc
end
end Go.Proofs.YthcoegkfpinlfaaGreatDoor
