import Derived.Test.YthcoegkfpinlfaaGreatDoorO24
import Derived.Test.YthcoegkfpinlfaaGreatDoorO25
set_option linter.unusedVariables false
set_option linter.unusedSimpArgs false
set_option maxRecDepth 100000
set_option maxHeartbeats 8000000
namespace Go.Proofs.YthcoegkfpinlfaaGreatDoor
open Go.RowKit
theorem Rw {r:CF} (h:¬(cA r).2=0):(cA r).1=emp:=by
 unfold cA at h ⊢
 by_cases c:r.n<0∨31<r.n∨(r.sp=true∧¬r.n=31)
 ·rw [if_pos c]
 ·exfalso
  apply h
  rw [if_neg c]
  repeat' split
  all_goals rfl
theorem iU (r:CF):(cA r).1.size≤4:=by
 have h1:=D5 r.n
 unfold cA
 repeat' split
 all_goals first
  | decide
  | (simp only [ByteArray.size_append];first | (have:xS.size=1:=rfl;omega) | (have:wS.size=1:=rfl;omega))
theorem J4 (k n:Int):(cG k n).1.size≤40:=by
 by_cases h:(cG k n).2=0
 ·have e:cG k n=((cG k n).1,0):=by rw [← h]
  exact (there e).2.2
 ·have:(cG k n).1=emp:=by
   unfold cG at h ⊢
   repeat' split
   all_goals first
    | rfl
    | (rename_i h1 h2;exact Rw (by simpa [h1,h2] using h))
    | (exfalso;apply h;simp_all)
  rw [this]
  decide
theorem CL (n:Int):(rS n).size≤20:=Ex.decS_size _
theorem SX (v:Val):(Ex.printF v).1.size≤v.plus.size+v.minus.size+30:=by
 have h1:=Ex.decS_size v.add.toNat
 have h2:=Ex.signS_size v.add
 have h3:emp.size=0:=rfl
 have h4:(⟨#[48]⟩:ByteArray).size=1:=rfl
 have h5:(⟨#[45]⟩:ByteArray).size=1:=rfl
 unfold Ex.printF
 repeat' split
 all_goals simp only [ByteArray.size_append]
 all_goals omega
theorem CE {o:OpV} (h:okO o):(Ct o).size≤2199023255582:=by
 have:=SX o.val
 obtain ⟨⟨h1,h2⟩,-⟩:=h
 have e1:o.val.plus.size=o.plus.size:=rfl
 have e2:o.val.minus.size=o.minus.size:=rfl
 unfold Ct prO
 omega
theorem CC {o:OpV} (h:okO o):(qg o).size≤2199023255590:=by
 have:=CE h
 have h4:RS.size=6:=rfl
 have h5:nm.size=1:=rfl
 unfold qg
 split<;>simp only [ByteArray.size_append]<;>omega
theorem me (o:OpV) (s:Bool):(mC o s).size≤64:=by
 have h1:=J4 3 o.md
 have h2:=CL o.amt
 have h3:emp.size=0:=rfl
 have h4:lY.size=2:=rfl
 have h5:Rh.size=2:=rfl
 unfold mC
 repeat' split
 all_goals try simp only [ByteArray.size_append]
 all_goals omega
def lowS:cK Tryz.prog 51 :=
 mk1 _ _ _ Tryz.func51 rfl (fun _ _=>by go_simp) (tOp) (okO) ((fun o=>.ret (sv (qg o)))) (by rw [Tryz.ntmps51];decide) (fun o h=>by
 refine aC (ctx:=[⟨_,RB⟩]) 4000 ?_
 rw [Tryz.ntmps51,Tryz.results51]
 simp only [Tryz.f51,Option.getD_some,aN]
 have ho:=DM h
 have hz:=CE h
 unfold Ct prO at hz
 have z1:1+(Ex.printF o.val).1.size≤maxLen:=by unfold maxLen;omega
 have z2:6+(Ex.printF o.val).1.size≤maxLen:=by unfold maxLen;omega
 cases g:o.lo
 ·simp only [go_sem,bk,opE,g,KI,KJ,fN,iL,ho,qg,nm,Ct,prO,Bool.false_eq_true,z1]
 ·simp only [go_sem,bk,opE,g,KI,KJ,fN,iL,ho,qg,RS,Ct,prO,z2])
theorem Kf {id:Nat} {h:aF} {args:List AV}:(lowS).run id h args=be (aV (tOp) (okO)) ((fun o=>.ret (sv (qg o)))) h args:=rfl
theorem J7 {id:Nat} {h:aF} {args:List AV}:(lowS).pan id h args=bi (aV (tOp) (okO)) ((fun o=>.ret (sv (qg o)))) h args:=rfl
def RZ:cK Tryz.prog 50 :=
 mk2 _ _ _ Tryz.func50 rfl (fun _ _=>by go_simp) (tOp) (s9) ((fun o s=>o.md=0∨s=true∨0≤o.amt∧o.amt<100)) ((fun o s=>.ret (sv (mC o s)))) (by rw [Tryz.ntmps50];decide) (fun o s h=>by
 refine aC (ctx:=[⟨_,SD⟩,⟨_,Z8⟩]) 4000 ?_
 rw [Tryz.ntmps50,Tryz.results50]
 simp only [Tryz.f50,Option.getD_some,aN]
 have hn:=J4 3 o.md
 have hi:=CL o.amt
 have z1:2+(cG 3 o.md).1.size≤maxLen:=by unfold maxLen;omega
 have z2:2+(cG 3 o.md).1.size+2≤maxLen:=by unfold maxLen;omega
 have z3:2+(cG 3 o.md).1.size+2+(rS o.amt).size≤maxLen:=by unfold maxLen;omega
 by_cases g:o.md=0
 ·simp only [go_sem,bk,opE,eq_true g,mC,aS]
 cases s
 ·have h2:0≤o.amt∧o.amt<100:=by
   rcases h with h | h | h
   ·exact absurd h g
   ·cases h
   ·exact h
  simp only [go_sem,bk,opE,g,CW,C0,cZ,Zf,YK,h2,mC,lY,Rh,Bool.false_eq_true,z1,z2,z3]
 ·simp only [go_sem,bk,opE,g,CW,C0,cZ,mC,lY,z1])
theorem J9 {id:Nat} {h:aF} {args:List AV}:(RZ).run id h args=be (bE (tOp) (s9) ((fun o s=>o.md=0∨s=true∨0≤o.amt∧o.amt<100))) (fun x=>((fun o s=>.ret (sv (mC o s)))) x.1 x.2) h args:=rfl
theorem Kc {id:Nat} {h:aF} {args:List AV}:(RZ).pan id h args=bi (bE (tOp) (s9) ((fun o s=>o.md=0∨s=true∨0≤o.amt∧o.amt<100))) (fun x=>((fun o s=>.ret (sv (mC o s)))) x.1 x.2) h args:=rfl
def Us:cK Tryz.prog 53 :=
 mk2 _ _ _ Tryz.func53 rfl (fun _ _=>by go_simp) (aR .i64) (aR .i64) ((fun k n=>(cG k n).2=0∨0≤n∧n<100)) ((fun k n=>.ret (sv (fc k n)))) (by rw [Tryz.ntmps53];decide) (fun k n h=>by
 refine aC (ctx:=[⟨_,SD⟩,⟨_,fmtS⟩]) 4000 ?_
 rw [Tryz.ntmps53,Tryz.results53]
 simp only [Tryz.f53,Option.getD_some,aN]
 by_cases g:(cG k n).2=0
 ·simp only [go_sem,CW,C0,cZ,eq_true g,fc]
 ·have h2:0≤n∧n<100:=h.resolve_left g
  have hi:=CL n
  have z1:1+(rS n).size≤maxLen:=by unfold maxLen;omega
  simp only [go_sem,CW,C0,cZ,g,fmt_run,fmt_pan,h2,fc,nm,z1])
theorem JH {id:Nat} {h:aF} {args:List AV}:(Us).run id h args=be (bE (aR .i64) (aR .i64) ((fun k n=>(cG k n).2=0∨0≤n∧n<100))) (fun x=>((fun k n=>.ret (sv (fc k n)))) x.1 x.2) h args:=rfl
theorem JD {id:Nat} {h:aF} {args:List AV}:(Us).pan id h args=bi (bE (aR .i64) (aR .i64) ((fun k n=>(cG k n).2=0∨0≤n∧n<100))) (fun x=>((fun k n=>.ret (sv (fc k n)))) x.1 x.2) h args:=rfl
theorem Kt {o:OpV} (h:iS o=0):sr o=true∧(prO o).2=0∧(o.kind=3→o.plus=emp∨mB 3 o.plus=false):=by
 unfold iS at h
 split at h
 ·cases h
 rename_i h1
 split at h
 ·rename_i h2;exact absurd h h2
 rename_i h2
 split at h
 ·cases h
 rename_i h3
 refine ⟨by simpa using h1,by simpa using h2,fun hk=>?_⟩
 by_cases e:o.plus=emp
 ·exact .inl e
 ·cases hw:mB 3 o.plus
  ·exact .inr rfl
  ·exact absurd ⟨hk,e,hw⟩ h3
theorem KP {o:OpV} {m:Int} (h:gm o m=true):(0≤o.md∧o.md≤m)∧0≤o.amt∧o.amt<100:=by
 unfold gm at h
 rw [decide_eq_true_eq] at h
 omega
theorem C1 {o:OpV} (h:sr o=true):fO o=o∧((o.kind=1∧iO o.r=true∧gm o 12=true)∨(o.kind=2∧gm o 1=true)∨o.kind=3∨((o.kind=4∨o.kind=6∨o.kind=7∨o.kind=8∨o.kind=9)∧0≤o.n∧o.n≤Cs o.kind)∨(o.kind=5∧Dy o=true)):=by
 unfold sr at h
 split at h
 ·cases h
 rename_i h0
 refine ⟨by simpa using h0,?_⟩
 split at h
 ·rename_i h1
  rw [Bool.and_eq_true] at h
  exact .inl ⟨h1,h⟩
 split at h
 ·rename_i h1
  exact .inr (.inl ⟨h1,h⟩)
 split at h
 ·rename_i h1
  exact .inr (.inr (.inl h1))
 split at h
 ·rename_i h1
  rw [Bool.and_eq_true,decide_eq_true_eq,decide_eq_true_eq] at h
  exact .inr (.inr (.inr (.inl ⟨h1,h⟩)))
 split at h
 ·rename_i h1
  exact .inr (.inr (.inr (.inr ⟨h1,h⟩)))
 ·cases h
theorem M4 {o:OpV} (h:Dy o=true):iO o.r=true∧o.r.x=true∧(o.mode=0∨o.mode=1∨o.mode=2∨(o.mode=3∧iY o=true)):=by
 unfold Dy at h
 simp only [Bool.and_eq_true,decide_eq_true_eq,Bool.or_eq_true] at h
 obtain ⟨⟨⟨⟨⟨h1,h2⟩,h3⟩,h4⟩,h5⟩,h6⟩:=h
 refine ⟨h1,h2,?_⟩
 rcases h6 with h6 | h6
 ·omega
 ·by_cases e:o.mode=3
  ·exact .inr (.inr (.inr ⟨e,h6⟩))
  ·omega
theorem P8 {o:OpV} (h:iY o=true) : -1≤o.amt∧o.amt<100:=by
 unfold iY at h
 split at h
 ·cases h
 ·rename_i h1
  simp only [not_or] at h1
  omega
theorem Qx {n:Int} (h0:0≤n) (h1:n≤15):(cG 2 n).2=0:=by
 have:∀ k:Fin 16,(cG 2 (k.val:Int)).2=0:=by decide +kernel
 have:=this ⟨n.toNat,by omega⟩
 rwa [show (((⟨n.toNat,by omega⟩:Fin 16).val:Nat):Int)=n by simp only;omega] at this
theorem Sa {n:Int} (h0:0≤n) (h1:n≤32767):(cG 6 n).2=0:=by
 unfold cG
 rw [if_neg (by decide)]
 split
 ·rfl
 ·rw [if_pos ⟨rfl,h0,by omega⟩]
theorem mem_sw (o:OpV) (hO:okO o) (hm:Dy o=true):SW Tryz.prog ⟨none,0⟩ Tryz.f54.ntmps (Tryz.f54.body.getD .skip) ⟨0,aN 0 [tOp.enc o],[]⟩ (fa Tryz.prog Tryz.f54.results.toList (.ret (sv (fE o)))):=by
 refine aC (ctx:=[⟨_,Og⟩,⟨_,lowS⟩,⟨_,RZ⟩]) 4000 ?_
 rw [Tryz.ntmps54,Tryz.results54]
 simp only [Tryz.f54,Option.getD_some,aN]
 obtain ⟨m1,m2,m3⟩:=M4 hm
 have hR:=iU o.r
 have hM:=iU o.m
 have hL:=CC hO
 have hX:=me o (o.amt == -1)
 obtain ⟨a,ha⟩:∃ a,lZ o.r=a:=⟨_,rfl⟩
 obtain ⟨b,hb⟩:∃ b,lZ o.m=b:=⟨_,rfl⟩
 obtain ⟨l,hl⟩:∃ l,qg o=l:=⟨_,rfl⟩
 obtain ⟨x,hx⟩:∃ x,mC o (o.amt == -1)=x:=⟨_,rfl⟩
 rw [show (cA o.r).1=a from ha] at hR
 rw [show (cA o.m).1=b from hb] at hM
 rw [hl] at hL
 rw [hx] at hX
 have z1:1+a.size≤maxLen:=by unfold maxLen;omega
 have z2:1+a.size+2≤maxLen:=by unfold maxLen;omega
 have z3:1+a.size+2+l.size≤maxLen:=by unfold maxLen;omega
 have z4:1+a.size+2+l.size+2≤maxLen:=by unfold maxLen;omega
 have z5:1+a.size+3≤maxLen:=by unfold maxLen;omega
 have z6:1+a.size+3+l.size≤maxLen:=by unfold maxLen;omega
 have z7:1+a.size+2+b.size≤maxLen:=by unfold maxLen;omega
 have z8:1+a.size+2+b.size+1≤maxLen:=by unfold maxLen;omega
 have z9:1+a.size+2+b.size+x.size≤maxLen:=by unfold maxLen;omega
 have z10:1+a.size+2+b.size+x.size+1≤maxLen:=by unfold maxLen;omega
 have z11:1+a.size+1≤maxLen:=by unfold maxLen;omega
 have z12:1+a.size+2+l.size+1≤maxLen:=by unfold maxLen;omega
 by_cases e1:o.mode=1
 ·simp only [go_sem,bk,opE,opD,bU,bT,cW,fT,fR,Kf,J7,hO,fE,ha,hl,brS,lY,ekbS,eq_true e1,z1,z2,z3,z4]
 by_cases e2:o.mode=2
 ·simp only [go_sem,bk,opE,opD,bU,bT,cW,fT,fR,Kf,J7,hO,fE,ha,hl,brS,XF,e1,eq_true e2,z1,z5,z6]
 by_cases e3:o.mode=3
 ·have hi:iY o=true:=by
   rcases m3 with h | h | h | h
   ·omega
   ·omega
   ·omega
   ·exact h.2
  have hamt:=P8 hi
  by_cases e4:o.amt = -1
  ·by_cases e5:o.md=1
   ·simp only [go_sem,bk,opE,opD,bU,bT,cW,fT,fR,fE,ha,hb,brS,lY,ekS,e1,e2,eq_true e3,eq_true e4,eq_true e5,z1,z2,z7,z8,and_self]
   ·simp only [go_sem,bk,opE,opD,bU,bT,cW,fT,fR,fE,ha,hb,e1,e2,eq_true e3,eq_true e4,e5,z1,false_and]
    refine dc (ctx:=[⟨_,Og⟩,⟨_,RZ⟩]) mixed [] (by kernel_rfl) ?_
    simp only [go_sem,bk,opE,opD,bU,bT,cW,fT,fR,J9,Kc,ha,hb,hx,brS,lY,ekS,eq_true e4,z2,z7,z9,z10,decide_true,true_or,or_true]
  ·have hq:0≤o.amt∧o.amt<100:=by omega
   by_cases e5:o.md=1
   ·skip
    simp only [go_sem,bk,opE,opD,bU,bT,cW,fT,fR,fE,ha,hb,e1,e2,eq_true e3,e4,eq_true e5,z1,and_false]
    refine dc (ctx:=[⟨_,Og⟩,⟨_,RZ⟩]) mixed [] (by kernel_rfl) ?_
    simp only [go_sem,bk,opE,opD,bU,bT,cW,fT,fR,J9,Kc,ha,hb,hx,brS,lY,ekS,e4,hq,z2,z7,z9,z10,decide_false,or_true]
   ·skip
    simp only [go_sem,bk,opE,opD,bU,bT,cW,fT,fR,fE,ha,hb,e1,e2,eq_true e3,e4,e5,z1,and_false,false_and]
    refine dc (ctx:=[⟨_,Og⟩,⟨_,RZ⟩]) mixed [] (by kernel_rfl) ?_
    simp only [go_sem,bk,opE,opD,bU,bT,cW,fT,fR,J9,Kc,ha,hb,hx,brS,lY,ekS,e4,hq,z2,z7,z9,z10,decide_false,or_true]
 by_cases v1:o.add=0
 case neg=>simp only [go_sem,bk,opE,opD,bU,bT,cW,fT,fR,Kf,J7,hO,fE,ha,hl,brS,lY,ekS,e1,e2,e3,fi,lT,sI,we,sJ,v1,Bool.false_and,false_and,z1,z2,z3,z12]
 by_cases v2:o.plus=emp
 case neg=>simp only [go_sem,bk,opE,opD,bU,bT,cW,fT,fR,Kf,J7,hO,fE,ha,hl,brS,lY,ekS,e1,e2,e3,fi,lT,sI,we,sJ,aS,eq_true v1,v2,Bool.false_and,false_and,and_false,z1,z2,z3,z12]
 by_cases v3:o.minus=emp
 case neg=>simp only [go_sem,bk,opE,opD,bU,bT,cW,fT,fR,Kf,J7,hO,fE,ha,hl,brS,lY,ekS,e1,e2,e3,fi,lT,sI,we,sJ,aS,eq_true v1,eq_true v2,v3,Bool.false_and,false_and,and_false,z1,z2,z3,z12]
 cases v4:o.lo
 ·simp only [go_sem,bk,opE,opD,bU,bT,cW,fT,fR,fE,ha,hl,brS,ekS,e1,e2,e3,fi,lT,sI,we,sJ,aS,eq_true v1,eq_true v2,eq_true v3,v4,and_self,z1,z11]
 ·have eL:(⟨o.kind,o.r,o.m,o.md,o.amt,o.n,o.add,o.plus,o.minus,true,o.mode⟩:OpV)=o:=by rw [← v4]
  simp only [go_sem,bk,opE,opD,bU,bT,cW,fT,fR,Kf,J7,hO,fE,ha,hl,brS,lY,ekS,e1,e2,e3,fi,lT,sI,we,sJ,aS,eq_true v1,eq_true v2,eq_true v3,v4,eL,and_false,Bool.true_eq_false,z1,z2,z3,z12]
def memS:cK Tryz.prog 54 :=
 mk1 _ _ _ Tryz.func54 rfl (fun _ _=>by go_simp) (tOp) ((fun o=>okO o∧Dy o=true)) ((fun o=>.ret (sv (fE o)))) (by rw [Tryz.ntmps54];decide) (fun o h=>mem_sw o h.1 h.2)
theorem mem_run {id:Nat} {h:aF} {args:List AV}:(memS).run id h args=be (aV (tOp) ((fun o=>okO o∧Dy o=true))) ((fun o=>.ret (sv (fE o)))) h args:=rfl
theorem mem_pan {id:Nat} {h:aF} {args:List AV}:(memS).pan id h args=bi (aV (tOp) ((fun o=>okO o∧Dy o=true))) ((fun o=>.ret (sv (fE o)))) h args:=rfl
end Go.Proofs.YthcoegkfpinlfaaGreatDoor
