import Derived.Test.YtnhbidpdadkcjaaGreatDoorJ24
import Derived.Test.YtnhbidpdadkcjaaGreatDoorJ25
set_option linter.unusedVariables false
set_option linter.unusedSimpArgs false
set_option maxRecDepth 100000
set_option maxHeartbeats 8000000
namespace Go.Proofs.YtnhbidpdadkcjaaGreatDoor
open Go.RowKit
theorem Bj {r:kC} (h:¬(cC r).2=0):(cC r).1=emp:=by
 unfold cC at h ⊢
 by_cases c:r.n<0∨31<r.n∨(r.sp=true∧¬r.n=31)
 ·rw [if_pos c]
 ·exfalso
  apply h
  rw [if_neg c]
  repeat' split
  all_goals rfl
theorem il (r:kC):(cC r).1.size≤4:=by
 have h1:=sH r.n
 unfold cC
 repeat' split
 all_goals first
  | decide
  | (simp only [ByteArray.size_append];first | (have:xS.size=1:=rfl;omega) | (have:wS.size=1:=rfl;omega))
theorem sx (k n:Int):(cX k n).1.size≤40:=by
 by_cases h:(cX k n).2=0
 ·have e:cX k n=((cX k n).1,0):=by rw [← h]
  exact (there e).2.2
 ·have:(cX k n).1=emp:=by
   unfold cX at h ⊢
   repeat' split
   all_goals first
    | rfl
    | (rename_i h1 h2;exact Bj (by simpa [h1,h2] using h))
    | (exfalso;apply h;simp_all)
  rw [this]
  decide
theorem pw (n:Int):(j3 n).size≤20:=Ex.decS_size _
theorem vF (v:Val):(Ex.printF v).1.size≤v.plus.size+v.minus.size+30:=by
 have h1:=Ex.decS_size v.add.toNat
 have h2:=Ex.signS_size v.add
 have h3:emp.size=0:=rfl
 have h4:(⟨#[48]⟩:ByteArray).size=1:=rfl
 have h5:(⟨#[45]⟩:ByteArray).size=1:=rfl
 unfold Ex.printF
 repeat' split
 all_goals simp only [ByteArray.size_append]
 all_goals omega
theorem pV {o:OpV} (h:okO o):(qN o).size≤2199023255582:=by
 have:=vF o.val
 obtain ⟨⟨h1,h2⟩,-⟩:=h
 have e1:o.val.plus.size=o.plus.size:=rfl
 have e2:o.val.minus.size=o.minus.size:=rfl
 unfold qN prO
 omega
theorem px {o:OpV} (h:okO o):(oI o).size≤2199023255590:=by
 have:=pV h
 have h4:Gt.size=6:=rfl
 have h5:eQ.size=1:=rfl
 unfold oI
 split<;>simp only [ByteArray.size_append]<;>omega
theorem kY (o:OpV) (s:Bool):(mU o s).size≤64:=by
 have h1:=sx 3 o.md
 have h2:=pw o.amt
 have h3:emp.size=0:=rfl
 have h4:gQ.size=2:=rfl
 have h5:Bn.size=2:=rfl
 unfold mU
 repeat' split
 all_goals try simp only [ByteArray.size_append]
 all_goals omega
def O2:bi Tryz.prog 171 :=
 mk1 _ _ _ Tryz.func171 rfl (fun _ _=>by go_simp) (tOp) (okO) ((fun o=>.ret (sv (oI o)))) (by rw [Tryz.ntmps171];decide) (fun o h=>by
 refine aa (ctx:=[⟨_,Bw⟩]) 4000 ?_
 rw [Tryz.ntmps171,Tryz.results171]
 simp only [Tryz.f171,Option.getD_some,aC]
 have ho:=uE h
 have hz:=pV h
 unfold qN prO at hz
 have z1:1+(Ex.printF o.val).1.size≤maxLen:=by unfold maxLen;omega
 have z2:6+(Ex.printF o.val).1.size≤maxLen:=by unfold maxLen;omega
 cases g:o.lo
 ·simp only [go_sem,bh,opE,g,ru,rt,gJ,AM,ho,oI,eQ,qN,prO,Bool.false_eq_true,z1]
 ·simp only [go_sem,bh,opE,g,ru,rt,gJ,AM,ho,oI,Gt,qN,prO,z2])
theorem pz {id:Nat} {h:ah} {args:List AV}:(O2).run id h args=bT (ba (tOp) (okO)) ((fun o=>.ret (sv (oI o)))) h args:=rfl
theorem py {id:Nat} {h:ah} {args:List AV}:(O2).pan id h args=bU (ba (tOp) (okO)) ((fun o=>.ret (sv (oI o)))) h args:=rfl
def CG:bi Tryz.prog 170 :=
 mk2 _ _ _ Tryz.func170 rfl (fun _ _=>by go_simp) (tOp) (GL) ((fun o s=>o.md=0∨s=true∨0≤o.amt∧o.amt<100)) ((fun o s=>.ret (sv (mU o s)))) (by rw [Tryz.ntmps170];decide) (fun o s h=>by
 refine aa (ctx:=[⟨_,nameS⟩,⟨_,K8⟩]) 4000 ?_
 rw [Tryz.ntmps170,Tryz.results170]
 simp only [Tryz.f170,Option.getD_some,aC]
 have hn:=sx 3 o.md
 have hi:=pw o.amt
 have z1:2+(cX 3 o.md).1.size≤maxLen:=by unfold maxLen;omega
 have z2:2+(cX 3 o.md).1.size+2≤maxLen:=by unfold maxLen;omega
 have z3:2+(cX 3 o.md).1.size+2+(j3 o.amt).size≤maxLen:=by unfold maxLen;omega
 by_cases g:o.md=0
 ·simp only [go_sem,bh,opE,eq_true g,mU,aR]
 cases s
 ·have h2:0≤o.amt∧o.amt<100:=by
   rcases h with h | h | h
   ·exact absurd h g
   ·cases h
   ·exact h
  simp only [go_sem,bh,opE,g,name_run,name_pan,gr,La,K9,h2,mU,gQ,Bn,Bool.false_eq_true,z1,z2,z3]
 ·simp only [go_sem,bh,opE,g,name_run,name_pan,gr,mU,gQ,z1])
theorem pC {id:Nat} {h:ah} {args:List AV}:(CG).run id h args=bT (cg (tOp) (GL) ((fun o s=>o.md=0∨s=true∨0≤o.amt∧o.amt<100))) (fun x=>((fun o s=>.ret (sv (mU o s)))) x.1 x.2) h args:=rfl
theorem pB {id:Nat} {h:ah} {args:List AV}:(CG).pan id h args=bU (cg (tOp) (GL) ((fun o s=>o.md=0∨s=true∨0≤o.amt∧o.amt<100))) (fun x=>((fun o s=>.ret (sv (mU o s)))) x.1 x.2) h args:=rfl
def EO:bi Tryz.prog 173 :=
 mk2 _ _ _ Tryz.func173 rfl (fun _ _=>by go_simp) (bq .i64) (bq .i64) ((fun k n=>(cX k n).2=0∨0≤n∧n<100)) ((fun k n=>.ret (sv (jI k n)))) (by rw [Tryz.ntmps173];decide) (fun k n h=>by
 refine aa (ctx:=[⟨_,nameS⟩,⟨_,Ri⟩]) 4000 ?_
 rw [Tryz.ntmps173,Tryz.results173]
 simp only [Tryz.f173,Option.getD_some,aC]
 by_cases g:(cX k n).2=0
 ·simp only [go_sem,name_run,name_pan,gr,eq_true g,jI]
 ·have h2:0≤n∧n<100:=h.resolve_left g
  have hi:=pw n
  have z1:1+(j3 n).size≤maxLen:=by unfold maxLen;omega
  simp only [go_sem,name_run,name_pan,gr,g,OT,OS,h2,jI,eQ,z1])
theorem oK {id:Nat} {h:ah} {args:List AV}:(EO).run id h args=bT (cg (bq .i64) (bq .i64) ((fun k n=>(cX k n).2=0∨0≤n∧n<100))) (fun x=>((fun k n=>.ret (sv (jI k n)))) x.1 x.2) h args:=rfl
theorem oJ {id:Nat} {h:ah} {args:List AV}:(EO).pan id h args=bU (cg (bq .i64) (bq .i64) ((fun k n=>(cX k n).2=0∨0≤n∧n<100))) (fun x=>((fun k n=>.ret (sv (jI k n)))) x.1 x.2) h args:=rfl
theorem ox {o:OpV} (h:iD o=0):ki o=true∧(prO o).2=0∧(o.kind=3→o.plus=emp∨kJ 3 o.plus=false):=by
 unfold iD at h
 split at h
 ·cases h
 rename_i h1
 split at h
 ·rename_i h2;exact absurd h h2
 rename_i h2
 split at h
 ·cases h
 rename_i h3
 refine ⟨by simpa using h1,by simpa using h2,fun hk=>?_⟩
 by_cases e:o.plus=emp
 ·exact .inl e
 ·cases hw:kJ 3 o.plus
  ·exact .inr rfl
  ·exact absurd ⟨hk,e,hw⟩ h3
theorem qU {o:OpV} {m:Int} (h:fE o m=true):(0≤o.md∧o.md≤m)∧0≤o.amt∧o.amt<100:=by
 unfold fE at h
 rw [decide_eq_true_eq] at h
 omega
theorem nI {o:OpV} (h:ki o=true):lr o=o∧((o.kind=1∧nl o.r=true∧fE o 12=true)∨(o.kind=2∧fE o 1=true)∨o.kind=3∨((o.kind=4∨o.kind=6∨o.kind=7∨o.kind=8∨o.kind=9)∧0≤o.n∧o.n≤lE o.kind)∨(o.kind=5∧gB o=true)):=by
 unfold ki at h
 split at h
 ·cases h
 rename_i h0
 refine ⟨by simpa using h0,?_⟩
 split at h
 ·rename_i h1
  rw [Bool.and_eq_true] at h
  exact .inl ⟨h1,h⟩
 split at h
 ·rename_i h1
  exact .inr (.inl ⟨h1,h⟩)
 split at h
 ·rename_i h1
  exact .inr (.inr (.inl h1))
 split at h
 ·rename_i h1
  rw [Bool.and_eq_true,decide_eq_true_eq,decide_eq_true_eq] at h
  exact .inr (.inr (.inr (.inl ⟨h1,h⟩)))
 split at h
 ·rename_i h1
  exact .inr (.inr (.inr (.inr ⟨h1,h⟩)))
 ·cases h
theorem zD {o:OpV} (h:gB o=true):nl o.r=true∧o.r.x=true∧(o.mode=0∨o.mode=1∨o.mode=2∨(o.mode=3∧fo o=true)):=by
 unfold gB at h
 simp only [Bool.and_eq_true,decide_eq_true_eq,Bool.or_eq_true] at h
 obtain ⟨⟨⟨⟨⟨h1,h2⟩,h3⟩,h4⟩,h5⟩,h6⟩:=h
 refine ⟨h1,h2,?_⟩
 rcases h6 with h6 | h6
 ·omega
 ·by_cases e:o.mode=3
  ·exact .inr (.inr (.inr ⟨e,h6⟩))
  ·omega
theorem Ic {o:OpV} (h:fo o=true) : -1≤o.amt∧o.amt<100:=by
 unfold fo at h
 split at h
 ·cases h
 ·rename_i h1
  simp only [not_or] at h1
  omega
theorem zH {n:Int} (h0:0≤n) (h1:n≤15):(cX 2 n).2=0:=by
 have:∀ k:Fin 16,(cX 2 (k.val:Int)).2=0:=by decide +kernel
 have:=this ⟨n.toNat,by omega⟩
 rwa [show (((⟨n.toNat,by omega⟩:Fin 16).val:Nat):Int)=n by simp only;omega] at this
theorem CI {n:Int} (h0:0≤n) (h1:n≤32767):(cX 6 n).2=0:=by
 unfold cX
 rw [if_neg (by decide)]
 split
 ·rfl
 ·rw [if_pos ⟨rfl,h0,by omega⟩]
theorem Rx (o:OpV) (hO:okO o) (hm:gB o=true):SW Tryz.prog ⟨none,0⟩ Tryz.f174.ntmps (Tryz.f174.body.getD .skip) ⟨0,aC 0 [tOp.enc o],[]⟩ (es Tryz.prog Tryz.f174.results.toList (.ret (sv (kH o)))):=by
 refine aa (ctx:=[⟨_,x8⟩,⟨_,O2⟩,⟨_,CG⟩]) 4000 ?_
 rw [Tryz.ntmps174,Tryz.results174]
 simp only [Tryz.f174,Option.getD_some,aC]
 obtain ⟨m1,m2,m3⟩:=zD hm
 have hR:=il o.r
 have hM:=il o.m
 have hL:=px hO
 have hX:=kY o (o.amt == -1)
 obtain ⟨a,ha⟩:∃ a,jE o.r=a:=⟨_,rfl⟩
 obtain ⟨b,hb⟩:∃ b,jE o.m=b:=⟨_,rfl⟩
 obtain ⟨l,hl⟩:∃ l,oI o=l:=⟨_,rfl⟩
 obtain ⟨x,hx⟩:∃ x,mU o (o.amt == -1)=x:=⟨_,rfl⟩
 rw [show (cC o.r).1=a from ha] at hR
 rw [show (cC o.m).1=b from hb] at hM
 rw [hl] at hL
 rw [hx] at hX
 have z1:1+a.size≤maxLen:=by unfold maxLen;omega
 have z2:1+a.size+2≤maxLen:=by unfold maxLen;omega
 have z3:1+a.size+2+l.size≤maxLen:=by unfold maxLen;omega
 have z4:1+a.size+2+l.size+2≤maxLen:=by unfold maxLen;omega
 have z5:1+a.size+3≤maxLen:=by unfold maxLen;omega
 have z6:1+a.size+3+l.size≤maxLen:=by unfold maxLen;omega
 have z7:1+a.size+2+b.size≤maxLen:=by unfold maxLen;omega
 have z8:1+a.size+2+b.size+1≤maxLen:=by unfold maxLen;omega
 have z9:1+a.size+2+b.size+x.size≤maxLen:=by unfold maxLen;omega
 have z10:1+a.size+2+b.size+x.size+1≤maxLen:=by unfold maxLen;omega
 have z11:1+a.size+1≤maxLen:=by unfold maxLen;omega
 have z12:1+a.size+2+l.size+1≤maxLen:=by unfold maxLen;omega
 by_cases e1:o.mode=1
 ·simp only [go_sem,bh,opE,opD,bQ,bP,pL,eS,eR,pz,py,hO,kH,ha,hl,brS,gQ,OH,eq_true e1,z1,z2,z3,z4]
 by_cases e2:o.mode=2
 ·simp only [go_sem,bh,opE,opD,bQ,bP,pL,eS,eR,pz,py,hO,kH,ha,hl,brS,OI,e1,eq_true e2,z1,z5,z6]
 by_cases e3:o.mode=3
 ·have hi:fo o=true:=by
   rcases m3 with h | h | h | h
   ·omega
   ·omega
   ·omega
   ·exact h.2
  have hamt:=Ic hi
  by_cases e4:o.amt = -1
  ·by_cases e5:o.md=1
   ·simp only [go_sem,bh,opE,opD,bQ,bP,pL,eS,eR,kH,ha,hb,brS,gQ,ekS,e1,e2,eq_true e3,eq_true e4,eq_true e5,z1,z2,z7,z8,and_self]
   ·simp only [go_sem,bh,opE,opD,bQ,bP,pL,eS,eR,kH,ha,hb,e1,e2,eq_true e3,eq_true e4,e5,z1,false_and]
    refine bI (ctx:=[⟨_,x8⟩,⟨_,CG⟩]) mixed [] (by kernel_rfl) ?_
    simp only [go_sem,bh,opE,opD,bQ,bP,pL,eS,eR,pC,pB,ha,hb,hx,brS,gQ,ekS,eq_true e4,z2,z7,z9,z10,decide_true,true_or,or_true]
  ·have hq:0≤o.amt∧o.amt<100:=by omega
   by_cases e5:o.md=1
   ·skip
    simp only [go_sem,bh,opE,opD,bQ,bP,pL,eS,eR,kH,ha,hb,e1,e2,eq_true e3,e4,eq_true e5,z1,and_false]
    refine bI (ctx:=[⟨_,x8⟩,⟨_,CG⟩]) mixed [] (by kernel_rfl) ?_
    simp only [go_sem,bh,opE,opD,bQ,bP,pL,eS,eR,pC,pB,ha,hb,hx,brS,gQ,ekS,e4,hq,z2,z7,z9,z10,decide_false,or_true]
   ·skip
    simp only [go_sem,bh,opE,opD,bQ,bP,pL,eS,eR,kH,ha,hb,e1,e2,eq_true e3,e4,e5,z1,and_false,false_and]
    refine bI (ctx:=[⟨_,x8⟩,⟨_,CG⟩]) mixed [] (by kernel_rfl) ?_
    simp only [go_sem,bh,opE,opD,bQ,bP,pL,eS,eR,pC,pB,ha,hb,hx,brS,gQ,ekS,e4,hq,z2,z7,z9,z10,decide_false,or_true]
 by_cases v1:o.add=0
 case neg=>simp only [go_sem,bh,opE,opD,bQ,bP,pL,eS,eR,pz,py,hO,kH,ha,hl,brS,gQ,ekS,e1,e2,e3,jB,oN,jT,kh,jq,v1,Bool.false_and,false_and,z1,z2,z3,z12]
 by_cases v2:o.plus=emp
 case neg=>simp only [go_sem,bh,opE,opD,bQ,bP,pL,eS,eR,pz,py,hO,kH,ha,hl,brS,gQ,ekS,e1,e2,e3,jB,oN,jT,kh,jq,aR,eq_true v1,v2,Bool.false_and,false_and,and_false,z1,z2,z3,z12]
 by_cases v3:o.minus=emp
 case neg=>simp only [go_sem,bh,opE,opD,bQ,bP,pL,eS,eR,pz,py,hO,kH,ha,hl,brS,gQ,ekS,e1,e2,e3,jB,oN,jT,kh,jq,aR,eq_true v1,eq_true v2,v3,Bool.false_and,false_and,and_false,z1,z2,z3,z12]
 cases v4:o.lo
 ·simp only [go_sem,bh,opE,opD,bQ,bP,pL,eS,eR,kH,ha,hl,brS,ekS,e1,e2,e3,jB,oN,jT,kh,jq,aR,eq_true v1,eq_true v2,eq_true v3,v4,and_self,z1,z11]
 ·have eL:(⟨o.kind,o.r,o.m,o.md,o.amt,o.n,o.add,o.plus,o.minus,true,o.mode⟩:OpV)=o:=by rw [← v4]
  simp only [go_sem,bh,opE,opD,bQ,bP,pL,eS,eR,pz,py,hO,kH,ha,hl,brS,gQ,ekS,e1,e2,e3,jB,oN,jT,kh,jq,aR,eq_true v1,eq_true v2,eq_true v3,v4,eL,and_false,Bool.true_eq_false,z1,z2,z3,z12]
def Rw:bi Tryz.prog 174 :=
 mk1 _ _ _ Tryz.func174 rfl (fun _ _=>by go_simp) (tOp) ((fun o=>okO o∧gB o=true)) ((fun o=>.ret (sv (kH o)))) (by rw [Tryz.ntmps174];decide) (fun o h=>Rx o h.1 h.2)
theorem Pb {id:Nat} {h:ah} {args:List AV}:(Rw).run id h args=bT (ba (tOp) ((fun o=>okO o∧gB o=true))) ((fun o=>.ret (sv (kH o)))) h args:=rfl
theorem O9 {id:Nat} {h:ah} {args:List AV}:(Rw).pan id h args=bU (ba (tOp) ((fun o=>okO o∧gB o=true))) ((fun o=>.ret (sv (kH o)))) h args:=rfl
end Go.Proofs.YtnhbidpdadkcjaaGreatDoor
