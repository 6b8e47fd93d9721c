import Derived.Test.YthcoegkfpinlfaaGreatDoorJ24
import Derived.Test.YthcoegkfpinlfaaGreatDoorJ25
set_option linter.unusedVariables false
set_option linter.unusedSimpArgs false
set_option maxRecDepth 100000
set_option maxHeartbeats 8000000
namespace Go.Proofs.YthcoegkfpinlfaaGreatDoor
open Go.RowKit
theorem zZ {r:hP} (h:¬(aV r).2=0):(aV r).1=emp:=by
 unfold aV at h ⊢
 by_cases c:r.n<0∨31<r.n∨(r.sp=true∧¬r.n=31)
 ·rw [if_pos c]
 ·exfalso
  apply h
  rw [if_neg c]
  repeat' split
  all_goals rfl
theorem gO (r:hP):(aV r).1.size≤4:=by
 have h1:=rj r.n
 unfold aV
 repeat' split
 all_goals first
  | decide
  | (simp only [ByteArray.size_append];first | (have:xS.size=1:=rfl;omega) | (have:wS.size=1:=rfl;omega))
theorem qZ (k n:Int):(ay k n).1.size≤40:=by
 by_cases h:(ay k n).2=0
 ·have e:ay k n=((ay k n).1,0):=by rw [← h]
  exact (there e).2.2
 ·have:(ay k n).1=emp:=by
   unfold ay at h ⊢
   repeat' split
   all_goals first
    | rfl
    | (rename_i h1 h2;exact zZ (by simpa [h1,h2] using h))
    | (exfalso;apply h;simp_all)
  rw [this]
  decide
theorem og (n:Int):(gV n).size≤20:=Ex.decS_size _
theorem Cj (v:Val):(Ex.printF v).1.size≤v.plus.size+v.minus.size+30:=by
 have h1:=Ex.decS_size v.add.toNat
 have h2:=Ex.signS_size v.add
 have h3:emp.size=0:=rfl
 have h4:(⟨#[48]⟩:ByteArray).size=1:=rfl
 have h5:(⟨#[45]⟩:ByteArray).size=1:=rfl
 unfold Ex.printF
 repeat' split
 all_goals simp only [ByteArray.size_append]
 all_goals omega
theorem oU {o:OpV} (h:okO o):(mh o).size≤2199023255582:=by
 have:=Cj o.val
 obtain ⟨⟨h1,h2⟩,-⟩:=h
 have e1:o.val.plus.size=o.plus.size:=rfl
 have e2:o.val.minus.size=o.minus.size:=rfl
 unfold mh prO
 omega
theorem oj {o:OpV} (h:okO o):(j6 o).size≤2199023255590:=by
 have:=oU h
 have h4:Bx.size=6:=rfl
 have h5:bc.size=1:=rfl
 unfold j6
 split<;>simp only [ByteArray.size_append]<;>omega
theorem km (o:OpV) (s:Bool):(kK o s).size≤64:=by
 have h1:=qZ 3 o.md
 have h2:=og o.amt
 have h3:emp.size=0:=rfl
 have h4:gr.size=2:=rfl
 have h5:Af.size=2:=rfl
 unfold kK
 repeat' split
 all_goals try simp only [ByteArray.size_append]
 all_goals omega
def NB:bq Tryz.prog 51 :=
 mk1 _ _ _ Tryz.func51 rfl (fun _ _=>by go_simp) (tOp) (okO) ((fun o=>.ret (sv (j6 o)))) (by rw [Tryz.ntmps51];decide) (fun o h=>by
 refine ab (ctx:=[⟨_,Ao⟩]) 4000 ?_
 rw [Tryz.ntmps51,Tryz.results51]
 simp only [Tryz.f51,Option.getD_some,aw]
 have ho:=sW h
 have hz:=oU h
 unfold mh prO at hz
 have z1:1+(Ex.printF o.val).1.size≤maxLen:=by unfold maxLen;omega
 have z2:6+(Ex.printF o.val).1.size≤maxLen:=by unfold maxLen;omega
 cases g:o.lo
 ·simp only [go_sem,aF,opE,g,qr,qp,g9,vr,ho,j6,bc,mh,prO,Bool.false_eq_true,z1]
 ·simp only [go_sem,aF,opE,g,qr,qp,g9,vr,ho,j6,Bx,mh,prO,z2])
theorem oq {id:Nat} {h:ag} {args:List AV}:(NB).run id h args=bV (aI (tOp) (okO)) ((fun o=>.ret (sv (j6 o)))) h args:=rfl
theorem oo {id:Nat} {h:ag} {args:List AV}:(NB).pan id h args=ca (aI (tOp) (okO)) ((fun o=>.ret (sv (j6 o)))) h args:=rfl
def BC:bq Tryz.prog 50 :=
 mk2 _ _ _ Tryz.func50 rfl (fun _ _=>by go_simp) (tOp) (Gi) ((fun o s=>o.md=0∨s=true∨0≤o.amt∧o.amt<100)) ((fun o s=>.ret (sv (kK o s)))) (by rw [Tryz.ntmps50];decide) (fun o s h=>by
 refine ab (ctx:=[⟨_,BE⟩,⟨_,Kr⟩]) 4000 ?_
 rw [Tryz.ntmps50,Tryz.results50]
 simp only [Tryz.f50,Option.getD_some,aw]
 have hn:=qZ 3 o.md
 have hi:=og o.amt
 have z1:2+(ay 3 o.md).1.size≤maxLen:=by unfold maxLen;omega
 have z2:2+(ay 3 o.md).1.size+2≤maxLen:=by unfold maxLen;omega
 have z3:2+(ay 3 o.md).1.size+2+(gV o.amt).size≤maxLen:=by unfold maxLen;omega
 by_cases g:o.md=0
 ·simp only [go_sem,aF,opE,eq_true g,kK,ax]
 cases s
 ·have h2:0≤o.amt∧o.amt<100:=by
   rcases h with h | h | h
   ·exact absurd h g
   ·cases h
   ·exact h
  simp only [go_sem,aF,opE,g,kM,kL,eW,Kt,Ks,h2,kK,gr,Af,Bool.false_eq_true,z1,z2,z3]
 ·simp only [go_sem,aF,opE,g,kM,kL,eW,kK,gr,z1])
theorem ov {id:Nat} {h:ag} {args:List AV}:(BC).run id h args=bV (cA (tOp) (Gi) ((fun o s=>o.md=0∨s=true∨0≤o.amt∧o.amt<100))) (fun x=>((fun o s=>.ret (sv (kK o s)))) x.1 x.2) h args:=rfl
theorem ou {id:Nat} {h:ag} {args:List AV}:(BC).pan id h args=ca (cA (tOp) (Gi) ((fun o s=>o.md=0∨s=true∨0≤o.amt∧o.amt<100))) (fun x=>((fun o s=>.ret (sv (kK o s)))) x.1 x.2) h args:=rfl
def D5:bq Tryz.prog 53 :=
 mk2 _ _ _ Tryz.func53 rfl (fun _ _=>by go_simp) (bA .i64) (bA .i64) ((fun k n=>(ay k n).2=0∨0≤n∧n<100)) ((fun k n=>.ret (sv (dU k n)))) (by rw [Tryz.ntmps53];decide) (fun k n h=>by
 refine ab (ctx:=[⟨_,BE⟩,⟨_,PI⟩]) 4000 ?_
 rw [Tryz.ntmps53,Tryz.results53]
 simp only [Tryz.f53,Option.getD_some,aw]
 by_cases g:(ay k n).2=0
 ·simp only [go_sem,kM,kL,eW,eq_true g,dU]
 ·have h2:0≤n∧n<100:=h.resolve_left g
  have hi:=og n
  have z1:1+(gV n).size≤maxLen:=by unfold maxLen;omega
  simp only [go_sem,kM,kL,eW,g,Nv,Nu,h2,dU,bc,z1])
theorem nj {id:Nat} {h:ag} {args:List AV}:(D5).run id h args=bV (cA (bA .i64) (bA .i64) ((fun k n=>(ay k n).2=0∨0≤n∧n<100))) (fun x=>((fun k n=>.ret (sv (dU k n)))) x.1 x.2) h args:=rfl
theorem ni {id:Nat} {h:ag} {args:List AV}:(D5).pan id h args=ca (cA (bA .i64) (bA .i64) ((fun k n=>(ay k n).2=0∨0≤n∧n<100))) (fun x=>((fun k n=>.ret (sv (dU k n)))) x.1 x.2) h args:=rfl
theorem dz {o:OpV} (h:fi o=0):iH o=true∧(prO o).2=0∧(o.kind=3→o.plus=emp∨iE 3 o.plus=false):=by
 unfold fi at h
 split at h
 ·cases h
 rename_i h1
 split at h
 ·rename_i h2;exact absurd h h2
 rename_i h2
 split at h
 ·cases h
 rename_i h3
 refine ⟨by simpa using h1,by simpa using h2,fun hk=>?_⟩
 by_cases e:o.plus=emp
 ·exact .inl e
 ·cases hw:iE 3 o.plus
  ·exact .inr rfl
  ·exact absurd ⟨hk,e,hw⟩ h3
theorem pY {o:OpV} {m:Int} (h:dF o m=true):(0≤o.md∧o.md≤m)∧0≤o.amt∧o.amt<100:=by
 unfold dF at h
 rw [decide_eq_true_eq] at h
 omega
theorem dr {o:OpV} (h:iH o=true):fX o=o∧((o.kind=1∧iO o.r=true∧dF o 12=true)∨(o.kind=2∧dF o 1=true)∨o.kind=3∨((o.kind=4∨o.kind=6∨o.kind=7∨o.kind=8∨o.kind=9)∧0≤o.n∧o.n≤jP o.kind)∨(o.kind=5∧eN o=true)):=by
 unfold iH at h
 split at h
 ·cases h
 rename_i h0
 refine ⟨by simpa using h0,?_⟩
 split at h
 ·rename_i h1
  rw [Bool.and_eq_true] at h
  exact .inl ⟨h1,h⟩
 split at h
 ·rename_i h1
  exact .inr (.inl ⟨h1,h⟩)
 split at h
 ·rename_i h1
  exact .inr (.inr (.inl h1))
 split at h
 ·rename_i h1
  rw [Bool.and_eq_true,decide_eq_true_eq,decide_eq_true_eq] at h
  exact .inr (.inr (.inr (.inl ⟨h1,h⟩)))
 split at h
 ·rename_i h1
  exact .inr (.inr (.inr (.inr ⟨h1,h⟩)))
 ·cases h
theorem ng {o:OpV} (h:eN o=true):iO o.r=true∧o.r.x=true∧(o.mode=0∨o.mode=1∨o.mode=2∨(o.mode=3∧d5 o=true)):=by
 unfold eN at h
 simp only [Bool.and_eq_true,decide_eq_true_eq,Bool.or_eq_true] at h
 obtain ⟨⟨⟨⟨⟨h1,h2⟩,h3⟩,h4⟩,h5⟩,h6⟩:=h
 refine ⟨h1,h2,?_⟩
 rcases h6 with h6 | h6
 ·omega
 ·by_cases e:o.mode=3
  ·exact .inr (.inr (.inr ⟨e,h6⟩))
  ·omega
theorem HB {o:OpV} (h:d5 o=true) : -1≤o.amt∧o.amt<100:=by
 unfold d5 at h
 split at h
 ·cases h
 ·rename_i h1
  simp only [not_or] at h1
  omega
theorem yi {n:Int} (h0:0≤n) (h1:n≤15):(ay 2 n).2=0:=by
 have:∀ k:Fin 16,(ay 2 (k.val:Int)).2=0:=by decide +kernel
 have:=this ⟨n.toNat,by omega⟩
 rwa [show (((⟨n.toNat,by omega⟩:Fin 16).val:Nat):Int)=n by simp only;omega] at this
theorem BG {n:Int} (h0:0≤n) (h1:n≤32767):(ay 6 n).2=0:=by
 unfold ay
 rw [if_neg (by decide)]
 split
 ·rfl
 ·rw [if_pos ⟨rfl,h0,by omega⟩]
theorem PM (o:OpV) (hO:okO o) (hm:eN o=true):SW Tryz.prog ⟨none,0⟩ Tryz.f54.ntmps (Tryz.f54.body.getD .skip) ⟨0,aw 0 [tOp.enc o],[]⟩ (eK Tryz.prog Tryz.f54.results.toList (.ret (sv (gG o)))):=by
 refine ab (ctx:=[⟨_,ww⟩,⟨_,NB⟩,⟨_,BC⟩]) 4000 ?_
 rw [Tryz.ntmps54,Tryz.results54]
 simp only [Tryz.f54,Option.getD_some,aw]
 obtain ⟨m1,m2,m3⟩:=ng hm
 have hR:=gO o.r
 have hM:=gO o.m
 have hL:=oj hO
 have hX:=km o (o.amt == -1)
 obtain ⟨a,ha⟩:∃ a,dy o.r=a:=⟨_,rfl⟩
 obtain ⟨b,hb⟩:∃ b,dy o.m=b:=⟨_,rfl⟩
 obtain ⟨l,hl⟩:∃ l,j6 o=l:=⟨_,rfl⟩
 obtain ⟨x,hx⟩:∃ x,kK o (o.amt == -1)=x:=⟨_,rfl⟩
 rw [show (aV o.r).1=a from ha] at hR
 rw [show (aV o.m).1=b from hb] at hM
 rw [hl] at hL
 rw [hx] at hX
 have z1:1+a.size≤maxLen:=by unfold maxLen;omega
 have z2:1+a.size+2≤maxLen:=by unfold maxLen;omega
 have z3:1+a.size+2+l.size≤maxLen:=by unfold maxLen;omega
 have z4:1+a.size+2+l.size+2≤maxLen:=by unfold maxLen;omega
 have z5:1+a.size+3≤maxLen:=by unfold maxLen;omega
 have z6:1+a.size+3+l.size≤maxLen:=by unfold maxLen;omega
 have z7:1+a.size+2+b.size≤maxLen:=by unfold maxLen;omega
 have z8:1+a.size+2+b.size+1≤maxLen:=by unfold maxLen;omega
 have z9:1+a.size+2+b.size+x.size≤maxLen:=by unfold maxLen;omega
 have z10:1+a.size+2+b.size+x.size+1≤maxLen:=by unfold maxLen;omega
 have z11:1+a.size+1≤maxLen:=by unfold maxLen;omega
 have z12:1+a.size+2+l.size+1≤maxLen:=by unfold maxLen;omega
 by_cases e1:o.mode=1
 ·simp only [go_sem,aF,opE,opD,bj,bi,oH,d8,d7,oq,oo,hO,gG,ha,hl,brS,gr,Ng,eq_true e1,z1,z2,z3,z4]
 by_cases e2:o.mode=2
 ·simp only [go_sem,aF,opE,opD,bj,bi,oH,d8,d7,oq,oo,hO,gG,ha,hl,brS,J3,e1,eq_true e2,z1,z5,z6]
 by_cases e3:o.mode=3
 ·have hi:d5 o=true:=by
   rcases m3 with h | h | h | h
   ·omega
   ·omega
   ·omega
   ·exact h.2
  have hamt:=HB hi
  by_cases e4:o.amt = -1
  ·by_cases e5:o.md=1
   ·simp only [go_sem,aF,opE,opD,bj,bi,oH,d8,d7,gG,ha,hb,brS,gr,ekS,e1,e2,eq_true e3,eq_true e4,eq_true e5,z1,z2,z7,z8,and_self]
   ·simp only [go_sem,aF,opE,opD,bj,bi,oH,d8,d7,gG,ha,hb,e1,e2,eq_true e3,eq_true e4,e5,z1,false_and]
    refine cr (ctx:=[⟨_,ww⟩,⟨_,BC⟩]) mixed [] (by kernel_rfl) ?_
    simp only [go_sem,aF,opE,opD,bj,bi,oH,d8,d7,ov,ou,ha,hb,hx,brS,gr,ekS,eq_true e4,z2,z7,z9,z10,decide_true,true_or,or_true]
  ·have hq:0≤o.amt∧o.amt<100:=by omega
   by_cases e5:o.md=1
   ·skip
    simp only [go_sem,aF,opE,opD,bj,bi,oH,d8,d7,gG,ha,hb,e1,e2,eq_true e3,e4,eq_true e5,z1,and_false]
    refine cr (ctx:=[⟨_,ww⟩,⟨_,BC⟩]) mixed [] (by kernel_rfl) ?_
    simp only [go_sem,aF,opE,opD,bj,bi,oH,d8,d7,ov,ou,ha,hb,hx,brS,gr,ekS,e4,hq,z2,z7,z9,z10,decide_false,or_true]
   ·skip
    simp only [go_sem,aF,opE,opD,bj,bi,oH,d8,d7,gG,ha,hb,e1,e2,eq_true e3,e4,e5,z1,and_false,false_and]
    refine cr (ctx:=[⟨_,ww⟩,⟨_,BC⟩]) mixed [] (by kernel_rfl) ?_
    simp only [go_sem,aF,opE,opD,bj,bi,oH,d8,d7,ov,ou,ha,hb,hx,brS,gr,ekS,e4,hq,z2,z7,z9,z10,decide_false,or_true]
 by_cases v1:o.add=0
 case neg=>simp only [go_sem,aF,opE,opD,bj,bi,oH,d8,d7,oq,oo,hO,gG,ha,hl,brS,gr,ekS,e1,e2,e3,iW,lx,n5,py,jH,v1,Bool.false_and,false_and,z1,z2,z3,z12]
 by_cases v2:o.plus=emp
 case neg=>simp only [go_sem,aF,opE,opD,bj,bi,oH,d8,d7,oq,oo,hO,gG,ha,hl,brS,gr,ekS,e1,e2,e3,iW,lx,n5,py,jH,ax,eq_true v1,v2,Bool.false_and,false_and,and_false,z1,z2,z3,z12]
 by_cases v3:o.minus=emp
 case neg=>simp only [go_sem,aF,opE,opD,bj,bi,oH,d8,d7,oq,oo,hO,gG,ha,hl,brS,gr,ekS,e1,e2,e3,iW,lx,n5,py,jH,ax,eq_true v1,eq_true v2,v3,Bool.false_and,false_and,and_false,z1,z2,z3,z12]
 cases v4:o.lo
 ·simp only [go_sem,aF,opE,opD,bj,bi,oH,d8,d7,gG,ha,hl,brS,ekS,e1,e2,e3,iW,lx,n5,py,jH,ax,eq_true v1,eq_true v2,eq_true v3,v4,and_self,z1,z11]
 ·have eL:(⟨o.kind,o.r,o.m,o.md,o.amt,o.n,o.add,o.plus,o.minus,true,o.mode⟩:OpV)=o:=by rw [← v4]
  simp only [go_sem,aF,opE,opD,bj,bi,oH,d8,d7,oq,oo,hO,gG,ha,hl,brS,gr,ekS,e1,e2,e3,iW,lx,n5,py,jH,ax,eq_true v1,eq_true v2,eq_true v3,v4,eL,and_false,Bool.true_eq_false,z1,z2,z3,z12]
def PL:bq Tryz.prog 54 :=
 mk1 _ _ _ Tryz.func54 rfl (fun _ _=>by go_simp) (tOp) ((fun o=>okO o∧eN o=true)) ((fun o=>.ret (sv (gG o)))) (by rw [Tryz.ntmps54];decide) (fun o h=>PM o h.1 h.2)
theorem NJ {id:Nat} {h:ag} {args:List AV}:(PL).run id h args=bV (aI (tOp) ((fun o=>okO o∧eN o=true))) ((fun o=>.ret (sv (gG o)))) h args:=rfl
theorem NH {id:Nat} {h:ag} {args:List AV}:(PL).pan id h args=ca (aI (tOp) ((fun o=>okO o∧eN o=true))) ((fun o=>.ret (sv (gG o)))) h args:=rfl
end Go.Proofs.YthcoegkfpinlfaaGreatDoor
