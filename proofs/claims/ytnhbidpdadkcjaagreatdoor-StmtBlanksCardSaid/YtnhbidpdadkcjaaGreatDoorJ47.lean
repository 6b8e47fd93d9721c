import Derived.Test.YtnhbidpdadkcjaaGreatDoorJ46
set_option linter.unusedVariables false
set_option linter.unusedSimpArgs false
set_option maxRecDepth 100000
set_option maxHeartbeats 8000000
namespace Go.Proofs.YtnhbidpdadkcjaaGreatDoor
open Go.RowKit
open Ex (Xs xs0)
def ry (r:Except Int PsV):Except Int PsV:=match r with
 | .error e=>.error e
 | .ok p=>if p.l=[] then .ok p else .error 112
theorem OE (name:ByteArray) (p:PsV):yL name p=ry (readR name p):=rfl
theorem ll {q:PsV} (h:q.l=[]):ry (.ok q)=.ok q:=if_pos h
theorem jv {q:PsV} (h:¬q.l=[]):ry (.ok q)=.error 112:=if_neg h
theorem gS {e:Int}:ry (.error e)=.error e:=rfl
structure DirOk (p:PsV):Prop where
 body:BodyOk 0 0 p
 texts:∀ t∈p.l,t.text.size≤1000000
theorem DirOk.bodyK {p:PsV} (h:DirOk p) (k:Int) (a b:Nat):BodyOk a b ⟨p.l,{ p.s with kind:=k }⟩:=(h.body.with (s:={ p.s with kind:=k }) h.body.toks rfl rfl).to (Nat.zero_le _) (Nat.zero_le _)
theorem DirOk.body0 {p:PsV} (h:DirOk p) (a b:Nat):BodyOk a b p:=h.body.to (Nat.zero_le _) (Nat.zero_le _)
theorem DirOk.vals {p:PsV} (h:DirOk p):p.s.vals=[]:=List.eq_nil_of_length_eq_zero (Nat.le_zero.1 h.body.vals)
theorem KC (name:ByteArray) (p:PsV) (h:DirOk p) (hi:name=jX):SW Tryz.prog ⟨none,1⟩ Tryz.f48.ntmps (Tryz.f48.body.getD .skip) ⟨5,aC 0 [pv 0 0 0,sv name],bB 0 (psB p)⟩ (dy Tryz.prog Tryz.f48.results.toList 1 (cY (cf (ry (.ok ⟨p.l,{ p.s with kind:=2,names:=[name] }⟩))))):=by
 refine aa (ctx:=[⟨_,oz⟩,⟨_,jW⟩,⟨_,oA⟩,⟨_,iZ⟩,⟨_,oB⟩,⟨_,oC⟩,⟨_,oE⟩,⟨_,i6⟩,⟨_,oF⟩,⟨_,fC⟩]) 4000 ?_
 rw [Tryz.ntmps48,Tryz.results48]
 simp only [Tryz.f48,Option.getD_some,aC]
 have mi:name=(⟨#[46,116,101,120,116]⟩:ByteArray):=hi
 simp only [go_sem,psB,psK,psL,aX,bj,aS,aP,am,ao,ak,stK,vlK,byK,ac,aB,aA,xs2,xs1,xs0,bV,aE,ae,aF,ag,aG,aH,aD,List.nodup_cons,List.mem_cons,List.not_mem_nil,or_false,not_or,List.nodup_nil,not_false_eq_true,and_self,aq,ap,aN,aM,ax,aw,au,ar,eq_true mi]
 refine du (ctx:=[]) mixed ⟨[],[(7,[0]),(11,[0])],[(1,[0]),(2,[0]),(3,[0])]⟩ (by kernel_rfl) ?_
 by_cases hq:p.l=[]
 ·rw [ll (q:=⟨p.l,{ p.s with kind:=2,names:=[name] }⟩) hq]
  have hl:¬(0:Int)<p.l.length:=by rw [hq];decide
  simp only [go_sem,psB,psK,psL,aX,bj,aS,aP,am,ao,ak,stK,vlK,byK,ac,aB,aA,xs2,xs1,xs0,bV,aE,ae,aF,ag,aG,aH,aD,List.nodup_cons,List.mem_cons,List.not_mem_nil,or_false,not_or,List.nodup_nil,not_false_eq_true,and_self,aq,ap,aN,aM,ax,aw,au,ar,tj,th,hl,List.length_map,bc]
  exact gz (p:=⟨p.l,{ p.s with kind:=2,names:=[name] }⟩) 1 133 3 4 rfl ⟨rfl,rfl,rfl,rfl,rfl,by decide⟩
 ·rw [jv (q:=⟨p.l,{ p.s with kind:=2,names:=[name] }⟩) hq]
  have hl:(0:Int)<p.l.length:=by have:=List.length_pos_iff.2 hq;omega
  simp only [go_sem,psB,psK,psL,aX,bj,aS,aP,am,ao,ak,stK,vlK,byK,ac,aB,aA,xs2,xs1,xs0,bV,aE,ae,aF,ag,aG,aH,aD,List.nodup_cons,List.mem_cons,List.not_mem_nil,or_false,not_or,List.nodup_nil,not_false_eq_true,and_self,aq,ap,aN,aM,ax,aw,au,ar,tj,th,hl,List.length_map,aL]
theorem Kz (name:ByteArray) (p:PsV) (h:DirOk p) (n0:¬name=jX) (hi:name=ke):SW Tryz.prog ⟨none,1⟩ Tryz.f48.ntmps (Tryz.f48.body.getD .skip) ⟨5,aC 0 [pv 0 0 0,sv name],bB 0 (psB p)⟩ (dy Tryz.prog Tryz.f48.results.toList 1 (cY (cf (ry (.ok ⟨p.l,{ p.s with kind:=2,names:=[name] }⟩))))):=by
 refine aa (ctx:=[⟨_,oz⟩,⟨_,jW⟩,⟨_,oA⟩,⟨_,iZ⟩,⟨_,oB⟩,⟨_,oC⟩,⟨_,oE⟩,⟨_,i6⟩,⟨_,oF⟩,⟨_,fC⟩]) 4000 ?_
 rw [Tryz.ntmps48,Tryz.results48]
 simp only [Tryz.f48,Option.getD_some,aC]
 have m0:¬name=(⟨#[46,116,101,120,116]⟩:ByteArray):=n0
 have mi:name=(⟨#[46,100,97,116,97]⟩:ByteArray):=hi
 simp only [go_sem,psB,psK,psL,aX,bj,aS,aP,am,ao,ak,stK,vlK,byK,ac,aB,aA,xs2,xs1,xs0,bV,aE,ae,aF,ag,aG,aH,aD,List.nodup_cons,List.mem_cons,List.not_mem_nil,or_false,not_or,List.nodup_nil,not_false_eq_true,and_self,aq,ap,aN,aM,ax,aw,au,ar,m0,eq_true mi]
 refine du (ctx:=[]) mixed ⟨[],[(7,[0]),(11,[0])],[(1,[0]),(2,[0]),(3,[0])]⟩ (by kernel_rfl) ?_
 by_cases hq:p.l=[]
 ·rw [ll (q:=⟨p.l,{ p.s with kind:=2,names:=[name] }⟩) hq]
  have hl:¬(0:Int)<p.l.length:=by rw [hq];decide
  simp only [go_sem,psB,psK,psL,aX,bj,aS,aP,am,ao,ak,stK,vlK,byK,ac,aB,aA,xs2,xs1,xs0,bV,aE,ae,aF,ag,aG,aH,aD,List.nodup_cons,List.mem_cons,List.not_mem_nil,or_false,not_or,List.nodup_nil,not_false_eq_true,and_self,aq,ap,aN,aM,ax,aw,au,ar,tj,th,hl,List.length_map,bc]
  exact gz (p:=⟨p.l,{ p.s with kind:=2,names:=[name] }⟩) 1 165 3 4 rfl ⟨rfl,rfl,rfl,rfl,rfl,by decide⟩
 ·rw [jv (q:=⟨p.l,{ p.s with kind:=2,names:=[name] }⟩) hq]
  have hl:(0:Int)<p.l.length:=by have:=List.length_pos_iff.2 hq;omega
  simp only [go_sem,psB,psK,psL,aX,bj,aS,aP,am,ao,ak,stK,vlK,byK,ac,aB,aA,xs2,xs1,xs0,bV,aE,ae,aF,ag,aG,aH,aD,List.nodup_cons,List.mem_cons,List.not_mem_nil,or_false,not_or,List.nodup_nil,not_false_eq_true,and_self,aq,ap,aN,aM,ax,aw,au,ar,tj,th,hl,List.length_map,aL]
theorem B9 (name:ByteArray) (p:PsV) (h:DirOk p) (n0:¬name=jX) (n1:¬name=ke) (hi:name=f7):SW Tryz.prog ⟨none,1⟩ Tryz.f48.ntmps (Tryz.f48.body.getD .skip) ⟨5,aC 0 [pv 0 0 0,sv name],bB 0 (psB p)⟩ (dy Tryz.prog Tryz.f48.results.toList 1 (cY (cf (ry (nameR ⟨p.l,{ p.s with kind:=2 }⟩))))):=by
 refine aa (ctx:=[⟨_,oz⟩,⟨_,jW⟩,⟨_,oA⟩,⟨_,iZ⟩,⟨_,oB⟩,⟨_,oC⟩,⟨_,oE⟩,⟨_,i6⟩,⟨_,oF⟩,⟨_,fC⟩]) 4000 ?_
 rw [Tryz.ntmps48,Tryz.results48]
 simp only [Tryz.f48,Option.getD_some,aC]
 have m0:¬name=(⟨#[46,116,101,120,116]⟩:ByteArray):=n0
 have m1:¬name=(⟨#[46,100,97,116,97]⟩:ByteArray):=n1
 have mi:name=(⟨#[46,115,101,99,116,105,111,110]⟩:ByteArray):=hi
 simp only [go_sem,psB,psK,psL,aX,bj,aS,aP,am,ao,ak,stK,vlK,byK,ac,aB,aA,xs2,xs1,xs0,bV,aE,ae,aF,ag,aG,aH,aD,List.nodup_cons,List.mem_cons,List.not_mem_nil,or_false,not_or,List.nodup_nil,not_false_eq_true,and_self,aq,ap,aN,aM,ax,aw,au,ar,m0,m1,eq_true mi]
 refine du (ctx:=[]) mixed ⟨[],[(6,[0])],[(1,[0]),(2,[0])]⟩ (by kernel_rfl) ?_
 simp only [go_sem,psB,psK,psL,aX,bj,aS,aP,am,ao,ak,stK,vlK,byK,ac,aB,aA,xs2,xs1,xs0,bV,aE,ae,aF,ag,aG,aH,aD,List.nodup_cons,List.mem_cons,List.not_mem_nil,or_false,not_or,List.nodup_nil,not_false_eq_true,and_self,aq,ap,aN,aM,ax,aw,au,ar]
 have hc:=h.bodyK 2 1000 1000
 rcases hr:nameR ⟨p.l,{ p.s with kind:=2 }⟩ with e | q
 ·rw [gS]
  simp only [go_sem,psB,psK,psL,aX,bj,aS,aP,am,ao,ak,stK,vlK,byK,ac,aB,aA,xs2,xs1,xs0,bV,aE,ae,aF,ag,aG,aH,aD,List.nodup_cons,List.mem_cons,List.not_mem_nil,or_false,not_or,List.nodup_nil,not_false_eq_true,and_self,aq,ap,aN,aM,ax,aw,au,ar,gD,gC,aL,bc,aL,hc,hr]
 ·by_cases hq:q.l=[]
  ·rw [ll hq]
   have hl:¬(0:Int)<q.l.length:=by rw [hq];decide
   simp only [go_sem,psB,psK,psL,aX,bj,aS,aP,am,ao,ak,stK,vlK,byK,ac,aB,aA,xs2,xs1,xs0,bV,aE,ae,aF,ag,aG,aH,aD,List.nodup_cons,List.mem_cons,List.not_mem_nil,or_false,not_or,List.nodup_nil,not_false_eq_true,and_self,aq,ap,aN,aM,ax,aw,au,ar,gD,gC,bc,bc,aL,hc,hr,hl,List.length_map]
   exact gz (p:=q) 293 294 295 296 rfl ⟨rfl,rfl,rfl,rfl,rfl,by decide⟩
  ·rw [jv hq]
   have hl:(0:Int)<q.l.length:=by have:=List.length_pos_iff.2 hq;omega
   simp only [go_sem,psB,psK,psL,aX,bj,aS,aP,am,ao,ak,stK,vlK,byK,ac,aB,aA,xs2,xs1,xs0,bV,aE,ae,aF,ag,aG,aH,aD,List.nodup_cons,List.mem_cons,List.not_mem_nil,or_false,not_or,List.nodup_nil,not_false_eq_true,and_self,aq,ap,aN,aM,ax,aw,au,ar,gD,gC,bc,aL,bc,aL,hc,hr,hl,List.length_map]
theorem Ee (name:ByteArray) (p:PsV) (h:DirOk p) (n0:¬name=jX) (n1:¬name=ke) (n2:¬name=f7) (hi:name=jd):SW Tryz.prog ⟨none,1⟩ Tryz.f48.ntmps (Tryz.f48.body.getD .skip) ⟨5,aC 0 [pv 0 0 0,sv name],bB 0 (psB p)⟩ (dy Tryz.prog Tryz.f48.results.toList 1 (cY (cf (ry (fh nameR 63 ⟨p.l,{ p.s with kind:=3 }⟩))))):=by
 refine aa (ctx:=[⟨_,oz⟩,⟨_,jW⟩,⟨_,oA⟩,⟨_,iZ⟩,⟨_,oB⟩,⟨_,oC⟩,⟨_,oE⟩,⟨_,i6⟩,⟨_,oF⟩,⟨_,fC⟩]) 4000 ?_
 rw [Tryz.ntmps48,Tryz.results48]
 simp only [Tryz.f48,Option.getD_some,aC]
 have m0:¬name=(⟨#[46,116,101,120,116]⟩:ByteArray):=n0
 have m1:¬name=(⟨#[46,100,97,116,97]⟩:ByteArray):=n1
 have m2:¬name=(⟨#[46,115,101,99,116,105,111,110]⟩:ByteArray):=n2
 have mi:name=(⟨#[46,103,108,111,98,97,108]⟩:ByteArray):=hi
 simp only [go_sem,psB,psK,psL,aX,bj,aS,aP,am,ao,ak,stK,vlK,byK,ac,aB,aA,xs2,xs1,xs0,bV,aE,ae,aF,ag,aG,aH,aD,List.nodup_cons,List.mem_cons,List.not_mem_nil,or_false,not_or,List.nodup_nil,not_false_eq_true,and_self,aq,ap,aN,aM,ax,aw,au,ar,m0,m1,m2,eq_true mi]
 have hc:=h.bodyK 3 800 1000
 rcases hr:fh nameR 63 ⟨p.l,{ p.s with kind:=3 }⟩ with e | q
 ·rw [gS]
  simp only [go_sem,psB,psK,psL,aX,bj,aS,aP,am,ao,ak,stK,vlK,byK,ac,aB,aA,xs2,xs1,xs0,bV,aE,ae,aF,ag,aG,aH,aD,List.nodup_cons,List.mem_cons,List.not_mem_nil,or_false,not_or,List.nodup_nil,not_false_eq_true,and_self,aq,ap,aN,aM,ax,aw,au,ar,wR,wQ,aL,fk,kG,bxK,ig,cP,hc,hr]
 ·by_cases hq:q.l=[]
  ·rw [ll hq]
   have hl:¬(0:Int)<q.l.length:=by rw [hq];decide
   simp only [go_sem,psB,psK,psL,aX,bj,aS,aP,am,ao,ak,stK,vlK,byK,ac,aB,aA,xs2,xs1,xs0,bV,aE,ae,aF,ag,aG,aH,aD,List.nodup_cons,List.mem_cons,List.not_mem_nil,or_false,not_or,List.nodup_nil,not_false_eq_true,and_self,aq,ap,aN,aM,ax,aw,au,ar,wR,wQ,bc,fk,kG,bxK,ig,cP,hc,hr,hl,List.length_map]
   exact gz (p:=q) 309 310 311 312 rfl ⟨rfl,rfl,rfl,rfl,rfl,by decide⟩
  ·rw [jv hq]
   have hl:(0:Int)<q.l.length:=by have:=List.length_pos_iff.2 hq;omega
   simp only [go_sem,psB,psK,psL,aX,bj,aS,aP,am,ao,ak,stK,vlK,byK,ac,aB,aA,xs2,xs1,xs0,bV,aE,ae,aF,ag,aG,aH,aD,List.nodup_cons,List.mem_cons,List.not_mem_nil,or_false,not_or,List.nodup_nil,not_false_eq_true,and_self,aq,ap,aN,aM,ax,aw,au,ar,wR,wQ,bc,aL,fk,kG,bxK,ig,cP,hc,hr,hl,List.length_map]
theorem Hy (name:ByteArray) (p:PsV) (h:DirOk p) (n0:¬name=jX) (n1:¬name=ke) (n2:¬name=f7) (n3:¬name=jd) (hi:name=jG):SW Tryz.prog ⟨none,1⟩ Tryz.f48.ntmps (Tryz.f48.body.getD .skip) ⟨5,aC 0 [pv 0 0 0,sv name],bB 0 (psB p)⟩ (dy Tryz.prog Tryz.f48.results.toList 1 (cY (cf (ry (jn ⟨p.l,{ p.s with kind:=4 }⟩))))):=by
 refine aa (ctx:=[⟨_,oz⟩,⟨_,jW⟩,⟨_,oA⟩,⟨_,iZ⟩,⟨_,oB⟩,⟨_,oC⟩,⟨_,oE⟩,⟨_,i6⟩,⟨_,oF⟩,⟨_,fC⟩]) 4000 ?_
 rw [Tryz.ntmps48,Tryz.results48]
 simp only [Tryz.f48,Option.getD_some,aC]
 have m0:¬name=(⟨#[46,116,101,120,116]⟩:ByteArray):=n0
 have m1:¬name=(⟨#[46,100,97,116,97]⟩:ByteArray):=n1
 have m2:¬name=(⟨#[46,115,101,99,116,105,111,110]⟩:ByteArray):=n2
 have m3:¬name=(⟨#[46,103,108,111,98,97,108]⟩:ByteArray):=n3
 have mi:name=(⟨#[46,97,108,105,103,110]⟩:ByteArray):=hi
 simp only [go_sem,psB,psK,psL,aX,bj,aS,aP,am,ao,ak,stK,vlK,byK,ac,aB,aA,xs2,xs1,xs0,bV,aE,ae,aF,ag,aG,aH,aD,List.nodup_cons,List.mem_cons,List.not_mem_nil,or_false,not_or,List.nodup_nil,not_false_eq_true,and_self,aq,ap,aN,aM,ax,aw,au,ar,m0,m1,m2,m3,eq_true mi]
 refine du (ctx:=[]) mixed ⟨[],[(6,[0])],[(1,[0]),(2,[0])]⟩ (by kernel_rfl) ?_
 simp only [go_sem,psB,psK,psL,aX,bj,aS,aP,am,ao,ak,stK,vlK,byK,ac,aB,aA,xs2,xs1,xs0,bV,aE,ae,aF,ag,aG,aH,aD,List.nodup_cons,List.mem_cons,List.not_mem_nil,or_false,not_or,List.nodup_nil,not_false_eq_true,and_self,aq,ap,aN,aM,ax,aw,au,ar]
 have hc:=(show BodyOk 1000 1000 ⟨p.l,{ p.s with kind:=4 }⟩∧(⟨p.l,{ p.s with kind:=4 }⟩:PsV).s.vals=[] from ⟨h.bodyK 4 1000 1000,h.vals⟩)
 rcases hr:jn ⟨p.l,{ p.s with kind:=4 }⟩ with e | q
 ·rw [gS]
  simp only [go_sem,psB,psK,psL,aX,bj,aS,aP,am,ao,ak,stK,vlK,byK,ac,aB,aA,xs2,xs1,xs0,bV,aE,ae,aF,ag,aG,aH,aD,List.nodup_cons,List.mem_cons,List.not_mem_nil,or_false,not_or,List.nodup_nil,not_false_eq_true,and_self,aq,ap,aN,aM,ax,aw,au,ar,rW,rV,aL,bc,aL,hc,hr]
  exact h.vals
 ·by_cases hq:q.l=[]
  ·rw [ll hq]
   have hl:¬(0:Int)<q.l.length:=by rw [hq];decide
   simp only [go_sem,psB,psK,psL,aX,bj,aS,aP,am,ao,ak,stK,vlK,byK,ac,aB,aA,xs2,xs1,xs0,bV,aE,ae,aF,ag,aG,aH,aD,List.nodup_cons,List.mem_cons,List.not_mem_nil,or_false,not_or,List.nodup_nil,not_false_eq_true,and_self,aq,ap,aN,aM,ax,aw,au,ar,rW,rV,bc,bc,aL,hc,hr,hl,List.length_map]
   refine ⟨h.vals,?_⟩
   exact gz (p:=q) 357 358 359 360 rfl ⟨rfl,rfl,rfl,rfl,rfl,by decide⟩
  ·rw [jv hq]
   have hl:(0:Int)<q.l.length:=by have:=List.length_pos_iff.2 hq;omega
   simp only [go_sem,psB,psK,psL,aX,bj,aS,aP,am,ao,ak,stK,vlK,byK,ac,aB,aA,xs2,xs1,xs0,bV,aE,ae,aF,ag,aG,aH,aD,List.nodup_cons,List.mem_cons,List.not_mem_nil,or_false,not_or,List.nodup_nil,not_false_eq_true,and_self,aq,ap,aN,aM,ax,aw,au,ar,rW,rV,bc,aL,bc,aL,hc,hr,hl,List.length_map]
   exact h.vals
theorem Ky (name:ByteArray) (p:PsV) (h:DirOk p) (n0:¬name=jX) (n1:¬name=ke) (n2:¬name=f7) (n3:¬name=jd) (n4:¬name=jG) (hi:name=pX):SW Tryz.prog ⟨none,1⟩ Tryz.f48.ntmps (Tryz.f48.body.getD .skip) ⟨5,aC 0 [pv 0 0 0,sv name],bB 0 (psB p)⟩ (dy Tryz.prog Tryz.f48.results.toList 1 (cY (cf (ry (eU 1 p))))):=by
 refine aa (ctx:=[⟨_,oz⟩,⟨_,jW⟩,⟨_,oA⟩,⟨_,iZ⟩,⟨_,oB⟩,⟨_,oC⟩,⟨_,oE⟩,⟨_,i6⟩,⟨_,oF⟩,⟨_,fC⟩]) 4000 ?_
 rw [Tryz.ntmps48,Tryz.results48]
 simp only [Tryz.f48,Option.getD_some,aC]
 have m0:¬name=(⟨#[46,116,101,120,116]⟩:ByteArray):=n0
 have m1:¬name=(⟨#[46,100,97,116,97]⟩:ByteArray):=n1
 have m2:¬name=(⟨#[46,115,101,99,116,105,111,110]⟩:ByteArray):=n2
 have m3:¬name=(⟨#[46,103,108,111,98,97,108]⟩:ByteArray):=n3
 have m4:¬name=(⟨#[46,97,108,105,103,110]⟩:ByteArray):=n4
 have mi:name=(⟨#[46,98,121,116,101]⟩:ByteArray):=hi
 simp only [go_sem,psB,psK,psL,aX,bj,aS,aP,am,ao,ak,stK,vlK,byK,ac,aB,aA,xs2,xs1,xs0,bV,aE,ae,aF,ag,aG,aH,aD,List.nodup_cons,List.mem_cons,List.not_mem_nil,or_false,not_or,List.nodup_nil,not_false_eq_true,and_self,aq,ap,aN,aM,ax,aw,au,ar,m0,m1,m2,m3,m4,eq_true mi]
 have hc:=h.body0 1000 800
 rcases hr:eU 1 p with e | q
 ·rw [gS]
  simp only [go_sem,psB,psK,psL,aX,bj,aS,aP,am,ao,ak,stK,vlK,byK,ac,aB,aA,xs2,xs1,xs0,bV,aE,ae,aF,ag,aG,aH,aD,List.nodup_cons,List.mem_cons,List.not_mem_nil,or_false,not_or,List.nodup_nil,not_false_eq_true,and_self,aq,ap,aN,aM,ax,aw,au,ar,wU,wT,aL,fk,kG,bxK,ig,cP,hc,hr]
 ·by_cases hq:q.l=[]
  ·rw [ll hq]
   have hl:¬(0:Int)<q.l.length:=by rw [hq];decide
   simp only [go_sem,psB,psK,psL,aX,bj,aS,aP,am,ao,ak,stK,vlK,byK,ac,aB,aA,xs2,xs1,xs0,bV,aE,ae,aF,ag,aG,aH,aD,List.nodup_cons,List.mem_cons,List.not_mem_nil,or_false,not_or,List.nodup_nil,not_false_eq_true,and_self,aq,ap,aN,aM,ax,aw,au,ar,wU,wT,bc,fk,kG,bxK,ig,cP,hc,hr,hl,List.length_map]
   exact gz (p:=q) 293 294 295 296 rfl ⟨rfl,rfl,rfl,rfl,rfl,by decide⟩
  ·rw [jv hq]
   have hl:(0:Int)<q.l.length:=by have:=List.length_pos_iff.2 hq;omega
   simp only [go_sem,psB,psK,psL,aX,bj,aS,aP,am,ao,ak,stK,vlK,byK,ac,aB,aA,xs2,xs1,xs0,bV,aE,ae,aF,ag,aG,aH,aD,List.nodup_cons,List.mem_cons,List.not_mem_nil,or_false,not_or,List.nodup_nil,not_false_eq_true,and_self,aq,ap,aN,aM,ax,aw,au,ar,wU,wT,bc,aL,fk,kG,bxK,ig,cP,hc,hr,hl,List.length_map]
theorem KD (name:ByteArray) (p:PsV) (h:DirOk p) (n0:¬name=jX) (n1:¬name=ke) (n2:¬name=f7) (n3:¬name=jd) (n4:¬name=jG) (n5:¬name=pX) (hi:name=nA):SW Tryz.prog ⟨none,1⟩ Tryz.f48.ntmps (Tryz.f48.body.getD .skip) ⟨5,aC 0 [pv 0 0 0,sv name],bB 0 (psB p)⟩ (dy Tryz.prog Tryz.f48.results.toList 1 (cY (cf (ry (eU 4 p))))):=by
 refine aa (ctx:=[⟨_,oz⟩,⟨_,jW⟩,⟨_,oA⟩,⟨_,iZ⟩,⟨_,oB⟩,⟨_,oC⟩,⟨_,oE⟩,⟨_,i6⟩,⟨_,oF⟩,⟨_,fC⟩]) 4000 ?_
 rw [Tryz.ntmps48,Tryz.results48]
 simp only [Tryz.f48,Option.getD_some,aC]
 have m0:¬name=(⟨#[46,116,101,120,116]⟩:ByteArray):=n0
 have m1:¬name=(⟨#[46,100,97,116,97]⟩:ByteArray):=n1
 have m2:¬name=(⟨#[46,115,101,99,116,105,111,110]⟩:ByteArray):=n2
 have m3:¬name=(⟨#[46,103,108,111,98,97,108]⟩:ByteArray):=n3
 have m4:¬name=(⟨#[46,97,108,105,103,110]⟩:ByteArray):=n4
 have m5:¬name=(⟨#[46,98,121,116,101]⟩:ByteArray):=n5
 have mi:name=(⟨#[46,119,111,114,100]⟩:ByteArray):=hi
 simp only [go_sem,psB,psK,psL,aX,bj,aS,aP,am,ao,ak,stK,vlK,byK,ac,aB,aA,xs2,xs1,xs0,bV,aE,ae,aF,ag,aG,aH,aD,List.nodup_cons,List.mem_cons,List.not_mem_nil,or_false,not_or,List.nodup_nil,not_false_eq_true,and_self,aq,ap,aN,aM,ax,aw,au,ar,m0,m1,m2,m3,m4,m5,eq_true mi]
 have hc:=h.body0 1000 800
 rcases hr:eU 4 p with e | q
 ·rw [gS]
  simp only [go_sem,psB,psK,psL,aX,bj,aS,aP,am,ao,ak,stK,vlK,byK,ac,aB,aA,xs2,xs1,xs0,bV,aE,ae,aF,ag,aG,aH,aD,List.nodup_cons,List.mem_cons,List.not_mem_nil,or_false,not_or,List.nodup_nil,not_false_eq_true,and_self,aq,ap,aN,aM,ax,aw,au,ar,wW,wV,aL,fk,kG,bxK,ig,cP,hc,hr]
 ·by_cases hq:q.l=[]
  ·rw [ll hq]
   have hl:¬(0:Int)<q.l.length:=by rw [hq];decide
   simp only [go_sem,psB,psK,psL,aX,bj,aS,aP,am,ao,ak,stK,vlK,byK,ac,aB,aA,xs2,xs1,xs0,bV,aE,ae,aF,ag,aG,aH,aD,List.nodup_cons,List.mem_cons,List.not_mem_nil,or_false,not_or,List.nodup_nil,not_false_eq_true,and_self,aq,ap,aN,aM,ax,aw,au,ar,wW,wV,bc,fk,kG,bxK,ig,cP,hc,hr,hl,List.length_map]
   exact gz (p:=q) 325 326 327 328 rfl ⟨rfl,rfl,rfl,rfl,rfl,by decide⟩
  ·rw [jv hq]
   have hl:(0:Int)<q.l.length:=by have:=List.length_pos_iff.2 hq;omega
   simp only [go_sem,psB,psK,psL,aX,bj,aS,aP,am,ao,ak,stK,vlK,byK,ac,aB,aA,xs2,xs1,xs0,bV,aE,ae,aF,ag,aG,aH,aD,List.nodup_cons,List.mem_cons,List.not_mem_nil,or_false,not_or,List.nodup_nil,not_false_eq_true,and_self,aq,ap,aN,aM,ax,aw,au,ar,wW,wV,bc,aL,fk,kG,bxK,ig,cP,hc,hr,hl,List.length_map]
theorem KB (name:ByteArray) (p:PsV) (h:DirOk p) (n0:¬name=jX) (n1:¬name=ke) (n2:¬name=f7) (n3:¬name=jd) (n4:¬name=jG) (n5:¬name=pX) (n6:¬name=nA) (hi:name=rM):SW Tryz.prog ⟨none,1⟩ Tryz.f48.ntmps (Tryz.f48.body.getD .skip) ⟨5,aC 0 [pv 0 0 0,sv name],bB 0 (psB p)⟩ (dy Tryz.prog Tryz.f48.results.toList 1 (cY (cf (ry (eU 8 p))))):=by
 refine aa (ctx:=[⟨_,oz⟩,⟨_,jW⟩,⟨_,oA⟩,⟨_,iZ⟩,⟨_,oB⟩,⟨_,oC⟩,⟨_,oE⟩,⟨_,i6⟩,⟨_,oF⟩,⟨_,fC⟩]) 4000 ?_
 rw [Tryz.ntmps48,Tryz.results48]
 simp only [Tryz.f48,Option.getD_some,aC]
 have m0:¬name=(⟨#[46,116,101,120,116]⟩:ByteArray):=n0
 have m1:¬name=(⟨#[46,100,97,116,97]⟩:ByteArray):=n1
 have m2:¬name=(⟨#[46,115,101,99,116,105,111,110]⟩:ByteArray):=n2
 have m3:¬name=(⟨#[46,103,108,111,98,97,108]⟩:ByteArray):=n3
 have m4:¬name=(⟨#[46,97,108,105,103,110]⟩:ByteArray):=n4
 have m5:¬name=(⟨#[46,98,121,116,101]⟩:ByteArray):=n5
 have m6:¬name=(⟨#[46,119,111,114,100]⟩:ByteArray):=n6
 have mi:name=(⟨#[46,113,117,97,100]⟩:ByteArray):=hi
 simp only [go_sem,psB,psK,psL,aX,bj,aS,aP,am,ao,ak,stK,vlK,byK,ac,aB,aA,xs2,xs1,xs0,bV,aE,ae,aF,ag,aG,aH,aD,List.nodup_cons,List.mem_cons,List.not_mem_nil,or_false,not_or,List.nodup_nil,not_false_eq_true,and_self,aq,ap,aN,aM,ax,aw,au,ar,m0,m1,m2,m3,m4,m5,m6,eq_true mi]
 have hc:=h.body0 1000 800
 rcases hr:eU 8 p with e | q
 ·rw [gS]
  simp only [go_sem,psB,psK,psL,aX,bj,aS,aP,am,ao,ak,stK,vlK,byK,ac,aB,aA,xs2,xs1,xs0,bV,aE,ae,aF,ag,aG,aH,aD,List.nodup_cons,List.mem_cons,List.not_mem_nil,or_false,not_or,List.nodup_nil,not_false_eq_true,and_self,aq,ap,aN,aM,ax,aw,au,ar,wY,wX,aL,fk,kG,bxK,ig,cP,hc,hr]
 ·by_cases hq:q.l=[]
  ·rw [ll hq]
   have hl:¬(0:Int)<q.l.length:=by rw [hq];decide
   simp only [go_sem,psB,psK,psL,aX,bj,aS,aP,am,ao,ak,stK,vlK,byK,ac,aB,aA,xs2,xs1,xs0,bV,aE,ae,aF,ag,aG,aH,aD,List.nodup_cons,List.mem_cons,List.not_mem_nil,or_false,not_or,List.nodup_nil,not_false_eq_true,and_self,aq,ap,aN,aM,ax,aw,au,ar,wY,wX,bc,fk,kG,bxK,ig,cP,hc,hr,hl,List.length_map]
   exact gz (p:=q) 357 358 359 360 rfl ⟨rfl,rfl,rfl,rfl,rfl,by decide⟩
  ·rw [jv hq]
   have hl:(0:Int)<q.l.length:=by have:=List.length_pos_iff.2 hq;omega
   simp only [go_sem,psB,psK,psL,aX,bj,aS,aP,am,ao,ak,stK,vlK,byK,ac,aB,aA,xs2,xs1,xs0,bV,aE,ae,aF,ag,aG,aH,aD,List.nodup_cons,List.mem_cons,List.not_mem_nil,or_false,not_or,List.nodup_nil,not_false_eq_true,and_self,aq,ap,aN,aM,ax,aw,au,ar,wY,wX,bc,aL,fk,kG,bxK,ig,cP,hc,hr,hl,List.length_map]
theorem Hz (name:ByteArray) (p:PsV) (h:DirOk p) (n0:¬name=jX) (n1:¬name=ke) (n2:¬name=f7) (n3:¬name=jd) (n4:¬name=jG) (n5:¬name=pX) (n6:¬name=nA) (n7:¬name=rM) (hi:name=nE):SW Tryz.prog ⟨none,1⟩ Tryz.f48.ntmps (Tryz.f48.body.getD .skip) ⟨5,aC 0 [pv 0 0 0,sv name],bB 0 (psB p)⟩ (dy Tryz.prog Tryz.f48.results.toList 1 (cY (cf (ry (jo ⟨p.l,{ p.s with kind:=6 }⟩))))):=by
 refine aa (ctx:=[⟨_,oz⟩,⟨_,jW⟩,⟨_,oA⟩,⟨_,iZ⟩,⟨_,oB⟩,⟨_,oC⟩,⟨_,oE⟩,⟨_,i6⟩,⟨_,oF⟩,⟨_,fC⟩]) 4000 ?_
 rw [Tryz.ntmps48,Tryz.results48]
 simp only [Tryz.f48,Option.getD_some,aC]
 have m0:¬name=(⟨#[46,116,101,120,116]⟩:ByteArray):=n0
 have m1:¬name=(⟨#[46,100,97,116,97]⟩:ByteArray):=n1
 have m2:¬name=(⟨#[46,115,101,99,116,105,111,110]⟩:ByteArray):=n2
 have m3:¬name=(⟨#[46,103,108,111,98,97,108]⟩:ByteArray):=n3
 have m4:¬name=(⟨#[46,97,108,105,103,110]⟩:ByteArray):=n4
 have m5:¬name=(⟨#[46,98,121,116,101]⟩:ByteArray):=n5
 have m6:¬name=(⟨#[46,119,111,114,100]⟩:ByteArray):=n6
 have m7:¬name=(⟨#[46,113,117,97,100]⟩:ByteArray):=n7
 have mi:name=(⟨#[46,97,115,99,105,105]⟩:ByteArray):=hi
 simp only [go_sem,psB,psK,psL,aX,bj,aS,aP,am,ao,ak,stK,vlK,byK,ac,aB,aA,xs2,xs1,xs0,bV,aE,ae,aF,ag,aG,aH,aD,List.nodup_cons,List.mem_cons,List.not_mem_nil,or_false,not_or,List.nodup_nil,not_false_eq_true,and_self,aq,ap,aN,aM,ax,aw,au,ar,m0,m1,m2,m3,m4,m5,m6,m7,eq_true mi]
 refine du (ctx:=[]) mixed ⟨[],[(6,[0])],[(1,[0]),(2,[0])]⟩ (by kernel_rfl) ?_
 simp only [go_sem,psB,psK,psL,aX,bj,aS,aP,am,ao,ak,stK,vlK,byK,ac,aB,aA,xs2,xs1,xs0,bV,aE,ae,aF,ag,aG,aH,aD,List.nodup_cons,List.mem_cons,List.not_mem_nil,or_false,not_or,List.nodup_nil,not_false_eq_true,and_self,aq,ap,aN,aM,ax,aw,au,ar]
 have hc:=h.texts
 rcases hr:jo ⟨p.l,{ p.s with kind:=6 }⟩ with e | q
 ·rw [gS]
  simp only [go_sem,psB,psK,psL,aX,bj,aS,aP,am,ao,ak,stK,vlK,byK,ac,aB,aA,xs2,xs1,xs0,bV,aE,ae,aF,ag,aG,aH,aD,List.nodup_cons,List.mem_cons,List.not_mem_nil,or_false,not_or,List.nodup_nil,not_false_eq_true,and_self,aq,ap,aN,aM,ax,aw,au,ar,rY,rX,aL,bc,aL,hc,hr]
  exact h.texts
 ·by_cases hq:q.l=[]
  ·rw [ll hq]
   have hl:¬(0:Int)<q.l.length:=by rw [hq];decide
   simp only [go_sem,psB,psK,psL,aX,bj,aS,aP,am,ao,ak,stK,vlK,byK,ac,aB,aA,xs2,xs1,xs0,bV,aE,ae,aF,ag,aG,aH,aD,List.nodup_cons,List.mem_cons,List.not_mem_nil,or_false,not_or,List.nodup_nil,not_false_eq_true,and_self,aq,ap,aN,aM,ax,aw,au,ar,rY,rX,bc,bc,aL,hc,hr,hl,List.length_map]
   refine ⟨h.texts,?_⟩
   exact gz (p:=q) 485 486 487 488 rfl ⟨rfl,rfl,rfl,rfl,rfl,by decide⟩
  ·rw [jv hq]
   have hl:(0:Int)<q.l.length:=by have:=List.length_pos_iff.2 hq;omega
   simp only [go_sem,psB,psK,psL,aX,bj,aS,aP,am,ao,ak,stK,vlK,byK,ac,aB,aA,xs2,xs1,xs0,bV,aE,ae,aF,ag,aG,aH,aD,List.nodup_cons,List.mem_cons,List.not_mem_nil,or_false,not_or,List.nodup_nil,not_false_eq_true,and_self,aq,ap,aN,aM,ax,aw,au,ar,rY,rX,bc,aL,bc,aL,hc,hr,hl,List.length_map]
   exact h.texts
theorem OF (name:ByteArray) (p:PsV) (h:DirOk p) (n0:¬name=jX) (n1:¬name=ke) (n2:¬name=f7) (n3:¬name=jd) (n4:¬name=jG) (n5:¬name=pX) (n6:¬name=nA) (n7:¬name=rM) (n8:¬name=nE) (hi:name=xb):SW Tryz.prog ⟨none,1⟩ Tryz.f48.ntmps (Tryz.f48.body.getD .skip) ⟨5,aC 0 [pv 0 0 0,sv name],bB 0 (psB p)⟩ (dy Tryz.prog Tryz.f48.results.toList 1 (cY (cf (ry (p9 ⟨p.l,{ p.s with kind:=7 }⟩))))):=by
 refine aa (ctx:=[⟨_,oz⟩,⟨_,jW⟩,⟨_,oA⟩,⟨_,iZ⟩,⟨_,oB⟩,⟨_,oC⟩,⟨_,oE⟩,⟨_,i6⟩,⟨_,oF⟩,⟨_,fC⟩]) 4000 ?_
 rw [Tryz.ntmps48,Tryz.results48]
 simp only [Tryz.f48,Option.getD_some,aC]
 have m0:¬name=(⟨#[46,116,101,120,116]⟩:ByteArray):=n0
 have m1:¬name=(⟨#[46,100,97,116,97]⟩:ByteArray):=n1
 have m2:¬name=(⟨#[46,115,101,99,116,105,111,110]⟩:ByteArray):=n2
 have m3:¬name=(⟨#[46,103,108,111,98,97,108]⟩:ByteArray):=n3
 have m4:¬name=(⟨#[46,97,108,105,103,110]⟩:ByteArray):=n4
 have m5:¬name=(⟨#[46,98,121,116,101]⟩:ByteArray):=n5
 have m6:¬name=(⟨#[46,119,111,114,100]⟩:ByteArray):=n6
 have m7:¬name=(⟨#[46,113,117,97,100]⟩:ByteArray):=n7
 have m8:¬name=(⟨#[46,97,115,99,105,105]⟩:ByteArray):=n8
 have mi:name=(⟨#[46,101,113,117]⟩:ByteArray):=hi
 simp only [go_sem,psB,psK,psL,aX,bj,aS,aP,am,ao,ak,stK,vlK,byK,ac,aB,aA,xs2,xs1,xs0,bV,aE,ae,aF,ag,aG,aH,aD,List.nodup_cons,List.mem_cons,List.not_mem_nil,or_false,not_or,List.nodup_nil,not_false_eq_true,and_self,aq,ap,aN,aM,ax,aw,au,ar,m0,m1,m2,m3,m4,m5,m6,m7,m8,eq_true mi]
 refine du (ctx:=[]) mixed ⟨[],[(6,[0])],[(1,[0]),(2,[0])]⟩ (by kernel_rfl) ?_
 simp only [go_sem,psB,psK,psL,aX,bj,aS,aP,am,ao,ak,stK,vlK,byK,ac,aB,aA,xs2,xs1,xs0,bV,aE,ae,aF,ag,aG,aH,aD,List.nodup_cons,List.mem_cons,List.not_mem_nil,or_false,not_or,List.nodup_nil,not_false_eq_true,and_self,aq,ap,aN,aM,ax,aw,au,ar]
 have hc:=h.bodyK 7 999 1000
 rcases hr:p9 ⟨p.l,{ p.s with kind:=7 }⟩ with e | q
 ·rw [gS]
  simp only [go_sem,psB,psK,psL,aX,bj,aS,aP,am,ao,ak,stK,vlK,byK,ac,aB,aA,xs2,xs1,xs0,bV,aE,ae,aF,ag,aG,aH,aD,List.nodup_cons,List.mem_cons,List.not_mem_nil,or_false,not_or,List.nodup_nil,not_false_eq_true,and_self,aq,ap,aN,aM,ax,aw,au,ar,xa,w9,aL,bc,aL,hc,hr]
 ·by_cases hq:q.l=[]
  ·rw [ll hq]
   have hl:¬(0:Int)<q.l.length:=by rw [hq];decide
   simp only [go_sem,psB,psK,psL,aX,bj,aS,aP,am,ao,ak,stK,vlK,byK,ac,aB,aA,xs2,xs1,xs0,bV,aE,ae,aF,ag,aG,aH,aD,List.nodup_cons,List.mem_cons,List.not_mem_nil,or_false,not_or,List.nodup_nil,not_false_eq_true,and_self,aq,ap,aN,aM,ax,aw,au,ar,xa,w9,bc,bc,aL,hc,hr,hl,List.length_map]
   exact gz (p:=q) 517 518 519 520 rfl ⟨rfl,rfl,rfl,rfl,rfl,by decide⟩
  ·rw [jv hq]
   have hl:(0:Int)<q.l.length:=by have:=List.length_pos_iff.2 hq;omega
   simp only [go_sem,psB,psK,psL,aX,bj,aS,aP,am,ao,ak,stK,vlK,byK,ac,aB,aA,xs2,xs1,xs0,bV,aE,ae,aF,ag,aG,aH,aD,List.nodup_cons,List.mem_cons,List.not_mem_nil,or_false,not_or,List.nodup_nil,not_false_eq_true,and_self,aq,ap,aN,aM,ax,aw,au,ar,xa,w9,bc,aL,bc,aL,hc,hr,hl,List.length_map]
theorem KA (name:ByteArray) (p:PsV) (n0:¬name=jX) (n1:¬name=ke) (n2:¬name=f7) (n3:¬name=jd) (n4:¬name=jG) (n5:¬name=pX) (n6:¬name=nA) (n7:¬name=rM) (n8:¬name=nE) (n9:¬name=xb):SW Tryz.prog ⟨none,1⟩ Tryz.f48.ntmps (Tryz.f48.body.getD .skip) ⟨5,aC 0 [pv 0 0 0,sv name],bB 0 (psB p)⟩ (dy Tryz.prog Tryz.f48.results.toList 1 (cY (cf (ry (.error 111))))):=by
 refine aa (ctx:=[⟨_,oz⟩,⟨_,jW⟩,⟨_,oA⟩,⟨_,iZ⟩,⟨_,oB⟩,⟨_,oC⟩,⟨_,oE⟩,⟨_,i6⟩,⟨_,oF⟩,⟨_,fC⟩]) 4000 ?_
 rw [Tryz.ntmps48,Tryz.results48]
 simp only [Tryz.f48,Option.getD_some,aC]
 have m0:¬name=(⟨#[46,116,101,120,116]⟩:ByteArray):=n0
 have m1:¬name=(⟨#[46,100,97,116,97]⟩:ByteArray):=n1
 have m2:¬name=(⟨#[46,115,101,99,116,105,111,110]⟩:ByteArray):=n2
 have m3:¬name=(⟨#[46,103,108,111,98,97,108]⟩:ByteArray):=n3
 have m4:¬name=(⟨#[46,97,108,105,103,110]⟩:ByteArray):=n4
 have m5:¬name=(⟨#[46,98,121,116,101]⟩:ByteArray):=n5
 have m6:¬name=(⟨#[46,119,111,114,100]⟩:ByteArray):=n6
 have m7:¬name=(⟨#[46,113,117,97,100]⟩:ByteArray):=n7
 have m8:¬name=(⟨#[46,97,115,99,105,105]⟩:ByteArray):=n8
 have m9:¬name=(⟨#[46,101,113,117]⟩:ByteArray):=n9
 simp only [go_sem,psB,psK,psL,aX,bj,aS,aP,am,ao,ak,stK,vlK,byK,ac,aB,aA,xs2,xs1,xs0,bV,aE,ae,aF,ag,aG,aH,aD,List.nodup_cons,List.mem_cons,List.not_mem_nil,or_false,not_or,List.nodup_nil,not_false_eq_true,and_self,aq,ap,aN,aM,ax,aw,au,ar,m0,m1,m2,m3,m4,m5,m6,m7,m8,m9,gS,aL]
theorem AF (name:ByteArray) (p:PsV) (h:DirOk p):SW Tryz.prog ⟨none,1⟩ Tryz.f48.ntmps (Tryz.f48.body.getD .skip) ⟨5,aC 0 [pv 0 0 0,sv name],bB 0 (psB p)⟩ (dy Tryz.prog Tryz.f48.results.toList 1 (cY (cf (ry (readR name p))))):=by
 unfold readR
 by_cases n0:name=jX
 ·rw [if_pos (.inl n0)];exact KC name p h n0
 by_cases n1:name=ke
 ·rw [if_pos (.inr n1)];exact Kz name p h n0 n1
 rw [if_neg (by rintro (e | e);exact n0 e;exact n1 e)]
 by_cases n2:name=f7
 ·rw [if_pos n2];exact B9 name p h n0 n1 n2
 rw [if_neg n2]
 by_cases n3:name=jd
 ·rw [if_pos n3];exact Ee name p h n0 n1 n2 n3
 rw [if_neg n3]
 by_cases n4:name=jG
 ·rw [if_pos n4];exact Hy name p h n0 n1 n2 n3 n4
 rw [if_neg n4]
 by_cases n5:name=pX
 ·rw [if_pos n5];exact Ky name p h n0 n1 n2 n3 n4 n5
 rw [if_neg n5]
 by_cases n6:name=nA
 ·rw [if_pos n6];exact KD name p h n0 n1 n2 n3 n4 n5 n6
 rw [if_neg n6]
 by_cases n7:name=rM
 ·rw [if_pos n7];exact KB name p h n0 n1 n2 n3 n4 n5 n6 n7
 rw [if_neg n7]
 by_cases n8:name=nE
 ·rw [if_pos n8];exact Hz name p h n0 n1 n2 n3 n4 n5 n6 n7 n8
 rw [if_neg n8]
 by_cases n9:name=xb
 ·rw [if_pos n9];exact OF name p h n0 n1 n2 n3 n4 n5 n6 n7 n8 n9
 rw [if_neg n9]
 exact KA name p n0 n1 n2 n3 n4 n5 n6 n7 n8 n9
def F9:bi Tryz.prog 48 :=
 CE _ _ _ Tryz.func48 rfl (fun _ _=>by go_simp) (aA) ((fun _ p=>DirOk p)) ((fun name p=>cf (yL name p))) (by rw [Tryz.ntmps48];decide) (fun name p h=>by
 rw [OE]
 exact AF name p h)
theorem B8 {id:Nat} {h:ah} {args:List AV}:(F9).run id h args=gu 1 (aX (aA) ((fun _ p=>DirOk p))) (fun x=>cY (((fun name p=>cf (yL name p))) x.1 x.2)) id h args:=rfl
theorem B7 {id:Nat} {h:ah} {args:List AV}:(F9).pan id h args=fX (aX (aA) ((fun _ p=>DirOk p))) (fun x=>cY (((fun name p=>cf (yL name p))) x.1 x.2)) h args:=rfl
end Go.Proofs.YtnhbidpdadkcjaaGreatDoor
