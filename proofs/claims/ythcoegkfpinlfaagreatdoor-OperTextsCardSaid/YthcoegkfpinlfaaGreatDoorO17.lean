import Derived.Test.YthcoegkfpinlfaaGreatDoorO16
set_option linter.unusedVariables false
set_option linter.unusedSimpArgs false
set_option maxRecDepth 100000
set_option maxHeartbeats 8000000
namespace Go.Proofs.YthcoegkfpinlfaaGreatDoor
section
open Go.RowKit
def i8:KA (ByteArray×Int) where
 dec:=fun | [.v (.string s),.v (.int .i64 n)]=>some (s,n) | _=>none
 enc:=fun r=>[.v (.string r.1),.v (.int .i64 r.2)]
 inv:=by
  intro c x h
  split at h
  ·injection h with h;subst h;rfl
  ·cases h
 back:=by intro x;rfl
def Ol:AV:=.s (.l (.v (.slice none 0 0)))
abbrev fF (l:List (ByteArray×Int)):AV:=.s (.l (.d (.sd 2 (l.map i8.enc))))
theorem ZX:SW Tryz.prog ⟨none,0⟩ Tryz.f117.ntmps (Tryz.f117.body.getD .skip) ⟨0,[],[]⟩ (fa Tryz.prog Tryz.f117.results.toList (.ret (fF JU))):=by
 refine aC (ctx:=[]) 4000 ?_
 rw [Tryz.ntmps117,Tryz.results117]
 simp only [Tryz.f117,Option.getD_some,aN]
 simp only [List.map_nil,Nat.le_refl,bD,bH,aw,au,ak,an,aa,ab,aOp,evT,aW,putT,aG,hget,cellsOf,LV.one,Value.oneCell',bZ,aU,cH,iM,bQ,bu,List.getElem?_cons_zero,List.getElem?_cons_succ,List.map_cons,reduceIte,reduceCtorEq,Nat.reduceEqDiff,Nat.reduceAdd,Nat.reduceLT,Nat.reduceLeDiff,Nat.reduceMul,decide_true,true_and,List.cons_append,List.nil_append,List.append_nil,List.take_succ_cons,List.take_zero,List.drop_succ_cons,List.drop_zero,List.length_cons,List.length_nil,or_false,and_self,Bool.true_and,Bool.and_self,Nat.zero_add,ac,bx,ofD,ao,bG,aQ,bz,br,AV.toD,SV.toD,LV.toD,Option.getD_some,PO.ret.injEq,eF,eE,dk,lO,JU,i8]
 rfl
def Uc:cK Tryz.prog 117 :=
 mk0 _ _ _ Tryz.func117 rfl (fun _ _=>by go_simp) (True) ((.ret (fF JU))) (fun _=>ZX)
theorem CD {id:Nat} {h:aF} {args:List AV}:(Uc).run id h args=be (fx (True)) (fun _=>(.ret (fF JU))) h args:=rfl
theorem CG {id:Nat} {h:aF} {args:List AV}:(Uc).pan id h args=bi (fx (True)) (fun _=>(.ret (fF JU))) h args:=rfl
theorem mods_sw:SW Tryz.prog ⟨none,0⟩ Tryz.f118.ntmps (Tryz.f118.body.getD .skip) ⟨0,[],[]⟩ (fa Tryz.prog Tryz.f118.results.toList (.ret (fF ME))):=by
 refine aC (ctx:=[]) 4000 ?_
 rw [Tryz.ntmps118,Tryz.results118]
 simp only [Tryz.f118,Option.getD_some,aN]
 simp only [List.map_nil,Nat.le_refl,bD,bH,aw,au,ak,an,aa,ab,aOp,evT,aW,putT,aG,hget,cellsOf,LV.one,Value.oneCell',bZ,aU,cH,iM,bQ,bu,List.getElem?_cons_zero,List.getElem?_cons_succ,List.map_cons,reduceIte,reduceCtorEq,Nat.reduceEqDiff,Nat.reduceAdd,Nat.reduceLT,Nat.reduceLeDiff,Nat.reduceMul,decide_true,true_and,List.cons_append,List.nil_append,List.append_nil,List.take_succ_cons,List.take_zero,List.drop_succ_cons,List.drop_zero,List.length_cons,List.length_nil,or_false,and_self,Bool.true_and,Bool.and_self,Nat.zero_add,ac,bx,ofD,ao,bG,aQ,bz,br,AV.toD,SV.toD,LV.toD,Option.getD_some,PO.ret.injEq,eF,eE,dk,lO,ME,i8]
 rfl
def Z4:cK Tryz.prog 118 :=
 mk0 _ _ _ Tryz.func118 rfl (fun _ _=>by go_simp) (True) ((.ret (fF ME))) (fun _=>mods_sw)
theorem DZ {id:Nat} {h:aF} {args:List AV}:(Z4).run id h args=be (fx (True)) (fun _=>(.ret (fF ME))) h args:=rfl
theorem D0 {id:Nat} {h:aF} {args:List AV}:(Z4).pan id h args=bi (fx (True)) (fun _=>(.ret (fF ME))) h args:=rfl
theorem S9:SW Tryz.prog ⟨none,0⟩ Tryz.f119.ntmps (Tryz.f119.body.getD .skip) ⟨0,[],[]⟩ (fa Tryz.prog Tryz.f119.results.toList (.ret (fF sD))):=by
 refine aC (ctx:=[]) 4000 ?_
 rw [Tryz.ntmps119,Tryz.results119]
 simp only [Tryz.f119,Option.getD_some,aN]
 simp only [List.map_nil,Nat.le_refl,bD,bH,aw,au,ak,an,aa,ab,aOp,evT,aW,putT,aG,hget,cellsOf,LV.one,Value.oneCell',bZ,aU,cH,iM,bQ,bu,List.getElem?_cons_zero,List.getElem?_cons_succ,List.map_cons,reduceIte,reduceCtorEq,Nat.reduceEqDiff,Nat.reduceAdd,Nat.reduceLT,Nat.reduceLeDiff,Nat.reduceMul,decide_true,true_and,List.cons_append,List.nil_append,List.append_nil,List.take_succ_cons,List.take_zero,List.drop_succ_cons,List.drop_zero,List.length_cons,List.length_nil,or_false,and_self,Bool.true_and,Bool.and_self,Nat.zero_add,ac,bx,ofD,ao,bG,aQ,bz,br,AV.toD,SV.toD,LV.toD,Option.getD_some,PO.ret.injEq,eF,eE,dk,lO,sD,i8]
 rfl
def M3:cK Tryz.prog 119 :=
 mk0 _ _ _ Tryz.func119 rfl (fun _ _=>by go_simp) (True) ((.ret (fF sD))) (fun _=>S9)
theorem l8 {id:Nat} {h:aF} {args:List AV}:(M3).run id h args=be (fx (True)) (fun _=>(.ret (fF sD))) h args:=rfl
theorem mg {id:Nat} {h:aF} {args:List AV}:(M3).pan id h args=bi (fx (True)) (fun _=>(.ret (fF sD))) h args:=rfl
theorem ZO:SW Tryz.prog ⟨none,0⟩ Tryz.f120.ntmps (Tryz.f120.body.getD .skip) ⟨0,[],[]⟩ (fa Tryz.prog Tryz.f120.results.toList (.ret (fF JL))):=by
 refine aC (ctx:=[]) 4000 ?_
 rw [Tryz.ntmps120,Tryz.results120]
 simp only [Tryz.f120,Option.getD_some,aN]
 simp only [List.map_nil,Nat.le_refl,bD,bH,aw,au,ak,an,aa,ab,aOp,evT,aW,putT,aG,hget,cellsOf,LV.one,Value.oneCell',bZ,aU,cH,iM,bQ,bu,List.getElem?_cons_zero,List.getElem?_cons_succ,List.map_cons,reduceIte,reduceCtorEq,Nat.reduceEqDiff,Nat.reduceAdd,Nat.reduceLT,Nat.reduceLeDiff,Nat.reduceMul,decide_true,true_and,List.cons_append,List.nil_append,List.append_nil,List.take_succ_cons,List.take_zero,List.drop_succ_cons,List.drop_zero,List.length_cons,List.length_nil,or_false,and_self,Bool.true_and,Bool.and_self,Nat.zero_add,ac,bx,ofD,ao,bG,aQ,bz,br,AV.toD,SV.toD,LV.toD,Option.getD_some,PO.ret.injEq,eF,eE,dk,lO,JL,i8]
 rfl
def T9:cK Tryz.prog 120 :=
 mk0 _ _ _ Tryz.func120 rfl (fun _ _=>by go_simp) (True) ((.ret (fF JL))) (fun _=>ZO)
theorem Cw {id:Nat} {h:aF} {args:List AV}:(T9).run id h args=be (fx (True)) (fun _=>(.ret (fF JL))) h args:=rfl
theorem CH {id:Nat} {h:aF} {args:List AV}:(T9).pan id h args=bi (fx (True)) (fun _=>(.ret (fF JL))) h args:=rfl
theorem Uz:SW Tryz.prog ⟨none,0⟩ Tryz.f121.ntmps (Tryz.f121.body.getD .skip) ⟨0,[],[]⟩ (fa Tryz.prog Tryz.f121.results.toList (.ret (fF lU))):=by
 refine aC (ctx:=[]) 4000 ?_
 rw [Tryz.ntmps121,Tryz.results121]
 simp only [Tryz.f121,Option.getD_some,aN]
 simp only [List.map_nil,Nat.le_refl,bD,bH,aw,au,ak,an,aa,ab,aOp,evT,aW,putT,aG,hget,cellsOf,LV.one,Value.oneCell',bZ,aU,cH,iM,bQ,bu,List.getElem?_cons_zero,List.getElem?_cons_succ,List.map_cons,reduceIte,reduceCtorEq,Nat.reduceEqDiff,Nat.reduceAdd,Nat.reduceLT,Nat.reduceLeDiff,Nat.reduceMul,decide_true,true_and,List.cons_append,List.nil_append,List.append_nil,List.take_succ_cons,List.take_zero,List.drop_succ_cons,List.drop_zero,List.length_cons,List.length_nil,or_false,and_self,Bool.true_and,Bool.and_self,Nat.zero_add,ac,bx,ofD,ao,bG,aQ,bz,br,AV.toD,SV.toD,LV.toD,Option.getD_some,PO.ret.injEq,eF,eE,dk,lO,lU,i8]
 rfl
def Pv:cK Tryz.prog 121 :=
 mk0 _ _ _ Tryz.func121 rfl (fun _ _=>by go_simp) (True) ((.ret (fF lU))) (fun _=>Uz)
theorem sf {id:Nat} {h:aF} {args:List AV}:(Pv).run id h args=be (fx (True)) (fun _=>(.ret (fF lU))) h args:=rfl
theorem sm {id:Nat} {h:aF} {args:List AV}:(Pv).pan id h args=bi (fx (True)) (fun _=>(.ret (fF lU))) h args:=rfl
theorem Vk:SW Tryz.prog ⟨none,0⟩ Tryz.f122.ntmps (Tryz.f122.body.getD .skip) ⟨0,[],[]⟩ (fa Tryz.prog Tryz.f122.results.toList (.ret (fF xF))):=by
 refine aC (ctx:=[]) 4000 ?_
 rw [Tryz.ntmps122,Tryz.results122]
 simp only [Tryz.f122,Option.getD_some,aN]
 simp only [List.map_nil,Nat.le_refl,bD,bH,aw,au,ak,an,aa,ab,aOp,evT,aW,putT,aG,hget,cellsOf,LV.one,Value.oneCell',bZ,aU,cH,iM,bQ,bu,List.getElem?_cons_zero,List.getElem?_cons_succ,List.map_cons,reduceIte,reduceCtorEq,Nat.reduceEqDiff,Nat.reduceAdd,Nat.reduceLT,Nat.reduceLeDiff,Nat.reduceMul,decide_true,true_and,List.cons_append,List.nil_append,List.append_nil,List.take_succ_cons,List.take_zero,List.drop_succ_cons,List.drop_zero,List.length_cons,List.length_nil,or_false,and_self,Bool.true_and,Bool.and_self,Nat.zero_add,ac,bx,ofD,ao,bG,aQ,bz,br,AV.toD,SV.toD,LV.toD,Option.getD_some,PO.ret.injEq,eF,eE,dk,lO,xF,i8]
 rfl
def Ps:cK Tryz.prog 122 :=
 mk0 _ _ _ Tryz.func122 rfl (fun _ _=>by go_simp) (True) ((.ret (fF xF))) (fun _=>Vk)
theorem si {id:Nat} {h:aF} {args:List AV}:(Ps).run id h args=be (fx (True)) (fun _=>(.ret (fF xF))) h args:=rfl
theorem sk {id:Nat} {h:aF} {args:List AV}:(Ps).pan id h args=bi (fx (True)) (fun _=>(.ret (fF xF))) h args:=rfl
theorem YQ:SW Tryz.prog ⟨none,0⟩ Tryz.f123.ntmps (Tryz.f123.body.getD .skip) ⟨0,[],[]⟩ (fa Tryz.prog Tryz.f123.results.toList (.ret (fF Kb))):=by
 refine aC (ctx:=[]) 4000 ?_
 rw [Tryz.ntmps123,Tryz.results123]
 simp only [Tryz.f123,Option.getD_some,aN]
 simp only [List.map_nil,Nat.le_refl,bD,bH,aw,au,ak,an,aa,ab,aOp,evT,aW,putT,aG,hget,cellsOf,LV.one,Value.oneCell',bZ,aU,cH,iM,bQ,bu,List.getElem?_cons_zero,List.getElem?_cons_succ,List.map_cons,reduceIte,reduceCtorEq,Nat.reduceEqDiff,Nat.reduceAdd,Nat.reduceLT,Nat.reduceLeDiff,Nat.reduceMul,decide_true,true_and,List.cons_append,List.nil_append,List.append_nil,List.take_succ_cons,List.take_zero,List.drop_succ_cons,List.drop_zero,List.length_cons,List.length_nil,or_false,and_self,Bool.true_and,Bool.and_self,Nat.zero_add,ac,bx,ofD,ao,bG,aQ,bz,br,AV.toD,SV.toD,LV.toD,Option.getD_some,PO.ret.injEq,eF,eE,dk,lO,Kb,i8]
 rfl
def Ul:cK Tryz.prog 123 :=
 mk0 _ _ _ Tryz.func123 rfl (fun _ _=>by go_simp) (True) ((.ret (fF Kb))) (fun _=>YQ)
theorem CA {id:Nat} {h:aF} {args:List AV}:(Ul).run id h args=be (fx (True)) (fun _=>(.ret (fF Kb))) h args:=rfl
theorem Cz {id:Nat} {h:aF} {args:List AV}:(Ul).pan id h args=bi (fx (True)) (fun _=>(.ret (fF Kb))) h args:=rfl
def lR (k:Int):AV:=if sj k=[] then Ol else fF (sj k)
theorem aah (k:Int):SW Tryz.prog ⟨none,0⟩ Tryz.f66.ntmps (Tryz.f66.body.getD .skip) ⟨0,aN 0 [(aR .i64).enc k],[]⟩ (fa Tryz.prog Tryz.f66.results.toList (.ret (lR k))):=by
 refine aC (ctx:=[⟨_,Uc⟩,⟨_,Z4⟩,⟨_,M3⟩,⟨_,T9⟩,⟨_,Pv⟩,⟨_,Ps⟩,⟨_,Ul⟩]) 4000 ?_
 rw [Tryz.ntmps66,Tryz.results66]
 simp only [Tryz.f66,Option.getD_some,aN]
 by_cases h2:k=2
 ·have e:lR k=fF JU:=by rw [h2];rfl
  simp only [List.map_nil,bD,bH,aP,aw,au,ai,ak,an,ae,ah,aa,ab,aO,aOp,evT,aW,putT,aG,bC,az,bO,reduceIte,reduceCtorEq,Nat.reduceEqDiff,Nat.reduceAdd,Nat.reduceLT,decide_true,true_and,forall_const,not_true_eq_false,not_false_eq_true,List.append_nil,Bool.false_eq_true,false_implies,and_self,Bool.true_and,Bool.and_self,Nat.zero_add,ac,bx,bX,ax,ofD,ao,bG,aQ,bz,aN,be,bi,bh,br,AV.toD,SV.toD,LV.toD,fx,aR,AV.plain,SV.plain,LV.plain,Option.getD_some,PO.ret.injEq,CD,CG,DZ,D0,l8,mg,Cw,CH,sf,sm,si,sk,CA,Cz,e,eq_true h2]
 by_cases h3:k=3
 ·have e:lR k=fF ME:=by rw [h3];rfl
  simp only [List.map_nil,bD,bH,aP,aw,au,ai,ak,an,ae,ah,aa,ab,aO,aOp,evT,aW,putT,aG,bC,az,bO,reduceIte,reduceCtorEq,Nat.reduceEqDiff,Nat.reduceAdd,Nat.reduceLT,decide_true,true_and,forall_const,not_true_eq_false,not_false_eq_true,List.append_nil,Bool.false_eq_true,false_implies,and_self,Bool.true_and,Bool.and_self,Nat.zero_add,ac,bx,bX,ax,ofD,ao,bG,aQ,bz,aN,be,bi,bh,br,AV.toD,SV.toD,LV.toD,fx,aR,AV.plain,SV.plain,LV.plain,Option.getD_some,PO.ret.injEq,CD,CG,DZ,D0,l8,mg,Cw,CH,sf,sm,si,sk,CA,Cz,e,h2,eq_true h3]
 by_cases h4:k=4
 ·have e:lR k=fF sD:=by rw [h4];rfl
  simp only [List.map_nil,bD,bH,aP,aw,au,ai,ak,an,ae,ah,aa,ab,aO,aOp,evT,aW,putT,aG,bC,az,bO,reduceIte,reduceCtorEq,Nat.reduceEqDiff,Nat.reduceAdd,Nat.reduceLT,decide_true,true_and,forall_const,not_true_eq_false,not_false_eq_true,List.append_nil,Bool.false_eq_true,false_implies,and_self,Bool.true_and,Bool.and_self,Nat.zero_add,ac,bx,bX,ax,ofD,ao,bG,aQ,bz,aN,be,bi,bh,br,AV.toD,SV.toD,LV.toD,fx,aR,AV.plain,SV.plain,LV.plain,Option.getD_some,PO.ret.injEq,CD,CG,DZ,D0,l8,mg,Cw,CH,sf,sm,si,sk,CA,Cz,e,h2,h3,eq_true h4]
 by_cases h5:k=5
 ·have e:lR k=fF JL:=by rw [h5];rfl
  simp only [List.map_nil,bD,bH,aP,aw,au,ai,ak,an,ae,ah,aa,ab,aO,aOp,evT,aW,putT,aG,bC,az,bO,reduceIte,reduceCtorEq,Nat.reduceEqDiff,Nat.reduceAdd,Nat.reduceLT,decide_true,true_and,forall_const,not_true_eq_false,not_false_eq_true,List.append_nil,Bool.false_eq_true,false_implies,and_self,Bool.true_and,Bool.and_self,Nat.zero_add,ac,bx,bX,ax,ofD,ao,bG,aQ,bz,aN,be,bi,bh,br,AV.toD,SV.toD,LV.toD,fx,aR,AV.plain,SV.plain,LV.plain,Option.getD_some,PO.ret.injEq,CD,CG,DZ,D0,l8,mg,Cw,CH,sf,sm,si,sk,CA,Cz,e,h2,h3,h4,eq_true h5]
 by_cases h6:k=6
 ·have e:lR k=fF lU:=by rw [h6];rfl
  simp only [List.map_nil,bD,bH,aP,aw,au,ai,ak,an,ae,ah,aa,ab,aO,aOp,evT,aW,putT,aG,bC,az,bO,reduceIte,reduceCtorEq,Nat.reduceEqDiff,Nat.reduceAdd,Nat.reduceLT,decide_true,true_and,forall_const,not_true_eq_false,not_false_eq_true,List.append_nil,Bool.false_eq_true,false_implies,and_self,Bool.true_and,Bool.and_self,Nat.zero_add,ac,bx,bX,ax,ofD,ao,bG,aQ,bz,aN,be,bi,bh,br,AV.toD,SV.toD,LV.toD,fx,aR,AV.plain,SV.plain,LV.plain,Option.getD_some,PO.ret.injEq,CD,CG,DZ,D0,l8,mg,Cw,CH,sf,sm,si,sk,CA,Cz,e,h2,h3,h4,h5,eq_true h6]
 by_cases h7:k=7
 ·have e:lR k=fF xF:=by rw [h7];rfl
  simp only [List.map_nil,bD,bH,aP,aw,au,ai,ak,an,ae,ah,aa,ab,aO,aOp,evT,aW,putT,aG,bC,az,bO,reduceIte,reduceCtorEq,Nat.reduceEqDiff,Nat.reduceAdd,Nat.reduceLT,decide_true,true_and,forall_const,not_true_eq_false,not_false_eq_true,List.append_nil,Bool.false_eq_true,false_implies,and_self,Bool.true_and,Bool.and_self,Nat.zero_add,ac,bx,bX,ax,ofD,ao,bG,aQ,bz,aN,be,bi,bh,br,AV.toD,SV.toD,LV.toD,fx,aR,AV.plain,SV.plain,LV.plain,Option.getD_some,PO.ret.injEq,CD,CG,DZ,D0,l8,mg,Cw,CH,sf,sm,si,sk,CA,Cz,e,h2,h3,h4,h5,h6,eq_true h7]
 by_cases h8:k=8
 ·have e:lR k=fF Kb:=by rw [h8];rfl
  simp only [List.map_nil,bD,bH,aP,aw,au,ai,ak,an,ae,ah,aa,ab,aO,aOp,evT,aW,putT,aG,bC,az,bO,reduceIte,reduceCtorEq,Nat.reduceEqDiff,Nat.reduceAdd,Nat.reduceLT,decide_true,true_and,forall_const,not_true_eq_false,not_false_eq_true,List.append_nil,Bool.false_eq_true,false_implies,and_self,Bool.true_and,Bool.and_self,Nat.zero_add,ac,bx,bX,ax,ofD,ao,bG,aQ,bz,aN,be,bi,bh,br,AV.toD,SV.toD,LV.toD,fx,aR,AV.plain,SV.plain,LV.plain,Option.getD_some,PO.ret.injEq,CD,CG,DZ,D0,l8,mg,Cw,CH,sf,sm,si,sk,CA,Cz,e,h2,h3,h4,h5,h6,h7,eq_true h8]
 simp only [List.map_nil,bD,bH,aP,aw,au,ai,ak,an,ae,ah,aa,ab,aO,aOp,evT,aW,putT,aG,bC,az,bO,reduceIte,reduceCtorEq,Nat.reduceEqDiff,Nat.reduceAdd,Nat.reduceLT,decide_true,true_and,forall_const,not_true_eq_false,not_false_eq_true,List.append_nil,Bool.false_eq_true,false_implies,and_self,Bool.true_and,Bool.and_self,Nat.zero_add,ac,bx,bX,ax,ofD,ao,bG,aQ,bz,aN,be,bi,bh,br,AV.toD,SV.toD,LV.toD,fx,aR,AV.plain,SV.plain,LV.plain,Option.getD_some,PO.ret.injEq,h2,h3,h4,h5,h6,h7,h8,lR,sj,Ol]
def RD:cK Tryz.prog 66 :=
 mk1 _ _ _ Tryz.func66 rfl (fun _ _=>by go_simp) (aR .i64) ((fun _=>True)) ((fun k=>.ret (lR k))) (by rw [Tryz.ntmps66];decide) (fun k _=>aah k)
theorem KX {id:Nat} {h:aF} {args:List AV}:(RD).run id h args=be (aV (aR .i64) ((fun _=>True))) ((fun k=>.ret (lR k))) h args:=rfl
theorem K4 {id:Nat} {h:aF} {args:List AV}:(RD).pan id h args=bi (aV (aR .i64) ((fun _=>True))) ((fun k=>.ret (lR k))) h args:=rfl
end
section
open Go.RowKit
theorem WM (k:Int):SW Tryz.prog ⟨none,0⟩ Tryz.f90.ntmps (Tryz.f90.body.getD .skip) ⟨0,aN 0 [(aR .i64).enc k],[]⟩ (fa Tryz.prog Tryz.f90.results.toList (.ret (lR k))):=by
 refine aC (ctx:=[]) 4000 ?_
 rw [Tryz.ntmps90,Tryz.results90]
 simp only [Tryz.f90,Option.getD_some,aN]
 by_cases h2:k=2
 ·subst h2
  have e:lR 2=fF JU:=rfl
  simp only [List.map_nil,Nat.le_refl,bD,bH,aw,au,ak,an,ae,ah,aa,ab,ar,aj,aO,Int.reduceBEq,aOp,evT,aW,putT,aG,hget,bC,az,cellsOf,LV.one,Value.oneCell',bZ,aU,cH,iM,bQ,bu,List.getElem?_cons_zero,List.getElem?_cons_succ,List.map_cons,reduceIte,reduceCtorEq,Nat.reduceEqDiff,Nat.reduceAdd,Nat.reduceLT,Nat.reduceLeDiff,Nat.reduceMul,decide_true,true_and,forall_const,not_false_eq_true,List.cons_append,List.nil_append,List.append_nil,List.take_succ_cons,List.take_zero,List.drop_succ_cons,List.drop_zero,List.length_cons,List.length_nil,or_false,false_implies,and_self,Bool.true_and,Bool.and_self,Nat.zero_add,ac,bx,ofD,ao,bG,aQ,bz,aN,br,AV.toD,SV.toD,LV.toD,aR,Option.getD_some,PO.ret.injEq,db,da,ep,i7,e,JU,i8]
  rfl
 by_cases h3:k=3
 ·subst h3
  have e:lR 3=fF ME:=rfl
  simp only [List.map_nil,Nat.le_refl,bD,bH,aw,au,ak,an,ae,ah,aa,ab,ar,aj,aO,Int.reduceBEq,aOp,evT,aW,putT,aG,hget,bC,az,cellsOf,LV.one,Value.oneCell',bZ,aU,cH,iM,bQ,bu,List.getElem?_cons_zero,List.getElem?_cons_succ,List.map_cons,reduceIte,reduceCtorEq,Nat.reduceEqDiff,Nat.reduceAdd,Nat.reduceLT,Nat.reduceLeDiff,Nat.reduceMul,decide_true,true_and,forall_const,not_false_eq_true,List.cons_append,List.nil_append,List.append_nil,List.take_succ_cons,List.take_zero,List.drop_succ_cons,List.drop_zero,List.length_cons,List.length_nil,or_false,false_implies,and_self,Bool.true_and,Bool.and_self,Nat.zero_add,ac,bx,ofD,ao,bG,aQ,bz,aN,br,AV.toD,SV.toD,LV.toD,aR,Option.getD_some,PO.ret.injEq,db,da,ep,i7,e,ME,i8]
  rfl
 by_cases h4:k=4
 ·subst h4
  have e:lR 4=fF sD:=rfl
  simp only [List.map_nil,Nat.le_refl,bD,bH,aw,au,ak,an,ae,ah,aa,ab,ar,aj,aO,Int.reduceBEq,aOp,evT,aW,putT,aG,hget,bC,az,cellsOf,LV.one,Value.oneCell',bZ,aU,cH,iM,bQ,bu,List.getElem?_cons_zero,List.getElem?_cons_succ,List.map_cons,reduceIte,reduceCtorEq,Nat.reduceEqDiff,Nat.reduceAdd,Nat.reduceLT,Nat.reduceLeDiff,Nat.reduceMul,decide_true,true_and,forall_const,not_false_eq_true,List.cons_append,List.nil_append,List.append_nil,List.take_succ_cons,List.take_zero,List.drop_succ_cons,List.drop_zero,List.length_cons,List.length_nil,or_false,false_implies,and_self,Bool.true_and,Bool.and_self,Nat.zero_add,ac,bx,ofD,ao,bG,aQ,bz,aN,br,AV.toD,SV.toD,LV.toD,aR,Option.getD_some,PO.ret.injEq,db,da,ep,i7,e,sD,i8]
  rfl
 by_cases h5:k=5
 ·subst h5
  have e:lR 5=fF JL:=rfl
  simp only [List.map_nil,Nat.le_refl,bD,bH,aw,au,ak,an,ae,ah,aa,ab,ar,aj,aO,Int.reduceBEq,aOp,evT,aW,putT,aG,hget,bC,az,cellsOf,LV.one,Value.oneCell',bZ,aU,cH,iM,bQ,bu,List.getElem?_cons_zero,List.getElem?_cons_succ,List.map_cons,reduceIte,reduceCtorEq,Nat.reduceEqDiff,Nat.reduceAdd,Nat.reduceLT,Nat.reduceLeDiff,Nat.reduceMul,decide_true,true_and,forall_const,not_false_eq_true,List.cons_append,List.nil_append,List.append_nil,List.take_succ_cons,List.take_zero,List.drop_succ_cons,List.drop_zero,List.length_cons,List.length_nil,or_false,false_implies,and_self,Bool.true_and,Bool.and_self,Nat.zero_add,ac,bx,ofD,ao,bG,aQ,bz,aN,br,AV.toD,SV.toD,LV.toD,aR,Option.getD_some,PO.ret.injEq,db,da,ep,i7,e,JL,i8]
  rfl
 by_cases h6:k=6
 ·subst h6
  have e:lR 6=fF lU:=rfl
  simp only [List.map_nil,Nat.le_refl,bD,bH,aw,au,ak,an,ae,ah,aa,ab,ar,aj,aO,Int.reduceBEq,aOp,evT,aW,putT,aG,hget,bC,az,cellsOf,LV.one,Value.oneCell',bZ,aU,cH,iM,bQ,bu,List.getElem?_cons_zero,List.getElem?_cons_succ,List.map_cons,reduceIte,reduceCtorEq,Nat.reduceEqDiff,Nat.reduceAdd,Nat.reduceLT,Nat.reduceLeDiff,Nat.reduceMul,decide_true,true_and,forall_const,not_false_eq_true,List.cons_append,List.nil_append,List.append_nil,List.take_succ_cons,List.take_zero,List.drop_succ_cons,List.drop_zero,List.length_cons,List.length_nil,or_false,false_implies,and_self,Bool.true_and,Bool.and_self,Nat.zero_add,ac,bx,ofD,ao,bG,aQ,bz,aN,br,AV.toD,SV.toD,LV.toD,aR,Option.getD_some,PO.ret.injEq,db,da,ep,i7,e,lU,i8]
  rfl
 by_cases h7:k=7
 ·subst h7
  have e:lR 7=fF xF:=rfl
  simp only [List.map_nil,Nat.le_refl,bD,bH,aw,au,ak,an,ae,ah,aa,ab,ar,aj,aO,Int.reduceBEq,aOp,evT,aW,putT,aG,hget,bC,az,cellsOf,LV.one,Value.oneCell',bZ,aU,cH,iM,bQ,bu,List.getElem?_cons_zero,List.getElem?_cons_succ,List.map_cons,reduceIte,reduceCtorEq,Nat.reduceEqDiff,Nat.reduceAdd,Nat.reduceLT,Nat.reduceLeDiff,Nat.reduceMul,decide_true,true_and,forall_const,not_false_eq_true,List.cons_append,List.nil_append,List.append_nil,List.take_succ_cons,List.take_zero,List.drop_succ_cons,List.drop_zero,List.length_cons,List.length_nil,or_false,false_implies,and_self,Bool.true_and,Bool.and_self,Nat.zero_add,ac,bx,ofD,ao,bG,aQ,bz,aN,br,AV.toD,SV.toD,LV.toD,aR,Option.getD_some,PO.ret.injEq,db,da,ep,i7,e,xF,i8]
  rfl
 by_cases h8:k=8
 ·subst h8
  have e:lR 8=fF Kb:=rfl
  simp only [List.map_nil,Nat.le_refl,bD,bH,aw,au,ak,an,ae,ah,aa,ab,ar,aj,aO,Int.reduceBEq,aOp,evT,aW,putT,aG,hget,bC,az,cellsOf,LV.one,Value.oneCell',bZ,aU,cH,iM,bQ,bu,List.getElem?_cons_zero,List.getElem?_cons_succ,List.map_cons,reduceIte,reduceCtorEq,Nat.reduceEqDiff,Nat.reduceAdd,Nat.reduceLT,Nat.reduceLeDiff,Nat.reduceMul,decide_true,true_and,forall_const,not_false_eq_true,List.cons_append,List.nil_append,List.append_nil,List.take_succ_cons,List.take_zero,List.drop_succ_cons,List.drop_zero,List.length_cons,List.length_nil,or_false,false_implies,and_self,Bool.true_and,Bool.and_self,Nat.zero_add,ac,bx,ofD,ao,bG,aQ,bz,aN,br,AV.toD,SV.toD,LV.toD,aR,Option.getD_some,PO.ret.injEq,db,da,ep,i7,e,Kb,i8]
  rfl
 simp only [List.map_nil,Nat.le_refl,bD,bH,aw,au,ak,an,ae,ah,aa,ab,ar,aj,aO,Int.reduceBEq,aOp,evT,aW,putT,aG,hget,bC,az,cellsOf,LV.one,Value.oneCell',bZ,aU,cH,iM,bQ,bu,List.getElem?_cons_zero,List.getElem?_cons_succ,List.map_cons,reduceIte,reduceCtorEq,Nat.reduceEqDiff,Nat.reduceAdd,Nat.reduceLT,Nat.reduceLeDiff,Nat.reduceMul,decide_true,true_and,forall_const,not_false_eq_true,List.cons_append,List.nil_append,List.append_nil,List.take_succ_cons,List.take_zero,List.drop_succ_cons,List.drop_zero,List.length_cons,List.length_nil,or_false,false_implies,and_self,Bool.true_and,Bool.and_self,Nat.zero_add,ac,bx,ofD,ao,bG,aQ,bz,aN,br,AV.toD,SV.toD,LV.toD,aR,Option.getD_some,PO.ret.injEq,db,da,ep,i7,h2,h3,h4,h5,h6,h7,h8,lR,sj,Ol]
def Ob:cK Tryz.prog 90 :=
 mk1 _ _ _ Tryz.func90 rfl (fun _ _=>by go_simp) (aR .i64) ((fun _=>True)) ((fun k=>.ret (lR k))) (by rw [Tryz.ntmps90];decide) (fun k _=>WM k)
theorem sZ {id:Nat} {h:aF} {args:List AV}:(Ob).run id h args=be (aV (aR .i64) ((fun _=>True))) ((fun k=>.ret (lR k))) h args:=rfl
theorem sT {id:Nat} {h:aF} {args:List AV}:(Ob).pan id h args=bi (aV (aR .i64) ((fun _=>True))) ((fun k=>.ret (lR k))) h args:=rfl
end
end Go.Proofs.YthcoegkfpinlfaaGreatDoor
