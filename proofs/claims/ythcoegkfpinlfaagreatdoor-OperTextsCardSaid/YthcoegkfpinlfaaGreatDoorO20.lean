import Derived.Test.YthcoegkfpinlfaaGreatDoorO18
set_option linter.unusedVariables false
set_option linter.unusedSimpArgs false
set_option maxRecDepth 100000
set_option maxHeartbeats 8000000
namespace Go.Proofs.YthcoegkfpinlfaaGreatDoor
open Go.RowKit
theorem Zo (k n:Int):SW Tryz.prog ⟨none,0⟩ Tryz.f45.ntmps (Tryz.f45.body.getD .skip) ⟨0,aN 0 [(aR .i64).enc k,(aR .i64).enc n],[]⟩ (fa Tryz.prog Tryz.f45.results.toList (.ret (cZ (cG k n)))):=by
 refine aC (ctx:=[⟨_,Jw⟩,⟨_,Ob⟩,⟨_,Px⟩]) 4000 ?_
 rw [Tryz.ntmps45,Tryz.results45]
 simp only [Tryz.f45,Option.getD_some,aN]
 by_cases hk:k=1
 ·subst hk
  by_cases h1:n<0
  ·simp only [List.map_nil,Nat.le_refl,List.length_map,bD,bH,aE,aP,aw,au,aH,ai,ak,an,ae,ah,aa,aB,aA,ap,ay,aK,aJ,ab,ar,aj,bN,aO,aI,bt,cD,cy,bA,Int.reduceBEq,Int.reduceEq,ag,aq,aD,aOp,evT,aW,putT,aG,gAt,bL,bC,bm,co,aX,bJ,ct,az,cellsOf,LV.one,Value.oneCell',bZ,aU,bQ,bO,List.getElem?_cons_zero,List.getElem?_cons_succ,List.map_cons,Option.map_some,Int.toNat_natCast,Option.isSome_some,List.getElem?_map,reduceIte,reduceCtorEq,Nat.reduceEqDiff,Nat.reduceAdd,Nat.reduceLT,Nat.reduceLeDiff,decide_true,decide_false,true_and,and_true,forall_const,not_true_eq_false,not_false_eq_true,List.cons_append,List.nil_append,List.append_nil,beq_iff_eq,beq_eq_false_iff_ne,ne_eq,List.take_succ_cons,List.take_zero,List.drop_succ_cons,List.drop_zero,List.length_cons,List.length_nil,true_or,or_true,or_false,implies_true,Bool.false_eq_true,false_implies,and_self,Bool.and_true,Bool.true_and,Bool.and_self,Nat.zero_add,ac,bx,bX,ax,LV.toD0,cz,ofD,cf,ao,bG,aQ,bV,bz,aN,be,bi,bh,br,AV.toD,SV.toD,LV.toD,aV,aR,cB,AV.plain,SV.plain,LV.plain,List.all_cons,List.all_nil,Int.natCast_nonneg,ge_iff_le,gt_iff_lt,Option.getD_some,PO.ret.injEq,dE,cE,cN,bY,bK,eg,db,da,ce,ca,h1,cZ,cG,aS]
  by_cases h2:128≤n
  ·have h2':127<n:=by omega
   simp only [List.map_nil,Nat.le_refl,List.length_map,bD,bH,aE,aP,aw,au,aH,ai,ak,an,ae,ah,aa,aB,aA,ap,ay,aK,aJ,ab,ar,aj,bN,aO,aI,bt,cD,cy,bA,Int.reduceBEq,Int.reduceEq,ag,aq,aD,aOp,evT,aW,putT,aG,gAt,bL,bC,bm,co,aX,bJ,ct,az,cellsOf,LV.one,Value.oneCell',bZ,aU,bQ,bO,List.getElem?_cons_zero,List.getElem?_cons_succ,List.map_cons,Option.map_some,Int.toNat_natCast,Option.isSome_some,List.getElem?_map,reduceIte,reduceCtorEq,Nat.reduceEqDiff,Nat.reduceAdd,Nat.reduceLT,Nat.reduceLeDiff,decide_true,decide_false,true_and,and_true,forall_const,not_true_eq_false,not_false_eq_true,List.cons_append,List.nil_append,List.append_nil,beq_iff_eq,beq_eq_false_iff_ne,ne_eq,List.take_succ_cons,List.take_zero,List.drop_succ_cons,List.drop_zero,List.length_cons,List.length_nil,true_or,or_true,or_false,implies_true,Bool.false_eq_true,false_implies,and_self,Bool.and_true,Bool.true_and,Bool.and_self,Nat.zero_add,ac,bx,bX,ax,LV.toD0,cz,ofD,cf,ao,bG,aQ,bV,bz,aN,be,bi,bh,br,AV.toD,SV.toD,LV.toD,aV,aR,cB,AV.plain,SV.plain,LV.plain,List.all_cons,List.all_nil,Int.natCast_nonneg,ge_iff_le,gt_iff_lt,Option.getD_some,PO.ret.injEq,dE,cE,cN,bY,bK,eg,db,da,ce,ca,h1,h2,h2',cZ,cG,aS]
  have h2':¬127<n:=by omega
  have h0:0≤n:=by omega
  have d1:n.tdiv 32=n / 32:=Int.tdiv_eq_ediv_of_nonneg h0
  have d2:n.tmod 32=n % 32:=Int.tmod_eq_emod_of_nonneg h0
  have d3:(n / 32).tmod 2=n / 32 % 2:=Int.tmod_eq_emod_of_nonneg (by omega)
  have d4:n.tdiv 64=n / 64:=Int.tdiv_eq_ediv_of_nonneg h0
  have e1:IntKind.i64.wrap (n / 32)=n / 32:=by rw [IntKind.wrap_i64];omega
  have e2:IntKind.i64.wrap (n % 32)=n % 32:=by rw [IntKind.wrap_i64];omega
  have e4:IntKind.i64.wrap (n / 64)=n / 64:=by rw [IntKind.wrap_i64];omega
  have e5:(n / 32 % 2==1)=decide (n / 32 % 2=1):=by by_cases h:n / 32 % 2=1<;>simp [h]
  have e6:(n / 64==1)=decide (64≤n):=by by_cases h:64≤n<;>simp [h]<;>omega
  simp only [List.map_nil,Nat.le_refl,List.length_map,bD,bH,aE,aP,aw,au,aH,ai,ak,an,ae,ah,aa,aB,aA,ap,ay,aK,aJ,ab,ar,aj,bN,aO,aI,bt,cD,cy,bA,Int.reduceBEq,Int.reduceEq,ag,aq,aD,aOp,evT,aW,putT,aG,gAt,bL,bC,bm,co,aX,bJ,ct,az,cellsOf,LV.one,Value.oneCell',bZ,aU,bQ,bO,List.getElem?_cons_zero,List.getElem?_cons_succ,List.map_cons,Option.map_some,Int.toNat_natCast,Option.isSome_some,List.getElem?_map,reduceIte,reduceCtorEq,Nat.reduceEqDiff,Nat.reduceAdd,Nat.reduceLT,Nat.reduceLeDiff,decide_true,decide_false,true_and,and_true,forall_const,not_true_eq_false,not_false_eq_true,List.cons_append,List.nil_append,List.append_nil,beq_iff_eq,beq_eq_false_iff_ne,ne_eq,List.take_succ_cons,List.take_zero,List.drop_succ_cons,List.drop_zero,List.length_cons,List.length_nil,true_or,or_true,or_false,implies_true,Bool.false_eq_true,false_implies,and_self,Bool.and_true,Bool.true_and,Bool.and_self,Nat.zero_add,ac,bx,bX,ax,LV.toD0,cz,ofD,cf,ao,bG,aQ,bV,bz,aN,be,bi,bh,br,AV.toD,SV.toD,LV.toD,aV,aR,cB,AV.plain,SV.plain,LV.plain,List.all_cons,List.all_nil,Int.natCast_nonneg,ge_iff_le,gt_iff_lt,Option.getD_some,PO.ret.injEq,dE,cE,cN,bY,bK,eg,db,da,ce,ca,h1,h2,h2',cZ,cG,aS,d9,ef,SB,fh,sY,d1,d2,d3,d4,e1,e2,e4,e5,e6]
 ·obtain ⟨l,hl⟩:∃ l,sj k=l:=⟨_,rfl⟩
  have hlen:l.length≤100:=by
   rw [← hl]
   unfold sj
   repeat' split
   all_goals decide
  by_cases hnil:l=[]
  have e:lR k=Ol:=by unfold lR;rw [hl,if_pos hnil]
  simp only [List.map_nil,Nat.le_refl,List.length_map,bD,bH,aE,aP,aw,au,aH,ai,ak,an,ae,ah,aa,aB,aA,ap,ay,aK,aJ,ab,ar,aj,bN,aO,aI,bt,cD,cy,bA,Int.reduceBEq,Int.reduceEq,ag,aq,aD,aOp,evT,aW,putT,aG,gAt,bL,bC,bm,co,aX,bJ,ct,az,cellsOf,LV.one,Value.oneCell',bZ,aU,bQ,bO,List.getElem?_cons_zero,List.getElem?_cons_succ,List.map_cons,Option.map_some,Int.toNat_natCast,Option.isSome_some,List.getElem?_map,reduceIte,reduceCtorEq,Nat.reduceEqDiff,Nat.reduceAdd,Nat.reduceLT,Nat.reduceLeDiff,decide_true,decide_false,true_and,and_true,forall_const,not_true_eq_false,not_false_eq_true,List.cons_append,List.nil_append,List.append_nil,beq_iff_eq,beq_eq_false_iff_ne,ne_eq,List.take_succ_cons,List.take_zero,List.drop_succ_cons,List.drop_zero,List.length_cons,List.length_nil,true_or,or_true,or_false,implies_true,Bool.false_eq_true,false_implies,and_self,Bool.and_true,Bool.true_and,Bool.and_self,Nat.zero_add,ac,bx,bX,ax,LV.toD0,cz,ofD,cf,ao,bG,aQ,bV,bz,aN,be,bi,bh,br,AV.toD,SV.toD,LV.toD,aV,aR,cB,AV.plain,SV.plain,LV.plain,List.all_cons,List.all_nil,Int.natCast_nonneg,ge_iff_le,gt_iff_lt,Option.getD_some,PO.ret.injEq,dE,cE,cN,bY,bK,eg,db,da,ce,ca,hk,sZ,sT,e,Ol]
  refine fj (ι:=Nat) (fun i=>i≤l.length∧∀ (j:Nat) (r:ByteArray×Int),j<i→l[j]? = some r→¬r.2=n) (fun i=>⟨0,[(0,iv k),(1,iv n),(6,fF l),(7,iv i)],[]⟩) (fun i=>l.length-i) 0 ⟨Nat.zero_le _,fun j r hj=>absurd hj (Nat.not_lt_zero j)⟩ ((Wk.nilD 6 2 rfl).trans (Wk.renL [] (by simp) (by simp) (by simp) (by subst hnil;rfl) rfl)) ?_
  rotate_left
  have e:lR k=fF l:=by unfold lR;rw [hl,if_neg hnil]
  simp only [List.map_nil,Nat.le_refl,List.length_map,bD,bH,aE,aP,aw,au,aH,ai,ak,an,ae,ah,aa,aB,aA,ap,ay,aK,aJ,ab,ar,aj,bN,aO,aI,bt,cD,cy,bA,Int.reduceBEq,Int.reduceEq,ag,aq,aD,aOp,evT,aW,putT,aG,gAt,bL,bC,bm,co,aX,bJ,ct,az,cellsOf,LV.one,Value.oneCell',bZ,aU,bQ,bO,List.getElem?_cons_zero,List.getElem?_cons_succ,List.map_cons,Option.map_some,Int.toNat_natCast,Option.isSome_some,List.getElem?_map,reduceIte,reduceCtorEq,Nat.reduceEqDiff,Nat.reduceAdd,Nat.reduceLT,Nat.reduceLeDiff,decide_true,decide_false,true_and,and_true,forall_const,not_true_eq_false,not_false_eq_true,List.cons_append,List.nil_append,List.append_nil,beq_iff_eq,beq_eq_false_iff_ne,ne_eq,List.take_succ_cons,List.take_zero,List.drop_succ_cons,List.drop_zero,List.length_cons,List.length_nil,true_or,or_true,or_false,implies_true,Bool.false_eq_true,false_implies,and_self,Bool.and_true,Bool.true_and,Bool.and_self,Nat.zero_add,ac,bx,bX,ax,LV.toD0,cz,ofD,cf,ao,bG,aQ,bV,bz,aN,be,bi,bh,br,AV.toD,SV.toD,LV.toD,aV,aR,cB,AV.plain,SV.plain,LV.plain,List.all_cons,List.all_nil,Int.natCast_nonneg,ge_iff_le,gt_iff_lt,Option.getD_some,PO.ret.injEq,dE,cE,cN,bY,bK,eg,db,da,ce,ca,hk,sZ,sT,e]
  refine fj (ι:=Nat) (fun i=>i≤l.length∧∀ (j:Nat) (r:ByteArray×Int),j<i→l[j]? = some r→¬r.2=n) (fun i=>⟨0,[(0,iv k),(1,iv n),(6,fF l),(7,iv i)],[]⟩) (fun i=>l.length-i) 0 ⟨Nat.zero_le _,fun j r hj=>absurd hj (Nat.not_lt_zero j)⟩ (Wk.renL [] (by simp) (by simp) (by simp) rfl rfl) ?_
  all_goals
   rintro i ⟨hi,hn⟩
   refine aC (ctx:=[⟨_,Px⟩]) 4000 ?_
   rcases Nat.lt_or_ge i l.length with hlt | hge
   ·have hltI:(i:Int)<l.length:=by omega
    obtain ⟨r,hr⟩:∃ r,l[i]? = some r:=⟨_,List.getElem?_eq_getElem hlt⟩
    have ei:IntKind.i64.wrap ((i:Int)+1)=((i+1:Nat):Int):=by rw [IntKind.wrap_i64];omega
    by_cases hrn:r.2=n
    ·have er:cG k n=(r.1,0):=by unfold cG;rw [if_neg hk,hl,PV hn hr hrn]
     simp only [List.map_nil,Nat.le_refl,List.length_map,bD,bH,aE,aP,aw,au,aH,ai,ak,an,ae,ah,aa,aB,aA,ap,ay,aK,aJ,ab,ar,aj,bN,aO,aI,bt,cD,cy,bA,Int.reduceBEq,Int.reduceEq,ag,aq,aD,aOp,evT,aW,putT,aG,gAt,bL,bC,bm,co,aX,bJ,ct,az,cellsOf,LV.one,Value.oneCell',bZ,aU,bQ,bO,List.getElem?_cons_zero,List.getElem?_cons_succ,List.map_cons,Option.map_some,Int.toNat_natCast,Option.isSome_some,List.getElem?_map,reduceIte,reduceCtorEq,Nat.reduceEqDiff,Nat.reduceAdd,Nat.reduceLT,Nat.reduceLeDiff,decide_true,decide_false,true_and,and_true,forall_const,not_true_eq_false,not_false_eq_true,List.cons_append,List.nil_append,List.append_nil,beq_iff_eq,beq_eq_false_iff_ne,ne_eq,List.take_succ_cons,List.take_zero,List.drop_succ_cons,List.drop_zero,List.length_cons,List.length_nil,true_or,or_true,or_false,implies_true,Bool.false_eq_true,false_implies,and_self,Bool.and_true,Bool.true_and,Bool.and_self,Nat.zero_add,ac,bx,bX,ax,LV.toD0,cz,ofD,cf,ao,bG,aQ,bV,bz,aN,be,bi,bh,br,AV.toD,SV.toD,LV.toD,aV,aR,cB,AV.plain,SV.plain,LV.plain,List.all_cons,List.all_nil,Int.natCast_nonneg,ge_iff_le,gt_iff_lt,Option.getD_some,PO.ret.injEq,dE,cE,cN,bY,bK,eg,db,da,ce,ca,hltI,hr,i8,hrn,er,cZ]
    ·simp only [List.map_nil,Nat.le_refl,List.length_map,bD,bH,aE,aP,aw,au,aH,ai,ak,an,ae,ah,aa,aB,aA,ap,ay,aK,aJ,ab,ar,aj,bN,aO,aI,bt,cD,cy,bA,Int.reduceBEq,Int.reduceEq,ag,aq,aD,aOp,evT,aW,putT,aG,gAt,bL,bC,bm,co,aX,bJ,ct,az,cellsOf,LV.one,Value.oneCell',bZ,aU,bQ,bO,List.getElem?_cons_zero,List.getElem?_cons_succ,List.map_cons,Option.map_some,Int.toNat_natCast,Option.isSome_some,List.getElem?_map,reduceIte,reduceCtorEq,Nat.reduceEqDiff,Nat.reduceAdd,Nat.reduceLT,Nat.reduceLeDiff,decide_true,decide_false,true_and,and_true,forall_const,not_true_eq_false,not_false_eq_true,List.cons_append,List.nil_append,List.append_nil,beq_iff_eq,beq_eq_false_iff_ne,ne_eq,List.take_succ_cons,List.take_zero,List.drop_succ_cons,List.drop_zero,List.length_cons,List.length_nil,true_or,or_true,or_false,implies_true,Bool.false_eq_true,false_implies,and_self,Bool.and_true,Bool.true_and,Bool.and_self,Nat.zero_add,ac,bx,bX,ax,LV.toD0,cz,ofD,cf,ao,bG,aQ,bV,bz,aN,be,bi,bh,br,AV.toD,SV.toD,LV.toD,aV,aR,cB,AV.plain,SV.plain,LV.plain,List.all_cons,List.all_nil,Int.natCast_nonneg,ge_iff_le,gt_iff_lt,Option.getD_some,PO.ret.injEq,dE,cE,cN,bY,bK,eg,db,da,ce,ca,hltI,hr,i8,hrn,ei]
     refine ⟨i+1,⟨hlt,fun j r' hj hr'=>?_⟩,by omega,Wk.renL [] (by simp) (by simp) (by simp) rfl rfl⟩
     by_cases e2:j=i
     ·subst e2
      rw [hr] at hr'
      injection hr' with hr'
      rw [← hr']
      exact hrn
     ·exact hn j r' (by omega) hr'
   ·obtain rfl:i=l.length:=by omega
    have hI:¬(l.length:Int)<l.length:=by omega
    have hno:=NG hn
    by_cases hs:k=6∧0≤n∧n<32768
    ·have er:cG k n=(fS n,0):=by unfold cG;rw [if_neg hk,hl,hno];simp only [hs,and_self,if_true]
     have h0:=hs.2.1
     have h1:=hs.2.2
     have h2:¬n<0:=by omega
     have h3:¬32768≤n:=by omega
     have d1:n.tdiv 16384=n / 16384:=Int.tdiv_eq_ediv_of_nonneg h0
     have d2:n.tdiv 2048=n / 2048:=Int.tdiv_eq_ediv_of_nonneg h0
     have d3:n.tdiv 128=n / 128:=Int.tdiv_eq_ediv_of_nonneg h0
     have d4:n.tdiv 8=n / 8:=Int.tdiv_eq_ediv_of_nonneg h0
     have d5:n.tmod 8=n % 8:=Int.tmod_eq_emod_of_nonneg h0
     have d6:(n / 2048).tmod 8=n / 2048 % 8:=Int.tmod_eq_emod_of_nonneg (by omega)
     have d7:(n / 128).tmod 16=n / 128 % 16:=Int.tmod_eq_emod_of_nonneg (by omega)
     have d8:(n / 8).tmod 16=n / 8 % 16:=Int.tmod_eq_emod_of_nonneg (by omega)
     have w0:IntKind.i64.wrap n=n:=by rw [IntKind.wrap_i64];omega
     have w1:IntKind.i64.wrap (n / 16384)=n / 16384:=by rw [IntKind.wrap_i64];omega
     have w2:IntKind.i64.wrap (n / 16384+2)=n / 16384+2:=by rw [IntKind.wrap_i64];omega
     have w3:IntKind.i64.wrap (n / 2048)=n / 2048:=by rw [IntKind.wrap_i64];omega
     have w4:IntKind.i64.wrap (n / 128)=n / 128:=by rw [IntKind.wrap_i64];omega
     have w5:IntKind.i64.wrap (n / 8)=n / 8:=by rw [IntKind.wrap_i64];omega
     have sz:=D5
     have z1:=sz (n / 16384+2)
     have z2:=sz (n / 2048 % 8)
     have z3:=sz (n / 128 % 16)
     have z4:=sz (n / 8 % 16)
     have z5:=sz (n % 8)
     have hm:maxLen=9223372036854775807:=rfl
     have c1:(⟨#[115]⟩:ByteArray).size=1:=rfl
     have c2:(⟨#[95]⟩:ByteArray).size=1:=rfl
     have c3:(⟨#[95,99]⟩:ByteArray).size=2:=rfl
     simp only [List.map_nil,Nat.le_refl,List.length_map,bD,bH,aE,aP,aw,au,aH,ai,ak,an,ae,ah,aa,aB,aA,ap,ay,aK,aJ,ab,ar,aj,bN,aO,aI,bt,cD,cy,bA,Int.reduceBEq,Int.reduceEq,ag,aq,aD,aOp,evT,aW,putT,aG,gAt,bL,bC,bm,co,aX,bJ,ct,az,cellsOf,LV.one,Value.oneCell',bZ,aU,bQ,bO,List.getElem?_cons_zero,List.getElem?_cons_succ,List.map_cons,Option.map_some,Int.toNat_natCast,Option.isSome_some,List.getElem?_map,reduceIte,reduceCtorEq,Nat.reduceEqDiff,Nat.reduceAdd,Nat.reduceLT,Nat.reduceLeDiff,decide_true,decide_false,true_and,and_true,forall_const,not_true_eq_false,not_false_eq_true,List.cons_append,List.nil_append,List.append_nil,beq_iff_eq,beq_eq_false_iff_ne,ne_eq,List.take_succ_cons,List.take_zero,List.drop_succ_cons,List.drop_zero,List.length_cons,List.length_nil,true_or,or_true,or_false,implies_true,Bool.false_eq_true,false_implies,and_self,Bool.and_true,Bool.true_and,Bool.and_self,Nat.zero_add,ac,bx,bX,ax,LV.toD0,cz,ofD,cf,ao,bG,aQ,bV,bz,aN,be,bi,bh,br,AV.toD,SV.toD,LV.toD,aV,aR,cB,AV.plain,SV.plain,LV.plain,List.all_cons,List.all_nil,Int.natCast_nonneg,ge_iff_le,gt_iff_lt,Option.getD_some,PO.ret.injEq,dE,cE,cN,bY,bK,eg,db,da,ce,ca,hI,eq_true hs.1,h2,h3,Qh,QG,er,cZ,d1,d2,d3,d4,d5,d6,d7,d8,w0,w1,w2,w3,w4,w5]
     simp only [ByteArray.size_append,c1,c2,c3,hm]
     refine ⟨by omega,by omega,by omega,by omega,by omega,by omega,by omega,by omega,by omega,by omega,by omega,by omega,by omega,by omega,rfl⟩
    ·have er:cG k n=(emp,30):=by unfold cG;rw [if_neg hk,hl,hno];simp only [hs,if_false]
     by_cases a1:k=6
     ·by_cases a2:n<0
      ·simp only [List.map_nil,Nat.le_refl,List.length_map,bD,bH,aE,aP,aw,au,aH,ai,ak,an,ae,ah,aa,aB,aA,ap,ay,aK,aJ,ab,ar,aj,bN,aO,aI,bt,cD,cy,bA,Int.reduceBEq,Int.reduceEq,ag,aq,aD,aOp,evT,aW,putT,aG,gAt,bL,bC,bm,co,aX,bJ,ct,az,cellsOf,LV.one,Value.oneCell',bZ,aU,bQ,bO,List.getElem?_cons_zero,List.getElem?_cons_succ,List.map_cons,Option.map_some,Int.toNat_natCast,Option.isSome_some,List.getElem?_map,reduceIte,reduceCtorEq,Nat.reduceEqDiff,Nat.reduceAdd,Nat.reduceLT,Nat.reduceLeDiff,decide_true,decide_false,true_and,and_true,forall_const,not_true_eq_false,not_false_eq_true,List.cons_append,List.nil_append,List.append_nil,beq_iff_eq,beq_eq_false_iff_ne,ne_eq,List.take_succ_cons,List.take_zero,List.drop_succ_cons,List.drop_zero,List.length_cons,List.length_nil,true_or,or_true,or_false,implies_true,Bool.false_eq_true,false_implies,and_self,Bool.and_true,Bool.true_and,Bool.and_self,Nat.zero_add,ac,bx,bX,ax,LV.toD0,cz,ofD,cf,ao,bG,aQ,bV,bz,aN,be,bi,bh,br,AV.toD,SV.toD,LV.toD,aV,aR,cB,AV.plain,SV.plain,LV.plain,List.all_cons,List.all_nil,Int.natCast_nonneg,ge_iff_le,gt_iff_lt,Option.getD_some,PO.ret.injEq,dE,cE,cN,bY,bK,eg,db,da,ce,ca,hI,eq_true a1,a2,er,cZ,aS]
      ·have a3:32768≤n:=by
        by_cases h:n<32768
        ·exact absurd ⟨a1,by omega,h⟩ hs
        ·omega
       simp only [List.map_nil,Nat.le_refl,List.length_map,bD,bH,aE,aP,aw,au,aH,ai,ak,an,ae,ah,aa,aB,aA,ap,ay,aK,aJ,ab,ar,aj,bN,aO,aI,bt,cD,cy,bA,Int.reduceBEq,Int.reduceEq,ag,aq,aD,aOp,evT,aW,putT,aG,gAt,bL,bC,bm,co,aX,bJ,ct,az,cellsOf,LV.one,Value.oneCell',bZ,aU,bQ,bO,List.getElem?_cons_zero,List.getElem?_cons_succ,List.map_cons,Option.map_some,Int.toNat_natCast,Option.isSome_some,List.getElem?_map,reduceIte,reduceCtorEq,Nat.reduceEqDiff,Nat.reduceAdd,Nat.reduceLT,Nat.reduceLeDiff,decide_true,decide_false,true_and,and_true,forall_const,not_true_eq_false,not_false_eq_true,List.cons_append,List.nil_append,List.append_nil,beq_iff_eq,beq_eq_false_iff_ne,ne_eq,List.take_succ_cons,List.take_zero,List.drop_succ_cons,List.drop_zero,List.length_cons,List.length_nil,true_or,or_true,or_false,implies_true,Bool.false_eq_true,false_implies,and_self,Bool.and_true,Bool.true_and,Bool.and_self,Nat.zero_add,ac,bx,bX,ax,LV.toD0,cz,ofD,cf,ao,bG,aQ,bV,bz,aN,be,bi,bh,br,AV.toD,SV.toD,LV.toD,aV,aR,cB,AV.plain,SV.plain,LV.plain,List.all_cons,List.all_nil,Int.natCast_nonneg,ge_iff_le,gt_iff_lt,Option.getD_some,PO.ret.injEq,dE,cE,cN,bY,bK,eg,db,da,ce,ca,hI,eq_true a1,a2,a3,er,cZ,aS]
     ·simp only [List.map_nil,Nat.le_refl,List.length_map,bD,bH,aE,aP,aw,au,aH,ai,ak,an,ae,ah,aa,aB,aA,ap,ay,aK,aJ,ab,ar,aj,bN,aO,aI,bt,cD,cy,bA,Int.reduceBEq,Int.reduceEq,ag,aq,aD,aOp,evT,aW,putT,aG,gAt,bL,bC,bm,co,aX,bJ,ct,az,cellsOf,LV.one,Value.oneCell',bZ,aU,bQ,bO,List.getElem?_cons_zero,List.getElem?_cons_succ,List.map_cons,Option.map_some,Int.toNat_natCast,Option.isSome_some,List.getElem?_map,reduceIte,reduceCtorEq,Nat.reduceEqDiff,Nat.reduceAdd,Nat.reduceLT,Nat.reduceLeDiff,decide_true,decide_false,true_and,and_true,forall_const,not_true_eq_false,not_false_eq_true,List.cons_append,List.nil_append,List.append_nil,beq_iff_eq,beq_eq_false_iff_ne,ne_eq,List.take_succ_cons,List.take_zero,List.drop_succ_cons,List.drop_zero,List.length_cons,List.length_nil,true_or,or_true,or_false,implies_true,Bool.false_eq_true,false_implies,and_self,Bool.and_true,Bool.true_and,Bool.and_self,Nat.zero_add,ac,bx,bX,ax,LV.toD0,cz,ofD,cf,ao,bG,aQ,bV,bz,aN,be,bi,bh,br,AV.toD,SV.toD,LV.toD,aV,aR,cB,AV.plain,SV.plain,LV.plain,List.all_cons,List.all_nil,Int.natCast_nonneg,ge_iff_le,gt_iff_lt,Option.getD_some,PO.ret.injEq,dE,cE,cN,bY,bK,eg,db,da,ce,ca,hI,a1,er,cZ,aS]
def Q4:cK Tryz.prog 45 :=
 mk2 _ _ _ Tryz.func45 rfl (fun _ _=>by go_simp) (aR .i64) (aR .i64) ((fun _ _=>True)) ((fun k n=>.ret (cZ (cG k n)))) (by rw [Tryz.ntmps45];decide) (fun k n _=>Zo k n)
theorem DO {id:Nat} {h:aF} {args:List AV}:(Q4).run id h args=be (bE (aR .i64) (aR .i64) ((fun _ _=>True))) (fun x=>((fun k n=>.ret (cZ (cG k n)))) x.1 x.2) h args:=rfl
theorem DN {id:Nat} {h:aF} {args:List AV}:(Q4).pan id h args=bi (bE (aR .i64) (aR .i64) ((fun _ _=>True))) (fun x=>((fun k n=>.ret (cZ (cG k n)))) x.1 x.2) h args:=rfl
end Go.Proofs.YthcoegkfpinlfaaGreatDoor
