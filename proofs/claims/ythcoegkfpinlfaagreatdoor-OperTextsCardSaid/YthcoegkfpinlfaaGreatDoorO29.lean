import Derived.Test.YthcoegkfpinlfaaGreatDoorO28
set_option linter.unusedVariables false
set_option linter.unusedSimpArgs false
set_option maxRecDepth 100000
set_option maxHeartbeats 8000000
namespace Go.Proofs.YthcoegkfpinlfaaGreatDoor
open Go.RowKit
theorem PC (k:Int) (s:ByteArray):cV 3 k s=if k=1 then (if (i9 2 s).2=0 then (Cv (i9 2 s).1,0) else (0,(i9 2 s).2)) else
 match se (sj k) (mc k s) with
 | some n=>(n,0)
 | none=>if k=6 then match DH (mc k s) with
   | some n=>(n,0)
   | none=>(0,30)
  else (0,30):=by
 unfold cV
 rw [TA]
 by_cases hk:k=1
 ·rw [if_pos hk,if_pos hk]
 ·rw [if_neg hk,if_neg hk,sys_ref]
  rfl
def Q7:Code→Code
 | .seq x y=>match Q7 x with
  | .skip=>Q7 y
  | z=>z
 | .block _ x=>Q7 x
 | .loop x=>.loop x
 | _=>.skip
theorem Vf (k:Int) (s:ByteArray) (hs:s.size≤1099511627776):SW Tryz.prog ⟨none,0⟩ Tryz.f46.ntmps (Tryz.f46.body.getD .skip) ⟨0,aN 0 [(aR .i64).enc k,bg.enc s],[]⟩ (fa Tryz.prog Tryz.f46.results.toList (.ret (lW (cV 3 k s)))):=by
 refine aC (ctx:=[⟨_,Y7⟩,⟨_,RA⟩,⟨_,Ob⟩,⟨_,Zz⟩]) 4000 ?_
 rw [Tryz.ntmps46,Tryz.results46]
 simp only [Tryz.f46,Option.getD_some,aN]
 have hF:=PC k s
 by_cases hk:k=1
 ·subst hk
  have hr:=O8 2 s
  have q : -100000<(i9 2 s).1.n∧(i9 2 s).1.n<100000:=by omega
  rw [if_pos rfl] at hF
  by_cases he:(i9 2 s).2=0
  ·rw [if_pos he] at hF
   simp only [List.map_nil,Nat.le_refl,List.length_map,bD,bH,aE,aP,aw,au,aH,ai,ak,an,ae,ah,aa,aB,aA,ap,ay,aK,aJ,ab,ar,aj,bN,aO,aY,aI,bI,bn,bA,Int.reduceBEq,Int.reduceBNe,ag,aq,aD,aOp,evT,aW,putT,aG,gAt,bL,hget,bC,bm,bB,cI,co,aX,bJ,ct,az,cellsOf,aU,bO,List.getElem?_cons_zero,List.getElem?_cons_succ,List.map_cons,Option.map_some,Int.toNat_natCast,Option.isSome_some,List.getElem?_map,reduceIte,reduceCtorEq,Nat.reduceEqDiff,Nat.reduceAdd,Nat.reduceLT,decide_true,decide_false,true_and,and_true,forall_const,not_true_eq_false,not_false_eq_true,List.cons_append,List.nil_append,List.append_nil,List.take_succ_cons,List.take_zero,List.drop_succ_cons,List.drop_zero,List.length_cons,List.length_nil,List.set_cons_zero,implies_true,Bool.false_eq_true,false_implies,and_self,Bool.and_true,Bool.true_and,Bool.and_self,Nat.zero_add,ac,bx,bX,ax,LV.toD0,cz,ofD,cf,ao,bG,aQ,bV,bz,aN,be,bi,bh,br,AV.toD,SV.toD,LV.toD,aV,aR,bg,cB,AV.plain,SV.plain,LV.plain,List.all_cons,List.all_nil,Int.natCast_nonneg,Option.getD_some,PO.ret.injEq,dE,cE,cN,bY,cX,cr,bK,db,da,ce,ca,Sh,S6,sV,he,UL,Vs,fh,hF,lW,q]
  ·rw [if_neg he] at hF
   simp only [List.map_nil,Nat.le_refl,List.length_map,bD,bH,aE,aP,aw,au,aH,ai,ak,an,ae,ah,aa,aB,aA,ap,ay,aK,aJ,ab,ar,aj,bN,aO,aY,aI,bI,bn,bA,Int.reduceBEq,Int.reduceBNe,ag,aq,aD,aOp,evT,aW,putT,aG,gAt,bL,hget,bC,bm,bB,cI,co,aX,bJ,ct,az,cellsOf,aU,bO,List.getElem?_cons_zero,List.getElem?_cons_succ,List.map_cons,Option.map_some,Int.toNat_natCast,Option.isSome_some,List.getElem?_map,reduceIte,reduceCtorEq,Nat.reduceEqDiff,Nat.reduceAdd,Nat.reduceLT,decide_true,decide_false,true_and,and_true,forall_const,not_true_eq_false,not_false_eq_true,List.cons_append,List.nil_append,List.append_nil,List.take_succ_cons,List.take_zero,List.drop_succ_cons,List.drop_zero,List.length_cons,List.length_nil,List.set_cons_zero,implies_true,Bool.false_eq_true,false_implies,and_self,Bool.and_true,Bool.true_and,Bool.and_self,Nat.zero_add,ac,bx,bX,ax,LV.toD0,cz,ofD,cf,ao,bG,aQ,bV,bz,aN,be,bi,bh,br,AV.toD,SV.toD,LV.toD,aV,aR,bg,cB,AV.plain,SV.plain,LV.plain,List.all_cons,List.all_nil,Int.natCast_nonneg,Option.getD_some,PO.ret.injEq,dE,cE,cN,bY,cX,cr,bK,db,da,ce,ca,Sh,S6,sV,he,hF,lW]
 ·rw [if_neg hk] at hF
  obtain ⟨a,ha⟩:∃ a,mc k s=a:=⟨_,rfl⟩
  rw [ha] at hF
  have haz:a.size≤1099511627776:=by
   rw [← ha]
   unfold mc
   split
   ·decide
   ·split
    ·decide
    ·exact hs
  obtain ⟨l,hl⟩:∃ l,sj k=l:=⟨_,rfl⟩
  rw [hl] at hF
  have hlen:l.length≤100:=by
   rw [← hl]
   unfold sj
   repeat' split
   all_goals decide
  have loop:∀ (Q:Exit→St→Prop),(∀ nx t (n:Int),se l a=some n→aW t 4=iv n→aW t 5=iv 0→Q .ret ⟨nx,t,[]⟩)→(se l a=none→∀ nx t,aW t 0=iv k→aW t 1=sv a→Q (.exit 0) ⟨nx,t,[]⟩) →
    SW Tryz.prog ⟨none,0⟩ 67 (Q7 (Tryz.f46.body.getD .skip)) ⟨0,[(0,iv k),(1,sv a),(8,fF l),(9,iv 0)],[]⟩ Q:=by
   intro Q hyes hno
   refine fj (ι:=Nat) (fun i=>i≤l.length∧∀ (j:Nat) (r:ByteArray×Int),j<i→l[j]? = some r→¬r.1=a) (fun i=>⟨0,[(0,iv k),(1,sv a),(8,fF l),(9,iv i)],[]⟩) (fun i=>l.length-i) 0 ⟨Nat.zero_le _,fun j r hj=>absurd hj (Nat.not_lt_zero j)⟩ (Wk.renL [] (by simp) (by simp) (by simp) rfl rfl) ?_
   rintro i ⟨hi,hn⟩
   refine aC (ctx:=[]) 4000 ?_
   rcases Nat.lt_or_ge i l.length with hlt | hge
   ·have hltI:(i:Int)<l.length:=by omega
    obtain ⟨r,hr⟩:∃ r,l[i]? = some r:=⟨_,List.getElem?_eq_getElem hlt⟩
    have ei:IntKind.i64.wrap ((i:Int)+1)=((i+1:Nat):Int):=by rw [IntKind.wrap_i64];omega
    by_cases hrn:r.1=a
    ·simp only [List.map_nil,Nat.le_refl,List.length_map,bD,bH,aE,aP,aw,au,aH,ai,ak,an,ae,ah,aa,aB,aA,ap,ay,aK,aJ,ab,ar,aj,bN,aO,aY,aI,bI,bn,bA,Int.reduceBEq,Int.reduceBNe,ag,aq,aD,aOp,evT,aW,putT,aG,gAt,bL,hget,bC,bm,bB,cI,co,aX,bJ,ct,az,cellsOf,aU,bO,List.getElem?_cons_zero,List.getElem?_cons_succ,List.map_cons,Option.map_some,Int.toNat_natCast,Option.isSome_some,List.getElem?_map,reduceIte,reduceCtorEq,Nat.reduceEqDiff,Nat.reduceAdd,Nat.reduceLT,decide_true,decide_false,true_and,and_true,forall_const,not_true_eq_false,not_false_eq_true,List.cons_append,List.nil_append,List.append_nil,List.take_succ_cons,List.take_zero,List.drop_succ_cons,List.drop_zero,List.length_cons,List.length_nil,List.set_cons_zero,implies_true,Bool.false_eq_true,false_implies,and_self,Bool.and_true,Bool.true_and,Bool.and_self,Nat.zero_add,ac,bx,bX,ax,LV.toD0,cz,ofD,cf,ao,bG,aQ,bV,bz,aN,be,bi,bh,br,AV.toD,SV.toD,LV.toD,aV,aR,bg,cB,AV.plain,SV.plain,LV.plain,List.all_cons,List.all_nil,Int.natCast_nonneg,Option.getD_some,PO.ret.injEq,dE,cE,cN,bY,cX,cr,bK,db,da,ce,ca,hltI,hr,i8,hrn]
     exact hyes _ _ r.2 (Tc hn hr hrn) rfl rfl
    ·simp only [List.map_nil,Nat.le_refl,List.length_map,bD,bH,aE,aP,aw,au,aH,ai,ak,an,ae,ah,aa,aB,aA,ap,ay,aK,aJ,ab,ar,aj,bN,aO,aY,aI,bI,bn,bA,Int.reduceBEq,Int.reduceBNe,ag,aq,aD,aOp,evT,aW,putT,aG,gAt,bL,hget,bC,bm,bB,cI,co,aX,bJ,ct,az,cellsOf,aU,bO,List.getElem?_cons_zero,List.getElem?_cons_succ,List.map_cons,Option.map_some,Int.toNat_natCast,Option.isSome_some,List.getElem?_map,reduceIte,reduceCtorEq,Nat.reduceEqDiff,Nat.reduceAdd,Nat.reduceLT,decide_true,decide_false,true_and,and_true,forall_const,not_true_eq_false,not_false_eq_true,List.cons_append,List.nil_append,List.append_nil,List.take_succ_cons,List.take_zero,List.drop_succ_cons,List.drop_zero,List.length_cons,List.length_nil,List.set_cons_zero,implies_true,Bool.false_eq_true,false_implies,and_self,Bool.and_true,Bool.true_and,Bool.and_self,Nat.zero_add,ac,bx,bX,ax,LV.toD0,cz,ofD,cf,ao,bG,aQ,bV,bz,aN,be,bi,bh,br,AV.toD,SV.toD,LV.toD,aV,aR,bg,cB,AV.plain,SV.plain,LV.plain,List.all_cons,List.all_nil,Int.natCast_nonneg,Option.getD_some,PO.ret.injEq,dE,cE,cN,bY,cX,cr,bK,db,da,ce,ca,hltI,hr,i8,hrn,ei]
     refine ⟨i+1,⟨hlt,fun j r' hj hr'=>?_⟩,by omega,Wk.renL [] (by simp) (by simp) (by simp) rfl rfl⟩
     by_cases e2:j=i
     ·subst e2
      rw [hr] at hr'
      injection hr' with hr'
      rw [← hr']
      exact hrn
     ·exact hn j r' (by omega) hr'
   ·obtain rfl:i=l.length:=by omega
    have hI:¬(l.length:Int)<l.length:=by omega
    simp only [List.map_nil,Nat.le_refl,List.length_map,bD,bH,aE,aP,aw,au,aH,ai,ak,an,ae,ah,aa,aB,aA,ap,ay,aK,aJ,ab,ar,aj,bN,aO,aY,aI,bI,bn,bA,Int.reduceBEq,Int.reduceBNe,ag,aq,aD,aOp,evT,aW,putT,aG,gAt,bL,hget,bC,bm,bB,cI,co,aX,bJ,ct,az,cellsOf,aU,bO,List.getElem?_cons_zero,List.getElem?_cons_succ,List.map_cons,Option.map_some,Int.toNat_natCast,Option.isSome_some,List.getElem?_map,reduceIte,reduceCtorEq,Nat.reduceEqDiff,Nat.reduceAdd,Nat.reduceLT,decide_true,decide_false,true_and,and_true,forall_const,not_true_eq_false,not_false_eq_true,List.cons_append,List.nil_append,List.append_nil,List.take_succ_cons,List.take_zero,List.drop_succ_cons,List.drop_zero,List.length_cons,List.length_nil,List.set_cons_zero,implies_true,Bool.false_eq_true,false_implies,and_self,Bool.and_true,Bool.true_and,Bool.and_self,Nat.zero_add,ac,bx,bX,ax,LV.toD0,cz,ofD,cf,ao,bG,aQ,bV,bz,aN,be,bi,bh,br,AV.toD,SV.toD,LV.toD,aV,aR,bg,cB,AV.plain,SV.plain,LV.plain,List.all_cons,List.all_nil,Int.natCast_nonneg,Option.getD_some,PO.ret.injEq,dE,cE,cN,bY,cX,cr,bK,db,da,ce,ca,hI]
    exact hno (Pm hn) _ _ rfl rfl
  have hyes:∀ n,se l a=some n→cV 3 k s=(n,0):=fun n hn=>by rw [hF,hn]
  have hno:se l a=none→cV 3 k s=if k=6 then match DH a with
   | some n=>((n,0):Int×Int)
   | none=>(0,30) else (0,30):=fun hn=>by rw [hF,hn]
  by_cases h2:k=2
  ·have e:lR k=fF l:=by unfold lR;rw [hl,if_neg (by rw [← hl,h2];decide)]
   by_cases h3:s=⟨#[104,115]⟩
   ·have has:a=⟨#[99,115]⟩:=by rw [← ha];unfold mc;rw [if_pos ⟨h2,h3⟩];rfl
    have hnl:¬((⟨#[99,115]⟩:ByteArray)=⟨#[108,111]⟩):=by decide
    simp only [List.map_nil,Nat.le_refl,List.length_map,bD,bH,aE,aP,aw,au,aH,ai,ak,an,ae,ah,aa,aB,aA,ap,ay,aK,aJ,ab,ar,aj,bN,aO,aY,aI,bI,bn,bA,Int.reduceBEq,Int.reduceBNe,ag,aq,aD,aOp,evT,aW,putT,aG,gAt,bL,hget,bC,bm,bB,cI,co,aX,bJ,ct,az,cellsOf,aU,bO,List.getElem?_cons_zero,List.getElem?_cons_succ,List.map_cons,Option.map_some,Int.toNat_natCast,Option.isSome_some,List.getElem?_map,reduceIte,reduceCtorEq,Nat.reduceEqDiff,Nat.reduceAdd,Nat.reduceLT,decide_true,decide_false,true_and,and_true,forall_const,not_true_eq_false,not_false_eq_true,List.cons_append,List.nil_append,List.append_nil,List.take_succ_cons,List.take_zero,List.drop_succ_cons,List.drop_zero,List.length_cons,List.length_nil,List.set_cons_zero,implies_true,Bool.false_eq_true,false_implies,and_self,Bool.and_true,Bool.true_and,Bool.and_self,Nat.zero_add,ac,bx,bX,ax,LV.toD0,cz,ofD,cf,ao,bG,aQ,bV,bz,aN,be,bi,bh,br,AV.toD,SV.toD,LV.toD,aV,aR,bg,cB,AV.plain,SV.plain,LV.plain,List.all_cons,List.all_nil,Int.natCast_nonneg,Option.getD_some,PO.ret.injEq,dE,cE,cN,bY,cX,cr,bK,db,da,ce,ca,hk,eq_true h2,eq_true h3,hnl,sZ,sT,e]
    refine SW.wk (loop _ (fun nx t n hn h4 h5=>?_) (fun hn nx t h4 h5=>?_)) (Wk.renL [] (by simp) (by simp) (by simp) (by rw [has];rfl) rfl)
    ·have hF:=hyes n hn
     simp only [List.map_nil,Nat.le_refl,List.length_map,bD,bH,aE,aP,aw,au,aH,ai,ak,an,ae,ah,aa,aB,aA,ap,ay,aK,aJ,ab,ar,aj,bN,aO,aY,aI,bI,bn,bA,Int.reduceBEq,Int.reduceBNe,ag,aq,aD,aOp,evT,aW,putT,aG,gAt,bL,hget,bC,bm,bB,cI,co,aX,bJ,ct,az,cellsOf,aU,bO,List.getElem?_cons_zero,List.getElem?_cons_succ,List.map_cons,Option.map_some,Int.toNat_natCast,Option.isSome_some,List.getElem?_map,reduceIte,reduceCtorEq,Nat.reduceEqDiff,Nat.reduceAdd,Nat.reduceLT,decide_true,decide_false,true_and,and_true,forall_const,not_true_eq_false,not_false_eq_true,List.cons_append,List.nil_append,List.append_nil,List.take_succ_cons,List.take_zero,List.drop_succ_cons,List.drop_zero,List.length_cons,List.length_nil,List.set_cons_zero,implies_true,Bool.false_eq_true,false_implies,and_self,Bool.and_true,Bool.true_and,Bool.and_self,Nat.zero_add,ac,bx,bX,ax,LV.toD0,cz,ofD,cf,ao,bG,aQ,bV,bz,aN,be,bi,bh,br,AV.toD,SV.toD,LV.toD,aV,aR,bg,cB,AV.plain,SV.plain,LV.plain,List.all_cons,List.all_nil,Int.natCast_nonneg,Option.getD_some,PO.ret.injEq,dE,cE,cN,bY,cX,cr,bK,db,da,ce,ca,h4,h5,hF,lW]
    ·have hF:=hno hn
     have h6:¬k=6:=by omega
     rw [if_neg h6] at hF
     rcases hsys:DH a with _ | n<;>simp only [List.map_nil,Nat.le_refl,List.length_map,bD,bH,aE,aP,aw,au,aH,ai,ak,an,ae,ah,aa,aB,aA,ap,ay,aK,aJ,ab,ar,aj,bN,aO,aY,aI,bI,bn,bA,Int.reduceBEq,Int.reduceBNe,ag,aq,aD,aOp,evT,aW,putT,aG,gAt,bL,hget,bC,bm,bB,cI,co,aX,bJ,ct,az,cellsOf,aU,bO,List.getElem?_cons_zero,List.getElem?_cons_succ,List.map_cons,Option.map_some,Int.toNat_natCast,Option.isSome_some,List.getElem?_map,reduceIte,reduceCtorEq,Nat.reduceEqDiff,Nat.reduceAdd,Nat.reduceLT,decide_true,decide_false,true_and,and_true,forall_const,not_true_eq_false,not_false_eq_true,List.cons_append,List.nil_append,List.append_nil,List.take_succ_cons,List.take_zero,List.drop_succ_cons,List.drop_zero,List.length_cons,List.length_nil,List.set_cons_zero,implies_true,Bool.false_eq_true,false_implies,and_self,Bool.and_true,Bool.true_and,Bool.and_self,Nat.zero_add,ac,bx,bX,ax,LV.toD0,cz,ofD,cf,ao,bG,aQ,bV,bz,aN,be,bi,bh,br,AV.toD,SV.toD,LV.toD,aV,aR,bg,cB,AV.plain,SV.plain,LV.plain,List.all_cons,List.all_nil,Int.natCast_nonneg,Option.getD_some,PO.ret.injEq,dE,cE,cN,bY,cX,cr,bK,db,da,ce,ca,h4,h5,h6,JJ,JG,haz,hsys,iX,hF,lW]
   by_cases h4:s=⟨#[108,111]⟩
   ·have has:a=⟨#[99,99]⟩:=by rw [← ha];unfold mc;rw [if_neg (fun h=>h3 h.2),if_pos ⟨h2,h4⟩];rfl
    simp only [List.map_nil,Nat.le_refl,List.length_map,bD,bH,aE,aP,aw,au,aH,ai,ak,an,ae,ah,aa,aB,aA,ap,ay,aK,aJ,ab,ar,aj,bN,aO,aY,aI,bI,bn,bA,Int.reduceBEq,Int.reduceBNe,ag,aq,aD,aOp,evT,aW,putT,aG,gAt,bL,hget,bC,bm,bB,cI,co,aX,bJ,ct,az,cellsOf,aU,bO,List.getElem?_cons_zero,List.getElem?_cons_succ,List.map_cons,Option.map_some,Int.toNat_natCast,Option.isSome_some,List.getElem?_map,reduceIte,reduceCtorEq,Nat.reduceEqDiff,Nat.reduceAdd,Nat.reduceLT,decide_true,decide_false,true_and,and_true,forall_const,not_true_eq_false,not_false_eq_true,List.cons_append,List.nil_append,List.append_nil,List.take_succ_cons,List.take_zero,List.drop_succ_cons,List.drop_zero,List.length_cons,List.length_nil,List.set_cons_zero,implies_true,Bool.false_eq_true,false_implies,and_self,Bool.and_true,Bool.true_and,Bool.and_self,Nat.zero_add,ac,bx,bX,ax,LV.toD0,cz,ofD,cf,ao,bG,aQ,bV,bz,aN,be,bi,bh,br,AV.toD,SV.toD,LV.toD,aV,aR,bg,cB,AV.plain,SV.plain,LV.plain,List.all_cons,List.all_nil,Int.natCast_nonneg,Option.getD_some,PO.ret.injEq,dE,cE,cN,bY,cX,cr,bK,db,da,ce,ca,hk,eq_true h2,h3,eq_true h4,sZ,sT,e]
    refine SW.wk (loop _ (fun nx t n hn h4 h5=>?_) (fun hn nx t h4 h5=>?_)) (Wk.renL [] (by simp) (by simp) (by simp) (by rw [has];rfl) rfl)
    ·have hF:=hyes n hn
     simp only [List.map_nil,Nat.le_refl,List.length_map,bD,bH,aE,aP,aw,au,aH,ai,ak,an,ae,ah,aa,aB,aA,ap,ay,aK,aJ,ab,ar,aj,bN,aO,aY,aI,bI,bn,bA,Int.reduceBEq,Int.reduceBNe,ag,aq,aD,aOp,evT,aW,putT,aG,gAt,bL,hget,bC,bm,bB,cI,co,aX,bJ,ct,az,cellsOf,aU,bO,List.getElem?_cons_zero,List.getElem?_cons_succ,List.map_cons,Option.map_some,Int.toNat_natCast,Option.isSome_some,List.getElem?_map,reduceIte,reduceCtorEq,Nat.reduceEqDiff,Nat.reduceAdd,Nat.reduceLT,decide_true,decide_false,true_and,and_true,forall_const,not_true_eq_false,not_false_eq_true,List.cons_append,List.nil_append,List.append_nil,List.take_succ_cons,List.take_zero,List.drop_succ_cons,List.drop_zero,List.length_cons,List.length_nil,List.set_cons_zero,implies_true,Bool.false_eq_true,false_implies,and_self,Bool.and_true,Bool.true_and,Bool.and_self,Nat.zero_add,ac,bx,bX,ax,LV.toD0,cz,ofD,cf,ao,bG,aQ,bV,bz,aN,be,bi,bh,br,AV.toD,SV.toD,LV.toD,aV,aR,bg,cB,AV.plain,SV.plain,LV.plain,List.all_cons,List.all_nil,Int.natCast_nonneg,Option.getD_some,PO.ret.injEq,dE,cE,cN,bY,cX,cr,bK,db,da,ce,ca,h4,h5,hF,lW]
    ·have hF:=hno hn
     have h6:¬k=6:=by omega
     rw [if_neg h6] at hF
     rcases hsys:DH a with _ | n<;>simp only [List.map_nil,Nat.le_refl,List.length_map,bD,bH,aE,aP,aw,au,aH,ai,ak,an,ae,ah,aa,aB,aA,ap,ay,aK,aJ,ab,ar,aj,bN,aO,aY,aI,bI,bn,bA,Int.reduceBEq,Int.reduceBNe,ag,aq,aD,aOp,evT,aW,putT,aG,gAt,bL,hget,bC,bm,bB,cI,co,aX,bJ,ct,az,cellsOf,aU,bO,List.getElem?_cons_zero,List.getElem?_cons_succ,List.map_cons,Option.map_some,Int.toNat_natCast,Option.isSome_some,List.getElem?_map,reduceIte,reduceCtorEq,Nat.reduceEqDiff,Nat.reduceAdd,Nat.reduceLT,decide_true,decide_false,true_and,and_true,forall_const,not_true_eq_false,not_false_eq_true,List.cons_append,List.nil_append,List.append_nil,List.take_succ_cons,List.take_zero,List.drop_succ_cons,List.drop_zero,List.length_cons,List.length_nil,List.set_cons_zero,implies_true,Bool.false_eq_true,false_implies,and_self,Bool.and_true,Bool.true_and,Bool.and_self,Nat.zero_add,ac,bx,bX,ax,LV.toD0,cz,ofD,cf,ao,bG,aQ,bV,bz,aN,be,bi,bh,br,AV.toD,SV.toD,LV.toD,aV,aR,bg,cB,AV.plain,SV.plain,LV.plain,List.all_cons,List.all_nil,Int.natCast_nonneg,Option.getD_some,PO.ret.injEq,dE,cE,cN,bY,cX,cr,bK,db,da,ce,ca,h4,h5,h6,JJ,JG,haz,hsys,iX,hF,lW]
   ·have has:a=s:=by rw [← ha];unfold mc;rw [if_neg (fun h=>h3 h.2),if_neg (fun h=>h4 h.2)]
    simp only [List.map_nil,Nat.le_refl,List.length_map,bD,bH,aE,aP,aw,au,aH,ai,ak,an,ae,ah,aa,aB,aA,ap,ay,aK,aJ,ab,ar,aj,bN,aO,aY,aI,bI,bn,bA,Int.reduceBEq,Int.reduceBNe,ag,aq,aD,aOp,evT,aW,putT,aG,gAt,bL,hget,bC,bm,bB,cI,co,aX,bJ,ct,az,cellsOf,aU,bO,List.getElem?_cons_zero,List.getElem?_cons_succ,List.map_cons,Option.map_some,Int.toNat_natCast,Option.isSome_some,List.getElem?_map,reduceIte,reduceCtorEq,Nat.reduceEqDiff,Nat.reduceAdd,Nat.reduceLT,decide_true,decide_false,true_and,and_true,forall_const,not_true_eq_false,not_false_eq_true,List.cons_append,List.nil_append,List.append_nil,List.take_succ_cons,List.take_zero,List.drop_succ_cons,List.drop_zero,List.length_cons,List.length_nil,List.set_cons_zero,implies_true,Bool.false_eq_true,false_implies,and_self,Bool.and_true,Bool.true_and,Bool.and_self,Nat.zero_add,ac,bx,bX,ax,LV.toD0,cz,ofD,cf,ao,bG,aQ,bV,bz,aN,be,bi,bh,br,AV.toD,SV.toD,LV.toD,aV,aR,bg,cB,AV.plain,SV.plain,LV.plain,List.all_cons,List.all_nil,Int.natCast_nonneg,Option.getD_some,PO.ret.injEq,dE,cE,cN,bY,cX,cr,bK,db,da,ce,ca,hk,eq_true h2,h3,h4,sZ,sT,e]
    refine SW.wk (loop _ (fun nx t n hn h4 h5=>?_) (fun hn nx t h4 h5=>?_)) (Wk.renL [] (by simp) (by simp) (by simp) (by rw [has];rfl) rfl)
    ·have hF:=hyes n hn
     simp only [List.map_nil,Nat.le_refl,List.length_map,bD,bH,aE,aP,aw,au,aH,ai,ak,an,ae,ah,aa,aB,aA,ap,ay,aK,aJ,ab,ar,aj,bN,aO,aY,aI,bI,bn,bA,Int.reduceBEq,Int.reduceBNe,ag,aq,aD,aOp,evT,aW,putT,aG,gAt,bL,hget,bC,bm,bB,cI,co,aX,bJ,ct,az,cellsOf,aU,bO,List.getElem?_cons_zero,List.getElem?_cons_succ,List.map_cons,Option.map_some,Int.toNat_natCast,Option.isSome_some,List.getElem?_map,reduceIte,reduceCtorEq,Nat.reduceEqDiff,Nat.reduceAdd,Nat.reduceLT,decide_true,decide_false,true_and,and_true,forall_const,not_true_eq_false,not_false_eq_true,List.cons_append,List.nil_append,List.append_nil,List.take_succ_cons,List.take_zero,List.drop_succ_cons,List.drop_zero,List.length_cons,List.length_nil,List.set_cons_zero,implies_true,Bool.false_eq_true,false_implies,and_self,Bool.and_true,Bool.true_and,Bool.and_self,Nat.zero_add,ac,bx,bX,ax,LV.toD0,cz,ofD,cf,ao,bG,aQ,bV,bz,aN,be,bi,bh,br,AV.toD,SV.toD,LV.toD,aV,aR,bg,cB,AV.plain,SV.plain,LV.plain,List.all_cons,List.all_nil,Int.natCast_nonneg,Option.getD_some,PO.ret.injEq,dE,cE,cN,bY,cX,cr,bK,db,da,ce,ca,h4,h5,hF,lW]
    ·have hF:=hno hn
     have h6:¬k=6:=by omega
     rw [if_neg h6] at hF
     rcases hsys:DH a with _ | n<;>simp only [List.map_nil,Nat.le_refl,List.length_map,bD,bH,aE,aP,aw,au,aH,ai,ak,an,ae,ah,aa,aB,aA,ap,ay,aK,aJ,ab,ar,aj,bN,aO,aY,aI,bI,bn,bA,Int.reduceBEq,Int.reduceBNe,ag,aq,aD,aOp,evT,aW,putT,aG,gAt,bL,hget,bC,bm,bB,cI,co,aX,bJ,ct,az,cellsOf,aU,bO,List.getElem?_cons_zero,List.getElem?_cons_succ,List.map_cons,Option.map_some,Int.toNat_natCast,Option.isSome_some,List.getElem?_map,reduceIte,reduceCtorEq,Nat.reduceEqDiff,Nat.reduceAdd,Nat.reduceLT,decide_true,decide_false,true_and,and_true,forall_const,not_true_eq_false,not_false_eq_true,List.cons_append,List.nil_append,List.append_nil,List.take_succ_cons,List.take_zero,List.drop_succ_cons,List.drop_zero,List.length_cons,List.length_nil,List.set_cons_zero,implies_true,Bool.false_eq_true,false_implies,and_self,Bool.and_true,Bool.true_and,Bool.and_self,Nat.zero_add,ac,bx,bX,ax,LV.toD0,cz,ofD,cf,ao,bG,aQ,bV,bz,aN,be,bi,bh,br,AV.toD,SV.toD,LV.toD,aV,aR,bg,cB,AV.plain,SV.plain,LV.plain,List.all_cons,List.all_nil,Int.natCast_nonneg,Option.getD_some,PO.ret.injEq,dE,cE,cN,bY,cX,cr,bK,db,da,ce,ca,h4,h5,h6,JJ,JG,haz,hsys,iX,hF,lW]
  ·have has:a=s:=by rw [← ha];unfold mc;rw [if_neg (fun h=>h2 h.1),if_neg (fun h=>h2 h.1)]
   by_cases hnil:l=[]
   have e:lR k=Ol:=by unfold lR;rw [hl,if_pos hnil]
   simp only [List.map_nil,Nat.le_refl,List.length_map,bD,bH,aE,aP,aw,au,aH,ai,ak,an,ae,ah,aa,aB,aA,ap,ay,aK,aJ,ab,ar,aj,bN,aO,aY,aI,bI,bn,bA,Int.reduceBEq,Int.reduceBNe,ag,aq,aD,aOp,evT,aW,putT,aG,gAt,bL,hget,bC,bm,bB,cI,co,aX,bJ,ct,az,cellsOf,aU,bO,List.getElem?_cons_zero,List.getElem?_cons_succ,List.map_cons,Option.map_some,Int.toNat_natCast,Option.isSome_some,List.getElem?_map,reduceIte,reduceCtorEq,Nat.reduceEqDiff,Nat.reduceAdd,Nat.reduceLT,decide_true,decide_false,true_and,and_true,forall_const,not_true_eq_false,not_false_eq_true,List.cons_append,List.nil_append,List.append_nil,List.take_succ_cons,List.take_zero,List.drop_succ_cons,List.drop_zero,List.length_cons,List.length_nil,List.set_cons_zero,implies_true,Bool.false_eq_true,false_implies,and_self,Bool.and_true,Bool.true_and,Bool.and_self,Nat.zero_add,ac,bx,bX,ax,LV.toD0,cz,ofD,cf,ao,bG,aQ,bV,bz,aN,be,bi,bh,br,AV.toD,SV.toD,LV.toD,aV,aR,bg,cB,AV.plain,SV.plain,LV.plain,List.all_cons,List.all_nil,Int.natCast_nonneg,Option.getD_some,PO.ret.injEq,dE,cE,cN,bY,cX,cr,bK,db,da,ce,ca,hk,h2,sZ,sT,e,Ol]
   refine SW.wk (loop _ (fun nx t n hn h4 h5=>?_) (fun hn nx t h4 h5=>?_)) ((Wk.nilD 8 2 rfl).trans (Wk.renL [] (by simp) (by simp) (by simp) (by rw [has,hnil];rfl) rfl))
   rotate_left 2
   have e:lR k=fF l:=by unfold lR;rw [hl,if_neg hnil]
   simp only [List.map_nil,Nat.le_refl,List.length_map,bD,bH,aE,aP,aw,au,aH,ai,ak,an,ae,ah,aa,aB,aA,ap,ay,aK,aJ,ab,ar,aj,bN,aO,aY,aI,bI,bn,bA,Int.reduceBEq,Int.reduceBNe,ag,aq,aD,aOp,evT,aW,putT,aG,gAt,bL,hget,bC,bm,bB,cI,co,aX,bJ,ct,az,cellsOf,aU,bO,List.getElem?_cons_zero,List.getElem?_cons_succ,List.map_cons,Option.map_some,Int.toNat_natCast,Option.isSome_some,List.getElem?_map,reduceIte,reduceCtorEq,Nat.reduceEqDiff,Nat.reduceAdd,Nat.reduceLT,decide_true,decide_false,true_and,and_true,forall_const,not_true_eq_false,not_false_eq_true,List.cons_append,List.nil_append,List.append_nil,List.take_succ_cons,List.take_zero,List.drop_succ_cons,List.drop_zero,List.length_cons,List.length_nil,List.set_cons_zero,implies_true,Bool.false_eq_true,false_implies,and_self,Bool.and_true,Bool.true_and,Bool.and_self,Nat.zero_add,ac,bx,bX,ax,LV.toD0,cz,ofD,cf,ao,bG,aQ,bV,bz,aN,be,bi,bh,br,AV.toD,SV.toD,LV.toD,aV,aR,bg,cB,AV.plain,SV.plain,LV.plain,List.all_cons,List.all_nil,Int.natCast_nonneg,Option.getD_some,PO.ret.injEq,dE,cE,cN,bY,cX,cr,bK,db,da,ce,ca,hk,h2,sZ,sT,e]
   refine SW.wk (loop _ (fun nx t n hn h4 h5=>?_) (fun hn nx t h4 h5=>?_)) (Wk.renL [] (by simp) (by simp) (by simp) (by rw [has];rfl) rfl)
   all_goals first
    | (
     have hF:=hyes n hn
     simp only [List.map_nil,Nat.le_refl,List.length_map,bD,bH,aE,aP,aw,au,aH,ai,ak,an,ae,ah,aa,aB,aA,ap,ay,aK,aJ,ab,ar,aj,bN,aO,aY,aI,bI,bn,bA,Int.reduceBEq,Int.reduceBNe,ag,aq,aD,aOp,evT,aW,putT,aG,gAt,bL,hget,bC,bm,bB,cI,co,aX,bJ,ct,az,cellsOf,aU,bO,List.getElem?_cons_zero,List.getElem?_cons_succ,List.map_cons,Option.map_some,Int.toNat_natCast,Option.isSome_some,List.getElem?_map,reduceIte,reduceCtorEq,Nat.reduceEqDiff,Nat.reduceAdd,Nat.reduceLT,decide_true,decide_false,true_and,and_true,forall_const,not_true_eq_false,not_false_eq_true,List.cons_append,List.nil_append,List.append_nil,List.take_succ_cons,List.take_zero,List.drop_succ_cons,List.drop_zero,List.length_cons,List.length_nil,List.set_cons_zero,implies_true,Bool.false_eq_true,false_implies,and_self,Bool.and_true,Bool.true_and,Bool.and_self,Nat.zero_add,ac,bx,bX,ax,LV.toD0,cz,ofD,cf,ao,bG,aQ,bV,bz,aN,be,bi,bh,br,AV.toD,SV.toD,LV.toD,aV,aR,bg,cB,AV.plain,SV.plain,LV.plain,List.all_cons,List.all_nil,Int.natCast_nonneg,Option.getD_some,PO.ret.injEq,dE,cE,cN,bY,cX,cr,bK,db,da,ce,ca,h4,h5,hF,lW])
    | (
     have hF:=hno hn
     by_cases h6:k=6
     ·rw [if_pos h6] at hF
      rcases hsys:DH a with _ | n
      ·rw [hsys] at hF
       simp only [List.map_nil,Nat.le_refl,List.length_map,bD,bH,aE,aP,aw,au,aH,ai,ak,an,ae,ah,aa,aB,aA,ap,ay,aK,aJ,ab,ar,aj,bN,aO,aY,aI,bI,bn,bA,Int.reduceBEq,Int.reduceBNe,ag,aq,aD,aOp,evT,aW,putT,aG,gAt,bL,hget,bC,bm,bB,cI,co,aX,bJ,ct,az,cellsOf,aU,bO,List.getElem?_cons_zero,List.getElem?_cons_succ,List.map_cons,Option.map_some,Int.toNat_natCast,Option.isSome_some,List.getElem?_map,reduceIte,reduceCtorEq,Nat.reduceEqDiff,Nat.reduceAdd,Nat.reduceLT,decide_true,decide_false,true_and,and_true,forall_const,not_true_eq_false,not_false_eq_true,List.cons_append,List.nil_append,List.append_nil,List.take_succ_cons,List.take_zero,List.drop_succ_cons,List.drop_zero,List.length_cons,List.length_nil,List.set_cons_zero,implies_true,Bool.false_eq_true,false_implies,and_self,Bool.and_true,Bool.true_and,Bool.and_self,Nat.zero_add,ac,bx,bX,ax,LV.toD0,cz,ofD,cf,ao,bG,aQ,bV,bz,aN,be,bi,bh,br,AV.toD,SV.toD,LV.toD,aV,aR,bg,cB,AV.plain,SV.plain,LV.plain,List.all_cons,List.all_nil,Int.natCast_nonneg,Option.getD_some,PO.ret.injEq,dE,cE,cN,bY,cX,cr,bK,db,da,ce,ca,h4,h5,eq_true h6,JJ,JG,haz,hsys,iX,hF,lW]
      ·rw [hsys] at hF
       simp only [List.map_nil,Nat.le_refl,List.length_map,bD,bH,aE,aP,aw,au,aH,ai,ak,an,ae,ah,aa,aB,aA,ap,ay,aK,aJ,ab,ar,aj,bN,aO,aY,aI,bI,bn,bA,Int.reduceBEq,Int.reduceBNe,ag,aq,aD,aOp,evT,aW,putT,aG,gAt,bL,hget,bC,bm,bB,cI,co,aX,bJ,ct,az,cellsOf,aU,bO,List.getElem?_cons_zero,List.getElem?_cons_succ,List.map_cons,Option.map_some,Int.toNat_natCast,Option.isSome_some,List.getElem?_map,reduceIte,reduceCtorEq,Nat.reduceEqDiff,Nat.reduceAdd,Nat.reduceLT,decide_true,decide_false,true_and,and_true,forall_const,not_true_eq_false,not_false_eq_true,List.cons_append,List.nil_append,List.append_nil,List.take_succ_cons,List.take_zero,List.drop_succ_cons,List.drop_zero,List.length_cons,List.length_nil,List.set_cons_zero,implies_true,Bool.false_eq_true,false_implies,and_self,Bool.and_true,Bool.true_and,Bool.and_self,Nat.zero_add,ac,bx,bX,ax,LV.toD0,cz,ofD,cf,ao,bG,aQ,bV,bz,aN,be,bi,bh,br,AV.toD,SV.toD,LV.toD,aV,aR,bg,cB,AV.plain,SV.plain,LV.plain,List.all_cons,List.all_nil,Int.natCast_nonneg,Option.getD_some,PO.ret.injEq,dE,cE,cN,bY,cX,cr,bK,db,da,ce,ca,h4,h5,eq_true h6,JJ,JG,haz,hsys,iX,hF,lW]
     ·rw [if_neg h6] at hF
      rcases hsys:DH a with _ | n<;>simp only [List.map_nil,Nat.le_refl,List.length_map,bD,bH,aE,aP,aw,au,aH,ai,ak,an,ae,ah,aa,aB,aA,ap,ay,aK,aJ,ab,ar,aj,bN,aO,aY,aI,bI,bn,bA,Int.reduceBEq,Int.reduceBNe,ag,aq,aD,aOp,evT,aW,putT,aG,gAt,bL,hget,bC,bm,bB,cI,co,aX,bJ,ct,az,cellsOf,aU,bO,List.getElem?_cons_zero,List.getElem?_cons_succ,List.map_cons,Option.map_some,Int.toNat_natCast,Option.isSome_some,List.getElem?_map,reduceIte,reduceCtorEq,Nat.reduceEqDiff,Nat.reduceAdd,Nat.reduceLT,decide_true,decide_false,true_and,and_true,forall_const,not_true_eq_false,not_false_eq_true,List.cons_append,List.nil_append,List.append_nil,List.take_succ_cons,List.take_zero,List.drop_succ_cons,List.drop_zero,List.length_cons,List.length_nil,List.set_cons_zero,implies_true,Bool.false_eq_true,false_implies,and_self,Bool.and_true,Bool.true_and,Bool.and_self,Nat.zero_add,ac,bx,bX,ax,LV.toD0,cz,ofD,cf,ao,bG,aQ,bV,bz,aN,be,bi,bh,br,AV.toD,SV.toD,LV.toD,aV,aR,bg,cB,AV.plain,SV.plain,LV.plain,List.all_cons,List.all_nil,Int.natCast_nonneg,Option.getD_some,PO.ret.injEq,dE,cE,cN,bY,cX,cr,bK,db,da,ce,ca,h4,h5,h6,JJ,JG,haz,hsys,iX,hF,lW])
def Kl:cK Tryz.prog 46 :=
 mk2 _ _ _ Tryz.func46 rfl (fun _ _=>by go_simp) (aR .i64) (bg) ((fun _ s=>s.size≤1099511627776)) ((fun k s=>.ret (lW (cV 3 k s)))) (by rw [Tryz.ntmps46];decide) (fun k s hs=>Vf k s hs)
theorem Kw {id:Nat} {h:aF} {args:List AV}:(Kl).run id h args=be (bE (aR .i64) (bg) ((fun _ s=>s.size≤1099511627776))) (fun x=>((fun k s=>.ret (lW (cV 3 k s)))) x.1 x.2) h args:=rfl
theorem Kq {id:Nat} {h:aF} {args:List AV}:(Kl).pan id h args=bi (bE (aR .i64) (bg) ((fun _ s=>s.size≤1099511627776))) (fun x=>((fun k s=>.ret (lW (cV 3 k s)))) x.1 x.2) h args:=rfl
theorem Zd (s:ByteArray) (hs:s.size≤1099511627776):SW Tryz.prog ⟨none,0⟩ Tryz.f89.ntmps (Tryz.f89.body.getD .skip) ⟨0,aN 0 [bg.enc s],[]⟩ (fa Tryz.prog Tryz.f89.results.toList (.ret (bv (mB 3 s)))):=by
 refine aC (ctx:=[⟨_,Kl⟩]) 4000 ?_
 rw [Tryz.ntmps89,Tryz.results89]
 simp only [Tryz.f89,Option.getD_some,aN]
 simp only [List.map_nil,bD,bH,Int.cast_ofNat_Int,aE,aP,aw,au,ai,ak,an,ae,ah,aa,aB,aA,ap,ay,aK,aJ,ab,ar,aj,aO,bA,ag,aq,aD,aOp,evT,aW,putT,aG,bC,az,bO,List.getElem?_cons_zero,List.getElem?_cons_succ,List.map_cons,reduceIte,reduceCtorEq,Nat.reduceEqDiff,Nat.reduceAdd,Nat.reduceLT,decide_true,decide_false,true_and,forall_const,not_true_eq_false,not_false_eq_true,List.nil_append,List.append_nil,List.length_nil,implies_true,false_implies,and_self,Bool.true_and,Bool.and_self,Nat.zero_add,ac,bx,bX,ax,ofD,ao,bG,aQ,bz,aN,be,bi,bh,br,AV.toD,SV.toD,LV.toD,bE,aR,bg,AV.plain,SV.plain,LV.plain,List.all_cons,List.all_nil,Option.getD_some,PO.ret.injEq]
 refine fj (ι:=Nat) (fun i=>i≤8∧NB 3 s i=false) (fun i=>⟨0,[(0,sv s),(3,iv ((i:Int)+1))],[]⟩) (fun i=>8-i) 0 ⟨by omega,rfl⟩ (Wk.renL [] (by simp) (by simp) (by simp) rfl rfl) ?_
 rintro i ⟨hi,hn⟩
 refine aC (ctx:=[⟨_,Kl⟩]) 4000 ?_
 by_cases hlt:i<8
 ·have hltI:(i:Int)+1≤8:=by omega
  have ei:IntKind.i64.wrap ((i:Int)+1+1)=((i+1:Nat):Int)+1:=by rw [IntKind.wrap_i64];omega
  have ec:((i+1:Nat):Int)=(i:Int)+1:=by omega
  by_cases he:(cV 3 ((i:Int)+1) s).2=0
  ·have hw:mB 3 s=true:=QB (i:=i) (by rw [ec];exact he) hlt
   simp only [List.map_nil,bD,bH,Int.cast_ofNat_Int,aE,aP,aw,au,ai,ak,an,ae,ah,aa,aB,aA,ap,ay,aK,aJ,ab,ar,aj,aO,bA,ag,aq,aD,aOp,evT,aW,putT,aG,bC,az,bO,List.getElem?_cons_zero,List.getElem?_cons_succ,List.map_cons,reduceIte,reduceCtorEq,Nat.reduceEqDiff,Nat.reduceAdd,Nat.reduceLT,decide_true,decide_false,true_and,forall_const,not_true_eq_false,not_false_eq_true,List.nil_append,List.append_nil,List.length_nil,implies_true,false_implies,and_self,Bool.true_and,Bool.and_self,Nat.zero_add,ac,bx,bX,ax,ofD,ao,bG,aQ,bz,aN,be,bi,bh,br,AV.toD,SV.toD,LV.toD,bE,aR,bg,AV.plain,SV.plain,LV.plain,List.all_cons,List.all_nil,Option.getD_some,PO.ret.injEq,hltI,Kw,Kq,hs,lW,eq_true he,hw]
  ·simp only [List.map_nil,bD,bH,Int.cast_ofNat_Int,aE,aP,aw,au,ai,ak,an,ae,ah,aa,aB,aA,ap,ay,aK,aJ,ab,ar,aj,aO,bA,ag,aq,aD,aOp,evT,aW,putT,aG,bC,az,bO,List.getElem?_cons_zero,List.getElem?_cons_succ,List.map_cons,reduceIte,reduceCtorEq,Nat.reduceEqDiff,Nat.reduceAdd,Nat.reduceLT,decide_true,decide_false,true_and,forall_const,not_true_eq_false,not_false_eq_true,List.nil_append,List.append_nil,List.length_nil,implies_true,false_implies,and_self,Bool.true_and,Bool.and_self,Nat.zero_add,ac,bx,bX,ax,ofD,ao,bG,aQ,bz,aN,be,bi,bh,br,AV.toD,SV.toD,LV.toD,bE,aR,bg,AV.plain,SV.plain,LV.plain,List.all_cons,List.all_nil,Option.getD_some,PO.ret.injEq,hltI,Kw,Kq,hs,lW,he,ei]
   exact ⟨i+1,⟨by omega,by rw [NB,hn,ec];simp [he]⟩,by omega,Wk.renL [] (by simp) (by simp) (by simp) rfl rfl⟩
 ·obtain rfl:i=8:=by omega
  simp only [List.map_nil,bD,bH,Int.cast_ofNat_Int,aE,aP,aw,au,ai,ak,an,ae,ah,aa,aB,aA,ap,ay,aK,aJ,ab,ar,aj,aO,bA,ag,aq,aD,aOp,evT,aW,putT,aG,bC,az,bO,List.getElem?_cons_zero,List.getElem?_cons_succ,List.map_cons,reduceIte,reduceCtorEq,Nat.reduceEqDiff,Nat.reduceAdd,Nat.reduceLT,decide_true,decide_false,true_and,forall_const,not_true_eq_false,not_false_eq_true,List.nil_append,List.append_nil,List.length_nil,implies_true,false_implies,and_self,Bool.true_and,Bool.and_self,Nat.zero_add,ac,bx,bX,ax,ofD,ao,bG,aQ,bz,aN,be,bi,bh,br,AV.toD,SV.toD,LV.toD,bE,aR,bg,AV.plain,SV.plain,LV.plain,List.all_cons,List.all_nil,Option.getD_some,PO.ret.injEq,show mB 3 s=false from hn,show ¬((8:Int)+1≤8) by omega]
def TV:cK Tryz.prog 89 :=
 mk1 _ _ _ Tryz.func89 rfl (fun _ _=>by go_simp) (bg) ((fun s=>s.size≤1099511627776)) ((fun s=>.ret (bv (mB 3 s)))) (by rw [Tryz.ntmps89];decide) (fun s hs=>Zd s hs)
theorem WB {id:Nat} {h:aF} {args:List AV}:(TV).run id h args=be (aV (bg) ((fun s=>s.size≤1099511627776))) ((fun s=>.ret (bv (mB 3 s)))) h args:=rfl
theorem WI {id:Nat} {h:aF} {args:List AV}:(TV).pan id h args=bi (aV (bg) ((fun s=>s.size≤1099511627776))) ((fun s=>.ret (bv (mB 3 s)))) h args:=rfl
end Go.Proofs.YthcoegkfpinlfaaGreatDoor
