import Derived.Test.YthcoegkfpinlfaaGreatDoorO19
import Derived.Test.YthcoegkfpinlfaaGreatDoorO21
set_option linter.unusedVariables false
set_option linter.unusedSimpArgs false
set_option maxRecDepth 100000
set_option maxHeartbeats 8000000
namespace Go.Proofs.YthcoegkfpinlfaaGreatDoor
open Go.RowKit
def hsS:ByteArray:=⟨#[104,115]⟩
def loS:ByteArray:=⟨#[108,111]⟩
def csS:ByteArray:=⟨#[99,115]⟩
def ccS:ByteArray:=⟨#[99,99]⟩
def mc (k:Int) (s:ByteArray):ByteArray:=if k=2∧s=hsS then csS else if k=2∧s=loS then ccS else s
def cV (lim:Nat) (k:Int) (s:ByteArray):Int×Int :=
 if k=1 then (if (i9 lim s).2=0 then (Cv (i9 lim s).1,0) else (0,(i9 lim s).2)) else
 match se (sj k) (mc k s) with
 | some n=>(n,0)
 | none=>if k=6 then match Lu lim (mc k s) with
   | some n=>(n,0)
   | none=>(0,30)
  else (0,30)
def lW (r:Int×Int):AV:=.tup [.l (.v (.int .i64 r.1)),.l (.v (.int .i64 r.2))]
theorem O8 (lim:Nat) (s:ByteArray):0≤(i9 lim s).1.n∧(i9 lim s).1.n≤31:=by
 unfold i9
 repeat' split
 all_goals (try simp)
 unfold Nn
 split
 ·rename_i n hd
  have:=dW (lim:=lim) (s:=s.extract 1 s.size) (most:=30) (by rw [hd])
  rw [hd] at this
  simp only at this ⊢
  omega
 ·simp
def D4 (a:ByteArray):Blk:=⟨true,9,1,[[.v (.string a)]]⟩
def CS (n:Int):Blk:=⟨true,2,1,[[.v (.int .i64 n)]]⟩
def CX (n:Int):Blk:=⟨true,25,1,[[.v (.int .i64 n)]]⟩
def OJ (k:Int):dy:=[(0,iv k),(3,pv 0 0 0),(4,pv 1 0 0),(5,pv 2 0 0),(40,.s (.l (.d (.fn 127 [] [.pd [.v (.int .i64 k)]]))))]
def PG (a:ByteArray):aF:=[(0,some (D4 a)),(1,some (CS 0)),(2,some (CX 0))]
def PH (k:Int) (a:ByteArray):St:=⟨3,OJ k,PG a⟩
def N1:Code→Code
 | .seq x y=>match N1 x with
  | .skip=>N1 y
  | z=>z
 | .block _ x=>N1 x
 | .rangeFunc x ps as' bo=>.rangeFunc x ps as' bo
 | _=>.skip
theorem XY (k:Int) (s:ByteArray) (hs:s.size≤1099511627776):SW Tryz.prog ⟨none,0⟩ Tryz.f31.ntmps (Tryz.f31.body.getD .skip) ⟨0,aN 0 [(aR .i64).enc k,bg.enc s],[]⟩ (fa Tryz.prog Tryz.f31.results.toList (.ret (lW (cV 3 k s)))):=by
 refine aC (ctx:=[⟨_,regS⟩,⟨_,UT⟩,⟨_,allS⟩,⟨_,sysS⟩]) 4000 ?_
 rw [Tryz.ntmps31,Tryz.results31]
 simp only [Tryz.f31,Option.getD_some,aN]
 by_cases hk:k=1
 ·subst hk
  have hr:=O8 3 s
  have q : -100000<(i9 3 s).1.n∧(i9 3 s).1.n<100000:=by omega
  by_cases he:(i9 3 s).2=0
  ·have hF:cV 3 1 s=(Cv (i9 3 s).1,0):=by unfold cV;rw [if_pos rfl,if_pos he]
   simp only [cC,List.map_nil,Nat.le_refl,bD,bH,aE,aP,aw,au,aH,ai,ak,an,ae,ah,aa,bw,ay,ab,ar,aj,bN,aO,aY,aI,bI,bn,Int.reduceBEq,Int.reduceBNe,List.mem_cons,List.not_mem_nil,aOp,evT,aW,putT,aG,gAt,bL,hget,bC,bm,bB,cI,az,cellsOf,LV.one,Value.oneCell',aU,bO,List.getElem?_cons_zero,List.getElem?_cons_succ,List.map_cons,Option.map_some,reduceIte,reduceCtorEq,Nat.reduceEqDiff,Nat.reduceAdd,Nat.reduceLT,decide_true,decide_false,true_and,and_true,forall_const,not_true_eq_false,not_false_eq_true,List.cons_append,List.nil_append,List.append_nil,List.take_succ_cons,List.take_zero,List.drop_succ_cons,List.drop_zero,List.length_cons,List.length_nil,List.set_cons_zero,implies_true,Bool.false_eq_true,false_implies,and_self,Bool.and_true,Bool.true_and,Bool.and_self,Nat.zero_add,ac,bx,bX,ax,LV.toD0,cz,ofD,cf,ao,bG,aQ,bV,bz,aN,be,bi,bh,br,AV.toD,SV.toD,LV.toD,aV,aR,bg,cB,AV.plain,SV.plain,LV.plain,List.all_cons,List.all_nil,Option.getD_some,PO.ret.injEq,exists_and_left,exists_const,dE,cE,eD,cN,bY,iT,eG,dF,cX,cr,bK,VO,Wf,sV,he,Xd,X0,fh,hF,lW,q]
  ·have hF:cV 3 1 s=(0,(i9 3 s).2):=by unfold cV;rw [if_pos rfl,if_neg he]
   simp only [cC,List.map_nil,Nat.le_refl,bD,bH,aE,aP,aw,au,aH,ai,ak,an,ae,ah,aa,bw,ay,ab,ar,aj,bN,aO,aY,aI,bI,bn,Int.reduceBEq,Int.reduceBNe,List.mem_cons,List.not_mem_nil,aOp,evT,aW,putT,aG,gAt,bL,hget,bC,bm,bB,cI,az,cellsOf,LV.one,Value.oneCell',aU,bO,List.getElem?_cons_zero,List.getElem?_cons_succ,List.map_cons,Option.map_some,reduceIte,reduceCtorEq,Nat.reduceEqDiff,Nat.reduceAdd,Nat.reduceLT,decide_true,decide_false,true_and,and_true,forall_const,not_true_eq_false,not_false_eq_true,List.cons_append,List.nil_append,List.append_nil,List.take_succ_cons,List.take_zero,List.drop_succ_cons,List.drop_zero,List.length_cons,List.length_nil,List.set_cons_zero,implies_true,Bool.false_eq_true,false_implies,and_self,Bool.and_true,Bool.true_and,Bool.and_self,Nat.zero_add,ac,bx,bX,ax,LV.toD0,cz,ofD,cf,ao,bG,aQ,bV,bz,aN,be,bi,bh,br,AV.toD,SV.toD,LV.toD,aV,aR,bg,cB,AV.plain,SV.plain,LV.plain,List.all_cons,List.all_nil,Option.getD_some,PO.ret.injEq,exists_and_left,exists_const,dE,cE,eD,cN,bY,iT,eG,dF,cX,cr,bK,VO,Wf,sV,he,hF,lW]
 ·obtain ⟨a,ha⟩:∃ a,mc k s=a:=⟨_,rfl⟩
  have haz:a.size≤1099511627776:=by
   rw [← ha]
   unfold mc
   split
   ·decide
   ·split
    ·decide
    ·exact hs
  have nf:∀ (Q:Exit→St→Prop),(∀ nx t (n:Int),se (sj k) a=some n→aW t 4=pv 1 0 0→aW t 5=pv 2 0 0→Q .ret ⟨nx,t,[(2,some (CX 0)),(1,some (CS n)),(0,some (D4 a)),(1,some (CS 0)),(2,some (CX 0))]⟩) →
    (se (sj k) a=none→Q .normal (PH k a))→SW Tryz.prog ⟨none,0⟩ 56 (N1 (Tryz.f31.body.getD .skip)) (PH k a) Q:=by
   intro Q hret hdone
   refine Tv (K':=3) (by decide) (fun j hj=>?_) ?_
   ·have hj':j=0∨j=1∨j=2:=by omega
    rcases hj' with rfl | rfl | rfl<;>exact ⟨_,rfl⟩
   refine Sf (ι:=Unit) (mv:=[(8,41),(9,42)]) (t:=OJ k) (fun i _=>∀ (j:Nat) (r:ByteArray×Int),j<i→(sj k)[j]? = some r→¬r.1=a) (fun _=>PG a) (fun _=>3) (fun c s=>c=.ret∧∃ n,se (sj k) a=some n∧s.h=[(2,some (CX 0)),(1,some (CS n)),(0,some (D4 a)),(1,some (CS 0)),(2,some (CX 0))]) Zh aas trivial rfl rfl (by decide) (by decide) (fun As hA=>?_) (QW rfl) (fun i x _=>C3 rfl) (fun c s h=>?_) () (fun j r hj=>absurd hj (Nat.not_lt_zero j)) (fun l i x As hinv hA=>?_) (fun x hinv=>?_) (fun c s h=>?_)
   ·obtain ⟨r,_,rfl⟩:=List.mem_map.1 hA
    rfl
   ·obtain ⟨_,n,_,hh⟩:=h
    rw [hh]
    exact C3 rfl
   ·rw [List.getElem?_map,Option.map_eq_some_iff] at hA
    obtain ⟨r,hr,rfl⟩:=hA
    have hr':(sj k)[i]? = some r:=by rw [show NN k=sj k by unfold NN;rw [if_neg hk]] at hr;exact hr
    refine aC (ctx:=[]) 4000 ?_
    by_cases he:r.1=a
    ·simp only [cC,List.map_nil,Nat.le_refl,bD,bH,aE,aP,aw,au,aH,ai,ak,an,ae,ah,aa,bw,ay,ab,ar,aj,bN,aO,aY,aI,bI,bn,Int.reduceBEq,Int.reduceBNe,List.mem_cons,List.not_mem_nil,aOp,evT,aW,putT,aG,gAt,bL,hget,bC,bm,bB,cI,az,cellsOf,LV.one,Value.oneCell',aU,bO,List.getElem?_cons_zero,List.getElem?_cons_succ,List.map_cons,Option.map_some,reduceIte,reduceCtorEq,Nat.reduceEqDiff,Nat.reduceAdd,Nat.reduceLT,decide_true,decide_false,true_and,and_true,forall_const,not_true_eq_false,not_false_eq_true,List.cons_append,List.nil_append,List.append_nil,List.take_succ_cons,List.take_zero,List.drop_succ_cons,List.drop_zero,List.length_cons,List.length_nil,List.set_cons_zero,implies_true,Bool.false_eq_true,false_implies,and_self,Bool.and_true,Bool.true_and,Bool.and_self,Nat.zero_add,ac,bx,bX,ax,LV.toD0,cz,ofD,cf,ao,bG,aQ,bV,bz,aN,be,bi,bh,br,AV.toD,SV.toD,LV.toD,aV,aR,bg,cB,AV.plain,SV.plain,LV.plain,List.all_cons,List.all_nil,Option.getD_some,PO.ret.injEq,exists_and_left,exists_const,dE,cE,eD,cN,bY,iT,eG,dF,cX,cr,bK,LP,Dh,Xo,OJ,PG,CX,D4,CS,List.zip_cons_cons,List.zip_nil_left,List.foldl_cons,List.foldl_nil,he]
     exact ⟨r.2,Tc hinv hr' he,rfl⟩
    ·simp only [cC,List.map_nil,Nat.le_refl,bD,bH,aE,aP,aw,au,aH,ai,ak,an,ae,ah,aa,bw,ay,ab,ar,aj,bN,aO,aY,aI,bI,bn,Int.reduceBEq,Int.reduceBNe,List.mem_cons,List.not_mem_nil,aOp,evT,aW,putT,aG,gAt,bL,hget,bC,bm,bB,cI,az,cellsOf,LV.one,Value.oneCell',aU,bO,List.getElem?_cons_zero,List.getElem?_cons_succ,List.map_cons,Option.map_some,reduceIte,reduceCtorEq,Nat.reduceEqDiff,Nat.reduceAdd,Nat.reduceLT,decide_true,decide_false,true_and,and_true,forall_const,not_true_eq_false,not_false_eq_true,List.cons_append,List.nil_append,List.append_nil,List.take_succ_cons,List.take_zero,List.drop_succ_cons,List.drop_zero,List.length_cons,List.length_nil,List.set_cons_zero,implies_true,Bool.false_eq_true,false_implies,and_self,Bool.and_true,Bool.true_and,Bool.and_self,Nat.zero_add,ac,bx,bX,ax,LV.toD0,cz,ofD,cf,ao,bG,aQ,bV,bz,aN,be,bi,bh,br,AV.toD,SV.toD,LV.toD,aV,aR,bg,cB,AV.plain,SV.plain,LV.plain,List.all_cons,List.all_nil,Option.getD_some,PO.ret.injEq,exists_and_left,exists_const,dE,cE,eD,cN,bY,iT,eG,dF,cX,cr,bK,LP,Dh,Xo,OJ,PG,CX,D4,CS,List.zip_cons_cons,List.zip_nil_left,List.foldl_cons,List.foldl_nil,he]
     refine ⟨⟨fun j r' hj hj'=>?_,Wk.renL [0,1,2] (pinR 3) (Nat.le_refl 3) (by decide) rfl rfl⟩,rfl⟩
     ·by_cases e:j=i
      ·subst e
       rw [hr'] at hj'
       injection hj' with hj'
       rw [← hj']
       exact he
      ·exact hinv j r' (by omega) hj'
   ·exact hdone (Pm (by rw [List.length_map,show NN k=sj k by unfold NN;rw [if_neg hk]] at hinv;exact hinv))
   ·obtain ⟨rfl,n,hn,hh⟩:=h
    refine swy_ret ?_
    obtain ⟨nx,t,hp⟩:=s
    simp only at hh
    subst hh
    exact hret nx (OJ k) n hn rfl rfl
  have hwk:∀ {nx t h},Wk ⟨none,0⟩ ⟨nx,(40,.s (.l (.d (.fn 127 [] [.pd [.v (.int .i64 k)]]))))::t,h⟩ (PH k a)→aW t 40=.fn 127 [] [.d (.pd [.v (.int .i64 k)])]→Wk ⟨none,0⟩ ⟨nx,t,h⟩ (PH k a):=fun h1 h2=>(Wk.fnD (s:=⟨_,_,_⟩) 40 h2 rfl rfl).trans h1
  have hyes:∀ n,se (sj k) a=some n→cV 3 k s=(n,0):=fun n hn=>by unfold cV;rw [if_neg hk,ha,hn]
  have hno:se (sj k) a=none→cV 3 k s=if k=6 then match Lu 3 a with
   | some n=>((n,0):Int×Int)
   | none=>(0,30) else (0,30):=fun hn=>by unfold cV;rw [if_neg hk,ha,hn]
  by_cases h2:k=2
  ·by_cases h3:s=⟨#[104,115]⟩
   ·have has:a=⟨#[99,115]⟩:=by rw [← ha];unfold mc;rw [if_pos ⟨h2,h3⟩];rfl
    simp only [cC,List.map_nil,Nat.le_refl,bD,bH,aE,aP,aw,au,aH,ai,ak,an,ae,ah,aa,bw,ay,ab,ar,aj,bN,aO,aY,aI,bI,bn,Int.reduceBEq,Int.reduceBNe,List.mem_cons,List.not_mem_nil,aOp,evT,aW,putT,aG,gAt,bL,hget,bC,bm,bB,cI,az,cellsOf,LV.one,Value.oneCell',aU,bO,List.getElem?_cons_zero,List.getElem?_cons_succ,List.map_cons,Option.map_some,reduceIte,reduceCtorEq,Nat.reduceEqDiff,Nat.reduceAdd,Nat.reduceLT,decide_true,decide_false,true_and,and_true,forall_const,not_true_eq_false,not_false_eq_true,List.cons_append,List.nil_append,List.append_nil,List.take_succ_cons,List.take_zero,List.drop_succ_cons,List.drop_zero,List.length_cons,List.length_nil,List.set_cons_zero,implies_true,Bool.false_eq_true,false_implies,and_self,Bool.and_true,Bool.true_and,Bool.and_self,Nat.zero_add,ac,bx,bX,ax,LV.toD0,cz,ofD,cf,ao,bG,aQ,bV,bz,aN,be,bi,bh,br,AV.toD,SV.toD,LV.toD,aV,aR,bg,cB,AV.plain,SV.plain,LV.plain,List.all_cons,List.all_nil,Option.getD_some,PO.ret.injEq,exists_and_left,exists_const,dE,cE,eD,cN,bY,iT,eG,dF,cX,cr,bK,hk,eq_true h2,eq_true h3,N4,N2]
    refine SW.wk (nf _ (fun nx t n hn h4 h5=>?_) (fun hn=>?_)) (hwk (Wk.renL [0,16,32] (by simp) (Nat.le_refl 3) (by simp) rfl (by rw [has];rfl)) rfl)
    ·have hF:=hyes n hn
     simp only [cC,List.map_nil,Nat.le_refl,bD,bH,aE,aP,aw,au,aH,ai,ak,an,ae,ah,aa,bw,ay,ab,ar,aj,bN,aO,aY,aI,bI,bn,Int.reduceBEq,Int.reduceBNe,List.mem_cons,List.not_mem_nil,aOp,evT,aW,putT,aG,gAt,bL,hget,bC,bm,bB,cI,az,cellsOf,LV.one,Value.oneCell',aU,bO,List.getElem?_cons_zero,List.getElem?_cons_succ,List.map_cons,Option.map_some,reduceIte,reduceCtorEq,Nat.reduceEqDiff,Nat.reduceAdd,Nat.reduceLT,decide_true,decide_false,true_and,and_true,forall_const,not_true_eq_false,not_false_eq_true,List.cons_append,List.nil_append,List.append_nil,List.take_succ_cons,List.take_zero,List.drop_succ_cons,List.drop_zero,List.length_cons,List.length_nil,List.set_cons_zero,implies_true,Bool.false_eq_true,false_implies,and_self,Bool.and_true,Bool.true_and,Bool.and_self,Nat.zero_add,ac,bx,bX,ax,LV.toD0,cz,ofD,cf,ao,bG,aQ,bV,bz,aN,be,bi,bh,br,AV.toD,SV.toD,LV.toD,aV,aR,bg,cB,AV.plain,SV.plain,LV.plain,List.all_cons,List.all_nil,Option.getD_some,PO.ret.injEq,exists_and_left,exists_const,dE,cE,eD,cN,bY,iT,eG,dF,cX,cr,bK,h4,h5,CX,CS,D4,hF,lW]
    ·have hF:=hno hn
     have h6:¬k=6:=by omega
     rw [if_neg h6] at hF
     simp only [cC,List.map_nil,Nat.le_refl,bD,bH,aE,aP,aw,au,aH,ai,ak,an,ae,ah,aa,bw,ay,ab,ar,aj,bN,aO,aY,aI,bI,bn,Int.reduceBEq,Int.reduceBNe,List.mem_cons,List.not_mem_nil,aOp,evT,aW,putT,aG,gAt,bL,hget,bC,bm,bB,cI,az,cellsOf,LV.one,Value.oneCell',aU,bO,List.getElem?_cons_zero,List.getElem?_cons_succ,List.map_cons,Option.map_some,reduceIte,reduceCtorEq,Nat.reduceEqDiff,Nat.reduceAdd,Nat.reduceLT,decide_true,decide_false,true_and,and_true,forall_const,not_true_eq_false,not_false_eq_true,List.cons_append,List.nil_append,List.append_nil,List.take_succ_cons,List.take_zero,List.drop_succ_cons,List.drop_zero,List.length_cons,List.length_nil,List.set_cons_zero,implies_true,Bool.false_eq_true,false_implies,and_self,Bool.and_true,Bool.true_and,Bool.and_self,Nat.zero_add,ac,bx,bX,ax,LV.toD0,cz,ofD,cf,ao,bG,aQ,bV,bz,aN,be,bi,bh,br,AV.toD,SV.toD,LV.toD,aV,aR,bg,cB,AV.plain,SV.plain,LV.plain,List.all_cons,List.all_nil,Option.getD_some,PO.ret.injEq,exists_and_left,exists_const,dE,cE,eD,cN,bY,iT,eG,dF,cX,cr,bK,PH,OJ,PG,h6,CX,CS,D4,hF,lW]
   by_cases h4:s=⟨#[108,111]⟩
   ·have has:a=⟨#[99,99]⟩:=by rw [← ha];unfold mc;rw [if_neg (fun h=>h3 h.2),if_pos ⟨h2,h4⟩];rfl
    simp only [cC,List.map_nil,Nat.le_refl,bD,bH,aE,aP,aw,au,aH,ai,ak,an,ae,ah,aa,bw,ay,ab,ar,aj,bN,aO,aY,aI,bI,bn,Int.reduceBEq,Int.reduceBNe,List.mem_cons,List.not_mem_nil,aOp,evT,aW,putT,aG,gAt,bL,hget,bC,bm,bB,cI,az,cellsOf,LV.one,Value.oneCell',aU,bO,List.getElem?_cons_zero,List.getElem?_cons_succ,List.map_cons,Option.map_some,reduceIte,reduceCtorEq,Nat.reduceEqDiff,Nat.reduceAdd,Nat.reduceLT,decide_true,decide_false,true_and,and_true,forall_const,not_true_eq_false,not_false_eq_true,List.cons_append,List.nil_append,List.append_nil,List.take_succ_cons,List.take_zero,List.drop_succ_cons,List.drop_zero,List.length_cons,List.length_nil,List.set_cons_zero,implies_true,Bool.false_eq_true,false_implies,and_self,Bool.and_true,Bool.true_and,Bool.and_self,Nat.zero_add,ac,bx,bX,ax,LV.toD0,cz,ofD,cf,ao,bG,aQ,bV,bz,aN,be,bi,bh,br,AV.toD,SV.toD,LV.toD,aV,aR,bg,cB,AV.plain,SV.plain,LV.plain,List.all_cons,List.all_nil,Option.getD_some,PO.ret.injEq,exists_and_left,exists_const,dE,cE,eD,cN,bY,iT,eG,dF,cX,cr,bK,hk,eq_true h2,h3,eq_true h4,N4,N2]
    refine SW.wk (nf _ (fun nx t n hn h4 h5=>?_) (fun hn=>?_)) (hwk (Wk.renL [0,16,32] (by simp) (Nat.le_refl 3) (by simp) rfl (by rw [has];rfl)) rfl)
    ·have hF:=hyes n hn
     simp only [cC,List.map_nil,Nat.le_refl,bD,bH,aE,aP,aw,au,aH,ai,ak,an,ae,ah,aa,bw,ay,ab,ar,aj,bN,aO,aY,aI,bI,bn,Int.reduceBEq,Int.reduceBNe,List.mem_cons,List.not_mem_nil,aOp,evT,aW,putT,aG,gAt,bL,hget,bC,bm,bB,cI,az,cellsOf,LV.one,Value.oneCell',aU,bO,List.getElem?_cons_zero,List.getElem?_cons_succ,List.map_cons,Option.map_some,reduceIte,reduceCtorEq,Nat.reduceEqDiff,Nat.reduceAdd,Nat.reduceLT,decide_true,decide_false,true_and,and_true,forall_const,not_true_eq_false,not_false_eq_true,List.cons_append,List.nil_append,List.append_nil,List.take_succ_cons,List.take_zero,List.drop_succ_cons,List.drop_zero,List.length_cons,List.length_nil,List.set_cons_zero,implies_true,Bool.false_eq_true,false_implies,and_self,Bool.and_true,Bool.true_and,Bool.and_self,Nat.zero_add,ac,bx,bX,ax,LV.toD0,cz,ofD,cf,ao,bG,aQ,bV,bz,aN,be,bi,bh,br,AV.toD,SV.toD,LV.toD,aV,aR,bg,cB,AV.plain,SV.plain,LV.plain,List.all_cons,List.all_nil,Option.getD_some,PO.ret.injEq,exists_and_left,exists_const,dE,cE,eD,cN,bY,iT,eG,dF,cX,cr,bK,h4,h5,CX,CS,D4,hF,lW]
    ·have hF:=hno hn
     have h6:¬k=6:=by omega
     rw [if_neg h6] at hF
     simp only [cC,List.map_nil,Nat.le_refl,bD,bH,aE,aP,aw,au,aH,ai,ak,an,ae,ah,aa,bw,ay,ab,ar,aj,bN,aO,aY,aI,bI,bn,Int.reduceBEq,Int.reduceBNe,List.mem_cons,List.not_mem_nil,aOp,evT,aW,putT,aG,gAt,bL,hget,bC,bm,bB,cI,az,cellsOf,LV.one,Value.oneCell',aU,bO,List.getElem?_cons_zero,List.getElem?_cons_succ,List.map_cons,Option.map_some,reduceIte,reduceCtorEq,Nat.reduceEqDiff,Nat.reduceAdd,Nat.reduceLT,decide_true,decide_false,true_and,and_true,forall_const,not_true_eq_false,not_false_eq_true,List.cons_append,List.nil_append,List.append_nil,List.take_succ_cons,List.take_zero,List.drop_succ_cons,List.drop_zero,List.length_cons,List.length_nil,List.set_cons_zero,implies_true,Bool.false_eq_true,false_implies,and_self,Bool.and_true,Bool.true_and,Bool.and_self,Nat.zero_add,ac,bx,bX,ax,LV.toD0,cz,ofD,cf,ao,bG,aQ,bV,bz,aN,be,bi,bh,br,AV.toD,SV.toD,LV.toD,aV,aR,bg,cB,AV.plain,SV.plain,LV.plain,List.all_cons,List.all_nil,Option.getD_some,PO.ret.injEq,exists_and_left,exists_const,dE,cE,eD,cN,bY,iT,eG,dF,cX,cr,bK,PH,OJ,PG,h6,CX,CS,D4,hF,lW]
   ·have has:a=s:=by rw [← ha];unfold mc;rw [if_neg (fun h=>h3 h.2),if_neg (fun h=>h4 h.2)]
    simp only [cC,List.map_nil,Nat.le_refl,bD,bH,aE,aP,aw,au,aH,ai,ak,an,ae,ah,aa,bw,ay,ab,ar,aj,bN,aO,aY,aI,bI,bn,Int.reduceBEq,Int.reduceBNe,List.mem_cons,List.not_mem_nil,aOp,evT,aW,putT,aG,gAt,bL,hget,bC,bm,bB,cI,az,cellsOf,LV.one,Value.oneCell',aU,bO,List.getElem?_cons_zero,List.getElem?_cons_succ,List.map_cons,Option.map_some,reduceIte,reduceCtorEq,Nat.reduceEqDiff,Nat.reduceAdd,Nat.reduceLT,decide_true,decide_false,true_and,and_true,forall_const,not_true_eq_false,not_false_eq_true,List.cons_append,List.nil_append,List.append_nil,List.take_succ_cons,List.take_zero,List.drop_succ_cons,List.drop_zero,List.length_cons,List.length_nil,List.set_cons_zero,implies_true,Bool.false_eq_true,false_implies,and_self,Bool.and_true,Bool.true_and,Bool.and_self,Nat.zero_add,ac,bx,bX,ax,LV.toD0,cz,ofD,cf,ao,bG,aQ,bV,bz,aN,be,bi,bh,br,AV.toD,SV.toD,LV.toD,aV,aR,bg,cB,AV.plain,SV.plain,LV.plain,List.all_cons,List.all_nil,Option.getD_some,PO.ret.injEq,exists_and_left,exists_const,dE,cE,eD,cN,bY,iT,eG,dF,cX,cr,bK,hk,eq_true h2,h3,h4,N4,N2]
    refine SW.wk (nf _ (fun nx t n hn h4 h5=>?_) (fun hn=>?_)) (hwk (Wk.renL [0,16,32] (by simp) (Nat.le_refl 3) (by simp) rfl (by rw [has];rfl)) rfl)
    ·have hF:=hyes n hn
     simp only [cC,List.map_nil,Nat.le_refl,bD,bH,aE,aP,aw,au,aH,ai,ak,an,ae,ah,aa,bw,ay,ab,ar,aj,bN,aO,aY,aI,bI,bn,Int.reduceBEq,Int.reduceBNe,List.mem_cons,List.not_mem_nil,aOp,evT,aW,putT,aG,gAt,bL,hget,bC,bm,bB,cI,az,cellsOf,LV.one,Value.oneCell',aU,bO,List.getElem?_cons_zero,List.getElem?_cons_succ,List.map_cons,Option.map_some,reduceIte,reduceCtorEq,Nat.reduceEqDiff,Nat.reduceAdd,Nat.reduceLT,decide_true,decide_false,true_and,and_true,forall_const,not_true_eq_false,not_false_eq_true,List.cons_append,List.nil_append,List.append_nil,List.take_succ_cons,List.take_zero,List.drop_succ_cons,List.drop_zero,List.length_cons,List.length_nil,List.set_cons_zero,implies_true,Bool.false_eq_true,false_implies,and_self,Bool.and_true,Bool.true_and,Bool.and_self,Nat.zero_add,ac,bx,bX,ax,LV.toD0,cz,ofD,cf,ao,bG,aQ,bV,bz,aN,be,bi,bh,br,AV.toD,SV.toD,LV.toD,aV,aR,bg,cB,AV.plain,SV.plain,LV.plain,List.all_cons,List.all_nil,Option.getD_some,PO.ret.injEq,exists_and_left,exists_const,dE,cE,eD,cN,bY,iT,eG,dF,cX,cr,bK,h4,h5,CX,CS,D4,hF,lW]
    ·have hF:=hno hn
     have h6:¬k=6:=by omega
     rw [if_neg h6] at hF
     simp only [cC,List.map_nil,Nat.le_refl,bD,bH,aE,aP,aw,au,aH,ai,ak,an,ae,ah,aa,bw,ay,ab,ar,aj,bN,aO,aY,aI,bI,bn,Int.reduceBEq,Int.reduceBNe,List.mem_cons,List.not_mem_nil,aOp,evT,aW,putT,aG,gAt,bL,hget,bC,bm,bB,cI,az,cellsOf,LV.one,Value.oneCell',aU,bO,List.getElem?_cons_zero,List.getElem?_cons_succ,List.map_cons,Option.map_some,reduceIte,reduceCtorEq,Nat.reduceEqDiff,Nat.reduceAdd,Nat.reduceLT,decide_true,decide_false,true_and,and_true,forall_const,not_true_eq_false,not_false_eq_true,List.cons_append,List.nil_append,List.append_nil,List.take_succ_cons,List.take_zero,List.drop_succ_cons,List.drop_zero,List.length_cons,List.length_nil,List.set_cons_zero,implies_true,Bool.false_eq_true,false_implies,and_self,Bool.and_true,Bool.true_and,Bool.and_self,Nat.zero_add,ac,bx,bX,ax,LV.toD0,cz,ofD,cf,ao,bG,aQ,bV,bz,aN,be,bi,bh,br,AV.toD,SV.toD,LV.toD,aV,aR,bg,cB,AV.plain,SV.plain,LV.plain,List.all_cons,List.all_nil,Option.getD_some,PO.ret.injEq,exists_and_left,exists_const,dE,cE,eD,cN,bY,iT,eG,dF,cX,cr,bK,PH,OJ,PG,h6,CX,CS,D4,hF,lW]
  ·have has:a=s:=by rw [← ha];unfold mc;rw [if_neg (fun h=>h2 h.1),if_neg (fun h=>h2 h.1)]
   simp only [cC,List.map_nil,Nat.le_refl,bD,bH,aE,aP,aw,au,aH,ai,ak,an,ae,ah,aa,bw,ay,ab,ar,aj,bN,aO,aY,aI,bI,bn,Int.reduceBEq,Int.reduceBNe,List.mem_cons,List.not_mem_nil,aOp,evT,aW,putT,aG,gAt,bL,hget,bC,bm,bB,cI,az,cellsOf,LV.one,Value.oneCell',aU,bO,List.getElem?_cons_zero,List.getElem?_cons_succ,List.map_cons,Option.map_some,reduceIte,reduceCtorEq,Nat.reduceEqDiff,Nat.reduceAdd,Nat.reduceLT,decide_true,decide_false,true_and,and_true,forall_const,not_true_eq_false,not_false_eq_true,List.cons_append,List.nil_append,List.append_nil,List.take_succ_cons,List.take_zero,List.drop_succ_cons,List.drop_zero,List.length_cons,List.length_nil,List.set_cons_zero,implies_true,Bool.false_eq_true,false_implies,and_self,Bool.and_true,Bool.true_and,Bool.and_self,Nat.zero_add,ac,bx,bX,ax,LV.toD0,cz,ofD,cf,ao,bG,aQ,bV,bz,aN,be,bi,bh,br,AV.toD,SV.toD,LV.toD,aV,aR,bg,cB,AV.plain,SV.plain,LV.plain,List.all_cons,List.all_nil,Option.getD_some,PO.ret.injEq,exists_and_left,exists_const,dE,cE,eD,cN,bY,iT,eG,dF,cX,cr,bK,hk,h2,N4,N2]
   refine SW.wk (nf _ (fun nx t n hn h4 h5=>?_) (fun hn=>?_)) (hwk (Wk.renL [0,16,32] (by simp) (Nat.le_refl 3) (by simp) rfl (by rw [has];rfl)) rfl)
   ·have hF:=hyes n hn
    simp only [cC,List.map_nil,Nat.le_refl,bD,bH,aE,aP,aw,au,aH,ai,ak,an,ae,ah,aa,bw,ay,ab,ar,aj,bN,aO,aY,aI,bI,bn,Int.reduceBEq,Int.reduceBNe,List.mem_cons,List.not_mem_nil,aOp,evT,aW,putT,aG,gAt,bL,hget,bC,bm,bB,cI,az,cellsOf,LV.one,Value.oneCell',aU,bO,List.getElem?_cons_zero,List.getElem?_cons_succ,List.map_cons,Option.map_some,reduceIte,reduceCtorEq,Nat.reduceEqDiff,Nat.reduceAdd,Nat.reduceLT,decide_true,decide_false,true_and,and_true,forall_const,not_true_eq_false,not_false_eq_true,List.cons_append,List.nil_append,List.append_nil,List.take_succ_cons,List.take_zero,List.drop_succ_cons,List.drop_zero,List.length_cons,List.length_nil,List.set_cons_zero,implies_true,Bool.false_eq_true,false_implies,and_self,Bool.and_true,Bool.true_and,Bool.and_self,Nat.zero_add,ac,bx,bX,ax,LV.toD0,cz,ofD,cf,ao,bG,aQ,bV,bz,aN,be,bi,bh,br,AV.toD,SV.toD,LV.toD,aV,aR,bg,cB,AV.plain,SV.plain,LV.plain,List.all_cons,List.all_nil,Option.getD_some,PO.ret.injEq,exists_and_left,exists_const,dE,cE,eD,cN,bY,iT,eG,dF,cX,cr,bK,h4,h5,CX,CS,D4,hF,lW]
   ·have hF:=hno hn
    by_cases h6:k=6
    ·rw [if_pos h6] at hF
     rcases hsys:Lu 3 a with _ | n
     ·rw [hsys] at hF
      simp only [cC,List.map_nil,Nat.le_refl,bD,bH,aE,aP,aw,au,aH,ai,ak,an,ae,ah,aa,bw,ay,ab,ar,aj,bN,aO,aY,aI,bI,bn,Int.reduceBEq,Int.reduceBNe,List.mem_cons,List.not_mem_nil,aOp,evT,aW,putT,aG,gAt,bL,hget,bC,bm,bB,cI,az,cellsOf,LV.one,Value.oneCell',aU,bO,List.getElem?_cons_zero,List.getElem?_cons_succ,List.map_cons,Option.map_some,reduceIte,reduceCtorEq,Nat.reduceEqDiff,Nat.reduceAdd,Nat.reduceLT,decide_true,decide_false,true_and,and_true,forall_const,not_true_eq_false,not_false_eq_true,List.cons_append,List.nil_append,List.append_nil,List.take_succ_cons,List.take_zero,List.drop_succ_cons,List.drop_zero,List.length_cons,List.length_nil,List.set_cons_zero,implies_true,Bool.false_eq_true,false_implies,and_self,Bool.and_true,Bool.true_and,Bool.and_self,Nat.zero_add,ac,bx,bX,ax,LV.toD0,cz,ofD,cf,ao,bG,aQ,bV,bz,aN,be,bi,bh,br,AV.toD,SV.toD,LV.toD,aV,aR,bg,cB,AV.plain,SV.plain,LV.plain,List.all_cons,List.all_nil,Option.getD_some,PO.ret.injEq,exists_and_left,exists_const,dE,cE,eD,cN,bY,iT,eG,dF,cX,cr,bK,PH,OJ,PG,eq_true h6,CX,CS,D4,Wn,Wh,haz,hsys,iX,hF,lW]
     ·rw [hsys] at hF
      simp only [cC,List.map_nil,Nat.le_refl,bD,bH,aE,aP,aw,au,aH,ai,ak,an,ae,ah,aa,bw,ay,ab,ar,aj,bN,aO,aY,aI,bI,bn,Int.reduceBEq,Int.reduceBNe,List.mem_cons,List.not_mem_nil,aOp,evT,aW,putT,aG,gAt,bL,hget,bC,bm,bB,cI,az,cellsOf,LV.one,Value.oneCell',aU,bO,List.getElem?_cons_zero,List.getElem?_cons_succ,List.map_cons,Option.map_some,reduceIte,reduceCtorEq,Nat.reduceEqDiff,Nat.reduceAdd,Nat.reduceLT,decide_true,decide_false,true_and,and_true,forall_const,not_true_eq_false,not_false_eq_true,List.cons_append,List.nil_append,List.append_nil,List.take_succ_cons,List.take_zero,List.drop_succ_cons,List.drop_zero,List.length_cons,List.length_nil,List.set_cons_zero,implies_true,Bool.false_eq_true,false_implies,and_self,Bool.and_true,Bool.true_and,Bool.and_self,Nat.zero_add,ac,bx,bX,ax,LV.toD0,cz,ofD,cf,ao,bG,aQ,bV,bz,aN,be,bi,bh,br,AV.toD,SV.toD,LV.toD,aV,aR,bg,cB,AV.plain,SV.plain,LV.plain,List.all_cons,List.all_nil,Option.getD_some,PO.ret.injEq,exists_and_left,exists_const,dE,cE,eD,cN,bY,iT,eG,dF,cX,cr,bK,PH,OJ,PG,eq_true h6,CX,CS,D4,Wn,Wh,haz,hsys,iX,hF,lW]
    ·rw [if_neg h6] at hF
     simp only [cC,List.map_nil,Nat.le_refl,bD,bH,aE,aP,aw,au,aH,ai,ak,an,ae,ah,aa,bw,ay,ab,ar,aj,bN,aO,aY,aI,bI,bn,Int.reduceBEq,Int.reduceBNe,List.mem_cons,List.not_mem_nil,aOp,evT,aW,putT,aG,gAt,bL,hget,bC,bm,bB,cI,az,cellsOf,LV.one,Value.oneCell',aU,bO,List.getElem?_cons_zero,List.getElem?_cons_succ,List.map_cons,Option.map_some,reduceIte,reduceCtorEq,Nat.reduceEqDiff,Nat.reduceAdd,Nat.reduceLT,decide_true,decide_false,true_and,and_true,forall_const,not_true_eq_false,not_false_eq_true,List.cons_append,List.nil_append,List.append_nil,List.take_succ_cons,List.take_zero,List.drop_succ_cons,List.drop_zero,List.length_cons,List.length_nil,List.set_cons_zero,implies_true,Bool.false_eq_true,false_implies,and_self,Bool.and_true,Bool.true_and,Bool.and_self,Nat.zero_add,ac,bx,bX,ax,LV.toD0,cz,ofD,cf,ao,bG,aQ,bV,bz,aN,be,bi,bh,br,AV.toD,SV.toD,LV.toD,aV,aR,bg,cB,AV.plain,SV.plain,LV.plain,List.all_cons,List.all_nil,Option.getD_some,PO.ret.injEq,exists_and_left,exists_const,dE,cE,eD,cN,bY,iT,eG,dF,cX,cr,bK,PH,OJ,PG,h6,CX,CS,D4,hF,lW]
def KS:cK Tryz.prog 31 :=
 mk2 _ _ _ Tryz.func31 rfl (fun _ _=>by go_simp) (aR .i64) (bg) ((fun _ s=>s.size≤1099511627776)) ((fun k s=>.ret (lW (cV 3 k s)))) (by rw [Tryz.ntmps31];decide) (fun k s hs=>XY k s hs)
theorem J2 {id:Nat} {h:aF} {args:List AV}:(KS).run id h args=be (bE (aR .i64) (bg) ((fun _ s=>s.size≤1099511627776))) (fun x=>((fun k s=>.ret (lW (cV 3 k s)))) x.1 x.2) h args:=rfl
theorem JN {id:Nat} {h:aF} {args:List AV}:(KS).pan id h args=bi (bE (aR .i64) (bg) ((fun _ s=>s.size≤1099511627776))) (fun x=>((fun k s=>.ret (lW (cV 3 k s)))) x.1 x.2) h args:=rfl
def NB (lim:Nat) (s:ByteArray):Nat→Bool
 | 0=>false
 | n+1=>NB lim s n||decide ((cV lim (n+1:Nat) s).2=0)
def mB (lim:Nat) (s:ByteArray):Bool:=NB lim s 8
theorem QB {lim:Nat} {s:ByteArray} {i:Nat} (h:(cV lim (i+1:Nat) s).2=0):∀ {j},i<j→NB lim s j=true:=by
 intro j hj
 induction j with
 | zero=>omega
 | succ j ih =>
  rw [NB]
  by_cases e:i=j
  ·subst e;rw [decide_eq_true h,Bool.or_true]
  ·rw [ih (by omega)];rfl
theorem word_sw (s:ByteArray) (hs:s.size≤1099511627776):SW Tryz.prog ⟨none,0⟩ Tryz.f34.ntmps (Tryz.f34.body.getD .skip) ⟨0,aN 0 [bg.enc s],[]⟩ (fa Tryz.prog Tryz.f34.results.toList (.ret (bv (mB 3 s)))):=by
 refine aC (ctx:=[⟨_,KS⟩]) 4000 ?_
 rw [Tryz.ntmps34,Tryz.results34]
 simp only [Tryz.f34,Option.getD_some,aN]
 simp only [List.map_nil,bD,bH,Int.cast_ofNat_Int,aE,aP,aw,au,ai,ak,an,ae,ah,aa,aB,aA,ap,ay,aK,aJ,ab,ar,aj,aO,bA,ag,aq,aD,aOp,evT,aW,putT,aG,bC,az,bO,List.getElem?_cons_zero,List.getElem?_cons_succ,List.map_cons,reduceIte,reduceCtorEq,Nat.reduceEqDiff,Nat.reduceAdd,Nat.reduceLT,decide_true,decide_false,true_and,forall_const,not_true_eq_false,not_false_eq_true,List.nil_append,List.append_nil,List.length_nil,implies_true,false_implies,and_self,Bool.true_and,Bool.and_self,Nat.zero_add,ac,bx,bX,ax,ofD,ao,bG,aQ,bz,aN,be,bi,bh,br,AV.toD,SV.toD,LV.toD,bE,aR,bg,AV.plain,SV.plain,LV.plain,List.all_cons,List.all_nil,Option.getD_some,PO.ret.injEq]
 refine fj (ι:=Nat) (fun i=>i≤8∧NB 3 s i=false) (fun i=>⟨0,[(0,sv s),(3,iv ((i:Int)+1))],[]⟩) (fun i=>8-i) 0 ⟨by omega,rfl⟩ (Wk.renL [] (by simp) (by simp) (by simp) rfl rfl) ?_
 rintro i ⟨hi,hn⟩
 refine aC (ctx:=[⟨_,KS⟩]) 4000 ?_
 by_cases hlt:i<8
 ·have hltI:(i:Int)+1≤8:=by omega
  have ei:IntKind.i64.wrap ((i:Int)+1+1)=((i+1:Nat):Int)+1:=by rw [IntKind.wrap_i64];omega
  have ec:((i+1:Nat):Int)=(i:Int)+1:=by omega
  by_cases he:(cV 3 ((i:Int)+1) s).2=0
  ·have hw:mB 3 s=true:=QB (i:=i) (by rw [ec];exact he) hlt
   simp only [List.map_nil,bD,bH,Int.cast_ofNat_Int,aE,aP,aw,au,ai,ak,an,ae,ah,aa,aB,aA,ap,ay,aK,aJ,ab,ar,aj,aO,bA,ag,aq,aD,aOp,evT,aW,putT,aG,bC,az,bO,List.getElem?_cons_zero,List.getElem?_cons_succ,List.map_cons,reduceIte,reduceCtorEq,Nat.reduceEqDiff,Nat.reduceAdd,Nat.reduceLT,decide_true,decide_false,true_and,forall_const,not_true_eq_false,not_false_eq_true,List.nil_append,List.append_nil,List.length_nil,implies_true,false_implies,and_self,Bool.true_and,Bool.and_self,Nat.zero_add,ac,bx,bX,ax,ofD,ao,bG,aQ,bz,aN,be,bi,bh,br,AV.toD,SV.toD,LV.toD,bE,aR,bg,AV.plain,SV.plain,LV.plain,List.all_cons,List.all_nil,Option.getD_some,PO.ret.injEq,hltI,J2,JN,hs,lW,eq_true he,hw]
  ·simp only [List.map_nil,bD,bH,Int.cast_ofNat_Int,aE,aP,aw,au,ai,ak,an,ae,ah,aa,aB,aA,ap,ay,aK,aJ,ab,ar,aj,aO,bA,ag,aq,aD,aOp,evT,aW,putT,aG,bC,az,bO,List.getElem?_cons_zero,List.getElem?_cons_succ,List.map_cons,reduceIte,reduceCtorEq,Nat.reduceEqDiff,Nat.reduceAdd,Nat.reduceLT,decide_true,decide_false,true_and,forall_const,not_true_eq_false,not_false_eq_true,List.nil_append,List.append_nil,List.length_nil,implies_true,false_implies,and_self,Bool.true_and,Bool.and_self,Nat.zero_add,ac,bx,bX,ax,ofD,ao,bG,aQ,bz,aN,be,bi,bh,br,AV.toD,SV.toD,LV.toD,bE,aR,bg,AV.plain,SV.plain,LV.plain,List.all_cons,List.all_nil,Option.getD_some,PO.ret.injEq,hltI,J2,JN,hs,lW,he,ei]
   exact ⟨i+1,⟨by omega,by rw [NB,hn,ec];simp [he]⟩,by omega,Wk.renL [] (by simp) (by simp) (by simp) rfl rfl⟩
 ·obtain rfl:i=8:=by omega
  simp only [List.map_nil,bD,bH,Int.cast_ofNat_Int,aE,aP,aw,au,ai,ak,an,ae,ah,aa,aB,aA,ap,ay,aK,aJ,ab,ar,aj,aO,bA,ag,aq,aD,aOp,evT,aW,putT,aG,bC,az,bO,List.getElem?_cons_zero,List.getElem?_cons_succ,List.map_cons,reduceIte,reduceCtorEq,Nat.reduceEqDiff,Nat.reduceAdd,Nat.reduceLT,decide_true,decide_false,true_and,forall_const,not_true_eq_false,not_false_eq_true,List.nil_append,List.append_nil,List.length_nil,implies_true,false_implies,and_self,Bool.true_and,Bool.and_self,Nat.zero_add,ac,bx,bX,ax,ofD,ao,bG,aQ,bz,aN,be,bi,bh,br,AV.toD,SV.toD,LV.toD,bE,aR,bg,AV.plain,SV.plain,LV.plain,List.all_cons,List.all_nil,Option.getD_some,PO.ret.injEq,show mB 3 s=false from hn,show ¬((8:Int)+1≤8) by omega]
def YH:cK Tryz.prog 34 :=
 mk1 _ _ _ Tryz.func34 rfl (fun _ _=>by go_simp) (bg) ((fun s=>s.size≤1099511627776)) ((fun s=>.ret (bv (mB 3 s)))) (by rw [Tryz.ntmps34];decide) (fun s hs=>word_sw s hs)
theorem S3 {id:Nat} {h:aF} {args:List AV}:(YH).run id h args=be (aV (bg) ((fun s=>s.size≤1099511627776))) ((fun s=>.ret (bv (mB 3 s)))) h args:=rfl
theorem Sk {id:Nat} {h:aF} {args:List AV}:(YH).pan id h args=bi (aV (bg) ((fun s=>s.size≤1099511627776))) ((fun s=>.ret (bv (mB 3 s)))) h args:=rfl
end Go.Proofs.YthcoegkfpinlfaaGreatDoor
