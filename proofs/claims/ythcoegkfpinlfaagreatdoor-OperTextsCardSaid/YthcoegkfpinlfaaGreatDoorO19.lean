import Derived.Test.YthcoegkfpinlfaaGreatDoorO13
import Derived.Test.YthcoegkfpinlfaaGreatDoorO18
set_option linter.unusedVariables false
set_option linter.unusedSimpArgs false
set_option maxRecDepth 100000
set_option maxHeartbeats 8000000
namespace Go.Proofs.YthcoegkfpinlfaaGreatDoor
open Go.RowKit
abbrev O4 (l:List ByteArray):AV:=.s (.l (.d (.sd 1 (l.map iQ.enc))))
def Np:cK Tryz.prog 148 :=
 mk4 _ _ _ Tryz.func148 rfl (fun _ _=>by go_simp) (bg) (bg) (aR .i64) (aR .i64) ((fun s p a n=>p.size=1∧s.size≤1099511627776∧a=0∧n = -1)) ((fun s p _ _=>.ret (O4 (dj s p)))) (by rw [Tryz.ntmps148];decide) (fun s p a n h=>by
 obtain ⟨h1,h2,rfl,rfl⟩:=h
 exact Sq s p h1 h2)
theorem QM {id:Nat} {h:aF} {args:List AV}:(Np).run id h args=be (ta (bg) (bg) (aR .i64) (aR .i64) ((fun s p a n=>p.size=1∧s.size≤1099511627776∧a=0∧n = -1))) (fun x=>((fun s p _ _=>.ret (O4 (dj s p)))) x.1 x.2.1 x.2.2.1 x.2.2.2) h args:=rfl
theorem Ry {id:Nat} {h:aF} {args:List AV}:(Np).pan id h args=bi (ta (bg) (bg) (aR .i64) (aR .i64) ((fun s p a n=>p.size=1∧s.size≤1099511627776∧a=0∧n = -1))) (fun x=>((fun s p _ _=>.ret (O4 (dj s p)))) x.1 x.2.1 x.2.2.1 x.2.2.2) h args:=rfl
def Uo:cK Tryz.prog 128 :=
 mk2 _ _ _ Tryz.func128 rfl (fun _ _=>by go_simp) (bg) (bg) ((fun s p=>p.size=1∧s.size≤1099511627776)) ((fun s p=>.ret (O4 (dj s p)))) (by rw [Tryz.ntmps128];decide) (fun s p h=>by
 refine aC (ctx:=[⟨_,Np⟩]) 4000 ?_
 rw [Tryz.ntmps128,Tryz.results128]
 simp only [Tryz.f128,Option.getD_some,aN]
 simp only [List.map_nil,bD,bH,aw,au,ak,an,aa,ab,aOp,evT,aW,putT,aG,bO,List.map_cons,reduceIte,reduceCtorEq,Nat.reduceEqDiff,Nat.reduceAdd,Nat.reduceLT,decide_true,true_and,List.nil_append,List.append_nil,Bool.false_eq_true,and_self,Bool.true_and,Bool.and_self,Nat.zero_add,ac,bx,bX,ax,ofD,ao,bG,aQ,bz,aN,be,bi,bh,br,AV.toD,SV.toD,LV.toD,ta,aR,bg,iQ,AV.plain,SV.plain,LV.plain,PO.ret.injEq,QM,Ry,h.1,h.2]
 rfl)
theorem Qe {id:Nat} {h:aF} {args:List AV}:(Uo).run id h args=be (bE (bg) (bg) ((fun s p=>p.size=1∧s.size≤1099511627776))) (fun x=>((fun s p=>.ret (O4 (dj s p)))) x.1 x.2) h args:=rfl
theorem Qk {id:Nat} {h:aF} {args:List AV}:(Uo).pan id h args=bi (bE (bg) (bg) ((fun s p=>p.size=1∧s.size≤1099511627776))) (fun x=>((fun s p=>.ret (O4 (dj s p)))) x.1 x.2) h args:=rfl
theorem or_i64 (i:Nat) (x y:Int) (h0:0≤x) (h1:x<4611686018427387904) (y0:0≤y) (y1:y<2 ^ i) (y2:y<4611686018427387904):bits .or .i64 (x*2 ^ i) y=x*2 ^ i+y∨4611686018427387904≤x*2 ^ i:=by
 by_cases hx:x*2 ^ i<4611686018427387904
 ·refine .inl (bits_join .i64 62 (by decide) (fun n h0 h1=>by rw [IntKind.wrap_i64];omega) i (x*2 ^ i) y ?_ (Int.mul_emod_left x (2 ^ i)) hx y0 y1 y2)
  exact Int.mul_nonneg h0 (Int.le_of_lt (Int.pow_pos (by decide)))
 ·exact .inr (by omega)
def iX:Option Int→AV
 | some n=>.tup [.l (.v (.int .i64 n)),.l (.v (.bool true))]
 | none=>.tup [.l (.v (.int .i64 0)),.l (.v (.bool false))]
def Jk:Blk:=⟨true,145,5,[[.v (.string ⟨#[115]⟩),.v (.string ⟨#[]⟩),.v (.string ⟨#[99]⟩),.v (.string ⟨#[99]⟩),.v (.string ⟨#[]⟩)]]⟩
def I8:Blk:=⟨true,146,5,[[.v (.int .i64 3),.v (.int .i64 7),.v (.int .i64 15),.v (.int .i64 15),.v (.int .i64 7)]]⟩
def Jd:Blk:=⟨true,146,5,[[.v (.int .i64 1),.v (.int .i64 3),.v (.int .i64 4),.v (.int .i64 4),.v (.int .i64 3)]]⟩
theorem XO (s:ByteArray) (hs:s.size≤1099511627776):SW Tryz.prog ⟨none,0⟩ Tryz.f71.ntmps (Tryz.f71.body.getD .skip) ⟨0,aN 0 [bg.enc s],[]⟩ (fa Tryz.prog Tryz.f71.results.toList (.ret (iX (Lu 3 s)))):=by
 refine aC (ctx:=[⟨_,Uo⟩,⟨_,Zg⟩,⟨_,YY⟩]) 4000 ?_
 rw [Tryz.ntmps71,Tryz.results71]
 simp only [Tryz.f71,Option.getD_some,aN]
 have hu:us.size=1:=rfl
 obtain ⟨l,hl⟩:∃ l,dj s ⟨#[95]⟩=l:=⟨_,rfl⟩
 have hF:Lu 3 s=if l.length=5 then Cr 3 l 5 else none:=by unfold Lu;rw [show dj s us=l from hl]
 by_cases h5:l.length=5
 ·have h5I:(l.length:Int)=5:=by omega
  rw [if_pos h5] at hF
  simp only [List.map_nil,Nat.le_refl,Int.le_refl,List.length_map,bD,bH,Int.cast_ofNat_Int,aE,aP,aw,au,aH,ai,ak,an,ae,ah,aa,aB,aA,ap,ay,aK,aJ,ab,ar,aj,aY,aI,bt,bA,Int.reduceBEq,Int.reduceBNe,Int.reduceLT,Int.reduceLE,Int.reduceToNat,List.mem_cons,List.not_mem_nil,ag,aq,aD,aOp,evT,aW,putT,aG,gAt,bL,hget,bC,aUn,bm,bB,cI,aX,bJ,ct,az,cellsOf,LV.one,Value.oneCell',bZ,aU,bQ,bO,List.getElem?_cons_zero,List.getElem?_cons_succ,List.map_cons,Option.map_some,Option.isSome_some,List.getElem?_map,reduceIte,reduceCtorEq,Nat.reduceEqDiff,Nat.reduceAdd,Nat.reduceLT,Nat.reduceLeDiff,Nat.reduceMul,Nat.reduceSub,decide_true,decide_false,true_and,forall_const,not_false_eq_true,Bool.not_true,Bool.not_false,List.cons_append,List.nil_append,List.append_nil,List.take_succ_cons,List.take_zero,List.drop_succ_cons,List.drop_zero,List.length_cons,List.length_nil,List.set_cons_zero,implies_true,Bool.false_eq_true,false_implies,and_self,Bool.true_and,Bool.and_self,Nat.zero_add,Nat.add_zero,ac,bx,bX,ax,ofD,ao,bG,aQ,bV,bz,aN,be,bi,bh,br,AV.toD,SV.toD,LV.toD,bE,aR,bg,iQ,AV.plain,SV.plain,LV.plain,List.all_cons,List.all_nil,Option.getD_some,iW,dX,cN,bY,dD,dM,cU,dv,dK,dq,dJ,cT,dm,dL,du,Qe,Qk,show (⟨#[95]⟩:ByteArray).size=1 from rfl,hs,hl,h5,h5I]
  refine fj (ι:=Nat×Int) (fun x=>x.1≤5∧Cr 3 l x.1=some x.2) (fun x=>⟨3,[(5,pv 0 0 0),(6,pv 1 0 0),(7,pv 2 0 0),(8,iv x.2),(23,O4 l),(24,iv 5),(25,iv x.1)],[(0,some Jk),(1,some I8),(2,some Jd)]⟩) (fun x=>5-x.1) (0,0) ⟨by simp,rfl⟩ ?_ ?_
  ·exact Wk.renL [144,192,240] (by simp) (by simp) (by simp) rfl rfl
  ·rintro ⟨i,n⟩ ⟨hi,hn⟩
   simp only at hi hn
   refine aC (ctx:=[⟨_,Zg⟩,⟨_,YY⟩]) 4000 ?_
   have hnb:=OE hi hn
   by_cases hlt:i<5
   ·obtain ⟨w,hw⟩:∃ w,l[i]? = some w:=⟨_,List.getElem?_eq_getElem (by omega)⟩
    have hfail:dl 3 i n w=none→Lu 3 s=none:=fun h=>by
     rw [hF]
     refine PP (i:=i+1) ?_ hlt
     rw [Cr,hn,hw]
     exact h
    have hok:∀ m,dl 3 i n w=some m→Cr 3 l (i+1)=some m:=fun m h=>by
     rw [Cr,hn,hw]
     exact h
    have hcase:i=0∨i=1∨i=2∨i=3∨i=4:=by omega
    rcases hcase with rfl | rfl | rfl | rfl | rfl
    ·rcases hc:uP w ⟨#[115]⟩ with ⟨r,_ | _⟩
     ·have hn0:=hfail (by unfold dl;rw [if_neg];intro h;rw [show dT.getD 0 emp=⟨#[115]⟩ from rfl,hc] at h;exact absurd h.1 (by simp))
      rcases hd:dg 3 r 3 with ⟨d,b⟩
      simp only [List.map_nil,Nat.le_refl,Int.le_refl,List.length_map,bD,bH,Int.cast_ofNat_Int,aE,aP,aw,au,aH,ai,ak,an,ae,ah,aa,aB,aA,ap,ay,aK,aJ,ab,ar,aj,aY,aI,bt,bA,Int.reduceBEq,Int.reduceBNe,Int.reduceLT,Int.reduceLE,Int.reduceToNat,List.mem_cons,List.not_mem_nil,ag,aq,aD,aOp,evT,aW,putT,aG,gAt,bL,hget,bC,aUn,bm,bB,cI,aX,bJ,ct,az,cellsOf,LV.one,Value.oneCell',bZ,aU,bQ,bO,List.getElem?_cons_zero,List.getElem?_cons_succ,List.map_cons,Option.map_some,Option.isSome_some,List.getElem?_map,reduceIte,reduceCtorEq,Nat.reduceEqDiff,Nat.reduceAdd,Nat.reduceLT,Nat.reduceLeDiff,Nat.reduceMul,Nat.reduceSub,decide_true,decide_false,true_and,forall_const,not_false_eq_true,Bool.not_true,Bool.not_false,List.cons_append,List.nil_append,List.append_nil,List.take_succ_cons,List.take_zero,List.drop_succ_cons,List.drop_zero,List.length_cons,List.length_nil,List.set_cons_zero,implies_true,Bool.false_eq_true,false_implies,and_self,Bool.true_and,Bool.and_self,Nat.zero_add,Nat.add_zero,ac,bx,bX,ax,ofD,ao,bG,aQ,bV,bz,aN,be,bi,bh,br,AV.toD,SV.toD,LV.toD,bE,aR,bg,iQ,AV.plain,SV.plain,LV.plain,List.all_cons,List.all_nil,Option.getD_some,iW,dX,cN,bY,dD,dM,cU,dv,dK,dq,dJ,cT,dm,dL,du,eN,eJ,eP,eO,su,eZ,hw,Jk,I8,Jd,hc,hd,hn0,iX]
     ·rcases hd:dg 3 r 3 with ⟨d,_ | _⟩
      ·have hn0:=hfail (by unfold dl;rw [if_neg];intro h;rw [show dT.getD 0 emp=⟨#[115]⟩ from rfl,hc,show i4.getD 0 0=3 from rfl,hd] at h;exact absurd h.2.1 (by simp))
       simp only [List.map_nil,Nat.le_refl,Int.le_refl,List.length_map,bD,bH,Int.cast_ofNat_Int,aE,aP,aw,au,aH,ai,ak,an,ae,ah,aa,aB,aA,ap,ay,aK,aJ,ab,ar,aj,aY,aI,bt,bA,Int.reduceBEq,Int.reduceBNe,Int.reduceLT,Int.reduceLE,Int.reduceToNat,List.mem_cons,List.not_mem_nil,ag,aq,aD,aOp,evT,aW,putT,aG,gAt,bL,hget,bC,aUn,bm,bB,cI,aX,bJ,ct,az,cellsOf,LV.one,Value.oneCell',bZ,aU,bQ,bO,List.getElem?_cons_zero,List.getElem?_cons_succ,List.map_cons,Option.map_some,Option.isSome_some,List.getElem?_map,reduceIte,reduceCtorEq,Nat.reduceEqDiff,Nat.reduceAdd,Nat.reduceLT,Nat.reduceLeDiff,Nat.reduceMul,Nat.reduceSub,decide_true,decide_false,true_and,forall_const,not_false_eq_true,Bool.not_true,Bool.not_false,List.cons_append,List.nil_append,List.append_nil,List.take_succ_cons,List.take_zero,List.drop_succ_cons,List.drop_zero,List.length_cons,List.length_nil,List.set_cons_zero,implies_true,Bool.false_eq_true,false_implies,and_self,Bool.true_and,Bool.and_self,Nat.zero_add,Nat.add_zero,ac,bx,bX,ax,ofD,ao,bG,aQ,bV,bz,aN,be,bi,bh,br,AV.toD,SV.toD,LV.toD,bE,aR,bg,iQ,AV.plain,SV.plain,LV.plain,List.all_cons,List.all_nil,Option.getD_some,iW,dX,cN,bY,dD,dM,cU,dv,dK,dq,dJ,cT,dm,dL,du,eN,eJ,eP,eO,su,eZ,hw,Jk,I8,Jd,hc,hd,hn0,iX]
      ·have hdr:=dW (lim:=3) (s:=r) (most:=3) (by rw [hd])
       rw [hd] at hdr
       simp only at hdr
       have ew:IntKind.i64.wrap (d-2)=d-2:=by rw [IntKind.wrap_i64];omega
       by_cases hv:0≤d-2
       ·have hs1:=hok (n*2 ^ 1+(d-2)) (by unfold dl;rw [show dT.getD 0 emp=⟨#[115]⟩ from rfl,hc,show i4.getD 0 0=3 from rfl,hd,if_pos ⟨rfl,rfl,hv⟩];rfl)
        have hv':¬d-2<0:=by omega
        have eb:IntKind.i64.wrap (n*2 ^ min 1 IntKind.i64.bits)=n*2 ^ 1:=by
         rw [show min 1 IntKind.i64.bits=1 from rfl,IntKind.wrap_i64]
         simp at hnb ⊢
         omega
        have eo:bits .or .i64 (n*2 ^ 1) (d-2)=n*2 ^ 1+(d-2):=by
         simp at hnb
         rcases or_i64 1 n (d-2) hnb.1 (by omega) hv (by simp;omega) (by omega) with h | h
         ·exact h
         ·simp at h;omega
        simp only [List.map_nil,Nat.le_refl,Int.le_refl,List.length_map,bD,bH,Int.cast_ofNat_Int,aE,aP,aw,au,aH,ai,ak,an,ae,ah,aa,aB,aA,ap,ay,aK,aJ,ab,ar,aj,aY,aI,bt,bA,Int.reduceBEq,Int.reduceBNe,Int.reduceLT,Int.reduceLE,Int.reduceToNat,List.mem_cons,List.not_mem_nil,ag,aq,aD,aOp,evT,aW,putT,aG,gAt,bL,hget,bC,aUn,bm,bB,cI,aX,bJ,ct,az,cellsOf,LV.one,Value.oneCell',bZ,aU,bQ,bO,List.getElem?_cons_zero,List.getElem?_cons_succ,List.map_cons,Option.map_some,Option.isSome_some,List.getElem?_map,reduceIte,reduceCtorEq,Nat.reduceEqDiff,Nat.reduceAdd,Nat.reduceLT,Nat.reduceLeDiff,Nat.reduceMul,Nat.reduceSub,decide_true,decide_false,true_and,forall_const,not_false_eq_true,Bool.not_true,Bool.not_false,List.cons_append,List.nil_append,List.append_nil,List.take_succ_cons,List.take_zero,List.drop_succ_cons,List.drop_zero,List.length_cons,List.length_nil,List.set_cons_zero,implies_true,Bool.false_eq_true,false_implies,and_self,Bool.true_and,Bool.and_self,Nat.zero_add,Nat.add_zero,ac,bx,bX,ax,ofD,ao,bG,aQ,bV,bz,aN,be,bi,bh,br,AV.toD,SV.toD,LV.toD,bE,aR,bg,iQ,AV.plain,SV.plain,LV.plain,List.all_cons,List.all_nil,Option.getD_some,iW,dX,cN,bY,dD,dM,cU,dv,dK,dq,dJ,cT,dm,dL,du,eN,eJ,eP,eO,su,eZ,hw,Jk,I8,Jd,hc,hd,hv',ew,eb,eo]
        exact ⟨(1,_),⟨by simp,hs1⟩,by simp,Wk.renL [0,1,2] (by simp) (by simp) (by simp) rfl rfl⟩
       ·have hn0:=hfail (by unfold dl;rw [if_neg];intro h;rw [show dT.getD 0 emp=⟨#[115]⟩ from rfl,hc,show i4.getD 0 0=3 from rfl,hd] at h;exact hv h.2.2)
        have hv':d-2<0:=by omega
        simp only [List.map_nil,Nat.le_refl,Int.le_refl,List.length_map,bD,bH,Int.cast_ofNat_Int,aE,aP,aw,au,aH,ai,ak,an,ae,ah,aa,aB,aA,ap,ay,aK,aJ,ab,ar,aj,aY,aI,bt,bA,Int.reduceBEq,Int.reduceBNe,Int.reduceLT,Int.reduceLE,Int.reduceToNat,List.mem_cons,List.not_mem_nil,ag,aq,aD,aOp,evT,aW,putT,aG,gAt,bL,hget,bC,aUn,bm,bB,cI,aX,bJ,ct,az,cellsOf,LV.one,Value.oneCell',bZ,aU,bQ,bO,List.getElem?_cons_zero,List.getElem?_cons_succ,List.map_cons,Option.map_some,Option.isSome_some,List.getElem?_map,reduceIte,reduceCtorEq,Nat.reduceEqDiff,Nat.reduceAdd,Nat.reduceLT,Nat.reduceLeDiff,Nat.reduceMul,Nat.reduceSub,decide_true,decide_false,true_and,forall_const,not_false_eq_true,Bool.not_true,Bool.not_false,List.cons_append,List.nil_append,List.append_nil,List.take_succ_cons,List.take_zero,List.drop_succ_cons,List.drop_zero,List.length_cons,List.length_nil,List.set_cons_zero,implies_true,Bool.false_eq_true,false_implies,and_self,Bool.true_and,Bool.and_self,Nat.zero_add,Nat.add_zero,ac,bx,bX,ax,ofD,ao,bG,aQ,bV,bz,aN,be,bi,bh,br,AV.toD,SV.toD,LV.toD,bE,aR,bg,iQ,AV.plain,SV.plain,LV.plain,List.all_cons,List.all_nil,Option.getD_some,iW,dX,cN,bY,dD,dM,cU,dv,dK,dq,dJ,cT,dm,dL,du,eN,eJ,eP,eO,su,eZ,hw,Jk,I8,Jd,hc,hd,hv',ew,hn0,iX]
    ·rcases hc:uP w ⟨#[]⟩ with ⟨r,_ | _⟩
     ·have hn0:=hfail (by unfold dl;rw [if_neg];intro h;rw [show dT.getD 1 emp=⟨#[]⟩ from rfl,hc] at h;exact absurd h.1 (by simp))
      rcases hd:dg 3 r 7 with ⟨d,b⟩
      simp only [List.map_nil,Nat.le_refl,Int.le_refl,List.length_map,bD,bH,Int.cast_ofNat_Int,aE,aP,aw,au,aH,ai,ak,an,ae,ah,aa,aB,aA,ap,ay,aK,aJ,ab,ar,aj,aY,aI,bt,bA,Int.reduceBEq,Int.reduceBNe,Int.reduceLT,Int.reduceLE,Int.reduceToNat,List.mem_cons,List.not_mem_nil,ag,aq,aD,aOp,evT,aW,putT,aG,gAt,bL,hget,bC,aUn,bm,bB,cI,aX,bJ,ct,az,cellsOf,LV.one,Value.oneCell',bZ,aU,bQ,bO,List.getElem?_cons_zero,List.getElem?_cons_succ,List.map_cons,Option.map_some,Option.isSome_some,List.getElem?_map,reduceIte,reduceCtorEq,Nat.reduceEqDiff,Nat.reduceAdd,Nat.reduceLT,Nat.reduceLeDiff,Nat.reduceMul,Nat.reduceSub,decide_true,decide_false,true_and,forall_const,not_false_eq_true,Bool.not_true,Bool.not_false,List.cons_append,List.nil_append,List.append_nil,List.take_succ_cons,List.take_zero,List.drop_succ_cons,List.drop_zero,List.length_cons,List.length_nil,List.set_cons_zero,implies_true,Bool.false_eq_true,false_implies,and_self,Bool.true_and,Bool.and_self,Nat.zero_add,Nat.add_zero,ac,bx,bX,ax,ofD,ao,bG,aQ,bV,bz,aN,be,bi,bh,br,AV.toD,SV.toD,LV.toD,bE,aR,bg,iQ,AV.plain,SV.plain,LV.plain,List.all_cons,List.all_nil,Option.getD_some,iW,dX,cN,bY,dD,dM,cU,dv,dK,dq,dJ,cT,dm,dL,du,eN,eJ,eP,eO,su,eZ,hw,Jk,I8,Jd,hc,hd,hn0,iX]
     ·rcases hd:dg 3 r 7 with ⟨d,_ | _⟩
      ·have hn0:=hfail (by unfold dl;rw [if_neg];intro h;rw [show dT.getD 1 emp=⟨#[]⟩ from rfl,hc,show i4.getD 1 0=7 from rfl,hd] at h;exact absurd h.2.1 (by simp))
       simp only [List.map_nil,Nat.le_refl,Int.le_refl,List.length_map,bD,bH,Int.cast_ofNat_Int,aE,aP,aw,au,aH,ai,ak,an,ae,ah,aa,aB,aA,ap,ay,aK,aJ,ab,ar,aj,aY,aI,bt,bA,Int.reduceBEq,Int.reduceBNe,Int.reduceLT,Int.reduceLE,Int.reduceToNat,List.mem_cons,List.not_mem_nil,ag,aq,aD,aOp,evT,aW,putT,aG,gAt,bL,hget,bC,aUn,bm,bB,cI,aX,bJ,ct,az,cellsOf,LV.one,Value.oneCell',bZ,aU,bQ,bO,List.getElem?_cons_zero,List.getElem?_cons_succ,List.map_cons,Option.map_some,Option.isSome_some,List.getElem?_map,reduceIte,reduceCtorEq,Nat.reduceEqDiff,Nat.reduceAdd,Nat.reduceLT,Nat.reduceLeDiff,Nat.reduceMul,Nat.reduceSub,decide_true,decide_false,true_and,forall_const,not_false_eq_true,Bool.not_true,Bool.not_false,List.cons_append,List.nil_append,List.append_nil,List.take_succ_cons,List.take_zero,List.drop_succ_cons,List.drop_zero,List.length_cons,List.length_nil,List.set_cons_zero,implies_true,Bool.false_eq_true,false_implies,and_self,Bool.true_and,Bool.and_self,Nat.zero_add,Nat.add_zero,ac,bx,bX,ax,ofD,ao,bG,aQ,bV,bz,aN,be,bi,bh,br,AV.toD,SV.toD,LV.toD,bE,aR,bg,iQ,AV.plain,SV.plain,LV.plain,List.all_cons,List.all_nil,Option.getD_some,iW,dX,cN,bY,dD,dM,cU,dv,dK,dq,dJ,cT,dm,dL,du,eN,eJ,eP,eO,su,eZ,hw,Jk,I8,Jd,hc,hd,hn0,iX]
      ·have hdr:=dW (lim:=3) (s:=r) (most:=7) (by rw [hd])
       rw [hd] at hdr
       simp only at hdr
       by_cases hv:0≤d
       ·have hs1:=hok (n*2 ^ 3+(d)) (by unfold dl;rw [show dT.getD 1 emp=⟨#[]⟩ from rfl,hc,show i4.getD 1 0=7 from rfl,hd,if_pos ⟨rfl,rfl,hv⟩];rfl)
        have hv':¬d<0:=by omega
        have eb:IntKind.i64.wrap (n*2 ^ min 3 IntKind.i64.bits)=n*2 ^ 3:=by
         rw [show min 3 IntKind.i64.bits=3 from rfl,IntKind.wrap_i64]
         simp at hnb ⊢
         omega
        have eo:bits .or .i64 (n*2 ^ 3) (d)=n*2 ^ 3+(d):=by
         simp at hnb
         rcases or_i64 3 n (d) hnb.1 (by omega) hv (by simp;omega) (by omega) with h | h
         ·exact h
         ·simp at h;omega
        simp only [List.map_nil,Nat.le_refl,Int.le_refl,List.length_map,bD,bH,Int.cast_ofNat_Int,aE,aP,aw,au,aH,ai,ak,an,ae,ah,aa,aB,aA,ap,ay,aK,aJ,ab,ar,aj,aY,aI,bt,bA,Int.reduceBEq,Int.reduceBNe,Int.reduceLT,Int.reduceLE,Int.reduceToNat,List.mem_cons,List.not_mem_nil,ag,aq,aD,aOp,evT,aW,putT,aG,gAt,bL,hget,bC,aUn,bm,bB,cI,aX,bJ,ct,az,cellsOf,LV.one,Value.oneCell',bZ,aU,bQ,bO,List.getElem?_cons_zero,List.getElem?_cons_succ,List.map_cons,Option.map_some,Option.isSome_some,List.getElem?_map,reduceIte,reduceCtorEq,Nat.reduceEqDiff,Nat.reduceAdd,Nat.reduceLT,Nat.reduceLeDiff,Nat.reduceMul,Nat.reduceSub,decide_true,decide_false,true_and,forall_const,not_false_eq_true,Bool.not_true,Bool.not_false,List.cons_append,List.nil_append,List.append_nil,List.take_succ_cons,List.take_zero,List.drop_succ_cons,List.drop_zero,List.length_cons,List.length_nil,List.set_cons_zero,implies_true,Bool.false_eq_true,false_implies,and_self,Bool.true_and,Bool.and_self,Nat.zero_add,Nat.add_zero,ac,bx,bX,ax,ofD,ao,bG,aQ,bV,bz,aN,be,bi,bh,br,AV.toD,SV.toD,LV.toD,bE,aR,bg,iQ,AV.plain,SV.plain,LV.plain,List.all_cons,List.all_nil,Option.getD_some,iW,dX,cN,bY,dD,dM,cU,dv,dK,dq,dJ,cT,dm,dL,du,eN,eJ,eP,eO,su,eZ,hw,Jk,I8,Jd,hc,hd,hv',eb,eo]
        exact ⟨(2,_),⟨by simp,hs1⟩,by simp,Wk.renL [0,1,2] (by simp) (by simp) (by simp) rfl rfl⟩
       ·have hn0:=hfail (by unfold dl;rw [if_neg];intro h;rw [show dT.getD 1 emp=⟨#[]⟩ from rfl,hc,show i4.getD 1 0=7 from rfl,hd] at h;exact hv h.2.2)
        have hv':d<0:=by omega
        simp only [List.map_nil,Nat.le_refl,Int.le_refl,List.length_map,bD,bH,Int.cast_ofNat_Int,aE,aP,aw,au,aH,ai,ak,an,ae,ah,aa,aB,aA,ap,ay,aK,aJ,ab,ar,aj,aY,aI,bt,bA,Int.reduceBEq,Int.reduceBNe,Int.reduceLT,Int.reduceLE,Int.reduceToNat,List.mem_cons,List.not_mem_nil,ag,aq,aD,aOp,evT,aW,putT,aG,gAt,bL,hget,bC,aUn,bm,bB,cI,aX,bJ,ct,az,cellsOf,LV.one,Value.oneCell',bZ,aU,bQ,bO,List.getElem?_cons_zero,List.getElem?_cons_succ,List.map_cons,Option.map_some,Option.isSome_some,List.getElem?_map,reduceIte,reduceCtorEq,Nat.reduceEqDiff,Nat.reduceAdd,Nat.reduceLT,Nat.reduceLeDiff,Nat.reduceMul,Nat.reduceSub,decide_true,decide_false,true_and,forall_const,not_false_eq_true,Bool.not_true,Bool.not_false,List.cons_append,List.nil_append,List.append_nil,List.take_succ_cons,List.take_zero,List.drop_succ_cons,List.drop_zero,List.length_cons,List.length_nil,List.set_cons_zero,implies_true,Bool.false_eq_true,false_implies,and_self,Bool.true_and,Bool.and_self,Nat.zero_add,Nat.add_zero,ac,bx,bX,ax,ofD,ao,bG,aQ,bV,bz,aN,be,bi,bh,br,AV.toD,SV.toD,LV.toD,bE,aR,bg,iQ,AV.plain,SV.plain,LV.plain,List.all_cons,List.all_nil,Option.getD_some,iW,dX,cN,bY,dD,dM,cU,dv,dK,dq,dJ,cT,dm,dL,du,eN,eJ,eP,eO,su,eZ,hw,Jk,I8,Jd,hc,hd,hv',hn0,iX]
    ·rcases hc:uP w ⟨#[99]⟩ with ⟨r,_ | _⟩
     ·have hn0:=hfail (by unfold dl;rw [if_neg];intro h;rw [show dT.getD 2 emp=⟨#[99]⟩ from rfl,hc] at h;exact absurd h.1 (by simp))
      rcases hd:dg 3 r 15 with ⟨d,b⟩
      simp only [List.map_nil,Nat.le_refl,Int.le_refl,List.length_map,bD,bH,Int.cast_ofNat_Int,aE,aP,aw,au,aH,ai,ak,an,ae,ah,aa,aB,aA,ap,ay,aK,aJ,ab,ar,aj,aY,aI,bt,bA,Int.reduceBEq,Int.reduceBNe,Int.reduceLT,Int.reduceLE,Int.reduceToNat,List.mem_cons,List.not_mem_nil,ag,aq,aD,aOp,evT,aW,putT,aG,gAt,bL,hget,bC,aUn,bm,bB,cI,aX,bJ,ct,az,cellsOf,LV.one,Value.oneCell',bZ,aU,bQ,bO,List.getElem?_cons_zero,List.getElem?_cons_succ,List.map_cons,Option.map_some,Option.isSome_some,List.getElem?_map,reduceIte,reduceCtorEq,Nat.reduceEqDiff,Nat.reduceAdd,Nat.reduceLT,Nat.reduceLeDiff,Nat.reduceMul,Nat.reduceSub,decide_true,decide_false,true_and,forall_const,not_false_eq_true,Bool.not_true,Bool.not_false,List.cons_append,List.nil_append,List.append_nil,List.take_succ_cons,List.take_zero,List.drop_succ_cons,List.drop_zero,List.length_cons,List.length_nil,List.set_cons_zero,implies_true,Bool.false_eq_true,false_implies,and_self,Bool.true_and,Bool.and_self,Nat.zero_add,Nat.add_zero,ac,bx,bX,ax,ofD,ao,bG,aQ,bV,bz,aN,be,bi,bh,br,AV.toD,SV.toD,LV.toD,bE,aR,bg,iQ,AV.plain,SV.plain,LV.plain,List.all_cons,List.all_nil,Option.getD_some,iW,dX,cN,bY,dD,dM,cU,dv,dK,dq,dJ,cT,dm,dL,du,eN,eJ,eP,eO,su,eZ,hw,Jk,I8,Jd,hc,hd,hn0,iX]
     ·rcases hd:dg 3 r 15 with ⟨d,_ | _⟩
      ·have hn0:=hfail (by unfold dl;rw [if_neg];intro h;rw [show dT.getD 2 emp=⟨#[99]⟩ from rfl,hc,show i4.getD 2 0=15 from rfl,hd] at h;exact absurd h.2.1 (by simp))
       simp only [List.map_nil,Nat.le_refl,Int.le_refl,List.length_map,bD,bH,Int.cast_ofNat_Int,aE,aP,aw,au,aH,ai,ak,an,ae,ah,aa,aB,aA,ap,ay,aK,aJ,ab,ar,aj,aY,aI,bt,bA,Int.reduceBEq,Int.reduceBNe,Int.reduceLT,Int.reduceLE,Int.reduceToNat,List.mem_cons,List.not_mem_nil,ag,aq,aD,aOp,evT,aW,putT,aG,gAt,bL,hget,bC,aUn,bm,bB,cI,aX,bJ,ct,az,cellsOf,LV.one,Value.oneCell',bZ,aU,bQ,bO,List.getElem?_cons_zero,List.getElem?_cons_succ,List.map_cons,Option.map_some,Option.isSome_some,List.getElem?_map,reduceIte,reduceCtorEq,Nat.reduceEqDiff,Nat.reduceAdd,Nat.reduceLT,Nat.reduceLeDiff,Nat.reduceMul,Nat.reduceSub,decide_true,decide_false,true_and,forall_const,not_false_eq_true,Bool.not_true,Bool.not_false,List.cons_append,List.nil_append,List.append_nil,List.take_succ_cons,List.take_zero,List.drop_succ_cons,List.drop_zero,List.length_cons,List.length_nil,List.set_cons_zero,implies_true,Bool.false_eq_true,false_implies,and_self,Bool.true_and,Bool.and_self,Nat.zero_add,Nat.add_zero,ac,bx,bX,ax,ofD,ao,bG,aQ,bV,bz,aN,be,bi,bh,br,AV.toD,SV.toD,LV.toD,bE,aR,bg,iQ,AV.plain,SV.plain,LV.plain,List.all_cons,List.all_nil,Option.getD_some,iW,dX,cN,bY,dD,dM,cU,dv,dK,dq,dJ,cT,dm,dL,du,eN,eJ,eP,eO,su,eZ,hw,Jk,I8,Jd,hc,hd,hn0,iX]
      ·have hdr:=dW (lim:=3) (s:=r) (most:=15) (by rw [hd])
       rw [hd] at hdr
       simp only at hdr
       by_cases hv:0≤d
       ·have hs1:=hok (n*2 ^ 4+(d)) (by unfold dl;rw [show dT.getD 2 emp=⟨#[99]⟩ from rfl,hc,show i4.getD 2 0=15 from rfl,hd,if_pos ⟨rfl,rfl,hv⟩];rfl)
        have hv':¬d<0:=by omega
        have eb:IntKind.i64.wrap (n*2 ^ min 4 IntKind.i64.bits)=n*2 ^ 4:=by
         rw [show min 4 IntKind.i64.bits=4 from rfl,IntKind.wrap_i64]
         simp at hnb ⊢
         omega
        have eo:bits .or .i64 (n*2 ^ 4) (d)=n*2 ^ 4+(d):=by
         simp at hnb
         rcases or_i64 4 n (d) hnb.1 (by omega) hv (by simp;omega) (by omega) with h | h
         ·exact h
         ·simp at h;omega
        simp only [List.map_nil,Nat.le_refl,Int.le_refl,List.length_map,bD,bH,Int.cast_ofNat_Int,aE,aP,aw,au,aH,ai,ak,an,ae,ah,aa,aB,aA,ap,ay,aK,aJ,ab,ar,aj,aY,aI,bt,bA,Int.reduceBEq,Int.reduceBNe,Int.reduceLT,Int.reduceLE,Int.reduceToNat,List.mem_cons,List.not_mem_nil,ag,aq,aD,aOp,evT,aW,putT,aG,gAt,bL,hget,bC,aUn,bm,bB,cI,aX,bJ,ct,az,cellsOf,LV.one,Value.oneCell',bZ,aU,bQ,bO,List.getElem?_cons_zero,List.getElem?_cons_succ,List.map_cons,Option.map_some,Option.isSome_some,List.getElem?_map,reduceIte,reduceCtorEq,Nat.reduceEqDiff,Nat.reduceAdd,Nat.reduceLT,Nat.reduceLeDiff,Nat.reduceMul,Nat.reduceSub,decide_true,decide_false,true_and,forall_const,not_false_eq_true,Bool.not_true,Bool.not_false,List.cons_append,List.nil_append,List.append_nil,List.take_succ_cons,List.take_zero,List.drop_succ_cons,List.drop_zero,List.length_cons,List.length_nil,List.set_cons_zero,implies_true,Bool.false_eq_true,false_implies,and_self,Bool.true_and,Bool.and_self,Nat.zero_add,Nat.add_zero,ac,bx,bX,ax,ofD,ao,bG,aQ,bV,bz,aN,be,bi,bh,br,AV.toD,SV.toD,LV.toD,bE,aR,bg,iQ,AV.plain,SV.plain,LV.plain,List.all_cons,List.all_nil,Option.getD_some,iW,dX,cN,bY,dD,dM,cU,dv,dK,dq,dJ,cT,dm,dL,du,eN,eJ,eP,eO,su,eZ,hw,Jk,I8,Jd,hc,hd,hv',eb,eo]
        exact ⟨(3,_),⟨by simp,hs1⟩,by simp,Wk.renL [0,1,2] (by simp) (by simp) (by simp) rfl rfl⟩
       ·have hn0:=hfail (by unfold dl;rw [if_neg];intro h;rw [show dT.getD 2 emp=⟨#[99]⟩ from rfl,hc,show i4.getD 2 0=15 from rfl,hd] at h;exact hv h.2.2)
        have hv':d<0:=by omega
        simp only [List.map_nil,Nat.le_refl,Int.le_refl,List.length_map,bD,bH,Int.cast_ofNat_Int,aE,aP,aw,au,aH,ai,ak,an,ae,ah,aa,aB,aA,ap,ay,aK,aJ,ab,ar,aj,aY,aI,bt,bA,Int.reduceBEq,Int.reduceBNe,Int.reduceLT,Int.reduceLE,Int.reduceToNat,List.mem_cons,List.not_mem_nil,ag,aq,aD,aOp,evT,aW,putT,aG,gAt,bL,hget,bC,aUn,bm,bB,cI,aX,bJ,ct,az,cellsOf,LV.one,Value.oneCell',bZ,aU,bQ,bO,List.getElem?_cons_zero,List.getElem?_cons_succ,List.map_cons,Option.map_some,Option.isSome_some,List.getElem?_map,reduceIte,reduceCtorEq,Nat.reduceEqDiff,Nat.reduceAdd,Nat.reduceLT,Nat.reduceLeDiff,Nat.reduceMul,Nat.reduceSub,decide_true,decide_false,true_and,forall_const,not_false_eq_true,Bool.not_true,Bool.not_false,List.cons_append,List.nil_append,List.append_nil,List.take_succ_cons,List.take_zero,List.drop_succ_cons,List.drop_zero,List.length_cons,List.length_nil,List.set_cons_zero,implies_true,Bool.false_eq_true,false_implies,and_self,Bool.true_and,Bool.and_self,Nat.zero_add,Nat.add_zero,ac,bx,bX,ax,ofD,ao,bG,aQ,bV,bz,aN,be,bi,bh,br,AV.toD,SV.toD,LV.toD,bE,aR,bg,iQ,AV.plain,SV.plain,LV.plain,List.all_cons,List.all_nil,Option.getD_some,iW,dX,cN,bY,dD,dM,cU,dv,dK,dq,dJ,cT,dm,dL,du,eN,eJ,eP,eO,su,eZ,hw,Jk,I8,Jd,hc,hd,hv',hn0,iX]
    ·rcases hc:uP w ⟨#[99]⟩ with ⟨r,_ | _⟩
     ·have hn0:=hfail (by unfold dl;rw [if_neg];intro h;rw [show dT.getD 3 emp=⟨#[99]⟩ from rfl,hc] at h;exact absurd h.1 (by simp))
      rcases hd:dg 3 r 15 with ⟨d,b⟩
      simp only [List.map_nil,Nat.le_refl,Int.le_refl,List.length_map,bD,bH,Int.cast_ofNat_Int,aE,aP,aw,au,aH,ai,ak,an,ae,ah,aa,aB,aA,ap,ay,aK,aJ,ab,ar,aj,aY,aI,bt,bA,Int.reduceBEq,Int.reduceBNe,Int.reduceLT,Int.reduceLE,Int.reduceToNat,List.mem_cons,List.not_mem_nil,ag,aq,aD,aOp,evT,aW,putT,aG,gAt,bL,hget,bC,aUn,bm,bB,cI,aX,bJ,ct,az,cellsOf,LV.one,Value.oneCell',bZ,aU,bQ,bO,List.getElem?_cons_zero,List.getElem?_cons_succ,List.map_cons,Option.map_some,Option.isSome_some,List.getElem?_map,reduceIte,reduceCtorEq,Nat.reduceEqDiff,Nat.reduceAdd,Nat.reduceLT,Nat.reduceLeDiff,Nat.reduceMul,Nat.reduceSub,decide_true,decide_false,true_and,forall_const,not_false_eq_true,Bool.not_true,Bool.not_false,List.cons_append,List.nil_append,List.append_nil,List.take_succ_cons,List.take_zero,List.drop_succ_cons,List.drop_zero,List.length_cons,List.length_nil,List.set_cons_zero,implies_true,Bool.false_eq_true,false_implies,and_self,Bool.true_and,Bool.and_self,Nat.zero_add,Nat.add_zero,ac,bx,bX,ax,ofD,ao,bG,aQ,bV,bz,aN,be,bi,bh,br,AV.toD,SV.toD,LV.toD,bE,aR,bg,iQ,AV.plain,SV.plain,LV.plain,List.all_cons,List.all_nil,Option.getD_some,iW,dX,cN,bY,dD,dM,cU,dv,dK,dq,dJ,cT,dm,dL,du,eN,eJ,eP,eO,su,eZ,hw,Jk,I8,Jd,hc,hd,hn0,iX]
     ·rcases hd:dg 3 r 15 with ⟨d,_ | _⟩
      ·have hn0:=hfail (by unfold dl;rw [if_neg];intro h;rw [show dT.getD 3 emp=⟨#[99]⟩ from rfl,hc,show i4.getD 3 0=15 from rfl,hd] at h;exact absurd h.2.1 (by simp))
       simp only [List.map_nil,Nat.le_refl,Int.le_refl,List.length_map,bD,bH,Int.cast_ofNat_Int,aE,aP,aw,au,aH,ai,ak,an,ae,ah,aa,aB,aA,ap,ay,aK,aJ,ab,ar,aj,aY,aI,bt,bA,Int.reduceBEq,Int.reduceBNe,Int.reduceLT,Int.reduceLE,Int.reduceToNat,List.mem_cons,List.not_mem_nil,ag,aq,aD,aOp,evT,aW,putT,aG,gAt,bL,hget,bC,aUn,bm,bB,cI,aX,bJ,ct,az,cellsOf,LV.one,Value.oneCell',bZ,aU,bQ,bO,List.getElem?_cons_zero,List.getElem?_cons_succ,List.map_cons,Option.map_some,Option.isSome_some,List.getElem?_map,reduceIte,reduceCtorEq,Nat.reduceEqDiff,Nat.reduceAdd,Nat.reduceLT,Nat.reduceLeDiff,Nat.reduceMul,Nat.reduceSub,decide_true,decide_false,true_and,forall_const,not_false_eq_true,Bool.not_true,Bool.not_false,List.cons_append,List.nil_append,List.append_nil,List.take_succ_cons,List.take_zero,List.drop_succ_cons,List.drop_zero,List.length_cons,List.length_nil,List.set_cons_zero,implies_true,Bool.false_eq_true,false_implies,and_self,Bool.true_and,Bool.and_self,Nat.zero_add,Nat.add_zero,ac,bx,bX,ax,ofD,ao,bG,aQ,bV,bz,aN,be,bi,bh,br,AV.toD,SV.toD,LV.toD,bE,aR,bg,iQ,AV.plain,SV.plain,LV.plain,List.all_cons,List.all_nil,Option.getD_some,iW,dX,cN,bY,dD,dM,cU,dv,dK,dq,dJ,cT,dm,dL,du,eN,eJ,eP,eO,su,eZ,hw,Jk,I8,Jd,hc,hd,hn0,iX]
      ·have hdr:=dW (lim:=3) (s:=r) (most:=15) (by rw [hd])
       rw [hd] at hdr
       simp only at hdr
       by_cases hv:0≤d
       ·have hs1:=hok (n*2 ^ 4+(d)) (by unfold dl;rw [show dT.getD 3 emp=⟨#[99]⟩ from rfl,hc,show i4.getD 3 0=15 from rfl,hd,if_pos ⟨rfl,rfl,hv⟩];rfl)
        have hv':¬d<0:=by omega
        have eb:IntKind.i64.wrap (n*2 ^ min 4 IntKind.i64.bits)=n*2 ^ 4:=by
         rw [show min 4 IntKind.i64.bits=4 from rfl,IntKind.wrap_i64]
         simp at hnb ⊢
         omega
        have eo:bits .or .i64 (n*2 ^ 4) (d)=n*2 ^ 4+(d):=by
         simp at hnb
         rcases or_i64 4 n (d) hnb.1 (by omega) hv (by simp;omega) (by omega) with h | h
         ·exact h
         ·simp at h;omega
        simp only [List.map_nil,Nat.le_refl,Int.le_refl,List.length_map,bD,bH,Int.cast_ofNat_Int,aE,aP,aw,au,aH,ai,ak,an,ae,ah,aa,aB,aA,ap,ay,aK,aJ,ab,ar,aj,aY,aI,bt,bA,Int.reduceBEq,Int.reduceBNe,Int.reduceLT,Int.reduceLE,Int.reduceToNat,List.mem_cons,List.not_mem_nil,ag,aq,aD,aOp,evT,aW,putT,aG,gAt,bL,hget,bC,aUn,bm,bB,cI,aX,bJ,ct,az,cellsOf,LV.one,Value.oneCell',bZ,aU,bQ,bO,List.getElem?_cons_zero,List.getElem?_cons_succ,List.map_cons,Option.map_some,Option.isSome_some,List.getElem?_map,reduceIte,reduceCtorEq,Nat.reduceEqDiff,Nat.reduceAdd,Nat.reduceLT,Nat.reduceLeDiff,Nat.reduceMul,Nat.reduceSub,decide_true,decide_false,true_and,forall_const,not_false_eq_true,Bool.not_true,Bool.not_false,List.cons_append,List.nil_append,List.append_nil,List.take_succ_cons,List.take_zero,List.drop_succ_cons,List.drop_zero,List.length_cons,List.length_nil,List.set_cons_zero,implies_true,Bool.false_eq_true,false_implies,and_self,Bool.true_and,Bool.and_self,Nat.zero_add,Nat.add_zero,ac,bx,bX,ax,ofD,ao,bG,aQ,bV,bz,aN,be,bi,bh,br,AV.toD,SV.toD,LV.toD,bE,aR,bg,iQ,AV.plain,SV.plain,LV.plain,List.all_cons,List.all_nil,Option.getD_some,iW,dX,cN,bY,dD,dM,cU,dv,dK,dq,dJ,cT,dm,dL,du,eN,eJ,eP,eO,su,eZ,hw,Jk,I8,Jd,hc,hd,hv',eb,eo]
        exact ⟨(4,_),⟨by simp,hs1⟩,by simp,Wk.renL [0,1,2] (by simp) (by simp) (by simp) rfl rfl⟩
       ·have hn0:=hfail (by unfold dl;rw [if_neg];intro h;rw [show dT.getD 3 emp=⟨#[99]⟩ from rfl,hc,show i4.getD 3 0=15 from rfl,hd] at h;exact hv h.2.2)
        have hv':d<0:=by omega
        simp only [List.map_nil,Nat.le_refl,Int.le_refl,List.length_map,bD,bH,Int.cast_ofNat_Int,aE,aP,aw,au,aH,ai,ak,an,ae,ah,aa,aB,aA,ap,ay,aK,aJ,ab,ar,aj,aY,aI,bt,bA,Int.reduceBEq,Int.reduceBNe,Int.reduceLT,Int.reduceLE,Int.reduceToNat,List.mem_cons,List.not_mem_nil,ag,aq,aD,aOp,evT,aW,putT,aG,gAt,bL,hget,bC,aUn,bm,bB,cI,aX,bJ,ct,az,cellsOf,LV.one,Value.oneCell',bZ,aU,bQ,bO,List.getElem?_cons_zero,List.getElem?_cons_succ,List.map_cons,Option.map_some,Option.isSome_some,List.getElem?_map,reduceIte,reduceCtorEq,Nat.reduceEqDiff,Nat.reduceAdd,Nat.reduceLT,Nat.reduceLeDiff,Nat.reduceMul,Nat.reduceSub,decide_true,decide_false,true_and,forall_const,not_false_eq_true,Bool.not_true,Bool.not_false,List.cons_append,List.nil_append,List.append_nil,List.take_succ_cons,List.take_zero,List.drop_succ_cons,List.drop_zero,List.length_cons,List.length_nil,List.set_cons_zero,implies_true,Bool.false_eq_true,false_implies,and_self,Bool.true_and,Bool.and_self,Nat.zero_add,Nat.add_zero,ac,bx,bX,ax,ofD,ao,bG,aQ,bV,bz,aN,be,bi,bh,br,AV.toD,SV.toD,LV.toD,bE,aR,bg,iQ,AV.plain,SV.plain,LV.plain,List.all_cons,List.all_nil,Option.getD_some,iW,dX,cN,bY,dD,dM,cU,dv,dK,dq,dJ,cT,dm,dL,du,eN,eJ,eP,eO,su,eZ,hw,Jk,I8,Jd,hc,hd,hv',hn0,iX]
    ·rcases hc:uP w ⟨#[]⟩ with ⟨r,_ | _⟩
     ·have hn0:=hfail (by unfold dl;rw [if_neg];intro h;rw [show dT.getD 4 emp=⟨#[]⟩ from rfl,hc] at h;exact absurd h.1 (by simp))
      rcases hd:dg 3 r 7 with ⟨d,b⟩
      simp only [List.map_nil,Nat.le_refl,Int.le_refl,List.length_map,bD,bH,Int.cast_ofNat_Int,aE,aP,aw,au,aH,ai,ak,an,ae,ah,aa,aB,aA,ap,ay,aK,aJ,ab,ar,aj,aY,aI,bt,bA,Int.reduceBEq,Int.reduceBNe,Int.reduceLT,Int.reduceLE,Int.reduceToNat,List.mem_cons,List.not_mem_nil,ag,aq,aD,aOp,evT,aW,putT,aG,gAt,bL,hget,bC,aUn,bm,bB,cI,aX,bJ,ct,az,cellsOf,LV.one,Value.oneCell',bZ,aU,bQ,bO,List.getElem?_cons_zero,List.getElem?_cons_succ,List.map_cons,Option.map_some,Option.isSome_some,List.getElem?_map,reduceIte,reduceCtorEq,Nat.reduceEqDiff,Nat.reduceAdd,Nat.reduceLT,Nat.reduceLeDiff,Nat.reduceMul,Nat.reduceSub,decide_true,decide_false,true_and,forall_const,not_false_eq_true,Bool.not_true,Bool.not_false,List.cons_append,List.nil_append,List.append_nil,List.take_succ_cons,List.take_zero,List.drop_succ_cons,List.drop_zero,List.length_cons,List.length_nil,List.set_cons_zero,implies_true,Bool.false_eq_true,false_implies,and_self,Bool.true_and,Bool.and_self,Nat.zero_add,Nat.add_zero,ac,bx,bX,ax,ofD,ao,bG,aQ,bV,bz,aN,be,bi,bh,br,AV.toD,SV.toD,LV.toD,bE,aR,bg,iQ,AV.plain,SV.plain,LV.plain,List.all_cons,List.all_nil,Option.getD_some,iW,dX,cN,bY,dD,dM,cU,dv,dK,dq,dJ,cT,dm,dL,du,eN,eJ,eP,eO,su,eZ,hw,Jk,I8,Jd,hc,hd,hn0,iX]
     ·rcases hd:dg 3 r 7 with ⟨d,_ | _⟩
      ·have hn0:=hfail (by unfold dl;rw [if_neg];intro h;rw [show dT.getD 4 emp=⟨#[]⟩ from rfl,hc,show i4.getD 4 0=7 from rfl,hd] at h;exact absurd h.2.1 (by simp))
       simp only [List.map_nil,Nat.le_refl,Int.le_refl,List.length_map,bD,bH,Int.cast_ofNat_Int,aE,aP,aw,au,aH,ai,ak,an,ae,ah,aa,aB,aA,ap,ay,aK,aJ,ab,ar,aj,aY,aI,bt,bA,Int.reduceBEq,Int.reduceBNe,Int.reduceLT,Int.reduceLE,Int.reduceToNat,List.mem_cons,List.not_mem_nil,ag,aq,aD,aOp,evT,aW,putT,aG,gAt,bL,hget,bC,aUn,bm,bB,cI,aX,bJ,ct,az,cellsOf,LV.one,Value.oneCell',bZ,aU,bQ,bO,List.getElem?_cons_zero,List.getElem?_cons_succ,List.map_cons,Option.map_some,Option.isSome_some,List.getElem?_map,reduceIte,reduceCtorEq,Nat.reduceEqDiff,Nat.reduceAdd,Nat.reduceLT,Nat.reduceLeDiff,Nat.reduceMul,Nat.reduceSub,decide_true,decide_false,true_and,forall_const,not_false_eq_true,Bool.not_true,Bool.not_false,List.cons_append,List.nil_append,List.append_nil,List.take_succ_cons,List.take_zero,List.drop_succ_cons,List.drop_zero,List.length_cons,List.length_nil,List.set_cons_zero,implies_true,Bool.false_eq_true,false_implies,and_self,Bool.true_and,Bool.and_self,Nat.zero_add,Nat.add_zero,ac,bx,bX,ax,ofD,ao,bG,aQ,bV,bz,aN,be,bi,bh,br,AV.toD,SV.toD,LV.toD,bE,aR,bg,iQ,AV.plain,SV.plain,LV.plain,List.all_cons,List.all_nil,Option.getD_some,iW,dX,cN,bY,dD,dM,cU,dv,dK,dq,dJ,cT,dm,dL,du,eN,eJ,eP,eO,su,eZ,hw,Jk,I8,Jd,hc,hd,hn0,iX]
      ·have hdr:=dW (lim:=3) (s:=r) (most:=7) (by rw [hd])
       rw [hd] at hdr
       simp only at hdr
       by_cases hv:0≤d
       ·have hs1:=hok (n*2 ^ 3+(d)) (by unfold dl;rw [show dT.getD 4 emp=⟨#[]⟩ from rfl,hc,show i4.getD 4 0=7 from rfl,hd,if_pos ⟨rfl,rfl,hv⟩];rfl)
        have hv':¬d<0:=by omega
        have eb:IntKind.i64.wrap (n*2 ^ min 3 IntKind.i64.bits)=n*2 ^ 3:=by
         rw [show min 3 IntKind.i64.bits=3 from rfl,IntKind.wrap_i64]
         simp at hnb ⊢
         omega
        have eo:bits .or .i64 (n*2 ^ 3) (d)=n*2 ^ 3+(d):=by
         simp at hnb
         rcases or_i64 3 n (d) hnb.1 (by omega) hv (by simp;omega) (by omega) with h | h
         ·exact h
         ·simp at h;omega
        simp only [List.map_nil,Nat.le_refl,Int.le_refl,List.length_map,bD,bH,Int.cast_ofNat_Int,aE,aP,aw,au,aH,ai,ak,an,ae,ah,aa,aB,aA,ap,ay,aK,aJ,ab,ar,aj,aY,aI,bt,bA,Int.reduceBEq,Int.reduceBNe,Int.reduceLT,Int.reduceLE,Int.reduceToNat,List.mem_cons,List.not_mem_nil,ag,aq,aD,aOp,evT,aW,putT,aG,gAt,bL,hget,bC,aUn,bm,bB,cI,aX,bJ,ct,az,cellsOf,LV.one,Value.oneCell',bZ,aU,bQ,bO,List.getElem?_cons_zero,List.getElem?_cons_succ,List.map_cons,Option.map_some,Option.isSome_some,List.getElem?_map,reduceIte,reduceCtorEq,Nat.reduceEqDiff,Nat.reduceAdd,Nat.reduceLT,Nat.reduceLeDiff,Nat.reduceMul,Nat.reduceSub,decide_true,decide_false,true_and,forall_const,not_false_eq_true,Bool.not_true,Bool.not_false,List.cons_append,List.nil_append,List.append_nil,List.take_succ_cons,List.take_zero,List.drop_succ_cons,List.drop_zero,List.length_cons,List.length_nil,List.set_cons_zero,implies_true,Bool.false_eq_true,false_implies,and_self,Bool.true_and,Bool.and_self,Nat.zero_add,Nat.add_zero,ac,bx,bX,ax,ofD,ao,bG,aQ,bV,bz,aN,be,bi,bh,br,AV.toD,SV.toD,LV.toD,bE,aR,bg,iQ,AV.plain,SV.plain,LV.plain,List.all_cons,List.all_nil,Option.getD_some,iW,dX,cN,bY,dD,dM,cU,dv,dK,dq,dJ,cT,dm,dL,du,eN,eJ,eP,eO,su,eZ,hw,Jk,I8,Jd,hc,hd,hv',eb,eo]
        exact ⟨(5,_),⟨by simp,hs1⟩,by simp,Wk.renL [0,1,2] (by simp) (by simp) (by simp) rfl rfl⟩
       ·have hn0:=hfail (by unfold dl;rw [if_neg];intro h;rw [show dT.getD 4 emp=⟨#[]⟩ from rfl,hc,show i4.getD 4 0=7 from rfl,hd] at h;exact hv h.2.2)
        have hv':d<0:=by omega
        simp only [List.map_nil,Nat.le_refl,Int.le_refl,List.length_map,bD,bH,Int.cast_ofNat_Int,aE,aP,aw,au,aH,ai,ak,an,ae,ah,aa,aB,aA,ap,ay,aK,aJ,ab,ar,aj,aY,aI,bt,bA,Int.reduceBEq,Int.reduceBNe,Int.reduceLT,Int.reduceLE,Int.reduceToNat,List.mem_cons,List.not_mem_nil,ag,aq,aD,aOp,evT,aW,putT,aG,gAt,bL,hget,bC,aUn,bm,bB,cI,aX,bJ,ct,az,cellsOf,LV.one,Value.oneCell',bZ,aU,bQ,bO,List.getElem?_cons_zero,List.getElem?_cons_succ,List.map_cons,Option.map_some,Option.isSome_some,List.getElem?_map,reduceIte,reduceCtorEq,Nat.reduceEqDiff,Nat.reduceAdd,Nat.reduceLT,Nat.reduceLeDiff,Nat.reduceMul,Nat.reduceSub,decide_true,decide_false,true_and,forall_const,not_false_eq_true,Bool.not_true,Bool.not_false,List.cons_append,List.nil_append,List.append_nil,List.take_succ_cons,List.take_zero,List.drop_succ_cons,List.drop_zero,List.length_cons,List.length_nil,List.set_cons_zero,implies_true,Bool.false_eq_true,false_implies,and_self,Bool.true_and,Bool.and_self,Nat.zero_add,Nat.add_zero,ac,bx,bX,ax,ofD,ao,bG,aQ,bV,bz,aN,be,bi,bh,br,AV.toD,SV.toD,LV.toD,bE,aR,bg,iQ,AV.plain,SV.plain,LV.plain,List.all_cons,List.all_nil,Option.getD_some,iW,dX,cN,bY,dD,dM,cU,dv,dK,dq,dJ,cT,dm,dL,du,eN,eJ,eP,eO,su,eZ,hw,Jk,I8,Jd,hc,hd,hv',hn0,iX]
   ·obtain rfl:i=5:=by omega
    simp only [List.map_nil,Nat.le_refl,Int.le_refl,List.length_map,bD,bH,Int.cast_ofNat_Int,aE,aP,aw,au,aH,ai,ak,an,ae,ah,aa,aB,aA,ap,ay,aK,aJ,ab,ar,aj,aY,aI,bt,bA,Int.reduceBEq,Int.reduceBNe,Int.reduceLT,Int.reduceLE,Int.reduceToNat,List.mem_cons,List.not_mem_nil,ag,aq,aD,aOp,evT,aW,putT,aG,gAt,bL,hget,bC,aUn,bm,bB,cI,aX,bJ,ct,az,cellsOf,LV.one,Value.oneCell',bZ,aU,bQ,bO,List.getElem?_cons_zero,List.getElem?_cons_succ,List.map_cons,Option.map_some,Option.isSome_some,List.getElem?_map,reduceIte,reduceCtorEq,Nat.reduceEqDiff,Nat.reduceAdd,Nat.reduceLT,Nat.reduceLeDiff,Nat.reduceMul,Nat.reduceSub,decide_true,decide_false,true_and,forall_const,not_false_eq_true,Bool.not_true,Bool.not_false,List.cons_append,List.nil_append,List.append_nil,List.take_succ_cons,List.take_zero,List.drop_succ_cons,List.drop_zero,List.length_cons,List.length_nil,List.set_cons_zero,implies_true,Bool.false_eq_true,false_implies,and_self,Bool.true_and,Bool.and_self,Nat.zero_add,Nat.add_zero,ac,bx,bX,ax,ofD,ao,bG,aQ,bV,bz,aN,be,bi,bh,br,AV.toD,SV.toD,LV.toD,bE,aR,bg,iQ,AV.plain,SV.plain,LV.plain,List.all_cons,List.all_nil,Option.getD_some,iW,dX,cN,bY,dD,dM,cU,dv,dK,dq,dJ,cT,dm,dL,du,hF,hn,iX]
 ·have h5I:¬(l.length:Int)=5:=by omega
  rw [if_neg h5] at hF
  simp only [List.map_nil,Nat.le_refl,Int.le_refl,List.length_map,bD,bH,Int.cast_ofNat_Int,aE,aP,aw,au,aH,ai,ak,an,ae,ah,aa,aB,aA,ap,ay,aK,aJ,ab,ar,aj,aY,aI,bt,bA,Int.reduceBEq,Int.reduceBNe,Int.reduceLT,Int.reduceLE,Int.reduceToNat,List.mem_cons,List.not_mem_nil,ag,aq,aD,aOp,evT,aW,putT,aG,gAt,bL,hget,bC,aUn,bm,bB,cI,aX,bJ,ct,az,cellsOf,LV.one,Value.oneCell',bZ,aU,bQ,bO,List.getElem?_cons_zero,List.getElem?_cons_succ,List.map_cons,Option.map_some,Option.isSome_some,List.getElem?_map,reduceIte,reduceCtorEq,Nat.reduceEqDiff,Nat.reduceAdd,Nat.reduceLT,Nat.reduceLeDiff,Nat.reduceMul,Nat.reduceSub,decide_true,decide_false,true_and,forall_const,not_false_eq_true,Bool.not_true,Bool.not_false,List.cons_append,List.nil_append,List.append_nil,List.take_succ_cons,List.take_zero,List.drop_succ_cons,List.drop_zero,List.length_cons,List.length_nil,List.set_cons_zero,implies_true,Bool.false_eq_true,false_implies,and_self,Bool.true_and,Bool.and_self,Nat.zero_add,Nat.add_zero,ac,bx,bX,ax,ofD,ao,bG,aQ,bV,bz,aN,be,bi,bh,br,AV.toD,SV.toD,LV.toD,bE,aR,bg,iQ,AV.plain,SV.plain,LV.plain,List.all_cons,List.all_nil,Option.getD_some,iW,dX,cN,bY,dD,dM,cU,dv,dK,dq,dJ,cT,dm,dL,du,Qe,Qk,show (⟨#[95]⟩:ByteArray).size=1 from rfl,hs,hl,h5I,hF,iX]
def sysS:cK Tryz.prog 71 :=
 mk1 _ _ _ Tryz.func71 rfl (fun _ _=>by go_simp) (bg) ((fun s=>s.size≤1099511627776)) ((fun s=>.ret (iX (Lu 3 s)))) (by rw [Tryz.ntmps71];decide) (fun s hs=>XO s hs)
theorem Wn {id:Nat} {h:aF} {args:List AV}:(sysS).run id h args=be (aV (bg) ((fun s=>s.size≤1099511627776))) ((fun s=>.ret (iX (Lu 3 s)))) h args:=rfl
theorem Wh {id:Nat} {h:aF} {args:List AV}:(sysS).pan id h args=bi (aV (bg) ((fun s=>s.size≤1099511627776))) ((fun s=>.ret (iX (Lu 3 s)))) h args:=rfl
end Go.Proofs.YthcoegkfpinlfaaGreatDoor
