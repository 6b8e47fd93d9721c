import Derived.Test.YthcoegkfpinlfaaGreatDoorO14
set_option linter.unusedVariables false
set_option linter.unusedSimpArgs false
set_option maxRecDepth 100000
set_option maxHeartbeats 8000000
namespace Go.Proofs.YthcoegkfpinlfaaGreatDoor
open Go.RowKit
theorem Vp (s:ByteArray) (most:Int):SW Tryz.prog ⟨none,0⟩ Tryz.f131.ntmps (Tryz.f131.body.getD .skip) ⟨0,aN 0 [bg.enc s,(aR .i64).enc most],[]⟩ (fa Tryz.prog Tryz.f131.results.toList (.ret (eZ 2 s most))):=by
 refine aC (ctx:=[]) 4000 ?_
 rw [Tryz.ntmps131,Tryz.results131]
 simp only [Tryz.f131,Option.getD_some,aN]
 by_cases h1:s=emp
 ·simp only [Int.le_refl,bD,bH,Int.cast_ofNat_Int,aE,aP,aw,au,aH,ai,ak,an,ae,ah,aa,aB,aA,ap,ay,aK,aJ,ab,ar,aj,aO,aI,bW,bI,bt,bn,bA,Int.reduceBEq,Int.reduceLT,ag,aq,aD,aOp,evT,aW,putT,aG,gAt,bL,bC,eA,cp,ct,az,List.getElem?_cons_zero,List.getElem?_cons_succ,Option.map_some,reduceIte,reduceCtorEq,Nat.reduceEqDiff,Nat.reduceAdd,Nat.reduceLT,decide_true,decide_false,true_and,forall_const,not_false_eq_true,List.append_nil,List.length_nil,true_or,or_true,or_false,implies_true,false_implies,and_self,Bool.true_and,Bool.and_self,Nat.zero_add,ac,bx,ofD,ao,bG,aQ,bV,bz,aN,br,AV.toD,SV.toD,LV.toD,aR,bg,Int.natCast_nonneg,gt_iff_lt,Option.getD_some,PO.ret.injEq,dG,ff,cQ,h1,aS,eZ,dg]
 ·have hne:¬s=emp:=h1
  by_cases h2:2<s.size
  ·have h2':(2:Int)<s.size:=by omega
   simp only [Int.le_refl,bD,bH,Int.cast_ofNat_Int,aE,aP,aw,au,aH,ai,ak,an,ae,ah,aa,aB,aA,ap,ay,aK,aJ,ab,ar,aj,aO,aI,bW,bI,bt,bn,bA,Int.reduceBEq,Int.reduceLT,ag,aq,aD,aOp,evT,aW,putT,aG,gAt,bL,bC,eA,cp,ct,az,List.getElem?_cons_zero,List.getElem?_cons_succ,Option.map_some,reduceIte,reduceCtorEq,Nat.reduceEqDiff,Nat.reduceAdd,Nat.reduceLT,decide_true,decide_false,true_and,forall_const,not_false_eq_true,List.append_nil,List.length_nil,true_or,or_true,or_false,implies_true,false_implies,and_self,Bool.true_and,Bool.and_self,Nat.zero_add,ac,bx,ofD,ao,bG,aQ,bV,bz,aN,br,AV.toD,SV.toD,LV.toD,aR,bg,Int.natCast_nonneg,gt_iff_lt,Option.getD_some,PO.ret.injEq,dG,ff,cQ,hne,aS,h2',h2,eZ,dg]
  ·have h2':¬(2:Int)<s.size:=by omega
   have hpos:0<s.size:=C7 h1
   have hp':(0:Int)<s.size:=by omega
   by_cases h4:1<s.size∧bj s 0=48
   ·have h3':(s.size:Int)=2:=by omega
    have h5:s.size=2:=by omega
    simp only [Int.le_refl,bD,bH,Int.cast_ofNat_Int,aE,aP,aw,au,aH,ai,ak,an,ae,ah,aa,aB,aA,ap,ay,aK,aJ,ab,ar,aj,aO,aI,bW,bI,bt,bn,bA,Int.reduceBEq,Int.reduceLT,ag,aq,aD,aOp,evT,aW,putT,aG,gAt,bL,bC,eA,cp,ct,az,List.getElem?_cons_zero,List.getElem?_cons_succ,Option.map_some,reduceIte,reduceCtorEq,Nat.reduceEqDiff,Nat.reduceAdd,Nat.reduceLT,decide_true,decide_false,true_and,forall_const,not_false_eq_true,List.append_nil,List.length_nil,true_or,or_true,or_false,implies_true,false_implies,and_self,Bool.true_and,Bool.and_self,Nat.zero_add,ac,bx,ofD,ao,bG,aQ,bV,bz,aN,br,AV.toD,SV.toD,LV.toD,aR,bg,Int.natCast_nonneg,gt_iff_lt,Option.getD_some,PO.ret.injEq,dG,ff,cQ,hne,aS,h2,h2',h3',h5,h4.2,hp',eZ,dg]
   ·have h3:=h4
    by_cases h5:(s.size:Int)=2
    ·have h6:¬bj s 0=48:=fun h=>h4 ⟨by omega,h⟩
     simp only [Int.le_refl,bD,bH,Int.cast_ofNat_Int,aE,aP,aw,au,aH,ai,ak,an,ae,ah,aa,aB,aA,ap,ay,aK,aJ,ab,ar,aj,aO,aI,bW,bI,bt,bn,bA,Int.reduceBEq,Int.reduceLT,ag,aq,aD,aOp,evT,aW,putT,aG,gAt,bL,bC,eA,cp,ct,az,List.getElem?_cons_zero,List.getElem?_cons_succ,Option.map_some,reduceIte,reduceCtorEq,Nat.reduceEqDiff,Nat.reduceAdd,Nat.reduceLT,decide_true,decide_false,true_and,forall_const,not_false_eq_true,List.append_nil,List.length_nil,true_or,or_true,or_false,implies_true,false_implies,and_self,Bool.true_and,Bool.and_self,Nat.zero_add,ac,bx,ofD,ao,bG,aQ,bV,bz,aN,br,AV.toD,SV.toD,LV.toD,aR,bg,Int.natCast_nonneg,gt_iff_lt,Option.getD_some,PO.ret.injEq,dG,ff,cQ,hne,aS,h2',h5,h6,hp']
     clear h6 h5
     refine fj (ι:=Nat×Int) (fun p=>p.1≤s.size∧CB s p.1=some p.2) (fun p=>⟨0,[(0,sv s),(1,iv most),(7,iv p.1),(6,iv p.2)],[]⟩) (fun p=>s.size-p.1) (0,0) ⟨Nat.zero_le _,rfl⟩ (Wk.renL [] (by simp) (by simp) (by simp) rfl rfl) ?_
     rintro ⟨i,n⟩ ⟨hi,hn⟩
     refine aC (ctx:=[]) 4000 ?_
     simp only at hi hn
     by_cases hlt:i<s.size
     ·have hltI:(i:Int)<s.size:=by omega
      have hb:=N9 hn (k:=1) (by omega)
      have hr:=BC s i
      by_cases ha:bj s i<48
      ·have hd:=C8 (lim:=2) (most:=most) hlt hn (.inl ha)
       simp only [Int.le_refl,bD,bH,Int.cast_ofNat_Int,aE,aP,aw,au,aH,ai,ak,an,ae,ah,aa,aB,aA,ap,ay,aK,aJ,ab,ar,aj,aO,aI,bW,bI,bt,bn,bA,Int.reduceBEq,Int.reduceLT,ag,aq,aD,aOp,evT,aW,putT,aG,gAt,bL,bC,eA,cp,ct,az,List.getElem?_cons_zero,List.getElem?_cons_succ,Option.map_some,reduceIte,reduceCtorEq,Nat.reduceEqDiff,Nat.reduceAdd,Nat.reduceLT,decide_true,decide_false,true_and,forall_const,not_false_eq_true,List.append_nil,List.length_nil,true_or,or_true,or_false,implies_true,false_implies,and_self,Bool.true_and,Bool.and_self,Nat.zero_add,ac,bx,ofD,ao,bG,aQ,bV,bz,aN,br,AV.toD,SV.toD,LV.toD,aR,bg,Int.natCast_nonneg,gt_iff_lt,Option.getD_some,PO.ret.injEq,dG,ff,cQ,hltI,ha,eZ,hd]
      ·by_cases hc:57<bj s i
       ·have hd:=C8 (lim:=2) (most:=most) hlt hn (.inr hc)
        simp only [Int.le_refl,bD,bH,Int.cast_ofNat_Int,aE,aP,aw,au,aH,ai,ak,an,ae,ah,aa,aB,aA,ap,ay,aK,aJ,ab,ar,aj,aO,aI,bW,bI,bt,bn,bA,Int.reduceBEq,Int.reduceLT,ag,aq,aD,aOp,evT,aW,putT,aG,gAt,bL,bC,eA,cp,ct,az,List.getElem?_cons_zero,List.getElem?_cons_succ,Option.map_some,reduceIte,reduceCtorEq,Nat.reduceEqDiff,Nat.reduceAdd,Nat.reduceLT,decide_true,decide_false,true_and,forall_const,not_false_eq_true,List.append_nil,List.length_nil,true_or,or_true,or_false,implies_true,false_implies,and_self,Bool.true_and,Bool.and_self,Nat.zero_add,ac,bx,ofD,ao,bG,aQ,bV,bz,aN,br,AV.toD,SV.toD,LV.toD,aR,bg,Int.natCast_nonneg,gt_iff_lt,Option.getD_some,PO.ret.injEq,dG,ff,cQ,hltI,ha,hc,eZ,hd]
       ·have hn':CB s (i+1)=some (10*n+(bj s i-48)):=by rw [CB,hn];simp [ha,hc]
        have e1:IntKind.u8.wrap (bj s i-48)=bj s i-48:=by rw [IntKind.wrap_u8];omega
        have e2:IntKind.i64.wrap (10*n)=10*n:=by rw [IntKind.wrap_i64];omega
        have e3:IntKind.i64.wrap (10*n+(bj s i-48))=10*n+(bj s i-48):=by rw [IntKind.wrap_i64];omega
        have e4:IntKind.i64.wrap ((i:Int)+1)=((i+1:Nat):Int):=by rw [IntKind.wrap_i64];omega
        have e5:IntKind.i64.wrap (bj s i-48)=bj s i-48:=by rw [IntKind.wrap_i64];omega
        simp only [Int.le_refl,bD,bH,Int.cast_ofNat_Int,aE,aP,aw,au,aH,ai,ak,an,ae,ah,aa,aB,aA,ap,ay,aK,aJ,ab,ar,aj,aO,aI,bW,bI,bt,bn,bA,Int.reduceBEq,Int.reduceLT,ag,aq,aD,aOp,evT,aW,putT,aG,gAt,bL,bC,eA,cp,ct,az,List.getElem?_cons_zero,List.getElem?_cons_succ,Option.map_some,reduceIte,reduceCtorEq,Nat.reduceEqDiff,Nat.reduceAdd,Nat.reduceLT,decide_true,decide_false,true_and,forall_const,not_false_eq_true,List.append_nil,List.length_nil,true_or,or_true,or_false,implies_true,false_implies,and_self,Bool.true_and,Bool.and_self,Nat.zero_add,ac,bx,ofD,ao,bG,aQ,bV,bz,aN,br,AV.toD,SV.toD,LV.toD,aR,bg,Int.natCast_nonneg,gt_iff_lt,Option.getD_some,PO.ret.injEq,dG,ff,cQ,hltI,ha,hc,e1,e2,e3,e4,e5]
        exact ⟨(i+1,_),⟨hlt,hn'⟩,by omega,Wk.renL [] (by simp) (by simp) (by simp) rfl rfl⟩
     ·obtain rfl:i=s.size:=by omega
      have hI:¬(s.size:Int)<s.size:=by omega
      simp only [Int.le_refl,bD,bH,Int.cast_ofNat_Int,aE,aP,aw,au,aH,ai,ak,an,ae,ah,aa,aB,aA,ap,ay,aK,aJ,ab,ar,aj,aO,aI,bW,bI,bt,bn,bA,Int.reduceBEq,Int.reduceLT,ag,aq,aD,aOp,evT,aW,putT,aG,gAt,bL,bC,eA,cp,ct,az,List.getElem?_cons_zero,List.getElem?_cons_succ,Option.map_some,reduceIte,reduceCtorEq,Nat.reduceEqDiff,Nat.reduceAdd,Nat.reduceLT,decide_true,decide_false,true_and,forall_const,not_false_eq_true,List.append_nil,List.length_nil,true_or,or_true,or_false,implies_true,false_implies,and_self,Bool.true_and,Bool.and_self,Nat.zero_add,ac,bx,ofD,ao,bG,aQ,bV,bz,aN,br,AV.toD,SV.toD,LV.toD,aR,bg,Int.natCast_nonneg,gt_iff_lt,Option.getD_some,PO.ret.injEq,dG,ff,cQ,hI,eZ,dg,hne,h2,h3,hn]
    ·simp only [Int.le_refl,bD,bH,Int.cast_ofNat_Int,aE,aP,aw,au,aH,ai,ak,an,ae,ah,aa,aB,aA,ap,ay,aK,aJ,ab,ar,aj,aO,aI,bW,bI,bt,bn,bA,Int.reduceBEq,Int.reduceLT,ag,aq,aD,aOp,evT,aW,putT,aG,gAt,bL,bC,eA,cp,ct,az,List.getElem?_cons_zero,List.getElem?_cons_succ,Option.map_some,reduceIte,reduceCtorEq,Nat.reduceEqDiff,Nat.reduceAdd,Nat.reduceLT,decide_true,decide_false,true_and,forall_const,not_false_eq_true,List.append_nil,List.length_nil,true_or,or_true,or_false,implies_true,false_implies,and_self,Bool.true_and,Bool.and_self,Nat.zero_add,ac,bx,ofD,ao,bG,aQ,bV,bz,aN,br,AV.toD,SV.toD,LV.toD,aR,bg,Int.natCast_nonneg,gt_iff_lt,Option.getD_some,PO.ret.injEq,dG,ff,cQ,hne,aS,h2',h5,hp']
     refine fj (ι:=Nat×Int) (fun p=>p.1≤s.size∧CB s p.1=some p.2) (fun p=>⟨0,[(0,sv s),(1,iv most),(7,iv p.1),(6,iv p.2)],[]⟩) (fun p=>s.size-p.1) (0,0) ⟨Nat.zero_le _,rfl⟩ (Wk.renL [] (by simp) (by simp) (by simp) rfl rfl) ?_
     rintro ⟨i,n⟩ ⟨hi,hn⟩
     refine aC (ctx:=[]) 4000 ?_
     simp only at hi hn
     by_cases hlt:i<s.size
     ·have hltI:(i:Int)<s.size:=by omega
      have hb:=N9 hn (k:=1) (by omega)
      have hr:=BC s i
      by_cases ha:bj s i<48
      ·have hd:=C8 (lim:=2) (most:=most) hlt hn (.inl ha)
       simp only [Int.le_refl,bD,bH,Int.cast_ofNat_Int,aE,aP,aw,au,aH,ai,ak,an,ae,ah,aa,aB,aA,ap,ay,aK,aJ,ab,ar,aj,aO,aI,bW,bI,bt,bn,bA,Int.reduceBEq,Int.reduceLT,ag,aq,aD,aOp,evT,aW,putT,aG,gAt,bL,bC,eA,cp,ct,az,List.getElem?_cons_zero,List.getElem?_cons_succ,Option.map_some,reduceIte,reduceCtorEq,Nat.reduceEqDiff,Nat.reduceAdd,Nat.reduceLT,decide_true,decide_false,true_and,forall_const,not_false_eq_true,List.append_nil,List.length_nil,true_or,or_true,or_false,implies_true,false_implies,and_self,Bool.true_and,Bool.and_self,Nat.zero_add,ac,bx,ofD,ao,bG,aQ,bV,bz,aN,br,AV.toD,SV.toD,LV.toD,aR,bg,Int.natCast_nonneg,gt_iff_lt,Option.getD_some,PO.ret.injEq,dG,ff,cQ,hltI,ha,eZ,hd]
      ·by_cases hc:57<bj s i
       ·have hd:=C8 (lim:=2) (most:=most) hlt hn (.inr hc)
        simp only [Int.le_refl,bD,bH,Int.cast_ofNat_Int,aE,aP,aw,au,aH,ai,ak,an,ae,ah,aa,aB,aA,ap,ay,aK,aJ,ab,ar,aj,aO,aI,bW,bI,bt,bn,bA,Int.reduceBEq,Int.reduceLT,ag,aq,aD,aOp,evT,aW,putT,aG,gAt,bL,bC,eA,cp,ct,az,List.getElem?_cons_zero,List.getElem?_cons_succ,Option.map_some,reduceIte,reduceCtorEq,Nat.reduceEqDiff,Nat.reduceAdd,Nat.reduceLT,decide_true,decide_false,true_and,forall_const,not_false_eq_true,List.append_nil,List.length_nil,true_or,or_true,or_false,implies_true,false_implies,and_self,Bool.true_and,Bool.and_self,Nat.zero_add,ac,bx,ofD,ao,bG,aQ,bV,bz,aN,br,AV.toD,SV.toD,LV.toD,aR,bg,Int.natCast_nonneg,gt_iff_lt,Option.getD_some,PO.ret.injEq,dG,ff,cQ,hltI,ha,hc,eZ,hd]
       ·have hn':CB s (i+1)=some (10*n+(bj s i-48)):=by rw [CB,hn];simp [ha,hc]
        have e1:IntKind.u8.wrap (bj s i-48)=bj s i-48:=by rw [IntKind.wrap_u8];omega
        have e2:IntKind.i64.wrap (10*n)=10*n:=by rw [IntKind.wrap_i64];omega
        have e3:IntKind.i64.wrap (10*n+(bj s i-48))=10*n+(bj s i-48):=by rw [IntKind.wrap_i64];omega
        have e4:IntKind.i64.wrap ((i:Int)+1)=((i+1:Nat):Int):=by rw [IntKind.wrap_i64];omega
        have e5:IntKind.i64.wrap (bj s i-48)=bj s i-48:=by rw [IntKind.wrap_i64];omega
        simp only [Int.le_refl,bD,bH,Int.cast_ofNat_Int,aE,aP,aw,au,aH,ai,ak,an,ae,ah,aa,aB,aA,ap,ay,aK,aJ,ab,ar,aj,aO,aI,bW,bI,bt,bn,bA,Int.reduceBEq,Int.reduceLT,ag,aq,aD,aOp,evT,aW,putT,aG,gAt,bL,bC,eA,cp,ct,az,List.getElem?_cons_zero,List.getElem?_cons_succ,Option.map_some,reduceIte,reduceCtorEq,Nat.reduceEqDiff,Nat.reduceAdd,Nat.reduceLT,decide_true,decide_false,true_and,forall_const,not_false_eq_true,List.append_nil,List.length_nil,true_or,or_true,or_false,implies_true,false_implies,and_self,Bool.true_and,Bool.and_self,Nat.zero_add,ac,bx,ofD,ao,bG,aQ,bV,bz,aN,br,AV.toD,SV.toD,LV.toD,aR,bg,Int.natCast_nonneg,gt_iff_lt,Option.getD_some,PO.ret.injEq,dG,ff,cQ,hltI,ha,hc,e1,e2,e3,e4,e5]
        exact ⟨(i+1,_),⟨hlt,hn'⟩,by omega,Wk.renL [] (by simp) (by simp) (by simp) rfl rfl⟩
     ·obtain rfl:i=s.size:=by omega
      have hI:¬(s.size:Int)<s.size:=by omega
      simp only [Int.le_refl,bD,bH,Int.cast_ofNat_Int,aE,aP,aw,au,aH,ai,ak,an,ae,ah,aa,aB,aA,ap,ay,aK,aJ,ab,ar,aj,aO,aI,bW,bI,bt,bn,bA,Int.reduceBEq,Int.reduceLT,ag,aq,aD,aOp,evT,aW,putT,aG,gAt,bL,bC,eA,cp,ct,az,List.getElem?_cons_zero,List.getElem?_cons_succ,Option.map_some,reduceIte,reduceCtorEq,Nat.reduceEqDiff,Nat.reduceAdd,Nat.reduceLT,decide_true,decide_false,true_and,forall_const,not_false_eq_true,List.append_nil,List.length_nil,true_or,or_true,or_false,implies_true,false_implies,and_self,Bool.true_and,Bool.and_self,Nat.zero_add,ac,bx,ofD,ao,bG,aQ,bV,bz,aN,br,AV.toD,SV.toD,LV.toD,aR,bg,Int.natCast_nonneg,gt_iff_lt,Option.getD_some,PO.ret.injEq,dG,ff,cQ,hI,eZ,dg,hne,h2,h3,hn]
def Ml:cK Tryz.prog 116 :=
 mk1C _ (fun _ _=>by go_simp) (aR .i64) (fun n=>0≤n∧n<1000) (fun n=>sv (eI n)) (fun _=>rfl) (fun n hn M w v _ hv=>by
  have hv':v=.int .i64 n:=hv
  subst hv'
  exact (aai n w hn).mono fun e w' h=>⟨⟨_,h.1,rfl⟩,h.2⟩)
theorem Jv {id:Nat} {h:aF} {args:List AV}:Ml.run id h args=be (aV (aR .i64) (fun n=>0≤n∧n<1000)) (fun n=>.ret (sv (eI n))) h args:=rfl
theorem Js {id:Nat} {h:aF} {args:List AV}:Ml.pan id h args=bi (aV (aR .i64) (fun n=>0≤n∧n<1000)) (fun n=>.ret (sv (eI n))) h args:=rfl
theorem QN (z:Int) (h:0≤z∧z<10):(⟨#[48,49,50,51,52,53,54,55,56,57]⟩:ByteArray).extract z.toNat (z+1).toNat=cF [48+z]:=by
 have:z=0∨z=1∨z=2∨z=3∨z=4∨z=5∨z=6∨z=7∨z=8∨z=9:=by omega
 rcases this with rfl | rfl | rfl | rfl | rfl | rfl | rfl | rfl | rfl | rfl<;>decide
def tens:ByteArray:=⟨#[48,49,50,51,52,53,54,55,56,57]⟩
theorem tens_size:tens.size=10:=rfl
theorem aat (n:Int) (h:0≤n∧n<100):SW Tryz.prog ⟨none,0⟩ Tryz.f91.ntmps (Tryz.f91.body.getD .skip) ⟨0,aN 0 [(aR .i64).enc n],[]⟩ (fa Tryz.prog Tryz.f91.results.toList (.ret (sv (eI n)))):=by
 obtain ⟨h0,h1⟩:=h
 refine aC (ctx:=[]) 4000 ?_
 rw [Tryz.ntmps91,Tryz.results91]
 simp only [Tryz.f91,Option.getD_some,aN]
 have d2:n.tdiv 10=n / 10:=Int.tdiv_eq_ediv_of_nonneg h0
 have d3:n.tmod 10=n % 10:=Int.tmod_eq_emod_of_nonneg h0
 by_cases h2:n<10
 ·have e1:IntKind.i64.wrap (n+1)=n+1:=by rw [IntKind.wrap_i64];omega
  simp only [bD,bH,aw,au,ai,ak,an,ah,aa,dA,bw,ab,ar,aj,eK,eQ,dI,eOk,dY,et,Region.binds,Hp,Nat.reduceOr,Nat.reducePow,Int.reduceEq,aOp,evT,aW,putT,aG,bC,bnd,az,List.getElem?_cons_zero,List.getElem?_cons_succ,Option.map_some,Option.map_none,reduceIte,reduceCtorEq,Nat.reduceEqDiff,Nat.reduceAdd,Nat.reduceLT,Nat.reduceLeDiff,Nat.reduceMul,decide_true,decide_false,true_and,and_true,not_false_eq_true,List.cons_append,List.nil_append,List.append_nil,ne_eq,List.length_cons,List.length_nil,and_self,Bool.and_true,Bool.true_and,Bool.and_self,Nat.zero_add,cM,ac,bx,ofD,ao,bG,aQ,bz,aN,AV.toD,SV.toD,LV.toD,aR,List.getD_eq_getElem?_getD,Option.getD_some,PO.ret.injEq,cQ,h2,e1,QN n ⟨h0,h2⟩,eI]
  rw [show (⟨#[48,49,50,51,52,53,54,55,56,57]⟩:ByteArray).size=10 from rfl]
  omega
 ·have e1:IntKind.i64.wrap (n / 10+1)=n / 10+1:=by rw [IntKind.wrap_i64];omega
  have e2:IntKind.i64.wrap (n % 10+1)=n % 10+1:=by rw [IntKind.wrap_i64];omega
  have e3:IntKind.i64.wrap (n / 10)=n / 10:=by rw [IntKind.wrap_i64];omega
  simp only [bD,bH,aw,au,ai,ak,an,ah,aa,dA,bw,ab,ar,aj,eK,eQ,dI,eOk,dY,et,Region.binds,Hp,Nat.reduceOr,Nat.reducePow,Int.reduceEq,aOp,evT,aW,putT,aG,bC,bnd,az,List.getElem?_cons_zero,List.getElem?_cons_succ,Option.map_some,Option.map_none,reduceIte,reduceCtorEq,Nat.reduceEqDiff,Nat.reduceAdd,Nat.reduceLT,Nat.reduceLeDiff,Nat.reduceMul,decide_true,decide_false,true_and,and_true,not_false_eq_true,List.cons_append,List.nil_append,List.append_nil,ne_eq,List.length_cons,List.length_nil,and_self,Bool.and_true,Bool.true_and,Bool.and_self,Nat.zero_add,cM,ac,bx,ofD,ao,bG,aQ,bz,aN,AV.toD,SV.toD,LV.toD,aR,List.getD_eq_getElem?_getD,Option.getD_some,PO.ret.injEq,cQ,h2]
  refine dc (ctx:=[]) mixed [] (by kernel_rfl) ?_
  simp only [bD,bH,aw,au,ai,ak,an,ah,aa,dA,bw,ab,ar,aj,eK,eQ,dI,eOk,dY,et,Region.binds,Hp,Nat.reduceOr,Nat.reducePow,Int.reduceEq,aOp,evT,aW,putT,aG,bC,bnd,az,List.getElem?_cons_zero,List.getElem?_cons_succ,Option.map_some,Option.map_none,reduceIte,reduceCtorEq,Nat.reduceEqDiff,Nat.reduceAdd,Nat.reduceLT,Nat.reduceLeDiff,Nat.reduceMul,decide_true,decide_false,true_and,and_true,not_false_eq_true,List.cons_append,List.nil_append,List.append_nil,ne_eq,List.length_cons,List.length_nil,and_self,Bool.and_true,Bool.true_and,Bool.and_self,Nat.zero_add,cM,ac,bx,ofD,ao,bG,aQ,bz,aN,AV.toD,SV.toD,LV.toD,aR,List.getD_eq_getElem?_getD,Option.getD_some,PO.ret.injEq,cQ,h2,d2,d3,e1,e2,e3,QN (n / 10) (by omega),QN (n % 10) (by omega),eI]
  rw [show (⟨#[48,49,50,51,52,53,54,55,56,57]⟩:ByteArray).size=10 from rfl,xi,xi,if_pos h1,Pk]
  exact ⟨by omega,by omega,by simp [maxLen],rfl⟩
def Px:cK Tryz.prog 91 :=
 mk1 _ _ _ Tryz.func91 rfl (fun _ _=>by go_simp) (aR .i64) ((fun n=>0≤n∧n<100)) ((fun n=>.ret (sv (eI n)))) (by rw [Tryz.ntmps91];decide) (fun n h=>aat n h)
theorem Qh {id:Nat} {h:aF} {args:List AV}:(Px).run id h args=be (aV (aR .i64) ((fun n=>0≤n∧n<100))) ((fun n=>.ret (sv (eI n)))) h args:=rfl
theorem QG {id:Nat} {h:aF} {args:List AV}:(Px).pan id h args=bi (aV (aR .i64) ((fun n=>0≤n∧n<100))) ((fun n=>.ret (sv (eI n)))) h args:=rfl
def YY:cK Tryz.prog 126 :=
 mk2 _ _ _ Tryz.func126 rfl (fun _ _=>by go_simp) (bg) (aR .i64) ((fun _ _=>True)) ((fun s m=>.ret (eZ 3 s m))) (by rw [Tryz.ntmps126];decide) (fun s m _=>Xq s m)
theorem eP {id:Nat} {h:aF} {args:List AV}:(YY).run id h args=be (bE (bg) (aR .i64) ((fun _ _=>True))) (fun x=>((fun s m=>.ret (eZ 3 s m))) x.1 x.2) h args:=rfl
theorem eO {id:Nat} {h:aF} {args:List AV}:(YY).pan id h args=bi (bE (bg) (aR .i64) ((fun _ _=>True))) (fun x=>((fun s m=>.ret (eZ 3 s m))) x.1 x.2) h args:=rfl
def RW:cK Tryz.prog 131 :=
 mk2 _ _ _ Tryz.func131 rfl (fun _ _=>by go_simp) (bg) (aR .i64) ((fun _ _=>True)) ((fun s m=>.ret (eZ 2 s m))) (by rw [Tryz.ntmps131];decide) (fun s m _=>Vp s m)
theorem r8 {id:Nat} {h:aF} {args:List AV}:(RW).run id h args=be (bE (bg) (aR .i64) ((fun _ _=>True))) (fun x=>((fun s m=>.ret (eZ 2 s m))) x.1 x.2) h args:=rfl
theorem so {id:Nat} {h:aF} {args:List AV}:(RW).pan id h args=bi (bE (bg) (aR .i64) ((fun _ _=>True))) (fun x=>((fun s m=>.ret (eZ 2 s m))) x.1 x.2) h args:=rfl
def Vy:cK Tryz.prog 55 :=
 mk2 _ _ _ Tryz.func55 rfl (fun _ _=>by go_simp) (bg) (bg) ((fun _ _=>True)) ((fun s p=>.ret (bv (sh s p)))) (by rw [Tryz.ntmps55];decide) (fun s p _=>by
 refine aC (ctx:=[]) 4000 ?_
 rw [Tryz.ntmps55,Tryz.results55]
 simp only [Tryz.f55,Option.getD_some,aN]
 by_cases h:p.size≤s.size
 ·have hI:(p.size:Int)≤s.size:=by omega
  by_cases h2:s.extract 0 p.size=p
  ·simp only [Int.le_refl,bD,bH,aw,au,aH,ak,an,aa,ab,aI,bI,aOp,evT,aW,putT,aG,gAt,bL,bC,bnd,ct,az,List.getElem?_cons_zero,List.getElem?_cons_succ,Option.map_some,Option.map_none,Int.toNat_natCast,reduceIte,reduceCtorEq,Nat.reduceEqDiff,Nat.reduceAdd,Nat.reduceLT,decide_true,decide_false,true_and,List.append_nil,and_self,Bool.true_and,Bool.and_self,Nat.zero_add,cM,ac,bx,ofD,ao,bG,aQ,bz,aN,AV.toD,SV.toD,LV.toD,bg,Int.natCast_nonneg,ge_iff_le,cQ,hI,Int.toNat_zero,h2,sh,h]
  ·simp only [Int.le_refl,bD,bH,aw,au,aH,ak,an,aa,ab,aI,bI,aOp,evT,aW,putT,aG,gAt,bL,bC,bnd,ct,az,List.getElem?_cons_zero,List.getElem?_cons_succ,Option.map_some,Option.map_none,Int.toNat_natCast,reduceIte,reduceCtorEq,Nat.reduceEqDiff,Nat.reduceAdd,Nat.reduceLT,decide_true,decide_false,true_and,List.append_nil,and_self,Bool.true_and,Bool.and_self,Nat.zero_add,cM,ac,bx,ofD,ao,bG,aQ,bz,aN,AV.toD,SV.toD,LV.toD,bg,Int.natCast_nonneg,ge_iff_le,cQ,hI,Int.toNat_zero,h2,sh,h]
 ·have hI:¬(p.size:Int)≤s.size:=by omega
  simp only [Int.le_refl,bD,bH,aw,au,aH,ak,an,aa,ab,aI,bI,aOp,evT,aW,putT,aG,gAt,bL,bC,bnd,ct,az,List.getElem?_cons_zero,List.getElem?_cons_succ,Option.map_some,Option.map_none,Int.toNat_natCast,reduceIte,reduceCtorEq,Nat.reduceEqDiff,Nat.reduceAdd,Nat.reduceLT,decide_true,decide_false,true_and,List.append_nil,and_self,Bool.true_and,Bool.and_self,Nat.zero_add,cM,ac,bx,ofD,ao,bG,aQ,bz,aN,AV.toD,SV.toD,LV.toD,bg,Int.natCast_nonneg,ge_iff_le,cQ,hI,sh,h,Bool.false_and])
theorem Oy {id:Nat} {h:aF} {args:List AV}:(Vy).run id h args=be (bE (bg) (bg) ((fun _ _=>True))) (fun x=>((fun s p=>.ret (bv (sh s p)))) x.1 x.2) h args:=rfl
theorem OB {id:Nat} {h:aF} {args:List AV}:(Vy).pan id h args=bi (bE (bg) (bg) ((fun _ _=>True))) (fun x=>((fun s p=>.ret (bv (sh s p)))) x.1 x.2) h args:=rfl
def su (s p:ByteArray):AV:=.tup [.l (.v (.string (uP s p).1)),.l (.v (.bool (uP s p).2))]
def Zn:cK Tryz.prog 147 :=
 mk2 _ _ _ Tryz.func147 rfl (fun _ _=>by go_simp) (bg) (bg) ((fun _ _=>True)) ((fun s p=>.ret (su s p))) (by rw [Tryz.ntmps147];decide) (fun s p _=>by
 refine aC (ctx:=[⟨_,Vy⟩]) 4000 ?_
 rw [Tryz.ntmps147,Tryz.results147]
 simp only [Tryz.f147,Option.getD_some,aN]
 have hle:sh s p=true→(p.size:Int)≤s.size:=fun h=>by have:=aaq h;omega
 cases h:sh s p with
 | true =>
  have:=hle h
  simp only [List.map_nil,Int.le_refl,bD,bH,aw,au,ai,ak,an,ah,aa,ab,ar,aj,aOp,evT,aW,putT,aG,aUn,bnd,ct,az,bO,List.map_cons,Option.map_some,Option.map_none,Int.toNat_natCast,reduceIte,reduceCtorEq,Nat.reduceEqDiff,Nat.reduceAdd,Nat.reduceLT,decide_true,true_and,and_true,Bool.not_true,Bool.not_false,List.nil_append,List.append_nil,Bool.false_eq_true,and_self,Bool.and_true,Bool.true_and,Bool.and_self,Nat.zero_add,cM,ac,bx,bX,ax,ofD,ao,bG,aQ,bV,bz,aN,be,bi,bh,br,AV.toD,SV.toD,LV.toD,bE,bg,AV.plain,SV.plain,LV.plain,Int.natCast_nonneg,ge_iff_le,cQ,Oy,OB,h,su,uP]
  omega
 | false=>simp only [List.map_nil,Int.le_refl,bD,bH,aw,au,ai,ak,an,ah,aa,ab,ar,aj,aOp,evT,aW,putT,aG,aUn,bnd,ct,az,bO,List.map_cons,Option.map_some,Option.map_none,Int.toNat_natCast,reduceIte,reduceCtorEq,Nat.reduceEqDiff,Nat.reduceAdd,Nat.reduceLT,decide_true,true_and,and_true,Bool.not_true,Bool.not_false,List.nil_append,List.append_nil,Bool.false_eq_true,and_self,Bool.and_true,Bool.true_and,Bool.and_self,Nat.zero_add,cM,ac,bx,bX,ax,ofD,ao,bG,aQ,bV,bz,aN,be,bi,bh,br,AV.toD,SV.toD,LV.toD,bE,bg,AV.plain,SV.plain,LV.plain,Int.natCast_nonneg,ge_iff_le,cQ,Oy,OB,h,su,uP])
theorem YL {id:Nat} {h:aF} {args:List AV}:(Zn).run id h args=be (bE (bg) (bg) ((fun _ _=>True))) (fun x=>((fun s p=>.ret (su s p))) x.1 x.2) h args:=rfl
theorem aau {id:Nat} {h:aF} {args:List AV}:(Zn).pan id h args=bi (bE (bg) (bg) ((fun _ _=>True))) (fun x=>((fun s p=>.ret (su s p))) x.1 x.2) h args:=rfl
def Zg:cK Tryz.prog 125 :=
 mk2 _ _ _ Tryz.func125 rfl (fun _ _=>by go_simp) (bg) (bg) ((fun _ _=>True)) ((fun s p=>.ret (su s p))) (by rw [Tryz.ntmps125];decide) (fun s p _=>by
 refine aC (ctx:=[⟨_,Zn⟩]) 4000 ?_
 rw [Tryz.ntmps125,Tryz.results125]
 simp only [Tryz.f125,Option.getD_some,aN]
 simp only [List.map_nil,bD,bH,aw,au,ak,an,aa,ab,aOp,evT,aW,putT,aG,bO,List.getElem?_cons_zero,List.getElem?_cons_succ,List.map_cons,Option.map_some,reduceIte,reduceCtorEq,Nat.reduceEqDiff,Nat.reduceAdd,Nat.reduceLT,decide_true,List.nil_append,List.append_nil,and_self,Bool.and_self,Nat.zero_add,ac,bx,bX,ax,ofD,ao,bG,aQ,bV,bz,aN,be,bi,bh,br,AV.toD,SV.toD,LV.toD,bE,bg,AV.plain,SV.plain,LV.plain,List.all_cons,List.all_nil,YL,aau,su])
theorem eN {id:Nat} {h:aF} {args:List AV}:(Zg).run id h args=be (bE (bg) (bg) ((fun _ _=>True))) (fun x=>((fun s p=>.ret (su s p))) x.1 x.2) h args:=rfl
theorem eJ {id:Nat} {h:aF} {args:List AV}:(Zg).pan id h args=bi (bE (bg) (bg) ((fun _ _=>True))) (fun x=>((fun s p=>.ret (su s p))) x.1 x.2) h args:=rfl
def fh:KA CF where
 dec:=fun | [.v (.int .i64 n),.v (.bool x),.v (.bool p)]=>some ⟨n,x,p⟩ | _=>none
 enc:=fun r=>[.v (.int .i64 r.n),.v (.bool r.x),.v (.bool r.sp)]
 inv:=by
  intro c x h
  split at h
  ·injection h with h;subst h;rfl
  ·cases h
 back:=by intro x;rfl
def sV (r:CF×Int):AV:=.tup [.agg [.v (.int .i64 r.1.n),.v (.bool r.1.x),.v (.bool r.1.sp)],.l (.v (.int .i64 r.2))]
def cZ (r:ByteArray×Int):AV:=.tup [.l (.v (.string r.1)),.l (.v (.int .i64 r.2))]
theorem reg_sw (s:ByteArray):SW Tryz.prog ⟨none,0⟩ Tryz.f68.ntmps (Tryz.f68.body.getD .skip) ⟨0,aN 0 [bg.enc s],[]⟩ (fa Tryz.prog Tryz.f68.results.toList (.ret (sV (i9 3 s)))):=by
 refine aC (ctx:=[⟨_,Zg⟩,⟨_,YY⟩]) 4000 ?_
 rw [Tryz.ntmps68,Tryz.results68]
 simp only [Tryz.f68,Option.getD_some,aN]
 by_cases h1:s=⟨#[120,122,114]⟩
 ·have e:i9 3 s=(⟨31,true,false⟩,0):=by rw [h1];rfl
  simp only [List.map_nil,Nat.le_refl,bD,bH,aP,aw,au,ai,ak,an,ae,ah,aa,ab,ar,aj,aOp,evT,aW,putT,aG,hget,bC,aUn,bm,bB,cI,az,cellsOf,LV.one,Value.oneCell',bZ,aU,bQ,bO,List.getElem?_cons_zero,List.getElem?_cons_succ,List.map_cons,Option.map_some,reduceIte,reduceCtorEq,Nat.reduceEqDiff,Nat.reduceAdd,Nat.reduceLT,Nat.reduceLeDiff,decide_true,decide_false,Bool.not_true,Bool.not_false,List.cons_append,List.nil_append,List.append_nil,decide_eq_true_eq,List.take_succ_cons,List.take_zero,List.drop_succ_cons,List.drop_zero,List.length_cons,List.length_nil,List.set_cons_zero,and_self,Bool.and_self,Nat.zero_add,ac,bx,bX,ax,ofD,cf,ao,bG,aQ,bV,bz,aN,be,bi,bh,br,AV.toD,SV.toD,LV.toD,bE,aR,bg,AV.plain,SV.plain,LV.plain,List.all_cons,List.all_nil,Option.getD_some,cX,cr,bK,eg,e,eq_true h1,sV]
 by_cases h2:s=⟨#[119,122,114]⟩
 ·have e:i9 3 s=(⟨31,false,false⟩,0):=by rw [h2];rfl
  simp only [List.map_nil,Nat.le_refl,bD,bH,aP,aw,au,ai,ak,an,ae,ah,aa,ab,ar,aj,aOp,evT,aW,putT,aG,hget,bC,aUn,bm,bB,cI,az,cellsOf,LV.one,Value.oneCell',bZ,aU,bQ,bO,List.getElem?_cons_zero,List.getElem?_cons_succ,List.map_cons,Option.map_some,reduceIte,reduceCtorEq,Nat.reduceEqDiff,Nat.reduceAdd,Nat.reduceLT,Nat.reduceLeDiff,decide_true,decide_false,Bool.not_true,Bool.not_false,List.cons_append,List.nil_append,List.append_nil,decide_eq_true_eq,List.take_succ_cons,List.take_zero,List.drop_succ_cons,List.drop_zero,List.length_cons,List.length_nil,List.set_cons_zero,and_self,Bool.and_self,Nat.zero_add,ac,bx,bX,ax,ofD,cf,ao,bG,aQ,bV,bz,aN,be,bi,bh,br,AV.toD,SV.toD,LV.toD,bE,aR,bg,AV.plain,SV.plain,LV.plain,List.all_cons,List.all_nil,Option.getD_some,cX,cr,bK,eg,e,h1,eq_true h2,sV]
 by_cases h3:s=⟨#[115,112]⟩
 ·have e:i9 3 s=(⟨31,true,true⟩,0):=by rw [h3];rfl
  simp only [List.map_nil,Nat.le_refl,bD,bH,aP,aw,au,ai,ak,an,ae,ah,aa,ab,ar,aj,aOp,evT,aW,putT,aG,hget,bC,aUn,bm,bB,cI,az,cellsOf,LV.one,Value.oneCell',bZ,aU,bQ,bO,List.getElem?_cons_zero,List.getElem?_cons_succ,List.map_cons,Option.map_some,reduceIte,reduceCtorEq,Nat.reduceEqDiff,Nat.reduceAdd,Nat.reduceLT,Nat.reduceLeDiff,decide_true,decide_false,Bool.not_true,Bool.not_false,List.cons_append,List.nil_append,List.append_nil,decide_eq_true_eq,List.take_succ_cons,List.take_zero,List.drop_succ_cons,List.drop_zero,List.length_cons,List.length_nil,List.set_cons_zero,and_self,Bool.and_self,Nat.zero_add,ac,bx,bX,ax,ofD,cf,ao,bG,aQ,bV,bz,aN,be,bi,bh,br,AV.toD,SV.toD,LV.toD,bE,aR,bg,AV.plain,SV.plain,LV.plain,List.all_cons,List.all_nil,Option.getD_some,cX,cr,bK,eg,e,h1,h2,eq_true h3,sV]
 by_cases h4:s=⟨#[119,115,112]⟩
 ·have e:i9 3 s=(⟨31,false,true⟩,0):=by rw [h4];rfl
  simp only [List.map_nil,Nat.le_refl,bD,bH,aP,aw,au,ai,ak,an,ae,ah,aa,ab,ar,aj,aOp,evT,aW,putT,aG,hget,bC,aUn,bm,bB,cI,az,cellsOf,LV.one,Value.oneCell',bZ,aU,bQ,bO,List.getElem?_cons_zero,List.getElem?_cons_succ,List.map_cons,Option.map_some,reduceIte,reduceCtorEq,Nat.reduceEqDiff,Nat.reduceAdd,Nat.reduceLT,Nat.reduceLeDiff,decide_true,decide_false,Bool.not_true,Bool.not_false,List.cons_append,List.nil_append,List.append_nil,decide_eq_true_eq,List.take_succ_cons,List.take_zero,List.drop_succ_cons,List.drop_zero,List.length_cons,List.length_nil,List.set_cons_zero,and_self,Bool.and_self,Nat.zero_add,ac,bx,bX,ax,ofD,cf,ao,bG,aQ,bV,bz,aN,be,bi,bh,br,AV.toD,SV.toD,LV.toD,bE,aR,bg,AV.plain,SV.plain,LV.plain,List.all_cons,List.all_nil,Option.getD_some,cX,cr,bK,eg,e,h1,h2,h3,eq_true h4,sV]
 have hx:uP s ⟨#[120]⟩=if 0<s.size∧bj s 0=120 then (s.extract 1 s.size,true) else (s,false):=by
  unfold uP
  rw [show (⟨#[120]⟩:ByteArray)=cF [120] from rfl,Zw s 120 (by omega)]
  simp only [decide_eq_true_eq]
  rfl
 have hw:uP s ⟨#[119]⟩=if 0<s.size∧bj s 0=119 then (s.extract 1 s.size,true) else (s,false):=by
  unfold uP
  rw [show (⟨#[119]⟩:ByteArray)=cF [119] from rfl,Zw s 119 (by omega)]
  simp only [decide_eq_true_eq]
  rfl
 have e0:i9 3 s=if s.size=0∨¬(bj s 0=120∨bj s 0=119) then (⟨0,false,false⟩,30) else
   Nn s (dg 3 (s.extract 1 s.size) 30):=by
  unfold i9
  rw [if_neg (show ¬s=xzrS from h1),if_neg (show ¬s=wzrS from h2),if_neg (show ¬s=spS from h3),if_neg (show ¬s=wspS from h4)]
 by_cases hxx:0<s.size∧bj s 0=120
 ·rw [if_pos hxx] at hx
  rw [if_neg (by omega)] at e0
  rcases hd:dg 3 (s.extract 1 s.size) 30 with ⟨n,_ | _⟩
  ·rw [hd,Nn] at e0
   simp only [List.map_nil,Nat.le_refl,bD,bH,aP,aw,au,ai,ak,an,ae,ah,aa,ab,ar,aj,aOp,evT,aW,putT,aG,hget,bC,aUn,bm,bB,cI,az,cellsOf,LV.one,Value.oneCell',bZ,aU,bQ,bO,List.getElem?_cons_zero,List.getElem?_cons_succ,List.map_cons,Option.map_some,reduceIte,reduceCtorEq,Nat.reduceEqDiff,Nat.reduceAdd,Nat.reduceLT,Nat.reduceLeDiff,decide_true,decide_false,Bool.not_true,Bool.not_false,List.cons_append,List.nil_append,List.append_nil,decide_eq_true_eq,List.take_succ_cons,List.take_zero,List.drop_succ_cons,List.drop_zero,List.length_cons,List.length_nil,List.set_cons_zero,and_self,Bool.and_self,Nat.zero_add,ac,bx,bX,ax,ofD,cf,ao,bG,aQ,bV,bz,aN,be,bi,bh,br,AV.toD,SV.toD,LV.toD,bE,aR,bg,AV.plain,SV.plain,LV.plain,List.all_cons,List.all_nil,Option.getD_some,cX,cr,bK,eg,h1,h2,h3,h4,eN,eJ,eP,eO,su,eZ,hx,hd,e0,sV]
  ·rw [hd,Nn] at e0
   simp only [List.map_nil,Nat.le_refl,bD,bH,aP,aw,au,ai,ak,an,ae,ah,aa,ab,ar,aj,aOp,evT,aW,putT,aG,hget,bC,aUn,bm,bB,cI,az,cellsOf,LV.one,Value.oneCell',bZ,aU,bQ,bO,List.getElem?_cons_zero,List.getElem?_cons_succ,List.map_cons,Option.map_some,reduceIte,reduceCtorEq,Nat.reduceEqDiff,Nat.reduceAdd,Nat.reduceLT,Nat.reduceLeDiff,decide_true,decide_false,Bool.not_true,Bool.not_false,List.cons_append,List.nil_append,List.append_nil,decide_eq_true_eq,List.take_succ_cons,List.take_zero,List.drop_succ_cons,List.drop_zero,List.length_cons,List.length_nil,List.set_cons_zero,and_self,Bool.and_self,Nat.zero_add,ac,bx,bX,ax,ofD,cf,ao,bG,aQ,bV,bz,aN,be,bi,bh,br,AV.toD,SV.toD,LV.toD,bE,aR,bg,AV.plain,SV.plain,LV.plain,List.all_cons,List.all_nil,Option.getD_some,cX,cr,bK,eg,h1,h2,h3,h4,eN,eJ,eP,eO,su,eZ,hx,hd,e0,sV,hxx.2]
 ·rw [if_neg hxx] at hx
  by_cases hww:0<s.size∧bj s 0=119
  ·rw [if_pos hww] at hw
   rw [if_neg (by omega)] at e0
   have hn:¬bj s 0=120:=by omega
   rcases hd:dg 3 (s.extract 1 s.size) 30 with ⟨n,_ | _⟩
   ·rw [hd,Nn] at e0
    simp only [List.map_nil,Nat.le_refl,bD,bH,aP,aw,au,ai,ak,an,ae,ah,aa,ab,ar,aj,aOp,evT,aW,putT,aG,hget,bC,aUn,bm,bB,cI,az,cellsOf,LV.one,Value.oneCell',bZ,aU,bQ,bO,List.getElem?_cons_zero,List.getElem?_cons_succ,List.map_cons,Option.map_some,reduceIte,reduceCtorEq,Nat.reduceEqDiff,Nat.reduceAdd,Nat.reduceLT,Nat.reduceLeDiff,decide_true,decide_false,Bool.not_true,Bool.not_false,List.cons_append,List.nil_append,List.append_nil,decide_eq_true_eq,List.take_succ_cons,List.take_zero,List.drop_succ_cons,List.drop_zero,List.length_cons,List.length_nil,List.set_cons_zero,and_self,Bool.and_self,Nat.zero_add,ac,bx,bX,ax,ofD,cf,ao,bG,aQ,bV,bz,aN,be,bi,bh,br,AV.toD,SV.toD,LV.toD,bE,aR,bg,AV.plain,SV.plain,LV.plain,List.all_cons,List.all_nil,Option.getD_some,cX,cr,bK,eg,h1,h2,h3,h4,eN,eJ,eP,eO,su,eZ,hx,hw,hd,e0,sV]
   ·rw [hd,Nn] at e0
    simp only [List.map_nil,Nat.le_refl,bD,bH,aP,aw,au,ai,ak,an,ae,ah,aa,ab,ar,aj,aOp,evT,aW,putT,aG,hget,bC,aUn,bm,bB,cI,az,cellsOf,LV.one,Value.oneCell',bZ,aU,bQ,bO,List.getElem?_cons_zero,List.getElem?_cons_succ,List.map_cons,Option.map_some,reduceIte,reduceCtorEq,Nat.reduceEqDiff,Nat.reduceAdd,Nat.reduceLT,Nat.reduceLeDiff,decide_true,decide_false,Bool.not_true,Bool.not_false,List.cons_append,List.nil_append,List.append_nil,decide_eq_true_eq,List.take_succ_cons,List.take_zero,List.drop_succ_cons,List.drop_zero,List.length_cons,List.length_nil,List.set_cons_zero,and_self,Bool.and_self,Nat.zero_add,ac,bx,bX,ax,ofD,cf,ao,bG,aQ,bV,bz,aN,be,bi,bh,br,AV.toD,SV.toD,LV.toD,bE,aR,bg,AV.plain,SV.plain,LV.plain,List.all_cons,List.all_nil,Option.getD_some,cX,cr,bK,eg,h1,h2,h3,h4,eN,eJ,eP,eO,su,eZ,hx,hw,hd,e0,sV,hn]
  ·rw [if_neg hww] at hw
   rw [if_pos (by omega)] at e0
   simp only [List.map_nil,Nat.le_refl,bD,bH,aP,aw,au,ai,ak,an,ae,ah,aa,ab,ar,aj,aOp,evT,aW,putT,aG,hget,bC,aUn,bm,bB,cI,az,cellsOf,LV.one,Value.oneCell',bZ,aU,bQ,bO,List.getElem?_cons_zero,List.getElem?_cons_succ,List.map_cons,Option.map_some,reduceIte,reduceCtorEq,Nat.reduceEqDiff,Nat.reduceAdd,Nat.reduceLT,Nat.reduceLeDiff,decide_true,decide_false,Bool.not_true,Bool.not_false,List.cons_append,List.nil_append,List.append_nil,decide_eq_true_eq,List.take_succ_cons,List.take_zero,List.drop_succ_cons,List.drop_zero,List.length_cons,List.length_nil,List.set_cons_zero,and_self,Bool.and_self,Nat.zero_add,ac,bx,bX,ax,ofD,cf,ao,bG,aQ,bV,bz,aN,be,bi,bh,br,AV.toD,SV.toD,LV.toD,bE,aR,bg,AV.plain,SV.plain,LV.plain,List.all_cons,List.all_nil,Option.getD_some,cX,cr,bK,eg,h1,h2,h3,h4,eN,eJ,eP,eO,su,eZ,hx,hw,e0,sV]
theorem reg2_sw (s:ByteArray):SW Tryz.prog ⟨none,0⟩ Tryz.f92.ntmps (Tryz.f92.body.getD .skip) ⟨0,aN 0 [bg.enc s],[]⟩ (fa Tryz.prog Tryz.f92.results.toList (.ret (sV (i9 2 s)))):=by
 refine aC (ctx:=[⟨_,RW⟩]) 4000 ?_
 rw [Tryz.ntmps92,Tryz.results92]
 simp only [Tryz.f92,Option.getD_some,aN]
 by_cases h1:s=⟨#[120,122,114]⟩
 ·have e:i9 2 s=(⟨31,true,false⟩,0):=by rw [h1];rfl
  simp only [List.map_nil,Nat.le_refl,Int.le_refl,bD,bH,aP,aw,au,aH,ai,ak,an,ae,ah,aa,ab,ar,aj,aY,aI,bW,bI,bt,cy,Int.reduceBEq,Int.reduceBNe,Int.reduceEq,Int.reduceLE,Int.reduceToNat,aOp,evT,aW,putT,aG,gAt,bL,hget,bC,aUn,bm,bB,cI,cp,bnd,ct,az,cellsOf,LV.one,Value.oneCell',bZ,aU,bQ,bO,List.getElem?_cons_zero,List.getElem?_cons_succ,List.map_cons,Option.map_some,Option.map_none,Int.toNat_natCast,reduceIte,reduceCtorEq,Nat.reduceEqDiff,Nat.reduceAdd,Nat.reduceLT,Nat.reduceLeDiff,decide_true,decide_false,true_and,forall_const,not_false_eq_true,Bool.not_true,Bool.not_false,List.cons_append,List.nil_append,List.append_nil,List.take_succ_cons,List.take_zero,List.drop_succ_cons,List.drop_zero,List.length_cons,List.length_nil,List.set_cons_zero,false_implies,and_self,Bool.true_and,Bool.and_self,Nat.zero_add,cM,ac,bx,bX,ax,ofD,cf,ao,bG,aQ,bV,bz,aN,be,bi,bh,br,AV.toD,SV.toD,LV.toD,bE,aR,bg,AV.plain,SV.plain,LV.plain,List.all_cons,List.all_nil,Option.getD_some,cQ,cX,cr,bK,eg,e,eq_true h1,sV]
 by_cases h2:s=⟨#[119,122,114]⟩
 ·have e:i9 2 s=(⟨31,false,false⟩,0):=by rw [h2];rfl
  simp only [List.map_nil,Nat.le_refl,Int.le_refl,bD,bH,aP,aw,au,aH,ai,ak,an,ae,ah,aa,ab,ar,aj,aY,aI,bW,bI,bt,cy,Int.reduceBEq,Int.reduceBNe,Int.reduceEq,Int.reduceLE,Int.reduceToNat,aOp,evT,aW,putT,aG,gAt,bL,hget,bC,aUn,bm,bB,cI,cp,bnd,ct,az,cellsOf,LV.one,Value.oneCell',bZ,aU,bQ,bO,List.getElem?_cons_zero,List.getElem?_cons_succ,List.map_cons,Option.map_some,Option.map_none,Int.toNat_natCast,reduceIte,reduceCtorEq,Nat.reduceEqDiff,Nat.reduceAdd,Nat.reduceLT,Nat.reduceLeDiff,decide_true,decide_false,true_and,forall_const,not_false_eq_true,Bool.not_true,Bool.not_false,List.cons_append,List.nil_append,List.append_nil,List.take_succ_cons,List.take_zero,List.drop_succ_cons,List.drop_zero,List.length_cons,List.length_nil,List.set_cons_zero,false_implies,and_self,Bool.true_and,Bool.and_self,Nat.zero_add,cM,ac,bx,bX,ax,ofD,cf,ao,bG,aQ,bV,bz,aN,be,bi,bh,br,AV.toD,SV.toD,LV.toD,bE,aR,bg,AV.plain,SV.plain,LV.plain,List.all_cons,List.all_nil,Option.getD_some,cQ,cX,cr,bK,eg,e,h1,eq_true h2,sV]
 by_cases h3:s=⟨#[115,112]⟩
 ·have e:i9 2 s=(⟨31,true,true⟩,0):=by rw [h3];rfl
  simp only [List.map_nil,Nat.le_refl,Int.le_refl,bD,bH,aP,aw,au,aH,ai,ak,an,ae,ah,aa,ab,ar,aj,aY,aI,bW,bI,bt,cy,Int.reduceBEq,Int.reduceBNe,Int.reduceEq,Int.reduceLE,Int.reduceToNat,aOp,evT,aW,putT,aG,gAt,bL,hget,bC,aUn,bm,bB,cI,cp,bnd,ct,az,cellsOf,LV.one,Value.oneCell',bZ,aU,bQ,bO,List.getElem?_cons_zero,List.getElem?_cons_succ,List.map_cons,Option.map_some,Option.map_none,Int.toNat_natCast,reduceIte,reduceCtorEq,Nat.reduceEqDiff,Nat.reduceAdd,Nat.reduceLT,Nat.reduceLeDiff,decide_true,decide_false,true_and,forall_const,not_false_eq_true,Bool.not_true,Bool.not_false,List.cons_append,List.nil_append,List.append_nil,List.take_succ_cons,List.take_zero,List.drop_succ_cons,List.drop_zero,List.length_cons,List.length_nil,List.set_cons_zero,false_implies,and_self,Bool.true_and,Bool.and_self,Nat.zero_add,cM,ac,bx,bX,ax,ofD,cf,ao,bG,aQ,bV,bz,aN,be,bi,bh,br,AV.toD,SV.toD,LV.toD,bE,aR,bg,AV.plain,SV.plain,LV.plain,List.all_cons,List.all_nil,Option.getD_some,cQ,cX,cr,bK,eg,e,h1,h2,eq_true h3,sV]
 by_cases h4:s=⟨#[119,115,112]⟩
 ·have e:i9 2 s=(⟨31,false,true⟩,0):=by rw [h4];rfl
  simp only [List.map_nil,Nat.le_refl,Int.le_refl,bD,bH,aP,aw,au,aH,ai,ak,an,ae,ah,aa,ab,ar,aj,aY,aI,bW,bI,bt,cy,Int.reduceBEq,Int.reduceBNe,Int.reduceEq,Int.reduceLE,Int.reduceToNat,aOp,evT,aW,putT,aG,gAt,bL,hget,bC,aUn,bm,bB,cI,cp,bnd,ct,az,cellsOf,LV.one,Value.oneCell',bZ,aU,bQ,bO,List.getElem?_cons_zero,List.getElem?_cons_succ,List.map_cons,Option.map_some,Option.map_none,Int.toNat_natCast,reduceIte,reduceCtorEq,Nat.reduceEqDiff,Nat.reduceAdd,Nat.reduceLT,Nat.reduceLeDiff,decide_true,decide_false,true_and,forall_const,not_false_eq_true,Bool.not_true,Bool.not_false,List.cons_append,List.nil_append,List.append_nil,List.take_succ_cons,List.take_zero,List.drop_succ_cons,List.drop_zero,List.length_cons,List.length_nil,List.set_cons_zero,false_implies,and_self,Bool.true_and,Bool.and_self,Nat.zero_add,cM,ac,bx,bX,ax,ofD,cf,ao,bG,aQ,bV,bz,aN,be,bi,bh,br,AV.toD,SV.toD,LV.toD,bE,aR,bg,AV.plain,SV.plain,LV.plain,List.all_cons,List.all_nil,Option.getD_some,cQ,cX,cr,bK,eg,e,h1,h2,h3,eq_true h4,sV]
 have e0:i9 2 s=if s.size=0∨¬(bj s 0=120∨bj s 0=119) then (⟨0,false,false⟩,30) else
   Nn s (dg 2 (s.extract 1 s.size) 30):=by
  unfold i9
  rw [if_neg (show ¬s=xzrS from h1),if_neg (show ¬s=wzrS from h2),if_neg (show ¬s=spS from h3),if_neg (show ¬s=wspS from h4)]
 by_cases hl:s.size<2
 ·have hlI:(s.size:Int)<2:=by omega
  have e1:i9 2 s=(⟨0,false,false⟩,30):=by
   rw [e0]
   split
   ·rfl
   ·have:s.extract 1 s.size=emp:=l6 (by rw [mH,List.take_eq_nil_of_eq_nil (List.drop_eq_nil_of_le (by rw [dV];omega))];rfl)
    rw [this]
    rfl
  simp only [List.map_nil,Nat.le_refl,Int.le_refl,bD,bH,aP,aw,au,aH,ai,ak,an,ae,ah,aa,ab,ar,aj,aY,aI,bW,bI,bt,cy,Int.reduceBEq,Int.reduceBNe,Int.reduceEq,Int.reduceLE,Int.reduceToNat,aOp,evT,aW,putT,aG,gAt,bL,hget,bC,aUn,bm,bB,cI,cp,bnd,ct,az,cellsOf,LV.one,Value.oneCell',bZ,aU,bQ,bO,List.getElem?_cons_zero,List.getElem?_cons_succ,List.map_cons,Option.map_some,Option.map_none,Int.toNat_natCast,reduceIte,reduceCtorEq,Nat.reduceEqDiff,Nat.reduceAdd,Nat.reduceLT,Nat.reduceLeDiff,decide_true,decide_false,true_and,forall_const,not_false_eq_true,Bool.not_true,Bool.not_false,List.cons_append,List.nil_append,List.append_nil,List.take_succ_cons,List.take_zero,List.drop_succ_cons,List.drop_zero,List.length_cons,List.length_nil,List.set_cons_zero,false_implies,and_self,Bool.true_and,Bool.and_self,Nat.zero_add,cM,ac,bx,bX,ax,ofD,cf,ao,bG,aQ,bV,bz,aN,be,bi,bh,br,AV.toD,SV.toD,LV.toD,bE,aR,bg,AV.plain,SV.plain,LV.plain,List.all_cons,List.all_nil,Option.getD_some,cQ,cX,cr,bK,eg,h1,h2,h3,h4,hlI,e1,sV]
 ·have hlI:¬(s.size:Int)<2:=by omega
  have hp:(0:Int)<s.size:=by omega
  have hp1:(1:Int)≤s.size:=by omega
  have hr:=BC s 0
  by_cases hx:bj s 0=120
  ·rw [if_neg (by omega)] at e0
   rcases hd:dg 2 (s.extract 1 s.size) 30 with ⟨n,_ | _⟩
   ·rw [hd,Nn] at e0
    simp only [List.map_nil,Nat.le_refl,Int.le_refl,bD,bH,aP,aw,au,aH,ai,ak,an,ae,ah,aa,ab,ar,aj,aY,aI,bW,bI,bt,cy,Int.reduceBEq,Int.reduceBNe,Int.reduceEq,Int.reduceLE,Int.reduceToNat,aOp,evT,aW,putT,aG,gAt,bL,hget,bC,aUn,bm,bB,cI,cp,bnd,ct,az,cellsOf,LV.one,Value.oneCell',bZ,aU,bQ,bO,List.getElem?_cons_zero,List.getElem?_cons_succ,List.map_cons,Option.map_some,Option.map_none,Int.toNat_natCast,reduceIte,reduceCtorEq,Nat.reduceEqDiff,Nat.reduceAdd,Nat.reduceLT,Nat.reduceLeDiff,decide_true,decide_false,true_and,forall_const,not_false_eq_true,Bool.not_true,Bool.not_false,List.cons_append,List.nil_append,List.append_nil,List.take_succ_cons,List.take_zero,List.drop_succ_cons,List.drop_zero,List.length_cons,List.length_nil,List.set_cons_zero,false_implies,and_self,Bool.true_and,Bool.and_self,Nat.zero_add,cM,ac,bx,bX,ax,ofD,cf,ao,bG,aQ,bV,bz,aN,be,bi,bh,br,AV.toD,SV.toD,LV.toD,bE,aR,bg,AV.plain,SV.plain,LV.plain,List.all_cons,List.all_nil,Option.getD_some,cQ,cX,cr,bK,eg,h1,h2,h3,h4,hlI,hp,hp1,hx,r8,so,eZ,Int.toNat_one,hd,e0,sV]
   ·rw [hd,Nn] at e0
    simp only [List.map_nil,Nat.le_refl,Int.le_refl,bD,bH,aP,aw,au,aH,ai,ak,an,ae,ah,aa,ab,ar,aj,aY,aI,bW,bI,bt,cy,Int.reduceBEq,Int.reduceBNe,Int.reduceEq,Int.reduceLE,Int.reduceToNat,aOp,evT,aW,putT,aG,gAt,bL,hget,bC,aUn,bm,bB,cI,cp,bnd,ct,az,cellsOf,LV.one,Value.oneCell',bZ,aU,bQ,bO,List.getElem?_cons_zero,List.getElem?_cons_succ,List.map_cons,Option.map_some,Option.map_none,Int.toNat_natCast,reduceIte,reduceCtorEq,Nat.reduceEqDiff,Nat.reduceAdd,Nat.reduceLT,Nat.reduceLeDiff,decide_true,decide_false,true_and,forall_const,not_false_eq_true,Bool.not_true,Bool.not_false,List.cons_append,List.nil_append,List.append_nil,List.take_succ_cons,List.take_zero,List.drop_succ_cons,List.drop_zero,List.length_cons,List.length_nil,List.set_cons_zero,false_implies,and_self,Bool.true_and,Bool.and_self,Nat.zero_add,cM,ac,bx,bX,ax,ofD,cf,ao,bG,aQ,bV,bz,aN,be,bi,bh,br,AV.toD,SV.toD,LV.toD,bE,aR,bg,AV.plain,SV.plain,LV.plain,List.all_cons,List.all_nil,Option.getD_some,cQ,cX,cr,bK,eg,h1,h2,h3,h4,hlI,hp,hp1,hx,r8,so,eZ,Int.toNat_one,hd,e0,sV]
  ·by_cases hw:bj s 0=119
   ·rw [if_neg (by omega)] at e0
    rcases hd:dg 2 (s.extract 1 s.size) 30 with ⟨n,_ | _⟩
    ·rw [hd,Nn] at e0
     simp only [List.map_nil,Nat.le_refl,Int.le_refl,bD,bH,aP,aw,au,aH,ai,ak,an,ae,ah,aa,ab,ar,aj,aY,aI,bW,bI,bt,cy,Int.reduceBEq,Int.reduceBNe,Int.reduceEq,Int.reduceLE,Int.reduceToNat,aOp,evT,aW,putT,aG,gAt,bL,hget,bC,aUn,bm,bB,cI,cp,bnd,ct,az,cellsOf,LV.one,Value.oneCell',bZ,aU,bQ,bO,List.getElem?_cons_zero,List.getElem?_cons_succ,List.map_cons,Option.map_some,Option.map_none,Int.toNat_natCast,reduceIte,reduceCtorEq,Nat.reduceEqDiff,Nat.reduceAdd,Nat.reduceLT,Nat.reduceLeDiff,decide_true,decide_false,true_and,forall_const,not_false_eq_true,Bool.not_true,Bool.not_false,List.cons_append,List.nil_append,List.append_nil,List.take_succ_cons,List.take_zero,List.drop_succ_cons,List.drop_zero,List.length_cons,List.length_nil,List.set_cons_zero,false_implies,and_self,Bool.true_and,Bool.and_self,Nat.zero_add,cM,ac,bx,bX,ax,ofD,cf,ao,bG,aQ,bV,bz,aN,be,bi,bh,br,AV.toD,SV.toD,LV.toD,bE,aR,bg,AV.plain,SV.plain,LV.plain,List.all_cons,List.all_nil,Option.getD_some,cQ,cX,cr,bK,eg,h1,h2,h3,h4,hlI,hp,hp1,hx,hw,r8,so,eZ,Int.toNat_one,hd,e0,sV]
    ·rw [hd,Nn] at e0
     simp only [List.map_nil,Nat.le_refl,Int.le_refl,bD,bH,aP,aw,au,aH,ai,ak,an,ae,ah,aa,ab,ar,aj,aY,aI,bW,bI,bt,cy,Int.reduceBEq,Int.reduceBNe,Int.reduceEq,Int.reduceLE,Int.reduceToNat,aOp,evT,aW,putT,aG,gAt,bL,hget,bC,aUn,bm,bB,cI,cp,bnd,ct,az,cellsOf,LV.one,Value.oneCell',bZ,aU,bQ,bO,List.getElem?_cons_zero,List.getElem?_cons_succ,List.map_cons,Option.map_some,Option.map_none,Int.toNat_natCast,reduceIte,reduceCtorEq,Nat.reduceEqDiff,Nat.reduceAdd,Nat.reduceLT,Nat.reduceLeDiff,decide_true,decide_false,true_and,forall_const,not_false_eq_true,Bool.not_true,Bool.not_false,List.cons_append,List.nil_append,List.append_nil,List.take_succ_cons,List.take_zero,List.drop_succ_cons,List.drop_zero,List.length_cons,List.length_nil,List.set_cons_zero,false_implies,and_self,Bool.true_and,Bool.and_self,Nat.zero_add,cM,ac,bx,bX,ax,ofD,cf,ao,bG,aQ,bV,bz,aN,be,bi,bh,br,AV.toD,SV.toD,LV.toD,bE,aR,bg,AV.plain,SV.plain,LV.plain,List.all_cons,List.all_nil,Option.getD_some,cQ,cX,cr,bK,eg,h1,h2,h3,h4,hlI,hp,hp1,hx,hw,r8,so,eZ,Int.toNat_one,hd,e0,sV]
   ·rw [if_pos (by omega)] at e0
    simp only [List.map_nil,Nat.le_refl,Int.le_refl,bD,bH,aP,aw,au,aH,ai,ak,an,ae,ah,aa,ab,ar,aj,aY,aI,bW,bI,bt,cy,Int.reduceBEq,Int.reduceBNe,Int.reduceEq,Int.reduceLE,Int.reduceToNat,aOp,evT,aW,putT,aG,gAt,bL,hget,bC,aUn,bm,bB,cI,cp,bnd,ct,az,cellsOf,LV.one,Value.oneCell',bZ,aU,bQ,bO,List.getElem?_cons_zero,List.getElem?_cons_succ,List.map_cons,Option.map_some,Option.map_none,Int.toNat_natCast,reduceIte,reduceCtorEq,Nat.reduceEqDiff,Nat.reduceAdd,Nat.reduceLT,Nat.reduceLeDiff,decide_true,decide_false,true_and,forall_const,not_false_eq_true,Bool.not_true,Bool.not_false,List.cons_append,List.nil_append,List.append_nil,List.take_succ_cons,List.take_zero,List.drop_succ_cons,List.drop_zero,List.length_cons,List.length_nil,List.set_cons_zero,false_implies,and_self,Bool.true_and,Bool.and_self,Nat.zero_add,cM,ac,bx,bX,ax,ofD,cf,ao,bG,aQ,bV,bz,aN,be,bi,bh,br,AV.toD,SV.toD,LV.toD,bE,aR,bg,AV.plain,SV.plain,LV.plain,List.all_cons,List.all_nil,Option.getD_some,cQ,cX,cr,bK,eg,h1,h2,h3,h4,hlI,hp,hp1,hx,hw,e0,sV]
def regS:cK Tryz.prog 68 :=
 mk1 _ _ _ Tryz.func68 rfl (fun _ _=>by go_simp) (bg) ((fun _=>True)) ((fun s=>.ret (sV (i9 3 s)))) (by rw [Tryz.ntmps68];decide) (fun s _=>reg_sw s)
theorem VO {id:Nat} {h:aF} {args:List AV}:(regS).run id h args=be (aV (bg) ((fun _=>True))) ((fun s=>.ret (sV (i9 3 s)))) h args:=rfl
theorem Wf {id:Nat} {h:aF} {args:List AV}:(regS).pan id h args=bi (aV (bg) ((fun _=>True))) ((fun s=>.ret (sV (i9 3 s)))) h args:=rfl
def Y7:cK Tryz.prog 92 :=
 mk1 _ _ _ Tryz.func92 rfl (fun _ _=>by go_simp) (bg) ((fun _=>True)) ((fun s=>.ret (sV (i9 2 s)))) (by rw [Tryz.ntmps92];decide) (fun s _=>reg2_sw s)
theorem Sh {id:Nat} {h:aF} {args:List AV}:(Y7).run id h args=be (aV (bg) ((fun _=>True))) ((fun s=>.ret (sV (i9 2 s)))) h args:=rfl
theorem S6 {id:Nat} {h:aF} {args:List AV}:(Y7).pan id h args=bi (aV (bg) ((fun _=>True))) ((fun s=>.ret (sV (i9 2 s)))) h args:=rfl
end Go.Proofs.YthcoegkfpinlfaaGreatDoor
