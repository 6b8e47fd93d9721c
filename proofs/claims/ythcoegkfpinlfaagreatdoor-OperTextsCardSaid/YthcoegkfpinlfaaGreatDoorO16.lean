import Derived.Test.YthcoegkfpinlfaaGreatDoorO15
set_option linter.unusedVariables false
set_option linter.unusedSimpArgs false
set_option maxRecDepth 100000
set_option maxHeartbeats 8000000
namespace Go.Proofs.YthcoegkfpinlfaaGreatDoor
open Go.RowKit
theorem D5 (n:Int):(eI n).size≤3:=by
 unfold eI
 split
 ·rw [xi];simp
 ·split<;>(rw [xi];simp)
theorem UE (r:CF):SW Tryz.prog ⟨none,0⟩ Tryz.f64.ntmps (Tryz.f64.body.getD .skip) ⟨0,aN 0 [(cB fh).enc r],[]⟩ (fa Tryz.prog Tryz.f64.results.toList (.ret (cZ (cA r)))):=by
 obtain ⟨n,x,sp⟩:=r
 refine aC (ctx:=[⟨_,Ml⟩]) 4000 ?_
 rw [Tryz.ntmps64,Tryz.results64]
 simp only [Tryz.f64,Option.getD_some,aN]
 have hz:(eI n).size≤3:=D5 n
 have e1:(1+(eI n).size:Nat)≤maxLen:=by unfold maxLen;omega
 have e2:(⟨#[119]⟩:ByteArray)=wS:=rfl
 have e3:(⟨#[120]⟩:ByteArray)=xS:=rfl
 by_cases h1:n<0
 ·cases x<;>cases sp<;>simp only [List.map_nil,bD,bH,aP,aw,au,aH,ai,ak,an,ae,ah,aa,ab,ar,aj,aO,aY,aI,bW,bI,bt,Int.reduceBEq,Int.reduceBNe,Int.reduceLT,aOp,evT,aW,putT,aG,gAt,bL,hget,bC,bm,cI,co,az,cellsOf,bO,List.getElem?_cons_zero,List.getElem?_cons_succ,List.map_cons,Option.map_some,reduceIte,reduceCtorEq,Nat.reduceEqDiff,Nat.reduceAdd,Nat.reduceLT,decide_true,decide_false,true_and,and_true,forall_const,not_true_eq_false,not_false_eq_true,List.nil_append,List.append_nil,List.length_cons,List.length_nil,true_or,or_true,or_false,Bool.false_eq_true,false_implies,and_self,Bool.and_true,Bool.true_and,Bool.and_self,Nat.zero_add,Nat.add_zero,ac,bx,bX,ax,ofD,cf,ao,bG,aQ,bV,bz,aN,be,bi,bh,br,AV.toD,SV.toD,LV.toD,aV,aR,cB,AV.plain,SV.plain,LV.plain,gt_iff_lt,Option.getD_some,PO.ret.injEq,iW,dX,Dv,qt,dR,dP,dN,fh,h1,cZ,cA,aS]
 by_cases h2:31<n
 ·cases x<;>cases sp<;>simp only [List.map_nil,bD,bH,aP,aw,au,aH,ai,ak,an,ae,ah,aa,ab,ar,aj,aO,aY,aI,bW,bI,bt,Int.reduceBEq,Int.reduceBNe,Int.reduceLT,aOp,evT,aW,putT,aG,gAt,bL,hget,bC,bm,cI,co,az,cellsOf,bO,List.getElem?_cons_zero,List.getElem?_cons_succ,List.map_cons,Option.map_some,reduceIte,reduceCtorEq,Nat.reduceEqDiff,Nat.reduceAdd,Nat.reduceLT,decide_true,decide_false,true_and,and_true,forall_const,not_true_eq_false,not_false_eq_true,List.nil_append,List.append_nil,List.length_cons,List.length_nil,true_or,or_true,or_false,Bool.false_eq_true,false_implies,and_self,Bool.and_true,Bool.true_and,Bool.and_self,Nat.zero_add,Nat.add_zero,ac,bx,bX,ax,ofD,cf,ao,bG,aQ,bV,bz,aN,be,bi,bh,br,AV.toD,SV.toD,LV.toD,aV,aR,cB,AV.plain,SV.plain,LV.plain,gt_iff_lt,Option.getD_some,PO.ret.injEq,iW,dX,Dv,qt,dR,dP,dN,fh,h1,h2,cZ,cA,aS]
 by_cases h3:n=31
 ·subst h3
  cases x<;>cases sp<;>simp only [List.map_nil,bD,bH,aP,aw,au,aH,ai,ak,an,ae,ah,aa,ab,ar,aj,aO,aY,aI,bW,bI,bt,Int.reduceBEq,Int.reduceBNe,Int.reduceLT,aOp,evT,aW,putT,aG,gAt,bL,hget,bC,bm,cI,co,az,cellsOf,bO,List.getElem?_cons_zero,List.getElem?_cons_succ,List.map_cons,Option.map_some,reduceIte,reduceCtorEq,Nat.reduceEqDiff,Nat.reduceAdd,Nat.reduceLT,decide_true,decide_false,true_and,and_true,forall_const,not_true_eq_false,not_false_eq_true,List.nil_append,List.append_nil,List.length_cons,List.length_nil,true_or,or_true,or_false,Bool.false_eq_true,false_implies,and_self,Bool.and_true,Bool.true_and,Bool.and_self,Nat.zero_add,Nat.add_zero,ac,bx,bX,ax,ofD,cf,ao,bG,aQ,bV,bz,aN,be,bi,bh,br,AV.toD,SV.toD,LV.toD,aV,aR,cB,AV.plain,SV.plain,LV.plain,gt_iff_lt,Option.getD_some,PO.ret.injEq,iW,dX,Dv,qt,dR,dP,dN,fh,cZ,cA,aS]<;>first | rfl | exact ⟨by decide,rfl⟩ | decide
 ·have h4:0≤n∧n<1000:=by omega
  have h5:¬n > 31:=h2
  cases x<;>cases sp<;>simp only [List.map_nil,bD,bH,aP,aw,au,aH,ai,ak,an,ae,ah,aa,ab,ar,aj,aO,aY,aI,bW,bI,bt,Int.reduceBEq,Int.reduceBNe,Int.reduceLT,aOp,evT,aW,putT,aG,gAt,bL,hget,bC,bm,cI,co,az,cellsOf,bO,List.getElem?_cons_zero,List.getElem?_cons_succ,List.map_cons,Option.map_some,reduceIte,reduceCtorEq,Nat.reduceEqDiff,Nat.reduceAdd,Nat.reduceLT,decide_true,decide_false,true_and,and_true,forall_const,not_true_eq_false,not_false_eq_true,List.nil_append,List.append_nil,List.length_cons,List.length_nil,true_or,or_true,or_false,Bool.false_eq_true,false_implies,and_self,Bool.and_true,Bool.true_and,Bool.and_self,Nat.zero_add,Nat.add_zero,ac,bx,bX,ax,ofD,cf,ao,bG,aQ,bV,bz,aN,be,bi,bh,br,AV.toD,SV.toD,LV.toD,aV,aR,cB,AV.plain,SV.plain,LV.plain,gt_iff_lt,Option.getD_some,PO.ret.injEq,iW,dX,Dv,qt,dR,dP,dN,fh,h1,h2,h3,h4,cZ,cA,aS,Jv,Js,e2,e3,show wS.size=1 from rfl,show xS.size=1 from rfl,e1]
theorem SJ (r:CF):SW Tryz.prog ⟨none,0⟩ Tryz.f81.ntmps (Tryz.f81.body.getD .skip) ⟨0,aN 0 [(cB fh).enc r],[]⟩ (fa Tryz.prog Tryz.f81.results.toList (.ret (cZ (cA r)))):=by
 obtain ⟨n,x,sp⟩:=r
 refine aC (ctx:=[⟨_,Px⟩]) 4000 ?_
 rw [Tryz.ntmps81,Tryz.results81]
 simp only [Tryz.f81,Option.getD_some,aN]
 have hz:(eI n).size≤3:=D5 n
 have e1:(1+(eI n).size:Nat)≤maxLen:=by unfold maxLen;omega
 have e2:(⟨#[119]⟩:ByteArray)=wS:=rfl
 have e3:(⟨#[120]⟩:ByteArray)=xS:=rfl
 by_cases h1:n<0
 ·cases x<;>cases sp<;>simp only [List.map_nil,bD,bH,aw,au,aH,ai,ak,an,ae,ah,aa,ab,ar,aj,aO,aY,aI,bW,bI,bt,bn,Int.reduceBEq,Int.reduceBNe,Int.reduceLT,aOp,evT,aW,putT,aG,gAt,bL,hget,bC,bm,cI,co,az,cellsOf,bO,List.getElem?_cons_zero,List.getElem?_cons_succ,List.map_cons,Option.map_some,reduceIte,reduceCtorEq,Nat.reduceEqDiff,Nat.reduceAdd,Nat.reduceLT,decide_true,decide_false,true_and,and_true,forall_const,not_true_eq_false,not_false_eq_true,List.nil_append,List.append_nil,List.length_cons,List.length_nil,true_or,or_true,or_false,implies_true,Bool.false_eq_true,false_implies,and_self,Bool.and_true,Bool.true_and,Bool.and_self,Nat.zero_add,Nat.add_zero,ac,bx,bX,ax,ofD,cf,ao,bG,aQ,bV,bz,aN,be,bi,bh,br,AV.toD,SV.toD,LV.toD,aV,aR,cB,AV.plain,SV.plain,LV.plain,gt_iff_lt,Option.getD_some,PO.ret.injEq,iW,dX,Dv,qt,dR,dP,dN,fh,h1,cZ,cA,aS]
 by_cases h2:31<n
 ·cases x<;>cases sp<;>simp only [List.map_nil,bD,bH,aw,au,aH,ai,ak,an,ae,ah,aa,ab,ar,aj,aO,aY,aI,bW,bI,bt,bn,Int.reduceBEq,Int.reduceBNe,Int.reduceLT,aOp,evT,aW,putT,aG,gAt,bL,hget,bC,bm,cI,co,az,cellsOf,bO,List.getElem?_cons_zero,List.getElem?_cons_succ,List.map_cons,Option.map_some,reduceIte,reduceCtorEq,Nat.reduceEqDiff,Nat.reduceAdd,Nat.reduceLT,decide_true,decide_false,true_and,and_true,forall_const,not_true_eq_false,not_false_eq_true,List.nil_append,List.append_nil,List.length_cons,List.length_nil,true_or,or_true,or_false,implies_true,Bool.false_eq_true,false_implies,and_self,Bool.and_true,Bool.true_and,Bool.and_self,Nat.zero_add,Nat.add_zero,ac,bx,bX,ax,ofD,cf,ao,bG,aQ,bV,bz,aN,be,bi,bh,br,AV.toD,SV.toD,LV.toD,aV,aR,cB,AV.plain,SV.plain,LV.plain,gt_iff_lt,Option.getD_some,PO.ret.injEq,iW,dX,Dv,qt,dR,dP,dN,fh,h1,h2,cZ,cA,aS]
 by_cases h3:n=31
 ·subst h3
  cases x<;>cases sp<;>simp only [List.map_nil,bD,bH,aw,au,aH,ai,ak,an,ae,ah,aa,ab,ar,aj,aO,aY,aI,bW,bI,bt,bn,Int.reduceBEq,Int.reduceBNe,Int.reduceLT,aOp,evT,aW,putT,aG,gAt,bL,hget,bC,bm,cI,co,az,cellsOf,bO,List.getElem?_cons_zero,List.getElem?_cons_succ,List.map_cons,Option.map_some,reduceIte,reduceCtorEq,Nat.reduceEqDiff,Nat.reduceAdd,Nat.reduceLT,decide_true,decide_false,true_and,and_true,forall_const,not_true_eq_false,not_false_eq_true,List.nil_append,List.append_nil,List.length_cons,List.length_nil,true_or,or_true,or_false,implies_true,Bool.false_eq_true,false_implies,and_self,Bool.and_true,Bool.true_and,Bool.and_self,Nat.zero_add,Nat.add_zero,ac,bx,bX,ax,ofD,cf,ao,bG,aQ,bV,bz,aN,be,bi,bh,br,AV.toD,SV.toD,LV.toD,aV,aR,cB,AV.plain,SV.plain,LV.plain,gt_iff_lt,Option.getD_some,PO.ret.injEq,iW,dX,Dv,qt,dR,dP,dN,fh,cZ,cA,aS]<;>first | rfl | exact ⟨by decide,rfl⟩ | decide
 ·have h4:0≤n∧n<100:=by omega
  have h5:¬n > 31:=h2
  cases x<;>cases sp<;>simp only [List.map_nil,bD,bH,aw,au,aH,ai,ak,an,ae,ah,aa,ab,ar,aj,aO,aY,aI,bW,bI,bt,bn,Int.reduceBEq,Int.reduceBNe,Int.reduceLT,aOp,evT,aW,putT,aG,gAt,bL,hget,bC,bm,cI,co,az,cellsOf,bO,List.getElem?_cons_zero,List.getElem?_cons_succ,List.map_cons,Option.map_some,reduceIte,reduceCtorEq,Nat.reduceEqDiff,Nat.reduceAdd,Nat.reduceLT,decide_true,decide_false,true_and,and_true,forall_const,not_true_eq_false,not_false_eq_true,List.nil_append,List.append_nil,List.length_cons,List.length_nil,true_or,or_true,or_false,implies_true,Bool.false_eq_true,false_implies,and_self,Bool.and_true,Bool.true_and,Bool.and_self,Nat.zero_add,Nat.add_zero,ac,bx,bX,ax,ofD,cf,ao,bG,aQ,bV,bz,aN,be,bi,bh,br,AV.toD,SV.toD,LV.toD,aV,aR,cB,AV.plain,SV.plain,LV.plain,gt_iff_lt,Option.getD_some,PO.ret.injEq,iW,dX,Dv,qt,dR,dP,dN,fh,h1,h2,h3,h4,cZ,cA,aS,Qh,QG,e2,e3,show wS.size=1 from rfl,show xS.size=1 from rfl,e1]
def CT:cK Tryz.prog 64 :=
 mk1 _ _ _ Tryz.func64 rfl (fun _ _=>by go_simp) (cB fh) ((fun _=>True)) ((fun r=>.ret (cZ (cA r)))) (by rw [Tryz.ntmps64];decide) (fun r _=>UE r)
theorem C4 {id:Nat} {h:aF} {args:List AV}:(CT).run id h args=be (aV (cB fh) ((fun _=>True))) ((fun r=>.ret (cZ (cA r)))) h args:=rfl
theorem CY {id:Nat} {h:aF} {args:List AV}:(CT).pan id h args=bi (aV (cB fh) ((fun _=>True))) ((fun r=>.ret (cZ (cA r)))) h args:=rfl
def Jw:cK Tryz.prog 81 :=
 mk1 _ _ _ Tryz.func81 rfl (fun _ _=>by go_simp) (cB fh) ((fun _=>True)) ((fun r=>.ret (cZ (cA r)))) (by rw [Tryz.ntmps81];decide) (fun r _=>SJ r)
theorem d9 {id:Nat} {h:aF} {args:List AV}:(Jw).run id h args=be (aV (cB fh) ((fun _=>True))) ((fun r=>.ret (cZ (cA r)))) h args:=rfl
theorem ef {id:Nat} {h:aF} {args:List AV}:(Jw).pan id h args=bi (aV (cB fh) ((fun _=>True))) ((fun r=>.ret (cZ (cA r)))) h args:=rfl
def SB (r:CF):AV:=.s (.agg [.v (.int .i64 r.n),.v (.bool r.x),.v (.bool r.sp)])
def OS:cK Tryz.prog 65 :=
 mk1 _ _ _ Tryz.func65 rfl (fun _ _=>by go_simp) (aR .i64) ((fun n=>0≤n∧n<128)) ((fun n=>.ret (SB (sY n)))) (by rw [Tryz.ntmps65];decide) (fun n hn=>by
 obtain ⟨h0,h1⟩:=hn
 refine aC (ctx:=[]) 4000 ?_
 rw [Tryz.ntmps65,Tryz.results65]
 simp only [Tryz.f65,Option.getD_some,aN]
 have d1:n.tdiv 32=n / 32:=Int.tdiv_eq_ediv_of_nonneg h0
 have d2:n.tmod 32=n % 32:=Int.tmod_eq_emod_of_nonneg h0
 have d3:(n / 32).tmod 2=n / 32 % 2:=Int.tmod_eq_emod_of_nonneg (by omega)
 have e1:IntKind.i64.wrap (n / 32)=n / 32:=by rw [IntKind.wrap_i64];omega
 have e2:IntKind.i64.wrap (n % 32)=n % 32:=by rw [IntKind.wrap_i64];omega
 simp only [List.map_nil,Nat.le_refl,bD,bH,aw,au,ak,an,aa,ab,Int.reduceEq,aOp,evT,aW,putT,aG,hget,bC,bm,bB,cI,az,cellsOf,LV.one,Value.oneCell',bZ,aU,bQ,List.getElem?_cons_zero,List.getElem?_cons_succ,List.map_cons,reduceIte,reduceCtorEq,Nat.reduceEqDiff,Nat.reduceAdd,Nat.reduceLT,Nat.reduceLeDiff,decide_true,decide_false,true_and,not_false_eq_true,List.cons_append,List.nil_append,List.append_nil,beq_eq_false_iff_ne,ne_eq,List.take_succ_cons,List.take_zero,List.drop_succ_cons,List.drop_zero,List.length_cons,List.length_nil,List.set_cons_zero,and_self,Bool.true_and,Bool.and_self,Nat.zero_add,ac,bx,ofD,cf,ao,bG,aQ,bz,aN,br,AV.toD,SV.toD,LV.toD,aR,ge_iff_le,PO.ret.injEq,cX,cr,bK,eg,SB,sY,d1,d2,d3,e1,e2]
 have e3:(n / 32 % 2==1)=decide (n / 32 % 2=1):=by by_cases h:n / 32 % 2=1<;>simp [h]
 rw [e3])
theorem M6 {id:Nat} {h:aF} {args:List AV}:(OS).run id h args=be (aV (aR .i64) ((fun n=>0≤n∧n<128))) ((fun n=>.ret (SB (sY n)))) h args:=rfl
theorem Nk {id:Nat} {h:aF} {args:List AV}:(OS).pan id h args=bi (aV (aR .i64) ((fun n=>0≤n∧n<128))) ((fun n=>.ret (SB (sY n)))) h args:=rfl
def UT:cK Tryz.prog 69 :=
 mk1 _ _ _ Tryz.func69 rfl (fun _ _=>by go_simp) (cB fh) ((fun r => -100000<r.n∧r.n<100000)) ((fun r=>.ret (iv (Cv r)))) (by rw [Tryz.ntmps69];decide) (fun r hr=>by
 obtain ⟨n,x,sp⟩:=r
 obtain ⟨h0,h1⟩:=hr
 simp only at h0 h1
 refine aC (ctx:=[]) 4000 ?_
 rw [Tryz.ntmps69,Tryz.results69]
 simp only [Tryz.f69,Option.getD_some,aN]
 have e1:IntKind.i64.wrap n=n:=by rw [IntKind.wrap_i64];omega
 have e2:IntKind.i64.wrap (n+32)=n+32:=by rw [IntKind.wrap_i64];omega
 have e3:IntKind.i64.wrap (n+64)=n+64:=by rw [IntKind.wrap_i64];omega
 have e4:IntKind.i64.wrap (n+32+64)=n+32+64:=by rw [IntKind.wrap_i64];omega
 cases x<;>cases sp<;>simp only [List.map_nil,bD,bH,aw,au,ai,ak,an,ah,aa,ab,ar,aj,aOp,evT,aW,putT,aG,hget,bC,bm,cI,co,az,cellsOf,List.getElem?_cons_zero,List.getElem?_cons_succ,List.map_cons,reduceIte,reduceCtorEq,Nat.reduceEqDiff,Nat.reduceAdd,Nat.reduceLT,decide_true,List.nil_append,List.append_nil,List.length_cons,List.length_nil,Bool.false_eq_true,and_self,Bool.and_self,Nat.zero_add,Nat.add_zero,ac,bx,ofD,cf,ao,bG,aQ,bz,aN,AV.toD,SV.toD,LV.toD,cB,iW,dX,Dv,qt,dR,dP,dN,fh,Cv,e1,e2,e3,e4,Int.add_zero])
theorem Xd {id:Nat} {h:aF} {args:List AV}:(UT).run id h args=be (aV (cB fh) ((fun r => -100000<r.n∧r.n<100000))) ((fun r=>.ret (iv (Cv r)))) h args:=rfl
theorem X0 {id:Nat} {h:aF} {args:List AV}:(UT).pan id h args=bi (aV (cB fh) ((fun r => -100000<r.n∧r.n<100000))) ((fun r=>.ret (iv (Cv r)))) h args:=rfl
def RA:cK Tryz.prog 93 :=
 mk1 _ _ _ Tryz.func93 rfl (fun _ _=>by go_simp) (cB fh) ((fun r => -100000<r.n∧r.n<100000)) ((fun r=>.ret (iv (Cv r)))) (by rw [Tryz.ntmps93];decide) (fun r hr=>by
 obtain ⟨n,x,sp⟩:=r
 obtain ⟨h0,h1⟩:=hr
 simp only at h0 h1
 refine aC (ctx:=[]) 4000 ?_
 rw [Tryz.ntmps93,Tryz.results93]
 simp only [Tryz.f93,Option.getD_some,aN]
 have e1:IntKind.i64.wrap n=n:=by rw [IntKind.wrap_i64];omega
 have e2:IntKind.i64.wrap (n+32)=n+32:=by rw [IntKind.wrap_i64];omega
 have e3:IntKind.i64.wrap (n+64)=n+64:=by rw [IntKind.wrap_i64];omega
 have e4:IntKind.i64.wrap (n+32+64)=n+32+64:=by rw [IntKind.wrap_i64];omega
 cases x<;>cases sp<;>simp only [List.map_nil,bD,bH,aw,au,ai,ak,an,ah,aa,ab,ar,aj,aOp,evT,aW,putT,aG,hget,bC,bm,cI,co,az,cellsOf,List.getElem?_cons_zero,List.getElem?_cons_succ,List.map_cons,reduceIte,reduceCtorEq,Nat.reduceEqDiff,Nat.reduceAdd,Nat.reduceLT,decide_true,List.nil_append,List.append_nil,List.length_cons,List.length_nil,Bool.false_eq_true,and_self,Bool.and_self,Nat.zero_add,Nat.add_zero,ac,bx,ofD,cf,ao,bG,aQ,bz,aN,AV.toD,SV.toD,LV.toD,cB,iW,dX,Dv,qt,dR,dP,dN,fh,Cv,e1,e2,e3,e4,Int.add_zero])
theorem UL {id:Nat} {h:aF} {args:List AV}:(RA).run id h args=be (aV (cB fh) ((fun r => -100000<r.n∧r.n<100000))) ((fun r=>.ret (iv (Cv r)))) h args:=rfl
theorem Vs {id:Nat} {h:aF} {args:List AV}:(RA).pan id h args=bi (aV (cB fh) ((fun r => -100000<r.n∧r.n<100000))) ((fun r=>.ret (iv (Cv r)))) h args:=rfl
end Go.Proofs.YthcoegkfpinlfaaGreatDoor
