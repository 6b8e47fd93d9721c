import Derived.Test.YthcoegkfpinlfaaGreatDoorO17
set_option linter.unusedVariables false
set_option linter.unusedSimpArgs false
set_option maxRecDepth 100000
set_option maxHeartbeats 8000000
namespace Go.Proofs.YthcoegkfpinlfaaGreatDoor
open Go.RowKit
def tPI:Ty Int where
 dec:=fun | .s (.l (.d (.pd [.v (.int .i64 z)])))=>some z | _=>none
 enc:=fun z=>.s (.l (.d (.pd [.v (.int .i64 z)])))
 ok:=by
  intro A x h ρ al v hr
  split at h
  ·injection h with h;subst h;exact hr
  ·cases h
theorem and_i64 (i:Nat) (hi:i≤62) (x:Int) (h0:0≤x) (h1:x<4611686018427387904):bits .and .i64 x (2 ^ i-1)=x % 2 ^ i :=
 bits_mask .i64 62 (by decide) (fun n h0 h1=>by rw [IntKind.wrap_i64];omega) i hi x h0 h1
theorem WK (n:Int) (h0:0≤n) (h1:n<32768) (lo wd:Nat) (hl:lo≤62) (hw:wd≤10):bits .and .i64 (n.fdiv (2 ^ min lo IntKind.i64.bits)) (IntKind.i64.wrap (IntKind.i64.wrap (1*2 ^ min wd IntKind.i64.bits)-1))=n / 2 ^ lo % 2 ^ wd:=by
 have hp:(0:Int)<2 ^ lo:=Int.pow_pos (by decide)
 have hq:(1:Int)≤2 ^ wd:=Int.pow_pos (by decide)
 have hq2:(2:Int) ^ wd≤1024:=by
  have h2:((2 ^ wd:Nat):Int)≤((1024:Nat):Int):=Int.ofNat_le.2 (Nat.pow_le_pow_right (n:=2) (by decide) hw)
  rw [Int.natCast_pow] at h2
  exact h2
 have e1:min lo IntKind.i64.bits=lo:=by rw [show IntKind.i64.bits=64 from rfl];omega
 have e2:min wd IntKind.i64.bits=wd:=by rw [show IntKind.i64.bits=64 from rfl];omega
 have e3:IntKind.i64.wrap (1*2 ^ wd)=2 ^ wd:=by rw [IntKind.wrap_i64];omega
 have e4:IntKind.i64.wrap (2 ^ wd-1)=2 ^ wd-1:=by rw [IntKind.wrap_i64];omega
 rw [e1,e2,e3,e4,Int.fdiv_eq_ediv_of_nonneg _ (Int.le_of_lt hp)]
 have h2:0≤n / 2 ^ lo:=Int.ediv_nonneg h0 (Int.le_of_lt hp)
 have h3:n / 2 ^ lo≤n:=Int.ediv_le_self _ h0
 exact and_i64 wd (by omega) _ h2 (by omega)
theorem JM (n:Int) (lo wd:Nat) (hw:wd≤4):0≤n / 2 ^ lo % 2 ^ wd∧n / 2 ^ lo % 2 ^ wd<16:=by
 have hq:(0:Int)<2 ^ wd:=Int.pow_pos (by decide)
 have hq2:(2:Int) ^ wd≤16:=by
  have h2:((2 ^ wd:Nat):Int)≤((16:Nat):Int):=Int.ofNat_le.2 (Nat.pow_le_pow_right (n:=2) (by decide) hw)
  rw [Int.natCast_pow] at h2
  exact h2
 have:=Int.emod_nonneg (n / 2 ^ lo) (Int.ne_of_gt hq)
 have:=Int.emod_lt_of_pos (n / 2 ^ lo) hq
 omega
def Kk (low width n:Int):Prop:=(0≤n∧n<32768)∧(low=11∧width=3∨low=7∧width=4∨low=3∧width=4∨low=0∧width=3)
theorem part_sw (low width n:Int) (h:Kk low width n) :
  SW Tryz.prog ⟨none,0⟩ Tryz.f124.ntmps (Tryz.f124.body.getD .skip) ⟨0,aN 0 [(aR .i64).enc low,(aR .i64).enc width,tPI.enc n],[]⟩ (fa Tryz.prog Tryz.f124.results.toList (.ret (sv (Jt n low.toNat width.toNat)))):=by
 obtain ⟨⟨h0,h1⟩,h⟩:=h
 refine aC (ctx:=[⟨_,Ml⟩]) 4000 ?_
 rw [Tryz.ntmps124,Tryz.results124]
 simp only [Tryz.f124,Option.getD_some,aN]
 have hb:=WK n h0 h1
 rcases h with ⟨rfl,rfl⟩ | ⟨rfl,rfl⟩ | ⟨rfl,rfl⟩ | ⟨rfl,rfl⟩
 ·have hr:=JM n 11 3 (by decide)
  simp only [df,sx,List.map_nil,Int.le_refl,bD,bH,aw,au,ak,an,aa,dA,bw,ab,eK,eQ,dI,eOk,dY,et,Region.binds,bit,Hp,Nat.reduceOr,Nat.reducePow,Nat.reduceDiv,Nat.reduceMod,Nat.reduceBEq,Int.reduceLE,Int.reduceToNat,aOp,evT,aW,putT,aG,bC,bm,az,bO,List.getElem?_cons_zero,List.getElem?_cons_succ,List.map_cons,reduceIte,reduceCtorEq,Nat.reduceEqDiff,Nat.reduceAdd,Nat.reduceLT,Nat.reduceMul,decide_true,true_and,List.cons_append,List.nil_append,List.append_nil,and_self,Bool.true_and,Bool.and_self,Nat.zero_add,ac,bx,ax,ofD,ao,bG,aQ,bz,aN,be,bh,br,AV.toD,SV.toD,LV.toD,aV,aR,AV.plain,SV.plain,LV.plain,List.getD_eq_getElem?_getD,Option.getD_some,PO.ret.injEq,dE,cE,tPI]
  refine dc (ctx:=[⟨_,Ml⟩]) mixed [] (by kernel_rfl) ?_
  simp only [df,sx,List.map_nil,Int.le_refl,bD,bH,aw,au,ak,an,aa,dA,bw,ab,eK,eQ,dI,eOk,dY,et,Region.binds,bit,Hp,Nat.reduceOr,Nat.reducePow,Nat.reduceDiv,Nat.reduceMod,Nat.reduceBEq,Int.reduceLE,Int.reduceToNat,aOp,evT,aW,putT,aG,bC,bm,az,bO,List.getElem?_cons_zero,List.getElem?_cons_succ,List.map_cons,reduceIte,reduceCtorEq,Nat.reduceEqDiff,Nat.reduceAdd,Nat.reduceLT,Nat.reduceMul,decide_true,true_and,List.cons_append,List.nil_append,List.append_nil,and_self,Bool.true_and,Bool.and_self,Nat.zero_add,ac,bx,ax,ofD,ao,bG,aQ,bz,aN,be,bh,br,AV.toD,SV.toD,LV.toD,aV,aR,AV.plain,SV.plain,LV.plain,List.getD_eq_getElem?_getD,Option.getD_some,PO.ret.injEq,dE,cE,tPI,Jv,Js]
  rw [hb 11 3 (by decide) (by decide)]
  exact ⟨by omega,rfl⟩
 ·have hr:=JM n 7 4 (by decide)
  simp only [df,sx,List.map_nil,Int.le_refl,bD,bH,aw,au,ak,an,aa,dA,bw,ab,eK,eQ,dI,eOk,dY,et,Region.binds,bit,Hp,Nat.reduceOr,Nat.reducePow,Nat.reduceDiv,Nat.reduceMod,Nat.reduceBEq,Int.reduceLE,Int.reduceToNat,aOp,evT,aW,putT,aG,bC,bm,az,bO,List.getElem?_cons_zero,List.getElem?_cons_succ,List.map_cons,reduceIte,reduceCtorEq,Nat.reduceEqDiff,Nat.reduceAdd,Nat.reduceLT,Nat.reduceMul,decide_true,true_and,List.cons_append,List.nil_append,List.append_nil,and_self,Bool.true_and,Bool.and_self,Nat.zero_add,ac,bx,ax,ofD,ao,bG,aQ,bz,aN,be,bh,br,AV.toD,SV.toD,LV.toD,aV,aR,AV.plain,SV.plain,LV.plain,List.getD_eq_getElem?_getD,Option.getD_some,PO.ret.injEq,dE,cE,tPI]
  refine dc (ctx:=[⟨_,Ml⟩]) mixed [] (by kernel_rfl) ?_
  simp only [df,sx,List.map_nil,Int.le_refl,bD,bH,aw,au,ak,an,aa,dA,bw,ab,eK,eQ,dI,eOk,dY,et,Region.binds,bit,Hp,Nat.reduceOr,Nat.reducePow,Nat.reduceDiv,Nat.reduceMod,Nat.reduceBEq,Int.reduceLE,Int.reduceToNat,aOp,evT,aW,putT,aG,bC,bm,az,bO,List.getElem?_cons_zero,List.getElem?_cons_succ,List.map_cons,reduceIte,reduceCtorEq,Nat.reduceEqDiff,Nat.reduceAdd,Nat.reduceLT,Nat.reduceMul,decide_true,true_and,List.cons_append,List.nil_append,List.append_nil,and_self,Bool.true_and,Bool.and_self,Nat.zero_add,ac,bx,ax,ofD,ao,bG,aQ,bz,aN,be,bh,br,AV.toD,SV.toD,LV.toD,aV,aR,AV.plain,SV.plain,LV.plain,List.getD_eq_getElem?_getD,Option.getD_some,PO.ret.injEq,dE,cE,tPI,Jv,Js]
  rw [hb 7 4 (by decide) (by decide)]
  exact ⟨by omega,rfl⟩
 ·have hr:=JM n 3 4 (by decide)
  simp only [df,sx,List.map_nil,Int.le_refl,bD,bH,aw,au,ak,an,aa,dA,bw,ab,eK,eQ,dI,eOk,dY,et,Region.binds,bit,Hp,Nat.reduceOr,Nat.reducePow,Nat.reduceDiv,Nat.reduceMod,Nat.reduceBEq,Int.reduceLE,Int.reduceToNat,aOp,evT,aW,putT,aG,bC,bm,az,bO,List.getElem?_cons_zero,List.getElem?_cons_succ,List.map_cons,reduceIte,reduceCtorEq,Nat.reduceEqDiff,Nat.reduceAdd,Nat.reduceLT,Nat.reduceMul,decide_true,true_and,List.cons_append,List.nil_append,List.append_nil,and_self,Bool.true_and,Bool.and_self,Nat.zero_add,ac,bx,ax,ofD,ao,bG,aQ,bz,aN,be,bh,br,AV.toD,SV.toD,LV.toD,aV,aR,AV.plain,SV.plain,LV.plain,List.getD_eq_getElem?_getD,Option.getD_some,PO.ret.injEq,dE,cE,tPI]
  refine dc (ctx:=[⟨_,Ml⟩]) mixed [] (by kernel_rfl) ?_
  simp only [df,sx,List.map_nil,Int.le_refl,bD,bH,aw,au,ak,an,aa,dA,bw,ab,eK,eQ,dI,eOk,dY,et,Region.binds,bit,Hp,Nat.reduceOr,Nat.reducePow,Nat.reduceDiv,Nat.reduceMod,Nat.reduceBEq,Int.reduceLE,Int.reduceToNat,aOp,evT,aW,putT,aG,bC,bm,az,bO,List.getElem?_cons_zero,List.getElem?_cons_succ,List.map_cons,reduceIte,reduceCtorEq,Nat.reduceEqDiff,Nat.reduceAdd,Nat.reduceLT,Nat.reduceMul,decide_true,true_and,List.cons_append,List.nil_append,List.append_nil,and_self,Bool.true_and,Bool.and_self,Nat.zero_add,ac,bx,ax,ofD,ao,bG,aQ,bz,aN,be,bh,br,AV.toD,SV.toD,LV.toD,aV,aR,AV.plain,SV.plain,LV.plain,List.getD_eq_getElem?_getD,Option.getD_some,PO.ret.injEq,dE,cE,tPI,Jv,Js]
  rw [hb 3 4 (by decide) (by decide)]
  exact ⟨by omega,rfl⟩
 ·have hr:=JM n 0 3 (by decide)
  simp only [df,sx,List.map_nil,Int.le_refl,bD,bH,aw,au,ak,an,aa,dA,bw,ab,eK,eQ,dI,eOk,dY,et,Region.binds,bit,Hp,Nat.reduceOr,Nat.reducePow,Nat.reduceDiv,Nat.reduceMod,Nat.reduceBEq,Int.reduceLE,Int.reduceToNat,aOp,evT,aW,putT,aG,bC,bm,az,bO,List.getElem?_cons_zero,List.getElem?_cons_succ,List.map_cons,reduceIte,reduceCtorEq,Nat.reduceEqDiff,Nat.reduceAdd,Nat.reduceLT,Nat.reduceMul,decide_true,true_and,List.cons_append,List.nil_append,List.append_nil,and_self,Bool.true_and,Bool.and_self,Nat.zero_add,ac,bx,ax,ofD,ao,bG,aQ,bz,aN,be,bh,br,AV.toD,SV.toD,LV.toD,aV,aR,AV.plain,SV.plain,LV.plain,List.getD_eq_getElem?_getD,Option.getD_some,PO.ret.injEq,dE,cE,tPI]
  refine dc (ctx:=[⟨_,Ml⟩]) mixed [] (by kernel_rfl) ?_
  simp only [df,sx,List.map_nil,Int.le_refl,bD,bH,aw,au,ak,an,aa,dA,bw,ab,eK,eQ,dI,eOk,dY,et,Region.binds,bit,Hp,Nat.reduceOr,Nat.reducePow,Nat.reduceDiv,Nat.reduceMod,Nat.reduceBEq,Int.reduceLE,Int.reduceToNat,aOp,evT,aW,putT,aG,bC,bm,az,bO,List.getElem?_cons_zero,List.getElem?_cons_succ,List.map_cons,reduceIte,reduceCtorEq,Nat.reduceEqDiff,Nat.reduceAdd,Nat.reduceLT,Nat.reduceMul,decide_true,true_and,List.cons_append,List.nil_append,List.append_nil,and_self,Bool.true_and,Bool.and_self,Nat.zero_add,ac,bx,ax,ofD,ao,bG,aQ,bz,aN,be,bh,br,AV.toD,SV.toD,LV.toD,aV,aR,AV.plain,SV.plain,LV.plain,List.getD_eq_getElem?_getD,Option.getD_some,PO.ret.injEq,dE,cE,tPI,Jv,Js]
  rw [hb 0 3 (by decide) (by decide)]
  exact ⟨by omega,rfl⟩
def Zx:cK Tryz.prog 124 :=
 mk3 _ _ _ Tryz.func124 rfl (fun _ _=>by go_simp) (aR .i64) (aR .i64) (tPI) ((fun l w n=>Kk l w n)) ((fun l w n=>.ret (sv (Jt n l.toNat w.toNat)))) (by rw [Tryz.ntmps124];decide) (fun l w n h=>part_sw l w n h)
theorem ZV {id:Nat} {h:aF} {args:List AV}:(Zx).run id h args=be (te (aR .i64) (aR .i64) (tPI) ((fun l w n=>Kk l w n))) (fun x=>((fun l w n=>.ret (sv (Jt n l.toNat w.toNat)))) x.1 x.2.1 x.2.2) h args:=rfl
theorem aaa {id:Nat} {h:aF} {args:List AV}:(Zx).pan id h args=bi (te (aR .i64) (aR .i64) (tPI) ((fun l w n=>Kk l w n))) (fun x=>((fun l w n=>.ret (sv (Jt n l.toNat w.toNat)))) x.1 x.2.1 x.2.2) h args:=rfl
theorem Uw (n:Int) (h:0≤n∧n<32768):SW Tryz.prog ⟨none,0⟩ Tryz.f67.ntmps (Tryz.f67.body.getD .skip) ⟨0,aN 0 [(aR .i64).enc n],[]⟩ (fa Tryz.prog Tryz.f67.results.toList (.ret (sv (fS n)))):=by
 obtain ⟨h0,h1⟩:=h
 refine aC (ctx:=[⟨_,Ml⟩,⟨_,Zx⟩]) 4000 ?_
 rw [Tryz.ntmps67,Tryz.results67]
 simp only [Tryz.f67,Option.getD_some,aN]
 have e1:n.fdiv (2 ^ min 14 IntKind.i64.bits)=n / 16384:=by
  rw [show min 14 IntKind.i64.bits=14 from rfl,Int.fdiv_eq_ediv_of_nonneg _ (by decide)]
  rfl
 have e2:IntKind.i64.wrap (n / 16384+2)=n / 16384+2:=by rw [IntKind.wrap_i64];omega
 have q1:Kk 11 3 n:=⟨⟨h0,h1⟩,by omega⟩
 have q2:Kk 7 4 n:=⟨⟨h0,h1⟩,by omega⟩
 have q3:Kk 3 4 n:=⟨⟨h0,h1⟩,by omega⟩
 have q4:Kk 0 3 n:=⟨⟨h0,h1⟩,by omega⟩
 have sz:=D5
 have z1:=sz (n / 16384+2)
 have z2:(Jt n 11 3).size≤3:=sz _
 have z3:(Jt n 7 4).size≤3:=sz _
 have z4:(Jt n 3 4).size≤3:=sz _
 have z5:(Jt n 0 3).size≤3:=sz _
 have hm:maxLen=9223372036854775807:=rfl
 have c1:(⟨#[115]⟩:ByteArray).size=1:=rfl
 have c2:(⟨#[95]⟩:ByteArray).size=1:=rfl
 have c3:(⟨#[95,99]⟩:ByteArray).size=2:=rfl
 have er:fS n=⟨#[115]⟩++eI (n / 16384+2)++⟨#[95]⟩++Jt n 11 3++⟨#[95,99]⟩++Jt n 7 4++⟨#[95,99]⟩++Jt n 3 4++⟨#[95]⟩++Jt n 0 3:=by
  unfold fS Jt
  rw [show n / 2 ^ 0 % 2 ^ 3=n % 8 by omega]
  rfl
 simp only [List.map_nil,bD,bH,aw,au,ak,an,aa,ab,Int.reduceLE,Int.reduceToNat,aOp,evT,aW,putT,aG,hget,bC,bm,cI,az,cellsOf,LV.one,Value.oneCell',bO,List.getElem?_cons_zero,List.map_cons,reduceIte,reduceCtorEq,Nat.reduceEqDiff,Nat.reduceAdd,Nat.reduceLT,Nat.reduceLeDiff,decide_true,true_and,and_true,List.cons_append,List.nil_append,List.append_nil,List.drop_zero,List.length_cons,List.length_nil,and_self,Bool.and_true,Bool.true_and,Bool.and_self,Nat.zero_add,ac,bx,bX,ax,i6,td,ofD,ao,bG,aQ,bz,aN,be,bi,bh,br,AV.toD,SV.toD,LV.toD,aV,te,aR,AV.plain,SV.plain,LV.plain,Option.getD_some,dE,cE,Jv,Js,ZV,aaa,tPI,e1,e2,q1,q2,q3,q4,er,ByteArray.size_append,c1,c2,c3,hm]
 omega
def My:cK Tryz.prog 67 :=
 mk1 _ _ _ Tryz.func67 rfl (fun _ _=>by go_simp) (aR .i64) ((fun n=>0≤n∧n<32768)) ((fun n=>.ret (sv (fS n)))) (by rw [Tryz.ntmps67];decide) (fun n h=>Uw n h)
theorem Ss {id:Nat} {h:aF} {args:List AV}:(My).run id h args=be (aV (aR .i64) ((fun n=>0≤n∧n<32768))) ((fun n=>.ret (sv (fS n)))) h args:=rfl
theorem To {id:Nat} {h:aF} {args:List AV}:(My).pan id h args=bi (aV (aR .i64) ((fun n=>0≤n∧n<32768))) ((fun n=>.ret (sv (fS n)))) h args:=rfl
theorem name_sw (k n:Int):SW Tryz.prog ⟨none,0⟩ Tryz.f30.ntmps (Tryz.f30.body.getD .skip) ⟨0,aN 0 [(aR .i64).enc k,(aR .i64).enc n],[]⟩ (fa Tryz.prog Tryz.f30.results.toList (.ret (cZ (cG k n)))):=by
 refine aC (ctx:=[⟨_,OS⟩,⟨_,CT⟩,⟨_,RD⟩,⟨_,My⟩]) 4000 ?_
 rw [Tryz.ntmps30,Tryz.results30]
 simp only [Tryz.f30,Option.getD_some,aN]
 by_cases hk:k=1
 ·subst hk
  by_cases h1:n<0
  ·simp only [List.map_nil,Nat.le_refl,List.length_map,bD,bH,Int.cast_ofNat_Int,aE,aP,aw,au,aH,ai,ak,an,ae,ah,aa,aB,aA,ap,ay,aK,aJ,ab,ar,aj,bN,aO,aI,bI,bt,cD,bn,bA,Int.reduceBEq,Int.reduceEq,ag,aq,aD,aOp,evT,aW,putT,aG,gAt,bL,hget,bC,bm,bB,cI,co,aX,bJ,ct,az,cellsOf,aU,bO,List.getElem?_cons_zero,List.getElem?_cons_succ,List.map_cons,Option.map_some,Int.toNat_natCast,Option.isSome_some,List.getElem?_map,reduceIte,reduceCtorEq,Nat.reduceEqDiff,Nat.reduceAdd,Nat.reduceLT,decide_true,decide_false,true_and,and_true,forall_const,not_true_eq_false,not_false_eq_true,List.cons_append,List.nil_append,List.append_nil,List.take_succ_cons,List.take_zero,List.drop_succ_cons,List.drop_zero,List.length_cons,List.length_nil,List.set_cons_zero,true_or,or_true,or_false,implies_true,Bool.false_eq_true,false_implies,and_self,Bool.and_true,Bool.true_and,Bool.and_self,Nat.zero_add,Nat.add_zero,ac,bx,bX,ax,LV.toD0,cz,ofD,cf,ao,bG,aQ,bV,bz,aN,be,bi,bh,br,AV.toD,SV.toD,LV.toD,aV,aR,cB,AV.plain,SV.plain,LV.plain,List.all_cons,List.all_nil,Int.natCast_nonneg,ge_iff_le,Option.getD_some,PO.ret.injEq,dE,cE,cN,bY,eF,eE,eS,dk,dB,dC,h1,cZ,cG,aS]
  by_cases h2:128≤n
  ·simp only [List.map_nil,Nat.le_refl,List.length_map,bD,bH,Int.cast_ofNat_Int,aE,aP,aw,au,aH,ai,ak,an,ae,ah,aa,aB,aA,ap,ay,aK,aJ,ab,ar,aj,bN,aO,aI,bI,bt,cD,bn,bA,Int.reduceBEq,Int.reduceEq,ag,aq,aD,aOp,evT,aW,putT,aG,gAt,bL,hget,bC,bm,bB,cI,co,aX,bJ,ct,az,cellsOf,aU,bO,List.getElem?_cons_zero,List.getElem?_cons_succ,List.map_cons,Option.map_some,Int.toNat_natCast,Option.isSome_some,List.getElem?_map,reduceIte,reduceCtorEq,Nat.reduceEqDiff,Nat.reduceAdd,Nat.reduceLT,decide_true,decide_false,true_and,and_true,forall_const,not_true_eq_false,not_false_eq_true,List.cons_append,List.nil_append,List.append_nil,List.take_succ_cons,List.take_zero,List.drop_succ_cons,List.drop_zero,List.length_cons,List.length_nil,List.set_cons_zero,true_or,or_true,or_false,implies_true,Bool.false_eq_true,false_implies,and_self,Bool.and_true,Bool.true_and,Bool.and_self,Nat.zero_add,Nat.add_zero,ac,bx,bX,ax,LV.toD0,cz,ofD,cf,ao,bG,aQ,bV,bz,aN,be,bi,bh,br,AV.toD,SV.toD,LV.toD,aV,aR,cB,AV.plain,SV.plain,LV.plain,List.all_cons,List.all_nil,Int.natCast_nonneg,ge_iff_le,Option.getD_some,PO.ret.injEq,dE,cE,cN,bY,eF,eE,eS,dk,dB,dC,h1,h2,cZ,cG,aS]
  have h3:0≤n∧n<128:=by omega
  simp only [List.map_nil,Nat.le_refl,List.length_map,bD,bH,Int.cast_ofNat_Int,aE,aP,aw,au,aH,ai,ak,an,ae,ah,aa,aB,aA,ap,ay,aK,aJ,ab,ar,aj,bN,aO,aI,bI,bt,cD,bn,bA,Int.reduceBEq,Int.reduceEq,ag,aq,aD,aOp,evT,aW,putT,aG,gAt,bL,hget,bC,bm,bB,cI,co,aX,bJ,ct,az,cellsOf,aU,bO,List.getElem?_cons_zero,List.getElem?_cons_succ,List.map_cons,Option.map_some,Int.toNat_natCast,Option.isSome_some,List.getElem?_map,reduceIte,reduceCtorEq,Nat.reduceEqDiff,Nat.reduceAdd,Nat.reduceLT,decide_true,decide_false,true_and,and_true,forall_const,not_true_eq_false,not_false_eq_true,List.cons_append,List.nil_append,List.append_nil,List.take_succ_cons,List.take_zero,List.drop_succ_cons,List.drop_zero,List.length_cons,List.length_nil,List.set_cons_zero,true_or,or_true,or_false,implies_true,Bool.false_eq_true,false_implies,and_self,Bool.and_true,Bool.true_and,Bool.and_self,Nat.zero_add,Nat.add_zero,ac,bx,bX,ax,LV.toD0,cz,ofD,cf,ao,bG,aQ,bV,bz,aN,be,bi,bh,br,AV.toD,SV.toD,LV.toD,aV,aR,cB,AV.plain,SV.plain,LV.plain,List.all_cons,List.all_nil,Int.natCast_nonneg,ge_iff_le,Option.getD_some,PO.ret.injEq,dE,cE,cN,bY,eF,eE,eS,dk,dB,dC,h1,h2,h3,cZ,cG,aS,M6,Nk,C4,CY,SB,fh]
 ·have loop:∀ (l:List (ByteArray×Int)) (Q:Exit→St→Prop) (c:Code) (s0:St),sj k=l→l.length≤100→Wk ⟨none,0⟩ s0 ⟨0,[(0,iv k),(1,iv n),(22,fF l),(23,iv l.length),(24,iv 0)],[]⟩→(∀ i,i≤l.length→(∀ (j:Nat) (r:ByteArray×Int),j<i→l[j]? = some r→¬r.2=n)→SW Tryz.prog ⟨none,0⟩ 47 c ⟨0,[(0,iv k),(1,iv n),(22,fF l),(23,iv l.length),(24,iv i)],[]⟩ (Lv ⟨none,0⟩ (fun i=>i≤l.length∧∀ (j:Nat) (r:ByteArray×Int),j<i→l[j]? = some r→¬r.2=n) (fun (i:Nat)=>(⟨0,[(0,iv k),(1,iv n),(22,fF l),(23,iv l.length),(24,iv i)],[]⟩:St)) (fun i=>l.length-i) i Q))→SW Tryz.prog ⟨none,0⟩ 47 (.loop c) s0 Q :=
   fun l Q c s0 _ _ hw hr=>fj (ι:=Nat) (fun i=>i≤l.length∧∀ (j:Nat) (r:ByteArray×Int),j<i→l[j]? = some r→¬r.2=n) _ (fun i=>l.length-i) 0 ⟨Nat.zero_le _,fun j r hj=>absurd hj (Nat.not_lt_zero j)⟩ hw (fun i hi=>hr i hi.1 hi.2)
  obtain ⟨l,hl⟩:∃ l,sj k=l:=⟨_,rfl⟩
  have hlen:l.length≤100:=by
   rw [← hl]
   unfold sj
   repeat' split
   all_goals decide
  by_cases hnil:l=[]
  have e:lR k=Ol:=by unfold lR;rw [hl,if_pos hnil]
  simp only [List.map_nil,Nat.le_refl,List.length_map,bD,bH,Int.cast_ofNat_Int,aE,aP,aw,au,aH,ai,ak,an,ae,ah,aa,aB,aA,ap,ay,aK,aJ,ab,ar,aj,bN,aO,aI,bI,bt,cD,bn,bA,Int.reduceBEq,Int.reduceEq,ag,aq,aD,aOp,evT,aW,putT,aG,gAt,bL,hget,bC,bm,bB,cI,co,aX,bJ,ct,az,cellsOf,aU,bO,List.getElem?_cons_zero,List.getElem?_cons_succ,List.map_cons,Option.map_some,Int.toNat_natCast,Option.isSome_some,List.getElem?_map,reduceIte,reduceCtorEq,Nat.reduceEqDiff,Nat.reduceAdd,Nat.reduceLT,decide_true,decide_false,true_and,and_true,forall_const,not_true_eq_false,not_false_eq_true,List.cons_append,List.nil_append,List.append_nil,List.take_succ_cons,List.take_zero,List.drop_succ_cons,List.drop_zero,List.length_cons,List.length_nil,List.set_cons_zero,true_or,or_true,or_false,implies_true,Bool.false_eq_true,false_implies,and_self,Bool.and_true,Bool.true_and,Bool.and_self,Nat.zero_add,Nat.add_zero,ac,bx,bX,ax,LV.toD0,cz,ofD,cf,ao,bG,aQ,bV,bz,aN,be,bi,bh,br,AV.toD,SV.toD,LV.toD,aV,aR,cB,AV.plain,SV.plain,LV.plain,List.all_cons,List.all_nil,Int.natCast_nonneg,ge_iff_le,Option.getD_some,PO.ret.injEq,dE,cE,cN,bY,eF,eE,eS,dk,dB,dC,hk,KX,K4,e,Ol]
  refine loop l _ _ _ hl hlen ((Wk.nilD 22 2 rfl).trans (Wk.renL [] (by simp) (by simp) (by simp) (by subst hnil;rfl) rfl)) (fun i hi hn=>?_)
  rotate_left
  have e:lR k=fF l:=by unfold lR;rw [hl,if_neg hnil]
  simp only [List.map_nil,Nat.le_refl,List.length_map,bD,bH,Int.cast_ofNat_Int,aE,aP,aw,au,aH,ai,ak,an,ae,ah,aa,aB,aA,ap,ay,aK,aJ,ab,ar,aj,bN,aO,aI,bI,bt,cD,bn,bA,Int.reduceBEq,Int.reduceEq,ag,aq,aD,aOp,evT,aW,putT,aG,gAt,bL,hget,bC,bm,bB,cI,co,aX,bJ,ct,az,cellsOf,aU,bO,List.getElem?_cons_zero,List.getElem?_cons_succ,List.map_cons,Option.map_some,Int.toNat_natCast,Option.isSome_some,List.getElem?_map,reduceIte,reduceCtorEq,Nat.reduceEqDiff,Nat.reduceAdd,Nat.reduceLT,decide_true,decide_false,true_and,and_true,forall_const,not_true_eq_false,not_false_eq_true,List.cons_append,List.nil_append,List.append_nil,List.take_succ_cons,List.take_zero,List.drop_succ_cons,List.drop_zero,List.length_cons,List.length_nil,List.set_cons_zero,true_or,or_true,or_false,implies_true,Bool.false_eq_true,false_implies,and_self,Bool.and_true,Bool.true_and,Bool.and_self,Nat.zero_add,Nat.add_zero,ac,bx,bX,ax,LV.toD0,cz,ofD,cf,ao,bG,aQ,bV,bz,aN,be,bi,bh,br,AV.toD,SV.toD,LV.toD,aV,aR,cB,AV.plain,SV.plain,LV.plain,List.all_cons,List.all_nil,Int.natCast_nonneg,ge_iff_le,Option.getD_some,PO.ret.injEq,dE,cE,cN,bY,eF,eE,eS,dk,dB,dC,hk,KX,K4,e]
  refine loop l _ _ _ hl hlen (Wk.renL [] (by simp) (by simp) (by simp) rfl rfl) (fun i hi hn=>?_)
  all_goals
   refine aC (ctx:=[⟨_,My⟩]) 4000 ?_
   rcases Nat.lt_or_ge i l.length with hlt | hge
   ·have hltI:(i:Int)<l.length:=by omega
    obtain ⟨r,hr⟩:∃ r,l[i]? = some r:=⟨_,List.getElem?_eq_getElem hlt⟩
    have ei:IntKind.i64.wrap ((i:Int)+1)=((i+1:Nat):Int):=by rw [IntKind.wrap_i64];omega
    by_cases hrn:r.2=n
    ·have er:cG k n=(r.1,0):=by unfold cG;rw [if_neg hk,hl,PV hn hr hrn]
     simp only [List.map_nil,Nat.le_refl,List.length_map,bD,bH,Int.cast_ofNat_Int,aE,aP,aw,au,aH,ai,ak,an,ae,ah,aa,aB,aA,ap,ay,aK,aJ,ab,ar,aj,bN,aO,aI,bI,bt,cD,bn,bA,Int.reduceBEq,Int.reduceEq,ag,aq,aD,aOp,evT,aW,putT,aG,gAt,bL,hget,bC,bm,bB,cI,co,aX,bJ,ct,az,cellsOf,aU,bO,List.getElem?_cons_zero,List.getElem?_cons_succ,List.map_cons,Option.map_some,Int.toNat_natCast,Option.isSome_some,List.getElem?_map,reduceIte,reduceCtorEq,Nat.reduceEqDiff,Nat.reduceAdd,Nat.reduceLT,decide_true,decide_false,true_and,and_true,forall_const,not_true_eq_false,not_false_eq_true,List.cons_append,List.nil_append,List.append_nil,List.take_succ_cons,List.take_zero,List.drop_succ_cons,List.drop_zero,List.length_cons,List.length_nil,List.set_cons_zero,true_or,or_true,or_false,implies_true,Bool.false_eq_true,false_implies,and_self,Bool.and_true,Bool.true_and,Bool.and_self,Nat.zero_add,Nat.add_zero,ac,bx,bX,ax,LV.toD0,cz,ofD,cf,ao,bG,aQ,bV,bz,aN,be,bi,bh,br,AV.toD,SV.toD,LV.toD,aV,aR,cB,AV.plain,SV.plain,LV.plain,List.all_cons,List.all_nil,Int.natCast_nonneg,ge_iff_le,Option.getD_some,PO.ret.injEq,dE,cE,cN,bY,eF,eE,eS,dk,dB,dC,hltI,hr,i8,hrn,er,cZ]
    ·simp only [List.map_nil,Nat.le_refl,List.length_map,bD,bH,Int.cast_ofNat_Int,aE,aP,aw,au,aH,ai,ak,an,ae,ah,aa,aB,aA,ap,ay,aK,aJ,ab,ar,aj,bN,aO,aI,bI,bt,cD,bn,bA,Int.reduceBEq,Int.reduceEq,ag,aq,aD,aOp,evT,aW,putT,aG,gAt,bL,hget,bC,bm,bB,cI,co,aX,bJ,ct,az,cellsOf,aU,bO,List.getElem?_cons_zero,List.getElem?_cons_succ,List.map_cons,Option.map_some,Int.toNat_natCast,Option.isSome_some,List.getElem?_map,reduceIte,reduceCtorEq,Nat.reduceEqDiff,Nat.reduceAdd,Nat.reduceLT,decide_true,decide_false,true_and,and_true,forall_const,not_true_eq_false,not_false_eq_true,List.cons_append,List.nil_append,List.append_nil,List.take_succ_cons,List.take_zero,List.drop_succ_cons,List.drop_zero,List.length_cons,List.length_nil,List.set_cons_zero,true_or,or_true,or_false,implies_true,Bool.false_eq_true,false_implies,and_self,Bool.and_true,Bool.true_and,Bool.and_self,Nat.zero_add,Nat.add_zero,ac,bx,bX,ax,LV.toD0,cz,ofD,cf,ao,bG,aQ,bV,bz,aN,be,bi,bh,br,AV.toD,SV.toD,LV.toD,aV,aR,cB,AV.plain,SV.plain,LV.plain,List.all_cons,List.all_nil,Int.natCast_nonneg,ge_iff_le,Option.getD_some,PO.ret.injEq,dE,cE,cN,bY,eF,eE,eS,dk,dB,dC,hltI,hr,i8,hrn,ei]
     refine ⟨i+1,⟨hlt,fun j r' hj hr'=>?_⟩,by omega,Wk.renL [] (by simp) (by simp) (by simp) rfl rfl⟩
     by_cases e2:j=i
     ·subst e2
      rw [hr] at hr'
      injection hr' with hr'
      rw [← hr']
      exact hrn
     ·exact hn j r' (by omega) hr'
   ·obtain rfl:i=l.length:=by omega
    have hI:¬(l.length:Int)<l.length:=by omega
    have hno:=NG hn
    by_cases hs:k=6∧0≤n∧n<32768
    ·have er:cG k n=(fS n,0):=by unfold cG;rw [if_neg hk,hl,hno];simp only [hs,and_self,if_true]
     simp only [List.map_nil,Nat.le_refl,List.length_map,bD,bH,Int.cast_ofNat_Int,aE,aP,aw,au,aH,ai,ak,an,ae,ah,aa,aB,aA,ap,ay,aK,aJ,ab,ar,aj,bN,aO,aI,bI,bt,cD,bn,bA,Int.reduceBEq,Int.reduceEq,ag,aq,aD,aOp,evT,aW,putT,aG,gAt,bL,hget,bC,bm,bB,cI,co,aX,bJ,ct,az,cellsOf,aU,bO,List.getElem?_cons_zero,List.getElem?_cons_succ,List.map_cons,Option.map_some,Int.toNat_natCast,Option.isSome_some,List.getElem?_map,reduceIte,reduceCtorEq,Nat.reduceEqDiff,Nat.reduceAdd,Nat.reduceLT,decide_true,decide_false,true_and,and_true,forall_const,not_true_eq_false,not_false_eq_true,List.cons_append,List.nil_append,List.append_nil,List.take_succ_cons,List.take_zero,List.drop_succ_cons,List.drop_zero,List.length_cons,List.length_nil,List.set_cons_zero,true_or,or_true,or_false,implies_true,Bool.false_eq_true,false_implies,and_self,Bool.and_true,Bool.true_and,Bool.and_self,Nat.zero_add,Nat.add_zero,ac,bx,bX,ax,LV.toD0,cz,ofD,cf,ao,bG,aQ,bV,bz,aN,be,bi,bh,br,AV.toD,SV.toD,LV.toD,aV,aR,cB,AV.plain,SV.plain,LV.plain,List.all_cons,List.all_nil,Int.natCast_nonneg,ge_iff_le,Option.getD_some,PO.ret.injEq,dE,cE,cN,bY,eF,eE,eS,dk,dB,dC,hI,eq_true hs.1,hs.2.1,hs.2.2,Ss,To,er,cZ]
    ·have er:cG k n=(emp,30):=by unfold cG;rw [if_neg hk,hl,hno];simp only [hs,if_false]
     by_cases a1:k=6
     ·by_cases a2:0≤n
      ·have a3:¬n<32768:=fun h=>hs ⟨a1,a2,h⟩
       simp only [List.map_nil,Nat.le_refl,List.length_map,bD,bH,Int.cast_ofNat_Int,aE,aP,aw,au,aH,ai,ak,an,ae,ah,aa,aB,aA,ap,ay,aK,aJ,ab,ar,aj,bN,aO,aI,bI,bt,cD,bn,bA,Int.reduceBEq,Int.reduceEq,ag,aq,aD,aOp,evT,aW,putT,aG,gAt,bL,hget,bC,bm,bB,cI,co,aX,bJ,ct,az,cellsOf,aU,bO,List.getElem?_cons_zero,List.getElem?_cons_succ,List.map_cons,Option.map_some,Int.toNat_natCast,Option.isSome_some,List.getElem?_map,reduceIte,reduceCtorEq,Nat.reduceEqDiff,Nat.reduceAdd,Nat.reduceLT,decide_true,decide_false,true_and,and_true,forall_const,not_true_eq_false,not_false_eq_true,List.cons_append,List.nil_append,List.append_nil,List.take_succ_cons,List.take_zero,List.drop_succ_cons,List.drop_zero,List.length_cons,List.length_nil,List.set_cons_zero,true_or,or_true,or_false,implies_true,Bool.false_eq_true,false_implies,and_self,Bool.and_true,Bool.true_and,Bool.and_self,Nat.zero_add,Nat.add_zero,ac,bx,bX,ax,LV.toD0,cz,ofD,cf,ao,bG,aQ,bV,bz,aN,be,bi,bh,br,AV.toD,SV.toD,LV.toD,aV,aR,cB,AV.plain,SV.plain,LV.plain,List.all_cons,List.all_nil,Int.natCast_nonneg,ge_iff_le,Option.getD_some,PO.ret.injEq,dE,cE,cN,bY,eF,eE,eS,dk,dB,dC,hI,eq_true a1,a2,a3,er,cZ,aS]
      ·simp only [List.map_nil,Nat.le_refl,List.length_map,bD,bH,Int.cast_ofNat_Int,aE,aP,aw,au,aH,ai,ak,an,ae,ah,aa,aB,aA,ap,ay,aK,aJ,ab,ar,aj,bN,aO,aI,bI,bt,cD,bn,bA,Int.reduceBEq,Int.reduceEq,ag,aq,aD,aOp,evT,aW,putT,aG,gAt,bL,hget,bC,bm,bB,cI,co,aX,bJ,ct,az,cellsOf,aU,bO,List.getElem?_cons_zero,List.getElem?_cons_succ,List.map_cons,Option.map_some,Int.toNat_natCast,Option.isSome_some,List.getElem?_map,reduceIte,reduceCtorEq,Nat.reduceEqDiff,Nat.reduceAdd,Nat.reduceLT,decide_true,decide_false,true_and,and_true,forall_const,not_true_eq_false,not_false_eq_true,List.cons_append,List.nil_append,List.append_nil,List.take_succ_cons,List.take_zero,List.drop_succ_cons,List.drop_zero,List.length_cons,List.length_nil,List.set_cons_zero,true_or,or_true,or_false,implies_true,Bool.false_eq_true,false_implies,and_self,Bool.and_true,Bool.true_and,Bool.and_self,Nat.zero_add,Nat.add_zero,ac,bx,bX,ax,LV.toD0,cz,ofD,cf,ao,bG,aQ,bV,bz,aN,be,bi,bh,br,AV.toD,SV.toD,LV.toD,aV,aR,cB,AV.plain,SV.plain,LV.plain,List.all_cons,List.all_nil,Int.natCast_nonneg,ge_iff_le,Option.getD_some,PO.ret.injEq,dE,cE,cN,bY,eF,eE,eS,dk,dB,dC,hI,eq_true a1,a2,er,cZ,aS]
     ·simp only [List.map_nil,Nat.le_refl,List.length_map,bD,bH,Int.cast_ofNat_Int,aE,aP,aw,au,aH,ai,ak,an,ae,ah,aa,aB,aA,ap,ay,aK,aJ,ab,ar,aj,bN,aO,aI,bI,bt,cD,bn,bA,Int.reduceBEq,Int.reduceEq,ag,aq,aD,aOp,evT,aW,putT,aG,gAt,bL,hget,bC,bm,bB,cI,co,aX,bJ,ct,az,cellsOf,aU,bO,List.getElem?_cons_zero,List.getElem?_cons_succ,List.map_cons,Option.map_some,Int.toNat_natCast,Option.isSome_some,List.getElem?_map,reduceIte,reduceCtorEq,Nat.reduceEqDiff,Nat.reduceAdd,Nat.reduceLT,decide_true,decide_false,true_and,and_true,forall_const,not_true_eq_false,not_false_eq_true,List.cons_append,List.nil_append,List.append_nil,List.take_succ_cons,List.take_zero,List.drop_succ_cons,List.drop_zero,List.length_cons,List.length_nil,List.set_cons_zero,true_or,or_true,or_false,implies_true,Bool.false_eq_true,false_implies,and_self,Bool.and_true,Bool.true_and,Bool.and_self,Nat.zero_add,Nat.add_zero,ac,bx,bX,ax,LV.toD0,cz,ofD,cf,ao,bG,aQ,bV,bz,aN,be,bi,bh,br,AV.toD,SV.toD,LV.toD,aV,aR,cB,AV.plain,SV.plain,LV.plain,List.all_cons,List.all_nil,Int.natCast_nonneg,ge_iff_le,Option.getD_some,PO.ret.injEq,dE,cE,cN,bY,eF,eE,eS,dk,dB,dC,hI,a1,er,cZ,aS]
def SD:cK Tryz.prog 30 :=
 mk2 _ _ _ Tryz.func30 rfl (fun _ _=>by go_simp) (aR .i64) (aR .i64) ((fun _ _=>True)) ((fun k n=>.ret (cZ (cG k n)))) (by rw [Tryz.ntmps30];decide) (fun k n _=>name_sw k n)
theorem CW {id:Nat} {h:aF} {args:List AV}:(SD).run id h args=be (bE (aR .i64) (aR .i64) ((fun _ _=>True))) (fun x=>((fun k n=>.ret (cZ (cG k n)))) x.1 x.2) h args:=rfl
theorem C0 {id:Nat} {h:aF} {args:List AV}:(SD).pan id h args=bi (bE (aR .i64) (aR .i64) ((fun _ _=>True))) (fun x=>((fun k n=>.ret (cZ (cG k n)))) x.1 x.2) h args:=rfl
end Go.Proofs.YthcoegkfpinlfaaGreatDoor
