import Derived.Test.YtpjlafmhoifkmaaGreatN26
import Derived.Test.YtpjlafmhoifkmaaGreatN27
set_option linter.unusedVariables false
set_option linter.unusedSimpArgs false
set_option maxRecDepth 100000
set_option maxHeartbeats 8000000
namespace Go.Proofs.YtpjlafmhoifkmaaGreat
open Go.RowKit
def trN (x:Ins):ByteArray:=(dk x.b x.c).1
def trD (x:Ins):OpV:=if trN x=(⟨#[112,114,102,109]⟩:ByteArray) then oOf 8 x.rd else ab x.rd (dk x.b x.c).2.2
def oQ (x:Ins):ByteArray :=
 if x.ra=0 then (if trN x=(⟨#[112,114,102,109]⟩:ByteArray) then (⟨#[112,114,102,117,109]⟩:ByteArray) else (trN x).extract 0 2++(⟨#[117]⟩:ByteArray)++(trN x).extract 2 (trN x).size)
 else if x.ra=2 then (trN x).extract 0 2++(⟨#[116,114]⟩:ByteArray)++(trN x).extract 3 (trN x).size else trN x
def trL (x:Ins):cG :=
 if x.op=20 then (trN x,[trD x,bi x.rn 0 (x.a*2 ^ x.b.toNat)])
 else if x.op=21 then (oQ x,[trD x,bi x.rn (fF x.ra) x.a])
 else (trN x,[trD x,{ bi x.rn 3 0 with m:=⟨x.rm,decide (x.a % 2=1),false⟩,md:=u6 x.a,amt:=if x.s then x.b else -1 }])
theorem vo (s o:Int):(dk s o).1.size≤5:=by
 have h3:∀ n,((⟨#[115,116,114]⟩:ByteArray)++ak n [(⟨#[98]⟩:ByteArray),(⟨#[104]⟩:ByteArray),emp,emp]).size≤5:=fun n=>by
  rw [ByteArray.size_append]
  have:(ak n [(⟨#[98]⟩:ByteArray),(⟨#[104]⟩:ByteArray),emp,emp]).size≤1:=bz (by decide)
  have:((⟨#[115,116,114]⟩:ByteArray)).size=3:=rfl
  omega
 have h4:∀ n,((⟨#[108,100,114]⟩:ByteArray)++ak n [(⟨#[98]⟩:ByteArray),(⟨#[104]⟩:ByteArray),emp,emp]).size≤5:=fun n=>by
  rw [ByteArray.size_append]
  have:(ak n [(⟨#[98]⟩:ByteArray),(⟨#[104]⟩:ByteArray),emp,emp]).size≤1:=bz (by decide)
  have:((⟨#[108,100,114]⟩:ByteArray)).size=3:=rfl
  omega
 have h5:∀ n,((⟨#[108,100,114,115]⟩:ByteArray)++ak n [(⟨#[98]⟩:ByteArray),(⟨#[104]⟩:ByteArray),(⟨#[119]⟩:ByteArray)]).size≤5:=fun n=>by
  rw [ByteArray.size_append]
  have:(ak n [(⟨#[98]⟩:ByteArray),(⟨#[104]⟩:ByteArray),(⟨#[119]⟩:ByteArray)]).size≤1:=bz (by decide)
  have:((⟨#[108,100,114,115]⟩:ByteArray)).size=4:=rfl
  omega
 have h6:∀ n,((⟨#[108,100,114,115]⟩:ByteArray)++ak n [(⟨#[98]⟩:ByteArray),(⟨#[104]⟩:ByteArray)]).size≤5:=fun n=>by
  rw [ByteArray.size_append]
  have:(ak n [(⟨#[98]⟩:ByteArray),(⟨#[104]⟩:ByteArray)]).size≤1:=bz (by decide)
  have:((⟨#[108,100,114,115]⟩:ByteArray)).size=4:=rfl
  omega
 unfold dk
 repeat' split
 ·exact Nat.zero_le _
 ·exact h3 _
 ·exact h4 _
 ·decide
 ·exact h5 _
 ·exact h6 _
 ·exact Nat.zero_le _
def trQ (x:Ins):Prop:=20≤x.op∧x.op≤22∧(x.op=20→(0≤x.b∧x.b≤3)∧(-100000≤x.a∧x.a≤100000))∧(x.op=21→3≤(trN x).size)∧(x.op=22→0≤x.a∧x.a≤7)
theorem tr20 (x:Ins) (h:x.op=20) (hb:0≤x.b∧x.b≤3) (ha : -100000≤x.a∧x.a≤100000):SW Tryz.prog ⟨none,0⟩ Tryz.f127.ntmps (Tryz.f127.body.getD .skip) ⟨0,ag 0 [(am ae).enc x],[]⟩ (aH Tryz.prog Tryz.f127.results.toList (.ret (au (trL x)))):=by
 refine aa (ctx:=[⟨_,iN⟩,⟨_,eU⟩,⟨_,ofS⟩,⟨_,eI⟩]) 4000 ?_
 rw [Tryz.ntmps127,Tryz.results127]
 simp only [Tryz.f127,Option.getD_some,ag]
 obtain ⟨⟨N,L,W⟩,hT⟩:∃ T,dk x.b x.c=T:=⟨_,rfl⟩
 have hN:trN x=N:=by unfold trN;rw [hT]
 have b20:(x.op==20)=true:=by rw [h];decide
 have pw:IntKind.i64.wrap (x.a*2 ^ min x.b.toNat 64)=x.a*2 ^ x.b.toNat:=by
  have:x.b=0∨x.b=1∨x.b=2∨x.b=3:=by omega
  rcases this with h | h | h | h<;>rw [h]<;>(rw [IntKind.wrap_i64];simp<;>omega)
 by_cases hp:N=(⟨#[112,114,102,109]⟩:ByteArray)
 ·have e:trL x=(N,[oOf 8 x.rd,bi x.rn 0 (x.a*2 ^ x.b.toNat)]):=by unfold trL trD;rw [if_pos h,hN,if_pos hp]
  rw [e]
  simp only [go_sem,ae,cU,cT,dv,hT,eq_true hp,b20,pw,hb.1,bM,bL,dR,dQ,cg,cf,opV,oOf,bi,ab,op0,r0,opR,opE,emp,au]
 ·have e:trL x=(N,[ab x.rd W,bi x.rn 0 (x.a*2 ^ x.b.toNat)]):=by unfold trL trD;rw [if_pos h,hN,if_neg hp,hT]
  rw [e]
  simp only [go_sem,ae,cU,cT,dv,hT,hp,b20,pw,hb.1,bM,bL,dR,dQ,cg,cf,opV,oOf,bi,ab,op0,r0,opR,opE,emp,au]
theorem tr21 (x:Ins) (h:x.op=21) (hl:3≤(trN x).size):SW Tryz.prog ⟨none,0⟩ Tryz.f127.ntmps (Tryz.f127.body.getD .skip) ⟨0,ag 0 [(am ae).enc x],[]⟩ (aH Tryz.prog Tryz.f127.results.toList (.ret (au (trL x)))):=by
 refine aa (ctx:=[⟨_,iN⟩,⟨_,eU⟩,⟨_,ofS⟩,⟨_,eI⟩,⟨_,qw⟩]) 4000 ?_
 rw [Tryz.ntmps127,Tryz.results127]
 simp only [Tryz.f127,Option.getD_some,ag]
 obtain ⟨⟨N,L,W⟩,hT⟩:∃ T,dk x.b x.c=T:=⟨_,rfl⟩
 have hN:trN x=N:=by unfold trN;rw [hT]
 have hu:N.size≤5:=by rw [← hN];exact vo _ _
 rw [hN] at hl
 have b20:(x.op==20)=false:=by rw [h];decide
 have b21:(x.op==21)=true:=by rw [h];decide
 have i2:(2:Int)≤(N.size:Int):=by omega
 have i3:(3:Int)≤(N.size:Int):=by omega
 have n2:2≤N.size:=by omega
 have c1:((⟨#[117]⟩:ByteArray)).size=1:=rfl
 have c2:((⟨#[116,114]⟩:ByteArray)).size=2:=rfl
 have z2:(N.extract 0 2).size=2:=by rw [ByteArray.size_extract];omega
 have z3:(N.extract 2 N.size).size=N.size-2:=by rw [ByteArray.size_extract];omega
 have z4:(N.extract 3 N.size).size=N.size-3:=by rw [ByteArray.size_extract];omega
 have m1:2+1≤maxLen:=by unfold maxLen;omega
 have m2:2+1+(N.size-2)≤maxLen:=by unfold maxLen;omega
 have m3:2+2≤maxLen:=by unfold maxLen;omega
 have m4:2+2+(N.size-3)≤maxLen:=by unfold maxLen;omega
 by_cases r0':x.ra=0
 ·have q0:(x.ra==0)=true:=by rw [r0'];decide
  by_cases hp:N=(⟨#[112,114,102,109]⟩:ByteArray)
  ·have e:trL x=((⟨#[112,114,102,117,109]⟩:ByteArray),[oOf 8 x.rd,bi x.rn (fF x.ra) x.a]):=by unfold trL trD oQ;rw [if_neg (by omega),if_pos h,hN,if_pos r0',if_pos hp,if_pos hp]
   rw [e]
   simp only [go_sem,ae,cU,cT,dv,hT,eq_true hp,b20,b21,q0,fw,fG,bM,bL,dR,dQ,cg,cf,opV,oOf,bi,ab,op0,r0,opR,opE,emp,au]
  ·have e:trL x=(N.extract 0 2++(⟨#[117]⟩:ByteArray)++N.extract 2 N.size,[ab x.rd W,bi x.rn (fF x.ra) x.a]):=by unfold trL trD oQ;rw [if_neg (by omega),if_pos h,hN,if_pos r0',if_neg hp,if_neg hp,hT]
   rw [e]
   simp only [go_sem,ae,cU,cT,dv,hT,hp,b20,b21,q0,fw,fG,bM,bL,dR,dQ,cg,cf,opV,oOf,bi,ab,op0,r0,opR,opE,emp,au]
   refine aI (ctx:=[]) ax [] (by kernel_rfl) ?_
   simp only [go_sem,i2,i3,n2,z2,z3,c1,m1,m2]
 have q0:(x.ra==0)=false:=by simpa using r0'
 by_cases r2:x.ra=2
 ·have q2:(x.ra==2)=true:=by rw [r2];decide
  by_cases hp:N=(⟨#[112,114,102,109]⟩:ByteArray)
  ·have e:trL x=(N.extract 0 2++(⟨#[116,114]⟩:ByteArray)++N.extract 3 N.size,[oOf 8 x.rd,bi x.rn (fF x.ra) x.a]):=by unfold trL trD oQ;rw [if_neg (by omega),if_pos h,hN,if_neg r0',if_pos r2,if_pos hp]
   rw [e]
   simp only [go_sem,ae,cU,cT,dv,hT,eq_true hp,b20,b21,q0,q2,fw,fG,bM,bL,dR,dQ,cg,cf,opV,oOf,bi,ab,op0,r0,opR,opE,emp,au]
   refine aI (ctx:=[]) ax [] (by kernel_rfl) ?_
   simp only [go_sem,i2,i3,n2,z2,z4,c2,m3,m4]
  ·have e:trL x=(N.extract 0 2++(⟨#[116,114]⟩:ByteArray)++N.extract 3 N.size,[ab x.rd W,bi x.rn (fF x.ra) x.a]):=by unfold trL trD oQ;rw [if_neg (by omega),if_pos h,hN,if_neg r0',if_pos r2,if_neg hp,hT]
   rw [e]
   simp only [go_sem,ae,cU,cT,dv,hT,hp,b20,b21,q0,q2,fw,fG,bM,bL,dR,dQ,cg,cf,opV,oOf,bi,ab,op0,r0,opR,opE,emp,au]
   refine aI (ctx:=[]) ax [] (by kernel_rfl) ?_
   simp only [go_sem,i2,i3,n2,z2,z4,c2,m3,m4]
 have q2:(x.ra==2)=false:=by simpa using r2
 by_cases hp:N=(⟨#[112,114,102,109]⟩:ByteArray)
 ·have e:trL x=(N,[oOf 8 x.rd,bi x.rn (fF x.ra) x.a]):=by unfold trL trD oQ;rw [if_neg (by omega),if_pos h,hN,if_neg r0',if_neg r2,if_pos hp]
  rw [e]
  simp only [go_sem,ae,cU,cT,dv,hT,eq_true hp,b20,b21,q0,q2,fw,fG,bM,bL,dR,dQ,cg,cf,opV,oOf,bi,ab,op0,r0,opR,opE,emp,au]
 ·have e:trL x=(N,[ab x.rd W,bi x.rn (fF x.ra) x.a]):=by unfold trL trD oQ;rw [if_neg (by omega),if_pos h,hN,if_neg r0',if_neg r2,if_neg hp,hT]
  rw [e]
  simp only [go_sem,ae,cU,cT,dv,hT,hp,b20,b21,q0,q2,fw,fG,bM,bL,dR,dQ,cg,cf,opV,oOf,bi,ab,op0,r0,opR,opE,emp,au]
theorem tr22 (x:Ins) (h:x.op=22) (ha:0≤x.a∧x.a≤7):SW Tryz.prog ⟨none,0⟩ Tryz.f127.ntmps (Tryz.f127.body.getD .skip) ⟨0,ag 0 [(am ae).enc x],[]⟩ (aH Tryz.prog Tryz.f127.results.toList (.ret (au (trL x)))):=by
 refine aa (ctx:=[⟨_,iN⟩,⟨_,eU⟩,⟨_,ofS⟩,⟨_,eI⟩]) 4000 ?_
 rw [Tryz.ntmps127,Tryz.results127]
 simp only [Tryz.f127,Option.getD_some,ag]
 obtain ⟨⟨N,L,W⟩,hT⟩:∃ T,dk x.b x.c=T:=⟨_,rfl⟩
 have hN:trN x=N:=by unfold trN;rw [hT]
 have b20:(x.op==20)=false:=by rw [h];decide
 have b21:(x.op==21)=false:=by rw [h];decide
 have b22:(x.op==22)=true:=by rw [h];decide
 have e1:bits .and .i64 x.a 1=x.a % 2:=og 1 (by decide) x.a ha.1 (by omega)
 have e2:=eq3 (x.a % 2) 1
 obtain ⟨O,hO⟩:∃ O,trD x=O:=⟨_,rfl⟩
 cases hs:x.s
 all_goals
  have e:trL x=(N,[O,{ bi x.rn 3 0 with m:=⟨x.rm,decide (x.a % 2=1),false⟩,md:=u6 x.a,amt:=if x.s then x.b else -1 }]):=by unfold trL;rw [if_neg (by omega),if_neg (by omega),hN,hO]
  rw [e,hs]
  by_cases hp:N=(⟨#[112,114,102,109]⟩:ByteArray)
  ·have eO:O=oOf 8 x.rd:=by rw [← hO];unfold trD;rw [hN,if_pos hp]
   rw [eO]
   simp only [go_sem,ae,cU,cT,dv,hT,eq_true hp,b20,b21,b22,hs,e1,e2,bM,bL,dR,dQ,cg,cf,opV,oOf,bi,ab,op0,r0,opR,opE,emp]
   refine aI (ctx:=[⟨_,EK⟩,⟨_,jN⟩]) ax [5] (by kernel_rfl) ?_
   simp only [go_sem,hs,xf,wU,fD,fx,opV,cW,opR,opE,oOf,bi,ab,op0,r0,emp,au]
  ·have eO:O=ab x.rd W:=by rw [← hO];unfold trD;rw [hN,if_neg hp,hT]
   rw [eO]
   simp only [go_sem,ae,cU,cT,dv,hT,hp,b20,b21,b22,hs,e1,e2,bM,bL,dR,dQ,cg,cf,opV,oOf,bi,ab,op0,r0,opR,opE,emp]
   refine aI (ctx:=[⟨_,EK⟩,⟨_,jN⟩]) ax [5] (by kernel_rfl) ?_
   simp only [go_sem,hs,xf,wU,fD,fx,opV,cW,opR,opE,oOf,bi,ab,op0,r0,emp,au]
theorem za (x:Ins) (hq:trQ x):SW Tryz.prog ⟨none,0⟩ Tryz.f127.ntmps (Tryz.f127.body.getD .skip) ⟨0,ag 0 [(am ae).enc x],[]⟩ (aH Tryz.prog Tryz.f127.results.toList (.ret (au (trL x)))):=by
 obtain ⟨h1,h2,h3,h4,h5⟩:=hq
 have:x.op=20∨x.op=21∨x.op=22:=by omega
 rcases this with h | h | h
 ·exact tr20 x h (h3 h).1 (h3 h).2
 ·exact tr21 x h (h4 h)
 ·exact tr22 x h (h5 h)
def rA:aQ Tryz.prog 127 :=
 mk1 _ _ _ Tryz.func127 rfl (fun _ _=>by go_simp) (am ae) (trQ) ((fun x=>.ret (au (trL x)))) (by rw [Tryz.ntmps127];decide) (fun x h=>za x h)
theorem wF {id:Nat} {h:ah} {args:List AV}:(rA).run id h args=bm (av (am ae) (trQ)) ((fun x=>.ret (au (trL x)))) h args:=rfl
theorem vZ {id:Nat} {h:ah} {args:List AV}:(rA).pan id h args=bt (av (am ae) (trQ)) ((fun x=>.ret (au (trL x)))) h args:=rfl
def ldF (x:Ins):cG:=if x.op=18 then te x else if x.op=19 then ic x else if x.op=23 then exL x else trL x
def ldQ (x:Ins):Prop:=18≤x.op∧x.op≤23∧(x.op≤19 → -1000000≤x.a∧x.a≤1000000)∧(20≤x.op→x.op≤22→trQ x)
theorem ld19 (x:Ins) (h:x.op=19) (ha : -1000000≤x.a∧x.a≤1000000):SW Tryz.prog ⟨none,0⟩ Tryz.f62.ntmps (Tryz.f62.body.getD .skip) ⟨0,ag 0 [(am ae).enc x],[]⟩ (aH Tryz.prog Tryz.f62.results.toList (.ret (au (ic x)))):=by
 refine aa (ctx:=[⟨_,C3⟩]) 4000 ?_
 rw [Tryz.ntmps62,Tryz.results62]
 simp only [Tryz.f62,Option.getD_some,ag]
 have b1:(x.op==18)=false:=by rw [h];decide
 have b2:(x.op==19)=true:=by rw [h];decide
 simp only [go_sem,ae,b1,b2,BS,Ax,ha.1,ha.2,au]
theorem ld23 (x:Ins) (h:x.op=23):SW Tryz.prog ⟨none,0⟩ Tryz.f62.ntmps (Tryz.f62.body.getD .skip) ⟨0,ag 0 [(am ae).enc x],[]⟩ (aH Tryz.prog Tryz.f62.results.toList (.ret (au (exL x)))):=by
 refine aa (ctx:=[⟨_,kJ⟩]) 4000 ?_
 rw [Tryz.ntmps62,Tryz.results62]
 simp only [Tryz.f62,Option.getD_some,ag]
 have b1:(x.op==18)=false:=by rw [h];decide
 have b2:(x.op==19)=false:=by rw [h];decide
 have b3:(x.op==23)=true:=by rw [h];decide
 simp only [go_sem,ae,b1,b2,b3,pI,pN,au]
theorem ld20 (x:Ins) (h:20≤x.op∧x.op≤22) (ht:trQ x):SW Tryz.prog ⟨none,0⟩ Tryz.f62.ntmps (Tryz.f62.body.getD .skip) ⟨0,ag 0 [(am ae).enc x],[]⟩ (aH Tryz.prog Tryz.f62.results.toList (.ret (au (trL x)))):=by
 refine aa (ctx:=[⟨_,rA⟩]) 4000 ?_
 rw [Tryz.ntmps62,Tryz.results62]
 simp only [Tryz.f62,Option.getD_some,ag]
 have b1:(x.op==18)=false:=by simp;omega
 have b2:(x.op==19)=false:=by simp;omega
 have b3:(x.op==23)=false:=by simp;omega
 simp only [go_sem,ae,b1,b2,b3,wF,vZ,ht,au]
theorem Nr (x:Ins) (hq:ldQ x):SW Tryz.prog ⟨none,0⟩ Tryz.f62.ntmps (Tryz.f62.body.getD .skip) ⟨0,ag 0 [(am ae).enc x],[]⟩ (aH Tryz.prog Tryz.f62.results.toList (.ret (au (ldF x)))):=by
 obtain ⟨h1,h2,h3,h4⟩:=hq
 have:x.op=18∨x.op=19∨x.op=23∨(20≤x.op∧x.op≤22):=by omega
 rcases this with h | h | h | h
 ·have e:ldF x=te x:=by unfold ldF;rw [if_pos h]
  rw [e]
  exact ld18 x h (h3 (by omega))
 ·have e:ldF x=ic x:=by unfold ldF;rw [if_neg (by omega),if_pos h]
  rw [e]
  exact ld19 x h (h3 (by omega))
 ·have e:ldF x=exL x:=by unfold ldF;rw [if_neg (by omega),if_neg (by omega),if_pos h]
  rw [e]
  exact ld23 x h
 ·have e:ldF x=trL x:=by unfold ldF;rw [if_neg (by omega),if_neg (by omega),if_neg (by omega)]
  rw [e]
  exact ld20 x h (h4 h.1 h.2)
def vS:aQ Tryz.prog 62 :=
 mk1 _ _ _ Tryz.func62 rfl (fun _ _=>by go_simp) (am ae) (ldQ) ((fun x=>.ret (au (ldF x)))) (by rw [Tryz.ntmps62];decide) (fun x h=>Nr x h)
theorem zp {id:Nat} {h:ah} {args:List AV}:(vS).run id h args=bm (av (am ae) (ldQ)) ((fun x=>.ret (au (ldF x)))) h args:=rfl
theorem zo {id:Nat} {h:ah} {args:List AV}:(vS).pan id h args=bt (av (am ae) (ldQ)) ((fun x=>.ret (au (ldF x)))) h args:=rfl
end Go.Proofs.YtpjlafmhoifkmaaGreat
