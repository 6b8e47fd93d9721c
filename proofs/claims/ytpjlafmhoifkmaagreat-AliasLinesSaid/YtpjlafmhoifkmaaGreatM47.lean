import Derived.Test.YtpjlafmhoifkmaaGreatM40
import Derived.Test.YtpjlafmhoifkmaaGreatM41
import Derived.Test.YtpjlafmhoifkmaaGreatM33
import Derived.Test.YtpjlafmhoifkmaaGreatM45
import Derived.Test.YtpjlafmhoifkmaaGreatM22
set_option linter.unusedVariables false
set_option linter.unusedSimpArgs false
set_option maxRecDepth 100000
set_option maxHeartbeats 8000000
namespace Go.Proofs.YtpjlafmhoifkmaaGreat
section
open Go.RowKit
theorem u7 (z:Int) (h:0≤z∧z<10):(⟨#[48,49,50,51,52,53,54,55,56,57]⟩:ByteArray).extract z.toNat (z+1).toNat=cF [48+z]:=by
 have:z=0∨z=1∨z=2∨z=3∨z=4∨z=5∨z=6∨z=7∨z=8∨z=9:=by omega
 rcases this with rfl | rfl | rfl | rfl | rfl | rfl | rfl | rfl | rfl | rfl<;>decide
def tens:ByteArray:=⟨#[48,49,50,51,52,53,54,55,56,57]⟩
theorem NO:tens.size=10:=rfl
theorem Dc (n:Int) (h:0≤n∧n<100):SW Tryz.prog ⟨none,0⟩ Tryz.f149.ntmps (Tryz.f149.body.getD .skip) ⟨0,ag 0 [(ao .i64).enc n],[]⟩ (ax Tryz.prog Tryz.f149.results.toList (.ret (sv (fy n)))):=by
 obtain ⟨h0,h1⟩:=h
 refine aa (ctx:=[]) 4000 ?_
 rw [Tryz.ntmps149,Tryz.results149]
 simp only [Tryz.f149,Option.getD_some,ag]
 have d2:n.tdiv 10=n / 10:=Int.tdiv_eq_ediv_of_nonneg h0
 have d3:n.tmod 10=n % 10:=Int.tmod_eq_emod_of_nonneg h0
 by_cases h2:n<10
 ·have e1:IntKind.i64.wrap (n+1)=n+1:=by rw [IntKind.wrap_i64];omega
  simp only [go_sem,h2,e1,u7 n ⟨h0,h2⟩,fy]
  omega
 ·have e1:IntKind.i64.wrap (n / 10+1)=n / 10+1:=by rw [IntKind.wrap_i64];omega
  have e2:IntKind.i64.wrap (n % 10+1)=n % 10+1:=by rw [IntKind.wrap_i64];omega
  have e3:IntKind.i64.wrap (n / 10)=n / 10:=by rw [IntKind.wrap_i64];omega
  simp only [go_sem,h2]
  refine aP (ctx:=[]) ak [] (by kernel_rfl) ?_
  simp only [go_sem,h2,d2,d3,e1,e2,e3,u7 (n / 10) (by omega),u7 (n % 10) (by omega),fy]
  rw [iM,iM,if_pos h1,ri]
  exact ⟨by omega,by omega,by simp [maxLen],rfl⟩
def zt:aJ Tryz.prog 149 :=
 mk1 _ _ _ Tryz.func149 rfl (fun _ _=>by go_simp) (ao .i64) ((fun n=>0≤n∧n<100)) ((fun n=>.ret (sv (fy n)))) (by rw [Tryz.ntmps149];decide) (fun n h=>Dc n h)
theorem BB {id:Nat} {h:am} {args:List AV}:(zt).run id h args=aY (au (ao .i64) ((fun n=>0≤n∧n<100))) ((fun n=>.ret (sv (fy n)))) h args:=rfl
theorem Ct {id:Nat} {h:am} {args:List AV}:(zt).pan id h args=aZ (au (ao .i64) ((fun n=>0≤n∧n<100))) ((fun n=>.ret (sv (fy n)))) h args:=rfl
theorem wv (r:rq):SW Tryz.prog ⟨none,0⟩ Tryz.f145.ntmps (Tryz.f145.body.getD .skip) ⟨0,ag 0 [(ai du).enc r],[]⟩ (ax Tryz.prog Tryz.f145.results.toList (.ret (cf (cq r)))):=by
 obtain ⟨n,x,sp⟩:=r
 refine aa (ctx:=[⟨_,zt⟩]) 4000 ?_
 rw [Tryz.ntmps145,Tryz.results145]
 simp only [Tryz.f145,Option.getD_some,ag]
 have hz:(fy n).size≤3:=r8 n
 have e1:(1+(fy n).size:Nat)≤maxLen:=by unfold maxLen;omega
 have e2:(⟨#[119]⟩:ByteArray)=wS:=rfl
 have e3:(⟨#[120]⟩:ByteArray)=xS:=rfl
 by_cases h1:n<0
 ·cases x<;>cases sp<;>simp only [go_sem,du,h1,cf,cq,kb]
 by_cases h2:31<n
 ·cases x<;>cases sp<;>simp only [go_sem,du,h1,h2,cf,cq,kb]
 by_cases h3:n=31
 ·subst h3
  cases x<;>cases sp<;>simp only [go_sem,du,cf,cq,kb]<;>first | rfl | exact ⟨by decide,rfl⟩ | decide
 ·have h4:0≤n∧n<100:=by omega
  have h5:¬n > 31:=h2
  cases x<;>cases sp<;>simp only [go_sem,du,h1,h2,h3,h4,cf,cq,kb,BB,Ct,e2,e3,show wS.size=1 from rfl,show xS.size=1 from rfl,e1]
def mL:aJ Tryz.prog 145 :=
 mk1 _ _ _ Tryz.func145 rfl (fun _ _=>by go_simp) (ai du) ((fun _=>True)) ((fun r=>.ret (cf (cq r)))) (by rw [Tryz.ntmps145];decide) (fun r _=>wv r)
theorem cS {id:Nat} {h:am} {args:List AV}:(mL).run id h args=aY (au (ai du) ((fun _=>True))) ((fun r=>.ret (cf (cq r)))) h args:=rfl
theorem cT {id:Nat} {h:am} {args:List AV}:(mL).pan id h args=aZ (au (ai du) ((fun _=>True))) ((fun r=>.ret (cf (cq r)))) h args:=rfl
theorem uW {z:Nat} (h:z<18446744073709551616):IntKind.u64.wrap ((z:Nat):Int)=((z:Nat):Int):=by rw [lN];omega
theorem Ee {z:Nat} (h:z<65536):IntKind.i64.wrap ((z:Nat):Int)=((z:Nat):Int):=by rw [IntKind.wrap_i64];omega
def ml:aJ Tryz.prog 146 :=
 mk1 _ _ _ Tryz.func146 rfl (fun _ _=>by go_simp) (cW) ((fun _=>True)) ((fun x=>.ret (uv (cg x)))) (by rw [Tryz.ntmps146];decide) (fun x _=>by
 refine aa (ctx:=[]) 4000 ?_
 rw [Tryz.ntmps146,Tryz.results146]
 simp only [Tryz.f146,Option.getD_some,ag]
 cases x<;>simp only [go_sem,KG,KC]<;>rfl)
theorem cO {id:Nat} {h:am} {args:List AV}:(ml).run id h args=aY (au (cW) ((fun _=>True))) ((fun x=>.ret (uv (cg x)))) h args:=rfl
theorem cN {id:Nat} {h:am} {args:List AV}:(ml).pan id h args=aZ (au (cW) ((fun _=>True))) ((fun x=>.ret (uv (cg x)))) h args:=rfl
def sB (v:Nat) (x:Bool) (y:Nat×Nat):St:=⟨0,[(0,uv v),(1,bv x),(7,iv (jl x)),(8,uv (65536 ^ y.2 % 18446744073709551616)),(9,iv y.2)],[]⟩
theorem E6 (v:Nat) (hv:v<18446744073709551616) (x:Bool):SW Tryz.prog ⟨none,0⟩ Tryz.f147.ntmps (Tryz.f147.body.getD .skip) ⟨0,ag 0 [tU.enc (v:Int),cW.enc x],[]⟩ (ax Tryz.prog Tryz.f147.results.toList (.ret (es (gh v x)))):=by
 refine aa (ctx:=[]) 4000 ?_
 rw [Tryz.ntmps147,Tryz.results147]
 simp only [Tryz.f147,Option.getD_some,ag]
 have hn4:=vU x
 cases x
 ·simp only [go_sem,tU]
  refine cM (ι:=Nat×Nat) (fun y=>mm v (jl false) y.1 y.2=gh v false∧y.1+y.2=5) (sB v false) (fun y=>5-y.2) (5,0) ⟨rfl,rfl⟩ (Wk.renL [] (by simp) (Nat.zero_le _) (by decide) rfl rfl) ?_
  rintro ⟨f,c⟩ ⟨i1,i2⟩
  simp only at i1 i2
  refine aa (ctx:=[]) 4000 ?_
  by_cases hlt:c<jl false
  ·obtain ⟨f',rfl⟩:∃ f',f=f'+1:=⟨f-1,by omega⟩
   rw [mm,if_pos hlt] at i1
   have hltI:(c:Int)<(jl false:Int):=by omega
   have e6:IntKind.i64.wrap ((c:Int)+1)=((c+1:Nat):Int):=by rw [IntKind.wrap_i64];omega
   obtain ⟨U,hU⟩:∃ U,65536 ^ c % 18446744073709551616=U:=⟨_,rfl⟩
   have h4:c=0∨c=1∨c=2∨c=3:=by omega
   have hU2:U=2 ^ (16*c):=by rw [← hU];rcases h4 with rfl | rfl | rfl | rfl<;>rfl
   have hnx:IntKind.u64.wrap ((U:Int)*65536)=((65536 ^ (c+1) % 18446744073709551616:Nat):Int):=by rw [hU2];rcases h4 with rfl | rfl | rfl | rfl<;>decide
   have hpos:0<U:=by rw [hU2];exact Nat.two_pow_pos _
   have hU0:¬(U:Int)=0:=by omega
   have hm:(v:Int).tmod (U:Int)=((v % U:Nat):Int):=rfl
   have hd:(v:Int).tdiv (U:Int)=((v / U:Nat):Int):=rfl
   have hq:v / U<18446744073709551616:=Nat.lt_of_le_of_lt (Nat.div_le_self _ _) hv
   have hw:IntKind.u64.wrap ((v / U:Nat):Int)=((v / U:Nat):Int):=uW hq
   have hr:v % U<18446744073709551616:=Nat.lt_of_le_of_lt (Nat.mod_le _ _) hv
   have hwr:IntKind.u64.wrap ((v % U:Nat):Int)=((v % U:Nat):Int):=uW hr
   have hP:jY v c=(v % U==0&&decide (v / U<65536)):=by unfold jY;rw [hU2]
   by_cases m0:v % U=0
   ·have b0:(((v % U:Nat):Int)==0)=true:=by rw [m0];rfl
    by_cases q0:v / U<65536
    ·have q1:((v / U:Nat):Int)<65536:=by omega
     have hp:jY v c=true:=by rw [hP,m0];simpa using q0
     rw [if_pos hp] at i1
     have hF:gh v false=some (v / U,c):=by rw [← i1,hU2]
     have e5:IntKind.i64.wrap ((v / U:Nat):Int)=((v / U:Nat):Int):=Ee q0
     simp only [go_sem,sB,hltI,hU,hU0,hm,hd,hw,hwr,b0,q1,e5,hF,es]
    ·have q1:¬((v / U:Nat):Int)<65536:=by omega
     have hp:¬jY v c=true:=by rw [hP,m0];simpa using q0
     rw [if_neg hp] at i1
     simp only [go_sem,sB,hltI,hU,hU0,hm,hd,hw,hwr,b0,q1,e6,hnx]
     exact ⟨(f',c+1),⟨i1,by simp only;omega⟩,by simp only;omega,Wk.renL [] (by simp) (Nat.zero_le _) (by decide) rfl rfl⟩
   ·have b0:(((v % U:Nat):Int)==0)=false:=by
     simp only [beq_eq_false_iff_ne,ne_eq]
     omega
    have hp:¬jY v c=true:=by rw [hP];simp [m0]
    rw [if_neg hp] at i1
    simp only [go_sem,sB,hltI,hU,hU0,hm,hd,hw,hwr,b0,e6,hnx]
    exact ⟨(f',c+1),⟨i1,by simp only;omega⟩,by simp only;omega,Wk.renL [] (by simp) (Nat.zero_le _) (by decide) rfl rfl⟩
  ·have hltI:¬(c:Int)<(jl false:Int):=by omega
   have hF:gh v false=none:=by
    rw [← i1]
    cases f
    ·rfl
    ·rw [mm,if_neg hlt]
   simp only [go_sem,sB,hltI,hF,es]
 ·simp only [go_sem,tU]
  refine cM (ι:=Nat×Nat) (fun y=>mm v (jl true) y.1 y.2=gh v true∧y.1+y.2=5) (sB v true) (fun y=>5-y.2) (5,0) ⟨rfl,rfl⟩ (Wk.renL [] (by simp) (Nat.zero_le _) (by decide) rfl rfl) ?_
  rintro ⟨f,c⟩ ⟨i1,i2⟩
  simp only at i1 i2
  refine aa (ctx:=[]) 4000 ?_
  by_cases hlt:c<jl true
  ·obtain ⟨f',rfl⟩:∃ f',f=f'+1:=⟨f-1,by omega⟩
   rw [mm,if_pos hlt] at i1
   have hltI:(c:Int)<(jl true:Int):=by omega
   have e6:IntKind.i64.wrap ((c:Int)+1)=((c+1:Nat):Int):=by rw [IntKind.wrap_i64];omega
   obtain ⟨U,hU⟩:∃ U,65536 ^ c % 18446744073709551616=U:=⟨_,rfl⟩
   have h4:c=0∨c=1∨c=2∨c=3:=by omega
   have hU2:U=2 ^ (16*c):=by rw [← hU];rcases h4 with rfl | rfl | rfl | rfl<;>rfl
   have hnx:IntKind.u64.wrap ((U:Int)*65536)=((65536 ^ (c+1) % 18446744073709551616:Nat):Int):=by rw [hU2];rcases h4 with rfl | rfl | rfl | rfl<;>decide
   have hpos:0<U:=by rw [hU2];exact Nat.two_pow_pos _
   have hU0:¬(U:Int)=0:=by omega
   have hm:(v:Int).tmod (U:Int)=((v % U:Nat):Int):=rfl
   have hd:(v:Int).tdiv (U:Int)=((v / U:Nat):Int):=rfl
   have hq:v / U<18446744073709551616:=Nat.lt_of_le_of_lt (Nat.div_le_self _ _) hv
   have hw:IntKind.u64.wrap ((v / U:Nat):Int)=((v / U:Nat):Int):=uW hq
   have hr:v % U<18446744073709551616:=Nat.lt_of_le_of_lt (Nat.mod_le _ _) hv
   have hwr:IntKind.u64.wrap ((v % U:Nat):Int)=((v % U:Nat):Int):=uW hr
   have hP:jY v c=(v % U==0&&decide (v / U<65536)):=by unfold jY;rw [hU2]
   by_cases m0:v % U=0
   ·have b0:(((v % U:Nat):Int)==0)=true:=by rw [m0];rfl
    by_cases q0:v / U<65536
    ·have q1:((v / U:Nat):Int)<65536:=by omega
     have hp:jY v c=true:=by rw [hP,m0];simpa using q0
     rw [if_pos hp] at i1
     have hF:gh v true=some (v / U,c):=by rw [← i1,hU2]
     have e5:IntKind.i64.wrap ((v / U:Nat):Int)=((v / U:Nat):Int):=Ee q0
     simp only [go_sem,sB,hltI,hU,hU0,hm,hd,hw,hwr,b0,q1,e5,hF,es]
    ·have q1:¬((v / U:Nat):Int)<65536:=by omega
     have hp:¬jY v c=true:=by rw [hP,m0];simpa using q0
     rw [if_neg hp] at i1
     simp only [go_sem,sB,hltI,hU,hU0,hm,hd,hw,hwr,b0,q1,e6,hnx]
     exact ⟨(f',c+1),⟨i1,by simp only;omega⟩,by simp only;omega,Wk.renL [] (by simp) (Nat.zero_le _) (by decide) rfl rfl⟩
   ·have b0:(((v % U:Nat):Int)==0)=false:=by
     simp only [beq_eq_false_iff_ne,ne_eq]
     omega
    have hp:¬jY v c=true:=by rw [hP];simp [m0]
    rw [if_neg hp] at i1
    simp only [go_sem,sB,hltI,hU,hU0,hm,hd,hw,hwr,b0,e6,hnx]
    exact ⟨(f',c+1),⟨i1,by simp only;omega⟩,by simp only;omega,Wk.renL [] (by simp) (Nat.zero_le _) (by decide) rfl rfl⟩
  ·have hltI:¬(c:Int)<(jl true:Int):=by omega
   have hF:gh v true=none:=by
    rw [← i1]
    cases f
    ·rfl
    ·rw [mm,if_neg hlt]
   simp only [go_sem,sB,hltI,hF,es]
def o6:aJ Tryz.prog 147 :=
 mk2 _ _ _ Tryz.func147 rfl (fun _ _=>by go_simp) (tU) (cW) ((fun v _=>0≤v∧v<18446744073709551616)) ((fun v x=>.ret (es (gh v.toNat x)))) (by rw [Tryz.ntmps147];decide) (fun v x h=>by
 obtain ⟨v,rfl⟩:=Int.eq_ofNat_of_zero_le h.1
 exact E6 v (by omega) x)
theorem eU {id:Nat} {h:am} {args:List AV}:(o6).run id h args=aY (bT (tU) (cW) ((fun v _=>0≤v∧v<18446744073709551616))) (fun x=>((fun v x=>.ret (es (gh v.toNat x)))) x.1 x.2) h args:=rfl
theorem eW {id:Nat} {h:am} {args:List AV}:(o6).pan id h args=aZ (bT (tU) (cW) ((fun v _=>0≤v∧v<18446744073709551616))) (fun x=>((fun v x=>.ret (es (gh v.toNat x)))) x.1 x.2) h args:=rfl
def l4:aJ Tryz.prog 19 :=
 mk1 _ _ _ Tryz.func19 rfl (fun _ _=>by go_simp) (ao .i64) ((fun _=>True)) ((fun n=>.ret (iv (gt n)))) (by rw [Tryz.ntmps19];decide) (fun n _=>by
 refine aa (ctx:=[]) 4000 ?_
 rw [Tryz.ntmps19,Tryz.results19]
 simp only [Tryz.f19,Option.getD_some,ag]
 by_cases h1:n<0
 ·have e:gt n = -1:=by unfold gt;rw [if_pos (.inl h1)]
  simp only [go_sem,h1,e]
 by_cases h2:15<n
 ·have e:gt n = -1:=by unfold gt;rw [if_pos (.inr h2)]
  simp only [go_sem,h1,h2,e]
 have d:n.tmod 2=n % 2:=Int.tmod_eq_emod_of_nonneg (by omega)
 have w1:IntKind.i64.wrap (n+1)=n+1:=by rw [IntKind.wrap_i64];omega
 have w2:IntKind.i64.wrap (n-1)=n-1:=by rw [IntKind.wrap_i64];omega
 by_cases h3:n % 2=0
 ·have e:gt n=n+1:=by unfold gt;rw [if_neg (by omega),if_pos h3]
  simp only [go_sem,h1,h2,d,h3,w1,e]
 ·have e:gt n=n-1:=by unfold gt;rw [if_neg (by omega),if_neg h3]
  simp only [go_sem,h1,h2,d,h3,w2,e])
theorem pR {id:Nat} {h:am} {args:List AV}:(l4).run id h args=aY (au (ao .i64) ((fun _=>True))) ((fun n=>.ret (iv (gt n)))) h args:=rfl
theorem pN {id:Nat} {h:am} {args:List AV}:(l4).pan id h args=aZ (au (ao .i64) ((fun _=>True))) ((fun n=>.ret (iv (gt n)))) h args:=rfl
theorem AY (n:Int) (sp:Bool) (v:Nat) (hv:v<18446744073709551616):SW Tryz.prog ⟨none,0⟩ Tryz.f85.ntmps (Tryz.f85.body.getD .skip) ⟨0,ag 0 [(ai du).enc ⟨n,false,sp⟩,tU.enc (v:Int)],[]⟩ (ax Tryz.prog Tryz.f85.results.toList (.ret (dj (bR ⟨n,false,sp⟩ v)))):=by
 have t:∀ n:Nat,Int.toNat (n:Int)=n:=fun _=>rfl
 have hvI:(0:Int)≤v∧(v:Int)<18446744073709551616:=by omega
 have tw:Int.toNat 32=32:=rfl
 refine aa (ctx:=[⟨_,mL⟩,⟨_,ml⟩,⟨_,o6⟩,⟨_,n8⟩]) 4000 ?_
 rw [Tryz.ntmps85,Tryz.results85]
 simp only [Tryz.f85,Option.getD_some,ag]
 by_cases hr:(cq ⟨n,false,sp⟩).2=0
 case neg =>
  have e:bR ⟨n,false,sp⟩ v=(dC 0,1):=by unfold bR;rw [if_pos (.inl hr)]
  have hb:((cq ⟨n,false,sp⟩).2 !=0)=true:=by simpa using hr
  simp only [go_sem,tU,du,cS,cT,cf,hb,e,dj,az,dC]
 have hb:((cq ⟨n,false,sp⟩).2 !=0)=false:=by simpa using hr
 by_cases ho:cg false<v
 case pos =>
  have e:bR ⟨n,false,sp⟩ v=(dC 0,1):=by unfold bR;rw [if_pos (.inr ho)]
  have hoI:((cg false:Nat):Int)<v:=by omega
  simp only [go_sem,tU,du,cS,cT,cf,hb,cO,cN,hoI,e,dj,az,dC]
 have hoI:¬((cg false:Nat):Int)<v:=by omega
 have hno:¬(¬(cq ⟨n,false,sp⟩).2=0∨cg false<v):=by
  rintro (h | h)
  ·exact h hr
  ·exact ho h
 have hi:∀ z:Nat,IntKind.i64.wrap ((z:Nat):Int)=mI z:=fun _=>rfl
 have hx1:cg false<2 ^ 64:=lm false
 have hxo:=qV v false (by omega)
 have hxor:IntKind.u64.wrap (((cg false:Nat):Int)-(v:Int))=((v ^^^ cg false:Nat):Int):=by rw [lN,hxo];omega
 have hx2:(v ^^^ cg false)<18446744073709551616:=by rw [hxo];omega
 have hx2I:(0:Int)≤((v ^^^ cg false:Nat):Int)∧((v ^^^ cg false:Nat):Int)<18446744073709551616:=by omega
 have hfe:=nQ (v:=v) (w:=32) (by decide)
 obtain ⟨A,hA⟩:∃ A,(eN v 32).1=A:=⟨_,rfl⟩
 have hwN:wN false=32:=rfl
 cases sp
 case false =>
  cases h1:gh v false with
  | some y =>
   obtain ⟨a,c⟩:=y
   have e:bR ⟨n,false,false⟩ v=(⟨4,false,false,n,0,0,0,a,2,c⟩,0):=by unfold bR;rw [if_neg hno];simp [h1]
   simp only [go_sem,tU,du,cS,cT,cf,hb,cO,cN,hoI,eU,eW,hvI.1,hvI.2,t,h1,es,e,dj,az,dC]
  | none =>
   simp only [go_sem,tU,du,cS,cT,cf,hb,cO,cN,hoI,eU,eW,hvI.1,hvI.2,t,h1,es]
   refine aP (ctx:=[⟨_,ml⟩,⟨_,o6⟩]) ak [] (by kernel_rfl) ?_
   cases h2:gh (v ^^^ cg false) false with
   | some y =>
    obtain ⟨a,c⟩:=y
    have e:bR ⟨n,false,false⟩ v=(⟨4,false,false,n,0,0,0,a,0,c⟩,0):=by unfold bR;rw [if_neg hno];simp [h1,h2]
    simp only [go_sem,tU,du,cO,cN,eU,eW,hxor,hx2I.1,hx2I.2,t,h2,es,e,dj,az,dC]
   | none =>
    by_cases h3:(dF v 32).isSome=true
    ·have hF:eN v 32=(A,0):=by rw [← hA];exact Prod.ext rfl (by rw [hfe,if_pos h3])
     by_cases h4:n=31
     ·have e:bR ⟨n,false,false⟩ v=(dC 0,70):=by unfold bR;rw [if_neg hno];simp [h1,h2,h4]
      have hb4:(n==31)=true:=by simpa using h4
      simp only [go_sem,tU,du,cO,cN,eU,eW,hxor,hx2I.1,hx2I.2,t,tw,h2,es,da,cY,hvI.1,hvI.2,true_or,or_true,hF,cP,hb4,e,dj,az,dC]
     ·have e:bR ⟨n,false,false⟩ v=(⟨3,false,false,n,31,0,0,mI v,1,0⟩,0):=by unfold bR;rw [if_neg hno];simp [h1,h2,h3,h4,hwN]
      have hb4:(n==31)=false:=by simpa using h4
      simp only [go_sem,tU,du,cO,cN,eU,eW,hxor,hx2I.1,hx2I.2,t,tw,h2,es,da,cY,hvI.1,hvI.2,true_or,or_true,hF,cP,hb4,hi,e,dj,az,dC]
    ·have hF:eN v 32=(A,20):=by rw [← hA];exact Prod.ext rfl (by rw [hfe,if_neg h3])
     have e:bR ⟨n,false,false⟩ v=(dC 0,70):=by unfold bR;rw [if_neg hno];simp [h1,h2,h3,hwN]
     simp only [go_sem,tU,du,cO,cN,eU,eW,hxor,hx2I.1,hx2I.2,t,tw,h2,es,da,cY,hvI.1,hvI.2,true_or,or_true,hF,cP,e,dj,az,dC]
 case true =>
  by_cases h3:(dF v 32).isSome=true
  ·have hF:eN v 32=(A,0):=by rw [← hA];exact Prod.ext rfl (by rw [hfe,if_pos h3])
   have e:bR ⟨n,false,true⟩ v=(⟨3,false,false,n,31,0,0,mI v,1,0⟩,0):=by unfold bR;rw [if_neg hno];simp [h3,hwN]
   by_cases h4:n=31
   ·have hb4:(n==31)=true:=by simpa using h4
    simp only [go_sem,tU,du,cS,cT,cf,hb,cO,cN,hoI,t,tw,da,cY,hvI.1,hvI.2,true_or,or_true,hF,cP,hb4,hi,e,dj,az,dC]
   ·have hb4:(n==31)=false:=by simpa using h4
    simp only [go_sem,tU,du,cS,cT,cf,hb,cO,cN,hoI,t,tw,da,cY,hvI.1,hvI.2,true_or,or_true,hF,cP,hb4,hi,e,dj,az,dC]
  ·have hF:eN v 32=(A,20):=by rw [← hA];exact Prod.ext rfl (by rw [hfe,if_neg h3])
   have e:bR ⟨n,false,true⟩ v=(dC 0,70):=by unfold bR;rw [if_neg hno];simp [h3,hwN]
   simp only [go_sem,tU,du,cS,cT,cf,hb,cO,cN,hoI,t,tw,da,cY,hvI.1,hvI.2,true_or,or_true,hF,cP,e,dj,az,dC]
theorem BZ (n:Int) (sp:Bool) (v:Nat) (hv:v<18446744073709551616):SW Tryz.prog ⟨none,0⟩ Tryz.f85.ntmps (Tryz.f85.body.getD .skip) ⟨0,ag 0 [(ai du).enc ⟨n,true,sp⟩,tU.enc (v:Int)],[]⟩ (ax Tryz.prog Tryz.f85.results.toList (.ret (dj (bR ⟨n,true,sp⟩ v)))):=by
 have t:∀ n:Nat,Int.toNat (n:Int)=n:=fun _=>rfl
 have hvI:(0:Int)≤v∧(v:Int)<18446744073709551616:=by omega
 have tw:Int.toNat 64=64:=rfl
 refine aa (ctx:=[⟨_,mL⟩,⟨_,ml⟩,⟨_,o6⟩,⟨_,n8⟩]) 4000 ?_
 rw [Tryz.ntmps85,Tryz.results85]
 simp only [Tryz.f85,Option.getD_some,ag]
 by_cases hr:(cq ⟨n,true,sp⟩).2=0
 case neg =>
  have e:bR ⟨n,true,sp⟩ v=(dC 0,1):=by unfold bR;rw [if_pos (.inl hr)]
  have hb:((cq ⟨n,true,sp⟩).2 !=0)=true:=by simpa using hr
  simp only [go_sem,tU,du,cS,cT,cf,hb,e,dj,az,dC]
 have hb:((cq ⟨n,true,sp⟩).2 !=0)=false:=by simpa using hr
 by_cases ho:cg true<v
 case pos =>
  have e:bR ⟨n,true,sp⟩ v=(dC 0,1):=by unfold bR;rw [if_pos (.inr ho)]
  have hoI:((cg true:Nat):Int)<v:=by omega
  simp only [go_sem,tU,du,cS,cT,cf,hb,cO,cN,hoI,e,dj,az,dC]
 have hoI:¬((cg true:Nat):Int)<v:=by omega
 have hno:¬(¬(cq ⟨n,true,sp⟩).2=0∨cg true<v):=by
  rintro (h | h)
  ·exact h hr
  ·exact ho h
 have hi:∀ z:Nat,IntKind.i64.wrap ((z:Nat):Int)=mI z:=fun _=>rfl
 have hx1:cg true<2 ^ 64:=lm true
 have hxo:=qV v true (by omega)
 have hxor:IntKind.u64.wrap (((cg true:Nat):Int)-(v:Int))=((v ^^^ cg true:Nat):Int):=by rw [lN,hxo];omega
 have hx2:(v ^^^ cg true)<18446744073709551616:=by rw [hxo];omega
 have hx2I:(0:Int)≤((v ^^^ cg true:Nat):Int)∧((v ^^^ cg true:Nat):Int)<18446744073709551616:=by omega
 have hfe:=nQ (v:=v) (w:=64) (by decide)
 obtain ⟨A,hA⟩:∃ A,(eN v 64).1=A:=⟨_,rfl⟩
 have hwN:wN true=64:=rfl
 cases sp
 case false =>
  cases h1:gh v true with
  | some y =>
   obtain ⟨a,c⟩:=y
   have e:bR ⟨n,true,false⟩ v=(⟨4,true,false,n,0,0,0,a,2,c⟩,0):=by unfold bR;rw [if_neg hno];simp [h1]
   simp only [go_sem,tU,du,cS,cT,cf,hb,cO,cN,hoI,eU,eW,hvI.1,hvI.2,t,h1,es,e,dj,az,dC]
  | none =>
   simp only [go_sem,tU,du,cS,cT,cf,hb,cO,cN,hoI,eU,eW,hvI.1,hvI.2,t,h1,es]
   refine aP (ctx:=[⟨_,ml⟩,⟨_,o6⟩]) ak [] (by kernel_rfl) ?_
   cases h2:gh (v ^^^ cg true) true with
   | some y =>
    obtain ⟨a,c⟩:=y
    have e:bR ⟨n,true,false⟩ v=(⟨4,true,false,n,0,0,0,a,0,c⟩,0):=by unfold bR;rw [if_neg hno];simp [h1,h2]
    simp only [go_sem,tU,du,cO,cN,eU,eW,hxor,hx2I.1,hx2I.2,t,h2,es,e,dj,az,dC]
   | none =>
    by_cases h3:(dF v 64).isSome=true
    ·have hF:eN v 64=(A,0):=by rw [← hA];exact Prod.ext rfl (by rw [hfe,if_pos h3])
     by_cases h4:n=31
     ·have e:bR ⟨n,true,false⟩ v=(dC 0,70):=by unfold bR;rw [if_neg hno];simp [h1,h2,h4]
      have hb4:(n==31)=true:=by simpa using h4
      simp only [go_sem,tU,du,cO,cN,eU,eW,hxor,hx2I.1,hx2I.2,t,tw,h2,es,da,cY,hvI.1,hvI.2,true_or,or_true,hF,cP,hb4,e,dj,az,dC]
     ·have e:bR ⟨n,true,false⟩ v=(⟨3,true,false,n,31,0,0,mI v,1,0⟩,0):=by unfold bR;rw [if_neg hno];simp [h1,h2,h3,h4,hwN]
      have hb4:(n==31)=false:=by simpa using h4
      simp only [go_sem,tU,du,cO,cN,eU,eW,hxor,hx2I.1,hx2I.2,t,tw,h2,es,da,cY,hvI.1,hvI.2,true_or,or_true,hF,cP,hb4,hi,e,dj,az,dC]
    ·have hF:eN v 64=(A,20):=by rw [← hA];exact Prod.ext rfl (by rw [hfe,if_neg h3])
     have e:bR ⟨n,true,false⟩ v=(dC 0,70):=by unfold bR;rw [if_neg hno];simp [h1,h2,h3,hwN]
     simp only [go_sem,tU,du,cO,cN,eU,eW,hxor,hx2I.1,hx2I.2,t,tw,h2,es,da,cY,hvI.1,hvI.2,true_or,or_true,hF,cP,e,dj,az,dC]
 case true =>
  by_cases h3:(dF v 64).isSome=true
  ·have hF:eN v 64=(A,0):=by rw [← hA];exact Prod.ext rfl (by rw [hfe,if_pos h3])
   have e:bR ⟨n,true,true⟩ v=(⟨3,true,false,n,31,0,0,mI v,1,0⟩,0):=by unfold bR;rw [if_neg hno];simp [h3,hwN]
   by_cases h4:n=31
   ·have hb4:(n==31)=true:=by simpa using h4
    simp only [go_sem,tU,du,cS,cT,cf,hb,cO,cN,hoI,t,tw,da,cY,hvI.1,hvI.2,true_or,or_true,hF,cP,hb4,hi,e,dj,az,dC]
   ·have hb4:(n==31)=false:=by simpa using h4
    simp only [go_sem,tU,du,cS,cT,cf,hb,cO,cN,hoI,t,tw,da,cY,hvI.1,hvI.2,true_or,or_true,hF,cP,hb4,hi,e,dj,az,dC]
  ·have hF:eN v 64=(A,20):=by rw [← hA];exact Prod.ext rfl (by rw [hfe,if_neg h3])
   have e:bR ⟨n,true,true⟩ v=(dC 0,70):=by unfold bR;rw [if_neg hno];simp [h3,hwN]
   simp only [go_sem,tU,du,cS,cT,cf,hb,cO,cN,hoI,t,tw,da,cY,hvI.1,hvI.2,true_or,or_true,hF,cP,e,dj,az,dC]
def zE:aJ Tryz.prog 85 :=
 mk2 _ _ _ Tryz.func85 rfl (fun _ _=>by go_simp) (ai du) (tU) ((fun _ v=>0≤v∧v<18446744073709551616)) ((fun rd v=>.ret (dj (bR rd v.toNat)))) (by rw [Tryz.ntmps85];decide) (fun rd v h=>by
 obtain ⟨v,rfl⟩:=Int.eq_ofNat_of_zero_le h.1
 obtain ⟨n,x,sp⟩:=rd
 cases x
 ·exact AY n sp v (by omega)
 ·exact BZ n sp v (by omega))
theorem Br {id:Nat} {h:am} {args:List AV}:(zE).run id h args=aY (bT (ai du) (tU) ((fun _ v=>0≤v∧v<18446744073709551616))) (fun x=>((fun rd v=>.ret (dj (bR rd v.toNat)))) x.1 x.2) h args:=rfl
theorem Bw {id:Nat} {h:am} {args:List AV}:(zE).pan id h args=aZ (bT (ai du) (tU) ((fun _ v=>0≤v∧v<18446744073709551616))) (fun x=>((fun rd v=>.ret (dj (bR rd v.toNat)))) x.1 x.2) h args:=rfl
def rmI (x:Ins) (i:Nat):St:=⟨1,[(1,.s (.l (.p 0 0 0))),(3,uv (dg x.a*65536 ^ i % 18446744073709551616)),(4,iv i)],[(0,some ⟨true,27,10,[az x]⟩)]⟩
theorem AN (x:Ins) (hc:0≤x.c∧x.c≤3):SW Tryz.prog ⟨none,0⟩ Tryz.f86.ntmps (Tryz.f86.body.getD .skip) ⟨0,ag 0 [(ai ac).enc x],[]⟩ (ax Tryz.prog Tryz.f86.results.toList (.ret (iv (ip x)))):=by
 refine aa (ctx:=[⟨_,ml⟩]) 4000 ?_
 rw [Tryz.ntmps86,Tryz.results86]
 simp only [Tryz.f86,Option.getD_some,ag]
 have ht:=lp x.a
 have l1:=jA x.a
 have z0:dg x.a*65536 ^ 0 % 18446744073709551616=dg x.a:=by rw [Nat.pow_zero,Nat.mul_one];exact Nat.mod_eq_of_lt l1
 simp only [go_sem,ac,ht]
 refine cM (ι:=Nat) (fun i=>i≤x.c.toNat) (rmI x) (fun i=>x.c.toNat-i) 0 (Nat.zero_le _) (Wk.renL [0] (by simp) (Nat.le_refl 1) (by decide) (by simp [rmI,dD,AV.ren,SV.ren,LV.ren];omega) rfl) ?_
 intro i hi
 refine aa (ctx:=[⟨_,ml⟩]) 4000 ?_
 obtain ⟨P,hP⟩:∃ P,dg x.a*65536 ^ i % 18446744073709551616=P:=⟨_,rfl⟩
 have hP64:P<18446744073709551616:=by rw [← hP];exact Nat.mod_lt _ (by decide)
 by_cases hlt:i<x.c.toNat
 ·have hltI:(i:Int)<x.c:=by omega
  have ei:IntKind.i64.wrap ((i:Int)+1)=((i+1:Nat):Int):=by rw [IntKind.wrap_i64];omega
  have ep:IntKind.u64.wrap ((P:Int)*65536)=((dg x.a*65536 ^ (i+1) % 18446744073709551616:Nat):Int):=by
   rw [lN,Nat.pow_succ,← Nat.mul_assoc,Nat.mul_mod,hP]
   omega
  simp only [go_sem,rmI,az,hP,hltI,ei,ep]
  exact ⟨i+1,by omega,by omega,Wk.renL [0] (by simp) (Nat.le_refl 1) (by decide) rfl rfl⟩
 ·obtain rfl:i=x.c.toNat:=by omega
  have hltI:¬((x.c.toNat:Nat):Int)<x.c:=by omega
  have hi:∀ z:Nat,IntKind.i64.wrap ((z:Nat):Int)=mI z:=fun _=>rfl
  have hsv:yG x=P:=hP
  by_cases hb:x.b=0
  ·have hb1:(x.b==0)=true:=by simpa using hb
   have hm:ip x=mI ((cg x.x+18446744073709551616-P) % 18446744073709551616):=by unfold ip;rw [if_pos hb,hsv]
   have hol:=lm x.x
   have hs:IntKind.u64.wrap (((cg x.x:Nat):Int)-(P:Int))=(((cg x.x+18446744073709551616-P) % 18446744073709551616:Nat):Int):=by rw [lN];omega
   simp only [go_sem,rmI,az,hP,hltI,hb1,cO,cN,hs,hi,hm]
  ·have hb1:(x.b==0)=false:=by simpa using hb
   have hm:ip x=mI P:=by unfold ip;rw [if_neg hb,hsv]
   simp only [go_sem,rmI,az,hP,hltI,hb1,hi,hm]
def uC:aJ Tryz.prog 86 :=
 mk1 _ _ _ Tryz.func86 rfl (fun _ _=>by go_simp) (ai ac) ((fun x=>(0≤x.c∧x.c≤3)∧(0≤x.a∧x.a≤65535))) ((fun x=>.ret (iv (ip x)))) (by rw [Tryz.ntmps86];decide) (fun x h=>AN x h.1)
theorem yu {id:Nat} {h:am} {args:List AV}:(uC).run id h args=aY (au (ai ac) ((fun x=>(0≤x.c∧x.c≤3)∧(0≤x.a∧x.a≤65535)))) ((fun x=>.ret (iv (ip x)))) h args:=rfl
theorem x7 {id:Nat} {h:am} {args:List AV}:(uC).pan id h args=aZ (au (ai ac) ((fun x=>(0≤x.c∧x.c≤3)∧(0≤x.a∧x.a≤65535)))) ((fun x=>.ret (iv (ip x)))) h args:=rfl
end
section
open Go.RowKit
def CB:Ty (List OpV):=tSl 15 opR
theorem FR (l:List OpV):CB.dec (.s (.l (.d (.sd 15 (l.map opE)))))=some l:=gy l
theorem E2:CB.dec (.s (.l (.v (.slice none 0 0))))=some []:=rfl
def qE:aJ Tryz.prog 82 :=
 mk2 _ _ _ Tryz.func82 rfl (fun _ _=>by go_simp) (lH) (CB) ((fun _ _=>True)) ((fun s l=>.ret (aj (s,l)))) (by rw [Tryz.ntmps82];decide) (fun s l _=>by
 refine aa (ctx:=[]) 4000 ?_
 rw [Tryz.ntmps82,Tryz.results82]
 simp only [Tryz.f82,Option.getD_some,ag]
 simp only [go_sem,aj,CB,tSl,opR])
theorem yq {id:Nat} {h:am} {args:List AV}:(qE).run id h args=aY (bT (lH) (CB) ((fun _ _=>True))) (fun x=>((fun s l=>.ret (aj (s,l)))) x.1 x.2) h args:=rfl
theorem yV {id:Nat} {h:am} {args:List AV}:(qE).pan id h args=aZ (bT (lH) (CB) ((fun _ _=>True))) (fun x=>((fun s l=>.ret (aj (s,l)))) x.1 x.2) h args:=rfl
end
end Go.Proofs.YtpjlafmhoifkmaaGreat
