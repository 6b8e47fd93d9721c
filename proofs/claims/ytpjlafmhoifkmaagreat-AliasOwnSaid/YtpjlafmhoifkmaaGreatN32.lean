import Derived.Test.YtpjlafmhoifkmaaGreatN23
import Derived.Test.YtpjlafmhoifkmaaGreatN13
import Derived.Test.YtpjlafmhoifkmaaGreatN31
set_option linter.unusedVariables false
set_option linter.unusedSimpArgs false
set_option maxRecDepth 100000
set_option maxHeartbeats 8000000
namespace Go.Proofs.YtpjlafmhoifkmaaGreat
section
open Go.RowKit
theorem wi_c {x:Ins} (h:aP x=true):(x.op=19→0≤x.c∧x.c≤3)∧(x.op=21→0≤x.ra∧x.ra≤3)∧(x.op=31→2≤x.b∧x.b≤23):=by
 have ha:=k9 h
 obtain ⟨op,xx,ss,rd,rn,rm,ra,a,b,c⟩:=x
 refine ⟨fun e=>?_,fun e=>?_,fun e=>?_⟩<;>(simp only at e;subst e;simp [ac,l7,aU] at ha;simp [bY,cO] at ha;simp only [];omega)
def lN:aQ Tryz.prog 70 :=
 mk1 _ _ _ Tryz.func70 rfl (fun _ _=>by go_simp) (am ae) ((fun _=>True)) ((fun x=>.ret (bv (dL x)))) (by rw [Tryz.ntmps70];decide) (fun x _=>by
 refine aa (ctx:=[]) 4000 ?_
 rw [Tryz.ntmps70,Tryz.results70]
 simp only [Tryz.f70,Option.getD_some,ag]
 simp only [go_sem,ae]
 repeat' (first | (refine And.intro ?_ ?_) | (refine fun _=>?_))
 all_goals first | rfl | (exfalso;omega) | (unfold dL;simp [*];done) | (unfold dL;simp [*,db,dl];done) | (unfold dL;simp [*];omega))
theorem kV {id:Nat} {h:ah} {args:List AV}:(lN).run id h args=bm (av (am ae) ((fun _=>True))) ((fun x=>.ret (bv (dL x)))) h args:=rfl
theorem kN {id:Nat} {h:ah} {args:List AV}:(lN).pan id h args=bt (av (am ae) ((fun _=>True))) ((fun x=>.ret (bv (dL x)))) h args:=rfl
theorem Cp (x:Ins) (h:0≤x.c∧x.c≤3):SW Tryz.prog ⟨none,0⟩ Tryz.f69.ntmps (Tryz.f69.body.getD .skip) ⟨0,ag 0 [(am ae).enc x],[]⟩ (aH Tryz.prog Tryz.f69.results.toList (.ret (bv (gZ x)))):=by
 refine aa (ctx:=[]) 4000 ?_
 rw [Tryz.ntmps69,Tryz.results69]
 simp only [Tryz.f69,Option.getD_some,ag]
 obtain ⟨op,xx,ss,rd,rn,rm,ra,a,b,c⟩:=x
 simp only at h
 have h4:c=0∨c=1∨c=2∨c=3:=by omega
 have t0:(0:Int).tmod 2=0:=rfl
 have t1:(1:Int).tmod 2=1:=rfl
 have t2:(2:Int).tmod 2=0:=rfl
 have t3:(3:Int).tmod 2=1:=rfl
 rcases h4 with rfl | rfl | rfl | rfl<;>cases ss<;>simp only [go_sem,ae,t0,t1,t2,t3]
 all_goals
  repeat' (first | (refine And.intro ?_ ?_) | (refine fun _=>?_))
  all_goals first | rfl | (exfalso;omega) | (unfold gZ;simp [*];done) | (unfold gZ;simp [*,db,dl];done) | (unfold gZ;simp [*];omega)
def u9:aQ Tryz.prog 69 :=
 mk1 _ _ _ Tryz.func69 rfl (fun _ _=>by go_simp) (am ae) ((fun x=>0≤x.c∧x.c≤3)) ((fun x=>.ret (bv (gZ x)))) (by rw [Tryz.ntmps69];decide) (fun x h=>Cp x h)
theorem z5 {id:Nat} {h:ah} {args:List AV}:(u9).run id h args=bm (av (am ae) ((fun x=>0≤x.c∧x.c≤3))) ((fun x=>.ret (bv (gZ x)))) h args:=rfl
theorem yX {id:Nat} {h:ah} {args:List AV}:(u9).pan id h args=bt (av (am ae) ((fun x=>0≤x.c∧x.c≤3))) ((fun x=>.ret (bv (gZ x)))) h args:=rfl
def Dx:aQ Tryz.prog 72 :=
 mk1 _ _ _ Tryz.func72 rfl (fun _ _=>by go_simp) (am ae) ((fun x=>2≤x.b∧x.b≤23)) ((fun x=>.ret (bv (dK x)))) (by rw [Tryz.ntmps72];decide) (fun x h=>by
 refine aa (ctx:=[]) 4000 ?_
 rw [Tryz.ntmps72,Tryz.results72]
 simp only [Tryz.f72,Option.getD_some,ag]
 obtain ⟨op,xx,ss,rd,rn,rm,ra,a,b,c⟩:=x
 simp only at h
 cases xx<;>simp only [go_sem,ae]
 all_goals
  repeat' (first | (refine And.intro ?_ ?_) | (refine fun _=>?_))
  all_goals first | rfl | (exfalso;omega) | (unfold dK;simp [*];done) | (unfold dK;simp [*];omega))
theorem A7 {id:Nat} {h:ah} {args:List AV}:(Dx).run id h args=bm (av (am ae) ((fun x=>2≤x.b∧x.b≤23))) ((fun x=>.ret (bv (dK x)))) h args:=rfl
theorem DZ {id:Nat} {h:ah} {args:List AV}:(Dx).pan id h args=bt (av (am ae) ((fun x=>2≤x.b∧x.b≤23))) ((fun x=>.ret (bv (dK x)))) h args:=rfl
theorem BH (x:Ins):SW Tryz.prog ⟨none,0⟩ Tryz.f71.ntmps (Tryz.f71.body.getD .skip) ⟨0,ag 0 [(am ae).enc x],[]⟩ (aH Tryz.prog Tryz.f71.results.toList (.ret (bv (cV x)))):=by
 refine aa (ctx:=[]) 4000 ?_
 rw [Tryz.ntmps71,Tryz.results71]
 simp only [Tryz.f71,Option.getD_some,ag]
 obtain ⟨op,xx,ss,rd,rn,rm,ra,a,b,c⟩:=x
 have h3:a=1∨a=2∨(¬a=1∧¬a=2):=by omega
 rcases h3 with rfl | rfl | ⟨h1,h2⟩
 ·cases ss<;>cases xx<;>simp only [go_sem,ae]
  all_goals
   repeat' (first | (refine And.intro ?_ ?_) | (refine fun _=>?_))
   all_goals first | rfl | (exfalso;omega) | (unfold cV;simp [*];done) | (unfold cV;simp [*,db,dl];done) | (unfold cV;simp [*];omega) | (unfold cV;simp [*,db,dl];intro _;omega)
 ·cases ss<;>cases xx<;>simp only [go_sem,ae]
  all_goals
   repeat' (first | (refine And.intro ?_ ?_) | (refine fun _=>?_))
   all_goals first | rfl | (exfalso;omega) | (unfold cV;simp [*];done) | (unfold cV;simp [*,db,dl];done) | (unfold cV;simp [*];omega) | (unfold cV;simp [*,db,dl];intro _;omega)
 ·have b1:(a==1)=false:=by simpa using h1
  have b2:(a==2)=false:=by simpa using h2
  have b3:(a !=1)=true:=by simpa using h1
  cases ss<;>cases xx<;>simp only [go_sem,ae,b1,b2,b3]
  all_goals
   repeat' (first | (refine And.intro ?_ ?_) | (refine fun _=>?_))
   all_goals first | rfl | (exfalso;omega) | (unfold cV;simp [*];done) | (unfold cV;simp [*,db,dl];done) | (unfold cV;simp [*];omega) | (unfold cV;simp [*,db,dl];intro _;omega)
def wC:aQ Tryz.prog 71 :=
 mk1 _ _ _ Tryz.func71 rfl (fun _ _=>by go_simp) (am ae) ((fun _=>True)) ((fun x=>.ret (bv (cV x)))) (by rw [Tryz.ntmps71];decide) (fun x _=>BH x)
theorem zC {id:Nat} {h:ah} {args:List AV}:(wC).run id h args=bm (av (am ae) ((fun _=>True))) ((fun x=>.ret (bv (cV x)))) h args:=rfl
theorem xM {id:Nat} {h:ah} {args:List AV}:(wC).pan id h args=bt (av (am ae) ((fun _=>True))) ((fun x=>.ret (bv (cV x)))) h args:=rfl
end
section
open Go.RowKit
def rcI (x:Ins) (l:List Lim) (i:Nat):St:=⟨3,[(1,.s (.l (.p 0 0 0))),(2,.s (.l (.p 1 0 0))),(3,mM.enc l),(4,.s (.l (.p 2 0 0))),(5,iv i)],cnH x (jh x (l.take i) (bW x.op))⟩
theorem yh (x:Ins) (h:opQ x.op):SW Tryz.prog ⟨none,0⟩ Tryz.f67.ntmps (Tryz.f67.body.getD .skip) ⟨0,ag 0 [(am ae).enc x],[]⟩ (aH Tryz.prog Tryz.f67.results.toList (.ret (gW (bN x)))):=by
 refine aa (ctx:=[⟨_,jI⟩]) 4000 ?_
 rw [Tryz.ntmps67,Tryz.results67]
 simp only [Tryz.f67,Option.getD_some,ag]
 have hlen:=lI h
 have hfq:=nK h
 have hF:bN x=jh x (ac x.op) (bW x.op):=rfl
 have hlo:bV x.op=bq (ac x.op):=by unfold bV;exact if_pos h
 simp only [go_sem,ae,jx,jV,hlo,bq]
 obtain ⟨l,hl⟩:∃ l,ac x.op=l:=⟨_,rfl⟩
 rw [hl] at hlen hfq hF
 rw [hl,hF]
 refine cM (ι:=Nat) (fun i=>i≤l.length) (rcI x l) (fun i=>l.length-i) 0 (Nat.zero_le _) (Wk.renL [0,16,144] (by simp) (Nat.le_refl 3) (by decide) rfl rfl) ?_
 intro i hi
 obtain ⟨o,ho⟩:∃ o,jh x (l.take i) (bW x.op)=o:=⟨_,rfl⟩
 refine aa (ctx:=[]) 4000 ?_
 by_cases hlt:i<l.length
 ·have hltI:(i:Int)<l.length:=by omega
  obtain ⟨f,hf⟩:∃ f,l[i]? = some f:=⟨_,List.getElem?_eq_getElem hlt⟩
  have hq:=hfq f (List.mem_of_getElem? hf)
  have ei:IntKind.i64.wrap ((i:Int)+1)=((i+1:Nat):Int):=by rw [IntKind.wrap_i64];omega
  have hsn:=nb (x:=x) hf (bW x.op)
  rw [ho] at hsn
  simp only [go_sem,rcI,ho,cnH,eT,aw,hltI]
  refine aI (ctx:=[⟨_,w5⟩]) ax [] (by kernel_rfl) ?_
  simp only [go_sem,hf,jv,ae,lp,lq,ki,hq]
  refine aI (ctx:=[⟨_,Cg⟩]) ax [8] (by kernel_rfl) ?_
  simp only [go_sem,hf,jv,ae,CK,De,gW,aw,hq,ei]
  exact ⟨i+1,by omega,by omega,Wk.renL [0,1,2] (by simp) (Nat.le_refl 3) (by decide) rfl (by simp only [rcI,hsn,cnH,eT,aw];rfl)⟩
 ·obtain rfl:i=l.length:=by omega
  have hltI:¬(l.length:Int)<l.length:=by omega
  have ho':jh x l (bW x.op)=o:=by rw [← ho,List.take_length]
  simp only [go_sem,rcI,ho,ho',cnH,eT,aw,hltI,gW]
def qZ:aQ Tryz.prog 67 :=
 mk1 _ _ _ Tryz.func67 rfl (fun _ _=>by go_simp) (am ae) ((fun x=>opQ x.op)) ((fun x=>.ret (gW (bN x)))) (by rw [Tryz.ntmps67];decide) (fun x h=>yh x h)
theorem uK {id:Nat} {h:ah} {args:List AV}:(qZ).run id h args=bm (av (am ae) ((fun x=>opQ x.op))) ((fun x=>.ret (gW (bN x)))) h args:=rfl
theorem uX {id:Nat} {h:ah} {args:List AV}:(qZ).pan id h args=bt (av (am ae) ((fun x=>opQ x.op))) ((fun x=>.ret (gW (bN x)))) h args:=rfl
def rwI (x:Ins) (l:List Lim) (i:Nat):St:=⟨1,[(1,.s (.l (.p 0 0 0))),(3,mM.enc l),(4,iv i)],[(0,some (eT x))]⟩
theorem sR (x:Ins) (h:opQ x.op):SW Tryz.prog ⟨none,0⟩ Tryz.f28.ntmps (Tryz.f28.body.getD .skip) ⟨0,ag 0 [(am ae).enc x],[]⟩ (aH Tryz.prog Tryz.f28.results.toList (.ret (bv (aP x)))):=by
 refine aa (ctx:=[⟨_,jI⟩]) 4000 ?_
 rw [Tryz.ntmps28,Tryz.results28]
 simp only [Tryz.f28,Option.getD_some,ag]
 have hlen:=lI h
 have hfq:=nK h
 have hlo:bV x.op=bq (ac x.op):=by unfold bV;exact if_pos h
 simp only [go_sem,ae,jx,jV,hlo,bq]
 obtain ⟨l,hl⟩:∃ l,ac x.op=l:=⟨_,rfl⟩
 rw [hl] at hlen hfq ⊢
 refine cM (ι:=Nat) (fun i=>i≤l.length∧∀ j f,j<i→l[j]? = some f→bY x f=true) (rwI x l) (fun i=>l.length-i) 0 ⟨Nat.zero_le _,fun j f hj=>absurd hj (Nat.not_lt_zero _)⟩ (Wk.renL [0] (by simp) (Nat.le_refl 1) (by decide) rfl rfl) ?_
 rintro i ⟨hi,hinv⟩
 refine aa (ctx:=[]) 4000 ?_
 by_cases hlt:i<l.length
 ·have hltI:(i:Int)<l.length:=by omega
  obtain ⟨f,hf⟩:∃ f,l[i]? = some f:=⟨_,List.getElem?_eq_getElem hlt⟩
  have hq:=hfq f (List.mem_of_getElem? hf)
  have ei:IntKind.i64.wrap ((i:Int)+1)=((i+1:Nat):Int):=by rw [IntKind.wrap_i64];omega
  obtain ⟨v,hv⟩:∃ v,cO x f.1=v:=⟨_,rfl⟩
  have hbad:(v<f.2.1∨f.2.2<v)→aP x=false:=by
   intro hb
   have:bY x f=false:=by
    unfold bY
    rw [hv,Bool.and_eq_false_iff]
    rcases hb with hb | hb
    ·exact .inl (decide_eq_false (by omega))
    ·exact .inr (decide_eq_false (by omega))
   have ha:(ac x.op).all (bY x)=false:=by
    rw [hl,List.all_eq_false]
    exact ⟨f,List.mem_of_getElem? hf,by rw [this];simp⟩
   unfold aP
   rw [ha]
   rfl
  simp only [go_sem,rwI,eT,aw,hltI]
  refine aI (ctx:=[⟨_,w5⟩]) ax [] (by kernel_rfl) ?_
  by_cases h1:v<f.2.1
  ·have hw:=hbad (.inl h1)
   simp only [go_sem,hf,jv,ae,lp,lq,ki,hq,hv,h1,hw]
  ·by_cases h2:f.2.2<v
   ·have hw:=hbad (.inr h2)
    simp only [go_sem,hf,jv,ae,lp,lq,ki,hq,hv,h1,h2,hw]
   ·have hgood:bY x f=true:=by
     unfold bY
     rw [hv,Bool.and_eq_true]
     exact ⟨decide_eq_true (by omega),decide_eq_true (by omega)⟩
    simp only [go_sem,hf,jv,ae,lp,lq,ki,hq,hv,h1,h2,ei]
    refine ⟨i+1,⟨by omega,fun j f' hj hj'=>?_⟩,by omega,Wk.renL [0] (by simp) (Nat.le_refl 1) (by decide) rfl rfl⟩
    by_cases e:j=i
    ·subst e
     rw [hf] at hj'
     injection hj' with hj'
     rw [← hj']
     exact hgood
    ·exact hinv j f' (by omega) hj'
 ·obtain rfl:i=l.length:=by omega
  have hltI:¬(l.length:Int)<l.length:=by omega
  have hpos:(0:Int)<l.length:=by
   have:=hlen.2
   cases l with
   | nil=>cases this
   | cons=>simp
  simp only [go_sem,rwI,eT,aw,hltI]
  refine aI (ctx:=[⟨_,qZ⟩]) ax [] (by kernel_rfl) ?_
  obtain ⟨y,hy⟩:∃ y,bN x=y:=⟨_,rfl⟩
  simp only [go_sem,ae,uK,uX,h,hpos,gW,aw,hy,iu,mu,kM,oC,fK]
  have hW:aP x=decide (y=x):=by
   have ha:(ac x.op).all (bY x)=true:=by
    rw [hl,List.all_eq_true]
    intro f hf
    obtain ⟨j,hj,rfl⟩:=List.mem_iff_getElem.1 hf
    exact hinv j _ hj (List.getElem?_eq_getElem hj)
   unfold aP
   rw [ha,hl,hlen.2,hy]
   simp
  rw [hW,xm]
def rwN (x:Ins):St:=⟨1,[(1,.s (.l (.p 0 0 0))),(3,fQ),(4,iv 0)],[(0,some (eT x))]⟩
theorem vE (x:Ins) (h:¬opQ x.op):SW Tryz.prog ⟨none,0⟩ Tryz.f28.ntmps (Tryz.f28.body.getD .skip) ⟨0,ag 0 [(am ae).enc x],[]⟩ (aH Tryz.prog Tryz.f28.results.toList (.ret (bv false))):=by
 refine aa (ctx:=[⟨_,jI⟩]) 4000 ?_
 rw [Tryz.ntmps28,Tryz.results28]
 simp only [Tryz.f28,Option.getD_some,ag]
 have hlo:bV x.op=fQ:=by unfold bV;exact if_neg h
 simp only [go_sem,ae,jx,jV,hlo,fQ]
 refine cM (ι:=Unit) (fun _=>True) (fun _=>rwN x) (fun _=>0) () trivial (Wk.renL [0] (by simp) (Nat.le_refl 1) (by decide) rfl rfl) ?_
 intro _ _
 refine aa (ctx:=[]) 4000 ?_
 simp only [go_sem,rwN,eT,aw,fQ]
 refine aI (ctx:=[]) ax [] (by kernel_rfl) ?_
 simp only [go_sem,fQ]
theorem uL (x:Ins):SW Tryz.prog ⟨none,0⟩ Tryz.f28.ntmps (Tryz.f28.body.getD .skip) ⟨0,ag 0 [(am ae).enc x],[]⟩ (aH Tryz.prog Tryz.f28.results.toList (.ret (bv (aP x)))):=by
 by_cases h:opQ x.op
 ·exact sR x h
 ·have e:aP x=false:=by unfold aP;rw [sj h];simp
  rw [e]
  exact vE x h
def oH:aQ Tryz.prog 28 :=
 mk1 _ _ _ Tryz.func28 rfl (fun _ _=>by go_simp) (am ae) ((fun _=>True)) ((fun x=>.ret (bv (aP x)))) (by rw [Tryz.ntmps28];decide) (fun x _=>uL x)
theorem jP {id:Nat} {h:ah} {args:List AV}:(oH).run id h args=bm (av (am ae) ((fun _=>True))) ((fun x=>.ret (bv (aP x)))) h args:=rfl
theorem jT {id:Nat} {h:ah} {args:List AV}:(oH).pan id h args=bt (av (am ae) ((fun _=>True))) ((fun x=>.ret (bv (aP x)))) h args:=rfl
def mE:aQ Tryz.prog 68 :=
 mk1 _ _ _ Tryz.func68 rfl (fun _ _=>by go_simp) (am ae) ((fun _=>True)) ((fun x=>.ret (bv (ct x)))) (by rw [Tryz.ntmps68];decide) (fun x _=>by
 refine aa (ctx:=[⟨_,rb⟩]) 4000 ?_
 rw [Tryz.ntmps68,Tryz.results68]
 simp only [Tryz.f68,Option.getD_some,ag]
 have t:∀ n:Nat,Int.toNat (n:Int)=n:=fun _=>rfl
 have e1:=rJ x.a
 have l1:=nV x.a
 have b0:(0:Int)≤((dB x.a:Nat):Int)∧((dB x.a:Nat):Int)<18446744073709551616:=by omega
 obtain ⟨w,hw⟩:∃ w,wN x.x=w:=⟨_,rfl⟩
 have hw3:w=32∨w=64:=by rw [← hw];cases x.x<;>simp [wN]
 have hfe:=vp (v:=dB x.a) hw3
 obtain ⟨A,hA⟩:∃ A,(gg (dB x.a) w).1=A:=⟨_,rfl⟩
 have hwi:(if x.x then 64 else 32)=w:=hw
 by_cases h3:(cN (dB x.a) w).isSome=true
 ·have hF:gg (dB x.a) w=(A,0):=by rw [← hA];exact Prod.ext rfl (by rw [hfe,if_pos h3])
  cases hx:x.x
  ·have hw2:w=32:=by rw [← hw,hx];rfl
   subst hw2
   have hL:ct x=decide (0≤x.a):=by unfold ct;rw [hwi,h3,hx];simp
   rw [hL]
   by_cases h4:0≤x.a
   ·simp only [go_sem,ae,hx,e1,tU,gK,gL,b0.1,b0.2,true_or,or_true,t,t32,hF,de,h4]
   ·simp only [go_sem,ae,hx,e1,tU,gK,gL,b0.1,b0.2,true_or,or_true,t,t32,hF,de,h4]
  ·have hw2:w=64:=by rw [← hw,hx];rfl
   subst hw2
   have hL:ct x=true:=by unfold ct;rw [hwi,h3,hx];simp
   simp only [go_sem,ae,hx,e1,tU,gK,gL,b0.1,b0.2,true_or,or_true,t,t64,hF,de,hL]
 ·have hF:gg (dB x.a) w=(A,20):=by rw [← hA];exact Prod.ext rfl (by rw [hfe,if_neg h3])
  have hL:ct x=false:=by unfold ct;rw [hwi];simp at h3;simp [h3]
  cases hx:x.x
  ·have hw2:w=32:=by rw [← hw,hx];rfl
   subst hw2
   simp only [go_sem,ae,hx,e1,tU,gK,gL,b0.1,b0.2,true_or,or_true,t,t32,hF,de,hL]
  ·have hw2:w=64:=by rw [← hw,hx];rfl
   subst hw2
   simp only [go_sem,ae,hx,e1,tU,gK,gL,b0.1,b0.2,true_or,or_true,t,t64,hF,de,hL])
theorem rf {id:Nat} {h:ah} {args:List AV}:(mE).run id h args=bm (av (am ae) ((fun _=>True))) ((fun x=>.ret (bv (ct x)))) h args:=rfl
theorem rS {id:Nat} {h:ah} {args:List AV}:(mE).pan id h args=bt (av (am ae) ((fun _=>True))) ((fun x=>.ret (bv (ct x)))) h args:=rfl
end
section
open Go.RowKit
theorem BJ (xx ss:Bool) (rd rn rm ra a b c:Int):SW Tryz.prog ⟨none,0⟩ Tryz.f29.ntmps (Tryz.f29.body.getD .skip) ⟨0,ag 0 [(am ae).enc ⟨22,xx,ss,rd,rn,rm,ra,a,b,c⟩],[]⟩ (aH Tryz.prog Tryz.f29.results.toList (.ret (bv (ce ⟨22,xx,ss,rd,rn,rm,ra,a,b,c⟩)))):=by
 refine aa (ctx:=[⟨_,lN⟩]) 4000 ?_
 rw [Tryz.ntmps29,Tryz.results29]
 simp only [Tryz.f29,Option.getD_some,ag]
 have e:ce ⟨22,xx,ss,rd,rn,rm,ra,a,b,c⟩=(dL ⟨22,xx,ss,rd,rn,rm,ra,a,b,c⟩&&decide (¬a=4)&&decide (¬a=5)):=rfl
 rw [e]
 have h31:31<a∨¬31<a:=Decidable.em _
 cases hq:dL ⟨22,xx,ss,rd,rn,rm,ra,a,b,c⟩<;>cases xx<;>simp only [go_sem,ae,kV,kN,hq]
 all_goals
  repeat' (first | (refine And.intro ?_ ?_) | (refine fun _=>?_))
  all_goals first | rfl | (exfalso;omega) | (simp [*,db,dl];done)
theorem DX (xx ss:Bool) (rd rn rm ra a b c:Int) (hr:0≤ra∧ra≤3):SW Tryz.prog ⟨none,0⟩ Tryz.f29.ntmps (Tryz.f29.body.getD .skip) ⟨0,ag 0 [(am ae).enc ⟨21,xx,ss,rd,rn,rm,ra,a,b,c⟩],[]⟩ (aH Tryz.prog Tryz.f29.results.toList (.ret (bv (ce ⟨21,xx,ss,rd,rn,rm,ra,a,b,c⟩)))):=by
 refine aa (ctx:=[⟨_,lN⟩]) 4000 ?_
 rw [Tryz.ntmps29,Tryz.results29]
 simp only [Tryz.f29,Option.getD_some,ag]
 have e:ce ⟨21,xx,ss,rd,rn,rm,ra,a,b,c⟩=mA ⟨21,xx,ss,rd,rn,rm,ra,a,b,c⟩:=rfl
 rw [e]
 have h31:31<a∨¬31<a:=Decidable.em _
 have t0:(0:Int).tmod 2=0:=rfl
 have t1:(1:Int).tmod 2=1:=rfl
 have t2:(2:Int).tmod 2=0:=rfl
 have t3:(3:Int).tmod 2=1:=rfl
 have h4:ra=0∨ra=1∨ra=2∨ra=3:=by omega
 obtain ⟨q,hq⟩:∃ q,dL ⟨21,xx,ss,rd,rn,rm,ra,a,b,c⟩=q:=⟨_,rfl⟩
 rcases h4 with rfl | rfl | rfl | rfl<;>cases q<;>cases xx<;>simp only [go_sem,ae,kV,kN,hq,t0,t1,t2,t3]
 all_goals
  repeat' (first | (refine And.intro ?_ ?_) | (refine fun _=>?_))
  all_goals first | rfl | (exfalso;omega) | (unfold mA;rw [hq];simp [*];done) | (unfold mA;rw [hq];simp [*,db,dl];done) | (unfold mA;rw [hq];simp [*];omega)
theorem EE (xx ss:Bool) (rd rn rm ra a b c:Int):SW Tryz.prog ⟨none,0⟩ Tryz.f29.ntmps (Tryz.f29.body.getD .skip) ⟨0,ag 0 [(am ae).enc ⟨5,xx,ss,rd,rn,rm,ra,a,b,c⟩],[]⟩ (aH Tryz.prog Tryz.f29.results.toList (.ret (bv (ce ⟨5,xx,ss,rd,rn,rm,ra,a,b,c⟩)))):=by
 refine aa (ctx:=[]) 4000 ?_
 rw [Tryz.ntmps29,Tryz.results29]
 simp only [Tryz.f29,Option.getD_some,ag]
 have e:ce ⟨5,xx,ss,rd,rn,rm,ra,a,b,c⟩=((xx||decide (a≤31))&&(xx||decide (c≤31))):=rfl
 rw [e]
 have h31:(31<a∧decide (a≤31)=false)∨(¬31<a∧decide (a≤31)=true):=by
  by_cases h:31<a
  ·exact .inl ⟨h,by simp;omega⟩
  ·exact .inr ⟨h,by simp;omega⟩
 have h32:(c<32∧decide (c≤31)=true)∨(¬c<32∧decide (c≤31)=false):=by
  by_cases h:c<32
  ·exact .inl ⟨h,by simp;omega⟩
  ·exact .inr ⟨h,by simp;omega⟩
 rcases h31 with ⟨ha,ea⟩ | ⟨ha,ea⟩<;>rcases h32 with ⟨hc,ec⟩ | ⟨hc,ec⟩<;>cases xx<;>simp only [go_sem,ae,ha,hc,ea,ec]
 all_goals
  repeat' (first | (refine And.intro ?_ ?_) | (refine fun _=>?_))
  all_goals first | rfl | (exfalso;omega) | (simp [*];done)
theorem zG (x:Ins) (hw:aP x=true):SW Tryz.prog ⟨none,0⟩ Tryz.f29.ntmps (Tryz.f29.body.getD .skip) ⟨0,ag 0 [(am ae).enc x],[]⟩ (aH Tryz.prog Tryz.f29.results.toList (.ret (bv (ce x)))):=by
 have h:=j4 hw
 have hc:=wi_c hw
 obtain ⟨op,xx,ss,rd,rn,rm,ra,a,b,c⟩:=x
 simp only at h hc
 clear hw
 by_cases h22:op=22
 ·subst h22
  exact BJ xx ss rd rn rm ra a b c
 by_cases h5:op=5
 ·subst h5
  exact EE xx ss rd rn rm ra a b c
 by_cases h21:op=21
 ·exact h21▸DX xx ss rd rn rm ra a b c (hc.2.1 h21)
 refine aa (ctx:=[⟨_,mE⟩,⟨_,u9⟩,⟨_,lN⟩,⟨_,wC⟩,⟨_,Dx⟩]) 4000 ?_
 rw [Tryz.ntmps29,Tryz.results29]
 simp only [Tryz.f29,Option.getD_some,ag]
 have hop:op=1∨op=2∨op=3∨op=4∨op=6∨op=7∨op=8∨op=9∨op=10∨op=11∨op=12∨op=13∨op=14∨op=15∨op=16∨op=17∨op=18∨op=19∨op=20∨op=23∨op=24∨op=25∨op=26∨op=27∨op=28∨op=29∨op=30∨op=31∨op=32:=by
  omega
 have h31:31<a∨¬31<a:=Decidable.em _
 rcases hop with rfl | rfl | rfl | rfl | rfl | rfl | rfl | rfl | rfl | rfl | rfl | rfl | rfl | rfl | rfl | rfl | rfl | rfl | rfl | rfl | rfl | rfl | rfl | rfl | rfl | rfl | rfl | rfl | rfl
 all_goals
  simp at hc
  rcases h31 with ha | ha<;>cases xx<;>simp only [go_sem,ae,ha,hc,and_self,rf,rS,z5,yX,kV,kN,zC,xM,A7,DZ]
  all_goals
   repeat' (first | (refine And.intro ?_ ?_) | (refine fun _=>?_))
   all_goals first | rfl | (exfalso;omega) | (unfold ce;simp [*];done) | (unfold ce;simp [*,db,dl];done) | (unfold ce;simp [*];omega)
def rP:aQ Tryz.prog 29 :=
 mk1 _ _ _ Tryz.func29 rfl (fun _ _=>by go_simp) (am ae) ((fun x=>aP x=true)) ((fun x=>.ret (bv (ce x)))) (by rw [Tryz.ntmps29];decide) (fun x h=>zG x h)
theorem nX {id:Nat} {h:ah} {args:List AV}:(rP).run id h args=bm (av (am ae) ((fun x=>aP x=true))) ((fun x=>.ret (bv (ce x)))) h args:=rfl
theorem o9 {id:Nat} {h:ah} {args:List AV}:(rP).pan id h args=bt (av (am ae) ((fun x=>aP x=true))) ((fun x=>.ret (bv (ce x)))) h args:=rfl
def rK:aQ Tryz.prog 10 :=
 mk1 _ _ _ Tryz.func10 rfl (fun _ _=>by go_simp) (am ae) ((fun _=>True)) ((fun x=>.ret (iv (ao x)))) (by rw [Tryz.ntmps10];decide) (fun x _=>by
 refine aa (ctx:=[⟨_,oH⟩,⟨_,rP⟩]) 4000 ?_
 rw [Tryz.ntmps10,Tryz.results10]
 simp only [Tryz.f10,Option.getD_some,ag]
 unfold ao
 cases h1:aP x
 ·simp only [go_sem,ae,jP,jT,h1,Bool.false_and]
 ·cases h2:ce x
  ·simp only [go_sem,ae,jP,jT,nX,o9,h1,h2,Bool.true_and]
  ·simp only [go_sem,ae,jP,jT,nX,o9,h1,h2,Bool.true_and])
theorem kW {id:Nat} {h:ah} {args:List AV}:(rK).run id h args=bm (av (am ae) ((fun _=>True))) ((fun x=>.ret (iv (ao x)))) h args:=rfl
theorem kK {id:Nat} {h:ah} {args:List AV}:(rK).pan id h args=bt (av (am ae) ((fun _=>True))) ((fun x=>.ret (iv (ao x)))) h args:=rfl
end
end Go.Proofs.YtpjlafmhoifkmaaGreat
