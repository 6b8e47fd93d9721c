import Derived.Test.YtpjlafmhoifkmaaGreatM23
import Derived.Test.YtpjlafmhoifkmaaGreatM13
import Derived.Test.YtpjlafmhoifkmaaGreatM31
set_option linter.unusedVariables false
set_option linter.unusedSimpArgs false
set_option maxRecDepth 100000
set_option maxHeartbeats 8000000
namespace Go.Proofs.YtpjlafmhoifkmaaGreat
section
open Go.RowKit
theorem OF {x:Ins} (h:cr x=true):(x.op=19→0≤x.c∧x.c≤3)∧(x.op=21→0≤x.ra∧x.ra≤3)∧(x.op=31→2≤x.b∧x.b≤23):=by
 have ha:=jT h
 obtain ⟨op,xx,ss,rd,rn,rm,ra,a,b,c⟩:=x
 refine ⟨fun e=>?_,fun e=>?_,fun e=>?_⟩<;>(simp only at e;subst e;simp [an,pE,bi] at ha;simp [gv,jm] at ha;simp only [];omega)
def ow:aJ Tryz.prog 70 :=
 mk1 _ _ _ Tryz.func70 rfl (fun _ _=>by go_simp) (ai ac) ((fun _=>True)) ((fun x=>.ret (bv (fw x)))) (by rw [Tryz.ntmps70];decide) (fun x _=>by
 refine aa (ctx:=[]) 4000 ?_
 rw [Tryz.ntmps70,Tryz.results70]
 simp only [Tryz.f70,Option.getD_some,ag]
 simp only [go_sem,ac]
 repeat' (first | (refine And.intro ?_ ?_) | (refine fun _=>?_))
 all_goals first | rfl | (exfalso;omega) | (unfold fw;simp [*];done) | (unfold fw;simp [*,bH,ew];done) | (unfold fw;simp [*];omega))
theorem nZ {id:Nat} {h:am} {args:List AV}:(ow).run id h args=aY (au (ai ac) ((fun _=>True))) ((fun x=>.ret (bv (fw x)))) h args:=rfl
theorem nF {id:Nat} {h:am} {args:List AV}:(ow).pan id h args=aZ (au (ai ac) ((fun _=>True))) ((fun x=>.ret (bv (fw x)))) h args:=rfl
theorem D7 (x:Ins) (h:0≤x.c∧x.c≤3):SW Tryz.prog ⟨none,0⟩ Tryz.f69.ntmps (Tryz.f69.body.getD .skip) ⟨0,ag 0 [(ai ac).enc x],[]⟩ (ax Tryz.prog Tryz.f69.results.toList (.ret (bv (ke x)))):=by
 refine aa (ctx:=[]) 4000 ?_
 rw [Tryz.ntmps69,Tryz.results69]
 simp only [Tryz.f69,Option.getD_some,ag]
 obtain ⟨op,xx,ss,rd,rn,rm,ra,a,b,c⟩:=x
 simp only at h
 have h4:c=0∨c=1∨c=2∨c=3:=by omega
 have t0:(0:Int).tmod 2=0:=rfl
 have t1:(1:Int).tmod 2=1:=rfl
 have t2:(2:Int).tmod 2=0:=rfl
 have t3:(3:Int).tmod 2=1:=rfl
 rcases h4 with rfl | rfl | rfl | rfl<;>cases ss<;>simp only [go_sem,ac,t0,t1,t2,t3]
 all_goals
  repeat' (first | (refine And.intro ?_ ?_) | (refine fun _=>?_))
  all_goals first | rfl | (exfalso;omega) | (unfold ke;simp [*];done) | (unfold ke;simp [*,bH,ew];done) | (unfold ke;simp [*];omega)
def xe:aJ Tryz.prog 69 :=
 mk1 _ _ _ Tryz.func69 rfl (fun _ _=>by go_simp) (ai ac) ((fun x=>0≤x.c∧x.c≤3)) ((fun x=>.ret (bv (ke x)))) (by rw [Tryz.ntmps69];decide) (fun x h=>D7 x h)
theorem BG {id:Nat} {h:am} {args:List AV}:(xe).run id h args=aY (au (ai ac) ((fun x=>0≤x.c∧x.c≤3))) ((fun x=>.ret (bv (ke x)))) h args:=rfl
theorem CH {id:Nat} {h:am} {args:List AV}:(xe).pan id h args=aZ (au (ai ac) ((fun x=>0≤x.c∧x.c≤3))) ((fun x=>.ret (bv (ke x)))) h args:=rfl
def GC:aJ Tryz.prog 72 :=
 mk1 _ _ _ Tryz.func72 rfl (fun _ _=>by go_simp) (ai ac) ((fun x=>2≤x.b∧x.b≤23)) ((fun x=>.ret (bv (fk x)))) (by rw [Tryz.ntmps72];decide) (fun x h=>by
 refine aa (ctx:=[]) 4000 ?_
 rw [Tryz.ntmps72,Tryz.results72]
 simp only [Tryz.f72,Option.getD_some,ag]
 obtain ⟨op,xx,ss,rd,rn,rm,ra,a,b,c⟩:=x
 simp only at h
 cases xx<;>simp only [go_sem,ac]
 all_goals
  repeat' (first | (refine And.intro ?_ ?_) | (refine fun _=>?_))
  all_goals first | rfl | (exfalso;omega) | (unfold fk;simp [*];done) | (unfold fk;simp [*];omega))
theorem Fj {id:Nat} {h:am} {args:List AV}:(GC).run id h args=aY (au (ai ac) ((fun x=>2≤x.b∧x.b≤23))) ((fun x=>.ret (bv (fk x)))) h args:=rfl
theorem D8 {id:Nat} {h:am} {args:List AV}:(GC).pan id h args=aZ (au (ai ac) ((fun x=>2≤x.b∧x.b≤23))) ((fun x=>.ret (bv (fk x)))) h args:=rfl
theorem Ed (x:Ins):SW Tryz.prog ⟨none,0⟩ Tryz.f71.ntmps (Tryz.f71.body.getD .skip) ⟨0,ag 0 [(ai ac).enc x],[]⟩ (ax Tryz.prog Tryz.f71.results.toList (.ret (bv (dS x)))):=by
 refine aa (ctx:=[]) 4000 ?_
 rw [Tryz.ntmps71,Tryz.results71]
 simp only [Tryz.f71,Option.getD_some,ag]
 obtain ⟨op,xx,ss,rd,rn,rm,ra,a,b,c⟩:=x
 have h3:a=1∨a=2∨(¬a=1∧¬a=2):=by omega
 rcases h3 with rfl | rfl | ⟨h1,h2⟩
 ·cases ss<;>cases xx<;>simp only [go_sem,ac]
  all_goals
   repeat' (first | (refine And.intro ?_ ?_) | (refine fun _=>?_))
   all_goals first | rfl | (exfalso;omega) | (unfold dS;simp [*];done) | (unfold dS;simp [*,bH,ew];done) | (unfold dS;simp [*];omega) | (unfold dS;simp [*,bH,ew];intro _;omega)
 ·cases ss<;>cases xx<;>simp only [go_sem,ac]
  all_goals
   repeat' (first | (refine And.intro ?_ ?_) | (refine fun _=>?_))
   all_goals first | rfl | (exfalso;omega) | (unfold dS;simp [*];done) | (unfold dS;simp [*,bH,ew];done) | (unfold dS;simp [*];omega) | (unfold dS;simp [*,bH,ew];intro _;omega)
 ·have b1:(a==1)=false:=by simpa using h1
  have b2:(a==2)=false:=by simpa using h2
  have b3:(a !=1)=true:=by simpa using h1
  cases ss<;>cases xx<;>simp only [go_sem,ac,b1,b2,b3]
  all_goals
   repeat' (first | (refine And.intro ?_ ?_) | (refine fun _=>?_))
   all_goals first | rfl | (exfalso;omega) | (unfold dS;simp [*];done) | (unfold dS;simp [*,bH,ew];done) | (unfold dS;simp [*];omega) | (unfold dS;simp [*,bH,ew];intro _;omega)
def xR:aJ Tryz.prog 71 :=
 mk1 _ _ _ Tryz.func71 rfl (fun _ _=>by go_simp) (ai ac) ((fun _=>True)) ((fun x=>.ret (bv (dS x)))) (by rw [Tryz.ntmps71];decide) (fun x _=>Ed x)
theorem Bi {id:Nat} {h:am} {args:List AV}:(xR).run id h args=aY (au (ai ac) ((fun _=>True))) ((fun x=>.ret (bv (dS x)))) h args:=rfl
theorem CA {id:Nat} {h:am} {args:List AV}:(xR).pan id h args=aZ (au (ai ac) ((fun _=>True))) ((fun x=>.ret (bv (dS x)))) h args:=rfl
end
section
open Go.RowKit
def rcI (x:Ins) (l:List Lim) (i:Nat):St:=⟨3,[(1,.s (.l (.p 0 0 0))),(2,.s (.l (.p 1 0 0))),(3,qd.enc l),(4,.s (.l (.p 2 0 0))),(5,iv i)],cnH x (ll x (l.take i) (dC x.op))⟩
theorem Bx (x:Ins) (h:opQ x.op):SW Tryz.prog ⟨none,0⟩ Tryz.f67.ntmps (Tryz.f67.body.getD .skip) ⟨0,ag 0 [(ai ac).enc x],[]⟩ (ax Tryz.prog Tryz.f67.results.toList (.ret (j7 (iY x)))):=by
 refine aa (ctx:=[⟨_,mu⟩]) 4000 ?_
 rw [Tryz.ntmps67,Tryz.results67]
 simp only [Tryz.f67,Option.getD_some,ag]
 have hlen:=oF h
 have hfq:=qp h
 have hF:iY x=ll x (an x.op) (dC x.op):=rfl
 have hlo:cD x.op=bK (an x.op):=by unfold cD;exact if_pos h
 simp only [go_sem,ac,mB,mj,hlo,bK]
 obtain ⟨l,hl⟩:∃ l,an x.op=l:=⟨_,rfl⟩
 rw [hl] at hlen hfq hF
 rw [hl,hF]
 refine cM (ι:=Nat) (fun i=>i≤l.length) (rcI x l) (fun i=>l.length-i) 0 (Nat.zero_le _) (Wk.renL [0,16,144] (by simp) (Nat.le_refl 3) (by decide) rfl rfl) ?_
 intro i hi
 obtain ⟨o,ho⟩:∃ o,ll x (l.take i) (dC x.op)=o:=⟨_,rfl⟩
 refine aa (ctx:=[]) 4000 ?_
 by_cases hlt:i<l.length
 ·have hltI:(i:Int)<l.length:=by omega
  obtain ⟨f,hf⟩:∃ f,l[i]? = some f:=⟨_,List.getElem?_eq_getElem hlt⟩
  have hq:=hfq f (List.mem_of_getElem? hf)
  have ei:IntKind.i64.wrap ((i:Int)+1)=((i+1:Nat):Int):=by rw [IntKind.wrap_i64];omega
  have hsn:=p4 (x:=x) hf (dC x.op)
  rw [ho] at hsn
  simp only [go_sem,rcI,ho,cnH,il,az,hltI]
  refine aP (ctx:=[⟨_,zY⟩]) ak [] (by kernel_rfl) ?_
  simp only [go_sem,hf,lY,ac,oB,n9,m8,hq]
  refine aP (ctx:=[⟨_,GT⟩]) ak [8] (by kernel_rfl) ?_
  simp only [go_sem,hf,lY,ac,EW,EH,j7,az,hq,ei]
  exact ⟨i+1,by omega,by omega,Wk.renL [0,1,2] (by simp) (Nat.le_refl 3) (by decide) rfl (by simp only [rcI,hsn,cnH,il,az];rfl)⟩
 ·obtain rfl:i=l.length:=by omega
  have hltI:¬(l.length:Int)<l.length:=by omega
  have ho':ll x l (dC x.op)=o:=by rw [← ho,List.take_length]
  simp only [go_sem,rcI,ho,ho',cnH,il,az,hltI,j7]
def ui:aJ Tryz.prog 67 :=
 mk1 _ _ _ Tryz.func67 rfl (fun _ _=>by go_simp) (ai ac) ((fun x=>opQ x.op)) ((fun x=>.ret (j7 (iY x)))) (by rw [Tryz.ntmps67];decide) (fun x h=>Bx x h)
theorem yx {id:Nat} {h:am} {args:List AV}:(ui).run id h args=aY (au (ai ac) ((fun x=>opQ x.op))) ((fun x=>.ret (j7 (iY x)))) h args:=rfl
theorem zx {id:Nat} {h:am} {args:List AV}:(ui).pan id h args=aZ (au (ai ac) ((fun x=>opQ x.op))) ((fun x=>.ret (j7 (iY x)))) h args:=rfl
def rwI (x:Ins) (l:List Lim) (i:Nat):St:=⟨1,[(1,.s (.l (.p 0 0 0))),(3,qd.enc l),(4,iv i)],[(0,some (il x))]⟩
theorem vB (x:Ins) (h:opQ x.op):SW Tryz.prog ⟨none,0⟩ Tryz.f28.ntmps (Tryz.f28.body.getD .skip) ⟨0,ag 0 [(ai ac).enc x],[]⟩ (ax Tryz.prog Tryz.f28.results.toList (.ret (bv (cr x)))):=by
 refine aa (ctx:=[⟨_,mu⟩]) 4000 ?_
 rw [Tryz.ntmps28,Tryz.results28]
 simp only [Tryz.f28,Option.getD_some,ag]
 have hlen:=oF h
 have hfq:=qp h
 have hlo:cD x.op=bK (an x.op):=by unfold cD;exact if_pos h
 simp only [go_sem,ac,mB,mj,hlo,bK]
 obtain ⟨l,hl⟩:∃ l,an x.op=l:=⟨_,rfl⟩
 rw [hl] at hlen hfq ⊢
 refine cM (ι:=Nat) (fun i=>i≤l.length∧∀ j f,j<i→l[j]? = some f→gv x f=true) (rwI x l) (fun i=>l.length-i) 0 ⟨Nat.zero_le _,fun j f hj=>absurd hj (Nat.not_lt_zero _)⟩ (Wk.renL [0] (by simp) (Nat.le_refl 1) (by decide) rfl rfl) ?_
 rintro i ⟨hi,hinv⟩
 refine aa (ctx:=[]) 4000 ?_
 by_cases hlt:i<l.length
 ·have hltI:(i:Int)<l.length:=by omega
  obtain ⟨f,hf⟩:∃ f,l[i]? = some f:=⟨_,List.getElem?_eq_getElem hlt⟩
  have hq:=hfq f (List.mem_of_getElem? hf)
  have ei:IntKind.i64.wrap ((i:Int)+1)=((i+1:Nat):Int):=by rw [IntKind.wrap_i64];omega
  obtain ⟨v,hv⟩:∃ v,jm x f.1=v:=⟨_,rfl⟩
  have hbad:(v<f.2.1∨f.2.2<v)→cr x=false:=by
   intro hb
   have:gv x f=false:=by
    unfold gv
    rw [hv,Bool.and_eq_false_iff]
    rcases hb with hb | hb
    ·exact .inl (decide_eq_false (by omega))
    ·exact .inr (decide_eq_false (by omega))
   have ha:(an x.op).all (gv x)=false:=by
    rw [hl,List.all_eq_false]
    exact ⟨f,List.mem_of_getElem? hf,by rw [this];simp⟩
   unfold cr
   rw [ha]
   rfl
  simp only [go_sem,rwI,il,az,hltI]
  refine aP (ctx:=[⟨_,zY⟩]) ak [] (by kernel_rfl) ?_
  by_cases h1:v<f.2.1
  ·have hw:=hbad (.inl h1)
   simp only [go_sem,hf,lY,ac,oB,n9,m8,hq,hv,h1,hw]
  ·by_cases h2:f.2.2<v
   ·have hw:=hbad (.inr h2)
    simp only [go_sem,hf,lY,ac,oB,n9,m8,hq,hv,h1,h2,hw]
   ·have hgood:gv x f=true:=by
     unfold gv
     rw [hv,Bool.and_eq_true]
     exact ⟨decide_eq_true (by omega),decide_eq_true (by omega)⟩
    simp only [go_sem,hf,lY,ac,oB,n9,m8,hq,hv,h1,h2,ei]
    refine ⟨i+1,⟨by omega,fun j f' hj hj'=>?_⟩,by omega,Wk.renL [0] (by simp) (Nat.le_refl 1) (by decide) rfl rfl⟩
    by_cases e:j=i
    ·subst e
     rw [hf] at hj'
     injection hj' with hj'
     rw [← hj']
     exact hgood
    ·exact hinv j f' (by omega) hj'
 ·obtain rfl:i=l.length:=by omega
  have hltI:¬(l.length:Int)<l.length:=by omega
  have hpos:(0:Int)<l.length:=by
   have:=hlen.2
   cases l with
   | nil=>cases this
   | cons=>simp
  simp only [go_sem,rwI,il,az,hltI]
  refine aP (ctx:=[⟨_,ui⟩]) ak [] (by kernel_rfl) ?_
  obtain ⟨y,hy⟩:∃ y,iY x=y:=⟨_,rfl⟩
  simp only [go_sem,ac,yx,zx,h,hpos,j7,az,hy,nj,sR,pj,wh,iU]
  have hW:cr x=decide (y=x):=by
   have ha:(an x.op).all (gv x)=true:=by
    rw [hl,List.all_eq_true]
    intro f hf
    obtain ⟨j,hj,rfl⟩:=List.mem_iff_getElem.1 hf
    exact hinv j _ hj (List.getElem?_eq_getElem hj)
   unfold cr
   rw [ha,hl,hlen.2,hy]
   simp
  rw [hW,Ab]
def rwN (x:Ins):St:=⟨1,[(1,.s (.l (.p 0 0 0))),(3,jb),(4,iv 0)],[(0,some (il x))]⟩
theorem zD (x:Ins) (h:¬opQ x.op):SW Tryz.prog ⟨none,0⟩ Tryz.f28.ntmps (Tryz.f28.body.getD .skip) ⟨0,ag 0 [(ai ac).enc x],[]⟩ (ax Tryz.prog Tryz.f28.results.toList (.ret (bv false))):=by
 refine aa (ctx:=[⟨_,mu⟩]) 4000 ?_
 rw [Tryz.ntmps28,Tryz.results28]
 simp only [Tryz.f28,Option.getD_some,ag]
 have hlo:cD x.op=jb:=by unfold cD;exact if_neg h
 simp only [go_sem,ac,mB,mj,hlo,jb]
 refine cM (ι:=Unit) (fun _=>True) (fun _=>rwN x) (fun _=>0) () trivial (Wk.renL [0] (by simp) (Nat.le_refl 1) (by decide) rfl rfl) ?_
 intro _ _
 refine aa (ctx:=[]) 4000 ?_
 simp only [go_sem,rwN,il,az,jb]
 refine aP (ctx:=[]) ak [] (by kernel_rfl) ?_
 simp only [go_sem,jb]
theorem zg (x:Ins):SW Tryz.prog ⟨none,0⟩ Tryz.f28.ntmps (Tryz.f28.body.getD .skip) ⟨0,ag 0 [(ai ac).enc x],[]⟩ (ax Tryz.prog Tryz.f28.results.toList (.ret (bv (cr x)))):=by
 by_cases h:opQ x.op
 ·exact vB x h
 ·have e:cr x=false:=by unfold cr;rw [ud h];simp
  rw [e]
  exact zD x h
def qY:aJ Tryz.prog 28 :=
 mk1 _ _ _ Tryz.func28 rfl (fun _ _=>by go_simp) (ai ac) ((fun _=>True)) ((fun x=>.ret (bv (cr x)))) (by rw [Tryz.ntmps28];decide) (fun x _=>zg x)
theorem ma {id:Nat} {h:am} {args:List AV}:(qY).run id h args=aY (au (ai ac) ((fun _=>True))) ((fun x=>.ret (bv (cr x)))) h args:=rfl
theorem mh {id:Nat} {h:am} {args:List AV}:(qY).pan id h args=aZ (au (ai ac) ((fun _=>True))) ((fun x=>.ret (bv (cr x)))) h args:=rfl
def pr:aJ Tryz.prog 68 :=
 mk1 _ _ _ Tryz.func68 rfl (fun _ _=>by go_simp) (ai ac) ((fun _=>True)) ((fun x=>.ret (bv (df x)))) (by rw [Tryz.ntmps68];decide) (fun x _=>by
 refine aa (ctx:=[⟨_,n8⟩]) 4000 ?_
 rw [Tryz.ntmps68,Tryz.results68]
 simp only [Tryz.f68,Option.getD_some,ag]
 have t:∀ n:Nat,Int.toNat (n:Int)=n:=fun _=>rfl
 have e1:=lp x.a
 have l1:=jA x.a
 have b0:(0:Int)≤((dg x.a:Nat):Int)∧((dg x.a:Nat):Int)<18446744073709551616:=by omega
 obtain ⟨w,hw⟩:∃ w,wN x.x=w:=⟨_,rfl⟩
 have hw3:w=32∨w=64:=by rw [← hw];cases x.x<;>simp [wN]
 have hfe:=nQ (v:=dg x.a) hw3
 obtain ⟨A,hA⟩:∃ A,(eN (dg x.a) w).1=A:=⟨_,rfl⟩
 have hwi:(if x.x then 64 else 32)=w:=hw
 by_cases h3:(dF (dg x.a) w).isSome=true
 ·have hF:eN (dg x.a) w=(A,0):=by rw [← hA];exact Prod.ext rfl (by rw [hfe,if_pos h3])
  cases hx:x.x
  ·have hw2:w=32:=by rw [← hw,hx];rfl
   subst hw2
   have hL:df x=decide (0≤x.a):=by unfold df;rw [hwi,h3,hx];simp
   rw [hL]
   by_cases h4:0≤x.a
   ·simp only [go_sem,ac,hx,e1,tU,da,cY,b0.1,b0.2,true_or,or_true,t,t32,hF,cP,h4]
   ·simp only [go_sem,ac,hx,e1,tU,da,cY,b0.1,b0.2,true_or,or_true,t,t32,hF,cP,h4]
  ·have hw2:w=64:=by rw [← hw,hx];rfl
   subst hw2
   have hL:df x=true:=by unfold df;rw [hwi,h3,hx];simp
   simp only [go_sem,ac,hx,e1,tU,da,cY,b0.1,b0.2,true_or,or_true,t,t64,hF,cP,hL]
 ·have hF:eN (dg x.a) w=(A,20):=by rw [← hA];exact Prod.ext rfl (by rw [hfe,if_neg h3])
  have hL:df x=false:=by unfold df;rw [hwi];simp at h3;simp [h3]
  cases hx:x.x
  ·have hw2:w=32:=by rw [← hw,hx];rfl
   subst hw2
   simp only [go_sem,ac,hx,e1,tU,da,cY,b0.1,b0.2,true_or,or_true,t,t32,hF,cP,hL]
  ·have hw2:w=64:=by rw [← hw,hx];rfl
   subst hw2
   simp only [go_sem,ac,hx,e1,tU,da,cY,b0.1,b0.2,true_or,or_true,t,t64,hF,cP,hL])
theorem un {id:Nat} {h:am} {args:List AV}:(pr).run id h args=aY (au (ai ac) ((fun _=>True))) ((fun x=>.ret (bv (df x)))) h args:=rfl
theorem tW {id:Nat} {h:am} {args:List AV}:(pr).pan id h args=aZ (au (ai ac) ((fun _=>True))) ((fun x=>.ret (bv (df x)))) h args:=rfl
end
section
open Go.RowKit
theorem Fc (xx ss:Bool) (rd rn rm ra a b c:Int):SW Tryz.prog ⟨none,0⟩ Tryz.f29.ntmps (Tryz.f29.body.getD .skip) ⟨0,ag 0 [(ai ac).enc ⟨22,xx,ss,rd,rn,rm,ra,a,b,c⟩],[]⟩ (ax Tryz.prog Tryz.f29.results.toList (.ret (bv (de ⟨22,xx,ss,rd,rn,rm,ra,a,b,c⟩)))):=by
 refine aa (ctx:=[⟨_,ow⟩]) 4000 ?_
 rw [Tryz.ntmps29,Tryz.results29]
 simp only [Tryz.f29,Option.getD_some,ag]
 have e:de ⟨22,xx,ss,rd,rn,rm,ra,a,b,c⟩=(fw ⟨22,xx,ss,rd,rn,rm,ra,a,b,c⟩&&decide (¬a=4)&&decide (¬a=5)):=rfl
 rw [e]
 have h31:31<a∨¬31<a:=Decidable.em _
 cases hq:fw ⟨22,xx,ss,rd,rn,rm,ra,a,b,c⟩<;>cases xx<;>simp only [go_sem,ac,nZ,nF,hq]
 all_goals
  repeat' (first | (refine And.intro ?_ ?_) | (refine fun _=>?_))
  all_goals first | rfl | (exfalso;omega) | (simp [*,bH,ew];done)
theorem FL (xx ss:Bool) (rd rn rm ra a b c:Int) (hr:0≤ra∧ra≤3):SW Tryz.prog ⟨none,0⟩ Tryz.f29.ntmps (Tryz.f29.body.getD .skip) ⟨0,ag 0 [(ai ac).enc ⟨21,xx,ss,rd,rn,rm,ra,a,b,c⟩],[]⟩ (ax Tryz.prog Tryz.f29.results.toList (.ret (bv (de ⟨21,xx,ss,rd,rn,rm,ra,a,b,c⟩)))):=by
 refine aa (ctx:=[⟨_,ow⟩]) 4000 ?_
 rw [Tryz.ntmps29,Tryz.results29]
 simp only [Tryz.f29,Option.getD_some,ag]
 have e:de ⟨21,xx,ss,rd,rn,rm,ra,a,b,c⟩=nU ⟨21,xx,ss,rd,rn,rm,ra,a,b,c⟩:=rfl
 rw [e]
 have h31:31<a∨¬31<a:=Decidable.em _
 have t0:(0:Int).tmod 2=0:=rfl
 have t1:(1:Int).tmod 2=1:=rfl
 have t2:(2:Int).tmod 2=0:=rfl
 have t3:(3:Int).tmod 2=1:=rfl
 have h4:ra=0∨ra=1∨ra=2∨ra=3:=by omega
 obtain ⟨q,hq⟩:∃ q,fw ⟨21,xx,ss,rd,rn,rm,ra,a,b,c⟩=q:=⟨_,rfl⟩
 rcases h4 with rfl | rfl | rfl | rfl<;>cases q<;>cases xx<;>simp only [go_sem,ac,nZ,nF,hq,t0,t1,t2,t3]
 all_goals
  repeat' (first | (refine And.intro ?_ ?_) | (refine fun _=>?_))
  all_goals first | rfl | (exfalso;omega) | (unfold nU;rw [hq];simp [*];done) | (unfold nU;rw [hq];simp [*,bH,ew];done) | (unfold nU;rw [hq];simp [*];omega)
theorem Js (xx ss:Bool) (rd rn rm ra a b c:Int):SW Tryz.prog ⟨none,0⟩ Tryz.f29.ntmps (Tryz.f29.body.getD .skip) ⟨0,ag 0 [(ai ac).enc ⟨5,xx,ss,rd,rn,rm,ra,a,b,c⟩],[]⟩ (ax Tryz.prog Tryz.f29.results.toList (.ret (bv (de ⟨5,xx,ss,rd,rn,rm,ra,a,b,c⟩)))):=by
 refine aa (ctx:=[]) 4000 ?_
 rw [Tryz.ntmps29,Tryz.results29]
 simp only [Tryz.f29,Option.getD_some,ag]
 have e:de ⟨5,xx,ss,rd,rn,rm,ra,a,b,c⟩=((xx||decide (a≤31))&&(xx||decide (c≤31))):=rfl
 rw [e]
 have h31:(31<a∧decide (a≤31)=false)∨(¬31<a∧decide (a≤31)=true):=by
  by_cases h:31<a
  ·exact .inl ⟨h,by simp;omega⟩
  ·exact .inr ⟨h,by simp;omega⟩
 have h32:(c<32∧decide (c≤31)=true)∨(¬c<32∧decide (c≤31)=false):=by
  by_cases h:c<32
  ·exact .inl ⟨h,by simp;omega⟩
  ·exact .inr ⟨h,by simp;omega⟩
 rcases h31 with ⟨ha,ea⟩ | ⟨ha,ea⟩<;>rcases h32 with ⟨hc,ec⟩ | ⟨hc,ec⟩<;>cases xx<;>simp only [go_sem,ac,ha,hc,ea,ec]
 all_goals
  repeat' (first | (refine And.intro ?_ ?_) | (refine fun _=>?_))
  all_goals first | rfl | (exfalso;omega) | (simp [*];done)
theorem B7 (x:Ins) (hw:cr x=true):SW Tryz.prog ⟨none,0⟩ Tryz.f29.ntmps (Tryz.f29.body.getD .skip) ⟨0,ag 0 [(ai ac).enc x],[]⟩ (ax Tryz.prog Tryz.f29.results.toList (.ret (bv (de x)))):=by
 have h:=oX hw
 have hc:=OF hw
 obtain ⟨op,xx,ss,rd,rn,rm,ra,a,b,c⟩:=x
 simp only at h hc
 clear hw
 by_cases h22:op=22
 ·subst h22
  exact Fc xx ss rd rn rm ra a b c
 by_cases h5:op=5
 ·subst h5
  exact Js xx ss rd rn rm ra a b c
 by_cases h21:op=21
 ·exact h21▸FL xx ss rd rn rm ra a b c (hc.2.1 h21)
 refine aa (ctx:=[⟨_,pr⟩,⟨_,xe⟩,⟨_,ow⟩,⟨_,xR⟩,⟨_,GC⟩]) 4000 ?_
 rw [Tryz.ntmps29,Tryz.results29]
 simp only [Tryz.f29,Option.getD_some,ag]
 have hop:op=1∨op=2∨op=3∨op=4∨op=6∨op=7∨op=8∨op=9∨op=10∨op=11∨op=12∨op=13∨op=14∨op=15∨op=16∨op=17∨op=18∨op=19∨op=20∨op=23∨op=24∨op=25∨op=26∨op=27∨op=28∨op=29∨op=30∨op=31∨op=32:=by
  omega
 have h31:31<a∨¬31<a:=Decidable.em _
 rcases hop with rfl | rfl | rfl | rfl | rfl | rfl | rfl | rfl | rfl | rfl | rfl | rfl | rfl | rfl | rfl | rfl | rfl | rfl | rfl | rfl | rfl | rfl | rfl | rfl | rfl | rfl | rfl | rfl | rfl
 all_goals
  simp at hc
  rcases h31 with ha | ha<;>cases xx<;>simp only [go_sem,ac,ha,hc,and_self,un,tW,BG,CH,nZ,nF,Bi,CA,Fj,D8]
  all_goals
   repeat' (first | (refine And.intro ?_ ?_) | (refine fun _=>?_))
   all_goals first | rfl | (exfalso;omega) | (unfold de;simp [*];done) | (unfold de;simp [*,bH,ew];done) | (unfold de;simp [*];omega)
def uc:aJ Tryz.prog 29 :=
 mk1 _ _ _ Tryz.func29 rfl (fun _ _=>by go_simp) (ai ac) ((fun x=>cr x=true)) ((fun x=>.ret (bv (de x)))) (by rw [Tryz.ntmps29];decide) (fun x h=>B7 x h)
theorem rk {id:Nat} {h:am} {args:List AV}:(uc).run id h args=aY (au (ai ac) ((fun x=>cr x=true))) ((fun x=>.ret (bv (de x)))) h args:=rfl
theorem r9 {id:Nat} {h:am} {args:List AV}:(uc).pan id h args=aZ (au (ai ac) ((fun x=>cr x=true))) ((fun x=>.ret (bv (de x)))) h args:=rfl
def uH:aJ Tryz.prog 10 :=
 mk1 _ _ _ Tryz.func10 rfl (fun _ _=>by go_simp) (ai ac) ((fun _=>True)) ((fun x=>.ret (iv (ay x)))) (by rw [Tryz.ntmps10];decide) (fun x _=>by
 refine aa (ctx:=[⟨_,qY⟩,⟨_,uc⟩]) 4000 ?_
 rw [Tryz.ntmps10,Tryz.results10]
 simp only [Tryz.f10,Option.getD_some,ag]
 unfold ay
 cases h1:cr x
 ·simp only [go_sem,ac,ma,mh,h1,Bool.false_and]
 ·cases h2:de x
  ·simp only [go_sem,ac,ma,mh,rk,r9,h1,h2,Bool.true_and]
  ·simp only [go_sem,ac,ma,mh,rk,r9,h1,h2,Bool.true_and])
theorem aM {id:Nat} {h:am} {args:List AV}:(uH).run id h args=aY (au (ai ac) ((fun _=>True))) ((fun x=>.ret (iv (ay x)))) h args:=rfl
theorem aN {id:Nat} {h:am} {args:List AV}:(uH).pan id h args=aZ (au (ai ac) ((fun _=>True))) ((fun x=>.ret (iv (ay x)))) h args:=rfl
end
end Go.Proofs.YtpjlafmhoifkmaaGreat
