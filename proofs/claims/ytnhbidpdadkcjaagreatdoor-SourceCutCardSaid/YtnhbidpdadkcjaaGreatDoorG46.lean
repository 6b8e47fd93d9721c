import Derived.Test.YtnhbidpdadkcjaaGreatDoorG44
open Go.RowKit
set_option linter.unusedVariables false
set_option linter.unusedSimpArgs false
set_option maxRecDepth 100000
set_option maxHeartbeats 8000000
open List (getD_eq_getElem?_getD getElem?_cons_zero getElem?_cons_succ)
open Option (getD_some)
open Nat (zero_le)
open Bool (and_eq_true)
open Int (toNat_zero)
namespace Go.Proofs.YtnhbidpdadkcjaaGreatDoor
open Tryz
inductive Pl where
 |done:Pl
 |nil:Pl
 |alt:Nat→Pl→Pl→Pl
 |take:Nat→Pl→Pl
def Pl.get:Pl→Nat→Option Pl
 |.alt j p r,i=>if i=j then some p else r.get i
 |.done,_=>none
 |.nil,_=>none
 |.take _ _,_=>none
def Uw:Op→Bool
 |.move _=>true
 |.nilCheck _=>true
 |.fieldAddr _ _ _=>true
 |_=>false
def kX (all:List Oper):Nat→Array Bool→Pl→Bool
 |_,listed,.done=>(Region.ready .any all.toArray listed).isEmpty
 |0,_,_=>false
 |fuel+1,listed,.take i p=>Region.noSelect all.toArray&&Region.free .any all.toArray listed i&&(Region.ready .any all.toArray listed).contains i&&(match all[i]? with | some o=>o.guard.isNone&&Uw o.op | none=>false)&&kX all fuel (listed.setIfInBounds i true) p
 |fuel+1,listed,p=>!(Region.ready .any all.toArray listed).isEmpty&&(Region.ready .any all.toArray listed).all fun i=>match p.get i with
  |some p'=>(match all[i]? with | some o=>o.guard.isNone | none=>false)&&kX all fuel (listed.setIfInBounds i true) p'
  |none=>false
section
variable {P:Program}{ctx:Ctx P}{ro:Cf}{n:Nat}
noncomputable def aPl (P:Program) (ctx:Ctx P) (n:Nat) (all:List Oper):Pl→St→(Exit→St→Prop)→Prop
 |.done,s,Q=>Q .normal s
 |.nil,_,_=>True
 |.alt i p r,s,Q=>(match all[i]? with
   |none=>False
   |some o=>match qS P ctx s.nx o.op (evT s.t) s.h with
    |some (ob,x,E)=>ob∧Q (.panic [{ v:=x,recovered:=false }]) ⟨s.nx+16,s.t,E++s.h⟩
    |none=>match aOp P ctx s.nx o.op (evT s.t) s.h with
     |some R=>bC n o.dst=true∧R.ob∧aPl P ctx n all p ⟨s.nx+16,putT s.t o.dst R.r,R.E++s.h⟩ Q
     |none=>False)∧aPl P ctx n all r s Q
 |.take i p,s,Q=>match all[i]? with
   |none=>False
   |some o=>match o.op with
    |.move x=>bC n o.dst=true∧aPl P ctx n all p ⟨s.nx,putT s.t o.dst (evT s.t x),s.h⟩ Q
    |.nilCheck x=>match evT s.t x with
     |.s (.l (.p b i j))=>bC n o.dst=true∧aPl P ctx n all p ⟨s.nx,putT s.t o.dst (.s (.l (.p b i j))),s.h⟩ Q
     |_=>False
    |.fieldAddr t x f=>match evT s.t x,bE P t f with
     |.s (.l (.p b i j)),some k=>bC n o.dst=true∧aPl P ctx n all p ⟨s.nx,putT s.t o.dst (.s (.l (.p b i (j+k)))),s.h⟩ Q
     |_,_=>False
    |_=>False
theorem Fg {all:List Oper}{s:St}{Q:Exit→St→Prop}{i:Nat}{p':Pl}:∀{p:Pl},aPl P ctx n all p s Q→p.get i=some p'→match all[i]? with
   |none=>False
   |some o=>match qS P ctx s.nx o.op (evT s.t) s.h with
    |some (ob,x,E)=>ob∧Q (.panic [{ v:=x,recovered:=false }]) ⟨s.nx+16,s.t,E++s.h⟩
    |none=>match aOp P ctx s.nx o.op (evT s.t) s.h with
     |some R=>bC n o.dst=true∧R.ob∧aPl P ctx n all p' ⟨s.nx+16,putT s.t o.dst R.r,R.E++s.h⟩ Q
     |none=>False
 |.done,_,hg=>by cases hg
 |.nil,_,hg=>by cases hg
 |.take _ _,_,hg=>by cases hg
 |.alt j p r,h,hg=>by
  unfold Pl.get at hg;unfold aPl at h;split at hg
  ·rename_i e;subst e;injection hg with hg;subst hg;exact h.1
  ·exact Fg (p:=r) h.2 hg
theorem yl {all:List Oper}{fuel:Nat}{listed:Array Bool}{i:Nat}{p:Pl}(h:kX all (fuel+1) listed (.take i p)=true):Region.noSelect all.toArray=true∧Region.free .any all.toArray listed i=true∧(Region.ready .any all.toArray listed).contains i=true∧(∃o,all[i]? = some o∧o.guard=none)∧kX all fuel (listed.setIfInBounds i true) p=true:=by
 unfold kX at h;simp only[and_eq_true]at h;obtain⟨⟨⟨⟨h1,h2⟩,h3⟩,h4⟩,h5⟩:=h;refine⟨h1,h2,h3,?_,h5⟩;split at h4
 ·rename_i o ho;rw[and_eq_true]at h4;exact⟨o,ho,Option.isNone_iff_eq_none.1 h4.1⟩
 ·cases h4
theorem Ij {all:List Oper}{fuel:Nat}{listed:Array Bool}{p:Pl}(hp:∀i q,p≠.take i q)(h:kX all (fuel+1) listed p=true){i:Nat}(hi:i∈Region.ready .any all.toArray listed):∃p' o,p.get i=some p'∧all[i]? = some o∧o.guard=none∧kX all fuel (listed.setIfInBounds i true) p'=true:=by
 cases p with
 |take j q=>exact absurd rfl (hp j q)
 |done =>
  unfold kX at h;rw[List.isEmpty_iff.1 h]at hi;cases hi
 |nil =>
  unfold kX at h;rw[and_eq_true,List.all_eq_true]at h;have:=h.2 i hi;simp only[Pl.get]at this;cases this
 |alt j q r =>
  unfold kX at h;rw[and_eq_true,List.all_eq_true]at h;have:=h.2 i hi;split at this
  ·rename_i p' hp;rw[and_eq_true]at this;split at this
   ·rename_i o ho;exact⟨p',o,hp,ho,Option.isNone_iff_eq_none.1 this.1,this.2⟩
   ·cases this.1
  ·cases this
theorem BS {all:List Oper}{fuel:Nat}{listed:Array Bool}{p:Pl}(h:kX all fuel listed p=true)(hr:Region.ready .any all.toArray listed=[]):p=.done:=by
 cases p with
 |done=>rfl
 |take j q =>
  cases fuel with
  |zero=>unfold kX at h;cases h
  |succ fuel =>
   have:=(yl h).2.2.1;rw[hr]at this;cases this
 |nil =>
  cases fuel with
  |zero=>unfold kX at h;cases h
  |succ fuel=>unfold kX at h;rw[hr]at h;cases h
 |alt j q r =>
  cases fuel with
  |zero=>unfold kX at h;cases h
  |succ fuel=>unfold kX at h;rw[hr]at h;cases h
theorem Ik {all:List Oper}{listed:Array Bool}{p:Pl}(h:kX all 0 listed p=true):Region.ready .any all.toArray listed=[]:=by
 cases p with
 |done=>unfold kX at h;exact List.isEmpty_iff.1 h
 |take j q=>unfold kX at h;cases h
 |nil=>unfold kX at h;cases h
 |alt j q r=>unfold kX at h;cases h
theorem zH {B:cX}{w0:World}{ρ:Nat→Loc}{al:Al}{s:St}{a:Act}{w:World}{l:List Oper}{fuel:Nat}{listed:Array Bool}{i:Nat}{o:Oper}{Qs:Exit→Act→World→Prop}{v:Value}{x:AV}
  (hQ:∀(c:List PanicEntry) (a:Act) (d:Option Tmp) (v:Value) (w:World),Qs (.panic c) (a.put d v) w→Qs (.panic c) a w) (H:RepS n B w0 ρ al s a w) (hro:ro.ro=none) (h1:Region.noSelect l.toArray=true) (h2:Region.free .any l.toArray listed i=true) (h3:(Region.ready .any l.toArray listed).contains i=true)
  (ho:l[i]? = some o) (hg:o.guard=none) (hd:bC n o.dst=true) (hnc:∀c,o.op≠.call c) (hv:∀w,(execOp a.eval o).run P w=.ok (.value v) w) (hx:ARep ρ al x v)
  (h:∀a',RepS n B w0 ρ al ⟨s.nx,putT s.t o.dst x,s.h⟩ a' w→wpAnyIn (Fw ro) 0 P .any l.toArray Qs fuel (listed.setIfInBounds i true) a' w):wpAnyIn (Fw ro) 0 P .any l.toArray Qs (fuel+1) listed a w:=by
 have hw:Region.wanted o (yielded l.toArray a.tmps)=true:=by unfold Region.wanted;rw[hg]
 refine wpAnyIn_take (oi:=o) (v:=v) (show(Fw ro).round=none from hro) (by simpa using ho) h1 h2 h3 (fun c a w hq=>hQ c a o.dst v w hq) ⟨.inl ⟨hw,hv⟩,fun w=>?_⟩ (h _ ⟨gD.trans H.size,by rw[cT];exact H.defers,H.t.putT H.size hd hx,H.w,H.al⟩);unfold Oper.about;split
 ·rename_i c hc;exact absurd hc (hnc c)
 ·rfl
theorem OV (hm:P.follows .mixedOrders=true){id:Nat}{l:List Oper}(p:Pl)(hok:kX l l.length (Array.replicate l.length false) p=true){s:St}{Q:Exit→St→Prop}(hro:ro.ro=none)(hQ:∀c s s',Q (.panic c) s→Q (.panic c) s')(h:aPl P ctx n l p s Q):SW P ro n (.region id l.toArray true) s Q:=by
 intro B w0 ρ al a w hpl H
 have hQs:∀(c:List PanicEntry) (a:Act) (d:Option Tmp) (v:Value) (w:World),(∃ρ' al' s',RepS n B w0 ρ' al' s' (a.put d v) w∧Q (.panic c) s')→∃ρ' al' s',RepS n B w0 ρ' al' s' a w∧Q (.panic c) s':=by
  rintro c a d v w ⟨ρ',al',s',H',q⟩;have hdf:=H'.defers;rw[cT]at hdf;exact⟨ρ',al',⟨s'.nx,[],s'.h⟩,⟨gD.symm.trans H'.size,hdf,fun _=>trivial,H'.w,H'.al⟩,hQ c _ _ q⟩
 refine wpIn_region_any hm ?_
 have key:∀(fuel:Nat) (listed:Array Bool) (p:Pl) (s:St) (ρ:Nat→Loc) (al:Al) (a:Act) (w:World),kX l fuel listed p=true→aPl P ctx n l p s Q→RepS n B w0 ρ al s a w→wpAnyIn (Fw ro) 0 P .any l.toArray (fun e a' w'=>∃ρ' al' s',RepS n B w0 ρ' al' s' a' w'∧Q e s') fuel listed a w:=by
  intro fuel
  induction fuel with
  |zero =>
   intro listed p s ρ al a w hk hp H;have hr:=Ik hk;have:=BS hk hr;subst this;exact⟨hr,ρ,al,s,H,hp⟩
  |succ fuel ih =>
   intro listed p s ρ al a w hk hp H;by_cases htk:∃i q,p=.take i q
   ·obtain⟨i,q,rfl⟩:=htk;obtain⟨h1,h2,h3,⟨o,ho,hg⟩,h5⟩:=yl hk;unfold aPl at hp;rw[ho]at hp;simp only at hp;split at hp
    ·rename_i x hop;refine zH (x:=evT s.t x) (v:=a.eval x) hQs H hro h1 h2 h3 ho hg hp.1 (fun c hc=>by rw[hop]at hc;cases hc) (fun w=>by simp only[execOp,hop,Sem.run_pure]) (gJ H.t x) fun a' H'=>ih _ q _ ρ al a' w h5 hp.2 H'
    ·rename_i x hop;split at hp
     ·rename_i b i' j hx;have hr:=gJ H.t x;rw[hx]at hr;obtain⟨hb,hv⟩:=hr;refine zH (x:=.s (.l (.p b i' j))) (v:=a.eval x) hQs H hro h1 h2 h3 ho hg hp.1 (fun c hc=>by rw[hop]at hc;cases hc) (fun w=>by simp only[execOp,hop,hv,Sem.run_pure]) ⟨hb,hv⟩ fun a' H'=>ih _ q _ ρ al a' w h5 hp.2 H'
     ·exact hp.elim
    ·rename_i t x f hop;split at hp
     ·rename_i b i' j k hx hk';have hr:=gJ H.t x;rw[hx]at hr
      have hall:∀w,∃v,(Instr.fieldAt t (a.eval x) f).run P w=.ok v w∧ARep ρ al (.s (.l (.p b i' (j+k)))) v:=fun w=>by
       obtain⟨v,e1,e2,-⟩:=qN (P:=P) (ρ:=ρ) (al:=al) (t:=t) (x:=.s (.l (.p b i' j))) (u:=a.eval x) hr (f:=f) (R:=⟨True,.s (.l (.p b i' (j+k))),[]⟩) (by unfold sj;rw[hk']) w;exact⟨v,e1,e2⟩
      obtain⟨v,e1,e2⟩:=hall w;refine zH (x:=.s (.l (.p b i' (j+k)))) (v:=v) hQs H hro h1 h2 h3 ho hg hp.1 (fun c hc=>by rw[hop]at hc;cases hc) (fun w'=>?_) e2 fun a' H'=>ih _ q _ ρ al a' w h5 hp.2 H';obtain⟨v',g1,g2⟩:=hall w';have:v'=v:=g2.2.trans e2.2.symm;subst this;simp only[execOp,hop,Sem.run_bind,g1,Result.andThen_ok,Sem.run_pure]
     ·exact hp.elim
    ·exact hp.elim
   have htk':∀i q,p≠.take i q:=fun i q e=>htk ⟨i,q,e⟩;refine⟨fun hr=>?_,fun i hi=>?_⟩
   ·have:=BS hk hr;subst this;exact⟨ρ,al,s,H,hp⟩
   ·obtain⟨p',o,h1,h2,h3,h4⟩:=Ij htk' hk hi;have h5:=Fg hp h1;rw[h2]at h5;simp only at h5;have hw:Region.wanted o (yielded l.toArray a.tmps)=true:=by unfold Region.wanted;rw[h3]
    unfold wpOpIn;simp only[List.getElem?_toArray,h2];rw[if_pos hw];split at h5
    ·rename_i ob x E hpan;exact uu H hpan h5.1 fun ρ' al' w' H'=>⟨ρ',al',_,H',h5.2⟩
    ·split at h5
     ·rename_i R hR;exact y4 H hR h5.2.1 h5.1 fun ρ' al' a' w' H'=>ih _ p' _ ρ' al' a' w' h4 h5.2.2 H'
     ·exact h5.elim
 have e:l.toArray.size=l.length:=by simp
 rw[e];exact key _ _ p s ρ al a _ hok h ⟨H.size,H.defers,H.t,H.w.drew,H.al⟩
end
section
open Ex (Xs xs0)
def v6:Pl:=.alt 9 (.alt 10 (.alt 11 (.alt 12 (.alt 13 .done .nil) .nil) .nil) .nil) .nil
def QF:Pl:=.take 0 (.take 1 (.take 6 (.take 2 (.take 3 (.take 4 (.alt 5 (.alt 7 (.alt 8 v6 .nil) .nil) (.alt 7 (.alt 5 (.alt 8 v6 .nil) (.alt 8 (.alt 5 v6 .nil) .nil)) .nil)))))))
theorem KJ (p:PsV)(h:BodyOk 1000 1000 p):Sw f100 1 ⟨5,ax 0 [pv 0 0 0],aC 0 (psB p)⟩ (oR f100 1 (dh (bO (bM p)))):=by
 refine aq [⟨_,kU⟩] rfl ?_;simp only[go_sem];refine OV (ctx:=[⟨_,kU⟩]) mixed QF (by kernel_rfl) rfl (fun _ _ _ h=>h) ?_;have m1:p.s.names.length+1≤maxLen:=by have:=h.names;unfold maxLen;omega
 have m2:(p.s.names.length+1)*16≤140737488355328:=by have:=h.names;omega
 rcases hv:aL 1 112 p.l with e | ⟨t,l⟩
 ·have h1:bM p=.error e:=by unfold bM;rw[hv]
  have h2:ij 1 112 p=.error e:=by unfold ij;rw[hv]
  rw[h1];simp only[go_sem,QF,v6,aPl,h2,ah]
 ·have h1:bM p=.ok ⟨l,{ p.s with names:=p.s.names++[t] }⟩:=by unfold bM;rw[hv]
  have h2:ij 1 112 p=.ok (sv t,⟨l,p.s⟩):=by unfold ij;rw[hv]
  rw[h1];simp only[go_sem,QF,v6,aPl,h2,az,m1,m2];refine⟨?_,?_,?_⟩
  all_goals exact eE (p:=⟨l,{ p.s with names:=p.s.names++[t] }⟩) 1 53 3 4 rfl ⟨by rw[psK,psL,List.length_append];rfl,rfl,by rw[stK,←yD];rfl,rfl,rfl,by decide⟩
abbrev jq:am prog 100 :=
 xk _ _ _ func100 (asP rfl) (asP fun _ _=>by go_simp) (xs0) ((fun _ p=>BodyOk 1000 1000 p)) ((fun _ p=>bO (bM p))) (asP (by rw[ntmps100];decide)) (asP fun _ p h=>KJ p h)
theorem Ov (p:PsV)(h:BodyOk 800 1000 p):Sw f102 1 ⟨5,ax 0 [pv 0 0 0,.fn 100 [.p 0 0 0] []],aC 0 (psB p)⟩ (oR f102 1 (dh (bO (dm bM 63 p)))):=by
 refine aq [] rfl ?_;simp only[go_sem];refine bF (ι:=Nat×PsV) (fun i=>i.1≤63∧BodyOk (900-i.1) 1000 i.2∧dm bM i.1 i.2=dm bM 63 p) (Ou 100) (fun i=>i.1) (63,p) ⟨Nat.le_refl _,h.to (show 800≤900-63 by decide) (Nat.le_refl _),rfl⟩ ?_ ?_
 ·exact Mx (p:=p) 1 2 3 4 ⟨rfl,rfl,rfl,rfl,rfl,by decide⟩ rfl
 rintro⟨N,q⟩ ⟨hN,hk,hR⟩;simp only at hN hk hR;unfold Ou;refine aw [⟨_,jq⟩,⟨_,sX⟩,⟨_,dG⟩] ?_;have hcom:¬(⟨#[44]⟩:ByteArray)=emp:=by decide
 have hk':BodyOk 1000 1000 q:=hk.to (by omega) (Nat.le_refl _);rcases hv:bM q with e | q1
 ·have hr:dm bM N q=.error e:=by unfold dm;rw[hv]
  rw[←hR,hr];simp only[go_sem,ah,hk',hv]
 ·obtain⟨g1,-⟩:=vV hk hv;by_cases hc:atF q1.l 4 0=cQ
  case neg =>
   have hc':¬atF q1.l 4 0=(⟨#[44]⟩:ByteArray):=hc;have hr:dm bM N q=.ok q1:=by unfold dm;rw[hv];simp only[if_neg hc]
   rw[←hR,hr];simp only[go_sem,az,hk',hv,hcom,hc',toNat_zero];exact eE (p:=q1) 21 22 23 24 rfl ⟨rfl,rfl,rfl,rfl,rfl,by decide⟩
  have hc':atF q1.l 4 0=(⟨#[44]⟩:ByteArray):=hc;have hl1:(1:Int)≤q1.l.length:=by have:=gQ (l:=q1.l) (k:=4) (n:=0) (by rw[hc];decide);omega
  cases N with
  |zero =>
   have hr:dm bM 0 q=.error 3:=by unfold dm;rw[hv];simp only[if_pos hc]
   rw[←hR,hr];simp only[go_sem,az,ah,hk',hv,hcom,hc',toNat_zero,Nat.sub_zero,Int.reduceEq]
  |succ M =>
   have hr:dm bM (M+1) q=dm bM M ⟨q1.l.drop 1,q1.s⟩:=by conv=>lhs;unfold dm;rw[hv];simp only[if_pos hc]
   rw[hr]at hR;have e64:(((64-(M+1):Nat):Int)=64)=False:=eq_false (by omega);have ew:IntKind.i64.wrap (((64-(M+1):Nat):Int)+1)=((64-M:Nat):Int):=by rw[IntKind.wrap_i64];omega
   have hd:=kL q1.l 1 (by omega);simp only[go_sem,az,hk',hv,hcom,hc',toNat_zero,e64,ew,hl1,hd,Int.toNat_one];refine⟨(M,⟨q1.l.drop 1,q1.s⟩),⟨by omega,(kJ g1).to (by omega) (Nat.le_refl _),hR⟩,Nat.lt_succ_self M,?_⟩;exact Mx (p:=⟨q1.l.drop 1,q1.s⟩) 21 22 23 24 ⟨rfl,rfl,rfl,rfl,rfl,by decide⟩ rfl
def LP:am prog 102 :=
 PF _ _ _ func102 rfl zi 100 (fun p=>BodyOk 800 1000 p) (fun p=>bO (dm bM 63 p)) (by rw[ntmps102];decide) Ov
theorem Cd {id:Nat}{h:ag}{args:List AV}:LP.run id h args=jv 1 (bW 100 fun p=>BodyOk 800 1000 p) (fun p=>dh (bO (dm bM 63 p))) id h args:=rfl
theorem Cc {id:Nat}{h:ag}{args:List AV}:LP.pan id h args=iT (bW 100 fun p=>BodyOk 800 1000 p) (fun p=>dh (bO (dm bM 63 p))) h args:=rfl
theorem NO (p:PsV)(h:BodyOk 999 1000 p):Sw f109 1 ⟨5,ax 0 [pv 0 0 0],aC 0 (psB p)⟩ (oR f109 1 (dh (bO (rh p)))):=by
 refine aq [⟨_,jq⟩,⟨_,sX⟩,⟨_,dG⟩,⟨_,Mt⟩] rfl ?_;have hcom:¬(⟨#[44]⟩:ByteArray)=emp:=by decide
 have hk':BodyOk 1000 1000 p:=h.to (by omega) (Nat.le_refl _);rcases hv:bM p with e | q
 ·have hr:rh p=.error e:=by unfold rh;rw[hv]
  rw[hr];simp only[go_sem,ah,hk',hv]
 obtain⟨g1,-⟩:=vV h hv;by_cases hc:atF q.l 4 0=cQ
 case neg =>
  have hc':¬atF q.l 4 0=(⟨#[44]⟩:ByteArray):=hc;have hr:rh p=.error 112:=by unfold rh;rw[hv];simp only[if_neg hc]
  rw[hr];simp only[go_sem,az,ah,hk',hv,hcom,hc',toNat_zero]
 have hc':atF q.l 4 0=(⟨#[44]⟩:ByteArray):=hc;have hl1:(1:Int)≤q.l.length:=by have:=gQ (l:=q.l) (k:=4) (n:=0) (by rw[hc];decide);omega
 have hr:rh p=bV ⟨q.l.drop 1,q.s⟩:=by unfold rh;rw[hv];simp only[if_pos hc]
 have hd:=kL q.l 1 (by omega);have g2:BodyOk 1000 1000 ⟨q.l.drop 1,q.s⟩:=kJ g1;rw[hr];rcases hw:bV ⟨q.l.drop 1,q.s⟩ with e | u
 ·simp only[go_sem,az,ah,hk',hv,hcom,hc',toNat_zero,hl1,hd,Int.toNat_one,g2,hw]
 ·simp only[go_sem,az,ah,hk',hv,hcom,hc',toNat_zero,hl1,hd,Int.toNat_one,g2,hw];exact eE (p:=u) 245 246 247 248 rfl ⟨rfl,rfl,rfl,rfl,rfl,by decide⟩
abbrev oC:am prog 109 :=
 xk _ _ _ func109 (asP rfl) (asP fun _ _=>by go_simp) (xs0) ((fun _ p=>BodyOk 999 1000 p)) ((fun _ p=>bO (rh p))) (asP (by rw[ntmps109];decide)) (asP fun _ p h=>NO p h)
end
section
open Ex (Xs xs0)
def bxK (n:Nat):Blk:=⟨true,89,1,[[.p n 0 0]]⟩
def mF (p:PsV):List Blk:=[bxK 1,psK p 2 3 4 5,stK p.s.labels,stK p.s.names,vlK p.s.vals,byK p.s.bytes]
def jc (h:ag):AV→Option (List Nat×PsV)
 |.s (.l (.p c 0 0))=>match ac h c with
  |some ⟨true,T,1,[[.p b 0 0]]⟩=>match rb h (pv b 0 0) with
   |some (bs,p)=>if T=89∧c∉bs then some (c::bs,p) else none
   |none=>none
  |_=>none
 |_=>none
theorem JP {h:ag}{A:AV}{bs:List Nat}{p:PsV}(hd:jc h A=some (bs,p)):∃c b lb nb vb bb,A=pv c 0 0∧bs=[c,b,lb,nb,vb,bb]∧ac h c=some (bxK b)∧F4 h b lb nb vb bb p∧bs.Nodup:=by
 unfold jc at hd;split at hd
 case h_2=>cases hd
 rename_i c;split at hd
 case h_2=>cases hd
 rename_i T b hc;split at hd
 case h_2=>cases hd
 rename_i bs' p' hp;split at hd
 case isFalse=>cases hd
 rename_i hk;obtain⟨rfl,hn⟩:=hk;simp only[Option.some.injEq,Prod.mk.injEq]at hd;obtain⟨rfl,rfl⟩:=hd;obtain⟨b',lb,nb,vb,bb,e1,rfl,hp2⟩:=rc hp
 have:b'=b:=by
  unfold pv at e1;injection e1 with e1;injection e1 with e1;injection e1 with e1;exact e1.symm
 subst this;exact⟨c,b',lb,nb,vb,bb,rfl,rfl,hc,hp2,List.nodup_cons.2 ⟨hn,hp2.nd⟩⟩
theorem Ds {h h':ag}(hs:∀b k,ac h b=some k→ac h' b=some k){A:AV}{r:List Nat×PsV}(hd:jc h A=some r):jc h' A=some r:=by
 unfold jc at hd ⊢;split at hd
 case h_2=>cases hd
 split at hd
 case h_2=>cases hd
 rename_i T b hc;split at hd
 case h_2=>cases hd
 rename_i bs' p' hp;simp only[hs _ _ hc,mW hs hp];exact hd
def jP:Except Int PsV→RO
 |.ok p=>.ret im [some (bxK 1),some (psK p 2 3 4 5)] [stK p.s.labels,stK p.s.names,vlK p.s.vals,byK p.s.bytes]
 |.error e=>.pan (dE e)
theorem ff {p:PsV}:jP (.ok p)=.ret im [some (bxK 1),some (psK p 2 3 4 5)] [stK p.s.labels,stK p.s.names,vlK p.s.vals,byK p.s.bytes]:=rfl
theorem bD {e:Int}:jP (.error e)=.pan (dE e):=rfl
def dw (q:PsV→Prop)(h:ag):List AV→Option (Prop×List Nat×PsV)
 |[A]=>match jc h A with
  |some (bs,p)=>some (q p,bs,p)
  |none=>none
 |_=>none
def N6 (f:FuncId)(fn:Func)(c:Code)(hf:Tryz.prog.funcs[f]? = some fn)(hb:fn.body=some c)
  (hen:∀(args:Array Value) (w:World),(callFunc f args).run prog w=.ok (.enter f args) w) (q:PsV→Prop) (F:PsV→Except Int PsV) (hn:1≤fn.ntmps)
  (body:∀p,q p→SW prog ⟨none,2⟩ fn.ntmps c ⟨6,ax 0 [pv 0 0 0],aC 0 (mF p)⟩ (um prog fn.results.toList 2 (jP (F p)))):am prog f :=
 mkR 2 6 (by decide) f fn c hf hb hen (dw q) (fun _=>[pv 0 0 0]) (fun p=>mF p) (fun p=>jP (F p))
  (by
   intro h h' args r hs hd;unfold dw at hd ⊢;split at hd
   ·split at hd
    ·rename_i h1;rw[Ds hs h1];exact hd
    ·cases hd
   ·cases hd)
  (by
   intro h zs q' bs p hd hq;unfold dw at hd;split at hd
   case h_2=>cases hd
   rename_i A;split at hd
   case h_2=>cases hd
   rename_i bs' p' h1;injection hd with hd;injection hd with e1 hd;injection hd with e2 e3;subst e2;subst e3;obtain⟨c,b,lb,nb,vb,bb,rfl,rfl,hc,hp,hnd⟩:=JP h1;refine⟨hn,rfl,rfl,hnd,fun d=>⟨?_,?_⟩⟩
   ·intro j b' k hj hk
    match j,hj,hk with
    |0,hj,hk =>
     simp[mF]at hj hk;subst hj;subst hk;exact⟨rfl,by rw[hc];rfl⟩
    |1,hj,hk =>
     simp[mF]at hj hk;subst hj;subst hk;exact⟨rfl,by rw[hp.p0,lE];rfl⟩
    |2,hj,hk =>
     simp[mF]at hj hk;subst hj;subst hk;exact⟨rfl,by rw[hp.p1,eD]⟩
    |3,hj,hk =>
     simp[mF]at hj hk;subst hj;subst hk;exact⟨rfl,by rw[hp.p2,eD]⟩
    |4,hj,hk =>
     simp[mF]at hj hk;subst hj;subst hk;exact⟨rfl,by rw[hp.p3,lK]⟩
    |5,hj,hk =>
     simp[mF]at hj hk;subst hj;subst hk;exact⟨rfl,by rw[hp.p4,lx]⟩
   ·intro ρ al vals hA
    match vals,hA with
    |[v],⟨a,_⟩=>exact⟨a,trivial⟩)
  (by
   intro h zs q' bs p hd hq;unfold dw at hd;split at hd
   case h_2=>cases hd
   split at hd
   case h_2=>cases hd
   injection hd with hd;injection hd with e1 hd;injection hd with e2 e3;subst e1;subst e3;exact body _ hq)
theorem zt {p:PsV}{st:St}(lb nb vb bb:Nat)(h0:ac st.h 0=some (bxK 1))(hp:F4 st.h 1 lb nb vb bb p)(hnd:[0,1,lb,nb,vb,bb].Nodup):mA 2 st (jP (.ok p)) (some im):=by
 refine⟨rfl,[some (bxK 1),some (psK p 2 3 4 5)],[stK p.s.labels,stK p.s.names,vlK p.s.vals,byK p.s.bytes],rfl,rfl,by simp,by simp[psK,bxK],by simp[stK,vlK,byK],Wk.ren [0,1,lb,nb,vb,bb] (by intro j hj;match j,hj with | 0,_=>rfl | 1,_=>rfl) (Nat.le_refl _) hnd (fun p hp=>by cases hp) ?_⟩;intro q hq k hk;simp only[ee,aC,List.cons_append,List.nil_append,List.mem_cons,List.not_mem_nil,or_false]at hq;rcases hq with rfl | rfl | rfl | rfl | rfl | rfl
 ·simp only[Option.some.injEq]at hk;subst hk;simp only[getD_eq_getElem?_getD,getElem?_cons_zero,getD_some,h0];rfl
 ·simp only[Option.some.injEq]at hk;subst hk;simp only[getD_eq_getElem?_getD,getElem?_cons_succ,getElem?_cons_zero,getD_some,hp.p0,lE]
 ·simp only[Option.some.injEq]at hk;subst hk;simp only[getD_eq_getElem?_getD,getElem?_cons_succ,getElem?_cons_zero,getD_some,hp.p1,eD]
 ·simp only[Option.some.injEq]at hk;subst hk;simp only[getD_eq_getElem?_getD,getElem?_cons_succ,getElem?_cons_zero,getD_some,hp.p2,eD]
 ·simp only[Option.some.injEq]at hk;subst hk;simp only[getD_eq_getElem?_getD,getElem?_cons_succ,getElem?_cons_zero,getD_some,hp.p3,lK]
 ·simp only[Option.some.injEq]at hk;subst hk;simp only[getD_eq_getElem?_getD,getElem?_cons_succ,getElem?_cons_zero,getD_some,hp.p4,lx]
abbrev oy:am prog 99 :=
 mz0 func99 (True) (.ret im) (asP fun _=>by
 refine aq [] rfl ?_;simp only[go_sem])
theorem NE (p:PsV)(h:BodyOk 800 1000 p):Sw f101 2 ⟨6,ax 0 [pv 0 0 0],aC 0 (mF p)⟩ (oR f101 2 (jP (dm bM 63 p))):=by
 refine aq [⟨_,LP⟩] rfl ?_;rcases hr:dm bM 63 p with e | q
 ·simp only[go_sem,mF,bxK,bD,ah,Cd,Cc,bW,List.head?_cons,h,hr]
 ·simp only[go_sem,mF,bxK,az,Cd,Cc,bW,List.head?_cons,h,hr];exact zt (p:=q) 54 55 56 57 rfl ⟨rfl,rfl,rfl,rfl,rfl,by decide⟩ (by decide)
def mq:am prog 101 :=
 N6 _ _ _ func101 rfl (fun _ _=>by go_simp) (BodyOk 800 1000) (fun p=>dm bM 63 p) (by rw[ntmps101];decide) NE
theorem vg {id:Nat}{h:ag}{args:List AV}:mq.run id h args=jv 2 (dw (BodyOk 800 1000)) (fun p=>jP (dm bM 63 p)) id h args:=rfl
theorem ve {id:Nat}{h:ag}{args:List AV}:mq.pan id h args=iT (dw (BodyOk 800 1000)) (fun p=>jP (dm bM 63 p)) h args:=rfl
theorem NF (p:PsV)(h:BodyOk 1000 800 p):Sw f104 2 ⟨6,ax 0 [pv 0 0 0],aC 0 (mF p)⟩ (oR f104 2 (jP (dA 1 p))):=by
 refine aq [⟨_,Do⟩] rfl ?_;rcases hr:dA 1 p with e | q
 ·simp only[go_sem,mF,bxK,bD,ah,h,hr]
 ·simp only[go_sem,mF,bxK,az,h,hr];exact zt (p:=q) 22 23 24 25 rfl ⟨rfl,rfl,rfl,rfl,rfl,by decide⟩ (by decide)
def mr:am prog 104 :=
 N6 _ _ _ func104 rfl (fun _ _=>by go_simp) (BodyOk 1000 800) (fun p=>dA 1 p) (by rw[ntmps104];decide) NF
theorem vi {id:Nat}{h:ag}{args:List AV}:mr.run id h args=jv 2 (dw (BodyOk 1000 800)) (fun p=>jP (dA 1 p)) id h args:=rfl
theorem vh {id:Nat}{h:ag}{args:List AV}:mr.pan id h args=iT (dw (BodyOk 1000 800)) (fun p=>jP (dA 1 p)) h args:=rfl
theorem NG (p:PsV)(h:BodyOk 1000 800 p):Sw f106 2 ⟨6,ax 0 [pv 0 0 0],aC 0 (mF p)⟩ (oR f106 2 (jP (dA 4 p))):=by
 refine aq [⟨_,Do⟩] rfl ?_;rcases hr:dA 4 p with e | q
 ·simp only[go_sem,mF,bxK,bD,ah,h,hr]
 ·simp only[go_sem,mF,bxK,az,h,hr];exact zt (p:=q) 22 23 24 25 rfl ⟨rfl,rfl,rfl,rfl,rfl,by decide⟩ (by decide)
def mu:am prog 106 :=
 N6 _ _ _ func106 rfl (fun _ _=>by go_simp) (BodyOk 1000 800) (fun p=>dA 4 p) (by rw[ntmps106];decide) NG
theorem vk {id:Nat}{h:ag}{args:List AV}:mu.run id h args=jv 2 (dw (BodyOk 1000 800)) (fun p=>jP (dA 4 p)) id h args:=rfl
theorem vj {id:Nat}{h:ag}{args:List AV}:mu.pan id h args=iT (dw (BodyOk 1000 800)) (fun p=>jP (dA 4 p)) h args:=rfl
theorem NH (p:PsV)(h:BodyOk 1000 800 p):Sw f107 2 ⟨6,ax 0 [pv 0 0 0],aC 0 (mF p)⟩ (oR f107 2 (jP (dA 8 p))):=by
 refine aq [⟨_,Do⟩] rfl ?_;rcases hr:dA 8 p with e | q
 ·simp only[go_sem,mF,bxK,bD,ah,h,hr]
 ·simp only[go_sem,mF,bxK,az,h,hr];exact zt (p:=q) 22 23 24 25 rfl ⟨rfl,rfl,rfl,rfl,rfl,by decide⟩ (by decide)
def mw:am prog 107 :=
 N6 _ _ _ func107 rfl (fun _ _=>by go_simp) (BodyOk 1000 800) (fun p=>dA 8 p) (by rw[ntmps107];decide) NH
theorem vn {id:Nat}{h:ag}{args:List AV}:mw.run id h args=jv 2 (dw (BodyOk 1000 800)) (fun p=>jP (dA 8 p)) id h args:=rfl
theorem vl {id:Nat}{h:ag}{args:List AV}:mw.pan id h args=iT (dw (BodyOk 1000 800)) (fun p=>jP (dA 8 p)) h args:=rfl
end
section
open Ex (Xs xs0)
def pQ (r:Except Int PsV):Except Int PsV:=match r with
 |.error e=>.error e
 |.ok p=>if p.l=[] then .ok p else .error 112
theorem NI (name:ByteArray)(p:PsV):Dz name p=pQ (mI name p):=rfl
theorem jA {q:PsV}(h:q.l=[]):pQ (.ok q)=.ok q:=if_pos h
theorem gy {q:PsV}(h:¬q.l=[]):pQ (.ok q)=.error 112:=if_neg h
theorem eT {e:Int}:pQ (.error e)=.error e:=rfl
structure DirOk (p:PsV):Prop where
 body:BodyOk 0 0 p
 texts:∀t∈p.l,t.text.size≤1000000
theorem DirOk.bodyK {p:PsV}(h:DirOk p)(k:Int)(a b:Nat):BodyOk a b ⟨p.l,{ p.s with kind:=k }⟩:=(h.body.with (s:={ p.s with kind:=k }) h.body.toks rfl rfl).to (zero_le _) (zero_le _)
theorem DirOk.body0 {p:PsV}(h:DirOk p)(a b:Nat):BodyOk a b p:=h.body.to (zero_le _) (zero_le _)
theorem DirOk.vals {p:PsV}(h:DirOk p):p.s.vals=[]:=List.eq_nil_of_length_eq_zero (Nat.le_zero.1 h.body.vals)
theorem J0 (name:ByteArray)(p:PsV)(h:DirOk p)(hi:name=ia):Sw f48 1 ⟨5,ax 0 [pv 0 0 0,sv name],aC 0 (psB p)⟩ (oR f48 1 (dh (bO (pQ (.ok ⟨p.l,{ p.s with kind:=2,names:=[name] }⟩))))):=by
 refine aq [⟨_,oy⟩,⟨_,jq⟩,⟨_,mq⟩,⟨_,iw⟩,⟨_,mr⟩,⟨_,mu⟩,⟨_,mw⟩,⟨_,iz⟩,⟨_,oC⟩,⟨_,dG⟩] rfl ?_;have mi:name=(⟨#[46,116,101,120,116]⟩:ByteArray):=hi;simp only[go_sem,eq_true mi];refine bu (ctx:=[]) mixed ⟨[],[(7,[0]),(11,[0])],[(1,[0]),(2,[0]),(3,[0])]⟩ (by kernel_rfl) ?_;by_cases hq:p.l=[]
 ·rw[jA (q:=⟨p.l,{ p.s with kind:=2,names:=[name] }⟩) hq];have hl:¬(0:Int)<p.l.length:=by rw[hq];decide
  simp only[go_sem,hl,az];exact eE (p:=⟨p.l,{ p.s with kind:=2,names:=[name] }⟩) 1 133 3 4 rfl ⟨rfl,rfl,rfl,rfl,rfl,by decide⟩
 ·rw[gy (q:=⟨p.l,{ p.s with kind:=2,names:=[name] }⟩) hq];have hl:(0:Int)<p.l.length:=by have:=List.length_pos_iff.2 hq;omega
  simp only[go_sem,hl,ah]
theorem JX (name:ByteArray)(p:PsV)(h:DirOk p)(n0:¬name=ia)(hi:name=iB):Sw f48 1 ⟨5,ax 0 [pv 0 0 0,sv name],aC 0 (psB p)⟩ (oR f48 1 (dh (bO (pQ (.ok ⟨p.l,{ p.s with kind:=2,names:=[name] }⟩))))):=by
 refine aq [⟨_,oy⟩,⟨_,jq⟩,⟨_,mq⟩,⟨_,iw⟩,⟨_,mr⟩,⟨_,mu⟩,⟨_,mw⟩,⟨_,iz⟩,⟨_,oC⟩,⟨_,dG⟩] rfl ?_;have m0:¬name=(⟨#[46,116,101,120,116]⟩:ByteArray):=n0;have mi:name=(⟨#[46,100,97,116,97]⟩:ByteArray):=hi;simp only[go_sem,m0,eq_true mi];refine bu (ctx:=[]) mixed ⟨[],[(7,[0]),(11,[0])],[(1,[0]),(2,[0]),(3,[0])]⟩ (by kernel_rfl) ?_;by_cases hq:p.l=[]
 ·rw[jA (q:=⟨p.l,{ p.s with kind:=2,names:=[name] }⟩) hq];have hl:¬(0:Int)<p.l.length:=by rw[hq];decide
  simp only[go_sem,hl,az];exact eE (p:=⟨p.l,{ p.s with kind:=2,names:=[name] }⟩) 1 165 3 4 rfl ⟨rfl,rfl,rfl,rfl,rfl,by decide⟩
 ·rw[gy (q:=⟨p.l,{ p.s with kind:=2,names:=[name] }⟩) hq];have hl:(0:Int)<p.l.length:=by have:=List.length_pos_iff.2 hq;omega
  simp only[go_sem,hl,ah]
theorem AO (name:ByteArray)(p:PsV)(h:DirOk p)(n0:¬name=ia)(n1:¬name=iB)(hi:name=fk):Sw f48 1 ⟨5,ax 0 [pv 0 0 0,sv name],aC 0 (psB p)⟩ (oR f48 1 (dh (bO (pQ (bM ⟨p.l,{ p.s with kind:=2 }⟩))))):=by
 refine aq [⟨_,oy⟩,⟨_,jq⟩,⟨_,mq⟩,⟨_,iw⟩,⟨_,mr⟩,⟨_,mu⟩,⟨_,mw⟩,⟨_,iz⟩,⟨_,oC⟩,⟨_,dG⟩] rfl ?_;have m0:¬name=(⟨#[46,116,101,120,116]⟩:ByteArray):=n0;have m1:¬name=(⟨#[46,100,97,116,97]⟩:ByteArray):=n1;have mi:name=(⟨#[46,115,101,99,116,105,111,110]⟩:ByteArray):=hi;simp only[go_sem,m0,m1,eq_true mi];refine bu (ctx:=[]) mixed ⟨[],[(6,[0])],[(1,[0]),(2,[0])]⟩ (by kernel_rfl) ?_;simp only[go_sem];have hc:=h.bodyK 2 1000 1000;rcases hr:bM ⟨p.l,{ p.s with kind:=2 }⟩ with e | q
 ·rw[eT];simp only[go_sem,ah,az,hc,hr]
 ·by_cases hq:q.l=[]
  ·rw[jA hq];have hl:¬(0:Int)<q.l.length:=by rw[hq];decide
   simp only[go_sem,az,ah,hc,hr,hl];exact eE (p:=q) 293 294 295 296 rfl ⟨rfl,rfl,rfl,rfl,rfl,by decide⟩
  ·rw[gy hq];have hl:(0:Int)<q.l.length:=by have:=List.length_pos_iff.2 hq;omega
   simp only[go_sem,az,ah,hc,hr,hl]
theorem DA (name:ByteArray)(p:PsV)(h:DirOk p)(n0:¬name=ia)(n1:¬name=iB)(n2:¬name=fk)(hi:name=iI):Sw f48 1 ⟨5,ax 0 [pv 0 0 0,sv name],aC 0 (psB p)⟩ (oR f48 1 (dh (bO (pQ (dm bM 63 ⟨p.l,{ p.s with kind:=3 }⟩))))):=by
 refine aq [⟨_,oy⟩,⟨_,jq⟩,⟨_,mq⟩,⟨_,iw⟩,⟨_,mr⟩,⟨_,mu⟩,⟨_,mw⟩,⟨_,iz⟩,⟨_,oC⟩,⟨_,dG⟩] rfl ?_;have m0:¬name=(⟨#[46,116,101,120,116]⟩:ByteArray):=n0;have m1:¬name=(⟨#[46,100,97,116,97]⟩:ByteArray):=n1;have m2:¬name=(⟨#[46,115,101,99,116,105,111,110]⟩:ByteArray):=n2;have mi:name=(⟨#[46,103,108,111,98,97,108]⟩:ByteArray):=hi;simp only[go_sem,m0,m1,m2,eq_true mi];have hc:=h.bodyK 3 800 1000;rcases hr:dm bM 63 ⟨p.l,{ p.s with kind:=3 }⟩ with e | q
 ·rw[eT];simp only[go_sem,vg,ve,ah,dw,jc,bxK,ff,bD,hc,hr]
 ·by_cases hq:q.l=[]
  ·rw[jA hq];have hl:¬(0:Int)<q.l.length:=by rw[hq];decide
   simp only[go_sem,vg,ve,az,dw,jc,bxK,ff,bD,hc,hr,hl];exact eE (p:=q) 309 310 311 312 rfl ⟨rfl,rfl,rfl,rfl,rfl,by decide⟩
  ·rw[gy hq];have hl:(0:Int)<q.l.length:=by have:=List.length_pos_iff.2 hq;omega
   simp only[go_sem,vg,ve,az,ah,dw,jc,bxK,ff,bD,hc,hr,hl]
theorem GH (name:ByteArray)(p:PsV)(h:DirOk p)(n0:¬name=ia)(n1:¬name=iB)(n2:¬name=fk)(n3:¬name=iI)(hi:name=jx):Sw f48 1 ⟨5,ax 0 [pv 0 0 0,sv name],aC 0 (psB p)⟩ (oR f48 1 (dh (bO (pQ (jZ ⟨p.l,{ p.s with kind:=4 }⟩))))):=by
 refine aq [⟨_,oy⟩,⟨_,jq⟩,⟨_,mq⟩,⟨_,iw⟩,⟨_,mr⟩,⟨_,mu⟩,⟨_,mw⟩,⟨_,iz⟩,⟨_,oC⟩,⟨_,dG⟩] rfl ?_;have m0:¬name=(⟨#[46,116,101,120,116]⟩:ByteArray):=n0;have m1:¬name=(⟨#[46,100,97,116,97]⟩:ByteArray):=n1;have m2:¬name=(⟨#[46,115,101,99,116,105,111,110]⟩:ByteArray):=n2;have m3:¬name=(⟨#[46,103,108,111,98,97,108]⟩:ByteArray):=n3;have mi:name=(⟨#[46,97,108,105,103,110]⟩:ByteArray):=hi;simp only[go_sem,m0,m1,m2,m3,eq_true mi];refine bu (ctx:=[]) mixed ⟨[],[(6,[0])],[(1,[0]),(2,[0])]⟩ (by kernel_rfl) ?_;simp only[go_sem];have hc:=(show BodyOk 1000 1000 ⟨p.l,{ p.s with kind:=4 }⟩∧(⟨p.l,{ p.s with kind:=4 }⟩:PsV).s.vals=[] from⟨h.bodyK 4 1000 1000,h.vals⟩);rcases hr:jZ ⟨p.l,{ p.s with kind:=4 }⟩ with e | q
 ·rw[eT];simp only[go_sem,ah,az,hc,hr];exact h.vals
 ·by_cases hq:q.l=[]
  ·rw[jA hq];have hl:¬(0:Int)<q.l.length:=by rw[hq];decide
   simp only[go_sem,az,ah,hc,hr,hl];refine⟨h.vals,?_⟩;exact eE (p:=q) 357 358 359 360 rfl ⟨rfl,rfl,rfl,rfl,rfl,by decide⟩
  ·rw[gy hq];have hl:(0:Int)<q.l.length:=by have:=List.length_pos_iff.2 hq;omega
   simp only[go_sem,az,ah,hc,hr,hl];exact h.vals
theorem JW (name:ByteArray)(p:PsV)(h:DirOk p)(n0:¬name=ia)(n1:¬name=iB)(n2:¬name=fk)(n3:¬name=iI)(n4:¬name=jx)(hi:name=qV):Sw f48 1 ⟨5,ax 0 [pv 0 0 0,sv name],aC 0 (psB p)⟩ (oR f48 1 (dh (bO (pQ (dA 1 p))))):=by
 refine aq [⟨_,oy⟩,⟨_,jq⟩,⟨_,mq⟩,⟨_,iw⟩,⟨_,mr⟩,⟨_,mu⟩,⟨_,mw⟩,⟨_,iz⟩,⟨_,oC⟩,⟨_,dG⟩] rfl ?_;have m0:¬name=(⟨#[46,116,101,120,116]⟩:ByteArray):=n0;have m1:¬name=(⟨#[46,100,97,116,97]⟩:ByteArray):=n1;have m2:¬name=(⟨#[46,115,101,99,116,105,111,110]⟩:ByteArray):=n2;have m3:¬name=(⟨#[46,103,108,111,98,97,108]⟩:ByteArray):=n3;have m4:¬name=(⟨#[46,97,108,105,103,110]⟩:ByteArray):=n4;have mi:name=(⟨#[46,98,121,116,101]⟩:ByteArray):=hi;simp only[go_sem,m0,m1,m2,m3,m4,eq_true mi];have hc:=h.body0 1000 800;rcases hr:dA 1 p with e | q
 ·rw[eT];simp only[go_sem,vi,vh,ah,dw,jc,bxK,ff,bD,hc,hr]
 ·by_cases hq:q.l=[]
  ·rw[jA hq];have hl:¬(0:Int)<q.l.length:=by rw[hq];decide
   simp only[go_sem,vi,vh,az,dw,jc,bxK,ff,bD,hc,hr,hl];exact eE (p:=q) 293 294 295 296 rfl ⟨rfl,rfl,rfl,rfl,rfl,by decide⟩
  ·rw[gy hq];have hl:(0:Int)<q.l.length:=by have:=List.length_pos_iff.2 hq;omega
   simp only[go_sem,vi,vh,az,ah,dw,jc,bxK,ff,bD,hc,hr,hl]
theorem J1 (name:ByteArray)(p:PsV)(h:DirOk p)(n0:¬name=ia)(n1:¬name=iB)(n2:¬name=fk)(n3:¬name=iI)(n4:¬name=jx)(n5:¬name=qV)(hi:name=pr):Sw f48 1 ⟨5,ax 0 [pv 0 0 0,sv name],aC 0 (psB p)⟩ (oR f48 1 (dh (bO (pQ (dA 4 p))))):=by
 refine aq [⟨_,oy⟩,⟨_,jq⟩,⟨_,mq⟩,⟨_,iw⟩,⟨_,mr⟩,⟨_,mu⟩,⟨_,mw⟩,⟨_,iz⟩,⟨_,oC⟩,⟨_,dG⟩] rfl ?_;have m0:¬name=(⟨#[46,116,101,120,116]⟩:ByteArray):=n0;have m1:¬name=(⟨#[46,100,97,116,97]⟩:ByteArray):=n1;have m2:¬name=(⟨#[46,115,101,99,116,105,111,110]⟩:ByteArray):=n2;have m3:¬name=(⟨#[46,103,108,111,98,97,108]⟩:ByteArray):=n3;have m4:¬name=(⟨#[46,97,108,105,103,110]⟩:ByteArray):=n4;have m5:¬name=(⟨#[46,98,121,116,101]⟩:ByteArray):=n5;have mi:name=(⟨#[46,119,111,114,100]⟩:ByteArray):=hi;simp only[go_sem,m0,m1,m2,m3,m4,m5,eq_true mi];have hc:=h.body0 1000 800;rcases hr:dA 4 p with e | q
 ·rw[eT];simp only[go_sem,vk,vj,ah,dw,jc,bxK,ff,bD,hc,hr]
 ·by_cases hq:q.l=[]
  ·rw[jA hq];have hl:¬(0:Int)<q.l.length:=by rw[hq];decide
   simp only[go_sem,vk,vj,az,dw,jc,bxK,ff,bD,hc,hr,hl];exact eE (p:=q) 325 326 327 328 rfl ⟨rfl,rfl,rfl,rfl,rfl,by decide⟩
  ·rw[gy hq];have hl:(0:Int)<q.l.length:=by have:=List.length_pos_iff.2 hq;omega
   simp only[go_sem,vk,vj,az,ah,dw,jc,bxK,ff,bD,hc,hr,hl]
theorem JZ (name:ByteArray)(p:PsV)(h:DirOk p)(n0:¬name=ia)(n1:¬name=iB)(n2:¬name=fk)(n3:¬name=iI)(n4:¬name=jx)(n5:¬name=qV)(n6:¬name=pr)(hi:name=wq):Sw f48 1 ⟨5,ax 0 [pv 0 0 0,sv name],aC 0 (psB p)⟩ (oR f48 1 (dh (bO (pQ (dA 8 p))))):=by
 refine aq [⟨_,oy⟩,⟨_,jq⟩,⟨_,mq⟩,⟨_,iw⟩,⟨_,mr⟩,⟨_,mu⟩,⟨_,mw⟩,⟨_,iz⟩,⟨_,oC⟩,⟨_,dG⟩] rfl ?_;have m0:¬name=(⟨#[46,116,101,120,116]⟩:ByteArray):=n0;have m1:¬name=(⟨#[46,100,97,116,97]⟩:ByteArray):=n1;have m2:¬name=(⟨#[46,115,101,99,116,105,111,110]⟩:ByteArray):=n2;have m3:¬name=(⟨#[46,103,108,111,98,97,108]⟩:ByteArray):=n3;have m4:¬name=(⟨#[46,97,108,105,103,110]⟩:ByteArray):=n4;have m5:¬name=(⟨#[46,98,121,116,101]⟩:ByteArray):=n5;have m6:¬name=(⟨#[46,119,111,114,100]⟩:ByteArray):=n6;have mi:name=(⟨#[46,113,117,97,100]⟩:ByteArray):=hi;simp only[go_sem,m0,m1,m2,m3,m4,m5,m6,eq_true mi];have hc:=h.body0 1000 800;rcases hr:dA 8 p with e | q
 ·rw[eT];simp only[go_sem,vn,vl,ah,dw,jc,bxK,ff,bD,hc,hr]
 ·by_cases hq:q.l=[]
  ·rw[jA hq];have hl:¬(0:Int)<q.l.length:=by rw[hq];decide
   simp only[go_sem,vn,vl,az,dw,jc,bxK,ff,bD,hc,hr,hl];exact eE (p:=q) 357 358 359 360 rfl ⟨rfl,rfl,rfl,rfl,rfl,by decide⟩
  ·rw[gy hq];have hl:(0:Int)<q.l.length:=by have:=List.length_pos_iff.2 hq;omega
   simp only[go_sem,vn,vl,az,ah,dw,jc,bxK,ff,bD,hc,hr,hl]
theorem GI (name:ByteArray)(p:PsV)(h:DirOk p)(n0:¬name=ia)(n1:¬name=iB)(n2:¬name=fk)(n3:¬name=iI)(n4:¬name=jx)(n5:¬name=qV)(n6:¬name=pr)(n7:¬name=wq)(hi:name=pA):Sw f48 1 ⟨5,ax 0 [pv 0 0 0,sv name],aC 0 (psB p)⟩ (oR f48 1 (dh (bO (pQ (j0 ⟨p.l,{ p.s with kind:=6 }⟩))))):=by
 refine aq [⟨_,oy⟩,⟨_,jq⟩,⟨_,mq⟩,⟨_,iw⟩,⟨_,mr⟩,⟨_,mu⟩,⟨_,mw⟩,⟨_,iz⟩,⟨_,oC⟩,⟨_,dG⟩] rfl ?_;have m0:¬name=(⟨#[46,116,101,120,116]⟩:ByteArray):=n0;have m1:¬name=(⟨#[46,100,97,116,97]⟩:ByteArray):=n1;have m2:¬name=(⟨#[46,115,101,99,116,105,111,110]⟩:ByteArray):=n2;have m3:¬name=(⟨#[46,103,108,111,98,97,108]⟩:ByteArray):=n3;have m4:¬name=(⟨#[46,97,108,105,103,110]⟩:ByteArray):=n4;have m5:¬name=(⟨#[46,98,121,116,101]⟩:ByteArray):=n5;have m6:¬name=(⟨#[46,119,111,114,100]⟩:ByteArray):=n6;have m7:¬name=(⟨#[46,113,117,97,100]⟩:ByteArray):=n7;have mi:name=(⟨#[46,97,115,99,105,105]⟩:ByteArray):=hi;simp only[go_sem,m0,m1,m2,m3,m4,m5,m6,m7,eq_true mi];refine bu (ctx:=[]) mixed ⟨[],[(6,[0])],[(1,[0]),(2,[0])]⟩ (by kernel_rfl) ?_;simp only[go_sem];have hc:=h.texts;rcases hr:j0 ⟨p.l,{ p.s with kind:=6 }⟩ with e | q
 ·rw[eT];simp only[go_sem,ah,az,hc,hr];exact h.texts
 ·by_cases hq:q.l=[]
  ·rw[jA hq];have hl:¬(0:Int)<q.l.length:=by rw[hq];decide
   simp only[go_sem,az,ah,hc,hr,hl];refine⟨h.texts,?_⟩;exact eE (p:=q) 485 486 487 488 rfl ⟨rfl,rfl,rfl,rfl,rfl,by decide⟩
  ·rw[gy hq];have hl:(0:Int)<q.l.length:=by have:=List.length_pos_iff.2 hq;omega
   simp only[go_sem,az,ah,hc,hr,hl];exact h.texts
theorem NJ (name:ByteArray)(p:PsV)(h:DirOk p)(n0:¬name=ia)(n1:¬name=iB)(n2:¬name=fk)(n3:¬name=iI)(n4:¬name=jx)(n5:¬name=qV)(n6:¬name=pr)(n7:¬name=wq)(n8:¬name=pA)(hi:name=AT):Sw f48 1 ⟨5,ax 0 [pv 0 0 0,sv name],aC 0 (psB p)⟩ (oR f48 1 (dh (bO (pQ (rh ⟨p.l,{ p.s with kind:=7 }⟩))))):=by
 refine aq [⟨_,oy⟩,⟨_,jq⟩,⟨_,mq⟩,⟨_,iw⟩,⟨_,mr⟩,⟨_,mu⟩,⟨_,mw⟩,⟨_,iz⟩,⟨_,oC⟩,⟨_,dG⟩] rfl ?_;have m0:¬name=(⟨#[46,116,101,120,116]⟩:ByteArray):=n0;have m1:¬name=(⟨#[46,100,97,116,97]⟩:ByteArray):=n1;have m2:¬name=(⟨#[46,115,101,99,116,105,111,110]⟩:ByteArray):=n2;have m3:¬name=(⟨#[46,103,108,111,98,97,108]⟩:ByteArray):=n3;have m4:¬name=(⟨#[46,97,108,105,103,110]⟩:ByteArray):=n4;have m5:¬name=(⟨#[46,98,121,116,101]⟩:ByteArray):=n5;have m6:¬name=(⟨#[46,119,111,114,100]⟩:ByteArray):=n6;have m7:¬name=(⟨#[46,113,117,97,100]⟩:ByteArray):=n7;have m8:¬name=(⟨#[46,97,115,99,105,105]⟩:ByteArray):=n8;have mi:name=(⟨#[46,101,113,117]⟩:ByteArray):=hi;simp only[go_sem,m0,m1,m2,m3,m4,m5,m6,m7,m8,eq_true mi];refine bu (ctx:=[]) mixed ⟨[],[(6,[0])],[(1,[0]),(2,[0])]⟩ (by kernel_rfl) ?_;simp only[go_sem];have hc:=h.bodyK 7 999 1000;rcases hr:rh ⟨p.l,{ p.s with kind:=7 }⟩ with e | q
 ·rw[eT];simp only[go_sem,ah,az,hc,hr]
 ·by_cases hq:q.l=[]
  ·rw[jA hq];have hl:¬(0:Int)<q.l.length:=by rw[hq];decide
   simp only[go_sem,az,ah,hc,hr,hl];exact eE (p:=q) 517 518 519 520 rfl ⟨rfl,rfl,rfl,rfl,rfl,by decide⟩
  ·rw[gy hq];have hl:(0:Int)<q.l.length:=by have:=List.length_pos_iff.2 hq;omega
   simp only[go_sem,az,ah,hc,hr,hl]
theorem JY (name:ByteArray)(p:PsV)(n0:¬name=ia)(n1:¬name=iB)(n2:¬name=fk)(n3:¬name=iI)(n4:¬name=jx)(n5:¬name=qV)(n6:¬name=pr)(n7:¬name=wq)(n8:¬name=pA)(n9:¬name=AT):Sw f48 1 ⟨5,ax 0 [pv 0 0 0,sv name],aC 0 (psB p)⟩ (oR f48 1 (dh (bO (pQ (.error 111))))):=by
 refine aq [⟨_,oy⟩,⟨_,jq⟩,⟨_,mq⟩,⟨_,iw⟩,⟨_,mr⟩,⟨_,mu⟩,⟨_,mw⟩,⟨_,iz⟩,⟨_,oC⟩,⟨_,dG⟩] rfl ?_;have m0:¬name=(⟨#[46,116,101,120,116]⟩:ByteArray):=n0;have m1:¬name=(⟨#[46,100,97,116,97]⟩:ByteArray):=n1;have m2:¬name=(⟨#[46,115,101,99,116,105,111,110]⟩:ByteArray):=n2;have m3:¬name=(⟨#[46,103,108,111,98,97,108]⟩:ByteArray):=n3;have m4:¬name=(⟨#[46,97,108,105,103,110]⟩:ByteArray):=n4;have m5:¬name=(⟨#[46,98,121,116,101]⟩:ByteArray):=n5;have m6:¬name=(⟨#[46,119,111,114,100]⟩:ByteArray):=n6;have m7:¬name=(⟨#[46,113,117,97,100]⟩:ByteArray):=n7;have m8:¬name=(⟨#[46,97,115,99,105,105]⟩:ByteArray):=n8;have m9:¬name=(⟨#[46,101,113,117]⟩:ByteArray):=n9;simp only[go_sem,m0,m1,m2,m3,m4,m5,m6,m7,m8,m9,eT,ah]
theorem zf (name:ByteArray)(p:PsV)(h:DirOk p):Sw f48 1 ⟨5,ax 0 [pv 0 0 0,sv name],aC 0 (psB p)⟩ (oR f48 1 (dh (bO (pQ (mI name p))))):=by
 unfold mI;by_cases n0:name=ia
 ·rw[if_pos (.inl n0)];exact J0 name p h n0
 by_cases n1:name=iB
 ·rw[if_pos (.inr n1)];exact JX name p h n0 n1
 rw[if_neg (by rintro (e | e);exact n0 e;exact n1 e)];by_cases n2:name=fk
 ·rw[if_pos n2];exact AO name p h n0 n1 n2
 rw[if_neg n2];by_cases n3:name=iI
 ·rw[if_pos n3];exact DA name p h n0 n1 n2 n3
 rw[if_neg n3];by_cases n4:name=jx
 ·rw[if_pos n4];exact GH name p h n0 n1 n2 n3 n4
 rw[if_neg n4];by_cases n5:name=qV
 ·rw[if_pos n5];exact JW name p h n0 n1 n2 n3 n4 n5
 rw[if_neg n5];by_cases n6:name=pr
 ·rw[if_pos n6];exact J1 name p h n0 n1 n2 n3 n4 n5 n6
 rw[if_neg n6];by_cases n7:name=wq
 ·rw[if_pos n7];exact JZ name p h n0 n1 n2 n3 n4 n5 n6 n7
 rw[if_neg n7];by_cases n8:name=pA
 ·rw[if_pos n8];exact GI name p h n0 n1 n2 n3 n4 n5 n6 n7 n8
 rw[if_neg n8];by_cases n9:name=AT
 ·rw[if_pos n9];exact NJ name p h n0 n1 n2 n3 n4 n5 n6 n7 n8 n9
 rw[if_neg n9];exact JY name p n0 n1 n2 n3 n4 n5 n6 n7 n8 n9
abbrev PB:am prog 48 :=
 xk _ _ _ func48 (asP rfl) (asP fun _ _=>by go_simp) (CN) ((fun _ p=>DirOk p)) ((fun name p=>bO (Dz name p))) (asP (by rw[ntmps48];decide)) (asP fun name p h=>by
 rw[NI];exact zf name p h)
end
end Go.Proofs.YtnhbidpdadkcjaaGreatDoor
