import Derived.Test.YtnhbidpdadkcjaaGreatDoorJ07
import Derived.Test.YtnhbidpdadkcjaaGreatDoorJ44
set_option linter.unusedVariables false
set_option linter.unusedSimpArgs false
set_option maxRecDepth 100000
set_option maxHeartbeats 8000000
namespace Go.Proofs.YtnhbidpdadkcjaaGreatDoor
section
open Go.RowKit
inductive Pl where
 | done:Pl
 | nil:Pl
 | alt:Nat→Pl→Pl→Pl
 | take:Nat→Pl→Pl
def Pl.get:Pl→Nat→Option Pl
 | .alt j p r,i=>if i=j then some p else r.get i
 | .done,_=>none
 | .nil,_=>none
 | .take _ _,_=>none
def calm:Op→Bool
 | .move _=>true
 | .nilCheck _=>true
 | .fieldAddr _ _ _=>true
 | _=>false
def ng (all:List Oper):Nat→Array Bool→Pl→Bool
 | _,listed,.done=>(Region.ready .any all.toArray listed).isEmpty
 | 0,_,_=>false
 | fuel+1,listed,.take i p=>Region.noSelect all.toArray&&Region.free .any all.toArray listed i&&(Region.ready .any all.toArray listed).contains i&&(match all[i]? with | some o=>o.guard.isNone&&calm o.op | none=>false)&&ng all fuel (listed.setIfInBounds i true) p
 | fuel+1,listed,p=>!(Region.ready .any all.toArray listed).isEmpty&&(Region.ready .any all.toArray listed).all fun i=>match p.get i with
  | some p'=>(match all[i]? with | some o=>o.guard.isNone | none=>false)&&ng all fuel (listed.setIfInBounds i true) p'
  | none=>false
section
variable {P:Program} {ctx:Ctx P} {ro:Cf} {n:Nat}
noncomputable def aPl (P:Program) (ctx:Ctx P) (n:Nat) (all:List Oper):Pl→St→(Exit→St→Prop)→Prop
 | .done,s,Q=>Q .normal s
 | .nil,_,_=>True
 | .alt i p r,s,Q=>(match all[i]? with
   | none=>False
   | some o=>match sS P ctx s.nx o.op (evT s.t) s.h with
    | some (ob,x,E)=>ob∧Q (.panic [{ v:=x,recovered:=false }]) ⟨s.nx+16,s.t,E++s.h⟩
    | none=>match aOp P ctx s.nx o.op (evT s.t) s.h with
     | some R=>cO n o.dst=true∧R.ob∧aPl P ctx n all p ⟨s.nx+16,putT s.t o.dst R.r,R.E++s.h⟩ Q
     | none=>False)∧aPl P ctx n all r s Q
 | .take i p,s,Q=>match all[i]? with
   | none=>False
   | some o=>match o.op with
    | .move x=>cO n o.dst=true∧aPl P ctx n all p ⟨s.nx,putT s.t o.dst (evT s.t x),s.h⟩ Q
    | .nilCheck x=>match evT s.t x with
     | .s (.l (.p b i j))=>cO n o.dst=true∧aPl P ctx n all p ⟨s.nx,putT s.t o.dst (.s (.l (.p b i j))),s.h⟩ Q
     | _=>False
    | .fieldAddr t x f=>match evT s.t x,dg P t f with
     | .s (.l (.p b i j)),some k=>cO n o.dst=true∧aPl P ctx n all p ⟨s.nx,putT s.t o.dst (.s (.l (.p b i (j+k)))),s.h⟩ Q
     | _,_=>False
    | _=>False
theorem F1 {all:List Oper} {s:St} {Q:Exit→St→Prop} {i:Nat} {p':Pl}:∀ {p:Pl},aPl P ctx n all p s Q→p.get i=some p'→match all[i]? with
   | none=>False
   | some o=>match sS P ctx s.nx o.op (evT s.t) s.h with
    | some (ob,x,E)=>ob∧Q (.panic [{ v:=x,recovered:=false }]) ⟨s.nx+16,s.t,E++s.h⟩
    | none=>match aOp P ctx s.nx o.op (evT s.t) s.h with
     | some R=>cO n o.dst=true∧R.ob∧aPl P ctx n all p' ⟨s.nx+16,putT s.t o.dst R.r,R.E++s.h⟩ Q
     | none=>False
 | .done,_,hg=>by cases hg
 | .nil,_,hg=>by cases hg
 | .take _ _,_,hg=>by cases hg
 | .alt j p r,h,hg=>by
  unfold Pl.get at hg
  unfold aPl at h
  split at hg
  ·rename_i e
   subst e
   injection hg with hg
   subst hg
   exact h.1
  ·exact F1 (p:=r) h.2 hg
theorem zL {all:List Oper} {fuel:Nat} {listed:Array Bool} {i:Nat} {p:Pl} (h:ng all (fuel+1) listed (.take i p)=true):Region.noSelect all.toArray=true∧Region.free .any all.toArray listed i=true∧(Region.ready .any all.toArray listed).contains i=true∧(∃ o,all[i]? = some o∧o.guard=none)∧ng all fuel (listed.setIfInBounds i true) p=true:=by
 unfold ng at h
 simp only [Bool.and_eq_true] at h
 obtain ⟨⟨⟨⟨h1,h2⟩,h3⟩,h4⟩,h5⟩:=h
 refine ⟨h1,h2,h3,?_,h5⟩
 split at h4
 ·rename_i o ho
  rw [Bool.and_eq_true] at h4
  exact ⟨o,ho,Option.isNone_iff_eq_none.1 h4.1⟩
 ·cases h4
theorem IV {all:List Oper} {fuel:Nat} {listed:Array Bool} {p:Pl} (hp:∀ i q,p≠.take i q) (h:ng all (fuel+1) listed p=true) {i:Nat} (hi:i∈Region.ready .any all.toArray listed):∃ p' o,p.get i=some p'∧all[i]? = some o∧o.guard=none∧ng all fuel (listed.setIfInBounds i true) p'=true:=by
 cases p with
 | take j q=>exact absurd rfl (hp j q)
 | done =>
  unfold ng at h
  rw [List.isEmpty_iff.1 h] at hi
  cases hi
 | nil =>
  unfold ng at h
  rw [Bool.and_eq_true,List.all_eq_true] at h
  have:=h.2 i hi
  simp only [Pl.get] at this
  cases this
 | alt j q r =>
  unfold ng at h
  rw [Bool.and_eq_true,List.all_eq_true] at h
  have:=h.2 i hi
  split at this
  ·rename_i p' hp
   rw [Bool.and_eq_true] at this
   split at this
   ·rename_i o ho
    exact ⟨p',o,hp,ho,Option.isNone_iff_eq_none.1 this.1,this.2⟩
   ·cases this.1
  ·cases this
theorem CY {all:List Oper} {fuel:Nat} {listed:Array Bool} {p:Pl} (h:ng all fuel listed p=true) (hr:Region.ready .any all.toArray listed=[]):p=.done:=by
 cases p with
 | done=>rfl
 | take j q =>
  cases fuel with
  | zero=>unfold ng at h;cases h
  | succ fuel =>
   have:=(zL h).2.2.1
   rw [hr] at this
   cases this
 | nil =>
  cases fuel with
  | zero=>unfold ng at h;cases h
  | succ fuel=>unfold ng at h;rw [hr] at h;cases h
 | alt j q r =>
  cases fuel with
  | zero=>unfold ng at h;cases h
  | succ fuel=>unfold ng at h;rw [hr] at h;cases h
theorem IW {all:List Oper} {listed:Array Bool} {p:Pl} (h:ng all 0 listed p=true):Region.ready .any all.toArray listed=[]:=by
 cases p with
 | done=>unfold ng at h;exact List.isEmpty_iff.1 h
 | take j q=>unfold ng at h;cases h
 | nil=>unfold ng at h;cases h
 | alt j q r=>unfold ng at h;cases h
theorem Be {B:eK} {w0:World} {ρ:Nat→Loc} {al:Al} {s:St} {a:Act} {w:World} {l:List Oper} {fuel:Nat} {listed:Array Bool} {i:Nat} {o:Oper} {Qs:Exit→Act→World→Prop} {v:Value} {x:AV}
  (hQ:∀ (c:List PanicEntry) (a:Act) (d:Option Tmp) (v:Value) (w:World),Qs (.panic c) (a.put d v) w→Qs (.panic c) a w) (H:RepS n B w0 ρ al s a w) (hro:ro.ro=none) (h1:Region.noSelect l.toArray=true) (h2:Region.free .any l.toArray listed i=true) (h3:(Region.ready .any l.toArray listed).contains i=true)
  (ho:l[i]? = some o) (hg:o.guard=none) (hd:cO n o.dst=true) (hnc:∀ c,o.op≠.call c) (hv:∀ w,(execOp a.eval o).run P w=.ok (.value v) w) (hx:ARep ρ al x v)
  (h:∀ a',RepS n B w0 ρ al ⟨s.nx,putT s.t o.dst x,s.h⟩ a' w→wpAnyIn (Fw ro) 0 P .any l.toArray Qs fuel (listed.setIfInBounds i true) a' w):wpAnyIn (Fw ro) 0 P .any l.toArray Qs (fuel+1) listed a w:=by
 have hw:Region.wanted o (yielded l.toArray a.tmps)=true:=by unfold Region.wanted;rw [hg]
 refine wpAnyIn_take (oi:=o) (v:=v) (show (Fw ro).round=none from hro) (by simpa using ho) h1 h2 h3 (fun c a w hq=>hQ c a o.dst v w hq) ⟨.inl ⟨hw,hv⟩,fun w=>?_⟩ (h _ ⟨jC.trans H.size,by rw [eA];exact H.defers,H.t.putT H.size hd hx,H.w,H.al⟩)
 unfold Oper.about
 split
 ·rename_i c hc
  exact absurd hc (hnc c)
 ·rfl
theorem PX (hm:P.follows .mixedOrders=true) {id:Nat} {l:List Oper} (p:Pl) (hok:ng l l.length (Array.replicate l.length false) p=true) {s:St} {Q:Exit→St→Prop} (hro:ro.ro=none) (hQ:∀ c s s',Q (.panic c) s→Q (.panic c) s') (h:aPl P ctx n l p s Q):SW P ro n (.region id l.toArray true) s Q:=by
 intro B w0 ρ al a w hpl H
 have hQs:∀ (c:List PanicEntry) (a:Act) (d:Option Tmp) (v:Value) (w:World),(∃ ρ' al' s',RepS n B w0 ρ' al' s' (a.put d v) w∧Q (.panic c) s')→∃ ρ' al' s',RepS n B w0 ρ' al' s' a w∧Q (.panic c) s':=by
  rintro c a d v w ⟨ρ',al',s',H',q⟩
  have hdf:=H'.defers
  rw [eA] at hdf
  exact ⟨ρ',al',⟨s'.nx,[],s'.h⟩,⟨jC.symm.trans H'.size,hdf,fun _=>trivial,H'.w,H'.al⟩,hQ c _ _ q⟩
 refine wpIn_region_any hm ?_
 have key:∀ (fuel:Nat) (listed:Array Bool) (p:Pl) (s:St) (ρ:Nat→Loc) (al:Al) (a:Act) (w:World),ng l fuel listed p=true→aPl P ctx n l p s Q→RepS n B w0 ρ al s a w→wpAnyIn (Fw ro) 0 P .any l.toArray (fun e a' w'=>∃ ρ' al' s',RepS n B w0 ρ' al' s' a' w'∧Q e s') fuel listed a w:=by
  intro fuel
  induction fuel with
  | zero =>
   intro listed p s ρ al a w hk hp H
   have hr:=IW hk
   have:=CY hk hr
   subst this
   exact ⟨hr,ρ,al,s,H,hp⟩
  | succ fuel ih =>
   intro listed p s ρ al a w hk hp H
   by_cases htk:∃ i q,p=.take i q
   ·obtain ⟨i,q,rfl⟩:=htk
    obtain ⟨h1,h2,h3,⟨o,ho,hg⟩,h5⟩:=zL hk
    unfold aPl at hp
    rw [ho] at hp
    simp only at hp
    split at hp
    ·rename_i x hop
     refine Be (x:=evT s.t x) (v:=a.eval x) hQs H hro h1 h2 h3 ho hg hp.1 (fun c hc=>by rw [hop] at hc;cases hc) (fun w=>by simp only [execOp,hop,Sem.run_pure]) (jc H.t x) fun a' H'=>ih _ q _ ρ al a' w h5 hp.2 H'
    ·rename_i x hop
     split at hp
     ·rename_i b i' j hx
      have hr:=jc H.t x
      rw [hx] at hr
      obtain ⟨hb,hv⟩:=hr
      refine Be (x:=.s (.l (.p b i' j))) (v:=a.eval x) hQs H hro h1 h2 h3 ho hg hp.1 (fun c hc=>by rw [hop] at hc;cases hc) (fun w=>by simp only [execOp,hop,hv,Sem.run_pure]) ⟨hb,hv⟩ fun a' H'=>ih _ q _ ρ al a' w h5 hp.2 H'
     ·exact hp.elim
    ·rename_i t x f hop
     split at hp
     ·rename_i b i' j k hx hk'
      have hr:=jc H.t x
      rw [hx] at hr
      have hall:∀ w,∃ v,(Instr.fieldAt t (a.eval x) f).run P w=.ok v w∧ARep ρ al (.s (.l (.p b i' (j+k)))) v:=fun w=>by
       obtain ⟨v,e1,e2,-⟩:=sP (P:=P) (ρ:=ρ) (al:=al) (t:=t) (x:=.s (.l (.p b i' j))) (u:=a.eval x) hr (f:=f) (R:=⟨True,.s (.l (.p b i' (j+k))),[]⟩) (by unfold ud;rw [hk']) w
       exact ⟨v,e1,e2⟩
      obtain ⟨v,e1,e2⟩:=hall w
      refine Be (x:=.s (.l (.p b i' (j+k)))) (v:=v) hQs H hro h1 h2 h3 ho hg hp.1 (fun c hc=>by rw [hop] at hc;cases hc) (fun w'=>?_) e2 fun a' H'=>ih _ q _ ρ al a' w h5 hp.2 H'
      obtain ⟨v',g1,g2⟩:=hall w'
      have:v'=v:=g2.2.trans e2.2.symm
      subst this
      simp only [execOp,hop,Sem.run_bind,g1,Result.andThen_ok,Sem.run_pure]
     ·exact hp.elim
    ·exact hp.elim
   have htk':∀ i q,p≠.take i q:=fun i q e=>htk ⟨i,q,e⟩
   refine ⟨fun hr=>?_,fun i hi=>?_⟩
   ·have:=CY hk hr
    subst this
    exact ⟨ρ,al,s,H,hp⟩
   ·obtain ⟨p',o,h1,h2,h3,h4⟩:=IV htk' hk hi
    have h5:=F1 hp h1
    rw [h2] at h5
    simp only at h5
    have hw:Region.wanted o (yielded l.toArray a.tmps)=true:=by unfold Region.wanted;rw [h3]
    unfold wpOpIn
    simp only [List.getElem?_toArray,h2]
    rw [if_pos hw]
    split at h5
    ·rename_i ob x E hpan
     exact wa H hpan h5.1 fun ρ' al' w' H'=>⟨ρ',al',_,H',h5.2⟩
    ·split at h5
     ·rename_i R hR
      exact Ap H hR h5.2.1 h5.1 fun ρ' al' a' w' H'=>ih _ p' _ ρ' al' a' w' h4 h5.2.2 H'
     ·exact h5.elim
 have e:l.toArray.size=l.length:=by simp
 rw [e]
 exact key _ _ p s ρ al a _ hok h ⟨H.size,H.defers,H.t,H.w.drew,H.al⟩
end
end
section
open Go.RowKit
open Ex (Xs xs0)
def xM:Pl:=.alt 9 (.alt 10 (.alt 11 (.alt 12 (.alt 13 .done .nil) .nil) .nil) .nil) .nil
def RE:Pl:=.take 0 (.take 1 (.take 6 (.take 2 (.take 3 (.take 4 (.alt 5 (.alt 7 (.alt 8 xM .nil) .nil) (.alt 7 (.alt 5 (.alt 8 xM .nil) (.alt 8 (.alt 5 xM .nil) .nil)) .nil)))))))
theorem Lz (p:PsV) (h:BodyOk 1000 1000 p):SW Tryz.prog ⟨none,1⟩ Tryz.f100.ntmps (Tryz.f100.body.getD .skip) ⟨5,aC 0 [pv 0 0 0],bB 0 (psB p)⟩ (dy Tryz.prog Tryz.f100.results.toList 1 (cY (cf (nameR p)))):=by
 refine aa (ctx:=[⟨_,mZ⟩]) 4000 ?_
 rw [Tryz.ntmps100,Tryz.results100]
 simp only [Tryz.f100,Option.getD_some,aC]
 simp only [go_sem,psB,psK,psL,aX,bj,aS,aP,am,ao,ak,stK,vlK,byK,ac,aB,aA,xs2,xs1,xs0,bV,aE,ae,aF,ag,aG,aH,aD,List.nodup_cons,List.mem_cons,List.not_mem_nil,or_false,not_or,List.nodup_nil,not_false_eq_true,and_self,aq,ap,aN,aM,ax,aw,au,ar]
 refine PX (ctx:=[⟨_,mZ⟩]) mixed RE (by kernel_rfl) rfl (fun _ _ _ h=>h) ?_
 have m1:p.s.names.length+1≤maxLen:=by have:=h.names;unfold maxLen;omega
 have m2:(p.s.names.length+1)*16≤140737488355328:=by have:=h.names;omega
 rcases hv:nextF 1 112 p.l with e | ⟨t,l⟩
 ·have h1:nameR p=.error e:=by unfold nameR;rw [hv]
  have h2:j4 1 112 p=.error e:=by unfold j4;rw [hv]
  rw [h1]
  simp only [go_sem,psB,psK,psL,aX,bj,aS,aP,am,ao,ak,stK,vlK,byK,ac,aB,aA,xs2,xs1,xs0,bV,aE,ae,aF,ag,aG,aH,aD,List.nodup_cons,List.mem_cons,List.not_mem_nil,or_false,not_or,List.nodup_nil,not_false_eq_true,and_self,aq,ap,aN,aM,ax,aw,au,ar,RE,xM,aPl,h2,aL]
 ·have h1:nameR p=.ok ⟨l,{ p.s with names:=p.s.names++[t] }⟩:=by unfold nameR;rw [hv]
  have h2:j4 1 112 p=.ok (sv t,⟨l,p.s⟩):=by unfold j4;rw [hv]
  rw [h1]
  simp only [go_sem,psB,psK,psL,aX,bj,aS,aP,am,ao,ak,stK,vlK,byK,ac,aB,aA,xs2,xs1,xs0,bV,aE,ae,aF,ag,aG,aH,aD,List.nodup_cons,List.mem_cons,List.not_mem_nil,or_false,not_or,List.nodup_nil,not_false_eq_true,and_self,aq,ap,aN,aM,ax,aw,au,ar,RE,xM,aPl,h2,bc,m1,m2,List.length_map]
  refine ⟨?_,?_,?_⟩
  all_goals exact gz (p:=⟨l,{ p.s with names:=p.s.names++[t] }⟩) 1 53 3 4 rfl ⟨by rw [psK,psL,List.length_append];rfl,rfl,by rw [stK,← oW];rfl,rfl,rfl,by decide⟩
def jW:bi Tryz.prog 100 :=
 CE _ _ _ Tryz.func100 rfl (fun _ _=>by go_simp) (xs0) ((fun _ p=>BodyOk 1000 1000 p)) ((fun _ p=>cf (nameR p))) (by rw [Tryz.ntmps100];decide) (fun _ p h=>Lz p h)
theorem gD {id:Nat} {h:ah} {args:List AV}:(jW).run id h args=gu 1 (aX (xs0) ((fun _ p=>BodyOk 1000 1000 p))) (fun x=>cY (((fun _ p=>cf (nameR p))) x.1 x.2)) id h args:=rfl
theorem gC {id:Nat} {h:ah} {args:List AV}:(jW).pan id h args=fX (aX (xs0) ((fun _ p=>BodyOk 1000 1000 p))) (fun x=>cY (((fun _ p=>cf (nameR p))) x.1 x.2)) h args:=rfl
theorem Py (p:PsV) (h:BodyOk 800 1000 p):SW Tryz.prog ⟨none,1⟩ Tryz.f102.ntmps (Tryz.f102.body.getD .skip) ⟨5,aC 0 [pv 0 0 0,.fn 100 [.p 0 0 0] []],bB 0 (psB p)⟩ (dy Tryz.prog Tryz.f102.results.toList 1 (cY (cf (fh nameR 63 p)))):=by
 refine aa (ctx:=[]) 4000 ?_
 rw [Tryz.ntmps102,Tryz.results102]
 simp only [Tryz.f102,Option.getD_some,aC]
 simp only [go_sem,psB,psK,psL,aX,bj,aS,aP,am,ao,ak,stK,vlK,byK,ac,aB,aA,xs2,xs1,xs0,bV,aE,ae,aF,ag,aG,aH,aD,List.nodup_cons,List.mem_cons,List.not_mem_nil,or_false,not_or,List.nodup_nil,not_false_eq_true,and_self,aq,ap,aN,aM,ax,aw,au,ar]
 refine cW (ι:=Nat×PsV) (fun i=>i.1≤63∧BodyOk (900-i.1) 1000 i.2∧fh nameR i.1 i.2=fh nameR 63 p) (Px 100) (fun i=>i.1) (63,p) ⟨Nat.le_refl _,h.to (show 800≤900-63 by decide) (Nat.le_refl _),rfl⟩ ?_ ?_
 ·exact Nl (p:=p) 1 2 3 4 ⟨rfl,rfl,rfl,rfl,rfl,by decide⟩ rfl
 rintro ⟨N,q⟩ ⟨hN,hk,hR⟩
 simp only at hN hk hR
 unfold Px
 refine aa (ctx:=[⟨_,jW⟩,⟨_,uJ⟩,⟨_,fC⟩]) 4000 ?_
 have hcom:¬(⟨#[44]⟩:ByteArray)=emp:=by decide
 have hk':BodyOk 1000 1000 q:=hk.to (by omega) (Nat.le_refl _)
 rcases hv:nameR q with e | q1
 ·have hr:fh nameR N q=.error e:=by unfold fh;rw [hv]
  rw [← hR,hr]
  simp only [go_sem,psB,psK,psL,aX,bj,aS,aP,am,ao,ak,stK,vlK,byK,ac,aB,aA,xs2,xs1,xs0,bV,aE,ae,aF,ag,aG,aH,aD,List.nodup_cons,List.mem_cons,List.not_mem_nil,or_false,not_or,List.nodup_nil,not_false_eq_true,and_self,aq,ap,aN,aM,ax,aw,au,ar,aL,gD,gC,hk',hv]
 ·obtain ⟨g1,-⟩:=qv hk hv
  by_cases hc:atF q1.l 4 0=fJ
  case neg =>
   have hc':¬atF q1.l 4 0=(⟨#[44]⟩:ByteArray):=hc
   have hr:fh nameR N q=.ok q1:=by unfold fh;rw [hv];simp only [if_neg hc]
   rw [← hR,hr]
   simp only [go_sem,psB,psK,psL,aX,bj,aS,aP,am,ao,ak,stK,vlK,byK,ac,aB,aA,xs2,xs1,xs0,bV,aE,ae,aF,ag,aG,aH,aD,List.nodup_cons,List.mem_cons,List.not_mem_nil,or_false,not_or,List.nodup_nil,not_false_eq_true,and_self,aq,ap,aN,aM,ax,aw,au,ar,bc,gD,gC,hk',hv,hcom,hc',Int.toNat_zero]
   exact gz (p:=q1) 21 22 23 24 rfl ⟨rfl,rfl,rfl,rfl,rfl,by decide⟩
  have hc':atF q1.l 4 0=(⟨#[44]⟩:ByteArray):=hc
  have hl1:(1:Int)≤q1.l.length:=by have:=jN (l:=q1.l) (k:=4) (n:=0) (by rw [hc];decide);omega
  cases N with
  | zero =>
   have hr:fh nameR 0 q=.error 3:=by unfold fh;rw [hv];simp only [if_pos hc]
   rw [← hR,hr]
   simp only [go_sem,psB,psK,psL,aX,bj,aS,aP,am,ao,ak,stK,vlK,byK,ac,aB,aA,xs2,xs1,xs0,bV,aE,ae,aF,ag,aG,aH,aD,List.nodup_cons,List.mem_cons,List.not_mem_nil,or_false,not_or,List.nodup_nil,not_false_eq_true,and_self,aq,ap,aN,aM,ax,aw,au,ar,bc,aL,gD,gC,hk',hv,hcom,hc',Int.toNat_zero,Nat.sub_zero,Int.cast_ofNat_Int,Int.reduceEq]
  | succ M =>
   have hr:fh nameR (M+1) q=fh nameR M ⟨q1.l.drop 1,q1.s⟩:=by conv=>lhs;unfold fh;rw [hv];simp only [if_pos hc]
   rw [hr] at hR
   have e64:(((64-(M+1):Nat):Int)=64)=False:=eq_false (by omega)
   have ew:IntKind.i64.wrap (((64-(M+1):Nat):Int)+1)=((64-M:Nat):Int):=by rw [IntKind.wrap_i64];omega
   have hd:=mL q1.l 1 (by omega)
   simp only [go_sem,psB,psK,psL,aX,bj,aS,aP,am,ao,ak,stK,vlK,byK,ac,aB,aA,xs2,xs1,xs0,bV,aE,ae,aF,ag,aG,aH,aD,List.nodup_cons,List.mem_cons,List.not_mem_nil,or_false,not_or,List.nodup_nil,not_false_eq_true,and_self,aq,ap,aN,aM,ax,aw,au,ar,bc,gD,gC,hk',hv,hcom,hc',Int.toNat_zero,e64,ew,hl1,List.length_map,hd,Int.toNat_one]
   refine ⟨(M,⟨q1.l.drop 1,q1.s⟩),⟨by omega,(kM g1).to (by omega) (Nat.le_refl _),hR⟩,Nat.lt_succ_self M,?_⟩
   exact Nl (p:=⟨q1.l.drop 1,q1.s⟩) 21 22 23 24 ⟨rfl,rfl,rfl,rfl,rfl,by decide⟩ rfl
def MK:bi Tryz.prog 102 :=
 QA _ _ _ Tryz.func102 rfl AJ 100 (fun p=>BodyOk 800 1000 p) (fun p=>cf (fh nameR 63 p)) (by rw [Tryz.ntmps102];decide) Py
theorem C7 {id:Nat} {h:ah} {args:List AV}:MK.run id h args=gu 1 (dx 100 fun p=>BodyOk 800 1000 p) (fun p=>cY (cf (fh nameR 63 p))) id h args:=rfl
theorem C6 {id:Nat} {h:ah} {args:List AV}:MK.pan id h args=fX (dx 100 fun p=>BodyOk 800 1000 p) (fun p=>cY (cf (fh nameR 63 p))) h args:=rfl
theorem OQ (p:PsV) (h:BodyOk 999 1000 p):SW Tryz.prog ⟨none,1⟩ Tryz.f109.ntmps (Tryz.f109.body.getD .skip) ⟨5,aC 0 [pv 0 0 0],bB 0 (psB p)⟩ (dy Tryz.prog Tryz.f109.results.toList 1 (cY (cf (p9 p)))):=by
 refine aa (ctx:=[⟨_,jW⟩,⟨_,uJ⟩,⟨_,fC⟩,⟨_,Dw⟩]) 4000 ?_
 rw [Tryz.ntmps109,Tryz.results109]
 simp only [Tryz.f109,Option.getD_some,aC]
 have hcom:¬(⟨#[44]⟩:ByteArray)=emp:=by decide
 have hk':BodyOk 1000 1000 p:=h.to (by omega) (Nat.le_refl _)
 rcases hv:nameR p with e | q
 ·have hr:p9 p=.error e:=by unfold p9;rw [hv]
  rw [hr]
  simp only [go_sem,psB,psK,psL,aX,bj,aS,aP,am,ao,ak,stK,vlK,byK,ac,aB,aA,xs2,xs1,xs0,bV,aE,ae,aF,ag,aG,aH,aD,List.nodup_cons,List.mem_cons,List.not_mem_nil,or_false,not_or,List.nodup_nil,not_false_eq_true,and_self,aq,ap,aN,aM,ax,aw,au,ar,aL,gD,gC,hk',hv]
 obtain ⟨g1,-⟩:=qv h hv
 by_cases hc:atF q.l 4 0=fJ
 case neg =>
  have hc':¬atF q.l 4 0=(⟨#[44]⟩:ByteArray):=hc
  have hr:p9 p=.error 112:=by unfold p9;rw [hv];simp only [if_neg hc]
  rw [hr]
  simp only [go_sem,psB,psK,psL,aX,bj,aS,aP,am,ao,ak,stK,vlK,byK,ac,aB,aA,xs2,xs1,xs0,bV,aE,ae,aF,ag,aG,aH,aD,List.nodup_cons,List.mem_cons,List.not_mem_nil,or_false,not_or,List.nodup_nil,not_false_eq_true,and_self,aq,ap,aN,aM,ax,aw,au,ar,bc,aL,gD,gC,hk',hv,hcom,hc',Int.toNat_zero]
 have hc':atF q.l 4 0=(⟨#[44]⟩:ByteArray):=hc
 have hl1:(1:Int)≤q.l.length:=by have:=jN (l:=q.l) (k:=4) (n:=0) (by rw [hc];decide);omega
 have hr:p9 p=valR2 ⟨q.l.drop 1,q.s⟩:=by unfold p9;rw [hv];simp only [if_pos hc]
 have hd:=mL q.l 1 (by omega)
 have g2:BodyOk 1000 1000 ⟨q.l.drop 1,q.s⟩:=kM g1
 rw [hr]
 rcases hw:valR2 ⟨q.l.drop 1,q.s⟩ with e | u
 ·simp only [go_sem,psB,psK,psL,aX,bj,aS,aP,am,ao,ak,stK,vlK,byK,ac,aB,aA,xs2,xs1,xs0,bV,aE,ae,aF,ag,aG,aH,aD,List.nodup_cons,List.mem_cons,List.not_mem_nil,or_false,not_or,List.nodup_nil,not_false_eq_true,and_self,aq,ap,aN,aM,ax,aw,au,ar,bc,aL,gD,gC,kB,kA,hk',hv,hcom,hc',Int.toNat_zero,hl1,List.length_map,hd,Int.toNat_one,g2,hw]
 ·simp only [go_sem,psB,psK,psL,aX,bj,aS,aP,am,ao,ak,stK,vlK,byK,ac,aB,aA,xs2,xs1,xs0,bV,aE,ae,aF,ag,aG,aH,aD,List.nodup_cons,List.mem_cons,List.not_mem_nil,or_false,not_or,List.nodup_nil,not_false_eq_true,and_self,aq,ap,aN,aM,ax,aw,au,ar,bc,aL,gD,gC,kB,kA,hk',hv,hcom,hc',Int.toNat_zero,hl1,List.length_map,hd,Int.toNat_one,g2,hw]
  exact gz (p:=u) 245 246 247 248 rfl ⟨rfl,rfl,rfl,rfl,rfl,by decide⟩
def oF:bi Tryz.prog 109 :=
 CE _ _ _ Tryz.func109 rfl (fun _ _=>by go_simp) (xs0) ((fun _ p=>BodyOk 999 1000 p)) ((fun _ p=>cf (p9 p))) (by rw [Tryz.ntmps109];decide) (fun _ p h=>OQ p h)
theorem xa {id:Nat} {h:ah} {args:List AV}:(oF).run id h args=gu 1 (aX (xs0) ((fun _ p=>BodyOk 999 1000 p))) (fun x=>cY (((fun _ p=>cf (p9 p))) x.1 x.2)) id h args:=rfl
theorem w9 {id:Nat} {h:ah} {args:List AV}:(oF).pan id h args=fX (aX (xs0) ((fun _ p=>BodyOk 999 1000 p))) (fun x=>cY (((fun _ p=>cf (p9 p))) x.1 x.2)) h args:=rfl
end
section
open Go.RowKit
open Ex (Xs xs0)
def bxK (n:Nat):Blk:=⟨true,89,1,[[.p n 0 0]]⟩
def oQ (p:PsV):List Blk:=[bxK 1,psK p 2 3 4 5,stK p.s.labels,stK p.s.names,vlK p.s.vals,byK p.s.bytes]
def kG (h:ah):AV→Option (List Nat×PsV)
 | .s (.l (.p c 0 0))=>match hget h c with
  | some ⟨true,T,1,[[.p b 0 0]]⟩=>match bj h (pv b 0 0) with
   | some (bs,p)=>if T=89∧c∉bs then some (c::bs,p) else none
   | none=>none
  | _=>none
 | _=>none
theorem Kt {h:ah} {A:AV} {bs:List Nat} {p:PsV} (hd:kG h A=some (bs,p)):∃ c b lb nb vb bb,A=pv c 0 0∧bs=[c,b,lb,nb,vb,bb]∧hget h c=some (bxK b)∧GS h b lb nb vb bb p∧bs.Nodup:=by
 unfold kG at hd
 split at hd
 case h_2=>cases hd
 rename_i c
 split at hd
 case h_2=>cases hd
 rename_i T b hc
 split at hd
 case h_2=>cases hd
 rename_i bs' p' hp
 split at hd
 case isFalse=>cases hd
 rename_i hk
 obtain ⟨rfl,hn⟩:=hk
 simp only [Option.some.injEq,Prod.mk.injEq] at hd
 obtain ⟨rfl,rfl⟩:=hd
 obtain ⟨b',lb,nb,vb,bb,e1,rfl,hp2⟩:=td hp
 have:b'=b:=by
  unfold pv at e1
  injection e1 with e1
  injection e1 with e1
  injection e1 with e1
  exact e1.symm
 subst this
 exact ⟨c,b',lb,nb,vb,bb,rfl,rfl,hc,hp2,List.nodup_cons.2 ⟨hn,hp2.nd⟩⟩
theorem D6 {h h':ah} (hs:∀ b k,hget h b=some k→hget h' b=some k) {A:AV} {r:List Nat×PsV} (hd:kG h A=some r):kG h' A=some r:=by
 unfold kG at hd ⊢
 split at hd
 case h_2=>cases hd
 split at hd
 case h_2=>cases hd
 rename_i T b hc
 split at hd
 case h_2=>cases hd
 rename_i bs' p' hp
 simp only [hs _ _ hc,pn hs hp]
 exact hd
def lG:Except Int PsV→RO
 | .ok p=>.ret iA [some (bxK 1),some (psK p 2 3 4 5)] [stK p.s.labels,stK p.s.names,vlK p.s.vals,byK p.s.bytes]
 | .error e=>.pan (fa e)
theorem ig {p:PsV}:lG (.ok p)=.ret iA [some (bxK 1),some (psK p 2 3 4 5)] [stK p.s.labels,stK p.s.names,vlK p.s.vals,byK p.s.bytes]:=rfl
theorem cP {e:Int}:lG (.error e)=.pan (fa e):=rfl
def fk (q:PsV→Prop) (h:ah):List AV→Option (Prop×List Nat×PsV)
 | [A]=>match kG h A with
  | some (bs,p)=>some (q p,bs,p)
  | none=>none
 | _=>none
def Pd (f:FuncId) (fn:Func) (c:Code) (hf:Tryz.prog.funcs[f]? = some fn) (hb:fn.body=some c)
  (hen:∀ (args:Array Value) (w:World),(callFunc f args).run Tryz.prog w=.ok (.enter f args) w) (q:PsV→Prop) (F:PsV→Except Int PsV) (hn:1≤fn.ntmps)
  (body:∀ p,q p→SW Tryz.prog ⟨none,2⟩ fn.ntmps c ⟨6,aC 0 [pv 0 0 0],bB 0 (oQ p)⟩ (dy Tryz.prog fn.results.toList 2 (lG (F p)))):bi Tryz.prog f :=
 mkR 2 6 (by decide) f fn c hf hb hen (fk q) (fun _=>[pv 0 0 0]) (fun p=>oQ p) (fun p=>lG (F p))
  (by
   intro h h' args r hs hd
   unfold fk at hd ⊢
   split at hd
   ·split at hd
    ·rename_i h1
     rw [D6 hs h1]
     exact hd
    ·cases hd
   ·cases hd)
  (by
   intro h zs q' bs p hd hq
   unfold fk at hd
   split at hd
   case h_2=>cases hd
   rename_i A
   split at hd
   case h_2=>cases hd
   rename_i bs' p' h1
   injection hd with hd
   injection hd with e1 hd
   injection hd with e2 e3
   subst e2
   subst e3
   obtain ⟨c,b,lb,nb,vb,bb,rfl,rfl,hc,hp,hnd⟩:=Kt h1
   refine ⟨hn,rfl,rfl,hnd,fun d=>⟨?_,?_⟩⟩
   ·intro j b' k hj hk
    match j,hj,hk with
    | 0,hj,hk =>
     simp [oQ] at hj hk
     subst hj
     subst hk
     exact ⟨rfl,by rw [hc];rfl⟩
    | 1,hj,hk =>
     simp [oQ] at hj hk
     subst hj
     subst hk
     exact ⟨rfl,by rw [hp.p0,nN];rfl⟩
    | 2,hj,hk =>
     simp [oQ] at hj hk
     subst hj
     subst hk
     exact ⟨rfl,by rw [hp.p1,ee]⟩
    | 3,hj,hk =>
     simp [oQ] at hj hk
     subst hj
     subst hk
     exact ⟨rfl,by rw [hp.p2,ee]⟩
    | 4,hj,hk =>
     simp [oQ] at hj hk
     subst hj
     subst hk
     exact ⟨rfl,by rw [hp.p3,nR]⟩
    | 5,hj,hk =>
     simp [oQ] at hj hk
     subst hj
     subst hk
     exact ⟨rfl,by rw [hp.p4,nG]⟩
   ·intro ρ al vals hA
    match vals,hA with
    | [v],⟨a,_⟩=>exact ⟨a,trivial⟩)
  (by
   intro h zs q' bs p hd hq
   unfold fk at hd
   split at hd
   case h_2=>cases hd
   split at hd
   case h_2=>cases hd
   injection hd with hd
   injection hd with e1 hd
   injection hd with e2 e3
   subst e1
   subst e3
   exact body _ hq)
theorem AY {p:PsV} {st:St} (lb nb vb bb:Nat) (h0:hget st.h 0=some (bxK 1)) (hp:GS st.h 1 lb nb vb bb p) (hnd:[0,1,lb,nb,vb,bb].Nodup):oH 2 st (lG (.ok p)) (some iA):=by
 refine ⟨rfl,[some (bxK 1),some (psK p 2 3 4 5)],[stK p.s.labels,stK p.s.names,vlK p.s.vals,byK p.s.bytes],rfl,rfl,by simp,by simp [psK,bxK],by simp [stK,vlK,byK],Wk.ren [0,1,lb,nb,vb,bb] (by intro j hj;match j,hj with | 0,_=>rfl | 1,_=>rfl) (Nat.le_refl _) hnd (fun p hp=>by cases hp) ?_⟩
 intro q hq k hk
 simp only [gm,bB,List.cons_append,List.nil_append,List.mem_cons,List.not_mem_nil,or_false] at hq
 rcases hq with rfl | rfl | rfl | rfl | rfl | rfl
 ·simp only [Option.some.injEq] at hk
  subst hk
  simp only [List.getD_eq_getElem?_getD,List.getElem?_cons_zero,Option.getD_some,h0]
  rfl
 ·simp only [Option.some.injEq] at hk
  subst hk
  simp only [List.getD_eq_getElem?_getD,List.getElem?_cons_succ,List.getElem?_cons_zero,Option.getD_some,hp.p0,nN]
 ·simp only [Option.some.injEq] at hk
  subst hk
  simp only [List.getD_eq_getElem?_getD,List.getElem?_cons_succ,List.getElem?_cons_zero,Option.getD_some,hp.p1,ee]
 ·simp only [Option.some.injEq] at hk
  subst hk
  simp only [List.getD_eq_getElem?_getD,List.getElem?_cons_succ,List.getElem?_cons_zero,Option.getD_some,hp.p2,ee]
 ·simp only [Option.some.injEq] at hk
  subst hk
  simp only [List.getD_eq_getElem?_getD,List.getElem?_cons_succ,List.getElem?_cons_zero,Option.getD_some,hp.p3,nR]
 ·simp only [Option.some.injEq] at hk
  subst hk
  simp only [List.getD_eq_getElem?_getD,List.getElem?_cons_succ,List.getElem?_cons_zero,Option.getD_some,hp.p4,nG]
def oz:bi Tryz.prog 99 :=
 mk0 _ _ _ Tryz.func99 rfl (fun _ _=>by go_simp) (True) (.ret iA) (fun _=>by
 refine aa (ctx:=[]) 4000 ?_
 rw [Tryz.ntmps99,Tryz.results99]
 simp only [Tryz.f99,Option.getD_some,aC]
 simp only [go_sem])
theorem tj {id:Nat} {h:ah} {args:List AV}:(oz).run id h args=bT (jl (True)) (fun _=>.ret iA) h args:=rfl
theorem th {id:Nat} {h:ah} {args:List AV}:(oz).pan id h args=bU (jl (True)) (fun _=>.ret iA) h args:=rfl
theorem OA (p:PsV) (h:BodyOk 800 1000 p):SW Tryz.prog ⟨none,2⟩ Tryz.f101.ntmps (Tryz.f101.body.getD .skip) ⟨6,aC 0 [pv 0 0 0],bB 0 (oQ p)⟩ (dy Tryz.prog Tryz.f101.results.toList 2 (lG (fh nameR 63 p))):=by
 refine aa (ctx:=[⟨_,MK⟩]) 4000 ?_
 rw [Tryz.ntmps101,Tryz.results101]
 simp only [Tryz.f101,Option.getD_some,aC]
 rcases hr:fh nameR 63 p with e | q
 ·simp only [go_sem,psB,psK,psL,aX,bj,aS,aP,am,ao,ak,stK,vlK,byK,ac,aB,aA,xs2,xs1,xs0,bV,aE,ae,aF,ag,aG,aH,aD,List.nodup_cons,List.mem_cons,List.not_mem_nil,or_false,not_or,List.nodup_nil,not_false_eq_true,and_self,aq,ap,aN,aM,ax,aw,au,ar,oQ,bxK,cP,aL,C7,C6,dx,List.head?_cons,h,hr]
 ·simp only [go_sem,psB,psK,psL,aX,bj,aS,aP,am,ao,ak,stK,vlK,byK,ac,aB,aA,xs2,xs1,xs0,bV,aE,ae,aF,ag,aG,aH,aD,List.nodup_cons,List.mem_cons,List.not_mem_nil,or_false,not_or,List.nodup_nil,not_false_eq_true,and_self,aq,ap,aN,aM,ax,aw,au,ar,oQ,bxK,bc,C7,C6,dx,List.head?_cons,h,hr]
  exact AY (p:=q) 54 55 56 57 rfl ⟨rfl,rfl,rfl,rfl,rfl,by decide⟩ (by decide)
def oA:bi Tryz.prog 101 :=
 Pd _ _ _ Tryz.func101 rfl (fun _ _=>by go_simp) (BodyOk 800 1000) (fun p=>fh nameR 63 p) (by rw [Tryz.ntmps101];decide) OA
theorem wR {id:Nat} {h:ah} {args:List AV}:oA.run id h args=gu 2 (fk (BodyOk 800 1000)) (fun p=>lG (fh nameR 63 p)) id h args:=rfl
theorem wQ {id:Nat} {h:ah} {args:List AV}:oA.pan id h args=fX (fk (BodyOk 800 1000)) (fun p=>lG (fh nameR 63 p)) h args:=rfl
theorem OB (p:PsV) (h:BodyOk 1000 800 p):SW Tryz.prog ⟨none,2⟩ Tryz.f104.ntmps (Tryz.f104.body.getD .skip) ⟨6,aC 0 [pv 0 0 0],bB 0 (oQ p)⟩ (dy Tryz.prog Tryz.f104.results.toList 2 (lG (eU 1 p))):=by
 refine aa (ctx:=[⟨_,wN⟩]) 4000 ?_
 rw [Tryz.ntmps104,Tryz.results104]
 simp only [Tryz.f104,Option.getD_some,aC]
 rcases hr:eU 1 p with e | q
 ·simp only [go_sem,psB,psK,psL,aX,bj,aS,aP,am,ao,ak,stK,vlK,byK,ac,aB,aA,xs2,xs1,xs0,bV,aE,ae,aF,ag,aG,aH,aD,List.nodup_cons,List.mem_cons,List.not_mem_nil,or_false,not_or,List.nodup_nil,not_false_eq_true,and_self,aq,ap,aN,aM,ax,aw,au,ar,oQ,bxK,cP,aL,my,mw,h,hr]
 ·simp only [go_sem,psB,psK,psL,aX,bj,aS,aP,am,ao,ak,stK,vlK,byK,ac,aB,aA,xs2,xs1,xs0,bV,aE,ae,aF,ag,aG,aH,aD,List.nodup_cons,List.mem_cons,List.not_mem_nil,or_false,not_or,List.nodup_nil,not_false_eq_true,and_self,aq,ap,aN,aM,ax,aw,au,ar,oQ,bxK,bc,my,mw,h,hr]
  exact AY (p:=q) 22 23 24 25 rfl ⟨rfl,rfl,rfl,rfl,rfl,by decide⟩ (by decide)
def oB:bi Tryz.prog 104 :=
 Pd _ _ _ Tryz.func104 rfl (fun _ _=>by go_simp) (BodyOk 1000 800) (fun p=>eU 1 p) (by rw [Tryz.ntmps104];decide) OB
theorem wU {id:Nat} {h:ah} {args:List AV}:oB.run id h args=gu 2 (fk (BodyOk 1000 800)) (fun p=>lG (eU 1 p)) id h args:=rfl
theorem wT {id:Nat} {h:ah} {args:List AV}:oB.pan id h args=fX (fk (BodyOk 1000 800)) (fun p=>lG (eU 1 p)) h args:=rfl
theorem OC (p:PsV) (h:BodyOk 1000 800 p):SW Tryz.prog ⟨none,2⟩ Tryz.f106.ntmps (Tryz.f106.body.getD .skip) ⟨6,aC 0 [pv 0 0 0],bB 0 (oQ p)⟩ (dy Tryz.prog Tryz.f106.results.toList 2 (lG (eU 4 p))):=by
 refine aa (ctx:=[⟨_,wN⟩]) 4000 ?_
 rw [Tryz.ntmps106,Tryz.results106]
 simp only [Tryz.f106,Option.getD_some,aC]
 rcases hr:eU 4 p with e | q
 ·simp only [go_sem,psB,psK,psL,aX,bj,aS,aP,am,ao,ak,stK,vlK,byK,ac,aB,aA,xs2,xs1,xs0,bV,aE,ae,aF,ag,aG,aH,aD,List.nodup_cons,List.mem_cons,List.not_mem_nil,or_false,not_or,List.nodup_nil,not_false_eq_true,and_self,aq,ap,aN,aM,ax,aw,au,ar,oQ,bxK,cP,aL,my,mw,h,hr]
 ·simp only [go_sem,psB,psK,psL,aX,bj,aS,aP,am,ao,ak,stK,vlK,byK,ac,aB,aA,xs2,xs1,xs0,bV,aE,ae,aF,ag,aG,aH,aD,List.nodup_cons,List.mem_cons,List.not_mem_nil,or_false,not_or,List.nodup_nil,not_false_eq_true,and_self,aq,ap,aN,aM,ax,aw,au,ar,oQ,bxK,bc,my,mw,h,hr]
  exact AY (p:=q) 22 23 24 25 rfl ⟨rfl,rfl,rfl,rfl,rfl,by decide⟩ (by decide)
def oC:bi Tryz.prog 106 :=
 Pd _ _ _ Tryz.func106 rfl (fun _ _=>by go_simp) (BodyOk 1000 800) (fun p=>eU 4 p) (by rw [Tryz.ntmps106];decide) OC
theorem wW {id:Nat} {h:ah} {args:List AV}:oC.run id h args=gu 2 (fk (BodyOk 1000 800)) (fun p=>lG (eU 4 p)) id h args:=rfl
theorem wV {id:Nat} {h:ah} {args:List AV}:oC.pan id h args=fX (fk (BodyOk 1000 800)) (fun p=>lG (eU 4 p)) h args:=rfl
theorem OD (p:PsV) (h:BodyOk 1000 800 p):SW Tryz.prog ⟨none,2⟩ Tryz.f107.ntmps (Tryz.f107.body.getD .skip) ⟨6,aC 0 [pv 0 0 0],bB 0 (oQ p)⟩ (dy Tryz.prog Tryz.f107.results.toList 2 (lG (eU 8 p))):=by
 refine aa (ctx:=[⟨_,wN⟩]) 4000 ?_
 rw [Tryz.ntmps107,Tryz.results107]
 simp only [Tryz.f107,Option.getD_some,aC]
 rcases hr:eU 8 p with e | q
 ·simp only [go_sem,psB,psK,psL,aX,bj,aS,aP,am,ao,ak,stK,vlK,byK,ac,aB,aA,xs2,xs1,xs0,bV,aE,ae,aF,ag,aG,aH,aD,List.nodup_cons,List.mem_cons,List.not_mem_nil,or_false,not_or,List.nodup_nil,not_false_eq_true,and_self,aq,ap,aN,aM,ax,aw,au,ar,oQ,bxK,cP,aL,my,mw,h,hr]
 ·simp only [go_sem,psB,psK,psL,aX,bj,aS,aP,am,ao,ak,stK,vlK,byK,ac,aB,aA,xs2,xs1,xs0,bV,aE,ae,aF,ag,aG,aH,aD,List.nodup_cons,List.mem_cons,List.not_mem_nil,or_false,not_or,List.nodup_nil,not_false_eq_true,and_self,aq,ap,aN,aM,ax,aw,au,ar,oQ,bxK,bc,my,mw,h,hr]
  exact AY (p:=q) 22 23 24 25 rfl ⟨rfl,rfl,rfl,rfl,rfl,by decide⟩ (by decide)
def oE:bi Tryz.prog 107 :=
 Pd _ _ _ Tryz.func107 rfl (fun _ _=>by go_simp) (BodyOk 1000 800) (fun p=>eU 8 p) (by rw [Tryz.ntmps107];decide) OD
theorem wY {id:Nat} {h:ah} {args:List AV}:oE.run id h args=gu 2 (fk (BodyOk 1000 800)) (fun p=>lG (eU 8 p)) id h args:=rfl
theorem wX {id:Nat} {h:ah} {args:List AV}:oE.pan id h args=fX (fk (BodyOk 1000 800)) (fun p=>lG (eU 8 p)) h args:=rfl
end
end Go.Proofs.YtnhbidpdadkcjaaGreatDoor
