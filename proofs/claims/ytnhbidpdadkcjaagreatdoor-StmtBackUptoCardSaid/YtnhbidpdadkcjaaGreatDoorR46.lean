import Derived.Test.YtnhbidpdadkcjaaGreatDoorR44
open Go.RowKit
set_option linter.unusedVariables false
set_option linter.unusedSimpArgs false
set_option maxRecDepth 100000
set_option maxHeartbeats 8000000
open List (getD_eq_getElem?_getD getElem?_cons_zero getElem?_cons_succ)
open Option (getD_some)
open Nat (zero_le)
open Bool (and_eq_true)
open Int (toNat_zero)
namespace Go.Proofs.YtnhbidpdadkcjaaGreatDoor
open Tryz
inductive Pl where
 |done:Pl
 |nil:Pl
 |alt:Nat→Pl→Pl→Pl
 |take:Nat→Pl→Pl
def Pl.get:Pl→Nat→Option Pl
 |.alt j p r,i=>if i=j then some p else r.get i
 |.done,_=>none
 |.nil,_=>none
 |.take _ _,_=>none
def Zh:Op→Bool
 |.move _=>true
 |.nilCheck _=>true
 |.fieldAddr _ _ _=>true
 |_=>false
def mB (all:List Oper):Nat→Array Bool→Pl→Bool
 |_,listed,.done=>(Region.ready .any all.toArray listed).isEmpty
 |0,_,_=>false
 |fuel+1,listed,.take i p=>Region.noSelect all.toArray&&Region.free .any all.toArray listed i&&(Region.ready .any all.toArray listed).contains i&&(match all[i]? with | some o=>o.guard.isNone&&Zh o.op | none=>false)&&mB all fuel (listed.setIfInBounds i true) p
 |fuel+1,listed,p=>!(Region.ready .any all.toArray listed).isEmpty&&(Region.ready .any all.toArray listed).all fun i=>match p.get i with
  |some p'=>(match all[i]? with | some o=>o.guard.isNone | none=>false)&&mB all fuel (listed.setIfInBounds i true) p'
  |none=>false
section
variable {P:Program}{ctx:Ctx P}{ro:Cf}{n:Nat}
noncomputable def aPl (P:Program) (ctx:Ctx P) (n:Nat) (all:List Oper):Pl→St→(Exit→St→Prop)→Prop
 |.done,s,Q=>Q .normal s
 |.nil,_,_=>True
 |.alt i p r,s,Q=>(match all[i]? with
   |none=>False
   |some o=>match tx P ctx s.nx o.op (evT s.t) s.h with
    |some (ob,x,E)=>ob∧Q (.panic [{ v:=x,recovered:=false }]) ⟨s.nx+16,s.t,E++s.h⟩
    |none=>match aOp P ctx s.nx o.op (evT s.t) s.h with
     |some R=>bY n o.dst=true∧R.ob∧aPl P ctx n all p ⟨s.nx+16,putT s.t o.dst R.r,R.E++s.h⟩ Q
     |none=>False)∧aPl P ctx n all r s Q
 |.take i p,s,Q=>match all[i]? with
   |none=>False
   |some o=>match o.op with
    |.move x=>bY n o.dst=true∧aPl P ctx n all p ⟨s.nx,putT s.t o.dst (evT s.t x),s.h⟩ Q
    |.nilCheck x=>match evT s.t x with
     |.s (.l (.p b i j))=>bY n o.dst=true∧aPl P ctx n all p ⟨s.nx,putT s.t o.dst (.s (.l (.p b i j))),s.h⟩ Q
     |_=>False
    |.fieldAddr t x f=>match evT s.t x,cj P t f with
     |.s (.l (.p b i j)),some k=>bY n o.dst=true∧aPl P ctx n all p ⟨s.nx,putT s.t o.dst (.s (.l (.p b i (j+k)))),s.h⟩ Q
     |_,_=>False
    |_=>False
theorem Ju {all:List Oper}{s:St}{Q:Exit→St→Prop}{i:Nat}{p':Pl}:∀{p:Pl},aPl P ctx n all p s Q→p.get i=some p'→match all[i]? with
   |none=>False
   |some o=>match tx P ctx s.nx o.op (evT s.t) s.h with
    |some (ob,x,E)=>ob∧Q (.panic [{ v:=x,recovered:=false }]) ⟨s.nx+16,s.t,E++s.h⟩
    |none=>match aOp P ctx s.nx o.op (evT s.t) s.h with
     |some R=>bY n o.dst=true∧R.ob∧aPl P ctx n all p' ⟨s.nx+16,putT s.t o.dst R.r,R.E++s.h⟩ Q
     |none=>False
 |.done,_,hg=>by cases hg
 |.nil,_,hg=>by cases hg
 |.take _ _,_,hg=>by cases hg
 |.alt j p r,h,hg=>by
  unfold Pl.get at hg;unfold aPl at h;split at hg
  ·rename_i e;subst e;injection hg with hg;subst hg;exact h.1
  ·exact Ju (p:=r) h.2 hg
theorem BS {all:List Oper}{fuel:Nat}{listed:Array Bool}{i:Nat}{p:Pl}(h:mB all (fuel+1) listed (.take i p)=true):Region.noSelect all.toArray=true∧Region.free .any all.toArray listed i=true∧(Region.ready .any all.toArray listed).contains i=true∧(∃o,all[i]? = some o∧o.guard=none)∧mB all fuel (listed.setIfInBounds i true) p=true:=by
 unfold mB at h;simp only[and_eq_true]at h;obtain⟨⟨⟨⟨h1,h2⟩,h3⟩,h4⟩,h5⟩:=h;refine⟨h1,h2,h3,?_,h5⟩;split at h4
 ·rename_i o ho;rw[and_eq_true]at h4;exact⟨o,ho,Option.isNone_iff_eq_none.1 h4.1⟩
 ·cases h4
theorem Mg {all:List Oper}{fuel:Nat}{listed:Array Bool}{p:Pl}(hp:∀i q,p≠.take i q)(h:mB all (fuel+1) listed p=true){i:Nat}(hi:i∈Region.ready .any all.toArray listed):∃p' o,p.get i=some p'∧all[i]? = some o∧o.guard=none∧mB all fuel (listed.setIfInBounds i true) p'=true:=by
 cases p with
 |take j q=>exact absurd rfl (hp j q)
 |done =>
  unfold mB at h;rw[List.isEmpty_iff.1 h]at hi;cases hi
 |nil =>
  unfold mB at h;rw[and_eq_true,List.all_eq_true]at h;have:=h.2 i hi;simp only[Pl.get]at this;cases this
 |alt j q r =>
  unfold mB at h;rw[and_eq_true,List.all_eq_true]at h;have:=h.2 i hi;split at this
  ·rename_i p' hp;rw[and_eq_true]at this;split at this
   ·rename_i o ho;exact⟨p',o,hp,ho,Option.isNone_iff_eq_none.1 this.1,this.2⟩
   ·cases this.1
  ·cases this
theorem Fz {all:List Oper}{fuel:Nat}{listed:Array Bool}{p:Pl}(h:mB all fuel listed p=true)(hr:Region.ready .any all.toArray listed=[]):p=.done:=by
 cases p with
 |done=>rfl
 |take j q =>
  cases fuel with
  |zero=>unfold mB at h;cases h
  |succ fuel =>
   have:=(BS h).2.2.1;rw[hr]at this;cases this
 |nil =>
  cases fuel with
  |zero=>unfold mB at h;cases h
  |succ fuel=>unfold mB at h;rw[hr]at h;cases h
 |alt j q r =>
  cases fuel with
  |zero=>unfold mB at h;cases h
  |succ fuel=>unfold mB at h;rw[hr]at h;cases h
theorem Mh {all:List Oper}{listed:Array Bool}{p:Pl}(h:mB all 0 listed p=true):Region.ready .any all.toArray listed=[]:=by
 cases p with
 |done=>unfold mB at h;exact List.isEmpty_iff.1 h
 |take j q=>unfold mB at h;cases h
 |nil=>unfold mB at h;cases h
 |alt j q r=>unfold mB at h;cases h
theorem Dn {B:dQ}{w0:World}{ρ:Nat→Loc}{al:Al}{s:St}{a:Act}{w:World}{l:List Oper}{fuel:Nat}{listed:Array Bool}{i:Nat}{o:Oper}{Qs:Exit→Act→World→Prop}{v:Value}{x:AV}
  (hQ:∀(c:List PanicEntry) (a:Act) (d:Option Tmp) (v:Value) (w:World),Qs (.panic c) (a.put d v) w→Qs (.panic c) a w) (H:RepS n B w0 ρ al s a w) (hro:ro.ro=none) (h1:Region.noSelect l.toArray=true) (h2:Region.free .any l.toArray listed i=true) (h3:(Region.ready .any l.toArray listed).contains i=true)
  (ho:l[i]? = some o) (hg:o.guard=none) (hd:bY n o.dst=true) (hnc:∀c,o.op≠.call c) (hv:∀w,(execOp a.eval o).run P w=.ok (.value v) w) (hx:ARep ρ al x v)
  (h:∀a',RepS n B w0 ρ al ⟨s.nx,putT s.t o.dst x,s.h⟩ a' w→wpAnyIn (Fw ro) 0 P .any l.toArray Qs fuel (listed.setIfInBounds i true) a' w):wpAnyIn (Fw ro) 0 P .any l.toArray Qs (fuel+1) listed a w:=by
 have hw:Region.wanted o (yielded l.toArray a.tmps)=true:=by unfold Region.wanted;rw[hg]
 refine wpAnyIn_take (oi:=o) (v:=v) (show(Fw ro).round=none from hro) (by simpa using ho) h1 h2 h3 (fun c a w hq=>hQ c a o.dst v w hq) ⟨.inl ⟨hw,hv⟩,fun w=>?_⟩ (h _ ⟨ja.trans H.size,by rw[dO];exact H.defers,H.t.putT H.size hd hx,H.w,H.al⟩);unfold Oper.about;split
 ·rename_i c hc;exact absurd hc (hnc c)
 ·rfl
theorem T5 (hm:P.follows .mixedOrders=true){id:Nat}{l:List Oper}(p:Pl)(hok:mB l l.length (Array.replicate l.length false) p=true){s:St}{Q:Exit→St→Prop}(hro:ro.ro=none)(hQ:∀c s s',Q (.panic c) s→Q (.panic c) s')(h:aPl P ctx n l p s Q):SW P ro n (.region id l.toArray true) s Q:=by
 intro B w0 ρ al a w hpl H
 have hQs:∀(c:List PanicEntry) (a:Act) (d:Option Tmp) (v:Value) (w:World),(∃ρ' al' s',RepS n B w0 ρ' al' s' (a.put d v) w∧Q (.panic c) s')→∃ρ' al' s',RepS n B w0 ρ' al' s' a w∧Q (.panic c) s':=by
  rintro c a d v w ⟨ρ',al',s',H',q⟩;have hdf:=H'.defers;rw[dO]at hdf;exact⟨ρ',al',⟨s'.nx,[],s'.h⟩,⟨ja.symm.trans H'.size,hdf,fun _=>trivial,H'.w,H'.al⟩,hQ c _ _ q⟩
 refine wpIn_region_any hm ?_
 have key:∀(fuel:Nat) (listed:Array Bool) (p:Pl) (s:St) (ρ:Nat→Loc) (al:Al) (a:Act) (w:World),mB l fuel listed p=true→aPl P ctx n l p s Q→RepS n B w0 ρ al s a w→wpAnyIn (Fw ro) 0 P .any l.toArray (fun e a' w'=>∃ρ' al' s',RepS n B w0 ρ' al' s' a' w'∧Q e s') fuel listed a w:=by
  intro fuel
  induction fuel with
  |zero =>
   intro listed p s ρ al a w hk hp H;have hr:=Mh hk;have:=Fz hk hr;subst this;exact⟨hr,ρ,al,s,H,hp⟩
  |succ fuel ih =>
   intro listed p s ρ al a w hk hp H;by_cases htk:∃i q,p=.take i q
   ·obtain⟨i,q,rfl⟩:=htk;obtain⟨h1,h2,h3,⟨o,ho,hg⟩,h5⟩:=BS hk;unfold aPl at hp;rw[ho]at hp;simp only at hp;split at hp
    ·rename_i x hop;refine Dn (x:=evT s.t x) (v:=a.eval x) hQs H hro h1 h2 h3 ho hg hp.1 (fun c hc=>by rw[hop]at hc;cases hc) (fun w=>by simp only[execOp,hop,Sem.run_pure]) (iH H.t x) fun a' H'=>ih _ q _ ρ al a' w h5 hp.2 H'
    ·rename_i x hop;split at hp
     ·rename_i b i' j hx;have hr:=iH H.t x;rw[hx]at hr;obtain⟨hb,hv⟩:=hr;refine Dn (x:=.s (.l (.p b i' j))) (v:=a.eval x) hQs H hro h1 h2 h3 ho hg hp.1 (fun c hc=>by rw[hop]at hc;cases hc) (fun w=>by simp only[execOp,hop,hv,Sem.run_pure]) ⟨hb,hv⟩ fun a' H'=>ih _ q _ ρ al a' w h5 hp.2 H'
     ·exact hp.elim
    ·rename_i t x f hop;split at hp
     ·rename_i b i' j k hx hk';have hr:=iH H.t x;rw[hx]at hr
      have hall:∀w,∃v,(Instr.fieldAt t (a.eval x) f).run P w=.ok v w∧ARep ρ al (.s (.l (.p b i' (j+k)))) v:=fun w=>by
       obtain⟨v,e1,e2,-⟩:=tu (P:=P) (ρ:=ρ) (al:=al) (t:=t) (x:=.s (.l (.p b i' j))) (u:=a.eval x) hr (f:=f) (R:=⟨True,.s (.l (.p b i' (j+k))),[]⟩) (by unfold uL;rw[hk']) w;exact⟨v,e1,e2⟩
      obtain⟨v,e1,e2⟩:=hall w;refine Dn (x:=.s (.l (.p b i' (j+k)))) (v:=v) hQs H hro h1 h2 h3 ho hg hp.1 (fun c hc=>by rw[hop]at hc;cases hc) (fun w'=>?_) e2 fun a' H'=>ih _ q _ ρ al a' w h5 hp.2 H';obtain⟨v',g1,g2⟩:=hall w';have:v'=v:=g2.2.trans e2.2.symm;subst this;simp only[execOp,hop,Sem.run_bind,g1,Result.andThen_ok,Sem.run_pure]
     ·exact hp.elim
    ·exact hp.elim
   have htk':∀i q,p≠.take i q:=fun i q e=>htk ⟨i,q,e⟩;refine⟨fun hr=>?_,fun i hi=>?_⟩
   ·have:=Fz hk hr;subst this;exact⟨ρ,al,s,H,hp⟩
   ·obtain⟨p',o,h1,h2,h3,h4⟩:=Mg htk' hk hi;have h5:=Ju hp h1;rw[h2]at h5;simp only at h5;have hw:Region.wanted o (yielded l.toArray a.tmps)=true:=by unfold Region.wanted;rw[h3]
    unfold wpOpIn;simp only[List.getElem?_toArray,h2];rw[if_pos hw];split at h5
    ·rename_i ob x E hpan;exact xg H hpan h5.1 fun ρ' al' w' H'=>⟨ρ',al',_,H',h5.2⟩
    ·split at h5
     ·rename_i R hR;exact Cz H hR h5.2.1 h5.1 fun ρ' al' a' w' H'=>ih _ p' _ ρ' al' a' w' h4 h5.2.2 H'
     ·exact h5.elim
 have e:l.toArray.size=l.length:=by simp
 rw[e];exact key _ _ p s ρ al a _ hok h ⟨H.size,H.defers,H.t,H.w.drew,H.al⟩
end
section
open Ex (Xs xs0)
def zo:Pl:=.alt 9 (.alt 10 (.alt 11 (.alt 12 (.alt 13 .done .nil) .nil) .nil) .nil) .nil
def VN:Pl:=.take 0 (.take 1 (.take 6 (.take 2 (.take 3 (.take 4 (.alt 5 (.alt 7 (.alt 8 zo .nil) .nil) (.alt 7 (.alt 5 (.alt 8 zo .nil) (.alt 8 (.alt 5 zo .nil) .nil)) .nil)))))))
theorem O3 (p:PsV)(h:BodyOk 1000 1000 p):Sw f100 1 ⟨5,aB 0 [pv 0 0 0],aL 0 (psB p)⟩ (oR f100 1 (eC (cA (nameR p)))):=by
 refine aq [⟨_,my⟩] rfl ?_;simp only[go_sem];refine T5 (ctx:=[⟨_,my⟩]) mixed VN (by kernel_rfl) rfl (fun _ _ _ h=>h) ?_;have m1:p.s.names.length+1≤maxLen:=by have:=h.names;unfold maxLen;omega
 have m2:(p.s.names.length+1)*16≤140737488355328:=by have:=h.names;omega
 rcases hv:nextF 1 112 p.l with e | ⟨t,l⟩
 ·have h1:nameR p=.error e:=by unfold nameR;rw[hv]
  have h2:jA 1 112 p=.error e:=by unfold jA;rw[hv]
  rw[h1];simp only[go_sem,VN,zo,aPl,h2,ak]
 ·have h1:nameR p=.ok ⟨l,{ p.s with names:=p.s.names++[t] }⟩:=by unfold nameR;rw[hv]
  have h2:jA 1 112 p=.ok (sv t,⟨l,p.s⟩):=by unfold jA;rw[hv]
  rw[h1];simp only[go_sem,VN,zo,aPl,h2,aE,m1,m2];refine⟨?_,?_,?_⟩
  all_goals exact ge (p:=⟨l,{ p.s with names:=p.s.names++[t] }⟩) 1 53 3 4 rfl ⟨by rw[psK,psL,List.length_append];rfl,rfl,by rw[stK,←oP];rfl,rfl,rfl,by decide⟩
abbrev kE:ap prog 100 :=
 AG _ _ _ func100 (asP rfl) (asP fun _ _=>by go_simp) (xs0) ((fun _ p=>BodyOk 1000 1000 p)) ((fun _ p=>cA (nameR p))) (asP (by rw[ntmps100];decide)) (asP fun _ p h=>O3 p h)
theorem TD (p:PsV)(h:BodyOk 800 1000 p):Sw f102 1 ⟨5,aB 0 [pv 0 0 0,.fn 100 [.p 0 0 0] []],aL 0 (psB p)⟩ (oR f102 1 (eC (cA (eU nameR 63 p)))):=by
 refine aq [] rfl ?_;simp only[go_sem];refine ba (ι:=Nat×PsV) (fun i=>i.1≤63∧BodyOk (900-i.1) 1000 i.2∧eU nameR i.1 i.2=eU nameR 63 p) (TC 100) (fun i=>i.1) (63,p) ⟨Nat.le_refl _,h.to (show 800≤900-63 by decide) (Nat.le_refl _),rfl⟩ ?_ ?_
 ·exact Q8 (p:=p) 1 2 3 4 ⟨rfl,rfl,rfl,rfl,rfl,by decide⟩ rfl
 rintro⟨N,q⟩ ⟨hN,hk,hR⟩;simp only at hN hk hR;unfold TC;refine aw [⟨_,kE⟩,⟨_,vu⟩,⟨_,fg⟩] ?_;have hcom:¬(⟨#[44]⟩:ByteArray)=emp:=by decide
 have hk':BodyOk 1000 1000 q:=hk.to (by omega) (Nat.le_refl _);rcases hv:nameR q with e | q1
 ·have hr:eU nameR N q=.error e:=by unfold eU;rw[hv]
  rw[←hR,hr];simp only[go_sem,ak,hk',hv]
 ·obtain⟨g1,-⟩:=E9 hk hv;by_cases hc:atF q1.l 4 0=aA
  case neg =>
   have hc':¬atF q1.l 4 0=(⟨#[44]⟩:ByteArray):=hc;have hr:eU nameR N q=.ok q1:=by unfold eU;rw[hv];simp only[if_neg hc]
   rw[←hR,hr];simp only[go_sem,aE,hk',hv,hcom,hc',toNat_zero];exact ge (p:=q1) 21 22 23 24 rfl ⟨rfl,rfl,rfl,rfl,rfl,by decide⟩
  have hc':atF q1.l 4 0=(⟨#[44]⟩:ByteArray):=hc;have hl1:(1:Int)≤q1.l.length:=by have:=jl (l:=q1.l) (k:=4) (n:=0) (by rw[hc];decide);omega
  cases N with
  |zero =>
   have hr:eU nameR 0 q=.error 3:=by unfold eU;rw[hv];simp only[if_pos hc]
   rw[←hR,hr];simp only[go_sem,aE,ak,hk',hv,hcom,hc',toNat_zero,Nat.sub_zero,Int.reduceEq]
  |succ M =>
   have hr:eU nameR (M+1) q=eU nameR M ⟨q1.l.drop 1,q1.s⟩:=by conv=>lhs;unfold eU;rw[hv];simp only[if_pos hc]
   rw[hr]at hR;have e64:(((64-(M+1):Nat):Int)=64)=False:=eq_false (by omega);have ew:IntKind.i64.wrap (((64-(M+1):Nat):Int)+1)=((64-M:Nat):Int):=by rw[IntKind.wrap_i64];omega
   have hd:=mg q1.l 1 (by omega);simp only[go_sem,aE,hk',hv,hcom,hc',toNat_zero,e64,ew,hl1,hd,Int.toNat_one];refine⟨(M,⟨q1.l.drop 1,q1.s⟩),⟨by omega,(sB g1).to (by omega) (Nat.le_refl _),hR⟩,Nat.lt_succ_self M,?_⟩;exact Q8 (p:=⟨q1.l.drop 1,q1.s⟩) 21 22 23 24 ⟨rfl,rfl,rfl,rfl,rfl,by decide⟩ rfl
def Qk:ap prog 102 :=
 UP _ _ _ func102 rfl CU 100 (fun p=>BodyOk 800 1000 p) (fun p=>cA (eU nameR 63 p)) (by rw[ntmps102];decide) TD
theorem FT {id:Nat}{h:ai}{args:List AV}:Qk.run id h args=kJ 1 (cH 100 fun p=>BodyOk 800 1000 p) (fun p=>eC (cA (eU nameR 63 p))) id h args:=rfl
theorem FS {id:Nat}{h:ai}{args:List AV}:Qk.pan id h args=kb (cH 100 fun p=>BodyOk 800 1000 p) (fun p=>eC (cA (eU nameR 63 p))) h args:=rfl
theorem SJ (p:PsV)(h:BodyOk 999 1000 p):Sw f109 1 ⟨5,aB 0 [pv 0 0 0],aL 0 (psB p)⟩ (oR f109 1 (eC (cA (tM p)))):=by
 refine aq [⟨_,kE⟩,⟨_,vu⟩,⟨_,fg⟩,⟨_,Q3⟩] rfl ?_;have hcom:¬(⟨#[44]⟩:ByteArray)=emp:=by decide
 have hk':BodyOk 1000 1000 p:=h.to (by omega) (Nat.le_refl _);rcases hv:nameR p with e | q
 ·have hr:tM p=.error e:=by unfold tM;rw[hv]
  rw[hr];simp only[go_sem,ak,hk',hv]
 obtain⟨g1,-⟩:=E9 h hv;by_cases hc:atF q.l 4 0=aA
 case neg =>
  have hc':¬atF q.l 4 0=(⟨#[44]⟩:ByteArray):=hc;have hr:tM p=.error 112:=by unfold tM;rw[hv];simp only[if_neg hc]
  rw[hr];simp only[go_sem,aE,ak,hk',hv,hcom,hc',toNat_zero]
 have hc':atF q.l 4 0=(⟨#[44]⟩:ByteArray):=hc;have hl1:(1:Int)≤q.l.length:=by have:=jl (l:=q.l) (k:=4) (n:=0) (by rw[hc];decide);omega
 have hr:tM p=valR2 ⟨q.l.drop 1,q.s⟩:=by unfold tM;rw[hv];simp only[if_pos hc]
 have hd:=mg q.l 1 (by omega);have g2:BodyOk 1000 1000 ⟨q.l.drop 1,q.s⟩:=sB g1;rw[hr];rcases hw:valR2 ⟨q.l.drop 1,q.s⟩ with e | u
 ·simp only[go_sem,aE,ak,hk',hv,hcom,hc',toNat_zero,hl1,hd,Int.toNat_one,g2,hw]
 ·simp only[go_sem,aE,ak,hk',hv,hcom,hc',toNat_zero,hl1,hd,Int.toNat_one,g2,hw];exact ge (p:=u) 245 246 247 248 rfl ⟨rfl,rfl,rfl,rfl,rfl,by decide⟩
abbrev qu:ap prog 109 :=
 AG _ _ _ func109 (asP rfl) (asP fun _ _=>by go_simp) (xs0) ((fun _ p=>BodyOk 999 1000 p)) ((fun _ p=>cA (tM p))) (asP (by rw[ntmps109];decide)) (asP fun _ p h=>SJ p h)
end
section
open Ex (Xs xs0)
def bxK (n:Nat):Blk:=⟨true,89,1,[[.p n 0 0]]⟩
def oF (p:PsV):List Blk:=[bxK 1,psK p 2 3 4 5,stK p.s.labels,stK p.s.names,vlK p.s.vals,byK p.s.bytes]
def km (h:ai):AV→Option (List Nat×PsV)
 |.s (.l (.p c 0 0))=>match hget h c with
  |some ⟨true,T,1,[[.p b 0 0]]⟩=>match tJ h (pv b 0 0) with
   |some (bs,p)=>if T=89∧c∉bs then some (c::bs,p) else none
   |none=>none
  |_=>none
 |_=>none
theorem N2 {h:ai}{A:AV}{bs:List Nat}{p:PsV}(hd:km h A=some (bs,p)):∃c b lb nb vb bb,A=pv c 0 0∧bs=[c,b,lb,nb,vb,bb]∧hget h c=some (bxK b)∧Kl h b lb nb vb bb p∧bs.Nodup:=by
 unfold km at hd;split at hd
 case h_2=>cases hd
 rename_i c;split at hd
 case h_2=>cases hd
 rename_i T b hc;split at hd
 case h_2=>cases hd
 rename_i bs' p' hp;split at hd
 case isFalse=>cases hd
 rename_i hk;obtain⟨rfl,hn⟩:=hk;simp only[Option.some.injEq,Prod.mk.injEq]at hd;obtain⟨rfl,rfl⟩:=hd;obtain⟨b',lb,nb,vb,bb,e1,rfl,hp2⟩:=tK hp
 have:b'=b:=by
  unfold pv at e1;injection e1 with e1;injection e1 with e1;injection e1 with e1;exact e1.symm
 subst this;exact⟨c,b',lb,nb,vb,bb,rfl,rfl,hc,hp2,List.nodup_cons.2 ⟨hn,hp2.nd⟩⟩
theorem G2 {h h':ai}(hs:∀b k,hget h b=some k→hget h' b=some k){A:AV}{r:List Nat×PsV}(hd:km h A=some r):km h' A=some r:=by
 unfold km at hd ⊢;split at hd
 case h_2=>cases hd
 split at hd
 case h_2=>cases hd
 rename_i T b hc;split at hd
 case h_2=>cases hd
 rename_i bs' p' hp;simp only[hs _ _ hc,ph hs hp];exact hd
def lj:Except Int PsV→RO
 |.ok p=>.ret jF [some (bxK 1),some (psK p 2 3 4 5)] [stK p.s.labels,stK p.s.names,vlK p.s.vals,byK p.s.bytes]
 |.error e=>.pan (fe e)
theorem gN {p:PsV}:lj (.ok p)=.ret jF [some (bxK 1),some (psK p 2 3 4 5)] [stK p.s.labels,stK p.s.names,vlK p.s.vals,byK p.s.bytes]:=rfl
theorem bZ {e:Int}:lj (.error e)=.pan (fe e):=rfl
def eW (q:PsV→Prop)(h:ai):List AV→Option (Prop×List Nat×PsV)
 |[A]=>match km h A with
  |some (bs,p)=>some (q p,bs,p)
  |none=>none
 |_=>none
def S6 (f:FuncId)(fn:Func)(c:Code)(hf:Tryz.prog.funcs[f]? = some fn)(hb:fn.body=some c)
  (hen:∀(args:Array Value) (w:World),(callFunc f args).run prog w=.ok (.enter f args) w) (q:PsV→Prop) (F:PsV→Except Int PsV) (hn:1≤fn.ntmps)
  (body:∀p,q p→SW prog ⟨none,2⟩ fn.ntmps c ⟨6,aB 0 [pv 0 0 0],aL 0 (oF p)⟩ (xb prog fn.results.toList 2 (lj (F p)))):ap prog f :=
 mkR 2 6 (by decide) f fn c hf hb hen (eW q) (fun _=>[pv 0 0 0]) (fun p=>oF p) (fun p=>lj (F p))
  (by
   intro h h' args r hs hd;unfold eW at hd ⊢;split at hd
   ·split at hd
    ·rename_i h1;rw[G2 hs h1];exact hd
    ·cases hd
   ·cases hd)
  (by
   intro h zs q' bs p hd hq;unfold eW at hd;split at hd
   case h_2=>cases hd
   rename_i A;split at hd
   case h_2=>cases hd
   rename_i bs' p' h1;injection hd with hd;injection hd with e1 hd;injection hd with e2 e3;subst e2;subst e3;obtain⟨c,b,lb,nb,vb,bb,rfl,rfl,hc,hp,hnd⟩:=N2 h1;refine⟨hn,rfl,rfl,hnd,fun d=>⟨?_,?_⟩⟩
   ·intro j b' k hj hk
    match j,hj,hk with
    |0,hj,hk =>
     simp[oF]at hj hk;subst hj;subst hk;exact⟨rfl,by rw[hc];rfl⟩
    |1,hj,hk =>
     simp[oF]at hj hk;subst hj;subst hk;exact⟨rfl,by rw[hp.p0,ni];rfl⟩
    |2,hj,hk =>
     simp[oF]at hj hk;subst hj;subst hk;exact⟨rfl,by rw[hp.p1,dD]⟩
    |3,hj,hk =>
     simp[oF]at hj hk;subst hj;subst hk;exact⟨rfl,by rw[hp.p2,dD]⟩
    |4,hj,hk =>
     simp[oF]at hj hk;subst hj;subst hk;exact⟨rfl,by rw[hp.p3,nl]⟩
    |5,hj,hk =>
     simp[oF]at hj hk;subst hj;subst hk;exact⟨rfl,by rw[hp.p4,mW]⟩
   ·intro ρ al vals hA
    match vals,hA with
    |[v],⟨a,_⟩=>exact⟨a,trivial⟩)
  (by
   intro h zs q' bs p hd hq;unfold eW at hd;split at hd
   case h_2=>cases hd
   split at hd
   case h_2=>cases hd
   injection hd with hd;injection hd with e1 hd;injection hd with e2 e3;subst e1;subst e3;exact body _ hq)
theorem C4 {p:PsV}{st:St}(lb nb vb bb:Nat)(h0:hget st.h 0=some (bxK 1))(hp:Kl st.h 1 lb nb vb bb p)(hnd:[0,1,lb,nb,vb,bb].Nodup):oo 2 st (lj (.ok p)) (some jF):=by
 refine⟨rfl,[some (bxK 1),some (psK p 2 3 4 5)],[stK p.s.labels,stK p.s.names,vlK p.s.vals,byK p.s.bytes],rfl,rfl,by simp,by simp[psK,bxK],by simp[stK,vlK,byK],Wk.ren [0,1,lb,nb,vb,bb] (by intro j hj;match j,hj with | 0,_=>rfl | 1,_=>rfl) (Nat.le_refl _) hnd (fun p hp=>by cases hp) ?_⟩;intro q hq k hk;simp only[fX,aL,List.cons_append,List.nil_append,List.mem_cons,List.not_mem_nil,or_false]at hq;rcases hq with rfl | rfl | rfl | rfl | rfl | rfl
 ·simp only[Option.some.injEq]at hk;subst hk;simp only[getD_eq_getElem?_getD,getElem?_cons_zero,getD_some,h0];rfl
 ·simp only[Option.some.injEq]at hk;subst hk;simp only[getD_eq_getElem?_getD,getElem?_cons_succ,getElem?_cons_zero,getD_some,hp.p0,ni]
 ·simp only[Option.some.injEq]at hk;subst hk;simp only[getD_eq_getElem?_getD,getElem?_cons_succ,getElem?_cons_zero,getD_some,hp.p1,dD]
 ·simp only[Option.some.injEq]at hk;subst hk;simp only[getD_eq_getElem?_getD,getElem?_cons_succ,getElem?_cons_zero,getD_some,hp.p2,dD]
 ·simp only[Option.some.injEq]at hk;subst hk;simp only[getD_eq_getElem?_getD,getElem?_cons_succ,getElem?_cons_zero,getD_some,hp.p3,nl]
 ·simp only[Option.some.injEq]at hk;subst hk;simp only[getD_eq_getElem?_getD,getElem?_cons_succ,getElem?_cons_zero,getD_some,hp.p4,mW]
abbrev qs:ap prog 99 :=
 mz0 func99 (True) (.ret jF) (asP fun _=>by
 refine aq [] rfl ?_;simp only[go_sem])
theorem SA (p:PsV)(h:BodyOk 800 1000 p):Sw f101 2 ⟨6,aB 0 [pv 0 0 0],aL 0 (oF p)⟩ (oR f101 2 (lj (eU nameR 63 p))):=by
 refine aq [⟨_,Qk⟩] rfl ?_;rcases hr:eU nameR 63 p with e | q
 ·simp only[go_sem,oF,bxK,bZ,ak,FT,FS,cH,List.head?_cons,h,hr]
 ·simp only[go_sem,oF,bxK,aE,FT,FS,cH,List.head?_cons,h,hr];exact C4 (p:=q) 54 55 56 57 rfl ⟨rfl,rfl,rfl,rfl,rfl,by decide⟩ (by decide)
def nZ:ap prog 101 :=
 S6 _ _ _ func101 rfl (fun _ _=>by go_simp) (BodyOk 800 1000) (fun p=>eU nameR 63 p) (by rw[ntmps101];decide) SA
theorem yh {id:Nat}{h:ai}{args:List AV}:nZ.run id h args=kJ 2 (eW (BodyOk 800 1000)) (fun p=>lj (eU nameR 63 p)) id h args:=rfl
theorem yg {id:Nat}{h:ai}{args:List AV}:nZ.pan id h args=kb (eW (BodyOk 800 1000)) (fun p=>lj (eU nameR 63 p)) h args:=rfl
theorem SB (p:PsV)(h:BodyOk 1000 800 p):Sw f104 2 ⟨6,aB 0 [pv 0 0 0],aL 0 (oF p)⟩ (oR f104 2 (lj (fD 1 p))):=by
 refine aq [⟨_,GY⟩] rfl ?_;rcases hr:fD 1 p with e | q
 ·simp only[go_sem,oF,bxK,bZ,ak,h,hr]
 ·simp only[go_sem,oF,bxK,aE,h,hr];exact C4 (p:=q) 22 23 24 25 rfl ⟨rfl,rfl,rfl,rfl,rfl,by decide⟩ (by decide)
def oa:ap prog 104 :=
 S6 _ _ _ func104 rfl (fun _ _=>by go_simp) (BodyOk 1000 800) (fun p=>fD 1 p) (by rw[ntmps104];decide) SB
theorem yj {id:Nat}{h:ai}{args:List AV}:oa.run id h args=kJ 2 (eW (BodyOk 1000 800)) (fun p=>lj (fD 1 p)) id h args:=rfl
theorem yi {id:Nat}{h:ai}{args:List AV}:oa.pan id h args=kb (eW (BodyOk 1000 800)) (fun p=>lj (fD 1 p)) h args:=rfl
theorem SC (p:PsV)(h:BodyOk 1000 800 p):Sw f106 2 ⟨6,aB 0 [pv 0 0 0],aL 0 (oF p)⟩ (oR f106 2 (lj (fD 4 p))):=by
 refine aq [⟨_,GY⟩] rfl ?_;rcases hr:fD 4 p with e | q
 ·simp only[go_sem,oF,bxK,bZ,ak,h,hr]
 ·simp only[go_sem,oF,bxK,aE,h,hr];exact C4 (p:=q) 22 23 24 25 rfl ⟨rfl,rfl,rfl,rfl,rfl,by decide⟩ (by decide)
def oc:ap prog 106 :=
 S6 _ _ _ func106 rfl (fun _ _=>by go_simp) (BodyOk 1000 800) (fun p=>fD 4 p) (by rw[ntmps106];decide) SC
theorem yl {id:Nat}{h:ai}{args:List AV}:oc.run id h args=kJ 2 (eW (BodyOk 1000 800)) (fun p=>lj (fD 4 p)) id h args:=rfl
theorem yk {id:Nat}{h:ai}{args:List AV}:oc.pan id h args=kb (eW (BodyOk 1000 800)) (fun p=>lj (fD 4 p)) h args:=rfl
theorem SD (p:PsV)(h:BodyOk 1000 800 p):Sw f107 2 ⟨6,aB 0 [pv 0 0 0],aL 0 (oF p)⟩ (oR f107 2 (lj (fD 8 p))):=by
 refine aq [⟨_,GY⟩] rfl ?_;rcases hr:fD 8 p with e | q
 ·simp only[go_sem,oF,bxK,bZ,ak,h,hr]
 ·simp only[go_sem,oF,bxK,aE,h,hr];exact C4 (p:=q) 22 23 24 25 rfl ⟨rfl,rfl,rfl,rfl,rfl,by decide⟩ (by decide)
def oe:ap prog 107 :=
 S6 _ _ _ func107 rfl (fun _ _=>by go_simp) (BodyOk 1000 800) (fun p=>fD 8 p) (by rw[ntmps107];decide) SD
theorem yn {id:Nat}{h:ai}{args:List AV}:oe.run id h args=kJ 2 (eW (BodyOk 1000 800)) (fun p=>lj (fD 8 p)) id h args:=rfl
theorem ym {id:Nat}{h:ai}{args:List AV}:oe.pan id h args=kb (eW (BodyOk 1000 800)) (fun p=>lj (fD 8 p)) h args:=rfl
end
section
open Ex (Xs xs0)
def rS (r:Except Int PsV):Except Int PsV:=match r with
 |.error e=>.error e
 |.ok p=>if p.l=[] then .ok p else .error 112
theorem SE (name:ByteArray)(p:PsV):AB name p=rS (readR name p):=rfl
theorem kP {q:PsV}(h:q.l=[]):rS (.ok q)=.ok q:=if_pos h
theorem iY {q:PsV}(h:¬q.l=[]):rS (.ok q)=.error 112:=if_neg h
theorem gv {e:Int}:rS (.error e)=.error e:=rfl
structure DirOk (p:PsV):Prop where
 body:BodyOk 0 0 p
 texts:∀t∈p.l,t.text.size≤1000000
theorem DirOk.bodyK {p:PsV}(h:DirOk p)(k:Int)(a b:Nat):BodyOk a b ⟨p.l,{ p.s with kind:=k }⟩:=(h.body.with (s:={ p.s with kind:=k }) h.body.toks rfl rfl).to (zero_le _) (zero_le _)
theorem DirOk.body0 {p:PsV}(h:DirOk p)(a b:Nat):BodyOk a b p:=h.body.to (zero_le _) (zero_le _)
theorem DirOk.vals {p:PsV}(h:DirOk p):p.s.vals=[]:=List.eq_nil_of_length_eq_zero (Nat.le_zero.1 h.body.vals)
theorem Oi (name:ByteArray)(p:PsV)(h:DirOk p)(hi:name=gI):Sw f48 1 ⟨5,aB 0 [pv 0 0 0,sv name],aL 0 (psB p)⟩ (oR f48 1 (eC (cA (rS (.ok ⟨p.l,{ p.s with kind:=2,names:=[name] }⟩))))):=by
 refine aq [⟨_,qs⟩,⟨_,kE⟩,⟨_,nZ⟩,⟨_,jM⟩,⟨_,oa⟩,⟨_,oc⟩,⟨_,oe⟩,⟨_,jP⟩,⟨_,qu⟩,⟨_,fg⟩] rfl ?_;have mi:name=(⟨#[46,116,101,120,116]⟩:ByteArray):=hi;simp only[go_sem,eq_true mi];refine bT (ctx:=[]) mixed ⟨[],[(7,[0]),(11,[0])],[(1,[0]),(2,[0]),(3,[0])]⟩ (by kernel_rfl) ?_;by_cases hq:p.l=[]
 ·rw[kP (q:=⟨p.l,{ p.s with kind:=2,names:=[name] }⟩) hq];have hl:¬(0:Int)<p.l.length:=by rw[hq];decide
  simp only[go_sem,hl,aE];exact ge (p:=⟨p.l,{ p.s with kind:=2,names:=[name] }⟩) 1 133 3 4 rfl ⟨rfl,rfl,rfl,rfl,rfl,by decide⟩
 ·rw[iY (q:=⟨p.l,{ p.s with kind:=2,names:=[name] }⟩) hq];have hl:(0:Int)<p.l.length:=by have:=List.length_pos_iff.2 hq;omega
  simp only[go_sem,hl,ak]
theorem Oe (name:ByteArray)(p:PsV)(h:DirOk p)(n0:¬name=gI)(hi:name=hZ):Sw f48 1 ⟨5,aB 0 [pv 0 0 0,sv name],aL 0 (psB p)⟩ (oR f48 1 (eC (cA (rS (.ok ⟨p.l,{ p.s with kind:=2,names:=[name] }⟩))))):=by
 refine aq [⟨_,qs⟩,⟨_,kE⟩,⟨_,nZ⟩,⟨_,jM⟩,⟨_,oa⟩,⟨_,oc⟩,⟨_,oe⟩,⟨_,jP⟩,⟨_,qu⟩,⟨_,fg⟩] rfl ?_;have m0:¬name=(⟨#[46,116,101,120,116]⟩:ByteArray):=n0;have mi:name=(⟨#[46,100,97,116,97]⟩:ByteArray):=hi;simp only[go_sem,m0,eq_true mi];refine bT (ctx:=[]) mixed ⟨[],[(7,[0]),(11,[0])],[(1,[0]),(2,[0]),(3,[0])]⟩ (by kernel_rfl) ?_;by_cases hq:p.l=[]
 ·rw[kP (q:=⟨p.l,{ p.s with kind:=2,names:=[name] }⟩) hq];have hl:¬(0:Int)<p.l.length:=by rw[hq];decide
  simp only[go_sem,hl,aE];exact ge (p:=⟨p.l,{ p.s with kind:=2,names:=[name] }⟩) 1 165 3 4 rfl ⟨rfl,rfl,rfl,rfl,rfl,by decide⟩
 ·rw[iY (q:=⟨p.l,{ p.s with kind:=2,names:=[name] }⟩) hq];have hl:(0:Int)<p.l.length:=by have:=List.length_pos_iff.2 hq;omega
  simp only[go_sem,hl,ak]
theorem Es (name:ByteArray)(p:PsV)(h:DirOk p)(n0:¬name=gI)(n1:¬name=hZ)(hi:name=dJ):Sw f48 1 ⟨5,aB 0 [pv 0 0 0,sv name],aL 0 (psB p)⟩ (oR f48 1 (eC (cA (rS (nameR ⟨p.l,{ p.s with kind:=2 }⟩))))):=by
 refine aq [⟨_,qs⟩,⟨_,kE⟩,⟨_,nZ⟩,⟨_,jM⟩,⟨_,oa⟩,⟨_,oc⟩,⟨_,oe⟩,⟨_,jP⟩,⟨_,qu⟩,⟨_,fg⟩] rfl ?_;have m0:¬name=(⟨#[46,116,101,120,116]⟩:ByteArray):=n0;have m1:¬name=(⟨#[46,100,97,116,97]⟩:ByteArray):=n1;have mi:name=(⟨#[46,115,101,99,116,105,111,110]⟩:ByteArray):=hi;simp only[go_sem,m0,m1,eq_true mi];refine bT (ctx:=[]) mixed ⟨[],[(6,[0])],[(1,[0]),(2,[0])]⟩ (by kernel_rfl) ?_;simp only[go_sem];have hc:=h.bodyK 2 1000 1000;rcases hr:nameR ⟨p.l,{ p.s with kind:=2 }⟩ with e | q
 ·rw[gv];simp only[go_sem,ak,aE,hc,hr]
 ·by_cases hq:q.l=[]
  ·rw[kP hq];have hl:¬(0:Int)<q.l.length:=by rw[hq];decide
   simp only[go_sem,aE,ak,hc,hr,hl];exact ge (p:=q) 293 294 295 296 rfl ⟨rfl,rfl,rfl,rfl,rfl,by decide⟩
  ·rw[iY hq];have hl:(0:Int)<q.l.length:=by have:=List.length_pos_iff.2 hq;omega
   simp only[go_sem,aE,ak,hc,hr,hl]
theorem G8 (name:ByteArray)(p:PsV)(h:DirOk p)(n0:¬name=gI)(n1:¬name=hZ)(n2:¬name=dJ)(hi:name=gy):Sw f48 1 ⟨5,aB 0 [pv 0 0 0,sv name],aL 0 (psB p)⟩ (oR f48 1 (eC (cA (rS (eU nameR 63 ⟨p.l,{ p.s with kind:=3 }⟩))))):=by
 refine aq [⟨_,qs⟩,⟨_,kE⟩,⟨_,nZ⟩,⟨_,jM⟩,⟨_,oa⟩,⟨_,oc⟩,⟨_,oe⟩,⟨_,jP⟩,⟨_,qu⟩,⟨_,fg⟩] rfl ?_;have m0:¬name=(⟨#[46,116,101,120,116]⟩:ByteArray):=n0;have m1:¬name=(⟨#[46,100,97,116,97]⟩:ByteArray):=n1;have m2:¬name=(⟨#[46,115,101,99,116,105,111,110]⟩:ByteArray):=n2;have mi:name=(⟨#[46,103,108,111,98,97,108]⟩:ByteArray):=hi;simp only[go_sem,m0,m1,m2,eq_true mi];have hc:=h.bodyK 3 800 1000;rcases hr:eU nameR 63 ⟨p.l,{ p.s with kind:=3 }⟩ with e | q
 ·rw[gv];simp only[go_sem,yh,yg,ak,eW,km,bxK,gN,bZ,hc,hr]
 ·by_cases hq:q.l=[]
  ·rw[kP hq];have hl:¬(0:Int)<q.l.length:=by rw[hq];decide
   simp only[go_sem,yh,yg,aE,eW,km,bxK,gN,bZ,hc,hr,hl];exact ge (p:=q) 309 310 311 312 rfl ⟨rfl,rfl,rfl,rfl,rfl,by decide⟩
  ·rw[iY hq];have hl:(0:Int)<q.l.length:=by have:=List.length_pos_iff.2 hq;omega
   simp only[go_sem,yh,yg,aE,ak,eW,km,bxK,gN,bZ,hc,hr,hl]
theorem KZ (name:ByteArray)(p:PsV)(h:DirOk p)(n0:¬name=gI)(n1:¬name=hZ)(n2:¬name=dJ)(n3:¬name=gy)(hi:name=ic):Sw f48 1 ⟨5,aB 0 [pv 0 0 0,sv name],aL 0 (psB p)⟩ (oR f48 1 (eC (cA (rS (kr ⟨p.l,{ p.s with kind:=4 }⟩))))):=by
 refine aq [⟨_,qs⟩,⟨_,kE⟩,⟨_,nZ⟩,⟨_,jM⟩,⟨_,oa⟩,⟨_,oc⟩,⟨_,oe⟩,⟨_,jP⟩,⟨_,qu⟩,⟨_,fg⟩] rfl ?_;have m0:¬name=(⟨#[46,116,101,120,116]⟩:ByteArray):=n0;have m1:¬name=(⟨#[46,100,97,116,97]⟩:ByteArray):=n1;have m2:¬name=(⟨#[46,115,101,99,116,105,111,110]⟩:ByteArray):=n2;have m3:¬name=(⟨#[46,103,108,111,98,97,108]⟩:ByteArray):=n3;have mi:name=(⟨#[46,97,108,105,103,110]⟩:ByteArray):=hi;simp only[go_sem,m0,m1,m2,m3,eq_true mi];refine bT (ctx:=[]) mixed ⟨[],[(6,[0])],[(1,[0]),(2,[0])]⟩ (by kernel_rfl) ?_;simp only[go_sem];have hc:=(show BodyOk 1000 1000 ⟨p.l,{ p.s with kind:=4 }⟩∧(⟨p.l,{ p.s with kind:=4 }⟩:PsV).s.vals=[] from⟨h.bodyK 4 1000 1000,h.vals⟩);rcases hr:kr ⟨p.l,{ p.s with kind:=4 }⟩ with e | q
 ·rw[gv];simp only[go_sem,ak,aE,hc,hr];exact h.vals
 ·by_cases hq:q.l=[]
  ·rw[kP hq];have hl:¬(0:Int)<q.l.length:=by rw[hq];decide
   simp only[go_sem,aE,ak,hc,hr,hl];refine⟨h.vals,?_⟩;exact ge (p:=q) 357 358 359 360 rfl ⟨rfl,rfl,rfl,rfl,rfl,by decide⟩
  ·rw[iY hq];have hl:(0:Int)<q.l.length:=by have:=List.length_pos_iff.2 hq;omega
   simp only[go_sem,aE,ak,hc,hr,hl];exact h.vals
theorem Od (name:ByteArray)(p:PsV)(h:DirOk p)(n0:¬name=gI)(n1:¬name=hZ)(n2:¬name=dJ)(n3:¬name=gy)(n4:¬name=ic)(hi:name=mY):Sw f48 1 ⟨5,aB 0 [pv 0 0 0,sv name],aL 0 (psB p)⟩ (oR f48 1 (eC (cA (rS (fD 1 p))))):=by
 refine aq [⟨_,qs⟩,⟨_,kE⟩,⟨_,nZ⟩,⟨_,jM⟩,⟨_,oa⟩,⟨_,oc⟩,⟨_,oe⟩,⟨_,jP⟩,⟨_,qu⟩,⟨_,fg⟩] rfl ?_;have m0:¬name=(⟨#[46,116,101,120,116]⟩:ByteArray):=n0;have m1:¬name=(⟨#[46,100,97,116,97]⟩:ByteArray):=n1;have m2:¬name=(⟨#[46,115,101,99,116,105,111,110]⟩:ByteArray):=n2;have m3:¬name=(⟨#[46,103,108,111,98,97,108]⟩:ByteArray):=n3;have m4:¬name=(⟨#[46,97,108,105,103,110]⟩:ByteArray):=n4;have mi:name=(⟨#[46,98,121,116,101]⟩:ByteArray):=hi;simp only[go_sem,m0,m1,m2,m3,m4,eq_true mi];have hc:=h.body0 1000 800;rcases hr:fD 1 p with e | q
 ·rw[gv];simp only[go_sem,yj,yi,ak,eW,km,bxK,gN,bZ,hc,hr]
 ·by_cases hq:q.l=[]
  ·rw[kP hq];have hl:¬(0:Int)<q.l.length:=by rw[hq];decide
   simp only[go_sem,yj,yi,aE,eW,km,bxK,gN,bZ,hc,hr,hl];exact ge (p:=q) 293 294 295 296 rfl ⟨rfl,rfl,rfl,rfl,rfl,by decide⟩
  ·rw[iY hq];have hl:(0:Int)<q.l.length:=by have:=List.length_pos_iff.2 hq;omega
   simp only[go_sem,yj,yi,aE,ak,eW,km,bxK,gN,bZ,hc,hr,hl]
theorem Oj (name:ByteArray)(p:PsV)(h:DirOk p)(n0:¬name=gI)(n1:¬name=hZ)(n2:¬name=dJ)(n3:¬name=gy)(n4:¬name=ic)(n5:¬name=mY)(hi:name=kL):Sw f48 1 ⟨5,aB 0 [pv 0 0 0,sv name],aL 0 (psB p)⟩ (oR f48 1 (eC (cA (rS (fD 4 p))))):=by
 refine aq [⟨_,qs⟩,⟨_,kE⟩,⟨_,nZ⟩,⟨_,jM⟩,⟨_,oa⟩,⟨_,oc⟩,⟨_,oe⟩,⟨_,jP⟩,⟨_,qu⟩,⟨_,fg⟩] rfl ?_;have m0:¬name=(⟨#[46,116,101,120,116]⟩:ByteArray):=n0;have m1:¬name=(⟨#[46,100,97,116,97]⟩:ByteArray):=n1;have m2:¬name=(⟨#[46,115,101,99,116,105,111,110]⟩:ByteArray):=n2;have m3:¬name=(⟨#[46,103,108,111,98,97,108]⟩:ByteArray):=n3;have m4:¬name=(⟨#[46,97,108,105,103,110]⟩:ByteArray):=n4;have m5:¬name=(⟨#[46,98,121,116,101]⟩:ByteArray):=n5;have mi:name=(⟨#[46,119,111,114,100]⟩:ByteArray):=hi;simp only[go_sem,m0,m1,m2,m3,m4,m5,eq_true mi];have hc:=h.body0 1000 800;rcases hr:fD 4 p with e | q
 ·rw[gv];simp only[go_sem,yl,yk,ak,eW,km,bxK,gN,bZ,hc,hr]
 ·by_cases hq:q.l=[]
  ·rw[kP hq];have hl:¬(0:Int)<q.l.length:=by rw[hq];decide
   simp only[go_sem,yl,yk,aE,eW,km,bxK,gN,bZ,hc,hr,hl];exact ge (p:=q) 325 326 327 328 rfl ⟨rfl,rfl,rfl,rfl,rfl,by decide⟩
  ·rw[iY hq];have hl:(0:Int)<q.l.length:=by have:=List.length_pos_iff.2 hq;omega
   simp only[go_sem,yl,yk,aE,ak,eW,km,bxK,gN,bZ,hc,hr,hl]
theorem Oh (name:ByteArray)(p:PsV)(h:DirOk p)(n0:¬name=gI)(n1:¬name=hZ)(n2:¬name=dJ)(n3:¬name=gy)(n4:¬name=ic)(n5:¬name=mY)(n6:¬name=kL)(hi:name=pZ):Sw f48 1 ⟨5,aB 0 [pv 0 0 0,sv name],aL 0 (psB p)⟩ (oR f48 1 (eC (cA (rS (fD 8 p))))):=by
 refine aq [⟨_,qs⟩,⟨_,kE⟩,⟨_,nZ⟩,⟨_,jM⟩,⟨_,oa⟩,⟨_,oc⟩,⟨_,oe⟩,⟨_,jP⟩,⟨_,qu⟩,⟨_,fg⟩] rfl ?_;have m0:¬name=(⟨#[46,116,101,120,116]⟩:ByteArray):=n0;have m1:¬name=(⟨#[46,100,97,116,97]⟩:ByteArray):=n1;have m2:¬name=(⟨#[46,115,101,99,116,105,111,110]⟩:ByteArray):=n2;have m3:¬name=(⟨#[46,103,108,111,98,97,108]⟩:ByteArray):=n3;have m4:¬name=(⟨#[46,97,108,105,103,110]⟩:ByteArray):=n4;have m5:¬name=(⟨#[46,98,121,116,101]⟩:ByteArray):=n5;have m6:¬name=(⟨#[46,119,111,114,100]⟩:ByteArray):=n6;have mi:name=(⟨#[46,113,117,97,100]⟩:ByteArray):=hi;simp only[go_sem,m0,m1,m2,m3,m4,m5,m6,eq_true mi];have hc:=h.body0 1000 800;rcases hr:fD 8 p with e | q
 ·rw[gv];simp only[go_sem,yn,ym,ak,eW,km,bxK,gN,bZ,hc,hr]
 ·by_cases hq:q.l=[]
  ·rw[kP hq];have hl:¬(0:Int)<q.l.length:=by rw[hq];decide
   simp only[go_sem,yn,ym,aE,eW,km,bxK,gN,bZ,hc,hr,hl];exact ge (p:=q) 357 358 359 360 rfl ⟨rfl,rfl,rfl,rfl,rfl,by decide⟩
  ·rw[iY hq];have hl:(0:Int)<q.l.length:=by have:=List.length_pos_iff.2 hq;omega
   simp only[go_sem,yn,ym,aE,ak,eW,km,bxK,gN,bZ,hc,hr,hl]
theorem K1 (name:ByteArray)(p:PsV)(h:DirOk p)(n0:¬name=gI)(n1:¬name=hZ)(n2:¬name=dJ)(n3:¬name=gy)(n4:¬name=ic)(n5:¬name=mY)(n6:¬name=kL)(n7:¬name=pZ)(hi:name=kM):Sw f48 1 ⟨5,aB 0 [pv 0 0 0,sv name],aL 0 (psB p)⟩ (oR f48 1 (eC (cA (rS (lu ⟨p.l,{ p.s with kind:=6 }⟩))))):=by
 refine aq [⟨_,qs⟩,⟨_,kE⟩,⟨_,nZ⟩,⟨_,jM⟩,⟨_,oa⟩,⟨_,oc⟩,⟨_,oe⟩,⟨_,jP⟩,⟨_,qu⟩,⟨_,fg⟩] rfl ?_;have m0:¬name=(⟨#[46,116,101,120,116]⟩:ByteArray):=n0;have m1:¬name=(⟨#[46,100,97,116,97]⟩:ByteArray):=n1;have m2:¬name=(⟨#[46,115,101,99,116,105,111,110]⟩:ByteArray):=n2;have m3:¬name=(⟨#[46,103,108,111,98,97,108]⟩:ByteArray):=n3;have m4:¬name=(⟨#[46,97,108,105,103,110]⟩:ByteArray):=n4;have m5:¬name=(⟨#[46,98,121,116,101]⟩:ByteArray):=n5;have m6:¬name=(⟨#[46,119,111,114,100]⟩:ByteArray):=n6;have m7:¬name=(⟨#[46,113,117,97,100]⟩:ByteArray):=n7;have mi:name=(⟨#[46,97,115,99,105,105]⟩:ByteArray):=hi;simp only[go_sem,m0,m1,m2,m3,m4,m5,m6,m7,eq_true mi];refine bT (ctx:=[]) mixed ⟨[],[(6,[0])],[(1,[0]),(2,[0])]⟩ (by kernel_rfl) ?_;simp only[go_sem];have hc:=h.texts;rcases hr:lu ⟨p.l,{ p.s with kind:=6 }⟩ with e | q
 ·rw[gv];simp only[go_sem,ak,aE,hc,hr];exact h.texts
 ·by_cases hq:q.l=[]
  ·rw[kP hq];have hl:¬(0:Int)<q.l.length:=by rw[hq];decide
   simp only[go_sem,aE,ak,hc,hr,hl];refine⟨h.texts,?_⟩;exact ge (p:=q) 485 486 487 488 rfl ⟨rfl,rfl,rfl,rfl,rfl,by decide⟩
  ·rw[iY hq];have hl:(0:Int)<q.l.length:=by have:=List.length_pos_iff.2 hq;omega
   simp only[go_sem,aE,ak,hc,hr,hl];exact h.texts
theorem SF (name:ByteArray)(p:PsV)(h:DirOk p)(n0:¬name=gI)(n1:¬name=hZ)(n2:¬name=dJ)(n3:¬name=gy)(n4:¬name=ic)(n5:¬name=mY)(n6:¬name=kL)(n7:¬name=pZ)(n8:¬name=kM)(hi:name=r6):Sw f48 1 ⟨5,aB 0 [pv 0 0 0,sv name],aL 0 (psB p)⟩ (oR f48 1 (eC (cA (rS (tM ⟨p.l,{ p.s with kind:=7 }⟩))))):=by
 refine aq [⟨_,qs⟩,⟨_,kE⟩,⟨_,nZ⟩,⟨_,jM⟩,⟨_,oa⟩,⟨_,oc⟩,⟨_,oe⟩,⟨_,jP⟩,⟨_,qu⟩,⟨_,fg⟩] rfl ?_;have m0:¬name=(⟨#[46,116,101,120,116]⟩:ByteArray):=n0;have m1:¬name=(⟨#[46,100,97,116,97]⟩:ByteArray):=n1;have m2:¬name=(⟨#[46,115,101,99,116,105,111,110]⟩:ByteArray):=n2;have m3:¬name=(⟨#[46,103,108,111,98,97,108]⟩:ByteArray):=n3;have m4:¬name=(⟨#[46,97,108,105,103,110]⟩:ByteArray):=n4;have m5:¬name=(⟨#[46,98,121,116,101]⟩:ByteArray):=n5;have m6:¬name=(⟨#[46,119,111,114,100]⟩:ByteArray):=n6;have m7:¬name=(⟨#[46,113,117,97,100]⟩:ByteArray):=n7;have m8:¬name=(⟨#[46,97,115,99,105,105]⟩:ByteArray):=n8;have mi:name=(⟨#[46,101,113,117]⟩:ByteArray):=hi;simp only[go_sem,m0,m1,m2,m3,m4,m5,m6,m7,m8,eq_true mi];refine bT (ctx:=[]) mixed ⟨[],[(6,[0])],[(1,[0]),(2,[0])]⟩ (by kernel_rfl) ?_;simp only[go_sem];have hc:=h.bodyK 7 999 1000;rcases hr:tM ⟨p.l,{ p.s with kind:=7 }⟩ with e | q
 ·rw[gv];simp only[go_sem,ak,aE,hc,hr]
 ·by_cases hq:q.l=[]
  ·rw[kP hq];have hl:¬(0:Int)<q.l.length:=by rw[hq];decide
   simp only[go_sem,aE,ak,hc,hr,hl];exact ge (p:=q) 517 518 519 520 rfl ⟨rfl,rfl,rfl,rfl,rfl,by decide⟩
  ·rw[iY hq];have hl:(0:Int)<q.l.length:=by have:=List.length_pos_iff.2 hq;omega
   simp only[go_sem,aE,ak,hc,hr,hl]
theorem Of (name:ByteArray)(p:PsV)(n0:¬name=gI)(n1:¬name=hZ)(n2:¬name=dJ)(n3:¬name=gy)(n4:¬name=ic)(n5:¬name=mY)(n6:¬name=kL)(n7:¬name=pZ)(n8:¬name=kM)(n9:¬name=r6):Sw f48 1 ⟨5,aB 0 [pv 0 0 0,sv name],aL 0 (psB p)⟩ (oR f48 1 (eC (cA (rS (.error 111))))):=by
 refine aq [⟨_,qs⟩,⟨_,kE⟩,⟨_,nZ⟩,⟨_,jM⟩,⟨_,oa⟩,⟨_,oc⟩,⟨_,oe⟩,⟨_,jP⟩,⟨_,qu⟩,⟨_,fg⟩] rfl ?_;have m0:¬name=(⟨#[46,116,101,120,116]⟩:ByteArray):=n0;have m1:¬name=(⟨#[46,100,97,116,97]⟩:ByteArray):=n1;have m2:¬name=(⟨#[46,115,101,99,116,105,111,110]⟩:ByteArray):=n2;have m3:¬name=(⟨#[46,103,108,111,98,97,108]⟩:ByteArray):=n3;have m4:¬name=(⟨#[46,97,108,105,103,110]⟩:ByteArray):=n4;have m5:¬name=(⟨#[46,98,121,116,101]⟩:ByteArray):=n5;have m6:¬name=(⟨#[46,119,111,114,100]⟩:ByteArray):=n6;have m7:¬name=(⟨#[46,113,117,97,100]⟩:ByteArray):=n7;have m8:¬name=(⟨#[46,97,115,99,105,105]⟩:ByteArray):=n8;have m9:¬name=(⟨#[46,101,113,117]⟩:ByteArray):=n9;simp only[go_sem,m0,m1,m2,m3,m4,m5,m6,m7,m8,m9,gv,ak]
theorem CQ (name:ByteArray)(p:PsV)(h:DirOk p):Sw f48 1 ⟨5,aB 0 [pv 0 0 0,sv name],aL 0 (psB p)⟩ (oR f48 1 (eC (cA (rS (readR name p))))):=by
 unfold readR;by_cases n0:name=gI
 ·rw[if_pos (.inl n0)];exact Oi name p h n0
 by_cases n1:name=hZ
 ·rw[if_pos (.inr n1)];exact Oe name p h n0 n1
 rw[if_neg (by rintro (e | e);exact n0 e;exact n1 e)];by_cases n2:name=dJ
 ·rw[if_pos n2];exact Es name p h n0 n1 n2
 rw[if_neg n2];by_cases n3:name=gy
 ·rw[if_pos n3];exact G8 name p h n0 n1 n2 n3
 rw[if_neg n3];by_cases n4:name=ic
 ·rw[if_pos n4];exact KZ name p h n0 n1 n2 n3 n4
 rw[if_neg n4];by_cases n5:name=mY
 ·rw[if_pos n5];exact Od name p h n0 n1 n2 n3 n4 n5
 rw[if_neg n5];by_cases n6:name=kL
 ·rw[if_pos n6];exact Oj name p h n0 n1 n2 n3 n4 n5 n6
 rw[if_neg n6];by_cases n7:name=pZ
 ·rw[if_pos n7];exact Oh name p h n0 n1 n2 n3 n4 n5 n6 n7
 rw[if_neg n7];by_cases n8:name=kM
 ·rw[if_pos n8];exact K1 name p h n0 n1 n2 n3 n4 n5 n6 n7 n8
 rw[if_neg n8];by_cases n9:name=r6
 ·rw[if_pos n9];exact SF name p h n0 n1 n2 n3 n4 n5 n6 n7 n8 n9
 rw[if_neg n9];exact Of name p n0 n1 n2 n3 n4 n5 n6 n7 n8 n9
abbrev UK:ap prog 48 :=
 AG _ _ _ func48 (asP rfl) (asP fun _ _=>by go_simp) (Gq) ((fun _ p=>DirOk p)) ((fun name p=>cA (AB name p))) (asP (by rw[ntmps48];decide)) (asP fun name p h=>by
 rw[SE];exact CQ name p h)
end
end Go.Proofs.YtnhbidpdadkcjaaGreatDoor
