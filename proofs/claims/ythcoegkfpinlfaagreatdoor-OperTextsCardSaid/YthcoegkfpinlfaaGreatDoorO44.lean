import Derived.Test.YthcoegkfpinlfaaGreatDoorO43
set_option linter.unusedVariables false
set_option linter.unusedSimpArgs false
set_option maxRecDepth 100000
set_option maxHeartbeats 8000000
namespace Go.Proofs.YthcoegkfpinlfaaGreatDoor
section
open Go.RowKit
noncomputable section
def ZN (P:Program) (rs:List ResultVar) (bd:BdK) (id:Nat) (x:Option (List Nat×List AV×List Blk)):CO:=match x with
 | some x=>callX x.1.length x.1 id (Uj P x.1.length rs (bd x.1.length ⟨x.1.length,aN 0 x.2.1,lX 0 x.2.2⟩))
 | none=>.no 63
def LT (P:Program) (n:Nat) (rs:List ResultVar) (bd:BdK) (id:Nat) (h:aF) (args:List AV):CO:=ZN P rs bd id (Kn n h args)
end
section
variable {P:Program}
theorem UF {n:Nat} {rs:List ResultVar} {bd:BdK} {id:Nat} {h h':aF} {args:List AV} (hs:∀ b k,hget h b=some k→hget h' b=some k) {R:Res} (hr:O9 (LT P n rs bd id h args)=some R):O9 (LT P n rs bd id h' args)=some R:=by
 unfold LT at hr ⊢
 cases hd:Kn n h args with
 | none=>rw [hd] at hr;cases hr
 | some x=>rw [hd] at hr;rw [WC hs hd];exact hr
noncomputable def mkC2 (f:FuncId) (fn:Func)
  (hen:∀ (args:Array Value) (w:World),(callFunc f args).run P w=.ok (.enter f args) w)
  (bd:BdK) (hbd:BdOk P f fn bd):cK P f where
 enter:=hen
 run:=fun id h args=>O9 (LT P fn.ntmps fn.results.toList bd id h args)
 pan:=fun id h args=>SF (LT P fn.ntmps fn.results.toList bd id h args)
 mono:=fun hs hr=>UF hs hr
 sound:=by
  intro id h args R hr hob B w0 ρ al w vals H hid hA
  unfold LT at hr
  cases hd:Kn fn.ntmps h args with
  | none=>rw [hd] at hr;cases hr
  | some x =>
   obtain ⟨bs,as',ks'⟩:=x
   rw [hd] at hr
   simp only [ZN] at hr
   cases he:Uj P bs.length fn.results.toList (bd bs.length ⟨bs.length,aN 0 as',lX 0 ks'⟩) with
   | no e=>rw [he] at hr;cases hr
   | pan v=>rw [he] at hr;cases hr
   | ret r hs ns =>
    rw [he] at hr
    injection hr with hr
    subst hr
    obtain ⟨k,s',r0,ho,hk,hret,hlc⟩:=aad he
    have h0:¬al id:=hid id (Nat.le_refl _) (by omega)
    obtain ⟨hbs,hnd,hvl,hn0,H1⟩:=Zy hd H h0 hA
    refine hbd _ _ _ _ ho (by rintro i rfl;rcases hk with h | h<;>cases h) (by simp [JF]) rfl H1 ?_ ?_
    ·intro _ ρ1 al1 a w1 HS
     obtain ⟨l1,l2,o1,o2,hwk⟩:=left_ok hlc
     obtain ⟨v,g1,g2⟩:=Lk (fn:=fn) HS hret
     have HS0:RepS fn.ntmps (JF w ρ al bs bs.length id H.gok) w ρ1 al1 ⟨s'.nx,(0,r0)::s'.t,s'.h⟩ (a.put (some 0) v) w1 :=
      ⟨by rw [zx];exact HS.size,by rw [iK];exact HS.defers,TRep.putT HS.t HS.size (d:=some 0) (by simpa [aG] using hn0) g2,HS.w,HS.al⟩
     obtain ⟨ρ2,al2,HS2⟩:=hwk _ _ _ _ _ _ _ (by simp [JF]) HS0
     obtain ⟨ρ',al',k1,k2,k3,k4⟩:=Wb H (Nat.le_refl _) hid hnd hbs l1 l2 o1 o2 HS2.w HS2.al
     have hv:ARep ρ2 al2 r v:=by
      have:=HS2.t 0
      have h2:(a.put (some 0) v).tmps.getD 0 undef=v:=by
       have hs:0<a.tmps.size:=by rw [HS.size];exact hn0
       simp [Act.put,hs]
      rw [h2] at this
      exact this
     refine ⟨v,g1,v,ρ',al',rfl,k1,k2,hv.fwd k4,?_⟩
     simpa using k3
    ·rintro x rfl
     rcases hk with h | h<;>cases h
 psound:=by
  intro id h args ob y E hr hob B w0 ρ al w vals H hid hA
  unfold LT at hr
  cases hd:Kn fn.ntmps h args with
  | none=>rw [hd] at hr;cases hr
  | some x =>
   obtain ⟨bs,as',ks'⟩:=x
   rw [hd] at hr
   simp only [ZN] at hr
   cases he:Uj P bs.length fn.results.toList (bd bs.length ⟨bs.length,aN 0 as',lX 0 ks'⟩) with
   | no e=>rw [he] at hr;cases hr
   | ret r hs ns=>rw [he] at hr;cases hr
   | pan v =>
    rw [he] at hr
    injection hr with hr
    injection hr with e1 hr
    injection hr with e2 e3
    subst e1 e2 e3
    obtain ⟨s',ho⟩:=Zt he
    have h0:¬al id:=hid id (Nat.le_refl _) (by omega)
    obtain ⟨hbs,hnd,hvl,hn0,H1⟩:=Zy hd H h0 hA
    refine hbd _ _ _ _ ho (by rintro i h;cases h) (by simp [JF]) rfl H1 ?_ ?_
    ·rintro (h | h)<;>cases h
    ·intro z hz ρ1 al1 a w1 HS
     injection hz with hz
     subst hz
     obtain ⟨ρ2,al2,HS2⟩:=(Wk.ren (ro:=⟨none,bs.length⟩) (s:=s') (s':=⟨bs.length,[],i2 0 (List.replicate bs.length none)⟩) (List.range bs.length) (fun j hj=>by rw [List.getElem?_range hj]) (by simp) List.nodup_range (by simp) (by
      intro p hp k hk
      obtain ⟨j,o⟩:=p
      simp only at hk
      subst hk
      have:∀ (n i j:Nat) (k:Blk),(j,some k)∉i2 i (List.replicate n none):=by
       intro n
       induction n with
       | zero=>intro i j k hm;simp [i2] at hm
       | succ n ih=>intro i j k hm;simp [List.replicate_succ,i2] at hm;exact ih _ _ _ hm
      exact absurd hp (this _ _ _ _))) _ _ _ _ _ _ _ (by simp [JF]) HS
     obtain ⟨ρ',al',k1,k2,k3⟩:=leaveR H (Nat.le_refl _) hid hnd hbs (ns:=[]) (hs:=List.replicate bs.length none) (by simp) (by simp) (by intro k hk;simp [List.mem_replicate] at hk) (by simp) (by simpa [lX] using HS2.w) (by simpa using HS2.al)
     refine ⟨ρ',al',rfl,k1,k2,k3.sub fun b k hk=>?_⟩
     obtain ⟨h3,h4⟩:=fp hk
     rw [← h4]
     have:∀ E:aF,(∀ x∈E,x.1≠b)→hget (E++h) b=hget h b:=by
      intro E
      induction E with
      | nil=>intro _;rfl
      | cons x E ih =>
       intro hE
       obtain ⟨c,o⟩:=x
       rw [List.cons_append,hget,if_neg (hE (c,o) (by simp))]
       exact ih fun y hy=>hE y (by simp [hy])
     rw [← List.append_assoc]
     refine this _ fun y hy=>?_
     rcases List.mem_append.1 hy with hy | hy
     ·simp only [Ea,lX,List.append_nil,List.mem_map] at hy
      obtain ⟨z,hz,rfl⟩:=hy
      have hkz:z.1∈Cy (i2 0 (List.replicate bs.length none)):=List.mem_map.2 ⟨z,hz,rfl⟩
      rw [Nm] at hkz
      have hz2:z.1<bs.length:=by simpa using hkz
      have hz3:z.1<bs.length:=by omega
      simp only [gOf,if_pos hz2,CN hz3]
      rintro rfl
      exact h3 (List.getElem_mem hz3)
     ·obtain ⟨c,hc,rfl⟩:=List.mem_map.1 hy
      rintro rfl
      exact h3 (List.mem_of_mem_drop hc)
end
def Zr (P:Program) (rg:Nat→Rg):Prop:=∀ (ctx:Ctx P) (call:Cl) (K n:Nat),NO ctx call→YI P ⟨none,K⟩ n (rg K call n)
def noRgK:Nat→Rg:=fun _=>noRg
theorem YB (P:Program):Zr P noRgK:=fun ctx call K n hc=>noRg_ok P ctx call _ n hc
noncomputable section
variable (P:Program) (ex:List (Sp P)) (ds:List (Df P)) (rg:Nat→Rg)
def Nw (g:FuncId):Option (Df P):=List.rec (motive:=fun _=>Option (Df P)) none (fun a _ ih=>cond (Nat.beq a.f g) (some a) ih) ds
def Tk (call:Cl) (n:Nat) (c:Code):BdK:=fun K s=>Me P call n (YN P call n) (rg K call n) c s
def bdM (call:Cl) (fn:Func) (c:Code):BdK:=Tk P rg call fn.ntmps c
def bdD (call:Cl) (d:Df P):BdK:=dfBd d (Tk P rg call d.fn.ntmps d.c0) (Tk P rg call d.fn.ntmps d.rest) (Tk P rg call d.gn.ntmps d.grest)
def Ot (call:Cl) (fn:Func) (id:Nat) (h:aF) (args:List AV) (b:Option Code):CO:=match b with
 | some c=>cond (Nz fn.name) (LT P fn.ntmps fn.results.toList (bdM P rg call fn c) id h args) (.no 81)
 | none=>.no 82
def Na (call:Cl) (id:Nat) (h:aF) (args:List AV) (fn:Option Func):CO:=match fn with
 | some fn=>Ot P rg call fn id h args fn.body
 | none=>.no 85
def Ji (call:Cl) (g:FuncId) (id:Nat) (h:aF) (args:List AV) (d:Option (Df P)):CO:=match d with
 | some d=>LT P d.fn.ntmps d.fn.results.toList (bdD P rg call d) id h args
 | none=>Na P rg call id h args P.funcs[g]?
def Zm (call:Cl) (g:FuncId) (id:Nat) (h:aF) (args:List AV) (sp:Option (Sp P)):CO:=match sp with
 | some sp=>VP P sp id h args
 | none=>Ji P rg call g id h args (Nw P ds g)
def PZ (k:Nat):Cl:=Nat.rec (motive:=fun _=>Cl) (fun _ _ _ _=>.no 80) (fun _ ih g id h args=>tagE g (Zm P ds rg ih g id h args (Mc P ex g))) k
end
section
variable {P:Program}
theorem TN {ds:List (Df P)} {g:FuncId} {d:Df P} (h:Nw P ds g=some d):d.f=g:=by
 induction ds with
 | nil=>cases h
 | cons a r ih =>
  have h:cond (Nat.beq a.f g) (some a) (Nw P r g)=some d:=h
  by_cases e:a.f=g
  ·rw [nbt e] at h
   injection h with h
   subst h
   exact e
  ·rw [nbf e] at h
   exact ih h
theorem Tn (hm:P.follows .mixedOrders=true) (ex:List (Sp P)) (ds:List (Df P)) {rg:Nat→Rg} (hrg:Zr P rg):∀ k,∃ ctx:Ctx P,NO ctx (PZ P ex ds rg k)
 | 0=>⟨[],⟨fun g id h args r E he=>(by cases he),fun g id h args v E he=>(by cases he)⟩⟩
 | k+1=>by
  obtain ⟨ctx,hc⟩:=Tn hm ex ds hrg k
  classical
  obtain ⟨call,hcall⟩:∃ call,PZ P ex ds rg k=call:=⟨_,rfl⟩
  rw [hcall] at hc
  have hbd:∀ (n:Nat) (c:Code) K s k s',Tk P rg call n c K s=.go k s'→SW P ⟨none,K⟩ n c s (isQ k s'):=fun n c K s k s' h=>Z3 hc (YJ hc hm) (hrg ctx call K n hc) c s k s' h
  let go (g:FuncId) (id:Nat) (h:aF) (args:List AV):CO:=Ji P rg call g id h args (Nw P ds g)
  have hgo:∀ g,(∃ s:cK P g,(∀ id h args,s.run id h args=O9 (go g id h args))∧∀ id h args,s.pan id h args=SF (go g id h args))∧g∈List.range P.funcs.size∨∀ id h args,∃ e,go g id h args=.no e:=by
   intro g
   show (∃ s:cK P g,(∀ id h args,s.run id h args=O9 (Ji P rg call g id h args (Nw P ds g)))∧∀ id h args,s.pan id h args=SF (Ji P rg call g id h args (Nw P ds g)))∧_∨∀ id h args,∃ e,Ji P rg call g id h args (Nw P ds g)=.no e
   cases hd:Nw P ds g with
   | some d =>
    have e:=TN hd
    subst e
    refine .inl ⟨⟨mkC2 d.f d.fn d.hen (bdD P rg call d) (aaw d (hbd _ _) (hbd _ _) (hbd _ _)),fun id h args=>rfl,fun id h args=>rfl⟩,?_⟩
    rw [List.mem_range]
    exact (Array.getElem?_eq_some_iff.1 d.hf).1
   | none =>
    cases hfn:P.funcs[g]? with
    | none=>exact .inr fun id h args=>⟨85,by simp only [Ji,hfn,Na]⟩
    | some fn =>
     cases hb:fn.body with
     | none=>exact .inr fun id h args=>⟨82,by simp only [Ji,hfn,Na,Ot,hb]⟩
     | some c =>
      cases hn:Nz fn.name with
      | false=>exact .inr fun id h args=>⟨81,by simp only [Ji,hfn,Na,Ot,hb,hn,cond_false]⟩
      | true =>
       refine .inl ⟨⟨mkC2 g fn (KD hfn hb hn) (bdM P rg call fn c) (XL hfn hb (hbd _ _)),fun id h args=>?_,fun id h args=>?_⟩,?_⟩
       ·simp only [Ji,hfn,Na,Ot,hb,hn,cond_true]
        rfl
       ·simp only [Ji,hfn,Na,Ot,hb,hn,cond_true]
        rfl
       ·rw [List.mem_range]
        exact (Array.getElem?_eq_some_iff.1 hfn).1
  let mk:∀ g,Option (cK P g):=fun g=>if h:∃ s:cK P g,(∀ id h args,s.run id h args=O9 (go g id h args))∧∀ id h args,s.pan id h args=SF (go g id h args) then some h.choose else none
  have hmk:∀ {g:FuncId} {id:Nat} {h:aF} {args:List AV} {x:CO},(∀ e,x≠.no e)→go g id h args=x→∃ s:cK P g,mk g=some s∧g∈List.range P.funcs.size∧(∀ id h args,s.run id h args=O9 (go g id h args))∧∀ id h args,s.pan id h args=SF (go g id h args):=by
   intro g id h args x hx he
   rcases hgo g with ⟨h1,h2⟩ | h1
   ·exact ⟨_,dif_pos h1,h2,h1.choose_spec.1,h1.choose_spec.2⟩
   ·obtain ⟨e,h1⟩:=h1 id h args
    exact absurd (he.symm.trans h1) (hx e)
  have hlook:∀ {g:FuncId} {id:Nat} {h:aF} {args:List AV} {x:CO},(∀ e,x≠.no e)→PZ P ex ds rg (k+1) g id h args=x →
    (∃ sp,Mc P ex g=some sp∧VP P sp id h args=x)∨(Mc P ex g=none∧go g id h args=x):=by
   intro g id h args x hx he
   have he:tagE g (Zm P ds rg (PZ P ex ds rg k) g id h args (Mc P ex g))=x:=he
   rw [hcall] at he
   have untag:∀ y,tagE g y=x→y=x:=by
    intro y hy
    cases y with
    | val r E=>exact hy
    | pan v E=>exact hy
    | no e=>exact absurd hy.symm (hx _)
   have he:=untag _ he
   cases hf:Mc P ex g with
   | some sp=>rw [hf] at he;exact .inl ⟨sp,rfl,he⟩
   | none=>rw [hf] at he;exact .inr ⟨rfl,he⟩
  refine ⟨OM ex++UA mk (List.range P.funcs.size),⟨fun g id h args r E he=>?_,fun g id h args v E he=>?_⟩⟩
  ·rcases hlook (by simp) he with ⟨sp,h1,h2⟩ | ⟨h0,h4⟩
   ·refine ⟨sp.spec.run,?_⟩
    unfold VP at h2
    cases hR:sp.spec.run id h args with
    | none=>rw [hR] at h2;cases h2
    | some R =>
     rw [hR] at h2
     simp only [spR] at h2
     cases ho:sp.ob id h args
     ·rw [ho] at h2;cases h2
     ·rw [ho] at h2
      injection h2 with e1 e2
      exact ⟨R,W6 h1 _,rfl,sp.ok ho hR,e1,e2⟩
   ·obtain ⟨s,g1,g3,g2,-⟩:=hmk (by simp) h4
    refine ⟨s.run,⟨True,r,E⟩,?_,?_,trivial,rfl,rfl⟩
    ·rw [(R1 h0 _).1]
     exact (L8 g1 g3).1
    ·rw [g2,h4]
     rfl
  ·rcases hlook (by simp) he with ⟨sp,h1,h2⟩ | ⟨h0,h4⟩
   ·exfalso
    unfold VP spR at h2
    cases hR:sp.spec.run id h args with
    | none=>rw [hR] at h2;cases h2
    | some R =>
     rw [hR] at h2
     simp only at h2
     cases ho:sp.ob id h args<;>rw [ho] at h2<;>cases h2
   ·obtain ⟨s,g1,g3,-,g2⟩:=hmk (by simp) h4
    refine ⟨s.pan,True,?_,?_,trivial⟩
    ·rw [(R1 h0 _).2]
     exact (L8 g1 g3).2
    ·rw [g2,h4]
     rfl
end
end
section
open Go.RowKit
section
variable {P:Program}
theorem UM {n:Nat} {rid:Nat} {oD:Oper} {g:FuncId} {x:Operand} {args:Array Operand} {ats:Array TypeId} {js:List Nat} {s1:St}
  (hD:oD.op=.defer { callee:=.value x,args:=args,argTypes:=ats }) (hDd:oD.dst=none) (hDg:oD.guard=none) (hx:∀ a:Act,a.eval x=.func (.func g) #[] #[]) (hen:∀ (args:Array Value) (w:World),(callFunc g args).run P w=.ok (.enter g args) w)
  (hargs:args.toList.map (evT s1.t)=pvs js):Lays P n (.region rid #[oD] false) s1 s1.t g js:=by
 intro K B w0 ρ al a w H
 let d:Deferred:={ target:=.fn (.func g) #[],args:=#[]++args.map a.eval }
 refine ⟨d,.func g,#[],args.toList.map a.eval,{ a with defers:=d::a.defers },?_,rfl,H.size,H.t,rfl,?_,?_⟩
 ·refine wpIn_region ?_
  have w2:Region.wanted oD (yielded #[oD] a.tmps)=true:=by unfold Region.wanted;rw [hDg]
  show wpOpsIn _ _ _ _ _ [0] a w
  simp only [wpOpsIn,List.getElem?_toArray,List.getElem?_cons_zero]
  rw [if_pos w2]
  refine ⟨fun _ _=>trivial,?_⟩
  have e2:(oD.semAt (Fw ⟨none,K⟩).round a.eval).run P w=.ok (.defer d) w:=by
   rw [show (Fw ⟨none,K⟩).round=none from rfl,Oper.semAt_none]
   simp only [execOp,hD,resolve,hx a,Deferred.ofValue,Sem.run_bind,Sem.run_pure,Result.andThen_ok]
   simp [d]
  rw [e2,Oper.uponIn_defer,hDd]
  exact ⟨trivial,rfl,rfl⟩
 ·intro w
  simp [d,invoke,hen]
  rw [← Array.toList_inj];simp
 ·rw [← hargs]
  have:∀ l:List Operand,AsRep ρ al (l.map (evT s1.t)) (l.map a.eval):=by
   intro l
   induction l with
   | nil=>trivial
   | cons x l ih=>exact ⟨CM H.t x,ih⟩
  exact this _
def mkDf {f g:FuncId} {fn gn:Func} {c0 rest grest:Code} {rid rid1:Nat} {o oM oD:Oper} {t tc:Tmp} {caps:Array Operand} (hf:P.funcs[f]? = some fn) (hb:fn.body=some (.seq c0 (.seq (.region rid1 #[oM,oD] false) rest)))
  (hgf:P.funcs[g]? = some gn) (hgb:gn.body=some (.seq (.region rid #[o] false) grest)) (hop:o.op=.call { callee:=.builtin .recover,args:=#[],argTypes:=#[] }) (hog:o.guard=none) (hod:o.dst=some t) (hgres:gn.results = #[]) (htn:t<gn.ntmps)
  (hn:Nz fn.name=true) (hgn:Nz gn.name=true) (hM:oM.op=.makeFunc (.func g) #[] caps) (hMd:oM.dst=some tc) (hMg:oM.guard=none)
  (hD:oD.op=.defer { callee:=.value (.tmp tc),args:=#[],argTypes:=#[] }) (hDd:oD.dst=none) (hDg:oD.guard=none) (htc:tc<fn.ntmps) (cells:List Tmp):Df P where
 f:=f
 fn:=fn
 c0:=c0
 D:=.region rid1 #[oM,oD] false
 rest:=rest
 g:=g
 gn:=gn
 rid:=rid
 o:=o
 t:=t
 grest:=grest
 hf:=hf
 hb:=hb
 hgf:=hgf
 hgb:=hgb
 hop:=hop
 hog:=hog
 hod:=hod
 hgres:=hgres
 htn:=htn
 hen:=KD hf hb hn
 caps:=caps.toList
 t2:=fun s=>(tc,.s (.l .any))::s
 lays:=fun s1 js h=>RK hM hMd hMg hD hDd hDg htc (KD hgf hgb hgn) h
 cells:=cells
def mkDfP {f g:FuncId} {fn gn:Func} {c0 rest grest:Code} {rid rid1:Nat} {o oD:Oper} {t:Tmp} {x:Operand} {args:Array Operand} {ats:Array TypeId} (hf:P.funcs[f]? = some fn) (hb:fn.body=some (.seq c0 (.seq (.region rid1 #[oD] false) rest)))
  (hgf:P.funcs[g]? = some gn) (hgb:gn.body=some (.seq (.region rid #[o] false) grest)) (hop:o.op=.call { callee:=.builtin .recover,args:=#[],argTypes:=#[] }) (hog:o.guard=none) (hod:o.dst=some t) (hgres:gn.results = #[]) (htn:t<gn.ntmps)
  (hn:Nz fn.name=true) (hgn:Nz gn.name=true) (hD:oD.op=.defer { callee:=.value x,args:=args,argTypes:=ats }) (hDd:oD.dst=none) (hDg:oD.guard=none) (hx:∀ a:Act,a.eval x=.func (.func g) #[] #[]) (cells:List Tmp):Df P where
 f:=f
 fn:=fn
 c0:=c0
 D:=.region rid1 #[oD] false
 rest:=rest
 g:=g
 gn:=gn
 rid:=rid
 o:=o
 t:=t
 grest:=grest
 hf:=hf
 hb:=hb
 hgf:=hgf
 hgb:=hgb
 hop:=hop
 hog:=hog
 hod:=hod
 hgres:=hgres
 htn:=htn
 hen:=KD hf hb hn
 caps:=args.toList
 t2:=fun s=>s
 lays:=fun s1 js h=>UM hD hDd hDg hx (KD hgf hgb hgn) h
 cells:=cells
def mkEvM {f:FuncId} {out:AV} {ex:List (Sp P)} {ds:List (Df P)} {rg:Nat→Rg} (hm:P.follows .mixedOrders=true) (hrg:Zr P rg) (k:Nat)
  (hev:∀ (id:Nat) (h:aF),PZ P ex ds rg k f id h []=.val out []):cK P f :=
 have key:∃ s:cK P f,∀ id h,∃ R,s.run id h []=some R∧R.ob∧R.r=out∧R.E=[]:=by
  obtain ⟨ctx,hc⟩:=Tn hm ex ds hrg k
  obtain ⟨run,R,h1,h2,h3,h4,h5⟩:=hc.val _ _ _ _ _ _ (hev 0 [])
  obtain ⟨s,rfl⟩:=KM h1
  refine ⟨s,fun id h=>?_⟩
  obtain ⟨run,R,g1,g2,g3,g4,g5⟩:=hc.val _ _ _ _ _ _ (hev id h)
  rw [h1] at g1
  injection g1 with g1
  subst g1
  exact ⟨R,g2,g3,g4,g5⟩
 {
  enter:=key.choose.enter
  run:=fun _ _ args=>match args with | []=>some ⟨True,out,[]⟩ | _=>none
  mono:=fun _ hr=>hr
  sound:=by
   intro id h args R hr hob B w0 ρ al w vals H hid hA
   split at hr
   case h_2=>cases hr
   injection hr with hr
   subst hr
   obtain ⟨R,g1,g2,g3,g4⟩:=key.choose_spec id h
   refine (key.choose.sound g1 g2 vals H hid hA).mono fun e w' ⟨v,ρ',al',e1,e2,e3,e4,e5⟩=>?_
   rw [g3] at e4
   rw [g4] at e5
   exact ⟨v,ρ',al',e1,e2,e3,e4,e5⟩ }
end
end
section
open Go.RowKit
structure ItS (P:Program) where
 f:FuncId
 it:It P f
 rows:List D→Option (List (List AV))
 ok:∀ {ds:List D} {L:List (List AV)},rows ds=some L→∃ q,it.dec ds=some (q,L)∧q
noncomputable section
end
noncomputable section
end
noncomputable section
variable {P:Program}
end
section
variable {P:Program}
end
end
end Go.Proofs.YthcoegkfpinlfaaGreatDoor
