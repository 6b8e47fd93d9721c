import Derived.Test.YthcoegkfpinlfaaGreatDoorO42
set_option linter.unusedVariables false
set_option linter.unusedSimpArgs false
set_option maxRecDepth 100000
set_option maxHeartbeats 8000000
namespace Go.Proofs.YthcoegkfpinlfaaGreatDoor
section
open Go.RowKit
structure Sp (P:Program) where
 f:FuncId
 spec:cK P f
 ob:Nat→aF→List AV→Bool
 ok:∀ {id:Nat} {h:aF} {args:List AV} {R:Res},ob id h args=true→spec.run id h args=some R→R.ob
abbrev Rg:=Cl→Nat→Operand→Array Tmp→Code→Code→St→Cx
def RgOk (P:Program) (rg:Rg):Prop:=∀ (ctx:Ctx P) (call:Cl) (ro:Cf) (n:Nat),NO ctx call→YI P ro n (rg call n)
def noRg:Rg:=fun _ _ _ _ _ _ _=>.no 90
theorem noRg_ok (P:Program):RgOk P noRg:=fun _ _ _ _ _ _ _ _ _ _ _ _ h=>by cases h
noncomputable section
variable (P:Program) (ex:List (Sp P)) (rg:Rg)
def Mc (g:FuncId):Option (Sp P):=List.rec (motive:=fun _=>Option (Sp P)) none (fun a _ ih=>cond (Nat.beq a.f g) (some a) ih) ex
def tagE (g:FuncId) (x:CO):CO:=match x with
 | .val r E=>.val r E
 | .pan v E=>.pan v E
 | .no e=>.no (cond (Nat.blt e 1000) (g*1000+e) e)
def spR (b:Bool) (x:Option Res):CO:=match x with
 | some R=>cond b (.val R.r R.E) (.no 83)
 | none=>.no 84
def VP (sp:Sp P) (id:Nat) (h:aF) (args:List AV):CO:=spR (sp.ob id h args) (sp.spec.run id h args)
def Nz (s:String):Bool:=!(s == "runtime.NumGoroutine")
end
section
variable {P:Program}
theorem KD {f:FuncId} {fn:Func} {c:Code} (hf:P.funcs[f]? = some fn) (hb:fn.body=some c) (hn:Nz fn.name=true) (args:Array Value) (w:World):(callFunc f args).run P w=.ok (.enter f args) w:=by
 have hn:(fn.name == "runtime.NumGoroutine")=false:=by simpa [Nz] using hn
 simp only [callFunc,Sem.run_bind,run_program,Result.andThen_ok,hf,hn,hb,Option.isNone_some,Bool.false_eq_true,if_false,Sem.run_pure]
def OM (ex:List (Sp P)):Ctx P:=ex.map fun sp=>⟨sp.f,sp.spec⟩
theorem W6 {ex:List (Sp P)} {g:FuncId} {sp:Sp P} (h:Mc P ex g=some sp) (r:Ctx P):bO (OM ex++r) g=some sp.spec.run:=by
 induction ex with
 | nil=>cases h
 | cons a l ih =>
  have h:cond (Nat.beq a.f g) (some a) (Mc P l g)=some sp:=h
  show bO (⟨a.f,a.spec⟩::(OM l++r)) g=_
  rw [bO]
  by_cases e:a.f=g
  ·rw [nbt e] at h
   injection h with h
   subst h
   rw [if_pos e]
  ·rw [nbf e] at h
   rw [if_neg e]
   exact ih h
theorem R1 {ex:List (Sp P)} {g:FuncId} (h:Mc P ex g=none) (r:Ctx P):bO (OM ex++r) g=bO r g∧bX (OM ex++r) g=bX r g:=by
 induction ex with
 | nil=>exact ⟨rfl,rfl⟩
 | cons a l ih =>
  have h:cond (Nat.beq a.f g) (some a) (Mc P l g)=none:=h
  show bO (⟨a.f,a.spec⟩::(OM l++r)) g=_∧bX (⟨a.f,a.spec⟩::(OM l++r)) g=_
  rw [bO,bX]
  by_cases e:a.f=g
  ·rw [nbt e] at h
   cases h
  ·rw [nbf e] at h
   rw [if_neg e,if_neg e]
   exact ih h
def UA (mk:∀ g,Option (cK P g)):List FuncId→Ctx P
 | []=>[]
 | g::l=>match mk g with
  | some s=>⟨g,s⟩::UA mk l
  | none=>UA mk l
theorem L8 {mk:∀ g,Option (cK P g)} {g:FuncId} {s:cK P g} (hs:mk g=some s):∀ {l:List FuncId},g∈l→bO (UA mk l) g=some s.run∧bX (UA mk l) g=some s.pan
 | [],h=>by cases h
 | a::l,h=>by
  by_cases e:a=g
  ·subst e
   rw [UA,hs]
   simp only [bO,bX,if_true]
   exact ⟨trivial,trivial⟩
  ·have h2:g∈l:=by
    rcases List.mem_cons.1 h with h | h
    ·exact absurd h.symm e
    ·exact h
   rw [UA]
   cases hm:mk a with
   | none=>exact L8 hs h2
   | some s2 =>
    simp only [bO,bX]
    rw [if_neg e,if_neg e]
    exact L8 hs h2
end
end
section
open Go.RowKit
def Ph {α β:Type} (g:α→Option (Bool×List Nat×β)):List α→Option (Bool×List Nat×List β)
 | []=>some (true,[],[])
 | x::r=>match g x,Ph g r with
  | some (p,u,d),some (q,v,l)=>some (p&&q,u++v,d::l)
  | _,_=>none
def LV.toB (h:aF):Nat→LV→Option (Bool×List Nat×D)
 | _,.v x=>some (true,[],.v x)
 | _,.d x=>some (true,[],x)
 | f+1,.sl b i n=>match hget h b with
  | some k=>if k.own=true then match Ph (Ph (LV.toB h f)) ((k.els.drop i).take n) with
    | some (q,u,ds)=>some (decide (i+n≤k.els.length)&&q,b::u,.sd k.sz ds)
    | none=>none
    else none
  | none=>none
 | f+1,.p b i j=>match hget h b with
  | some k=>if k.own=true then match k.els[i]? with
    | some e=>match Ph (LV.toB h f) (e.drop j) with
     | some (q,u,ds)=>some (q,b::u,.pd ds)
     | none=>none
    | none=>none
    else none
  | none=>none
 | _,_=>none
def SV.toB (h:aF) (f:Nat):SV→Option (Bool×List Nat×SV)
 | .l x=>match x.toB h f with
  | some (p,u,d)=>some (p,u,.l (ofD d))
  | none=>none
 | .agg xs=>match Ph (LV.toB h f) xs with
  | some (p,u,ds)=>some (p,u,.agg (cf ds))
  | none=>none
def AV.toB (h:aF) (f:Nat):AV→Option (Bool×List Nat×AV)
 | .s x=>match x.toB h f with
  | some (p,u,d)=>some (p,u,.s d)
  | none=>none
 | .tup xs=>match Ph (SV.toB h f) xs with
  | some (p,u,ds)=>some (p,u,.tup ds)
  | none=>none
 | .fn g a c=>match Ph (LV.toB h f) a,Ph (LV.toB h f) c with
  | some (p,u,fd),some (q,v,cd)=>some (p&&q,u++v,.fn g (cf fd) (cf cd))
  | _,_=>none
def YW {α β:Type} (g:α→Option (Bool×List Nat×β)) (g':α→Option (Prop×List Nat×β)):Prop:=∀ x b u d,g x=some (b,u,d)→∃ p:Prop,g' x=some (p,u,d)∧(b=true→p)
theorem sF {α β:Type} {g:α→Option (Bool×List Nat×β)} {g':α→Option (Prop×List Nat×β)} (hg:YW g g'):YW (Ph g) (br g')
 | [],b,u,d,h=>by
  injection h with h
  injection h with h1 h
  injection h with h2 h3
  subst h1 h2 h3
  exact ⟨True,rfl,fun _=>trivial⟩
 | x::r,b,u,d,h=>by
  rw [Ph] at h
  split at h
  case h_2=>cases h
  rename_i p1 u1 d1 q1 v1 l1 e1 e2
  injection h with h
  injection h with h1 h
  injection h with h2 h3
  subst h1 h2 h3
  obtain ⟨p,g1,g2⟩:=hg _ _ _ _ e1
  obtain ⟨q,g3,g4⟩:=sF hg _ _ _ _ e2
  rw [br,g1,g3]
  refine ⟨_,rfl,fun hb=>?_⟩
  simp only [Bool.and_eq_true] at hb
  exact ⟨g2 hb.1,g4 hb.2⟩
theorem LV.toB_twin {h:aF}:∀ f,YW (LV.toB h f) (LV.toD h f)
 | 0,x,b,u,dd,hx=>by
  cases x<;>first
   | (simp only [LV.toB] at hx;cases hx;done)
   | (
    simp only [LV.toB,Option.some.injEq,Prod.mk.injEq] at hx
    obtain ⟨rfl,rfl,rfl⟩:=hx
    exact ⟨True,by simp only [LV.toD],fun _=>trivial⟩)
 | f+1,x,b,u,dd,hx=>by
  have ih:=LV.toB_twin (h:=h) f
  cases x with
  | v x =>
   simp only [LV.toB,Option.some.injEq,Prod.mk.injEq] at hx
   obtain ⟨rfl,rfl,rfl⟩:=hx
   exact ⟨True,by simp only [LV.toD],fun _=>trivial⟩
  | d x =>
   simp only [LV.toB,Option.some.injEq,Prod.mk.injEq] at hx
   obtain ⟨rfl,rfl,rfl⟩:=hx
   exact ⟨True,by simp only [LV.toD],fun _=>trivial⟩
  | any=>simp only [LV.toB] at hx;cases hx
  | bf g bs cs=>simp only [LV.toB] at hx;cases hx
  | sl c i n =>
   simp only [LV.toB] at hx
   split at hx
   case h_2=>cases hx
   rename_i k hk
   split at hx
   case isFalse=>cases hx
   rename_i ho
   split at hx
   case h_2=>cases hx
   rename_i q u1 ds hm
   simp only [Option.some.injEq,Prod.mk.injEq] at hx
   obtain ⟨rfl,rfl,rfl⟩:=hx
   obtain ⟨p,g1,g2⟩:=sF (sF ih) _ _ _ _ hm
   simp only [LV.toD,hk]
   rw [if_pos ho,g1]
   refine ⟨_,rfl,fun hb=>?_⟩
   simp only [Bool.and_eq_true,decide_eq_true_eq] at hb
   exact ⟨hb.1,g2 hb.2⟩
  | p c i j =>
   simp only [LV.toB] at hx
   split at hx
   case h_2=>cases hx
   rename_i k hk
   split at hx
   case isFalse=>cases hx
   rename_i ho
   split at hx
   case h_2=>cases hx
   rename_i e he
   split at hx
   case h_2=>cases hx
   rename_i q u1 ds hm
   simp only [Option.some.injEq,Prod.mk.injEq] at hx
   obtain ⟨rfl,rfl,rfl⟩:=hx
   obtain ⟨p,g1,g2⟩:=sF ih _ _ _ _ hm
   simp only [LV.toD,hk]
   rw [if_pos ho]
   simp only [he,g1]
   exact ⟨_,rfl,g2⟩
theorem SV.toB_twin {h:aF} {f:Nat}:YW (SV.toB h f) (SV.toD h f):=by
 intro x b u d hx
 cases x with
 | l x =>
  simp only [SV.toB] at hx
  split at hx
  case h_2=>cases hx
  rename_i e
  simp only [Option.some.injEq,Prod.mk.injEq] at hx
  obtain ⟨rfl,rfl,rfl⟩:=hx
  obtain ⟨p,g1,g2⟩:=LV.toB_twin f _ _ _ _ e
  simp only [SV.toD,g1]
  exact ⟨_,rfl,g2⟩
 | agg xs =>
  simp only [SV.toB] at hx
  split at hx
  case h_2=>cases hx
  rename_i e
  simp only [Option.some.injEq,Prod.mk.injEq] at hx
  obtain ⟨rfl,rfl,rfl⟩:=hx
  obtain ⟨p,g1,g2⟩:=sF (LV.toB_twin f) _ _ _ _ e
  simp only [SV.toD,g1]
  exact ⟨_,rfl,g2⟩
theorem AV.toB_twin {h:aF} {f:Nat}:YW (AV.toB h f) (AV.toD h f):=by
 intro x b u d hx
 cases x with
 | s x =>
  simp only [AV.toB] at hx
  split at hx
  case h_2=>cases hx
  rename_i e
  simp only [Option.some.injEq,Prod.mk.injEq] at hx
  obtain ⟨rfl,rfl,rfl⟩:=hx
  obtain ⟨p,g1,g2⟩:=SV.toB_twin _ _ _ _ e
  simp only [AV.toD,g1]
  exact ⟨_,rfl,g2⟩
 | tup xs =>
  simp only [AV.toB] at hx
  split at hx
  case h_2=>cases hx
  rename_i e
  simp only [Option.some.injEq,Prod.mk.injEq] at hx
  obtain ⟨rfl,rfl,rfl⟩:=hx
  obtain ⟨p,g1,g2⟩:=sF SV.toB_twin _ _ _ _ e
  simp only [AV.toD,g1]
  exact ⟨_,rfl,g2⟩
 | fn g a c =>
  simp only [AV.toB] at hx
  split at hx
  case h_2=>cases hx
  rename_i e1 e2
  simp only [Option.some.injEq,Prod.mk.injEq] at hx
  obtain ⟨rfl,rfl,rfl⟩:=hx
  obtain ⟨p,g1,g2⟩:=sF (LV.toB_twin f) _ _ _ _ e1
  obtain ⟨q,g3,g4⟩:=sF (LV.toB_twin f) _ _ _ _ e2
  simp only [AV.toD,g1,g3]
  refine ⟨_,rfl,fun hb=>?_⟩
  simp only [Bool.and_eq_true] at hb
  exact ⟨g2 hb.1,g4 hb.2⟩
section
variable {P:Program}
def obP {X:Type} (dec:List AV→Option (Prop×X)) (qB:X→Bool) (h:aF) (args:List AV):Bool:=match Ph (AV.toB h 4) args with
 | some (b,_,as)=>match dec as with
  | some (_,x)=>b&&qB x
  | none=>false
 | none=>false
def spP {X:Type} (f:FuncId) (spec:cK P f) (dec:List AV→Option (Prop×X)) (out:X→PO) (hrun:∀ id h args,spec.run id h args=be dec out h args) (qB:X→Bool)
  (hq:∀ as q x,dec as=some (q,x)→qB x=true→q):Sp P where
 f:=f
 spec:=spec
 ob:=fun _ h args=>obP dec qB h args
 ok:=by
  intro id h args R ho hr
  rw [hrun] at hr
  unfold obP at ho
  split at ho
  case h_2=>cases ho
  rename_i b u as hb
  obtain ⟨p,g1,g2⟩:=sF AV.toB_twin _ _ _ _ hb
  split at ho
  case h_2=>cases ho
  rename_i q x hd
  simp only [Bool.and_eq_true] at ho
  unfold be at hr
  rw [g1] at hr
  simp only [hd] at hr
  split at hr
  ·injection hr with hr
   subst hr
   exact ⟨g2 ho.1,hq _ _ _ hd ho.2⟩
  ·cases hr
end
end
section
open Go.RowKit
section
variable {P:Program}
theorem RH {f:FuncId} {fn:Func} {c0 D rest:Code} (hf:P.funcs[f]? = some fn) (hb:fn.body=some (.seq c0 (.seq D rest)))
  {g:FuncId} {gn:Func} {rid:Nat} {o:Oper} {t:Tmp} {grest:Code} (hgf:P.funcs[g]? = some gn) (hgb:gn.body=some (.seq (.region rid #[o] false) grest))
  (hop:o.op=.call { callee:=.builtin .recover,args:=#[],argTypes:=#[] }) (hog:o.guard=none) (hod:o.dst=some t) (hgres:gn.results = #[]) (htn:t<gn.ntmps)
  {K K0:Nat} (hKK:K0≤K) {B:fG} {w:World} {ρ:Nat→Loc} {al:Al} {s0 s1:St} {t2:dy} {js:List Nat} (hjs:∀ j∈js,j<K) (hjn:js.length≤gn.ntmps) {vals:List Value} {post post2:St→Prop} {pp:Value→St→Prop} {cells:List (Tmp×Nat)} (hck:∀ p∈cells,p.2<K) {R:Ending→World→Prop}
  (hpl:B.pl.length=K0) (hds:B.ds=[]) (H:RepS fn.ntmps B w ρ al s0 { tmps:=vals.toArray++Array.replicate (fn.ntmps-vals.toArray.size) undef,defers:=[] } w)
  (h0:SW P ⟨none,K0⟩ fn.ntmps c0 s0 (fun e s=>e=.normal∧Wk ⟨none,K0⟩ s s1)) (hD:Lays P fn.ntmps D s1 t2 g js) (hK:∀ j,j<K→∃ k,hget s1.h j=some k)
  (h1:SW P ⟨none,K⟩ fn.ntmps rest ⟨s1.nx,t2,s1.h⟩ (Mm post pp)) (hcell:∀ s,post s→∀ p∈cells,aW s.t p.1=.s (.l (.p p.2 0 0))) (hcellp:∀ x s,pp x s→∀ p∈cells,aW s.t p.1=.s (.l (.p p.2 0 0)))
  (hc0:∀ s,post s→SW P ⟨none,K⟩ gn.ntmps grest ⟨s.nx,(t,.s (.l (.v .nilIface)))::aN 0 (pvs js),s.h⟩ (Mm post2 fun _ _=>False))
  (hc1:∀ x s,pp x s→SW P ⟨none,K⟩ gn.ntmps grest ⟨s.nx,(t,.s (.l (.v x)))::aN 0 (pvs js),s.h⟩ (Mm post2 fun _ _=>False))
  (hret:∀ s ρ al a w1,post2 s→RepS fn.ntmps B w ρ al ⟨s.nx,cells.map fun p=>(p.1,.s (.l (.p p.2 0 0))),s.h⟩ a w1→∃ v,(results fn a.tmps).run P w1=.ok v w1∧R (.returned v) w1):Calls P f vals.toArray w R:=by
 refine (sS (ro:=⟨none,K⟩) (n:=0)).1 (callsIn_of_wp_marks hf hb trivial ?_ rfl)
 refine wpIn_seq (wpIn_mono (h0 B w ρ al _ w hpl H) ?_)
 rintro e a1 w1 ⟨ρ',al',s',H',rfl,hwk⟩
 obtain ⟨ρ1,al1,H1⟩:=hwk _ B w ρ' al' a1 w1 hpl H'
 obtain ⟨d,fv,cap,cvals,a',g1,g2,g3,g4,g5,g6,g7⟩:=hD K B w ρ1 al1 a1 w1 H1
 refine wpIn_seq (wpIn_mono g1 ?_)
 rintro e a2 w2 ⟨rfl,rfl,rfl⟩
 let B1:fG:=⟨B.S,al1.M,(List.range K).map ρ1,d::a1.defers,H1.w.gok⟩
 have hpins:∀ {j l},B1.pl[j]? = some l→j<K∧ρ1 j=l:=by
  intro j l hj
  simp only [B1,List.getElem?_map,Option.map_eq_some_iff] at hj
  obtain ⟨j',e1,e2⟩:=hj
  have hj3:j<K:=by
   rcases Nat.lt_or_ge j K with h | h
   ·exact h
   ·rw [List.getElem?_eq_none (by simpa using h)] at e1;cases e1
  rw [List.getElem?_range hj3] at e1
  injection e1 with e1
  subst e1
  exact ⟨hj3,e2⟩
 have hpin:∀ {j},j<K→B1.pl[j]? = some (ρ1 j):=by
  intro j hj
  simp only [B1,List.getElem?_map,List.getElem?_range hj,Option.map_some]
 have Hb:RepS fn.ntmps B1 w2 ρ1 al1 ⟨s1.nx,t2,s1.h⟩ a2 w2:=by
  refine ⟨g3,by rw [g2];exact Marks.nil _ _ _,g4,?_,H1.al⟩
  have hr:=H1.w.rebase
  refine ⟨hr.base,hr.below,hr.blk,hr.own,hr.old,hr.apart,hr.mem,hr.memOwn,hr.memNew,hr.memOld,fun j l hj=>?_⟩
  obtain ⟨e1,e2⟩:=hpins hj
  obtain ⟨k,hk⟩:=hK j e1
  exact ⟨(H1.w.blk j k hk).here,e2⟩
 refine wpIn_mono (h1 B1 w2 ρ1 al1 a2 w2 (by simp [B1]) Hb) ?_
 rintro e a3 w3 ⟨ρ3,al3,s3,H3,hq⟩
 obtain ⟨rs,k1,k2,k3⟩:=H3.defers
 have hp3:∀ j,j<K→al3 j∧ρ3 j=ρ1 j:=fun j hj=>H3.w.pins j _ (hpin hj)
 have door:∀ u u' x,Caught u x u'→u≠.run→SW P ⟨none,K⟩ gn.ntmps grest ⟨s3.nx,(t,.s (.l (.v x)))::aN 0 (pvs js),s3.h⟩ (Mm post2 fun _ _=>False)→(∀ p∈cells,aW s3.t p.1=.s (.l (.p p.2 0 0))) →
   LeavesInM (Fw ⟨none,K⟩) 0 P fn a3.tmps R a3.defers u w3:=by
  intro u u' x hu hrun hsw hcl
  rw [k2]
  refine Bf hrun rs w3 k1 k3 fun w4 hU=>?_
  have H4:=H3.unmark hU
  have hA:AsRep ρ3 al3 (pvs js) cvals:=VR hp3 hjs g7
  have hlen:cvals.length≤gn.ntmps:=by
   have:∀ {js:List Nat} {vs:List Value},AsRep ρ1 al1 (pvs js) vs→vs.length=js.length:=by
    intro js
    induction js with
    | nil=>intro vs h;cases vs with
     | nil=>rfl
     | cons _ _=>exact h.elim
    | cons j js ih=>intro vs h;cases vs with
     | nil=>exact h.elim
     | cons v vs=>rw [List.length_cons,List.length_cons,ih h.2]
   rw [this g7];exact hjn
  have H4r:WRep ⟨B.S,al3.M,(List.range K).map ρ1,[],H4.w.gok⟩ w4 ρ3 al3 s3.h w4:=by
   have hr:=H4.w.rebase
   exact ⟨hr.base,hr.below,hr.blk,hr.own,hr.old,hr.apart,hr.mem,hr.memOwn,hr.memNew,hr.memOld,hr.pins⟩
  refine ⟨hrun,.inr ⟨fun h=>by simp [Fw,Fence.wide] at h,fv,cap,g,cvals.toArray,g5,g6 w4,fun _ _=>trivial,CallsDIn.mono (catches hgf hgb hop hog hod hgres rfl (by simp) H4r H3.al hA hlen htn hu hsw) ?_⟩⟩
  rintro e u2 w5 ⟨rfl,⟨v,rfl⟩,ρ5,al5,s5,hp,H5,hal5⟩
  show LeavesInM _ _ _ _ _ _ _ (settle _) _
  rw [hu.settle]
  obtain ⟨rs1,m1,m2,m3⟩:=H1.defers
  rw [hds,List.append_nil] at m2
  have hmk:∀ r∈rs1,w.heap.size≤r∧w5.heap[r]? = some (.deferred (some [])):=fun r hr=>⟨(m3 r hr).1,H5.below.others r _ (H4.w.below.others r _ (m3 r hr).2 rfl) rfl⟩
  rw [m2,← List.append_nil (rs1.map mark)]
  refine Bf (by simp) rs1 w5 m1 hmk fun w6 hU2=>?_
  have W5:WRep B w ρ5 al5 s5.h w5:=by
   have u1:WRep B1 w2 ρ5 al5 s5.h w5:=H4.w.unbase (g:=H4.w.gok) ⟨H5.base,H5.below,H5.blk,H5.own,H5.old,H5.apart,H5.mem,H5.memOwn,H5.memNew,H5.memOld,H5.pins⟩
   exact H1.w.unbase (g:=H1.w.gok) ⟨u1.base,u1.below,u1.blk,u1.own,u1.old,u1.apart,u1.mem,u1.memOwn,u1.memNew,u1.memOld,fun j l hj=>by
    have hj2:=(List.getElem?_eq_some_iff.1 hj).1
    rw [hpl] at hj2
    obtain ⟨p1,p2⟩:=H1.w.pins j l hj
    have p3:=H5.pins j _ (hpin (Nat.lt_of_lt_of_le hj2 hKK))
    exact ⟨p3.1,p3.2.trans p2⟩⟩
  have hp5:∀ j,j<K→al5 j∧ρ5 j=ρ3 j:=fun j hj=>by
   have:=H5.pins j _ (hpin hj)
   exact ⟨this.1,this.2.trans (hp3 j hj).2.symm⟩
  have R5:RepS fn.ntmps B w ρ5 al5 ⟨s5.nx,cells.map fun p=>(p.1,.s (.l (.p p.2 0 0))),s5.h⟩ { a3 with defers:=rs1.map mark } w5:=by
   refine ⟨H3.size,⟨rs1,m1,by rw [hds,List.append_nil],hmk⟩,?_,W5,hal5⟩
   intro k
   rcases tget_mem (t:=cells.map fun p=>(p.1,AV.s (.l (.p p.2 0 0)))) (k:=k) rfl with h | h
   ·rw [h];trivial
   ·obtain ⟨p,hp1,hp2⟩:=List.mem_map.1 h
    injection hp2 with e1 e2
    have h3:=H3.t k
    rw [← e1,hcl p hp1] at h3
    obtain ⟨b1,b2⟩:=hp5 p.2 (hck p hp1)
    rw [← e2,← e1]
    exact ⟨b1,by rw [b2];exact h3.2⟩
  obtain ⟨v,q1,q2⟩:=hret s5 ρ5 al5 _ w6 hp (R5.unmark hU2)
  exact ⟨v,q1,q2⟩
 cases e with
 | normal=>exact door .returning _ _ .none (by simp) (hc0 s3 hq) (hcell s3 hq)
 | ret=>exact door .returning _ _ .none (by simp) (hc0 s3 hq) (hcell s3 hq)
 | panic ch =>
  obtain ⟨x,rfl,hp⟩:=hq
  exact door _ _ _ (.some x) (by simp) (hc1 x s3 hp) (hcellp x s3 hp)
 | exit _=>exact hq.elim
 | goto _=>exact hq.elim
 | outgrown=>exact hq.elim
end
noncomputable section
def ptr1 (x:AV):Option Nat:=match x with
 | .s (.l (.p b 0 0))=>some b
 | _=>none
def YP (b:Option Nat) (r:Option (List Nat)):Option (List Nat):=match b with
 | some b=>match r with
  | some r=>some (b::r)
  | none=>none
 | none=>none
def M7 (l:List AV):Option (List Nat):=List.rec (motive:=fun _=>Option (List Nat)) (some []) (fun x _ ih=>YP (ptr1 x) ih) l
def Pe (l:List Nat):List Nat→List Nat:=List.rec (motive:=fun _=>List Nat→List Nat) (fun s=>s) (fun b _ ih s=>ih (cond (Jp s b) s (s++[b]))) l
def hasR (k:Option Blk):Bool:=match k with
 | some _=>true
 | none=>false
def Y4 (h:aF) (t:dy):dy:=(t.map fun p=>(p.1,MB t p.1)).filter fun p=>p.2.refs.all fun b=>hasR (Lc h b)
def refsT (t:dy):List Nat:=t.flatMap fun p=>p.2.refs
def renT (L:List Nat) (t:dy):dy:=t.map fun p=>(p.1,p.2.ren (ixR L))
def chkA (K K2:Nat) (L:List Nat) (t:dy) (ks:List Blk):Bool :=
 Ov L&&Td L (refsT t)&&Td L (ks.flatMap Blk.refs)&&WH (L.take K) (List.range K)&&Nat.ble K2 L.length&&Nat.ble K K2
def all3 (K K2:Nat) (L:List Nat) (t:dy) (ks:Option (List Blk)):Option St:=match ks with
 | some ks=>cond (chkA K K2 L t ks) (some ⟨L.length,renT L t,lX 0 (ks.map (·.ren (ixR L)))⟩) none
 | none=>none
def all2 (K K2:Nat) (h:aF) (t:dy) (L:Option (List Nat)):Option St:=match L with
 | some L=>all3 K K2 L t (JA h L)
 | none=>none
def all1 (K:Nat) (h:aF) (t:dy) (L0:List Nat) (ks:Option (List Blk)):Option St:=match ks with
 | some ks=>all2 K L0.length h t (Jc h 4000 (refsT t++ks.flatMap Blk.refs) L0)
 | none=>none
def allC (K:Nat) (L0:List Nat) (s:St):Option St:=all1 K s.h (Y4 s.h s.t) L0 (JA s.h L0)
end
theorem Yj {x:AV} {b:Nat} (h:ptr1 x=some b):x=.s (.l (.p b 0 0)):=by
 unfold ptr1 at h
 split at h
 ·injection h with h;subst h;rfl
 ·cases h
theorem I7:∀ {l:List AV} {bs:List Nat},M7 l=some bs→l=pvs bs
 | [],bs,h=>by injection h with h;subst h;rfl
 | x::l,bs,h=>by
  have h:YP (ptr1 x) (M7 l)=some bs:=h
  unfold YP at h
  split at h
  case h_2=>cases h
  rename_i b hb
  split at h
  case h_2=>cases h
  rename_i r hr
  injection h with h
  subst h
  rw [Yj hb,I7 hr]
  rfl
theorem V0 {t:dy}:∀ {ks:List Tmp} {bs:List Nat},ks.map (MB t)=pvs bs→∀ p∈ks.zip bs,aW t p.1=.s (.l (.p p.2 0 0))
 | [],bs,_,p,hp=>by simp at hp
 | k::ks,[],h,p,hp=>by simp at hp
 | k::ks,b::bs,h,p,hp=>by
  simp only [List.map_cons,pvs] at h
  injection h with h1 h2
  rw [List.zip_cons_cons,List.mem_cons] at hp
  rcases hp with rfl | hp
  ·rw [← LX];exact h1
  ·exact V0 h2 p hp
theorem zip_snd:∀ {ks:List Tmp} {bs:List Nat} {p:Tmp×Nat},p∈ks.zip bs→p.2∈bs:=fun h=>(List.of_mem_zip h).2
theorem allC_ok {K:Nat} {L0:List Nat} {s s1:St} (h:allC K L0 s=some s1):K≤L0.length∧Wk ⟨none,K⟩ s s1∧∀ j,j<L0.length→∃ k,hget s1.h j=some k:=by
 unfold allC all1 at h
 split at h
 case h_2=>cases h
 unfold all2 at h
 split at h
 case h_2=>cases h
 rename_i L hL
 unfold all3 at h
 split at h
 case h_2=>cases h
 rename_i ks hks
 cases hc:chkA K L0.length L (Y4 s.h s.t) ks
 ·rw [hc] at h;cases h
 ·rw [hc] at h
  injection h with h
  subst h
  unfold chkA at hc
  simp only [Bool.and_eq_true] at hc
  obtain ⟨⟨⟨⟨⟨c1,c2⟩,c3⟩,c4⟩,c5⟩,c6⟩:=hc
  have c2:=Jm c2
  have c3:=Jm c3
  have c4:=MA c4
  have c5:=Nat.le_of_ble_eq_true c5
  have c6:=Nat.le_of_ble_eq_true c6
  obtain ⟨g1,g2⟩:=MU hks
  refine ⟨c6,Wk.ren L (fun j hj=>?_) (Nat.le_refl _) (LA c1) ?_ ?_,fun j hj=>?_⟩
  ·have:(L.take K)[j]? = some j:=by rw [c4,List.getElem?_range hj]
   rwa [List.getElem?_take_of_lt hj] at this
  ·intro p hp
   obtain ⟨q,hq,rfl⟩:=List.mem_map.1 hp
   obtain ⟨q0,hq0,rfl⟩:=List.mem_map.1 (List.mem_filter.1 hq).1
   show aW s.t q0.1=_
   rw [AV.back (JK fun b hb=>c2 b (List.mem_flatMap.2 ⟨_,hq,hb⟩)),LX]
  ·intro p hp k hkp
   rw [JI] at hp
   obtain ⟨i,h1,h2⟩:=LW hp
   rw [hkp,List.map_map,List.getElem?_map,Option.map_eq_some_iff] at h1
   obtain ⟨k0,h1,h3⟩:=h1
   simp only [Function.comp,Option.some.injEq] at h3
   subst h3
   have hm:=List.mem_of_getElem? h1
   rw [Blk.back (JK fun b hb=>c3 b (List.mem_flatMap.2 ⟨k0,hm,hb⟩))]
   have hil:i<ks.length:=(List.getElem?_eq_some_iff.1 h1).1
   have hLi:L[i]? = some (L[i]'(by rw [← g1];exact hil)):=List.getElem?_eq_getElem _
   show hget s.h (L.getD p.1 s.nx)=_
   rw [h2,Nat.zero_add,List.getD_eq_getElem?_getD,hLi]
   exact g2 i _ k0 hLi h1
  ·have hj2:j<ks.length:=by rw [g1];exact Nat.lt_of_lt_of_le hj c5
   have key:∀ (l:List Blk) (i j:Nat) (k:Blk),l[j]? = some k→hget (lX i l) (i+j)=some k:=by
    intro l
    induction l with
    | nil=>intro i j k hk;simp at hk
    | cons x l ih =>
     intro i j k hk
     cases j with
     | zero =>
      simp only [List.getElem?_cons_zero,Option.some.injEq] at hk
      subst hk
      show hget ((i,some x)::lX (i+1) l) i=_
      rw [hget,if_pos rfl]
     | succ j =>
      show hget ((i,some x)::lX (i+1) l) (i+(j+1))=_
      rw [hget,if_neg (by omega)]
      have:=ih (i+1) j k (by simpa using hk)
      rwa [show i+1+j=i+(j+1) from by omega] at this
   have:=key (ks.map (·.ren (ixR L))) 0 j ((ks[j]).ren (ixR L)) (by rw [List.getElem?_map,List.getElem?_eq_getElem hj2];rfl)
   exact ⟨_,by rwa [Nat.zero_add] at this⟩
structure Df (P:Program) where
 f:FuncId
 fn:Func
 c0:Code
 D:Code
 rest:Code
 g:FuncId
 gn:Func
 rid:Nat
 o:Oper
 t:Tmp
 grest:Code
 hf:P.funcs[f]? = some fn
 hb:fn.body=some (.seq c0 (.seq D rest))
 hgf:P.funcs[g]? = some gn
 hgb:gn.body=some (.seq (.region rid #[o] false) grest)
 hop:o.op=.call { callee:=.builtin .recover,args:=#[],argTypes:=#[] }
 hog:o.guard=none
 hod:o.dst=some t
 hgres:gn.results = #[]
 htn:t<gn.ntmps
 hen:∀ (args:Array Value) (w:World),(callFunc f args).run P w=.ok (.enter f args) w
 caps:List Operand
 t2:dy→dy
 lays:∀ (s1:St) (js:List Nat),caps.map (evT s1.t)=pvs js→Lays P fn.ntmps D s1 (t2 s1.t) g js
 cells:List Tmp
abbrev BdK:=Nat→St→Cx
noncomputable section
variable {P:Program}
def dfRet (s:St) (cells:dy) (k:XK):Cx:=match k with
 | .norm=>.go .ret ⟨s.nx,cells,s.h⟩
 | .ret=>.go .ret ⟨s.nx,cells,s.h⟩
 | _=>.no 41
def Yo (cells:dy) (o:Cx):Cx:=match o with
 | .go k s=>dfRet s cells k
 | .no e=>.no e
def caughtV (k:XK):Option Value:=match k with
 | .norm=>some .nilIface
 | .ret=>some .nilIface
 | .pn v=>some v
 | .ex _=>none
def cellsT (ks:List Tmp) (bs:List Nat):dy:=(ks.zip bs).map fun p=>(p.1,.s (.l (.p p.2 0 0)))
def df7 (d:Df P) (gbd:Bd) (js cs:List Nat) (s3:St) (x:Option Value):Cx:=match x with
 | some x=>Yo (cellsT d.cells cs) (gbd ⟨s3.nx,(d.t,.s (.l (.v x)))::aN 0 (pvs js),s3.h⟩)
 | none=>.no 42
def df6 (d:Df P) (gbd:Bd) (js cs:List Nat) (k:XK) (s3:St) (cs2:Option (List Nat)):Cx:=match cs2 with
 | some cs2=>cond (WH cs cs2) (df7 d gbd js cs s3 (caughtV k)) (.no 43)
 | none=>.no 44
def df5 (d:Df P) (gbd:Bd) (js cs:List Nat) (o:Cx):Cx:=match o with
 | .go k s3=>df6 d gbd js cs k s3 (M7 (d.cells.map (MB s3.t)))
 | .no e=>.no e
def df4 (d:Df P) (rbd gbd:Bd) (K2:Nat) (s1:St) (js:List Nat) (cs:Option (List Nat)):Cx:=match cs with
 | some cs=>cond (js.all (Nat.blt · K2)&&cs.all (Nat.blt · K2)&&Nat.ble js.length d.gn.ntmps) (df5 d gbd js cs (rbd ⟨s1.nx,d.t2 s1.t,s1.h⟩)) (.no 45)
 | none=>.no 46
def df3 (d:Df P) (rbd gbd:Bd) (K2:Nat) (s1:St) (js:Option (List Nat)):Cx:=match js with
 | some js=>df4 d rbd gbd K2 s1 js (M7 (d.cells.map (MB s1.t)))
 | none=>.no 47
def df2 (d:Df P) (rbd gbd:Bd) (K2:Nat) (s1:Option St):Cx:=match s1 with
 | some s1=>df3 d rbd gbd K2 s1 (M7 (d.caps.map (evR s1.t)))
 | none=>.no 48
def df1 (d:Df P) (rbd gbd:Nat→Bd) (K:Nat) (s:St) (l:Option (List Nat)):Cx:=match l with
 | some l=>df2 d (rbd (Pe l (List.range K)).length) (gbd (Pe l (List.range K)).length) (Pe l (List.range K)).length (allC K (Pe l (List.range K)) s)
 | none=>.no 49
def dfK (d:Df P) (rbd gbd:Nat→Bd) (K:Nat) (k:XK) (s:St):Cx:=match k with
 | .norm=>df1 d rbd gbd K s (M7 (d.caps.map (evR s.t)++d.cells.map (MB s.t)))
 | _=>.no 40
def df0 (d:Df P) (rbd gbd:Nat→Bd) (K:Nat) (o:Cx):Cx:=match o with
 | .go k s=>dfK d rbd gbd K k s
 | .no e=>.no e
def dfBd (d:Df P) (bd rbd gbd:Nat→Bd):BdK:=fun K s=>df0 d rbd gbd K (bd K s)
end
def BdOk (P:Program) (f:FuncId) (fn:Func) (bd:BdK):Prop :=
 ∀ K s k s',bd K s=.go k s'→(∀ i,k≠.ex i)→∀ {B:fG} {w:World} {ρ:Nat→Loc} {al:Al} {vals:List Value} {R:Ending→World→Prop},B.pl.length=K→B.ds=[] →
  RepS fn.ntmps B w ρ al s { tmps:=vals.toArray++Array.replicate (fn.ntmps-vals.toArray.size) undef,defers:=[] } w →
  ((k=.norm∨k=.ret)→∀ ρ al a w1,RepS fn.ntmps B w ρ al s' a w1→∃ v,(results fn a.tmps).run P w1=.ok v w1∧R (.returned v) w1) →
  (∀ x,k=.pn x→∀ ρ al a w1,RepS fn.ntmps B w ρ al s' a w1→R (.panicked [{ v:=x,recovered:=false }]) w1)→Calls P f vals.toArray w R
section
variable {P:Program}
theorem XL {f:FuncId} {fn:Func} {c:Code} (hf:P.funcs[f]? = some fn) (hb:fn.body=some c) {bd:BdK} (hbd:∀ K s k s',bd K s=.go k s'→SW P ⟨none,K⟩ fn.ntmps c s (isQ k s')):BdOk P f fn bd:=by
 intro K s k s' h hk B w ρ al vals R hpl hds H hret hpan
 refine FG (K:=K) (s0:=s) (post:=fun z=>(k=.norm∨k=.ret)∧z=s') (pp:=fun x z=>k=.pn x∧z=s') hf hb hpl hds H ((hbd K _ _ _ h).mono ?_) ?_ ?_
 ·rintro e z ⟨rfl,rfl⟩
  cases k with
  | norm=>exact ⟨.inl rfl,rfl⟩
  | ret=>exact ⟨.inr rfl,rfl⟩
  | ex i=>exact absurd rfl (hk i)
  | pn v=>exact ⟨v,rfl,rfl,rfl⟩
 ·rintro z ρ1 al1 a w1 ⟨h1,rfl⟩ HS
  exact hret h1 _ _ _ _ HS
 ·rintro x z ρ1 al1 a w1 ⟨h1,rfl⟩ HS
  exact hpan x h1 _ _ _ _ HS
theorem ZK {cells:dy} {o:Cx} {k:XK} {s':St} (h:Yo cells o=.go k s'):∃ k4 s4,o=.go k4 s4∧(k4=.norm∨k4=.ret)∧k=.ret∧s'=⟨s4.nx,cells,s4.h⟩:=by
 unfold Yo at h
 cases o with
 | no e=>cases h
 | go k4 s4 =>
  simp only at h
  unfold dfRet at h
  cases k4 with
  | norm=>injection h with h1 h2;exact ⟨_,_,rfl,.inl rfl,h1.symm,h2.symm⟩
  | ret=>injection h with h1 h2;exact ⟨_,_,rfl,.inr rfl,h1.symm,h2.symm⟩
  | _=>cases h
theorem aaw (d:Df P) {bd rbd gbd:Nat→Bd} (h0:∀ K s k s',bd K s=.go k s'→SW P ⟨none,K⟩ d.fn.ntmps d.c0 s (isQ k s'))
  (h1:∀ K s k s',rbd K s=.go k s'→SW P ⟨none,K⟩ d.fn.ntmps d.rest s (isQ k s')) (h2:∀ K s k s',gbd K s=.go k s'→SW P ⟨none,K⟩ d.gn.ntmps d.grest s (isQ k s')):BdOk P d.f d.fn (dfBd d bd rbd gbd):=by
 intro K s k s' h hk B w ρ al vals R hpl hds H hret hpan
 unfold dfBd df0 at h
 cases hr0:bd K s with
 | no e=>rw [hr0] at h;cases h
 | go k0 sa =>
 rw [hr0] at h
 simp only at h
 unfold dfK at h
 cases k0 with
 | ret=>cases h
 | ex i=>cases h
 | pn v=>cases h
 | norm =>
 simp only at h
 unfold df1 at h
 split at h
 case h_2=>cases h
 rename_i l hl
 obtain ⟨L0,hL0⟩:∃ L0,Pe l (List.range K)=L0:=⟨_,rfl⟩
 rw [hL0] at h
 unfold df2 at h
 split at h
 case h_2=>cases h
 rename_i s1 hs1
 obtain ⟨hKK,hwk,hK⟩:=allC_ok hs1
 unfold df3 at h
 split at h
 case h_2=>cases h
 rename_i js hjs
 have hjs:=I7 hjs
 unfold df4 at h
 split at h
 case h_2=>cases h
 rename_i cs hcs
 have hcs:=I7 hcs
 cases hc:js.all (Nat.blt · L0.length)&&cs.all (Nat.blt · L0.length)&&Nat.ble js.length d.gn.ntmps
 ·rw [hc] at h;cases h
 rw [hc] at h
 simp only [Bool.and_eq_true] at hc
 obtain ⟨⟨c1,c2⟩,c3⟩:=hc
 simp only [cond_true] at h
 unfold df5 at h
 cases hr1:rbd L0.length ⟨s1.nx,d.t2 s1.t,s1.h⟩ with
 | no e=>rw [hr1] at h;cases h
 | go k3 s3 =>
 rw [hr1] at h
 simp only at h
 unfold df6 at h
 split at h
 case h_2=>cases h
 rename_i cs2 hcs2
 have hcs2:=I7 hcs2
 cases he:WH cs cs2
 ·rw [he] at h;cases h
 rw [he] at h
 simp only [cond_true] at h
 have he:=MA he
 subst he
 unfold df7 at h
 split at h
 case h_2=>cases h
 rename_i x hx
 obtain ⟨k4,s4,hr2,hk4,rfl,rfl⟩:=ZK h
 have hdone:SW P ⟨none,L0.length⟩ d.gn.ntmps d.grest ⟨s3.nx,(d.t,.s (.l (.v x)))::aN 0 (pvs js),s3.h⟩ (Mm (fun z=>z=s4) fun _ _=>False):=(h2 _ _ _ _ hr2).mono (by
  rintro e z ⟨rfl,rfl⟩
  rcases hk4 with rfl | rfl<;>rfl)
 have hzip:=V0 hcs2
 refine RH (K0:=K) (K:=L0.length) (s0:=s) (s1:=s1) (t2:=d.t2 s1.t) (js:=js) (cells:=d.cells.zip cs)
  (post:=fun z=>(k3=.norm∨k3=.ret)∧z=s3) (pp:=fun y z=>k3=.pn y∧z=s3) (post2:=fun z=>z=s4)
  d.hf d.hb d.hgf d.hgb d.hop d.hog d.hod d.hgres d.htn hKK (fun j hj=>?_) (Nat.le_of_ble_eq_true c3) (fun p hp=>?_) hpl hds H ((h0 K _ _ _ hr0).mono ?_) (d.lays s1 js (by rw [← Rr];exact hjs)) hK ((h1 _ _ _ _ hr1).mono ?_) ?_ ?_ ?_ ?_ ?_
 ·have:=List.all_eq_true.1 c1 j hj
  simpa [Nat.blt_eq] using this
 ·have:=List.all_eq_true.1 c2 _ (zip_snd hp)
  simpa [Nat.blt_eq] using this
 ·rintro e z ⟨rfl,rfl⟩
  exact ⟨rfl,hwk⟩
 ·rintro e z ⟨rfl,rfl⟩
  cases k3 with
  | norm=>exact ⟨.inl rfl,rfl⟩
  | ret=>exact ⟨.inr rfl,rfl⟩
  | ex i=>cases hx
  | pn v=>exact ⟨v,rfl,rfl,rfl⟩
 ·rintro z ⟨-,rfl⟩
  exact hzip
 ·rintro y z ⟨-,rfl⟩
  exact hzip
 ·rintro z ⟨h3,rfl⟩
  have:x=.nilIface:=by
   rcases h3 with rfl | rfl<;>exact (Option.some.inj hx).symm
  rw [← this]
  exact hdone
 ·rintro y z ⟨rfl,rfl⟩
  have:x=y:=(Option.some.inj hx).symm
  rw [← this]
  exact hdone
 ·rintro z ρ1 al1 a w1 rfl HS
  exact hret (.inr rfl) _ _ _ _ HS
end
end
end Go.Proofs.YthcoegkfpinlfaaGreatDoor
