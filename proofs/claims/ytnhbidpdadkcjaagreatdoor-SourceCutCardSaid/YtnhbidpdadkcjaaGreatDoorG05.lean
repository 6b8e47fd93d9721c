import Derived.Test.YtnhbidpdadkcjaaGreatDoorG03
import Derived.Orders
import Derived.OrdersIn
open Go.RowKit
set_option linter.unusedVariables false
set_option linter.unusedSimpArgs false
set_option maxRecDepth 100000
set_option maxHeartbeats 8000000
open List (map_cons cons_append map_congr_left getD_eq_getElem?_getD getElem?_eq_getElem map_map all_cons)
open Option (getD_some map_some)
open Nat (lt_or_ge)
open Bool (not_eq_true' or_eq_true and_eq_true)
namespace Go.Proofs.YtnhbidpdadkcjaaGreatDoor
structure St where
 nx:Nat
 t:cK
 h:ag
def evT (t:cK):Operand→AV
 |.tmp k=>bI t k
 |.const v=>match v with
  |.agg cs=>if cs.toList.all (·.oneCell') then .s (.agg (cs.toList.map .v)) else .s (.l .any)
  |v=>.s (.l (.v v))
 |.global _=>.s (.l .any)
 |.func f=>.s (.l (.v (.func (.func f) #[] #[])))
def putT (t:cK):Option Tmp→AV→cK
 |none,_=>t
 |some d,r=>(d,r)::t
def bC (n:Nat):Option Tmp→Bool
 |none=>true
 |some d=>decide (d<n)
structure Cf where
 ro:Option Nat
 K:Nat
def Fw (ro:Cf):Fence:={ Fence.wide with round:=ro.ro }
theorem uA (ro:Cf)(n:Nat):(Fw ro).room n:=fun d hd=>by simp[Fw,Fence.wide]at hd
theorem ES {P:Program}{ro:Cf}{m m':Machine}:StepsIn (Machine.fenced P (Fw ro)) P m m'↔Steps P m m':=stepsIn_wide
theorem gS {ro:Cf}{n:Nat}{P:Program}{f:FuncId}{args:Array Value}{w:World}{R:Ending→World→Prop}:CallsIn (Fw ro) n P f args w R↔Calls P f args w R:=callsIn_wide
def mark (r:Nat):Deferred:={ target:=.collected r,args:=#[] }
def Marks (N:Nat)(d0 ds:List Deferred)(w:World):Prop:=∃rs:List Nat,rs.Nodup∧ds=rs.map mark++d0∧∀r∈rs,N≤r∧w.heap[r]? = some (.deferred (some []))
theorem Marks.nil (N:Nat)(d0:List Deferred)(w:World):Marks N d0 d0 w:=⟨[],List.nodup_nil,rfl,by simp⟩
theorem Marks.keep {N:Nat}{d0 ds:List Deferred}{w w':World}(h:Marks N d0 ds w)(hk:KeepsD w w'):Marks N d0 ds w':=by
 obtain⟨rs,h1,h2,h3⟩:=h;exact⟨rs,h1,h2,fun r hr=>⟨(h3 r hr).1,hk.same r _ (h3 r hr).2 rfl⟩⟩
structure RepS (n:Nat)(B:cX)(w0:World)(ρ:Nat→Loc)(al:Al)(s:St)(a:Act)(w:World):Prop where
 size:a.tmps.size=n
 defers:Marks w0.heap.size B.ds a.defers w
 t:TRep ρ al s.t a.tmps
 w:WRep B w0 ρ al s.h w
 al:∀b,al b→b<s.nx
section
variable {P:Program}{ctx:Ctx P}{ro:Cf}{n:Nat}{B:cX}{w0:World}{ρ:Nat→Loc}{al:Al}{s:St}{a:Act}{w:World}
theorem gJ {t:cK}(h:TRep ρ al t a.tmps):∀x,ARep ρ al (evT t x) (a.eval x):=by
 intro x;cases x with
 |tmp k=>exact h k
 |const v =>
  simp only[evT];split
  ·rename_i cs;split
   ·rename_i hc;exact⟨cs.toList,by simp[Act.eval],qJ (List.all_eq_true.1 hc)⟩
   ·trivial
  ·exact rfl
 |global g=>trivial
 |func f=>exact rfl
theorem TRep.putT {t:cK}(h:TRep ρ al t a.tmps)(hn:a.tmps.size=n){d:Option Tmp}(hd:bC n d=true){x:AV}{y:Value}(hx:ARep ρ al x y):TRep ρ al (putT t d x) (a.put d y).tmps:=by
 cases d with
 |none=>exact h
 |some d=>exact h.put (by rw[hn];simpa[bC] using hd) hx
theorem gD {d:Option Tmp}{v:Value}:(a.put d v).tmps.size=a.tmps.size:=by cases d<;>simp[Act.put]
theorem cT {d:Option Tmp}{v:Value}:(a.put d v).defers=a.defers:=by cases d<;>rfl
theorem tv {id:Nat}{o:Op}{ev:Operand→AV}{h:ag}{R:Res}(hs:aOp P ctx id o ev h=some R):∀c,o≠.defer c:=by
 rintro c rfl;simp only[aOp]at hs;cases hs
theorem y4 (H:RepS n B w0 ρ al s a w){o:Oper}{R:Res}{Q:Exit→Act→World→Prop}{K:Act→World→Prop}(hs:aOp P ctx s.nx o.op (evT s.t) s.h=some R)(hob:R.ob)(hd:bC n o.dst=true)
  (hK:∀ρ' al' a' w',RepS n B w0 ρ' al' ⟨s.nx+16,putT s.t o.dst R.r,R.E++s.h⟩ a' w'→K a' w'):o.wpIn (Fw ro) 0 P a w K Q:=by
 have hid:∀b,s.nx≤b→b<s.nx+16→¬al b:=fun b h1 _ h2=>by have:=H.al b h2;omega
 have hal:∀{b},alW al s.nx b→b<s.nx+16:=by
  rintro b (hb | hb)
  ·have:=H.al b hb;omega
  ·exact hb.2
 have fin:∀v w' ρ' al',Ext ρ ρ' al al'→(∀b,al' b→alW al s.nx b)→ARep ρ' al' R.r v→WRep ⟨B.S,al.M,B.pl,B.ds,H.w.gok⟩ w ρ' al' (R.E++s.h) w'→K (a.put o.dst v) w':=fun v w' ρ' al' hE hsub hr hw =>
  hK ρ' _ _ _ ⟨gD.trans H.size,(by rw[cT];exact H.defers.keep hw.below.kept),(H.t.ext hE).putT H.size hd hr,H.w.unbase hw,fun b hb=>hal (hsub b hb)⟩
 refine⟨fun _ _=>trivial,?_⟩;rw[Oper.semAt_eq _ _ _ (tv hs)];rcases aOp_runs H.w.rebase (gJ H.t) hid hs hob with ⟨m,v,w',ρ',hr,hm,hE,hA,hw⟩ | ⟨g,args,vals,hr,sp,hrun,vs,rfl,hA⟩
 ·rw[hr];rcases hm with rfl | ⟨rfl,rfl⟩
  ·exact fin v w' ρ' _ hE (fun _ hb=>hb) hA hw
  ·exact fin undef w' ρ' _ hE (fun _ hb=>hb) hA hw
 ·rw[hr];refine⟨fun h=>by simp[Fw,Fence.wide]at h,gS.2 (Calls.mono (sp.sound hrun hob vs H.w.rebase hid hA) ?_)⟩;rintro e w' ⟨v,ρ',al',rfl,hE,hsub,hr',hw⟩;exact fin v w' ρ' al' hE hsub hr' hw
theorem uu (H:RepS n B w0 ρ al s a w){o:Oper}{ob:Prop}{x:Value}{E:ag}{Q:Exit→Act→World→Prop}{K:Act→World→Prop}(hs:qS P ctx s.nx o.op (evT s.t) s.h=some (ob,x,E))(hob:ob)
  (hQ:∀ρ' al' w',RepS n B w0 ρ' al' ⟨s.nx+16,s.t,E++s.h⟩ a w'→Q (.panic [{ v:=x,recovered:=false }]) a w'):o.wpIn (Fw ro) 0 P a w K Q:=by
 have hid:∀b,s.nx≤b→b<s.nx+16→¬al b:=fun b h1 _ h2=>by have:=H.al b h2;omega
 have hal:∀{b},alW al s.nx b→b<s.nx+16:=by
  rintro b (hb | hb)
  ·have:=H.al b hb;omega
  ·exact hb.2
 have hnd:∀c,o.op≠.defer c:=by
  intro c hc;rw[hc]at hs;simp only[qS]at hs;cases hs
 refine⟨fun _ _=>trivial,?_⟩;rw[Oper.semAt_eq _ _ _ hnd];rcases aPan_runs (w:=w) (gJ H.t) hs with ⟨hr,rfl⟩ | ⟨g,args,vals,hr,sp,hrun,vs,rfl,hA⟩
 ·rw[hr];exact hQ ρ al w ⟨H.size,H.defers,H.t,H.w,fun b hb=>by have:=H.al b hb;show b<s.nx+16;omega⟩
 ·rw[hr];refine⟨fun h=>by simp[Fw,Fence.wide]at h,gS.2 (Calls.mono (sp.psound hrun hob vs H.w.rebase hid hA) ?_)⟩;rintro e w' ⟨ρ',al',rfl,hE,hsub,hw⟩;exact hQ ρ' al' w' ⟨H.size,H.defers.keep hw.below.kept,H.t.ext hE,H.w.unbase hw,fun b hb=>hal (hsub b hb)⟩
def gAt (ops:List Oper)(t:cK)(j:Nat):AV :=
 match ops[j]? with
 |some o=>match o.dst with
  |some d=>bI t d
  |none=>.s (.l .any)
 |none=>.s (.l .any)
def iu (ops:List Oper)(t:cK)(j:Nat)(b:Bool):cK :=
 match ops[j]? with
 |some o=>match o.dst with
  |some d=>(d,.s (.l (.v (.bool b))))::t
  |none=>t
 |none=>t
theorem Ct {ops:List Oper}{t:cK}(h:TRep ρ al t a.tmps){j:Nat}{q:Bool}(hg:gAt ops t j=.s (.l (.v (.bool q)))):TRep ρ al (iu ops t j q) a.tmps:=by
 unfold gAt at hg;unfold iu;split at hg
 case h_2=>cases hg
 rename_i o ho;split at hg
 case h_2=>cases hg
 rename_i d hd;intro k;rw[bI];split
 ·rename_i e;subst e;have:=h d;rw[hg]at this;exact this
 ·exact h k
theorem mQ:ARep ρ al (.s (.l (.v (.tuple #[])))) undef:=rfl
theorem vz {ops:List Oper}{t:cK}(h:TRep ρ al t a.tmps){j:Nat}(hg:gAt ops t j=.s (.l (.v (.tuple ⟨[]⟩)))):yielded ops.toArray a.tmps j=none:=by
 unfold gAt at hg;split at hg
 case h_2=>cases hg
 rename_i o ho;split at hg
 case h_2=>cases hg
 rename_i d hd;have:=h d;rw[hg]at this;have hv:a.tmps.getD d undef=.tuple ⟨[]⟩:=this;have ho':ops.toArray[j]? = some o:=by simpa using ho
 simp only[yielded,ho',Option.bind_some,hd];rcases lt_or_ge d a.tmps.size with hlt | hlt
 ·rw[Array.getD_eq_getD_getElem?,Array.getElem?_eq_getElem hlt]at hv;simp only[getD_some]at hv;simp only[Array.getElem?_eq_getElem hlt,hv]
 ·simp only[Array.getElem?_eq_none hlt]
theorem sC {ops:List Oper}{t:cK}(h:TRep ρ al t a.tmps)(hn:a.tmps.size=n){j:Nat}{q:Bool}(hg:gAt ops t j=.s (.l (.v (.bool q)))):yielded ops.toArray a.tmps j=some q:=by
 unfold gAt at hg;split at hg
 case h_2=>cases hg
 rename_i o ho;split at hg
 case h_2=>cases hg
 rename_i d hd;have:=h d;rw[hg]at this;have hv:a.tmps.getD d undef=.bool q:=this
 have hlt:d<a.tmps.size:=by
  rcases lt_or_ge d a.tmps.size with h1 | h1
  ·exact h1
  ·rw[Array.getD_eq_getD_getElem?,Array.getElem?_eq_none h1]at hv;cases hv
 rw[Array.getD_eq_getD_getElem?,Array.getElem?_eq_getElem hlt]at hv;simp only[getD_some]at hv;simp[yielded,ho,hd,Array.getElem?_eq_getElem hlt,hv]
end
def SW (P:Program)(ro:Cf)(n:Nat)(c:Code)(s:St)(Q:Exit→St→Prop):Prop :=
 ∀B w0 ρ al a w,B.pl.length=ro.K→RepS n B w0 ρ al s a w→c.wpIn (Fw ro) 0 P (fun e a' w'=>∃ρ' al' s',RepS n B w0 ρ' al' s' a' w'∧Q e s') a w
def Uf (K:St→Prop)(Q:Exit→St→Prop):Exit→St→Prop
 |.normal,s=>K s
 |e,s=>Q e s
section
variable {P:Program}{ctx:Ctx P}{ro:Cf}{n:Nat}{s:St}{Q Q':Exit→St→Prop}
theorem SW.mono {c:Code}(h:SW P ro n c s Q)(hq:∀e s,Q e s→Q' e s):SW P ro n c s Q' :=
 fun B w0 ρ al a w hpl H=>wpIn_mono (h B w0 ρ al a w hpl H) fun _ _ _ ⟨ρ',al',s',H',q⟩=>⟨ρ',al',s',H',hq _ _ q⟩
theorem zZ {x y:Code}(h:SW P ro n x s (Uf (fun s'=>SW P ro n y s' Q) Q)):SW P ro n (.seq x y) s Q:=by
 intro B w0 ρ al a w hpl H;refine wpIn_seq (wpIn_mono (h B w0 ρ al a w hpl H) ?_);rintro e a' w' ⟨ρ',al',s',H',q⟩;cases e with
 |normal=>exact q B w0 ρ' al' a' w' hpl H'
 |_=>exact⟨ρ',al',s',H',q⟩
inductive Itm where
 |c (x:Code)
 |o (all rest:List Oper)
 |b (id:Nat)
def fh (id:Nat):List Itm→Option (List Itm)
 |.b j::r=>if j=id then some r else fh id r
 |.c _::r=>fh id r
 |.o _ _::r=>fh id r
 |[]=>none
noncomputable def aQ (P:Program) (ctx:Ctx P) (ro:Cf) (n:Nat):Nat→List Itm→St→(Exit→St→Prop)→Prop
 |0,_,_,_=>False
 |_+1,[],s,Q=>Q .normal s
 |f+1,.b _::r,s,Q=>aQ P ctx ro n f r s Q
 |f+1,.o _ []::r,s,Q=>aQ P ctx ro n f r s Q
 |f+1,.o all (o::l)::r,s,Q=>match o.guard with
  |none=>match qS P ctx s.nx o.op (evT s.t) s.h with
   |some (ob,x,E)=>ob∧Q (.panic [{ v:=x,recovered:=false }]) ⟨s.nx+16,s.t,E++s.h⟩
   |none=>match aOp P ctx s.nx o.op (evT s.t) s.h with
    |some R=>bC n o.dst=true∧R.ob∧aQ P ctx ro n f (.o all l::r) ⟨s.nx+16,putT s.t o.dst R.r,R.E++s.h⟩ Q
    |none=>False
  |some (j,want)=>match gAt all s.t j with
   |.s (.l (.v (.bool q)))=>bC n o.dst=true ∧
     (q=want→match qS P ctx s.nx o.op (evT (iu all s.t j want)) s.h with
      |some (ob,x,E)=>ob∧Q (.panic [{ v:=x,recovered:=false }]) ⟨s.nx+16,iu all s.t j want,E++s.h⟩
      |none=>match aOp P ctx s.nx o.op (evT (iu all s.t j want)) s.h with
       |some R=>bC n o.dst=true∧R.ob∧aQ P ctx ro n f (.o all l::r) ⟨s.nx+16,putT (iu all s.t j want) o.dst R.r,R.E++s.h⟩ Q
       |none=>False) ∧
     (q = !want→aQ P ctx ro n f (.o all l::r) ⟨s.nx,putT (iu all s.t j (!want)) o.dst (.s (.l (.v (.tuple #[])))),s.h⟩ Q)
   |.s (.l (.v (.tuple ⟨[]⟩)))=>bC n o.dst=true∧aQ P ctx ro n f (.o all l::r) ⟨s.nx,putT s.t o.dst (.s (.l (.v (.tuple #[])))),s.h⟩ Q
   |_=>False
 |f+1,.c x::r,s,Q=>match x with
  |.skip=>aQ P ctx ro n f r s Q
  |.label _=>aQ P ctx ro n f r s Q
  |.ret=>Q .ret s
  |.exit id=>match fh id r with
   |some r'=>aQ P ctx ro n f r' s Q
   |none=>Q (.exit id) s
  |.seq x y=>aQ P ctx ro n f (.c x::.c y::r) s Q
  |.cond c x y=>match evT s.t c with
   |.s (.l (.v (.bool q)))=>(q=true→aQ P ctx ro n f (.c x::r) s Q)∧(q=false→aQ P ctx ro n f (.c y::r) s Q)
   |_=>False
  |.block id x=>aQ P ctx ro n f (.c x::.b id::r) s Q
  |.region _ ops false=>aQ P ctx ro n f (.o ops.toList ops.toList::r) s Q
  |x=>SW P ro n x s (fun e s'=>match e with
   |.normal=>aQ P ctx ro n f r s' Q
   |.exit id=>match fh id r with
    |some r'=>aQ P ctx ro n f r' s' Q
    |none=>Q (.exit id) s'
   |e=>Q e s')
def Itm.item:Itm→Item
 |.c x=>.code x
 |.b id=>.inBlock id
 |.o _ _=>.code .skip
def noO:List Itm→Bool
 |[]=>true
 |.o _ _::_=>false
 |_::r=>noO r
theorem kA {id:Nat}:∀{r r':List Itm},noO r=true→fh id r=some r'→noO r'=true
 |[],_,_,h=>by cases h
 |.o _ _::_,_,h,_=>by cases h
 |.c _::r,r',h,hp=>kA (r:=r) h hp
 |.b j::r,r',h,hp=>by
  simp only[fh]at hp;split at hp
  ·injection hp with hp;subst hp;exact h
  ·exact kA (r:=r) h hp
theorem exitTo_pop {id:Nat}(k:List Item):∀{r:List Itm},noO r=true→exitTo id (r.map Itm.item++k)=match fh id r with
  |some r'=>some (r'.map Itm.item++k)
  |none=>exitTo id k
 |[],_=>rfl
 |.o _ _::_,h=>by cases h
 |.c _::r,h=>by simpa[exitTo,Itm.item,fh] using exitTo_pop k (r:=r) h
 |.b j::r,h=>by
  simp only[map_cons,Itm.item,cons_append,exitTo,fh];by_cases e:j=id
  ·simp[e]
  ·have:(j==id)=false:=by simpa using e
   simp only[this,if_neg e];simpa using exitTo_pop k (r:=r) h
theorem gotoIn_pop {l:Nat}(k:List Item):∀{r:List Itm},noO r=true→gotoIn l (r.map Itm.item++k)=gotoIn l k
 |[],_=>rfl
 |.o _ _::_,h=>by cases h
 |.c _::r,h=>by simpa[gotoIn,Itm.item] using gotoIn_pop k (r:=r) h
 |.b j::r,h=>by simpa[gotoIn,Itm.item] using gotoIn_pop k (r:=r) h
def Good (P:Program)(ro:Cf)(n:Nat)(B:cX)(w0:World)(Q:Exit→St→Prop)(b:Frame)(k:List Item)(cs:List Frame)(r:List Itm)(a:Act)(w:World):Prop :=
 ∃e a' w',(∃ρ al s,RepS n B w0 ρ al s a' w'∧Q e s)∧ArrivesIn (Machine.fenced P (Fw ro)) P (lone (b.atR a (r.map Itm.item++k)) cs w) b k cs e a' w'
theorem Good.step {B:cX}{w0:World}{b:Frame}{k:List Item}{cs:List Frame}{r r':List Itm}{a a':Act}{w w':World}(hs:StepsIn (Machine.fenced P (Fw ro)) P (lone (b.atR a (r.map Itm.item++k)) cs w) (lone (b.atR a' (r'.map Itm.item++k)) cs w'))(h:Good P ro n B w0 Q b k cs r' a' w'):Good P ro n B w0 Q b k cs r a w:=by
 obtain⟨e,a2,w2,h1,h2⟩:=h;exact⟨e,a2,w2,h1,.of_steps hs h2⟩
theorem eI {m m':Machine}(h:step P m=.next m'):StepsIn (Machine.fenced P (Fw ro)) P m m':=ES.2 (.one h)
def UM (P:Program)(ro:Cf)(n:Nat)(B:cX)(w0:World)(Q:Exit→St→Prop)(b:Frame)(k:List Item)(cs:List Frame)(r:List Itm):Exit→Act→World→Prop
 |.normal,a,w=>Good P ro n B w0 Q b k cs r a w
 |.panic ch,a,w=>∃ρ al s,RepS n B w0 ρ al s a w∧Q (.panic ch) s
 |_,_,_=>False
theorem xC {B:cX}{w0:World}{b:Frame}{k:List Item}{cs:List Frame}(hpl:B.pl.length=ro.K)(hb:b.roundOf=ro.ro):∀(f:Nat),
  (∀(r:List Itm) (s:St) (ρ:Nat→Loc) (al:Al) (a:Act) (w:World),noO r=true→RepS n B w0 ρ al s a w→aQ P ctx ro n f r s Q→Good P ro n B w0 Q b k cs r a w) ∧
  (∀(all l:List Oper) (r:List Itm) (s:St) (ρ:Nat→Loc) (al:Al) (a:Act) (w:World),noO r=true→RepS n B w0 ρ al s a w→aQ P ctx ro n f (.o all l::r) s Q→wpListIn (Fw ro) 0 P all.toArray (UM P ro n B w0 Q b k cs r) l a w)
 |0=>⟨fun r s ρ al a w _ _ h=>by simp only[aQ]at h,fun all l r s ρ al a w _ _ h=>by simp only[aQ]at h⟩
 |f+1=>by
  obtain⟨ih1,ih2⟩:=xC (B:=B) (w0:=w0) (b:=b) (k:=k) (cs:=cs) hpl hb f;refine⟨fun r s ρ al a w hr H h=>?_,fun all l r s ρ al a w hr H h=>?_⟩
  ·cases r with
   |nil=>exact⟨.normal,a,w,⟨ρ,al,s,H,by simpa only[aQ] using h⟩,.refl _⟩
   |cons x r =>
    cases x with
    |o _ _=>cases hr
    |b id=>exact Good.step (eI stepR_inBlock) (ih1 r s ρ al a w hr H (by simpa only[aQ] using h))
    |c x =>
     have viaSW:SW P ro n x s (fun e s'=>match e with
       |.normal=>aQ P ctx ro n f r s' Q
       |.exit id=>match fh id r with
        |some r'=>aQ P ctx ro n f r' s' Q
        |none=>Q (.exit id) s'
       |e=>Q e s')→Good P ro n B w0 Q b k cs (.c x::r) a w:=by
      intro hsw;obtain⟨e,a',w',⟨ρ',al',s',H',hq⟩,harr⟩:=hsw B w0 ρ al a w hpl H b (r.map Itm.item++k) cs hb trivial (uA _ _);cases e with
      |normal=>exact Good.step harr (ih1 r s' ρ' al' a' w' hr H' hq)
      |exit id =>
       have hx:=exitTo_pop (id:=id) k (r:=r) hr;simp only at hq;cases hp:fh id r with
       |some r' =>
        rw[hp]at hq hx;exact Good.step (harr.1 _ hx) (ih1 r' s' ρ' al' a' w' (kA hr hp) H' hq)
       |none =>
        rw[hp]at hq hx;exact⟨.exit id,a',w',⟨ρ',al',s',H',hq⟩,fun k' hk=>harr.1 k' (hx.trans hk),fun hro hk=>harr.2 hro (hx.trans hk)⟩
      |goto l=>exact⟨.goto l,a',w',⟨ρ',al',s',H',hq⟩,fun k' hk=>harr.1 k' ((gotoIn_pop k hr).trans hk),fun hro hk=>harr.2 hro ((gotoIn_pop k hr).trans hk)⟩
      |ret=>exact⟨.ret,a',w',⟨ρ',al',s',H',hq⟩,harr⟩
      |panic ch=>exact⟨.panic ch,a',w',⟨ρ',al',s',H',hq⟩,harr⟩
      |outgrown=>exact⟨.outgrown,a',w',⟨ρ',al',s',H',hq⟩,harr⟩
     cases x with
     |skip=>exact Good.step (eI stepR_skip) (ih1 r s ρ al a w hr H (by simpa only[aQ] using h))
     |label l=>exact Good.step (eI stepR_label) (ih1 r s ρ al a w hr H (by simpa only[aQ] using h))
     |ret=>exact⟨.ret,a,w,⟨ρ,al,s,H,by simpa only[aQ] using h⟩,fun hn=>⟨_,eI (stepR_ret hn)⟩,fun _=>⟨_,.refl _⟩⟩
     |exit id =>
      have hx:=exitTo_pop (id:=id) k (r:=r) hr;simp only[aQ]at h;cases hp:fh id r with
      |some r' =>
       rw[hp]at h hx;exact Good.step (eI (stepR_exit hx)) (ih1 r' s ρ al a w (kA hr hp) H h)
      |none =>
       rw[hp]at h hx;exact⟨.exit id,a,w,⟨ρ,al,s,H,h⟩,fun k' hk=>eI (stepR_exit (hx.trans hk)),fun _ hk=>⟨_,hx.trans hk,.refl _⟩⟩
     |seq x y=>exact Good.step (r':=.c x::.c y::r) (eI stepR_seq) (ih1 _ s ρ al a w hr H (by simpa only[aQ] using h))
     |block id x=>exact Good.step (r':=.c x::.b id::r) (eI stepR_block) (ih1 _ s ρ al a w hr H (by simpa only[aQ] using h))
     |cond c x y =>
      simp only[aQ]at h;split at h
      case h_2=>exact h.elim
      rename_i q hq;have hv:=gJ H.t c;rw[hq]at hv;have hv':a.eval c=.bool q:=hv;cases q with
      |true=>exact Good.step (r':=.c x::r) (eI (stepR_cond hv')) (ih1 _ s ρ al a w hr H (h.1 rfl))
      |false=>exact Good.step (r':=.c y::r) (eI (stepR_cond hv')) (ih1 _ s ρ al a w hr H (h.2 rfl))
     |region id ops draw =>
      cases draw with
      |true=>exact viaSW (by simpa only[aQ] using h)
      |false =>
       have hl:=ih2 ops.toList ops.toList r s ρ al a w hr H (by simpa only[aQ] using h);rw[Array.toArray_toList]at hl;obtain⟨e,a',w',hq,harr⟩:=wpIn_region_list (id:=id) hl b (r.map Itm.item++k) cs hb trivial (uA _ _);cases e with
       |normal=>exact Good.step (r:=.c (.region id ops false)::r) harr hq
       |panic ch=>exact⟨.panic ch,a',w',hq,harr⟩
       |exit _=>exact hq.elim
       |goto _=>exact hq.elim
       |ret=>exact hq.elim
       |outgrown=>exact hq.elim
     |loop x=>exact viaSW (by simpa only[aQ] using h)
     |rangeFunc _ _ _ _=>exact viaSW (by simpa only[aQ] using h)
     |scope x=>exact viaSW (by simpa only[aQ] using h)
     |goto l=>exact viaSW (by simpa only[aQ] using h)
     |refuse y=>exact viaSW (by simpa only[aQ] using h)
  ·cases l with
   |nil=>exact ih1 r s ρ al a w hr H (by simpa only[aQ] using h)
   |cons o l =>
    unfold wpListIn;simp only[aQ]at h;split at h
    ·rename_i hg;rw[if_pos (by simp[Region.wanted,hg])];split at h
     ·rename_i ob x E hp;exact uu H hp h.1 fun ρ' al' w' H'=>⟨ρ',al',_,H',h.2⟩
     ·split at h
      case h_2=>exact h.elim
      rename_i R hR;obtain⟨h1,h2,h3⟩:=h;exact y4 H hR h2 h1 fun ρ' al' a' w' H'=>ih2 all l r _ ρ' al' a' w' hr H' h3
    ·rename_i j want hg;split at h
     case h_3=>exact h.elim
     case h_2 =>
      rename_i hq;rw[if_neg (by simp[Region.wanted,hg,vz H.t hq])];exact⟨fun _ _=>trivial,ih2 all l r ⟨s.nx,putT s.t o.dst (.s (.l (.v (.tuple #[])))),s.h⟩ ρ al _ w hr ⟨gD.trans H.size,(by rw[cT];exact H.defers),H.t.putT H.size h.1 mQ,H.w,H.al⟩ h.2⟩
     rename_i q hq;obtain⟨h1,h2,h3⟩:=h;have hy:=sC H.t H.size hq;have hset:=Ct H.t hq;by_cases hqw:q=want
     ·rw[if_pos (by simp[Region.wanted,hg,hy,hqw])];have h4:=h2 hqw;rw[hqw]at hset;split at h4
      ·rename_i ob x E hp;exact uu (s:=⟨s.nx,iu all s.t j want,s.h⟩) ⟨H.size,H.defers,hset,H.w,H.al⟩ hp h4.1 fun ρ' al' w' H'=>⟨ρ',al',_,H',h4.2⟩
      ·split at h4
       case h_2=>exact h4.elim
       rename_i R hR;exact y4 (s:=⟨s.nx,iu all s.t j want,s.h⟩) ⟨H.size,H.defers,hset,H.w,H.al⟩ hR h4.2.1 h1 fun ρ' al' a' w' H'=>ih2 all l r _ ρ' al' a' w' hr H' h4.2.2
     ·rw[if_neg (by simp[Region.wanted,hg,hy,hqw])];have hqn:q = !want:=by cases q<;>cases want<;>simp_all
      rw[hqn]at hset;exact⟨fun _ _=>trivial,ih2 all l r ⟨s.nx,putT (iu all s.t j (!want)) o.dst (.s (.l (.v (.tuple #[])))),s.h⟩ ρ al _ w hr ⟨gD.trans H.size,(by rw[cT];exact H.defers),hset.putT H.size h1 mQ,H.w,H.al⟩ (h3 hqn)⟩
theorem jh {c:Code}(f:Nat)(h:aQ P ctx ro n f [.c c] s Q):SW P ro n c s Q:=fun B w0 ρ al a w hpl H b k cs hb _ _=>by
 obtain⟨e,a',w',h1,h2⟩:=(xC hpl hb f).1 [.c c] s ρ al a w rfl H h;exact⟨e,a',w',h1,h2⟩
def uK (nx:Nat)(t:cK)(h:ag)(Q:Exit→St→Prop)(rest:Prop):Option (Prop×Value×ag)→Prop
 |some (ob,x,E)=>ob∧Q (.panic [{ v:=x,recovered:=false }]) ⟨nx+16,t,E++h⟩
 |none=>rest
theorem C3 {nx:Nat}{t:cK}{h:ag}{rest:Prop}:uK nx t h Q rest none=rest:=rfl
theorem C4 {nx:Nat}{t:cK}{h:ag}{rest:Prop}{ob:Prop}{x:Value}{E:ag}:uK nx t h Q rest (some (ob,x,E))=(ob∧Q (.panic [{ v:=x,recovered:=false }]) ⟨nx+16,t,E++h⟩):=rfl
def uI (P:Program)(ctx:Ctx P)(ro:Cf)(n f:Nat)(all l:List Oper)(r:List Itm)(d:Option Tmp)(s:St)(Q:Exit→St→Prop):Option Res→Prop
 |some R=>bC n d=true∧R.ob∧aQ P ctx ro n f (.o all l::r) ⟨s.nx+16,putT s.t d R.r,R.E++s.h⟩ Q
 |none=>False
def aGd (P:Program)(ctx:Ctx P)(ro:Cf)(n f:Nat)(all:List Oper)(o:Oper)(l:List Oper)(r:List Itm)(s:St)(Q:Exit→St→Prop)(j:Nat)(want:Bool):AV→Prop
 |.s (.l (.v (.bool q)))=>bC n o.dst=true ∧
   (q=want→uK s.nx (iu all s.t j want) s.h Q (uI P ctx ro n f all l r o.dst ⟨s.nx,iu all s.t j want,s.h⟩ Q (aOp P ctx s.nx o.op (evT (iu all s.t j want)) s.h)) (qS P ctx s.nx o.op (evT (iu all s.t j want)) s.h)) ∧
   (q = !want→aQ P ctx ro n f (.o all l::r) ⟨s.nx,putT (iu all s.t j (!want)) o.dst (.s (.l (.v (.tuple #[])))),s.h⟩ Q)
 |.s (.l (.v (.tuple ⟨[]⟩)))=>bC n o.dst=true∧aQ P ctx ro n f (.o all l::r) ⟨s.nx,putT s.t o.dst (.s (.l (.v (.tuple #[])))),s.h⟩ Q
 |_=>False
def aBr (P:Program)(ctx:Ctx P)(ro:Cf)(n f:Nat)(x y:Code)(r:List Itm)(s:St)(Q:Exit→St→Prop):AV→Prop
 |.s (.l (.v (.bool q)))=>(q=true→aQ P ctx ro n f (.c x::r) s Q)∧(q=false→aQ P ctx ro n f (.c y::r) s Q)
 |_=>False
section
variable {f:Nat}{r:List Itm}
theorem Jw:aQ P ctx ro n (f+1) [] s Q=Q .normal s:=by simp only[aQ]
theorem PZ {id:Nat}:aQ P ctx ro n (f+1) (.b id::r) s Q=aQ P ctx ro n f r s Q:=by simp only[aQ]
theorem Nc {all:List Oper}:aQ P ctx ro n (f+1) (.o all []::r) s Q=aQ P ctx ro n f r s Q:=by simp only[aQ]
theorem Nd {all l:List Oper}{d:Option Tmp}{op:Op}{t:TypeId}{p:String}{af:Array Edge}:aQ P ctx ro n (f+1) (.o all (⟨d,op,t,p,af,none⟩::l)::r) s Q=uK s.nx s.t s.h Q (uI P ctx ro n f all l r d s Q (aOp P ctx s.nx op (evT s.t) s.h)) (qS P ctx s.nx op (evT s.t) s.h):=by
 simp only[aQ,uI,uK]
theorem Nf {all l:List Oper}{d:Option Tmp}{op:Op}{t:TypeId}{p:String}{af:Array Edge}{j:Nat}{want:Bool}:aQ P ctx ro n (f+1) (.o all (⟨d,op,t,p,af,some (j,want)⟩::l)::r) s Q=aGd P ctx ro n f all ⟨d,op,t,p,af,some (j,want)⟩ l r s Q j want (gAt all s.t j):=by
 simp only[aQ,aGd,uI,uK]
theorem Gc:aQ P ctx ro n (f+1) (.c .skip::r) s Q=aQ P ctx ro n f r s Q:=by simp only[aQ]
theorem Jx:aQ P ctx ro n (f+1) (.c .ret::r) s Q=Q .ret s:=by simp only[aQ]
theorem Jy {x y:Code}:aQ P ctx ro n (f+1) (.c (.seq x y)::r) s Q=aQ P ctx ro n f (.c x::.c y::r) s Q:=by simp only[aQ]
theorem C5 {id:Nat}{x:Code}:aQ P ctx ro n (f+1) (.c (.block id x)::r) s Q=aQ P ctx ro n f (.c x::.b id::r) s Q:=by simp only[aQ]
theorem F8 {c:Operand}{x y:Code}:aQ P ctx ro n (f+1) (.c (.cond c x y)::r) s Q=aBr P ctx ro n f x y r s Q (evT s.t c):=by
 simp only[aQ,aBr]
theorem Am {id:Nat}{l:List Oper}:aQ P ctx ro n (f+1) (.c (.region id l.toArray false)::r) s Q=aQ P ctx ro n f (.o l l::r) s Q:=by simp only[aQ,List.toList_toArray]
def aEx (P:Program)(ctx:Ctx P)(ro:Cf)(n f id:Nat)(s:St)(Q:Exit→St→Prop):Option (List Itm)→Prop
 |some r'=>aQ P ctx ro n f r' s Q
 |none=>Q (.exit id) s
theorem Ga {id:Nat}:aQ P ctx ro n (f+1) (.c (.exit id)::r) s Q=aEx P ctx ro n f id s Q (fh id r):=by
 simp only[aQ,aEx]
def lL (P:Program)(ctx:Ctx P)(ro:Cf)(n f:Nat)(r:List Itm)(Q:Exit→St→Prop):Exit→St→Prop
 |.normal,s=>aQ P ctx ro n f r s Q
 |.exit id,s=>aEx P ctx ro n f id s Q (fh id r)
 |e,s=>Q e s
theorem Gb {x:Code}:aQ P ctx ro n (f+1) (.c (.loop x)::r) s Q=SW P ro n (.loop x) s (lL P ctx ro n f r Q):=by
 simp only[aQ];congr 1;funext e s';cases e<;>simp only[lL,aEx]
theorem F9 {id:Nat}{ops:Array Oper}:aQ P ctx ro n (f+1) (.c (.region id ops true)::r) s Q=SW P ro n (.region id ops true) s (lL P ctx ro n f r Q):=by
 simp only[aQ];congr 1;funext e s';cases e<;>simp only[lL,aEx]
theorem xd:lL P ctx ro n f r Q .normal s=aQ P ctx ro n f r s Q:=rfl
theorem Ap {id:Nat}:lL P ctx ro n f r Q (.exit id) s=aEx P ctx ro n f id s Q (fh id r):=rfl
theorem C7:lL P ctx ro n f r Q .ret s=Q .ret s:=rfl
theorem Js {id:Nat}{r':List Itm}:aEx P ctx ro n f id s Q (some r')=aQ P ctx ro n f r' s Q:=rfl
theorem Jr {id:Nat}:aEx P ctx ro n f id s Q none=Q (.exit id) s:=rfl
theorem CX {all l:List Oper}{d:Option Tmp}{ob:Prop}{x:AV}{E:ag}:uI P ctx ro n f all l r d s Q (some ⟨ob,x,E⟩)=(bC n d=true∧ob∧aQ P ctx ro n f (.o all l::r) ⟨s.nx+16,putT s.t d x,E++s.h⟩ Q):=rfl
theorem CW {all l:List Oper}{d:Option Tmp}:uI P ctx ro n f all l r d s Q none=False:=rfl
theorem Jp {x y:Code}:aBr P ctx ro n f x y r s Q (.s (.l (.v (.bool true))))=aQ P ctx ro n f (.c x::r) s Q:=by simp[aBr]
theorem F5 {x y:Code}:aBr P ctx ro n f x y r s Q (.s (.l (.v (.bool false))))=aQ P ctx ro n f (.c y::r) s Q:=by simp[aBr]
theorem Ul {x y:Code}{q:Bool}:aBr P ctx ro n f x y r s Q (.s (.l (.v (.bool q))))=((q=true→aQ P ctx ro n f (.c x::r) s Q)∧(q=false→aQ P ctx ro n f (.c y::r) s Q)):=rfl
theorem MX {x y:Code}{p:Prop}[Decidable p]:aBr P ctx ro n f x y r s Q (.s (.l (.v (.bool (decide p)))))=((p→aQ P ctx ro n f (.c x::r) s Q)∧(¬p→aQ P ctx ro n f (.c y::r) s Q)):=by simp[aBr]
theorem MY {x y:Code}{q:Bool}:aBr P ctx ro n f x y r s Q (.s (.l (.v (.bool (!q)))))=aBr P ctx ro n f y x r s Q (.s (.l (.v (.bool q)))):=by
 simp only[aBr,not_eq_true',Bool.not_eq_false'];exact propext And.comm
theorem MV {x y:Code}{u v:Int}:aBr P ctx ro n f x y r s Q (.s (.l (.v (.bool (u==v)))))=((u=v→aQ P ctx ro n f (.c x::r) s Q)∧(¬u=v→aQ P ctx ro n f (.c y::r) s Q)):=by simp[aBr]
theorem MW {x y:Code}{u v:Int}:aBr P ctx ro n f x y r s Q (.s (.l (.v (.bool (u !=v)))))=((u=v→aQ P ctx ro n f (.c y::r) s Q)∧(¬u=v→aQ P ctx ro n f (.c x::r) s Q)):=by
 simp[aBr];exact And.comm
section
variable {all l:List Oper}{o:Oper}{j:Nat}{want:Bool}
theorem M8 (h:bC n o.dst=true):aGd P ctx ro n f all o l r s Q j want (.s (.l (.v (.bool want))))=uK s.nx (iu all s.t j want) s.h Q (uI P ctx ro n f all l r o.dst ⟨s.nx,iu all s.t j want,s.h⟩ Q (aOp P ctx s.nx o.op (evT (iu all s.t j want)) s.h)) (qS P ctx s.nx o.op (evT (iu all s.t j want)) s.h):=by
 cases want<;>simp[aGd,h]
theorem PX (h:bC n o.dst=true):aGd P ctx ro n f all o l r s Q j true (.s (.l (.v (.bool false))))=aQ P ctx ro n f (.o all l::r) ⟨s.nx,putT (iu all s.t j false) o.dst (.s (.l (.v (.tuple #[])))),s.h⟩ Q:=by simp[aGd,h]
theorem PW (h:bC n o.dst=true):aGd P ctx ro n f all o l r s Q j false (.s (.l (.v (.bool true))))=aQ P ctx ro n f (.o all l::r) ⟨s.nx,putT (iu all s.t j true) o.dst (.s (.l (.v (.tuple #[])))),s.h⟩ Q:=by simp[aGd,h]
theorem Jt (h:bC n o.dst=true):aGd P ctx ro n f all o l r s Q j want (.s (.l (.v (.tuple #[]))))=aQ P ctx ro n f (.o all l::r) ⟨s.nx,putT s.t o.dst (.s (.l (.v (.tuple #[])))),s.h⟩ Q:=by simp[aGd,h]
theorem F6 {p:Prop}[Decidable p](h:bC n o.dst=true):aGd P ctx ro n f all o l r s Q j want (.s (.l (.v (.bool (decide p)))))=((p→aGd P ctx ro n f all o l r s Q j want (.s (.l (.v (.bool true)))))∧(¬p→aGd P ctx ro n f all o l r s Q j want (.s (.l (.v (.bool false)))))):=by
 by_cases hp:p<;>simp[hp]
theorem M5 {u v:Int}(h:bC n o.dst=true):aGd P ctx ro n f all o l r s Q j want (.s (.l (.v (.bool (u==v)))))=((u=v→aGd P ctx ro n f all o l r s Q j want (.s (.l (.v (.bool true)))))∧(¬u=v→aGd P ctx ro n f all o l r s Q j want (.s (.l (.v (.bool false)))))):=by
 by_cases hp:u=v
 ·have e:(u==v)=true:=by simp[hp]
  rw[e];simp[hp]
 ·have e:(u==v)=false:=by simp[hp]
  rw[e];simp[hp]
theorem M6 {u v:Int}(h:bC n o.dst=true):aGd P ctx ro n f all o l r s Q j want (.s (.l (.v (.bool (u !=v)))))=((u=v→aGd P ctx ro n f all o l r s Q j want (.s (.l (.v (.bool false)))))∧(¬u=v→aGd P ctx ro n f all o l r s Q j want (.s (.l (.v (.bool true)))))):=by
 by_cases hp:u=v
 ·have e:(u !=v)=false:=by simp[hp]
  rw[e];simp[hp]
 ·have e:(u !=v)=true:=by simp[hp]
  rw[e];simp[hp]
theorem M7 {q:Bool}(h:bC n o.dst=true):aGd P ctx ro n f all o l r s Q j want (.s (.l (.v (.bool (!q)))))=((q=true→aGd P ctx ro n f all o l r s Q j want (.s (.l (.v (.bool false)))))∧(q=false→aGd P ctx ro n f all o l r s Q j want (.s (.l (.v (.bool true)))))):=by
 cases q<;>simp
end
end
theorem bR {p:Nat→Prop}(h:∃k,p k):∃k,p k∧∀j,p j→k≤j:=by
 obtain⟨k,hk⟩:=h
 induction k using Nat.strongRecOn with
 |_ k ih =>
  by_cases hq:∃j,j<k∧p j
  ·obtain⟨j,hj,hp⟩:=hq;exact ih j hj hp
  ·exact⟨k,hk,fun j hp=>Nat.le_of_not_lt fun hlt=>hq ⟨j,hlt,hp⟩⟩
def Wk (ro:Cf)(s s':St):Prop:=∀n B w0 ρ al a w,B.pl.length=ro.K→RepS n B w0 ρ al s a w→∃ρ' al',RepS n B w0 ρ' al' s' a w
theorem Wk.refl (ro:Cf)(s:St):Wk ro s s:=fun _ _ _ ρ al _ _ _ H=>⟨ρ,al,H⟩
theorem Wk.trans {ro:Cf}{s s' s'':St}(h:Wk ro s s')(k:Wk ro s' s''):Wk ro s s'':=fun n B w0 ρ al a w hpl H=>by
 obtain⟨ρ',al',H'⟩:=h n B w0 ρ al a w hpl H;exact k n B w0 ρ' al' a w hpl H'
def s9 (ro:Cf){ι:Type}(inv:ι→Prop)(I:ι→St)(m:ι→Nat)(i:ι)(Q:Exit→St→Prop):Exit→St→Prop
 |.normal,s=>∃j,inv j∧m j<m i∧Wk ro s (I j)
 |e,s=>Q e s
theorem xw {ι:Type}{inv:ι→Prop}{I:ι→St}{m:ι→Nat}{i:ι}:s9 ro inv I m i Q .normal s = ∃j,inv j∧m j<m i∧Wk ro s (I j):=rfl
theorem B9 {ι:Type}{inv:ι→Prop}{I:ι→St}{m:ι→Nat}{i:ι}{id:Nat}:s9 ro inv I m i Q (.exit id) s=Q (.exit id) s:=rfl
theorem EE {ι:Type}{inv:ι→Prop}{I:ι→St}{m:ι→Nat}{i:ι}:s9 ro inv I m i Q .ret s=Q .ret s:=rfl
theorem bF {ι:Type}{c:Code}(inv:ι→Prop)(I:ι→St)(m:ι→Nat)(i0:ι)(h0:inv i0)(start:Wk ro s (I i0))(round:∀i,inv i→SW P ro n c (I i) (s9 ro inv I m i Q)):SW P ro n (.loop c) s Q:=by
 intro B w0 ρ al a w hpl H
 classical
 let J:Act→World→Prop:=fun a w=>∃i ρ al,inv i∧RepS n B w0 ρ al (I i) a w
 let μ:Act→World→Nat:=fun a w=>if hq:∃k,∃i ρ al,m i=k∧inv i∧RepS n B w0 ρ al (I i) a w then(bR hq).choose else 0
 obtain⟨ρ0,al0,H0⟩:=start n B w0 ρ al a w hpl H;refine wpIn_loop J μ ⟨i0,ρ0,al0,h0,H0⟩ ?_;rintro a1 w1 ⟨i1,ρ1',al1',hi1,H1⟩;have hq:∃k,∃i ρ al,m i=k∧inv i∧RepS n B w0 ρ al (I i) a1 w1:=⟨_,i1,ρ1',al1',rfl,hi1,H1⟩;have hμ:μ a1 w1=(bR hq).choose:=dif_pos hq;obtain⟨i,ρi,ali,hmi,hii,Hi⟩:=(bR hq).choose_spec.1;refine wpIn_mono (round i hii B w0 ρi ali a1 w1 hpl Hi) ?_;rintro e a2 w2 ⟨ρ2,al2,s2,H2,q⟩;cases e with
 |normal =>
  obtain⟨j,hij,hj,hwk⟩:=q;obtain⟨ρ3,al3,H3⟩:=hwk n B w0 ρ2 al2 a2 w2 hpl H2;refine⟨⟨j,ρ3,al3,hij,H3⟩,?_⟩;have hq2:∃k,∃i ρ al,m i=k∧inv i∧RepS n B w0 ρ al (I i) a2 w2:=⟨_,j,ρ3,al3,rfl,hij,H3⟩;have h1:μ a2 w2=(bR hq2).choose:=dif_pos hq2;have h2:(bR hq2).choose≤m j:=(bR hq2).choose_spec.2 _ ⟨j,ρ3,al3,rfl,hij,H3⟩;rw[h1,hμ,←hmi];omega
 |_=>exact⟨ρ2,al2,s2,H2,q⟩
end
structure Ent where
 dst:Option Tmp
 r:AV
 E:ag
def bit (m k:Nat):Bool:=(m / 2 ^ k) % 2==1
def mV (e:Edge):Bool:=Region.binds .any e
def iA (acc:List Nat):List Edge→Nat
 |[]=>0
 |e::r=>if mV e then iA acc r ||| 2 ^ e.on ||| acc.getD e.on 0 else iA acc r
def fA:List Nat→List Oper→List Nat
 |acc,[]=>acc
 |acc,o::l=>fA (acc++[iA acc o.after.toList]) l
def Tm (p:Nat→Bool):List Ent→Nat→cK→cK
 |[],_,t=>t
 |e::r,k,t=>Tm p r (k+1) (if p k then putT t e.dst e.r else t)
def Hp (p:Nat→Bool):List Ent→Nat→ag→ag
 |[],_,h=>h
 |e::r,k,h=>Hp p r (k+1) (if p k then e.E++h else h)
def inE (E:ag)(b:Nat):Bool:=E.any fun x=>x.1==b
section
variable {p p':Nat→Bool}
theorem qL {d:Nat}:∀{rs:List Ent} {k:Nat} {t t':cK},bI t d=bI t' d→(∀(j:Nat) (e:Ent),rs[j]? = some e→e.dst=some d→p (k+j)=p' (k+j))→bI (Tm p rs k t) d=bI (Tm p' rs k t') d
 |[],_,_,_,h,_=>h
 |e::r,k,t,t',h,hp=>by
  rw[Tm,Tm];refine qL ?_ fun j x hx hd=>by have:=hp (j+1) x (by simpa using hx) hd;rwa [show k+(j+1)=k+1+j by omega]at this
  by_cases hd:e.dst=some d
  ·have:=hp 0 e rfl hd;rw[Nat.add_zero]at this;rw[this];split
   ·rw[hd,putT,putT,bI,bI,if_pos rfl,if_pos rfl]
   ·exact h
  ·have hn:∀t,bI (putT t e.dst e.r) d=bI t d:=by
    intro t;cases hq:e.dst with
    |none=>rfl
    |some q=>rw[putT,bI,if_neg (fun hh=>hd (by rw[hq,hh]))]
   split<;>split<;>simp only[hn,h]
theorem yT {d:Nat}:∀{rs:List Ent} {k:Nat} {t:cK},(∀(j:Nat) (e:Ent),rs[j]? = some e→e.dst=some d→p (k+j)=false)→bI (Tm p rs k t) d=bI t d
 |[],_,_,_=>rfl
 |e::r,k,t,hp=>by
  rw[Tm,yT fun j x hx hd=>by have:=hp (j+1) x (by simpa using hx) hd;rwa [show k+(j+1)=k+1+j by omega]at this];split
  ·rename_i hpk;cases hq:e.dst with
   |none=>rfl
   |some q =>
    rw[putT,bI,if_neg];rintro rfl;have:=hp 0 e rfl hq;rw[Nat.add_zero,hpk]at this;cases this
  ·rfl
theorem Fb {d:Nat}{x:Ent}(hx:x.dst=some d):∀{rs:List Ent} {k j:Nat} {t:cK},rs[j]? = some x→p (k+j)=true→(∀(m:Nat) (e:Ent),j<m→rs[m]? = some e→e.dst=some d→p (k+m)=false)→bI (Tm p rs k t) d=x.r
 |[],_,_,_,h,_,_=>by simp at h
 |e::r,k,0,t,h,hp,hl=>by
  simp at h;subst h;rw[Nat.add_zero]at hp;rw[Tm,if_pos hp,yT fun j y hy hd=>by have:=hl (j+1) y (by omega) (by simpa using hy) hd;rwa [show k+(j+1)=k+1+j by omega]at this];rw[hx,putT,bI,if_pos rfl]
 |e::r,k,j+1,t,h,hp,hl=>by
  rw[Tm];exact Fb hx (j:=j) (by simpa using h) (by rwa [show k+1+j=k+(j+1) by omega]) fun m y hm hy hd=>by have:=hl (m+1) y (by omega) (by simpa using hy) hd;rwa [show k+(m+1)=k+1+m by omega]at this
theorem my {E h:ag}{b:Nat}:ac (E++h) b=if inE E b then ac E b else ac h b:=by
 induction E with
 |nil=>rfl
 |cons x r ih =>
  obtain⟨k,v⟩:=x;simp only[cons_append,ac,inE,List.any_cons];by_cases e:k=b
  ·simp[e]
  ·have:(k==b)=false:=by simpa using e
   simp only[if_neg e,this,Bool.false_or];exact ih
theorem uF {b:Nat}:∀{rs:List Ent} {k:Nat} {h h':ag},ac h b=ac h' b→(∀(j:Nat) (e:Ent),rs[j]? = some e→inE e.E b=true→p (k+j)=p' (k+j))→ac (Hp p rs k h) b=ac (Hp p' rs k h') b
 |[],_,_,_,h,_=>h
 |e::r,k,h,h',hh,hp=>by
  rw[Hp,Hp];refine uF ?_ fun j x hx hd=>by have:=hp (j+1) x (by simpa using hx) hd;rwa [show k+(j+1)=k+1+j by omega]at this
  by_cases hd:inE e.E b=true
  ·have:=hp 0 e rfl hd;rw[Nat.add_zero]at this;rw[this];split
   ·rw[my,my,if_pos hd,if_pos hd]
   ·exact hh
  ·have hn:∀h,ac (e.E++h) b=ac h b:=fun h=>by rw[my,if_neg hd]
   split<;>split<;>simp only[hn,hh]
theorem qK {b:Nat}:∀{rs:List Ent} {k:Nat} {h:ag},(∀(j:Nat) (e:Ent),rs[j]? = some e→inE e.E b=true→p (k+j)=false)→ac (Hp p rs k h) b=ac h b
 |[],_,_,_=>rfl
 |e::r,k,h,hp=>by
  rw[Hp,qK fun j x hx hd=>by have:=hp (j+1) x (by simpa using hx) hd;rwa [show k+(j+1)=k+1+j by omega]at this];split
  ·rename_i hpk;rw[my,if_neg];intro hd;have:=hp 0 e rfl hd;rw[Nat.add_zero,hpk]at this;cases this
  ·rfl
theorem ut {b:Nat}{x:Ent}(hx:inE x.E b=true):∀{rs:List Ent} {k j:Nat} {h:ag},rs[j]? = some x→p (k+j)=true→(∀(m:Nat) (e:Ent),j<m→rs[m]? = some e→inE e.E b=true→p (k+m)=false)→ac (Hp p rs k h) b=ac x.E b
 |[],_,_,_,h,_,_=>by simp at h
 |e::r,k,0,t,h,hp,hl=>by
  simp at h;subst h;rw[Nat.add_zero]at hp;rw[Hp,if_pos hp,qK fun j y hy hd=>by have:=hl (j+1) y (by omega) (by simpa using hy) hd;rwa [show k+(j+1)=k+1+j by omega]at this];rw[my,if_pos hx]
 |e::r,k,j+1,t,h,hp,hl=>by
  rw[Hp];exact ut hx (j:=j) (by simpa using h) (by rwa [show k+1+j=k+(j+1) by omega]) fun m y hm hy hd=>by have:=hl (m+1) y (by omega) (by simpa using hy) hd;rwa [show k+(m+1)=k+1+m by omega]at this
end
def x4:Op→Bool
 |.move _ | .assign _ | .pick .. | .build .. | .fieldAddr .. | .index .. | .binOp .. | .unOp .. | .nilCheck _ | .extract .. | .field .. | .makeFunc .. | .makeInterface ..=>false
 |.call c=>match c.callee with
  |.builtin .len=>false
  |.builtin .min=>false
  |.builtin .max=>false
  |_=>true
 |_=>true
def vP (o:Oper)(ops:List Oper):List Nat :=
 (o.op.operands.toList.filterMap fun | .tmp t=>some t | _=>none) ++
 (
  match o.guard with
  |some (g,_)=>match ops[g]? with
   |some x=>x.dst.toList
   |none=>[]
  |none=>[])
def tied (ops:List Oper)(x y:Oper):Bool :=
 (
  match x.dst with
  |some d=>(vP y ops).contains d||y.dst==some d
  |none=>false) ||
 (
  match y.dst with
  |some d=>(vP x ops).contains d
  |none=>false)
structure Ms where
 ms:List Nat
 fs:List (Nat×List Nat)
 hs:List (Nat×List Nat)
def d6:List (Nat×List Nat)→Nat→List Nat
 |[],_=>[]
 |(j,bl)::r,i=>if j=i then bl++d6 r i else d6 r i
theorem qm {b i:Nat}:∀{l:List (Nat×List Nat)},b∈d6 l i→∃m∈l,m.1=i∧b∈m.2
 |[],h=>by simp[d6]at h
 |(j,bl)::r,h=>by
  rw[d6]at h;split at h
  ·rename_i e;rcases List.mem_append.1 h with h | h
   ·exact⟨(j,bl),by simp,e,h⟩
   ·obtain⟨m,h1,h2⟩:=qm h;exact⟨m,by simp[h1],h2⟩
  ·obtain⟨m,h1,h2⟩:=qm h;exact⟨m,by simp[h1],h2⟩
def xz (bs:List Nat)(h:ag):ag:=(bs.map fun b=>(b,none))++h
theorem Ui {h:ag}:xz [] h=h:=rfl
theorem x5 {h:ag}:∀{U:List Nat} {b:Nat} {k:Blk},ac (xz U h) b=some k→b∉U∧ac h b=some k
 |[],b,k,hk=>⟨by simp,hk⟩
 |c::U,b,k,hk=>by
  simp only[xz,map_cons,cons_append,ac]at hk;split at hk
  ·cases hk
  ·rename_i hne;obtain⟨h1,h2⟩:=x5 (U:=U) hk;exact⟨by simp only[List.mem_cons,not_or];exact⟨fun e=>hne e.symm,h1⟩,h2⟩
def vo (ops:List Oper)(ms:Ms):Bool :=
 let bs:=fA [] ops
 let n:=ops.length
 (List.range n).all (fun i =>
  match ops[i]? with
  |some o =>
   ms.fs.all (fun m=>decide (m.1=i)||bit (bs.getD i 0) m.1||bit (bs.getD m.1 0) i||m.2.all (fun b=>(d6 ms.hs i).contains b)) &&
   o.after.toList.all (fun e=>!mV e||decide (e.on<i)) &&
   (List.range n).all (fun k=>!bit (bs.getD i 0) k||(decide (k<i)&&o.after.toList.any (fun e=>mV e&&(e.on==k||bit (bs.getD e.on 0) k)))) &&
   (List.range n).all (fun k=>decide (k=i)||bit (bs.getD i 0) k||bit (bs.getD k 0) i||match ops[k]? with
    |some o'=>!tied ops o o'&&!(ms.ms.contains k&&x4 o.op)
    |none=>true) &&
   (
    match o.guard with
    |some (g,_)=>bit (bs.getD i 0) g&&decide (g<n)
    |none=>true)
  |none=>false)
section
variable {P:Program}{ctx:Ctx P}{id:Nat}{o:Op}{ev ev':Operand→AV}{h h':ag}{R:Res}
theorem C0 (hs:∀b k,ac h b=some k→ac h' b=some k){t:TypeId}{x:AV}(hr:qR P t x h=some R):qR P t x h'=some R:=by
 unfold qR at hr ⊢;split at hr
 case h_2=>exact hr
 case h_3=>cases hr
 split at hr
 case h_2=>cases hr
 rename_i k hk;simp only[hs _ _ hk];exact hr
theorem Ao (hs:∀b k,ac h b=some k→ac h' b=some k){t:TypeId}{x y:AV}(hr:qe P t x y h=some R):qe P t x y h'=some R:=by
 unfold qe at hr ⊢;split at hr
 case h_2=>cases hr
 split at hr
 case h_2=>cases hr
 rename_i k hk;simp only[hs _ _ hk];exact hr
theorem AZ (hs:∀b k,ac h b=some k→ac h' b=some k){t:TypeId}{x:AV}(hr:qo P t x h=true):qo P t x h'=true:=by
 unfold qo at hr ⊢;split at hr
 ·split at hr
  case h_2=>cases hr
  rename_i k e hk he;simp only[hs _ _ hk,he];exact hr
 ·rfl
theorem An (hs:∀b k,ac h b=some k→ac h' b=some k){t:TypeId}{x:AV}{lo hi mx:Option AV}(hr:qd P t x lo hi mx h=some R):qd P t x lo hi mx h'=some R:=by
 unfold qd at hr ⊢;split at hr
 ·cases hr
 split at hr
 ·split at hr
  case h_2=>cases hr
  rename_i l m k e h1 h2 hk he;simp only[h1,h2,hs _ _ hk,he];exact hr
 ·exact hr
 ·exact hr
 ·exact hr
 ·cases hr
theorem EQ (hs:∀b k,ac h b=some k→ac h' b=some k){t2:TypeId}{y:AV}{sz:Nat}{X:Prop×Nat×List (List LV)}(hr:wL P t2 y h sz=some X):wL P t2 y h' sz=some X:=by
 unfold wL at hr ⊢;split at hr
 ·split at hr
  case h_2=>cases hr
  rename_i l hl;simp only[hs _ _ hl];exact hr
 ·exact hr
 ·exact hr
 ·exact hr
 ·cases hr
theorem yU (hs:∀b k,ac h b=some k→ac h' b=some k){t1 t2:TypeId}{x y:AV}(hr:mT P t1 t2 x y h id=some R):mT P t1 t2 x y h' id=some R:=by
 unfold mT at hr ⊢;split at hr
 case h_2=>cases hr
 rename_i T hT
 try simp only[hT]
 split at hr
 case h_2=>cases hr
 rename_i z1 z2 z3 e1 e2 e3;split at hr
 case h_2=>cases hr
 rename_i ob m rows hsrc;simp only[EQ hs hsrc];split at hr
 ·split at hr
  case h_2=>cases hr
  rename_i k hk;simp only[hs _ _ hk];exact hr
 ·exact hr
 ·cases hr
theorem tt (hs:∀b k,ac h b=some k→ac h' b=some k){src dst:TypeId}{x:AV}(hr:mU P src dst x h id=some R):mU P src dst x h' id=some R:=by
 unfold mU at hr ⊢;split at hr
 ·split at hr
  case isFalse=>cases hr
  rename_i hc;rw[if_pos hc];split at hr
  case h_2=>cases hr
  rename_i k hk;simp only[hs _ _ hk];exact hr
 ·exact hr
 ·exact hr
 ·exact hr
 ·cases hr
theorem Jv (hs:∀b k,ac h b=some k→ac h' b=some k)(hr:aOp P ctx id o ev h=some R):aOp P ctx id o ev h'=some R:=by
 cases o with
 |load t x=>simp only[aOp]at hr ⊢;exact C0 hs hr
 |store t x y=>simp only[aOp]at hr ⊢;exact Ao hs hr
 |indexAddr t x ix =>
  simp only[aOp]at hr ⊢;split at hr
  case isFalse=>cases hr
  rename_i hf;rw[if_pos (AZ hs hf)];exact hr
 |slice t x lo hi mx=>simp only[aOp]at hr ⊢;exact An hs hr
 |convert s d x =>
  simp only[aOp]at hr ⊢;split at hr
  ·split at hr
   ·exact hr
   ·exact tt hs hr
  ·exact tt hs hr
 |call c =>
  obtain⟨callee,args,argTypes⟩:=c;cases callee with
  |builtin b =>
   simp only[aOp]at hr ⊢;split at hr
   ·exact hr
   ·split at hr
    ·exact yU hs hr
    ·exact hr
    ·exact hr
    ·cases hr
   ·cases hr
  |value f =>
   simp only[aOp]at hr ⊢;split at hr
   case h_2=>cases hr
   split at hr
   case h_2=>cases hr
   rename_i run hrun;obtain⟨s,rfl⟩:=sn hrun;exact s.mono hs hr
  |invoke _ _=>simp only[aOp]at hr;cases hr
 |makeFunc fn f c=>cases fn<;>first | exact hr | (simp only[aOp]at hr;cases hr)
 |_=>first | exact hr | (simp only[aOp]at hr;cases hr)
theorem xB (hh:x4 o=false){id':Nat}(hr:aOp P ctx id o ev h=some R):aOp P ctx id' o ev h'=some R∧R.E=[]:=by
 cases o with
 |move x=>simp only[aOp,Option.some.injEq]at hr ⊢;exact⟨hr,by rw[←hr]⟩
 |assign x=>simp only[aOp,Option.some.injEq]at hr ⊢;exact⟨hr,by rw[←hr]⟩
 |pick c a b =>
  simp only[aOp]at hr ⊢;refine⟨hr,?_⟩;split at hr
  ·injection hr with hr;rw[←hr]
  ·injection hr with hr;rw[←hr]
  ·cases hr
 |build t ps =>
  simp only[aOp]at hr ⊢;refine⟨hr,?_⟩;unfold uH at hr;split at hr
  ·split at hr
   ·injection hr with hr;rw[←hr]
   ·cases hr
  ·split at hr
   ·split at hr
    ·injection hr with hr;rw[←hr]
    ·cases hr
   ·cases hr
  ·cases hr
 |fieldAddr t x f =>
  simp only[aOp]at hr ⊢;refine⟨hr,?_⟩;unfold sj at hr;split at hr
  ·injection hr with hr;rw[←hr]
  ·injection hr with hr;rw[←hr]
  ·cases hr
 |index t x ix =>
  simp only[aOp]at hr ⊢;refine⟨hr,?_⟩;split at hr
  ·injection hr with hr;rw[←hr]
  ·cases hr
 |binOp op t x y yt =>
  simp only[aOp]at hr ⊢;refine⟨hr,?_⟩;split at hr
  ·split at hr
   ·injection hr with hr;rw[←hr]
   ·cases hr
  ·split at hr
   ·split at hr
    ·injection hr with hr;rw[←hr]
    ·cases hr
   ·cases hr
 |makeFunc fn f c =>
  cases fn<;>simp only[aOp]at hr ⊢<;>try (cases hr;done)
  refine⟨hr,?_⟩;split at hr
  ·injection hr with hr;rw[←hr]
  ·cases hr
 |makeInterface t x =>
  simp only[aOp]at hr ⊢;refine⟨hr,?_⟩;split at hr
  ·split at hr
   ·injection hr with hr;rw[←hr]
   ·split at hr
    ·injection hr with hr;rw[←hr]
    ·cases hr
  ·cases hr
 |unOp op t x =>
  simp only[aOp]at hr ⊢;refine⟨hr,?_⟩;split at hr
  ·split at hr
   ·injection hr with hr;rw[←hr]
   ·cases hr
  ·cases hr
 |nilCheck x =>
  simp only[aOp]at hr ⊢;refine⟨hr,?_⟩;split at hr
  ·injection hr with hr;rw[←hr]
  ·cases hr
 |extract x n =>
  simp only[aOp]at hr ⊢;refine⟨hr,?_⟩;split at hr
  ·split at hr
   ·injection hr with hr;rw[←hr]
   ·cases hr
  ·cases hr
 |field t x f =>
  simp only[aOp]at hr ⊢;refine⟨hr,?_⟩;split at hr
  ·injection hr with hr;rw[←hr]
  ·cases hr
 |call c =>
  obtain⟨callee,args,argTypes⟩:=c;cases callee with
  |builtin b =>
   simp only[aOp]at hr ⊢
   have fin:∀{x:Option Value},(match x with | some v=>some (⟨True,.s (.l (.v v)),[]⟩:Res) | none=>none)=some R→R.E=[]:=by
    intro x hx;split at hx
    ·injection hx with hx;rw[←hx]
    ·cases hx
   split at hr
   ·split at hr
    ·exact⟨hr,fin hr⟩
    ·cases hr
   ·split at hr
    ·cases hh
    ·split at hr
     ·exact⟨hr,fin hr⟩
     ·cases hr
    ·split at hr
     ·exact⟨hr,fin hr⟩
     ·cases hr
    ·cases hr
   ·cases hr
  |value f=>cases hh
  |invoke _ _=>cases hh
 |_=>first | (cases hh;done) | (simp only[aOp]at hr;cases hr)
theorem F7 (he:∀x∈o.operands,ev x=ev' x):aOp P ctx id o ev h=aOp P ctx id o ev' h:=by
 have hps:∀ps:Array (Nat×Operand),(∀x∈(ps.toList.map (·.2)).toArray,ev x=ev' x)→(ps.toList.map fun(i,x)=>(i,ev x))=(ps.toList.map fun(i,x)=>(i,ev' x)):=fun ps hp =>
  map_congr_left fun p hm=>by
   obtain⟨i,x⟩:=p;simp only[hp x (by simp only[List.mem_toArray,List.mem_map];exact⟨(i,x),hm,rfl⟩)]
 have hopt:∀y:Option Operand,(∀x∈y.toArray,ev x=ev' x)→y.map ev=y.map ev':=by
  intro y hy;cases y with
  |none=>rfl
  |some y=>simp only[map_some];rw[hy y (by simp)]
 cases o with
 |build t ps=>simp only[aOp,Op.operands]at he ⊢;rw[hps ps he]
 |buildSlice t n ps=>simp only[aOp,Op.operands]at he ⊢;rw[hps ps he]
 |slice t x lo hi mx =>
  simp only[aOp,Op.operands]at he ⊢;rw[he x (by simp),hopt lo fun y hy=>he y (by simp at hy ⊢;simp[hy]),hopt hi fun y hy=>he y (by simp at hy ⊢;simp[hy]),hopt mx fun y hy=>he y (by simp at hy ⊢;simp[hy])]
 |call c =>
  obtain⟨callee,args,argTypes⟩:=c;cases callee with
  |builtin b =>
   simp only[aOp,Op.operands,Call.operands]at he ⊢;split
   ·rename_i x t ha ht;rw[he x (by simp[←Array.mem_toList_iff,ha])]
   ·rename_i x y t1 t2 ha ht;rw[he x (by simp[←Array.mem_toList_iff,ha]),he y (by simp[←Array.mem_toList_iff,ha])]
   ·rfl
  |value f =>
   simp only[aOp,Op.operands,Call.operands]at he ⊢;have e1:args.toList.map ev=args.toList.map ev':=map_congr_left fun x hx=>he x (by simp;exact .inr (by simpa using hx));rw[he f (by simp),e1]
  |invoke _ _=>simp only[aOp]
 |makeFunc fn f c =>
  simp only[Op.operands]at he;have e1:f.toList.map ev=f.toList.map ev':=map_congr_left fun x hx=>he x (by simp;exact .inl (by simpa using hx));have e2:c.toList.map ev=c.toList.map ev':=map_congr_left fun x hx=>he x (by simp;exact .inr (by simpa using hx));cases fn<;>simp only[aOp]<;>rw[e1,e2]
 |_=>simp only[aOp,Op.operands]at he ⊢<;>simp_all
end
def eOk (ms:Ms)(nx i:Nat):ag→Prop
 |[]=>True
 |(b,_)::r=>b<nx+16*(i+1)∧((nx+16*i≤b∨i∈ms.ms∨b∈d6 ms.fs i)∧b∉d6 ms.hs i)∧eOk ms nx i r
theorem sA {ms:Ms}{nx i:Nat}:∀{E:ag} {b:Nat},eOk ms nx i E→inE E b=true→b<nx+16*(i+1)∧(nx+16*i≤b∨i∈ms.ms∨b∈d6 ms.fs i)∧b∉d6 ms.hs i
 |[],b,_,h=>by simp[inE]at h
 |(c,v)::r,b,⟨h1,h2,h3⟩,h=>by
  simp only[inE,List.any_cons,or_eq_true]at h;rcases h with h | h
  ·have:c=b:=by simpa using h
   subst this;exact⟨h1,h2⟩
  ·exact sA h3 h
noncomputable def aDr (P:Program) (ctx:Ctx P) (n:Nat) (ms:Ms) (nx:Nat) (h0:ag) (Q:Exit→St→Prop) (all:List Oper):List Oper→Nat→List Nat→List Ent→cK→Prop
 |[],i,_,rs,T=>Q .normal ⟨nx+16*i,T,Hp (fun _=>true) rs 0 h0⟩
 |o::l,i,acc,rs,T =>
  match o.guard with
  |none=>match aOp P ctx (nx+16*i) o.op (evT T) (xz (d6 ms.hs i) (Hp (bit (iA acc o.after.toList)) rs 0 h0)) with
   |some R=>bC n o.dst=true∧R.ob∧eOk ms nx i R.E∧aDr P ctx n ms nx h0 Q all l (i+1) (acc++[iA acc o.after.toList]) (rs++[⟨o.dst,R.r,R.E⟩]) (putT T o.dst R.r)
   |none=>False
  |some (j,want)=>match gAt all T j with
   |.s (.l (.v (.bool q)))=>bC n o.dst=true∧(if q=want then match aOp P ctx (nx+16*i) o.op (evT T) (xz (d6 ms.hs i) (Hp (bit (iA acc o.after.toList)) rs 0 h0)) with
     |some R=>bC n o.dst=true∧R.ob∧eOk ms nx i R.E∧aDr P ctx n ms nx h0 Q all l (i+1) (acc++[iA acc o.after.toList]) (rs++[⟨o.dst,R.r,R.E⟩]) (putT T o.dst R.r)
     |none=>False
    else aDr P ctx n ms nx h0 Q all l (i+1) (acc++[iA acc o.after.toList]) (rs++[⟨o.dst,.s (.l (.v (.tuple #[]))),[]⟩]) (putT T o.dst (.s (.l (.v (.tuple #[]))))))
   |.s (.l (.v (.tuple ⟨[]⟩)))=>bC n o.dst=true∧aDr P ctx n ms nx h0 Q all l (i+1) (acc++[iA acc o.after.toList]) (rs++[⟨o.dst,.s (.l (.v (.tuple #[]))),[]⟩]) (putT T o.dst (.s (.l (.v (.tuple #[])))))
   |_=>False
def aDk (P:Program)(ctx:Ctx P)(n:Nat)(ms:Ms)(nx:Nat)(h0:ag)(Q:Exit→St→Prop)(all:List Oper)(d:Option Tmp)(l:List Oper)(i:Nat)(acc:List Nat)(rs:List Ent)(T:cK):Option Res→Prop
 |some R=>bC n d=true∧R.ob∧eOk ms nx i R.E∧aDr P ctx n ms nx h0 Q all l (i+1) acc (rs++[⟨d,R.r,R.E⟩]) (putT T d R.r)
 |none=>False
section
variable {P:Program}{ctx:Ctx P}{n:Nat}{ms:Ms}{nx:Nat}{h0:ag}{Q:Exit→St→Prop}{all l:List Oper}{i:Nat}{acc:List Nat}{rs:List Ent}{T:cK}
theorem MZ:aDr P ctx n ms nx h0 Q all [] i acc rs T=Q .normal ⟨nx+16*i,T,Hp (fun _=>true) rs 0 h0⟩:=by simp only[aDr]
theorem M1 {d:Option Tmp}{op:Op}{t:TypeId}{p:String}{af:Array Edge}:aDr P ctx n ms nx h0 Q all (⟨d,op,t,p,af,none⟩::l) i acc rs T=aDk P ctx n ms nx h0 Q all d l i (acc++[iA acc af.toList]) rs T (aOp P ctx (nx+16*i) op (evT T) (xz (d6 ms.hs i) (Hp (bit (iA acc af.toList)) rs 0 h0))):=by simp only[aDr,aDk]
theorem M3 {d:Option Tmp}{op:Op}{t:TypeId}{p:String}{af:Array Edge}{j:Nat}{want:Bool}(hd:bC n d=true)(hj:gAt all T j=.s (.l (.v (.bool want)))):aDr P ctx n ms nx h0 Q all (⟨d,op,t,p,af,some (j,want)⟩::l) i acc rs T=aDk P ctx n ms nx h0 Q all d l i (acc++[iA acc af.toList]) rs T (aOp P ctx (nx+16*i) op (evT T) (xz (d6 ms.hs i) (Hp (bit (iA acc af.toList)) rs 0 h0))):=by
 simp only[aDr,hj,hd,true_and,if_pos];cases aOp P ctx (nx+16*i) op (evT T) (xz (d6 ms.hs i) (Hp (bit (iA acc af.toList)) rs 0 h0))<;>simp[aDk,hd]
theorem PV {d:Option Tmp}{op:Op}{t:TypeId}{p:String}{af:Array Edge}{j:Nat}{want:Bool}(hd:bC n d=true)(hj:gAt all T j=.s (.l (.v (.bool (!want))))):aDr P ctx n ms nx h0 Q all (⟨d,op,t,p,af,some (j,want)⟩::l) i acc rs T=aDr P ctx n ms nx h0 Q all l (i+1) (acc++[iA acc af.toList]) (rs++[⟨d,.s (.l (.v (.tuple #[]))),[]⟩]) (putT T d (.s (.l (.v (.tuple #[]))))):=by
 simp only[aDr,hj,hd,true_and];rw[if_neg (by cases want<;>simp)]
theorem Jq {d:Option Tmp}{ob:Prop}{x:AV}{E:ag}:aDk P ctx n ms nx h0 Q all d l i acc rs T (some ⟨ob,x,E⟩)=(bC n d=true∧ob∧eOk ms nx i E∧aDr P ctx n ms nx h0 Q all l (i+1) acc (rs++[⟨d,x,E⟩]) (putT T d x)):=rfl
def Fa (P:Program)(ctx:Ctx P)(n:Nat)(ms:Ms)(nx:Nat)(h0:ag)(all:List Oper)(t0:cK)(bs:List Nat)(rs:List Ent)(k:Nat)(o:Oper)(e:Ent):Prop :=
 e.dst=o.dst∧bC n o.dst=true ∧
 (
  (∃R,aOp P ctx (nx+16*k) o.op (evT (Tm (fun _=>true) (rs.take k) 0 t0)) (xz (d6 ms.hs k) (Hp (bit (bs.getD k 0)) (rs.take k) 0 h0))=some R∧R.ob∧eOk ms nx k R.E∧e.r=R.r∧e.E=R.E∧(o.guard=none∨∃j want,o.guard=some (j,want)∧gAt all (Tm (fun _=>true) (rs.take k) 0 t0) j=.s (.l (.v (.bool want))))) ∨
  (e.r=.s (.l (.v (.tuple #[])))∧e.E=[]∧∃j want,o.guard=some (j,want)∧(gAt all (Tm (fun _=>true) (rs.take k) 0 t0) j=.s (.l (.v (.bool (!want))))∨gAt all (Tm (fun _=>true) (rs.take k) 0 t0) j=.s (.l (.v (.tuple ⟨[]⟩))))))
theorem Fc {p:Nat→Bool}{e:Ent}:∀{rs:List Ent} {k:Nat} {t:cK},Tm p (rs++[e]) k t=if p (k+rs.length) then putT (Tm p rs k t) e.dst e.r else Tm p rs k t
 |[],k,t=>by simp[Tm]
 |x::r,k,t=>by
  rw[cons_append,Tm,Fc,Tm];simp only[List.length_cons];rw[show k+1+r.length=k+(r.length+1) by omega]
theorem tA:∀{l:List Oper} {acc:List Nat} {k:Nat},k<acc.length→(fA acc l)[k]? = acc[k]?
 |[],_,_,_=>rfl
 |o::l,acc,k,h=>by
  rw[fA,tA (by simp;omega),List.getElem?_append_left h]
theorem Gu {o:Oper}{l:List Oper}{acc:List Nat}:(fA acc (o::l)).getD acc.length 0=iA acc o.after.toList:=by
 rw[fA,getD_eq_getElem?_getD,tA (by simp),List.getElem?_append_right (Nat.le_refl _)];simp
theorem Aj (t0:cK):∀{l:List Oper} {i:Nat} {acc:List Nat} {rs:List Ent} {T:cK},aDr P ctx n ms nx h0 Q all l i acc rs T→T=Tm (fun _=>true) rs 0 t0→acc.length=i→rs.length=i →
  ∃rs',rs'.length=i+l.length∧rs'.take i=rs∧(∀(k:Nat) (o:Oper),l[k]? = some o→∃e,rs'[i+k]? = some e∧Fa P ctx n ms nx h0 all t0 (fA acc l) rs' (i+k) o e)∧Q .normal ⟨nx+16*(i+l.length),Tm (fun _=>true) rs' 0 t0,Hp (fun _=>true) rs' 0 h0⟩
 |[],i,acc,rs,T,h,hT,ha,hr=>by
  simp only[aDr]at h;subst hT;exact⟨rs,by simp[hr],by rw[←hr];simp,by simp,by simpa using h⟩
 |o::l,i,acc,rs,T,h,hT,ha,hr=>by
  have go:∀(e:Ent),aDr P ctx n ms nx h0 Q all l (i+1) (acc++[iA acc o.after.toList]) (rs++[e]) (putT T e.dst e.r)→(∀rs':List Ent,rs'.take i=rs→Fa P ctx n ms nx h0 all t0 (fA acc (o::l)) rs' i o e)→∃rs',rs'.length=i+(o::l).length∧rs'.take i=rs∧(∀(k:Nat) (x:Oper),(o::l)[k]? = some x→∃e,rs'[i+k]? = some e∧Fa P ctx n ms nx h0 all t0 (fA acc (o::l)) rs' (i+k) x e)∧Q .normal ⟨nx+16*(i+(o::l).length),Tm (fun _=>true) rs' 0 t0,Hp (fun _=>true) rs' 0 h0⟩:=by
   intro e hn he;obtain⟨rs',g1,g2,g3,g4⟩:=Aj t0 (l:=l) hn (by rw[Fc,if_pos rfl,hT]) (by simp[ha]) (by simp[hr])
   have hpre:rs'.take i=rs:=by
    have:=congrArg (List.take i) g2;rw[List.take_take,Nat.min_eq_left (by omega)]at this;rw[this,←hr,List.take_left]
   have hei:rs'[i]? = some e:=by
    have:(rs'.take (i+1))[i]? = some e:=by rw[g2,←hr,List.getElem?_append_right (Nat.le_refl _)];simp
    rwa [List.getElem?_take,if_pos (by omega)]at this
   refine⟨rs',by rw[g1,List.length_cons];omega,hpre,?_,?_⟩
   ·intro k x hx;cases k with
    |zero =>
     simp at hx;subst hx;exact⟨e,hei,he rs' hpre⟩
    |succ k =>
     have:=g3 k x (by simpa using hx);rw[show i+1+k=i+(k+1) by omega]at this;exact this
   ·rw[show i+(o::l).length=i+1+l.length by simp;omega];exact g4
  have hbs:(fA acc (o::l)).getD i 0=iA acc o.after.toList:=by rw[←ha];exact Gu
  simp only[aDr]at h;split at h
  ·rename_i hg;split at h
   case h_2=>exact h.elim
   rename_i R hR;obtain⟨h1,h2,h3,h4⟩:=h;refine go ⟨o.dst,R.r,R.E⟩ h4 fun rs' hp=>⟨rfl,h1,.inl ⟨R,?_,h2,h3,rfl,rfl,.inl hg⟩⟩;rw[hp,hbs,←hT];exact hR
  ·rename_i j want hg;split at h
   case h_3=>exact h.elim
   case h_1 q hq =>
    obtain⟨h1,h⟩:=h;split at h
    ·rename_i hqw;split at h
     case h_2=>exact h.elim
     rename_i R hR;obtain⟨h1,h2,h3,h4⟩:=h;refine go ⟨o.dst,R.r,R.E⟩ h4 fun rs' hp=>⟨rfl,h1,.inl ⟨R,?_,h2,h3,rfl,rfl,.inr ⟨j,want,hg,?_⟩⟩⟩
     ·rw[hp,hbs,←hT];exact hR
     ·rw[hp,←hT,hq,hqw]
    ·rename_i hqw;refine go ⟨o.dst,.s (.l (.v (.tuple #[]))),[]⟩ h fun rs' hp=>⟨rfl,h1,.inr ⟨rfl,rfl,j,want,hg,.inl ?_⟩⟩;rw[hp,←hT,hq];cases q<;>cases want<;>simp_all
   case h_2 hq =>
    obtain⟨h1,h⟩:=h;refine go ⟨o.dst,.s (.l (.v (.tuple #[]))),[]⟩ h fun rs' hp=>⟨rfl,h1,.inr ⟨rfl,rfl,j,want,hg,.inr ?_⟩⟩;rw[hp,←hT,hq]
end
section
variable {P:Program}{ctx:Ctx P}{ro:Cf}{n:Nat}{B:cX}{w0:World}{ρ:Nat→Loc}{al:Al}{a:Act}{w:World}
theorem Nb {t:cK}{h:ag}(hT:TRep ρ al t a.tmps)(hW:WRep B w0 ρ al h w){id:Nat}(hid:∀b,id≤b→b<id+16→¬al b){o:Oper}{R:Res}{Q:Exit→Act→World→Prop}{K:Act→World→Prop}(hs:aOp P ctx id o.op (evT t) h=some R)(hob:R.ob)
  (hK:∀v w' ρ' al',Ext ρ ρ' al al'→(∀b,al' b→alW al id b)→ARep ρ' al' R.r v→WRep B w0 ρ' al' (R.E++h) w'→KeepsD w w'→K (a.put o.dst v) w'):o.wpIn (Fw ro) 0 P a w K Q:=by
 refine⟨fun _ _=>trivial,?_⟩;rw[Oper.semAt_eq _ _ _ (tv hs)];rcases aOp_runs hW.rebase (gJ hT) hid hs hob with ⟨m,v,w',ρ',hr,hm,hE,hA,hw⟩ | ⟨g,args,vals,hr,sp,hrun,vs,rfl,hA⟩
 ·rw[hr];rcases hm with rfl | ⟨rfl,rfl⟩
  ·exact hK v w' ρ' _ hE (fun _ hb=>hb) hA (hW.unbase hw) hw.below.kept
  ·exact hK undef w' ρ' _ hE (fun _ hb=>hb) hA (hW.unbase hw) hw.below.kept
 ·rw[hr];refine⟨fun h=>by simp[Fw,Fence.wide]at h,gS.2 (Calls.mono (sp.sound hrun hob vs hW.rebase hid hA) ?_)⟩;rintro e w' ⟨v,ρ',al',rfl,hE,hsub,hr',hw⟩;exact hK v w' ρ' al' hE hsub hr' (hW.unbase hw) hw.below.kept
theorem Fd {p:Nat→Bool}:∀{rs:List Ent} {i k:Nat} {t:cK},Tm p (rs.take i) k t=Tm (fun m=>p m&&decide (m<k+i)) rs k t
 |[],i,k,t=>by simp[Tm]
 |e::r,0,k,t=>by
  have hz:∀(r:List Ent) (k':Nat) (t:cK),k≤k'→Tm (fun m=>p m&&decide (m<k+0)) r k' t=t:=by
   intro r
   induction r with
   |nil=>intro k' t _;rfl
   |cons x r ih =>
    intro k' t hk;rw[Tm,if_neg (by simp;omega),ih _ _ (by omega)]
  rw[hz _ _ _ (Nat.le_refl _)];rfl
 |e::r,i+1,k,t=>by
  rw[List.take_succ_cons,Tm,Tm,Fd];have e1:(p k&&decide (k<k+(i+1)))=p k:=by simp
  rw[e1];congr 1;funext m;rw[show k+1+i=k+(i+1) by omega]
theorem yN {p:Nat→Bool}:∀{rs:List Ent} {i k:Nat} {t:ag},Hp p (rs.take i) k t=Hp (fun m=>p m&&decide (m<k+i)) rs k t
 |[],i,k,t=>by simp[Hp]
 |e::r,0,k,t=>by
  have hz:∀(r:List Ent) (k':Nat) (t:ag),k≤k'→Hp (fun m=>p m&&decide (m<k+0)) r k' t=t:=by
   intro r
   induction r with
   |nil=>intro k' t _;rfl
   |cons x r ih =>
    intro k' t hk;rw[Hp,if_neg (by simp;omega),ih _ _ (by omega)]
  rw[hz _ _ _ (Nat.le_refl _)];rfl
 |e::r,i+1,k,t=>by
  rw[List.take_succ_cons,Hp,Hp,yN];have e1:(p k&&decide (k<k+(i+1)))=p k:=by simp
  rw[e1];congr 1;funext m;rw[show k+1+i=k+(i+1) by omega]
structure DOk (l:List Oper)(ms:Ms):Prop where
 edge:∀(i:Nat) (o:Oper),l[i]? = some o→∀e∈o.after.toList,mV e=true→e.on<i
 bef:∀(i:Nat) (o:Oper) (k:Nat),l[i]? = some o→k<l.length→bit ((fA [] l).getD i 0) k=true→k<i∧∃e∈o.after.toList,mV e=true∧(e.on=k∨bit ((fA [] l).getD e.on 0) k=true)
 tied:∀(i k:Nat) (o x:Oper),l[i]? = some o→l[k]? = some x→k≠i→(tied l o x=true∨(k∈ms.ms∧x4 o.op=true))→bit ((fA [] l).getD i 0) k=true∨bit ((fA [] l).getD k 0) i=true
 guard:∀(i:Nat) (o:Oper) (g:Nat) (want:Bool),l[i]? = some o→o.guard=some (g,want)→bit ((fA [] l).getD i 0) g=true∧g<l.length
 free:∀(i:Nat) (o:Oper),l[i]? = some o→∀m∈ms.fs,m.1≠i→bit ((fA [] l).getD i 0) m.1=true∨bit ((fA [] l).getD m.1 0) i=true∨∀b∈m.2,b∈d6 ms.hs i
theorem DOk.unord {l:List Oper}{ms:Ms}(D:DOk l ms){i j b:Nat}{o:Oper}(ho:l[i]? = some o)(hne:j≠i)(hb:b∈d6 ms.fs j)(hn:b∉d6 ms.hs i):bit ((fA [] l).getD i 0) j=true∨bit ((fA [] l).getD j 0) i=true:=by
 obtain⟨m,h1,rfl,h2⟩:=qm hb;rcases D.free i o ho m h1 hne with h | h | h
 ·exact .inl h
 ·exact .inr h
 ·exact(hn (h b h2)).elim
theorem DC {l:List Oper}{ms:Ms}(h:vo l ms=true):DOk l ms:=by
 unfold vo at h
 have key:∀(i:Nat) (o:Oper),l[i]? = some o→_:=fun i o ho=>by
  have h1:=List.all_eq_true.1 h i (List.mem_range.2 (List.getElem?_eq_some_iff.1 ho).1);rw[ho]at h1;simp only[and_eq_true]at h1;exact h1
 refine⟨fun i o ho e he hb=>?_,fun i o k ho hk hb=>?_,fun i k o x ho hx hne ht=>?_,fun i o g want ho hg=>?_,fun i o ho m hm hne=>?_⟩
 ·have:=List.all_eq_true.1 (key i o ho).1.1.1.2 e he;simpa[hb] using this
 ·have:=List.all_eq_true.1 (key i o ho).1.1.2 k (List.mem_range.2 hk);simp only[hb,Bool.not_true,Bool.false_or,and_eq_true,decide_eq_true_eq,List.any_eq_true,or_eq_true,beq_iff_eq]at this;obtain⟨h1,e,h2,h3⟩:=this;exact⟨h1,e,h2,h3⟩
 ·have:=List.all_eq_true.1 (key i o ho).1.2 k (List.mem_range.2 (List.getElem?_eq_some_iff.1 hx).1);simp only[hx,or_eq_true,decide_eq_true_eq]at this;rcases this with ((h1 | h1) | h1) | h1
  ·exact(hne h1).elim
  ·exact .inl h1
  ·exact .inr h1
  ·simp only[and_eq_true,not_eq_true',Bool.and_eq_false_iff]at h1;rcases ht with ht | ⟨h2,h3⟩
   ·rw[ht]at h1;exact absurd h1.1 (by simp)
   ·rcases h1.2 with h4 | h4
    ·exact absurd h4 (by simp[h2])
    ·rw[h3]at h4;exact absurd h4 (by simp)
 ·have:=(key i o ho).2;rw[hg]at this;simpa using this
 ·have:=List.all_eq_true.1 (key i o ho).1.1.1.1 m hm;simp only[or_eq_true,decide_eq_true_eq,List.all_eq_true,List.contains_iff_mem]at this;rcases this with ((h1 | h1) | h1) | h1
  ·exact(hne h1).elim
  ·exact .inl h1
  ·exact .inr (.inl h1)
  ·exact .inr (.inr h1)
theorem FX {l:List Oper}{x y:Oper}{d:Tmp}(h:(x.dst=some d∧(d∈vP y l∨y.dst=some d))∨(y.dst=some d∧d∈vP x l)):tied l x y=true:=by
 unfold tied;rcases h with ⟨h1,h2⟩ | ⟨h1,h2⟩
 ·rw[h1];simp only[or_eq_true,List.contains_iff_mem,beq_iff_eq];exact .inl h2
 ·rw[h1];simp only[or_eq_true,List.contains_iff_mem];exact .inr h2
theorem AU {len:Nat}{p:Nat→Prop}(h:∃j,j<len∧p j):∃j,j<len∧p j∧∀m,j<m→m<len→¬p m:=by
 obtain⟨k,hk,hl⟩:=bR (p:=fun k=>∃j,j<len∧p j∧len-j=k) (by obtain⟨j,h1,h2⟩:=h;exact⟨_,j,h1,h2,rfl⟩);obtain⟨j,h1,h2,h3⟩:=hk;exact⟨j,h1,h2,fun m hm hml hp=>by have:=hl _ ⟨m,hml,hp,rfl⟩;omega⟩
end
section
variable {P:Program}{ctx:Ctx P}{ro:Cf}{n:Nat}{B:cX}{w0:World}
def lst (listed:Array Bool)(k:Nat):Bool:=listed.getD k false
structure Phi (n:Nat)(B:cX)(w0:World)(l:List Oper)(rs:List Ent)(s:St)(listed:Array Bool)(a:Act)(w:World):Prop where
 len:listed.size=l.length
 down:∀k j,k<l.length→j<l.length→lst listed k=true→bit ((fA [] l).getD k 0) j=true→lst listed j=true
 size:a.tmps.size=n
 defers:Marks w0.heap.size B.ds a.defers w
 rep:∃ρ al,TRep ρ al (Tm (lst listed) rs 0 s.t) a.tmps∧WRep B w0 ρ al (Hp (lst listed) rs 0 s.h) w∧∀b,al b→b<s.nx∨∃k,k<l.length∧lst listed k=true∧s.nx+16*k≤b∧b<s.nx+16*k+16
theorem NZ {listed:Array Bool}{i k:Nat}(hi:i<listed.size):lst (listed.setIfInBounds i true) k=(lst listed k||decide (k=i)):=by
 unfold lst;rw[Array.getD_eq_getD_getElem?,Array.getElem?_setIfInBounds,Array.getD_eq_getD_getElem?];by_cases e:i=k
 ·subst e;rw[if_pos rfl,if_pos hi];simp
 ·rw[if_neg e];have:¬k=i:=fun h=>e h.symm;simp[this]
theorem Phi.next {l:List Oper}{ms:Ms}(D:DOk l ms){rs:List Ent}{s:St}{Q:Exit→Act→World→Prop}{K:Act→World→Prop}(hlen:rs.length=l.length)
  (hent:∀(k:Nat) (o:Oper),l[k]? = some o→∃e,rs[k]? = some e∧Fa P ctx n ms s.nx s.h l s.t (fA [] l) rs k o e)
  (hh0:∀b k,ac s.h b=some k→b<s.nx)
  {listed:Array Bool} {a:Act} {w:World} (H:Phi n B w0 l rs s listed a w) {i:Nat} {o:Oper} (ho:l[i]? = some o) (hi:lst listed i=false) (hrdy:∀e∈o.after.toList,mV e=true→lst listed e.on=true)
  (hK:∀a' w',Phi n B w0 l rs s (listed.setIfInBounds i true) a' w'→K a' w') :
  if Region.wanted o (yielded l.toArray a.tmps) then o.wpIn (Fw ro) 0 P a w K Q else(∀f,o.about P w a.eval=some f→(Fw ro).fn f)∧K (a.put o.dst undef) w:=by
 have hil:i<l.length:=(List.getElem?_eq_some_iff.1 ho).1;have his:i<listed.size:=by rw[H.len];exact hil
 have hbef:∀k,k<l.length→bit ((fA [] l).getD i 0) k=true→lst listed k=true:=by
  intro k hk hb;obtain⟨_,e,he,hbe,h | h⟩:=D.bef i o k ho hk hb
  ·rw[←h];exact hrdy e he hbe
  ·have h1:=D.edge i o ho e he hbe;exact H.down e.on k (by omega) hk (hrdy e he hbe) h
 have hbeh:∀k,k<l.length→bit ((fA [] l).getD k 0) i=true→lst listed k=false:=by
  intro k hk hb;cases hq:lst listed k with
  |false=>rfl
  |true=>have:=H.down k i hk hil hq hb;rw[hi]at this;cases this
 have hdst:∀(k:Nat) (e:Ent),rs[k]? = some e→∃x,l[k]? = some x∧e.dst=x.dst:=by
  intro k e he;have hk:k<l.length:=by rw[←hlen];exact(List.getElem?_eq_some_iff.1 he).1
  obtain⟨e',h1,h2⟩:=hent k l[k] (getElem?_eq_getElem hk);rw[he]at h1;injection h1 with h1;subst h1;exact⟨_,getElem?_eq_getElem hk,h2.1⟩
 have hslot:∀d,d∈vP o l→bI (Tm (fun _=>true) (rs.take i) 0 s.t) d=bI (Tm (lst listed) rs 0 s.t) d:=by
  intro d hd;rw[Fd];refine qL rfl fun j e he hde=>?_;simp only[Nat.zero_add,Bool.true_and];obtain⟨x,hx,hxd⟩:=hdst j e he;have hj:j<l.length:=(List.getElem?_eq_some_iff.1 hx).1;by_cases hji:j=i
  ·subst hji;rw[hi];simp
  ·rcases D.tied i j o x ho hx hji (.inl (FX (.inr ⟨hxd▸hde,hd⟩))) with h | h
   ·have:=(D.bef i o j ho hj h).1;rw[hbef j hj h];simpa using this
   ·have:=(D.bef j x i hx hil h).1;rw[hbeh j hj h];simp;omega
 obtain⟨e,hei,hed,hdok,hcase⟩:=hent i o ho;obtain⟨ρ,al,hT,hW,hal⟩:=H.rep
 have hid:∀b,s.nx+16*i≤b→b<s.nx+16*i+16→¬al b:=by
  intro b h1 h2 hb;rcases hal b hb with h | ⟨k,hk,hlk,h3,h4⟩
  ·omega
  ·have:k=i:=by omega
   subst this;rw[hi]at hlk;cases hlk
 have hgat:∀(g:Nat) (want:Bool),o.guard=some (g,want)→gAt l (Tm (lst listed) rs 0 s.t) g=gAt l (Tm (fun _=>true) (rs.take i) 0 s.t) g:=by
  intro g want hg;unfold gAt;obtain⟨_,hgl⟩:=D.guard i o g want ho hg;cases hx:l[g]? with
  |none=>rfl
  |some x =>
   simp only;cases hxd:x.dst with
   |none=>rfl
   |some d =>
    simp only;exact(hslot d (by unfold vP;simp[hg,hx,hxd])).symm
 have hguard:∀(g:Nat) (want q:Bool),o.guard=some (g,want)→gAt l (Tm (fun _=>true) (rs.take i) 0 s.t) g=.s (.l (.v (.bool q)))→yielded l.toArray a.tmps g=some q:=fun g want q hg hq=>sC hT H.size ((hgat g want hg).trans hq);have hgnone:∀(g:Nat) (want:Bool),o.guard=some (g,want)→gAt l (Tm (fun _=>true) (rs.take i) 0 s.t) g=.s (.l (.v (.tuple ⟨[]⟩)))→yielded l.toArray a.tmps g=none:=fun g want hg hq=>vz hT ((hgat g want hg).trans hq)
 have fin:∀v w' ρ' al',Ext ρ ρ' al al'→(∀b,al' b→alW al (s.nx+16*i) b)→ARep ρ' al' e.r v→WRep B w0 ρ' al' (e.E++Hp (lst listed) rs 0 s.h) w'→KeepsD w w'→(∀b,inE e.E b=true→b<s.nx+16*(i+1)∧(e.E≠[]→x4 o.op=true)∧b∉d6 ms.hs i)→K (a.put o.dst v) w':=by
  intro v w' ρ' al' hE hsub hA hw hko hEi;have hp':∀k,lst (listed.setIfInBounds i true) k=(lst listed k||decide (k=i)):=fun k=>NZ his;have hpi:lst (listed.setIfInBounds i true) i=true:=by rw[hp'];simp
  have hpn:∀k,k≠i→lst (listed.setIfInBounds i true) k=lst listed k:=fun k hk=>by rw[hp'];simp[hk]
  refine hK _ _ ⟨by simp[H.len],?_,gD.trans H.size,(by rw[cT];exact H.defers.keep hko),ρ',al',?_,?_,?_⟩
  ·intro k j hk hj h1 h2;by_cases hji:j=i
   ·rw[hji];exact hpi
   ·rw[hpn j hji];by_cases hki:k=i
    ·subst hki;exact hbef j hj h2
    ·rw[hpn k hki]at h1;exact H.down k j hk hj h1 h2
  ·intro d;have hput:=(hT.ext hE).putT (d:=o.dst) H.size hdok hA d
   have e1:bI (Tm (lst (listed.setIfInBounds i true)) rs 0 s.t) d=bI (putT (Tm (lst listed) rs 0 s.t) o.dst e.r) d:=by
    by_cases hd:o.dst=some d
    ·rw[hd,putT,bI,if_pos rfl];refine Fb (hed.trans hd) hei (by rw[Nat.zero_add];exact hpi) fun m y hm hy hyd=>?_;rw[Nat.zero_add,hpn m (by omega)];obtain⟨x,hx,hxd⟩:=hdst m y hy;have hml:m<l.length:=(List.getElem?_eq_some_iff.1 hx).1;rcases D.tied i m o x ho hx (by omega) (.inl (FX (.inl ⟨hd,.inr (hxd▸hyd)⟩))) with h | h
     ·have:=(D.bef i o m ho hml h).1;omega
     ·exact hbeh m hml h
    ·have e2:bI (putT (Tm (lst listed) rs 0 s.t) o.dst e.r) d=bI (Tm (lst listed) rs 0 s.t) d:=by
      cases hq:o.dst with
      |none=>rfl
      |some q=>rw[putT,bI,if_neg (fun hh=>hd (by rw[hq,hh]))]
     rw[e2];refine qL rfl fun j y hy hyd=>?_;rw[Nat.zero_add];refine hpn j ?_;rintro rfl;rw[hei]at hy;injection hy with hy;subst hy;exact hd (hed▸hyd)
   rw[e1];exact hput
  ·refine hw.sub fun b k hk=>?_;rw[←hk,my];split
   ·rename_i hb;refine(ut hb hei (by rw[Nat.zero_add];exact hpi) fun m y hm hy hyb=>?_).symm;rw[Nat.zero_add,hpn m (by omega)];obtain⟨x,hx,hxd⟩:=hdst m y hy;have hml:m<l.length:=(List.getElem?_eq_some_iff.1 hx).1;obtain⟨y',hy',hok⟩:=hent m x hx;rw[hy]at hy';injection hy' with hy';subst hy';have hne:e.E≠[]:=by intro h0;rw[h0]at hb;simp[inE]at hb
    have hord:bit ((fA [] l).getD i 0) m=true∨bit ((fA [] l).getD m 0) i=true:=by
     rcases hok.2.2 with ⟨R,_,_,hk1,_,hk2,_⟩ | ⟨_,hk2,_⟩
     ·rw[hk2]at hyb;obtain⟨h1,h2,_⟩:=sA hk1 hyb;rcases h2 with h2 | h2 | h2
      ·have:=(hEi b hb).1;omega
      ·exact D.tied i m o x ho hx (by omega) (.inr ⟨h2,(hEi b hb).2.1 hne⟩)
      ·exact D.unord ho (by omega) h2 (hEi b hb).2.2
     ·rw[hk2]at hyb;simp[inE]at hyb
    rcases hord with h | h
    ·have:=(D.bef i o m ho hml h).1;omega
    ·exact hbeh m hml h
   ·rename_i hb;refine(uF rfl fun j y hy hyb=>?_).symm;rw[Nat.zero_add];refine hpn j ?_;rintro rfl;rw[hei]at hy;injection hy with hy;subst hy;exact hb hyb
  ·intro b hb';rcases hsub b hb' with hb | hb
   ·rcases hal b hb with h | ⟨k,hk,hlk,h3,h4⟩
    ·exact .inl h
    ·exact .inr ⟨k,hk,by rw[hp',hlk];rfl,h3,h4⟩
   ·exact .inr ⟨i,hil,hpi,hb.1,hb.2⟩
 rcases hcase with ⟨R,hR,hob,hek,hr1,hr2,hg⟩ | ⟨hr1,hr2,g,want,hg,hq⟩
 ·have hw:Region.wanted o (yielded l.toArray a.tmps)=true:=by
   rcases hg with hg | ⟨g,want,hg,hq⟩
   ·simp[Region.wanted,hg]
   ·have:=hguard g want want hg hq;simp[Region.wanted,hg,this]
  rw[if_pos hw]
  have hops:∀x∈o.op.operands,evT (Tm (fun _=>true) (rs.take i) 0 s.t) x=evT (Tm (lst listed) rs 0 s.t) x:=by
   intro x hx;cases x with
   |tmp d =>
    refine hslot d ?_;unfold vP;refine List.mem_append.2 (.inl (List.mem_filterMap.2 ⟨.tmp d,by simpa using hx,rfl⟩))
   |const v=>rfl
   |global g=>rfl
   |func f=>rfl
  rw[F7 hops]at hR
  have hR':aOp P ctx (s.nx+16*i) o.op (evT (Tm (lst listed) rs 0 s.t)) (Hp (lst listed) rs 0 s.h)=some R:=by
   cases hhp:x4 o.op with
   |false=>exact(xB hhp hR).1
   |true =>
    refine Jv (fun b k hk=>?_) hR;obtain⟨hnb,hk⟩:=x5 hk;rw[←hk,yN]
    have hq:∀(j:Nat) (y:Ent),rs[j]? = some y→inE y.E b=true→lst listed j=true→s.nx+16*j≤b∨(bit ((fA [] l).getD i 0) j&&decide (j<0+i))=true:=by
     intro j y hy hyb hlj;obtain⟨x,hx,hxd⟩:=hdst j y hy;have hjl:j<l.length:=(List.getElem?_eq_some_iff.1 hx).1;obtain⟨y',hy',hok⟩:=hent j x hx;rw[hy]at hy';injection hy' with hy';subst hy';rcases hok.2.2 with ⟨R',_,_,hk1,_,hk2,_⟩ | ⟨_,hk2,_⟩
     ·rw[hk2]at hyb;obtain⟨h1,h2,_⟩:=sA hk1 hyb;have hji:j≠i:=by rintro rfl;rw[hi]at hlj;cases hlj
      have hor:(bit ((fA [] l).getD i 0) j=true∨bit ((fA [] l).getD j 0) i=true)→(bit ((fA [] l).getD i 0) j&&decide (j<0+i))=true:=by
       rintro (h | h)
       ·have:=(D.bef i o j ho hjl h).1;rw[h,Bool.true_and];exact decide_eq_true (by omega)
       ·have:=hbeh j hjl h;rw[hlj]at this;cases this
      rcases h2 with h2 | h2 | h2
      ·exact .inl h2
      ·exact .inr (hor (D.tied i j o x ho hx hji (.inr ⟨h2,hhp⟩)))
      ·exact .inr (hor (D.unord ho hji h2 hnb))
     ·rw[hk2]at hyb;simp[inE]at hyb
    have hub:∀(j:Nat) (y:Ent),rs[j]? = some y→inE y.E b=true→b<s.nx+16*(j+1):=by
     intro j y hy hyb;obtain⟨x,hx,hxd⟩:=hdst j y hy;obtain⟨y',hy',hok⟩:=hent j x hx;rw[hy]at hy';injection hy' with hy';subst hy';rcases hok.2.2 with ⟨R',_,_,hk1,_,hk2,_⟩ | ⟨_,hk2,_⟩
     ·rw[hk2]at hyb;exact(sA hk1 hyb).1
     ·rw[hk2]at hyb;simp[inE]at hyb
    by_cases hex:∃j,j<rs.length∧∃y,rs[j]? = some y∧inE y.E b=true∧(bit ((fA [] l).getD i 0) j&&decide (j<0+i))=true
    ·obtain⟨j,hj,⟨y,hy,hyb,hqj⟩,hlast⟩:=AU hex;have hlj:lst listed j=true:=hbef j (by omega) (by simp only[and_eq_true]at hqj;exact hqj.1)
     have h1:ac (Hp (lst listed) rs 0 s.h) b=ac y.E b:=by
      refine ut (p:=lst listed) hyb hy (by rw[Nat.zero_add];exact hlj) fun m z hm hz hzb=>?_;rw[Nat.zero_add];cases hlm:lst listed m with
      |false=>rfl
      |true =>
       rcases hq m z hz hzb hlm with h | h
       ·have:=hub j y hy hyb;omega
       ·exact(hlast m hm (List.getElem?_eq_some_iff.1 hz).1 ⟨z,hz,hzb,h⟩).elim
     have h2:ac (Hp (fun m=>bit ((fA [] l).getD i 0) m&&decide (m<0+i)) rs 0 s.h) b=ac y.E b:=by
      refine ut (p:=fun m=>bit ((fA [] l).getD i 0) m&&decide (m<0+i)) hyb hy (by simp only[Nat.zero_add]at hqj ⊢;exact hqj) fun m z hm hz hzb=>?_;simp only[Nat.zero_add];cases hqm:(bit ((fA [] l).getD i 0) m&&decide (m<i)) with
      |false=>rfl
      |true=>exact(hlast m hm (List.getElem?_eq_some_iff.1 hz).1 ⟨z,hz,hzb,by rw[Nat.zero_add];exact hqm⟩).elim
     exact h1.trans h2.symm
    ·have hno:∀(j:Nat) (y:Ent),rs[j]? = some y→inE y.E b=true→(bit ((fA [] l).getD i 0) j&&decide (j<0+i))=false:=by
      intro j y hy hyb;cases hqm:(bit ((fA [] l).getD i 0) j&&decide (j<0+i)) with
      |false=>rfl
      |true=>exact(hex ⟨j,(List.getElem?_eq_some_iff.1 hy).1,y,hy,hyb,hqm⟩).elim
     have h2:ac (Hp (fun m=>bit ((fA [] l).getD i 0) m&&decide (m<0+i)) rs 0 s.h) b=ac s.h b :=
      qK (p:=fun m=>bit ((fA [] l).getD i 0) m&&decide (m<0+i)) fun j y hy hyb=>by simp only[Nat.zero_add];have:=hno j y hy hyb;simpa only[Nat.zero_add] using this
     have hk0:ac s.h b=some k:=by rw[←hk,yN];exact h2.symm
     have hb0:=hh0 b k hk0
     have h1:ac (Hp (lst listed) rs 0 s.h) b=ac s.h b:=by
      refine qK (p:=lst listed) fun j y hy hyb=>?_;rw[Nat.zero_add];cases hlm:lst listed j with
      |false=>rfl
      |true =>
       rcases hq j y hy hyb hlm with h | h
       ·omega
       ·rw[hno j y hy hyb]at h;cases h
     exact h1.trans h2.symm
  refine Nb hT hW hid hR' hob fun v w' ρ' al' hE hsub hA hw' hko=>fin v w' ρ' al' hE hsub (by rw[hr1];exact hA) (by rw[hr2];exact hw') hko fun b hb=>?_;rw[hr2]at hb ⊢;refine⟨(sA hek hb).1,fun hne=>?_,(sA hek hb).2.2⟩;cases hhp:x4 o.op with
  |true=>rfl
  |false=>exact(hne (xB (id':=0) (h':=[]) hhp hR').2).elim
 ·have hnw:¬Region.wanted o (yielded l.toArray a.tmps)=true:=by
   rcases hq with hq | hq
   ·have hy:=hguard g want (!want) hg hq;simp only[Region.wanted,hg,hy];cases want<;>decide
   ·have hy:=hgnone g want hg hq;simp[Region.wanted,hg,hy]
  rw[if_neg hnw];refine⟨fun _ _=>trivial,fin undef w ρ _ (lT _) (fun _ hb=>hb) (by rw[hr1];exact mQ) (by rw[hr2];exact hW.lift uw) (.refl w) fun b hb=>?_⟩;rw[hr2]at hb;simp[inE]at hb
theorem Nz {listed:Array Bool}{i:Nat}(hi:i<listed.size)(hl:lst listed i=false):(listed.setIfInBounds i true).toList.count false+1=listed.toList.count false:=by
 have hg:listed.toList[i]'(by simpa using hi)=false:=by
  unfold lst at hl;rw[Array.getD_eq_getD_getElem?,Array.getElem?_eq_getElem hi]at hl;simpa using hl
 have hpos:0<listed.toList.count false:=List.count_pos_iff.2 (hg▸List.getElem_mem _);rw[Array.toList_setIfInBounds,List.count_set (by simpa using hi),hg];simp;have:0<Array.count false listed:=by simpa using hpos
 omega
theorem bu (hm:P.follows .mixedOrders=true){id:Nat}{l:List Oper}(ms:Ms)(hok:vo l ms=true){s:St}{Q:Exit→St→Prop}(h:aDr P ctx n ms s.nx s.h Q l l 0 [] [] s.t):SW P ro n (.region id l.toArray true) s Q:=by
 intro B w0 ρ al a w hpl H;have D:=DC hok;obtain⟨rs,hlen,-,hent,hq⟩:=Aj s.t h rfl rfl rfl;simp only[Nat.zero_add]at hlen hent hq;have hh0:∀b k,ac s.h b=some k→b<s.nx:=fun b k hk=>H.al b (H.w.blk b k hk).here;refine wpIn_region_any hm ?_
 have key:∀(fuel:Nat) (listed:Array Bool) (a:Act) (w:World),Phi n B w0 l rs s listed a w→listed.toList.count false≤fuel→wpAnyIn (Fw ro) 0 P .any l.toArray (fun e a' w'=>∃ρ' al' s',RepS n B w0 ρ' al' s' a' w'∧Q e s') fuel listed a w:=by
  have hdone:∀(listed:Array Bool) (a:Act) (w:World),Phi n B w0 l rs s listed a w→Region.ready .any l.toArray listed=[]→∃ρ' al' s',RepS n B w0 ρ' al' s' a w∧Q .normal s':=by
   intro listed a w H hr
   have hall:∀k,k<l.length→lst listed k=true:=by
    intro k
    induction k using Nat.strongRecOn with
    |_ k ih =>
     intro hk;cases hlk:lst listed k with
     |true=>rfl
     |false =>
      exfalso;have hks:k<listed.size:=by rw[H.len];exact hk
      have:k∈Region.ready .any l.toArray listed:=by
       unfold Region.ready;refine List.mem_filter.2 ⟨List.mem_range.2 (by simpa using hk),?_⟩
       have h1:listed.getD k true=false:=by
        unfold lst at hlk;rw[Array.getD_eq_getD_getElem?,Array.getElem?_eq_getElem hks]at hlk ⊢;exact hlk
       simp only[h1,Bool.not_false,Bool.true_and,List.getElem?_toArray,getElem?_eq_getElem hk,map_some,getD_some];rw[←Array.all_toList,List.all_eq_true];intro e he;cases hb:Region.binds .any e with
       |false=>rfl
       |true =>
        have h2:=D.edge k l[k] (getElem?_eq_getElem hk) e he hb;have h3:=ih e.on h2 (by omega);unfold lst at h3;simpa using h3
      rw[hr]at this;cases this
   obtain⟨ρ,al,hT,hW,hal⟩:=H.rep
   have hlt:∀(j:Nat) (e:Ent),rs[j]? = some e→lst listed (0+j)=true:=fun j e he=>by
    rw[Nat.zero_add];exact hall j (by rw[←hlen];exact(List.getElem?_eq_some_iff.1 he).1)
   refine⟨ρ,al,_,⟨H.size,H.defers,fun d=>?_,hW.sub fun b k hk=>?_,fun b hb=>?_⟩,hq⟩
   ·have:=hT d;rw[qL (p':=fun _=>true) rfl fun j e he _=>hlt j e he]at this;exact this
   ·rw[←hk];exact uF rfl fun j e he _=>hlt j e he
   ·rcases hal b hb with h | ⟨k,hk,_,h3,h4⟩
    ·show b<_+_;omega
    ·show b<s.nx+16*l.length;omega
  intro fuel
  induction fuel with
  |zero =>
   intro listed a w H hc
   have hr:Region.ready .any l.toArray listed=[]:=by
    rw[List.eq_nil_iff_forall_not_mem];intro i hi;obtain⟨hi1,hi2⟩:=List.mem_filter.1 hi;have hil:i<listed.size:=by rw[H.len];simpa using hi1
    simp only[and_eq_true,not_eq_true']at hi2;have h0:listed.toList.count false=0:=by omega
    rw[List.count_eq_zero]at h0;apply h0
    have:listed[i]=false:=by
     have:=hi2.1
     rwa [Array.getD_eq_getD_getElem?,Array.getElem?_eq_getElem hil]at this
    rw[←this];simp
   exact⟨hr,hdone listed a w H hr⟩
  |succ fuel ih =>
   intro listed a w H hc;refine⟨hdone listed a w H,fun i hi=>?_⟩;obtain⟨hi1,hi2⟩:=List.mem_filter.1 hi;have hil:i<l.length:=by simpa using hi1
   have his:i<listed.size:=by rw[H.len];exact hil
   simp only[and_eq_true,not_eq_true',List.getElem?_toArray,getElem?_eq_getElem hil,map_some,getD_some]at hi2
   have hli:lst listed i=false:=by
    have:=hi2.1;unfold lst;rw[Array.getD_eq_getD_getElem?,Array.getElem?_eq_getElem his]at this ⊢;exact this
   have hrdy:∀e∈l[i].after.toList,mV e=true→lst listed e.on=true:=by
    intro e he hb;have:=hi2.2;rw[←Array.all_toList,List.all_eq_true]at this;have h1:=this e he;unfold mV at hb;rw[hb]at h1;unfold lst;simpa using h1
   unfold wpOpIn;simp only[List.getElem?_toArray,getElem?_eq_getElem hil];have hcs:=Nz his hli;have:=Phi.next (P:=P) (ctx:=ctx) (ro:=ro) (K:=wpAnyIn (Fw ro) 0 P .any l.toArray (fun e a' w'=>∃ρ' al' s',RepS n B w0 ρ' al' s' a' w'∧Q e s') fuel (listed.setIfInBounds i true)) (Q:=fun e a' w'=>∃ρ' al' s',RepS n B w0 ρ' al' s' a' w'∧Q e s') D hlen hent hh0 H (getElem?_eq_getElem hil) hli hrdy fun a' w' H'=>ih _ a' w' H' (by omega);split
   ·rename_i hw;rw[if_pos hw]at this;exact this
   ·rename_i hw;rw[if_neg hw]at this;exact this
 have hrep:lst (Array.replicate l.toArray.size false)=fun _=>false:=by
  funext k;unfold lst;rw[Array.getD_eq_getD_getElem?,Array.getElem?_replicate];split<;>rfl
 refine key _ _ _ _ ⟨by simp,(fun k j _ _ h _=>by rw[hrep]at h;cases h),H.size,H.defers,ρ,al,?_,?_,fun b hb=>.inl (H.al b hb)⟩ (by simp)
 ·intro d;rw[hrep,yT fun _ _ _ _=>rfl];exact H.t d
 ·refine(H.w.drew).sub fun b k hk=>?_;rw[hrep,qK fun _ _ _ _=>rfl]at hk;exact hk
theorem OU (hm:P.follows .mixedOrders=true){id:Nat}{l:List Oper}(ms:List Nat)(hok:vo l ⟨ms,[],[]⟩=true){s:St}{Q:Exit→St→Prop}(h:aDr P ctx n ⟨ms,[],[]⟩ s.nx s.h Q l l 0 [] [] s.t):SW P ro n (.region id l.toArray true) s Q:=bu hm _ hok h
end
section
def LV.ren (g:Nat→Nat):LV→LV
 |.v x=>.v x
 |.d x=>.d x
 |.sl b i n=>.sl (g b) i n
 |.p b i j=>.p (g b) i j
 |.bf h bs cs=>.bf h (bs.map g) (cs.map g)
 |.any=>.any
def SV.ren (g:Nat→Nat):SV→SV
 |.l x=>.l (x.ren g)
 |.agg xs=>.agg (xs.map (·.ren g))
def AV.ren (g:Nat→Nat):AV→AV
 |.s x=>.s (x.ren g)
 |.tup xs=>.tup (xs.map (·.ren g))
 |.fn f a c=>.fn f (a.map (·.ren g)) (c.map (·.ren g))
def Blk.ren (g:Nat→Nat)(k:Blk):Blk:=⟨k.own,k.T,k.sz,k.els.map (·.map (·.ren g))⟩
theorem LV.ren_v {g:Nat→Nat}{x:Value}:(LV.v x).ren g=.v x:=rfl
theorem LV.ren_d {g:Nat→Nat}{x:D}:(LV.d x).ren g=.d x:=rfl
theorem LV.ren_sl {g:Nat→Nat}{b i n:Nat}:(LV.sl b i n).ren g=.sl (g b) i n:=rfl
theorem LV.ren_p {g:Nat→Nat}{b i j:Nat}:(LV.p b i j).ren g=.p (g b) i j:=rfl
theorem LV.ren_bf {g:Nat→Nat}{h:FuncId}{bs cs:List Nat}:(LV.bf h bs cs).ren g=.bf h (bs.map g) (cs.map g):=rfl
theorem LV.ren_any {g:Nat→Nat}:LV.any.ren g=.any:=rfl
theorem FI {g:Nat→Nat}{x:D}:(ofD x).ren g=ofD x:=by cases x<;>rfl
theorem BH {g:Nat→Nat}{xs:List D}:(bp xs).map (·.ren g)=bp xs:=by
 unfold bp;rw[map_map];exact map_congr_left fun x _=>FI
theorem fS {g:Nat→Nat}{els:List (List D)}:(els.map bp).map (·.map (·.ren g))=els.map bp:=by
 rw[map_map];exact map_congr_left fun x _=>BH
def alR (al:Al)(g:Nat→Nat):Al:=⟨fun b=>al (g b),al.M⟩
section
variable {ρ:Nat→Loc}{al:Al}{g:Nat→Nat}
theorem LRep.ren {x:LV}{y:Value}(h:LRep ρ al (x.ren g) y):LRep (fun b=>ρ (g b)) (alR al g) x y:=by
 cases x
 case bf k bs cs =>
  obtain⟨h1,h2,h3⟩:=h;refine⟨fun b hb=>h1 _ (List.mem_map_of_mem hb),fun b hb=>h2 _ (List.mem_map_of_mem hb),?_⟩;rw[h3,map_map,map_map];rfl
 all_goals exact h
theorem LsRep.ren:∀{xs:List LV} {ys:List Value},LsRep ρ al (xs.map (·.ren g)) ys→LsRep (fun b=>ρ (g b)) (alR al g) xs ys
 |[],[],_=>trivial
 |[],_::_,h=>h.elim
 |_::_,[],h=>h.elim
 |_::_,_::_,⟨a,b,c⟩=>⟨a,b.ren,LsRep.ren c⟩
theorem SRep.ren {x:SV}{y:Value}(h:SRep ρ al (x.ren g) y):SRep (fun b=>ρ (g b)) (alR al g) x y:=by
 cases x with
 |l x=>exact LRep.ren h
 |agg xs=>obtain⟨cs,e,h⟩:=h;exact⟨cs,e,h.ren⟩
theorem SsRep.ren:∀{xs:List SV} {ys:List Value},SsRep ρ al (xs.map (·.ren g)) ys→SsRep (fun b=>ρ (g b)) (alR al g) xs ys
 |[],[],_=>trivial
 |[],_::_,h=>h.elim
 |_::_,[],h=>h.elim
 |_::_,_::_,⟨a,b⟩=>⟨a.ren,SsRep.ren b⟩
theorem ARep.ren {x:AV}{y:Value}(h:ARep ρ al (x.ren g) y):ARep (fun b=>ρ (g b)) (alR al g) x y:=by
 cases x with
 |s x=>exact SRep.ren h
 |tup xs=>obtain⟨cs,e,h⟩:=h;exact⟨cs,e,h.ren⟩
 |fn f a c=>obtain⟨fs,cs,e,h,k⟩:=h;exact⟨fs,cs,e,h.ren,k.ren⟩
theorem Di {els:List (List LV)}{i j:Nat}{x:LV}(h:cellAt els i j=some x):cellAt (els.map (·.map (·.ren g))) i j=some (x.ren g):=by
 obtain⟨e,h1,h2⟩:=aD.1 h;exact aD.2 ⟨e.map (·.ren g),by rw[List.getElem?_map,h1];rfl,by rw[List.getElem?_map,h2];rfl⟩
theorem BRep.ren {w:World}{b:Nat}{k:Blk}(h:BRep ρ al w (g b) (k.ren g)):BRep (fun b=>ρ (g b)) (alR al g) w b k :=
 ⟨h.here,h.own,h.sz,fun e he=>by have:=h.len (e.map (·.ren g)) (List.mem_map.2 ⟨e,he,rfl⟩);simpa[Blk.ren] using this,by simpa[Blk.ren] using h.cap,
  fun i j x hx=>by
   obtain⟨y,h1,h2,h3⟩:=h.cells i j _ (Di hx);exact⟨y,h1,h2,h3.ren⟩,h.room⟩
theorem tget_mem:∀{t:cK} {k:Nat} {A:AV},bI t k=A→A=.s (.l .any)∨(k,A)∈t
 |[],k,A,h=>.inl h.symm
 |(j,x)::r,k,A,h=>by
  rw[bI]at h;split at h
  ·rename_i e;subst e;subst h;exact .inr (by simp)
  ·rcases tget_mem h with h | h
   ·exact .inl h
   ·exact .inr (by simp[h])
theorem vC:∀{h:ag} {b:Nat} {k:Blk},ac h b=some k→(b,some k)∈h
 |[],_,_,h=>by cases h
 |(j,x)::r,b,k,h=>by
  rw[ac]at h;split at h
  ·rename_i e;subst e;subst h;simp
  ·simp[vC h]
end
theorem Wk.ren {ro:Cf}{s s':St}(L:List Nat)(hK:∀j,j<ro.K→L[j]? = some j)(hn:L.length≤s'.nx)(hd:L.Nodup)(ht:∀p∈s'.t,bI s.t p.1=p.2.ren fun b=>L.getD b s.nx)(hh:∀p∈s'.h,∀k,p.2=some k→ac s.h (L.getD p.1 s.nx)=some (k.ren fun b=>L.getD b s.nx)):Wk ro s s':=by
 intro n B w0 ρ al a w hpl H;have hno:¬al s.nx:=fun h=>Nat.lt_irrefl _ (H.al _ h)
 have hlt:∀b,al (L.getD b s.nx)→b<L.length:=by
  intro b hb;rcases lt_or_ge b L.length with h | h
  ·exact h
  ·rw[getD_eq_getElem?_getD,List.getElem?_eq_none h]at hb;exact(hno hb).elim
 have hb:∀b k,ac s'.h b=some k→ac s.h (L.getD b s.nx)=some (k.ren fun b=>L.getD b s.nx):=fun b k hk=>hh _ (vC hk) k rfl;refine⟨fun b=>ρ (L.getD b s.nx),alR al fun b=>L.getD b s.nx,H.size,H.defers,?_,⟨H.w.base,H.w.below,?_,?_,?_,?_,H.w.mem,?_,H.w.memNew,H.w.memOld,?_⟩,fun b hb=>Nat.lt_of_lt_of_le (hlt b hb) hn⟩
 ·intro k;rcases tget_mem (t:=s'.t) (k:=k) rfl with h | h
  ·rw[h];trivial
  ·have h1:=ht _ h;have h2:=H.t k;rw[h1]at h2;exact h2.ren
 ·exact fun b k hk=>(H.w.blk _ _ (hb b k hk)).ren
 ·exact fun b k hk ho hc=>H.w.own _ _ (hb b k hk) ho hc
 ·intro b k hk ho hne;exact H.w.old _ _ (hb b k hk) ho (by simpa[Blk.ren] using hne)
 ·intro b c k l hk hl ok ol cb cc hne;refine H.w.apart _ _ _ _ (hb b k hk) (hb c l hl) ok ol cb cc ?_;have h1:=hlt b (H.w.blk _ _ (hb b k hk)).here;have h2:=hlt c (H.w.blk _ _ (hb c l hl)).here;rw[getD_eq_getElem?_getD,getD_eq_getElem?_getD,getElem?_eq_getElem h1,getElem?_eq_getElem h2];exact fun e=>hne ((List.getElem_inj hd).1 e)
 ·exact fun b k hk ho hc=>H.w.memOwn _ _ (hb b k hk) ho hc
 ·intro j l hj;have hjK:j<ro.K:=by rw[←hpl];exact(List.getElem?_eq_some_iff.1 hj).1
  have e:L.getD j s.nx=j:=by rw[getD_eq_getElem?_getD,hK j hjK];rfl
  have:=H.w.pins j l hj;refine⟨?_,?_⟩
  ·show al (L.getD j s.nx);rw[e];exact this.1
  ·show ρ (L.getD j s.nx)=l;rw[e];exact this.2
def U5:AV→Nat
 |.s (.l (.sl b _ _))=>b
 |.s (.l (.p b _ _))=>b
 |_=>0
theorem Wk.nil {ro:Cf}{s:St}(k:Nat)(T:TypeId)(sz:Nat)(hk:bI s.t k=.s (.l (.v (.slice none 0 0)))):Wk ro s ⟨s.nx+1,(k,.s (.l (.sl s.nx 0 0)))::s.t,(s.nx,some ⟨true,T,sz,[]⟩)::s.h⟩:=by
 intro n B w0 ρ al a w _ H;have hid:¬al s.nx:=fun h=>Nat.lt_irrefl _ (H.al _ h);obtain⟨ρ',E,e,H'⟩:=H.w.virtual hid T sz;refine⟨ρ',al1 al s.nx,H.size,H.defers,?_,H',?_⟩
 ·intro j;rw[bI];split
  ·rename_i ej;subst ej;have:=H.t k;rw[hk]at this;have hv:a.tmps.getD k undef=.slice none 0 0:=this;rw[hv];exact⟨.inr rfl,none,by rw[e];rfl,by simp,fun h=>by rw[e]at h;simp at h⟩
  ·exact(H.t j).ext E
 ·rintro b (hb | rfl)
  ·have:=H.al b hb;show b<s.nx+1;omega
  ·show _<_+1;omega
theorem Wk.nilD {ro:Cf}{s:St}(k:Nat)(sz:Nat)(hk:bI s.t k=.s (.l (.v (.slice none 0 0)))):Wk ro s ⟨s.nx,(k,.s (.l (.d (.sd sz []))))::s.t,s.h⟩:=by
 intro n B w0 ρ al a w _ H;refine⟨ρ,al,H.size,H.defers,?_,H.w,H.al⟩;intro j;rw[bI];split
 ·rename_i ej;subst ej;have:=H.t k;rw[hk]at this;have hv:a.tmps.getD k undef=.slice none 0 0:=this;rw[hv];simp only[ARep,SRep,LRep,DRep];exact⟨none,0,rfl,Nat.le_refl _,fun h=>absurd rfl h⟩
 ·exact H.t j
def LV.flat:LV→Bool
 |.v _=>true
 |.d _=>true
 |_=>false
def SV.flat:SV→Bool
 |.l x=>x.flat
 |.agg xs=>xs.all (·.flat)
def AV.flat:AV→Bool
 |.s x=>x.flat
 |.tup xs=>xs.all (·.flat)
 |.fn _ f c=>f.all (·.flat)&&c.all (·.flat)
def LV.plain:LV→Bool
 |.v _=>true
 |_=>false
def SV.plain:SV→Bool
 |.l x=>x.plain
 |.agg xs=>xs.all (·.plain)
def AV.plain:AV→Bool
 |.s x=>x.plain
 |.tup xs=>xs.all (·.plain)
 |.fn _ f c=>f.all (·.plain)&&c.all (·.plain)
section
variable {ρ ρ':Nat→Loc}{al al':Al}
theorem LRep.flat (hM:al.M.le al'.M){x:LV}{y:Value}(h:LRep ρ al x y)(hf:x.flat=true):LRep ρ' al' x y:=by
 cases x<;>first | exact DRep.mono hM h | exact h | cases hf
theorem LsRep.flat (hM:al.M.le al'.M):∀{xs:List LV} {ys:List Value},LsRep ρ al xs ys→xs.all (·.flat)=true→LsRep ρ' al' xs ys
 |[],[],_,_=>trivial
 |_::_,_::_,⟨a,b,c⟩,hf=>by
  simp only[all_cons,and_eq_true]at hf;exact⟨a,b.flat hM hf.1,LsRep.flat hM c hf.2⟩
theorem SRep.flat (hM:al.M.le al'.M){x:SV}{y:Value}(h:SRep ρ al x y)(hf:x.flat=true):SRep ρ' al' x y:=by
 cases x with
 |l x=>exact LRep.flat hM h hf
 |agg xs=>obtain⟨cs,e,h⟩:=h;exact⟨cs,e,h.flat hM hf⟩
theorem SsRep.flat (hM:al.M.le al'.M):∀{xs:List SV} {ys:List Value},SsRep ρ al xs ys→xs.all (·.flat)=true→SsRep ρ' al' xs ys
 |[],[],_,_=>trivial
 |_::_,_::_,⟨a,b⟩,hf=>by
  simp only[all_cons,and_eq_true]at hf;exact⟨a.flat hM hf.1,SsRep.flat hM b hf.2⟩
theorem ARep.flat (hM:al.M.le al'.M){x:AV}{y:Value}(h:ARep ρ al x y)(hf:x.flat=true):ARep ρ' al' x y:=by
 cases x with
 |s x=>exact SRep.flat hM h hf
 |tup xs=>obtain⟨cs,e,h⟩:=h;exact⟨cs,e,h.flat hM hf⟩
 |fn f a c =>
  obtain⟨fs,cs,e,h,k⟩:=h;simp only[AV.flat,and_eq_true]at hf;exact⟨fs,cs,e,h.flat hM hf.1,k.flat hM hf.2⟩
theorem AsRep.flat (hM:al.M.le al'.M):∀{xs:List AV} {ys:List Value},AsRep ρ al xs ys→xs.all (·.flat)=true→AsRep ρ' al' xs ys
 |[],[],_,_=>trivial
 |_::_,_::_,⟨a,b⟩,hf=>by
  simp only[all_cons,and_eq_true]at hf;exact⟨a.flat hM hf.1,AsRep.flat hM b hf.2⟩
theorem LRep.plain {x:LV}{y:Value}(h:LRep ρ al x y)(hf:x.plain=true):LRep ρ' al' x y:=by
 cases x<;>first | exact h | cases hf
theorem LsRep.plain:∀{xs:List LV} {ys:List Value},LsRep ρ al xs ys→xs.all (·.plain)=true→LsRep ρ' al' xs ys
 |[],[],_,_=>trivial
 |_::_,_::_,⟨a,b,c⟩,hf=>by
  simp only[all_cons,and_eq_true]at hf;exact⟨a,b.plain hf.1,LsRep.plain c hf.2⟩
theorem SRep.plain {x:SV}{y:Value}(h:SRep ρ al x y)(hf:x.plain=true):SRep ρ' al' x y:=by
 cases x with
 |l x=>exact LRep.plain h hf
 |agg xs=>obtain⟨cs,e,h⟩:=h;exact⟨cs,e,h.plain hf⟩
theorem SsRep.plain:∀{xs:List SV} {ys:List Value},SsRep ρ al xs ys→xs.all (·.plain)=true→SsRep ρ' al' xs ys
 |[],[],_,_=>trivial
 |_::_,_::_,⟨a,b⟩,hf=>by
  simp only[all_cons,and_eq_true]at hf;exact⟨a.plain hf.1,SsRep.plain b hf.2⟩
theorem ARep.plain {x:AV}{y:Value}(h:ARep ρ al x y)(hf:x.plain=true):ARep ρ' al' x y:=by
 cases x with
 |s x=>exact SRep.plain h hf
 |tup xs=>obtain⟨cs,e,h⟩:=h;exact⟨cs,e,h.plain hf⟩
 |fn f a c =>
  obtain⟨fs,cs,e,h,k⟩:=h;simp only[AV.plain,and_eq_true]at hf;exact⟨fs,cs,e,h.plain hf.1,k.plain hf.2⟩
end
def cZ {α β:Type}(g:α→Option (Prop×List Nat×β)):List α→Option (Prop×List Nat×List β)
 |[]=>some (True,[],[])
 |x::r=>match g x,cZ g r with
  |some (p,u,d),some (q,v,l)=>some (p∧q,u++v,d::l)
  |_,_=>none
def LV.toD (h:ag):Nat→LV→Option (Prop×List Nat×D)
 |_,.v x=>some (True,[],.v x)
 |_,.d x=>some (True,[],x)
 |f+1,.sl b i n=>match ac h b with
  |some k=>if k.own=true then match cZ (cZ (LV.toD h f)) ((k.els.drop i).take n) with
    |some (q,u,ds)=>some (i+n≤k.els.length∧q,b::u,.sd k.sz ds)
    |none=>none
    else none
  |none=>none
 |f+1,.p b i j=>match ac h b with
  |some k=>if k.own=true then match k.els[i]? with
    |some e=>match cZ (LV.toD h f) (e.drop j) with
     |some (q,u,ds)=>some (q,b::u,.pd ds)
     |none=>none
    |none=>none
    else none
  |none=>none
 |_,_=>none
theorem FY {h:ag}{f:Nat}{x:D}:LV.toD h f (ofD x)=some (True,[],x):=by
 cases x<;>cases f<;>simp[ofD,LV.toD]
theorem sH {h:ag}{f:Nat}:∀{xs:List D},cZ (LV.toD h f) (bp xs)=some (True,[],xs)
 |[]=>rfl
 |x::xs=>by
  have:=sH (h:=h) (f:=f) (xs:=xs);unfold bp at this ⊢;rw[map_cons,cZ,FY,this];simp
theorem gl {h:ag}{f:Nat}:∀{els:List (List D)},cZ (cZ (LV.toD h f)) (els.map bp)=some (True,[],els)
 |[]=>rfl
 |e::els=>by
  rw[map_cons,cZ,sH,gl (els:=els)];simp
def SV.toD (h:ag)(f:Nat):SV→Option (Prop×List Nat×SV)
 |.l x=>match x.toD h f with
  |some (p,u,d)=>some (p,u,.l (ofD d))
  |none=>none
 |.agg xs=>match cZ (LV.toD h f) xs with
  |some (p,u,ds)=>some (p,u,.agg (bp ds))
  |none=>none
def AV.toD (h:ag)(f:Nat):AV→Option (Prop×List Nat×AV)
 |.s x=>match x.toD h f with
  |some (p,u,d)=>some (p,u,.s d)
  |none=>none
 |.tup xs=>match cZ (SV.toD h f) xs with
  |some (p,u,ds)=>some (p,u,.tup ds)
  |none=>none
 |.fn g a c=>match cZ (LV.toD h f) a,cZ (LV.toD h f) c with
  |some (p,u,fd),some (q,v,cd)=>some (p∧q,u++v,.fn g (bp fd) (bp cd))
  |_,_=>none
open Classical in
noncomputable def dp (M:Mem) (ρ:Nat→Loc) (h:ag) (U:List Nat) (w:World):Mem:=fun b o =>
 match M b o with
 |some y=>some y
 |none=>if ∃c k,c∈U∧ac h c=some k∧k.own=true∧(ρ c).cap≠0∧(ρ c).blk=b then w.cell? ⟨b,o,none⟩ else none
section
variable {B:cX}{w0:World}{ρ:Nat→Loc}{al:Al}{h:ag}{w:World}{U:List Nat}
theorem kj:al.M.le (dp al.M ρ h U w):=fun b o y hy=>by unfold dp;rw[hy]
theorem frzM_some {M:Mem}{b o:Nat}{y:Value}(hy:dp M ρ h U w b o=some y):M b o=some y∨((∃c k,c∈U∧ac h c=some k∧k.own=true∧(ρ c).cap≠0∧(ρ c).blk=b)∧w.cell? ⟨b,o,none⟩=some y):=by
 unfold dp at hy;split at hy
 ·rename_i y' e;injection hy with hy;subst hy;exact .inl e
 ·split at hy
  ·rename_i hc;exact .inr ⟨hc,hy⟩
  ·cases hy
theorem rm (H:WRep B w0 ρ al h w){b o:Nat}{y:Value}(hy:dp al.M ρ h U w b o=some y):w.cell? ⟨b,o,none⟩=some y :=
 (frzM_some hy).elim (H.mem b o y) (·.2)
theorem Ft (H:WRep B w0 ρ al h w){c:Nat}{k:Blk}(hc:c∈U)(hk:ac h c=some k)(ho:k.own=true)(hcap:(ρ c).cap≠0){o:Nat}:dp al.M ρ h U w (ρ c).blk o=w.cell? ⟨(ρ c).blk,o,none⟩:=by
 unfold dp;rw[H.memOwn c k hk ho hcap o];simp only;rw[if_pos ⟨c,k,hc,hk,ho,hcap,rfl⟩]
theorem rG {α β:Type}{g:α→Option (Prop×List Nat×β)}:∀{xs:List α} {p:Prop} {u:List Nat} {ds:List β},cZ g xs=some (p,u,ds)→p→ds.length=xs.length∧∀(i:Nat) (d:β),ds[i]? = some d→∃x q v,xs[i]? = some x∧g x=some (q,v,d)∧q∧∀c∈v,c∈u
 |[],p,u,ds,h,_=>by
  simp only[cZ,Option.some.injEq,Prod.mk.injEq]at h;obtain⟨_,_,rfl⟩:=h;exact⟨rfl,fun i d hd=>by simp at hd⟩
 |x::xs,p,u,ds,h,hp=>by
  simp only[cZ]at h;split at h
  case h_2=>cases h
  rename_i q v d q' v' l h1 h2;injection h with h;injection h with e1 h;injection h with e2 e3;subst e1;subst e2;subst e3;obtain⟨g1,g2⟩:=rG h2 hp.2;refine⟨by simp[g1],fun i d' hd=>?_⟩;cases i with
  |zero =>
   simp at hd;subst hd;exact⟨x,q,v,rfl,h1,hp.1,fun c hc=>List.mem_append.2 (.inl hc)⟩
  |succ i =>
   obtain⟨x',q2,v2,a1,a2,a3,a4⟩:=g2 i d' (by simpa using hd);exact⟨x',q2,v2,by simpa using a1,a2,a3,fun c hc=>List.mem_append.2 (.inr (a4 c hc))⟩
theorem toD_rep (H:WRep B w0 ρ al h w):∀(f:Nat) {x:LV} {p:Prop} {u:List Nat} {d:D} {y:Value},LV.toD h f x=some (p,u,d)→p→(∀c∈u,c∈U)→LRep ρ al x y→DRep (dp al.M ρ h U w) d y:=by
 intro f
 induction f with
 |zero =>
  intro x p u d y hx hp hu hr;cases x with
  |v x=>simp only[LV.toD,Option.some.injEq,Prod.mk.injEq]at hx;obtain⟨_,_,rfl⟩:=hx;simp only[DRep];exact hr
  |d x=>simp only[LV.toD,Option.some.injEq,Prod.mk.injEq]at hx;obtain⟨_,_,rfl⟩:=hx;exact DRep.mono kj hr
  |sl b i n=>simp only[LV.toD]at hx;cases hx
  |p b i j=>simp only[LV.toD]at hx;cases hx
  |any=>simp only[LV.toD]at hx;cases hx
  |bf g bs cs=>simp only[LV.toD]at hx;cases hx
 |succ f ih =>
  intro x p u d y hx hp hu hr;cases x with
  |v x=>simp only[LV.toD,Option.some.injEq,Prod.mk.injEq]at hx;obtain⟨_,_,rfl⟩:=hx;simp only[DRep];exact hr
  |d x=>simp only[LV.toD,Option.some.injEq,Prod.mk.injEq]at hx;obtain⟨_,_,rfl⟩:=hx;exact DRep.mono kj hr
  |any=>simp only[LV.toD]at hx;cases hx
  |bf g bs cs=>simp only[LV.toD]at hx;cases hx
  |p b i j =>
   simp only[LV.toD]at hx;split at hx
   case h_2=>cases hx
   rename_i k hk;split at hx
   case isFalse=>cases hx
   rename_i ho;split at hx
   case h_2=>cases hx
   rename_i e he;split at hx
   case h_2=>cases hx
   rename_i p' u' ds hm;injection hx with hx;injection hx with e1 hx;injection hx with e2 e3;subst e1;subst e2;subst e3;obtain⟨_,rfl⟩:=hr;have Hb:=H.blk b k hk;have hcap:(ρ b).cap≠0:=by have:=Hb.cap;have:=(List.getElem?_eq_some_iff.1 he).1;omega
   obtain⟨g1,g2⟩:=rG hm hp;simp only[DRep];refine⟨_,_,rfl,DsAt.of fun m d hd=>?_⟩;obtain⟨x,q,v,a1,a2,a3,a4⟩:=g2 m d hd;rw[List.getElem?_drop]at a1;obtain⟨y,b1,b2,b3⟩:=Hb.cells i (j+m) x (aD.2 ⟨e,he,a1⟩);refine⟨y,?_,b2,ih a2 a3 (fun c hc=>hu c (List.mem_cons.2 (.inr (a4 c hc)))) b3⟩;rw[Ft H (hu b (List.mem_cons.2 (.inl rfl))) hk ho hcap,←b1];congr 2;omega
  |sl b i n =>
   simp only[LV.toD]at hx;split at hx
   case h_2=>cases hx
   rename_i k hk;split at hx
   case isFalse=>cases hx
   rename_i ho;split at hx
   case h_2=>cases hx
   rename_i p' u' ds hm;injection hx with hx;injection hx with e1 hx;injection hx with e2 e3;subst e1;subst e2;subst e3;obtain⟨hin,hp⟩:=hp;obtain⟨_,A,rfl,hc,hA⟩:=hr;have Hb:=H.blk b k hk;obtain⟨g1,g2⟩:=rG hm hp;have hlen:ds.length=n:=by rw[g1];simp;omega
   simp only[DRep];refine⟨A,(ρ b).cap-i,by rw[hlen],by rw[hlen];omega,fun hne=>?_⟩;have hn:0<n:=by rw[←hlen];exact List.length_pos_iff.2 hne
   have hcap:(ρ b).cap≠0:=by omega
   have hoff:=(Hb.room ho).1;refine⟨(ρ b).blk,(ρ b).off+i*(ρ b).sz,hA (by omega),DssAt.of fun m e he=>?_⟩;obtain⟨r,q,v,a1,a2,a3,a4⟩:=g2 m e he;rw[List.getElem?_take]at a1;split at a1
   case isFalse=>cases a1
   rw[List.getElem?_drop]at a1;obtain⟨c1,c2⟩:=rG a2 a3;refine⟨by rw[c1];exact Hb.len r (List.mem_of_getElem? a1),DsAt.of fun j d hd=>?_⟩;obtain⟨x,q2,v2,d1,d2,d3,d4⟩:=c2 j d hd;obtain⟨y,b1,b2,b3⟩:=Hb.cells (i+m) j x (aD.2 ⟨r,a1,d1⟩);refine⟨y,?_,b2,ih d2 d3 (fun c hc=>hu c (List.mem_cons.2 (.inr (a4 c (d4 c hc))))) b3⟩;rw[Ft H (hu b (List.mem_cons.2 (.inl rfl))) hk ho hcap,←b1];congr 2;rw[Nat.add_mul,Hb.sz];omega
theorem rH (H:WRep B w0 ρ al h w){f:Nat}{ρ2:Nat→Loc}{al2:Al}(hM:al2.M=dp al.M ρ h U w):∀{xs:List LV} {p:Prop} {u:List Nat} {ds:List D} {ys:List Value},cZ (LV.toD h f) xs=some (p,u,ds)→p→(∀c∈u,c∈U)→LsRep ρ al xs ys→LsRep ρ2 al2 (bp ds) ys
 |[],p,u,ds,[],hx,_,_,_=>by
  simp only[cZ,Option.some.injEq,Prod.mk.injEq]at hx;obtain⟨_,_,rfl⟩:=hx;trivial
 |x::xs,p,u,ds,y::ys,hx,hp,hu,⟨a,b,c⟩=>by
  simp only[cZ]at hx;split at hx
  case h_2=>cases hx
  rename_i q v d q' v' l h1 h2;injection hx with hx;injection hx with e1 hx;injection hx with e2 e3;subst e1;subst e2;subst e3;exact⟨a,nr.2 (hM▸toD_rep H f h1 hp.1 (fun c hc=>hu c (List.mem_append.2 (.inl hc))) b),rH H hM h2 hp.2 (fun c hc=>hu c (List.mem_append.2 (.inr hc))) c⟩
theorem SV.toD_rep (H:WRep B w0 ρ al h w){f:Nat}{ρ2:Nat→Loc}{al2:Al}(hM:al2.M=dp al.M ρ h U w){x x':SV}{p:Prop}{u:List Nat}{y:Value}(hx:SV.toD h f x=some (p,u,x'))(hp:p)(hu:∀c∈u,c∈U)(hr:SRep ρ al x y):SRep ρ2 al2 x' y:=by
 cases x with
 |l x =>
  simp only[SV.toD]at hx;split at hx
  case h_2=>cases hx
  rename_i p' u' d h1;injection hx with hx;injection hx with e1 hx;injection hx with e2 e3;subst e1;subst e2;subst e3;exact nr.2 (hM▸Go.Proofs.YtnhbidpdadkcjaaGreatDoor.toD_rep H f h1 hp hu hr)
 |agg xs =>
  simp only[SV.toD]at hx;split at hx
  case h_2=>cases hx
  rename_i p' u' d h1;injection hx with hx;injection hx with e1 hx;injection hx with e2 e3;subst e1;subst e2;subst e3;obtain⟨cs,rfl,hr⟩:=hr;exact⟨cs,rfl,rH H hM h1 hp hu hr⟩
theorem Bs (H:WRep B w0 ρ al h w){f:Nat}{ρ2:Nat→Loc}{al2:Al}(hM:al2.M=dp al.M ρ h U w):∀{xs:List SV} {p:Prop} {u:List Nat} {ds:List SV} {ys:List Value},cZ (SV.toD h f) xs=some (p,u,ds)→p→(∀c∈u,c∈U)→SsRep ρ al xs ys→SsRep ρ2 al2 ds ys
 |[],p,u,ds,[],hx,_,_,_=>by
  simp only[cZ,Option.some.injEq,Prod.mk.injEq]at hx;obtain⟨_,_,rfl⟩:=hx;trivial
 |x::xs,p,u,ds,y::ys,hx,hp,hu,⟨a,b⟩=>by
  simp only[cZ]at hx;split at hx
  case h_2=>cases hx
  rename_i q v d q' v' l h1 h2;injection hx with hx;injection hx with e1 hx;injection hx with e2 e3;subst e1;subst e2;subst e3;exact⟨SV.toD_rep H hM h1 hp.1 (fun c hc=>hu c (List.mem_append.2 (.inl hc))) a,Bs H hM h2 hp.2 (fun c hc=>hu c (List.mem_append.2 (.inr hc))) b⟩
theorem AV.toD_rep (H:WRep B w0 ρ al h w){f:Nat}{ρ2:Nat→Loc}{al2:Al}(hM:al2.M=dp al.M ρ h U w){x x':AV}{p:Prop}{u:List Nat}{y:Value}(hx:AV.toD h f x=some (p,u,x'))(hp:p)(hu:∀c∈u,c∈U)(hr:ARep ρ al x y):ARep ρ2 al2 x' y:=by
 cases x with
 |s x =>
  simp only[AV.toD]at hx;split at hx
  case h_2=>cases hx
  rename_i p' u' d h1;injection hx with hx;injection hx with e1 hx;injection hx with e2 e3;subst e1;subst e2;subst e3;exact SV.toD_rep H hM h1 hp hu hr
 |tup xs =>
  simp only[AV.toD]at hx;split at hx
  case h_2=>cases hx
  rename_i p' u' d h1;injection hx with hx;injection hx with e1 hx;injection hx with e2 e3;subst e1;subst e2;subst e3;obtain⟨cs,rfl,hr⟩:=hr;exact⟨cs,rfl,Bs H hM h1 hp hu hr⟩
 |fn g a c =>
  simp only[AV.toD]at hx;split at hx
  case h_2=>cases hx
  rename_i p' u' fd q' v' cd h1 h2;injection hx with hx;injection hx with e1 hx;injection hx with e2 e3;subst e1;subst e2;subst e3;obtain⟨fs,cs,rfl,r1,r2⟩:=hr;exact⟨fs,cs,rfl,rH H hM h1 hp.1 (fun c hc=>hu c (List.mem_append.2 (.inl hc))) r1,rH H hM h2 hp.2 (fun c hc=>hu c (List.mem_append.2 (.inr hc))) r2⟩
theorem kF (H:WRep B w0 ρ al h w){f:Nat}{ρ2:Nat→Loc}{al2:Al}(hM:al2.M=dp al.M ρ h U w):∀{xs:List AV} {p:Prop} {u:List Nat} {ds:List AV} {ys:List Value},cZ (AV.toD h f) xs=some (p,u,ds)→p→(∀c∈u,c∈U)→AsRep ρ al xs ys→AsRep ρ2 al2 ds ys
 |[],p,u,ds,[],hx,_,_,_=>by
  simp only[cZ,Option.some.injEq,Prod.mk.injEq]at hx;obtain⟨_,_,rfl⟩:=hx;trivial
 |x::xs,p,u,ds,y::ys,hx,hp,hu,⟨a,b⟩=>by
  simp only[cZ]at hx;split at hx
  case h_2=>cases hx
  rename_i q v d q' v' l h1 h2;injection hx with hx;injection hx with e1 hx;injection hx with e2 e3;subst e1;subst e2;subst e3;exact⟨AV.toD_rep H hM h1 hp.1 (fun c hc=>hu c (List.mem_append.2 (.inl hc))) a,kF H hM h2 hp.2 (fun c hc=>hu c (List.mem_append.2 (.inr hc))) b⟩
end
end
def OJ (P:Program)(s:St):ResultVar→Option AV
 |.tmp t=>some (bI s.t t)
 |.cell a t=>match qR P t (bI s.t a) s.h with
  |some R=>some R.r
  |none=>none
def E4:List AV→Option (List SV)
 |[]=>some []
 |.s x::r=>(E4 r).map (x::·)
 |.fn g f c::r=>match lJ f,lJ c with
  |some fd,some cd=>(E4 r).map (.l (.d (.fn g fd cd))::·)
  |_,_=>none
 |.tup _::_=>none
def Cr (P:Program)(s:St):List ResultVar→Option (List AV)
 |[]=>some []
 |x::r=>match OJ P s x,Cr P s r with
  |some A,some l=>some (A::l)
  |_,_=>none
def kf (P:Program)(rs:List ResultVar)(s:St):Option AV :=
 match Cr P s rs with
 |some [A]=>some A
 |some l=>(E4 l).map .tup
 |none=>none
section
variable {P:Program}{n:Nat}{B:cX}{w0:World}{ρ:Nat→Loc}{al:Al}{s:St}{a:Act}{w:World}
def yA (tm:Array Value):ResultVar→Sem Value
  |.tmp t=>pure (tm.getD t undef)
  |.cell b t=>do loadVar t (←asAddr (tm.getD b undef))
theorem EJ (H:RepS n B w0 ρ al s a w){x:ResultVar}{A:AV}(hx:OJ P s x=some A) :
  ∃v,(yA a.tmps x).run P w=.ok v w∧ARep ρ al A v:=by
 cases x with
 |tmp t =>
  injection hx with hx;subst hx;exact⟨_,rfl,H.t t⟩
 |cell b t =>
  simp only[OJ]at hx;split at hx
  case h_2=>cases hx
  rename_i R hR;injection hx with hx;subst hx;obtain⟨v,h1,h2,_⟩:=tu (P:=P) H.w (H.t b) hR;refine⟨v,?_,h2⟩;unfold qR at hR;split at hR
  ·rename_i b' i' j' e;have:=H.t b;rw[e]at this;obtain⟨_,hp⟩:=this;rw[hp]at h1;simp only[yA,hp];simpa[Instr.loadAt,Instr.sureAddr,asAddr] using h1
  ·rename_i xs e;have:=H.t b;rw[e]at this;simp only[ARep,SRep,LRep,DRep]at this;obtain⟨blk,off,hp,_⟩:=this;rw[hp]at h1;simp only[yA,hp];simpa[Instr.loadAt,Instr.sureAddr,asAddr] using h1
  ·cases hR
theorem ph (H:RepS n B w0 ρ al s a w):∀{l:List ResultVar} {As:List AV},Cr P s l=some As →
  ∃vs,(l.mapM (yA a.tmps)).run P w=.ok vs w∧AsRep ρ al As vs
 |[],As,h=>by
  injection h with h;subst h;exact⟨[],rfl,trivial⟩
 |x::l,As,h=>by
  simp only[Cr]at h;split at h
  case h_2=>cases h
  rename_i A r hA hr;injection h with h;subst h;obtain⟨v,g1,g2⟩:=EJ H hA;obtain⟨vs,g3,g4⟩:=ph H hr;refine⟨v::vs,?_,g2,g4⟩;rw[List.mapM_cons,Sem.run_bind,g1,Result.andThen_ok,Sem.run_bind,g3];rfl
theorem wZ:∀{As:List AV} {ss:List SV} {vs:List Value},E4 As=some ss→AsRep ρ al As vs→SsRep ρ al ss vs
 |[],ss,[],h,_=>by injection h with h;subst h;trivial
 |.s x::r,ss,v::vs,h,⟨a,b⟩=>by
  simp only[E4,Option.map_eq_some_iff]at h;obtain⟨l,h1,rfl⟩:=h;exact⟨a,wZ h1 b⟩
 |.fn g f c::r,ss,v::vs,h,⟨a,b⟩=>by
  simp only[E4]at h;split at h
  case h_2=>cases h
  rename_i fd cd h1 h2;rw[Option.map_eq_some_iff]at h;obtain⟨l,h3,rfl⟩:=h;refine⟨?_,wZ h3 b⟩;obtain⟨fs,cs,rfl,g1,g2⟩:=a;simp only[SRep,LRep,DRep];exact⟨fs,cs,rfl,fy h1 g1,fy h2 g2⟩
 |.tup _::_,_,_,h,_=>by cases h
 |[],_,_::_,_,h=>h.elim
 |_::_,_,[],_,h=>h.elim
theorem jg (H:RepS n B w0 ρ al s a w){fn:Func}{r:AV}(hr:kf P fn.results.toList s=some r):∃v,(results fn a.tmps).run P w=.ok v w∧ARep ρ al r v:=by
  unfold kf at hr
  have hm:∀{vs:List Value},(fn.results.toList.mapM (yA a.tmps)).run P w=.ok vs w→(results fn a.tmps).run P w=.ok (if h:vs.toArray.size=1 then vs.toArray[0] else .tuple vs.toArray) w:=by
    intro vs hv
    have e:results fn a.tmps=(do let vs ←fn.results.mapM (yA a.tmps);pure (if h:vs.size=1 then vs[0] else .tuple vs)):=by
      unfold results;congr 1
    rw[e,Array.mapM_eq_mapM_toList];simp only[Sem.run_bind,Sem.run_map,hv,Result.andThen_ok,Sem.run_pure]
  split at hr
  · rename_i A hA
    injection hr with hr;subst hr;obtain⟨vs,g1,g2⟩:=ph H hA
    obtain⟨v,rfl⟩:∃v,vs=[v]:=by
      cases vs with
      |nil=>exact g2.elim
      |cons v r=>cases r with
        |nil=>exact⟨v,rfl⟩
        |cons _ _=>exact g2.2.elim
    exact⟨v,by rw[hm g1];rfl,g2.1⟩
  · rename_i l hne hl
    rw[Option.map_eq_some_iff]at hr;obtain⟨ss,h1,rfl⟩:=hr;obtain⟨vs,g1,g2⟩:=ph H hl;have hlen:=g2.length;refine⟨.tuple vs.toArray,?_,vs,rfl,wZ h1 g2⟩;rw[hm g1,dif_neg];intro h;have:l.length=1:=by rw[←hlen];simpa using h
    cases l with
    |nil=>cases this
    |cons A r=>cases r with
      |nil=>exact hne A rfl
      |cons _ _=>cases this
  · cases hr
structure Unmark (N:Nat)(w w':World):Prop where
 os:w'.os=w.os
 tape:w'.tape=w.tape
 output:w'.output=w.output
 size:w'.heap.size=w.heap.size
 same:∀k:Nat,(k<N∨∃o:Obj,w.heap[k]? = some o∧o.isCells=true)→w'.heap[k]? = w.heap[k]?
theorem Unmark.refl (N:Nat)(w:World):Unmark N w w:=⟨rfl,rfl,rfl,rfl,fun _ _=>rfl⟩
theorem Unmark.trans {N:Nat}{a b c:World}(h:Unmark N a b)(k:Unmark N b c):Unmark N a c :=
 ⟨k.os.trans h.os,k.tape.trans h.tape,k.output.trans h.output,k.size.trans h.size,fun i hi=>by
  rw[k.same i ?_,h.same i hi];rcases hi with hi | ⟨o,h1,h2⟩
  ·exact .inl hi
  ·exact .inr ⟨o,by rw[h.same i (.inr ⟨o,h1,h2⟩)];exact h1,h2⟩⟩
theorem iM {F:Fence}{n:Nat}{fn:Func}{tm:Array Value}{R:Ending→World→Prop}{u:FrameMode}(hu:u≠.run){N:Nat}{d0:List Deferred}:∀(rs:List Nat) (w:World),rs.Nodup→(∀r∈rs,N≤r∧w.heap[r]? = some (.deferred (some [])))→(∀w',Unmark N w w'→LeavesInM F n P fn tm R d0 u w')→LeavesInM F n P fn tm R (rs.map mark++d0) u w
 |[],w,_,_,h=>h w (.refl N w)
 |r::rs,w,hd,hr,h=>by
  have h0:=hr r (by simp);rw[List.nodup_cons]at hd;have hlt:r<w.heap.size:=(Array.getElem?_eq_some_iff.1 h0.2).1
  have hU:Unmark N w (w.putObj r (.deferred none)):=⟨rfl,rfl,rfl,by simp[World.putObj],fun k hk=>by
   refine World.putObj_heap_other ?_;rintro rfl;rcases hk with hk | ⟨o,h1,h2⟩
   ·omega
   ·rw[h0.2]at h1;injection h1 with h1;subst h1;cases h2⟩
  refine⟨hu,.inl ⟨r,_,rfl,run_takeDeferred h0.2,iM hu rs _ hd.2 (fun q hq=>?_) fun w' hw'=>h w' (hU.trans hw')⟩⟩;have:=hr q (by simp[hq]);refine⟨this.1,?_⟩;rw[World.putObj_heap_other (by rintro rfl;exact hd.1 hq)];exact this.2
theorem fO {w:World}{b o:Nat}{y:Value}(h:w.cell? ⟨b,o,none⟩=some y):∃q:Obj,w.heap[b]? = some q∧q.isCells=true:=by
 obtain⟨q,h1,h2⟩:=cells_of_cell h;exact⟨q,h1,h2⟩
theorem RepS.unmark (H:RepS n B w0 ρ al s a w){w':World}(hU:Unmark w0.heap.size w w'):RepS n B w0 ρ al s { a with defers:=B.ds } w':=by
 refine⟨H.size,Marks.nil _ _ _,H.t,H.w.step (.refl _ _) ⟨hU.os.trans H.w.below.os,hU.tape.trans H.w.below.tape,hU.output.trans H.w.below.output,by rw[hU.size];exact H.w.below.size,fun k hk=>(hU.same k (.inl (H.w.base k hk))).trans (H.w.below.block k hk),fun k o hk ho=>?_⟩ (fun b k hk hc=>hU.same _ ?_) (fun b ⟨o,y,hy⟩=>hU.same b (.inr (fO (H.w.mem b o y hy)))),H.al⟩
 ·rw[hU.same k (.inl (Array.getElem?_eq_some_iff.1 hk).1)];exact H.w.below.others k o hk ho
 ·cases ho:k.own with
  |true =>
   right
   have hcap:(ρ b).cap≠0:=by
    rcases hc with hc | hc
    ·have:=(H.w.blk b k hk).cap;intro h0;exact hc (List.eq_nil_of_length_eq_zero (by omega))
    ·exact hc.2
   obtain⟨cur,fr,h1,_⟩:=((H.w.blk b k hk).room ho).2.2 hcap;exact⟨_,h1,rfl⟩
  |false=>exact .inl (H.w.base _ (H.w.old b k hk ho (hc.resolve_right (by rw[ho];simp))))
end
def ax:Nat→List AV→cK
 |_,[]=>[]
 |j,A::r=>(j,A)::ax (j+1) r
theorem LN (j:Nat)(vs:List Value)(k:Nat):(List.replicate j undef++vs).getD k undef=if k<j then undef else vs.getD (k-j) undef:=by
 rw[getD_eq_getElem?_getD,List.getElem?_append];simp only[List.length_replicate];split
 ·rename_i h;rw[List.getElem?_replicate,if_pos h];rfl
 ·rw[getD_eq_getElem?_getD]
theorem CR {ρ:Nat→Loc}{al:Al}:∀{args:List AV} {vals:List Value} (j:Nat),AsRep ρ al args vals→∀k,ARep ρ al (bI (ax j args) k) ((List.replicate j undef++vals).getD k undef)
 |[],[],j,_,k=>trivial
 |A::r,v::vs,j,⟨a,b⟩,k=>by
  have:=CR (j+1) b k;rw[LN]at this ⊢;rw[ax,bI];split
  ·rename_i e;subst e;rw[if_neg (Nat.lt_irrefl _),Nat.sub_self];exact a
  ·rename_i hne;rcases lt_or_ge k j with h | h
   ·rw[if_pos h];rw[if_pos (by omega)]at this;exact this
   ·rw[if_neg (by omega)];rw[if_neg (by omega)]at this;rw[show k-j=(k-(j+1))+1 by omega,List.getD_cons_succ];exact this
theorem gI {ρ:Nat→Loc}{al:Al}{args:List AV}{vals:List Value}(hA:AsRep ρ al args vals)(m:Nat):TRep ρ al (ax 0 args) (vals.toArray++Array.replicate m undef):=by
 intro k;have:=CR 0 hA k;simp only[List.replicate_zero,List.nil_append]at this;rw[Array.getD_eq_getD_getElem?,Array.getElem?_append];rw[getD_eq_getElem?_getD]at this;split
 ·simpa using this
 ·rename_i hk;rw[List.getElem?_eq_none (by simpa using hk)]at this;rw[Array.getElem?_replicate];split<;>simpa using this
def mX (post:St→Prop)(pp:Value→St→Prop):Exit→St→Prop
 |.normal,s=>post s
 |.ret,s=>post s
 |.panic ch,s=>∃x,ch=[{ v:=x,recovered:=false }]∧pp x s
 |_,_=>False
theorem AQ {post:St→Prop}{pp:Value→St→Prop}{s:St}:mX post pp .normal s=post s:=rfl
theorem J6 {post:St→Prop}{pp:Value→St→Prop}{s:St}:mX post pp .ret s=post s:=rfl
theorem mY {post:St→Prop}{pp:Value→St→Prop}{x:Value}{s:St}:mX post pp (.panic [{ v:=x,recovered:=false }]) s=pp x s:=by
 simp[mX]
section
variable {P:Program}
theorem eP {f:FuncId}{fn:Func}{c:Code}(hf:P.funcs[f]? = some fn)(hb:fn.body=some c){K:Nat}{B:cX}{w:World}{ρ:Nat→Loc}{al:Al}{s0:St}{vals:List Value}{post:St→Prop}{pp:Value→St→Prop}{R:Ending→World→Prop}
  (hpl:B.pl.length=K) (hds:B.ds=[]) (H:RepS fn.ntmps B w ρ al s0 { tmps:=vals.toArray++Array.replicate (fn.ntmps-vals.toArray.size) undef,defers:=[] } w)
  (hsw:SW P ⟨none,K⟩ fn.ntmps c s0 (mX post pp))
  (hret:∀s ρ al a w1,post s→RepS fn.ntmps B w ρ al s a w1→∃v,(results fn a.tmps).run P w1=.ok v w1∧R (.returned v) w1)
  (hpan:∀x s ρ al a w1,pp x s→RepS fn.ntmps B w ρ al s a w1→R (.panicked [{ v:=x,recovered:=false }]) w1):Calls P f vals.toArray w R:=by
 refine(gS (ro:=⟨none,K⟩) (n:=0)).1 (callsIn_of_wp_marks hf hb trivial (wpIn_mono (hsw B w ρ al _ w hpl H) ?_) rfl);rintro e a' w' ⟨ρ',al',s',H',hq⟩;obtain⟨rs,h1,h2,h3⟩:=H'.defers
 have ret:post s'→LeavesInM (Fw ⟨none,K⟩) 0 P fn a'.tmps R a'.defers .returning w':=by
  intro hp;rw[h2,hds];refine iM (by simp) rs w' h1 h3 fun w2 hU=>?_;exact hret s' ρ' al' { a' with defers:=B.ds } w2 hp (H'.unmark hU)
 cases e with
 |normal=>exact ret hq
 |ret=>exact ret hq
 |panic ch =>
  obtain⟨x,rfl,hp⟩:=hq;show LeavesInM (Fw ⟨none,K⟩) 0 P fn a'.tmps R a'.defers (.panicking _) w';rw[h2,hds];refine iM (by simp) rs w' h1 h3 fun w2 hU=>?_;exact hpan x s' ρ' al' { a' with defers:=B.ds } w2 hp (H'.unmark hU)
 |exit _=>exact hq.elim
 |goto _=>exact hq.elim
 |outgrown=>exact hq.elim
inductive PO where
 |ret (r:AV)
 |pan (x:Value)
theorem eH {α β:Type}{g g':α→Option (Prop×List Nat×β)}(hg:∀x r,g x=some r→g' x=some r):∀{xs:List α} {r:Prop×List Nat×List β},cZ g xs=some r→cZ g' xs=some r
 |[],r,h=>h
 |x::xs,r,h=>by
  simp only[cZ]at h ⊢;split at h
  case h_2=>cases h
  rename_i h1 h2;rw[hg _ _ h1,eH hg h2];exact h
theorem toD_mono {h h':ag}(hs:∀b k,ac h b=some k→ac h' b=some k):∀(f:Nat) {x:LV} {r:Prop×List Nat×D},LV.toD h f x=some r→LV.toD h' f x=some r
 |0,x,r,hx=>by cases x<;>first | exact hx | (simp only[LV.toD]at hx;cases hx)
 |f+1,x,r,hx=>by
  cases x with
  |v x=>exact hx
  |d x=>exact hx
  |any=>simp only[LV.toD]at hx;cases hx
  |bf g bs cs=>simp only[LV.toD]at hx;cases hx
  |sl b i n =>
   simp only[LV.toD]at hx ⊢;split at hx
   case h_2=>cases hx
   rename_i k hk;simp only[hs _ _ hk];split at hx
   case isFalse=>cases hx
   rename_i ho;rw[if_pos ho];split at hx
   case h_2=>cases hx
   rename_i hm;rw[eH (fun y q hy=>eH (fun z t hz=>toD_mono hs f hz) hy) hm];exact hx
  |p b i j =>
   simp only[LV.toD]at hx ⊢;split at hx
   case h_2=>cases hx
   rename_i k hk;simp only[hs _ _ hk];split at hx
   case isFalse=>cases hx
   rename_i ho;rw[if_pos ho];split at hx
   case h_2=>cases hx
   rename_i e he
   try rw[he]
   try simp only
   split at hx
   case h_2=>cases hx
   rename_i hm;rw[eH (fun z t hz=>toD_mono hs f hz) hm];exact hx
theorem SV.toD_mono {h h':ag}(hs:∀b k,ac h b=some k→ac h' b=some k)(f:Nat){x:SV}{r:Prop×List Nat×SV}(hx:SV.toD h f x=some r):SV.toD h' f x=some r:=by
 cases x with
 |l x =>
  simp only[SV.toD]at hx ⊢;split at hx
  case h_2=>cases hx
  rename_i h1;rw[Go.Proofs.YtnhbidpdadkcjaaGreatDoor.toD_mono hs f h1];exact hx
 |agg xs =>
  simp only[SV.toD]at hx ⊢;split at hx
  case h_2=>cases hx
  rename_i h1;rw[eH (fun z t hz=>Go.Proofs.YtnhbidpdadkcjaaGreatDoor.toD_mono hs f hz) h1];exact hx
theorem AV.toD_mono {h h':ag}(hs:∀b k,ac h b=some k→ac h' b=some k)(f:Nat){x:AV}{r:Prop×List Nat×AV}(hx:AV.toD h f x=some r):AV.toD h' f x=some r:=by
 cases x with
 |s x =>
  simp only[AV.toD]at hx ⊢;split at hx
  case h_2=>cases hx
  rename_i h1;rw[SV.toD_mono hs f h1];exact hx
 |tup xs =>
  simp only[AV.toD]at hx ⊢;split at hx
  case h_2=>cases hx
  rename_i h1;rw[eH (fun z t hz=>SV.toD_mono hs f hz) h1];exact hx
 |fn g a c =>
  simp only[AV.toD]at hx ⊢;split at hx
  case h_2=>cases hx
  rename_i h1 h2;rw[eH (fun z t hz=>Go.Proofs.YtnhbidpdadkcjaaGreatDoor.toD_mono hs f hz) h1,eH (fun z t hz=>Go.Proofs.YtnhbidpdadkcjaaGreatDoor.toD_mono hs f hz) h2];exact hx
def vD (r:AV)(u:List Nat):ag:=if r.plain=true then[] else u.map fun b=>(b,none)
def fT {X:Type}(dec:List AV→Option (Prop×X))(out:X→PO)(h:ag)(args:List AV):Option Res :=
 match cZ (AV.toD h 4) args with
 |some (p,u,aS0)=>match dec aS0 with
  |some (q,x)=>match out x with
   |.ret r=>some ⟨p∧q,r,vD r u⟩
   |.pan _=>none
  |none=>none
 |none=>none
def gh {X:Type}(dec:List AV→Option (Prop×X))(out:X→PO)(h:ag)(args:List AV):Option (Prop×Value×ag) :=
 match cZ (AV.toD h 4) args with
 |some (p,u,aS0)=>match dec aS0 with
  |some (q,x)=>match out x with
   |.ret _=>none
   |.pan v=>some (p∧q,v,[])
  |none=>none
 |none=>none
def Rd (o:PO):Option (Prop×List Nat×AV)→Prop
 |some (q,_,r)=>q∧o=.ret r
 |none=>False
def xv (h:ag)(o:PO):Option AV→Prop
 |some r0=>Rd o (AV.toD h 4 r0)
 |none=>False
def pT (P:Program)(rs:List ResultVar)(o:PO):Exit→St→Prop :=
 mX (fun s=>xv s.h o (kf P rs s)) (fun x _=>o=.pan x)
theorem BO {P:Program}{rs:List ResultVar}{o:PO}{s:St}:pT P rs o .normal s=xv s.h o (kf P rs s):=rfl
theorem Lt {P:Program}{rs:List ResultVar}{o:PO}{s:St}:pT P rs o .ret s=xv s.h o (kf P rs s):=rfl
theorem D7 {P:Program}{rs:List ResultVar}{o:PO}{x:Value}{s:St}:pT P rs o (.panic [{ v:=x,recovered:=false }]) s=(o=.pan x):=mY
section
variable {B:cX}{w0:World}{ρ:Nat→Loc}{al:Al}{h:ag}{w:World}
theorem DM (H:WRep B w0 ρ al h w)(U:List Nat):Gok (dp al.M ρ h U w):=H.gok.mono kj
theorem vu (H:WRep B w0 ρ al h w)(U:List Nat):WRep ⟨fun k=>k<w.heap.size,dp al.M ρ h U w,[],[],DM H U⟩ w (fun _=>⟨0,0,0,0,false⟩) ⟨fun _=>False,dp al.M ρ h U w⟩ [] w :=
 ⟨fun _ hk=>hk,.refl _ _,(fun b k hk=>by cases hk),(fun b k hk=>by cases hk),(fun b k hk=>by cases hk),(fun b c k l hk=>by cases hk),fun b o y hy=>rm H hy,(fun b k hk=>by cases hk),fun b o y hy=>.inl hy,Mem.le_refl _,fun j l hj=>by simp at hj⟩
theorem vK (H:WRep B w0 ρ al h w){M:Mem}{ρ1:Nat→Loc}{al1:Al}{h1:ag}{w1:World}{pl:List Loc}{g:Gok M}(H1:WRep ⟨fun k=>k<w.heap.size,M,pl,[],g⟩ w ρ1 al1 h1 w1):WRep B w0 ρ al h w1 :=
 H.step (.refl _ _) (H.below.trans (H1.below.mono fun k hk=>H.size k hk)) (fun b k hk hc=>H1.below.block _ (H.lt hk hc)) (fun b ⟨_,_,hb⟩=>H1.below.block _ (H.memLt hb))
theorem co {U:List Nat}:∀{b:Nat} {k:Blk},ac ((U.map fun b=>(b,none))++h) b=some k→b∉U∧ac h b=some k:=by
 induction U with
 |nil=>exact fun hk=>⟨by simp,hk⟩
 |cons c U ih =>
  intro b k hk;simp only[map_cons,cons_append,ac]at hk;split at hk
  ·cases hk
  ·rename_i hne;obtain⟨h1,h2⟩:=ih hk;exact⟨by simp only[List.mem_cons,not_or];exact⟨fun e=>hne e.symm,h1⟩,h2⟩
theorem DS (H:WRep B w0 ρ al h w){U U1:List Nat}{ρ1:Nat→Loc}{al1:Al}{h1:ag}{w1:World}{g:Gok (dp al.M ρ h U w)}(H1:WRep ⟨fun k=>k<w.heap.size,dp al.M ρ h U w,[],[],g⟩ w ρ1 al1 h1 w1) :
  Ext ρ ρ al ⟨al.p,dp al1.M ρ1 h1 U1 w1⟩∧WRep B w0 ρ ⟨al.p,dp al1.M ρ1 h1 U1 w1⟩ ((U.map fun b=>(b,none))++h) w1:=by
 have hle:al.M.le (dp al1.M ρ1 h1 U1 w1):=Mem.le_trans (Mem.le_trans kj H1.memOld) kj;have E:Ext ρ ρ al ⟨al.p,dp al1.M ρ1 h1 U1 w1⟩:=⟨fun _ _=>rfl,hle,fun _ hb=>hb⟩;have H2:=vK H H1
 have old:∀b o y,dp al1.M ρ1 h1 U1 w1 b o=some y→b<w.heap.size→al.M b o=some y∨∃c k,c∈U∧ac h c=some k∧k.own=true∧(ρ c).cap≠0∧(ρ c).blk=b:=by
  intro b o y hy hb;rcases frzM_some hy with hy | ⟨⟨c,k,_,hk,ho,hc,rfl⟩,_⟩
  ·rcases H1.memNew b o y hy with hy | hy
   ·rcases frzM_some hy with hy | ⟨hy,_⟩
    ·exact .inl hy
    ·exact .inr hy
   ·exact absurd hb hy
  ·exact absurd hb (H1.own c k hk ho hc)
 refine⟨E,H2.base,H2.below,fun b k hk=>(H2.blk b k (co hk).2).ext E rfl,fun b k hk=>H2.own b k (co hk).2,fun b k hk=>H2.old b k (co hk).2,fun b c k l hk hl=>H2.apart b c k l (co hk).2 (co hl).2,fun b o y hy=>rm H1 hy,fun b k hk ho hc o=>?_,fun b o y hy=>?_,Mem.le_trans H.memOld hle,H2.pins⟩
 ·obtain⟨hn,hk⟩:=co hk;cases hy:dp al1.M ρ1 h1 U1 w1 (ρ b).blk o with
  |none=>exact hy
  |some y =>
   rcases old _ _ _ hy ((H.blk b k hk).lt ho hc) with h2 | ⟨c,k',hcU,hk',ho',hc',e⟩
   ·rw[H.memOwn b k hk ho hc o]at h2;cases h2
   ·exact absurd e (H.apart c b k' k hk' hk ho' ho hc' hc (fun e=>hn (e▸hcU)))
 ·by_cases hb:b<w.heap.size
  ·rcases old _ _ _ hy hb with h2 | ⟨c,k',hcU,hk',ho',hc',rfl⟩
   ·exact H.memNew b o y h2
   ·exact .inr (H.own c k' hk' ho' hc')
  ·exact .inr fun hS=>hb (H.size _ hS)
end
theorem mJ {h:ag}{o:PO}{r:Option AV}(hq:xv h o r):∃r0 q u r',r=some r0∧AV.toD h 4 r0=some (q,u,r')∧q∧o=.ret r':=by
 unfold xv at hq;split at hq
 ·rename_i r0;unfold Rd at hq;split at hq
  ·rename_i q u r' e;exact⟨r0,q,u,r',rfl,e,hq.1,hq.2⟩
  ·exact hq.elim
 ·exact hq.elim
def mkP {X:Type}(f:FuncId)(fn:Func)(c:Code)(hf:P.funcs[f]? = some fn)(hb:fn.body=some c)
  (hen:∀(args:Array Value) (w:World),(callFunc f args).run P w=.ok (.enter f args) w)
  (dec:List AV→Option (Prop×X)) (enc:X→List AV) (out:X→PO)
  (hdec:∀{aS0:List AV} {q:Prop} {x:X},dec aS0=some (q,x)→q→(enc x).length≤fn.ntmps∧∀(ρ:Nat→Loc) (al:Al) (vals:List Value),AsRep ρ al aS0 vals→AsRep ρ al (enc x) vals)
  (body:∀{aS0:List AV} {q:Prop} {x:X},dec aS0=some (q,x)→q→SW P ⟨none,0⟩ fn.ntmps c ⟨0,ax 0 (enc x),[]⟩ (pT P fn.results.toList (out x))):am P f where
 enter:=hen
 run:=fun _ h args=>fT dec out h args
 pan:=fun _ h args=>gh dec out h args
 mono:=by
  intro id h h' args R hs hr;unfold fT at hr ⊢;split at hr
  case h_2=>cases hr
  rename_i p u aS0 hm;rw[eH (fun z t hz=>AV.toD_mono hs 4 hz) hm];exact hr
 sound:=by
  intro id h args R hr hob B w0 ρ al w vals H hid hA;unfold fT at hr;split at hr
  case h_2=>cases hr
  rename_i p u aS0 hm;split at hr
  case h_2=>cases hr
  rename_i q x hd;split at hr
  case h_2=>cases hr
  rename_i r hout;injection hr with hr;subst hr;obtain⟨hp,hq⟩:=hob;obtain⟨hlen,henc⟩:=hdec hd hq;have hA1:=henc (fun _=>⟨0,0,0,0,false⟩) ⟨fun _=>False,dp al.M ρ h u w⟩ vals (kF H rfl hm hp (fun _ hc=>hc) hA);have hl:=hA1.length;refine eP (B:=⟨fun k=>k<w.heap.size,dp al.M ρ h u w,[],[],DM H u⟩) (ρ:=fun _=>⟨0,0,0,0,false⟩) (al:=⟨fun _=>False,dp al.M ρ h u w⟩) (s0:=⟨0,ax 0 (enc x),[]⟩) hf hb rfl rfl ⟨by simp;omega,Marks.nil _ _ _,gI hA1 _,vu H u,fun b hb=>hb.elim⟩ (body hd hq) ?_ ?_
  ·intro s ρ1 al1 a w1 hq1 H1;obtain⟨r0,q1,u1,r1,h1,h2,h3,h4⟩:=mJ hq1;rw[hout]at h4;injection h4 with h4;subst h4;obtain⟨v,g1,g2⟩:=jg (fn:=fn) H1 h1;refine⟨v,g1,?_⟩;have g3:=AV.toD_rep (U:=u1) (ρ2:=ρ) (al2:=⟨al.p,dp al1.M ρ1 s.h u1 w1⟩) H1.w rfl h2 h3 (fun _ hc=>hc) g2;by_cases hpl:r.plain=true
   ·refine⟨v,ρ,al,rfl,.refl _ _,fun b hb=>.inl hb,g3.plain hpl,?_⟩;unfold vD;rw[if_pos hpl];exact vK H H1.w
   ·obtain⟨g4,g5⟩:=DS (U1:=u1) H H1.w;refine⟨v,ρ,_,rfl,g4,fun b hb=>.inl hb,g3,?_⟩;unfold vD;rw[if_neg hpl];exact g5
  ·intro y s ρ1 al1 a w1 h1 H1;rw[hout]at h1;cases h1
 psound:=by
  intro id h args ob y E hr hob B w0 ρ al w vals H hid hA;unfold gh at hr;split at hr
  case h_2=>cases hr
  rename_i p u aS0 hm;split at hr
  case h_2=>cases hr
  rename_i q x hd;split at hr
  case h_1=>cases hr
  rename_i v hout;injection hr with hr;injection hr with e1 hr;injection hr with e2 e3;subst e1;subst e2;subst e3;obtain⟨hp,hq⟩:=hob;obtain⟨hlen,henc⟩:=hdec hd hq;have hA1:=henc (fun _=>⟨0,0,0,0,false⟩) ⟨fun _=>False,dp al.M ρ h u w⟩ vals (kF H rfl hm hp (fun _ hc=>hc) hA);have hl:=hA1.length;refine eP (B:=⟨fun k=>k<w.heap.size,dp al.M ρ h u w,[],[],DM H u⟩) (ρ:=fun _=>⟨0,0,0,0,false⟩) (al:=⟨fun _=>False,dp al.M ρ h u w⟩) (s0:=⟨0,ax 0 (enc x),[]⟩) hf hb rfl rfl ⟨by simp;omega,Marks.nil _ _ _,gI hA1 _,vu H u,fun b hb=>hb.elim⟩ (body hd hq) ?_ ?_
  ·intro s ρ1 al1 a w1 hq1 H1;obtain⟨r0,q1,u1,r1,h1,h2,h3,h4⟩:=mJ hq1;rw[hout]at h4;cases h4
  ·intro y' s ρ1 al1 a w1 h1 H1;rw[hout]at h1;injection h1 with h1;subst h1;exact⟨ρ,al,rfl,.refl _ _,fun b hb=>.inl hb,vK H H1.w⟩
end
structure Ty (α:Type) where
 dec:AV→Option α
 enc:α→AV
 ok:∀{A:AV} {x:α},dec A=some x→∀{ρ:Nat→Loc} {al:Al} {v:Value},ARep ρ al A v→ARep ρ al (enc x) v
structure kG (α:Type) where
 dec:List D→Option α
 enc:α→List D
 inv:∀{c:List D} {x:α},dec c=some x→c=enc x
 back:∀x:α,dec (enc x)=some x
def bq (k:IntKind):Ty Int where
 dec:=fun | .s (.l (.v (.int k' z)))=>if k'=k then some z else none | _=>none
 enc:=fun z=>.s (.l (.v (.int k z)))
 ok:=by
  intro A x h ρ al v hr;split at h
  ·split at h
   ·rename_i e;injection h with h;subst h;subst e;exact hr
   ·cases h
  ·cases h
def PT:Ty Bool where
 dec:=fun | .s (.l (.v (.bool b)))=>some b | _=>none
 enc:=fun b=>.s (.l (.v (.bool b)))
 ok:=by
  intro A x h ρ al v hr;split at h
  ·injection h with h;subst h;exact hr
  ·cases h
def aT:Ty ByteArray where
 dec:=fun | .s (.l (.v (.string s)))=>some s | _=>none
 enc:=fun s=>.s (.l (.v (.string s)))
 ok:=by
  intro A x h ρ al v hr;split at h
  ·injection h with h;subst h;exact hr
  ·cases h
def tFn:Ty FuncId where
 dec:=fun | .s (.l (.v (.func (.func g) ⟨[]⟩ ⟨[]⟩)))=>some g | .fn g [] []=>some g | .s (.l (.d (.fn g [] [])))=>some g | _=>none
 enc:=fun g=>.s (.l (.v (.func (.func g) #[] #[])))
 ok:=by
  intro A x h ρ al v hr;split at h
  ·injection h with h;subst h;exact hr
  ·injection h with h;subst h;obtain⟨fs,cs,rfl,h1,h2⟩:=hr;cases fs with
   |nil=>cases cs with
    |nil=>rfl
    |cons _ _=>exact h2.elim
   |cons _ _=>exact h1.elim
  ·injection h with h;subst h;simp only[ARep,SRep,LRep,DRep]at hr;obtain⟨fs,cs,rfl,h1,h2⟩:=hr;cases fs with
   |nil=>cases cs with
    |nil=>rfl
    |cons _ _=>simp only[DsRep]at h2
   |cons _ _=>simp only[DsRep]at h1
  ·cases h
def dc {α:Type}(d:List D→Option α):List (List D)→Option (List α)
 |[]=>some []
 |e::r=>match d e,dc d r with
  |some x,some l=>some (x::l)
  |_,_=>none
theorem fK {α:Type}(R:kG α):∀l:List α,dc R.dec (l.map R.enc)=some l
 |[]=>rfl
 |x::l=>by simp[dc,R.back,fK R l]
theorem cY {α:Type}(R:kG α):∀{els:List (List D)} {l:List α},dc R.dec els=some l→els=l.map R.enc
 |[],l,hd=>by injection hd with hd;subst hd;rfl
 |c::r,l,hd=>by
  simp only[dc]at hd;split at hd
  case h_2=>cases hd
  rename_i x l' h1 h2;injection hd with hd;subst hd;rw[R.inv h1,cY R h2];rfl
def tSl {α:Type}(sz:Nat)(R:kG α):Ty (List α) where
 dec:=fun
  |.s (.l (.d (.sd sz' els)))=>if sz'=sz then dc R.dec els else none
  |.s (.l (.v (.slice none 0 0)))=>some []
  |_=>none
 enc:=fun l=>.s (.l (.d (.sd sz (l.map R.enc))))
 ok:=by
  intro A x h ρ al v hr;split at h
  ·split at h
   ·rename_i e;subst e;rw[cY R h]at hr;exact hr
   ·cases h
  ·injection h with h;subst h;have:v=.slice none 0 0:=hr;subst this;simp only[ARep,SRep,LRep,DRep];exact⟨none,0,rfl,Nat.le_refl _,fun h=>absurd rfl h⟩
  ·cases h
def nX {α:Type}(R:kG α):Ty α where
 dec:=fun
  |.s (.agg xs)=>match lJ xs with
   |some ds=>R.dec ds
   |none=>none
  |_=>none
 enc:=fun x=>.s (.agg (bp (R.enc x)))
 ok:=by
  intro A x h ρ al v hr;split at h
  ·split at h
   ·rename_i hd;obtain⟨cs,rfl,hr⟩:=hr;rw[←R.inv h];exact⟨cs,rfl,DsRep.ls rfl (fy hd hr)⟩
   ·cases h
  ·cases h
def gE (k:IntKind):kG Int where
 dec:=fun | [.v (.int k' z)]=>if k'=k then some z else none | _=>none
 enc:=fun z=>[.v (.int k z)]
 inv:=by
  intro c x h;split at h
  ·split at h
   ·rename_i e;injection h with h;subst h;subst e;rfl
   ·cases h
  ·cases h
 back:=by intro x;simp
def jr:kG ByteArray where
 dec:=fun | [.v (.string s)]=>some s | _=>none
 enc:=fun s=>[.v (.string s)]
 inv:=by
  intro c x h;split at h
  ·injection h with h;subst h;rfl
  ·cases h
 back:=by intro x;rfl
theorem IW {α β:Type}(f:α→β)(l:List α):List.take l.length (List.map f l)=List.map f l:=by rw[List.take_of_length_le (by simp)]
theorem IX {α β γ:Type}(f:α→β)(g:β→γ)(l:List α):List.take l.length (List.map g (List.map f l))=List.map g (List.map f l):=by rw[List.take_of_length_le (by simp)]
section
variable {P:Program}
def tw (q:Prop):List AV→Option (Prop×Unit)
 |[]=>some (q,())
 |_=>none
def cE {α:Type}(T:Ty α)(q:α→Prop):List AV→Option (Prop×α)
 |[A]=>match T.dec A with
  |some x=>some (q x,x)
  |none=>none
 |_=>none
def e9 {α β:Type}(T:Ty α)(U:Ty β)(q:α→β→Prop):List AV→Option (Prop×(α×β))
 |[A,B]=>match T.dec A,U.dec B with
  |some x,some y=>some (q x y,(x,y))
  |_,_=>none
 |_=>none
def pW {α β γ:Type}(T:Ty α)(U:Ty β)(V:Ty γ)(q:α→β→γ→Prop):List AV→Option (Prop×(α×β×γ))
 |[A,B,C]=>match T.dec A,U.dec B,V.dec C with
  |some x,some y,some z=>some (q x y z,(x,y,z))
  |_,_,_=>none
 |_=>none
def tx {α β γ δ:Type}(T:Ty α)(U:Ty β)(V:Ty γ)(W:Ty δ)(q:α→β→γ→δ→Prop):List AV→Option (Prop×(α×β×γ×δ))
 |[A,B,C,E]=>match T.dec A,U.dec B,V.dec C,W.dec E with
  |some x,some y,some z,some u=>some (q x y z u,(x,y,z,u))
  |_,_,_,_=>none
 |_=>none
def mk0 (f:FuncId)(fn:Func)(c:Code)(hf:P.funcs[f]? = some fn)(hb:fn.body=some c)
  (hen:∀(args:Array Value) (w:World),(callFunc f args).run P w=.ok (.enter f args) w) (q:Prop) (out:PO)
  (body:q→SW P ⟨none,0⟩ fn.ntmps c ⟨0,[],[]⟩ (pT P fn.results.toList out)):am P f :=
 mkP f fn c hf hb hen (tw q) (fun _=>[]) (fun _=>out)
  (by
   intro aS0 p x h _;unfold tw at h;split at h
   ·exact⟨Nat.zero_le _,fun _ _ _ hA=>hA⟩
   ·cases h)
  (by
   intro aS0 p x h hp;unfold tw at h;split at h
   ·injection h with h;injection h with h1 h2;subst h1;exact body hp
   ·cases h)
def mk1 {α:Type}(f:FuncId)(fn:Func)(c:Code)(hf:P.funcs[f]? = some fn)(hb:fn.body=some c)
  (hen:∀(args:Array Value) (w:World),(callFunc f args).run P w=.ok (.enter f args) w) (T:Ty α) (q:α→Prop) (out:α→PO) (hn:1≤fn.ntmps)
  (body:∀x,q x→SW P ⟨none,0⟩ fn.ntmps c ⟨0,ax 0 [T.enc x],[]⟩ (pT P fn.results.toList (out x))):am P f :=
 mkP f fn c hf hb hen (cE T q) (fun x=>[T.enc x]) out
  (by
   intro aS0 p x h _;unfold cE at h;split at h
   ·split at h
    ·rename_i hx;injection h with h;injection h with h1 h2;subst h2;refine⟨hn,fun ρ al vals hA=>?_⟩
     match vals,hA with
     |[v],⟨a,_⟩=>exact⟨T.ok hx a,trivial⟩
    ·cases h
   ·cases h)
  (by
   intro aS0 p x h hp;unfold cE at h;split at h
   ·split at h
    ·injection h with h;injection h with h1 h2;subst h1;subst h2;exact body _ hp
    ·cases h
   ·cases h)
def mk2 {α β:Type}(f:FuncId)(fn:Func)(c:Code)(hf:P.funcs[f]? = some fn)(hb:fn.body=some c)
  (hen:∀(args:Array Value) (w:World),(callFunc f args).run P w=.ok (.enter f args) w) (T:Ty α) (U:Ty β) (q:α→β→Prop) (out:α→β→PO) (hn:2≤fn.ntmps)
  (body:∀x y,q x y→SW P ⟨none,0⟩ fn.ntmps c ⟨0,ax 0 [T.enc x,U.enc y],[]⟩ (pT P fn.results.toList (out x y))):am P f :=
 mkP f fn c hf hb hen (e9 T U q) (fun x=>[T.enc x.1,U.enc x.2]) (fun x=>out x.1 x.2)
  (by
   intro aS0 p x h _;unfold e9 at h;split at h
   ·split at h
    ·rename_i hx hy;injection h with h;injection h with h1 h2;subst h2;refine⟨hn,fun ρ al vals hA=>?_⟩
     match vals,hA with
     |[v,u],⟨a,b,_⟩=>exact⟨T.ok hx a,U.ok hy b,trivial⟩
    ·cases h
   ·cases h)
  (by
   intro aS0 p x h hp;unfold e9 at h;split at h
   ·split at h
    ·injection h with h;injection h with h1 h2;subst h1;subst h2;exact body _ _ hp
    ·cases h
   ·cases h)
def mk3 {α β γ:Type}(f:FuncId)(fn:Func)(c:Code)(hf:P.funcs[f]? = some fn)(hb:fn.body=some c)
  (hen:∀(args:Array Value) (w:World),(callFunc f args).run P w=.ok (.enter f args) w) (T:Ty α) (U:Ty β) (V:Ty γ) (q:α→β→γ→Prop) (out:α→β→γ→PO) (hn:3≤fn.ntmps)
  (body:∀x y z,q x y z→SW P ⟨none,0⟩ fn.ntmps c ⟨0,ax 0 [T.enc x,U.enc y,V.enc z],[]⟩ (pT P fn.results.toList (out x y z))):am P f :=
 mkP f fn c hf hb hen (pW T U V q) (fun x=>[T.enc x.1,U.enc x.2.1,V.enc x.2.2]) (fun x=>out x.1 x.2.1 x.2.2)
  (by
   intro aS0 p x h _;unfold pW at h;split at h
   ·split at h
    ·rename_i hx hy hz;injection h with h;injection h with h1 h2;subst h2;refine⟨hn,fun ρ al vals hA=>?_⟩
     match vals,hA with
     |[v,u,t],⟨a,b,c,_⟩=>exact⟨T.ok hx a,U.ok hy b,V.ok hz c,trivial⟩
    ·cases h
   ·cases h)
  (by
   intro aS0 p x h hp;unfold pW at h;split at h
   ·split at h
    ·injection h with h;injection h with h1 h2;subst h1;subst h2;exact body _ _ _ hp
    ·cases h
   ·cases h)
def mk4 {α β γ δ:Type}(f:FuncId)(fn:Func)(c:Code)(hf:P.funcs[f]? = some fn)(hb:fn.body=some c)
  (hen:∀(args:Array Value) (w:World),(callFunc f args).run P w=.ok (.enter f args) w) (T:Ty α) (U:Ty β) (V:Ty γ) (W:Ty δ) (q:α→β→γ→δ→Prop) (out:α→β→γ→δ→PO) (hn:4≤fn.ntmps)
  (body:∀x y z u,q x y z u→SW P ⟨none,0⟩ fn.ntmps c ⟨0,ax 0 [T.enc x,U.enc y,V.enc z,W.enc u],[]⟩ (pT P fn.results.toList (out x y z u))):am P f :=
 mkP f fn c hf hb hen (tx T U V W q) (fun x=>[T.enc x.1,U.enc x.2.1,V.enc x.2.2.1,W.enc x.2.2.2]) (fun x=>out x.1 x.2.1 x.2.2.1 x.2.2.2)
  (by
   intro aS0 p x h _;unfold tx at h;split at h
   ·split at h
    ·rename_i hx hy hz hu;injection h with h;injection h with h1 h2;subst h2;refine⟨hn,fun ρ al vals hA=>?_⟩
     match vals,hA with
     |[v,u,t,r],⟨a,b,c,d,_⟩=>exact⟨T.ok hx a,U.ok hy b,V.ok hz c,W.ok hu d,trivial⟩
    ·cases h
   ·cases h)
  (by
   intro aS0 p x h hp;unfold tx at h;split at h
   ·split at h
    ·injection h with h;injection h with h1 h2;subst h1;subst h2;exact body _ _ _ _ hp
    ·cases h
   ·cases h)
end
end Go.Proofs.YtnhbidpdadkcjaaGreatDoor
