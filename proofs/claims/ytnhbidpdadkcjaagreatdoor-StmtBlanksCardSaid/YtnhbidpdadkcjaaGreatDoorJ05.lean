import Derived.Test.YtnhbidpdadkcjaaGreatDoorJ03
import Derived.Orders
import Derived.OrdersIn
set_option linter.unusedVariables false
set_option linter.unusedSimpArgs false
set_option maxRecDepth 100000
set_option maxHeartbeats 8000000
namespace Go.Proofs.YtnhbidpdadkcjaaGreatDoor
section
open Go.RowKit
structure St where
 nx:Nat
 t:et
 h:ah
def evT (t:et):Operand→AV
 | .tmp k=>dk t k
 | .const v=>match v with
  | .agg cs=>if cs.toList.all (·.oneCell') then .s (.agg (cs.toList.map .v)) else .s (.l .any)
  | v=>.s (.l (.v v))
 | .global _=>.s (.l .any)
 | .func f=>.s (.l (.v (.func (.func f) #[] #[])))
def putT (t:et):Option Tmp→AV→et
 | none,_=>t
 | some d,r=>(d,r)::t
def cO (n:Nat):Option Tmp→Bool
 | none=>true
 | some d=>decide (d<n)
structure Cf where
 ro:Option Nat
 K:Nat
def Fw (ro:Cf):Fence:={ Fence.wide with round:=ro.ro }
theorem wm (ro:Cf) (n:Nat):(Fw ro).room n:=fun d hd=>by simp [Fw,Fence.wide] at hd
theorem FH {P:Program} {ro:Cf} {m m':Machine}:StepsIn (Machine.fenced P (Fw ro)) P m m'↔Steps P m m':=stepsIn_wide
theorem jO {ro:Cf} {n:Nat} {P:Program} {f:FuncId} {args:Array Value} {w:World} {R:Ending→World→Prop}:CallsIn (Fw ro) n P f args w R↔Calls P f args w R:=callsIn_wide
def mark (r:Nat):Deferred:={ target:=.collected r,args:=#[] }
def Marks (N:Nat) (d0 ds:List Deferred) (w:World):Prop:=∃ rs:List Nat,rs.Nodup∧ds=rs.map mark++d0∧∀ r∈rs,N≤r∧w.heap[r]? = some (.deferred (some []))
theorem Marks.nil (N:Nat) (d0:List Deferred) (w:World):Marks N d0 d0 w:=⟨[],List.nodup_nil,rfl,by simp⟩
theorem Marks.keep {N:Nat} {d0 ds:List Deferred} {w w':World} (h:Marks N d0 ds w) (hk:KeepsD w w'):Marks N d0 ds w':=by
 obtain ⟨rs,h1,h2,h3⟩:=h
 exact ⟨rs,h1,h2,fun r hr=>⟨(h3 r hr).1,hk.same r _ (h3 r hr).2 rfl⟩⟩
structure RepS (n:Nat) (B:eK) (w0:World) (ρ:Nat→Loc) (al:Al) (s:St) (a:Act) (w:World):Prop where
 size:a.tmps.size=n
 defers:Marks w0.heap.size B.ds a.defers w
 t:TRep ρ al s.t a.tmps
 w:WRep B w0 ρ al s.h w
 al:∀ b,al b→b<s.nx
section
variable {P:Program} {ctx:Ctx P} {ro:Cf} {n:Nat} {B:eK} {w0:World} {ρ:Nat→Loc} {al:Al} {s:St} {a:Act} {w:World}
theorem jc {t:et} (h:TRep ρ al t a.tmps):∀ x,ARep ρ al (evT t x) (a.eval x):=by
 intro x
 cases x with
 | tmp k=>exact h k
 | const v =>
  simp only [evT]
  split
  ·rename_i cs
   split
   ·rename_i hc
    exact ⟨cs.toList,by simp [Act.eval],sL (List.all_eq_true.1 hc)⟩
   ·trivial
  ·exact rfl
 | global g=>trivial
 | func f=>exact rfl
theorem TRep.putT {t:et} (h:TRep ρ al t a.tmps) (hn:a.tmps.size=n) {d:Option Tmp} (hd:cO n d=true) {x:AV} {y:Value} (hx:ARep ρ al x y):TRep ρ al (putT t d x) (a.put d y).tmps:=by
 cases d with
 | none=>exact h
 | some d=>exact h.put (by rw [hn];simpa [cO] using hd) hx
theorem jC {d:Option Tmp} {v:Value}:(a.put d v).tmps.size=a.tmps.size:=by cases d<;>simp [Act.put]
theorem eA {d:Option Tmp} {v:Value}:(a.put d v).defers=a.defers:=by cases d<;>rfl
theorem vc {id:Nat} {o:Op} {ev:Operand→AV} {h:ah} {R:Res} (hs:aOp P ctx id o ev h=some R):∀ c,o≠.defer c:=by
 rintro c rfl
 simp only [aOp] at hs
 cases hs
theorem Ap (H:RepS n B w0 ρ al s a w) {o:Oper} {R:Res} {Q:Exit→Act→World→Prop} {K:Act→World→Prop} (hs:aOp P ctx s.nx o.op (evT s.t) s.h=some R) (hob:R.ob) (hd:cO n o.dst=true)
  (hK:∀ ρ' al' a' w',RepS n B w0 ρ' al' ⟨s.nx+16,putT s.t o.dst R.r,R.E++s.h⟩ a' w'→K a' w'):o.wpIn (Fw ro) 0 P a w K Q:=by
 have hid:∀ b,s.nx≤b→b<s.nx+16→¬al b:=fun b h1 _ h2=>by have:=H.al b h2;omega
 have hal:∀ {b},alW al s.nx b→b<s.nx+16:=by
  rintro b (hb | hb)
  ·have:=H.al b hb;omega
  ·exact hb.2
 have fin:∀ v w' ρ' al',Ext ρ ρ' al al'→(∀ b,al' b→alW al s.nx b)→ARep ρ' al' R.r v→WRep ⟨B.S,al.M,B.pl,B.ds,H.w.gok⟩ w ρ' al' (R.E++s.h) w'→K (a.put o.dst v) w':=fun v w' ρ' al' hE hsub hr hw =>
  hK ρ' _ _ _ ⟨jC.trans H.size,(by rw [eA];exact H.defers.keep hw.below.kept),(H.t.ext hE).putT H.size hd hr,H.w.unbase hw,fun b hb=>hal (hsub b hb)⟩
 refine ⟨fun _ _=>trivial,?_⟩
 rw [Oper.semAt_eq _ _ _ (vc hs)]
 rcases aOp_runs H.w.rebase (jc H.t) hid hs hob with ⟨m,v,w',ρ',hr,hm,hE,hA,hw⟩ | ⟨g,args,vals,hr,sp,hrun,vs,rfl,hA⟩
 ·rw [hr]
  rcases hm with rfl | ⟨rfl,rfl⟩
  ·exact fin v w' ρ' _ hE (fun _ hb=>hb) hA hw
  ·exact fin undef w' ρ' _ hE (fun _ hb=>hb) hA hw
 ·rw [hr]
  refine ⟨fun h=>by simp [Fw,Fence.wide] at h,jO.2 (Calls.mono (sp.sound hrun hob vs H.w.rebase hid hA) ?_)⟩
  rintro e w' ⟨v,ρ',al',rfl,hE,hsub,hr',hw⟩
  exact fin v w' ρ' al' hE hsub hr' hw
theorem wa (H:RepS n B w0 ρ al s a w) {o:Oper} {ob:Prop} {x:Value} {E:ah} {Q:Exit→Act→World→Prop} {K:Act→World→Prop} (hs:sS P ctx s.nx o.op (evT s.t) s.h=some (ob,x,E)) (hob:ob)
  (hQ:∀ ρ' al' w',RepS n B w0 ρ' al' ⟨s.nx+16,s.t,E++s.h⟩ a w'→Q (.panic [{ v:=x,recovered:=false }]) a w'):o.wpIn (Fw ro) 0 P a w K Q:=by
 have hid:∀ b,s.nx≤b→b<s.nx+16→¬al b:=fun b h1 _ h2=>by have:=H.al b h2;omega
 have hal:∀ {b},alW al s.nx b→b<s.nx+16:=by
  rintro b (hb | hb)
  ·have:=H.al b hb;omega
  ·exact hb.2
 have hnd:∀ c,o.op≠.defer c:=by
  intro c hc
  rw [hc] at hs
  simp only [sS] at hs
  cases hs
 refine ⟨fun _ _=>trivial,?_⟩
 rw [Oper.semAt_eq _ _ _ hnd]
 rcases aPan_runs (w:=w) (jc H.t) hs with ⟨hr,rfl⟩ | ⟨g,args,vals,hr,sp,hrun,vs,rfl,hA⟩
 ·rw [hr]
  exact hQ ρ al w ⟨H.size,H.defers,H.t,H.w,fun b hb=>by have:=H.al b hb;show b<s.nx+16;omega⟩
 ·rw [hr]
  refine ⟨fun h=>by simp [Fw,Fence.wide] at h,jO.2 (Calls.mono (sp.psound hrun hob vs H.w.rebase hid hA) ?_)⟩
  rintro e w' ⟨ρ',al',rfl,hE,hsub,hw⟩
  exact hQ ρ' al' w' ⟨H.size,H.defers.keep hw.below.kept,H.t.ext hE,H.w.unbase hw,fun b hb=>hal (hsub b hb)⟩
def gAt (ops:List Oper) (t:et) (j:Nat):AV :=
 match ops[j]? with
 | some o=>match o.dst with
  | some d=>dk t d
  | none=>.s (.l .any)
 | none=>.s (.l .any)
def ka (ops:List Oper) (t:et) (j:Nat) (b:Bool):et :=
 match ops[j]? with
 | some o=>match o.dst with
  | some d=>(d,.s (.l (.v (.bool b))))::t
  | none=>t
 | none=>t
theorem Dj {ops:List Oper} {t:et} (h:TRep ρ al t a.tmps) {j:Nat} {q:Bool} (hg:gAt ops t j=.s (.l (.v (.bool q)))):TRep ρ al (ka ops t j q) a.tmps:=by
 unfold gAt at hg
 unfold ka
 split at hg
 case h_2=>cases hg
 rename_i o ho
 split at hg
 case h_2=>cases hg
 rename_i d hd
 intro k
 rw [dk]
 split
 ·rename_i e
  subst e
  have:=h d
  rw [hg] at this
  exact this
 ·exact h k
theorem pg:ARep ρ al (.s (.l (.v (.tuple #[])))) undef:=rfl
theorem xi {ops:List Oper} {t:et} (h:TRep ρ al t a.tmps) {j:Nat} (hg:gAt ops t j=.s (.l (.v (.tuple ⟨[]⟩)))):yielded ops.toArray a.tmps j=none:=by
 unfold gAt at hg
 split at hg
 case h_2=>cases hg
 rename_i o ho
 split at hg
 case h_2=>cases hg
 rename_i d hd
 have:=h d
 rw [hg] at this
 have hv:a.tmps.getD d undef=.tuple ⟨[]⟩:=this
 have ho':ops.toArray[j]? = some o:=by simpa using ho
 simp only [yielded,ho',Option.bind_some,hd]
 rcases Nat.lt_or_ge d a.tmps.size with hlt | hlt
 ·rw [Array.getD_eq_getD_getElem?,Array.getElem?_eq_getElem hlt] at hv
  simp only [Option.getD_some] at hv
  simp only [Array.getElem?_eq_getElem hlt,hv]
 ·simp only [Array.getElem?_eq_none hlt]
theorem ur {ops:List Oper} {t:et} (h:TRep ρ al t a.tmps) (hn:a.tmps.size=n) {j:Nat} {q:Bool} (hg:gAt ops t j=.s (.l (.v (.bool q)))):yielded ops.toArray a.tmps j=some q:=by
 unfold gAt at hg
 split at hg
 case h_2=>cases hg
 rename_i o ho
 split at hg
 case h_2=>cases hg
 rename_i d hd
 have:=h d
 rw [hg] at this
 have hv:a.tmps.getD d undef=.bool q:=this
 have hlt:d<a.tmps.size:=by
  rcases Nat.lt_or_ge d a.tmps.size with h1 | h1
  ·exact h1
  ·rw [Array.getD_eq_getD_getElem?,Array.getElem?_eq_none h1] at hv;cases hv
 rw [Array.getD_eq_getD_getElem?,Array.getElem?_eq_getElem hlt] at hv
 simp only [Option.getD_some] at hv
 simp [yielded,ho,hd,Array.getElem?_eq_getElem hlt,hv]
end
def SW (P:Program) (ro:Cf) (n:Nat) (c:Code) (s:St) (Q:Exit→St→Prop):Prop :=
 ∀ B w0 ρ al a w,B.pl.length=ro.K→RepS n B w0 ρ al s a w→c.wpIn (Fw ro) 0 P (fun e a' w'=>∃ ρ' al' s',RepS n B w0 ρ' al' s' a' w'∧Q e s') a w
def me (K:St→Prop) (Q:Exit→St→Prop):Exit→St→Prop
 | .normal,s=>K s
 | e,s=>Q e s
def AA (id:Nat) (Q:Exit→St→Prop):Exit→St→Prop
 | .exit j,s=>if j=id then Q .normal s else Q (.exit j) s
 | e,s=>Q e s
section
variable {P:Program} {ctx:Ctx P} {ro:Cf} {n:Nat} {s:St} {Q Q':Exit→St→Prop}
theorem SW.mono {c:Code} (h:SW P ro n c s Q) (hq:∀ e s,Q e s→Q' e s):SW P ro n c s Q' :=
 fun B w0 ρ al a w hpl H=>wpIn_mono (h B w0 ρ al a w hpl H) fun _ _ _ ⟨ρ',al',s',H',q⟩=>⟨ρ',al',s',H',hq _ _ q⟩
theorem iU {x y:Code} (h:SW P ro n x s (me (fun s'=>SW P ro n y s' Q) Q)):SW P ro n (.seq x y) s Q:=by
 intro B w0 ρ al a w hpl H
 refine wpIn_seq (wpIn_mono (h B w0 ρ al a w hpl H) ?_)
 rintro e a' w' ⟨ρ',al',s',H',q⟩
 cases e with
 | normal=>exact q B w0 ρ' al' a' w' hpl H'
 | _=>exact ⟨ρ',al',s',H',q⟩
theorem e8 {c:Operand} {x y:Code} {q:Bool} (hc:evT s.t c=.s (.l (.v (.bool q)))) (h1:q=true→SW P ro n x s Q) (h2:q=false→SW P ro n y s Q):SW P ro n (.cond c x y) s Q:=by
 intro B w0 ρ al a w hpl H
 have:=jc H.t c
 rw [hc] at this
 have hv:a.eval c=.bool q:=this
 exact wpIn_cond_split hv (fun e=>h1 e B w0 ρ al a w hpl H) (fun e=>h2 e B w0 ρ al a w hpl H)
theorem M1 {id:Nat} {c:Code} (h:SW P ro n c s (AA id Q)):SW P ro n (.block id c) s Q:=by
 intro B w0 ρ al a w hpl H
 refine wpIn_block (wpIn_mono (h B w0 ρ al a w hpl H) ?_)
 rintro e a' w' ⟨ρ',al',s',H',q⟩
 cases e with
 | exit j =>
  simp only [AA] at q
  simp only [Exit.inBlock]
  split
  ·rename_i e;rw [if_pos e] at q;exact ⟨ρ',al',s',H',q⟩
  ·rename_i e;rw [if_neg e] at q;exact ⟨ρ',al',s',H',q⟩
 | _=>exact ⟨ρ',al',s',H',q⟩
inductive Itm where
 | c (x:Code)
 | o (all rest:List Oper)
 | b (id:Nat)
def ij (id:Nat):List Itm→Option (List Itm)
 | .b j::r=>if j=id then some r else ij id r
 | .c _::r=>ij id r
 | .o _ _::r=>ij id r
 | []=>none
noncomputable def bX (P:Program) (ctx:Ctx P) (ro:Cf) (n:Nat):Nat→List Itm→St→(Exit→St→Prop)→Prop
 | 0,_,_,_=>False
 | _+1,[],s,Q=>Q .normal s
 | f+1,.b _::r,s,Q=>bX P ctx ro n f r s Q
 | f+1,.o _ []::r,s,Q=>bX P ctx ro n f r s Q
 | f+1,.o all (o::l)::r,s,Q=>match o.guard with
  | none=>match sS P ctx s.nx o.op (evT s.t) s.h with
   | some (ob,x,E)=>ob∧Q (.panic [{ v:=x,recovered:=false }]) ⟨s.nx+16,s.t,E++s.h⟩
   | none=>match aOp P ctx s.nx o.op (evT s.t) s.h with
    | some R=>cO n o.dst=true∧R.ob∧bX P ctx ro n f (.o all l::r) ⟨s.nx+16,putT s.t o.dst R.r,R.E++s.h⟩ Q
    | none=>False
  | some (j,want)=>match gAt all s.t j with
   | .s (.l (.v (.bool q)))=>cO n o.dst=true ∧
     (q=want→match sS P ctx s.nx o.op (evT (ka all s.t j want)) s.h with
      | some (ob,x,E)=>ob∧Q (.panic [{ v:=x,recovered:=false }]) ⟨s.nx+16,ka all s.t j want,E++s.h⟩
      | none=>match aOp P ctx s.nx o.op (evT (ka all s.t j want)) s.h with
       | some R=>cO n o.dst=true∧R.ob∧bX P ctx ro n f (.o all l::r) ⟨s.nx+16,putT (ka all s.t j want) o.dst R.r,R.E++s.h⟩ Q
       | none=>False) ∧
     (q = !want→bX P ctx ro n f (.o all l::r) ⟨s.nx,putT (ka all s.t j (!want)) o.dst (.s (.l (.v (.tuple #[])))),s.h⟩ Q)
   | .s (.l (.v (.tuple ⟨[]⟩)))=>cO n o.dst=true∧bX P ctx ro n f (.o all l::r) ⟨s.nx,putT s.t o.dst (.s (.l (.v (.tuple #[])))),s.h⟩ Q
   | _=>False
 | f+1,.c x::r,s,Q=>match x with
  | .skip=>bX P ctx ro n f r s Q
  | .label _=>bX P ctx ro n f r s Q
  | .ret=>Q .ret s
  | .exit id=>match ij id r with
   | some r'=>bX P ctx ro n f r' s Q
   | none=>Q (.exit id) s
  | .seq x y=>bX P ctx ro n f (.c x::.c y::r) s Q
  | .cond c x y=>match evT s.t c with
   | .s (.l (.v (.bool q)))=>(q=true→bX P ctx ro n f (.c x::r) s Q)∧(q=false→bX P ctx ro n f (.c y::r) s Q)
   | _=>False
  | .block id x=>bX P ctx ro n f (.c x::.b id::r) s Q
  | .region _ ops false=>bX P ctx ro n f (.o ops.toList ops.toList::r) s Q
  | x=>SW P ro n x s (fun e s'=>match e with
   | .normal=>bX P ctx ro n f r s' Q
   | .exit id=>match ij id r with
    | some r'=>bX P ctx ro n f r' s' Q
    | none=>Q (.exit id) s'
   | e=>Q e s')
def Itm.item:Itm→Item
 | .c x=>.code x
 | .b id=>.inBlock id
 | .o _ _=>.code .skip
def noO:List Itm→Bool
 | []=>true
 | .o _ _::_=>false
 | _::r=>noO r
theorem mC {id:Nat}:∀ {r r':List Itm},noO r=true→ij id r=some r'→noO r'=true
 | [],_,_,h=>by cases h
 | .o _ _::_,_,h,_=>by cases h
 | .c _::r,r',h,hp=>mC (r:=r) h hp
 | .b j::r,r',h,hp=>by
  simp only [ij] at hp
  split at hp
  ·injection hp with hp;subst hp;exact h
  ·exact mC (r:=r) h hp
theorem exitTo_pop {id:Nat} (k:List Item):∀ {r:List Itm},noO r=true→exitTo id (r.map Itm.item++k)=match ij id r with
  | some r'=>some (r'.map Itm.item++k)
  | none=>exitTo id k
 | [],_=>rfl
 | .o _ _::_,h=>by cases h
 | .c _::r,h=>by simpa [exitTo,Itm.item,ij] using exitTo_pop k (r:=r) h
 | .b j::r,h=>by
  simp only [List.map_cons,Itm.item,List.cons_append,exitTo,ij]
  by_cases e:j=id
  ·simp [e]
  ·have:(j==id)=false:=by simpa using e
   simp only [this,if_neg e]
   simpa using exitTo_pop k (r:=r) h
theorem gotoIn_pop {l:Nat} (k:List Item):∀ {r:List Itm},noO r=true→gotoIn l (r.map Itm.item++k)=gotoIn l k
 | [],_=>rfl
 | .o _ _::_,h=>by cases h
 | .c _::r,h=>by simpa [gotoIn,Itm.item] using gotoIn_pop k (r:=r) h
 | .b j::r,h=>by simpa [gotoIn,Itm.item] using gotoIn_pop k (r:=r) h
def Good (P:Program) (ro:Cf) (n:Nat) (B:eK) (w0:World) (Q:Exit→St→Prop) (b:Frame) (k:List Item) (cs:List Frame) (r:List Itm) (a:Act) (w:World):Prop :=
 ∃ e a' w',(∃ ρ al s,RepS n B w0 ρ al s a' w'∧Q e s)∧ArrivesIn (Machine.fenced P (Fw ro)) P (lone (b.atR a (r.map Itm.item++k)) cs w) b k cs e a' w'
theorem Good.step {B:eK} {w0:World} {b:Frame} {k:List Item} {cs:List Frame} {r r':List Itm} {a a':Act} {w w':World} (hs:StepsIn (Machine.fenced P (Fw ro)) P (lone (b.atR a (r.map Itm.item++k)) cs w) (lone (b.atR a' (r'.map Itm.item++k)) cs w')) (h:Good P ro n B w0 Q b k cs r' a' w'):Good P ro n B w0 Q b k cs r a w:=by
 obtain ⟨e,a2,w2,h1,h2⟩:=h
 exact ⟨e,a2,w2,h1,.of_steps hs h2⟩
theorem gE {m m':Machine} (h:step P m=.next m'):StepsIn (Machine.fenced P (Fw ro)) P m m':=FH.2 (.one h)
def regQ (P:Program) (ro:Cf) (n:Nat) (B:eK) (w0:World) (Q:Exit→St→Prop) (b:Frame) (k:List Item) (cs:List Frame) (r:List Itm):Exit→Act→World→Prop
 | .normal,a,w=>Good P ro n B w0 Q b k cs r a w
 | .panic ch,a,w=>∃ ρ al s,RepS n B w0 ρ al s a w∧Q (.panic ch) s
 | _,_,_=>False
theorem y7 {B:eK} {w0:World} {b:Frame} {k:List Item} {cs:List Frame} (hpl:B.pl.length=ro.K) (hb:b.roundOf=ro.ro):∀ (f:Nat),
  (∀ (r:List Itm) (s:St) (ρ:Nat→Loc) (al:Al) (a:Act) (w:World),noO r=true→RepS n B w0 ρ al s a w→bX P ctx ro n f r s Q→Good P ro n B w0 Q b k cs r a w) ∧
  (∀ (all l:List Oper) (r:List Itm) (s:St) (ρ:Nat→Loc) (al:Al) (a:Act) (w:World),noO r=true→RepS n B w0 ρ al s a w→bX P ctx ro n f (.o all l::r) s Q→wpListIn (Fw ro) 0 P all.toArray (regQ P ro n B w0 Q b k cs r) l a w)
 | 0=>⟨fun r s ρ al a w _ _ h=>by simp only [bX] at h,fun all l r s ρ al a w _ _ h=>by simp only [bX] at h⟩
 | f+1=>by
  obtain ⟨ih1,ih2⟩:=y7 (B:=B) (w0:=w0) (b:=b) (k:=k) (cs:=cs) hpl hb f
  refine ⟨fun r s ρ al a w hr H h=>?_,fun all l r s ρ al a w hr H h=>?_⟩
  ·cases r with
   | nil=>exact ⟨.normal,a,w,⟨ρ,al,s,H,by simpa only [bX] using h⟩,.refl _⟩
   | cons x r =>
    cases x with
    | o _ _=>cases hr
    | b id=>exact Good.step (gE stepR_inBlock) (ih1 r s ρ al a w hr H (by simpa only [bX] using h))
    | c x =>
     have viaSW:SW P ro n x s (fun e s'=>match e with
       | .normal=>bX P ctx ro n f r s' Q
       | .exit id=>match ij id r with
        | some r'=>bX P ctx ro n f r' s' Q
        | none=>Q (.exit id) s'
       | e=>Q e s')→Good P ro n B w0 Q b k cs (.c x::r) a w:=by
      intro hsw
      obtain ⟨e,a',w',⟨ρ',al',s',H',hq⟩,harr⟩:=hsw B w0 ρ al a w hpl H b (r.map Itm.item++k) cs hb trivial (wm _ _)
      cases e with
      | normal=>exact Good.step harr (ih1 r s' ρ' al' a' w' hr H' hq)
      | exit id =>
       have hx:=exitTo_pop (id:=id) k (r:=r) hr
       simp only at hq
       cases hp:ij id r with
       | some r' =>
        rw [hp] at hq hx
        exact Good.step (harr.1 _ hx) (ih1 r' s' ρ' al' a' w' (mC hr hp) H' hq)
       | none =>
        rw [hp] at hq hx
        exact ⟨.exit id,a',w',⟨ρ',al',s',H',hq⟩,fun k' hk=>harr.1 k' (hx.trans hk),fun hro hk=>harr.2 hro (hx.trans hk)⟩
      | goto l=>exact ⟨.goto l,a',w',⟨ρ',al',s',H',hq⟩,fun k' hk=>harr.1 k' ((gotoIn_pop k hr).trans hk),fun hro hk=>harr.2 hro ((gotoIn_pop k hr).trans hk)⟩
      | ret=>exact ⟨.ret,a',w',⟨ρ',al',s',H',hq⟩,harr⟩
      | panic ch=>exact ⟨.panic ch,a',w',⟨ρ',al',s',H',hq⟩,harr⟩
      | outgrown=>exact ⟨.outgrown,a',w',⟨ρ',al',s',H',hq⟩,harr⟩
     cases x with
     | skip=>exact Good.step (gE stepR_skip) (ih1 r s ρ al a w hr H (by simpa only [bX] using h))
     | label l=>exact Good.step (gE stepR_label) (ih1 r s ρ al a w hr H (by simpa only [bX] using h))
     | ret=>exact ⟨.ret,a,w,⟨ρ,al,s,H,by simpa only [bX] using h⟩,fun hn=>⟨_,gE (stepR_ret hn)⟩,fun _=>⟨_,.refl _⟩⟩
     | exit id =>
      have hx:=exitTo_pop (id:=id) k (r:=r) hr
      simp only [bX] at h
      cases hp:ij id r with
      | some r' =>
       rw [hp] at h hx
       exact Good.step (gE (stepR_exit hx)) (ih1 r' s ρ al a w (mC hr hp) H h)
      | none =>
       rw [hp] at h hx
       exact ⟨.exit id,a,w,⟨ρ,al,s,H,h⟩,fun k' hk=>gE (stepR_exit (hx.trans hk)),fun _ hk=>⟨_,hx.trans hk,.refl _⟩⟩
     | seq x y=>exact Good.step (r':=.c x::.c y::r) (gE stepR_seq) (ih1 _ s ρ al a w hr H (by simpa only [bX] using h))
     | block id x=>exact Good.step (r':=.c x::.b id::r) (gE stepR_block) (ih1 _ s ρ al a w hr H (by simpa only [bX] using h))
     | cond c x y =>
      simp only [bX] at h
      split at h
      case h_2=>exact h.elim
      rename_i q hq
      have hv:=jc H.t c
      rw [hq] at hv
      have hv':a.eval c=.bool q:=hv
      cases q with
      | true=>exact Good.step (r':=.c x::r) (gE (stepR_cond hv')) (ih1 _ s ρ al a w hr H (h.1 rfl))
      | false=>exact Good.step (r':=.c y::r) (gE (stepR_cond hv')) (ih1 _ s ρ al a w hr H (h.2 rfl))
     | region id ops draw =>
      cases draw with
      | true=>exact viaSW (by simpa only [bX] using h)
      | false =>
       have hl:=ih2 ops.toList ops.toList r s ρ al a w hr H (by simpa only [bX] using h)
       rw [Array.toArray_toList] at hl
       obtain ⟨e,a',w',hq,harr⟩:=wpIn_region_list (id:=id) hl b (r.map Itm.item++k) cs hb trivial (wm _ _)
       cases e with
       | normal=>exact Good.step (r:=.c (.region id ops false)::r) harr hq
       | panic ch=>exact ⟨.panic ch,a',w',hq,harr⟩
       | exit _=>exact hq.elim
       | goto _=>exact hq.elim
       | ret=>exact hq.elim
       | outgrown=>exact hq.elim
     | loop x=>exact viaSW (by simpa only [bX] using h)
     | rangeFunc _ _ _ _=>exact viaSW (by simpa only [bX] using h)
     | scope x=>exact viaSW (by simpa only [bX] using h)
     | goto l=>exact viaSW (by simpa only [bX] using h)
     | refuse y=>exact viaSW (by simpa only [bX] using h)
  ·cases l with
   | nil=>exact ih1 r s ρ al a w hr H (by simpa only [bX] using h)
   | cons o l =>
    unfold wpListIn
    simp only [bX] at h
    split at h
    ·rename_i hg
     rw [if_pos (by simp [Region.wanted,hg])]
     split at h
     ·rename_i ob x E hp
      exact wa H hp h.1 fun ρ' al' w' H'=>⟨ρ',al',_,H',h.2⟩
     ·split at h
      case h_2=>exact h.elim
      rename_i R hR
      obtain ⟨h1,h2,h3⟩:=h
      exact Ap H hR h2 h1 fun ρ' al' a' w' H'=>ih2 all l r _ ρ' al' a' w' hr H' h3
    ·rename_i j want hg
     split at h
     case h_3=>exact h.elim
     case h_2 =>
      rename_i hq
      rw [if_neg (by simp [Region.wanted,hg,xi H.t hq])]
      exact ⟨fun _ _=>trivial,ih2 all l r ⟨s.nx,putT s.t o.dst (.s (.l (.v (.tuple #[])))),s.h⟩ ρ al _ w hr ⟨jC.trans H.size,(by rw [eA];exact H.defers),H.t.putT H.size h.1 pg,H.w,H.al⟩ h.2⟩
     rename_i q hq
     obtain ⟨h1,h2,h3⟩:=h
     have hy:=ur H.t H.size hq
     have hset:=Dj H.t hq
     by_cases hqw:q=want
     ·rw [if_pos (by simp [Region.wanted,hg,hy,hqw])]
      have h4:=h2 hqw
      rw [hqw] at hset
      split at h4
      ·rename_i ob x E hp
       exact wa (s:=⟨s.nx,ka all s.t j want,s.h⟩) ⟨H.size,H.defers,hset,H.w,H.al⟩ hp h4.1 fun ρ' al' w' H'=>⟨ρ',al',_,H',h4.2⟩
      ·split at h4
       case h_2=>exact h4.elim
       rename_i R hR
       exact Ap (s:=⟨s.nx,ka all s.t j want,s.h⟩) ⟨H.size,H.defers,hset,H.w,H.al⟩ hR h4.2.1 h1 fun ρ' al' a' w' H'=>ih2 all l r _ ρ' al' a' w' hr H' h4.2.2
     ·rw [if_neg (by simp [Region.wanted,hg,hy,hqw])]
      have hqn:q = !want:=by cases q<;>cases want<;>simp_all
      rw [hqn] at hset
      exact ⟨fun _ _=>trivial,ih2 all l r ⟨s.nx,putT (ka all s.t j (!want)) o.dst (.s (.l (.v (.tuple #[])))),s.h⟩ ρ al _ w hr ⟨jC.trans H.size,(by rw [eA];exact H.defers),hset.putT H.size h1 pg,H.w,H.al⟩ (h3 hqn)⟩
theorem aa {c:Code} (f:Nat) (h:bX P ctx ro n f [.c c] s Q):SW P ro n c s Q:=fun B w0 ρ al a w hpl H b k cs hb _ _=>by
 obtain ⟨e,a',w',h1,h2⟩:=(y7 hpl hb f).1 [.c c] s ρ al a w rfl H h
 exact ⟨e,a',w',h1,h2⟩
def wy (nx:Nat) (t:et) (h:ah) (Q:Exit→St→Prop) (rest:Prop):Option (Prop×Value×ah)→Prop
 | some (ob,x,E)=>ob∧Q (.panic [{ v:=x,recovered:=false }]) ⟨nx+16,t,E++h⟩
 | none=>rest
theorem DM {nx:Nat} {t:et} {h:ah} {rest:Prop}:wy nx t h Q rest none=rest:=rfl
theorem DN {nx:Nat} {t:et} {h:ah} {rest:Prop} {ob:Prop} {x:Value} {E:ah}:wy nx t h Q rest (some (ob,x,E))=(ob∧Q (.panic [{ v:=x,recovered:=false }]) ⟨nx+16,t,E++h⟩):=rfl
def wv (P:Program) (ctx:Ctx P) (ro:Cf) (n f:Nat) (all l:List Oper) (r:List Itm) (d:Option Tmp) (s:St) (Q:Exit→St→Prop):Option Res→Prop
 | some R=>cO n d=true∧R.ob∧bX P ctx ro n f (.o all l::r) ⟨s.nx+16,putT s.t d R.r,R.E++s.h⟩ Q
 | none=>False
def aGd (P:Program) (ctx:Ctx P) (ro:Cf) (n f:Nat) (all:List Oper) (o:Oper) (l:List Oper) (r:List Itm) (s:St) (Q:Exit→St→Prop) (j:Nat) (want:Bool):AV→Prop
 | .s (.l (.v (.bool q)))=>cO n o.dst=true ∧
   (q=want→wy s.nx (ka all s.t j want) s.h Q (wv P ctx ro n f all l r o.dst ⟨s.nx,ka all s.t j want,s.h⟩ Q (aOp P ctx s.nx o.op (evT (ka all s.t j want)) s.h)) (sS P ctx s.nx o.op (evT (ka all s.t j want)) s.h)) ∧
   (q = !want→bX P ctx ro n f (.o all l::r) ⟨s.nx,putT (ka all s.t j (!want)) o.dst (.s (.l (.v (.tuple #[])))),s.h⟩ Q)
 | .s (.l (.v (.tuple ⟨[]⟩)))=>cO n o.dst=true∧bX P ctx ro n f (.o all l::r) ⟨s.nx,putT s.t o.dst (.s (.l (.v (.tuple #[])))),s.h⟩ Q
 | _=>False
def aBr (P:Program) (ctx:Ctx P) (ro:Cf) (n f:Nat) (x y:Code) (r:List Itm) (s:St) (Q:Exit→St→Prop):AV→Prop
 | .s (.l (.v (.bool q)))=>(q=true→bX P ctx ro n f (.c x::r) s Q)∧(q=false→bX P ctx ro n f (.c y::r) s Q)
 | _=>False
section
variable {f:Nat} {r:List Itm}
theorem J2:bX P ctx ro n (f+1) [] s Q=Q .normal s:=by simp only [bX]
theorem QR {id:Nat}:bX P ctx ro n (f+1) (.b id::r) s Q=bX P ctx ro n f r s Q:=by simp only [bX]
theorem N1 {all:List Oper}:bX P ctx ro n (f+1) (.o all []::r) s Q=bX P ctx ro n f r s Q:=by simp only [bX]
theorem N7 {all l:List Oper} {d:Option Tmp} {op:Op} {t:TypeId} {p:String} {af:Array Edge}:bX P ctx ro n (f+1) (.o all (⟨d,op,t,p,af,none⟩::l)::r) s Q=wy s.nx s.t s.h Q (wv P ctx ro n f all l r d s Q (aOp P ctx s.nx op (evT s.t) s.h)) (sS P ctx s.nx op (evT s.t) s.h):=by
 simp only [bX,wv,wy]
theorem N8 {all l:List Oper} {d:Option Tmp} {op:Op} {t:TypeId} {p:String} {af:Array Edge} {j:Nat} {want:Bool}:bX P ctx ro n (f+1) (.o all (⟨d,op,t,p,af,some (j,want)⟩::l)::r) s Q=aGd P ctx ro n f all ⟨d,op,t,p,af,some (j,want)⟩ l r s Q j want (gAt all s.t j):=by
 simp only [bX,aGd,wv,wy]
theorem G0:bX P ctx ro n (f+1) (.c .skip::r) s Q=bX P ctx ro n f r s Q:=by simp only [bX]
theorem J3:bX P ctx ro n (f+1) (.c .ret::r) s Q=Q .ret s:=by simp only [bX]
theorem J4 {x y:Code}:bX P ctx ro n (f+1) (.c (.seq x y)::r) s Q=bX P ctx ro n f (.c x::.c y::r) s Q:=by simp only [bX]
theorem DO {id:Nat} {x:Code}:bX P ctx ro n (f+1) (.c (.block id x)::r) s Q=bX P ctx ro n f (.c x::.b id::r) s Q:=by simp only [bX]
theorem GW {c:Operand} {x y:Code}:bX P ctx ro n (f+1) (.c (.cond c x y)::r) s Q=aBr P ctx ro n f x y r s Q (evT s.t c):=by
 simp only [bX,aBr]
theorem BF {id:Nat} {l:List Oper}:bX P ctx ro n (f+1) (.c (.region id l.toArray false)::r) s Q=bX P ctx ro n f (.o l l::r) s Q:=by simp only [bX,List.toList_toArray]
def aEx (P:Program) (ctx:Ctx P) (ro:Cf) (n f id:Nat) (s:St) (Q:Exit→St→Prop):Option (List Itm)→Prop
 | some r'=>bX P ctx ro n f r' s Q
 | none=>Q (.exit id) s
theorem GY {id:Nat}:bX P ctx ro n (f+1) (.c (.exit id)::r) s Q=aEx P ctx ro n f id s Q (ij id r):=by
 simp only [bX,aEx]
def nU (P:Program) (ctx:Ctx P) (ro:Cf) (n f:Nat) (r:List Itm) (Q:Exit→St→Prop):Exit→St→Prop
 | .normal,s=>bX P ctx ro n f r s Q
 | .exit id,s=>aEx P ctx ro n f id s Q (ij id r)
 | e,s=>Q e s
theorem GZ {x:Code}:bX P ctx ro n (f+1) (.c (.loop x)::r) s Q=SW P ro n (.loop x) s (nU P ctx ro n f r Q):=by
 simp only [bX]
 congr 1
 funext e s'
 cases e<;>simp only [nU,aEx]
theorem GX {id:Nat} {ops:Array Oper}:bX P ctx ro n (f+1) (.c (.region id ops true)::r) s Q=SW P ro n (.region id ops true) s (nU P ctx ro n f r Q):=by
 simp only [bX]
 congr 1
 funext e s'
 cases e<;>simp only [nU,aEx]
theorem yI:nU P ctx ro n f r Q .normal s=bX P ctx ro n f r s Q:=rfl
theorem BI {id:Nat}:nU P ctx ro n f r Q (.exit id) s=aEx P ctx ro n f id s Q (ij id r):=rfl
theorem DQ:nU P ctx ro n f r Q .ret s=Q .ret s:=rfl
theorem JY {id:Nat} {r':List Itm}:aEx P ctx ro n f id s Q (some r')=bX P ctx ro n f r' s Q:=rfl
theorem JX {id:Nat}:aEx P ctx ro n f id s Q none=Q (.exit id) s:=rfl
theorem DH {all l:List Oper} {d:Option Tmp} {ob:Prop} {x:AV} {E:ah}:wv P ctx ro n f all l r d s Q (some ⟨ob,x,E⟩)=(cO n d=true∧ob∧bX P ctx ro n f (.o all l::r) ⟨s.nx+16,putT s.t d x,E++s.h⟩ Q):=rfl
theorem DG {all l:List Oper} {d:Option Tmp}:wv P ctx ro n f all l r d s Q none=False:=rfl
theorem JV {x y:Code}:aBr P ctx ro n f x y r s Q (.s (.l (.v (.bool true))))=bX P ctx ro n f (.c x::r) s Q:=by simp [aBr]
theorem GT {x y:Code}:aBr P ctx ro n f x y r s Q (.s (.l (.v (.bool false))))=bX P ctx ro n f (.c y::r) s Q:=by simp [aBr]
theorem aBr_any {x y:Code} {q:Bool}:aBr P ctx ro n f x y r s Q (.s (.l (.v (.bool q))))=((q=true→bX P ctx ro n f (.c x::r) s Q)∧(q=false→bX P ctx ro n f (.c y::r) s Q)):=rfl
theorem NN {x y:Code} {p:Prop} [Decidable p]:aBr P ctx ro n f x y r s Q (.s (.l (.v (.bool (decide p)))))=((p→bX P ctx ro n f (.c x::r) s Q)∧(¬p→bX P ctx ro n f (.c y::r) s Q)):=by simp [aBr]
theorem NO {x y:Code} {q:Bool}:aBr P ctx ro n f x y r s Q (.s (.l (.v (.bool (!q)))))=aBr P ctx ro n f y x r s Q (.s (.l (.v (.bool q)))):=by
 simp only [aBr,Bool.not_eq_true',Bool.not_eq_false']
 exact propext And.comm
theorem NL {x y:Code} {u v:Int}:aBr P ctx ro n f x y r s Q (.s (.l (.v (.bool (u==v)))))=((u=v→bX P ctx ro n f (.c x::r) s Q)∧(¬u=v→bX P ctx ro n f (.c y::r) s Q)):=by simp [aBr]
theorem NM {x y:Code} {u v:Int}:aBr P ctx ro n f x y r s Q (.s (.l (.v (.bool (u !=v)))))=((u=v→bX P ctx ro n f (.c y::r) s Q)∧(¬u=v→bX P ctx ro n f (.c x::r) s Q)):=by
 simp [aBr]
 exact And.comm
section
variable {all l:List Oper} {o:Oper} {j:Nat} {want:Bool}
theorem NW (h:cO n o.dst=true):aGd P ctx ro n f all o l r s Q j want (.s (.l (.v (.bool want))))=wy s.nx (ka all s.t j want) s.h Q (wv P ctx ro n f all l r o.dst ⟨s.nx,ka all s.t j want,s.h⟩ Q (aOp P ctx s.nx o.op (evT (ka all s.t j want)) s.h)) (sS P ctx s.nx o.op (evT (ka all s.t j want)) s.h):=by
 cases want<;>simp [aGd,h]
theorem QP (h:cO n o.dst=true):aGd P ctx ro n f all o l r s Q j true (.s (.l (.v (.bool false))))=bX P ctx ro n f (.o all l::r) ⟨s.nx,putT (ka all s.t j false) o.dst (.s (.l (.v (.tuple #[])))),s.h⟩ Q:=by simp [aGd,h]
theorem QO (h:cO n o.dst=true):aGd P ctx ro n f all o l r s Q j false (.s (.l (.v (.bool true))))=bX P ctx ro n f (.o all l::r) ⟨s.nx,putT (ka all s.t j true) o.dst (.s (.l (.v (.tuple #[])))),s.h⟩ Q:=by simp [aGd,h]
theorem JZ (h:cO n o.dst=true):aGd P ctx ro n f all o l r s Q j want (.s (.l (.v (.tuple #[]))))=bX P ctx ro n f (.o all l::r) ⟨s.nx,putT s.t o.dst (.s (.l (.v (.tuple #[])))),s.h⟩ Q:=by simp [aGd,h]
theorem GU {p:Prop} [Decidable p] (h:cO n o.dst=true):aGd P ctx ro n f all o l r s Q j want (.s (.l (.v (.bool (decide p)))))=((p→aGd P ctx ro n f all o l r s Q j want (.s (.l (.v (.bool true)))))∧(¬p→aGd P ctx ro n f all o l r s Q j want (.s (.l (.v (.bool false)))))):=by
 by_cases hp:p<;>simp [hp]
theorem NT {u v:Int} (h:cO n o.dst=true):aGd P ctx ro n f all o l r s Q j want (.s (.l (.v (.bool (u==v)))))=((u=v→aGd P ctx ro n f all o l r s Q j want (.s (.l (.v (.bool true)))))∧(¬u=v→aGd P ctx ro n f all o l r s Q j want (.s (.l (.v (.bool false)))))):=by
 by_cases hp:u=v
 ·have e:(u==v)=true:=by simp [hp]
  rw [e];simp [hp]
 ·have e:(u==v)=false:=by simp [hp]
  rw [e];simp [hp]
theorem NU {u v:Int} (h:cO n o.dst=true):aGd P ctx ro n f all o l r s Q j want (.s (.l (.v (.bool (u !=v)))))=((u=v→aGd P ctx ro n f all o l r s Q j want (.s (.l (.v (.bool false)))))∧(¬u=v→aGd P ctx ro n f all o l r s Q j want (.s (.l (.v (.bool true)))))):=by
 by_cases hp:u=v
 ·have e:(u !=v)=false:=by simp [hp]
  rw [e];simp [hp]
 ·have e:(u !=v)=true:=by simp [hp]
  rw [e];simp [hp]
theorem NV {q:Bool} (h:cO n o.dst=true):aGd P ctx ro n f all o l r s Q j want (.s (.l (.v (.bool (!q)))))=((q=true→aGd P ctx ro n f all o l r s Q j want (.s (.l (.v (.bool false)))))∧(q=false→aGd P ctx ro n f all o l r s Q j want (.s (.l (.v (.bool true)))))):=by
 cases q<;>simp
end
end
theorem dh {p:Nat→Prop} (h:∃ k,p k):∃ k,p k∧∀ j,p j→k≤j:=by
 obtain ⟨k,hk⟩:=h
 induction k using Nat.strongRecOn with
 | _ k ih =>
  by_cases hq:∃ j,j<k∧p j
  ·obtain ⟨j,hj,hp⟩:=hq
   exact ih j hj hp
  ·exact ⟨k,hk,fun j hp=>Nat.le_of_not_lt fun hlt=>hq ⟨j,hlt,hp⟩⟩
def Wk (ro:Cf) (s s':St):Prop:=∀ n B w0 ρ al a w,B.pl.length=ro.K→RepS n B w0 ρ al s a w→∃ ρ' al',RepS n B w0 ρ' al' s' a w
theorem Wk.refl (ro:Cf) (s:St):Wk ro s s:=fun _ _ _ ρ al _ _ _ H=>⟨ρ,al,H⟩
theorem Wk.trans {ro:Cf} {s s' s'':St} (h:Wk ro s s') (k:Wk ro s' s''):Wk ro s s'':=fun n B w0 ρ al a w hpl H=>by
 obtain ⟨ρ',al',H'⟩:=h n B w0 ρ al a w hpl H
 exact k n B w0 ρ' al' a w hpl H'
def uN (ro:Cf) {ι:Type} (inv:ι→Prop) (I:ι→St) (m:ι→Nat) (i:ι) (Q:Exit→St→Prop):Exit→St→Prop
 | .normal,s=>∃ j,inv j∧m j<m i∧Wk ro s (I j)
 | e,s=>Q e s
theorem yX {ι:Type} {inv:ι→Prop} {I:ι→St} {m:ι→Nat} {i:ι}:uN ro inv I m i Q .normal s = ∃ j,inv j∧m j<m i∧Wk ro s (I j):=rfl
theorem C4 {ι:Type} {inv:ι→Prop} {I:ι→St} {m:ι→Nat} {i:ι} {id:Nat}:uN ro inv I m i Q (.exit id) s=Q (.exit id) s:=rfl
theorem Fl {ι:Type} {inv:ι→Prop} {I:ι→St} {m:ι→Nat} {i:ι}:uN ro inv I m i Q .ret s=Q .ret s:=rfl
theorem cW {ι:Type} {c:Code} (inv:ι→Prop) (I:ι→St) (m:ι→Nat) (i0:ι) (h0:inv i0) (start:Wk ro s (I i0)) (round:∀ i,inv i→SW P ro n c (I i) (uN ro inv I m i Q)):SW P ro n (.loop c) s Q:=by
 intro B w0 ρ al a w hpl H
 classical
 let J:Act→World→Prop:=fun a w=>∃ i ρ al,inv i∧RepS n B w0 ρ al (I i) a w
 let μ:Act→World→Nat:=fun a w=>if hq:∃ k,∃ i ρ al,m i=k∧inv i∧RepS n B w0 ρ al (I i) a w then (dh hq).choose else 0
 obtain ⟨ρ0,al0,H0⟩:=start n B w0 ρ al a w hpl H
 refine wpIn_loop J μ ⟨i0,ρ0,al0,h0,H0⟩ ?_
 rintro a1 w1 ⟨i1,ρ1',al1',hi1,H1⟩
 have hq:∃ k,∃ i ρ al,m i=k∧inv i∧RepS n B w0 ρ al (I i) a1 w1:=⟨_,i1,ρ1',al1',rfl,hi1,H1⟩
 have hμ:μ a1 w1=(dh hq).choose:=dif_pos hq
 obtain ⟨i,ρi,ali,hmi,hii,Hi⟩:=(dh hq).choose_spec.1
 refine wpIn_mono (round i hii B w0 ρi ali a1 w1 hpl Hi) ?_
 rintro e a2 w2 ⟨ρ2,al2,s2,H2,q⟩
 cases e with
 | normal =>
  obtain ⟨j,hij,hj,hwk⟩:=q
  obtain ⟨ρ3,al3,H3⟩:=hwk n B w0 ρ2 al2 a2 w2 hpl H2
  refine ⟨⟨j,ρ3,al3,hij,H3⟩,?_⟩
  have hq2:∃ k,∃ i ρ al,m i=k∧inv i∧RepS n B w0 ρ al (I i) a2 w2:=⟨_,j,ρ3,al3,rfl,hij,H3⟩
  have h1:μ a2 w2=(dh hq2).choose:=dif_pos hq2
  have h2:(dh hq2).choose≤m j:=(dh hq2).choose_spec.2 _ ⟨j,ρ3,al3,rfl,hij,H3⟩
  rw [h1,hμ,← hmi]
  omega
 | _=>exact ⟨ρ2,al2,s2,H2,q⟩
end
end
section
open Go.RowKit
structure Ent where
 dst:Option Tmp
 r:AV
 E:ah
def bit (m k:Nat):Bool:=(m / 2 ^ k) % 2==1
def pm (e:Edge):Bool:=Region.binds .any e
def kc (acc:List Nat):List Edge→Nat
 | []=>0
 | e::r=>if pm e then kc acc r ||| 2 ^ e.on ||| acc.getD e.on 0 else kc acc r
def iq:List Nat→List Oper→List Nat
 | acc,[]=>acc
 | acc,o::l=>iq (acc++[kc acc o.after.toList]) l
def Tm (p:Nat→Bool):List Ent→Nat→et→et
 | [],_,t=>t
 | e::r,k,t=>Tm p r (k+1) (if p k then putT t e.dst e.r else t)
def Hp (p:Nat→Bool):List Ent→Nat→ah→ah
 | [],_,h=>h
 | e::r,k,h=>Hp p r (k+1) (if p k then e.E++h else h)
def inE (E:ah) (b:Nat):Bool:=E.any fun x=>x.1==b
section
variable {p p':Nat→Bool}
theorem sN {d:Nat}:∀ {rs:List Ent} {k:Nat} {t t':et},dk t d=dk t' d→(∀ (j:Nat) (e:Ent),rs[j]? = some e→e.dst=some d→p (k+j)=p' (k+j))→dk (Tm p rs k t) d=dk (Tm p' rs k t') d
 | [],_,_,_,h,_=>h
 | e::r,k,t,t',h,hp=>by
  rw [Tm,Tm]
  refine sN ?_ fun j x hx hd=>by have:=hp (j+1) x (by simpa using hx) hd;rwa [show k+(j+1)=k+1+j by omega] at this
  by_cases hd:e.dst=some d
  ·have:=hp 0 e rfl hd
   rw [Nat.add_zero] at this
   rw [this]
   split
   ·rw [hd,putT,putT,dk,dk,if_pos rfl,if_pos rfl]
   ·exact h
  ·have hn:∀ t,dk (putT t e.dst e.r) d=dk t d:=by
    intro t
    cases hq:e.dst with
    | none=>rfl
    | some q=>rw [putT,dk,if_neg (fun hh=>hd (by rw [hq,hh]))]
   split<;>split<;>simp only [hn,h]
theorem Ah {d:Nat}:∀ {rs:List Ent} {k:Nat} {t:et},(∀ (j:Nat) (e:Ent),rs[j]? = some e→e.dst=some d→p (k+j)=false)→dk (Tm p rs k t) d=dk t d
 | [],_,_,_=>rfl
 | e::r,k,t,hp=>by
  rw [Tm,Ah fun j x hx hd=>by have:=hp (j+1) x (by simpa using hx) hd;rwa [show k+(j+1)=k+1+j by omega] at this]
  split
  ·rename_i hpk
   cases hq:e.dst with
   | none=>rfl
   | some q =>
    rw [putT,dk,if_neg]
    rintro rfl
    have:=hp 0 e rfl hq
    rw [Nat.add_zero,hpk] at this
    cases this
  ·rfl
theorem FW {d:Nat} {x:Ent} (hx:x.dst=some d):∀ {rs:List Ent} {k j:Nat} {t:et},rs[j]? = some x→p (k+j)=true→(∀ (m:Nat) (e:Ent),j<m→rs[m]? = some e→e.dst=some d→p (k+m)=false)→dk (Tm p rs k t) d=x.r
 | [],_,_,_,h,_,_=>by simp at h
 | e::r,k,0,t,h,hp,hl=>by
  simp at h
  subst h
  rw [Nat.add_zero] at hp
  rw [Tm,if_pos hp,Ah fun j y hy hd=>by have:=hl (j+1) y (by omega) (by simpa using hy) hd;rwa [show k+(j+1)=k+1+j by omega] at this]
  rw [hx,putT,dk,if_pos rfl]
 | e::r,k,j+1,t,h,hp,hl=>by
  rw [Tm]
  exact FW hx (j:=j) (by simpa using h) (by rwa [show k+1+j=k+(j+1) by omega]) fun m y hm hy hd=>by have:=hl (m+1) y (by omega) (by simpa using hy) hd;rwa [show k+(m+1)=k+1+m by omega] at this
theorem oG {E h:ah} {b:Nat}:hget (E++h) b=if inE E b then hget E b else hget h b:=by
 induction E with
 | nil=>rfl
 | cons x r ih =>
  obtain ⟨k,v⟩:=x
  simp only [List.cons_append,hget,inE,List.any_cons]
  by_cases e:k=b
  ·simp [e]
  ·have:(k==b)=false:=by simpa using e
   simp only [if_neg e,this,Bool.false_or]
   exact ih
theorem wt {b:Nat}:∀ {rs:List Ent} {k:Nat} {h h':ah},hget h b=hget h' b→(∀ (j:Nat) (e:Ent),rs[j]? = some e→inE e.E b=true→p (k+j)=p' (k+j))→hget (Hp p rs k h) b=hget (Hp p' rs k h') b
 | [],_,_,_,h,_=>h
 | e::r,k,h,h',hh,hp=>by
  rw [Hp,Hp]
  refine wt ?_ fun j x hx hd=>by have:=hp (j+1) x (by simpa using hx) hd;rwa [show k+(j+1)=k+1+j by omega] at this
  by_cases hd:inE e.E b=true
  ·have:=hp 0 e rfl hd
   rw [Nat.add_zero] at this
   rw [this]
   split
   ·rw [oG,oG,if_pos hd,if_pos hd]
   ·exact hh
  ·have hn:∀ h,hget (e.E++h) b=hget h b:=fun h=>by rw [oG,if_neg hd]
   split<;>split<;>simp only [hn,hh]
theorem sM {b:Nat}:∀ {rs:List Ent} {k:Nat} {h:ah},(∀ (j:Nat) (e:Ent),rs[j]? = some e→inE e.E b=true→p (k+j)=false)→hget (Hp p rs k h) b=hget h b
 | [],_,_,_=>rfl
 | e::r,k,h,hp=>by
  rw [Hp,sM fun j x hx hd=>by have:=hp (j+1) x (by simpa using hx) hd;rwa [show k+(j+1)=k+1+j by omega] at this]
  split
  ·rename_i hpk
   rw [oG,if_neg]
   intro hd
   have:=hp 0 e rfl hd
   rw [Nat.add_zero,hpk] at this
   cases this
  ·rfl
theorem v8 {b:Nat} {x:Ent} (hx:inE x.E b=true):∀ {rs:List Ent} {k j:Nat} {h:ah},rs[j]? = some x→p (k+j)=true→(∀ (m:Nat) (e:Ent),j<m→rs[m]? = some e→inE e.E b=true→p (k+m)=false)→hget (Hp p rs k h) b=hget x.E b
 | [],_,_,_,h,_,_=>by simp at h
 | e::r,k,0,t,h,hp,hl=>by
  simp at h
  subst h
  rw [Nat.add_zero] at hp
  rw [Hp,if_pos hp,sM fun j y hy hd=>by have:=hl (j+1) y (by omega) (by simpa using hy) hd;rwa [show k+(j+1)=k+1+j by omega] at this]
  rw [oG,if_pos hx]
 | e::r,k,j+1,t,h,hp,hl=>by
  rw [Hp]
  exact v8 hx (j:=j) (by simpa using h) (by rwa [show k+1+j=k+(j+1) by omega]) fun m y hm hy hd=>by have:=hl (m+1) y (by omega) (by simpa using hy) hd;rwa [show k+(m+1)=k+1+m by omega] at this
end
def zq:Op→Bool
 | .move _ | .assign _ | .pick .. | .build .. | .fieldAddr .. | .index .. | .binOp .. | .unOp .. | .nilCheck _ | .extract .. | .field .. | .makeFunc .. | .makeInterface ..=>false
 | .call c=>match c.callee with
  | .builtin .len=>false
  | .builtin .min=>false
  | .builtin .max=>false
  | _=>true
 | _=>true
def xB (o:Oper) (ops:List Oper):List Nat :=
 (o.op.operands.toList.filterMap fun | .tmp t=>some t | _=>none) ++
 (
  match o.guard with
  | some (g,_)=>match ops[g]? with
   | some x=>x.dst.toList
   | none=>[]
  | none=>[])
def tied (ops:List Oper) (x y:Oper):Bool :=
 (
  match x.dst with
  | some d=>(xB y ops).contains d||y.dst==some d
  | none=>false) ||
 (
  match y.dst with
  | some d=>(xB x ops).contains d
  | none=>false)
structure Ms where
 ms:List Nat
 fs:List (Nat×List Nat)
 hs:List (Nat×List Nat)
def gc:List (Nat×List Nat)→Nat→List Nat
 | [],_=>[]
 | (j,bl)::r,i=>if j=i then bl++gc r i else gc r i
theorem sf {b i:Nat}:∀ {l:List (Nat×List Nat)},b∈gc l i→∃ m∈l,m.1=i∧b∈m.2
 | [],h=>by simp [gc] at h
 | (j,bl)::r,h=>by
  rw [gc] at h
  split at h
  ·rename_i e
   rcases List.mem_append.1 h with h | h
   ·exact ⟨(j,bl),by simp,e,h⟩
   ·obtain ⟨m,h1,h2⟩:=sf h
    exact ⟨m,by simp [h1],h2⟩
  ·obtain ⟨m,h1,h2⟩:=sf h
   exact ⟨m,by simp [h1],h2⟩
def y4 (bs:List Nat) (h:ah):ah:=(bs.map fun b=>(b,none))++h
theorem Up {h:ah}:y4 [] h=h:=rfl
theorem zr {h:ah}:∀ {U:List Nat} {b:Nat} {k:Blk},hget (y4 U h) b=some k→b∉U∧hget h b=some k
 | [],b,k,hk=>⟨by simp,hk⟩
 | c::U,b,k,hk=>by
  simp only [y4,List.map_cons,List.cons_append,hget] at hk
  split at hk
  ·cases hk
  ·rename_i hne
   obtain ⟨h1,h2⟩:=zr (U:=U) hk
   exact ⟨by simp only [List.mem_cons,not_or];exact ⟨fun e=>hne e.symm,h1⟩,h2⟩
def AG (ops:List Oper) (ms:Ms):Bool :=
 let bs:=iq [] ops
 let n:=ops.length
 (List.range n).all (fun i =>
  match ops[i]? with
  | some o =>
   ms.fs.all (fun m=>decide (m.1=i)||bit (bs.getD i 0) m.1||bit (bs.getD m.1 0) i||m.2.all (fun b=>(gc ms.hs i).contains b)) &&
   o.after.toList.all (fun e=>!pm e||decide (e.on<i)) &&
   (List.range n).all (fun k=>!bit (bs.getD i 0) k||(decide (k<i)&&o.after.toList.any (fun e=>pm e&&(e.on==k||bit (bs.getD e.on 0) k)))) &&
   (List.range n).all (fun k=>decide (k=i)||bit (bs.getD i 0) k||bit (bs.getD k 0) i||match ops[k]? with
    | some o'=>!tied ops o o'&&!(ms.ms.contains k&&zq o.op)
    | none=>true) &&
   (
    match o.guard with
    | some (g,_)=>bit (bs.getD i 0) g&&decide (g<n)
    | none=>true)
  | none=>false)
section
variable {P:Program} {ctx:Ctx P} {id:Nat} {o:Op} {ev ev':Operand→AV} {h h':ah} {R:Res}
theorem DK (hs:∀ b k,hget h b=some k→hget h' b=some k) {t:TypeId} {x:AV} (hr:sR P t x h=some R):sR P t x h'=some R:=by
 unfold sR at hr ⊢
 split at hr
 case h_2=>exact hr
 case h_3=>cases hr
 split at hr
 case h_2=>cases hr
 rename_i k hk
 simp only [hs _ _ hk]
 exact hr
theorem BH (hs:∀ b k,hget h b=some k→hget h' b=some k) {t:TypeId} {x y:AV} (hr:rU P t x y h=some R):rU P t x y h'=some R:=by
 unfold rU at hr ⊢
 split at hr
 case h_2=>cases hr
 split at hr
 case h_2=>cases hr
 rename_i k hk
 simp only [hs _ _ hk]
 exact hr
theorem Cg (hs:∀ b k,hget h b=some k→hget h' b=some k) {t:TypeId} {x:AV} (hr:si P t x h=true):si P t x h'=true:=by
 unfold si at hr ⊢
 split at hr
 ·split at hr
  case h_2=>cases hr
  rename_i k e hk he
  simp only [hs _ _ hk,he]
  exact hr
 ·rfl
theorem BG (hs:∀ b k,hget h b=some k→hget h' b=some k) {t:TypeId} {x:AV} {lo hi mx:Option AV} (hr:rT P t x lo hi mx h=some R):rT P t x lo hi mx h'=some R:=by
 unfold rT at hr ⊢
 split at hr
 ·cases hr
 split at hr
 ·split at hr
  case h_2=>cases hr
  rename_i l m k e h1 h2 hk he
  simp only [h1,h2,hs _ _ hk,he]
  exact hr
 ·exact hr
 ·exact hr
 ·exact hr
 ·cases hr
theorem FF (hs:∀ b k,hget h b=some k→hget h' b=some k) {t2:TypeId} {y:AV} {sz:Nat} {X:Prop×Nat×List (List LV)} (hr:yn P t2 y h sz=some X):yn P t2 y h' sz=some X:=by
 unfold yn at hr ⊢
 split at hr
 ·split at hr
  case h_2=>cases hr
  rename_i l hl
  simp only [hs _ _ hl]
  exact hr
 ·exact hr
 ·exact hr
 ·exact hr
 ·cases hr
theorem Ai (hs:∀ b k,hget h b=some k→hget h' b=some k) {t1 t2:TypeId} {x y:AV} (hr:ph P t1 t2 x y h id=some R):ph P t1 t2 x y h' id=some R:=by
 unfold ph at hr ⊢
 split at hr
 case h_2=>cases hr
 rename_i T hT
 try simp only [hT]
 split at hr
 case h_2=>cases hr
 rename_i z1 z2 z3 e1 e2 e3
 split at hr
 case h_2=>cases hr
 rename_i ob m rows hsrc
 simp only [FF hs hsrc]
 split at hr
 ·split at hr
  case h_2=>cases hr
  rename_i k hk
  simp only [hs _ _ hk]
  exact hr
 ·exact hr
 ·cases hr
theorem zzu7 (hs:∀ b k,hget h b=some k→hget h' b=some k) {src dst:TypeId} {x:AV} (hr:pi P src dst x h id=some R):pi P src dst x h' id=some R:=by
 unfold pi at hr ⊢
 split at hr
 ·split at hr
  case isFalse=>cases hr
  rename_i hc
  rw [if_pos hc]
  split at hr
  case h_2=>cases hr
  rename_i k hk
  simp only [hs _ _ hk]
  exact hr
 ·exact hr
 ·exact hr
 ·exact hr
 ·cases hr
theorem J1 (hs:∀ b k,hget h b=some k→hget h' b=some k) (hr:aOp P ctx id o ev h=some R):aOp P ctx id o ev h'=some R:=by
 cases o with
 | load t x=>simp only [aOp] at hr ⊢;exact DK hs hr
 | store t x y=>simp only [aOp] at hr ⊢;exact BH hs hr
 | indexAddr t x ix =>
  simp only [aOp] at hr ⊢
  split at hr
  case isFalse=>cases hr
  rename_i hf
  rw [if_pos (Cg hs hf)]
  exact hr
 | slice t x lo hi mx=>simp only [aOp] at hr ⊢;exact BG hs hr
 | convert s d x =>
  simp only [aOp] at hr ⊢
  split at hr
  ·split at hr
   ·exact hr
   ·exact zzu7 hs hr
  ·exact zzu7 hs hr
 | call c =>
  obtain ⟨callee,args,argTypes⟩:=c
  cases callee with
  | builtin b =>
   simp only [aOp] at hr ⊢
   split at hr
   ·exact hr
   ·split at hr
    ·exact Ai hs hr
    ·exact hr
    ·exact hr
    ·cases hr
   ·cases hr
  | value f =>
   simp only [aOp] at hr ⊢
   split at hr
   case h_2=>cases hr
   split at hr
   case h_2=>cases hr
   rename_i run hrun
   obtain ⟨s,rfl⟩:=ui hrun
   exact s.mono hs hr
  | invoke _ _=>simp only [aOp] at hr;cases hr
 | makeFunc fn f c=>cases fn<;>first | exact hr | (simp only [aOp] at hr;cases hr)
 | _=>first | exact hr | (simp only [aOp] at hr;cases hr)
theorem y6 (hh:zq o=false) {id':Nat} (hr:aOp P ctx id o ev h=some R):aOp P ctx id' o ev h'=some R∧R.E=[]:=by
 cases o with
 | move x=>simp only [aOp,Option.some.injEq] at hr ⊢;exact ⟨hr,by rw [← hr]⟩
 | assign x=>simp only [aOp,Option.some.injEq] at hr ⊢;exact ⟨hr,by rw [← hr]⟩
 | pick c a b =>
  simp only [aOp] at hr ⊢
  refine ⟨hr,?_⟩
  split at hr
  ·injection hr with hr;rw [← hr]
  ·injection hr with hr;rw [← hr]
  ·cases hr
 | build t ps =>
  simp only [aOp] at hr ⊢
  refine ⟨hr,?_⟩
  unfold wu at hr
  split at hr
  ·split at hr
   ·injection hr with hr;rw [← hr]
   ·cases hr
  ·split at hr
   ·split at hr
    ·injection hr with hr;rw [← hr]
    ·cases hr
   ·cases hr
  ·cases hr
 | fieldAddr t x f =>
  simp only [aOp] at hr ⊢
  refine ⟨hr,?_⟩
  unfold ud at hr
  split at hr
  ·injection hr with hr;rw [← hr]
  ·injection hr with hr;rw [← hr]
  ·cases hr
 | index t x ix =>
  simp only [aOp] at hr ⊢
  refine ⟨hr,?_⟩
  split at hr
  ·injection hr with hr;rw [← hr]
  ·cases hr
 | binOp op t x y yt =>
  simp only [aOp] at hr ⊢
  refine ⟨hr,?_⟩
  split at hr
  ·split at hr
   ·injection hr with hr;rw [← hr]
   ·cases hr
  ·split at hr
   ·split at hr
    ·injection hr with hr;rw [← hr]
    ·cases hr
   ·cases hr
 | makeFunc fn f c =>
  cases fn<;>simp only [aOp] at hr ⊢<;>try (cases hr;done)
  refine ⟨hr,?_⟩
  split at hr
  ·injection hr with hr;rw [← hr]
  ·cases hr
 | makeInterface t x =>
  simp only [aOp] at hr ⊢
  refine ⟨hr,?_⟩
  split at hr
  ·split at hr
   ·injection hr with hr;rw [← hr]
   ·split at hr
    ·injection hr with hr;rw [← hr]
    ·cases hr
  ·cases hr
 | unOp op t x =>
  simp only [aOp] at hr ⊢
  refine ⟨hr,?_⟩
  split at hr
  ·split at hr
   ·injection hr with hr;rw [← hr]
   ·cases hr
  ·cases hr
 | nilCheck x =>
  simp only [aOp] at hr ⊢
  refine ⟨hr,?_⟩
  split at hr
  ·injection hr with hr;rw [← hr]
  ·cases hr
 | extract x n =>
  simp only [aOp] at hr ⊢
  refine ⟨hr,?_⟩
  split at hr
  ·split at hr
   ·injection hr with hr;rw [← hr]
   ·cases hr
  ·cases hr
 | field t x f =>
  simp only [aOp] at hr ⊢
  refine ⟨hr,?_⟩
  split at hr
  ·injection hr with hr;rw [← hr]
  ·cases hr
 | call c =>
  obtain ⟨callee,args,argTypes⟩:=c
  cases callee with
  | builtin b =>
   simp only [aOp] at hr ⊢
   have fin:∀ {x:Option Value},(match x with | some v=>some (⟨True,.s (.l (.v v)),[]⟩:Res) | none=>none)=some R→R.E=[]:=by
    intro x hx
    split at hx
    ·injection hx with hx;rw [← hx]
    ·cases hx
   split at hr
   ·split at hr
    ·exact ⟨hr,fin hr⟩
    ·cases hr
   ·split at hr
    ·cases hh
    ·split at hr
     ·exact ⟨hr,fin hr⟩
     ·cases hr
    ·split at hr
     ·exact ⟨hr,fin hr⟩
     ·cases hr
    ·cases hr
   ·cases hr
  | value f=>cases hh
  | invoke _ _=>cases hh
 | _=>first | (cases hh;done) | (simp only [aOp] at hr;cases hr)
theorem GV (he:∀ x∈o.operands,ev x=ev' x):aOp P ctx id o ev h=aOp P ctx id o ev' h:=by
 have hps:∀ ps:Array (Nat×Operand),(∀ x∈(ps.toList.map (·.2)).toArray,ev x=ev' x)→(ps.toList.map fun (i,x)=>(i,ev x))=(ps.toList.map fun (i,x)=>(i,ev' x)):=fun ps hp =>
  List.map_congr_left fun p hm=>by
   obtain ⟨i,x⟩:=p
   simp only [hp x (by simp only [List.mem_toArray,List.mem_map];exact ⟨(i,x),hm,rfl⟩)]
 have hopt:∀ y:Option Operand,(∀ x∈y.toArray,ev x=ev' x)→y.map ev=y.map ev':=by
  intro y hy
  cases y with
  | none=>rfl
  | some y=>simp only [Option.map_some];rw [hy y (by simp)]
 cases o with
 | build t ps=>simp only [aOp,Op.operands] at he ⊢;rw [hps ps he]
 | buildSlice t n ps=>simp only [aOp,Op.operands] at he ⊢;rw [hps ps he]
 | slice t x lo hi mx =>
  simp only [aOp,Op.operands] at he ⊢
  rw [he x (by simp),hopt lo fun y hy=>he y (by simp at hy ⊢;simp [hy]),hopt hi fun y hy=>he y (by simp at hy ⊢;simp [hy]),hopt mx fun y hy=>he y (by simp at hy ⊢;simp [hy])]
 | call c =>
  obtain ⟨callee,args,argTypes⟩:=c
  cases callee with
  | builtin b =>
   simp only [aOp,Op.operands,Call.operands] at he ⊢
   split
   ·rename_i x t ha ht
    rw [he x (by simp [← Array.mem_toList_iff,ha])]
   ·rename_i x y t1 t2 ha ht
    rw [he x (by simp [← Array.mem_toList_iff,ha]),he y (by simp [← Array.mem_toList_iff,ha])]
   ·rfl
  | value f =>
   simp only [aOp,Op.operands,Call.operands] at he ⊢
   have e1:args.toList.map ev=args.toList.map ev':=List.map_congr_left fun x hx=>he x (by simp;exact .inr (by simpa using hx))
   rw [he f (by simp),e1]
  | invoke _ _=>simp only [aOp]
 | makeFunc fn f c =>
  simp only [Op.operands] at he
  have e1:f.toList.map ev=f.toList.map ev':=List.map_congr_left fun x hx=>he x (by simp;exact .inl (by simpa using hx))
  have e2:c.toList.map ev=c.toList.map ev':=List.map_congr_left fun x hx=>he x (by simp;exact .inr (by simpa using hx))
  cases fn<;>simp only [aOp]<;>rw [e1,e2]
 | _=>simp only [aOp,Op.operands] at he ⊢<;>simp_all
end
def eOk (ms:Ms) (nx i:Nat):ah→Prop
 | []=>True
 | (b,_)::r=>b<nx+16*(i+1)∧((nx+16*i≤b∨i∈ms.ms∨b∈gc ms.fs i)∧b∉gc ms.hs i)∧eOk ms nx i r
theorem un {ms:Ms} {nx i:Nat}:∀ {E:ah} {b:Nat},eOk ms nx i E→inE E b=true→b<nx+16*(i+1)∧(nx+16*i≤b∨i∈ms.ms∨b∈gc ms.fs i)∧b∉gc ms.hs i
 | [],b,_,h=>by simp [inE] at h
 | (c,v)::r,b,⟨h1,h2,h3⟩,h=>by
  simp only [inE,List.any_cons,Bool.or_eq_true] at h
  rcases h with h | h
  ·have:c=b:=by simpa using h
   subst this
   exact ⟨h1,h2⟩
  ·exact un h3 h
noncomputable def aDr (P:Program) (ctx:Ctx P) (n:Nat) (ms:Ms) (nx:Nat) (h0:ah) (Q:Exit→St→Prop) (all:List Oper):List Oper→Nat→List Nat→List Ent→et→Prop
 | [],i,_,rs,T=>Q .normal ⟨nx+16*i,T,Hp (fun _=>true) rs 0 h0⟩
 | o::l,i,acc,rs,T =>
  match o.guard with
  | none=>match aOp P ctx (nx+16*i) o.op (evT T) (y4 (gc ms.hs i) (Hp (bit (kc acc o.after.toList)) rs 0 h0)) with
   | some R=>cO n o.dst=true∧R.ob∧eOk ms nx i R.E∧aDr P ctx n ms nx h0 Q all l (i+1) (acc++[kc acc o.after.toList]) (rs++[⟨o.dst,R.r,R.E⟩]) (putT T o.dst R.r)
   | none=>False
  | some (j,want)=>match gAt all T j with
   | .s (.l (.v (.bool q)))=>cO n o.dst=true∧(if q=want then match aOp P ctx (nx+16*i) o.op (evT T) (y4 (gc ms.hs i) (Hp (bit (kc acc o.after.toList)) rs 0 h0)) with
     | some R=>cO n o.dst=true∧R.ob∧eOk ms nx i R.E∧aDr P ctx n ms nx h0 Q all l (i+1) (acc++[kc acc o.after.toList]) (rs++[⟨o.dst,R.r,R.E⟩]) (putT T o.dst R.r)
     | none=>False
    else aDr P ctx n ms nx h0 Q all l (i+1) (acc++[kc acc o.after.toList]) (rs++[⟨o.dst,.s (.l (.v (.tuple #[]))),[]⟩]) (putT T o.dst (.s (.l (.v (.tuple #[]))))))
   | .s (.l (.v (.tuple ⟨[]⟩)))=>cO n o.dst=true∧aDr P ctx n ms nx h0 Q all l (i+1) (acc++[kc acc o.after.toList]) (rs++[⟨o.dst,.s (.l (.v (.tuple #[]))),[]⟩]) (putT T o.dst (.s (.l (.v (.tuple #[])))))
   | _=>False
def aDk (P:Program) (ctx:Ctx P) (n:Nat) (ms:Ms) (nx:Nat) (h0:ah) (Q:Exit→St→Prop) (all:List Oper) (d:Option Tmp) (l:List Oper) (i:Nat) (acc:List Nat) (rs:List Ent) (T:et):Option Res→Prop
 | some R=>cO n d=true∧R.ob∧eOk ms nx i R.E∧aDr P ctx n ms nx h0 Q all l (i+1) acc (rs++[⟨d,R.r,R.E⟩]) (putT T d R.r)
 | none=>False
section
variable {P:Program} {ctx:Ctx P} {n:Nat} {ms:Ms} {nx:Nat} {h0:ah} {Q:Exit→St→Prop} {all l:List Oper} {i:Nat} {acc:List Nat} {rs:List Ent} {T:et}
theorem NP:aDr P ctx n ms nx h0 Q all [] i acc rs T=Q .normal ⟨nx+16*i,T,Hp (fun _=>true) rs 0 h0⟩:=by simp only [aDr]
theorem NQ {d:Option Tmp} {op:Op} {t:TypeId} {p:String} {af:Array Edge}:aDr P ctx n ms nx h0 Q all (⟨d,op,t,p,af,none⟩::l) i acc rs T=aDk P ctx n ms nx h0 Q all d l i (acc++[kc acc af.toList]) rs T (aOp P ctx (nx+16*i) op (evT T) (y4 (gc ms.hs i) (Hp (bit (kc acc af.toList)) rs 0 h0))):=by simp only [aDr,aDk]
theorem NR {d:Option Tmp} {op:Op} {t:TypeId} {p:String} {af:Array Edge} {j:Nat} {want:Bool} (hd:cO n d=true) (hj:gAt all T j=.s (.l (.v (.bool want)))):aDr P ctx n ms nx h0 Q all (⟨d,op,t,p,af,some (j,want)⟩::l) i acc rs T=aDk P ctx n ms nx h0 Q all d l i (acc++[kc acc af.toList]) rs T (aOp P ctx (nx+16*i) op (evT T) (y4 (gc ms.hs i) (Hp (bit (kc acc af.toList)) rs 0 h0))):=by
 simp only [aDr,hj,hd,true_and,if_pos]
 cases aOp P ctx (nx+16*i) op (evT T) (y4 (gc ms.hs i) (Hp (bit (kc acc af.toList)) rs 0 h0))<;>simp [aDk,hd]
theorem QN {d:Option Tmp} {op:Op} {t:TypeId} {p:String} {af:Array Edge} {j:Nat} {want:Bool} (hd:cO n d=true) (hj:gAt all T j=.s (.l (.v (.bool (!want))))):aDr P ctx n ms nx h0 Q all (⟨d,op,t,p,af,some (j,want)⟩::l) i acc rs T=aDr P ctx n ms nx h0 Q all l (i+1) (acc++[kc acc af.toList]) (rs++[⟨d,.s (.l (.v (.tuple #[]))),[]⟩]) (putT T d (.s (.l (.v (.tuple #[]))))):=by
 simp only [aDr,hj,hd,true_and]
 rw [if_neg (by cases want<;>simp)]
theorem JW {d:Option Tmp} {ob:Prop} {x:AV} {E:ah}:aDk P ctx n ms nx h0 Q all d l i acc rs T (some ⟨ob,x,E⟩)=(cO n d=true∧ob∧eOk ms nx i E∧aDr P ctx n ms nx h0 Q all l (i+1) acc (rs++[⟨d,x,E⟩]) (putT T d x)):=rfl
def FV (P:Program) (ctx:Ctx P) (n:Nat) (ms:Ms) (nx:Nat) (h0:ah) (all:List Oper) (t0:et) (bs:List Nat) (rs:List Ent) (k:Nat) (o:Oper) (e:Ent):Prop :=
 e.dst=o.dst∧cO n o.dst=true ∧
 (
  (∃ R,aOp P ctx (nx+16*k) o.op (evT (Tm (fun _=>true) (rs.take k) 0 t0)) (y4 (gc ms.hs k) (Hp (bit (bs.getD k 0)) (rs.take k) 0 h0))=some R∧R.ob∧eOk ms nx k R.E∧e.r=R.r∧e.E=R.E∧(o.guard=none∨∃ j want,o.guard=some (j,want)∧gAt all (Tm (fun _=>true) (rs.take k) 0 t0) j=.s (.l (.v (.bool want))))) ∨
  (e.r=.s (.l (.v (.tuple #[])))∧e.E=[]∧∃ j want,o.guard=some (j,want)∧(gAt all (Tm (fun _=>true) (rs.take k) 0 t0) j=.s (.l (.v (.bool (!want))))∨gAt all (Tm (fun _=>true) (rs.take k) 0 t0) j=.s (.l (.v (.tuple ⟨[]⟩))))))
theorem FX {p:Nat→Bool} {e:Ent}:∀ {rs:List Ent} {k:Nat} {t:et},Tm p (rs++[e]) k t=if p (k+rs.length) then putT (Tm p rs k t) e.dst e.r else Tm p rs k t
 | [],k,t=>by simp [Tm]
 | x::r,k,t=>by
  rw [List.cons_append,Tm,FX,Tm]
  simp only [List.length_cons]
  rw [show k+1+r.length=k+(r.length+1) by omega]
theorem ve:∀ {l:List Oper} {acc:List Nat} {k:Nat},k<acc.length→(iq acc l)[k]? = acc[k]?
 | [],_,_,_=>rfl
 | o::l,acc,k,h=>by
  rw [iq,ve (by simp;omega),List.getElem?_append_left h]
theorem Hf {o:Oper} {l:List Oper} {acc:List Nat}:(iq acc (o::l)).getD acc.length 0=kc acc o.after.toList:=by
 rw [iq,List.getD_eq_getElem?_getD,ve (by simp),List.getElem?_append_right (Nat.le_refl _)]
 simp
theorem BD (t0:et):∀ {l:List Oper} {i:Nat} {acc:List Nat} {rs:List Ent} {T:et},aDr P ctx n ms nx h0 Q all l i acc rs T→T=Tm (fun _=>true) rs 0 t0→acc.length=i→rs.length=i →
  ∃ rs',rs'.length=i+l.length∧rs'.take i=rs∧(∀ (k:Nat) (o:Oper),l[k]? = some o→∃ e,rs'[i+k]? = some e∧FV P ctx n ms nx h0 all t0 (iq acc l) rs' (i+k) o e)∧Q .normal ⟨nx+16*(i+l.length),Tm (fun _=>true) rs' 0 t0,Hp (fun _=>true) rs' 0 h0⟩
 | [],i,acc,rs,T,h,hT,ha,hr=>by
  simp only [aDr] at h
  subst hT
  exact ⟨rs,by simp [hr],by rw [← hr];simp,by simp,by simpa using h⟩
 | o::l,i,acc,rs,T,h,hT,ha,hr=>by
  have go:∀ (e:Ent),aDr P ctx n ms nx h0 Q all l (i+1) (acc++[kc acc o.after.toList]) (rs++[e]) (putT T e.dst e.r)→(∀ rs':List Ent,rs'.take i=rs→FV P ctx n ms nx h0 all t0 (iq acc (o::l)) rs' i o e)→∃ rs',rs'.length=i+(o::l).length∧rs'.take i=rs∧(∀ (k:Nat) (x:Oper),(o::l)[k]? = some x→∃ e,rs'[i+k]? = some e∧FV P ctx n ms nx h0 all t0 (iq acc (o::l)) rs' (i+k) x e)∧Q .normal ⟨nx+16*(i+(o::l).length),Tm (fun _=>true) rs' 0 t0,Hp (fun _=>true) rs' 0 h0⟩:=by
   intro e hn he
   obtain ⟨rs',g1,g2,g3,g4⟩:=BD t0 (l:=l) hn (by rw [FX,if_pos rfl,hT]) (by simp [ha]) (by simp [hr])
   have hpre:rs'.take i=rs:=by
    have:=congrArg (List.take i) g2
    rw [List.take_take,Nat.min_eq_left (by omega)] at this
    rw [this,← hr,List.take_left]
   have hei:rs'[i]? = some e:=by
    have:(rs'.take (i+1))[i]? = some e:=by rw [g2,← hr,List.getElem?_append_right (Nat.le_refl _)];simp
    rwa [List.getElem?_take,if_pos (by omega)] at this
   refine ⟨rs',by rw [g1,List.length_cons];omega,hpre,?_,?_⟩
   ·intro k x hx
    cases k with
    | zero =>
     simp at hx
     subst hx
     exact ⟨e,hei,he rs' hpre⟩
    | succ k =>
     have:=g3 k x (by simpa using hx)
     rw [show i+1+k=i+(k+1) by omega] at this
     exact this
   ·rw [show i+(o::l).length=i+1+l.length by simp;omega]
    exact g4
  have hbs:(iq acc (o::l)).getD i 0=kc acc o.after.toList:=by rw [← ha];exact Hf
  simp only [aDr] at h
  split at h
  ·rename_i hg
   split at h
   case h_2=>exact h.elim
   rename_i R hR
   obtain ⟨h1,h2,h3,h4⟩:=h
   refine go ⟨o.dst,R.r,R.E⟩ h4 fun rs' hp=>⟨rfl,h1,.inl ⟨R,?_,h2,h3,rfl,rfl,.inl hg⟩⟩
   rw [hp,hbs,← hT]
   exact hR
  ·rename_i j want hg
   split at h
   case h_3=>exact h.elim
   case h_1 q hq =>
    obtain ⟨h1,h⟩:=h
    split at h
    ·rename_i hqw
     split at h
     case h_2=>exact h.elim
     rename_i R hR
     obtain ⟨h1,h2,h3,h4⟩:=h
     refine go ⟨o.dst,R.r,R.E⟩ h4 fun rs' hp=>⟨rfl,h1,.inl ⟨R,?_,h2,h3,rfl,rfl,.inr ⟨j,want,hg,?_⟩⟩⟩
     ·rw [hp,hbs,← hT]
      exact hR
     ·rw [hp,← hT,hq,hqw]
    ·rename_i hqw
     refine go ⟨o.dst,.s (.l (.v (.tuple #[]))),[]⟩ h fun rs' hp=>⟨rfl,h1,.inr ⟨rfl,rfl,j,want,hg,.inl ?_⟩⟩
     rw [hp,← hT,hq]
     cases q<;>cases want<;>simp_all
   case h_2 hq =>
    obtain ⟨h1,h⟩:=h
    refine go ⟨o.dst,.s (.l (.v (.tuple #[]))),[]⟩ h fun rs' hp=>⟨rfl,h1,.inr ⟨rfl,rfl,j,want,hg,.inr ?_⟩⟩
    rw [hp,← hT,hq]
end
section
variable {P:Program} {ctx:Ctx P} {ro:Cf} {n:Nat} {B:eK} {w0:World} {ρ:Nat→Loc} {al:Al} {a:Act} {w:World}
theorem NZ {t:et} {h:ah} (hT:TRep ρ al t a.tmps) (hW:WRep B w0 ρ al h w) {id:Nat} (hid:∀ b,id≤b→b<id+16→¬al b) {o:Oper} {R:Res} {Q:Exit→Act→World→Prop} {K:Act→World→Prop} (hs:aOp P ctx id o.op (evT t) h=some R) (hob:R.ob)
  (hK:∀ v w' ρ' al',Ext ρ ρ' al al'→(∀ b,al' b→alW al id b)→ARep ρ' al' R.r v→WRep B w0 ρ' al' (R.E++h) w'→KeepsD w w'→K (a.put o.dst v) w'):o.wpIn (Fw ro) 0 P a w K Q:=by
 refine ⟨fun _ _=>trivial,?_⟩
 rw [Oper.semAt_eq _ _ _ (vc hs)]
 rcases aOp_runs hW.rebase (jc hT) hid hs hob with ⟨m,v,w',ρ',hr,hm,hE,hA,hw⟩ | ⟨g,args,vals,hr,sp,hrun,vs,rfl,hA⟩
 ·rw [hr]
  rcases hm with rfl | ⟨rfl,rfl⟩
  ·exact hK v w' ρ' _ hE (fun _ hb=>hb) hA (hW.unbase hw) hw.below.kept
  ·exact hK undef w' ρ' _ hE (fun _ hb=>hb) hA (hW.unbase hw) hw.below.kept
 ·rw [hr]
  refine ⟨fun h=>by simp [Fw,Fence.wide] at h,jO.2 (Calls.mono (sp.sound hrun hob vs hW.rebase hid hA) ?_)⟩
  rintro e w' ⟨v,ρ',al',rfl,hE,hsub,hr',hw⟩
  exact hK v w' ρ' al' hE hsub hr' (hW.unbase hw) hw.below.kept
theorem FY {p:Nat→Bool}:∀ {rs:List Ent} {i k:Nat} {t:et},Tm p (rs.take i) k t=Tm (fun m=>p m&&decide (m<k+i)) rs k t
 | [],i,k,t=>by simp [Tm]
 | e::r,0,k,t=>by
  have hz:∀ (r:List Ent) (k':Nat) (t:et),k≤k'→Tm (fun m=>p m&&decide (m<k+0)) r k' t=t:=by
   intro r
   induction r with
   | nil=>intro k' t _;rfl
   | cons x r ih =>
    intro k' t hk
    rw [Tm,if_neg (by simp;omega),ih _ _ (by omega)]
  rw [hz _ _ _ (Nat.le_refl _)]
  rfl
 | e::r,i+1,k,t=>by
  rw [List.take_succ_cons,Tm,Tm,FY]
  have e1:(p k&&decide (k<k+(i+1)))=p k:=by simp
  rw [e1]
  congr 1
  funext m
  rw [show k+1+i=k+(i+1) by omega]
theorem Af {p:Nat→Bool}:∀ {rs:List Ent} {i k:Nat} {t:ah},Hp p (rs.take i) k t=Hp (fun m=>p m&&decide (m<k+i)) rs k t
 | [],i,k,t=>by simp [Hp]
 | e::r,0,k,t=>by
  have hz:∀ (r:List Ent) (k':Nat) (t:ah),k≤k'→Hp (fun m=>p m&&decide (m<k+0)) r k' t=t:=by
   intro r
   induction r with
   | nil=>intro k' t _;rfl
   | cons x r ih =>
    intro k' t hk
    rw [Hp,if_neg (by simp;omega),ih _ _ (by omega)]
  rw [hz _ _ _ (Nat.le_refl _)]
  rfl
 | e::r,i+1,k,t=>by
  rw [List.take_succ_cons,Hp,Hp,Af]
  have e1:(p k&&decide (k<k+(i+1)))=p k:=by simp
  rw [e1]
  congr 1
  funext m
  rw [show k+1+i=k+(i+1) by omega]
structure DOk (l:List Oper) (ms:Ms):Prop where
 edge:∀ (i:Nat) (o:Oper),l[i]? = some o→∀ e∈o.after.toList,pm e=true→e.on<i
 bef:∀ (i:Nat) (o:Oper) (k:Nat),l[i]? = some o→k<l.length→bit ((iq [] l).getD i 0) k=true→k<i∧∃ e∈o.after.toList,pm e=true∧(e.on=k∨bit ((iq [] l).getD e.on 0) k=true)
 tied:∀ (i k:Nat) (o x:Oper),l[i]? = some o→l[k]? = some x→k≠i→(tied l o x=true∨(k∈ms.ms∧zq o.op=true))→bit ((iq [] l).getD i 0) k=true∨bit ((iq [] l).getD k 0) i=true
 guard:∀ (i:Nat) (o:Oper) (g:Nat) (want:Bool),l[i]? = some o→o.guard=some (g,want)→bit ((iq [] l).getD i 0) g=true∧g<l.length
 free:∀ (i:Nat) (o:Oper),l[i]? = some o→∀ m∈ms.fs,m.1≠i→bit ((iq [] l).getD i 0) m.1=true∨bit ((iq [] l).getD m.1 0) i=true∨∀ b∈m.2,b∈gc ms.hs i
theorem DOk.unord {l:List Oper} {ms:Ms} (D:DOk l ms) {i j b:Nat} {o:Oper} (ho:l[i]? = some o) (hne:j≠i) (hb:b∈gc ms.fs j) (hn:b∉gc ms.hs i):bit ((iq [] l).getD i 0) j=true∨bit ((iq [] l).getD j 0) i=true:=by
 obtain ⟨m,h1,rfl,h2⟩:=sf hb
 rcases D.free i o ho m h1 hne with h | h | h
 ·exact .inl h
 ·exact .inr h
 ·exact (hn (h b h2)).elim
theorem Eg {l:List Oper} {ms:Ms} (h:AG l ms=true):DOk l ms:=by
 unfold AG at h
 have key:∀ (i:Nat) (o:Oper),l[i]? = some o→_:=fun i o ho=>by
  have h1:=List.all_eq_true.1 h i (List.mem_range.2 (List.getElem?_eq_some_iff.1 ho).1)
  rw [ho] at h1
  simp only [Bool.and_eq_true] at h1
  exact h1
 refine ⟨fun i o ho e he hb=>?_,fun i o k ho hk hb=>?_,fun i k o x ho hx hne ht=>?_,fun i o g want ho hg=>?_,fun i o ho m hm hne=>?_⟩
 ·have:=List.all_eq_true.1 (key i o ho).1.1.1.2 e he
  simpa [hb] using this
 ·have:=List.all_eq_true.1 (key i o ho).1.1.2 k (List.mem_range.2 hk)
  simp only [hb,Bool.not_true,Bool.false_or,Bool.and_eq_true,decide_eq_true_eq,List.any_eq_true,Bool.or_eq_true,beq_iff_eq] at this
  obtain ⟨h1,e,h2,h3⟩:=this
  exact ⟨h1,e,h2,h3⟩
 ·have:=List.all_eq_true.1 (key i o ho).1.2 k (List.mem_range.2 (List.getElem?_eq_some_iff.1 hx).1)
  simp only [hx,Bool.or_eq_true,decide_eq_true_eq] at this
  rcases this with ((h1 | h1) | h1) | h1
  ·exact (hne h1).elim
  ·exact .inl h1
  ·exact .inr h1
  ·simp only [Bool.and_eq_true,Bool.not_eq_true',Bool.and_eq_false_iff] at h1
   rcases ht with ht | ⟨h2,h3⟩
   ·rw [ht] at h1;exact absurd h1.1 (by simp)
   ·rcases h1.2 with h4 | h4
    ·exact absurd h4 (by simp [h2])
    ·rw [h3] at h4;exact absurd h4 (by simp)
 ·have:=(key i o ho).2
  rw [hg] at this
  simpa using this
 ·have:=List.all_eq_true.1 (key i o ho).1.1.1.1 m hm
  simp only [Bool.or_eq_true,decide_eq_true_eq,List.all_eq_true,List.contains_iff_mem] at this
  rcases this with ((h1 | h1) | h1) | h1
  ·exact (hne h1).elim
  ·exact .inl h1
  ·exact .inr (.inl h1)
  ·exact .inr (.inr h1)
theorem GM {l:List Oper} {x y:Oper} {d:Tmp} (h:(x.dst=some d∧(d∈xB y l∨y.dst=some d))∨(y.dst=some d∧d∈xB x l)):tied l x y=true:=by
 unfold tied
 rcases h with ⟨h1,h2⟩ | ⟨h1,h2⟩
 ·rw [h1]
  simp only [Bool.or_eq_true,List.contains_iff_mem,beq_iff_eq]
  exact .inl h2
 ·rw [h1]
  simp only [Bool.or_eq_true,List.contains_iff_mem]
  exact .inr h2
theorem Ce {len:Nat} {p:Nat→Prop} (h:∃ j,j<len∧p j):∃ j,j<len∧p j∧∀ m,j<m→m<len→¬p m:=by
 obtain ⟨k,hk,hl⟩:=dh (p:=fun k=>∃ j,j<len∧p j∧len-j=k) (by obtain ⟨j,h1,h2⟩:=h;exact ⟨_,j,h1,h2,rfl⟩)
 obtain ⟨j,h1,h2,h3⟩:=hk
 exact ⟨j,h1,h2,fun m hm hml hp=>by have:=hl _ ⟨m,hml,hp,rfl⟩;omega⟩
end
end
section
open Go.RowKit
section
variable {P:Program} {ctx:Ctx P} {ro:Cf} {n:Nat} {B:eK} {w0:World}
def lst (listed:Array Bool) (k:Nat):Bool:=listed.getD k false
structure Phi (n:Nat) (B:eK) (w0:World) (l:List Oper) (rs:List Ent) (s:St) (listed:Array Bool) (a:Act) (w:World):Prop where
 len:listed.size=l.length
 down:∀ k j,k<l.length→j<l.length→lst listed k=true→bit ((iq [] l).getD k 0) j=true→lst listed j=true
 size:a.tmps.size=n
 defers:Marks w0.heap.size B.ds a.defers w
 rep:∃ ρ al,TRep ρ al (Tm (lst listed) rs 0 s.t) a.tmps∧WRep B w0 ρ al (Hp (lst listed) rs 0 s.h) w∧∀ b,al b→b<s.nx∨∃ k,k<l.length∧lst listed k=true∧s.nx+16*k≤b∧b<s.nx+16*k+16
theorem O4 {listed:Array Bool} {i k:Nat} (hi:i<listed.size):lst (listed.setIfInBounds i true) k=(lst listed k||decide (k=i)):=by
 unfold lst
 rw [Array.getD_eq_getD_getElem?,Array.getElem?_setIfInBounds,Array.getD_eq_getD_getElem?]
 by_cases e:i=k
 ·subst e
  rw [if_pos rfl,if_pos hi]
  simp
 ·rw [if_neg e]
  have:¬k=i:=fun h=>e h.symm
  simp [this]
theorem Phi.next {l:List Oper} {ms:Ms} (D:DOk l ms) {rs:List Ent} {s:St} {Q:Exit→Act→World→Prop} {K:Act→World→Prop} (hlen:rs.length=l.length)
  (hent:∀ (k:Nat) (o:Oper),l[k]? = some o→∃ e,rs[k]? = some e∧FV P ctx n ms s.nx s.h l s.t (iq [] l) rs k o e)
  (hh0:∀ b k,hget s.h b=some k→b<s.nx)
  {listed:Array Bool} {a:Act} {w:World} (H:Phi n B w0 l rs s listed a w) {i:Nat} {o:Oper} (ho:l[i]? = some o) (hi:lst listed i=false) (hrdy:∀ e∈o.after.toList,pm e=true→lst listed e.on=true)
  (hK:∀ a' w',Phi n B w0 l rs s (listed.setIfInBounds i true) a' w'→K a' w') :
  if Region.wanted o (yielded l.toArray a.tmps) then o.wpIn (Fw ro) 0 P a w K Q else (∀ f,o.about P w a.eval=some f→(Fw ro).fn f)∧K (a.put o.dst undef) w:=by
 have hil:i<l.length:=(List.getElem?_eq_some_iff.1 ho).1
 have his:i<listed.size:=by rw [H.len];exact hil
 have hbef:∀ k,k<l.length→bit ((iq [] l).getD i 0) k=true→lst listed k=true:=by
  intro k hk hb
  obtain ⟨_,e,he,hbe,h | h⟩:=D.bef i o k ho hk hb
  ·rw [← h];exact hrdy e he hbe
  ·have h1:=D.edge i o ho e he hbe
   exact H.down e.on k (by omega) hk (hrdy e he hbe) h
 have hbeh:∀ k,k<l.length→bit ((iq [] l).getD k 0) i=true→lst listed k=false:=by
  intro k hk hb
  cases hq:lst listed k with
  | false=>rfl
  | true=>have:=H.down k i hk hil hq hb;rw [hi] at this;cases this
 have hdst:∀ (k:Nat) (e:Ent),rs[k]? = some e→∃ x,l[k]? = some x∧e.dst=x.dst:=by
  intro k e he
  have hk:k<l.length:=by rw [← hlen];exact (List.getElem?_eq_some_iff.1 he).1
  obtain ⟨e',h1,h2⟩:=hent k l[k] (List.getElem?_eq_getElem hk)
  rw [he] at h1
  injection h1 with h1
  subst h1
  exact ⟨_,List.getElem?_eq_getElem hk,h2.1⟩
 have hslot:∀ d,d∈xB o l→dk (Tm (fun _=>true) (rs.take i) 0 s.t) d=dk (Tm (lst listed) rs 0 s.t) d:=by
  intro d hd
  rw [FY]
  refine sN rfl fun j e he hde=>?_
  simp only [Nat.zero_add,Bool.true_and]
  obtain ⟨x,hx,hxd⟩:=hdst j e he
  have hj:j<l.length:=(List.getElem?_eq_some_iff.1 hx).1
  by_cases hji:j=i
  ·subst hji;rw [hi];simp
  ·rcases D.tied i j o x ho hx hji (.inl (GM (.inr ⟨hxd▸hde,hd⟩))) with h | h
   ·have:=(D.bef i o j ho hj h).1
    rw [hbef j hj h]
    simpa using this
   ·have:=(D.bef j x i hx hil h).1
    rw [hbeh j hj h]
    simp;omega
 obtain ⟨e,hei,hed,hdok,hcase⟩:=hent i o ho
 obtain ⟨ρ,al,hT,hW,hal⟩:=H.rep
 have hid:∀ b,s.nx+16*i≤b→b<s.nx+16*i+16→¬al b:=by
  intro b h1 h2 hb
  rcases hal b hb with h | ⟨k,hk,hlk,h3,h4⟩
  ·omega
  ·have:k=i:=by omega
   subst this
   rw [hi] at hlk;cases hlk
 have hgat:∀ (g:Nat) (want:Bool),o.guard=some (g,want)→gAt l (Tm (lst listed) rs 0 s.t) g=gAt l (Tm (fun _=>true) (rs.take i) 0 s.t) g:=by
  intro g want hg
  unfold gAt
  obtain ⟨_,hgl⟩:=D.guard i o g want ho hg
  cases hx:l[g]? with
  | none=>rfl
  | some x =>
   simp only
   cases hxd:x.dst with
   | none=>rfl
   | some d =>
    simp only
    exact (hslot d (by unfold xB;simp [hg,hx,hxd])).symm
 have hguard:∀ (g:Nat) (want q:Bool),o.guard=some (g,want)→gAt l (Tm (fun _=>true) (rs.take i) 0 s.t) g=.s (.l (.v (.bool q)))→yielded l.toArray a.tmps g=some q:=fun g want q hg hq=>ur hT H.size ((hgat g want hg).trans hq)
 have hgnone:∀ (g:Nat) (want:Bool),o.guard=some (g,want)→gAt l (Tm (fun _=>true) (rs.take i) 0 s.t) g=.s (.l (.v (.tuple ⟨[]⟩)))→yielded l.toArray a.tmps g=none:=fun g want hg hq=>xi hT ((hgat g want hg).trans hq)
 have fin:∀ v w' ρ' al',Ext ρ ρ' al al'→(∀ b,al' b→alW al (s.nx+16*i) b)→ARep ρ' al' e.r v→WRep B w0 ρ' al' (e.E++Hp (lst listed) rs 0 s.h) w'→KeepsD w w'→(∀ b,inE e.E b=true→b<s.nx+16*(i+1)∧(e.E≠[]→zq o.op=true)∧b∉gc ms.hs i)→K (a.put o.dst v) w':=by
  intro v w' ρ' al' hE hsub hA hw hko hEi
  have hp':∀ k,lst (listed.setIfInBounds i true) k=(lst listed k||decide (k=i)):=fun k=>O4 his
  have hpi:lst (listed.setIfInBounds i true) i=true:=by rw [hp'];simp
  have hpn:∀ k,k≠i→lst (listed.setIfInBounds i true) k=lst listed k:=fun k hk=>by rw [hp'];simp [hk]
  refine hK _ _ ⟨by simp [H.len],?_,jC.trans H.size,(by rw [eA];exact H.defers.keep hko),ρ',al',?_,?_,?_⟩
  ·intro k j hk hj h1 h2
   by_cases hji:j=i
   ·rw [hji];exact hpi
   ·rw [hpn j hji]
    by_cases hki:k=i
    ·subst hki;exact hbef j hj h2
    ·rw [hpn k hki] at h1;exact H.down k j hk hj h1 h2
  ·intro d
   have hput:=(hT.ext hE).putT (d:=o.dst) H.size hdok hA d
   have e1:dk (Tm (lst (listed.setIfInBounds i true)) rs 0 s.t) d=dk (putT (Tm (lst listed) rs 0 s.t) o.dst e.r) d:=by
    by_cases hd:o.dst=some d
    ·rw [hd,putT,dk,if_pos rfl]
     refine FW (hed.trans hd) hei (by rw [Nat.zero_add];exact hpi) fun m y hm hy hyd=>?_
     rw [Nat.zero_add,hpn m (by omega)]
     obtain ⟨x,hx,hxd⟩:=hdst m y hy
     have hml:m<l.length:=(List.getElem?_eq_some_iff.1 hx).1
     rcases D.tied i m o x ho hx (by omega) (.inl (GM (.inl ⟨hd,.inr (hxd▸hyd)⟩))) with h | h
     ·have:=(D.bef i o m ho hml h).1;omega
     ·exact hbeh m hml h
    ·have e2:dk (putT (Tm (lst listed) rs 0 s.t) o.dst e.r) d=dk (Tm (lst listed) rs 0 s.t) d:=by
      cases hq:o.dst with
      | none=>rfl
      | some q=>rw [putT,dk,if_neg (fun hh=>hd (by rw [hq,hh]))]
     rw [e2]
     refine sN rfl fun j y hy hyd=>?_
     rw [Nat.zero_add]
     refine hpn j ?_
     rintro rfl
     rw [hei] at hy
     injection hy with hy
     subst hy
     exact hd (hed▸hyd)
   rw [e1]
   exact hput
  ·refine hw.sub fun b k hk=>?_
   rw [← hk,oG]
   split
   ·rename_i hb
    refine (v8 hb hei (by rw [Nat.zero_add];exact hpi) fun m y hm hy hyb=>?_).symm
    rw [Nat.zero_add,hpn m (by omega)]
    obtain ⟨x,hx,hxd⟩:=hdst m y hy
    have hml:m<l.length:=(List.getElem?_eq_some_iff.1 hx).1
    obtain ⟨y',hy',hok⟩:=hent m x hx
    rw [hy] at hy'
    injection hy' with hy'
    subst hy'
    have hne:e.E≠[]:=by intro h0;rw [h0] at hb;simp [inE] at hb
    have hord:bit ((iq [] l).getD i 0) m=true∨bit ((iq [] l).getD m 0) i=true:=by
     rcases hok.2.2 with ⟨R,_,_,hk1,_,hk2,_⟩ | ⟨_,hk2,_⟩
     ·rw [hk2] at hyb
      obtain ⟨h1,h2,_⟩:=un hk1 hyb
      rcases h2 with h2 | h2 | h2
      ·have:=(hEi b hb).1;omega
      ·exact D.tied i m o x ho hx (by omega) (.inr ⟨h2,(hEi b hb).2.1 hne⟩)
      ·exact D.unord ho (by omega) h2 (hEi b hb).2.2
     ·rw [hk2] at hyb;simp [inE] at hyb
    rcases hord with h | h
    ·have:=(D.bef i o m ho hml h).1;omega
    ·exact hbeh m hml h
   ·rename_i hb
    refine (wt rfl fun j y hy hyb=>?_).symm
    rw [Nat.zero_add]
    refine hpn j ?_
    rintro rfl
    rw [hei] at hy
    injection hy with hy
    subst hy
    exact hb hyb
  ·intro b hb'
   rcases hsub b hb' with hb | hb
   ·rcases hal b hb with h | ⟨k,hk,hlk,h3,h4⟩
    ·exact .inl h
    ·exact .inr ⟨k,hk,by rw [hp',hlk];rfl,h3,h4⟩
   ·exact .inr ⟨i,hil,hpi,hb.1,hb.2⟩
 rcases hcase with ⟨R,hR,hob,hek,hr1,hr2,hg⟩ | ⟨hr1,hr2,g,want,hg,hq⟩
 ·have hw:Region.wanted o (yielded l.toArray a.tmps)=true:=by
   rcases hg with hg | ⟨g,want,hg,hq⟩
   ·simp [Region.wanted,hg]
   ·have:=hguard g want want hg hq
    simp [Region.wanted,hg,this]
  rw [if_pos hw]
  have hops:∀ x∈o.op.operands,evT (Tm (fun _=>true) (rs.take i) 0 s.t) x=evT (Tm (lst listed) rs 0 s.t) x:=by
   intro x hx
   cases x with
   | tmp d =>
    refine hslot d ?_
    unfold xB
    refine List.mem_append.2 (.inl (List.mem_filterMap.2 ⟨.tmp d,by simpa using hx,rfl⟩))
   | const v=>rfl
   | global g=>rfl
   | func f=>rfl
  rw [GV hops] at hR
  have hR':aOp P ctx (s.nx+16*i) o.op (evT (Tm (lst listed) rs 0 s.t)) (Hp (lst listed) rs 0 s.h)=some R:=by
   cases hhp:zq o.op with
   | false=>exact (y6 hhp hR).1
   | true =>
    refine J1 (fun b k hk=>?_) hR
    obtain ⟨hnb,hk⟩:=zr hk
    rw [← hk,Af]
    have hq:∀ (j:Nat) (y:Ent),rs[j]? = some y→inE y.E b=true→lst listed j=true→s.nx+16*j≤b∨(bit ((iq [] l).getD i 0) j&&decide (j<0+i))=true:=by
     intro j y hy hyb hlj
     obtain ⟨x,hx,hxd⟩:=hdst j y hy
     have hjl:j<l.length:=(List.getElem?_eq_some_iff.1 hx).1
     obtain ⟨y',hy',hok⟩:=hent j x hx
     rw [hy] at hy'
     injection hy' with hy'
     subst hy'
     rcases hok.2.2 with ⟨R',_,_,hk1,_,hk2,_⟩ | ⟨_,hk2,_⟩
     ·rw [hk2] at hyb
      obtain ⟨h1,h2,_⟩:=un hk1 hyb
      have hji:j≠i:=by rintro rfl;rw [hi] at hlj;cases hlj
      have hor:(bit ((iq [] l).getD i 0) j=true∨bit ((iq [] l).getD j 0) i=true)→(bit ((iq [] l).getD i 0) j&&decide (j<0+i))=true:=by
       rintro (h | h)
       ·have:=(D.bef i o j ho hjl h).1
        rw [h,Bool.true_and]
        exact decide_eq_true (by omega)
       ·have:=hbeh j hjl h;rw [hlj] at this;cases this
      rcases h2 with h2 | h2 | h2
      ·exact .inl h2
      ·exact .inr (hor (D.tied i j o x ho hx hji (.inr ⟨h2,hhp⟩)))
      ·exact .inr (hor (D.unord ho hji h2 hnb))
     ·rw [hk2] at hyb;simp [inE] at hyb
    have hub:∀ (j:Nat) (y:Ent),rs[j]? = some y→inE y.E b=true→b<s.nx+16*(j+1):=by
     intro j y hy hyb
     obtain ⟨x,hx,hxd⟩:=hdst j y hy
     obtain ⟨y',hy',hok⟩:=hent j x hx
     rw [hy] at hy'
     injection hy' with hy'
     subst hy'
     rcases hok.2.2 with ⟨R',_,_,hk1,_,hk2,_⟩ | ⟨_,hk2,_⟩
     ·rw [hk2] at hyb;exact (un hk1 hyb).1
     ·rw [hk2] at hyb;simp [inE] at hyb
    by_cases hex:∃ j,j<rs.length∧∃ y,rs[j]? = some y∧inE y.E b=true∧(bit ((iq [] l).getD i 0) j&&decide (j<0+i))=true
    ·obtain ⟨j,hj,⟨y,hy,hyb,hqj⟩,hlast⟩:=Ce hex
     have hlj:lst listed j=true:=hbef j (by omega) (by simp only [Bool.and_eq_true] at hqj;exact hqj.1)
     have h1:hget (Hp (lst listed) rs 0 s.h) b=hget y.E b:=by
      refine v8 (p:=lst listed) hyb hy (by rw [Nat.zero_add];exact hlj) fun m z hm hz hzb=>?_
      rw [Nat.zero_add]
      cases hlm:lst listed m with
      | false=>rfl
      | true =>
       rcases hq m z hz hzb hlm with h | h
       ·have:=hub j y hy hyb;omega
       ·exact (hlast m hm (List.getElem?_eq_some_iff.1 hz).1 ⟨z,hz,hzb,h⟩).elim
     have h2:hget (Hp (fun m=>bit ((iq [] l).getD i 0) m&&decide (m<0+i)) rs 0 s.h) b=hget y.E b:=by
      refine v8 (p:=fun m=>bit ((iq [] l).getD i 0) m&&decide (m<0+i)) hyb hy (by simp only [Nat.zero_add] at hqj ⊢;exact hqj) fun m z hm hz hzb=>?_
      simp only [Nat.zero_add]
      cases hqm:(bit ((iq [] l).getD i 0) m&&decide (m<i)) with
      | false=>rfl
      | true=>exact (hlast m hm (List.getElem?_eq_some_iff.1 hz).1 ⟨z,hz,hzb,by rw [Nat.zero_add];exact hqm⟩).elim
     exact h1.trans h2.symm
    ·have hno:∀ (j:Nat) (y:Ent),rs[j]? = some y→inE y.E b=true→(bit ((iq [] l).getD i 0) j&&decide (j<0+i))=false:=by
      intro j y hy hyb
      cases hqm:(bit ((iq [] l).getD i 0) j&&decide (j<0+i)) with
      | false=>rfl
      | true=>exact (hex ⟨j,(List.getElem?_eq_some_iff.1 hy).1,y,hy,hyb,hqm⟩).elim
     have h2:hget (Hp (fun m=>bit ((iq [] l).getD i 0) m&&decide (m<0+i)) rs 0 s.h) b=hget s.h b :=
      sM (p:=fun m=>bit ((iq [] l).getD i 0) m&&decide (m<0+i)) fun j y hy hyb=>by simp only [Nat.zero_add];have:=hno j y hy hyb;simpa only [Nat.zero_add] using this
     have hk0:hget s.h b=some k:=by rw [← hk,Af];exact h2.symm
     have hb0:=hh0 b k hk0
     have h1:hget (Hp (lst listed) rs 0 s.h) b=hget s.h b:=by
      refine sM (p:=lst listed) fun j y hy hyb=>?_
      rw [Nat.zero_add]
      cases hlm:lst listed j with
      | false=>rfl
      | true =>
       rcases hq j y hy hyb hlm with h | h
       ·omega
       ·rw [hno j y hy hyb] at h;cases h
     exact h1.trans h2.symm
  refine NZ hT hW hid hR' hob fun v w' ρ' al' hE hsub hA hw' hko=>fin v w' ρ' al' hE hsub (by rw [hr1];exact hA) (by rw [hr2];exact hw') hko fun b hb=>?_
  rw [hr2] at hb ⊢
  refine ⟨(un hek hb).1,fun hne=>?_,(un hek hb).2.2⟩
  cases hhp:zq o.op with
  | true=>rfl
  | false=>exact (hne (y6 (id':=0) (h':=[]) hhp hR').2).elim
 ·have hnw:¬Region.wanted o (yielded l.toArray a.tmps)=true:=by
   rcases hq with hq | hq
   ·have hy:=hguard g want (!want) hg hq
    simp only [Region.wanted,hg,hy];cases want<;>decide
   ·have hy:=hgnone g want hg hq
    simp [Region.wanted,hg,hy]
  rw [if_neg hnw]
  refine ⟨fun _ _=>trivial,fin undef w ρ _ (oc _) (fun _ hb=>hb) (by rw [hr1];exact pg) (by rw [hr2];exact hW.lift wg) (.refl w) fun b hb=>?_⟩
  rw [hr2] at hb
  simp [inE] at hb
theorem Ow {listed:Array Bool} {i:Nat} (hi:i<listed.size) (hl:lst listed i=false):(listed.setIfInBounds i true).toList.count false+1=listed.toList.count false:=by
 have hg:listed.toList[i]'(by simpa using hi)=false:=by
  unfold lst at hl
  rw [Array.getD_eq_getD_getElem?,Array.getElem?_eq_getElem hi] at hl
  simpa using hl
 have hpos:0<listed.toList.count false:=List.count_pos_iff.2 (hg▸List.getElem_mem _)
 rw [Array.toList_setIfInBounds,List.count_set (by simpa using hi),hg]
 simp
 have:0<Array.count false listed:=by simpa using hpos
 omega
theorem du (hm:P.follows .mixedOrders=true) {id:Nat} {l:List Oper} (ms:Ms) (hok:AG l ms=true) {s:St} {Q:Exit→St→Prop} (h:aDr P ctx n ms s.nx s.h Q l l 0 [] [] s.t):SW P ro n (.region id l.toArray true) s Q:=by
 intro B w0 ρ al a w hpl H
 have D:=Eg hok
 obtain ⟨rs,hlen,-,hent,hq⟩:=BD s.t h rfl rfl rfl
 simp only [Nat.zero_add] at hlen hent hq
 have hh0:∀ b k,hget s.h b=some k→b<s.nx:=fun b k hk=>H.al b (H.w.blk b k hk).here
 refine wpIn_region_any hm ?_
 have key:∀ (fuel:Nat) (listed:Array Bool) (a:Act) (w:World),Phi n B w0 l rs s listed a w→listed.toList.count false≤fuel→wpAnyIn (Fw ro) 0 P .any l.toArray (fun e a' w'=>∃ ρ' al' s',RepS n B w0 ρ' al' s' a' w'∧Q e s') fuel listed a w:=by
  have hdone:∀ (listed:Array Bool) (a:Act) (w:World),Phi n B w0 l rs s listed a w→Region.ready .any l.toArray listed=[]→∃ ρ' al' s',RepS n B w0 ρ' al' s' a w∧Q .normal s':=by
   intro listed a w H hr
   have hall:∀ k,k<l.length→lst listed k=true:=by
    intro k
    induction k using Nat.strongRecOn with
    | _ k ih =>
     intro hk
     cases hlk:lst listed k with
     | true=>rfl
     | false =>
      exfalso
      have hks:k<listed.size:=by rw [H.len];exact hk
      have:k∈Region.ready .any l.toArray listed:=by
       unfold Region.ready
       refine List.mem_filter.2 ⟨List.mem_range.2 (by simpa using hk),?_⟩
       have h1:listed.getD k true=false:=by
        unfold lst at hlk
        rw [Array.getD_eq_getD_getElem?,Array.getElem?_eq_getElem hks] at hlk ⊢
        exact hlk
       simp only [h1,Bool.not_false,Bool.true_and,List.getElem?_toArray,List.getElem?_eq_getElem hk,Option.map_some,Option.getD_some]
       rw [← Array.all_toList,List.all_eq_true]
       intro e he
       cases hb:Region.binds .any e with
       | false=>rfl
       | true =>
        have h2:=D.edge k l[k] (List.getElem?_eq_getElem hk) e he hb
        have h3:=ih e.on h2 (by omega)
        unfold lst at h3
        simpa using h3
      rw [hr] at this
      cases this
   obtain ⟨ρ,al,hT,hW,hal⟩:=H.rep
   have hlt:∀ (j:Nat) (e:Ent),rs[j]? = some e→lst listed (0+j)=true:=fun j e he=>by
    rw [Nat.zero_add];exact hall j (by rw [← hlen];exact (List.getElem?_eq_some_iff.1 he).1)
   refine ⟨ρ,al,_,⟨H.size,H.defers,fun d=>?_,hW.sub fun b k hk=>?_,fun b hb=>?_⟩,hq⟩
   ·have:=hT d
    rw [sN (p':=fun _=>true) rfl fun j e he _=>hlt j e he] at this
    exact this
   ·rw [← hk]
    exact wt rfl fun j e he _=>hlt j e he
   ·rcases hal b hb with h | ⟨k,hk,_,h3,h4⟩
    ·show b<_+_;omega
    ·show b<s.nx+16*l.length;omega
  intro fuel
  induction fuel with
  | zero =>
   intro listed a w H hc
   have hr:Region.ready .any l.toArray listed=[]:=by
    rw [List.eq_nil_iff_forall_not_mem]
    intro i hi
    obtain ⟨hi1,hi2⟩:=List.mem_filter.1 hi
    have hil:i<listed.size:=by rw [H.len];simpa using hi1
    simp only [Bool.and_eq_true,Bool.not_eq_true'] at hi2
    have h0:listed.toList.count false=0:=by omega
    rw [List.count_eq_zero] at h0
    apply h0
    have:listed[i]=false:=by
     have:=hi2.1
     rwa [Array.getD_eq_getD_getElem?,Array.getElem?_eq_getElem hil] at this
    rw [← this]
    simp
   exact ⟨hr,hdone listed a w H hr⟩
  | succ fuel ih =>
   intro listed a w H hc
   refine ⟨hdone listed a w H,fun i hi=>?_⟩
   obtain ⟨hi1,hi2⟩:=List.mem_filter.1 hi
   have hil:i<l.length:=by simpa using hi1
   have his:i<listed.size:=by rw [H.len];exact hil
   simp only [Bool.and_eq_true,Bool.not_eq_true',List.getElem?_toArray,List.getElem?_eq_getElem hil,Option.map_some,Option.getD_some] at hi2
   have hli:lst listed i=false:=by
    have:=hi2.1
    unfold lst
    rw [Array.getD_eq_getD_getElem?,Array.getElem?_eq_getElem his] at this ⊢
    exact this
   have hrdy:∀ e∈l[i].after.toList,pm e=true→lst listed e.on=true:=by
    intro e he hb
    have:=hi2.2
    rw [← Array.all_toList,List.all_eq_true] at this
    have h1:=this e he
    unfold pm at hb
    rw [hb] at h1
    unfold lst
    simpa using h1
   unfold wpOpIn
   simp only [List.getElem?_toArray,List.getElem?_eq_getElem hil]
   have hcs:=Ow his hli
   have:=Phi.next (P:=P) (ctx:=ctx) (ro:=ro) (K:=wpAnyIn (Fw ro) 0 P .any l.toArray (fun e a' w'=>∃ ρ' al' s',RepS n B w0 ρ' al' s' a' w'∧Q e s') fuel (listed.setIfInBounds i true)) (Q:=fun e a' w'=>∃ ρ' al' s',RepS n B w0 ρ' al' s' a' w'∧Q e s') D hlen hent hh0 H (List.getElem?_eq_getElem hil) hli hrdy fun a' w' H'=>ih _ a' w' H' (by omega)
   split
   ·rename_i hw
    rw [if_pos hw] at this
    exact this
   ·rename_i hw
    rw [if_neg hw] at this
    exact this
 have hrep:lst (Array.replicate l.toArray.size false)=fun _=>false:=by
  funext k
  unfold lst
  rw [Array.getD_eq_getD_getElem?,Array.getElem?_replicate]
  split<;>rfl
 refine key _ _ _ _ ⟨by simp,(fun k j _ _ h _=>by rw [hrep] at h;cases h),H.size,H.defers,ρ,al,?_,?_,fun b hb=>.inl (H.al b hb)⟩ (by simp)
 ·intro d
  rw [hrep,Ah fun _ _ _ _=>rfl]
  exact H.t d
 ·refine (H.w.drew).sub fun b k hk=>?_
  rw [hrep,sM fun _ _ _ _=>rfl] at hk
  exact hk
theorem bI (hm:P.follows .mixedOrders=true) {id:Nat} {l:List Oper} (ms:List Nat) (hok:AG l ⟨ms,[],[]⟩=true) {s:St} {Q:Exit→St→Prop} (h:aDr P ctx n ⟨ms,[],[]⟩ s.nx s.h Q l l 0 [] [] s.t):SW P ro n (.region id l.toArray true) s Q:=du hm _ hok h
end
end
end Go.Proofs.YtnhbidpdadkcjaaGreatDoor
