import Derived.Test.YthcoegkfpinlfaaGreatDoorJ08
set_option linter.unusedVariables false
set_option linter.unusedSimpArgs false
set_option maxRecDepth 100000
set_option maxHeartbeats 8000000
namespace Go.Proofs.YthcoegkfpinlfaaGreatDoor
section
open Go.RowKit
structure Gs (ι γ:Type) where
 i:Nat
 x:ι
 ρ:Nat→Loc
 al:Al
 out:Option (Code×St)
 go:γ
def vU (l:List (Tmp×Tmp)) (t:dY):dY:=l.foldl (fun t x=>(x.1,cE t x.2)::t) t
theorem yf {ρ:Nat→Loc} {al:Al}:∀ {l:List (Tmp×Tmp)} {t:dY} {tm:Array Value},(∀ x∈l,x.1<tm.size)→TRep ρ al t tm→TRep ρ al (vU l t) (tN l tm)
 | [],_,_,_,h=>h
 | (d,s)::r,t,tm,hl,h=>by
  unfold vU tN
  rw [List.foldl_cons,List.foldl_cons]
  exact yf (l:=r) (fun x hx=>by rw [Array.size_setIfInBounds];exact hl x (by simp [hx])) (TRep.put h (hl (d,s) (by simp)) (h s))
theorem vV:∀ {l:List (Tmp×Tmp)} {tm:Array Value},(tN l tm).size=tm.size
 | [],_=>rfl
 | (d,s)::r,tm=>by
  unfold tN
  rw [List.foldl_cons]
  exact (vV (l:=r)).trans (by simp)
theorem yC:∀ {l:List (Tmp×Value)} {tm:Array Value},(l.foldl (fun tm x=>tm.setIfInBounds x.1 x.2) tm).size=tm.size
 | [],_=>rfl
 | (d,s)::r,tm=>by
  rw [List.foldl_cons]
  exact (yC (l:=r)).trans (by simp)
theorem tR {W:World} {l:Nat} {o o':Obj} (h:W.heap[l]? = some o):(W.putObj l o').heap[l]? = some o':=by
 have hl:l<W.heap.size:=(Array.getElem?_eq_some_iff.1 h).1
 simp [World.putObj,hl]
theorem jK {W:World} {l:Nat} {o o':Obj} {S:Nat→Prop} (h:W.heap[l]? = some o) (hd:rL o=false) (hS:¬S l):Keeps S W (W.putObj l o') :=
 ⟨rfl,rfl,rfl,by simp [World.putObj],fun k hk=>World.putObj_heap_other (by rintro rfl;exact hS hk),fun k q hk hq=>by
  rw [World.putObj_heap_other]
  ·exact hk
  ·rintro rfl
   rw [h] at hk
   injection hk with hk
   subst hk
   rw [hd] at hq;cases hq⟩
structure Fi (P:Program) (n K:Nat) (assign:Code) (s s':St):Prop where
 run:∀ {l:Nat} {ob busy:Obj} {B:dX} {w0:World} {ρ:Nat→Loc} {al:Al} {a:Act} {W:World},W.heap[l]? = some ob→RepS n B w0 ρ al s a (W.putObj l busy)→B.ds=[]→a.defers=[] →
  (∀ b k,aq s.h b=some k→k.own=true) →
  ∃ (a':Act) (W1:World) (ρ':Nat→Loc) (al':Al),(∀ Q:Exit→Act→World→Prop,Q .normal a' W1→assign.wpIn (Fw ⟨some l,K⟩) 0 P Q a W)∧a'.defers=[]∧RepS n B w0 ρ' al' s' a' (W1.putObj l busy)∧W1.heap[l]? = some ob∧al'.M=al.M ∧
   Keeps (fun k=>k<W.heap.size) (W.putObj l busy) (W1.putObj l busy)∧∀ b k,aq s'.h b=some k→k.own=true∧((∃ k0,aq s.h b=some k0∧ρ' b=ρ b)∨W.heap.size≤(ρ' b).blk)
theorem GR {P:Program} {n K:Nat} {assign:Code} {mv:List (Tmp×Tmp)} (hm:qe assign=some mv) (hms:∀ x∈mv,x.1<n) (s:St):Fi P n K assign s ⟨s.nx,vU mv s.t,s.h⟩ where
 run:=by
  intro l ob busy B w0 ρ al a W hl R hds hd hown
  refine ⟨{ a with tmps:=tN mv a.tmps },W,ρ,al,fun Q hq=>vW hm a W Q hq,hd,⟨vV.trans R.size,R.defers,yf (fun x hx=>by rw [R.size];exact hms x hx) R.t,R.w,R.al⟩,hl,rfl,.refl _ _,fun b k hk=>⟨hown b k hk,.inl ⟨k,hk,rfl⟩⟩⟩
structure LoopC (P:Program) (n K:Nat) (ι:Type) {lo:Nat} {Lo:List (List AV)} {γ:Type} (Ro:Rounds P lo Lo γ) where
 ps:Array Tmp
 assign:Code
 body:Code
 en:ι→List AV→St
 L:List (List AV)
 fn:FuncId
 tm:Array Value
 t:dY
 inv:Nat→ι→Prop
 H:ι→ag
 nx:ι→Nat
 Y:ι→Nat×Bool
 Ex:Code→St→Nat×Bool→Prop
 hen:∀ x As,As∈L→Fi P n K assign ⟨nx x,pO (ps.toList.zip As) t,H x⟩ (en x As)
 hps:∀ p∈ps.toList,p<n
 hL:∀ As∈L,As.length=ps.size
 size:tm.size=n
 tst:∀ ρ al ρ' al',al.M.le al'.M→(∀ j,j<K→al' j∧ρ' j=ρ j)→TRep ρ al t tm→TRep ρ' al' t tm
 hown:∀ i x,inv i x→∀ b k,aq (H x) b=some k→k.own=true
 hex:∀ c s y,Ex c s y→∀ b k,aq s.h b=some k→k.own=true
 hbody:∀ (l i:Nat) (x:ι) (As:List AV),inv i x→L[i]? = some As→SWy P lo Lo ⟨some l,K⟩ n body (en x As) (Y x) fun e s' y'=>match e with
  | .normal=>∃ x',inv (i+1) x'∧Y x'=y'∧Wk ⟨some l,K⟩ ⟨s'.nx,[],s'.h⟩ ⟨nx x',[],H x'⟩
  | .ret=>Ex .ret s' y'
  | .exit id=>Ex (.exit id) s' y'
  | _=>False
section
variable {P:Program} {n K:Nat} {ι:Type} {lo:Nat} {Lo:List (List AV)} {γ:Type} {Ro:Rounds P lo Lo γ}
def LoopC.rcd (C:LoopC P n K ι Ro) (D:Nat) (st:LoopState) (pe:Option Code):Loop:={ state:=st,pending:=pe,fn:=C.fn,tmps:=C.tm,params:=C.ps,assign:=C.assign,body:=C.body,defers:=D }
def LoopC.hp (C:LoopC P n K ι Ro) (g:Gs ι γ):ag:=match g.out with | none=>C.H g.x | some (_,s)=>s.h
def LoopC.nxg (C:LoopC P n K ι Ro) (g:Gs ι γ):Nat:=match g.out with | none=>C.nx g.x | some (_,s)=>s.nx
structure LoopC.Jg (C:LoopC P n K ι Ro) (B1:dX) (w1:World) (g1:γ) (l D:Nat) (g:Gs ι γ) (W:World):Prop where
 hD:W.heap[D]? = some (.deferred (some []))
 hl:W.heap[l]? = some (.loop (C.rcd D (if g.out.isNone then .ready else .done) (g.out.map (·.1))))
 hw:WRep B1 w1 g.ρ g.al (C.hp g) W
 al:∀ b,g.al b→b<C.nxg g
 own:∀ b k,aq (C.hp g) b=some k→k.own=true
 t:TRep g.ρ g.al C.t C.tm
 here:match g.out with | none=>C.inv g.i g.x∧C.Y g.x=(Ro.pos g.go,Ro.live g.go) | some (c,s)=>C.Ex c s (Ro.pos g.go,Ro.live g.go)
 Jo:Ro.J g.go W
 N:Ro.N0≤w1.heap.size
 dep:∀ b k,aq (C.hp g) b=some k→(g.ρ b).cap≠0→¬Ro.dep g.go (g.ρ b).blk
 ownN:∀ b k,aq (C.hp g) b=some k→(g.ρ b).cap≠0→Ro.N0≤(g.ρ b).blk
 mem:∀ b o y,g.al.M b o=some y→¬Ro.mt g.go b
 memN:∀ b o y,g.al.M b o=some y→Ro.M0 b o=some y∨Ro.N0≤b
 S:∀ k,B1.S k→¬Ro.mt g.go k
 ld:¬Ro.dep g.go l
 dd:¬Ro.dep g.go D
 fol:∀ k,Ro.dep g.go k→Ro.dep g1 k∨w1.heap.size≤k∨∃ o y,g.al.M k o=some y
 folm:∀ k,Ro.mt g.go k→Ro.mt g1 k∨w1.heap.size≤k
def LoopC.dep (C:LoopC P n K ι Ro) (B1:dX) (w1:World) (l D:Nat) (g:Gs ι γ) (k:Nat):Prop :=
 mi (C.hp g) g.ρ k∨k=l∨k=D∨B1.S k∨(∃ o y,g.al.M k o=some y)∨(∃ o:Obj,w1.heap[k]? = some o∧rL o=true)∨Ro.dep g.go k
def LoopC.mt (C:LoopC P n K ι Ro) (l:Nat) (g:Gs ι γ) (k:Nat):Prop:=mi (C.hp g) g.ρ k∨k=l∨Ro.mt g.go k
theorem LoopC.steady (C:LoopC P n K ι Ro) {B1:dX} {w1:World} {g1:γ} {l D:Nat} {g:Gs ι γ} {A W:World} (h:C.Jg B1 w1 g1 l D g A)
  (hk:Kept (C.dep B1 w1 l D g) A W):C.Jg B1 w1 g1 l D g W:=by
 refine ⟨(hk.block D (.inr (.inr (.inl rfl)))).trans h.hD,(hk.block l (.inr (.inl rfl))).trans h.hl,h.hw.step (.refl _ _) ⟨hk.os.trans h.hw.below.os,hk.tape.trans h.hw.below.tape,hk.output.trans h.hw.below.output,Nat.le_trans h.hw.below.size hk.size,fun k hS=>(hk.block k (.inr (.inr (.inr (.inl hS))))).trans (h.hw.below.block k hS),fun k o hko ho=>(hk.block k (.inr (.inr (.inr (.inr (.inr (.inl ⟨o,hko,ho⟩))))))).trans (h.hw.below.others k o hko ho)⟩ (fun b k hb hc=>hk.block _ (.inl ⟨b,k,hb,?_,rfl⟩)) (fun b hb=>hk.block _ (.inr (.inr (.inr (.inr (.inl hb)))))),h.al,h.own,h.t,h.here,Ro.steady _ _ _ h.Jo (hk.mono fun k hd=>.inr (.inr (.inr (.inr (.inr (.inr hd)))))),h.N,h.dep,h.ownN,h.mem,h.memN,h.S,h.ld,h.dd,h.fol,h.folm⟩
 rcases hc with hc | hc
 ·have:=(h.hw.blk b k hb).cap
  intro h0
  exact hc (List.eq_nil_of_length_eq_zero (by omega))
 ·exact hc.2
theorem LoopC.fit (C:LoopC P n K ι Ro) {B1:dX} {w1:World} {g1:γ} {l D:Nat} {g:Gs ι γ} {A:World} (h:C.Jg B1 w1 g1 l D g A) :
  ∀ k,C.dep B1 w1 l D g k→k<A.heap.size:=by
 rintro k (⟨b,kk,h1,h2,rfl⟩ | rfl | rfl | hS | ⟨o,y,hy⟩ | ⟨o,ho,_⟩ | hd)
 ·exact h.hw.lt h1 (.inr ⟨h.own b kk h1,h2⟩)
 ·exact (Array.getElem?_eq_some_iff.1 h.hl).1
 ·exact (Array.getElem?_eq_some_iff.1 h.hD).1
 ·exact h.hw.size k hS
 ·exact h.hw.memLt hy
 ·exact Nat.lt_of_lt_of_le (Array.getElem?_eq_some_iff.1 ho).1 h.hw.below.size
 ·exact Ro.fit _ _ h.Jo k hd
end
end
section
open Go.RowKit
variable {P:Program} {n K:Nat} {ι:Type} {lo:Nat} {Lo:List (List AV)} {γ:Type} {Ro:Rounds P lo Lo γ}
theorem AsRep.len {ρ:Nat→Loc} {al:Al} {xs:List AV} {ys:List Value} (h:AsRep ρ al xs ys):ys.length=xs.length:=h.length
theorem LoopC.round (C:LoopC P n K ι Ro) {B1:dX} {w1:World} {g1:γ} {l D:Nat} (hKB:B1.pl.length=K) (hlS:¬B1.S l) {g:Gs ι γ} {W:World} {M:Mem} {As:List AV} {vs:List Value} (h:C.Jg B1 w1 g1 l D g W) (hlive:g.out.isNone=true) (hAs:C.L[g.i]? = some As)
  (hM:xz M W) (hMm:∀ b o y,M b o=some y→¬C.mt l g b∧(B1.M b o=some y∨w1.heap.size≤b)) (hrep:AsRep ρz (alz M) As vs) :
  YieldAt (Fw ⟨none,0⟩) 0 P l vs.toArray W fun e W'=>∃ g':Gs ι γ,C.Jg B1 w1 g1 l D g' W'∧g'.i=g.i+1∧e=.returned (.bool g'.out.isNone)∧Keeps (fun k=>k<W.heap.size∧¬C.mt l g k) W W' ∧
   (∀ k,C.dep B1 w1 l D g' k→C.dep B1 w1 l D g k∨W.heap.size≤k∨∃ o y,M k o=some y)∧(∀ k,C.mt l g' k→C.mt l g k∨W.heap.size≤k):=by
 obtain ⟨gi,gx,gρ,gal,gout,go⟩:=g
 cases gout with
 | some x=>cases hlive
 | none =>
 have hl:W.heap[l]? = some (.loop (C.rcd D .ready none)):=h.hl
 have hw:WRep B1 w1 gρ gal (C.H gx) W:=h.hw
 have hown:∀ b k,aq (C.H gx) b=some k→k.own=true:=h.own
 have hinv:C.inv gi gx:=h.here.1
 have hY:C.Y gx=(Ro.pos go,Ro.live go):=h.here.2
 have hlt:l<W.heap.size:=(Array.getElem?_eq_some_iff.1 hl).1
 have hw1:w1.heap.size≤W.heap.size:=hw.below.size
 have hDl:D≠l:=by rintro rfl;rw [h.hD] at hl;cases hl
 have hol:¬mi (C.H gx) gρ l:=by
  rintro ⟨b,kk,h1,h2,h3⟩
  obtain ⟨cur,fr,h4,_⟩:=((hw.blk b kk h1).room (hown b kk h1)).2.2 h2
  rw [h3,hl] at h4;cases h4
 have hmt:∀ k,C.mt l ⟨gi,gx,gρ,gal,none,go⟩ k↔mi (C.H gx) gρ k∨k=l∨Ro.mt go k:=fun k=>Iff.rfl
 have hjd:Ro.J go W:=h.Jo
 have hodep:∀ k,mi (C.H gx) gρ k→¬Ro.dep go k:=by rintro k ⟨b,kk,h1,h2,rfl⟩;exact h.dep b kk h1 h2
 have hw':WRep B1 w1 gρ ⟨gal.p,gal.M.join M⟩ (C.H gx) W:=by
  refine hw.addM hM (fun b k hk ho hc o=>?_) (fun b o y hy=>(hMm b o y hy).2.imp_right fun hle hS=>?_)
  ·cases e:M (gρ b).blk o with
   | none=>rfl
   | some y=>exact ((hMm _ o y e).1 (.inl ⟨b,k,hk,hc,rfl⟩)).elim
  ·have:=hw.base b hS;omega
 generalize hgal':(⟨gal.p,gal.M.join M⟩:Al)=gal' at hw'
 have hMl:gal.M.le gal'.M:=by rw [← hgal'];exact Mem.join_left
 have hMr:M.le gal'.M:=by rw [← hgal'];exact Mem.join_right hw.mem hM
 have hgok:Gok gal'.M:=hw.gok.mono hMl
 have hMs:∀ {b o y},gal'.M b o=some y→gal.M b o=some y∨M b o=some y:=by
  intro b o y hy;rw [← hgal'] at hy;exact Mem.join_some hy
 have hal':∀ b,gal' b→b<C.nx gx:=by rw [← hgal'];exact h.al
 have E:Ext gρ gρ gal gal':=⟨fun _ _=>rfl,hMl,fun b hb=>by rw [← hgal'];exact hb⟩
 have hAr:AsRep gρ gal' As vs:=AsRep.ext (Ext.ofz hMr) hrep
 refine ⟨C.fn,_,C.assign,C.body,run_yield hl (by rw [List.size_toArray,hrep.length];exact C.hL As (List.mem_of_getElem? hAs)),roundIn_of_wpIn trivial ?_⟩
 show C.assign.wpIn (Fw ⟨some l,K⟩) 0 P _ _ W
 generalize hb:Obj.loop { C.rcd D .ready none with state:=.busy }=busy
 have hbc:rL busy=false:=by rw [← hb];rfl
 have T1:=hw'.rekeep (fun k=>k<W.heap.size∧¬mi (C.H gx) gρ k∧¬Ro.mt go k∧k≠l) [] (fun k hk=>hk.1) hown (fun b k hk hc hS=>hS.2.1 ⟨b,k,hk,hc,rfl⟩)
 have T2:=T1.turn (o':=busy) hl rfl rfl (fun hS=>hS.2.2.2 rfl)
 have hsz:(W.putObj l busy).heap.size=W.heap.size:=by simp [World.putObj]
 have T3:=T2.rekeep (fun k=>k<W.heap.size∧¬mi (C.H gx) gρ k∧¬Ro.mt go k) [] (fun k hk=>by rw [hsz];exact hk.1) hown (fun b k hk hc hS=>hS.2.1 ⟨b,k,hk,hc,rfl⟩)
 have e1:((C.ps.zip vs.toArray).foldl (fun (tm:Array Value) (x:Tmp×Value)=>tm.setIfInBounds x.1 x.2) C.tm)=(C.ps.toList.zip vs).foldl (fun tm x=>tm.setIfInBounds x.1 x.2) C.tm:=I9
 have hz:((C.ps.toList.zip vs).foldl (fun tm x=>tm.setIfInBounds x.1 x.2) C.tm).size=n:=yC.trans C.size
 have R0:RepS n ⟨fun k=>k<W.heap.size∧¬mi (C.H gx) gρ k∧¬Ro.mt go k,gal'.M,B1.pl,[],hgok⟩ (W.putObj l busy) gρ gal' ⟨C.nx gx,pO (C.ps.toList.zip As) C.t,C.H gx⟩ { tmps:=(C.ps.toList.zip vs).foldl (fun tm x=>tm.setIfInBounds x.1 x.2) C.tm,defers:=[] } (W.putObj l busy):=by
  refine ⟨hz,Marks.nil _ _ _,yB (fun x hx=>?_) hAr (h.t.ext E),T3,hal'⟩
  rw [C.size]
  exact C.hps x hx
 obtain ⟨a2,W1,ρ2,al2,ha2,had,R2,hl1,haM,hkW,hblk⟩:=(C.hen gx As (List.mem_of_getElem? hAs)).run (busy:=busy) hl R0 rfl rfl hown
 show C.assign.wpIn (Fw ⟨some l,K⟩) 0 P _ { tmps:=((C.ps.zip vs.toArray).foldl (fun (tm:Array Value) (x:Tmp×Value)=>tm.setIfInBounds x.1 x.2) C.tm),defers:=[] } W
 rw [e1]
 refine ha2 _ ?_
 refine ⟨_,run_beginRound hl1 rfl,?_⟩
 rw [hb]
 have hkl:Keeps (fun k=>Ro.dep go k) W (W1.putObj l busy):=(jK hl rfl h.ld).trans (hkW.mono fun k hk=>Ro.fit go W hjd k hk)
 have Y2:YRep Ro n ⟨fun k=>k<W.heap.size∧¬mi (C.H gx) gρ k∧¬Ro.mt go k,gal'.M,B1.pl,[],hgok⟩ (W.putObj l busy) go ρ2 al2 (C.en gx As) a2 (W1.putObj l busy) go:=by
  refine ⟨R2,fun b k hk=>(hblk b k hk).1,Ro.steady _ _ _ hjd hkl.toKept,by rw [hsz];exact Nat.le_trans h.N hw1,fun b k hk hc hd=>?_,fun b k hk hc=>?_,fun b o y hy=>?_,fun b o y hy=>?_,fun k hk=>hk.2.2,fun rs hrs=>?_,fun k hk=>.inl hk,fun k hk=>.inl hk⟩
  ·rcases (hblk b k hk).2 with ⟨k0,h1,h2⟩ | h1
   ·rw [h2] at hc hd
    exact h.dep b k0 h1 hc hd
   ·have:=Ro.fit go W hjd _ hd
    omega
  ·rcases (hblk b k hk).2 with ⟨k0,h1,h2⟩ | h1
   ·rw [h2] at hc ⊢
    exact h.ownN b k0 h1 hc
   ·exact Nat.le_trans h.N (Nat.le_trans hw1 h1)
  ·rw [haM] at hy
   rcases hMs hy with h1 | h1
   ·exact h.mem b o y h1
   ·exact fun hm=>(hMm b o y h1).1 (.inr (.inr hm))
  ·rw [haM] at hy
   rcases hMs hy with h1 | h1
   ·exact h.memN b o y h1
   ·rcases (hMm b o y h1).2 with h2 | h2
    ·exact h.memN b o y (hw.memOld b o y h2)
    ·exact .inr (Nat.le_trans h.N h2)
  ·intro r hr
   rw [had] at hrs
   have hrs':([]:List Deferred)=rs.map mark++[]:=hrs
   simp at hrs'
   subst hrs'
   cases hr
 have hgoal:C.body.wpIn (Fw ⟨some l,K⟩) 0 P (roundPost P l fun e W'=>∃ g':Gs ι γ,C.Jg B1 w1 g1 l D g' W'∧g'.i=gi+1∧e=.returned (.bool g'.out.isNone)∧Keeps (fun k=>k<W.heap.size∧¬C.mt l ⟨gi,gx,gρ,gal,none,go⟩ k) W W' ∧
   (∀ k,C.dep B1 w1 l D g' k→C.dep B1 w1 l D ⟨gi,gx,gρ,gal,none,go⟩ k∨W.heap.size≤k∨∃ o y,M k o=some y)∧(∀ k,C.mt l g' k→C.mt l ⟨gi,gx,gρ,gal,none,go⟩ k∨W.heap.size≤k))
   a2 (W1.putObj l busy):=by
  refine wpIn_mono (C.hbody l gi gx As hinv hAs γ Ro ⟨fun k=>k<W.heap.size∧¬mi (C.H gx) gρ k∧¬Ro.mt go k,gal'.M,B1.pl,[],hgok⟩ _ go ρ2 al2 _ _ go hKB Y2 (by rw [hY]) (by rw [hY])) ?_
  rintro e a3 W3 ⟨ρ3,al3,s3,go3,R3,q⟩
  have hl3:W3.heap[l]? = some busy:=(R3.r.w.below.block l ⟨hlt,hol,fun hm=>h.ld (Ro.sub go l hm)⟩).trans (tR hl)
  have hD3:W3.heap[D]? = some (.deferred (some [])):=R3.r.w.below.others D _ ((World.putObj_heap_other hDl).trans h.hD) rfl
  have fin:∀ (g':Gs ι γ) (st:LoopState) (a':Act),g'.i=gi+1→st=(if g'.out.isNone then .ready else .done) →
    YRep Ro n ⟨fun k=>k<W.heap.size∧¬mi (C.H gx) gρ k∧¬Ro.mt go k,gal'.M,B1.pl,[],hgok⟩ (W.putObj l busy) go g'.ρ g'.al ⟨C.nxg g',[],C.hp g'⟩ a' W3 g'.go →
    (match g'.out with | none=>C.inv g'.i g'.x∧C.Y g'.x=(Ro.pos g'.go,Ro.live g'.go) | some (c,s)=>C.Ex c s (Ro.pos g'.go,Ro.live g'.go)) →
    C.Jg B1 w1 g1 l D g' (W3.putObj l (.loop (C.rcd D st (g'.out.map (·.1)))))∧Keeps (fun k=>k<W.heap.size∧¬C.mt l ⟨gi,gx,gρ,gal,none,go⟩ k) W (W3.putObj l (.loop (C.rcd D st (g'.out.map (·.1))))) ∧
     (∀ k,C.dep B1 w1 l D g' k→C.dep B1 w1 l D ⟨gi,gx,gρ,gal,none,go⟩ k∨W.heap.size≤k∨∃ o y,M k o=some y)∧(∀ k,C.mt l g' k→C.mt l ⟨gi,gx,gρ,gal,none,go⟩ k∨W.heap.size≤k):=by
   intro g' st a' hi hst R4 hh
   have WR:=R4.r.w
   have ho:∀ b k,aq (C.hp g') b=some k→k.own=true:=R4.own
   have A1:=T2.rekept WR (fun k hk=>⟨hk.1,hk.2.1,hk.2.2.1⟩) ho
   have hbz:busy.isCells=false:=by rw [← hb];rfl
   have A2:=A1.turn (o':=.loop (C.rcd D st (g'.out.map (·.1)))) hl3 hbz hbc (fun hS=>hS.2.2.2 rfl)
   have hBs:∀ k,B1.S k→k<W.heap.size∧¬mi (C.H gx) gρ k∧¬Ro.mt go k∧k≠l:=fun k hk=>⟨hw.size k hk,fun ⟨b,kk,h1,h2,h3⟩=>hw.own b kk h1 (hown b kk h1) h2 (h3▸hk),h.S k hk,by rintro rfl;exact hlS hk⟩
   have A3:=hw'.rekept A2 hBs ho
   have hin:∀ k,¬(k<W.heap.size∧¬mi (C.H gx) gρ k∧¬Ro.mt go k∧k≠l)→(mi (C.H gx) gρ k∨k=l∨Ro.mt go k)∨W.heap.size≤k:=by
    intro k hk
    by_cases h1:W.heap.size≤k
    ·exact .inr h1
    ·by_cases h2:mi (C.H gx) gρ k
     ·exact .inl (.inl h2)
     ·by_cases h3:k=l
      ·exact .inl (.inr (.inl h3))
      ·by_cases h4:Ro.mt go k
       ·exact .inl (.inr (.inr h4))
       ·exact (hk ⟨by omega,h2,h4,h3⟩).elim
   have hob:∀ k,mi (C.hp g') g'.ρ k→(mi (C.H gx) gρ k∨k=l∨Ro.mt go k)∨W.heap.size≤k:=by
    rintro k ⟨b,kk,h1,h2,rfl⟩
    exact hin _ (A2.own b kk h1 (ho b kk h1) h2)
   have hmd:∀ k,(mi (C.H gx) gρ k∨k=l∨Ro.mt go k)→C.dep B1 w1 l D ⟨gi,gx,gρ,gal,none,go⟩ k:=by
    rintro k (h1 | h1 | h1)
    ·exact .inl h1
    ·exact .inr (.inl h1)
    ·exact .inr (.inr (.inr (.inr (.inr (.inr (Ro.sub go k h1))))))
   have nocell:∀ (k:Nat) (q:Obj),W3.heap[k]? = some q→q.isCells=false→∀ o y,g'.al.M k o=some y→False:=by
    intro k q h1 h2 o y hy
    obtain ⟨q',h3,h4⟩:=ig (WR.mem k o y hy)
    rw [h1] at h3
    injection h3 with h3
    subst h3
    rw [h2] at h4;cases h4
   have hdep':∀ k,Ro.dep g'.go k→Ro.dep go k∨W.heap.size≤k∨∃ o y,g'.al.M k o=some y:=fun k hk=>by
    have:=R4.fol k hk
    rw [hsz] at this
    exact this
   have hld':¬Ro.dep g'.go l:=fun hd=>by
    rcases hdep' l hd with h1 | h1 | ⟨o,y,h1⟩
    ·exact h.ld h1
    ·omega
    ·exact nocell l busy hl3 hbz o y h1
   have hdd':¬Ro.dep g'.go D:=fun hd=>by
    rcases hdep' D hd with h1 | h1 | ⟨o,y,h1⟩
    ·exact h.dd h1
    ·have:=(Array.getElem?_eq_some_iff.1 h.hD).1;omega
    ·exact nocell D _ hD3 rfl o y h1
   have hmt':∀ k,Ro.mt g'.go k→Ro.mt go k∨W.heap.size≤k:=fun k hk=>by
    have:=R4.folm k hk
    rw [hsz] at this
    exact this
   have hmem':∀ k o y,g'.al.M k o=some y→C.dep B1 w1 l D ⟨gi,gx,gρ,gal,none,go⟩ k∨W.heap.size≤k∨∃ o y,M k o=some y:=by
    intro k o y hy
    rcases A2.memNew k o y hy with h2 | h2
    ·rcases hMs h2 with h3 | h3
     ·exact .inl (.inr (.inr (.inr (.inr (.inl ⟨o,y,h3⟩)))))
     ·exact .inr (.inr ⟨o,y,h3⟩)
    ·rcases hin k h2 with h3 | h3
     ·exact .inl (hmd k h3)
     ·exact .inr (.inl h3)
   refine ⟨⟨(World.putObj_heap_other hDl).trans hD3,by rw [hst];exact tR hl3,A3,R4.r.al,ho,?_,hh,Ro.steady _ _ _ R4.J (jK (S:=Ro.dep g'.go) hl3 hbc hld').toKept,h.N,R4.dep,R4.ownN,R4.mem,R4.memN,fun k hS hm=>?_,hld',hdd',fun k hk=>?_,fun k hk=>?_⟩,?_,?_,?_⟩
   ·refine C.tst gρ gal g'.ρ g'.al (Mem.le_trans hMl A2.memOld) (fun j hj=>?_) h.t
    have hpj:B1.pl[j]? = some (B1.pl[j]'(by omega)):=List.getElem?_eq_getElem _
    obtain ⟨p1,p2⟩:=A2.pins j _ hpj
    obtain ⟨_,p3⟩:=hw.pins j _ hpj
    exact ⟨p1,p2.trans p3.symm⟩
   ·rcases hmt' k hm with h1 | h1
    ·exact h.S k hS h1
    ·have:=hw.size k hS;omega
   ·rcases hdep' k hk with h1 | h1 | h1
    ·rcases h.fol k h1 with h2 | h2 | ⟨o,y,h2⟩
     ·exact .inl h2
     ·exact .inr (.inl h2)
     ·exact .inr (.inr ⟨o,y,A2.memOld k o y (hMl k o y h2)⟩)
    ·exact .inr (.inl (by omega))
    ·exact .inr (.inr h1)
   ·rcases hmt' k hk with h1 | h1
    ·exact h.folm k h1
    ·exact .inr (by omega)
   ·refine (jK hl rfl fun hS=>hS.2 (.inr (.inl rfl))).trans (((WR.below).mono fun k hk=>⟨hk.1,fun ho=>hk.2 (.inl ho),fun hm=>hk.2 (.inr (.inr hm))⟩).trans (jK hl3 hbc fun hS=>hS.2 (.inr (.inl rfl))))
   ·rintro k (h1 | h1 | h1 | h1 | ⟨o,y,hy⟩ | h1 | h1)
    ·rcases hob k h1 with h2 | h2
     ·exact .inl (hmd k h2)
     ·exact .inr (.inl h2)
    ·exact .inl (.inr (.inl h1))
    ·exact .inl (.inr (.inr (.inl h1)))
    ·exact .inl (.inr (.inr (.inr (.inl h1))))
    ·exact hmem' k o y hy
    ·exact .inl (.inr (.inr (.inr (.inr (.inr (.inl h1))))))
    ·rcases hdep' k h1 with h2 | h2 | ⟨o,y,h2⟩
     ·exact .inl (.inr (.inr (.inr (.inr (.inr (.inr h2))))))
     ·exact .inr (.inl h2)
     ·exact hmem' k o y h2
   ·rintro k (h1 | h1 | h1)
    ·exact hob k h1
    ·exact .inl (.inr (.inl h1))
    ·exact (hmt' k h1).imp_left fun h=>.inr (.inr h)
  have hl3':W3.heap[l]? = some (.loop { C.rcd D .ready none with state:=.busy }):=by rw [hl3,← hb]
  have drop:∀ {ρ4 al4 s4 a4},YRep Ro n ⟨fun k=>k<W.heap.size∧¬mi (C.H gx) gρ k∧¬Ro.mt go k,gal'.M,B1.pl,[],hgok⟩ (W.putObj l busy) go ρ4 al4 s4 a4 W3 go3→YRep Ro n ⟨fun k=>k<W.heap.size∧¬mi (C.H gx) gρ k∧¬Ro.mt go k,gal'.M,B1.pl,[],hgok⟩ (W.putObj l busy) go ρ4 al4 ⟨s4.nx,[],s4.h⟩ a4 W3 go3 :=
   fun H=>⟨⟨H.r.size,H.r.defers,fun k=>trivial,H.r.w,H.r.al⟩,H.own,H.J,H.N,H.dep,H.ownN,H.mem,H.memN,H.S,H.mks,H.fol,H.folm⟩
  cases e with
  | normal =>
   obtain ⟨x',hx',hy',hwk⟩:=q
   obtain ⟨ρ4,al4,R4⟩:=(drop R3).wk hKB hwk (C.hown _ _ hx')
   obtain ⟨f1,f2,f3,f4⟩:=fin ⟨gi+1,x',ρ4,al4,none,go3⟩ .ready _ rfl rfl R4 ⟨hx',hy'⟩
   exact ⟨_,_,run_endRound none hl3',⟨gi+1,x',ρ4,al4,none,go3⟩,f1,rfl,rfl,f2,f3,f4⟩
  | ret =>
   obtain ⟨f1,f2,f3,f4⟩:=fin ⟨gi+1,gx,ρ3,al3,some (.ret,s3),go3⟩ .done _ rfl rfl (drop R3) q
   exact ⟨_,_,run_endRound (some .ret) hl3',⟨gi+1,gx,ρ3,al3,some (.ret,s3),go3⟩,f1,rfl,rfl,f2,f3,f4⟩
  | exit id =>
   obtain ⟨f1,f2,f3,f4⟩:=fin ⟨gi+1,gx,ρ3,al3,some (.exit id,s3),go3⟩ .done _ rfl rfl (drop R3) q
   exact ⟨_,_,run_endRound (some (.exit id)) hl3',⟨gi+1,gx,ρ3,al3,some (.exit id,s3),go3⟩,f1,rfl,rfl,f2,f3,f4⟩
  | panic _=>exact q.elim
  | goto _=>exact q.elim
  | outgrown=>exact q.elim
 exact hgoal
end
section
open Go.RowKit
section
variable {P:Program} {n K:Nat} {ι:Type} {lo:Nat} {Lo:List (List AV)} {γ:Type} {Ro:Rounds P lo Lo γ}
def LoopC.rounds (C:LoopC P n K ι Ro) {B1:dX} {w1:World} {g1:γ} {l D:Nat} (hKB:B1.pl.length=K) (hlS:¬B1.S l):Rounds P l C.L (Gs ι γ) where
 N0:=w1.heap.size
 M0:=B1.M
 J:=C.Jg B1 w1 g1 l D
 dep:=C.dep B1 w1 l D
 mt:=C.mt l
 pos:=fun g=>g.i
 live:=fun g=>g.out.isNone
 fit:=fun g W h=>C.fit h
 steady:=fun g A W h hk=>C.steady h hk
 sub:=fun g k hk=>hk.elim .inl fun h=>h.elim (fun h=>.inr (.inl h)) fun h=>.inr (.inr (.inr (.inr (.inr (.inr (Ro.sub _ k h))))))
 round:=fun g W M As vs h hl hv hM hMm hrep=>C.round hKB hlS h hl hv hM hMm hrep
end
section
variable {P:Program} {n K:Nat} {ι:Type} {lo:Nat} {Lo:List (List AV)}
theorem E8 {gop:Operand} {ps:Array Tmp} {assign body:Code} (en:ι→List AV→St) {L:List (List AV)} {t:dY} (inv:Nat→ι→Prop) (H:ι→ag) (nx:ι→Nat) (Y:ι→Nat×Bool) (Ex:Code→St→Nat×Bool→Prop) {Q:Exit→St→Nat×Bool→Prop} {gf:FuncId} (it:It P gf) {ds:List D} {q:Prop}
  (hd:it.dec ds=some (q,L)) (hq:q) (hg:evT t gop=.s (.l (.d (.fn gf [] ds)))) (hen:∀ x As,As∈L→Fi P n K assign ⟨nx x,pO (ps.toList.zip As) t,H x⟩ (en x As)) (hps:∀ p∈ps.toList,p<n) (hL:∀ As∈L,As.length=ps.size)
  (tpin:∀ ρ al ρ' al' tm,al.M.le al'.M→(∀ j,j<K→al' j∧ρ' j=ρ j)→TRep ρ al t tm→TRep ρ' al' t tm)
  (hown:∀ i x,inv i x→∀ b k,aq (H x) b=some k→k.own=true) (hex:∀ c s y,Ex c s y→∀ b k,aq s.h b=some k→k.own=true)
  (x0:ι) (h0:inv 0 x0)
  (hbody:∀ (l i:Nat) (x:ι) (As:List AV),inv i x→L[i]? = some As→SWy P lo Lo ⟨some l,K⟩ n body (en x As) (Y x) fun e s' y'=>match e with
   | .normal=>∃ x',inv (i+1) x'∧Y x'=y'∧Wk ⟨some l,K⟩ ⟨s'.nx,[],s'.h⟩ ⟨nx x',[],H x'⟩
   | .ret=>Ex .ret s' y'
   | .exit id=>Ex (.exit id) s' y'
   | _=>False)
  (done:∀ x,inv L.length x→Q .normal ⟨nx x,t,H x⟩ (Y x)) (stop:∀ c s' y',Ex c s' y'→SWy P lo Lo ⟨none,K⟩ n c ⟨s'.nx,t,s'.h⟩ y' Q):SWy P lo Lo ⟨none,K⟩ n (.rangeFunc gop ps assign body) ⟨nx x0,t,H x0⟩ (Y x0) Q:=by
 intro γ Ro B w0 g0 ρ al a w g hpl R p1 p2
 refine wpIn_rangeFunc fun fn _=>?_
 let C:LoopC P n K ι Ro:=⟨ps,assign,body,en,L,fn,a.tmps,t,inv,H,nx,Y,Ex,hen,hps,hL,R.r.size,fun ρ al ρ' al'=>tpin ρ al ρ' al' a.tmps,hown,hex,hbody⟩
 have hv:=li R.r.t gop
 rw [hg] at hv
 simp only [ARep,SRep,LRep,DRep] at hv
 obtain ⟨f,caps,hv,hf,hcaps⟩:=hv
 obtain rfl:f=[]:=by
  cases f with
  | nil=>rfl
  | cons _ _=>simp only [DsRep] at hf
 let l:=w.heap.size+1
 let W0:=w.alloc (.deferred (some []))
 let W1:=W0.alloc (.loop (C.rcd w.heap.size .ready none))
 have hl1:W1.heap[l]? = some (.loop (C.rcd w.heap.size .ready none)):=by
  have:=World.alloc_heap_new W0 (.loop (C.rcd w.heap.size .ready none));rwa [World.size_alloc] at this
 have hD1:W1.heap[w.heap.size]? = some (.deferred (some [])):=(Below.heap_alloc _ _ _ (by simp [W0])).trans (World.alloc_heap_new w _)
 have hk1:∀ k,k<w.heap.size→W1.heap[k]? = w.heap[k]?:=fun k hk=>(Below.heap_alloc _ _ _ (by simp [W0];omega)).trans (Below.heap_alloc _ _ _ hk)
 have hsz0:w0.heap.size≤w.heap.size:=R.r.w.below.size
 have hfit:∀ k,Ro.dep g k→k<w.heap.size:=Ro.fit g w R.J
 have hlS:¬B.S l:=fun h=>by have:=R.r.w.size l h;simp only [l] at this;omega
 have HW:WRep ⟨B.S,al.M,B.pl,B.ds,R.r.w.gok⟩ w ρ al (H x0) W1:=by
  refine (R.r.w.rebase).step (.refl _ _) ?_ (fun b k hk hc=>hk1 _ (R.r.w.lt hk hc)) (fun b ⟨o,y,hy⟩=>hk1 _ (R.r.w.memLt hy))
  exact ((Keeps.refl _ _).alloc (fun k hk=>R.r.w.size k hk) _).alloc (fun k hk=>by have:=R.r.w.size k hk;simp;omega) _
 have hKp:Kept (Ro.dep g) w W1:=⟨rfl,rfl,rfl,by simp [W1,W0];omega,fun k hk=>hk1 k (hfit k hk)⟩
 have hJ:C.Jg ⟨B.S,al.M,B.pl,B.ds,R.r.w.gok⟩ w g l w.heap.size ⟨0,x0,ρ,al,none,g⟩ W1 :=
  ⟨hD1,hl1,HW,R.r.al,hown 0 x0 h0,R.r.t,⟨h0,show Y x0=(Ro.pos g,Ro.live g) by rw [p1,p2]⟩,Ro.steady _ _ _ R.J hKp,Nat.le_trans R.N hsz0,R.dep,R.ownN,R.mem,R.memN,R.S,
   fun hd=>by have:=hfit _ hd;simp only [l] at this;omega,fun hd=>by have:=hfit _ hd;omega,fun k hk=>.inl hk,fun k hk=>.inl hk⟩
 refine ⟨l,[mark w.heap.size],W1,{ target:=.fn (.func gf) caps.toArray,args:=#[.func (.yield l) #[] #[]] },W1,gf,(Value.func (.yield l) #[] #[]::caps).toArray,W1,run_enterLoop_outer _ _ _ _ _,?_,fun _ _=>trivial,?_,fun h=>by simp [Fw,Fence.wide] at h,?_⟩
 ·simp only [resolve,hv]
  simp [go_sem]
 ·simp [invoke,go_sem,it.enter]
 ·refine je.2 (Calls.mono (it.sound hd hq al.M W1 caps R.r.w.gok HW.mem hcaps l (Gs ι γ) (C.rounds (B1:=⟨B.S,al.M,B.pl,B.ds,R.r.w.gok⟩) (w1:=w) (g1:=g) (D:=w.heap.size) hpl hlS) ⟨0,x0,ρ,al,none,g⟩ (by show w.heap.size≤W1.heap.size;simp [W1,W0];omega) hJ rfl rfl ?_) ?_)
  ·intro b o y hy
   refine ⟨?_,.inl hy⟩
   rintro (⟨c,kk,h1,h2,h3⟩ | h3 | h3)
   ·have:=HW.memOwn c kk h1 (hown 0 x0 h0 c kk h1) h2 o
    rw [h3,hy] at this;cases this
   ·obtain ⟨qq,g1,g2⟩:=ig (HW.mem b o y hy)
    rw [h3,hl1] at g1
    injection g1 with g1
    subst g1
    cases g2
   ·exact R.mem b o y hy h3
  ·rintro e W' ⟨⟨v,rfl⟩,g',hJ',hlen⟩
   have hJ2:C.Jg ⟨B.S,al.M,B.pl,B.ds,R.r.w.gok⟩ w g l w.heap.size g' W':=hJ'
   have hstate:((if g'.out.isNone then LoopState.ready else LoopState.done):LoopState)≠.busy:=by split<;>simp
   have hlast:=run_endLoop (P:=P) hJ2.hl hstate
   have hDl:w.heap.size≠l:=by simp [l]
   have R4:YRep Ro n B w0 g0 g'.ρ g'.al ⟨C.nxg g',t,C.hp g'⟩ { a with defers:=mark w.heap.size::a.defers } (W'.putObj l (.loop { C.rcd w.heap.size (if g'.out.isNone then .ready else .done) (g'.out.map (·.1)) with state:=.exhausted })) g'.go:=by
    have T:=hJ2.hw.turn (o':=.loop { C.rcd w.heap.size (if g'.out.isNone then .ready else .done) (g'.out.map (·.1)) with state:=.exhausted }) hJ2.hl rfl rfl hlS
    obtain ⟨rs,k1,k2,k3⟩:=R.r.defers
    have kd:∀ r∈rs,(W'.putObj l (.loop { C.rcd w.heap.size (if g'.out.isNone then .ready else .done) (g'.out.map (·.1)) with state:=.exhausted })).heap[r]? = some (.deferred (some [])):=fun r hr=>T.below.others r _ (k3 r hr).2 rfl
    refine ⟨⟨R.r.size,⟨w.heap.size::rs,?_,?_,?_⟩,hJ2.t,R.r.w.unbase T,hJ2.al⟩,hJ2.own,Ro.steady _ _ _ hJ2.Jo (jK (S:=Ro.dep g'.go) hJ2.hl rfl hJ2.ld).toKept,R.N,hJ2.dep,hJ2.ownN,hJ2.mem,hJ2.memN,hJ2.S,?_,fun k hk=>?_,fun k hk=>?_⟩
    ·refine List.nodup_cons.2 ⟨fun hm=>?_,k1⟩
     have:=(Array.getElem?_eq_some_iff.1 (k3 _ hm).2).1
     omega
    ·show mark w.heap.size::a.defers=_
     rw [k2];rfl
    ·intro r hr
     rcases List.mem_cons.1 hr with rfl | hr
     ·exact ⟨R.r.w.below.size,(World.putObj_heap_other hDl).trans hJ2.hD⟩
     ·exact ⟨(k3 r hr).1,kd r hr⟩
    ·intro rs' hrs' r hr hdd
     have hrs2:mark w.heap.size::a.defers=rs'.map mark++B.ds:=hrs'
     obtain rfl:=vQ (rs:=rs') (rs':=w.heap.size::rs) (by rw [← hrs2,k2];rfl)
     rcases List.mem_cons.1 hr with rfl | hr
     ·exact hJ2.dd hdd
     ·rcases hJ2.fol r hdd with h4 | h4 | ⟨o,y,h4⟩
      ·exact R.mks rs k2 r hr h4
      ·have:=(Array.getElem?_eq_some_iff.1 (k3 _ hr).2).1;omega
      ·obtain ⟨q,h5,h6⟩:=ig (T.mem _ _ _ h4)
       rw [kd r hr] at h5
       injection h5 with h5
       subst h5
       cases h6
    ·rcases hJ2.fol k hk with h4 | h4 | h4
     ·rcases R.fol k h4 with h5 | h5 | ⟨o,y,h5⟩
      ·exact .inl h5
      ·exact .inr (.inl h5)
      ·exact .inr (.inr ⟨o,y,T.memOld k o y h5⟩)
     ·exact .inr (.inl (by omega))
     ·exact .inr (.inr h4)
    ·rcases hJ2.folm k hk with h4 | h4
     ·exact R.folm k h4
     ·exact .inr (by omega)
   refine ⟨_,_,hlast,?_⟩
   show match (g'.out.map (·.1)) with | none=>_ | some c=>_
   cases hout:g'.out with
   | none =>
    have hi:g'.i=L.length:=hlen (by show g'.out.isNone=true;rw [hout];rfl)
    have hinv:inv g'.i g'.x∧Y g'.x=(Ro.pos g'.go,Ro.live g'.go):=by have:=hJ2.here;rw [hout] at this;exact this
    have e1:C.nxg g'=nx g'.x:=by unfold LoopC.nxg;rw [hout]
    have e2:C.hp g'=H g'.x:=by unfold LoopC.hp;rw [hout]
    rw [e1,e2] at R4
    rw [hout] at R4
    refine ⟨_,_,_,_,R4,?_⟩
    rw [← hinv.2]
    exact done g'.x (hi▸hinv.1)
   | some cs =>
    obtain ⟨c,s'⟩:=cs
    have hE:Ex c s' (Ro.pos g'.go,Ro.live g'.go):=by have:=hJ2.here;rw [hout] at this;exact this
    have e1:C.nxg g'=s'.nx:=by unfold LoopC.nxg;rw [hout]
    have e2:C.hp g'=s'.h:=by unfold LoopC.hp;rw [hout]
    rw [e1,e2] at R4
    rw [hout] at R4
    exact stop c s' _ hE γ Ro B w0 g0 g'.ρ g'.al _ _ g'.go hpl R4 rfl rfl
theorem De {P:Program} {ctx:Ctx P} {ro:Cf} {n f:Nat} {r:List Itm} {s:St} {Q:Exit→St→Prop} {x:Operand} {ps:Array Tmp} {as' bo:Code}:bD P ctx ro n (f+1) (.c (.rangeFunc x ps as' bo)::r) s Q=SW P ro n (.rangeFunc x ps as' bo) s (mH P ctx ro n f r Q):=by
 simp only [bD]
 congr 1
 funext e s'
 cases e<;>simp only [mH,aEx]
theorem Ot {P:Program} {l:Nat} {L:List (List AV)} {ro:Cf} {n:Nat} {s:St} {y:Nat×Bool} {Q:Exit→St→Nat×Bool→Prop} (h:Q .ret s y):SWy P l L ro n .ret s y Q :=
 oV (ctx:=[]) 1 (by rw [CQ];exact h)
theorem IN {gop:Operand} {ps:Array Tmp} {assign body:Code} (en:ι→List AV→St) {L:List (List AV)} {t:dY} (inv:Nat→ι→Prop) (H:ι→ag) (nx:ι→Nat) (Ex:Code→St→Prop) {Q:Exit→St→Prop} {gf:FuncId} (it:It P gf) {ds:List D} {q:Prop}
  (hd:it.dec ds=some (q,L)) (hq:q) (hg:evT t gop=.s (.l (.d (.fn gf [] ds)))) (hen:∀ x As,As∈L→Fi P n K assign ⟨nx x,pO (ps.toList.zip As) t,H x⟩ (en x As)) (hps:∀ p∈ps.toList,p<n) (hL:∀ As∈L,As.length=ps.size)
  (tpin:∀ ρ al ρ' al' tm,al.M.le al'.M→(∀ j,j<K→al' j∧ρ' j=ρ j)→TRep ρ al t tm→TRep ρ' al' t tm)
  (hown:∀ i x,inv i x→∀ b k,aq (H x) b=some k→k.own=true) (hex:∀ c s,Ex c s→∀ b k,aq s.h b=some k→k.own=true)
  (x0:ι) (h0:inv 0 x0)
  (hbody:∀ (l i:Nat) (x:ι) (As:List AV),inv i x→L[i]? = some As→SW P ⟨some l,K⟩ n body (en x As) fun e s'=>match e with
   | .normal=>(∃ x',inv (i+1) x'∧Wk ⟨some l,K⟩ ⟨s'.nx,[],s'.h⟩ ⟨nx x',[],H x'⟩)∧pK s'.h=true
   | .ret=>Ex .ret s'
   | .exit id=>Ex (.exit id) s'
   | _=>False)
  (done:∀ x,inv L.length x→Q .normal ⟨nx x,t,H x⟩) (stop:∀ c s',Ex c s'→SWy P 0 [] ⟨none,K⟩ n c ⟨s'.nx,t,s'.h⟩ (0,true) fun e s _=>Q e s):SW P ⟨none,K⟩ n (.rangeFunc gop ps assign body) ⟨nx x0,t,H x0⟩ Q:=by
 refine IM (hown 0 x0 h0) (E8 en inv H nx (fun _=>(0,true)) (fun c s y=>Ex c s∧y=(0,true)) it hd hq hg hen hps hL tpin hown (fun c s y h=>hex c s h.1) x0 h0 (fun l i x As hi hA=>?_) done (fun c s y h=>h.2▸stop c s h.1))
 refine zQ0 ((hbody l i x As hi hA).mono fun e s' he=>?_)
 cases e with
 | normal=>exact ⟨pL he.2,let ⟨x',h1,h2⟩:=he.1;⟨x',h1,rfl,h2⟩⟩
 | ret=>exact ⟨hex _ _ he,he,rfl⟩
 | exit id=>exact ⟨hex _ _ he,he,rfl⟩
 | panic _=>exact he.elim
 | goto _=>exact he.elim
 | outgrown=>exact he.elim
theorem L0 {gop:Operand} {ps:Array Tmp} {assign body:Code} {mv:List (Tmp×Tmp)} {L:List (List AV)} {t:dY} (inv:Nat→ι→Prop) (H:ι→ag) (nx:ι→Nat) (Ex:Code→St→Prop) {Q:Exit→St→Prop} {gf:FuncId} (it:It P gf) {ds:List D} {q:Prop}
  (hd:it.dec ds=some (q,L)) (hq:q) (hg:evT t gop=.s (.l (.d (.fn gf [] ds)))) (hmv:qe assign=some mv) (hps:∀ p∈ps.toList,p<n) (hms:∀ x∈mv,x.1<n) (hL:∀ As∈L,As.length=ps.size)
  (tpin:∀ ρ al ρ' al' tm,al.M.le al'.M→(∀ j,j<K→al' j∧ρ' j=ρ j)→TRep ρ al t tm→TRep ρ' al' t tm)
  (hown:∀ i x,inv i x→∀ b k,aq (H x) b=some k→k.own=true) (hex:∀ c s,Ex c s→∀ b k,aq s.h b=some k→k.own=true)
  (x0:ι) (h0:inv 0 x0)
  (hbody:∀ (l i:Nat) (x:ι) (As:List AV),inv i x→L[i]? = some As→SW P ⟨some l,K⟩ n body ⟨nx x,vU mv (pO (ps.toList.zip As) t),H x⟩ fun e s'=>match e with
   | .normal=>(∃ x',inv (i+1) x'∧Wk ⟨some l,K⟩ ⟨s'.nx,[],s'.h⟩ ⟨nx x',[],H x'⟩)∧pK s'.h=true
   | .ret=>Ex .ret s'
   | .exit id=>Ex (.exit id) s'
   | _=>False)
  (done:∀ x,inv L.length x→Q .normal ⟨nx x,t,H x⟩) (stop:∀ c s',Ex c s'→SWy P 0 [] ⟨none,K⟩ n c ⟨s'.nx,t,s'.h⟩ (0,true) fun e s _=>Q e s):SW P ⟨none,K⟩ n (.rangeFunc gop ps assign body) ⟨nx x0,t,H x0⟩ Q :=
 IN (fun x As=>⟨nx x,vU mv (pO (ps.toList.zip As) t),H x⟩) inv H nx Ex it hd hq hg (fun x As _=>GR hmv hms _) hps hL tpin hown hex x0 h0 hbody done stop
end
end
section
open Go.RowKit
structure ME (rs:List Nat) (w w':World):Prop where
 os:w'.os=w.os
 tape:w'.tape=w.tape
 output:w'.output=w.output
 size:w'.heap.size=w.heap.size
 same:∀ k:Nat,k∉rs→w'.heap[k]? = w.heap[k]?
theorem qy {P:Program} {F:Fence} {n:Nat} {fn:Func} {tm:Array Value} {R:Ending→World→Prop} {u:FrameMode} (hu:u≠.run) {d0:List Deferred}:∀ (rs:List Nat) (w:World),rs.Nodup→(∀ r∈rs,w.heap[r]? = some (.deferred (some [])))→(∀ w',ME rs w w'→LeavesInM F n P fn tm R d0 u w')→LeavesInM F n P fn tm R (rs.map mark++d0) u w
 | [],w,_,_,h=>h w ⟨rfl,rfl,rfl,rfl,fun _ _=>rfl⟩
 | r::rs,w,hd,hr,h=>by
  have h0:=hr r (by simp)
  rw [List.nodup_cons] at hd
  refine ⟨hu,.inl ⟨r,_,rfl,run_takeDeferred h0,qy hu rs _ hd.2 (fun q hq=>?_) fun w' hw'=>h w' ⟨hw'.os,hw'.tape,hw'.output,hw'.size.trans (by simp [World.putObj]),fun k hk=>?_⟩⟩⟩
  ·rw [World.putObj_heap_other (by rintro rfl;exact hd.1 hq)]
   exact hr q (by simp [hq])
  ·simp only [List.mem_cons,not_or] at hk
   rw [hw'.same k hk.2]
   exact World.putObj_heap_other hk.1
section
variable {P:Program}
def itQ (L:List (List AV)):Exit→St→Nat×Bool→Prop
 | .normal,_,y=>y.2=true→y.1=L.length
 | .ret,_,y=>y.2=true→y.1=L.length
 | _,_,_=>False
theorem DR {L:List (List AV)} {s:St} {p:Nat} {b:Bool}:itQ L .normal s (p,b)=(b=true→p=L.length):=rfl
theorem Nx {L:List (List AV)} {s:St} {p:Nat} {b:Bool}:itQ L .ret s (p,b)=(b=true→p=L.length):=rfl
theorem AH {ρ:Nat→Loc} {al:Al} {ds:List D} {caps:List Value} (h:DsRep al.M ds caps):AsRep ρ al ((dj ds).map fun x=>.s (.l x)) caps:=pZ (DsRep.ls rfl h)
def mkIt (f:FuncId) (fn:Func) (c:Code) (hf:P.funcs[f]? = some fn) (hb:fn.body=some c) (hr:fn.results = #[]) (hen:∀ (args:Array Value) (w:World),(callFunc f args).run P w=.ok (.enter f args) w) (dec:List D→Option (Prop×List (List AV)))
  (hbody:∀ {ds q L},dec ds=some (q,L)→q→∀ l,ds.length+1≤fn.ntmps∧SWy P l L ⟨none,0⟩ fn.ntmps c ⟨0,aw 0 (.s (.l (.v (.func (.yield l) #[] #[])))::(dj ds).map fun x=>.s (.l x)),[]⟩ (0,true) (itQ L)):It P f where
 enter:=hen
 dec:=dec
 sound:=by
  intro ds q L hd hq M W caps hG hM hcaps l γ R g hN hJ hp0 hl0 hMm
  obtain ⟨hlen,hsw⟩:=hbody hd hq l
  have hcl:caps.length=ds.length:=by
   have:=(AH (ρ:=ρz) (al:=alz M) hcaps).length
   rw [this]
   have h2:=(DsRep.ls (ρ:=ρz) (al:=alz M) rfl hcaps).length
   simp only [List.length_map]
   rw [← h2]
   have h3:∀ {ds:List D} {cs:List Value},DsRep M ds cs→cs.length=ds.length:=by
    intro ds
    induction ds with
    | nil=>intro cs h;cases cs with
     | nil=>rfl
     | cons _ _=>simp only [DsRep] at h
    | cons d ds ih=>intro cs h;cases cs with
     | nil=>simp only [DsRep] at h
     | cons c cs=>simp only [DsRep] at h;simp [ih h.2.2]
   exact h3 hcaps
  have hT0:TRep ρz (alz M) (aw 0 (.s (.l (.v (.func (.yield l) #[] #[])))::(dj ds).map fun x=>.s (.l x))) ((Value.func (.yield l) #[] #[]::caps).toArray++Array.replicate (fn.ntmps-(Value.func (.yield l) #[] #[]::caps).toArray.size) undef) :=
   jG (show AsRep ρz (alz M) (.s (.l (.v (.func (.yield l) #[] #[])))::(dj ds).map fun x=>.s (.l x)) (Value.func (.yield l) #[] #[]::caps) from ⟨rfl,AH hcaps⟩) _
  have H0:YRep R fn.ntmps ⟨fun _=>False,M,[],[],hG⟩ W g ρz (alz M) ⟨0,aw 0 (.s (.l (.v (.func (.yield l) #[] #[])))::(dj ds).map fun x=>.s (.l x)),[]⟩ { tmps:=(Value.func (.yield l) #[] #[]::caps).toArray++Array.replicate (fn.ntmps-(Value.func (.yield l) #[] #[]::caps).toArray.size) undef,defers:=[] } W g:=by
   refine ⟨⟨?_,Marks.nil _ _ _,hT0,⟨fun _ h=>h.elim,.refl _ _,fun b k h=>(by cases h),fun b k h=>(by cases h),fun b k h=>(by cases h),fun b c k l h=>(by cases h),hM,fun b k h=>(by cases h),fun b o y hy=>.inl hy,Mem.le_refl _,fun j l h=>(by cases h)⟩,fun b h=>h.elim⟩,fun b k h=>(by cases h),hJ,hN,fun b k h=>(by cases h),fun b k h=>(by cases h),fun b o y hy=>(hMm b o y hy).1,fun b o y hy=>(hMm b o y hy).2,fun k h=>h.elim,fun rs hrs r hr=>?_,fun k hk=>.inl hk,fun k hk=>.inl hk⟩
   ·simp only [Array.size_append,Array.size_replicate,List.size_toArray,List.length_cons]
    omega
   ·have hrs':([]:List Deferred)=rs.map mark++[]:=hrs
    simp at hrs'
    subst hrs'
    cases hr
  refine (je (ro:=⟨none,0⟩) (n:=0)).1 (callsIn_of_wp_marks hf hb trivial (wpIn_mono (hsw γ R ⟨fun _=>False,M,[],[],hG⟩ W g ρz (alz M) _ W g rfl H0 hp0 hl0) ?_) rfl)
  rintro e a' w' ⟨ρ',al',s',g',H',hq'⟩
  obtain ⟨rs,h1,h2,h3⟩:=H'.r.defers
  have ret:(R.live g'=true→R.pos g'=L.length)→LeavesInM (Fw ⟨none,0⟩) 0 P fn a'.tmps (fun e W'=>(∃ v,e=.returned v)∧∃ g',R.J g' W'∧(R.live g'=true→R.pos g'=L.length)) a'.defers .returning w':=by
   intro hp
   rw [h2]
   refine qy (by simp) rs w' h1 (fun r hr=>(h3 r hr).2) fun w2 hU=>?_
   have hres:(results fn a'.tmps).run P w2=.ok (.tuple #[]) w2:=by
    unfold results
    rw [hr]
    simp [Array.mapM_eq_mapM_toList]
   refine ⟨_,hres,⟨_,rfl⟩,g',R.steady _ _ _ H'.J ⟨hU.os,hU.tape,hU.output,by rw [hU.size];exact Nat.le_refl _,fun k hk=>hU.same k fun hm=>H'.mks rs h2 k hm hk⟩,hp⟩
  cases e with
  | normal=>exact ret hq'
  | ret=>exact ret hq'
  | panic ch=>exact hq'.elim
  | exit _=>exact hq'.elim
  | goto _=>exact hq'.elim
  | outgrown=>exact hq'.elim
end
end
end Go.Proofs.YthcoegkfpinlfaaGreatDoor
