import Derived.Test.YtnhbidpdadkcjaaGreatDoorG01
import Derived.Deep.MidRow
import Derived.Deep.AppendLies
import Derived.RangeFuncCalls
import Derived.RangeFuncLeaves
import Derived.RangeFuncNested
import Derived.TacticsIn
import Derived.Great.BuildSlice
import Derived.Laws.Entries
open Go.RowKit
set_option linter.unusedVariables false
set_option linter.unusedSimpArgs false
set_option maxRecDepth 100000
set_option maxHeartbeats 8000000
open List (map_cons getElem?_append getElem?_take mem_of_getElem? getElem?_eq_getElem getElem?_map length_append)
open Option (map_some)
open Nat (succ_mul add_mul)
namespace Go.Proofs.YtnhbidpdadkcjaaGreatDoor
inductive D where
 |v (x:Value)
 |sd (sz:Nat) (els:List (List D))
 |pd (xs:List D)
 |fn (g:FuncId) (first cap:List D)
 |ifc (t:TypeId) (x:D)
abbrev Mem:=Nat→Nat→Option Value
mutual
def DRep (M:Mem):D→Value→Prop
 |.v x,y=>y=x
 |.sd sz els,y=>∃A cap,y=.slice A els.length cap∧els.length≤cap∧(els≠[]→∃blk off,A=some ⟨blk,off,none⟩∧DssAt M blk off sz els)
 |.pd xs,y=>∃blk off,y=.pointer (some ⟨blk,off,none⟩)∧DsAt M blk off xs
 |.fn g first cap,y=>∃f c:List Value,y=.func (.func g) f.toArray c.toArray∧DsRep M first f∧DsRep M cap c
 |.ifc t x,y=>∃v,y=.iface t v∧DRep M x v
def DsRep (M:Mem):List D→List Value→Prop
 |[],[]=>True
 |x::xs,y::ys=>y.oneCell'=true∧DRep M x y∧DsRep M xs ys
 |_,_=>False
def DsAt (M:Mem)(blk:Nat)(off:Nat):List D→Prop
 |[]=>True
 |x::xs=>(∃y,M blk off=some y∧y.oneCell'=true∧DRep M x y)∧DsAt M blk (off+1) xs
def DssAt (M:Mem)(blk off sz:Nat):List (List D)→Prop
 |[]=>True
 |e::r=>e.length=sz∧DsAt M blk off e∧DssAt M blk (off+sz) sz r
end
def Mem.le (M M':Mem):Prop:=∀b o y,M b o=some y→M' b o=some y
theorem Mem.le_refl (M:Mem):M.le M:=fun _ _ _ h=>h
theorem Mem.le_trans {M M' M'':Mem}(h:M.le M')(k:M'.le M''):M.le M'':=fun b o y e=>k b o y (h b o y e)
mutual
theorem DRep.mono {M M':Mem}(h:M.le M'):∀{x:D} {y:Value},DRep M x y→DRep M' x y
 |.v x,y,hr=>by simpa only[DRep] using hr
 |.sd sz els,y,hr=>by
  simp only[DRep]at hr ⊢;obtain⟨A,cap,h1,h2,h3⟩:=hr;exact⟨A,cap,h1,h2,fun hn=>let ⟨b,o,g1,g2⟩:=h3 hn;⟨b,o,g1,DssAt.mono h g2⟩⟩
 |.pd xs,y,hr=>by
  simp only[DRep]at hr ⊢;obtain⟨b,o,h1,h2⟩:=hr;exact⟨b,o,h1,DsAt.mono h h2⟩
 |.fn g f c,y,hr=>by
  simp only[DRep]at hr ⊢;obtain⟨a,b,h1,h2,h3⟩:=hr;exact⟨a,b,h1,DsRep.mono h h2,DsRep.mono h h3⟩
 |.ifc t x,y,hr=>by
  simp only[DRep]at hr ⊢;obtain⟨v,h1,h2⟩:=hr;exact⟨v,h1,DRep.mono h h2⟩
theorem DsRep.mono {M M':Mem}(h:M.le M'):∀{x:List D} {y:List Value},DsRep M x y→DsRep M' x y
 |[],[],_=>by simp only[DsRep]
 |x::xs,y::ys,hr=>by
  simp only[DsRep]at hr ⊢;exact⟨hr.1,DRep.mono h hr.2.1,DsRep.mono h hr.2.2⟩
 |[],_::_,hr=>by simp only[DsRep]at hr
 |_::_,[],hr=>by simp only[DsRep]at hr
theorem DsAt.mono {M M':Mem}(h:M.le M'){blk:Nat}:∀{off:Nat} {x:List D},DsAt M blk off x→DsAt M' blk off x
 |_,[],_=>by simp only[DsAt]
 |off,x::xs,hr=>by
  simp only[DsAt]at hr ⊢;obtain⟨⟨y,h1,h2,h3⟩,h4⟩:=hr;exact⟨⟨y,h _ _ _ h1,h2,DRep.mono h h3⟩,DsAt.mono h h4⟩
theorem DssAt.mono {M M':Mem}(h:M.le M'){blk sz:Nat}:∀{off:Nat} {x:List (List D)},DssAt M blk off sz x→DssAt M' blk off sz x
 |_,[],_=>by simp only[DssAt]
 |off,x::xs,hr=>by
  simp only[DssAt]at hr ⊢;exact⟨hr.1,DsAt.mono h hr.2.1,DssAt.mono h hr.2.2⟩
end
structure Al where
 p:Nat→Prop
 M:Mem
instance:CoeFun Al (fun _=>Nat→Prop):=⟨Al.p⟩
structure Loc where
 blk:Nat
 off:Nat
 sz:Nat
 cap:Nat
 own:Bool
structure cX where
 S:Nat→Prop
 M:Mem
 pl:List Loc
 ds:List Deferred
 gok:Gok M
def rr:Obj→Bool
 |.deferred _=>true
 |_=>false
theorem tL {o:Obj}(h:rr o=true):o.isCells=false:=by
 cases o<;>first | rfl | cases h
structure KeepsD (w w':World):Prop where
 size:w.heap.size≤w'.heap.size
 same:∀(k:Nat) (o:Obj),w.heap[k]? = some o→rr o=true→w'.heap[k]? = some o
theorem KeepsD.refl (w:World):KeepsD w w:=⟨Nat.le_refl _,fun _ _ h _=>h⟩
structure Keeps (S:Nat→Prop)(w w':World):Prop where
 os:w'.os=w.os
 tape:w'.tape=w.tape
 output:w'.output=w.output
 size:w.heap.size≤w'.heap.size
 block:∀k,S k→w'.heap[k]? = w.heap[k]?
 others:∀(k:Nat) (o:Obj),w.heap[k]? = some o→rr o=true→w'.heap[k]? = some o
theorem Keeps.refl (S:Nat→Prop)(w:World):Keeps S w w:=⟨rfl,rfl,rfl,Nat.le_refl _,fun _ _=>rfl,fun _ _ h _=>h⟩
theorem Keeps.trans {S:Nat→Prop}{a b c:World}(h:Keeps S a b)(k:Keeps S b c):Keeps S a c :=
 ⟨k.os.trans h.os,k.tape.trans h.tape,k.output.trans h.output,Nat.le_trans h.size k.size,fun i hi=>(k.block i hi).trans (h.block i hi),fun i o hi ho=>k.others i o (h.others i o hi ho) ho⟩
theorem Keeps.mono {S S':Nat→Prop}{w w':World}(h:Keeps S w w')(hS:∀k,S' k→S k):Keeps S' w w':=⟨h.os,h.tape,h.output,h.size,fun k hk=>h.block k (hS k hk),h.others⟩
theorem Keeps.drew {S:Nat→Prop}{a w:World}(h:Keeps S a w):Keeps S a w.drew:=⟨h.os,h.tape,h.output,h.size,h.block,h.others⟩
theorem Keeps.alloc {S:Nat→Prop}{a w:World}(h:Keeps S a w)(hS:∀k,S k→k<w.heap.size)(o:Obj):Keeps S a (w.alloc o) :=
 h.trans ⟨rfl,rfl,rfl,by simp,fun k hk=>Below.heap_alloc _ _ _ (hS k hk),fun k o' h ho=>(KeepsOthers.alloc w o).same k o' h (tL ho)⟩
theorem Keeps.setCell {S:Nat→Prop}{a w:World}(h:Keeps S a w){p:Addr}(hp:¬S p.block)(u:Value):Keeps S a (w.setCell p u) :=
 h.trans ⟨rfl,rfl,rfl,by simp[World.setCell],fun k hk=>Below.heap_setCell _ _ _ _ (fun e=>hp (e▸hk)),fun k o' h ho=>(KeepsOthers.setCell w p u).same k o' h (tL ho)⟩
theorem Keeps.below {w w':World}{B:Nat}(h:Keeps (fun k=>k<B) w w'):Below B w w':=⟨h.os,h.tape,h.output,h.size,h.block⟩
theorem Keeps.kept {S:Nat→Prop}{w w':World}(h:Keeps S w w'):KeepsD w w':=⟨h.size,h.others⟩
inductive LV where
 |v (x:Value)
 |d (x:D)
 |sl (b i n:Nat)
 |p (b i j:Nat)
 |bf (g:FuncId) (bs cs:List Nat)
 |any
inductive SV where
 |l (x:LV)
 |agg (xs:List LV)
inductive AV where
 |s (x:SV)
 |tup (xs:List SV)
 |fn (g:FuncId) (first cap:List LV)
structure Blk where
 own:Bool
 T:TypeId
 sz:Nat
 els:List (List LV)
abbrev ag:=List (Nat×Option Blk)
def ac:ag→Nat→Option Blk
 |[],_=>none
 |(k,x)::r,b=>if k=b then x else ac r b
abbrev cK:=List (Nat×AV)
def bI:cK→Nat→AV
 |[],_=>.s (.l .any)
 |(k,x)::r,b=>if k=b then x else bI r b
section
variable (ρ:Nat→Loc)(al:Al)
def pAt (b:Nat):Value:=.pointer (some ⟨(ρ b).blk,(ρ b).off,none⟩)
def LRep:LV→Value→Prop
 |.v x,y=>y=x
 |.d x,y=>DRep al.M x y
 |.sl b i n,y=>al b∧∃A,y=.slice A n ((ρ b).cap-i)∧i+n≤(ρ b).cap∧(i<(ρ b).cap→A=some ⟨(ρ b).blk,(ρ b).off+i*(ρ b).sz,none⟩)
 |.p b i j,y=>al b∧y=.pointer (some ⟨(ρ b).blk,(ρ b).off+i*(ρ b).sz+j,none⟩)
 |.bf g bs cs,y=>(∀b∈bs,al b)∧(∀b∈cs,al b)∧y=.func (.func g) (bs.map (pAt ρ)).toArray (cs.map (pAt ρ)).toArray
 |.any,_=>True
def LsRep:List LV→List Value→Prop
 |[],[]=>True
 |x::xs,y::ys=>y.oneCell'=true∧LRep ρ al x y∧LsRep xs ys
 |_,_=>False
def SRep:SV→Value→Prop
 |.l x,y=>LRep ρ al x y
 |.agg xs,y=>∃cs:List Value,y=.agg cs.toArray∧LsRep ρ al xs cs
def SsRep:List SV→List Value→Prop
 |[],[]=>True
 |x::xs,y::ys=>SRep ρ al x y∧SsRep xs ys
 |_,_=>False
def ARep:AV→Value→Prop
 |.s x,y=>SRep ρ al x y
 |.tup xs,y=>∃cs:List Value,y=.tuple cs.toArray∧SsRep ρ al xs cs
 |.fn g first cap,y=>∃f c:List Value,y=.func (.func g) f.toArray c.toArray∧LsRep ρ al first f∧LsRep ρ al cap c
def AsRep:List AV→List Value→Prop
 |[],[]=>True
 |x::xs,y::ys=>ARep ρ al x y∧AsRep xs ys
 |_,_=>False
def TRep (t:cK)(tm:Array Value):Prop:=∀k,ARep ρ al (bI t k) (tm.getD k undef)
end
def cellAt (els:List (List LV))(i j:Nat):Option LV:=(els[i]?).bind (·[j]?)
structure BRep (ρ:Nat→Loc)(al:Al)(w:World)(b:Nat)(k:Blk):Prop where
 here:al b
 own:(ρ b).own=k.own
 sz:(ρ b).sz=k.sz
 len:∀e∈k.els,e.length=k.sz
 cap:k.els.length≤(ρ b).cap
 cells:∀i j x,cellAt k.els i j=some x→∃y,w.cell? ⟨(ρ b).blk,(ρ b).off+i*(ρ b).sz+j,none⟩=some y∧y.oneCell'=true∧LRep ρ al x y
 room:k.own=true→(ρ b).off=0∧(ρ b).cap≤maxLen∧((ρ b).cap≠0→∃cur fr,w.heap[(ρ b).blk]? = some (.cells cur k.T fr)∧cur.size=(ρ b).cap*(ρ b).sz∧(fr.1=fr.2∨cur.size≤fr.1))
structure WRep (B:cX)(w0:World)(ρ:Nat→Loc)(al:Al)(h:ag)(w:World):Prop where
 base:∀k,B.S k→k<w0.heap.size
 below:Keeps B.S w0 w
 blk:∀b k,ac h b=some k→BRep ρ al w b k
 own:∀b k,ac h b=some k→k.own=true→(ρ b).cap≠0→¬B.S (ρ b).blk
 old:∀b k,ac h b=some k→k.own=false→k.els≠[]→B.S (ρ b).blk
 apart:∀b c k l,ac h b=some k→ac h c=some l→k.own=true→l.own=true→(ρ b).cap≠0→(ρ c).cap≠0→b≠c→(ρ b).blk≠(ρ c).blk
 mem:∀b o y,al.M b o=some y→w.cell? ⟨b,o,none⟩=some y
 memOwn:∀b k,ac h b=some k→k.own=true→(ρ b).cap≠0→∀o,al.M (ρ b).blk o=none
 memNew:∀b o y,al.M b o=some y→B.M b o=some y∨¬B.S b
 memOld:B.M.le al.M
 pins:∀(j:Nat) (l:Loc),B.pl[j]? = some l→al j∧ρ j=l
theorem WRep.size {B:cX}{w0:World}{ρ:Nat→Loc}{al:Al}{h:ag}{w:World}(H:WRep B w0 ρ al h w):∀k,B.S k→k<w.heap.size:=fun k hk=>by
 have:=H.below.size;have:=H.base k hk;omega
theorem WRep.memLt {B:cX}{w0:World}{ρ:Nat→Loc}{al:Al}{h:ag}{w:World}(H:WRep B w0 ρ al h w){b o:Nat}{y:Value}(hb:al.M b o=some y):b<w.heap.size:=by
 have:=H.mem b o y hb;unfold World.cell? at this;rcases Nat.lt_or_ge b w.heap.size with h1 | h1
 ·exact h1
 ·simp[Array.getElem?_eq_none h1]at this
structure Ext (ρ ρ':Nat→Loc)(al al':Al):Prop where
 eq:∀b,al b→ρ' b=ρ b
 M:al.M.le al'.M
 al:∀b,al b→al' b
theorem Ext.refl (ρ:Nat→Loc)(al:Al):Ext ρ ρ al al:=⟨fun _ _=>rfl,Mem.le_refl _,fun _ h=>h⟩
theorem Ext.trans {ρ ρ' ρ'':Nat→Loc}{al al' al'':Al}(h:Ext ρ ρ' al al')(k:Ext ρ' ρ'' al' al''):Ext ρ ρ'' al al'' :=
 ⟨fun b hb=>(k.eq b (h.al b hb)).trans (h.eq b hb),Mem.le_trans h.M k.M,fun b hb=>k.al b (h.al b hb)⟩
section
variable {ρ ρ':Nat→Loc}{al al':Al}(E:Ext ρ ρ' al al')
include E
theorem LRep.ext {x:LV}{y:Value}(h:LRep ρ al x y):LRep ρ' al' x y:=by
 cases x with
 |v x=>exact h
 |d x=>exact DRep.mono E.M h
 |any=>trivial
 |p b i j=>obtain⟨a,e⟩:=h;exact⟨E.al b a,by rw[E.eq b a];exact e⟩
 |bf g bs cs =>
  obtain⟨a,c,e⟩:=h;have h1:∀l:List Nat,(∀b∈l,al b)→l.map (pAt ρ')=l.map (pAt ρ):=fun l hl=>List.map_congr_left fun b hb=>by unfold pAt;rw[E.eq b (hl b hb)]
  exact⟨fun b hb=>E.al b (a b hb),fun b hb=>E.al b (c b hb),by rw[h1 bs a,h1 cs c];exact e⟩
 |sl b i n=>obtain⟨a,e⟩:=h;exact⟨E.al b a,by rw[E.eq b a];exact e⟩
theorem LsRep.ext:∀{xs:List LV} {ys:List Value},LsRep ρ al xs ys→LsRep ρ' al' xs ys
 |[],[],_=>trivial
 |_::_,_::_,⟨a,b,c⟩=>⟨a,b.ext E,LsRep.ext c⟩
theorem SRep.ext {x:SV}{y:Value}(h:SRep ρ al x y):SRep ρ' al' x y:=by
 cases x with
 |l x=>exact LRep.ext E h
 |agg xs=>obtain⟨cs,e,h⟩:=h;exact⟨cs,e,h.ext E⟩
theorem SsRep.ext:∀{xs:List SV} {ys:List Value},SsRep ρ al xs ys→SsRep ρ' al' xs ys
 |[],[],_=>trivial
 |_::_,_::_,⟨a,b⟩=>⟨a.ext E,SsRep.ext b⟩
theorem ARep.ext {x:AV}{y:Value}(h:ARep ρ al x y):ARep ρ' al' x y:=by
 cases x with
 |s x=>exact SRep.ext E h
 |tup xs=>obtain⟨cs,e,h⟩:=h;exact⟨cs,e,h.ext E⟩
 |fn g f c=>obtain⟨a,b,e,h,k⟩:=h;exact⟨a,b,e,h.ext E,k.ext E⟩
theorem AsRep.ext:∀{xs:List AV} {ys:List Value},AsRep ρ al xs ys→AsRep ρ' al' xs ys
 |[],[],_=>trivial
 |_::_,_::_,⟨a,b⟩=>⟨a.ext E,AsRep.ext b⟩
theorem TRep.ext {t:cK}{tm:Array Value}(h:TRep ρ al t tm):TRep ρ' al' t tm:=fun k=>(h k).ext E
end
section
variable {ρ:Nat→Loc}{al:Al}
theorem LsRep.length:∀{xs:List LV} {ys:List Value},LsRep ρ al xs ys→ys.length=xs.length
 |[],[],_=>rfl
 |_::_,_::_,⟨_,_,c⟩=>by simp[LsRep.length c]
theorem SsRep.length:∀{xs:List SV} {ys:List Value},SsRep ρ al xs ys→ys.length=xs.length
 |[],[],_=>rfl
 |_::_,_::_,⟨_,c⟩=>by simp[SsRep.length c]
theorem AsRep.length:∀{xs:List AV} {ys:List Value},AsRep ρ al xs ys→ys.length=xs.length
 |[],[],_=>rfl
 |_::_,_::_,⟨_,c⟩=>by simp[AsRep.length c]
theorem LsRep.get:∀{xs:List LV} {ys:List Value},LsRep ρ al xs ys→∀(j:Nat) (x:LV),xs[j]? = some x→∃y,ys[j]? = some y∧y.oneCell'=true∧LRep ρ al x y
 |x::xs,y::ys,⟨a,b,_⟩,0,z,hz=>by simp at hz;subst hz;exact⟨y,rfl,a,b⟩
 |x::xs,y::ys,⟨_,_,c⟩,j+1,z,hz=>by simpa using LsRep.get c j z (by simpa using hz)
theorem LsRep.one:∀{xs:List LV} {ys:List Value},LsRep ρ al xs ys→∀y∈ys,y.oneCell'=true
 |[],[],_,y,hy=>by simp at hy
 |x::xs,y::ys,⟨a,_,c⟩,z,hz=>by
  rcases List.mem_cons.1 hz with rfl | h
  ·exact a
  ·exact LsRep.one c z h
theorem LsRep.of_get:∀{xs:List LV} {f:Nat→Value},(∀(j:Nat) (x:LV),xs[j]? = some x→(f j).oneCell'=true∧LRep ρ al x (f j))→LsRep ρ al xs ((List.range xs.length).map f)
 |[],_,_=>trivial
 |x::xs,f,h=>by
  rw[List.length_cons,List.range_succ_eq_map,map_cons,List.map_map];exact⟨(h 0 x rfl).1,(h 0 x rfl).2,LsRep.of_get (f:=f∘Nat.succ) fun j x hx=>h (j+1) x (by simpa using hx)⟩
theorem SsRep.get:∀{xs:List SV} {ys:List Value},SsRep ρ al xs ys→∀(j:Nat) (x:SV),xs[j]? = some x→∃y,ys[j]? = some y∧SRep ρ al x y
 |x::xs,y::ys,⟨a,_⟩,0,z,hz=>by simp at hz;subst hz;exact⟨y,rfl,a⟩
 |x::xs,y::ys,⟨_,c⟩,j+1,z,hz=>by simpa using SsRep.get c j z (by simpa using hz)
theorem LsRep.append:∀{xs:List LV} {ys:List Value} {xs':List LV} {ys':List Value},LsRep ρ al xs ys→LsRep ρ al xs' ys'→LsRep ρ al (xs++xs') (ys++ys')
 |[],[],_,_,_,h=>h
 |_::_,_::_,_,_,⟨a,b,c⟩,h=>⟨a,b,LsRep.append c h⟩
theorem LsRep.take:∀{xs:List LV} {ys:List Value} (n:Nat),LsRep ρ al xs ys→LsRep ρ al (xs.take n) (ys.take n)
 |[],[],0,_=>trivial
 |[],[],n+1,_=>trivial
 |_::_,_::_,0,_=>trivial
 |_::_,_::_,n+1,⟨a,b,c⟩=>⟨a,b,LsRep.take n c⟩
theorem LsRep.drop:∀{xs:List LV} {ys:List Value} (n:Nat),LsRep ρ al xs ys→LsRep ρ al (xs.drop n) (ys.drop n)
 |[],[],0,_=>trivial
 |[],[],n+1,_=>trivial
 |_::_,_::_,0,h=>h
 |_::_,_::_,n+1,⟨_,_,c⟩=>LsRep.drop n c
theorem TRep.put {t:cK}{tm:Array Value}{d:Nat}{x:AV}{y:Value}(h:TRep ρ al t tm)(hd:d<tm.size)(hx:ARep ρ al x y):TRep ρ al ((d,x)::t) (tm.setIfInBounds d y):=by
 intro k;rw[bI];split
 ·rename_i e;subst e;rw[Array.getD_eq_getD_getElem?,Array.getElem?_setIfInBounds,if_pos rfl,if_pos hd];exact hx
 ·rename_i e;have:=h k;rw[Array.getD_eq_getD_getElem?]at this;rw[Array.getD_eq_getD_getElem?,Array.getElem?_setIfInBounds,if_neg e];exact this
end
section
variable {B:cX}{w0:World}{ρ ρ':Nat→Loc}{al al':Al}{h h':ag}{w w':World}
theorem BRep.ext (E:Ext ρ ρ' al al'){b:Nat}{k:Blk}(H:BRep ρ al w b k)(hw:w'.heap[(ρ b).blk]? = w.heap[(ρ b).blk]?):BRep ρ' al' w' b k:=by
 obtain⟨a1,a2,a3,a4,a5,a6,a7⟩:=H;have e:=E.eq b a1;refine⟨E.al b a1,by rw[e];exact a2,by rw[e];exact a3,a4,by rw[e];exact a5,?_,?_⟩
 ·intro i j x hx;obtain⟨y,h1,h2,h3⟩:=a6 i j x hx;refine⟨y,?_,h2,h3.ext E⟩;rw[e,World.cell?_of_block (w:=w) (by exact hw)];exact h1
 ·intro ho;rw[e,hw];exact a7 ho
theorem BRep.ext' (E:Ext ρ ρ' al al'){b:Nat}{k:Blk}(H:BRep ρ al w b k)(hw:k.els≠[]∨(k.own=true∧(ρ b).cap≠0)→w'.heap[(ρ b).blk]? = w.heap[(ρ b).blk]?):BRep ρ' al' w' b k:=by
 obtain⟨a1,a2,a3,a4,a5,a6,a7⟩:=H;have e:=E.eq b a1;refine⟨E.al b a1,by rw[e];exact a2,by rw[e];exact a3,a4,by rw[e];exact a5,?_,?_⟩
 ·intro i j x hx;obtain⟨y,h1,h2,h3⟩:=a6 i j x hx;refine⟨y,?_,h2,h3.ext E⟩
  rw[e,World.cell?_of_block (w:=w) (by
   refine hw (.inl ?_);rintro h0;simp[cellAt,h0]at hx)]
  exact h1
 ·intro ho;rw[e];refine⟨(a7 ho).1,(a7 ho).2.1,fun hc=>?_⟩;rw[hw (.inr ⟨ho,hc⟩)];exact(a7 ho).2.2 hc
theorem BRep.lt {b:Nat}{k:Blk}(H:BRep ρ al w b k)(ho:k.own=true)(hc:(ρ b).cap≠0):(ρ b).blk<w.heap.size:=by
 obtain⟨cur,fr,h1,_⟩:=(H.room ho).2.2 hc;exact(Array.getElem?_eq_some_iff.1 h1).1
theorem WRep.step (H:WRep B w0 ρ al h w)(E:Ext ρ ρ' al al')(hb:Keeps B.S w0 w')(hw:∀b k,ac h b=some k→k.els≠[]∨(k.own=true∧(ρ b).cap≠0)→w'.heap[(ρ b).blk]? = w.heap[(ρ b).blk]?)(hm:∀b,(∃o y,al.M b o=some y)→w'.heap[b]? = w.heap[b]?)(hM:al'.M=al.M:=by rfl):WRep B w0 ρ' al' h w':=by
 have e:∀{b k},ac h b=some k→ρ' b=ρ b:=fun hk=>E.eq _ (H.blk _ _ hk).here;refine⟨H.base,hb,fun b k hk=>(H.blk b k hk).ext' E (hw b k hk),?_,?_,?_,?_,?_,?_,by rw[hM];exact H.memOld,fun j l hj=>⟨E.al j (H.pins j l hj).1,(E.eq j (H.pins j l hj).1).trans (H.pins j l hj).2⟩⟩
 ·intro b k hk;rw[e hk];exact H.own b k hk
 ·intro b k hk;rw[e hk];exact H.old b k hk
 ·intro b c k l hk hl;rw[e hk,e hl];exact H.apart b c k l hk hl
 ·intro b o y hy;rw[hM]at hy;rw[World.cell?_of_block (w:=w) (by exact hm b ⟨o,y,hy⟩)];exact H.mem b o y hy
 ·intro b k hk;rw[e hk,hM];exact H.memOwn b k hk
 ·intro b o y hy;rw[hM]at hy;exact H.memNew b o y hy
theorem WRep.lt (H:WRep B w0 ρ al h w){b:Nat}{k:Blk}(hk:ac h b=some k)(hc:k.els≠[]∨(k.own=true∧(ρ b).cap≠0)):(ρ b).blk<w.heap.size:=by
 cases ho:k.own with
 |true =>
  refine(H.blk b k hk).lt ho ?_;rcases hc with hc | hc
  ·have:=(H.blk b k hk).cap;intro h0;have:k.els.length=0:=by omega
   exact hc (List.eq_nil_of_length_eq_zero this)
  ·exact hc.2
 |false =>
  have hn:k.els≠[]:=hc.resolve_right (by rw[ho];simp);exact H.size _ (H.old b k hk ho hn)
theorem WRep.gok (H:WRep B w0 ρ al h w):Gok al.M:=B.gok.mono H.memOld
theorem WRep.rebase (H:WRep B w0 ρ al h w):WRep ⟨B.S,al.M,B.pl,B.ds,H.gok⟩ w ρ al h w :=
 ⟨H.size,.refl _ _,H.blk,H.own,H.old,H.apart,H.mem,H.memOwn,fun b o y hy=>.inl hy,Mem.le_refl _,H.pins⟩
theorem WRep.unbase (H:WRep B w0 ρ al h w){g:Gok al.M}(H':WRep ⟨B.S,al.M,B.pl,B.ds,g⟩ w ρ' al' h' w'):WRep B w0 ρ' al' h' w' :=
 ⟨H.base,H.below.trans H'.below,H'.blk,H'.own,H'.old,H'.apart,H'.mem,H'.memOwn,fun b o y hy=>(H'.memNew b o y hy).elim (H.memNew b o y) .inr,Mem.le_trans H.memOld H'.memOld,H'.pins⟩
theorem WRep.drew (H:WRep B w0 ρ al h w):WRep B w0 ρ al h w.drew :=
 H.step (.refl _ _) H.below.drew (fun _ _ _ _=>rfl) (fun _ _=>rfl)
theorem WRep.sub (H:WRep B w0 ρ al h w)(hs:∀b k,ac h' b=some k→ac h b=some k):WRep B w0 ρ al h' w :=
 ⟨H.base,H.below,fun b k hk=>H.blk b k (hs b k hk),fun b k hk=>H.own b k (hs b k hk),fun b k hk=>H.old b k (hs b k hk),fun b c k l hk hl=>H.apart b c k l (hs b k hk) (hs c l hl),H.mem,fun b k hk=>H.memOwn b k (hs b k hk),H.memNew,H.memOld,H.pins⟩
def al1 (al:Al)(id:Nat):Al:=⟨fun b=>al b∨b=id,al.M⟩
def ρ1 (ρ:Nat→Loc)(id:Nat)(l:Loc):Nat→Loc:=fun b=>if b=id then l else ρ b
theorem Ext.new {id:Nat}(hid:¬al id)(l:Loc):Ext ρ (ρ1 ρ id l) al (al1 al id) :=
 ⟨fun b hb=>by unfold ρ1;rw[if_neg (by rintro rfl;exact hid hb)],Mem.le_refl _,fun _ hb=>.inl hb⟩
theorem CS (ρ:Nat→Loc)(id:Nat)(l:Loc):ρ1 ρ id l id=l:=if_pos rfl
theorem WRep.more (H:WRep B w0 ρ al h w){b:Nat}{k:Blk}(hb:BRep ρ al w b k)(ho:k.own=true)(hB:(ρ b).cap≠0→¬B.S (ρ b).blk)(hMb:(ρ b).cap≠0→∀o,al.M (ρ b).blk o=none)(hap:∀c l,ac h c=some l→l.own=true→(ρ c).cap≠0→c≠b→(ρ b).cap≠0→(ρ c).blk≠(ρ b).blk):WRep B w0 ρ al ((b,some k)::h) w:=by
 have g:∀{c l},ac ((b,some k)::h) c=some l→(c=b∧l=k)∨(c≠b∧ac h c=some l):=by
  intro c l hc;rw[ac]at hc;split at hc
  ·rename_i e;subst e;injection hc with e;subst e;exact .inl ⟨rfl,rfl⟩
  ·rename_i e;exact .inr ⟨fun e'=>e e'.symm,hc⟩
 refine⟨H.base,H.below,?_,?_,?_,?_,H.mem,?_,H.memNew,H.memOld,H.pins⟩
 ·intro c l hc;rcases g hc with ⟨rfl,rfl⟩ | ⟨_,hc⟩
  ·exact hb
  ·exact H.blk c l hc
 ·intro c l hc;rcases g hc with ⟨rfl,rfl⟩ | ⟨_,hc⟩
  ·exact fun _=>hB
  ·exact H.own c l hc
 ·intro c l hc;rcases g hc with ⟨rfl,rfl⟩ | ⟨_,hc⟩
  ·intro h1;rw[ho]at h1;cases h1
  ·exact H.old c l hc
 ·intro c d l m hc hd ol om cl cm hne;rcases g hc with ⟨e1,_⟩ | ⟨nc,hc'⟩<;>rcases g hd with ⟨e2,_⟩ | ⟨nd,hd'⟩
  ·exact(hne (e1.trans e2.symm)).elim
  ·rw[e1]at cl ⊢;exact fun e=>hap d m hd' om cm nd cl e.symm
  ·rw[e2]at cm ⊢;exact hap c l hc' ol cl nc cm
  ·exact H.apart c d l m hc' hd' ol om cl cm hne
 ·intro c l hc;rcases g hc with ⟨rfl,rfl⟩ | ⟨_,hc⟩
  ·exact fun _=>hMb
  ·exact H.memOwn c l hc
def Td (cells:List Value)(sz:Nat)(els:List (List LV))(ρ:Nat→Loc)(al:Al):Prop :=
 (∀e∈els,e.length=sz)∧∀i j x,cellAt els i j=some x→∃y,cells[i*sz+j]? = some y∧y.oneCell'=true∧LRep ρ al x y
theorem WRep.allocF (H:WRep B w0 ρ al h w){id:Nat}(hid:¬al id)(T:TypeId)(sz cap:Nat)(els:List (List LV))(cells:Array Value)(fr:Nat×Nat)(hfr:fr.1=fr.2∨cells.size≤fr.1)(hs:cells.size=cap*sz)(hm:cap≤maxLen)(hn:els.length≤cap)(hl:Td cells.toList sz els ρ al) :
  ∃ρ',Ext ρ ρ' al (al1 al id)∧ρ' id=⟨w.heap.size,0,sz,cap,true⟩∧WRep B w0 ρ' (al1 al id) ((id,some ⟨true,T,sz,els⟩)::h) (w.alloc (.cells cells T fr)):=by
 have E:Ext ρ (ρ1 ρ id ⟨w.heap.size,0,sz,cap,true⟩) al (al1 al id):=Ext.new hid _;have e:=CS ρ id ⟨w.heap.size,0,sz,cap,true⟩;generalize ρ1 ρ id ⟨w.heap.size,0,sz,cap,true⟩=ρ' at *
 have hnew:=heap_alloc_new w (.cells cells T fr)
 have H1:WRep B w0 ρ' (al1 al id) h (w.alloc (.cells cells T fr)) :=
  H.step E (H.below.alloc H.size _) (fun b k hk hc=>Below.heap_alloc _ _ _ (H.lt hk hc)) (fun b ⟨_,_,hb⟩=>Below.heap_alloc _ _ _ (H.memLt hb))
 refine⟨ρ',E,e,H1.more ⟨.inr rfl,by rw[e],by rw[e],hl.1,by rw[e];exact hn,?_,?_⟩ rfl (fun _=>by rw[e];exact fun hS=>Nat.lt_irrefl _ (H.size _ hS)) (fun _ o=>by
  rw[e];cases hy:(al1 al id).M w.heap.size o with
  |none=>rfl
  |some y=>exact absurd (H.memLt (o:=o) (y:=y) hy) (Nat.lt_irrefl _)) ?_⟩
 ·intro i j x hx;obtain⟨y,h1,h2,h3⟩:=hl.2 i j x hx;refine⟨y,?_,h2,h3.ext E⟩;rw[e];show(w.alloc (.cells cells T fr)).cell? ⟨w.heap.size,0+i*sz+j,none⟩=_;rw[cell_of_row _ _ _ _ _ _ hnew,Nat.zero_add];simpa using h1
 ·intro _;rw[e];exact⟨rfl,hm,fun _=>⟨cells,fr,hnew,hs,hfr⟩⟩
 ·intro c l hl' ol cl hne _;rw[e,E.eq c (H.blk c l hl').here];have:(ρ c).blk<w.heap.size:=(H.blk c l hl').lt ol (by rw[←E.eq c (H.blk c l hl').here];exact cl);show(ρ c).blk≠w.heap.size;omega
theorem WRep.alloc (H:WRep B w0 ρ al h w){id:Nat}(hid:¬al id)(T:TypeId)(sz cap:Nat)(els:List (List LV))(cells:Array Value)(hs:cells.size=cap*sz)(hm:cap≤maxLen)(hn:els.length≤cap)(hl:Td cells.toList sz els ρ al) :
  ∃ρ',Ext ρ ρ' al (al1 al id)∧ρ' id=⟨w.heap.size,0,sz,cap,true⟩∧WRep B w0 ρ' (al1 al id) ((id,some ⟨true,T,sz,els⟩)::h) (w.alloc (.cells cells T)) :=
 H.allocF hid T sz cap els cells (0,0) (.inl rfl) hs hm hn hl
end
theorem Fz {i j sz n:Nat}(hi:i<n)(hj:j<sz):i*sz+j<n*sz:=by
 have:(i+1)*sz≤n*sz:=Nat.mul_le_mul_right _ hi;rw[succ_mul]at this;omega
theorem fU (b:Nat):∀(vs:List Value) (o:Nat) (w:World) (k:Nat),k≠b→(w.setCells b o vs).heap[k]? = w.heap[k]?
 |[],_,_,_,_=>rfl
 |v::r,o,w,k,h=>by
  rw[World.setCells,fU b r (o+1) _ k h];exact Below.heap_setCell _ _ _ _ h
theorem lZ (b:Nat):∀(vs:List Value) (o:Nat) (w:World) (cur:Array Value) (T:TypeId) (fr:Nat×Nat),w.heap[b]? = some (.cells cur T fr)→∃cur',(w.setCells b o vs).heap[b]? = some (.cells cur' T fr)∧cur'.size=cur.size
 |[],_,_,cur,_,_,h=>⟨cur,h,rfl⟩
 |v::r,o,w,cur,T,fr,h=>by
  have h1:(w.setCell ⟨b,o,none⟩ v).heap[b]? = some (.cells (cur.setIfInBounds o v) T fr):=by
   simp[World.setCell,Array.getElem?_modify,h]
  obtain⟨cur',h2,h3⟩:=lZ b r (o+1) _ _ T fr h1;exact⟨cur',by rw[World.setCells];exact h2,by rw[h3];simp⟩
theorem lg {S:Nat→Prop}{a:World}(b:Nat)(hB:¬S b):∀(vs:List Value) (o:Nat) (w:World),Keeps S a w→Keeps S a (w.setCells b o vs)
 |[],_,_,h=>h
 |v::r,o,w,h=>by
  rw[World.setCells];exact lg b hB r (o+1) _ (h.setCell hB v)
section
variable {B:cX}{w0:World}{ρ:Nat→Loc}{al:Al}{h:ag}{w:World}
theorem aD {els:List (List LV)}{i j:Nat}{x:LV}:cellAt els i j=some x↔∃e,els[i]? = some e∧e[j]? = some x:=by
 unfold cellAt;cases els[i]?<;>simp
theorem BRep.frozen {b:Nat}{k:Blk}(H:BRep ρ al w b k)(ho:k.own=true)(hc:(ρ b).cap≠0)(o:Nat)(hlt:o<(ρ b).cap*(ρ b).sz):w.frozen? ⟨(ρ b).blk,o,none⟩=false:=by
 obtain⟨cur,fr,h1,h2,h3⟩:=(H.room ho).2.2 hc;obtain⟨lo,hi⟩:=fr;simp only[World.frozen?,h1];simp only at h3;rw[Bool.and_eq_false_iff,decide_eq_false_iff_not,decide_eq_false_iff_not];rcases h3 with h3 | h3<;>omega
theorem WRep.other (H:WRep B w0 ρ al h w){b:Nat}{k:Blk}(hk:ac h b=some k)(ho:k.own=true)(hc:(ρ b).cap≠0){c:Nat}{l:Blk}(hl:ac h c=some l)(hlc:l.els≠[]∨(l.own=true∧(ρ c).cap≠0))(hne:c≠b):(ρ c).blk≠(ρ b).blk:=by
 cases ol:l.own with
 |true =>
  have hcc:(ρ c).cap≠0:=by
   rcases hlc with hlc | hlc
   ·have:=(H.blk c l hl).cap;intro h0;exact hlc (List.eq_nil_of_length_eq_zero (by omega))
   ·exact hlc.2
  exact H.apart c b l k hl hk ol ho hcc hc hne
 |false =>
  have h1:=H.old c l hl ol (hlc.resolve_right (by rw[ol];simp));have h2:=H.own b k hk ho hc;exact fun e=>h2 (e▸h1)
theorem WRep.memOther (H:WRep B w0 ρ al h w){b:Nat}{k:Blk}(hk:ac h b=some k)(ho:k.own=true)(hc:(ρ b).cap≠0){c:Nat}(hm:∃o y,al.M c o=some y):c≠(ρ b).blk:=by
 rintro rfl;obtain⟨o,y,hy⟩:=hm;rw[H.memOwn b k hk ho hc o]at hy;cases hy
theorem dN {b:Nat}{h:ag}:∀c k,ac ((b,none)::h) c=some k→c≠b∧ac h c=some k:=by
 intro c k hk;rw[ac]at hk;split at hk
 ·cases hk
 ·rename_i e;exact⟨fun e'=>e e'.symm,hk⟩
theorem G2 {b:Nat}{x:Blk}{h:ag}:∀c k,ac ((b,some x)::h) c=some k→ac ((b,some x)::(b,none)::h) c=some k:=by
 intro c k hk;rw[ac]at hk ⊢;split
 ·rename_i e;rw[if_pos e]at hk;exact hk
 ·rename_i e;rw[if_neg e]at hk;rw[ac,if_neg e];exact hk
def li (e:List LV)(j:Nat)(xs:List LV):List LV:=e.take j++xs++e.drop (j+xs.length)
theorem qb {e:List LV}{j:Nat}{xs:List LV}(h:j+xs.length≤e.length):(li e j xs).length=e.length:=by
 simp[li];omega
theorem wG {e:List LV}{j:Nat}{xs:List LV}(h:j+xs.length≤e.length)(m:Nat):(li e j xs)[m]? = if m<j then e[m]? else if m<j+xs.length then xs[m-j]? else e[m]?:=by
 unfold li;rw[List.append_assoc,getElem?_append];have hl:(e.take j).length=j:=by simp;omega
 rw[hl];by_cases h1:m<j
 ·rw[if_pos h1,if_pos h1,getElem?_take,if_pos h1]
 ·rw[if_neg h1,if_neg h1,getElem?_append];by_cases h2:m<j+xs.length
  ·rw[if_pos (by omega),if_pos h2]
  ·rw[if_neg (by omega),if_neg h2,List.getElem?_drop];congr 1;omega
theorem WRep.there (H:WRep B w0 ρ al h w){b:Nat}{k:Blk}(hk:ac h b=some k)(ho:k.own=true){i j:Nat}{e:List LV}(he:k.els[i]? = some e){n:Nat}(hj:j+n≤k.sz) :
  w.there (ρ b).blk ((ρ b).off+i*(ρ b).sz+j) n:=by
 have Hb:=H.blk b k hk;have hil:i<k.els.length:=(List.getElem?_eq_some_iff.1 he).1;have hcap:(ρ b).cap≠0:=by have:=Hb.cap;omega
 have hel:e.length=k.sz:=Hb.len e (mem_of_getElem? he);intro m hm;refine⟨?_,Hb.frozen ho hcap _ ?_⟩;rotate_left
 ·have h1:=(Hb.room ho).1;have h2:=Fz (i:=i) (j:=j+m) (sz:=k.sz) (n:=(ρ b).cap) (by have:=Hb.cap;omega) (by omega);rw[h1,Hb.sz];omega
 obtain⟨y,h1,_⟩:=Hb.cells i (j+m) e[j+m] (aD.2 ⟨e,he,getElem?_eq_getElem (by omega)⟩);rw[Nat.add_assoc _ j m,h1];rfl
theorem WRep.store (H:WRep B w0 ρ al h w){b:Nat}{k:Blk}(hk:ac h b=some k)(ho:k.own=true){i j:Nat}{e:List LV}(he:k.els[i]? = some e){xs:List LV}{ys:List Value}(hx:LsRep ρ al xs ys)(hj:j+xs.length≤k.sz) :
  WRep B w0 ρ al ((b,some { k with els:=k.els.set i (li e j xs) })::h) (w.setCells (ρ b).blk ((ρ b).off+i*(ρ b).sz+j) ys):=by
 have Hb:=H.blk b k hk;have hil:i<k.els.length:=(List.getElem?_eq_some_iff.1 he).1;have hcap:(ρ b).cap≠0:=by have:=Hb.cap;omega
 have hel:e.length=k.sz:=Hb.len e (mem_of_getElem? he);have hyl:=hx.length;have ht:=H.there hk ho he (n:=ys.length) (by rw[hyl];exact hj);have hB:=H.own b k hk ho hcap;obtain⟨cur,fr,hcur,hsz,hfr⟩:=(Hb.room ho).2.2 hcap;have H0:WRep B w0 ρ al ((b,none)::h) w:=H.sub fun c l hl=>(dN c l hl).2
 have H1:WRep B w0 ρ al ((b,none)::h) (w.setCells (ρ b).blk ((ρ b).off+i*(ρ b).sz+j) ys) :=
  H0.step (.refl _ _) (lg _ hB _ _ _ H.below) (fun c l hl hc=>fU _ _ _ _ _ (H.other hk ho hcap (dN c l hl).2 hc (dN c l hl).1)) (fun c hc=>fU _ _ _ _ _ (H.memOther hk ho hcap hc))
 refine(H1.more (k:={ k with els:=k.els.set i (li e j xs) }) ⟨Hb.here,Hb.own,Hb.sz,?_,?_,?_,?_⟩ ho (fun _=>hB) (H.memOwn b k hk ho) ?_).sub (fun c l hl=>G2 c l hl)
 ·intro u hu;rcases List.mem_or_eq_of_mem_set hu with hu | rfl
  ·exact Hb.len u hu
  ·rw[qb (by omega),hel]
 ·simpa using Hb.cap
 ·intro i' j' x hx';obtain⟨u,hu,hj'⟩:=aD.1 hx';rw[List.getElem?_set]at hu;have hsz':=Hb.sz;by_cases hii:i=i'
  ·subst hii;rw[if_pos rfl,if_pos hil]at hu;injection hu with hu;subst hu;rw[wG (by omega)]at hj';by_cases h1:j'<j
   ·rw[if_pos h1]at hj';obtain⟨y,g1,g2,g3⟩:=Hb.cells i j' x (aD.2 ⟨e,he,hj'⟩);refine⟨y,?_,g2,g3⟩;rw[World.cell?_setCells_out _ _ _ _ _ (fun _ _=>.inl (by show _+_+_<_;omega))];exact g1
   ·rw[if_neg h1]at hj';by_cases h2:j'<j+xs.length
    ·rw[if_pos h2]at hj';obtain⟨y,g1,g2,g3⟩:=hx.get (j'-j) x hj';have hlt:j'-j<ys.length:=(List.getElem?_eq_some_iff.1 g1).1;refine⟨y,?_,g2,g3⟩;have:=World.cell?_setCells_in (ρ b).blk ys ((ρ b).off+i*(ρ b).sz+j) w (fun m hm=>(ht m hm).1) (j'-j) hlt;rw[show(ρ b).off+i*(ρ b).sz+j'=(ρ b).off+i*(ρ b).sz+j+(j'-j) by omega,this,←g1,getElem?_eq_getElem hlt]
    ·rw[if_neg h2]at hj';obtain⟨y,g1,g2,g3⟩:=Hb.cells i j' x (aD.2 ⟨e,he,hj'⟩);refine⟨y,?_,g2,g3⟩;rw[World.cell?_setCells_out _ _ _ _ _ (fun _ _=>.inr (by show _≤_+_+_;omega))];exact g1
  ·rw[if_neg hii]at hu;obtain⟨y,g1,g2,g3⟩:=Hb.cells i' j' x (aD.2 ⟨u,hu,hj'⟩);refine⟨y,?_,g2,g3⟩;have hj2:j'<k.sz:=by rw[←Hb.len u (mem_of_getElem? hu)];exact(List.getElem?_eq_some_iff.1 hj').1
   rw[World.cell?_setCells_out _ _ _ _ _ (fun _ _=>?_)]
   ·exact g1
   ·show(ρ b).off+i'*(ρ b).sz+j'<_∨_≤(ρ b).off+i'*(ρ b).sz+j';rw[hsz',hyl];rcases Nat.lt_or_gt_of_ne hii with hlt | hgt
    ·right;have:(i+1)*k.sz≤i'*k.sz:=Nat.mul_le_mul_right _ hlt;rw[succ_mul]at this;omega
    ·left;have:(i'+1)*k.sz≤i*k.sz:=Nat.mul_le_mul_right _ hgt;rw[succ_mul]at this;omega
 ·intro _;refine⟨(Hb.room ho).1,(Hb.room ho).2.1,fun _=>?_⟩;obtain⟨cur',g1,g2⟩:=lZ (ρ b).blk ys ((ρ b).off+i*(ρ b).sz+j) w cur k.T fr hcur;exact⟨cur',fr,g1,by rw[g2];exact hsz,by rw[g2];exact hfr⟩
 ·intro c l hl ol cl hne _;exact H.other hk ho hcap (dN c l hl).2 (.inr ⟨ol,cl⟩) hne
theorem NQ {els:List (List LV)}{sz:Nat}(hlen:∀e∈els,e.length=sz){i0 m:Nat}(hm:i0+m≤els.length){q:Nat}(hq:q<m*sz):∃x,cellAt els (i0+q / sz) (q % sz)=some x:=by
 have hsz:0<sz:=Nat.pos_of_ne_zero (by rintro rfl;simp at hq);have h1:q / sz<m:=(Nat.div_lt_iff_lt_mul hsz).2 hq;have h2:i0+q / sz<els.length:=by omega
 refine⟨els[i0+q / sz][q % sz]'(by rw[hlen _ (List.getElem_mem h2)];exact Nat.mod_lt _ hsz),?_⟩;exact aD.2 ⟨_,getElem?_eq_getElem h2,getElem?_eq_getElem _⟩
theorem BRep.row {b:Nat}{k:Blk}(H:BRep ρ al w b k){i0 m:Nat}(hm:i0+m≤k.els.length) :
  ∃news:List Value,news.length=m*k.sz∧(∀(j:Nat) (u:Value),news[j]? = some u→w.cell? ((⟨(ρ b).blk,(ρ b).off+i0*(ρ b).sz,none⟩:Addr).add j)=some u)∧(∀u∈news,u.oneCell'=true)∧∀i j x,i<m→cellAt k.els (i0+i) j=some x→∃y,news[i*k.sz+j]? = some y∧y.oneCell'=true∧LRep ρ al x y:=by
 have hs:=H.sz
 have key:∀q,q<m*k.sz→∃y,w.cell? ⟨(ρ b).blk,(ρ b).off+i0*k.sz+q,none⟩=some y∧y.oneCell'=true:=by
  intro q hq;obtain⟨x,hx⟩:=NQ H.len hm hq;obtain⟨y,h1,h2,_⟩:=H.cells _ _ x hx;refine⟨y,?_,h2⟩;have hd:=Nat.div_add_mod q k.sz;rw[hs]at h1;rw[show(ρ b).off+i0*k.sz+q=(ρ b).off+(i0+q / k.sz)*k.sz+q % k.sz by rw[add_mul,Nat.mul_comm (q / k.sz)];omega];exact h1
 refine⟨(List.range (m*k.sz)).map fun q=>(w.cell? ⟨(ρ b).blk,(ρ b).off+i0*k.sz+q,none⟩).getD undef,by simp,?_,?_,?_⟩
 ·intro j u hu;have hj:j<m*k.sz:=by have:=(List.getElem?_eq_some_iff.1 hu).1;simpa using this
  rw[getElem?_map,List.getElem?_range hj,map_some]at hu;injection hu with hu;subst hu;obtain⟨y,h1,_⟩:=key j hj;rw[Addr.add_mid,hs,h1];rfl
 ·intro u hu;obtain⟨q,hq,rfl⟩:=List.mem_map.1 hu;obtain⟨y,h1,h2⟩:=key q (List.mem_range.1 hq);rw[h1];exact h2
 ·intro i j x hi hx;obtain⟨u,hu,hj⟩:=aD.1 hx;have hj2:j<k.sz:=by rw[←H.len u (mem_of_getElem? hu)];exact(List.getElem?_eq_some_iff.1 hj).1
  have hlt:=Fz hi hj2;obtain⟨y,h1,h2,h3⟩:=H.cells _ _ x hx;refine⟨y,?_,h2,h3⟩;rw[getElem?_map,List.getElem?_range hlt,map_some];rw[hs,show(ρ b).off+(i0+i)*k.sz+j=(ρ b).off+i0*k.sz+(i*k.sz+j) by rw[add_mul];omega]at h1;rw[h1];rfl
variable {P:Program}
theorem CK {k:Blk}{rows:List (List LV)}{n sz:Nat}{olds news:List Value}(hn:n≤k.els.length)(hlk:∀e∈k.els,e.length=sz)(hol:olds.length=n*sz)
  (ho:∀i j x,i<n→cellAt k.els i j=some x→∃y,olds[i*sz+j]? = some y∧y.oneCell'=true∧LRep ρ al x y) (hw:∀i j x,cellAt rows i j=some x→∃y,news[i*sz+j]? = some y∧y.oneCell'=true∧LRep ρ al x y) :
  ∀i j x,cellAt (k.els.take n++rows) i j=some x→∃y,(olds++news)[i*sz+j]? = some y∧y.oneCell'=true∧LRep ρ al x y:=by
 intro i j x hx;obtain⟨u,hu,hj⟩:=aD.1 hx;have htl:(k.els.take n).length=n:=by simp;omega
 rw[getElem?_append,htl]at hu;by_cases hin:i<n
 ·rw[if_pos hin,getElem?_take,if_pos hin]at hu;have hj2:j<sz:=by rw[←hlk u (mem_of_getElem? hu)];exact(List.getElem?_eq_some_iff.1 hj).1
  obtain⟨y,g1,g2,g3⟩:=ho i j x hin (aD.2 ⟨u,hu,hj⟩);refine⟨y,?_,g2,g3⟩;rw[getElem?_append,if_pos (by rw[hol];exact Fz hin hj2)];exact g1
 ·rw[if_neg hin]at hu;obtain⟨y,g1,g2,g3⟩:=hw (i-n) j x (aD.2 ⟨u,hu,hj⟩);refine⟨y,?_,g2,g3⟩;have hmul:n*sz≤i*sz:=Nat.mul_le_mul_right _ (by omega);rw[getElem?_append,if_neg (by rw[hol];omega),hol,←g1];congr 1;rw[Nat.sub_mul];omega
theorem xa (z:Array Value)(n:Nat):(Builtin.zeroCells z n).size=n*z.size:=by simp[Builtin.zeroCells]
structure Src (P:Program)(x:Value)(t2:TypeId)(size m:Nat)(news:List Value)(w:World):Prop where
 len:∀w',(Builtin.lenOf x).run P w'=.ok m w'
 ty:(∃e,P.underlying t2=some (.slice e))∨P.underlying t2=some .string
 first:∀w':World,w'.heap=w.heap→(Builtin.firstCells size m x).run P w'=.ok news.toArray w'
theorem pU (t t2 ty e:TypeId)(i:TypeInfo)(ht:P.underlying t=some (.slice e))(hi:P.info? e=some i)(b n C:Nat)(m:Nat)(x:Value)(news:List Value)(hs:Src P x t2 i.size m news w)(h1:∀u∈news,u.oneCell'=true)
  (hc:∀j,j<news.length→(w.cell? ⟨b,n*i.size+j,none⟩).isSome=true) (hf:∀j,j<news.length→w.frozen? ⟨b,n*i.size+j,none⟩=false) (hroom:n+m≤C) :
  (Builtin.append_ #[t,t2] ty #[.slice (some ⟨b,0,none⟩) n C,x]).run P w=.ok (.slice (some ⟨b,0,none⟩) (n+m) C) (w.setCells b (n*i.size) news):=by
 have hst:=run_storeCells_cells (P:=P) b (n*i.size) news 0 w (by simpa using hc) (by simpa using hf) h1;have hadd:(⟨b,0,none⟩:Addr).add (n*i.size)=⟨b,n*i.size,none⟩:=by rw[Addr.add_mid,Nat.zero_add]
 simp only[Nat.add_zero]at hst;have hfc:=hs.first w rfl;have hln:=hs.len w;rcases hs.ty with ⟨e2,hd⟩ | hd<;>simp[Builtin.append_,run_underlying ht,run_underlying hd,sizeOf,typeInfo,hi,hln,hroom,hfc,hadd,hst]
theorem pV (t t2 ty e:TypeId)(i:TypeInfo)(ht:P.underlying t=some (.slice e))(hi:P.info? e=some i)(A:Option Addr)(x:Value)(hs:Src P x t2 i.size 0 [] w) :
  (Builtin.append_ #[t,t2] ty #[.slice A 0 0,x]).run P w=.ok (.slice A 0 0) w:=by
 have hfc:=hs.first w rfl;have hln:=hs.len w;rcases hs.ty with ⟨e2,hd⟩ | hd<;>cases A<;>simp[Builtin.append_,run_underlying ht,run_underlying hd,sizeOf,typeInfo,hi,hln,hfc,storeCells]
theorem ka (t t2 ty e:TypeId)(i:TypeInfo)(z:Value)(ht:P.underlying t=some (.slice e))(hi:P.info? e=some i)(hz:i.zero=some z)
  (A:Option Addr) (n C:Nat) (olds:List Value) (holds:∀w':World,w'.heap=w.heap→(Builtin.firstCells i.size n (.slice A n C)).run P w'=.ok olds.toArray w')
  (m:Nat) (x:Value) (news:List Value) (hs:Src P x t2 i.size m news w)
  (hg:C<n+m) (h63:((n+m:Nat):Int)≤9223372036854775807) (hfit:Builtin.nextslicecap (n+m) C*i.bytes≤281474976710656) :
  (Builtin.append_ #[t,t2] ty #[.slice A n C,x]).run P w =
   .ok (.slice (some ⟨w.heap.size,0,none⟩) (n+m) (grownCap w (n+m) C e))
    (w.drew.alloc (.cells (olds.toArray++news.toArray++Builtin.zeroCells z.cells (grownCap w (n+m) C e-(n+m))) e)):=by
 have hn:¬(n+m≤C):=by omega
 have h63':¬(9223372036854775807<((n:Int)+(m:Int))):=by omega
 have h48':¬(281474976710656<Builtin.nextslicecap (n+m) C*i.bytes):=by omega
 have hf:=hs.first w.drew rfl;have hfo:=holds w.drew rfl;have hln:=hs.len w;rcases hs.ty with ⟨e2,hd⟩ | hd<;>(simp[Builtin.append_,run_underlying ht,run_underlying hd,sizeOf,typeInfo,zeroValue,hi,hz,hln,hn,h63',h48',Question.forced,hf,hfo,newRow,grownCap];congr 2;apply Array.ext';simp[List.append_assoc])
theorem WRep.append (H:WRep B w0 ρ al h w){id:Nat}(hid:¬al id){b:Nat}{k:Blk}(hk:ac h b=some k)(ho:k.own=true){n:Nat}{v:Value}(hv:LRep ρ al (.sl b 0 n) v)(hn:n≤k.els.length)
  {m:Nat} {rows:List (List LV)} {u:Value} {t2:TypeId} {news:List Value} (hrl:rows.length=m) (hre:∀e∈rows,e.length=k.sz) (hsrc:Src P u t2 k.sz m news w) (n1:news.length=m*k.sz) (n3:∀u∈news,u.oneCell'=true)
  (n4:∀i j x,cellAt rows i j=some x→∃y,news[i*k.sz+j]? = some y∧y.oneCell'=true∧LRep ρ al x y)
  {t ty:TypeId} {i:TypeInfo} {z:Value} {bytes:Nat} (ht:P.underlying t=some (.slice k.T)) (hi:P.info? k.T=some i) (hz:i.zero=some z) (hsize:i.size=k.sz) (hby:i.bytes=bytes) (hzs:z.cells.size=k.sz)
  (h63:n+m≤maxLen) (hbytes:(n+m)*bytes≤140737488355328) :
  ∃v' w' ρ',(Builtin.append_ #[t,t2] ty #[v,u]).run P w=.ok v' w'∧Ext ρ ρ' al (al1 al id)∧LRep ρ' (al1 al id) (.sl id 0 (n+m)) v' ∧
   WRep B w0 ρ' (al1 al id) ((id,some ⟨true,k.T,k.sz,k.els.take n++rows⟩)::(b,none)::h) w':=by
 have Hb:=H.blk b k hk;obtain⟨-,A,rfl,hcap,hA⟩:=hv;have hr:=Hb.room ho;have hbs:=Hb.sz;have hoff:=hr.1;have h63':((n+m:Nat):Int)≤9223372036854775807:=by unfold maxLen at h63;omega
 have H0:WRep B w0 ρ al ((b,none)::h) w:=H.sub fun c l hl=>(dN c l hl).2;have htl:(k.els.take n).length=n:=by simp;omega
 have hlen:∀e∈k.els.take n++rows,e.length=k.sz:=by
  intro e he;rcases List.mem_append.1 he with he | he
  ·exact Hb.len e (List.mem_of_mem_take he)
  ·exact hre e he
 rw[←hsize]at hsrc
 have grow:∀(olds:List Value) (cap':Nat),olds.length=n*k.sz→n+m≤cap'→cap'≤maxLen→(∀i j x,i<n→cellAt k.els i j=some x→∃y,olds[i*k.sz+j]? = some y∧y.oneCell'=true∧LRep ρ al x y) →
   ∀cells:Array Value,cells.toList=(olds++news)++(Builtin.zeroCells z.cells (cap'-(n+m))).toList →
   ∃ρ',Ext ρ ρ' al (al1 al id)∧LRep ρ' (al1 al id) (.sl id 0 (n+m)) (.slice (some ⟨w.heap.size,0,none⟩) (n+m) cap')∧WRep B w0 ρ' (al1 al id) ((id,some ⟨true,k.T,k.sz,k.els.take n++rows⟩)::(b,none)::h) (w.drew.alloc (.cells cells k.T)):=by
  intro olds cap' hol hge hle hold cells hcells
  have hcsz:cells.size=cap'*k.sz:=by
   have h1:cells.size=cells.toList.length:=by simp
   rw[h1,hcells,length_append,length_append,hol,n1];have h2:(Builtin.zeroCells z.cells (cap'-(n+m))).toList.length=(cap'-(n+m))*k.sz:=by rw[Array.length_toList,xa,hzs]
   rw[h2,←add_mul,←add_mul];congr 1;omega
  obtain⟨ρ',E,e,H'⟩:=H0.drew.alloc hid k.T k.sz cap' (k.els.take n++rows) cells hcsz hle (by rw[length_append,htl,hrl];exact hge) ⟨hlen,fun i j x hx=>by
   obtain⟨y,g1,g2⟩:=CK hn Hb.len hol hold n4 i j x hx;refine⟨y,?_,g2⟩;rw[hcells,List.getElem?_append_left (List.getElem?_eq_some_iff.1 g1).1];exact g1⟩
  exact⟨ρ',E,⟨.inr rfl,some ⟨w.heap.size,0,none⟩,(by rw[e];rfl),(by rw[e];show 0+(n+m)≤cap';omega),(fun _=>by rw[e];simp)⟩,H'⟩
 by_cases hc0:(ρ b).cap=0
 ·have hn0:n=0:=by omega
  subst hn0;rw[hc0];by_cases hm0:m=0
  ·subst hm0;have hnews:news=[]:=List.eq_nil_of_length_eq_zero (by simpa using n1);have hrows:rows=[]:=List.eq_nil_of_length_eq_zero hrl;subst hnews;subst hrows;have hrun:=pV (P:=P) (w:=w) t t2 ty k.T i ht hi A u hsrc;have E:Ext ρ (ρ1 ρ id ⟨0,0,k.sz,0,true⟩) al (al1 al id):=Ext.new hid _;have e:=CS ρ id ⟨0,0,k.sz,0,true⟩;generalize ρ1 ρ id ⟨0,0,k.sz,0,true⟩=ρ' at *
   refine⟨_,_,ρ',hrun,E,⟨.inr rfl,A,by rw[e];rfl,by rw[e];simp,fun h0=>by rw[e]at h0;simp at h0⟩,(H0.step E H0.below (fun _ _ _ _=>rfl) (fun _ _=>rfl)).more ⟨.inr rfl,by rw[e],by rw[e],by simp,by simp,fun i j x hx=>by simp[cellAt]at hx,fun _=>by rw[e];exact⟨rfl,Nat.zero_le _,fun h0=>absurd rfl h0⟩⟩ rfl (fun h0=>by rw[e]at h0;exact absurd rfl h0) (fun h0=>by rw[e]at h0;exact absurd rfl h0) ?_⟩;intro c l _ _ _ _ h0;rw[e]at h0;exact absurd rfl h0
  ·have hrun:=ka (P:=P) (w:=w) t t2 ty k.T i z ht hi hz A 0 0 [] (by
     intro w' _;cases A with
     |none=>simp[Builtin.firstCells]
     |some A=>exact run_firstCells_some (P:=P) w' i.size 0 A 0 0 [] (by simp) (by simp)) m u news hsrc (by omega) h63' (growslice_fits (by omega) (by rw[hby];exact hbytes))
   obtain⟨ρ',E,g1,g2⟩:=grow [] (grownCap w (0+m) 0 k.T) (by simp) (grownCap_ge _ _ _ _) (grownCap_le_maxLen _ _ _ _ h63) (fun i j x hi=>absurd hi (by omega)) (([]:List Value).toArray++news.toArray++Builtin.zeroCells z.cells (grownCap w (0+m) 0 k.T-(0+m))) (by simp);exact⟨_,_,ρ',hrun,E,g1,g2⟩
 ·have hA':=hA (by omega);rw[hoff,Nat.zero_mul,Nat.add_zero]at hA';subst hA';rw[Nat.sub_zero];obtain⟨olds,o1,o2,o3,o4⟩:=Hb.row (i0:=0) (m:=n) (by omega);simp only[hoff,Nat.zero_mul,Nat.add_zero,Nat.zero_add]at o2 o4;by_cases hfit:n+m≤(ρ b).cap
  ·
   have hB:=H.own b k hk ho hc0;obtain⟨cur,fr,hcur,hcsz,hfr⟩:=hr.2.2 hc0
   have hub:∀j,j<news.length→n*k.sz+j<(ρ b).cap*(ρ b).sz:=by
    intro j hj;rw[n1]at hj;have:(n+m)*k.sz≤(ρ b).cap*k.sz:=Nat.mul_le_mul_right _ hfit;rw[add_mul]at this;rw[hbs];omega
   have hex:∀j,j<news.length→(w.cell? ⟨(ρ b).blk,n*k.sz+j,none⟩).isSome=true:=by
    intro j hj;rw[cell_of_row _ _ _ _ _ _ hcur,Array.getElem?_eq_getElem (by rw[hcsz];exact hub j hj)];rfl
   have hrun:=pU (P:=P) (w:=w) t t2 ty k.T i ht hi (ρ b).blk n (ρ b).cap m u news hsrc n3 (by rw[hsize];exact hex) (by rw[hsize];exact fun j hj=>Hb.frozen ho hc0 _ (hub j hj)) hfit;rw[hsize]at hrun;have E:Ext ρ (ρ1 ρ id ⟨(ρ b).blk,0,k.sz,(ρ b).cap,true⟩) al (al1 al id):=Ext.new hid _;have e:=CS ρ id ⟨(ρ b).blk,0,k.sz,(ρ b).cap,true⟩;generalize ρ1 ρ id ⟨(ρ b).blk,0,k.sz,(ρ b).cap,true⟩=ρ' at *
   have H1:WRep B w0 ρ' (al1 al id) ((b,none)::h) (w.setCells (ρ b).blk (n*k.sz) news) :=
    H0.step E (lg _ hB _ _ _ H.below) (fun d q hd hc=>fU _ _ _ _ _ (H.other hk ho hc0 (dN d q hd).2 hc (dN d q hd).1)) (fun c hc=>fU _ _ _ _ _ (H.memOther hk ho hc0 hc))
   obtain⟨cur',g1,g2⟩:=lZ (ρ b).blk news (n*k.sz) w cur k.T fr hcur;refine⟨_,_,ρ',hrun,E,⟨.inr rfl,some ⟨(ρ b).blk,0,none⟩,(by rw[e];rfl),(by rw[e];show 0+(n+m)≤(ρ b).cap;omega),(fun _=>by rw[e];simp)⟩,H1.more ⟨.inr rfl,by rw[e],by rw[e],hlen,by rw[e,length_append,htl,hrl];exact hfit,?_,?_⟩ rfl (fun _=>by rw[e];exact hB) (fun _=>by rw[e];exact H.memOwn b k hk ho hc0) ?_⟩
   ·intro i' j x hx;obtain⟨y,g3,g4,g5⟩:=CK hn Hb.len o1 (fun i j x hi hx=>o4 i j x hi hx) n4 i' j x hx;refine⟨y,?_,g4,g5.ext E⟩;rw[e];show(w.setCells (ρ b).blk (n*k.sz) news).cell? ⟨(ρ b).blk,0+i'*k.sz+j,none⟩=some y;rw[Nat.zero_add];rw[getElem?_append,o1]at g3;split at g3
    ·rename_i hlt;rw[World.cell?_setCells_out _ _ _ _ _ (fun _ _=>.inl hlt)];have:=o2 (i'*k.sz+j) y g3
     rwa [Addr.add_mid,Nat.zero_add]at this
    ·rename_i hge;have hjl:=(List.getElem?_eq_some_iff.1 g3).1;have:=World.cell?_setCells_in (ρ b).blk news (n*k.sz) w hex (i'*k.sz+j-n*k.sz) hjl;rw[show i'*k.sz+j=n*k.sz+(i'*k.sz+j-n*k.sz) by omega,this,←g3,getElem?_eq_getElem hjl]
   ·intro _;rw[e];exact⟨rfl,hr.2.1,fun _=>⟨cur',fr,g1,by rw[g2,hcsz,hbs],by rw[g2];exact hfr⟩⟩
   ·intro d q hd od cd hne _;have hd':=dN d q hd;have ed:=E.eq d (H.blk d q hd'.2).here;rw[e,ed];rw[ed]at cd;exact H.other hk ho hc0 hd'.2 (.inr ⟨od,cd⟩) hd'.1
  ·have hrun:=ka (P:=P) (w:=w) t t2 ty k.T i z ht hi hz (some ⟨(ρ b).blk,0,none⟩) n (ρ b).cap olds (by
     intro w' hw';refine run_firstCells_some (P:=P) w' i.size n ⟨(ρ b).blk,0,none⟩ n (ρ b).cap olds (by rw[hsize];exact o1) fun j v hv=>?_;rw[World.cell?_of_block (w:=w) (by rw[hw'])];exact o2 j v hv) m u news hsrc (by omega) h63' (growslice_fits (by omega) (by rw[hby];exact hbytes))
   obtain⟨ρ',E,g1,g2⟩:=grow olds (grownCap w (n+m) (ρ b).cap k.T) o1 (grownCap_ge _ _ _ _) (grownCap_le_maxLen _ _ _ _ h63) (fun i j x hi hx=>o4 i j x hi hx) (olds.toArray++news.toArray++Builtin.zeroCells z.cells (grownCap w (n+m) (ρ b).cap k.T-(n+m))) (by simp);exact⟨_,_,ρ',hrun,E,g1,g2⟩
end
structure Res where
 ob:Prop
 r:AV
 E:ag
def cD (P:Program)(t:TypeId):Option Nat:=(P.info? t).map (·.size)
def bA (P:Program)(t:TypeId):Option Bool:=(P.underlying t).map (·.isRow)
def bE (P:Program)(t:TypeId)(f:Nat):Option Nat :=
 match P.underlying t with
 |some (.struct fs)=>match fs[f]? with
  |some x=>match cD P x.type with
   |some 0=>none
   |some _=>some x.offset
   |none=>none
  |none=>none
 |_=>none
def bJ (P:Program)(t:TypeId):Option (List Value) :=
 match P.info? t with
 |some i=>match i.zero with
  |some z=>if z.cells.size=i.size&&z.cells.toList.all (·.oneCell') then some z.cells.toList else none
  |none=>none
 |none=>none
def fM (P:Program)(t:TypeId):Option TypeId :=
 match P.underlying t with
 |some (.slice e)=>some e
 |_=>none
def uN (P:Program)(t:TypeId):Option (Nat×Nat) :=
 match P.underlying t with
 |some (.array n e)=>match cD P e with
  |some s=>if 2≤n then some (n,s) else none
  |none=>none
 |_=>none
def fc (P:Program)(t:TypeId):Option Nat:=(P.info? t).map (·.bytes)
def ofD:D→LV
 |.v x=>.v x
 |d=>.d d
def bp (l:List D):List LV:=l.map ofD
theorem nr {ρ:Nat→Loc}{al:Al}{x:D}{y:Value}:LRep ρ al (ofD x) y↔DRep al.M x y:=by
 cases x<;>simp only[ofD,LRep,DRep]
theorem DsAt.get {M:Mem}{blk:Nat}:∀{xs:List D} {off:Nat},DsAt M blk off xs→∀(j:Nat) (x:D),xs[j]? = some x→∃y,M blk (off+j)=some y∧y.oneCell'=true∧DRep M x y
 |[],_,_,j,x,hx=>by simp at hx
 |z::zs,off,h,0,x,hx=>by
  simp only[DsAt]at h;simp at hx;subst hx;exact h.1
 |z::zs,off,h,j+1,x,hx=>by
  simp only[DsAt]at h;have:=DsAt.get h.2 j x (by simpa using hx)
  rwa [show off+1+j=off+(j+1) by omega]at this
theorem DsAt.drop {M:Mem}{blk:Nat}:∀(k:Nat) {xs:List D} {off:Nat},DsAt M blk off xs→DsAt M blk (off+k) (xs.drop k)
 |0,xs,off,h=>by simpa using h
 |k+1,[],off,h=>by simp only[List.drop_nil,DsAt]
 |k+1,x::xs,off,h=>by
  simp only[DsAt]at h;have:=DsAt.drop k h.2;rw[show off+1+k=off+(k+1) by omega]at this;simpa using this
theorem DsAt.of {M:Mem}{blk:Nat}:∀{xs:List D} {off:Nat},(∀(j:Nat) (x:D),xs[j]? = some x→∃y,M blk (off+j)=some y∧y.oneCell'=true∧DRep M x y)→DsAt M blk off xs
 |[],_,_=>by simp only[DsAt]
 |z::zs,off,h=>by
  simp only[DsAt];refine⟨by simpa using h 0 z rfl,DsAt.of fun j x hx=>?_⟩;have:=h (j+1) x (by simpa using hx)
  rwa [show off+(j+1)=off+1+j by omega]at this
theorem DssAt.get {M:Mem}{blk sz:Nat}:∀{els:List (List D)} {off:Nat},DssAt M blk off sz els→∀(i:Nat) (e:List D),els[i]? = some e→e.length=sz∧DsAt M blk (off+i*sz) e
 |[],_,_,i,e,he=>by simp at he
 |z::zs,off,h,0,e,he=>by
  simp only[DssAt]at h;simp at he;subst he;exact⟨h.1,by simpa using h.2.1⟩
 |z::zs,off,h,i+1,e,he=>by
  simp only[DssAt]at h;have:=DssAt.get h.2.2 i e (by simpa using he)
  rwa [show off+sz+i*sz=off+(i+1)*sz by rw[succ_mul];omega]at this
theorem DssAt.of {M:Mem}{blk sz:Nat}:∀{els:List (List D)} {off:Nat},(∀(i:Nat) (e:List D),els[i]? = some e→e.length=sz∧DsAt M blk (off+i*sz) e)→DssAt M blk off sz els
 |[],_,_=>by simp only[DssAt]
 |z::zs,off,h=>by
  simp only[DssAt];have h0:=h 0 z rfl;refine⟨h0.1,by simpa using h0.2,DssAt.of fun i e he=>?_⟩;have:=h (i+1) e (by simpa using he)
  rwa [show off+(i+1)*sz=off+sz+i*sz by rw[succ_mul];omega]at this
theorem DsRep.length {M:Mem}:∀{xs:List D} {ys:List Value},DsRep M xs ys→ys.length=xs.length
 |[],[],_=>rfl
 |x::xs,y::ys,h=>by
  simp only[DsRep]at h;simp[DsRep.length h.2.2]
 |[],_::_,h=>by simp only[DsRep]at h
 |_::_,[],h=>by simp only[DsRep]at h
theorem DsRep.ls {M:Mem}{ρ:Nat→Loc}{al:Al}(hM:al.M=M):∀{xs:List D} {ys:List Value},DsRep M xs ys→LsRep ρ al (bp xs) ys
 |[],[],_=>trivial
 |x::xs,y::ys,h=>by
  simp only[DsRep]at h;exact⟨h.1,nr.2 (hM▸h.2.1),DsRep.ls hM h.2.2⟩
 |[],_::_,h=>by simp only[DsRep]at h
 |_::_,[],h=>by simp only[DsRep]at h
theorem WRep.lasting {B:cX}{w0:World}{ρ:Nat→Loc}{al:Al}{h:ag}{w:World}(H:WRep B w0 ρ al h w){blk off n:Nat}{xs:List D}(hx:DsAt al.M blk off xs)(hn:n≤xs.length) :
  ∃ys:List Value,ys.length=n∧LsRep ρ al (bp (xs.take n)) ys∧∀(m:Nat) (y:Value),ys[m]? = some y→w.cell? ⟨blk,off+m,none⟩=some y:=by
 have key:∀(m:Nat) (z:D),(xs.take n)[m]? = some z→((w.cell? ⟨blk,off+m,none⟩).getD undef).oneCell'=true∧DRep al.M z ((w.cell? ⟨blk,off+m,none⟩).getD undef)∧w.cell? ⟨blk,off+m,none⟩=some ((w.cell? ⟨blk,off+m,none⟩).getD undef):=by
  intro m z hz;rw[getElem?_take]at hz;split at hz
  ·obtain⟨y,h1,h2,h3⟩:=hx.get m z hz;rw[H.mem _ _ _ h1];exact⟨h2,h3,rfl⟩
  ·cases hz
 refine⟨(List.range (bp (xs.take n)).length).map fun m=>(w.cell? ⟨blk,off+m,none⟩).getD undef,by simp[bp];omega,LsRep.of_get fun j x hx=>?_,?_⟩
 ·simp only[bp,getElem?_map,Option.map_eq_some_iff]at hx;obtain⟨z,hz,rfl⟩:=hx;exact⟨(key j z hz).1,nr.2 (key j z hz).2.1⟩
 ·intro m y hy;have hm:m<(xs.take n).length:=by have:=(List.getElem?_eq_some_iff.1 hy).1;simpa[bp] using this
  rw[getElem?_map,List.getElem?_range (by simpa[bp] using hm),map_some]at hy;injection hy with hy;rw[(key m _ (getElem?_eq_getElem hm)).2.2,hy]
def D.one:D→Bool
 |.v x=>x.oneCell'
 |_=>true
def LV.one:LV→Bool
 |.v x=>x.oneCell'
 |.d x=>x.one
 |.sl ..=>true
 |.p ..=>true
 |.bf ..=>true
 |.any=>false
def LV.toD0:LV→Option D
 |.v x=>some (.v x)
 |.d x=>some x
 |_=>none
def lJ:List LV→Option (List D)
 |[]=>some []
 |x::r=>match x.toD0,lJ r with
  |some d,some l=>some (d::l)
  |_,_=>none
theorem LV.toD0_rep {ρ:Nat→Loc}{al:Al}{x:LV}{d:D}{y:Value}(h:x.toD0=some d)(hr:LRep ρ al x y):DRep al.M d y:=by
 cases x<;>simp only[LV.toD0,Option.some.injEq,reduceCtorEq]at h
 ·subst h;simp only[DRep];exact hr
 ·subst h;exact hr
theorem fy {ρ:Nat→Loc}{al:Al}:∀{xs:List LV} {ds:List D} {ys:List Value},lJ xs=some ds→LsRep ρ al xs ys→DsRep al.M ds ys
 |[],ds,[],h,_=>by simp only[lJ,Option.some.injEq]at h;subst h;simp only[DsRep]
 |x::xs,ds,y::ys,h,⟨a,b,c⟩=>by
  simp only[lJ]at h;split at h
  case h_2=>cases h
  rename_i d l h1 h2;injection h with h;subst h;simp only[DsRep];exact⟨a,LV.toD0_rep h1 b,fy h2 c⟩
def En:List LV→Option (List Nat)
 |[]=>some []
 |.p b 0 0::r=>match En r with
  |some l=>some (b::l)
  |none=>none
 |_=>none
theorem wp {ρ:Nat→Loc}{al:Al}:∀{xs:List LV} {bs:List Nat} {ys:List Value},En xs=some bs→LsRep ρ al xs ys→(∀b∈bs,al b)∧ys=bs.map (pAt ρ)
 |[],bs,[],h,_=>by simp only[En,Option.some.injEq]at h;subst h;exact⟨by simp,rfl⟩
 |x::xs,bs,y::ys,h,⟨a,b,c⟩=>by
  unfold En at h;split at h
  ·rename_i e;cases e
  ·rename_i b' r e;injection e with e1 e2;subst e1;subst e2;split at h
   case h_2=>cases h
   rename_i l hl;injection h with h;subst h;obtain⟨g1,g2⟩:=wp hl c;obtain⟨b1,b2⟩:=b;refine⟨fun q hq=>?_,?_⟩
   ·rcases List.mem_cons.1 hq with rfl | hq
    ·exact b1
    ·exact g1 q hq
   ·rw[b2,g2];simp[pAt]
  ·cases h
def cellsOf:AV→Option (List LV)
 |.s (.l x)=>if x.one then some [x] else none
 |.s (.agg xs)=>some xs
 |.tup _=>none
 |.fn g first cap=>match lJ first,lJ cap with
  |some f,some c=>some [.d (.fn g f c)]
  |_,_=>match En first,En cap with
   |some bs,some cs=>some [.bf g bs cs]
   |_,_=>none
section
variable {P:Program}{ρ:Nat→Loc}{al:Al}
theorem eM {t:TypeId}{n:Nat}(h:cD P t=some n)(w:World):(sizeOf t).run P w=.ok n w:=by
 unfold cD at h;cases hi:P.info? t with
 |none=>simp[hi]at h
 |some i=>simp[hi]at h;simp[sizeOf,typeInfo,hi,h]
theorem pO {t:TypeId}{n:Nat}(h:cD P t=some n):(P.info? t).map (·.size)=some n:=h
theorem Gw {y:Value}(h:y.oneCell'=true):y.cells = #[y]:=by
 cases y<;>first | rfl | cases h
theorem LRep.one {x:LV}{y:Value}(h:LRep ρ al x y)(h1:x.one=true):y.oneCell'=true:=by
 cases x with
 |v x=>rw[h];exact h1
 |d x =>
  cases x with
  |v x=>simp only[LRep,DRep]at h;rw[h];exact h1
  |sd _ _=>simp only[LRep,DRep]at h;obtain⟨A,cap,e,_⟩:=h;rw[e];rfl
  |pd _=>simp only[LRep,DRep]at h;obtain⟨_,_,e,_⟩:=h;rw[e];rfl
  |fn _ _ _=>simp only[LRep,DRep]at h;obtain⟨_,_,e,_⟩:=h;rw[e];rfl
  |ifc _ _=>simp only[LRep,DRep]at h;obtain⟨_,e,_⟩:=h;rw[e];rfl
 |any=>cases h1
 |p b i j=>obtain⟨_,e⟩:=h;rw[e];rfl
 |bf g bs cs=>obtain⟨_,_,e⟩:=h;rw[e];rfl
 |sl b i n=>obtain⟨_,A,e,_⟩:=h;rw[e];rfl
theorem oo {x:AV}{xs:List LV}{y:Value}(h:ARep ρ al x y)(hx:cellsOf x=some xs):LsRep ρ al xs y.cells.toList:=by
 cases x with
 |tup _=>cases hx
 |fn g f c =>
  simp only[cellsOf]at hx;obtain⟨fs,cs,rfl,g1,g2⟩:=h;split at hx
  ·rename_i fd cd h1 h2;injection hx with hx;subst hx;refine⟨rfl,?_,trivial⟩;simp only[LRep,DRep];exact⟨fs,cs,rfl,fy h1 g1,fy h2 g2⟩
  ·split at hx
   case h_2=>cases hx
   rename_i fb cb h1 h2;injection hx with hx;subst hx;obtain⟨k1,rfl⟩:=wp h1 g1;obtain⟨k2,rfl⟩:=wp h2 g2;exact⟨rfl,⟨k1,k2,rfl⟩,trivial⟩
 |s x =>
  cases x with
  |l x =>
   simp only[cellsOf]at hx;split at hx
   ·rename_i h1;injection hx with hx;subst hx;have:=LRep.one h h1;rw[Gw this];exact⟨this,h,trivial⟩
   ·cases hx
  |agg zs =>
   simp only[cellsOf,Option.some.injEq]at hx;subst hx;obtain⟨cs,rfl,h⟩:=h;simpa[Value.cells] using h
end
section
variable {P:Program}{B:cX}{w0:World}{ρ:Nat→Loc}{al:Al}{h:ag}{w:World}
def qR (P:Program)(t:TypeId)(x:AV)(h:ag):Option Res :=
 match x with
 |.s (.l (.p b i j))=>match ac h b with
  |some k=>match k.els[i]?,cD P t,bA P t with
   |some e,some n,some true=>if j+n≤k.sz then some ⟨True,.s (.agg ((e.drop j).take n)),[]⟩ else none
   |some e,some _,some false=>match e[j]? with
    |some y=>some ⟨True,.s (.l y),[]⟩
    |none=>none
   |_,_,_=>none
  |none=>none
 |.s (.l (.d (.pd xs)))=>match cD P t,bA P t with
  |some n,some true=>if n≤xs.length then some ⟨True,.s (.agg (bp (xs.take n))),[]⟩ else none
  |some _,some false=>match xs[0]? with
   |some y=>some ⟨True,.s (.l (ofD y)),[]⟩
   |none=>none
  |_,_=>none
 |_=>none
theorem LR {t:TypeId}(hr:bA P t=some true):∃d,P.underlying t=some d∧d.isRow=true:=by
 unfold bA at hr;cases hu:P.underlying t with
 |none=>simp[hu]at hr
 |some d=>exact⟨d,rfl,by simpa[hu] using hr⟩
theorem IC {t:TypeId}(hr:bA P t=some false)(w:World):(isAgg t).run P w=.ok false w:=by
 unfold bA at hr;cases hu:P.underlying t with
 |none=>simp[hu]at hr
 |some d =>
  unfold isAgg;rw[Sem.run_bind,run_underlying hu w];simp only[hu,map_some,Option.some.injEq]at hr;cases d<;>simp_all [TypeDesc.isRow]
theorem tu (H:WRep B w0 ρ al h w){t:TypeId}{x:AV}{u:Value}(hx:ARep ρ al x u){R:Res}(hs:qR P t x h=some R) :
  ∃v,(Instr.loadAt t u).run P w=.ok v w∧ARep ρ al R.r v∧R.E=[]:=by
 unfold qR at hs;split at hs
 case h_3=>cases hs
 case h_2 =>
  rename_i xs;simp only[ARep,SRep,LRep,DRep]at hx;obtain⟨blk,off,rfl,hat⟩:=hx;split at hs
  ·rename_i n hn hr;split at hs
   case isFalse=>cases hs
   rename_i hle;injection hs with hs;subst hs;obtain⟨ys,h1,h2,h3⟩:=H.lasting hat hle;obtain⟨d,hd,hd2⟩:=LR hr;exact⟨_,run_loadAt_mid w blk off t ys d h3 hd hd2 (by rw[pO hn,h1]),⟨_,rfl,h2⟩,rfl⟩
  ·rename_i n hn hr;split at hs
   case h_2=>cases hs
   rename_i y hy;injection hs with hs;subst hs;obtain⟨v,h1,h2,h3⟩:=hat.get 0 y hy;have h4:=H.mem _ _ _ h1;refine⟨v,?_,nr.2 h3,rfl⟩;simp only[Nat.add_zero]at h4;simp[Instr.loadAt,Instr.sureAddr,loadVar,IC hr,h4]
  ·cases hs
 rename_i b i j;split at hs
 case h_2=>cases hs
 rename_i k hk;have Hb:=H.blk b k hk;obtain⟨-,rfl⟩:=hx;split at hs
 ·rename_i e n he hn hr;split at hs
  ·rename_i hj;injection hs with hs;subst hs;have hel:e.length=k.sz:=Hb.len e (mem_of_getElem? he)
   have key:∀(m:Nat) (z:LV),((e.drop j).take n)[m]? = some z→((w.cell? ⟨(ρ b).blk,(ρ b).off+i*(ρ b).sz+j+m,none⟩).getD undef).oneCell'=true∧LRep ρ al z ((w.cell? ⟨(ρ b).blk,(ρ b).off+i*(ρ b).sz+j+m,none⟩).getD undef)∧w.cell? ⟨(ρ b).blk,(ρ b).off+i*(ρ b).sz+j+m,none⟩=some ((w.cell? ⟨(ρ b).blk,(ρ b).off+i*(ρ b).sz+j+m,none⟩).getD undef):=by
    intro m z hz;rw[getElem?_take]at hz;split at hz
    ·rw[List.getElem?_drop]at hz;obtain⟨y,h1,h2,h3⟩:=Hb.cells i (j+m) z (aD.2 ⟨e,he,hz⟩);rw[Nat.add_assoc _ j m,h1];exact⟨h2,h3,rfl⟩
    ·cases hz
   have hrep:=LsRep.of_get (ρ:=ρ) (al:=al) (xs:=(e.drop j).take n) (f:=fun m=>(w.cell? ⟨(ρ b).blk,(ρ b).off+i*(ρ b).sz+j+m,none⟩).getD undef) fun m z hz=>⟨(key m z hz).1,(key m z hz).2.1⟩;have hl:((e.drop j).take n).length=n:=by simp;omega
   rw[hl]at hrep
   obtain⟨d,hd,hd2⟩:∃d,P.underlying t=some d∧d.isRow=true:=by
    unfold bA at hr;cases hu:P.underlying t with
    |none=>simp[hu]at hr
    |some d=>exact⟨d,rfl,by simpa[hu] using hr⟩
   refine⟨_,run_loadAt_mid w (ρ b).blk ((ρ b).off+i*(ρ b).sz+j) t ((List.range n).map fun m=>(w.cell? ⟨(ρ b).blk,(ρ b).off+i*(ρ b).sz+j+m,none⟩).getD undef) d ?_ hd hd2 (by rw[pO hn];simp),⟨_,rfl,hrep⟩,rfl⟩;intro m v hv;have hm:m<n:=by have:=(List.getElem?_eq_some_iff.1 hv).1;simpa using this
   rw[getElem?_map,List.getElem?_range hm,map_some]at hv;injection hv with hv;obtain⟨z,hz⟩:∃z,((e.drop j).take n)[m]? = some z:=⟨_,getElem?_eq_getElem (by omega)⟩;rw[(key m z hz).2.2,hv]
  ·cases hs
 ·rename_i e n he hn hr;split at hs
  ·rename_i y hy;injection hs with hs;subst hs;obtain⟨v,h1,h2,h3⟩:=Hb.cells i j y (aD.2 ⟨e,he,hy⟩);refine⟨v,?_,h3,rfl⟩
   have hagg:(isAgg t).run P w=.ok false w:=by
    unfold bA at hr;cases hu:P.underlying t with
    |none=>simp[hu]at hr
    |some d =>
     unfold isAgg;rw[Sem.run_bind,run_underlying hu w];simp only[hu,map_some,Option.some.injEq]at hr;cases d<;>simp_all [TypeDesc.isRow]
   simp[Instr.loadAt,Instr.sureAddr,loadVar,hagg,h1]
  ·cases hs
 ·cases hs
def qe (P:Program)(t:TypeId)(x y:AV)(h:ag):Option Res :=
 match x with
 |.s (.l (.p b i j))=>match ac h b with
  |some k=>match k.els[i]?,cD P t,cellsOf y with
   |some e,some n,some xs=>if k.own=true∧xs.length=n∧j+n≤k.sz then some ⟨True,.s (.l .any),[(b,some { k with els:=k.els.set i (li e j xs) })]⟩ else none
   |_,_,_=>none
  |none=>none
 |_=>none
theorem y6 (H:WRep B w0 ρ al h w){t:TypeId}{x y:AV}{u v:Value}(hx:ARep ρ al x u)(hy:ARep ρ al y v){R:Res}(hs:qe P t x y h=some R) :
  ∃w',(Instr.storeAt t u v).run P w=.ok () w'∧R.r=.s (.l .any)∧WRep B w0 ρ al (R.E++h) w':=by
 unfold qe at hs;split at hs
 case h_2=>cases hs
 rename_i b i j;split at hs
 case h_2=>cases hs
 rename_i k hk;have Hb:=H.blk b k hk;obtain⟨-,rfl⟩:=hx;split at hs
 case h_2=>cases hs
 rename_i e n xs he hn hxs;split at hs
 case isFalse=>cases hs
 rename_i hc;obtain⟨ho,hl,hj⟩:=hc;injection hs with hs;subst hs;have hrep:=oo hy hxs;have hyl:=hrep.length;have ht:=H.there hk ho he (n:=v.cells.toList.length) (by rw[hyl,hl];exact hj);have hw:=H.store hk ho he hrep (by rw[hl];exact hj);refine⟨_,?_,rfl,hw⟩;have:=run_storeCells_cells (P:=P) (ρ b).blk ((ρ b).off+i*(ρ b).sz+j) v.cells.toList 0 w (fun m hm=>by simpa using(ht m hm).1) (fun m hm=>by simpa using(ht m hm).2) hrep.one;simp only[Nat.add_zero]at this;have hsz:v.cells.size=n:=by rw[←hl,←hyl];simp
 simp[Instr.storeAt,Instr.sureAddr,storeVar,eM hn,hsz,this]
def PY (t:TypeId)(id:Nat)(xs:List LV):Res:=⟨True,.s (.l (.p id 0 0)),[(id,some ⟨true,t,xs.length,[xs]⟩)]⟩
theorem qk {xs:List LV}{i j:Nat}{x:LV}(h:cellAt [xs] i j=some x):i=0∧xs[j]? = some x:=by
 obtain⟨e,h1,h2⟩:=aD.1 h;cases i with
 |zero=>simp at h1;subst h1;exact⟨rfl,h2⟩
 |succ i=>simp at h1
theorem rJ (H:WRep B w0 ρ al h w){id:Nat}(hid:¬al id)(t:TypeId){v:Value}{xs:List LV}(hv:LsRep ρ al xs v.cells.toList) :
  ∃a w' ρ',(newVar t v).run P w=.ok a w'∧Ext ρ ρ' al (al1 al id)∧ARep ρ' (al1 al id) (.s (.l (.p id 0 0))) (.pointer (some a))∧WRep B w0 ρ' (al1 al id) ((id,some ⟨true,t,xs.length,[xs]⟩)::h) w':=by
 have hl:=hv.length
 obtain⟨ρ',E,e,H'⟩:=H.alloc hid t xs.length 1 [xs] v.cells (by rw[Nat.one_mul,←hl];simp) (by unfold maxLen;omega) (by simp) ⟨by simp,fun i j x hx=>by
  obtain⟨rfl,hx⟩:=qk hx;simpa using hv.get j x hx⟩
 refine⟨_,_,ρ',rfl,E,⟨.inr rfl,?_⟩,H'⟩;rw[e];simp
def sj (P:Program)(t:TypeId)(x:AV)(f:Nat):Option Res :=
 match x,bE P t f with
 |.s (.l (.p b i j)),some o=>some ⟨True,.s (.l (.p b i (j+o))),[]⟩
 |.s (.l (.d (.pd xs))),some o=>some ⟨True,.s (.l (.d (.pd (xs.drop o)))),[]⟩
 |_,_=>none
theorem px (a:Addr)(h:a.spot=none)(n:Nat):a.add n=⟨a.block,a.off+n,none⟩:=by
 unfold Addr.add;obtain⟨b,o,s⟩:=a;simp only at h;subst h;split<;>simp_all
theorem qN {t:TypeId}{x:AV}{u:Value}(hx:ARep ρ al x u){f:Nat}{R:Res}(hs:sj P t x f=some R)(w:World) :
  ∃v,(Instr.fieldAt t u f).run P w=.ok v w∧ARep ρ al R.r v∧R.E=[]:=by
 have key:∀{o:Nat},bE P t f=some o→∀a:Addr,a.spot=none→(Instr.fieldAt t (.pointer (some a)) f).run P w=.ok (.pointer (some ⟨a.block,a.off+o,none⟩)) w:=by
  intro o ho a ha;unfold bE at ho;split at ho
  case h_2=>cases ho
  rename_i fs hu;split at ho
  case h_2=>cases ho
  rename_i fld hf;split at ho
  case h_1=>cases ho
  case h_3=>cases ho
  rename_i m hne hm;injection ho with ho;subst ho;have hm0:m≠0:=fun h0=>hne h0;simp[Instr.fieldAt,run_underlying hu,hf,Instr.sureAddr,fieldPlace,eM hm,hm0,px _ ha]
 unfold sj at hs;split at hs
 ·rename_i b i j o ho;injection hs with hs;subst hs;obtain⟨ha,rfl⟩:=hx;refine⟨_,key ho _ rfl,⟨ha,?_⟩,rfl⟩;simp[Nat.add_assoc]
 ·rename_i xs o ho;injection hs with hs;subst hs;simp only[ARep,SRep,LRep,DRep]at hx;obtain⟨blk,off,rfl,hat⟩:=hx;refine⟨_,key ho _ rfl,?_,rfl⟩;simp only[ARep,SRep,LRep,DRep];exact⟨_,_,rfl,hat.drop o⟩
 ·cases hs
def qQ (P:Program)(t:TypeId)(x ix:AV):Option Res :=
 match x,ix with
 |.s (.l (.sl b i n)),.s (.l (.v (.int _ z)))=>match fM P t with
  |some e=>match cD P e with
   |some _=>some ⟨0≤z∧z<n,.s (.l (.p b (i+z.toNat) 0)),[]⟩
   |none=>none
  |none=>none
 |.s (.l (.p b i j)),.s (.l (.v (.int _ z)))=>match uN P t with
  |some (n,s)=>some ⟨0≤z∧z<n,.s (.l (.p b i (j+z.toNat*s))),[]⟩
  |none=>none
 |.s (.l (.d (.pd xs))),.s (.l (.v (.int _ z)))=>match uN P t with
  |some (n,s)=>some ⟨0≤z∧z<n,.s (.l (.d (.pd (xs.drop (z.toNat*s))))),[]⟩
  |none=>none
 |.s (.l (.d (.sd sz els))),.s (.l (.v (.int _ z)))=>match fM P t with
  |some e=>if cD P e=some sz then match els[z.toNat]? with
   |some el=>some ⟨0≤z,.s (.l (.d (.pd el))),[]⟩
   |none=>none
   else none
  |none=>none
 |_,_=>none
def qo (P:Program)(t:TypeId)(x:AV)(h:ag):Bool :=
 match x with
 |.s (.l (.sl b _ _))=>match ac h b,fM P t with
  |some k,some e=>cD P e==some k.sz
  |_,_=>false
 |_=>true
theorem uJ (H:WRep B w0 ρ al h w){t:TypeId}{x ix:AV}{u v:Value}(hx:ARep ρ al x u)(hix:ARep ρ al ix v){R:Res}(hs:qQ P t x ix=some R)(hf:qo P t x h=true)(hob:R.ob) :
  ∃y,(Instr.indexAt t u v).run P w=.ok y w∧ARep ρ al R.r y∧R.E=[]:=by
 have key:∀{n s:Nat} {kk:IntKind} {z:Int},uN P t=some (n,s)→0≤z→z<n→∀a:Addr,a.spot=none→(Instr.indexAt t (.pointer (some a)) (.int kk z)).run P w=.ok (.pointer (some ⟨a.block,a.off+z.toNat*s,none⟩)) w:=by
  intro n s kk z harr h0 h1 a ha;unfold uN at harr;split at harr
  case h_2=>cases harr
  rename_i n' e hu;split at harr
  case h_2=>cases harr
  rename_i s' hsz;split at harr
  case isFalse=>cases harr
  rename_i h2;injection harr with harr;injection harr with e1 e2;subst e1;subst e2;simp[Instr.indexAt,run_underlying hu,asIntOf,Instr.sureAddr,h0,h1,eM hsz,px _ ha]
 unfold qQ at hs;split at hs
 ·rename_i b i n kk z;split at hs
  case h_2=>cases hs
  rename_i e he;split at hs
  case h_2=>cases hs
  rename_i s hsz;injection hs with hs;subst hs;obtain⟨h0,h1⟩:=hob;obtain⟨ha,A,rfl,hcap,hA⟩:=hx;have:v=.int kk z:=hix;subst this;simp only[qo]at hf;split at hf
  case h_2=>cases hf
  rename_i k e' hk he';rw[he]at he';injection he' with he';subst he';rw[hsz]at hf;have hs2:s=k.sz:=by simpa using hf
  subst hs2
  have hu:P.underlying t=some (.slice e):=by
   unfold fM at he;split at he
   ·rename_i e2 hu;injection he with he;rw[hu,he]
   ·cases he
  have hsz':=(H.blk b k hk).sz;refine⟨_,?_,⟨ha,rfl⟩,rfl⟩;have hA':=hA (by omega);simp[Instr.indexAt,run_underlying hu,asIntOf,hA',h0,h1,eM hsz,px,hsz',add_mul,Nat.add_assoc]
 ·rename_i b i j kk z;split at hs
  case h_2=>cases hs
  rename_i n s harr;injection hs with hs;subst hs;obtain⟨h0,h1⟩:=hob;obtain⟨ha,rfl⟩:=hx;have:v=.int kk z:=hix;subst this;refine⟨_,key harr h0 h1 _ rfl,⟨ha,?_⟩,rfl⟩;simp[Nat.add_assoc]
 ·rename_i xs kk z;split at hs
  case h_2=>cases hs
  rename_i n s harr;injection hs with hs;subst hs;obtain⟨h0,h1⟩:=hob;simp only[ARep,SRep,LRep,DRep]at hx;obtain⟨blk,off,rfl,hat⟩:=hx;have:v=.int kk z:=hix;subst this;refine⟨_,key harr h0 h1 _ rfl,?_,rfl⟩;simp only[ARep,SRep,LRep,DRep];exact⟨_,_,rfl,hat.drop _⟩
 ·rename_i sz els kk z;split at hs
  case h_2=>cases hs
  rename_i e he;split at hs
  case isFalse=>cases hs
  rename_i hsz;split at hs
  case h_2=>cases hs
  rename_i el hel;injection hs with hs;subst hs;simp only at hob;simp only[ARep,SRep,LRep,DRep]at hx;obtain⟨A,cap,rfl,hcap,hA⟩:=hx;have:v=.int kk z:=hix;subst this;have hlt:z.toNat<els.length:=(List.getElem?_eq_some_iff.1 hel).1;obtain⟨blk,off,rfl,hat⟩:=hA (by intro h0;rw[h0]at hlt;simp at hlt)
  have hu:P.underlying t=some (.slice e):=by
   unfold fM at he;split at he
   ·rename_i e2 hu;injection he with he;rw[hu,he]
   ·cases he
  have h1:z<els.length:=by omega
  refine⟨.pointer (some ⟨blk,off+z.toNat*sz,none⟩),?_,?_,rfl⟩
  ·simp[Instr.indexAt,run_underlying hu,asIntOf,hob,h1,eM hsz,px]
  ·simp only[ARep,SRep,LRep,DRep];exact⟨_,_,rfl,(hat.get _ _ hel).2⟩
 ·cases hs
end
section
variable {P:Program}{B:cX}{w0:World}{ρ:Nat→Loc}{al:Al}{h:ag}{w:World}
def tI (place:Nat→Option (Nat×Nat)):List LV→List (Nat×AV)→Option (List LV)
 |acc,[]=>some acc
 |acc,(i,x)::r=>match place i,cellsOf x with
  |some (o,s),some xs=>if xs.length=s∧o+s≤acc.length then tI place (li acc o xs) r else none
  |_,_=>none
theorem LsRep.mk:∀{xs:List LV} {ys:List Value},ys.length=xs.length→(∀(j:Nat) (x:LV),xs[j]? = some x→∃y,ys[j]? = some y∧y.oneCell'=true∧LRep ρ al x y)→LsRep ρ al xs ys
 |[],[],_,_=>trivial
 |x::xs,y::ys,hl,hk=>by
  obtain⟨y',h1,h2,h3⟩:=hk 0 x rfl;simp at h1;subst h1;exact⟨h2,h3,LsRep.mk (by simpa using hl) fun j z hz=>by simpa using hk (j+1) z (by simpa using hz)⟩
theorem xV:∀(vs:List Value) (cs:Array Value) (o k:Nat),
  ((vs.zipIdx k).foldl (fun(cs:Array Value) (x:Value×Nat)=>cs.setIfInBounds (o+x.2) x.1) cs).size=cs.size ∧
  ∀m:Nat,((vs.zipIdx k).foldl (fun(cs:Array Value) (x:Value×Nat)=>cs.setIfInBounds (o+x.2) x.1) cs)[m]? = if o+k≤m∧m<o+k+vs.length∧m<cs.size then vs[m-(o+k)]? else cs[m]?
 |[],cs,o,k=>⟨rfl,fun m=>by rw[if_neg (by simp;omega)];rfl⟩
 |v::vs,cs,o,k=>by
  obtain⟨h1,h2⟩:=xV vs (cs.setIfInBounds (o+k) v) o (k+1);rw[List.zipIdx_cons,List.foldl_cons];refine⟨h1.trans (by simp),fun m=>?_⟩;rw[h2 m];simp only[Array.size_setIfInBounds,List.length_cons];by_cases ha:o+(k+1)≤m∧m<o+(k+1)+vs.length∧m<cs.size
  ·rw[if_pos ha,if_pos (by omega),show m-(o+k)=m-(o+(k+1))+1 by omega,List.getElem?_cons_succ]
  ·rw[if_neg ha,Array.getElem?_setIfInBounds];by_cases hb:o+k=m
   ·subst hb;rw[if_pos rfl];by_cases hc:o+k<cs.size
    ·rw[if_pos hc,if_pos (by omega)];simp
    ·rw[if_neg hc,if_neg (by omega),Array.getElem?_eq_none (by omega)]
   ·rw[if_neg hb,if_neg (by omega)]
theorem ly {place:Nat→Option (Nat×Nat)}{evr:Operand→Value}{ev:Operand→AV}(hT:∀x,ARep ρ al (ev x) (evr x)) :
  ∀(ps:List (Nat×Operand)) (acc:List LV) (cells:Array Value) (out:List LV),LsRep ρ al acc cells.toList→tI place acc (ps.map fun(i,x)=>(i,ev x))=some out →
   ∃cells',Instr.fill place cells (ps.map fun(i,x)=>(i,evr x))=some cells'∧LsRep ρ al out cells'.toList∧cells'.size=cells.size
 |[],acc,cells,out,hr,hs=>by
  simp only[List.map_nil,tI,Option.some.injEq]at hs;subst hs;exact⟨cells,rfl,hr,rfl⟩
 |(i,x)::ps,acc,cells,out,hr,hs=>by
  simp only[map_cons,tI]at hs;split at hs
  case h_2=>cases hs
  rename_i o s xs hp hx;split at hs
  case isFalse=>cases hs
  rename_i hc;have hv:=oo (hT x) hx;have hvl:=hv.length;have hal:=hr.length;have hvs:(evr x).cells.size=s:=by rw[←hc.1,←hvl];simp
  have has:cells.size=acc.length:=by rw[←hal];simp
  obtain⟨f1,f2⟩:=xV (evr x).cells.toList cells o 0;generalize hcs:(((evr x).cells.toList.zipIdx 0).foldl (fun(cs:Array Value) (x:Value×Nat)=>cs.setIfInBounds (o+x.2) x.1) cells)=cells2 at f1 f2
  have hr2:LsRep ρ al (li acc o xs) cells2.toList:=by
   refine LsRep.mk (by rw[qb (by omega)];simp[f1,has]) fun j z hz=>?_;rw[wG (by omega)]at hz;rw[Array.getElem?_toList,f2 j];by_cases h1:j<o
   ·rw[if_pos h1]at hz;rw[if_neg (by omega)];simpa using hr.get j z hz
   ·rw[if_neg h1]at hz;by_cases h2:j<o+xs.length
    ·rw[if_pos h2]at hz;rw[if_pos ⟨by omega,by omega,by omega⟩];simpa using hv.get (j-o) z hz
    ·rw[if_neg h2]at hz;rw[if_neg (by omega)];simpa using hr.get j z hz
  obtain⟨cells',g1,g2,g3⟩:=ly hT ps (li acc o xs) cells2 out hr2 hs;refine⟨cells',?_,g2,g3.trans f1⟩;rw[map_cons,Instr.fill,hp];simp only;have e2:(evr x).cells.zipIdx.foldl (fun(cs:Array Value) (x:Value×Nat)=>cs.setIfInBounds (o+x.2) x.1) cells=cells2:=by rw[←hcs,←Array.foldl_toList,Array.toList_zipIdx]
  rw[if_neg (by simp;omega)];rw[←e2]at g1;exact g1
def bU (P:Program)(t:TypeId):Option (List (Nat×Nat)) :=
 match P.underlying t with
 |some (.struct fields)=>fields.toList.mapM (fun f=>(P.info? f.type).map fun i=>(f.offset,i.size))
 |_=>none
def At (P:Program)(t:TypeId):Option Nat :=
 match P.underlying t with
 |some (.array _ e)=>cD P e
 |_=>none
def uH (P:Program)(t:TypeId)(ps:List (Nat×AV)):Option Res :=
 match bU P t,bJ P t with
 |some pl,some zs=>match tI (fun i=>pl[i]?) (zs.map .v) ps with
  |some xs=>some ⟨True,.s (.agg xs),[]⟩
  |none=>none
 |none,some zs=>match At P t with
  |some s=>match tI (fun i=>some (i*s,s)) (zs.map .v) ps with
   |some xs=>some ⟨True,.s (.agg xs),[]⟩
   |none=>none
  |none=>none
 |_,_=>none
theorem qJ:∀{zs:List Value},(∀z∈zs,z.oneCell'=true)→LsRep ρ al (zs.map .v) zs
 |[],_=>trivial
 |z::zs,hz=>⟨hz z (by simp),rfl,qJ fun y hy=>hz y (by simp[hy])⟩
theorem io {t:TypeId}{zs:List Value}(hz:bJ P t=some zs):∃i z,P.info? t=some i∧i.zero=some z∧z.cells.toList=zs∧z.cells.size=i.size∧∀y∈zs,y.oneCell'=true:=by
 unfold bJ at hz;split at hz
 case h_2=>cases hz
 rename_i i hi;split at hz
 case h_2=>cases hz
 rename_i z hzz;split at hz
 case isFalse=>cases hz
 rename_i hc;injection hz with hz;subst hz;simp only[Bool.and_eq_true,decide_eq_true_eq,List.all_eq_true]at hc;exact⟨i,z,hi,hzz,rfl,hc.1,hc.2⟩
theorem yV {evr:Operand→Value}{ev:Operand→AV}(hT:∀x,ARep ρ al (ev x) (evr x)){t:TypeId}{ps:Array (Nat×Operand)}{R:Res}(hs:uH P t (ps.toList.map fun(i,x)=>(i,ev x))=some R)(w:World) :
  ∃v,(Instr.build t (ps.map fun(i,x)=>(i,evr x))).run P w=.ok v w∧ARep ρ al R.r v∧R.E=[]:=by
 unfold uH at hs;split at hs
 ·rename_i pl zs hpl hzs;split at hs
  case h_2=>cases hs
  rename_i xs hf;injection hs with hs;subst hs;obtain⟨i,z,hi,hz,hzl,hsz,hone⟩:=io hzs;obtain⟨cells',g1,g2,g3⟩:=ly hT ps.toList (zs.map .v) z.cells xs (by rw[hzl];exact qJ hone) hf;unfold bU at hpl;split at hpl
  case h_2=>cases hpl
  rename_i fields hu;refine⟨_,run_build w t _ cells' ?_,⟨cells'.toList,by simp,g2⟩,rfl⟩;simp only[Program.built,hi,hu,hz,hpl];rw[←g1];simp
 ·rename_i zs hpl hzs;split at hs
  case h_2=>cases hs
  rename_i s hs';split at hs
  case h_2=>cases hs
  rename_i xs hf;injection hs with hs;subst hs;obtain⟨i,z,hi,hz,hzl,hsz,hone⟩:=io hzs;obtain⟨cells',g1,g2,g3⟩:=ly (place:=fun i=>some (i*s,s)) hT ps.toList (zs.map .v) z.cells xs (by rw[hzl];exact qJ hone) hf;unfold At at hs';split at hs'
  case h_2=>cases hs'
  rename_i m e hu;unfold cD at hs';cases he:P.info? e with
  |none=>simp[he]at hs'
  |some ie =>
   simp[he]at hs';refine⟨_,run_build w t _ cells' ?_,⟨cells'.toList,by simp,g2⟩,rfl⟩;simp only[Program.built,hi,hu,hz,he,hs'];rw[←g1];simp
 ·cases hs
def gU (sz:Nat):Nat→List LV→List (List LV)
 |0,_=>[]
 |n+1,l=>l.take sz::gU sz n (l.drop sz)
theorem jz (sz:Nat):∀(n:Nat) (l:List LV),(gU sz n l).length=n
 |0,_=>rfl
 |n+1,l=>by simp[gU,jz sz n]
theorem tD {sz:Nat}:∀{n:Nat} {l:List LV} {i j:Nat} {x:LV},l.length=n*sz→cellAt (gU sz n l) i j=some x→j<sz∧l[i*sz+j]? = some x
 |0,_,i,j,x,_,h=>by simp[gU,cellAt]at h
 |n+1,l,0,j,x,hl,h=>by
  simp only[gU,cellAt,List.getElem?_cons_zero,Option.bind_some]at h;rw[getElem?_take]at h;split at h
  ·exact⟨by omega,by simpa using h⟩
  ·cases h
 |n+1,l,i+1,j,x,hl,h=>by
  have hl':(l.drop sz).length=n*sz:=by rw[List.length_drop,hl,succ_mul];omega
  obtain⟨h1,h2⟩:=tD (i:=i) hl' (by simpa[gU,cellAt] using h);refine⟨h1,?_⟩;rw[List.getElem?_drop]at h2;rw[←h2,succ_mul];congr 1;omega
theorem ql {sz:Nat}:∀{n:Nat} {l:List LV},l.length=n*sz→∀e∈gU sz n l,e.length=sz
 |0,_,_,e,he=>by simp[gU]at he
 |n+1,l,hl,e,he=>by
  rw[succ_mul]at hl;rcases List.mem_cons.1 (by simpa[gU] using he:e∈l.take sz::gU sz n (l.drop sz)) with rfl | he
  ·simp;omega
  ·exact ql (by rw[List.length_drop];omega) e he
def LM:Nat→List Value→List Value
 |0,_=>[]
 |n+1,zs=>LM n zs++zs
theorem FN (zs:List Value):∀n,LM n zs=(List.range n).flatMap fun _=>zs
 |0=>rfl
 |n+1=>by rw[LM,FN zs n,List.range_succ,List.flatMap_append];simp
def lr (P:Program)(t:TypeId)(n:Nat)(ps:List (Nat×AV))(id:Nat):Option Res :=
 match fM P t with
 |some e=>match cD P e,bJ P e with
  |some s,some zs=>match tI (fun i=>some (i*s,s)) ((LM n zs).map .v) ps with
   |some xs=>if(0<n∨ps=[])∧0<s∧n*s≤16777216 then some ⟨True,.s (.l (.sl id 0 n)),[(id,some ⟨true,e,s,gU s n xs⟩)]⟩ else none
   |none=>none
  |_,_=>none
 |none=>none
theorem LO {zs:List Value}{s:Nat}(hs:zs.length=s)(hp:0<s):∀n,((List.range (n*s)).map fun i=>zs.toArray[i % s]!)=(List.range n).flatMap fun _=>zs
 |0=>by simp
 |n+1=>by
  rw[succ_mul,List.range_add,List.map_append,LO hs hp n,List.range_succ,List.flatMap_append,List.map_map];congr 1;simp only[List.flatMap_cons,List.flatMap_nil,List.append_nil];refine List.ext_getElem (by simp[hs]) fun m h1 h2=>?_;simp only[List.getElem_map,List.getElem_range,Function.comp];rw[Nat.add_comm,Nat.add_mul_mod_self_right,Nat.mod_eq_of_lt (by rw[←hs];exact h2)];simp[h2]
theorem qM (H:WRep B w0 ρ al h w){evr:Operand→Value}{ev:Operand→AV}(hT:∀x,ARep ρ al (ev x) (evr x)){t:TypeId}{n:Nat}{ps:Array (Nat×Operand)}{id:Nat}(hid:¬al id){R:Res}(hs:lr P t n (ps.toList.map fun(i,x)=>(i,ev x)) id=some R) :
  ∃v w' ρ',(Instr.buildSlice t n (ps.map fun(i,x)=>(i,evr x))).run P w=.ok v w'∧Ext ρ ρ' al (al1 al id)∧ARep ρ' (al1 al id) R.r v∧WRep B w0 ρ' (al1 al id) (R.E++h) w':=by
 unfold lr at hs;split at hs
 case h_2=>cases hs
 rename_i e he;split at hs
 case h_2=>cases hs
 rename_i s zs hsz hzs;split at hs
 case h_2=>cases hs
 rename_i xs hf;rw[FN]at hf;split at hs
 case isFalse=>cases hs
 rename_i hc;injection hs with hs;subst hs;obtain⟨hn,hs0,hbig⟩:=hc;obtain⟨i,z,hi,hz,hzl,hzs',hone⟩:=io hzs;have his:i.size=s:=by have:=pO hsz;rw[hi]at this;simpa using this
 have hzlen:zs.length=s:=by rw[←hzl,←his,←hzs'];simp
 have hu:P.underlying t=some (.slice e):=by
  unfold fM at he;split at he
  ·rename_i e2 hu;injection he with he;rw[hu,he]
  ·cases he
 have h0:((Array.range (n*i.size)).map (z.cells[· % z.cells.size]!)).toList=(List.range n).flatMap fun _=>zs:=by
  rw[←LO hzlen hs0 n,Array.toList_map,Array.toList_range,hzs',his,←hzl]
 obtain⟨cells',g1,g2,g3⟩:=ly (place:=fun i=>some (i*s,s)) hT ps.toList _ ((Array.range (n*i.size)).map (z.cells[· % z.cells.size]!)) xs (by rw[h0];exact qJ (by intro y hy;obtain⟨_,_,hy⟩:=List.mem_flatMap.1 hy;exact hone y hy)) hf;have hcs:cells'.size=n*s:=by rw[g3];simp[his]
 have hxl:xs.length=n*s:=by rw[←g2.length];simp[hcs]
 rcases Nat.eq_zero_or_pos n with hn0 | hn
 ·subst hn0
  have hps:ps = #[]:=by
   have:=hn.resolve_left (Nat.lt_irrefl 0);rw[List.map_eq_nil_iff]at this;exact Array.toList_inj.1 (by rw[this])
  subst hps
  obtain⟨ρ',E,e',H'⟩:=H.alloc hid e s 0 (gU s 0 xs) #[] (by simp) (Nat.zero_le _) (by rw[jz];exact Nat.le_refl _) ⟨ql hxl,fun i j x hx=>by
   obtain⟨e2,h1,_⟩:=aD.1 hx;have:=(List.getElem?_eq_some_iff.1 h1).1;rw[jz]at this;omega⟩
  refine⟨_,_,ρ',?_,E,⟨.inr rfl,some ⟨w.heap.size,0,none⟩,(by rw[e']),(by rw[e'];exact Nat.le_refl _),(fun h=>by rw[e']at h;exact absurd h (Nat.lt_irrefl _))⟩,H'⟩;simp[Instr.buildSlice,run_underlying hu,sizeOf,typeInfo,hi,newRow,Instr.fill,show Array.range 0 = #[] from rfl]
 obtain⟨ρ',E,e',H'⟩:=H.alloc hid e s n (gU s n xs) cells' hcs (by unfold maxLen;have:n≤n*s:=Nat.le_mul_of_pos_right _ hs0;omega) (by rw[jz];exact Nat.le_refl _) ⟨ql hxl,fun i j x hx=>by
  obtain⟨_,h2⟩:=tD hxl hx;exact g2.get _ x h2⟩
 refine⟨_,_,ρ',run_buildSlice w t e n _ cells' i z hu hi hz (by rw[his];omega) (by rw[his];have:0<n*s:=Nat.mul_pos hn hs0;omega) (by subst his;simpa using g1),E,⟨.inr rfl,some ⟨w.heap.size,0,none⟩,(by rw[e'];rfl),(by rw[e'];show 0+n≤n;omega),(fun _=>by rw[e'];simp)⟩,H'⟩
end
noncomputable def iU (P:Program) (s:Sem Value):Option Value:=by
 classical exact if hv:∃v,∀w,s.run P w=.ok v w then some hv.choose else none
theorem Ep {P:Program}{s:Sem Value}{v:Value}(h:iU P s=some v)(w:World):s.run P w=.ok v w:=by
 unfold iU at h;split at h
 ·rename_i hv;injection h with h;rw[←h];exact hv.choose_spec w
 ·cases h
theorem iV {P:Program}{s:Sem Value}{v:Value}(h:∀w,s.run P w=.ok v w):iU P s=some v:=by
 have hv:∃v,∀w,s.run P w=.ok v w:=⟨v,h⟩;have e:iU P s=some hv.choose:=by unfold iU;rw[dif_pos hv]
 rw[e];have h1:=hv.choose_spec default;rw[h default]at h1;injection h1 with h1;rw[←h1]
def jl:List LV→Option (List Value)
 |[]=>some []
 |.v x::r=>if x.oneCell' then(jl r).map (x::·) else none
 |_::_=>none
def j5:AV→Option Value
 |.s (.l (.v x))=>some x
 |.s (.agg xs)=>(jl xs).map fun l=>.agg l.toArray
 |_=>none
section
variable {P:Program}{B:cX}{w0:World}{ρ:Nat→Loc}{al:Al}{h:ag}{w:World}
theorem qp:∀{xs:List LV} {l ys:List Value},jl xs=some l→LsRep ρ al xs ys→ys=l
 |[],l,[],h,_=>by simp[jl]at h;exact h.symm▸rfl
 |x::xs,l,y::ys,h,⟨_,b,c⟩=>by
  cases x with
  |v x =>
   simp only[jl]at h;split at h
   ·cases hr:jl xs with
    |none=>simp[hr]at h
    |some r =>
     simp[hr]at h;rw[←h,qp hr c];rw[show y=x from b]
   ·cases h
  |d x=>simp[jl]at h
  |sl b i n=>simp[jl]at h
  |p b i j=>simp[jl]at h
  |bf g bs cs=>simp[jl]at h
  |any=>simp[jl]at h
theorem eW {x:AV}{a y:Value}(hx:j5 x=some a)(hr:ARep ρ al x y):y=a:=by
 cases x with
 |tup _=>cases hx
 |fn _ _ _=>cases hx
 |s x =>
  cases x with
  |l x =>
   cases x with
   |v x=>injection hx with hx;rw[←hx];exact hr
   |d x=>cases hx
   |sl b i n=>cases hx
   |p b i j=>cases hx
   |bf g bs cs=>cases hx
   |any=>cases hx
  |agg xs =>
   simp only[j5,Option.map_eq_some_iff]at hx;obtain⟨l,h1,rfl⟩:=hx;obtain⟨cs,rfl,h2⟩:=hr;rw[qp h1 h2]
noncomputable def MU (P:Program) (op:BinOp) (t:TypeId) (xo yo:Operand) (x y:Value):Option (Prop×Value) :=
  match x,y with
  |.int k a,.int k' b=>match op with
    |.add=>if k=k' then some (True,.int k (k.wrap (a+b))) else none
    |.sub=>if k=k' then some (True,.int k (k.wrap (a-b))) else none
    |.mul=>if k=k' then some (True,.int k (k.wrap (a*b))) else none
    |.quo=>if k=k' then some (b≠0,.int k (k.wrap (a.tdiv b))) else none
    |.rem=>if k=k' then some (b≠0,.int k (a.tmod b)) else none
    |.shl=>some (0≤b,.int k (k.wrap (a*2 ^ min b.toNat k.bits)))
    |.shr=>some (0≤b,.int k (a.fdiv (2 ^ min b.toNat k.bits)))
    |.and=>if k=k' then some (True,.int k (bits .and k a b)) else none
    |.or=>if k=k' then some (True,.int k (bits .or k a b)) else none
    |.xor=>if k=k' then some (True,.int k (bits .xor k a b)) else none
    |.andNot=>if k=k' then some (True,.int k (bits .andNot k a b)) else none
    |.eql=>if k=k' then some (True,.bool (a==b)) else none
    |.neq=>if k=k' then some (True,.bool (a !=b)) else none
    |.lss=>if k=k' then some (True,.bool (decide (a<b))) else none
    |.leq=>if k=k' then some (True,.bool (decide (a≤b))) else none
    |.gtr=>if k=k' then some (True,.bool (decide (a > b))) else none
    |.geq=>if k=k' then some (True,.bool (decide (a≥b))) else none
  |.string a,.string b=>match op with
    |.add=>some (a.size+b.size≤maxLen,.string (a++b))
    |.eql=>some (True,.bool (decide (a=b)))
    |.neq=>some (True,.bool (!decide (a=b)))
    |.lss=>some (True,.bool (Op.bytesLess a.toList b.toList))
    |_=>none
  |x,y=>match iU P (do eqGuard op t xo yo x y;binOp op t x y) with
    |some v=>match v with
      |.bool b=>some (True,.bool b)
      |_=>none
    |none=>none
theorem Nu {a b:ByteArray}(h:a.toList=b.toList):a=b:=by
 rw[ByteArray.toList_eq,ByteArray.toList_eq]at h;exact ByteArray.ext (Array.ext' h)
theorem uS (a b:ByteArray):(a.toList==b.toList)=decide (a=b):=by
 rw[Bool.eq_iff_iff,beq_iff_eq,decide_eq_true_iff];exact⟨Nu,fun h=>by rw[h]⟩
theorem CV {op:BinOp}{t:TypeId}{xo yo:Operand}{x y:Value}{ob:Prop}{v:Value}(hs:MU P op t xo yo x y=some (ob,v))(hob:ob)(w:World) :
    (do eqGuard op t xo yo x y;binOp op t x y:Sem Value).run P w=.ok v w∧(∀cs,v≠.agg cs)∧∀cs,v≠.tuple cs:=by
  unfold MU at hs;split at hs
  · rename_i k a k' b
    have hg:∀op,(eqGuard op t xo yo (.int k a) (.int k' b)).run P w=.ok () w:=by
      intro op;unfold eqGuard;split<;>rfl
    split at hs<;>first
      |(
        split at hs
        · rename_i hk
          subst hk;injection hs with hs;injection hs with h1 h2;subst h1;subst h2;refine⟨?_,by simp,by simp⟩
          simp_all [binOp,Op.intArith,Op.intDiv,Op.intCmp,Op.intBits,bits]
        · cases hs)
      |(
        injection hs with hs;injection hs with h1 h2;subst h1;subst h2;refine⟨?_,by simp,by simp⟩;have:¬b<0:=by omega
        simp[hg,binOp,Op.shift,this])
  · rename_i a b
    have hg:∀op,(eqGuard op t xo yo (.string a) (.string b)).run P w=.ok () w:=by
      intro op;unfold eqGuard;split<;>rfl
    split at hs<;>first
      |cases hs;done
      |(
        injection hs with hs;injection hs with h1 h2;subst h1;subst h2;refine⟨?_,by simp,by simp⟩
        first
         |(simp only[Sem.run_bind,hg,Result.andThen_ok,binOp,Op.stringOp,uS];done)
         |(simp only[Sem.run_bind,hg,Result.andThen_ok,binOp,Op.stringOp,uS];rfl)
         |(
           simp only[Sem.run_bind,hg,Result.andThen_ok,binOp,Op.stringOp];rw[if_neg (by have:=hob;unfold maxLen at this;simp[IntKind.max,IntKind.signed,IntKind.bits];omega)];rfl))
  · split at hs
    · rename_i u hu
      split at hs
      · injection hs with hs
        injection hs with h1 h2;subst h2;exact⟨Ep hu w,by simp,by simp⟩
      · cases hs
    · cases hs
def aUn (op:UnOp)(x:Value):Option Value :=
 match op,x with
 |.neg,.int k n=>some (.int k (k.wrap (0-n)))
 |.xor,.int k n=>some (.int k (bits .xor k (if k.signed then -1 else k.max) n))
 |.not,.bool b=>some (.bool !b)
 |_,_=>none
theorem Gd {op:UnOp}{x v:Value}(hs:aUn op x=some v)(w:World):(Op.unary op x).run P w=.ok v w∧(∀cs,v≠.agg cs)∧∀cs,v≠.tuple cs:=by
 unfold aUn at hs;split at hs
 ·injection hs with hs;subst hs;exact⟨rfl,by simp,by simp⟩
 ·injection hs with hs;subst hs;refine⟨?_,by simp,by simp⟩;simp[Op.unary,Op.intBits,bits]
 ·injection hs with hs;subst hs;exact⟨rfl,by simp,by simp⟩
 ·cases hs
def km (P:Program)(t:TypeId):Option IntKind :=
 match P.underlying t with
 |some (.int k)=>some k
 |_=>none
def jL (P:Program)(t:TypeId):Bool :=
 match P.underlying t with
 |some .string=>true
 |_=>false
def Fe (P:Program)(src dst:TypeId)(x:Value):Option Value :=
 match x with
 |.int _ n=>match km P dst,bA P src with
  |some k,some _=>some (.int k (k.wrap n))
  |_,_=>none
 |.string s=>if jL P dst&&(bA P src).isSome then some (.string s) else none
 |_=>none
theorem Ai {src dst:TypeId}{x v:Value}(hs:Fe P src dst x=some v)(w:World):(convert src dst x).run P w=.ok v w∧(∀cs,v≠.agg cs)∧∀cs,v≠.tuple cs:=by
 unfold Fe at hs;split at hs
 ·split at hs
  case h_2=>cases hs
  rename_i k d' hk hd';injection hs with hs;subst hs
  obtain⟨d,hd⟩:∃d,P.underlying src=some d:=by
   unfold bA at hd';cases hu:P.underlying src with
   |none=>simp[hu]at hd'
   |some d=>exact⟨d,rfl⟩
  unfold km at hk;split at hk
  case h_2=>cases hk
  rename_i k2 hu;injection hk with hk;subst hk;refine⟨?_,by simp,by simp⟩;simp[convert,run_underlying hd,run_underlying hu,Conv.intToInt]
 ·split at hs
  case isFalse=>cases hs
  rename_i hc;injection hs with hs;subst hs;simp only[Bool.and_eq_true]at hc
  obtain⟨d,hd⟩:∃d,P.underlying src=some d:=by
   have:=hc.2;unfold bA at this;cases hu:P.underlying src with
   |none=>simp[hu]at this
   |some d=>exact⟨d,rfl⟩
  have hu:P.underlying dst=some .string:=by
   have:=hc.1;unfold jL at this;split at this
   ·assumption
   ·cases this
  refine⟨?_,by simp,by simp⟩;cases d<;>simp[convert,run_underlying hd,run_underlying hu]
 ·cases hs
def ab (s:ByteArray)(z:Int):Int:=((s.data.toList.getD z.toNat 0).toNat:Int)
def yX (P:Program)(t:TypeId)(x ix:AV):Option (Prop×AV) :=
 match x,ix with
 |.s (.l (.v (.string s))),.s (.l (.v (.int _ z)))=>if jL P t then some (0≤z∧z<s.size,.s (.l (.v (.int .u8 (ab s z))))) else none
 |.s (.agg xs),.s (.l (.v (.int _ z)))=>match P.underlying t with
  |some (.array n e)=>match bA P e,cD P e,jl xs with
   |some false,some 1,some l=>if n=l.length then some (0≤z∧z<n,.s (.l (.v (l.getD z.toNat undef)))) else none
   |some false,some 1,none=>if n=xs.length then match xs[z.toNat]? with
    |some y=>some (0≤z,.s (.l y))
    |none=>none
    else none
   |some true,some s,_=>if n*s=xs.length then some (0≤z∧z<n,.s (.agg ((xs.drop (z.toNat*s)).take s))) else none
   |_,_,_=>none
  |_=>none
 |_,_=>none
theorem jK {t:TypeId}(hr:bA P t=some false)(w:World):(isAgg t).run P w=.ok false w:=by
 unfold bA at hr;cases hu:P.underlying t with
 |none=>simp[hu]at hr
 |some d =>
  unfold isAgg;rw[Sem.run_bind,run_underlying hu w];simp only[hu,map_some,Option.some.injEq]at hr;cases d<;>simp_all [TypeDesc.isRow]
theorem qu {t:TypeId}(hr:bA P t=some true)(w:World):(isAgg t).run P w=.ok true w:=by
 unfold bA at hr;cases hu:P.underlying t with
 |none=>simp[hu]at hr
 |some d =>
  unfold isAgg;rw[Sem.run_bind,run_underlying hu w];simp only[hu,map_some,Option.some.injEq]at hr;cases d<;>simp_all [TypeDesc.isRow]
theorem yZ {t:TypeId}{x ix:AV}{u v:Value}(hx:ARep ρ al x u)(hix:ARep ρ al ix v){ob:Prop}{r:AV}(hs:yX P t x ix=some (ob,r))(hob:ob)(w:World) :
  ∃y,(Instr.index t u v).run P w=.ok y w∧ARep ρ al r y:=by
 unfold yX at hs;split at hs
 ·rename_i s k z;split at hs
  case isFalse=>cases hs
  rename_i hst;injection hs with hs;injection hs with h1 h2;subst h1;subst h2;have:u=.string s:=hx;subst this;have:v=.int k z:=hix;subst this;obtain⟨h0,h1⟩:=hob
  have hu:P.underlying t=some .string:=by
   unfold jL at hst;split at hst
   ·assumption
   ·cases hst
  have hz:z.toNat<s.size:=by omega
  have e:s[z.toNat]? = some s[z.toNat]:=getElem?_pos s z.toNat hz;refine⟨.int .u8 (s[z.toNat].toNat:Nat),?_,?_⟩
  ·simp[Instr.index,asIntOf,run_underlying hu,h0,e]
  ·show _=_
   have e2:s.data.toList[z.toNat]? = some s[z.toNat]:=by
    rw[getElem?_eq_getElem (by simpa using hz)];rfl
   simp[ab,List.getD_eq_getElem?_getD,e2]
 ·rename_i xs k z;split at hs
  case h_2=>cases hs
  rename_i n e hu;split at hs;rename_i l hr hsz hl;split at hs
  case isFalse=>cases hs
  rename_i hn;injection hs with hs;injection hs with h1 h2;subst h1;subst h2;obtain⟨h0,h1⟩:=hob;obtain⟨cs,rfl,hrep⟩:=hx;have:v=.int k z:=hix;subst this;have:=qp hl hrep;subst this;have hlt:z.toNat<cs.length:=by omega
  refine⟨cs.getD z.toNat undef,?_,rfl⟩;simp[Instr.index,asIntOf,run_underlying hu,h0,h1,eM hsz,part,jK hr,getElem?_eq_getElem hlt,List.getD_eq_getElem?_getD];rename_i hr hsz hl;split at hs
  case isFalse=>cases hs
  rename_i hn;split at hs
  case h_2=>cases hs
  rename_i y hy;injection hs with hs;injection hs with h1 h2;subst h1;subst h2;obtain⟨cs,rfl,hrep⟩:=hx;have:v=.int k z:=hix;subst this;obtain⟨q,g1,g2,g3⟩:=hrep.get _ _ hy;have hlt:z.toNat<xs.length:=(List.getElem?_eq_some_iff.1 hy).1;have h1:z<n:=by omega
  refine⟨q,?_,g3⟩;simp[Instr.index,asIntOf,run_underlying hu,hob,h1,eM hsz,part,jK hr,g1];rename_i s hr hsz;split at hs
  case isFalse=>cases hs
  rename_i hn;injection hs with hs;injection hs with h1 h2;subst h1;subst h2;obtain⟨h0,h1⟩:=hob;obtain⟨cs,rfl,hrep⟩:=hx;have:v=.int k z:=hix;subst this;refine⟨.agg (cs.toArray.extract (z.toNat*s) (z.toNat*s+s)),?_,⟨(cs.drop (z.toNat*s)).take s,?_,(hrep.drop _).take _⟩⟩
  ·simp[Instr.index,asIntOf,run_underlying hu,h0,h1,eM hsz,part,qu hr]
  ·congr 1;apply Array.ext';rw[Array.toList_extract,List.extract_eq_take_drop];simp
  cases hs
 ·cases hs
def M9 (P:Program)(t:TypeId)(x:AV):Option Value :=
 match x with
 |.s (.l (.d (.sd _ els)))=>if(fM P t).isSome then some (.int .i64 els.length) else none
 |.s (.l (.sl _ _ n))=>if(fM P t).isSome then some (.int .i64 n) else none
 |.s (.l (.v (.slice _ n _)))=>if(fM P t).isSome then some (.int .i64 n) else none
 |.s (.l (.v (.string s)))=>if jL P t then some (.int .i64 s.size) else none
 |_=>none
theorem gc {t e:TypeId}(he:fM P t=some e):P.underlying t=some (.slice e):=by
 unfold fM at he;split at he
 ·rename_i e2 hu;injection he with he;rw[hu,he]
 ·cases he
theorem eX {t:TypeId}(he:jL P t=true):P.underlying t=some .string:=by
 unfold jL at he;split at he
 ·assumption
 ·cases he
theorem CZ {t ty:TypeId}{x:AV}{u v:Value}(hx:ARep ρ al x u)(hs:M9 P t x=some v)(w:World) :
  (Builtin.len_ #[t] ty #[u]).run P w=.ok v w∧ARep ρ al (.s (.l (.v v))) v:=by
 refine⟨?_,rfl⟩;unfold M9 at hs;split at hs
 ·split at hs
  case isFalse=>cases hs
  rename_i he;obtain⟨e,he⟩:=Option.isSome_iff_exists.1 he;injection hs with hs;subst hs;simp only[ARep,SRep,LRep,DRep]at hx;obtain⟨A,cap,rfl,_⟩:=hx;simp[Builtin.len_,run_underlying (gc he),goInt]
 ·split at hs
  case isFalse=>cases hs
  rename_i he;obtain⟨e,he⟩:=Option.isSome_iff_exists.1 he;injection hs with hs;subst hs;obtain⟨_,A,rfl,_⟩:=hx;simp[Builtin.len_,run_underlying (gc he),goInt]
 ·split at hs
  case isFalse=>cases hs
  rename_i he;obtain⟨e,he⟩:=Option.isSome_iff_exists.1 he;injection hs with hs;subst hs;have:u=_:=hx;subst this;simp[Builtin.len_,run_underlying (gc he),goInt]
 ·split at hs
  case isFalse=>cases hs
  rename_i he;injection hs with hs;subst hs;have:u=_:=hx;subst this;simp[Builtin.len_,run_underlying (eX he),goInt]
 ·cases hs
end
end Go.Proofs.YtnhbidpdadkcjaaGreatDoor
