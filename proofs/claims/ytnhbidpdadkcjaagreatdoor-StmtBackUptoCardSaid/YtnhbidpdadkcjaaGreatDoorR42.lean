import Derived.Test.YtnhbidpdadkcjaaGreatDoorR30
open Go.RowKit
set_option linter.unusedVariables false
set_option linter.unusedSimpArgs false
set_option maxRecDepth 100000
set_option maxHeartbeats 8000000
open List (length_append append_nil map_append nil_append length_cons map_cons)
open Bool (and_eq_true)
namespace Go.Proofs.YtnhbidpdadkcjaaGreatDoor
structure StV where
 labels:List ByteArray
 kind:Int
 name:ByteArray
 opers:List OpV
 names:List ByteArray
 size:Int
 vals:List Val
 bytes:List Int
def st0:StV:=⟨[],0,emp,[],[],0,[],[]⟩
structure PsV where
 l:List Tok
 s:StV
def mf:ByteArray:=⟨#[46]⟩
def gI:ByteArray:=(⟨#[46,116,101,120,116]⟩:ByteArray)
def hZ:ByteArray:=(⟨#[46,100,97,116,97]⟩:ByteArray)
def dJ:ByteArray:=(⟨#[46,115,101,99,116,105,111,110]⟩:ByteArray)
def gy:ByteArray:=(⟨#[46,103,108,111,98,97,108]⟩:ByteArray)
def ic:ByteArray:=(⟨#[46,97,108,105,103,110]⟩:ByteArray)
def mY:ByteArray:=(⟨#[46,98,121,116,101]⟩:ByteArray)
def kL:ByteArray:=(⟨#[46,119,111,114,100]⟩:ByteArray)
def pZ:ByteArray:=(⟨#[46,113,117,97,100]⟩:ByteArray)
def kM:ByteArray:=(⟨#[46,97,115,99,105,105]⟩:ByteArray)
def r6:ByteArray:=(⟨#[46,101,113,117]⟩:ByteArray)
def isF (l:List Tok)(k:Int)(n:Nat):Bool:=match l[n]? with
 |some t=>decide (t.kind=k)
 |none=>false
def nextF (k e:Int)(l:List Tok):Except Int (ByteArray×List Tok):=if isF l k 0=true then .ok (atF l k 0,l.drop 1) else .error e
def labelsF:Nat→List ByteArray→List Tok→Except Int (List ByteArray×List Tok)
 |0,out,l=>.ok (out,l)
 |N+1,out,l=>if isF l 1 0=true∧atF l 4 1=aO then(if atF l 1 0=mf then .error 110 else if out.length=8 then .error 3 else labelsF N (out++[atF l 1 0]) (l.drop 2)) else .ok (out,l)
def nameR (p:PsV):Except Int PsV:=match nextF 1 112 p.l with
 |.error e=>.error e
 |.ok (t,l)=>.ok ⟨l,{ p.s with names:=p.s.names++[t] }⟩
def valR2 (p:PsV):Except Int PsV:=match valueR p.l with
 |.error e=>.error e
 |.ok (v,l)=>.ok ⟨l,{ p.s with vals:=p.s.vals++[v] }⟩
def eU (rd:PsV→Except Int PsV):Nat→PsV→Except Int PsV
 |N,p=>match rd p with
  |.error e=>.error e
  |.ok p=>if atF p.l 4 0=aA then(match N with
    |0=>.error 3
    |N+1=>eU rd N ⟨p.l.drop 1,p.s⟩) else .ok p
def ip (v:Val):Bool:=decide ((v.plus=emp∧v.minus=emp)∧0≤v.add∧v.add≤12)
def kr (p:PsV):Except Int PsV:=match valR2 p with
 |.error e=>.error e
 |.ok p=>if ip (p.s.vals.getD 0 ⟨0,emp,emp⟩)=true then .ok p else .error 7
def tM (p:PsV):Except Int PsV:=match nameR p with
 |.error e=>.error e
 |.ok p=>if atF p.l 4 0=aA then valR2 ⟨p.l.drop 1,p.s⟩ else .error 112
def lu (p:PsV):Except Int PsV:=match nextF 3 112 p.l with
 |.error e=>.error e
 |.ok (t,l)=>.ok ⟨l,{ p.s with bytes:=aa t }⟩
def fD (n:Int)(p:PsV):Except Int PsV:=eU valR2 63 ⟨p.l,{ p.s with kind:=5,size:=n }⟩
def rc (k:Int)(p:PsV):PsV:=⟨p.l,{ p.s with kind:=k }⟩
def readR (name:ByteArray)(p:PsV):Except Int PsV :=
 if name=gI∨name=hZ then .ok ⟨p.l,{ p.s with kind:=2,names:=[name] }⟩
 else if name=dJ then nameR (rc 2 p)
 else if name=gy then eU nameR 63 (rc 3 p)
 else if name=ic then kr (rc 4 p)
 else if name=mY then fD 1 p
 else if name=kL then fD 4 p
 else if name=pZ then fD 8 p
 else if name=kM then lu (rc 6 p)
 else if name=r6 then tM (rc 7 p)
 else .error 111
def AB (name:ByteArray)(p:PsV):Except Int PsV:=match readR name p with
 |.error e=>.error e
 |.ok p=>if p.l=[] then .ok p else .error 112
def restR (p:PsV):Except Int PsV:=match nextF 1 110 p.l with
 |.error e=>.error e
 |.ok (name,l)=>if name=mf then .error 110
  else if bS name mf=true then AB name ⟨l,p.s⟩
  else match listF l with
   |.error e=>.error e
   |.ok o=>.ok ⟨l,{ p.s with kind:=1,name:=name,opers:=o }⟩
def qN (l:List Tok):Except Int StV:=match labelsF l.length [] l with
 |.error e=>.error e
 |.ok (ls,l)=>if l=[] then .ok { st0 with labels:=ls } else match restR ⟨l,{ st0 with labels:=ls }⟩ with
  |.error e=>.error e
  |.ok p=>.ok p.s
def gl (b:List Int):Except Int StV:=if(gB b).2.2=0 then qN (gB b).1 else .error (gB b).2.2
def mu:Except Int PsV→Except Int PsV
 |.ok p=>.ok ⟨p.l.map bare,p.s⟩
 |.error e=>.error e
def lz (p:PsV):PsV:=⟨p.l.map bare,p.s⟩
theorem EU {l:List Tok}{k:Int}{n:Nat}:isF (l.map bare) k n=isF l k n:=by
 unfold isF;rw[List.getElem?_map];cases l[n]?<;>rfl
theorem pQ {l:List Tok}{k e:Int}:nextF k e (l.map bare)=gM (nextF k e l):=by
 unfold nextF;rw[EU,gK,eA];split<;>rfl
def UO:Except Int (List ByteArray×List Tok)→Except Int (List ByteArray×List Tok)
 |.ok (x,l)=>.ok (x,l.map bare)
 |.error e=>.error e
theorem tV:∀{N:Nat} {out:List ByteArray} {l:List Tok},labelsF N out (l.map bare)=UO (labelsF N out l)
 |0,out,l=>rfl
 |N+1,out,l=>by
  unfold labelsF;simp only[EU,gK,eA];split
  ·split
   ·rfl
   ·split
    ·rfl
    ·exact tV
  ·rfl
theorem sS {p:PsV}:nameR (lz p)=mu (nameR p):=by
 unfold nameR;simp only[lz,pQ];rcases nextF 1 112 p.l with e | ⟨t,l⟩<;>rfl
theorem th {p:PsV}:valR2 (lz p)=mu (valR2 p):=by
 unfold valR2;simp only[lz,gt];rcases valueR p.l with e | ⟨t,l⟩<;>rfl
theorem vB {rd:PsV→Except Int PsV}(h:∀p,rd (lz p)=mu (rd p)):∀{N:Nat} {p:PsV},eU rd N (lz p)=mu (eU rd N p)
 |N,p=>by
  unfold eU;rw[h];rcases rd p with e | q
  ·rfl
  ·simp only[mu,gK,eA];split
   ·cases N with
    |zero=>rfl
    |succ N=>exact vB h (p:=⟨q.l.drop 1,q.s⟩)
   ·rfl
theorem D0 {p:PsV}:kr (lz p)=mu (kr p):=by
 unfold kr;rw[th];rcases valR2 p with e | q
 ·rfl
 ·simp only[mu];split<;>rfl
theorem K5 {p:PsV}:tM (lz p)=mu (tM p):=by
 unfold tM;rw[sS];rcases nameR p with e | q
 ·rfl
 ·simp only[mu,gK,eA];split
  ·exact th (p:=⟨q.l.drop 1,q.s⟩)
  ·rfl
theorem D2 {p:PsV}:lu (lz p)=mu (lu p):=by
 unfold lu;simp only[lz,pQ];rcases nextF 3 112 p.l with e | ⟨t,l⟩<;>rfl
theorem sE {n:Int}{p:PsV}:fD n (lz p)=mu (fD n p):=vB (fun _=>th) (p:=⟨p.l,{ p.s with kind:=5,size:=n }⟩)
theorem IA {name:ByteArray}{p:PsV}:readR name (lz p)=mu (readR name p):=by
 unfold readR;split
 ·rfl
 split
 ·exact sS (p:=rc 2 p)
 split
 ·exact vB (fun _=>sS) (p:=rc 3 p)
 split
 ·exact D0 (p:=rc 4 p)
 split
 ·exact sE
 split
 ·exact sE
 split
 ·exact sE
 split
 ·exact D2 (p:=rc 6 p)
 split
 ·exact K5 (p:=rc 7 p)
 ·rfl
theorem KY {name:ByteArray}{p:PsV}:AB name (lz p)=mu (AB name p):=by
 unfold AB;rw[IA];rcases readR name p with e | q
 ·rfl
 ·simp only[mu,List.map_eq_nil_iff];split<;>rfl
theorem IH {p:PsV}:restR (lz p)=mu (restR p):=by
 unfold restR;simp only[lz,pQ];rcases nextF 1 110 p.l with e | ⟨t,l⟩
 ·rfl
 ·simp only[gM,Hy];split
  ·rfl
  split
  ·exact KY (p:=⟨l,p.s⟩)
  ·rcases listF l with e | o<;>rfl
theorem Fy {l:List Tok}:qN (l.map bare)=qN l:=by
 unfold qN;rw[List.length_map,tV];rcases labelsF l.length [] l with e | ⟨ls,l1⟩
 ·rfl
 ·simp only[UO,List.map_eq_nil_iff];split
  ·rfl
  ·have:=IH (p:=⟨l1,{ st0 with labels:=ls }⟩);simp only[lz]at this;rw[this];rcases restR ⟨l1,{ st0 with labels:=ls }⟩ with e | q<;>rfl
theorem VM {ρ:Nat→Loc}{al:Al}{sz:Nat}{v:Value}(h:LRep ρ al (.v (.slice none 0 0)) v):LRep ρ al (.d (.sd sz [])) v:=by
 have hv:v=.slice none 0 0:=h;rw[hv];simp only[LRep,DRep];exact⟨none,0,rfl,Nat.le_refl _,fun h=>absurd rfl h⟩
theorem Wk.deepC {ro:Cf}{s:St}(b j:Nat)(sz:Nat){k:Blk}{xs:List LV}(hk:hget s.h b=some k)(hx:k.els=[xs])(hj:xs[j]? = some (.v (.slice none 0 0))) :
  Wk ro s ⟨s.nx,s.t,(b,some { k with els:=[xs.set j (.d (.sd sz []))] })::s.h⟩:=by
 intro n B w0 ρ al a w _ H;have hb':=H.w.blk b k hk;refine⟨ρ,al,H.size,H.defers,H.t,H.w.retell hk rfl (fun _=>by rw[hx];simp) ⟨hb'.here,hb'.own,hb'.sz,?_,?_,?_,hb'.room⟩,H.al⟩
 ·intro e he;simp only[List.mem_singleton]at he;subst he;rw[List.length_set];exact hb'.len xs (by rw[hx];simp)
 ·have:=hb'.cap;rw[hx]at this;exact this
 ·intro i j' x hc;obtain⟨rfl,h2⟩:=sy hc;rw[List.getElem?_set]at h2;split at h2
  ·rename_i ej;subst ej;split at h2
   ·injection h2 with h2;subst h2;obtain⟨y,g1,g2,g3⟩:=hb'.cells 0 j _ (by rw[hx];exact(show cellAt [xs] 0 j=_ from hj));exact⟨y,g1,g2,VM g3⟩
   ·cases h2
  ·exact hb'.cells 0 j' x (by rw[hx];exact h2)
def iU (n:ByteArray):Bool:=eK (aa n)&&!decide (n=mf)
def sn (s:StV):Bool :=
 decide (0≤s.kind∧s.kind≤7)&&(decide (s.name=emp∧s.opers=[])||decide (s.kind=1))&&(decide (s.names=[])||decide (s.kind=2∨s.kind=3∨s.kind=7))
  && (decide (s.vals=[])||decide (s.kind=4∨s.kind=5∨s.kind=7))&&(decide (s.size=0)||decide (s.kind=5))&&(decide (s.bytes=[])||decide (s.kind=6))
def aX (s:StV):Bool :=
 if s.kind=1 then eK (aa s.name)&&!bS s.name mf
 else if s.kind=2 then decide (s.names.length=1)
 else if s.kind=3 then decide (0<s.names.length)
 else if s.kind=4 then decide (s.vals.length=1)
 else if s.kind=5 then decide (0<s.vals.length)&&decide (s.size=1∨s.size=4∨s.size=8)
 else if s.kind=7 then decide (s.names.length=1)&&decide (s.vals.length=1)
 else true
def lH:List Val→Int
 |[]=>0
 |v::r=>if(Ex.printF v).2=0 then lH r else(Ex.printF v).2
def qG (l:List OpV):Int:=if bS (fm l).1 aO=true then 110 else(fm l).2
def eZ (s:StV):Int :=
 if(s.labels.all iU&&sn s)=false then 110
 else if 8<s.labels.length∨64<s.names.length∨64<s.vals.length then 3
 else if(aX s&&s.names.all fun n=>eK (aa n))=false then 110
 else if s.kind=4∧ip (s.vals.getD 0 ⟨0,emp,emp⟩)=false then 7
 else if ¬lH s.vals=0 then lH s.vals else qG s.opers
def bJ (l:List Val):List ByteArray:=l.map fun v=>(Ex.printF v).1
def ke (b:List Int):ByteArray:=aj (eg b)
def aG (s:StV):ByteArray×ByteArray :=
 if s.kind=1 then(s.name,(fm s.opers).1)
 else if s.kind=2 then(if s.names.getD 0 emp=gI∨s.names.getD 0 emp=hZ then(s.names.getD 0 emp,emp) else(dJ,s.names.getD 0 emp))
 else if s.kind=3 then(gy,cZ s.names)
 else if s.kind=4 then(ic,(bJ s.vals).getD 0 emp)
 else if s.kind=5 then(if s.size=1 then mY else if s.size=4 then kL else pZ,cZ (bJ s.vals))
 else if s.kind=6 then(kM,ke s.bytes)
 else if s.kind=7 then(r6,s.names.getD 0 emp++dR++(bJ s.vals).getD 0 emp)
 else(emp,emp)
def gA:List ByteArray→ByteArray
 |[]=>emp
 |x::r=>r.foldl (fun a y=>a++⟨#[32]⟩++y) x
def r9 (s:StV):ByteArray:=gA ((s.labels.map fun n=>n++aO)++[(aG s).1,(aG s).2].filter fun w=>!decide (w=emp))
def kF (s:StV):ByteArray×Int:=if ¬eZ s=0 then(emp,eZ s) else if 512<(r9 s).size then(emp,3) else(r9 s,0)
def nh (s:StV):StV:={ s with opers:=s.opers.map aF }
theorem C1 {l:List Tok}{k:Int}{n:Nat}(h:isF l k n=true):n<l.length:=by
 unfold isF at h;split at h
 ·rename_i t ht;exact(List.getElem?_eq_some_iff.1 ht).1
 ·cases h
theorem Fc {k e:Int}{l r:List Tok}{t:ByteArray}(h:RdOk l)(hn:nextF k e l=.ok (t,r)):RdOk r∧r.length<l.length∧r=l.drop 1∧t=atF l k 0∧isF l k 0=true:=by
 unfold nextF at hn;split at hn
 ·rename_i h1;injection hn with hn;injection hn with h2 h3;subst h2 h3;have:=C1 h1;exact⟨h.drop 1,by rw[List.length_drop];omega,rfl,rfl,h1⟩
 ·cases hn
theorem yT:∀{N:Nat} {out ls:List ByteArray} {l r:List Tok},RdOk l→out.length≤8→labelsF N out l=.ok (ls,r)→RdOk r∧ls.length≤8
 |0,out,ls,l,r,h,ho,e=>by
  injection e with e;injection e with e1 e2;subst e1 e2;exact⟨h,ho⟩
 |N+1,out,ls,l,r,h,ho,e=>by
  unfold labelsF at e;split at e
  ·split at e
   ·cases e
   ·split at e
    ·cases e
    ·refine yT (h.drop 2) ?_ e;rw[length_append,List.length_singleton];omega
  ·injection e with e;injection e with e1 e2;subst e1 e2;exact⟨h,ho⟩
structure BodyOk (a b:Nat)(p:PsV):Prop where
 toks:RdOk p.l
 names:p.s.names.length≤a
 vals:p.s.vals.length≤b
 good:∀v∈p.s.vals,Ex.GoodV v
theorem BodyOk.to {a b a' b':Nat}{p:PsV}(h:BodyOk a b p)(h1:a≤a')(h2:b≤b'):BodyOk a' b' p:=⟨h.toks,by have:=h.names;omega,by have:=h.vals;omega,h.good⟩
theorem BodyOk.with {a b:Nat}{p:PsV}(h:BodyOk a b p){l:List Tok}(hl:RdOk l){s:StV}(h1:s.names=p.s.names)(h2:s.vals=p.s.vals):BodyOk a b ⟨l,s⟩:=⟨hl,by rw[h1];exact h.names,by rw[h2];exact h.vals,by rw[h2];exact h.good⟩
theorem E9 {a b:Nat}{p q:PsV}(h:BodyOk a b p)(e:nameR p=.ok q):BodyOk (a+1) b q∧q.l.length<p.l.length:=by
 unfold nameR at e;rcases hn:nextF 1 112 p.l with x | ⟨t,l⟩
 ·rw[hn]at e;cases e
 ·rw[hn]at e;injection e with e;subst e;obtain⟨g1,g2,-⟩:=Fc h.toks hn;refine⟨⟨g1,?_,h.vals,h.good⟩,g2⟩;simp only[length_append,List.length_singleton];have:=h.names;omega
theorem Q4 {a b:Nat}{p q:PsV}(h:BodyOk a b p)(e:valR2 p=.ok q):BodyOk a (b+1) q∧q.l.length<p.l.length:=by
 unfold valR2 at e;rcases hn:valueR p.l with x | ⟨v,l⟩
 ·rw[hn]at e;cases e
 ·rw[hn]at e;injection e with e;subst e;obtain⟨g1,g2,g3⟩:=iP h.toks hn;refine⟨⟨g2,h.names,?_,?_⟩,g3⟩
  ·simp only[length_append,List.length_singleton];have:=h.vals;omega
  ·intro w hw;simp only[List.mem_append,List.mem_singleton]at hw;rcases hw with hw | rfl
   ·exact h.good w hw
   ·exact g1
theorem sB {a b:Nat}{p:PsV}(h:BodyOk a b p):BodyOk a b ⟨p.l.drop 1,p.s⟩:=⟨h.toks.drop 1,h.names,h.vals,h.good⟩
section
open Ex (ax nameT valT ValOk qX txtL textT)
theorem qw:∀{a b:List (Bool×Tok)} {q:Option Tok},di q a→(∀u,di u b)→di q (a++b)
 |[],_,q,_,hb=>hb q
 |(_,_)::_,_,_,h,hb=>⟨h.1,qw h.2 hb⟩
structure PartOk (p:List (Bool×Tok))(x:ByteArray):Prop where
 head:∃t r,p=(false,t)::r
 rend:bp p=aa x
 sure:iS p
 fine:di none p
 noat:jL p
inductive PartsOk:List (List (Bool×Tok))→List ByteArray→Prop
 |nil:PartsOk [] []
 |cons {p x ps xs}:PartOk p x→PartsOk ps xs→PartsOk (p::ps) (x::xs)
theorem PartsOk.app {a b:List (List (Bool×Tok))}{x y:List ByteArray}(h:PartsOk a x)(k:PartsOk b y):PartsOk (a++b) (x++y):=by
 induction h with
 |nil=>exact k
 |cons h _ ih=>exact .cons h ih
theorem PartsOk.of_map {α:Type}{f:α→List (Bool×Tok)}{g:α→ByteArray}:∀{l:List α},(∀a∈l,PartOk (f a) (g a))→PartsOk (l.map f) (l.map g)
 |[],_=>.nil
 |a::l,h=>.cons (h a (by simp)) (PartsOk.of_map fun b hb=>h b (by simp[hb]))
def uy:List (List (Bool×Tok))→List (Bool×Tok)
 |[]=>[]
 |p::r=>spB p++uy r
def sU:List (List (Bool×Tok))→List (Bool×Tok)
 |[]=>[]
 |p::r=>p++uy r
def wJ:List ByteArray→List Int
 |[]=>[]
 |x::r=>32::(aa x++wJ r)
theorem TA {ps:List (List (Bool×Tok))}{xs:List ByteArray}(h:PartsOk ps xs):bp (uy ps)=wJ xs∧iS (uy ps)∧(∀u,di u (uy ps))∧jL (uy ps):=by
 induction h with
 |nil=>exact⟨rfl,db,fun _=>trivial,cV⟩
 |cons h _ ih =>
  obtain⟨i1,i2,i3,i4⟩:=ih;obtain⟨t,r,e⟩:=h.head;refine⟨?_,iO (xF h.sure) i2,fun u=>qw (xp h.fine) i3,iD (tC h.noat) i4⟩;rw[uy,gW,xB e,h.rend,i1,wJ,List.cons_append]
theorem pr:∀(r:List ByteArray) (x:ByteArray),aa (r.foldl (fun a y=>a++⟨#[32]⟩++y) x)=aa x++wJ r
 |[],x=>by rw[List.foldl_nil,wJ,append_nil]
 |y::r,x=>by
  rw[List.foldl_cons,pr r,aW,aW,wJ,show aa ⟨#[32]⟩=[32] from rfl];simp
theorem PQ {ps:List (List (Bool×Tok))}{xs:List ByteArray}(h:PartsOk ps xs):bp (sU ps)=aa (gA xs)∧iS (sU ps)∧di none (sU ps)∧jL (sU ps):=by
 cases h with
 |nil=>exact⟨rfl,db,trivial,cV⟩
 |cons h k =>
  obtain⟨i1,i2,i3,i4⟩:=TA k;refine⟨?_,iO h.sure i2,qw h.fine i3,iD h.noat i4⟩;rw[sU,gW,h.rend,i1,gA,pr]
def fL (ps:List (List (Bool×Tok))):List Tok:=(ps.map fun p=>p.map (·.2)).flatten
theorem B3:∀ps:List (List (Bool×Tok)),(uy ps).map (·.2)=fL ps
 |[]=>rfl
 |p::r=>by
  rw[uy,map_append,pU,B3 r];rfl
theorem Ie (ps:List (List (Bool×Tok))):(sU ps).map (·.2)=fL ps:=by
 cases ps with
 |nil=>rfl
 |cons p r =>
  rw[sU,map_append,B3 r];rfl
theorem M9 (a b:List (List (Bool×Tok))):fL (a++b)=fL a++fL b:=by
 unfold fL;rw[map_append,List.flatten_append]
def ya:List (List (Bool×Tok))→List (Bool×Tok)
 |[]=>[]
 |p::r=>sg aA::(spB p++ya r)
def x9:List (List (Bool×Tok))→List (Bool×Tok)
 |[]=>[]
 |p::r=>p++ya r
def Ec:List ByteArray→List Int
 |[]=>[]
 |x::r=>44::32::(aa x++Ec r)
theorem Sx {ps:List (List (Bool×Tok))}{xs:List ByteArray}(h:PartsOk ps xs):bp (ya ps)=Ec xs∧iS (ya ps)∧(∀u,di u (ya ps))∧jL (ya ps):=by
 induction h with
 |nil=>exact⟨rfl,db,fun _=>trivial,cV⟩
 |cons h _ ih =>
  obtain⟨i1,i2,i3,i4⟩:=ih;obtain⟨t,r,e⟩:=h.head;refine⟨?_,aK (dE cf) (iO (xF h.sure) i2),fun u=>dB cf (qw (xp h.fine) i3),aI rfl (iD (tC h.noat) i4)⟩;rw[ya,dC cf,gW,xB e,h.rend,i1,Ec,lK];rfl
theorem qz:∀(r:List ByteArray) (x:ByteArray),aa (r.foldl (fun a y=>a++dR++y) x)=aa x++Ec r
 |[],x=>by rw[List.foldl_nil,Ec,append_nil]
 |y::r,x=>by
  rw[List.foldl_cons,qz r,aW,aW,Ec,tz];simp
theorem CL {ps:List (List (Bool×Tok))}{xs:List ByteArray}(h:PartsOk ps xs)(hne:ps≠[]):PartOk (x9 ps) (cZ xs):=by
 cases h with
 |nil=>exact absurd rfl hne
 |cons h k =>
  obtain⟨i1,i2,i3,i4⟩:=Sx k;obtain⟨t,r,e⟩:=h.head;refine⟨⟨t,_,by rw[x9,e];rfl⟩,?_,iO h.sure i2,qw h.fine i3,iD h.noat i4⟩;rw[x9,gW,h.rend,i1,cZ,qz]
theorem lX {s:ByteArray}(h:br s=true):PartOk [(false,nameT s)] s :=
 ⟨⟨_,_,rfl⟩,by rw[ux h,bp,append_nil],aK (lS h false) db,⟨.inr rfl,trivial⟩,aI rfl cV⟩
theorem Ib {s:ByteArray}(h:br s=true):PartOk [(false,nameT s),sg aO] (s++aO) :=
 ⟨⟨_,_,rfl⟩,by rw[ux h,dC gT,bp,append_nil,aW],aK (lS h false) (aK (dE gT) db),⟨.inr rfl,dB gT trivial⟩,aI rfl (aI rfl cV)⟩
theorem zC {v:Val}(hp:(Ex.printF v).2=0)(hv:ValOk v):PartOk (nS v) (Ex.printF v).1:=by
 refine⟨?_,zN hp hv,qZ hv,?_,nV v⟩
 ·unfold nS valT;split
  ·split
   ·exact⟨_,_,rfl⟩
   ·exact⟨_,_,rfl⟩
  ·exact⟨_,_,rfl⟩
 ·have:=og (p:=none) (fun t=>rfl) (r:=[]) (fun u=>trivial) v
  rwa [append_nil]at this
def PZ (b:List Int):Tok:=⟨3,aj b,0,0⟩
theorem Id {b:List Int}(hb:∀z∈b,0≤z∧z≤255)(hl:b.length≤512):PartOk [(false,PZ b)] (ke b):=by
 have ht:aa (aj b)=b:=bj hb;have hs:(aj b).size≤512:=by rw[←ae,ht];exact hl
 have hi:isT (PZ b)=true:=by
  show decide ((aj b).size≤512)=true;exact decide_eq_true hs
 have hc:cN (PZ b)=0:=by
  unfold cN;exact if_pos ⟨hi,Int.le_refl _,.inl rfl⟩
 refine⟨⟨_,_,rfl⟩,?_,aK ⟨hc,Int.le_refl _,by show(0:Int)<_;decide⟩ db,⟨.inr rfl,trivial⟩,aI rfl cV⟩;rw[bp,if_neg (by simp),nil_append,bp,append_nil];unfold txtL textT ke;rw[if_pos hc,if_neg (show ¬(PZ b).kind=2 by show ¬(3:Int)=2;decide),if_pos (show(PZ b).kind=3 from rfl)];show aa (aj (eg (aa (aj b))))=_;rw[ht]
theorem Ic {l:List OpV}(h:∀o∈l,OpOk o)(hne:l≠[]):PartOk (qH l) (cZ (l.map aS)):=by
 cases l with
 |nil=>exact absurd rfl hne
 |cons o r=>exact⟨PI (h o (by simp)),FN h,Gg h,EF fun t=>rfl,D4 _⟩
theorem wN:∀{l:List ByteArray} {x:ByteArray},x∈l→x.size≤(gA l).size:=by
 have hr:∀{l:List ByteArray} {x:ByteArray},x∈l→x.size≤(wJ l).length:=by
  intro l x hx
  induction l with
  |nil=>cases hx
  |cons y r ih =>
   rw[wJ,length_cons,length_append,ae];rcases List.mem_cons.1 hx with rfl | hx
   ·omega
   ·have:=ih hx;omega
 intro l x hx;cases l with
 |nil=>cases hx
 |cons y r =>
  rw[←ae (gA (y::r)),gA,pr,length_append,ae];rcases List.mem_cons.1 hx with rfl | hx
  ·omega
  ·have:=hr hx;omega
theorem zY:∀{l:List ByteArray} {x:ByteArray},x∈l→x.size≤(cZ l).size:=by
 have hr:∀{l:List ByteArray} {x:ByteArray},x∈l→x.size≤(Ec l).length:=by
  intro l x hx
  induction l with
  |nil=>cases hx
  |cons y r ih =>
   rw[Ec,length_cons,length_cons,length_append,ae];rcases List.mem_cons.1 hx with rfl | hx
   ·omega
   ·have:=ih hx;omega
 intro l x hx;cases l with
 |nil=>cases hx
 |cons y r =>
  rw[←ae (cZ (y::r)),cZ,qz,length_append,ae];rcases List.mem_cons.1 hx with rfl | hx
  ·omega
  ·have:=hr hx;omega
end
section
open Ex (ax nameT valT ValOk qX txtL textT)
theorem PartOk.ne {p:List (Bool×Tok)}{x:ByteArray}(h:PartOk p x):x≠emp:=by
 obtain⟨t,r,e⟩:=h.head;have hs:=h.sure (false,t) (by rw[e];simp);have q0:0<(txtL t).length:=(Ex.txt_head hs.1 hs.2.1 []).1;intro hx;have hr:=h.rend;rw[e,hx,bp,if_neg (by simp),nil_append]at hr;have:=congrArg List.length hr;rw[length_append]at this;simp only[show aa emp=[] from rfl,List.length_nil]at this;omega
theorem PartOk.colon {p:List (Bool×Tok)}{x:ByteArray}(h:PartOk p x)(hc:bS x aO=false)(r:List Tok):atF (p.map (·.2)++r) 4 0≠aO:=by
 obtain⟨t,q,e⟩:=h.head;have hs:=h.sure (false,t) (by rw[e];simp);have hb:bare t=t:=h.noat (false,t) (by rw[e];simp);intro ha
 have h1:t.kind=4∧t.text=aO:=by
  rw[e]at ha;unfold atF at ha;simp only[map_cons,List.cons_append,List.getElem?_cons_zero]at ha;split at ha
  ·rename_i hk;exact⟨hk,ha⟩
  ·exact absurd ha (by decide)
 have hn:t.n=0:=by
  have h2:cN t=0:=hs.1;unfold cN at h2;split at h2
  ·rename_i hc2;rcases hc2.2.2 with h3 | h3
   ·exact h3
   ·omega
  ·omega
 have ht:t=ax aO:=Kg h1.1 h1.2 hn (by rw[←hb];rfl);have hr:=h.rend;rw[e,ht,bp,if_neg (by simp),nil_append,Ex.txt_sgn gT.1]at hr;rw[rA.2 ⟨_,hr.symm⟩]at hc;cases hc
theorem Bh {α:Type}(f:α→List (Bool×Tok)):∀l:List α,(ya (l.map f)).map (·.2)=l.flatMap fun a=>ax aA::(f a).map (·.2)
 |[]=>rfl
 |a::l=>by
  rw[map_cons,ya,map_cons,map_append,pU,Bh f l,List.flatMap_cons];rfl
theorem Bg {α:Type}(f:α→List (Bool×Tok))(a:α)(l:List α):(x9 ((a::l).map f)).map (·.2)=(f a).map (·.2)++l.flatMap fun a=>ax aA::(f a).map (·.2):=by
 rw[map_cons,x9,map_append,Bh]
theorem BK (n:ByteArray)(e:Int)(r:List Tok):nextF 1 e (nameT n::r)=.ok (n,r):=rfl
theorem zj (n:ByteArray)(r:List Tok)(s:StV):nameR ⟨nameT n::r,s⟩=.ok ⟨r,{ s with names:=s.names++[n] }⟩:=rfl
theorem B4:∀(r:List ByteArray) (n:ByteArray) (N:Nat) (s:StV),r.length≤N→eU nameR N ⟨nameT n::r.flatMap (fun m=>ax aA::[nameT m]),s⟩=.ok ⟨[],{ s with names:=s.names++n::r }⟩
 |[],n,N,s,_=>by
  unfold eU;rw[List.flatMap_nil,zj];simp only;rw[if_neg (by rw[qe];decide)]
 |m::r,n,0,s,h=>by simp at h
 |m::r,n,N+1,s,h=>by
  unfold eU;rw[zj];simp only;rw[if_pos (show atF ((m::r).flatMap fun m=>ax aA::[nameT m]) 4 0=aA from rfl)];have e:((m::r).flatMap fun m=>ax aA::[nameT m]).drop 1=nameT m::r.flatMap fun m=>ax aA::[nameT m]:=rfl;rw[e,B4 r m N _ (by simpa using h)];simp only[List.append_assoc,List.singleton_append]
theorem Ci (r:List Val):Ex.Ends (r.flatMap fun w=>ax aA::valT w) 0:=by
 cases r with
 |nil=>exact Ex.ends_emp rfl
 |cons w r=>exact sH _
theorem rP {v:Val}(hv:ValOk v){r:List Tok}(he:Ex.Ends r 0)(s:StV):valR2 ⟨valT v++r,s⟩=.ok ⟨r,{ s with vals:=s.vals++[v] }⟩:=by
 unfold valR2;simp only;rw[e9 hv he]
theorem B5:∀(r:List Val) (v:Val) (N:Nat) (s:StV),(∀w∈v::r,ValOk w)→r.length≤N→eU valR2 N ⟨valT v++r.flatMap (fun w=>ax aA::valT w),s⟩=.ok ⟨[],{ s with vals:=s.vals++v::r }⟩
 |[],v,N,s,h,_=>by
  unfold eU;rw[rP (h v (by simp)) (Ci []) s];simp only[List.flatMap_nil];rw[if_neg (by rw[qe];decide)]
 |w::r,v,0,s,_,h=>by simp at h
 |w::r,v,N+1,s,hv,h=>by
  unfold eU;rw[rP (hv v (by simp)) (Ci (w::r)) s];simp only;rw[if_pos (show atF ((w::r).flatMap fun w=>ax aA::valT w) 4 0=aA from rfl)];have e:((w::r).flatMap fun w=>ax aA::valT w).drop 1=valT w++r.flatMap fun w=>ax aA::valT w:=rfl;rw[e,B5 r w N _ (fun u hu=>hv u (List.mem_cons_of_mem _ hu)) (by simpa using h)];simp only[List.append_assoc,List.singleton_append]
theorem rz (v:Val)(r:List Tok):atF (valT v++r) 4 0≠aO:=by
 unfold valT;split
 ·split
  ·show Ex.minusS≠aO;decide
  ·show emp≠aO;decide
 ·split
  ·show emp≠aO;decide
  ·show emp≠aO;decide
def C3 (n:ByteArray):List (Bool×Tok):=[(false,nameT n),sg aO]
theorem wp:∀(ls out:List ByteArray) (N:Nat) (r:List Tok),ls.length≤N→(∀n∈ls,n≠mf)→out.length+ls.length≤8→¬(isF r 1 0=true∧atF r 4 1=aO) →
  labelsF N out (fL (ls.map C3)++r)=.ok (out++ls,r)
 |[],out,0,r,_,_,_,_=>by rw[append_nil];rfl
 |[],out,N+1,r,_,_,_,hr=>by
  show labelsF (N+1) out r=_;unfold labelsF;rw[if_neg hr,append_nil]
 |n::ls,out,0,r,h,_,_,_=>by simp at h
 |n::ls,out,N+1,r,h,hd,h8,hr=>by
  have e:fL ((n::ls).map C3)++r=nameT n::ax aO::(fL (ls.map C3)++r):=rfl;rw[e];unfold labelsF;rw[if_pos ⟨rfl,rfl⟩,Jy,if_neg (hd n (by simp)),if_neg (by simp at h8;omega)];show labelsF N (out++[n]) (fL (ls.map C3)++r)=_;rw[wp ls (out++[n]) N r (by simpa using h) (fun m hm=>hd m (by simp[hm])) (by simp at h8 ⊢;omega) hr];simp
theorem EV:∀ls:List ByteArray,ls.length≤(fL (ls.map C3)).length
 |[]=>Nat.zero_le _
 |n::ls=>by
  have e:fL ((n::ls).map C3)=nameT n::ax aO::fL (ls.map C3):=rfl;rw[e];have:=EV ls;simp;omega
theorem Lz {ls:List ByteArray}{ps:List (List (Bool×Tok))}{xs:List ByteArray}{u:StV}(h1:∀n∈ls,br n=true∧n≠mf)(h8:ls.length≤8)(hk:PartsOk ps xs)(hn:atF (fL ps) 4 1≠aO)
  (hsz:(gA ((ls.map fun n=>n++aO)++xs)).size≤512)
  (hb:(if fL ps=[] then(.ok { st0 with labels:=ls }:Except Int StV) else match restR ⟨fL ps,{ st0 with labels:=ls }⟩ with
   |.error e=>.error e
   |.ok p=>.ok p.s)=.ok u):gl (aa (gA ((ls.map fun n=>n++aO)++xs)))=.ok u:=by
 have hA:PartsOk (ls.map C3++ps) ((ls.map fun n=>n++aO)++xs):=(PartsOk.of_map fun n hn=>Ib (h1 n hn).1).app hk;obtain⟨i1,i2,i3,i4⟩:=PQ hA;obtain⟨ts,k1,k2⟩:=wH none 0 i2 i3;rw[i1]at k1
 have hts:ts.map bare=fL (ls.map C3)++fL ps:=by
  rw[k2,←M9,←Ie];exact List.map_congr_left fun v hv=>i4 v hv
 have hl:gB (aa (gA ((ls.map fun n=>n++aO)++xs)))=(ts,0+(aa (gA ((ls.map fun n=>n++aO)++xs))).length,0):=by
  unfold gB;rw[if_neg (by rw[ae];omega),k1]
 unfold gl;rw[hl];simp only[if_true];rw[←Fy,hts];unfold qN;rw[wp ls [] _ _ (by rw[length_append];have:=EV ls;omega) (fun n hn=>(h1 n hn).2) (by simpa using h8) (fun h=>hn h.2)];simp only[nil_append];exact hb
end
section
open Ex (ax nameT valT ValOk qX txtL textT)
theorem Ce {l:List OpV}{s:ByteArray}(h:∀o∈l,okO o)(ht:fm l=(s,0)):s=cZ (l.map aS)∧(∀o∈l,OpOk o)∧jf l=false∧l.length≤8:=by
 unfold fm at ht;split at ht
 ·rename_i hc;injection ht with h1 h2;exact absurd h2 hc
 rename_i hc;split at ht
 ·injection ht with h1 h2;cases h2
 rename_i h8;split at ht
 ·injection ht with h1 h2;cases h2
 rename_i hb;injection ht with h1 h2;subst h1
 have hall:∀o∈l,fB o=0:=by
  have hc:=Decidable.not_not.1 hc;intro o ho;obtain⟨i,hi,e⟩:=List.mem_iff_getElem.1 ho
  have key:∀n:Nat,∀j,j<n→∀p,l[j]? = some p→fB p=0:=by
   intro n
   induction n with
   |zero=>intro j hj;omega
   |succ n ih =>
    intro j hj p hp;by_cases hz:fB p=0
    ·exact hz
    ·have:=uO (i:=j) (fun k q hk hq=>ih k (by omega) q hq) hp hz;rw[hc]at this;exact absurd this.symm hz
  exact key (i+1) i (Nat.lt_succ_self i) o (by rw[List.getElem?_eq_getElem hi,e])
 exact⟨rfl,fun o ho=>⟨h o ho,hall o ho⟩,by simpa using hb,by omega⟩
structure Ny (s:StV):Prop where
 vals:∀v∈s.vals,jg v
 opers:∀o∈s.opers,okO o
 bytes:∀z∈s.bytes,0≤z∧z≤255
theorem Ai {n:ByteArray}(h:eK (aa n)=true)(hs:n.size≤512):br n=true:=by
 unfold br;rw[decide_eq_true hs,Ex.nameB_nameL,h];rfl
theorem Aq:∀{l:List Val},lH l=0→∀v∈l,(Ex.printF v).2=0
 |[],_,v,hv=>by cases hv
 |w::r,h,v,hv=>by
  unfold lH at h;split at h
  ·rename_i h0;rcases List.mem_cons.1 hv with rfl | hv
   ·exact h0
   ·exact Aq h v hv
  ·rename_i h0;exact absurd h h0
theorem Ki {v:Val}(hp:(Ex.printF v).2=0)(h:jg v):ValOk v:=Ex.print_ok (s:=(Ex.printF v).1) (by rw[←hp]) h.2.2.1 h.2.2.2
theorem IY {n:ByteArray}(h:(n++aO).size≤512):n.size≤512:=by
 rw[ByteArray.size_append]at h;omega
def x6 (s:StV):List ByteArray:=[(aG s).1,(aG s).2].filter fun w=>!decide (w=emp)
theorem Bc {s:StV}{a b:ByteArray}(h:aG s=(a,b))(ha:a≠emp)(hb:b≠emp):x6 s=[a,b]:=by
 unfold x6;rw[h];simp[ha,hb]
theorem UJ {s:StV}{a:ByteArray}(h:aG s=(a,emp))(ha:a≠emp):x6 s=[a]:=by
 unfold x6;rw[h];simp[ha]
structure tn (s:StV):Prop where
 labels:∀n∈s.labels,br n=true∧n≠mf
 few:s.labels.length≤8
 uses:sn s=true
 counts:aX s=true
 names:∀n∈s.names,eK (aa n)=true
 nfew:s.names.length≤64
 vfew:s.vals.length≤64
 align:s.kind=4→ip (s.vals.getD 0 ⟨0,emp,emp⟩)=true
 vals:∀v∈s.vals,(Ex.printF v).2=0∧ValOk v
 opers:bS (fm s.opers).1 aO=false∧(fm s.opers).2=0
 size:(r9 s).size≤512
theorem OA {s:StV}{t:ByteArray}(hg:Ny s)(h:kF s=(t,0)):tn s∧t=r9 s:=by
 unfold kF at h;split at h
 ·rename_i hc;injection h with h1 h2;exact absurd h2 hc
 rename_i hc;split at h
 ·injection h with h1 h2;cases h2
 rename_i hsz;injection h with h1 h2;have hc:=Decidable.not_not.1 hc;unfold eZ at hc;split at hc
 ·cases hc
 rename_i c1;split at hc
 ·cases hc
 rename_i c2;split at hc
 ·cases hc
 rename_i c3;split at hc
 ·cases hc
 rename_i c4;split at hc
 ·rename_i c5;exact absurd hc c5
 rename_i c5;simp only[Bool.not_eq_false,and_eq_true,List.all_eq_true]at c1 c3;have hlab:∀n∈s.labels,(n++aO).size≤(r9 s).size:=fun n hn=>wN (List.mem_append.2 (.inl (List.mem_map.2 ⟨n,hn,rfl⟩)));refine⟨⟨fun n hn=>?_,by omega,c1.2,c3.1,c3.2,by omega,by omega,fun hk=>?_,fun v hv=>?_,?_,by omega⟩,h1.symm⟩
 ·have:=c1.1 n hn;unfold iU at this;simp only[and_eq_true,Bool.not_eq_true',decide_eq_false_iff_not]at this;exact⟨Ai this.1 (IY (by have:=hlab n hn;omega)),this.2⟩
 ·cases hi:ip (s.vals.getD 0 ⟨0,emp,emp⟩) with
  |true=>rfl
  |false=>exact absurd ⟨hk,hi⟩ c4
 ·have:=Aq (Decidable.not_not.1 c5) v hv;exact⟨this,Ki this (hg.vals v hv)⟩
 ·unfold qG at hc;split at hc
  ·cases hc
  ·rename_i hp;exact⟨by simpa using hp,hc⟩
theorem oq {s:StV}(h:tn s){x:ByteArray}(hx:x∈x6 s):x.size≤512:=by
 have:x.size≤(r9 s).size:=wN (List.mem_append.2 (.inr hx));have:=h.size;omega
theorem t7 {s u:StV}(h:tn s){ps:List (List (Bool×Tok))}(hk:PartsOk ps (x6 s))(hn:atF (fL ps) 4 1≠aO)
  (hb:(if fL ps=[] then(.ok { st0 with labels:=s.labels }:Except Int StV) else match restR ⟨fL ps,{ st0 with labels:=s.labels }⟩ with
   |.error e=>.error e
   |.ok p=>.ok p.s)=.ok u):gl (aa (r9 s))=.ok u :=
 Lz h.labels h.few hk hn h.size hb
theorem T7:br gI=true∧br hZ=true∧br dJ=true∧br gy=true∧br ic=true∧br mY=true∧br kL=true∧br pZ=true∧br kM=true∧br r6=true:=by decide +kernel
theorem FP {d:ByteArray}(h1:d≠mf)(h2:bS d mf=true)(r:List Tok)(s:StV):restR ⟨nameT d::r,s⟩=AB d ⟨r,s⟩:=by
 unfold restR;simp only;rw[BK];simp only;rw[if_neg h1,if_pos h2]
theorem Og {d:ByteArray}{p:PsV}{s:StV}(h:readR d p=.ok ⟨[],s⟩):AB d p=.ok ⟨[],s⟩:=by
 unfold AB;rw[h];simp only;rw[if_pos trivial]
theorem kZ {s u:StV}(h:tn s){d w:ByteArray}{p:List (Bool×Tok)}(hw:aG s=(d,w))(hd:br d=true∧d≠mf∧bS d mf=true)(hp:PartOk p w)(hc:atF (p.map (·.2)) 4 0≠aO)
  (hr:readR d ⟨p.map (·.2),{ st0 with labels:=s.labels }⟩=.ok ⟨[],u⟩):gl (aa (r9 s))=.ok u:=by
 have hdp:=lX hd.1;have hx:=Bc hw hdp.ne hp.ne
 have ht:fL [[(false,nameT d)],p]=nameT d::p.map (·.2):=by
  unfold fL;simp
 refine t7 h (ps:=[[(false,nameT d)],p]) (by rw[hx];exact .cons hdp (.cons hp .nil)) (by rw[ht];exact hc) ?_;rw[ht,if_neg (by simp),FP hd.2.1 hd.2.2,Og hr]
theorem K0 {s u:StV}(h:tn s){d:ByteArray}(hw:aG s=(d,emp))(hd:br d=true∧d≠mf∧bS d mf=true)
  (hr:readR d ⟨[],{ st0 with labels:=s.labels }⟩=.ok ⟨[],u⟩):gl (aa (r9 s))=.ok u:=by
 have hdp:=lX hd.1;have hx:=UJ hw hdp.ne;have ht:fL [[(false,nameT d)]]=[nameT d]:=rfl;refine t7 h (ps:=[[(false,nameT d)]]) (by rw[hx];exact .cons hdp .nil) (by rw[ht,Jz,qe];decide) ?_;rw[ht,if_neg (by simp),FP hd.2.1 hd.2.2,Og hr]
theorem HM {ns:List ByteArray}(hne:ns≠[])(hn:∀n∈ns,eK (aa n)=true)(hs:(cZ ns).size≤512):PartOk (x9 (ns.map fun n=>[(false,nameT n)])) (cZ ns):=by
 have h:PartsOk (ns.map fun n=>[(false,nameT n)]) (ns.map id):=PartsOk.of_map fun n hm=>lX (Ai (hn n hm) (by have:=zY hm;omega));rw[List.map_id]at h;exact CL h (by simpa using hne)
theorem Nc {vs:List Val}(hne:vs≠[])(hv:∀v∈vs,(Ex.printF v).2=0∧ValOk v):PartOk (x9 (vs.map nS)) (cZ (bJ vs)) :=
 CL (PartsOk.of_map fun v hm=>zC (hv v hm).1 (hv v hm).2) (by simpa using hne)
end
section
open Ex (ax nameT valT ValOk qX txtL textT)
theorem Uf {s:StV}(h:sn s=true):(0≤s.kind∧s.kind≤7)∧(s.kind≠1→s.name=emp∧s.opers=[])∧(s.kind≠2→s.kind≠3→s.kind≠7→s.names=[])∧(s.kind≠4→s.kind≠5→s.kind≠7→s.vals=[])∧(s.kind≠5→s.size=0)∧(s.kind≠6→s.bytes=[]):=by
 unfold sn at h;simp only[and_eq_true,Bool.or_eq_true,decide_eq_true_eq]at h;obtain⟨⟨⟨⟨⟨h1,h2⟩,h3⟩,h4⟩,h5⟩,h6⟩:=h;exact⟨h1,fun k=>h2.resolve_right k,fun a b c=>h3.resolve_right (by omega),fun a b c=>h4.resolve_right (by omega),fun k=>h5.resolve_right k,fun k=>h6.resolve_right k⟩
theorem MS {s:StV}{t:ByteArray}(hg:Ny s)(h:kF s=(t,0)):gl (aa t)=.ok (nh s):=by
 obtain⟨H,rfl⟩:=OA hg h;obtain⟨hk,u1,u2,u3,u4,u5⟩:=Uf H.uses;have hC:=H.counts;obtain⟨d1,d2,d3,d4,d5,d6,d7,d8,d9,d10⟩:=T7;obtain⟨ls,k,name,opers,names,size,vals,bytes⟩:=s;simp only at hk u1 u2 u3 u4 u5;have hks:k=0∨k=1∨k=2∨k=3∨k=4∨k=5∨k=6∨k=7:=by omega
 rcases hks with rfl | rfl | rfl | rfl | rfl | rfl | rfl | rfl
 ·obtain⟨rfl,rfl⟩:=u1 (by decide);obtain rfl:=u2 (by decide) (by decide) (by decide);obtain rfl:=u3 (by decide) (by decide) (by decide);obtain rfl:=u4 (by decide);obtain rfl:=u5 (by decide);exact t7 H (ps:=[]) (.nil) (by rw[show fL []=[] from rfl,qe];decide) rfl
 ·obtain rfl:=u2 (by decide) (by decide) (by decide);obtain rfl:=u3 (by decide) (by decide) (by decide);obtain rfl:=u4 (by decide);obtain rfl:=u5 (by decide);unfold aX at hC;simp only[if_true,and_eq_true,Bool.not_eq_true']at hC;obtain⟨hL,hD⟩:=hC;have hnd:name≠mf:=fun e=>by rw[e]at hD;exact absurd hD (by decide)
  have hw:aG ⟨ls,1,name,opers,[],0,[],[]⟩=(name,(fm opers).1):=rfl;obtain⟨ho1,ho2⟩:=H.opers;obtain⟨g1,g2,g3,g4⟩:=Ce hg.opers (show fm opers=((fm opers).1,0) from Prod.ext rfl ho2);have hne:name≠emp:=fun e=>by rw[e]at hL;exact absurd hL (by decide)
  have hs:br name=true:=Ai hL (oq H (by unfold x6;rw[hw];simp[hne]));have hp1:=lX hs
  have rest:∀r:List Tok,listF r=.ok (opers.map aF)→(match restR ⟨nameT name::r,{ st0 with labels:=ls }⟩ with
   |.error e=>(.error e:Except Int StV)
   |.ok p=>.ok p.s)=.ok (nh ⟨ls,1,name,opers,[],0,[],[]⟩):=by
   intro r hr;unfold restR;simp only;rw[BK];simp only;rw[if_neg hnd,if_neg (by rw[hD];decide),hr];rfl
  by_cases hop:opers=[]
  ·subst hop;have hx:=UJ (show aG ⟨ls,1,name,[],[],0,[],[]⟩=(name,emp) from rfl) hne;refine t7 H (ps:=[[(false,nameT name)]]) (by rw[hx];exact .cons hp1 .nil) (by rw[show fL [[(false,nameT name)]]=[nameT name] from rfl,Jz,qe];decide) ?_;rw[show fL [[(false,nameT name)]]=[nameT name] from rfl,if_neg (by simp)];exact rest [] rfl
  ·have hp2:=Ic g2 hop;rw[←g1]at hp2;have hx:=Bc hw hne hp2.ne
   have ht:fL [[(false,nameT name)],qH opers]=nameT name::qI opers:=by
    unfold fL;simp[zy]
   have hcol:=hp2.colon ho1 [];rw[append_nil,zy]at hcol;refine t7 H (ps:=[[(false,nameT name)],qH opers]) (by rw[hx];exact .cons hp1 (.cons hp2 .nil)) (by rw[ht];exact hcol) ?_;rw[ht,if_neg (by simp)];exact rest _ (OO g2 g3 g4)
 ·obtain⟨rfl,rfl⟩:=u1 (by decide);obtain rfl:=u3 (by decide) (by decide) (by decide);obtain rfl:=u4 (by decide);obtain rfl:=u5 (by decide)
  have hl:names.length=1:=by
   have:decide (names.length=1)=true:=hC;exact of_decide_eq_true this
  obtain⟨n,rfl⟩:=List.length_eq_one_iff.1 hl;by_cases hn:n=gI∨n=hZ
  ·have hw:aG ⟨ls,2,emp,[],[n],0,[],[]⟩=(n,emp):=by
    show(if n=gI∨n=hZ then(n,emp) else(dJ,n))=_;rw[if_pos hn]
   refine K0 H hw (by rcases hn with rfl | rfl<;>exact⟨by assumption,by decide,by decide⟩) ?_;unfold readR;rw[if_pos hn];rfl
  ·have hw:aG ⟨ls,2,emp,[],[n],0,[],[]⟩=(dJ,n):=by
    show(if n=gI∨n=hZ then(n,emp) else(dJ,n))=_;rw[if_neg hn]
   have hnL:=H.names n (by simp);have hne:n≠emp:=fun e=>by rw[e]at hnL;exact absurd hnL (by decide)
   have hs:br n=true:=Ai hnL (oq H (by rw[Bc hw (by decide) hne];simp));refine kZ H hw ⟨d3,by decide,by decide⟩ (lX hs) (by show emp≠aO;decide) ?_;unfold readR;rw[if_neg (by decide),if_pos rfl];rfl
 ·obtain⟨rfl,rfl⟩:=u1 (by decide);obtain rfl:=u3 (by decide) (by decide) (by decide);obtain rfl:=u4 (by decide);obtain rfl:=u5 (by decide)
  have hl:0<names.length:=by
   have:decide (0<names.length)=true:=hC;exact of_decide_eq_true this
  cases names with
  |nil=>simp at hl
  |cons n r =>
   have hw:aG ⟨ls,3,emp,[],n::r,0,[],[]⟩=(gy,cZ (n::r)):=rfl
   have hne:cZ (n::r)≠emp:=fun e=>by
    have h0:n.size≤(cZ (n::r)).size:=zY (by simp);rw[e]at h0;have hnL:=H.names n (by simp);have:n=emp:=ByteArray.size_eq_zero_iff.1 (by have:emp.size=0:=rfl;omega);rw[this]at hnL;exact absurd hnL (by decide)
   have hp:=HM (ns:=n::r) (by simp) H.names (oq H (by rw[Bc hw (by decide) hne];simp));have ht:=Bg (fun n=>[(false,nameT n)]) n r;refine kZ H hw ⟨d4,by decide,by decide⟩ hp (by rw[ht];show emp≠aO;decide) ?_;rw[ht];unfold readR;rw[if_neg (by decide),if_neg (by decide),if_pos rfl];exact B4 r n 63 { st0 with labels:=ls,kind:=3 } (by have:=H.nfew;simp at this;omega)
 ·obtain⟨rfl,rfl⟩:=u1 (by decide);obtain rfl:=u2 (by decide) (by decide) (by decide);obtain rfl:=u4 (by decide);obtain rfl:=u5 (by decide)
  have hl:vals.length=1:=by
   have:decide (vals.length=1)=true:=hC;exact of_decide_eq_true this
  obtain⟨v,rfl⟩:=List.length_eq_one_iff.1 hl;obtain⟨hv1,hv2⟩:=H.vals v (by simp);have hw:aG ⟨ls,4,emp,[],[],0,[v],[]⟩=(ic,(Ex.printF v).1):=rfl;refine kZ H hw ⟨d5,by decide,by decide⟩ (zC hv1 hv2) (by rw[gZ];have:=rz v [];rwa [append_nil]at this) ?_;rw[gZ];unfold readR;rw[if_neg (by decide),if_neg (by decide),if_neg (by decide),if_pos rfl];unfold kr;have e:=rP hv2 (r:=[]) (Ex.ends_emp rfl) { st0 with labels:=ls,kind:=4 };rw[append_nil]at e;rw[show rc 4 ⟨valT v,{ st0 with labels:=ls }⟩=⟨valT v,{ st0 with labels:=ls,kind:=4 }⟩ from rfl,e];simp only;rw[if_pos (show ip ((st0.vals++[v]).getD 0 ⟨0,emp,emp⟩)=true from H.align rfl)];rfl
 ·obtain⟨rfl,rfl⟩:=u1 (by decide);obtain rfl:=u2 (by decide) (by decide) (by decide);obtain rfl:=u5 (by decide)
  have hl:0<vals.length∧(size=1∨size=4∨size=8):=by
   have:(decide (0<vals.length)&&decide (size=1∨size=4∨size=8))=true:=hC;simpa using this
  obtain⟨hl,hz⟩:=hl;cases vals with
  |nil=>simp at hl
  |cons v r =>
   have hp:=Nc (vs:=v::r) (by simp) H.vals
   have ht:(x9 ((v::r).map nS)).map (·.2)=valT v++r.flatMap fun w=>ax aA::valT w:=by
    rw[Bg,gZ];simp only[gZ]
   have hrow:=fun z=>B5 r v 63 { st0 with labels:=ls,kind:=5,size:=z } (fun w hw=>(H.vals w hw).2) (by have:=H.vfew;simp at this;omega);rcases hz with rfl | rfl | rfl
   ·refine kZ H (d:=mY) (w:=cZ (bJ (v::r))) rfl ⟨d6,by decide,by decide⟩ hp (by rw[ht];exact rz v _) ?_;rw[ht];unfold readR;rw[if_neg (by decide),if_neg (by decide),if_neg (by decide),if_neg (by decide),if_pos rfl];exact hrow 1
   ·refine kZ H (d:=kL) (w:=cZ (bJ (v::r))) rfl ⟨d7,by decide,by decide⟩ hp (by rw[ht];exact rz v _) ?_;rw[ht];unfold readR;rw[if_neg (by decide),if_neg (by decide),if_neg (by decide),if_neg (by decide),if_neg (by decide),if_pos rfl];exact hrow 4
   ·refine kZ H (d:=pZ) (w:=cZ (bJ (v::r))) rfl ⟨d8,by decide,by decide⟩ hp (by rw[ht];exact rz v _) ?_;rw[ht];unfold readR;rw[if_neg (by decide),if_neg (by decide),if_neg (by decide),if_neg (by decide),if_neg (by decide),if_neg (by decide),if_pos rfl];exact hrow 8
 ·obtain⟨rfl,rfl⟩:=u1 (by decide);obtain rfl:=u2 (by decide) (by decide) (by decide);obtain rfl:=u3 (by decide) (by decide) (by decide);obtain rfl:=u4 (by decide);have hw:aG ⟨ls,6,emp,[],[],0,[],bytes⟩=(kM,ke bytes):=rfl;have hb:=hg.bytes
  have hq:(ke bytes).size=(eg bytes).length:=by
   rw[←ae,ke,bj (Ex.quoteL_range hb)]
  have hqne:ke bytes≠emp:=fun e=>by
   have:(ke bytes).size=0:=by rw[e];rfl
   rw[hq]at this;unfold eg at this;simp at this
  have hqs:=oq H (x:=ke bytes) (by rw[Bc hw (by decide) hqne];simp)
  have hqlen:bytes.length≤(eg bytes).length:=by
   have h1:∀l:List Int,l.length≤(ee l).length:=by
    intro l
    induction l with
    |nil=>simp
    |cons c l ih =>
     have e:ee (c::l)=dz c++ee l:=rfl;have:1≤(dz c).length:=by unfold dz;split<;>(try split)<;>simp
     rw[e,length_append,length_cons];omega
   have:=h1 bytes;unfold eg;simp;omega
  refine kZ H hw ⟨d9,by decide,by decide⟩ (Id hb (by omega)) (by show emp≠aO;decide) ?_;unfold readR;rw[if_neg (by decide),if_neg (by decide),if_neg (by decide),if_neg (by decide),if_neg (by decide),if_neg (by decide),if_neg (by decide),if_pos rfl];show(Except.ok (⟨[],{ st0 with labels:=ls,kind:=6,bytes:=aa (aj bytes) }⟩:PsV):Except Int PsV)=_;rw[bj hb];rfl
 ·obtain⟨rfl,rfl⟩:=u1 (by decide);obtain rfl:=u4 (by decide);obtain rfl:=u5 (by decide)
  have hl:names.length=1∧vals.length=1:=by
   have:(decide (names.length=1)&&decide (vals.length=1))=true:=hC;simpa using this
  obtain⟨n,rfl⟩:=List.length_eq_one_iff.1 hl.1;obtain⟨v,rfl⟩:=List.length_eq_one_iff.1 hl.2;obtain⟨hv1,hv2⟩:=H.vals v (by simp);have hw:aG ⟨ls,7,emp,[],[n],0,[v],[]⟩=(r6,n++dR++(Ex.printF v).1):=rfl;have hnL:=H.names n (by simp)
  have hwn:n++dR++(Ex.printF v).1≠emp:=fun e=>by
   have:=congrArg ByteArray.size e;rw[ByteArray.size_append,ByteArray.size_append]at this;have h2:dR.size=2:=rfl;have h3:emp.size=0:=rfl;omega
  have hsz:=oq H (x:=n++dR++(Ex.printF v).1) (by rw[Bc hw (by decide) hwn];simp);have hs:br n=true:=Ai hnL (by rw[ByteArray.size_append,ByteArray.size_append]at hsz;omega);have hp:PartOk (x9 [[(false,nameT n)],nS v]) (cZ [n,(Ex.printF v).1]):=CL (.cons (lX hs) (.cons (zC hv1 hv2) .nil)) (by simp)
  have ht:(x9 [[(false,nameT n)],nS v]).map (·.2)=nameT n::ax aA::valT v:=by
   unfold x9 ya ya;simp only[map_append,map_cons,pU,gZ,List.map_nil,append_nil];rfl
  refine kZ H (d:=r6) (w:=cZ [n,(Ex.printF v).1]) rfl ⟨d10,by decide,by decide⟩ hp (by rw[ht];show emp≠aO;decide) ?_;rw[ht];unfold readR;rw[if_neg (by decide),if_neg (by decide),if_neg (by decide),if_neg (by decide),if_neg (by decide),if_neg (by decide),if_neg (by decide),if_neg (by decide),if_pos rfl];have e:=rP hv2 (r:=[]) (Ex.ends_emp rfl) { st0 with labels:=ls,kind:=7,names:=[n] };rw[append_nil]at e;exact e
end
end Go.Proofs.YtnhbidpdadkcjaaGreatDoor
