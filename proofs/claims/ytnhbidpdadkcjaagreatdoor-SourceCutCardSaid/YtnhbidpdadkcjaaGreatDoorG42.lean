import Derived.Test.YtnhbidpdadkcjaaGreatDoorG30
open Go.RowKit
set_option linter.unusedVariables false
set_option linter.unusedSimpArgs false
set_option maxRecDepth 100000
set_option maxHeartbeats 8000000
open List (mem_singleton length_append)
open Nat (zero_le)
namespace Go.Proofs.YtnhbidpdadkcjaaGreatDoor
structure StV where
 labels:List ByteArray
 kind:Int
 name:ByteArray
 opers:List OpV
 names:List ByteArray
 size:Int
 vals:List Val
 bytes:List Int
def st0:StV:=⟨[],0,emp,[],[],0,[],[]⟩
structure PsV where
 l:List Tok
 s:StV
def sx:ByteArray:=⟨#[46]⟩
def ia:ByteArray:=(⟨#[46,116,101,120,116]⟩:ByteArray)
def iB:ByteArray:=(⟨#[46,100,97,116,97]⟩:ByteArray)
def fk:ByteArray:=(⟨#[46,115,101,99,116,105,111,110]⟩:ByteArray)
def iI:ByteArray:=(⟨#[46,103,108,111,98,97,108]⟩:ByteArray)
def jx:ByteArray:=(⟨#[46,97,108,105,103,110]⟩:ByteArray)
def qV:ByteArray:=(⟨#[46,98,121,116,101]⟩:ByteArray)
def pr:ByteArray:=(⟨#[46,119,111,114,100]⟩:ByteArray)
def wq:ByteArray:=(⟨#[46,113,117,97,100]⟩:ByteArray)
def pA:ByteArray:=(⟨#[46,97,115,99,105,105]⟩:ByteArray)
def AT:ByteArray:=(⟨#[46,101,113,117]⟩:ByteArray)
def isF (l:List Tok)(k:Int)(n:Nat):Bool:=match l[n]? with
 |some t=>decide (t.kind=k)
 |none=>false
def aL (k e:Int)(l:List Tok):Except Int (ByteArray×List Tok):=if isF l k 0=true then .ok (atF l k 0,l.drop 1) else .error e
def bm:Nat→List ByteArray→List Tok→Except Int (List ByteArray×List Tok)
 |0,out,l=>.ok (out,l)
 |N+1,out,l=>if isF l 1 0=true∧atF l 4 1=cj then(if atF l 1 0=sx then .error 110 else if out.length=8 then .error 3 else bm N (out++[atF l 1 0]) (l.drop 2)) else .ok (out,l)
def bM (p:PsV):Except Int PsV:=match aL 1 112 p.l with
 |.error e=>.error e
 |.ok (t,l)=>.ok ⟨l,{ p.s with names:=p.s.names++[t] }⟩
def bV (p:PsV):Except Int PsV:=match aP p.l with
 |.error e=>.error e
 |.ok (v,l)=>.ok ⟨l,{ p.s with vals:=p.s.vals++[v] }⟩
def dm (rd:PsV→Except Int PsV):Nat→PsV→Except Int PsV
 |N,p=>match rd p with
  |.error e=>.error e
  |.ok p=>if atF p.l 4 0=cQ then(match N with
    |0=>.error 3
    |N+1=>dm rd N ⟨p.l.drop 1,p.s⟩) else .ok p
def gz (v:Val):Bool:=decide ((v.plus=emp∧v.minus=emp)∧0≤v.add∧v.add≤12)
def jZ (p:PsV):Except Int PsV:=match bV p with
 |.error e=>.error e
 |.ok p=>if gz (p.s.vals.getD 0 ⟨0,emp,emp⟩)=true then .ok p else .error 7
def rh (p:PsV):Except Int PsV:=match bM p with
 |.error e=>.error e
 |.ok p=>if atF p.l 4 0=cQ then bV ⟨p.l.drop 1,p.s⟩ else .error 112
def j0 (p:PsV):Except Int PsV:=match aL 3 112 p.l with
 |.error e=>.error e
 |.ok (t,l)=>.ok ⟨l,{ p.s with bytes:=aa t }⟩
def dA (n:Int)(p:PsV):Except Int PsV:=dm bV 63 ⟨p.l,{ p.s with kind:=5,size:=n }⟩
def dK (k:Int)(p:PsV):PsV:=⟨p.l,{ p.s with kind:=k }⟩
def mI (name:ByteArray)(p:PsV):Except Int PsV :=
 if name=ia∨name=iB then .ok ⟨p.l,{ p.s with kind:=2,names:=[name] }⟩
 else if name=fk then bM (dK 2 p)
 else if name=iI then dm bM 63 (dK 3 p)
 else if name=jx then jZ (dK 4 p)
 else if name=qV then dA 1 p
 else if name=pr then dA 4 p
 else if name=wq then dA 8 p
 else if name=pA then j0 (dK 6 p)
 else if name=AT then rh (dK 7 p)
 else .error 111
def Dz (name:ByteArray)(p:PsV):Except Int PsV:=match mI name p with
 |.error e=>.error e
 |.ok p=>if p.l=[] then .ok p else .error 112
def lF (p:PsV):Except Int PsV:=match aL 1 110 p.l with
 |.error e=>.error e
 |.ok (name,l)=>if name=sx then .error 110
  else if bY name sx=true then Dz name ⟨l,p.s⟩
  else match fP l with
   |.error e=>.error e
   |.ok o=>.ok ⟨l,{ p.s with kind:=1,name:=name,opers:=o }⟩
def lW (l:List Tok):Except Int StV:=match bm l.length [] l with
 |.error e=>.error e
 |.ok (ls,l)=>if l=[] then .ok { st0 with labels:=ls } else match lF ⟨l,{ st0 with labels:=ls }⟩ with
  |.error e=>.error e
  |.ok p=>.ok p.s
def eh (b:List Int):Except Int StV:=if(eF b).2.2=0 then lW (eF b).1 else .error (eF b).2.2
theorem QE {ρ:Nat→Loc}{al:Al}{sz:Nat}{v:Value}(h:LRep ρ al (.v (.slice none 0 0)) v):LRep ρ al (.d (.sd sz [])) v:=by
 have hv:v=.slice none 0 0:=h;rw[hv];simp only[LRep,DRep];exact⟨none,0,rfl,Nat.le_refl _,fun h=>absurd rfl h⟩
theorem Wk.deepC {ro:Cf}{s:St}(b j:Nat)(sz:Nat){k:Blk}{xs:List LV}(hk:ac s.h b=some k)(hx:k.els=[xs])(hj:xs[j]? = some (.v (.slice none 0 0))) :
  Wk ro s ⟨s.nx,s.t,(b,some { k with els:=[xs.set j (.d (.sd sz []))] })::s.h⟩:=by
 intro n B w0 ρ al a w _ H;have hb':=H.w.blk b k hk;refine⟨ρ,al,H.size,H.defers,H.t,H.w.retell hk rfl (fun _=>by rw[hx];simp) ⟨hb'.here,hb'.own,hb'.sz,?_,?_,?_,hb'.room⟩,H.al⟩
 ·intro e he;simp only[mem_singleton]at he;subst he;rw[List.length_set];exact hb'.len xs (by rw[hx];simp)
 ·have:=hb'.cap;rw[hx]at this;exact this
 ·intro i j' x hc;obtain⟨rfl,h2⟩:=qk hc;rw[List.getElem?_set]at h2;split at h2
  ·rename_i ej;subst ej;split at h2
   ·injection h2 with h2;subst h2;obtain⟨y,g1,g2,g3⟩:=hb'.cells 0 j _ (by rw[hx];exact(show cellAt [xs] 0 j=_ from hj));exact⟨y,g1,g2,QE g3⟩
   ·cases h2
  ·exact hb'.cells 0 j' x (by rw[hx];exact h2)
def qv (n:ByteArray):Bool:=dJ (aa n)&&!decide (n=sx)
def se (s:StV):Bool :=
 decide (0≤s.kind∧s.kind≤7)&&(decide (s.name=emp∧s.opers=[])||decide (s.kind=1))&&(decide (s.names=[])||decide (s.kind=2∨s.kind=3∨s.kind=7))
  && (decide (s.vals=[])||decide (s.kind=4∨s.kind=5∨s.kind=7))&&(decide (s.size=0)||decide (s.kind=5))&&(decide (s.bytes=[])||decide (s.kind=6))
def aI (s:StV):Bool :=
 if s.kind=1 then dJ (aa s.name)&&!bY s.name sx
 else if s.kind=2 then decide (s.names.length=1)
 else if s.kind=3 then decide (0<s.names.length)
 else if s.kind=4 then decide (s.vals.length=1)
 else if s.kind=5 then decide (0<s.vals.length)&&decide (s.size=1∨s.size=4∨s.size=8)
 else if s.kind=7 then decide (s.names.length=1)&&decide (s.vals.length=1)
 else true
def CM:List Val→Int
 |[]=>0
 |v::r=>if(Ex.printF v).2=0 then CM r else(Ex.printF v).2
def sT (l:List OpV):Int:=if bY (ll l).1 cj=true then 110 else(ll l).2
def FT (s:StV):Int :=
 if(s.labels.all qv&&se s)=false then 110
 else if 8<s.labels.length∨64<s.names.length∨64<s.vals.length then 3
 else if(aI s&&s.names.all fun n=>dJ (aa n))=false then 110
 else if s.kind=4∧gz (s.vals.getD 0 ⟨0,emp,emp⟩)=false then 7
 else if ¬CM s.vals=0 then CM s.vals else sT s.opers
def E7 (l:List Val):List ByteArray:=l.map fun v=>(Ex.printF v).1
def Ra (b:List Int):ByteArray:=ao (gt b)
def Mz (s:StV):ByteArray×ByteArray :=
 if s.kind=1 then(s.name,(ll s.opers).1)
 else if s.kind=2 then(if s.names.getD 0 emp=ia∨s.names.getD 0 emp=iB then(s.names.getD 0 emp,emp) else(fk,s.names.getD 0 emp))
 else if s.kind=3 then(iI,mz s.names)
 else if s.kind=4 then(jx,(E7 s.vals).getD 0 emp)
 else if s.kind=5 then(if s.size=1 then qV else if s.size=4 then pr else wq,mz (E7 s.vals))
 else if s.kind=6 then(pA,Ra s.bytes)
 else if s.kind=7 then(AT,s.names.getD 0 emp++eO++(E7 s.vals).getD 0 emp)
 else(emp,emp)
def Qq:List ByteArray→ByteArray
 |[]=>emp
 |x::r=>r.foldl (fun a y=>a++⟨#[32]⟩++y) x
def Tg (s:StV):ByteArray:=Qq ((s.labels.map fun n=>n++cj)++[(Mz s).1,(Mz s).2].filter fun w=>!decide (w=emp))
def FJ (s:StV):StV:={ s with opers:=s.opers.map j6 }
theorem vF {l:List Tok}{k:Int}{n:Nat}(h:isF l k n=true):n<l.length:=by
 unfold isF at h;split at h
 ·rename_i t ht;exact(List.getElem?_eq_some_iff.1 ht).1
 ·cases h
theorem oN {k e:Int}{l r:List Tok}{t:ByteArray}(h:RdOk l)(hn:aL k e l=.ok (t,r)):RdOk r∧r.length<l.length∧r=l.drop 1∧t=atF l k 0∧isF l k 0=true:=by
 unfold aL at hn;split at hn
 ·rename_i h1;injection hn with hn;injection hn with h2 h3;subst h2 h3;have:=vF h1;exact⟨h.drop 1,by rw[List.length_drop];omega,rfl,rfl,h1⟩
 ·cases hn
theorem sN {k e x:Int}{l:List Tok}(hn:aL k e l=.error x):x=e:=by
 unfold aL at hn;split at hn
 ·cases hn
 ·injection hn with hn;exact hn.symm
theorem ni:∀{N:Nat} {out ls:List ByteArray} {l r:List Tok},RdOk l→out.length≤8→bm N out l=.ok (ls,r)→RdOk r∧ls.length≤8
 |0,out,ls,l,r,h,ho,e=>by
  injection e with e;injection e with e1 e2;subst e1 e2;exact⟨h,ho⟩
 |N+1,out,ls,l,r,h,ho,e=>by
  unfold bm at e;split at e
  ·split at e
   ·cases e
   ·split at e
    ·cases e
    ·refine ni (h.drop 2) ?_ e;rw[length_append,List.length_singleton];omega
  ·injection e with e;injection e with e1 e2;subst e1 e2;exact⟨h,ho⟩
theorem tP:∀{N:Nat} {out:List ByteArray} {l:List Tok} {x:Int},bm N out l=.error x→x≠0
 |0,out,l,x,e=>by cases e
 |N+1,out,l,x,e=>by
  unfold bm at e;split at e
  ·split at e
   ·injection e with e;omega
   ·split at e
    ·injection e with e;omega
    ·exact tP e
  ·cases e
structure BodyOk (a b:Nat)(p:PsV):Prop where
 toks:RdOk p.l
 names:p.s.names.length≤a
 vals:p.s.vals.length≤b
 good:∀v∈p.s.vals,Ex.GoodV v
theorem BodyOk.to {a b a' b':Nat}{p:PsV}(h:BodyOk a b p)(h1:a≤a')(h2:b≤b'):BodyOk a' b' p:=⟨h.toks,by have:=h.names;omega,by have:=h.vals;omega,h.good⟩
theorem BodyOk.with {a b:Nat}{p:PsV}(h:BodyOk a b p){l:List Tok}(hl:RdOk l){s:StV}(h1:s.names=p.s.names)(h2:s.vals=p.s.vals):BodyOk a b ⟨l,s⟩:=⟨hl,by rw[h1];exact h.names,by rw[h2];exact h.vals,by rw[h2];exact h.good⟩
theorem vV {a b:Nat}{p q:PsV}(h:BodyOk a b p)(e:bM p=.ok q):BodyOk (a+1) b q∧q.l.length<p.l.length:=by
 unfold bM at e;rcases hn:aL 1 112 p.l with x | ⟨t,l⟩
 ·rw[hn]at e;cases e
 ·rw[hn]at e;injection e with e;subst e;obtain⟨g1,g2,-⟩:=oN h.toks hn;refine⟨⟨g1,?_,h.vals,h.good⟩,g2⟩;simp only[length_append,List.length_singleton];have:=h.names;omega
theorem sK {p:PsV}{x:Int}(e:bM p=.error x):x≠0:=by
 unfold bM at e;rcases hn:aL 1 112 p.l with y | ⟨t,l⟩
 ·rw[hn]at e;injection e with e;have:=sN hn;omega
 ·rw[hn]at e;cases e
theorem CL {a b:Nat}{p q:PsV}(h:BodyOk a b p)(e:bV p=.ok q):BodyOk a (b+1) q∧q.l.length<p.l.length:=by
 unfold bV at e;rcases hn:aP p.l with x | ⟨v,l⟩
 ·rw[hn]at e;cases e
 ·rw[hn]at e;injection e with e;subst e;obtain⟨g1,g2,g3⟩:=eN h.toks hn;refine⟨⟨g2,h.names,?_,?_⟩,g3⟩
  ·simp only[length_append,List.length_singleton];have:=h.vals;omega
  ·intro w hw;simp only[List.mem_append,mem_singleton]at hw;rcases hw with hw | rfl
   ·exact h.good w hw
   ·exact g1
theorem tq {a b:Nat}{p:PsV}{x:Int}(h:BodyOk a b p)(e:bV p=.error x):x≠0:=by
 unfold bV at e;rcases hn:aP p.l with y | ⟨v,l⟩
 ·rw[hn]at e;injection e with e;subst e;exact fZ h.toks hn
 ·rw[hn]at e;cases e
theorem kJ {a b:Nat}{p:PsV}(h:BodyOk a b p):BodyOk a b ⟨p.l.drop 1,p.s⟩:=⟨h.toks.drop 1,h.names,h.vals,h.good⟩
theorem Cb:∀{N:Nat} {p:PsV} {x:Int},dm bM N p=.error x→x≠0
 |N,p,x,e=>by
  unfold dm at e;rcases h1:bM p with y | p1
  ·rw[h1]at e;injection e with e;subst e;exact sK h1
  ·rw[h1]at e;simp only at e;split at e
   ·cases N with
    |zero=>injection e with e;omega
    |succ N=>exact Cb e
   ·cases e
theorem Ce:∀{N a b:Nat} {p:PsV} {x:Int},BodyOk a b p→dm bV N p=.error x→x≠0
 |N,a,b,p,x,h,e=>by
  unfold dm at e;rcases h1:bV p with y | p1
  ·rw[h1]at e;injection e with e;subst e;exact tq h h1
  ·rw[h1]at e;obtain⟨g,-⟩:=CL h h1;simp only at e;split at e
   ·cases N with
    |zero=>injection e with e;omega
    |succ N=>exact Ce (kJ g) e
   ·cases e
theorem so {n:Int}{p:PsV}{x:Int}(h:BodyOk 0 0 p)(e:dA n p=.error x):x≠0:=by
 unfold dA at e;exact Ce (p:=⟨p.l,{ p.s with kind:=5,size:=n }⟩) (h.with h.toks rfl rfl) e
theorem Ix {name:ByteArray}{p:PsV}{x:Int}(h:BodyOk 0 0 p)(e:mI name p=.error x):x≠0:=by
 unfold mI at e;split at e
 ·cases e
 split at e
 ·exact sK e
 split at e
 ·exact Cb e
 split at e
 ·unfold jZ at e;rcases h1:bV (dK 4 p) with y | p1
  ·rw[h1]at e;injection e with e;subst e;exact tq (p:=dK 4 p) (h.with h.toks rfl rfl) h1
  ·rw[h1]at e;simp only at e;split at e
   ·cases e
   ·injection e with e;omega
 split at e
 ·exact so h e
 split at e
 ·exact so h e
 split at e
 ·exact so h e
 split at e
 ·unfold j0 at e;rcases h1:aL 3 112 (dK 6 p).l with y | ⟨t,l⟩
  ·rw[h1]at e;injection e with e;have:=sN h1;omega
  ·rw[h1]at e;cases e
 split at e
 ·unfold rh at e;rcases h1:bM (dK 7 p) with y | p1
  ·rw[h1]at e;injection e with e;subst e;exact sK h1
  ·rw[h1]at e;obtain⟨g,-⟩:=vV (p:=dK 7 p) (h.with h.toks rfl rfl) h1;simp only at e;split at e
   ·exact tq (kJ g) e
   ·injection e with e;omega
 ·injection e with e;omega
section
open Ex (fm nameT valT gw nJ dD jV)
structure PartOk (p:List (Bool×Tok))(x:ByteArray):Prop where
 head:∃t r,p=(false,t)::r
 rend:bg p=aa x
 sure:iY p
 fine:de none p
 noat:SC p
inductive yR:List (List (Bool×Tok))→List ByteArray→Prop
 |nil:yR [] []
 |cons {p x ps xs}:PartOk p x→yR ps xs→yR (p::ps) (x::xs)
end
section
open Ex (fm nameT valT gw nJ dD jV)
theorem PartOk.ne {p:List (Bool×Tok)}{x:ByteArray}(h:PartOk p x):x≠emp:=by
 obtain⟨t,r,e⟩:=h.head;have hs:=h.sure (false,t) (by rw[e];simp);have q0:0<(dD t).length:=(Ex.txt_head hs.1 hs.2.1 []).1;intro hx;have hr:=h.rend;rw[e,hx,bg,if_neg (by simp),List.nil_append]at hr;have:=congrArg List.length hr;rw[length_append]at this;simp only[show aa emp=[] from rfl,List.length_nil]at this;omega
theorem Sx (n:ByteArray)(e:Int)(r:List Tok):aL 1 e (nameT n::r)=.ok (n,r):=rfl
theorem QC (n:ByteArray)(r:List Tok)(s:StV):bM ⟨nameT n::r,s⟩=.ok ⟨r,{ s with names:=s.names++[n] }⟩:=rfl
theorem GS (v:Val)(r:List Tok):atF (valT v++r) 4 0≠cj:=by
 unfold valT;split
 ·split
  ·show Ex.minusS≠cj;decide
  ·show emp≠cj;decide
 ·split
  ·show emp≠cj;decide
  ·show emp≠cj;decide
end
section
open Ex (fm nameT valT gw nJ dD jV)
theorem yG {l:List OpV}{s:ByteArray}(h:∀o∈l,okO o)(ht:ll l=(s,0)):s=mz (l.map bG)∧(∀o∈l,OpOk o)∧pB l=false∧l.length≤8:=by
 unfold ll at ht;split at ht
 ·rename_i hc;injection ht with h1 h2;exact absurd h2 hc
 rename_i hc;split at ht
 ·injection ht with h1 h2;cases h2
 rename_i h8;split at ht
 ·injection ht with h1 h2;cases h2
 rename_i hb;injection ht with h1 h2;subst h1
 have hall:∀o∈l,gT o=0:=by
  have hc:=Decidable.not_not.1 hc;intro o ho;obtain⟨i,hi,e⟩:=List.mem_iff_getElem.1 ho
  have key:∀n:Nat,∀j,j<n→∀p,l[j]? = some p→gT p=0:=by
   intro n
   induction n with
   |zero=>intro j hj;omega
   |succ n ih =>
    intro j hj p hp;by_cases hz:gT p=0
    ·exact hz
    ·have:=xG (i:=j) (fun k q hk hq=>ih k (by omega) q hq) hp hz;rw[hc]at this;exact absurd this.symm hz
  exact key (i+1) i (Nat.lt_succ_self i) o (by rw[List.getElem?_eq_getElem hi,e])
 exact⟨rfl,fun o ho=>⟨h o ho,hall o ho⟩,by simpa using hb,by omega⟩
structure PU (s:StV):Prop where
 vals:∀v∈s.vals,nt v
 opers:∀o∈s.opers,okO o
 bytes:∀z∈s.bytes,0≤z∧z≤255
structure Uj (s:StV):Prop where
 labels:∀n∈s.labels,cJ n=true∧n≠sx
 few:s.labels.length≤8
 uses:se s=true
 counts:aI s=true
 names:∀n∈s.names,dJ (aa n)=true
 nfew:s.names.length≤64
 vfew:s.vals.length≤64
 align:s.kind=4→gz (s.vals.getD 0 ⟨0,emp,emp⟩)=true
 vals:∀v∈s.vals,(Ex.printF v).2=0∧gw v
 opers:bY (ll s.opers).1 cj=false∧(ll s.opers).2=0
 size:(Tg s).size≤512
end
section
open Ex (fm nameT valT gw nJ dD jV)
end
section
open Ex (fm nameT valT gw nJ dD jV)
theorem Ib (r:List Int):dH (58::r)=.ok (⟨4,ao [58],0,0⟩,1):=by
 have h1:ba (58::r)=1:=by
  unfold ba;rw[if_neg (by rintro⟨-,h⟩;revert h;rw[show bAt (58::r) 0=58 from rfl];rintro (⟨h,-⟩ | ⟨h,-⟩)<;>omega),if_pos ⟨by simp,by rw[show bAt (58::r) 0=58 from rfl];decide⟩]
 unfold dH;rw[h1];rfl
theorem Ab {q e:Nat}{r:List Int}{ts:List Tok}(h:aJ q (58::r)=(ts,e,0)):atF ts 4 0=cj:=by
 have hk:aS an (58::r)=0:=by rw[gm];rfl
 have hd:cA ((58::r).drop (aS an (58::r)))=false:=by
  rw[hk,List.drop_zero];unfold cA;rw[show bAt (58::r) 0=58 from rfl];simp
 have ho:dH ((58::r).drop (aS an (58::r)))=.ok (⟨4,ao [58],0,0⟩,1):=by rw[hk,List.drop_zero];exact Ib r
 rw[ib hd ho]at h;injection h with h1 h2;rw[←h1];rfl
theorem EZ {o:OpV}{x:List Tok}(h:atF ((mP o).map (·.2)++x) 4 0=cj):o.kind=2∧o.lo=true:=by
 have hne:emp≠cj:=by decide
 have hhash:cL≠cj:=by decide
 have hsg:∀(s:ByteArray) (p:List (Bool×Tok)) ,atF (((sg s::p).map (·.2))++x) 4 0=s:=fun s p=>rfl;have hnm:∀(b:Bool) (s:ByteArray) (p:List (Bool×Tok)),atF ((((b,nameT s)::p).map (·.2))++x) 4 0=emp:=fun b s p=>rfl
 have hnd:∀k n:Int,atF ((gY k n).map (·.2)++x) 4 0=cj→False:=by
  intro k n h;unfold gY at h;split at h
  ·rw[hnm]at h;exact hne h
  ·rw[hsg]at h;exact hhash h
 unfold mP at h;split at h
 ·rw[hnm]at h;exact(hne h).elim
 split at h
 ·rename_i k;refine⟨k,?_⟩;cases hl:o.lo with
  |true=>rfl
  |false =>
   have:iq o=sg cL::qI o.val:=by unfold iq;rw[if_neg (by rw[hl];decide)]
   rw[this,List.cons_append,hsg]at h;exact(hhash h).elim
 split at h
 ·split at h
  ·rw[hsg]at h;exact(hhash h).elim
  ·have e:(qI o.val).map (·.2)=valT o.val:=by unfold qI;rw[List.map_map];exact List.map_id _
   rw[e]at h;exact(GS _ _ h).elim
 split at h
 ·exact(hnd _ _ h).elim
 split at h
 ·exact(hnd _ _ h).elim
 split at h
 ·exact(hnd _ _ h).elim
 split at h
 ·exact(hnd _ _ h).elim
 split at h
 ·exact(hnd _ _ h).elim
 ·unfold Bu at h;rw[hsg]at h;exact((by decide:Dg≠cj) h).elim
theorem Ig {l:List OpV}(h:∀o∈l,OpOk o)(hp:bY (mz (l.map bG)) cj=true):∃o r,l=o::r∧o.kind=2∧o.lo=true:=by
 obtain⟨t,ht⟩:=sE.1 hp;rw[←B6 h,Nr]at ht;obtain⟨ts,h1,h2⟩:=t8 none 0 (CC h) (AY (p:=none) fun t=>by unfold nJ;rfl);rw[ht]at h1;have h3:atF (ts.map oe) 4 0=cj:=by rw[Av];exact Ab h1
 rw[h2]at h3;cases l with
 |nil=>exact((by decide:emp≠cj) h3).elim
 |cons o r =>
  refine⟨o,r,rfl,?_⟩
  have e:∃x,sU (o::r)=mP o++x:=by
   cases r with
   |nil=>exact⟨[],by rw[List.append_nil];rfl⟩
   |cons p r=>exact⟨_,rfl⟩
  obtain⟨x,e⟩:=e;rw[show((sU (o::r)).map fun u=>oe u.2)=((sU (o::r)).map (·.2)).map oe by rw[List.map_map];rfl,Av,e,List.map_append]at h3;exact EZ h3
theorem oq {o o':OpV}{most nn:Int}{l r:List Tok}(e:aR o most nn l=.ok (o',r)):o'.kind=o.kind∧o'.lo=o.lo:=by
 unfold aR at e;split at e
 ·injection e with e;injection e with e1 e2;subst e1;exact⟨rfl,rfl⟩
 split at e
 ·split at e
  ·cases e
  ·injection e with e;injection e with e1 e2;subst e1;exact⟨rfl,rfl⟩
 ·injection e with e;injection e with e1 e2;subst e1;exact⟨rfl,rfl⟩
theorem NS {o o':OpV}{l r:List Tok}(e:zp o l=.ok (o',r)):o'.kind=o.kind:=by
 unfold zp at e;split at e
 ·cases e
 ·rename_i o1 l1 h1;split at e
  ·cases e
  split at e
  ·cases e
  ·injection e with e;injection e with e1 e2;subst e1;exact(oq h1).1
theorem NX {o o':OpV}{l r:List Tok}(e:Br o l=.ok (o',r)):o'.kind=o.kind:=by
 unfold Br at e;split at e
 ·cases e
 split at e
 ·cases e
 ·injection e with e;injection e with e1 e2;subst e1;rfl
theorem Om {o o':OpV}{l r:List Tok}(e:BT o l=.ok (o',r)):o'.kind=o.kind:=by
 unfold BT at e;split at e
 ·cases e
 split at e
 ·cases e
 split at e
 ·cases e
 split at e
 ·injection e with e;injection e with e1 e2;subst e1;rfl
 ·injection e with e;injection e with e1 e2;subst e1;rfl
theorem Df {o o':OpV}{l r:List Tok}(e:lv o l=.ok (o',r)):o'.kind=o.kind:=by
 unfold lv at e;split at e
 ·cases e
 split at e
 ·exact(NS e).trans rfl
 split at e
 ·cases e
 split at e
 ·exact NX e
 ·exact Om e
theorem D2 {o:OpV}{l r:List Tok}(e:gK l=.ok (o,r)):o.kind=5:=by
 unfold gK at e;split at e
 ·cases e
 split at e
 ·unfold wo at e;split at e
  ·split at e
   ·cases e
   ·injection e with e;injection e with e1 e2;subst e1;rfl
  ·injection e with e;injection e with e1 e2;subst e1;rfl
 ·exact Df e
theorem Cn {s:ByteArray}{o:OpV}:∀{l:List (Int×Int)},eR s l=some o→o.lo=false
 |[],h=>by cases h
 |(kd,k)::r,h=>by
  unfold eR at h;split at h
  ·injection h with h;subst h;rfl
  ·exact Cn h
theorem Lj {o:OpV}{l r:List Tok}(e:kV l=.ok (o,r))(hk:o.kind=2)(hl:o.lo=true):atF l 4 0=cj:=by
 unfold kV at e;split at e
 ·have h1:o.kind=1:=(oq e).1;omega
 split at e
 ·have:=D2 e;omega
 split at e
 ·unfold xX at e;split at e
  ·cases e
  ·have:=(oq e).2;rw[hl]at this;cases this
 ·split at e
  ·cases e
  ·rename_i l1 h1;unfold loR at h1;split at h1
   ·injection h1 with h1;injection h1 with h1 h2;cases h1
   ·rename_i hc;exact Decidable.not_not.1 hc
  ·split at e
   ·unfold dP at e;split at e
    ·rename_i h2;injection e with e;injection e with e1 e2;subst e1;rw[Cn h2]at hl;cases hl
    ·cases e
   ·split at e
    ·cases e
    ·injection e with e;injection e with e1 e2;subst e1;split at hl<;>cases hl
theorem t6:∀{N:Nat} {out out':List OpV} {l:List Tok},RdOk l→me out→eZ N out l=.ok out'→∃t,out'=out++t
 |N,out,out',[],h,ho,e=>by
  rw[c9]at e;injection e with e;exact⟨[],by rw[←e,List.append_nil]⟩
 |0,out,out',t::l,h,ho,e=>by cases e
 |N+1,out,out',t::l,h,ho,e=>by
  rw[dX (by simp)]at e;rcases hs:fo out (t::l) with x | ⟨o1,l1⟩
  ·rw[hs]at e;cases e
  ·rw[hs]at e;obtain⟨g1,g2,-,o,g3⟩:=lj h ho hs;obtain⟨u,hu⟩:=t6 (N:=N) g2 g1 e;exact⟨o::u,by rw[hu,g3,List.append_assoc];rfl⟩
theorem Bk {l:List Tok}{o:OpV}{t:List OpV}(h:RdOk l)(e:fP l=.ok (o::t)):∃r,kV l=.ok (o,r):=by
 cases l with
 |nil=>unfold fP at e;rw[c9]at e;injection e with e;cases e
 |cons u l =>
  unfold fP at e;rw[List.length_cons,dX (by simp)]at e;rcases hs:fo [] (u::l) with x | ⟨o1,l1⟩
  ·rw[hs]at e;cases e
  ·rw[hs]at e;obtain⟨g1,g2,-,-⟩:=lj h mD hs;obtain⟨v,hv⟩:=t6 g2 g1 e;unfold fo at hs;rw[if_pos rfl]at hs;simp only[List.length_nil]at hs;rw[if_neg (by decide)]at hs;rcases ho:kV (u::l) with y | ⟨o2,l2⟩
   ·rw[ho]at hs;cases hs
   ·rw[ho]at hs;simp only at hs;split at hs
    ·cases hs
    split at hs
    ·cases hs
    ·injection hs with hs;injection hs with hs1 hs2;rw[←hs1]at hv;injection hv with hv1 hv2;exact⟨l2,by rw[hv1]⟩
theorem qz {l:List Tok}(h:RdOk l){n:Nat}(hi:isF l 1 n=true):cJ (atF l 1 n)=true:=by
 unfold isF at hi;unfold atF;split at hi
 ·rename_i t ht;have hk:=of_decide_eq_true hi;rw[ht];simp only;rw[if_pos hk];exact h.named t (List.mem_of_getElem? ht) hk
 ·cases hi
theorem vU {n:ByteArray}(h:cJ n=true):dJ (aa n)=true:=by
 unfold cJ at h;rw[Ex.nameB_nameL,Bool.and_eq_true]at h;exact h.2
theorem rz:∀{N:Nat} {out ls:List ByteArray} {l r:List Tok},RdOk l→(∀n∈out,qv n=true)→bm N out l=.ok (ls,r)→∀n∈ls,qv n=true
 |0,out,ls,l,r,h,ho,e=>by
  injection e with e;injection e with e1 e2;subst e1;exact ho
 |N+1,out,ls,l,r,h,ho,e=>by
  unfold bm at e;split at e
  ·rename_i hc;split at e
   ·cases e
   ·rename_i hd;split at e
    ·cases e
    ·refine rz (h.drop 2) (fun n hn=>?_) e;rcases List.mem_append.1 hn with hn | hn
     ·exact ho n hn
     ·rw[mem_singleton]at hn;subst hn;unfold qv;rw[vU (qz h hc.1),decide_eq_false hd];rfl
  ·injection e with e;injection e with e1 e2;subst e1;exact ho
theorem tO:∀{N:Nat} {out ls:List ByteArray} {l r:List Tok},l.length≤N→bm N out l=.ok (ls,r)→¬(isF r 1 0=true∧atF r 4 1=cj)
 |0,out,ls,l,r,h,e=>by
  injection e with e;injection e with e1 e2;subst e2;rintro⟨h1,-⟩;have:=vF h1;omega
 |N+1,out,ls,l,r,h,e=>by
  unfold bm at e;split at e
  ·rename_i hc;split at e
   ·cases e
   ·split at e
    ·cases e
    ·exact tO (by rw[List.length_drop];omega) e
  ·rename_i hc;injection e with e;injection e with e1 e2;subst e2;exact hc
theorem oL {p q:PsV}(h:RdOk p.l)(e:bM p=.ok q):RdOk q.l∧∃n,dJ (aa n)=true∧q.s={ p.s with names:=p.s.names++[n] }:=by
 unfold bM at e;rcases hn:aL 1 112 p.l with x | ⟨t,l⟩
 ·rw[hn]at e;cases e
 ·rw[hn]at e;injection e with e;subst e;obtain⟨g1,g2,g3,g4,g5⟩:=oN h hn;exact⟨g1,t,by rw[g4];exact vU (qz h g5),rfl⟩
theorem pq {p q:PsV}(h:RdOk p.l)(e:bV p=.ok q):RdOk q.l∧∃v,Ex.GoodV v∧q.s={ p.s with vals:=p.s.vals++[v] }:=by
 unfold bV at e;rcases hn:aP p.l with x | ⟨v,l⟩
 ·rw[hn]at e;cases e
 ·rw[hn]at e;injection e with e;subst e;obtain⟨g1,g2,g3⟩:=eN h hn;exact⟨g2,v,g1,rfl⟩
theorem ww:∀{N:Nat} {p q:PsV},RdOk p.l→dm bM N p=.ok q→RdOk q.l∧∃ns,ns≠[]∧ns.length≤N+1∧(∀n∈ns,dJ (aa n)=true)∧q.s={ p.s with names:=p.s.names++ns }
 |N,p,q,h,e=>by
  unfold dm at e;rcases h1:bM p with x | p1
  ·rw[h1]at e;cases e
  ·rw[h1]at e;obtain⟨g,n,hn,hs⟩:=oL h h1;simp only at e;split at e
   ·cases N with
    |zero=>cases e
    |succ N =>
     obtain⟨k1,ns,k2,k3,k4,k5⟩:=ww (p:=⟨p1.l.drop 1,p1.s⟩) (g.drop 1) e;refine⟨k1,n::ns,by simp,by rw[List.length_cons];omega,fun m hm=>?_,?_⟩
     ·rcases List.mem_cons.1 hm with rfl | hm
      ·exact hn
      ·exact k4 m hm
     ·rw[k5];simp only[hs,List.append_assoc];rfl
   ·injection e with e;subst e;exact⟨g,[n],by simp,by simp,fun m hm=>by rw[mem_singleton]at hm;rw[hm];exact hn,hs⟩
theorem wy:∀{N:Nat} {p q:PsV},RdOk p.l→dm bV N p=.ok q→RdOk q.l∧∃vs,vs≠[]∧vs.length≤N+1∧(∀v∈vs,Ex.GoodV v)∧q.s={ p.s with vals:=p.s.vals++vs }
 |N,p,q,h,e=>by
  unfold dm at e;rcases h1:bV p with x | p1
  ·rw[h1]at e;cases e
  ·rw[h1]at e;obtain⟨g,n,hn,hs⟩:=pq h h1;simp only at e;split at e
   ·cases N with
    |zero=>cases e
    |succ N =>
     obtain⟨k1,ns,k2,k3,k4,k5⟩:=wy (p:=⟨p1.l.drop 1,p1.s⟩) (g.drop 1) e;refine⟨k1,n::ns,by simp,by rw[List.length_cons];omega,fun m hm=>?_,?_⟩
     ·rcases List.mem_cons.1 hm with rfl | hm
      ·exact hn
      ·exact k4 m hm
     ·rw[k5];simp only[hs,List.append_assoc];rfl
   ·injection e with e;subst e;exact⟨g,[n],by simp,by simp,fun m hm=>by rw[mem_singleton]at hm;rw[hm];exact hn,hs⟩
theorem w8:∀{l:List Val},(∀v∈l,Ex.GoodV v)→CM l=0
 |[],_=>rfl
 |v::r,h=>by
  unfold CM;rw[if_pos (Ex.goodPrint (h v (by simp))),w8 fun w hw=>h w (List.mem_cons_of_mem _ hw)]
theorem JH {s:StV}(h1:∀n∈s.labels,qv n=true)(h2:s.labels.length≤8)(h3:se s=true)(h4:aI s=true)(h5:∀n∈s.names,dJ (aa n)=true)(h6:s.names.length≤64)(h7:s.vals.length≤64)(h8:∀v∈s.vals,Ex.GoodV v)(h9:s.kind=4→gz (s.vals.getD 0 ⟨0,emp,emp⟩)=true)(h10:sT s.opers=0):FT s=0:=by
 unfold FT;rw[h3,h4,if_neg (by rw[Bool.and_true];intro h;rw[List.all_eq_true.2 h1]at h;cases h),nG,if_neg (by rw[Bool.true_and];intro h;rw[List.all_eq_true.2 h5]at h;cases h),if_neg (fun h=>by rw[h9 h.1]at h;cases h.2),w8 h8,if_neg (by simp),h10]
structure Ah (s:StV):Prop where
 chk:FT s=0
 good:PU s
 plain:FJ s=s
theorem QP:sT []=0:=by decide +kernel
theorem lI {s:StV}(h1:∀n∈s.labels,qv n=true)(h2:s.labels.length≤8)(h3:se s=true)(h4:aI s=true)(h5:∀n∈s.names,dJ (aa n)=true)(h6:s.names.length≤64)(h7:s.vals.length≤64)(h8:∀v∈s.vals,Ex.GoodV v)(h9:s.kind=4→gz (s.vals.getD 0 ⟨0,emp,emp⟩)=true)(h10:s.opers=[])(h11:∀z∈s.bytes,0≤z∧z≤255):Ah s :=
 ⟨JH h1 h2 h3 h4 h5 h6 h7 h8 h9 (by rw[h10];exact QP),⟨fun v hv=>QL (h8 v hv),fun o ho=>(by rw[h10]at ho;cases ho),h11⟩,by cases s;simp only at h10;subst h10;rfl⟩
theorem Hx:dJ (aa ia)=true:=by decide +kernel
theorem Hw:dJ (aa iB)=true:=by decide +kernel
theorem oO {p:ByteArray→Prop}:∀n∈([]:List ByteArray),p n:=fun n hn=>by cases hn
theorem nq {p:Val→Prop}:∀n∈([]:List Val),p n:=fun n hn=>by cases hn
theorem jO {p:Int→Prop}:∀n∈([]:List Int),p n:=fun n hn=>by cases hn
theorem Ez {name:ByteArray}{ls:List ByteArray}{l:List Tok}{q:PsV}(h:RdOk l)(h1:∀n∈ls,qv n=true)(h2:ls.length≤8)(e:mI name ⟨l,{ st0 with labels:=ls }⟩=.ok q):Ah q.s:=by
 unfold mI at e;split at e
 ·rename_i hc;injection e with e;subst e;refine lI h1 h2 rfl rfl (fun n hn=>?_) (by simp) (by simp[st0]) nq (fun h:(2:Int)=4=>by omega) rfl jO;have hn:n=name:=List.mem_singleton.1 hn;subst hn;rcases hc with rfl | rfl
  ·exact Hx
  ·exact Hw
 split at e
 ·obtain⟨g,n,hn,hs⟩:=oL (p:=dK 2 ⟨l,{ st0 with labels:=ls }⟩) h e;rw[hs];exact lI h1 h2 rfl rfl (fun m hm=>by have hm:m=n:=List.mem_singleton.1 hm;rw[hm];exact hn) (by simp[dK,st0]) (zero_le _) nq (fun h:(2:Int)=4=>by omega) rfl jO
 split at e
 ·obtain⟨g,ns,k2,k3,k4,hs⟩:=ww (p:=dK 3 ⟨l,{ st0 with labels:=ls }⟩) h e;rw[hs];have hpos:0<ns.length:=List.length_pos_iff.2 k2;refine lI h1 h2 ?_ ?_ k4 k3 (zero_le _) nq (fun h:(3:Int)=4=>by omega) rfl jO
  ·simp[se,dK,st0]
  ·simp[aI,dK,st0,hpos]
 split at e
 ·unfold jZ at e;rcases hv:bV (dK 4 ⟨l,{ st0 with labels:=ls }⟩) with x | p1
  ·rw[hv]at e;cases e
  ·rw[hv]at e;simp only at e;split at e
   ·rename_i ha;injection e with e;subst e;obtain⟨g,v,gv,hs⟩:=pq (p:=dK 4 ⟨l,{ st0 with labels:=ls }⟩) h hv;rw[hs]at ha ⊢;exact lI h1 h2 rfl rfl oO (zero_le _) (by simp[dK,st0]) (fun w hw=>by have hw:w=v:=List.mem_singleton.1 hw;rw[hw];exact gv) (fun _=>ha) rfl jO
   ·cases e
 have data:∀n:Int,n=1∨n=4∨n=8→dA n ⟨l,{ st0 with labels:=ls }⟩=.ok q→Ah q.s:=by
  intro n hn e;unfold dA at e;obtain⟨g,vs,k2,k3,k4,hs⟩:=wy (p:=⟨l,{ st0 with labels:=ls,kind:=5,size:=n }⟩) h e;rw[hs];have hpos:0<vs.length:=List.length_pos_iff.2 k2;refine lI h1 h2 ?_ ?_ oO (zero_le _) k3 k4 (fun h:(5:Int)=4=>by omega) rfl jO
  ·simp[se,st0]
  ·simp[aI,st0,hpos,hn]
 split at e
 ·exact data 1 (.inl rfl) e
 split at e
 ·exact data 4 (.inr (.inl rfl)) e
 split at e
 ·exact data 8 (.inr (.inr rfl)) e
 split at e
 ·unfold j0 at e;rcases hn:aL 3 112 (dK 6 ⟨l,{ st0 with labels:=ls }⟩).l with x | ⟨t,r⟩
  ·rw[hn]at e;cases e
  ·rw[hn]at e;injection e with e;subst e;refine lI h1 h2 ?_ rfl oO (zero_le _) (zero_le _) nq (fun h:(6:Int)=4=>by omega) rfl (fun z hz=>fx hz);simp[se,dK,st0]
 split at e
 ·unfold rh at e;rcases hn:bM (dK 7 ⟨l,{ st0 with labels:=ls }⟩) with x | p1
  ·rw[hn]at e;cases e
  ·rw[hn]at e;simp only at e;split at e
   ·obtain⟨g,n,gn,hs⟩:=oL (p:=dK 7 ⟨l,{ st0 with labels:=ls }⟩) h hn;obtain⟨g',v,gv,hs'⟩:=pq (p:=⟨p1.l.drop 1,p1.s⟩) (g.drop 1) e;rw[hs'];simp only[hs];refine lI h1 h2 ?_ ?_ (fun m hm=>by have hm:m=n:=List.mem_singleton.1 hm;rw[hm];exact gn) (by simp[dK,st0]) (by simp[dK,st0]) (fun w hw=>by have hw:w=v:=List.mem_singleton.1 hw;rw[hw];exact gv) (fun h:(7:Int)=4=>by omega) rfl jO
    ·simp[se,dK,st0]
    ·simp[aI,dK,st0]
   ·cases e
 ·cases e
theorem Eb {l:List Tok}{s:StV}(h:RdOk l)(e:lW l=.ok s):Ah s:=by
 unfold lW at e;rcases hl:bm l.length [] l with x | ⟨ls,r⟩
 ·rw[hl]at e;cases e
 rw[hl]at e;simp only at e;have h1:=rz h (fun n hn=>by cases hn) hl;obtain⟨hr,h2⟩:=ni h (by simp) hl;have hend:=tO (Nat.le_refl _) hl;split at e
 ·injection e with e;subst e;exact lI h1 h2 rfl rfl oO (zero_le _) (zero_le _) nq (fun h:(0:Int)=4=>by omega) rfl jO
 rcases hq:lF ⟨r,{ st0 with labels:=ls }⟩ with x | q
 ·rw[hq]at e;cases e
 rw[hq]at e;simp only[Except.ok.injEq]at e;subst e;unfold lF at hq;rcases hn:aL 1 110 r with x | ⟨name,l1⟩
 ·simp only[hn]at hq;cases hq
 simp only[hn]at hq;obtain⟨g1,g2,g3,g4,g5⟩:=oN hr hn;split at hq
 ·cases hq
 rename_i hdot;split at hq
 ·unfold Dz at hq;rcases hd:mI name ⟨l1,{ st0 with labels:=ls }⟩ with x | q1
  ·rw[hd]at hq;cases hq
  ·rw[hd]at hq;simp only at hq;split at hq
   ·injection hq with hq;subst hq;exact Ez g1 h1 h2 hd
   ·cases hq
 rename_i hpf;rcases ho:fP l1 with x | o
 ·rw[ho]at hq;cases hq
 rw[ho]at hq;injection hq with hq;subst hq;obtain⟨a1,a2,a3⟩:=C9 g1 ho;have hO:∀p∈o,OpOk p:=fun p hp=>⟨(a2 p hp).1,(a2 p hp).2.1⟩
 have hx:sT o=0:=by
  unfold sT;rw[a1];split
  ·rename_i hp;exfalso;obtain⟨e1,-⟩:=yG (s:=(ll o).1) (fun p hp=>(a2 p hp).1) (by rw[←a1]);rw[e1]at hp;obtain⟨p,t,rfl,k1,k2⟩:=Ig hO hp;obtain⟨r2,hf⟩:=Bk g1 ho;have hc:=Lj hf k1 k2;rw[g3,JD]at hc;exact hend ⟨g5,hc⟩
  ·rfl
 have hname:dJ (aa name)=true:=by rw[g4];exact vU (qz hr g5)
 refine⟨JH h1 h2 ?_ ?_ oO (zero_le _) (zero_le _) nq (fun h:(1:Int)=4=>by omega) hx,⟨nq,fun p hp=>(a2 p hp).1,jO⟩,?_⟩
 ·simp[se,st0]
 ·have:bY name sx=false:=by simpa using hpf
  simp[aI,hname,this]
 ·unfold FJ;simp only[a3]
theorem IP {t:ByteArray}{s:StV}(e:eh (aa t)=.ok s):Ah s:=by
 unfold eh at e;split at e
 ·rename_i h0;rcases hl:eF (aa t) with ⟨ts,n,z⟩;rw[hl]at h0 e;simp only at h0;subst h0;exact Eb (DU hl) e
 ·cases e
end
end Go.Proofs.YtnhbidpdadkcjaaGreatDoor
