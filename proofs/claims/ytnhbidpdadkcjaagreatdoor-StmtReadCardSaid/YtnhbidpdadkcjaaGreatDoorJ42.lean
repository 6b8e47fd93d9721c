import Derived.Test.YtnhbidpdadkcjaaGreatDoorJ30
open Go.RowKit
set_option linter.unusedVariables false
set_option linter.unusedSimpArgs false
set_option maxRecDepth 100000
set_option maxHeartbeats 8000000
open List (mem_singleton length_append append_nil map_append nil_append length_cons map_cons append_assoc)
open Nat (zero_le)
open Bool (and_eq_true)
namespace Go.Proofs.YtnhbidpdadkcjaaGreatDoor
structure StV where
 labels:List ByteArray
 kind:Int
 name:ByteArray
 opers:List OpV
 names:List ByteArray
 size:Int
 vals:List Val
 bytes:List Int
def st0:StV:=⟨[],0,emp,[],[],0,[],[]⟩
structure PsV where
 l:List Tok
 s:StV
def lO:ByteArray:=⟨#[46]⟩
def gC:ByteArray:=(⟨#[46,116,101,120,116]⟩:ByteArray)
def gH:ByteArray:=(⟨#[46,100,97,116,97]⟩:ByteArray)
def dN:ByteArray:=(⟨#[46,115,101,99,116,105,111,110]⟩:ByteArray)
def gK:ByteArray:=(⟨#[46,103,108,111,98,97,108]⟩:ByteArray)
def io:ByteArray:=(⟨#[46,97,108,105,103,110]⟩:ByteArray)
def ng:ByteArray:=(⟨#[46,98,121,116,101]⟩:ByteArray)
def kN:ByteArray:=(⟨#[46,119,111,114,100]⟩:ByteArray)
def qh:ByteArray:=(⟨#[46,113,117,97,100]⟩:ByteArray)
def kO:ByteArray:=(⟨#[46,97,115,99,105,105]⟩:ByteArray)
def sk:ByteArray:=(⟨#[46,101,113,117]⟩:ByteArray)
def isF (l:List Tok)(k:Int)(n:Nat):Bool:=match l[n]? with
 |some t=>decide (t.kind=k)
 |none=>false
def nextF (k e:Int)(l:List Tok):Except Int (ByteArray×List Tok):=if isF l k 0=true then .ok (atF l k 0,l.drop 1) else .error e
def labelsF:Nat→List ByteArray→List Tok→Except Int (List ByteArray×List Tok)
 |0,out,l=>.ok (out,l)
 |N+1,out,l=>if isF l 1 0=true∧atF l 4 1=aC then(if atF l 1 0=lO then .error 110 else if out.length=8 then .error 3 else labelsF N (out++[atF l 1 0]) (l.drop 2)) else .ok (out,l)
def nameR (p:PsV):Except Int PsV:=match nextF 1 112 p.l with
 |.error e=>.error e
 |.ok (t,l)=>.ok ⟨l,{ p.s with names:=p.s.names++[t] }⟩
def valR2 (p:PsV):Except Int PsV:=match valueR p.l with
 |.error e=>.error e
 |.ok (v,l)=>.ok ⟨l,{ p.s with vals:=p.s.vals++[v] }⟩
def dl (rd:PsV→Except Int PsV):Nat→PsV→Except Int PsV
 |N,p=>match rd p with
  |.error e=>.error e
  |.ok p=>if atF p.l 4 0=az then(match N with
    |0=>.error 3
    |N+1=>dl rd N ⟨p.l.drop 1,p.s⟩) else .ok p
def gp (v:Val):Bool:=decide ((v.plus=emp∧v.minus=emp)∧0≤v.add∧v.add≤12)
def i6 (p:PsV):Except Int PsV:=match valR2 p with
 |.error e=>.error e
 |.ok p=>if gp (p.s.vals.getD 0 ⟨0,emp,emp⟩)=true then .ok p else .error 7
def qF (p:PsV):Except Int PsV:=match nameR p with
 |.error e=>.error e
 |.ok p=>if atF p.l 4 0=az then valR2 ⟨p.l.drop 1,p.s⟩ else .error 112
def jo (p:PsV):Except Int PsV:=match nextF 3 112 p.l with
 |.error e=>.error e
 |.ok (t,l)=>.ok ⟨l,{ p.s with bytes:=aa t }⟩
def eI (n:Int)(p:PsV):Except Int PsV:=dl valR2 63 ⟨p.l,{ p.s with kind:=5,size:=n }⟩
def dV (k:Int)(p:PsV):PsV:=⟨p.l,{ p.s with kind:=k }⟩
def readR (name:ByteArray)(p:PsV):Except Int PsV :=
 if name=gC∨name=gH then .ok ⟨p.l,{ p.s with kind:=2,names:=[name] }⟩
 else if name=dN then nameR (dV 2 p)
 else if name=gK then dl nameR 63 (dV 3 p)
 else if name=io then i6 (dV 4 p)
 else if name=ng then eI 1 p
 else if name=kN then eI 4 p
 else if name=qh then eI 8 p
 else if name=kO then jo (dV 6 p)
 else if name=sk then qF (dV 7 p)
 else .error 111
def ve (name:ByteArray)(p:PsV):Except Int PsV:=match readR name p with
 |.error e=>.error e
 |.ok p=>if p.l=[] then .ok p else .error 112
def restR (p:PsV):Except Int PsV:=match nextF 1 110 p.l with
 |.error e=>.error e
 |.ok (name,l)=>if name=lO then .error 110
  else if bL name lO=true then ve name ⟨l,p.s⟩
  else match listF l with
   |.error e=>.error e
   |.ok o=>.ok ⟨l,{ p.s with kind:=1,name:=name,opers:=o }⟩
def kg (l:List Tok):Except Int StV:=match labelsF l.length [] l with
 |.error e=>.error e
 |.ok (ls,l)=>if l=[] then .ok { st0 with labels:=ls } else match restR ⟨l,{ st0 with labels:=ls }⟩ with
  |.error e=>.error e
  |.ok p=>.ok p.s
def dU (b:List Int):Except Int StV:=if(fy b).2.2=0 then kg (fy b).1 else .error (fy b).2.2
def mz:Except Int PsV→Except Int PsV
 |.ok p=>.ok ⟨p.l.map cJ,p.s⟩
 |.error e=>.error e
def lD (p:PsV):PsV:=⟨p.l.map cJ,p.s⟩
theorem EH {l:List Tok}{k:Int}{n:Nat}:isF (l.map cJ) k n=isF l k n:=by
 unfold isF;rw[List.getElem?_map];cases l[n]?<;>rfl
theorem p8 {l:List Tok}{k e:Int}:nextF k e (l.map cJ)=gT (nextF k e l):=by
 unfold nextF;rw[EH,fH,eJ];split<;>rfl
def UK:Except Int (List ByteArray×List Tok)→Except Int (List ByteArray×List Tok)
 |.ok (x,l)=>.ok (x,l.map cJ)
 |.error e=>.error e
theorem tZ:∀{N:Nat} {out:List ByteArray} {l:List Tok},labelsF N out (l.map cJ)=UK (labelsF N out l)
 |0,out,l=>rfl
 |N+1,out,l=>by
  unfold labelsF;simp only[EH,fH,eJ];split
  ·split
   ·rfl
   ·split
    ·rfl
    ·exact tZ
  ·rfl
theorem sZ {p:PsV}:nameR (lD p)=mz (nameR p):=by
 unfold nameR;simp only[lD,p8];rcases nextF 1 112 p.l with e | ⟨t,l⟩<;>rfl
theorem tw {p:PsV}:valR2 (lD p)=mz (valR2 p):=by
 unfold valR2;simp only[lD,gG];rcases valueR p.l with e | ⟨t,l⟩<;>rfl
theorem vN {rd:PsV→Except Int PsV}(h:∀p,rd (lD p)=mz (rd p)):∀{N:Nat} {p:PsV},dl rd N (lD p)=mz (dl rd N p)
 |N,p=>by
  unfold dl;rw[h];rcases rd p with e | q
  ·rfl
  ·simp only[mz,fH,eJ];split
   ·cases N with
    |zero=>rfl
    |succ N=>exact vN h (p:=⟨q.l.drop 1,q.s⟩)
   ·rfl
theorem DR {p:PsV}:i6 (lD p)=mz (i6 p):=by
 unfold i6;rw[tw];rcases valR2 p with e | q
 ·rfl
 ·simp only[mz];split<;>rfl
theorem KW {p:PsV}:qF (lD p)=mz (qF p):=by
 unfold qF;rw[sZ];rcases nameR p with e | q
 ·rfl
 ·simp only[mz,fH,eJ];split
  ·exact tw (p:=⟨q.l.drop 1,q.s⟩)
  ·rfl
theorem DT {p:PsV}:jo (lD p)=mz (jo p):=by
 unfold jo;simp only[lD,p8];rcases nextF 3 112 p.l with e | ⟨t,l⟩<;>rfl
theorem sM {n:Int}{p:PsV}:eI n (lD p)=mz (eI n p):=vN (fun _=>tw) (p:=⟨p.l,{ p.s with kind:=5,size:=n }⟩)
theorem Iu {name:ByteArray}{p:PsV}:readR name (lD p)=mz (readR name p):=by
 unfold readR;split
 ·rfl
 split
 ·exact sZ (p:=dV 2 p)
 split
 ·exact vN (fun _=>sZ) (p:=dV 3 p)
 split
 ·exact DR (p:=dV 4 p)
 split
 ·exact sM
 split
 ·exact sM
 split
 ·exact sM
 split
 ·exact DT (p:=dV 6 p)
 split
 ·exact KW (p:=dV 7 p)
 ·rfl
theorem KP {name:ByteArray}{p:PsV}:ve name (lD p)=mz (ve name p):=by
 unfold ve;rw[Iu];rcases readR name p with e | q
 ·rfl
 ·simp only[mz,List.map_eq_nil_iff];split<;>rfl
theorem IC {p:PsV}:restR (lD p)=mz (restR p):=by
 unfold restR;simp only[lD,p8];rcases nextF 1 110 p.l with e | ⟨t,l⟩
 ·rfl
 ·simp only[gT,Hl];split
  ·rfl
  split
  ·exact KP (p:=⟨l,p.s⟩)
  ·rcases listF l with e | o<;>rfl
theorem Fk {l:List Tok}:kg (l.map cJ)=kg l:=by
 unfold kg;rw[List.length_map,tZ];rcases labelsF l.length [] l with e | ⟨ls,l1⟩
 ·rfl
 ·simp only[UK,List.map_eq_nil_iff];split
  ·rfl
  ·have:=IC (p:=⟨l1,{ st0 with labels:=ls }⟩);simp only[lD]at this;rw[this];rcases restR ⟨l1,{ st0 with labels:=ls }⟩ with e | q<;>rfl
structure YX (v:List Int):Prop where
 b:au (bAt v 0)=true
 c:∀c∈v,c≠34∧c≠39∧c≠92
 d:dj (v.drop (br au v))=true
section
variable {v:List Int}(hv:YX v)
include hv
omit hv in
end
theorem VH {ρ:Nat→Loc}{al:Al}{sz:Nat}{v:Value}(h:LRep ρ al (.v (.slice none 0 0)) v):LRep ρ al (.d (.sd sz [])) v:=by
 have hv:v=.slice none 0 0:=h;rw[hv];simp only[LRep,DRep];exact⟨none,0,rfl,Nat.le_refl _,fun h=>absurd rfl h⟩
theorem Wk.deepC {ro:Cf}{s:St}(b j:Nat)(sz:Nat){k:Blk}{xs:List LV}(hk:hget s.h b=some k)(hx:k.els=[xs])(hj:xs[j]? = some (.v (.slice none 0 0))) :
  Wk ro s ⟨s.nx,s.t,(b,some { k with els:=[xs.set j (.d (.sd sz []))] })::s.h⟩:=by
 intro n B w0 ρ al a w _ H;have hb':=H.w.blk b k hk;refine⟨ρ,al,H.size,H.defers,H.t,H.w.retell hk rfl (fun _=>by rw[hx];simp) ⟨hb'.here,hb'.own,hb'.sz,?_,?_,?_,hb'.room⟩,H.al⟩
 ·intro e he;simp only[mem_singleton]at he;subst he;rw[List.length_set];exact hb'.len xs (by rw[hx];simp)
 ·have:=hb'.cap;rw[hx]at this;exact this
 ·intro i j' x hc;obtain⟨rfl,h2⟩:=sJ hc;rw[List.getElem?_set]at h2;split at h2
  ·rename_i ej;subst ej;split at h2
   ·injection h2 with h2;subst h2;obtain⟨y,g1,g2,g3⟩:=hb'.cells 0 j _ (by rw[hx];exact(show cellAt [xs] 0 j=_ from hj));exact⟨y,g1,g2,VH g3⟩
   ·cases h2
  ·exact hb'.cells 0 j' x (by rw[hx];exact h2)
def fx (n:ByteArray):Bool:=da (aa n)&&!decide (n=lO)
def lx (s:StV):Bool :=
 decide (0≤s.kind∧s.kind≤7)&&(decide (s.name=emp∧s.opers=[])||decide (s.kind=1))&&(decide (s.names=[])||decide (s.kind=2∨s.kind=3∨s.kind=7))
  && (decide (s.vals=[])||decide (s.kind=4∨s.kind=5∨s.kind=7))&&(decide (s.size=0)||decide (s.kind=5))&&(decide (s.bytes=[])||decide (s.kind=6))
def aP (s:StV):Bool :=
 if s.kind=1 then da (aa s.name)&&!bL s.name lO
 else if s.kind=2 then decide (s.names.length=1)
 else if s.kind=3 then decide (0<s.names.length)
 else if s.kind=4 then decide (s.vals.length=1)
 else if s.kind=5 then decide (0<s.vals.length)&&decide (s.size=1∨s.size=4∨s.size=8)
 else if s.kind=7 then decide (s.names.length=1)&&decide (s.vals.length=1)
 else true
def kx:List Val→Int
 |[]=>0
 |v::r=>if(Ex.printF v).2=0 then kx r else(Ex.printF v).2
def kI (l:List OpV):Int:=if bL (eE l).1 aC=true then 110 else(eE l).2
def dT (s:StV):Int :=
 if(s.labels.all fx&&lx s)=false then 110
 else if 8<s.labels.length∨64<s.names.length∨64<s.vals.length then 3
 else if(aP s&&s.names.all fun n=>da (aa n))=false then 110
 else if s.kind=4∧gp (s.vals.getD 0 ⟨0,emp,emp⟩)=false then 7
 else if ¬kx s.vals=0 then kx s.vals else kI s.opers
def bH (l:List Val):List ByteArray:=l.map fun v=>(Ex.printF v).1
def ki (b:List Int):ByteArray:=aj (eD b)
def aG (s:StV):ByteArray×ByteArray :=
 if s.kind=1 then(s.name,(eE s.opers).1)
 else if s.kind=2 then(if s.names.getD 0 emp=gC∨s.names.getD 0 emp=gH then(s.names.getD 0 emp,emp) else(dN,s.names.getD 0 emp))
 else if s.kind=3 then(gK,cO s.names)
 else if s.kind=4 then(io,(bH s.vals).getD 0 emp)
 else if s.kind=5 then(if s.size=1 then ng else if s.size=4 then kN else qh,cO (bH s.vals))
 else if s.kind=6 then(kO,ki s.bytes)
 else if s.kind=7 then(sk,s.names.getD 0 emp++dX++(bH s.vals).getD 0 emp)
 else(emp,emp)
def gM:List ByteArray→ByteArray
 |[]=>emp
 |x::r=>r.foldl (fun a y=>a++⟨#[32]⟩++y) x
def qg (s:StV):ByteArray:=gM ((s.labels.map fun n=>n++aC)++[(aG s).1,(aG s).2].filter fun w=>!decide (w=emp))
def iB (s:StV):ByteArray×Int:=if ¬dT s=0 then(emp,dT s) else if 512<(qg s).size then(emp,3) else(qg s,0)
def pM (s:StV):StV:={ s with opers:=s.opers.map aB }
theorem yV {l:List Tok}{k:Int}{n:Nat}(h:isF l k n=true):n<l.length:=by
 unfold isF at h;split at h
 ·rename_i t ht;exact(List.getElem?_eq_some_iff.1 ht).1
 ·cases h
theorem qR {k e:Int}{l r:List Tok}{t:ByteArray}(h:RdOk l)(hn:nextF k e l=.ok (t,r)):RdOk r∧r.length<l.length∧r=l.drop 1∧t=atF l k 0∧isF l k 0=true:=by
 unfold nextF at hn;split at hn
 ·rename_i h1;injection hn with hn;injection hn with h2 h3;subst h2 h3;have:=yV h1;exact⟨h.drop 1,by rw[List.length_drop];omega,rfl,rfl,h1⟩
 ·cases hn
theorem vz {k e x:Int}{l:List Tok}(hn:nextF k e l=.error x):x=e:=by
 unfold nextF at hn;split at hn
 ·cases hn
 ·injection hn with hn;exact hn.symm
theorem pB:∀{N:Nat} {out ls:List ByteArray} {l r:List Tok},RdOk l→out.length≤8→labelsF N out l=.ok (ls,r)→RdOk r∧ls.length≤8
 |0,out,ls,l,r,h,ho,e=>by
  injection e with e;injection e with e1 e2;subst e1 e2;exact⟨h,ho⟩
 |N+1,out,ls,l,r,h,ho,e=>by
  unfold labelsF at e;split at e
  ·split at e
   ·cases e
   ·split at e
    ·cases e
    ·refine pB (h.drop 2) ?_ e;rw[length_append,List.length_singleton];omega
  ·injection e with e;injection e with e1 e2;subst e1 e2;exact⟨h,ho⟩
theorem wG:∀{N:Nat} {out:List ByteArray} {l:List Tok} {x:Int},labelsF N out l=.error x→x≠0
 |0,out,l,x,e=>by cases e
 |N+1,out,l,x,e=>by
  unfold labelsF at e;split at e
  ·split at e
   ·injection e with e;omega
   ·split at e
    ·injection e with e;omega
    ·exact wG e
  ·cases e
structure BodyOk (a b:Nat)(p:PsV):Prop where
 toks:RdOk p.l
 names:p.s.names.length≤a
 vals:p.s.vals.length≤b
 good:∀v∈p.s.vals,Ex.GoodV v
theorem BodyOk.to {a b a' b':Nat}{p:PsV}(h:BodyOk a b p)(h1:a≤a')(h2:b≤b'):BodyOk a' b' p:=⟨h.toks,by have:=h.names;omega,by have:=h.vals;omega,h.good⟩
theorem BodyOk.with {a b:Nat}{p:PsV}(h:BodyOk a b p){l:List Tok}(hl:RdOk l){s:StV}(h1:s.names=p.s.names)(h2:s.vals=p.s.vals):BodyOk a b ⟨l,s⟩:=⟨hl,by rw[h1];exact h.names,by rw[h2];exact h.vals,by rw[h2];exact h.good⟩
theorem zl {a b:Nat}{p q:PsV}(h:BodyOk a b p)(e:nameR p=.ok q):BodyOk (a+1) b q∧q.l.length<p.l.length:=by
 unfold nameR at e;rcases hn:nextF 1 112 p.l with x | ⟨t,l⟩
 ·rw[hn]at e;cases e
 ·rw[hn]at e;injection e with e;subst e;obtain⟨g1,g2,-⟩:=qR h.toks hn;refine⟨⟨g1,?_,h.vals,h.good⟩,g2⟩;simp only[length_append,List.length_singleton];have:=h.names;omega
theorem vw {p:PsV}{x:Int}(e:nameR p=.error x):x≠0:=by
 unfold nameR at e;rcases hn:nextF 1 112 p.l with y | ⟨t,l⟩
 ·rw[hn]at e;injection e with e;have:=vz hn;omega
 ·rw[hn]at e;cases e
theorem Ga {a b:Nat}{p q:PsV}(h:BodyOk a b p)(e:valR2 p=.ok q):BodyOk a (b+1) q∧q.l.length<p.l.length:=by
 unfold valR2 at e;rcases hn:valueR p.l with x | ⟨v,l⟩
 ·rw[hn]at e;cases e
 ·rw[hn]at e;injection e with e;subst e;obtain⟨g1,g2,g3⟩:=gD h.toks hn;refine⟨⟨g2,h.names,?_,?_⟩,g3⟩
  ·simp only[length_append,List.length_singleton];have:=h.vals;omega
  ·intro w hw;simp only[List.mem_append,mem_singleton]at hw;rcases hw with hw | rfl
   ·exact h.good w hw
   ·exact g1
theorem v7 {a b:Nat}{p:PsV}{x:Int}(h:BodyOk a b p)(e:valR2 p=.error x):x≠0:=by
 unfold valR2 at e;rcases hn:valueR p.l with y | ⟨v,l⟩
 ·rw[hn]at e;injection e with e;subst e;exact iI h.toks hn
 ·rw[hn]at e;cases e
theorem ml {a b:Nat}{p:PsV}(h:BodyOk a b p):BodyOk a b ⟨p.l.drop 1,p.s⟩:=⟨h.toks.drop 1,h.names,h.vals,h.good⟩
theorem FF:∀{N:Nat} {p:PsV} {x:Int},dl nameR N p=.error x→x≠0
 |N,p,x,e=>by
  unfold dl at e;rcases h1:nameR p with y | p1
  ·rw[h1]at e;injection e with e;subst e;exact vw h1
  ·rw[h1]at e;simp only at e;split at e
   ·cases N with
    |zero=>injection e with e;omega
    |succ N=>exact FF e
   ·cases e
theorem FI:∀{N a b:Nat} {p:PsV} {x:Int},BodyOk a b p→dl valR2 N p=.error x→x≠0
 |N,a,b,p,x,h,e=>by
  unfold dl at e;rcases h1:valR2 p with y | p1
  ·rw[h1]at e;injection e with e;subst e;exact v7 h h1
  ·rw[h1]at e;obtain⟨g,-⟩:=Ga h h1;simp only at e;split at e
   ·cases N with
    |zero=>injection e with e;omega
    |succ N=>exact FI (ml g) e
   ·cases e
theorem uX {n:Int}{p:PsV}{x:Int}(h:BodyOk 0 0 p)(e:eI n p=.error x):x≠0:=by
 unfold eI at e;exact FI (p:=⟨p.l,{ p.s with kind:=5,size:=n }⟩) (h.with h.toks rfl rfl) e
theorem Mo {name:ByteArray}{p:PsV}{x:Int}(h:BodyOk 0 0 p)(e:readR name p=.error x):x≠0:=by
 unfold readR at e;split at e
 ·cases e
 split at e
 ·exact vw e
 split at e
 ·exact FF e
 split at e
 ·unfold i6 at e;rcases h1:valR2 (dV 4 p) with y | p1
  ·rw[h1]at e;injection e with e;subst e;exact v7 (p:=dV 4 p) (h.with h.toks rfl rfl) h1
  ·rw[h1]at e;simp only at e;split at e
   ·cases e
   ·injection e with e;omega
 split at e
 ·exact uX h e
 split at e
 ·exact uX h e
 split at e
 ·exact uX h e
 split at e
 ·unfold jo at e;rcases h1:nextF 3 112 (dV 6 p).l with y | ⟨t,l⟩
  ·rw[h1]at e;injection e with e;have:=vz h1;omega
  ·rw[h1]at e;cases e
 split at e
 ·unfold qF at e;rcases h1:nameR (dV 7 p) with y | p1
  ·rw[h1]at e;injection e with e;subst e;exact vw h1
  ·rw[h1]at e;obtain⟨g,-⟩:=zl (p:=dV 7 p) (h.with h.toks rfl rfl) h1;simp only at e;split at e
   ·exact v7 (ml g) e
   ·injection e with e;omega
 ·injection e with e;omega
section
open Ex (ax nameT valT ValOk pX txtL textT)
theorem qH:∀{a b:List (Bool×Tok)} {q:Option Tok},dk q a→(∀u,dk u b)→dk q (a++b)
 |[],_,q,_,hb=>hb q
 |(_,_)::_,_,_,h,hb=>⟨h.1,qH h.2 hb⟩
structure PartOk (p:List (Bool×Tok))(x:ByteArray):Prop where
 head:∃t r,p=(false,t)::r
 rend:bp p=aa x
 sure:iZ p
 fine:dk none p
 noat:jO p
inductive PartsOk:List (List (Bool×Tok))→List ByteArray→Prop
 |nil:PartsOk [] []
 |cons {p x ps xs}:PartOk p x→PartsOk ps xs→PartsOk (p::ps) (x::xs)
theorem PartsOk.app {a b:List (List (Bool×Tok))}{x y:List ByteArray}(h:PartsOk a x)(k:PartsOk b y):PartsOk (a++b) (x++y):=by
 induction h with
 |nil=>exact k
 |cons h _ ih=>exact .cons h ih
theorem PartsOk.of_map {α:Type}{f:α→List (Bool×Tok)}{g:α→ByteArray}:∀{l:List α},(∀a∈l,PartOk (f a) (g a))→PartsOk (l.map f) (l.map g)
 |[],_=>.nil
 |a::l,h=>.cons (h a (by simp)) (PartsOk.of_map fun b hb=>h b (by simp[hb]))
def uE:List (List (Bool×Tok))→List (Bool×Tok)
 |[]=>[]
 |p::r=>spB p++uE r
def td:List (List (Bool×Tok))→List (Bool×Tok)
 |[]=>[]
 |p::r=>p++uE r
def wX:List ByteArray→List Int
 |[]=>[]
 |x::r=>32::(aa x++wX r)
theorem Tx {ps:List (List (Bool×Tok))}{xs:List ByteArray}(h:PartsOk ps xs):bp (uE ps)=wX xs∧iZ (uE ps)∧(∀u,dk u (uE ps))∧jO (uE ps):=by
 induction h with
 |nil=>exact⟨rfl,dc,fun _=>trivial,cX⟩
 |cons h _ ih =>
  obtain⟨i1,i2,i3,i4⟩:=ih;obtain⟨t,r,e⟩:=h.head;refine⟨?_,iW (xN h.sure) i2,fun u=>qH (xB h.fine) i3,iJ (tK h.noat) i4⟩;rw[uE,ib,xL e,h.rend,i1,wX,List.cons_append]
theorem pA:∀(r:List ByteArray) (x:ByteArray),aa (r.foldl (fun a y=>a++⟨#[32]⟩++y) x)=aa x++wX r
 |[],x=>by rw[List.foldl_nil,wX,append_nil]
 |y::r,x=>by
  rw[List.foldl_cons,pA r,aV,aV,wX,show aa ⟨#[32]⟩=[32] from rfl];simp
theorem PQ {ps:List (List (Bool×Tok))}{xs:List ByteArray}(h:PartsOk ps xs):bp (td ps)=aa (gM xs)∧iZ (td ps)∧dk none (td ps)∧jO (td ps):=by
 cases h with
 |nil=>exact⟨rfl,dc,trivial,cX⟩
 |cons h k =>
  obtain⟨i1,i2,i3,i4⟩:=Tx k;refine⟨?_,iW h.sure i2,qH h.fine i3,iJ h.noat i4⟩;rw[td,ib,h.rend,i1,gM,pA]
def fS (ps:List (List (Bool×Tok))):List Tok:=(ps.map fun p=>p.map (·.2)).flatten
theorem BY:∀ps:List (List (Bool×Tok)),(uE ps).map (·.2)=fS ps
 |[]=>rfl
 |p::r=>by
  rw[uE,map_append,qb,BY r];rfl
theorem H7 (ps:List (List (Bool×Tok))):(td ps).map (·.2)=fS ps:=by
 cases ps with
 |nil=>rfl
 |cons p r =>
  rw[td,map_append,BY r];rfl
theorem M9 (a b:List (List (Bool×Tok))):fS (a++b)=fS a++fS b:=by
 unfold fS;rw[map_append,List.flatten_append]
def yh:List (List (Bool×Tok))→List (Bool×Tok)
 |[]=>[]
 |p::r=>sg az::(spB p++yh r)
def yg:List (List (Bool×Tok))→List (Bool×Tok)
 |[]=>[]
 |p::r=>p++yh r
def D1:List ByteArray→List Int
 |[]=>[]
 |x::r=>44::32::(aa x++D1 r)
theorem Sp {ps:List (List (Bool×Tok))}{xs:List ByteArray}(h:PartsOk ps xs):bp (yh ps)=D1 xs∧iZ (yh ps)∧(∀u,dk u (yh ps))∧jO (yh ps):=by
 induction h with
 |nil=>exact⟨rfl,dc,fun _=>trivial,cX⟩
 |cons h _ ih =>
  obtain⟨i1,i2,i3,i4⟩:=ih;obtain⟨t,r,e⟩:=h.head;refine⟨?_,aK (dI ca) (iW (xN h.sure) i2),fun u=>dE ca (qH (xB h.fine) i3),aI rfl (iJ (tK h.noat) i4)⟩;rw[yh,dG ca,ib,xL e,h.rend,i1,D1,lM];rfl
theorem qK:∀(r:List ByteArray) (x:ByteArray),aa (r.foldl (fun a y=>a++dX++y) x)=aa x++D1 r
 |[],x=>by rw[List.foldl_nil,D1,append_nil]
 |y::r,x=>by
  rw[List.foldl_cons,qK r,aV,aV,D1,tH];simp
theorem CE {ps:List (List (Bool×Tok))}{xs:List ByteArray}(h:PartsOk ps xs)(hne:ps≠[]):PartOk (yg ps) (cO xs):=by
 cases h with
 |nil=>exact absurd rfl hne
 |cons h k =>
  obtain⟨i1,i2,i3,i4⟩:=Sp k;obtain⟨t,r,e⟩:=h.head;refine⟨⟨t,_,by rw[yg,e];rfl⟩,?_,iW h.sure i2,qH h.fine i3,iJ h.noat i4⟩;rw[yg,ib,h.rend,i1,cO,qK]
theorem mc {s:ByteArray}(h:bj s=true):PartOk [(false,nameT s)] s :=
 ⟨⟨_,_,rfl⟩,by rw[uD h,bp,append_nil],aK (lV h false) dc,⟨.inr rfl,trivial⟩,aI rfl cX⟩
theorem HV {s:ByteArray}(h:bj s=true):PartOk [(false,nameT s),sg aC] (s++aC) :=
 ⟨⟨_,_,rfl⟩,by rw[uD h,dG g9,bp,append_nil,aV],aK (lV h false) (aK (dI g9) dc),⟨.inr rfl,dE g9 trivial⟩,aI rfl (aI rfl cX)⟩
theorem zG {v:Val}(hp:(Ex.printF v).2=0)(hv:ValOk v):PartOk (lY v) (Ex.printF v).1:=by
 refine⟨?_,zS hp hv,rk hv,?_,oe v⟩
 ·unfold lY valT;split
  ·split
   ·exact⟨_,_,rfl⟩
   ·exact⟨_,_,rfl⟩
  ·exact⟨_,_,rfl⟩
 ·have:=ov (p:=none) (fun t=>rfl) (r:=[]) (fun u=>trivial) v
  rwa [append_nil]at this
def PZ (b:List Int):Tok:=⟨3,aj b,0,0⟩
theorem H6 {b:List Int}(hb:∀z∈b,0≤z∧z≤255)(hl:b.length≤512):PartOk [(false,PZ b)] (ki b):=by
 have ht:aa (aj b)=b:=bh hb;have hs:(aj b).size≤512:=by rw[←ae,ht];exact hl
 have hi:isT (PZ b)=true:=by
  show decide ((aj b).size≤512)=true;exact decide_eq_true hs
 have hc:cP (PZ b)=0:=by
  unfold cP;exact if_pos ⟨hi,Int.le_refl _,.inl rfl⟩
 refine⟨⟨_,_,rfl⟩,?_,aK ⟨hc,Int.le_refl _,by show(0:Int)<_;decide⟩ dc,⟨.inr rfl,trivial⟩,aI rfl cX⟩;rw[bp,if_neg (by simp),nil_append,bp,append_nil];unfold txtL textT ki;rw[if_pos hc,if_neg (show ¬(PZ b).kind=2 by show ¬(3:Int)=2;decide),if_pos (show(PZ b).kind=3 from rfl)];show aa (aj (eD (aa (aj b))))=_;rw[ht]
theorem HY {l:List OpV}(h:∀o∈l,OpOk o)(hne:l≠[]):PartOk (oK l) (cO (l.map aO)):=by
 cases l with
 |nil=>exact absurd rfl hne
 |cons o r=>exact⟨PI (h o (by simp)),zR h,Am h,yJ fun t=>rfl,DV _⟩
theorem xb:∀{l:List ByteArray} {x:ByteArray},x∈l→x.size≤(gM l).size:=by
 have hr:∀{l:List ByteArray} {x:ByteArray},x∈l→x.size≤(wX l).length:=by
  intro l x hx
  induction l with
  |nil=>cases hx
  |cons y r ih =>
   rw[wX,length_cons,length_append,ae];rcases List.mem_cons.1 hx with rfl | hx
   ·omega
   ·have:=ih hx;omega
 intro l x hx;cases l with
 |nil=>cases hx
 |cons y r =>
  rw[←ae (gM (y::r)),gM,pA,length_append,ae];rcases List.mem_cons.1 hx with rfl | hx
  ·omega
  ·have:=hr hx;omega
theorem Ae:∀{l:List ByteArray} {x:ByteArray},x∈l→x.size≤(cO l).size:=by
 have hr:∀{l:List ByteArray} {x:ByteArray},x∈l→x.size≤(D1 l).length:=by
  intro l x hx
  induction l with
  |nil=>cases hx
  |cons y r ih =>
   rw[D1,length_cons,length_cons,length_append,ae];rcases List.mem_cons.1 hx with rfl | hx
   ·omega
   ·have:=ih hx;omega
 intro l x hx;cases l with
 |nil=>cases hx
 |cons y r =>
  rw[←ae (cO (y::r)),cO,qK,length_append,ae];rcases List.mem_cons.1 hx with rfl | hx
  ·omega
  ·have:=hr hx;omega
end
section
open Ex (ax nameT valT ValOk pX txtL textT)
theorem PartOk.ne {p:List (Bool×Tok)}{x:ByteArray}(h:PartOk p x):x≠emp:=by
 obtain⟨t,r,e⟩:=h.head;have hs:=h.sure (false,t) (by rw[e];simp);have q0:0<(txtL t).length:=(Ex.txt_head hs.1 hs.2.1 []).1;intro hx;have hr:=h.rend;rw[e,hx,bp,if_neg (by simp),nil_append]at hr;have:=congrArg List.length hr;rw[length_append]at this;simp only[show aa emp=[] from rfl,List.length_nil]at this;omega
theorem PartOk.colon {p:List (Bool×Tok)}{x:ByteArray}(h:PartOk p x)(hc:bL x aC=false)(r:List Tok):atF (p.map (·.2)++r) 4 0≠aC:=by
 obtain⟨t,q,e⟩:=h.head;have hs:=h.sure (false,t) (by rw[e];simp);have hb:cJ t=t:=h.noat (false,t) (by rw[e];simp);intro ha
 have h1:t.kind=4∧t.text=aC:=by
  rw[e]at ha;unfold atF at ha;simp only[map_cons,List.cons_append,List.getElem?_cons_zero]at ha;split at ha
  ·rename_i hk;exact⟨hk,ha⟩
  ·exact absurd ha (by decide)
 have hn:t.n=0:=by
  have h2:cP t=0:=hs.1;unfold cP at h2;split at h2
  ·rename_i hc2;rcases hc2.2.2 with h3 | h3
   ·exact h3
   ·omega
  ·omega
 have ht:t=ax aC:=J6 h1.1 h1.2 hn (by rw[←hb];rfl);have hr:=h.rend;rw[e,ht,bp,if_neg (by simp),nil_append,Ex.txt_sgn g9.1]at hr;rw[ox.2 ⟨_,hr.symm⟩]at hc;cases hc
theorem Bf {α:Type}(f:α→List (Bool×Tok)):∀l:List α,(yh (l.map f)).map (·.2)=l.flatMap fun a=>ax az::(f a).map (·.2)
 |[]=>rfl
 |a::l=>by
  rw[map_cons,yh,map_cons,map_append,qb,Bf f l,List.flatMap_cons];rfl
theorem Be {α:Type}(f:α→List (Bool×Tok))(a:α)(l:List α):(yg ((a::l).map f)).map (·.2)=(f a).map (·.2)++l.flatMap fun a=>ax az::(f a).map (·.2):=by
 rw[map_cons,yg,map_append,Bf]
theorem BJ (n:ByteArray)(e:Int)(r:List Tok):nextF 1 e (nameT n::r)=.ok (n,r):=rfl
theorem zk (n:ByteArray)(r:List Tok)(s:StV):nameR ⟨nameT n::r,s⟩=.ok ⟨r,{ s with names:=s.names++[n] }⟩:=rfl
theorem BZ:∀(r:List ByteArray) (n:ByteArray) (N:Nat) (s:StV),r.length≤N→dl nameR N ⟨nameT n::r.flatMap (fun m=>ax az::[nameT m]),s⟩=.ok ⟨[],{ s with names:=s.names++n::r }⟩
 |[],n,N,s,_=>by
  unfold dl;rw[List.flatMap_nil,zk];simp only;rw[if_neg (by rw[qn];decide)]
 |m::r,n,0,s,h=>by simp at h
 |m::r,n,N+1,s,h=>by
  unfold dl;rw[zk];simp only;rw[if_pos (show atF ((m::r).flatMap fun m=>ax az::[nameT m]) 4 0=az from rfl)];have e:((m::r).flatMap fun m=>ax az::[nameT m]).drop 1=nameT m::r.flatMap fun m=>ax az::[nameT m]:=rfl;rw[e,BZ r m N _ (by simpa using h)];simp only[append_assoc,List.singleton_append]
theorem Ca (r:List Val):Ex.Ends (r.flatMap fun w=>ax az::valT w) 0:=by
 cases r with
 |nil=>exact Ex.ends_emp rfl
 |cons w r=>exact sP _
theorem rY {v:Val}(hv:ValOk v){r:List Tok}(he:Ex.Ends r 0)(s:StV):valR2 ⟨valT v++r,s⟩=.ok ⟨r,{ s with vals:=s.vals++[v] }⟩:=by
 unfold valR2;simp only;rw[fe hv he]
theorem B0:∀(r:List Val) (v:Val) (N:Nat) (s:StV),(∀w∈v::r,ValOk w)→r.length≤N→dl valR2 N ⟨valT v++r.flatMap (fun w=>ax az::valT w),s⟩=.ok ⟨[],{ s with vals:=s.vals++v::r }⟩
 |[],v,N,s,h,_=>by
  unfold dl;rw[rY (h v (by simp)) (Ca []) s];simp only[List.flatMap_nil];rw[if_neg (by rw[qn];decide)]
 |w::r,v,0,s,_,h=>by simp at h
 |w::r,v,N+1,s,hv,h=>by
  unfold dl;rw[rY (hv v (by simp)) (Ca (w::r)) s];simp only;rw[if_pos (show atF ((w::r).flatMap fun w=>ax az::valT w) 4 0=az from rfl)];have e:((w::r).flatMap fun w=>ax az::valT w).drop 1=valT w++r.flatMap fun w=>ax az::valT w:=rfl;rw[e,B0 r w N _ (fun u hu=>hv u (List.mem_cons_of_mem _ hu)) (by simpa using h)];simp only[append_assoc,List.singleton_append]
theorem ow (v:Val)(r:List Tok):atF (valT v++r) 4 0≠aC:=by
 unfold valT;split
 ·split
  ·show Ex.minusS≠aC;decide
  ·show emp≠aC;decide
 ·split
  ·show emp≠aC;decide
  ·show emp≠aC;decide
def CV (n:ByteArray):List (Bool×Tok):=[(false,nameT n),sg aC]
theorem wE:∀(ls out:List ByteArray) (N:Nat) (r:List Tok),ls.length≤N→(∀n∈ls,n≠lO)→out.length+ls.length≤8→¬(isF r 1 0=true∧atF r 4 1=aC) →
  labelsF N out (fS (ls.map CV)++r)=.ok (out++ls,r)
 |[],out,0,r,_,_,_,_=>by rw[append_nil];rfl
 |[],out,N+1,r,_,_,_,hr=>by
  show labelsF (N+1) out r=_;unfold labelsF;rw[if_neg hr,append_nil]
 |n::ls,out,0,r,h,_,_,_=>by simp at h
 |n::ls,out,N+1,r,h,hd,h8,hr=>by
  have e:fS ((n::ls).map CV)++r=nameT n::ax aC::(fS (ls.map CV)++r):=rfl;rw[e];unfold labelsF;rw[if_pos ⟨rfl,rfl⟩,Jv,if_neg (hd n (by simp)),if_neg (by simp at h8;omega)];show labelsF N (out++[n]) (fS (ls.map CV)++r)=_;rw[wE ls (out++[n]) N r (by simpa using h) (fun m hm=>hd m (by simp[hm])) (by simp at h8 ⊢;omega) hr];simp
theorem EI:∀ls:List ByteArray,ls.length≤(fS (ls.map CV)).length
 |[]=>zero_le _
 |n::ls=>by
  have e:fS ((n::ls).map CV)=nameT n::ax aC::fS (ls.map CV):=rfl;rw[e];have:=EI ls;simp;omega
theorem Lm {ls:List ByteArray}{ps:List (List (Bool×Tok))}{xs:List ByteArray}{u:StV}(h1:∀n∈ls,bj n=true∧n≠lO)(h8:ls.length≤8)(hk:PartsOk ps xs)(hn:atF (fS ps) 4 1≠aC)
  (hsz:(gM ((ls.map fun n=>n++aC)++xs)).size≤512)
  (hb:(if fS ps=[] then(.ok { st0 with labels:=ls }:Except Int StV) else match restR ⟨fS ps,{ st0 with labels:=ls }⟩ with
   |.error e=>.error e
   |.ok p=>.ok p.s)=.ok u):dU (aa (gM ((ls.map fun n=>n++aC)++xs)))=.ok u:=by
 have hA:PartsOk (ls.map CV++ps) ((ls.map fun n=>n++aC)++xs):=(PartsOk.of_map fun n hn=>HV (h1 n hn).1).app hk;obtain⟨i1,i2,i3,i4⟩:=PQ hA;obtain⟨ts,k1,k2⟩:=rh none 0 i2 i3;rw[i1]at k1
 have hts:ts.map cJ=fS (ls.map CV)++fS ps:=by
  rw[k2,←M9,←H7];exact List.map_congr_left fun v hv=>i4 v hv
 have hl:fy (aa (gM ((ls.map fun n=>n++aC)++xs)))=(ts,0+(aa (gM ((ls.map fun n=>n++aC)++xs))).length,0):=by
  unfold fy;rw[if_neg (by rw[ae];omega),k1]
 unfold dU;rw[hl];simp only[if_true];rw[←Fk,hts];unfold kg;rw[wE ls [] _ _ (by rw[length_append];have:=EI ls;omega) (fun n hn=>(h1 n hn).2) (by simpa using h8) (fun h=>hn h.2)];simp only[nil_append];exact hb
end
section
open Ex (ax nameT valT ValOk pX txtL textT)
theorem rW {l:List OpV}{s:ByteArray}(h:∀o∈l,okO o)(ht:eE l=(s,0)):s=cO (l.map aO)∧(∀o∈l,OpOk o)∧jj l=false∧l.length≤8:=by
 unfold eE at ht;split at ht
 ·rename_i hc;injection ht with h1 h2;exact absurd h2 hc
 rename_i hc;split at ht
 ·injection ht with h1 h2;cases h2
 rename_i h8;split at ht
 ·injection ht with h1 h2;cases h2
 rename_i hb;injection ht with h1 h2;subst h1
 have hall:∀o∈l,fh o=0:=by
  have hc:=Decidable.not_not.1 hc;intro o ho;obtain⟨i,hi,e⟩:=List.mem_iff_getElem.1 ho
  have key:∀n:Nat,∀j,j<n→∀p,l[j]? = some p→fh p=0:=by
   intro n
   induction n with
   |zero=>intro j hj;omega
   |succ n ih =>
    intro j hj p hp;by_cases hz:fh p=0
    ·exact hz
    ·have:=uT (i:=j) (fun k q hk hq=>ih k (by omega) q hq) hp hz;rw[hc]at this;exact absurd this.symm hz
  exact key (i+1) i (Nat.lt_succ_self i) o (by rw[List.getElem?_eq_getElem hi,e])
 exact⟨rfl,fun o ho=>⟨h o ho,hall o ho⟩,by simpa using hb,by omega⟩
structure Gi (s:StV):Prop where
 vals:∀v∈s.vals,iQ v
 opers:∀o∈s.opers,okO o
 bytes:∀z∈s.bytes,0≤z∧z≤255
theorem Ap {n:ByteArray}(h:da (aa n)=true)(hs:n.size≤512):bj n=true:=by
 unfold bj;rw[decide_eq_true hs,Ex.nameB_nameL,h];rfl
theorem AA:∀{l:List Val},kx l=0→∀v∈l,(Ex.printF v).2=0
 |[],_,v,hv=>by cases hv
 |w::r,h,v,hv=>by
  unfold kx at h;split at h
  ·rename_i h0;rcases List.mem_cons.1 hv with rfl | hv
   ·exact h0
   ·exact AA h v hv
  ·rename_i h0;exact absurd h h0
theorem J8 {v:Val}(hp:(Ex.printF v).2=0)(h:iQ v):ValOk v:=Ex.print_ok (s:=(Ex.printF v).1) (by rw[←hp]) h.2.2.1 h.2.2.2
theorem IU {n:ByteArray}(h:(n++aC).size≤512):n.size≤512:=by
 rw[ByteArray.size_append]at h;omega
def ye (s:StV):List ByteArray:=[(aG s).1,(aG s).2].filter fun w=>!decide (w=emp)
theorem Bb {s:StV}{a b:ByteArray}(h:aG s=(a,b))(ha:a≠emp)(hb:b≠emp):ye s=[a,b]:=by
 unfold ye;rw[h];simp[ha,hb]
theorem UF {s:StV}{a:ByteArray}(h:aG s=(a,emp))(ha:a≠emp):ye s=[a]:=by
 unfold ye;rw[h];simp[ha]
structure tz (s:StV):Prop where
 labels:∀n∈s.labels,bj n=true∧n≠lO
 few:s.labels.length≤8
 uses:lx s=true
 counts:aP s=true
 names:∀n∈s.names,da (aa n)=true
 nfew:s.names.length≤64
 vfew:s.vals.length≤64
 align:s.kind=4→gp (s.vals.getD 0 ⟨0,emp,emp⟩)=true
 vals:∀v∈s.vals,(Ex.printF v).2=0∧ValOk v
 opers:bL (eE s.opers).1 aC=false∧(eE s.opers).2=0
 size:(qg s).size≤512
theorem Oy {s:StV}{t:ByteArray}(hg:Gi s)(h:iB s=(t,0)):tz s∧t=qg s:=by
 unfold iB at h;split at h
 ·rename_i hc;injection h with h1 h2;exact absurd h2 hc
 rename_i hc;split at h
 ·injection h with h1 h2;cases h2
 rename_i hsz;injection h with h1 h2;have hc:=Decidable.not_not.1 hc;unfold dT at hc;split at hc
 ·cases hc
 rename_i c1;split at hc
 ·cases hc
 rename_i c2;split at hc
 ·cases hc
 rename_i c3;split at hc
 ·cases hc
 rename_i c4;split at hc
 ·rename_i c5;exact absurd hc c5
 rename_i c5;simp only[Bool.not_eq_false,and_eq_true,List.all_eq_true]at c1 c3;have hlab:∀n∈s.labels,(n++aC).size≤(qg s).size:=fun n hn=>xb (List.mem_append.2 (.inl (List.mem_map.2 ⟨n,hn,rfl⟩)));refine⟨⟨fun n hn=>?_,by omega,c1.2,c3.1,c3.2,by omega,by omega,fun hk=>?_,fun v hv=>?_,?_,by omega⟩,h1.symm⟩
 ·have:=c1.1 n hn;unfold fx at this;simp only[and_eq_true,Bool.not_eq_true',decide_eq_false_iff_not]at this;exact⟨Ap this.1 (IU (by have:=hlab n hn;omega)),this.2⟩
 ·cases hi:gp (s.vals.getD 0 ⟨0,emp,emp⟩) with
  |true=>rfl
  |false=>exact absurd ⟨hk,hi⟩ c4
 ·have:=AA (Decidable.not_not.1 c5) v hv;exact⟨this,J8 this (hg.vals v hv)⟩
 ·unfold kI at hc;split at hc
  ·cases hc
  ·rename_i hp;exact⟨by simpa using hp,hc⟩
theorem oB {s:StV}(h:tz s){x:ByteArray}(hx:x∈ye s):x.size≤512:=by
 have:x.size≤(qg s).size:=xb (List.mem_append.2 (.inr hx));have:=h.size;omega
theorem ue {s u:StV}(h:tz s){ps:List (List (Bool×Tok))}(hk:PartsOk ps (ye s))(hn:atF (fS ps) 4 1≠aC)
  (hb:(if fS ps=[] then(.ok { st0 with labels:=s.labels }:Except Int StV) else match restR ⟨fS ps,{ st0 with labels:=s.labels }⟩ with
   |.error e=>.error e
   |.ok p=>.ok p.s)=.ok u):dU (aa (qg s))=.ok u :=
 Lm h.labels h.few hk hn h.size hb
theorem T4:bj gC=true∧bj gH=true∧bj dN=true∧bj gK=true∧bj io=true∧bj ng=true∧bj kN=true∧bj qh=true∧bj kO=true∧bj sk=true:=by decide +kernel
theorem FC {d:ByteArray}(h1:d≠lO)(h2:bL d lO=true)(r:List Tok)(s:StV):restR ⟨nameT d::r,s⟩=ve d ⟨r,s⟩:=by
 unfold restR;simp only;rw[BJ];simp only;rw[if_neg h1,if_pos h2]
theorem Oe {d:ByteArray}{p:PsV}{s:StV}(h:readR d p=.ok ⟨[],s⟩):ve d p=.ok ⟨[],s⟩:=by
 unfold ve;rw[h];simp only;rw[if_pos trivial]
theorem lc {s u:StV}(h:tz s){d w:ByteArray}{p:List (Bool×Tok)}(hw:aG s=(d,w))(hd:bj d=true∧d≠lO∧bL d lO=true)(hp:PartOk p w)(hc:atF (p.map (·.2)) 4 0≠aC)
  (hr:readR d ⟨p.map (·.2),{ st0 with labels:=s.labels }⟩=.ok ⟨[],u⟩):dU (aa (qg s))=.ok u:=by
 have hdp:=mc hd.1;have hx:=Bb hw hdp.ne hp.ne
 have ht:fS [[(false,nameT d)],p]=nameT d::p.map (·.2):=by
  unfold fS;simp
 refine ue h (ps:=[[(false,nameT d)],p]) (by rw[hx];exact .cons hdp (.cons hp .nil)) (by rw[ht];exact hc) ?_;rw[ht,if_neg (by simp),FC hd.2.1 hd.2.2,Oe hr]
theorem KR {s u:StV}(h:tz s){d:ByteArray}(hw:aG s=(d,emp))(hd:bj d=true∧d≠lO∧bL d lO=true)
  (hr:readR d ⟨[],{ st0 with labels:=s.labels }⟩=.ok ⟨[],u⟩):dU (aa (qg s))=.ok u:=by
 have hdp:=mc hd.1;have hx:=UF hw hdp.ne;have ht:fS [[(false,nameT d)]]=[nameT d]:=rfl;refine ue h (ps:=[[(false,nameT d)]]) (by rw[hx];exact .cons hdp .nil) (by rw[ht,Jw,qn];decide) ?_;rw[ht,if_neg (by simp),FC hd.2.1 hd.2.2,Oe hr]
theorem Hz {ns:List ByteArray}(hne:ns≠[])(hn:∀n∈ns,da (aa n)=true)(hs:(cO ns).size≤512):PartOk (yg (ns.map fun n=>[(false,nameT n)])) (cO ns):=by
 have h:PartsOk (ns.map fun n=>[(false,nameT n)]) (ns.map id):=PartsOk.of_map fun n hm=>mc (Ap (hn n hm) (by have:=Ae hm;omega));rw[List.map_id]at h;exact CE h (by simpa using hne)
theorem Nc {vs:List Val}(hne:vs≠[])(hv:∀v∈vs,(Ex.printF v).2=0∧ValOk v):PartOk (yg (vs.map lY)) (cO (bH vs)) :=
 CE (PartsOk.of_map fun v hm=>zG (hv v hm).1 (hv v hm).2) (by simpa using hne)
end
section
open Ex (ax nameT valT ValOk pX txtL textT)
theorem Uc {s:StV}(h:lx s=true):(0≤s.kind∧s.kind≤7)∧(s.kind≠1→s.name=emp∧s.opers=[])∧(s.kind≠2→s.kind≠3→s.kind≠7→s.names=[])∧(s.kind≠4→s.kind≠5→s.kind≠7→s.vals=[])∧(s.kind≠5→s.size=0)∧(s.kind≠6→s.bytes=[]):=by
 unfold lx at h;simp only[and_eq_true,Bool.or_eq_true,decide_eq_true_eq]at h;obtain⟨⟨⟨⟨⟨h1,h2⟩,h3⟩,h4⟩,h5⟩,h6⟩:=h;exact⟨h1,fun k=>h2.resolve_right k,fun a b c=>h3.resolve_right (by omega),fun a b c=>h4.resolve_right (by omega),fun k=>h5.resolve_right k,fun k=>h6.resolve_right k⟩
theorem MS {s:StV}{t:ByteArray}(hg:Gi s)(h:iB s=(t,0)):dU (aa t)=.ok (pM s):=by
 obtain⟨H,rfl⟩:=Oy hg h;obtain⟨hk,u1,u2,u3,u4,u5⟩:=Uc H.uses;have hC:=H.counts;obtain⟨d1,d2,d3,d4,d5,d6,d7,d8,d9,d10⟩:=T4;obtain⟨ls,k,name,opers,names,size,vals,bytes⟩:=s;simp only at hk u1 u2 u3 u4 u5;have hks:k=0∨k=1∨k=2∨k=3∨k=4∨k=5∨k=6∨k=7:=by omega
 rcases hks with rfl | rfl | rfl | rfl | rfl | rfl | rfl | rfl
 ·obtain⟨rfl,rfl⟩:=u1 (by decide);obtain rfl:=u2 (by decide) (by decide) (by decide);obtain rfl:=u3 (by decide) (by decide) (by decide);obtain rfl:=u4 (by decide);obtain rfl:=u5 (by decide);exact ue H (ps:=[]) (.nil) (by rw[show fS []=[] from rfl,qn];decide) rfl
 ·obtain rfl:=u2 (by decide) (by decide) (by decide);obtain rfl:=u3 (by decide) (by decide) (by decide);obtain rfl:=u4 (by decide);obtain rfl:=u5 (by decide);unfold aP at hC;simp only[if_true,and_eq_true,Bool.not_eq_true']at hC;obtain⟨hL,hD⟩:=hC;have hnd:name≠lO:=fun e=>by rw[e]at hD;exact absurd hD (by decide)
  have hw:aG ⟨ls,1,name,opers,[],0,[],[]⟩=(name,(eE opers).1):=rfl;obtain⟨ho1,ho2⟩:=H.opers;obtain⟨g1,g2,g3,g4⟩:=rW hg.opers (show eE opers=((eE opers).1,0) from Prod.ext rfl ho2);have hne:name≠emp:=fun e=>by rw[e]at hL;exact absurd hL (by decide)
  have hs:bj name=true:=Ap hL (oB H (by unfold ye;rw[hw];simp[hne]));have hp1:=mc hs
  have rest:∀r:List Tok,listF r=.ok (opers.map aB)→(match restR ⟨nameT name::r,{ st0 with labels:=ls }⟩ with
   |.error e=>(.error e:Except Int StV)
   |.ok p=>.ok p.s)=.ok (pM ⟨ls,1,name,opers,[],0,[],[]⟩):=by
   intro r hr;unfold restR;simp only;rw[BJ];simp only;rw[if_neg hnd,if_neg (by rw[hD];decide),hr];rfl
  by_cases hop:opers=[]
  ·subst hop;have hx:=UF (show aG ⟨ls,1,name,[],[],0,[],[]⟩=(name,emp) from rfl) hne;refine ue H (ps:=[[(false,nameT name)]]) (by rw[hx];exact .cons hp1 .nil) (by rw[show fS [[(false,nameT name)]]=[nameT name] from rfl,Jw,qn];decide) ?_;rw[show fS [[(false,nameT name)]]=[nameT name] from rfl,if_neg (by simp)];exact rest [] rfl
  ·have hp2:=HY g2 hop;rw[←g1]at hp2;have hx:=Bb hw hne hp2.ne
   have ht:fS [[(false,nameT name)],oK opers]=nameT name::qW opers:=by
    unfold fS;simp[zC]
   have hcol:=hp2.colon ho1 [];rw[append_nil,zC]at hcol;refine ue H (ps:=[[(false,nameT name)],oK opers]) (by rw[hx];exact .cons hp1 (.cons hp2 .nil)) (by rw[ht];exact hcol) ?_;rw[ht,if_neg (by simp)];exact rest _ (ON g2 g3 g4)
 ·obtain⟨rfl,rfl⟩:=u1 (by decide);obtain rfl:=u3 (by decide) (by decide) (by decide);obtain rfl:=u4 (by decide);obtain rfl:=u5 (by decide)
  have hl:names.length=1:=by
   have:decide (names.length=1)=true:=hC;exact of_decide_eq_true this
  obtain⟨n,rfl⟩:=List.length_eq_one_iff.1 hl;by_cases hn:n=gC∨n=gH
  ·have hw:aG ⟨ls,2,emp,[],[n],0,[],[]⟩=(n,emp):=by
    show(if n=gC∨n=gH then(n,emp) else(dN,n))=_;rw[if_pos hn]
   refine KR H hw (by rcases hn with rfl | rfl<;>exact⟨by assumption,by decide,by decide⟩) ?_;unfold readR;rw[if_pos hn];rfl
  ·have hw:aG ⟨ls,2,emp,[],[n],0,[],[]⟩=(dN,n):=by
    show(if n=gC∨n=gH then(n,emp) else(dN,n))=_;rw[if_neg hn]
   have hnL:=H.names n (by simp);have hne:n≠emp:=fun e=>by rw[e]at hnL;exact absurd hnL (by decide)
   have hs:bj n=true:=Ap hnL (oB H (by rw[Bb hw (by decide) hne];simp));refine lc H hw ⟨d3,by decide,by decide⟩ (mc hs) (by show emp≠aC;decide) ?_;unfold readR;rw[if_neg (by decide),if_pos rfl];rfl
 ·obtain⟨rfl,rfl⟩:=u1 (by decide);obtain rfl:=u3 (by decide) (by decide) (by decide);obtain rfl:=u4 (by decide);obtain rfl:=u5 (by decide)
  have hl:0<names.length:=by
   have:decide (0<names.length)=true:=hC;exact of_decide_eq_true this
  cases names with
  |nil=>simp at hl
  |cons n r =>
   have hw:aG ⟨ls,3,emp,[],n::r,0,[],[]⟩=(gK,cO (n::r)):=rfl
   have hne:cO (n::r)≠emp:=fun e=>by
    have h0:n.size≤(cO (n::r)).size:=Ae (by simp);rw[e]at h0;have hnL:=H.names n (by simp);have:n=emp:=ByteArray.size_eq_zero_iff.1 (by have:emp.size=0:=rfl;omega);rw[this]at hnL;exact absurd hnL (by decide)
   have hp:=Hz (ns:=n::r) (by simp) H.names (oB H (by rw[Bb hw (by decide) hne];simp));have ht:=Be (fun n=>[(false,nameT n)]) n r;refine lc H hw ⟨d4,by decide,by decide⟩ hp (by rw[ht];show emp≠aC;decide) ?_;rw[ht];unfold readR;rw[if_neg (by decide),if_neg (by decide),if_pos rfl];exact BZ r n 63 { st0 with labels:=ls,kind:=3 } (by have:=H.nfew;simp at this;omega)
 ·obtain⟨rfl,rfl⟩:=u1 (by decide);obtain rfl:=u2 (by decide) (by decide) (by decide);obtain rfl:=u4 (by decide);obtain rfl:=u5 (by decide)
  have hl:vals.length=1:=by
   have:decide (vals.length=1)=true:=hC;exact of_decide_eq_true this
  obtain⟨v,rfl⟩:=List.length_eq_one_iff.1 hl;obtain⟨hv1,hv2⟩:=H.vals v (by simp);have hw:aG ⟨ls,4,emp,[],[],0,[v],[]⟩=(io,(Ex.printF v).1):=rfl;refine lc H hw ⟨d5,by decide,by decide⟩ (zG hv1 hv2) (by rw[ij];have:=ow v [];rwa [append_nil]at this) ?_;rw[ij];unfold readR;rw[if_neg (by decide),if_neg (by decide),if_neg (by decide),if_pos rfl];unfold i6;have e:=rY hv2 (r:=[]) (Ex.ends_emp rfl) { st0 with labels:=ls,kind:=4 };rw[append_nil]at e;rw[show dV 4 ⟨valT v,{ st0 with labels:=ls }⟩=⟨valT v,{ st0 with labels:=ls,kind:=4 }⟩ from rfl,e];simp only;rw[if_pos (show gp ((st0.vals++[v]).getD 0 ⟨0,emp,emp⟩)=true from H.align rfl)];rfl
 ·obtain⟨rfl,rfl⟩:=u1 (by decide);obtain rfl:=u2 (by decide) (by decide) (by decide);obtain rfl:=u5 (by decide)
  have hl:0<vals.length∧(size=1∨size=4∨size=8):=by
   have:(decide (0<vals.length)&&decide (size=1∨size=4∨size=8))=true:=hC;simpa using this
  obtain⟨hl,hz⟩:=hl;cases vals with
  |nil=>simp at hl
  |cons v r =>
   have hp:=Nc (vs:=v::r) (by simp) H.vals
   have ht:(yg ((v::r).map lY)).map (·.2)=valT v++r.flatMap fun w=>ax az::valT w:=by
    rw[Be,ij];simp only[ij]
   have hrow:=fun z=>B0 r v 63 { st0 with labels:=ls,kind:=5,size:=z } (fun w hw=>(H.vals w hw).2) (by have:=H.vfew;simp at this;omega);rcases hz with rfl | rfl | rfl
   ·refine lc H (d:=ng) (w:=cO (bH (v::r))) rfl ⟨d6,by decide,by decide⟩ hp (by rw[ht];exact ow v _) ?_;rw[ht];unfold readR;rw[if_neg (by decide),if_neg (by decide),if_neg (by decide),if_neg (by decide),if_pos rfl];exact hrow 1
   ·refine lc H (d:=kN) (w:=cO (bH (v::r))) rfl ⟨d7,by decide,by decide⟩ hp (by rw[ht];exact ow v _) ?_;rw[ht];unfold readR;rw[if_neg (by decide),if_neg (by decide),if_neg (by decide),if_neg (by decide),if_neg (by decide),if_pos rfl];exact hrow 4
   ·refine lc H (d:=qh) (w:=cO (bH (v::r))) rfl ⟨d8,by decide,by decide⟩ hp (by rw[ht];exact ow v _) ?_;rw[ht];unfold readR;rw[if_neg (by decide),if_neg (by decide),if_neg (by decide),if_neg (by decide),if_neg (by decide),if_neg (by decide),if_pos rfl];exact hrow 8
 ·obtain⟨rfl,rfl⟩:=u1 (by decide);obtain rfl:=u2 (by decide) (by decide) (by decide);obtain rfl:=u3 (by decide) (by decide) (by decide);obtain rfl:=u4 (by decide);have hw:aG ⟨ls,6,emp,[],[],0,[],bytes⟩=(kO,ki bytes):=rfl;have hb:=hg.bytes
  have hq:(ki bytes).size=(eD bytes).length:=by
   rw[←ae,ki,bh (Ex.quoteL_range hb)]
  have hqne:ki bytes≠emp:=fun e=>by
   have:(ki bytes).size=0:=by rw[e];rfl
   rw[hq]at this;unfold eD at this;simp at this
  have hqs:=oB H (x:=ki bytes) (by rw[Bb hw (by decide) hqne];simp)
  have hqlen:bytes.length≤(eD bytes).length:=by
   have h1:∀l:List Int,l.length≤(eC l).length:=by
    intro l
    induction l with
    |nil=>simp
    |cons c l ih =>
     have e:eC (c::l)=dC c++eC l:=rfl;have:1≤(dC c).length:=by unfold dC;split<;>(try split)<;>simp
     rw[e,length_append,length_cons];omega
   have:=h1 bytes;unfold eD;simp;omega
  refine lc H hw ⟨d9,by decide,by decide⟩ (H6 hb (by omega)) (by show emp≠aC;decide) ?_;unfold readR;rw[if_neg (by decide),if_neg (by decide),if_neg (by decide),if_neg (by decide),if_neg (by decide),if_neg (by decide),if_neg (by decide),if_pos rfl];show(Except.ok (⟨[],{ st0 with labels:=ls,kind:=6,bytes:=aa (aj bytes) }⟩:PsV):Except Int PsV)=_;rw[bh hb];rfl
 ·obtain⟨rfl,rfl⟩:=u1 (by decide);obtain rfl:=u4 (by decide);obtain rfl:=u5 (by decide)
  have hl:names.length=1∧vals.length=1:=by
   have:(decide (names.length=1)&&decide (vals.length=1))=true:=hC;simpa using this
  obtain⟨n,rfl⟩:=List.length_eq_one_iff.1 hl.1;obtain⟨v,rfl⟩:=List.length_eq_one_iff.1 hl.2;obtain⟨hv1,hv2⟩:=H.vals v (by simp);have hw:aG ⟨ls,7,emp,[],[n],0,[v],[]⟩=(sk,n++dX++(Ex.printF v).1):=rfl;have hnL:=H.names n (by simp)
  have hwn:n++dX++(Ex.printF v).1≠emp:=fun e=>by
   have:=congrArg ByteArray.size e;rw[ByteArray.size_append,ByteArray.size_append]at this;have h2:dX.size=2:=rfl;have h3:emp.size=0:=rfl;omega
  have hsz:=oB H (x:=n++dX++(Ex.printF v).1) (by rw[Bb hw (by decide) hwn];simp);have hs:bj n=true:=Ap hnL (by rw[ByteArray.size_append,ByteArray.size_append]at hsz;omega);have hp:PartOk (yg [[(false,nameT n)],lY v]) (cO [n,(Ex.printF v).1]):=CE (.cons (mc hs) (.cons (zG hv1 hv2) .nil)) (by simp)
  have ht:(yg [[(false,nameT n)],lY v]).map (·.2)=nameT n::ax az::valT v:=by
   unfold yg yh yh;simp only[map_append,map_cons,qb,ij,List.map_nil,append_nil];rfl
  refine lc H (d:=sk) (w:=cO [n,(Ex.printF v).1]) rfl ⟨d10,by decide,by decide⟩ hp (by rw[ht];show emp≠aC;decide) ?_;rw[ht];unfold readR;rw[if_neg (by decide),if_neg (by decide),if_neg (by decide),if_neg (by decide),if_neg (by decide),if_neg (by decide),if_neg (by decide),if_neg (by decide),if_pos rfl];have e:=rY hv2 (r:=[]) (Ex.ends_emp rfl) { st0 with labels:=ls,kind:=7,names:=[n] };rw[append_nil]at e;exact e
end
section
open Ex (ax nameT valT ValOk pX txtL textT)
theorem L1 (r:List Int):fq (58::r)=.ok (⟨4,aj [58],0,0⟩,1):=by
 have h1:bD (58::r)=1:=by
  unfold bD;rw[if_neg (by rintro⟨-,h⟩;revert h;rw[show bAt (58::r) 0=58 from rfl];rintro (⟨h,-⟩ | ⟨h,-⟩)<;>omega),if_pos ⟨by simp,by rw[show bAt (58::r) 0=58 from rfl];decide⟩]
 unfold fq;rw[h1];rfl
theorem Dz {q e:Nat}{r:List Int}{ts:List Tok}(h:aZ q (58::r)=(ts,e,0)):atF ts 4 0=aC:=by
 have hk:br au (58::r)=0:=by rw[iU];rfl
 have hd:dj ((58::r).drop (br au (58::r)))=false:=by
  rw[hk,List.drop_zero];unfold dj;rw[show bAt (58::r) 0=58 from rfl];simp
 have ho:fq ((58::r).drop (br au (58::r)))=.ok (⟨4,aj [58],0,0⟩,1):=by rw[hk,List.drop_zero];exact L1 r
 rw[jA hd ho]at h;injection h with h1 h2;rw[←h1];rfl
theorem I9 {o:OpV}{x:List Tok}(h:atF ((gB o).map (·.2)++x) 4 0=aC):o.kind=2∧o.lo=true:=by
 have hne:emp≠aC:=by decide
 have hhash:aS≠aC:=by decide
 have hsg:∀(s:ByteArray) (p:List (Bool×Tok)) ,atF (((sg s::p).map (·.2))++x) 4 0=s:=fun s p=>rfl;have hnm:∀(b:Bool) (s:ByteArray) (p:List (Bool×Tok)),atF ((((b,nameT s)::p).map (·.2))++x) 4 0=emp:=fun b s p=>rfl
 have hnd:∀k n:Int,atF ((fX k n).map (·.2)++x) 4 0=aC→False:=by
  intro k n h;unfold fX at h;split at h
  ·rw[hnm]at h;exact hne h
  ·rw[hsg]at h;exact hhash h
 unfold gB at h;split at h
 ·rw[hnm]at h;exact(hne h).elim
 split at h
 ·rename_i k;refine⟨k,?_⟩;cases hl:o.lo with
  |true=>rfl
  |false =>
   have:iy o=sg aS::lY o.val:=by unfold iy;rw[if_neg (by rw[hl];decide)]
   rw[this,List.cons_append,hsg]at h;exact(hhash h).elim
 split at h
 ·split at h
  ·rw[hsg]at h;exact(hhash h).elim
  ·have e:(lY o.val).map (·.2)=valT o.val:=by unfold lY;rw[List.map_map];exact List.map_id _
   rw[e]at h;exact(ow _ _ h).elim
 split at h
 ·exact(hnd _ _ h).elim
 split at h
 ·exact(hnd _ _ h).elim
 split at h
 ·exact(hnd _ _ h).elim
 split at h
 ·exact(hnd _ _ h).elim
 split at h
 ·exact(hnd _ _ h).elim
 ·unfold xj at h;rw[hsg]at h;exact((by decide:CD≠aC) h).elim
theorem L7 {l:List OpV}(h:∀o∈l,OpOk o)(hp:bL (cO (l.map aO)) aC=true):∃o r,l=o::r∧o.kind=2∧o.lo=true:=by
 obtain⟨t,ht⟩:=ox.1 hp;rw[←zR h,Sf]at ht;obtain⟨ts,h1,h2⟩:=rh none 0 (Am h) (yJ (p:=none) fun t=>by unfold pX;rfl);rw[ht]at h1;have h3:atF (ts.map cJ) 4 0=aC:=by rw[fH];exact Dz h1
 rw[h2]at h3;cases l with
 |nil=>exact((by decide:emp≠aC) h3).elim
 |cons o r =>
  refine⟨o,r,rfl,?_⟩
  have e:∃x,oK (o::r)=gB o++x:=by
   cases r with
   |nil=>exact⟨[],by rw[append_nil];rfl⟩
   |cons p r=>exact⟨_,rfl⟩
  obtain⟨x,e⟩:=e;rw[show((oK (o::r)).map fun u=>cJ u.2)=((oK (o::r)).map (·.2)).map cJ by rw[List.map_map];rfl,fH,e,map_append]at h3;exact I9 h3
theorem qt {o o':OpV}{most nn:Int}{l r:List Tok}(e:changedR o most nn l=.ok (o',r)):o'.kind=o.kind∧o'.lo=o.lo:=by
 unfold changedR at e;split at e
 ·injection e with e;injection e with e1 e2;subst e1;exact⟨rfl,rfl⟩
 split at e
 ·split at e
  ·cases e
  ·injection e with e;injection e with e1 e2;subst e1;exact⟨rfl,rfl⟩
 ·injection e with e;injection e with e1 e2;subst e1;exact⟨rfl,rfl⟩
theorem SI {o o':OpV}{l r:List Tok}(e:tW o l=.ok (o',r)):o'.kind=o.kind:=by
 unfold tW at e;split at e
 ·cases e
 ·rename_i o1 l1 h1;split at e
  ·cases e
  split at e
  ·cases e
  ·injection e with e;injection e with e1 e2;subst e1;exact(qt h1).1
theorem ST {o o':OpV}{l r:List Tok}(e:vt o l=.ok (o',r)):o'.kind=o.kind:=by
 unfold vt at e;split at e
 ·cases e
 split at e
 ·cases e
 ·injection e with e;injection e with e1 e2;subst e1;rfl
theorem Tn {o o':OpV}{l r:List Tok}(e:vF o l=.ok (o',r)):o'.kind=o.kind:=by
 unfold vF at e;split at e
 ·cases e
 split at e
 ·cases e
 split at e
 ·cases e
 split at e
 ·injection e with e;injection e with e1 e2;subst e1;rfl
 ·injection e with e;injection e with e1 e2;subst e1;rfl
theorem GF {o o':OpV}{l r:List Tok}(e:fK o l=.ok (o',r)):o'.kind=o.kind:=by
 unfold fK at e;split at e
 ·cases e
 split at e
 ·exact(SI e).trans rfl
 split at e
 ·cases e
 split at e
 ·exact ST e
 ·exact Tn e
theorem Hu {o:OpV}{l r:List Tok}(e:fm l=.ok (o,r)):o.kind=5:=by
 unfold fm at e;split at e
 ·cases e
 split at e
 ·unfold nl at e;split at e
  ·split at e
   ·cases e
   ·injection e with e;injection e with e1 e2;subst e1;rfl
  ·injection e with e;injection e with e1 e2;subst e1;rfl
 ·exact GF e
theorem FS {s:ByteArray}{o:OpV}:∀{l:List (Int×Int)},rsvdF s l=some o→o.lo=false
 |[],h=>by cases h
 |(kd,k)::r,h=>by
  unfold rsvdF at h;split at h
  ·injection h with h;subst h;rfl
  ·exact FS h
theorem PB {o:OpV}{l r:List Tok}(e:operR l=.ok (o,r))(hk:o.kind=2)(hl:o.lo=true):atF l 4 0=aC:=by
 unfold operR at e;split at e
 ·have h1:o.kind=1:=(qt e).1;omega
 split at e
 ·have:=Hu e;omega
 split at e
 ·unfold nj at e;split at e
  ·cases e
  ·have:=(qt e).2;rw[hl]at this;cases this
 ·split at e
  ·cases e
  ·rename_i l1 h1;unfold loR at h1;split at h1
   ·injection h1 with h1;injection h1 with h1 h2;cases h1
   ·rename_i hc;exact Decidable.not_not.1 hc
  ·split at e
   ·unfold cK at e;split at e
    ·rename_i h2;injection e with e;injection e with e1 e2;subst e1;rw[FS h2]at hl;cases hl
    ·cases e
   ·split at e
    ·cases e
    ·injection e with e;injection e with e1 e2;subst e1;split at hl<;>cases hl
theorem wV:∀{N:Nat} {out out':List OpV} {l:List Tok},RdOk l→nY out→fo N out l=.ok out'→∃t,out'=out++t
 |N,out,out',[],h,ho,e=>by
  rw[dx]at e;injection e with e;exact⟨[],by rw[←e,append_nil]⟩
 |0,out,out',t::l,h,ho,e=>by cases e
 |N+1,out,out',t::l,h,ho,e=>by
  rw[dq (by simp)]at e;rcases hs:stepR out (t::l) with x | ⟨o1,l1⟩
  ·rw[hs]at e;cases e
  ·rw[hs]at e;obtain⟨g1,g2,-,o,g3⟩:=mL h ho hs;obtain⟨u,hu⟩:=wV (N:=N) g2 g1 e;exact⟨o::u,by rw[hu,g3,append_assoc];rfl⟩
theorem EK {l:List Tok}{o:OpV}{t:List OpV}(h:RdOk l)(e:listF l=.ok (o::t)):∃r,operR l=.ok (o,r):=by
 cases l with
 |nil=>unfold listF at e;rw[dx]at e;injection e with e;cases e
 |cons u l =>
  unfold listF at e;rw[length_cons,dq (by simp)]at e;rcases hs:stepR [] (u::l) with x | ⟨o1,l1⟩
  ·rw[hs]at e;cases e
  ·rw[hs]at e;obtain⟨g1,g2,-,-⟩:=mL h oO hs;obtain⟨v,hv⟩:=wV g2 g1 e;unfold stepR at hs;rw[if_pos rfl]at hs;simp only[List.length_nil]at hs;rw[if_neg (by decide)]at hs;rcases ho:operR (u::l) with y | ⟨o2,l2⟩
   ·rw[ho]at hs;cases hs
   ·rw[ho]at hs;simp only at hs;split at hs
    ·cases hs
    split at hs
    ·cases hs
    ·injection hs with hs;injection hs with hs1 hs2;rw[←hs1]at hv;injection hv with hv1 hv2;exact⟨l2,by rw[hv1]⟩
theorem s9 {l:List Tok}(h:RdOk l){n:Nat}(hi:isF l 1 n=true):bj (atF l 1 n)=true:=by
 unfold isF at hi;unfold atF;split at hi
 ·rename_i t ht;have hk:=of_decide_eq_true hi;rw[ht];simp only;rw[if_pos hk];exact h.named t (List.mem_of_getElem? ht) hk
 ·cases hi
theorem zj {n:ByteArray}(h:bj n=true):da (aa n)=true:=by
 unfold bj at h;rw[Ex.nameB_nameL,and_eq_true]at h;exact h.2
theorem t6:∀{N:Nat} {out ls:List ByteArray} {l r:List Tok},RdOk l→(∀n∈out,fx n=true)→labelsF N out l=.ok (ls,r)→∀n∈ls,fx n=true
 |0,out,ls,l,r,h,ho,e=>by
  injection e with e;injection e with e1 e2;subst e1;exact ho
 |N+1,out,ls,l,r,h,ho,e=>by
  unfold labelsF at e;split at e
  ·rename_i hc;split at e
   ·cases e
   ·rename_i hd;split at e
    ·cases e
    ·refine t6 (h.drop 2) (fun n hn=>?_) e;rcases List.mem_append.1 hn with hn | hn
     ·exact ho n hn
     ·rw[mem_singleton]at hn;subst hn;unfold fx;rw[zj (s9 h hc.1),decide_eq_false hd];rfl
  ·injection e with e;injection e with e1 e2;subst e1;exact ho
theorem wF:∀{N:Nat} {out ls:List ByteArray} {l r:List Tok},l.length≤N→labelsF N out l=.ok (ls,r)→¬(isF r 1 0=true∧atF r 4 1=aC)
 |0,out,ls,l,r,h,e=>by
  injection e with e;injection e with e1 e2;subst e2;rintro⟨h1,-⟩;have:=yV h1;omega
 |N+1,out,ls,l,r,h,e=>by
  unfold labelsF at e;split at e
  ·rename_i hc;split at e
   ·cases e
   ·split at e
    ·cases e
    ·exact wF (by rw[List.length_drop];omega) e
  ·rename_i hc;injection e with e;injection e with e1 e2;subst e2;exact hc
theorem qQ {p q:PsV}(h:RdOk p.l)(e:nameR p=.ok q):RdOk q.l∧∃n,da (aa n)=true∧q.s={ p.s with names:=p.s.names++[n] }:=by
 unfold nameR at e;rcases hn:nextF 1 112 p.l with x | ⟨t,l⟩
 ·rw[hn]at e;cases e
 ·rw[hn]at e;injection e with e;subst e;obtain⟨g1,g2,g3,g4,g5⟩:=qR h hn;exact⟨g1,t,by rw[g4];exact zj (s9 h g5),rfl⟩
theorem ru {p q:PsV}(h:RdOk p.l)(e:valR2 p=.ok q):RdOk q.l∧∃v,Ex.GoodV v∧q.s={ p.s with vals:=p.s.vals++[v] }:=by
 unfold valR2 at e;rcases hn:valueR p.l with x | ⟨v,l⟩
 ·rw[hn]at e;cases e
 ·rw[hn]at e;injection e with e;subst e;obtain⟨g1,g2,g3⟩:=gD h hn;exact⟨g2,v,g1,rfl⟩
theorem zU:∀{N:Nat} {p q:PsV},RdOk p.l→dl nameR N p=.ok q→RdOk q.l∧∃ns,ns≠[]∧ns.length≤N+1∧(∀n∈ns,da (aa n)=true)∧q.s={ p.s with names:=p.s.names++ns }
 |N,p,q,h,e=>by
  unfold dl at e;rcases h1:nameR p with x | p1
  ·rw[h1]at e;cases e
  ·rw[h1]at e;obtain⟨g,n,hn,hs⟩:=qQ h h1;simp only at e;split at e
   ·cases N with
    |zero=>cases e
    |succ N =>
     obtain⟨k1,ns,k2,k3,k4,k5⟩:=zU (p:=⟨p1.l.drop 1,p1.s⟩) (g.drop 1) e;refine⟨k1,n::ns,by simp,by rw[length_cons];omega,fun m hm=>?_,?_⟩
     ·rcases List.mem_cons.1 hm with rfl | hm
      ·exact hn
      ·exact k4 m hm
     ·rw[k5];simp only[hs,append_assoc];rfl
   ·injection e with e;subst e;exact⟨g,[n],by simp,by simp,fun m hm=>by rw[mem_singleton]at hm;rw[hm];exact hn,hs⟩
theorem zV:∀{N:Nat} {p q:PsV},RdOk p.l→dl valR2 N p=.ok q→RdOk q.l∧∃vs,vs≠[]∧vs.length≤N+1∧(∀v∈vs,Ex.GoodV v)∧q.s={ p.s with vals:=p.s.vals++vs }
 |N,p,q,h,e=>by
  unfold dl at e;rcases h1:valR2 p with x | p1
  ·rw[h1]at e;cases e
  ·rw[h1]at e;obtain⟨g,n,hn,hs⟩:=ru h h1;simp only at e;split at e
   ·cases N with
    |zero=>cases e
    |succ N =>
     obtain⟨k1,ns,k2,k3,k4,k5⟩:=zV (p:=⟨p1.l.drop 1,p1.s⟩) (g.drop 1) e;refine⟨k1,n::ns,by simp,by rw[length_cons];omega,fun m hm=>?_,?_⟩
     ·rcases List.mem_cons.1 hm with rfl | hm
      ·exact hn
      ·exact k4 m hm
     ·rw[k5];simp only[hs,append_assoc];rfl
   ·injection e with e;subst e;exact⟨g,[n],by simp,by simp,fun m hm=>by rw[mem_singleton]at hm;rw[hm];exact hn,hs⟩
theorem Az:∀{l:List Val},(∀v∈l,Ex.GoodV v)→kx l=0
 |[],_=>rfl
 |v::r,h=>by
  unfold kx;rw[if_pos (Ex.goodPrint (h v (by simp))),Az fun w hw=>h w (List.mem_cons_of_mem _ hw)]
theorem NS {s:StV}(h1:∀n∈s.labels,fx n=true)(h2:s.labels.length≤8)(h3:lx s=true)(h4:aP s=true)(h5:∀n∈s.names,da (aa n)=true)(h6:s.names.length≤64)(h7:s.vals.length≤64)(h8:∀v∈s.vals,Ex.GoodV v)(h9:s.kind=4→gp (s.vals.getD 0 ⟨0,emp,emp⟩)=true)(h10:kI s.opers=0):dT s=0:=by
 unfold dT;rw[h3,h4,if_neg (by rw[Bool.and_true];intro h;rw[List.all_eq_true.2 h1]at h;cases h),nG,if_neg (by rw[Bool.true_and];intro h;rw[List.all_eq_true.2 h5]at h;cases h),if_neg (fun h=>by rw[h9 h.1]at h;cases h.2),Az h8,if_neg (by simp),h10]
structure DH (s:StV):Prop where
 chk:dT s=0
 good:Gi s
 plain:pM s=s
theorem VT:kI []=0:=by decide +kernel
theorem nr {s:StV}(h1:∀n∈s.labels,fx n=true)(h2:s.labels.length≤8)(h3:lx s=true)(h4:aP s=true)(h5:∀n∈s.names,da (aa n)=true)(h6:s.names.length≤64)(h7:s.vals.length≤64)(h8:∀v∈s.vals,Ex.GoodV v)(h9:s.kind=4→gp (s.vals.getD 0 ⟨0,emp,emp⟩)=true)(h10:s.opers=[])(h11:∀z∈s.bytes,0≤z∧z≤255):DH s :=
 ⟨NS h1 h2 h3 h4 h5 h6 h7 h8 h9 (by rw[h10];exact VT),⟨fun v hv=>VP (h8 v hv),fun o ho=>(by rw[h10]at ho;cases ho),h11⟩,by cases s;simp only at h10;subst h10;rfl⟩
theorem LF:da (aa gC)=true:=by decide +kernel
theorem LE:da (aa gH)=true:=by decide +kernel
theorem qS {p:ByteArray→Prop}:∀n∈([]:List ByteArray),p n:=fun n hn=>by cases hn
theorem pI {p:Val→Prop}:∀n∈([]:List Val),p n:=fun n hn=>by cases hn
theorem ll {p:Int→Prop}:∀n∈([]:List Int),p n:=fun n hn=>by cases hn
theorem Iv {name:ByteArray}{ls:List ByteArray}{l:List Tok}{q:PsV}(h:RdOk l)(h1:∀n∈ls,fx n=true)(h2:ls.length≤8)(e:readR name ⟨l,{ st0 with labels:=ls }⟩=.ok q):DH q.s:=by
 unfold readR at e;split at e
 ·rename_i hc;injection e with e;subst e;refine nr h1 h2 rfl rfl (fun n hn=>?_) (by simp) (by simp[st0]) pI (fun h:(2:Int)=4=>by omega) rfl ll;have hn:n=name:=List.mem_singleton.1 hn;subst hn;rcases hc with rfl | rfl
  ·exact LF
  ·exact LE
 split at e
 ·obtain⟨g,n,hn,hs⟩:=qQ (p:=dV 2 ⟨l,{ st0 with labels:=ls }⟩) h e;rw[hs];exact nr h1 h2 rfl rfl (fun m hm=>by have hm:m=n:=List.mem_singleton.1 hm;rw[hm];exact hn) (by simp[dV,st0]) (zero_le _) pI (fun h:(2:Int)=4=>by omega) rfl ll
 split at e
 ·obtain⟨g,ns,k2,k3,k4,hs⟩:=zU (p:=dV 3 ⟨l,{ st0 with labels:=ls }⟩) h e;rw[hs];have hpos:0<ns.length:=List.length_pos_iff.2 k2;refine nr h1 h2 ?_ ?_ k4 k3 (zero_le _) pI (fun h:(3:Int)=4=>by omega) rfl ll
  ·simp[lx,dV,st0]
  ·simp[aP,dV,st0,hpos]
 split at e
 ·unfold i6 at e;rcases hv:valR2 (dV 4 ⟨l,{ st0 with labels:=ls }⟩) with x | p1
  ·rw[hv]at e;cases e
  ·rw[hv]at e;simp only at e;split at e
   ·rename_i ha;injection e with e;subst e;obtain⟨g,v,gv,hs⟩:=ru (p:=dV 4 ⟨l,{ st0 with labels:=ls }⟩) h hv;rw[hs]at ha ⊢;exact nr h1 h2 rfl rfl qS (zero_le _) (by simp[dV,st0]) (fun w hw=>by have hw:w=v:=List.mem_singleton.1 hw;rw[hw];exact gv) (fun _=>ha) rfl ll
   ·cases e
 have data:∀n:Int,n=1∨n=4∨n=8→eI n ⟨l,{ st0 with labels:=ls }⟩=.ok q→DH q.s:=by
  intro n hn e;unfold eI at e;obtain⟨g,vs,k2,k3,k4,hs⟩:=zV (p:=⟨l,{ st0 with labels:=ls,kind:=5,size:=n }⟩) h e;rw[hs];have hpos:0<vs.length:=List.length_pos_iff.2 k2;refine nr h1 h2 ?_ ?_ qS (zero_le _) k3 k4 (fun h:(5:Int)=4=>by omega) rfl ll
  ·simp[lx,st0]
  ·simp[aP,st0,hpos,hn]
 split at e
 ·exact data 1 (.inl rfl) e
 split at e
 ·exact data 4 (.inr (.inl rfl)) e
 split at e
 ·exact data 8 (.inr (.inr rfl)) e
 split at e
 ·unfold jo at e;rcases hn:nextF 3 112 (dV 6 ⟨l,{ st0 with labels:=ls }⟩).l with x | ⟨t,r⟩
  ·rw[hn]at e;cases e
  ·rw[hn]at e;injection e with e;subst e;refine nr h1 h2 ?_ rfl qS (zero_le _) (zero_le _) pI (fun h:(6:Int)=4=>by omega) rfl (fun z hz=>ig hz);simp[lx,dV,st0]
 split at e
 ·unfold qF at e;rcases hn:nameR (dV 7 ⟨l,{ st0 with labels:=ls }⟩) with x | p1
  ·rw[hn]at e;cases e
  ·rw[hn]at e;simp only at e;split at e
   ·obtain⟨g,n,gn,hs⟩:=qQ (p:=dV 7 ⟨l,{ st0 with labels:=ls }⟩) h hn;obtain⟨g',v,gv,hs'⟩:=ru (p:=⟨p1.l.drop 1,p1.s⟩) (g.drop 1) e;rw[hs'];simp only[hs];refine nr h1 h2 ?_ ?_ (fun m hm=>by have hm:m=n:=List.mem_singleton.1 hm;rw[hm];exact gn) (by simp[dV,st0]) (by simp[dV,st0]) (fun w hw=>by have hw:w=v:=List.mem_singleton.1 hw;rw[hw];exact gv) (fun h:(7:Int)=4=>by omega) rfl ll
    ·simp[lx,dV,st0]
    ·simp[aP,dV,st0]
   ·cases e
 ·cases e
theorem HP {l:List Tok}{s:StV}(h:RdOk l)(e:kg l=.ok s):DH s:=by
 unfold kg at e;rcases hl:labelsF l.length [] l with x | ⟨ls,r⟩
 ·rw[hl]at e;cases e
 rw[hl]at e;simp only at e;have h1:=t6 h (fun n hn=>by cases hn) hl;obtain⟨hr,h2⟩:=pB h (by simp) hl;have hend:=wF (Nat.le_refl _) hl;split at e
 ·injection e with e;subst e;exact nr h1 h2 rfl rfl qS (zero_le _) (zero_le _) pI (fun h:(0:Int)=4=>by omega) rfl ll
 rcases hq:restR ⟨r,{ st0 with labels:=ls }⟩ with x | q
 ·rw[hq]at e;cases e
 rw[hq]at e;simp only[Except.ok.injEq]at e;subst e;unfold restR at hq;rcases hn:nextF 1 110 r with x | ⟨name,l1⟩
 ·simp only[hn]at hq;cases hq
 simp only[hn]at hq;obtain⟨g1,g2,g3,g4,g5⟩:=qR hr hn;split at hq
 ·cases hq
 rename_i hdot;split at hq
 ·unfold ve at hq;rcases hd:readR name ⟨l1,{ st0 with labels:=ls }⟩ with x | q1
  ·rw[hd]at hq;cases hq
  ·rw[hd]at hq;simp only at hq;split at hq
   ·injection hq with hq;subst hq;exact Iv g1 h1 h2 hd
   ·cases hq
 rename_i hpf;rcases ho:listF l1 with x | o
 ·rw[ho]at hq;cases hq
 rw[ho]at hq;injection hq with hq;subst hq;obtain⟨a1,a2,a3⟩:=Gy g1 ho;have hO:∀p∈o,OpOk p:=fun p hp=>⟨(a2 p hp).1,(a2 p hp).2.1⟩
 have hx:kI o=0:=by
  unfold kI;rw[a1];split
  ·rename_i hp;exfalso;obtain⟨e1,-⟩:=rW (s:=(eE o).1) (fun p hp=>(a2 p hp).1) (by rw[←a1]);rw[e1]at hp;obtain⟨p,t,rfl,k1,k2⟩:=L7 hO hp;obtain⟨r2,hf⟩:=EK g1 ho;have hc:=PB hf k1 k2;rw[g3,NN]at hc;exact hend ⟨g5,hc⟩
  ·rfl
 have hname:da (aa name)=true:=by rw[g4];exact zj (s9 hr g5)
 refine⟨NS h1 h2 ?_ ?_ qS (zero_le _) (zero_le _) pI (fun h:(1:Int)=4=>by omega) hx,⟨pI,fun p hp=>(a2 p hp).1,ll⟩,?_⟩
 ·simp[lx,st0]
 ·have:bL name lO=false:=by simpa using hpf
  simp[aP,hname,this]
 ·unfold pM;simp only[a3]
theorem vT {t:ByteArray}{s:StV}(e:dU (aa t)=.ok s):DH s:=by
 unfold dU at e;split at e
 ·rename_i h0;rcases hl:fy (aa t) with ⟨ts,n,z⟩;rw[hl]at h0 e;simp only at h0;subst h0;exact HP (Hk hl) e
 ·cases e
end
end Go.Proofs.YtnhbidpdadkcjaaGreatDoor
