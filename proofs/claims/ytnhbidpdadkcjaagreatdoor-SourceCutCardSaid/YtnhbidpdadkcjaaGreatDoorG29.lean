import Derived.Test.YtnhbidpdadkcjaaGreatDoorG12
import Derived.Test.YtnhbidpdadkcjaaGreatDoorG13
set_option linter.unusedVariables false
set_option linter.unusedSimpArgs false
set_option maxRecDepth 100000
set_option maxHeartbeats 8000000
open List (getD_eq_getElem?_getD length_drop drop_zero drop_drop length_take append_assoc nil_append)
open Nat (lt_or_ge zero_le)
open Int (toNat_natCast)
namespace Go.Proofs.YtnhbidpdadkcjaaGreatDoor
open Go.RowKit
def an (n:Int):Bool:=decide (n=32∨n=9)
def g9 (n:Int):Bool:=decide (32≤n∧n≤126)
def aA (n:Int):Int:=if 48≤n∧n≤57 then n-48 else if 97≤n∧n≤102 then n-87 else if 65≤n∧n≤70 then n-55 else 16
theorem jn (n:Int):0≤aA n∧aA n≤16:=by unfold aA;split<;>(try split)<;>(try split)<;>omega
def bAt (l:List Int)(i:Nat):Int:=l.getD i 0
theorem Aw {c:Int}{l:List Int}:bAt (c::l) 0=c:=rfl
theorem JE {c:Int}{l:List Int}{i:Nat}:bAt (c::l) (i+1)=bAt l i:=rfl
theorem fa (l:List Int)(i j:Nat):bAt (l.drop i) j=bAt l (i+j):=by
 unfold bAt;rw[getD_eq_getElem?_getD,getD_eq_getElem?_getD,List.getElem?_drop]
theorem ux {l:List Int}{i:Nat}(h:i<l.length):l[i]? = some (bAt l i):=by
 unfold bAt;rw[getD_eq_getElem?_getD,List.getElem?_eq_getElem h];rfl
theorem gR (s:ByteArray)(i:Nat):ab s i=bAt (aa s) i:=by
 rcases lt_or_ge i s.size with h | h
 ·have:=cH h;unfold bAt;rw[getD_eq_getElem?_getD (l:=aa s),this];rfl
 ·unfold bAt ab;have h1:s.data.toList.length≤i:=by simpa using h
  have h2:(aa s).length≤i:=by rw[ae];exact h
  rw[getD_eq_getElem?_getD (l:=aa s),List.getElem?_eq_none h2,getD_eq_getElem?_getD,toNat_natCast,List.getElem?_eq_none h1];rfl
theorem ig (s:ByteArray):ab s 0=bAt (aa s) 0:=gR s 0
theorem tB (s:ByteArray):ab s 1=bAt (aa s) 1:=gR s 1
theorem tC (s:ByteArray):ab s 2=bAt (aa s) 2:=gR s 2
theorem cC (s:ByteArray)(i:Nat):aa (s.extract i s.size)=(aa s).drop i:=by
 rw[cG,List.take_of_length_le];rw[length_drop,ae];exact Nat.le_refl _
theorem nP (s:ByteArray)(j:Nat):aa (s.extract 0 j)=(aa s).take j:=by
 rw[cG,drop_zero,Nat.sub_zero]
theorem rj (s:ByteArray)(j:Nat):s.extract 0 j=ao ((aa s).take j):=by
 rw[←nP,dO]
theorem GK {l:List Int}{i:Nat}(h:i<l.length):l.drop i=bAt l i::l.drop (i+1):=by
 rw[List.drop_eq_getElem_cons h];have:=ux h;rw[List.getElem?_eq_getElem h]at this;injection this with this;rw[this]
def aS (g:Int→Bool)(l:List Int):Nat:=(l.takeWhile g).length
theorem LX (g:Int→Bool):aS g []=0:=rfl
theorem gm (g:Int→Bool)(c:Int)(l:List Int):aS g (c::l)=if g c=true then 1+aS g l else 0:=by
 unfold aS;rw[List.takeWhile_cons];split<;>simp[Nat.add_comm]
theorem kr (g:Int→Bool)(l:List Int):aS g l≤l.length:=(List.takeWhile_sublist g).length_le
theorem IG (g:Int→Bool)(l:List Int)(i:Nat)(h:i<l.length):aS g (l.drop i)=if g (bAt l i)=true then 1+aS g (l.drop (i+1)) else 0:=by
 rw[GK h,gm]
theorem LW (g:Int→Bool)(l:List Int)(i:Nat)(h:l.length≤i):aS g (l.drop i)=0:=by
 rw[List.drop_eq_nil_of_le h];rfl
theorem nI (g:Int→Bool):∀(l:List Int) (i:Nat),i<aS g l→g (bAt l i)=true
 |[],i,h=>by simp[LX]at h
 |c::l,i,h=>by
  rw[gm]at h;split at h
  ·rename_i hc;cases i with
   |zero=>exact hc
   |succ i=>exact nI g l i (by omega)
  ·omega
theorem td (g:Int→Bool):∀(l:List Int),aS g l<l.length→g (bAt l (aS g l))=false
 |[],h=>by simp at h
 |c::l,h=>by
  rw[gm]at h ⊢;split
  ·rename_i hc;rw[if_pos hc]at h;rw[Nat.add_comm,JE];exact td g l (by simp at h;omega)
  ·rename_i hc;simpa[bAt] using hc
theorem nH (g:Int→Bool)(l:List Int)(k:Nat)(hk:k≤l.length)(hin:∀i,i<k→g (bAt l i)=true)(hst:k<l.length→g (bAt l k)=false):aS g l=k:=by
 rcases Nat.lt_trichotomy (aS g l) k with h | h | h
 ·have:=td g l (by omega);rw[hin _ h]at this;cases this
 ·exact h
 ·have h1:=nI g l k h;rw[hst (by have:=kr g l;omega)]at h1;cases h1
def dJ (l:List Int):Bool:=decide (0<l.length)&&ce (bAt l 0)&&decide (aS aM l=l.length)
def pk:List Int:=[44,91,93,33,35,58,43,45,42,47,37,38,124,94,126,40,41,61]
def ba (l:List Int):Nat :=
 if 1<l.length∧(bAt l 0=60∧bAt l 1=60∨bAt l 0=62∧bAt l 1=62) then 2
 else if 0<l.length∧bAt l 0∈pk then 1 else 0
theorem wD (l:List Int):ba l≤l.length:=by unfold ba;split<;>(try split)<;>omega
def cU (c:Int):Int:=if c=0 then 48 else if c=9 then 116 else if c=10 then 110 else if c=13 then 114 else if c=34∨c=92 then c else 0
def kO (c:Int):Int:=if c<10 then 48+c else 87+c
def fD (c:Int):List Int:=if cU c≠0 then[92,cU c] else if g9 c=true then[c] else[92,120,kO (c / 16),kO (c % 16)]
def gZ (l:List Int):List Int:=l.flatMap fD
def gt (l:List Int):List Int:=34::(gZ l++[34])
def Bq (c:Int):Option Int:=if c=48 then some 0 else if c=116 then some 9 else if c=110 then some 10 else if c=114 then some 13 else if c=34∨c=92 then some c else none
def lp (l:List Int):Option (Int×Nat) :=
 if l.length=0 then none else
 match Bq (bAt l 0) with
 |some x=>some (x,1)
 |none=>if 2<l.length∧bAt l 0=120∧aA (bAt l 1)<16∧aA (bAt l 2)<16 then some (16*aA (bAt l 1)+aA (bAt l 2),3) else none
inductive QS where
 |stop
 |bad
 |put (x:Int) (k:Nat)
def dv (l:List Int):QS :=
 if l.length=0 then .bad else
 if bAt l 0=34 then .stop else
 if bAt l 0=92 then match lp (l.drop 1) with
  |some (x,n)=>.put x (n+1)
  |none=>.bad
 else if g9 (bAt l 0)=true then .put (bAt l 0) 1 else .bad
theorem zk {l:List Int}{x:Int}{n:Nat}(h:lp l=some (x,n)):1≤n∧n≤l.length:=by
 unfold lp at h;split at h
 ·cases h
 ·split at h
  ·injection h with h;injection h with h1 h2;omega
  ·split at h
   ·injection h with h;injection h with h1 h2;omega
   ·cases h
theorem la {l:List Int}{x:Int}{k:Nat}(h:dv l=.put x k):1≤k∧k≤l.length:=by
 unfold dv at h;split at h
 ·cases h
 ·split at h
  ·cases h
  ·split at h
   ·split at h
    ·rename_i h1;injection h with h2 h3;have:=zk h1;rw[length_drop]at this;omega
    ·cases h
   ·split at h
    ·injection h with h2 h3;omega
    ·cases h
def quotesL (l:List Int):Option (List Int×Nat) :=
 match h:dv l with
 |.stop=>some ([],1)
 |.bad=>none
 |.put x k=>match quotesL (l.drop k) with
  |some (b,n)=>some (x::b,k+n)
  |none=>none
termination_by l.length
decreasing_by
 have:=la h;rw[length_drop];omega
theorem gj {l:List Int}(h:dv l=.stop):quotesL l=some ([],1):=by
 rw[quotesL];split
 ·rfl
 ·rename_i e;rw[h]at e;cases e
 ·rename_i e;rw[h]at e;cases e
theorem fR {l:List Int}(h:dv l=.bad):quotesL l=none:=by
 rw[quotesL];split
 ·rename_i e;rw[h]at e;cases e
 ·rfl
 ·rename_i e;rw[h]at e;cases e
theorem ik {l:List Int}{x:Int}{k:Nat}(h:dv l=.put x k):quotesL l=(quotesL (l.drop k)).map fun p=>(x::p.1,k+p.2):=by
 rw[quotesL];split
 ·rename_i e;rw[h]at e;cases e
 ·rename_i e;rw[h]at e;cases e
 ·rename_i e;rw[h]at e;injection e with e1 e2;subst e1;subst e2;cases quotesL (l.drop k)<;>rfl
def bL (l:List Int):List Int×Nat :=
 match quotesL (l.drop 1) with
 |some (b,n)=>(b,n+1)
 |none=>([],0)
def bx (base:Int)(l:List Int):Int:=l.foldl (fun n c=>n*base+aA c) 0
def dS (l:List Int):Int:=if 1<l.length∧bAt l 0=48∧bAt l 1=120 then 16 else if 1<l.length∧bAt l 0=48∧bAt l 1=98 then 2 else 10
def cg (l:List Int):Nat:=if 1<l.length∧bAt l 0=48∧(bAt l 1=120∨bAt l 1=98) then 2 else 0
def bn (base:Int)(l:List Int):Nat:=aS (fun c=>decide (aA c<base)) l
def aE (l:List Int):Int×Nat :=
 if bAt l 0=39 then
  if 3≤l.length∧bAt l 2=39∧g9 (bAt l 1)=true∧bAt l 1≠39∧bAt l 1≠92 then(bAt l 1,3) else(0,0)
 else if bn (dS l) (l.drop (cg l))=0∨cg l=0∧1<bn (dS l) (l.drop (cg l))∧bAt l 0=48 then(0,0)
 else if 18446744073709551616≤bx (dS l) ((l.drop (cg l)).take (bn (dS l) (l.drop (cg l)))) then(0,0)
 else(bx (dS l) ((l.drop (cg l)).take (bn (dS l) (l.drop (cg l)))),cg l+bn (dS l) (l.drop (cg l)))
def dH (l:List Int):Except Int (Tok×Nat) :=
 if ce (bAt l 0)=true then .ok (⟨1,ao (l.take (aS aM l)),0,0⟩,aS aM l)
 else if dM (bAt l 0)=true∨bAt l 0=39 then
  if(aE l).2=0∨(aE l).2<l.length∧aM (bAt l (aE l).2)=true then .error 81 else .ok (⟨2,emp,(aE l).1,0⟩,(aE l).2)
 else if bAt l 0=34 then
  if(bL l).2=0 then .error 82 else .ok (⟨3,ao (bL l).1,0,0⟩,(bL l).2)
 else if ba l=0 then .error 80 else .ok (⟨4,ao (l.take (ba l)),0,0⟩,ba l)
theorem nA:∀(N:Nat) (l:List Int),l.length≤N→∀{b:List Int} {n:Nat},quotesL l=some (b,n)→1≤n∧n≤l.length
 |0,l,hl,b,n,h=>by
  obtain rfl:l=[]:=List.eq_nil_of_length_eq_zero (by omega);rw[fR rfl]at h;cases h
 |N+1,l,hl,b,n,h=>by
  cases hq:dv l with
  |stop =>
   rw[gj hq]at h;injection h with h;injection h with h1 h2;have:l.length≠0:=fun e=>by rw[List.eq_nil_of_length_eq_zero e]at hq;cases hq
   omega
  |bad=>rw[fR hq]at h;cases h
  |put x k =>
   have hk:=la hq;rw[ik hq]at h;cases hr:quotesL (l.drop k) with
   |none=>rw[hr]at h;cases h
   |some p =>
    obtain⟨b',n'⟩:=p;have:=nA N (l.drop k) (by rw[length_drop];omega) hr;rw[hr]at h;injection h with h;injection h with h1 h2;rw[length_drop]at this;simp only at h2;omega
theorem Ew {l:List Int}(h:l.length≠0):(bL l).2≤l.length:=by
 unfold bL;split
 ·rename_i e;have:=nA _ _ (Nat.le_refl _) e;rw[length_drop]at this;show _+1≤_;omega
 ·exact zero_le _
theorem D6 (l:List Int):(aE l).2≤l.length:=by
 have hr:bn (dS l) (l.drop (cg l))≤(l.drop (cg l)).length:=kr _ _;have hh:cg l≤l.length:=by unfold cg;split<;>omega
 rw[length_drop]at hr;unfold aE;split
 ·split
  ·rename_i h;exact h.1
  ·exact zero_le _
 ·split
  ·exact zero_le _
  ·split
   ·exact zero_le _
   ·show _+_≤_;omega
theorem jC {l:List Int}(h0:l.length≠0){t:Tok}{n:Nat}(h:dH l=.ok (t,n)):1≤n∧n≤l.length:=by
 unfold dH at h;split at h
 ·rename_i hc;injection h with h;injection h with h1 h2;subst h2;refine⟨?_,kr _ _⟩;cases l with
  |nil=>exact absurd rfl h0
  |cons c r =>
   rw[gm,if_pos (by unfold aM;rw[show ce c=true from hc];rfl)];omega
 ·split at h
  ·split at h
   ·cases h
   ·injection h with h;injection h with h1 h2;have:=D6 l;omega
  ·split at h
   ·split at h
    ·cases h
    ·injection h with h;injection h with h1 h2;have:=Ew h0;omega
   ·split at h
    ·cases h
    ·injection h with h;injection h with h1 h2;have:=wD l;omega
def cA (l:List Int):Bool:=decide (l.length=0)||(decide (1<l.length)&&decide (bAt l 0=47)&&decide (bAt l 1=47))
def aJ (at_:Nat)(l:List Int):List Tok×Nat×Int :=
 let k:=aS an l
 if h0:cA (l.drop k)=true then([],at_+l.length,0) else
 match h:dH (l.drop k) with
 |.error e=>([],at_+k,e)
 |.ok (t,n) =>
  let r:=aJ (at_+k+n) ((l.drop k).drop n)
  ({ t with pos:=((at_+k:Nat):Int) }::r.1,r.2)
termination_by l.length
decreasing_by
 have h1:(l.drop (aS an l)).length≠0:=fun e=>h0 (by unfold cA;rw[e];rfl);have:=jC h1 h;rw[length_drop,length_drop];rw[length_drop]at h1 this;omega
theorem e8 {p:Nat}{l:List Int}(h:cA (l.drop (aS an l))=true):aJ p l=([],p+l.length,0):=by
 rw[aJ];simp only[h,dite_true]
theorem gG {p:Nat}{l:List Int}{e:Int}(h0:cA (l.drop (aS an l))=false)(h:dH (l.drop (aS an l))=.error e):aJ p l=([],p+aS an l,e):=by
 rw[aJ];simp only[h0,Bool.false_eq_true,dite_false];split
 ·rename_i e1;rw[h]at e1;injection e1 with e1;rw[e1]
 ·rename_i e1;rw[h]at e1;cases e1
theorem ib {p:Nat}{l:List Int}{t:Tok}{n:Nat}(h0:cA (l.drop (aS an l))=false)(h:dH (l.drop (aS an l))=.ok (t,n)) :
  aJ p l=({ t with pos:=((p+aS an l:Nat):Int) }::(aJ (p+aS an l+n) (l.drop (aS an l+n))).1,(aJ (p+aS an l+n) (l.drop (aS an l+n))).2):=by
 rw[aJ];simp only[h0,Bool.false_eq_true,dite_false];split
 ·rename_i e1;rw[h]at e1;cases e1
 ·rename_i e1;rw[h]at e1;injection e1 with e1;injection e1 with e1 e2;subst e1;subst e2;rw[drop_drop]
def eF (l:List Int):List Tok×Nat×Int:=if 512<l.length then([],0,3) else aJ 0 l
def isT (t:Tok):Bool :=
 if t.kind=1 then dJ (aa t.text) else if t.kind=2 then decide (t.text=emp) else if t.kind=3 then decide (t.text.size≤512) else if t.kind=4 then decide (0<t.text.size∧ba (aa t.text)=t.text.size) else false
def cP (t:Tok):Int:=if isT t=true∧0≤t.pos∧(t.n=0∨t.kind=2) then 0 else 1
theorem OZ {a b:Tok}(h1:a.kind=b.kind)(h2:a.text=b.text)(h3:a.n=b.n)(h4:a.pos=b.pos):a=b:=by
 cases a;cases b;simp only at h1 h2 h3 h4;subst h1;subst h2;subst h3;subst h4;rfl
instance tokDec:DecidableEq Tok:=fun a b =>
 if h:a.kind=b.kind∧a.text=b.text∧a.n=b.n∧a.pos=b.pos then isTrue (OZ h.1 h.2.1 h.2.2.1 h.2.2.2) else isFalse fun e=>h (by rw[e];exact⟨rfl,rfl,rfl,rfl⟩)
theorem jy {a v:List Int}{i:Nat}(h:i<a.length):bAt (a++v) i=bAt a i:=by
 unfold bAt;rw[getD_eq_getElem?_getD,getD_eq_getElem?_getD,List.getElem?_append_left h]
theorem uQ {a v:List Int}:bAt (a++v) a.length=bAt v 0:=by
 unfold bAt;rw[getD_eq_getElem?_getD,getD_eq_getElem?_getD,List.getElem?_append_right (Nat.le_refl _),Nat.sub_self]
theorem mf {l:List Int}{n i:Nat}(h:i<n):bAt (l.take n) i=bAt l i:=by
 unfold bAt;rw[getD_eq_getElem?_getD,getD_eq_getElem?_getD,List.getElem?_take_of_lt h]
theorem mj {c:Int}(h:an c=true):aM c=false∧aA c=16∧c≠120∧c≠98∧c≠47:=by
 unfold an at h;have h1:c=32∨c=9:=by simpa using h
 rcases h1 with rfl | rfl<;>decide
def CT (m v:List Int):Prop:=v=[]∨an (bAt v 0)=true∨(m≠[]∧bAt v 0=bAt m 0)
structure CU (m:List Int)(n:Nat)(w:List Int):Prop where
 len:n≤m.length
 wlen:n≤w.length
 at_:∀i,i<n→bAt w i=bAt m i
 tak:w.take n=m.take n
 stop:n<w.length→an (bAt w n)=true∨(n<m.length∧bAt w n=bAt m n)
theorem FP {m v:List Int}{n:Nat}(hn:n≤m.length)(hv:CT (m.drop n) v):CU m n (m.take n++v):=by
 have hl:(m.take n).length=n:=by rw[length_take];omega
 refine⟨hn,by rw[List.length_append,hl];omega,fun i hi=>by rw[jy (by omega),mf hi],by rw[List.take_append_of_le_length (by omega),List.take_take,Nat.min_self],fun h=>?_⟩
 have e:bAt (m.take n++v) n=bAt v 0:=by
  have:=uQ (a:=m.take n) (v:=v)
  rwa [hl]at this
 rw[e];rcases hv with rfl | h1 | ⟨h1,h2⟩
 ·rw[List.append_nil,hl]at h;omega
 ·exact .inl h1
 ·refine .inr ⟨?_,?_⟩
  ·rcases lt_or_ge n m.length with h3 | h3
   ·exact h3
   ·exact absurd (List.drop_eq_nil_of_le h3) h1
  ·rw[h2,fa,Nat.add_zero]
theorem Cq {g:Int→Bool}{m w:List Int}{n:Nat}(hg:∀c,an c=true→g c=false)(S:CU m n w)(k:Nat)(hk:k≤n)(hr:aS g (m.drop k)=n-k):aS g (w.drop k)=n-k:=by
 refine nH g _ _ (by rw[length_drop];have:=S.wlen;omega) (fun i hi=>?_) (fun h=>?_)
 ·rw[fa,S.at_ _ (by omega),←fa];exact nI g _ _ (by omega)
 ·rw[length_drop]at h;rw[fa,show k+(n-k)=n by omega];rcases S.stop (by omega) with h1 | ⟨h1,h2⟩
  ·exact hg _ h1
  ·rw[h2];have:=td g (m.drop k) (by rw[hr,length_drop];omega)
   rwa [hr,fa,show k+(n-k)=n by omega]at this
theorem I7 {m w:List Int}{n:Nat}(S:CU m n w)(h:¬(n<m.length∧aM (bAt m n)=true)):¬(n<w.length∧aM (bAt w n)=true):=by
 rintro⟨h1,h2⟩;rcases S.stop h1 with h3 | ⟨h3,h4⟩
 ·rw[(mj h3).1]at h2;cases h2
 ·rw[h4]at h2;exact h ⟨h3,h2⟩
theorem J8 {x y:List Int}{c:Int}{k:Nat}(h:lp x=some (c,k))(hy:k≤y.length)(he:∀i,i<k→bAt y i=bAt x i):lp y=some (c,k):=by
 have hk:=zk h;unfold lp at h ⊢;rw[nG];split at h
 ·cases h
 ·rw[he 0 (by omega)];split at h
  ·exact h
  ·rename_i hn;split at h
   ·rename_i h3;injection h with h;injection h with h1 h2;subst h2;rw[if_pos ⟨by omega,h3.2.1,by rw[he 1 (by omega)];exact h3.2.2.1,by rw[he 2 (by omega)];exact h3.2.2.2⟩,he 1 (by omega),he 2 (by omega),h1]
   ·cases h
theorem Es {x y:List Int}{c:Int}{k:Nat}(h:dv x=.put c k)(hy:k≤y.length)(he:∀i,i<k→bAt y i=bAt x i):dv y=.put c k:=by
 have hk:=la h;unfold dv at h ⊢;rw[nG,he 0 (by omega)];split at h
 ·cases h
 ·split at h
  ·cases h
  ·rename_i h34;rw[if_neg h34];split at h
   ·rename_i h92;rw[if_pos h92];split at h
    ·rename_i c' n' hes;injection h with h1 h2;subst h2;have:=J8 hes (y:=y.drop 1) (by rw[length_drop];omega) (fun i hi=>by rw[fa,fa];exact he _ (by omega));rw[this,h1]
    ·cases h
   ·rename_i h92;rw[if_neg h92];exact h
theorem tX:∀(N:Nat) (x y:List Int) (b:List Int) (n:Nat),x.length≤N→quotesL x=some (b,n)→n≤y.length→(∀i,i<n→bAt y i=bAt x i)→quotesL y=some (b,n)
 |0,x,y,b,n,hx,h,hy,he=>by
  obtain rfl:x=[]:=List.eq_nil_of_length_eq_zero (by omega);rw[fR rfl]at h;cases h
 |N+1,x,y,b,n,hx,h,hy,he=>by
  cases hq:dv x with
  |stop =>
   rw[gj hq]at h;injection h with h;injection h with h1 h2;subst h1;subst h2
   have h34:x.length≠0∧bAt x 0=34:=by
    unfold dv at hq;split at hq
    ·cases hq
    ·rename_i h0;split at hq
     ·rename_i h1;exact⟨h0,h1⟩
     ·split at hq
      ·split at hq<;>cases hq
      ·split at hq<;>cases hq
   exact gj (by unfold dv;rw[nG,if_pos (by rw[he 0 (by omega)];exact h34.2)])
  |bad=>rw[fR hq]at h;cases h
  |put c k =>
   have hk:=la hq;rw[ik hq]at h;cases hr:quotesL (x.drop k) with
   |none=>rw[hr]at h;cases h
   |some p =>
    obtain⟨b',n'⟩:=p;rw[hr]at h;injection h with h;injection h with h1 h2;simp only at h1 h2;subst h1;subst h2;have:=tX N (x.drop k) (y.drop k) b' n' (by rw[length_drop];omega) hr (by rw[length_drop];omega) (fun i hi=>by rw[fa,fa];exact he _ (by omega));rw[ik (Es hq (by omega) (fun i hi=>he i (by omega))),this];rfl
theorem vq {m w:List Int}{n:Nat}(S:CU m n w)(k:Nat):(w.drop k).take (n-k)=(m.drop k).take (n-k):=by
 rw[←List.drop_take,←List.drop_take,S.tak]
theorem G0 {m w:List Int}{n:Nat}(S:CU m n w)(h1:1≤n)(h2:cg m≤n)(h3:n=1→cg m=0):cg w=cg m∧dS w=dS m:=by
 have e0:=S.at_ 0 (by omega);rcases lt_or_ge 1 n with h | h
 ·have e1:=S.at_ 1 h;have l1:1<m.length:=by have:=S.len;omega
  have l2:1<w.length:=by have:=S.wlen;omega
  unfold cg dS;simp only[e0,e1,l1,l2,true_and,and_self]
 ·obtain rfl:n=1:=by omega
  have hm:=h3 rfl
  have hnm:¬(1<m.length∧bAt m 0=48∧(bAt m 1=120∨bAt m 1=98)):=by
   intro hc;unfold cg at hm;rw[if_pos hc]at hm;cases hm
  have hnw:¬(1<w.length∧bAt w 0=48∧(bAt w 1=120∨bAt w 1=98)):=by
   rintro⟨c1,c2,c3⟩;rcases S.stop c1 with h4 | ⟨h4,h5⟩
   ·have:=mj h4;omega
   ·exact hnm ⟨h4,by rw[←e0];exact c2,by rw[←h5];exact c3⟩
  constructor
  ·unfold cg;rw[if_neg hnw,if_neg hnm]
  ·unfold dS;rw[if_neg (fun h=>hnw ⟨h.1,h.2.1,.inl h.2.2⟩),if_neg (fun h=>hnw ⟨h.1,h.2.1,.inr h.2.2⟩),if_neg (fun h=>hnm ⟨h.1,h.2.1,.inl h.2.2⟩),if_neg (fun h=>hnm ⟨h.1,h.2.1,.inr h.2.2⟩)]
theorem Nw (m:List Int):dS m≤16:=by unfold dS;split<;>(try split)<;>omega
theorem BE {m w:List Int}{n:Nat}(S:CU m n w)(h0:n≠0)(hn:(aE m).2=n):aE w=aE m:=by
 have e0:=S.at_ 0 (by omega);by_cases hq:bAt m 0=39
 ·have hm:aE m=if 3≤m.length∧bAt m 2=39∧g9 (bAt m 1)=true∧bAt m 1≠39∧bAt m 1≠92 then(bAt m 1,3) else(0,0):=by unfold aE;rw[if_pos hq]
  have hw:aE w=if 3≤w.length∧bAt w 2=39∧g9 (bAt w 1)=true∧bAt w 1≠39∧bAt w 1≠92 then(bAt w 1,3) else(0,0):=by unfold aE;rw[if_pos (by rw[e0];exact hq)]
  by_cases hc:3≤m.length∧bAt m 2=39∧g9 (bAt m 1)=true∧bAt m 1≠39∧bAt m 1≠92
  ·rw[if_pos hc]at hm;rw[hm]at hn;simp only at hn;subst hn;rw[hw,hm,S.at_ 1 (by omega),S.at_ 2 (by omega),if_pos ⟨S.wlen,hc.2⟩]
  ·rw[if_neg hc]at hm;rw[hm]at hn;exact absurd hn.symm h0
 ·obtain⟨r,hr⟩:∃r,bn (dS m) (m.drop (cg m))=r:=⟨_,rfl⟩
  have hm:aE m=if r=0∨cg m=0∧1<r∧bAt m 0=48 then(0,0) else if 18446744073709551616≤bx (dS m) ((m.drop (cg m)).take r) then(0,0) else(bx (dS m) ((m.drop (cg m)).take r),cg m+r):=by
   unfold aE;rw[if_neg hq,hr]
  by_cases c1:r=0∨cg m=0∧1<r∧bAt m 0=48
  ·rw[if_pos c1]at hm;rw[hm]at hn;exact absurd hn.symm h0
  rw[if_neg c1]at hm;by_cases c2:18446744073709551616≤bx (dS m) ((m.drop (cg m)).take r)
  ·rw[if_pos c2]at hm;rw[hm]at hn;exact absurd hn.symm h0
  rw[if_neg c2]at hm;rw[hm]at hn;simp only at hn;have hr0:0<r:=by omega
  obtain⟨g1,g2⟩:=G0 S (by omega) (by omega) (fun h=>by omega)
  have hrw:bn (dS m) (w.drop (cg m))=r:=by
   have:=Cq (g:=fun c=>decide (aA c<dS m)) (fun c hc=>by have:=Nw m;rw[(mj hc).2.1];exact decide_eq_false (by omega)) S (cg m) (by omega) (by show bn _ _=_;omega);show aS _ _=_;omega
  have ht:(w.drop (cg m)).take r=(m.drop (cg m)).take r:=by
   have:=vq S (cg m)
   rwa [show n-cg m=r by omega]at this
  rw[hm];unfold aE;rw[if_neg (by rw[e0];exact hq),g1,g2,hrw,e0,if_neg c1,ht,if_neg c2]
theorem tg {m:List Int}(h:ba m≠0):bAt m 0=60∨bAt m 0=62∨bAt m 0∈pk:=by
 unfold ba at h;split at h
 ·rename_i hc;omega
 ·split at h
  ·rename_i hc;exact .inr (.inr hc.2)
  ·exact absurd rfl h
theorem pN {c:Int}(h:c∈pk):an c=false∧c≠60∧c≠62:=by
 unfold pk at h;simp only[List.mem_cons,List.not_mem_nil,or_false]at h;rcases h with rfl | rfl | rfl | rfl | rfl | rfl | rfl | rfl | rfl | rfl | rfl | rfl | rfl | rfl | rfl | rfl | rfl | rfl<;>decide
theorem nj {c:Int}(h:ce c=true):an c=false∧c≠47:=by
 unfold ce at h;unfold an;simp only[decide_eq_true_eq,decide_eq_false_iff_not]at h ⊢;omega
theorem BJ {m w:List Int}{t:Tok}{n:Nat}(S:CU m n w)(h0:m.length≠0)(hd:cA m=false)(h:dH m=.ok (t,n)):dH w=.ok (t,n)∧cA w=false∧aS an w=0:=by
 have hn:=jC h0 h;have e0:=S.at_ 0 (by omega);have hw0:0<w.length:=by have:=S.wlen;omega
 have nb:an (bAt m 0)=false→aS an w=0:=fun hb=>nH _ _ _ (zero_le _) (fun i hi=>absurd hi (Nat.not_lt_zero _)) (fun _=>by rw[e0];exact hb)
 have dn:(bAt m 0=47→n=1)→cA w=false:=by
  intro h47;unfold cA at hd ⊢;rw[decide_eq_false (show ¬m.length=0 from h0),Bool.false_or]at hd;rw[decide_eq_false (show ¬w.length=0 by omega),Bool.false_or];rw[Bool.eq_false_iff];intro hc;simp only[Bool.and_eq_true,decide_eq_true_eq]at hc;obtain⟨⟨c1,c2⟩,c3⟩:=hc;have hn1:=h47 (by rw[←e0];exact c2);subst hn1;rcases S.stop c1 with h4 | ⟨h4,h5⟩
  ·exact(mj h4).2.2.2.2 c3
  ·rw[←e0,←h5,c2,c3]at hd;rw[decide_eq_true h4]at hd;cases hd
 unfold dH at h ⊢;rw[e0];split at h
 ·rename_i hl;injection h with h;injection h with h1 h2;rw[if_pos hl]
  have hr:aS aM w=n:=by
   have:=Cq (g:=aM) (fun c hc=>(mj hc).1) S 0 (by omega) (by rw[drop_zero];omega)
   rwa [drop_zero,Nat.sub_zero]at this
  rw[hr,←h1,h2,S.tak];exact⟨rfl,dn (fun e=>absurd e (nj hl).2),nb (nj hl).1⟩
 ·rename_i hl;rw[if_neg hl];split at h
  ·rename_i hdg;rw[if_pos hdg];split at h
   ·cases h
   ·rename_i hc;injection h with h;injection h with h1 h2;have hN:=BE S (by omega) h2
    have hb:an (bAt m 0)=false∧bAt m 0≠47:=by
     unfold dM at hdg;unfold an;simp only[decide_eq_true_eq,decide_eq_false_iff_not]at hdg ⊢;omega
    rw[hN,if_neg ?_,h1,h2]
    ·exact⟨rfl,dn (fun e=>absurd e hb.2),nb hb.1⟩
    ·rw[h2]at hc ⊢;rintro (hc2 | hc2)
     ·omega
     ·exact I7 S (fun h=>hc (.inr h)) hc2
  ·rename_i hdg;rw[if_neg hdg];split at h
   ·rename_i h34;rw[if_pos h34];split at h
    ·cases h
    ·rename_i hc;injection h with h;injection h with h1 h2
     have hQ:bL w=bL m:=by
      unfold bL at h2 ⊢;cases hq:quotesL (m.drop 1) with
      |none=>rw[hq]at h2;simp only at h2;omega
      |some p =>
       obtain⟨b,k⟩:=p;rw[hq]at h2;simp only at h2;have:=tX _ (m.drop 1) (w.drop 1) b k (Nat.le_refl _) hq (by rw[length_drop];have:=S.wlen;omega) (fun i hi=>by rw[fa,fa];exact S.at_ _ (by omega));rw[this]
     rw[hQ,if_neg hc,h1,h2];exact⟨rfl,dn (fun e=>by omega),nb (by rw[h34];rfl)⟩
   ·rename_i h34;rw[if_neg h34];split at h
    ·cases h
    ·rename_i hc;injection h with h;injection h with h1 h2;have hsg:=tg hc
     have hbn:an (bAt m 0)=false:=by
      rcases hsg with e | e | e
      ·rw[e];rfl
      ·rw[e];rfl
      ·exact(pN e).1
     have hS:ba w=ba m:=by
      by_cases c1:1<m.length∧(bAt m 0=60∧bAt m 1=60∨bAt m 0=62∧bAt m 1=62)
      ·have hm:ba m=2:=by unfold ba;rw[if_pos c1]
       have e1:=S.at_ 1 (by omega);rw[hm];unfold ba;rw[if_pos ⟨by have:=S.wlen;omega,by rw[e0,e1];exact c1.2⟩]
      ·have c2:0<m.length∧bAt m 0∈pk:=by
        unfold ba at hc;rw[if_neg c1]at hc;split at hc
        ·assumption
        ·exact absurd rfl hc
       have hm:ba m=1:=by unfold ba;rw[if_neg c1,if_pos c2]
       have:=pN c2.2;rw[hm];unfold ba;rw[if_neg (by rw[e0];omega),if_pos ⟨hw0,by rw[e0];exact c2.2⟩]
     rw[hS,if_neg hc,h2,S.tak,←h1,h2];refine⟨rfl,dn (fun e=>?_),nb hbn⟩;rw[←h2];unfold ba;rw[nG,if_pos ⟨by omega,by rw[e];decide⟩]
theorem OI {bs x:List Int}(h:∀c∈bs,an c=true):aS an (bs++x)=bs.length+aS an x:=by
 induction bs with
 |nil=>simp
 |cons c bs ih =>
  rw[List.cons_append,gm,if_pos (h c (by simp)),ih (fun c hc=>h c (by simp[hc])),List.length_cons];omega
theorem gH {bs x:List Int}(h:∀c∈bs,an c=true)(q:Nat):aJ q (bs++x)=aJ (q+bs.length) x:=by
 have hr:=OI (x:=x) h;have hd:∀k,(bs++x).drop (bs.length+k)=x.drop k:=fun k=>by rw[←drop_drop,List.drop_left]
 cases hdn:cA (x.drop (aS an x)) with
 |true =>
  rw[e8 (l:=x) hdn,e8 (l:=bs++x) (by rw[hr,hd];exact hdn),List.length_append,Nat.add_assoc]
 |false =>
  rcases ho:dH (x.drop (aS an x)) with e | ⟨t,n⟩
  ·rw[gG (l:=x) hdn ho,gG (l:=bs++x) (by rw[hr,hd];exact hdn) (by rw[hr,hd];exact ho),hr,Nat.add_assoc]
  ·rw[ib (l:=x) hdn ho,ib (l:=bs++x) (by rw[hr,hd];exact hdn) (by rw[hr,hd];exact ho),hr,Nat.add_assoc bs.length,hd];simp only[Nat.add_assoc]
theorem qH {w:List Int}{t:Tok}{n:Nat}(h1:aS an w=0)(h2:cA w=false)(h3:dH w=.ok (t,n))(q:Nat):aJ q w=({ t with pos:=(q:Int) }::(aJ (q+n) (w.drop n)).1,(aJ (q+n) (w.drop n)).2):=by
 have:=ib (p:=q) (l:=w) (t:=t) (n:=n) (by rw[h1];exact h2) (by rw[h1];exact h3);rw[h1,Nat.zero_add,Nat.add_zero]at this;exact this
theorem uT (m:List Int):∀c∈m.take (aS an m),an c=true:=by
 intro c hc;obtain⟨i,hi,rfl⟩:=List.mem_iff_getElem.1 hc;rw[length_take]at hi;have:=nI an m i (by omega);rw[List.getElem_take];have hg:=ux (l:=m) (i:=i) (by omega);rw[List.getElem?_eq_getElem (by omega)]at hg;injection hg with hg;rw[hg];exact this
def oe (t:Tok):Tok:={ t with pos:=0 }
def xg (l:List Int):List Tok→Nat
 |[]=>l.length
 |t::_=>t.pos.toNat
def pcs (l:List Int)(bl:Nat→List Int):Nat→List Tok→List Int
 |_,[]=>[]
 |i,t::ts=>bl i++((l.drop t.pos.toNat).take (xg l ts-t.pos.toNat)++pcs l bl (i+1) ts)
theorem jY {p:Nat}{m:List Int}{t:Tok}{ts:List Tok}{n:Nat}{e:Int}(h:aJ p m=(t::ts,n,e)):∃t0 n1,cA (m.drop (aS an m))=false∧dH (m.drop (aS an m))=.ok (t0,n1)∧t={ t0 with pos:=((p+aS an m:Nat):Int) }∧aJ (p+aS an m+n1) (m.drop (aS an m+n1))=(ts,n,e):=by
 cases hdn:cA (m.drop (aS an m)) with
 |true=>rw[e8 hdn]at h;cases h
 |false =>
  rcases ho:dH (m.drop (aS an m)) with e' | ⟨t0,n1⟩
  ·rw[gG hdn ho]at h;cases h
  ·rw[ib hdn ho]at h;injection h with h1 h2;injection h1 with h1 h3;exact⟨t0,n1,rfl,rfl,h1.symm,Prod.ext h3 h2⟩
theorem E5 {p:Nat}{m:List Int}{n:Nat}(h:aJ p m=([],n,0))(he:∀l e,dH l=.error e→e≠0):cA (m.drop (aS an m))=true:=by
 cases hdn:cA (m.drop (aS an m)) with
 |true=>rfl
 |false =>
  rcases ho:dH (m.drop (aS an m)) with e' | ⟨t0,n1⟩
  ·rw[gG hdn ho]at h;injection h with h1 h2;injection h2 with h2 h3;exact absurd h3 (he _ _ ho)
  ·rw[ib hdn ho]at h;cases h
theorem GJ {m tail:List Int}(h:cA (m.drop (aS an m))=true)(ht:∃r,tail=32::47::47::r)(q:Nat):(aJ q (m++tail)).1=[]∧(aJ q (m++tail)).2.2=0:=by
 obtain⟨r,rfl⟩:=ht;have hs:m++32::47::47::r=m.take (aS an m)++(m.drop (aS an m)++32::47::47::r):=by rw[←append_assoc,List.take_append_drop]
 rw[hs,gH (uT m)];obtain⟨x,hx⟩:∃x,m.drop (aS an m)=x:=⟨_,rfl⟩;rw[hx]at h ⊢
 have hslash:∀(p:Nat) (y:List Int),(aJ p (47::47::y)).1=[]∧(aJ p (47::47::y)).2.2=0:=by
  intro p y;have hb:aS an (47::47::y)=0:=by rw[gm];rfl
  rw[e8 (by rw[hb,drop_zero];unfold cA;simp[bAt])];exact⟨rfl,rfl⟩
 unfold cA at h;simp only[Bool.or_eq_true,Bool.and_eq_true,decide_eq_true_eq]at h
 match x,h with
 |[],_ =>
  have:=gH (bs:=[32]) (x:=47::47::r) (by simp[an]) (q+(m.take (aS an m)).length);rw[nil_append,show(32:Int)::47::47::r=[32]++47::47::r from rfl,this];exact hslash _ _
 |[a],h=>simp at h
 |a::b::y,h =>
  have h2:a=47∧b=47:=by
   rcases h with h | ⟨⟨_,h1⟩,h2⟩
   ·simp at h
   ·exact⟨h1,h2⟩
  obtain⟨rfl,rfl⟩:=h2;exact hslash _ _
theorem TB {l:List Int}{bl:Nat→List Int}{tail:List Int}(hbl:∀i,∀c∈bl i,an c=true)(ht:∃r,tail=32::47::47::r)(he:∀l e,dH l=.error e→e≠0) :
  ∀(ts:List Tok) (t:Tok) (p:Nat) (i n:Nat),p≤l.length→aJ p (l.drop p)=(t::ts,n,0)→∀q,(aJ q (pcs l bl i (t::ts)++tail)).1.map oe=(t::ts).map oe∧(aJ q (pcs l bl i (t::ts)++tail)).2.2=0
 |ts,t,p,i,n,hp,h,q=>by
  obtain⟨t0,n1,hd,ho,rfl,hr⟩:=jY h;obtain⟨k,hk⟩:∃k,aS an (l.drop p)=k:=⟨_,rfl⟩;rw[hk]at hd ho hr ⊢;rw[drop_drop]at hd ho hr;rw[←Nat.add_assoc]at hr;obtain⟨m1,hm1⟩:∃m1,l.drop (p+k)=m1:=⟨_,rfl⟩;rw[hm1]at hd ho
  have h0:m1.length≠0:=fun e=>by
   have:cA m1=true:=by unfold cA;rw[e];rfl
   rw[this]at hd;cases hd
  have hn:=jC h0 ho;have hl1:m1.length=l.length-(p+k):=by rw[←hm1,length_drop]
  have hdd:l.drop (p+k+n1)=m1.drop n1:=by rw[←drop_drop,hm1]
  have hpos:(((p+k:Nat):Int)).toNat=p+k:=toNat_natCast _;rw[pcs,hpos,hm1,append_assoc,gH (hbl i)];generalize q+(bl i).length=q2;cases ts with
  |nil =>
   rw[pcs,List.append_nil,xg,List.take_of_length_le (by omega)]
   have hB:CT (m1.drop n1) (m1.drop n1++tail):=by
    obtain⟨r,rfl⟩:=ht;cases hx:m1.drop n1 with
    |nil=>exact .inr (.inl rfl)
    |cons c y=>exact .inr (.inr ⟨by simp,rfl⟩)
   obtain⟨g1,g2,g3⟩:=BJ (FP hn.2 hB) h0 hd ho;rw[show m1.take n1++(m1.drop n1++tail)=m1++tail by rw[←append_assoc,List.take_append_drop]]at g1 g2 g3;rw[qH g3 g2 g1];have hdr:(m1++tail).drop n1=m1.drop n1++tail:=List.drop_append_of_le_length hn.2;rw[hdr];rw[hdd]at hr;obtain⟨f1,f2⟩:=GJ (E5 hr he) ht (q2+n1);exact⟨by simp only[List.map_cons,f1,List.map_nil];rfl,f2⟩
  |cons t2 ts2 =>
   obtain⟨t20,n2,hd2,ho2,e2,hr2⟩:=jY hr;obtain⟨k2,hk2⟩:∃k2,aS an (l.drop (p+k+n1))=k2:=⟨_,rfl⟩
   have hk2l:k2≤m1.length-n1:=by
    have:aS an (l.drop (p+k+n1))≤(l.drop (p+k+n1)).length:=kr _ _;rw[hdd,length_drop]at this;rw[←hk2,hdd];exact this
   have ep:xg l (t2::ts2)-(p+k)=n1+k2:=by
    unfold xg;rw[e2,hk2];simp only[toNat_natCast];omega
   rw[ep];have htk:m1.take (n1+k2)=m1.take n1++(m1.drop n1).take k2:=by rw[List.take_add]
   have hbk:∀c∈(m1.drop n1).take k2,an c=true:=by rw[←hdd,←hk2];exact uT _
   rw[htk,append_assoc,append_assoc]
   have hne:m1.drop n1≠[]:=by
    intro e;have:cA ((l.drop (p+k+n1)).drop (aS an (l.drop (p+k+n1))))=true:=by rw[hdd,e];rfl
    rw[this]at hd2;cases hd2
   have hn1:n1<m1.length:=by
    rcases lt_or_ge n1 m1.length with h1 | h1
    ·exact h1
    ·exact absurd (List.drop_eq_nil_of_le h1) hne
   have hB:CT (m1.drop n1) ((m1.drop n1).take k2++(pcs l bl (i+1) (t2::ts2)++tail)):=by
    rcases Nat.eq_zero_or_pos k2 with z | z
    ·subst z;rw[List.take_zero,nil_append,pcs];cases hb:bl (i+1) with
     |cons c y=>exact .inr (.inl (hbl (i+1) c (by rw[hb];simp)))
     |nil =>
      refine .inr (.inr ⟨hne,?_⟩);have hp2:t2.pos.toNat=p+k+n1:=by rw[e2,hk2];simp only[toNat_natCast,Nat.add_zero]
      rw[nil_append,hp2,hdd,append_assoc]
      have hn2:=jC (l:=(l.drop (p+k+n1)).drop (aS an (l.drop (p+k+n1)))) (fun e=>by
       have:cA ((l.drop (p+k+n1)).drop (aS an (l.drop (p+k+n1))))=true:=by unfold cA;rw[e];rfl
       rw[this]at hd2;cases hd2) ho2
      have hend:0<xg l ts2-(p+k+n1):=by
       cases ts2 with
       |nil=>show 0<l.length-(p+k+n1);omega
       |cons t3 ts3 =>
        obtain⟨_,n3,_,_,e3,_⟩:=jY hr2;show 0<t3.pos.toNat-(p+k+n1);rw[e3];simp only[toNat_natCast];omega
      have hl3:0<((m1.drop n1).take (xg l ts2-(p+k+n1))).length:=by rw[length_take,length_drop];omega
      rw[jy hl3,mf hend]
    ·have hl3:0<((m1.drop n1).take k2).length:=by rw[length_take,length_drop];omega
     exact .inr (.inr ⟨hne,by rw[jy hl3,mf z]⟩)
   obtain⟨g1,g2,g3⟩:=BJ (FP hn.2 hB) h0 hd ho;rw[qH g3 g2 g1]
   have hdr:(m1.take n1++((m1.drop n1).take k2++(pcs l bl (i+1) (t2::ts2)++tail))).drop n1=(m1.drop n1).take k2++(pcs l bl (i+1) (t2::ts2)++tail):=by
    have:(m1.take n1).length=n1:=by rw[length_take];omega
    rw[List.drop_append_of_le_length (by omega),List.drop_of_length_le (by omega),nil_append]
   rw[hdr,gH hbk];have ih:=TB (tail:=tail) hbl ht he ts2 t2 (p+k+n1) (i+1) n (by omega) hr (q2+n1+((m1.drop n1).take k2).length);exact⟨by rw[List.map_cons,ih.1];rfl,ih.2⟩
termination_by ts=>ts.length
def Jm (l:List Int):List Tok→Prop
 |[]=>True
 |t::ts=>(∃a:Nat,t.pos=(a:Int)∧a≤xg l ts)∧xg l ts≤l.length∧Jm l ts
theorem ug {l:List Int}:∀(ts:List Tok) (p n:Nat) (e:Int),p≤l.length→aJ p (l.drop p)=(ts,n,e)→Jm l ts∧p≤xg l ts∧xg l ts≤l.length∧ts.length≤l.length-p
 |[],p,n,e,hp,h=>⟨trivial,hp,Nat.le_refl _,zero_le _⟩
 |t::ts,p,n,e,hp,h=>by
  obtain⟨t0,n1,hd,ho,rfl,hr⟩:=jY h;have hk:aS an (l.drop p)≤(l.drop p).length:=kr _ _;rw[length_drop]at hk
  have h0:((l.drop p).drop (aS an (l.drop p))).length≠0:=fun e=>by
   have:cA ((l.drop p).drop (aS an (l.drop p)))=true:=by unfold cA;rw[e];rfl
   rw[this]at hd;cases hd
  have hn:=jC h0 ho;rw[length_drop,length_drop]at hn;rw[drop_drop,←Nat.add_assoc]at hr;obtain⟨g1,g2,g3,g4⟩:=ug ts (p+aS an (l.drop p)+n1) n e (by omega) hr;refine⟨⟨⟨_,rfl,by omega⟩,g3,g1⟩,?_,?_,?_⟩
  ·show p≤(((p+aS an (l.drop p):Nat):Int)).toNat;rw[toNat_natCast];omega
  ·show(((p+aS an (l.drop p):Nat):Int)).toNat≤_;rw[toNat_natCast];omega
  ·rw[List.length_cons];omega
theorem qB:∀(N:Nat) (x b:List Int) (n:Nat),x.length≤N→quotesL x=some (b,n)→b.length+1≤n
 |0,x,b,n,hx,h=>by
  obtain rfl:x=[]:=List.eq_nil_of_length_eq_zero (by omega);rw[fR rfl]at h;cases h
 |N+1,x,b,n,hx,h=>by
  cases hq:dv x with
  |stop =>
   rw[gj hq]at h;injection h with h;injection h with h1 h2;subst h1;subst h2;exact Nat.le_refl _
  |bad=>rw[fR hq]at h;cases h
  |put c k =>
   have hk:=la hq;rw[ik hq]at h;cases hr:quotesL (x.drop k) with
   |none=>rw[hr]at h;cases h
   |some p =>
    obtain⟨b',n'⟩:=p;rw[hr]at h;injection h with h;injection h with h1 h2;simp only at h1 h2;subst h1;subst h2;have:=qB N (x.drop k) b' n' (by rw[length_drop];omega) hr;rw[List.length_cons];omega
theorem CI {m:List Int}(hr:∀z∈m,0≤z∧z≤255)(n:Nat):aa (ao (m.take n))=m.take n:=bB fun z hz=>hr z (List.mem_of_mem_take hz)
theorem tj (m:List Int)(n:Nat):(ao (m.take n)).size=min n m.length:=by rw[ge,length_take]
theorem Ob {m:List Int}(hr:∀z∈m,0≤z∧z≤255)(hl:m.length≤512)(h0:m.length≠0){t:Tok}{n:Nat}(h:dH m=.ok (t,n)):isT t=true∧(t.n=0∨t.kind=2):=by
 have hn:=jC h0 h;unfold dH at h;split at h
 ·rename_i hl;injection h with h;injection h with h1 h2;subst h1;refine⟨?_,.inl rfl⟩;unfold isT;rw[if_pos rfl];simp only[CI hr];unfold dJ;have h2':aS aM m=n:=h2;have hlen:(m.take (aS aM m)).length=n:=by rw[length_take];omega
  have hrun:aS aM (m.take (aS aM m))=n:=nH _ _ _ (by omega) (fun i hi=>by rw[mf (by omega)];exact nI _ _ _ (by omega)) (fun h=>by omega);rw[hlen,hrun,mf (by omega),hl];simp;omega
 ·split at h
  ·split at h
   ·cases h
   ·injection h with h;injection h with h1 h2;subst h1;exact⟨by unfold isT;rw[if_neg (by simp),if_pos rfl];exact decide_eq_true rfl,.inr rfl⟩
  ·split at h
   ·split at h
    ·cases h
    ·rename_i hc;injection h with h;injection h with h1 h2;subst h1;refine⟨?_,.inl rfl⟩;unfold isT;rw[if_neg (by simp),if_neg (by simp),if_pos rfl];refine decide_eq_true ?_;simp only;rw[ge];unfold bL at hc ⊢;cases hq:quotesL (m.drop 1) with
     |none=>rw[hq]at hc;simp at hc
     |some p =>
      obtain⟨b,k⟩:=p;have h1:=qB _ _ _ _ (Nat.le_refl _) hq;have h2:=nA _ _ (Nat.le_refl _) hq;rw[length_drop]at h2;simp only;omega
   ·split at h
    ·cases h
    ·rename_i hc;injection h with h;injection h with h1 h2;subst h1;refine⟨?_,.inl rfl⟩;unfold isT;rw[if_neg (by simp),if_neg (by simp),if_neg (by simp),if_pos rfl];refine decide_eq_true ?_;simp only;have hsl:=wD m;rw[CI hr,tj,Nat.min_eq_left hsl];refine⟨by omega,?_⟩;obtain⟨w,hw⟩:∃w,m.take (ba m)=w:=⟨_,rfl⟩;have hwl:w.length=ba m:=by rw[←hw,length_take];omega
     have hwa:∀i,i<ba m→bAt w i=bAt m i:=fun i hi=>by rw[←hw];exact mf hi
     rw[hw];by_cases c1:1<m.length∧(bAt m 0=60∧bAt m 1=60∨bAt m 0=62∧bAt m 1=62)
     ·have hm:ba m=2:=by unfold ba;rw[if_pos c1]
      rw[hm]at hwl hwa;rw[hm];unfold ba;rw[if_pos ⟨by omega,by rw[hwa 0 (by omega),hwa 1 (by omega)];exact c1.2⟩]
     ·have c2:0<m.length∧bAt m 0∈pk:=by
       unfold ba at hc;rw[if_neg c1]at hc;split at hc
       ·assumption
       ·exact absurd rfl hc
      have hm:ba m=1:=by unfold ba;rw[if_neg c1,if_pos c2]
      rw[hm]at hwl hwa;rw[hm];unfold ba;rw[nG,if_pos ⟨by omega,by rw[hwa 0 (by omega)];exact c2.2⟩]
theorem Ic {m:List Int}(hl:m.length≤512)(h0:m.length≠0){t:Tok}{n:Nat}(h:dH m=.ok (t,n)):t.text.size≤512:=by
 have hn:=jC h0 h;unfold dH at h;split at h
 ·injection h with h;injection h with h1 h2;subst h1;simp only;rw[tj];omega
 ·split at h
  ·split at h
   ·cases h
   ·injection h with h;injection h with h1 h2;subst h1;exact zero_le _
  ·split at h
   ·split at h
    ·cases h
    ·rename_i hc;injection h with h;injection h with h1 h2;subst h1;simp only;rw[ge];unfold bL at hc ⊢;cases hq:quotesL (m.drop 1) with
     |none=>rw[hq]at hc;simp at hc
     |some p =>
      obtain⟨b,k⟩:=p;have h1:=qB _ _ _ _ (Nat.le_refl _) hq;have h2:=nA _ _ (Nat.le_refl _) hq;rw[length_drop]at h2;simp only;omega
   ·split at h
    ·cases h
    ·injection h with h;injection h with h1 h2;subst h1;simp only;rw[tj];omega
def Rises (len:Nat):Nat→List Tok→Prop
 |_,[]=>True
 |p,t::ts=>(cP t=0∧t.text.size≤512)∧∃a:Nat,t.pos=(a:Int)∧p≤a∧a<len∧Rises len (a+1) ts
theorem Rises.mono {len:Nat}:∀{ts:List Tok} {p q:Nat},q≤p→Rises len p ts→Rises len q ts
 |[],_,_,_,_=>trivial
 |_::_,_,_,hq,⟨h1,a,h2,h3,h4,h5⟩=>⟨h1,a,h2,by omega,h4,h5⟩
theorem po {l:List Int}(hr:∀z∈l,0≤z∧z≤255)(hl:l.length≤512):∀(ts:List Tok) (p n:Nat) (e:Int),p≤l.length→aJ p (l.drop p)=(ts,n,e)→Rises l.length p ts
 |[],_,_,_,_,_=>trivial
 |t::ts,p,n,e,hp,h=>by
  obtain⟨t0,n1,hd,ho,rfl,hrest⟩:=jY h;have hk:aS an (l.drop p)≤(l.drop p).length:=kr _ _;rw[length_drop]at hk
  have h0:((l.drop p).drop (aS an (l.drop p))).length≠0:=fun e=>by
   have:cA ((l.drop p).drop (aS an (l.drop p)))=true:=by unfold cA;rw[e];rfl
   rw[this]at hd;cases hd
  have hn:=jC h0 ho;have hm:=Ob (fun z hz=>hr z (List.mem_of_mem_drop (List.mem_of_mem_drop hz))) (by rw[length_drop,length_drop];omega) h0 ho;rw[length_drop,length_drop]at hn;rw[drop_drop,←Nat.add_assoc]at hrest;have ih:=po hr hl ts (p+aS an (l.drop p)+n1) n e (by omega) hrest;refine⟨?_,_,rfl,by omega,by omega,ih.mono (by omega)⟩;have hsm:=Ic (by rw[length_drop,length_drop];omega) h0 ho;refine⟨?_,hsm⟩;unfold cP;have hi:isT { t0 with pos:=((p+aS an (l.drop p):Nat):Int) }=isT t0:=rfl;rw[hi,if_pos ⟨hm.1,Int.natCast_nonneg _,hm.2⟩]
def jX:kG Tok where
 dec:=fun | [.v (.int .i64 k),.v (.string s),.v (.int .u64 n),.v (.int .i64 p)]=>some ⟨k,s,n,p⟩ | _=>none
 enc:=fun t=>[.v (.int .i64 t.kind),.v (.string t.text),.v (.int .u64 t.n),.v (.int .i64 t.pos)]
 inv:=by
  intro c x h;split at h
  ·injection h with h;subst h;rfl
  ·cases h
 back:=by intro x;rfl
theorem jW (t:Tok):jX.enc t=[.v (.int .i64 t.kind),.v (.string t.text),.v (.int .u64 t.n),.v (.int .i64 t.pos)]:=rfl
def wF:ByteArray:=⟨#[44,91,93,33,35,58,43,45,42,47,37,38,124,94,126,40,41,61]⟩
def ci (l:List Int):Blk:=⟨true,5,1,l.map au⟩
theorem JQ (l:List Int):bH kg (l.map au)=some l:=gW AG l
def oZ (l:List Int):AV:=.tup [.l (.v (.string (ao (bL l).1))),.l (.v (.int .i64 (bL l).2))]
def BW (s:ByteArray)(i:Nat)(l:List Int):Prop:=1≤i∧(i≤s.size∨i=1)∧l.length≤i∧quotesL ((aa s).drop 1)=(quotesL ((aa s).drop i)).map fun p=>(l++p.1,i-1+p.2)
theorem yp {s:ByteArray}{i:Nat}{l:List Int}(h:BW s i l){x:Int}{k:Nat}(hq:dv ((aa s).drop i)=.put x k):BW s (i+k) (l++[x]):=by
 obtain⟨h1,h2,h3,h4⟩:=h;have hk:=la hq;rw[length_drop,ae]at hk;refine⟨by omega,by omega,by simp;omega,?_⟩;rw[h4,ik hq,drop_drop];cases quotesL ((aa s).drop (i+k)) with
 |none=>rfl
 |some p=>simp;omega
theorem Et {s:ByteArray}{i:Nat}{l:List Int}(h:BW s i l)(hq:dv ((aa s).drop i)=.stop):bL (aa s)=(l,i+1):=by
 obtain⟨h1,h2,h3,h4⟩:=h;unfold bL;rw[h4,gj hq];simp;omega
theorem sY {s:ByteArray}{i:Nat}{l:List Int}(h:BW s i l)(hq:dv ((aa s).drop i)=.bad):bL (aa s)=([],0):=by
 obtain⟨h1,h2,h3,h4⟩:=h;unfold bL;rw[h4,fR hq];rfl
theorem sL (base:Int)(l:List Int)(c:Int):bx base (l++[c])=bx base l*base+aA c:=by
 unfold bx;rw[List.foldl_append];rfl
def kt (t:Tok):SV:=.agg [.v (.int .i64 t.kind),.v (.string t.text),.v (.int .u64 t.n),.v (.int .i64 t.pos)]
def oS (r:Except Int (Tok×Nat)):AV:=match r with
 |.ok p=>.tup [kt p.1,.l (.v (.int .i64 p.2)),.l (.v (.int .i64 0))]
 |.error e=>.tup [kt ⟨0,emp,0,0⟩,.l (.v (.int .i64 0)),.l (.v (.int .i64 e))]
def uh (l:List Tok):SV:=.l (.d (.sd 4 (l.map jX.enc)))
def CJ (l:List Tok):Blk:=⟨true,137,4,(l.map jX.enc).map bp⟩
def BC:SV:=.l (.v (.slice none 0 0))
def pP (r:List Tok×Nat×Int)(long:Bool):AV:=.tup [if long=true then BC else uh r.1,.l (.v (.int .i64 r.2.1)),.l (.v (.int .i64 r.2.2))]
def iO (l:List Int):Bool:=decide (512<l.length)
theorem Lh {l:List Int}{e:Int}(h:dH l=.error e):e=80∨e=81∨e=82:=by
 unfold dH at h;split at h
 ·cases h
 ·split at h
  ·split at h
   ·injection h with h;omega
   ·cases h
  ·split at h
   ·split at h
    ·injection h with h;omega
    ·cases h
   ·split at h
    ·injection h with h;omega
    ·cases h
def Ug (s:ByteArray)(p:Nat×List Tok):Prop:=p.1≤s.size∧p.2.length≤p.1∧aJ 0 (aa s)=(p.2++(aJ p.1 ((aa s).drop p.1)).1,(aJ p.1 ((aa s).drop p.1)).2)
theorem I3 (l:List Tok)(t:Tok):(l.map jX.enc).map bp++[[LV.v (.int .i64 t.kind),.v (.string t.text),.v (.int .u64 t.n),.v (.int .i64 t.pos)]]=((l++[t]).map jX.enc).map bp:=by
 rw[List.map_append,List.map_append];rfl
def Kt (r:List Tok×Nat×Int):AV:=if r.2.2=0 then .tup [uh r.1,.l (.v (.int .i64 r.2.1)),.l (.v (.int .i64 0))] else .tup [BC,.l (.v (.int .i64 r.2.1)),.l (.v (.int .i64 r.2.2))]
namespace Lx
def bz (l:List Int):AV:=.tup [.l (.v (.int .u64 (aE l).1)),.l (.v (.int .i64 (aE l).2))]
end Lx
end Go.Proofs.YtnhbidpdadkcjaaGreatDoor
