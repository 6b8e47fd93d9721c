import Derived.Test.YtnhbidpdadkcjaaGreatDoorR12
import Derived.Test.YtnhbidpdadkcjaaGreatDoorR13
set_option linter.unusedVariables false
set_option linter.unusedSimpArgs false
set_option maxRecDepth 100000
set_option maxHeartbeats 8000000
open List (getD_eq_getElem?_getD length_drop drop_zero drop_drop length_take append_assoc nil_append)
open Nat (lt_or_ge zero_le)
open Int (toNat_natCast)
namespace Go.Proofs.YtnhbidpdadkcjaaGreatDoor
open Go.RowKit
def az (n:Int):Bool:=decide (n=32∨n=9)
def iA (n:Int):Bool:=decide (32≤n∧n≤126)
def aM (n:Int):Int:=if 48≤n∧n≤57 then n-48 else if 97≤n∧n≤102 then n-87 else if 65≤n∧n≤70 then n-55 else 16
theorem kA (n:Int):0≤aM n∧aM n≤16:=by unfold aM;split<;>(try split)<;>(try split)<;>omega
def bAt (l:List Int)(i:Nat):Int:=l.getD i 0
theorem D3 {c:Int}{l:List Int}:bAt (c::l) 0=c:=rfl
theorem NP {c:Int}{l:List Int}{i:Nat}:bAt (c::l) (i+1)=bAt l i:=rfl
theorem gL (l:List Int)(i j:Nat):bAt (l.drop i) j=bAt l (i+j):=by
 unfold bAt;rw[getD_eq_getElem?_getD,getD_eq_getElem?_getD,List.getElem?_drop]
theorem xj {l:List Int}{i:Nat}(h:i<l.length):l[i]? = some (bAt l i):=by
 unfold bAt;rw[getD_eq_getElem?_getD,List.getElem?_eq_getElem h];rfl
theorem jm (s:ByteArray)(i:Nat):ab s i=bAt (aa s) i:=by
 rcases lt_or_ge i s.size with h | h
 ·have:=dw h;unfold bAt;rw[getD_eq_getElem?_getD (l:=aa s),this];rfl
 ·unfold bAt ab;have h1:s.data.toList.length≤i:=by simpa using h
  have h2:(aa s).length≤i:=by rw[ae];exact h
  rw[getD_eq_getElem?_getD (l:=aa s),List.getElem?_eq_none h2,getD_eq_getElem?_getD,toNat_natCast,List.getElem?_eq_none h1];rfl
theorem gq (s:ByteArray):ab s 0=bAt (aa s) 0:=jm s 0
theorem v6 (s:ByteArray):ab s 1=bAt (aa s) 1:=jm s 1
theorem v7 (s:ByteArray):ab s 2=bAt (aa s) 2:=jm s 2
theorem dk (s:ByteArray)(i:Nat):aa (s.extract i s.size)=(aa s).drop i:=by
 rw[cD,List.take_of_length_le];rw[length_drop,ae];exact Nat.le_refl _
theorem pT (s:ByteArray)(j:Nat):aa (s.extract 0 j)=(aa s).take j:=by
 rw[cD,drop_zero,Nat.sub_zero]
theorem tO (s:ByteArray)(j:Nat):s.extract 0 j=aj ((aa s).take j):=by
 rw[←pT,fp]
theorem K3 {l:List Int}{i:Nat}(h:i<l.length):l.drop i=bAt l i::l.drop (i+1):=by
 rw[List.drop_eq_getElem_cons h];have:=xj h;rw[List.getElem?_eq_getElem h]at this;injection this with this;rw[this]
def bz (g:Int→Bool)(l:List Int):Nat:=(l.takeWhile g).length
theorem Qr (g:Int→Bool):bz g []=0:=rfl
theorem jE (g:Int→Bool)(c:Int)(l:List Int):bz g (c::l)=if g c=true then 1+bz g l else 0:=by
 unfold bz;rw[List.takeWhile_cons];split<;>simp[Nat.add_comm]
theorem lR (g:Int→Bool)(l:List Int):bz g l≤l.length:=(List.takeWhile_sublist g).length_le
theorem MI (g:Int→Bool)(l:List Int)(i:Nat)(h:i<l.length):bz g (l.drop i)=if g (bAt l i)=true then 1+bz g (l.drop (i+1)) else 0:=by
 rw[K3 h,jE]
theorem Qq (g:Int→Bool)(l:List Int)(i:Nat)(h:l.length≤i):bz g (l.drop i)=0:=by
 rw[List.drop_eq_nil_of_le h];rfl
theorem pL (g:Int→Bool):∀(l:List Int) (i:Nat),i<bz g l→g (bAt l i)=true
 |[],i,h=>by simp[Qr]at h
 |c::l,i,h=>by
  rw[jE]at h;split at h
  ·rename_i hc;cases i with
   |zero=>exact hc
   |succ i=>exact pL g l i (by omega)
  ·omega
theorem vE (g:Int→Bool):∀(l:List Int),bz g l<l.length→g (bAt l (bz g l))=false
 |[],h=>by simp at h
 |c::l,h=>by
  rw[jE]at h ⊢;split
  ·rename_i hc;rw[if_pos hc]at h;rw[Nat.add_comm,NP];exact vE g l (by simp at h;omega)
  ·rename_i hc;simpa[bAt] using hc
theorem pK (g:Int→Bool)(l:List Int)(k:Nat)(hk:k≤l.length)(hin:∀i,i<k→g (bAt l i)=true)(hst:k<l.length→g (bAt l k)=false):bz g l=k:=by
 rcases Nat.lt_trichotomy (bz g l) k with h | h | h
 ·have:=vE g l (by omega);rw[hin _ h]at this;cases this
 ·exact h
 ·have h1:=pL g l k h;rw[hst (by have:=lR g l;omega)]at h1;cases h1
def eK (l:List Int):Bool:=decide (0<l.length)&&bX (bAt l 0)&&decide (bz wordyB l=l.length)
def qY:List Int:=[44,91,93,33,35,58,43,45,42,47,37,38,124,94,126,40,41,61]
def bI (l:List Int):Nat :=
 if 1<l.length∧(bAt l 0=60∧bAt l 1=60∨bAt l 0=62∧bAt l 1=62) then 2
 else if 0<l.length∧bAt l 0∈qY then 1 else 0
theorem zT (l:List Int):bI l≤l.length:=by unfold bI;split<;>(try split)<;>omega
def dh (c:Int):Int:=if c=0 then 48 else if c=9 then 116 else if c=10 then 110 else if c=13 then 114 else if c=34∨c=92 then c else 0
def jY (c:Int):Int:=if c<10 then 48+c else 87+c
def dz (c:Int):List Int:=if dh c≠0 then[92,dh c] else if iA c=true then[c] else[92,120,jY (c / 16),jY (c % 16)]
def ee (l:List Int):List Int:=l.flatMap dz
def eg (l:List Int):List Int:=34::(ee l++[34])
def E4 (c:Int):Option Int:=if c=48 then some 0 else if c=116 then some 9 else if c=110 then some 10 else if c=114 then some 13 else if c=34∨c=92 then some c else none
def mO (l:List Int):Option (Int×Nat) :=
 if l.length=0 then none else
 match E4 (bAt l 0) with
 |some x=>some (x,1)
 |none=>if 2<l.length∧bAt l 0=120∧aM (bAt l 1)<16∧aM (bAt l 2)<16 then some (16*aM (bAt l 1)+aM (bAt l 2),3) else none
inductive QS where
 |stop
 |bad
 |put (x:Int) (k:Nat)
def eQ (l:List Int):QS :=
 if l.length=0 then .bad else
 if bAt l 0=34 then .stop else
 if bAt l 0=92 then match mO (l.drop 1) with
  |some (x,n)=>.put x (n+1)
  |none=>.bad
 else if iA (bAt l 0)=true then .put (bAt l 0) 1 else .bad
theorem CX {l:List Int}{x:Int}{n:Nat}(h:mO l=some (x,n)):1≤n∧n≤l.length:=by
 unfold mO at h;split at h
 ·cases h
 ·split at h
  ·injection h with h;injection h with h1 h2;omega
  ·split at h
   ·injection h with h;injection h with h1 h2;omega
   ·cases h
theorem mD {l:List Int}{x:Int}{k:Nat}(h:eQ l=.put x k):1≤k∧k≤l.length:=by
 unfold eQ at h;split at h
 ·cases h
 ·split at h
  ·cases h
  ·split at h
   ·split at h
    ·rename_i h1;injection h with h2 h3;have:=CX h1;rw[length_drop]at this;omega
    ·cases h
   ·split at h
    ·injection h with h2 h3;omega
    ·cases h
def quotesL (l:List Int):Option (List Int×Nat) :=
 match h:eQ l with
 |.stop=>some ([],1)
 |.bad=>none
 |.put x k=>match quotesL (l.drop k) with
  |some (b,n)=>some (x::b,k+n)
  |none=>none
termination_by l.length
decreasing_by
 have:=mD h;rw[length_drop];omega
theorem iM {l:List Int}(h:eQ l=.stop):quotesL l=some ([],1):=by
 rw[quotesL];split
 ·rfl
 ·rename_i e;rw[h]at e;cases e
 ·rename_i e;rw[h]at e;cases e
theorem iw {l:List Int}(h:eQ l=.bad):quotesL l=none:=by
 rw[quotesL];split
 ·rename_i e;rw[h]at e;cases e
 ·rfl
 ·rename_i e;rw[h]at e;cases e
theorem jC {l:List Int}{x:Int}{k:Nat}(h:eQ l=.put x k):quotesL l=(quotesL (l.drop k)).map fun p=>(x::p.1,k+p.2):=by
 rw[quotesL];split
 ·rename_i e;rw[h]at e;cases e
 ·rename_i e;rw[h]at e;cases e
 ·rename_i e;rw[h]at e;injection e with e1 e2;subst e1;subst e2;cases quotesL (l.drop k)<;>rfl
def cv (l:List Int):List Int×Nat :=
 match quotesL (l.drop 1) with
 |some (b,n)=>(b,n+1)
 |none=>([],0)
def bW (base:Int)(l:List Int):Int:=l.foldl (fun n c=>n*base+aM c) 0
def fA (l:List Int):Int:=if 1<l.length∧bAt l 0=48∧bAt l 1=120 then 16 else if 1<l.length∧bAt l 0=48∧bAt l 1=98 then 2 else 10
def cM (l:List Int):Nat:=if 1<l.length∧bAt l 0=48∧(bAt l 1=120∨bAt l 1=98) then 2 else 0
def bQ (base:Int)(l:List Int):Nat:=bz (fun c=>decide (aM c<base)) l
def aT (l:List Int):Int×Nat :=
 if bAt l 0=39 then
  if 3≤l.length∧bAt l 2=39∧iA (bAt l 1)=true∧bAt l 1≠39∧bAt l 1≠92 then(bAt l 1,3) else(0,0)
 else if bQ (fA l) (l.drop (cM l))=0∨cM l=0∧1<bQ (fA l) (l.drop (cM l))∧bAt l 0=48 then(0,0)
 else if 18446744073709551616≤bW (fA l) ((l.drop (cM l)).take (bQ (fA l) (l.drop (cM l)))) then(0,0)
 else(bW (fA l) ((l.drop (cM l)).take (bQ (fA l) (l.drop (cM l)))),cM l+bQ (fA l) (l.drop (cM l)))
def fT (l:List Int):Except Int (Tok×Nat) :=
 if bX (bAt l 0)=true then .ok (⟨1,aj (l.take (bz wordyB l)),0,0⟩,bz wordyB l)
 else if eI (bAt l 0)=true∨bAt l 0=39 then
  if(aT l).2=0∨(aT l).2<l.length∧wordyB (bAt l (aT l).2)=true then .error 81 else .ok (⟨2,emp,(aT l).1,0⟩,(aT l).2)
 else if bAt l 0=34 then
  if(cv l).2=0 then .error 82 else .ok (⟨3,aj (cv l).1,0,0⟩,(cv l).2)
 else if bI l=0 then .error 80 else .ok (⟨4,aj (l.take (bI l)),0,0⟩,bI l)
theorem pE:∀(N:Nat) (l:List Int),l.length≤N→∀{b:List Int} {n:Nat},quotesL l=some (b,n)→1≤n∧n≤l.length
 |0,l,hl,b,n,h=>by
  obtain rfl:l=[]:=List.eq_nil_of_length_eq_zero (by omega);rw[iw rfl]at h;cases h
 |N+1,l,hl,b,n,h=>by
  cases hq:eQ l with
  |stop =>
   rw[iM hq]at h;injection h with h;injection h with h1 h2;have:l.length≠0:=fun e=>by rw[List.eq_nil_of_length_eq_zero e]at hq;cases hq
   omega
  |bad=>rw[iw hq]at h;cases h
  |put x k =>
   have hk:=mD hq;rw[jC hq]at h;cases hr:quotesL (l.drop k) with
   |none=>rw[hr]at h;cases h
   |some p =>
    obtain⟨b',n'⟩:=p;have:=pE N (l.drop k) (by rw[length_drop];omega) hr;rw[hr]at h;injection h with h;injection h with h1 h2;rw[length_drop]at this;simp only at h2;omega
theorem Ix {l:List Int}(h:l.length≠0):(cv l).2≤l.length:=by
 unfold cv;split
 ·rename_i e;have:=pE _ _ (Nat.le_refl _) e;rw[length_drop]at this;show _+1≤_;omega
 ·exact zero_le _
theorem HV (l:List Int):(aT l).2≤l.length:=by
 have hr:bQ (fA l) (l.drop (cM l))≤(l.drop (cM l)).length:=lR _ _;have hh:cM l≤l.length:=by unfold cM;split<;>omega
 rw[length_drop]at hr;unfold aT;split
 ·split
  ·rename_i h;exact h.1
  ·exact zero_le _
 ·split
  ·exact zero_le _
  ·split
   ·exact zero_le _
   ·show _+_≤_;omega
theorem kQ {l:List Int}(h0:l.length≠0){t:Tok}{n:Nat}(h:fT l=.ok (t,n)):1≤n∧n≤l.length:=by
 unfold fT at h;split at h
 ·rename_i hc;injection h with h;injection h with h1 h2;subst h2;refine⟨?_,lR _ _⟩;cases l with
  |nil=>exact absurd rfl h0
  |cons c r =>
   rw[jE,if_pos (by unfold wordyB;rw[show bX c=true from hc];rfl)];omega
 ·split at h
  ·split at h
   ·cases h
   ·injection h with h;injection h with h1 h2;have:=HV l;omega
  ·split at h
   ·split at h
    ·cases h
    ·injection h with h;injection h with h1 h2;have:=Ix h0;omega
   ·split at h
    ·cases h
    ·injection h with h;injection h with h1 h2;have:=zT l;omega
def dF (l:List Int):Bool:=decide (l.length=0)||(decide (1<l.length)&&decide (bAt l 0=47)&&decide (bAt l 1=47))
def bg (at_:Nat)(l:List Int):List Tok×Nat×Int :=
 let k:=bz az l
 if h0:dF (l.drop k)=true then([],at_+l.length,0) else
 match h:fT (l.drop k) with
 |.error e=>([],at_+k,e)
 |.ok (t,n) =>
  let r:=bg (at_+k+n) ((l.drop k).drop n)
  ({ t with pos:=((at_+k:Nat):Int) }::r.1,r.2)
termination_by l.length
decreasing_by
 have h1:(l.drop (bz az l)).length≠0:=fun e=>h0 (by unfold dF;rw[e];rfl);have:=kQ h1 h;rw[length_drop,length_drop];rw[length_drop]at h1 this;omega
theorem gJ {p:Nat}{l:List Int}(h:dF (l.drop (bz az l))=true):bg p l=([],p+l.length,0):=by
 rw[bg];simp only[h,dite_true]
theorem jd {p:Nat}{l:List Int}{e:Int}(h0:dF (l.drop (bz az l))=false)(h:fT (l.drop (bz az l))=.error e):bg p l=([],p+bz az l,e):=by
 rw[bg];simp only[h0,Bool.false_eq_true,dite_false];split
 ·rename_i e1;rw[h]at e1;injection e1 with e1;rw[e1]
 ·rename_i e1;rw[h]at e1;cases e1
theorem kK {p:Nat}{l:List Int}{t:Tok}{n:Nat}(h0:dF (l.drop (bz az l))=false)(h:fT (l.drop (bz az l))=.ok (t,n)) :
  bg p l=({ t with pos:=((p+bz az l:Nat):Int) }::(bg (p+bz az l+n) (l.drop (bz az l+n))).1,(bg (p+bz az l+n) (l.drop (bz az l+n))).2):=by
 rw[bg];simp only[h0,Bool.false_eq_true,dite_false];split
 ·rename_i e1;rw[h]at e1;cases e1
 ·rename_i e1;rw[h]at e1;injection e1 with e1;injection e1 with e1 e2;subst e1;subst e2;rw[drop_drop]
def gB (l:List Int):List Tok×Nat×Int:=if 512<l.length then([],0,3) else bg 0 l
def isT (t:Tok):Bool :=
 if t.kind=1 then eK (aa t.text) else if t.kind=2 then decide (t.text=emp) else if t.kind=3 then decide (t.text.size≤512) else if t.kind=4 then decide (0<t.text.size∧bI (aa t.text)=t.text.size) else false
def cN (t:Tok):Int:=if isT t=true∧0≤t.pos∧(t.n=0∨t.kind=2) then 0 else 1
theorem Kg {a b:Tok}(h1:a.kind=b.kind)(h2:a.text=b.text)(h3:a.n=b.n)(h4:a.pos=b.pos):a=b:=by
 cases a;cases b;simp only at h1 h2 h3 h4;subst h1;subst h2;subst h3;subst h4;rfl
instance tokDec:DecidableEq Tok:=fun a b =>
 if h:a.kind=b.kind∧a.text=b.text∧a.n=b.n∧a.pos=b.pos then isTrue (Kg h.1 h.2.1 h.2.2.1 h.2.2.2) else isFalse fun e=>h (by rw[e];exact⟨rfl,rfl,rfl,rfl⟩)
theorem kN {a v:List Int}{i:Nat}(h:i<a.length):bAt (a++v) i=bAt a i:=by
 unfold bAt;rw[getD_eq_getElem?_getD,getD_eq_getElem?_getD,List.getElem?_append_left h]
theorem xU {a v:List Int}:bAt (a++v) a.length=bAt v 0:=by
 unfold bAt;rw[getD_eq_getElem?_getD,getD_eq_getElem?_getD,List.getElem?_append_right (Nat.le_refl _),Nat.sub_self]
theorem nU {l:List Int}{n i:Nat}(h:i<n):bAt (l.take n) i=bAt l i:=by
 unfold bAt;rw[getD_eq_getElem?_getD,getD_eq_getElem?_getD,List.getElem?_take_of_lt h]
theorem nW {c:Int}(h:az c=true):wordyB c=false∧aM c=16∧c≠120∧c≠98∧c≠47:=by
 unfold az at h;have h1:c=32∨c=9:=by simpa using h
 rcases h1 with rfl | rfl<;>decide
def Gw (m v:List Int):Prop:=v=[]∨az (bAt v 0)=true∨(m≠[]∧bAt v 0=bAt m 0)
structure Gx (m:List Int)(n:Nat)(w:List Int):Prop where
 len:n≤m.length
 wlen:n≤w.length
 at_:∀i,i<n→bAt w i=bAt m i
 tak:w.take n=m.take n
 stop:n<w.length→az (bAt w n)=true∨(n<m.length∧bAt w n=bAt m n)
theorem J6 {m v:List Int}{n:Nat}(hn:n≤m.length)(hv:Gw (m.drop n) v):Gx m n (m.take n++v):=by
 have hl:(m.take n).length=n:=by rw[length_take];omega
 refine⟨hn,by rw[List.length_append,hl];omega,fun i hi=>by rw[kN (by omega),nU hi],by rw[List.take_append_of_le_length (by omega),List.take_take,Nat.min_self],fun h=>?_⟩
 have e:bAt (m.take n++v) n=bAt v 0:=by
  have:=xU (a:=m.take n) (v:=v)
  rwa [hl]at this
 rw[e];rcases hv with rfl | h1 | ⟨h1,h2⟩
 ·rw[List.append_nil,hl]at h;omega
 ·exact .inl h1
 ·refine .inr ⟨?_,?_⟩
  ·rcases lt_or_ge n m.length with h3 | h3
   ·exact h3
   ·exact absurd (List.drop_eq_nil_of_le h3) h1
  ·rw[h2,gL,Nat.add_zero]
theorem F5 {g:Int→Bool}{m w:List Int}{n:Nat}(hg:∀c,az c=true→g c=false)(S:Gx m n w)(k:Nat)(hk:k≤n)(hr:bz g (m.drop k)=n-k):bz g (w.drop k)=n-k:=by
 refine pK g _ _ (by rw[length_drop];have:=S.wlen;omega) (fun i hi=>?_) (fun h=>?_)
 ·rw[gL,S.at_ _ (by omega),←gL];exact pL g _ _ (by omega)
 ·rw[length_drop]at h;rw[gL,show k+(n-k)=n by omega];rcases S.stop (by omega) with h1 | ⟨h1,h2⟩
  ·exact hg _ h1
  ·rw[h2];have:=vE g (m.drop k) (by rw[hr,length_drop];omega)
   rwa [hr,gL,show k+(n-k)=n by omega]at this
theorem Nh {m w:List Int}{n:Nat}(S:Gx m n w)(h:¬(n<m.length∧wordyB (bAt m n)=true)):¬(n<w.length∧wordyB (bAt w n)=true):=by
 rintro⟨h1,h2⟩;rcases S.stop h1 with h3 | ⟨h3,h4⟩
 ·rw[(nW h3).1]at h2;cases h2
 ·rw[h4]at h2;exact h ⟨h3,h2⟩
theorem Oq {x y:List Int}{c:Int}{k:Nat}(h:mO x=some (c,k))(hy:k≤y.length)(he:∀i,i<k→bAt y i=bAt x i):mO y=some (c,k):=by
 have hk:=CX h;unfold mO at h ⊢;rw[nG];split at h
 ·cases h
 ·rw[he 0 (by omega)];split at h
  ·exact h
  ·rename_i hn;split at h
   ·rename_i h3;injection h with h;injection h with h1 h2;subst h2;rw[if_pos ⟨by omega,h3.2.1,by rw[he 1 (by omega)];exact h3.2.2.1,by rw[he 2 (by omega)];exact h3.2.2.2⟩,he 1 (by omega),he 2 (by omega),h1]
   ·cases h
theorem Iu {x y:List Int}{c:Int}{k:Nat}(h:eQ x=.put c k)(hy:k≤y.length)(he:∀i,i<k→bAt y i=bAt x i):eQ y=.put c k:=by
 have hk:=mD h;unfold eQ at h ⊢;rw[nG,he 0 (by omega)];split at h
 ·cases h
 ·split at h
  ·cases h
  ·rename_i h34;rw[if_neg h34];split at h
   ·rename_i h92;rw[if_pos h92];split at h
    ·rename_i c' n' hes;injection h with h1 h2;subst h2;have:=Oq hes (y:=y.drop 1) (by rw[length_drop];omega) (fun i hi=>by rw[gL,gL];exact he _ (by omega));rw[this,h1]
    ·cases h
   ·rename_i h92;rw[if_neg h92];exact h
theorem wD:∀(N:Nat) (x y:List Int) (b:List Int) (n:Nat),x.length≤N→quotesL x=some (b,n)→n≤y.length→(∀i,i<n→bAt y i=bAt x i)→quotesL y=some (b,n)
 |0,x,y,b,n,hx,h,hy,he=>by
  obtain rfl:x=[]:=List.eq_nil_of_length_eq_zero (by omega);rw[iw rfl]at h;cases h
 |N+1,x,y,b,n,hx,h,hy,he=>by
  cases hq:eQ x with
  |stop =>
   rw[iM hq]at h;injection h with h;injection h with h1 h2;subst h1;subst h2
   have h34:x.length≠0∧bAt x 0=34:=by
    unfold eQ at hq;split at hq
    ·cases hq
    ·rename_i h0;split at hq
     ·rename_i h1;exact⟨h0,h1⟩
     ·split at hq
      ·split at hq<;>cases hq
      ·split at hq<;>cases hq
   exact iM (by unfold eQ;rw[nG,if_pos (by rw[he 0 (by omega)];exact h34.2)])
  |bad=>rw[iw hq]at h;cases h
  |put c k =>
   have hk:=mD hq;rw[jC hq]at h;cases hr:quotesL (x.drop k) with
   |none=>rw[hr]at h;cases h
   |some p =>
    obtain⟨b',n'⟩:=p;rw[hr]at h;injection h with h;injection h with h1 h2;simp only at h1 h2;subst h1;subst h2;have:=wD N (x.drop k) (y.drop k) b' n' (by rw[length_drop];omega) hr (by rw[length_drop];omega) (fun i hi=>by rw[gL,gL];exact he _ (by omega));rw[jC (Iu hq (by omega) (fun i hi=>he i (by omega))),this];rfl
theorem yq {m w:List Int}{n:Nat}(S:Gx m n w)(k:Nat):(w.drop k).take (n-k)=(m.drop k).take (n-k):=by
 rw[←List.drop_take,←List.drop_take,S.tak]
theorem Lk {m w:List Int}{n:Nat}(S:Gx m n w)(h1:1≤n)(h2:cM m≤n)(h3:n=1→cM m=0):cM w=cM m∧fA w=fA m:=by
 have e0:=S.at_ 0 (by omega);rcases lt_or_ge 1 n with h | h
 ·have e1:=S.at_ 1 h;have l1:1<m.length:=by have:=S.len;omega
  have l2:1<w.length:=by have:=S.wlen;omega
  unfold cM fA;simp only[e0,e1,l1,l2,true_and,and_self]
 ·obtain rfl:n=1:=by omega
  have hm:=h3 rfl
  have hnm:¬(1<m.length∧bAt m 0=48∧(bAt m 1=120∨bAt m 1=98)):=by
   intro hc;unfold cM at hm;rw[if_pos hc]at hm;cases hm
  have hnw:¬(1<w.length∧bAt w 0=48∧(bAt w 1=120∨bAt w 1=98)):=by
   rintro⟨c1,c2,c3⟩;rcases S.stop c1 with h4 | ⟨h4,h5⟩
   ·have:=nW h4;omega
   ·exact hnm ⟨h4,by rw[←e0];exact c2,by rw[←h5];exact c3⟩
  constructor
  ·unfold cM;rw[if_neg hnw,if_neg hnm]
  ·unfold fA;rw[if_neg (fun h=>hnw ⟨h.1,h.2.1,.inl h.2.2⟩),if_neg (fun h=>hnw ⟨h.1,h.2.1,.inr h.2.2⟩),if_neg (fun h=>hnm ⟨h.1,h.2.1,.inl h.2.2⟩),if_neg (fun h=>hnm ⟨h.1,h.2.1,.inr h.2.2⟩)]
theorem Sj (m:List Int):fA m≤16:=by unfold fA;split<;>(try split)<;>omega
theorem Fi {m w:List Int}{n:Nat}(S:Gx m n w)(h0:n≠0)(hn:(aT m).2=n):aT w=aT m:=by
 have e0:=S.at_ 0 (by omega);by_cases hq:bAt m 0=39
 ·have hm:aT m=if 3≤m.length∧bAt m 2=39∧iA (bAt m 1)=true∧bAt m 1≠39∧bAt m 1≠92 then(bAt m 1,3) else(0,0):=by unfold aT;rw[if_pos hq]
  have hw:aT w=if 3≤w.length∧bAt w 2=39∧iA (bAt w 1)=true∧bAt w 1≠39∧bAt w 1≠92 then(bAt w 1,3) else(0,0):=by unfold aT;rw[if_pos (by rw[e0];exact hq)]
  by_cases hc:3≤m.length∧bAt m 2=39∧iA (bAt m 1)=true∧bAt m 1≠39∧bAt m 1≠92
  ·rw[if_pos hc]at hm;rw[hm]at hn;simp only at hn;subst hn;rw[hw,hm,S.at_ 1 (by omega),S.at_ 2 (by omega),if_pos ⟨S.wlen,hc.2⟩]
  ·rw[if_neg hc]at hm;rw[hm]at hn;exact absurd hn.symm h0
 ·obtain⟨r,hr⟩:∃r,bQ (fA m) (m.drop (cM m))=r:=⟨_,rfl⟩
  have hm:aT m=if r=0∨cM m=0∧1<r∧bAt m 0=48 then(0,0) else if 18446744073709551616≤bW (fA m) ((m.drop (cM m)).take r) then(0,0) else(bW (fA m) ((m.drop (cM m)).take r),cM m+r):=by
   unfold aT;rw[if_neg hq,hr]
  by_cases c1:r=0∨cM m=0∧1<r∧bAt m 0=48
  ·rw[if_pos c1]at hm;rw[hm]at hn;exact absurd hn.symm h0
  rw[if_neg c1]at hm;by_cases c2:18446744073709551616≤bW (fA m) ((m.drop (cM m)).take r)
  ·rw[if_pos c2]at hm;rw[hm]at hn;exact absurd hn.symm h0
  rw[if_neg c2]at hm;rw[hm]at hn;simp only at hn;have hr0:0<r:=by omega
  obtain⟨g1,g2⟩:=Lk S (by omega) (by omega) (fun h=>by omega)
  have hrw:bQ (fA m) (w.drop (cM m))=r:=by
   have:=F5 (g:=fun c=>decide (aM c<fA m)) (fun c hc=>by have:=Sj m;rw[(nW hc).2.1];exact decide_eq_false (by omega)) S (cM m) (by omega) (by show bQ _ _=_;omega);show bz _ _=_;omega
  have ht:(w.drop (cM m)).take r=(m.drop (cM m)).take r:=by
   have:=yq S (cM m)
   rwa [show n-cM m=r by omega]at this
  rw[hm];unfold aT;rw[if_neg (by rw[e0];exact hq),g1,g2,hrw,e0,if_neg c1,ht,if_neg c2]
theorem vG {m:List Int}(h:bI m≠0):bAt m 0=60∨bAt m 0=62∨bAt m 0∈qY:=by
 unfold bI at h;split at h
 ·rename_i hc;omega
 ·split at h
  ·rename_i hc;exact .inr (.inr hc.2)
  ·exact absurd rfl h
theorem rK {c:Int}(h:c∈qY):az c=false∧c≠60∧c≠62:=by
 unfold qY at h;simp only[List.mem_cons,List.not_mem_nil,or_false]at h;rcases h with rfl | rfl | rfl | rfl | rfl | rfl | rfl | rfl | rfl | rfl | rfl | rfl | rfl | rfl | rfl | rfl | rfl | rfl<;>decide
theorem pt {c:Int}(h:bX c=true):az c=false∧c≠47:=by
 unfold bX at h;unfold az;simp only[decide_eq_true_eq,decide_eq_false_iff_not]at h ⊢;omega
theorem Fo {m w:List Int}{t:Tok}{n:Nat}(S:Gx m n w)(h0:m.length≠0)(hd:dF m=false)(h:fT m=.ok (t,n)):fT w=.ok (t,n)∧dF w=false∧bz az w=0:=by
 have hn:=kQ h0 h;have e0:=S.at_ 0 (by omega);have hw0:0<w.length:=by have:=S.wlen;omega
 have nb:az (bAt m 0)=false→bz az w=0:=fun hb=>pK _ _ _ (zero_le _) (fun i hi=>absurd hi (Nat.not_lt_zero _)) (fun _=>by rw[e0];exact hb)
 have dn:(bAt m 0=47→n=1)→dF w=false:=by
  intro h47;unfold dF at hd ⊢;rw[decide_eq_false (show ¬m.length=0 from h0),Bool.false_or]at hd;rw[decide_eq_false (show ¬w.length=0 by omega),Bool.false_or];rw[Bool.eq_false_iff];intro hc;simp only[Bool.and_eq_true,decide_eq_true_eq]at hc;obtain⟨⟨c1,c2⟩,c3⟩:=hc;have hn1:=h47 (by rw[←e0];exact c2);subst hn1;rcases S.stop c1 with h4 | ⟨h4,h5⟩
  ·exact(nW h4).2.2.2.2 c3
  ·rw[←e0,←h5,c2,c3]at hd;rw[decide_eq_true h4]at hd;cases hd
 unfold fT at h ⊢;rw[e0];split at h
 ·rename_i hl;injection h with h;injection h with h1 h2;rw[if_pos hl]
  have hr:bz wordyB w=n:=by
   have:=F5 (g:=wordyB) (fun c hc=>(nW hc).1) S 0 (by omega) (by rw[drop_zero];omega)
   rwa [drop_zero,Nat.sub_zero]at this
  rw[hr,←h1,h2,S.tak];exact⟨rfl,dn (fun e=>absurd e (pt hl).2),nb (pt hl).1⟩
 ·rename_i hl;rw[if_neg hl];split at h
  ·rename_i hdg;rw[if_pos hdg];split at h
   ·cases h
   ·rename_i hc;injection h with h;injection h with h1 h2;have hN:=Fi S (by omega) h2
    have hb:az (bAt m 0)=false∧bAt m 0≠47:=by
     unfold eI at hdg;unfold az;simp only[decide_eq_true_eq,decide_eq_false_iff_not]at hdg ⊢;omega
    rw[hN,if_neg ?_,h1,h2]
    ·exact⟨rfl,dn (fun e=>absurd e hb.2),nb hb.1⟩
    ·rw[h2]at hc ⊢;rintro (hc2 | hc2)
     ·omega
     ·exact Nh S (fun h=>hc (.inr h)) hc2
  ·rename_i hdg;rw[if_neg hdg];split at h
   ·rename_i h34;rw[if_pos h34];split at h
    ·cases h
    ·rename_i hc;injection h with h;injection h with h1 h2
     have hQ:cv w=cv m:=by
      unfold cv at h2 ⊢;cases hq:quotesL (m.drop 1) with
      |none=>rw[hq]at h2;simp only at h2;omega
      |some p =>
       obtain⟨b,k⟩:=p;rw[hq]at h2;simp only at h2;have:=wD _ (m.drop 1) (w.drop 1) b k (Nat.le_refl _) hq (by rw[length_drop];have:=S.wlen;omega) (fun i hi=>by rw[gL,gL];exact S.at_ _ (by omega));rw[this]
     rw[hQ,if_neg hc,h1,h2];exact⟨rfl,dn (fun e=>by omega),nb (by rw[h34];rfl)⟩
   ·rename_i h34;rw[if_neg h34];split at h
    ·cases h
    ·rename_i hc;injection h with h;injection h with h1 h2;have hsg:=vG hc
     have hbn:az (bAt m 0)=false:=by
      rcases hsg with e | e | e
      ·rw[e];rfl
      ·rw[e];rfl
      ·exact(rK e).1
     have hS:bI w=bI m:=by
      by_cases c1:1<m.length∧(bAt m 0=60∧bAt m 1=60∨bAt m 0=62∧bAt m 1=62)
      ·have hm:bI m=2:=by unfold bI;rw[if_pos c1]
       have e1:=S.at_ 1 (by omega);rw[hm];unfold bI;rw[if_pos ⟨by have:=S.wlen;omega,by rw[e0,e1];exact c1.2⟩]
      ·have c2:0<m.length∧bAt m 0∈qY:=by
        unfold bI at hc;rw[if_neg c1]at hc;split at hc
        ·assumption
        ·exact absurd rfl hc
       have hm:bI m=1:=by unfold bI;rw[if_neg c1,if_pos c2]
       have:=rK c2.2;rw[hm];unfold bI;rw[if_neg (by rw[e0];omega),if_pos ⟨hw0,by rw[e0];exact c2.2⟩]
     rw[hS,if_neg hc,h2,S.tak,←h1,h2];refine⟨rfl,dn (fun e=>?_),nb hbn⟩;rw[←h2];unfold bI;rw[nG,if_pos ⟨by omega,by rw[e];decide⟩]
theorem TR {bs x:List Int}(h:∀c∈bs,az c=true):bz az (bs++x)=bs.length+bz az x:=by
 induction bs with
 |nil=>simp
 |cons c bs ih =>
  rw[List.cons_append,jE,if_pos (h c (by simp)),ih (fun c hc=>h c (by simp[hc])),List.length_cons];omega
theorem je {bs x:List Int}(h:∀c∈bs,az c=true)(q:Nat):bg q (bs++x)=bg (q+bs.length) x:=by
 have hr:=TR (x:=x) h;have hd:∀k,(bs++x).drop (bs.length+k)=x.drop k:=fun k=>by rw[←drop_drop,List.drop_left]
 cases hdn:dF (x.drop (bz az x)) with
 |true =>
  rw[gJ (l:=x) hdn,gJ (l:=bs++x) (by rw[hr,hd];exact hdn),List.length_append,Nat.add_assoc]
 |false =>
  rcases ho:fT (x.drop (bz az x)) with e | ⟨t,n⟩
  ·rw[jd (l:=x) hdn ho,jd (l:=bs++x) (by rw[hr,hd];exact hdn) (by rw[hr,hd];exact ho),hr,Nat.add_assoc]
  ·rw[kK (l:=x) hdn ho,kK (l:=bs++x) (by rw[hr,hd];exact hdn) (by rw[hr,hd];exact ho),hr,Nat.add_assoc bs.length,hd];simp only[Nat.add_assoc]
theorem tf {w:List Int}{t:Tok}{n:Nat}(h1:bz az w=0)(h2:dF w=false)(h3:fT w=.ok (t,n))(q:Nat):bg q w=({ t with pos:=(q:Int) }::(bg (q+n) (w.drop n)).1,(bg (q+n) (w.drop n)).2):=by
 have:=kK (p:=q) (l:=w) (t:=t) (n:=n) (by rw[h1];exact h2) (by rw[h1];exact h3);rw[h1,Nat.zero_add,Nat.add_zero]at this;exact this
theorem x4 (m:List Int):∀c∈m.take (bz az m),az c=true:=by
 intro c hc;obtain⟨i,hi,rfl⟩:=List.mem_iff_getElem.1 hc;rw[length_take]at hi;have:=pL az m i (by omega);rw[List.getElem_take];have hg:=xj (l:=m) (i:=i) (by omega);rw[List.getElem?_eq_getElem (by omega)]at hg;injection hg with hg;rw[hg];exact this
def bare (t:Tok):Tok:={ t with pos:=0 }
def AC (l:List Int):List Tok→Nat
 |[]=>l.length
 |t::_=>t.pos.toNat
def pcs (l:List Int)(bl:Nat→List Int):Nat→List Tok→List Int
 |_,[]=>[]
 |i,t::ts=>bl i++((l.drop t.pos.toNat).take (AC l ts-t.pos.toNat)++pcs l bl (i+1) ts)
theorem lr {p:Nat}{m:List Int}{t:Tok}{ts:List Tok}{n:Nat}{e:Int}(h:bg p m=(t::ts,n,e)):∃t0 n1,dF (m.drop (bz az m))=false∧fT (m.drop (bz az m))=.ok (t0,n1)∧t={ t0 with pos:=((p+bz az m:Nat):Int) }∧bg (p+bz az m+n1) (m.drop (bz az m+n1))=(ts,n,e):=by
 cases hdn:dF (m.drop (bz az m)) with
 |true=>rw[gJ hdn]at h;cases h
 |false =>
  rcases ho:fT (m.drop (bz az m)) with e' | ⟨t0,n1⟩
  ·rw[jd hdn ho]at h;cases h
  ·rw[kK hdn ho]at h;injection h with h1 h2;injection h1 with h1 h3;exact⟨t0,n1,rfl,rfl,h1.symm,Prod.ext h3 h2⟩
theorem Jf {p:Nat}{m:List Int}{n:Nat}(h:bg p m=([],n,0))(he:∀l e,fT l=.error e→e≠0):dF (m.drop (bz az m))=true:=by
 cases hdn:dF (m.drop (bz az m)) with
 |true=>rfl
 |false =>
  rcases ho:fT (m.drop (bz az m)) with e' | ⟨t0,n1⟩
  ·rw[jd hdn ho]at h;injection h with h1 h2;injection h2 with h2 h3;exact absurd h3 (he _ _ ho)
  ·rw[kK hdn ho]at h;cases h
theorem K2 {m tail:List Int}(h:dF (m.drop (bz az m))=true)(ht:∃r,tail=32::47::47::r)(q:Nat):(bg q (m++tail)).1=[]∧(bg q (m++tail)).2.2=0:=by
 obtain⟨r,rfl⟩:=ht;have hs:m++32::47::47::r=m.take (bz az m)++(m.drop (bz az m)++32::47::47::r):=by rw[←append_assoc,List.take_append_drop]
 rw[hs,je (x4 m)];obtain⟨x,hx⟩:∃x,m.drop (bz az m)=x:=⟨_,rfl⟩;rw[hx]at h ⊢
 have hslash:∀(p:Nat) (y:List Int),(bg p (47::47::y)).1=[]∧(bg p (47::47::y)).2.2=0:=by
  intro p y;have hb:bz az (47::47::y)=0:=by rw[jE];rfl
  rw[gJ (by rw[hb,drop_zero];unfold dF;simp[bAt])];exact⟨rfl,rfl⟩
 unfold dF at h;simp only[Bool.or_eq_true,Bool.and_eq_true,decide_eq_true_eq]at h
 match x,h with
 |[],_ =>
  have:=je (bs:=[32]) (x:=47::47::r) (by simp[az]) (q+(m.take (bz az m)).length);rw[nil_append,show(32:Int)::47::47::r=[32]++47::47::r from rfl,this];exact hslash _ _
 |[a],h=>simp at h
 |a::b::y,h =>
  have h2:a=47∧b=47:=by
   rcases h with h | ⟨⟨_,h1⟩,h2⟩
   ·simp at h
   ·exact⟨h1,h2⟩
  obtain⟨rfl,rfl⟩:=h2;exact hslash _ _
theorem Ys {l:List Int}{bl:Nat→List Int}{tail:List Int}(hbl:∀i,∀c∈bl i,az c=true)(ht:∃r,tail=32::47::47::r)(he:∀l e,fT l=.error e→e≠0) :
  ∀(ts:List Tok) (t:Tok) (p:Nat) (i n:Nat),p≤l.length→bg p (l.drop p)=(t::ts,n,0)→∀q,(bg q (pcs l bl i (t::ts)++tail)).1.map bare=(t::ts).map bare∧(bg q (pcs l bl i (t::ts)++tail)).2.2=0
 |ts,t,p,i,n,hp,h,q=>by
  obtain⟨t0,n1,hd,ho,rfl,hr⟩:=lr h;obtain⟨k,hk⟩:∃k,bz az (l.drop p)=k:=⟨_,rfl⟩;rw[hk]at hd ho hr ⊢;rw[drop_drop]at hd ho hr;rw[←Nat.add_assoc]at hr;obtain⟨m1,hm1⟩:∃m1,l.drop (p+k)=m1:=⟨_,rfl⟩;rw[hm1]at hd ho
  have h0:m1.length≠0:=fun e=>by
   have:dF m1=true:=by unfold dF;rw[e];rfl
   rw[this]at hd;cases hd
  have hn:=kQ h0 ho;have hl1:m1.length=l.length-(p+k):=by rw[←hm1,length_drop]
  have hdd:l.drop (p+k+n1)=m1.drop n1:=by rw[←drop_drop,hm1]
  have hpos:(((p+k:Nat):Int)).toNat=p+k:=toNat_natCast _;rw[pcs,hpos,hm1,append_assoc,je (hbl i)];generalize q+(bl i).length=q2;cases ts with
  |nil =>
   rw[pcs,List.append_nil,AC,List.take_of_length_le (by omega)]
   have hB:Gw (m1.drop n1) (m1.drop n1++tail):=by
    obtain⟨r,rfl⟩:=ht;cases hx:m1.drop n1 with
    |nil=>exact .inr (.inl rfl)
    |cons c y=>exact .inr (.inr ⟨by simp,rfl⟩)
   obtain⟨g1,g2,g3⟩:=Fo (J6 hn.2 hB) h0 hd ho;rw[show m1.take n1++(m1.drop n1++tail)=m1++tail by rw[←append_assoc,List.take_append_drop]]at g1 g2 g3;rw[tf g3 g2 g1];have hdr:(m1++tail).drop n1=m1.drop n1++tail:=List.drop_append_of_le_length hn.2;rw[hdr];rw[hdd]at hr;obtain⟨f1,f2⟩:=K2 (Jf hr he) ht (q2+n1);exact⟨by simp only[List.map_cons,f1,List.map_nil];rfl,f2⟩
  |cons t2 ts2 =>
   obtain⟨t20,n2,hd2,ho2,e2,hr2⟩:=lr hr;obtain⟨k2,hk2⟩:∃k2,bz az (l.drop (p+k+n1))=k2:=⟨_,rfl⟩
   have hk2l:k2≤m1.length-n1:=by
    have:bz az (l.drop (p+k+n1))≤(l.drop (p+k+n1)).length:=lR _ _;rw[hdd,length_drop]at this;rw[←hk2,hdd];exact this
   have ep:AC l (t2::ts2)-(p+k)=n1+k2:=by
    unfold AC;rw[e2,hk2];simp only[toNat_natCast];omega
   rw[ep];have htk:m1.take (n1+k2)=m1.take n1++(m1.drop n1).take k2:=by rw[List.take_add]
   have hbk:∀c∈(m1.drop n1).take k2,az c=true:=by rw[←hdd,←hk2];exact x4 _
   rw[htk,append_assoc,append_assoc]
   have hne:m1.drop n1≠[]:=by
    intro e;have:dF ((l.drop (p+k+n1)).drop (bz az (l.drop (p+k+n1))))=true:=by rw[hdd,e];rfl
    rw[this]at hd2;cases hd2
   have hn1:n1<m1.length:=by
    rcases lt_or_ge n1 m1.length with h1 | h1
    ·exact h1
    ·exact absurd (List.drop_eq_nil_of_le h1) hne
   have hB:Gw (m1.drop n1) ((m1.drop n1).take k2++(pcs l bl (i+1) (t2::ts2)++tail)):=by
    rcases Nat.eq_zero_or_pos k2 with z | z
    ·subst z;rw[List.take_zero,nil_append,pcs];cases hb:bl (i+1) with
     |cons c y=>exact .inr (.inl (hbl (i+1) c (by rw[hb];simp)))
     |nil =>
      refine .inr (.inr ⟨hne,?_⟩);have hp2:t2.pos.toNat=p+k+n1:=by rw[e2,hk2];simp only[toNat_natCast,Nat.add_zero]
      rw[nil_append,hp2,hdd,append_assoc]
      have hn2:=kQ (l:=(l.drop (p+k+n1)).drop (bz az (l.drop (p+k+n1)))) (fun e=>by
       have:dF ((l.drop (p+k+n1)).drop (bz az (l.drop (p+k+n1))))=true:=by unfold dF;rw[e];rfl
       rw[this]at hd2;cases hd2) ho2
      have hend:0<AC l ts2-(p+k+n1):=by
       cases ts2 with
       |nil=>show 0<l.length-(p+k+n1);omega
       |cons t3 ts3 =>
        obtain⟨_,n3,_,_,e3,_⟩:=lr hr2;show 0<t3.pos.toNat-(p+k+n1);rw[e3];simp only[toNat_natCast];omega
      have hl3:0<((m1.drop n1).take (AC l ts2-(p+k+n1))).length:=by rw[length_take,length_drop];omega
      rw[kN hl3,nU hend]
    ·have hl3:0<((m1.drop n1).take k2).length:=by rw[length_take,length_drop];omega
     exact .inr (.inr ⟨hne,by rw[kN hl3,nU z]⟩)
   obtain⟨g1,g2,g3⟩:=Fo (J6 hn.2 hB) h0 hd ho;rw[tf g3 g2 g1]
   have hdr:(m1.take n1++((m1.drop n1).take k2++(pcs l bl (i+1) (t2::ts2)++tail))).drop n1=(m1.drop n1).take k2++(pcs l bl (i+1) (t2::ts2)++tail):=by
    have:(m1.take n1).length=n1:=by rw[length_take];omega
    rw[List.drop_append_of_le_length (by omega),List.drop_of_length_le (by omega),nil_append]
   rw[hdr,je hbk];have ih:=Ys (tail:=tail) hbl ht he ts2 t2 (p+k+n1) (i+1) n (by omega) hr (q2+n1+((m1.drop n1).take k2).length);exact⟨by rw[List.map_cons,ih.1];rfl,ih.2⟩
termination_by ts=>ts.length
def Nw (l:List Int):List Tok→Prop
 |[]=>True
 |t::ts=>(∃a:Nat,t.pos=(a:Int)∧a≤AC l ts)∧AC l ts≤l.length∧Nw l ts
theorem wU {l:List Int}:∀(ts:List Tok) (p n:Nat) (e:Int),p≤l.length→bg p (l.drop p)=(ts,n,e)→Nw l ts∧p≤AC l ts∧AC l ts≤l.length∧ts.length≤l.length-p
 |[],p,n,e,hp,h=>⟨trivial,hp,Nat.le_refl _,zero_le _⟩
 |t::ts,p,n,e,hp,h=>by
  obtain⟨t0,n1,hd,ho,rfl,hr⟩:=lr h;have hk:bz az (l.drop p)≤(l.drop p).length:=lR _ _;rw[length_drop]at hk
  have h0:((l.drop p).drop (bz az (l.drop p))).length≠0:=fun e=>by
   have:dF ((l.drop p).drop (bz az (l.drop p)))=true:=by unfold dF;rw[e];rfl
   rw[this]at hd;cases hd
  have hn:=kQ h0 ho;rw[length_drop,length_drop]at hn;rw[drop_drop,←Nat.add_assoc]at hr;obtain⟨g1,g2,g3,g4⟩:=wU ts (p+bz az (l.drop p)+n1) n e (by omega) hr;refine⟨⟨⟨_,rfl,by omega⟩,g3,g1⟩,?_,?_,?_⟩
  ·show p≤(((p+bz az (l.drop p):Nat):Int)).toNat;rw[toNat_natCast];omega
  ·show(((p+bz az (l.drop p):Nat):Int)).toNat≤_;rw[toNat_natCast];omega
  ·rw[List.length_cons];omega
theorem sX:∀(N:Nat) (x b:List Int) (n:Nat),x.length≤N→quotesL x=some (b,n)→b.length+1≤n
 |0,x,b,n,hx,h=>by
  obtain rfl:x=[]:=List.eq_nil_of_length_eq_zero (by omega);rw[iw rfl]at h;cases h
 |N+1,x,b,n,hx,h=>by
  cases hq:eQ x with
  |stop =>
   rw[iM hq]at h;injection h with h;injection h with h1 h2;subst h1;subst h2;exact Nat.le_refl _
  |bad=>rw[iw hq]at h;cases h
  |put c k =>
   have hk:=mD hq;rw[jC hq]at h;cases hr:quotesL (x.drop k) with
   |none=>rw[hr]at h;cases h
   |some p =>
    obtain⟨b',n'⟩:=p;rw[hr]at h;injection h with h;injection h with h1 h2;simp only at h1 h2;subst h1;subst h2;have:=sX N (x.drop k) b' n' (by rw[length_drop];omega) hr;rw[List.length_cons];omega
theorem Gm {m:List Int}(hr:∀z∈m,0≤z∧z≤255)(n:Nat):aa (aj (m.take n))=m.take n:=bj fun z hz=>hr z (List.mem_of_mem_take hz)
theorem vJ (m:List Int)(n:Nat):(aj (m.take n)).size=min n m.length:=by rw[fH,length_take]
theorem Tb {m:List Int}(hr:∀z∈m,0≤z∧z≤255)(hl:m.length≤512)(h0:m.length≠0){t:Tok}{n:Nat}(h:fT m=.ok (t,n)):isT t=true∧(t.n=0∨t.kind=2):=by
 have hn:=kQ h0 h;unfold fT at h;split at h
 ·rename_i hl;injection h with h;injection h with h1 h2;subst h1;refine⟨?_,.inl rfl⟩;unfold isT;rw[if_pos rfl];simp only[Gm hr];unfold eK;have h2':bz wordyB m=n:=h2;have hlen:(m.take (bz wordyB m)).length=n:=by rw[length_take];omega
  have hrun:bz wordyB (m.take (bz wordyB m))=n:=pK _ _ _ (by omega) (fun i hi=>by rw[nU (by omega)];exact pL _ _ _ (by omega)) (fun h=>by omega);rw[hlen,hrun,nU (by omega),hl];simp;omega
 ·split at h
  ·split at h
   ·cases h
   ·injection h with h;injection h with h1 h2;subst h1;exact⟨by unfold isT;rw[if_neg (by simp),if_pos rfl];exact decide_eq_true rfl,.inr rfl⟩
  ·split at h
   ·split at h
    ·cases h
    ·rename_i hc;injection h with h;injection h with h1 h2;subst h1;refine⟨?_,.inl rfl⟩;unfold isT;rw[if_neg (by simp),if_neg (by simp),if_pos rfl];refine decide_eq_true ?_;simp only;rw[fH];unfold cv at hc ⊢;cases hq:quotesL (m.drop 1) with
     |none=>rw[hq]at hc;simp at hc
     |some p =>
      obtain⟨b,k⟩:=p;have h1:=sX _ _ _ _ (Nat.le_refl _) hq;have h2:=pE _ _ (Nat.le_refl _) hq;rw[length_drop]at h2;simp only;omega
   ·split at h
    ·cases h
    ·rename_i hc;injection h with h;injection h with h1 h2;subst h1;refine⟨?_,.inl rfl⟩;unfold isT;rw[if_neg (by simp),if_neg (by simp),if_neg (by simp),if_pos rfl];refine decide_eq_true ?_;simp only;have hsl:=zT m;rw[Gm hr,vJ,Nat.min_eq_left hsl];refine⟨by omega,?_⟩;obtain⟨w,hw⟩:∃w,m.take (bI m)=w:=⟨_,rfl⟩;have hwl:w.length=bI m:=by rw[←hw,length_take];omega
     have hwa:∀i,i<bI m→bAt w i=bAt m i:=fun i hi=>by rw[←hw];exact nU hi
     rw[hw];by_cases c1:1<m.length∧(bAt m 0=60∧bAt m 1=60∨bAt m 0=62∧bAt m 1=62)
     ·have hm:bI m=2:=by unfold bI;rw[if_pos c1]
      rw[hm]at hwl hwa;rw[hm];unfold bI;rw[if_pos ⟨by omega,by rw[hwa 0 (by omega),hwa 1 (by omega)];exact c1.2⟩]
     ·have c2:0<m.length∧bAt m 0∈qY:=by
       unfold bI at hc;rw[if_neg c1]at hc;split at hc
       ·assumption
       ·exact absurd rfl hc
      have hm:bI m=1:=by unfold bI;rw[if_neg c1,if_pos c2]
      rw[hm]at hwl hwa;rw[hm];unfold bI;rw[nG,if_pos ⟨by omega,by rw[hwa 0 (by omega)];exact c2.2⟩]
theorem L9 {m:List Int}(hl:m.length≤512)(h0:m.length≠0){t:Tok}{n:Nat}(h:fT m=.ok (t,n)):t.text.size≤512:=by
 have hn:=kQ h0 h;unfold fT at h;split at h
 ·injection h with h;injection h with h1 h2;subst h1;simp only;rw[vJ];omega
 ·split at h
  ·split at h
   ·cases h
   ·injection h with h;injection h with h1 h2;subst h1;exact zero_le _
  ·split at h
   ·split at h
    ·cases h
    ·rename_i hc;injection h with h;injection h with h1 h2;subst h1;simp only;rw[fH];unfold cv at hc ⊢;cases hq:quotesL (m.drop 1) with
     |none=>rw[hq]at hc;simp at hc
     |some p =>
      obtain⟨b,k⟩:=p;have h1:=sX _ _ _ _ (Nat.le_refl _) hq;have h2:=pE _ _ (Nat.le_refl _) hq;rw[length_drop]at h2;simp only;omega
   ·split at h
    ·cases h
    ·injection h with h;injection h with h1 h2;subst h1;simp only;rw[vJ];omega
def Rises (len:Nat):Nat→List Tok→Prop
 |_,[]=>True
 |p,t::ts=>(cN t=0∧t.text.size≤512)∧∃a:Nat,t.pos=(a:Int)∧p≤a∧a<len∧Rises len (a+1) ts
theorem Rises.mono {len:Nat}:∀{ts:List Tok} {p q:Nat},q≤p→Rises len p ts→Rises len q ts
 |[],_,_,_,_=>trivial
 |_::_,_,_,hq,⟨h1,a,h2,h3,h4,h5⟩=>⟨h1,a,h2,by omega,h4,h5⟩
theorem rb {l:List Int}(hr:∀z∈l,0≤z∧z≤255)(hl:l.length≤512):∀(ts:List Tok) (p n:Nat) (e:Int),p≤l.length→bg p (l.drop p)=(ts,n,e)→Rises l.length p ts
 |[],_,_,_,_,_=>trivial
 |t::ts,p,n,e,hp,h=>by
  obtain⟨t0,n1,hd,ho,rfl,hrest⟩:=lr h;have hk:bz az (l.drop p)≤(l.drop p).length:=lR _ _;rw[length_drop]at hk
  have h0:((l.drop p).drop (bz az (l.drop p))).length≠0:=fun e=>by
   have:dF ((l.drop p).drop (bz az (l.drop p)))=true:=by unfold dF;rw[e];rfl
   rw[this]at hd;cases hd
  have hn:=kQ h0 ho;have hm:=Tb (fun z hz=>hr z (List.mem_of_mem_drop (List.mem_of_mem_drop hz))) (by rw[length_drop,length_drop];omega) h0 ho;rw[length_drop,length_drop]at hn;rw[drop_drop,←Nat.add_assoc]at hrest;have ih:=rb hr hl ts (p+bz az (l.drop p)+n1) n e (by omega) hrest;refine⟨?_,_,rfl,by omega,by omega,ih.mono (by omega)⟩;have hsm:=L9 (by rw[length_drop,length_drop];omega) h0 ho;refine⟨?_,hsm⟩;unfold cN;have hi:isT { t0 with pos:=((p+bz az (l.drop p):Nat):Int) }=isT t0:=rfl;rw[hi,if_pos ⟨hm.1,Int.natCast_nonneg _,hm.2⟩]
def lq:mT Tok where
 dec:=fun | [.v (.int .i64 k),.v (.string s),.v (.int .u64 n),.v (.int .i64 p)]=>some ⟨k,s,n,p⟩ | _=>none
 enc:=fun t=>[.v (.int .i64 t.kind),.v (.string t.text),.v (.int .u64 t.n),.v (.int .i64 t.pos)]
 inv:=by
  intro c x h;split at h
  ·injection h with h;subst h;rfl
  ·cases h
 back:=by intro x;rfl
theorem lp (t:Tok):lq.enc t=[.v (.int .i64 t.kind),.v (.string t.text),.v (.int .u64 t.n),.v (.int .i64 t.pos)]:=rfl
def zW:ByteArray:=⟨#[44,91,93,33,35,58,43,45,42,47,37,38,124,94,126,40,41,61]⟩
def ca (l:List Int):Blk:=⟨true,5,1,l.map ay⟩
theorem Ej (l:List Int):aZ lL (l.map ay)=some l:=jq Ei l
def qT (l:List Int):AV:=.tup [.l (.v (.string (aj (cv l).1))),.l (.v (.int .i64 (cv l).2))]
def FC (s:ByteArray)(i:Nat)(l:List Int):Prop:=1≤i∧(i≤s.size∨i=1)∧l.length≤i∧quotesL ((aa s).drop 1)=(quotesL ((aa s).drop i)).map fun p=>(l++p.1,i-1+p.2)
theorem BW {s:ByteArray}{i:Nat}{l:List Int}(h:FC s i l){x:Int}{k:Nat}(hq:eQ ((aa s).drop i)=.put x k):FC s (i+k) (l++[x]):=by
 obtain⟨h1,h2,h3,h4⟩:=h;have hk:=mD hq;rw[length_drop,ae]at hk;refine⟨by omega,by omega,by simp;omega,?_⟩;rw[h4,jC hq,drop_drop];cases quotesL ((aa s).drop (i+k)) with
 |none=>rfl
 |some p=>simp;omega
theorem Iv {s:ByteArray}{i:Nat}{l:List Int}(h:FC s i l)(hq:eQ ((aa s).drop i)=.stop):cv (aa s)=(l,i+1):=by
 obtain⟨h1,h2,h3,h4⟩:=h;unfold cv;rw[h4,iM hq];simp;omega
theorem vv {s:ByteArray}{i:Nat}{l:List Int}(h:FC s i l)(hq:eQ ((aa s).drop i)=.bad):cv (aa s)=([],0):=by
 obtain⟨h1,h2,h3,h4⟩:=h;unfold cv;rw[h4,iw hq];rfl
theorem vk (base:Int)(l:List Int)(c:Int):bW base (l++[c])=bW base l*base+aM c:=by
 unfold bW;rw[List.foldl_append];rfl
def lU (t:Tok):SV:=.agg [.v (.int .i64 t.kind),.v (.string t.text),.v (.int .u64 t.n),.v (.int .i64 t.pos)]
def qE (r:Except Int (Tok×Nat)):AV:=match r with
 |.ok p=>.tup [lU p.1,.l (.v (.int .i64 p.2)),.l (.v (.int .i64 0))]
 |.error e=>.tup [lU ⟨0,emp,0,0⟩,.l (.v (.int .i64 0)),.l (.v (.int .i64 e))]
def wV (l:List Tok):SV:=.l (.d (.sd 4 (l.map lq.enc)))
def Gn (l:List Tok):Blk:=⟨true,137,4,(l.map lq.enc).map bu⟩
def Ff:SV:=.l (.v (.slice none 0 0))
def rO (r:List Tok×Nat×Int)(long:Bool):AV:=.tup [if long=true then Ff else wV r.1,.l (.v (.int .i64 r.2.1)),.l (.v (.int .i64 r.2.2))]
def j6 (l:List Int):Bool:=decide (512<l.length)
theorem PB {l:List Int}{e:Int}(h:fT l=.error e):e=80∨e=81∨e=82:=by
 unfold fT at h;split at h
 ·cases h
 ·split at h
  ·split at h
   ·injection h with h;omega
   ·cases h
  ·split at h
   ·split at h
    ·injection h with h;omega
    ·cases h
   ·split at h
    ·injection h with h;omega
    ·cases h
def Y0 (s:ByteArray)(p:Nat×List Tok):Prop:=p.1≤s.size∧p.2.length≤p.1∧bg 0 (aa s)=(p.2++(bg p.1 ((aa s).drop p.1)).1,(bg p.1 ((aa s).drop p.1)).2)
theorem Na (l:List Tok)(t:Tok):(l.map lq.enc).map bu++[[LV.v (.int .i64 t.kind),.v (.string t.text),.v (.int .u64 t.n),.v (.int .i64 t.pos)]]=((l++[t]).map lq.enc).map bu:=by
 rw[List.map_append,List.map_append];rfl
def ON (r:List Tok×Nat×Int):AV:=if r.2.2=0 then .tup [wV r.1,.l (.v (.int .i64 r.2.1)),.l (.v (.int .i64 0))] else .tup [Ff,.l (.v (.int .i64 r.2.1)),.l (.v (.int .i64 r.2.2))]
namespace Lx
def bA (l:List Int):AV:=.tup [.l (.v (.int .u64 (aT l).1)),.l (.v (.int .i64 (aT l).2))]
end Lx
end Go.Proofs.YtnhbidpdadkcjaaGreatDoor
