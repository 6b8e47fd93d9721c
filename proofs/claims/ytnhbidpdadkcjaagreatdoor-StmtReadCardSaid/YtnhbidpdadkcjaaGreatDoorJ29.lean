import Derived.Test.YtnhbidpdadkcjaaGreatDoorJ12
import Derived.Test.YtnhbidpdadkcjaaGreatDoorJ13
set_option linter.unusedVariables false
set_option linter.unusedSimpArgs false
set_option maxRecDepth 100000
set_option maxHeartbeats 8000000
open List (getD_eq_getElem?_getD length_drop drop_zero drop_drop length_take append_assoc nil_append)
open Nat (lt_or_ge zero_le)
open Int (toNat_natCast)
namespace Go.Proofs.YtnhbidpdadkcjaaGreatDoor
open Go.RowKit
def au (n:Int):Bool:=decide (n=32∨n=9)
def iF (n:Int):Bool:=decide (32≤n∧n≤126)
def aL (n:Int):Int:=if 48≤n∧n≤57 then n-48 else if 97≤n∧n≤102 then n-87 else if 65≤n∧n≤70 then n-55 else 16
theorem kD (n:Int):0≤aL n∧aL n≤16:=by unfold aL;split<;>(try split)<;>(try split)<;>omega
def bAt (l:List Int)(i:Nat):Int:=l.getD i 0
theorem DU {c:Int}{l:List Int}:bAt (c::l) 0=c:=rfl
theorem NP {c:Int}{l:List Int}{i:Nat}:bAt (c::l) (i+1)=bAt l i:=rfl
theorem gS (l:List Int)(i j:Nat):bAt (l.drop i) j=bAt l (i+j):=by
 unfold bAt;rw[getD_eq_getElem?_getD,getD_eq_getElem?_getD,List.getElem?_drop]
theorem xx {l:List Int}{i:Nat}(h:i<l.length):l[i]? = some (bAt l i):=by
 unfold bAt;rw[getD_eq_getElem?_getD,List.getElem?_eq_getElem h];rfl
theorem jq (s:ByteArray)(i:Nat):ab s i=bAt (aa s) i:=by
 rcases lt_or_ge i s.size with h | h
 ·have:=dz h;unfold bAt;rw[getD_eq_getElem?_getD (l:=aa s),this];rfl
 ·unfold bAt ab;have h1:s.data.toList.length≤i:=by simpa using h
  have h2:(aa s).length≤i:=by rw[ae];exact h
  rw[getD_eq_getElem?_getD (l:=aa s),List.getElem?_eq_none h2,getD_eq_getElem?_getD,toNat_natCast,List.getElem?_eq_none h1];rfl
theorem gE (s:ByteArray):ab s 0=bAt (aa s) 0:=jq s 0
theorem wp (s:ByteArray):ab s 1=bAt (aa s) 1:=jq s 1
theorem wq (s:ByteArray):ab s 2=bAt (aa s) 2:=jq s 2
theorem dr (s:ByteArray)(i:Nat):aa (s.extract i s.size)=(aa s).drop i:=by
 rw[cB,List.take_of_length_le];rw[length_drop,ae];exact Nat.le_refl _
theorem qa (s:ByteArray)(j:Nat):aa (s.extract 0 j)=(aa s).take j:=by
 rw[cB,drop_zero,Nat.sub_zero]
theorem tU (s:ByteArray)(j:Nat):s.extract 0 j=aj ((aa s).take j):=by
 rw[←qa,fD]
theorem KU {l:List Int}{i:Nat}(h:i<l.length):l.drop i=bAt l i::l.drop (i+1):=by
 rw[List.drop_eq_getElem_cons h];have:=xx h;rw[List.getElem?_eq_getElem h]at this;injection this with this;rw[this]
def br (g:Int→Bool)(l:List Int):Nat:=(l.takeWhile g).length
theorem Qv (g:Int→Bool):br g []=0:=rfl
theorem iU (g:Int→Bool)(c:Int)(l:List Int):br g (c::l)=if g c=true then 1+br g l else 0:=by
 unfold br;rw[List.takeWhile_cons];split<;>simp[Nat.add_comm]
theorem lU (g:Int→Bool)(l:List Int):br g l≤l.length:=(List.takeWhile_sublist g).length_le
theorem ME (g:Int→Bool)(l:List Int)(i:Nat)(h:i<l.length):br g (l.drop i)=if g (bAt l i)=true then 1+br g (l.drop (i+1)) else 0:=by
 rw[KU h,iU]
theorem Qu (g:Int→Bool)(l:List Int)(i:Nat)(h:l.length≤i):br g (l.drop i)=0:=by
 rw[List.drop_eq_nil_of_le h];rfl
theorem pW (g:Int→Bool):∀(l:List Int) (i:Nat),i<br g l→g (bAt l i)=true
 |[],i,h=>by simp[Qv]at h
 |c::l,i,h=>by
  rw[iU]at h;split at h
  ·rename_i hc;cases i with
   |zero=>exact hc
   |succ i=>exact pW g l i (by omega)
  ·omega
theorem vQ (g:Int→Bool):∀(l:List Int),br g l<l.length→g (bAt l (br g l))=false
 |[],h=>by simp at h
 |c::l,h=>by
  rw[iU]at h ⊢;split
  ·rename_i hc;rw[if_pos hc]at h;rw[Nat.add_comm,NP];exact vQ g l (by simp at h;omega)
  ·rename_i hc;simpa[bAt] using hc
theorem pV (g:Int→Bool)(l:List Int)(k:Nat)(hk:k≤l.length)(hin:∀i,i<k→g (bAt l i)=true)(hst:k<l.length→g (bAt l k)=false):br g l=k:=by
 rcases Nat.lt_trichotomy (br g l) k with h | h | h
 ·have:=vQ g l (by omega);rw[hin _ h]at this;cases this
 ·exact h
 ·have h1:=pW g l k h;rw[hst (by have:=lU g l;omega)]at h1;cases h1
def da (l:List Int):Bool:=decide (0<l.length)&&bV (bAt l 0)&&decide (br wordyB l=l.length)
def rj:List Int:=[44,91,93,33,35,58,43,45,42,47,37,38,124,94,126,40,41,61]
def bD (l:List Int):Nat :=
 if 1<l.length∧(bAt l 0=60∧bAt l 1=60∨bAt l 0=62∧bAt l 1=62) then 2
 else if 0<l.length∧bAt l 0∈rj then 1 else 0
theorem zZ (l:List Int):bD l≤l.length:=by unfold bD;split<;>(try split)<;>omega
def di (c:Int):Int:=if c=0 then 48 else if c=9 then 116 else if c=10 then 110 else if c=13 then 114 else if c=34∨c=92 then c else 0
def j3 (c:Int):Int:=if c<10 then 48+c else 87+c
def dC (c:Int):List Int:=if di c≠0 then[92,di c] else if iF c=true then[c] else[92,120,j3 (c / 16),j3 (c % 16)]
def eC (l:List Int):List Int:=l.flatMap dC
def eD (l:List Int):List Int:=34::(eC l++[34])
def ER (c:Int):Option Int:=if c=48 then some 0 else if c=116 then some 9 else if c=110 then some 10 else if c=114 then some 13 else if c=34∨c=92 then some c else none
def mT (l:List Int):Option (Int×Nat) :=
 if l.length=0 then none else
 match ER (bAt l 0) with
 |some x=>some (x,1)
 |none=>if 2<l.length∧bAt l 0=120∧aL (bAt l 1)<16∧aL (bAt l 2)<16 then some (16*aL (bAt l 1)+aL (bAt l 2),3) else none
inductive QS where
 |stop
 |bad
 |put (x:Int) (k:Nat)
def e7 (l:List Int):QS :=
 if l.length=0 then .bad else
 if bAt l 0=34 then .stop else
 if bAt l 0=92 then match mT (l.drop 1) with
  |some (x,n)=>.put x (n+1)
  |none=>.bad
 else if iF (bAt l 0)=true then .put (bAt l 0) 1 else .bad
theorem CQ {l:List Int}{x:Int}{n:Nat}(h:mT l=some (x,n)):1≤n∧n≤l.length:=by
 unfold mT at h;split at h
 ·cases h
 ·split at h
  ·injection h with h;injection h with h1 h2;omega
  ·split at h
   ·injection h with h;injection h with h1 h2;omega
   ·cases h
theorem mG {l:List Int}{x:Int}{k:Nat}(h:e7 l=.put x k):1≤k∧k≤l.length:=by
 unfold e7 at h;split at h
 ·cases h
 ·split at h
  ·cases h
  ·split at h
   ·split at h
    ·rename_i h1;injection h with h2 h3;have:=CQ h1;rw[length_drop]at this;omega
    ·cases h
   ·split at h
    ·injection h with h2 h3;omega
    ·cases h
def quotesL (l:List Int):Option (List Int×Nat) :=
 match h:e7 l with
 |.stop=>some ([],1)
 |.bad=>none
 |.put x k=>match quotesL (l.drop k) with
  |some (b,n)=>some (x::b,k+n)
  |none=>none
termination_by l.length
decreasing_by
 have:=mG h;rw[length_drop];omega
theorem iT {l:List Int}(h:e7 l=.stop):quotesL l=some ([],1):=by
 rw[quotesL];split
 ·rfl
 ·rename_i e;rw[h]at e;cases e
 ·rename_i e;rw[h]at e;cases e
theorem iC {l:List Int}(h:e7 l=.bad):quotesL l=none:=by
 rw[quotesL];split
 ·rename_i e;rw[h]at e;cases e
 ·rfl
 ·rename_i e;rw[h]at e;cases e
theorem jH {l:List Int}{x:Int}{k:Nat}(h:e7 l=.put x k):quotesL l=(quotesL (l.drop k)).map fun p=>(x::p.1,k+p.2):=by
 rw[quotesL];split
 ·rename_i e;rw[h]at e;cases e
 ·rename_i e;rw[h]at e;cases e
 ·rename_i e;rw[h]at e;injection e with e1 e2;subst e1;subst e2;cases quotesL (l.drop k)<;>rfl
def cq (l:List Int):List Int×Nat :=
 match quotesL (l.drop 1) with
 |some (b,n)=>(b,n+1)
 |none=>([],0)
def bU (base:Int)(l:List Int):Int:=l.foldl (fun n c=>n*base+aL c) 0
def fJ (l:List Int):Int:=if 1<l.length∧bAt l 0=48∧bAt l 1=120 then 16 else if 1<l.length∧bAt l 0=48∧bAt l 1=98 then 2 else 10
def cN (l:List Int):Nat:=if 1<l.length∧bAt l 0=48∧(bAt l 1=120∨bAt l 1=98) then 2 else 0
def bP (base:Int)(l:List Int):Nat:=br (fun c=>decide (aL c<base)) l
def aT (l:List Int):Int×Nat :=
 if bAt l 0=39 then
  if 3≤l.length∧bAt l 2=39∧iF (bAt l 1)=true∧bAt l 1≠39∧bAt l 1≠92 then(bAt l 1,3) else(0,0)
 else if bP (fJ l) (l.drop (cN l))=0∨cN l=0∧1<bP (fJ l) (l.drop (cN l))∧bAt l 0=48 then(0,0)
 else if 18446744073709551616≤bU (fJ l) ((l.drop (cN l)).take (bP (fJ l) (l.drop (cN l)))) then(0,0)
 else(bU (fJ l) ((l.drop (cN l)).take (bP (fJ l) (l.drop (cN l)))),cN l+bP (fJ l) (l.drop (cN l)))
def fq (l:List Int):Except Int (Tok×Nat) :=
 if bV (bAt l 0)=true then .ok (⟨1,aj (l.take (br wordyB l)),0,0⟩,br wordyB l)
 else if eU (bAt l 0)=true∨bAt l 0=39 then
  if(aT l).2=0∨(aT l).2<l.length∧wordyB (bAt l (aT l).2)=true then .error 81 else .ok (⟨2,emp,(aT l).1,0⟩,(aT l).2)
 else if bAt l 0=34 then
  if(cq l).2=0 then .error 82 else .ok (⟨3,aj (cq l).1,0,0⟩,(cq l).2)
 else if bD l=0 then .error 80 else .ok (⟨4,aj (l.take (bD l)),0,0⟩,bD l)
theorem pO:∀(N:Nat) (l:List Int),l.length≤N→∀{b:List Int} {n:Nat},quotesL l=some (b,n)→1≤n∧n≤l.length
 |0,l,hl,b,n,h=>by
  obtain rfl:l=[]:=List.eq_nil_of_length_eq_zero (by omega);rw[iC rfl]at h;cases h
 |N+1,l,hl,b,n,h=>by
  cases hq:e7 l with
  |stop =>
   rw[iT hq]at h;injection h with h;injection h with h1 h2;have:l.length≠0:=fun e=>by rw[List.eq_nil_of_length_eq_zero e]at hq;cases hq
   omega
  |bad=>rw[iC hq]at h;cases h
  |put x k =>
   have hk:=mG hq;rw[jH hq]at h;cases hr:quotesL (l.drop k) with
   |none=>rw[hr]at h;cases h
   |some p =>
    obtain⟨b',n'⟩:=p;have:=pO N (l.drop k) (by rw[length_drop];omega) hr;rw[hr]at h;injection h with h;injection h with h1 h2;rw[length_drop]at this;simp only at h2;omega
theorem Iq {l:List Int}(h:l.length≠0):(cq l).2≤l.length:=by
 unfold cq;split
 ·rename_i e;have:=pO _ _ (Nat.le_refl _) e;rw[length_drop]at this;show _+1≤_;omega
 ·exact zero_le _
theorem HH (l:List Int):(aT l).2≤l.length:=by
 have hr:bP (fJ l) (l.drop (cN l))≤(l.drop (cN l)).length:=lU _ _;have hh:cN l≤l.length:=by unfold cN;split<;>omega
 rw[length_drop]at hr;unfold aT;split
 ·split
  ·rename_i h;exact h.1
  ·exact zero_le _
 ·split
  ·exact zero_le _
  ·split
   ·exact zero_le _
   ·show _+_≤_;omega
theorem kS {l:List Int}(h0:l.length≠0){t:Tok}{n:Nat}(h:fq l=.ok (t,n)):1≤n∧n≤l.length:=by
 unfold fq at h;split at h
 ·rename_i hc;injection h with h;injection h with h1 h2;subst h2;refine⟨?_,lU _ _⟩;cases l with
  |nil=>exact absurd rfl h0
  |cons c r =>
   rw[iU,if_pos (by unfold wordyB;rw[show bV c=true from hc];rfl)];omega
 ·split at h
  ·split at h
   ·cases h
   ·injection h with h;injection h with h1 h2;have:=HH l;omega
  ·split at h
   ·split at h
    ·cases h
    ·injection h with h;injection h with h1 h2;have:=Iq h0;omega
   ·split at h
    ·cases h
    ·injection h with h;injection h with h1 h2;have:=zZ l;omega
def dj (l:List Int):Bool:=decide (l.length=0)||(decide (1<l.length)&&decide (bAt l 0=47)&&decide (bAt l 1=47))
def aZ (at_:Nat)(l:List Int):List Tok×Nat×Int :=
 let k:=br au l
 if h0:dj (l.drop k)=true then([],at_+l.length,0) else
 match h:fq (l.drop k) with
 |.error e=>([],at_+k,e)
 |.ok (t,n) =>
  let r:=aZ (at_+k+n) ((l.drop k).drop n)
  ({ t with pos:=((at_+k:Nat):Int) }::r.1,r.2)
termination_by l.length
decreasing_by
 have h1:(l.drop (br au l)).length≠0:=fun e=>h0 (by unfold dj;rw[e];rfl);have:=kS h1 h;rw[length_drop,length_drop];rw[length_drop]at h1 this;omega
theorem gQ {p:Nat}{l:List Int}(h:dj (l.drop (br au l))=true):aZ p l=([],p+l.length,0):=by
 rw[aZ];simp only[h,dite_true]
theorem jh {p:Nat}{l:List Int}{e:Int}(h0:dj (l.drop (br au l))=false)(h:fq (l.drop (br au l))=.error e):aZ p l=([],p+br au l,e):=by
 rw[aZ];simp only[h0,Bool.false_eq_true,dite_false];split
 ·rename_i e1;rw[h]at e1;injection e1 with e1;rw[e1]
 ·rename_i e1;rw[h]at e1;cases e1
theorem jA {p:Nat}{l:List Int}{t:Tok}{n:Nat}(h0:dj (l.drop (br au l))=false)(h:fq (l.drop (br au l))=.ok (t,n)) :
  aZ p l=({ t with pos:=((p+br au l:Nat):Int) }::(aZ (p+br au l+n) (l.drop (br au l+n))).1,(aZ (p+br au l+n) (l.drop (br au l+n))).2):=by
 rw[aZ];simp only[h0,Bool.false_eq_true,dite_false];split
 ·rename_i e1;rw[h]at e1;cases e1
 ·rename_i e1;rw[h]at e1;injection e1 with e1;injection e1 with e1 e2;subst e1;subst e2;rw[drop_drop]
def fy (l:List Int):List Tok×Nat×Int:=if 512<l.length then([],0,3) else aZ 0 l
def isT (t:Tok):Bool :=
 if t.kind=1 then da (aa t.text) else if t.kind=2 then decide (t.text=emp) else if t.kind=3 then decide (t.text.size≤512) else if t.kind=4 then decide (0<t.text.size∧bD (aa t.text)=t.text.size) else false
def cP (t:Tok):Int:=if isT t=true∧0≤t.pos∧(t.n=0∨t.kind=2) then 0 else 1
theorem J6 {a b:Tok}(h1:a.kind=b.kind)(h2:a.text=b.text)(h3:a.n=b.n)(h4:a.pos=b.pos):a=b:=by
 cases a;cases b;simp only at h1 h2 h3 h4;subst h1;subst h2;subst h3;subst h4;rfl
instance tokDec:DecidableEq Tok:=fun a b =>
 if h:a.kind=b.kind∧a.text=b.text∧a.n=b.n∧a.pos=b.pos then isTrue (J6 h.1 h.2.1 h.2.2.1 h.2.2.2) else isFalse fun e=>h (by rw[e];exact⟨rfl,rfl,rfl,rfl⟩)
theorem kP {a v:List Int}{i:Nat}(h:i<a.length):bAt (a++v) i=bAt a i:=by
 unfold bAt;rw[getD_eq_getElem?_getD,getD_eq_getElem?_getD,List.getElem?_append_left h]
theorem x7 {a v:List Int}:bAt (a++v) a.length=bAt v 0:=by
 unfold bAt;rw[getD_eq_getElem?_getD,getD_eq_getElem?_getD,List.getElem?_append_right (Nat.le_refl _),Nat.sub_self]
theorem oc {l:List Int}{n i:Nat}(h:i<n):bAt (l.take n) i=bAt l i:=by
 unfold bAt;rw[getD_eq_getElem?_getD,getD_eq_getElem?_getD,List.getElem?_take_of_lt h]
theorem og {c:Int}(h:au c=true):wordyB c=false∧aL c=16∧c≠120∧c≠98∧c≠47:=by
 unfold au at h;have h1:c=32∨c=9:=by simpa using h
 rcases h1 with rfl | rfl<;>decide
def Gg (m v:List Int):Prop:=v=[]∨au (bAt v 0)=true∨(m≠[]∧bAt v 0=bAt m 0)
structure Gh (m:List Int)(n:Nat)(w:List Int):Prop where
 len:n≤m.length
 wlen:n≤w.length
 at_:∀i,i<n→bAt w i=bAt m i
 tak:w.take n=m.take n
 stop:n<w.length→au (bAt w n)=true∨(n<m.length∧bAt w n=bAt m n)
theorem JX {m v:List Int}{n:Nat}(hn:n≤m.length)(hv:Gg (m.drop n) v):Gh m n (m.take n++v):=by
 have hl:(m.take n).length=n:=by rw[length_take];omega
 refine⟨hn,by rw[List.length_append,hl];omega,fun i hi=>by rw[kP (by omega),oc hi],by rw[List.take_append_of_le_length (by omega),List.take_take,Nat.min_self],fun h=>?_⟩
 have e:bAt (m.take n++v) n=bAt v 0:=by
  have:=x7 (a:=m.take n) (v:=v)
  rwa [hl]at this
 rw[e];rcases hv with rfl | h1 | ⟨h1,h2⟩
 ·rw[List.append_nil,hl]at h;omega
 ·exact .inl h1
 ·refine .inr ⟨?_,?_⟩
  ·rcases lt_or_ge n m.length with h3 | h3
   ·exact h3
   ·exact absurd (List.drop_eq_nil_of_le h3) h1
  ·rw[h2,gS,Nat.add_zero]
theorem FU {g:Int→Bool}{m w:List Int}{n:Nat}(hg:∀c,au c=true→g c=false)(S:Gh m n w)(k:Nat)(hk:k≤n)(hr:br g (m.drop k)=n-k):br g (w.drop k)=n-k:=by
 refine pV g _ _ (by rw[length_drop];have:=S.wlen;omega) (fun i hi=>?_) (fun h=>?_)
 ·rw[gS,S.at_ _ (by omega),←gS];exact pW g _ _ (by omega)
 ·rw[length_drop]at h;rw[gS,show k+(n-k)=n by omega];rcases S.stop (by omega) with h1 | ⟨h1,h2⟩
  ·exact hg _ h1
  ·rw[h2];have:=vQ g (m.drop k) (by rw[hr,length_drop];omega)
   rwa [hr,gS,show k+(n-k)=n by omega]at this
theorem Nh {m w:List Int}{n:Nat}(S:Gh m n w)(h:¬(n<m.length∧wordyB (bAt m n)=true)):¬(n<w.length∧wordyB (bAt w n)=true):=by
 rintro⟨h1,h2⟩;rcases S.stop h1 with h3 | ⟨h3,h4⟩
 ·rw[(og h3).1]at h2;cases h2
 ·rw[h4]at h2;exact h ⟨h3,h2⟩
theorem On {x y:List Int}{c:Int}{k:Nat}(h:mT x=some (c,k))(hy:k≤y.length)(he:∀i,i<k→bAt y i=bAt x i):mT y=some (c,k):=by
 have hk:=CQ h;unfold mT at h ⊢;rw[nG];split at h
 ·cases h
 ·rw[he 0 (by omega)];split at h
  ·exact h
  ·rename_i hn;split at h
   ·rename_i h3;injection h with h;injection h with h1 h2;subst h2;rw[if_pos ⟨by omega,h3.2.1,by rw[he 1 (by omega)];exact h3.2.2.1,by rw[he 2 (by omega)];exact h3.2.2.2⟩,he 1 (by omega),he 2 (by omega),h1]
   ·cases h
theorem In {x y:List Int}{c:Int}{k:Nat}(h:e7 x=.put c k)(hy:k≤y.length)(he:∀i,i<k→bAt y i=bAt x i):e7 y=.put c k:=by
 have hk:=mG h;unfold e7 at h ⊢;rw[nG,he 0 (by omega)];split at h
 ·cases h
 ·split at h
  ·cases h
  ·rename_i h34;rw[if_neg h34];split at h
   ·rename_i h92;rw[if_pos h92];split at h
    ·rename_i c' n' hes;injection h with h1 h2;subst h2;have:=On hes (y:=y.drop 1) (by rw[length_drop];omega) (fun i hi=>by rw[gS,gS];exact he _ (by omega));rw[this,h1]
    ·cases h
   ·rename_i h92;rw[if_neg h92];exact h
theorem wQ:∀(N:Nat) (x y:List Int) (b:List Int) (n:Nat),x.length≤N→quotesL x=some (b,n)→n≤y.length→(∀i,i<n→bAt y i=bAt x i)→quotesL y=some (b,n)
 |0,x,y,b,n,hx,h,hy,he=>by
  obtain rfl:x=[]:=List.eq_nil_of_length_eq_zero (by omega);rw[iC rfl]at h;cases h
 |N+1,x,y,b,n,hx,h,hy,he=>by
  cases hq:e7 x with
  |stop =>
   rw[iT hq]at h;injection h with h;injection h with h1 h2;subst h1;subst h2
   have h34:x.length≠0∧bAt x 0=34:=by
    unfold e7 at hq;split at hq
    ·cases hq
    ·rename_i h0;split at hq
     ·rename_i h1;exact⟨h0,h1⟩
     ·split at hq
      ·split at hq<;>cases hq
      ·split at hq<;>cases hq
   exact iT (by unfold e7;rw[nG,if_pos (by rw[he 0 (by omega)];exact h34.2)])
  |bad=>rw[iC hq]at h;cases h
  |put c k =>
   have hk:=mG hq;rw[jH hq]at h;cases hr:quotesL (x.drop k) with
   |none=>rw[hr]at h;cases h
   |some p =>
    obtain⟨b',n'⟩:=p;rw[hr]at h;injection h with h;injection h with h1 h2;simp only at h1 h2;subst h1;subst h2;have:=wQ N (x.drop k) (y.drop k) b' n' (by rw[length_drop];omega) hr (by rw[length_drop];omega) (fun i hi=>by rw[gS,gS];exact he _ (by omega));rw[jH (In hq (by omega) (fun i hi=>he i (by omega))),this];rfl
theorem yA {m w:List Int}{n:Nat}(S:Gh m n w)(k:Nat):(w.drop k).take (n-k)=(m.drop k).take (n-k):=by
 rw[←List.drop_take,←List.drop_take,S.tak]
theorem K9 {m w:List Int}{n:Nat}(S:Gh m n w)(h1:1≤n)(h2:cN m≤n)(h3:n=1→cN m=0):cN w=cN m∧fJ w=fJ m:=by
 have e0:=S.at_ 0 (by omega);rcases lt_or_ge 1 n with h | h
 ·have e1:=S.at_ 1 h;have l1:1<m.length:=by have:=S.len;omega
  have l2:1<w.length:=by have:=S.wlen;omega
  unfold cN fJ;simp only[e0,e1,l1,l2,true_and,and_self]
 ·obtain rfl:n=1:=by omega
  have hm:=h3 rfl
  have hnm:¬(1<m.length∧bAt m 0=48∧(bAt m 1=120∨bAt m 1=98)):=by
   intro hc;unfold cN at hm;rw[if_pos hc]at hm;cases hm
  have hnw:¬(1<w.length∧bAt w 0=48∧(bAt w 1=120∨bAt w 1=98)):=by
   rintro⟨c1,c2,c3⟩;rcases S.stop c1 with h4 | ⟨h4,h5⟩
   ·have:=og h4;omega
   ·exact hnm ⟨h4,by rw[←e0];exact c2,by rw[←h5];exact c3⟩
  constructor
  ·unfold cN;rw[if_neg hnw,if_neg hnm]
  ·unfold fJ;rw[if_neg (fun h=>hnw ⟨h.1,h.2.1,.inl h.2.2⟩),if_neg (fun h=>hnw ⟨h.1,h.2.1,.inr h.2.2⟩),if_neg (fun h=>hnm ⟨h.1,h.2.1,.inl h.2.2⟩),if_neg (fun h=>hnm ⟨h.1,h.2.1,.inr h.2.2⟩)]
theorem Sk (m:List Int):fJ m≤16:=by unfold fJ;split<;>(try split)<;>omega
theorem E4 {m w:List Int}{n:Nat}(S:Gh m n w)(h0:n≠0)(hn:(aT m).2=n):aT w=aT m:=by
 have e0:=S.at_ 0 (by omega);by_cases hq:bAt m 0=39
 ·have hm:aT m=if 3≤m.length∧bAt m 2=39∧iF (bAt m 1)=true∧bAt m 1≠39∧bAt m 1≠92 then(bAt m 1,3) else(0,0):=by unfold aT;rw[if_pos hq]
  have hw:aT w=if 3≤w.length∧bAt w 2=39∧iF (bAt w 1)=true∧bAt w 1≠39∧bAt w 1≠92 then(bAt w 1,3) else(0,0):=by unfold aT;rw[if_pos (by rw[e0];exact hq)]
  by_cases hc:3≤m.length∧bAt m 2=39∧iF (bAt m 1)=true∧bAt m 1≠39∧bAt m 1≠92
  ·rw[if_pos hc]at hm;rw[hm]at hn;simp only at hn;subst hn;rw[hw,hm,S.at_ 1 (by omega),S.at_ 2 (by omega),if_pos ⟨S.wlen,hc.2⟩]
  ·rw[if_neg hc]at hm;rw[hm]at hn;exact absurd hn.symm h0
 ·obtain⟨r,hr⟩:∃r,bP (fJ m) (m.drop (cN m))=r:=⟨_,rfl⟩
  have hm:aT m=if r=0∨cN m=0∧1<r∧bAt m 0=48 then(0,0) else if 18446744073709551616≤bU (fJ m) ((m.drop (cN m)).take r) then(0,0) else(bU (fJ m) ((m.drop (cN m)).take r),cN m+r):=by
   unfold aT;rw[if_neg hq,hr]
  by_cases c1:r=0∨cN m=0∧1<r∧bAt m 0=48
  ·rw[if_pos c1]at hm;rw[hm]at hn;exact absurd hn.symm h0
  rw[if_neg c1]at hm;by_cases c2:18446744073709551616≤bU (fJ m) ((m.drop (cN m)).take r)
  ·rw[if_pos c2]at hm;rw[hm]at hn;exact absurd hn.symm h0
  rw[if_neg c2]at hm;rw[hm]at hn;simp only at hn;have hr0:0<r:=by omega
  obtain⟨g1,g2⟩:=K9 S (by omega) (by omega) (fun h=>by omega)
  have hrw:bP (fJ m) (w.drop (cN m))=r:=by
   have:=FU (g:=fun c=>decide (aL c<fJ m)) (fun c hc=>by have:=Sk m;rw[(og hc).2.1];exact decide_eq_false (by omega)) S (cN m) (by omega) (by show bP _ _=_;omega);show br _ _=_;omega
  have ht:(w.drop (cN m)).take r=(m.drop (cN m)).take r:=by
   have:=yA S (cN m)
   rwa [show n-cN m=r by omega]at this
  rw[hm];unfold aT;rw[if_neg (by rw[e0];exact hq),g1,g2,hrw,e0,if_neg c1,ht,if_neg c2]
theorem vS {m:List Int}(h:bD m≠0):bAt m 0=60∨bAt m 0=62∨bAt m 0∈rj:=by
 unfold bD at h;split at h
 ·rename_i hc;omega
 ·split at h
  ·rename_i hc;exact .inr (.inr hc.2)
  ·exact absurd rfl h
theorem rT {c:Int}(h:c∈rj):au c=false∧c≠60∧c≠62:=by
 unfold rj at h;simp only[List.mem_cons,List.not_mem_nil,or_false]at h;rcases h with rfl | rfl | rfl | rfl | rfl | rfl | rfl | rfl | rfl | rfl | rfl | rfl | rfl | rfl | rfl | rfl | rfl | rfl<;>decide
theorem pC {c:Int}(h:bV c=true):au c=false∧c≠47:=by
 unfold bV at h;unfold au;simp only[decide_eq_true_eq,decide_eq_false_iff_not]at h ⊢;omega
theorem E9 {m w:List Int}{t:Tok}{n:Nat}(S:Gh m n w)(h0:m.length≠0)(hd:dj m=false)(h:fq m=.ok (t,n)):fq w=.ok (t,n)∧dj w=false∧br au w=0:=by
 have hn:=kS h0 h;have e0:=S.at_ 0 (by omega);have hw0:0<w.length:=by have:=S.wlen;omega
 have nb:au (bAt m 0)=false→br au w=0:=fun hb=>pV _ _ _ (zero_le _) (fun i hi=>absurd hi (Nat.not_lt_zero _)) (fun _=>by rw[e0];exact hb)
 have dn:(bAt m 0=47→n=1)→dj w=false:=by
  intro h47;unfold dj at hd ⊢;rw[decide_eq_false (show ¬m.length=0 from h0),Bool.false_or]at hd;rw[decide_eq_false (show ¬w.length=0 by omega),Bool.false_or];rw[Bool.eq_false_iff];intro hc;simp only[Bool.and_eq_true,decide_eq_true_eq]at hc;obtain⟨⟨c1,c2⟩,c3⟩:=hc;have hn1:=h47 (by rw[←e0];exact c2);subst hn1;rcases S.stop c1 with h4 | ⟨h4,h5⟩
  ·exact(og h4).2.2.2.2 c3
  ·rw[←e0,←h5,c2,c3]at hd;rw[decide_eq_true h4]at hd;cases hd
 unfold fq at h ⊢;rw[e0];split at h
 ·rename_i hl;injection h with h;injection h with h1 h2;rw[if_pos hl]
  have hr:br wordyB w=n:=by
   have:=FU (g:=wordyB) (fun c hc=>(og hc).1) S 0 (by omega) (by rw[drop_zero];omega)
   rwa [drop_zero,Nat.sub_zero]at this
  rw[hr,←h1,h2,S.tak];exact⟨rfl,dn (fun e=>absurd e (pC hl).2),nb (pC hl).1⟩
 ·rename_i hl;rw[if_neg hl];split at h
  ·rename_i hdg;rw[if_pos hdg];split at h
   ·cases h
   ·rename_i hc;injection h with h;injection h with h1 h2;have hN:=E4 S (by omega) h2
    have hb:au (bAt m 0)=false∧bAt m 0≠47:=by
     unfold eU at hdg;unfold au;simp only[decide_eq_true_eq,decide_eq_false_iff_not]at hdg ⊢;omega
    rw[hN,if_neg ?_,h1,h2]
    ·exact⟨rfl,dn (fun e=>absurd e hb.2),nb hb.1⟩
    ·rw[h2]at hc ⊢;rintro (hc2 | hc2)
     ·omega
     ·exact Nh S (fun h=>hc (.inr h)) hc2
  ·rename_i hdg;rw[if_neg hdg];split at h
   ·rename_i h34;rw[if_pos h34];split at h
    ·cases h
    ·rename_i hc;injection h with h;injection h with h1 h2
     have hQ:cq w=cq m:=by
      unfold cq at h2 ⊢;cases hq:quotesL (m.drop 1) with
      |none=>rw[hq]at h2;simp only at h2;omega
      |some p =>
       obtain⟨b,k⟩:=p;rw[hq]at h2;simp only at h2;have:=wQ _ (m.drop 1) (w.drop 1) b k (Nat.le_refl _) hq (by rw[length_drop];have:=S.wlen;omega) (fun i hi=>by rw[gS,gS];exact S.at_ _ (by omega));rw[this]
     rw[hQ,if_neg hc,h1,h2];exact⟨rfl,dn (fun e=>by omega),nb (by rw[h34];rfl)⟩
   ·rename_i h34;rw[if_neg h34];split at h
    ·cases h
    ·rename_i hc;injection h with h;injection h with h1 h2;have hsg:=vS hc
     have hbn:au (bAt m 0)=false:=by
      rcases hsg with e | e | e
      ·rw[e];rfl
      ·rw[e];rfl
      ·exact(rT e).1
     have hS:bD w=bD m:=by
      by_cases c1:1<m.length∧(bAt m 0=60∧bAt m 1=60∨bAt m 0=62∧bAt m 1=62)
      ·have hm:bD m=2:=by unfold bD;rw[if_pos c1]
       have e1:=S.at_ 1 (by omega);rw[hm];unfold bD;rw[if_pos ⟨by have:=S.wlen;omega,by rw[e0,e1];exact c1.2⟩]
      ·have c2:0<m.length∧bAt m 0∈rj:=by
        unfold bD at hc;rw[if_neg c1]at hc;split at hc
        ·assumption
        ·exact absurd rfl hc
       have hm:bD m=1:=by unfold bD;rw[if_neg c1,if_pos c2]
       have:=rT c2.2;rw[hm];unfold bD;rw[if_neg (by rw[e0];omega),if_pos ⟨hw0,by rw[e0];exact c2.2⟩]
     rw[hS,if_neg hc,h2,S.tak,←h1,h2];refine⟨rfl,dn (fun e=>?_),nb hbn⟩;rw[←h2];unfold bD;rw[nG,if_pos ⟨by omega,by rw[e];decide⟩]
theorem TP {bs x:List Int}(h:∀c∈bs,au c=true):br au (bs++x)=bs.length+br au x:=by
 induction bs with
 |nil=>simp
 |cons c bs ih =>
  rw[List.cons_append,iU,if_pos (h c (by simp)),ih (fun c hc=>h c (by simp[hc])),List.length_cons];omega
theorem ji {bs x:List Int}(h:∀c∈bs,au c=true)(q:Nat):aZ q (bs++x)=aZ (q+bs.length) x:=by
 have hr:=TP (x:=x) h;have hd:∀k,(bs++x).drop (bs.length+k)=x.drop k:=fun k=>by rw[←drop_drop,List.drop_left]
 cases hdn:dj (x.drop (br au x)) with
 |true =>
  rw[gQ (l:=x) hdn,gQ (l:=bs++x) (by rw[hr,hd];exact hdn),List.length_append,Nat.add_assoc]
 |false =>
  rcases ho:fq (x.drop (br au x)) with e | ⟨t,n⟩
  ·rw[jh (l:=x) hdn ho,jh (l:=bs++x) (by rw[hr,hd];exact hdn) (by rw[hr,hd];exact ho),hr,Nat.add_assoc]
  ·rw[jA (l:=x) hdn ho,jA (l:=bs++x) (by rw[hr,hd];exact hdn) (by rw[hr,hd];exact ho),hr,Nat.add_assoc bs.length,hd];simp only[Nat.add_assoc]
theorem tu {w:List Int}{t:Tok}{n:Nat}(h1:br au w=0)(h2:dj w=false)(h3:fq w=.ok (t,n))(q:Nat):aZ q w=({ t with pos:=(q:Int) }::(aZ (q+n) (w.drop n)).1,(aZ (q+n) (w.drop n)).2):=by
 have:=jA (p:=q) (l:=w) (t:=t) (n:=n) (by rw[h1];exact h2) (by rw[h1];exact h3);rw[h1,Nat.zero_add,Nat.add_zero]at this;exact this
theorem yc (m:List Int):∀c∈m.take (br au m),au c=true:=by
 intro c hc;obtain⟨i,hi,rfl⟩:=List.mem_iff_getElem.1 hc;rw[length_take]at hi;have:=pW au m i (by omega);rw[List.getElem_take];have hg:=xx (l:=m) (i:=i) (by omega);rw[List.getElem?_eq_getElem (by omega)]at hg;injection hg with hg;rw[hg];exact this
def cJ (t:Tok):Tok:={ t with pos:=0 }
def AJ (l:List Int):List Tok→Nat
 |[]=>l.length
 |t::_=>t.pos.toNat
def pcs (l:List Int)(bl:Nat→List Int):Nat→List Tok→List Int
 |_,[]=>[]
 |i,t::ts=>bl i++((l.drop t.pos.toNat).take (AJ l ts-t.pos.toNat)++pcs l bl (i+1) ts)
theorem lw {p:Nat}{m:List Int}{t:Tok}{ts:List Tok}{n:Nat}{e:Int}(h:aZ p m=(t::ts,n,e)):∃t0 n1,dj (m.drop (br au m))=false∧fq (m.drop (br au m))=.ok (t0,n1)∧t={ t0 with pos:=((p+br au m:Nat):Int) }∧aZ (p+br au m+n1) (m.drop (br au m+n1))=(ts,n,e):=by
 cases hdn:dj (m.drop (br au m)) with
 |true=>rw[gQ hdn]at h;cases h
 |false =>
  rcases ho:fq (m.drop (br au m)) with e' | ⟨t0,n1⟩
  ·rw[jh hdn ho]at h;cases h
  ·rw[jA hdn ho]at h;injection h with h1 h2;injection h1 with h1 h3;exact⟨t0,n1,rfl,rfl,h1.symm,Prod.ext h3 h2⟩
theorem Jc {p:Nat}{m:List Int}{n:Nat}(h:aZ p m=([],n,0))(he:∀l e,fq l=.error e→e≠0):dj (m.drop (br au m))=true:=by
 cases hdn:dj (m.drop (br au m)) with
 |true=>rfl
 |false =>
  rcases ho:fq (m.drop (br au m)) with e' | ⟨t0,n1⟩
  ·rw[jh hdn ho]at h;injection h with h1 h2;injection h2 with h2 h3;exact absurd h3 (he _ _ ho)
  ·rw[jA hdn ho]at h;cases h
theorem KT {m tail:List Int}(h:dj (m.drop (br au m))=true)(ht:∃r,tail=32::47::47::r)(q:Nat):(aZ q (m++tail)).1=[]∧(aZ q (m++tail)).2.2=0:=by
 obtain⟨r,rfl⟩:=ht;have hs:m++32::47::47::r=m.take (br au m)++(m.drop (br au m)++32::47::47::r):=by rw[←append_assoc,List.take_append_drop]
 rw[hs,ji (yc m)];obtain⟨x,hx⟩:∃x,m.drop (br au m)=x:=⟨_,rfl⟩;rw[hx]at h ⊢
 have hslash:∀(p:Nat) (y:List Int),(aZ p (47::47::y)).1=[]∧(aZ p (47::47::y)).2.2=0:=by
  intro p y;have hb:br au (47::47::y)=0:=by rw[iU];rfl
  rw[gQ (by rw[hb,drop_zero];unfold dj;simp[bAt])];exact⟨rfl,rfl⟩
 unfold dj at h;simp only[Bool.or_eq_true,Bool.and_eq_true,decide_eq_true_eq]at h
 match x,h with
 |[],_ =>
  have:=ji (bs:=[32]) (x:=47::47::r) (by simp[au]) (q+(m.take (br au m)).length);rw[nil_append,show(32:Int)::47::47::r=[32]++47::47::r from rfl,this];exact hslash _ _
 |[a],h=>simp at h
 |a::b::y,h =>
  have h2:a=47∧b=47:=by
   rcases h with h | ⟨⟨_,h1⟩,h2⟩
   ·simp at h
   ·exact⟨h1,h2⟩
  obtain⟨rfl,rfl⟩:=h2;exact hslash _ _
theorem Yj {l:List Int}{bl:Nat→List Int}{tail:List Int}(hbl:∀i,∀c∈bl i,au c=true)(ht:∃r,tail=32::47::47::r)(he:∀l e,fq l=.error e→e≠0) :
  ∀(ts:List Tok) (t:Tok) (p:Nat) (i n:Nat),p≤l.length→aZ p (l.drop p)=(t::ts,n,0)→∀q,(aZ q (pcs l bl i (t::ts)++tail)).1.map cJ=(t::ts).map cJ∧(aZ q (pcs l bl i (t::ts)++tail)).2.2=0
 |ts,t,p,i,n,hp,h,q=>by
  obtain⟨t0,n1,hd,ho,rfl,hr⟩:=lw h;obtain⟨k,hk⟩:∃k,br au (l.drop p)=k:=⟨_,rfl⟩;rw[hk]at hd ho hr ⊢;rw[drop_drop]at hd ho hr;rw[←Nat.add_assoc]at hr;obtain⟨m1,hm1⟩:∃m1,l.drop (p+k)=m1:=⟨_,rfl⟩;rw[hm1]at hd ho
  have h0:m1.length≠0:=fun e=>by
   have:dj m1=true:=by unfold dj;rw[e];rfl
   rw[this]at hd;cases hd
  have hn:=kS h0 ho;have hl1:m1.length=l.length-(p+k):=by rw[←hm1,length_drop]
  have hdd:l.drop (p+k+n1)=m1.drop n1:=by rw[←drop_drop,hm1]
  have hpos:(((p+k:Nat):Int)).toNat=p+k:=toNat_natCast _;rw[pcs,hpos,hm1,append_assoc,ji (hbl i)];generalize q+(bl i).length=q2;cases ts with
  |nil =>
   rw[pcs,List.append_nil,AJ,List.take_of_length_le (by omega)]
   have hB:Gg (m1.drop n1) (m1.drop n1++tail):=by
    obtain⟨r,rfl⟩:=ht;cases hx:m1.drop n1 with
    |nil=>exact .inr (.inl rfl)
    |cons c y=>exact .inr (.inr ⟨by simp,rfl⟩)
   obtain⟨g1,g2,g3⟩:=E9 (JX hn.2 hB) h0 hd ho;rw[show m1.take n1++(m1.drop n1++tail)=m1++tail by rw[←append_assoc,List.take_append_drop]]at g1 g2 g3;rw[tu g3 g2 g1];have hdr:(m1++tail).drop n1=m1.drop n1++tail:=List.drop_append_of_le_length hn.2;rw[hdr];rw[hdd]at hr;obtain⟨f1,f2⟩:=KT (Jc hr he) ht (q2+n1);exact⟨by simp only[List.map_cons,f1,List.map_nil];rfl,f2⟩
  |cons t2 ts2 =>
   obtain⟨t20,n2,hd2,ho2,e2,hr2⟩:=lw hr;obtain⟨k2,hk2⟩:∃k2,br au (l.drop (p+k+n1))=k2:=⟨_,rfl⟩
   have hk2l:k2≤m1.length-n1:=by
    have:br au (l.drop (p+k+n1))≤(l.drop (p+k+n1)).length:=lU _ _;rw[hdd,length_drop]at this;rw[←hk2,hdd];exact this
   have ep:AJ l (t2::ts2)-(p+k)=n1+k2:=by
    unfold AJ;rw[e2,hk2];simp only[toNat_natCast];omega
   rw[ep];have htk:m1.take (n1+k2)=m1.take n1++(m1.drop n1).take k2:=by rw[List.take_add]
   have hbk:∀c∈(m1.drop n1).take k2,au c=true:=by rw[←hdd,←hk2];exact yc _
   rw[htk,append_assoc,append_assoc]
   have hne:m1.drop n1≠[]:=by
    intro e;have:dj ((l.drop (p+k+n1)).drop (br au (l.drop (p+k+n1))))=true:=by rw[hdd,e];rfl
    rw[this]at hd2;cases hd2
   have hn1:n1<m1.length:=by
    rcases lt_or_ge n1 m1.length with h1 | h1
    ·exact h1
    ·exact absurd (List.drop_eq_nil_of_le h1) hne
   have hB:Gg (m1.drop n1) ((m1.drop n1).take k2++(pcs l bl (i+1) (t2::ts2)++tail)):=by
    rcases Nat.eq_zero_or_pos k2 with z | z
    ·subst z;rw[List.take_zero,nil_append,pcs];cases hb:bl (i+1) with
     |cons c y=>exact .inr (.inl (hbl (i+1) c (by rw[hb];simp)))
     |nil =>
      refine .inr (.inr ⟨hne,?_⟩);have hp2:t2.pos.toNat=p+k+n1:=by rw[e2,hk2];simp only[toNat_natCast,Nat.add_zero]
      rw[nil_append,hp2,hdd,append_assoc]
      have hn2:=kS (l:=(l.drop (p+k+n1)).drop (br au (l.drop (p+k+n1)))) (fun e=>by
       have:dj ((l.drop (p+k+n1)).drop (br au (l.drop (p+k+n1))))=true:=by unfold dj;rw[e];rfl
       rw[this]at hd2;cases hd2) ho2
      have hend:0<AJ l ts2-(p+k+n1):=by
       cases ts2 with
       |nil=>show 0<l.length-(p+k+n1);omega
       |cons t3 ts3 =>
        obtain⟨_,n3,_,_,e3,_⟩:=lw hr2;show 0<t3.pos.toNat-(p+k+n1);rw[e3];simp only[toNat_natCast];omega
      have hl3:0<((m1.drop n1).take (AJ l ts2-(p+k+n1))).length:=by rw[length_take,length_drop];omega
      rw[kP hl3,oc hend]
    ·have hl3:0<((m1.drop n1).take k2).length:=by rw[length_take,length_drop];omega
     exact .inr (.inr ⟨hne,by rw[kP hl3,oc z]⟩)
   obtain⟨g1,g2,g3⟩:=E9 (JX hn.2 hB) h0 hd ho;rw[tu g3 g2 g1]
   have hdr:(m1.take n1++((m1.drop n1).take k2++(pcs l bl (i+1) (t2::ts2)++tail))).drop n1=(m1.drop n1).take k2++(pcs l bl (i+1) (t2::ts2)++tail):=by
    have:(m1.take n1).length=n1:=by rw[length_take];omega
    rw[List.drop_append_of_le_length (by omega),List.drop_of_length_le (by omega),nil_append]
   rw[hdr,ji hbk];have ih:=Yj (tail:=tail) hbl ht he ts2 t2 (p+k+n1) (i+1) n (by omega) hr (q2+n1+((m1.drop n1).take k2).length);exact⟨by rw[List.map_cons,ih.1];rfl,ih.2⟩
termination_by ts=>ts.length
def Nx (l:List Int):List Tok→Prop
 |[]=>True
 |t::ts=>(∃a:Nat,t.pos=(a:Int)∧a≤AJ l ts)∧AJ l ts≤l.length∧Nx l ts
theorem xd {l:List Int}:∀(ts:List Tok) (p n:Nat) (e:Int),p≤l.length→aZ p (l.drop p)=(ts,n,e)→Nx l ts∧p≤AJ l ts∧AJ l ts≤l.length∧ts.length≤l.length-p
 |[],p,n,e,hp,h=>⟨trivial,hp,Nat.le_refl _,zero_le _⟩
 |t::ts,p,n,e,hp,h=>by
  obtain⟨t0,n1,hd,ho,rfl,hr⟩:=lw h;have hk:br au (l.drop p)≤(l.drop p).length:=lU _ _;rw[length_drop]at hk
  have h0:((l.drop p).drop (br au (l.drop p))).length≠0:=fun e=>by
   have:dj ((l.drop p).drop (br au (l.drop p)))=true:=by unfold dj;rw[e];rfl
   rw[this]at hd;cases hd
  have hn:=kS h0 ho;rw[length_drop,length_drop]at hn;rw[drop_drop,←Nat.add_assoc]at hr;obtain⟨g1,g2,g3,g4⟩:=xd ts (p+br au (l.drop p)+n1) n e (by omega) hr;refine⟨⟨⟨_,rfl,by omega⟩,g3,g1⟩,?_,?_,?_⟩
  ·show p≤(((p+br au (l.drop p):Nat):Int)).toNat;rw[toNat_natCast];omega
  ·show(((p+br au (l.drop p):Nat):Int)).toNat≤_;rw[toNat_natCast];omega
  ·rw[List.length_cons];omega
theorem th:∀(N:Nat) (x b:List Int) (n:Nat),x.length≤N→quotesL x=some (b,n)→b.length+1≤n
 |0,x,b,n,hx,h=>by
  obtain rfl:x=[]:=List.eq_nil_of_length_eq_zero (by omega);rw[iC rfl]at h;cases h
 |N+1,x,b,n,hx,h=>by
  cases hq:e7 x with
  |stop =>
   rw[iT hq]at h;injection h with h;injection h with h1 h2;subst h1;subst h2;exact Nat.le_refl _
  |bad=>rw[iC hq]at h;cases h
  |put c k =>
   have hk:=mG hq;rw[jH hq]at h;cases hr:quotesL (x.drop k) with
   |none=>rw[hr]at h;cases h
   |some p =>
    obtain⟨b',n'⟩:=p;rw[hr]at h;injection h with h;injection h with h1 h2;simp only at h1 h2;subst h1;subst h2;have:=th N (x.drop k) b' n' (by rw[length_drop];omega) hr;rw[List.length_cons];omega
theorem F7 {m:List Int}(hr:∀z∈m,0≤z∧z≤255)(n:Nat):aa (aj (m.take n))=m.take n:=bh fun z hz=>hr z (List.mem_of_mem_take hz)
theorem vW (m:List Int)(n:Nat):(aj (m.take n)).size=min n m.length:=by rw[fO,length_take]
theorem S9 {m:List Int}(hr:∀z∈m,0≤z∧z≤255)(hl:m.length≤512)(h0:m.length≠0){t:Tok}{n:Nat}(h:fq m=.ok (t,n)):isT t=true∧(t.n=0∨t.kind=2):=by
 have hn:=kS h0 h;unfold fq at h;split at h
 ·rename_i hl;injection h with h;injection h with h1 h2;subst h1;refine⟨?_,.inl rfl⟩;unfold isT;rw[if_pos rfl];simp only[F7 hr];unfold da;have h2':br wordyB m=n:=h2;have hlen:(m.take (br wordyB m)).length=n:=by rw[length_take];omega
  have hrun:br wordyB (m.take (br wordyB m))=n:=pV _ _ _ (by omega) (fun i hi=>by rw[oc (by omega)];exact pW _ _ _ (by omega)) (fun h=>by omega);rw[hlen,hrun,oc (by omega),hl];simp;omega
 ·split at h
  ·split at h
   ·cases h
   ·injection h with h;injection h with h1 h2;subst h1;exact⟨by unfold isT;rw[if_neg (by simp),if_pos rfl];exact decide_eq_true rfl,.inr rfl⟩
  ·split at h
   ·split at h
    ·cases h
    ·rename_i hc;injection h with h;injection h with h1 h2;subst h1;refine⟨?_,.inl rfl⟩;unfold isT;rw[if_neg (by simp),if_neg (by simp),if_pos rfl];refine decide_eq_true ?_;simp only;rw[fO];unfold cq at hc ⊢;cases hq:quotesL (m.drop 1) with
     |none=>rw[hq]at hc;simp at hc
     |some p =>
      obtain⟨b,k⟩:=p;have h1:=th _ _ _ _ (Nat.le_refl _) hq;have h2:=pO _ _ (Nat.le_refl _) hq;rw[length_drop]at h2;simp only;omega
   ·split at h
    ·cases h
    ·rename_i hc;injection h with h;injection h with h1 h2;subst h1;refine⟨?_,.inl rfl⟩;unfold isT;rw[if_neg (by simp),if_neg (by simp),if_neg (by simp),if_pos rfl];refine decide_eq_true ?_;simp only;have hsl:=zZ m;rw[F7 hr,vW,Nat.min_eq_left hsl];refine⟨by omega,?_⟩;obtain⟨w,hw⟩:∃w,m.take (bD m)=w:=⟨_,rfl⟩;have hwl:w.length=bD m:=by rw[←hw,length_take];omega
     have hwa:∀i,i<bD m→bAt w i=bAt m i:=fun i hi=>by rw[←hw];exact oc hi
     rw[hw];by_cases c1:1<m.length∧(bAt m 0=60∧bAt m 1=60∨bAt m 0=62∧bAt m 1=62)
     ·have hm:bD m=2:=by unfold bD;rw[if_pos c1]
      rw[hm]at hwl hwa;rw[hm];unfold bD;rw[if_pos ⟨by omega,by rw[hwa 0 (by omega),hwa 1 (by omega)];exact c1.2⟩]
     ·have c2:0<m.length∧bAt m 0∈rj:=by
       unfold bD at hc;rw[if_neg c1]at hc;split at hc
       ·assumption
       ·exact absurd rfl hc
      have hm:bD m=1:=by unfold bD;rw[if_neg c1,if_pos c2]
      rw[hm]at hwl hwa;rw[hm];unfold bD;rw[nG,if_pos ⟨by omega,by rw[hwa 0 (by omega)];exact c2.2⟩]
theorem L2 {m:List Int}(hl:m.length≤512)(h0:m.length≠0){t:Tok}{n:Nat}(h:fq m=.ok (t,n)):t.text.size≤512:=by
 have hn:=kS h0 h;unfold fq at h;split at h
 ·injection h with h;injection h with h1 h2;subst h1;simp only;rw[vW];omega
 ·split at h
  ·split at h
   ·cases h
   ·injection h with h;injection h with h1 h2;subst h1;exact zero_le _
  ·split at h
   ·split at h
    ·cases h
    ·rename_i hc;injection h with h;injection h with h1 h2;subst h1;simp only;rw[fO];unfold cq at hc ⊢;cases hq:quotesL (m.drop 1) with
     |none=>rw[hq]at hc;simp at hc
     |some p =>
      obtain⟨b,k⟩:=p;have h1:=th _ _ _ _ (Nat.le_refl _) hq;have h2:=pO _ _ (Nat.le_refl _) hq;rw[length_drop]at h2;simp only;omega
   ·split at h
    ·cases h
    ·injection h with h;injection h with h1 h2;subst h1;simp only;rw[vW];omega
def Rises (len:Nat):Nat→List Tok→Prop
 |_,[]=>True
 |p,t::ts=>(cP t=0∧t.text.size≤512)∧∃a:Nat,t.pos=(a:Int)∧p≤a∧a<len∧Rises len (a+1) ts
theorem Rises.mono {len:Nat}:∀{ts:List Tok} {p q:Nat},q≤p→Rises len p ts→Rises len q ts
 |[],_,_,_,_=>trivial
 |_::_,_,_,hq,⟨h1,a,h2,h3,h4,h5⟩=>⟨h1,a,h2,by omega,h4,h5⟩
theorem rt {l:List Int}(hr:∀z∈l,0≤z∧z≤255)(hl:l.length≤512):∀(ts:List Tok) (p n:Nat) (e:Int),p≤l.length→aZ p (l.drop p)=(ts,n,e)→Rises l.length p ts
 |[],_,_,_,_,_=>trivial
 |t::ts,p,n,e,hp,h=>by
  obtain⟨t0,n1,hd,ho,rfl,hrest⟩:=lw h;have hk:br au (l.drop p)≤(l.drop p).length:=lU _ _;rw[length_drop]at hk
  have h0:((l.drop p).drop (br au (l.drop p))).length≠0:=fun e=>by
   have:dj ((l.drop p).drop (br au (l.drop p)))=true:=by unfold dj;rw[e];rfl
   rw[this]at hd;cases hd
  have hn:=kS h0 ho;have hm:=S9 (fun z hz=>hr z (List.mem_of_mem_drop (List.mem_of_mem_drop hz))) (by rw[length_drop,length_drop];omega) h0 ho;rw[length_drop,length_drop]at hn;rw[drop_drop,←Nat.add_assoc]at hrest;have ih:=rt hr hl ts (p+br au (l.drop p)+n1) n e (by omega) hrest;refine⟨?_,_,rfl,by omega,by omega,ih.mono (by omega)⟩;have hsm:=L2 (by rw[length_drop,length_drop];omega) h0 ho;refine⟨?_,hsm⟩;unfold cP;have hi:isT { t0 with pos:=((p+br au (l.drop p):Nat):Int) }=isT t0:=rfl;rw[hi,if_pos ⟨hm.1,Int.natCast_nonneg _,hm.2⟩]
def lv:nZ Tok where
 dec:=fun | [.v (.int .i64 k),.v (.string s),.v (.int .u64 n),.v (.int .i64 p)]=>some ⟨k,s,n,p⟩ | _=>none
 enc:=fun t=>[.v (.int .i64 t.kind),.v (.string t.text),.v (.int .u64 t.n),.v (.int .i64 t.pos)]
 inv:=by
  intro c x h;split at h
  ·injection h with h;subst h;rfl
  ·cases h
 back:=by intro x;rfl
theorem lu (t:Tok):lv.enc t=[.v (.int .i64 t.kind),.v (.string t.text),.v (.int .u64 t.n),.v (.int .i64 t.pos)]:=rfl
def Ac:ByteArray:=⟨#[44,91,93,33,35,58,43,45,42,47,37,38,124,94,126,40,41,61]⟩
def bY (l:List Int):Blk:=⟨true,5,1,l.map ay⟩
theorem D8 (l:List Int):aY lN (l.map ay)=some l:=jv D7 l
def rc (l:List Int):AV:=.tup [.l (.v (.string (aj (cq l).1))),.l (.v (.int .i64 (cq l).2))]
def Fp (s:ByteArray)(i:Nat)(l:List Int):Prop:=1≤i∧(i≤s.size∨i=1)∧l.length≤i∧quotesL ((aa s).drop 1)=(quotesL ((aa s).drop i)).map fun p=>(l++p.1,i-1+p.2)
theorem BS {s:ByteArray}{i:Nat}{l:List Int}(h:Fp s i l){x:Int}{k:Nat}(hq:e7 ((aa s).drop i)=.put x k):Fp s (i+k) (l++[x]):=by
 obtain⟨h1,h2,h3,h4⟩:=h;have hk:=mG hq;rw[length_drop,ae]at hk;refine⟨by omega,by omega,by simp;omega,?_⟩;rw[h4,jH hq,drop_drop];cases quotesL ((aa s).drop (i+k)) with
 |none=>rfl
 |some p=>simp;omega
theorem Io {s:ByteArray}{i:Nat}{l:List Int}(h:Fp s i l)(hq:e7 ((aa s).drop i)=.stop):cq (aa s)=(l,i+1):=by
 obtain⟨h1,h2,h3,h4⟩:=h;unfold cq;rw[h4,iT hq];simp;omega
theorem vH {s:ByteArray}{i:Nat}{l:List Int}(h:Fp s i l)(hq:e7 ((aa s).drop i)=.bad):cq (aa s)=([],0):=by
 obtain⟨h1,h2,h3,h4⟩:=h;unfold cq;rw[h4,iC hq];rfl
theorem vx (base:Int)(l:List Int)(c:Int):bU base (l++[c])=bU base l*base+aL c:=by
 unfold bU;rw[List.foldl_append];rfl
def lX (t:Tok):SV:=.agg [.v (.int .i64 t.kind),.v (.string t.text),.v (.int .u64 t.n),.v (.int .i64 t.pos)]
def qU (r:Except Int (Tok×Nat)):AV:=match r with
 |.ok p=>.tup [lX p.1,.l (.v (.int .i64 p.2)),.l (.v (.int .i64 0))]
 |.error e=>.tup [lX ⟨0,emp,0,0⟩,.l (.v (.int .i64 0)),.l (.v (.int .i64 e))]
def xe (l:List Tok):SV:=.l (.d (.sd 4 (l.map lv.enc)))
def F8 (l:List Tok):Blk:=⟨true,137,4,(l.map lv.enc).map bw⟩
def E0:SV:=.l (.v (.slice none 0 0))
def rX (r:List Tok×Nat×Int)(long:Bool):AV:=.tup [if long=true then E0 else xe r.1,.l (.v (.int .i64 r.2.1)),.l (.v (.int .i64 r.2.2))]
def j9 (l:List Int):Bool:=decide (512<l.length)
theorem PA {l:List Int}{e:Int}(h:fq l=.error e):e=80∨e=81∨e=82:=by
 unfold fq at h;split at h
 ·cases h
 ·split at h
  ·split at h
   ·injection h with h;omega
   ·cases h
  ·split at h
   ·split at h
    ·injection h with h;omega
    ·cases h
   ·split at h
    ·injection h with h;omega
    ·cases h
def YP (s:ByteArray)(p:Nat×List Tok):Prop:=p.1≤s.size∧p.2.length≤p.1∧aZ 0 (aa s)=(p.2++(aZ p.1 ((aa s).drop p.1)).1,(aZ p.1 ((aa s).drop p.1)).2)
theorem Na (l:List Tok)(t:Tok):(l.map lv.enc).map bw++[[LV.v (.int .i64 t.kind),.v (.string t.text),.v (.int .u64 t.n),.v (.int .i64 t.pos)]]=((l++[t]).map lv.enc).map bw:=by
 rw[List.map_append,List.map_append];rfl
def OL (r:List Tok×Nat×Int):AV:=if r.2.2=0 then .tup [xe r.1,.l (.v (.int .i64 r.2.1)),.l (.v (.int .i64 0))] else .tup [E0,.l (.v (.int .i64 r.2.1)),.l (.v (.int .i64 r.2.2))]
namespace Lx
def bz (l:List Int):AV:=.tup [.l (.v (.int .u64 (aT l).1)),.l (.v (.int .i64 (aT l).2))]
end Lx
end Go.Proofs.YtnhbidpdadkcjaaGreatDoor
