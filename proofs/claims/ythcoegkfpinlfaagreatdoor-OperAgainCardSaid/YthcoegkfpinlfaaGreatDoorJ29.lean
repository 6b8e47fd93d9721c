import Derived.Test.YthcoegkfpinlfaaGreatDoorJ10
import Derived.Test.YthcoegkfpinlfaaGreatDoorJ12
import Derived.Test.YthcoegkfpinlfaaGreatDoorJ11
import Derived.Test.YthcoegkfpinlfaaGreatDoorChecked
import Derived.Test.YthcoegkfpinlfaaGreatDoorJ14
set_option linter.unusedVariables false
set_option linter.unusedSimpArgs false
set_option maxRecDepth 100000
set_option maxHeartbeats 8000000
namespace Go.Proofs.YthcoegkfpinlfaaGreatDoor
open Go.RowKit
def aE (n:Int):Bool:=decide (n=32∨n=9)
def kr (n:Int):Bool:=decide (32≤n∧n≤126)
def de (n:Int):Int:=if 48≤n∧n≤57 then n-48 else if 97≤n∧n≤102 then n-87 else if 65≤n∧n≤70 then n-55 else 16
theorem lO (n:Int):0≤de n∧de n≤16:=by unfold de;split<;>(try split)<;>(try split)<;>omega
def bAt (l:List Int) (i:Nat):Int:=l.getD i 0
theorem AI {c:Int} {l:List Int}:bAt (c::l) 0=c:=rfl
theorem Jx {c:Int} {l:List Int} {i:Nat}:bAt (c::l) (i+1)=bAt l i:=rfl
theorem dZ (l:List Int) (i j:Nat):bAt (l.drop i) j=bAt l (i+j):=by
 unfold bAt
 rw [List.getD_eq_getElem?_getD,List.getD_eq_getElem?_getD,List.getElem?_drop]
theorem rB {l:List Int} {i:Nat} (h:i<l.length):l[i]? = some (bAt l i):=by
 unfold bAt
 rw [List.getD_eq_getElem?_getD,List.getElem?_eq_getElem h];rfl
theorem ce (s:ByteArray) (i:Nat):ac s i=bAt (aa s) i:=by
 rcases Nat.lt_or_ge i s.size with h | h
 ·have:=iB h
  unfold bAt
  rw [List.getD_eq_getElem?_getD (l:=aa s),this];rfl
 ·unfold bAt ac
  have h1:s.data.toList.length≤i:=by simpa using h
  have h2:(aa s).length≤i:=by rw [ar];exact h
  rw [List.getD_eq_getElem?_getD (l:=aa s),List.getElem?_eq_none h2,List.getD_eq_getElem?_getD,Int.toNat_natCast,List.getElem?_eq_none h1];rfl
theorem jr (s:ByteArray):ac s 0=bAt (aa s) 0:=ce s 0
theorem AO (s:ByteArray):ac s 1=bAt (aa s) 1:=ce s 1
theorem AP (s:ByteArray):ac s 2=bAt (aa s) 2:=ce s 2
theorem j4 (s:ByteArray) (i:Nat):aa (s.extract i s.size)=(aa s).drop i:=by
 rw [gL,List.take_of_length_le]
 rw [List.length_drop,ar]
 exact Nat.le_refl _
theorem lr (s:ByteArray) (j:Nat):aa (s.extract 0 j)=(aa s).take j:=by
 rw [gL,List.drop_zero,Nat.sub_zero]
theorem nZ (s:ByteArray) (j:Nat):s.extract 0 j=aQ ((aa s).take j):=by
 rw [← lr,fx]
theorem G9 {l:List Int} {i:Nat} (h:i<l.length):l.drop i=bAt l i::l.drop (i+1):=by
 rw [List.drop_eq_getElem_cons h]
 have:=rB h
 rw [List.getElem?_eq_getElem h] at this
 injection this with this
 rw [this]
def bu (g:Int→Bool) (l:List Int):Nat:=(l.takeWhile g).length
theorem wH (g:Int→Bool):bu g []=0:=rfl
theorem gQ (g:Int→Bool) (c:Int) (l:List Int):bu g (c::l)=if g c=true then 1+bu g l else 0:=by
 unfold bu
 rw [List.takeWhile_cons]
 split<;>simp [Nat.add_comm]
theorem mC (g:Int→Bool) (l:List Int):bu g l≤l.length:=(List.takeWhile_sublist g).length_le
theorem oO (g:Int→Bool):∀ (l:List Int) (i:Nat),i<bu g l→g (bAt l i)=true
 | [],i,h=>by simp [wH] at h
 | c::l,i,h=>by
  rw [gQ] at h
  split at h
  ·rename_i hc
   cases i with
   | zero=>exact hc
   | succ i=>exact oO g l i (by omega)
  ·omega
theorem qk (g:Int→Bool):∀ (l:List Int),bu g l<l.length→g (bAt l (bu g l))=false
 | [],h=>by simp at h
 | c::l,h=>by
  rw [gQ] at h ⊢
  split
  ·rename_i hc
   rw [if_pos hc] at h
   rw [Nat.add_comm,Jx]
   exact qk g l (by simp at h;omega)
  ·rename_i hc
   simpa [bAt] using hc
theorem lq (g:Int→Bool) (l:List Int) (k:Nat) (hk:k≤l.length) (hin:∀ i,i<k→g (bAt l i)=true) (hst:k<l.length→g (bAt l k)=false):bu g l=k:=by
 rcases Nat.lt_trichotomy (bu g l) k with h | h | h
 ·have:=qk g l (by omega)
  rw [hin _ h] at this;cases this
 ·exact h
 ·have h1:=oO g l k h
  rw [hst (by have:=mC g l;omega)] at h1;cases h1
def iN (l:List Int):Bool:=decide (0<l.length)&&bG (bAt l 0)&&decide (bu bn l=l.length)
def oY:List Int:=[44,91,93,33,35,58,43,45,42,47,37,38,124,94,126,40,41,61]
def cg (l:List Int):Nat :=
 if 1<l.length∧(bAt l 0=60∧bAt l 1=60∨bAt l 0=62∧bAt l 1=62) then 2
 else if 0<l.length∧bAt l 0∈oY then 1 else 0
theorem wJ (l:List Int):cg l≤l.length:=by unfold cg;split<;>(try split)<;>omega
def lb (c:Int):Int:=if c=0 then 48 else if c=9 then 116 else if c=10 then 110 else if c=13 then 114 else if c=34∨c=92 then c else 0
def lP (c:Int):Int:=if c<10 then 48+c else 87+c
def jj (c:Int):List Int:=if lb c≠0 then [92,lb c] else if kr c=true then [c] else [92,120,lP (c / 16),lP (c % 16)]
def lW (l:List Int):List Int:=l.flatMap jj
def jk (l:List Int):List Int:=34::(lW l++[34])
def longL (c:Int):Option Int:=if c=48 then some 0 else if c=116 then some 9 else if c=110 then some 10 else if c=114 then some 13 else if c=34∨c=92 then some c else none
def escL (l:List Int):Option (Int×Nat) :=
 if l.length=0 then none else
 match longL (bAt l 0) with
 | some x=>some (x,1)
 | none=>if 2<l.length∧bAt l 0=120∧de (bAt l 1)<16∧de (bAt l 2)<16 then some (16*de (bAt l 1)+de (bAt l 2),3) else none
inductive QS where
 | stop
 | bad
 | put (x:Int) (k:Nat)
def fe (l:List Int):QS :=
 if l.length=0 then .bad else
 if bAt l 0=34 then .stop else
 if bAt l 0=92 then match escL (l.drop 1) with
  | some (x,n)=>.put x (n+1)
  | none=>.bad
 else if kr (bAt l 0)=true then .put (bAt l 0) 1 else .bad
theorem FI {l:List Int} {x:Int} {n:Nat} (h:escL l=some (x,n)):1≤n∧n≤l.length:=by
 unfold escL at h
 split at h
 ·cases h
 ·split at h
  ·injection h with h;injection h with h1 h2;omega
  ·split at h
   ·injection h with h;injection h with h1 h2;omega
   ·cases h
theorem ny {l:List Int} {x:Int} {k:Nat} (h:fe l=.put x k):1≤k∧k≤l.length:=by
 unfold fe at h
 split at h
 ·cases h
 ·split at h
  ·cases h
  ·split at h
   ·split at h
    ·rename_i h1
     injection h with h2 h3
     have:=FI h1
     rw [List.length_drop] at this
     omega
    ·cases h
   ·split at h
    ·injection h with h2 h3;omega
    ·cases h
def quotesL (l:List Int):Option (List Int×Nat) :=
 match h:fe l with
 | .stop=>some ([],1)
 | .bad=>none
 | .put x k=>match quotesL (l.drop k) with
  | some (b,n)=>some (x::b,k+n)
  | none=>none
termination_by l.length
decreasing_by
 have:=ny h
 rw [List.length_drop]
 omega
theorem iK {l:List Int} (h:fe l=.stop):quotesL l=some ([],1):=by
 rw [quotesL];split
 ·rfl
 ·rename_i e;rw [h] at e;cases e
 ·rename_i e;rw [h] at e;cases e
theorem io {l:List Int} (h:fe l=.bad):quotesL l=none:=by
 rw [quotesL];split
 ·rename_i e;rw [h] at e;cases e
 ·rfl
 ·rename_i e;rw [h] at e;cases e
theorem jw {l:List Int} {x:Int} {k:Nat} (h:fe l=.put x k):quotesL l=(quotesL (l.drop k)).map fun p=>(x::p.1,k+p.2):=by
 rw [quotesL];split
 ·rename_i e;rw [h] at e;cases e
 ·rename_i e;rw [h] at e;cases e
 ·rename_i e
  rw [h] at e
  injection e with e1 e2
  subst e1
  subst e2
  cases quotesL (l.drop k)<;>rfl
def cR (l:List Int):List Int×Nat :=
 match quotesL (l.drop 1) with
 | some (b,n)=>(b,n+1)
 | none=>([],0)
def kN (base:Int) (l:List Int):Int:=l.foldl (fun n c=>n*base+de c) 0
def fF (l:List Int):Int:=if 1<l.length∧bAt l 0=48∧bAt l 1=120 then 16 else if 1<l.length∧bAt l 0=48∧bAt l 1=98 then 2 else 10
def dx (l:List Int):Nat:=if 1<l.length∧bAt l 0=48∧(bAt l 1=120∨bAt l 1=98) then 2 else 0
def eZ (base:Int) (l:List Int):Nat:=bu (fun c=>decide (de c<base)) l
def cj (l:List Int):Int×Nat :=
 if bAt l 0=39 then
  if 3≤l.length∧bAt l 2=39∧kr (bAt l 1)=true∧bAt l 1≠39∧bAt l 1≠92 then (bAt l 1,3) else (0,0)
 else if eZ (fF l) (l.drop (dx l))=0∨dx l=0∧1<eZ (fF l) (l.drop (dx l))∧bAt l 0=48 then (0,0)
 else if 18446744073709551616≤kN (fF l) ((l.drop (dx l)).take (eZ (fF l) (l.drop (dx l)))) then (0,0)
 else (kN (fF l) ((l.drop (dx l)).take (eZ (fF l) (l.drop (dx l)))),dx l+eZ (fF l) (l.drop (dx l)))
def eO (l:List Int):Except Int (Tok×Nat) :=
 if bG (bAt l 0)=true then .ok (⟨1,aQ (l.take (bu bn l)),0,0⟩,bu bn l)
 else if cy (bAt l 0)=true∨bAt l 0=39 then
  if (cj l).2=0∨(cj l).2<l.length∧bn (bAt l (cj l).2)=true then .error 81 else .ok (⟨2,emp,(cj l).1,0⟩,(cj l).2)
 else if bAt l 0=34 then
  if (cR l).2=0 then .error 82 else .ok (⟨3,aQ (cR l).1,0,0⟩,(cR l).2)
 else if cg l=0 then .error 80 else .ok (⟨4,aQ (l.take (cg l)),0,0⟩,cg l)
theorem oF:∀ (N:Nat) (l:List Int),l.length≤N→∀ {b:List Int} {n:Nat},quotesL l=some (b,n)→1≤n∧n≤l.length
 | 0,l,hl,b,n,h=>by
  obtain rfl:l=[]:=List.eq_nil_of_length_eq_zero (by omega)
  rw [io rfl] at h;cases h
 | N+1,l,hl,b,n,h=>by
  cases hq:fe l with
  | stop =>
   rw [iK hq] at h
   injection h with h;injection h with h1 h2
   have:l.length≠0:=fun e=>by rw [List.eq_nil_of_length_eq_zero e] at hq;cases hq
   omega
  | bad=>rw [io hq] at h;cases h
  | put x k =>
   have hk:=ny hq
   rw [jw hq] at h
   cases hr:quotesL (l.drop k) with
   | none=>rw [hr] at h;cases h
   | some p =>
    obtain ⟨b',n'⟩:=p
    have:=oF N (l.drop k) (by rw [List.length_drop];omega) hr
    rw [hr] at h
    injection h with h
    injection h with h1 h2
    rw [List.length_drop] at this
    simp only at h2
    omega
theorem EF {l:List Int} (h:l.length≠0):(cR l).2≤l.length:=by
 unfold cR
 split
 ·rename_i e
  have:=oF _ _ (Nat.le_refl _) e
  rw [List.length_drop] at this
  show _+1≤_
  omega
 ·exact Nat.zero_le _
theorem v7 (l:List Int):(cj l).2≤l.length:=by
 have hr:eZ (fF l) (l.drop (dx l))≤(l.drop (dx l)).length:=mC _ _
 have hh:dx l≤l.length:=by unfold dx;split<;>omega
 rw [List.length_drop] at hr
 unfold cj
 split
 ·split
  ·rename_i h;exact h.1
  ·exact Nat.zero_le _
 ·split
  ·exact Nat.zero_le _
  ·split
   ·exact Nat.zero_le _
   ·show _+_≤_;omega
theorem ln {l:List Int} (h0:l.length≠0) {t:Tok} {n:Nat} (h:eO l=.ok (t,n)):1≤n∧n≤l.length:=by
 unfold eO at h
 split at h
 ·rename_i hc
  injection h with h;injection h with h1 h2
  subst h2
  refine ⟨?_,mC _ _⟩
  cases l with
  | nil=>exact absurd rfl h0
  | cons c r =>
   rw [gQ,if_pos (by unfold bn;rw [show bG c=true from hc];rfl)]
   omega
 ·split at h
  ·split at h
   ·cases h
   ·injection h with h;injection h with h1 h2
    have:=v7 l
    omega
  ·split at h
   ·split at h
    ·cases h
    ·injection h with h;injection h with h1 h2
     have:=EF h0
     omega
   ·split at h
    ·cases h
    ·injection h with h;injection h with h1 h2
     have:=wJ l
     omega
def dT (l:List Int):Bool:=decide (l.length=0)||(decide (1<l.length)&&decide (bAt l 0=47)&&decide (bAt l 1=47))
def bB (at_:Nat) (l:List Int):List Tok×Nat×Int :=
 let k:=bu aE l
 if h0:dT (l.drop k)=true then ([],at_+l.length,0) else
 match h:eO (l.drop k) with
 | .error e=>([],at_+k,e)
 | .ok (t,n) =>
  let r:=bB (at_+k+n) ((l.drop k).drop n)
  ({ t with pos:=((at_+k:Nat):Int) }::r.1,r.2)
termination_by l.length
decreasing_by
 have h1:(l.drop (bu aE l)).length≠0:=fun e=>h0 (by unfold dT;rw [e];rfl)
 have:=ln h1 h
 rw [List.length_drop,List.length_drop]
 rw [List.length_drop] at h1 this
 omega
theorem eR {p:Nat} {l:List Int} (h:dT (l.drop (bu aE l))=true):bB p l=([],p+l.length,0):=by
 rw [bB];simp only [h,dite_true]
theorem fW {p:Nat} {l:List Int} {e:Int} (h0:dT (l.drop (bu aE l))=false) (h:eO (l.drop (bu aE l))=.error e):bB p l=([],p+bu aE l,e):=by
 rw [bB]
 simp only [h0,Bool.false_eq_true,dite_false]
 split
 ·rename_i e1;rw [h] at e1;injection e1 with e1;rw [e1]
 ·rename_i e1;rw [h] at e1;cases e1
theorem iC {p:Nat} {l:List Int} {t:Tok} {n:Nat} (h0:dT (l.drop (bu aE l))=false) (h:eO (l.drop (bu aE l))=.ok (t,n)) :
  bB p l=({ t with pos:=((p+bu aE l:Nat):Int) }::(bB (p+bu aE l+n) (l.drop (bu aE l+n))).1,(bB (p+bu aE l+n) (l.drop (bu aE l+n))).2):=by
 rw [bB]
 simp only [h0,Bool.false_eq_true,dite_false]
 split
 ·rename_i e1;rw [h] at e1;cases e1
 ·rename_i e1
  rw [h] at e1
  injection e1 with e1
  injection e1 with e1 e2
  subst e1
  subst e2
  rw [List.drop_drop]
def dP (l:List Int):List Tok×Nat×Int:=if 512<l.length then ([],0,3) else bB 0 l
def isT (t:Tok):Bool :=
 if t.kind=1 then iN (aa t.text) else if t.kind=2 then decide (t.text=emp) else if t.kind=3 then decide (t.text.size≤512) else if t.kind=4 then decide (0<t.text.size∧cg (aa t.text)=t.text.size) else false
def dN (t:Tok):Int:=if isT t=true∧0≤t.pos∧(t.n=0∨t.kind=2) then 0 else 1
theorem Ow {a b:Tok} (h1:a.kind=b.kind) (h2:a.text=b.text) (h3:a.n=b.n) (h4:a.pos=b.pos):a=b:=by
 cases a;cases b;simp only at h1 h2 h3 h4;subst h1;subst h2;subst h3;subst h4;rfl
instance tokDec:DecidableEq Tok:=fun a b =>
 if h:a.kind=b.kind∧a.text=b.text∧a.n=b.n∧a.pos=b.pos then isTrue (Ow h.1 h.2.1 h.2.2.1 h.2.2.2) else isFalse fun e=>h (by rw [e];exact ⟨rfl,rfl,rfl,rfl⟩)
end Go.Proofs.YthcoegkfpinlfaaGreatDoor
namespace Go.Proofs.YthcoegkfpinlfaaGreatDoor
open Go.RowKit
theorem ky {a v:List Int} {i:Nat} (h:i<a.length):bAt (a++v) i=bAt a i:=by
 unfold bAt
 rw [List.getD_eq_getElem?_getD,List.getD_eq_getElem?_getD,List.getElem?_append_left h]
theorem zzu6 {a v:List Int}:bAt (a++v) a.length=bAt v 0:=by
 unfold bAt
 rw [List.getD_eq_getElem?_getD,List.getD_eq_getElem?_getD,List.getElem?_append_right (Nat.le_refl _),Nat.sub_self]
theorem mZ {l:List Int} {n i:Nat} (h:i<n):bAt (l.take n) i=bAt l i:=by
 unfold bAt
 rw [List.getD_eq_getElem?_getD,List.getD_eq_getElem?_getD,List.getElem?_take_of_lt h]
theorem m7 {c:Int} (h:aE c=true):bn c=false∧de c=16∧c≠120∧c≠98∧c≠47:=by
 unfold aE at h
 have h1:c=32∨c=9:=by simpa using h
 rcases h1 with rfl | rfl<;>decide
def C1 (m v:List Int):Prop:=v=[]∨aE (bAt v 0)=true∨(m≠[]∧bAt v 0=bAt m 0)
structure C2 (m:List Int) (n:Nat) (w:List Int):Prop where
 len:n≤m.length
 wlen:n≤w.length
 at_:∀ i,i<n→bAt w i=bAt m i
 tak:w.take n=m.take n
 stop:n<w.length→aE (bAt w n)=true∨(n<m.length∧bAt w n=bAt m n)
theorem Gb {m v:List Int} {n:Nat} (hn:n≤m.length) (hv:C1 (m.drop n) v):C2 m n (m.take n++v):=by
 have hl:(m.take n).length=n:=by rw [List.length_take];omega
 refine ⟨hn,by rw [List.length_append,hl];omega,fun i hi=>by rw [ky (by omega),mZ hi],by rw [List.take_append_of_le_length (by omega),List.take_take,Nat.min_self],fun h=>?_⟩
 have e:bAt (m.take n++v) n=bAt v 0:=by
  have:=zzu6 (a:=m.take n) (v:=v)
  rwa [hl] at this
 rw [e]
 rcases hv with rfl | h1 | ⟨h1,h2⟩
 ·rw [List.append_nil,hl] at h;omega
 ·exact .inl h1
 ·refine .inr ⟨?_,?_⟩
  ·rcases Nat.lt_or_ge n m.length with h3 | h3
   ·exact h3
   ·exact absurd (List.drop_eq_nil_of_le h3) h1
  ·rw [h2,dZ,Nat.add_zero]
theorem CB {g:Int→Bool} {m w:List Int} {n:Nat} (hg:∀ c,aE c=true→g c=false) (S:C2 m n w) (k:Nat) (hk:k≤n) (hr:bu g (m.drop k)=n-k):bu g (w.drop k)=n-k:=by
 refine lq g _ _ (by rw [List.length_drop];have:=S.wlen;omega) (fun i hi=>?_) (fun h=>?_)
 ·rw [dZ,S.at_ _ (by omega),← dZ]
  exact oO g _ _ (by omega)
 ·rw [List.length_drop] at h
  rw [dZ,show k+(n-k)=n by omega]
  rcases S.stop (by omega) with h1 | ⟨h1,h2⟩
  ·exact hg _ h1
  ·rw [h2]
   have:=qk g (m.drop k) (by rw [hr,List.length_drop];omega)
   rwa [hr,dZ,show k+(n-k)=n by omega] at this
theorem IZ {m w:List Int} {n:Nat} (S:C2 m n w) (h:¬(n<m.length∧bn (bAt m n)=true)):¬(n<w.length∧bn (bAt w n)=true):=by
 rintro ⟨h1,h2⟩
 rcases S.stop h1 with h3 | ⟨h3,h4⟩
 ·rw [(m7 h3).1] at h2;cases h2
 ·rw [h4] at h2;exact h ⟨h3,h2⟩
theorem Kf {x y:List Int} {c:Int} {k:Nat} (h:escL x=some (c,k)) (hy:k≤y.length) (he:∀ i,i<k→bAt y i=bAt x i):escL y=some (c,k):=by
 have hk:=FI h
 unfold escL at h ⊢
 rw [if_neg (by omega)]
 split at h
 ·cases h
 ·rw [he 0 (by omega)]
  split at h
  ·exact h
  ·rename_i hn
   split at h
   ·rename_i h3
    injection h with h
    injection h with h1 h2
    subst h2
    rw [if_pos ⟨by omega,h3.2.1,by rw [he 1 (by omega)];exact h3.2.2.1,by rw [he 2 (by omega)];exact h3.2.2.2⟩,he 1 (by omega),he 2 (by omega),h1]
   ·cases h
theorem EB {x y:List Int} {c:Int} {k:Nat} (h:fe x=.put c k) (hy:k≤y.length) (he:∀ i,i<k→bAt y i=bAt x i):fe y=.put c k:=by
 have hk:=ny h
 unfold fe at h ⊢
 rw [if_neg (by omega),he 0 (by omega)]
 split at h
 ·cases h
 ·split at h
  ·cases h
  ·rename_i h34
   rw [if_neg h34]
   split at h
   ·rename_i h92
    rw [if_pos h92]
    split at h
    ·rename_i c' n' hes
     injection h with h1 h2
     subst h2
     have:=Kf hes (y:=y.drop 1) (by rw [List.length_drop];omega) (fun i hi=>by rw [dZ,dZ];exact he _ (by omega))
     rw [this,h1]
    ·cases h
   ·rename_i h92
    rw [if_neg h92]
    exact h
theorem tS:∀ (N:Nat) (x y:List Int) (b:List Int) (n:Nat),x.length≤N→quotesL x=some (b,n)→n≤y.length→(∀ i,i<n→bAt y i=bAt x i)→quotesL y=some (b,n)
 | 0,x,y,b,n,hx,h,hy,he=>by
  obtain rfl:x=[]:=List.eq_nil_of_length_eq_zero (by omega)
  rw [io rfl] at h;cases h
 | N+1,x,y,b,n,hx,h,hy,he=>by
  cases hq:fe x with
  | stop =>
   rw [iK hq] at h
   injection h with h;injection h with h1 h2
   subst h1;subst h2
   have h34:x.length≠0∧bAt x 0=34:=by
    unfold fe at hq
    split at hq
    ·cases hq
    ·rename_i h0
     split at hq
     ·rename_i h1;exact ⟨h0,h1⟩
     ·split at hq
      ·split at hq<;>cases hq
      ·split at hq<;>cases hq
   exact iK (by unfold fe;rw [if_neg (by omega),if_pos (by rw [he 0 (by omega)];exact h34.2)])
  | bad=>rw [io hq] at h;cases h
  | put c k =>
   have hk:=ny hq
   rw [jw hq] at h
   cases hr:quotesL (x.drop k) with
   | none=>rw [hr] at h;cases h
   | some p =>
    obtain ⟨b',n'⟩:=p
    rw [hr] at h
    injection h with h
    injection h with h1 h2
    simp only at h1 h2
    subst h1;subst h2
    have:=tS N (x.drop k) (y.drop k) b' n' (by rw [List.length_drop];omega) hr (by rw [List.length_drop];omega) (fun i hi=>by rw [dZ,dZ];exact he _ (by omega))
    rw [jw (EB hq (by omega) (fun i hi=>he i (by omega))),this]
    rfl
theorem vn {m w:List Int} {n:Nat} (S:C2 m n w) (k:Nat):(w.drop k).take (n-k)=(m.drop k).take (n-k):=by
 rw [← List.drop_take,← List.drop_take,S.tak]
theorem Hs {m w:List Int} {n:Nat} (S:C2 m n w) (h1:1≤n) (h2:dx m≤n) (h3:n=1→dx m=0):dx w=dx m∧fF w=fF m:=by
 have e0:=S.at_ 0 (by omega)
 rcases Nat.lt_or_ge 1 n with h | h
 ·have e1:=S.at_ 1 h
  have l1:1<m.length:=by have:=S.len;omega
  have l2:1<w.length:=by have:=S.wlen;omega
  unfold dx fF
  simp only [e0,e1,l1,l2,true_and,and_self]
 ·obtain rfl:n=1:=by omega
  have hm:=h3 rfl
  have hnm:¬(1<m.length∧bAt m 0=48∧(bAt m 1=120∨bAt m 1=98)):=by
   intro hc
   unfold dx at hm
   rw [if_pos hc] at hm
   cases hm
  have hnw:¬(1<w.length∧bAt w 0=48∧(bAt w 1=120∨bAt w 1=98)):=by
   rintro ⟨c1,c2,c3⟩
   rcases S.stop c1 with h4 | ⟨h4,h5⟩
   ·have:=m7 h4
    omega
   ·exact hnm ⟨h4,by rw [← e0];exact c2,by rw [← h5];exact c3⟩
  constructor
  ·unfold dx;rw [if_neg hnw,if_neg hnm]
  ·unfold fF
   rw [if_neg (fun h=>hnw ⟨h.1,h.2.1,.inl h.2.2⟩),if_neg (fun h=>hnw ⟨h.1,h.2.1,.inr h.2.2⟩),if_neg (fun h=>hnm ⟨h.1,h.2.1,.inl h.2.2⟩),if_neg (fun h=>hnm ⟨h.1,h.2.1,.inr h.2.2⟩)]
theorem M6 (m:List Int):fF m≤16:=by unfold fF;split<;>(try split)<;>omega
theorem BJ {m w:List Int} {n:Nat} (S:C2 m n w) (h0:n≠0) (hn:(cj m).2=n):cj w=cj m:=by
 have e0:=S.at_ 0 (by omega)
 by_cases hq:bAt m 0=39
 ·have hm:cj m=if 3≤m.length∧bAt m 2=39∧kr (bAt m 1)=true∧bAt m 1≠39∧bAt m 1≠92 then (bAt m 1,3) else (0,0):=by unfold cj;rw [if_pos hq]
  have hw:cj w=if 3≤w.length∧bAt w 2=39∧kr (bAt w 1)=true∧bAt w 1≠39∧bAt w 1≠92 then (bAt w 1,3) else (0,0):=by unfold cj;rw [if_pos (by rw [e0];exact hq)]
  by_cases hc:3≤m.length∧bAt m 2=39∧kr (bAt m 1)=true∧bAt m 1≠39∧bAt m 1≠92
  ·rw [if_pos hc] at hm
   rw [hm] at hn
   simp only at hn
   subst hn
   rw [hw,hm,S.at_ 1 (by omega),S.at_ 2 (by omega),if_pos ⟨S.wlen,hc.2⟩]
  ·rw [if_neg hc] at hm
   rw [hm] at hn
   exact absurd hn.symm h0
 ·obtain ⟨r,hr⟩:∃ r,eZ (fF m) (m.drop (dx m))=r:=⟨_,rfl⟩
  have hm:cj m=if r=0∨dx m=0∧1<r∧bAt m 0=48 then (0,0) else if 18446744073709551616≤kN (fF m) ((m.drop (dx m)).take r) then (0,0) else (kN (fF m) ((m.drop (dx m)).take r),dx m+r):=by
   unfold cj;rw [if_neg hq,hr]
  by_cases c1:r=0∨dx m=0∧1<r∧bAt m 0=48
  ·rw [if_pos c1] at hm;rw [hm] at hn;exact absurd hn.symm h0
  rw [if_neg c1] at hm
  by_cases c2:18446744073709551616≤kN (fF m) ((m.drop (dx m)).take r)
  ·rw [if_pos c2] at hm;rw [hm] at hn;exact absurd hn.symm h0
  rw [if_neg c2] at hm
  rw [hm] at hn
  simp only at hn
  have hr0:0<r:=by omega
  obtain ⟨g1,g2⟩:=Hs S (by omega) (by omega) (fun h=>by omega)
  have hrw:eZ (fF m) (w.drop (dx m))=r:=by
   have:=CB (g:=fun c=>decide (de c<fF m)) (fun c hc=>by have:=M6 m;rw [(m7 hc).2.1];exact decide_eq_false (by omega)) S (dx m) (by omega) (by show eZ _ _=_;omega)
   show bu _ _=_
   omega
  have ht:(w.drop (dx m)).take r=(m.drop (dx m)).take r:=by
   have:=vn S (dx m)
   rwa [show n-dx m=r by omega] at this
  rw [hm]
  unfold cj
  rw [if_neg (by rw [e0];exact hq),g1,g2,hrw,e0,if_neg c1,ht,if_neg c2]
theorem ti {m:List Int} (h:cg m≠0):bAt m 0=60∨bAt m 0=62∨bAt m 0∈oY:=by
 unfold cg at h
 split at h
 ·rename_i hc;omega
 ·split at h
  ·rename_i hc;exact .inr (.inr hc.2)
  ·exact absurd rfl h
theorem ql {c:Int} (h:c∈oY):aE c=false∧c≠60∧c≠62:=by
 unfold oY at h
 simp only [List.mem_cons,List.not_mem_nil,or_false] at h
 rcases h with rfl | rfl | rfl | rfl | rfl | rfl | rfl | rfl | rfl | rfl | rfl | rfl | rfl | rfl | rfl | rfl | rfl | rfl<;>decide
theorem oi {c:Int} (h:bG c=true):aE c=false∧c≠47:=by
 unfold bG at h
 unfold aE
 simp only [decide_eq_true_eq,decide_eq_false_iff_not] at h ⊢
 omega
theorem B9 {m w:List Int} {t:Tok} {n:Nat} (S:C2 m n w) (h0:m.length≠0) (hd:dT m=false) (h:eO m=.ok (t,n)):eO w=.ok (t,n)∧dT w=false∧bu aE w=0:=by
 have hn:=ln h0 h
 have e0:=S.at_ 0 (by omega)
 have hw0:0<w.length:=by have:=S.wlen;omega
 have nb:aE (bAt m 0)=false→bu aE w=0:=fun hb=>lq _ _ _ (Nat.zero_le _) (fun i hi=>absurd hi (Nat.not_lt_zero _)) (fun _=>by rw [e0];exact hb)
 have dn:(bAt m 0=47→n=1)→dT w=false:=by
  intro h47
  unfold dT at hd ⊢
  rw [decide_eq_false (show ¬m.length=0 from h0),Bool.false_or] at hd
  rw [decide_eq_false (show ¬w.length=0 by omega),Bool.false_or]
  rw [Bool.eq_false_iff]
  intro hc
  simp only [Bool.and_eq_true,decide_eq_true_eq] at hc
  obtain ⟨⟨c1,c2⟩,c3⟩:=hc
  have hn1:=h47 (by rw [← e0];exact c2)
  subst hn1
  rcases S.stop c1 with h4 | ⟨h4,h5⟩
  ·exact (m7 h4).2.2.2.2 c3
  ·rw [← e0,← h5,c2,c3] at hd
   rw [decide_eq_true h4] at hd
   cases hd
 unfold eO at h ⊢
 rw [e0]
 split at h
 ·rename_i hl
  injection h with h;injection h with h1 h2
  rw [if_pos hl]
  have hr:bu bn w=n:=by
   have:=CB (g:=bn) (fun c hc=>(m7 hc).1) S 0 (by omega) (by rw [List.drop_zero];omega)
   rwa [List.drop_zero,Nat.sub_zero] at this
  rw [hr,← h1,h2,S.tak]
  exact ⟨rfl,dn (fun e=>absurd e (oi hl).2),nb (oi hl).1⟩
 ·rename_i hl
  rw [if_neg hl]
  split at h
  ·rename_i hdg
   rw [if_pos hdg]
   split at h
   ·cases h
   ·rename_i hc
    injection h with h;injection h with h1 h2
    have hN:=BJ S (by omega) h2
    have hb:aE (bAt m 0)=false∧bAt m 0≠47:=by
     unfold cy at hdg
     unfold aE
     simp only [decide_eq_true_eq,decide_eq_false_iff_not] at hdg ⊢
     omega
    rw [hN,if_neg ?_,h1,h2]
    ·exact ⟨rfl,dn (fun e=>absurd e hb.2),nb hb.1⟩
    ·rw [h2] at hc ⊢
     rintro (hc2 | hc2)
     ·omega
     ·exact IZ S (fun h=>hc (.inr h)) hc2
  ·rename_i hdg
   rw [if_neg hdg]
   split at h
   ·rename_i h34
    rw [if_pos h34]
    split at h
    ·cases h
    ·rename_i hc
     injection h with h;injection h with h1 h2
     have hQ:cR w=cR m:=by
      unfold cR at h2 ⊢
      cases hq:quotesL (m.drop 1) with
      | none=>rw [hq] at h2;simp only at h2;omega
      | some p =>
       obtain ⟨b,k⟩:=p
       rw [hq] at h2
       simp only at h2
       have:=tS _ (m.drop 1) (w.drop 1) b k (Nat.le_refl _) hq (by rw [List.length_drop];have:=S.wlen;omega) (fun i hi=>by rw [dZ,dZ];exact S.at_ _ (by omega))
       rw [this]
     rw [hQ,if_neg hc,h1,h2]
     exact ⟨rfl,dn (fun e=>by omega),nb (by rw [h34];rfl)⟩
   ·rename_i h34
    rw [if_neg h34]
    split at h
    ·cases h
    ·rename_i hc
     injection h with h;injection h with h1 h2
     have hsg:=ti hc
     have hbn:aE (bAt m 0)=false:=by
      rcases hsg with e | e | e
      ·rw [e];rfl
      ·rw [e];rfl
      ·exact (ql e).1
     have hS:cg w=cg m:=by
      by_cases c1:1<m.length∧(bAt m 0=60∧bAt m 1=60∨bAt m 0=62∧bAt m 1=62)
      ·have hm:cg m=2:=by unfold cg;rw [if_pos c1]
       have e1:=S.at_ 1 (by omega)
       rw [hm]
       unfold cg
       rw [if_pos ⟨by have:=S.wlen;omega,by rw [e0,e1];exact c1.2⟩]
      ·have c2:0<m.length∧bAt m 0∈oY:=by
        unfold cg at hc
        rw [if_neg c1] at hc
        split at hc
        ·assumption
        ·exact absurd rfl hc
       have hm:cg m=1:=by unfold cg;rw [if_neg c1,if_pos c2]
       have:=ql c2.2
       rw [hm]
       unfold cg
       rw [if_neg (by rw [e0];omega),if_pos ⟨hw0,by rw [e0];exact c2.2⟩]
     rw [hS,if_neg hc,h2,S.tak,← h1,h2]
     refine ⟨rfl,dn (fun e=>?_),nb hbn⟩
     rw [← h2]
     unfold cg
     rw [if_neg (by omega),if_pos ⟨by omega,by rw [e];decide⟩]
theorem Og {bs x:List Int} (h:∀ c∈bs,aE c=true):bu aE (bs++x)=bs.length+bu aE x:=by
 induction bs with
 | nil=>simp
 | cons c bs ih =>
  rw [List.cons_append,gQ,if_pos (h c (by simp)),ih (fun c hc=>h c (by simp [hc])),List.length_cons]
  omega
theorem i6 {bs x:List Int} (h:∀ c∈bs,aE c=true) (q:Nat):bB q (bs++x)=bB (q+bs.length) x:=by
 have hr:=Og (x:=x) h
 have hd:∀ k,(bs++x).drop (bs.length+k)=x.drop k:=fun k=>by rw [← List.drop_drop,List.drop_left]
 cases hdn:dT (x.drop (bu aE x)) with
 | true =>
  rw [eR (l:=x) hdn,eR (l:=bs++x) (by rw [hr,hd];exact hdn),List.length_append,Nat.add_assoc]
 | false =>
  rcases ho:eO (x.drop (bu aE x)) with e | ⟨t,n⟩
  ·rw [fW (l:=x) hdn ho,fW (l:=bs++x) (by rw [hr,hd];exact hdn) (by rw [hr,hd];exact ho),hr,Nat.add_assoc]
  ·rw [iC (l:=x) hdn ho,iC (l:=bs++x) (by rw [hr,hd];exact hdn) (by rw [hr,hd];exact ho),hr,Nat.add_assoc bs.length,hd]
   simp only [Nat.add_assoc]
theorem rk {w:List Int} {t:Tok} {n:Nat} (h1:bu aE w=0) (h2:dT w=false) (h3:eO w=.ok (t,n)) (q:Nat):bB q w=({ t with pos:=(q:Int) }::(bB (q+n) (w.drop n)).1,(bB (q+n) (w.drop n)).2):=by
 have:=iC (p:=q) (l:=w) (t:=t) (n:=n) (by rw [h1];exact h2) (by rw [h1];exact h3)
 rw [h1,Nat.zero_add,Nat.add_zero] at this
 exact this
theorem ve (m:List Int):∀ c∈m.take (bu aE m),aE c=true:=by
 intro c hc
 obtain ⟨i,hi,rfl⟩:=List.mem_iff_getElem.1 hc
 rw [List.length_take] at hi
 have:=oO aE m i (by omega)
 rw [List.getElem_take]
 have hg:=rB (l:=m) (i:=i) (by omega)
 rw [List.getElem?_eq_getElem (by omega)] at hg
 injection hg with hg
 rw [hg]
 exact this
def dH (t:Tok):Tok:={ t with pos:=0 }
def xh (l:List Int):List Tok→Nat
 | []=>l.length
 | t::_=>t.pos.toNat
def pcs (l:List Int) (bl:Nat→List Int):Nat→List Tok→List Int
 | _,[]=>[]
 | i,t::ts=>bl i++((l.drop t.pos.toNat).take (xh l ts-t.pos.toNat)++pcs l bl (i+1) ts)
theorem kV {p:Nat} {m:List Int} {t:Tok} {ts:List Tok} {n:Nat} {e:Int} (h:bB p m=(t::ts,n,e)):∃ t0 n1,dT (m.drop (bu aE m))=false∧eO (m.drop (bu aE m))=.ok (t0,n1)∧t={ t0 with pos:=((p+bu aE m:Nat):Int) }∧bB (p+bu aE m+n1) (m.drop (bu aE m+n1))=(ts,n,e):=by
 cases hdn:dT (m.drop (bu aE m)) with
 | true=>rw [eR hdn] at h;cases h
 | false =>
  rcases ho:eO (m.drop (bu aE m)) with e' | ⟨t0,n1⟩
  ·rw [fW hdn ho] at h;cases h
  ·rw [iC hdn ho] at h
   injection h with h1 h2
   injection h1 with h1 h3
   exact ⟨t0,n1,rfl,rfl,h1.symm,Prod.ext h3 h2⟩
theorem Ff {p:Nat} {m:List Int} {n:Nat} (h:bB p m=([],n,0)) (he:∀ l e,eO l=.error e→e≠0):dT (m.drop (bu aE m))=true:=by
 cases hdn:dT (m.drop (bu aE m)) with
 | true=>rfl
 | false =>
  rcases ho:eO (m.drop (bu aE m)) with e' | ⟨t0,n1⟩
  ·rw [fW hdn ho] at h
   injection h with h1 h2
   injection h2 with h2 h3
   exact absurd h3 (he _ _ ho)
  ·rw [iC hdn ho] at h;cases h
theorem G8 {m tail:List Int} (h:dT (m.drop (bu aE m))=true) (ht:∃ r,tail=32::47::47::r) (q:Nat):(bB q (m++tail)).1=[]∧(bB q (m++tail)).2.2=0:=by
 obtain ⟨r,rfl⟩:=ht
 have hs:m++32::47::47::r=m.take (bu aE m)++(m.drop (bu aE m)++32::47::47::r):=by rw [← List.append_assoc,List.take_append_drop]
 rw [hs,i6 (ve m)]
 obtain ⟨x,hx⟩:∃ x,m.drop (bu aE m)=x:=⟨_,rfl⟩
 rw [hx] at h ⊢
 have hslash:∀ (p:Nat) (y:List Int),(bB p (47::47::y)).1=[]∧(bB p (47::47::y)).2.2=0:=by
  intro p y
  have hb:bu aE (47::47::y)=0:=by rw [gQ];rfl
  rw [eR (by rw [hb,List.drop_zero];unfold dT;simp [bAt])]
  exact ⟨rfl,rfl⟩
 unfold dT at h
 simp only [Bool.or_eq_true,Bool.and_eq_true,decide_eq_true_eq] at h
 match x,h with
 | [],_ =>
  have:=i6 (bs:=[32]) (x:=47::47::r) (by simp [aE]) (q+(m.take (bu aE m)).length)
  rw [List.nil_append,show (32:Int)::47::47::r=[32]++47::47::r from rfl,this]
  exact hslash _ _
 | [a],h=>simp at h
 | a::b::y,h =>
  have h2:a=47∧b=47:=by
   rcases h with h | ⟨⟨_,h1⟩,h2⟩
   ·simp at h
   ·exact ⟨h1,h2⟩
  obtain ⟨rfl,rfl⟩:=h2
  exact hslash _ _
theorem QT {l:List Int} {bl:Nat→List Int} {tail:List Int} (hbl:∀ i,∀ c∈bl i,aE c=true) (ht:∃ r,tail=32::47::47::r) (he:∀ l e,eO l=.error e→e≠0) :
  ∀ (ts:List Tok) (t:Tok) (p:Nat) (i n:Nat),p≤l.length→bB p (l.drop p)=(t::ts,n,0)→∀ q,(bB q (pcs l bl i (t::ts)++tail)).1.map dH=(t::ts).map dH∧(bB q (pcs l bl i (t::ts)++tail)).2.2=0
 | ts,t,p,i,n,hp,h,q=>by
  obtain ⟨t0,n1,hd,ho,rfl,hr⟩:=kV h
  obtain ⟨k,hk⟩:∃ k,bu aE (l.drop p)=k:=⟨_,rfl⟩
  rw [hk] at hd ho hr ⊢
  rw [List.drop_drop] at hd ho hr
  rw [← Nat.add_assoc] at hr
  obtain ⟨m1,hm1⟩:∃ m1,l.drop (p+k)=m1:=⟨_,rfl⟩
  rw [hm1] at hd ho
  have h0:m1.length≠0:=fun e=>by
   have:dT m1=true:=by unfold dT;rw [e];rfl
   rw [this] at hd;cases hd
  have hn:=ln h0 ho
  have hl1:m1.length=l.length-(p+k):=by rw [← hm1,List.length_drop]
  have hdd:l.drop (p+k+n1)=m1.drop n1:=by rw [← List.drop_drop,hm1]
  have hpos:(((p+k:Nat):Int)).toNat=p+k:=Int.toNat_natCast _
  rw [pcs,hpos,hm1,List.append_assoc,i6 (hbl i)]
  generalize q+(bl i).length=q2
  cases ts with
  | nil =>
   rw [pcs,List.append_nil,xh,List.take_of_length_le (by omega)]
   have hB:C1 (m1.drop n1) (m1.drop n1++tail):=by
    obtain ⟨r,rfl⟩:=ht
    cases hx:m1.drop n1 with
    | nil=>exact .inr (.inl rfl)
    | cons c y=>exact .inr (.inr ⟨by simp,rfl⟩)
   obtain ⟨g1,g2,g3⟩:=B9 (Gb hn.2 hB) h0 hd ho
   rw [show m1.take n1++(m1.drop n1++tail)=m1++tail by rw [← List.append_assoc,List.take_append_drop]] at g1 g2 g3
   rw [rk g3 g2 g1]
   have hdr:(m1++tail).drop n1=m1.drop n1++tail:=List.drop_append_of_le_length hn.2
   rw [hdr]
   rw [hdd] at hr
   obtain ⟨f1,f2⟩:=G8 (Ff hr he) ht (q2+n1)
   exact ⟨by simp only [List.map_cons,f1,List.map_nil];rfl,f2⟩
  | cons t2 ts2 =>
   obtain ⟨t20,n2,hd2,ho2,e2,hr2⟩:=kV hr
   obtain ⟨k2,hk2⟩:∃ k2,bu aE (l.drop (p+k+n1))=k2:=⟨_,rfl⟩
   have hk2l:k2≤m1.length-n1:=by
    have:bu aE (l.drop (p+k+n1))≤(l.drop (p+k+n1)).length:=mC _ _
    rw [hdd,List.length_drop] at this
    rw [← hk2,hdd];exact this
   have ep:xh l (t2::ts2)-(p+k)=n1+k2:=by
    unfold xh
    rw [e2,hk2]
    simp only [Int.toNat_natCast]
    omega
   rw [ep]
   have htk:m1.take (n1+k2)=m1.take n1++(m1.drop n1).take k2:=by rw [List.take_add]
   have hbk:∀ c∈(m1.drop n1).take k2,aE c=true:=by rw [← hdd,← hk2];exact ve _
   rw [htk,List.append_assoc,List.append_assoc]
   have hne:m1.drop n1≠[]:=by
    intro e
    have:dT ((l.drop (p+k+n1)).drop (bu aE (l.drop (p+k+n1))))=true:=by rw [hdd,e];rfl
    rw [this] at hd2;cases hd2
   have hn1:n1<m1.length:=by
    rcases Nat.lt_or_ge n1 m1.length with h1 | h1
    ·exact h1
    ·exact absurd (List.drop_eq_nil_of_le h1) hne
   have hB:C1 (m1.drop n1) ((m1.drop n1).take k2++(pcs l bl (i+1) (t2::ts2)++tail)):=by
    rcases Nat.eq_zero_or_pos k2 with z | z
    ·subst z
     rw [List.take_zero,List.nil_append,pcs]
     cases hb:bl (i+1) with
     | cons c y=>exact .inr (.inl (hbl (i+1) c (by rw [hb];simp)))
     | nil =>
      refine .inr (.inr ⟨hne,?_⟩)
      have hp2:t2.pos.toNat=p+k+n1:=by rw [e2,hk2];simp only [Int.toNat_natCast,Nat.add_zero]
      rw [List.nil_append,hp2,hdd,List.append_assoc]
      have hn2:=ln (l:=(l.drop (p+k+n1)).drop (bu aE (l.drop (p+k+n1)))) (fun e=>by
       have:dT ((l.drop (p+k+n1)).drop (bu aE (l.drop (p+k+n1))))=true:=by unfold dT;rw [e];rfl
       rw [this] at hd2;cases hd2) ho2
      have hend:0<xh l ts2-(p+k+n1):=by
       cases ts2 with
       | nil=>show 0<l.length-(p+k+n1);omega
       | cons t3 ts3 =>
        obtain ⟨_,n3,_,_,e3,_⟩:=kV hr2
        show 0<t3.pos.toNat-(p+k+n1)
        rw [e3]
        simp only [Int.toNat_natCast]
        omega
      have hl3:0<((m1.drop n1).take (xh l ts2-(p+k+n1))).length:=by rw [List.length_take,List.length_drop];omega
      rw [ky hl3,mZ hend]
    ·have hl3:0<((m1.drop n1).take k2).length:=by rw [List.length_take,List.length_drop];omega
     exact .inr (.inr ⟨hne,by rw [ky hl3,mZ z]⟩)
   obtain ⟨g1,g2,g3⟩:=B9 (Gb hn.2 hB) h0 hd ho
   rw [rk g3 g2 g1]
   have hdr:(m1.take n1++((m1.drop n1).take k2++(pcs l bl (i+1) (t2::ts2)++tail))).drop n1=(m1.drop n1).take k2++(pcs l bl (i+1) (t2::ts2)++tail):=by
    have:(m1.take n1).length=n1:=by rw [List.length_take];omega
    rw [List.drop_append_of_le_length (by omega),List.drop_of_length_le (by omega),List.nil_append]
   rw [hdr,i6 hbk]
   have ih:=QT (tail:=tail) hbl ht he ts2 t2 (p+k+n1) (i+1) n (by omega) hr (q2+n1+((m1.drop n1).take k2).length)
   exact ⟨by rw [List.map_cons,ih.1];rfl,ih.2⟩
termination_by ts=>ts.length
def Je (l:List Int):List Tok→Prop
 | []=>True
 | t::ts=>(∃ a:Nat,t.pos=(a:Int)∧a≤xh l ts)∧xh l ts≤l.length∧Je l ts
theorem ub {l:List Int}:∀ (ts:List Tok) (p n:Nat) (e:Int),p≤l.length→bB p (l.drop p)=(ts,n,e)→Je l ts∧p≤xh l ts∧xh l ts≤l.length∧ts.length≤l.length-p
 | [],p,n,e,hp,h=>⟨trivial,hp,Nat.le_refl _,Nat.zero_le _⟩
 | t::ts,p,n,e,hp,h=>by
  obtain ⟨t0,n1,hd,ho,rfl,hr⟩:=kV h
  have hk:bu aE (l.drop p)≤(l.drop p).length:=mC _ _
  rw [List.length_drop] at hk
  have h0:((l.drop p).drop (bu aE (l.drop p))).length≠0:=fun e=>by
   have:dT ((l.drop p).drop (bu aE (l.drop p)))=true:=by unfold dT;rw [e];rfl
   rw [this] at hd;cases hd
  have hn:=ln h0 ho
  rw [List.length_drop,List.length_drop] at hn
  rw [List.drop_drop,← Nat.add_assoc] at hr
  obtain ⟨g1,g2,g3,g4⟩:=ub ts (p+bu aE (l.drop p)+n1) n e (by omega) hr
  refine ⟨⟨⟨_,rfl,by omega⟩,g3,g1⟩,?_,?_,?_⟩
  ·show p≤(((p+bu aE (l.drop p):Nat):Int)).toNat
   rw [Int.toNat_natCast];omega
  ·show (((p+bu aE (l.drop p):Nat):Int)).toNat≤_
   rw [Int.toNat_natCast];omega
  ·rw [List.length_cons];omega
end Go.Proofs.YthcoegkfpinlfaaGreatDoor
namespace Go.Proofs.YthcoegkfpinlfaaGreatDoor
open Go.RowKit
theorem rd:∀ (N:Nat) (x b:List Int) (n:Nat),x.length≤N→quotesL x=some (b,n)→b.length+1≤n
 | 0,x,b,n,hx,h=>by
  obtain rfl:x=[]:=List.eq_nil_of_length_eq_zero (by omega)
  rw [io rfl] at h;cases h
 | N+1,x,b,n,hx,h=>by
  cases hq:fe x with
  | stop =>
   rw [iK hq] at h
   injection h with h;injection h with h1 h2
   subst h1;subst h2
   exact Nat.le_refl _
  | bad=>rw [io hq] at h;cases h
  | put c k =>
   have hk:=ny hq
   rw [jw hq] at h
   cases hr:quotesL (x.drop k) with
   | none=>rw [hr] at h;cases h
   | some p =>
    obtain ⟨b',n'⟩:=p
    rw [hr] at h
    injection h with h
    injection h with h1 h2
    simp only at h1 h2
    subst h1;subst h2
    have:=rd N (x.drop k) b' n' (by rw [List.length_drop];omega) hr
    rw [List.length_cons]
    omega
theorem CM {m:List Int} (hr:∀ z∈m,0≤z∧z≤255) (n:Nat):aa (aQ (m.take n))=m.take n:=dh fun z hz=>hr z (List.mem_of_mem_take hz)
theorem tp (m:List Int) (n:Nat):(aQ (m.take n)).size=min n m.length:=by rw [iJ,List.length_take]
theorem NP {m:List Int} (hr:∀ z∈m,0≤z∧z≤255) (hl:m.length≤512) (h0:m.length≠0) {t:Tok} {n:Nat} (h:eO m=.ok (t,n)):isT t=true∧(t.n=0∨t.kind=2):=by
 have hn:=ln h0 h
 unfold eO at h
 split at h
 ·rename_i hl
  injection h with h;injection h with h1 h2
  subst h1
  refine ⟨?_,.inl rfl⟩
  unfold isT
  rw [if_pos rfl]
  simp only [CM hr]
  unfold iN
  have h2':bu bn m=n:=h2
  have hlen:(m.take (bu bn m)).length=n:=by rw [List.length_take];omega
  have hrun:bu bn (m.take (bu bn m))=n:=lq _ _ _ (by omega) (fun i hi=>by rw [mZ (by omega)];exact oO _ _ _ (by omega)) (fun h=>by omega)
  rw [hlen,hrun,mZ (by omega),hl]
  simp
  omega
 ·split at h
  ·split at h
   ·cases h
   ·injection h with h;injection h with h1 h2
    subst h1
    exact ⟨by unfold isT;rw [if_neg (by simp),if_pos rfl];exact decide_eq_true rfl,.inr rfl⟩
  ·split at h
   ·split at h
    ·cases h
    ·rename_i hc
     injection h with h;injection h with h1 h2
     subst h1
     refine ⟨?_,.inl rfl⟩
     unfold isT
     rw [if_neg (by simp),if_neg (by simp),if_pos rfl]
     refine decide_eq_true ?_
     simp only
     rw [iJ]
     unfold cR at hc ⊢
     cases hq:quotesL (m.drop 1) with
     | none=>rw [hq] at hc;simp at hc
     | some p =>
      obtain ⟨b,k⟩:=p
      have h1:=rd _ _ _ _ (Nat.le_refl _) hq
      have h2:=oF _ _ (Nat.le_refl _) hq
      rw [List.length_drop] at h2
      simp only
      omega
   ·split at h
    ·cases h
    ·rename_i hc
     injection h with h;injection h with h1 h2
     subst h1
     refine ⟨?_,.inl rfl⟩
     unfold isT
     rw [if_neg (by simp),if_neg (by simp),if_neg (by simp),if_pos rfl]
     refine decide_eq_true ?_
     simp only
     have hsl:=wJ m
     rw [CM hr,tp,Nat.min_eq_left hsl]
     refine ⟨by omega,?_⟩
     obtain ⟨w,hw⟩:∃ w,m.take (cg m)=w:=⟨_,rfl⟩
     have hwl:w.length=cg m:=by rw [← hw,List.length_take];omega
     have hwa:∀ i,i<cg m→bAt w i=bAt m i:=fun i hi=>by rw [← hw];exact mZ hi
     rw [hw]
     by_cases c1:1<m.length∧(bAt m 0=60∧bAt m 1=60∨bAt m 0=62∧bAt m 1=62)
     ·have hm:cg m=2:=by unfold cg;rw [if_pos c1]
      rw [hm] at hwl hwa
      rw [hm]
      unfold cg
      rw [if_pos ⟨by omega,by rw [hwa 0 (by omega),hwa 1 (by omega)];exact c1.2⟩]
     ·have c2:0<m.length∧bAt m 0∈oY:=by
       unfold cg at hc
       rw [if_neg c1] at hc
       split at hc
       ·assumption
       ·exact absurd rfl hc
      have hm:cg m=1:=by unfold cg;rw [if_neg c1,if_pos c2]
      rw [hm] at hwl hwa
      rw [hm]
      unfold cg
      rw [if_neg (by omega),if_pos ⟨by omega,by rw [hwa 0 (by omega)];exact c2.2⟩]
theorem If {m:List Int} (hl:m.length≤512) (h0:m.length≠0) {t:Tok} {n:Nat} (h:eO m=.ok (t,n)):t.text.size≤512:=by
 have hn:=ln h0 h
 unfold eO at h
 split at h
 ·injection h with h;injection h with h1 h2
  subst h1
  simp only
  rw [tp];omega
 ·split at h
  ·split at h
   ·cases h
   ·injection h with h;injection h with h1 h2
    subst h1
    exact Nat.zero_le _
  ·split at h
   ·split at h
    ·cases h
    ·rename_i hc
     injection h with h;injection h with h1 h2
     subst h1
     simp only
     rw [iJ]
     unfold cR at hc ⊢
     cases hq:quotesL (m.drop 1) with
     | none=>rw [hq] at hc;simp at hc
     | some p =>
      obtain ⟨b,k⟩:=p
      have h1:=rd _ _ _ _ (Nat.le_refl _) hq
      have h2:=oF _ _ (Nat.le_refl _) hq
      rw [List.length_drop] at h2
      simp only
      omega
   ·split at h
    ·cases h
    ·injection h with h;injection h with h1 h2
     subst h1
     simp only
     rw [tp];omega
def Rises (len:Nat):Nat→List Tok→Prop
 | _,[]=>True
 | p,t::ts=>(dN t=0∧t.text.size≤512)∧∃ a:Nat,t.pos=(a:Int)∧p≤a∧a<len∧Rises len (a+1) ts
theorem Rises.mono {len:Nat}:∀ {ts:List Tok} {p q:Nat},q≤p→Rises len p ts→Rises len q ts
 | [],_,_,_,_=>trivial
 | _::_,_,_,hq,⟨h1,a,h2,h3,h4,h5⟩=>⟨h1,a,h2,by omega,h4,h5⟩
theorem uc {l:List Int} (hr:∀ z∈l,0≤z∧z≤255) (hl:l.length≤512):∀ (ts:List Tok) (p n:Nat) (e:Int),p≤l.length→bB p (l.drop p)=(ts,n,e)→Rises l.length p ts
 | [],_,_,_,_,_=>trivial
 | t::ts,p,n,e,hp,h=>by
  obtain ⟨t0,n1,hd,ho,rfl,hrest⟩:=kV h
  have hk:bu aE (l.drop p)≤(l.drop p).length:=mC _ _
  rw [List.length_drop] at hk
  have h0:((l.drop p).drop (bu aE (l.drop p))).length≠0:=fun e=>by
   have:dT ((l.drop p).drop (bu aE (l.drop p)))=true:=by unfold dT;rw [e];rfl
   rw [this] at hd;cases hd
  have hn:=ln h0 ho
  have hm:=NP (fun z hz=>hr z (List.mem_of_mem_drop (List.mem_of_mem_drop hz))) (by rw [List.length_drop,List.length_drop];omega) h0 ho
  rw [List.length_drop,List.length_drop] at hn
  rw [List.drop_drop,← Nat.add_assoc] at hrest
  have ih:=uc hr hl ts (p+bu aE (l.drop p)+n1) n e (by omega) hrest
  refine ⟨?_,_,rfl,by omega,by omega,ih.mono (by omega)⟩
  have hsm:=If (by rw [List.length_drop,List.length_drop];omega) h0 ho
  refine ⟨?_,hsm⟩
  unfold dN
  have hi:isT { t0 with pos:=((p+bu aE (l.drop p):Nat):Int) }=isT t0:=rfl
  rw [hi,if_pos ⟨hm.1,Int.natCast_nonneg _,hm.2⟩]
end Go.Proofs.YthcoegkfpinlfaaGreatDoor
namespace Go.Proofs.YthcoegkfpinlfaaGreatDoor
open Go.RowKit
def mg:mW Tok where
 dec:=fun | [.v (.int .i64 k),.v (.string s),.v (.int .u64 n),.v (.int .i64 p)]=>some ⟨k,s,n,p⟩ | _=>none
 enc:=fun t=>[.v (.int .i64 t.kind),.v (.string t.text),.v (.int .u64 t.n),.v (.int .i64 t.pos)]
 inv:=by
  intro c x h
  split at h
  ·injection h with h;subst h;rfl
  ·cases h
 back:=by intro x;rfl
theorem oT (t:Tok):mg.enc t=[.v (.int .i64 t.kind),.v (.string t.text),.v (.int .u64 t.n),.v (.int .i64 t.pos)]:=rfl
def Ag:ByteArray:=⟨#[44,91,93,33,35,58,43,45,42,47,37,38,124,94,126,40,41,61]⟩
def jE (l:List Int):Blk:=⟨true,5,1,l.map fJ⟩
theorem JT (l:List Int):dA p8 (l.map fJ)=some l:=qR AX l
def mB (l:List Int):AV:=.tup [.l (.v (.string (aQ (cR l).1))),.l (.v (.int .i64 (cR l).2))]
def Cl (s:ByteArray) (i:Nat) (l:List Int):Prop:=1≤i∧(i≤s.size∨i=1)∧l.length≤i∧quotesL ((aa s).drop 1)=(quotesL ((aa s).drop i)).map fun p=>(l++p.1,i-1+p.2)
theorem s9 {s:ByteArray} {i:Nat} {l:List Int} (h:Cl s i l) {x:Int} {k:Nat} (hq:fe ((aa s).drop i)=.put x k):Cl s (i+k) (l++[x]):=by
 obtain ⟨h1,h2,h3,h4⟩:=h
 have hk:=ny hq
 rw [List.length_drop,ar] at hk
 refine ⟨by omega,by omega,by simp;omega,?_⟩
 rw [h4,jw hq,List.drop_drop]
 cases quotesL ((aa s).drop (i+k)) with
 | none=>rfl
 | some p=>simp;omega
theorem EC {s:ByteArray} {i:Nat} {l:List Int} (h:Cl s i l) (hq:fe ((aa s).drop i)=.stop):cR (aa s)=(l,i+1):=by
 obtain ⟨h1,h2,h3,h4⟩:=h
 unfold cR
 rw [h4,iK hq]
 simp
 omega
theorem sZ {s:ByteArray} {i:Nat} {l:List Int} (h:Cl s i l) (hq:fe ((aa s).drop i)=.bad):cR (aa s)=([],0):=by
 obtain ⟨h1,h2,h3,h4⟩:=h
 unfold cR
 rw [h4,io hq]
 rfl
theorem sU (base:Int) (l:List Int) (c:Int):kN base (l++[c])=kN base l*base+de c:=by
 unfold kN;rw [List.foldl_append];rfl
def lu (t:Tok):SV:=.agg [.v (.int .i64 t.kind),.v (.string t.text),.v (.int .u64 t.n),.v (.int .i64 t.pos)]
def kP (r:Except Int (Tok×Nat)):AV:=match r with
 | .ok p=>.tup [lu p.1,.l (.v (.int .i64 p.2)),.l (.v (.int .i64 0))]
 | .error e=>.tup [lu ⟨0,emp,0,0⟩,.l (.v (.int .i64 0)),.l (.v (.int .i64 e))]
def j9 (l:List Tok):SV:=.l (.d (.sd 4 (l.map mg.enc)))
def pW (l:List Tok):Blk:=⟨true,93,4,(l.map mg.enc).map dj⟩
def F0:SV:=.l (.v (.slice none 0 0))
def mE (r:List Tok×Nat×Int) (long:Bool):AV:=.tup [if long=true then F0 else j9 r.1,.l (.v (.int .i64 r.2.1)),.l (.v (.int .i64 r.2.2))]
def ij (l:List Int):Bool:=decide (512<l.length)
theorem KT {l:List Int} {e:Int} (h:eO l=.error e):e=80∨e=81∨e=82:=by
 unfold eO at h
 split at h
 ·cases h
 ·split at h
  ·split at h
   ·injection h with h;omega
   ·cases h
  ·split at h
   ·split at h
    ·injection h with h;omega
    ·cases h
   ·split at h
    ·injection h with h;omega
    ·cases h
def Mi (s:ByteArray) (p:Nat×List Tok):Prop:=p.1≤s.size∧p.2.length≤p.1∧bB 0 (aa s)=(p.2++(bB p.1 ((aa s).drop p.1)).1,(bB p.1 ((aa s).drop p.1)).2)
theorem IW (l:List Tok) (t:Tok):(l.map mg.enc).map dj++[[LV.v (.int .i64 t.kind),.v (.string t.text),.v (.int .u64 t.n),.v (.int .i64 t.pos)]]=((l++[t]).map mg.enc).map dj:=by
 rw [List.map_append,List.map_append];rfl
def sR (r:List Tok×Nat×Int):AV:=if r.2.2=0 then .tup [j9 r.1,.l (.v (.int .i64 r.2.1)),.l (.v (.int .i64 0))] else .tup [F0,.l (.v (.int .i64 r.2.1)),.l (.v (.int .i64 r.2.2))]
end Go.Proofs.YthcoegkfpinlfaaGreatDoor
namespace Go.Proofs.YthcoegkfpinlfaaGreatDoor.Lx
open Go.RowKit
def cB (l:List Int):AV:=.tup [.l (.v (.int .u64 (cj l).1)),.l (.v (.int .i64 (cj l).2))]
end Go.Proofs.YthcoegkfpinlfaaGreatDoor.Lx
