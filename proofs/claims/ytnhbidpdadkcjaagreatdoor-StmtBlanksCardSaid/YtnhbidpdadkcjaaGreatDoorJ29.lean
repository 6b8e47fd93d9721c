import Derived.Test.YtnhbidpdadkcjaaGreatDoorJ10
import Derived.Test.YtnhbidpdadkcjaaGreatDoorJ12
import Derived.Test.YtnhbidpdadkcjaaGreatDoorJ11
import Derived.Test.YtnhbidpdadkcjaaGreatDoorChecked
import Derived.Test.YtnhbidpdadkcjaaGreatDoorJ13
set_option linter.unusedVariables false
set_option linter.unusedSimpArgs false
set_option maxRecDepth 100000
set_option maxHeartbeats 8000000
namespace Go.Proofs.YtnhbidpdadkcjaaGreatDoor
open Go.RowKit
def aO (n:Int):Bool:=decide (n=32∨n=9)
def hZ (n:Int):Bool:=decide (32≤n∧n≤126)
def bw (n:Int):Int:=if 48≤n∧n≤57 then n-48 else if 97≤n∧n≤102 then n-87 else if 65≤n∧n≤70 then n-55 else 16
theorem kV (n:Int):0≤bw n∧bw n≤16:=by unfold bw;split<;>(try split)<;>(try split)<;>omega
def bAt (l:List Int) (i:Nat):Int:=l.getD i 0
theorem qf {c:Int} {l:List Int}:bAt (c::l) 0=c:=rfl
theorem J9 {c:Int} {l:List Int} {i:Nat}:bAt (c::l) (i+1)=bAt l i:=rfl
theorem iF (l:List Int) (i j:Nat):bAt (l.drop i) j=bAt l (i+j):=by
 unfold bAt
 rw [List.getD_eq_getElem?_getD,List.getD_eq_getElem?_getD,List.getElem?_drop]
theorem wj {l:List Int} {i:Nat} (h:i<l.length):l[i]? = some (bAt l i):=by
 unfold bAt
 rw [List.getD_eq_getElem?_getD,List.getElem?_eq_getElem h];rfl
theorem mH (s:ByteArray) (i:Nat):aj s i=bAt (ab s) i:=by
 rcases Nat.lt_or_ge i s.size with h | h
 ·have:=d8 h
  unfold bAt
  rw [List.getD_eq_getElem?_getD (l:=ab s),this];rfl
 ·unfold bAt aj
  have h1:s.data.toList.length≤i:=by simpa using h
  have h2:(ab s).length≤i:=by rw [aW];exact h
  rw [List.getD_eq_getElem?_getD (l:=ab s),List.getElem?_eq_none h2,List.getD_eq_getElem?_getD,Int.toNat_natCast,List.getElem?_eq_none h1];rfl
theorem lu (s:ByteArray):aj s 0=bAt (ab s) 0:=mH s 0
theorem vg (s:ByteArray):aj s 1=bAt (ab s) 1:=mH s 1
theorem vh (s:ByteArray):aj s 2=bAt (ab s) 2:=mH s 2
theorem ji (s:ByteArray) (i:Nat):ab (s.extract i s.size)=(ab s).drop i:=by
 rw [d7,List.take_of_length_le]
 rw [List.length_drop,aW]
 exact Nat.le_refl _
theorem pU (s:ByteArray) (j:Nat):ab (s.extract 0 j)=(ab s).take j:=by
 rw [d7,List.drop_zero,Nat.sub_zero]
theorem OR (s:ByteArray) (j:Nat):s.extract 0 j=bu ((ab s).take j):=by
 rw [← pU,lX]
theorem HB {l:List Int} {i:Nat} (h:i<l.length):l.drop i=bAt l i::l.drop (i+1):=by
 rw [List.drop_eq_getElem_cons h]
 have:=wj h
 rw [List.getElem?_eq_getElem h] at this
 injection this with this
 rw [this]
def bO (g:Int→Bool) (l:List Int):Nat:=(l.takeWhile g).length
theorem Db (g:Int→Bool):bO g []=0:=rfl
theorem gH (g:Int→Bool) (c:Int) (l:List Int):bO g (c::l)=if g c=true then 1+bO g l else 0:=by
 unfold bO
 rw [List.takeWhile_cons]
 split<;>simp [Nat.add_comm]
theorem lp (g:Int→Bool) (l:List Int):bO g l≤l.length:=(List.takeWhile_sublist g).length_le
theorem Jc (g:Int→Bool) (l:List Int) (i:Nat) (h:i<l.length):bO g (l.drop i)=if g (bAt l i)=true then 1+bO g (l.drop (i+1)) else 0:=by
 rw [HB h,gH]
theorem MS (g:Int→Bool) (l:List Int) (i:Nat) (h:l.length≤i):bO g (l.drop i)=0:=by
 rw [List.drop_eq_nil_of_le h];rfl
theorem nP (g:Int→Bool):∀ (l:List Int) (i:Nat),i<bO g l→g (bAt l i)=true
 | [],i,h=>by simp [Db] at h
 | c::l,i,h=>by
  rw [gH] at h
  split at h
  ·rename_i hc
   cases i with
   | zero=>exact hc
   | succ i=>exact nP g l i (by omega)
  ·omega
theorem ri (g:Int→Bool):∀ (l:List Int),bO g l<l.length→g (bAt l (bO g l))=false
 | [],h=>by simp at h
 | c::l,h=>by
  rw [gH] at h ⊢
  split
  ·rename_i hc
   rw [if_pos hc] at h
   rw [Nat.add_comm,J9]
   exact ri g l (by simp at h;omega)
  ·rename_i hc
   simpa [bAt] using hc
theorem tV (g:Int→Bool) (l:List Int) (k:Nat) (hk:k≤l.length) (hin:∀ i,i<k→g (bAt l i)=true) (hst:k<l.length→g (bAt l k)=false):bO g l=k:=by
 rcases Nat.lt_trichotomy (bO g l) k with h | h | h
 ·have:=ri g l (by omega)
  rw [hin _ h] at this;cases this
 ·exact h
 ·have h1:=nP g l k h
  rw [hst (by have:=lp g l;omega)] at h1;cases h1
def fI (l:List Int):Bool:=decide (0<l.length)&&fU (bAt l 0)&&decide (bO dc l=l.length)
def oV:List Int:=[44,91,93,33,35,58,43,45,42,47,37,38,124,94,126,40,41,61]
def dr (l:List Int):Nat :=
 if 1<l.length∧(bAt l 0=60∧bAt l 1=60∨bAt l 0=62∧bAt l 1=62) then 2
 else if 0<l.length∧bAt l 0∈oV then 1 else 0
theorem ye (l:List Int):dr l≤l.length:=by unfold dr;split<;>(try split)<;>omega
def dX (c:Int):Int:=if c=0 then 48 else if c=9 then 116 else if c=10 then 110 else if c=13 then 114 else if c=34∨c=92 then c else 0
def mN (c:Int):Int:=if c<10 then 48+c else 87+c
def iP (c:Int):List Int:=if dX c≠0 then [92,dX c] else if hZ c=true then [c] else [92,120,mN (c / 16),mN (c % 16)]
def oo (l:List Int):List Int:=l.flatMap iP
def sD (l:List Int):List Int:=34::(oo l++[34])
def longL (c:Int):Option Int:=if c=48 then some 0 else if c=116 then some 9 else if c=110 then some 10 else if c=114 then some 13 else if c=34∨c=92 then some c else none
def lT (l:List Int):Option (Int×Nat) :=
 if l.length=0 then none else
 match longL (bAt l 0) with
 | some x=>some (x,1)
 | none=>if 2<l.length∧bAt l 0=120∧bw (bAt l 1)<16∧bw (bAt l 2)<16 then some (16*bw (bAt l 1)+bw (bAt l 2),3) else none
inductive QS where
 | stop
 | bad
 | put (x:Int) (k:Nat)
def gt (l:List Int):QS :=
 if l.length=0 then .bad else
 if bAt l 0=34 then .stop else
 if bAt l 0=92 then match lT (l.drop 1) with
  | some (x,n)=>.put x (n+1)
  | none=>.bad
 else if hZ (bAt l 0)=true then .put (bAt l 0) 1 else .bad
theorem Ga {l:List Int} {x:Int} {n:Nat} (h:lT l=some (x,n)):1≤n∧n≤l.length:=by
 unfold lT at h
 split at h
 ·cases h
 ·split at h
  ·injection h with h;injection h with h1 h2;omega
  ·split at h
   ·injection h with h;injection h with h1 h2;omega
   ·cases h
theorem nj {l:List Int} {x:Int} {k:Nat} (h:gt l=.put x k):1≤k∧k≤l.length:=by
 unfold gt at h
 split at h
 ·cases h
 ·split at h
  ·cases h
  ·split at h
   ·split at h
    ·rename_i h1
     injection h with h2 h3
     have:=Ga h1
     rw [List.length_drop] at this
     omega
    ·cases h
   ·split at h
    ·injection h with h2 h3;omega
    ·cases h
def quotesL (l:List Int):Option (List Int×Nat) :=
 match h:gt l with
 | .stop=>some ([],1)
 | .bad=>none
 | .put x k=>match quotesL (l.drop k) with
  | some (b,n)=>some (x::b,k+n)
  | none=>none
termination_by l.length
decreasing_by
 have:=nj h
 rw [List.length_drop]
 omega
theorem gY {l:List Int} (h:gt l=.stop):quotesL l=some ([],1):=by
 rw [quotesL];split
 ·rfl
 ·rename_i e;rw [h] at e;cases e
 ·rename_i e;rw [h] at e;cases e
theorem d6 {l:List Int} (h:gt l=.bad):quotesL l=none:=by
 rw [quotesL];split
 ·rename_i e;rw [h] at e;cases e
 ·rfl
 ·rename_i e;rw [h] at e;cases e
theorem gM {l:List Int} {x:Int} {k:Nat} (h:gt l=.put x k):quotesL l=(quotesL (l.drop k)).map fun p=>(x::p.1,k+p.2):=by
 rw [quotesL];split
 ·rename_i e;rw [h] at e;cases e
 ·rename_i e;rw [h] at e;cases e
 ·rename_i e
  rw [h] at e
  injection e with e1 e2
  subst e1
  subst e2
  cases quotesL (l.drop k)<;>rfl
def fq (l:List Int):List Int×Nat :=
 match quotesL (l.drop 1) with
 | some (b,n)=>(b,n+1)
 | none=>([],0)
def cK (base:Int) (l:List Int):Int:=l.foldl (fun n c=>n*base+bw c) 0
def fe (l:List Int):Int:=if 1<l.length∧bAt l 0=48∧bAt l 1=120 then 16 else if 1<l.length∧bAt l 0=48∧bAt l 1=98 then 2 else 10
def cU (l:List Int):Nat:=if 1<l.length∧bAt l 0=48∧(bAt l 1=120∨bAt l 1=98) then 2 else 0
def cz (base:Int) (l:List Int):Nat:=bO (fun c=>decide (bw c<base)) l
def cA (l:List Int):Int×Nat :=
 if bAt l 0=39 then
  if 3≤l.length∧bAt l 2=39∧hZ (bAt l 1)=true∧bAt l 1≠39∧bAt l 1≠92 then (bAt l 1,3) else (0,0)
 else if cz (fe l) (l.drop (cU l))=0∨cU l=0∧1<cz (fe l) (l.drop (cU l))∧bAt l 0=48 then (0,0)
 else if 18446744073709551616≤cK (fe l) ((l.drop (cU l)).take (cz (fe l) (l.drop (cU l)))) then (0,0)
 else (cK (fe l) ((l.drop (cU l)).take (cz (fe l) (l.drop (cU l)))),cU l+cz (fe l) (l.drop (cU l)))
def lF (l:List Int):Except Int (Tok×Nat) :=
 if fU (bAt l 0)=true then .ok (⟨1,bu (l.take (bO dc l)),0,0⟩,bO dc l)
 else if lS (bAt l 0)=true∨bAt l 0=39 then
  if (cA l).2=0∨(cA l).2<l.length∧dc (bAt l (cA l).2)=true then .error 81 else .ok (⟨2,emp,(cA l).1,0⟩,(cA l).2)
 else if bAt l 0=34 then
  if (fq l).2=0 then .error 82 else .ok (⟨3,bu (fq l).1,0,0⟩,(fq l).2)
 else if dr l=0 then .error 80 else .ok (⟨4,bu (l.take (dr l)),0,0⟩,dr l)
theorem pJ:∀ (N:Nat) (l:List Int),l.length≤N→∀ {b:List Int} {n:Nat},quotesL l=some (b,n)→1≤n∧n≤l.length
 | 0,l,hl,b,n,h=>by
  obtain rfl:l=[]:=List.eq_nil_of_length_eq_zero (by omega)
  rw [d6 rfl] at h;cases h
 | N+1,l,hl,b,n,h=>by
  cases hq:gt l with
  | stop =>
   rw [gY hq] at h
   injection h with h;injection h with h1 h2
   have:l.length≠0:=fun e=>by rw [List.eq_nil_of_length_eq_zero e] at hq;cases hq
   omega
  | bad=>rw [d6 hq] at h;cases h
  | put x k =>
   have hk:=nj hq
   rw [gM hq] at h
   cases hr:quotesL (l.drop k) with
   | none=>rw [hr] at h;cases h
   | some p =>
    obtain ⟨b',n'⟩:=p
    have:=pJ N (l.drop k) (by rw [List.length_drop];omega) hr
    rw [hr] at h
    injection h with h
    injection h with h1 h2
    rw [List.length_drop] at this
    simp only at h2
    omega
theorem Fe {l:List Int} (h:l.length≠0):(fq l).2≤l.length:=by
 unfold fq
 split
 ·rename_i e
  have:=pJ _ _ (Nat.le_refl _) e
  rw [List.length_drop] at this
  show _+1≤_
  omega
 ·exact Nat.zero_le _
theorem xO (l:List Int):(cA l).2≤l.length:=by
 have hr:cz (fe l) (l.drop (cU l))≤(l.drop (cU l)).length:=lp _ _
 have hh:cU l≤l.length:=by unfold cU;split<;>omega
 rw [List.length_drop] at hr
 unfold cA
 split
 ·split
  ·rename_i h;exact h.1
  ·exact Nat.zero_le _
 ·split
  ·exact Nat.zero_le _
  ·split
   ·exact Nat.zero_le _
   ·show _+_≤_;omega
theorem lm {l:List Int} (h0:l.length≠0) {t:Tok} {n:Nat} (h:lF l=.ok (t,n)):1≤n∧n≤l.length:=by
 unfold lF at h
 split at h
 ·rename_i hc
  injection h with h;injection h with h1 h2
  subst h2
  refine ⟨?_,lp _ _⟩
  cases l with
  | nil=>exact absurd rfl h0
  | cons c r =>
   rw [gH,if_pos (by unfold dc;rw [show fU c=true from hc];rfl)]
   omega
 ·split at h
  ·split at h
   ·cases h
   ·injection h with h;injection h with h1 h2
    have:=xO l
    omega
  ·split at h
   ·split at h
    ·cases h
    ·injection h with h;injection h with h1 h2
     have:=Fe h0
     omega
   ·split at h
    ·cases h
    ·injection h with h;injection h with h1 h2
     have:=ye l
     omega
def eI (l:List Int):Bool:=decide (l.length=0)||(decide (1<l.length)&&decide (bAt l 0=47)&&decide (bAt l 1=47))
def ci (at_:Nat) (l:List Int):List Tok×Nat×Int :=
 let k:=bO aO l
 if h0:eI (l.drop k)=true then ([],at_+l.length,0) else
 match h:lF (l.drop k) with
 | .error e=>([],at_+k,e)
 | .ok (t,n) =>
  let r:=ci (at_+k+n) ((l.drop k).drop n)
  ({ t with pos:=((at_+k:Nat):Int) }::r.1,r.2)
termination_by l.length
decreasing_by
 have h1:(l.drop (bO aO l)).length≠0:=fun e=>h0 (by unfold eI;rw [e];rfl)
 have:=lm h1 h
 rw [List.length_drop,List.length_drop]
 rw [List.length_drop] at h1 this
 omega
theorem eM {p:Nat} {l:List Int} (h:eI (l.drop (bO aO l))=true):ci p l=([],p+l.length,0):=by
 rw [ci];simp only [h,dite_true]
theorem fx {p:Nat} {l:List Int} {e:Int} (h0:eI (l.drop (bO aO l))=false) (h:lF (l.drop (bO aO l))=.error e):ci p l=([],p+bO aO l,e):=by
 rw [ci]
 simp only [h0,Bool.false_eq_true,dite_false]
 split
 ·rename_i e1;rw [h] at e1;injection e1 with e1;rw [e1]
 ·rename_i e1;rw [h] at e1;cases e1
theorem ia {p:Nat} {l:List Int} {t:Tok} {n:Nat} (h0:eI (l.drop (bO aO l))=false) (h:lF (l.drop (bO aO l))=.ok (t,n)) :
  ci p l=({ t with pos:=((p+bO aO l:Nat):Int) }::(ci (p+bO aO l+n) (l.drop (bO aO l+n))).1,(ci (p+bO aO l+n) (l.drop (bO aO l+n))).2):=by
 rw [ci]
 simp only [h0,Bool.false_eq_true,dite_false]
 split
 ·rename_i e1;rw [h] at e1;cases e1
 ·rename_i e1
  rw [h] at e1
  injection e1 with e1
  injection e1 with e1 e2
  subst e1
  subst e2
  rw [List.drop_drop]
def kr (l:List Int):List Tok×Nat×Int:=if 512<l.length then ([],0,3) else ci 0 l
def isT (t:Tok):Bool :=
 if t.kind=1 then fI (ab t.text) else if t.kind=2 then decide (t.text=emp) else if t.kind=3 then decide (t.text.size≤512) else if t.kind=4 then decide (0<t.text.size∧dr (ab t.text)=t.text.size) else false
def qk (t:Tok):Int:=if isT t=true∧0≤t.pos∧(t.n=0∨t.kind=2) then 0 else 1
theorem P0 {a b:Tok} (h1:a.kind=b.kind) (h2:a.text=b.text) (h3:a.n=b.n) (h4:a.pos=b.pos):a=b:=by
 cases a;cases b;simp only at h1 h2 h3 h4;subst h1;subst h2;subst h3;subst h4;rfl
instance tokDec:DecidableEq Tok:=fun a b =>
 if h:a.kind=b.kind∧a.text=b.text∧a.n=b.n∧a.pos=b.pos then isTrue (P0 h.1 h.2.1 h.2.2.1 h.2.2.2) else isFalse fun e=>h (by rw [e];exact ⟨rfl,rfl,rfl,rfl⟩)
end Go.Proofs.YtnhbidpdadkcjaaGreatDoor
namespace Go.Proofs.YtnhbidpdadkcjaaGreatDoor
open Go.RowKit
theorem iu {a v:List Int} {i:Nat} (h:i<a.length):bAt (a++v) i=bAt a i:=by
 unfold bAt
 rw [List.getD_eq_getElem?_getD,List.getD_eq_getElem?_getD,List.getElem?_append_left h]
theorem BN {a v:List Int}:bAt (a++v) a.length=bAt v 0:=by
 unfold bAt
 rw [List.getD_eq_getElem?_getD,List.getD_eq_getElem?_getD,List.getElem?_append_right (Nat.le_refl _),Nat.sub_self]
theorem ow {l:List Int} {n i:Nat} (h:i<n):bAt (l.take n) i=bAt l i:=by
 unfold bAt
 rw [List.getD_eq_getElem?_getD,List.getD_eq_getElem?_getD,List.getElem?_take_of_lt h]
theorem kL {c:Int} (h:aO c=true):dc c=false∧bw c=16∧c≠120∧c≠98∧c≠47:=by
 unfold aO at h
 have h1:c=32∨c=9:=by simpa using h
 rcases h1 with rfl | rfl<;>decide
def DD (m v:List Int):Prop:=v=[]∨aO (bAt v 0)=true∨(m≠[]∧bAt v 0=bAt m 0)
structure DE (m:List Int) (n:Nat) (w:List Int):Prop where
 len:n≤m.length
 wlen:n≤w.length
 at_:∀ i,i<n→bAt w i=bAt m i
 tak:w.take n=m.take n
 stop:n<w.length→aO (bAt w n)=true∨(n<m.length∧bAt w n=bAt m n)
theorem GG {m v:List Int} {n:Nat} (hn:n≤m.length) (hv:DD (m.drop n) v):DE m n (m.take n++v):=by
 have hl:(m.take n).length=n:=by rw [List.length_take];omega
 refine ⟨hn,by rw [List.length_append,hl];omega,fun i hi=>by rw [iu (by omega),ow hi],by rw [List.take_append_of_le_length (by omega),List.take_take,Nat.min_self],fun h=>?_⟩
 have e:bAt (m.take n++v) n=bAt v 0:=by
  have:=BN (a:=m.take n) (v:=v)
  rwa [hl] at this
 rw [e]
 rcases hv with rfl | h1 | ⟨h1,h2⟩
 ·rw [List.append_nil,hl] at h;omega
 ·exact .inl h1
 ·refine .inr ⟨?_,?_⟩
  ·rcases Nat.lt_or_ge n m.length with h3 | h3
   ·exact h3
   ·exact absurd (List.drop_eq_nil_of_le h3) h1
  ·rw [h2,iF,Nat.add_zero]
theorem Dd {g:Int→Bool} {m w:List Int} {n:Nat} (hg:∀ c,aO c=true→g c=false) (S:DE m n w) (k:Nat) (hk:k≤n) (hr:bO g (m.drop k)=n-k):bO g (w.drop k)=n-k:=by
 refine tV g _ _ (by rw [List.length_drop];have:=S.wlen;omega) (fun i hi=>?_) (fun h=>?_)
 ·rw [iF,S.at_ _ (by omega),← iF]
  exact nP g _ _ (by omega)
 ·rw [List.length_drop] at h
  rw [iF,show k+(n-k)=n by omega]
  rcases S.stop (by omega) with h1 | ⟨h1,h2⟩
  ·exact hg _ h1
  ·rw [h2]
   have:=ri g (m.drop k) (by rw [hr,List.length_drop];omega)
   rwa [hr,iF,show k+(n-k)=n by omega] at this
theorem JG {m w:List Int} {n:Nat} (S:DE m n w) (h:¬(n<m.length∧dc (bAt m n)=true)):¬(n<w.length∧dc (bAt w n)=true):=by
 rintro ⟨h1,h2⟩
 rcases S.stop h1 with h3 | ⟨h3,h4⟩
 ·rw [(kL h3).1] at h2;cases h2
 ·rw [h4] at h2;exact h ⟨h3,h2⟩
theorem KS {x y:List Int} {c:Int} {k:Nat} (h:lT x=some (c,k)) (hy:k≤y.length) (he:∀ i,i<k→bAt y i=bAt x i):lT y=some (c,k):=by
 have hk:=Ga h
 unfold lT at h ⊢
 rw [if_neg (by omega)]
 split at h
 ·cases h
 ·rw [he 0 (by omega)]
  split at h
  ·exact h
  ·rename_i hn
   split at h
   ·rename_i h3
    injection h with h
    injection h with h1 h2
    subst h2
    rw [if_pos ⟨by omega,h3.2.1,by rw [he 1 (by omega)];exact h3.2.2.1,by rw [he 2 (by omega)];exact h3.2.2.2⟩,he 1 (by omega),he 2 (by omega),h1]
   ·cases h
theorem Fd {x y:List Int} {c:Int} {k:Nat} (h:gt x=.put c k) (hy:k≤y.length) (he:∀ i,i<k→bAt y i=bAt x i):gt y=.put c k:=by
 have hk:=nj h
 unfold gt at h ⊢
 rw [if_neg (by omega),he 0 (by omega)]
 split at h
 ·cases h
 ·split at h
  ·cases h
  ·rename_i h34
   rw [if_neg h34]
   split at h
   ·rename_i h92
    rw [if_pos h92]
    split at h
    ·rename_i c' n' hes
     injection h with h1 h2
     subst h2
     have:=KS hes (y:=y.drop 1) (by rw [List.length_drop];omega) (fun i hi=>by rw [iF,iF];exact he _ (by omega))
     rw [this,h1]
    ·cases h
   ·rename_i h92
    rw [if_neg h92]
    exact h
theorem vJ:∀ (N:Nat) (x y:List Int) (b:List Int) (n:Nat),x.length≤N→quotesL x=some (b,n)→n≤y.length→(∀ i,i<n→bAt y i=bAt x i)→quotesL y=some (b,n)
 | 0,x,y,b,n,hx,h,hy,he=>by
  obtain rfl:x=[]:=List.eq_nil_of_length_eq_zero (by omega)
  rw [d6 rfl] at h;cases h
 | N+1,x,y,b,n,hx,h,hy,he=>by
  cases hq:gt x with
  | stop =>
   rw [gY hq] at h
   injection h with h;injection h with h1 h2
   subst h1;subst h2
   have h34:x.length≠0∧bAt x 0=34:=by
    unfold gt at hq
    split at hq
    ·cases hq
    ·rename_i h0
     split at hq
     ·rename_i h1;exact ⟨h0,h1⟩
     ·split at hq
      ·split at hq<;>cases hq
      ·split at hq<;>cases hq
   exact gY (by unfold gt;rw [if_neg (by omega),if_pos (by rw [he 0 (by omega)];exact h34.2)])
  | bad=>rw [d6 hq] at h;cases h
  | put c k =>
   have hk:=nj hq
   rw [gM hq] at h
   cases hr:quotesL (x.drop k) with
   | none=>rw [hr] at h;cases h
   | some p =>
    obtain ⟨b',n'⟩:=p
    rw [hr] at h
    injection h with h
    injection h with h1 h2
    simp only at h1 h2
    subst h1;subst h2
    have:=vJ N (x.drop k) (y.drop k) b' n' (by rw [List.length_drop];omega) hr (by rw [List.length_drop];omega) (fun i hi=>by rw [iF,iF];exact he _ (by omega))
    rw [gM (Fd hq (by omega) (fun i hi=>he i (by omega))),this]
    rfl
theorem wZ {m w:List Int} {n:Nat} (S:DE m n w) (k:Nat):(w.drop k).take (n-k)=(m.drop k).take (n-k):=by
 rw [← List.drop_take,← List.drop_take,S.tak]
theorem H6 {m w:List Int} {n:Nat} (S:DE m n w) (h1:1≤n) (h2:cU m≤n) (h3:n=1→cU m=0):cU w=cU m∧fe w=fe m:=by
 have e0:=S.at_ 0 (by omega)
 rcases Nat.lt_or_ge 1 n with h | h
 ·have e1:=S.at_ 1 h
  have l1:1<m.length:=by have:=S.len;omega
  have l2:1<w.length:=by have:=S.wlen;omega
  unfold cU fe
  simp only [e0,e1,l1,l2,true_and,and_self]
 ·obtain rfl:n=1:=by omega
  have hm:=h3 rfl
  have hnm:¬(1<m.length∧bAt m 0=48∧(bAt m 1=120∨bAt m 1=98)):=by
   intro hc
   unfold cU at hm
   rw [if_pos hc] at hm
   cases hm
  have hnw:¬(1<w.length∧bAt w 0=48∧(bAt w 1=120∨bAt w 1=98)):=by
   rintro ⟨c1,c2,c3⟩
   rcases S.stop c1 with h4 | ⟨h4,h5⟩
   ·have:=kL h4
    omega
   ·exact hnm ⟨h4,by rw [← e0];exact c2,by rw [← h5];exact c3⟩
  constructor
  ·unfold cU;rw [if_neg hnw,if_neg hnm]
  ·unfold fe
   rw [if_neg (fun h=>hnw ⟨h.1,h.2.1,.inl h.2.2⟩),if_neg (fun h=>hnw ⟨h.1,h.2.1,.inr h.2.2⟩),if_neg (fun h=>hnm ⟨h.1,h.2.1,.inl h.2.2⟩),if_neg (fun h=>hnm ⟨h.1,h.2.1,.inr h.2.2⟩)]
theorem F5 (m:List Int):fe m≤16:=by unfold fe;split<;>(try split)<;>omega
theorem CN {m w:List Int} {n:Nat} (S:DE m n w) (h0:n≠0) (hn:(cA m).2=n):cA w=cA m:=by
 have e0:=S.at_ 0 (by omega)
 by_cases hq:bAt m 0=39
 ·have hm:cA m=if 3≤m.length∧bAt m 2=39∧hZ (bAt m 1)=true∧bAt m 1≠39∧bAt m 1≠92 then (bAt m 1,3) else (0,0):=by unfold cA;rw [if_pos hq]
  have hw:cA w=if 3≤w.length∧bAt w 2=39∧hZ (bAt w 1)=true∧bAt w 1≠39∧bAt w 1≠92 then (bAt w 1,3) else (0,0):=by unfold cA;rw [if_pos (by rw [e0];exact hq)]
  by_cases hc:3≤m.length∧bAt m 2=39∧hZ (bAt m 1)=true∧bAt m 1≠39∧bAt m 1≠92
  ·rw [if_pos hc] at hm
   rw [hm] at hn
   simp only at hn
   subst hn
   rw [hw,hm,S.at_ 1 (by omega),S.at_ 2 (by omega),if_pos ⟨S.wlen,hc.2⟩]
  ·rw [if_neg hc] at hm
   rw [hm] at hn
   exact absurd hn.symm h0
 ·obtain ⟨r,hr⟩:∃ r,cz (fe m) (m.drop (cU m))=r:=⟨_,rfl⟩
  have hm:cA m=if r=0∨cU m=0∧1<r∧bAt m 0=48 then (0,0) else if 18446744073709551616≤cK (fe m) ((m.drop (cU m)).take r) then (0,0) else (cK (fe m) ((m.drop (cU m)).take r),cU m+r):=by
   unfold cA;rw [if_neg hq,hr]
  by_cases c1:r=0∨cU m=0∧1<r∧bAt m 0=48
  ·rw [if_pos c1] at hm;rw [hm] at hn;exact absurd hn.symm h0
  rw [if_neg c1] at hm
  by_cases c2:18446744073709551616≤cK (fe m) ((m.drop (cU m)).take r)
  ·rw [if_pos c2] at hm;rw [hm] at hn;exact absurd hn.symm h0
  rw [if_neg c2] at hm
  rw [hm] at hn
  simp only at hn
  have hr0:0<r:=by omega
  obtain ⟨g1,g2⟩:=H6 S (by omega) (by omega) (fun h=>by omega)
  have hrw:cz (fe m) (w.drop (cU m))=r:=by
   have:=Dd (g:=fun c=>decide (bw c<fe m)) (fun c hc=>by have:=F5 m;rw [(kL hc).2.1];exact decide_eq_false (by omega)) S (cU m) (by omega) (by show cz _ _=_;omega)
   show bO _ _=_
   omega
  have ht:(w.drop (cU m)).take r=(m.drop (cU m)).take r:=by
   have:=wZ S (cU m)
   rwa [show n-cU m=r by omega] at this
  rw [hm]
  unfold cA
  rw [if_neg (by rw [e0];exact hq),g1,g2,hrw,e0,if_neg c1,ht,if_neg c2]
theorem zQ {m:List Int} (h:dr m≠0):bAt m 0=60∨bAt m 0=62∨bAt m 0∈oV:=by
 unfold dr at h
 split at h
 ·rename_i hc;omega
 ·split at h
  ·rename_i hc;exact .inr (.inr hc.2)
  ·exact absurd rfl h
theorem uQ {c:Int} (h:c∈oV):aO c=false∧c≠60∧c≠62:=by
 unfold oV at h
 simp only [List.mem_cons,List.not_mem_nil,or_false] at h
 rcases h with rfl | rfl | rfl | rfl | rfl | rfl | rfl | rfl | rfl | rfl | rfl | rfl | rfl | rfl | rfl | rfl | rfl | rfl<;>decide
theorem sw {c:Int} (h:fU c=true):aO c=false∧c≠47:=by
 unfold fU at h
 unfold aO
 simp only [decide_eq_true_eq,decide_eq_false_iff_not] at h ⊢
 omega
theorem CS {m w:List Int} {t:Tok} {n:Nat} (S:DE m n w) (h0:m.length≠0) (hd:eI m=false) (h:lF m=.ok (t,n)):lF w=.ok (t,n)∧eI w=false∧bO aO w=0:=by
 have hn:=lm h0 h
 have e0:=S.at_ 0 (by omega)
 have hw0:0<w.length:=by have:=S.wlen;omega
 have nb:aO (bAt m 0)=false→bO aO w=0:=fun hb=>tV _ _ _ (Nat.zero_le _) (fun i hi=>absurd hi (Nat.not_lt_zero _)) (fun _=>by rw [e0];exact hb)
 have dn:(bAt m 0=47→n=1)→eI w=false:=by
  intro h47
  unfold eI at hd ⊢
  rw [decide_eq_false (show ¬m.length=0 from h0),Bool.false_or] at hd
  rw [decide_eq_false (show ¬w.length=0 by omega),Bool.false_or]
  rw [Bool.eq_false_iff]
  intro hc
  simp only [Bool.and_eq_true,decide_eq_true_eq] at hc
  obtain ⟨⟨c1,c2⟩,c3⟩:=hc
  have hn1:=h47 (by rw [← e0];exact c2)
  subst hn1
  rcases S.stop c1 with h4 | ⟨h4,h5⟩
  ·exact (kL h4).2.2.2.2 c3
  ·rw [← e0,← h5,c2,c3] at hd
   rw [decide_eq_true h4] at hd
   cases hd
 unfold lF at h ⊢
 rw [e0]
 split at h
 ·rename_i hl
  injection h with h;injection h with h1 h2
  rw [if_pos hl]
  have hr:bO dc w=n:=by
   have:=Dd (g:=dc) (fun c hc=>(kL hc).1) S 0 (by omega) (by rw [List.drop_zero];omega)
   rwa [List.drop_zero,Nat.sub_zero] at this
  rw [hr,← h1,h2,S.tak]
  exact ⟨rfl,dn (fun e=>absurd e (sw hl).2),nb (sw hl).1⟩
 ·rename_i hl
  rw [if_neg hl]
  split at h
  ·rename_i hdg
   rw [if_pos hdg]
   split at h
   ·cases h
   ·rename_i hc
    injection h with h;injection h with h1 h2
    have hN:=CN S (by omega) h2
    have hb:aO (bAt m 0)=false∧bAt m 0≠47:=by
     unfold lS at hdg
     unfold aO
     simp only [decide_eq_true_eq,decide_eq_false_iff_not] at hdg ⊢
     omega
    rw [hN,if_neg ?_,h1,h2]
    ·exact ⟨rfl,dn (fun e=>absurd e hb.2),nb hb.1⟩
    ·rw [h2] at hc ⊢
     rintro (hc2 | hc2)
     ·omega
     ·exact JG S (fun h=>hc (.inr h)) hc2
  ·rename_i hdg
   rw [if_neg hdg]
   split at h
   ·rename_i h34
    rw [if_pos h34]
    split at h
    ·cases h
    ·rename_i hc
     injection h with h;injection h with h1 h2
     have hQ:fq w=fq m:=by
      unfold fq at h2 ⊢
      cases hq:quotesL (m.drop 1) with
      | none=>rw [hq] at h2;simp only at h2;omega
      | some p =>
       obtain ⟨b,k⟩:=p
       rw [hq] at h2
       simp only at h2
       have:=vJ _ (m.drop 1) (w.drop 1) b k (Nat.le_refl _) hq (by rw [List.length_drop];have:=S.wlen;omega) (fun i hi=>by rw [iF,iF];exact S.at_ _ (by omega))
       rw [this]
     rw [hQ,if_neg hc,h1,h2]
     exact ⟨rfl,dn (fun e=>by omega),nb (by rw [h34];rfl)⟩
   ·rename_i h34
    rw [if_neg h34]
    split at h
    ·cases h
    ·rename_i hc
     injection h with h;injection h with h1 h2
     have hsg:=zQ hc
     have hbn:aO (bAt m 0)=false:=by
      rcases hsg with e | e | e
      ·rw [e];rfl
      ·rw [e];rfl
      ·exact (uQ e).1
     have hS:dr w=dr m:=by
      by_cases c1:1<m.length∧(bAt m 0=60∧bAt m 1=60∨bAt m 0=62∧bAt m 1=62)
      ·have hm:dr m=2:=by unfold dr;rw [if_pos c1]
       have e1:=S.at_ 1 (by omega)
       rw [hm]
       unfold dr
       rw [if_pos ⟨by have:=S.wlen;omega,by rw [e0,e1];exact c1.2⟩]
      ·have c2:0<m.length∧bAt m 0∈oV:=by
        unfold dr at hc
        rw [if_neg c1] at hc
        split at hc
        ·assumption
        ·exact absurd rfl hc
       have hm:dr m=1:=by unfold dr;rw [if_neg c1,if_pos c2]
       have:=uQ c2.2
       rw [hm]
       unfold dr
       rw [if_neg (by rw [e0];omega),if_pos ⟨hw0,by rw [e0];exact c2.2⟩]
     rw [hS,if_neg hc,h2,S.tak,← h1,h2]
     refine ⟨rfl,dn (fun e=>?_),nb hbn⟩
     rw [← h2]
     unfold dr
     rw [if_neg (by omega),if_pos ⟨by omega,by rw [e];decide⟩]
theorem PM {bs x:List Int} (h:∀ c∈bs,aO c=true):bO aO (bs++x)=bs.length+bO aO x:=by
 induction bs with
 | nil=>simp
 | cons c bs ih =>
  rw [List.cons_append,gH,if_pos (h c (by simp)),ih (fun c hc=>h c (by simp [hc])),List.length_cons]
  omega
theorem ip {bs x:List Int} (h:∀ c∈bs,aO c=true) (q:Nat):ci q (bs++x)=ci (q+bs.length) x:=by
 have hr:=PM (x:=x) h
 have hd:∀ k,(bs++x).drop (bs.length+k)=x.drop k:=fun k=>by rw [← List.drop_drop,List.drop_left]
 cases hdn:eI (x.drop (bO aO x)) with
 | true =>
  rw [eM (l:=x) hdn,eM (l:=bs++x) (by rw [hr,hd];exact hdn),List.length_append,Nat.add_assoc]
 | false =>
  rcases ho:lF (x.drop (bO aO x)) with e | ⟨t,n⟩
  ·rw [fx (l:=x) hdn ho,fx (l:=bs++x) (by rw [hr,hd];exact hdn) (by rw [hr,hd];exact ho),hr,Nat.add_assoc]
  ·rw [ia (l:=x) hdn ho,ia (l:=bs++x) (by rw [hr,hd];exact hdn) (by rw [hr,hd];exact ho),hr,Nat.add_assoc bs.length,hd]
   simp only [Nat.add_assoc]
theorem yC {w:List Int} {t:Tok} {n:Nat} (h1:bO aO w=0) (h2:eI w=false) (h3:lF w=.ok (t,n)) (q:Nat):ci q w=({ t with pos:=(q:Int) }::(ci (q+n) (w.drop n)).1,(ci (q+n) (w.drop n)).2):=by
 have:=ia (p:=q) (l:=w) (t:=t) (n:=n) (by rw [h1];exact h2) (by rw [h1];exact h3)
 rw [h1,Nat.zero_add,Nat.add_zero] at this
 exact this
theorem r4 (m:List Int):∀ c∈m.take (bO aO m),aO c=true:=by
 intro c hc
 obtain ⟨i,hi,rfl⟩:=List.mem_iff_getElem.1 hc
 rw [List.length_take] at hi
 have:=nP aO m i (by omega)
 rw [List.getElem_take]
 have hg:=wj (l:=m) (i:=i) (by omega)
 rw [List.getElem?_eq_getElem (by omega)] at hg
 injection hg with hg
 rw [hg]
 exact this
def fA (t:Tok):Tok:={ t with pos:=0 }
def yM (l:List Int):List Tok→Nat
 | []=>l.length
 | t::_=>t.pos.toNat
def pcs (l:List Int) (bl:Nat→List Int):Nat→List Tok→List Int
 | _,[]=>[]
 | i,t::ts=>bl i++((l.drop t.pos.toNat).take (yM l ts-t.pos.toNat)++pcs l bl (i+1) ts)
theorem lO {p:Nat} {m:List Int} {t:Tok} {ts:List Tok} {n:Nat} {e:Int} (h:ci p m=(t::ts,n,e)):∃ t0 n1,eI (m.drop (bO aO m))=false∧lF (m.drop (bO aO m))=.ok (t0,n1)∧t={ t0 with pos:=((p+bO aO m:Nat):Int) }∧ci (p+bO aO m+n1) (m.drop (bO aO m+n1))=(ts,n,e):=by
 cases hdn:eI (m.drop (bO aO m)) with
 | true=>rw [eM hdn] at h;cases h
 | false =>
  rcases ho:lF (m.drop (bO aO m)) with e' | ⟨t0,n1⟩
  ·rw [fx hdn ho] at h;cases h
  ·rw [ia hdn ho] at h
   injection h with h1 h2
   injection h1 with h1 h3
   exact ⟨t0,n1,rfl,rfl,h1.symm,Prod.ext h3 h2⟩
theorem FQ {p:Nat} {m:List Int} {n:Nat} (h:ci p m=([],n,0)) (he:∀ l e,lF l=.error e→e≠0):eI (m.drop (bO aO m))=true:=by
 cases hdn:eI (m.drop (bO aO m)) with
 | true=>rfl
 | false =>
  rcases ho:lF (m.drop (bO aO m)) with e' | ⟨t0,n1⟩
  ·rw [fx hdn ho] at h
   injection h with h1 h2
   injection h2 with h2 h3
   exact absurd h3 (he _ _ ho)
  ·rw [ia hdn ho] at h;cases h
theorem HA {m tail:List Int} (h:eI (m.drop (bO aO m))=true) (ht:∃ r,tail=32::47::47::r) (q:Nat):(ci q (m++tail)).1=[]∧(ci q (m++tail)).2.2=0:=by
 obtain ⟨r,rfl⟩:=ht
 have hs:m++32::47::47::r=m.take (bO aO m)++(m.drop (bO aO m)++32::47::47::r):=by rw [← List.append_assoc,List.take_append_drop]
 rw [hs,ip (r4 m)]
 obtain ⟨x,hx⟩:∃ x,m.drop (bO aO m)=x:=⟨_,rfl⟩
 rw [hx] at h ⊢
 have hslash:∀ (p:Nat) (y:List Int),(ci p (47::47::y)).1=[]∧(ci p (47::47::y)).2.2=0:=by
  intro p y
  have hb:bO aO (47::47::y)=0:=by rw [gH];rfl
  rw [eM (by rw [hb,List.drop_zero];unfold eI;simp [bAt])]
  exact ⟨rfl,rfl⟩
 unfold eI at h
 simp only [Bool.or_eq_true,Bool.and_eq_true,decide_eq_true_eq] at h
 match x,h with
 | [],_ =>
  have:=ip (bs:=[32]) (x:=47::47::r) (by simp [aO]) (q+(m.take (bO aO m)).length)
  rw [List.nil_append,show (32:Int)::47::47::r=[32]++47::47::r from rfl,this]
  exact hslash _ _
 | [a],h=>simp at h
 | a::b::y,h =>
  have h2:a=47∧b=47:=by
   rcases h with h | ⟨⟨_,h1⟩,h2⟩
   ·simp at h
   ·exact ⟨h1,h2⟩
  obtain ⟨rfl,rfl⟩:=h2
  exact hslash _ _
theorem TP {l:List Int} {bl:Nat→List Int} {tail:List Int} (hbl:∀ i,∀ c∈bl i,aO c=true) (ht:∃ r,tail=32::47::47::r) (he:∀ l e,lF l=.error e→e≠0) :
  ∀ (ts:List Tok) (t:Tok) (p:Nat) (i n:Nat),p≤l.length→ci p (l.drop p)=(t::ts,n,0)→∀ q,(ci q (pcs l bl i (t::ts)++tail)).1.map fA=(t::ts).map fA∧(ci q (pcs l bl i (t::ts)++tail)).2.2=0
 | ts,t,p,i,n,hp,h,q=>by
  obtain ⟨t0,n1,hd,ho,rfl,hr⟩:=lO h
  obtain ⟨k,hk⟩:∃ k,bO aO (l.drop p)=k:=⟨_,rfl⟩
  rw [hk] at hd ho hr ⊢
  rw [List.drop_drop] at hd ho hr
  rw [← Nat.add_assoc] at hr
  obtain ⟨m1,hm1⟩:∃ m1,l.drop (p+k)=m1:=⟨_,rfl⟩
  rw [hm1] at hd ho
  have h0:m1.length≠0:=fun e=>by
   have:eI m1=true:=by unfold eI;rw [e];rfl
   rw [this] at hd;cases hd
  have hn:=lm h0 ho
  have hl1:m1.length=l.length-(p+k):=by rw [← hm1,List.length_drop]
  have hdd:l.drop (p+k+n1)=m1.drop n1:=by rw [← List.drop_drop,hm1]
  have hpos:(((p+k:Nat):Int)).toNat=p+k:=Int.toNat_natCast _
  rw [pcs,hpos,hm1,List.append_assoc,ip (hbl i)]
  generalize q+(bl i).length=q2
  cases ts with
  | nil =>
   rw [pcs,List.append_nil,yM,List.take_of_length_le (by omega)]
   have hB:DD (m1.drop n1) (m1.drop n1++tail):=by
    obtain ⟨r,rfl⟩:=ht
    cases hx:m1.drop n1 with
    | nil=>exact .inr (.inl rfl)
    | cons c y=>exact .inr (.inr ⟨by simp,rfl⟩)
   obtain ⟨g1,g2,g3⟩:=CS (GG hn.2 hB) h0 hd ho
   rw [show m1.take n1++(m1.drop n1++tail)=m1++tail by rw [← List.append_assoc,List.take_append_drop]] at g1 g2 g3
   rw [yC g3 g2 g1]
   have hdr:(m1++tail).drop n1=m1.drop n1++tail:=List.drop_append_of_le_length hn.2
   rw [hdr]
   rw [hdd] at hr
   obtain ⟨f1,f2⟩:=HA (FQ hr he) ht (q2+n1)
   exact ⟨by simp only [List.map_cons,f1,List.map_nil];rfl,f2⟩
  | cons t2 ts2 =>
   obtain ⟨t20,n2,hd2,ho2,e2,hr2⟩:=lO hr
   obtain ⟨k2,hk2⟩:∃ k2,bO aO (l.drop (p+k+n1))=k2:=⟨_,rfl⟩
   have hk2l:k2≤m1.length-n1:=by
    have:bO aO (l.drop (p+k+n1))≤(l.drop (p+k+n1)).length:=lp _ _
    rw [hdd,List.length_drop] at this
    rw [← hk2,hdd];exact this
   have ep:yM l (t2::ts2)-(p+k)=n1+k2:=by
    unfold yM
    rw [e2,hk2]
    simp only [Int.toNat_natCast]
    omega
   rw [ep]
   have htk:m1.take (n1+k2)=m1.take n1++(m1.drop n1).take k2:=by rw [List.take_add]
   have hbk:∀ c∈(m1.drop n1).take k2,aO c=true:=by rw [← hdd,← hk2];exact r4 _
   rw [htk,List.append_assoc,List.append_assoc]
   have hne:m1.drop n1≠[]:=by
    intro e
    have:eI ((l.drop (p+k+n1)).drop (bO aO (l.drop (p+k+n1))))=true:=by rw [hdd,e];rfl
    rw [this] at hd2;cases hd2
   have hn1:n1<m1.length:=by
    rcases Nat.lt_or_ge n1 m1.length with h1 | h1
    ·exact h1
    ·exact absurd (List.drop_eq_nil_of_le h1) hne
   have hB:DD (m1.drop n1) ((m1.drop n1).take k2++(pcs l bl (i+1) (t2::ts2)++tail)):=by
    rcases Nat.eq_zero_or_pos k2 with z | z
    ·subst z
     rw [List.take_zero,List.nil_append,pcs]
     cases hb:bl (i+1) with
     | cons c y=>exact .inr (.inl (hbl (i+1) c (by rw [hb];simp)))
     | nil =>
      refine .inr (.inr ⟨hne,?_⟩)
      have hp2:t2.pos.toNat=p+k+n1:=by rw [e2,hk2];simp only [Int.toNat_natCast,Nat.add_zero]
      rw [List.nil_append,hp2,hdd,List.append_assoc]
      have hn2:=lm (l:=(l.drop (p+k+n1)).drop (bO aO (l.drop (p+k+n1)))) (fun e=>by
       have:eI ((l.drop (p+k+n1)).drop (bO aO (l.drop (p+k+n1))))=true:=by unfold eI;rw [e];rfl
       rw [this] at hd2;cases hd2) ho2
      have hend:0<yM l ts2-(p+k+n1):=by
       cases ts2 with
       | nil=>show 0<l.length-(p+k+n1);omega
       | cons t3 ts3 =>
        obtain ⟨_,n3,_,_,e3,_⟩:=lO hr2
        show 0<t3.pos.toNat-(p+k+n1)
        rw [e3]
        simp only [Int.toNat_natCast]
        omega
      have hl3:0<((m1.drop n1).take (yM l ts2-(p+k+n1))).length:=by rw [List.length_take,List.length_drop];omega
      rw [iu hl3,ow hend]
    ·have hl3:0<((m1.drop n1).take k2).length:=by rw [List.length_take,List.length_drop];omega
     exact .inr (.inr ⟨hne,by rw [iu hl3,ow z]⟩)
   obtain ⟨g1,g2,g3⟩:=CS (GG hn.2 hB) h0 hd ho
   rw [yC g3 g2 g1]
   have hdr:(m1.take n1++((m1.drop n1).take k2++(pcs l bl (i+1) (t2::ts2)++tail))).drop n1=(m1.drop n1).take k2++(pcs l bl (i+1) (t2::ts2)++tail):=by
    have:(m1.take n1).length=n1:=by rw [List.length_take];omega
    rw [List.drop_append_of_le_length (by omega),List.drop_of_length_le (by omega),List.nil_append]
   rw [hdr,ip hbk]
   have ih:=TP (tail:=tail) hbl ht he ts2 t2 (p+k+n1) (i+1) n (by omega) hr (q2+n1+((m1.drop n1).take k2).length)
   exact ⟨by rw [List.map_cons,ih.1];rfl,ih.2⟩
termination_by ts=>ts.length
def JU (l:List Int):List Tok→Prop
 | []=>True
 | t::ts=>(∃ a:Nat,t.pos=(a:Int)∧a≤yM l ts)∧yM l ts≤l.length∧JU l ts
theorem vS {l:List Int}:∀ (ts:List Tok) (p n:Nat) (e:Int),p≤l.length→ci p (l.drop p)=(ts,n,e)→JU l ts∧p≤yM l ts∧yM l ts≤l.length∧ts.length≤l.length-p
 | [],p,n,e,hp,h=>⟨trivial,hp,Nat.le_refl _,Nat.zero_le _⟩
 | t::ts,p,n,e,hp,h=>by
  obtain ⟨t0,n1,hd,ho,rfl,hr⟩:=lO h
  have hk:bO aO (l.drop p)≤(l.drop p).length:=lp _ _
  rw [List.length_drop] at hk
  have h0:((l.drop p).drop (bO aO (l.drop p))).length≠0:=fun e=>by
   have:eI ((l.drop p).drop (bO aO (l.drop p)))=true:=by unfold eI;rw [e];rfl
   rw [this] at hd;cases hd
  have hn:=lm h0 ho
  rw [List.length_drop,List.length_drop] at hn
  rw [List.drop_drop,← Nat.add_assoc] at hr
  obtain ⟨g1,g2,g3,g4⟩:=vS ts (p+bO aO (l.drop p)+n1) n e (by omega) hr
  refine ⟨⟨⟨_,rfl,by omega⟩,g3,g1⟩,?_,?_,?_⟩
  ·show p≤(((p+bO aO (l.drop p):Nat):Int)).toNat
   rw [Int.toNat_natCast];omega
  ·show (((p+bO aO (l.drop p):Nat):Int)).toNat≤_
   rw [Int.toNat_natCast];omega
  ·rw [List.length_cons];omega
end Go.Proofs.YtnhbidpdadkcjaaGreatDoor
namespace Go.Proofs.YtnhbidpdadkcjaaGreatDoor
open Go.RowKit
theorem sE:∀ (N:Nat) (x b:List Int) (n:Nat),x.length≤N→quotesL x=some (b,n)→b.length+1≤n
 | 0,x,b,n,hx,h=>by
  obtain rfl:x=[]:=List.eq_nil_of_length_eq_zero (by omega)
  rw [d6 rfl] at h;cases h
 | N+1,x,b,n,hx,h=>by
  cases hq:gt x with
  | stop =>
   rw [gY hq] at h
   injection h with h;injection h with h1 h2
   subst h1;subst h2
   exact Nat.le_refl _
  | bad=>rw [d6 hq] at h;cases h
  | put c k =>
   have hk:=nj hq
   rw [gM hq] at h
   cases hr:quotesL (x.drop k) with
   | none=>rw [hr] at h;cases h
   | some p =>
    obtain ⟨b',n'⟩:=p
    rw [hr] at h
    injection h with h
    injection h with h1 h2
    simp only at h1 h2
    subst h1;subst h2
    have:=sE N (x.drop k) b' n' (by rw [List.length_drop];omega) hr
    rw [List.length_cons]
    omega
theorem Ds {m:List Int} (hr:∀ z∈m,0≤z∧z≤255) (n:Nat):ab (bu (m.take n))=m.take n:=cN fun z hz=>hr z (List.mem_of_mem_take hz)
theorem uT (m:List Int) (n:Nat):(bu (m.take n)).size=min n m.length:=by rw [jf,List.length_take]
theorem Ph {m:List Int} (hr:∀ z∈m,0≤z∧z≤255) (hl:m.length≤512) (h0:m.length≠0) {t:Tok} {n:Nat} (h:lF m=.ok (t,n)):isT t=true∧(t.n=0∨t.kind=2):=by
 have hn:=lm h0 h
 unfold lF at h
 split at h
 ·rename_i hl
  injection h with h;injection h with h1 h2
  subst h1
  refine ⟨?_,.inl rfl⟩
  unfold isT
  rw [if_pos rfl]
  simp only [Ds hr]
  unfold fI
  have h2':bO dc m=n:=h2
  have hlen:(m.take (bO dc m)).length=n:=by rw [List.length_take];omega
  have hrun:bO dc (m.take (bO dc m))=n:=tV _ _ _ (by omega) (fun i hi=>by rw [ow (by omega)];exact nP _ _ _ (by omega)) (fun h=>by omega)
  rw [hlen,hrun,ow (by omega),hl]
  simp
  omega
 ·split at h
  ·split at h
   ·cases h
   ·injection h with h;injection h with h1 h2
    subst h1
    exact ⟨by unfold isT;rw [if_neg (by simp),if_pos rfl];exact decide_eq_true rfl,.inr rfl⟩
  ·split at h
   ·split at h
    ·cases h
    ·rename_i hc
     injection h with h;injection h with h1 h2
     subst h1
     refine ⟨?_,.inl rfl⟩
     unfold isT
     rw [if_neg (by simp),if_neg (by simp),if_pos rfl]
     refine decide_eq_true ?_
     simp only
     rw [jf]
     unfold fq at hc ⊢
     cases hq:quotesL (m.drop 1) with
     | none=>rw [hq] at hc;simp at hc
     | some p =>
      obtain ⟨b,k⟩:=p
      have h1:=sE _ _ _ _ (Nat.le_refl _) hq
      have h2:=pJ _ _ (Nat.le_refl _) hq
      rw [List.length_drop] at h2
      simp only
      omega
   ·split at h
    ·cases h
    ·rename_i hc
     injection h with h;injection h with h1 h2
     subst h1
     refine ⟨?_,.inl rfl⟩
     unfold isT
     rw [if_neg (by simp),if_neg (by simp),if_neg (by simp),if_pos rfl]
     refine decide_eq_true ?_
     simp only
     have hsl:=ye m
     rw [Ds hr,uT,Nat.min_eq_left hsl]
     refine ⟨by omega,?_⟩
     obtain ⟨w,hw⟩:∃ w,m.take (dr m)=w:=⟨_,rfl⟩
     have hwl:w.length=dr m:=by rw [← hw,List.length_take];omega
     have hwa:∀ i,i<dr m→bAt w i=bAt m i:=fun i hi=>by rw [← hw];exact ow hi
     rw [hw]
     by_cases c1:1<m.length∧(bAt m 0=60∧bAt m 1=60∨bAt m 0=62∧bAt m 1=62)
     ·have hm:dr m=2:=by unfold dr;rw [if_pos c1]
      rw [hm] at hwl hwa
      rw [hm]
      unfold dr
      rw [if_pos ⟨by omega,by rw [hwa 0 (by omega),hwa 1 (by omega)];exact c1.2⟩]
     ·have c2:0<m.length∧bAt m 0∈oV:=by
       unfold dr at hc
       rw [if_neg c1] at hc
       split at hc
       ·assumption
       ·exact absurd rfl hc
      have hm:dr m=1:=by unfold dr;rw [if_neg c1,if_pos c2]
      rw [hm] at hwl hwa
      rw [hm]
      unfold dr
      rw [if_neg (by omega),if_pos ⟨by omega,by rw [hwa 0 (by omega)];exact c2.2⟩]
theorem IP {m:List Int} (hl:m.length≤512) (h0:m.length≠0) {t:Tok} {n:Nat} (h:lF m=.ok (t,n)):t.text.size≤512:=by
 have hn:=lm h0 h
 unfold lF at h
 split at h
 ·injection h with h;injection h with h1 h2
  subst h1
  simp only
  rw [uT];omega
 ·split at h
  ·split at h
   ·cases h
   ·injection h with h;injection h with h1 h2
    subst h1
    exact Nat.zero_le _
  ·split at h
   ·split at h
    ·cases h
    ·rename_i hc
     injection h with h;injection h with h1 h2
     subst h1
     simp only
     rw [jf]
     unfold fq at hc ⊢
     cases hq:quotesL (m.drop 1) with
     | none=>rw [hq] at hc;simp at hc
     | some p =>
      obtain ⟨b,k⟩:=p
      have h1:=sE _ _ _ _ (Nat.le_refl _) hq
      have h2:=pJ _ _ (Nat.le_refl _) hq
      rw [List.length_drop] at h2
      simp only
      omega
   ·split at h
    ·cases h
    ·injection h with h;injection h with h1 h2
     subst h1
     simp only
     rw [uT];omega
def Rises (len:Nat):Nat→List Tok→Prop
 | _,[]=>True
 | p,t::ts=>(qk t=0∧t.text.size≤512)∧∃ a:Nat,t.pos=(a:Int)∧p≤a∧a<len∧Rises len (a+1) ts
theorem Rises.mono {len:Nat}:∀ {ts:List Tok} {p q:Nat},q≤p→Rises len p ts→Rises len q ts
 | [],_,_,_,_=>trivial
 | _::_,_,_,hq,⟨h1,a,h2,h3,h4,h5⟩=>⟨h1,a,h2,by omega,h4,h5⟩
theorem qM {l:List Int} (hr:∀ z∈l,0≤z∧z≤255) (hl:l.length≤512):∀ (ts:List Tok) (p n:Nat) (e:Int),p≤l.length→ci p (l.drop p)=(ts,n,e)→Rises l.length p ts
 | [],_,_,_,_,_=>trivial
 | t::ts,p,n,e,hp,h=>by
  obtain ⟨t0,n1,hd,ho,rfl,hrest⟩:=lO h
  have hk:bO aO (l.drop p)≤(l.drop p).length:=lp _ _
  rw [List.length_drop] at hk
  have h0:((l.drop p).drop (bO aO (l.drop p))).length≠0:=fun e=>by
   have:eI ((l.drop p).drop (bO aO (l.drop p)))=true:=by unfold eI;rw [e];rfl
   rw [this] at hd;cases hd
  have hn:=lm h0 ho
  have hm:=Ph (fun z hz=>hr z (List.mem_of_mem_drop (List.mem_of_mem_drop hz))) (by rw [List.length_drop,List.length_drop];omega) h0 ho
  rw [List.length_drop,List.length_drop] at hn
  rw [List.drop_drop,← Nat.add_assoc] at hrest
  have ih:=qM hr hl ts (p+bO aO (l.drop p)+n1) n e (by omega) hrest
  refine ⟨?_,_,rfl,by omega,by omega,ih.mono (by omega)⟩
  have hsm:=IP (by rw [List.length_drop,List.length_drop];omega) h0 ho
  refine ⟨?_,hsm⟩
  unfold qk
  have hi:isT { t0 with pos:=((p+bO aO (l.drop p):Nat):Int) }=isT t0:=rfl
  rw [hi,if_pos ⟨hm.1,Int.natCast_nonneg _,hm.2⟩]
end Go.Proofs.YtnhbidpdadkcjaaGreatDoor
namespace Go.Proofs.YtnhbidpdadkcjaaGreatDoor
open Go.RowKit
def lN:ov Tok where
 dec:=fun | [.v (.int .i64 k),.v (.string s),.v (.int .u64 n),.v (.int .i64 p)]=>some ⟨k,s,n,p⟩ | _=>none
 enc:=fun t=>[.v (.int .i64 t.kind),.v (.string t.text),.v (.int .u64 t.n),.v (.int .i64 t.pos)]
 inv:=by
  intro c x h
  split at h
  ·injection h with h;subst h;rfl
  ·cases h
 back:=by intro x;rfl
theorem lM (t:Tok):lN.enc t=[.v (.int .i64 t.kind),.v (.string t.text),.v (.int .u64 t.n),.v (.int .i64 t.pos)]:=rfl
def yh:ByteArray:=⟨#[44,91,93,33,35,58,43,45,42,47,37,38,124,94,126,40,41,61]⟩
def fj (l:List Int):Blk:=⟨true,5,1,l.map bp⟩
theorem To (l:List Int):bL mh (l.map bp)=some l:=jR BZ l
def quotO (l:List Int):AV:=.tup [.l (.v (.string (bu (fq l).1))),.l (.v (.int .i64 (fq l).2))]
def GA (s:ByteArray) (i:Nat) (l:List Int):Prop:=1≤i∧(i≤s.size∨i=1)∧l.length≤i∧quotesL ((ab s).drop 1)=(quotesL ((ab s).drop i)).map fun p=>(l++p.1,i-1+p.2)
theorem S7 {s:ByteArray} {i:Nat} {l:List Int} (h:GA s i l) {x:Int} {k:Nat} (hq:gt ((ab s).drop i)=.put x k):GA s (i+k) (l++[x]):=by
 obtain ⟨h1,h2,h3,h4⟩:=h
 have hk:=nj hq
 rw [List.length_drop,aW] at hk
 refine ⟨by omega,by omega,by simp;omega,?_⟩
 rw [h4,gM hq,List.drop_drop]
 cases quotesL ((ab s).drop (i+k)) with
 | none=>rfl
 | some p=>simp;omega
theorem RY {s:ByteArray} {i:Nat} {l:List Int} (h:GA s i l) (hq:gt ((ab s).drop i)=.stop):fq (ab s)=(l,i+1):=by
 obtain ⟨h1,h2,h3,h4⟩:=h
 unfold fq
 rw [h4,gY hq]
 simp
 omega
theorem S6 {s:ByteArray} {i:Nat} {l:List Int} (h:GA s i l) (hq:gt ((ab s).drop i)=.bad):fq (ab s)=([],0):=by
 obtain ⟨h1,h2,h3,h4⟩:=h
 unfold fq
 rw [h4,d6 hq]
 rfl
theorem uB (base:Int) (l:List Int) (c:Int):cK base (l++[c])=cK base l*base+bw c:=by
 unfold cK;rw [List.foldl_append];rfl
def Un (t:Tok):SV:=.agg [.v (.int .i64 t.kind),.v (.string t.text),.v (.int .u64 t.n),.v (.int .i64 t.pos)]
def oneO (r:Except Int (Tok×Nat)):AV:=match r with
 | .ok p=>.tup [Un p.1,.l (.v (.int .i64 p.2)),.l (.v (.int .i64 0))]
 | .error e=>.tup [Un ⟨0,emp,0,0⟩,.l (.v (.int .i64 0)),.l (.v (.int .i64 e))]
def Nd (l:List Tok):SV:=.l (.d (.sd 4 (l.map lN.enc)))
def toksK (l:List Tok):Blk:=⟨true,137,4,(l.map lN.enc).map cG⟩
def LC:SV:=.l (.v (.slice none 0 0))
def tokensO (r:List Tok×Nat×Int) (long:Bool):AV:=.tup [if long=true then LC else Nd r.1,.l (.v (.int .i64 r.2.1)),.l (.v (.int .i64 r.2.2))]
def TC (l:List Int):Bool:=decide (512<l.length)
theorem TD {l:List Int} {e:Int} (h:lF l=.error e):e=80∨e=81∨e=82:=by
 unfold lF at h
 split at h
 ·cases h
 ·split at h
  ·split at h
   ·injection h with h;omega
   ·cases h
  ·split at h
   ·split at h
    ·injection h with h;omega
    ·cases h
   ·split at h
    ·injection h with h;omega
    ·cases h
def tkInv (s:ByteArray) (p:Nat×List Tok):Prop:=p.1≤s.size∧p.2.length≤p.1∧ci 0 (ab s)=(p.2++(ci p.1 ((ab s).drop p.1)).1,(ci p.1 ((ab s).drop p.1)).2)
theorem S9 (l:List Tok) (t:Tok):(l.map lN.enc).map cG++[[LV.v (.int .i64 t.kind),.v (.string t.text),.v (.int .u64 t.n),.v (.int .i64 t.pos)]]=((l++[t]).map lN.enc).map cG:=by
 rw [List.map_append,List.map_append];rfl
def TA (r:List Tok×Nat×Int):AV:=if r.2.2=0 then .tup [Nd r.1,.l (.v (.int .i64 r.2.1)),.l (.v (.int .i64 0))] else .tup [LC,.l (.v (.int .i64 r.2.1)),.l (.v (.int .i64 r.2.2))]
end Go.Proofs.YtnhbidpdadkcjaaGreatDoor
namespace Go.Proofs.YtnhbidpdadkcjaaGreatDoor.Lx
open Go.RowKit
def cQ (l:List Int):AV:=.tup [.l (.v (.int .u64 (cA l).1)),.l (.v (.int .i64 (cA l).2))]
end Go.Proofs.YtnhbidpdadkcjaaGreatDoor.Lx
