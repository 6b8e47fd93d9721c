import Derived.Test.YthcoegkfpinlfaaGreatDoorO13
import Derived.Test.YthcoegkfpinlfaaGreatDoorO22
set_option linter.unusedVariables false
set_option linter.unusedSimpArgs false
set_option maxRecDepth 100000
set_option maxHeartbeats 8000000
namespace Go.Proofs.YthcoegkfpinlfaaGreatDoor
section
open Go.RowKit
theorem Qf {c:UInt8}:∀ (k:Nat) {l:List UInt8},l[k]? = some c→(∀ j x,j<k→l[j]? = some x→¬x=c)→eY c l=l.take k::eY c (l.drop (k+1))
 | 0,[],h,_=>by cases h
 | 0,x::r,h,_=>by
  simp only [List.getElem?_cons_zero,Option.some.injEq] at h
  subst h
  simp [eY]
 | k+1,[],h,_=>by cases h
 | k+1,x::r,h,hn=>by
  have hx:¬(x==c)=true:=by rw [beq_iff_eq];exact hn 0 x (by omega) rfl
  rw [eY,if_neg hx,Qf k (l:=r) (by simpa using h) (fun j y hj hy=>hn (j+1) y (by omega) (by simpa using hy))]
  simp
theorem S7 (s:ByteArray) (a b:Nat):(s.extract a b).data.toList=(s.data.toList.drop a).take (b-a):=by
 rw [ByteArray.data_extract,Array.toList_extract,List.extract_eq_take_drop]
theorem KF (s:ByteArray) (a:Nat):(s.extract a s.size).data.toList=s.data.toList.drop a:=by
 rw [S7,List.take_of_length_le]
 simp
theorem GM {s:ByteArray} {i:Nat} (h:i<s.size):∃ x:UInt8,s.data.toList[i]? = some x∧bj s i=x.toNat:=by
 have h':i<s.data.toList.length:=by simpa using h
 refine ⟨s.data.toList[i],List.getElem?_eq_getElem h',?_⟩
 unfold bj
 simp [List.getD_eq_getElem?_getD,List.getElem?_eq_getElem h']
theorem Wy {s:ByteArray} {a i:Nat} (hai:a≤i) (hi:i<s.size) (hb:bj s i=95) (hn:∀ j,a≤j→j<i→¬bj s j=95):dj (s.extract a s.size) us=s.extract a i::dj (s.extract (i+1) s.size) us:=by
 unfold dj
 have hu:hdU us=95:=rfl
 rw [hu,KF,KF,Qf (i-a) (c:=95) ?_ ?_,List.map_cons]
 ·congr 1
  ·apply ByteArray.ext
   rw [← Array.toList_inj,S7]
  ·rw [List.drop_drop,show a+(i-a+1)=i+1 by omega]
 ·rw [List.getElem?_drop,show a+(i-a)=i by omega]
  obtain ⟨x,h1,h2⟩:=GM hi
  rw [h1]
  congr 1
  apply UInt8.toNat_inj.1
  show x.toNat=95
  omega
 ·intro j x hj hx hxc
  rw [List.getElem?_drop] at hx
  have hlt:a+j<s.size:=by omega
  obtain ⟨y,h1,h2⟩:=GM hlt
  rw [h1] at hx
  injection hx with hx
  subst hx
  exact hn (a+j) (by omega) (by omega) (by rw [h2,hxc];rfl)
theorem Vq {s:ByteArray} {a:Nat} (hn:∀ j,a≤j→j<s.size→¬bj s j=95):dj (s.extract a s.size) us=[s.extract a s.size]:=by
 unfold dj
 have hu:hdU us=95:=rfl
 rw [hu,JV]
 ·rfl
 ·rw [List.count_eq_zero,KF]
  intro hm
  obtain ⟨j,hj,e⟩:=List.getElem_of_mem hm
  have hj':a+j<s.size:=by
   rw [List.length_drop] at hj
   have:s.data.toList.length=s.size:=by simp
   omega
  obtain ⟨y,h1,h2⟩:=GM hj'
  refine hn (a+j) (by omega) hj' ?_
  rw [List.getElem_drop] at e
  rw [List.getElem?_eq_getElem (by simpa using hj')] at h1
  injection h1 with h1
  rw [h2,← h1,e]
  rfl
def QY:List ByteArray→Option Int
 | [p0,p1,p2,p3,p4] =>
  if p2=emp∨p3=emp∨¬bj p2 0=99∨¬bj p3 0=99 then none else
  if (dg 2 p0 3).2=true∧(dg 2 p1 7).2=true∧(dg 2 (p2.extract 1 p2.size) 15).2=true∧(dg 2 (p3.extract 1 p3.size) 15).2=true∧(dg 2 p4 7).2=true∧2≤(dg 2 p0 3).1 then
   some ((((((dg 2 p0 3).1-2)*8+(dg 2 p1 7).1)*16+(dg 2 (p2.extract 1 p2.size) 15).1)*16+(dg 2 (p3.extract 1 p3.size) 15).1)*8+(dg 2 p4 7).1)
  else none
 | _=>none
def DH (s:ByteArray):Option Int:=if s.size<1∨¬bj s 0=115 then none else QY (dj (s.extract 1 s.size) us)
theorem DS {s:ByteArray} {i:Nat} {n:Int} (h:CB s (i+1)=some n):∃ m,CB s i=some m∧n=10*m+(bj s i-48)∧48≤bj s i∧bj s i≤57:=by
 rw [CB] at h
 split at h
 case h_2=>cases h
 rename_i m hm
 split at h
 ·cases h
 ·rename_i hc
  injection h with h
  exact ⟨m,hm,h.symm,by omega,by omega⟩
theorem ON {s:ByteArray} (h0:¬bj s 0=48) {n:Int} (hn:CB s 3=some n):100≤n:=by
 obtain ⟨a,ha,rfl,_,_⟩:=DS hn
 obtain ⟨b,hb,rfl,_,_⟩:=DS ha
 obtain ⟨c,hc,rfl,_,_⟩:=DS hb
 injection hc with hc
 subst hc
 have:bj s ((0:Nat):Int)=bj s 0:=rfl
 omega
theorem digF_agree (s:ByteArray) {most:Int} (hm:most≤99):dg 3 s most=dg 2 s most∨((dg 3 s most).2=false∧(dg 2 s most).2=false):=by
 by_cases h1:s=emp
 ·left;unfold dg;rw [if_pos (.inl h1),if_pos (.inl h1)]
 by_cases h2:s.size≤2
 ·left
  unfold dg
  have e:(s=emp∨3<s.size∨1<s.size∧bj s 0=48)↔(s=emp∨2<s.size∨1<s.size∧bj s 0=48):=by
   constructor
   ·rintro (h | h | h)
    ·exact .inl h
    ·omega
    ·exact .inr (.inr h)
   ·rintro (h | h | h)
    ·exact .inl h
    ·omega
    ·exact .inr (.inr h)
  simp only [e]
 ·right
  refine ⟨?_,by unfold dg;rw [if_pos (.inr (.inl (by omega)))]⟩
  unfold dg
  split
  ·rfl
  ·rename_i hc
   have h3:s.size=3:=by
    have:¬3<s.size:=fun h=>hc (.inr (.inl h))
    omega
   have h0:¬bj s 0=48:=fun h=>hc (.inr (.inr ⟨by omega,h⟩))
   split
   ·rename_i n hn
    rw [h3] at hn
    have:=ON h0 hn
    simp only [decide_eq_false_iff_not]
    omega
   ·rfl
theorem TA (s:ByteArray):i9 3 s=i9 2 s:=by
 unfold i9
 repeat' split
 all_goals first | rfl | skip
 rcases digF_agree (s.extract 1 s.size) (most:=30) (by decide) with h | ⟨h1,h2⟩
 ·rw [h]
 ·rcases ha:dg 3 (s.extract 1 s.size) 30 with ⟨a,x⟩
  rcases hb:dg 2 (s.extract 1 s.size) 30 with ⟨b,y⟩
  rw [ha] at h1
  rw [hb] at h2
  simp only at h1 h2
  subst h1
  subst h2
  rfl
theorem PB (i:Nat) (n:Int) (w:ByteArray):dl 3 i n w=dl 2 i n w:=by
 have hm:i4.getD i 0≤99:=by
  unfold i4
  match i with
  | 0 | 1 | 2 | 3 | 4=>decide
  | i+5=>simp
 unfold dl
 rcases digF_agree (uP w (dT.getD i emp)).1 hm with h | ⟨h1,h2⟩
 ·rw [h]
 ·rw [if_neg (fun h=>by rw [h1] at h;exact absurd h.2.1 (by simp)),if_neg (fun h=>by rw [h2] at h;exact absurd h.2.1 (by simp))]
theorem OV (l:List ByteArray):∀ i,Cr 3 l i=Cr 2 l i
 | 0=>rfl
 | i+1=>by
  rw [Cr,Cr,OV l i]
  split
  ·exact PB i _ _
  ·rfl
theorem SP (s:ByteArray):uP s emp=(s,true):=by
 unfold uP
 rw [if_pos (PW.2 ⟨di s,rfl⟩),show emp.size=0 from rfl,Ti]
theorem KC (s:ByteArray) (c:Int) (hc:0≤c∧c≤255):uP s (cF [c])=if 0<s.size∧bj s 0=c then (s.extract 1 s.size,true) else (s,false):=by
 unfold uP
 rw [Zw s c hc]
 simp only [decide_eq_true_eq]
 rfl
theorem byteAt_emp:bj emp 0=0:=rfl
def okN (A:Prop) [Decidable A] (x:Int):Option Int:=if A then some x else none
theorem Jq {l:List ByteArray} {i:Nat} {n x:Int} {w:ByteArray} {A B:Prop} [Decidable A] [Decidable B] (hl:Cr 2 l i=okN A n) (hw:l[i]? = some w) (hs:A→dl 2 i n w=okN B x):Cr 2 l (i+1)=okN (A∧B) x:=by
 rw [Cr,hl,hw]
 unfold okN at *
 by_cases a:A
 ·rw [if_pos a]
  simp only
  rw [hs a]
  by_cases b:B
  ·rw [if_pos b,if_pos ⟨a,b⟩]
  ·rw [if_neg b,if_neg (fun h=>b h.2)]
 ·rw [if_neg a,if_neg (fun h=>a h.1)]
theorem YF (p0 p1 p2 p3 p4 q:ByteArray) (hq:uP q s1=(p0,true)):Cr 2 [q,p1,p2,p3,p4] 5=QY [p0,p1,p2,p3,p4]:=by
 have hc:cS=cF [99]:=rfl
 have c2:=KC p2 99 (by decide)
 have c3:=KC p3 99 (by decide)
 have r1:=dW (lim:=2) (s:=p1) (most:=7)
 have r4:=dW (lim:=2) (s:=p4) (most:=7)
 have r2:=dW (lim:=2) (s:=p2.extract 1 p2.size) (most:=15)
 have r3:=dW (lim:=2) (s:=p3.extract 1 p3.size) (most:=15)
 have l0:Cr 2 [q,p1,p2,p3,p4] 0=okN True 0:=rfl
 have l1:=Jq (x:=(dg 2 p0 3).1-2) (B:=(dg 2 p0 3).2=true∧2≤(dg 2 p0 3).1) l0 rfl (fun _=>by
  unfold dl okN
  rw [show dT.getD 0 emp=s1 from rfl,hq,show i4.getD 0 0=3 from rfl]
  by_cases a:(dg 2 p0 3).2=true∧2≤(dg 2 p0 3).1
  ·rw [if_pos a,if_pos ⟨rfl,a.1,by simp only [Sw,if_true];omega⟩]
   simp [Sw]
  ·rw [if_neg a,if_neg (fun h=>a ⟨h.2.1,by have:=h.2.2;simp only [Sw,if_true] at this;omega⟩)])
 have l2:=Jq (x:=((dg 2 p0 3).1-2)*8+(dg 2 p1 7).1) (B:=(dg 2 p1 7).2=true) l1 rfl (fun _=>by
  unfold dl okN
  rw [show dT.getD 1 emp=emp from rfl,SP,show i4.getD 1 0=7 from rfl]
  by_cases a:(dg 2 p1 7).2=true
  ·rw [if_pos a,if_pos ⟨rfl,a,(r1 a).1⟩]
   rfl
  ·rw [if_neg a,if_neg (fun h=>a h.2.1)])
 have l3:=Jq (x:=(((dg 2 p0 3).1-2)*8+(dg 2 p1 7).1)*16+(dg 2 (p2.extract 1 p2.size) 15).1) (B:=(0<p2.size∧bj p2 0=99)∧(dg 2 (p2.extract 1 p2.size) 15).2=true) l2 rfl (fun _=>by
  unfold dl okN
  rw [show dT.getD 2 emp=cF [99] from rfl,c2,show i4.getD 2 0=15 from rfl]
  by_cases b:0<p2.size∧bj p2 0=99
  ·rw [if_pos b]
   by_cases a:(dg 2 (p2.extract 1 p2.size) 15).2=true
   ·rw [if_pos ⟨rfl,a,(r2 a).1⟩,if_pos ⟨b,a⟩]
    rfl
   ·rw [if_neg (fun h=>a h.2.1),if_neg (fun h=>a h.2)]
  ·rw [if_neg b,if_neg (fun h=>absurd h.1 (by simp)),if_neg (fun h=>b h.1)])
 have l4:=Jq (x:=((((dg 2 p0 3).1-2)*8+(dg 2 p1 7).1)*16+(dg 2 (p2.extract 1 p2.size) 15).1)*16+(dg 2 (p3.extract 1 p3.size) 15).1) (B:=(0<p3.size∧bj p3 0=99)∧(dg 2 (p3.extract 1 p3.size) 15).2=true) l3 rfl (fun _=>by
  unfold dl okN
  rw [show dT.getD 3 emp=cF [99] from rfl,c3,show i4.getD 3 0=15 from rfl]
  by_cases b:0<p3.size∧bj p3 0=99
  ·rw [if_pos b]
   by_cases a:(dg 2 (p3.extract 1 p3.size) 15).2=true
   ·rw [if_pos ⟨rfl,a,(r3 a).1⟩,if_pos ⟨b,a⟩]
    rfl
   ·rw [if_neg (fun h=>a h.2.1),if_neg (fun h=>a h.2)]
  ·rw [if_neg b,if_neg (fun h=>absurd h.1 (by simp)),if_neg (fun h=>b h.1)])
 have l5:=Jq (x:=(((((dg 2 p0 3).1-2)*8+(dg 2 p1 7).1)*16+(dg 2 (p2.extract 1 p2.size) 15).1)*16+(dg 2 (p3.extract 1 p3.size) 15).1)*8+(dg 2 p4 7).1) (B:=(dg 2 p4 7).2=true) l4 rfl (fun _=>by
  unfold dl okN
  rw [show dT.getD 4 emp=emp from rfl,SP,show i4.getD 4 0=7 from rfl]
  by_cases a:(dg 2 p4 7).2=true
  ·rw [if_pos a,if_pos ⟨rfl,a,(r4 a).1⟩]
   rfl
  ·rw [if_neg a,if_neg (fun h=>a h.2.1)])
 rw [l5]
 unfold okN
 simp only [QY]
 by_cases h:(((((True∧(dg 2 p0 3).2=true∧2≤(dg 2 p0 3).1)∧(dg 2 p1 7).2=true)∧(0<p2.size∧bj p2 0=99)∧(dg 2 (p2.extract 1 p2.size) 15).2=true)∧(0<p3.size∧bj p3 0=99)∧(dg 2 (p3.extract 1 p3.size) 15).2=true)∧(dg 2 p4 7).2=true)
 ·rw [if_pos h]
  obtain ⟨⟨⟨⟨⟨_,a0,a1⟩,b⟩,c,c'⟩,d,d'⟩,e⟩:=h
  rw [if_neg,if_pos ⟨a0,b,c',d',e,a1⟩]
  rintro (x | x | x | x)
  ·rw [x] at c;exact absurd c.1 (by decide)
  ·rw [x] at d;exact absurd d.1 (by decide)
  ·exact x c.2
  ·exact x d.2
 ·rw [if_neg h]
  split
  ·rfl
  ·rename_i hn
   rw [if_neg]
   rintro ⟨a0,b,c',d',e,a1⟩
   refine h ⟨⟨⟨⟨⟨trivial,a0,a1⟩,b⟩,⟨C7 fun x=>hn (.inl x),?_⟩,c'⟩,⟨C7 fun x=>hn (.inr (.inl x)),?_⟩,d'⟩,e⟩
   ·by_cases x:bj p2 0=99
    ·exact x
    ·exact absurd (.inr (.inr (.inl x))) hn
   ·by_cases x:bj p3 0=99
    ·exact x
    ·exact absurd (.inr (.inr (.inr x))) hn
theorem sys_ref (s:ByteArray):Lu 3 s=DH s:=by
 unfold Lu DH
 rw [OV]
 by_cases h0:s.size<1
 ·have he:s=emp:=l6 (by rw [List.eq_nil_of_length_eq_zero ((dV s).trans (by omega))];rfl)
  rw [he,if_neg (show ¬(dj emp us).length=5 by decide),if_pos (show emp.size<1∨¬bj emp 0=115 from .inl (by decide))]
 have hb:bj s 0=bj s ((0:Nat):Int):=rfl
 obtain ⟨x,hx,hxb⟩:=GM (s:=s) (i:=0) (by omega)
 have hd:s.data.toList=x::s.data.toList.drop 1:=by
  cases hl:s.data.toList with
  | nil=>rw [hl] at hx;cases hx
  | cons y r=>rw [hl] at hx;simp at hx;rw [hx];rfl
 have ht:=KF s 1
 obtain ⟨r,hr⟩:∃ r,s.data.toList.drop 1=r:=⟨_,rfl⟩
 rw [hr] at hd ht
 by_cases h1:bj s 0=115
 ·rw [if_neg (show ¬(s.size<1∨¬bj s 0=115) by omega)]
  have hx115:x=115:=by
   apply UInt8.toNat_inj.1
   show x.toNat=115
   omega
  have hs:eY 95 s.data.toList=match eY 95 r with
   | []=>[[x]]
   | p::ps=>(x::p)::ps:=by
   rw [hd,eY,if_neg (by rw [hx115];decide)]
   rfl
  have hu:hdU us=95:=rfl
  have e1:dj s us=(eY 95 s.data.toList).map fun l=>⟨l.toArray⟩:=rfl
  have e2:dj (s.extract 1 s.size) us=(eY 95 r).map fun l=>⟨l.toArray⟩:=by unfold dj;rw [ht,hu]
  cases hsr:eY 95 r with
  | nil=>have:=LJ 95 r;rw [hsr] at this;simp at this
  | cons p ps =>
   rw [hsr] at hs e2
   simp only at hs
   rw [hs,List.map_cons] at e1
   rw [List.map_cons] at e2
   rw [e1,e2]
   by_cases hl:ps.length=4
   ·rw [if_pos (by simp [hl])]
    match ps,hl with
    | [a,b,c,d],_ =>
     refine YF _ _ _ _ _ _ ?_
     rw [show s1=cF [115] from rfl,KC _ 115 (by decide),if_pos]
     ·congr 1
      apply ByteArray.ext
      rw [← Array.toList_inj,KF]
      rfl
     ·refine ⟨?_,?_⟩
      ·show 0<(x::p).toArray.size
       simp
      ·show ((([x].append p).getD 0 0).toNat:Int)=115
       rw [hx115];rfl
   ·rw [if_neg (by simp [hl])]
    match ps,hl with
    | [],_=>rfl
    | [_],_=>rfl
    | [_,_],_=>rfl
    | [_,_,_],_=>rfl
    | _::_::_::_::_::_,_=>rfl
 ·rw [if_pos (show s.size<1∨¬bj s 0=115 from .inr h1)]
  split
  ·rename_i h5
   have hfail:Cr 2 (dj s us) 1=none:=by
    obtain ⟨q,hq⟩:∃ q,(dj s us)[0]? = some q:=⟨_,List.getElem?_eq_getElem (by omega)⟩
    rw [Cr,hq]
    show dl 2 0 0 q=none
    unfold dl
    rw [if_neg]
    intro h
    have hc:=h.1
    rw [show dT.getD 0 emp=cF [115] from rfl,KC q 115 (by decide)] at hc
    split at hc
    ·rename_i hq1
     have hs:eY 95 s.data.toList=if x==95 then []::eY 95 r else match eY 95 r with
      | []=>[[x]]
      | p::ps=>(x::p)::ps:=by
      rw [hd,eY]
      rfl
     unfold dj at hq
     rw [show hdU us=95 from rfl,hs] at hq
     split at hq
     ·simp only [List.map_cons,List.getElem?_cons_zero,Option.some.injEq] at hq
      rw [← hq] at hq1
      exact absurd hq1.1 (by decide)
     ·split at hq
      ·simp only [List.map_cons,List.getElem?_cons_zero,Option.some.injEq] at hq
       rw [← hq] at hq1
       have:(x.toNat:Int)=115:=hq1.2
       omega
      ·simp only [List.map_cons,List.getElem?_cons_zero,Option.some.injEq] at hq
       rw [← hq] at hq1
       have:(x.toNat:Int)=115:=hq1.2
       omega
    ·cases hc
   exact PP hfail (by decide)
  ·rfl
end
section
open Go.RowKit
theorem LC {n:Int} {x:ByteArray}:∀ {l:List (ByteArray×Int)},CI l n=some x→(x,n)∈l
 | [],h=>by cases h
 | r::l,h=>by
  rw [CI] at h
  split at h
  ·rename_i hn
   injection h with h
   subst h
   subst hn
   exact List.mem_cons_self
  ·exact List.mem_cons_of_mem _ (LC h)
theorem M9 {n:Int} {x:ByteArray}:∀ {l:List (ByteArray×Int)},se l x=some n→(x,n)∈l
 | [],h=>by cases h
 | r::l,h=>by
  rw [se] at h
  split at h
  ·rename_i hn
   injection h with h
   subst h
   subst hn
   exact List.mem_cons_self
  ·exact List.mem_cons_of_mem _ (M9 h)
theorem tbl_cases (k:Int):k=2∨k=3∨k=4∨k=5∨k=6∨k=7∨k=8∨sj k=[]:=by
 by_cases h2:k=2
 ·exact .inl h2
 by_cases h3:k=3
 ·exact .inr (.inl h3)
 by_cases h4:k=4
 ·exact .inr (.inr (.inl h4))
 by_cases h5:k=5
 ·exact .inr (.inr (.inr (.inl h5)))
 by_cases h6:k=6
 ·exact .inr (.inr (.inr (.inr (.inl h6))))
 by_cases h7:k=7
 ·exact .inr (.inr (.inr (.inr (.inr (.inl h7)))))
 by_cases h8:k=8
 ·exact .inr (.inr (.inr (.inr (.inr (.inr (.inl h8))))))
 ·unfold sj
  simp [h2,h3,h4,h5,h6,h7,h8]
def Km (k:Int):Bool:=(sj k).all fun r=>decide (cV 3 k r.1=(r.2,0))&&decide (CI (sj k) r.2=some r.1)&&decide (r.1.size≤40)
theorem tblOk2:Km 2=true:=by decide +kernel
theorem tblOk3:Km 3=true:=by decide +kernel
theorem tblOk4:Km 4=true:=by decide +kernel
theorem tblOk5:Km 5=true:=by decide +kernel
theorem tblOk6:Km 6=true:=by decide +kernel
theorem tblOk7:Km 7=true:=by decide +kernel
theorem tblOk8:Km 8=true:=by decide +kernel
theorem Tw {k:Int} {x:ByteArray} {n:Int} (h:(x,n)∈sj k):(2≤k∧k≤8)∧cV 3 k x=(n,0)∧CI (sj k) n=some x∧x.size≤40:=by
 have hk:(2≤k∧k≤8)∧Km k=true:=by
  rcases tbl_cases k with e | e | e | e | e | e | e | e
  ·subst e;exact ⟨by decide,tblOk2⟩
  ·subst e;exact ⟨by decide,tblOk3⟩
  ·subst e;exact ⟨by decide,tblOk4⟩
  ·subst e;exact ⟨by decide,tblOk5⟩
  ·subst e;exact ⟨by decide,tblOk6⟩
  ·subst e;exact ⟨by decide,tblOk7⟩
  ·subst e;exact ⟨by decide,tblOk8⟩
  ·rw [e] at h;cases h
 refine ⟨hk.1,?_⟩
 have:=List.all_eq_true.1 hk.2 _ h
 simp only [Bool.and_eq_true,decide_eq_true_eq] at this
 exact ⟨this.1.1,this.1.2,this.2⟩
theorem reg_there:∀ i:Fin 128,cV 3 1 (cA (sY (i.val:Int))).1=((i.val:Int),0)∨¬(cA (sY (i.val:Int))).2=0:=by decide +kernel
theorem Wv:∀ i:Fin 128,(cA (sY (i.val:Int))).1.size≤40:=by decide +kernel
theorem Ya:∀ i:Fin 32,∀ x p:Bool,sY (Cv ⟨(i.val:Int),x,p⟩)=⟨(i.val:Int),x,p⟩:=by decide +kernel
theorem RR {t:ByteArray} {n:Int} (h:dg 3 t 30=(n,true)):(0≤n∧n≤30)∧t=eI n:=by
 have hr:=dW (lim:=3) (s:=t) (most:=30) (by rw [h])
 rw [h] at hr
 refine ⟨hr,?_⟩
 simp only at hr
 unfold dg at h
 split at h
 ·cases h
 rename_i hc
 split at h
 case h_2=>cases h
 rename_i m hm
 injection h with h1 h2
 subst h1
 have h1:¬t=emp:=fun e=>hc (.inl e)
 have h3:¬3<t.size:=fun e=>hc (.inr (.inl e))
 have h4:1<t.size→¬bj t 0=48:=fun a b=>hc (.inr (.inr ⟨a,b⟩))
 have hpos:=C7 h1
 have h5:t.size=1∨t.size=2∨t.size=3:=by omega
 have b0:(di t)[0]? = some (bj t (0:Nat)):=CR hpos
 have z0:bj t (0:Nat)=bj t 0:=rfl
 have z1:bj t (1:Nat)=bj t 1:=rfl
 rcases h5 with h5 | h5 | h5
 ·rw [h5] at hm
  obtain ⟨a,ha,hb,hl,hh⟩:=DS hm
  injection ha with ha
  subst ha
  unfold eI
  rw [if_pos (by omega)]
  apply l6
  rw [Db (by simp;omega)]
  apply List.ext_getElem?
  intro i
  match i with
  | 0=>rw [b0];simp;omega
  | i+1 =>
   rw [List.getElem?_eq_none (by rw [dV];omega)]
   simp
 ·rw [h5] at hm
  obtain ⟨a,ha,hb,hl,hh⟩:=DS hm
  obtain ⟨c,hd,he,hl',hh'⟩:=DS ha
  injection hd with hd
  subst hd
  have h0:¬bj t (0:Nat)=48:=h4 (by omega)
  unfold eI
  rw [if_neg (by omega),if_pos (by omega)]
  apply l6
  rw [Db (by simp;omega)]
  have b1:(di t)[1]? = some (bj t (1:Nat)):=CR (by omega)
  apply List.ext_getElem?
  intro i
  match i with
  | 0=>rw [b0];simp;omega
  | 1=>rw [b1];simp;omega
  | i+2 =>
   rw [List.getElem?_eq_none (by rw [dV];omega)]
   simp
 ·rw [h5] at hm
  have:=ON (h4 (by omega)) hm
  omega
theorem Qq {s:ByteArray} (hp:0<s.size) {c:ByteArray} (hc:di c=[bj s 0]):s=c++s.extract 1 s.size:=by
 apply l6
 rw [O1,mH,hc]
 have b0:(di s)[0]? = some (bj s (0:Nat)):=CR hp
 have hl:=dV s
 cases hs:di s with
 | nil=>rw [hs] at hl;simp at hl;omega
 | cons a l =>
  rw [hs] at b0 hl
  simp only [List.getElem?_cons_zero,Option.some.injEq] at b0
  simp only [List.length_cons] at hl
  rw [List.drop_succ_cons,List.drop_zero,List.take_of_length_le (by omega),b0]
  rfl
theorem aar {s:ByteArray} {r:CF} (h:i9 3 s=(r,0)):(∃ i:Fin 32,r.n=(i.val:Int))∧cA r=(s,0):=by
 unfold i9 at h
 split at h
 ·rename_i e;injection h with h;subst h;subst e;exact ⟨⟨31,rfl⟩,by decide⟩
 split at h
 ·rename_i e;injection h with h;subst h;subst e;exact ⟨⟨31,rfl⟩,by decide⟩
 split at h
 ·rename_i e;injection h with h;subst h;subst e;exact ⟨⟨31,rfl⟩,by decide⟩
 split at h
 ·rename_i e;injection h with h;subst h;subst e;exact ⟨⟨31,rfl⟩,by decide⟩
 split at h
 ·cases h
 rename_i hc
 unfold Nn at h
 split at h
 case h_2=>cases h
 rename_i n hd
 injection h with h
 subst h
 obtain ⟨hr,ht⟩:=RR hd
 refine ⟨⟨⟨n.toNat,by omega⟩,by simp;omega⟩,?_⟩
 have hp:0<s.size:=by
  rcases Nat.eq_zero_or_pos s.size with e | e
  ·exact absurd (.inl e) hc
  ·exact e
 have hb:bj s 0=120∨bj s 0=119:=Classical.byContradiction fun e=>hc (.inr e)
 unfold cA
 simp only
 rw [if_neg (by simp;omega),if_neg (by simp),if_neg (by simp),if_neg (by omega)]
 congr 1
 rcases hb with hb | hb
 ·rw [hb,← ht]
  exact (Qq hp (c:=xS) (by rw [hb];decide)).symm
 ·rw [hb,← ht]
  exact (Qq hp (c:=wS) (by rw [hb];decide)).symm
theorem OD {c:UInt8}:∀ {a b:List UInt8},a.count c=0→eY c (a++c::b)=a::eY c b
 | [],b,_=>by simp [eY]
 | x::a,b,h=>by
  rw [List.count_cons] at h
  have hx:¬(x==c)=true:=by intro e;rw [if_pos e] at h;omega
  rw [if_neg hx] at h
  rw [List.cons_append,eY,if_neg hx,OD (a:=a) (by omega)]
def sW (s:ByteArray):List UInt8:=s.data.toList
theorem Oz (a b:ByteArray):sW (a++b)=sW a++sW b:=by
 unfold sW
 rw [ByteArray.data_append]
 simp
theorem Ka {a b:ByteArray} (h:(sW a).count 95=0):dj (a++us++b) us=a::dj b us:=by
 have e:sW (a++us++b)=sW a++95::sW b:=by
  rw [Oz,Oz]
  show sW a++[95]++sW b=_
  simp
 show (eY (hdU us) (sW (a++us++b))).map _=_
 rw [e,show hdU us=95 from rfl,OD h]
 rfl
theorem Sb {a:ByteArray} (h:(sW a).count 95=0):dj a us=[a]:=by
 show (eY (hdU us) (sW a)).map _=_
 rw [show hdU us=95 from rfl,JV h]
 rfl
def fk (i:Nat) (v:Int):ByteArray:=if i=0 then s1++eI (v+2) else if i=2∨i=3 then cS++eI v else eI v
def Kd (i:Nat) (v:Int):Bool :=
 decide ((sW (fk i v)).count 95=0)&&decide ((fk i v).size≤4) &&
 decide ((uP (fk i v) (dT.getD i emp)).2=true∧(dg 3 (uP (fk i v) (dT.getD i emp)).1 (i4.getD i 0)).2=true∧Sw i (dg 3 (uP (fk i v) (dT.getD i emp)).1 (i4.getD i 0)).1=v)
theorem partOk0:∀ j:Fin 2,Kd 0 (j.val:Int)=true:=by decide +kernel
theorem aax:∀ j:Fin 8,Kd 1 (j.val:Int)=true:=by decide +kernel
theorem partOk2:∀ j:Fin 16,Kd 2 (j.val:Int)=true:=by decide +kernel
theorem partOk3:∀ j:Fin 16,Kd 3 (j.val:Int)=true:=by decide +kernel
theorem partOk4:∀ j:Fin 8,Kd 4 (j.val:Int)=true:=by decide +kernel
theorem mi {i:Nat} {v:Int} (hi:i<5) (h0:0≤v) (h1:v<2 ^ fK.getD i 0):(sW (fk i v)).count 95=0∧(fk i v).size≤4∧∀ m,dl 3 i m (fk i v)=some (m*2 ^ fK.getD i 0+v):=by
 have hB:Kd i v=true:=by
  obtain ⟨k,rfl⟩:∃ k:Nat,v=(k:Int):=⟨v.toNat,by omega⟩
  have hi':i=0∨i=1∨i=2∨i=3∨i=4:=by omega
  rcases hi' with rfl | rfl | rfl | rfl | rfl<;>simp only [fK,List.getD_cons_zero,List.getD_cons_succ] at h1
  ·exact partOk0 ⟨k,by omega⟩
  ·exact aax ⟨k,by omega⟩
  ·exact partOk2 ⟨k,by omega⟩
  ·exact partOk3 ⟨k,by omega⟩
  ·exact partOk4 ⟨k,by omega⟩
 unfold Kd at hB
 simp only [Bool.and_eq_true,decide_eq_true_eq] at hB
 refine ⟨hB.1.1,hB.1.2,fun m=>?_⟩
 unfold dl
 rw [if_pos ⟨hB.2.1,hB.2.2.1,by rw [hB.2.2.2];exact h0⟩,hB.2.2.2]
theorem Lb (n:Int):fS n=fk 0 (n / 16384)++us++(fk 1 (n / 2048 % 8)++us++(fk 2 (n / 128 % 16)++us++(fk 3 (n / 8 % 16)++us++fk 4 (n % 8)))):=by
 have e1:usc=us++cS:=by decide
 have p0:∀ v,fk 0 v=s1++eI (v+2):=fun _=>rfl
 have p1:∀ v,fk 1 v=eI v:=fun _=>rfl
 have p2:∀ v,fk 2 v=cS++eI v:=fun _=>rfl
 have p3:∀ v,fk 3 v=cS++eI v:=fun _=>rfl
 have p4:∀ v,fk 4 v=eI v:=fun _=>rfl
 unfold fS
 rw [e1,p0,p1,p2,p3,p4]
 simp only [ByteArray.append_assoc]
theorem Li {n:Int} (h0:0≤n) (h1:n<32768):dj (fS n) us=[fk 0 (n / 16384),fk 1 (n / 2048 % 8),fk 2 (n / 128 % 16),fk 3 (n / 8 % 16),fk 4 (n % 8)]:=by
 rw [Lb,Ka (mi (i:=0) (by omega) (by omega) (by simp [fK];omega)).1,Ka (mi (i:=1) (by omega) (by omega) (by simp [fK];omega)).1,
  Ka (mi (i:=2) (by omega) (by omega) (by simp [fK];omega)).1,Ka (mi (i:=3) (by omega) (by omega) (by simp [fK];omega)).1,Sb (mi (i:=4) (by omega) (by omega) (by simp [fK];omega)).1]
theorem Z0 {n:Int} (h0:0≤n) (h1:n<32768):Lu 3 (fS n)=some n:=by
 unfold Lu
 rw [Li h0 h1]
 refine (if_pos rfl).trans ?_
 have p0:=(mi (i:=0) (v:=n / 16384) (by omega) (by omega) (by simp [fK];omega)).2.2
 have p1:=(mi (i:=1) (v:=n / 2048 % 8) (by omega) (by omega) (by simp [fK];omega)).2.2
 have p2:=(mi (i:=2) (v:=n / 128 % 16) (by omega) (by omega) (by simp [fK];omega)).2.2
 have p3:=(mi (i:=3) (v:=n / 8 % 16) (by omega) (by omega) (by simp [fK];omega)).2.2
 have p4:=(mi (i:=4) (v:=n % 8) (by omega) (by omega) (by simp [fK];omega)).2.2
 simp only [Cr,List.getElem?_cons_zero,List.getElem?_cons_succ,p0,p1,p2,p3,p4]
 simp only [fK,List.getD_cons_zero,List.getD_cons_succ]
 congr 1
 omega
theorem Rk {n:Int} (h0:0≤n) (h1:n<32768):(fS n).size≤40:=by
 rw [Lb]
 have p0:=(mi (i:=0) (v:=n / 16384) (by omega) (by omega) (by simp [fK];omega)).2.1
 have p1:=(mi (i:=1) (v:=n / 2048 % 8) (by omega) (by omega) (by simp [fK];omega)).2.1
 have p2:=(mi (i:=2) (v:=n / 128 % 16) (by omega) (by omega) (by simp [fK];omega)).2.1
 have p3:=(mi (i:=3) (v:=n / 8 % 16) (by omega) (by omega) (by simp [fK];omega)).2.1
 have p4:=(mi (i:=4) (v:=n % 8) (by omega) (by omega) (by simp [fK];omega)).2.1
 have eu:us.size=1:=rfl
 simp only [ByteArray.size_append,eu]
 omega
def shortB:Bool:=lU.all fun r=>decide (dj r.1 us≠dj r.1 us∨(dj r.1 us).length<5)
theorem short:shortB=true:=by decide +kernel
theorem SQ {n:Int} (h0:0≤n) (h1:n<32768):se lU (fS n)=none:=by
 cases h:se lU (fS n) with
 | none=>rfl
 | some m =>
  have:=List.all_eq_true.1 short _ (M9 h)
  simp [Li h0 h1] at this
theorem TR (s:ByteArray):mc 6 s=s:=by
 unfold mc
 rw [if_neg (by omega),if_neg (by omega)]
theorem Vm {lim:Nat} {l:List ByteArray} {n:Int} (h:Cr lim l 5=some n):0≤n∧n<32768:=by
 have step:∀ {i:Nat} {n:Int},i<5→Cr lim l (i+1)=some n→∃ m v,Cr lim l i=some m∧0≤v∧v<2 ^ fK.getD i 0∧n=m*2 ^ fK.getD i 0+v:=by
  intro i n hi h
  rw [Cr] at h
  split at h
  case h_2=>cases h
  rename_i m w hm hw
  obtain ⟨v,_,v0,v1,e⟩:=Pj hi h
  exact ⟨m,v,hm,v0,v1,e⟩
 obtain ⟨n4,v4,h4,a4,b4,e4⟩:=step (by omega) h
 obtain ⟨n3,v3,h3,a3,b3,e3⟩:=step (by omega) h4
 obtain ⟨n2,v2,h2,a2,b2,e2⟩:=step (by omega) h3
 obtain ⟨n1,v1,h1,a1,b1,e1⟩:=step (by omega) h2
 obtain ⟨n0,v0,h0,a0,b0,e0⟩:=step (by omega) h1
 injection h0 with h0
 simp only [fK,List.getD_cons_zero,List.getD_cons_succ] at b0 b1 b2 b3 b4 e0 e1 e2 e3 e4
 simp at b0 b1 b2 b3 b4 e0 e1 e2 e3 e4
 omega
theorem there {k n:Int} {x:ByteArray} (h:cG k n=(x,0)):cV 3 k x=(n,0)∧(1≤k∧k≤8)∧x.size≤40:=by
 unfold cG at h
 split at h
 ·rename_i hk
  subst hk
  split at h
  ·cases h
  rename_i hn
  obtain ⟨i,rfl⟩:∃ i:Fin 128,n=(i.val:Int):=⟨⟨n.toNat,by omega⟩,by simp;omega⟩
  have h3:=Wv i
  rw [h] at h3
  rcases reg_there i with h1 | h1
  ·rw [h] at h1;exact ⟨h1,by decide,h3⟩
  ·rw [h] at h1;exact absurd rfl h1
 ·split at h
  ·rename_i s hs
   injection h with h
   subst h
   have:=Tw (LC hs)
   exact ⟨this.2.1,by omega,this.2.2.2⟩
  ·split at h
   ·rename_i hk
    obtain ⟨rfl,h0,h1⟩:=hk
    injection h with h
    subst h
    refine ⟨?_,by decide,Rk h0 h1⟩
    unfold cV
    rw [if_neg (by omega),TR,show sj 6=lU from rfl,SQ h0 h1,if_pos rfl,Z0 h0 h1]
   ·cases h
theorem back {k m:Int} {s:ByteArray} (h:cV 3 k s=(m,0)):∃ x,cG k m=(x,0)∧(x=s∨(k=2∧(s=hsS∨s=loS))∨k=6):=by
 unfold cV at h
 split at h
 ·rename_i hk
  subst hk
  split at h
  case isFalse he =>
   injection h with _ h
   exact absurd h he
  rename_i he
  injection h with h
  subst h
  obtain ⟨⟨i,hi⟩,hr⟩:=aar (r:=(i9 3 s).1) (s:=s) (by rw [← he])
  refine ⟨s,?_,.inl rfl⟩
  generalize (i9 3 s).1=r at hi hr
  obtain ⟨n,x,p⟩:=r
  simp only at hi
  subst hi
  unfold cG
  have:=i.isLt
  rw [if_pos rfl,if_neg (by unfold Cv;cases x<;>cases p<;>simp<;>omega),Ya i x p,hr]
 ·rename_i hk
  split at h
  ·rename_i n hn
   injection h with h
   subst h
   have:=Tw (M9 hn)
   refine ⟨_,by unfold cG;rw [if_neg hk,this.2.2.1],?_⟩
   unfold mc
   split
   ·rename_i hc;exact .inr (.inl ⟨hc.1,.inl hc.2⟩)
   split
   ·rename_i hc;exact .inr (.inl ⟨hc.1,.inr hc.2⟩)
   ·exact .inl rfl
  ·split at h
   case isFalse=>cases h
   rename_i hk6
   subst hk6
   split at h
   case h_2=>cases h
   rename_i n hn
   injection h with h
   subst h
   have hb:0≤n∧n<32768:=by
    unfold Lu at hn
    split at hn
    case isFalse=>cases hn
    exact Vm hn
   unfold cG
   rw [if_neg hk]
   split
   ·exact ⟨_,rfl,.inr (.inr rfl)⟩
   ·rw [if_pos ⟨rfl,hb⟩];exact ⟨_,rfl,.inr (.inr rfl)⟩
end
end Go.Proofs.YthcoegkfpinlfaaGreatDoor
