import Derived.Test.YtnhbidpdadkcjaaGreatDoorR20
open Go.RowKit
set_option linter.unusedVariables false
set_option linter.unusedSimpArgs false
set_option maxRecDepth 100000
set_option maxHeartbeats 8000000
open List (getElem?_cons_zero map_cons)
namespace Go.Proofs.YtnhbidpdadkcjaaGreatDoor
theorem Ca {c:UInt8}:∀(k:Nat) {l:List UInt8},l[k]? = some c→(∀j x,j<k→l[j]? = some x→¬x=c)→cU c l=l.take k::cU c (l.drop (k+1))
 |0,[],h,_=>by cases h
 |0,x::r,h,_=>by
  simp only[getElem?_cons_zero,Option.some.injEq]at h;subst h;simp[cU]
 |k+1,[],h,_=>by cases h
 |k+1,x::r,h,hn=>by
  have hx:¬(x==c)=true:=by rw[beq_iff_eq];exact hn 0 x (by omega) rfl
  rw[cU,if_neg hx,Ca k (l:=r) (by simpa using h) (fun j y hj hy=>hn (j+1) y (by omega) (by simpa using hy))];simp
theorem EC (s:ByteArray)(a b:Nat):(s.extract a b).data.toList=(s.data.toList.drop a).take (b-a):=by
 rw[ByteArray.data_extract,Array.toList_extract,List.extract_eq_take_drop]
theorem qv (s:ByteArray)(a:Nat):(s.extract a s.size).data.toList=s.data.toList.drop a:=by
 rw[EC,List.take_of_length_le];simp
theorem mX {s:ByteArray}{i:Nat}(h:i<s.size):∃x:UInt8,s.data.toList[i]? = some x∧ab s i=x.toNat:=by
 have h':i<s.data.toList.length:=by simpa using h
 refine⟨s.data.toList[i],List.getElem?_eq_getElem h',?_⟩;unfold ab;simp[List.getD_eq_getElem?_getD,List.getElem?_eq_getElem h']
theorem MP {s:ByteArray}{a i:Nat}(hai:a≤i)(hi:i<s.size)(hb:ab s i=95)(hn:∀j,a≤j→j<i→¬ab s j=95):bq (s.extract a s.size) us=s.extract a i::bq (s.extract (i+1) s.size) us:=by
 unfold bq;have hu:hdU us=95:=rfl;rw[hu,qv,qv,Ca (i-a) (c:=95) ?_ ?_,map_cons]
 ·congr 1
  ·apply ByteArray.ext;rw[←Array.toList_inj,EC]
  ·rw[List.drop_drop,show a+(i-a+1)=i+1 by omega]
 ·rw[List.getElem?_drop,show a+(i-a)=i by omega];obtain⟨x,h1,h2⟩:=mX hi;rw[h1];congr 1;apply UInt8.toNat_inj.1;show x.toNat=95;omega
 ·intro j x hj hx hxc;rw[List.getElem?_drop]at hx;have hlt:a+j<s.size:=by omega
  obtain⟨y,h1,h2⟩:=mX hlt;rw[h1]at hx;injection hx with hx;subst hx;exact hn (a+j) (by omega) (by omega) (by rw[h2,hxc];rfl)
theorem I0 {s:ByteArray}{a:Nat}(hn:∀j,a≤j→j<s.size→¬ab s j=95):bq (s.extract a s.size) us=[s.extract a s.size]:=by
 unfold bq;have hu:hdU us=95:=rfl;rw[hu,pP]
 ·rfl
 ·rw[List.count_eq_zero,qv];intro hm;obtain⟨j,hj,e⟩:=List.getElem_of_mem hm
  have hj':a+j<s.size:=by
   rw[List.length_drop]at hj;have:s.data.toList.length=s.size:=by simp
   omega
  obtain⟨y,h1,h2⟩:=mX hj';refine hn (a+j) (by omega) hj' ?_;rw[List.getElem_drop]at e;rw[List.getElem?_eq_getElem (by simpa using hj')]at h1;injection h1 with h1;rw[h2,←h1,e];rfl
def Ds:List ByteArray→Option Int
 |[p0,p1,p2,p3,p4] =>
  if p2=emp∨p3=emp∨¬ab p2 0=99∨¬ab p3 0=99 then none else
  if(bi 2 p0 3).2=true∧(bi 2 p1 7).2=true∧(bi 2 (p2.extract 1 p2.size) 15).2=true∧(bi 2 (p3.extract 1 p3.size) 15).2=true∧(bi 2 p4 7).2=true∧2≤(bi 2 p0 3).1 then
   some ((((((bi 2 p0 3).1-2)*8+(bi 2 p1 7).1)*16+(bi 2 (p2.extract 1 p2.size) 15).1)*16+(bi 2 (p3.extract 1 p3.size) 15).1)*8+(bi 2 p4 7).1)
  else none
 |_=>none
def mQ (s:ByteArray):Option Int:=if s.size<1∨¬ab s 0=115 then none else Ds (bq (s.extract 1 s.size) us)
theorem lV {s:ByteArray}{i:Nat}{n:Int}(h:ku s (i+1)=some n):∃m,ku s i=some m∧n=10*m+(ab s i-48)∧48≤ab s i∧ab s i≤57:=by
 rw[ku]at h;split at h
 case h_2=>cases h
 rename_i m hm;split at h
 ·cases h
 ·rename_i hc;injection h with h;exact⟨m,hm,h.symm,by omega,by omega⟩
theorem yf {s:ByteArray}(h0:¬ab s 0=48){n:Int}(hn:ku s 3=some n):100≤n:=by
 obtain⟨a,ha,rfl,_,_⟩:=lV hn;obtain⟨b,hb,rfl,_,_⟩:=lV ha;obtain⟨c,hc,rfl,_,_⟩:=lV hb;injection hc with hc;subst hc;have:ab s ((0:Nat):Int)=ab s 0:=rfl;omega
theorem digF_agree (s:ByteArray){most:Int}(hm:most≤99):bi 3 s most=bi 2 s most∨((bi 3 s most).2=false∧(bi 2 s most).2=false):=by
 by_cases h1:s=emp
 ·left;unfold bi;rw[if_pos (.inl h1),if_pos (.inl h1)]
 by_cases h2:s.size≤2
 ·left;unfold bi
  have e:(s=emp∨3<s.size∨1<s.size∧ab s 0=48)↔(s=emp∨2<s.size∨1<s.size∧ab s 0=48):=by
   constructor
   ·rintro (h | h | h)
    ·exact .inl h
    ·omega
    ·exact .inr (.inr h)
   ·rintro (h | h | h)
    ·exact .inl h
    ·omega
    ·exact .inr (.inr h)
  simp only[e]
 ·right;refine⟨?_,by unfold bi;rw[if_pos (.inr (.inl (by omega)))]⟩;unfold bi;split
  ·rfl
  ·rename_i hc
   have h3:s.size=3:=by
    have:¬3<s.size:=fun h=>hc (.inr (.inl h));omega
   have h0:¬ab s 0=48:=fun h=>hc (.inr (.inr ⟨by omega,h⟩));split
   ·rename_i n hn;rw[h3]at hn;have:=yf h0 hn;simp only[decide_eq_false_iff_not];omega
   ·rfl
theorem IC (s:ByteArray):dg 3 s=dg 2 s:=by
 unfold dg
 repeat' split
 all_goals first | rfl | skip
 rcases digF_agree (s.extract 1 s.size) (most:=30) (by decide) with h | ⟨h1,h2⟩
 ·rw[h]
 ·rcases ha:bi 3 (s.extract 1 s.size) 30 with ⟨a,x⟩;rcases hb:bi 2 (s.extract 1 s.size) 30 with ⟨b,y⟩;rw[ha]at h1;rw[hb]at h2;simp only at h1 h2;subst h1;subst h2;rfl
theorem AX (i:Nat)(n:Int)(w:ByteArray):bx 3 i n w=bx 2 i n w:=by
 have hm:fi.getD i 0≤99:=by
  unfold fi
  match i with
  |0 | 1 | 2 | 3 | 4=>decide
  |i+5=>simp
 unfold bx;rcases digF_agree (jR w (cg.getD i emp)).1 hm with h | ⟨h1,h2⟩
 ·rw[h]
 ·rw[if_neg (fun h=>by rw[h1]at h;exact absurd h.2.1 (by simp)),if_neg (fun h=>by rw[h2]at h;exact absurd h.2.1 (by simp))]
theorem Aj (l:List ByteArray):∀i,kj 3 l i=kj 2 l i
 |0=>rfl
 |i+1=>by
  rw[kj,kj,Aj l i];split
  ·exact AX i _ _
  ·rfl
theorem Ee (s:ByteArray):jR s emp=(s,true):=by
 unfold jR;rw[if_pos (rA.2 ⟨aa s,rfl⟩),show emp.size=0 from rfl,ED]
theorem qp (s:ByteArray)(c:Int)(hc:0≤c∧c≤255):jR s (aj [c])=if 0<s.size∧ab s 0=c then(s.extract 1 s.size,true) else(s,false):=by
 unfold jR;rw[Oy s c hc];simp only[decide_eq_true_eq];rfl
theorem Ve:ab emp 0=0:=rfl
def okN (A:Prop)[Decidable A](x:Int):Option Int:=if A then some x else none
theorem oS {l:List ByteArray}{i:Nat}{n x:Int}{w:ByteArray}{A B:Prop}[Decidable A][Decidable B](hl:kj 2 l i=okN A n)(hw:l[i]? = some w)(hs:A→bx 2 i n w=okN B x):kj 2 l (i+1)=okN (A∧B) x:=by
 rw[kj,hl,hw];unfold okN at *
 by_cases a:A
 ·rw[if_pos a];simp only;rw[hs a];by_cases b:B
  ·rw[if_pos b,if_pos ⟨a,b⟩]
  ·rw[if_neg b,if_neg (fun h=>b h.2)]
 ·rw[if_neg a,if_neg (fun h=>a h.1)]
theorem QM (p0 p1 p2 p3 p4 q:ByteArray)(hq:jR q s1=(p0,true)):kj 2 [q,p1,p2,p3,p4] 5=Ds [p0,p1,p2,p3,p4]:=by
 have hc:cS=aj [99]:=rfl;have c2:=qp p2 99 (by decide);have c3:=qp p3 99 (by decide);have r1:=cw (lim:=2) (s:=p1) (most:=7);have r4:=cw (lim:=2) (s:=p4) (most:=7);have r2:=cw (lim:=2) (s:=p2.extract 1 p2.size) (most:=15);have r3:=cw (lim:=2) (s:=p3.extract 1 p3.size) (most:=15);have l0:kj 2 [q,p1,p2,p3,p4] 0=okN True 0:=rfl
 have l1:=oS (x:=(bi 2 p0 3).1-2) (B:=(bi 2 p0 3).2=true∧2≤(bi 2 p0 3).1) l0 rfl (fun _=>by
  unfold bx okN;rw[show cg.getD 0 emp=s1 from rfl,hq,show fi.getD 0 0=3 from rfl];by_cases a:(bi 2 p0 3).2=true∧2≤(bi 2 p0 3).1
  ·rw[if_pos a,if_pos ⟨rfl,a.1,by simp only[Gl,if_true];omega⟩];simp[Gl]
  ·rw[if_neg a,if_neg (fun h=>a ⟨h.2.1,by have:=h.2.2;simp only[Gl,if_true]at this;omega⟩)])
 have l2:=oS (x:=((bi 2 p0 3).1-2)*8+(bi 2 p1 7).1) (B:=(bi 2 p1 7).2=true) l1 rfl (fun _=>by
  unfold bx okN;rw[show cg.getD 1 emp=emp from rfl,Ee,show fi.getD 1 0=7 from rfl];by_cases a:(bi 2 p1 7).2=true
  ·rw[if_pos a,if_pos ⟨rfl,a,(r1 a).1⟩];rfl
  ·rw[if_neg a,if_neg (fun h=>a h.2.1)])
 have l3:=oS (x:=(((bi 2 p0 3).1-2)*8+(bi 2 p1 7).1)*16+(bi 2 (p2.extract 1 p2.size) 15).1) (B:=(0<p2.size∧ab p2 0=99)∧(bi 2 (p2.extract 1 p2.size) 15).2=true) l2 rfl (fun _=>by
  unfold bx okN;rw[show cg.getD 2 emp=aj [99] from rfl,c2,show fi.getD 2 0=15 from rfl];by_cases b:0<p2.size∧ab p2 0=99
  ·rw[if_pos b];by_cases a:(bi 2 (p2.extract 1 p2.size) 15).2=true
   ·rw[if_pos ⟨rfl,a,(r2 a).1⟩,if_pos ⟨b,a⟩];rfl
   ·rw[if_neg (fun h=>a h.2.1),if_neg (fun h=>a h.2)]
  ·rw[if_neg b,if_neg (fun h=>absurd h.1 (by simp)),if_neg (fun h=>b h.1)])
 have l4:=oS (x:=((((bi 2 p0 3).1-2)*8+(bi 2 p1 7).1)*16+(bi 2 (p2.extract 1 p2.size) 15).1)*16+(bi 2 (p3.extract 1 p3.size) 15).1) (B:=(0<p3.size∧ab p3 0=99)∧(bi 2 (p3.extract 1 p3.size) 15).2=true) l3 rfl (fun _=>by
  unfold bx okN;rw[show cg.getD 3 emp=aj [99] from rfl,c3,show fi.getD 3 0=15 from rfl];by_cases b:0<p3.size∧ab p3 0=99
  ·rw[if_pos b];by_cases a:(bi 2 (p3.extract 1 p3.size) 15).2=true
   ·rw[if_pos ⟨rfl,a,(r3 a).1⟩,if_pos ⟨b,a⟩];rfl
   ·rw[if_neg (fun h=>a h.2.1),if_neg (fun h=>a h.2)]
  ·rw[if_neg b,if_neg (fun h=>absurd h.1 (by simp)),if_neg (fun h=>b h.1)])
 have l5:=oS (x:=(((((bi 2 p0 3).1-2)*8+(bi 2 p1 7).1)*16+(bi 2 (p2.extract 1 p2.size) 15).1)*16+(bi 2 (p3.extract 1 p3.size) 15).1)*8+(bi 2 p4 7).1) (B:=(bi 2 p4 7).2=true) l4 rfl (fun _=>by
  unfold bx okN;rw[show cg.getD 4 emp=emp from rfl,Ee,show fi.getD 4 0=7 from rfl];by_cases a:(bi 2 p4 7).2=true
  ·rw[if_pos a,if_pos ⟨rfl,a,(r4 a).1⟩];rfl
  ·rw[if_neg a,if_neg (fun h=>a h.2.1)])
 rw[l5];unfold okN;simp only[Ds];by_cases h:(((((True∧(bi 2 p0 3).2=true∧2≤(bi 2 p0 3).1)∧(bi 2 p1 7).2=true)∧(0<p2.size∧ab p2 0=99)∧(bi 2 (p2.extract 1 p2.size) 15).2=true)∧(0<p3.size∧ab p3 0=99)∧(bi 2 (p3.extract 1 p3.size) 15).2=true)∧(bi 2 p4 7).2=true)
 ·rw[if_pos h];obtain⟨⟨⟨⟨⟨_,a0,a1⟩,b⟩,c,c'⟩,d,d'⟩,e⟩:=h;rw[if_neg,if_pos ⟨a0,b,c',d',e,a1⟩];rintro (x | x | x | x)
  ·rw[x]at c;exact absurd c.1 (by decide)
  ·rw[x]at d;exact absurd d.1 (by decide)
  ·exact x c.2
  ·exact x d.2
 ·rw[if_neg h];split
  ·rfl
  ·rename_i hn;rw[if_neg];rintro⟨a0,b,c',d',e,a1⟩;refine h ⟨⟨⟨⟨⟨trivial,a0,a1⟩,b⟩,⟨lm fun x=>hn (.inl x),?_⟩,c'⟩,⟨lm fun x=>hn (.inr (.inl x)),?_⟩,d'⟩,e⟩
   ·by_cases x:ab p2 0=99
    ·exact x
    ·exact absurd (.inr (.inr (.inl x))) hn
   ·by_cases x:ab p3 0=99
    ·exact x
    ·exact absurd (.inr (.inr (.inr x))) hn
theorem T9 (s:ByteArray):vI 3 s=mQ s:=by
 unfold vI mQ;rw[Aj];by_cases h0:s.size<1
 ·have he:s=emp:=ez (by rw[List.eq_nil_of_length_eq_zero ((ae s).trans (by omega))];rfl);rw[he,if_neg (show ¬(bq emp us).length=5 by decide),if_pos (show emp.size<1∨¬ab emp 0=115 from .inl (by decide))]
 have hb:ab s 0=ab s ((0:Nat):Int):=rfl;obtain⟨x,hx,hxb⟩:=mX (s:=s) (i:=0) (by omega)
 have hd:s.data.toList=x::s.data.toList.drop 1:=by
  cases hl:s.data.toList with
  |nil=>rw[hl]at hx;cases hx
  |cons y r=>rw[hl]at hx;simp at hx;rw[hx];rfl
 have ht:=qv s 1;obtain⟨r,hr⟩:∃r,s.data.toList.drop 1=r:=⟨_,rfl⟩;rw[hr]at hd ht;by_cases h1:ab s 0=115
 ·rw[if_neg (show ¬(s.size<1∨¬ab s 0=115) by omega)]
  have hx115:x=115:=by
   apply UInt8.toNat_inj.1;show x.toNat=115;omega
  have hs:cU 95 s.data.toList=match cU 95 r with
   |[]=>[[x]]
   |p::ps=>(x::p)::ps:=by
   rw[hd,cU,if_neg (by rw[hx115];decide)];rfl
  have hu:hdU us=95:=rfl;have e1:bq s us=(cU 95 s.data.toList).map fun l=>⟨l.toArray⟩:=rfl;have e2:bq (s.extract 1 s.size) us=(cU 95 r).map fun l=>⟨l.toArray⟩:=by unfold bq;rw[ht,hu]
  cases hsr:cU 95 r with
  |nil=>have:=s9 95 r;rw[hsr]at this;simp at this
  |cons p ps =>
   rw[hsr]at hs e2;simp only at hs;rw[hs,map_cons]at e1;rw[map_cons]at e2;rw[e1,e2];by_cases hl:ps.length=4
   ·rw[if_pos (by simp[hl])]
    match ps,hl with
    |[a,b,c,d],_ =>
     refine QM _ _ _ _ _ _ ?_;rw[show s1=aj [115] from rfl,qp _ 115 (by decide),if_pos]
     ·congr 1;apply ByteArray.ext;rw[←Array.toList_inj,qv];rfl
     ·refine⟨?_,?_⟩
      ·show 0<(x::p).toArray.size;simp
      ·show((([x].append p).getD 0 0).toNat:Int)=115;rw[hx115];rfl
   ·rw[if_neg (by simp[hl])]
    match ps,hl with
    |[],_=>rfl
    |[_],_=>rfl
    |[_,_],_=>rfl
    |[_,_,_],_=>rfl
    |_::_::_::_::_::_,_=>rfl
 ·rw[if_pos (show s.size<1∨¬ab s 0=115 from .inr h1)];split
  ·rename_i h5
   have hfail:kj 2 (bq s us) 1=none:=by
    obtain⟨q,hq⟩:∃q,(bq s us)[0]? = some q:=⟨_,List.getElem?_eq_getElem (by omega)⟩;rw[kj,hq];show bx 2 0 0 q=none;unfold bx;rw[if_neg];intro h;have hc:=h.1;rw[show cg.getD 0 emp=aj [115] from rfl,qp q 115 (by decide)]at hc;split at hc
    ·rename_i hq1
     have hs:cU 95 s.data.toList=if x==95 then[]::cU 95 r else match cU 95 r with
      |[]=>[[x]]
      |p::ps=>(x::p)::ps:=by
      rw[hd,cU];rfl
     unfold bq at hq;rw[show hdU us=95 from rfl,hs]at hq;split at hq
     ·simp only[map_cons,getElem?_cons_zero,Option.some.injEq]at hq;rw[←hq]at hq1;exact absurd hq1.1 (by decide)
     ·split at hq
      ·simp only[map_cons,getElem?_cons_zero,Option.some.injEq]at hq;rw[←hq]at hq1;have:(x.toNat:Int)=115:=hq1.2;omega
      ·simp only[map_cons,getElem?_cons_zero,Option.some.injEq]at hq;rw[←hq]at hq1;have:(x.toNat:Int)=115:=hq1.2;omega
    ·cases hc
   exact Cc hfail (by decide)
  ·rfl
theorem py {n:Int}{x:ByteArray}:∀{l:List (ByteArray×Int)},j8 l n=some x→(x,n)∈l
 |[],h=>by cases h
 |r::l,h=>by
  rw[j8]at h;split at h
  ·rename_i hn;injection h with h;subst h;subst hn;exact List.mem_cons_self
  ·exact List.mem_cons_of_mem _ (py h)
theorem rD {n:Int}{x:ByteArray}:∀{l:List (ByteArray×Int)},ii l x=some n→(x,n)∈l
 |[],h=>by cases h
 |r::l,h=>by
  rw[ii]at h;split at h
  ·rename_i hn;injection h with h;subst h;subst hn;exact List.mem_cons_self
  ·exact List.mem_cons_of_mem _ (rD h)
theorem tbl_cases (k:Int):k=2∨k=3∨k=4∨k=5∨k=6∨k=7∨k=8∨fK k=[]:=by
 by_cases h2:k=2
 ·exact .inl h2
 by_cases h3:k=3
 ·exact .inr (.inl h3)
 by_cases h4:k=4
 ·exact .inr (.inr (.inl h4))
 by_cases h5:k=5
 ·exact .inr (.inr (.inr (.inl h5)))
 by_cases h6:k=6
 ·exact .inr (.inr (.inr (.inr (.inl h6))))
 by_cases h7:k=7
 ·exact .inr (.inr (.inr (.inr (.inr (.inl h7)))))
 by_cases h8:k=8
 ·exact .inr (.inr (.inr (.inr (.inr (.inr (.inl h8))))))
 ·unfold fK;simp[h2,h3,h4,h5,h6,h7,h8]
def ra (k:Int):Bool:=(fK k).all fun r=>decide (ag 3 k r.1=(r.2,0))&&decide (j8 (fK k) r.2=some r.1)&&decide (r.1.size≤40)
theorem W9:ra 2=true:=by decide +kernel
theorem Xa:ra 3=true:=by decide +kernel
theorem Xc:ra 4=true:=by decide +kernel
theorem Xd:ra 5=true:=by decide +kernel
theorem Xe:ra 6=true:=by decide +kernel
theorem Xf:ra 7=true:=by decide +kernel
theorem Xg:ra 8=true:=by decide +kernel
theorem Ja {k:Int}{x:ByteArray}{n:Int}(h:(x,n)∈fK k):(2≤k∧k≤8)∧ag 3 k x=(n,0)∧j8 (fK k) n=some x∧x.size≤40:=by
 have hk:(2≤k∧k≤8)∧ra k=true:=by
  rcases tbl_cases k with e | e | e | e | e | e | e | e
  ·subst e;exact⟨by decide,W9⟩
  ·subst e;exact⟨by decide,Xa⟩
  ·subst e;exact⟨by decide,Xc⟩
  ·subst e;exact⟨by decide,Xd⟩
  ·subst e;exact⟨by decide,Xe⟩
  ·subst e;exact⟨by decide,Xf⟩
  ·subst e;exact⟨by decide,Xg⟩
  ·rw[e]at h;cases h
 refine⟨hk.1,?_⟩;have:=List.all_eq_true.1 hk.2 _ h;simp only[Bool.and_eq_true,decide_eq_true_eq]at this;exact⟨this.1.1,this.1.2,this.2⟩
theorem reg_there:∀i:Fin 128,ag 3 1 (aJ (kG (i.val:Int))).1=((i.val:Int),0)∨¬(aJ (kG (i.val:Int))).2=0:=by decide +kernel
theorem Mz:∀i:Fin 128,(aJ (kG (i.val:Int))).1.size≤40:=by decide +kernel
theorem My:∀i:Fin 32,∀x p:Bool,kG (nI ⟨(i.val:Int),x,p⟩)=⟨(i.val:Int),x,p⟩:=by decide +kernel
theorem Er {t:ByteArray}{n:Int}(h:bi 3 t 30=(n,true)):(0≤n∧n≤30)∧t=de n:=by
 have hr:=cw (lim:=3) (s:=t) (most:=30) (by rw[h]);rw[h]at hr;refine⟨hr,?_⟩;simp only at hr;unfold bi at h;split at h
 ·cases h
 rename_i hc;split at h
 case h_2=>cases h
 rename_i m hm;injection h with h1 h2;subst h1;have h1:¬t=emp:=fun e=>hc (.inl e);have h3:¬3<t.size:=fun e=>hc (.inr (.inl e));have h4:1<t.size→¬ab t 0=48:=fun a b=>hc (.inr (.inr ⟨a,b⟩));have hpos:=lm h1;have h5:t.size=1∨t.size=2∨t.size=3:=by omega
 have b0:(aa t)[0]? = some (ab t (0:Nat)):=dw hpos;have z0:ab t (0:Nat)=ab t 0:=rfl;have z1:ab t (1:Nat)=ab t 1:=rfl;rcases h5 with h5 | h5 | h5
 ·rw[h5]at hm;obtain⟨a,ha,hb,hl,hh⟩:=lV hm;injection ha with ha;subst ha;unfold de;rw[pS];apply ez;rw[bj (by simp;omega)];apply List.ext_getElem?;intro i
  match i with
  |0=>rw[b0];simp;omega
  |i+1 =>
   rw[List.getElem?_eq_none (by rw[ae];omega)];simp
 ·rw[h5]at hm;obtain⟨a,ha,hb,hl,hh⟩:=lV hm;obtain⟨c,hd,he,hl',hh'⟩:=lV ha;injection hd with hd;subst hd;have h0:¬ab t (0:Nat)=48:=h4 (by omega);unfold de;rw[nG,pS];apply ez;rw[bj (by simp;omega)];have b1:(aa t)[1]? = some (ab t (1:Nat)):=dw (by omega);apply List.ext_getElem?;intro i
  match i with
  |0=>rw[b0];simp;omega
  |1=>rw[b1];simp;omega
  |i+2 =>
   rw[List.getElem?_eq_none (by rw[ae];omega)];simp
 ·rw[h5]at hm;have:=yf (h4 (by omega)) hm;omega
theorem Bw {s:ByteArray}(hp:0<s.size){c:ByteArray}(hc:aa c=[ab s 0]):s=c++s.extract 1 s.size:=by
 apply ez;rw[eh,cD,hc];have b0:(aa s)[0]? = some (ab s (0:Nat)):=dw hp;have hl:=ae s;cases hs:aa s with
 |nil=>rw[hs]at hl;simp at hl;omega
 |cons a l =>
  rw[hs]at b0 hl;simp only[getElem?_cons_zero,Option.some.injEq]at b0;simp only[List.length_cons]at hl;rw[List.drop_succ_cons,List.drop_zero,List.take_of_length_le (by omega),b0];rfl
theorem FJ {s:ByteArray}{r:gu}(h:dg 3 s=(r,0)):(∃i:Fin 32,r.n=(i.val:Int))∧aJ r=(s,0):=by
 unfold dg at h;split at h
 ·rename_i e;injection h with h;subst h;subst e;exact⟨⟨31,rfl⟩,by decide⟩
 split at h
 ·rename_i e;injection h with h;subst h;subst e;exact⟨⟨31,rfl⟩,by decide⟩
 split at h
 ·rename_i e;injection h with h;subst h;subst e;exact⟨⟨31,rfl⟩,by decide⟩
 split at h
 ·rename_i e;injection h with h;subst h;subst e;exact⟨⟨31,rfl⟩,by decide⟩
 split at h
 ·cases h
 rename_i hc;unfold vw at h;split at h
 case h_2=>cases h
 rename_i n hd;injection h with h;subst h;obtain⟨hr,ht⟩:=Er hd;refine⟨⟨⟨n.toNat,by omega⟩,by simp;omega⟩,?_⟩
 have hp:0<s.size:=by
  rcases Nat.eq_zero_or_pos s.size with e | e
  ·exact absurd (.inl e) hc
  ·exact e
 have hb:ab s 0=120∨ab s 0=119:=Classical.byContradiction fun e=>hc (.inr e);unfold aJ;simp only;rw[if_neg (by simp;omega),if_neg (by simp),if_neg (by simp),nG];congr 1;rcases hb with hb | hb
 ·rw[hb,←ht];exact(Bw hp (c:=xS) (by rw[hb];decide)).symm
 ·rw[hb,←ht];exact(Bw hp (c:=wS) (by rw[hb];decide)).symm
theorem Aa {c:UInt8}:∀{a b:List UInt8},a.count c=0→cU c (a++c::b)=a::cU c b
 |[],b,_=>by simp[cU]
 |x::a,b,h=>by
  rw[List.count_cons]at h;have hx:¬(x==c)=true:=by intro e;rw[if_pos e]at h;omega
  rw[if_neg hx]at h;rw[List.cons_append,cU,if_neg hx,Aa (a:=a) (by omega)]
def jp (s:ByteArray):List UInt8:=s.data.toList
theorem yc (a b:ByteArray):jp (a++b)=jp a++jp b:=by
 unfold jp;rw[ByteArray.data_append];simp
theorem pN {a b:ByteArray}(h:(jp a).count 95=0):bq (a++us++b) us=a::bq b us:=by
 have e:jp (a++us++b)=jp a++95::jp b:=by
  rw[yc,yc];show jp a++[95]++jp b=_;simp
 show(cU (hdU us) (jp (a++us++b))).map _=_;rw[e,show hdU us=95 from rfl,Aa h];rfl
theorem F9 {a:ByteArray}(h:(jp a).count 95=0):bq a us=[a]:=by
 show(cU (hdU us) (jp a)).map _=_;rw[show hdU us=95 from rfl,pP h];rfl
def bK (i:Nat)(v:Int):ByteArray:=if i=0 then s1++de (v+2) else if i=2∨i=3 then cS++de v else de v
def pB (i:Nat)(v:Int):Bool :=
 decide ((jp (bK i v)).count 95=0)&&decide ((bK i v).size≤4) &&
 decide ((jR (bK i v) (cg.getD i emp)).2=true∧(bi 3 (jR (bK i v) (cg.getD i emp)).1 (fi.getD i 0)).2=true∧Gl i (bi 3 (jR (bK i v) (cg.getD i emp)).1 (fi.getD i 0)).1=v)
theorem Th:∀j:Fin 2,pB 0 (j.val:Int)=true:=by decide +kernel
theorem Ti:∀j:Fin 8,pB 1 (j.val:Int)=true:=by decide +kernel
theorem Tj:∀j:Fin 16,pB 2 (j.val:Int)=true:=by decide +kernel
theorem Tk:∀j:Fin 16,pB 3 (j.val:Int)=true:=by decide +kernel
theorem Tl:∀j:Fin 8,pB 4 (j.val:Int)=true:=by decide +kernel
theorem gD {i:Nat}{v:Int}(hi:i<5)(h0:0≤v)(h1:v<2 ^ dP.getD i 0):(jp (bK i v)).count 95=0∧(bK i v).size≤4∧∀m,bx 3 i m (bK i v)=some (m*2 ^ dP.getD i 0+v):=by
 have hB:pB i v=true:=by
  obtain⟨k,rfl⟩:∃k:Nat,v=(k:Int):=⟨v.toNat,by omega⟩;have hi':i=0∨i=1∨i=2∨i=3∨i=4:=by omega
  rcases hi' with rfl | rfl | rfl | rfl | rfl<;>simp only[dP,List.getD_cons_zero,List.getD_cons_succ]at h1
  ·exact Th ⟨k,by omega⟩
  ·exact Ti ⟨k,by omega⟩
  ·exact Tj ⟨k,by omega⟩
  ·exact Tk ⟨k,by omega⟩
  ·exact Tl ⟨k,by omega⟩
 unfold pB at hB;simp only[Bool.and_eq_true,decide_eq_true_eq]at hB;refine⟨hB.1.1,hB.1.2,fun m=>?_⟩;unfold bx;rw[if_pos ⟨hB.2.1,hB.2.2.1,by rw[hB.2.2.2];exact h0⟩,hB.2.2.2]
theorem kS (n:Int):dc n=bK 0 (n / 16384)++us++(bK 1 (n / 2048 % 8)++us++(bK 2 (n / 128 % 16)++us++(bK 3 (n / 8 % 16)++us++bK 4 (n % 8)))):=by
 have e1:usc=us++cS:=by decide
 have p0:∀v,bK 0 v=s1++de (v+2):=fun _=>rfl;have p1:∀v,bK 1 v=de v:=fun _=>rfl;have p2:∀v,bK 2 v=cS++de v:=fun _=>rfl;have p3:∀v,bK 3 v=cS++de v:=fun _=>rfl;have p4:∀v,bK 4 v=de v:=fun _=>rfl;unfold dc;rw[e1,p0,p1,p2,p3,p4];simp only[ByteArray.append_assoc]
theorem nQ {n:Int}(h0:0≤n)(h1:n<32768):bq (dc n) us=[bK 0 (n / 16384),bK 1 (n / 2048 % 8),bK 2 (n / 128 % 16),bK 3 (n / 8 % 16),bK 4 (n % 8)]:=by
 rw[kS,pN (gD (i:=0) (by omega) (by omega) (by simp[dP];omega)).1,pN (gD (i:=1) (by omega) (by omega) (by simp[dP];omega)).1,
  pN (gD (i:=2) (by omega) (by omega) (by simp[dP];omega)).1,pN (gD (i:=3) (by omega) (by omega) (by simp[dP];omega)).1,F9 (gD (i:=4) (by omega) (by omega) (by simp[dP];omega)).1]
theorem QN {n:Int}(h0:0≤n)(h1:n<32768):vI 3 (dc n)=some n:=by
 unfold vI;rw[nQ h0 h1];refine(if_pos rfl).trans ?_;have p0:=(gD (i:=0) (v:=n / 16384) (by omega) (by omega) (by simp[dP];omega)).2.2;have p1:=(gD (i:=1) (v:=n / 2048 % 8) (by omega) (by omega) (by simp[dP];omega)).2.2;have p2:=(gD (i:=2) (v:=n / 128 % 16) (by omega) (by omega) (by simp[dP];omega)).2.2;have p3:=(gD (i:=3) (v:=n / 8 % 16) (by omega) (by omega) (by simp[dP];omega)).2.2;have p4:=(gD (i:=4) (v:=n % 8) (by omega) (by omega) (by simp[dP];omega)).2.2;simp only[kj,getElem?_cons_zero,List.getElem?_cons_succ,p0,p1,p2,p3,p4];simp only[dP,List.getD_cons_zero,List.getD_cons_succ];congr 1;omega
theorem uG {n:Int}(h0:0≤n)(h1:n<32768):(dc n).size≤40:=by
 rw[kS];have p0:=(gD (i:=0) (v:=n / 16384) (by omega) (by omega) (by simp[dP];omega)).2.1;have p1:=(gD (i:=1) (v:=n / 2048 % 8) (by omega) (by omega) (by simp[dP];omega)).2.1;have p2:=(gD (i:=2) (v:=n / 128 % 16) (by omega) (by omega) (by simp[dP];omega)).2.1;have p3:=(gD (i:=3) (v:=n / 8 % 16) (by omega) (by omega) (by simp[dP];omega)).2.1;have p4:=(gD (i:=4) (v:=n % 8) (by omega) (by omega) (by simp[dP];omega)).2.1;have eu:us.size=1:=rfl;simp only[ByteArray.size_append,eu];omega
def WH:Bool:=iC.all fun r=>decide (bq r.1 us≠bq r.1 us∨(bq r.1 us).length<5)
theorem YC:WH=true:=by decide +kernel
theorem Gj {n:Int}(h0:0≤n)(h1:n<32768):ii iC (dc n)=none:=by
 cases h:ii iC (dc n) with
 |none=>rfl
 |some m =>
  have:=List.all_eq_true.1 YC _ (rD h);simp[nQ h0 h1]at this
theorem GL (s:ByteArray):fN 6 s=s:=by
 unfold fN;rw[nG,nG]
theorem I7 {lim:Nat}{l:List ByteArray}{n:Int}(h:kj lim l 5=some n):0≤n∧n<32768:=by
 have step:∀{i:Nat} {n:Int},i<5→kj lim l (i+1)=some n→∃m v,kj lim l i=some m∧0≤v∧v<2 ^ dP.getD i 0∧n=m*2 ^ dP.getD i 0+v:=by
  intro i n hi h;rw[kj]at h;split at h
  case h_2=>cases h
  rename_i m w hm hw;obtain⟨v,_,v0,v1,e⟩:=Am hi h;exact⟨m,v,hm,v0,v1,e⟩
 obtain⟨n4,v4,h4,a4,b4,e4⟩:=step (by omega) h;obtain⟨n3,v3,h3,a3,b3,e3⟩:=step (by omega) h4;obtain⟨n2,v2,h2,a2,b2,e2⟩:=step (by omega) h3;obtain⟨n1,v1,h1,a1,b1,e1⟩:=step (by omega) h2;obtain⟨n0,v0,h0,a0,b0,e0⟩:=step (by omega) h1;injection h0 with h0;simp only[dP,List.getD_cons_zero,List.getD_cons_succ]at b0 b1 b2 b3 b4 e0 e1 e2 e3 e4;simp at b0 b1 b2 b3 b4 e0 e1 e2 e3 e4;omega
theorem there {k n:Int}{x:ByteArray}(h:an k n=(x,0)):ag 3 k x=(n,0)∧(1≤k∧k≤8)∧x.size≤40:=by
 unfold an at h;split at h
 ·rename_i hk;subst hk;split at h
  ·cases h
  rename_i hn;obtain⟨i,rfl⟩:∃i:Fin 128,n=(i.val:Int):=⟨⟨n.toNat,by omega⟩,by simp;omega⟩;have h3:=Mz i;rw[h]at h3;rcases reg_there i with h1 | h1
  ·rw[h]at h1;exact⟨h1,by decide,h3⟩
  ·rw[h]at h1;exact absurd rfl h1
 ·split at h
  ·rename_i s hs;injection h with h;subst h;have:=Ja (py hs);exact⟨this.2.1,by omega,this.2.2.2⟩
  ·split at h
   ·rename_i hk;obtain⟨rfl,h0,h1⟩:=hk;injection h with h;subst h;refine⟨?_,by decide,uG h0 h1⟩;unfold ag;rw[nG,GL,show fK 6=iC from rfl,Gj h0 h1,if_pos rfl,QN h0 h1]
   ·cases h
theorem back {k m:Int}{s:ByteArray}(h:ag 3 k s=(m,0)):∃x,an k m=(x,0)∧(x=s∨(k=2∧(s=hsS∨s=loS))∨k=6):=by
 unfold ag at h;split at h
 ·rename_i hk;subst hk;split at h
  case isFalse he =>
   injection h with _ h;exact absurd h he
  rename_i he;injection h with h;subst h;obtain⟨⟨i,hi⟩,hr⟩:=FJ (r:=(dg 3 s).1) (s:=s) (by rw[←he]);refine⟨s,?_,.inl rfl⟩;generalize (dg 3 s).1=r at hi hr;obtain⟨n,x,p⟩:=r;simp only at hi;subst hi;unfold an;have:=i.isLt;rw[if_pos rfl,if_neg (by unfold nI;cases x<;>cases p<;>simp<;>omega),My i x p,hr]
 ·rename_i hk;split at h
  ·rename_i n hn;injection h with h;subst h;have:=Ja (rD hn);refine⟨_,by unfold an;rw[if_neg hk,this.2.2.1],?_⟩;unfold fN;split
   ·rename_i hc;exact .inr (.inl ⟨hc.1,.inl hc.2⟩)
   split
   ·rename_i hc;exact .inr (.inl ⟨hc.1,.inr hc.2⟩)
   ·exact .inl rfl
  ·split at h
   case isFalse=>cases h
   rename_i hk6;subst hk6;split at h
   case h_2=>cases h
   rename_i n hn;injection h with h;subst h
   have hb:0≤n∧n<32768:=by
    unfold vI at hn;split at hn
    case isFalse=>cases hn
    exact I7 hn
   unfold an;rw[if_neg hk];split
   ·exact⟨_,rfl,.inr (.inr rfl)⟩
   ·rw[if_pos ⟨rfl,hb⟩];exact⟨_,rfl,.inr (.inr rfl)⟩
theorem DL {k n:Int}{x:ByteArray}(hk:1≤k∧k≤8)(h:ag 3 k x=(n,0)):fa 3 x=true:=by
 obtain⟨i,rfl⟩:∃i:Nat,k=((i+1:Nat):Int):=⟨(k-1).toNat,by omega⟩;exact vN (i:=i) (by rw[h]) (by omega)
end Go.Proofs.YtnhbidpdadkcjaaGreatDoor
