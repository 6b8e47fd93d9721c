import Derived.Test.YtnhbidpdadkcjaaGreatDoorJ20
open Go.RowKit
set_option linter.unusedVariables false
set_option linter.unusedSimpArgs false
set_option maxRecDepth 100000
set_option maxHeartbeats 8000000
open List (getElem?_cons_zero map_cons)
namespace Go.Proofs.YtnhbidpdadkcjaaGreatDoor
theorem B4 {c:UInt8}:∀(k:Nat) {l:List UInt8},l[k]? = some c→(∀j x,j<k→l[j]? = some x→¬x=c)→cW c l=l.take k::cW c (l.drop (k+1))
 |0,[],h,_=>by cases h
 |0,x::r,h,_=>by
  simp only[getElem?_cons_zero,Option.some.injEq]at h;subst h;simp[cW]
 |k+1,[],h,_=>by cases h
 |k+1,x::r,h,hn=>by
  have hx:¬(x==c)=true:=by rw[beq_iff_eq];exact hn 0 x (by omega) rfl
  rw[cW,if_neg hx,B4 k (l:=r) (by simpa using h) (fun j y hj hy=>hn (j+1) y (by omega) (by simpa using hy))];simp
theorem En (s:ByteArray)(a b:Nat):(s.extract a b).data.toList=(s.data.toList.drop a).take (b-a):=by
 rw[ByteArray.data_extract,Array.toList_extract,List.extract_eq_take_drop]
theorem qG (s:ByteArray)(a:Nat):(s.extract a s.size).data.toList=s.data.toList.drop a:=by
 rw[En,List.take_of_length_le];simp
theorem na {s:ByteArray}{i:Nat}(h:i<s.size):∃x:UInt8,s.data.toList[i]? = some x∧ab s i=x.toNat:=by
 have h':i<s.data.toList.length:=by simpa using h
 refine⟨s.data.toList[i],List.getElem?_eq_getElem h',?_⟩;unfold ab;simp[List.getD_eq_getElem?_getD,List.getElem?_eq_getElem h']
theorem MN {s:ByteArray}{a i:Nat}(hai:a≤i)(hi:i<s.size)(hb:ab s i=95)(hn:∀j,a≤j→j<i→¬ab s j=95):bq (s.extract a s.size) us=s.extract a i::bq (s.extract (i+1) s.size) us:=by
 unfold bq;have hu:hdU us=95:=rfl;rw[hu,qG,qG,B4 (i-a) (c:=95) ?_ ?_,map_cons]
 ·congr 1
  ·apply ByteArray.ext;rw[←Array.toList_inj,En]
  ·rw[List.drop_drop,show a+(i-a+1)=i+1 by omega]
 ·rw[List.getElem?_drop,show a+(i-a)=i by omega];obtain⟨x,h1,h2⟩:=na hi;rw[h1];congr 1;apply UInt8.toNat_inj.1;show x.toNat=95;omega
 ·intro j x hj hx hxc;rw[List.getElem?_drop]at hx;have hlt:a+j<s.size:=by omega
  obtain⟨y,h1,h2⟩:=na hlt;rw[h1]at hx;injection hx with hx;subst hx;exact hn (a+j) (by omega) (by omega) (by rw[h2,hxc];rfl)
theorem IW {s:ByteArray}{a:Nat}(hn:∀j,a≤j→j<s.size→¬ab s j=95):bq (s.extract a s.size) us=[s.extract a s.size]:=by
 unfold bq;have hu:hdU us=95:=rfl;rw[hu,p7]
 ·rfl
 ·rw[List.count_eq_zero,qG];intro hm;obtain⟨j,hj,e⟩:=List.getElem_of_mem hm
  have hj':a+j<s.size:=by
   rw[List.length_drop]at hj;have:s.data.toList.length=s.size:=by simp
   omega
  obtain⟨y,h1,h2⟩:=na hj';refine hn (a+j) (by omega) hj' ?_;rw[List.getElem_drop]at e;rw[List.getElem?_eq_getElem (by simpa using hj')]at h1;injection h1 with h1;rw[h2,←h1,e];rfl
def Di:List ByteArray→Option Int
 |[p0,p1,p2,p3,p4] =>
  if p2=emp∨p3=emp∨¬ab p2 0=99∨¬ab p3 0=99 then none else
  if(bg 2 p0 3).2=true∧(bg 2 p1 7).2=true∧(bg 2 (p2.extract 1 p2.size) 15).2=true∧(bg 2 (p3.extract 1 p3.size) 15).2=true∧(bg 2 p4 7).2=true∧2≤(bg 2 p0 3).1 then
   some ((((((bg 2 p0 3).1-2)*8+(bg 2 p1 7).1)*16+(bg 2 (p2.extract 1 p2.size) 15).1)*16+(bg 2 (p3.extract 1 p3.size) 15).1)*8+(bg 2 p4 7).1)
  else none
 |_=>none
def mV (s:ByteArray):Option Int:=if s.size<1∨¬ab s 0=115 then none else Di (bq (s.extract 1 s.size) us)
theorem lZ {s:ByteArray}{i:Nat}{n:Int}(h:kz s (i+1)=some n):∃m,kz s i=some m∧n=10*m+(ab s i-48)∧48≤ab s i∧ab s i≤57:=by
 rw[kz]at h;split at h
 case h_2=>cases h
 rename_i m hm;split at h
 ·cases h
 ·rename_i hc;injection h with h;exact⟨m,hm,h.symm,by omega,by omega⟩
theorem ym {s:ByteArray}(h0:¬ab s 0=48){n:Int}(hn:kz s 3=some n):100≤n:=by
 obtain⟨a,ha,rfl,_,_⟩:=lZ hn;obtain⟨b,hb,rfl,_,_⟩:=lZ ha;obtain⟨c,hc,rfl,_,_⟩:=lZ hb;injection hc with hc;subst hc;have:ab s ((0:Nat):Int)=ab s 0:=rfl;omega
theorem digF_agree (s:ByteArray){most:Int}(hm:most≤99):bg 3 s most=bg 2 s most∨((bg 3 s most).2=false∧(bg 2 s most).2=false):=by
 by_cases h1:s=emp
 ·left;unfold bg;rw[if_pos (.inl h1),if_pos (.inl h1)]
 by_cases h2:s.size≤2
 ·left;unfold bg
  have e:(s=emp∨3<s.size∨1<s.size∧ab s 0=48)↔(s=emp∨2<s.size∨1<s.size∧ab s 0=48):=by
   constructor
   ·rintro (h | h | h)
    ·exact .inl h
    ·omega
    ·exact .inr (.inr h)
   ·rintro (h | h | h)
    ·exact .inl h
    ·omega
    ·exact .inr (.inr h)
  simp only[e]
 ·right;refine⟨?_,by unfold bg;rw[if_pos (.inr (.inl (by omega)))]⟩;unfold bg;split
  ·rfl
  ·rename_i hc
   have h3:s.size=3:=by
    have:¬3<s.size:=fun h=>hc (.inr (.inl h));omega
   have h0:¬ab s 0=48:=fun h=>hc (.inr (.inr ⟨by omega,h⟩));split
   ·rename_i n hn;rw[h3]at hn;have:=ym h0 hn;simp only[decide_eq_false_iff_not];omega
   ·rfl
theorem Ix (s:ByteArray):dh 3 s=dh 2 s:=by
 unfold dh
 repeat' split
 all_goals first | rfl | skip
 rcases digF_agree (s.extract 1 s.size) (most:=30) (by decide) with h | ⟨h1,h2⟩
 ·rw[h]
 ·rcases ha:bg 3 (s.extract 1 s.size) 30 with ⟨a,x⟩;rcases hb:bg 2 (s.extract 1 s.size) 30 with ⟨b,y⟩;rw[ha]at h1;rw[hb]at h2;simp only at h1 h2;subst h1;subst h2;rfl
theorem A0 (i:Nat)(n:Int)(w:ByteArray):bx 3 i n w=bx 2 i n w:=by
 have hm:fu.getD i 0≤99:=by
  unfold fu
  match i with
  |0 | 1 | 2 | 3 | 4=>decide
  |i+5=>simp
 unfold bx;rcases digF_agree (jU w (ce.getD i emp)).1 hm with h | ⟨h1,h2⟩
 ·rw[h]
 ·rw[if_neg (fun h=>by rw[h1]at h;exact absurd h.2.1 (by simp)),if_neg (fun h=>by rw[h2]at h;exact absurd h.2.1 (by simp))]
theorem Aq (l:List ByteArray):∀i,kp 3 l i=kp 2 l i
 |0=>rfl
 |i+1=>by
  rw[kp,kp,Aq l i];split
  ·exact A0 i _ _
  ·rfl
theorem D3 (s:ByteArray):jU s emp=(s,true):=by
 unfold jU;rw[if_pos (ox.2 ⟨aa s,rfl⟩),show emp.size=0 from rfl,Eo]
theorem qA (s:ByteArray)(c:Int)(hc:0≤c∧c≤255):jU s (aj [c])=if 0<s.size∧ab s 0=c then(s.extract 1 s.size,true) else(s,false):=by
 unfold jU;rw[Ow s c hc];simp only[decide_eq_true_eq];rfl
theorem Vc:ab emp 0=0:=rfl
def okN (A:Prop)[Decidable A](x:Int):Option Int:=if A then some x else none
theorem pf {l:List ByteArray}{i:Nat}{n x:Int}{w:ByteArray}{A B:Prop}[Decidable A][Decidable B](hl:kp 2 l i=okN A n)(hw:l[i]? = some w)(hs:A→bx 2 i n w=okN B x):kp 2 l (i+1)=okN (A∧B) x:=by
 rw[kp,hl,hw];unfold okN at *
 by_cases a:A
 ·rw[if_pos a];simp only;rw[hs a];by_cases b:B
  ·rw[if_pos b,if_pos ⟨a,b⟩]
  ·rw[if_neg b,if_neg (fun h=>b h.2)]
 ·rw[if_neg a,if_neg (fun h=>a h.1)]
theorem QO (p0 p1 p2 p3 p4 q:ByteArray)(hq:jU q s1=(p0,true)):kp 2 [q,p1,p2,p3,p4] 5=Di [p0,p1,p2,p3,p4]:=by
 have hc:cS=aj [99]:=rfl;have c2:=qA p2 99 (by decide);have c3:=qA p3 99 (by decide);have r1:=cr (lim:=2) (s:=p1) (most:=7);have r4:=cr (lim:=2) (s:=p4) (most:=7);have r2:=cr (lim:=2) (s:=p2.extract 1 p2.size) (most:=15);have r3:=cr (lim:=2) (s:=p3.extract 1 p3.size) (most:=15);have l0:kp 2 [q,p1,p2,p3,p4] 0=okN True 0:=rfl
 have l1:=pf (x:=(bg 2 p0 3).1-2) (B:=(bg 2 p0 3).2=true∧2≤(bg 2 p0 3).1) l0 rfl (fun _=>by
  unfold bx okN;rw[show ce.getD 0 emp=s1 from rfl,hq,show fu.getD 0 0=3 from rfl];by_cases a:(bg 2 p0 3).2=true∧2≤(bg 2 p0 3).1
  ·rw[if_pos a,if_pos ⟨rfl,a.1,by simp only[F6,if_true];omega⟩];simp[F6]
  ·rw[if_neg a,if_neg (fun h=>a ⟨h.2.1,by have:=h.2.2;simp only[F6,if_true]at this;omega⟩)])
 have l2:=pf (x:=((bg 2 p0 3).1-2)*8+(bg 2 p1 7).1) (B:=(bg 2 p1 7).2=true) l1 rfl (fun _=>by
  unfold bx okN;rw[show ce.getD 1 emp=emp from rfl,D3,show fu.getD 1 0=7 from rfl];by_cases a:(bg 2 p1 7).2=true
  ·rw[if_pos a,if_pos ⟨rfl,a,(r1 a).1⟩];rfl
  ·rw[if_neg a,if_neg (fun h=>a h.2.1)])
 have l3:=pf (x:=(((bg 2 p0 3).1-2)*8+(bg 2 p1 7).1)*16+(bg 2 (p2.extract 1 p2.size) 15).1) (B:=(0<p2.size∧ab p2 0=99)∧(bg 2 (p2.extract 1 p2.size) 15).2=true) l2 rfl (fun _=>by
  unfold bx okN;rw[show ce.getD 2 emp=aj [99] from rfl,c2,show fu.getD 2 0=15 from rfl];by_cases b:0<p2.size∧ab p2 0=99
  ·rw[if_pos b];by_cases a:(bg 2 (p2.extract 1 p2.size) 15).2=true
   ·rw[if_pos ⟨rfl,a,(r2 a).1⟩,if_pos ⟨b,a⟩];rfl
   ·rw[if_neg (fun h=>a h.2.1),if_neg (fun h=>a h.2)]
  ·rw[if_neg b,if_neg (fun h=>absurd h.1 (by simp)),if_neg (fun h=>b h.1)])
 have l4:=pf (x:=((((bg 2 p0 3).1-2)*8+(bg 2 p1 7).1)*16+(bg 2 (p2.extract 1 p2.size) 15).1)*16+(bg 2 (p3.extract 1 p3.size) 15).1) (B:=(0<p3.size∧ab p3 0=99)∧(bg 2 (p3.extract 1 p3.size) 15).2=true) l3 rfl (fun _=>by
  unfold bx okN;rw[show ce.getD 3 emp=aj [99] from rfl,c3,show fu.getD 3 0=15 from rfl];by_cases b:0<p3.size∧ab p3 0=99
  ·rw[if_pos b];by_cases a:(bg 2 (p3.extract 1 p3.size) 15).2=true
   ·rw[if_pos ⟨rfl,a,(r3 a).1⟩,if_pos ⟨b,a⟩];rfl
   ·rw[if_neg (fun h=>a h.2.1),if_neg (fun h=>a h.2)]
  ·rw[if_neg b,if_neg (fun h=>absurd h.1 (by simp)),if_neg (fun h=>b h.1)])
 have l5:=pf (x:=(((((bg 2 p0 3).1-2)*8+(bg 2 p1 7).1)*16+(bg 2 (p2.extract 1 p2.size) 15).1)*16+(bg 2 (p3.extract 1 p3.size) 15).1)*8+(bg 2 p4 7).1) (B:=(bg 2 p4 7).2=true) l4 rfl (fun _=>by
  unfold bx okN;rw[show ce.getD 4 emp=emp from rfl,D3,show fu.getD 4 0=7 from rfl];by_cases a:(bg 2 p4 7).2=true
  ·rw[if_pos a,if_pos ⟨rfl,a,(r4 a).1⟩];rfl
  ·rw[if_neg a,if_neg (fun h=>a h.2.1)])
 rw[l5];unfold okN;simp only[Di];by_cases h:(((((True∧(bg 2 p0 3).2=true∧2≤(bg 2 p0 3).1)∧(bg 2 p1 7).2=true)∧(0<p2.size∧ab p2 0=99)∧(bg 2 (p2.extract 1 p2.size) 15).2=true)∧(0<p3.size∧ab p3 0=99)∧(bg 2 (p3.extract 1 p3.size) 15).2=true)∧(bg 2 p4 7).2=true)
 ·rw[if_pos h];obtain⟨⟨⟨⟨⟨_,a0,a1⟩,b⟩,c,c'⟩,d,d'⟩,e⟩:=h;rw[if_neg,if_pos ⟨a0,b,c',d',e,a1⟩];rintro (x | x | x | x)
  ·rw[x]at c;exact absurd c.1 (by decide)
  ·rw[x]at d;exact absurd d.1 (by decide)
  ·exact x c.2
  ·exact x d.2
 ·rw[if_neg h];split
  ·rfl
  ·rename_i hn;rw[if_neg];rintro⟨a0,b,c',d',e,a1⟩;refine h ⟨⟨⟨⟨⟨trivial,a0,a1⟩,b⟩,⟨lq fun x=>hn (.inl x),?_⟩,c'⟩,⟨lq fun x=>hn (.inr (.inl x)),?_⟩,d'⟩,e⟩
   ·by_cases x:ab p2 0=99
    ·exact x
    ·exact absurd (.inr (.inr (.inl x))) hn
   ·by_cases x:ab p3 0=99
    ·exact x
    ·exact absurd (.inr (.inr (.inr x))) hn
theorem T6 (s:ByteArray):vV 3 s=mV s:=by
 unfold vV mV;rw[Aq];by_cases h0:s.size<1
 ·have he:s=emp:=eH (by rw[List.eq_nil_of_length_eq_zero ((ae s).trans (by omega))];rfl);rw[he,if_neg (show ¬(bq emp us).length=5 by decide),if_pos (show emp.size<1∨¬ab emp 0=115 from .inl (by decide))]
 have hb:ab s 0=ab s ((0:Nat):Int):=rfl;obtain⟨x,hx,hxb⟩:=na (s:=s) (i:=0) (by omega)
 have hd:s.data.toList=x::s.data.toList.drop 1:=by
  cases hl:s.data.toList with
  |nil=>rw[hl]at hx;cases hx
  |cons y r=>rw[hl]at hx;simp at hx;rw[hx];rfl
 have ht:=qG s 1;obtain⟨r,hr⟩:∃r,s.data.toList.drop 1=r:=⟨_,rfl⟩;rw[hr]at hd ht;by_cases h1:ab s 0=115
 ·rw[if_neg (show ¬(s.size<1∨¬ab s 0=115) by omega)]
  have hx115:x=115:=by
   apply UInt8.toNat_inj.1;show x.toNat=115;omega
  have hs:cW 95 s.data.toList=match cW 95 r with
   |[]=>[[x]]
   |p::ps=>(x::p)::ps:=by
   rw[hd,cW,if_neg (by rw[hx115];decide)];rfl
  have hu:hdU us=95:=rfl;have e1:bq s us=(cW 95 s.data.toList).map fun l=>⟨l.toArray⟩:=rfl;have e2:bq (s.extract 1 s.size) us=(cW 95 r).map fun l=>⟨l.toArray⟩:=by unfold bq;rw[ht,hu]
  cases hsr:cW 95 r with
  |nil=>have:=tq 95 r;rw[hsr]at this;simp at this
  |cons p ps =>
   rw[hsr]at hs e2;simp only at hs;rw[hs,map_cons]at e1;rw[map_cons]at e2;rw[e1,e2];by_cases hl:ps.length=4
   ·rw[if_pos (by simp[hl])]
    match ps,hl with
    |[a,b,c,d],_ =>
     refine QO _ _ _ _ _ _ ?_;rw[show s1=aj [115] from rfl,qA _ 115 (by decide),if_pos]
     ·congr 1;apply ByteArray.ext;rw[←Array.toList_inj,qG];rfl
     ·refine⟨?_,?_⟩
      ·show 0<(x::p).toArray.size;simp
      ·show((([x].append p).getD 0 0).toNat:Int)=115;rw[hx115];rfl
   ·rw[if_neg (by simp[hl])]
    match ps,hl with
    |[],_=>rfl
    |[_],_=>rfl
    |[_,_],_=>rfl
    |[_,_,_],_=>rfl
    |_::_::_::_::_::_,_=>rfl
 ·rw[if_pos (show s.size<1∨¬ab s 0=115 from .inr h1)];split
  ·rename_i h5
   have hfail:kp 2 (bq s us) 1=none:=by
    obtain⟨q,hq⟩:∃q,(bq s us)[0]? = some q:=⟨_,List.getElem?_eq_getElem (by omega)⟩;rw[kp,hq];show bx 2 0 0 q=none;unfold bx;rw[if_neg];intro h;have hc:=h.1;rw[show ce.getD 0 emp=aj [115] from rfl,qA q 115 (by decide)]at hc;split at hc
    ·rename_i hq1
     have hs:cW 95 s.data.toList=if x==95 then[]::cW 95 r else match cW 95 r with
      |[]=>[[x]]
      |p::ps=>(x::p)::ps:=by
      rw[hd,cW];rfl
     unfold bq at hq;rw[show hdU us=95 from rfl,hs]at hq;split at hq
     ·simp only[map_cons,getElem?_cons_zero,Option.some.injEq]at hq;rw[←hq]at hq1;exact absurd hq1.1 (by decide)
     ·split at hq
      ·simp only[map_cons,getElem?_cons_zero,Option.some.injEq]at hq;rw[←hq]at hq1;have:(x.toNat:Int)=115:=hq1.2;omega
      ·simp only[map_cons,getElem?_cons_zero,Option.some.injEq]at hq;rw[←hq]at hq1;have:(x.toNat:Int)=115:=hq1.2;omega
    ·cases hc
   exact B6 hfail (by decide)
  ·rfl
theorem pG {n:Int}{x:ByteArray}:∀{l:List (ByteArray×Int)},kb l n=some x→(x,n)∈l
 |[],h=>by cases h
 |r::l,h=>by
  rw[kb]at h;split at h
  ·rename_i hn;injection h with h;subst h;subst hn;exact List.mem_cons_self
  ·exact List.mem_cons_of_mem _ (pG h)
theorem rM {n:Int}{x:ByteArray}:∀{l:List (ByteArray×Int)},ip l x=some n→(x,n)∈l
 |[],h=>by cases h
 |r::l,h=>by
  rw[ip]at h;split at h
  ·rename_i hn;injection h with h;subst h;subst hn;exact List.mem_cons_self
  ·exact List.mem_cons_of_mem _ (rM h)
theorem tbl_cases (k:Int):k=2∨k=3∨k=4∨k=5∨k=6∨k=7∨k=8∨fR k=[]:=by
 by_cases h2:k=2
 ·exact .inl h2
 by_cases h3:k=3
 ·exact .inr (.inl h3)
 by_cases h4:k=4
 ·exact .inr (.inr (.inl h4))
 by_cases h5:k=5
 ·exact .inr (.inr (.inr (.inl h5)))
 by_cases h6:k=6
 ·exact .inr (.inr (.inr (.inr (.inl h6))))
 by_cases h7:k=7
 ·exact .inr (.inr (.inr (.inr (.inr (.inl h7)))))
 by_cases h8:k=8
 ·exact .inr (.inr (.inr (.inr (.inr (.inr (.inl h8))))))
 ·unfold fR;simp[h2,h3,h4,h5,h6,h7,h8]
def rr (k:Int):Bool:=(fR k).all fun r=>decide (ag 3 k r.1=(r.2,0))&&decide (kb (fR k) r.2=some r.1)&&decide (r.1.size≤40)
theorem WX:rr 2=true:=by decide +kernel
theorem WY:rr 3=true:=by decide +kernel
theorem WZ:rr 4=true:=by decide +kernel
theorem W2:rr 5=true:=by decide +kernel
theorem W4:rr 6=true:=by decide +kernel
theorem W6:rr 7=true:=by decide +kernel
theorem W7:rr 8=true:=by decide +kernel
theorem I7 {k:Int}{x:ByteArray}{n:Int}(h:(x,n)∈fR k):(2≤k∧k≤8)∧ag 3 k x=(n,0)∧kb (fR k) n=some x∧x.size≤40:=by
 have hk:(2≤k∧k≤8)∧rr k=true:=by
  rcases tbl_cases k with e | e | e | e | e | e | e | e
  ·subst e;exact⟨by decide,WX⟩
  ·subst e;exact⟨by decide,WY⟩
  ·subst e;exact⟨by decide,WZ⟩
  ·subst e;exact⟨by decide,W2⟩
  ·subst e;exact⟨by decide,W4⟩
  ·subst e;exact⟨by decide,W6⟩
  ·subst e;exact⟨by decide,W7⟩
  ·rw[e]at h;cases h
 refine⟨hk.1,?_⟩;have:=List.all_eq_true.1 hk.2 _ h;simp only[Bool.and_eq_true,decide_eq_true_eq]at this;exact⟨this.1.1,this.1.2,this.2⟩
theorem reg_there:∀i:Fin 128,ag 3 1 (aJ (kJ (i.val:Int))).1=((i.val:Int),0)∨¬(aJ (kJ (i.val:Int))).2=0:=by decide +kernel
theorem Mv:∀i:Fin 128,(aJ (kJ (i.val:Int))).1.size≤40:=by decide +kernel
theorem Mu:∀i:Fin 32,∀x p:Bool,kJ (nQ ⟨(i.val:Int),x,p⟩)=⟨(i.val:Int),x,p⟩:=by decide +kernel
theorem Ef {t:ByteArray}{n:Int}(h:bg 3 t 30=(n,true)):(0≤n∧n≤30)∧t=df n:=by
 have hr:=cr (lim:=3) (s:=t) (most:=30) (by rw[h]);rw[h]at hr;refine⟨hr,?_⟩;simp only at hr;unfold bg at h;split at h
 ·cases h
 rename_i hc;split at h
 case h_2=>cases h
 rename_i m hm;injection h with h1 h2;subst h1;have h1:¬t=emp:=fun e=>hc (.inl e);have h3:¬3<t.size:=fun e=>hc (.inr (.inl e));have h4:1<t.size→¬ab t 0=48:=fun a b=>hc (.inr (.inr ⟨a,b⟩));have hpos:=lq h1;have h5:t.size=1∨t.size=2∨t.size=3:=by omega
 have b0:(aa t)[0]? = some (ab t (0:Nat)):=dz hpos;have z0:ab t (0:Nat)=ab t 0:=rfl;have z1:ab t (1:Nat)=ab t 1:=rfl;rcases h5 with h5 | h5 | h5
 ·rw[h5]at hm;obtain⟨a,ha,hb,hl,hh⟩:=lZ hm;injection ha with ha;subst ha;unfold df;rw[pS];apply eH;rw[bh (by simp;omega)];apply List.ext_getElem?;intro i
  match i with
  |0=>rw[b0];simp;omega
  |i+1 =>
   rw[List.getElem?_eq_none (by rw[ae];omega)];simp
 ·rw[h5]at hm;obtain⟨a,ha,hb,hl,hh⟩:=lZ hm;obtain⟨c,hd,he,hl',hh'⟩:=lZ ha;injection hd with hd;subst hd;have h0:¬ab t (0:Nat)=48:=h4 (by omega);unfold df;rw[nG,pS];apply eH;rw[bh (by simp;omega)];have b1:(aa t)[1]? = some (ab t (1:Nat)):=dz (by omega);apply List.ext_getElem?;intro i
  match i with
  |0=>rw[b0];simp;omega
  |1=>rw[b1];simp;omega
  |i+2 =>
   rw[List.getElem?_eq_none (by rw[ae];omega)];simp
 ·rw[h5]at hm;have:=ym (h4 (by omega)) hm;omega
theorem Bu {s:ByteArray}(hp:0<s.size){c:ByteArray}(hc:aa c=[ab s 0]):s=c++s.extract 1 s.size:=by
 apply eH;rw[eF,cB,hc];have b0:(aa s)[0]? = some (ab s (0:Nat)):=dz hp;have hl:=ae s;cases hs:aa s with
 |nil=>rw[hs]at hl;simp at hl;omega
 |cons a l =>
  rw[hs]at b0 hl;simp only[getElem?_cons_zero,Option.some.injEq]at b0;simp only[List.length_cons]at hl;rw[List.drop_succ_cons,List.drop_zero,List.take_of_length_le (by omega),b0];rfl
theorem Fx {s:ByteArray}{r:gR}(h:dh 3 s=(r,0)):(∃i:Fin 32,r.n=(i.val:Int))∧aJ r=(s,0):=by
 unfold dh at h;split at h
 ·rename_i e;injection h with h;subst h;subst e;exact⟨⟨31,rfl⟩,by decide⟩
 split at h
 ·rename_i e;injection h with h;subst h;subst e;exact⟨⟨31,rfl⟩,by decide⟩
 split at h
 ·rename_i e;injection h with h;subst h;subst e;exact⟨⟨31,rfl⟩,by decide⟩
 split at h
 ·rename_i e;injection h with h;subst h;subst e;exact⟨⟨31,rfl⟩,by decide⟩
 split at h
 ·cases h
 rename_i hc;unfold vI at h;split at h
 case h_2=>cases h
 rename_i n hd;injection h with h;subst h;obtain⟨hr,ht⟩:=Ef hd;refine⟨⟨⟨n.toNat,by omega⟩,by simp;omega⟩,?_⟩
 have hp:0<s.size:=by
  rcases Nat.eq_zero_or_pos s.size with e | e
  ·exact absurd (.inl e) hc
  ·exact e
 have hb:ab s 0=120∨ab s 0=119:=Classical.byContradiction fun e=>hc (.inr e);unfold aJ;simp only;rw[if_neg (by simp;omega),if_neg (by simp),if_neg (by simp),nG];congr 1;rcases hb with hb | hb
 ·rw[hb,←ht];exact(Bu hp (c:=xS) (by rw[hb];decide)).symm
 ·rw[hb,←ht];exact(Bu hp (c:=wS) (by rw[hb];decide)).symm
theorem Ag {c:UInt8}:∀{a b:List UInt8},a.count c=0→cW c (a++c::b)=a::cW c b
 |[],b,_=>by simp[cW]
 |x::a,b,h=>by
  rw[List.count_cons]at h;have hx:¬(x==c)=true:=by intro e;rw[if_pos e]at h;omega
  rw[if_neg hx]at h;rw[List.cons_append,cW,if_neg hx,Ag (a:=a) (by omega)]
def ju (s:ByteArray):List UInt8:=s.data.toList
theorem yj (a b:ByteArray):ju (a++b)=ju a++ju b:=by
 unfold ju;rw[ByteArray.data_append];simp
theorem pZ {a b:ByteArray}(h:(ju a).count 95=0):bq (a++us++b) us=a::bq b us:=by
 have e:ju (a++us++b)=ju a++95::ju b:=by
  rw[yj,yj];show ju a++[95]++ju b=_;simp
 show(cW (hdU us) (ju (a++us++b))).map _=_;rw[e,show hdU us=95 from rfl,Ag h];rfl
theorem FY {a:ByteArray}(h:(ju a).count 95=0):bq a us=[a]:=by
 show(cW (hdU us) (ju a)).map _=_;rw[show hdU us=95 from rfl,p7 h];rfl
def bI (i:Nat)(v:Int):ByteArray:=if i=0 then s1++df (v+2) else if i=2∨i=3 then cS++df v else df v
def pK (i:Nat)(v:Int):Bool :=
 decide ((ju (bI i v)).count 95=0)&&decide ((bI i v).size≤4) &&
 decide ((jU (bI i v) (ce.getD i emp)).2=true∧(bg 3 (jU (bI i v) (ce.getD i emp)).1 (fu.getD i 0)).2=true∧F6 i (bg 3 (jU (bI i v) (ce.getD i emp)).1 (fu.getD i 0)).1=v)
theorem Tf:∀j:Fin 2,pK 0 (j.val:Int)=true:=by decide +kernel
theorem Tg:∀j:Fin 8,pK 1 (j.val:Int)=true:=by decide +kernel
theorem Th:∀j:Fin 16,pK 2 (j.val:Int)=true:=by decide +kernel
theorem Ti:∀j:Fin 16,pK 3 (j.val:Int)=true:=by decide +kernel
theorem Tj:∀j:Fin 8,pK 4 (j.val:Int)=true:=by decide +kernel
theorem gN {i:Nat}{v:Int}(hi:i<5)(h0:0≤v)(h1:v<2 ^ dS.getD i 0):(ju (bI i v)).count 95=0∧(bI i v).size≤4∧∀m,bx 3 i m (bI i v)=some (m*2 ^ dS.getD i 0+v):=by
 have hB:pK i v=true:=by
  obtain⟨k,rfl⟩:∃k:Nat,v=(k:Int):=⟨v.toNat,by omega⟩;have hi':i=0∨i=1∨i=2∨i=3∨i=4:=by omega
  rcases hi' with rfl | rfl | rfl | rfl | rfl<;>simp only[dS,List.getD_cons_zero,List.getD_cons_succ]at h1
  ·exact Tf ⟨k,by omega⟩
  ·exact Tg ⟨k,by omega⟩
  ·exact Th ⟨k,by omega⟩
  ·exact Ti ⟨k,by omega⟩
  ·exact Tj ⟨k,by omega⟩
 unfold pK at hB;simp only[Bool.and_eq_true,decide_eq_true_eq]at hB;refine⟨hB.1.1,hB.1.2,fun m=>?_⟩;unfold bx;rw[if_pos ⟨hB.2.1,hB.2.2.1,by rw[hB.2.2.2];exact h0⟩,hB.2.2.2]
theorem kV (n:Int):de n=bI 0 (n / 16384)++us++(bI 1 (n / 2048 % 8)++us++(bI 2 (n / 128 % 16)++us++(bI 3 (n / 8 % 16)++us++bI 4 (n % 8)))):=by
 have e1:usc=us++cS:=by decide
 have p0:∀v,bI 0 v=s1++df (v+2):=fun _=>rfl;have p1:∀v,bI 1 v=df v:=fun _=>rfl;have p2:∀v,bI 2 v=cS++df v:=fun _=>rfl;have p3:∀v,bI 3 v=cS++df v:=fun _=>rfl;have p4:∀v,bI 4 v=df v:=fun _=>rfl;unfold de;rw[e1,p0,p1,p2,p3,p4];simp only[ByteArray.append_assoc]
theorem nX {n:Int}(h0:0≤n)(h1:n<32768):bq (de n) us=[bI 0 (n / 16384),bI 1 (n / 2048 % 8),bI 2 (n / 128 % 16),bI 3 (n / 8 % 16),bI 4 (n % 8)]:=by
 rw[kV,pZ (gN (i:=0) (by omega) (by omega) (by simp[dS];omega)).1,pZ (gN (i:=1) (by omega) (by omega) (by simp[dS];omega)).1,
  pZ (gN (i:=2) (by omega) (by omega) (by simp[dS];omega)).1,pZ (gN (i:=3) (by omega) (by omega) (by simp[dS];omega)).1,FY (gN (i:=4) (by omega) (by omega) (by simp[dS];omega)).1]
theorem QP {n:Int}(h0:0≤n)(h1:n<32768):vV 3 (de n)=some n:=by
 unfold vV;rw[nX h0 h1];refine(if_pos rfl).trans ?_;have p0:=(gN (i:=0) (v:=n / 16384) (by omega) (by omega) (by simp[dS];omega)).2.2;have p1:=(gN (i:=1) (v:=n / 2048 % 8) (by omega) (by omega) (by simp[dS];omega)).2.2;have p2:=(gN (i:=2) (v:=n / 128 % 16) (by omega) (by omega) (by simp[dS];omega)).2.2;have p3:=(gN (i:=3) (v:=n / 8 % 16) (by omega) (by omega) (by simp[dS];omega)).2.2;have p4:=(gN (i:=4) (v:=n % 8) (by omega) (by omega) (by simp[dS];omega)).2.2;simp only[kp,getElem?_cons_zero,List.getElem?_cons_succ,p0,p1,p2,p3,p4];simp only[dS,List.getD_cons_zero,List.getD_cons_succ];congr 1;omega
theorem uM {n:Int}(h0:0≤n)(h1:n<32768):(de n).size≤40:=by
 rw[kV];have p0:=(gN (i:=0) (v:=n / 16384) (by omega) (by omega) (by simp[dS];omega)).2.1;have p1:=(gN (i:=1) (v:=n / 2048 % 8) (by omega) (by omega) (by simp[dS];omega)).2.1;have p2:=(gN (i:=2) (v:=n / 128 % 16) (by omega) (by omega) (by simp[dS];omega)).2.1;have p3:=(gN (i:=3) (v:=n / 8 % 16) (by omega) (by omega) (by simp[dS];omega)).2.1;have p4:=(gN (i:=4) (v:=n % 8) (by omega) (by omega) (by simp[dS];omega)).2.1;have eu:us.size=1:=rfl;simp only[ByteArray.size_append,eu];omega
def Wz:Bool:=iH.all fun r=>decide (bq r.1 us≠bq r.1 us∨(bq r.1 us).length<5)
theorem Ys:Wz=true:=by decide +kernel
theorem F4 {n:Int}(h0:0≤n)(h1:n<32768):ip iH (de n)=none:=by
 cases h:ip iH (de n) with
 |none=>rfl
 |some m =>
  have:=List.all_eq_true.1 Ys _ (rM h);simp[nX h0 h1]at this
theorem Gz (s:ByteArray):fU 6 s=s:=by
 unfold fU;rw[nG,nG]
theorem I4 {lim:Nat}{l:List ByteArray}{n:Int}(h:kp lim l 5=some n):0≤n∧n<32768:=by
 have step:∀{i:Nat} {n:Int},i<5→kp lim l (i+1)=some n→∃m v,kp lim l i=some m∧0≤v∧v<2 ^ dS.getD i 0∧n=m*2 ^ dS.getD i 0+v:=by
  intro i n hi h;rw[kp]at h;split at h
  case h_2=>cases h
  rename_i m w hm hw;obtain⟨v,_,v0,v1,e⟩:=At hi h;exact⟨m,v,hm,v0,v1,e⟩
 obtain⟨n4,v4,h4,a4,b4,e4⟩:=step (by omega) h;obtain⟨n3,v3,h3,a3,b3,e3⟩:=step (by omega) h4;obtain⟨n2,v2,h2,a2,b2,e2⟩:=step (by omega) h3;obtain⟨n1,v1,h1,a1,b1,e1⟩:=step (by omega) h2;obtain⟨n0,v0,h0,a0,b0,e0⟩:=step (by omega) h1;injection h0 with h0;simp only[dS,List.getD_cons_zero,List.getD_cons_succ]at b0 b1 b2 b3 b4 e0 e1 e2 e3 e4;simp at b0 b1 b2 b3 b4 e0 e1 e2 e3 e4;omega
theorem there {k n:Int}{x:ByteArray}(h:ak k n=(x,0)):ag 3 k x=(n,0)∧(1≤k∧k≤8)∧x.size≤40:=by
 unfold ak at h;split at h
 ·rename_i hk;subst hk;split at h
  ·cases h
  rename_i hn;obtain⟨i,rfl⟩:∃i:Fin 128,n=(i.val:Int):=⟨⟨n.toNat,by omega⟩,by simp;omega⟩;have h3:=Mv i;rw[h]at h3;rcases reg_there i with h1 | h1
  ·rw[h]at h1;exact⟨h1,by decide,h3⟩
  ·rw[h]at h1;exact absurd rfl h1
 ·split at h
  ·rename_i s hs;injection h with h;subst h;have:=I7 (pG hs);exact⟨this.2.1,by omega,this.2.2.2⟩
  ·split at h
   ·rename_i hk;obtain⟨rfl,h0,h1⟩:=hk;injection h with h;subst h;refine⟨?_,by decide,uM h0 h1⟩;unfold ag;rw[nG,Gz,show fR 6=iH from rfl,F4 h0 h1,if_pos rfl,QP h0 h1]
   ·cases h
theorem back {k m:Int}{s:ByteArray}(h:ag 3 k s=(m,0)):∃x,ak k m=(x,0)∧(x=s∨(k=2∧(s=hsS∨s=loS))∨k=6):=by
 unfold ag at h;split at h
 ·rename_i hk;subst hk;split at h
  case isFalse he =>
   injection h with _ h;exact absurd h he
  rename_i he;injection h with h;subst h;obtain⟨⟨i,hi⟩,hr⟩:=Fx (r:=(dh 3 s).1) (s:=s) (by rw[←he]);refine⟨s,?_,.inl rfl⟩;generalize (dh 3 s).1=r at hi hr;obtain⟨n,x,p⟩:=r;simp only at hi;subst hi;unfold ak;have:=i.isLt;rw[if_pos rfl,if_neg (by unfold nQ;cases x<;>cases p<;>simp<;>omega),Mu i x p,hr]
 ·rename_i hk;split at h
  ·rename_i n hn;injection h with h;subst h;have:=I7 (rM hn);refine⟨_,by unfold ak;rw[if_neg hk,this.2.2.1],?_⟩;unfold fU;split
   ·rename_i hc;exact .inr (.inl ⟨hc.1,.inl hc.2⟩)
   split
   ·rename_i hc;exact .inr (.inl ⟨hc.1,.inr hc.2⟩)
   ·exact .inl rfl
  ·split at h
   case isFalse=>cases h
   rename_i hk6;subst hk6;split at h
   case h_2=>cases h
   rename_i n hn;injection h with h;subst h
   have hb:0≤n∧n<32768:=by
    unfold vV at hn;split at hn
    case isFalse=>cases hn
    exact I4 hn
   unfold ak;rw[if_neg hk];split
   ·exact⟨_,rfl,.inr (.inr rfl)⟩
   ·rw[if_pos ⟨rfl,hb⟩];exact⟨_,rfl,.inr (.inr rfl)⟩
theorem DB {k n:Int}{x:ByteArray}(hk:1≤k∧k≤8)(h:ag 3 k x=(n,0)):ff 3 x=true:=by
 obtain⟨i,rfl⟩:∃i:Nat,k=((i+1:Nat):Int):=⟨(k-1).toNat,by omega⟩;exact v8 (i:=i) (by rw[h]) (by omega)
end Go.Proofs.YtnhbidpdadkcjaaGreatDoor
