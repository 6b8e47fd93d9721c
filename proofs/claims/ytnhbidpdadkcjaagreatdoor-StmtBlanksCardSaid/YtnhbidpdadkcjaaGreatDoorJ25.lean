import Derived.Test.YtnhbidpdadkcjaaGreatDoorJ13
import Derived.Test.YtnhbidpdadkcjaaGreatDoorJ22
set_option linter.unusedVariables false
set_option linter.unusedSimpArgs false
set_option maxRecDepth 100000
set_option maxHeartbeats 8000000
namespace Go.Proofs.YtnhbidpdadkcjaaGreatDoor
section
open Go.RowKit
theorem mz {s:ByteArray} {i:Nat} {n:Int} (h:nZ s (i+1)=some n):∃ m,nZ s i=some m∧n=10*m+(aj s i-48)∧48≤aj s i∧aj s i≤57:=by
 rw [nZ] at h
 split at h
 case h_2=>cases h
 rename_i m hm
 split at h
 ·cases h
 ·rename_i hc
  injection h with h
  exact ⟨m,hm,h.symm,by omega,by omega⟩
theorem Ec {s:ByteArray} (h0:¬aj s 0=48) {n:Int} (hn:nZ s 3=some n):100≤n:=by
 obtain ⟨a,ha,rfl,_,_⟩:=mz hn
 obtain ⟨b,hb,rfl,_,_⟩:=mz ha
 obtain ⟨c,hc,rfl,_,_⟩:=mz hb
 injection hc with hc
 subst hc
 have:aj s ((0:Nat):Int)=aj s 0:=rfl
 omega
theorem Q1:aj emp 0=0:=rfl
end
section
open Go.RowKit
theorem xI {n:Int} {x:ByteArray}:∀ {l:List (ByteArray×Int)},la l n=some x→(x,n)∈l
 | [],h=>by cases h
 | r::l,h=>by
  rw [la] at h
  split at h
  ·rename_i hn
   injection h with h
   subst h
   subst hn
   exact List.mem_cons_self
  ·exact List.mem_cons_of_mem _ (xI h)
theorem uD {n:Int} {x:ByteArray}:∀ {l:List (ByteArray×Int)},kI l x=some n→(x,n)∈l
 | [],h=>by cases h
 | r::l,h=>by
  rw [kI] at h
  split at h
  ·rename_i hn
   injection h with h
   subst h
   subst hn
   exact List.mem_cons_self
  ·exact List.mem_cons_of_mem _ (uD h)
theorem tbl_cases (k:Int):k=2∨k=3∨k=4∨k=5∨k=6∨k=7∨k=8∨kF k=[]:=by
 by_cases h2:k=2
 ·exact .inl h2
 by_cases h3:k=3
 ·exact .inr (.inl h3)
 by_cases h4:k=4
 ·exact .inr (.inr (.inl h4))
 by_cases h5:k=5
 ·exact .inr (.inr (.inr (.inl h5)))
 by_cases h6:k=6
 ·exact .inr (.inr (.inr (.inr (.inl h6))))
 by_cases h7:k=7
 ·exact .inr (.inr (.inr (.inr (.inr (.inl h7)))))
 by_cases h8:k=8
 ·exact .inr (.inr (.inr (.inr (.inr (.inr (.inl h8))))))
 ·unfold kF
  simp [h2,h3,h4,h5,h6,h7,h8]
def qK (k:Int):Bool:=(kF k).all fun r=>decide (bM 3 k r.1=(r.2,0))&&decide (la (kF k) r.2=some r.1)&&decide (r.1.size≤40)
theorem SH:qK 2=true:=by decide +kernel
theorem SI:qK 3=true:=by decide +kernel
theorem SJ:qK 4=true:=by decide +kernel
theorem SK:qK 5=true:=by decide +kernel
theorem SM:qK 6=true:=by decide +kernel
theorem SN:qK 7=true:=by decide +kernel
theorem SO:qK 8=true:=by decide +kernel
theorem M7 {k:Int} {x:ByteArray} {n:Int} (h:(x,n)∈kF k):(2≤k∧k≤8)∧bM 3 k x=(n,0)∧la (kF k) n=some x∧x.size≤40:=by
 have hk:(2≤k∧k≤8)∧qK k=true:=by
  rcases tbl_cases k with e | e | e | e | e | e | e | e
  ·subst e;exact ⟨by decide,SH⟩
  ·subst e;exact ⟨by decide,SI⟩
  ·subst e;exact ⟨by decide,SJ⟩
  ·subst e;exact ⟨by decide,SK⟩
  ·subst e;exact ⟨by decide,SM⟩
  ·subst e;exact ⟨by decide,SN⟩
  ·subst e;exact ⟨by decide,SO⟩
  ·rw [e] at h;cases h
 refine ⟨hk.1,?_⟩
 have:=List.all_eq_true.1 hk.2 _ h
 simp only [Bool.and_eq_true,decide_eq_true_eq] at this
 exact ⟨this.1.1,this.1.2,this.2⟩
theorem reg_there:∀ i:Fin 128,bM 3 1 (cC (kx (i.val:Int))).1=((i.val:Int),0)∨¬(cC (kx (i.val:Int))).2=0:=by decide +kernel
theorem I6:∀ i:Fin 128,(cC (kx (i.val:Int))).1.size≤40:=by decide +kernel
theorem I5:∀ i:Fin 32,∀ x p:Bool,kx (qw ⟨(i.val:Int),x,p⟩)=⟨(i.val:Int),x,p⟩:=by decide +kernel
theorem B6 {t:ByteArray} {n:Int} (h:iE 3 t 30=(n,true)):(0≤n∧n≤30)∧t=eT n:=by
 have hr:=iJ (lim:=3) (s:=t) (most:=30) (by rw [h])
 rw [h] at hr
 refine ⟨hr,?_⟩
 simp only at hr
 unfold iE at h
 split at h
 ·cases h
 rename_i hc
 split at h
 case h_2=>cases h
 rename_i m hm
 injection h with h1 h2
 subst h1
 have h1:¬t=emp:=fun e=>hc (.inl e)
 have h3:¬3<t.size:=fun e=>hc (.inr (.inl e))
 have h4:1<t.size→¬aj t 0=48:=fun a b=>hc (.inr (.inr ⟨a,b⟩))
 have hpos:=Dk h1
 have h5:t.size=1∨t.size=2∨t.size=3:=by omega
 have b0:(ab t)[0]? = some (aj t (0:Nat)):=d8 hpos
 have z0:aj t (0:Nat)=aj t 0:=rfl
 have z1:aj t (1:Nat)=aj t 1:=rfl
 rcases h5 with h5 | h5 | h5
 ·rw [h5] at hm
  obtain ⟨a,ha,hb,hl,hh⟩:=mz hm
  injection ha with ha
  subst ha
  unfold eT
  rw [if_pos (by omega)]
  apply iY
  rw [cN (by simp;omega)]
  apply List.ext_getElem?
  intro i
  match i with
  | 0=>rw [b0];simp;omega
  | i+1 =>
   rw [List.getElem?_eq_none (by rw [aW];omega)]
   simp
 ·rw [h5] at hm
  obtain ⟨a,ha,hb,hl,hh⟩:=mz hm
  obtain ⟨c,hd,he,hl',hh'⟩:=mz ha
  injection hd with hd
  subst hd
  have h0:¬aj t (0:Nat)=48:=h4 (by omega)
  unfold eT
  rw [if_neg (by omega),if_pos (by omega)]
  apply iY
  rw [cN (by simp;omega)]
  have b1:(ab t)[1]? = some (aj t (1:Nat)):=d8 (by omega)
  apply List.ext_getElem?
  intro i
  match i with
  | 0=>rw [b0];simp;omega
  | 1=>rw [b1];simp;omega
  | i+2 =>
   rw [List.getElem?_eq_none (by rw [aW];omega)]
   simp
 ·rw [h5] at hm
  have:=Ec (h4 (by omega)) hm
  omega
theorem zp {s:ByteArray} (hp:0<s.size) {c:ByteArray} (hc:ab c=[aj s 0]):s=c++s.extract 1 s.size:=by
 apply iY
 rw [nw,d7,hc]
 have b0:(ab s)[0]? = some (aj s (0:Nat)):=d8 hp
 have hl:=aW s
 cases hs:ab s with
 | nil=>rw [hs] at hl;simp at hl;omega
 | cons a l =>
  rw [hs] at b0 hl
  simp only [List.getElem?_cons_zero,Option.some.injEq] at b0
  simp only [List.length_cons] at hl
  rw [List.drop_succ_cons,List.drop_zero,List.take_of_length_le (by omega),b0]
  rfl
theorem MF {s:ByteArray} {r:kC} (h:jD 3 s=(r,0)):(∃ i:Fin 32,r.n=(i.val:Int))∧cC r=(s,0):=by
 unfold jD at h
 split at h
 ·rename_i e;injection h with h;subst h;subst e;exact ⟨⟨31,rfl⟩,by decide⟩
 split at h
 ·rename_i e;injection h with h;subst h;subst e;exact ⟨⟨31,rfl⟩,by decide⟩
 split at h
 ·rename_i e;injection h with h;subst h;subst e;exact ⟨⟨31,rfl⟩,by decide⟩
 split at h
 ·rename_i e;injection h with h;subst h;subst e;exact ⟨⟨31,rfl⟩,by decide⟩
 split at h
 ·cases h
 rename_i hc
 unfold C1 at h
 split at h
 case h_2=>cases h
 rename_i n hd
 injection h with h
 subst h
 obtain ⟨hr,ht⟩:=B6 hd
 refine ⟨⟨⟨n.toNat,by omega⟩,by simp;omega⟩,?_⟩
 have hp:0<s.size:=by
  rcases Nat.eq_zero_or_pos s.size with e | e
  ·exact absurd (.inl e) hc
  ·exact e
 have hb:aj s 0=120∨aj s 0=119:=Classical.byContradiction fun e=>hc (.inr e)
 unfold cC
 simp only
 rw [if_neg (by simp;omega),if_neg (by simp),if_neg (by simp),if_neg (by omega)]
 congr 1
 rcases hb with hb | hb
 ·rw [hb,← ht]
  exact (zp hp (c:=xS) (by rw [hb];decide)).symm
 ·rw [hb,← ht]
  exact (zp hp (c:=wS) (by rw [hb];decide)).symm
theorem yk {c:UInt8}:∀ {a b:List UInt8},a.count c=0→iT c (a++c::b)=a::iT c b
 | [],b,_=>by simp [iT]
 | x::a,b,h=>by
  rw [List.count_cons] at h
  have hx:¬(x==c)=true:=by intro e;rw [if_pos e] at h;omega
  rw [if_neg hx] at h
  rw [List.cons_append,iT,if_neg hx,yk (a:=a) (by omega)]
def jQ (s:ByteArray):List UInt8:=s.data.toList
theorem wM (a b:ByteArray):jQ (a++b)=jQ a++jQ b:=by
 unfold jQ
 rw [ByteArray.data_append]
 simp
theorem pR {a b:ByteArray} (h:(jQ a).count 95=0):dz (a++us++b) us=a::dz b us:=by
 have e:jQ (a++us++b)=jQ a++95::jQ b:=by
  rw [wM,wM]
  show jQ a++[95]++jQ b=_
  simp
 show (iT (hdU us) (jQ (a++us++b))).map _=_
 rw [e,show hdU us=95 from rfl,yk h]
 rfl
theorem Dl {a:ByteArray} (h:(jQ a).count 95=0):dz a us=[a]:=by
 show (iT (hdU us) (jQ a)).map _=_
 rw [show hdU us=95 from rfl,sG h]
 rfl
def dY (i:Nat) (v:Int):ByteArray:=if i=0 then s1++eT (v+2) else if i=2∨i=3 then cS++eT v else eT v
def pG (i:Nat) (v:Int):Bool :=
 decide ((jQ (dY i v)).count 95=0)&&decide ((dY i v).size≤4) &&
 decide ((nB (dY i v) (dW.getD i emp)).2=true∧(iE 3 (nB (dY i v) (dW.getD i emp)).1 (iO.getD i 0)).2=true∧M4 i (iE 3 (nB (dY i v) (dW.getD i emp)).1 (iO.getD i 0)).1=v)
theorem Pn:∀ j:Fin 2,pG 0 (j.val:Int)=true:=by decide +kernel
theorem Po:∀ j:Fin 8,pG 1 (j.val:Int)=true:=by decide +kernel
theorem Pp:∀ j:Fin 16,pG 2 (j.val:Int)=true:=by decide +kernel
theorem Pq:∀ j:Fin 16,pG 3 (j.val:Int)=true:=by decide +kernel
theorem Pr:∀ j:Fin 8,pG 4 (j.val:Int)=true:=by decide +kernel
theorem gX {i:Nat} {v:Int} (hi:i<5) (h0:0≤v) (h1:v<2 ^ eH.getD i 0):(jQ (dY i v)).count 95=0∧(dY i v).size≤4∧∀ m,dj 3 i m (dY i v)=some (m*2 ^ eH.getD i 0+v):=by
 have hB:pG i v=true:=by
  obtain ⟨k,rfl⟩:∃ k:Nat,v=(k:Int):=⟨v.toNat,by omega⟩
  have hi':i=0∨i=1∨i=2∨i=3∨i=4:=by omega
  rcases hi' with rfl | rfl | rfl | rfl | rfl<;>simp only [eH,List.getD_cons_zero,List.getD_cons_succ] at h1
  ·exact Pn ⟨k,by omega⟩
  ·exact Po ⟨k,by omega⟩
  ·exact Pp ⟨k,by omega⟩
  ·exact Pq ⟨k,by omega⟩
  ·exact Pr ⟨k,by omega⟩
 unfold pG at hB
 simp only [Bool.and_eq_true,decide_eq_true_eq] at hB
 refine ⟨hB.1.1,hB.1.2,fun m=>?_⟩
 unfold dj
 rw [if_pos ⟨hB.2.1,hB.2.2.1,by rw [hB.2.2.2];exact h0⟩,hB.2.2.2]
theorem rQ (n:Int):fD n=dY 0 (n / 16384)++us++(dY 1 (n / 2048 % 8)++us++(dY 2 (n / 128 % 16)++us++(dY 3 (n / 8 % 16)++us++dY 4 (n % 8)))):=by
 have e1:usc=us++cS:=by decide
 have p0:∀ v,dY 0 v=s1++eT (v+2):=fun _=>rfl
 have p1:∀ v,dY 1 v=eT v:=fun _=>rfl
 have p2:∀ v,dY 2 v=cS++eT v:=fun _=>rfl
 have p3:∀ v,dY 3 v=cS++eT v:=fun _=>rfl
 have p4:∀ v,dY 4 v=eT v:=fun _=>rfl
 unfold fD
 rw [e1,p0,p1,p2,p3,p4]
 simp only [ByteArray.append_assoc]
theorem rR {n:Int} (h0:0≤n) (h1:n<32768):dz (fD n) us=[dY 0 (n / 16384),dY 1 (n / 2048 % 8),dY 2 (n / 128 % 16),dY 3 (n / 8 % 16),dY 4 (n % 8)]:=by
 rw [rQ,pR (gX (i:=0) (by omega) (by omega) (by simp [eH];omega)).1,pR (gX (i:=1) (by omega) (by omega) (by simp [eH];omega)).1,
  pR (gX (i:=2) (by omega) (by omega) (by simp [eH];omega)).1,pR (gX (i:=3) (by omega) (by omega) (by simp [eH];omega)).1,Dl (gX (i:=4) (by omega) (by omega) (by simp [eH];omega)).1]
theorem M5 {n:Int} (h0:0≤n) (h1:n<32768):uR 3 (fD n)=some n:=by
 unfold uR
 rw [rR h0 h1]
 refine (if_pos rfl).trans ?_
 have p0:=(gX (i:=0) (v:=n / 16384) (by omega) (by omega) (by simp [eH];omega)).2.2
 have p1:=(gX (i:=1) (v:=n / 2048 % 8) (by omega) (by omega) (by simp [eH];omega)).2.2
 have p2:=(gX (i:=2) (v:=n / 128 % 16) (by omega) (by omega) (by simp [eH];omega)).2.2
 have p3:=(gX (i:=3) (v:=n / 8 % 16) (by omega) (by omega) (by simp [eH];omega)).2.2
 have p4:=(gX (i:=4) (v:=n % 8) (by omega) (by omega) (by simp [eH];omega)).2.2
 simp only [qJ,List.getElem?_cons_zero,List.getElem?_cons_succ,p0,p1,p2,p3,p4]
 simp only [eH,List.getD_cons_zero,List.getD_cons_succ]
 congr 1
 omega
theorem Bt {n:Int} (h0:0≤n) (h1:n<32768):(fD n).size≤40:=by
 rw [rQ]
 have p0:=(gX (i:=0) (v:=n / 16384) (by omega) (by omega) (by simp [eH];omega)).2.1
 have p1:=(gX (i:=1) (v:=n / 2048 % 8) (by omega) (by omega) (by simp [eH];omega)).2.1
 have p2:=(gX (i:=2) (v:=n / 128 % 16) (by omega) (by omega) (by simp [eH];omega)).2.1
 have p3:=(gX (i:=3) (v:=n / 8 % 16) (by omega) (by omega) (by simp [eH];omega)).2.1
 have p4:=(gX (i:=4) (v:=n % 8) (by omega) (by omega) (by simp [eH];omega)).2.1
 have eu:us.size=1:=rfl
 simp only [ByteArray.size_append,eu]
 omega
def Sm:Bool:=iV.all fun r=>decide (dz r.1 us≠dz r.1 us∨(dz r.1 us).length<5)
theorem TX:Sm=true:=by decide +kernel
theorem Dp {n:Int} (h0:0≤n) (h1:n<32768):kI iV (fD n)=none:=by
 cases h:kI iV (fD n) with
 | none=>rfl
 | some m =>
  have:=List.all_eq_true.1 TX _ (uD h)
  simp [rR h0 h1] at this
theorem DS (s:ByteArray):mG 6 s=s:=by
 unfold mG
 rw [if_neg (by omega),if_neg (by omega)]
theorem FJ {lim:Nat} {l:List ByteArray} {n:Int} (h:qJ lim l 5=some n):0≤n∧n<32768:=by
 have step:∀ {i:Nat} {n:Int},i<5→qJ lim l (i+1)=some n→∃ m v,qJ lim l i=some m∧0≤v∧v<2 ^ eH.getD i 0∧n=m*2 ^ eH.getD i 0+v:=by
  intro i n hi h
  rw [qJ] at h
  split at h
  case h_2=>cases h
  rename_i m w hm hw
  obtain ⟨v,_,v0,v1,e⟩:=yw hi h
  exact ⟨m,v,hm,v0,v1,e⟩
 obtain ⟨n4,v4,h4,a4,b4,e4⟩:=step (by omega) h
 obtain ⟨n3,v3,h3,a3,b3,e3⟩:=step (by omega) h4
 obtain ⟨n2,v2,h2,a2,b2,e2⟩:=step (by omega) h3
 obtain ⟨n1,v1,h1,a1,b1,e1⟩:=step (by omega) h2
 obtain ⟨n0,v0,h0,a0,b0,e0⟩:=step (by omega) h1
 injection h0 with h0
 simp only [eH,List.getD_cons_zero,List.getD_cons_succ] at b0 b1 b2 b3 b4 e0 e1 e2 e3 e4
 simp at b0 b1 b2 b3 b4 e0 e1 e2 e3 e4
 omega
theorem there {k n:Int} {x:ByteArray} (h:cX k n=(x,0)):bM 3 k x=(n,0)∧(1≤k∧k≤8)∧x.size≤40:=by
 unfold cX at h
 split at h
 ·rename_i hk
  subst hk
  split at h
  ·cases h
  rename_i hn
  obtain ⟨i,rfl⟩:∃ i:Fin 128,n=(i.val:Int):=⟨⟨n.toNat,by omega⟩,by simp;omega⟩
  have h3:=I6 i
  rw [h] at h3
  rcases reg_there i with h1 | h1
  ·rw [h] at h1;exact ⟨h1,by decide,h3⟩
  ·rw [h] at h1;exact absurd rfl h1
 ·split at h
  ·rename_i s hs
   injection h with h
   subst h
   have:=M7 (xI hs)
   exact ⟨this.2.1,by omega,this.2.2.2⟩
  ·split at h
   ·rename_i hk
    obtain ⟨rfl,h0,h1⟩:=hk
    injection h with h
    subst h
    refine ⟨?_,by decide,Bt h0 h1⟩
    unfold bM
    rw [if_neg (by omega),DS,show kF 6=iV from rfl,Dp h0 h1,if_pos rfl,M5 h0 h1]
   ·cases h
theorem back {k m:Int} {s:ByteArray} (h:bM 3 k s=(m,0)):∃ x,cX k m=(x,0)∧(x=s∨(k=2∧(s=hsS∨s=loS))∨k=6):=by
 unfold bM at h
 split at h
 ·rename_i hk
  subst hk
  split at h
  case isFalse he =>
   injection h with _ h
   exact absurd h he
  rename_i he
  injection h with h
  subst h
  obtain ⟨⟨i,hi⟩,hr⟩:=MF (r:=(jD 3 s).1) (s:=s) (by rw [← he])
  refine ⟨s,?_,.inl rfl⟩
  generalize (jD 3 s).1=r at hi hr
  obtain ⟨n,x,p⟩:=r
  simp only at hi
  subst hi
  unfold cX
  have:=i.isLt
  rw [if_pos rfl,if_neg (by unfold qw;cases x<;>cases p<;>simp<;>omega),I5 i x p,hr]
 ·rename_i hk
  split at h
  ·rename_i n hn
   injection h with h
   subst h
   have:=M7 (uD hn)
   refine ⟨_,by unfold cX;rw [if_neg hk,this.2.2.1],?_⟩
   unfold mG
   split
   ·rename_i hc;exact .inr (.inl ⟨hc.1,.inl hc.2⟩)
   split
   ·rename_i hc;exact .inr (.inl ⟨hc.1,.inr hc.2⟩)
   ·exact .inl rfl
  ·split at h
   case isFalse=>cases h
   rename_i hk6
   subst hk6
   split at h
   case h_2=>cases h
   rename_i n hn
   injection h with h
   subst h
   have hb:0≤n∧n<32768:=by
    unfold uR at hn
    split at hn
    case isFalse=>cases hn
    exact FJ hn
   unfold cX
   rw [if_neg hk]
   split
   ·exact ⟨_,rfl,.inr (.inr rfl)⟩
   ·rw [if_pos ⟨rfl,hb⟩];exact ⟨_,rfl,.inr (.inr rfl)⟩
end
end Go.Proofs.YtnhbidpdadkcjaaGreatDoor
