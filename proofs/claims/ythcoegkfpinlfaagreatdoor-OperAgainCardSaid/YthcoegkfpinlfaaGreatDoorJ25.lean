import Derived.Test.YthcoegkfpinlfaaGreatDoorJ13
import Derived.Test.YthcoegkfpinlfaaGreatDoorJ22
set_option linter.unusedVariables false
set_option linter.unusedSimpArgs false
set_option maxRecDepth 100000
set_option maxHeartbeats 8000000
namespace Go.Proofs.YthcoegkfpinlfaaGreatDoor
section
open Go.RowKit
theorem lv {s:ByteArray} {i:Nat} {n:Int} (h:mN s (i+1)=some n):∃ m,mN s i=some m∧n=10*m+(ac s i-48)∧48≤ac s i∧ac s i≤57:=by
 rw [mN] at h
 split at h
 case h_2=>cases h
 rename_i m hm
 split at h
 ·cases h
 ·rename_i hc
  injection h with h
  exact ⟨m,hm,h.symm,by omega,by omega⟩
theorem DC {s:ByteArray} (h0:¬ac s 0=48) {n:Int} (hn:mN s 3=some n):100≤n:=by
 obtain ⟨a,ha,rfl,_,_⟩:=lv hn
 obtain ⟨b,hb,rfl,_,_⟩:=lv ha
 obtain ⟨c,hc,rfl,_,_⟩:=lv hb
 injection hc with hc
 subst hc
 have:ac s ((0:Nat):Int)=ac s 0:=rfl
 omega
theorem JO (s:ByteArray) (c:Int) (hc:0≤c∧c≤255):kX s (aQ [c])=if 0<s.size∧ac s 0=c then (s.extract 1 s.size,true) else (s,false):=by
 unfold kX
 rw [Km s c hc]
 simp only [decide_eq_true_eq]
 rfl
theorem Pw:ac emp 0=0:=rfl
end
section
open Go.RowKit
theorem ow {n:Int} {x:ByteArray}:∀ {l:List (ByteArray×Int)},jQ l n=some x→(x,n)∈l
 | [],h=>by cases h
 | r::l,h=>by
  rw [jQ] at h
  split at h
  ·rename_i hn
   injection h with h
   subst h
   subst hn
   exact List.mem_cons_self
  ·exact List.mem_cons_of_mem _ (ow h)
theorem qf {n:Int} {x:ByteArray}:∀ {l:List (ByteArray×Int)},jR l x=some n→(x,n)∈l
 | [],h=>by cases h
 | r::l,h=>by
  rw [jR] at h
  split at h
  ·rename_i hn
   injection h with h
   subst h
   subst hn
   exact List.mem_cons_self
  ·exact List.mem_cons_of_mem _ (qf h)
theorem tbl_cases (k:Int):k=2∨k=3∨k=4∨k=5∨k=6∨k=7∨k=8∨gK k=[]:=by
 by_cases h2:k=2
 ·exact .inl h2
 by_cases h3:k=3
 ·exact .inr (.inl h3)
 by_cases h4:k=4
 ·exact .inr (.inr (.inl h4))
 by_cases h5:k=5
 ·exact .inr (.inr (.inr (.inl h5)))
 by_cases h6:k=6
 ·exact .inr (.inr (.inr (.inr (.inl h6))))
 by_cases h7:k=7
 ·exact .inr (.inr (.inr (.inr (.inr (.inl h7)))))
 by_cases h8:k=8
 ·exact .inr (.inr (.inr (.inr (.inr (.inr (.inl h8))))))
 ·unfold gK
  simp [h2,h3,h4,h5,h6,h7,h8]
def pV (k:Int):Bool:=(gK k).all fun r=>decide (ap 3 k r.1=(r.2,0))&&decide (jQ (gK k) r.2=some r.1)&&decide (r.1.size≤40)
theorem Qj:pV 2=true:=by decide +kernel
theorem Qk:pV 3=true:=by decide +kernel
theorem Ql:pV 4=true:=by decide +kernel
theorem Qm:pV 5=true:=by decide +kernel
theorem Qn:pV 6=true:=by decide +kernel
theorem Qo:pV 7=true:=by decide +kernel
theorem Qp:pV 8=true:=by decide +kernel
theorem Fc {k:Int} {x:ByteArray} {n:Int} (h:(x,n)∈gK k):(2≤k∧k≤8)∧ap 3 k x=(n,0)∧jQ (gK k) n=some x∧x.size≤40:=by
 have hk:(2≤k∧k≤8)∧pV k=true:=by
  rcases tbl_cases k with e | e | e | e | e | e | e | e
  ·subst e;exact ⟨by decide,Qj⟩
  ·subst e;exact ⟨by decide,Qk⟩
  ·subst e;exact ⟨by decide,Ql⟩
  ·subst e;exact ⟨by decide,Qm⟩
  ·subst e;exact ⟨by decide,Qn⟩
  ·subst e;exact ⟨by decide,Qo⟩
  ·subst e;exact ⟨by decide,Qp⟩
  ·rw [e] at h;cases h
 refine ⟨hk.1,?_⟩
 have:=List.all_eq_true.1 hk.2 _ h
 simp only [Bool.and_eq_true,decide_eq_true_eq] at this
 exact ⟨this.1.1,this.1.2,this.2⟩
theorem reg_there:∀ i:Fin 128,ap 3 1 (aV (jV (i.val:Int))).1=((i.val:Int),0)∨¬(aV (jV (i.val:Int))).2=0:=by decide +kernel
theorem Iy:∀ i:Fin 128,(aV (jV (i.val:Int))).1.size≤40:=by decide +kernel
theorem Ix:∀ i:Fin 32,∀ x p:Bool,jV (oy ⟨(i.val:Int),x,p⟩)=⟨(i.val:Int),x,p⟩:=by decide +kernel
theorem A6 {t:ByteArray} {n:Int} (h:gZ 3 t 30=(n,true)):(0≤n∧n≤30)∧t=dK n:=by
 have hr:=ia (lim:=3) (s:=t) (most:=30) (by rw [h])
 rw [h] at hr
 refine ⟨hr,?_⟩
 simp only at hr
 unfold gZ at h
 split at h
 ·cases h
 rename_i hc
 split at h
 case h_2=>cases h
 rename_i m hm
 injection h with h1 h2
 subst h1
 have h1:¬t=emp:=fun e=>hc (.inl e)
 have h3:¬3<t.size:=fun e=>hc (.inr (.inl e))
 have h4:1<t.size→¬ac t 0=48:=fun a b=>hc (.inr (.inr ⟨a,b⟩))
 have hpos:=wN h1
 have h5:t.size=1∨t.size=2∨t.size=3:=by omega
 have b0:(aa t)[0]? = some (ac t (0:Nat)):=iB hpos
 have z0:ac t (0:Nat)=ac t 0:=rfl
 have z1:ac t (1:Nat)=ac t 1:=rfl
 rcases h5 with h5 | h5 | h5
 ·rw [h5] at hm
  obtain ⟨a,ha,hb,hl,hh⟩:=lv hm
  injection ha with ha
  subst ha
  unfold dK
  rw [if_pos (by omega)]
  apply gv
  rw [dh (by simp;omega)]
  apply List.ext_getElem?
  intro i
  match i with
  | 0=>rw [b0];simp;omega
  | i+1 =>
   rw [List.getElem?_eq_none (by rw [ar];omega)]
   simp
 ·rw [h5] at hm
  obtain ⟨a,ha,hb,hl,hh⟩:=lv hm
  obtain ⟨c,hd,he,hl',hh'⟩:=lv ha
  injection hd with hd
  subst hd
  have h0:¬ac t (0:Nat)=48:=h4 (by omega)
  unfold dK
  rw [if_neg (by omega),if_pos (by omega)]
  apply gv
  rw [dh (by simp;omega)]
  have b1:(aa t)[1]? = some (ac t (1:Nat)):=iB (by omega)
  apply List.ext_getElem?
  intro i
  match i with
  | 0=>rw [b0];simp;omega
  | 1=>rw [b1];simp;omega
  | i+2 =>
   rw [List.getElem?_eq_none (by rw [ar];omega)]
   simp
 ·rw [h5] at hm
  have:=DC (h4 (by omega)) hm
  omega
theorem x4 {s:ByteArray} (hp:0<s.size) {c:ByteArray} (hc:aa c=[ac s 0]):s=c++s.extract 1 s.size:=by
 apply gv
 rw [d9,gL,hc]
 have b0:(aa s)[0]? = some (ac s (0:Nat)):=iB hp
 have hl:=ar s
 cases hs:aa s with
 | nil=>rw [hs] at hl;simp at hl;omega
 | cons a l =>
  rw [hs] at b0 hl
  simp only [List.getElem?_cons_zero,Option.some.injEq] at b0
  simp only [List.length_cons] at hl
  rw [List.drop_succ_cons,List.drop_zero,List.take_of_length_le (by omega),b0]
  rfl
theorem Cp {s:ByteArray} {r:hP} (h:fm 3 s=(r,0)):(∃ i:Fin 32,r.n=(i.val:Int))∧aV r=(s,0):=by
 unfold fm at h
 split at h
 ·rename_i e;injection h with h;subst h;subst e;exact ⟨⟨31,rfl⟩,by decide⟩
 split at h
 ·rename_i e;injection h with h;subst h;subst e;exact ⟨⟨31,rfl⟩,by decide⟩
 split at h
 ·rename_i e;injection h with h;subst h;subst e;exact ⟨⟨31,rfl⟩,by decide⟩
 split at h
 ·rename_i e;injection h with h;subst h;subst e;exact ⟨⟨31,rfl⟩,by decide⟩
 split at h
 ·cases h
 rename_i hc
 unfold Co at h
 split at h
 case h_2=>cases h
 rename_i n hd
 injection h with h
 subst h
 obtain ⟨hr,ht⟩:=A6 hd
 refine ⟨⟨⟨n.toNat,by omega⟩,by simp;omega⟩,?_⟩
 have hp:0<s.size:=by
  rcases Nat.eq_zero_or_pos s.size with e | e
  ·exact absurd (.inl e) hc
  ·exact e
 have hb:ac s 0=120∨ac s 0=119:=Classical.byContradiction fun e=>hc (.inr e)
 unfold aV
 simp only
 rw [if_neg (by simp;omega),if_neg (by simp),if_neg (by simp),if_neg (by omega)]
 congr 1
 rcases hb with hb | hb
 ·rw [hb,← ht]
  exact (x4 hp (c:=xS) (by rw [hb];decide)).symm
 ·rw [hb,← ht]
  exact (x4 hp (c:=wS) (by rw [hb];decide)).symm
theorem wP {c:UInt8}:∀ {a b:List UInt8},a.count c=0→iu c (a++c::b)=a::iu c b
 | [],b,_=>by simp [iu]
 | x::a,b,h=>by
  rw [List.count_cons] at h
  have hx:¬(x==c)=true:=by intro e;rw [if_pos e] at h;omega
  rw [if_neg hx] at h
  rw [List.cons_append,iu,if_neg hx,wP (a:=a) (by omega)]
def jg (s:ByteArray):List UInt8:=s.data.toList
theorem vk (a b:ByteArray):jg (a++b)=jg a++jg b:=by
 unfold jg
 rw [ByteArray.data_append]
 simp
theorem oQ {a b:ByteArray} (h:(jg a).count 95=0):cq (a++us++b) us=a::cq b us:=by
 have e:jg (a++us++b)=jg a++95::jg b:=by
  rw [vk,vk]
  show jg a++[95]++jg b=_
  simp
 show (iu (hdU us) (jg (a++us++b))).map _=_
 rw [e,show hdU us=95 from rfl,wP h]
 rfl
theorem CE {a:ByteArray} (h:(jg a).count 95=0):cq a us=[a]:=by
 show (iu (hdU us) (jg a)).map _=_
 rw [show hdU us=95 from rfl,ri h]
 rfl
def bW (i:Nat) (v:Int):ByteArray:=if i=0 then s1++dK (v+2) else if i=2∨i=3 then cS++dK v else dK v
def oC (i:Nat) (v:Int):Bool :=
 decide ((jg (bW i v)).count 95=0)&&decide ((bW i v).size≤4) &&
 decide ((kX (bW i v) (dB.getD i emp)).2=true∧(gZ 3 (kX (bW i v) (dB.getD i emp)).1 (il.getD i 0)).2=true∧L3 i (gZ 3 (kX (bW i v) (dB.getD i emp)).1 (il.getD i 0)).1=v)
theorem NX:∀ j:Fin 2,oC 0 (j.val:Int)=true:=by decide +kernel
theorem NY:∀ j:Fin 8,oC 1 (j.val:Int)=true:=by decide +kernel
theorem NZ:∀ j:Fin 16,oC 2 (j.val:Int)=true:=by decide +kernel
theorem N1:∀ j:Fin 16,oC 3 (j.val:Int)=true:=by decide +kernel
theorem N7:∀ j:Fin 8,oC 4 (j.val:Int)=true:=by decide +kernel
theorem gD {i:Nat} {v:Int} (hi:i<5) (h0:0≤v) (h1:v<2 ^ dR.getD i 0):(jg (bW i v)).count 95=0∧(bW i v).size≤4∧∀ m,cK 3 i m (bW i v)=some (m*2 ^ dR.getD i 0+v):=by
 have hB:oC i v=true:=by
  obtain ⟨k,rfl⟩:∃ k:Nat,v=(k:Int):=⟨v.toNat,by omega⟩
  have hi':i=0∨i=1∨i=2∨i=3∨i=4:=by omega
  rcases hi' with rfl | rfl | rfl | rfl | rfl<;>simp only [dR,List.getD_cons_zero,List.getD_cons_succ] at h1
  ·exact NX ⟨k,by omega⟩
  ·exact NY ⟨k,by omega⟩
  ·exact NZ ⟨k,by omega⟩
  ·exact N1 ⟨k,by omega⟩
  ·exact N7 ⟨k,by omega⟩
 unfold oC at hB
 simp only [Bool.and_eq_true,decide_eq_true_eq] at hB
 refine ⟨hB.1.1,hB.1.2,fun m=>?_⟩
 unfold cK
 rw [if_pos ⟨hB.2.1,hB.2.2.1,by rw [hB.2.2.2];exact h0⟩,hB.2.2.2]
theorem kB (n:Int):cW n=bW 0 (n / 16384)++us++(bW 1 (n / 2048 % 8)++us++(bW 2 (n / 128 % 16)++us++(bW 3 (n / 8 % 16)++us++bW 4 (n % 8)))):=by
 have e1:usc=us++cS:=by decide
 have p0:∀ v,bW 0 v=s1++dK (v+2):=fun _=>rfl
 have p1:∀ v,bW 1 v=dK v:=fun _=>rfl
 have p2:∀ v,bW 2 v=cS++dK v:=fun _=>rfl
 have p3:∀ v,bW 3 v=cS++dK v:=fun _=>rfl
 have p4:∀ v,bW 4 v=dK v:=fun _=>rfl
 unfold cW
 rw [e1,p0,p1,p2,p3,p4]
 simp only [ByteArray.append_assoc]
theorem mV {n:Int} (h0:0≤n) (h1:n<32768):cq (cW n) us=[bW 0 (n / 16384),bW 1 (n / 2048 % 8),bW 2 (n / 128 % 16),bW 3 (n / 8 % 16),bW 4 (n % 8)]:=by
 rw [kB,oQ (gD (i:=0) (by omega) (by omega) (by simp [dR];omega)).1,oQ (gD (i:=1) (by omega) (by omega) (by simp [dR];omega)).1,
  oQ (gD (i:=2) (by omega) (by omega) (by simp [dR];omega)).1,oQ (gD (i:=3) (by omega) (by omega) (by simp [dR];omega)).1,CE (gD (i:=4) (by omega) (by omega) (by simp [dR];omega)).1]
theorem L4 {n:Int} (h0:0≤n) (h1:n<32768):tn 3 (cW n)=some n:=by
 unfold tn
 rw [mV h0 h1]
 refine (if_pos rfl).trans ?_
 have p0:=(gD (i:=0) (v:=n / 16384) (by omega) (by omega) (by simp [dR];omega)).2.2
 have p1:=(gD (i:=1) (v:=n / 2048 % 8) (by omega) (by omega) (by simp [dR];omega)).2.2
 have p2:=(gD (i:=2) (v:=n / 128 % 16) (by omega) (by omega) (by simp [dR];omega)).2.2
 have p3:=(gD (i:=3) (v:=n / 8 % 16) (by omega) (by omega) (by simp [dR];omega)).2.2
 have p4:=(gD (i:=4) (v:=n % 8) (by omega) (by omega) (by simp [dR];omega)).2.2
 simp only [pU,List.getElem?_cons_zero,List.getElem?_cons_succ,p0,p1,p2,p3,p4]
 simp only [dR,List.getD_cons_zero,List.getD_cons_succ]
 congr 1
 omega
theorem sr {n:Int} (h0:0≤n) (h1:n<32768):(cW n).size≤40:=by
 rw [kB]
 have p0:=(gD (i:=0) (v:=n / 16384) (by omega) (by omega) (by simp [dR];omega)).2.1
 have p1:=(gD (i:=1) (v:=n / 2048 % 8) (by omega) (by omega) (by simp [dR];omega)).2.1
 have p2:=(gD (i:=2) (v:=n / 128 % 16) (by omega) (by omega) (by simp [dR];omega)).2.1
 have p3:=(gD (i:=3) (v:=n / 8 % 16) (by omega) (by omega) (by simp [dR];omega)).2.1
 have p4:=(gD (i:=4) (v:=n % 8) (by omega) (by omega) (by simp [dR];omega)).2.1
 have eu:us.size=1:=rfl
 simp only [ByteArray.size_append,eu]
 omega
def Qc:Bool:=iw.all fun r=>decide (cq r.1 us≠cq r.1 us∨(cq r.1 us).length<5)
theorem QU:Qc=true:=by decide +kernel
theorem CI {n:Int} (h0:0≤n) (h1:n<32768):jR iw (cW n)=none:=by
 cases h:jR iw (cW n) with
 | none=>rfl
 | some m =>
  have:=List.all_eq_true.1 QU _ (qf h)
  simp [mV h0 h1] at this
theorem Di (s:ByteArray):ka 6 s=s:=by
 unfold ka
 rw [if_neg (by omega),if_neg (by omega)]
theorem E9 {lim:Nat} {l:List ByteArray} {n:Int} (h:pU lim l 5=some n):0≤n∧n<32768:=by
 have step:∀ {i:Nat} {n:Int},i<5→pU lim l (i+1)=some n→∃ m v,pU lim l i=some m∧0≤v∧v<2 ^ dR.getD i 0∧n=m*2 ^ dR.getD i 0+v:=by
  intro i n hi h
  rw [pU] at h
  split at h
  case h_2=>cases h
  rename_i m w hm hw
  obtain ⟨v,_,v0,v1,e⟩:=wZ hi h
  exact ⟨m,v,hm,v0,v1,e⟩
 obtain ⟨n4,v4,h4,a4,b4,e4⟩:=step (by omega) h
 obtain ⟨n3,v3,h3,a3,b3,e3⟩:=step (by omega) h4
 obtain ⟨n2,v2,h2,a2,b2,e2⟩:=step (by omega) h3
 obtain ⟨n1,v1,h1,a1,b1,e1⟩:=step (by omega) h2
 obtain ⟨n0,v0,h0,a0,b0,e0⟩:=step (by omega) h1
 injection h0 with h0
 simp only [dR,List.getD_cons_zero,List.getD_cons_succ] at b0 b1 b2 b3 b4 e0 e1 e2 e3 e4
 simp at b0 b1 b2 b3 b4 e0 e1 e2 e3 e4
 omega
theorem there {k n:Int} {x:ByteArray} (h:ay k n=(x,0)):ap 3 k x=(n,0)∧(1≤k∧k≤8)∧x.size≤40:=by
 unfold ay at h
 split at h
 ·rename_i hk
  subst hk
  split at h
  ·cases h
  rename_i hn
  obtain ⟨i,rfl⟩:∃ i:Fin 128,n=(i.val:Int):=⟨⟨n.toNat,by omega⟩,by simp;omega⟩
  have h3:=Iy i
  rw [h] at h3
  rcases reg_there i with h1 | h1
  ·rw [h] at h1;exact ⟨h1,by decide,h3⟩
  ·rw [h] at h1;exact absurd rfl h1
 ·split at h
  ·rename_i s hs
   injection h with h
   subst h
   have:=Fc (ow hs)
   exact ⟨this.2.1,by omega,this.2.2.2⟩
  ·split at h
   ·rename_i hk
    obtain ⟨rfl,h0,h1⟩:=hk
    injection h with h
    subst h
    refine ⟨?_,by decide,sr h0 h1⟩
    unfold ap
    rw [if_neg (by omega),Di,show gK 6=iw from rfl,CI h0 h1,if_pos rfl,L4 h0 h1]
   ·cases h
theorem back {k m:Int} {s:ByteArray} (h:ap 3 k s=(m,0)):∃ x,ay k m=(x,0)∧(x=s∨(k=2∧(s=hsS∨s=loS))∨k=6):=by
 unfold ap at h
 split at h
 ·rename_i hk
  subst hk
  split at h
  case isFalse he =>
   injection h with _ h
   exact absurd h he
  rename_i he
  injection h with h
  subst h
  obtain ⟨⟨i,hi⟩,hr⟩:=Cp (r:=(fm 3 s).1) (s:=s) (by rw [← he])
  refine ⟨s,?_,.inl rfl⟩
  generalize (fm 3 s).1=r at hi hr
  obtain ⟨n,x,p⟩:=r
  simp only at hi
  subst hi
  unfold ay
  have:=i.isLt
  rw [if_pos rfl,if_neg (by unfold oy;cases x<;>cases p<;>simp<;>omega),Ix i x p,hr]
 ·rename_i hk
  split at h
  ·rename_i n hn
   injection h with h
   subst h
   have:=Fc (qf hn)
   refine ⟨_,by unfold ay;rw [if_neg hk,this.2.2.1],?_⟩
   unfold ka
   split
   ·rename_i hc;exact .inr (.inl ⟨hc.1,.inl hc.2⟩)
   split
   ·rename_i hc;exact .inr (.inl ⟨hc.1,.inr hc.2⟩)
   ·exact .inl rfl
  ·split at h
   case isFalse=>cases h
   rename_i hk6
   subst hk6
   split at h
   case h_2=>cases h
   rename_i n hn
   injection h with h
   subst h
   have hb:0≤n∧n<32768:=by
    unfold tn at hn
    split at hn
    case isFalse=>cases hn
    exact E9 hn
   unfold ay
   rw [if_neg hk]
   split
   ·exact ⟨_,rfl,.inr (.inr rfl)⟩
   ·rw [if_pos ⟨rfl,hb⟩];exact ⟨_,rfl,.inr (.inr rfl)⟩
theorem Ap {k n:Int} {x:ByteArray} (hk:1≤k∧k≤8) (h:ap 3 k x=(n,0)):iE 3 x=true:=by
 obtain ⟨i,rfl⟩:∃ i:Nat,k=((i+1:Nat):Int):=⟨(k-1).toNat,by omega⟩
 exact y9 (i:=i) (by rw [h]) (by omega)
end
end Go.Proofs.YthcoegkfpinlfaaGreatDoor
