import Derived.Test.YtnhbidpdadkcjaaGreatDoorG20
open Go.RowKit
set_option linter.unusedVariables false
set_option linter.unusedSimpArgs false
set_option maxRecDepth 100000
set_option maxHeartbeats 8000000
namespace Go.Proofs.YtnhbidpdadkcjaaGreatDoor
theorem ku {s:ByteArray}{i:Nat}{n:Int}(h:lQ s (i+1)=some n):∃m,lQ s i=some m∧n=10*m+(ab s i-48)∧48≤ab s i∧ab s i≤57:=by
 rw[lQ]at h;split at h
 case h_2=>cases h
 rename_i m hm;split at h
 ·cases h
 ·rename_i hc;injection h with h;exact⟨m,hm,h.symm,by omega,by omega⟩
theorem Dy {s:ByteArray}(h0:¬ab s 0=48){n:Int}(hn:lQ s 3=some n):100≤n:=by
 obtain⟨a,ha,rfl,_,_⟩:=ku hn;obtain⟨b,hb,rfl,_,_⟩:=ku ha;obtain⟨c,hc,rfl,_,_⟩:=ku hb;injection hc with hc;subst hc;have:ab s ((0:Nat):Int)=ab s 0:=rfl;omega
theorem P8:ab emp 0=0:=rfl
theorem qy {n:Int}{x:ByteArray}:∀{l:List (ByteArray×Int)},iP l n=some x→(x,n)∈l
 |[],h=>by cases h
 |r::l,h=>by
  rw[iP]at h;split at h
  ·rename_i hn;injection h with h;subst h;subst hn;exact List.mem_cons_self
  ·exact List.mem_cons_of_mem _ (qy h)
theorem pH {n:Int}{x:ByteArray}:∀{l:List (ByteArray×Int)},iQ l x=some n→(x,n)∈l
 |[],h=>by cases h
 |r::l,h=>by
  rw[iQ]at h;split at h
  ·rename_i hn;injection h with h;subst h;subst hn;exact List.mem_cons_self
  ·exact List.mem_cons_of_mem _ (pH h)
theorem tbl_cases (k:Int):k=2∨k=3∨k=4∨k=5∨k=6∨k=7∨k=8∨fE k=[]:=by
 by_cases h2:k=2
 ·exact .inl h2
 by_cases h3:k=3
 ·exact .inr (.inl h3)
 by_cases h4:k=4
 ·exact .inr (.inr (.inl h4))
 by_cases h5:k=5
 ·exact .inr (.inr (.inr (.inl h5)))
 by_cases h6:k=6
 ·exact .inr (.inr (.inr (.inr (.inl h6))))
 by_cases h7:k=7
 ·exact .inr (.inr (.inr (.inr (.inr (.inl h7)))))
 by_cases h8:k=8
 ·exact .inr (.inr (.inr (.inr (.inr (.inr (.inl h8))))))
 ·unfold fE;simp[h2,h3,h4,h5,h6,h7,h8]
def pn (k:Int):Bool:=(fE k).all fun r=>decide (ai 3 k r.1=(r.2,0))&&decide (iP (fE k) r.2=some r.1)&&decide (r.1.size≤40)
theorem R9:pn 2=true:=by decide +kernel
theorem Sa:pn 3=true:=by decide +kernel
theorem Sb:pn 4=true:=by decide +kernel
theorem Sc:pn 5=true:=by decide +kernel
theorem Sd:pn 6=true:=by decide +kernel
theorem Se:pn 7=true:=by decide +kernel
theorem Sf:pn 8=true:=by decide +kernel
theorem Mj {k:Int}{x:ByteArray}{n:Int}(h:(x,n)∈fE k):(2≤k∧k≤8)∧ai 3 k x=(n,0)∧iP (fE k) n=some x∧x.size≤40:=by
 have hk:(2≤k∧k≤8)∧pn k=true:=by
  rcases tbl_cases k with e | e | e | e | e | e | e | e
  ·subst e;exact⟨by decide,R9⟩
  ·subst e;exact⟨by decide,Sa⟩
  ·subst e;exact⟨by decide,Sb⟩
  ·subst e;exact⟨by decide,Sc⟩
  ·subst e;exact⟨by decide,Sd⟩
  ·subst e;exact⟨by decide,Se⟩
  ·subst e;exact⟨by decide,Sf⟩
  ·rw[e]at h;cases h
 refine⟨hk.1,?_⟩;have:=List.all_eq_true.1 hk.2 _ h;simp only[Bool.and_eq_true,decide_eq_true_eq]at this;exact⟨this.1.1,this.1.2,this.2⟩
theorem reg_there:∀i:Fin 128,ai 3 1 (aH (j7 (i.val:Int))).1=((i.val:Int),0)∨¬(aH (j7 (i.val:Int))).2=0:=by decide +kernel
theorem IA:∀i:Fin 128,(aH (j7 (i.val:Int))).1.size≤40:=by decide +kernel
theorem Iz:∀i:Fin 32,∀x p:Bool,j7 (sP ⟨(i.val:Int),x,p⟩)=⟨(i.val:Int),x,p⟩:=by decide +kernel
theorem AN {t:ByteArray}{n:Int}(h:fG 3 t 30=(n,true)):(0≤n∧n≤30)∧t=da n:=by
 have hr:=fL (lim:=3) (s:=t) (most:=30) (by rw[h]);rw[h]at hr;refine⟨hr,?_⟩;simp only at hr;unfold fG at h;split at h
 ·cases h
 rename_i hc;split at h
 case h_2=>cases h
 rename_i m hm;injection h with h1 h2;subst h1;have h1:¬t=emp:=fun e=>hc (.inl e);have h3:¬3<t.size:=fun e=>hc (.inr (.inl e));have h4:1<t.size→¬ab t 0=48:=fun a b=>hc (.inr (.inr ⟨a,b⟩));have hpos:=Cv h1;have h5:t.size=1∨t.size=2∨t.size=3:=by omega
 have b0:(aa t)[0]? = some (ab t (0:Nat)):=cH hpos;have z0:ab t (0:Nat)=ab t 0:=rfl;have z1:ab t (1:Nat)=ab t 1:=rfl;rcases h5 with h5 | h5 | h5
 ·rw[h5]at hm;obtain⟨a,ha,hb,hl,hh⟩:=ku hm;injection ha with ha;subst ha;unfold da;rw[pS];apply eS;rw[bB (by simp;omega)];apply List.ext_getElem?;intro i
  match i with
  |0=>rw[b0];simp;omega
  |i+1 =>
   rw[List.getElem?_eq_none (by rw[ae];omega)];simp
 ·rw[h5]at hm;obtain⟨a,ha,hb,hl,hh⟩:=ku hm;obtain⟨c,hd,he,hl',hh'⟩:=ku ha;injection hd with hd;subst hd;have h0:¬ab t (0:Nat)=48:=h4 (by omega);unfold da;rw[nG,pS];apply eS;rw[bB (by simp;omega)];have b1:(aa t)[1]? = some (ab t (1:Nat)):=cH (by omega);apply List.ext_getElem?;intro i
  match i with
  |0=>rw[b0];simp;omega
  |1=>rw[b1];simp;omega
  |i+2 =>
   rw[List.getElem?_eq_none (by rw[ae];omega)];simp
 ·rw[h5]at hm;have:=Dy (h4 (by omega)) hm;omega
theorem x2 {s:ByteArray}(hp:0<s.size){c:ByteArray}(hc:aa c=[ab s 0]):s=c++s.extract 1 s.size:=by
 apply eS;rw[db,cG,hc];have b0:(aa s)[0]? = some (ab s (0:Nat)):=cH hp;have hl:=ae s;cases hs:aa s with
 |nil=>rw[hs]at hl;simp at hl;omega
 |cons a l =>
  rw[hs]at b0 hl;simp only[List.getElem?_cons_zero,Option.some.injEq]at b0;simp only[List.length_cons]at hl;rw[List.drop_succ_cons,List.drop_zero,List.take_of_length_le (by omega),b0];rfl
theorem B0 {s:ByteArray}{r:gO}(h:fi 3 s=(r,0)):(∃i:Fin 32,r.n=(i.val:Int))∧aH r=(s,0):=by
 unfold fi at h;split at h
 ·rename_i e;injection h with h;subst h;subst e;exact⟨⟨31,rfl⟩,by decide⟩
 split at h
 ·rename_i e;injection h with h;subst h;subst e;exact⟨⟨31,rfl⟩,by decide⟩
 split at h
 ·rename_i e;injection h with h;subst h;subst e;exact⟨⟨31,rfl⟩,by decide⟩
 split at h
 ·rename_i e;injection h with h;subst h;subst e;exact⟨⟨31,rfl⟩,by decide⟩
 split at h
 ·cases h
 rename_i hc;unfold BY at h;split at h
 case h_2=>cases h
 rename_i n hd;injection h with h;subst h;obtain⟨hr,ht⟩:=AN hd;refine⟨⟨⟨n.toNat,by omega⟩,by simp;omega⟩,?_⟩
 have hp:0<s.size:=by
  rcases Nat.eq_zero_or_pos s.size with e | e
  ·exact absurd (.inl e) hc
  ·exact e
 have hb:ab s 0=120∨ab s 0=119:=Classical.byContradiction fun e=>hc (.inr e);unfold aH;simp only;rw[if_neg (by simp;omega),if_neg (by simp),if_neg (by simp),nG];congr 1;rcases hb with hb | hb
 ·rw[hb,←ht];exact(x2 hp (c:=xS) (by rw[hb];decide)).symm
 ·rw[hb,←ht];exact(x2 hp (c:=wS) (by rw[hb];decide)).symm
theorem wH {c:UInt8}:∀{a b:List UInt8},a.count c=0→fW c (a++c::b)=a::fW c b
 |[],b,_=>by simp[fW]
 |x::a,b,h=>by
  rw[List.count_cons]at h;have hx:¬(x==c)=true:=by intro e;rw[if_pos e]at h;omega
  rw[if_neg hx]at h;rw[List.cons_append,fW,if_neg hx,wH (a:=a) (by omega)]
def gV (s:ByteArray):List UInt8:=s.data.toList
theorem uZ (a b:ByteArray):gV (a++b)=gV a++gV b:=by
 unfold gV;rw[ByteArray.data_append];simp
theorem nM {a b:ByteArray}(h:(gV a).count 95=0):bX (a++us++b) us=a::bX b us:=by
 have e:gV (a++us++b)=gV a++95::gV b:=by
  rw[uZ,uZ];show gV a++[95]++gV b=_;simp
 show(fW (hdU us) (gV (a++us++b))).map _=_;rw[e,show hdU us=95 from rfl,wH h];rfl
theorem Cw {a:ByteArray}(h:(gV a).count 95=0):bX a us=[a]:=by
 show(fW (hdU us) (gV a)).map _=_;rw[show hdU us=95 from rfl,qF h];rfl
def bh (i:Nat)(v:Int):ByteArray:=if i=0 then s1++da (v+2) else if i=2∨i=3 then cS++da v else da v
def nu (i:Nat)(v:Int):Bool :=
 decide ((gV (bh i v)).count 95=0)&&decide ((bh i v).size≤4) &&
 decide ((ln (bh i v) (cB.getD i emp)).2=true∧(fG 3 (ln (bh i v) (cB.getD i emp)).1 (fQ.getD i 0)).2=true∧Md i (fG 3 (ln (bh i v) (cB.getD i emp)).1 (fQ.getD i 0)).1=v)
theorem Og:∀j:Fin 2,nu 0 (j.val:Int)=true:=by decide +kernel
theorem Oh:∀j:Fin 8,nu 1 (j.val:Int)=true:=by decide +kernel
theorem Oi:∀j:Fin 16,nu 2 (j.val:Int)=true:=by decide +kernel
theorem Oj:∀j:Fin 16,nu 3 (j.val:Int)=true:=by decide +kernel
theorem Ok:∀j:Fin 8,nu 4 (j.val:Int)=true:=by decide +kernel
theorem eY {i:Nat}{v:Int}(hi:i<5)(h0:0≤v)(h1:v<2 ^ cV.getD i 0):(gV (bh i v)).count 95=0∧(bh i v).size≤4∧∀m,bT 3 i m (bh i v)=some (m*2 ^ cV.getD i 0+v):=by
 have hB:nu i v=true:=by
  obtain⟨k,rfl⟩:∃k:Nat,v=(k:Int):=⟨v.toNat,by omega⟩;have hi':i=0∨i=1∨i=2∨i=3∨i=4:=by omega
  rcases hi' with rfl | rfl | rfl | rfl | rfl<;>simp only[cV,List.getD_cons_zero,List.getD_cons_succ]at h1
  ·exact Og ⟨k,by omega⟩
  ·exact Oh ⟨k,by omega⟩
  ·exact Oi ⟨k,by omega⟩
  ·exact Oj ⟨k,by omega⟩
  ·exact Ok ⟨k,by omega⟩
 unfold nu at hB;simp only[Bool.and_eq_true,decide_eq_true_eq]at hB;refine⟨hB.1.1,hB.1.2,fun m=>?_⟩;unfold bT;rw[if_pos ⟨hB.2.1,hB.2.2.1,by rw[hB.2.2.2];exact h0⟩,hB.2.2.2]
theorem jD (n:Int):cO n=bh 0 (n / 16384)++us++(bh 1 (n / 2048 % 8)++us++(bh 2 (n / 128 % 16)++us++(bh 3 (n / 8 % 16)++us++bh 4 (n % 8)))):=by
 have e1:usc=us++cS:=by decide
 have p0:∀v,bh 0 v=s1++da (v+2):=fun _=>rfl;have p1:∀v,bh 1 v=da v:=fun _=>rfl;have p2:∀v,bh 2 v=cS++da v:=fun _=>rfl;have p3:∀v,bh 3 v=cS++da v:=fun _=>rfl;have p4:∀v,bh 4 v=da v:=fun _=>rfl;unfold cO;rw[e1,p0,p1,p2,p3,p4];simp only[ByteArray.append_assoc]
theorem l9 {n:Int}(h0:0≤n)(h1:n<32768):bX (cO n) us=[bh 0 (n / 16384),bh 1 (n / 2048 % 8),bh 2 (n / 128 % 16),bh 3 (n / 8 % 16),bh 4 (n % 8)]:=by
 rw[jD,nM (eY (i:=0) (by omega) (by omega) (by simp[cV];omega)).1,nM (eY (i:=1) (by omega) (by omega) (by simp[cV];omega)).1,
  nM (eY (i:=2) (by omega) (by omega) (by simp[cV];omega)).1,nM (eY (i:=3) (by omega) (by omega) (by simp[cV];omega)).1,Cw (eY (i:=4) (by omega) (by omega) (by simp[cV];omega)).1]
theorem Me {n:Int}(h0:0≤n)(h1:n<32768):wN 3 (cO n)=some n:=by
 unfold wN;rw[l9 h0 h1];refine(if_pos rfl).trans ?_;have p0:=(eY (i:=0) (v:=n / 16384) (by omega) (by omega) (by simp[cV];omega)).2.2;have p1:=(eY (i:=1) (v:=n / 2048 % 8) (by omega) (by omega) (by simp[cV];omega)).2.2;have p2:=(eY (i:=2) (v:=n / 128 % 16) (by omega) (by omega) (by simp[cV];omega)).2.2;have p3:=(eY (i:=3) (v:=n / 8 % 16) (by omega) (by omega) (by simp[cV];omega)).2.2;have p4:=(eY (i:=4) (v:=n % 8) (by omega) (by omega) (by simp[cV];omega)).2.2;simp only[pm,List.getElem?_cons_zero,List.getElem?_cons_succ,p0,p1,p2,p3,p4];simp only[cV,List.getD_cons_zero,List.getD_cons_succ];congr 1;omega
theorem r9 {n:Int}(h0:0≤n)(h1:n<32768):(cO n).size≤40:=by
 rw[jD];have p0:=(eY (i:=0) (v:=n / 16384) (by omega) (by omega) (by simp[cV];omega)).2.1;have p1:=(eY (i:=1) (v:=n / 2048 % 8) (by omega) (by omega) (by simp[cV];omega)).2.1;have p2:=(eY (i:=2) (v:=n / 128 % 16) (by omega) (by omega) (by simp[cV];omega)).2.1;have p3:=(eY (i:=3) (v:=n / 8 % 16) (by omega) (by omega) (by simp[cV];omega)).2.1;have p4:=(eY (i:=4) (v:=n % 8) (by omega) (by omega) (by simp[cV];omega)).2.1;have eu:us.size=1:=rfl;simp only[ByteArray.size_append,eu];omega
def RG:Bool:=iZ.all fun r=>decide (bX r.1 us≠bX r.1 us∨(bX r.1 us).length<5)
theorem TM:RG=true:=by decide +kernel
theorem CG {n:Int}(h0:0≤n)(h1:n<32768):iQ iZ (cO n)=none:=by
 cases h:iQ iZ (cO n) with
 |none=>rfl
 |some m =>
  have:=List.all_eq_true.1 TM _ (pH h);simp[l9 h0 h1]at this
theorem Da (s:ByteArray):ji 6 s=s:=by
 unfold ji;rw[nG,nG]
theorem EW {lim:Nat}{l:List ByteArray}{n:Int}(h:pm lim l 5=some n):0≤n∧n<32768:=by
 have step:∀{i:Nat} {n:Int},i<5→pm lim l (i+1)=some n→∃m v,pm lim l i=some m∧0≤v∧v<2 ^ cV.getD i 0∧n=m*2 ^ cV.getD i 0+v:=by
  intro i n hi h;rw[pm]at h;split at h
  case h_2=>cases h
  rename_i m w hm hw;obtain⟨v,_,v0,v1,e⟩:=wP hi h;exact⟨m,v,hm,v0,v1,e⟩
 obtain⟨n4,v4,h4,a4,b4,e4⟩:=step (by omega) h;obtain⟨n3,v3,h3,a3,b3,e3⟩:=step (by omega) h4;obtain⟨n2,v2,h2,a2,b2,e2⟩:=step (by omega) h3;obtain⟨n1,v1,h1,a1,b1,e1⟩:=step (by omega) h2;obtain⟨n0,v0,h0,a0,b0,e0⟩:=step (by omega) h1;injection h0 with h0;simp only[cV,List.getD_cons_zero,List.getD_cons_succ]at b0 b1 b2 b3 b4 e0 e1 e2 e3 e4;simp at b0 b1 b2 b3 b4 e0 e1 e2 e3 e4;omega
theorem there {k n:Int}{x:ByteArray}(h:aK k n=(x,0)):ai 3 k x=(n,0)∧(1≤k∧k≤8)∧x.size≤40:=by
 unfold aK at h;split at h
 ·rename_i hk;subst hk;split at h
  ·cases h
  rename_i hn;obtain⟨i,rfl⟩:∃i:Fin 128,n=(i.val:Int):=⟨⟨n.toNat,by omega⟩,by simp;omega⟩;have h3:=IA i;rw[h]at h3;rcases reg_there i with h1 | h1
  ·rw[h]at h1;exact⟨h1,by decide,h3⟩
  ·rw[h]at h1;exact absurd rfl h1
 ·split at h
  ·rename_i s hs;injection h with h;subst h;have:=Mj (qy hs);exact⟨this.2.1,by omega,this.2.2.2⟩
  ·split at h
   ·rename_i hk;obtain⟨rfl,h0,h1⟩:=hk;injection h with h;subst h;refine⟨?_,by decide,r9 h0 h1⟩;unfold ai;rw[nG,Da,show fE 6=iZ from rfl,CG h0 h1,if_pos rfl,Me h0 h1]
   ·cases h
theorem back {k m:Int}{s:ByteArray}(h:ai 3 k s=(m,0)):∃x,aK k m=(x,0)∧(x=s∨(k=2∧(s=hsS∨s=loS))∨k=6):=by
 unfold ai at h;split at h
 ·rename_i hk;subst hk;split at h
  case isFalse he =>
   injection h with _ h;exact absurd h he
  rename_i he;injection h with h;subst h;obtain⟨⟨i,hi⟩,hr⟩:=B0 (r:=(fi 3 s).1) (s:=s) (by rw[←he]);refine⟨s,?_,.inl rfl⟩;generalize (fi 3 s).1=r at hi hr;obtain⟨n,x,p⟩:=r;simp only at hi;subst hi;unfold aK;have:=i.isLt;rw[if_pos rfl,if_neg (by unfold sP;cases x<;>cases p<;>simp<;>omega),Iz i x p,hr]
 ·rename_i hk;split at h
  ·rename_i n hn;injection h with h;subst h;have:=Mj (pH hn);refine⟨_,by unfold aK;rw[if_neg hk,this.2.2.1],?_⟩;unfold ji;split
   ·rename_i hc;exact .inr (.inl ⟨hc.1,.inl hc.2⟩)
   split
   ·rename_i hc;exact .inr (.inl ⟨hc.1,.inr hc.2⟩)
   ·exact .inl rfl
  ·split at h
   case isFalse=>cases h
   rename_i hk6;subst hk6;split at h
   case h_2=>cases h
   rename_i n hn;injection h with h;subst h
   have hb:0≤n∧n<32768:=by
    unfold wN at hn;split at hn
    case isFalse=>cases hn
    exact EW hn
   unfold aK;rw[if_neg hk];split
   ·exact⟨_,rfl,.inr (.inr rfl)⟩
   ·rw[if_pos ⟨rfl,hb⟩];exact⟨_,rfl,.inr (.inr rfl)⟩
end Go.Proofs.YtnhbidpdadkcjaaGreatDoor
