import Derived.Test.YtnhbidpdadkcjaaGreatDoorJ29
import Derived.Lib.ItoaMem
import Derived.Test.YtnhbidpdadkcjaaGreatDoorJ26
import Derived.Lib.IndexAny
set_option linter.unusedVariables false
set_option linter.unusedSimpArgs false
open Go.RowKit
open List (length_append length_cons map_cons mem_append mem_cons_self append_assoc mem_cons_of_mem mem_cons not_mem_nil append_nil nil_append cons_append length_drop getElem?_map length_map map_append singleton_append)
open Nat (zero_le)
open Bool (and_eq_true)
open Int (eq_ofNat_of_zero_le)
namespace Go.Proofs.YtnhbidpdadkcjaaGreatDoor.Ex
theorem tg (c:Int):(dC c).length≤4:=by
 unfold dC;split
 ·simp
 ·split<;>simp
theorem quoteB_len:∀l:List Int,(eC l).length≤4*l.length
 |[]=>by simp[eC]
 |c::l=>by
  have h1:=quoteB_len l;have h2:=tg c;have:eC (c::l)=dC c++eC l:=rfl;rw[this,length_append,length_cons];omega
set_option maxRecDepth 100000
def uZ (n:Int):ByteArray:=⟨(Lib.decDigits n.toNat).toArray⟩
theorem GS {n:Int}(h0:0≤n)(h:n<10):uZ n=aj [48+n]:=by
 unfold uZ;rw[Lib.decDigits_one (by omega)];unfold aj;simp only[map_cons,List.map_nil];rw[show(48+n).toNat=48+n.toNat by omega]
theorem N3 {n:Int}(h:10≤n):uZ n=uZ (n / 10)++aj [48+n % 10]:=by
 unfold uZ;rw[Lib.decDigits,dif_neg (by omega)];have e1:(n / 10).toNat=n.toNat / 10:=by omega
 have e2:(48+n % 10).toNat=48+n.toNat % 10:=by omega
 rw[e1];unfold aj;simp only[map_cons,List.map_nil,e2];refine ByteArray.ext ?_;simp[ByteArray.append]
theorem KK {n:Int}(h0:0≤n)(h:n<18446744073709551616):(uZ n).size≤20:=by
 have e:(uZ n).size=(Lib.decDigits n.toNat).length:=by simp[uZ,ByteArray.size]
 rw[e,Lib.decDigits_length];rcases Nat.eq_zero_or_pos n.toNat with h1 | h1
 ·rw[h1];decide +kernel
 ·have:=Lib.numDigits_eq n.toNat h1 (by omega);split at this<;>omega
def textT (t:Tok):ByteArray:=if cP t=0 then if t.kind=2 then uZ t.n else if t.kind=3 then aj (eD (aa t.text)) else t.text else emp
def pi (t:Tok):Bool:=decide (t.kind=1)||decide (t.kind=2)
def pY (t:Tok):Bool:=decide (t.kind=4)&&decide (t.text=⟨#[47]⟩)
def apartF (a b:Tok):Bool:=(pi a&&pi b)||(pY a&&pY b)
def pX (p:Option Tok)(t:Tok):Bool:=match p with | some a=>apartF a t | none=>false
def spB:ByteArray:=⟨#[32]⟩
def WC (t:Tok):Prop:=t.text.size≤140737488351232∧0≤t.n∧t.n<18446744073709551616
theorem check_is {t:Tok}(h:cP t=0):isT t=true∧0≤t.pos∧(t.n=0∨t.kind=2):=by
 unfold cP at h;split at h
 ·assumption
 ·cases h
theorem check_kind {t:Tok}(h:cP t=0):t.kind=1∨t.kind=2∨t.kind=3∨t.kind=4:=by
 have:=(check_is h).1;unfold isT at this;split at this
 ·exact .inl (by assumption)
 ·split at this
  ·exact .inr (.inl (by assumption))
  ·split at this
   ·exact .inr (.inr (.inl (by assumption)))
   ·split at this
    ·exact .inr (.inr (.inr (by assumption)))
    ·cases this
theorem GJ {t:Tok}(h:cP t=0)(k:t.kind=3):t.text.size≤512:=by
 have:=(check_is h).1;unfold isT at this;rw[nG,nG,if_pos k]at this;exact of_decide_eq_true this
theorem Ds (l:List Int):(aj l).size=l.length:=by simp[aj,ByteArray.size]
theorem Ip (l:List Int):(eD l).length≤4*l.length+2:=by
 have:=quoteB_len l;unfold eD;simp only[length_cons,length_append,List.length_nil];omega
theorem W8 {t:Tok}(h:cP t=0)(hs:WC t):0<(textT t).size∧(textT t).size≤140737488351232:=by
 obtain⟨h1,h2,h3⟩:=hs;have hi:=(check_is h).1;unfold textT;rw[if_pos h];rcases check_kind h with k | k | k | k
 ·rw[nG,nG];unfold isT at hi;rw[if_pos k]at hi;unfold da at hi;simp only[and_eq_true,decide_eq_true_eq]at hi;have:=hi.1.1;rw[ae]at this;exact⟨this,h1⟩
 ·rw[if_pos k];have:=KK h2 h3;have h4:(uZ t.n).size=(Lib.decDigits t.n.toNat).length:=by simp[uZ,ByteArray.size]
  have h5:0<(Lib.decDigits t.n.toNat).length:=by rw[Lib.decDigits];split<;>simp
  omega
 ·rw[nG,if_pos k,Ds];have:=Ip (aa t.text);have h4:=GJ h k;rw[ae]at this;refine⟨by unfold eD;simp,by omega⟩
 ·rw[nG,nG];unfold isT at hi;rw[nG,nG,nG,if_pos k]at hi;have:=of_decide_eq_true hi;exact⟨this.1,h1⟩
def dL (n:Int):List Int:=aa (uZ n)
theorem D4 {n:Int}(h0:0≤n)(h:n<10):dL n=[48+n]:=by
 unfold dL;rw[GS h0 h,bh (by simp;omega)]
theorem Vm {n:Int}(h:10≤n):dL n=dL (n / 10)++[48+n % 10]:=by
 unfold dL;rw[N3 h,eF,bh (by simp;omega)]
theorem yi:∀(N:Nat) (n:Int),n.toNat≤N→0≤n→(∀c∈dL n,48≤c∧c≤57)∧bU 10 (dL n)=n∧1≤(dL n).length∧(1≤n→bAt (dL n) 0≠48)∧(n<10→(dL n).length=1):=by
 intro N
 induction N with
 |zero =>
  intro n hN h0;obtain rfl:n=0:=by omega
  rw[D4 (by omega) (by omega)];refine⟨by simp,rfl,by simp,by omega,by simp⟩
 |succ N ih =>
  intro n hN h0;by_cases h:n<10
  ·rw[D4 h0 h];refine⟨by simp;omega,?_,by simp,?_,by simp⟩
   ·show(0*10+aL (48+n):Int)=n;unfold aL;rw[pS];omega
   ·intro h1;show 48+n≠48;omega
  ·obtain⟨i1,i2,i3,i4,i5⟩:=ih (n / 10) (by omega) (by omega);rw[Vm (by omega)];refine⟨?_,?_,?_,?_,?_⟩
   ·intro c hc;rw[mem_append,List.mem_singleton]at hc;rcases hc with hc | rfl
    ·exact i1 c hc
    ·omega
   ·unfold bU at i2 ⊢;rw[List.foldl_append,i2];show n / 10*10+aL (48+n % 10)=n;unfold aL;rw[pS];omega
   ·simp
   ·intro _;rw[kP (by omega)];exact i4 (by omega)
   ·omega
theorem rH {l:List Int}(h:∀c∈l,48≤c∧c≤57){i:Nat}(hi:i<l.length):48≤bAt l i∧bAt l i≤57:=by
 have:=xx hi;exact h _ (List.mem_of_getElem? this)
theorem KN {c:Int}(h:48≤c∧c≤57):aL c=c-48:=by unfold aL;rw[if_pos h]
theorem La {c:Int}(h:aL c<10):48≤c∧c≤57:=by
 unfold aL at h;split at h
 ·assumption
 ·split at h
  ·omega
  ·split at h<;>omega
theorem Ee {c:Int}(h:48≤c∧c≤57):wordyB c=true:=by
 unfold wordyB eU;rw[decide_eq_true h,Bool.or_true]
def Cj (r:List Int):Prop:=r=[]∨wordyB (bAt r 0)=false
theorem vA {a r:List Int}(h:Cj r):¬(a.length<(a++r).length∧wordyB (bAt (a++r) a.length)=true):=by
 rintro⟨h1,h2⟩;rw[x7]at h2;rcases h with rfl | h
 ·simp at h1
 ·rw[h]at h2;cases h2
theorem LI {n:Int}(h0:0≤n)(h1:n<18446744073709551616){r:List Int}(hr:Cj r):aT (dL n++r)=(n,(dL n).length):=by
 obtain⟨f1,f2,f3,f4,f5⟩:=yi n.toNat n (Nat.le_refl _) h0;have hb0:bAt (dL n++r) 0=bAt (dL n) 0:=kP (by omega);have hd0:=rH f1 (i:=0) (by omega)
 have hz:∀c:Int,c=120∨c=98→¬(1<(dL n++r).length∧bAt (dL n++r) 0=48∧bAt (dL n++r) 1=c):=by
  rintro c hc ⟨g1,g2,g3⟩;rw[hb0]at g2
  have hn:n=0:=by
   by_cases h:1≤n
   ·exact absurd g2 (f4 h)
   ·omega
  have hl:=f5 (by omega);have e:bAt (dL n++r) 1=bAt r 0:=by rw[←hl,x7]
  rcases hr with rfl | hr
  ·simp at g1;omega
  ·rw[←e,g3]at hr;rcases hc with rfl | rfl<;>exact absurd hr (by decide)
 have hbase:fJ (dL n++r)=10:=by
  unfold fJ;rw[if_neg (hz 120 (.inl rfl)),if_neg (hz 98 (.inr rfl))]
 have hhead:cN (dL n++r)=0:=by
  unfold cN;rw[if_neg];rintro⟨g1,g2,g3 | g3⟩
  ·exact hz 120 (.inl rfl) ⟨g1,g2,g3⟩
  ·exact hz 98 (.inr rfl) ⟨g1,g2,g3⟩
 have hrun:bP 10 (dL n++r)=(dL n).length:=by
  refine pV _ _ _ (by simp) (fun i hi=>?_) (fun hi=>?_)
  ·rw[kP hi];have:=rH f1 hi;rw[KN this];exact decide_eq_true (by omega)
  ·refine decide_eq_false fun h=>?_;have:=Ee (La h);exact vA hr ⟨hi,this⟩
 unfold aT;rw[hbase,hhead,List.drop_zero,hrun,hb0,nG,if_neg,List.take_left,f2,nG,Nat.zero_add];rintro (g | ⟨_,g1,g2⟩)
 ·omega
 ·by_cases h:1≤n
  ·exact f4 h g2
  ·have:=f5 (by omega);omega
theorem Fq {c:Int}(h0:0≤c)(h1:c≤255)(x:List Int):e7 (dC c++x)=.put c (dC c).length:=by
 have hx16:aL (j3 (c / 16))=c / 16:=by
  unfold j3 aL;by_cases h:c / 16<10
  ·rw[if_pos h,pS];omega
  ·rw[if_neg h,nG,pS];omega
 have hx1:aL (j3 (c % 16))=c % 16:=by
  unfold j3 aL;by_cases h:c % 16<10
  ·rw[if_pos h,pS];omega
  ·rw[if_neg h,nG,pS];omega
 by_cases hs:di c≠0
 ·have e:dC c=[92,di c]:=by unfold dC;rw[if_pos hs]
  have hl:ER (di c)=some c:=by
   unfold di at hs ⊢;by_cases c0:c=0
   ·subst c0;rfl
   by_cases c1:c=9
   ·subst c1;rfl
   by_cases c2:c=10
   ·subst c2;rfl
   by_cases c3:c=13
   ·subst c3;rfl
   by_cases c4:c=34
   ·subst c4;rfl
   by_cases c5:c=92
   ·subst c5;rfl
   ·simp only[c0,c1,c2,c3,c4,c5,or_self,if_false]at hs;exact absurd rfl hs
  rw[e];unfold e7;rw[if_neg (by simp),if_neg (by show ¬(92:Int)=34;decide),if_pos (by rfl)]
  have:mT (List.drop 1 ([92,di c]++x))=some (c,1):=by
   show mT (di c::x)=_;unfold mT;rw[if_neg (by simp),DU,hl]
  rw[this];rfl
 have hs0:di c=0:=by simpa using hs
 have hne:c≠34∧c≠92:=by
  constructor
  ·rintro rfl;exact absurd hs0 (by decide)
  ·rintro rfl;exact absurd hs0 (by decide)
 by_cases hw:iF c=true
 ·have e:dC c=[c]:=by unfold dC;rw[if_neg hs,if_pos hw]
  rw[e];unfold e7;rw[if_neg (by simp),if_neg (by show ¬c=34;exact hne.1),if_neg (by show ¬c=92;exact hne.2),if_pos (by exact hw)];rfl
 ·have e:dC c=[92,120,j3 (c / 16),j3 (c % 16)]:=by unfold dC;rw[if_neg hs,if_neg hw]
  rw[e];unfold e7;rw[if_neg (by simp),if_neg (by show ¬(92:Int)=34;decide),if_pos (by rfl)]
  have:mT (List.drop 1 ([92,120,j3 (c / 16),j3 (c % 16)]++x))=some (c,3):=by
   show mT (120::j3 (c / 16)::j3 (c % 16)::x)=_;unfold mT;have hl:ER (bAt (120::j3 (c / 16)::j3 (c % 16)::x) 0)=none:=by rw[DU];rfl
   rw[if_neg (by simp),hl];have b1:bAt (120::j3 (c / 16)::j3 (c % 16)::x) 1=j3 (c / 16):=rfl;have b2:bAt (120::j3 (c / 16)::j3 (c % 16)::x) 2=j3 (c % 16):=rfl;simp only[b1,b2,hx16,hx1];rw[if_pos ⟨by simp,rfl,by omega,by omega⟩];congr 2;omega
  rw[this];rfl
theorem BT:∀{s:List Int},(∀z∈s,0≤z∧z≤255)→∀r:List Int,quotesL (eC s++34::r)=some (s,(eC s).length+1)
 |[],_,r=>iT rfl
 |c::s,h,r=>by
  have hc:=h c (mem_cons_self ..);have e:eC (c::s)=dC c++eC s:=rfl;rw[e,append_assoc,jH (Fq hc.1 hc.2 _),List.drop_left,BT (fun z hz=>h z (mem_cons_of_mem _ hz)) r];simp[Nat.add_assoc]
theorem Ir {s:List Int}(h:∀z∈s,0≤z∧z≤255)(r:List Int):cq (eD s++r)=(s,(eD s).length):=by
 unfold cq;have e:(eD s++r).drop 1=eC s++34::r:=by unfold eD;simp
 rw[e,BT h r];unfold eD;simp
theorem Dg {c:Int}(h0:0≤c)(h1:c≤255):∀z∈dC c,0≤z∧z≤255:=by
 have hd:∀k:Int,0≤k→k<16→0≤j3 k∧j3 k≤255:=by
  intro k g0 g1;unfold j3;split<;>omega
 have hsr:0≤di c∧di c≤255:=by unfold di;(repeat' split)<;>omega
 intro z hz;unfold dC at hz;split at hz
 ·simp at hz;rcases hz with rfl | rfl
  ·omega
  ·exact hsr
 ·split at hz
  ·simp at hz;omega
  ·simp at hz;rcases hz with rfl | rfl | rfl | rfl
   ·omega
   ·omega
   ·exact hd _ (by omega) (by omega)
   ·exact hd _ (by omega) (by omega)
theorem quoteL_range {s:List Int}(h:∀z∈s,0≤z∧z≤255):∀z∈eD s,0≤z∧z≤255:=by
 intro z hz;unfold eD eC at hz;simp only[mem_cons,mem_append,List.mem_flatMap,not_mem_nil,or_false]at hz;rcases hz with rfl | ⟨c,hc,hz⟩ | rfl
 ·omega
 ·exact Dg (h c hc).1 (h c hc).2 z hz
 ·omega
def After (t:Tok)(r:List Int):Prop:=(pi t=true→Cj r)∧(pY t=true→¬(0<r.length∧bAt r 0=47))
def txtL (t:Tok):List Int:=aa (textT t)
theorem txt_head {t:Tok}(h:cP t=0)(h0:0≤t.n)(r:List Int):0<(txtL t).length∧bAt (txtL t++r) 0=bAt (txtL t) 0∧au (bAt (txtL t) 0)=false∧(wordyB (bAt (txtL t) 0)=true→pi t=true)∧(bAt (txtL t) 0=47→pY t=true):=by
 have hi:=(check_is h).1
 have key:0<(txtL t).length∧au (bAt (txtL t) 0)=false∧(wordyB (bAt (txtL t) 0)=true→pi t=true)∧(bAt (txtL t) 0=47→pY t=true):=by
  unfold txtL textT;rw[if_pos h];rcases check_kind h with k | k | k | k
  ·rw[nG,nG];unfold isT at hi;rw[if_pos k]at hi;unfold da at hi;simp only[and_eq_true,decide_eq_true_eq]at hi;obtain⟨⟨g1,g2⟩,g3⟩:=hi;have:=pC g2;exact⟨g1,this.1,fun _=>by unfold pi;rw[decide_eq_true k];rfl,fun e=>absurd e this.2⟩
  ·rw[if_pos k];obtain⟨f1,_,f3,_,_⟩:=yi t.n.toNat t.n (Nat.le_refl _) h0;have hd:=rH f1 (i:=0) (by omega);unfold dL at f3 hd;refine⟨by omega,by unfold au;exact decide_eq_false (by omega),fun _=>by unfold pi;rw[decide_eq_true k,Bool.or_true],fun e=>by omega⟩
  ·rw[nG,if_pos k,bh (quoteL_range fun z hz=>ig hz)];refine⟨by unfold eD;simp,rfl,fun e=>absurd e (by show ¬wordyB 34=true;decide),fun e=>absurd e (by show ¬(34:Int)=47;decide)⟩
  ·rw[nG,nG];unfold isT at hi;rw[nG,nG,nG,if_pos k]at hi;obtain⟨g1,g2⟩:=of_decide_eq_true hi;have hl:=ae t.text;have hs:bD (aa t.text)≠0:=by omega
   have hh:=vS hs;refine⟨by omega,?_,?_,?_⟩
   ·rcases hh with e | e | e
    ·rw[e];rfl
    ·rw[e];rfl
    ·exact(rT e).1
   ·intro hw;exfalso;rcases hh with e | e | e
    ·rw[e]at hw;exact absurd hw (by decide)
    ·rw[e]at hw;exact absurd hw (by decide)
    ·revert hw e;generalize bAt (aa t.text) 0=c;intro hw e;unfold rj at e;simp only[mem_cons,not_mem_nil,or_false]at e;rcases e with rfl | rfl | rfl | rfl | rfl | rfl | rfl | rfl | rfl | rfl | rfl | rfl | rfl | rfl | rfl | rfl | rfl | rfl<;>exact absurd hw (by decide)
   ·intro e
    have h1:t.text.size=1:=by
     rw[←g2];unfold bD;rw[nG,if_pos ⟨by omega,by rw[e];decide⟩]
    have h2:aa t.text=[47]:=by
     rw[←hl]at h1;obtain⟨x,hx⟩:=List.length_eq_one_iff.1 h1;rw[hx]at e ⊢;rw[show x=47 from e]
    have h3:t.text=⟨#[47]⟩:=eH (h2.trans rfl);unfold pY;rw[decide_eq_true k,decide_eq_true h3];rfl
 exact⟨key.1,kP key.1,key.2⟩
theorem we {a r:List Int}(h:da a=true)(hr:Cj r):br wordyB (a++r)=a.length:=by
 unfold da at h;simp only[and_eq_true,decide_eq_true_eq]at h;obtain⟨⟨g1,g2⟩,g3⟩:=h;refine pV _ _ _ (by simp) (fun i hi=>?_) (fun hi=>?_)
 ·rw[kP hi];exact pW _ _ _ (by omega)
 ·cases hw:wordyB (bAt (a++r) a.length) with
  |false=>rfl
  |true=>exact absurd ⟨hi,hw⟩ (vA hr)
theorem QB {a r:List Int}(h0:0<a.length)(h:bD a=a.length)(hs:a=[47]→¬(0<r.length∧bAt r 0=47)):bD (a++r)=a.length∧dj (a++r)=false:=by
 have hb0:bAt (a++r) 0=bAt a 0:=kP h0;unfold bD at h;split at h
 ·rename_i hc;obtain⟨c1,c2⟩:=hc;have hb1:bAt (a++r) 1=bAt a 1:=kP c1;constructor
  ·unfold bD;rw[if_pos ⟨by rw[length_append];omega,by rw[hb0,hb1];exact c2⟩];exact h
  ·unfold dj;rw[hb0];rw[decide_eq_false (show ¬(a++r).length=0 by rw[length_append];omega),decide_eq_false (show ¬bAt a 0=47 by omega)];simp
 ·split at h
  ·rename_i hc0 hc;have h1:a.length=1:=h.symm;have hne:=rT hc.2;constructor
   ·unfold bD;rw[hb0,if_neg (by rintro⟨_,g | g⟩<;>omega),if_pos ⟨by rw[length_append];omega,hc.2⟩];exact h
   ·unfold dj;rw[hb0];rw[decide_eq_false (show ¬(a++r).length=0 by rw[length_append];omega),Bool.false_or];rw[Bool.eq_false_iff];intro hd;simp only[and_eq_true,decide_eq_true_eq]at hd;obtain⟨⟨d1,d2⟩,d3⟩:=hd;obtain⟨x,rfl⟩:=List.length_eq_one_iff.1 h1;obtain rfl:x=47:=d2;refine hs rfl ⟨by simp at d1;omega,?_⟩;rw[←d3];rfl
  ·omega
theorem one_text {t:Tok}(h:cP t=0)(h0:0≤t.n)(h1:t.n<18446744073709551616){r:List Int}(hr:After t r) :
  ∃t0,fq (txtL t++r)=.ok (t0,(txtL t).length)∧cJ t0=cJ t∧dj (txtL t++r)=false∧br au (txtL t++r)=0:=by
 obtain⟨p0,p1,p2,p3,p4⟩:=txt_head h h0 r;have hrun:br au (txtL t++r)=0:=pV _ _ _ (zero_le _) (fun i hi=>absurd hi (Nat.not_lt_zero _)) (fun _=>by rw[p1];exact p2)
 have hnot47:bAt (txtL t) 0≠47→dj (txtL t++r)=false:=by
  intro hne;unfold dj;rw[p1,decide_eq_false (show ¬(txtL t++r).length=0 by rw[length_append];omega),decide_eq_false hne];simp
 obtain⟨hi,_,hn⟩:=check_is h;rcases check_kind h with k | k | k | k
 ·have hw:pi t=true:=by unfold pi;rw[decide_eq_true k];rfl
  have e:txtL t=aa t.text:=by unfold txtL textT;rw[if_pos h,nG,nG]
  unfold isT at hi;rw[if_pos k]at hi;have hrn:=we hi (hr.1 hw);unfold da at hi;simp only[and_eq_true,decide_eq_true_eq]at hi;obtain⟨⟨g1,g2⟩,g3⟩:=hi;rw[←e]at hrn g2;refine⟨⟨1,t.text,0,0⟩,?_,?_,hnot47 (pC g2).2,hrun⟩
  ·unfold fq;rw[p1,if_pos g2,hrn,List.take_left,e,fD]
  ·unfold cJ;rcases hn with hn | hn
   ·rw[←k,←hn]
   ·omega
 ·have hw:pi t=true:=by unfold pi;rw[decide_eq_true k,Bool.or_true]
  have e:txtL t=dL t.n:=by unfold txtL textT dL;rw[if_pos h,if_pos k]
  have hnm:=LI h0 h1 (hr.1 hw);obtain⟨f1,_,f3,_,_⟩:=yi t.n.toNat t.n (Nat.le_refl _) h0;have hd:=rH f1 (i:=0) (by omega);unfold isT at hi;rw[nG,if_pos k]at hi;have htx:=of_decide_eq_true hi;have hno:=vA (a:=dL t.n) (hr.1 hw);rw[e]at p1 hrun ⊢;refine⟨⟨2,emp,t.n,0⟩,?_,?_,by rw[←e];exact hnot47 (by rw[e];omega),hrun⟩
  ·unfold fq;have hl:¬bV (bAt (dL t.n) 0)=true:=by unfold bV;rw[decide_eq_true_eq];omega
   have hdg:eU (bAt (dL t.n) 0)=true:=by unfold eU;exact decide_eq_true hd
   rw[p1,if_neg hl,if_pos (.inl hdg),hnm,if_neg];rintro (g | g)
   ·simp only at g;omega
   ·exact hno g
  ·unfold cJ;rw[←k,←htx]
 ·have e:txtL t=eD (aa t.text):=by unfold txtL textT;rw[if_pos h,nG,if_pos k,bh (quoteL_range fun z hz=>ig hz)]
  have hq:=Ir (s:=aa t.text) (fun z hz=>ig hz) r;have hb:bAt (eD (aa t.text)) 0=34:=rfl;rw[e]at p1 hrun ⊢;refine⟨⟨3,t.text,0,0⟩,?_,?_,by rw[←e];exact hnot47 (by rw[e,hb];decide),hrun⟩
  ·unfold fq;rw[p1,hb,if_neg (by decide),if_neg (by decide),if_pos rfl,hq,if_neg (by unfold eD;simp),fD]
  ·unfold cJ;rcases hn with hn | hn
   ·rw[←k,←hn]
   ·omega
 ·have e:txtL t=aa t.text:=by unfold txtL textT;rw[if_pos h,nG,nG]
  unfold isT at hi;rw[nG,nG,nG,if_pos k]at hi;obtain⟨g1,g2⟩:=of_decide_eq_true hi;have hl:=ae t.text
  obtain⟨s1,s2⟩:=QB (a:=aa t.text) (r:=r) (by omega) (by omega) (fun ea=>hr.2 (by
   have h3:t.text=⟨#[47]⟩:=eH (ea.trans rfl);unfold pY;rw[decide_eq_true k,decide_eq_true h3];rfl))
  have hh:=vS (m:=aa t.text) (by omega)
  have hc:bV (bAt (aa t.text) 0)=false∧eU (bAt (aa t.text) 0)=false∧bAt (aa t.text) 0≠39∧bAt (aa t.text) 0≠34:=by
   revert hh;generalize bAt (aa t.text) 0=c;intro hh;rcases hh with rfl | rfl | hh
   ·decide
   ·decide
   ·unfold rj at hh;simp only[mem_cons,not_mem_nil,or_false]at hh;rcases hh with rfl | rfl | rfl | rfl | rfl | rfl | rfl | rfl | rfl | rfl | rfl | rfl | rfl | rfl | rfl | rfl | rfl | rfl<;>decide
  rw[e]at p1 hrun ⊢;refine⟨⟨4,t.text,0,0⟩,?_,?_,s2,hrun⟩
  ·unfold fq;rw[p1,hc.1,hc.2.1,if_neg (by decide),if_neg (by rintro (g | g);cases g;exact hc.2.2.1 g),if_neg hc.2.2.2,s1,nG,List.take_left,fD]
  ·unfold cJ;rcases hn with hn | hn
   ·rw[←k,←hn]
   ·omega
def rendL:Option Tok→List Tok→List Int
 |_,[]=>[]
 |p,t::r=>(if pX p t=true then[32] else[])++(txtL t++rendL (some t) r)
end Go.Proofs.YtnhbidpdadkcjaaGreatDoor.Ex
namespace Go.Proofs.YtnhbidpdadkcjaaGreatDoor.Ex
theorem kL (g:Int→Bool):∀l:List UInt8,mW g l=br g (l.map fun b=>(b.toNat:Int))
 |[]=>rfl
 |c::l=>by rw[map_cons,iU,←kL g l];unfold mW;rw[List.takeWhile_cons];split<;>simp[Nat.add_comm, *]
theorem nameB_nameL (s:ByteArray):uj s=da (aa s):=by
 have hl:(aa s).length=s.size:=ae s;rcases Nat.eq_zero_or_pos s.size with h | h
 ·rw[←vv h];unfold da;rw[hl,h];rfl
 ·rw[pF h];unfold da;rw[hl,kL]
  have h0:bAt (aa s) 0=(s[0].toNat:Int):=by
   have:=dz h;rw[←gE];unfold ab;rw[List.getD_eq_getElem?_getD,show Int.toNat 0=0 from rfl,List.getElem?_eq_getElem (by simpa using h)];rfl
  rw[h0];simp[h,aa];rfl
set_option maxRecDepth 100000
abbrev plusS:ByteArray:=⟨#[43]⟩
abbrev minusS:ByteArray:=⟨#[45]⟩
def numT (n:Int):Tok:=⟨2,emp,n,0⟩
def nameT (s:ByteArray):Tok:=⟨1,s,0,0⟩
def ax (s:ByteArray):Tok:=⟨4,s,0,0⟩
theorem check_num (n:Int):cP (numT n)=0:=by unfold cP isT numT;simp
theorem check_name {s:ByteArray}(h:bj s=true):cP (nameT s)=0:=by
 unfold bj at h;rw[and_eq_true,nameB_nameL]at h;unfold cP isT nameT;simp[h.2]
theorem txt_num {n:Int}(h:0≤n):txtL (numT n)=dL n:=by
 unfold txtL textT dL;rw[if_pos (check_num n)];rfl
theorem txt_name {s:ByteArray}(h:bj s=true):txtL (nameT s)=aa s:=by
 unfold txtL textT;rw[if_pos (check_name h)];rfl
theorem txt_sgn {s:ByteArray}(h:cP (ax s)=0):txtL (ax s)=aa s:=by
 unfold txtL textT;rw[if_pos h];rfl
theorem Kn (t:Tok)(s:ByteArray)(h:s≠⟨#[47]⟩):apartF t (ax s)=false:=by
 unfold apartF pi pY ax;simp[h]
theorem MK (t:Tok)(s:ByteArray)(h:s≠⟨#[47]⟩):apartF (ax s) t=false:=by
 unfold apartF pi pY ax;simp[h]
theorem sep_sgn (t:Tok){s:ByteArray}(h:s≠⟨#[47]⟩):pX (some t) (ax s)=false:=Kn t s h
theorem sgn_sep (t:Tok){s:ByteArray}(h:s≠⟨#[47]⟩):pX (some (ax s)) t=false:=MK t s h
theorem minus_ne:minusS≠⟨#[47]⟩:=by decide
theorem plus_ne:plusS≠⟨#[47]⟩:=by decide
theorem ic (p:Option Tok)(t:Tok)(r:List Tok)(h:pX p t=false):rendL p (t::r)=txtL t++rendL (some t) r:=by
 rw[rendL,h];rfl
theorem Jy:∀(f n:Nat),n<10 ^ (f+1)→decG (f+1) n=Lib.decDigits n
 |0,n,h=>by
  have h10:n<10:=by simpa using h
  rw[decG,if_pos h10,Lib.decDigits,dif_pos h10]
 |f+1,n,h=>by
  rw[decG,Lib.decDigits];by_cases h10:n<10
  ·rw[if_pos h10,dif_pos h10]
  ·rw[if_neg h10,dif_neg h10,Jy f (n / 10) (by rw[Nat.pow_succ]at h;omega)]
theorem decS_dL {n:Nat}(h:n<18446744073709551616):aa (decS n)=dL (n:Int):=by
 unfold dL uZ decS;rw[Jy 19 n (by omega),Int.toNat_natCast]
def tailT (a:Int):List Tok:=if a=0 then[] else if a<0 then[ax minusS,numT (-a)] else[ax plusS,numT a]
def midT (m:ByteArray):List Tok:=if m=emp then[] else[ax minusS,nameT m]
def valT (v:Val):List Tok :=
 if v.plus=emp∧v.minus=emp then(if v.add<0 then[ax minusS,numT (-v.add)] else[numT v.add])
 else(if v.plus=emp then numT 0 else nameT v.plus)::(midT v.minus++tailT v.add)
structure ValOk (v:Val):Prop where
 p:v.plus=emp∨bj v.plus=true
 m:v.minus=emp∨bj v.minus=true
 ne:v.plus=v.minus→v.plus=emp
 lo : -9223372036854775808≤v.add
 hi:v.add≤9223372036854775807
theorem print_ok {v:Val}{s:ByteArray}(h:printF v=(s,0))(lo : -9223372036854775808≤v.add)(hi:v.add≤9223372036854775807):ValOk v:=by
 unfold printF at h;split at h
 ·injection h with h1 h2;cases h2
 ·rename_i c1;split at h
  ·injection h with h1 h2;cases h2
  ·rename_i c2;refine⟨?_,?_,fun e=>?_,lo,hi⟩
   ·by_cases e:v.plus=emp
    ·exact .inl e
    ·right;cases hs:bj v.plus with
     |true=>rfl
     |false=>exact absurd (.inl ⟨e,hs⟩) c1
   ·by_cases e:v.minus=emp
    ·exact .inl e
    ·right;cases hs:bj v.minus with
     |true=>rfl
     |false=>exact absurd (.inr ⟨e,hs⟩) c1
   ·by_cases e2:v.plus=emp
    ·exact e2
    ·exact absurd ⟨e,e2⟩ c2
theorem sgnM:cP (ax minusS)=0:=by decide +kernel
theorem sgnP:cP (ax plusS)=0:=by decide +kernel
theorem B7 {a:Int}(lo : -9223372036854775808≤a)(hi:a≤9223372036854775807)(t:Tok):rendL (some t) (tailT a)=if a=0 then[] else aa (signS a):=by
 unfold tailT signS;by_cases h0:a=0
 ·rw[if_pos h0,if_pos h0];rfl
 rw[if_neg h0,if_neg h0];by_cases h:a<0
 ·rw[if_pos h,if_pos h,ic _ _ _ (sep_sgn _ minus_ne),ic _ _ _ (sgn_sep _ minus_ne),txt_sgn sgnM,txt_num (by omega),eF,decS_dL (by omega),Int.toNat_of_nonneg (by omega),rendL,append_nil]
 ·rw[if_neg h,if_neg h,ic _ _ _ (sep_sgn _ plus_ne),ic _ _ _ (sgn_sep _ plus_ne),txt_sgn sgnP,txt_num (by omega),eF,decS_dL (by omega),Int.toNat_of_nonneg (by omega),rendL,append_nil]
theorem val_rend {v:Val}{s:ByteArray}(h:printF v=(s,0))(hv:ValOk v):aa s=rendL none (valT v):=by
 obtain⟨hp,hm,hne,lo,hi⟩:=hv;unfold printF at h;split at h
 ·injection h with h1 h2;cases h2
 split at h
 ·injection h with h1 h2;cases h2
 unfold valT;split at h
 ·rename_i hpl;rw[if_pos hpl];split at h
  ·rename_i hn;rw[if_pos hn];injection h with h1 h2;have:=B7 lo hi (numT 0);unfold tailT at this;rw[nG,if_pos hn,nG,h1]at this;rw[←this,ic _ _ _ (sep_sgn _ minus_ne),ic none _ _ rfl]
  ·rename_i hn;rw[if_neg hn];injection h with h1 h2;rw[ic none _ _ rfl,txt_num (by omega),rendL,append_nil,←h1,decS_dL (by omega),Int.toNat_of_nonneg (by omega)]
 ·rename_i hpl;rw[if_neg hpl];injection h with h1 h2
  have hb:∀x:List Tok,rendL none ((if v.plus=emp then numT 0 else nameT v.plus)::x)=aa (if v.plus=emp then⟨#[48]⟩ else v.plus)++rendL (some (if v.plus=emp then numT 0 else nameT v.plus)) x:=by
   intro x;rw[ic none _ _ rfl];congr 1;by_cases e:v.plus=emp
   ·rw[if_pos e,if_pos e,txt_num (by decide)]
    decide +kernel
   ·rw[if_neg e,if_neg e,txt_name (hp.resolve_left e)]
  rw[hb,←h1];obtain⟨B,hB⟩:∃B,(if v.plus=emp then numT 0 else nameT v.plus)=B:=⟨_,rfl⟩;rw[hB];obtain⟨O,hO⟩:∃O,(if v.plus=emp then(⟨#[48]⟩:ByteArray) else v.plus)=O:=⟨_,rfl⟩;simp only[hO]
  have key:∀(O2:ByteArray) (t:Tok),aa (if v.add=0 then O2 else O2++signS v.add)=aa O2++rendL (some t) (tailT v.add):=by
   intro O2 t;rw[B7 lo hi];split
   ·rw[append_nil]
   ·rw[eF]
  by_cases em:v.minus=emp
  ·simp only[if_pos em];unfold midT;rw[if_pos em,nil_append];exact key O B
  ·simp only[if_neg em];have hsm:=hm.resolve_left em;unfold midT;rw[if_neg em,cons_append,cons_append,nil_append,ic _ _ _ (sep_sgn _ minus_ne),ic _ _ _ (sgn_sep _ minus_ne),txt_sgn sgnM,txt_name hsm,key _ (nameT v.minus),eF,eF];simp only[append_assoc]
theorem val_toks {v:Val}(hv:ValOk v):∀u∈valT v,cP u=0∧0≤u.n∧u.n<18446744073709551616:=by
 obtain⟨hp,hm,hne,lo,hi⟩:=hv
 have hs:∀u,u=ax minusS∨u=ax plusS→cP u=0∧0≤u.n∧u.n<18446744073709551616:=by
  rintro u (rfl | rfl)
  ·exact⟨sgnM,by decide,by decide⟩
  ·exact⟨sgnP,by decide,by decide⟩
 have hnum:∀n:Int,0≤n→n<18446744073709551616→cP (numT n)=0∧0≤(numT n).n∧(numT n).n<18446744073709551616:=fun n h0 h1=>⟨check_num n,h0,h1⟩;intro u hu;unfold valT at hu;split at hu
 ·split at hu
  ·simp only[mem_cons,not_mem_nil,or_false]at hu;rcases hu with rfl | rfl
   ·exact hs _ (.inl rfl)
   ·exact hnum _ (by omega) (by omega)
  ·simp only[mem_cons,not_mem_nil,or_false]at hu;subst hu;exact hnum _ (by omega) (by omega)
 ·rw[mem_cons,mem_append]at hu;rcases hu with rfl | hu | hu
  ·split
   ·exact hnum _ (by omega) (by omega)
   ·rename_i e;exact⟨check_name (hp.resolve_left e),Int.le_refl _,by show(0:Int)<_;decide⟩
  ·unfold midT at hu;split at hu
   ·simp at hu
   ·rename_i e;simp only[mem_cons,not_mem_nil,or_false]at hu;rcases hu with rfl | rfl
    ·exact hs _ (.inl rfl)
    ·exact⟨check_name (hm.resolve_left e),Int.le_refl _,by show(0:Int)<_;decide⟩
  ·unfold tailT at hu;split at hu
   ·simp at hu
   ·split at hu
    ·simp only[mem_cons,not_mem_nil,or_false]at hu;rcases hu with rfl | rfl
     ·exact hs _ (.inl rfl)
     ·exact hnum _ (by omega) (by omega)
    ·simp only[mem_cons,not_mem_nil,or_false]at hu;rcases hu with rfl | rfl
     ·exact hs _ (.inr rfl)
     ·exact hnum _ (by omega) (by omega)
theorem bare_valT (v:Val):(valT v).map cJ=valT v:=by
 unfold valT midT tailT
 repeat' split
 all_goals rfl
def Dx (v:Val):List Term :=
 if v.plus=emp∧v.minus=emp then(if v.add<0 then[⟨1,wrap64 (-v.add),emp⟩,⟨3,0,emp⟩] else[⟨1,wrap64 v.add,emp⟩])
 else(if v.plus=emp then⟨1,0,emp⟩ else⟨2,0,v.plus⟩)::((if v.minus=emp then[] else[⟨2,0,v.minus⟩,⟨9,0,emp⟩])++(if v.add=0 then[] else if v.add<0 then[⟨1,wrap64 (-v.add),emp⟩,⟨9,0,emp⟩] else[⟨1,wrap64 v.add,emp⟩,⟨8,0,emp⟩]))
section
variable {l:List Tok}{N p:Nat}{u:Tok}
theorem tj {n:Int}(h:l[p]? = some u)(hb:cJ u=numT n):Reads (aQ l (N+1)) p (p+1) 0 [⟨1,wrap64 n,emp⟩]:=by
 have e1:u.kind=2:=congrArg Tok.kind hb;have e2:u.n=n:=congrArg Tok.n hb;have:=Mq (N:=N) h e1;rw[e2]at this;exact this
theorem xJ {s:ByteArray}(h:l[p]? = some u)(hb:cJ u=nameT s):Reads (aQ l (N+1)) p (p+1) 0 [⟨2,0,s⟩]:=by
 have e1:u.kind=1:=congrArg Tok.kind hb;have e2:u.text=s:=congrArg Tok.text hb;have:=Iw (N:=N) h e1;rw[e2]at this;exact this
end
theorem yN {l:List Tok}{q:Nat}{k:Int}(hk:k=8∨k=9)(h:nxt l q=eQ k):bO (nxt l q) [5,6,7] 0=0∧bO (nxt l q) [8,9] 0=k:=by
 rw[h];rcases hk with rfl | rfl<;>decide +kernel
theorem po {l:List Tok}{read:PS→PR}{q:Nat}{k:Int}{b c:List Term}{z:Nat}(hk:k=8∨k=9)(hn:nxt l q=eQ k)(hr:Reads read (q+1) (q+2) 0 b)(hc:Chn l read [8,9] (q+2) z 0 c):Chn l read [8,9] q z 0 (b++⟨k,0,emp⟩::c) :=
 .cons (yN hk hn).2 (by omega) hr (by omega) hc (Int.le_refl _) (Int.le_refl _)
theorem Nj {a:Int}(lo : -9223372036854775808≤a)(hi:a≤9223372036854775807):wrap64 a=a:=by unfold wrap64;omega
theorem Tt {l:List Tok}{N p:Nat}{u:Tok}{v:Val}(h:l[p]? = some u)(hb:cJ u=if v.plus=emp then numT 0 else nameT v.plus):Reads (aQ l (N+1)) p (p+1) 0 [if v.plus=emp then⟨1,0,emp⟩ else⟨2,0,v.plus⟩]:=by
 by_cases e:v.plus=emp
 ·rw[if_pos e]at hb ⊢;have:=tj (N:=N) (n:=0) h hb;rw[show wrap64 0=0 from by decide +kernel]at this;exact this
 ·rw[if_neg e]at hb ⊢;exact xJ h hb
theorem Cw (s:ByteArray):s++emp=s:=ByteArray.append_empty
theorem CK (s:ByteArray):emp++s=s:=ByteArray.empty_append
theorem U3 {p m:ByteArray}(h:p=m→p=emp)(hm:m≠emp):nA ⟨0,p,emp⟩ (uk ⟨0,m,emp⟩)=(⟨0,p,m⟩,0):=by
 have hpm:¬p=m:=fun e=>hm (e▸h e)
 have c1:bn ⟨0,p,emp⟩=⟨0,p,emp⟩:=by
  unfold bn;simp only;split
  ·rename_i e;rw[e]
  ·rfl
 have c2:bn (uk ⟨0,m,emp⟩)=⟨0,emp,m⟩:=by
  unfold bn uk;simp only;rw[if_neg (fun e=>hm e.symm),show wrap64 (-0)=0 from by decide +kernel]
 unfold nA;rw[c1,c2];unfold eB;simp only[if_neg hpm,if_true];rw[if_neg (by simp)];rw[Cw,CK,show wrap64 (0+0)=0 from by decide +kernel]
theorem Ju {p m:ByteArray}{n:Int}(h:p=m→p=emp):nA ⟨0,p,m⟩ ⟨n,emp,emp⟩=(⟨wrap64 n,p,m⟩,0):=by
 have c1:bn ⟨0,p,m⟩=⟨0,p,m⟩:=by
  unfold bn;simp only;split
  ·rename_i e;rw[←e,h e]
  ·rfl
 have c2:bn ⟨n,emp,emp⟩=⟨n,emp,emp⟩:=by unfold bn;simp
 unfold nA;rw[c1,c2]
 have mt:∀x:ByteArray,eB x emp=(x,emp):=by
  intro x;unfold eB;split
  ·rename_i e;rw[e]
  ·rfl
 simp only[mt];rw[if_neg (by simp),Cw,Cw,Int.zero_add]
theorem tk:bc 1=0∧bc 2=0∧bc 3=1∧bc 8=2∧bc 9=2:=by decide
theorem pu {vs:List Val}{k n:Int}{s:ByteArray}{r:List Term}(hk:k=1∨k=2):eK vs (⟨k,n,s⟩::r)=eK (vs++[⟨n,s,emp⟩]) r :=
 yE (t:=⟨k,n,s⟩) (by show bc k=0;rcases hk with rfl | rfl<;>decide)
theorem G2 {x y v:Val}{k:Int}{r:List Term}(hk:k=8∨k=9)(h:cE k x y=(v,0)):eK [x,y] (⟨k,0,emp⟩::r)=eK [v] r:=by
 have:=yF (vs:=[x,y]) (t:=⟨k,0,emp⟩) (r:=r) (v:=v) (by rcases hk with rfl | rfl<;>decide) h;rw[this];have e:bc k=2:=by rcases hk with rfl | rfl<;>decide
 simp[e]
theorem val_eval {v:Val}(hv:ValOk v):evalAll (Dx v)=(v,0):=by
 obtain⟨a,p,m⟩:=v;obtain⟨hp,hm,hne,lo,hi⟩:=hv;simp only at hp hm hne lo hi;have w1:=Nj lo hi;have w2:a<0→wrap64 (-wrap64 (-a))=a:=by intro h;unfold wrap64;omega
 have t1:∀n:Int,gA ⟨1,n,emp⟩=true:=fun n=>by simp[gA]
 have t2:∀s:ByteArray,bj s=true→gA ⟨2,0,s⟩=true:=fun s h=>by simp[gA,h]
 have t3:gA ⟨3,0,emp⟩=true:=by decide +kernel
 have t8:gA ⟨8,0,emp⟩=true:=by decide +kernel
 have t9:gA ⟨9,0,emp⟩=true:=by decide +kernel
 obtain⟨k1,k2,k3,k8,k9⟩:=tk;unfold Dx;simp only;by_cases c:p=emp∧m=emp
 ·rw[if_pos c];obtain⟨rfl,rfl⟩:=c;by_cases c2:a<0
  ·rw[if_pos c2];have hc:dQ [⟨1,wrap64 (-a),emp⟩,⟨3,0,emp⟩]=0:=by simp[dQ,cH,t1,t3,k1,k3]
   unfold evalAll;rw[if_pos hc,pu (.inl rfl)];have:=yF (vs:=[⟨wrap64 (-a),emp,emp⟩]) (t:=⟨3,0,emp⟩) (r:=[]) (v:=⟨a,emp,emp⟩) (by decide) (by show cE 3 _ ⟨wrap64 (-a),emp,emp⟩=_;unfold cE uk;rw[if_pos rfl];simp only[w2 c2]);rw[nil_append,this,eK];rfl
  ·rw[if_neg c2];have hc:dQ [⟨1,wrap64 a,emp⟩]=0:=by simp[dQ,cH,t1,k1]
   unfold evalAll;rw[if_pos hc,pu (.inl rfl),eK,w1];rfl
 ·rw[if_neg c];obtain⟨b,hb⟩:∃b:Term,(if p=emp then⟨1,0,emp⟩ else⟨2,0,p⟩)=b:=⟨_,rfl⟩
  have bt:gA b=true:=by
   rw[←hb];split
   ·exact t1 0
   ·rename_i e;exact t2 p (hp.resolve_left e)
  have bk:bc b.kind=0:=by
   rw[←hb];split
   ·exact k1
   ·exact k2
  have be:∀(r:List Term),eK [] (b::r)=eK [⟨0,p,emp⟩] r:=by
   intro r;rw[←hb];by_cases e:p=emp
   ·rw[if_pos e,pu (.inl rfl),e];rfl
   ·rw[if_neg e,pu (.inr rfl)];rfl
  rw[hb]
  have sub:m≠emp→∀r,eK [⟨0,p,emp⟩] (⟨2,0,m⟩::⟨9,0,emp⟩::r)=eK [⟨0,p,m⟩] r:=by
   intro em r;rw[pu (.inr rfl)];exact G2 (.inr rfl) (by rw[show cE 9 ⟨0,p,emp⟩ ⟨0,m,emp⟩=nA ⟨0,p,emp⟩ (uk ⟨0,m,emp⟩) from by simp[cE]];exact U3 hne em)
  have neg:a<0→∀(m:ByteArray) r,(p=m→p=emp)→eK [⟨0,p,m⟩] (⟨1,wrap64 (-a),emp⟩::⟨9,0,emp⟩::r)=eK [⟨a,p,m⟩] r:=by
   intro ha m r hne;rw[pu (.inl rfl)];refine G2 (.inr rfl) ?_;rw[show cE 9 ⟨0,p,m⟩ ⟨wrap64 (-a),emp,emp⟩=nA ⟨0,p,m⟩ (uk ⟨wrap64 (-a),emp,emp⟩) from by simp[cE]];rw[show uk ⟨wrap64 (-a),emp,emp⟩=⟨a,emp,emp⟩ from by unfold uk;simp only[w2 ha],Ju hne,w1]
  have pos:∀(m:ByteArray) r,(p=m→p=emp)→eK [⟨0,p,m⟩] (⟨1,wrap64 a,emp⟩::⟨8,0,emp⟩::r)=eK [⟨a,p,m⟩] r:=by
   intro m r hne;rw[pu (.inl rfl)];refine G2 (.inl rfl) ?_;rw[show cE 8 ⟨0,p,m⟩ ⟨wrap64 a,emp,emp⟩=nA ⟨0,p,m⟩ ⟨wrap64 a,emp,emp⟩ from by simp[cE],w1,Ju hne,w1]
  have fin:eK [⟨a,p,m⟩] []=(⟨a,p,m⟩,0):=rfl;unfold evalAll;by_cases em:m=emp
  ·rw[if_pos em,nil_append];have hpe:p=m→p=emp:=hne;subst em;by_cases e0:a=0
   ·rw[if_pos e0];subst e0;rw[if_pos (by simp[dQ,cH,bt,bk]),be];rfl
   ·rw[if_neg e0];by_cases en:a<0
    ·rw[if_pos en,if_pos (by simp[dQ,cH,bt,bk,t1,t9,k1,k9]),be,neg en emp _ hne];rfl
    ·rw[if_neg en,if_pos (by simp[dQ,cH,bt,bk,t1,t8,k1,k8]),be,pos emp _ hne];rfl
  ·rw[if_neg em];have tm:=t2 m (hm.resolve_left em);by_cases e0:a=0
   ·rw[if_pos e0];subst e0;rw[if_pos (by simp[dQ,cH,bt,bk,tm,t9,k2,k9]),be,append_nil,sub em];rfl
   ·rw[if_neg e0];by_cases en:a<0
    ·rw[if_pos en,if_pos (by simp[dQ,cH,bt,bk,tm,t1,t9,k1,k2,k9]),be,cons_append,cons_append,nil_append,sub em,neg en m _ hne];rfl
    ·rw[if_neg en,if_pos (by simp[dQ,cH,bt,bk,tm,t1,t8,t9,k1,k2,k8,k9]),be,cons_append,cons_append,nil_append,sub em,pos m _ hne];rfl
end Go.Proofs.YtnhbidpdadkcjaaGreatDoor.Ex
set_option maxRecDepth 100000
set_option maxHeartbeats 8000000
namespace Go.Proofs.YtnhbidpdadkcjaaGreatDoor
abbrev RdR (α:Type):=Except Int (α×List Tok)
def du:ByteArray:=⟨#[93]⟩
def CD:ByteArray:=⟨#[91]⟩
def az:ByteArray:=⟨#[44]⟩
def aC:ByteArray:=⟨#[58]⟩
def tJ:ByteArray:=⟨#[33]⟩
def my:ByteArray:=⟨#[108,111,49,50]⟩
def atF (l:List Tok)(k:Int)(n:Nat):ByteArray:=match l[n]? with
 |some t=>if t.kind=k then t.text else emp
 |none=>emp
def ba (s:ByteArray)(l:List Tok):Bool×List Tok:=if atF l 4 0=s then(true,l.drop 1) else(false,l)
def mustR (s:ByteArray)(l:List Tok):Except Int (List Tok):=if atF l 4 0=s then .ok (l.drop 1) else .error 100
def valueR (l:List Tok):RdR Val:=match Ex.parseF l with
 |.error e=>.error e
 |.ok s=>if(Ex.evalAll s.ts).2=0 then .ok ((Ex.evalAll s.ts).1,l.drop s.at_) else .error (Ex.evalAll s.ts).2
def countR (l:List Tok):RdR Int:=match mustR aS l with
 |.error e=>.error e
 |.ok l=>match valueR l with
  |.error e=>.error e
  |.ok (v,l)=>if(v.plus=emp∧v.minus=emp)∧0≤v.add∧v.add≤63 then .ok (v.add,l) else .error 100
def changedR (o:OpV)(most none:Int)(l:List Tok):RdR OpV :=
 if ¬atF l 4 0=az∨¬(ag 3 3 (atF l 1 1)).2=0∨most<(ag 3 3 (atF l 1 1)).1 then .ok (o,l)
 else if(ag 3 3 (atF l 1 1)).1≤4∨atF (l.drop 2) 4 0=aS then match countR (l.drop 2) with
  |.error e=>.error e
  |.ok (k,l')=>.ok ({ o with md:=(ag 3 3 (atF l 1 1)).1,amt:=k },l')
 else .ok ({ o with md:=(ag 3 3 (atF l 1 1)).1,amt:=none },l.drop 2)
def loR (l:List Tok):Except Int (Bool×List Tok) :=
 if ¬atF l 4 0=aC then .ok (false,l) else if ¬atF l 1 1=my∨¬atF l 4 2=aC then .error 100 else .ok (true,l.drop 3)
def gY (l:List Tok):gR×Bool:=if(dh 3 (atF l 1 0)).2=0 then((dh 3 (atF l 1 0)).1,true) else(r0,false)
def an (l:List Tok):(gR×Bool)×List Tok:=(gY l,if(gY l).2=true then l.drop 1 else l)
def lK (o:OpV)(v:Val):OpV:={ o with add:=v.add,plus:=v.plus,minus:=v.minus }
def lC (r:gR):OpV:=⟨5,r,r0,0,0,0,0,emp,emp,false,0⟩
def tW (o:OpV)(l:List Tok):RdR OpV:=match changedR o 12 (-1) l with
 |.error e=>.error e
 |.ok (o,l)=>if eA o=false then .error 100 else match mustR du l with
  |.error e=>.error e
  |.ok l=>.ok (o,l)
def vt (o:OpV)(l:List Tok):RdR OpV:=match valueR l with
 |.error e=>.error e
 |.ok (v,l)=>match mustR du l with
  |.error e=>.error e
  |.ok l=>.ok ({ lK o v with lo:=true },l)
def vF (o:OpV)(l:List Tok):RdR OpV:=match mustR aS l with
 |.error e=>.error e
 |.ok l=>match valueR l with
  |.error e=>.error e
  |.ok (v,l)=>match mustR du l with
   |.error e=>.error e
   |.ok l=>if(ba tJ l).1=true then .ok ({ lK o v with mode:=1 },(ba tJ l).2) else .ok (lK o v,l)
def fK (o:OpV)(l:List Tok):RdR OpV:=match mustR az l with
 |.error e=>.error e
 |.ok l=>if(gY l).2=true then tW { o with mode:=3,m:=(gY l).1,md:=1,amt := -1 } (l.drop 1) else match loR l with
  |.error e=>.error e
  |.ok (b,l)=>if b=true then vt o l else vF o l
def nl (o:OpV)(l:List Tok):RdR OpV:=if atF l 4 0=az∧atF l 4 1=aS then match valueR (l.drop 2) with
  |.error e=>.error e
  |.ok (v,l)=>.ok ({ lK o v with mode:=2 },l)
 else .ok (o,l)
def fm (l:List Tok):RdR OpV :=
 if fj (lC (gY l).1)=false then .error 100
 else if(ba du (an l).2).1=true then nl (lC (gY l).1) ((ba du (an l).2).2)
 else fK (lC (gY l).1) (an l).2
def jE (k n:Int):OpV:=⟨k,r0,r0,0,0,n,0,emp,emp,false,0⟩
def rsvdF (s:ByteArray):List (Int×Int)→Option OpV
 |[]=>none
 |(kd,k)::r=>if(ag 3 kd s).2=0 then some (jE k (ag 3 kd s).1) else rsvdF s r
def km:List (Int×Int):=[(2,4),(4,7),(6,6),(7,8),(8,9)]
def cK (s:ByteArray)(l:List Tok):RdR OpV:=match rsvdF s km with
 |some o=>.ok (o,l.drop 1)
 |none=>.error 100
def iP (v:Val)(lo:Bool):OpV:=⟨2,r0,r0,0,0,0,v.add,v.plus,v.minus,lo,0⟩
def toV (v:Val):OpV:=⟨3,r0,r0,0,0,0,v.add,v.plus,v.minus,false,0⟩
def nj (l:List Tok):RdR OpV:=match valueR l with
 |.error e=>.error e
 |.ok (v,l)=>changedR (iP v false) 1 0 l
def operR (l:List Tok):RdR OpV :=
 if(gY l).2=true then changedR ⟨1,(gY l).1,r0,0,0,0,0,emp,emp,false,0⟩ 12 0 (l.drop 1)
 else if atF l 4 0=CD then fm (l.drop 1)
 else if atF l 4 0=aS then nj (l.drop 1)
 else match loR l with
  |.error e=>.error e
  |.ok (true,l)=>(match valueR l with
   |.error e=>.error e
   |.ok (v,l)=>.ok (iP v true,l))
  |.ok (false,l) =>
   if ¬atF l 1 0=emp∧ff 3 (atF l 1 0)=true then cK (atF l 1 0) l
   else match valueR l with
    |.error e=>.error e
    |.ok (v,l)=>.ok (if v.plus=emp∧v.minus=emp then iP v false else toV v,l)
def sn (out:List OpV)(o:OpV):Bool:=match out.getLast? with
 |some q=>fI q o
 |none=>false
def stepR (out:List OpV)(l:List Tok):RdR (List OpV) :=
 match (if out=[] then .ok l else mustR az l) with
 |.error e=>.error e
 |.ok l=>if out.length=8 then .error 3 else match operR l with
  |.error e=>.error e
  |.ok (o,l)=>if ¬fh o=0 then .error (fh o) else if sn out o=true then .error 100 else .ok (out++[o],l)
def fo:Nat→List OpV→List Tok→Except Int (List OpV)
 |_,out,[]=>.ok out
 |0,_,_=>.error 100
 |N+1,out,l=>match stepR out l with
  |.error e=>.error e
  |.ok (out,l)=>fo N out l
def listF (l:List Tok):Except Int (List OpV):=fo l.length [] l
end Go.Proofs.YtnhbidpdadkcjaaGreatDoor
namespace Go.Proofs.YtnhbidpdadkcjaaGreatDoor
structure RdOk (l:List Tok):Prop where
 named:Ex.Named l
 few:l.length≤1000000
theorem RdOk.drop {l:List Tok}(h:RdOk l)(n:Nat):RdOk (l.drop n) :=
 ⟨fun t ht=>h.named t (List.mem_of_mem_drop ht),by rw[length_drop];have:=h.few;omega⟩
theorem x6 {l:List Tok}(h:RdOk l)(n:Nat):(atF l 1 n).size≤512:=by
 unfold atF;split
 ·rename_i t ht;split
  ·rename_i hk;have h1:=h.named t (List.mem_of_getElem? ht) hk;unfold bj at h1;simp only[and_eq_true,decide_eq_true_eq]at h1;exact h1.1
  ·decide
 ·decide
theorem jp {l:List Tok}{k:Int}{n:Nat}(h:¬atF l k n=emp):n<l.length:=by
 unfold atF at h;split at h
 ·rename_i t ht;exact(List.getElem?_eq_some_iff.1 ht).1
 ·exact absurd rfl h
theorem NN {l:List Tok}{k:Int}{n m:Nat}:atF (l.drop m) k n=atF l k (m+n):=by
 unfold atF;rw[List.getElem?_drop]
theorem VP {v:Val}(h:Ex.GoodV v):iQ v:=⟨by have:=(Ex.goodSize h).1;unfold maxLen;omega,by have:=(Ex.goodSize h).2;unfold maxLen;omega,h.lo,h.hi⟩
theorem CR {s:Ex.PS}(h1:dQ s.ts=0)(h2:∀t∈s.ts,gA t=true)(h3:Ex.Rgs s.ts):Ex.GoodV (Ex.evalAll s.ts).1:=by
 unfold Ex.evalAll;rw[if_pos h1];exact Ex.goodEval s.ts [] (fun v hv=>by simp at hv) h2 h3
theorem xf {l:List Tok}(h:RdOk l):match valueR l with
  |.ok (v,r)=>Ex.GoodV v∧∃n,1≤n∧n≤l.length∧r=l.drop n
  |.error e=>e≠0:=by
 have h1:=Ex.parseF_nice h.named;unfold valueR;cases hp:Ex.parseF l with
 |error e=>rw[hp]at h1;exact h1
 |ok s =>
  rw[hp]at h1;obtain⟨g1,g2,g3,g4,g5⟩:=h1;simp only;by_cases h0:(Ex.evalAll s.ts).2=0
  ·rw[if_pos h0];exact⟨CR g1 g2 (Ex.parseF_keep hp),s.at_,g3,g4,rfl⟩
  ·rw[if_neg h0];exact h0
theorem gD {l r:List Tok}{v:Val}(h:RdOk l)(e:valueR l=.ok (v,r)):Ex.GoodV v∧RdOk r∧r.length<l.length:=by
 have h1:=xf h;rw[e]at h1;obtain⟨g,n,n1,n2,rfl⟩:=h1;exact⟨g,h.drop n,by rw[length_drop];omega⟩
theorem iI {l:List Tok}{x:Int}(h:RdOk l)(e:valueR l=.error x):x≠0:=by
 have h1:=xf h;rw[e]at h1;exact h1
theorem eX {s:ByteArray}{l r:List Tok}(hs:¬s=emp)(h:RdOk l)(e:mustR s l=.ok r):RdOk r∧r.length<l.length∧atF l 4 0=s∧r=l.drop 1:=by
 unfold mustR at e;split at e
 ·rename_i hx;injection e with e;subst e;have:=jp (l:=l) (k:=4) (n:=0) (by rw[hx];exact hs);exact⟨h.drop 1,by rw[length_drop];omega,hx,rfl⟩
 ·cases e
theorem kG {s:ByteArray}{l:List Tok}{x:Int}(e:mustR s l=.error x):x=100:=by
 unfold mustR at e;split at e
 ·cases e
 ·injection e with e;exact e.symm
theorem KG {l r:List Tok}{k:Int}(h:RdOk l)(e:countR l=.ok (k,r)):(0≤k∧k≤63)∧RdOk r∧r.length<l.length:=by
 unfold countR at e;split at e
 ·cases e
 ·rename_i l1 h1;obtain⟨g1,g2,-,-⟩:=eX (by decide) h h1;split at e
  ·cases e
  ·rename_i v l2 h2;obtain⟨g3,g4,g5⟩:=gD g1 h2;split at e
   ·rename_i hc;injection e with e;injection e with e1 e2;subst e1 e2;exact⟨⟨hc.2.1,hc.2.2⟩,g4,by omega⟩
   ·cases e
theorem GM {l:List Tok}{x:Int}(h:RdOk l)(e:countR l=.error x):x≠0:=by
 unfold countR at e;split at e
 ·rename_i y h1;injection e with e;have:=kG h1;omega
 ·rename_i l1 h1;obtain⟨g1,g2,-,-⟩:=eX (by decide) h h1;split at e
  ·rename_i y h2;injection e with e;subst e;exact iI g1 h2
  ·split at e
   ·cases e
   ·injection e with e;omega
end Go.Proofs.YtnhbidpdadkcjaaGreatDoor
namespace Go.Proofs.YtnhbidpdadkcjaaGreatDoor
theorem lS {o:OpV}{v:Val}(h:Ex.GoodV v)(h1:o.add=v.add)(h2:o.plus=v.plus)(h3:o.minus=v.minus):okO o:=by
 have h4:=Ex.goodSize h;refine⟨⟨by rw[h2];omega,by rw[h3];omega⟩,by rw[h1];exact h.lo,by rw[h1];exact h.hi⟩
theorem ur {o:OpV}(h1:o.add=0)(h2:o.plus=emp)(h3:o.minus=emp):okO o:=lS Ex.goodZero h1 h2 h3
theorem uq {o p:OpV}(h:okO p)(h1:o.add=p.add)(h2:o.plus=p.plus)(h3:o.minus=p.minus):okO o:=by
 unfold okO at *
 rw[h1,h2,h3];exact h
theorem qu {o o':OpV}{most nn:Int}{l r:List Tok}(h:RdOk l)(e:changedR o most nn l=.ok (o',r)):RdOk r∧r.length≤l.length∧∃a b,o'={ o with md:=a,amt:=b }:=by
 unfold changedR at e;split at e
 ·injection e with e;injection e with e1 e2;subst e1 e2;exact⟨h,Nat.le_refl _,o.md,o.amt,rfl⟩
 ·split at e
  ·split at e
   ·cases e
   ·rename_i k l' hc;injection e with e;injection e with e1 e2;subst e1 e2;obtain⟨-,g1,g2⟩:=KG (h.drop 2) hc;rw[length_drop]at g2;exact⟨g1,by omega,_,_,rfl⟩
  ·injection e with e;injection e with e1 e2;subst e1 e2;exact⟨h.drop 2,by rw[length_drop];omega,_,_,rfl⟩
theorem tM {o:OpV}{most nn:Int}{l:List Tok}{x:Int}(h:RdOk l)(e:changedR o most nn l=.error x):x≠0:=by
 unfold changedR at e;split at e
 ·cases e
 ·split at e
  ·split at e
   ·rename_i y hc;injection e with e;subst e;exact GM (h.drop 2) hc
   ·cases e
  ·cases e
theorem EP {l r:List Tok}{b:Bool}(h:RdOk l)(e:loR l=.ok (b,r)):RdOk r∧r.length≤l.length:=by
 unfold loR at e;split at e
 ·injection e with e;injection e with e1 e2;subst e2;exact⟨h,Nat.le_refl _⟩
 ·split at e
  ·cases e
  ·injection e with e;injection e with e1 e2;subst e2;exact⟨h.drop 3,by rw[length_drop];omega⟩
theorem JN {l:List Tok}{x:Int}(e:loR l=.error x):x≠0:=by
 unfold loR at e;split at e
 ·cases e
 ·split at e
  ·injection e with e;omega
  ·cases e
theorem Ab {s:ByteArray}{l:List Tok}(h:RdOk l):RdOk (ba s l).2∧(ba s l).2.length≤l.length:=by
 unfold ba;split
 ·exact⟨h.drop 1,by rw[length_drop];omega⟩
 ·exact⟨h,Nat.le_refl _⟩
theorem rg {l:List Tok}(h:RdOk l):RdOk (an l).2∧(an l).2.length≤l.length:=by
 unfold an;split
 ·exact⟨h.drop 1,by rw[length_drop];omega⟩
 ·exact⟨h,Nat.le_refl _⟩
theorem JI:¬aS=emp:=by decide
theorem Oj:¬du=emp:=by decide
theorem mm:¬az=emp:=by decide
def NiceR (l:List Tok)(r:RdR OpV):Prop:=match r with
 |.ok (o,r)=>okO o∧RdOk r∧r.length≤l.length
 |.error e=>e≠0
theorem NiceR.mono {l l':List Tok}{r:RdR OpV}(h:NiceR l r)(hl:l.length≤l'.length):NiceR l' r:=by
 unfold NiceR at *
 split at h
 ·exact⟨h.1,h.2.1,Nat.le_trans h.2.2 hl⟩
 ·exact h
theorem Lf {o:OpV}{l:List Tok}(ho:okO o)(h:RdOk l):NiceR l (tW o l):=by
 unfold tW;rcases h1:changedR o 12 (-1) l with e | ⟨o',l1⟩
 ·exact tM h h1
 ·obtain⟨g1,g2,a,b,rfl⟩:=qu h h1;simp only;split
  ·show(100:Int)≠0;decide
  ·rcases h2:mustR du l1 with e | l2
   ·have:=kG h2;show e≠0;omega
   ·obtain⟨g3,g4,-,-⟩:=eX Oj g1 h2;exact⟨uq ho rfl rfl rfl,g3,by omega⟩
theorem Ls {o:OpV}{l:List Tok}(h:RdOk l):NiceR l (vt o l):=by
 unfold vt;rcases h1:valueR l with e | ⟨v,l1⟩
 ·exact iI h h1
 ·obtain⟨g0,g1,g2⟩:=gD h h1;simp only;rcases h2:mustR du l1 with e | l2
  ·have:=kG h2;show e≠0;omega
  ·obtain⟨g3,g4,-,-⟩:=eX Oj g1 h2;exact⟨lS g0 rfl rfl rfl,g3,by omega⟩
theorem Me {o:OpV}{l:List Tok}(h:RdOk l):NiceR l (vF o l):=by
 unfold vF;rcases h0:mustR aS l with e | l0
 ·have:=kG h0;show e≠0;omega
 obtain⟨k0,k1,-,-⟩:=eX JI h h0;simp only;rcases h1:valueR l0 with e | ⟨v,l1⟩
 ·exact iI k0 h1
 ·obtain⟨g0,g1,g2⟩:=gD k0 h1;simp only;rcases h2:mustR du l1 with e | l2
  ·have:=kG h2;show e≠0;omega
  ·obtain⟨g3,g4,-,-⟩:=eX Oj g1 h2;obtain⟨g5,g6⟩:=Ab (s:=tJ) g3;simp only;split
   ·exact⟨lS g0 rfl rfl rfl,g5,by omega⟩
   ·exact⟨lS g0 rfl rfl rfl,g3,by omega⟩
theorem CB {o:OpV}{l:List Tok}(ho:okO o)(h:RdOk l):NiceR l (fK o l):=by
 unfold fK;rcases h0:mustR az l with e | l0
 ·have:=kG h0;show e≠0;omega
 obtain⟨k0,k1,-,-⟩:=eX mm h h0;simp only;split
 ·exact(Lf (uq (o:={ o with mode:=3,m:=(gY l0).1,md:=1,amt := -1 }) ho rfl rfl rfl) (k0.drop 1)).mono (by rw[length_drop];omega)
 ·rcases h1:loR l0 with e | ⟨b,l1⟩
  ·exact JN h1
  ·obtain⟨g1,g2⟩:=EP k0 h1;simp only;split
   ·exact(Ls g1).mono (by omega)
   ·exact(Me g1).mono (by omega)
theorem Ib {o:OpV}{l:List Tok}(ho:okO o)(h:RdOk l):NiceR l (nl o l):=by
 unfold nl;split
 ·rcases h1:valueR (l.drop 2) with e | ⟨v,l1⟩
  ·exact iI (h.drop 2) h1
  ·obtain⟨g0,g1,g2⟩:=gD (h.drop 2) h1;rw[length_drop]at g2;exact⟨lS g0 rfl rfl rfl,g1,by omega⟩
 ·exact⟨ho,h,Nat.le_refl _⟩
theorem C3 {l:List Tok}(h:RdOk l):NiceR l (fm l):=by
 obtain⟨g1,g2⟩:=rg h;obtain⟨g3,g4⟩:=Ab (s:=du) g1;have ho:okO (lC (gY l).1):=ur rfl rfl rfl;unfold fm;split
 ·show(100:Int)≠0;decide
 ·split
  ·exact(Ib ho g3).mono (by omega)
  ·exact(CB ho g1).mono (by omega)
theorem zW {s:ByteArray}:∀{t:List (Int×Int)} {o:OpV},rsvdF s t=some o→∃kd k,(kd,k)∈t∧(ag 3 kd s).2=0∧o=jE k (ag 3 kd s).1
 |[],o,h=>by cases h
 |(kd,k)::r,o,h=>by
  rw[rsvdF]at h;split at h
  ·rename_i hc;injection h with h;exact⟨kd,k,by simp,hc,h.symm⟩
  ·obtain⟨a,b,h1,h2⟩:=zW h;exact⟨a,b,by simp[h1],h2⟩
def Nv (l:List Tok)(r:RdR OpV):Prop:=match r with
 |.ok (o,r)=>okO o∧RdOk r∧r.length<l.length
 |.error e=>e≠0
theorem NiceR.less {l l':List Tok}{r:RdR OpV}(h:NiceR l r)(hl:l.length<l'.length):Nv l' r:=by
 unfold NiceR at h;unfold Nv;split at h
 ·exact⟨h.1,h.2.1,Nat.lt_of_le_of_lt h.2.2 hl⟩
 ·exact h
theorem si {o:OpV}{most nn:Int}{l:List Tok}(ho:okO o)(h:RdOk l):NiceR l (changedR o most nn l):=by
 rcases h1:changedR o most nn l with e | ⟨o',l1⟩
 ·exact tM h h1
 ·obtain⟨g1,g2,a,b,rfl⟩:=qu h h1;exact⟨uq ho rfl rfl rfl,g1,g2⟩
theorem zN:¬(dh 3 emp).2=0:=by decide +kernel
theorem Mr {l:List Tok}(h:(gY l).2=true):1≤l.length∧(dh 3 (atF l 1 0)).2=0∧gY l=((dh 3 (atF l 1 0)).1,true):=by
 unfold gY at h ⊢;split at h
 ·rename_i hc;have:=jp (l:=l) (k:=1) (n:=0) (fun e=>zN (by rw[←e];exact hc));exact⟨by omega,hc,by rw[if_pos hc]⟩
 ·cases h
theorem zA {l:List Tok}(h:RdOk l):Nv l (operR l):=by
 have one:∀{s:ByteArray},¬s=emp→atF l 4 0=s→(l.drop 1).length<l.length:=fun hs e=>by
  have:=jp (l:=l) (k:=4) (n:=0) (by rw[e];exact hs);rw[length_drop];omega
 unfold operR;split
 ·rename_i hr;have:=(Mr hr).1;exact(si (ur rfl rfl rfl) (h.drop 1)).less (by rw[length_drop];omega)
 split
 ·rename_i h1;exact(C3 (h.drop 1)).less (one (by decide) h1)
 split
 ·rename_i h1;unfold nj;have hl:=one JI h1;rcases hv:valueR (l.drop 1) with e | ⟨v,l1⟩
  ·exact iI (h.drop 1) hv
  ·obtain⟨g0,g1,g2⟩:=gD (h.drop 1) hv;exact(si (lS g0 rfl rfl rfl) g1).less (by omega)
 rcases h1:loR l with e | ⟨b,l1⟩
 ·exact JN h1
 obtain⟨g1,g2⟩:=EP h h1;cases b with
 |true =>
  simp only;rcases hv:valueR l1 with e | ⟨v,l2⟩
  ·exact iI g1 hv
  ·obtain⟨k0,k1,k2⟩:=gD g1 hv;exact⟨lS k0 rfl rfl rfl,k1,by omega⟩
 |false =>
  simp only;split
  ·rename_i hw;unfold cK;rcases hs:rsvdF (atF l1 1 0) km with _ | o
   ·show(100:Int)≠0;decide
   ·obtain⟨kd,k,-,-,rfl⟩:=zW hs;have:=jp hw.1;exact⟨ur rfl rfl rfl,g1.drop 1,by rw[length_drop];omega⟩
  ·rcases hv:valueR l1 with e | ⟨v,l2⟩
   ·exact iI g1 hv
   ·obtain⟨k0,k1,k2⟩:=gD g1 hv;refine⟨?_,k1,by omega⟩;split
    ·exact lS k0 rfl rfl rfl
    ·exact lS k0 rfl rfl rfl
theorem Fa {l r:List Tok}{o:OpV}(h:RdOk l)(e:operR l=.ok (o,r)):okO o∧RdOk r∧r.length<l.length:=by
 have:=zA h;rw[e]at this;exact this
theorem L3 {l:List Tok}{x:Int}(h:RdOk l)(e:operR l=.error x):x≠0:=by
 have:=zA h;rw[e]at this;exact this
structure nY (out:List OpV):Prop where
 few:out.length≤8
 all:∀o∈out,okO o∧fh o=0
theorem mL {out out':List OpV}{l r:List Tok}(h:RdOk l)(ho:nY out)(e:stepR out l=.ok (out',r)):nY out'∧RdOk r∧r.length<l.length∧∃o,out'=out++[o]:=by
 unfold stepR at e;split at e
 ·cases e
 ·rename_i l1 h1
  have k1:RdOk l1∧l1.length≤l.length:=by
   split at h1
   ·injection h1 with h1;subst h1;exact⟨h,Nat.le_refl _⟩
   ·obtain⟨g1,g2,-,-⟩:=eX mm h h1;exact⟨g1,by omega⟩
  split at e
  ·cases e
  ·rename_i h8;split at e
   ·cases e
   ·rename_i o l2 h2;obtain⟨g1,g2,g3⟩:=Fa k1.1 h2;split at e
    ·cases e
    ·rename_i hc;split at e
     ·cases e
     ·injection e with e;injection e with e1 e2;subst e1 e2;refine⟨⟨?_,?_⟩,g2,by omega,o,rfl⟩
      ·have:=ho.few;rw[length_append,List.length_singleton];omega
      ·intro p hp;rw[mem_append,List.mem_singleton]at hp;rcases hp with hp | rfl
       ·exact ho.all p hp
       ·exact⟨g1,Decidable.not_not.1 hc⟩
theorem MQ {out:List OpV}{l:List Tok}{x:Int}(h:RdOk l)(e:stepR out l=.error x):x≠0:=by
 unfold stepR at e;split at e
 ·rename_i y h1;injection e with e;subst e;split at h1
  ·cases h1
  ·have:=kG h1;omega
 ·rename_i l1 h1
  have k1:RdOk l1:=by
   split at h1
   ·injection h1 with h1;subst h1;exact h
   ·exact(eX mm h h1).1
  split at e
  ·injection e with e;omega
  ·split at e
   ·rename_i y h2;injection e with e;subst e;exact L3 k1 h2
   ·split at e
    ·rename_i hc;injection e with e;subst e;exact hc
    ·split at e
     ·injection e with e;omega
     ·cases e
theorem dx (N:Nat)(out:List OpV):fo N out []=.ok out:=by
 cases N<;>rw[fo]
theorem dq {N:Nat}{out:List OpV}{l:List Tok}(hl:l≠[]):fo (N+1) out l=match stepR out l with
  |.error e=>.error e
  |.ok (out,l)=>fo N out l:=by
 cases l with
 |nil=>exact absurd rfl hl
 |cons t r=>rfl
theorem pP:∀{N:Nat} {out:List OpV} {l:List Tok},RdOk l→nY out→l.length≤N→fo N out l=fo l.length out l
 |0,out,l,_,_,hn=>by
  obtain rfl:l=[]:=List.eq_nil_of_length_eq_zero (by omega);rfl
 |N+1,out,[],_,_,_=>by rw[dx,dx]
 |N+1,out,t::r,h,ho,hn=>by
  rw[length_cons,dq (by simp),dq (by simp)];rcases hs:stepR out (t::r) with e | ⟨out',l'⟩
  ·rfl
  ·obtain⟨g1,g2,g3,-⟩:=mL h ho hs;simp only;rw[length_cons]at g3 hn;rw[pP g2 g1 (by omega)];exact(pP g2 g1 (by omega)).symm
theorem zM:∀{N:Nat} {out out':List OpV} {l:List Tok},RdOk l→nY out→fo N out l=.ok out'→nY out'
 |0,out,out',l,h,ho,e=>by
  cases l with
  |nil=>rw[dx]at e;injection e with e;subst e;exact ho
  |cons t r=>cases e
 |N+1,out,out',[],_,ho,e=>by rw[dx]at e;injection e with e;subst e;exact ho
 |N+1,out,out',t::r,h,ho,e=>by
  rw[dq (by simp)]at e;rcases hs:stepR out (t::r) with x | ⟨o2,l'⟩
  ·rw[hs]at e;cases e
  ·rw[hs]at e;obtain⟨g1,g2,-,-⟩:=mL h ho hs;exact zM g2 g1 e
theorem oO:nY []:=⟨by simp,fun o h=>by simp at h⟩
theorem OM {l:List Tok}{out:List OpV}(h:RdOk l)(e:listF l=.ok out):nY out:=zM h oO e
theorem wT:∀{N:Nat} {out:List OpV} {l:List Tok} {x:Int},RdOk l→nY out→fo N out l=.error x→x≠0
 |0,out,l,x,h,ho,e=>by
  cases l with
  |nil=>rw[dx]at e;cases e
  |cons t r =>
   have e:(.error 100:Except Int (List OpV))=.error x:=e;injection e with e;omega
 |N+1,out,[],x,_,ho,e=>by rw[dx]at e;cases e
 |N+1,out,t::r,x,h,ho,e=>by
  rw[dq (by simp)]at e;rcases hs:stepR out (t::r) with y | ⟨o2,l'⟩
  ·rw[hs]at e;injection e with e;subst e;exact MQ h hs
  ·rw[hs]at e;obtain⟨g1,g2,-,-⟩:=mL h ho hs;exact wT g2 g1 e
theorem BC {l:List Tok}{x:Int}(h:RdOk l)(e:listF l=.error x):x≠0:=wT h oO e
end Go.Proofs.YtnhbidpdadkcjaaGreatDoor
namespace Go.Proofs.YtnhbidpdadkcjaaGreatDoor.Ex
theorem zq {l:List Tok}{s:PS}:nextF (l.map cJ) s=nextF l s:=by
 unfold nextF;rw[getElem?_map];cases l[s.at_]?<;>rfl
theorem uF {l:List Tok}{read:PS→PR}{kinds:List Int}:∀(m:Nat) (s:PS),eP (l.map cJ) read kinds m s=eP l read kinds m s
 |0,s=>rfl
 |m+1,s=>by
  simp only[eP,zq,uF m]
theorem My {l:List Tok}{read:PS→PR}{kinds:List Int}:ee (l.map cJ) read kinds=ee l read kinds:=by
 funext s;unfold ee;simp only[length_map,uF]
theorem ub {l:List Tok}{read:PS→PR}:fN (l.map cJ) read=fN l read:=by
 unfold fN;simp only[My]
theorem sq {l:List Tok}:∀N:Nat,aQ (l.map cJ) N=aQ l N
 |0=>by funext s;rfl
 |N+1=>by
  funext s;rw[aQ,aQ,getElem?_map];cases l[s.at_]? with
  |none=>rfl
  |some t =>
   simp only[Option.map_some,sq N,ub,zq];rfl
theorem parseF_bare {l:List Tok}:parseF (l.map cJ)=parseF l:=by
 unfold parseF;rw[length_map,ub,sq]
end Go.Proofs.YtnhbidpdadkcjaaGreatDoor.Ex
namespace Go.Proofs.YtnhbidpdadkcjaaGreatDoor
def gT {α:Type}:RdR α→RdR α
 |.ok (x,l)=>.ok (x,l.map cJ)
 |.error e=>.error e
def wH:Except Int (List Tok)→Except Int (List Tok)
 |.ok l=>.ok (l.map cJ)
 |.error e=>.error e
theorem fH {l:List Tok}{k:Int}{n:Nat}:atF (l.map cJ) k n=atF l k n:=by
 unfold atF;rw[getElem?_map];cases l[n]?<;>rfl
theorem eJ {l:List Tok}{n:Nat}:(l.map cJ).drop n=(l.drop n).map cJ:=(List.map_drop).symm
theorem jy {s:ByteArray}{l:List Tok}:mustR s (l.map cJ)=wH (mustR s l):=by
 unfold mustR;rw[fH,eJ];split<;>rfl
theorem gG {l:List Tok}:valueR (l.map cJ)=gT (valueR l):=by
 unfold valueR;rw[Ex.parseF_bare];cases Ex.parseF l with
 |error e=>rfl
 |ok s =>
  simp only[eJ];split<;>rfl
theorem D2 {l:List Tok}:countR (l.map cJ)=gT (countR l):=by
 unfold countR;rw[jy];cases mustR aS l with
 |error e=>rfl
 |ok l1 =>
  simp only[wH,gG];rcases valueR l1 with e | ⟨v,l2⟩
  ·rfl
  ·simp only[gT];split<;>rfl
theorem nH {o:OpV}{most nn:Int}{l:List Tok}:changedR o most nn (l.map cJ)=gT (changedR o most nn l):=by
 unfold changedR;simp only[fH,eJ,D2];split
 ·rfl
 ·split
  ·rcases countR (l.drop 2) with e | ⟨k,l'⟩<;>rfl
  ·rfl
theorem EO {l:List Tok}:loR (l.map cJ)=gT (loR l):=by
 unfold loR;simp only[fH,eJ];split
 ·rfl
 ·split<;>rfl
theorem pQ {l:List Tok}:gY (l.map cJ)=gY l:=by unfold gY;rw[fH]
theorem Aa {s:ByteArray}{l:List Tok}:ba s (l.map cJ)=((ba s l).1,(ba s l).2.map cJ):=by
 unfold ba;rw[fH,eJ];split<;>rfl
theorem zP {l:List Tok}:(an (l.map cJ)).2=(an l).2.map cJ:=by
 unfold an;rw[pQ,eJ];split<;>rfl
theorem Ld {o:OpV}{l:List Tok}:tW o (l.map cJ)=gT (tW o l):=by
 unfold tW;rw[nH];rcases changedR o 12 (-1) l with e | ⟨o',l1⟩
 ·rfl
 ·simp only[gT,jy];split
  ·rfl
  ·rcases mustR du l1 with e | l2<;>rfl
theorem Lq {o:OpV}{l:List Tok}:vt o (l.map cJ)=gT (vt o l):=by
 unfold vt;rw[gG];rcases valueR l with e | ⟨v,l1⟩
 ·rfl
 ·simp only[gT,jy];rcases mustR du l1 with e | l2<;>rfl
theorem Mc {o:OpV}{l:List Tok}:vF o (l.map cJ)=gT (vF o l):=by
 unfold vF;rw[jy];rcases mustR aS l with e | l0
 ·rfl
 ·simp only[wH,gG];rcases valueR l0 with e | ⟨v,l1⟩
  ·rfl
  ·simp only[gT,jy];rcases mustR du l1 with e | l2
   ·rfl
   ·simp only[wH,Aa];split<;>rfl
theorem Cz {o:OpV}{l:List Tok}:fK o (l.map cJ)=gT (fK o l):=by
 unfold fK;rw[jy];rcases mustR az l with e | l0
 ·rfl
 ·simp only[wH,pQ,eJ,Ld,EO];split
  ·rfl
  ·rcases loR l0 with e | ⟨b,l1⟩
   ·rfl
   ·simp only[gT,Lq,Mc];split<;>rfl
theorem H9 {o:OpV}{l:List Tok}:nl o (l.map cJ)=gT (nl o l):=by
 unfold nl;simp only[fH,eJ,gG];split
 ·rcases valueR (l.drop 2) with e | ⟨v,l1⟩<;>rfl
 ·rfl
theorem C1 {l:List Tok}:fm (l.map cJ)=gT (fm l):=by
 unfold fm;simp only[pQ,zP,Aa,H9,Cz];split
 ·rfl
 ·split<;>rfl
theorem zT {s:ByteArray}{l:List Tok}:cK s (l.map cJ)=gT (cK s l):=by
 unfold cK;rw[eJ];cases rsvdF s km<;>rfl
theorem G7 {l:List Tok}:nj (l.map cJ)=gT (nj l):=by
 unfold nj;rw[gG];rcases valueR l with e | ⟨v,l1⟩
 ·rfl
 ·simp only[gT,nH]
theorem HI {l:List Tok}:operR (l.map cJ)=gT (operR l):=by
 unfold operR;simp only[pQ,eJ,nH,fH,C1,G7,EO];split
 ·rfl
 split
 ·rfl
 split
 ·rfl
 rcases loR l with e | ⟨b,l1⟩
 ·rfl
 cases b with
 |true =>
  simp only[gT,gG];rcases valueR l1 with e | ⟨v,l2⟩<;>rfl
 |false =>
  simp only[gT,fH,zT,gG];split
  ·rfl
  ·rcases valueR l1 with e | ⟨v,l2⟩<;>rfl
theorem IZ {out:List OpV}{l:List Tok}:stepR out (l.map cJ)=gT (stepR out l):=by
 unfold stepR;rw[jy];have e:(if out=[] then(.ok (l.map cJ):Except Int (List Tok)) else wH (mustR az l))=wH (if out=[] then .ok l else mustR az l):=by split<;>rfl
 rw[e];rcases (if out=[] then .ok l else mustR az l:Except Int (List Tok)) with e | l1
 ·rfl
 ·simp only[wH,HI];split
  ·rfl
  ·rcases operR l1 with e | ⟨o,l2⟩
   ·rfl
   ·simp only[gT];split
    ·rfl
    ·split<;>rfl
theorem uA:∀{N:Nat} {out:List OpV} {l:List Tok},fo N out (l.map cJ)=fo N out l
 |N,out,[]=>rfl
 |0,out,t::r=>rfl
 |N+1,out,t::r=>by
  rw[dq (by simp),dq (by simp),IZ];rcases stepR out (t::r) with e | ⟨out',l'⟩
  ·rfl
  ·exact uA
theorem Hl {l:List Tok}:listF (l.map cJ)=listF l:=by
 unfold listF;rw[length_map,uA]
end Go.Proofs.YtnhbidpdadkcjaaGreatDoor
namespace Go.Proofs.YtnhbidpdadkcjaaGreatDoor.Ex
def Ends (l:List Tok)(q:Nat):Prop:=∀kinds:List Int,(∀k∈kinds,5≤k∧k≤14)→bO (nxt l q) kinds 0=0
theorem yM {s:ByteArray}(h:∀k:Int,5≤k→k≤14→s≠eQ k):∀kinds:List Int,(∀k∈kinds,5≤k∧k≤14)→bO s kinds 0=0
 |[],_=>rfl
 |k::r,hk=>by
  have hk5:=hk k (mem_cons_self ..);rw[bO,if_neg,yM h r fun x hx=>hk x (mem_cons_of_mem _ hx)];rintro⟨_,e⟩;exact h k hk5.1 hk5.2 e
theorem ends_emp {l:List Tok}{q:Nat}(h:nxt l q=emp):Ends l q:=fun kinds hk=>by rw[h];exact pw _ _
theorem ends_sign {l:List Tok}{q:Nat}(h:∀k:Int,5≤k→k≤14→nxt l q≠eQ k):Ends l q:=yM h
theorem sign_all {p:ByteArray→Prop}(h5:p (eQ 5))(h6:p (eQ 6))(h7:p (eQ 7))(h8:p (eQ 8))(h9:p (eQ 9))(h10:p (eQ 10))(h11:p (eQ 11))(h12:p (eQ 12))(h13:p (eQ 13))(h14:p (eQ 14)):∀k:Int,5≤k→k≤14→p (eQ k):=by
 intro k h1 h2;have hc:k=5∨k=6∨k=7∨k=8∨k=9∨k=10∨k=11∨k=12∨k=13∨k=14:=by omega
 rcases hc with rfl | rfl | rfl | rfl | rfl | rfl | rfl | rfl | rfl | rfl<;>assumption
section
variable {l:List Tok}{read:PS→PR}{p q z:Nat}{a c:List Term}{d:Int}
theorem nR (h:Reads read p q d a)(hd:0≤d)(hs:Ends l q):Reads (fN l read) p q d a:=by
 unfold fN;exact iD (iD (iD (iD (iD (iD h hd (hs _ (by simp))) hd (hs _ (by simp))) hd (hs _ (by simp))) hd (hs _ (by simp))) hd (hs _ (by simp))) hd (hs _ (by simp))
theorem mH (h:Reads (ee l read [5,6,7]) p q 0 a)(hc:Chn l (ee l read [5,6,7]) [8,9] q z 0 c)(hs:Ends l z):Reads (fN l read) p z 0 (a++c):=by
 have upr:∀{read:PS→PR} {kinds:List Int} {x:List Term} {p:Nat},Reads read p z 0 x→(∀k∈kinds,5≤k∧k≤14)→Reads (ee l read kinds) p z 0 x:=fun h hf=>iD h (Int.le_refl _) (hs _ hf);unfold fN;exact upr (upr (upr (upr (BU h hc) (by simp)) (by simp)) (by simp)) (by simp)
theorem gX (h:Reads read p q 0 a)(hn:Ends l q∨nxt l q=eQ 8∨nxt l q=eQ 9):Reads (ee l read [5,6,7]) p q 0 a:=by
 refine iD h (Int.le_refl _) ?_;rcases hn with hn | hn | hn
 ·exact hn _ (by simp)
 ·exact(yN (.inl rfl) hn).1
 ·exact(yN (.inr rfl) hn).1
theorem qy (h:Ends l q):Chn l read [8,9] q q 0 []:=.nil (h _ (by simp))
theorem jG (h:Reads (fN l (aQ l l.length)) 0 q d a)(hd:d≤64)(hl:a.length≤256):parseF l=.ok ⟨q,0,a⟩:=by
 have:=h 0 [] (Int.le_refl _) (by omega) (by simpa using hl);simpa[parseF] using this
end
theorem val_readE {v:Val}(hv:ValOk v){r:List Tok}(he:Ends r 0):parseF (valT v++r)=.ok ⟨(valT v).length,0,Dx v⟩:=by
 unfold valT Dx;by_cases c:v.plus=emp∧v.minus=emp
 ·rw[if_pos c,if_pos c];by_cases c2:v.add<0
  ·rw[if_pos c2,if_pos c2];refine jG (l:=ax minusS::numT (-v.add)::r) (q:=2) (d:=1) ?_ (by decide) (by simp);have h1:Reads (aQ (ax minusS::numT (-v.add)::r) (r.length+1)) 1 2 0 [⟨1,wrap64 (-v.add),emp⟩]:=tj (l:=ax minusS::numT (-v.add)::r) rfl rfl;have h2:=Qb (l:=ax minusS::numT (-v.add)::r) (N:=r.length+1) (p:=0) (q:=2) (Int.le_refl 0) rfl rfl (.inl ⟨rfl,rfl⟩) h1;exact nR (l:=ax minusS::numT (-v.add)::r) h2 (by decide) he
  ·rw[if_neg c2,if_neg c2];refine jG (l:=numT v.add::r) (q:=1) (d:=0) ?_ (by decide) (by simp);exact nR (l:=numT v.add::r) (tj (l:=numT v.add::r) (N:=r.length) rfl rfl) (Int.le_refl _) he
 ·rw[if_neg c,if_neg c];obtain⟨B,hB⟩:∃B,(if v.plus=emp then numT 0 else nameT v.plus)=B:=⟨_,rfl⟩;obtain⟨b,hb⟩:∃b:Term,(if v.plus=emp then⟨1,0,emp⟩ else⟨2,0,v.plus⟩)=b:=⟨_,rfl⟩;have hBB:cJ B=B:=by rw[←hB];split<;>rfl
  have base:∀{l:List Tok} {N p:Nat},l[p]? = some B→Reads (aQ l (N+1)) p (p+1) 0 [b]:=fun h1=>by
   rw[←hb];exact Tt h1 (by rw[hBB,←hB])
  rw[hb,hB];unfold midT tailT;by_cases em:v.minus=emp
  ·rw[if_pos em,if_pos em,nil_append,nil_append];by_cases e0:v.add=0
   ·rw[if_pos e0,if_pos e0];exact jG (l:=B::r) (q:=1) (d:=0) (nR (l:=B::r) (base (l:=B::r) (p:=0) rfl) (Int.le_refl _) he) (by decide) (by simp)
   ·rw[if_neg e0,if_neg e0];by_cases en:v.add<0
    ·rw[if_pos en,if_pos en];obtain⟨l,hl⟩:∃l,B::ax minusS::numT (-v.add)::r=l:=⟨_,rfl⟩;have n1:nxt l 1=eQ 9:=by rw[←hl];rfl
     have hlen:l.length=r.length+2+1:=by rw[←hl];rfl
     have e3:Ends l 3:=by rw[←hl];exact he
     show parseF (B::ax minusS::numT (-v.add)::r)=_;rw[hl];refine jG (q:=3) (d:=0) ?_ (by decide) (by simp);rw[hlen];exact mH (gX (base (l:=l) (p:=0) (by rw[←hl];rfl)) (.inr (.inr n1))) (po (.inr rfl) n1 (gX (tj (l:=l) (p:=2) (u:=numT (-v.add)) (by rw[←hl];rfl) rfl) (.inl e3)) (qy e3)) e3
    ·rw[if_neg en,if_neg en];obtain⟨l,hl⟩:∃l,B::ax plusS::numT v.add::r=l:=⟨_,rfl⟩;have n1:nxt l 1=eQ 8:=by rw[←hl];rfl
     have hlen:l.length=r.length+2+1:=by rw[←hl];rfl
     have e3:Ends l 3:=by rw[←hl];exact he
     show parseF (B::ax plusS::numT v.add::r)=_;rw[hl];refine jG (q:=3) (d:=0) ?_ (by decide) (by simp);rw[hlen];exact mH (gX (base (l:=l) (p:=0) (by rw[←hl];rfl)) (.inr (.inl n1))) (po (.inl rfl) n1 (gX (tj (l:=l) (p:=2) (u:=numT v.add) (by rw[←hl];rfl) rfl) (.inl e3)) (qy e3)) e3
  ·rw[if_neg em,if_neg em];by_cases e0:v.add=0
   ·rw[if_pos e0,if_pos e0];obtain⟨l,hl⟩:∃l,B::ax minusS::nameT v.minus::r=l:=⟨_,rfl⟩;have n1:nxt l 1=eQ 9:=by rw[←hl];rfl
    have hlen:l.length=r.length+2+1:=by rw[←hl];rfl
    have e3:Ends l 3:=by rw[←hl];exact he
    show parseF (B::ax minusS::nameT v.minus::r)=_;rw[hl];refine jG (q:=3) (d:=0) ?_ (by decide) (by simp);rw[hlen];exact mH (gX (base (l:=l) (p:=0) (by rw[←hl];rfl)) (.inr (.inr n1))) (po (.inr rfl) n1 (gX (xJ (l:=l) (p:=2) (u:=nameT v.minus) (by rw[←hl];rfl) rfl) (.inl e3)) (qy e3)) e3
   ·rw[if_neg e0,if_neg e0];by_cases en:v.add<0
    ·rw[if_pos en,if_pos en];obtain⟨l,hl⟩:∃l,B::ax minusS::nameT v.minus::ax minusS::numT (-v.add)::r=l:=⟨_,rfl⟩;have n1:nxt l 1=eQ 9:=by rw[←hl];rfl
     have n3:nxt l 3=eQ 9:=by rw[←hl];rfl
     have hlen:l.length=r.length+4+1:=by rw[←hl];rfl
     have e3:Ends l 5:=by rw[←hl];exact he
     show parseF (B::ax minusS::nameT v.minus::ax minusS::numT (-v.add)::r)=_;rw[hl];refine jG (q:=5) (d:=0) ?_ (by decide) (by simp);rw[hlen];exact mH (gX (base (l:=l) (p:=0) (by rw[←hl];rfl)) (.inr (.inr n1))) (po (.inr rfl) n1 (gX (xJ (l:=l) (p:=2) (u:=nameT v.minus) (by rw[←hl];rfl) rfl) (.inr (.inr n3))) (po (.inr rfl) n3 (gX (tj (l:=l) (p:=4) (u:=numT (-v.add)) (by rw[←hl];rfl) rfl) (.inl e3)) (qy e3))) e3
    ·rw[if_neg en,if_neg en];obtain⟨l,hl⟩:∃l,B::ax minusS::nameT v.minus::ax plusS::numT v.add::r=l:=⟨_,rfl⟩;have n1:nxt l 1=eQ 9:=by rw[←hl];rfl
     have n3:nxt l 3=eQ 8:=by rw[←hl];rfl
     have hlen:l.length=r.length+4+1:=by rw[←hl];rfl
     have e3:Ends l 5:=by rw[←hl];exact he
     show parseF (B::ax minusS::nameT v.minus::ax plusS::numT v.add::r)=_;rw[hl];refine jG (q:=5) (d:=0) ?_ (by decide) (by simp);rw[hlen];exact mH (gX (base (l:=l) (p:=0) (by rw[←hl];rfl)) (.inr (.inr n1))) (po (.inr rfl) n1 (gX (xJ (l:=l) (p:=2) (u:=nameT v.minus) (by rw[←hl];rfl) rfl) (.inr (.inl n3))) (po (.inl rfl) n3 (gX (tj (l:=l) (p:=4) (u:=numT v.add) (by rw[←hl];rfl) rfl) (.inl e3)) (qy e3))) e3
end Go.Proofs.YtnhbidpdadkcjaaGreatDoor.Ex
namespace Go.Proofs.YtnhbidpdadkcjaaGreatDoor
theorem fe {v:Val}(hv:Ex.ValOk v){r:List Tok}(he:Ex.Ends r 0):valueR (Ex.valT v++r)=.ok (v,r):=by
 unfold valueR;rw[Ex.val_readE hv he];simp only[Ex.val_eval hv,if_true,List.drop_left]
end Go.Proofs.YtnhbidpdadkcjaaGreatDoor
namespace Go.Proofs.YtnhbidpdadkcjaaGreatDoor
def Qc (r:gR):Bool:=!decide ((aJ r).2=0)||(bj (aJ r).1&&decide (dh 3 (aJ r).1=(r,0))&&!decide ((ag 3 3 (aJ r).1).2=0)&&decide ((bq (aJ r).1 us).length=1))
theorem Tw:∀i:Fin 32,∀x p:Bool,Qc ⟨(i.val:Int),x,p⟩=true:=by decide +kernel
theorem BW {r:gR}(h:(aJ r).2=0):bj (aJ r).1=true∧dh 3 (aJ r).1=(r,0)∧¬(ag 3 3 (aJ r).1).2=0∧(bq (aJ r).1 us).length=1:=by
 obtain⟨n,x,p⟩:=r
 have hn:0≤n∧n≤31:=by
  unfold aJ at h;split at h
  ·cases h
  ·rename_i hc;simp only at hc;omega
 obtain⟨k,rfl⟩:=eq_ofNat_of_zero_le hn.1;have hf:=Tw ⟨k,by omega⟩ x p;simp only at hf;unfold Qc at hf;rw[decide_eq_true h]at hf;simpa[and_assoc] using hf
theorem gF {r:gR}(h:eO r=true):bj (dy r)=true∧dh 3 (dy r)=(r,0)∧¬(ag 3 3 (dy r)).2=0:=by
 have h:=BW (of_decide_eq_true h);exact⟨h.1,h.2.1,h.2.2.1⟩
theorem Mw {s:ByteArray}(h:(dh 3 s).2=0):(bq s us).length=1:=by
 rcases hr:dh 3 s with ⟨r,e⟩;rw[hr]at h;simp only at h;subst h;obtain⟨-,e⟩:=Fx hr;have:=(BW (r:=r) (by rw[e])).2.2.2
 rwa [e]at this
def nmB (k:Int)(s:ByteArray):Bool :=
 bj s&&(!decide ((dh 3 s).2=0)&&((decide (k=3)||!decide ((ag 3 3 s).2=0)) &&
  ((!decide (k=4)||!decide ((ag 3 2 s).2=0)) &&
  ((!decide (k=6)||(!decide ((ag 3 2 s).2=0)&&!decide ((ag 3 4 s).2=0))) &&
  ((!decide (k=7)||(!decide ((ag 3 2 s).2=0)&&(!decide ((ag 3 4 s).2=0)&&!decide ((ag 3 6 s).2=0)))) &&
  (!decide (k=8)||(!decide ((ag 3 2 s).2=0)&&(!decide ((ag 3 4 s).2=0)&&!decide ((ag 3 7 s).2=0)))))))))
theorem nm2:(fR 2).all (fun r=>nmB 2 r.1)=true:=by decide +kernel
theorem nm3:(fR 3).all (fun r=>nmB 3 r.1)=true:=by decide +kernel
theorem nm4:(fR 4).all (fun r=>nmB 4 r.1)=true:=by decide +kernel
theorem nm6:(fR 6).all (fun r=>nmB 6 r.1)=true:=by decide +kernel
theorem nm7:(fR 7).all (fun r=>nmB 7 r.1)=true:=by decide +kernel
theorem nm8:(fR 8).all (fun r=>nmB 8 r.1)=true:=by decide +kernel
theorem aV (a b:ByteArray):aa (a++b)=aa a++aa b:=eF a b
theorem QM {s:ByteArray}(h1:s.size≤512)(h2:0<s.size)(h3:bV (bAt (aa s) 0)=true)(h4:(aa s).all wordyB=true):bj s=true:=by
 have hl:(aa s).length=s.size:=ae s;unfold bj;rw[Ex.nameB_nameL];unfold da;rw[h3,decide_eq_true h1]
 have hr:br wordyB (aa s)=(aa s).length:=pV _ _ _ (Nat.le_refl _) (fun i hi=>by
  have:=List.all_eq_true.1 h4 (bAt (aa s) i) (List.mem_of_getElem? (xx hi));exact this) (fun h=>absurd h (Nat.lt_irrefl _))
 rw[hr,hl];simp[h2]
def zF (i:Nat)(v:Int):Bool:=(aa (bI i v)).all wordyB
theorem VU:∀j:Fin 2,zF 0 (j.val:Int)=true:=by decide +kernel
theorem VV:∀j:Fin 8,zF 1 (j.val:Int)=true:=by decide +kernel
theorem VW:∀j:Fin 16,zF 2 (j.val:Int)=true:=by decide +kernel
theorem VX:∀j:Fin 16,zF 3 (j.val:Int)=true:=by decide +kernel
theorem VY:∀j:Fin 8,zF 4 (j.val:Int)=true:=by decide +kernel
theorem F5 {n:Int}(h0:0≤n)(h1:n<32768):bj (de n)=true:=by
 have hz:=uM h0 h1
 have w0:(aa (bI 0 (n / 16384))).all wordyB=true:=by
  obtain⟨k,hk⟩:=eq_ofNat_of_zero_le (show 0≤n / 16384 by omega);rw[hk];exact VU ⟨k,by omega⟩
 have w1:(aa (bI 1 (n / 2048 % 8))).all wordyB=true:=by
  obtain⟨k,hk⟩:=eq_ofNat_of_zero_le (show 0≤n / 2048 % 8 by omega);rw[hk];exact VV ⟨k,by omega⟩
 have w2:(aa (bI 2 (n / 128 % 16))).all wordyB=true:=by
  obtain⟨k,hk⟩:=eq_ofNat_of_zero_le (show 0≤n / 128 % 16 by omega);rw[hk];exact VW ⟨k,by omega⟩
 have w3:(aa (bI 3 (n / 8 % 16))).all wordyB=true:=by
  obtain⟨k,hk⟩:=eq_ofNat_of_zero_le (show 0≤n / 8 % 16 by omega);rw[hk];exact VX ⟨k,by omega⟩
 have w4:(aa (bI 4 (n % 8))).all wordyB=true:=by
  obtain⟨k,hk⟩:=eq_ofNat_of_zero_le (show 0≤n % 8 by omega);rw[hk];exact VY ⟨k,by omega⟩
 have wu:(aa us).all wordyB=true:=by decide +kernel
 have e:aa (de n)=115::(aa (df (n / 16384+2))++(aa us++(aa (bI 1 (n / 2048 % 8))++aa us++(aa (bI 2 (n / 128 % 16))++aa us++(aa (bI 3 (n / 8 % 16))++aa us++aa (bI 4 (n % 8))))))):=by
  rw[kV,show bI 0 (n / 16384)=s1++df (n / 16384+2) from rfl];simp only[aV,show aa s1=[115] from rfl,append_assoc,cons_append,nil_append]
 refine QM (by omega) ?_ ?_ ?_
 ·have:=congrArg List.length e;rw[ae,length_cons]at this;omega
 ·rw[e];rfl
 ·rw[kV];simp only[aV,List.all_append,w0,w1,w2,w3,w4,wu,Bool.and_self]
theorem Zt:∀k:Fin 9,k.val≠6→(fR (k.val:Int)).all (fun r=>decide ((bq r.1 us).length≠5))=true:=by decide +kernel
theorem C9 {k:Int}(hk:k=2∨k=3∨k=4){s:ByteArray}(hs:(bq s us).length=5):¬(ag 3 k s).2=0:=by
 have ha:fU k s=s:=by
  unfold fU;rw[if_neg,if_neg]
  ·rintro⟨-,rfl⟩;revert hs;decide +kernel
  ·rintro⟨-,rfl⟩;revert hs;decide +kernel
 unfold ag;rw[nG,ha];cases hn:ip (fR k) s with
 |none =>
  simp only;rw[nG]
  decide
 |some m =>
  exfalso;have hm:=rM hn;obtain⟨j,rfl⟩:=eq_ofNat_of_zero_le (show 0≤k by omega);have:=List.all_eq_true.1 (Zt ⟨j,by omega⟩ (by simp only;omega)) _ hm;simp[hs]at this
theorem VK {n:Int}(h0:0≤n)(h1:n<32768):nmB 6 (de n)=true:=by
 have h5:(bq (de n) us).length=5:=by rw[nX h0 h1];rfl
 have hr:¬(dh 3 (de n)).2=0:=fun h=>by have:=Mw h;omega
 unfold nmB;rw[F5 h0 h1,decide_eq_false hr,decide_eq_false (C9 (.inr (.inl rfl)) h5),decide_eq_false (C9 (.inl rfl) h5),decide_eq_false (C9 (.inr (.inr rfl)) h5)];simp
theorem VJ {k n:Int}(hk:k=2∨k=3∨k=4∨k=6∨k=7∨k=8)(h:(ak k n).2=0):nmB k (ak k n).1=true:=by
 have h2:=h;unfold ak at h2 ⊢;rw[nG]at h2 ⊢;cases hn:kb (fR k) n with
 |some s =>
  have hm:=pG hn;simp only;rcases hk with rfl | rfl | rfl | rfl | rfl | rfl
  ·exact List.all_eq_true.1 nm2 _ hm
  ·exact List.all_eq_true.1 nm3 _ hm
  ·exact List.all_eq_true.1 nm4 _ hm
  ·exact List.all_eq_true.1 nm6 _ hm
  ·exact List.all_eq_true.1 nm7 _ hm
  ·exact List.all_eq_true.1 nm8 _ hm
 |none =>
  rw[hn]at h2;simp only at h2 ⊢;split at h2
  ·rename_i hc;rw[if_pos hc];obtain⟨rfl,h0,h1⟩:=hc;exact VK h0 h1
  ·cases h2
theorem jc {k n:Int}(hk:k=2∨k=3∨k=4∨k=6∨k=7∨k=8)(h:(ak k n).2=0) :
  bj (ak k n).1=true∧¬(dh 3 (ak k n).1).2=0∧(¬k=3→¬(ag 3 3 (ak k n).1).2=0)∧(k=4→¬(ag 3 2 (ak k n).1).2=0) ∧
  (k=6→¬(ag 3 2 (ak k n).1).2=0∧¬(ag 3 4 (ak k n).1).2=0) ∧
  (k=7→¬(ag 3 2 (ak k n).1).2=0∧¬(ag 3 4 (ak k n).1).2=0∧¬(ag 3 6 (ak k n).1).2=0) ∧
  (k=8→¬(ag 3 2 (ak k n).1).2=0∧¬(ag 3 4 (ak k n).1).2=0∧¬(ag 3 7 (ak k n).1).2=0):=by
 have hB:=VJ hk h;unfold nmB at hB;simp only[and_eq_true,Bool.or_eq_true,decide_eq_true_eq,Bool.not_eq_true',decide_eq_false_iff_not]at hB;obtain⟨b1,b2,b3,b4,b5,b6,b7⟩:=hB;exact⟨b1,b2,fun h=>b3.resolve_left h,fun h=>b4.resolve_left (not_not_intro h),fun h=>b5.resolve_left (not_not_intro h),fun h=>b6.resolve_left (not_not_intro h),fun h=>b7.resolve_left (not_not_intro h)⟩
theorem lk {k n:Int}(h:(ak k n).2=0):ag 3 k (ak k n).1=(n,0):=(there (show ak k n=((ak k n).1,0) by rw[←h])).1
theorem uo {k n:Int}(hk:1≤k∧k≤8)(h:(ak k n).2=0):ff 3 (ak k n).1=true:=DB hk (lk h)
theorem Ao {s:ByteArray}(h:bj s=true):¬s=emp:=fun e=>by rw[e]at h;revert h;decide +kernel
theorem HB {s:ByteArray}(h:ff 3 s=false):¬(dh 3 s).2=0:=fun h2=>by
 have:ag 3 1 s=(nQ (dh 3 s).1,0):=by unfold ag;rw[if_pos rfl,if_pos h2]
 rw[DB (by decide) this]at h;cases h
theorem HA {s:ByteArray}(h:ff 3 s=false):¬(ag 3 3 s).2=0:=fun h2=>by
 have:ag 3 3 s=((ag 3 3 s).1,0):=by rw[←h2]
 rw[DB (by decide) this]at h;cases h
end Go.Proofs.YtnhbidpdadkcjaaGreatDoor
namespace Go.Proofs.YtnhbidpdadkcjaaGreatDoor
def aloneM (o:OpV):Bool:=(o.kind==5)&&((o.mode==0)&&((decide (o.add=0)&&(decide (o.plus=emp)&&decide (o.minus=emp)))&&!o.lo))
theorem K8 {s:ByteArray}(h:0<s.size):bL s aS=(ab s 0==35):=by
 have e:aS=aj [35]:=rfl;have h1:=qA s 35 ⟨by decide,by decide⟩;rw[←e]at h1;unfold jU at h1;cases hp:bL s aS
 ·rw[hp,if_neg (by decide)]at h1;by_cases hb:ab s 0=35
  ·rw[if_pos ⟨h,hb⟩]at h1;cases (congrArg Prod.snd h1)
  ·rw[beq_eq_false_iff_ne.2 hb]
 ·rw[hp,if_pos rfl]at h1;by_cases hb:ab s 0=35
  ·rw[hb];rfl
  ·rw[if_neg (fun h=>hb h.2)]at h1;cases (congrArg Prod.snd h1)
theorem N4:∀(f n:Nat),0<f→0<(Ex.decG f n).length
 |0,n,h=>absurd h (Nat.not_lt_zero _)
 |f+1,n,_=>by
  rw[Ex.decG];split
  ·simp
  ·rw[length_append];simp
theorem N5 (n:Nat):0<(Ex.decS n).size:=by
 show 0<(Ex.decG 20 n).toArray.size;rw[List.size_toArray];exact N4 20 n (by decide)
theorem oX (n:Int):0<(Ex.signS n).size:=by
 unfold Ex.signS;have h4:(⟨#[43]⟩:ByteArray).size=1:=rfl;have h5:(⟨#[45]⟩:ByteArray).size=1:=rfl;split<;>rw[ByteArray.size_append]<;>omega
theorem Ic {v:Val}(h:(Ex.printF v).2=0):0<(Ex.printF v).1.size:=by
 have h1:=N5 v.add.toNat;have h2:=oX v.add;have h4:(⟨#[48]⟩:ByteArray).size=1:=rfl;have h5:(⟨#[45]⟩:ByteArray).size=1:=rfl;unfold Ex.printF at h ⊢;split at h
 ·cases h
 rename_i c1;rw[if_neg c1];split at h
 ·cases h
 rename_i c2;rw[if_neg c2];by_cases c3:v.plus=emp∧v.minus=emp
 ·rw[if_pos c3];split<;>assumption
 ·rw[if_neg c3];by_cases p:v.plus=emp
  ·have m:¬v.minus=emp:=fun m=>c3 ⟨p,m⟩;simp only[p,m,if_true,if_false];split<;>simp only[ByteArray.size_append]<;>omega
  ·have hp:0<v.plus.size:=lq p;simp only[p,if_false]
   repeat' split
   all_goals try simp only[ByteArray.size_append]
   all_goals omega
theorem uC {r:gR}(h:(aJ r).2=0):0<(aJ r).1.size:=by
 unfold aJ at h ⊢;by_cases c:r.n<0∨31<r.n∨(r.sp=true∧¬r.n=31)
 ·rw[if_pos c]at h;cases h
 ·rw[if_neg c]
  repeat' split
  all_goals first
   |decide
   |(simp only[ByteArray.size_append];first | (have:xS.size=1:=rfl;omega) | (have:wS.size=1:=rfl;omega))
theorem T7:∀k:Fin 9,(fR (k.val:Int)).all (fun r=>decide (0<r.1.size))=true:=by decide +kernel
theorem LD {k n:Int}(h:(ak k n).2=0):0<(ak k n).1.size:=by
 unfold ak at h ⊢;by_cases k1:k=1
 ·rw[if_pos k1]at h ⊢;split at h
  ·cases h
  rename_i c;rw[if_neg c];exact uC h
 rw[if_neg k1]at h ⊢;split at h
 ·rename_i s hs;have hm:=pG hs;have hk:=(I7 hm).1;have:=T7 ⟨k.toNat,by omega⟩;rw[show(((⟨k.toNat,by omega⟩:Fin 9).val:Nat):Int)=k by simp only;omega,List.all_eq_true]at this;have:=this _ hm;rw[decide_eq_true_eq]at this;exact this
 ·rename_i hs;split at h
  ·rename_i c;rw[if_pos c];unfold de;simp only[ByteArray.size_append];have:s1.size=1:=rfl;omega
  ·cases h
theorem Lw (o:OpV):0<(iz o).size:=by
 have f1:brS.size=1:=rfl;unfold iz
 repeat' split
 all_goals simp only[ByteArray.size_append]
 all_goals omega
theorem EX (k n:Int):0<(dF k n).size:=by
 unfold dF;split
 ·rename_i h;exact LD h
 ·have f1:aS.size=1:=rfl;simp only[ByteArray.size_append];omega
theorem M4 {o:OpV}(hc:fh o=0):0<(aO o).size:=by
 obtain⟨hf,hp,-⟩:=cY hc;obtain⟨-,hk⟩:=cI hf;have h1:aS.size=1:=rfl;have h2:EQ.size=6:=rfl;have g:=fun k=>EX k o.n;have hv:0<(mS o).size:=Ic hp
 have hl:0<(lE o).size:=by
  unfold lE;split<;>simp only[ByteArray.size_append]<;>omega
 unfold aO;by_cases k1:o.kind=1
 ·rw[if_pos k1,ByteArray.size_append]
  have hr:eO o.r=true:=by
   rcases hk with h | h | h | h | h
   ·exact h.2.1
   ·omega
   ·omega
   ·omega
   ·omega
  have:0<(dy o.r).size:=uC (by unfold eO at hr;simpa using hr);omega
 rw[if_neg k1];split
 ·rw[ByteArray.size_append];omega
 split
 ·split
  ·rw[ByteArray.size_append];omega
  ·exact hv
 split
 ·exact g _
 split
 ·exact g _
 split
 ·exact g _
 split
 ·exact g _
 split
 ·exact g _
 ·exact Lw o
theorem uV (s:ByteArray):fL s=s.data.toList.contains 44:=by
 unfold fL;exact(Lib.contains_iff_indexByte _ _).symm
theorem bS (a b:ByteArray):fL (a++b)=(fL a||fL b):=by
 rw[uV,uV,uV];simp[ByteArray.data_append,Array.toList_append]
theorem KF {r:gR}(h:eO r=true):fL (dy r)=false:=by
 have key:∀i:Fin 32,∀x p:Bool,fL (dy ⟨(i.val:Int),x,p⟩)=false:=by decide +kernel
 have hn:0≤r.n∧r.n≤31:=by
  unfold eO aJ at h;by_cases c:r.n<0∨31<r.n∨(r.sp=true∧¬r.n=31)
  ·rw[if_pos c]at h;cases h
  ·omega
 have:=key ⟨r.n.toNat,by omega⟩ r.x r.sp
 rwa [show(((⟨r.n.toNat,by omega⟩:Fin 32).val:Nat):Int)=r.n by simp only;omega]at this
theorem GK {o:OpV}(hm:fj o=true)(hk:o.kind=5):(!fL (iz o))=aloneM o:=by
 obtain⟨h1,-,h3⟩:=oC hm;have hr:=KF h1;have c1:fL dX=true:=by decide +kernel
 have c2:fL Ok=true:=by decide +kernel
 have c3:fL brS=false:=by decide +kernel
 have c4:fL ekS=false:=by decide +kernel
 unfold iz aloneM;rw[hk];by_cases e1:o.mode=1
 ·rw[if_pos e1,bS,bS,bS,bS,c1,e1];simp
 rw[if_neg e1];by_cases e2:o.mode=2
 ·rw[if_pos e2,bS,bS,bS,c2,e2];simp
 rw[if_neg e2];by_cases e3:o.mode=3
 ·rw[if_pos e3,e3];split
  ·rw[bS,bS,bS,bS,c1];simp
  ·rw[bS,bS,bS,bS,bS,c1];simp
 rw[if_neg e3]
 have e0:o.mode=0:=by
  rcases h3 with h | h | h | h
  ·exact h
  ·exact absurd h e1
  ·exact absurd h e2
  ·exact absurd h.1 e3
 rw[e0];split
 ·rename_i h;rw[bS,bS,c3,hr,c4,decide_eq_true h.1.1,decide_eq_true h.1.2.1,decide_eq_true h.1.2.2,h.2];rfl
 ·rename_i h;rw[bS,bS,bS,bS,c1];simp only[Bool.or_true,Bool.true_or,Bool.not_true];by_cases a1:o.add=0
  ·by_cases a2:o.plus=emp
   ·by_cases a3:o.minus=emp
    ·have a4:o.lo=true:=by
      cases hl:o.lo
      ·exact absurd ⟨⟨a1,a2,a3⟩,hl⟩ h
      ·rfl
     rw[a4];simp
    ·rw[decide_eq_false a3];simp
   ·rw[decide_eq_false a2];simp
  ·rw[decide_eq_false a1];simp
theorem x9 {a b:OpV}(hca:fh a=0)(hcb:fh b=0):fI a b=(aloneM a&&(ab (aO b) 0==35)):=by
 unfold fI;rw[K8 (M4 hcb)];by_cases k5:a.kind=5
 ·obtain⟨hf,-,-⟩:=cY hca;obtain⟨-,hk⟩:=cI hf
  have hm:fj a=true:=by
   rcases hk with h | h | h | h | h
   ·omega
   ·omega
   ·omega
   ·omega
   ·exact h.2
  have eT:aO a=iz a:=by
   unfold aO;rw[nG,nG,nG,nG,nG,nG,nG,nG]
  rw[eT,GK hm k5,k5];cases aloneM a<;>cases (ab (aO b) 0==35)<;>rfl
 ·have e:aloneM a=false:=by unfold aloneM;rw[beq_eq_false_iff_ne.2 k5];rfl
  rw[e,beq_eq_false_iff_ne.2 k5];simp
end Go.Proofs.YtnhbidpdadkcjaaGreatDoor
namespace Go.Proofs.YtnhbidpdadkcjaaGreatDoor
open Ex (ax nameT valT txtL ValOk pX)
def bp:List (Bool×Tok)→List Int
 |[]=>[]
 |(b,t)::r=>(if b=true then[32] else[])++(txtL t++bp r)
theorem ib:∀a b:List (Bool×Tok),bp (a++b)=bp a++bp b
 |[],b=>rfl
 |(x,t)::a,b=>by
  rw[cons_append,bp,bp,ib a b,append_assoc,append_assoc]
def dk:Option Tok→List (Bool×Tok)→Prop
 |_,[]=>True
 |p,(b,t)::r=>(b=true∨pX p t=false)∧dk (some t) r
def iZ (l:List (Bool×Tok)):Prop:=∀u∈l,cP u.2=0∧0≤u.2.n∧u.2.n<18446744073709551616
theorem iW {a b:List (Bool×Tok)}(ha:iZ a)(hb:iZ b):iZ (a++b):=fun u hu=>(List.mem_append.1 hu).elim (ha u) (hb u)
theorem aK {x:Bool×Tok}{b:List (Bool×Tok)}(ha:cP x.2=0∧0≤x.2.n∧x.2.n<18446744073709551616)(hb:iZ b):iZ (x::b):=fun u hu=>by
 rcases List.mem_cons.1 hu with rfl | hu
 ·exact ha
 ·exact hb u hu
theorem dc:iZ []:=fun u hu=>by cases hu
theorem DQ {t:Tok}{r:List (Bool×Tok)}(hf:dk (some t) r)(hr:iZ r):Ex.After t (bp r):=by
 cases r with
 |nil=>exact⟨fun _=>.inl rfl,fun _ h=>by simp[bp]at h⟩
 |cons u r =>
  obtain⟨b,u⟩:=u;obtain⟨hu,hn,-⟩:=hr (b,u) (mem_cons_self ..);unfold bp;obtain⟨hs,-⟩:=hf;cases b with
  |true =>
   rw[if_pos rfl];exact⟨fun _=>.inr rfl,fun _ h=>absurd h.2 (by show ¬(32:Int)=47;decide)⟩
  |false =>
   have hap:Ex.apartF t u=false:=hs.resolve_left (by simp);rw[if_neg (by simp),nil_append];obtain⟨q0,q1,q2,q3,q4⟩:=Ex.txt_head hu hn (bp r);unfold Ex.apartF at hap;simp only[Bool.or_eq_false_iff,Bool.and_eq_false_iff]at hap;refine⟨fun hw=>.inr ?_,fun hsl h=>?_⟩
   ·rw[q1];cases hwy:wordyB (bAt (txtL u) 0) with
    |false=>rfl
    |true =>
     have:=q3 hwy;rw[hw,this]at hap;simp at hap
   ·have:=q4 (q1▸h.2);rw[hsl,this]at hap;simp at hap
theorem rh:∀{l:List (Bool×Tok)} (p:Option Tok) (q:Nat),iZ l→dk p l →
  ∃ts,aZ q (bp l)=(ts,q+(bp l).length,0)∧ts.map cJ=l.map fun u=>cJ u.2
 |[],p,q,_,_=>⟨[],gQ rfl,rfl⟩
 |(b,t)::r,p,q,h,hf=>by
  obtain⟨c1,c2,c3⟩:=h (b,t) (mem_cons_self ..);have hr:iZ r:=fun u hu=>h u (mem_cons_of_mem _ hu);have hA:=DQ hf.2 hr;obtain⟨t0,o1,o2,o3,o4⟩:=Ex.one_text c1 c2 c3 hA
  have main:∀q:Nat,∃ts,aZ q (txtL t++bp r)=(ts,q+(txtL t++bp r).length,0)∧ts.map cJ=((b,t)::r).map fun u=>cJ u.2:=by
   intro q;obtain⟨ts,i1,i2⟩:=rh (some t) (q+(txtL t).length) hr hf.2;have hk:=tu o4 o3 o1 q;rw[List.drop_left,i1]at hk;refine⟨{ t0 with pos:=(q:Int) }::ts,?_,?_⟩
   ·rw[hk,length_append,Nat.add_assoc]
   ·rw[map_cons,map_cons,i2,←o2];rfl
  unfold bp;cases b with
  |true =>
   rw[if_pos rfl];obtain⟨ts,m1,m2⟩:=main (q+1);refine⟨ts,?_,m2⟩;rw[ji (bs:=[32]) (by intro c hc;simp at hc;subst hc;rfl)];show aZ (q+1) _=_;rw[m1];simp only[length_append,length_cons,List.length_nil];congr 2;omega
  |false =>
   rw[if_neg (by simp),nil_append];exact main q
def sg (s:ByteArray):Bool×Tok:=(false,ax s)
def jz (s:ByteArray):Prop:=cP (ax s)=0∧s≠⟨#[47]⟩
theorem ca:jz az:=⟨by decide +kernel,by decide⟩
theorem gP:jz aS:=⟨by decide +kernel,by decide⟩
theorem g9:jz aC:=⟨by decide +kernel,by decide⟩
theorem JY:jz CD:=⟨by decide +kernel,by decide⟩
theorem oY:jz du:=⟨by decide +kernel,by decide⟩
theorem Dt:jz tJ:=⟨by decide +kernel,by decide⟩
theorem dG {s:ByteArray}(h:jz s)(r:List (Bool×Tok)):bp (sg s::r)=aa s++bp r:=by
 rw[sg,bp,if_neg (by simp),nil_append,Ex.txt_sgn h.1]
theorem rQ {s:ByteArray}(h:bj s=true)(b:Bool)(r:List (Bool×Tok)):bp ((b,nameT s)::r)=(if b=true then[32] else[])++(aa s++bp r):=by
 rw[bp,Ex.txt_name h]
theorem uD {s:ByteArray}(h:bj s=true)(r:List (Bool×Tok)):bp ((false,nameT s)::r)=aa s++bp r:=rQ h false r
theorem Qe {s:ByteArray}(h:bj s=true)(r:List (Bool×Tok)):bp ((true,nameT s)::r)=32::(aa s++bp r):=rQ h true r
theorem Qf {s:ByteArray}(h:jz s)(r:List (Bool×Tok)):bp ((true,ax s)::r)=32::(aa s++bp r):=by
 rw[bp,Ex.txt_sgn h.1];rfl
theorem FA {n:Int}(h:0≤n)(h2:n<18446744073709551616)(r:List (Bool×Tok)):bp ((false,Ex.numT n)::r)=aa (nk n)++bp r:=by
 obtain⟨k,rfl⟩:=eq_ofNat_of_zero_le h;rw[bp,if_neg (by simp),nil_append,Ex.txt_num h,←Ex.decS_dL (by omega)];rfl
theorem dI {s:ByteArray}(h:jz s):cP (sg s).2=0∧0≤(sg s).2.n∧(sg s).2.n<18446744073709551616:=⟨h.1,by show(0:Int)≤0;decide,by show(0:Int)<_;decide⟩
theorem QJ {s:ByteArray}(h:jz s):cP (true,ax s).2=0∧0≤(true,ax s).2.n∧(true,ax s).2.n<18446744073709551616:=dI h
theorem lV {s:ByteArray}(h:bj s=true)(b:Bool):cP (b,nameT s).2=0∧0≤(b,nameT s).2.n∧(b,nameT s).2.n<18446744073709551616:=⟨Ex.check_name h,by show(0:Int)≤0;decide,by show(0:Int)<_;decide⟩
theorem F1 {n:Int}(h:0≤n)(h2:n<18446744073709551616):cP (false,Ex.numT n).2=0∧0≤(false,Ex.numT n).2.n∧(false,Ex.numT n).2.n<18446744073709551616:=⟨Ex.check_num n,h,h2⟩
theorem TS (p:Option Tok){s:ByteArray}(h:jz s):pX p (ax s)=false:=by
 cases p with
 |none=>rfl
 |some t=>exact Ex.sep_sgn t h.2
theorem dE {p:Option Tok}{s:ByteArray}{r:List (Bool×Tok)}(h:jz s)(hr:dk (some (ax s)) r):dk p (sg s::r):=⟨.inr (TS p h),hr⟩
theorem jD {s:ByteArray}{b:Bool}{t:Tok}{r:List (Bool×Tok)}(h:jz s)(hr:dk (some t) r):dk (some (ax s)) ((b,t)::r):=⟨.inr (Ex.sgn_sep t h.2),hr⟩
theorem rJ {p:Option Tok}{t:Tok}{r:List (Bool×Tok)}(hr:dk (some t) r):dk p ((true,t)::r):=⟨.inl rfl,hr⟩
def lY (v:Val):List (Bool×Tok):=(valT v).map fun t=>(false,t)
theorem oZ:jz Ex.minusS:=⟨Ex.sgnM,Ex.minus_ne⟩
theorem JZ:jz Ex.plusS:=⟨Ex.sgnP,Ex.plus_ne⟩
theorem ov {p:Option Tok}(hp:∀t,pX p t=false){r:List (Bool×Tok)}(hr:∀u,dk (some u) r)(v:Val):dk p (lY v++r):=by
 have first:∀{t:Tok} {r:List (Bool×Tok)},dk (some t) r→dk p ((false,t)::r):=fun h=>⟨.inr (hp _),h⟩
 have tail:∀t:Tok,dk (some t) ((Ex.tailT v.add).map (fun t=>(false,t))++r):=fun t=>by
  unfold Ex.tailT;split
  ·exact hr t
  ·split
   ·exact dE oZ (jD oZ (hr _))
   ·exact dE JZ (jD JZ (hr _))
 unfold lY valT;split
 ·split
  ·exact dE oZ (jD oZ (hr _))
  ·exact first (hr _)
 ·rw[map_cons,cons_append,map_append,append_assoc];refine first ?_;unfold Ex.midT;by_cases hm:v.minus=emp
  ·rw[if_pos hm];exact tail _
  ·rw[if_neg hm];exact dE oZ (jD oZ (tail _))
theorem BX:∀{l:List Tok} {p:Option Tok},dk p (l.map fun t=>(false,t))→Ex.rendL p l=bp (l.map fun t=>(false,t))
 |[],p,_=>rfl
 |t::r,p,h=>by
  have hs:pX p t=false:=h.1.resolve_left (by simp);rw[Ex.rendL,map_cons,bp,BX h.2,hs]
theorem zS {v:Val}(h:(Ex.printF v).2=0)(hv:ValOk v):bp (lY v)=aa (Ex.printF v).1:=by
 have e:=Ex.val_rend (v:=v) (s:=(Ex.printF v).1) (by rw[←h]) hv;rw[e];have:=ov (p:=none) (fun t=>rfl) (r:=[]) (fun u=>trivial) v;rw[append_nil]at this;exact(BX this).symm
theorem rk {v:Val}(hv:ValOk v):iZ (lY v):=fun u hu=>by
 obtain⟨t,ht,rfl⟩:=List.mem_map.1 hu;exact Ex.val_toks hv t ht
def spB:List (Bool×Tok)→List (Bool×Tok)
 |[]=>[]
 |(_,t)::r=>(true,t)::r
theorem TU {a b:List (Bool×Tok)}(h:a≠[]):spB (a++b)=spB a++b:=by
 cases a with
 |nil=>exact absurd rfl h
 |cons x a=>rfl
theorem xL {l:List (Bool×Tok)}{t:Tok}{r:List (Bool×Tok)}(h:l=(false,t)::r):bp (spB l)=32::bp l:=by
 rw[h,spB,bp,bp];rfl
theorem xN {l:List (Bool×Tok)}(h:iZ l):iZ (spB l):=by
 cases l with
 |nil=>exact h
 |cons x l=>exact aK (h x (mem_cons_self ..)) fun u hu=>h u (mem_cons_of_mem _ hu)
theorem xB {p q:Option Tok}{l:List (Bool×Tok)}(h:dk p l):dk q (spB l):=by
 cases l with
 |nil=>trivial
 |cons x l=>exact⟨.inl rfl,h.2⟩
theorem qb (l:List (Bool×Tok)):(spB l).map (·.2)=l.map (·.2):=by
 cases l<;>rfl
def iy (o:OpV):List (Bool×Tok):=if o.lo=true then sg aC::(false,nameT my)::sg aC::lY o.val else sg aS::lY o.val
def ui (o:OpV)(silent:Bool):List (Bool×Tok):=if o.md=0 then[] else if silent=true then[sg az,(true,nameT (ak 3 o.md).1)] else[sg az,(true,nameT (ak 3 o.md).1),(true,ax aS),(false,Ex.numT o.amt)]
def fX (kd n:Int):List (Bool×Tok):=if(ak kd n).2=0 then[(false,nameT (ak kd n).1)] else[sg aS,(false,Ex.numT n)]
def xj (o:OpV):List (Bool×Tok):=sg CD::(false,nameT (dy o.r)) ::
 (
  if o.mode=1 then sg az::(spB (iy o)++[sg du,sg tJ])
  else if o.mode=2 then sg du::sg az::spB (iy o)
  else if o.mode=3 then sg az::(true,nameT (dy o.m))::((if o.md=1∧o.amt = -1 then[] else ui o (o.amt == -1))++[sg du])
  else if(o.add=0∧o.plus=emp∧o.minus=emp)∧o.lo=false then[sg du]
  else sg az::(spB (iy o)++[sg du]))
def gB (o:OpV):List (Bool×Tok) :=
 if o.kind=1 then(false,nameT (dy o.r))::ui o (decide (5≤o.md)&&decide (o.amt=0))
 else if o.kind=2 then iy o++ui o false
 else if o.kind=3 then(if ly o=true then sg aS::lY o.val else lY o.val)
 else if o.kind=4 then fX 2 o.n
 else if o.kind=6 then fX 6 o.n
 else if o.kind=7 then fX 4 o.n
 else if o.kind=8 then fX 7 o.n
 else if o.kind=9 then fX 8 o.n
 else xj o
theorem EN:bj my=true:=by decide +kernel
theorem tH:aa dX=[44,32]:=rfl
theorem lM:aa az=[44]:=rfl
theorem U8:aa aS=[35]:=rfl
theorem Sh:aa Dq=[32,35]:=rfl
theorem Sf:aa aC=[58]:=rfl
theorem Ky:aa brS=[91]:=rfl
theorem A8:aa CD=[91]:=rfl
theorem Sg:aa ekS=[93]:=rfl
theorem A9:aa du=[93]:=rfl
theorem Xu:aa SB=[93,33]:=rfl
theorem Xv:aa Ok=[93,44,32]:=rfl
theorem NQ:aa tJ=[33]:=rfl
theorem b_lo:aa EQ=[58,108,111,49,50,58]:=rfl
theorem Y1:aa my=[108,111,49,50]:=rfl
theorem zb (o:OpV):∃t r,iy o=(false,t)::r:=by
 unfold iy;split
 ·exact⟨_,_,rfl⟩
 ·exact⟨_,_,rfl⟩
theorem Fz {o:OpV}(h:(prO o).2=0)(hv:ValOk o.val):bp (iy o)=aa (lE o):=by
 have e:bp (lY o.val)=aa (mS o):=zS h hv;unfold iy lE;split
 ·rw[dG g9,rQ EN,dG g9,e,aV];rfl
 ·rw[dG gP,e,aV]
theorem F0 {o:OpV}(hv:ValOk o.val):iZ (iy o):=by
 unfold iy;split
 ·exact aK (dI g9) (aK (lV EN _) (aK (dI g9) (rk hv)))
 ·exact aK (dI gP) (rk hv)
theorem Ep {p:Option Tok}{r:List (Bool×Tok)}(hr:∀u,dk (some u) r)(o:OpV):dk p (iy o++r):=by
 unfold iy;split
 ·exact dE g9 (jD g9 (dE g9 (ov (fun t=>Ex.sgn_sep t g9.2) hr _)))
 ·exact dE gP (ov (fun t=>Ex.sgn_sep t gP.2) hr _)
def JP (o:OpV):Prop:=o.md=0∨(ak 3 o.md).2=0
theorem zQ {o:OpV}{s:Bool}(h:JP o)(ha:s=true∨0≤o.amt∧o.amt<100):bp (ui o s)=aa (mA o s):=by
 unfold ui mA;split
 ·rfl
 ·rename_i hm;have hn:=h.resolve_left hm;have hs:=(jc (.inr (.inl rfl)) hn).1;split
  ·rw[dG ca,rQ hs,aV,tH,lM,bp,append_nil];rfl
  ·rename_i hx;obtain⟨a0,a1⟩:=ha.resolve_left (by simpa using hx);rw[dG ca,rQ hs,Qf gP,FA a0 (by omega),aV,aV,aV,tH,lM,Sh,U8,bp,append_nil];simp
theorem Ak {o:OpV}{s:Bool}(h:JP o)(ha:s=true∨0≤o.amt∧o.amt<100):iZ (ui o s):=by
 unfold ui;split
 ·exact dc
 ·rename_i hm;have hs:=(jc (.inr (.inl rfl)) (h.resolve_left hm)).1;split
  ·exact aK (dI ca) (aK (lV hs _) dc)
  ·rename_i hx;obtain⟨a0,a1⟩:=ha.resolve_left (by simpa using hx);exact aK (dI ca) (aK (lV hs _) (aK (QJ gP) (aK (F1 a0 (by omega)) dc)))
theorem yI {p:Option Tok}(hp:∃t,p=some t){r:List (Bool×Tok)}(hr:∀u,dk (some u) r)(o:OpV)(s:Bool):dk p (ui o s++r):=by
 unfold ui;split
 ·obtain⟨t,rfl⟩:=hp;exact hr t
 ·split
  ·exact dE ca (rJ (hr _))
  ·exact dE ca (rJ (rJ (jD gP (hr _))))
theorem mI {k n:Int}(hk:k=2∨k=3∨k=4∨k=6∨k=7∨k=8)(h:(ak k n).2=0∨0≤n∧n<100):bp (fX k n)=aa (dF k n):=by
 unfold fX dF;split
 ·rename_i hn;rw[rQ (jc hk hn).1,bp,append_nil];rfl
 ·rename_i hn;obtain⟨a0,a1⟩:=h.resolve_left hn;rw[dG gP,FA a0 (by omega),aV,bp,append_nil]
theorem mN {k n:Int}(hk:k=2∨k=3∨k=4∨k=6∨k=7∨k=8)(h:(ak k n).2=0∨0≤n∧n<100):iZ (fX k n):=by
 unfold fX;split
 ·rename_i hn;exact aK (lV (jc hk hn).1 _) dc
 ·rename_i hn;obtain⟨a0,a1⟩:=h.resolve_left hn;exact aK (dI gP) (aK (F1 a0 (by omega)) dc)
theorem mq {p:Option Tok}(hp:∀t,pX p t=false){r:List (Bool×Tok)}(hr:∀u,dk (some u) r)(k n:Int):dk p (fX k n++r):=by
 unfold fX;split
 ·exact⟨.inr (hp _),hr _⟩
 ·exact dE gP (jD gP (hr _))
end Go.Proofs.YtnhbidpdadkcjaaGreatDoor
namespace Go.Proofs.YtnhbidpdadkcjaaGreatDoor
open Ex (ax nameT valT txtL ValOk pX)
theorem Q3 {o:OpV}(ho:okO o)(h:(prO o).2=0):ValOk o.val:=Ex.print_ok (s:=(Ex.printF o.val).1) (by rw[←h];rfl) ho.2.1 ho.2.2
theorem mods_fin:∀j:Fin 13,j.val=0∨(ak 3 (j.val:Int)).2=0:=by decide +kernel
theorem qN {o:OpV}(h0:0≤o.md)(h1:o.md≤12):JP o:=by
 obtain⟨k,hk⟩:=eq_ofNat_of_zero_le h0;rcases mods_fin ⟨k,by omega⟩ with h | h
 ·exact .inl (by simp only at h;omega)
 ·exact .inr (by rw[hk];exact h)
theorem vo {o:OpV}(h:eA o=true):eO o.m=true∧o.m.sp=false∧(-1≤o.amt∧o.amt≤63)∧(o.md=1∨o.md=7∨o.md=11∨o.md=12):=by
 unfold eA at h;split at h
 ·cases h
 ·rename_i hc;simp only[not_or]at hc;obtain⟨c1,c2,c3,c4⟩:=hc;refine⟨by simpa using c1,by simpa using c2,⟨by omega,by omega⟩,?_⟩;split at h
  ·rename_i hm;rcases hm with hm | hm<;>simp[hm]
  ·split at h
   ·rename_i hm;rcases hm with hm | hm<;>simp[hm]
   ·cases h
structure Nw (o:OpV):Prop where
 r:eO o.r=true
 v:ValOk o.val
 p:(prO o).2=0
 i:o.mode=3→eA o=true
theorem Qd {o:OpV}(h:Nw o):bp (xj o)=aa (iz o):=by
 obtain⟨t,r,hl⟩:=zb o;have el:=Fz h.p h.v;have hne:iy o≠[]:=by rw[hl];simp
 have es:bp (spB (iy o))=32::aa (lE o):=by rw[xL hl,el]
 have hr:=(gF h.r).1;unfold xj iz;rw[dG JY,uD hr];split
 ·rw[dG ca,ib,es,dG oY,dG Dt,bp];simp only[aV,Ky,A8,tH,lM,A9,NQ,Xu,append_assoc,cons_append,nil_append]
 split
 ·rw[dG oY,dG ca,es];simp only[aV,Ky,A8,tH,lM,A9,NQ,Xv,append_assoc,cons_append,nil_append]
 split
 ·rename_i h3;obtain⟨m1,m2,m3,m4⟩:=vo (h.i h3);have hm:=(gF m1).1;rw[dG ca,Qe hm];split
  ·rw[nil_append,dG oY,bp];simp only[aV,Ky,A8,tH,lM,Sg,A9,append_assoc,cons_append,nil_append,append_nil]
  ·have em:=zQ (o:=o) (s:=o.amt == -1) (qN (by omega) (by omega)) (by
    rcases Int.lt_or_le o.amt 0 with h0 | h0
    ·exact .inl (by
      have:o.amt = -1:=by omega
      rw[this];rfl)
    ·exact .inr ⟨h0,by omega⟩)
   rw[ib,em,dG oY,bp];simp only[aV,Ky,A8,tH,lM,Sg,A9,append_assoc,cons_append,nil_append,append_nil]
 split
 ·rw[dG oY,bp];simp only[aV,Ky,A8,Sg,A9,append_assoc,cons_append,nil_append,append_nil]
 ·rw[dG ca,ib,es,dG oY,bp];simp only[aV,Ky,A8,tH,lM,Sg,A9,append_assoc,cons_append,nil_append,append_nil]
theorem QI {o:OpV}(h:Nw o):iZ (xj o):=by
 have hr:=(gF h.r).1;have hl:=xN (F0 h.v);unfold xj;refine aK (dI JY) (aK (lV hr _) ?_);split
 ·exact aK (dI ca) (iW hl (aK (dI oY) (aK (dI Dt) dc)))
 split
 ·exact aK (dI oY) (aK (dI ca) hl)
 split
 ·rename_i h3;obtain⟨m1,m2,m3,m4⟩:=vo (h.i h3);refine aK (dI ca) (aK (lV (gF m1).1 _) (iW ?_ (aK (dI oY) dc)));split
  ·exact dc
  ·exact Ak (qN (by omega) (by omega)) (by
    rcases Int.lt_or_le o.amt 0 with h0 | h0
    ·exact .inl (by
      have:o.amt = -1:=by omega
      rw[this];rfl)
    ·exact .inr ⟨h0,by omega⟩)
 split
 ·exact aK (dI oY) dc
 ·exact aK (dI ca) (iW hl (aK (dI oY) dc))
theorem Ot {p:Option Tok}{r:List (Bool×Tok)}(hr:∀u,dk (some u) r)(o:OpV):dk p (xj o++r):=by
 have hek:∀{r:List (Bool×Tok)},(∀u,dk (some u) r)→∀u,dk (some u) (sg du::r):=fun h u=>dE oY (h _);have hb:∀u,dk (some u) (sg tJ::r):=fun u=>dE Dt (hr _);have hne:iy o≠[]:=by obtain⟨t,r,hl⟩:=zb o;rw[hl];simp
 have low:∀{q:Option Tok} {r:List (Bool×Tok)},(∀u,dk (some u) r)→dk q (spB (iy o)++r):=fun h=>by
  rw[←TU hne];exact xB (p:=none) (Ep h o)
 unfold xj;rw[cons_append,cons_append];refine dE JY (jD JY ?_);split
 ·rw[cons_append,append_assoc];exact dE ca (low (hek hb))
 split
 ·rw[cons_append,cons_append];exact dE oY (dE ca (low hr))
 split
 ·rw[cons_append,cons_append,append_assoc];refine dE ca (rJ ?_);split
  ·exact hek hr _
  ·exact yI ⟨_,rfl⟩ (hek hr) o _
 split
 ·exact hek hr _
 ·rw[cons_append,append_assoc];exact dE ca (low (hek hr))
structure OpOk (o:OpV):Prop where
 ok:okO o
 chk:fh o=0
theorem OpOk.val {o:OpV}(h:OpOk o):ValOk o.val:=Q3 h.ok (cY h.chk).2.1
theorem OpOk.mem {o:OpV}(h:OpOk o)(hm:fj o=true):Nw o:=by
 obtain⟨h1,h2,h3⟩:=oC hm;refine⟨h1,h.val,(cY h.chk).2.1,fun h3'=>?_⟩;rcases h3 with h | h | h | h
 ·omega
 ·omega
 ·omega
 ·exact h.2
theorem OpOk.n {o:OpV}(h:OpOk o)(hk:o.kind=4∨o.kind=6∨o.kind=7∨o.kind=8∨o.kind=9):(0≤o.n∧o.n≤ka o.kind):=by
 obtain⟨-,hc⟩:=cI (cY h.chk).1;rcases hc with ⟨k,-⟩ | ⟨k,-⟩ | k | ⟨-,n0,n1⟩ | ⟨k,-⟩
 ·omega
 ·omega
 ·omega
 ·exact⟨n0,n1⟩
 ·omega
theorem OpOk.named {o:OpV}(h:OpOk o):(o.kind=4→(ak 2 o.n).2=0)∧(o.kind=6→(ak 6 o.n).2=0)∧(o.kind=7∨o.kind=8∨o.kind=9→0≤o.n∧o.n<100):=by
 refine⟨fun k=>?_,fun k=>?_,fun k=>?_⟩
 ·obtain⟨n0,n1⟩:=h.n (by omega);rw[k]at n1;exact BH n0 n1
 ·obtain⟨n0,n1⟩:=h.n (by omega);rw[k]at n1;exact EW n0 n1
 ·obtain⟨n0,n1⟩:=h.n (by omega);refine⟨n0,?_⟩;rcases k with k | k | k<;>rw[k]at n1
  ·have:ka 7=15:=rfl;omega
  ·have:ka 8=31:=rfl;omega
  ·have:ka 9=5:=rfl;omega
theorem OpOk.amount {o:OpV}(h:OpOk o)(hk:o.kind=1∨o.kind=2):JP o∧0≤o.amt∧o.amt<100:=by
 obtain⟨-,hc⟩:=cI (cY h.chk).1;rcases hc with ⟨k,-,ha⟩ | ⟨k,ha⟩ | k | ⟨k,-⟩ | ⟨k,-⟩
 ·obtain⟨⟨a,b⟩,c,d⟩:=rB ha;exact⟨qN a b,c,d⟩
 ·obtain⟨⟨a,b⟩,c,d⟩:=rB ha;exact⟨qN a (by omega),c,d⟩
 ·omega
 ·omega
 ·omega
theorem OpOk.reg {o:OpV}(h:OpOk o)(hk:o.kind=1):eO o.r=true:=by
 obtain⟨-,hc⟩:=cI (cY h.chk).1;rcases hc with ⟨k,hr,ha⟩ | ⟨k,ha⟩ | k | ⟨k,-⟩ | ⟨k,-⟩
 ·exact hr
 all_goals omega
theorem OpOk.isMem {o:OpV}(h:OpOk o)(hk:¬o.kind=1∧¬o.kind=2∧¬o.kind=3∧¬o.kind=4∧¬o.kind=6∧¬o.kind=7∧¬o.kind=8∧¬o.kind=9):o.kind=5∧fj o=true:=by
 obtain⟨-,hc⟩:=cI (cY h.chk).1;rcases hc with ⟨k,-⟩ | ⟨k,-⟩ | k | ⟨k,-⟩ | ⟨k,hm⟩
 ·omega
 ·omega
 ·omega
 ·omega
 ·exact⟨k,hm⟩
theorem vL {o:OpV}(h:OpOk o):bp (gB o)=aa (aO o):=by
 have hv:=h.val;have hp:=(cY h.chk).2.1;obtain⟨n4,n6,n7⟩:=h.named;have ev:bp (lY o.val)=aa (mS o):=zS hp hv;unfold gB aO;split
 ·rename_i k;obtain⟨m,a⟩:=h.amount (.inl k);rw[uD (gF (h.reg k)).1,zQ m (.inr a),aV]
 split
 ·rename_i k;obtain⟨m,a⟩:=h.amount (.inr k);rw[ib,Fz hp hv,zQ m (.inr a),aV]
 split
 ·split
  ·rw[dG gP,ev,aV]
  ·exact ev
 split
 ·rename_i k;exact mI (.inl rfl) (.inl (n4 k))
 split
 ·rename_i k;exact mI (.inr (.inr (.inr (.inl rfl)))) (.inl (n6 k))
 split
 ·rename_i k;exact mI (.inr (.inr (.inl rfl))) (.inr (n7 (.inl k)))
 split
 ·rename_i k;exact mI (.inr (.inr (.inr (.inr (.inl rfl))))) (.inr (n7 (.inr (.inl k))))
 split
 ·rename_i k;exact mI (.inr (.inr (.inr (.inr (.inr rfl))))) (.inr (n7 (.inr (.inr k))))
 ·rename_i h1 h2 h3 h4 h6 h7 h8 h9;exact Qd (h.mem (h.isMem ⟨h1,h2,h3,h4,h6,h7,h8,h9⟩).2)
theorem vU {o:OpV}(h:OpOk o):iZ (gB o):=by
 have hv:=h.val;obtain⟨n4,n6,n7⟩:=h.named;unfold gB;split
 ·rename_i k;obtain⟨m,a⟩:=h.amount (.inl k);exact aK (lV (gF (h.reg k)).1 _) (Ak m (.inr a))
 split
 ·rename_i k;obtain⟨m,a⟩:=h.amount (.inr k);exact iW (F0 hv) (Ak m (.inr a))
 split
 ·split
  ·exact aK (dI gP) (rk hv)
  ·exact rk hv
 split
 ·rename_i k;exact mN (.inl rfl) (.inl (n4 k))
 split
 ·rename_i k;exact mN (.inr (.inr (.inr (.inl rfl)))) (.inl (n6 k))
 split
 ·rename_i k;exact mN (.inr (.inr (.inl rfl))) (.inr (n7 (.inl k)))
 split
 ·rename_i k;exact mN (.inr (.inr (.inr (.inr (.inl rfl))))) (.inr (n7 (.inr (.inl k))))
 split
 ·rename_i k;exact mN (.inr (.inr (.inr (.inr (.inr rfl))))) (.inr (n7 (.inr (.inr k))))
 ·rename_i h1 h2 h3 h4 h6 h7 h8 h9;exact QI (h.mem (h.isMem ⟨h1,h2,h3,h4,h6,h7,h8,h9⟩).2)
theorem Bm {p:Option Tok}(hp:∀t,pX p t=false){r:List (Bool×Tok)}(hr:∀u,dk (some u) r)(o:OpV):dk p (gB o++r):=by
 unfold gB;split
 ·rw[cons_append];exact⟨.inr (hp _),yI ⟨_,rfl⟩ hr o _⟩
 split
 ·rw[append_assoc];refine Ep (fun u=>yI ⟨_,rfl⟩ hr o _) o
 split
 ·split
  ·exact dE gP (ov (fun t=>Ex.sgn_sep t gP.2) hr _)
  ·exact ov hp hr _
 split
 ·exact mq hp hr _ _
 split
 ·exact mq hp hr _ _
 split
 ·exact mq hp hr _ _
 split
 ·exact mq hp hr _ _
 split
 ·exact mq hp hr _ _
 ·exact Ot hr o
def oK:List OpV→List (Bool×Tok)
 |[]=>[]
 |[o]=>gB o
 |o::p::r=>gB o++sg az::spB (oK (p::r))
theorem uN {o:OpV}(h:OpOk o):∃t r,gB o=(false,t)::r:=by
 obtain⟨tl,rl,hl⟩:=zb o
 have hv:∀v:Val,∃t r,lY v=(false,t)::r:=fun v=>by
  unfold lY valT;split
  ·split
   ·exact⟨_,_,rfl⟩
   ·exact⟨_,_,rfl⟩
  ·exact⟨_,_,rfl⟩
 have hn:∀k n,∃t r,fX k n=(false,t)::r:=fun k n=>by
  unfold fX;split
  ·exact⟨_,_,rfl⟩
  ·exact⟨_,_,rfl⟩
 unfold gB;split
 ·exact⟨_,_,rfl⟩
 split
 ·exact⟨tl,rl++ui o false,by rw[hl];rfl⟩
 split
 ·split
  ·exact⟨_,_,rfl⟩
  ·exact hv _
 split
 ·exact hn _ _
 split
 ·exact hn _ _
 split
 ·exact hn _ _
 split
 ·exact hn _ _
 split
 ·exact hn _ _
 ·exact⟨_,_,rfl⟩
theorem PI:∀{p:OpV} {r:List OpV},OpOk p→∃t x,oK (p::r)=(false,t)::x
 |p,[],h=>uN h
 |p,q::r,h=>by
  obtain⟨t,x,e⟩:=uN h;exact⟨t,x++sg az::spB (oK (q::r)),by rw[oK,e];rfl⟩
theorem join_cons (x y:ByteArray)(r:List ByteArray):cO (x::y::r)=x++dX++cO (y::r):=by
 show r.foldl _ (x++dX++y)=x++dX++r.foldl _ y
 have:∀(r:List ByteArray) (a b:ByteArray),r.foldl (fun a y=>a++dX++y) (a++b)=a++r.foldl (fun a y=>a++dX++y) b:=by
  intro r
  induction r with
  |nil=>intro a b;rfl
  |cons z r ih =>
   intro a b;rw[List.foldl_cons,List.foldl_cons,show a++b++dX++z=a++(b++dX++z) by simp only[ByteArray.append_assoc],ih]
 exact this r (x++dX) y
theorem zR:∀{l:List OpV},(∀o∈l,OpOk o)→bp (oK l)=aa (cO (l.map aO))
 |[],_=>rfl
 |[o],h=>vL (h o (by simp))
 |o::p::r,h=>by
  obtain⟨t,x,e⟩:=PI (p:=p) (r:=r) (h p (by simp));have ih:=zR (l:=p::r) fun q hq=>h q (mem_cons_of_mem _ hq);rw[oK,ib,vL (h o (by simp)),dG ca,xL e,ih,show cO ((o::p::r).map aO)=aO o++dX++cO ((p::r).map aO) from join_cons _ _ _,aV,aV,tH,lM];simp
theorem Am:∀{l:List OpV},(∀o∈l,OpOk o)→iZ (oK l)
 |[],_=>dc
 |[o],h=>vU (h o (by simp))
 |o::p::r,h=>by
  rw[oK];exact iW (vU (h o (by simp))) (aK (dI ca) (xN (Am fun q hq=>h q (mem_cons_of_mem _ hq))))
theorem yJ:∀{l:List OpV} {p:Option Tok},(∀t,pX p t=false)→dk p (oK l)
 |[],_,_=>trivial
 |[o],p,hp=>by
  have:=Bm hp (r:=[]) (fun u=>trivial) o
  rwa [append_nil]at this
 |o::q::r,p,hp=>by
  rw[oK];exact Bm hp (fun u=>dE ca (xB (p:=none) (yJ fun t=>rfl))) o
def txT (o:OpV):List Tok:=(gB o).map (·.2)
def qW:List OpV→List Tok
 |[]=>[]
 |[o]=>txT o
 |o::p::r=>txT o++ax az::qW (p::r)
theorem zC:∀l:List OpV,(oK l).map (·.2)=qW l
 |[]=>rfl
 |[o]=>rfl
 |o::p::r=>by
  rw[oK,qW,map_append,map_cons,qb,zC (p::r)];rfl
def jO (l:List (Bool×Tok)):Prop:=∀u∈l,cJ u.2=u.2
theorem cX:jO []:=fun u hu=>by cases hu
theorem aI {x:Bool×Tok}{l:List (Bool×Tok)}(h:cJ x.2=x.2)(hl:jO l):jO (x::l):=fun u hu=>by
 rcases List.mem_cons.1 hu with rfl | hu
 ·exact h
 ·exact hl u hu
theorem iJ {a b:List (Bool×Tok)}(ha:jO a)(hb:jO b):jO (a++b):=fun u hu=>(List.mem_append.1 hu).elim (ha u) (hb u)
theorem tK {l:List (Bool×Tok)}(h:jO l):jO (spB l):=by
 cases l with
 |nil=>exact h
 |cons x l=>exact aI (h x (by simp)) fun u hu=>h u (by simp[hu])
theorem oe (v:Val):jO (lY v):=fun u hu=>by
 obtain⟨t,ht,rfl⟩:=List.mem_map.1 hu;have e:=Ex.bare_valT v;obtain⟨i,hi,ei⟩:=List.mem_iff_getElem.1 ht;have:((valT v).map cJ)[i]? = (valT v)[i]?:=by rw[e]
 rw[getElem?_map,List.getElem?_eq_getElem hi]at this;simp only[Option.map_some,Option.some.injEq]at this;rw[←ei];exact this
theorem Ba (o:OpV):jO (iy o):=by
 unfold iy;split
 ·exact aI rfl (aI rfl (aI rfl (oe _)))
 ·exact aI rfl (oe _)
theorem uR (o:OpV)(s:Bool):jO (ui o s):=by
 unfold ui;split
 ·exact cX
 ·split
  ·exact aI rfl (aI rfl cX)
  ·exact aI rfl (aI rfl (aI rfl (aI rfl cX)))
theorem kW (k n:Int):jO (fX k n):=by
 unfold fX;split
 ·exact aI rfl cX
 ·exact aI rfl (aI rfl cX)
theorem ya (o:OpV):jO (gB o):=by
 have hl:=tK (Ba o)
 have hm:jO (xj o):=by
  unfold xj;refine aI rfl (aI rfl ?_);split
  ·exact aI rfl (iJ hl (aI rfl (aI rfl cX)))
  split
  ·exact aI rfl (aI rfl hl)
  split
  ·refine aI rfl (aI rfl (iJ ?_ (aI rfl cX)));split
   ·exact cX
   ·exact uR o _
  split
  ·exact aI rfl cX
  ·exact aI rfl (iJ hl (aI rfl cX))
 unfold gB;split
 ·exact aI rfl (uR o _)
 split
 ·exact iJ (Ba o) (uR o _)
 split
 ·split
  ·exact aI rfl (oe _)
  ·exact oe _
 split
 ·exact kW _ _
 split
 ·exact kW _ _
 split
 ·exact kW _ _
 split
 ·exact kW _ _
 split
 ·exact kW _ _
 ·exact hm
theorem DV:∀l:List OpV,jO (oK l)
 |[]=>cX
 |[o]=>ya o
 |o::p::r=>by
  rw[oK];exact iJ (ya o) (aI rfl (tK (DV (p::r))))
end Go.Proofs.YtnhbidpdadkcjaaGreatDoor
namespace Go.Proofs.YtnhbidpdadkcjaaGreatDoor
open Ex (ax nameT valT ValOk)
theorem oa (s:ByteArray)(r:List Tok):atF (ax s::r) 4 0=s:=rfl
theorem Y0 (s:ByteArray)(r:List Tok):atF (ax s::r) 1 0=emp:=rfl
theorem Jv (s:ByteArray)(r:List Tok):atF (nameT s::r) 1 0=s:=rfl
theorem NO (s:ByteArray)(r:List Tok):atF (nameT s::r) 4 0=emp:=rfl
theorem YZ (n:Int)(r:List Tok):atF (Ex.numT n::r) 1 0=emp:=rfl
theorem YV (n:Int)(r:List Tok):atF (Ex.numT n::r) 4 0=emp:=rfl
theorem Jw (t:Tok)(r:List Tok)(k:Int)(n:Nat):atF (t::r) k (n+1)=atF r k n:=rfl
theorem qn (k:Int)(n:Nat):atF [] k n=emp:=by unfold atF;simp
def Tail (r:List Tok):Prop:=r=[]∨∃r',r=ax az::r'∧¬(ag 3 3 (atF r' 1 0)).2=0
theorem sP (r:List Tok):Ex.Ends (ax az::r) 0:=Ex.ends_sign fun k h1 h2=>Ex.sign_all (p:=fun s=>az≠s) (by decide) (by decide) (by decide) (by decide) (by decide) (by decide) (by decide) (by decide) (by decide) (by decide) k h1 h2
theorem xA (r:List Tok):Ex.Ends (ax du::r) 0:=Ex.ends_sign fun k h1 h2=>Ex.sign_all (p:=fun s=>du≠s) (by decide) (by decide) (by decide) (by decide) (by decide) (by decide) (by decide) (by decide) (by decide) (by decide) k h1 h2
theorem Tail.ends {r:List Tok}(h:Tail r):Ex.Ends r 0:=by
 rcases h with rfl | ⟨r',rfl,-⟩
 ·exact Ex.ends_emp rfl
 ·exact sP r'
theorem Tail.four {r:List Tok}(h:Tail r):atF r 4 0=emp∨atF r 4 0=az:=by
 rcases h with rfl | ⟨r',rfl,-⟩
 ·exact .inl (qn _ _)
 ·exact .inr rfl
theorem Tail.not {r:List Tok}(h:Tail r){s:ByteArray}(h1:emp≠s)(h2:az≠s):¬atF r 4 0=s:=fun e=>by
 rcases h.four with h | h
 ·exact h1 (h.symm.trans e)
 ·exact h2 (h.symm.trans e)
theorem pn {o:OpV}{most nn:Int}{r:List Tok}(h:Tail r):changedR o most nn r=.ok (o,r):=by
 unfold changedR;rcases h with rfl | ⟨r',rfl,hn⟩
 ·rw[if_pos (.inl (by rw[qn];decide))]
 ·rw[if_pos (.inr (.inl hn))]
theorem AI {o:OpV}{most nn:Int}{s:ByteArray}{r:List Tok}(h:s≠az):changedR o most nn (ax s::r)=.ok (o,ax s::r):=by
 unfold changedR;rw[if_pos (.inl h)]
theorem iA (s:ByteArray)(r:List Tok):mustR s (ax s::r)=.ok r:=by
 unfold mustR;rw[if_pos (oa s r)];rfl
theorem Nb {a:Int}(h0:0≤a)(h1:a≤9223372036854775807):ValOk ⟨a,emp,emp⟩:=⟨.inl rfl,.inl rfl,fun _=>rfl,by show -9223372036854775808≤a;omega,h1⟩
theorem Cb {a:Int}(h0:0≤a)(h1:a≤9223372036854775807){r:List Tok}(he:Ex.Ends r 0):valueR (Ex.numT a::r)=.ok (⟨a,emp,emp⟩,r):=by
 have e:valT ⟨a,emp,emp⟩=[Ex.numT a]:=by
  unfold Ex.valT;rw[if_pos ⟨rfl,rfl⟩,if_neg (by show ¬a<0;omega)]
 have:=fe (Nb h0 h1) he
 rwa [e]at this
theorem KI {a:Int}(h0:0≤a)(h1:a≤63){r:List Tok}(he:Ex.Ends r 0):countR (ax aS::Ex.numT a::r)=.ok (a,r):=by
 unfold countR;rw[iA];simp only;rw[Cb h0 (by omega) he];exact if_pos ⟨⟨rfl,rfl⟩,h0,h1⟩
theorem qw {o:OpV}{most nn md:Int}{r:List Tok}(hm:(ak 3 md).2=0)(h5:5≤md)(hle:md≤most)(hr:¬atF r 4 0=aS) :
  changedR o most nn (ax az::nameT (ak 3 md).1::r)=.ok ({ o with md:=md,amt:=nn },r):=by
 have e:ag 3 3 (atF (ax az::nameT (ak 3 md).1::r) 1 1)=(md,0):=lk hm;unfold changedR;rw[e,if_neg (by rw[oa];simp;omega),if_neg]
 ·rfl
 ·rintro (h | h)
  ·simp only at h;omega
  ·exact hr h
theorem qv {o:OpV}{most nn md a:Int}{r:List Tok}(hm:(ak 3 md).2=0)(hle:md≤most)(h0:0≤a)(h1:a≤63)(he:Ex.Ends r 0) :
  changedR o most nn (ax az::nameT (ak 3 md).1::ax aS::Ex.numT a::r)=.ok ({ o with md:=md,amt:=a },r):=by
 have e:ag 3 3 (atF (ax az::nameT (ak 3 md).1::ax aS::Ex.numT a::r) 1 1)=(md,0):=lk hm;unfold changedR;rw[e,if_neg (by rw[oa];simp;omega),if_pos (.inr rfl)];show(match countR (ax aS::Ex.numT a::r) with | .error e=>_ | .ok (k,l')=>_)=_;rw[KI h0 h1 he]
theorem xK {r:gR}(h:eO r=true)(l:List Tok):gY (nameT (dy r)::l)=(r,true):=by
 unfold gY;rw[Jv,(gF h).2.1];rfl
theorem IA {l:List Tok}(h:¬(dh 3 (atF l 1 0)).2=0):gY l=(r0,false):=by
 unfold gY;rw[if_neg h]
theorem vJ (s:ByteArray)(l:List Tok):gY (ax s::l)=(r0,false):=IA zN
theorem gu {o:OpV}(h:¬o.kind=3∧¬o.kind=7∧¬o.kind=8∧¬o.kind=9):aB o=o:=by
 unfold aB;split
 ·rfl
 rw[if_neg h.1,if_neg h.2.1,if_neg h.2.2.1,if_neg h.2.2.2]
theorem xY {o:OpV}{m:Int}(h:dD o m=true):0≤o.md∧o.md≤m∧0≤o.amt∧o.amt≤63∧(0<o.md∨o.amt=0):=of_decide_eq_true h
theorem C0 {o:OpV}(h0:0<o.md)(h1:o.md≤12):(ak 3 o.md).2=0:=(qN (o:=o) (by omega) h1).resolve_left (by omega)
def xk (o:OpV)(silent:Bool):List Tok:=if o.md=0 then[] else if silent=true then[ax az,nameT (ak 3 o.md).1] else[ax az,nameT (ak 3 o.md).1,ax aS,Ex.numT o.amt]
theorem C4 (o:OpV)(s:Bool):(ui o s).map (·.2)=xk o s:=by
 unfold ui xk;split
 ·rfl
 ·split<;>rfl
theorem ij (v:Val):(lY v).map (·.2)=valT v:=by
 unfold lY;rw[List.map_map];exact List.map_id _
def qL (o:OpV):List Tok:=if o.lo=true then ax aC::nameT my::ax aC::valT o.val else ax aS::valT o.val
theorem xF (o:OpV):(iy o).map (·.2)=qL o:=by
 unfold iy qL;split
 ·rw[map_cons,map_cons,map_cons,ij];rfl
 ·rw[map_cons,ij];rfl
def pH (k n:Int):List Tok:=if(ak k n).2=0 then[nameT (ak k n).1] else[ax aS,Ex.numT n]
theorem oG (k n:Int):(fX k n).map (·.2)=pH k n:=by
 unfold fX pH;split<;>rfl
theorem P9 {o:OpV}(h:OpOk o)(k:o.kind=1){r:List Tok}(hr:Tail r):operR (txT o++r)=.ok (aB o,r):=by
 obtain⟨hb,hc⟩:=cI (cY h.chk).1;have ha:dD o 12=true:=by rcases hc with ⟨_,_,ha⟩ | ⟨k2,_⟩ | k2 | ⟨k2,_⟩ | ⟨k2,_⟩<;>first | exact ha | omega
 obtain⟨a1,a2,a3,a4,a5⟩:=xY ha;have hreg:=h.reg k
 have sh:(⟨1,o.r,r0,o.md,o.amt,0,0,emp,emp,false,0⟩:OpV)=o:=by
  have:=hb;unfold cM at this
  rwa [if_pos k,k]at this
 have et:txT o=nameT (dy o.r)::xk o (decide (5≤o.md)&&decide (o.amt=0)):=by
  unfold txT gB;rw[if_pos k,map_cons,C4]
 rw[gu (by omega),et,cons_append];unfold operR;rw[xK hreg,if_pos rfl];show changedR ⟨1,o.r,r0,0,0,0,0,emp,emp,false,0⟩ 12 0 (xk o (decide (5≤o.md)&&decide (o.amt=0))++r)=_;unfold xk;by_cases m0:o.md=0
 ·rw[if_pos m0,nil_append,pn hr];have e0:o.amt=0:=by omega
  rw[m0,e0]at sh;rw[sh]
 ·rw[if_neg m0];have hm:=C0 (o:=o) (by omega) a2;by_cases hs:(decide (5≤o.md)&&decide (o.amt=0))=true
  ·rw[if_pos hs];rw[and_eq_true,decide_eq_true_eq,decide_eq_true_eq]at hs;rw[show[ax az,nameT (ak 3 o.md).1]++r=ax az::nameT (ak 3 o.md).1::r from rfl,qw hm hs.1 a2 (hr.not (by decide) (by decide))];rw[hs.2]at sh;simp only[sh]
  ·rw[if_neg hs];rw[show[ax az,nameT (ak 3 o.md).1,ax aS,Ex.numT o.amt]++r=ax az::nameT (ak 3 o.md).1::ax aS::Ex.numT o.amt::r from rfl,qv hm a2 a3 a4 hr.ends];simp only[sh]
theorem JO {l:List Tok}(h:¬atF l 4 0=aC):loR l=.ok (false,l):=by
 unfold loR;rw[if_pos h]
theorem OP (l:List Tok):loR (ax aC::nameT my::ax aC::l)=.ok (true,l):=by
 unfold loR;rw[if_neg (fun h=>h rfl),if_neg]
 ·rfl
 ·rintro (h | h)<;>exact h rfl
theorem ta (l:List Tok):operR (ax aS::l)=nj l:=by
 unfold operR;rw[vJ,if_neg (by simp),oa,if_neg (by decide),if_pos rfl];rfl
theorem Br {v:Val}(hv:ValOk v){r:List Tok}(hr:Tail r):nj (valT v++r)=.ok (iP v false,r):=by
 unfold nj;rw[fe hv hr.ends];exact pn hr
theorem P6 {o:OpV}(h:OpOk o)(k:o.kind=2){r:List Tok}(hr:Tail r):operR (txT o++r)=.ok (aB o,r):=by
 obtain⟨hb,hc⟩:=cI (cY h.chk).1;have ha:dD o 1=true:=by rcases hc with ⟨k2,_⟩ | ⟨_,ha⟩ | k2 | ⟨k2,_⟩ | ⟨k2,_⟩<;>first | exact ha | omega
 obtain⟨a1,a2,a3,a4,a5⟩:=xY ha
 have et:txT o=qL o++xk o false:=by
  unfold txT gB;rw[nG,if_pos k,map_append,xF,C4]
 rw[gu (by omega),et];cases hl:o.lo with
 |true =>
  have sh:(⟨2,r0,r0,0,0,0,o.add,o.plus,o.minus,true,0⟩:OpV)=o:=by
   have:=hb;unfold cM at this;rw[nG,if_pos k,if_pos hl,k]at this;rw[hl]at this;exact this
  have m0:o.md=0:=(congrArg OpV.md sh).symm;have em:xk o false=[]:=by unfold xk;rw[if_pos m0]
  have el:qL o=ax aC::nameT my::ax aC::valT o.val:=by unfold qL;rw[if_pos hl]
  rw[em,el,append_nil];unfold operR;rw[show(ax aC::nameT my::ax aC::valT o.val)++r=ax aC::nameT my::ax aC::(valT o.val++r) from rfl,vJ,if_neg (by simp),oa,if_neg (by decide),if_neg (by decide),OP];simp only;rw[fe h.val hr.ends];simp only;rw[show iP o.val true=o from sh]
 |false =>
  have sh:(⟨2,r0,r0,o.md,o.amt,0,o.add,o.plus,o.minus,false,0⟩:OpV)=o:=by
   have:=hb;unfold cM at this;rw[nG,if_pos k,if_neg (by rw[hl];simp),k]at this;rw[hl]at this;exact this
  have el:qL o=ax aS::valT o.val:=by unfold qL;rw[if_neg (by rw[hl];simp)]
  rw[el,cons_append,cons_append,ta,append_assoc];unfold xk;by_cases m0:o.md=0
  ·rw[if_pos m0,nil_append,Br h.val hr];have e0:o.amt=0:=by omega
   rw[m0,e0]at sh;rw[show iP o.val false=o from sh]
  ·rw[if_neg m0,if_neg (by simp)];have hm:=C0 (o:=o) (by omega) (by omega);unfold nj;rw[show[ax az,nameT (ak 3 o.md).1,ax aS,Ex.numT o.amt]++r=ax az::nameT (ak 3 o.md).1::ax aS::Ex.numT o.amt::r from rfl,fe h.val (sP _)];simp only;rw[qv hm a2 a3 a4 hr.ends];rw[show({ iP o.val false with md:=o.md,amt:=o.amt }:OpV)=o from sh]
theorem B9 (v:Val):∃t r,valT v=t::r∧(v.plus=emp∧v.minus=emp∨t=if v.plus=emp then Ex.numT 0 else nameT v.plus):=by
 unfold Ex.valT;by_cases c:v.plus=emp∧v.minus=emp
 ·rw[if_pos c];by_cases n:v.add<0
  ·rw[if_pos n];exact⟨_,_,rfl,.inl c⟩
  ·rw[if_neg n];exact⟨_,_,rfl,.inl c⟩
 ·rw[if_neg c];exact⟨_,_,rfl,.inr rfl⟩
theorem Tu {o:OpV}(h:OpOk o)(k:o.kind=3){r:List Tok}(hr:Tail r):operR (txT o++r)=.ok (aB o,r):=by
 obtain⟨hb,hc⟩:=cI (cY h.chk).1;have hw:=(cY h.chk).2.2 k
 have sh:(⟨3,r0,r0,0,0,0,o.add,o.plus,o.minus,false,0⟩:OpV)=o:=by
  have:=hb;unfold cM at this
  rwa [nG,nG,if_pos k,k]at this
 cases ha:ly o with
 |true =>
  have et:txT o=ax aS::valT o.val:=by
   unfold txT gB;rw[nG,nG,if_pos k,if_pos ha,map_cons,ij];rfl
  have ep:aB o=iP o.val false:=by
   unfold aB;rw[if_neg (not_not_intro h.chk),if_pos k,if_pos ha];rfl
  rw[ep,et,cons_append,ta,Br h.val hr]
 |false =>
  have et:txT o=valT o.val:=by
   unfold txT gB;rw[nG,nG,if_pos k,if_neg (by rw[ha];simp),ij]
  have ep:aB o=o:=by
   unfold aB;rw[if_neg (not_not_intro h.chk),if_pos k,if_neg (by rw[ha];simp)]
  have hna:¬(o.plus=emp∧o.minus=emp):=fun e=>by
   unfold ly at ha;rw[decide_eq_true e.1,decide_eq_true e.2]at ha;cases ha
  obtain⟨t,x,ev,hx⟩:=B9 o.val;have ht:t=if o.plus=emp then Ex.numT 0 else nameT o.plus:=hx.resolve_left hna
  have h4:atF (valT o.val++r) 4 0=emp:=by
   rw[ev,ht];split<;>rfl
  have h1:atF (valT o.val++r) 1 0=o.plus:=by
   rw[ev,ht];split
   ·rename_i e;rw[e];rfl
   ·rfl
  have hreg:¬(dh 3 o.plus).2=0:=by
   rcases hw with e | e
   ·rw[e];exact zN
   ·exact HB e
  rw[ep,et];unfold operR;rw[IA (by rw[h1];exact hreg),if_neg (by simp),h4,if_neg (by decide),if_neg (by decide),JO (by rw[h4];decide)];simp only
  rw[h1,if_neg (by
   rintro⟨e1,e2⟩;rcases hw with e | e
   ·exact e1 e
   ·rw[e]at e2;cases e2),fe h.val hr.ends]
  simp only;rw[if_neg (show ¬(o.val.plus=emp∧o.val.minus=emp) from hna),show toV o.val=o from sh]
theorem oI {s:ByteArray}{l:List Tok}(h1:¬s=emp)(h2:¬(dh 3 s).2=0)(h3:ff 3 s=true):operR (nameT s::l)=cK s (nameT s::l):=by
 unfold operR;rw[IA (by rw[Jv];exact h2),if_neg (by simp),NO,if_neg (by decide),if_neg (by decide),JO (by rw[NO];decide)];simp only;rw[Jv,if_pos ⟨h1,h3⟩]
theorem kK {s:ByteArray}{kd k:Int}{r:List (Int×Int)}{n:Int}(h:ag 3 kd s=(n,0)):rsvdF s ((kd,k)::r)=some (jE k n):=by
 rw[rsvdF,h,if_pos rfl]
theorem fG {s:ByteArray}{kd k:Int}{r:List (Int×Int)}(h:¬(ag 3 kd s).2=0):rsvdF s ((kd,k)::r)=rsvdF s r:=by
 rw[rsvdF,if_neg h]
theorem oW {s:ByteArray}{l:List Tok}{o:OpV}{t:Tok}(h:rsvdF s km=some o):cK s (t::l)=.ok (o,l):=by
 unfold cK;rw[h];rfl
theorem zX {o:OpV}(h:OpOk o)(k:o.kind=4∨o.kind=6∨o.kind=7∨o.kind=8∨o.kind=9):jE o.kind o.n=o:=by
 have:=(cI (cY h.chk).1).1;unfold cM at this
 rwa [nG,nG,nG,nG,if_pos k]at this
theorem BN:∀j:Fin 6,(ak 8 (j.val:Int)).2=0:=by decide +kernel
theorem Mp {o:OpV}(h:OpOk o)(k:o.kind=4){r:List Tok}:operR (txT o++r)=.ok (aB o,r):=by
 have hn:=h.named.1 k;have f:=jc (.inl rfl) hn
 have et:txT o=[nameT (ak 2 o.n).1]:=by
  unfold txT gB;rw[nG,nG,nG,if_pos k,oG];unfold pH;rw[if_pos hn]
 have sh:=zX h (.inl k);rw[k]at sh;rw[gu (by omega),et,singleton_append,oI (Ao f.1) f.2.1 (uo (by decide) hn),oW (kK (lk hn)),sh]
theorem Qa {o:OpV}(h:OpOk o)(k:o.kind=6){r:List Tok}:operR (txT o++r)=.ok (aB o,r):=by
 have hn:=h.named.2.1 k;have f:=jc (.inr (.inr (.inr (.inl rfl)))) hn;obtain⟨f2,f4⟩:=f.2.2.2.2.1 rfl
 have et:txT o=[nameT (ak 6 o.n).1]:=by
  unfold txT gB;rw[nG,nG,nG,nG,if_pos k,oG];unfold pH;rw[if_pos hn]
 have sh:=zX h (.inr (.inl k));rw[k]at sh
 have hs:rsvdF (ak 6 o.n).1 km=some (jE 6 o.n):=by
  show rsvdF _ ((2,4)::(4,7)::(6,6)::_)=_;rw[fG f2,fG f4,kK (lk hn)]
 rw[gu (by omega),et,singleton_append,oI (Ao f.1) f.2.1 (uo (by decide) hn),oW hs,sh]
theorem ED {n:Int}(h0:0≤n)(h1:n<100){r:List Tok}(hr:Tail r):operR ([ax aS,Ex.numT n]++r)=.ok (qT n,r):=by
 rw[show[ax aS,Ex.numT n]++r=ax aS::Ex.numT n::r from rfl,ta];unfold nj;rw[Cb h0 (by omega) hr.ends];exact pn hr
theorem P3 {o:OpV}(h:OpOk o)(k:o.kind=7){r:List Tok}(hr:Tail r):operR (txT o++r)=.ok (aB o,r):=by
 have et:txT o=pH 4 o.n:=by
  unfold txT gB;rw[nG,nG,nG,nG,nG,if_pos k,oG]
 have sh:=zX h (.inr (.inr (.inl k)));rw[k]at sh
 have ep:aB o=if ¬(ak 4 o.n).2=0 then qT o.n else o:=by
  unfold aB;rw[if_neg (not_not_intro h.chk),nG,if_pos k]
 rw[et,ep];unfold pH;by_cases hn:(ak 4 o.n).2=0
 ·have f:=jc (.inr (.inr (.inl rfl))) hn
  have hs:rsvdF (ak 4 o.n).1 km=some (jE 7 o.n):=by
   show rsvdF _ ((2,4)::(4,7)::_)=_;rw[fG (f.2.2.2.1 rfl),kK (lk hn)]
  rw[if_pos hn,if_neg (not_not_intro hn),singleton_append,oI (Ao f.1) f.2.1 (uo (by decide) hn),oW hs,sh]
 ·obtain⟨n0,n1⟩:=h.named.2.2 (.inl k);rw[if_neg hn,if_pos hn,ED n0 n1 hr]
theorem P8 {o:OpV}(h:OpOk o)(k:o.kind=8){r:List Tok}(hr:Tail r):operR (txT o++r)=.ok (aB o,r):=by
 have et:txT o=pH 7 o.n:=by
  unfold txT gB;rw[nG,nG,nG,nG,nG,nG,if_pos k,oG]
 have sh:=zX h (.inr (.inr (.inr (.inl k))));rw[k]at sh
 have ep:aB o=if ¬(ak 7 o.n).2=0 then qT o.n else o:=by
  unfold aB;rw[if_neg (not_not_intro h.chk),nG,nG,if_pos k]
 rw[et,ep];unfold pH;by_cases hn:(ak 7 o.n).2=0
 ·have f:=jc (.inr (.inr (.inr (.inr (.inl rfl))))) hn;obtain⟨f2,f4,f6⟩:=f.2.2.2.2.2.1 rfl
  have hs:rsvdF (ak 7 o.n).1 km=some (jE 8 o.n):=by
   show rsvdF _ ((2,4)::(4,7)::(6,6)::(7,8)::_)=_;rw[fG f2,fG f4,fG f6,kK (lk hn)]
  rw[if_pos hn,if_neg (not_not_intro hn),singleton_append,oI (Ao f.1) f.2.1 (uo (by decide) hn),oW hs,sh]
 ·obtain⟨n0,n1⟩:=h.named.2.2 (.inr (.inl k));rw[if_neg hn,if_pos hn,ED n0 n1 hr]
theorem P4 {o:OpV}(h:OpOk o)(k:o.kind=9){r:List Tok}:operR (txT o++r)=.ok (aB o,r):=by
 obtain⟨n0,n1⟩:=h.n (.inr (.inr (.inr (.inr k))));rw[k]at n1
 have hn:(ak 8 o.n).2=0:=by
  obtain⟨j,hj⟩:=eq_ofNat_of_zero_le n0;have:ka 9=5:=rfl;rw[hj];exact BN ⟨j,by omega⟩
 have f:=jc (.inr (.inr (.inr (.inr (.inr rfl))))) hn;obtain⟨f2,f4,f7⟩:=f.2.2.2.2.2.2 rfl
 have et:txT o=[nameT (ak 8 o.n).1]:=by
  unfold txT gB;rw[nG,nG,nG,nG,nG,nG,nG,if_pos k,oG];unfold pH;rw[if_pos hn]
 have ex:aO o=(ak 8 o.n).1:=by
  unfold aO dF;rw[nG,nG,nG,nG,nG,nG,nG,if_pos k,if_pos hn]
 have sh:=zX h (.inr (.inr (.inr (.inr k))));rw[k]at sh
 have ep:aB o=if(ag 3 6 (ak 8 o.n).1).2=0 then jE 6 (ag 3 6 (ak 8 o.n).1).1 else o:=by
  unfold aB;rw[if_neg (not_not_intro h.chk),nG,nG,nG,if_pos k,ex];rfl
 rw[et,ep,singleton_append,oI (Ao f.1) f.2.1 (uo (by decide) hn)];by_cases h6:(ag 3 6 (ak 8 o.n).1).2=0
 ·have hs:rsvdF (ak 8 o.n).1 km=some (jE 6 (ag 3 6 (ak 8 o.n).1).1):=by
   show rsvdF _ ((2,4)::(4,7)::(6,6)::_)=_;rw[fG f2,fG f4,kK (n:=(ag 3 6 (ak 8 o.n).1).1) (by rw[←h6])]
  rw[if_pos h6,oW hs]
 ·have hs:rsvdF (ak 8 o.n).1 km=some (jE 9 o.n):=by
   show rsvdF _ ((2,4)::(4,7)::(6,6)::(7,8)::(8,9)::_)=_;rw[fG f2,fG f4,fG h6,fG f7,kK (lk hn)]
  rw[if_neg h6,oW hs,sh]
end Go.Proofs.YtnhbidpdadkcjaaGreatDoor
namespace Go.Proofs.YtnhbidpdadkcjaaGreatDoor
open Ex (ax nameT valT ValOk)
theorem Ad (s:ByteArray)(l:List Tok):ba s (ax s::l)=(true,l):=by
 unfold ba;rw[if_pos (oa s l)];rfl
theorem xM {s:ByteArray}{l:List Tok}(h:¬atF l 4 0=s):ba s l=(false,l):=by
 unfold ba;rw[if_neg h]
theorem S3 {o:OpV}(h:fj o=true):fj (lC o.r)=true:=by
 unfold fj at h ⊢;simp only[and_eq_true]at h;obtain⟨⟨⟨⟨⟨h1,h2⟩,h3⟩,-⟩,-⟩,-⟩:=h;simp only[lC,h1,h2,Bool.true_and];rw[h3];rfl
theorem Ta (l:List Tok):operR (ax CD::l)=fm l:=by
 unfold operR;rw[vJ,if_neg (by simp),oa,if_pos rfl];rfl
theorem EU {o:OpV}(hm:fj o=true)(l:List Tok):fm (nameT (dy o.r)::l)=if(ba du l).1=true then nl (lC o.r) (ba du l).2 else fK (lC o.r) l:=by
 have hr:=(oC hm).1
 have e:(an (nameT (dy o.r)::l)).2=l:=by
  unfold an;rw[xK hr];rfl
 unfold fm;rw[xK hr,e,if_neg (by rw[S3 hm];simp)]
def Jh (o:OpV)(r:List Tok):Prop:=aloneM o=true→¬(atF r 4 0=az∧atF r 4 1=aS)
section
variable {o:OpV}{r:List Tok}
theorem P5 (h:OpOk o)(k:o.kind=5)(hr:Tail r)(ha:Jh o r):operR (txT o++r)=.ok (aB o,r):=by
 obtain⟨hb,hc⟩:=cI (cY h.chk).1;have hm:fj o=true:=by rcases hc with ⟨k2,_⟩ | ⟨k2,_⟩ | k2 | ⟨k2,_⟩ | ⟨_,hm⟩<;>first | exact hm | omega
 obtain⟨m1,m2,m3⟩:=oC hm
 have et:txT o=(xj o).map (·.2):=by
  unfold txT gB;rw[nG,nG,nG,nG,nG,nG,nG,nG]
 have hv:=h.val;rw[gu (by omega),et];unfold xj;rw[map_cons,map_cons,cons_append,cons_append];show operR (ax CD::nameT (dy o.r)::_)=_;rw[Ta,EU hm];rcases m3 with e | e | e | ⟨e,hi⟩
 ·
  have sh:(⟨5,o.r,r0,0,0,0,o.add,o.plus,o.minus,o.lo,0⟩:OpV)=o:=by
   have:=hb;unfold cM at this
   rwa [nG,nG,nG,if_pos k,if_pos e,k,e]at this
  rw[if_neg (show ¬o.mode=1 by omega),if_neg (show ¬o.mode=2 by omega),if_neg (show ¬o.mode=3 by omega)];by_cases hz:(o.add=0∧o.plus=emp∧o.minus=emp)∧o.lo=false
  ·rw[if_pos hz];show(if(ba du (ax du::r)).1=true then _ else _)=_;rw[show[sg du].map (fun x:Bool×Tok=>x.2)++r=ax du::r from rfl,Ad,if_pos rfl];unfold nl
   have hal:aloneM o=true:=by
    unfold aloneM;rw[k,e,decide_eq_true hz.1.1,decide_eq_true hz.1.2.1,decide_eq_true hz.1.2.2,hz.2];rfl
   rw[if_neg (ha hal)];rw[hz.1.1,hz.1.2.1,hz.1.2.2,hz.2]at sh;rw[show lC o.r=o from sh]
  ·rw[if_neg hz,map_cons,map_append,qb,xF];show(if(ba du (ax az::(qL o++[ax du]++r))).1=true then _ else fK (lC o.r) (ax az::(qL o++[ax du]++r)))=_;rw[xM (by rw[oa];decide),if_neg (by simp)];unfold fK;rw[iA];simp only;cases hl:o.lo with
   |true =>
    have el:qL o=ax aC::nameT my::ax aC::valT o.val:=by unfold qL;rw[if_pos hl]
    rw[el,show(ax aC::nameT my::ax aC::valT o.val)++[ax du]++r=ax aC::nameT my::ax aC::(valT o.val++(ax du::r)) by simp,vJ,if_neg (by simp),OP];show vt (lC o.r) (valT o.val++ax du::r)=_;unfold vt;rw[fe hv (xA r)];simp only;rw[iA];rw[hl]at sh;simp only;rw[show({ lK (lC o.r) o.val with lo:=true }:OpV)=o from sh]
   |false =>
    have el:qL o=ax aS::valT o.val:=by unfold qL;rw[if_neg (by rw[hl];simp)]
    rw[el,show(ax aS::valT o.val)++[ax du]++r=ax aS::(valT o.val++(ax du::r)) by simp,vJ,if_neg (by simp),JO (by rw[oa];decide)];simp only;rw[if_neg (by simp)];unfold vF;rw[iA];simp only;rw[fe hv (xA r)];simp only;rw[iA];simp only;rw[xM (hr.not (by decide) (by decide)),if_neg (by simp)];rw[hl]at sh;rw[show(lK (lC o.r) o.val:OpV)=o from sh]
 ·
  have sh:(⟨5,o.r,r0,0,0,0,o.add,o.plus,o.minus,false,1⟩:OpV)=o:=by
   have:=hb;unfold cM at this
   rwa [nG,nG,nG,if_pos k,nG,nG,k,e]at this
  have hl:o.lo=false:=(congrArg OpV.lo sh).symm;have el:qL o=ax aS::valT o.val:=by unfold qL;rw[if_neg (by rw[hl];simp)]
  rw[if_pos e,map_cons,map_append,qb,xF,el];rw[show(sg az).2::((ax aS::valT o.val)++[sg du,sg tJ].map (fun x:Bool×Tok=>x.2))++r=ax az::ax aS::(valT o.val++(ax du::ax tJ::r)) by simp[sg]];rw[xM (by rw[oa];decide),if_neg (by simp)];unfold fK;rw[iA];simp only;rw[vJ,if_neg (by simp),JO (by rw[oa];decide)];simp only;rw[if_neg (by simp)];unfold vF;rw[iA];simp only;rw[fe hv (xA _)];simp only;rw[iA];simp only;rw[Ad,if_pos rfl];rw[show({ lK (lC o.r) o.val with mode:=1 }:OpV)=o from sh]
 ·
  have sh:(⟨5,o.r,r0,0,0,0,o.add,o.plus,o.minus,false,2⟩:OpV)=o:=by
   have:=hb;unfold cM at this
   rwa [nG,nG,nG,if_pos k,nG,nG,k,e]at this
  have hl:o.lo=false:=(congrArg OpV.lo sh).symm;have el:qL o=ax aS::valT o.val:=by unfold qL;rw[if_neg (by rw[hl];simp)]
  rw[if_neg (show ¬o.mode=1 by omega),if_pos e,map_cons,map_cons,qb,xF,el];rw[show(sg du).2::(sg az).2::(ax aS::valT o.val)++r=ax du::ax az::ax aS::(valT o.val++r) by simp[sg]];rw[Ad,if_pos rfl];unfold nl;rw[if_pos ⟨rfl,rfl⟩];show(match valueR (valT o.val++r) with | .error e=>_ | .ok (v,l)=>_)=_;rw[fe hv hr.ends];simp only;rw[show({ lK (lC o.r) o.val with mode:=2 }:OpV)=o from sh]
 ·
  have sh:(⟨5,o.r,o.m,o.md,o.amt,0,0,emp,emp,false,3⟩:OpV)=o:=by
   have:=hb;unfold cM at this
   rwa [nG,nG,nG,if_pos k,nG,if_pos e,k,e]at this
  obtain⟨i1,i2,i3,i4⟩:=vo hi;rw[if_neg (show ¬o.mode=1 by omega),if_neg (show ¬o.mode=2 by omega),if_pos e,map_cons,map_cons,map_append]
  have key:∀(x:List Tok),changedR ({ lC o.r with mode:=3,m:=o.m,md:=1,amt := -1 }:OpV) 12 (-1) (x++ax du::r)=.ok (o,ax du::r) →
    (if(ba du (ax az::nameT (dy o.m)::(x++ax du::r))).1=true then nl (lC o.r) (ba du (ax az::nameT (dy o.m)::(x++ax du::r))).2 else fK (lC o.r) (ax az::nameT (dy o.m)::(x++ax du::r)))=.ok (o,r):=fun x hx=>by
   rw[xM (by rw[oa];decide),if_neg (by simp)];unfold fK;rw[iA];simp only;rw[xK i1,if_pos rfl];show tW ({ lC o.r with mode:=3,m:=o.m,md:=1,amt := -1 }:OpV) (x++ax du::r)=_;unfold tW;rw[hx];simp only;rw[if_neg (by rw[hi];simp),iA]
  by_cases hp:o.md=1∧o.amt = -1
  ·rw[if_pos hp];rw[hp.1,hp.2]at sh;exact key [] (by rw[nil_append,AI (by decide),show({ lC o.r with mode:=3,m:=o.m,md:=1,amt := -1 }:OpV)=o from sh])
  ·rw[if_neg hp,C4];rw[show(sg az).2::(true,nameT (dy o.m)).2::(xk o (o.amt == -1)++[sg du].map (fun x:Bool×Tok=>x.2))++r=ax az::nameT (dy o.m)::(xk o (o.amt == -1)++ax du::r) by simp[sg]];refine key _ ?_;have hm3:=C0 (o:=o) (by omega) (by omega);unfold xk;rw[nG];by_cases hs:o.amt = -1
   ·rw[if_pos (by rw[hs];rfl)];rw[show[ax az,nameT (ak 3 o.md).1]++ax du::r=ax az::nameT (ak 3 o.md).1::ax du::r from rfl,qw hm3 (by omega) (by omega) (by rw[oa];decide)];rw[hs]at sh;simp only[lC,sh]
   ·rw[if_neg (by simpa using hs)];rw[show[ax az,nameT (ak 3 o.md).1,ax aS,Ex.numT o.amt]++ax du::r=ax az::nameT (ak 3 o.md).1::ax aS::Ex.numT o.amt::ax du::r from rfl,qv hm3 (by omega) (by omega) (by omega) (xA r)];simp only[lC,sh]
theorem P7 (h:OpOk o)(hr:Tail r)(ha:Jh o r):operR (txT o++r)=.ok (aB o,r):=by
 obtain⟨hb,hc⟩:=cI (cY h.chk).1;rcases hc with ⟨k,_⟩ | ⟨k,_⟩ | k | ⟨k,_⟩ | ⟨k,_⟩
 ·exact P9 h k hr
 ·exact P6 h k hr
 ·exact Tu h k hr
 ·rcases k with k | k | k | k | k
  ·exact Mp h k
  ·exact Qa h k
  ·exact P3 h k hr
  ·exact P8 h k hr
  ·exact P4 h k
 ·exact P5 h k hr ha
end
end Go.Proofs.YtnhbidpdadkcjaaGreatDoor
namespace Go.Proofs.YtnhbidpdadkcjaaGreatDoor
open Ex (ax nameT valT ValOk)
theorem Tl {n:Int}(h:0≤n):Ex.printF ⟨n,emp,emp⟩=(nk n,0):=by
 unfold Ex.printF nk;rw[if_neg (by simp),if_neg (by simp),if_pos ⟨rfl,rfl⟩,if_neg (show ¬n<0 by omega)]
theorem D0 {v:Val}(h:(Ex.printF v).2=0):fh (iP v false)=0:=by
 have hk:(iP v false).kind=2:=rfl;have hl:(iP v false).lo=false:=rfl
 have hb:cM (iP v false)=iP v false:=by
  unfold cM;rw[nG,if_pos hk,if_neg (by rw[hl];simp)];rfl
 have ha:dD (iP v false) 1=true:=rfl
 have hf:iO (iP v false)=true:=by
  unfold iO;rw[if_neg (not_not_intro hb),nG,if_pos hk,ha]
 unfold fh;rw[hf,if_neg (by simp),if_neg (not_not_intro (show(prO (iP v false)).2=0 from h)),if_neg];rintro⟨h3,-⟩;omega
theorem ni (s:ByteArray):ab (aS++s) 0=35:=by
 rw[gE,aV];rfl
theorem B8 (v:Val):aO (iP v false)=aS++(Ex.printF v).1:=by
 have hk:(iP v false).kind=2:=rfl;unfold aO;rw[nG,if_pos hk];show(aS++(Ex.printF v).1)++emp=_;exact ByteArray.append_empty
def XQ (j:Int):Bool:=!decide ((ag 3 6 (ak 8 j).1).2=0)||(decide (fh (jE 6 (ag 3 6 (ak 8 j).1).1)=0)&&!(ab (aO (jE 6 (ag 3 6 (ak 8 j).1).1)) 0==35))
theorem SE:∀j:Fin 6,XQ (j.val:Int)=true∧(ab (ak 8 (j.val:Int)).1 0==35)=false:=by decide +kernel
structure Ck (o p:OpV):Prop where
 ok:OpOk p
 hash:(ab (aO p) 0==35)=(ab (aO o) 0==35)
 alone:p=o∨aloneM p=false
theorem BP {o:OpV}(h:OpOk o){n:Int}(n0:0≤n)(n1:n<100)(ht:aO o=aS++nk n):Ck o (qT n):=by
 have e:qT n=iP ⟨n,emp,emp⟩ false:=rfl;refine⟨⟨⟨⟨by show emp.size≤_;decide,by show emp.size≤_;decide⟩,by show -9223372036854775808≤n;omega,by show n≤9223372036854775807;omega⟩,?_⟩,?_,.inr rfl⟩
 ·rw[e];exact D0 (by rw[Tl n0])
 ·rw[e,B8,ht,ni,ni]
theorem zH {o:OpV}(h:OpOk o):Ck o (aB o):=by
 have same:aB o=o→Ck o (aB o):=fun e=>by rw[e];exact⟨h,rfl,.inl rfl⟩
 by_cases k3:o.kind=3
 ·cases ha:ly o with
  |true =>
   have ep:aB o=iP o.val false:=by
    unfold aB;rw[if_neg (not_not_intro h.chk),if_pos k3,if_pos ha];rfl
   have et:aO o=aS++mS o:=by
    unfold aO;rw[nG,nG,if_pos k3,if_pos ha]
   rw[ep];refine⟨⟨uq h.ok rfl rfl rfl,D0 (cY h.chk).2.1⟩,?_,.inr rfl⟩;rw[B8,et,ni,ni]
  |false =>
   refine same ?_;unfold aB;rw[if_neg (not_not_intro h.chk),if_pos k3,if_neg (by rw[ha];simp)]
 by_cases k7:o.kind=7
 ·by_cases hn:(ak 4 o.n).2=0
  ·refine same ?_;unfold aB;rw[if_neg (not_not_intro h.chk),if_neg k3,if_pos k7,if_neg (not_not_intro hn)]
  ·have ep:aB o=qT o.n:=by
    unfold aB;rw[if_neg (not_not_intro h.chk),if_neg k3,if_pos k7,if_pos hn]
   obtain⟨n0,n1⟩:=h.named.2.2 (.inl k7);rw[ep];refine BP h n0 n1 ?_;unfold aO dF;rw[nG,nG,nG,nG,nG,if_pos k7,if_neg hn]
 by_cases k8:o.kind=8
 ·by_cases hn:(ak 7 o.n).2=0
  ·refine same ?_;unfold aB;rw[if_neg (not_not_intro h.chk),if_neg k3,if_neg k7,if_pos k8,if_neg (not_not_intro hn)]
  ·have ep:aB o=qT o.n:=by
    unfold aB;rw[if_neg (not_not_intro h.chk),if_neg k3,if_neg k7,if_pos k8,if_pos hn]
   obtain⟨n0,n1⟩:=h.named.2.2 (.inr (.inl k8));rw[ep];refine BP h n0 n1 ?_;unfold aO dF;rw[nG,nG,nG,nG,nG,nG,if_pos k8,if_neg hn]
 by_cases k9:o.kind=9
 ·obtain⟨n0,n1⟩:=h.n (.inr (.inr (.inr (.inr k9))));rw[k9]at n1;obtain⟨j,hj⟩:=eq_ofNat_of_zero_le n0;have h5:ka 9=5:=rfl;have hj6:j<6:=by omega
  have hn:(ak 8 o.n).2=0:=by rw[hj];exact BN ⟨j,hj6⟩
  obtain⟨f1,f2⟩:=SE ⟨j,hj6⟩;simp only at f1 f2;rw[←hj]at f1 f2
  have ex:aO o=(ak 8 o.n).1:=by
   unfold aO dF;rw[nG,nG,nG,nG,nG,nG,nG,if_pos k9,if_pos hn]
  have ep:aB o=if(ag 3 6 (ak 8 o.n).1).2=0 then jE 6 (ag 3 6 (ak 8 o.n).1).1 else o:=by
   unfold aB;rw[if_neg (not_not_intro h.chk),if_neg k3,if_neg k7,if_neg k8,if_pos k9,ex];rfl
  by_cases h6:(ag 3 6 (ak 8 o.n).1).2=0
  ·rw[if_pos h6]at ep;unfold XQ at f1;rw[decide_eq_true h6]at f1;simp only[Bool.not_true,Bool.false_or,and_eq_true,decide_eq_true_eq,Bool.not_eq_true']at f1;rw[ep];refine⟨⟨ur rfl rfl rfl,f1.1⟩,?_,.inr rfl⟩;rw[f1.2,ex,f2]
  ·rw[if_neg h6]at ep;exact same ep
 ·exact same (gu ⟨k3,k7,k8,k9⟩)
theorem Kz {a b:OpV}(ha:OpOk a)(hb:OpOk b)(h:fI a b=false):fI (aB a) (aB b)=false:=by
 have pa:=zH ha;have pb:=zH hb;rw[x9 ha.chk hb.chk]at h;rw[x9 pa.ok.chk pb.ok.chk,pb.hash];rcases pa.alone with e | e
 ·rw[e];exact h
 ·rw[e];rfl
theorem oH:¬(ag 3 3 emp).2=0:=by decide +kernel
theorem Er {o:OpV}(h:OpOk o)(x:List Tok):¬(ag 3 3 (atF (txT o++x) 1 0)).2=0:=by
 have nm:∀{k n:Int},(k=2∨k=3∨k=4∨k=6∨k=7∨k=8)→¬k=3→¬(ag 3 3 (atF ((fX k n).map (·.2)++x) 1 0)).2=0:=fun hk h3=>by
  unfold fX;split
  ·rename_i hn;exact(jc hk hn).2.2.1 h3
  ·exact oH
 unfold txT gB;split
 ·rename_i k;exact(gF (h.reg k)).2.2
 split
 ·unfold iy;split<;>exact oH
 split
 ·rename_i k;split
  ·exact oH
  ·rename_i ha;obtain⟨t,y,ev,hx⟩:=B9 o.val;have hna:¬(o.plus=emp∧o.minus=emp):=fun e=>ha (by unfold ly;rw[decide_eq_true e.1,decide_eq_true e.2];rfl);have ht:t=if o.plus=emp then Ex.numT 0 else nameT o.plus:=hx.resolve_left hna
   rw[ij,ev,ht];split
   ·exact oH
   ·rename_i hp;exact HA (((cY h.chk).2.2 k).resolve_left hp)
 split
 ·exact nm (.inl rfl) (by decide)
 split
 ·exact nm (.inr (.inr (.inr (.inl rfl)))) (by decide)
 split
 ·exact nm (.inr (.inr (.inl rfl))) (by decide)
 split
 ·exact nm (.inr (.inr (.inr (.inr (.inl rfl))))) (by decide)
 split
 ·exact nm (.inr (.inr (.inr (.inr (.inr rfl))))) (by decide)
 ·exact oH
theorem G4 {o:OpV}(h:OpOk o){x:List Tok}(e:atF (txT o++x) 4 0=aS):ab (aO o) 0=35:=by
 obtain⟨t,r,et⟩:=uN h;have hc:=(vU h (false,t) (by rw[et];simp)).1
 have e2:(if t.kind=4 then t.text else emp)=aS:=by
  have:txT o++x=t::(r.map (·.2)++x):=by unfold txT;rw[et];rfl
  rw[this]at e;exact e
 have k4:t.kind=4:=by
  by_cases k:t.kind=4
  ·exact k
  ·rw[if_neg k]at e2;exact absurd e2 (by decide)
 rw[if_pos k4]at e2
 have ex:Ex.txtL t=[35]:=by
  unfold Ex.txtL Ex.textT;simp only at hc;rw[if_pos hc,nG,nG,e2];rfl
 rw[gE,←vL h,et,bp,ex];rfl
def kt (l:List OpV):List Tok:=match l with
 |[]=>[]
 |o::r=>ax az::qW (o::r)
theorem l9 (o:OpV)(r:List OpV):qW (o::r)=txT o++kt r:=by
 cases r with
 |nil=>rw[qW,kt,append_nil]
 |cons p r=>rw[qW,kt]
theorem MZ {l:List OpV}(h:∀o∈l,OpOk o):Tail (kt l):=by
 cases l with
 |nil=>exact .inl rfl
 |cons p r=>exact .inr ⟨_,rfl,by rw[l9];exact Er (h p (by simp)) _⟩
theorem GA {o:OpV}{l:List OpV}(ho:OpOk o)(h:∀p∈l,OpOk p)(hb:∀p r,l=p::r→fI o p=false):Jh o (kt l):=by
 intro ha;cases l with
 |nil=>rintro⟨e,-⟩;rw[show atF (kt []) 4 0=emp from qn _ _]at e;exact absurd e (by decide)
 |cons p r =>
  rintro⟨-,e⟩;have e2:atF (txT p++kt r) 4 0=aS:=by rw[←l9];exact e
  have h35:=G4 (h p (by simp)) e2;have:=hb p r rfl;rw[x9 ho.chk (h p (by simp)).chk,ha,h35]at this;cases this
theorem Ft:∀(l pre:List OpV) (N:Nat),(∀o∈pre++l,OpOk o)→(∀i a b,(pre++l)[i]? = some a→(pre++l)[i+1]? = some b→fI a b=false)→pre.length+l.length≤8→l.length≤N →
  fo N (pre.map aB) (if pre=[] then qW l else kt l)=.ok ((pre++l).map aB)
 |[],pre,N,_,_,_,_=>by
  have:(if pre=[] then qW [] else kt [])=[]:=by split<;>rfl
  rw[this,dx,append_nil]
 |o::r,pre,0,_,_,_,hn=>by simp at hn
 |o::r,pre,N+1,h,hb,h8,hn=>by
  have ho:=h o (by simp);have hr:∀p∈r,OpOk p:=fun p hp=>h p (by simp[hp]);have hpre:∀p∈pre,OpOk p:=fun p hp=>h p (by simp[hp])
  have hap:Jh o (kt r):=GA ho hr fun p q e=>by
   subst e;exact hb pre.length o p (by simp) (by simp)
  have hop:=P7 ho (MZ hr) hap;rw[length_cons]at h8 hn;have pok:=zH ho
  have hg:sn (pre.map aB) (aB o)=false:=by
   unfold sn;cases hl:(pre.map aB).getLast? with
   |none=>rfl
   |some q' =>
    rw[List.getLast?_map,Option.map_eq_some_iff]at hl;obtain⟨q,hq,rfl⟩:=hl
    have hlen:0<pre.length:=by
     cases pre with
     |nil=>simp at hq
     |cons x y=>simp
    have hq1:(pre++o::r)[pre.length-1]? = some q:=by
     rw[List.getElem?_append_left (by omega),←List.getLast?_eq_getElem?];exact hq
    have hq2:(pre++o::r)[pre.length-1+1]? = some o:=by
     rw[show pre.length-1+1=pre.length by omega];simp
    exact Kz (hpre q (List.mem_of_getLast? hq)) ho (hb _ _ _ hq1 hq2)
  have hs:stepR (pre.map aB) (if pre=[] then qW (o::r) else kt (o::r))=.ok ((pre++[o]).map aB,kt r):=by
   have e1:(if pre.map aB=[] then(.ok (if pre=[] then qW (o::r) else kt (o::r)):Except Int (List Tok)) else mustR az (if pre=[] then qW (o::r) else kt (o::r)))=.ok (txT o++kt r):=by
    by_cases hp:pre=[]
    ·rw[if_pos (by rw[hp];rfl),if_pos hp,l9]
    ·rw[if_neg (by simpa using hp),if_neg hp,←l9];exact iA _ _
   unfold stepR;rw[e1];simp only;rw[if_neg (by rw[length_map];omega),hop];simp only;rw[if_neg (not_not_intro pok.ok.chk),if_neg (by rw[hg];simp),map_append];rfl
  have hne:(if pre=[] then qW (o::r) else kt (o::r))≠[]:=by
   obtain⟨t,x,et⟩:=uN ho;by_cases hp:pre=[]
   ·rw[if_pos hp,l9];unfold txT;rw[et];simp
   ·rw[if_neg hp];simp[kt]
  rw[dq hne,hs];simp only;have ih:=Ft r (pre++[o]) N (by simpa using h) (by simpa using hb) (by rw[length_append,List.length_singleton];omega) (by omega);rw[if_neg (by simp)]at ih;rw[ih];simp
theorem badPair_all:∀{l:List OpV},jj l=false→∀i a b,l[i]? = some a→l[i+1]? = some b→fI a b=false:=fun h i a b h1 h2=>by
 cases hb:fI a b with
 |false=>rfl
 |true=>rw[sE h1 h2 hb]at h;cases h
theorem Fc:∀{l:List OpV},(∀o∈l,OpOk o)→l.length≤(qW l).length
 |[],_=>zero_le _
 |o::r,h=>by
  obtain⟨t,x,et⟩:=uN (h o (by simp));have ih:=Fc (l:=r) fun p hp=>h p (by simp[hp]);rw[l9];unfold txT;rw[et];cases r with
  |nil=>simp
  |cons p r =>
   simp only[kt,map_cons,length_append,length_cons]at ih ⊢;omega
theorem ON {l:List OpV}(h:∀o∈l,OpOk o)(hb:jj l=false)(h8:l.length≤8):listF (qW l)=.ok (l.map aB):=by
 have:=Ft l [] (qW l).length (by simpa using h) (by simpa using badPair_all hb) (by simpa using h8) (Fc h);simpa[listF] using this
end Go.Proofs.YtnhbidpdadkcjaaGreatDoor
namespace Go.Proofs.YtnhbidpdadkcjaaGreatDoor
theorem nI {o o':OpV}{most nn:Int}{l r:List Tok}(h:RdOk l)(e:changedR o most nn l=.ok (o',r)):o'.kind=o.kind:=by
 obtain⟨-,-,a,b,rfl⟩:=qu h e;rfl
theorem Lr {o o':OpV}{l r:List Tok}(e:vt o l=.ok (o',r)):o'.kind=o.kind:=by
 unfold vt at e;split at e
 ·cases e
 ·split at e
  ·cases e
  ·injection e with e;injection e with e1 e2;rw[←e1];rfl
theorem Md {o o':OpV}{l r:List Tok}(e:vF o l=.ok (o',r)):o'.kind=o.kind:=by
 unfold vF at e;split at e
 ·cases e
 ·split at e
  ·cases e
  ·split at e
   ·cases e
   ·split at e
    ·injection e with e;injection e with e1 e2;rw[←e1];rfl
    ·injection e with e;injection e with e1 e2;rw[←e1];rfl
theorem Le {o o':OpV}{l r:List Tok}(h:RdOk l)(e:tW o l=.ok (o',r)):o'.kind=o.kind:=by
 unfold tW at e;split at e
 ·cases e
 ·rename_i o1 l1 h1;split at e
  ·cases e
  ·split at e
   ·cases e
   ·injection e with e;injection e with e1 e2;rw[←e1];exact nI h h1
theorem CA {o o':OpV}{l r:List Tok}(h:RdOk l)(e:fK o l=.ok (o',r)):o'.kind=o.kind:=by
 unfold fK at e;split at e
 ·cases e
 ·rename_i l0 h0;have k0:=(eX mm h h0).1;split at e
  ·exact(Le (k0.drop 1) e).trans rfl
  ·split at e
   ·cases e
   ·split at e
    ·exact Lr e
    ·exact Md e
theorem Ia {o o':OpV}{l r:List Tok}(e:nl o l=.ok (o',r)):o'.kind=o.kind:=by
 unfold nl at e;split at e
 ·split at e
  ·cases e
  ·injection e with e;injection e with e1 e2;rw[←e1];rfl
 ·injection e with e;injection e with e1 e2;rw[←e1]
theorem C2 {o:OpV}{l r:List Tok}(h:RdOk l)(e:fm l=.ok (o,r)):o.kind=5:=by
 unfold fm at e;split at e
 ·cases e
 ·split at e
  ·exact(Ia e).trans rfl
  ·exact(CA (rg h).1 e).trans rfl
theorem IP {s:ByteArray}{o:OpV}(h:rsvdF s km=some o)(hc:fh o=0):aB o=o:=by
 have h:rsvdF s ((2,4)::(4,7)::(6,6)::(7,8)::(8,9)::[])=some o:=h
 have nameOk:∀{k:Int},¬k=2→¬k=6→(ag 3 k s).2=0→ak k (ag 3 k s).1=(s,0):=fun h2 h6 hn=>by
  obtain⟨x,e1,e2⟩:=back (k:=_) (m:=(ag 3 _ s).1) (s:=s) (by rw[←hn]);rcases e2 with e2 | e2 | e2
  ·rw[e1,e2]
  ·exact absurd e2.1 h2
  ·exact absurd e2 h6
 by_cases n2:(ag 3 2 s).2=0
 ·rw[rsvdF,if_pos n2]at h;injection h with h;subst h;exact gu ⟨by show ¬(4:Int)=3;decide,by show ¬(4:Int)=7;decide,by show ¬(4:Int)=8;decide,by show ¬(4:Int)=9;decide⟩
 rw[rsvdF,if_neg n2]at h;by_cases n4:(ag 3 4 s).2=0
 ·rw[rsvdF,if_pos n4]at h;injection h with h;subst h;have hk:(jE 7 (ag 3 4 s).1).kind=7:=rfl;unfold aB;rw[if_neg (not_not_intro hc),nG,if_pos hk];exact if_neg (not_not_intro (show(ak 4 (ag 3 4 s).1).2=0 by rw[nameOk (by decide) (by decide) n4]))
 rw[rsvdF,if_neg n4]at h;by_cases n6:(ag 3 6 s).2=0
 ·rw[rsvdF,if_pos n6]at h;injection h with h;subst h;exact gu ⟨by show ¬(6:Int)=3;decide,by show ¬(6:Int)=7;decide,by show ¬(6:Int)=8;decide,by show ¬(6:Int)=9;decide⟩
 rw[rsvdF,if_neg n6]at h;by_cases n7:(ag 3 7 s).2=0
 ·rw[rsvdF,if_pos n7]at h;injection h with h;subst h;have hk:(jE 8 (ag 3 7 s).1).kind=8:=rfl;unfold aB;rw[if_neg (not_not_intro hc),nG,nG,if_pos hk];exact if_neg (not_not_intro (show(ak 7 (ag 3 7 s).1).2=0 by rw[nameOk (by decide) (by decide) n7]))
 rw[rsvdF,if_neg n7]at h;by_cases n8:(ag 3 8 s).2=0
 ·rw[rsvdF,if_pos n8]at h;injection h with h;subst h;have hk:(jE 9 (ag 3 8 s).1).kind=9:=rfl;have hx:=nameOk (k:=8) (by decide) (by decide) n8
  have ex:aO (jE 9 (ag 3 8 s).1)=s:=by
   unfold aO dF;rw[nG,nG,nG,nG,nG,nG,nG,if_pos hk];show(if(ak 8 (ag 3 8 s).1).2=0 then(ak 8 (ag 3 8 s).1).1 else _)=s;rw[hx,if_pos rfl]
  unfold aB;rw[if_neg (not_not_intro hc),nG,nG,nG,if_pos hk,ex,if_neg n6]
 ·rw[rsvdF,if_neg n8]at h;cases h
theorem Fb {o:OpV}{l r:List Tok}(h:RdOk l)(e:operR l=.ok (o,r))(hc:fh o=0):aB o=o:=by
 unfold operR at e;split at e
 ·have hk:=nI (h.drop 1) e;exact gu (by simp only at hk;omega)
 split at e
 ·have hk:=C2 (h.drop 1) e;exact gu (by omega)
 split at e
 ·unfold nj at e;split at e
  ·cases e
  ·rename_i v l1 h1;have hk:=nI (gD (h.drop 1) h1).2.1 e;have hk:o.kind=2:=hk;exact gu (by omega)
 split at e
 ·cases e
 ·split at e
  ·cases e
  ·injection e with e;injection e with e1 e2;have hk:o.kind=2:=by rw[←e1];rfl
   exact gu (by omega)
 ·split at e
  ·unfold cK at e;split at e
   ·rename_i o1 h1;injection e with e;injection e with e1 e2;subst e1;exact IP h1 hc
   ·cases e
  ·split at e
   ·cases e
   ·rename_i v l1 h1;injection e with e;injection e with e1 e2;split at e1
    ·have hk:o.kind=2:=by rw[←e1];rfl
     exact gu (by omega)
    ·rename_i hna;have hk:o.kind=3:=by rw[←e1];rfl
     have ha:ly o=false:=by
      cases ha:ly o with
      |false=>rfl
      |true =>
       unfold ly at ha;rw[and_eq_true,decide_eq_true_eq,decide_eq_true_eq,←e1]at ha;exact absurd ha hna
     unfold aB;rw[if_neg (not_not_intro hc),if_pos hk,if_neg (by rw[ha];simp)]
structure xQ (out:List OpV):Prop where
 plain:∀o∈out,aB o=o
 bad:∀i a b,out[i]? = some a→out[i+1]? = some b→fI a b=false
theorem I0 {out out':List OpV}{l r:List Tok}(h:RdOk l)(hr:xQ out)(e:stepR out l=.ok (out',r)):xQ out':=by
 unfold stepR at e;split at e
 ·cases e
 ·rename_i l1 h1
  have k1:RdOk l1:=by
   split at h1
   ·injection h1 with h1;subst h1;exact h
   ·exact(eX mm h h1).1
  split at e
  ·cases e
  ·split at e
   ·cases e
   ·rename_i o l2 h2;split at e
    ·cases e
    ·rename_i hc;split at e
     ·cases e
     ·rename_i hg;injection e with e;injection e with e1 e2;subst e1;refine⟨fun p hp=>?_,fun i a b h1 h2=>?_⟩
      ·rw[mem_append,List.mem_singleton]at hp;rcases hp with hp | rfl
       ·exact hr.plain p hp
       ·exact Fb k1 h2 (Decidable.not_not.1 hc)
      ·rcases Nat.lt_or_ge (i+1) out.length with hi | hi
       ·rw[List.getElem?_append_left (by omega)]at h1;rw[List.getElem?_append_left hi]at h2;exact hr.bad i a b h1 h2
       ·have hi2:i+1=out.length:=by
         have:=(List.getElem?_eq_some_iff.1 h2).1;rw[length_append,List.length_singleton]at this;omega
        rw[hi2,List.getElem?_append_right (Nat.le_refl _),Nat.sub_self]at h2;simp only[List.getElem?_cons_zero,Option.some.injEq]at h2;subst h2;rw[List.getElem?_append_left (by omega)]at h1
        have hl:out.getLast? = some a:=by
         rw[List.getLast?_eq_getElem?,show out.length-1=i by omega];exact h1
        unfold sn at hg;rw[hl]at hg;simpa using hg
theorem uB:∀{N:Nat} {out out':List OpV} {l:List Tok},RdOk l→nY out→xQ out→fo N out l=.ok out'→xQ out'
 |0,out,out',l,h,ho,hr,e=>by
  cases l with
  |nil=>rw[dx]at e;injection e with e;subst e;exact hr
  |cons t r=>cases e
 |N+1,out,out',[],_,ho,hr,e=>by rw[dx]at e;injection e with e;subst e;exact hr
 |N+1,out,out',t::r,h,ho,hr,e=>by
  rw[dq (by simp)]at e;rcases hs:stepR out (t::r) with x | ⟨o2,l'⟩
  ·rw[hs]at e;cases e
  ·rw[hs]at e;obtain⟨g1,g2,-,-⟩:=mL h ho hs;exact uB g2 g1 (I0 h hr hs) e
theorem Hm {l:List Tok}{out:List OpV}(h:RdOk l)(e:listF l=.ok out):xQ out:=uB h oO ⟨fun o ho=>by simp at ho,fun i a b h1=>by simp at h1⟩ e
theorem Hk {s:ByteArray}{ts:List Tok}{n:Nat}(h:fy (aa s)=(ts,n,0)):RdOk ts:=by
 have hl:(aa s).length=s.size:=ae s;unfold fy at h;split at h
 ·cases h
 ·rename_i hz;have hr:∀z∈aa s,0≤z∧z≤255:=fun z hz=>ig hz;have h1:=xd ts 0 n 0 (zero_le _) (by rw[List.drop_zero];exact h);have h2:=rt hr (by omega) ts 0 n 0 (zero_le _) (by rw[List.drop_zero];exact h);refine⟨fun t ht hk=>?_,by have:=h1.2.2.2;omega⟩
  have key:∀(ts:List Tok) (p:Nat),Rises (aa s).length p ts→∀t∈ts,t.kind=1→bj t.text=true:=by
   intro ts
   induction ts with
   |nil=>intro p _ t ht;cases ht
   |cons u ts ih =>
    rintro p ⟨⟨hc,hsz⟩,a,-,-,-,hrest⟩ t ht hk;rcases List.mem_cons.1 ht with rfl | ht
    ·obtain⟨hi,-⟩:=Ex.check_is hc;unfold isT at hi;rw[if_pos hk]at hi;unfold bj;rw[decide_eq_true hsz,Ex.nameB_nameL,hi];rfl
    ·exact ih _ hrest t ht hk
  exact key ts 0 h2 t ht hk
theorem Gy {l:List Tok}{a:List OpV}(h:RdOk l)(e:listF l=.ok a):(eE a).2=0∧(∀o∈a,okO o∧fh o=0∧aB o=o)∧a.map aB=a:=by
 have h1:=OM h e;have h2:=Hm h e;refine⟨?_,fun o ho=>⟨(h1.all o ho).1,(h1.all o ho).2,h2.plain o ho⟩,?_⟩
 ·unfold eE;rw[if_neg (not_not_intro (uU fun o ho=>(h1.all o ho).2)),if_neg (by have:=h1.few;omega),if_neg (by rw[sF h2.bad];simp)]
 ·exact(List.map_congr_left fun o ho=>h2.plain o ho).trans (List.map_id a)
end Go.Proofs.YtnhbidpdadkcjaaGreatDoor
