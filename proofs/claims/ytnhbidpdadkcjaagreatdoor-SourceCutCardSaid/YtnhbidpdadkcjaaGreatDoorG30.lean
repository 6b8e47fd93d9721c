import Derived.Test.YtnhbidpdadkcjaaGreatDoorG29
import Derived.Lib.ItoaMem
import Derived.Test.YtnhbidpdadkcjaaGreatDoorG26
import Derived.Lib.IndexAny
set_option linter.unusedVariables false
set_option linter.unusedSimpArgs false
open Go.RowKit
open List (length_append length_cons map_cons mem_append mem_cons_self append_assoc mem_cons_of_mem mem_cons not_mem_nil append_nil nil_append cons_append length_drop)
open Bool (and_eq_true)
open Int (eq_ofNat_of_zero_le)
namespace Go.Proofs.YtnhbidpdadkcjaaGreatDoor.Ex
theorem qA (c:Int):(fD c).length≤4:=by
 unfold fD;split
 ·simp
 ·split<;>simp
theorem nz:∀l:List Int,(gZ l).length≤4*l.length
 |[]=>by simp[gZ]
 |c::l=>by
  have h1:=nz l;have h2:=qA c;have:gZ (c::l)=fD c++gZ l:=rfl;rw[this,length_append,length_cons];omega
set_option maxRecDepth 100000
def sr (n:Int):ByteArray:=⟨(Lib.decDigits n.toNat).toArray⟩
theorem Dt {n:Int}(h0:0≤n)(h:n<10):sr n=ao [48+n]:=by
 unfold sr;rw[Lib.decDigits_one (by omega)];unfold ao;simp only[map_cons,List.map_nil];rw[show(48+n).toNat=48+n.toNat by omega]
theorem JR {n:Int}(h:10≤n):sr n=sr (n / 10)++ao [48+n % 10]:=by
 unfold sr;rw[Lib.decDigits,dif_neg (by omega)];have e1:(n / 10).toNat=n.toNat / 10:=by omega
 have e2:(48+n % 10).toNat=48+n.toNat % 10:=by omega
 rw[e1];unfold ao;simp only[map_cons,List.map_nil,e2];refine ByteArray.ext ?_;simp[ByteArray.append]
theorem GC {n:Int}(h0:0≤n)(h:n<18446744073709551616):(sr n).size≤20:=by
 have e:(sr n).size=(Lib.decDigits n.toNat).length:=by simp[sr,ByteArray.size]
 rw[e,Lib.decDigits_length];rcases Nat.eq_zero_or_pos n.toNat with h1 | h1
 ·rw[h1];decide +kernel
 ·have:=Lib.numDigits_eq n.toNat h1 (by omega);split at this<;>omega
def jV (t:Tok):ByteArray:=if cP t=0 then if t.kind=2 then sr t.n else if t.kind=3 then ao (gt (aa t.text)) else t.text else emp
def mS (t:Tok):Bool:=decide (t.kind=1)||decide (t.kind=2)
def nL (t:Tok):Bool:=decide (t.kind=4)&&decide (t.text=⟨#[47]⟩)
def apartF (a b:Tok):Bool:=(mS a&&mS b)||(nL a&&nL b)
def nJ (p:Option Tok)(t:Tok):Bool:=match p with | some a=>apartF a t | none=>false
def spB:ByteArray:=⟨#[32]⟩
def RI (t:Tok):Prop:=t.text.size≤140737488351232∧0≤t.n∧t.n<18446744073709551616
theorem check_is {t:Tok}(h:cP t=0):isT t=true∧0≤t.pos∧(t.n=0∨t.kind=2):=by
 unfold cP at h;split at h
 ·assumption
 ·cases h
theorem check_kind {t:Tok}(h:cP t=0):t.kind=1∨t.kind=2∨t.kind=3∨t.kind=4:=by
 have:=(check_is h).1;unfold isT at this;split at this
 ·exact .inl (by assumption)
 ·split at this
  ·exact .inr (.inl (by assumption))
  ·split at this
   ·exact .inr (.inr (.inl (by assumption)))
   ·split at this
    ·exact .inr (.inr (.inr (by assumption)))
    ·cases this
theorem Dk {t:Tok}(h:cP t=0)(k:t.kind=3):t.text.size≤512:=by
 have:=(check_is h).1;unfold isT at this;rw[nG,nG,if_pos k]at this;exact of_decide_eq_true this
theorem zV (l:List Int):(ao l).size=l.length:=by simp[ao,ByteArray.size]
theorem Eu (l:List Int):(gt l).length≤4*l.length+2:=by
 have:=nz l;unfold gt;simp only[length_cons,length_append,List.length_nil];omega
theorem Sg {t:Tok}(h:cP t=0)(hs:RI t):0<(jV t).size∧(jV t).size≤140737488351232:=by
 obtain⟨h1,h2,h3⟩:=hs;have hi:=(check_is h).1;unfold jV;rw[if_pos h];rcases check_kind h with k | k | k | k
 ·rw[nG,nG];unfold isT at hi;rw[if_pos k]at hi;unfold dJ at hi;simp only[and_eq_true,decide_eq_true_eq]at hi;have:=hi.1.1;rw[ae]at this;exact⟨this,h1⟩
 ·rw[if_pos k];have:=GC h2 h3;have h4:(sr t.n).size=(Lib.decDigits t.n.toNat).length:=by simp[sr,ByteArray.size]
  have h5:0<(Lib.decDigits t.n.toNat).length:=by rw[Lib.decDigits];split<;>simp
  omega
 ·rw[nG,if_pos k,zV];have:=Eu (aa t.text);have h4:=Dk h k;rw[ae]at this;refine⟨by unfold gt;simp,by omega⟩
 ·rw[nG,nG];unfold isT at hi;rw[nG,nG,nG,if_pos k]at hi;have:=of_decide_eq_true hi;exact⟨this.1,h1⟩
def dL (n:Int):List Int:=aa (sr n)
theorem AD {n:Int}(h0:0≤n)(h:n<10):dL n=[48+n]:=by
 unfold dL;rw[Dt h0 h,bB (by simp;omega)]
theorem Qh {n:Int}(h:10≤n):dL n=dL (n / 10)++[48+n % 10]:=by
 unfold dL;rw[JR h,db,bB (by simp;omega)]
theorem uY:∀(N:Nat) (n:Int),n.toNat≤N→0≤n→(∀c∈dL n,48≤c∧c≤57)∧bx 10 (dL n)=n∧1≤(dL n).length∧(1≤n→bAt (dL n) 0≠48)∧(n<10→(dL n).length=1):=by
 intro N
 induction N with
 |zero =>
  intro n hN h0;obtain rfl:n=0:=by omega
  rw[AD (by omega) (by omega)];refine⟨by simp,rfl,by simp,by omega,by simp⟩
 |succ N ih =>
  intro n hN h0;by_cases h:n<10
  ·rw[AD h0 h];refine⟨by simp;omega,?_,by simp,?_,by simp⟩
   ·show(0*10+aA (48+n):Int)=n;unfold aA;rw[pS];omega
   ·intro h1;show 48+n≠48;omega
  ·obtain⟨i1,i2,i3,i4,i5⟩:=ih (n / 10) (by omega) (by omega);rw[Qh (by omega)];refine⟨?_,?_,?_,?_,?_⟩
   ·intro c hc;rw[mem_append,List.mem_singleton]at hc;rcases hc with hc | rfl
    ·exact i1 c hc
    ·omega
   ·unfold bx at i2 ⊢;rw[List.foldl_append,i2];show n / 10*10+aA (48+n % 10)=n;unfold aA;rw[pS];omega
   ·simp
   ·intro _;rw[jy (by omega)];exact i4 (by omega)
   ·omega
theorem pD {l:List Int}(h:∀c∈l,48≤c∧c≤57){i:Nat}(hi:i<l.length):48≤bAt l i∧bAt l i≤57:=by
 have:=ux hi;exact h _ (List.mem_of_getElem? this)
theorem GF {c:Int}(h:48≤c∧c≤57):aA c=c-48:=by unfold aA;rw[if_pos h]
theorem G1 {c:Int}(h:aA c<10):48≤c∧c≤57:=by
 unfold aA at h;split at h
 ·assumption
 ·split at h
  ·omega
  ·split at h<;>omega
theorem AM {c:Int}(h:48≤c∧c≤57):aM c=true:=by
 unfold aM dM;rw[decide_eq_true h,Bool.or_true]
def yQ (r:List Int):Prop:=r=[]∨aM (bAt r 0)=false
theorem sO {a r:List Int}(h:yQ r):¬(a.length<(a++r).length∧aM (bAt (a++r) a.length)=true):=by
 rintro⟨h1,h2⟩;rw[uQ]at h2;rcases h with rfl | h
 ·simp at h1
 ·rw[h]at h2;cases h2
theorem HG {n:Int}(h0:0≤n)(h1:n<18446744073709551616){r:List Int}(hr:yQ r):aE (dL n++r)=(n,(dL n).length):=by
 obtain⟨f1,f2,f3,f4,f5⟩:=uY n.toNat n (Nat.le_refl _) h0;have hb0:bAt (dL n++r) 0=bAt (dL n) 0:=jy (by omega);have hd0:=pD f1 (i:=0) (by omega)
 have hz:∀c:Int,c=120∨c=98→¬(1<(dL n++r).length∧bAt (dL n++r) 0=48∧bAt (dL n++r) 1=c):=by
  rintro c hc ⟨g1,g2,g3⟩;rw[hb0]at g2
  have hn:n=0:=by
   by_cases h:1≤n
   ·exact absurd g2 (f4 h)
   ·omega
  have hl:=f5 (by omega);have e:bAt (dL n++r) 1=bAt r 0:=by rw[←hl,uQ]
  rcases hr with rfl | hr
  ·simp at g1;omega
  ·rw[←e,g3]at hr;rcases hc with rfl | rfl<;>exact absurd hr (by decide)
 have hbase:dS (dL n++r)=10:=by
  unfold dS;rw[if_neg (hz 120 (.inl rfl)),if_neg (hz 98 (.inr rfl))]
 have hhead:cg (dL n++r)=0:=by
  unfold cg;rw[if_neg];rintro⟨g1,g2,g3 | g3⟩
  ·exact hz 120 (.inl rfl) ⟨g1,g2,g3⟩
  ·exact hz 98 (.inr rfl) ⟨g1,g2,g3⟩
 have hrun:bn 10 (dL n++r)=(dL n).length:=by
  refine nH _ _ _ (by simp) (fun i hi=>?_) (fun hi=>?_)
  ·rw[jy hi];have:=pD f1 hi;rw[GF this];exact decide_eq_true (by omega)
  ·refine decide_eq_false fun h=>?_;have:=AM (G1 h);exact sO hr ⟨hi,this⟩
 unfold aE;rw[hbase,hhead,List.drop_zero,hrun,hb0,nG,if_neg,List.take_left,f2,nG,Nat.zero_add];rintro (g | ⟨_,g1,g2⟩)
 ·omega
 ·by_cases h:1≤n
  ·exact f4 h g2
  ·have:=f5 (by omega);omega
theorem BX {c:Int}(h0:0≤c)(h1:c≤255)(x:List Int):dv (fD c++x)=.put c (fD c).length:=by
 have hx16:aA (kO (c / 16))=c / 16:=by
  unfold kO aA;by_cases h:c / 16<10
  ·rw[if_pos h,pS];omega
  ·rw[if_neg h,nG,pS];omega
 have hx1:aA (kO (c % 16))=c % 16:=by
  unfold kO aA;by_cases h:c % 16<10
  ·rw[if_pos h,pS];omega
  ·rw[if_neg h,nG,pS];omega
 by_cases hs:cU c≠0
 ·have e:fD c=[92,cU c]:=by unfold fD;rw[if_pos hs]
  have hl:Bq (cU c)=some c:=by
   unfold cU at hs ⊢;by_cases c0:c=0
   ·subst c0;rfl
   by_cases c1:c=9
   ·subst c1;rfl
   by_cases c2:c=10
   ·subst c2;rfl
   by_cases c3:c=13
   ·subst c3;rfl
   by_cases c4:c=34
   ·subst c4;rfl
   by_cases c5:c=92
   ·subst c5;rfl
   ·simp only[c0,c1,c2,c3,c4,c5,or_self,if_false]at hs;exact absurd rfl hs
  rw[e];unfold dv;rw[if_neg (by simp),if_neg (by show ¬(92:Int)=34;decide),if_pos (by rfl)]
  have:lp (List.drop 1 ([92,cU c]++x))=some (c,1):=by
   show lp (cU c::x)=_;unfold lp;rw[if_neg (by simp),Aw,hl]
  rw[this];rfl
 have hs0:cU c=0:=by simpa using hs
 have hne:c≠34∧c≠92:=by
  constructor
  ·rintro rfl;exact absurd hs0 (by decide)
  ·rintro rfl;exact absurd hs0 (by decide)
 by_cases hw:g9 c=true
 ·have e:fD c=[c]:=by unfold fD;rw[if_neg hs,if_pos hw]
  rw[e];unfold dv;rw[if_neg (by simp),if_neg (by show ¬c=34;exact hne.1),if_neg (by show ¬c=92;exact hne.2),if_pos (by exact hw)];rfl
 ·have e:fD c=[92,120,kO (c / 16),kO (c % 16)]:=by unfold fD;rw[if_neg hs,if_neg hw]
  rw[e];unfold dv;rw[if_neg (by simp),if_neg (by show ¬(92:Int)=34;decide),if_pos (by rfl)]
  have:lp (List.drop 1 ([92,120,kO (c / 16),kO (c % 16)]++x))=some (c,3):=by
   show lp (120::kO (c / 16)::kO (c % 16)::x)=_;unfold lp;have hl:Bq (bAt (120::kO (c / 16)::kO (c % 16)::x) 0)=none:=by rw[Aw];rfl
   rw[if_neg (by simp),hl];have b1:bAt (120::kO (c / 16)::kO (c % 16)::x) 1=kO (c / 16):=rfl;have b2:bAt (120::kO (c / 16)::kO (c % 16)::x) 2=kO (c % 16):=rfl;simp only[b1,b2,hx16,hx1];rw[if_pos ⟨by simp,rfl,by omega,by omega⟩];congr 2;omega
  rw[this];rfl
theorem yq:∀{s:List Int},(∀z∈s,0≤z∧z≤255)→∀r:List Int,quotesL (gZ s++34::r)=some (s,(gZ s).length+1)
 |[],_,r=>gj rfl
 |c::s,h,r=>by
  have hc:=h c (mem_cons_self ..);have e:gZ (c::s)=fD c++gZ s:=rfl;rw[e,append_assoc,ik (BX hc.1 hc.2 _),List.drop_left,yq (fun z hz=>h z (mem_cons_of_mem _ hz)) r];simp[Nat.add_assoc]
theorem Ey {s:List Int}(h:∀z∈s,0≤z∧z≤255)(r:List Int):bL (gt s++r)=(s,(gt s).length):=by
 unfold bL;have e:(gt s++r).drop 1=gZ s++34::r:=by unfold gt;simp
 rw[e,yq h r];unfold gt;simp
theorem zJ {c:Int}(h0:0≤c)(h1:c≤255):∀z∈fD c,0≤z∧z≤255:=by
 have hd:∀k:Int,0≤k→k<16→0≤kO k∧kO k≤255:=by
  intro k g0 g1;unfold kO;split<;>omega
 have hsr:0≤cU c∧cU c≤255:=by unfold cU;(repeat' split)<;>omega
 intro z hz;unfold fD at hz;split at hz
 ·simp at hz;rcases hz with rfl | rfl
  ·omega
  ·exact hsr
 ·split at hz
  ·simp at hz;omega
  ·simp at hz;rcases hz with rfl | rfl | rfl | rfl
   ·omega
   ·omega
   ·exact hd _ (by omega) (by omega)
   ·exact hd _ (by omega) (by omega)
theorem rR {s:List Int}(h:∀z∈s,0≤z∧z≤255):∀z∈gt s,0≤z∧z≤255:=by
 intro z hz;unfold gt gZ at hz;simp only[mem_cons,mem_append,List.mem_flatMap,not_mem_nil,or_false]at hz;rcases hz with rfl | ⟨c,hc,hz⟩ | rfl
 ·omega
 ·exact zJ (h c hc).1 (h c hc).2 z hz
 ·omega
def After (t:Tok)(r:List Int):Prop:=(mS t=true→yQ r)∧(nL t=true→¬(0<r.length∧bAt r 0=47))
def dD (t:Tok):List Int:=aa (jV t)
theorem txt_head {t:Tok}(h:cP t=0)(h0:0≤t.n)(r:List Int):0<(dD t).length∧bAt (dD t++r) 0=bAt (dD t) 0∧an (bAt (dD t) 0)=false∧(aM (bAt (dD t) 0)=true→mS t=true)∧(bAt (dD t) 0=47→nL t=true):=by
 have hi:=(check_is h).1
 have key:0<(dD t).length∧an (bAt (dD t) 0)=false∧(aM (bAt (dD t) 0)=true→mS t=true)∧(bAt (dD t) 0=47→nL t=true):=by
  unfold dD jV;rw[if_pos h];rcases check_kind h with k | k | k | k
  ·rw[nG,nG];unfold isT at hi;rw[if_pos k]at hi;unfold dJ at hi;simp only[and_eq_true,decide_eq_true_eq]at hi;obtain⟨⟨g1,g2⟩,g3⟩:=hi;have:=nj g2;exact⟨g1,this.1,fun _=>by unfold mS;rw[decide_eq_true k];rfl,fun e=>absurd e this.2⟩
  ·rw[if_pos k];obtain⟨f1,_,f3,_,_⟩:=uY t.n.toNat t.n (Nat.le_refl _) h0;have hd:=pD f1 (i:=0) (by omega);unfold dL at f3 hd;refine⟨by omega,by unfold an;exact decide_eq_false (by omega),fun _=>by unfold mS;rw[decide_eq_true k,Bool.or_true],fun e=>by omega⟩
  ·rw[nG,if_pos k,bB (rR fun z hz=>fx hz)];refine⟨by unfold gt;simp,rfl,fun e=>absurd e (by show ¬aM 34=true;decide),fun e=>absurd e (by show ¬(34:Int)=47;decide)⟩
  ·rw[nG,nG];unfold isT at hi;rw[nG,nG,nG,if_pos k]at hi;obtain⟨g1,g2⟩:=of_decide_eq_true hi;have hl:=ae t.text;have hs:ba (aa t.text)≠0:=by omega
   have hh:=tg hs;refine⟨by omega,?_,?_,?_⟩
   ·rcases hh with e | e | e
    ·rw[e];rfl
    ·rw[e];rfl
    ·exact(pN e).1
   ·intro hw;exfalso;rcases hh with e | e | e
    ·rw[e]at hw;exact absurd hw (by decide)
    ·rw[e]at hw;exact absurd hw (by decide)
    ·revert hw e;generalize bAt (aa t.text) 0=c;intro hw e;unfold pk at e;simp only[mem_cons,not_mem_nil,or_false]at e;rcases e with rfl | rfl | rfl | rfl | rfl | rfl | rfl | rfl | rfl | rfl | rfl | rfl | rfl | rfl | rfl | rfl | rfl | rfl<;>exact absurd hw (by decide)
   ·intro e
    have h1:t.text.size=1:=by
     rw[←g2];unfold ba;rw[nG,if_pos ⟨by omega,by rw[e];decide⟩]
    have h2:aa t.text=[47]:=by
     rw[←hl]at h1;obtain⟨x,hx⟩:=List.length_eq_one_iff.1 h1;rw[hx]at e ⊢;rw[show x=47 from e]
    have h3:t.text=⟨#[47]⟩:=eS (h2.trans rfl);unfold nL;rw[decide_eq_true k,decide_eq_true h3];rfl
 exact⟨key.1,jy key.1,key.2⟩
theorem I8 {a r:List Int}(h:dJ a=true)(hr:yQ r):aS aM (a++r)=a.length:=by
 unfold dJ at h;simp only[and_eq_true,decide_eq_true_eq]at h;obtain⟨⟨g1,g2⟩,g3⟩:=h;refine nH _ _ _ (by simp) (fun i hi=>?_) (fun hi=>?_)
 ·rw[jy hi];exact nI _ _ _ (by omega)
 ·cases hw:aM (bAt (a++r) a.length) with
  |false=>rfl
  |true=>exact absurd ⟨hi,hw⟩ (sO hr)
theorem L3 {a r:List Int}(h0:0<a.length)(h:ba a=a.length)(hs:a=[47]→¬(0<r.length∧bAt r 0=47)):ba (a++r)=a.length∧cA (a++r)=false:=by
 have hb0:bAt (a++r) 0=bAt a 0:=jy h0;unfold ba at h;split at h
 ·rename_i hc;obtain⟨c1,c2⟩:=hc;have hb1:bAt (a++r) 1=bAt a 1:=jy c1;constructor
  ·unfold ba;rw[if_pos ⟨by rw[length_append];omega,by rw[hb0,hb1];exact c2⟩];exact h
  ·unfold cA;rw[hb0];rw[decide_eq_false (show ¬(a++r).length=0 by rw[length_append];omega),decide_eq_false (show ¬bAt a 0=47 by omega)];simp
 ·split at h
  ·rename_i hc0 hc;have h1:a.length=1:=h.symm;have hne:=pN hc.2;constructor
   ·unfold ba;rw[hb0,if_neg (by rintro⟨_,g | g⟩<;>omega),if_pos ⟨by rw[length_append];omega,hc.2⟩];exact h
   ·unfold cA;rw[hb0];rw[decide_eq_false (show ¬(a++r).length=0 by rw[length_append];omega),Bool.false_or];rw[Bool.eq_false_iff];intro hd;simp only[and_eq_true,decide_eq_true_eq]at hd;obtain⟨⟨d1,d2⟩,d3⟩:=hd;obtain⟨x,rfl⟩:=List.length_eq_one_iff.1 h1;obtain rfl:x=47:=d2;refine hs rfl ⟨by simp at d1;omega,?_⟩;rw[←d3];rfl
  ·omega
theorem one_text {t:Tok}(h:cP t=0)(h0:0≤t.n)(h1:t.n<18446744073709551616){r:List Int}(hr:After t r) :
  ∃t0,dH (dD t++r)=.ok (t0,(dD t).length)∧oe t0=oe t∧cA (dD t++r)=false∧aS an (dD t++r)=0:=by
 obtain⟨p0,p1,p2,p3,p4⟩:=txt_head h h0 r;have hrun:aS an (dD t++r)=0:=nH _ _ _ (Nat.zero_le _) (fun i hi=>absurd hi (Nat.not_lt_zero _)) (fun _=>by rw[p1];exact p2)
 have hnot47:bAt (dD t) 0≠47→cA (dD t++r)=false:=by
  intro hne;unfold cA;rw[p1,decide_eq_false (show ¬(dD t++r).length=0 by rw[length_append];omega),decide_eq_false hne];simp
 obtain⟨hi,_,hn⟩:=check_is h;rcases check_kind h with k | k | k | k
 ·have hw:mS t=true:=by unfold mS;rw[decide_eq_true k];rfl
  have e:dD t=aa t.text:=by unfold dD jV;rw[if_pos h,nG,nG]
  unfold isT at hi;rw[if_pos k]at hi;have hrn:=I8 hi (hr.1 hw);unfold dJ at hi;simp only[and_eq_true,decide_eq_true_eq]at hi;obtain⟨⟨g1,g2⟩,g3⟩:=hi;rw[←e]at hrn g2;refine⟨⟨1,t.text,0,0⟩,?_,?_,hnot47 (nj g2).2,hrun⟩
  ·unfold dH;rw[p1,if_pos g2,hrn,List.take_left,e,dO]
  ·unfold oe;rcases hn with hn | hn
   ·rw[←k,←hn]
   ·omega
 ·have hw:mS t=true:=by unfold mS;rw[decide_eq_true k,Bool.or_true]
  have e:dD t=dL t.n:=by unfold dD jV dL;rw[if_pos h,if_pos k]
  have hnm:=HG h0 h1 (hr.1 hw);obtain⟨f1,_,f3,_,_⟩:=uY t.n.toNat t.n (Nat.le_refl _) h0;have hd:=pD f1 (i:=0) (by omega);unfold isT at hi;rw[nG,if_pos k]at hi;have htx:=of_decide_eq_true hi;have hno:=sO (a:=dL t.n) (hr.1 hw);rw[e]at p1 hrun ⊢;refine⟨⟨2,emp,t.n,0⟩,?_,?_,by rw[←e];exact hnot47 (by rw[e];omega),hrun⟩
  ·unfold dH;have hl:¬ce (bAt (dL t.n) 0)=true:=by unfold ce;rw[decide_eq_true_eq];omega
   have hdg:dM (bAt (dL t.n) 0)=true:=by unfold dM;exact decide_eq_true hd
   rw[p1,if_neg hl,if_pos (.inl hdg),hnm,if_neg];rintro (g | g)
   ·simp only at g;omega
   ·exact hno g
  ·unfold oe;rw[←k,←htx]
 ·have e:dD t=gt (aa t.text):=by unfold dD jV;rw[if_pos h,nG,if_pos k,bB (rR fun z hz=>fx hz)]
  have hq:=Ey (s:=aa t.text) (fun z hz=>fx hz) r;have hb:bAt (gt (aa t.text)) 0=34:=rfl;rw[e]at p1 hrun ⊢;refine⟨⟨3,t.text,0,0⟩,?_,?_,by rw[←e];exact hnot47 (by rw[e,hb];decide),hrun⟩
  ·unfold dH;rw[p1,hb,if_neg (by decide),if_neg (by decide),if_pos rfl,hq,if_neg (by unfold gt;simp),dO]
  ·unfold oe;rcases hn with hn | hn
   ·rw[←k,←hn]
   ·omega
 ·have e:dD t=aa t.text:=by unfold dD jV;rw[if_pos h,nG,nG]
  unfold isT at hi;rw[nG,nG,nG,if_pos k]at hi;obtain⟨g1,g2⟩:=of_decide_eq_true hi;have hl:=ae t.text
  obtain⟨s1,s2⟩:=L3 (a:=aa t.text) (r:=r) (by omega) (by omega) (fun ea=>hr.2 (by
   have h3:t.text=⟨#[47]⟩:=eS (ea.trans rfl);unfold nL;rw[decide_eq_true k,decide_eq_true h3];rfl))
  have hh:=tg (m:=aa t.text) (by omega)
  have hc:ce (bAt (aa t.text) 0)=false∧dM (bAt (aa t.text) 0)=false∧bAt (aa t.text) 0≠39∧bAt (aa t.text) 0≠34:=by
   revert hh;generalize bAt (aa t.text) 0=c;intro hh;rcases hh with rfl | rfl | hh
   ·decide
   ·decide
   ·unfold pk at hh;simp only[mem_cons,not_mem_nil,or_false]at hh;rcases hh with rfl | rfl | rfl | rfl | rfl | rfl | rfl | rfl | rfl | rfl | rfl | rfl | rfl | rfl | rfl | rfl | rfl | rfl<;>decide
  rw[e]at p1 hrun ⊢;refine⟨⟨4,t.text,0,0⟩,?_,?_,s2,hrun⟩
  ·unfold dH;rw[p1,hc.1,hc.2.1,if_neg (by decide),if_neg (by rintro (g | g);cases g;exact hc.2.2.1 g),if_neg hc.2.2.2,s1,nG,List.take_left,dO]
  ·unfold oe;rcases hn with hn | hn
   ·rw[←k,←hn]
   ·omega
def rendL:Option Tok→List Tok→List Int
 |_,[]=>[]
 |p,t::r=>(if nJ p t=true then[32] else[])++(dD t++rendL (some t) r)
end Go.Proofs.YtnhbidpdadkcjaaGreatDoor.Ex
namespace Go.Proofs.YtnhbidpdadkcjaaGreatDoor.Ex
theorem ju (g:Int→Bool):∀l:List UInt8,qE g l=aS g (l.map fun b=>(b.toNat:Int))
 |[]=>rfl
 |c::l=>by rw[map_cons,gm,←ju g l];unfold qE;rw[List.takeWhile_cons];split<;>simp[Nat.add_comm, *]
theorem nameB_nameL (s:ByteArray):tR s=dJ (aa s):=by
 have hl:(aa s).length=s.size:=ae s;rcases Nat.eq_zero_or_pos s.size with h | h
 ·rw[←sJ h];unfold dJ;rw[hl,h];rfl
 ·rw[np h];unfold dJ;rw[hl,ju]
  have h0:bAt (aa s) 0=(s[0].toNat:Int):=by
   have:=cH h;rw[←ig];unfold ab;rw[List.getD_eq_getElem?_getD,show Int.toNat 0=0 from rfl,List.getElem?_eq_getElem (by simpa using h)];rfl
  rw[h0];simp[h,aa];rfl
set_option maxRecDepth 100000
abbrev plusS:ByteArray:=⟨#[43]⟩
abbrev minusS:ByteArray:=⟨#[45]⟩
def numT (n:Int):Tok:=⟨2,emp,n,0⟩
def nameT (s:ByteArray):Tok:=⟨1,s,0,0⟩
def fm (s:ByteArray):Tok:=⟨4,s,0,0⟩
theorem check_num (n:Int):cP (numT n)=0:=by unfold cP isT numT;simp
theorem check_name {s:ByteArray}(h:cJ s=true):cP (nameT s)=0:=by
 unfold cJ at h;rw[and_eq_true,nameB_nameL]at h;unfold cP isT nameT;simp[h.2]
theorem txt_num {n:Int}(h:0≤n):dD (numT n)=dL n:=by
 unfold dD jV dL;rw[if_pos (check_num n)];rfl
theorem txt_name {s:ByteArray}(h:cJ s=true):dD (nameT s)=aa s:=by
 unfold dD jV;rw[if_pos (check_name h)];rfl
theorem txt_sgn {s:ByteArray}(h:cP (fm s)=0):dD (fm s)=aa s:=by
 unfold dD jV;rw[if_pos h];rfl
theorem Gg (t:Tok)(s:ByteArray)(h:s≠⟨#[47]⟩):apartF t (fm s)=false:=by
 unfold apartF mS nL fm;simp[h]
theorem IJ (t:Tok)(s:ByteArray)(h:s≠⟨#[47]⟩):apartF (fm s) t=false:=by
 unfold apartF mS nL fm;simp[h]
theorem sep_sgn (t:Tok){s:ByteArray}(h:s≠⟨#[47]⟩):nJ (some t) (fm s)=false:=Gg t s h
theorem sgn_sep (t:Tok){s:ByteArray}(h:s≠⟨#[47]⟩):nJ (some (fm s)) t=false:=IJ t s h
theorem minus_ne:minusS≠⟨#[47]⟩:=by decide
theorem plus_ne:plusS≠⟨#[47]⟩:=by decide
theorem fu (p:Option Tok)(t:Tok)(r:List Tok)(h:nJ p t=false):rendL p (t::r)=dD t++rendL (some t) r:=by
 rw[rendL,h];rfl
theorem Fl:∀(f n:Nat),n<10 ^ (f+1)→uk (f+1) n=Lib.decDigits n
 |0,n,h=>by
  have h10:n<10:=by simpa using h
  rw[uk,if_pos h10,Lib.decDigits,dif_pos h10]
 |f+1,n,h=>by
  rw[uk,Lib.decDigits];by_cases h10:n<10
  ·rw[if_pos h10,dif_pos h10]
  ·rw[if_neg h10,dif_neg h10,Fl f (n / 10) (by rw[Nat.pow_succ]at h;omega)]
theorem decS_dL {n:Nat}(h:n<18446744073709551616):aa (decS n)=dL (n:Int):=by
 unfold dL sr decS;rw[Fl 19 n (by omega),Int.toNat_natCast]
def tailT (a:Int):List Tok:=if a=0 then[] else if a<0 then[fm minusS,numT (-a)] else[fm plusS,numT a]
def midT (m:ByteArray):List Tok:=if m=emp then[] else[fm minusS,nameT m]
def valT (v:Val):List Tok :=
 if v.plus=emp∧v.minus=emp then(if v.add<0 then[fm minusS,numT (-v.add)] else[numT v.add])
 else(if v.plus=emp then numT 0 else nameT v.plus)::(midT v.minus++tailT v.add)
structure gw (v:Val):Prop where
 p:v.plus=emp∨cJ v.plus=true
 m:v.minus=emp∨cJ v.minus=true
 ne:v.plus=v.minus→v.plus=emp
 lo : -9223372036854775808≤v.add
 hi:v.add≤9223372036854775807
theorem print_ok {v:Val}{s:ByteArray}(h:printF v=(s,0))(lo : -9223372036854775808≤v.add)(hi:v.add≤9223372036854775807):gw v:=by
 unfold printF at h;split at h
 ·injection h with h1 h2;cases h2
 ·rename_i c1;split at h
  ·injection h with h1 h2;cases h2
  ·rename_i c2;refine⟨?_,?_,fun e=>?_,lo,hi⟩
   ·by_cases e:v.plus=emp
    ·exact .inl e
    ·right;cases hs:cJ v.plus with
     |true=>rfl
     |false=>exact absurd (.inl ⟨e,hs⟩) c1
   ·by_cases e:v.minus=emp
    ·exact .inl e
    ·right;cases hs:cJ v.minus with
     |true=>rfl
     |false=>exact absurd (.inr ⟨e,hs⟩) c1
   ·by_cases e2:v.plus=emp
    ·exact e2
    ·exact absurd ⟨e,e2⟩ c2
theorem sgnM:cP (fm minusS)=0:=by decide +kernel
theorem sgnP:cP (fm plusS)=0:=by decide +kernel
theorem yF {a:Int}(lo : -9223372036854775808≤a)(hi:a≤9223372036854775807)(t:Tok):rendL (some t) (tailT a)=if a=0 then[] else aa (fV a):=by
 unfold tailT fV;by_cases h0:a=0
 ·rw[if_pos h0,if_pos h0];rfl
 rw[if_neg h0,if_neg h0];by_cases h:a<0
 ·rw[if_pos h,if_pos h,fu _ _ _ (sep_sgn _ minus_ne),fu _ _ _ (sgn_sep _ minus_ne),txt_sgn sgnM,txt_num (by omega),db,decS_dL (by omega),Int.toNat_of_nonneg (by omega),rendL,append_nil]
 ·rw[if_neg h,if_neg h,fu _ _ _ (sep_sgn _ plus_ne),fu _ _ _ (sgn_sep _ plus_ne),txt_sgn sgnP,txt_num (by omega),db,decS_dL (by omega),Int.toNat_of_nonneg (by omega),rendL,append_nil]
theorem val_rend {v:Val}{s:ByteArray}(h:printF v=(s,0))(hv:gw v):aa s=rendL none (valT v):=by
 obtain⟨hp,hm,hne,lo,hi⟩:=hv;unfold printF at h;split at h
 ·injection h with h1 h2;cases h2
 split at h
 ·injection h with h1 h2;cases h2
 unfold valT;split at h
 ·rename_i hpl;rw[if_pos hpl];split at h
  ·rename_i hn;rw[if_pos hn];injection h with h1 h2;have:=yF lo hi (numT 0);unfold tailT at this;rw[nG,if_pos hn,nG,h1]at this;rw[←this,fu _ _ _ (sep_sgn _ minus_ne),fu none _ _ rfl]
  ·rename_i hn;rw[if_neg hn];injection h with h1 h2;rw[fu none _ _ rfl,txt_num (by omega),rendL,append_nil,←h1,decS_dL (by omega),Int.toNat_of_nonneg (by omega)]
 ·rename_i hpl;rw[if_neg hpl];injection h with h1 h2
  have hb:∀x:List Tok,rendL none ((if v.plus=emp then numT 0 else nameT v.plus)::x)=aa (if v.plus=emp then⟨#[48]⟩ else v.plus)++rendL (some (if v.plus=emp then numT 0 else nameT v.plus)) x:=by
   intro x;rw[fu none _ _ rfl];congr 1;by_cases e:v.plus=emp
   ·rw[if_pos e,if_pos e,txt_num (by decide)]
    decide +kernel
   ·rw[if_neg e,if_neg e,txt_name (hp.resolve_left e)]
  rw[hb,←h1];obtain⟨B,hB⟩:∃B,(if v.plus=emp then numT 0 else nameT v.plus)=B:=⟨_,rfl⟩;rw[hB];obtain⟨O,hO⟩:∃O,(if v.plus=emp then(⟨#[48]⟩:ByteArray) else v.plus)=O:=⟨_,rfl⟩;simp only[hO]
  have key:∀(O2:ByteArray) (t:Tok),aa (if v.add=0 then O2 else O2++fV v.add)=aa O2++rendL (some t) (tailT v.add):=by
   intro O2 t;rw[yF lo hi];split
   ·rw[append_nil]
   ·rw[db]
  by_cases em:v.minus=emp
  ·simp only[if_pos em];unfold midT;rw[if_pos em,nil_append];exact key O B
  ·simp only[if_neg em];have hsm:=hm.resolve_left em;unfold midT;rw[if_neg em,cons_append,cons_append,nil_append,fu _ _ _ (sep_sgn _ minus_ne),fu _ _ _ (sgn_sep _ minus_ne),txt_sgn sgnM,txt_name hsm,key _ (nameT v.minus),db,db];simp only[append_assoc]
theorem val_toks {v:Val}(hv:gw v):∀u∈valT v,cP u=0∧0≤u.n∧u.n<18446744073709551616:=by
 obtain⟨hp,hm,hne,lo,hi⟩:=hv
 have hs:∀u,u=fm minusS∨u=fm plusS→cP u=0∧0≤u.n∧u.n<18446744073709551616:=by
  rintro u (rfl | rfl)
  ·exact⟨sgnM,by decide,by decide⟩
  ·exact⟨sgnP,by decide,by decide⟩
 have hnum:∀n:Int,0≤n→n<18446744073709551616→cP (numT n)=0∧0≤(numT n).n∧(numT n).n<18446744073709551616:=fun n h0 h1=>⟨check_num n,h0,h1⟩;intro u hu;unfold valT at hu;split at hu
 ·split at hu
  ·simp only[mem_cons,not_mem_nil,or_false]at hu;rcases hu with rfl | rfl
   ·exact hs _ (.inl rfl)
   ·exact hnum _ (by omega) (by omega)
  ·simp only[mem_cons,not_mem_nil,or_false]at hu;subst hu;exact hnum _ (by omega) (by omega)
 ·rw[mem_cons,mem_append]at hu;rcases hu with rfl | hu | hu
  ·split
   ·exact hnum _ (by omega) (by omega)
   ·rename_i e;exact⟨check_name (hp.resolve_left e),Int.le_refl _,by show(0:Int)<_;decide⟩
  ·unfold midT at hu;split at hu
   ·simp at hu
   ·rename_i e;simp only[mem_cons,not_mem_nil,or_false]at hu;rcases hu with rfl | rfl
    ·exact hs _ (.inl rfl)
    ·exact⟨check_name (hm.resolve_left e),Int.le_refl _,by show(0:Int)<_;decide⟩
  ·unfold tailT at hu;split at hu
   ·simp at hu
   ·split at hu
    ·simp only[mem_cons,not_mem_nil,or_false]at hu;rcases hu with rfl | rfl
     ·exact hs _ (.inl rfl)
     ·exact hnum _ (by omega) (by omega)
    ·simp only[mem_cons,not_mem_nil,or_false]at hu;rcases hu with rfl | rfl
     ·exact hs _ (.inr rfl)
     ·exact hnum _ (by omega) (by omega)
section
variable {l:List Tok}{N p:Nat}{u:Tok}
end
end Go.Proofs.YtnhbidpdadkcjaaGreatDoor.Ex
set_option maxRecDepth 100000
set_option maxHeartbeats 8000000
namespace Go.Proofs.YtnhbidpdadkcjaaGreatDoor
abbrev RdR (α:Type):=Except Int (α×List Tok)
def lR:ByteArray:=⟨#[93]⟩
def Dg:ByteArray:=⟨#[91]⟩
def cQ:ByteArray:=⟨#[44]⟩
def cj:ByteArray:=⟨#[58]⟩
def uR:ByteArray:=⟨#[33]⟩
def vO:ByteArray:=⟨#[108,111,49,50]⟩
def atF (l:List Tok)(k:Int)(n:Nat):ByteArray:=match l[n]? with
 |some t=>if t.kind=k then t.text else emp
 |none=>emp
def bd (s:ByteArray)(l:List Tok):Bool×List Tok:=if atF l 4 0=s then(true,l.drop 1) else(false,l)
def aY (s:ByteArray)(l:List Tok):Except Int (List Tok):=if atF l 4 0=s then .ok (l.drop 1) else .error 100
def aP (l:List Tok):RdR Val:=match Ex.parseF l with
 |.error e=>.error e
 |.ok s=>if(Ex.evalAll s.ts).2=0 then .ok ((Ex.evalAll s.ts).1,l.drop s.at_) else .error (Ex.evalAll s.ts).2
def gr (l:List Tok):RdR Int:=match aY cL l with
 |.error e=>.error e
 |.ok l=>match aP l with
  |.error e=>.error e
  |.ok (v,l)=>if(v.plus=emp∧v.minus=emp)∧0≤v.add∧v.add≤63 then .ok (v.add,l) else .error 100
def aR (o:OpV)(most none:Int)(l:List Tok):RdR OpV :=
 if ¬atF l 4 0=cQ∨¬(ai 3 3 (atF l 1 1)).2=0∨most<(ai 3 3 (atF l 1 1)).1 then .ok (o,l)
 else if(ai 3 3 (atF l 1 1)).1≤4∨atF (l.drop 2) 4 0=cL then match gr (l.drop 2) with
  |.error e=>.error e
  |.ok (k,l')=>.ok ({ o with md:=(ai 3 3 (atF l 1 1)).1,amt:=k },l')
 else .ok ({ o with md:=(ai 3 3 (atF l 1 1)).1,amt:=none },l.drop 2)
def loR (l:List Tok):Except Int (Bool×List Tok) :=
 if ¬atF l 4 0=cj then .ok (false,l) else if ¬atF l 1 1=vO∨¬atF l 4 2=cj then .error 100 else .ok (true,l.drop 3)
def jR (l:List Tok):gO×Bool:=if(fi 3 (atF l 1 0)).2=0 then((fi 3 (atF l 1 0)).1,true) else(r0,false)
def aj (l:List Tok):(gO×Bool)×List Tok:=(jR l,if(jR l).2=true then l.drop 1 else l)
def nT (o:OpV)(v:Val):OpV:={ o with add:=v.add,plus:=v.plus,minus:=v.minus }
def D1 (r:gO):OpV:=⟨5,r,r0,0,0,0,0,emp,emp,false,0⟩
def zp (o:OpV)(l:List Tok):RdR OpV:=match aR o 12 (-1) l with
 |.error e=>.error e
 |.ok (o,l)=>if dy o=false then .error 100 else match aY lR l with
  |.error e=>.error e
  |.ok l=>.ok (o,l)
def Br (o:OpV)(l:List Tok):RdR OpV:=match aP l with
 |.error e=>.error e
 |.ok (v,l)=>match aY lR l with
  |.error e=>.error e
  |.ok l=>.ok ({ nT o v with lo:=true },l)
def BT (o:OpV)(l:List Tok):RdR OpV:=match aY cL l with
 |.error e=>.error e
 |.ok l=>match aP l with
  |.error e=>.error e
  |.ok (v,l)=>match aY lR l with
   |.error e=>.error e
   |.ok l=>if(bd uR l).1=true then .ok ({ nT o v with mode:=1 },(bd uR l).2) else .ok (nT o v,l)
def lv (o:OpV)(l:List Tok):RdR OpV:=match aY cQ l with
 |.error e=>.error e
 |.ok l=>if(jR l).2=true then zp { o with mode:=3,m:=(jR l).1,md:=1,amt := -1 } (l.drop 1) else match loR l with
  |.error e=>.error e
  |.ok (b,l)=>if b=true then Br o l else BT o l
def wo (o:OpV)(l:List Tok):RdR OpV:=if atF l 4 0=cQ∧atF l 4 1=cL then match aP (l.drop 2) with
  |.error e=>.error e
  |.ok (v,l)=>.ok ({ nT o v with mode:=2 },l)
 else .ok (o,l)
def gK (l:List Tok):RdR OpV :=
 if fe (D1 (jR l).1)=false then .error 100
 else if(bd lR (aj l).2).1=true then wo (D1 (jR l).1) ((bd lR (aj l).2).2)
 else lv (D1 (jR l).1) (aj l).2
def ry (k n:Int):OpV:=⟨k,r0,r0,0,0,n,0,emp,emp,false,0⟩
def eR (s:ByteArray):List (Int×Int)→Option OpV
 |[]=>none
 |(kd,k)::r=>if(ai 3 kd s).2=0 then some (ry k (ai 3 kd s).1) else eR s r
def nS:List (Int×Int):=[(2,4),(4,7),(6,6),(7,8),(8,9)]
def dP (s:ByteArray)(l:List Tok):RdR OpV:=match eR s nS with
 |some o=>.ok (o,l.drop 1)
 |none=>.error 100
def oP (v:Val)(lo:Bool):OpV:=⟨2,r0,r0,0,0,0,v.add,v.plus,v.minus,lo,0⟩
def toV (v:Val):OpV:=⟨3,r0,r0,0,0,0,v.add,v.plus,v.minus,false,0⟩
def xX (l:List Tok):RdR OpV:=match aP l with
 |.error e=>.error e
 |.ok (v,l)=>aR (oP v false) 1 0 l
def kV (l:List Tok):RdR OpV :=
 if(jR l).2=true then aR ⟨1,(jR l).1,r0,0,0,0,0,emp,emp,false,0⟩ 12 0 (l.drop 1)
 else if atF l 4 0=Dg then gK (l.drop 1)
 else if atF l 4 0=cL then xX (l.drop 1)
 else match loR l with
  |.error e=>.error e
  |.ok (true,l)=>(match aP l with
   |.error e=>.error e
   |.ok (v,l)=>.ok (oP v true,l))
  |.ok (false,l) =>
   if ¬atF l 1 0=emp∧ke 3 (atF l 1 0)=true then dP (atF l 1 0) l
   else match aP l with
    |.error e=>.error e
    |.ok (v,l)=>.ok (if v.plus=emp∧v.minus=emp then oP v false else toV v,l)
def tK (out:List OpV)(o:OpV):Bool:=match out.getLast? with
 |some q=>mg q o
 |none=>false
def fo (out:List OpV)(l:List Tok):RdR (List OpV) :=
 match (if out=[] then .ok l else aY cQ l) with
 |.error e=>.error e
 |.ok l=>if out.length=8 then .error 3 else match kV l with
  |.error e=>.error e
  |.ok (o,l)=>if ¬gT o=0 then .error (gT o) else if tK out o=true then .error 100 else .ok (out++[o],l)
def eZ:Nat→List OpV→List Tok→Except Int (List OpV)
 |_,out,[]=>.ok out
 |0,_,_=>.error 100
 |N+1,out,l=>match fo out l with
  |.error e=>.error e
  |.ok (out,l)=>eZ N out l
def fP (l:List Tok):Except Int (List OpV):=eZ l.length [] l
end Go.Proofs.YtnhbidpdadkcjaaGreatDoor
namespace Go.Proofs.YtnhbidpdadkcjaaGreatDoor
structure RdOk (l:List Tok):Prop where
 named:Ex.Named l
 few:l.length≤1000000
theorem RdOk.drop {l:List Tok}(h:RdOk l)(n:Nat):RdOk (l.drop n) :=
 ⟨fun t ht=>h.named t (List.mem_of_mem_drop ht),by rw[length_drop];have:=h.few;omega⟩
theorem uP {l:List Tok}(h:RdOk l)(n:Nat):(atF l 1 n).size≤512:=by
 unfold atF;split
 ·rename_i t ht;split
  ·rename_i hk;have h1:=h.named t (List.mem_of_getElem? ht) hk;unfold cJ at h1;simp only[and_eq_true,decide_eq_true_eq]at h1;exact h1.1
  ·decide
 ·decide
theorem gQ {l:List Tok}{k:Int}{n:Nat}(h:¬atF l k n=emp):n<l.length:=by
 unfold atF at h;split at h
 ·rename_i t ht;exact(List.getElem?_eq_some_iff.1 ht).1
 ·exact absurd rfl h
theorem JD {l:List Tok}{k:Int}{n m:Nat}:atF (l.drop m) k n=atF l k (m+n):=by
 unfold atF;rw[List.getElem?_drop]
theorem QL {v:Val}(h:Ex.GoodV v):nt v:=⟨by have:=(Ex.goodSize h).1;unfold maxLen;omega,by have:=(Ex.goodSize h).2;unfold maxLen;omega,h.lo,h.hi⟩
theorem zm {s:Ex.PS}(h1:fJ s.ts=0)(h2:∀t∈s.ts,i7 t=true)(h3:Ex.Rgs s.ts):Ex.GoodV (Ex.evalAll s.ts).1:=by
 unfold Ex.evalAll;rw[if_pos h1];exact Ex.goodEval s.ts [] (fun v hv=>by simp at hv) h2 h3
theorem ui {l:List Tok}(h:RdOk l):match aP l with
  |.ok (v,r)=>Ex.GoodV v∧∃n,1≤n∧n≤l.length∧r=l.drop n
  |.error e=>e≠0:=by
 have h1:=Ex.parseF_nice h.named;unfold aP;cases hp:Ex.parseF l with
 |error e=>rw[hp]at h1;exact h1
 |ok s =>
  rw[hp]at h1;obtain⟨g1,g2,g3,g4,g5⟩:=h1;simp only;by_cases h0:(Ex.evalAll s.ts).2=0
  ·rw[if_pos h0];exact⟨zm g1 g2 (Ex.parseF_keep hp),s.at_,g3,g4,rfl⟩
  ·rw[if_neg h0];exact h0
theorem eN {l r:List Tok}{v:Val}(h:RdOk l)(e:aP l=.ok (v,r)):Ex.GoodV v∧RdOk r∧r.length<l.length:=by
 have h1:=ui h;rw[e]at h1;obtain⟨g,n,n1,n2,rfl⟩:=h1;exact⟨g,h.drop n,by rw[length_drop];omega⟩
theorem fZ {l:List Tok}{x:Int}(h:RdOk l)(e:aP l=.error x):x≠0:=by
 have h1:=ui h;rw[e]at h1;exact h1
theorem dq {s:ByteArray}{l r:List Tok}(hs:¬s=emp)(h:RdOk l)(e:aY s l=.ok r):RdOk r∧r.length<l.length∧atF l 4 0=s∧r=l.drop 1:=by
 unfold aY at e;split at e
 ·rename_i hx;injection e with e;subst e;have:=gQ (l:=l) (k:=4) (n:=0) (by rw[hx];exact hs);exact⟨h.drop 1,by rw[length_drop];omega,hx,rfl⟩
 ·cases e
theorem jp {s:ByteArray}{l:List Tok}{x:Int}(e:aY s l=.error x):x=100:=by
 unfold aY at e;split at e
 ·cases e
 ·injection e with e;exact e.symm
theorem Gz {l r:List Tok}{k:Int}(h:RdOk l)(e:gr l=.ok (k,r)):(0≤k∧k≤63)∧RdOk r∧r.length<l.length:=by
 unfold gr at e;split at e
 ·cases e
 ·rename_i l1 h1;obtain⟨g1,g2,-,-⟩:=dq (by decide) h h1;split at e
  ·cases e
  ·rename_i v l2 h2;obtain⟨g3,g4,g5⟩:=eN g1 h2;split at e
   ·rename_i hc;injection e with e;injection e with e1 e2;subst e1 e2;exact⟨⟨hc.2.1,hc.2.2⟩,g4,by omega⟩
   ·cases e
theorem Dm {l:List Tok}{x:Int}(h:RdOk l)(e:gr l=.error x):x≠0:=by
 unfold gr at e;split at e
 ·rename_i y h1;injection e with e;have:=jp h1;omega
 ·rename_i l1 h1;obtain⟨g1,g2,-,-⟩:=dq (by decide) h h1;split at e
  ·rename_i y h2;injection e with e;subst e;exact fZ g1 h2
  ·split at e
   ·cases e
   ·injection e with e;omega
end Go.Proofs.YtnhbidpdadkcjaaGreatDoor
namespace Go.Proofs.YtnhbidpdadkcjaaGreatDoor
theorem ko {o:OpV}{v:Val}(h:Ex.GoodV v)(h1:o.add=v.add)(h2:o.plus=v.plus)(h3:o.minus=v.minus):okO o:=by
 have h4:=Ex.goodSize h;refine⟨⟨by rw[h2];omega,by rw[h3];omega⟩,by rw[h1];exact h.lo,by rw[h1];exact h.hi⟩
theorem wa {o:OpV}(h1:o.add=0)(h2:o.plus=emp)(h3:o.minus=emp):okO o:=ko Ex.goodZero h1 h2 h3
theorem v8 {o p:OpV}(h:okO p)(h1:o.add=p.add)(h2:o.plus=p.plus)(h3:o.minus=p.minus):okO o:=by
 unfold okO at *
 rw[h1,h2,h3];exact h
theorem ot {o o':OpV}{most nn:Int}{l r:List Tok}(h:RdOk l)(e:aR o most nn l=.ok (o',r)):RdOk r∧r.length≤l.length∧∃a b,o'={ o with md:=a,amt:=b }:=by
 unfold aR at e;split at e
 ·injection e with e;injection e with e1 e2;subst e1 e2;exact⟨h,Nat.le_refl _,o.md,o.amt,rfl⟩
 ·split at e
  ·split at e
   ·cases e
   ·rename_i k l' hc;injection e with e;injection e with e1 e2;subst e1 e2;obtain⟨-,g1,g2⟩:=Gz (h.drop 2) hc;rw[length_drop]at g2;exact⟨g1,by omega,_,_,rfl⟩
  ·injection e with e;injection e with e1 e2;subst e1 e2;exact⟨h.drop 2,by rw[length_drop];omega,_,_,rfl⟩
theorem qX {o:OpV}{most nn:Int}{l:List Tok}{x:Int}(h:RdOk l)(e:aR o most nn l=.error x):x≠0:=by
 unfold aR at e;split at e
 ·cases e
 ·split at e
  ·split at e
   ·rename_i y hc;injection e with e;subst e;exact Dm (h.drop 2) hc
   ·cases e
  ·cases e
theorem Bp {l r:List Tok}{b:Bool}(h:RdOk l)(e:loR l=.ok (b,r)):RdOk r∧r.length≤l.length:=by
 unfold loR at e;split at e
 ·injection e with e;injection e with e1 e2;subst e2;exact⟨h,Nat.le_refl _⟩
 ·split at e
  ·cases e
  ·injection e with e;injection e with e1 e2;subst e2;exact⟨h.drop 3,by rw[length_drop];omega⟩
theorem FD {l:List Tok}{x:Int}(e:loR l=.error x):x≠0:=by
 unfold loR at e;split at e
 ·cases e
 ·split at e
  ·injection e with e;omega
  ·cases e
theorem wE {s:ByteArray}{l:List Tok}(h:RdOk l):RdOk (bd s l).2∧(bd s l).2.length≤l.length:=by
 unfold bd;split
 ·exact⟨h.drop 1,by rw[length_drop];omega⟩
 ·exact⟨h,Nat.le_refl _⟩
theorem pf {l:List Tok}(h:RdOk l):RdOk (aj l).2∧(aj l).2.length≤l.length:=by
 unfold aj;split
 ·exact⟨h.drop 1,by rw[length_drop];omega⟩
 ·exact⟨h,Nat.le_refl _⟩
theorem Fy:¬cL=emp:=by decide
theorem J4:¬lR=emp:=by decide
theorem kK:¬cQ=emp:=by decide
def NiceR (l:List Tok)(r:RdR OpV):Prop:=match r with
 |.ok (o,r)=>okO o∧RdOk r∧r.length≤l.length
 |.error e=>e≠0
theorem NiceR.mono {l l':List Tok}{r:RdR OpV}(h:NiceR l r)(hl:l.length≤l'.length):NiceR l' r:=by
 unfold NiceR at *
 split at h
 ·exact⟨h.1,h.2.1,Nat.le_trans h.2.2 hl⟩
 ·exact h
theorem G6 {o:OpV}{l:List Tok}(ho:okO o)(h:RdOk l):NiceR l (zp o l):=by
 unfold zp;rcases h1:aR o 12 (-1) l with e | ⟨o',l1⟩
 ·exact qX h h1
 ·obtain⟨g1,g2,a,b,rfl⟩:=ot h h1;simp only;split
  ·show(100:Int)≠0;decide
  ·rcases h2:aY lR l1 with e | l2
   ·have:=jp h2;show e≠0;omega
   ·obtain⟨g3,g4,-,-⟩:=dq J4 g1 h2;exact⟨v8 ho rfl rfl rfl,g3,by omega⟩
theorem Hj {o:OpV}{l:List Tok}(h:RdOk l):NiceR l (Br o l):=by
 unfold Br;rcases h1:aP l with e | ⟨v,l1⟩
 ·exact fZ h h1
 ·obtain⟨g0,g1,g2⟩:=eN h h1;simp only;rcases h2:aY lR l1 with e | l2
  ·have:=jp h2;show e≠0;omega
  ·obtain⟨g3,g4,-,-⟩:=dq J4 g1 h2;exact⟨ko g0 rfl rfl rfl,g3,by omega⟩
theorem Im {o:OpV}{l:List Tok}(h:RdOk l):NiceR l (BT o l):=by
 unfold BT;rcases h0:aY cL l with e | l0
 ·have:=jp h0;show e≠0;omega
 obtain⟨k0,k1,-,-⟩:=dq Fy h h0;simp only;rcases h1:aP l0 with e | ⟨v,l1⟩
 ·exact fZ k0 h1
 ·obtain⟨g0,g1,g2⟩:=eN k0 h1;simp only;rcases h2:aY lR l1 with e | l2
  ·have:=jp h2;show e≠0;omega
  ·obtain⟨g3,g4,-,-⟩:=dq J4 g1 h2;obtain⟨g5,g6⟩:=wE (s:=uR) g3;simp only;split
   ·exact⟨ko g0 rfl rfl rfl,g5,by omega⟩
   ·exact⟨ko g0 rfl rfl rfl,g3,by omega⟩
theorem zc {o:OpV}{l:List Tok}(ho:okO o)(h:RdOk l):NiceR l (lv o l):=by
 unfold lv;rcases h0:aY cQ l with e | l0
 ·have:=jp h0;show e≠0;omega
 obtain⟨k0,k1,-,-⟩:=dq kK h h0;simp only;split
 ·exact(G6 (v8 (o:={ o with mode:=3,m:=(jR l0).1,md:=1,amt := -1 }) ho rfl rfl rfl) (k0.drop 1)).mono (by rw[length_drop];omega)
 ·rcases h1:loR l0 with e | ⟨b,l1⟩
  ·exact FD h1
  ·obtain⟨g1,g2⟩:=Bp k0 h1;simp only;split
   ·exact(Hj g1).mono (by omega)
   ·exact(Im g1).mono (by omega)
theorem Ef {o:OpV}{l:List Tok}(ho:okO o)(h:RdOk l):NiceR l (wo o l):=by
 unfold wo;split
 ·rcases h1:aP (l.drop 2) with e | ⟨v,l1⟩
  ·exact fZ (h.drop 2) h1
  ·obtain⟨g0,g1,g2⟩:=eN (h.drop 2) h1;rw[length_drop]at g2;exact⟨ko g0 rfl rfl rfl,g1,by omega⟩
 ·exact⟨ho,h,Nat.le_refl _⟩
theorem zx {l:List Tok}(h:RdOk l):NiceR l (gK l):=by
 obtain⟨g1,g2⟩:=pf h;obtain⟨g3,g4⟩:=wE (s:=lR) g1;have ho:okO (D1 (jR l).1):=wa rfl rfl rfl;unfold gK;split
 ·show(100:Int)≠0;decide
 ·split
  ·exact(Ef ho g3).mono (by omega)
  ·exact(zc ho g1).mono (by omega)
theorem wB {s:ByteArray}:∀{t:List (Int×Int)} {o:OpV},eR s t=some o→∃kd k,(kd,k)∈t∧(ai 3 kd s).2=0∧o=ry k (ai 3 kd s).1
 |[],o,h=>by cases h
 |(kd,k)::r,o,h=>by
  rw[eR]at h;split at h
  ·rename_i hc;injection h with h;exact⟨kd,k,by simp,hc,h.symm⟩
  ·obtain⟨a,b,h1,h2⟩:=wB h;exact⟨a,b,by simp[h1],h2⟩
def Jk (l:List Tok)(r:RdR OpV):Prop:=match r with
 |.ok (o,r)=>okO o∧RdOk r∧r.length<l.length
 |.error e=>e≠0
theorem NiceR.less {l l':List Tok}{r:RdR OpV}(h:NiceR l r)(hl:l.length<l'.length):Jk l' r:=by
 unfold NiceR at h;unfold Jk;split at h
 ·exact⟨h.1,h.2.1,Nat.lt_of_le_of_lt h.2.2 hl⟩
 ·exact h
theorem pX {o:OpV}{most nn:Int}{l:List Tok}(ho:okO o)(h:RdOk l):NiceR l (aR o most nn l):=by
 rcases h1:aR o most nn l with e | ⟨o',l1⟩
 ·exact qX h h1
 ·obtain⟨g1,g2,a,b,rfl⟩:=ot h h1;exact⟨v8 ho rfl rfl rfl,g1,g2⟩
theorem LG:¬(fi 3 emp).2=0:=by decide +kernel
theorem Iy {l:List Tok}(h:(jR l).2=true):1≤l.length∧(fi 3 (atF l 1 0)).2=0∧jR l=((fi 3 (atF l 1 0)).1,true):=by
 unfold jR at h ⊢;split at h
 ·rename_i hc;have:=gQ (l:=l) (k:=1) (n:=0) (fun e=>LG (by rw[←e];exact hc));exact⟨by omega,hc,by rw[if_pos hc]⟩
 ·cases h
theorem wg {l:List Tok}(h:RdOk l):Jk l (kV l):=by
 have one:∀{s:ByteArray},¬s=emp→atF l 4 0=s→(l.drop 1).length<l.length:=fun hs e=>by
  have:=gQ (l:=l) (k:=4) (n:=0) (by rw[e];exact hs);rw[length_drop];omega
 unfold kV;split
 ·rename_i hr;have:=(Iy hr).1;exact(pX (wa rfl rfl rfl) (h.drop 1)).less (by rw[length_drop];omega)
 split
 ·rename_i h1;exact(zx (h.drop 1)).less (one (by decide) h1)
 split
 ·rename_i h1;unfold xX;have hl:=one Fy h1;rcases hv:aP (l.drop 1) with e | ⟨v,l1⟩
  ·exact fZ (h.drop 1) hv
  ·obtain⟨g0,g1,g2⟩:=eN (h.drop 1) hv;exact(pX (ko g0 rfl rfl rfl) g1).less (by omega)
 rcases h1:loR l with e | ⟨b,l1⟩
 ·exact FD h1
 obtain⟨g1,g2⟩:=Bp h h1;cases b with
 |true =>
  simp only;rcases hv:aP l1 with e | ⟨v,l2⟩
  ·exact fZ g1 hv
  ·obtain⟨k0,k1,k2⟩:=eN g1 hv;exact⟨ko k0 rfl rfl rfl,k1,by omega⟩
 |false =>
  simp only;split
  ·rename_i hw;unfold dP;rcases hs:eR (atF l1 1 0) nS with _ | o
   ·show(100:Int)≠0;decide
   ·obtain⟨kd,k,-,-,rfl⟩:=wB hs;have:=gQ hw.1;exact⟨wa rfl rfl rfl,g1.drop 1,by rw[length_drop];omega⟩
  ·rcases hv:aP l1 with e | ⟨v,l2⟩
   ·exact fZ g1 hv
   ·obtain⟨k0,k1,k2⟩:=eN g1 hv;refine⟨?_,k1,by omega⟩;split
    ·exact ko k0 rfl rfl rfl
    ·exact ko k0 rfl rfl rfl
theorem BK {l r:List Tok}{o:OpV}(h:RdOk l)(e:kV l=.ok (o,r)):okO o∧RdOk r∧r.length<l.length:=by
 have:=wg h;rw[e]at this;exact this
theorem Id {l:List Tok}{x:Int}(h:RdOk l)(e:kV l=.error x):x≠0:=by
 have:=wg h;rw[e]at this;exact this
structure me (out:List OpV):Prop where
 few:out.length≤8
 all:∀o∈out,okO o∧gT o=0
theorem lj {out out':List OpV}{l r:List Tok}(h:RdOk l)(ho:me out)(e:fo out l=.ok (out',r)):me out'∧RdOk r∧r.length<l.length∧∃o,out'=out++[o]:=by
 unfold fo at e;split at e
 ·cases e
 ·rename_i l1 h1
  have k1:RdOk l1∧l1.length≤l.length:=by
   split at h1
   ·injection h1 with h1;subst h1;exact⟨h,Nat.le_refl _⟩
   ·obtain⟨g1,g2,-,-⟩:=dq kK h h1;exact⟨g1,by omega⟩
  split at e
  ·cases e
  ·rename_i h8;split at e
   ·cases e
   ·rename_i o l2 h2;obtain⟨g1,g2,g3⟩:=BK k1.1 h2;split at e
    ·cases e
    ·rename_i hc;split at e
     ·cases e
     ·injection e with e;injection e with e1 e2;subst e1 e2;refine⟨⟨?_,?_⟩,g2,by omega,o,rfl⟩
      ·have:=ho.few;rw[length_append,List.length_singleton];omega
      ·intro p hp;rw[mem_append,List.mem_singleton]at hp;rcases hp with hp | rfl
       ·exact ho.all p hp
       ·exact⟨g1,Decidable.not_not.1 hc⟩
theorem IN {out:List OpV}{l:List Tok}{x:Int}(h:RdOk l)(e:fo out l=.error x):x≠0:=by
 unfold fo at e;split at e
 ·rename_i y h1;injection e with e;subst e;split at h1
  ·cases h1
  ·have:=jp h1;omega
 ·rename_i l1 h1
  have k1:RdOk l1:=by
   split at h1
   ·injection h1 with h1;subst h1;exact h
   ·exact(dq kK h h1).1
  split at e
  ·injection e with e;omega
  ·split at e
   ·rename_i y h2;injection e with e;subst e;exact Id k1 h2
   ·split at e
    ·rename_i hc;injection e with e;subst e;exact hc
    ·split at e
     ·injection e with e;omega
     ·cases e
theorem c9 (N:Nat)(out:List OpV):eZ N out []=.ok out:=by
 cases N<;>rw[eZ]
theorem dX {N:Nat}{out:List OpV}{l:List Tok}(hl:l≠[]):eZ (N+1) out l=match fo out l with
  |.error e=>.error e
  |.ok (out,l)=>eZ N out l:=by
 cases l with
 |nil=>exact absurd rfl hl
 |cons t r=>rfl
theorem nB:∀{N:Nat} {out:List OpV} {l:List Tok},RdOk l→me out→l.length≤N→eZ N out l=eZ l.length out l
 |0,out,l,_,_,hn=>by
  obtain rfl:l=[]:=List.eq_nil_of_length_eq_zero (by omega);rfl
 |N+1,out,[],_,_,_=>by rw[c9,c9]
 |N+1,out,t::r,h,ho,hn=>by
  rw[length_cons,dX (by simp),dX (by simp)];rcases hs:fo out (t::r) with e | ⟨out',l'⟩
  ·rfl
  ·obtain⟨g1,g2,g3,-⟩:=lj h ho hs;simp only;rw[length_cons]at g3 hn;rw[nB g2 g1 (by omega)];exact(nB g2 g1 (by omega)).symm
theorem wt:∀{N:Nat} {out out':List OpV} {l:List Tok},RdOk l→me out→eZ N out l=.ok out'→me out'
 |0,out,out',l,h,ho,e=>by
  cases l with
  |nil=>rw[c9]at e;injection e with e;subst e;exact ho
  |cons t r=>cases e
 |N+1,out,out',[],_,ho,e=>by rw[c9]at e;injection e with e;subst e;exact ho
 |N+1,out,out',t::r,h,ho,e=>by
  rw[dX (by simp)]at e;rcases hs:fo out (t::r) with x | ⟨o2,l'⟩
  ·rw[hs]at e;cases e
  ·rw[hs]at e;obtain⟨g1,g2,-,-⟩:=lj h ho hs;exact wt g2 g1 e
theorem mD:me []:=⟨by simp,fun o h=>by simp at h⟩
theorem Ku {l:List Tok}{out:List OpV}(h:RdOk l)(e:fP l=.ok out):me out:=wt h mD e
theorem tY:∀{N:Nat} {out:List OpV} {l:List Tok} {x:Int},RdOk l→me out→eZ N out l=.error x→x≠0
 |0,out,l,x,h,ho,e=>by
  cases l with
  |nil=>rw[c9]at e;cases e
  |cons t r =>
   have e:(.error 100:Except Int (List OpV))=.error x:=e;injection e with e;omega
 |N+1,out,[],x,_,ho,e=>by rw[c9]at e;cases e
 |N+1,out,t::r,x,h,ho,e=>by
  rw[dX (by simp)]at e;rcases hs:fo out (t::r) with y | ⟨o2,l'⟩
  ·rw[hs]at e;injection e with e;subst e;exact IN h hs
  ·rw[hs]at e;obtain⟨g1,g2,-,-⟩:=lj h ho hs;exact tY g2 g1 e
theorem yb {l:List Tok}{x:Int}(h:RdOk l)(e:fP l=.error x):x≠0:=tY h mD e
end Go.Proofs.YtnhbidpdadkcjaaGreatDoor
namespace Go.Proofs.YtnhbidpdadkcjaaGreatDoor.Ex
end Go.Proofs.YtnhbidpdadkcjaaGreatDoor.Ex
namespace Go.Proofs.YtnhbidpdadkcjaaGreatDoor
theorem Av {l:List Tok}{k:Int}{n:Nat}:atF (l.map oe) k n=atF l k n:=by
 unfold atF;rw[List.getElem?_map];cases l[n]?<;>rfl
end Go.Proofs.YtnhbidpdadkcjaaGreatDoor
namespace Go.Proofs.YtnhbidpdadkcjaaGreatDoor.Ex
section
variable {l:List Tok}{read:PS→PR}{p q z:Nat}{a c:List Term}{d:Int}
end
end Go.Proofs.YtnhbidpdadkcjaaGreatDoor.Ex
namespace Go.Proofs.YtnhbidpdadkcjaaGreatDoor
end Go.Proofs.YtnhbidpdadkcjaaGreatDoor
namespace Go.Proofs.YtnhbidpdadkcjaaGreatDoor
def LH (r:gO):Bool:=!decide ((aH r).2=0)||(cJ (aH r).1&&decide (fi 3 (aH r).1=(r,0))&&!decide ((ai 3 3 (aH r).1).2=0)&&decide ((bX (aH r).1 us).length=1))
theorem Ot:∀i:Fin 32,∀x p:Bool,LH ⟨(i.val:Int),x,p⟩=true:=by decide +kernel
theorem yu {r:gO}(h:(aH r).2=0):cJ (aH r).1=true∧fi 3 (aH r).1=(r,0)∧¬(ai 3 3 (aH r).1).2=0∧(bX (aH r).1 us).length=1:=by
 obtain⟨n,x,p⟩:=r
 have hn:0≤n∧n≤31:=by
  unfold aH at h;split at h
  ·cases h
  ·rename_i hc;simp only at hc;omega
 obtain⟨k,rfl⟩:=eq_ofNat_of_zero_le hn.1;have hf:=Ot ⟨k,by omega⟩ x p;simp only at hf;unfold LH at hf;rw[decide_eq_true h]at hf;simpa[and_assoc] using hf
theorem il {r:gO}(h:lc r=true):cJ (fj r)=true∧fi 3 (fj r)=(r,0)∧¬(ai 3 3 (fj r)).2=0:=by
 have h:=yu (of_decide_eq_true h);exact⟨h.1,h.2.1,h.2.2.1⟩
theorem IB {s:ByteArray}(h:(fi 3 s).2=0):(bX s us).length=1:=by
 rcases hr:fi 3 s with ⟨r,e⟩;rw[hr]at h;simp only at h;subst h;obtain⟨-,e⟩:=B0 hr;have:=(yu (r:=r) (by rw[e])).2.2.2
 rwa [e]at this
def nmB (k:Int)(s:ByteArray):Bool :=
 cJ s&&(!decide ((fi 3 s).2=0)&&((decide (k=3)||!decide ((ai 3 3 s).2=0)) &&
  ((!decide (k=4)||!decide ((ai 3 2 s).2=0)) &&
  ((!decide (k=6)||(!decide ((ai 3 2 s).2=0)&&!decide ((ai 3 4 s).2=0))) &&
  ((!decide (k=7)||(!decide ((ai 3 2 s).2=0)&&(!decide ((ai 3 4 s).2=0)&&!decide ((ai 3 6 s).2=0)))) &&
  (!decide (k=8)||(!decide ((ai 3 2 s).2=0)&&(!decide ((ai 3 4 s).2=0)&&!decide ((ai 3 7 s).2=0)))))))))
theorem nm2:(fE 2).all (fun r=>nmB 2 r.1)=true:=by decide +kernel
theorem nm3:(fE 3).all (fun r=>nmB 3 r.1)=true:=by decide +kernel
theorem nm4:(fE 4).all (fun r=>nmB 4 r.1)=true:=by decide +kernel
theorem nm6:(fE 6).all (fun r=>nmB 6 r.1)=true:=by decide +kernel
theorem nm7:(fE 7).all (fun r=>nmB 7 r.1)=true:=by decide +kernel
theorem nm8:(fE 8).all (fun r=>nmB 8 r.1)=true:=by decide +kernel
theorem aW (a b:ByteArray):aa (a++b)=aa a++aa b:=db a b
theorem Mb {s:ByteArray}(h1:s.size≤512)(h2:0<s.size)(h3:ce (bAt (aa s) 0)=true)(h4:(aa s).all aM=true):cJ s=true:=by
 have hl:(aa s).length=s.size:=ae s;unfold cJ;rw[Ex.nameB_nameL];unfold dJ;rw[h3,decide_eq_true h1]
 have hr:aS aM (aa s)=(aa s).length:=nH _ _ _ (Nat.le_refl _) (fun i hi=>by
  have:=List.all_eq_true.1 h4 (bAt (aa s) i) (List.mem_of_getElem? (ux hi));exact this) (fun h=>absurd h (Nat.lt_irrefl _))
 rw[hr,hl];simp[h2]
def wl (i:Nat)(v:Int):Bool:=(aa (bh i v)).all aM
theorem QR:∀j:Fin 2,wl 0 (j.val:Int)=true:=by decide +kernel
theorem QT:∀j:Fin 8,wl 1 (j.val:Int)=true:=by decide +kernel
theorem QU:∀j:Fin 16,wl 2 (j.val:Int)=true:=by decide +kernel
theorem QV:∀j:Fin 16,wl 3 (j.val:Int)=true:=by decide +kernel
theorem QW:∀j:Fin 8,wl 4 (j.val:Int)=true:=by decide +kernel
theorem CH {n:Int}(h0:0≤n)(h1:n<32768):cJ (cO n)=true:=by
 have hz:=r9 h0 h1
 have w0:(aa (bh 0 (n / 16384))).all aM=true:=by
  obtain⟨k,hk⟩:=eq_ofNat_of_zero_le (show 0≤n / 16384 by omega);rw[hk];exact QR ⟨k,by omega⟩
 have w1:(aa (bh 1 (n / 2048 % 8))).all aM=true:=by
  obtain⟨k,hk⟩:=eq_ofNat_of_zero_le (show 0≤n / 2048 % 8 by omega);rw[hk];exact QT ⟨k,by omega⟩
 have w2:(aa (bh 2 (n / 128 % 16))).all aM=true:=by
  obtain⟨k,hk⟩:=eq_ofNat_of_zero_le (show 0≤n / 128 % 16 by omega);rw[hk];exact QU ⟨k,by omega⟩
 have w3:(aa (bh 3 (n / 8 % 16))).all aM=true:=by
  obtain⟨k,hk⟩:=eq_ofNat_of_zero_le (show 0≤n / 8 % 16 by omega);rw[hk];exact QV ⟨k,by omega⟩
 have w4:(aa (bh 4 (n % 8))).all aM=true:=by
  obtain⟨k,hk⟩:=eq_ofNat_of_zero_le (show 0≤n % 8 by omega);rw[hk];exact QW ⟨k,by omega⟩
 have wu:(aa us).all aM=true:=by decide +kernel
 have e:aa (cO n)=115::(aa (da (n / 16384+2))++(aa us++(aa (bh 1 (n / 2048 % 8))++aa us++(aa (bh 2 (n / 128 % 16))++aa us++(aa (bh 3 (n / 8 % 16))++aa us++aa (bh 4 (n % 8))))))):=by
  rw[jD,show bh 0 (n / 16384)=s1++da (n / 16384+2) from rfl];simp only[aW,show aa s1=[115] from rfl,append_assoc,cons_append,nil_append]
 refine Mb (by omega) ?_ ?_ ?_
 ·have:=congrArg List.length e;rw[ae,length_cons]at this;omega
 ·rw[e];rfl
 ·rw[jD];simp only[aW,List.all_append,w0,w1,w2,w3,w4,wu,Bool.and_self]
theorem UY:∀k:Fin 9,k.val≠6→(fE (k.val:Int)).all (fun r=>decide ((bX r.1 us).length≠5))=true:=by decide +kernel
theorem zC {k:Int}(hk:k=2∨k=3∨k=4){s:ByteArray}(hs:(bX s us).length=5):¬(ai 3 k s).2=0:=by
 have ha:ji k s=s:=by
  unfold ji;rw[if_neg,if_neg]
  ·rintro⟨-,rfl⟩;revert hs;decide +kernel
  ·rintro⟨-,rfl⟩;revert hs;decide +kernel
 unfold ai;rw[nG,ha];cases hn:iQ (fE k) s with
 |none =>
  simp only;rw[nG]
  decide
 |some m =>
  exfalso;have hm:=pH hn;obtain⟨j,rfl⟩:=eq_ofNat_of_zero_le (show 0≤k by omega);have:=List.all_eq_true.1 (UY ⟨j,by omega⟩ (by simp only;omega)) _ hm;simp[hs]at this
theorem QH {n:Int}(h0:0≤n)(h1:n<32768):nmB 6 (cO n)=true:=by
 have h5:(bX (cO n) us).length=5:=by rw[l9 h0 h1];rfl
 have hr:¬(fi 3 (cO n)).2=0:=fun h=>by have:=IB h;omega
 unfold nmB;rw[CH h0 h1,decide_eq_false hr,decide_eq_false (zC (.inr (.inl rfl)) h5),decide_eq_false (zC (.inl rfl) h5),decide_eq_false (zC (.inr (.inr rfl)) h5)];simp
theorem QG {k n:Int}(hk:k=2∨k=3∨k=4∨k=6∨k=7∨k=8)(h:(aK k n).2=0):nmB k (aK k n).1=true:=by
 have h2:=h;unfold aK at h2 ⊢;rw[nG]at h2 ⊢;cases hn:iP (fE k) n with
 |some s =>
  have hm:=qy hn;simp only;rcases hk with rfl | rfl | rfl | rfl | rfl | rfl
  ·exact List.all_eq_true.1 nm2 _ hm
  ·exact List.all_eq_true.1 nm3 _ hm
  ·exact List.all_eq_true.1 nm4 _ hm
  ·exact List.all_eq_true.1 nm6 _ hm
  ·exact List.all_eq_true.1 nm7 _ hm
  ·exact List.all_eq_true.1 nm8 _ hm
 |none =>
  rw[hn]at h2;simp only at h2 ⊢;split at h2
  ·rename_i hc;rw[if_pos hc];obtain⟨rfl,h0,h1⟩:=hc;exact QH h0 h1
  ·cases h2
theorem rL {k n:Int}(hk:k=2∨k=3∨k=4∨k=6∨k=7∨k=8)(h:(aK k n).2=0) :
  cJ (aK k n).1=true∧¬(fi 3 (aK k n).1).2=0∧(¬k=3→¬(ai 3 3 (aK k n).1).2=0)∧(k=4→¬(ai 3 2 (aK k n).1).2=0) ∧
  (k=6→¬(ai 3 2 (aK k n).1).2=0∧¬(ai 3 4 (aK k n).1).2=0) ∧
  (k=7→¬(ai 3 2 (aK k n).1).2=0∧¬(ai 3 4 (aK k n).1).2=0∧¬(ai 3 6 (aK k n).1).2=0) ∧
  (k=8→¬(ai 3 2 (aK k n).1).2=0∧¬(ai 3 4 (aK k n).1).2=0∧¬(ai 3 7 (aK k n).1).2=0):=by
 have hB:=QG hk h;unfold nmB at hB;simp only[and_eq_true,Bool.or_eq_true,decide_eq_true_eq,Bool.not_eq_true',decide_eq_false_iff_not]at hB;obtain⟨b1,b2,b3,b4,b5,b6,b7⟩:=hB;exact⟨b1,b2,fun h=>b3.resolve_left h,fun h=>b4.resolve_left (not_not_intro h),fun h=>b5.resolve_left (not_not_intro h),fun h=>b6.resolve_left (not_not_intro h),fun h=>b7.resolve_left (not_not_intro h)⟩
end Go.Proofs.YtnhbidpdadkcjaaGreatDoor
namespace Go.Proofs.YtnhbidpdadkcjaaGreatDoor
def P1 (o:OpV):Bool:=(o.kind==5)&&((o.mode==0)&&((decide (o.add=0)&&(decide (o.plus=emp)&&decide (o.minus=emp)))&&!o.lo))
set_option maxRecDepth 100000
end Go.Proofs.YtnhbidpdadkcjaaGreatDoor
namespace Go.Proofs.YtnhbidpdadkcjaaGreatDoor
open Ex (fm nameT valT dD gw nJ)
def bg:List (Bool×Tok)→List Int
 |[]=>[]
 |(b,t)::r=>(if b=true then[32] else[])++(dD t++bg r)
theorem kC:∀a b:List (Bool×Tok),bg (a++b)=bg a++bg b
 |[],b=>rfl
 |(x,t)::a,b=>by
  rw[cons_append,bg,bg,kC a b,append_assoc,append_assoc]
def de:Option Tok→List (Bool×Tok)→Prop
 |_,[]=>True
 |p,(b,t)::r=>(b=true∨nJ p t=false)∧de (some t) r
def iY (l:List (Bool×Tok)):Prop:=∀u∈l,cP u.2=0∧0≤u.2.n∧u.2.n<18446744073709551616
theorem mN {a b:List (Bool×Tok)}(ha:iY a)(hb:iY b):iY (a++b):=fun u hu=>(List.mem_append.1 hu).elim (ha u) (hb u)
theorem aF {x:Bool×Tok}{b:List (Bool×Tok)}(ha:cP x.2=0∧0≤x.2.n∧x.2.n<18446744073709551616)(hb:iY b):iY (x::b):=fun u hu=>by
 rcases List.mem_cons.1 hu with rfl | hu
 ·exact ha
 ·exact hb u hu
theorem eK:iY []:=fun u hu=>by cases hu
theorem Ar {t:Tok}{r:List (Bool×Tok)}(hf:de (some t) r)(hr:iY r):Ex.After t (bg r):=by
 cases r with
 |nil=>exact⟨fun _=>.inl rfl,fun _ h=>by simp[bg]at h⟩
 |cons u r =>
  obtain⟨b,u⟩:=u;obtain⟨hu,hn,-⟩:=hr (b,u) (mem_cons_self ..);unfold bg;obtain⟨hs,-⟩:=hf;cases b with
  |true =>
   rw[if_pos rfl];exact⟨fun _=>.inr rfl,fun _ h=>absurd h.2 (by show ¬(32:Int)=47;decide)⟩
  |false =>
   have hap:Ex.apartF t u=false:=hs.resolve_left (by simp);rw[if_neg (by simp),nil_append];obtain⟨q0,q1,q2,q3,q4⟩:=Ex.txt_head hu hn (bg r);unfold Ex.apartF at hap;simp only[Bool.or_eq_false_iff,Bool.and_eq_false_iff]at hap;refine⟨fun hw=>.inr ?_,fun hsl h=>?_⟩
   ·rw[q1];cases hwy:aM (bAt (dD u) 0) with
    |false=>rfl
    |true =>
     have:=q3 hwy;rw[hw,this]at hap;simp at hap
   ·have:=q4 (q1▸h.2);rw[hsl,this]at hap;simp at hap
theorem t8:∀{l:List (Bool×Tok)} (p:Option Tok) (q:Nat),iY l→de p l →
  ∃ts,aJ q (bg l)=(ts,q+(bg l).length,0)∧ts.map oe=l.map fun u=>oe u.2
 |[],p,q,_,_=>⟨[],e8 rfl,rfl⟩
 |(b,t)::r,p,q,h,hf=>by
  obtain⟨c1,c2,c3⟩:=h (b,t) (mem_cons_self ..);have hr:iY r:=fun u hu=>h u (mem_cons_of_mem _ hu);have hA:=Ar hf.2 hr;obtain⟨t0,o1,o2,o3,o4⟩:=Ex.one_text c1 c2 c3 hA
  have main:∀q:Nat,∃ts,aJ q (dD t++bg r)=(ts,q+(dD t++bg r).length,0)∧ts.map oe=((b,t)::r).map fun u=>oe u.2:=by
   intro q;obtain⟨ts,i1,i2⟩:=t8 (some t) (q+(dD t).length) hr hf.2;have hk:=qH o4 o3 o1 q;rw[List.drop_left,i1]at hk;refine⟨{ t0 with pos:=(q:Int) }::ts,?_,?_⟩
   ·rw[hk,length_append,Nat.add_assoc]
   ·rw[map_cons,map_cons,i2,←o2];rfl
  unfold bg;cases b with
  |true =>
   rw[if_pos rfl];obtain⟨ts,m1,m2⟩:=main (q+1);refine⟨ts,?_,m2⟩;rw[gH (bs:=[32]) (by intro c hc;simp at hc;subst hc;rfl)];show aJ (q+1) _=_;rw[m1];simp only[length_append,length_cons,List.length_nil];congr 2;omega
  |false =>
   rw[if_neg (by simp),nil_append];exact main q
def sg (s:ByteArray):Bool×Tok:=(false,fm s)
def hZ (s:ByteArray):Prop:=cP (fm s)=0∧s≠⟨#[47]⟩
theorem bZ:hZ cQ:=⟨by decide +kernel,by decide⟩
theorem e7:hZ cL:=⟨by decide +kernel,by decide⟩
theorem jU:hZ cj:=⟨by decide +kernel,by decide⟩
theorem FR:hZ Dg:=⟨by decide +kernel,by decide⟩
theorem mL:hZ lR:=⟨by decide +kernel,by decide⟩
theorem zW:hZ uR:=⟨by decide +kernel,by decide⟩
theorem di {s:ByteArray}(h:hZ s)(r:List (Bool×Tok)):bg (sg s::r)=aa s++bg r:=by
 rw[sg,bg,if_neg (by simp),nil_append,Ex.txt_sgn h.1]
theorem pK {s:ByteArray}(h:cJ s=true)(b:Bool)(r:List (Bool×Tok)):bg ((b,nameT s)::r)=(if b=true then[32] else[])++(aa s++bg r):=by
 rw[bg,Ex.txt_name h]
theorem B4 {s:ByteArray}(h:cJ s=true)(r:List (Bool×Tok)):bg ((false,nameT s)::r)=aa s++bg r:=pK h false r
theorem LK {s:ByteArray}(h:cJ s=true)(r:List (Bool×Tok)):bg ((true,nameT s)::r)=32::(aa s++bg r):=pK h true r
theorem LL {s:ByteArray}(h:hZ s)(r:List (Bool×Tok)):bg ((true,fm s)::r)=32::(aa s++bg r):=by
 rw[bg,Ex.txt_sgn h.1];rfl
theorem B5 {n:Int}(h:0≤n)(h2:n<18446744073709551616)(r:List (Bool×Tok)):bg ((false,Ex.numT n)::r)=aa (oH n)++bg r:=by
 obtain⟨k,rfl⟩:=eq_ofNat_of_zero_le h;rw[bg,if_neg (by simp),nil_append,Ex.txt_num h,←Ex.decS_dL (by omega)];rfl
theorem dj {s:ByteArray}(h:hZ s):cP (sg s).2=0∧0≤(sg s).2.n∧(sg s).2.n<18446744073709551616:=⟨h.1,by show(0:Int)≤0;decide,by show(0:Int)<_;decide⟩
theorem L9 {s:ByteArray}(h:hZ s):cP (true,fm s).2=0∧0≤(true,fm s).2.n∧(true,fm s).2.n<18446744073709551616:=dj h
theorem nO {s:ByteArray}(h:cJ s=true)(b:Bool):cP (b,nameT s).2=0∧0≤(b,nameT s).2.n∧(b,nameT s).2.n<18446744073709551616:=⟨Ex.check_name h,by show(0:Int)≤0;decide,by show(0:Int)<_;decide⟩
theorem CB {n:Int}(h:0≤n)(h2:n<18446744073709551616):cP (false,Ex.numT n).2=0∧0≤(false,Ex.numT n).2.n∧(false,Ex.numT n).2.n<18446744073709551616:=⟨Ex.check_num n,h,h2⟩
theorem OM (p:Option Tok){s:ByteArray}(h:hZ s):nJ p (fm s)=false:=by
 cases p with
 |none=>rfl
 |some t=>exact Ex.sep_sgn t h.2
theorem df {p:Option Tok}{s:ByteArray}{r:List (Bool×Tok)}(h:hZ s)(hr:de (some (fm s)) r):de p (sg s::r):=⟨.inr (OM p h),hr⟩
theorem ii {s:ByteArray}{b:Bool}{t:Tok}{r:List (Bool×Tok)}(h:hZ s)(hr:de (some t) r):de (some (fm s)) ((b,t)::r):=⟨.inr (Ex.sgn_sep t h.2),hr⟩
theorem pE {p:Option Tok}{t:Tok}{r:List (Bool×Tok)}(hr:de (some t) r):de p ((true,t)::r):=⟨.inl rfl,hr⟩
def qI (v:Val):List (Bool×Tok):=(valT v).map fun t=>(false,t)
theorem mM:hZ Ex.minusS:=⟨Ex.sgnM,Ex.minus_ne⟩
theorem FS:hZ Ex.plusS:=⟨Ex.sgnP,Ex.plus_ne⟩
theorem oF {p:Option Tok}(hp:∀t,nJ p t=false){r:List (Bool×Tok)}(hr:∀u,de (some u) r)(v:Val):de p (qI v++r):=by
 have first:∀{t:Tok} {r:List (Bool×Tok)},de (some t) r→de p ((false,t)::r):=fun h=>⟨.inr (hp _),h⟩
 have tail:∀t:Tok,de (some t) ((Ex.tailT v.add).map (fun t=>(false,t))++r):=fun t=>by
  unfold Ex.tailT;split
  ·exact hr t
  ·split
   ·exact df mM (ii mM (hr _))
   ·exact df FS (ii FS (hr _))
 unfold qI valT;split
 ·split
  ·exact df mM (ii mM (hr _))
  ·exact first (hr _)
 ·rw[map_cons,cons_append,List.map_append,append_assoc];refine first ?_;unfold Ex.midT;by_cases hm:v.minus=emp
  ·rw[if_pos hm];exact tail _
  ·rw[if_neg hm];exact df mM (ii mM (tail _))
theorem yv:∀{l:List Tok} {p:Option Tok},de p (l.map fun t=>(false,t))→Ex.rendL p l=bg (l.map fun t=>(false,t))
 |[],p,_=>rfl
 |t::r,p,h=>by
  have hs:nJ p t=false:=h.1.resolve_left (by simp);rw[Ex.rendL,map_cons,bg,yv h.2,hs]
theorem B7 {v:Val}(h:(Ex.printF v).2=0)(hv:gw v):bg (qI v)=aa (Ex.printF v).1:=by
 have e:=Ex.val_rend (v:=v) (s:=(Ex.printF v).1) (by rw[←h]) hv;rw[e];have:=oF (p:=none) (fun t=>rfl) (r:=[]) (fun u=>trivial) v;rw[append_nil]at this;exact(yv this).symm
theorem r6 {v:Val}(hv:gw v):iY (qI v):=fun u hu=>by
 obtain⟨t,ht,rfl⟩:=List.mem_map.1 hu;exact Ex.val_toks hv t ht
def spB:List (Bool×Tok)→List (Bool×Tok)
 |[]=>[]
 |(_,t)::r=>(true,t)::r
theorem OP {a b:List (Bool×Tok)}(h:a≠[]):spB (a++b)=spB a++b:=by
 cases a with
 |nil=>exact absurd rfl h
 |cons x a=>rfl
theorem FM {l:List (Bool×Tok)}{t:Tok}{r:List (Bool×Tok)}(h:l=(false,t)::r):bg (spB l)=32::bg l:=by
 rw[h,spB,bg,bg];rfl
theorem FU {l:List (Bool×Tok)}(h:iY l):iY (spB l):=by
 cases l with
 |nil=>exact h
 |cons x l=>exact aF (h x (mem_cons_self ..)) fun u hu=>h u (mem_cons_of_mem _ hu)
theorem Fr {p q:Option Tok}{l:List (Bool×Tok)}(h:de p l):de q (spB l):=by
 cases l with
 |nil=>trivial
 |cons x l=>exact⟨.inl rfl,h.2⟩
def iq (o:OpV):List (Bool×Tok):=if o.lo=true then sg cj::(false,nameT vO)::sg cj::qI o.val else sg cL::qI o.val
def xl (o:OpV)(silent:Bool):List (Bool×Tok):=if o.md=0 then[] else if silent=true then[sg cQ,(true,nameT (aK 3 o.md).1)] else[sg cQ,(true,nameT (aK 3 o.md).1),(true,fm cL),(false,Ex.numT o.amt)]
def gY (kd n:Int):List (Bool×Tok):=if(aK kd n).2=0 then[(false,nameT (aK kd n).1)] else[sg cL,(false,Ex.numT n)]
def Bu (o:OpV):List (Bool×Tok):=sg Dg::(false,nameT (fj o.r)) ::
 (
  if o.mode=1 then sg cQ::(spB (iq o)++[sg lR,sg uR])
  else if o.mode=2 then sg lR::sg cQ::spB (iq o)
  else if o.mode=3 then sg cQ::(true,nameT (fj o.m))::((if o.md=1∧o.amt = -1 then[] else xl o (o.amt == -1))++[sg lR])
  else if(o.add=0∧o.plus=emp∧o.minus=emp)∧o.lo=false then[sg lR]
  else sg cQ::(spB (iq o)++[sg lR]))
def mP (o:OpV):List (Bool×Tok) :=
 if o.kind=1 then(false,nameT (fj o.r))::xl o (decide (5≤o.md)&&decide (o.amt=0))
 else if o.kind=2 then iq o++xl o false
 else if o.kind=3 then(if qf o=true then sg cL::qI o.val else qI o.val)
 else if o.kind=4 then gY 2 o.n
 else if o.kind=6 then gY 6 o.n
 else if o.kind=7 then gY 4 o.n
 else if o.kind=8 then gY 7 o.n
 else if o.kind=9 then gY 8 o.n
 else Bu o
theorem Bo:cJ vO=true:=by decide +kernel
theorem tz:aa eO=[44,32]:=rfl
theorem lu:aa cQ=[44]:=rfl
theorem P4:aa cL=[35]:=rfl
theorem Nt:aa zT=[32,35]:=rfl
theorem Nr:aa cj=[58]:=rfl
theorem Gr:aa brS=[91]:=rfl
theorem xD:aa Dg=[91]:=rfl
theorem Ns:aa ekS=[93]:=rfl
theorem xE:aa lR=[93]:=rfl
theorem SH:aa NL=[93,33]:=rfl
theorem SI:aa NM=[93,44,32]:=rfl
theorem JF:aa uR=[33]:=rfl
theorem b_lo:aa FE=[58,108,111,49,50,58]:=rfl
theorem Ut:aa vO=[108,111,49,50]:=rfl
theorem vQ (o:OpV):∃t r,iq o=(false,t)::r:=by
 unfold iq;split
 ·exact⟨_,_,rfl⟩
 ·exact⟨_,_,rfl⟩
theorem B3 {o:OpV}(h:(prO o).2=0)(hv:gw o.val):bg (iq o)=aa (lC o):=by
 have e:bg (qI o.val)=aa (mR o):=B7 h hv;unfold iq lC;split
 ·rw[di jU,pK Bo,di jU,e,aW];rfl
 ·rw[di e7,e,aW]
theorem CA {o:OpV}(hv:gw o.val):iY (iq o):=by
 unfold iq;split
 ·exact aF (dj jU) (aF (nO Bo _) (aF (dj jU) (r6 hv)))
 ·exact aF (dj e7) (r6 hv)
theorem AX {p:Option Tok}{r:List (Bool×Tok)}(hr:∀u,de (some u) r)(o:OpV):de p (iq o++r):=by
 unfold iq;split
 ·exact df jU (ii jU (df jU (oF (fun t=>Ex.sgn_sep t jU.2) hr _)))
 ·exact df e7 (oF (fun t=>Ex.sgn_sep t e7.2) hr _)
def FG (o:OpV):Prop:=o.md=0∨(aK 3 o.md).2=0
theorem wv {o:OpV}{s:Bool}(h:FG o)(ha:s=true∨0≤o.amt∧o.amt<100):bg (xl o s)=aa (kQ o s):=by
 unfold xl kQ;split
 ·rfl
 ·rename_i hm;have hn:=h.resolve_left hm;have hs:=(rL (.inr (.inl rfl)) hn).1;split
  ·rw[di bZ,pK hs,aW,tz,lu,bg,append_nil];rfl
  ·rename_i hx;obtain⟨a0,a1⟩:=ha.resolve_left (by simpa using hx);rw[di bZ,pK hs,LL e7,B5 a0 (by omega),aW,aW,aW,tz,lu,Nt,P4,bg,append_nil];simp
theorem wM {o:OpV}{s:Bool}(h:FG o)(ha:s=true∨0≤o.amt∧o.amt<100):iY (xl o s):=by
 unfold xl;split
 ·exact eK
 ·rename_i hm;have hs:=(rL (.inr (.inl rfl)) (h.resolve_left hm)).1;split
  ·exact aF (dj bZ) (aF (nO hs _) eK)
  ·rename_i hx;obtain⟨a0,a1⟩:=ha.resolve_left (by simpa using hx);exact aF (dj bZ) (aF (nO hs _) (aF (L9 e7) (aF (CB a0 (by omega)) eK)))
theorem vv {p:Option Tok}(hp:∃t,p=some t){r:List (Bool×Tok)}(hr:∀u,de (some u) r)(o:OpV)(s:Bool):de p (xl o s++r):=by
 unfold xl;split
 ·obtain⟨t,rfl⟩:=hp;exact hr t
 ·split
  ·exact df bZ (pE (hr _))
  ·exact df bZ (pE (pE (ii e7 (hr _))))
theorem lf {k n:Int}(hk:k=2∨k=3∨k=4∨k=6∨k=7∨k=8)(h:(aK k n).2=0∨0≤n∧n<100):bg (gY k n)=aa (gd k n):=by
 unfold gY gd;split
 ·rename_i hn;rw[pK (rL hk hn).1,bg,append_nil];rfl
 ·rename_i hn;obtain⟨a0,a1⟩:=h.resolve_left hn;rw[di e7,B5 a0 (by omega),aW,bg,append_nil]
theorem lk {k n:Int}(hk:k=2∨k=3∨k=4∨k=6∨k=7∨k=8)(h:(aK k n).2=0∨0≤n∧n<100):iY (gY k n):=by
 unfold gY;split
 ·rename_i hn;exact aF (nO (rL hk hn).1 _) eK
 ·rename_i hn;obtain⟨a0,a1⟩:=h.resolve_left hn;exact aF (dj e7) (aF (CB a0 (by omega)) eK)
theorem kN {p:Option Tok}(hp:∀t,nJ p t=false){r:List (Bool×Tok)}(hr:∀u,de (some u) r)(k n:Int):de p (gY k n++r):=by
 unfold gY;split
 ·exact⟨.inr (hp _),hr _⟩
 ·exact df e7 (ii e7 (hr _))
end Go.Proofs.YtnhbidpdadkcjaaGreatDoor
namespace Go.Proofs.YtnhbidpdadkcjaaGreatDoor
open Ex (fm nameT valT dD gw nJ)
theorem Mr {o:OpV}(ho:okO o)(h:(prO o).2=0):gw o.val:=Ex.print_ok (s:=(Ex.printF o.val).1) (by rw[←h];rfl) ho.2.1 ho.2.2
theorem mods_fin:∀j:Fin 13,j.val=0∨(aK 3 (j.val:Int)).2=0:=by decide +kernel
theorem rI {o:OpV}(h0:0≤o.md)(h1:o.md≤12):FG o:=by
 obtain⟨k,hk⟩:=eq_ofNat_of_zero_le h0;rcases mods_fin ⟨k,by omega⟩ with h | h
 ·exact .inl (by simp only at h;omega)
 ·exact .inr (by rw[hk];exact h)
theorem x6 {o:OpV}(h:dy o=true):lc o.m=true∧o.m.sp=false∧(-1≤o.amt∧o.amt≤63)∧(o.md=1∨o.md=7∨o.md=11∨o.md=12):=by
 unfold dy at h;split at h
 ·cases h
 ·rename_i hc;simp only[not_or]at hc;obtain⟨c1,c2,c3,c4⟩:=hc;refine⟨by simpa using c1,by simpa using c2,⟨by omega,by omega⟩,?_⟩;split at h
  ·rename_i hm;rcases hm with hm | hm<;>simp[hm]
  ·split at h
   ·rename_i hm;rcases hm with hm | hm<;>simp[hm]
   ·cases h
structure Jl (o:OpV):Prop where
 r:lc o.r=true
 v:gw o.val
 p:(prO o).2=0
 i:o.mode=3→dy o=true
theorem LJ {o:OpV}(h:Jl o):bg (Bu o)=aa (jd o):=by
 obtain⟨t,r,hl⟩:=vQ o;have el:=B3 h.p h.v;have hne:iq o≠[]:=by rw[hl];simp
 have es:bg (spB (iq o))=32::aa (lC o):=by rw[FM hl,el]
 have hr:=(il h.r).1;unfold Bu jd;rw[di FR,B4 hr];split
 ·rw[di bZ,kC,es,di mL,di zW,bg];simp only[aW,Gr,xD,tz,lu,xE,JF,SH,append_assoc,cons_append,nil_append]
 split
 ·rw[di mL,di bZ,es];simp only[aW,Gr,xD,tz,lu,xE,JF,SI,append_assoc,cons_append,nil_append]
 split
 ·rename_i h3;obtain⟨m1,m2,m3,m4⟩:=x6 (h.i h3);have hm:=(il m1).1;rw[di bZ,LK hm];split
  ·rw[nil_append,di mL,bg];simp only[aW,Gr,xD,tz,lu,Ns,xE,append_assoc,cons_append,nil_append,append_nil]
  ·have em:=wv (o:=o) (s:=o.amt == -1) (rI (by omega) (by omega)) (by
    rcases Int.lt_or_le o.amt 0 with h0 | h0
    ·exact .inl (by
      have:o.amt = -1:=by omega
      rw[this];rfl)
    ·exact .inr ⟨h0,by omega⟩)
   rw[kC,em,di mL,bg];simp only[aW,Gr,xD,tz,lu,Ns,xE,append_assoc,cons_append,nil_append,append_nil]
 split
 ·rw[di mL,bg];simp only[aW,Gr,xD,Ns,xE,append_assoc,cons_append,nil_append,append_nil]
 ·rw[di bZ,kC,es,di mL,bg];simp only[aW,Gr,xD,tz,lu,Ns,xE,append_assoc,cons_append,nil_append,append_nil]
theorem L8 {o:OpV}(h:Jl o):iY (Bu o):=by
 have hr:=(il h.r).1;have hl:=FU (CA h.v);unfold Bu;refine aF (dj FR) (aF (nO hr _) ?_);split
 ·exact aF (dj bZ) (mN hl (aF (dj mL) (aF (dj zW) eK)))
 split
 ·exact aF (dj mL) (aF (dj bZ) hl)
 split
 ·rename_i h3;obtain⟨m1,m2,m3,m4⟩:=x6 (h.i h3);refine aF (dj bZ) (aF (nO (il m1).1 _) (mN ?_ (aF (dj mL) eK)));split
  ·exact eK
  ·exact wM (rI (by omega) (by omega)) (by
    rcases Int.lt_or_le o.amt 0 with h0 | h0
    ·exact .inl (by
      have:o.amt = -1:=by omega
      rw[this];rfl)
    ·exact .inr ⟨h0,by omega⟩)
 split
 ·exact aF (dj mL) eK
 ·exact aF (dj bZ) (mN hl (aF (dj mL) eK))
theorem Kc {p:Option Tok}{r:List (Bool×Tok)}(hr:∀u,de (some u) r)(o:OpV):de p (Bu o++r):=by
 have hek:∀{r:List (Bool×Tok)},(∀u,de (some u) r)→∀u,de (some u) (sg lR::r):=fun h u=>df mL (h _);have hb:∀u,de (some u) (sg uR::r):=fun u=>df zW (hr _);have hne:iq o≠[]:=by obtain⟨t,r,hl⟩:=vQ o;rw[hl];simp
 have low:∀{q:Option Tok} {r:List (Bool×Tok)},(∀u,de (some u) r)→de q (spB (iq o)++r):=fun h=>by
  rw[←OP hne];exact Fr (p:=none) (AX h o)
 unfold Bu;rw[cons_append,cons_append];refine df FR (ii FR ?_);split
 ·rw[cons_append,append_assoc];exact df bZ (low (hek hb))
 split
 ·rw[cons_append,cons_append];exact df mL (df bZ (low hr))
 split
 ·rw[cons_append,cons_append,append_assoc];refine df bZ (pE ?_);split
  ·exact hek hr _
  ·exact vv ⟨_,rfl⟩ (hek hr) o _
 split
 ·exact hek hr _
 ·rw[cons_append,append_assoc];exact df bZ (low (hek hr))
structure OpOk (o:OpV):Prop where
 ok:okO o
 chk:gT o=0
theorem OpOk.val {o:OpV}(h:OpOk o):gw o.val:=Mr h.ok (jH h.chk).2.1
theorem OpOk.mem {o:OpV}(h:OpOk o)(hm:fe o=true):Jl o:=by
 obtain⟨h1,h2,h3⟩:=yc hm;refine⟨h1,h.val,(jH h.chk).2.1,fun h3'=>?_⟩;rcases h3 with h | h | h | h
 ·omega
 ·omega
 ·omega
 ·exact h.2
theorem OpOk.n {o:OpV}(h:OpOk o)(hk:o.kind=4∨o.kind=6∨o.kind=7∨o.kind=8∨o.kind=9):(0≤o.n∧o.n≤kR o.kind):=by
 obtain⟨-,hc⟩:=jJ (jH h.chk).1;rcases hc with ⟨k,-⟩ | ⟨k,-⟩ | k | ⟨-,n0,n1⟩ | ⟨k,-⟩
 ·omega
 ·omega
 ·omega
 ·exact⟨n0,n1⟩
 ·omega
theorem OpOk.named {o:OpV}(h:OpOk o):(o.kind=4→(aK 2 o.n).2=0)∧(o.kind=6→(aK 6 o.n).2=0)∧(o.kind=7∨o.kind=8∨o.kind=9→0≤o.n∧o.n<100):=by
 refine⟨fun k=>?_,fun k=>?_,fun k=>?_⟩
 ·obtain⟨n0,n1⟩:=h.n (by omega);rw[k]at n1;exact yg n0 n1
 ·obtain⟨n0,n1⟩:=h.n (by omega);rw[k]at n1;exact Bz n0 n1
 ·obtain⟨n0,n1⟩:=h.n (by omega);refine⟨n0,?_⟩;rcases k with k | k | k<;>rw[k]at n1
  ·have:kR 7=15:=rfl;omega
  ·have:kR 8=31:=rfl;omega
  ·have:kR 9=5:=rfl;omega
theorem OpOk.amount {o:OpV}(h:OpOk o)(hk:o.kind=1∨o.kind=2):FG o∧0≤o.amt∧o.amt<100:=by
 obtain⟨-,hc⟩:=jJ (jH h.chk).1;rcases hc with ⟨k,-,ha⟩ | ⟨k,ha⟩ | k | ⟨k,-⟩ | ⟨k,-⟩
 ·obtain⟨⟨a,b⟩,c,d⟩:=py ha;exact⟨rI a b,c,d⟩
 ·obtain⟨⟨a,b⟩,c,d⟩:=py ha;exact⟨rI a (by omega),c,d⟩
 ·omega
 ·omega
 ·omega
theorem OpOk.reg {o:OpV}(h:OpOk o)(hk:o.kind=1):lc o.r=true:=by
 obtain⟨-,hc⟩:=jJ (jH h.chk).1;rcases hc with ⟨k,hr,ha⟩ | ⟨k,ha⟩ | k | ⟨k,-⟩ | ⟨k,-⟩
 ·exact hr
 all_goals omega
theorem OpOk.isMem {o:OpV}(h:OpOk o)(hk:¬o.kind=1∧¬o.kind=2∧¬o.kind=3∧¬o.kind=4∧¬o.kind=6∧¬o.kind=7∧¬o.kind=8∧¬o.kind=9):o.kind=5∧fe o=true:=by
 obtain⟨-,hc⟩:=jJ (jH h.chk).1;rcases hc with ⟨k,-⟩ | ⟨k,-⟩ | k | ⟨k,-⟩ | ⟨k,hm⟩
 ·omega
 ·omega
 ·omega
 ·omega
 ·exact⟨k,hm⟩
theorem yw {o:OpV}(h:OpOk o):bg (mP o)=aa (bG o):=by
 have hv:=h.val;have hp:=(jH h.chk).2.1;obtain⟨n4,n6,n7⟩:=h.named;have ev:bg (qI o.val)=aa (mR o):=B7 hp hv;unfold mP bG;split
 ·rename_i k;obtain⟨m,a⟩:=h.amount (.inl k);rw[B4 (il (h.reg k)).1,wv m (.inr a),aW]
 split
 ·rename_i k;obtain⟨m,a⟩:=h.amount (.inr k);rw[kC,B3 hp hv,wv m (.inr a),aW]
 split
 ·split
  ·rw[di e7,ev,aW]
  ·exact ev
 split
 ·rename_i k;exact lf (.inl rfl) (.inl (n4 k))
 split
 ·rename_i k;exact lf (.inr (.inr (.inr (.inl rfl)))) (.inl (n6 k))
 split
 ·rename_i k;exact lf (.inr (.inr (.inl rfl))) (.inr (n7 (.inl k)))
 split
 ·rename_i k;exact lf (.inr (.inr (.inr (.inr (.inl rfl))))) (.inr (n7 (.inr (.inl k))))
 split
 ·rename_i k;exact lf (.inr (.inr (.inr (.inr (.inr rfl))))) (.inr (n7 (.inr (.inr k))))
 ·rename_i h1 h2 h3 h4 h6 h7 h8 h9;exact LJ (h.mem (h.isMem ⟨h1,h2,h3,h4,h6,h7,h8,h9⟩).2)
theorem yE {o:OpV}(h:OpOk o):iY (mP o):=by
 have hv:=h.val;obtain⟨n4,n6,n7⟩:=h.named;unfold mP;split
 ·rename_i k;obtain⟨m,a⟩:=h.amount (.inl k);exact aF (nO (il (h.reg k)).1 _) (wM m (.inr a))
 split
 ·rename_i k;obtain⟨m,a⟩:=h.amount (.inr k);exact mN (CA hv) (wM m (.inr a))
 split
 ·split
  ·exact aF (dj e7) (r6 hv)
  ·exact r6 hv
 split
 ·rename_i k;exact lk (.inl rfl) (.inl (n4 k))
 split
 ·rename_i k;exact lk (.inr (.inr (.inr (.inl rfl)))) (.inl (n6 k))
 split
 ·rename_i k;exact lk (.inr (.inr (.inl rfl))) (.inr (n7 (.inl k)))
 split
 ·rename_i k;exact lk (.inr (.inr (.inr (.inr (.inl rfl))))) (.inr (n7 (.inr (.inl k))))
 split
 ·rename_i k;exact lk (.inr (.inr (.inr (.inr (.inr rfl))))) (.inr (n7 (.inr (.inr k))))
 ·rename_i h1 h2 h3 h4 h6 h7 h8 h9;exact L8 (h.mem (h.isMem ⟨h1,h2,h3,h4,h6,h7,h8,h9⟩).2)
theorem xQ {p:Option Tok}(hp:∀t,nJ p t=false){r:List (Bool×Tok)}(hr:∀u,de (some u) r)(o:OpV):de p (mP o++r):=by
 unfold mP;split
 ·rw[cons_append];exact⟨.inr (hp _),vv ⟨_,rfl⟩ hr o _⟩
 split
 ·rw[append_assoc];refine AX (fun u=>vv ⟨_,rfl⟩ hr o _) o
 split
 ·split
  ·exact df e7 (oF (fun t=>Ex.sgn_sep t e7.2) hr _)
  ·exact oF hp hr _
 split
 ·exact kN hp hr _ _
 split
 ·exact kN hp hr _ _
 split
 ·exact kN hp hr _ _
 split
 ·exact kN hp hr _ _
 split
 ·exact kN hp hr _ _
 ·exact Kc hr o
def sU:List OpV→List (Bool×Tok)
 |[]=>[]
 |[o]=>mP o
 |o::p::r=>mP o++sg cQ::spB (sU (p::r))
theorem FW {o:OpV}(h:OpOk o):∃t r,mP o=(false,t)::r:=by
 obtain⟨tl,rl,hl⟩:=vQ o
 have hv:∀v:Val,∃t r,qI v=(false,t)::r:=fun v=>by
  unfold qI valT;split
  ·split
   ·exact⟨_,_,rfl⟩
   ·exact⟨_,_,rfl⟩
  ·exact⟨_,_,rfl⟩
 have hn:∀k n,∃t r,gY k n=(false,t)::r:=fun k n=>by
  unfold gY;split
  ·exact⟨_,_,rfl⟩
  ·exact⟨_,_,rfl⟩
 unfold mP;split
 ·exact⟨_,_,rfl⟩
 split
 ·exact⟨tl,rl++xl o false,by rw[hl];rfl⟩
 split
 ·split
  ·exact⟨_,_,rfl⟩
  ·exact hv _
 split
 ·exact hn _ _
 split
 ·exact hn _ _
 split
 ·exact hn _ _
 split
 ·exact hn _ _
 split
 ·exact hn _ _
 ·exact⟨_,_,rfl⟩
theorem QQ:∀{p:OpV} {r:List OpV},OpOk p→∃t x,sU (p::r)=(false,t)::x
 |p,[],h=>FW h
 |p,q::r,h=>by
  obtain⟨t,x,e⟩:=FW h;exact⟨t,x++sg cQ::spB (sU (q::r)),by rw[sU,e];rfl⟩
theorem k7 (x y:ByteArray)(r:List ByteArray):mz (x::y::r)=x++eO++mz (y::r):=by
 show r.foldl _ (x++eO++y)=x++eO++r.foldl _ y
 have:∀(r:List ByteArray) (a b:ByteArray),r.foldl (fun a y=>a++eO++y) (a++b)=a++r.foldl (fun a y=>a++eO++y) b:=by
  intro r
  induction r with
  |nil=>intro a b;rfl
  |cons z r ih =>
   intro a b;rw[List.foldl_cons,List.foldl_cons,show a++b++eO++z=a++(b++eO++z) by simp only[ByteArray.append_assoc],ih]
 exact this r (x++eO) y
theorem B6:∀{l:List OpV},(∀o∈l,OpOk o)→bg (sU l)=aa (mz (l.map bG))
 |[],_=>rfl
 |[o],h=>yw (h o (by simp))
 |o::p::r,h=>by
  obtain⟨t,x,e⟩:=QQ (p:=p) (r:=r) (h p (by simp));have ih:=B6 (l:=p::r) fun q hq=>h q (mem_cons_of_mem _ hq);rw[sU,kC,yw (h o (by simp)),di bZ,FM e,ih,show mz ((o::p::r).map bG)=bG o++eO++mz ((p::r).map bG) from k7 _ _ _,aW,aW,tz,lu];simp
theorem CC:∀{l:List OpV},(∀o∈l,OpOk o)→iY (sU l)
 |[],_=>eK
 |[o],h=>yE (h o (by simp))
 |o::p::r,h=>by
  rw[sU];exact mN (yE (h o (by simp))) (aF (dj bZ) (FU (CC fun q hq=>h q (mem_cons_of_mem _ hq))))
theorem AY:∀{l:List OpV} {p:Option Tok},(∀t,nJ p t=false)→de p (sU l)
 |[],_,_=>trivial
 |[o],p,hp=>by
  have:=xQ hp (r:=[]) (fun u=>trivial) o
  rwa [append_nil]at this
 |o::q::r,p,hp=>by
  rw[sU];exact xQ hp (fun u=>df bZ (Fr (p:=none) (AY fun t=>rfl))) o
def SC (l:List (Bool×Tok)):Prop:=∀u∈l,oe u.2=u.2
end Go.Proofs.YtnhbidpdadkcjaaGreatDoor
namespace Go.Proofs.YtnhbidpdadkcjaaGreatDoor
open Ex (fm nameT valT gw)
theorem U3 (s:ByteArray)(r:List Tok):atF (fm s::r) 4 0=s:=rfl
theorem Us (s:ByteArray)(r:List Tok):atF (fm s::r) 1 0=emp:=rfl
theorem U2 (s:ByteArray)(r:List Tok):atF (nameT s::r) 1 0=s:=rfl
theorem Uq (s:ByteArray)(r:List Tok):atF (nameT s::r) 4 0=emp:=rfl
theorem Ur (n:Int)(r:List Tok):atF (Ex.numT n::r) 1 0=emp:=rfl
theorem Um (n:Int)(r:List Tok):atF (Ex.numT n::r) 4 0=emp:=rfl
theorem Un (t:Tok)(r:List Tok)(k:Int)(n:Nat):atF (t::r) k (n+1)=atF r k n:=rfl
theorem kY {o:OpV}(h:¬o.kind=3∧¬o.kind=7∧¬o.kind=8∧¬o.kind=9):j6 o=o:=by
 unfold j6;split
 ·rfl
 rw[if_neg h.1,if_neg h.2.1,if_neg h.2.2.1,if_neg h.2.2.2]
end Go.Proofs.YtnhbidpdadkcjaaGreatDoor
namespace Go.Proofs.YtnhbidpdadkcjaaGreatDoor
open Ex (fm nameT valT gw)
section
variable {o:OpV}{r:List Tok}
end
end Go.Proofs.YtnhbidpdadkcjaaGreatDoor
namespace Go.Proofs.YtnhbidpdadkcjaaGreatDoor
open Ex (fm nameT valT gw)
structure Uk (o p:OpV):Prop where
 ok:OpOk p
 hash:(ab (bG p) 0==35)=(ab (bG o) 0==35)
 alone:p=o∨P1 p=false
end Go.Proofs.YtnhbidpdadkcjaaGreatDoor
namespace Go.Proofs.YtnhbidpdadkcjaaGreatDoor
theorem lP {o o':OpV}{most nn:Int}{l r:List Tok}(h:RdOk l)(e:aR o most nn l=.ok (o',r)):o'.kind=o.kind:=by
 obtain⟨-,-,a,b,rfl⟩:=ot h e;rfl
theorem Hh {o o':OpV}{l r:List Tok}(e:Br o l=.ok (o',r)):o'.kind=o.kind:=by
 unfold Br at e;split at e
 ·cases e
 ·split at e
  ·cases e
  ·injection e with e;injection e with e1 e2;rw[←e1];rfl
theorem Il {o o':OpV}{l r:List Tok}(e:BT o l=.ok (o',r)):o'.kind=o.kind:=by
 unfold BT at e;split at e
 ·cases e
 ·split at e
  ·cases e
  ·split at e
   ·cases e
   ·split at e
    ·injection e with e;injection e with e1 e2;rw[←e1];rfl
    ·injection e with e;injection e with e1 e2;rw[←e1];rfl
theorem G5 {o o':OpV}{l r:List Tok}(h:RdOk l)(e:zp o l=.ok (o',r)):o'.kind=o.kind:=by
 unfold zp at e;split at e
 ·cases e
 ·rename_i o1 l1 h1;split at e
  ·cases e
  ·split at e
   ·cases e
   ·injection e with e;injection e with e1 e2;rw[←e1];exact lP h h1
theorem zb {o o':OpV}{l r:List Tok}(h:RdOk l)(e:lv o l=.ok (o',r)):o'.kind=o.kind:=by
 unfold lv at e;split at e
 ·cases e
 ·rename_i l0 h0;have k0:=(dq kK h h0).1;split at e
  ·exact(G5 (k0.drop 1) e).trans rfl
  ·split at e
   ·cases e
   ·split at e
    ·exact Hh e
    ·exact Il e
theorem Ee {o o':OpV}{l r:List Tok}(e:wo o l=.ok (o',r)):o'.kind=o.kind:=by
 unfold wo at e;split at e
 ·split at e
  ·cases e
  ·injection e with e;injection e with e1 e2;rw[←e1];rfl
 ·injection e with e;injection e with e1 e2;rw[←e1]
theorem zw {o:OpV}{l r:List Tok}(h:RdOk l)(e:gK l=.ok (o,r)):o.kind=5:=by
 unfold gK at e;split at e
 ·cases e
 ·split at e
  ·exact(Ee e).trans rfl
  ·exact(zb (pf h).1 e).trans rfl
theorem EI {s:ByteArray}{o:OpV}(h:eR s nS=some o)(hc:gT o=0):j6 o=o:=by
 have h:eR s ((2,4)::(4,7)::(6,6)::(7,8)::(8,9)::[])=some o:=h
 have nameOk:∀{k:Int},¬k=2→¬k=6→(ai 3 k s).2=0→aK k (ai 3 k s).1=(s,0):=fun h2 h6 hn=>by
  obtain⟨x,e1,e2⟩:=back (k:=_) (m:=(ai 3 _ s).1) (s:=s) (by rw[←hn]);rcases e2 with e2 | e2 | e2
  ·rw[e1,e2]
  ·exact absurd e2.1 h2
  ·exact absurd e2 h6
 by_cases n2:(ai 3 2 s).2=0
 ·rw[eR,if_pos n2]at h;injection h with h;subst h;exact kY ⟨by show ¬(4:Int)=3;decide,by show ¬(4:Int)=7;decide,by show ¬(4:Int)=8;decide,by show ¬(4:Int)=9;decide⟩
 rw[eR,if_neg n2]at h;by_cases n4:(ai 3 4 s).2=0
 ·rw[eR,if_pos n4]at h;injection h with h;subst h;have hk:(ry 7 (ai 3 4 s).1).kind=7:=rfl;unfold j6;rw[if_neg (not_not_intro hc),nG,if_pos hk];exact if_neg (not_not_intro (show(aK 4 (ai 3 4 s).1).2=0 by rw[nameOk (by decide) (by decide) n4]))
 rw[eR,if_neg n4]at h;by_cases n6:(ai 3 6 s).2=0
 ·rw[eR,if_pos n6]at h;injection h with h;subst h;exact kY ⟨by show ¬(6:Int)=3;decide,by show ¬(6:Int)=7;decide,by show ¬(6:Int)=8;decide,by show ¬(6:Int)=9;decide⟩
 rw[eR,if_neg n6]at h;by_cases n7:(ai 3 7 s).2=0
 ·rw[eR,if_pos n7]at h;injection h with h;subst h;have hk:(ry 8 (ai 3 7 s).1).kind=8:=rfl;unfold j6;rw[if_neg (not_not_intro hc),nG,nG,if_pos hk];exact if_neg (not_not_intro (show(aK 7 (ai 3 7 s).1).2=0 by rw[nameOk (by decide) (by decide) n7]))
 rw[eR,if_neg n7]at h;by_cases n8:(ai 3 8 s).2=0
 ·rw[eR,if_pos n8]at h;injection h with h;subst h;have hk:(ry 9 (ai 3 8 s).1).kind=9:=rfl;have hx:=nameOk (k:=8) (by decide) (by decide) n8
  have ex:bG (ry 9 (ai 3 8 s).1)=s:=by
   unfold bG gd;rw[nG,nG,nG,nG,nG,nG,nG,if_pos hk];show(if(aK 8 (ai 3 8 s).1).2=0 then(aK 8 (ai 3 8 s).1).1 else _)=s;rw[hx,if_pos rfl]
  unfold j6;rw[if_neg (not_not_intro hc),nG,nG,nG,if_pos hk,ex,if_neg n6]
 ·rw[eR,if_neg n8]at h;cases h
theorem BL {o:OpV}{l r:List Tok}(h:RdOk l)(e:kV l=.ok (o,r))(hc:gT o=0):j6 o=o:=by
 unfold kV at e;split at e
 ·have hk:=lP (h.drop 1) e;exact kY (by simp only at hk;omega)
 split at e
 ·have hk:=zw (h.drop 1) e;exact kY (by omega)
 split at e
 ·unfold xX at e;split at e
  ·cases e
  ·rename_i v l1 h1;have hk:=lP (eN (h.drop 1) h1).2.1 e;have hk:o.kind=2:=hk;exact kY (by omega)
 split at e
 ·cases e
 ·split at e
  ·cases e
  ·injection e with e;injection e with e1 e2;have hk:o.kind=2:=by rw[←e1];rfl
   exact kY (by omega)
 ·split at e
  ·unfold dP at e;split at e
   ·rename_i o1 h1;injection e with e;injection e with e1 e2;subst e1;exact EI h1 hc
   ·cases e
  ·split at e
   ·cases e
   ·rename_i v l1 h1;injection e with e;injection e with e1 e2;split at e1
    ·have hk:o.kind=2:=by rw[←e1];rfl
     exact kY (by omega)
    ·rename_i hna;have hk:o.kind=3:=by rw[←e1];rfl
     have ha:qf o=false:=by
      cases ha:qf o with
      |false=>rfl
      |true =>
       unfold qf at ha;rw[and_eq_true,decide_eq_true_eq,decide_eq_true_eq,←e1]at ha;exact absurd ha hna
     unfold j6;rw[if_neg (not_not_intro hc),if_pos hk,if_neg (by rw[ha];simp)]
structure uG (out:List OpV):Prop where
 plain:∀o∈out,j6 o=o
 bad:∀i a b,out[i]? = some a→out[i+1]? = some b→mg a b=false
theorem ER {out out':List OpV}{l r:List Tok}(h:RdOk l)(hr:uG out)(e:fo out l=.ok (out',r)):uG out':=by
 unfold fo at e;split at e
 ·cases e
 ·rename_i l1 h1
  have k1:RdOk l1:=by
   split at h1
   ·injection h1 with h1;subst h1;exact h
   ·exact(dq kK h h1).1
  split at e
  ·cases e
  ·split at e
   ·cases e
   ·rename_i o l2 h2;split at e
    ·cases e
    ·rename_i hc;split at e
     ·cases e
     ·rename_i hg;injection e with e;injection e with e1 e2;subst e1;refine⟨fun p hp=>?_,fun i a b h1 h2=>?_⟩
      ·rw[mem_append,List.mem_singleton]at hp;rcases hp with hp | rfl
       ·exact hr.plain p hp
       ·exact BL k1 h2 (Decidable.not_not.1 hc)
      ·rcases Nat.lt_or_ge (i+1) out.length with hi | hi
       ·rw[List.getElem?_append_left (by omega)]at h1;rw[List.getElem?_append_left hi]at h2;exact hr.bad i a b h1 h2
       ·have hi2:i+1=out.length:=by
         have:=(List.getElem?_eq_some_iff.1 h2).1;rw[length_append,List.length_singleton]at this;omega
        rw[hi2,List.getElem?_append_right (Nat.le_refl _),Nat.sub_self]at h2;simp only[List.getElem?_cons_zero,Option.some.injEq]at h2;subst h2;rw[List.getElem?_append_left (by omega)]at h1
        have hl:out.getLast? = some a:=by
         rw[List.getLast?_eq_getElem?,show out.length-1=i by omega];exact h1
        unfold tK at hg;rw[hl]at hg;simpa using hg
theorem rS:∀{N:Nat} {out out':List OpV} {l:List Tok},RdOk l→me out→uG out→eZ N out l=.ok out'→uG out'
 |0,out,out',l,h,ho,hr,e=>by
  cases l with
  |nil=>rw[c9]at e;injection e with e;subst e;exact hr
  |cons t r=>cases e
 |N+1,out,out',[],_,ho,hr,e=>by rw[c9]at e;injection e with e;subst e;exact hr
 |N+1,out,out',t::r,h,ho,hr,e=>by
  rw[dX (by simp)]at e;rcases hs:fo out (t::r) with x | ⟨o2,l'⟩
  ·rw[hs]at e;cases e
  ·rw[hs]at e;obtain⟨g1,g2,-,-⟩:=lj h ho hs;exact rS g2 g1 (ER h hr hs) e
theorem DW {l:List Tok}{out:List OpV}(h:RdOk l)(e:fP l=.ok out):uG out:=rS h mD ⟨fun o ho=>by simp at ho,fun i a b h1=>by simp at h1⟩ e
theorem DU {s:ByteArray}{ts:List Tok}{n:Nat}(h:eF (aa s)=(ts,n,0)):RdOk ts:=by
 have hl:(aa s).length=s.size:=ae s;unfold eF at h;split at h
 ·cases h
 ·rename_i hz;have hr:∀z∈aa s,0≤z∧z≤255:=fun z hz=>fx hz;have h1:=ug ts 0 n 0 (Nat.zero_le _) (by rw[List.drop_zero];exact h);have h2:=po hr (by omega) ts 0 n 0 (Nat.zero_le _) (by rw[List.drop_zero];exact h);refine⟨fun t ht hk=>?_,by have:=h1.2.2.2;omega⟩
  have key:∀(ts:List Tok) (p:Nat),Rises (aa s).length p ts→∀t∈ts,t.kind=1→cJ t.text=true:=by
   intro ts
   induction ts with
   |nil=>intro p _ t ht;cases ht
   |cons u ts ih =>
    rintro p ⟨⟨hc,hsz⟩,a,-,-,-,hrest⟩ t ht hk;rcases List.mem_cons.1 ht with rfl | ht
    ·obtain⟨hi,-⟩:=Ex.check_is hc;unfold isT at hi;rw[if_pos hk]at hi;unfold cJ;rw[decide_eq_true hsz,Ex.nameB_nameL,hi];rfl
    ·exact ih _ hrest t ht hk
  exact key ts 0 h2 t ht hk
theorem C9 {l:List Tok}{a:List OpV}(h:RdOk l)(e:fP l=.ok a):(ll a).2=0∧(∀o∈a,okO o∧gT o=0∧j6 o=o)∧a.map j6=a:=by
 have h1:=Ku h e;have h2:=DW h e;refine⟨?_,fun o ho=>⟨(h1.all o ho).1,(h1.all o ho).2,h2.plain o ho⟩,?_⟩
 ·unfold ll;rw[if_neg (not_not_intro (xH fun o ho=>(h1.all o ho).2)),if_neg (by have:=h1.few;omega),if_neg (by rw[qh h2.bad];simp)]
 ·exact(List.map_congr_left fun o ho=>h2.plain o ho).trans (List.map_id a)
end Go.Proofs.YtnhbidpdadkcjaaGreatDoor
