import Derived.Test.YtnhbidpdadkcjaaGreatDoorR29
import Derived.Lib.ItoaMem
import Derived.Test.YtnhbidpdadkcjaaGreatDoorR26
import Derived.Lib.IndexAny
set_option linter.unusedVariables false
set_option linter.unusedSimpArgs false
open Go.RowKit
open List (length_append length_cons map_cons mem_append mem_cons_self append_assoc mem_cons_of_mem mem_cons not_mem_nil append_nil nil_append cons_append length_drop getElem?_map length_map map_append singleton_append)
open Nat (zero_le)
open Bool (and_eq_true)
open Int (eq_ofNat_of_zero_le)
namespace Go.Proofs.YtnhbidpdadkcjaaGreatDoor.Ex
theorem sW (c:Int):(dz c).length≤4:=by
 unfold dz;split
 ·simp
 ·split<;>simp
theorem quoteB_len:∀l:List Int,(ee l).length≤4*l.length
 |[]=>by simp[ee]
 |c::l=>by
  have h1:=quoteB_len l;have h2:=sW c;have:ee (c::l)=dz c++ee l:=rfl;rw[this,length_append,length_cons];omega
set_option maxRecDepth 100000
def uS (n:Int):ByteArray:=⟨(Lib.decDigits n.toNat).toArray⟩
theorem G3 {n:Int}(h0:0≤n)(h:n<10):uS n=aj [48+n]:=by
 unfold uS;rw[Lib.decDigits_one (by omega)];unfold aj;simp only[map_cons,List.map_nil];rw[show(48+n).toNat=48+n.toNat by omega]
theorem N5 {n:Int}(h:10≤n):uS n=uS (n / 10)++aj [48+n % 10]:=by
 unfold uS;rw[Lib.decDigits,dif_neg (by omega)];have e1:(n / 10).toNat=n.toNat / 10:=by omega
 have e2:(48+n % 10).toNat=48+n.toNat % 10:=by omega
 rw[e1];unfold aj;simp only[map_cons,List.map_nil,e2];refine ByteArray.ext ?_;simp[ByteArray.append]
theorem KT {n:Int}(h0:0≤n)(h:n<18446744073709551616):(uS n).size≤20:=by
 have e:(uS n).size=(Lib.decDigits n.toNat).length:=by simp[uS,ByteArray.size]
 rw[e,Lib.decDigits_length];rcases Nat.eq_zero_or_pos n.toNat with h1 | h1
 ·rw[h1];decide +kernel
 ·have:=Lib.numDigits_eq n.toNat h1 (by omega);split at this<;>omega
def textT (t:Tok):ByteArray:=if cN t=0 then if t.kind=2 then uS t.n else if t.kind=3 then aj (eg (aa t.text)) else t.text else emp
def oW (t:Tok):Bool:=decide (t.kind=1)||decide (t.kind=2)
def pM (t:Tok):Bool:=decide (t.kind=4)&&decide (t.text=⟨#[47]⟩)
def apartF (a b:Tok):Bool:=(oW a&&oW b)||(pM a&&pM b)
def qX (p:Option Tok)(t:Tok):Bool:=match p with | some a=>apartF a t | none=>false
def spB:ByteArray:=⟨#[32]⟩
def WK (t:Tok):Prop:=t.text.size≤140737488351232∧0≤t.n∧t.n<18446744073709551616
theorem check_is {t:Tok}(h:cN t=0):isT t=true∧0≤t.pos∧(t.n=0∨t.kind=2):=by
 unfold cN at h;split at h
 ·assumption
 ·cases h
theorem check_kind {t:Tok}(h:cN t=0):t.kind=1∨t.kind=2∨t.kind=3∨t.kind=4:=by
 have:=(check_is h).1;unfold isT at this;split at this
 ·exact .inl (by assumption)
 ·split at this
  ·exact .inr (.inl (by assumption))
  ·split at this
   ·exact .inr (.inr (.inl (by assumption)))
   ·split at this
    ·exact .inr (.inr (.inr (by assumption)))
    ·cases this
theorem GU {t:Tok}(h:cN t=0)(k:t.kind=3):t.text.size≤512:=by
 have:=(check_is h).1;unfold isT at this;rw[nG,nG,if_pos k]at this;exact of_decide_eq_true this
theorem DB (l:List Int):(aj l).size=l.length:=by simp[aj,ByteArray.size]
theorem Iw (l:List Int):(eg l).length≤4*l.length+2:=by
 have:=quoteB_len l;unfold eg;simp only[length_cons,length_append,List.length_nil];omega
theorem Xh {t:Tok}(h:cN t=0)(hs:WK t):0<(textT t).size∧(textT t).size≤140737488351232:=by
 obtain⟨h1,h2,h3⟩:=hs;have hi:=(check_is h).1;unfold textT;rw[if_pos h];rcases check_kind h with k | k | k | k
 ·rw[nG,nG];unfold isT at hi;rw[if_pos k]at hi;unfold eK at hi;simp only[and_eq_true,decide_eq_true_eq]at hi;have:=hi.1.1;rw[ae]at this;exact⟨this,h1⟩
 ·rw[if_pos k];have:=KT h2 h3;have h4:(uS t.n).size=(Lib.decDigits t.n.toNat).length:=by simp[uS,ByteArray.size]
  have h5:0<(Lib.decDigits t.n.toNat).length:=by rw[Lib.decDigits];split<;>simp
  omega
 ·rw[nG,if_pos k,DB];have:=Iw (aa t.text);have h4:=GU h k;rw[ae]at this;refine⟨by unfold eg;simp,by omega⟩
 ·rw[nG,nG];unfold isT at hi;rw[nG,nG,nG,if_pos k]at hi;have:=of_decide_eq_true hi;exact⟨this.1,h1⟩
def dL (n:Int):List Int:=aa (uS n)
theorem Ef {n:Int}(h0:0≤n)(h:n<10):dL n=[48+n]:=by
 unfold dL;rw[G3 h0 h,bj (by simp;omega)]
theorem Vp {n:Int}(h:10≤n):dL n=dL (n / 10)++[48+n % 10]:=by
 unfold dL;rw[N5 h,eh,bj (by simp;omega)]
theorem yb:∀(N:Nat) (n:Int),n.toNat≤N→0≤n→(∀c∈dL n,48≤c∧c≤57)∧bW 10 (dL n)=n∧1≤(dL n).length∧(1≤n→bAt (dL n) 0≠48)∧(n<10→(dL n).length=1):=by
 intro N
 induction N with
 |zero =>
  intro n hN h0;obtain rfl:n=0:=by omega
  rw[Ef (by omega) (by omega)];refine⟨by simp,rfl,by simp,by omega,by simp⟩
 |succ N ih =>
  intro n hN h0;by_cases h:n<10
  ·rw[Ef h0 h];refine⟨by simp;omega,?_,by simp,?_,by simp⟩
   ·show(0*10+aM (48+n):Int)=n;unfold aM;rw[pS];omega
   ·intro h1;show 48+n≠48;omega
  ·obtain⟨i1,i2,i3,i4,i5⟩:=ih (n / 10) (by omega) (by omega);rw[Vp (by omega)];refine⟨?_,?_,?_,?_,?_⟩
   ·intro c hc;rw[mem_append,List.mem_singleton]at hc;rcases hc with hc | rfl
    ·exact i1 c hc
    ·omega
   ·unfold bW at i2 ⊢;rw[List.foldl_append,i2];show n / 10*10+aM (48+n % 10)=n;unfold aM;rw[pS];omega
   ·simp
   ·intro _;rw[kN (by omega)];exact i4 (by omega)
   ·omega
theorem ru {l:List Int}(h:∀c∈l,48≤c∧c≤57){i:Nat}(hi:i<l.length):48≤bAt l i∧bAt l i≤57:=by
 have:=xj hi;exact h _ (List.mem_of_getElem? this)
theorem KW {c:Int}(h:48≤c∧c≤57):aM c=c-48:=by unfold aM;rw[if_pos h]
theorem Ll {c:Int}(h:aM c<10):48≤c∧c≤57:=by
 unfold aM at h;split at h
 ·assumption
 ·split at h
  ·omega
  ·split at h<;>omega
theorem Ep {c:Int}(h:48≤c∧c≤57):wordyB c=true:=by
 unfold wordyB eI;rw[decide_eq_true h,Bool.or_true]
def Cq (r:List Int):Prop:=r=[]∨wordyB (bAt r 0)=false
theorem vn {a r:List Int}(h:Cq r):¬(a.length<(a++r).length∧wordyB (bAt (a++r) a.length)=true):=by
 rintro⟨h1,h2⟩;rw[xU]at h2;rcases h with rfl | h
 ·simp at h1
 ·rw[h]at h2;cases h2
theorem LQ {n:Int}(h0:0≤n)(h1:n<18446744073709551616){r:List Int}(hr:Cq r):aT (dL n++r)=(n,(dL n).length):=by
 obtain⟨f1,f2,f3,f4,f5⟩:=yb n.toNat n (Nat.le_refl _) h0;have hb0:bAt (dL n++r) 0=bAt (dL n) 0:=kN (by omega);have hd0:=ru f1 (i:=0) (by omega)
 have hz:∀c:Int,c=120∨c=98→¬(1<(dL n++r).length∧bAt (dL n++r) 0=48∧bAt (dL n++r) 1=c):=by
  rintro c hc ⟨g1,g2,g3⟩;rw[hb0]at g2
  have hn:n=0:=by
   by_cases h:1≤n
   ·exact absurd g2 (f4 h)
   ·omega
  have hl:=f5 (by omega);have e:bAt (dL n++r) 1=bAt r 0:=by rw[←hl,xU]
  rcases hr with rfl | hr
  ·simp at g1;omega
  ·rw[←e,g3]at hr;rcases hc with rfl | rfl<;>exact absurd hr (by decide)
 have hbase:fA (dL n++r)=10:=by
  unfold fA;rw[if_neg (hz 120 (.inl rfl)),if_neg (hz 98 (.inr rfl))]
 have hhead:cM (dL n++r)=0:=by
  unfold cM;rw[if_neg];rintro⟨g1,g2,g3 | g3⟩
  ·exact hz 120 (.inl rfl) ⟨g1,g2,g3⟩
  ·exact hz 98 (.inr rfl) ⟨g1,g2,g3⟩
 have hrun:bQ 10 (dL n++r)=(dL n).length:=by
  refine pK _ _ _ (by simp) (fun i hi=>?_) (fun hi=>?_)
  ·rw[kN hi];have:=ru f1 hi;rw[KW this];exact decide_eq_true (by omega)
  ·refine decide_eq_false fun h=>?_;have:=Ep (Ll h);exact vn hr ⟨hi,this⟩
 unfold aT;rw[hbase,hhead,List.drop_zero,hrun,hb0,nG,if_neg,List.take_left,f2,nG,Nat.zero_add];rintro (g | ⟨_,g1,g2⟩)
 ·omega
 ·by_cases h:1≤n
  ·exact f4 h g2
  ·have:=f5 (by omega);omega
theorem FD {c:Int}(h0:0≤c)(h1:c≤255)(x:List Int):eQ (dz c++x)=.put c (dz c).length:=by
 have hx16:aM (jY (c / 16))=c / 16:=by
  unfold jY aM;by_cases h:c / 16<10
  ·rw[if_pos h,pS];omega
  ·rw[if_neg h,nG,pS];omega
 have hx1:aM (jY (c % 16))=c % 16:=by
  unfold jY aM;by_cases h:c % 16<10
  ·rw[if_pos h,pS];omega
  ·rw[if_neg h,nG,pS];omega
 by_cases hs:dh c≠0
 ·have e:dz c=[92,dh c]:=by unfold dz;rw[if_pos hs]
  have hl:E4 (dh c)=some c:=by
   unfold dh at hs ⊢;by_cases c0:c=0
   ·subst c0;rfl
   by_cases c1:c=9
   ·subst c1;rfl
   by_cases c2:c=10
   ·subst c2;rfl
   by_cases c3:c=13
   ·subst c3;rfl
   by_cases c4:c=34
   ·subst c4;rfl
   by_cases c5:c=92
   ·subst c5;rfl
   ·simp only[c0,c1,c2,c3,c4,c5,or_self,if_false]at hs;exact absurd rfl hs
  rw[e];unfold eQ;rw[if_neg (by simp),if_neg (by show ¬(92:Int)=34;decide),if_pos (by rfl)]
  have:mO (List.drop 1 ([92,dh c]++x))=some (c,1):=by
   show mO (dh c::x)=_;unfold mO;rw[if_neg (by simp),D3,hl]
  rw[this];rfl
 have hs0:dh c=0:=by simpa using hs
 have hne:c≠34∧c≠92:=by
  constructor
  ·rintro rfl;exact absurd hs0 (by decide)
  ·rintro rfl;exact absurd hs0 (by decide)
 by_cases hw:iA c=true
 ·have e:dz c=[c]:=by unfold dz;rw[if_neg hs,if_pos hw]
  rw[e];unfold eQ;rw[if_neg (by simp),if_neg (by show ¬c=34;exact hne.1),if_neg (by show ¬c=92;exact hne.2),if_pos (by exact hw)];rfl
 ·have e:dz c=[92,120,jY (c / 16),jY (c % 16)]:=by unfold dz;rw[if_neg hs,if_neg hw]
  rw[e];unfold eQ;rw[if_neg (by simp),if_neg (by show ¬(92:Int)=34;decide),if_pos (by rfl)]
  have:mO (List.drop 1 ([92,120,jY (c / 16),jY (c % 16)]++x))=some (c,3):=by
   show mO (120::jY (c / 16)::jY (c % 16)::x)=_;unfold mO;have hl:E4 (bAt (120::jY (c / 16)::jY (c % 16)::x) 0)=none:=by rw[D3];rfl
   rw[if_neg (by simp),hl];have b1:bAt (120::jY (c / 16)::jY (c % 16)::x) 1=jY (c / 16):=rfl;have b2:bAt (120::jY (c / 16)::jY (c % 16)::x) 2=jY (c % 16):=rfl;simp only[b1,b2,hx16,hx1];rw[if_pos ⟨by simp,rfl,by omega,by omega⟩];congr 2;omega
  rw[this];rfl
theorem BX:∀{s:List Int},(∀z∈s,0≤z∧z≤255)→∀r:List Int,quotesL (ee s++34::r)=some (s,(ee s).length+1)
 |[],_,r=>iM rfl
 |c::s,h,r=>by
  have hc:=h c (mem_cons_self ..);have e:ee (c::s)=dz c++ee s:=rfl;rw[e,append_assoc,jC (FD hc.1 hc.2 _),List.drop_left,BX (fun z hz=>h z (mem_cons_of_mem _ hz)) r];simp[Nat.add_assoc]
theorem Iy {s:List Int}(h:∀z∈s,0≤z∧z≤255)(r:List Int):cv (eg s++r)=(s,(eg s).length):=by
 unfold cv;have e:(eg s++r).drop 1=ee s++34::r:=by unfold eg;simp
 rw[e,BX h r];unfold eg;simp
theorem Dq {c:Int}(h0:0≤c)(h1:c≤255):∀z∈dz c,0≤z∧z≤255:=by
 have hd:∀k:Int,0≤k→k<16→0≤jY k∧jY k≤255:=by
  intro k g0 g1;unfold jY;split<;>omega
 have hsr:0≤dh c∧dh c≤255:=by unfold dh;(repeat' split)<;>omega
 intro z hz;unfold dz at hz;split at hz
 ·simp at hz;rcases hz with rfl | rfl
  ·omega
  ·exact hsr
 ·split at hz
  ·simp at hz;omega
  ·simp at hz;rcases hz with rfl | rfl | rfl | rfl
   ·omega
   ·omega
   ·exact hd _ (by omega) (by omega)
   ·exact hd _ (by omega) (by omega)
theorem quoteL_range {s:List Int}(h:∀z∈s,0≤z∧z≤255):∀z∈eg s,0≤z∧z≤255:=by
 intro z hz;unfold eg ee at hz;simp only[mem_cons,mem_append,List.mem_flatMap,not_mem_nil,or_false]at hz;rcases hz with rfl | ⟨c,hc,hz⟩ | rfl
 ·omega
 ·exact Dq (h c hc).1 (h c hc).2 z hz
 ·omega
def After (t:Tok)(r:List Int):Prop:=(oW t=true→Cq r)∧(pM t=true→¬(0<r.length∧bAt r 0=47))
def txtL (t:Tok):List Int:=aa (textT t)
theorem txt_head {t:Tok}(h:cN t=0)(h0:0≤t.n)(r:List Int):0<(txtL t).length∧bAt (txtL t++r) 0=bAt (txtL t) 0∧az (bAt (txtL t) 0)=false∧(wordyB (bAt (txtL t) 0)=true→oW t=true)∧(bAt (txtL t) 0=47→pM t=true):=by
 have hi:=(check_is h).1
 have key:0<(txtL t).length∧az (bAt (txtL t) 0)=false∧(wordyB (bAt (txtL t) 0)=true→oW t=true)∧(bAt (txtL t) 0=47→pM t=true):=by
  unfold txtL textT;rw[if_pos h];rcases check_kind h with k | k | k | k
  ·rw[nG,nG];unfold isT at hi;rw[if_pos k]at hi;unfold eK at hi;simp only[and_eq_true,decide_eq_true_eq]at hi;obtain⟨⟨g1,g2⟩,g3⟩:=hi;have:=pt g2;exact⟨g1,this.1,fun _=>by unfold oW;rw[decide_eq_true k];rfl,fun e=>absurd e this.2⟩
  ·rw[if_pos k];obtain⟨f1,_,f3,_,_⟩:=yb t.n.toNat t.n (Nat.le_refl _) h0;have hd:=ru f1 (i:=0) (by omega);unfold dL at f3 hd;refine⟨by omega,by unfold az;exact decide_eq_false (by omega),fun _=>by unfold oW;rw[decide_eq_true k,Bool.or_true],fun e=>by omega⟩
  ·rw[nG,if_pos k,bj (quoteL_range fun z hz=>jc hz)];refine⟨by unfold eg;simp,rfl,fun e=>absurd e (by show ¬wordyB 34=true;decide),fun e=>absurd e (by show ¬(34:Int)=47;decide)⟩
  ·rw[nG,nG];unfold isT at hi;rw[nG,nG,nG,if_pos k]at hi;obtain⟨g1,g2⟩:=of_decide_eq_true hi;have hl:=ae t.text;have hs:bI (aa t.text)≠0:=by omega
   have hh:=vG hs;refine⟨by omega,?_,?_,?_⟩
   ·rcases hh with e | e | e
    ·rw[e];rfl
    ·rw[e];rfl
    ·exact(rK e).1
   ·intro hw;exfalso;rcases hh with e | e | e
    ·rw[e]at hw;exact absurd hw (by decide)
    ·rw[e]at hw;exact absurd hw (by decide)
    ·revert hw e;generalize bAt (aa t.text) 0=c;intro hw e;unfold qY at e;simp only[mem_cons,not_mem_nil,or_false]at e;rcases e with rfl | rfl | rfl | rfl | rfl | rfl | rfl | rfl | rfl | rfl | rfl | rfl | rfl | rfl | rfl | rfl | rfl | rfl<;>exact absurd hw (by decide)
   ·intro e
    have h1:t.text.size=1:=by
     rw[←g2];unfold bI;rw[nG,if_pos ⟨by omega,by rw[e];decide⟩]
    have h2:aa t.text=[47]:=by
     rw[←hl]at h1;obtain⟨x,hx⟩:=List.length_eq_one_iff.1 h1;rw[hx]at e ⊢;rw[show x=47 from e]
    have h3:t.text=⟨#[47]⟩:=ez (h2.trans rfl);unfold pM;rw[decide_eq_true k,decide_eq_true h3];rfl
 exact⟨key.1,kN key.1,key.2⟩
theorem vP {a r:List Int}(h:eK a=true)(hr:Cq r):bz wordyB (a++r)=a.length:=by
 unfold eK at h;simp only[and_eq_true,decide_eq_true_eq]at h;obtain⟨⟨g1,g2⟩,g3⟩:=h;refine pK _ _ _ (by simp) (fun i hi=>?_) (fun hi=>?_)
 ·rw[kN hi];exact pL _ _ _ (by omega)
 ·cases hw:wordyB (bAt (a++r) a.length) with
  |false=>rfl
  |true=>exact absurd ⟨hi,hw⟩ (vn hr)
theorem Qz {a r:List Int}(h0:0<a.length)(h:bI a=a.length)(hs:a=[47]→¬(0<r.length∧bAt r 0=47)):bI (a++r)=a.length∧dF (a++r)=false:=by
 have hb0:bAt (a++r) 0=bAt a 0:=kN h0;unfold bI at h;split at h
 ·rename_i hc;obtain⟨c1,c2⟩:=hc;have hb1:bAt (a++r) 1=bAt a 1:=kN c1;constructor
  ·unfold bI;rw[if_pos ⟨by rw[length_append];omega,by rw[hb0,hb1];exact c2⟩];exact h
  ·unfold dF;rw[hb0];rw[decide_eq_false (show ¬(a++r).length=0 by rw[length_append];omega),decide_eq_false (show ¬bAt a 0=47 by omega)];simp
 ·split at h
  ·rename_i hc0 hc;have h1:a.length=1:=h.symm;have hne:=rK hc.2;constructor
   ·unfold bI;rw[hb0,if_neg (by rintro⟨_,g | g⟩<;>omega),if_pos ⟨by rw[length_append];omega,hc.2⟩];exact h
   ·unfold dF;rw[hb0];rw[decide_eq_false (show ¬(a++r).length=0 by rw[length_append];omega),Bool.false_or];rw[Bool.eq_false_iff];intro hd;simp only[and_eq_true,decide_eq_true_eq]at hd;obtain⟨⟨d1,d2⟩,d3⟩:=hd;obtain⟨x,rfl⟩:=List.length_eq_one_iff.1 h1;obtain rfl:x=47:=d2;refine hs rfl ⟨by simp at d1;omega,?_⟩;rw[←d3];rfl
  ·omega
theorem one_text {t:Tok}(h:cN t=0)(h0:0≤t.n)(h1:t.n<18446744073709551616){r:List Int}(hr:After t r) :
  ∃t0,fT (txtL t++r)=.ok (t0,(txtL t).length)∧bare t0=bare t∧dF (txtL t++r)=false∧bz az (txtL t++r)=0:=by
 obtain⟨p0,p1,p2,p3,p4⟩:=txt_head h h0 r;have hrun:bz az (txtL t++r)=0:=pK _ _ _ (zero_le _) (fun i hi=>absurd hi (Nat.not_lt_zero _)) (fun _=>by rw[p1];exact p2)
 have hnot47:bAt (txtL t) 0≠47→dF (txtL t++r)=false:=by
  intro hne;unfold dF;rw[p1,decide_eq_false (show ¬(txtL t++r).length=0 by rw[length_append];omega),decide_eq_false hne];simp
 obtain⟨hi,_,hn⟩:=check_is h;rcases check_kind h with k | k | k | k
 ·have hw:oW t=true:=by unfold oW;rw[decide_eq_true k];rfl
  have e:txtL t=aa t.text:=by unfold txtL textT;rw[if_pos h,nG,nG]
  unfold isT at hi;rw[if_pos k]at hi;have hrn:=vP hi (hr.1 hw);unfold eK at hi;simp only[and_eq_true,decide_eq_true_eq]at hi;obtain⟨⟨g1,g2⟩,g3⟩:=hi;rw[←e]at hrn g2;refine⟨⟨1,t.text,0,0⟩,?_,?_,hnot47 (pt g2).2,hrun⟩
  ·unfold fT;rw[p1,if_pos g2,hrn,List.take_left,e,fp]
  ·unfold bare;rcases hn with hn | hn
   ·rw[←k,←hn]
   ·omega
 ·have hw:oW t=true:=by unfold oW;rw[decide_eq_true k,Bool.or_true]
  have e:txtL t=dL t.n:=by unfold txtL textT dL;rw[if_pos h,if_pos k]
  have hnm:=LQ h0 h1 (hr.1 hw);obtain⟨f1,_,f3,_,_⟩:=yb t.n.toNat t.n (Nat.le_refl _) h0;have hd:=ru f1 (i:=0) (by omega);unfold isT at hi;rw[nG,if_pos k]at hi;have htx:=of_decide_eq_true hi;have hno:=vn (a:=dL t.n) (hr.1 hw);rw[e]at p1 hrun ⊢;refine⟨⟨2,emp,t.n,0⟩,?_,?_,by rw[←e];exact hnot47 (by rw[e];omega),hrun⟩
  ·unfold fT;have hl:¬bX (bAt (dL t.n) 0)=true:=by unfold bX;rw[decide_eq_true_eq];omega
   have hdg:eI (bAt (dL t.n) 0)=true:=by unfold eI;exact decide_eq_true hd
   rw[p1,if_neg hl,if_pos (.inl hdg),hnm,if_neg];rintro (g | g)
   ·simp only at g;omega
   ·exact hno g
  ·unfold bare;rw[←k,←htx]
 ·have e:txtL t=eg (aa t.text):=by unfold txtL textT;rw[if_pos h,nG,if_pos k,bj (quoteL_range fun z hz=>jc hz)]
  have hq:=Iy (s:=aa t.text) (fun z hz=>jc hz) r;have hb:bAt (eg (aa t.text)) 0=34:=rfl;rw[e]at p1 hrun ⊢;refine⟨⟨3,t.text,0,0⟩,?_,?_,by rw[←e];exact hnot47 (by rw[e,hb];decide),hrun⟩
  ·unfold fT;rw[p1,hb,if_neg (by decide),if_neg (by decide),if_pos rfl,hq,if_neg (by unfold eg;simp),fp]
  ·unfold bare;rcases hn with hn | hn
   ·rw[←k,←hn]
   ·omega
 ·have e:txtL t=aa t.text:=by unfold txtL textT;rw[if_pos h,nG,nG]
  unfold isT at hi;rw[nG,nG,nG,if_pos k]at hi;obtain⟨g1,g2⟩:=of_decide_eq_true hi;have hl:=ae t.text
  obtain⟨s1,s2⟩:=Qz (a:=aa t.text) (r:=r) (by omega) (by omega) (fun ea=>hr.2 (by
   have h3:t.text=⟨#[47]⟩:=ez (ea.trans rfl);unfold pM;rw[decide_eq_true k,decide_eq_true h3];rfl))
  have hh:=vG (m:=aa t.text) (by omega)
  have hc:bX (bAt (aa t.text) 0)=false∧eI (bAt (aa t.text) 0)=false∧bAt (aa t.text) 0≠39∧bAt (aa t.text) 0≠34:=by
   revert hh;generalize bAt (aa t.text) 0=c;intro hh;rcases hh with rfl | rfl | hh
   ·decide
   ·decide
   ·unfold qY at hh;simp only[mem_cons,not_mem_nil,or_false]at hh;rcases hh with rfl | rfl | rfl | rfl | rfl | rfl | rfl | rfl | rfl | rfl | rfl | rfl | rfl | rfl | rfl | rfl | rfl | rfl<;>decide
  rw[e]at p1 hrun ⊢;refine⟨⟨4,t.text,0,0⟩,?_,?_,s2,hrun⟩
  ·unfold fT;rw[p1,hc.1,hc.2.1,if_neg (by decide),if_neg (by rintro (g | g);cases g;exact hc.2.2.1 g),if_neg hc.2.2.2,s1,nG,List.take_left,fp]
  ·unfold bare;rcases hn with hn | hn
   ·rw[←k,←hn]
   ·omega
def rendL:Option Tok→List Tok→List Int
 |_,[]=>[]
 |p,t::r=>(if qX p t=true then[32] else[])++(txtL t++rendL (some t) r)
end Go.Proofs.YtnhbidpdadkcjaaGreatDoor.Ex
namespace Go.Proofs.YtnhbidpdadkcjaaGreatDoor.Ex
theorem kI (g:Int→Bool):∀l:List UInt8,mR g l=bz g (l.map fun b=>(b.toNat:Int))
 |[]=>rfl
 |c::l=>by rw[map_cons,jE,←kI g l];unfold mR;rw[List.takeWhile_cons];split<;>simp[Nat.add_comm, *]
theorem nameB_nameL (s:ByteArray):ud s=eK (aa s):=by
 have hl:(aa s).length=s.size:=ae s;rcases Nat.eq_zero_or_pos s.size with h | h
 ·rw[←vj h];unfold eK;rw[hl,h];rfl
 ·rw[px h];unfold eK;rw[hl,kI]
  have h0:bAt (aa s) 0=(s[0].toNat:Int):=by
   have:=dw h;rw[←gq];unfold ab;rw[List.getD_eq_getElem?_getD,show Int.toNat 0=0 from rfl,List.getElem?_eq_getElem (by simpa using h)];rfl
  rw[h0];simp[h,aa];rfl
set_option maxRecDepth 100000
abbrev plusS:ByteArray:=⟨#[43]⟩
abbrev minusS:ByteArray:=⟨#[45]⟩
def numT (n:Int):Tok:=⟨2,emp,n,0⟩
def nameT (s:ByteArray):Tok:=⟨1,s,0,0⟩
def ax (s:ByteArray):Tok:=⟨4,s,0,0⟩
theorem check_num (n:Int):cN (numT n)=0:=by unfold cN isT numT;simp
theorem check_name {s:ByteArray}(h:br s=true):cN (nameT s)=0:=by
 unfold br at h;rw[and_eq_true,nameB_nameL]at h;unfold cN isT nameT;simp[h.2]
theorem txt_num {n:Int}(h:0≤n):txtL (numT n)=dL n:=by
 unfold txtL textT dL;rw[if_pos (check_num n)];rfl
theorem txt_name {s:ByteArray}(h:br s=true):txtL (nameT s)=aa s:=by
 unfold txtL textT;rw[if_pos (check_name h)];rfl
theorem txt_sgn {s:ByteArray}(h:cN (ax s)=0):txtL (ax s)=aa s:=by
 unfold txtL textT;rw[if_pos h];rfl
theorem Kx (t:Tok)(s:ByteArray)(h:s≠⟨#[47]⟩):apartF t (ax s)=false:=by
 unfold apartF oW pM ax;simp[h]
theorem MM (t:Tok)(s:ByteArray)(h:s≠⟨#[47]⟩):apartF (ax s) t=false:=by
 unfold apartF oW pM ax;simp[h]
theorem sep_sgn (t:Tok){s:ByteArray}(h:s≠⟨#[47]⟩):qX (some t) (ax s)=false:=Kx t s h
theorem sgn_sep (t:Tok){s:ByteArray}(h:s≠⟨#[47]⟩):qX (some (ax s)) t=false:=MM t s h
theorem minus_ne:minusS≠⟨#[47]⟩:=by decide
theorem plus_ne:plusS≠⟨#[47]⟩:=by decide
theorem gX (p:Option Tok)(t:Tok)(r:List Tok)(h:qX p t=false):rendL p (t::r)=txtL t++rendL (some t) r:=by
 rw[rendL,h];rfl
theorem JG:∀(f n:Nat),n<10 ^ (f+1)→decG (f+1) n=Lib.decDigits n
 |0,n,h=>by
  have h10:n<10:=by simpa using h
  rw[decG,if_pos h10,Lib.decDigits,dif_pos h10]
 |f+1,n,h=>by
  rw[decG,Lib.decDigits];by_cases h10:n<10
  ·rw[if_pos h10,dif_pos h10]
  ·rw[if_neg h10,dif_neg h10,JG f (n / 10) (by rw[Nat.pow_succ]at h;omega)]
theorem decS_dL {n:Nat}(h:n<18446744073709551616):aa (decS n)=dL (n:Int):=by
 unfold dL uS decS;rw[JG 19 n (by omega),Int.toNat_natCast]
def tailT (a:Int):List Tok:=if a=0 then[] else if a<0 then[ax minusS,numT (-a)] else[ax plusS,numT a]
def midT (m:ByteArray):List Tok:=if m=emp then[] else[ax minusS,nameT m]
def valT (v:Val):List Tok :=
 if v.plus=emp∧v.minus=emp then(if v.add<0 then[ax minusS,numT (-v.add)] else[numT v.add])
 else(if v.plus=emp then numT 0 else nameT v.plus)::(midT v.minus++tailT v.add)
structure ValOk (v:Val):Prop where
 p:v.plus=emp∨br v.plus=true
 m:v.minus=emp∨br v.minus=true
 ne:v.plus=v.minus→v.plus=emp
 lo : -9223372036854775808≤v.add
 hi:v.add≤9223372036854775807
theorem print_ok {v:Val}{s:ByteArray}(h:printF v=(s,0))(lo : -9223372036854775808≤v.add)(hi:v.add≤9223372036854775807):ValOk v:=by
 unfold printF at h;split at h
 ·injection h with h1 h2;cases h2
 ·rename_i c1;split at h
  ·injection h with h1 h2;cases h2
  ·rename_i c2;refine⟨?_,?_,fun e=>?_,lo,hi⟩
   ·by_cases e:v.plus=emp
    ·exact .inl e
    ·right;cases hs:br v.plus with
     |true=>rfl
     |false=>exact absurd (.inl ⟨e,hs⟩) c1
   ·by_cases e:v.minus=emp
    ·exact .inl e
    ·right;cases hs:br v.minus with
     |true=>rfl
     |false=>exact absurd (.inr ⟨e,hs⟩) c1
   ·by_cases e2:v.plus=emp
    ·exact e2
    ·exact absurd ⟨e,e2⟩ c2
theorem sgnM:cN (ax minusS)=0:=by decide +kernel
theorem sgnP:cN (ax plusS)=0:=by decide +kernel
theorem Cd {a:Int}(lo : -9223372036854775808≤a)(hi:a≤9223372036854775807)(t:Tok):rendL (some t) (tailT a)=if a=0 then[] else aa (signS a):=by
 unfold tailT signS;by_cases h0:a=0
 ·rw[if_pos h0,if_pos h0];rfl
 rw[if_neg h0,if_neg h0];by_cases h:a<0
 ·rw[if_pos h,if_pos h,gX _ _ _ (sep_sgn _ minus_ne),gX _ _ _ (sgn_sep _ minus_ne),txt_sgn sgnM,txt_num (by omega),eh,decS_dL (by omega),Int.toNat_of_nonneg (by omega),rendL,append_nil]
 ·rw[if_neg h,if_neg h,gX _ _ _ (sep_sgn _ plus_ne),gX _ _ _ (sgn_sep _ plus_ne),txt_sgn sgnP,txt_num (by omega),eh,decS_dL (by omega),Int.toNat_of_nonneg (by omega),rendL,append_nil]
theorem val_rend {v:Val}{s:ByteArray}(h:printF v=(s,0))(hv:ValOk v):aa s=rendL none (valT v):=by
 obtain⟨hp,hm,hne,lo,hi⟩:=hv;unfold printF at h;split at h
 ·injection h with h1 h2;cases h2
 split at h
 ·injection h with h1 h2;cases h2
 unfold valT;split at h
 ·rename_i hpl;rw[if_pos hpl];split at h
  ·rename_i hn;rw[if_pos hn];injection h with h1 h2;have:=Cd lo hi (numT 0);unfold tailT at this;rw[nG,if_pos hn,nG,h1]at this;rw[←this,gX _ _ _ (sep_sgn _ minus_ne),gX none _ _ rfl]
  ·rename_i hn;rw[if_neg hn];injection h with h1 h2;rw[gX none _ _ rfl,txt_num (by omega),rendL,append_nil,←h1,decS_dL (by omega),Int.toNat_of_nonneg (by omega)]
 ·rename_i hpl;rw[if_neg hpl];injection h with h1 h2
  have hb:∀x:List Tok,rendL none ((if v.plus=emp then numT 0 else nameT v.plus)::x)=aa (if v.plus=emp then⟨#[48]⟩ else v.plus)++rendL (some (if v.plus=emp then numT 0 else nameT v.plus)) x:=by
   intro x;rw[gX none _ _ rfl];congr 1;by_cases e:v.plus=emp
   ·rw[if_pos e,if_pos e,txt_num (by decide)]
    decide +kernel
   ·rw[if_neg e,if_neg e,txt_name (hp.resolve_left e)]
  rw[hb,←h1];obtain⟨B,hB⟩:∃B,(if v.plus=emp then numT 0 else nameT v.plus)=B:=⟨_,rfl⟩;rw[hB];obtain⟨O,hO⟩:∃O,(if v.plus=emp then(⟨#[48]⟩:ByteArray) else v.plus)=O:=⟨_,rfl⟩;simp only[hO]
  have key:∀(O2:ByteArray) (t:Tok),aa (if v.add=0 then O2 else O2++signS v.add)=aa O2++rendL (some t) (tailT v.add):=by
   intro O2 t;rw[Cd lo hi];split
   ·rw[append_nil]
   ·rw[eh]
  by_cases em:v.minus=emp
  ·simp only[if_pos em];unfold midT;rw[if_pos em,nil_append];exact key O B
  ·simp only[if_neg em];have hsm:=hm.resolve_left em;unfold midT;rw[if_neg em,cons_append,cons_append,nil_append,gX _ _ _ (sep_sgn _ minus_ne),gX _ _ _ (sgn_sep _ minus_ne),txt_sgn sgnM,txt_name hsm,key _ (nameT v.minus),eh,eh];simp only[append_assoc]
theorem val_toks {v:Val}(hv:ValOk v):∀u∈valT v,cN u=0∧0≤u.n∧u.n<18446744073709551616:=by
 obtain⟨hp,hm,hne,lo,hi⟩:=hv
 have hs:∀u,u=ax minusS∨u=ax plusS→cN u=0∧0≤u.n∧u.n<18446744073709551616:=by
  rintro u (rfl | rfl)
  ·exact⟨sgnM,by decide,by decide⟩
  ·exact⟨sgnP,by decide,by decide⟩
 have hnum:∀n:Int,0≤n→n<18446744073709551616→cN (numT n)=0∧0≤(numT n).n∧(numT n).n<18446744073709551616:=fun n h0 h1=>⟨check_num n,h0,h1⟩;intro u hu;unfold valT at hu;split at hu
 ·split at hu
  ·simp only[mem_cons,not_mem_nil,or_false]at hu;rcases hu with rfl | rfl
   ·exact hs _ (.inl rfl)
   ·exact hnum _ (by omega) (by omega)
  ·simp only[mem_cons,not_mem_nil,or_false]at hu;subst hu;exact hnum _ (by omega) (by omega)
 ·rw[mem_cons,mem_append]at hu;rcases hu with rfl | hu | hu
  ·split
   ·exact hnum _ (by omega) (by omega)
   ·rename_i e;exact⟨check_name (hp.resolve_left e),Int.le_refl _,by show(0:Int)<_;decide⟩
  ·unfold midT at hu;split at hu
   ·simp at hu
   ·rename_i e;simp only[mem_cons,not_mem_nil,or_false]at hu;rcases hu with rfl | rfl
    ·exact hs _ (.inl rfl)
    ·exact⟨check_name (hm.resolve_left e),Int.le_refl _,by show(0:Int)<_;decide⟩
  ·unfold tailT at hu;split at hu
   ·simp at hu
   ·split at hu
    ·simp only[mem_cons,not_mem_nil,or_false]at hu;rcases hu with rfl | rfl
     ·exact hs _ (.inl rfl)
     ·exact hnum _ (by omega) (by omega)
    ·simp only[mem_cons,not_mem_nil,or_false]at hu;rcases hu with rfl | rfl
     ·exact hs _ (.inr rfl)
     ·exact hnum _ (by omega) (by omega)
theorem bare_valT (v:Val):(valT v).map bare=valT v:=by
 unfold valT midT tailT
 repeat' split
 all_goals rfl
def DI (v:Val):List Term :=
 if v.plus=emp∧v.minus=emp then(if v.add<0 then[⟨1,wrap64 (-v.add),emp⟩,⟨3,0,emp⟩] else[⟨1,wrap64 v.add,emp⟩])
 else(if v.plus=emp then⟨1,0,emp⟩ else⟨2,0,v.plus⟩)::((if v.minus=emp then[] else[⟨2,0,v.minus⟩,⟨9,0,emp⟩])++(if v.add=0 then[] else if v.add<0 then[⟨1,wrap64 (-v.add),emp⟩,⟨9,0,emp⟩] else[⟨1,wrap64 v.add,emp⟩,⟨8,0,emp⟩]))
section
variable {l:List Tok}{N p:Nat}{u:Tok}
theorem sY {n:Int}(h:l[p]? = some u)(hb:bare u=numT n):Reads (aP l (N+1)) p (p+1) 0 [⟨1,wrap64 n,emp⟩]:=by
 have e1:u.kind=2:=congrArg Tok.kind hb;have e2:u.n=n:=congrArg Tok.n hb;have:=Mv (N:=N) h e1;rw[e2]at this;exact this
theorem xz {s:ByteArray}(h:l[p]? = some u)(hb:bare u=nameT s):Reads (aP l (N+1)) p (p+1) 0 [⟨2,0,s⟩]:=by
 have e1:u.kind=1:=congrArg Tok.kind hb;have e2:u.text=s:=congrArg Tok.text hb;have:=IB (N:=N) h e1;rw[e2]at this;exact this
end
theorem yG {l:List Tok}{q:Nat}{k:Int}(hk:k=8∨k=9)(h:nxt l q=eF k):bP (nxt l q) [5,6,7] 0=0∧bP (nxt l q) [8,9] 0=k:=by
 rw[h];rcases hk with rfl | rfl<;>decide +kernel
theorem pg {l:List Tok}{read:PS→PR}{q:Nat}{k:Int}{b c:List Term}{z:Nat}(hk:k=8∨k=9)(hn:nxt l q=eF k)(hr:Reads read (q+1) (q+2) 0 b)(hc:Chn l read [8,9] (q+2) z 0 c):Chn l read [8,9] q z 0 (b++⟨k,0,emp⟩::c) :=
 .cons (yG hk hn).2 (by omega) hr (by omega) hc (Int.le_refl _) (Int.le_refl _)
theorem Nj {a:Int}(lo : -9223372036854775808≤a)(hi:a≤9223372036854775807):wrap64 a=a:=by unfold wrap64;omega
theorem Tv {l:List Tok}{N p:Nat}{u:Tok}{v:Val}(h:l[p]? = some u)(hb:bare u=if v.plus=emp then numT 0 else nameT v.plus):Reads (aP l (N+1)) p (p+1) 0 [if v.plus=emp then⟨1,0,emp⟩ else⟨2,0,v.plus⟩]:=by
 by_cases e:v.plus=emp
 ·rw[if_pos e]at hb ⊢;have:=sY (N:=N) (n:=0) h hb;rw[show wrap64 0=0 from by decide +kernel]at this;exact this
 ·rw[if_neg e]at hb ⊢;exact xz h hb
theorem CD (s:ByteArray):s++emp=s:=ByteArray.append_empty
theorem CR (s:ByteArray):emp++s=s:=ByteArray.empty_append
theorem U5 {p m:ByteArray}(h:p=m→p=emp)(hm:m≠emp):nq ⟨0,p,emp⟩ (ue ⟨0,m,emp⟩)=(⟨0,p,m⟩,0):=by
 have hpm:¬p=m:=fun e=>hm (e▸h e)
 have c1:bn ⟨0,p,emp⟩=⟨0,p,emp⟩:=by
  unfold bn;simp only;split
  ·rename_i e;rw[e]
  ·rfl
 have c2:bn (ue ⟨0,m,emp⟩)=⟨0,emp,m⟩:=by
  unfold bn ue;simp only;rw[if_neg (fun e=>hm e.symm),show wrap64 (-0)=0 from by decide +kernel]
 unfold nq;rw[c1,c2];unfold dZ;simp only[if_neg hpm,if_true];rw[if_neg (by simp)];rw[CD,CR,show wrap64 (0+0)=0 from by decide +kernel]
theorem Jx {p m:ByteArray}{n:Int}(h:p=m→p=emp):nq ⟨0,p,m⟩ ⟨n,emp,emp⟩=(⟨wrap64 n,p,m⟩,0):=by
 have c1:bn ⟨0,p,m⟩=⟨0,p,m⟩:=by
  unfold bn;simp only;split
  ·rename_i e;rw[←e,h e]
  ·rfl
 have c2:bn ⟨n,emp,emp⟩=⟨n,emp,emp⟩:=by unfold bn;simp
 unfold nq;rw[c1,c2]
 have mt:∀x:ByteArray,dZ x emp=(x,emp):=by
  intro x;unfold dZ;split
  ·rename_i e;rw[e]
  ·rfl
 simp only[mt];rw[if_neg (by simp),CD,CD,Int.zero_add]
theorem tk:bd 1=0∧bd 2=0∧bd 3=1∧bd 8=2∧bd 9=2:=by decide
theorem pk {vs:List Val}{k n:Int}{s:ByteArray}{r:List Term}(hk:k=1∨k=2):eB vs (⟨k,n,s⟩::r)=eB (vs++[⟨n,s,emp⟩]) r :=
 yx (t:=⟨k,n,s⟩) (by show bd k=0;rcases hk with rfl | rfl<;>decide)
theorem Hf {x y v:Val}{k:Int}{r:List Term}(hk:k=8∨k=9)(h:cF k x y=(v,0)):eB [x,y] (⟨k,0,emp⟩::r)=eB [v] r:=by
 have:=yy (vs:=[x,y]) (t:=⟨k,0,emp⟩) (r:=r) (v:=v) (by rcases hk with rfl | rfl<;>decide) h;rw[this];have e:bd k=2:=by rcases hk with rfl | rfl<;>decide
 simp[e]
theorem val_eval {v:Val}(hv:ValOk v):evalAll (DI v)=(v,0):=by
 obtain⟨a,p,m⟩:=v;obtain⟨hp,hm,hne,lo,hi⟩:=hv;simp only at hp hm hne lo hi;have w1:=Nj lo hi;have w2:a<0→wrap64 (-wrap64 (-a))=a:=by intro h;unfold wrap64;omega
 have t1:∀n:Int,gp ⟨1,n,emp⟩=true:=fun n=>by simp[gp]
 have t2:∀s:ByteArray,br s=true→gp ⟨2,0,s⟩=true:=fun s h=>by simp[gp,h]
 have t3:gp ⟨3,0,emp⟩=true:=by decide +kernel
 have t8:gp ⟨8,0,emp⟩=true:=by decide +kernel
 have t9:gp ⟨9,0,emp⟩=true:=by decide +kernel
 obtain⟨k1,k2,k3,k8,k9⟩:=tk;unfold DI;simp only;by_cases c:p=emp∧m=emp
 ·rw[if_pos c];obtain⟨rfl,rfl⟩:=c;by_cases c2:a<0
  ·rw[if_pos c2];have hc:dN [⟨1,wrap64 (-a),emp⟩,⟨3,0,emp⟩]=0:=by simp[dN,cI,t1,t3,k1,k3]
   unfold evalAll;rw[if_pos hc,pk (.inl rfl)];have:=yy (vs:=[⟨wrap64 (-a),emp,emp⟩]) (t:=⟨3,0,emp⟩) (r:=[]) (v:=⟨a,emp,emp⟩) (by decide) (by show cF 3 _ ⟨wrap64 (-a),emp,emp⟩=_;unfold cF ue;rw[if_pos rfl];simp only[w2 c2]);rw[nil_append,this,eB];rfl
  ·rw[if_neg c2];have hc:dN [⟨1,wrap64 a,emp⟩]=0:=by simp[dN,cI,t1,k1]
   unfold evalAll;rw[if_pos hc,pk (.inl rfl),eB,w1];rfl
 ·rw[if_neg c];obtain⟨b,hb⟩:∃b:Term,(if p=emp then⟨1,0,emp⟩ else⟨2,0,p⟩)=b:=⟨_,rfl⟩
  have bt:gp b=true:=by
   rw[←hb];split
   ·exact t1 0
   ·rename_i e;exact t2 p (hp.resolve_left e)
  have bk:bd b.kind=0:=by
   rw[←hb];split
   ·exact k1
   ·exact k2
  have be:∀(r:List Term),eB [] (b::r)=eB [⟨0,p,emp⟩] r:=by
   intro r;rw[←hb];by_cases e:p=emp
   ·rw[if_pos e,pk (.inl rfl),e];rfl
   ·rw[if_neg e,pk (.inr rfl)];rfl
  rw[hb]
  have sub:m≠emp→∀r,eB [⟨0,p,emp⟩] (⟨2,0,m⟩::⟨9,0,emp⟩::r)=eB [⟨0,p,m⟩] r:=by
   intro em r;rw[pk (.inr rfl)];exact Hf (.inr rfl) (by rw[show cF 9 ⟨0,p,emp⟩ ⟨0,m,emp⟩=nq ⟨0,p,emp⟩ (ue ⟨0,m,emp⟩) from by simp[cF]];exact U5 hne em)
  have neg:a<0→∀(m:ByteArray) r,(p=m→p=emp)→eB [⟨0,p,m⟩] (⟨1,wrap64 (-a),emp⟩::⟨9,0,emp⟩::r)=eB [⟨a,p,m⟩] r:=by
   intro ha m r hne;rw[pk (.inl rfl)];refine Hf (.inr rfl) ?_;rw[show cF 9 ⟨0,p,m⟩ ⟨wrap64 (-a),emp,emp⟩=nq ⟨0,p,m⟩ (ue ⟨wrap64 (-a),emp,emp⟩) from by simp[cF]];rw[show ue ⟨wrap64 (-a),emp,emp⟩=⟨a,emp,emp⟩ from by unfold ue;simp only[w2 ha],Jx hne,w1]
  have pos:∀(m:ByteArray) r,(p=m→p=emp)→eB [⟨0,p,m⟩] (⟨1,wrap64 a,emp⟩::⟨8,0,emp⟩::r)=eB [⟨a,p,m⟩] r:=by
   intro m r hne;rw[pk (.inl rfl)];refine Hf (.inl rfl) ?_;rw[show cF 8 ⟨0,p,m⟩ ⟨wrap64 a,emp,emp⟩=nq ⟨0,p,m⟩ ⟨wrap64 a,emp,emp⟩ from by simp[cF],w1,Jx hne,w1]
  have fin:eB [⟨a,p,m⟩] []=(⟨a,p,m⟩,0):=rfl;unfold evalAll;by_cases em:m=emp
  ·rw[if_pos em,nil_append];have hpe:p=m→p=emp:=hne;subst em;by_cases e0:a=0
   ·rw[if_pos e0];subst e0;rw[if_pos (by simp[dN,cI,bt,bk]),be];rfl
   ·rw[if_neg e0];by_cases en:a<0
    ·rw[if_pos en,if_pos (by simp[dN,cI,bt,bk,t1,t9,k1,k9]),be,neg en emp _ hne];rfl
    ·rw[if_neg en,if_pos (by simp[dN,cI,bt,bk,t1,t8,k1,k8]),be,pos emp _ hne];rfl
  ·rw[if_neg em];have tm:=t2 m (hm.resolve_left em);by_cases e0:a=0
   ·rw[if_pos e0];subst e0;rw[if_pos (by simp[dN,cI,bt,bk,tm,t9,k2,k9]),be,append_nil,sub em];rfl
   ·rw[if_neg e0];by_cases en:a<0
    ·rw[if_pos en,if_pos (by simp[dN,cI,bt,bk,tm,t1,t9,k1,k2,k9]),be,cons_append,cons_append,nil_append,sub em,neg en m _ hne];rfl
    ·rw[if_neg en,if_pos (by simp[dN,cI,bt,bk,tm,t1,t8,t9,k1,k2,k8,k9]),be,cons_append,cons_append,nil_append,sub em,pos m _ hne];rfl
end Go.Proofs.YtnhbidpdadkcjaaGreatDoor.Ex
set_option maxRecDepth 100000
set_option maxHeartbeats 8000000
namespace Go.Proofs.YtnhbidpdadkcjaaGreatDoor
abbrev RdR (α:Type):=Except Int (α×List Tok)
def dq:ByteArray:=⟨#[93]⟩
def D7:ByteArray:=⟨#[91]⟩
def aA:ByteArray:=⟨#[44]⟩
def aO:ByteArray:=⟨#[58]⟩
def tB:ByteArray:=⟨#[33]⟩
def mr:ByteArray:=⟨#[108,111,49,50]⟩
def atF (l:List Tok)(k:Int)(n:Nat):ByteArray:=match l[n]? with
 |some t=>if t.kind=k then t.text else emp
 |none=>emp
def bc (s:ByteArray)(l:List Tok):Bool×List Tok:=if atF l 4 0=s then(true,l.drop 1) else(false,l)
def mustR (s:ByteArray)(l:List Tok):Except Int (List Tok):=if atF l 4 0=s then .ok (l.drop 1) else .error 100
def valueR (l:List Tok):RdR Val:=match Ex.parseF l with
 |.error e=>.error e
 |.ok s=>if(Ex.evalAll s.ts).2=0 then .ok ((Ex.evalAll s.ts).1,l.drop s.at_) else .error (Ex.evalAll s.ts).2
def countR (l:List Tok):RdR Int:=match mustR aU l with
 |.error e=>.error e
 |.ok l=>match valueR l with
  |.error e=>.error e
  |.ok (v,l)=>if(v.plus=emp∧v.minus=emp)∧0≤v.add∧v.add≤63 then .ok (v.add,l) else .error 100
def changedR (o:OpV)(most none:Int)(l:List Tok):RdR OpV :=
 if ¬atF l 4 0=aA∨¬(ag 3 3 (atF l 1 1)).2=0∨most<(ag 3 3 (atF l 1 1)).1 then .ok (o,l)
 else if(ag 3 3 (atF l 1 1)).1≤4∨atF (l.drop 2) 4 0=aU then match countR (l.drop 2) with
  |.error e=>.error e
  |.ok (k,l')=>.ok ({ o with md:=(ag 3 3 (atF l 1 1)).1,amt:=k },l')
 else .ok ({ o with md:=(ag 3 3 (atF l 1 1)).1,amt:=none },l.drop 2)
def loR (l:List Tok):Except Int (Bool×List Tok) :=
 if ¬atF l 4 0=aO then .ok (false,l) else if ¬atF l 1 1=mr∨¬atF l 4 2=aO then .error 100 else .ok (true,l.drop 3)
def gR (l:List Tok):gu×Bool:=if(dg 3 (atF l 1 0)).2=0 then((dg 3 (atF l 1 0)).1,true) else(r0,false)
def ao (l:List Tok):(gu×Bool)×List Tok:=(gR l,if(gR l).2=true then l.drop 1 else l)
def lI (o:OpV)(v:Val):OpV:={ o with add:=v.add,plus:=v.plus,minus:=v.minus }
def ly (r:gu):OpV:=⟨5,r,r0,0,0,0,0,emp,emp,false,0⟩
def AD (o:OpV)(l:List Tok):RdR OpV:=match changedR o 12 (-1) l with
 |.error e=>.error e
 |.ok (o,l)=>if dY o=false then .error 100 else match mustR dq l with
  |.error e=>.error e
  |.ok l=>.ok (o,l)
def C7 (o:OpV)(l:List Tok):RdR OpV:=match valueR l with
 |.error e=>.error e
 |.ok (v,l)=>match mustR dq l with
  |.error e=>.error e
  |.ok l=>.ok ({ lI o v with lo:=true },l)
def Dp (o:OpV)(l:List Tok):RdR OpV:=match mustR aU l with
 |.error e=>.error e
 |.ok l=>match valueR l with
  |.error e=>.error e
  |.ok (v,l)=>match mustR dq l with
   |.error e=>.error e
   |.ok l=>if(bc tB l).1=true then .ok ({ lI o v with mode:=1 },(bc tB l).2) else .ok (lI o v,l)
def iE (o:OpV)(l:List Tok):RdR OpV:=match mustR aA l with
 |.error e=>.error e
 |.ok l=>if(gR l).2=true then AD { o with mode:=3,m:=(gR l).1,md:=1,amt := -1 } (l.drop 1) else match loR l with
  |.error e=>.error e
  |.ok (b,l)=>if b=true then C7 o l else Dp o l
def qR (o:OpV)(l:List Tok):RdR OpV:=if atF l 4 0=aA∧atF l 4 1=aU then match valueR (l.drop 2) with
  |.error e=>.error e
  |.ok (v,l)=>.ok ({ lI o v with mode:=2 },l)
 else .ok (o,l)
def ig (l:List Tok):RdR OpV :=
 if ff (ly (gR l).1)=false then .error 100
 else if(bc dq (ao l).2).1=true then qR (ly (gR l).1) ((bc dq (ao l).2).2)
 else iE (ly (gR l).1) (ao l).2
def lA (k n:Int):OpV:=⟨k,r0,r0,0,0,n,0,emp,emp,false,0⟩
def rsvdF (s:ByteArray):List (Int×Int)→Option OpV
 |[]=>none
 |(kd,k)::r=>if(ag 3 kd s).2=0 then some (lA k (ag 3 kd s).1) else rsvdF s r
def kp:List (Int×Int):=[(2,4),(4,7),(6,6),(7,8),(8,9)]
def dm (s:ByteArray)(l:List Tok):RdR OpV:=match rsvdF s kp with
 |some o=>.ok (o,l.drop 1)
 |none=>.error 100
def iJ (v:Val)(lo:Bool):OpV:=⟨2,r0,r0,0,0,0,v.add,v.plus,v.minus,lo,0⟩
def toV (v:Val):OpV:=⟨3,r0,r0,0,0,0,v.add,v.plus,v.minus,false,0⟩
def pX (l:List Tok):RdR OpV:=match valueR l with
 |.error e=>.error e
 |.ok (v,l)=>changedR (iJ v false) 1 0 l
def operR (l:List Tok):RdR OpV :=
 if(gR l).2=true then changedR ⟨1,(gR l).1,r0,0,0,0,0,emp,emp,false,0⟩ 12 0 (l.drop 1)
 else if atF l 4 0=D7 then ig (l.drop 1)
 else if atF l 4 0=aU then pX (l.drop 1)
 else match loR l with
  |.error e=>.error e
  |.ok (true,l)=>(match valueR l with
   |.error e=>.error e
   |.ok (v,l)=>.ok (iJ v true,l))
  |.ok (false,l) =>
   if ¬atF l 1 0=emp∧fa 3 (atF l 1 0)=true then dm (atF l 1 0) l
   else match valueR l with
    |.error e=>.error e
    |.ok (v,l)=>.ok (if v.plus=emp∧v.minus=emp then iJ v false else toV v,l)
def tQ (out:List OpV)(o:OpV):Bool:=match out.getLast? with
 |some q=>fy q o
 |none=>false
def stepR (out:List OpV)(l:List Tok):RdR (List OpV) :=
 match (if out=[] then .ok l else mustR aA l) with
 |.error e=>.error e
 |.ok l=>if out.length=8 then .error 3 else match operR l with
  |.error e=>.error e
  |.ok (o,l)=>if ¬fB o=0 then .error (fB o) else if tQ out o=true then .error 100 else .ok (out++[o],l)
def gF:Nat→List OpV→List Tok→Except Int (List OpV)
 |_,out,[]=>.ok out
 |0,_,_=>.error 100
 |N+1,out,l=>match stepR out l with
  |.error e=>.error e
  |.ok (out,l)=>gF N out l
def listF (l:List Tok):Except Int (List OpV):=gF l.length [] l
end Go.Proofs.YtnhbidpdadkcjaaGreatDoor
namespace Go.Proofs.YtnhbidpdadkcjaaGreatDoor
structure RdOk (l:List Tok):Prop where
 named:Ex.Named l
 few:l.length≤1000000
theorem RdOk.drop {l:List Tok}(h:RdOk l)(n:Nat):RdOk (l.drop n) :=
 ⟨fun t ht=>h.named t (List.mem_of_mem_drop ht),by rw[length_drop];have:=h.few;omega⟩
theorem xR {l:List Tok}(h:RdOk l)(n:Nat):(atF l 1 n).size≤512:=by
 unfold atF;split
 ·rename_i t ht;split
  ·rename_i hk;have h1:=h.named t (List.mem_of_getElem? ht) hk;unfold br at h1;simp only[and_eq_true,decide_eq_true_eq]at h1;exact h1.1
  ·decide
 ·decide
theorem jl {l:List Tok}{k:Int}{n:Nat}(h:¬atF l k n=emp):n<l.length:=by
 unfold atF at h;split at h
 ·rename_i t ht;exact(List.getElem?_eq_some_iff.1 ht).1
 ·exact absurd rfl h
theorem CY {s:Ex.PS}(h1:dN s.ts=0)(h2:∀t∈s.ts,gp t=true)(h3:Ex.Rgs s.ts):Ex.GoodV (Ex.evalAll s.ts).1:=by
 unfold Ex.evalAll;rw[if_pos h1];exact Ex.goodEval s.ts [] (fun v hv=>by simp at hv) h2 h3
theorem wW {l:List Tok}(h:RdOk l):match valueR l with
  |.ok (v,r)=>Ex.GoodV v∧∃n,1≤n∧n≤l.length∧r=l.drop n
  |.error e=>e≠0:=by
 have h1:=Ex.parseF_nice h.named;unfold valueR;cases hp:Ex.parseF l with
 |error e=>rw[hp]at h1;exact h1
 |ok s =>
  rw[hp]at h1;obtain⟨g1,g2,g3,g4,g5⟩:=h1;simp only;by_cases h0:(Ex.evalAll s.ts).2=0
  ·rw[if_pos h0];exact⟨CY g1 g2 (Ex.parseF_keep hp),s.at_,g3,g4,rfl⟩
  ·rw[if_neg h0];exact h0
theorem iP {l r:List Tok}{v:Val}(h:RdOk l)(e:valueR l=.ok (v,r)):Ex.GoodV v∧RdOk r∧r.length<l.length:=by
 have h1:=wW h;rw[e]at h1;obtain⟨g,n,n1,n2,rfl⟩:=h1;exact⟨g,h.drop n,by rw[length_drop];omega⟩
theorem jw {l:List Tok}{x:Int}(h:RdOk l)(e:valueR l=.error x):x≠0:=by
 have h1:=wW h;rw[e]at h1;exact h1
theorem fG {s:ByteArray}{l r:List Tok}(hs:¬s=emp)(h:RdOk l)(e:mustR s l=.ok r):RdOk r∧r.length<l.length∧atF l 4 0=s∧r=l.drop 1:=by
 unfold mustR at e;split at e
 ·rename_i hx;injection e with e;subst e;have:=jl (l:=l) (k:=4) (n:=0) (by rw[hx];exact hs);exact⟨h.drop 1,by rw[length_drop];omega,hx,rfl⟩
 ·cases e
theorem kD {s:ByteArray}{l:List Tok}{x:Int}(e:mustR s l=.error x):x=100:=by
 unfold mustR at e;split at e
 ·cases e
 ·injection e with e;exact e.symm
theorem KP {l r:List Tok}{k:Int}(h:RdOk l)(e:countR l=.ok (k,r)):(0≤k∧k≤63)∧RdOk r∧r.length<l.length:=by
 unfold countR at e;split at e
 ·cases e
 ·rename_i l1 h1;obtain⟨g1,g2,-,-⟩:=fG (by decide) h h1;split at e
  ·cases e
  ·rename_i v l2 h2;obtain⟨g3,g4,g5⟩:=iP g1 h2;split at e
   ·rename_i hc;injection e with e;injection e with e1 e2;subst e1 e2;exact⟨⟨hc.2.1,hc.2.2⟩,g4,by omega⟩
   ·cases e
theorem GX {l:List Tok}{x:Int}(h:RdOk l)(e:countR l=.error x):x≠0:=by
 unfold countR at e;split at e
 ·rename_i y h1;injection e with e;have:=kD h1;omega
 ·rename_i l1 h1;obtain⟨g1,g2,-,-⟩:=fG (by decide) h h1;split at e
  ·rename_i y h2;injection e with e;subst e;exact jw g1 h2
  ·split at e
   ·cases e
   ·injection e with e;omega
end Go.Proofs.YtnhbidpdadkcjaaGreatDoor
namespace Go.Proofs.YtnhbidpdadkcjaaGreatDoor
theorem lP {o:OpV}{v:Val}(h:Ex.GoodV v)(h1:o.add=v.add)(h2:o.plus=v.plus)(h3:o.minus=v.minus):okO o:=by
 have h4:=Ex.goodSize h;refine⟨⟨by rw[h2];omega,by rw[h3];omega⟩,by rw[h1];exact h.lo,by rw[h1];exact h.hi⟩
theorem uk {o:OpV}(h1:o.add=0)(h2:o.plus=emp)(h3:o.minus=emp):okO o:=lP Ex.goodZero h1 h2 h3
theorem uj {o p:OpV}(h:okO p)(h1:o.add=p.add)(h2:o.plus=p.plus)(h3:o.minus=p.minus):okO o:=by
 unfold okO at *
 rw[h1,h2,h3];exact h
theorem v8 {o o':OpV}{most nn:Int}{l r:List Tok}(h:RdOk l)(e:changedR o most nn l=.ok (o',r)):RdOk r∧r.length≤l.length∧∃a b,o'={ o with md:=a,amt:=b }:=by
 unfold changedR at e;split at e
 ·injection e with e;injection e with e1 e2;subst e1 e2;exact⟨h,Nat.le_refl _,o.md,o.amt,rfl⟩
 ·split at e
  ·split at e
   ·cases e
   ·rename_i k l' hc;injection e with e;injection e with e1 e2;subst e1 e2;obtain⟨-,g1,g2⟩:=KP (h.drop 2) hc;rw[length_drop]at g2;exact⟨g1,by omega,_,_,rfl⟩
  ·injection e with e;injection e with e1 e2;subst e1 e2;exact⟨h.drop 2,by rw[length_drop];omega,_,_,rfl⟩
theorem tF {o:OpV}{most nn:Int}{l:List Tok}{x:Int}(h:RdOk l)(e:changedR o most nn l=.error x):x≠0:=by
 unfold changedR at e;split at e
 ·cases e
 ·split at e
  ·split at e
   ·rename_i y hc;injection e with e;subst e;exact GX (h.drop 2) hc
   ·cases e
  ·cases e
theorem E2 {l r:List Tok}{b:Bool}(h:RdOk l)(e:loR l=.ok (b,r)):RdOk r∧r.length≤l.length:=by
 unfold loR at e;split at e
 ·injection e with e;injection e with e1 e2;subst e2;exact⟨h,Nat.le_refl _⟩
 ·split at e
  ·cases e
  ·injection e with e;injection e with e1 e2;subst e2;exact⟨h.drop 3,by rw[length_drop];omega⟩
theorem JW {l:List Tok}{x:Int}(e:loR l=.error x):x≠0:=by
 unfold loR at e;split at e
 ·cases e
 ·split at e
  ·injection e with e;omega
  ·cases e
theorem zV {s:ByteArray}{l:List Tok}(h:RdOk l):RdOk (bc s l).2∧(bc s l).2.length≤l.length:=by
 unfold bc;split
 ·exact⟨h.drop 1,by rw[length_drop];omega⟩
 ·exact⟨h,Nat.le_refl _⟩
theorem zL {l:List Tok}(h:RdOk l):RdOk (ao l).2∧(ao l).2.length≤l.length:=by
 unfold ao;split
 ·exact⟨h.drop 1,by rw[length_drop];omega⟩
 ·exact⟨h,Nat.le_refl _⟩
theorem JR:¬aU=emp:=by decide
theorem Ol:¬dq=emp:=by decide
theorem qo:¬aA=emp:=by decide
def NiceR (l:List Tok)(r:RdR OpV):Prop:=match r with
 |.ok (o,r)=>okO o∧RdOk r∧r.length≤l.length
 |.error e=>e≠0
theorem NiceR.mono {l l':List Tok}{r:RdR OpV}(h:NiceR l r)(hl:l.length≤l'.length):NiceR l' r:=by
 unfold NiceR at *
 split at h
 ·exact⟨h.1,h.2.1,Nat.le_trans h.2.2 hl⟩
 ·exact h
theorem Lq {o:OpV}{l:List Tok}(ho:okO o)(h:RdOk l):NiceR l (AD o l):=by
 unfold AD;rcases h1:changedR o 12 (-1) l with e | ⟨o',l1⟩
 ·exact tF h h1
 ·obtain⟨g1,g2,a,b,rfl⟩:=v8 h h1;simp only;split
  ·show(100:Int)≠0;decide
  ·rcases h2:mustR dq l1 with e | l2
   ·have:=kD h2;show e≠0;omega
   ·obtain⟨g3,g4,-,-⟩:=fG Ol g1 h2;exact⟨uj ho rfl rfl rfl,g3,by omega⟩
theorem LE {o:OpV}{l:List Tok}(h:RdOk l):NiceR l (C7 o l):=by
 unfold C7;rcases h1:valueR l with e | ⟨v,l1⟩
 ·exact jw h h1
 ·obtain⟨g0,g1,g2⟩:=iP h h1;simp only;rcases h2:mustR dq l1 with e | l2
  ·have:=kD h2;show e≠0;omega
  ·obtain⟨g3,g4,-,-⟩:=fG Ol g1 h2;exact⟨lP g0 rfl rfl rfl,g3,by omega⟩
theorem Mj {o:OpV}{l:List Tok}(h:RdOk l):NiceR l (Dp o l):=by
 unfold Dp;rcases h0:mustR aU l with e | l0
 ·have:=kD h0;show e≠0;omega
 obtain⟨k0,k1,-,-⟩:=fG JR h h0;simp only;rcases h1:valueR l0 with e | ⟨v,l1⟩
 ·exact jw k0 h1
 ·obtain⟨g0,g1,g2⟩:=iP k0 h1;simp only;rcases h2:mustR dq l1 with e | l2
  ·have:=kD h2;show e≠0;omega
  ·obtain⟨g3,g4,-,-⟩:=fG Ol g1 h2;obtain⟨g5,g6⟩:=zV (s:=tB) g3;simp only;split
   ·exact⟨lP g0 rfl rfl rfl,g5,by omega⟩
   ·exact⟨lP g0 rfl rfl rfl,g3,by omega⟩
theorem CH {o:OpV}{l:List Tok}(ho:okO o)(h:RdOk l):NiceR l (iE o l):=by
 unfold iE;rcases h0:mustR aA l with e | l0
 ·have:=kD h0;show e≠0;omega
 obtain⟨k0,k1,-,-⟩:=fG qo h h0;simp only;split
 ·exact(Lq (uj (o:={ o with mode:=3,m:=(gR l0).1,md:=1,amt := -1 }) ho rfl rfl rfl) (k0.drop 1)).mono (by rw[length_drop];omega)
 ·rcases h1:loR l0 with e | ⟨b,l1⟩
  ·exact JW h1
  ·obtain⟨g1,g2⟩:=E2 k0 h1;simp only;split
   ·exact(LE g1).mono (by omega)
   ·exact(Mj g1).mono (by omega)
theorem Ih {o:OpV}{l:List Tok}(ho:okO o)(h:RdOk l):NiceR l (qR o l):=by
 unfold qR;split
 ·rcases h1:valueR (l.drop 2) with e | ⟨v,l1⟩
  ·exact jw (h.drop 2) h1
  ·obtain⟨g0,g1,g2⟩:=iP (h.drop 2) h1;rw[length_drop]at g2;exact⟨lP g0 rfl rfl rfl,g1,by omega⟩
 ·exact⟨ho,h,Nat.le_refl _⟩
theorem Db {l:List Tok}(h:RdOk l):NiceR l (ig l):=by
 obtain⟨g1,g2⟩:=zL h;obtain⟨g3,g4⟩:=zV (s:=dq) g1;have ho:okO (ly (gR l).1):=uk rfl rfl rfl;unfold ig;split
 ·show(100:Int)≠0;decide
 ·split
  ·exact(Ih ho g3).mono (by omega)
  ·exact(CH ho g1).mono (by omega)
theorem zQ {s:ByteArray}:∀{t:List (Int×Int)} {o:OpV},rsvdF s t=some o→∃kd k,(kd,k)∈t∧(ag 3 kd s).2=0∧o=lA k (ag 3 kd s).1
 |[],o,h=>by cases h
 |(kd,k)::r,o,h=>by
  rw[rsvdF]at h;split at h
  ·rename_i hc;injection h with h;exact⟨kd,k,by simp,hc,h.symm⟩
  ·obtain⟨a,b,h1,h2⟩:=zQ h;exact⟨a,b,by simp[h1],h2⟩
def Nu (l:List Tok)(r:RdR OpV):Prop:=match r with
 |.ok (o,r)=>okO o∧RdOk r∧r.length<l.length
 |.error e=>e≠0
theorem NiceR.less {l l':List Tok}{r:RdR OpV}(h:NiceR l r)(hl:l.length<l'.length):Nu l' r:=by
 unfold NiceR at h;unfold Nu;split at h
 ·exact⟨h.1,h.2.1,Nat.lt_of_le_of_lt h.2.2 hl⟩
 ·exact h
theorem rZ {o:OpV}{most nn:Int}{l:List Tok}(ho:okO o)(h:RdOk l):NiceR l (changedR o most nn l):=by
 rcases h1:changedR o most nn l with e | ⟨o',l1⟩
 ·exact tF h h1
 ·obtain⟨g1,g2,a,b,rfl⟩:=v8 h h1;exact⟨uj ho rfl rfl rfl,g1,g2⟩
theorem zI:¬(dg 3 emp).2=0:=by decide +kernel
theorem Mw {l:List Tok}(h:(gR l).2=true):1≤l.length∧(dg 3 (atF l 1 0)).2=0∧gR l=((dg 3 (atF l 1 0)).1,true):=by
 unfold gR at h ⊢;split at h
 ·rename_i hc;have:=jl (l:=l) (k:=1) (n:=0) (fun e=>zI (by rw[←e];exact hc));exact⟨by omega,hc,by rw[if_pos hc]⟩
 ·cases h
theorem zw {l:List Tok}(h:RdOk l):Nu l (operR l):=by
 have one:∀{s:ByteArray},¬s=emp→atF l 4 0=s→(l.drop 1).length<l.length:=fun hs e=>by
  have:=jl (l:=l) (k:=4) (n:=0) (by rw[e];exact hs);rw[length_drop];omega
 unfold operR;split
 ·rename_i hr;have:=(Mw hr).1;exact(rZ (uk rfl rfl rfl) (h.drop 1)).less (by rw[length_drop];omega)
 split
 ·rename_i h1;exact(Db (h.drop 1)).less (one (by decide) h1)
 split
 ·rename_i h1;unfold pX;have hl:=one JR h1;rcases hv:valueR (l.drop 1) with e | ⟨v,l1⟩
  ·exact jw (h.drop 1) hv
  ·obtain⟨g0,g1,g2⟩:=iP (h.drop 1) hv;exact(rZ (lP g0 rfl rfl rfl) g1).less (by omega)
 rcases h1:loR l with e | ⟨b,l1⟩
 ·exact JW h1
 obtain⟨g1,g2⟩:=E2 h h1;cases b with
 |true =>
  simp only;rcases hv:valueR l1 with e | ⟨v,l2⟩
  ·exact jw g1 hv
  ·obtain⟨k0,k1,k2⟩:=iP g1 hv;exact⟨lP k0 rfl rfl rfl,k1,by omega⟩
 |false =>
  simp only;split
  ·rename_i hw;unfold dm;rcases hs:rsvdF (atF l1 1 0) kp with _ | o
   ·show(100:Int)≠0;decide
   ·obtain⟨kd,k,-,-,rfl⟩:=zQ hs;have:=jl hw.1;exact⟨uk rfl rfl rfl,g1.drop 1,by rw[length_drop];omega⟩
  ·rcases hv:valueR l1 with e | ⟨v,l2⟩
   ·exact jw g1 hv
   ·obtain⟨k0,k1,k2⟩:=iP g1 hv;refine⟨?_,k1,by omega⟩;split
    ·exact lP k0 rfl rfl rfl
    ·exact lP k0 rfl rfl rfl
theorem Fp {l r:List Tok}{o:OpV}(h:RdOk l)(e:operR l=.ok (o,r)):okO o∧RdOk r∧r.length<l.length:=by
 have:=zw h;rw[e]at this;exact this
theorem Mb {l:List Tok}{x:Int}(h:RdOk l)(e:operR l=.error x):x≠0:=by
 have:=zw h;rw[e]at this;exact this
structure vR (out:List OpV):Prop where
 few:out.length≤8
 all:∀o∈out,okO o∧fB o=0
theorem Ad {out out':List OpV}{l r:List Tok}(h:RdOk l)(ho:vR out)(e:stepR out l=.ok (out',r)):vR out'∧RdOk r∧r.length<l.length∧∃o,out'=out++[o]:=by
 unfold stepR at e;split at e
 ·cases e
 ·rename_i l1 h1
  have k1:RdOk l1∧l1.length≤l.length:=by
   split at h1
   ·injection h1 with h1;subst h1;exact⟨h,Nat.le_refl _⟩
   ·obtain⟨g1,g2,-,-⟩:=fG qo h h1;exact⟨g1,by omega⟩
  split at e
  ·cases e
  ·rename_i h8;split at e
   ·cases e
   ·rename_i o l2 h2;obtain⟨g1,g2,g3⟩:=Fp k1.1 h2;split at e
    ·cases e
    ·rename_i hc;split at e
     ·cases e
     ·injection e with e;injection e with e1 e2;subst e1 e2;refine⟨⟨?_,?_⟩,g2,by omega,o,rfl⟩
      ·have:=ho.few;rw[length_append,List.length_singleton];omega
      ·intro p hp;rw[mem_append,List.mem_singleton]at hp;rcases hp with hp | rfl
       ·exact ho.all p hp
       ·exact⟨g1,Decidable.not_not.1 hc⟩
theorem MR {out:List OpV}{l:List Tok}{x:Int}(h:RdOk l)(e:stepR out l=.error x):x≠0:=by
 unfold stepR at e;split at e
 ·rename_i y h1;injection e with e;subst e;split at h1
  ·cases h1
  ·have:=kD h1;omega
 ·rename_i l1 h1
  have k1:RdOk l1:=by
   split at h1
   ·injection h1 with h1;subst h1;exact h
   ·exact(fG qo h h1).1
  split at e
  ·injection e with e;omega
  ·split at e
   ·rename_i y h2;injection e with e;subst e;exact Mb k1 h2
   ·split at e
    ·rename_i hc;injection e with e;subst e;exact hc
    ·split at e
     ·injection e with e;omega
     ·cases e
theorem jD (N:Nat)(out:List OpV):gF N out []=.ok out:=by
 cases N<;>rw[gF]
theorem gG {N:Nat}{out:List OpV}{l:List Tok}(hl:l≠[]):gF (N+1) out l=match stepR out l with
  |.error e=>.error e
  |.ok (out,l)=>gF N out l:=by
 cases l with
 |nil=>exact absurd rfl hl
 |cons t r=>rfl
theorem pF:∀{N:Nat} {out:List OpV} {l:List Tok},RdOk l→vR out→l.length≤N→gF N out l=gF l.length out l
 |0,out,l,_,_,hn=>by
  obtain rfl:l=[]:=List.eq_nil_of_length_eq_zero (by omega);rfl
 |N+1,out,[],_,_,_=>by rw[jD,jD]
 |N+1,out,t::r,h,ho,hn=>by
  rw[length_cons,gG (by simp),gG (by simp)];rcases hs:stepR out (t::r) with e | ⟨out',l'⟩
  ·rfl
  ·obtain⟨g1,g2,g3,-⟩:=Ad h ho hs;simp only;rw[length_cons]at g3 hn;rw[pF g2 g1 (by omega)];exact(pF g2 g1 (by omega)).symm
theorem BP:vR []:=⟨by simp,fun o h=>by simp at h⟩
theorem wE:∀{N:Nat} {out:List OpV} {l:List Tok} {x:Int},RdOk l→vR out→gF N out l=.error x→x≠0
 |0,out,l,x,h,ho,e=>by
  cases l with
  |nil=>rw[jD]at e;cases e
  |cons t r =>
   have e:(.error 100:Except Int (List OpV))=.error x:=e;injection e with e;omega
 |N+1,out,[],x,_,ho,e=>by rw[jD]at e;cases e
 |N+1,out,t::r,x,h,ho,e=>by
  rw[gG (by simp)]at e;rcases hs:stepR out (t::r) with y | ⟨o2,l'⟩
  ·rw[hs]at e;injection e with e;subst e;exact MR h hs
  ·rw[hs]at e;obtain⟨g1,g2,-,-⟩:=Ad h ho hs;exact wE g2 g1 e
theorem LA {l:List Tok}{x:Int}(h:RdOk l)(e:listF l=.error x):x≠0:=wE h BP e
end Go.Proofs.YtnhbidpdadkcjaaGreatDoor
namespace Go.Proofs.YtnhbidpdadkcjaaGreatDoor.Ex
theorem zl {l:List Tok}{s:PS}:nextF (l.map bare) s=nextF l s:=by
 unfold nextF;rw[getElem?_map];cases l[s.at_]?<;>rfl
theorem uz {l:List Tok}{read:PS→PR}{kinds:List Int}:∀(m:Nat) (s:PS),eE (l.map bare) read kinds m s=eE l read kinds m s
 |0,s=>rfl
 |m+1,s=>by
  simp only[eE,zl,uz m]
theorem MC {l:List Tok}{read:PS→PR}{kinds:List Int}:dU (l.map bare) read kinds=dU l read kinds:=by
 funext s;unfold dU;simp only[length_map,uz]
theorem tY {l:List Tok}{read:PS→PR}:fF (l.map bare) read=fF l read:=by
 unfold fF;simp only[MC]
theorem sc {l:List Tok}:∀N:Nat,aP (l.map bare) N=aP l N
 |0=>by funext s;rfl
 |N+1=>by
  funext s;rw[aP,aP,getElem?_map];cases l[s.at_]? with
  |none=>rfl
  |some t =>
   simp only[Option.map_some,sc N,tY,zl];rfl
theorem parseF_bare {l:List Tok}:parseF (l.map bare)=parseF l:=by
 unfold parseF;rw[length_map,tY,sc]
end Go.Proofs.YtnhbidpdadkcjaaGreatDoor.Ex
namespace Go.Proofs.YtnhbidpdadkcjaaGreatDoor
def gM {α:Type}:RdR α→RdR α
 |.ok (x,l)=>.ok (x,l.map bare)
 |.error e=>.error e
def ws:Except Int (List Tok)→Except Int (List Tok)
 |.ok l=>.ok (l.map bare)
 |.error e=>.error e
theorem gK {l:List Tok}{k:Int}{n:Nat}:atF (l.map bare) k n=atF l k n:=by
 unfold atF;rw[getElem?_map];cases l[n]?<;>rfl
theorem eA {l:List Tok}{n:Nat}:(l.map bare).drop n=(l.drop n).map bare:=(List.map_drop).symm
theorem ju {s:ByteArray}{l:List Tok}:mustR s (l.map bare)=ws (mustR s l):=by
 unfold mustR;rw[gK,eA];split<;>rfl
theorem gt {l:List Tok}:valueR (l.map bare)=gM (valueR l):=by
 unfold valueR;rw[Ex.parseF_bare];cases Ex.parseF l with
 |error e=>rfl
 |ok s =>
  simp only[eA];split<;>rfl
theorem Ed {l:List Tok}:countR (l.map bare)=gM (countR l):=by
 unfold countR;rw[ju];cases mustR aU l with
 |error e=>rfl
 |ok l1 =>
  simp only[ws,gt];rcases valueR l1 with e | ⟨v,l2⟩
  ·rfl
  ·simp only[gM];split<;>rfl
theorem nz {o:OpV}{most nn:Int}{l:List Tok}:changedR o most nn (l.map bare)=gM (changedR o most nn l):=by
 unfold changedR;simp only[gK,eA,Ed];split
 ·rfl
 ·split
  ·rcases countR (l.drop 2) with e | ⟨k,l'⟩<;>rfl
  ·rfl
theorem E0 {l:List Tok}:loR (l.map bare)=gM (loR l):=by
 unfold loR;simp only[gK,eA];split
 ·rfl
 ·split<;>rfl
theorem pG {l:List Tok}:gR (l.map bare)=gR l:=by unfold gR;rw[gK]
theorem zU {s:ByteArray}{l:List Tok}:bc s (l.map bare)=((bc s l).1,(bc s l).2.map bare):=by
 unfold bc;rw[gK,eA];split<;>rfl
theorem zK {l:List Tok}:(ao (l.map bare)).2=(ao l).2.map bare:=by
 unfold ao;rw[pG,eA];split<;>rfl
theorem Lp {o:OpV}{l:List Tok}:AD o (l.map bare)=gM (AD o l):=by
 unfold AD;rw[nz];rcases changedR o 12 (-1) l with e | ⟨o',l1⟩
 ·rfl
 ·simp only[gM,ju];split
  ·rfl
  ·rcases mustR dq l1 with e | l2<;>rfl
theorem LD {o:OpV}{l:List Tok}:C7 o (l.map bare)=gM (C7 o l):=by
 unfold C7;rw[gt];rcases valueR l with e | ⟨v,l1⟩
 ·rfl
 ·simp only[gM,ju];rcases mustR dq l1 with e | l2<;>rfl
theorem Mi {o:OpV}{l:List Tok}:Dp o (l.map bare)=gM (Dp o l):=by
 unfold Dp;rw[ju];rcases mustR aU l with e | l0
 ·rfl
 ·simp only[ws,gt];rcases valueR l0 with e | ⟨v,l1⟩
  ·rfl
  ·simp only[gM,ju];rcases mustR dq l1 with e | l2
   ·rfl
   ·simp only[ws,zU];split<;>rfl
theorem CG {o:OpV}{l:List Tok}:iE o (l.map bare)=gM (iE o l):=by
 unfold iE;rw[ju];rcases mustR aA l with e | l0
 ·rfl
 ·simp only[ws,pG,eA,Lp,E0];split
  ·rfl
  ·rcases loR l0 with e | ⟨b,l1⟩
   ·rfl
   ·simp only[gM,LD,Mi];split<;>rfl
theorem Ig {o:OpV}{l:List Tok}:qR o (l.map bare)=gM (qR o l):=by
 unfold qR;simp only[gK,eA,gt];split
 ·rcases valueR (l.drop 2) with e | ⟨v,l1⟩<;>rfl
 ·rfl
theorem Da {l:List Tok}:ig (l.map bare)=gM (ig l):=by
 unfold ig;simp only[pG,zK,zU,Ig,CG];split
 ·rfl
 ·split<;>rfl
theorem zO {s:ByteArray}{l:List Tok}:dm s (l.map bare)=gM (dm s l):=by
 unfold dm;rw[eA];cases rsvdF s kp<;>rfl
theorem Hl {l:List Tok}:pX (l.map bare)=gM (pX l):=by
 unfold pX;rw[gt];rcases valueR l with e | ⟨v,l1⟩
 ·rfl
 ·simp only[gM,nz]
theorem H7 {l:List Tok}:operR (l.map bare)=gM (operR l):=by
 unfold operR;simp only[pG,eA,nz,gK,Da,Hl,E0];split
 ·rfl
 split
 ·rfl
 split
 ·rfl
 rcases loR l with e | ⟨b,l1⟩
 ·rfl
 cases b with
 |true =>
  simp only[gM,gt];rcases valueR l1 with e | ⟨v,l2⟩<;>rfl
 |false =>
  simp only[gM,gK,zO,gt];split
  ·rfl
  ·rcases valueR l1 with e | ⟨v,l2⟩<;>rfl
theorem I4 {out:List OpV}{l:List Tok}:stepR out (l.map bare)=gM (stepR out l):=by
 unfold stepR;rw[ju];have e:(if out=[] then(.ok (l.map bare):Except Int (List Tok)) else ws (mustR aA l))=ws (if out=[] then .ok l else mustR aA l):=by split<;>rfl
 rw[e];rcases (if out=[] then .ok l else mustR aA l:Except Int (List Tok)) with e | l1
 ·rfl
 ·simp only[ws,H7];split
  ·rfl
  ·rcases operR l1 with e | ⟨o,l2⟩
   ·rfl
   ·simp only[gM];split
    ·rfl
    ·split<;>rfl
theorem uv:∀{N:Nat} {out:List OpV} {l:List Tok},gF N out (l.map bare)=gF N out l
 |N,out,[]=>rfl
 |0,out,t::r=>rfl
 |N+1,out,t::r=>by
  rw[gG (by simp),gG (by simp),I4];rcases stepR out (t::r) with e | ⟨out',l'⟩
  ·rfl
  ·exact uv
theorem Hy {l:List Tok}:listF (l.map bare)=listF l:=by
 unfold listF;rw[length_map,uv]
end Go.Proofs.YtnhbidpdadkcjaaGreatDoor
namespace Go.Proofs.YtnhbidpdadkcjaaGreatDoor.Ex
def Ends (l:List Tok)(q:Nat):Prop:=∀kinds:List Int,(∀k∈kinds,5≤k∧k≤14)→bP (nxt l q) kinds 0=0
theorem yF {s:ByteArray}(h:∀k:Int,5≤k→k≤14→s≠eF k):∀kinds:List Int,(∀k∈kinds,5≤k∧k≤14)→bP s kinds 0=0
 |[],_=>rfl
 |k::r,hk=>by
  have hk5:=hk k (mem_cons_self ..);rw[bP,if_neg,yF h r fun x hx=>hk x (mem_cons_of_mem _ hx)];rintro⟨_,e⟩;exact h k hk5.1 hk5.2 e
theorem ends_emp {l:List Tok}{q:Nat}(h:nxt l q=emp):Ends l q:=fun kinds hk=>by rw[h];exact pm _ _
theorem ends_sign {l:List Tok}{q:Nat}(h:∀k:Int,5≤k→k≤14→nxt l q≠eF k):Ends l q:=yF h
theorem sign_all {p:ByteArray→Prop}(h5:p (eF 5))(h6:p (eF 6))(h7:p (eF 7))(h8:p (eF 8))(h9:p (eF 9))(h10:p (eF 10))(h11:p (eF 11))(h12:p (eF 12))(h13:p (eF 13))(h14:p (eF 14)):∀k:Int,5≤k→k≤14→p (eF k):=by
 intro k h1 h2;have hc:k=5∨k=6∨k=7∨k=8∨k=9∨k=10∨k=11∨k=12∨k=13∨k=14:=by omega
 rcases hc with rfl | rfl | rfl | rfl | rfl | rfl | rfl | rfl | rfl | rfl<;>assumption
section
variable {l:List Tok}{read:PS→PR}{p q z:Nat}{a c:List Term}{d:Int}
theorem nK (h:Reads read p q d a)(hd:0≤d)(hs:Ends l q):Reads (fF l read) p q d a:=by
 unfold fF;exact iy (iy (iy (iy (iy (iy h hd (hs _ (by simp))) hd (hs _ (by simp))) hd (hs _ (by simp))) hd (hs _ (by simp))) hd (hs _ (by simp))) hd (hs _ (by simp))
theorem mE (h:Reads (dU l read [5,6,7]) p q 0 a)(hc:Chn l (dU l read [5,6,7]) [8,9] q z 0 c)(hs:Ends l z):Reads (fF l read) p z 0 (a++c):=by
 have upr:∀{read:PS→PR} {kinds:List Int} {x:List Term} {p:Nat},Reads read p z 0 x→(∀k∈kinds,5≤k∧k≤14)→Reads (dU l read kinds) p z 0 x:=fun h hf=>iy h (Int.le_refl _) (hs _ hf);unfold fF;exact upr (upr (upr (upr (BY h hc) (by simp)) (by simp)) (by simp)) (by simp)
theorem gQ (h:Reads read p q 0 a)(hn:Ends l q∨nxt l q=eF 8∨nxt l q=eF 9):Reads (dU l read [5,6,7]) p q 0 a:=by
 refine iy h (Int.le_refl _) ?_;rcases hn with hn | hn | hn
 ·exact hn _ (by simp)
 ·exact(yG (.inl rfl) hn).1
 ·exact(yG (.inr rfl) hn).1
theorem qm (h:Ends l q):Chn l read [8,9] q q 0 []:=.nil (h _ (by simp))
theorem jB (h:Reads (fF l (aP l l.length)) 0 q d a)(hd:d≤64)(hl:a.length≤256):parseF l=.ok ⟨q,0,a⟩:=by
 have:=h 0 [] (Int.le_refl _) (by omega) (by simpa using hl);simpa[parseF] using this
end
theorem val_readE {v:Val}(hv:ValOk v){r:List Tok}(he:Ends r 0):parseF (valT v++r)=.ok ⟨(valT v).length,0,DI v⟩:=by
 unfold valT DI;by_cases c:v.plus=emp∧v.minus=emp
 ·rw[if_pos c,if_pos c];by_cases c2:v.add<0
  ·rw[if_pos c2,if_pos c2];refine jB (l:=ax minusS::numT (-v.add)::r) (q:=2) (d:=1) ?_ (by decide) (by simp);have h1:Reads (aP (ax minusS::numT (-v.add)::r) (r.length+1)) 1 2 0 [⟨1,wrap64 (-v.add),emp⟩]:=sY (l:=ax minusS::numT (-v.add)::r) rfl rfl;have h2:=Qa (l:=ax minusS::numT (-v.add)::r) (N:=r.length+1) (p:=0) (q:=2) (Int.le_refl 0) rfl rfl (.inl ⟨rfl,rfl⟩) h1;exact nK (l:=ax minusS::numT (-v.add)::r) h2 (by decide) he
  ·rw[if_neg c2,if_neg c2];refine jB (l:=numT v.add::r) (q:=1) (d:=0) ?_ (by decide) (by simp);exact nK (l:=numT v.add::r) (sY (l:=numT v.add::r) (N:=r.length) rfl rfl) (Int.le_refl _) he
 ·rw[if_neg c,if_neg c];obtain⟨B,hB⟩:∃B,(if v.plus=emp then numT 0 else nameT v.plus)=B:=⟨_,rfl⟩;obtain⟨b,hb⟩:∃b:Term,(if v.plus=emp then⟨1,0,emp⟩ else⟨2,0,v.plus⟩)=b:=⟨_,rfl⟩;have hBB:bare B=B:=by rw[←hB];split<;>rfl
  have base:∀{l:List Tok} {N p:Nat},l[p]? = some B→Reads (aP l (N+1)) p (p+1) 0 [b]:=fun h1=>by
   rw[←hb];exact Tv h1 (by rw[hBB,←hB])
  rw[hb,hB];unfold midT tailT;by_cases em:v.minus=emp
  ·rw[if_pos em,if_pos em,nil_append,nil_append];by_cases e0:v.add=0
   ·rw[if_pos e0,if_pos e0];exact jB (l:=B::r) (q:=1) (d:=0) (nK (l:=B::r) (base (l:=B::r) (p:=0) rfl) (Int.le_refl _) he) (by decide) (by simp)
   ·rw[if_neg e0,if_neg e0];by_cases en:v.add<0
    ·rw[if_pos en,if_pos en];obtain⟨l,hl⟩:∃l,B::ax minusS::numT (-v.add)::r=l:=⟨_,rfl⟩;have n1:nxt l 1=eF 9:=by rw[←hl];rfl
     have hlen:l.length=r.length+2+1:=by rw[←hl];rfl
     have e3:Ends l 3:=by rw[←hl];exact he
     show parseF (B::ax minusS::numT (-v.add)::r)=_;rw[hl];refine jB (q:=3) (d:=0) ?_ (by decide) (by simp);rw[hlen];exact mE (gQ (base (l:=l) (p:=0) (by rw[←hl];rfl)) (.inr (.inr n1))) (pg (.inr rfl) n1 (gQ (sY (l:=l) (p:=2) (u:=numT (-v.add)) (by rw[←hl];rfl) rfl) (.inl e3)) (qm e3)) e3
    ·rw[if_neg en,if_neg en];obtain⟨l,hl⟩:∃l,B::ax plusS::numT v.add::r=l:=⟨_,rfl⟩;have n1:nxt l 1=eF 8:=by rw[←hl];rfl
     have hlen:l.length=r.length+2+1:=by rw[←hl];rfl
     have e3:Ends l 3:=by rw[←hl];exact he
     show parseF (B::ax plusS::numT v.add::r)=_;rw[hl];refine jB (q:=3) (d:=0) ?_ (by decide) (by simp);rw[hlen];exact mE (gQ (base (l:=l) (p:=0) (by rw[←hl];rfl)) (.inr (.inl n1))) (pg (.inl rfl) n1 (gQ (sY (l:=l) (p:=2) (u:=numT v.add) (by rw[←hl];rfl) rfl) (.inl e3)) (qm e3)) e3
  ·rw[if_neg em,if_neg em];by_cases e0:v.add=0
   ·rw[if_pos e0,if_pos e0];obtain⟨l,hl⟩:∃l,B::ax minusS::nameT v.minus::r=l:=⟨_,rfl⟩;have n1:nxt l 1=eF 9:=by rw[←hl];rfl
    have hlen:l.length=r.length+2+1:=by rw[←hl];rfl
    have e3:Ends l 3:=by rw[←hl];exact he
    show parseF (B::ax minusS::nameT v.minus::r)=_;rw[hl];refine jB (q:=3) (d:=0) ?_ (by decide) (by simp);rw[hlen];exact mE (gQ (base (l:=l) (p:=0) (by rw[←hl];rfl)) (.inr (.inr n1))) (pg (.inr rfl) n1 (gQ (xz (l:=l) (p:=2) (u:=nameT v.minus) (by rw[←hl];rfl) rfl) (.inl e3)) (qm e3)) e3
   ·rw[if_neg e0,if_neg e0];by_cases en:v.add<0
    ·rw[if_pos en,if_pos en];obtain⟨l,hl⟩:∃l,B::ax minusS::nameT v.minus::ax minusS::numT (-v.add)::r=l:=⟨_,rfl⟩;have n1:nxt l 1=eF 9:=by rw[←hl];rfl
     have n3:nxt l 3=eF 9:=by rw[←hl];rfl
     have hlen:l.length=r.length+4+1:=by rw[←hl];rfl
     have e3:Ends l 5:=by rw[←hl];exact he
     show parseF (B::ax minusS::nameT v.minus::ax minusS::numT (-v.add)::r)=_;rw[hl];refine jB (q:=5) (d:=0) ?_ (by decide) (by simp);rw[hlen];exact mE (gQ (base (l:=l) (p:=0) (by rw[←hl];rfl)) (.inr (.inr n1))) (pg (.inr rfl) n1 (gQ (xz (l:=l) (p:=2) (u:=nameT v.minus) (by rw[←hl];rfl) rfl) (.inr (.inr n3))) (pg (.inr rfl) n3 (gQ (sY (l:=l) (p:=4) (u:=numT (-v.add)) (by rw[←hl];rfl) rfl) (.inl e3)) (qm e3))) e3
    ·rw[if_neg en,if_neg en];obtain⟨l,hl⟩:∃l,B::ax minusS::nameT v.minus::ax plusS::numT v.add::r=l:=⟨_,rfl⟩;have n1:nxt l 1=eF 9:=by rw[←hl];rfl
     have n3:nxt l 3=eF 8:=by rw[←hl];rfl
     have hlen:l.length=r.length+4+1:=by rw[←hl];rfl
     have e3:Ends l 5:=by rw[←hl];exact he
     show parseF (B::ax minusS::nameT v.minus::ax plusS::numT v.add::r)=_;rw[hl];refine jB (q:=5) (d:=0) ?_ (by decide) (by simp);rw[hlen];exact mE (gQ (base (l:=l) (p:=0) (by rw[←hl];rfl)) (.inr (.inr n1))) (pg (.inr rfl) n1 (gQ (xz (l:=l) (p:=2) (u:=nameT v.minus) (by rw[←hl];rfl) rfl) (.inr (.inl n3))) (pg (.inl rfl) n3 (gQ (sY (l:=l) (p:=4) (u:=numT v.add) (by rw[←hl];rfl) rfl) (.inl e3)) (qm e3))) e3
end Go.Proofs.YtnhbidpdadkcjaaGreatDoor.Ex
namespace Go.Proofs.YtnhbidpdadkcjaaGreatDoor
theorem e9 {v:Val}(hv:Ex.ValOk v){r:List Tok}(he:Ex.Ends r 0):valueR (Ex.valT v++r)=.ok (v,r):=by
 unfold valueR;rw[Ex.val_readE hv he];simp only[Ex.val_eval hv,if_true,List.drop_left]
end Go.Proofs.YtnhbidpdadkcjaaGreatDoor
namespace Go.Proofs.YtnhbidpdadkcjaaGreatDoor
def Qb (r:gu):Bool:=!decide ((aJ r).2=0)||(br (aJ r).1&&decide (dg 3 (aJ r).1=(r,0))&&!decide ((ag 3 3 (aJ r).1).2=0)&&decide ((bq (aJ r).1 us).length=1))
theorem Tz:∀i:Fin 32,∀x p:Bool,Qb ⟨(i.val:Int),x,p⟩=true:=by decide +kernel
theorem B0 {r:gu}(h:(aJ r).2=0):br (aJ r).1=true∧dg 3 (aJ r).1=(r,0)∧¬(ag 3 3 (aJ r).1).2=0∧(bq (aJ r).1 us).length=1:=by
 obtain⟨n,x,p⟩:=r
 have hn:0≤n∧n≤31:=by
  unfold aJ at h;split at h
  ·cases h
  ·rename_i hc;simp only at hc;omega
 obtain⟨k,rfl⟩:=eq_ofNat_of_zero_le hn.1;have hf:=Tz ⟨k,by omega⟩ x p;simp only at hf;unfold Qb at hf;rw[decide_eq_true h]at hf;simpa[and_assoc] using hf
theorem gr {r:gu}(h:eD r=true):br (dv r)=true∧dg 3 (dv r)=(r,0)∧¬(ag 3 3 (dv r)).2=0:=by
 have h:=B0 (of_decide_eq_true h);exact⟨h.1,h.2.1,h.2.2.1⟩
theorem MA {s:ByteArray}(h:(dg 3 s).2=0):(bq s us).length=1:=by
 rcases hr:dg 3 s with ⟨r,e⟩;rw[hr]at h;simp only at h;subst h;obtain⟨-,e⟩:=FJ hr;have:=(B0 (r:=r) (by rw[e])).2.2.2
 rwa [e]at this
def nmB (k:Int)(s:ByteArray):Bool :=
 br s&&(!decide ((dg 3 s).2=0)&&((decide (k=3)||!decide ((ag 3 3 s).2=0)) &&
  ((!decide (k=4)||!decide ((ag 3 2 s).2=0)) &&
  ((!decide (k=6)||(!decide ((ag 3 2 s).2=0)&&!decide ((ag 3 4 s).2=0))) &&
  ((!decide (k=7)||(!decide ((ag 3 2 s).2=0)&&(!decide ((ag 3 4 s).2=0)&&!decide ((ag 3 6 s).2=0)))) &&
  (!decide (k=8)||(!decide ((ag 3 2 s).2=0)&&(!decide ((ag 3 4 s).2=0)&&!decide ((ag 3 7 s).2=0)))))))))
theorem nm2:(fK 2).all (fun r=>nmB 2 r.1)=true:=by decide +kernel
theorem nm3:(fK 3).all (fun r=>nmB 3 r.1)=true:=by decide +kernel
theorem nm4:(fK 4).all (fun r=>nmB 4 r.1)=true:=by decide +kernel
theorem nm6:(fK 6).all (fun r=>nmB 6 r.1)=true:=by decide +kernel
theorem nm7:(fK 7).all (fun r=>nmB 7 r.1)=true:=by decide +kernel
theorem nm8:(fK 8).all (fun r=>nmB 8 r.1)=true:=by decide +kernel
theorem aW (a b:ByteArray):aa (a++b)=aa a++aa b:=eh a b
theorem QK {s:ByteArray}(h1:s.size≤512)(h2:0<s.size)(h3:bX (bAt (aa s) 0)=true)(h4:(aa s).all wordyB=true):br s=true:=by
 have hl:(aa s).length=s.size:=ae s;unfold br;rw[Ex.nameB_nameL];unfold eK;rw[h3,decide_eq_true h1]
 have hr:bz wordyB (aa s)=(aa s).length:=pK _ _ _ (Nat.le_refl _) (fun i hi=>by
  have:=List.all_eq_true.1 h4 (bAt (aa s) i) (List.mem_of_getElem? (xj hi));exact this) (fun h=>absurd h (Nat.lt_irrefl _))
 rw[hr,hl];simp[h2]
def zB (i:Nat)(v:Int):Bool:=(aa (bK i v)).all wordyB
theorem VY:∀j:Fin 2,zB 0 (j.val:Int)=true:=by decide +kernel
theorem VZ:∀j:Fin 8,zB 1 (j.val:Int)=true:=by decide +kernel
theorem V0:∀j:Fin 16,zB 2 (j.val:Int)=true:=by decide +kernel
theorem V1:∀j:Fin 16,zB 3 (j.val:Int)=true:=by decide +kernel
theorem V2:∀j:Fin 8,zB 4 (j.val:Int)=true:=by decide +kernel
theorem Gk {n:Int}(h0:0≤n)(h1:n<32768):br (dc n)=true:=by
 have hz:=uG h0 h1
 have w0:(aa (bK 0 (n / 16384))).all wordyB=true:=by
  obtain⟨k,hk⟩:=eq_ofNat_of_zero_le (show 0≤n / 16384 by omega);rw[hk];exact VY ⟨k,by omega⟩
 have w1:(aa (bK 1 (n / 2048 % 8))).all wordyB=true:=by
  obtain⟨k,hk⟩:=eq_ofNat_of_zero_le (show 0≤n / 2048 % 8 by omega);rw[hk];exact VZ ⟨k,by omega⟩
 have w2:(aa (bK 2 (n / 128 % 16))).all wordyB=true:=by
  obtain⟨k,hk⟩:=eq_ofNat_of_zero_le (show 0≤n / 128 % 16 by omega);rw[hk];exact V0 ⟨k,by omega⟩
 have w3:(aa (bK 3 (n / 8 % 16))).all wordyB=true:=by
  obtain⟨k,hk⟩:=eq_ofNat_of_zero_le (show 0≤n / 8 % 16 by omega);rw[hk];exact V1 ⟨k,by omega⟩
 have w4:(aa (bK 4 (n % 8))).all wordyB=true:=by
  obtain⟨k,hk⟩:=eq_ofNat_of_zero_le (show 0≤n % 8 by omega);rw[hk];exact V2 ⟨k,by omega⟩
 have wu:(aa us).all wordyB=true:=by decide +kernel
 have e:aa (dc n)=115::(aa (de (n / 16384+2))++(aa us++(aa (bK 1 (n / 2048 % 8))++aa us++(aa (bK 2 (n / 128 % 16))++aa us++(aa (bK 3 (n / 8 % 16))++aa us++aa (bK 4 (n % 8))))))):=by
  rw[kS,show bK 0 (n / 16384)=s1++de (n / 16384+2) from rfl];simp only[aW,show aa s1=[115] from rfl,append_assoc,cons_append,nil_append]
 refine QK (by omega) ?_ ?_ ?_
 ·have:=congrArg List.length e;rw[ae,length_cons]at this;omega
 ·rw[e];rfl
 ·rw[kS];simp only[aW,List.all_append,w0,w1,w2,w3,w4,wu,Bool.and_self]
theorem ZH:∀k:Fin 9,k.val≠6→(fK (k.val:Int)).all (fun r=>decide ((bq r.1 us).length≠5))=true:=by decide +kernel
theorem Dh {k:Int}(hk:k=2∨k=3∨k=4){s:ByteArray}(hs:(bq s us).length=5):¬(ag 3 k s).2=0:=by
 have ha:fN k s=s:=by
  unfold fN;rw[if_neg,if_neg]
  ·rintro⟨-,rfl⟩;revert hs;decide +kernel
  ·rintro⟨-,rfl⟩;revert hs;decide +kernel
 unfold ag;rw[nG,ha];cases hn:ii (fK k) s with
 |none =>
  simp only;rw[nG]
  decide
 |some m =>
  exfalso;have hm:=rD hn;obtain⟨j,rfl⟩:=eq_ofNat_of_zero_le (show 0≤k by omega);have:=List.all_eq_true.1 (ZH ⟨j,by omega⟩ (by simp only;omega)) _ hm;simp[hs]at this
theorem VP {n:Int}(h0:0≤n)(h1:n<32768):nmB 6 (dc n)=true:=by
 have h5:(bq (dc n) us).length=5:=by rw[nQ h0 h1];rfl
 have hr:¬(dg 3 (dc n)).2=0:=fun h=>by have:=MA h;omega
 unfold nmB;rw[Gk h0 h1,decide_eq_false hr,decide_eq_false (Dh (.inr (.inl rfl)) h5),decide_eq_false (Dh (.inl rfl) h5),decide_eq_false (Dh (.inr (.inr rfl)) h5)];simp
theorem VO {k n:Int}(hk:k=2∨k=3∨k=4∨k=6∨k=7∨k=8)(h:(an k n).2=0):nmB k (an k n).1=true:=by
 have h2:=h;unfold an at h2 ⊢;rw[nG]at h2 ⊢;cases hn:j8 (fK k) n with
 |some s =>
  have hm:=py hn;simp only;rcases hk with rfl | rfl | rfl | rfl | rfl | rfl
  ·exact List.all_eq_true.1 nm2 _ hm
  ·exact List.all_eq_true.1 nm3 _ hm
  ·exact List.all_eq_true.1 nm4 _ hm
  ·exact List.all_eq_true.1 nm6 _ hm
  ·exact List.all_eq_true.1 nm7 _ hm
  ·exact List.all_eq_true.1 nm8 _ hm
 |none =>
  rw[hn]at h2;simp only at h2 ⊢;split at h2
  ·rename_i hc;rw[if_pos hc];obtain⟨rfl,h0,h1⟩:=hc;exact VP h0 h1
  ·cases h2
theorem i6 {k n:Int}(hk:k=2∨k=3∨k=4∨k=6∨k=7∨k=8)(h:(an k n).2=0) :
  br (an k n).1=true∧¬(dg 3 (an k n).1).2=0∧(¬k=3→¬(ag 3 3 (an k n).1).2=0)∧(k=4→¬(ag 3 2 (an k n).1).2=0) ∧
  (k=6→¬(ag 3 2 (an k n).1).2=0∧¬(ag 3 4 (an k n).1).2=0) ∧
  (k=7→¬(ag 3 2 (an k n).1).2=0∧¬(ag 3 4 (an k n).1).2=0∧¬(ag 3 6 (an k n).1).2=0) ∧
  (k=8→¬(ag 3 2 (an k n).1).2=0∧¬(ag 3 4 (an k n).1).2=0∧¬(ag 3 7 (an k n).1).2=0):=by
 have hB:=VO hk h;unfold nmB at hB;simp only[and_eq_true,Bool.or_eq_true,decide_eq_true_eq,Bool.not_eq_true',decide_eq_false_iff_not]at hB;obtain⟨b1,b2,b3,b4,b5,b6,b7⟩:=hB;exact⟨b1,b2,fun h=>b3.resolve_left h,fun h=>b4.resolve_left (not_not_intro h),fun h=>b5.resolve_left (not_not_intro h),fun h=>b6.resolve_left (not_not_intro h),fun h=>b7.resolve_left (not_not_intro h)⟩
theorem li {k n:Int}(h:(an k n).2=0):ag 3 k (an k n).1=(n,0):=(there (show an k n=((an k n).1,0) by rw[←h])).1
theorem ui {k n:Int}(hk:1≤k∧k≤8)(h:(an k n).2=0):fa 3 (an k n).1=true:=DL hk (li h)
theorem Ah {s:ByteArray}(h:br s=true):¬s=emp:=fun e=>by rw[e]at h;revert h;decide +kernel
theorem HO {s:ByteArray}(h:fa 3 s=false):¬(dg 3 s).2=0:=fun h2=>by
 have:ag 3 1 s=(nI (dg 3 s).1,0):=by unfold ag;rw[if_pos rfl,if_pos h2]
 rw[DL (by decide) this]at h;cases h
theorem HN {s:ByteArray}(h:fa 3 s=false):¬(ag 3 3 s).2=0:=fun h2=>by
 have:ag 3 3 s=((ag 3 3 s).1,0):=by rw[←h2]
 rw[DL (by decide) this]at h;cases h
end Go.Proofs.YtnhbidpdadkcjaaGreatDoor
namespace Go.Proofs.YtnhbidpdadkcjaaGreatDoor
def aloneM (o:OpV):Bool:=(o.kind==5)&&((o.mode==0)&&((decide (o.add=0)&&(decide (o.plus=emp)&&decide (o.minus=emp)))&&!o.lo))
theorem Lj {s:ByteArray}(h:0<s.size):bS s aU=(ab s 0==35):=by
 have e:aU=aj [35]:=rfl;have h1:=qp s 35 ⟨by decide,by decide⟩;rw[←e]at h1;unfold jR at h1;cases hp:bS s aU
 ·rw[hp,if_neg (by decide)]at h1;by_cases hb:ab s 0=35
  ·rw[if_pos ⟨h,hb⟩]at h1;cases (congrArg Prod.snd h1)
  ·rw[beq_eq_false_iff_ne.2 hb]
 ·rw[hp,if_pos rfl]at h1;by_cases hb:ab s 0=35
  ·rw[hb];rfl
  ·rw[if_neg (fun h=>hb h.2)]at h1;cases (congrArg Prod.snd h1)
theorem N6:∀(f n:Nat),0<f→0<(Ex.decG f n).length
 |0,n,h=>absurd h (Nat.not_lt_zero _)
 |f+1,n,_=>by
  rw[Ex.decG];split
  ·simp
  ·rw[length_append];simp
theorem N7 (n:Nat):0<(Ex.decS n).size:=by
 show 0<(Ex.decG 20 n).toArray.size;rw[List.size_toArray];exact N6 20 n (by decide)
theorem oL (n:Int):0<(Ex.signS n).size:=by
 unfold Ex.signS;have h4:(⟨#[43]⟩:ByteArray).size=1:=rfl;have h5:(⟨#[45]⟩:ByteArray).size=1:=rfl;split<;>rw[ByteArray.size_append]<;>omega
theorem Ii {v:Val}(h:(Ex.printF v).2=0):0<(Ex.printF v).1.size:=by
 have h1:=N7 v.add.toNat;have h2:=oL v.add;have h4:(⟨#[48]⟩:ByteArray).size=1:=rfl;have h5:(⟨#[45]⟩:ByteArray).size=1:=rfl;unfold Ex.printF at h ⊢;split at h
 ·cases h
 rename_i c1;rw[if_neg c1];split at h
 ·cases h
 rename_i c2;rw[if_neg c2];by_cases c3:v.plus=emp∧v.minus=emp
 ·rw[if_pos c3];split<;>assumption
 ·rw[if_neg c3];by_cases p:v.plus=emp
  ·have m:¬v.minus=emp:=fun m=>c3 ⟨p,m⟩;simp only[p,m,if_true,if_false];split<;>simp only[ByteArray.size_append]<;>omega
  ·have hp:0<v.plus.size:=lm p;simp only[p,if_false]
   repeat' split
   all_goals try simp only[ByteArray.size_append]
   all_goals omega
theorem uw {r:gu}(h:(aJ r).2=0):0<(aJ r).1.size:=by
 unfold aJ at h ⊢;by_cases c:r.n<0∨31<r.n∨(r.sp=true∧¬r.n=31)
 ·rw[if_pos c]at h;cases h
 ·rw[if_neg c]
  repeat' split
  all_goals first
   |decide
   |(simp only[ByteArray.size_append];first | (have:xS.size=1:=rfl;omega) | (have:wS.size=1:=rfl;omega))
theorem Ua:∀k:Fin 9,(fK (k.val:Int)).all (fun r=>decide (0<r.1.size))=true:=by decide +kernel
theorem LN {k n:Int}(h:(an k n).2=0):0<(an k n).1.size:=by
 unfold an at h ⊢;by_cases k1:k=1
 ·rw[if_pos k1]at h ⊢;split at h
  ·cases h
  rename_i c;rw[if_neg c];exact uw h
 rw[if_neg k1]at h ⊢;split at h
 ·rename_i s hs;have hm:=py hs;have hk:=(Ja hm).1;have:=Ua ⟨k.toNat,by omega⟩;rw[show(((⟨k.toNat,by omega⟩:Fin 9).val:Nat):Int)=k by simp only;omega,List.all_eq_true]at this;have:=this _ hm;rw[decide_eq_true_eq]at this;exact this
 ·rename_i hs;split at h
  ·rename_i c;rw[if_pos c];unfold dc;simp only[ByteArray.size_append];have:s1.size=1:=rfl;omega
  ·cases h
theorem LI (o:OpV):0<(ir o).size:=by
 have f1:brS.size=1:=rfl;unfold ir
 repeat' split
 all_goals simp only[ByteArray.size_append]
 all_goals omega
theorem Fb (k n:Int):0<(dS k n).size:=by
 unfold dS;split
 ·rename_i h;exact LN h
 ·have f1:aU.size=1:=rfl;simp only[ByteArray.size_append];omega
theorem M4 {o:OpV}(hc:fB o=0):0<(aS o).size:=by
 obtain⟨hf,hp,-⟩:=cW hc;obtain⟨-,hk⟩:=cJ hf;have h1:aU.size=1:=rfl;have h2:E3.size=6:=rfl;have g:=fun k=>Fb k o.n;have hv:0<(mN o).size:=Ii hp
 have hl:0<(lB o).size:=by
  unfold lB;split<;>simp only[ByteArray.size_append]<;>omega
 unfold aS;by_cases k1:o.kind=1
 ·rw[if_pos k1,ByteArray.size_append]
  have hr:eD o.r=true:=by
   rcases hk with h | h | h | h | h
   ·exact h.2.1
   ·omega
   ·omega
   ·omega
   ·omega
  have:0<(dv o.r).size:=uw (by unfold eD at hr;simpa using hr);omega
 rw[if_neg k1];split
 ·rw[ByteArray.size_append];omega
 split
 ·split
  ·rw[ByteArray.size_append];omega
  ·exact hv
 split
 ·exact g _
 split
 ·exact g _
 split
 ·exact g _
 split
 ·exact g _
 split
 ·exact g _
 ·exact LI o
theorem uP (s:ByteArray):fC s=s.data.toList.contains 44:=by
 unfold fC;exact(Lib.contains_iff_indexByte _ _).symm
theorem bU (a b:ByteArray):fC (a++b)=(fC a||fC b):=by
 rw[uP,uP,uP];simp[ByteArray.data_append,Array.toList_append]
theorem KO {r:gu}(h:eD r=true):fC (dv r)=false:=by
 have key:∀i:Fin 32,∀x p:Bool,fC (dv ⟨(i.val:Int),x,p⟩)=false:=by decide +kernel
 have hn:0≤r.n∧r.n≤31:=by
  unfold eD aJ at h;by_cases c:r.n<0∨31<r.n∨(r.sp=true∧¬r.n=31)
  ·rw[if_pos c]at h;cases h
  ·omega
 have:=key ⟨r.n.toNat,by omega⟩ r.x r.sp
 rwa [show(((⟨r.n.toNat,by omega⟩:Fin 32).val:Nat):Int)=r.n by simp only;omega]at this
theorem GV {o:OpV}(hm:ff o=true)(hk:o.kind=5):(!fC (ir o))=aloneM o:=by
 obtain⟨h1,-,h3⟩:=ot hm;have hr:=KO h1;have c1:fC dR=true:=by decide +kernel
 have c2:fC Om=true:=by decide +kernel
 have c3:fC brS=false:=by decide +kernel
 have c4:fC ekS=false:=by decide +kernel
 unfold ir aloneM;rw[hk];by_cases e1:o.mode=1
 ·rw[if_pos e1,bU,bU,bU,bU,c1,e1];simp
 rw[if_neg e1];by_cases e2:o.mode=2
 ·rw[if_pos e2,bU,bU,bU,c2,e2];simp
 rw[if_neg e2];by_cases e3:o.mode=3
 ·rw[if_pos e3,e3];split
  ·rw[bU,bU,bU,bU,c1];simp
  ·rw[bU,bU,bU,bU,bU,c1];simp
 rw[if_neg e3]
 have e0:o.mode=0:=by
  rcases h3 with h | h | h | h
  ·exact h
  ·exact absurd h e1
  ·exact absurd h e2
  ·exact absurd h.1 e3
 rw[e0];split
 ·rename_i h;rw[bU,bU,c3,hr,c4,decide_eq_true h.1.1,decide_eq_true h.1.2.1,decide_eq_true h.1.2.2,h.2];rfl
 ·rename_i h;rw[bU,bU,bU,bU,c1];simp only[Bool.or_true,Bool.true_or,Bool.not_true];by_cases a1:o.add=0
  ·by_cases a2:o.plus=emp
   ·by_cases a3:o.minus=emp
    ·have a4:o.lo=true:=by
      cases hl:o.lo
      ·exact absurd ⟨⟨a1,a2,a3⟩,hl⟩ h
      ·rfl
     rw[a4];simp
    ·rw[decide_eq_false a3];simp
   ·rw[decide_eq_false a2];simp
  ·rw[decide_eq_false a1];simp
theorem xX {a b:OpV}(hca:fB a=0)(hcb:fB b=0):fy a b=(aloneM a&&(ab (aS b) 0==35)):=by
 unfold fy;rw[Lj (M4 hcb)];by_cases k5:a.kind=5
 ·obtain⟨hf,-,-⟩:=cW hca;obtain⟨-,hk⟩:=cJ hf
  have hm:ff a=true:=by
   rcases hk with h | h | h | h | h
   ·omega
   ·omega
   ·omega
   ·omega
   ·exact h.2
  have eT:aS a=ir a:=by
   unfold aS;rw[nG,nG,nG,nG,nG,nG,nG,nG]
  rw[eT,GV hm k5,k5];cases aloneM a<;>cases (ab (aS b) 0==35)<;>rfl
 ·have e:aloneM a=false:=by unfold aloneM;rw[beq_eq_false_iff_ne.2 k5];rfl
  rw[e,beq_eq_false_iff_ne.2 k5];simp
end Go.Proofs.YtnhbidpdadkcjaaGreatDoor
namespace Go.Proofs.YtnhbidpdadkcjaaGreatDoor
open Ex (ax nameT valT txtL ValOk qX)
def bp:List (Bool×Tok)→List Int
 |[]=>[]
 |(b,t)::r=>(if b=true then[32] else[])++(txtL t++bp r)
theorem gW:∀a b:List (Bool×Tok),bp (a++b)=bp a++bp b
 |[],b=>rfl
 |(x,t)::a,b=>by
  rw[cons_append,bp,bp,gW a b,append_assoc,append_assoc]
def di:Option Tok→List (Bool×Tok)→Prop
 |_,[]=>True
 |p,(b,t)::r=>(b=true∨qX p t=false)∧di (some t) r
def iS (l:List (Bool×Tok)):Prop:=∀u∈l,cN u.2=0∧0≤u.2.n∧u.2.n<18446744073709551616
theorem iO {a b:List (Bool×Tok)}(ha:iS a)(hb:iS b):iS (a++b):=fun u hu=>(List.mem_append.1 hu).elim (ha u) (hb u)
theorem aK {x:Bool×Tok}{b:List (Bool×Tok)}(ha:cN x.2=0∧0≤x.2.n∧x.2.n<18446744073709551616)(hb:iS b):iS (x::b):=fun u hu=>by
 rcases List.mem_cons.1 hu with rfl | hu
 ·exact ha
 ·exact hb u hu
theorem db:iS []:=fun u hu=>by cases hu
theorem DZ {t:Tok}{r:List (Bool×Tok)}(hf:di (some t) r)(hr:iS r):Ex.After t (bp r):=by
 cases r with
 |nil=>exact⟨fun _=>.inl rfl,fun _ h=>by simp[bp]at h⟩
 |cons u r =>
  obtain⟨b,u⟩:=u;obtain⟨hu,hn,-⟩:=hr (b,u) (mem_cons_self ..);unfold bp;obtain⟨hs,-⟩:=hf;cases b with
  |true =>
   rw[if_pos rfl];exact⟨fun _=>.inr rfl,fun _ h=>absurd h.2 (by show ¬(32:Int)=47;decide)⟩
  |false =>
   have hap:Ex.apartF t u=false:=hs.resolve_left (by simp);rw[if_neg (by simp),nil_append];obtain⟨q0,q1,q2,q3,q4⟩:=Ex.txt_head hu hn (bp r);unfold Ex.apartF at hap;simp only[Bool.or_eq_false_iff,Bool.and_eq_false_iff]at hap;refine⟨fun hw=>.inr ?_,fun hsl h=>?_⟩
   ·rw[q1];cases hwy:wordyB (bAt (txtL u) 0) with
    |false=>rfl
    |true =>
     have:=q3 hwy;rw[hw,this]at hap;simp at hap
   ·have:=q4 (q1▸h.2);rw[hsl,this]at hap;simp at hap
theorem wH:∀{l:List (Bool×Tok)} (p:Option Tok) (q:Nat),iS l→di p l →
  ∃ts,bg q (bp l)=(ts,q+(bp l).length,0)∧ts.map bare=l.map fun u=>bare u.2
 |[],p,q,_,_=>⟨[],gJ rfl,rfl⟩
 |(b,t)::r,p,q,h,hf=>by
  obtain⟨c1,c2,c3⟩:=h (b,t) (mem_cons_self ..);have hr:iS r:=fun u hu=>h u (mem_cons_of_mem _ hu);have hA:=DZ hf.2 hr;obtain⟨t0,o1,o2,o3,o4⟩:=Ex.one_text c1 c2 c3 hA
  have main:∀q:Nat,∃ts,bg q (txtL t++bp r)=(ts,q+(txtL t++bp r).length,0)∧ts.map bare=((b,t)::r).map fun u=>bare u.2:=by
   intro q;obtain⟨ts,i1,i2⟩:=wH (some t) (q+(txtL t).length) hr hf.2;have hk:=tf o4 o3 o1 q;rw[List.drop_left,i1]at hk;refine⟨{ t0 with pos:=(q:Int) }::ts,?_,?_⟩
   ·rw[hk,length_append,Nat.add_assoc]
   ·rw[map_cons,map_cons,i2,←o2];rfl
  unfold bp;cases b with
  |true =>
   rw[if_pos rfl];obtain⟨ts,m1,m2⟩:=main (q+1);refine⟨ts,?_,m2⟩;rw[je (bs:=[32]) (by intro c hc;simp at hc;subst hc;rfl)];show bg (q+1) _=_;rw[m1];simp only[length_append,length_cons,List.length_nil];congr 2;omega
  |false =>
   rw[if_neg (by simp),nil_append];exact main q
def sg (s:ByteArray):Bool×Tok:=(false,ax s)
def jv (s:ByteArray):Prop:=cN (ax s)=0∧s≠⟨#[47]⟩
theorem cf:jv aA:=⟨by decide +kernel,by decide⟩
theorem gH:jv aU:=⟨by decide +kernel,by decide⟩
theorem gT:jv aO:=⟨by decide +kernel,by decide⟩
theorem J7:jv D7:=⟨by decide +kernel,by decide⟩
theorem oN:jv dq:=⟨by decide +kernel,by decide⟩
theorem DC:jv tB:=⟨by decide +kernel,by decide⟩
theorem dC {s:ByteArray}(h:jv s)(r:List (Bool×Tok)):bp (sg s::r)=aa s++bp r:=by
 rw[sg,bp,if_neg (by simp),nil_append,Ex.txt_sgn h.1]
theorem rH {s:ByteArray}(h:br s=true)(b:Bool)(r:List (Bool×Tok)):bp ((b,nameT s)::r)=(if b=true then[32] else[])++(aa s++bp r):=by
 rw[bp,Ex.txt_name h]
theorem ux {s:ByteArray}(h:br s=true)(r:List (Bool×Tok)):bp ((false,nameT s)::r)=aa s++bp r:=rH h false r
theorem Qd {s:ByteArray}(h:br s=true)(r:List (Bool×Tok)):bp ((true,nameT s)::r)=32::(aa s++bp r):=rH h true r
theorem Qe {s:ByteArray}(h:jv s)(r:List (Bool×Tok)):bp ((true,ax s)::r)=32::(aa s++bp r):=by
 rw[bp,Ex.txt_sgn h.1];rfl
theorem FM {n:Int}(h:0≤n)(h2:n<18446744073709551616)(r:List (Bool×Tok)):bp ((false,Ex.numT n)::r)=aa (ng n)++bp r:=by
 obtain⟨k,rfl⟩:=eq_ofNat_of_zero_le h;rw[bp,if_neg (by simp),nil_append,Ex.txt_num h,←Ex.decS_dL (by omega)];rfl
theorem dE {s:ByteArray}(h:jv s):cN (sg s).2=0∧0≤(sg s).2.n∧(sg s).2.n<18446744073709551616:=⟨h.1,by show(0:Int)≤0;decide,by show(0:Int)<_;decide⟩
theorem QH {s:ByteArray}(h:jv s):cN (true,ax s).2=0∧0≤(true,ax s).2.n∧(true,ax s).2.n<18446744073709551616:=dE h
theorem lS {s:ByteArray}(h:br s=true)(b:Bool):cN (b,nameT s).2=0∧0≤(b,nameT s).2.n∧(b,nameT s).2.n<18446744073709551616:=⟨Ex.check_name h,by show(0:Int)≤0;decide,by show(0:Int)<_;decide⟩
theorem Gf {n:Int}(h:0≤n)(h2:n<18446744073709551616):cN (false,Ex.numT n).2=0∧0≤(false,Ex.numT n).2.n∧(false,Ex.numT n).2.n<18446744073709551616:=⟨Ex.check_num n,h,h2⟩
theorem TU (p:Option Tok){s:ByteArray}(h:jv s):qX p (ax s)=false:=by
 cases p with
 |none=>rfl
 |some t=>exact Ex.sep_sgn t h.2
theorem dB {p:Option Tok}{s:ByteArray}{r:List (Bool×Tok)}(h:jv s)(hr:di (some (ax s)) r):di p (sg s::r):=⟨.inr (TU p h),hr⟩
theorem jz {s:ByteArray}{b:Bool}{t:Tok}{r:List (Bool×Tok)}(h:jv s)(hr:di (some t) r):di (some (ax s)) ((b,t)::r):=⟨.inr (Ex.sgn_sep t h.2),hr⟩
theorem ry {p:Option Tok}{t:Tok}{r:List (Bool×Tok)}(hr:di (some t) r):di p ((true,t)::r):=⟨.inl rfl,hr⟩
def nS (v:Val):List (Bool×Tok):=(valT v).map fun t=>(false,t)
theorem oO:jv Ex.minusS:=⟨Ex.sgnM,Ex.minus_ne⟩
theorem J8:jv Ex.plusS:=⟨Ex.sgnP,Ex.plus_ne⟩
theorem og {p:Option Tok}(hp:∀t,qX p t=false){r:List (Bool×Tok)}(hr:∀u,di (some u) r)(v:Val):di p (nS v++r):=by
 have first:∀{t:Tok} {r:List (Bool×Tok)},di (some t) r→di p ((false,t)::r):=fun h=>⟨.inr (hp _),h⟩
 have tail:∀t:Tok,di (some t) ((Ex.tailT v.add).map (fun t=>(false,t))++r):=fun t=>by
  unfold Ex.tailT;split
  ·exact hr t
  ·split
   ·exact dB oO (jz oO (hr _))
   ·exact dB J8 (jz J8 (hr _))
 unfold nS valT;split
 ·split
  ·exact dB oO (jz oO (hr _))
  ·exact first (hr _)
 ·rw[map_cons,cons_append,map_append,append_assoc];refine first ?_;unfold Ex.midT;by_cases hm:v.minus=emp
  ·rw[if_pos hm];exact tail _
  ·rw[if_neg hm];exact dB oO (jz oO (tail _))
theorem B2:∀{l:List Tok} {p:Option Tok},di p (l.map fun t=>(false,t))→Ex.rendL p l=bp (l.map fun t=>(false,t))
 |[],p,_=>rfl
 |t::r,p,h=>by
  have hs:qX p t=false:=h.1.resolve_left (by simp);rw[Ex.rendL,map_cons,bp,B2 h.2,hs]
theorem zN {v:Val}(h:(Ex.printF v).2=0)(hv:ValOk v):bp (nS v)=aa (Ex.printF v).1:=by
 have e:=Ex.val_rend (v:=v) (s:=(Ex.printF v).1) (by rw[←h]) hv;rw[e];have:=og (p:=none) (fun t=>rfl) (r:=[]) (fun u=>trivial) v;rw[append_nil]at this;exact(B2 this).symm
theorem qZ {v:Val}(hv:ValOk v):iS (nS v):=fun u hu=>by
 obtain⟨t,ht,rfl⟩:=List.mem_map.1 hu;exact Ex.val_toks hv t ht
def spB:List (Bool×Tok)→List (Bool×Tok)
 |[]=>[]
 |(_,t)::r=>(true,t)::r
theorem TW {a b:List (Bool×Tok)}(h:a≠[]):spB (a++b)=spB a++b:=by
 cases a with
 |nil=>exact absurd rfl h
 |cons x a=>rfl
theorem xB {l:List (Bool×Tok)}{t:Tok}{r:List (Bool×Tok)}(h:l=(false,t)::r):bp (spB l)=32::bp l:=by
 rw[h,spB,bp,bp];rfl
theorem xF {l:List (Bool×Tok)}(h:iS l):iS (spB l):=by
 cases l with
 |nil=>exact h
 |cons x l=>exact aK (h x (mem_cons_self ..)) fun u hu=>h u (mem_cons_of_mem _ hu)
theorem xp {p q:Option Tok}{l:List (Bool×Tok)}(h:di p l):di q (spB l):=by
 cases l with
 |nil=>trivial
 |cons x l=>exact⟨.inl rfl,h.2⟩
theorem pU (l:List (Bool×Tok)):(spB l).map (·.2)=l.map (·.2):=by
 cases l<;>rfl
def iV (o:OpV):List (Bool×Tok):=if o.lo=true then sg aO::(false,nameT mr)::sg aO::nS o.val else sg aU::nS o.val
def uc (o:OpV)(silent:Bool):List (Bool×Tok):=if o.md=0 then[] else if silent=true then[sg aA,(true,nameT (an 3 o.md).1)] else[sg aA,(true,nameT (an 3 o.md).1),(true,ax aU),(false,Ex.numT o.amt)]
def gC (kd n:Int):List (Bool×Tok):=if(an kd n).2=0 then[(false,nameT (an kd n).1)] else[sg aU,(false,Ex.numT n)]
def zc (o:OpV):List (Bool×Tok):=sg D7::(false,nameT (dv o.r)) ::
 (
  if o.mode=1 then sg aA::(spB (iV o)++[sg dq,sg tB])
  else if o.mode=2 then sg dq::sg aA::spB (iV o)
  else if o.mode=3 then sg aA::(true,nameT (dv o.m))::((if o.md=1∧o.amt = -1 then[] else uc o (o.amt == -1))++[sg dq])
  else if(o.add=0∧o.plus=emp∧o.minus=emp)∧o.lo=false then[sg dq]
  else sg aA::(spB (iV o)++[sg dq]))
def ij (o:OpV):List (Bool×Tok) :=
 if o.kind=1 then(false,nameT (dv o.r))::uc o (decide (5≤o.md)&&decide (o.amt=0))
 else if o.kind=2 then iV o++uc o false
 else if o.kind=3 then(if oZ o=true then sg aU::nS o.val else nS o.val)
 else if o.kind=4 then gC 2 o.n
 else if o.kind=6 then gC 6 o.n
 else if o.kind=7 then gC 4 o.n
 else if o.kind=8 then gC 7 o.n
 else if o.kind=9 then gC 8 o.n
 else zc o
theorem EZ:br mr=true:=by decide +kernel
theorem tz:aa dR=[44,32]:=rfl
theorem lK:aa aA=[44]:=rfl
theorem Va:aa aU=[35]:=rfl
theorem Sg:aa Dz=[32,35]:=rfl
theorem Y8:aa aO=[58]:=rfl
theorem KH:aa brS=[91]:=rfl
theorem A9:aa D7=[91]:=rfl
theorem Sf:aa ekS=[93]:=rfl
theorem Ba:aa dq=[93]:=rfl
theorem XC:aa SH=[93,33]:=rfl
theorem XD:aa Om=[93,44,32]:=rfl
theorem NQ:aa tB=[33]:=rfl
theorem b_lo:aa E3=[58,108,111,49,50,58]:=rfl
theorem Ze:aa mr=[108,111,49,50]:=rfl
theorem za (o:OpV):∃t r,iV o=(false,t)::r:=by
 unfold iV;split
 ·exact⟨_,_,rfl⟩
 ·exact⟨_,_,rfl⟩
theorem FL {o:OpV}(h:(prO o).2=0)(hv:ValOk o.val):bp (iV o)=aa (lB o):=by
 have e:bp (nS o.val)=aa (mN o):=zN h hv;unfold iV lB;split
 ·rw[dC gT,rH EZ,dC gT,e,aW];rfl
 ·rw[dC gH,e,aW]
theorem Ge {o:OpV}(hv:ValOk o.val):iS (iV o):=by
 unfold iV;split
 ·exact aK (dE gT) (aK (lS EZ _) (aK (dE gT) (qZ hv)))
 ·exact aK (dE gH) (qZ hv)
theorem EE {p:Option Tok}{r:List (Bool×Tok)}(hr:∀u,di (some u) r)(o:OpV):di p (iV o++r):=by
 unfold iV;split
 ·exact dB gT (jz gT (dB gT (og (fun t=>Ex.sgn_sep t gT.2) hr _)))
 ·exact dB gH (og (fun t=>Ex.sgn_sep t gH.2) hr _)
def JY (o:OpV):Prop:=o.md=0∨(an 3 o.md).2=0
theorem zM {o:OpV}{s:Bool}(h:JY o)(ha:s=true∨0≤o.amt∧o.amt<100):bp (uc o s)=aa (mw o s):=by
 unfold uc mw;split
 ·rfl
 ·rename_i hm;have hn:=h.resolve_left hm;have hs:=(i6 (.inr (.inl rfl)) hn).1;split
  ·rw[dC cf,rH hs,aW,tz,lK,bp,append_nil];rfl
  ·rename_i hx;obtain⟨a0,a1⟩:=ha.resolve_left (by simpa using hx);rw[dC cf,rH hs,Qe gH,FM a0 (by omega),aW,aW,aW,tz,lK,Sg,Va,bp,append_nil];simp
theorem Af {o:OpV}{s:Bool}(h:JY o)(ha:s=true∨0≤o.amt∧o.amt<100):iS (uc o s):=by
 unfold uc;split
 ·exact db
 ·rename_i hm;have hs:=(i6 (.inr (.inl rfl)) (h.resolve_left hm)).1;split
  ·exact aK (dE cf) (aK (lS hs _) db)
  ·rename_i hx;obtain⟨a0,a1⟩:=ha.resolve_left (by simpa using hx);exact aK (dE cf) (aK (lS hs _) (aK (QH gH) (aK (Gf a0 (by omega)) db)))
theorem yC {p:Option Tok}(hp:∃t,p=some t){r:List (Bool×Tok)}(hr:∀u,di (some u) r)(o:OpV)(s:Bool):di p (uc o s++r):=by
 unfold uc;split
 ·obtain⟨t,rfl⟩:=hp;exact hr t
 ·split
  ·exact dB cf (ry (hr _))
  ·exact dB cf (ry (ry (jz gH (hr _))))
theorem mF {k n:Int}(hk:k=2∨k=3∨k=4∨k=6∨k=7∨k=8)(h:(an k n).2=0∨0≤n∧n<100):bp (gC k n)=aa (dS k n):=by
 unfold gC dS;split
 ·rename_i hn;rw[rH (i6 hk hn).1,bp,append_nil];rfl
 ·rename_i hn;obtain⟨a0,a1⟩:=h.resolve_left hn;rw[dC gH,FM a0 (by omega),aW,bp,append_nil]
theorem mJ {k n:Int}(hk:k=2∨k=3∨k=4∨k=6∨k=7∨k=8)(h:(an k n).2=0∨0≤n∧n<100):iS (gC k n):=by
 unfold gC;split
 ·rename_i hn;exact aK (lS (i6 hk hn).1 _) db
 ·rename_i hn;obtain⟨a0,a1⟩:=h.resolve_left hn;exact aK (dE gH) (aK (Gf a0 (by omega)) db)
theorem mj {p:Option Tok}(hp:∀t,qX p t=false){r:List (Bool×Tok)}(hr:∀u,di (some u) r)(k n:Int):di p (gC k n++r):=by
 unfold gC;split
 ·exact⟨.inr (hp _),hr _⟩
 ·exact dB gH (jz gH (hr _))
end Go.Proofs.YtnhbidpdadkcjaaGreatDoor
namespace Go.Proofs.YtnhbidpdadkcjaaGreatDoor
open Ex (ax nameT valT txtL ValOk qX)
theorem Q2 {o:OpV}(ho:okO o)(h:(prO o).2=0):ValOk o.val:=Ex.print_ok (s:=(Ex.printF o.val).1) (by rw[←h];rfl) ho.2.1 ho.2.2
theorem mods_fin:∀j:Fin 13,j.val=0∨(an 3 (j.val:Int)).2=0:=by decide +kernel
theorem qC {o:OpV}(h0:0≤o.md)(h1:o.md≤12):JY o:=by
 obtain⟨k,hk⟩:=eq_ofNat_of_zero_le h0;rcases mods_fin ⟨k,by omega⟩ with h | h
 ·exact .inl (by simp only at h;omega)
 ·exact .inr (by rw[hk];exact h)
theorem ve {o:OpV}(h:dY o=true):eD o.m=true∧o.m.sp=false∧(-1≤o.amt∧o.amt≤63)∧(o.md=1∨o.md=7∨o.md=11∨o.md=12):=by
 unfold dY at h;split at h
 ·cases h
 ·rename_i hc;simp only[not_or]at hc;obtain⟨c1,c2,c3,c4⟩:=hc;refine⟨by simpa using c1,by simpa using c2,⟨by omega,by omega⟩,?_⟩;split at h
  ·rename_i hm;rcases hm with hm | hm<;>simp[hm]
  ·split at h
   ·rename_i hm;rcases hm with hm | hm<;>simp[hm]
   ·cases h
structure Nv (o:OpV):Prop where
 r:eD o.r=true
 v:ValOk o.val
 p:(prO o).2=0
 i:o.mode=3→dY o=true
theorem Qc {o:OpV}(h:Nv o):bp (zc o)=aa (ir o):=by
 obtain⟨t,r,hl⟩:=za o;have el:=FL h.p h.v;have hne:iV o≠[]:=by rw[hl];simp
 have es:bp (spB (iV o))=32::aa (lB o):=by rw[xB hl,el]
 have hr:=(gr h.r).1;unfold zc ir;rw[dC J7,ux hr];split
 ·rw[dC cf,gW,es,dC oN,dC DC,bp];simp only[aW,KH,A9,tz,lK,Ba,NQ,XC,append_assoc,cons_append,nil_append]
 split
 ·rw[dC oN,dC cf,es];simp only[aW,KH,A9,tz,lK,Ba,NQ,XD,append_assoc,cons_append,nil_append]
 split
 ·rename_i h3;obtain⟨m1,m2,m3,m4⟩:=ve (h.i h3);have hm:=(gr m1).1;rw[dC cf,Qd hm];split
  ·rw[nil_append,dC oN,bp];simp only[aW,KH,A9,tz,lK,Sf,Ba,append_assoc,cons_append,nil_append,append_nil]
  ·have em:=zM (o:=o) (s:=o.amt == -1) (qC (by omega) (by omega)) (by
    rcases Int.lt_or_le o.amt 0 with h0 | h0
    ·exact .inl (by
      have:o.amt = -1:=by omega
      rw[this];rfl)
    ·exact .inr ⟨h0,by omega⟩)
   rw[gW,em,dC oN,bp];simp only[aW,KH,A9,tz,lK,Sf,Ba,append_assoc,cons_append,nil_append,append_nil]
 split
 ·rw[dC oN,bp];simp only[aW,KH,A9,Sf,Ba,append_assoc,cons_append,nil_append,append_nil]
 ·rw[dC cf,gW,es,dC oN,bp];simp only[aW,KH,A9,tz,lK,Sf,Ba,append_assoc,cons_append,nil_append,append_nil]
theorem QG {o:OpV}(h:Nv o):iS (zc o):=by
 have hr:=(gr h.r).1;have hl:=xF (Ge h.v);unfold zc;refine aK (dE J7) (aK (lS hr _) ?_);split
 ·exact aK (dE cf) (iO hl (aK (dE oN) (aK (dE DC) db)))
 split
 ·exact aK (dE oN) (aK (dE cf) hl)
 split
 ·rename_i h3;obtain⟨m1,m2,m3,m4⟩:=ve (h.i h3);refine aK (dE cf) (aK (lS (gr m1).1 _) (iO ?_ (aK (dE oN) db)));split
  ·exact db
  ·exact Af (qC (by omega) (by omega)) (by
    rcases Int.lt_or_le o.amt 0 with h0 | h0
    ·exact .inl (by
      have:o.amt = -1:=by omega
      rw[this];rfl)
    ·exact .inr ⟨h0,by omega⟩)
 split
 ·exact aK (dE oN) db
 ·exact aK (dE cf) (iO hl (aK (dE oN) db))
theorem Ov {p:Option Tok}{r:List (Bool×Tok)}(hr:∀u,di (some u) r)(o:OpV):di p (zc o++r):=by
 have hek:∀{r:List (Bool×Tok)},(∀u,di (some u) r)→∀u,di (some u) (sg dq::r):=fun h u=>dB oN (h _);have hb:∀u,di (some u) (sg tB::r):=fun u=>dB DC (hr _);have hne:iV o≠[]:=by obtain⟨t,r,hl⟩:=za o;rw[hl];simp
 have low:∀{q:Option Tok} {r:List (Bool×Tok)},(∀u,di (some u) r)→di q (spB (iV o)++r):=fun h=>by
  rw[←TW hne];exact xp (p:=none) (EE h o)
 unfold zc;rw[cons_append,cons_append];refine dB J7 (jz J7 ?_);split
 ·rw[cons_append,append_assoc];exact dB cf (low (hek hb))
 split
 ·rw[cons_append,cons_append];exact dB oN (dB cf (low hr))
 split
 ·rw[cons_append,cons_append,append_assoc];refine dB cf (ry ?_);split
  ·exact hek hr _
  ·exact yC ⟨_,rfl⟩ (hek hr) o _
 split
 ·exact hek hr _
 ·rw[cons_append,append_assoc];exact dB cf (low (hek hr))
structure OpOk (o:OpV):Prop where
 ok:okO o
 chk:fB o=0
theorem OpOk.val {o:OpV}(h:OpOk o):ValOk o.val:=Q2 h.ok (cW h.chk).2.1
theorem OpOk.mem {o:OpV}(h:OpOk o)(hm:ff o=true):Nv o:=by
 obtain⟨h1,h2,h3⟩:=ot hm;refine⟨h1,h.val,(cW h.chk).2.1,fun h3'=>?_⟩;rcases h3 with h | h | h | h
 ·omega
 ·omega
 ·omega
 ·exact h.2
theorem OpOk.n {o:OpV}(h:OpOk o)(hk:o.kind=4∨o.kind=6∨o.kind=7∨o.kind=8∨o.kind=9):(0≤o.n∧o.n≤j7 o.kind):=by
 obtain⟨-,hc⟩:=cJ (cW h.chk).1;rcases hc with ⟨k,-⟩ | ⟨k,-⟩ | k | ⟨-,n0,n1⟩ | ⟨k,-⟩
 ·omega
 ·omega
 ·omega
 ·exact⟨n0,n1⟩
 ·omega
theorem OpOk.named {o:OpV}(h:OpOk o):(o.kind=4→(an 2 o.n).2=0)∧(o.kind=6→(an 6 o.n).2=0)∧(o.kind=7∨o.kind=8∨o.kind=9→0≤o.n∧o.n<100):=by
 refine⟨fun k=>?_,fun k=>?_,fun k=>?_⟩
 ·obtain⟨n0,n1⟩:=h.n (by omega);rw[k]at n1;exact BI n0 n1
 ·obtain⟨n0,n1⟩:=h.n (by omega);rw[k]at n1;exact Fa n0 n1
 ·obtain⟨n0,n1⟩:=h.n (by omega);refine⟨n0,?_⟩;rcases k with k | k | k<;>rw[k]at n1
  ·have:j7 7=15:=rfl;omega
  ·have:j7 8=31:=rfl;omega
  ·have:j7 9=5:=rfl;omega
theorem OpOk.amount {o:OpV}(h:OpOk o)(hk:o.kind=1∨o.kind=2):JY o∧0≤o.amt∧o.amt<100:=by
 obtain⟨-,hc⟩:=cJ (cW h.chk).1;rcases hc with ⟨k,-,ha⟩ | ⟨k,ha⟩ | k | ⟨k,-⟩ | ⟨k,-⟩
 ·obtain⟨⟨a,b⟩,c,d⟩:=ri ha;exact⟨qC a b,c,d⟩
 ·obtain⟨⟨a,b⟩,c,d⟩:=ri ha;exact⟨qC a (by omega),c,d⟩
 ·omega
 ·omega
 ·omega
theorem OpOk.reg {o:OpV}(h:OpOk o)(hk:o.kind=1):eD o.r=true:=by
 obtain⟨-,hc⟩:=cJ (cW h.chk).1;rcases hc with ⟨k,hr,ha⟩ | ⟨k,ha⟩ | k | ⟨k,-⟩ | ⟨k,-⟩
 ·exact hr
 all_goals omega
theorem OpOk.isMem {o:OpV}(h:OpOk o)(hk:¬o.kind=1∧¬o.kind=2∧¬o.kind=3∧¬o.kind=4∧¬o.kind=6∧¬o.kind=7∧¬o.kind=8∧¬o.kind=9):o.kind=5∧ff o=true:=by
 obtain⟨-,hc⟩:=cJ (cW h.chk).1;rcases hc with ⟨k,-⟩ | ⟨k,-⟩ | k | ⟨k,-⟩ | ⟨k,hm⟩
 ·omega
 ·omega
 ·omega
 ·omega
 ·exact⟨k,hm⟩
theorem vz {o:OpV}(h:OpOk o):bp (ij o)=aa (aS o):=by
 have hv:=h.val;have hp:=(cW h.chk).2.1;obtain⟨n4,n6,n7⟩:=h.named;have ev:bp (nS o.val)=aa (mN o):=zN hp hv;unfold ij aS;split
 ·rename_i k;obtain⟨m,a⟩:=h.amount (.inl k);rw[ux (gr (h.reg k)).1,zM m (.inr a),aW]
 split
 ·rename_i k;obtain⟨m,a⟩:=h.amount (.inr k);rw[gW,FL hp hv,zM m (.inr a),aW]
 split
 ·split
  ·rw[dC gH,ev,aW]
  ·exact ev
 split
 ·rename_i k;exact mF (.inl rfl) (.inl (n4 k))
 split
 ·rename_i k;exact mF (.inr (.inr (.inr (.inl rfl)))) (.inl (n6 k))
 split
 ·rename_i k;exact mF (.inr (.inr (.inl rfl))) (.inr (n7 (.inl k)))
 split
 ·rename_i k;exact mF (.inr (.inr (.inr (.inr (.inl rfl))))) (.inr (n7 (.inr (.inl k))))
 split
 ·rename_i k;exact mF (.inr (.inr (.inr (.inr (.inr rfl))))) (.inr (n7 (.inr (.inr k))))
 ·rename_i h1 h2 h3 h4 h6 h7 h8 h9;exact Qc (h.mem (h.isMem ⟨h1,h2,h3,h4,h6,h7,h8,h9⟩).2)
theorem vH {o:OpV}(h:OpOk o):iS (ij o):=by
 have hv:=h.val;obtain⟨n4,n6,n7⟩:=h.named;unfold ij;split
 ·rename_i k;obtain⟨m,a⟩:=h.amount (.inl k);exact aK (lS (gr (h.reg k)).1 _) (Af m (.inr a))
 split
 ·rename_i k;obtain⟨m,a⟩:=h.amount (.inr k);exact iO (Ge hv) (Af m (.inr a))
 split
 ·split
  ·exact aK (dE gH) (qZ hv)
  ·exact qZ hv
 split
 ·rename_i k;exact mJ (.inl rfl) (.inl (n4 k))
 split
 ·rename_i k;exact mJ (.inr (.inr (.inr (.inl rfl)))) (.inl (n6 k))
 split
 ·rename_i k;exact mJ (.inr (.inr (.inl rfl))) (.inr (n7 (.inl k)))
 split
 ·rename_i k;exact mJ (.inr (.inr (.inr (.inr (.inl rfl))))) (.inr (n7 (.inr (.inl k))))
 split
 ·rename_i k;exact mJ (.inr (.inr (.inr (.inr (.inr rfl))))) (.inr (n7 (.inr (.inr k))))
 ·rename_i h1 h2 h3 h4 h6 h7 h8 h9;exact QG (h.mem (h.isMem ⟨h1,h2,h3,h4,h6,h7,h8,h9⟩).2)
theorem Bo {p:Option Tok}(hp:∀t,qX p t=false){r:List (Bool×Tok)}(hr:∀u,di (some u) r)(o:OpV):di p (ij o++r):=by
 unfold ij;split
 ·rw[cons_append];exact⟨.inr (hp _),yC ⟨_,rfl⟩ hr o _⟩
 split
 ·rw[append_assoc];refine EE (fun u=>yC ⟨_,rfl⟩ hr o _) o
 split
 ·split
  ·exact dB gH (og (fun t=>Ex.sgn_sep t gH.2) hr _)
  ·exact og hp hr _
 split
 ·exact mj hp hr _ _
 split
 ·exact mj hp hr _ _
 split
 ·exact mj hp hr _ _
 split
 ·exact mj hp hr _ _
 split
 ·exact mj hp hr _ _
 ·exact Ov hr o
def qH:List OpV→List (Bool×Tok)
 |[]=>[]
 |[o]=>ij o
 |o::p::r=>ij o++sg aA::spB (qH (p::r))
theorem uH {o:OpV}(h:OpOk o):∃t r,ij o=(false,t)::r:=by
 obtain⟨tl,rl,hl⟩:=za o
 have hv:∀v:Val,∃t r,nS v=(false,t)::r:=fun v=>by
  unfold nS valT;split
  ·split
   ·exact⟨_,_,rfl⟩
   ·exact⟨_,_,rfl⟩
  ·exact⟨_,_,rfl⟩
 have hn:∀k n,∃t r,gC k n=(false,t)::r:=fun k n=>by
  unfold gC;split
  ·exact⟨_,_,rfl⟩
  ·exact⟨_,_,rfl⟩
 unfold ij;split
 ·exact⟨_,_,rfl⟩
 split
 ·exact⟨tl,rl++uc o false,by rw[hl];rfl⟩
 split
 ·split
  ·exact⟨_,_,rfl⟩
  ·exact hv _
 split
 ·exact hn _ _
 split
 ·exact hn _ _
 split
 ·exact hn _ _
 split
 ·exact hn _ _
 split
 ·exact hn _ _
 ·exact⟨_,_,rfl⟩
theorem PI:∀{p:OpV} {r:List OpV},OpOk p→∃t x,qH (p::r)=(false,t)::x
 |p,[],h=>uH h
 |p,q::r,h=>by
  obtain⟨t,x,e⟩:=uH h;exact⟨t,x++sg aA::spB (qH (q::r)),by rw[qH,e];rfl⟩
theorem join_cons (x y:ByteArray)(r:List ByteArray):cZ (x::y::r)=x++dR++cZ (y::r):=by
 show r.foldl _ (x++dR++y)=x++dR++r.foldl _ y
 have:∀(r:List ByteArray) (a b:ByteArray),r.foldl (fun a y=>a++dR++y) (a++b)=a++r.foldl (fun a y=>a++dR++y) b:=by
  intro r
  induction r with
  |nil=>intro a b;rfl
  |cons z r ih =>
   intro a b;rw[List.foldl_cons,List.foldl_cons,show a++b++dR++z=a++(b++dR++z) by simp only[ByteArray.append_assoc],ih]
 exact this r (x++dR) y
theorem FN:∀{l:List OpV},(∀o∈l,OpOk o)→bp (qH l)=aa (cZ (l.map aS))
 |[],_=>rfl
 |[o],h=>vz (h o (by simp))
 |o::p::r,h=>by
  obtain⟨t,x,e⟩:=PI (p:=p) (r:=r) (h p (by simp));have ih:=FN (l:=p::r) fun q hq=>h q (mem_cons_of_mem _ hq);rw[qH,gW,vz (h o (by simp)),dC cf,xB e,ih,show cZ ((o::p::r).map aS)=aS o++dR++cZ ((p::r).map aS) from join_cons _ _ _,aW,aW,tz,lK];simp
theorem Gg:∀{l:List OpV},(∀o∈l,OpOk o)→iS (qH l)
 |[],_=>db
 |[o],h=>vH (h o (by simp))
 |o::p::r,h=>by
  rw[qH];exact iO (vH (h o (by simp))) (aK (dE cf) (xF (Gg fun q hq=>h q (mem_cons_of_mem _ hq))))
theorem EF:∀{l:List OpV} {p:Option Tok},(∀t,qX p t=false)→di p (qH l)
 |[],_,_=>trivial
 |[o],p,hp=>by
  have:=Bo hp (r:=[]) (fun u=>trivial) o
  rwa [append_nil]at this
 |o::q::r,p,hp=>by
  rw[qH];exact Bo hp (fun u=>dB cf (xp (p:=none) (EF fun t=>rfl))) o
def txT (o:OpV):List Tok:=(ij o).map (·.2)
def qI:List OpV→List Tok
 |[]=>[]
 |[o]=>txT o
 |o::p::r=>txT o++ax aA::qI (p::r)
theorem zy:∀l:List OpV,(qH l).map (·.2)=qI l
 |[]=>rfl
 |[o]=>rfl
 |o::p::r=>by
  rw[qH,qI,map_append,map_cons,pU,zy (p::r)];rfl
def jL (l:List (Bool×Tok)):Prop:=∀u∈l,bare u.2=u.2
theorem cV:jL []:=fun u hu=>by cases hu
theorem aI {x:Bool×Tok}{l:List (Bool×Tok)}(h:bare x.2=x.2)(hl:jL l):jL (x::l):=fun u hu=>by
 rcases List.mem_cons.1 hu with rfl | hu
 ·exact h
 ·exact hl u hu
theorem iD {a b:List (Bool×Tok)}(ha:jL a)(hb:jL b):jL (a++b):=fun u hu=>(List.mem_append.1 hu).elim (ha u) (hb u)
theorem tC {l:List (Bool×Tok)}(h:jL l):jL (spB l):=by
 cases l with
 |nil=>exact h
 |cons x l=>exact aI (h x (by simp)) fun u hu=>h u (by simp[hu])
theorem nV (v:Val):jL (nS v):=fun u hu=>by
 obtain⟨t,ht,rfl⟩:=List.mem_map.1 hu;have e:=Ex.bare_valT v;obtain⟨i,hi,ei⟩:=List.mem_iff_getElem.1 ht;have:((valT v).map bare)[i]? = (valT v)[i]?:=by rw[e]
 rw[getElem?_map,List.getElem?_eq_getElem hi]at this;simp only[Option.map_some,Option.some.injEq]at this;rw[←ei];exact this
theorem Bb (o:OpV):jL (iV o):=by
 unfold iV;split
 ·exact aI rfl (aI rfl (aI rfl (nV _)))
 ·exact aI rfl (nV _)
theorem uM (o:OpV)(s:Bool):jL (uc o s):=by
 unfold uc;split
 ·exact cV
 ·split
  ·exact aI rfl (aI rfl cV)
  ·exact aI rfl (aI rfl (aI rfl (aI rfl cV)))
theorem kU (k n:Int):jL (gC k n):=by
 unfold gC;split
 ·exact aI rfl cV
 ·exact aI rfl (aI rfl cV)
theorem xY (o:OpV):jL (ij o):=by
 have hl:=tC (Bb o)
 have hm:jL (zc o):=by
  unfold zc;refine aI rfl (aI rfl ?_);split
  ·exact aI rfl (iD hl (aI rfl (aI rfl cV)))
  split
  ·exact aI rfl (aI rfl hl)
  split
  ·refine aI rfl (aI rfl (iD ?_ (aI rfl cV)));split
   ·exact cV
   ·exact uM o _
  split
  ·exact aI rfl cV
  ·exact aI rfl (iD hl (aI rfl cV))
 unfold ij;split
 ·exact aI rfl (uM o _)
 split
 ·exact iD (Bb o) (uM o _)
 split
 ·split
  ·exact aI rfl (nV _)
  ·exact nV _
 split
 ·exact kU _ _
 split
 ·exact kU _ _
 split
 ·exact kU _ _
 split
 ·exact kU _ _
 split
 ·exact kU _ _
 ·exact hm
theorem D4:∀l:List OpV,jL (qH l)
 |[]=>cV
 |[o]=>xY o
 |o::p::r=>by
  rw[qH];exact iD (xY o) (aI rfl (tC (D4 (p::r))))
end Go.Proofs.YtnhbidpdadkcjaaGreatDoor
namespace Go.Proofs.YtnhbidpdadkcjaaGreatDoor
open Ex (ax nameT valT ValOk)
theorem nT (s:ByteArray)(r:List Tok):atF (ax s::r) 4 0=s:=rfl
theorem Zd (s:ByteArray)(r:List Tok):atF (ax s::r) 1 0=emp:=rfl
theorem Jy (s:ByteArray)(r:List Tok):atF (nameT s::r) 1 0=s:=rfl
theorem NO (s:ByteArray)(r:List Tok):atF (nameT s::r) 4 0=emp:=rfl
theorem Zc (n:Int)(r:List Tok):atF (Ex.numT n::r) 1 0=emp:=rfl
theorem Y7 (n:Int)(r:List Tok):atF (Ex.numT n::r) 4 0=emp:=rfl
theorem Jz (t:Tok)(r:List Tok)(k:Int)(n:Nat):atF (t::r) k (n+1)=atF r k n:=rfl
theorem qe (k:Int)(n:Nat):atF [] k n=emp:=by unfold atF;simp
def Tail (r:List Tok):Prop:=r=[]∨∃r',r=ax aA::r'∧¬(ag 3 3 (atF r' 1 0)).2=0
theorem sH (r:List Tok):Ex.Ends (ax aA::r) 0:=Ex.ends_sign fun k h1 h2=>Ex.sign_all (p:=fun s=>aA≠s) (by decide) (by decide) (by decide) (by decide) (by decide) (by decide) (by decide) (by decide) (by decide) (by decide) k h1 h2
theorem xn (r:List Tok):Ex.Ends (ax dq::r) 0:=Ex.ends_sign fun k h1 h2=>Ex.sign_all (p:=fun s=>dq≠s) (by decide) (by decide) (by decide) (by decide) (by decide) (by decide) (by decide) (by decide) (by decide) (by decide) k h1 h2
theorem Tail.ends {r:List Tok}(h:Tail r):Ex.Ends r 0:=by
 rcases h with rfl | ⟨r',rfl,-⟩
 ·exact Ex.ends_emp rfl
 ·exact sH r'
theorem Tail.four {r:List Tok}(h:Tail r):atF r 4 0=emp∨atF r 4 0=aA:=by
 rcases h with rfl | ⟨r',rfl,-⟩
 ·exact .inl (qe _ _)
 ·exact .inr rfl
theorem Tail.not {r:List Tok}(h:Tail r){s:ByteArray}(h1:emp≠s)(h2:aA≠s):¬atF r 4 0=s:=fun e=>by
 rcases h.four with h | h
 ·exact h1 (h.symm.trans e)
 ·exact h2 (h.symm.trans e)
theorem pf {o:OpV}{most nn:Int}{r:List Tok}(h:Tail r):changedR o most nn r=.ok (o,r):=by
 unfold changedR;rcases h with rfl | ⟨r',rfl,hn⟩
 ·rw[if_pos (.inl (by rw[qe];decide))]
 ·rw[if_pos (.inr (.inl hn))]
theorem AA {o:OpV}{most nn:Int}{s:ByteArray}{r:List Tok}(h:s≠aA):changedR o most nn (ax s::r)=.ok (o,ax s::r):=by
 unfold changedR;rw[if_pos (.inl h)]
theorem iu (s:ByteArray)(r:List Tok):mustR s (ax s::r)=.ok r:=by
 unfold mustR;rw[if_pos (nT s r)];rfl
theorem Nb {a:Int}(h0:0≤a)(h1:a≤9223372036854775807):ValOk ⟨a,emp,emp⟩:=⟨.inl rfl,.inl rfl,fun _=>rfl,by show -9223372036854775808≤a;omega,h1⟩
theorem Cj {a:Int}(h0:0≤a)(h1:a≤9223372036854775807){r:List Tok}(he:Ex.Ends r 0):valueR (Ex.numT a::r)=.ok (⟨a,emp,emp⟩,r):=by
 have e:valT ⟨a,emp,emp⟩=[Ex.numT a]:=by
  unfold Ex.valT;rw[if_pos ⟨rfl,rfl⟩,if_neg (by show ¬a<0;omega)]
 have:=e9 (Nb h0 h1) he
 rwa [e]at this
theorem KR {a:Int}(h0:0≤a)(h1:a≤63){r:List Tok}(he:Ex.Ends r 0):countR (ax aU::Ex.numT a::r)=.ok (a,r):=by
 unfold countR;rw[iu];simp only;rw[Cj h0 (by omega) he];exact if_pos ⟨⟨rfl,rfl⟩,h0,h1⟩
theorem qk {o:OpV}{most nn md:Int}{r:List Tok}(hm:(an 3 md).2=0)(h5:5≤md)(hle:md≤most)(hr:¬atF r 4 0=aU) :
  changedR o most nn (ax aA::nameT (an 3 md).1::r)=.ok ({ o with md:=md,amt:=nn },r):=by
 have e:ag 3 3 (atF (ax aA::nameT (an 3 md).1::r) 1 1)=(md,0):=li hm;unfold changedR;rw[e,if_neg (by rw[nT];simp;omega),if_neg]
 ·rfl
 ·rintro (h | h)
  ·simp only at h;omega
  ·exact hr h
theorem qj {o:OpV}{most nn md a:Int}{r:List Tok}(hm:(an 3 md).2=0)(hle:md≤most)(h0:0≤a)(h1:a≤63)(he:Ex.Ends r 0) :
  changedR o most nn (ax aA::nameT (an 3 md).1::ax aU::Ex.numT a::r)=.ok ({ o with md:=md,amt:=a },r):=by
 have e:ag 3 3 (atF (ax aA::nameT (an 3 md).1::ax aU::Ex.numT a::r) 1 1)=(md,0):=li hm;unfold changedR;rw[e,if_neg (by rw[nT];simp;omega),if_pos (.inr rfl)];show(match countR (ax aU::Ex.numT a::r) with | .error e=>_ | .ok (k,l')=>_)=_;rw[KR h0 h1 he]
theorem xA {r:gu}(h:eD r=true)(l:List Tok):gR (nameT (dv r)::l)=(r,true):=by
 unfold gR;rw[Jy,(gr h).2.1];rfl
theorem IF {l:List Tok}(h:¬(dg 3 (atF l 1 0)).2=0):gR l=(r0,false):=by
 unfold gR;rw[if_neg h]
theorem vx (s:ByteArray)(l:List Tok):gR (ax s::l)=(r0,false):=IF zI
theorem oE {o:OpV}(h:¬o.kind=3∧¬o.kind=7∧¬o.kind=8∧¬o.kind=9):aF o=o:=by
 unfold aF;split
 ·rfl
 rw[if_neg h.1,if_neg h.2.1,if_neg h.2.2.1,if_neg h.2.2.2]
theorem xN {o:OpV}{m:Int}(h:dA o m=true):0≤o.md∧o.md≤m∧0≤o.amt∧o.amt≤63∧(0<o.md∨o.amt=0):=of_decide_eq_true h
theorem C9 {o:OpV}(h0:0<o.md)(h1:o.md≤12):(an 3 o.md).2=0:=(qC (o:=o) (by omega) h1).resolve_left (by omega)
def wZ (o:OpV)(silent:Bool):List Tok:=if o.md=0 then[] else if silent=true then[ax aA,nameT (an 3 o.md).1] else[ax aA,nameT (an 3 o.md).1,ax aU,Ex.numT o.amt]
theorem Dc (o:OpV)(s:Bool):(uc o s).map (·.2)=wZ o s:=by
 unfold uc wZ;split
 ·rfl
 ·split<;>rfl
theorem gZ (v:Val):(nS v).map (·.2)=valT v:=by
 unfold nS;rw[List.map_map];exact List.map_id _
def qA (o:OpV):List Tok:=if o.lo=true then ax aO::nameT mr::ax aO::valT o.val else ax aU::valT o.val
theorem xv (o:OpV):(iV o).map (·.2)=qA o:=by
 unfold iV qA;split
 ·rw[map_cons,map_cons,map_cons,gZ];rfl
 ·rw[map_cons,gZ];rfl
def pz (k n:Int):List Tok:=if(an k n).2=0 then[nameT (an k n).1] else[ax aU,Ex.numT n]
theorem ow (k n:Int):(gC k n).map (·.2)=pz k n:=by
 unfold gC pz;split<;>rfl
theorem P8 {o:OpV}(h:OpOk o)(k:o.kind=1){r:List Tok}(hr:Tail r):operR (txT o++r)=.ok (aF o,r):=by
 obtain⟨hb,hc⟩:=cJ (cW h.chk).1;have ha:dA o 12=true:=by rcases hc with ⟨_,_,ha⟩ | ⟨k2,_⟩ | k2 | ⟨k2,_⟩ | ⟨k2,_⟩<;>first | exact ha | omega
 obtain⟨a1,a2,a3,a4,a5⟩:=xN ha;have hreg:=h.reg k
 have sh:(⟨1,o.r,r0,o.md,o.amt,0,0,emp,emp,false,0⟩:OpV)=o:=by
  have:=hb;unfold cL at this
  rwa [if_pos k,k]at this
 have et:txT o=nameT (dv o.r)::wZ o (decide (5≤o.md)&&decide (o.amt=0)):=by
  unfold txT ij;rw[if_pos k,map_cons,Dc]
 rw[oE (by omega),et,cons_append];unfold operR;rw[xA hreg,if_pos rfl];show changedR ⟨1,o.r,r0,0,0,0,0,emp,emp,false,0⟩ 12 0 (wZ o (decide (5≤o.md)&&decide (o.amt=0))++r)=_;unfold wZ;by_cases m0:o.md=0
 ·rw[if_pos m0,nil_append,pf hr];have e0:o.amt=0:=by omega
  rw[m0,e0]at sh;rw[sh]
 ·rw[if_neg m0];have hm:=C9 (o:=o) (by omega) a2;by_cases hs:(decide (5≤o.md)&&decide (o.amt=0))=true
  ·rw[if_pos hs];rw[and_eq_true,decide_eq_true_eq,decide_eq_true_eq]at hs;rw[show[ax aA,nameT (an 3 o.md).1]++r=ax aA::nameT (an 3 o.md).1::r from rfl,qk hm hs.1 a2 (hr.not (by decide) (by decide))];rw[hs.2]at sh;simp only[sh]
  ·rw[if_neg hs];rw[show[ax aA,nameT (an 3 o.md).1,ax aU,Ex.numT o.amt]++r=ax aA::nameT (an 3 o.md).1::ax aU::Ex.numT o.amt::r from rfl,qj hm a2 a3 a4 hr.ends];simp only[sh]
theorem JX {l:List Tok}(h:¬atF l 4 0=aO):loR l=.ok (false,l):=by
 unfold loR;rw[if_pos h]
theorem OQ (l:List Tok):loR (ax aO::nameT mr::ax aO::l)=.ok (true,l):=by
 unfold loR;rw[if_neg (fun h=>h rfl),if_neg]
 ·rfl
 ·rintro (h | h)<;>exact h rfl
theorem sT (l:List Tok):operR (ax aU::l)=pX l:=by
 unfold operR;rw[vx,if_neg (by simp),nT,if_neg (by decide),if_pos rfl];rfl
theorem Bt {v:Val}(hv:ValOk v){r:List Tok}(hr:Tail r):pX (valT v++r)=.ok (iJ v false,r):=by
 unfold pX;rw[e9 hv hr.ends];exact pf hr
theorem P5 {o:OpV}(h:OpOk o)(k:o.kind=2){r:List Tok}(hr:Tail r):operR (txT o++r)=.ok (aF o,r):=by
 obtain⟨hb,hc⟩:=cJ (cW h.chk).1;have ha:dA o 1=true:=by rcases hc with ⟨k2,_⟩ | ⟨_,ha⟩ | k2 | ⟨k2,_⟩ | ⟨k2,_⟩<;>first | exact ha | omega
 obtain⟨a1,a2,a3,a4,a5⟩:=xN ha
 have et:txT o=qA o++wZ o false:=by
  unfold txT ij;rw[nG,if_pos k,map_append,xv,Dc]
 rw[oE (by omega),et];cases hl:o.lo with
 |true =>
  have sh:(⟨2,r0,r0,0,0,0,o.add,o.plus,o.minus,true,0⟩:OpV)=o:=by
   have:=hb;unfold cL at this;rw[nG,if_pos k,if_pos hl,k]at this;rw[hl]at this;exact this
  have m0:o.md=0:=(congrArg OpV.md sh).symm;have em:wZ o false=[]:=by unfold wZ;rw[if_pos m0]
  have el:qA o=ax aO::nameT mr::ax aO::valT o.val:=by unfold qA;rw[if_pos hl]
  rw[em,el,append_nil];unfold operR;rw[show(ax aO::nameT mr::ax aO::valT o.val)++r=ax aO::nameT mr::ax aO::(valT o.val++r) from rfl,vx,if_neg (by simp),nT,if_neg (by decide),if_neg (by decide),OQ];simp only;rw[e9 h.val hr.ends];simp only;rw[show iJ o.val true=o from sh]
 |false =>
  have sh:(⟨2,r0,r0,o.md,o.amt,0,o.add,o.plus,o.minus,false,0⟩:OpV)=o:=by
   have:=hb;unfold cL at this;rw[nG,if_pos k,if_neg (by rw[hl];simp),k]at this;rw[hl]at this;exact this
  have el:qA o=ax aU::valT o.val:=by unfold qA;rw[if_neg (by rw[hl];simp)]
  rw[el,cons_append,cons_append,sT,append_assoc];unfold wZ;by_cases m0:o.md=0
  ·rw[if_pos m0,nil_append,Bt h.val hr];have e0:o.amt=0:=by omega
   rw[m0,e0]at sh;rw[show iJ o.val false=o from sh]
  ·rw[if_neg m0,if_neg (by simp)];have hm:=C9 (o:=o) (by omega) (by omega);unfold pX;rw[show[ax aA,nameT (an 3 o.md).1,ax aU,Ex.numT o.amt]++r=ax aA::nameT (an 3 o.md).1::ax aU::Ex.numT o.amt::r from rfl,e9 h.val (sH _)];simp only;rw[qj hm a2 a3 a4 hr.ends];rw[show({ iJ o.val false with md:=o.md,amt:=o.amt }:OpV)=o from sh]
theorem Ch (v:Val):∃t r,valT v=t::r∧(v.plus=emp∧v.minus=emp∨t=if v.plus=emp then Ex.numT 0 else nameT v.plus):=by
 unfold Ex.valT;by_cases c:v.plus=emp∧v.minus=emp
 ·rw[if_pos c];by_cases n:v.add<0
  ·rw[if_pos n];exact⟨_,_,rfl,.inl c⟩
  ·rw[if_neg n];exact⟨_,_,rfl,.inl c⟩
 ·rw[if_neg c];exact⟨_,_,rfl,.inr rfl⟩
theorem Tw {o:OpV}(h:OpOk o)(k:o.kind=3){r:List Tok}(hr:Tail r):operR (txT o++r)=.ok (aF o,r):=by
 obtain⟨hb,hc⟩:=cJ (cW h.chk).1;have hw:=(cW h.chk).2.2 k
 have sh:(⟨3,r0,r0,0,0,0,o.add,o.plus,o.minus,false,0⟩:OpV)=o:=by
  have:=hb;unfold cL at this
  rwa [nG,nG,if_pos k,k]at this
 cases ha:oZ o with
 |true =>
  have et:txT o=ax aU::valT o.val:=by
   unfold txT ij;rw[nG,nG,if_pos k,if_pos ha,map_cons,gZ];rfl
  have ep:aF o=iJ o.val false:=by
   unfold aF;rw[if_neg (not_not_intro h.chk),if_pos k,if_pos ha];rfl
  rw[ep,et,cons_append,sT,Bt h.val hr]
 |false =>
  have et:txT o=valT o.val:=by
   unfold txT ij;rw[nG,nG,if_pos k,if_neg (by rw[ha];simp),gZ]
  have ep:aF o=o:=by
   unfold aF;rw[if_neg (not_not_intro h.chk),if_pos k,if_neg (by rw[ha];simp)]
  have hna:¬(o.plus=emp∧o.minus=emp):=fun e=>by
   unfold oZ at ha;rw[decide_eq_true e.1,decide_eq_true e.2]at ha;cases ha
  obtain⟨t,x,ev,hx⟩:=Ch o.val;have ht:t=if o.plus=emp then Ex.numT 0 else nameT o.plus:=hx.resolve_left hna
  have h4:atF (valT o.val++r) 4 0=emp:=by
   rw[ev,ht];split<;>rfl
  have h1:atF (valT o.val++r) 1 0=o.plus:=by
   rw[ev,ht];split
   ·rename_i e;rw[e];rfl
   ·rfl
  have hreg:¬(dg 3 o.plus).2=0:=by
   rcases hw with e | e
   ·rw[e];exact zI
   ·exact HO e
  rw[ep,et];unfold operR;rw[IF (by rw[h1];exact hreg),if_neg (by simp),h4,if_neg (by decide),if_neg (by decide),JX (by rw[h4];decide)];simp only
  rw[h1,if_neg (by
   rintro⟨e1,e2⟩;rcases hw with e | e
   ·exact e1 e
   ·rw[e]at e2;cases e2),e9 h.val hr.ends]
  simp only;rw[if_neg (show ¬(o.val.plus=emp∧o.val.minus=emp) from hna),show toV o.val=o from sh]
theorem oz {s:ByteArray}{l:List Tok}(h1:¬s=emp)(h2:¬(dg 3 s).2=0)(h3:fa 3 s=true):operR (nameT s::l)=dm s (nameT s::l):=by
 unfold operR;rw[IF (by rw[Jy];exact h2),if_neg (by simp),NO,if_neg (by decide),if_neg (by decide),JX (by rw[NO];decide)];simp only;rw[Jy,if_pos ⟨h1,h3⟩]
theorem kH {s:ByteArray}{kd k:Int}{r:List (Int×Int)}{n:Int}(h:ag 3 kd s=(n,0)):rsvdF s ((kd,k)::r)=some (lA k n):=by
 rw[rsvdF,h,if_pos rfl]
theorem fx {s:ByteArray}{kd k:Int}{r:List (Int×Int)}(h:¬(ag 3 kd s).2=0):rsvdF s ((kd,k)::r)=rsvdF s r:=by
 rw[rsvdF,if_neg h]
theorem oK {s:ByteArray}{l:List Tok}{o:OpV}{t:Tok}(h:rsvdF s kp=some o):dm s (t::l)=.ok (o,l):=by
 unfold dm;rw[h];rfl
theorem zR {o:OpV}(h:OpOk o)(k:o.kind=4∨o.kind=6∨o.kind=7∨o.kind=8∨o.kind=9):lA o.kind o.n=o:=by
 have:=(cJ (cW h.chk).1).1;unfold cL at this
 rwa [nG,nG,nG,nG,if_pos k]at this
theorem BR:∀j:Fin 6,(an 8 (j.val:Int)).2=0:=by decide +kernel
theorem Mu {o:OpV}(h:OpOk o)(k:o.kind=4){r:List Tok}:operR (txT o++r)=.ok (aF o,r):=by
 have hn:=h.named.1 k;have f:=i6 (.inl rfl) hn
 have et:txT o=[nameT (an 2 o.n).1]:=by
  unfold txT ij;rw[nG,nG,nG,if_pos k,ow];unfold pz;rw[if_pos hn]
 have sh:=zR h (.inl k);rw[k]at sh;rw[oE (by omega),et,singleton_append,oz (Ah f.1) f.2.1 (ui (by decide) hn),oK (kH (li hn)),sh]
theorem P9 {o:OpV}(h:OpOk o)(k:o.kind=6){r:List Tok}:operR (txT o++r)=.ok (aF o,r):=by
 have hn:=h.named.2.1 k;have f:=i6 (.inr (.inr (.inr (.inl rfl)))) hn;obtain⟨f2,f4⟩:=f.2.2.2.2.1 rfl
 have et:txT o=[nameT (an 6 o.n).1]:=by
  unfold txT ij;rw[nG,nG,nG,nG,if_pos k,ow];unfold pz;rw[if_pos hn]
 have sh:=zR h (.inr (.inl k));rw[k]at sh
 have hs:rsvdF (an 6 o.n).1 kp=some (lA 6 o.n):=by
  show rsvdF _ ((2,4)::(4,7)::(6,6)::_)=_;rw[fx f2,fx f4,kH (li hn)]
 rw[oE (by omega),et,singleton_append,oz (Ah f.1) f.2.1 (ui (by decide) hn),oK hs,sh]
theorem EQ {n:Int}(h0:0≤n)(h1:n<100){r:List Tok}(hr:Tail r):operR ([ax aU,Ex.numT n]++r)=.ok (qD n,r):=by
 rw[show[ax aU,Ex.numT n]++r=ax aU::Ex.numT n::r from rfl,sT];unfold pX;rw[Cj h0 (by omega) hr.ends];exact pf hr
theorem P2 {o:OpV}(h:OpOk o)(k:o.kind=7){r:List Tok}(hr:Tail r):operR (txT o++r)=.ok (aF o,r):=by
 have et:txT o=pz 4 o.n:=by
  unfold txT ij;rw[nG,nG,nG,nG,nG,if_pos k,ow]
 have sh:=zR h (.inr (.inr (.inl k)));rw[k]at sh
 have ep:aF o=if ¬(an 4 o.n).2=0 then qD o.n else o:=by
  unfold aF;rw[if_neg (not_not_intro h.chk),nG,if_pos k]
 rw[et,ep];unfold pz;by_cases hn:(an 4 o.n).2=0
 ·have f:=i6 (.inr (.inr (.inl rfl))) hn
  have hs:rsvdF (an 4 o.n).1 kp=some (lA 7 o.n):=by
   show rsvdF _ ((2,4)::(4,7)::_)=_;rw[fx (f.2.2.2.1 rfl),kH (li hn)]
  rw[if_pos hn,if_neg (not_not_intro hn),singleton_append,oz (Ah f.1) f.2.1 (ui (by decide) hn),oK hs,sh]
 ·obtain⟨n0,n1⟩:=h.named.2.2 (.inl k);rw[if_neg hn,if_pos hn,EQ n0 n1 hr]
theorem P7 {o:OpV}(h:OpOk o)(k:o.kind=8){r:List Tok}(hr:Tail r):operR (txT o++r)=.ok (aF o,r):=by
 have et:txT o=pz 7 o.n:=by
  unfold txT ij;rw[nG,nG,nG,nG,nG,nG,if_pos k,ow]
 have sh:=zR h (.inr (.inr (.inr (.inl k))));rw[k]at sh
 have ep:aF o=if ¬(an 7 o.n).2=0 then qD o.n else o:=by
  unfold aF;rw[if_neg (not_not_intro h.chk),nG,nG,if_pos k]
 rw[et,ep];unfold pz;by_cases hn:(an 7 o.n).2=0
 ·have f:=i6 (.inr (.inr (.inr (.inr (.inl rfl))))) hn;obtain⟨f2,f4,f6⟩:=f.2.2.2.2.2.1 rfl
  have hs:rsvdF (an 7 o.n).1 kp=some (lA 8 o.n):=by
   show rsvdF _ ((2,4)::(4,7)::(6,6)::(7,8)::_)=_;rw[fx f2,fx f4,fx f6,kH (li hn)]
  rw[if_pos hn,if_neg (not_not_intro hn),singleton_append,oz (Ah f.1) f.2.1 (ui (by decide) hn),oK hs,sh]
 ·obtain⟨n0,n1⟩:=h.named.2.2 (.inr (.inl k));rw[if_neg hn,if_pos hn,EQ n0 n1 hr]
theorem P3 {o:OpV}(h:OpOk o)(k:o.kind=9){r:List Tok}:operR (txT o++r)=.ok (aF o,r):=by
 obtain⟨n0,n1⟩:=h.n (.inr (.inr (.inr (.inr k))));rw[k]at n1
 have hn:(an 8 o.n).2=0:=by
  obtain⟨j,hj⟩:=eq_ofNat_of_zero_le n0;have:j7 9=5:=rfl;rw[hj];exact BR ⟨j,by omega⟩
 have f:=i6 (.inr (.inr (.inr (.inr (.inr rfl))))) hn;obtain⟨f2,f4,f7⟩:=f.2.2.2.2.2.2 rfl
 have et:txT o=[nameT (an 8 o.n).1]:=by
  unfold txT ij;rw[nG,nG,nG,nG,nG,nG,nG,if_pos k,ow];unfold pz;rw[if_pos hn]
 have ex:aS o=(an 8 o.n).1:=by
  unfold aS dS;rw[nG,nG,nG,nG,nG,nG,nG,if_pos k,if_pos hn]
 have sh:=zR h (.inr (.inr (.inr (.inr k))));rw[k]at sh
 have ep:aF o=if(ag 3 6 (an 8 o.n).1).2=0 then lA 6 (ag 3 6 (an 8 o.n).1).1 else o:=by
  unfold aF;rw[if_neg (not_not_intro h.chk),nG,nG,nG,if_pos k,ex];rfl
 rw[et,ep,singleton_append,oz (Ah f.1) f.2.1 (ui (by decide) hn)];by_cases h6:(ag 3 6 (an 8 o.n).1).2=0
 ·have hs:rsvdF (an 8 o.n).1 kp=some (lA 6 (ag 3 6 (an 8 o.n).1).1):=by
   show rsvdF _ ((2,4)::(4,7)::(6,6)::_)=_;rw[fx f2,fx f4,kH (n:=(ag 3 6 (an 8 o.n).1).1) (by rw[←h6])]
  rw[if_pos h6,oK hs]
 ·have hs:rsvdF (an 8 o.n).1 kp=some (lA 9 o.n):=by
   show rsvdF _ ((2,4)::(4,7)::(6,6)::(7,8)::(8,9)::_)=_;rw[fx f2,fx f4,fx h6,fx f7,kH (li hn)]
  rw[if_neg h6,oK hs,sh]
end Go.Proofs.YtnhbidpdadkcjaaGreatDoor
namespace Go.Proofs.YtnhbidpdadkcjaaGreatDoor
open Ex (ax nameT valT ValOk)
theorem zX (s:ByteArray)(l:List Tok):bc s (ax s::l)=(true,l):=by
 unfold bc;rw[if_pos (nT s l)];rfl
theorem xC {s:ByteArray}{l:List Tok}(h:¬atF l 4 0=s):bc s l=(false,l):=by
 unfold bc;rw[if_neg h]
theorem S5 {o:OpV}(h:ff o=true):ff (ly o.r)=true:=by
 unfold ff at h ⊢;simp only[and_eq_true]at h;obtain⟨⟨⟨⟨⟨h1,h2⟩,h3⟩,-⟩,-⟩,-⟩:=h;simp only[ly,h1,h2,Bool.true_and];rw[h3];rfl
theorem Tc (l:List Tok):operR (ax D7::l)=ig l:=by
 unfold operR;rw[vx,if_neg (by simp),nT,if_pos rfl];rfl
theorem E7 {o:OpV}(hm:ff o=true)(l:List Tok):ig (nameT (dv o.r)::l)=if(bc dq l).1=true then qR (ly o.r) (bc dq l).2 else iE (ly o.r) l:=by
 have hr:=(ot hm).1
 have e:(ao (nameT (dv o.r)::l)).2=l:=by
  unfold ao;rw[xA hr];rfl
 unfold ig;rw[xA hr,e,if_neg (by rw[S5 hm];simp)]
def Jk (o:OpV)(r:List Tok):Prop:=aloneM o=true→¬(atF r 4 0=aA∧atF r 4 1=aU)
section
variable {o:OpV}{r:List Tok}
theorem P4 (h:OpOk o)(k:o.kind=5)(hr:Tail r)(ha:Jk o r):operR (txT o++r)=.ok (aF o,r):=by
 obtain⟨hb,hc⟩:=cJ (cW h.chk).1;have hm:ff o=true:=by rcases hc with ⟨k2,_⟩ | ⟨k2,_⟩ | k2 | ⟨k2,_⟩ | ⟨_,hm⟩<;>first | exact hm | omega
 obtain⟨m1,m2,m3⟩:=ot hm
 have et:txT o=(zc o).map (·.2):=by
  unfold txT ij;rw[nG,nG,nG,nG,nG,nG,nG,nG]
 have hv:=h.val;rw[oE (by omega),et];unfold zc;rw[map_cons,map_cons,cons_append,cons_append];show operR (ax D7::nameT (dv o.r)::_)=_;rw[Tc,E7 hm];rcases m3 with e | e | e | ⟨e,hi⟩
 ·
  have sh:(⟨5,o.r,r0,0,0,0,o.add,o.plus,o.minus,o.lo,0⟩:OpV)=o:=by
   have:=hb;unfold cL at this
   rwa [nG,nG,nG,if_pos k,if_pos e,k,e]at this
  rw[if_neg (show ¬o.mode=1 by omega),if_neg (show ¬o.mode=2 by omega),if_neg (show ¬o.mode=3 by omega)];by_cases hz:(o.add=0∧o.plus=emp∧o.minus=emp)∧o.lo=false
  ·rw[if_pos hz];show(if(bc dq (ax dq::r)).1=true then _ else _)=_;rw[show[sg dq].map (fun x:Bool×Tok=>x.2)++r=ax dq::r from rfl,zX,if_pos rfl];unfold qR
   have hal:aloneM o=true:=by
    unfold aloneM;rw[k,e,decide_eq_true hz.1.1,decide_eq_true hz.1.2.1,decide_eq_true hz.1.2.2,hz.2];rfl
   rw[if_neg (ha hal)];rw[hz.1.1,hz.1.2.1,hz.1.2.2,hz.2]at sh;rw[show ly o.r=o from sh]
  ·rw[if_neg hz,map_cons,map_append,pU,xv];show(if(bc dq (ax aA::(qA o++[ax dq]++r))).1=true then _ else iE (ly o.r) (ax aA::(qA o++[ax dq]++r)))=_;rw[xC (by rw[nT];decide),if_neg (by simp)];unfold iE;rw[iu];simp only;cases hl:o.lo with
   |true =>
    have el:qA o=ax aO::nameT mr::ax aO::valT o.val:=by unfold qA;rw[if_pos hl]
    rw[el,show(ax aO::nameT mr::ax aO::valT o.val)++[ax dq]++r=ax aO::nameT mr::ax aO::(valT o.val++(ax dq::r)) by simp,vx,if_neg (by simp),OQ];show C7 (ly o.r) (valT o.val++ax dq::r)=_;unfold C7;rw[e9 hv (xn r)];simp only;rw[iu];rw[hl]at sh;simp only;rw[show({ lI (ly o.r) o.val with lo:=true }:OpV)=o from sh]
   |false =>
    have el:qA o=ax aU::valT o.val:=by unfold qA;rw[if_neg (by rw[hl];simp)]
    rw[el,show(ax aU::valT o.val)++[ax dq]++r=ax aU::(valT o.val++(ax dq::r)) by simp,vx,if_neg (by simp),JX (by rw[nT];decide)];simp only;rw[if_neg (by simp)];unfold Dp;rw[iu];simp only;rw[e9 hv (xn r)];simp only;rw[iu];simp only;rw[xC (hr.not (by decide) (by decide)),if_neg (by simp)];rw[hl]at sh;rw[show(lI (ly o.r) o.val:OpV)=o from sh]
 ·
  have sh:(⟨5,o.r,r0,0,0,0,o.add,o.plus,o.minus,false,1⟩:OpV)=o:=by
   have:=hb;unfold cL at this
   rwa [nG,nG,nG,if_pos k,nG,nG,k,e]at this
  have hl:o.lo=false:=(congrArg OpV.lo sh).symm;have el:qA o=ax aU::valT o.val:=by unfold qA;rw[if_neg (by rw[hl];simp)]
  rw[if_pos e,map_cons,map_append,pU,xv,el];rw[show(sg aA).2::((ax aU::valT o.val)++[sg dq,sg tB].map (fun x:Bool×Tok=>x.2))++r=ax aA::ax aU::(valT o.val++(ax dq::ax tB::r)) by simp[sg]];rw[xC (by rw[nT];decide),if_neg (by simp)];unfold iE;rw[iu];simp only;rw[vx,if_neg (by simp),JX (by rw[nT];decide)];simp only;rw[if_neg (by simp)];unfold Dp;rw[iu];simp only;rw[e9 hv (xn _)];simp only;rw[iu];simp only;rw[zX,if_pos rfl];rw[show({ lI (ly o.r) o.val with mode:=1 }:OpV)=o from sh]
 ·
  have sh:(⟨5,o.r,r0,0,0,0,o.add,o.plus,o.minus,false,2⟩:OpV)=o:=by
   have:=hb;unfold cL at this
   rwa [nG,nG,nG,if_pos k,nG,nG,k,e]at this
  have hl:o.lo=false:=(congrArg OpV.lo sh).symm;have el:qA o=ax aU::valT o.val:=by unfold qA;rw[if_neg (by rw[hl];simp)]
  rw[if_neg (show ¬o.mode=1 by omega),if_pos e,map_cons,map_cons,pU,xv,el];rw[show(sg dq).2::(sg aA).2::(ax aU::valT o.val)++r=ax dq::ax aA::ax aU::(valT o.val++r) by simp[sg]];rw[zX,if_pos rfl];unfold qR;rw[if_pos ⟨rfl,rfl⟩];show(match valueR (valT o.val++r) with | .error e=>_ | .ok (v,l)=>_)=_;rw[e9 hv hr.ends];simp only;rw[show({ lI (ly o.r) o.val with mode:=2 }:OpV)=o from sh]
 ·
  have sh:(⟨5,o.r,o.m,o.md,o.amt,0,0,emp,emp,false,3⟩:OpV)=o:=by
   have:=hb;unfold cL at this
   rwa [nG,nG,nG,if_pos k,nG,if_pos e,k,e]at this
  obtain⟨i1,i2,i3,i4⟩:=ve hi;rw[if_neg (show ¬o.mode=1 by omega),if_neg (show ¬o.mode=2 by omega),if_pos e,map_cons,map_cons,map_append]
  have key:∀(x:List Tok),changedR ({ ly o.r with mode:=3,m:=o.m,md:=1,amt := -1 }:OpV) 12 (-1) (x++ax dq::r)=.ok (o,ax dq::r) →
    (if(bc dq (ax aA::nameT (dv o.m)::(x++ax dq::r))).1=true then qR (ly o.r) (bc dq (ax aA::nameT (dv o.m)::(x++ax dq::r))).2 else iE (ly o.r) (ax aA::nameT (dv o.m)::(x++ax dq::r)))=.ok (o,r):=fun x hx=>by
   rw[xC (by rw[nT];decide),if_neg (by simp)];unfold iE;rw[iu];simp only;rw[xA i1,if_pos rfl];show AD ({ ly o.r with mode:=3,m:=o.m,md:=1,amt := -1 }:OpV) (x++ax dq::r)=_;unfold AD;rw[hx];simp only;rw[if_neg (by rw[hi];simp),iu]
  by_cases hp:o.md=1∧o.amt = -1
  ·rw[if_pos hp];rw[hp.1,hp.2]at sh;exact key [] (by rw[nil_append,AA (by decide),show({ ly o.r with mode:=3,m:=o.m,md:=1,amt := -1 }:OpV)=o from sh])
  ·rw[if_neg hp,Dc];rw[show(sg aA).2::(true,nameT (dv o.m)).2::(wZ o (o.amt == -1)++[sg dq].map (fun x:Bool×Tok=>x.2))++r=ax aA::nameT (dv o.m)::(wZ o (o.amt == -1)++ax dq::r) by simp[sg]];refine key _ ?_;have hm3:=C9 (o:=o) (by omega) (by omega);unfold wZ;rw[nG];by_cases hs:o.amt = -1
   ·rw[if_pos (by rw[hs];rfl)];rw[show[ax aA,nameT (an 3 o.md).1]++ax dq::r=ax aA::nameT (an 3 o.md).1::ax dq::r from rfl,qk hm3 (by omega) (by omega) (by rw[nT];decide)];rw[hs]at sh;simp only[ly,sh]
   ·rw[if_neg (by simpa using hs)];rw[show[ax aA,nameT (an 3 o.md).1,ax aU,Ex.numT o.amt]++ax dq::r=ax aA::nameT (an 3 o.md).1::ax aU::Ex.numT o.amt::ax dq::r from rfl,qj hm3 (by omega) (by omega) (by omega) (xn r)];simp only[ly,sh]
theorem P6 (h:OpOk o)(hr:Tail r)(ha:Jk o r):operR (txT o++r)=.ok (aF o,r):=by
 obtain⟨hb,hc⟩:=cJ (cW h.chk).1;rcases hc with ⟨k,_⟩ | ⟨k,_⟩ | k | ⟨k,_⟩ | ⟨k,_⟩
 ·exact P8 h k hr
 ·exact P5 h k hr
 ·exact Tw h k hr
 ·rcases k with k | k | k | k | k
  ·exact Mu h k
  ·exact P9 h k
  ·exact P2 h k hr
  ·exact P7 h k hr
  ·exact P3 h k
 ·exact P4 h k hr ha
end
end Go.Proofs.YtnhbidpdadkcjaaGreatDoor
namespace Go.Proofs.YtnhbidpdadkcjaaGreatDoor
open Ex (ax nameT valT ValOk)
theorem Tp {n:Int}(h:0≤n):Ex.printF ⟨n,emp,emp⟩=(ng n,0):=by
 unfold Ex.printF ng;rw[if_neg (by simp),if_neg (by simp),if_pos ⟨rfl,rfl⟩,if_neg (show ¬n<0 by omega)]
theorem Eb {v:Val}(h:(Ex.printF v).2=0):fB (iJ v false)=0:=by
 have hk:(iJ v false).kind=2:=rfl;have hl:(iJ v false).lo=false:=rfl
 have hb:cL (iJ v false)=iJ v false:=by
  unfold cL;rw[nG,if_pos hk,if_neg (by rw[hl];simp)];rfl
 have ha:dA (iJ v false) 1=true:=rfl
 have hf:iI (iJ v false)=true:=by
  unfold iI;rw[if_neg (not_not_intro hb),nG,if_pos hk,ha]
 unfold fB;rw[hf,if_neg (by simp),if_neg (not_not_intro (show(prO (iJ v false)).2=0 from h)),if_neg];rintro⟨h3,-⟩;omega
theorem na (s:ByteArray):ab (aU++s) 0=35:=by
 rw[gq,aW];rfl
theorem Cg (v:Val):aS (iJ v false)=aU++(Ex.printF v).1:=by
 have hk:(iJ v false).kind=2:=rfl;unfold aS;rw[nG,if_pos hk];show(aU++(Ex.printF v).1)++emp=_;exact ByteArray.append_empty
def X0 (j:Int):Bool:=!decide ((ag 3 6 (an 8 j).1).2=0)||(decide (fB (lA 6 (ag 3 6 (an 8 j).1).1)=0)&&!(ab (aS (lA 6 (ag 3 6 (an 8 j).1).1)) 0==35))
theorem SK:∀j:Fin 6,X0 (j.val:Int)=true∧(ab (an 8 (j.val:Int)).1 0==35)=false:=by decide +kernel
structure Cr (o p:OpV):Prop where
 ok:OpOk p
 hash:(ab (aS p) 0==35)=(ab (aS o) 0==35)
 alone:p=o∨aloneM p=false
theorem BT {o:OpV}(h:OpOk o){n:Int}(n0:0≤n)(n1:n<100)(ht:aS o=aU++ng n):Cr o (qD n):=by
 have e:qD n=iJ ⟨n,emp,emp⟩ false:=rfl;refine⟨⟨⟨⟨by show emp.size≤_;decide,by show emp.size≤_;decide⟩,by show -9223372036854775808≤n;omega,by show n≤9223372036854775807;omega⟩,?_⟩,?_,.inr rfl⟩
 ·rw[e];exact Eb (by rw[Tp n0])
 ·rw[e,Cg,ht,na,na]
theorem zD {o:OpV}(h:OpOk o):Cr o (aF o):=by
 have same:aF o=o→Cr o (aF o):=fun e=>by rw[e];exact⟨h,rfl,.inl rfl⟩
 by_cases k3:o.kind=3
 ·cases ha:oZ o with
  |true =>
   have ep:aF o=iJ o.val false:=by
    unfold aF;rw[if_neg (not_not_intro h.chk),if_pos k3,if_pos ha];rfl
   have et:aS o=aU++mN o:=by
    unfold aS;rw[nG,nG,if_pos k3,if_pos ha]
   rw[ep];refine⟨⟨uj h.ok rfl rfl rfl,Eb (cW h.chk).2.1⟩,?_,.inr rfl⟩;rw[Cg,et,na,na]
  |false =>
   refine same ?_;unfold aF;rw[if_neg (not_not_intro h.chk),if_pos k3,if_neg (by rw[ha];simp)]
 by_cases k7:o.kind=7
 ·by_cases hn:(an 4 o.n).2=0
  ·refine same ?_;unfold aF;rw[if_neg (not_not_intro h.chk),if_neg k3,if_pos k7,if_neg (not_not_intro hn)]
  ·have ep:aF o=qD o.n:=by
    unfold aF;rw[if_neg (not_not_intro h.chk),if_neg k3,if_pos k7,if_pos hn]
   obtain⟨n0,n1⟩:=h.named.2.2 (.inl k7);rw[ep];refine BT h n0 n1 ?_;unfold aS dS;rw[nG,nG,nG,nG,nG,if_pos k7,if_neg hn]
 by_cases k8:o.kind=8
 ·by_cases hn:(an 7 o.n).2=0
  ·refine same ?_;unfold aF;rw[if_neg (not_not_intro h.chk),if_neg k3,if_neg k7,if_pos k8,if_neg (not_not_intro hn)]
  ·have ep:aF o=qD o.n:=by
    unfold aF;rw[if_neg (not_not_intro h.chk),if_neg k3,if_neg k7,if_pos k8,if_pos hn]
   obtain⟨n0,n1⟩:=h.named.2.2 (.inr (.inl k8));rw[ep];refine BT h n0 n1 ?_;unfold aS dS;rw[nG,nG,nG,nG,nG,nG,if_pos k8,if_neg hn]
 by_cases k9:o.kind=9
 ·obtain⟨n0,n1⟩:=h.n (.inr (.inr (.inr (.inr k9))));rw[k9]at n1;obtain⟨j,hj⟩:=eq_ofNat_of_zero_le n0;have h5:j7 9=5:=rfl;have hj6:j<6:=by omega
  have hn:(an 8 o.n).2=0:=by rw[hj];exact BR ⟨j,hj6⟩
  obtain⟨f1,f2⟩:=SK ⟨j,hj6⟩;simp only at f1 f2;rw[←hj]at f1 f2
  have ex:aS o=(an 8 o.n).1:=by
   unfold aS dS;rw[nG,nG,nG,nG,nG,nG,nG,if_pos k9,if_pos hn]
  have ep:aF o=if(ag 3 6 (an 8 o.n).1).2=0 then lA 6 (ag 3 6 (an 8 o.n).1).1 else o:=by
   unfold aF;rw[if_neg (not_not_intro h.chk),if_neg k3,if_neg k7,if_neg k8,if_pos k9,ex];rfl
  by_cases h6:(ag 3 6 (an 8 o.n).1).2=0
  ·rw[if_pos h6]at ep;unfold X0 at f1;rw[decide_eq_true h6]at f1;simp only[Bool.not_true,Bool.false_or,and_eq_true,decide_eq_true_eq,Bool.not_eq_true']at f1;rw[ep];refine⟨⟨uk rfl rfl rfl,f1.1⟩,?_,.inr rfl⟩;rw[f1.2,ex,f2]
  ·rw[if_neg h6]at ep;exact same ep
 ·exact same (oE ⟨k3,k7,k8,k9⟩)
theorem KI {a b:OpV}(ha:OpOk a)(hb:OpOk b)(h:fy a b=false):fy (aF a) (aF b)=false:=by
 have pa:=zD ha;have pb:=zD hb;rw[xX ha.chk hb.chk]at h;rw[xX pa.ok.chk pb.ok.chk,pb.hash];rcases pa.alone with e | e
 ·rw[e];exact h
 ·rw[e];rfl
theorem ox:¬(ag 3 3 emp).2=0:=by decide +kernel
theorem EG {o:OpV}(h:OpOk o)(x:List Tok):¬(ag 3 3 (atF (txT o++x) 1 0)).2=0:=by
 have nm:∀{k n:Int},(k=2∨k=3∨k=4∨k=6∨k=7∨k=8)→¬k=3→¬(ag 3 3 (atF ((gC k n).map (·.2)++x) 1 0)).2=0:=fun hk h3=>by
  unfold gC;split
  ·rename_i hn;exact(i6 hk hn).2.2.1 h3
  ·exact ox
 unfold txT ij;split
 ·rename_i k;exact(gr (h.reg k)).2.2
 split
 ·unfold iV;split<;>exact ox
 split
 ·rename_i k;split
  ·exact ox
  ·rename_i ha;obtain⟨t,y,ev,hx⟩:=Ch o.val;have hna:¬(o.plus=emp∧o.minus=emp):=fun e=>ha (by unfold oZ;rw[decide_eq_true e.1,decide_eq_true e.2];rfl);have ht:t=if o.plus=emp then Ex.numT 0 else nameT o.plus:=hx.resolve_left hna
   rw[gZ,ev,ht];split
   ·exact ox
   ·rename_i hp;exact HN (((cW h.chk).2.2 k).resolve_left hp)
 split
 ·exact nm (.inl rfl) (by decide)
 split
 ·exact nm (.inr (.inr (.inr (.inl rfl)))) (by decide)
 split
 ·exact nm (.inr (.inr (.inl rfl))) (by decide)
 split
 ·exact nm (.inr (.inr (.inr (.inr (.inl rfl))))) (by decide)
 split
 ·exact nm (.inr (.inr (.inr (.inr (.inr rfl))))) (by decide)
 ·exact ox
theorem Hh {o:OpV}(h:OpOk o){x:List Tok}(e:atF (txT o++x) 4 0=aU):ab (aS o) 0=35:=by
 obtain⟨t,r,et⟩:=uH h;have hc:=(vH h (false,t) (by rw[et];simp)).1
 have e2:(if t.kind=4 then t.text else emp)=aU:=by
  have:txT o++x=t::(r.map (·.2)++x):=by unfold txT;rw[et];rfl
  rw[this]at e;exact e
 have k4:t.kind=4:=by
  by_cases k:t.kind=4
  ·exact k
  ·rw[if_neg k]at e2;exact absurd e2 (by decide)
 rw[if_pos k4]at e2
 have ex:Ex.txtL t=[35]:=by
  unfold Ex.txtL Ex.textT;simp only at hc;rw[if_pos hc,nG,nG,e2];rfl
 rw[gq,←vz h,et,bp,ex];rfl
def ko (l:List OpV):List Tok:=match l with
 |[]=>[]
 |o::r=>ax aA::qI (o::r)
theorem lW (o:OpV)(r:List OpV):qI (o::r)=txT o++ko r:=by
 cases r with
 |nil=>rw[qI,ko,append_nil]
 |cons p r=>rw[qI,ko]
theorem MZ {l:List OpV}(h:∀o∈l,OpOk o):Tail (ko l):=by
 cases l with
 |nil=>exact .inl rfl
 |cons p r=>exact .inr ⟨_,rfl,by rw[lW];exact EG (h p (by simp)) _⟩
theorem GM {o:OpV}{l:List OpV}(ho:OpOk o)(h:∀p∈l,OpOk p)(hb:∀p r,l=p::r→fy o p=false):Jk o (ko l):=by
 intro ha;cases l with
 |nil=>rintro⟨e,-⟩;rw[show atF (ko []) 4 0=emp from qe _ _]at e;exact absurd e (by decide)
 |cons p r =>
  rintro⟨-,e⟩;have e2:atF (txT p++ko r) 4 0=aU:=by rw[←lW];exact e
  have h35:=Hh (h p (by simp)) e2;have:=hb p r rfl;rw[xX ho.chk (h p (by simp)).chk,ha,h35]at this;cases this
theorem FG:∀(l pre:List OpV) (N:Nat),(∀o∈pre++l,OpOk o)→(∀i a b,(pre++l)[i]? = some a→(pre++l)[i+1]? = some b→fy a b=false)→pre.length+l.length≤8→l.length≤N →
  gF N (pre.map aF) (if pre=[] then qI l else ko l)=.ok ((pre++l).map aF)
 |[],pre,N,_,_,_,_=>by
  have:(if pre=[] then qI [] else ko [])=[]:=by split<;>rfl
  rw[this,jD,append_nil]
 |o::r,pre,0,_,_,_,hn=>by simp at hn
 |o::r,pre,N+1,h,hb,h8,hn=>by
  have ho:=h o (by simp);have hr:∀p∈r,OpOk p:=fun p hp=>h p (by simp[hp]);have hpre:∀p∈pre,OpOk p:=fun p hp=>h p (by simp[hp])
  have hap:Jk o (ko r):=GM ho hr fun p q e=>by
   subst e;exact hb pre.length o p (by simp) (by simp)
  have hop:=P6 ho (MZ hr) hap;rw[length_cons]at h8 hn;have pok:=zD ho
  have hg:tQ (pre.map aF) (aF o)=false:=by
   unfold tQ;cases hl:(pre.map aF).getLast? with
   |none=>rfl
   |some q' =>
    rw[List.getLast?_map,Option.map_eq_some_iff]at hl;obtain⟨q,hq,rfl⟩:=hl
    have hlen:0<pre.length:=by
     cases pre with
     |nil=>simp at hq
     |cons x y=>simp
    have hq1:(pre++o::r)[pre.length-1]? = some q:=by
     rw[List.getElem?_append_left (by omega),←List.getLast?_eq_getElem?];exact hq
    have hq2:(pre++o::r)[pre.length-1+1]? = some o:=by
     rw[show pre.length-1+1=pre.length by omega];simp
    exact KI (hpre q (List.mem_of_getLast? hq)) ho (hb _ _ _ hq1 hq2)
  have hs:stepR (pre.map aF) (if pre=[] then qI (o::r) else ko (o::r))=.ok ((pre++[o]).map aF,ko r):=by
   have e1:(if pre.map aF=[] then(.ok (if pre=[] then qI (o::r) else ko (o::r)):Except Int (List Tok)) else mustR aA (if pre=[] then qI (o::r) else ko (o::r)))=.ok (txT o++ko r):=by
    by_cases hp:pre=[]
    ·rw[if_pos (by rw[hp];rfl),if_pos hp,lW]
    ·rw[if_neg (by simpa using hp),if_neg hp,←lW];exact iu _ _
   unfold stepR;rw[e1];simp only;rw[if_neg (by rw[length_map];omega),hop];simp only;rw[if_neg (not_not_intro pok.ok.chk),if_neg (by rw[hg];simp),map_append];rfl
  have hne:(if pre=[] then qI (o::r) else ko (o::r))≠[]:=by
   obtain⟨t,x,et⟩:=uH ho;by_cases hp:pre=[]
   ·rw[if_pos hp,lW];unfold txT;rw[et];simp
   ·rw[if_neg hp];simp[ko]
  rw[gG hne,hs];simp only;have ih:=FG r (pre++[o]) N (by simpa using h) (by simpa using hb) (by rw[length_append,List.length_singleton];omega) (by omega);rw[if_neg (by simp)]at ih;rw[ih];simp
theorem badPair_all:∀{l:List OpV},jf l=false→∀i a b,l[i]? = some a→l[i+1]? = some b→fy a b=false:=fun h i a b h1 h2=>by
 cases hb:fy a b with
 |false=>rfl
 |true=>rw[sr h1 h2 hb]at h;cases h
theorem Fq:∀{l:List OpV},(∀o∈l,OpOk o)→l.length≤(qI l).length
 |[],_=>zero_le _
 |o::r,h=>by
  obtain⟨t,x,et⟩:=uH (h o (by simp));have ih:=Fq (l:=r) fun p hp=>h p (by simp[hp]);rw[lW];unfold txT;rw[et];cases r with
  |nil=>simp
  |cons p r =>
   simp only[ko,map_cons,length_append,length_cons]at ih ⊢;omega
theorem OO {l:List OpV}(h:∀o∈l,OpOk o)(hb:jf l=false)(h8:l.length≤8):listF (qI l)=.ok (l.map aF):=by
 have:=FG l [] (qI l).length (by simpa using h) (by simpa using badPair_all hb) (by simpa using h8) (Fq h);simpa[listF] using this
end Go.Proofs.YtnhbidpdadkcjaaGreatDoor
namespace Go.Proofs.YtnhbidpdadkcjaaGreatDoor
structure Za (out:List OpV):Prop where
 plain:∀o∈out,aF o=o
 bad:∀i a b,out[i]? = some a→out[i+1]? = some b→fy a b=false
theorem VG {s:ByteArray}{ts:List Tok}{n:Nat}(h:gB (aa s)=(ts,n,0)):RdOk ts:=by
 have hl:(aa s).length=s.size:=ae s;unfold gB at h;split at h
 ·cases h
 ·rename_i hz;have hr:∀z∈aa s,0≤z∧z≤255:=fun z hz=>jc hz;have h1:=wU ts 0 n 0 (zero_le _) (by rw[List.drop_zero];exact h);have h2:=rb hr (by omega) ts 0 n 0 (zero_le _) (by rw[List.drop_zero];exact h);refine⟨fun t ht hk=>?_,by have:=h1.2.2.2;omega⟩
  have key:∀(ts:List Tok) (p:Nat),Rises (aa s).length p ts→∀t∈ts,t.kind=1→br t.text=true:=by
   intro ts
   induction ts with
   |nil=>intro p _ t ht;cases ht
   |cons u ts ih =>
    rintro p ⟨⟨hc,hsz⟩,a,-,-,-,hrest⟩ t ht hk;rcases List.mem_cons.1 ht with rfl | ht
    ·obtain⟨hi,-⟩:=Ex.check_is hc;unfold isT at hi;rw[if_pos hk]at hi;unfold br;rw[decide_eq_true hsz,Ex.nameB_nameL,hi];rfl
    ·exact ih _ hrest t ht hk
  exact key ts 0 h2 t ht hk
end Go.Proofs.YtnhbidpdadkcjaaGreatDoor
