import Derived.Lib.Bytealg
import Derived.Test.YtnhbidpdadkcjaaGreatDoorG11
import Derived.Lib.Strings
import Derived.Lib.Slices
import Derived.Lib.Walk
import Derived.WalkSpells
import Derived.WalkLawsBesides
import Derived.Lib.SlBytesRow
open Go.RowKit
set_option linter.unusedVariables false
set_option linter.unusedSimpArgs false
set_option maxRecDepth 100000
set_option maxHeartbeats 8000000
open List (count_cons)
open Int (pow_pos)
namespace Go.Proofs.YtnhbidpdadkcjaaGreatDoor
open Tryz
def fW (c:UInt8):List UInt8→List (List UInt8)
 |[]=>[[]]
 |x::r=>if x==c then[]::fW c r else match fW c r with
  |[]=>[[x]]
  |p::ps=>(x::p)::ps
theorem wK (c:UInt8):∀l:List UInt8,(fW c l).length=l.count c+1
 |[]=>rfl
 |x::r=>by
  have ih:=wK c r;rw[fW,count_cons];split
  ·rw[List.length_cons,ih]
  ·split
   ·rename_i h;rw[h]at ih;simp at ih
   ·rename_i p ps h;rw[h]at ih;simpa using ih
theorem qF {c:UInt8}:∀{l:List UInt8},l.count c=0→fW c l=[l]
 |[],_=>rfl
 |x::r,h=>by
  rw[count_cons]at h;have hx:¬(x==c)=true:=by intro e;rw[if_pos e]at h;omega
  rw[if_neg hx]at h;rw[fW,if_neg hx,qF (l:=r) (by omega)]
theorem wJ {c:UInt8}:∀{l:List UInt8},0<l.count c→∃m:Nat,Lib.indexByte l c=m∧m<l.length∧fW c l=l.take m::fW c (l.drop (m+1))∧(l.drop (m+1)).count c+1=l.count c
 |[],h=>by simp at h
 |x::r,h=>by
  by_cases hx:(x==c)=true
  ·refine⟨0,by simp[Lib.indexByte,hx],by simp,?_,?_⟩
   ·rw[fW,if_pos hx];rfl
   ·rw[count_cons,if_pos hx];rfl
  ·rw[count_cons,if_neg hx]at h;obtain⟨m,h1,h2,h3,h4⟩:=wJ (l:=r) (by omega);refine⟨m+1,?_,by simpa using h2,?_,?_⟩
   ·have hm:¬((m:Int) == -1)=true:=by
     rw[beq_iff_eq];omega
    rw[Lib.indexByte,if_neg hx,h1,if_neg hm];omega
   ·rw[fW,if_neg hx,h3];rfl
   ·rw[count_cons,if_neg hx];simpa using h4
def hdU (p:ByteArray):UInt8:=p.data.toList.headD 0
def bX (s p:ByteArray):List ByteArray:=(fW (hdU p) s.data.toList).map fun l=>⟨l.toArray⟩
theorem nN (s p:ByteArray):(bX s p).length=s.data.toList.count (hdU p)+1:=by
 unfold bX;rw[List.length_map,wK]
theorem JK (s p:ByteArray):s.data.toList.count (hdU p)≤s.size:=by
 have:=List.count_le_length (a:=hdU p) (l:=s.data.toList);simpa using this
theorem EP {s p:ByteArray}(h:(bX s p).length=1):bX s p=[s]:=by
 rw[nN]at h;unfold bX;rw[qF (by omega)];rfl
theorem EO {s p:ByteArray}(h:1<(bX s p).length):∃m:Nat,Lib.indexByte s.data.toList (hdU p)=m∧m<s.size∧bX s p=s.extract 0 m::bX (s.extract (m+1) s.size) p:=by
 rw[nN]at h;obtain⟨m,h1,h2,h3,_⟩:=wJ (l:=s.data.toList) (c:=hdU p) (by omega);refine⟨m,h1,by simpa using h2,?_⟩;unfold bX;rw[h3,List.map_cons];congr 1
 ·apply ByteArray.ext;rw[←Array.toList_inj,ByteArray.data_extract,Array.toList_extract];simp
 ·congr 2;rw[ByteArray.data_extract,Array.toList_extract];rw[List.extract_eq_take_drop,List.take_of_length_le];simp
theorem we {p:ByteArray}(h:p.size=1):p=⟨#[hdU p]⟩:=by
 have h1:p.data.toList.length=1:=by simpa using h
 apply ByteArray.ext;rw[←Array.toList_inj];unfold hdU;cases hd:p.data.toList with
 |nil=>rw[hd]at h1;cases h1
 |cons x l =>
  cases l with
  |nil=>rfl
  |cons _ _=>rw[hd]at h1;simp at h1
theorem GA (s:ByteArray)(c:UInt8)(w:World) :
  Calls prog 264 #[.string s,.string ⟨#[c]⟩] w fun e w'=>e=.returned (.int .i64 (Lib.countByte s.data.toList c))∧w'=w:=by
 go_enter func264,ntmps264;go_wp2;rw[run_callFunc_extern func282 (by kernel_rfl) (by kernel_rfl) (by kernel_rfl) (e:=Extern.BytealgCount.count) (by kernel_rfl),Lib.run_countString];simp only[Result.andThen];rw[Oper.upon_value];go_wp2;go_ret;exact⟨rfl,rfl⟩
theorem jB (s:ByteArray)(c:Int)(w:World) :
  Calls prog 89 #[.string s,.int .u8 c] w fun e w'=>e=.returned (.int .i64 (Lib.indexByte s.data.toList c.toNat.toUInt8))∧w'=w:=by
 go_enter func89,ntmps89;go_wp2;rw[run_callFunc_extern func142 (by kernel_rfl) (by kernel_rfl) (by kernel_rfl) (e:=Extern.BytealgIndexByte.indexByte) (by kernel_rfl),Lib.run_indexByteString];simp only[Result.andThen];rw[Oper.upon_value];go_wp2;go_ret;exact⟨rfl,rfl⟩
theorem xh (s:ByteArray)(c:UInt8)(w:World) :
  Calls prog 190 #[.string s,.string ⟨#[c]⟩] w fun e w'=>e=.returned (.int .i64 (Lib.indexByte s.data.toList c))∧w'=w:=by
 go_enter func190,ntmps190
 go_wp2_with (go_at_call 89;refine(jB _ _ _).mono ?_;rintro e w' ⟨rfl,rfl⟩)
 ·have h:([c]==s.toList)=true:=by assumption
  go_ret;refine⟨?_,rfl⟩;have e:s.data.toList=[c]:=by rw[←Lib.toList_data];exact(beq_iff_eq.1 h).symm
  rw[e];simp[Lib.indexByte]
 ·go_ret;exact⟨rfl,rfl⟩
abbrev Qf:am prog 264 :=
 Bv _ (asP fun _ _=>by go_simp) aT aT (fun _ p=>p.size=1) (fun s p=>iv (((bX s p).length:Int)-1)) (asP fun _ _=>rfl) (asP fun s p hp M w u v _ hu hv=>by
  have hu':u=.string s:=hu;have hv':v=.string p:=hv;subst hu';subst hv';rw[we hp];refine(GA s (hdU p) w).mono ?_;rintro e w' ⟨rfl,rfl⟩;refine⟨⟨_,rfl,?_⟩,.refl _ _⟩;rw[←we hp,nN];show _=_;congr 1;unfold Lib.countByte;omega)
abbrev Tb:am prog 190 :=
 Bv _ (asP fun _ _=>by go_simp) aT aT (fun _ p=>p.size=1) (fun s p=>iv (Lib.indexByte s.data.toList (hdU p))) (asP fun _ _=>rfl) (asP fun s p hp M w u v _ hu hv=>by
  have hu':u=.string s:=hu;have hv':v=.string p:=hv;subst hu';subst hv';have e1:=we hp;generalize hdU p=c at *
  subst e1;refine(xh s c w).mono ?_;rintro e w' ⟨rfl,rfl⟩;exact⟨⟨_,rfl,rfl⟩,.refl _ _⟩)
abbrev DN:am prog 175 :=
 mz2 func175 (aT) (aT) ((fun _ p=>p.size=1)) ((fun s p=>.ret (iv (Lib.indexByte s.data.toList (hdU p))))) (asP fun s p hp=>by
 refine aq [⟨_,Tb⟩] rfl ?_;simp only[go_sem,hp])
def Uy:ByteArray:=⟨#[]⟩
def qD (s:ByteArray):List LV:=[.v (.string s)]
def lz (all:List ByteArray)(i:Nat):List (List LV):=(all.take i).map qD++List.replicate (all.length-i) (qD Uy)
theorem xO {all:List ByteArray}{i:Nat}(h:i≤all.length):(lz all i).length=all.length:=by
 unfold lz;simp;omega
theorem DH (all:List ByteArray):lz all 0=List.replicate all.length [.v (.string ⟨#[]⟩)]:=rfl
theorem GQ (all:List ByteArray):lz all all.length=(all.map jr.enc).map bp:=by
 unfold lz;rw[List.take_of_length_le (Nat.le_refl _),Nat.sub_self,List.replicate_zero,List.append_nil,List.map_map];rfl
theorem GR (all:List ByteArray)(i:Nat)(g:Nat→Nat):(lz all i).map (fun e=>e.map (·.ren g))=lz all i:=by
 unfold lz;rw[List.map_append,List.map_map,List.map_replicate];rfl
theorem AW {all:List ByteArray}{i:Nat}(h:i<all.length):(lz all i)[i]? = some [.v (.string ⟨#[]⟩)]:=by
 unfold lz;rw[List.getElem?_append_right (by simp;omega),List.getElem?_replicate,if_pos (by simp;omega)];rfl
theorem xP {all:List ByteArray}{i:Nat}{x:ByteArray}(hx:all[i]? = some x):(lz all i).set i (qD x)=lz all (i+1):=by
 have hi:i<all.length:=(List.getElem?_eq_some_iff.1 hx).1;unfold lz;rw[show all.length-i=(all.length-(i+1))+1 by omega,List.replicate_succ,List.set_append_right _ _ (by simp;omega)];have e:i-((all.take i).map qD).length=0:=by simp;omega
 rw[e,List.set_cons_zero,List.take_add_one,hx];simp
theorem A8 (s p:ByteArray)(hp:p.size=1)(hs:s.size≤1099511627776):Sw f246 0 ⟨0,ax 0 [aT.enc s,aT.enc p,(bq .i64).enc 0,(bq .i64).enc (-1)],[]⟩ (oQ f246 (.ret (.s (.l (.d (.sd 1 ((bX s p).map jr.enc))))))):=by
 refine aq [⟨_,Qf⟩,⟨_,DN⟩] rfl ?_;have hpe:¬p=⟨#[]⟩:=by rintro rfl;cases hp
 obtain⟨all,hall⟩:∃all,bX s p=all:=⟨_,rfl⟩;have hlen:all.length=s.data.toList.count (hdU p)+1:=by rw[←hall,nN]
 have hcnt:=JK s p;have h1:all.length≤s.size+1:=by omega
 have e1:IntKind.i64.wrap ((all.length:Int)-1+1)=all.length:=by rw[IntKind.wrap_i64];omega
 have e2:IntKind.i64.wrap ((s.size:Int)+1)=s.size+1:=by rw[IntKind.wrap_i64];omega
 have e3:IntKind.i64.wrap ((all.length:Int)-1)=all.length-1:=by rw[IntKind.wrap_i64];omega
 have hmin:¬((s.size:Int)+1<all.length):=by omega
 have hm:maxLen=9223372036854775807:=rfl;simp only[go_sem,hpe,hp,hall,e1,e2,e3,hmin];refine⟨by rw[hm];omega,?_⟩;refine bF (ι:=Nat×ByteArray) (fun x=>x.1<all.length∧x.2.size≤s.size∧bX x.2 p=all.drop x.1) (fun x=>⟨1,[(0,sv x.2),(1,sv p),(2,iv 0),(3,iv ((all.length:Int)-1)),(9,.s (.l (.sl 0 0 all.length))),(10,iv x.1)],[(0,some ⟨true,9,1,lz all x.1⟩)]⟩) (fun x=>all.length-x.1) (0,s) ⟨by simp only;omega,Nat.le_refl _,hall⟩ (Wk.renL [304] (by simp) (by simp) (by simp) rfl (by simp[ac,Blk.ren,DH,LV.ren])) ?_;rintro⟨i,r⟩ ⟨hi,hrs,hr⟩;simp only at hi hrs hr;refine aw [⟨_,DN⟩] ?_;have hl:=congrArg List.length hr;rw[List.length_drop]at hl;by_cases hlt:i+1<all.length
 ·obtain⟨m,m1,m2,m3⟩:=EO (s:=r) (p:=p) (by omega);rw[m3]at hr;have hltI:(i:Int)<(all.length:Int)-1:=by omega
  have hat:all[i]? = some (r.extract 0 m):=by
   have:=congrArg (·[0]?) hr;simpa using this.symm
  have hnext:bX (r.extract (m+1) r.size) p=all.drop (i+1):=by
   have:=congrArg List.tail hr;simpa using this
  have f1:¬(m:Int)<0:=by omega
  have f2:IntKind.i64.wrap ((m:Int)+0)=m:=by rw[IntKind.wrap_i64];omega
  have f3:=wI m;have f4:=wI i;simp only[go_sem,hltI,hp,m1,f1,f2,f3,f4,xO (Nat.le_of_lt hi),AW hi,Int.toNat_zero];refine⟨by omega,by omega,by omega,(i+1,r.extract (m+1) r.size),⟨by simp only;omega,?_,hnext⟩,by simp only;omega,Wk.renL [0] (by simp) (by simp) (by simp) rfl ?_⟩
  ·simp only[ByteArray.size_extract];omega
  ·have:=xP hat;unfold qD at this;simp[ac,Blk.ren,this,GR]
 ·have hil:i+1=all.length:=by omega
  have hr1:=EP (s:=r) (p:=p) (by omega);rw[hr1]at hr
  have hat:all[i]? = some r:=by
   have:=congrArg (·[0]?) hr;simpa using this.symm
  have hltI:¬(i:Int)<(all.length:Int)-1:=by omega
  have f4:IntKind.i64.wrap ((i:Int)+1)=all.length:=by rw[IntKind.wrap_i64];omega
  have hset:=xP hat;unfold qD at hset;rw[hil,GQ]at hset;have hiI:(i:Int)<all.length:=by omega
  simp only[go_sem,hltI,xO (Nat.le_of_lt hi),AW hi,f4,hset,hiI,Int.toNat_zero,Nat.sub_zero]
  trace_state
def cS:ByteArray:=⟨#[99]⟩
def cB:List ByteArray:=[s1,emp,cS,cS,emp]
def fQ:List Int:=[3,7,15,15,7]
def cV:List Nat:=[1,3,4,4,3]
def Md (i:Nat)(d:Int):Int:=if i=0 then d-2 else d
def bT (lim:Nat)(i:Nat)(n:Int)(w:ByteArray):Option Int :=
 if(ln w (cB.getD i emp)).2=true∧(fG lim (ln w (cB.getD i emp)).1 (fQ.getD i 0)).2=true∧0≤Md i (fG lim (ln w (cB.getD i emp)).1 (fQ.getD i 0)).1 then
  some (n*2 ^ cV.getD i 0+Md i (fG lim (ln w (cB.getD i emp)).1 (fQ.getD i 0)).1)
 else none
def pm (lim:Nat)(l:List ByteArray):Nat→Option Int
 |0=>some 0
 |i+1=>match pm lim l i,l[i]? with
  |some n,some w=>bT lim i n w
  |_,_=>none
def wN (lim:Nat)(s:ByteArray):Option Int:=if(bX s us).length=5 then pm lim (bX s us) 5 else none
theorem fL {lim:Nat}{s:ByteArray}{most:Int}(h:(fG lim s most).2=true):0≤(fG lim s most).1∧(fG lim s most).1≤most:=by
 unfold fG at h ⊢;split at h
 ·cases h
 ·rename_i hc;rw[if_neg hc];split at h
  ·rename_i n hn;simp only[decide_eq_true_eq]at h;exact⟨(qn hn).1,h⟩
  ·cases h
theorem wP {lim i:Nat}(hi:i<5){n:Int}{w:ByteArray}{m:Int}(h:bT lim i n w=some m):∃v,Md i (fG lim (ln w (cB.getD i emp)).1 (fQ.getD i 0)).1=v∧0≤v∧v<2 ^ cV.getD i 0∧m=n*2 ^ cV.getD i 0+v:=by
 unfold bT at h;split at h
 case isFalse=>cases h
 rename_i hc;injection h with h;refine⟨_,rfl,hc.2.2,?_,h.symm⟩;have:=fL hc.2.1;clear h hc;generalize fG lim (ln w (cB.getD i emp)).1 (fQ.getD i 0)=d at *
 have hi':i=0∨i=1∨i=2∨i=3∨i=4:=by omega
 rcases hi' with rfl | rfl | rfl | rfl | rfl<;>simp only[Md,fQ,cV,List.getD_cons_zero,List.getD_cons_succ]at this ⊢<;>simp<;>omega
theorem wO {lim:Nat}{l:List ByteArray}:∀{i:Nat} {n:Int},i≤5→pm lim l i=some n→0≤n∧n<2 ^ (4*i+1)
 |0,n,_,h=>by injection h with h;subst h;decide
 |i+1,n,hi,h=>by
  rw[pm]at h;split at h
  case h_2=>cases h
  rename_i m w hm hw;obtain⟨h0,h1⟩:=wO (i:=i) (by omega) hm;obtain⟨v,_,v0,v1,rfl⟩:=wP (by omega) h;have hi':i=0∨i=1∨i=2∨i=3∨i=4:=by omega
  rcases hi' with rfl | rfl | rfl | rfl | rfl<;>simp only[cV,List.getD_cons_zero,List.getD_cons_succ]at v1 h1 ⊢<;>simp at v1 h1 ⊢<;>omega
theorem IT {lim:Nat}{l:List ByteArray}{i:Nat}(h:pm lim l i=none):∀{j},i≤j→pm lim l j=none:=by
 intro j hj
 induction j with
 |zero =>
  obtain rfl:i=0:=by omega
  exact h
 |succ j ih =>
  by_cases e:i=j+1
  ·rw[←e];exact h
  ·rw[pm,ih (by omega)]
theorem mixed:Tryz.prog.follows .mixedOrders=true:=by kernel_rfl
def fC (lim:Nat)(s:ByteArray)(most:Int):AV:=.tup [.l (.v (.int .i64 (fG lim s most).1)),.l (.v (.bool (fG lim s most).2))]
theorem GG (s:ByteArray)(most:Int):Sw f226 0 ⟨0,ax 0 [aT.enc s,(bq .i64).enc most],[]⟩ (oQ f226 (.ret (fC 3 s most))):=by
 refine aq [] rfl ?_;by_cases h1:s=emp
 ·simp only[go_sem,h1,ak,fC,fG]
 ·have hne:¬s=emp:=h1;by_cases h2:3<s.size
  ·have h2':(3:Int)<s.size:=by omega
   simp only[go_sem,hne,ak,h2',h2,fC,fG]
  ·have h2':¬(3:Int)<s.size:=by omega
   have hpos:0<s.size:=Cv h1;have hp':(0:Int)<s.size:=by omega
   by_cases h4:1<s.size∧ab s 0=48
   ·have h3':(1:Int)<s.size:=by omega
    simp only[go_sem,hne,ak,h2,h2',h3',h4.1,h4.2,hp',fC,fG]
   ·have h3:=h4;by_cases h5:1<s.size
    ·have h3':(1:Int)<s.size:=by omega
     have h6:¬ab s 0=48:=fun h=>h4 ⟨h5,h⟩;simp only[go_sem,hne,ak,h2',h3',h6,hp'];clear h6 h3';refine bF (ι:=Nat×Int) (fun p=>p.1≤s.size∧lQ s p.1=some p.2) (fun p=>⟨0,[(0,sv s),(1,iv most),(26,iv s.size),(27,iv p.1),(6,iv p.2)],[]⟩) (fun p=>s.size-p.1) (0,0) ⟨Nat.zero_le _,rfl⟩ (wR []) ?_;rintro⟨i,n⟩ ⟨hi,hn⟩;refine aw [] ?_;simp only at hi hn;by_cases hlt:i<s.size
     ·have hltI:(i:Int)<s.size:=by omega
      have hb:=Fo hn (k:=2) (by omega);have hr:=ca s i;by_cases ha:ab s i<48
      ·have hd:=rg (lim:=3) (most:=most) hlt hn (.inl ha);simp only[go_sem,hltI,ha,fC,hd]
      ·by_cases hc:57<ab s i
       ·have hd:=rg (lim:=3) (most:=most) hlt hn (.inr hc);simp only[go_sem,hltI,ha,hc,fC,hd]
       ·have hn':lQ s (i+1)=some (10*n+(ab s i-48)):=by rw[lQ,hn];simp[ha,hc]
        have e1:IntKind.u8.wrap (ab s i-48)=ab s i-48:=by rw[IntKind.wrap_u8];omega
        have e2:IntKind.i64.wrap (10*n)=10*n:=by rw[IntKind.wrap_i64];omega
        have e3:IntKind.i64.wrap (10*n+(ab s i-48))=10*n+(ab s i-48):=by rw[IntKind.wrap_i64];omega
        have e4:=wI i;have e5:IntKind.i64.wrap (ab s i-48)=ab s i-48:=by rw[IntKind.wrap_i64];omega
        simp only[go_sem,hltI,ha,hc,e1,e2,e3,e4,e5];exact⟨(i+1,_),⟨hlt,hn'⟩,by omega,wR []⟩
     ·obtain rfl:i=s.size:=by omega
      have hI:¬(s.size:Int)<s.size:=by omega
      simp only[go_sem,hI,fC,fG,hne,h2,h3,hn]
    ·have h3':¬(1:Int)<s.size:=by omega
     simp only[go_sem,hne,ak,h2',h3',hp'];refine bF (ι:=Nat×Int) (fun p=>p.1≤s.size∧lQ s p.1=some p.2) (fun p=>⟨0,[(0,sv s),(1,iv most),(26,iv s.size),(27,iv p.1),(6,iv p.2)],[]⟩) (fun p=>s.size-p.1) (0,0) ⟨Nat.zero_le _,rfl⟩ (wR []) ?_;rintro⟨i,n⟩ ⟨hi,hn⟩;refine aw [] ?_;simp only at hi hn;by_cases hlt:i<s.size
     ·have hltI:(i:Int)<s.size:=by omega
      have hb:=Fo hn (k:=2) (by omega);have hr:=ca s i;by_cases ha:ab s i<48
      ·have hd:=rg (lim:=3) (most:=most) hlt hn (.inl ha);simp only[go_sem,hltI,ha,fC,hd]
      ·by_cases hc:57<ab s i
       ·have hd:=rg (lim:=3) (most:=most) hlt hn (.inr hc);simp only[go_sem,hltI,ha,hc,fC,hd]
       ·have hn':lQ s (i+1)=some (10*n+(ab s i-48)):=by rw[lQ,hn];simp[ha,hc]
        have e1:IntKind.u8.wrap (ab s i-48)=ab s i-48:=by rw[IntKind.wrap_u8];omega
        have e2:IntKind.i64.wrap (10*n)=10*n:=by rw[IntKind.wrap_i64];omega
        have e3:IntKind.i64.wrap (10*n+(ab s i-48))=10*n+(ab s i-48):=by rw[IntKind.wrap_i64];omega
        have e4:=wI i;have e5:IntKind.i64.wrap (ab s i-48)=ab s i-48:=by rw[IntKind.wrap_i64];omega
        simp only[go_sem,hltI,ha,hc,e1,e2,e3,e4,e5];exact⟨(i+1,_),⟨hlt,hn'⟩,by omega,wR []⟩
     ·obtain rfl:i=s.size:=by omega
      have hI:¬(s.size:Int)<s.size:=by omega
      simp only[go_sem,hI,fC,fG,hne,h2,h3,hn]
theorem Dl {P:Program}{src dst e:TypeId}(h1:P.underlying src=some (.slice e))(h2:P.underlying e=some (.int .u8))(h3:P.underlying dst=some .string){w:World}{b off:Nat}(zs:List Int)(hr:∀z∈zs,0≤z∧z≤255)(hc:∀(i:Nat) (z:Int),zs[i]? = some z→w.cell? ⟨b,off+i,none⟩=some (.int .u8 z)){m:Nat}(hm:m=zs.length)(cap:Nat) :
  (convert src dst (.slice (some ⟨b,off,none⟩) m cap)).run P w=.ok (.string (ao zs)) w:=by
 have hs:(ao zs).size=zs.length:=ge zs;rw[hm,←hs];refine Lib.run_convert_whole _ _ e _ h1 h2 h3 _ _ _ (fun i hi=>?_) cap;have hi':i<zs.length:=by rw[hs]at hi;exact hi
 have:=hr _ (List.getElem_mem hi');rw[hc i zs[i] (List.getElem?_eq_getElem hi')]
 have e1:(ao zs)[i]=UInt8.ofNat zs[i].toNat:=by
  change (ao zs).data[i]'(by simpa[ao] using hi')=_;simp[ao]
 rw[e1];simp;omega
theorem Mm (n:Int)(w:World)(h:0≤n∧n<1000) :
  Calls prog 216 #[.int .i64 n] w fun e w'=>e=.returned (.string (da n))∧Below w.heap.size w w':=by
 obtain⟨h0,h1⟩:=h;have d1:n.tdiv 100=n / 100:=Int.tdiv_eq_ediv_of_nonneg h0;have d2:n.tdiv 10=n / 10:=Int.tdiv_eq_ediv_of_nonneg h0;have d3:n.tmod 10=n % 10:=Int.tmod_eq_emod_of_nonneg h0;have d4:(n / 10).tmod 10=n / 10 % 10:=Int.tmod_eq_emod_of_nonneg (by omega);have HC:=Lib.hid fun(zs:List Int) (o:Obj) (off m cap:Nat) (hr:∀z∈zs,0≤z∧z≤255) (hc:∀(i:Nat) (z:Int),zs[i]? = some z→(w.alloc o).cell? ⟨w.heap.size,off+i,none⟩=some (.int .u8 z)) (hm:m=zs.length)=>Dl (P:=prog) Tryz.underlying39 Tryz.underlying5 Tryz.underlying9 (w:=w.alloc o) (b:=w.heap.size) (off:=off) zs hr hc hm cap
 have hcell:∀(a b c:Value) (t:TypeId) (i:Nat) (v:Value),[a,b,c][i]? = some v→(w.alloc (.cells #[a,b,c] t)).cell? ⟨w.heap.size,i,none⟩=some v:=by
  intro a b c t i v hv;have hb:(w.alloc (.cells #[a,b,c] t)).heap[w.heap.size]? = some (.cells #[a,b,c] t):=heap_alloc_new w _;rw[cell_of_row _ _ _ _ _ _ hb];simpa using hv
 have HCC:=Lib.hid hcell;clear hcell;go_enter func216,ntmps216
 go_wp2_with fail
 ·have h2:n<10:=by assumption
  have ht:da n=ao [48+n]:=by rw[da,if_pos h2]
  rw[HC.out [48+n] _ 2 1 1 (by simp;omega) (fun i z hz=>HCC.out _ _ _ _ _ _ (by
   cases i with
   |zero=>simp at hz;subst hz;simp;omega
   |succ i=>simp at hz)) rfl]
  go_wp2_with fail
  go_ret;rw[ht];exact⟨rfl,blw⟩
 ·have h2:10≤n:=by assumption
  have h3:n<100:=by assumption
  have ht:da n=ao [48+n / 10,48+n % 10]:=by rw[da,nG,if_pos h3]
  rw[HC.out [48+n / 10,48+n % 10] _ 1 2 2 (by simp;omega) (fun i z hz=>HCC.out _ _ _ _ _ _ (by
   match i with
   |0=>simp at hz;subst hz;simp;omega
   |1=>simp at hz;subst hz;simp
   |i+2=>simp at hz)) rfl]
  go_wp2_with fail
  go_ret;rw[ht];exact⟨rfl,blw⟩
 ·have h2:100≤n:=by assumption
  have ht:da n=ao [48+n / 100,48+n / 10 % 10,48+n % 10]:=by rw[da,nG,nG]
  rw[HC.out [48+n / 100,48+n / 10 % 10,48+n % 10] _ 0 3 3 (by simp;omega) (fun i z hz=>HCC.out _ _ _ _ _ _ (by
   match i with
   |0=>simp at hz;subst hz;simp
   |1=>simp at hz;subst hz;simp
   |2=>simp at hz;subst hz;simp
   |i+3=>simp at hz)) rfl]
  go_wp2_with fail
  go_ret;rw[ht];exact⟨rfl,blw⟩
abbrev wV:am prog 216 :=
 xj _ (asP fun _ _=>by go_simp) (bq .i64) (fun n=>0≤n∧n<1000) (fun n=>sv (da n)) (asP fun _=>rfl) (asP fun n hn M w v _ hv=>by
  have hv':v=.int .i64 n:=hv;subst hv';exact(Mm n w hn).mono fun e w' h=>⟨⟨_,h.1,rfl⟩,h.2⟩)
def UZ:ByteArray:=⟨#[48,49,50,51,52,53,54,55,56,57]⟩
theorem Sz:UZ.size=10:=rfl
abbrev Qi:am prog 226 :=
 mz2 func226 (aT) (bq .i64) ((fun _ _=>True)) ((fun s m=>.ret (fC 3 s m))) (asP fun s m _=>GG s m)
theorem zg (args:Array Value)(w:World):(callFunc 98 args).run prog w=.ok (.enter 98 args) w:=by go_simp
def oG:am prog 98 :=
 mk2 _ _ _ func98 rfl zg (aT) (aT) ((fun _ _=>True)) ((fun s p=>.ret (bv (bY s p)))) (by rw[ntmps98];decide) (fun s p _=>by
 refine aq [] rfl ?_;by_cases h:p.size≤s.size
 ·have hI:(p.size:Int)≤s.size:=by omega
  by_cases h2:s.extract 0 p.size=p
  ·simp only[go_sem,hI,Int.toNat_zero,h2,bY,h]
  ·simp only[go_sem,hI,Int.toNat_zero,h2,bY,h]
 ·have hI:¬(p.size:Int)≤s.size:=by omega
  simp only[go_sem,hI,bY,h,Bool.false_and])
theorem cw {id:Nat}{h:ag}{args:List AV}:(oG).run id h args=fT (e9 (aT) (aT) ((fun _ _=>True))) (fun x=>((fun s p=>.ret (bv (bY s p)))) x.1 x.2) h args:=rfl
theorem cv {id:Nat}{h:ag}{args:List AV}:(oG).pan id h args=gh (e9 (aT) (aT) ((fun _ _=>True))) (fun x=>((fun s p=>.ret (bv (bY s p)))) x.1 x.2) h args:=rfl
def ip (s p:ByteArray):AV:=.tup [.l (.v (.string (ln s p).1)),.l (.v (.bool (ln s p).2))]
abbrev SU:am prog 245 :=
 mz2 func245 (aT) (aT) ((fun _ _=>True)) ((fun s p=>.ret (ip s p))) (asP fun s p _=>by
 refine aq [⟨_,oG⟩] rfl ?_;have hle:bY s p=true→(p.size:Int)≤s.size:=fun h=>by have:=Kf h;omega
 cases h:bY s p with
 |true =>
  have:=hle h;simp only[go_sem,cw,cv,h,ip,ln];omega
 |false=>simp only[go_sem,cw,cv,h,ip,ln])
abbrev Qg:am prog 225 :=
 mz2 func225 (aT) (aT) ((fun _ _=>True)) ((fun s p=>.ret (ip s p))) (asP fun s p _=>by
 refine aq [⟨_,SU⟩] rfl ?_;simp only[go_sem,ip])
def gu:kG gO where
 dec:=fun | [.v (.int .i64 n),.v (.bool x),.v (.bool p)]=>some ⟨n,x,p⟩ | _=>none
 enc:=fun r=>[.v (.int .i64 r.n),.v (.bool r.x),.v (.bool r.sp)]
 inv:=by
  intro c x h;split at h
  ·injection h with h;subst h;rfl
  ·cases h
 back:=by intro x;rfl
def qC (r:gO×Int):AV:=.tup [.agg [.v (.int .i64 r.1.n),.v (.bool r.1.x),.v (.bool r.1.sp)],.l (.v (.int .i64 r.2))]
def eQ (r:ByteArray×Int):AV:=.tup [.l (.v (.string r.1)),.l (.v (.int .i64 r.2))]
theorem Rc (s:ByteArray):Sw f186 0 ⟨0,ax 0 [aT.enc s],[]⟩ (oQ f186 (.ret (qC (fi 3 s)))):=by
 refine aq [⟨_,Qg⟩,⟨_,Qi⟩] rfl ?_;by_cases h1:s=⟨#[120,122,114]⟩
 ·have e:fi 3 s=(⟨31,true,false⟩,0):=by rw[h1];rfl
  simp only[go_sem,e,eq_true h1,qC]
 by_cases h2:s=⟨#[119,122,114]⟩
 ·have e:fi 3 s=(⟨31,false,false⟩,0):=by rw[h2];rfl
  simp only[go_sem,e,h1,eq_true h2,qC]
 by_cases h3:s=⟨#[115,112]⟩
 ·have e:fi 3 s=(⟨31,true,true⟩,0):=by rw[h3];rfl
  simp only[go_sem,e,h1,h2,eq_true h3,qC]
 by_cases h4:s=⟨#[119,115,112]⟩
 ·have e:fi 3 s=(⟨31,false,true⟩,0):=by rw[h4];rfl
  simp only[go_sem,e,h1,h2,h3,eq_true h4,qC]
 have hx:ln s ⟨#[120]⟩=if 0<s.size∧ab s 0=120 then(s.extract 1 s.size,true) else(s,false):=by
  unfold ln;rw[show(⟨#[120]⟩:ByteArray)=ao [120] from rfl,PD s 120 (by omega)];simp only[decide_eq_true_eq];rfl
 have hw:ln s ⟨#[119]⟩=if 0<s.size∧ab s 0=119 then(s.extract 1 s.size,true) else(s,false):=by
  unfold ln;rw[show(⟨#[119]⟩:ByteArray)=ao [119] from rfl,PD s 119 (by omega)];simp only[decide_eq_true_eq];rfl
 have e0:fi 3 s=if s.size=0∨¬(ab s 0=120∨ab s 0=119) then(⟨0,false,false⟩,30) else
   BY s (fG 3 (s.extract 1 s.size) 30):=by
  unfold fi;rw[if_neg (show ¬s=Sn from h1),if_neg (show ¬s=Sm from h2),if_neg (show ¬s=spS from h3),if_neg (show ¬s=Sl from h4)]
 by_cases hxx:0<s.size∧ab s 0=120
 ·rw[if_pos hxx]at hx;rw[nG]at e0;rcases hd:fG 3 (s.extract 1 s.size) 30 with ⟨n,_ | _⟩
  ·rw[hd,BY]at e0;simp only[go_sem,h1,h2,h3,h4,ip,fC,hx,hd,e0,qC]
  ·rw[hd,BY]at e0;simp only[go_sem,h1,h2,h3,h4,ip,fC,hx,hd,e0,qC,hxx.2]
 ·rw[if_neg hxx]at hx;by_cases hww:0<s.size∧ab s 0=119
  ·rw[if_pos hww]at hw;rw[nG]at e0;have hn:¬ab s 0=120:=by omega
   rcases hd:fG 3 (s.extract 1 s.size) 30 with ⟨n,_ | _⟩
   ·rw[hd,BY]at e0;simp only[go_sem,h1,h2,h3,h4,ip,fC,hx,hw,hd,e0,qC]
   ·rw[hd,BY]at e0;simp only[go_sem,h1,h2,h3,h4,ip,fC,hx,hw,hd,e0,qC,hn]
  ·rw[if_neg hww]at hw;rw[pS]at e0;simp only[go_sem,h1,h2,h3,h4,ip,fC,hx,hw,e0,qC]
abbrev TA:am prog 186 :=
 mz1 func186 (aT) ((fun _=>True)) ((fun s=>.ret (qC (fi 3 s)))) (asP fun s _=>Rc s)
theorem qG (n:Int):(da n).size≤3:=by
 unfold da;split
 ·rw[ge];simp
 ·split<;>(rw[ge];simp)
theorem EB (r:gO):Sw f182 0 ⟨0,ax 0 [(nX gu).enc r],[]⟩ (oQ f182 (.ret (eQ (aH r)))):=by
 obtain⟨n,x,sp⟩:=r;refine aq [⟨_,wV⟩] rfl ?_;have hz:(da n).size≤3:=qG n;have e1:(1+(da n).size:Nat)≤maxLen:=by unfold maxLen;omega
 have e2:(⟨#[119]⟩:ByteArray)=wS:=rfl;have e3:(⟨#[120]⟩:ByteArray)=xS:=rfl;by_cases h1:n<0
 ·cases x<;>cases sp<;>simp only[go_sem,gu,h1,eQ,aH,ak]
 by_cases h2:31<n
 ·cases x<;>cases sp<;>simp only[go_sem,gu,h1,h2,eQ,aH,ak]
 by_cases h3:n=31
 ·subst h3;cases x<;>cases sp<;>simp only[go_sem,gu,eQ,aH,ak]<;>first | rfl | exact⟨by decide,rfl⟩ | decide
 ·have h4:0≤n∧n<1000:=by omega
  have h5:¬n > 31:=h2;cases x<;>cases sp<;>simp only[go_sem,gu,h1,h2,h3,h4,eQ,aH,ak,e2,e3,show wS.size=1 from rfl,show xS.size=1 from rfl,e1]
abbrev pc:am prog 182 :=
 mz1 func182 (nX gu) ((fun _=>True)) ((fun r=>.ret (eQ (aH r)))) (asP fun r _=>EB r)
def LI (r:gO):AV:=.s (.agg [.v (.int .i64 r.n),.v (.bool r.x),.v (.bool r.sp)])
abbrev EC:am prog 183 :=
 mz1 func183 (bq .i64) ((fun n=>0≤n∧n<128)) ((fun n=>.ret (LI (j7 n)))) (asP fun n hn=>by
 obtain⟨h0,h1⟩:=hn;refine aq [] rfl ?_;have d1:n.tdiv 32=n / 32:=Int.tdiv_eq_ediv_of_nonneg h0;have d2:n.tmod 32=n % 32:=Int.tmod_eq_emod_of_nonneg h0;have d3:(n / 32).tmod 2=n / 32 % 2:=Int.tmod_eq_emod_of_nonneg (by omega);have e1:IntKind.i64.wrap (n / 32)=n / 32:=by rw[IntKind.wrap_i64];omega
 have e2:IntKind.i64.wrap (n % 32)=n % 32:=by rw[IntKind.wrap_i64];omega
 simp only[go_sem,LI,j7,d1,d2,d3,e1,e2];have e3:(n / 32 % 2==1)=decide (n / 32 % 2=1):=by by_cases h:n / 32 % 2=1<;>simp[h]
 rw[e3])
abbrev QI:am prog 187 :=
 mz1 func187 (nX gu) ((fun r => -100000<r.n∧r.n<100000)) ((fun r=>.ret (iv (sP r)))) (asP fun r hr=>by
 obtain⟨n,x,sp⟩:=r;obtain⟨h0,h1⟩:=hr;simp only at h0 h1;refine aq [] rfl ?_;have e1:IntKind.i64.wrap n=n:=by rw[IntKind.wrap_i64];omega
 have e2:IntKind.i64.wrap (n+32)=n+32:=by rw[IntKind.wrap_i64];omega
 have e3:IntKind.i64.wrap (n+64)=n+64:=by rw[IntKind.wrap_i64];omega
 have e4:IntKind.i64.wrap (n+32+64)=n+32+64:=by rw[IntKind.wrap_i64];omega
 cases x<;>cases sp<;>simp only[go_sem,gu,sP,e1,e2,e3,e4,Int.add_zero])
def kS:kG (ByteArray×Int) where
 dec:=fun | [.v (.string s),.v (.int .i64 n)]=>some (s,n) | _=>none
 enc:=fun r=>[.v (.string r.1),.v (.int .i64 r.2)]
 inv:=by
  intro c x h;split at h
  ·injection h with h;subst h;rfl
  ·cases h
 back:=by intro x;rfl
def HB:AV:=.s (.l (.v (.slice none 0 0)))
abbrev i6 (l:List (ByteArray×Int)):AV:=.s (.l (.d (.sd 2 (l.map kS.enc))))
theorem JJ:Sw f217 0 ⟨0,[],[]⟩ (oQ f217 (.ret (i6 uW))):=by
 refine aq [] rfl ?_;simp only[go_sem,uW,kS];rfl
abbrev Qe:am prog 217 :=
 mz0 func217 (True) ((.ret (i6 uW))) (asP fun _=>JJ)
theorem N7:Sw f218 0 ⟨0,[],[]⟩ (oQ f218 (.ret (i6 Bw))):=by
 refine aq [] rfl ?_;simp only[go_sem,Bw,kS];rfl
abbrev Tl:am prog 218 :=
 mz0 func218 (True) ((.ret (i6 Bw))) (asP fun _=>N7)
theorem Ax:Sw f219 0 ⟨0,[],[]⟩ (oQ f219 (.ret (i6 mh))):=by
 refine aq [] rfl ?_;simp only[go_sem,mh,kS];rfl
abbrev Gt:am prog 219 :=
 mz0 func219 (True) ((.ret (i6 mh))) (asP fun _=>Ax)
theorem Kh:Sw f220 0 ⟨0,[],[]⟩ (oQ f220 (.ret (i6 vE))):=by
 refine aq [] rfl ?_;simp only[go_sem,vE,kS];rfl
abbrev Qo:am prog 220 :=
 mz0 func220 (True) ((.ret (i6 vE))) (asP fun _=>Kh)
theorem EY:Sw f221 0 ⟨0,[],[]⟩ (oQ f221 (.ret (i6 iZ))):=by
 refine aq [] rfl ?_;simp only[go_sem,iZ,kS];rfl
abbrev Mf:am prog 221 :=
 mz0 func221 (True) ((.ret (i6 iZ))) (asP fun _=>EY)
theorem DG:Sw f222 0 ⟨0,[],[]⟩ (oQ f222 (.ret (i6 oE))):=by
 refine aq [] rfl ?_;simp only[go_sem,oE,kS];rfl
abbrev Kb:am prog 222 :=
 mz0 func222 (True) ((.ret (i6 oE))) (asP fun _=>DG)
theorem Lz:Sw f223 0 ⟨0,[],[]⟩ (oQ f223 (.ret (i6 wm))):=by
 refine aq [] rfl ?_;simp only[go_sem,wm,kS];rfl
abbrev QX:am prog 223 :=
 mz0 func223 (True) ((.ret (i6 wm))) (asP fun _=>Lz)
def nY (k:Int):AV:=if fE k=[] then HB else i6 (fE k)
theorem Mi (k:Int):Sw f184 0 ⟨0,ax 0 [(bq .i64).enc k],[]⟩ (oQ f184 (.ret (nY k))):=by
 refine aq [⟨_,Qe⟩,⟨_,Tl⟩,⟨_,Gt⟩,⟨_,Qo⟩,⟨_,Mf⟩,⟨_,Kb⟩,⟨_,QX⟩] rfl ?_;by_cases h2:k=2
 ·have e:nY k=i6 uW:=by rw[h2];rfl
  simp only[go_sem,e,eq_true h2]
 by_cases h3:k=3
 ·have e:nY k=i6 Bw:=by rw[h3];rfl
  simp only[go_sem,e,h2,eq_true h3]
 by_cases h4:k=4
 ·have e:nY k=i6 mh:=by rw[h4];rfl
  simp only[go_sem,e,h2,h3,eq_true h4]
 by_cases h5:k=5
 ·have e:nY k=i6 vE:=by rw[h5];rfl
  simp only[go_sem,e,h2,h3,h4,eq_true h5]
 by_cases h6:k=6
 ·have e:nY k=i6 iZ:=by rw[h6];rfl
  simp only[go_sem,e,h2,h3,h4,h5,eq_true h6]
 by_cases h7:k=7
 ·have e:nY k=i6 oE:=by rw[h7];rfl
  simp only[go_sem,e,h2,h3,h4,h5,h6,eq_true h7]
 by_cases h8:k=8
 ·have e:nY k=i6 wm:=by rw[h8];rfl
  simp only[go_sem,e,h2,h3,h4,h5,h6,h7,eq_true h8]
 simp only[go_sem,h2,h3,h4,h5,h6,h7,h8,nY,fE,HB]
abbrev Mh:am prog 184 :=
 mz1 func184 (bq .i64) ((fun _=>True)) ((fun k=>.ret (nY k))) (asP fun k _=>Mi k)
def tPI:Ty Int where
 dec:=fun | .s (.l (.d (.pd [.v (.int .i64 z)])))=>some z | _=>none
 enc:=fun z=>.s (.l (.d (.pd [.v (.int .i64 z)])))
 ok:=by
  intro A x h ρ al v hr;split at h
  ·injection h with h;subst h;exact hr
  ·cases h
theorem Nj (i:Nat)(hi:i≤62)(x:Int)(h0:0≤x)(h1:x<4611686018427387904):bits .and .i64 x (2 ^ i-1)=x % 2 ^ i :=
 bits_mask .i64 62 (by decide) (fun n h0 h1=>by rw[IntKind.wrap_i64];omega) i hi x h0 h1
theorem Ii (n:Int)(h0:0≤n)(h1:n<32768)(lo wd:Nat)(hl:lo≤62)(hw:wd≤10):bits .and .i64 (n.fdiv (2 ^ min lo 64)) (IntKind.i64.wrap (IntKind.i64.wrap (1*2 ^ min wd 64)-1))=n / 2 ^ lo % 2 ^ wd:=by
 have hp:(0:Int)<2 ^ lo:=pow_pos (by decide);have hq:(1:Int)≤2 ^ wd:=pow_pos (by decide)
 have hq2:(2:Int) ^ wd≤1024:=by
  have h2:((2 ^ wd:Nat):Int)≤((1024:Nat):Int):=Int.ofNat_le.2 (Nat.pow_le_pow_right (n:=2) (by decide) hw);rw[Int.natCast_pow]at h2;exact h2
 have e1:min lo 64=lo:=by omega
 have e2:min wd 64=wd:=by omega
 have e3:IntKind.i64.wrap (1*2 ^ wd)=2 ^ wd:=by rw[IntKind.wrap_i64];omega
 have e4:IntKind.i64.wrap (2 ^ wd-1)=2 ^ wd-1:=by rw[IntKind.wrap_i64];omega
 rw[e1,e2,e3,e4,Int.fdiv_eq_ediv_of_nonneg _ (Int.le_of_lt hp)];have h2:0≤n / 2 ^ lo:=Int.ediv_nonneg h0 (Int.le_of_lt hp);have h3:n / 2 ^ lo≤n:=Int.ediv_le_self _ h0;exact Nj wd (by omega) _ h2 (by omega)
theorem nw (n:Int)(lo wd:Nat)(hw:wd≤4):0≤n / 2 ^ lo % 2 ^ wd∧n / 2 ^ lo % 2 ^ wd<16:=by
 have hq:(0:Int)<2 ^ wd:=pow_pos (by decide)
 have hq2:(2:Int) ^ wd≤16:=by
  have h2:((2 ^ wd:Nat):Int)≤((16:Nat):Int):=Int.ofNat_le.2 (Nat.pow_le_pow_right (n:=2) (by decide) hw);rw[Int.natCast_pow]at h2;exact h2
 have:=Int.emod_nonneg (n / 2 ^ lo) (Int.ne_of_gt hq);have:=Int.emod_lt_of_pos (n / 2 ^ lo) hq;omega
def sS (low width n:Int):Prop:=(0≤n∧n<32768)∧(low=11∧width=3∨low=7∧width=4∨low=3∧width=4∨low=0∧width=3)
theorem Ol (low width n:Int)(h:sS low width n) :
  Sw f224 0 ⟨0,ax 0 [(bq .i64).enc low,(bq .i64).enc width,tPI.enc n],[]⟩ (oQ f224 (.ret (sv (oY n low.toNat width.toNat)))):=by
 obtain⟨⟨h0,h1⟩,h⟩:=h;refine aq [⟨_,wV⟩] rfl ?_;have hb:=Ii n h0 h1;rcases h with ⟨rfl,rfl⟩ | ⟨rfl,rfl⟩ | ⟨rfl,rfl⟩ | ⟨rfl,rfl⟩
 ·have hr:=nw n 11 3 (by decide);simp only[go_sem,tPI];refine sD mixed [⟨_,wV⟩] [] ?_;simp only[go_sem,tPI];rw[hb 11 3 (by decide) (by decide)];exact⟨by omega,rfl⟩
 ·have hr:=nw n 7 4 (by decide);simp only[go_sem,tPI];refine sD mixed [⟨_,wV⟩] [] ?_;simp only[go_sem,tPI];rw[hb 7 4 (by decide) (by decide)];exact⟨by omega,rfl⟩
 ·have hr:=nw n 3 4 (by decide);simp only[go_sem,tPI];refine sD mixed [⟨_,wV⟩] [] ?_;simp only[go_sem,tPI];rw[hb 3 4 (by decide) (by decide)];exact⟨by omega,rfl⟩
 ·have hr:=nw n 0 3 (by decide);simp only[go_sem,tPI];refine sD mixed [⟨_,wV⟩] [] ?_;simp only[go_sem,tPI];rw[hb 0 3 (by decide) (by decide)];exact⟨by omega,rfl⟩
abbrev To:am prog 224 :=
 mz3 func224 (bq .i64) (bq .i64) (tPI) ((fun l w n=>sS l w n)) ((fun l w n=>.ret (sv (oY n l.toNat w.toNat)))) (asP fun l w n h=>Ol l w n h)
theorem EX (n:Int)(h:0≤n∧n<32768):Sw f185 0 ⟨0,ax 0 [(bq .i64).enc n],[]⟩ (oQ f185 (.ret (sv (cO n)))):=by
 obtain⟨h0,h1⟩:=h;refine aq [⟨_,wV⟩,⟨_,To⟩] rfl ?_
 have e1:n.fdiv (2 ^ min 14 64)=n / 16384:=by
  rw[show min (14:Nat) 64=14 from rfl,Int.fdiv_eq_ediv_of_nonneg _ (by decide)];rfl
 have e2:IntKind.i64.wrap (n / 16384+2)=n / 16384+2:=by rw[IntKind.wrap_i64];omega
 have q1:sS 11 3 n:=⟨⟨h0,h1⟩,by omega⟩;have q2:sS 7 4 n:=⟨⟨h0,h1⟩,by omega⟩;have q3:sS 3 4 n:=⟨⟨h0,h1⟩,by omega⟩;have q4:sS 0 3 n:=⟨⟨h0,h1⟩,by omega⟩;have sz:=qG;have z1:=sz (n / 16384+2);have z2:(oY n 11 3).size≤3:=sz _;have z3:(oY n 7 4).size≤3:=sz _;have z4:(oY n 3 4).size≤3:=sz _;have z5:(oY n 0 3).size≤3:=sz _;have hm:maxLen=9223372036854775807:=rfl;have c1:(⟨#[115]⟩:ByteArray).size=1:=rfl;have c2:(⟨#[95]⟩:ByteArray).size=1:=rfl;have c3:(⟨#[95,99]⟩:ByteArray).size=2:=rfl
 have er:cO n=⟨#[115]⟩++da (n / 16384+2)++⟨#[95]⟩++oY n 11 3++⟨#[95,99]⟩++oY n 7 4++⟨#[95,99]⟩++oY n 3 4++⟨#[95]⟩++oY n 0 3:=by
  unfold cO oY;rw[show n / 2 ^ 0 % 2 ^ 3=n % 8 by omega];rfl
 simp only[go_sem,tPI,e1,e2,q1,q2,q3,q4,er,ByteArray.size_append,c1,c2,c3,hm];omega
abbrev CF:am prog 185 :=
 mz1 func185 (bq .i64) ((fun n=>0≤n∧n<32768)) ((fun n=>.ret (sv (cO n)))) (asP fun n h=>EX n h)
theorem N9 (k n:Int):Sw f140 0 ⟨0,ax 0 [(bq .i64).enc k,(bq .i64).enc n],[]⟩ (oQ f140 (.ret (eQ (aK k n)))):=by
 refine aq [⟨_,EC⟩,⟨_,pc⟩,⟨_,Mh⟩,⟨_,CF⟩] rfl ?_;by_cases hk:k=1
 ·subst hk;by_cases h1:n<0
  ·simp only[go_sem,h1,eQ,aK,ak]
  by_cases h2:128≤n
  ·simp only[go_sem,h1,h2,eQ,aK,ak]
  have h3:0≤n∧n<128:=by omega
  simp only[go_sem,h1,h2,h3,eQ,aK,ak,LI,gu]
 ·have loop:∀(l:List (ByteArray×Int)) (Q:Exit→St→Prop) (c:Code) (s0:St),fE k=l→l.length≤100→Wk ⟨none,0⟩ s0 ⟨0,[(0,iv k),(1,iv n),(22,i6 l),(23,iv l.length),(24,iv 0)],[]⟩→(∀i,i≤l.length→(∀(j:Nat) (r:ByteArray×Int),j<i→l[j]? = some r→¬r.2=n)→SW prog ⟨none,0⟩ 47 c ⟨0,[(0,iv k),(1,iv n),(22,i6 l),(23,iv l.length),(24,iv i)],[]⟩ (s9 ⟨none,0⟩ (fun i=>i≤l.length∧∀(j:Nat) (r:ByteArray×Int),j<i→l[j]? = some r→¬r.2=n) (fun(i:Nat)=>(⟨0,[(0,iv k),(1,iv n),(22,i6 l),(23,iv l.length),(24,iv i)],[]⟩:St)) (fun i=>l.length-i) i Q))→SW prog ⟨none,0⟩ 47 (.loop c) s0 Q :=
   fun l Q c s0 _ _ hw hr=>bF (ι:=Nat) (fun i=>i≤l.length∧∀(j:Nat) (r:ByteArray×Int),j<i→l[j]? = some r→¬r.2=n) _ (fun i=>l.length-i) 0 ⟨Nat.zero_le _,fun j r hj=>absurd hj (Nat.not_lt_zero j)⟩ hw (fun i hi=>hr i hi.1 hi.2)
  obtain⟨l,hl⟩:∃l,fE k=l:=⟨_,rfl⟩
  have hlen:l.length≤100:=by
   rw[←hl];unfold fE
   repeat' split
   all_goals decide
  by_cases hnil:l=[];have e:nY k=HB:=by unfold nY;rw[hl,if_pos hnil]
  simp only[go_sem,hk,e,HB];refine loop l _ _ _ hl hlen ((Wk.nilD 22 2 rfl).trans (Wk.renL [] (by simp) (by simp) (by simp) (by subst hnil;rfl) rfl)) (fun i hi hn=>?_);rotate_left;have e:nY k=i6 l:=by unfold nY;rw[hl,if_neg hnil]
  simp only[go_sem,hk,e];refine loop l _ _ _ hl hlen (wR []) (fun i hi hn=>?_)
  all_goals
   refine aw [⟨_,CF⟩] ?_;rcases Nat.lt_or_ge i l.length with hlt | hge
   ·have hltI:(i:Int)<l.length:=by omega
    obtain⟨r,hr⟩:∃r,l[i]? = some r:=⟨_,List.getElem?_eq_getElem hlt⟩;have ei:=wI i;by_cases hrn:r.2=n
    ·have er:aK k n=(r.1,0):=by unfold aK;rw[if_neg hk,hl,Hu hn hr hrn]
     simp only[go_sem,hltI,hr,kS,hrn,er,eQ]
    ·simp only[go_sem,hltI,hr,kS,hrn,ei];refine⟨i+1,⟨hlt,fun j r' hj hr'=>?_⟩,by omega,wR []⟩;by_cases e2:j=i
     ·subst e2;rw[hr]at hr';injection hr' with hr';rw[←hr'];exact hrn
     ·exact hn j r' (by omega) hr'
   ·obtain rfl:i=l.length:=by omega
    have hI:¬(l.length:Int)<l.length:=by omega
    have hno:=By hn;by_cases hs:k=6∧0≤n∧n<32768
    ·have er:aK k n=(cO n,0):=by unfold aK;rw[if_neg hk,hl,hno];simp only[hs,and_self,if_true]
     simp only[go_sem,hI,eq_true hs.1,hs.2.1,hs.2.2,er,eQ]
    ·have er:aK k n=(emp,30):=by unfold aK;rw[if_neg hk,hl,hno];simp only[hs,if_false]
     by_cases a1:k=6
     ·by_cases a2:0≤n
      ·have a3:¬n<32768:=fun h=>hs ⟨a1,a2,h⟩;simp only[go_sem,hI,eq_true a1,a2,a3,er,eQ,ak]
      ·simp only[go_sem,hI,eq_true a1,a2,er,eQ,ak]
     ·simp only[go_sem,hI,a1,er,eQ,ak]
theorem zh (args:Array Value)(w:World):(callFunc 140 args).run prog w=.ok (.enter 140 args) w:=by go_simp
def vX:am prog 140 :=
 mk2 _ _ _ func140 rfl zh (bq .i64) (bq .i64) ((fun _ _=>True)) ((fun k n=>.ret (eQ (aK k n)))) (by rw[ntmps140];decide) (fun k n _=>N9 k n)
theorem g8 {id:Nat}{h:ag}{args:List AV}:(vX).run id h args=fT (e9 (bq .i64) (bq .i64) ((fun _ _=>True))) (fun x=>((fun k n=>.ret (eQ (aK k n)))) x.1 x.2) h args:=rfl
theorem ek {id:Nat}{h:ag}{args:List AV}:(vX).pan id h args=gh (e9 (bq .i64) (bq .i64) ((fun _ _=>True))) (fun x=>((fun k n=>.ret (eQ (aK k n)))) x.1 x.2) h args:=rfl
abbrev L6 (l:List ByteArray):AV:=.s (.l (.d (.sd 1 (l.map jr.enc))))
abbrev GY:am prog 246 :=
 mz4 func246 (aT) (aT) (bq .i64) (bq .i64) ((fun s p a n=>p.size=1∧s.size≤1099511627776∧a=0∧n = -1)) ((fun s p _ _=>.ret (L6 (bX s p)))) (asP fun s p a n h=>by
 obtain⟨h1,h2,rfl,rfl⟩:=h;exact A8 s p h1 h2)
abbrev RJ:am prog 228 :=
 mz2 func228 (aT) (aT) ((fun s p=>p.size=1∧s.size≤1099511627776)) ((fun s p=>.ret (L6 (bX s p)))) (asP fun s p h=>by
 refine aq [⟨_,GY⟩] rfl ?_;simp only[go_sem,h.1,h.2];rfl)
theorem or_i64 (i:Nat)(x y:Int)(h0:0≤x)(h1:x<4611686018427387904)(y0:0≤y)(y1:y<2 ^ i)(y2:y<4611686018427387904):bits .or .i64 (x*2 ^ i) y=x*2 ^ i+y∨4611686018427387904≤x*2 ^ i:=by
 by_cases hx:x*2 ^ i<4611686018427387904
 ·refine .inl (bits_join .i64 62 (by decide) (fun n h0 h1=>by rw[IntKind.wrap_i64];omega) i (x*2 ^ i) y ?_ (Int.mul_emod_left x (2 ^ i)) hx y0 y1 y2);exact Int.mul_nonneg h0 (Int.le_of_lt (pow_pos (by decide)))
 ·exact .inr (by omega)
def mc:Option Int→AV
 |some n=>.tup [.l (.v (.int .i64 n)),.l (.v (.bool true))]
 |none=>.tup [.l (.v (.int .i64 0)),.l (.v (.bool false))]
def lN:Blk:=⟨true,227,5,[[.v (.string ⟨#[115]⟩),.v (.string ⟨#[]⟩),.v (.string ⟨#[99]⟩),.v (.string ⟨#[99]⟩),.v (.string ⟨#[]⟩)]]⟩
def lM:Blk:=⟨true,228,5,[[.v (.int .i64 3),.v (.int .i64 7),.v (.int .i64 15),.v (.int .i64 15),.v (.int .i64 7)]]⟩
def lO:Blk:=⟨true,228,5,[[.v (.int .i64 1),.v (.int .i64 3),.v (.int .i64 4),.v (.int .i64 4),.v (.int .i64 3)]]⟩
theorem IU (s:ByteArray)(hs:s.size≤1099511627776):Sw f189 0 ⟨0,ax 0 [aT.enc s],[]⟩ (oQ f189 (.ret (mc (wN 3 s)))):=by
 refine aq [⟨_,RJ⟩,⟨_,Qg⟩,⟨_,Qi⟩] rfl ?_;have hu:us.size=1:=rfl;obtain⟨l,hl⟩:∃l,bX s ⟨#[95]⟩=l:=⟨_,rfl⟩;have hF:wN 3 s=if l.length=5 then pm 3 l 5 else none:=by unfold wN;rw[show bX s us=l from hl]
 by_cases h5:l.length=5
 ·have h5I:(l.length:Int)=5:=by omega
  rw[if_pos h5]at hF;simp only[go_sem,show(⟨#[95]⟩:ByteArray).size=1 from rfl,hs,hl,h5,h5I,List.length_map];refine bF (ι:=Nat×Int) (fun x=>x.1≤5∧pm 3 l x.1=some x.2) (fun x=>⟨3,[(5,pv 0 0 0),(6,pv 1 0 0),(7,pv 2 0 0),(8,iv x.2),(23,L6 l),(24,iv 5),(25,iv x.1)],[(0,some lN),(1,some lM),(2,some lO)]⟩) (fun x=>5-x.1) (0,0) ⟨by simp,rfl⟩ ?_ ?_
  ·exact wR [144,192,240]
  ·rintro⟨i,n⟩ ⟨hi,hn⟩;simp only at hi hn;refine aw [⟨_,Qg⟩,⟨_,Qi⟩] ?_;have hnb:=wO hi hn;by_cases hlt:i<5
   ·obtain⟨w,hw⟩:∃w,l[i]? = some w:=⟨_,List.getElem?_eq_getElem (by omega)⟩
    have hfail:bT 3 i n w=none→wN 3 s=none:=fun h=>by
     rw[hF];refine IT (i:=i+1) ?_ hlt;rw[pm,hn,hw];exact h
    have hok:∀m,bT 3 i n w=some m→pm 3 l (i+1)=some m:=fun m h=>by
     rw[pm,hn,hw];exact h
    have hcase:i=0∨i=1∨i=2∨i=3∨i=4:=by omega
    rcases hcase with rfl | rfl | rfl | rfl | rfl
    ·rcases hc:ln w ⟨#[115]⟩ with ⟨r,_ | _⟩
     ·have hn0:=hfail (by unfold bT;rw[if_neg];intro h;rw[show cB.getD 0 emp=⟨#[115]⟩ from rfl,hc]at h;exact absurd h.1 (by simp));rcases hd:fG 3 r 3 with ⟨d,b⟩;simp only[go_sem,ip,fC,hw,lN,lM,lO,hc,hd,hn0,mc]
     ·rcases hd:fG 3 r 3 with ⟨d,_ | _⟩
      ·have hn0:=hfail (by unfold bT;rw[if_neg];intro h;rw[show cB.getD 0 emp=⟨#[115]⟩ from rfl,hc,show fQ.getD 0 0=3 from rfl,hd]at h;exact absurd h.2.1 (by simp));simp only[go_sem,ip,fC,hw,lN,lM,lO,hc,hd,hn0,mc]
      ·have hdr:=fL (lim:=3) (s:=r) (most:=3) (by rw[hd]);rw[hd]at hdr;simp only at hdr;have ew:IntKind.i64.wrap (d-2)=d-2:=by rw[IntKind.wrap_i64];omega
       by_cases hv:0≤d-2
       ·have hs1:=hok (n*2 ^ 1+(d-2)) (by unfold bT;rw[show cB.getD 0 emp=⟨#[115]⟩ from rfl,hc,show fQ.getD 0 0=3 from rfl,hd,if_pos ⟨rfl,rfl,hv⟩];rfl);have hv':¬d-2<0:=by omega
        have eb:IntKind.i64.wrap (n*2 ^ min 1 64)=n*2 ^ 1:=by
         rw[show min (1:Nat) 64=1 from rfl,IntKind.wrap_i64];simp at hnb ⊢;omega
        have eo:bits .or .i64 (n*2 ^ 1) (d-2)=n*2 ^ 1+(d-2):=by
         simp at hnb;rcases or_i64 1 n (d-2) hnb.1 (by omega) hv (by simp;omega) (by omega) with h | h
         ·exact h
         ·simp at h;omega
        simp only[go_sem,ip,fC,hw,lN,lM,lO,hc,hd,hv',ew,eb,eo];exact⟨(1,_),⟨by simp,hs1⟩,by simp,wR [0,1,2]⟩
       ·have hn0:=hfail (by unfold bT;rw[if_neg];intro h;rw[show cB.getD 0 emp=⟨#[115]⟩ from rfl,hc,show fQ.getD 0 0=3 from rfl,hd]at h;exact hv h.2.2);have hv':d-2<0:=by omega
        simp only[go_sem,ip,fC,hw,lN,lM,lO,hc,hd,hv',ew,hn0,mc]
    ·rcases hc:ln w ⟨#[]⟩ with ⟨r,_ | _⟩
     ·have hn0:=hfail (by unfold bT;rw[if_neg];intro h;rw[show cB.getD 1 emp=⟨#[]⟩ from rfl,hc]at h;exact absurd h.1 (by simp));rcases hd:fG 3 r 7 with ⟨d,b⟩;simp only[go_sem,ip,fC,hw,lN,lM,lO,hc,hd,hn0,mc]
     ·rcases hd:fG 3 r 7 with ⟨d,_ | _⟩
      ·have hn0:=hfail (by unfold bT;rw[if_neg];intro h;rw[show cB.getD 1 emp=⟨#[]⟩ from rfl,hc,show fQ.getD 1 0=7 from rfl,hd]at h;exact absurd h.2.1 (by simp));simp only[go_sem,ip,fC,hw,lN,lM,lO,hc,hd,hn0,mc]
      ·have hdr:=fL (lim:=3) (s:=r) (most:=7) (by rw[hd]);rw[hd]at hdr;simp only at hdr;by_cases hv:0≤d
       ·have hs1:=hok (n*2 ^ 3+(d)) (by unfold bT;rw[show cB.getD 1 emp=⟨#[]⟩ from rfl,hc,show fQ.getD 1 0=7 from rfl,hd,if_pos ⟨rfl,rfl,hv⟩];rfl);have hv':¬d<0:=by omega
        have eb:IntKind.i64.wrap (n*2 ^ min 3 64)=n*2 ^ 3:=by
         rw[show min (3:Nat) 64=3 from rfl,IntKind.wrap_i64];simp at hnb ⊢;omega
        have eo:bits .or .i64 (n*2 ^ 3) (d)=n*2 ^ 3+(d):=by
         simp at hnb;rcases or_i64 3 n (d) hnb.1 (by omega) hv (by simp;omega) (by omega) with h | h
         ·exact h
         ·simp at h;omega
        simp only[go_sem,ip,fC,hw,lN,lM,lO,hc,hd,hv',eb,eo];exact⟨(2,_),⟨by simp,hs1⟩,by simp,wR [0,1,2]⟩
       ·have hn0:=hfail (by unfold bT;rw[if_neg];intro h;rw[show cB.getD 1 emp=⟨#[]⟩ from rfl,hc,show fQ.getD 1 0=7 from rfl,hd]at h;exact hv h.2.2);have hv':d<0:=by omega
        simp only[go_sem,ip,fC,hw,lN,lM,lO,hc,hd,hv',hn0,mc]
    ·rcases hc:ln w ⟨#[99]⟩ with ⟨r,_ | _⟩
     ·have hn0:=hfail (by unfold bT;rw[if_neg];intro h;rw[show cB.getD 2 emp=⟨#[99]⟩ from rfl,hc]at h;exact absurd h.1 (by simp));rcases hd:fG 3 r 15 with ⟨d,b⟩;simp only[go_sem,ip,fC,hw,lN,lM,lO,hc,hd,hn0,mc]
     ·rcases hd:fG 3 r 15 with ⟨d,_ | _⟩
      ·have hn0:=hfail (by unfold bT;rw[if_neg];intro h;rw[show cB.getD 2 emp=⟨#[99]⟩ from rfl,hc,show fQ.getD 2 0=15 from rfl,hd]at h;exact absurd h.2.1 (by simp));simp only[go_sem,ip,fC,hw,lN,lM,lO,hc,hd,hn0,mc]
      ·have hdr:=fL (lim:=3) (s:=r) (most:=15) (by rw[hd]);rw[hd]at hdr;simp only at hdr;by_cases hv:0≤d
       ·have hs1:=hok (n*2 ^ 4+(d)) (by unfold bT;rw[show cB.getD 2 emp=⟨#[99]⟩ from rfl,hc,show fQ.getD 2 0=15 from rfl,hd,if_pos ⟨rfl,rfl,hv⟩];rfl);have hv':¬d<0:=by omega
        have eb:IntKind.i64.wrap (n*2 ^ min 4 64)=n*2 ^ 4:=by
         rw[show min (4:Nat) 64=4 from rfl,IntKind.wrap_i64];simp at hnb ⊢;omega
        have eo:bits .or .i64 (n*2 ^ 4) (d)=n*2 ^ 4+(d):=by
         simp at hnb;rcases or_i64 4 n (d) hnb.1 (by omega) hv (by simp;omega) (by omega) with h | h
         ·exact h
         ·simp at h;omega
        simp only[go_sem,ip,fC,hw,lN,lM,lO,hc,hd,hv',eb,eo];exact⟨(3,_),⟨by simp,hs1⟩,by simp,wR [0,1,2]⟩
       ·have hn0:=hfail (by unfold bT;rw[if_neg];intro h;rw[show cB.getD 2 emp=⟨#[99]⟩ from rfl,hc,show fQ.getD 2 0=15 from rfl,hd]at h;exact hv h.2.2);have hv':d<0:=by omega
        simp only[go_sem,ip,fC,hw,lN,lM,lO,hc,hd,hv',hn0,mc]
    ·rcases hc:ln w ⟨#[99]⟩ with ⟨r,_ | _⟩
     ·have hn0:=hfail (by unfold bT;rw[if_neg];intro h;rw[show cB.getD 3 emp=⟨#[99]⟩ from rfl,hc]at h;exact absurd h.1 (by simp));rcases hd:fG 3 r 15 with ⟨d,b⟩;simp only[go_sem,ip,fC,hw,lN,lM,lO,hc,hd,hn0,mc]
     ·rcases hd:fG 3 r 15 with ⟨d,_ | _⟩
      ·have hn0:=hfail (by unfold bT;rw[if_neg];intro h;rw[show cB.getD 3 emp=⟨#[99]⟩ from rfl,hc,show fQ.getD 3 0=15 from rfl,hd]at h;exact absurd h.2.1 (by simp));simp only[go_sem,ip,fC,hw,lN,lM,lO,hc,hd,hn0,mc]
      ·have hdr:=fL (lim:=3) (s:=r) (most:=15) (by rw[hd]);rw[hd]at hdr;simp only at hdr;by_cases hv:0≤d
       ·have hs1:=hok (n*2 ^ 4+(d)) (by unfold bT;rw[show cB.getD 3 emp=⟨#[99]⟩ from rfl,hc,show fQ.getD 3 0=15 from rfl,hd,if_pos ⟨rfl,rfl,hv⟩];rfl);have hv':¬d<0:=by omega
        have eb:IntKind.i64.wrap (n*2 ^ min 4 64)=n*2 ^ 4:=by
         rw[show min (4:Nat) 64=4 from rfl,IntKind.wrap_i64];simp at hnb ⊢;omega
        have eo:bits .or .i64 (n*2 ^ 4) (d)=n*2 ^ 4+(d):=by
         simp at hnb;rcases or_i64 4 n (d) hnb.1 (by omega) hv (by simp;omega) (by omega) with h | h
         ·exact h
         ·simp at h;omega
        simp only[go_sem,ip,fC,hw,lN,lM,lO,hc,hd,hv',eb,eo];exact⟨(4,_),⟨by simp,hs1⟩,by simp,wR [0,1,2]⟩
       ·have hn0:=hfail (by unfold bT;rw[if_neg];intro h;rw[show cB.getD 3 emp=⟨#[99]⟩ from rfl,hc,show fQ.getD 3 0=15 from rfl,hd]at h;exact hv h.2.2);have hv':d<0:=by omega
        simp only[go_sem,ip,fC,hw,lN,lM,lO,hc,hd,hv',hn0,mc]
    ·rcases hc:ln w ⟨#[]⟩ with ⟨r,_ | _⟩
     ·have hn0:=hfail (by unfold bT;rw[if_neg];intro h;rw[show cB.getD 4 emp=⟨#[]⟩ from rfl,hc]at h;exact absurd h.1 (by simp));rcases hd:fG 3 r 7 with ⟨d,b⟩;simp only[go_sem,ip,fC,hw,lN,lM,lO,hc,hd,hn0,mc]
     ·rcases hd:fG 3 r 7 with ⟨d,_ | _⟩
      ·have hn0:=hfail (by unfold bT;rw[if_neg];intro h;rw[show cB.getD 4 emp=⟨#[]⟩ from rfl,hc,show fQ.getD 4 0=7 from rfl,hd]at h;exact absurd h.2.1 (by simp));simp only[go_sem,ip,fC,hw,lN,lM,lO,hc,hd,hn0,mc]
      ·have hdr:=fL (lim:=3) (s:=r) (most:=7) (by rw[hd]);rw[hd]at hdr;simp only at hdr;by_cases hv:0≤d
       ·have hs1:=hok (n*2 ^ 3+(d)) (by unfold bT;rw[show cB.getD 4 emp=⟨#[]⟩ from rfl,hc,show fQ.getD 4 0=7 from rfl,hd,if_pos ⟨rfl,rfl,hv⟩];rfl);have hv':¬d<0:=by omega
        have eb:IntKind.i64.wrap (n*2 ^ min 3 64)=n*2 ^ 3:=by
         rw[show min (3:Nat) 64=3 from rfl,IntKind.wrap_i64];simp at hnb ⊢;omega
        have eo:bits .or .i64 (n*2 ^ 3) (d)=n*2 ^ 3+(d):=by
         simp at hnb;rcases or_i64 3 n (d) hnb.1 (by omega) hv (by simp;omega) (by omega) with h | h
         ·exact h
         ·simp at h;omega
        simp only[go_sem,ip,fC,hw,lN,lM,lO,hc,hd,hv',eb,eo];exact⟨(5,_),⟨by simp,hs1⟩,by simp,wR [0,1,2]⟩
       ·have hn0:=hfail (by unfold bT;rw[if_neg];intro h;rw[show cB.getD 4 emp=⟨#[]⟩ from rfl,hc,show fQ.getD 4 0=7 from rfl,hd]at h;exact hv h.2.2);have hv':d<0:=by omega
        simp only[go_sem,ip,fC,hw,lN,lM,lO,hc,hd,hv',hn0,mc]
   ·obtain rfl:i=5:=by omega
    simp only[go_sem,hF,hn,mc]
 ·have h5I:¬(l.length:Int)=5:=by omega
  rw[if_neg h5]at hF;simp only[go_sem,show(⟨#[95]⟩:ByteArray).size=1 from rfl,hs,hl,h5I,hF,mc,List.length_map]
abbrev US:am prog 189 :=
 mz1 func189 (aT) ((fun s=>s.size≤1099511627776)) ((fun s=>.ret (mc (wN 3 s)))) (asP fun s hs=>IU s hs)
end Go.Proofs.YtnhbidpdadkcjaaGreatDoor
