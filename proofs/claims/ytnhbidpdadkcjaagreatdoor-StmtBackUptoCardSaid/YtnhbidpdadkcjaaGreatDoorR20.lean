import Derived.Test.YtnhbidpdadkcjaaGreatDoorR13
open Go.RowKit
set_option linter.unusedVariables false
set_option linter.unusedSimpArgs false
set_option maxRecDepth 100000
set_option maxHeartbeats 8000000
open Nat (zero_le)
namespace Go.Proofs.YtnhbidpdadkcjaaGreatDoor
open Tryz
theorem O1 (k n:Int):Sw f114 0 ⟨0,aB 0 [(bO .i64).enc k,(bO .i64).enc n],[]⟩ (oQ f114 (.ret (cx (an k n)))):=by
 refine aq [⟨_,BZ⟩,⟨_,Kd⟩,⟨_,Jb⟩] rfl ?_;by_cases hk:k=1
 ·subst hk;by_cases h1:n<0
  ·simp only[go_sem,h1,cx,an,ac]
  by_cases h2:128≤n
  ·have h2':127<n:=by omega
   simp only[go_sem,h1,h2,h2',cx,an,ac]
  have h2':¬127<n:=by omega
  have h0:0≤n:=by omega
  have d1:n.tdiv 32=n / 32:=Int.tdiv_eq_ediv_of_nonneg h0;have d2:n.tmod 32=n % 32:=Int.tmod_eq_emod_of_nonneg h0;have d3:(n / 32).tmod 2=n / 32 % 2:=Int.tmod_eq_emod_of_nonneg (by omega);have d4:n.tdiv 64=n / 64:=Int.tdiv_eq_ediv_of_nonneg h0;have e1:IntKind.i64.wrap (n / 32)=n / 32:=by rw[IntKind.wrap_i64];omega
  have e2:IntKind.i64.wrap (n % 32)=n % 32:=by rw[IntKind.wrap_i64];omega
  have e4:IntKind.i64.wrap (n / 64)=n / 64:=by rw[IntKind.wrap_i64];omega
  have e5:(n / 32 % 2==1)=decide (n / 32 % 2=1):=by by_cases h:n / 32 % 2=1<;>simp[h]
  have e6:(n / 64==1)=decide (64≤n):=by by_cases h:64≤n<;>simp[h]<;>omega
  simp only[go_sem,h1,h2,h2',cx,an,ac,Mx,fk,kG,d1,d2,d3,d4,e1,e2,e4,e5,e6]
 ·obtain⟨l,hl⟩:∃l,fK k=l:=⟨_,rfl⟩
  have hlen:l.length≤100:=by
   rw[←hl];unfold fK
   repeat' split
   all_goals decide
  by_cases hnil:l=[];have e:gU k=zm:=by unfold gU;rw[hl,if_pos hnil]
  simp only[go_sem,hk,e,zm];refine ba (ι:=Nat) (fun i=>i≤l.length∧∀(j:Nat) (r:ByteArray×Int),j<i→l[j]? = some r→¬r.2=n) (fun i=>⟨0,[(0,iv k),(1,iv n),(6,fW l),(7,iv i)],[]⟩) (fun i=>l.length-i) 0 ⟨zero_le _,fun j r hj=>absurd hj (Nat.not_lt_zero j)⟩ ((Wk.nilD 6 2 rfl).trans (Wk.renL [] (by simp) (by simp) (by simp) (by subst hnil;rfl) rfl)) ?_;rotate_left;have e:gU k=fW l:=by unfold gU;rw[hl,if_neg hnil]
  simp only[go_sem,hk,e];refine ba (ι:=Nat) (fun i=>i≤l.length∧∀(j:Nat) (r:ByteArray×Int),j<i→l[j]? = some r→¬r.2=n) (fun i=>⟨0,[(0,iv k),(1,iv n),(6,fW l),(7,iv i)],[]⟩) (fun i=>l.length-i) 0 ⟨zero_le _,fun j r hj=>absurd hj (Nat.not_lt_zero j)⟩ (wR []) ?_
  all_goals
   rintro i ⟨hi,hn⟩;refine aw [⟨_,Jb⟩] ?_;rcases Nat.lt_or_ge i l.length with hlt | hge
   ·have hltI:(i:Int)<l.length:=by omega
    obtain⟨r,hr⟩:∃r,l[i]? = some r:=⟨_,List.getElem?_eq_getElem hlt⟩;have ei:=wI i;by_cases hrn:r.2=n
    ·have er:an k n=(r.1,0):=by unfold an;rw[if_neg hk,hl,BH hn hr hrn]
     simp only[go_sem,hltI,hr,fj,hrn,er,cx]
    ·simp only[go_sem,hltI,hr,fj,hrn,ei];refine⟨i+1,⟨hlt,fun j r' hj hr'=>?_⟩,by omega,wR []⟩;by_cases e2:j=i
     ·subst e2;rw[hr]at hr';injection hr' with hr';rw[←hr'];exact hrn
     ·exact hn j r' (by omega) hr'
   ·obtain rfl:i=l.length:=by omega
    have hI:¬(l.length:Int)<l.length:=by omega
    have hno:=ww hn;by_cases hs:k=6∧0≤n∧n<32768
    ·have er:an k n=(dc n,0):=by unfold an;rw[if_neg hk,hl,hno];simp only[hs,and_self,if_true]
     have h0:=hs.2.1;have h1:=hs.2.2;have h2:¬n<0:=by omega
     have h3:¬32768≤n:=by omega
     have d1:n.tdiv 16384=n / 16384:=Int.tdiv_eq_ediv_of_nonneg h0;have d2:n.tdiv 2048=n / 2048:=Int.tdiv_eq_ediv_of_nonneg h0;have d3:n.tdiv 128=n / 128:=Int.tdiv_eq_ediv_of_nonneg h0;have d4:n.tdiv 8=n / 8:=Int.tdiv_eq_ediv_of_nonneg h0;have d5:n.tmod 8=n % 8:=Int.tmod_eq_emod_of_nonneg h0;have d6:(n / 2048).tmod 8=n / 2048 % 8:=Int.tmod_eq_emod_of_nonneg (by omega);have d7:(n / 128).tmod 16=n / 128 % 16:=Int.tmod_eq_emod_of_nonneg (by omega);have d8:(n / 8).tmod 16=n / 8 % 16:=Int.tmod_eq_emod_of_nonneg (by omega);have w0:IntKind.i64.wrap n=n:=by rw[IntKind.wrap_i64];omega
     have w1:IntKind.i64.wrap (n / 16384)=n / 16384:=by rw[IntKind.wrap_i64];omega
     have w2:IntKind.i64.wrap (n / 16384+2)=n / 16384+2:=by rw[IntKind.wrap_i64];omega
     have w3:IntKind.i64.wrap (n / 2048)=n / 2048:=by rw[IntKind.wrap_i64];omega
     have w4:IntKind.i64.wrap (n / 128)=n / 128:=by rw[IntKind.wrap_i64];omega
     have w5:IntKind.i64.wrap (n / 8)=n / 8:=by rw[IntKind.wrap_i64];omega
     have sz:=mK;have z1:=sz (n / 16384+2);have z2:=sz (n / 2048 % 8);have z3:=sz (n / 128 % 16);have z4:=sz (n / 8 % 16);have z5:=sz (n % 8);have hm:maxLen=9223372036854775807:=rfl;have c1:(⟨#[115]⟩:ByteArray).size=1:=rfl;have c2:(⟨#[95]⟩:ByteArray).size=1:=rfl;have c3:(⟨#[95,99]⟩:ByteArray).size=2:=rfl;simp only[go_sem,hI,eq_true hs.1,h2,h3,er,cx,d1,d2,d3,d4,d5,d6,d7,d8,w0,w1,w2,w3,w4,w5];simp only[ByteArray.size_append,c1,c2,c3,hm];refine⟨by omega,by omega,by omega,by omega,by omega,by omega,by omega,by omega,by omega,by omega,by omega,by omega,by omega,by omega,rfl⟩
    ·have er:an k n=(emp,30):=by unfold an;rw[if_neg hk,hl,hno];simp only[hs,if_false]
     by_cases a1:k=6
     ·by_cases a2:n<0
      ·simp only[go_sem,hI,eq_true a1,a2,er,cx,ac]
      ·have a3:32768≤n:=by
        by_cases h:n<32768
        ·exact absurd ⟨a1,by omega,h⟩ hs
        ·omega
       simp only[go_sem,hI,eq_true a1,a2,a3,er,cx,ac]
     ·simp only[go_sem,hI,a1,er,cx,ac]
abbrev VK:ap prog 114 :=
 mz2 func114 (bO .i64) (bO .i64) ((fun _ _=>True)) ((fun k n=>.ret (cx (an k n)))) (asP fun k n _=>O1 k n)
def nL:Nat→List (ByteArray×Int)
 |0=>[]
 |n+1=>nL n++(if(aJ (kG n)).2=0 then[((aJ (kG n)).1,(n:Int))] else[])
def wY (k:Int):List (ByteArray×Int):=if k=1 then nL 128 else fK k
def Np (r:ByteArray×Int):List AV:=[sv r.1,iv r.2]
def JF:List D→Option (Prop×List (List AV))
 |[.pd [.v (.int .i64 k)]]=>some (True,(wY k).map Np)
 |_=>none
theorem IG {n m:Nat}(h:n<m)(hr:(aJ (kG n)).2=0):(nL m)[(nL n).length]? = some ((aJ (kG n)).1,(n:Int)):=by
 induction m with
 |zero=>omega
 |succ m ih =>
  rw[nL];by_cases e:n=m
  ·subst e;rw[if_pos hr,List.getElem?_append_right (Nat.le_refl _),Nat.sub_self];rfl
  ·have:=ih (by omega);rw[List.getElem?_append_left (List.getElem?_eq_some_iff.1 this).1];exact this
theorem RW (l:Nat)(k:Int):SWy prog l ((wY k).map Np) ⟨none,0⟩ f227.ntmps (f227.body.getD .skip) ⟨0,aB 0 [.s (.l (.v (.func (.yield l) #[] #[]))),.s (.l (.d (.pd [.v (.int .i64 k)])))],[]⟩ (0,true) (itQ ((wY k).map Np)):=by
 refine pW (ctx:=[⟨_,IE⟩,⟨_,qU⟩,⟨_,QP⟩]) 4000 ?_;rw[ntmps227];simp only[f227,Option.getD_some,aB];by_cases hk:k=1
 ·subst hk;simp only[go_sem];refine Ag (ι:=Nat) (fun i=>i≤128) (fun i=>⟨0,[(0,.s (.l (.v (.func (.yield l) #[] #[])))),(10,iv i)],[]⟩) (fun i=>((nL i).length,true)) (fun i=>128-i) 0 (by omega) rfl (fun i _ b k hk=>by cases hk) (wR []) ?_;intro i hi;refine pW (ctx:=[⟨_,IE⟩,⟨_,qU⟩]) 4000 ?_;by_cases hlt:i<128
  ·have hltI:(i:Int)<128:=by omega
   have h0:(0:Int)≤i:=by omega
   have ei:=wI i;by_cases hr:(aJ (kG i)).2=0
   ·have hg:=IG hlt hr;simp only[go_sem,hltI,h0,Mx,fk,cx,hr,ei];refine⟨?_,i+1,by omega,by omega,?_,wR []⟩
    ·rw[show wY 1=nL 128 from rfl,hg];rfl
    ·rw[nL,if_pos hr];simp
   ·simp only[go_sem,hltI,h0,Mx,fk,cx,hr,ei];exact⟨i+1,by omega,by omega,by rw[nL,if_neg hr];simp,wR []⟩
  ·obtain rfl:i=128:=by omega
   simp only[go_sem,show wY 1=nL 128 from rfl]
 ·have ha:wY k=fK k:=by unfold wY;rw[if_neg hk]
  obtain⟨t,ht⟩:∃t,fK k=t:=⟨_,rfl⟩;rw[ha,ht]
  have hlen:t.length≤100:=by
   rw[←ht];unfold fK
   repeat' split
   all_goals decide
  by_cases hnil:t=[];have e:gU k=zm:=by unfold gU;rw[ht,if_pos hnil]
  simp only[go_sem,hk,e,zm];refine Ag (ι:=Nat) (fun i=>i≤t.length) (fun i=>⟨0,[(0,.s (.l (.v (.func (.yield l) #[] #[])))),(30,fW t),(31,iv t.length),(32,iv i)],[]⟩) (fun i=>(i,true)) (fun i=>t.length-i) 0 (zero_le _) rfl (fun i _ b k hk=>by cases hk) ((Wk.nilD 30 2 rfl).trans (Wk.renL [] (by simp) (by simp) (by simp) (by subst hnil;rfl) rfl)) ?_;rotate_left;have e:gU k=fW t:=by unfold gU;rw[ht,if_neg hnil]
  simp only[go_sem,hk,e];refine Ag (ι:=Nat) (fun i=>i≤t.length) (fun i=>⟨0,[(0,.s (.l (.v (.func (.yield l) #[] #[])))),(30,fW t),(31,iv t.length),(32,iv i)],[]⟩) (fun i=>(i,true)) (fun i=>t.length-i) 0 (zero_le _) rfl (fun i _ b k hk=>by cases hk) (wR []) ?_
  all_goals
   intro i hi;refine pW (ctx:=[]) 4000 ?_;rcases Nat.lt_or_ge i t.length with hlt | hge
   ·have hltI:(i:Int)<t.length:=by omega
    obtain⟨r,hr⟩:∃r,t[i]? = some r:=⟨_,List.getElem?_eq_getElem hlt⟩;have ei:=wI i;simp only[go_sem,hltI,hr,fj,ei];exact⟨rfl,i+1,by omega,by omega,rfl,wR []⟩
   ·obtain rfl:i=t.length:=by omega
    have hI:¬(t.length:Int)<t.length:=by omega
    simp only[go_sem,hI]
noncomputable def NL:It prog 227 :=
 Zn _ _ _ func227 rfl rfl (fun _ _=>by go_simp) JF (by
  intro ds q L hd hq l;unfold JF at hd;split at hd
  case h_2=>cases hd
  rename_i k;injection hd with hd;injection hd with _ hd;subst hd;exact⟨by rw[ntmps227];show 1+1≤44;decide,RW l k⟩)
theorem NM {k:Int}:NL.dec [.pd [.v (.int .i64 k)]]=some (True,(wY k).map Np):=rfl
abbrev Zb:ap prog 188 :=
 mz1 func188 (bO .i64) ((fun _=>True)) ((fun k=>.ret (.fn 227 [] [.d (.pd [.v (.int .i64 k)])]))) (asP fun k _=>by
 refine aq [] rfl ?_;simp only[go_sem])
def hsS:ByteArray:=⟨#[104,115]⟩
def loS:ByteArray:=⟨#[108,111]⟩
def csS:ByteArray:=⟨#[99,115]⟩
def ccS:ByteArray:=⟨#[99,99]⟩
def fN (k:Int)(s:ByteArray):ByteArray:=if k=2∧s=hsS then csS else if k=2∧s=loS then ccS else s
def ag (lim:Nat)(k:Int)(s:ByteArray):Int×Int :=
 if k=1 then(if(dg lim s).2=0 then(nI (dg lim s).1,0) else(0,(dg lim s).2)) else
 match ii (fK k) (fN k s) with
 |some n=>(n,0)
 |none=>if k=6 then match vI lim (fN k s) with
   |some n=>(n,0)
   |none=>(0,30)
  else(0,30)
def bA (r:Int×Int):AV:=.tup [.l (.v (.int .i64 r.1)),.l (.v (.int .i64 r.2))]
theorem zJ (lim:Nat)(s:ByteArray):0≤(dg lim s).1.n∧(dg lim s).1.n≤31:=by
 unfold dg
 repeat' split
 all_goals (try simp)
 unfold vw;split
 ·rename_i n hd;have:=cw (lim:=lim) (s:=s.extract 1 s.size) (most:=30) (by rw[hd]);rw[hd]at this;simp only at this ⊢;omega
 ·simp
def me (a:ByteArray):Blk:=⟨true,9,1,[[.v (.string a)]]⟩
def kW (n:Int):Blk:=⟨true,2,1,[[.v (.int .i64 n)]]⟩
def kV (n:Int):Blk:=⟨true,27,1,[[.v (.int .i64 n)]]⟩
def numT (k:Int):dM:=[(0,iv k),(3,pv 0 0 0),(4,pv 1 0 0),(5,pv 2 0 0),(40,.s (.l (.d (.fn 227 [] [.pd [.v (.int .i64 k)]]))))]
def AH (a:ByteArray):ai:=[(0,some (me a)),(1,some (kW 0)),(2,some (kV 0))]
def AI (k:Int)(a:ByteArray):St:=⟨3,numT k,AH a⟩
def xy:Code→Code
 |.seq x y=>match xy x with
  |.skip=>xy y
  |z=>z
 |.block _ x=>xy x
 |.rangeFunc x ps as' bo=>.rangeFunc x ps as' bo
 |_=>.skip
theorem vo (k:Int)(s:ByteArray)(hs:s.size≤1099511627776):Sw f141 0 ⟨0,aB 0 [(bO .i64).enc k,bw.enc s],[]⟩ (oQ f141 (.ret (bA (ag 3 k s)))):=by
 refine aq [⟨_,Yr⟩,⟨_,VQ⟩,⟨_,Zb⟩,⟨_,ZB⟩] rfl ?_;by_cases hk:k=1
 ·subst hk;have hr:=zJ 3 s;have q : -100000<(dg 3 s).1.n∧(dg 3 s).1.n<100000:=by omega
  by_cases he:(dg 3 s).2=0
  ·have hF:ag 3 1 s=(nI (dg 3 s).1,0):=by unfold ag;rw[if_pos rfl,if_pos he]
   simp only[go_sem,kg,he,fk,hF,bA,q]
  ·have hF:ag 3 1 s=(0,(dg 3 s).2):=by unfold ag;rw[if_pos rfl,if_neg he]
   simp only[go_sem,kg,he,hF,bA]
 ·obtain⟨a,ha⟩:∃a,fN k s=a:=⟨_,rfl⟩
  have haz:a.size≤1099511627776:=by
   rw[←ha];unfold fN;split
   ·decide
   ·split
    ·decide
    ·exact hs
  have nf:∀(Q:Exit→St→Prop),(∀nx t (n:Int),ii (fK k) a=some n→bR t 4=pv 1 0 0→bR t 5=pv 2 0 0→Q .ret ⟨nx,t,[(2,some (kV 0)),(1,some (kW n)),(0,some (me a)),(1,some (kW 0)),(2,some (kV 0))]⟩) →
    (ii (fK k) a=none→Q .normal (AI k a))→SW prog ⟨none,0⟩ 56 (xy (f141.body.getD .skip)) (AI k a) Q:=by
   intro Q hret hdone;refine WO (K':=3) (by decide) (fun j hj=>?_) ?_
   ·have hj':j=0∨j=1∨j=2:=by omega
    rcases hj' with rfl | rfl | rfl<;>exact⟨_,rfl⟩
   refine QJ (ι:=Unit) (mv:=[(8,41),(9,42)]) (t:=numT k) (fun i _=>∀(j:Nat) (r:ByteArray×Int),j<i→(fK k)[j]? = some r→¬r.1=a) (fun _=>AH a) (fun _=>3) (fun c s=>c=.ret∧∃n,ii (fK k) a=some n∧s.h=[(2,some (kV 0)),(1,some (kW n)),(0,some (me a)),(1,some (kW 0)),(2,some (kV 0))]) NL NM trivial rfl rfl (by decide) (by decide) (fun As hA=>?_) (Ud rfl) (fun i x _=>qL rfl) (fun c s h=>?_) () (fun j r hj=>absurd hj (Nat.not_lt_zero j)) (fun l i x As hinv hA=>?_) (fun x hinv=>?_) (fun c s h=>?_)
   ·obtain⟨r,_,rfl⟩:=List.mem_map.1 hA;rfl
   ·obtain⟨_,n,_,hh⟩:=h;rw[hh];exact qL rfl
   ·rw[List.getElem?_map,Option.map_eq_some_iff]at hA;obtain⟨r,hr,rfl⟩:=hA;have hr':(fK k)[i]? = some r:=by rw[show wY k=fK k by unfold wY;rw[if_neg hk]]at hr;exact hr
    refine aw [] ?_;by_cases he:r.1=a
    ·simp only[go_sem,zg,qS,Np,numT,AH,kV,me,kW,List.zip_cons_cons,List.zip_nil_left,List.foldl_cons,List.foldl_nil,he];exact⟨r.2,Fg hinv hr' he,rfl⟩
    ·simp only[go_sem,zg,qS,Np,numT,AH,kV,me,kW,List.zip_cons_cons,List.zip_nil_left,List.foldl_cons,List.foldl_nil,he];refine⟨fun j r' hj hj'=>?_,Wk.renL [0,1,2] (Zv 3) (Nat.le_refl 3) (by decide) rfl rfl⟩
     ·by_cases e:j=i
      ·subst e;rw[hr']at hj';injection hj' with hj';rw[←hj'];exact he
      ·exact hinv j r' (by omega) hj'
   ·exact hdone (zr (by rw[List.length_map,show wY k=fK k by unfold wY;rw[if_neg hk]]at hinv;exact hinv))
   ·obtain⟨rfl,n,hn,hh⟩:=h;refine T6 ?_;obtain⟨nx,t,hp⟩:=s;simp only at hh;subst hh;exact hret nx (numT k) n hn rfl rfl
  have hwk:∀{nx t h},Wk ⟨none,0⟩ ⟨nx,(40,.s (.l (.d (.fn 227 [] [.pd [.v (.int .i64 k)]]))))::t,h⟩ (AI k a)→bR t 40=.fn 227 [] [.d (.pd [.v (.int .i64 k)])]→Wk ⟨none,0⟩ ⟨nx,t,h⟩ (AI k a):=fun h1 h2=>(Wk.fnD (s:=⟨_,_,_⟩) 40 h2 rfl rfl).trans h1;have hyes:∀n,ii (fK k) a=some n→ag 3 k s=(n,0):=fun n hn=>by unfold ag;rw[if_neg hk,ha,hn]
  have hno:ii (fK k) a=none→ag 3 k s=if k=6 then match vI 3 a with
   |some n=>((n,0):Int×Int)
   |none=>(0,30) else(0,30):=fun hn=>by unfold ag;rw[if_neg hk,ha,hn]
  by_cases h2:k=2
  ·by_cases h3:s=⟨#[104,115]⟩
   ·have has:a=⟨#[99,115]⟩:=by rw[←ha];unfold fN;rw[if_pos ⟨h2,h3⟩];rfl
    simp only[go_sem,hk,eq_true h2,eq_true h3];refine SW.wk (nf _ (fun nx t n hn h4 h5=>?_) (fun hn=>?_)) (hwk (Wk.renL [0,16,32] (by simp) (Nat.le_refl 3) (by simp) rfl (by rw[has];rfl)) rfl)
    ·have hF:=hyes n hn;simp only[go_sem,h4,h5,kV,kW,me,hF,bA]
    ·have hF:=hno hn;have h6:¬k=6:=by omega
     rw[if_neg h6]at hF;simp only[go_sem,AI,numT,AH,h6,kV,kW,me,hF,bA]
   by_cases h4:s=⟨#[108,111]⟩
   ·have has:a=⟨#[99,99]⟩:=by rw[←ha];unfold fN;rw[if_neg (fun h=>h3 h.2),if_pos ⟨h2,h4⟩];rfl
    simp only[go_sem,hk,eq_true h2,h3,eq_true h4];refine SW.wk (nf _ (fun nx t n hn h4 h5=>?_) (fun hn=>?_)) (hwk (Wk.renL [0,16,32] (by simp) (Nat.le_refl 3) (by simp) rfl (by rw[has];rfl)) rfl)
    ·have hF:=hyes n hn;simp only[go_sem,h4,h5,kV,kW,me,hF,bA]
    ·have hF:=hno hn;have h6:¬k=6:=by omega
     rw[if_neg h6]at hF;simp only[go_sem,AI,numT,AH,h6,kV,kW,me,hF,bA]
   ·have has:a=s:=by rw[←ha];unfold fN;rw[if_neg (fun h=>h3 h.2),if_neg (fun h=>h4 h.2)]
    simp only[go_sem,hk,eq_true h2,h3,h4];refine SW.wk (nf _ (fun nx t n hn h4 h5=>?_) (fun hn=>?_)) (hwk (Wk.renL [0,16,32] (by simp) (Nat.le_refl 3) (by simp) rfl (by rw[has];rfl)) rfl)
    ·have hF:=hyes n hn;simp only[go_sem,h4,h5,kV,kW,me,hF,bA]
    ·have hF:=hno hn;have h6:¬k=6:=by omega
     rw[if_neg h6]at hF;simp only[go_sem,AI,numT,AH,h6,kV,kW,me,hF,bA]
  ·have has:a=s:=by rw[←ha];unfold fN;rw[if_neg (fun h=>h2 h.1),if_neg (fun h=>h2 h.1)]
   simp only[go_sem,hk,h2];refine SW.wk (nf _ (fun nx t n hn h4 h5=>?_) (fun hn=>?_)) (hwk (Wk.renL [0,16,32] (by simp) (Nat.le_refl 3) (by simp) rfl (by rw[has];rfl)) rfl)
   ·have hF:=hyes n hn;simp only[go_sem,h4,h5,kV,kW,me,hF,bA]
   ·have hF:=hno hn;by_cases h6:k=6
    ·rw[if_pos h6]at hF;rcases hsys:vI 3 a with _ | n
     ·rw[hsys]at hF;simp only[go_sem,AI,numT,AH,eq_true h6,kV,kW,me,haz,hsys,fV,hF,bA]
     ·rw[hsys]at hF;simp only[go_sem,AI,numT,AH,eq_true h6,kV,kW,me,haz,hsys,fV,hF,bA]
    ·rw[if_neg h6]at hF;simp only[go_sem,AI,numT,AH,h6,kV,kW,me,hF,bA]
abbrev xw:ap prog 141 :=
 mz2 func141 (bO .i64) (bw) ((fun _ s=>s.size≤1099511627776)) ((fun k s=>.ret (bA (ag 3 k s)))) (asP fun k s hs=>vo k s hs)
def wX (lim:Nat)(s:ByteArray):Nat→Bool
 |0=>false
 |n+1=>wX lim s n||decide ((ag lim (n+1:Nat) s).2=0)
def fa (lim:Nat)(s:ByteArray):Bool:=wX lim s 8
theorem vN {lim:Nat}{s:ByteArray}{i:Nat}(h:(ag lim (i+1:Nat) s).2=0):∀{j},i<j→wX lim s j=true:=by
 intro j hj
 induction j with
 |zero=>omega
 |succ j ih =>
  rw[wX];by_cases e:i=j
  ·subst e;rw[decide_eq_true h,Bool.or_true]
  ·rw[ih (by omega)];rfl
theorem Uh (s:ByteArray)(hs:s.size≤1099511627776):Sw f168 0 ⟨0,aB 0 [bw.enc s],[]⟩ (oQ f168 (.ret (bv (fa 3 s)))):=by
 refine aq [⟨_,xw⟩] rfl ?_;simp only[go_sem];refine ba (ι:=Nat) (fun i=>i≤8∧wX 3 s i=false) (fun i=>⟨0,[(0,sv s),(3,iv ((i:Int)+1))],[]⟩) (fun i=>8-i) 0 ⟨by omega,rfl⟩ (wR []) ?_;rintro i ⟨hi,hn⟩;refine aw [⟨_,xw⟩] ?_;by_cases hlt:i<8
 ·have hltI:(i:Int)+1≤8:=by omega
  have ei:IntKind.i64.wrap ((i:Int)+1+1)=((i+1:Nat):Int)+1:=by rw[IntKind.wrap_i64];omega
  have ec:((i+1:Nat):Int)=(i:Int)+1:=by omega
  by_cases he:(ag 3 ((i:Int)+1) s).2=0
  ·have hw:fa 3 s=true:=vN (i:=i) (by rw[ec];exact he) hlt;simp only[go_sem,hltI,hs,bA,eq_true he,hw]
  ·simp only[go_sem,hltI,hs,bA,he,ei];exact⟨i+1,⟨by omega,by rw[wX,hn,ec];simp[he]⟩,by omega,wR []⟩
 ·obtain rfl:i=8:=by omega
  simp only[go_sem,show fa 3 s=false from hn,show ¬((8:Int)+1≤8) by omega]
abbrev Ra:ap prog 168 :=
 mz1 func168 (bw) ((fun s=>s.size≤1099511627776)) ((fun s=>.ret (bv (fa 3 s)))) (asP fun s hs=>Uh s hs)
end Go.Proofs.YtnhbidpdadkcjaaGreatDoor
