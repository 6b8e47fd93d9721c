import Derived.Test.YtnhbidpdadkcjaaGreatDoorG13
open Go.RowKit
set_option linter.unusedVariables false
set_option linter.unusedSimpArgs false
set_option maxRecDepth 100000
set_option maxHeartbeats 8000000
namespace Go.Proofs.YtnhbidpdadkcjaaGreatDoor
open Tryz
def lX:Nat→List (ByteArray×Int)
 |0=>[]
 |n+1=>lX n++(if(aH (j7 n)).2=0 then[((aH (j7 n)).1,(n:Int))] else[])
def uj (k:Int):List (ByteArray×Int):=if k=1 then lX 128 else fE k
def Je (r:ByteArray×Int):List AV:=[sv r.1,iv r.2]
def Fk:List D→Option (Prop×List (List AV))
 |[.pd [.v (.int .i64 k)]]=>some (True,(uj k).map Je)
 |_=>none
theorem ED {n m:Nat}(h:n<m)(hr:(aH (j7 n)).2=0):(lX m)[(lX n).length]? = some ((aH (j7 n)).1,(n:Int)):=by
 induction m with
 |zero=>omega
 |succ m ih =>
  rw[lX];by_cases e:n=m
  ·subst e;rw[if_pos hr,List.getElem?_append_right (Nat.le_refl _),Nat.sub_self];rfl
  ·have:=ih (by omega);rw[List.getElem?_append_left (List.getElem?_eq_some_iff.1 this).1];exact this
theorem Nh (l:Nat)(k:Int):SWy prog l ((uj k).map Je) ⟨none,0⟩ f227.ntmps (f227.body.getD .skip) ⟨0,ax 0 [.s (.l (.v (.func (.yield l) #[] #[]))),.s (.l (.d (.pd [.v (.int .i64 k)])))],[]⟩ (0,true) (itQ ((uj k).map Je)):=by
 refine jw (ctx:=[⟨_,EC⟩,⟨_,pc⟩,⟨_,Mh⟩]) 4000 ?_;rw[ntmps227];simp only[f227,Option.getD_some,ax];by_cases hk:k=1
 ·subst hk;simp only[go_sem];refine r8 (ι:=Nat) (fun i=>i≤128) (fun i=>⟨0,[(0,.s (.l (.v (.func (.yield l) #[] #[])))),(10,iv i)],[]⟩) (fun i=>((lX i).length,true)) (fun i=>128-i) 0 (by omega) rfl (fun i _ b k hk=>by cases hk) (wR []) ?_;intro i hi;refine jw (ctx:=[⟨_,EC⟩,⟨_,pc⟩]) 4000 ?_;by_cases hlt:i<128
  ·have hltI:(i:Int)<128:=by omega
   have h0:(0:Int)≤i:=by omega
   have ei:=wI i;by_cases hr:(aH (j7 i)).2=0
   ·have hg:=ED hlt hr;simp only[go_sem,hltI,h0,LI,gu,eQ,hr,ei];refine⟨?_,i+1,by omega,by omega,?_,wR []⟩
    ·rw[show uj 1=lX 128 from rfl,hg];rfl
    ·rw[lX,if_pos hr];simp
   ·simp only[go_sem,hltI,h0,LI,gu,eQ,hr,ei];exact⟨i+1,by omega,by omega,by rw[lX,if_neg hr];simp,wR []⟩
  ·obtain rfl:i=128:=by omega
   simp only[go_sem,show uj 1=lX 128 from rfl]
 ·have ha:uj k=fE k:=by unfold uj;rw[if_neg hk]
  obtain⟨t,ht⟩:∃t,fE k=t:=⟨_,rfl⟩;rw[ha,ht]
  have hlen:t.length≤100:=by
   rw[←ht];unfold fE
   repeat' split
   all_goals decide
  by_cases hnil:t=[];have e:nY k=HB:=by unfold nY;rw[ht,if_pos hnil]
  simp only[go_sem,hk,e,HB];refine r8 (ι:=Nat) (fun i=>i≤t.length) (fun i=>⟨0,[(0,.s (.l (.v (.func (.yield l) #[] #[])))),(30,i6 t),(31,iv t.length),(32,iv i)],[]⟩) (fun i=>(i,true)) (fun i=>t.length-i) 0 (Nat.zero_le _) rfl (fun i _ b k hk=>by cases hk) ((Wk.nilD 30 2 rfl).trans (Wk.renL [] (by simp) (by simp) (by simp) (by subst hnil;rfl) rfl)) ?_;rotate_left;have e:nY k=i6 t:=by unfold nY;rw[ht,if_neg hnil]
  simp only[go_sem,hk,e];refine r8 (ι:=Nat) (fun i=>i≤t.length) (fun i=>⟨0,[(0,.s (.l (.v (.func (.yield l) #[] #[])))),(30,i6 t),(31,iv t.length),(32,iv i)],[]⟩) (fun i=>(i,true)) (fun i=>t.length-i) 0 (Nat.zero_le _) rfl (fun i _ b k hk=>by cases hk) (wR []) ?_
  all_goals
   intro i hi;refine jw (ctx:=[]) 4000 ?_;rcases Nat.lt_or_ge i t.length with hlt | hge
   ·have hltI:(i:Int)<t.length:=by omega
    obtain⟨r,hr⟩:∃r,t[i]? = some r:=⟨_,List.getElem?_eq_getElem hlt⟩;have ei:=wI i;simp only[go_sem,hltI,hr,kS,ei];exact⟨rfl,i+1,by omega,by omega,rfl,wR []⟩
   ·obtain rfl:i=t.length:=by omega
    have hI:¬(t.length:Int)<t.length:=by omega
    simp only[go_sem,hI]
noncomputable def JA:It prog 227 :=
 Tj _ _ _ func227 rfl rfl (fun _ _=>by go_simp) Fk (by
  intro ds q L hd hq l;unfold Fk at hd;split at hd
  case h_2=>cases hd
  rename_i k;injection hd with hd;injection hd with _ hd;subst hd;exact⟨by rw[ntmps227];show 1+1≤44;decide,Nh l k⟩)
theorem JB {k:Int}:JA.dec [.pd [.v (.int .i64 k)]]=some (True,(uj k).map Je):=rfl
abbrev Up:am prog 188 :=
 mz1 func188 (bq .i64) ((fun _=>True)) ((fun k=>.ret (.fn 227 [] [.d (.pd [.v (.int .i64 k)])]))) (asP fun k _=>by
 refine aq [] rfl ?_;simp only[go_sem])
def hsS:ByteArray:=⟨#[104,115]⟩
def loS:ByteArray:=⟨#[108,111]⟩
def csS:ByteArray:=⟨#[99,115]⟩
def ccS:ByteArray:=⟨#[99,99]⟩
def ji (k:Int)(s:ByteArray):ByteArray:=if k=2∧s=hsS then csS else if k=2∧s=loS then ccS else s
def ai (lim:Nat)(k:Int)(s:ByteArray):Int×Int :=
 if k=1 then(if(fi lim s).2=0 then(sP (fi lim s).1,0) else(0,(fi lim s).2)) else
 match iQ (fE k) (ji k s) with
 |some n=>(n,0)
 |none=>if k=6 then match wN lim (ji k s) with
   |some n=>(n,0)
   |none=>(0,30)
  else(0,30)
def bz (r:Int×Int):AV:=.tup [.l (.v (.int .i64 r.1)),.l (.v (.int .i64 r.2))]
theorem EA (lim:Nat)(s:ByteArray):0≤(fi lim s).1.n∧(fi lim s).1.n≤31:=by
 unfold fi
 repeat' split
 all_goals (try simp)
 unfold BY;split
 ·rename_i n hd;have:=fL (lim:=lim) (s:=s.extract 1 s.size) (most:=30) (by rw[hd]);rw[hd]at this;simp only at this ⊢;omega
 ·simp
def kI (a:ByteArray):Blk:=⟨true,9,1,[[.v (.string a)]]⟩
def jF (n:Int):Blk:=⟨true,2,1,[[.v (.int .i64 n)]]⟩
def jE (n:Int):Blk:=⟨true,27,1,[[.v (.int .i64 n)]]⟩
def numT (k:Int):cK:=[(0,iv k),(3,pv 0 0 0),(4,pv 1 0 0),(5,pv 2 0 0),(40,.s (.l (.d (.fn 227 [] [.pd [.v (.int .i64 k)]]))))]
def xm (a:ByteArray):ag:=[(0,some (kI a)),(1,some (jF 0)),(2,some (jE 0))]
def xn (k:Int)(a:ByteArray):St:=⟨3,numT k,xm a⟩
def uE:Code→Code
 |.seq x y=>match uE x with
  |.skip=>uE y
  |z=>z
 |.block _ x=>uE x
 |.rangeFunc x ps as' bo=>.rangeFunc x ps as' bo
 |_=>.skip
theorem sQ (k:Int)(s:ByteArray)(hs:s.size≤1099511627776):Sw f141 0 ⟨0,ax 0 [(bq .i64).enc k,aT.enc s],[]⟩ (oQ f141 (.ret (bz (ai 3 k s)))):=by
 refine aq [⟨_,TA⟩,⟨_,QI⟩,⟨_,Up⟩,⟨_,US⟩] rfl ?_;by_cases hk:k=1
 ·subst hk;have hr:=EA 3 s;have q : -100000<(fi 3 s).1.n∧(fi 3 s).1.n<100000:=by omega
  by_cases he:(fi 3 s).2=0
  ·have hF:ai 3 1 s=(sP (fi 3 s).1,0):=by unfold ai;rw[if_pos rfl,if_pos he]
   simp only[go_sem,qC,he,gu,hF,bz,q]
  ·have hF:ai 3 1 s=(0,(fi 3 s).2):=by unfold ai;rw[if_pos rfl,if_neg he]
   simp only[go_sem,qC,he,hF,bz]
 ·obtain⟨a,ha⟩:∃a,ji k s=a:=⟨_,rfl⟩
  have haz:a.size≤1099511627776:=by
   rw[←ha];unfold ji;split
   ·decide
   ·split
    ·decide
    ·exact hs
  have nf:∀(Q:Exit→St→Prop),(∀nx t (n:Int),iQ (fE k) a=some n→bI t 4=pv 1 0 0→bI t 5=pv 2 0 0→Q .ret ⟨nx,t,[(2,some (jE 0)),(1,some (jF n)),(0,some (kI a)),(1,some (jF 0)),(2,some (jE 0))]⟩) →
    (iQ (fE k) a=none→Q .normal (xn k a))→SW prog ⟨none,0⟩ 56 (uE (f141.body.getD .skip)) (xn k a) Q:=by
   intro Q hret hdone;refine Ma (K':=3) (by decide) (fun j hj=>?_) ?_
   ·have hj':j=0∨j=1∨j=2:=by omega
    rcases hj' with rfl | rfl | rfl<;>exact⟨_,rfl⟩
   refine CE (ι:=Unit) (mv:=[(8,41),(9,42)]) (t:=numT k) (fun i _=>∀(j:Nat) (r:ByteArray×Int),j<i→(fE k)[j]? = some r→¬r.1=a) (fun _=>xm a) (fun _=>3) (fun c s=>c=.ret∧∃n,iQ (fE k) a=some n∧s.h=[(2,some (jE 0)),(1,some (jF n)),(0,some (kI a)),(1,some (jF 0)),(2,some (jE 0))]) JA JB trivial rfl rfl (by decide) (by decide) (fun As hA=>?_) (FZ rfl) (fun i x _=>mE rfl) (fun c s h=>?_) () (fun j r hj=>absurd hj (Nat.not_lt_zero j)) (fun l i x As hinv hA=>?_) (fun x hinv=>?_) (fun c s h=>?_)
   ·obtain⟨r,_,rfl⟩:=List.mem_map.1 hA;rfl
   ·obtain⟨_,n,_,hh⟩:=h;rw[hh];exact mE rfl
   ·rw[List.getElem?_map,Option.map_eq_some_iff]at hA;obtain⟨r,hr,rfl⟩:=hA;have hr':(fE k)[i]? = some r:=by rw[show uj k=fE k by unfold uj;rw[if_neg hk]]at hr;exact hr
    refine aw [] ?_;by_cases he:r.1=a
    ·simp only[go_sem,lD,je,Je,numT,xm,jE,kI,jF,List.zip_cons_cons,List.zip_nil_left,List.foldl_cons,List.foldl_nil,he];exact⟨r.2,KM hinv hr' he,rfl⟩
    ·simp only[go_sem,lD,je,Je,numT,xm,jE,kI,jF,List.zip_cons_cons,List.zip_nil_left,List.foldl_cons,List.foldl_nil,he];refine⟨fun j r' hj hj'=>?_,Wk.renL [0,1,2] (UK 3) (Nat.le_refl 3) (by decide) rfl rfl⟩
     ·by_cases e:j=i
      ·subst e;rw[hr']at hj';injection hj' with hj';rw[←hj'];exact he
      ·exact hinv j r' (by omega) hj'
   ·exact hdone (D5 (by rw[List.length_map,show uj k=fE k by unfold uj;rw[if_neg hk]]at hinv;exact hinv))
   ·obtain⟨rfl,n,hn,hh⟩:=h;refine OW ?_;obtain⟨nx,t,hp⟩:=s;simp only at hh;subst hh;exact hret nx (numT k) n hn rfl rfl
  have hwk:∀{nx t h},Wk ⟨none,0⟩ ⟨nx,(40,.s (.l (.d (.fn 227 [] [.pd [.v (.int .i64 k)]]))))::t,h⟩ (xn k a)→bI t 40=.fn 227 [] [.d (.pd [.v (.int .i64 k)])]→Wk ⟨none,0⟩ ⟨nx,t,h⟩ (xn k a):=fun h1 h2=>(Wk.fnD (s:=⟨_,_,_⟩) 40 h2 rfl rfl).trans h1;have hyes:∀n,iQ (fE k) a=some n→ai 3 k s=(n,0):=fun n hn=>by unfold ai;rw[if_neg hk,ha,hn]
  have hno:iQ (fE k) a=none→ai 3 k s=if k=6 then match wN 3 a with
   |some n=>((n,0):Int×Int)
   |none=>(0,30) else(0,30):=fun hn=>by unfold ai;rw[if_neg hk,ha,hn]
  by_cases h2:k=2
  ·by_cases h3:s=⟨#[104,115]⟩
   ·have has:a=⟨#[99,115]⟩:=by rw[←ha];unfold ji;rw[if_pos ⟨h2,h3⟩];rfl
    simp only[go_sem,hk,eq_true h2,eq_true h3];refine SW.wk (nf _ (fun nx t n hn h4 h5=>?_) (fun hn=>?_)) (hwk (Wk.renL [0,16,32] (by simp) (Nat.le_refl 3) (by simp) rfl (by rw[has];rfl)) rfl)
    ·have hF:=hyes n hn;simp only[go_sem,h4,h5,jE,jF,kI,hF,bz]
    ·have hF:=hno hn;have h6:¬k=6:=by omega
     rw[if_neg h6]at hF;simp only[go_sem,xn,numT,xm,h6,jE,jF,kI,hF,bz]
   by_cases h4:s=⟨#[108,111]⟩
   ·have has:a=⟨#[99,99]⟩:=by rw[←ha];unfold ji;rw[if_neg (fun h=>h3 h.2),if_pos ⟨h2,h4⟩];rfl
    simp only[go_sem,hk,eq_true h2,h3,eq_true h4];refine SW.wk (nf _ (fun nx t n hn h4 h5=>?_) (fun hn=>?_)) (hwk (Wk.renL [0,16,32] (by simp) (Nat.le_refl 3) (by simp) rfl (by rw[has];rfl)) rfl)
    ·have hF:=hyes n hn;simp only[go_sem,h4,h5,jE,jF,kI,hF,bz]
    ·have hF:=hno hn;have h6:¬k=6:=by omega
     rw[if_neg h6]at hF;simp only[go_sem,xn,numT,xm,h6,jE,jF,kI,hF,bz]
   ·have has:a=s:=by rw[←ha];unfold ji;rw[if_neg (fun h=>h3 h.2),if_neg (fun h=>h4 h.2)]
    simp only[go_sem,hk,eq_true h2,h3,h4];refine SW.wk (nf _ (fun nx t n hn h4 h5=>?_) (fun hn=>?_)) (hwk (Wk.renL [0,16,32] (by simp) (Nat.le_refl 3) (by simp) rfl (by rw[has];rfl)) rfl)
    ·have hF:=hyes n hn;simp only[go_sem,h4,h5,jE,jF,kI,hF,bz]
    ·have hF:=hno hn;have h6:¬k=6:=by omega
     rw[if_neg h6]at hF;simp only[go_sem,xn,numT,xm,h6,jE,jF,kI,hF,bz]
  ·have has:a=s:=by rw[←ha];unfold ji;rw[if_neg (fun h=>h2 h.1),if_neg (fun h=>h2 h.1)]
   simp only[go_sem,hk,h2];refine SW.wk (nf _ (fun nx t n hn h4 h5=>?_) (fun hn=>?_)) (hwk (Wk.renL [0,16,32] (by simp) (Nat.le_refl 3) (by simp) rfl (by rw[has];rfl)) rfl)
   ·have hF:=hyes n hn;simp only[go_sem,h4,h5,jE,jF,kI,hF,bz]
   ·have hF:=hno hn;by_cases h6:k=6
    ·rw[if_pos h6]at hF;rcases hsys:wN 3 a with _ | n
     ·rw[hsys]at hF;simp only[go_sem,xn,numT,xm,eq_true h6,jE,jF,kI,haz,hsys,mc,hF,bz]
     ·rw[hsys]at hF;simp only[go_sem,xn,numT,xm,eq_true h6,jE,jF,kI,haz,hsys,mc,hF,bz]
    ·rw[if_neg h6]at hF;simp only[go_sem,xn,numT,xm,h6,jE,jF,kI,hF,bz]
abbrev uD:am prog 141 :=
 mz2 func141 (bq .i64) (aT) ((fun _ s=>s.size≤1099511627776)) ((fun k s=>.ret (bz (ai 3 k s)))) (asP fun k s hs=>sQ k s hs)
def yI (lim:Nat)(s:ByteArray):Nat→Bool
 |0=>false
 |n+1=>yI lim s n||decide ((ai lim (n+1:Nat) s).2=0)
def ke (lim:Nat)(s:ByteArray):Bool:=yI lim s 8
theorem I6 {lim:Nat}{s:ByteArray}{i:Nat}(h:(ai lim (i+1:Nat) s).2=0):∀{j},i<j→yI lim s j=true:=by
 intro j hj
 induction j with
 |zero=>omega
 |succ j ih =>
  rw[yI];by_cases e:i=j
  ·subst e;rw[decide_eq_true h,Bool.or_true]
  ·rw[ih (by omega)];rfl
theorem O5 (s:ByteArray)(hs:s.size≤1099511627776):Sw f168 0 ⟨0,ax 0 [aT.enc s],[]⟩ (oQ f168 (.ret (bv (ke 3 s)))):=by
 refine aq [⟨_,uD⟩] rfl ?_;simp only[go_sem];refine bF (ι:=Nat) (fun i=>i≤8∧yI 3 s i=false) (fun i=>⟨0,[(0,sv s),(3,iv ((i:Int)+1))],[]⟩) (fun i=>8-i) 0 ⟨by omega,rfl⟩ (wR []) ?_;rintro i ⟨hi,hn⟩;refine aw [⟨_,uD⟩] ?_;by_cases hlt:i<8
 ·have hltI:(i:Int)+1≤8:=by omega
  have ei:IntKind.i64.wrap ((i:Int)+1+1)=((i+1:Nat):Int)+1:=by rw[IntKind.wrap_i64];omega
  have ec:((i+1:Nat):Int)=(i:Int)+1:=by omega
  by_cases he:(ai 3 ((i:Int)+1) s).2=0
  ·have hw:ke 3 s=true:=I6 (i:=i) (by rw[ec];exact he) hlt;simp only[go_sem,hltI,hs,bz,eq_true he,hw]
  ·simp only[go_sem,hltI,hs,bz,he,ei];exact⟨i+1,⟨by omega,by rw[yI,hn,ec];simp[he]⟩,by omega,wR []⟩
 ·obtain rfl:i=8:=by omega
  simp only[go_sem,show ke 3 s=false from hn,show ¬((8:Int)+1≤8) by omega]
abbrev My:am prog 168 :=
 mz1 func168 (aT) ((fun s=>s.size≤1099511627776)) ((fun s=>.ret (bv (ke 3 s)))) (asP fun s hs=>O5 s hs)
end Go.Proofs.YtnhbidpdadkcjaaGreatDoor
