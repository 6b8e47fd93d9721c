import Derived.Test.YtnhbidpdadkcjaaGreatDoorR26
set_option linter.unusedVariables false
set_option linter.unusedSimpArgs false
set_option maxRecDepth 100000
set_option maxHeartbeats 8000000
open Int (toNat_one)
namespace Go.Proofs.YtnhbidpdadkcjaaGreatDoor
open Tryz
open Go.RowKit
def Vn (s:ByteArray)(x:List ByteArray×Nat×Nat):Prop :=
 x.1.length≤x.2.2∧1≤x.2.1∧x.2.1≤x.2.2∧((x.2.2≤s.size∧x.1++bq (s.extract x.2.1 s.size) us=bq (s.extract 1 s.size) us∧∀j,x.2.1≤j→j<x.2.2→¬ab s j=95) ∨
  (x.2.2=s.size+1∧x.1=bq (s.extract 1 s.size) us))
theorem T8 (s:ByteArray)(hs:s.size≤1099511627776):Sw f164 0 ⟨0,aB 0 [bw.enc s],[]⟩ (oQ f164 (.ret (fV (mQ s)))):=by
 refine aq [⟨_,Oa⟩] rfl ?_;by_cases h1:s.size<1
 ·have h1':(s.size:Int)<1:=by omega
  have hF:mQ s=none:=by unfold mQ;rw[if_pos (.inl h1)]
  simp only[go_sem,h1',hF,fV]
 have h1':¬(s.size:Int)<1:=by omega
 have hp:(0:Int)<s.size:=by omega
 by_cases h2:ab s 0=115
 case neg =>
  have hF:mQ s=none:=by unfold mQ;rw[if_pos (.inr h2)]
  simp only[go_sem,h1',hp,h2,hF,fV]
 have hF:mQ s=Ds (bq (s.extract 1 s.size) us):=by unfold mQ;rw[nG]
 simp only[go_sem,h1',hp,h2];refine ba (ι:=List ByteArray×Nat×Nat) (Vn s) (fun x=>⟨1,[(0,sv s),(4,.s (.l (.sl 0 0 x.1.length))),(5,iv x.2.1),(6,iv x.2.2)],[(0,some ⟨true,9,1,x.1.map nM⟩)]⟩) (fun x=>s.size+1-x.2.2) ([],1,1) ⟨by simp,by simp,by simp,.inl ⟨by simp only;omega,rfl,fun j h h'=>by simp only at h h';omega⟩⟩ ?_ ?_
 ·exact(Wk.nil 4 9 1 rfl).trans (wR [208])
 ·rintro⟨l,a,i⟩ ⟨hl,ha,hai,hinv⟩;simp only at hl ha hai hinv;refine aw [⟨_,Oa⟩] ?_;have hil:i≤s.size+1:=by rcases hinv with h | h<;>omega
  have ei:=wI i;by_cases hlt:i≤s.size
  ·have hltI:(i:Int)≤s.size:=by omega
   rcases hinv with ⟨_,hsp,hno⟩ | h
   case inr=>omega
   by_cases hend:i=s.size
   ·have hendI:(i:Int)=s.size:=by omega
    have hsl:=I0 (s:=s) (a:=a) (fun j h h'=>hno j h (by omega));have e1:IntKind.i64.wrap ((s.size:Int)+1)=((s.size+1:Nat):Int):=by rw[IntKind.wrap_i64];omega
    simp only[go_sem,hltI,hendI,e1];refine⟨by omega,⟨by unfold maxLen;omega,by omega⟩,(l++[s.extract a s.size],s.size+1,s.size+1),⟨by simp only[List.length_append,List.length_cons,List.length_nil];omega,by simp only;omega,by simp,.inr ⟨rfl,by rw[←hsp,hsl]⟩⟩,by simp only;omega,Wk.renL [257] (by simp) (by simp) (by simp) (by simp[bR,AV.ren,SV.ren,LV.ren]) (by simp[hget,Blk.ren,nM,LV.ren,Function.comp_def])⟩
   ·have hendI:¬(i:Int)=s.size:=by omega
    have hi:i<s.size:=by omega
    have hiI:(i:Int)<s.size:=by omega
    by_cases hb:ab s i=95
    ·have hsl:=MP hai hi hb hno;simp only[go_sem,hltI,hendI,hiI,hb,ei];refine⟨by omega,⟨by unfold maxLen;omega,by omega⟩,(l++[s.extract a i],i+1,i+1),⟨by simp only[List.length_append,List.length_cons,List.length_nil];omega,by simp only;omega,by simp,.inl ⟨by simp only;omega,by rw[←hsp,hsl];simp,fun j h h'=>by simp only at h h';omega⟩⟩,by simp only;omega,Wk.renL [321] (by simp) (by simp) (by simp) (by simp[bR,AV.ren,SV.ren,LV.ren]) (by simp[hget,Blk.ren,nM,LV.ren,Function.comp_def])⟩
    ·simp only[go_sem,hltI,hendI,hiI,hb,ei];refine⟨(l,a,i+1),⟨by simp only;omega,ha,by simp only;omega,.inl ⟨by simp only;omega,hsp,fun j h h'=>?_⟩⟩,by simp only;omega,Wk.renL [0] (by simp) (by simp) (by simp) rfl (by simp[hget,Blk.ren,nM,LV.ren,Function.comp_def])⟩;by_cases e:j=i
     ·rw[e];exact hb
     ·exact hno j h (by simp only at h';omega)
  ·have hltI:¬(i:Int)≤s.size:=by omega
   rcases hinv with h | ⟨_,hsp⟩
   ·omega
   rw[←hsp]at hF;by_cases h5:l.length=5
   ·match l,h5 with
    |[p0,p1,p2,p3,p4],_ =>
     simp only[List.map_cons,List.map_nil,nM,List.length_cons,List.length_nil];by_cases q2:p2=emp
     ·have hn:mQ s=none:=by rw[hF];simp only[Ds];rw[if_pos (.inl q2)]
      simp only[go_sem,hltI,ac,eq_true q2,hn,fV]
     ·by_cases q3:p3=emp
      ·have hn:mQ s=none:=by rw[hF];simp only[Ds];rw[if_pos (.inr (.inl q3))]
       simp only[go_sem,hltI,ac,q2,eq_true q3,hn,fV]
      ·have z2:=lm q2;have z3:=lm q3;have z2I:(0:Int)<p2.size:=by omega
       have z3I:(0:Int)<p3.size:=by omega
       have z2J:(1:Int)≤p2.size:=by omega
       have z3J:(1:Int)≤p3.size:=by omega
       by_cases b2:ab p2 0=99
       case neg =>
        have hn:mQ s=none:=by rw[hF];simp only[Ds];rw[if_pos (.inr (.inr (.inl b2)))]
        simp only[go_sem,hltI,ac,q2,q3,z2I,z3I,b2,hn,fV]
       by_cases b3:ab p3 0=99
       case neg =>
        have hn:mQ s=none:=by rw[hF];simp only[Ds];rw[if_pos (.inr (.inr (.inr b3)))]
        simp only[go_sem,hltI,ac,q2,q3,z2I,z3I,b2,b3,hn,fV]
       have r0:=cw (lim:=2) (s:=p0) (most:=3);have r1:=cw (lim:=2) (s:=p1) (most:=7);have r2:=cw (lim:=2) (s:=p2.extract 1 p2.size) (most:=15);have r3:=cw (lim:=2) (s:=p3.extract 1 p3.size) (most:=15);have r4:=cw (lim:=2) (s:=p4) (most:=7);simp only[Ds]at hF;rw[if_neg (by rintro (h | h | h | h)<;>contradiction)]at hF;rcases h0:bi 2 p0 3 with ⟨v0,c0⟩;rcases h1:bi 2 p1 7 with ⟨v1,c1⟩;rcases h2:bi 2 (p2.extract 1 p2.size) 15 with ⟨v2,c2⟩;rcases h3:bi 2 (p3.extract 1 p3.size) 15 with ⟨v3,c3⟩;rcases h4:bi 2 p4 7 with ⟨v4,c4⟩;rw[h0]at r0 hF;rw[h1]at r1 hF;rw[h2]at r2 hF;rw[h3]at r3 hF;rw[h4]at r4 hF;simp only at r0 r1 r2 r3 r4 hF;by_cases ok:(c0=true∧c1=true∧c2=true∧c3=true∧c4=true∧2≤v0)
       ·rw[if_pos ok]at hF;obtain⟨rfl,rfl,rfl,rfl,rfl,hv⟩:=ok;have r0:=r0 rfl;have r1:=r1 rfl;have r2:=r2 rfl;have r3:=r3 rfl;have r4:=r4 rfl;have hv':¬v0<2:=by omega
        have w1:IntKind.i64.wrap (v0-2)=v0-2:=by rw[IntKind.wrap_i64];omega
        have w2:IntKind.i64.wrap ((v0-2)*8)=(v0-2)*8:=by rw[IntKind.wrap_i64];omega
        have w3:IntKind.i64.wrap ((v0-2)*8+v1)=(v0-2)*8+v1:=by rw[IntKind.wrap_i64];omega
        have w4:IntKind.i64.wrap (((v0-2)*8+v1)*16)=((v0-2)*8+v1)*16:=by rw[IntKind.wrap_i64];omega
        have w5:IntKind.i64.wrap (((v0-2)*8+v1)*16+v2)=((v0-2)*8+v1)*16+v2:=by rw[IntKind.wrap_i64];omega
        have w6:IntKind.i64.wrap ((((v0-2)*8+v1)*16+v2)*16)=(((v0-2)*8+v1)*16+v2)*16:=by rw[IntKind.wrap_i64];omega
        have w7:IntKind.i64.wrap ((((v0-2)*8+v1)*16+v2)*16+v3)=(((v0-2)*8+v1)*16+v2)*16+v3:=by rw[IntKind.wrap_i64];omega
        have w8:IntKind.i64.wrap (((((v0-2)*8+v1)*16+v2)*16+v3)*8)=((((v0-2)*8+v1)*16+v2)*16+v3)*8:=by rw[IntKind.wrap_i64];omega
        have w9:IntKind.i64.wrap (((((v0-2)*8+v1)*16+v2)*16+v3)*8+v4)=((((v0-2)*8+v1)*16+v2)*16+v3)*8+v4:=by rw[IntKind.wrap_i64];omega
        simp only[go_sem,hltI,ac,q2,q3,z2I,z3I,z2J,z3J,b2,b3,dj,toNat_one,h0,h1,h2,h3,h4,hv',w1,w2,w3,w4,w5,w6,w7,w8,w9,hF,fV]
       ·rw[if_neg ok]at hF
        have hv:c0=true→c1=true→c2=true→c3=true→c4=true→v0<2:=by
         intro h0 h1 h2 h3 h4;by_cases h:2≤v0
         ·exact absurd ⟨h0,h1,h2,h3,h4,h⟩ ok
         ·omega
        cases c0 with
        |false=>simp only[go_sem,hltI,ac,q2,q3,z2I,z3I,z2J,z3J,b2,b3,dj,toNat_one,h0,h1,h2,h3,h4,hF,fV]
        |true=>cases c1 with
         |false=>simp only[go_sem,hltI,ac,q2,q3,z2I,z3I,z2J,z3J,b2,b3,dj,toNat_one,h0,h1,h2,h3,h4,hF,fV]
         |true=>cases c2 with
          |false=>simp only[go_sem,hltI,ac,q2,q3,z2I,z3I,z2J,z3J,b2,b3,dj,toNat_one,h0,h1,h2,h3,h4,hF,fV]
          |true=>cases c3 with
           |false=>simp only[go_sem,hltI,ac,q2,q3,z2I,z3I,z2J,z3J,b2,b3,dj,toNat_one,h0,h1,h2,h3,h4,hF,fV]
           |true=>cases c4 with
            |false=>simp only[go_sem,hltI,ac,q2,q3,z2I,z3I,z2J,z3J,b2,b3,dj,toNat_one,h0,h1,h2,h3,h4,hF,fV]
            |true =>
             have hv':=hv rfl rfl rfl rfl rfl;simp only[go_sem,hltI,ac,q2,q3,z2I,z3I,z2J,z3J,b2,b3,dj,toNat_one,h0,h1,h2,h3,h4,hv',hF,fV]
   ·have hn:mQ s=none:=by
     rw[hF]
     match l,h5 with
     |[],_=>rfl
     |[_],_=>rfl
     |[_,_],_=>rfl
     |[_,_,_],_=>rfl
     |[_,_,_,_],_=>rfl
     |_::_::_::_::_::_::_,_=>rfl
    have h5I:¬(l.length:Int)=5:=by omega
    simp only[go_sem,hltI,h5I,hn,fV]
abbrev YK:ap prog 164 :=
 mz1 func164 (bw) ((fun s=>s.size≤1099511627776)) ((fun s=>.ret (fV (mQ s)))) (asP fun s hs=>T8 s hs)
theorem AJ (k:Int)(s:ByteArray):ag 3 k s=if k=1 then(if(dg 2 s).2=0 then(nI (dg 2 s).1,0) else(0,(dg 2 s).2)) else
 match ii (fK k) (fN k s) with
 |some n=>(n,0)
 |none=>if k=6 then match mQ (fN k s) with
   |some n=>(n,0)
   |none=>(0,30)
  else(0,30):=by
 unfold ag;rw[IC];by_cases hk:k=1
 ·rw[if_pos hk,if_pos hk]
 ·rw[if_neg hk,if_neg hk,T9];rfl
def C6:Code→Code
 |.seq x y=>match C6 x with
  |.skip=>C6 y
  |z=>z
 |.block _ x=>C6 x
 |.loop x=>.loop x
 |_=>.skip
theorem HP (k:Int)(s:ByteArray)(hs:s.size≤1099511627776):Sw f115 0 ⟨0,aB 0 [(bO .i64).enc k,bw.enc s],[]⟩ (oQ f115 (.ret (bA (ag 3 k s)))):=by
 refine aq [⟨_,Yq⟩,⟨_,Ta⟩,⟨_,Kd⟩,⟨_,YK⟩] rfl ?_;have hF:=AJ k s;by_cases hk:k=1
 ·subst hk;have hr:=zJ 2 s;have q : -100000<(dg 2 s).1.n∧(dg 2 s).1.n<100000:=by omega
  rw[if_pos rfl]at hF;by_cases he:(dg 2 s).2=0
  ·rw[if_pos he]at hF;simp only[go_sem,kg,he,fk,hF,bA,q]
  ·rw[if_neg he]at hF;simp only[go_sem,kg,he,hF,bA]
 ·rw[if_neg hk]at hF;obtain⟨a,ha⟩:∃a,fN k s=a:=⟨_,rfl⟩;rw[ha]at hF
  have haz:a.size≤1099511627776:=by
   rw[←ha];unfold fN;split
   ·decide
   ·split
    ·decide
    ·exact hs
  obtain⟨l,hl⟩:∃l,fK k=l:=⟨_,rfl⟩;rw[hl]at hF
  have hlen:l.length≤100:=by
   rw[←hl];unfold fK
   repeat' split
   all_goals decide
  have loop:∀(Q:Exit→St→Prop),(∀nx t (n:Int),ii l a=some n→bR t 4=iv n→bR t 5=iv 0→Q .ret ⟨nx,t,[]⟩)→(ii l a=none→∀nx t,bR t 0=iv k→bR t 1=sv a→Q (.exit 0) ⟨nx,t,[]⟩) →
    SW prog ⟨none,0⟩ 67 (C6 (f115.body.getD .skip)) ⟨0,[(0,iv k),(1,sv a),(8,fW l),(9,iv 0)],[]⟩ Q:=by
   intro Q hyes hno;refine ba (ι:=Nat) (fun i=>i≤l.length∧∀(j:Nat) (r:ByteArray×Int),j<i→l[j]? = some r→¬r.1=a) (fun i=>⟨0,[(0,iv k),(1,sv a),(8,fW l),(9,iv i)],[]⟩) (fun i=>l.length-i) 0 ⟨Nat.zero_le _,fun j r hj=>absurd hj (Nat.not_lt_zero j)⟩ (wR []) ?_;rintro i ⟨hi,hn⟩;refine aw [] ?_;rcases Nat.lt_or_ge i l.length with hlt | hge
   ·have hltI:(i:Int)<l.length:=by omega
    obtain⟨r,hr⟩:∃r,l[i]? = some r:=⟨_,List.getElem?_eq_getElem hlt⟩;have ei:=wI i;by_cases hrn:r.1=a
    ·simp only[go_sem,hltI,hr,fj,hrn];exact hyes _ _ r.2 (Fg hn hr hrn) rfl rfl
    ·simp only[go_sem,hltI,hr,fj,hrn,ei];refine⟨i+1,⟨hlt,fun j r' hj hr'=>?_⟩,by omega,wR []⟩;by_cases e2:j=i
     ·subst e2;rw[hr]at hr';injection hr' with hr';rw[←hr'];exact hrn
     ·exact hn j r' (by omega) hr'
   ·obtain rfl:i=l.length:=by omega
    have hI:¬(l.length:Int)<l.length:=by omega
    simp only[go_sem,hI];exact hno (zr hn) _ _ rfl rfl
  have hyes:∀n,ii l a=some n→ag 3 k s=(n,0):=fun n hn=>by rw[hF,hn]
  have hno:ii l a=none→ag 3 k s=if k=6 then match mQ a with
   |some n=>((n,0):Int×Int)
   |none=>(0,30) else(0,30):=fun hn=>by rw[hF,hn]
  by_cases h2:k=2
  ·have e:gU k=fW l:=by unfold gU;rw[hl,if_neg (by rw[←hl,h2];decide)]
   by_cases h3:s=⟨#[104,115]⟩
   ·have has:a=⟨#[99,115]⟩:=by rw[←ha];unfold fN;rw[if_pos ⟨h2,h3⟩];rfl
    have hnl:¬((⟨#[99,115]⟩:ByteArray)=⟨#[108,111]⟩):=by decide
    simp only[go_sem,hk,eq_true h2,eq_true h3,hnl,e];refine SW.wk (loop _ (fun nx t n hn h4 h5=>?_) (fun hn nx t h4 h5=>?_)) (Wk.renL [] (by simp) (by simp) (by simp) (by rw[has];rfl) rfl)
    ·have hF:=hyes n hn;simp only[go_sem,h4,h5,hF,bA]
    ·have hF:=hno hn;have h6:¬k=6:=by omega
     rw[if_neg h6]at hF;rcases hsys:mQ a with _ | n<;>simp only[go_sem,h4,h5,h6,haz,hsys,fV,hF,bA]
   by_cases h4:s=⟨#[108,111]⟩
   ·have has:a=⟨#[99,99]⟩:=by rw[←ha];unfold fN;rw[if_neg (fun h=>h3 h.2),if_pos ⟨h2,h4⟩];rfl
    simp only[go_sem,hk,eq_true h2,h3,eq_true h4,e];refine SW.wk (loop _ (fun nx t n hn h4 h5=>?_) (fun hn nx t h4 h5=>?_)) (Wk.renL [] (by simp) (by simp) (by simp) (by rw[has];rfl) rfl)
    ·have hF:=hyes n hn;simp only[go_sem,h4,h5,hF,bA]
    ·have hF:=hno hn;have h6:¬k=6:=by omega
     rw[if_neg h6]at hF;rcases hsys:mQ a with _ | n<;>simp only[go_sem,h4,h5,h6,haz,hsys,fV,hF,bA]
   ·have has:a=s:=by rw[←ha];unfold fN;rw[if_neg (fun h=>h3 h.2),if_neg (fun h=>h4 h.2)]
    simp only[go_sem,hk,eq_true h2,h3,h4,e];refine SW.wk (loop _ (fun nx t n hn h4 h5=>?_) (fun hn nx t h4 h5=>?_)) (Wk.renL [] (by simp) (by simp) (by simp) (by rw[has];rfl) rfl)
    ·have hF:=hyes n hn;simp only[go_sem,h4,h5,hF,bA]
    ·have hF:=hno hn;have h6:¬k=6:=by omega
     rw[if_neg h6]at hF;rcases hsys:mQ a with _ | n<;>simp only[go_sem,h4,h5,h6,haz,hsys,fV,hF,bA]
  ·have has:a=s:=by rw[←ha];unfold fN;rw[if_neg (fun h=>h2 h.1),if_neg (fun h=>h2 h.1)]
   by_cases hnil:l=[];have e:gU k=zm:=by unfold gU;rw[hl,if_pos hnil]
   simp only[go_sem,hk,h2,e,zm];refine SW.wk (loop _ (fun nx t n hn h4 h5=>?_) (fun hn nx t h4 h5=>?_)) ((Wk.nilD 8 2 rfl).trans (Wk.renL [] (by simp) (by simp) (by simp) (by rw[has,hnil];rfl) rfl));rotate_left 2;have e:gU k=fW l:=by unfold gU;rw[hl,if_neg hnil]
   simp only[go_sem,hk,h2,e];refine SW.wk (loop _ (fun nx t n hn h4 h5=>?_) (fun hn nx t h4 h5=>?_)) (Wk.renL [] (by simp) (by simp) (by simp) (by rw[has];rfl) rfl)
   all_goals first
    |(
     have hF:=hyes n hn;simp only[go_sem,h4,h5,hF,bA])
    |(
     have hF:=hno hn;by_cases h6:k=6
     ·rw[if_pos h6]at hF;rcases hsys:mQ a with _ | n
      ·rw[hsys]at hF;simp only[go_sem,h4,h5,eq_true h6,haz,hsys,fV,hF,bA]
      ·rw[hsys]at hF;simp only[go_sem,h4,h5,eq_true h6,haz,hsys,fV,hF,bA]
     ·rw[if_neg h6]at hF;rcases hsys:mQ a with _ | n<;>simp only[go_sem,h4,h5,h6,haz,hsys,fV,hF,bA])
abbrev zt:ap prog 115 :=
 mz2 func115 (bO .i64) (bw) ((fun _ s=>s.size≤1099511627776)) ((fun k s=>.ret (bA (ag 3 k s)))) (asP fun k s hs=>HP k s hs)
theorem Q9 (s:ByteArray)(hs:s.size≤1099511627776):Sw f207 0 ⟨0,aB 0 [bw.enc s],[]⟩ (oQ f207 (.ret (bv (fa 3 s)))):=by
 refine aq [⟨_,zt⟩] rfl ?_;simp only[go_sem];refine ba (ι:=Nat) (fun i=>i≤8∧wX 3 s i=false) (fun i=>⟨0,[(0,sv s),(3,iv ((i:Int)+1))],[]⟩) (fun i=>8-i) 0 ⟨by omega,rfl⟩ (wR []) ?_;rintro i ⟨hi,hn⟩;refine aw [⟨_,zt⟩] ?_;by_cases hlt:i<8
 ·have hltI:(i:Int)+1≤8:=by omega
  have ei:IntKind.i64.wrap ((i:Int)+1+1)=((i+1:Nat):Int)+1:=by rw[IntKind.wrap_i64];omega
  have ec:((i+1:Nat):Int)=(i:Int)+1:=by omega
  by_cases he:(ag 3 ((i:Int)+1) s).2=0
  ·have hw:fa 3 s=true:=vN (i:=i) (by rw[ec];exact he) hlt;simp only[go_sem,hltI,hs,bA,eq_true he,hw]
  ·simp only[go_sem,hltI,hs,bA,he,ei];exact⟨i+1,⟨by omega,by rw[wX,hn,ec];simp[he]⟩,by omega,wR []⟩
 ·obtain rfl:i=8:=by omega
  simp only[go_sem,show fa 3 s=false from hn,show ¬((8:Int)+1≤8) by omega]
abbrev Xm:ap prog 207 :=
 mz1 func207 (bw) ((fun s=>s.size≤1099511627776)) ((fun s=>.ret (bv (fa 3 s)))) (asP fun s hs=>Q9 s hs)
def cE (o:OpV):OpV :=
 if o.kind=1 then⟨o.kind,o.r,r0,o.md,o.amt,0,0,emp,emp,false,0⟩
 else if o.kind=2 then⟨o.kind,r0,r0,o.md,o.amt,0,o.add,o.plus,o.minus,o.lo,0⟩
 else if o.kind=3 then⟨o.kind,r0,r0,0,0,0,o.add,o.plus,o.minus,false,0⟩
 else if o.kind=5 then(if o.mode=3 then⟨o.kind,o.r,o.m,o.md,o.amt,0,0,emp,emp,false,o.mode⟩ else⟨o.kind,o.r,r0,0,0,0,o.add,o.plus,o.minus,o.lo,o.mode⟩)
 else⟨o.kind,r0,r0,0,0,o.n,0,emp,emp,false,0⟩
def lJ (o:OpV)(least:Int):Bool:=decide (least≤o.amt∧o.amt≤63∧(¬o.md=0∨o.amt=0))
def kB (o:OpV):Bool:=if eD o.m=false∨o.m.sp=true∨lJ o (-1)=false then false else if o.md=1∨o.md=12 then o.m.x else if o.md=7∨o.md=11 then !o.m.x else false
def lC (o:OpV):Bool:=if eD o.r=false∨o.r.x=false∨((o.r.n==31) !=o.r.sp)=true∨o.mode<0∨3<o.mode then false else if o.mode=3 then kB o else !o.lo||(o.mode==0)
def ou (k:Int):Int:=if k=4∨k=7 then 15 else if k=8 then 31 else if k=6 then 32767 else if k=9 then 5 else -1
def ib (o:OpV):Bool :=
 if o.kind=1 then eD o.r&&(decide (0≤o.md)&&(decide (o.md≤12)&&lJ o 0))
 else if o.kind=2 then(decide (o.md=0)||(decide (o.md=1)&&!o.lo))&&lJ o 0
 else if o.kind=3 then true
 else if o.kind=5 then lC o
 else decide (0≤o.n)&&decide (o.n≤ou o.kind)
def tG (o:OpV):Int :=
 if ib o=false∨¬cE o=o then 100
 else if ¬(prO o).2=0 then(prO o).2
 else if o.kind=3∧¬o.plus=emp∧fa 3 o.plus=true then 100
 else 0
abbrev Qj:ap prog 113 :=
 mz1 func113 (ln kl) ((fun _=>True)) ((fun v=>.ret (bv (decide (v.plus=emp)&&decide (v.minus=emp))))) (asP fun v _=>by
 refine aq [] rfl ?_;obtain⟨a,p,m⟩:=v;by_cases h1:p=emp
 ·simp only[go_sem,rX,ac,eq_true h1]
 ·simp only[go_sem,rX,ac,h1,Bool.false_and])
abbrev IT:ap prog 158 :=
 mz1 func158 (ln kl) ((fun v=>v.plus.size≤1099511627776)) ((fun v=>.ret (bv (!decide (v.plus=emp)&&fa 3 v.plus)))) (asP fun v hv=>by
 refine aq [⟨_,Xm⟩] rfl ?_;obtain⟨a,p,m⟩:=v;simp only at hv;by_cases h1:p=emp
 ·simp only[go_sem,rX,ac,eq_true h1,Bool.false_and]
 ·simp only[go_sem,rX,ac,h1,hv])
abbrev sZ:ap prog 153 :=
 mz1 func153 (ln fk) ((fun _=>True)) ((fun r=>.ret (bv (eD r)))) (asP fun r _=>by
 refine aq [⟨_,BZ⟩] rfl ?_;simp only[go_sem,fk,cx,eD];rfl)
abbrev IJ:ap prog 156 :=
 mz1 func156 (bO .i64) ((fun _=>True)) ((fun k=>.ret (iv (ou k)))) (asP fun k _=>by
 refine aq [] rfl ?_;by_cases h1:k=4
 ·simp only[go_sem,eq_true h1,ou]
 by_cases h2:k=7
 ·simp only[go_sem,h1,eq_true h2,ou]
 by_cases h3:k=8
 ·simp only[go_sem,h1,h2,eq_true h3,ou,or_self]
 by_cases h4:k=6
 ·simp only[go_sem,h1,h2,h3,eq_true h4,ou,or_self]
 by_cases h5:k=9
 ·simp only[go_sem,h1,h2,h3,h4,eq_true h5,ou,or_self]
 simp only[go_sem,h1,h2,h3,h4,h5,ou,or_self])
theorem Iz (o:OpV)(least:Int):Sw f154 0 ⟨0,aB 0 [tOp.enc o,(bO .i64).enc least],[]⟩ (oQ f154 (.ret (bv (lJ o least)))):=by
 refine aq [] rfl ?_;obtain⟨kind,⟨rn,rx,rs⟩,⟨mn,mx,ms⟩,md,amt,n,add,plus,minus,lo,mode⟩:=o;by_cases h3:least≤amt
 case neg=>simp only[go_sem,ah,opE,lJ,h3,false_and]
 by_cases h4:amt≤63
 case neg=>simp only[go_sem,ah,opE,lJ,h3,h4,false_and,and_false]
 by_cases h5:md=0
 ·simp only[go_sem,ah,opE,lJ,h3,h4,eq_true h5];rfl
 ·simp only[go_sem,ah,opE,lJ,h3,h4,h5]
abbrev FF:ap prog 154 :=
 mz2 func154 (tOp) (bO .i64) ((fun _ _=>True)) ((fun o m=>.ret (bv (lJ o m)))) (asP fun o m _=>Iz o m)
theorem MB (o:OpV):Sw f206 0 ⟨0,aB 0 [tOp.enc o],[]⟩ (oQ f206 (.ret (bv (kB o)))):=by
 refine aq [⟨_,sZ⟩,⟨_,FF⟩] rfl ?_;cases h1:eD o.m
 ·simp only[go_sem,ah,opE,opD,au,ar,bG,kB,h1]
 by_cases h2:o.m.sp=true
 ·simp only[go_sem,ah,opE,opD,au,ar,bG,kB,h1,h2]
 have h2':o.m.sp=false:=by simpa using h2
 have eM:(⟨o.m.n,o.m.x,false⟩:gu)=o.m:=by rw[←h2']
 cases h3:lJ o (-1)
 ·simp only[go_sem,ah,opE,opD,au,ar,bG,eM,kB,h1,h2',h3]
 by_cases h5:o.md=1
 ·simp only[go_sem,ah,opE,opD,au,ar,bG,eM,kB,h1,h2',h3,eq_true h5,or_self]
 by_cases h6:o.md=12
 ·simp only[go_sem,ah,opE,opD,au,ar,bG,eM,kB,h1,h2',h3,h5,eq_true h6,or_self]
 by_cases h7:o.md=7
 ·simp only[go_sem,ah,opE,opD,au,ar,bG,eM,kB,h1,h2',h3,h5,h6,eq_true h7,or_self]
 by_cases h8:o.md=11
 ·simp only[go_sem,ah,opE,opD,au,ar,bG,eM,kB,h1,h2',h3,h5,h6,h7,eq_true h8,or_self]
 simp only[go_sem,ah,opE,opD,au,ar,bG,eM,kB,h1,h2',h3,h5,h6,h7,h8,or_self]
abbrev TB:ap prog 206 :=
 mz1 func206 (tOp) ((fun _=>True)) ((fun o=>.ret (bv (kB o)))) (asP fun o _=>MB o)
theorem oG {x y:Operand}{a b:Bool}:kn prog (do eqGuard .neq 4 x y (.bool a) (.bool b);binOp .neq 4 (.bool a) (.bool b))=some (.bool (a !=b)):=by
  refine kc fun w=>?_;cases a<;>cases b<;>rfl
theorem II (o:OpV):Sw f155 0 ⟨0,aB 0 [tOp.enc o],[]⟩ (oQ f155 (.ret (bv (lC o)))):=by
 refine aq [⟨_,sZ⟩,⟨_,TB⟩] rfl ?_;cases h1:eD o.r
 ·simp only[go_sem,ah,opE,opD,au,ar,bG,lC,h1]
 by_cases hx:o.r.x=true
 case neg =>
  have hx':o.r.x=false:=by simpa using hx
  have eR:(⟨o.r.n,false,o.r.sp⟩:gu)=o.r:=by rw[←hx']
  simp only[go_sem,ah,opE,opD,au,ar,bG,eR,lC,h1,hx']
 have eR:(⟨o.r.n,true,o.r.sp⟩:gu)=o.r:=by rw[←hx]
 cases h2:((o.r.n==31) !=o.r.sp)
 case true=>simp only[go_sem,ah,opE,opD,au,ar,bG,eR,↓oG,lC,h1,hx,h2]
 by_cases h3:o.mode<0
 ·simp only[go_sem,ah,opE,opD,au,ar,bG,eR,↓oG,lC,h1,hx,h2,h3]
 by_cases h4:3<o.mode
 ·simp only[go_sem,ah,opE,opD,au,ar,bG,eR,↓oG,lC,h1,hx,h2,h3,h4]
 by_cases h5:o.mode=3
 ·simp only[go_sem,ah,opE,opD,au,ar,bG,eR,↓oG,lC,h1,hx,h2,h3,h4,eq_true h5,or_self]
 by_cases h6:o.lo=true
 ·simp only[go_sem,ah,opE,opD,au,ar,bG,eR,↓oG,lC,h1,hx,h2,h3,h4,h5,h6,or_self,Bool.false_or]
 ·have h6':o.lo=false:=by simpa using h6
  simp only[go_sem,ah,opE,opD,au,ar,bG,eR,↓oG,lC,h1,hx,h2,h3,h4,h5,h6',or_self,Bool.true_or]
abbrev Qi:ap prog 155 :=
 mz1 func155 (tOp) ((fun _=>True)) ((fun o=>.ret (bv (lC o)))) (asP fun o _=>II o)
theorem P1 (o:OpV):Sw f157 0 ⟨0,aB 0 [tOp.enc o],[]⟩ (oQ f157 (.ret (opV (cE o)))):=by
 refine aq [] rfl ?_;by_cases h1:o.kind=1
 ·simp only[go_sem,ah,opE,opV,cE,r0,ac,eq_true h1]
 by_cases h2:o.kind=2
 ·simp only[go_sem,ah,opE,opV,cE,r0,ac,h1,eq_true h2]
 by_cases h3:o.kind=3
 ·simp only[go_sem,ah,opE,opV,cE,r0,ac,h1,h2,eq_true h3]
 by_cases h5:o.kind=5
 ·by_cases m3:o.mode=3
  ·simp only[go_sem,ah,opE,opV,cE,r0,ac,h1,h2,h3,eq_true h5,eq_true m3]
  ·simp only[go_sem,ah,opE,opV,cE,r0,ac,h1,h2,h3,eq_true h5,m3]
 simp only[go_sem,ah,opE,opV,cE,r0,ac,h1,h2,h3,h5]
abbrev gE:ap prog 157 :=
 mz1 func157 (tOp) ((fun _=>True)) ((fun o=>.ret (opV (cE o)))) (asP fun o _=>P1 o)
namespace Ex
theorem cT (s:ByteArray)(w:World)(hs:s.size≤maxLen) :
  Calls prog 135 #[.string s] w fun e w'=>e=.returned (.bool (br s))∧w=w':=by
 unfold maxLen at hs;have HR:=Lib.hid (MW s);go_enter func135,ntmps135
 go_wp2_with fail
 go_loop [3] (fun n=>∃k:Nat,k≤s.size∧n=.int .i64 k∧Hid (sj k (s.data.toList.drop k)=sj 0 s.data.toList)) (fun n=>s.size-(intOf n).toNat)
 case atStart=>exact⟨0,Nat.zero_le _,rfl,show _=_ by simp⟩
 case round =>
  obtain⟨k,hk,rfl,hr⟩:=hrel;by_cases hlt:k<s.size
  ·have hd:=Lib.hid (uV s k hlt);have hc:(0:Int)≤(s[k].toNat:Int):=by omega
   go_wp2_with fail
   all_goals first
    |(
     go_ret;refine⟨eS ?_,rfl⟩;have ok:okB k (s[k].toNat:Int)=false:=by((unfold okB bX eI;simp)<;>(try simp at *)<;>omega)
     rw[HR.out,←hr.out,hd.out,sj,ok];rfl)
    |(
     have ok:okB k (s[k].toNat:Int)=true:=by((unfold okB bX eI;simp)<;>(try simp at *)<;>omega)
     go_round
     case rel=>exact⟨k+1,by omega,by go_num,show _=_ by rw[←hr.out,hd.out,sj,ok,Bool.true_and]⟩
     case measure=>simp[intOf];omega)
  ·have hd:=Lib.hid (Et s k (by omega));by_cases h0:s.size=0
   ·have h1:s.toList=[]:=td h0
    go_wp2_with fail
    go_ret;exact⟨eS (by rw[HR.out,←hr.out,hd.out];simp[h0]),rfl⟩
   ·have h1:¬s.toList=[]:=mL h0;have h2:s.toList.isEmpty=false:=lT h0
    go_wp2_with fail
    go_ret;exact⟨eS (by rw[HR.out,←hr.out,hd.out,Bool.eq_iff_iff];simp[sj,h0];omega),rfl⟩
theorem uu (N:Nat)(w:World)(hN:N<18446744073709551616) :
  Calls prog 136 #[.int .u64 N] w fun e w'=>e=.returned (.string (decS N))∧w=w':=by
 have hN':=Lib.hid hN;go_enter func136,ntmps136
 go_wp2_with fail
 go_loop [0,3] (fun nv sv=>∃(p m:Nat) (tail:ByteArray),nv=.int .u64 m∧sv=.string tail∧Hid (decG 20 N=decG p m++tail.data.toList)∧Hid (m<10 ^ p)∧m≤N∧0<p∧p+tail.size=20) (fun nv _=>(intOf nv).toNat)
 case atStart=>exact⟨20,N,⟨#[]⟩,rfl,rfl,show _=_ by simp,show N<10 ^ 20 by have:=hN'.out;omega,Nat.le_refl _,by omega,rfl⟩
 case round =>
  obtain⟨p,m,tail,rfl,rfl,hd,hm,hmN,h0,ht⟩:=hrel;obtain⟨q,rfl⟩:∃q,p=q+1:=⟨p-1,by omega⟩;have hts:tail.size≤20:=by omega
  have hm10:m % 10<10:=Nat.mod_lt _ (by omega);have hx:=Lib.hid (Oc (m % 10) hm10);by_cases h10:m<10
  ·have h10':((m:Int) / 10==0)=true:=by simp;omega
   have hs:Hid (decS N=⟨#[UInt8.ofNat (48+m % 10)]⟩++tail):=show _=_ by
    apply ByteArray.ext;rw[ByteArray.data_append];apply Array.ext';show(decG 20 N).toArray.toList=_;rw[hd.out,decG,if_pos h10,Nat.mod_eq_of_lt h10];simp
   go_wp2_with fail
   go_ret;exact⟨by rw[hx.out,hs.out];rfl,rfl⟩
  ·have h10':((m:Int) / 10==0)=false:=by simp;omega
   go_wp2_with fail
   go_round
   case rel =>
    refine⟨q,m / 10,_,by go_num,rfl,?_,show _<_ from JJ hm.out,by omega,JI hm.out h10,?_⟩
    ·show _=_;rw[hx.out,hd.out,decG,if_neg h10,ByteArray.data_append];simp
    ·rw[hx.out,ByteArray.size_append];show q+(1+tail.size)=20;omega
   case measure=>simp[intOf];omega
theorem FZ (a:Int)(p m:ByteArray)(w:World)(p1:¬p.toList=[])(p2:p.toList.isEmpty=false)(p4:p.size≤maxLen)(p3:br p=false)(hx:printF ⟨a,p,m⟩=(⟨#[]⟩,90)) :
  Calls prog 74 #[.agg #[.int .i64 a,.string p,.string m]] w (PrintPost ⟨a,p,m⟩ w):=by
 have HX:=Lib.hid hx;clear hx;go_enter func74,ntmps74
 go_wp2_with (first | (go_at_call 135;refine(cT _ _ (by assumption)).mono ?_;rintro e w' ⟨rfl,rfl⟩))
 (go_ret2;exact PrintPost.mk HX.out blw)
theorem Dw (a:Int)(m:ByteArray)(w:World)(m1:¬m.toList=[])(m2:m.toList.isEmpty=false)(m4:m.size≤maxLen)(m3:br m=false)(hx:printF ⟨a,⟨#[]⟩,m⟩=(⟨#[]⟩,90)) :
  Calls prog 74 #[.agg #[.int .i64 a,.string ⟨#[]⟩,.string m]] w (PrintPost ⟨a,⟨#[]⟩,m⟩ w):=by
 have HX:=Lib.hid hx;clear hx;go_enter func74,ntmps74
 go_wp2_with (first | (go_at_call 135;refine(cT _ _ (by assumption)).mono ?_;rintro e w' ⟨rfl,rfl⟩))
 (go_ret2;exact PrintPost.mk HX.out blw)
theorem FY (a:Int)(p m:ByteArray)(w:World)(p1:¬p.toList=[])(p2:p.toList.isEmpty=false)(p4:p.size≤maxLen)(p3:br p=true)(p5:p.size≤512)(m1:¬m.toList=[])(m2:m.toList.isEmpty=false)(m4:m.size≤maxLen)(m3:br m=false)(hx:printF ⟨a,p,m⟩=(⟨#[]⟩,90)) :
  Calls prog 74 #[.agg #[.int .i64 a,.string p,.string m]] w (PrintPost ⟨a,p,m⟩ w):=by
 have HX:=Lib.hid hx;clear hx;go_enter func74,ntmps74
 go_wp2_with (first | (go_at_call 135;refine(cT _ _ (by assumption)).mono ?_;rintro e w' ⟨rfl,rfl⟩))
 (go_ret2;exact PrintPost.mk HX.out blw)
theorem F3 (a:Int)(p:ByteArray)(w:World)(p1:¬p.toList=[])(p2:p.toList.isEmpty=false)(p4:p.size≤maxLen)(p3:br p=true)(p5:p.size≤512)(hx:printF ⟨a,p,p⟩=(⟨#[]⟩,90)) :
  Calls prog 74 #[.agg #[.int .i64 a,.string p,.string p]] w (PrintPost ⟨a,p,p⟩ w):=by
 have HX:=Lib.hid hx;clear hx;go_enter func74,ntmps74
 go_wp2_with (first | (go_at_call 135;refine(cT _ _ (by assumption)).mono ?_;rintro e w' ⟨rfl,rfl⟩))
 (go_ret2;exact PrintPost.mk HX.out blw)
theorem vC (a:Int)(w:World)(ha:a<0)(hd:∀W,Calls prog 136 #[.int .u64 ((((-a).toNat:Nat)):Int)] W fun e w'=>e=.returned (.string (decS (-a).toNat))∧W=w')(hu:IntKind.u64.wrap (-IntKind.u64.wrap a)=(((-a).toNat:Nat):Int))(hz:(decS (-a).toNat).size≤20)(hx:printF ⟨a,⟨#[]⟩,⟨#[]⟩⟩=((⟨#[]⟩++(⟨#[45]⟩++decS (-a).toNat)),0)) :
  Calls prog 74 #[.agg #[.int .i64 a,.string ⟨#[]⟩,.string ⟨#[]⟩]] w (PrintPost ⟨a,⟨#[]⟩,⟨#[]⟩⟩ w):=by
 have HX:=Lib.hid hx;clear hx;have HDD:=Lib.hid hd;have HU:=Lib.hid hu;clear hd hu;go_enter func74,ntmps74
 go_wp2_with (first | (go_at_call 135;refine(cT _ _ (by assumption)).mono ?_;rintro e w' ⟨rfl,rfl⟩) | (go_at_call 136;rw[HU.out];refine(HDD.out _).mono ?_;rintro e w2 ⟨rfl,rfl⟩))
 (go_ret2;exact PrintPost.mk HX.out blw)
theorem vD (a:Int)(w:World)(ha:0≤a)(hd:∀W,Calls prog 136 #[.int .u64 (((a.toNat:Nat)):Int)] W fun e w'=>e=.returned (.string (decS a.toNat))∧W=w')(hu:IntKind.u64.wrap a=((a.toNat:Nat):Int))(hz:(decS a.toNat).size≤20)(hx:printF ⟨a,⟨#[]⟩,⟨#[]⟩⟩=((decS a.toNat),0)) :
  Calls prog 74 #[.agg #[.int .i64 a,.string ⟨#[]⟩,.string ⟨#[]⟩]] w (PrintPost ⟨a,⟨#[]⟩,⟨#[]⟩⟩ w):=by
 have HX:=Lib.hid hx;clear hx;have HDD:=Lib.hid hd;have HU:=Lib.hid hu;clear hd hu;go_enter func74,ntmps74
 go_wp2_with (first | (go_at_call 135;refine(cT _ _ (by assumption)).mono ?_;rintro e w' ⟨rfl,rfl⟩) | (go_at_call 136;rw[HU.out];refine(HDD.out _).mono ?_;rintro e w2 ⟨rfl,rfl⟩))
 (go_ret2;exact PrintPost.mk HX.out blw)
theorem IN (m:ByteArray)(w:World)(m1:¬m.toList=[])(m2:m.toList.isEmpty=false)(m4:m.size≤maxLen)(m3:br m=true)(m5:m.size≤512)(b1:(⟨#[48]⟩++(⟨#[45]⟩++m)).toList.isEmpty=false)(b2:¬(⟨#[48]⟩++(⟨#[45]⟩++m)).toList=[])(hx:printF ⟨0,⟨#[]⟩,m⟩=((⟨#[48]⟩++(⟨#[45]⟩++m)),0)) :
  Calls prog 74 #[.agg #[.int .i64 0,.string ⟨#[]⟩,.string m]] w (PrintPost ⟨0,⟨#[]⟩,m⟩ w):=by
 have HX:=Lib.hid hx;clear hx;go_enter func74,ntmps74
 go_wp2_with (first | (go_at_call 135;refine(cT _ _ (by assumption)).mono ?_;rintro e w' ⟨rfl,rfl⟩))
 (go_ret2;exact PrintPost.mk HX.out blw)
theorem ZR (a:Int)(m:ByteArray)(w:World)(m1:¬m.toList=[])(m2:m.toList.isEmpty=false)(m4:m.size≤maxLen)(m3:br m=true)(m5:m.size≤512)(b1:(⟨#[48]⟩++(⟨#[45]⟩++m)).toList.isEmpty=false)(b2:¬(⟨#[48]⟩++(⟨#[45]⟩++m)).toList=[])(ha:a<0)(hd:∀W,Calls prog 136 #[.int .u64 ((((-a).toNat:Nat)):Int)] W fun e w'=>e=.returned (.string (decS (-a).toNat))∧W=w')(hu:IntKind.u64.wrap (-IntKind.u64.wrap a)=(((-a).toNat:Nat):Int))(hz:(decS (-a).toNat).size≤20)(hx:printF ⟨a,⟨#[]⟩,m⟩=(((⟨#[48]⟩++(⟨#[45]⟩++m))++(⟨#[45]⟩++decS (-a).toNat)),0)) :
  Calls prog 74 #[.agg #[.int .i64 a,.string ⟨#[]⟩,.string m]] w (PrintPost ⟨a,⟨#[]⟩,m⟩ w):=by
 have HX:=Lib.hid hx;clear hx;have HDD:=Lib.hid hd;have HU:=Lib.hid hu;clear hd hu;go_enter func74,ntmps74
 go_wp2_with (first | (go_at_call 135;refine(cT _ _ (by assumption)).mono ?_;rintro e w' ⟨rfl,rfl⟩) | (go_at_call 136;rw[HU.out];refine(HDD.out _).mono ?_;rintro e w2 ⟨rfl,rfl⟩))
 (go_ret2;exact PrintPost.mk HX.out blw)
theorem IP (a:Int)(m:ByteArray)(w:World)(m1:¬m.toList=[])(m2:m.toList.isEmpty=false)(m4:m.size≤maxLen)(m3:br m=true)(m5:m.size≤512)(b1:(⟨#[48]⟩++(⟨#[45]⟩++m)).toList.isEmpty=false)(b2:¬(⟨#[48]⟩++(⟨#[45]⟩++m)).toList=[])(ha:0<a)(hd:∀W,Calls prog 136 #[.int .u64 (((a.toNat:Nat)):Int)] W fun e w'=>e=.returned (.string (decS a.toNat))∧W=w')(hu:IntKind.u64.wrap a=((a.toNat:Nat):Int))(hz:(decS a.toNat).size≤20)(hx:printF ⟨a,⟨#[]⟩,m⟩=(((⟨#[48]⟩++(⟨#[45]⟩++m))++(⟨#[43]⟩++decS a.toNat)),0)) :
  Calls prog 74 #[.agg #[.int .i64 a,.string ⟨#[]⟩,.string m]] w (PrintPost ⟨a,⟨#[]⟩,m⟩ w):=by
 have HX:=Lib.hid hx;clear hx;have HDD:=Lib.hid hd;have HU:=Lib.hid hu;clear hd hu;go_enter func74,ntmps74
 go_wp2_with (first | (go_at_call 135;refine(cT _ _ (by assumption)).mono ?_;rintro e w' ⟨rfl,rfl⟩) | (go_at_call 136;rw[HU.out];refine(HDD.out _).mono ?_;rintro e w2 ⟨rfl,rfl⟩))
 (go_ret2;exact PrintPost.mk HX.out blw)
theorem IQ (p:ByteArray)(w:World)(p1:¬p.toList=[])(p2:p.toList.isEmpty=false)(p4:p.size≤maxLen)(p3:br p=true)(p5:p.size≤512)(hx:printF ⟨0,p,⟨#[]⟩⟩=(p,0)) :
  Calls prog 74 #[.agg #[.int .i64 0,.string p,.string ⟨#[]⟩]] w (PrintPost ⟨0,p,⟨#[]⟩⟩ w):=by
 have HX:=Lib.hid hx;clear hx;go_enter func74,ntmps74
 go_wp2_with (first | (go_at_call 135;refine(cT _ _ (by assumption)).mono ?_;rintro e w' ⟨rfl,rfl⟩))
 (go_ret2;exact PrintPost.mk HX.out blw)
theorem IR (a:Int)(p:ByteArray)(w:World)(p1:¬p.toList=[])(p2:p.toList.isEmpty=false)(p4:p.size≤maxLen)(p3:br p=true)(p5:p.size≤512)(ha:a<0)(hd:∀W,Calls prog 136 #[.int .u64 ((((-a).toNat:Nat)):Int)] W fun e w'=>e=.returned (.string (decS (-a).toNat))∧W=w')(hu:IntKind.u64.wrap (-IntKind.u64.wrap a)=(((-a).toNat:Nat):Int))(hz:(decS (-a).toNat).size≤20)(hx:printF ⟨a,p,⟨#[]⟩⟩=((p++(⟨#[45]⟩++decS (-a).toNat)),0)) :
  Calls prog 74 #[.agg #[.int .i64 a,.string p,.string ⟨#[]⟩]] w (PrintPost ⟨a,p,⟨#[]⟩⟩ w):=by
 have HX:=Lib.hid hx;clear hx;have HDD:=Lib.hid hd;have HU:=Lib.hid hu;clear hd hu;go_enter func74,ntmps74
 go_wp2_with (first | (go_at_call 135;refine(cT _ _ (by assumption)).mono ?_;rintro e w' ⟨rfl,rfl⟩) | (go_at_call 136;rw[HU.out];refine(HDD.out _).mono ?_;rintro e w2 ⟨rfl,rfl⟩))
 (go_ret2;exact PrintPost.mk HX.out blw)
theorem IS (a:Int)(p:ByteArray)(w:World)(p1:¬p.toList=[])(p2:p.toList.isEmpty=false)(p4:p.size≤maxLen)(p3:br p=true)(p5:p.size≤512)(ha:0<a)(hd:∀W,Calls prog 136 #[.int .u64 (((a.toNat:Nat)):Int)] W fun e w'=>e=.returned (.string (decS a.toNat))∧W=w')(hu:IntKind.u64.wrap a=((a.toNat:Nat):Int))(hz:(decS a.toNat).size≤20)(hx:printF ⟨a,p,⟨#[]⟩⟩=((p++(⟨#[43]⟩++decS a.toNat)),0)) :
  Calls prog 74 #[.agg #[.int .i64 a,.string p,.string ⟨#[]⟩]] w (PrintPost ⟨a,p,⟨#[]⟩⟩ w):=by
 have HX:=Lib.hid hx;clear hx;have HDD:=Lib.hid hd;have HU:=Lib.hid hu;clear hd hu;go_enter func74,ntmps74
 go_wp2_with (first | (go_at_call 135;refine(cT _ _ (by assumption)).mono ?_;rintro e w' ⟨rfl,rfl⟩) | (go_at_call 136;rw[HU.out];refine(HDD.out _).mono ?_;rintro e w2 ⟨rfl,rfl⟩))
 (go_ret2;exact PrintPost.mk HX.out blw)
theorem F0 (p m:ByteArray)(w:World)(p1:¬p.toList=[])(p2:p.toList.isEmpty=false)(p4:p.size≤maxLen)(p3:br p=true)(p5:p.size≤512)(m1:¬m.toList=[])(m2:m.toList.isEmpty=false)(m4:m.size≤maxLen)(m3:br m=true)(m5:m.size≤512)(ne:(p.toList==m.toList)=false)(b1:(p++(⟨#[45]⟩++m)).toList.isEmpty=false)(b2:¬(p++(⟨#[45]⟩++m)).toList=[])(hx:printF ⟨0,p,m⟩=((p++(⟨#[45]⟩++m)),0)) :
  Calls prog 74 #[.agg #[.int .i64 0,.string p,.string m]] w (PrintPost ⟨0,p,m⟩ w):=by
 have HX:=Lib.hid hx;clear hx;go_enter func74,ntmps74
 go_wp2_with (first | (go_at_call 135;refine(cT _ _ (by assumption)).mono ?_;rintro e w' ⟨rfl,rfl⟩))
 (go_ret2;exact PrintPost.mk HX.out blw)
theorem F1 (a:Int)(p m:ByteArray)(w:World)(p1:¬p.toList=[])(p2:p.toList.isEmpty=false)(p4:p.size≤maxLen)(p3:br p=true)(p5:p.size≤512)(m1:¬m.toList=[])(m2:m.toList.isEmpty=false)(m4:m.size≤maxLen)(m3:br m=true)(m5:m.size≤512)(ne:(p.toList==m.toList)=false)(b1:(p++(⟨#[45]⟩++m)).toList.isEmpty=false)(b2:¬(p++(⟨#[45]⟩++m)).toList=[])(ha:a<0)(hd:∀W,Calls prog 136 #[.int .u64 ((((-a).toNat:Nat)):Int)] W fun e w'=>e=.returned (.string (decS (-a).toNat))∧W=w')(hu:IntKind.u64.wrap (-IntKind.u64.wrap a)=(((-a).toNat:Nat):Int))(hz:(decS (-a).toNat).size≤20)(hx:printF ⟨a,p,m⟩=(((p++(⟨#[45]⟩++m))++(⟨#[45]⟩++decS (-a).toNat)),0)) :
  Calls prog 74 #[.agg #[.int .i64 a,.string p,.string m]] w (PrintPost ⟨a,p,m⟩ w):=by
 have HX:=Lib.hid hx;clear hx;have HDD:=Lib.hid hd;have HU:=Lib.hid hu;clear hd hu;go_enter func74,ntmps74
 go_wp2_with (first | (go_at_call 135;refine(cT _ _ (by assumption)).mono ?_;rintro e w' ⟨rfl,rfl⟩) | (go_at_call 136;rw[HU.out];refine(HDD.out _).mono ?_;rintro e w2 ⟨rfl,rfl⟩))
 (go_ret2;exact PrintPost.mk HX.out blw)
theorem F2 (a:Int)(p m:ByteArray)(w:World)(p1:¬p.toList=[])(p2:p.toList.isEmpty=false)(p4:p.size≤maxLen)(p3:br p=true)(p5:p.size≤512)(m1:¬m.toList=[])(m2:m.toList.isEmpty=false)(m4:m.size≤maxLen)(m3:br m=true)(m5:m.size≤512)(ne:(p.toList==m.toList)=false)(b1:(p++(⟨#[45]⟩++m)).toList.isEmpty=false)(b2:¬(p++(⟨#[45]⟩++m)).toList=[])(ha:0<a)(hd:∀W,Calls prog 136 #[.int .u64 (((a.toNat:Nat)):Int)] W fun e w'=>e=.returned (.string (decS a.toNat))∧W=w')(hu:IntKind.u64.wrap a=((a.toNat:Nat):Int))(hz:(decS a.toNat).size≤20)(hx:printF ⟨a,p,m⟩=(((p++(⟨#[45]⟩++m))++(⟨#[43]⟩++decS a.toNat)),0)) :
  Calls prog 74 #[.agg #[.int .i64 a,.string p,.string m]] w (PrintPost ⟨a,p,m⟩ w):=by
 have HX:=Lib.hid hx;clear hx;have HDD:=Lib.hid hd;have HU:=Lib.hid hu;clear hd hu;go_enter func74,ntmps74
 go_wp2_with (first | (go_at_call 135;refine(cT _ _ (by assumption)).mono ?_;rintro e w' ⟨rfl,rfl⟩) | (go_at_call 136;rw[HU.out];refine(HDD.out _).mono ?_;rintro e w2 ⟨rfl,rfl⟩))
 (go_ret2;exact PrintPost.mk HX.out blw)
theorem ST (s:ByteArray)(c:UInt8):(⟨#[c]⟩++s).toList.isEmpty=false∧¬(⟨#[c]⟩++s).toList=[]:=by
 have h:¬(⟨#[c]⟩++s:ByteArray).size=0:=by
  rw[ByteArray.size_append];have:(⟨#[c]⟩:ByteArray).size=1:=rfl;omega
 exact⟨lT h,mL h⟩
theorem R6 {s:ByteArray}(hs:¬s.toList=[])(t:ByteArray):(s++t).toList.isEmpty=false∧¬(s++t).toList=[]:=by
 have h0:¬s.size=0:=fun e=>hs (td e);have h:¬(s++t:ByteArray).size=0:=by rw[ByteArray.size_append];omega
 exact⟨lT h,mL h⟩
theorem CR (s:ByteArray):emp++s=s:=by
 apply ByteArray.ext;simp[emp,ByteArray.data_append]
theorem rJ {a:Int}(h:a<0):signS a=⟨#[45]⟩++decS (-a).toNat:=by rw[signS,if_pos h]
theorem oL {a:Int}(h:0<a):signS a=⟨#[43]⟩++decS a.toNat:=by rw[signS,nG]
theorem rprint_any (a:Int)(p m:ByteArray)(w:World)(hp:p.size≤maxLen)(hm:m.size≤maxLen)(hl : -9223372036854775808≤a)(hu:a≤9223372036854775807) :
  Calls prog 74 #[.agg #[.int .i64 a,.string p,.string m]] w (PrintPost ⟨a,p,m⟩ w):=by
 have dn:=fun W=>uu (-a).toNat W (by omega);have dp:=fun W=>uu a.toNat W (by omega);have zn:=decS_size (-a).toNat;have zp:=decS_size a.toNat;have un:=fun(h:a<0)=>Kh h hl;have up:=fun(h:0≤a)=>DK h hu;by_cases hp0:p=emp
 ·subst hp0;by_cases hm0:m=emp
  ·subst hm0;by_cases ha:a<0
   ·exact vC a w ha dn (un ha) zn (by simp only[ac];rw[CR,←rJ ha];simp[printF,ha])
   ·exact vD a w (by omega) dp (up (by omega)) zp (by simp[printF,ac,ha])
  ·have m1:=mt ny.1 hm0;have m2:m.toList.isEmpty=false:=by simpa using m1
   cases m3:br m with
   |false=>exact Dw a m w m1 m2 hm m3 (by simp[printF,ac,hm0,m3];try rfl)
   |true =>
    have m5:=symB_size m3;have bb:=ST (⟨#[45]⟩++m) 48;rcases Int.lt_trichotomy a 0 with ha | ha | ha
    ·exact ZR a m w m1 m2 hm m3 m5 bb.1 bb.2 ha dn (un ha) zn (by rw[←rJ ha];simp[printF,ac,hm0,m3,Int.ne_of_lt ha,yu hm0])
    ·subst ha;exact IN m w m1 m2 hm m3 m5 bb.1 bb.2 (by simp[printF,ac,hm0,m3,yu hm0])
    ·exact IP a m w m1 m2 hm m3 m5 bb.1 bb.2 ha dp (up (by omega)) zp (by rw[←oL ha];simp[printF,ac,hm0,m3,(Int.ne_of_lt ha).symm,yu hm0])
 ·have p1:=mt ny.1 hp0;have p2:p.toList.isEmpty=false:=by simpa using p1
  cases p3:br p with
  |false=>exact FZ a p m w p1 p2 hp p3 (by simp[printF,ac,hp0,p3];try rfl)
  |true =>
   have p5:=symB_size p3;by_cases hm0:m=emp
   ·subst hm0;rcases Int.lt_trichotomy a 0 with ha | ha | ha
    ·exact IR a p w p1 p2 hp p3 p5 ha dn (un ha) zn (by rw[←rJ ha];simp[printF,ac,hp0,p3,Int.ne_of_lt ha])
    ·subst ha;exact IQ p w p1 p2 hp p3 p5 (by simp[printF,ac,hp0,p3])
    ·exact IS a p w p1 p2 hp p3 p5 ha dp (up (by omega)) zp (by rw[←oL ha];simp[printF,ac,hp0,p3,(Int.ne_of_lt ha).symm])
   ·have m1:=mt ny.1 hm0;have m2:m.toList.isEmpty=false:=by simpa using m1
    cases m3:br m with
    |false=>exact FY a p m w p1 p2 hp p3 p5 m1 m2 hm m3 (by simp[printF,ac,hm0,m3];try rfl)
    |true =>
     have m5:=symB_size m3;have bb:=R6 p1 (⟨#[45]⟩++m);by_cases e:p=m
     ·subst e;exact F3 a p w p1 p2 hp p3 p5 (by simp[printF,ac,hp0,p3];try rfl)
     ·have ne:(p.toList==m.toList)=false:=by simpa[xV] using e
      rcases Int.lt_trichotomy a 0 with ha | ha | ha
      ·exact F1 a p m w p1 p2 hp p3 p5 m1 m2 hm m3 m5 ne bb.1 bb.2 ha dn (un ha) zn (by rw[←rJ ha];simp[printF,ac,hp0,hm0,p3,m3,e,Int.ne_of_lt ha])
      ·subst ha;exact F0 p m w p1 p2 hp p3 p5 m1 m2 hm m3 m5 ne bb.1 bb.2 (by simp[printF,ac,hp0,hm0,p3,m3,e])
      ·exact F2 a p m w p1 p2 hp p3 p5 m1 m2 hm m3 m5 ne bb.1 bb.2 ha dp (up (by omega)) zp (by rw[←oL ha];simp[printF,ac,hp0,hm0,p3,m3,e,(Int.ne_of_lt ha).symm])
end Ex
abbrev J4:ap prog 74:=ze _ (asP fun _ _=>by go_simp) (ln kl) jg (fun v=>aN (Ex.printF v)) (asP fun _=>rfl) <| asP fun x hs M w v hM hv=>by
 obtain⟨cs,rfl,h1⟩:=hv
 match cs,h1 with
 |[a,b,c],⟨_,e1,_,e2,_,e3,_⟩ =>
  obtain rfl:a=.int .i64 x.add:=e1;obtain rfl:b=.string x.plus:=e2;obtain rfl:c=.string x.minus:=e3;refine(Ex.rprint_any x.add x.plus x.minus w hs.1 hs.2.1 hs.2.2.1 hs.2.2.2).mono fun e w' h=>?_;obtain⟨s,y,h1,h2,h3⟩:=h;have h1':Ex.printF x=(s,y):=h1;refine⟨⟨_,h2,[.string s,.int .i64 y],rfl,?_,?_,trivial⟩,h3⟩
  ·rw[h1'];rfl
  ·rw[h1'];rfl
theorem aQ {h:ai}{id:Nat}{args:List AV}:J4.pan id h args=iK (dV (ln kl) jg) (fun v=>.ret (aN (Ex.printF v))) h args:=rfl
theorem iF {o:OpV}(h:ib o=false):tG o=100:=by unfold tG;rw[if_pos (.inl h)]
theorem rk {o:OpV}(h:¬cE o=o):tG o=100:=by unfold tG;rw[if_pos (.inr h)]
theorem rr {o:OpV}(h:ib o=true)(h0:cE o=o)(h1:¬(prO o).2=0):tG o=(prO o).2:=by unfold tG;rw[if_neg (by rw[h];simp[h0]),if_pos h1]
theorem Su {o:OpV}(h:ib o=true)(h0:cE o=o)(h1:(prO o).2=0)(h3:o.kind=3)(h4:(!decide (o.val.plus=emp)&&fa 3 o.val.plus)=true):tG o=100:=by
 unfold tG;rw[if_neg (by rw[h];simp[h0]),if_neg (by simp[h1]),if_pos];simp only[Bool.and_eq_true,Bool.not_eq_true',decide_eq_false_iff_not]at h4;exact⟨h3,h4⟩
theorem rm {o:OpV}(h:ib o=true)(h0:cE o=o)(h1:(prO o).2=0)(h4:o.kind=3→(!decide (o.val.plus=emp)&&fa 3 o.val.plus)=false):tG o=0:=by
 unfold tG;rw[if_neg (by rw[h];simp[h0]),if_neg (by simp[h1]),if_neg];rintro⟨h3,h5,h6⟩;have:=h4 h3;have e1:(o.val.plus=emp)=(o.plus=emp):=rfl;have e2:fa 3 o.val.plus=fa 3 o.plus:=rfl;rw[e2,h6,decide_eq_false (show ¬o.val.plus=emp from h5)]at this;cases this
theorem uq {x y:Operand}{a b:OpV}(h:b.lo=false):kn prog (do eqGuard .neq 79 x y (.agg #[.int .i64 a.kind,.int .i64 a.r.n,.bool a.r.x,.bool a.r.sp,.int .i64 a.m.n,.bool a.m.x,.bool a.m.sp,.int .i64 a.md,.int .i64 a.amt,.int .i64 a.n,.int .i64 a.add,.string a.plus,.string a.minus,.bool a.lo,.int .i64 a.mode]) (.agg #[.int .i64 b.kind,.int .i64 b.r.n,.bool b.r.x,.bool b.r.sp,.int .i64 b.m.n,.bool b.m.x,.bool b.m.sp,.int .i64 b.md,.int .i64 b.amt,.int .i64 b.n,.int .i64 b.add,.string b.plus,.string b.minus,.bool false,.int .i64 b.mode]);binOp .neq 79 (.agg #[.int .i64 a.kind,.int .i64 a.r.n,.bool a.r.x,.bool a.r.sp,.int .i64 a.m.n,.bool a.m.x,.bool a.m.sp,.int .i64 a.md,.int .i64 a.amt,.int .i64 a.n,.int .i64 a.add,.string a.plus,.string a.minus,.bool a.lo,.int .i64 a.mode]) (.agg #[.int .i64 b.kind,.int .i64 b.r.n,.bool b.r.x,.bool b.r.sp,.int .i64 b.m.n,.bool b.m.x,.bool b.m.sp,.int .i64 b.md,.int .i64 b.amt,.int .i64 b.n,.int .i64 b.add,.string b.plus,.string b.minus,.bool false,.int .i64 b.mode]))=some (.bool (!decide (a=b))):=by
  have:=aH (x:=x) (y:=y) (a:=a) (b:=b);rw[h]at this;exact this
theorem Ts (o:OpV)(hO:okO o):Sw f112 0 ⟨0,aB 0 [tOp.enc o],[]⟩ (oQ f112 (.ret (iv (tG o)))):=by
 refine aq [⟨_,sZ⟩,⟨_,FF⟩,⟨_,Qi⟩,⟨_,J4⟩,⟨_,IT⟩] rfl ?_;have ho:=rE hO;have hz':o.val.plus.size≤1099511627776:=hO.1.1;obtain⟨b,hb⟩:∃b,cE o=b:=⟨_,rfl⟩;obtain⟨x,hx⟩:∃x,prO o=x:=⟨_,rfl⟩;have hx':Ex.printF o.val=x:=hx;by_cases h1:o.kind=1
 ·have n3:¬o.kind=3:=by omega
  cases a1:eD o.r
  ·skip
   rw[iF (by unfold ib;simp only[eq_true h1,a1,if_true,if_false,decide_true,decide_false,Bool.false_and,Bool.true_and,Bool.and_true,Bool.and_false,Bool.or_true,Bool.true_or,Bool.false_or,Bool.or_false,Bool.not_true,Bool.not_false])];simp only[go_sem,ah,opE,opD,au,ar,bG,eq_true h1,a1];refine sD mixed [⟨_,gE⟩] [] ?_;simp only[go_sem,ah,opE,opD,au,ar,bG,opV,hb,↓aH,aQ,aN,ce,fP,ho,hx',hz',eq_true h1,a1]
  by_cases a2:0≤o.md
  case neg =>
   rw[iF (by unfold ib;simp only[eq_true h1,a1,a2,if_true,if_false,decide_true,decide_false,Bool.false_and,Bool.true_and,Bool.and_true,Bool.and_false,Bool.or_true,Bool.true_or,Bool.false_or,Bool.or_false,Bool.not_true,Bool.not_false])];simp only[go_sem,ah,opE,opD,au,ar,bG,eq_true h1,a1,a2];refine sD mixed [⟨_,gE⟩] [] ?_;simp only[go_sem,ah,opE,opD,au,ar,bG,opV,hb,↓aH,aQ,aN,ce,fP,ho,hx',hz',eq_true h1,a1,a2]
  by_cases a3:o.md≤12
  case neg =>
   rw[iF (by unfold ib;simp only[eq_true h1,a1,a2,a3,if_true,if_false,decide_true,decide_false,Bool.false_and,Bool.true_and,Bool.and_true,Bool.and_false,Bool.or_true,Bool.true_or,Bool.false_or,Bool.or_false,Bool.not_true,Bool.not_false])];simp only[go_sem,ah,opE,opD,au,ar,bG,eq_true h1,a1,a2,a3];refine sD mixed [⟨_,gE⟩] [] ?_;simp only[go_sem,ah,opE,opD,au,ar,bG,opV,hb,↓aH,aQ,aN,ce,fP,ho,hx',hz',eq_true h1,a1,a2,a3]
  cases a4:lJ o 0
  ·skip
   rw[iF (by unfold ib;simp only[eq_true h1,a1,a2,a3,a4,if_true,if_false,decide_true,decide_false,Bool.false_and,Bool.true_and,Bool.and_true,Bool.and_false,Bool.or_true,Bool.true_or,Bool.false_or,Bool.or_false,Bool.not_true,Bool.not_false])];simp only[go_sem,ah,opE,opD,au,ar,bG,eq_true h1,a1,a2,a3,a4];refine sD mixed [⟨_,gE⟩] [] ?_;simp only[go_sem,ah,opE,opD,au,ar,bG,opV,hb,↓aH,aQ,aN,ce,fP,ho,hx',hz',eq_true h1,a1,a2,a3,a4]
  have hk:ib o=true:=by unfold ib;simp only[eq_true h1,a1,a2,a3,a4,if_true,if_false,decide_true,decide_false,Bool.false_and,Bool.true_and,Bool.and_true,Bool.and_false,Bool.or_true,Bool.true_or,Bool.false_or,Bool.or_false,Bool.not_true,Bool.not_false]
  simp only[go_sem,ah,opE,opD,au,ar,bG,eq_true h1,a1,a2,a3,a4,n3];refine sD mixed [⟨_,gE⟩] [] ?_;by_cases g0:b=o
  case neg =>
   have hd:decide (b=o)=false:=by simpa using g0
   rw[rk (by rw[hb];exact g0)];simp only[go_sem,ah,opE,opD,au,ar,bG,opV,hb,↓aH,aQ,aN,ce,fP,ho,hx',hz',hd,eq_true h1,a1,a2,a3,a4,n3]
  have hd:decide (b=o)=true:=by simpa using g0
  have g0':cE o=o:=by rw[hb];exact g0
  by_cases g2:x.2=0
  case neg =>
   rw[rr hk g0' (by rw[hx];exact g2),hx];simp only[go_sem,ah,opE,opD,au,ar,bG,opV,hb,↓aH,aQ,aN,ce,fP,ho,hx',hz',hd,g2,eq_true h1,a1,a2,a3,a4,n3]
  rw[rm hk g0' (by rw[hx];exact g2) (fun h=>absurd h n3)];simp only[go_sem,ah,opE,opD,au,ar,bG,opV,hb,↓aH,aQ,aN,ce,fP,ho,hx',hz',hd,eq_true g2,eq_true h1,a1,a2,a3,a4,n3]
 by_cases h2:o.kind=2
 ·have n3:¬o.kind=3:=by omega
  cases a4:lJ o 0
  ·by_cases a1:o.md=0
   ·skip
    rw[iF (by unfold ib;simp only[h1,eq_true h2,eq_true a1,a4,if_true,if_false,decide_true,decide_false,Bool.false_and,Bool.true_and,Bool.and_true,Bool.and_false,Bool.or_true,Bool.true_or,Bool.false_or,Bool.or_false,Bool.not_true,Bool.not_false])];simp only[go_sem,ah,opE,opD,au,ar,bG,h1,eq_true h2,eq_true a1,a4];refine sD mixed [⟨_,gE⟩] [] ?_;simp only[go_sem,ah,opE,opD,au,ar,bG,opV,hb,↓aH,aQ,aN,ce,fP,ho,hx',hz',h1,eq_true h2,eq_true a1,a4]
   by_cases a2:o.md=1
   case neg =>
    rw[iF (by unfold ib;simp only[h1,eq_true h2,a1,a2,a4,if_true,if_false,decide_true,decide_false,Bool.false_and,Bool.true_and,Bool.and_true,Bool.and_false,Bool.or_true,Bool.true_or,Bool.false_or,Bool.or_false,Bool.not_true,Bool.not_false])];simp only[go_sem,ah,opE,opD,au,ar,bG,h1,eq_true h2,a1,a2,a4];refine sD mixed [⟨_,gE⟩] [] ?_;simp only[go_sem,ah,opE,opD,au,ar,bG,opV,hb,↓aH,aQ,aN,ce,fP,ho,hx',hz',h1,eq_true h2,a1,a2,a4]
   by_cases a3:o.lo=true
   ·skip
    rw[iF (by unfold ib;simp only[h1,eq_true h2,a1,eq_true a2,a3,if_true,if_false,decide_true,decide_false,Bool.false_and,Bool.true_and,Bool.and_true,Bool.and_false,Bool.or_true,Bool.true_or,Bool.false_or,Bool.or_false,Bool.not_true,Bool.not_false])];simp only[go_sem,ah,opE,opD,au,ar,bG,h1,eq_true h2,a1,eq_true a2,a3];refine sD mixed [⟨_,gE⟩] [] ?_;simp only[go_sem,ah,opE,opD,au,ar,bG,opV,hb,↓aH,aQ,aN,ce,fP,ho,hx',hz',h1,eq_true h2,a1,eq_true a2,a3]
   have a3':o.lo=false:=by simpa using a3
   have eL:(⟨o.kind,o.r,o.m,o.md,o.amt,o.n,o.add,o.plus,o.minus,false,o.mode⟩:OpV)=o:=by rw[←a3']
   rw[iF (by unfold ib;simp only[h1,eq_true h2,a1,eq_true a2,a3',a4,if_true,if_false,decide_true,decide_false,Bool.false_and,Bool.true_and,Bool.and_true,Bool.and_false,Bool.or_true,Bool.true_or,Bool.false_or,Bool.or_false,Bool.not_true,Bool.not_false])];simp only[go_sem,ah,opE,opD,au,ar,bG,eL,h1,eq_true h2,a1,eq_true a2,a3',a4];refine sD mixed [⟨_,gE⟩] [] ?_;simp only[go_sem,ah,opE,opD,au,ar,bG,opV,hb,↓aH,aQ,aN,ce,fP,ho,hx',hz',eL,h1,eq_true h2,a1,eq_true a2,a3',a4]
  by_cases a1:o.md=0
  ·skip
   have hk:ib o=true:=by unfold ib;simp only[h1,eq_true h2,eq_true a1,a4,if_true,if_false,decide_true,decide_false,Bool.false_and,Bool.true_and,Bool.and_true,Bool.and_false,Bool.or_true,Bool.true_or,Bool.false_or,Bool.or_false,Bool.not_true,Bool.not_false]
   simp only[go_sem,ah,opE,opD,au,ar,bG,h1,eq_true h2,eq_true a1,a4,n3];refine sD mixed [⟨_,gE⟩] [] ?_;by_cases g0:b=o
   case neg =>
    have hd:decide (b=o)=false:=by simpa using g0
    rw[rk (by rw[hb];exact g0)];simp only[go_sem,ah,opE,opD,au,ar,bG,opV,hb,↓aH,aQ,aN,ce,fP,ho,hx',hz',hd,h1,eq_true h2,eq_true a1,a4,n3]
   have hd:decide (b=o)=true:=by simpa using g0
   have g0':cE o=o:=by rw[hb];exact g0
   by_cases g2:x.2=0
   case neg =>
    rw[rr hk g0' (by rw[hx];exact g2),hx];simp only[go_sem,ah,opE,opD,au,ar,bG,opV,hb,↓aH,aQ,aN,ce,fP,ho,hx',hz',hd,g2,h1,eq_true h2,eq_true a1,a4,n3]
   rw[rm hk g0' (by rw[hx];exact g2) (fun h=>absurd h n3)];simp only[go_sem,ah,opE,opD,au,ar,bG,opV,hb,↓aH,aQ,aN,ce,fP,ho,hx',hz',hd,eq_true g2,h1,eq_true h2,eq_true a1,a4,n3]
  by_cases a2:o.md=1
  case neg =>
   rw[iF (by unfold ib;simp only[h1,eq_true h2,a1,a2,a4,if_true,if_false,decide_true,decide_false,Bool.false_and,Bool.true_and,Bool.and_true,Bool.and_false,Bool.or_true,Bool.true_or,Bool.false_or,Bool.or_false,Bool.not_true,Bool.not_false])];simp only[go_sem,ah,opE,opD,au,ar,bG,h1,eq_true h2,a1,a2,a4];refine sD mixed [⟨_,gE⟩] [] ?_;simp only[go_sem,ah,opE,opD,au,ar,bG,opV,hb,↓aH,aQ,aN,ce,fP,ho,hx',hz',h1,eq_true h2,a1,a2,a4]
  by_cases a3:o.lo=true
  ·skip
   rw[iF (by unfold ib;simp only[h1,eq_true h2,a1,eq_true a2,a3,if_true,if_false,decide_true,decide_false,Bool.false_and,Bool.true_and,Bool.and_true,Bool.and_false,Bool.or_true,Bool.true_or,Bool.false_or,Bool.or_false,Bool.not_true,Bool.not_false])];simp only[go_sem,ah,opE,opD,au,ar,bG,h1,eq_true h2,a1,eq_true a2,a3];refine sD mixed [⟨_,gE⟩] [] ?_;simp only[go_sem,ah,opE,opD,au,ar,bG,opV,hb,↓aH,aQ,aN,ce,fP,ho,hx',hz',h1,eq_true h2,a1,eq_true a2,a3]
  have a3':o.lo=false:=by simpa using a3
  have eL:(⟨o.kind,o.r,o.m,o.md,o.amt,o.n,o.add,o.plus,o.minus,false,o.mode⟩:OpV)=o:=by rw[←a3']
  have hk:ib o=true:=by unfold ib;simp only[h1,eq_true h2,a1,eq_true a2,a3',a4,if_true,if_false,decide_true,decide_false,Bool.false_and,Bool.true_and,Bool.and_true,Bool.and_false,Bool.or_true,Bool.true_or,Bool.false_or,Bool.or_false,Bool.not_true,Bool.not_false]
  simp only[go_sem,ah,opE,opD,au,ar,bG,h1,eq_true h2,a1,eq_true a2,eL,↓uq a3',a3',a4,n3];refine sD mixed [⟨_,gE⟩] [] ?_;by_cases g0:b=o
  case neg =>
   have hd:decide (b=o)=false:=by simpa using g0
   rw[rk (by rw[hb];exact g0)];simp only[go_sem,ah,opE,opD,au,ar,bG,opV,hb,↓aH,aQ,aN,ce,fP,ho,hx',hz',hd,h1,eq_true h2,a1,eq_true a2,eL,↓uq a3',a3',a4,n3]
  have hd:decide (b=o)=true:=by simpa using g0
  have g0':cE o=o:=by rw[hb];exact g0
  by_cases g2:x.2=0
  case neg =>
   rw[rr hk g0' (by rw[hx];exact g2),hx];simp only[go_sem,ah,opE,opD,au,ar,bG,opV,hb,↓aH,aQ,aN,ce,fP,ho,hx',hz',hd,g2,h1,eq_true h2,a1,eq_true a2,eL,↓uq a3',a3',a4,n3]
  rw[rm hk g0' (by rw[hx];exact g2) (fun h=>absurd h n3)];simp only[go_sem,ah,opE,opD,au,ar,bG,opV,hb,↓aH,aQ,aN,ce,fP,ho,hx',hz',hd,eq_true g2,h1,eq_true h2,a1,eq_true a2,eL,↓uq a3',a3',a4,n3]
 by_cases h3:o.kind=3
 ·skip
  have hk:ib o=true:=by unfold ib;simp only[h1,h2,eq_true h3,if_true,if_false,decide_true,decide_false,Bool.false_and,Bool.true_and,Bool.and_true,Bool.and_false,Bool.or_true,Bool.true_or,Bool.false_or,Bool.or_false,Bool.not_true,Bool.not_false]
  simp only[go_sem,ah,opE,opD,au,ar,bG,h1,h2,eq_true h3];refine sD mixed [⟨_,gE⟩] [] ?_;by_cases g0:b=o
  case neg =>
   have hd:decide (b=o)=false:=by simpa using g0
   rw[rk (by rw[hb];exact g0)];simp only[go_sem,ah,opE,opD,au,ar,bG,opV,hb,↓aH,aQ,aN,ce,fP,ho,hx',hz',hd,h1,h2,eq_true h3]
  have hd:decide (b=o)=true:=by simpa using g0
  have g0':cE o=o:=by rw[hb];exact g0
  by_cases g2:x.2=0
  case neg =>
   rw[rr hk g0' (by rw[hx];exact g2),hx];simp only[go_sem,ah,opE,opD,au,ar,bG,opV,hb,↓aH,aQ,aN,ce,fP,ho,hx',hz',hd,g2,h1,h2,eq_true h3]
  cases g3:(!decide (o.val.plus=emp)&&fa 3 o.val.plus)
  ·rw[rm hk g0' (by rw[hx];exact g2) (fun _=>g3)];simp only[go_sem,ah,opE,opD,au,ar,bG,opV,hb,↓aH,aQ,aN,ce,fP,ho,hx',hz',hd,eq_true g2,g3,h1,h2,eq_true h3]
  ·rw[Su hk g0' (by rw[hx];exact g2) h3 g3];simp only[go_sem,ah,opE,opD,au,ar,bG,opV,hb,↓aH,aQ,aN,ce,fP,ho,hx',hz',hd,eq_true g2,g3,h1,h2,eq_true h3]
 have n3:=h3;by_cases h5:o.kind=5
 ·cases a1:lC o
  ·skip
   rw[iF (by unfold ib;simp only[h1,h2,h3,eq_true h5,a1,if_true,if_false,decide_true,decide_false,Bool.false_and,Bool.true_and,Bool.and_true,Bool.and_false,Bool.or_true,Bool.true_or,Bool.false_or,Bool.or_false,Bool.not_true,Bool.not_false])];simp only[go_sem,ah,opE,opD,au,ar,bG,h1,h2,h3,eq_true h5,a1];refine sD mixed [⟨_,gE⟩] [] ?_;simp only[go_sem,ah,opE,opD,au,ar,bG,opV,hb,↓aH,aQ,aN,ce,fP,ho,hx',hz',h1,h2,h3,eq_true h5,a1]
  have hk:ib o=true:=by unfold ib;simp only[h1,h2,h3,eq_true h5,a1,if_true,if_false,decide_true,decide_false,Bool.false_and,Bool.true_and,Bool.and_true,Bool.and_false,Bool.or_true,Bool.true_or,Bool.false_or,Bool.or_false,Bool.not_true,Bool.not_false]
  simp only[go_sem,ah,opE,opD,au,ar,bG,h1,h2,h3,eq_true h5,a1];refine sD mixed [⟨_,gE⟩] [] ?_;by_cases g0:b=o
  case neg =>
   have hd:decide (b=o)=false:=by simpa using g0
   rw[rk (by rw[hb];exact g0)];simp only[go_sem,ah,opE,opD,au,ar,bG,opV,hb,↓aH,aQ,aN,ce,fP,ho,hx',hz',hd,h1,h2,h3,eq_true h5,a1]
  have hd:decide (b=o)=true:=by simpa using g0
  have g0':cE o=o:=by rw[hb];exact g0
  by_cases g2:x.2=0
  case neg =>
   rw[rr hk g0' (by rw[hx];exact g2),hx];simp only[go_sem,ah,opE,opD,au,ar,bG,opV,hb,↓aH,aQ,aN,ce,fP,ho,hx',hz',hd,g2,h1,h2,h3,eq_true h5,a1]
  rw[rm hk g0' (by rw[hx];exact g2) (fun h=>absurd h n3)];simp only[go_sem,ah,opE,opD,au,ar,bG,opV,hb,↓aH,aQ,aN,ce,fP,ho,hx',hz',hd,eq_true g2,h1,h2,h3,eq_true h5,a1]
 by_cases a1:0≤o.n
 case neg =>
  rw[iF (by unfold ib;simp only[h1,h2,h3,h5,a1,if_true,if_false,decide_true,decide_false,Bool.false_and,Bool.true_and,Bool.and_true,Bool.and_false,Bool.or_true,Bool.true_or,Bool.false_or,Bool.or_false,Bool.not_true,Bool.not_false])];simp only[go_sem,ah,opE,opD,au,ar,bG,h1,h2,h3,h5];refine sD mixed [⟨_,IJ⟩] [] ?_;simp only[go_sem,ah,opE,opD,au,ar,bG,h1,h2,h3,h5,a1];refine sD mixed [⟨_,gE⟩] [] ?_;simp only[go_sem,ah,opE,opD,au,ar,bG,opV,hb,↓aH,aQ,aN,ce,fP,ho,hx',hz',h1,h2,h3,h5,a1]
 by_cases a2:o.n≤ou o.kind
 case neg =>
  rw[iF (by unfold ib;simp only[h1,h2,h3,h5,a1,a2,if_true,if_false,decide_true,decide_false,Bool.false_and,Bool.true_and,Bool.and_true,Bool.and_false,Bool.or_true,Bool.true_or,Bool.false_or,Bool.or_false,Bool.not_true,Bool.not_false])];simp only[go_sem,ah,opE,opD,au,ar,bG,h1,h2,h3,h5];refine sD mixed [⟨_,IJ⟩] [] ?_;simp only[go_sem,ah,opE,opD,au,ar,bG,h1,h2,h3,h5,a1,a2];refine sD mixed [⟨_,gE⟩] [] ?_;simp only[go_sem,ah,opE,opD,au,ar,bG,opV,hb,↓aH,aQ,aN,ce,fP,ho,hx',hz',h1,h2,h3,h5,a1,a2]
 have hk:ib o=true:=by unfold ib;simp only[h1,h2,h3,h5,a1,a2,if_true,if_false,decide_true,decide_false,Bool.false_and,Bool.true_and,Bool.and_true,Bool.and_false,Bool.or_true,Bool.true_or,Bool.false_or,Bool.or_false,Bool.not_true,Bool.not_false]
 simp only[go_sem,ah,opE,opD,au,ar,bG,h1,h2,h3,h5];refine sD mixed [⟨_,IJ⟩] [] ?_;simp only[go_sem,ah,opE,opD,au,ar,bG,h1,h2,h3,h5,a1,a2];refine sD mixed [⟨_,gE⟩] [] ?_;by_cases g0:b=o
 case neg =>
  have hd:decide (b=o)=false:=by simpa using g0
  rw[rk (by rw[hb];exact g0)];simp only[go_sem,ah,opE,opD,au,ar,bG,opV,hb,↓aH,aQ,aN,ce,fP,ho,hx',hz',hd,h1,h2,h3,h5,a1,a2]
 have hd:decide (b=o)=true:=by simpa using g0
 have g0':cE o=o:=by rw[hb];exact g0
 by_cases g2:x.2=0
 case neg =>
  rw[rr hk g0' (by rw[hx];exact g2),hx];simp only[go_sem,ah,opE,opD,au,ar,bG,opV,hb,↓aH,aQ,aN,ce,fP,ho,hx',hz',hd,g2,h1,h2,h3,h5,a1,a2]
 rw[rm hk g0' (by rw[hx];exact g2) (fun h=>absurd h n3)];simp only[go_sem,ah,opE,opD,au,ar,bG,opV,hb,↓aH,aQ,aN,ce,fP,ho,hx',hz',hd,eq_true g2,h1,h2,h3,h5,a1,a2]
abbrev Yp:ap prog 112 :=
 mz1 func112 (tOp) (okO) ((fun o=>.ret (iv (tG o)))) (asP fun o h=>Ts o h)
end Go.Proofs.YtnhbidpdadkcjaaGreatDoor
