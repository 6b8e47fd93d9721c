import Derived.Test.YthcoegkfpinlfaaGreatDoorJ19
import Derived.Test.YthcoegkfpinlfaaGreatDoorJ21
set_option linter.unusedVariables false
set_option linter.unusedSimpArgs false
set_option maxRecDepth 100000
set_option maxHeartbeats 8000000
namespace Go.Proofs.YthcoegkfpinlfaaGreatDoor
open Go.RowKit
def hsS:ByteArray:=⟨#[104,115]⟩
def loS:ByteArray:=⟨#[108,111]⟩
def csS:ByteArray:=⟨#[99,115]⟩
def ccS:ByteArray:=⟨#[99,99]⟩
def ka (k:Int) (s:ByteArray):ByteArray:=if k=2∧s=hsS then csS else if k=2∧s=loS then ccS else s
def ap (lim:Nat) (k:Int) (s:ByteArray):Int×Int :=
 if k=1 then (if (fm lim s).2=0 then (oy (fm lim s).1,0) else (0,(fm lim s).2)) else
 match jR (gK k) (ka k s) with
 | some n=>(n,0)
 | none=>if k=6 then match tn lim (ka k s) with
   | some n=>(n,0)
   | none=>(0,30)
  else (0,30)
def cB (r:Int×Int):AV:=.tup [.l (.v (.int .i64 r.1)),.l (.v (.int .i64 r.2))]
theorem EI (lim:Nat) (s:ByteArray):0≤(fm lim s).1.n∧(fm lim s).1.n≤31:=by
 unfold fm
 repeat' split
 all_goals (try simp)
 unfold Co
 split
 ·rename_i n hd
  have:=ia (lim:=lim) (s:=s.extract 1 s.size) (most:=30) (by rw [hd])
  rw [hd] at this
  simp only at this ⊢
  omega
 ·simp
def lJ (a:ByteArray):Blk:=⟨true,9,1,[[.v (.string a)]]⟩
def kG (n:Int):Blk:=⟨true,2,1,[[.v (.int .i64 n)]]⟩
def kF (n:Int):Blk:=⟨true,25,1,[[.v (.int .i64 n)]]⟩
def numT (k:Int):dY:=[(0,iv k),(3,pv 0 0 0),(4,pv 1 0 0),(5,pv 2 0 0),(40,.s (.l (.d (.fn 127 [] [.pd [.v (.int .i64 k)]]))))]
def xk (a:ByteArray):ag:=[(0,some (lJ a)),(1,some (kG 0)),(2,some (kF 0))]
def xl (k:Int) (a:ByteArray):St:=⟨3,numT k,xk a⟩
def uG:Code→Code
 | .seq x y=>match uG x with
  | .skip=>uG y
  | z=>z
 | .block _ x=>uG x
 | .rangeFunc x ps as' bo=>.rangeFunc x ps as' bo
 | _=>.skip
theorem Ie (k:Int) (s:ByteArray) (hs:s.size≤1099511627776):SW Tryz.prog ⟨none,0⟩ Tryz.f31.ntmps (Tryz.f31.body.getD .skip) ⟨0,aw 0 [(bA .i64).enc k,bh.enc s],[]⟩ (eK Tryz.prog Tryz.f31.results.toList (.ret (cB (ap 3 k s)))):=by
 refine ab (ctx:=[⟨_,Oc⟩,⟨_,D9⟩,⟨_,Ps⟩,⟨_,Qh⟩]) 4000 ?_
 rw [Tryz.ntmps31,Tryz.results31]
 simp only [Tryz.f31,Option.getD_some,aw]
 by_cases hk:k=1
 ·subst hk
  have hr:=EI 3 s
  have q : -100000<(fm 3 s).1.n∧(fm 3 s).1.n<100000:=by omega
  by_cases he:(fm 3 s).2=0
  ·have hF:ap 3 1 s=(oy (fm 3 s).1,0):=by unfold ap;rw [if_pos rfl,if_pos he]
   simp only [go_sem,uJ,uI,pP,he,Ic,Ib,gk,hF,cB,q]
  ·have hF:ap 3 1 s=(0,(fm 3 s).2):=by unfold ap;rw [if_pos rfl,if_neg he]
   simp only [go_sem,uJ,uI,pP,he,hF,cB]
 ·obtain ⟨a,ha⟩:∃ a,ka k s=a:=⟨_,rfl⟩
  have haz:a.size≤1099511627776:=by
   rw [← ha]
   unfold ka
   split
   ·decide
   ·split
    ·decide
    ·exact hs
  have nf:∀ (Q:Exit→St→Prop),(∀ nx t (n:Int),jR (gK k) a=some n→cE t 4=pv 1 0 0→cE t 5=pv 2 0 0→Q .ret ⟨nx,t,[(2,some (kF 0)),(1,some (kG n)),(0,some (lJ a)),(1,some (kG 0)),(2,some (kF 0))]⟩) →
    (jR (gK k) a=none→Q .normal (xl k a))→SW Tryz.prog ⟨none,0⟩ 56 (uG (Tryz.f31.body.getD .skip)) (xl k a) Q:=by
   intro Q hret hdone
   refine Qf (K':=3) (by decide) (fun j hj=>?_) ?_
   ·have hj':j=0∨j=1∨j=2:=by omega
    rcases hj' with rfl | rfl | rfl<;>exact ⟨_,rfl⟩
   refine L0 (ι:=Unit) (mv:=[(8,41),(9,42)]) (t:=numT k) (fun i _=>∀ (j:Nat) (r:ByteArray×Int),j<i→(gK k)[j]? = some r→¬r.1=a) (fun _=>xk a) (fun _=>3) (fun c s=>c=.ret∧∃ n,jR (gK k) a=some n∧s.h=[(2,some (kF 0)),(1,some (kG n)),(0,some (lJ a)),(1,some (kG 0)),(2,some (kF 0))]) Jt Ju trivial rfl rfl (by decide) (by decide) (fun As hA=>?_) (Ox rfl) (fun i x _=>pL rfl) (fun c s h=>?_) () (fun j r hj=>absurd hj (Nat.not_lt_zero j)) (fun l i x As hinv hA=>?_) (fun x hinv=>?_) (fun c s h=>?_)
   ·obtain ⟨r,_,rfl⟩:=List.mem_map.1 hA
    rfl
   ·obtain ⟨_,n,_,hh⟩:=h
    rw [hh]
    exact pL rfl
   ·rw [List.getElem?_map,Option.map_eq_some_iff] at hA
    obtain ⟨r,hr,rfl⟩:=hA
    have hr':(gK k)[i]? = some r:=by rw [show ug k=gK k by unfold ug;rw [if_neg hk]] at hr;exact hr
    refine ab (ctx:=[]) 4000 ?_
    by_cases he:r.1=a
    ·simp only [go_sem,vU,pO,I8,numT,xk,kF,lJ,kG,List.zip_cons_cons,List.zip_nil_left,List.foldl_cons,List.foldl_nil,he]
     exact ⟨r.2,KS hinv hr' he,rfl⟩
    ·simp only [go_sem,vU,pO,I8,numT,xk,kF,lJ,kG,List.zip_cons_cons,List.zip_nil_left,List.foldl_cons,List.foldl_nil,he]
     refine ⟨fun j r' hj hj'=>?_,Wk.renL [0,1,2] (pinR 3) (Nat.le_refl 3) (by decide) rfl rfl⟩
     ·by_cases e:j=i
      ·subst e
       rw [hr'] at hj'
       injection hj' with hj'
       rw [← hj']
       exact he
      ·exact hinv j r' (by omega) hj'
   ·exact hdone (D8 (by rw [List.length_map,show ug k=gK k by unfold ug;rw [if_neg hk]] at hinv;exact hinv))
   ·obtain ⟨rfl,n,hn,hh⟩:=h
    refine Ot ?_
    obtain ⟨nx,t,hp⟩:=s
    simp only at hh
    subst hh
    exact hret nx (numT k) n hn rfl rfl
  have hwk:∀ {nx t h},Wk ⟨none,0⟩ ⟨nx,(40,.s (.l (.d (.fn 127 [] [.pd [.v (.int .i64 k)]]))))::t,h⟩ (xl k a)→cE t 40=.fn 127 [] [.d (.pd [.v (.int .i64 k)])]→Wk ⟨none,0⟩ ⟨nx,t,h⟩ (xl k a):=fun h1 h2=>(Wk.fnD (s:=⟨_,_,_⟩) 40 h2 rfl rfl).trans h1
  have hyes:∀ n,jR (gK k) a=some n→ap 3 k s=(n,0):=fun n hn=>by unfold ap;rw [if_neg hk,ha,hn]
  have hno:jR (gK k) a=none→ap 3 k s=if k=6 then match tn 3 a with
   | some n=>((n,0):Int×Int)
   | none=>(0,30) else (0,30):=fun hn=>by unfold ap;rw [if_neg hk,ha,hn]
  by_cases h2:k=2
  ·by_cases h3:s=⟨#[104,115]⟩
   ·have has:a=⟨#[99,115]⟩:=by rw [← ha];unfold ka;rw [if_pos ⟨h2,h3⟩];rfl
    simp only [go_sem,hk,eq_true h2,eq_true h3,uv,uu]
    refine SW.wk (nf _ (fun nx t n hn h4 h5=>?_) (fun hn=>?_)) (hwk (Wk.renL [0,16,32] (by simp) (Nat.le_refl 3) (by simp) rfl (by rw [has];rfl)) rfl)
    ·have hF:=hyes n hn
     simp only [go_sem,h4,h5,kF,kG,lJ,hF,cB]
    ·have hF:=hno hn
     have h6:¬k=6:=by omega
     rw [if_neg h6] at hF
     simp only [go_sem,xl,numT,xk,h6,kF,kG,lJ,hF,cB]
   by_cases h4:s=⟨#[108,111]⟩
   ·have has:a=⟨#[99,99]⟩:=by rw [← ha];unfold ka;rw [if_neg (fun h=>h3 h.2),if_pos ⟨h2,h4⟩];rfl
    simp only [go_sem,hk,eq_true h2,h3,eq_true h4,uv,uu]
    refine SW.wk (nf _ (fun nx t n hn h4 h5=>?_) (fun hn=>?_)) (hwk (Wk.renL [0,16,32] (by simp) (Nat.le_refl 3) (by simp) rfl (by rw [has];rfl)) rfl)
    ·have hF:=hyes n hn
     simp only [go_sem,h4,h5,kF,kG,lJ,hF,cB]
    ·have hF:=hno hn
     have h6:¬k=6:=by omega
     rw [if_neg h6] at hF
     simp only [go_sem,xl,numT,xk,h6,kF,kG,lJ,hF,cB]
   ·have has:a=s:=by rw [← ha];unfold ka;rw [if_neg (fun h=>h3 h.2),if_neg (fun h=>h4 h.2)]
    simp only [go_sem,hk,eq_true h2,h3,h4,uv,uu]
    refine SW.wk (nf _ (fun nx t n hn h4 h5=>?_) (fun hn=>?_)) (hwk (Wk.renL [0,16,32] (by simp) (Nat.le_refl 3) (by simp) rfl (by rw [has];rfl)) rfl)
    ·have hF:=hyes n hn
     simp only [go_sem,h4,h5,kF,kG,lJ,hF,cB]
    ·have hF:=hno hn
     have h6:¬k=6:=by omega
     rw [if_neg h6] at hF
     simp only [go_sem,xl,numT,xk,h6,kF,kG,lJ,hF,cB]
  ·have has:a=s:=by rw [← ha];unfold ka;rw [if_neg (fun h=>h2 h.1),if_neg (fun h=>h2 h.1)]
   simp only [go_sem,hk,h2,uv,uu]
   refine SW.wk (nf _ (fun nx t n hn h4 h5=>?_) (fun hn=>?_)) (hwk (Wk.renL [0,16,32] (by simp) (Nat.le_refl 3) (by simp) rfl (by rw [has];rfl)) rfl)
   ·have hF:=hyes n hn
    simp only [go_sem,h4,h5,kF,kG,lJ,hF,cB]
   ·have hF:=hno hn
    by_cases h6:k=6
    ·rw [if_pos h6] at hF
     rcases hsys:tn 3 a with _ | n
     ·rw [hsys] at hF
      simp only [go_sem,xl,numT,xk,eq_true h6,kF,kG,lJ,Gh,Gg,haz,hsys,mf,hF,cB]
     ·rw [hsys] at hF
      simp only [go_sem,xl,numT,xk,eq_true h6,kF,kG,lJ,Gh,Gg,haz,hsys,mf,hF,cB]
    ·rw [if_neg h6] at hF
     simp only [go_sem,xl,numT,xk,h6,kF,kG,lJ,hF,cB]
def oz:bq Tryz.prog 31 :=
 mk2 _ _ _ Tryz.func31 rfl (fun _ _=>by go_simp) (bA .i64) (bh) ((fun _ s=>s.size≤1099511627776)) ((fun k s=>.ret (cB (ap 3 k s)))) (by rw [Tryz.ntmps31];decide) (fun k s hs=>Ie k s hs)
theorem bQ {id:Nat} {h:ag} {args:List AV}:(oz).run id h args=bV (cA (bA .i64) (bh) ((fun _ s=>s.size≤1099511627776))) (fun x=>((fun k s=>.ret (cB (ap 3 k s)))) x.1 x.2) h args:=rfl
theorem bP {id:Nat} {h:ag} {args:List AV}:(oz).pan id h args=ca (cA (bA .i64) (bh) ((fun _ s=>s.size≤1099511627776))) (fun x=>((fun k s=>.ret (cB (ap 3 k s)))) x.1 x.2) h args:=rfl
def yZ (lim:Nat) (s:ByteArray):Nat→Bool
 | 0=>false
 | n+1=>yZ lim s n||decide ((ap lim (n+1:Nat) s).2=0)
def iE (lim:Nat) (s:ByteArray):Bool:=yZ lim s 8
theorem y9 {lim:Nat} {s:ByteArray} {i:Nat} (h:(ap lim (i+1:Nat) s).2=0):∀ {j},i<j→yZ lim s j=true:=by
 intro j hj
 induction j with
 | zero=>omega
 | succ j ih =>
  rw [yZ]
  by_cases e:i=j
  ·subst e;rw [decide_eq_true h,Bool.or_true]
  ·rw [ih (by omega)];rfl
theorem Oz (s:ByteArray) (hs:s.size≤1099511627776):SW Tryz.prog ⟨none,0⟩ Tryz.f34.ntmps (Tryz.f34.body.getD .skip) ⟨0,aw 0 [bh.enc s],[]⟩ (eK Tryz.prog Tryz.f34.results.toList (.ret (bv (iE 3 s)))):=by
 refine ab (ctx:=[⟨_,oz⟩]) 4000 ?_
 rw [Tryz.ntmps34,Tryz.results34]
 simp only [Tryz.f34,Option.getD_some,aw]
 simp only [go_sem]
 refine dG (ι:=Nat) (fun i=>i≤8∧yZ 3 s i=false) (fun i=>⟨0,[(0,sv s),(3,iv ((i:Int)+1))],[]⟩) (fun i=>8-i) 0 ⟨by omega,rfl⟩ (Wk.renL [] (by simp) (by simp) (by simp) rfl rfl) ?_
 rintro i ⟨hi,hn⟩
 refine ab (ctx:=[⟨_,oz⟩]) 4000 ?_
 by_cases hlt:i<8
 ·have hltI:(i:Int)+1≤8:=by omega
  have ei:IntKind.i64.wrap ((i:Int)+1+1)=((i+1:Nat):Int)+1:=by rw [IntKind.wrap_i64];omega
  have ec:((i+1:Nat):Int)=(i:Int)+1:=by omega
  by_cases he:(ap 3 ((i:Int)+1) s).2=0
  ·have hw:iE 3 s=true:=y9 (i:=i) (by rw [ec];exact he) hlt
   simp only [go_sem,hltI,bQ,bP,hs,cB,eq_true he,hw]
  ·simp only [go_sem,hltI,bQ,bP,hs,cB,he,ei]
   exact ⟨i+1,⟨by omega,by rw [yZ,hn,ec];simp [he]⟩,by omega,Wk.renL [] (by simp) (by simp) (by simp) rfl rfl⟩
 ·obtain rfl:i=8:=by omega
  simp only [go_sem,show iE 3 s=false from hn,show ¬((8:Int)+1≤8) by omega]
def CO:bq Tryz.prog 34 :=
 mk1 _ _ _ Tryz.func34 rfl (fun _ _=>by go_simp) (bh) ((fun s=>s.size≤1099511627776)) ((fun s=>.ret (bv (iE 3 s)))) (by rw [Tryz.ntmps34];decide) (fun s hs=>Oz s hs)
theorem cO {id:Nat} {h:ag} {args:List AV}:(CO).run id h args=bV (aI (bh) ((fun s=>s.size≤1099511627776))) ((fun s=>.ret (bv (iE 3 s)))) h args:=rfl
theorem cN {id:Nat} {h:ag} {args:List AV}:(CO).pan id h args=ca (aI (bh) ((fun s=>s.size≤1099511627776))) ((fun s=>.ret (bv (iE 3 s)))) h args:=rfl
end Go.Proofs.YthcoegkfpinlfaaGreatDoor
