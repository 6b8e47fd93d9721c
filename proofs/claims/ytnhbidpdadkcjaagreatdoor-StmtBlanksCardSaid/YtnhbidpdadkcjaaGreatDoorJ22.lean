import Derived.Test.YtnhbidpdadkcjaaGreatDoorJ19
import Derived.Test.YtnhbidpdadkcjaaGreatDoorJ20
set_option linter.unusedVariables false
set_option linter.unusedSimpArgs false
set_option maxRecDepth 100000
set_option maxHeartbeats 8000000
namespace Go.Proofs.YtnhbidpdadkcjaaGreatDoor
open Go.RowKit
def hsS:ByteArray:=⟨#[104,115]⟩
def loS:ByteArray:=⟨#[108,111]⟩
def csS:ByteArray:=⟨#[99,115]⟩
def ccS:ByteArray:=⟨#[99,99]⟩
def mG (k:Int) (s:ByteArray):ByteArray:=if k=2∧s=hsS then csS else if k=2∧s=loS then ccS else s
def bM (lim:Nat) (k:Int) (s:ByteArray):Int×Int :=
 if k=1 then (if (jD lim s).2=0 then (qw (jD lim s).1,0) else (0,(jD lim s).2)) else
 match kI (kF k) (mG k s) with
 | some n=>(n,0)
 | none=>if k=6 then match uR lim (mG k s) with
   | some n=>(n,0)
   | none=>(0,30)
  else (0,30)
def cQ (r:Int×Int):AV:=.tup [.l (.v (.int .i64 r.1)),.l (.v (.int .i64 r.2))]
theorem Fg (lim:Nat) (s:ByteArray):0≤(jD lim s).1.n∧(jD lim s).1.n≤31:=by
 unfold jD
 repeat' split
 all_goals (try simp)
 unfold C1
 split
 ·rename_i n hd
  have:=iJ (lim:=lim) (s:=s.extract 1 s.size) (most:=30) (by rw [hd])
  rw [hd] at this
  simp only at this ⊢
  omega
 ·simp
def mI (a:ByteArray):Blk:=⟨true,9,1,[[.v (.string a)]]⟩
def lw (n:Int):Blk:=⟨true,2,1,[[.v (.int .i64 n)]]⟩
def lv (n:Int):Blk:=⟨true,27,1,[[.v (.int .i64 n)]]⟩
def numT (k:Int):et:=[(0,iv k),(3,pv 0 0 0),(4,pv 1 0 0),(5,pv 2 0 0),(40,.s (.l (.d (.fn 227 [] [.pd [.v (.int .i64 k)]]))))]
def yQ (a:ByteArray):ah:=[(0,some (mI a)),(1,some (lw 0)),(2,some (lv 0))]
def yR (k:Int) (a:ByteArray):St:=⟨3,numT k,yQ a⟩
def wo:Code→Code
 | .seq x y=>match wo x with
  | .skip=>wo y
  | z=>z
 | .block _ x=>wo x
 | .rangeFunc x ps as' bo=>.rangeFunc x ps as' bo
 | _=>.skip
theorem zI (k:Int) (s:ByteArray) (hs:s.size≤1099511627776):SW Tryz.prog ⟨none,0⟩ Tryz.f141.ntmps (Tryz.f141.body.getD .skip) ⟨0,aC 0 [(bq .i64).enc k,bx.enc s],[]⟩ (es Tryz.prog Tryz.f141.results.toList (.ret (cQ (bM 3 k s)))):=by
 refine aa (ctx:=[⟨_,Pw⟩,⟨_,EQ⟩,⟨_,QT⟩,⟨_,Sr⟩]) 4000 ?_
 rw [Tryz.ntmps141,Tryz.results141]
 simp only [Tryz.f141,Option.getD_some,aC]
 by_cases hk:k=1
 ·subst hk
  have hr:=Fg 3 s
  have q : -100000<(jD 3 s).1.n∧(jD 3 s).1.n<100000:=by omega
  by_cases he:(jD 3 s).2=0
  ·have hF:bM 3 1 s=(qw (jD 3 s).1,0):=by unfold bM;rw [if_pos rfl,if_pos he]
   simp only [go_sem,wq,wp,qE,he,Iz,Iy,gF,hF,cQ,q]
  ·have hF:bM 3 1 s=(0,(jD 3 s).2):=by unfold bM;rw [if_pos rfl,if_neg he]
   simp only [go_sem,wq,wp,qE,he,hF,cQ]
 ·obtain ⟨a,ha⟩:∃ a,mG k s=a:=⟨_,rfl⟩
  have haz:a.size≤1099511627776:=by
   rw [← ha]
   unfold mG
   split
   ·decide
   ·split
    ·decide
    ·exact hs
  have nf:∀ (Q:Exit→St→Prop),(∀ nx t (n:Int),kI (kF k) a=some n→dk t 4=pv 1 0 0→dk t 5=pv 2 0 0→Q .ret ⟨nx,t,[(2,some (lv 0)),(1,some (lw n)),(0,some (mI a)),(1,some (lw 0)),(2,some (lv 0))]⟩) →
    (kI (kF k) a=none→Q .normal (yR k a))→SW Tryz.prog ⟨none,0⟩ 56 (wo (Tryz.f141.body.getD .skip)) (yR k a) Q:=by
   intro Q hret hdone
   refine Sq (K':=3) (by decide) (fun j hj=>?_) ?_
   ·have hj':j=0∨j=1∨j=2:=by omega
    rcases hj' with rfl | rfl | rfl<;>exact ⟨_,rfl⟩
   refine M2 (ι:=Unit) (mv:=[(8,41),(9,42)]) (t:=numT k) (fun i _=>∀ (j:Nat) (r:ByteArray×Int),j<i→(kF k)[j]? = some r→¬r.1=a) (fun _=>yQ a) (fun _=>3) (fun c s=>c=.ret∧∃ n,kI (kF k) a=some n∧s.h=[(2,some (lv 0)),(1,some (lw n)),(0,some (mI a)),(1,some (lw 0)),(2,some (lv 0))]) J6 J7 trivial rfl rfl (by decide) (by decide) (fun As hA=>?_) (P1 rfl) (fun i x _=>qB rfl) (fun c s h=>?_) () (fun j r hj=>absurd hj (Nat.not_lt_zero j)) (fun l i x As hinv hA=>?_) (fun x hinv=>?_) (fun c s h=>?_)
   ·obtain ⟨r,_,rfl⟩:=List.mem_map.1 hA
    rfl
   ·obtain ⟨_,n,_,hh⟩:=h
    rw [hh]
    exact qB rfl
   ·rw [List.getElem?_map,Option.map_eq_some_iff] at hA
    obtain ⟨r,hr,rfl⟩:=hA
    have hr':(kF k)[i]? = some r:=by rw [show vX k=kF k by unfold vX;rw [if_neg hk]] at hr;exact hr
    refine aa (ctx:=[]) 4000 ?_
    by_cases he:r.1=a
    ·simp only [go_sem,xF,qD,JN,numT,yQ,lv,mI,lw,List.zip_cons_cons,List.zip_nil_left,List.foldl_cons,List.foldl_nil,he]
     exact ⟨r.2,LE hinv hr' he,rfl⟩
    ·simp only [go_sem,xF,qD,JN,numT,yQ,lv,mI,lw,List.zip_cons_cons,List.zip_nil_left,List.foldl_cons,List.foldl_nil,he]
     refine ⟨fun j r' hj hj'=>?_,Wk.renL [0,1,2] (pinR 3) (Nat.le_refl 3) (by decide) rfl rfl⟩
     ·by_cases e:j=i
      ·subst e
       rw [hr'] at hj'
       injection hj' with hj'
       rw [← hj']
       exact he
      ·exact hinv j r' (by omega) hj'
   ·exact hdone (EP (by rw [List.length_map,show vX k=kF k by unfold vX;rw [if_neg hk]] at hinv;exact hinv))
   ·obtain ⟨rfl,n,hn,hh⟩:=h
    refine PY ?_
    obtain ⟨nx,t,hp⟩:=s
    simp only at hh
    subst hh
    exact hret nx (numT k) n hn rfl rfl
  have hwk:∀ {nx t h},Wk ⟨none,0⟩ ⟨nx,(40,.s (.l (.d (.fn 227 [] [.pd [.v (.int .i64 k)]]))))::t,h⟩ (yR k a)→dk t 40=.fn 227 [] [.d (.pd [.v (.int .i64 k)])]→Wk ⟨none,0⟩ ⟨nx,t,h⟩ (yR k a):=fun h1 h2=>(Wk.fnD (s:=⟨_,_,_⟩) 40 h2 rfl rfl).trans h1
  have hyes:∀ n,kI (kF k) a=some n→bM 3 k s=(n,0):=fun n hn=>by unfold bM;rw [if_neg hk,ha,hn]
  have hno:kI (kF k) a=none→bM 3 k s=if k=6 then match uR 3 a with
   | some n=>((n,0):Int×Int)
   | none=>(0,30) else (0,30):=fun hn=>by unfold bM;rw [if_neg hk,ha,hn]
  by_cases h2:k=2
  ·by_cases h3:s=⟨#[104,115]⟩
   ·have has:a=⟨#[99,115]⟩:=by rw [← ha];unfold mG;rw [if_pos ⟨h2,h3⟩];rfl
    simp only [go_sem,hk,eq_true h2,eq_true h3,wi,wh]
    refine SW.wk (nf _ (fun nx t n hn h4 h5=>?_) (fun hn=>?_)) (hwk (Wk.renL [0,16,32] (by simp) (Nat.le_refl 3) (by simp) rfl (by rw [has];rfl)) rfl)
    ·have hF:=hyes n hn
     simp only [go_sem,h4,h5,lv,lw,mI,hF,cQ]
    ·have hF:=hno hn
     have h6:¬k=6:=by omega
     rw [if_neg h6] at hF
     simp only [go_sem,yR,numT,yQ,h6,lv,lw,mI,hF,cQ]
   by_cases h4:s=⟨#[108,111]⟩
   ·have has:a=⟨#[99,99]⟩:=by rw [← ha];unfold mG;rw [if_neg (fun h=>h3 h.2),if_pos ⟨h2,h4⟩];rfl
    simp only [go_sem,hk,eq_true h2,h3,eq_true h4,wi,wh]
    refine SW.wk (nf _ (fun nx t n hn h4 h5=>?_) (fun hn=>?_)) (hwk (Wk.renL [0,16,32] (by simp) (Nat.le_refl 3) (by simp) rfl (by rw [has];rfl)) rfl)
    ·have hF:=hyes n hn
     simp only [go_sem,h4,h5,lv,lw,mI,hF,cQ]
    ·have hF:=hno hn
     have h6:¬k=6:=by omega
     rw [if_neg h6] at hF
     simp only [go_sem,yR,numT,yQ,h6,lv,lw,mI,hF,cQ]
   ·have has:a=s:=by rw [← ha];unfold mG;rw [if_neg (fun h=>h3 h.2),if_neg (fun h=>h4 h.2)]
    simp only [go_sem,hk,eq_true h2,h3,h4,wi,wh]
    refine SW.wk (nf _ (fun nx t n hn h4 h5=>?_) (fun hn=>?_)) (hwk (Wk.renL [0,16,32] (by simp) (Nat.le_refl 3) (by simp) rfl (by rw [has];rfl)) rfl)
    ·have hF:=hyes n hn
     simp only [go_sem,h4,h5,lv,lw,mI,hF,cQ]
    ·have hF:=hno hn
     have h6:¬k=6:=by omega
     rw [if_neg h6] at hF
     simp only [go_sem,yR,numT,yQ,h6,lv,lw,mI,hF,cQ]
  ·have has:a=s:=by rw [← ha];unfold mG;rw [if_neg (fun h=>h2 h.1),if_neg (fun h=>h2 h.1)]
   simp only [go_sem,hk,h2,wi,wh]
   refine SW.wk (nf _ (fun nx t n hn h4 h5=>?_) (fun hn=>?_)) (hwk (Wk.renL [0,16,32] (by simp) (Nat.le_refl 3) (by simp) rfl (by rw [has];rfl)) rfl)
   ·have hF:=hyes n hn
    simp only [go_sem,h4,h5,lv,lw,mI,hF,cQ]
   ·have hF:=hno hn
    by_cases h6:k=6
    ·rw [if_pos h6] at hF
     rcases hsys:uR 3 a with _ | n
     ·rw [hsys] at hF
      simp only [go_sem,yR,numT,yQ,eq_true h6,lv,lw,mI,GK,GJ,haz,hsys,nt,hF,cQ]
     ·rw [hsys] at hF
      simp only [go_sem,yR,numT,yQ,eq_true h6,lv,lw,mI,GK,GJ,haz,hsys,nt,hF,cQ]
    ·rw [if_neg h6] at hF
     simp only [go_sem,yR,numT,yQ,h6,lv,lw,mI,hF,cQ]
def rc:bi Tryz.prog 141 :=
 mk2 _ _ _ Tryz.func141 rfl (fun _ _=>by go_simp) (bq .i64) (bx) ((fun _ s=>s.size≤1099511627776)) ((fun k s=>.ret (cQ (bM 3 k s)))) (by rw [Tryz.ntmps141];decide) (fun k s hs=>zI k s hs)
theorem cI {id:Nat} {h:ah} {args:List AV}:(rc).run id h args=bT (cg (bq .i64) (bx) ((fun _ s=>s.size≤1099511627776))) (fun x=>((fun k s=>.ret (cQ (bM 3 k s)))) x.1 x.2) h args:=rfl
theorem cH {id:Nat} {h:ah} {args:List AV}:(rc).pan id h args=bU (cg (bq .i64) (bx) ((fun _ s=>s.size≤1099511627776))) (fun x=>((fun k s=>.ret (cQ (bM 3 k s)))) x.1 x.2) h args:=rfl
def zY (lim:Nat) (s:ByteArray):Nat→Bool
 | 0=>false
 | n+1=>zY lim s n||decide ((bM lim (n+1:Nat) s).2=0)
def kJ (lim:Nat) (s:ByteArray):Bool:=zY lim s 8
theorem JF {lim:Nat} {s:ByteArray} {i:Nat} (h:(bM lim (i+1:Nat) s).2=0):∀ {j},i<j→zY lim s j=true:=by
 intro j hj
 induction j with
 | zero=>omega
 | succ j ih =>
  rw [zY]
  by_cases e:i=j
  ·subst e;rw [decide_eq_true h,Bool.or_true]
  ·rw [ih (by omega)];rfl
theorem P7 (s:ByteArray) (hs:s.size≤1099511627776):SW Tryz.prog ⟨none,0⟩ Tryz.f168.ntmps (Tryz.f168.body.getD .skip) ⟨0,aC 0 [bx.enc s],[]⟩ (es Tryz.prog Tryz.f168.results.toList (.ret (bv (kJ 3 s)))):=by
 refine aa (ctx:=[⟨_,rc⟩]) 4000 ?_
 rw [Tryz.ntmps168,Tryz.results168]
 simp only [Tryz.f168,Option.getD_some,aC]
 simp only [go_sem]
 refine cW (ι:=Nat) (fun i=>i≤8∧zY 3 s i=false) (fun i=>⟨0,[(0,sv s),(3,iv ((i:Int)+1))],[]⟩) (fun i=>8-i) 0 ⟨by omega,rfl⟩ (Wk.renL [] (by simp) (by simp) (by simp) rfl rfl) ?_
 rintro i ⟨hi,hn⟩
 refine aa (ctx:=[⟨_,rc⟩]) 4000 ?_
 by_cases hlt:i<8
 ·have hltI:(i:Int)+1≤8:=by omega
  have ei:IntKind.i64.wrap ((i:Int)+1+1)=((i+1:Nat):Int)+1:=by rw [IntKind.wrap_i64];omega
  have ec:((i+1:Nat):Int)=(i:Int)+1:=by omega
  by_cases he:(bM 3 ((i:Int)+1) s).2=0
  ·have hw:kJ 3 s=true:=JF (i:=i) (by rw [ec];exact he) hlt
   simp only [go_sem,hltI,cI,cH,hs,cQ,eq_true he,hw]
  ·simp only [go_sem,hltI,cI,cH,hs,cQ,he,ei]
   exact ⟨i+1,⟨by omega,by rw [zY,hn,ec];simp [he]⟩,by omega,Wk.renL [] (by simp) (by simp) (by simp) rfl rfl⟩
 ·obtain rfl:i=8:=by omega
  simp only [go_sem,show kJ 3 s=false from hn,show ¬((8:Int)+1≤8) by omega]
def Dy:bi Tryz.prog 168 :=
 mk1 _ _ _ Tryz.func168 rfl (fun _ _=>by go_simp) (bx) ((fun s=>s.size≤1099511627776)) ((fun s=>.ret (bv (kJ 3 s)))) (by rw [Tryz.ntmps168];decide) (fun s hs=>P7 s hs)
theorem dw {id:Nat} {h:ah} {args:List AV}:(Dy).run id h args=bT (ba (bx) ((fun s=>s.size≤1099511627776))) ((fun s=>.ret (bv (kJ 3 s)))) h args:=rfl
theorem dv {id:Nat} {h:ah} {args:List AV}:(Dy).pan id h args=bU (ba (bx) ((fun s=>s.size≤1099511627776))) ((fun s=>.ret (bv (kJ 3 s)))) h args:=rfl
end Go.Proofs.YtnhbidpdadkcjaaGreatDoor
