import Derived.Test.YtnhbidpdadkcjaaGreatDoorJ17
set_option linter.unusedVariables false
set_option linter.unusedSimpArgs false
set_option maxRecDepth 100000
set_option maxHeartbeats 8000000
namespace Go.Proofs.YtnhbidpdadkcjaaGreatDoor
section
open Go.RowKit
end
section
open Go.RowKit
def oq:Nat→List (ByteArray×Int)
 | 0=>[]
 | n+1=>oq n++(if (cC (kx n)).2=0 then [((cC (kx n)).1,(n:Int))] else [])
def vX (k:Int):List (ByteArray×Int):=if k=1 then oq 128 else kF k
def JN (r:ByteArray×Int):List AV:=[sv r.1,iv r.2]
def F6:List D→Option (Prop×List (List AV))
 | [.pd [.v (.int .i64 k)]]=>some (True,(vX k).map JN)
 | _=>none
theorem Fj {n m:Nat} (h:n<m) (hr:(cC (kx n)).2=0):(oq m)[(oq n).length]? = some ((cC (kx n)).1,(n:Int)):=by
 induction m with
 | zero=>omega
 | succ m ih =>
  rw [oq]
  by_cases e:n=m
  ·subst e
   rw [if_pos hr,List.getElem?_append_right (Nat.le_refl _),Nat.sub_self]
   rfl
  ·have:=ih (by omega)
   rw [List.getElem?_append_left (List.getElem?_eq_some_iff.1 this).1]
   exact this
theorem Oa (l:Nat) (k:Int):SWy Tryz.prog l ((vX k).map JN) ⟨none,0⟩ Tryz.f227.ntmps (Tryz.f227.body.getD .skip) ⟨0,aC 0 [.s (.l (.v (.func (.yield l) #[] #[]))),.s (.l (.d (.pd [.v (.int .i64 k)])))],[]⟩ (0,true) (itQ ((vX k).map JN)):=by
 refine pW (ctx:=[⟨_,x7⟩,⟨_,nk⟩,⟨_,Bu⟩]) 4000 ?_
 rw [Tryz.ntmps227]
 simp only [Tryz.f227,Option.getD_some,aC]
 by_cases hk:k=1
 ·subst hk
  simp only [go_sem]
  refine yu (ι:=Nat) (fun i=>i≤128) (fun i=>⟨0,[(0,.s (.l (.v (.func (.yield l) #[] #[])))),(10,iv i)],[]⟩) (fun i=>((oq i).length,true)) (fun i=>128-i) 0 (by omega) rfl (fun i _ b k hk=>by cases hk) (Wk.renL [] (by simp) (by simp) (by simp) rfl rfl) ?_
  intro i hi
  refine pW (ctx:=[⟨_,x7⟩,⟨_,nk⟩]) 4000 ?_
  by_cases hlt:i<128
  ·have hltI:(i:Int)<128:=by omega
   have h0:(0:Int)≤i:=by omega
   have ei:IntKind.i64.wrap ((i:Int)+1)=((i+1:Nat):Int):=by rw [IntKind.wrap_i64];omega
   by_cases hr:(cC (kx i)).2=0
   ·have hg:=Fj hlt hr
    simp only [go_sem,hltI,h0,uM,uL,lJ,lI,Fi,gF,gr,hr,ei]
    refine ⟨?_,i+1,by omega,by omega,?_,Wk.renL [] (by simp) (by simp) (by simp) rfl rfl⟩
    ·rw [show vX 1=oq 128 from rfl,hg];rfl
    ·rw [oq,if_pos hr];simp
   ·simp only [go_sem,hltI,h0,uM,uL,lJ,lI,Fi,gF,gr,hr,ei]
    exact ⟨i+1,by omega,by omega,by rw [oq,if_neg hr];simp,Wk.renL [] (by simp) (by simp) (by simp) rfl rfl⟩
  ·obtain rfl:i=128:=by omega
   simp only [go_sem,List.length_map,show vX 1=oq 128 from rfl]
 ·have ha:vX k=kF k:=by unfold vX;rw [if_neg hk]
  obtain ⟨t,ht⟩:∃ t,kF k=t:=⟨_,rfl⟩
  rw [ha,ht]
  have hlen:t.length≤100:=by
   rw [← ht]
   unfold kF
   repeat' split
   all_goals decide
  by_cases hnil:t=[]
  have e:oY k=Iw:=by unfold oY;rw [ht,if_pos hnil]
  simp only [go_sem,hk,rr,rm,e,Iw]
  refine yu (ι:=Nat) (fun i=>i≤t.length) (fun i=>⟨0,[(0,.s (.l (.v (.func (.yield l) #[] #[])))),(30,gk t),(31,iv t.length),(32,iv i)],[]⟩) (fun i=>(i,true)) (fun i=>t.length-i) 0 (Nat.zero_le _) rfl (fun i _ b k hk=>by cases hk) ((Wk.nilD 30 2 rfl).trans (Wk.renL [] (by simp) (by simp) (by simp) (by subst hnil;rfl) rfl)) ?_
  rotate_left
  have e:oY k=gk t:=by unfold oY;rw [ht,if_neg hnil]
  simp only [go_sem,hk,rr,rm,e,List.length_map]
  refine yu (ι:=Nat) (fun i=>i≤t.length) (fun i=>⟨0,[(0,.s (.l (.v (.func (.yield l) #[] #[])))),(30,gk t),(31,iv t.length),(32,iv i)],[]⟩) (fun i=>(i,true)) (fun i=>t.length-i) 0 (Nat.zero_le _) rfl (fun i _ b k hk=>by cases hk) (Wk.renL [] (by simp) (by simp) (by simp) rfl rfl) ?_
  all_goals
   intro i hi
   refine pW (ctx:=[]) 4000 ?_
   rcases Nat.lt_or_ge i t.length with hlt | hge
   ·have hltI:(i:Int)<t.length:=by omega
    obtain ⟨r,hr⟩:∃ r,t[i]? = some r:=⟨_,List.getElem?_eq_getElem hlt⟩
    have ei:IntKind.i64.wrap ((i:Int)+1)=((i+1:Nat):Int):=by rw [IntKind.wrap_i64];omega
    simp only [go_sem,hltI,hr,mY,ei]
    exact ⟨rfl,i+1,by omega,by omega,rfl,Wk.renL [] (by simp) (by simp) (by simp) rfl rfl⟩
   ·obtain rfl:i=t.length:=by omega
    have hI:¬(t.length:Int)<t.length:=by omega
    simp only [go_sem,hI]
noncomputable def J6:It Tryz.prog 227 :=
 mkIt _ _ _ Tryz.func227 rfl rfl (fun _ _=>by go_simp) F6 (by
  intro ds q L hd hq l
  unfold F6 at hd
  split at hd
  case h_2=>cases hd
  rename_i k
  injection hd with hd
  injection hd with _ hd
  subst hd
  exact ⟨by rw [Tryz.ntmps227];show 1+1≤44;decide,Oa l k⟩)
theorem J7 {k:Int}:J6.dec [.pd [.v (.int .i64 k)]]=some (True,(vX k).map JN):=rfl
def QT:bi Tryz.prog 188 :=
 mk1 _ _ _ Tryz.func188 rfl (fun _ _=>by go_simp) (bq .i64) ((fun _=>True)) ((fun k=>.ret (.fn 227 [] [.d (.pd [.v (.int .i64 k)])]))) (by rw [Tryz.ntmps188];decide) (fun k _=>by
 refine aa (ctx:=[]) 4000 ?_
 rw [Tryz.ntmps188,Tryz.results188]
 simp only [Tryz.f188,Option.getD_some,aC]
 simp only [go_sem])
theorem wi {id:Nat} {h:ah} {args:List AV}:(QT).run id h args=bT (ba (bq .i64) ((fun _=>True))) ((fun k=>.ret (.fn 227 [] [.d (.pd [.v (.int .i64 k)])]))) h args:=rfl
theorem wh {id:Nat} {h:ah} {args:List AV}:(QT).pan id h args=bU (ba (bq .i64) ((fun _=>True))) ((fun k=>.ret (.fn 227 [] [.d (.pd [.v (.int .i64 k)])]))) h args:=rfl
end
end Go.Proofs.YtnhbidpdadkcjaaGreatDoor
