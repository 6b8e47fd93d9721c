import Derived.Test.YthcoegkfpinlfaaGreatDoorJ20
set_option linter.unusedVariables false
set_option linter.unusedSimpArgs false
set_option maxRecDepth 100000
set_option maxHeartbeats 8000000
namespace Go.Proofs.YthcoegkfpinlfaaGreatDoor
open Go.RowKit
def mT:Nat→List (ByteArray×Int)
 | 0=>[]
 | n+1=>mT n++(if (aV (jV n)).2=0 then [((aV (jV n)).1,(n:Int))] else [])
def ug (k:Int):List (ByteArray×Int):=if k=1 then mT 128 else gK k
def I8 (r:ByteArray×Int):List AV:=[sv r.1,iv r.2]
def FC:List D→Option (Prop×List (List AV))
 | [.pd [.v (.int .i64 k)]]=>some (True,(ug k).map I8)
 | _=>none
theorem EM {n m:Nat} (h:n<m) (hr:(aV (jV n)).2=0):(mT m)[(mT n).length]? = some ((aV (jV n)).1,(n:Int)):=by
 induction m with
 | zero=>omega
 | succ m ih =>
  rw [mT]
  by_cases e:n=m
  ·subst e
   rw [if_pos hr,List.getElem?_append_right (Nat.le_refl _),Nat.sub_self]
   rfl
  ·have:=ih (by omega)
   rw [List.getElem?_append_left (List.getElem?_eq_some_iff.1 this).1]
   exact this
theorem MZ (l:Nat) (k:Int):SWy Tryz.prog l ((ug k).map I8) ⟨none,0⟩ Tryz.f127.ntmps (Tryz.f127.body.getD .skip) ⟨0,aw 0 [.s (.l (.v (.func (.yield l) #[] #[]))),.s (.l (.d (.pd [.v (.int .i64 k)])))],[]⟩ (0,true) (itQ ((ug k).map I8)):=by
 refine oV (ctx:=[⟨_,wv⟩,⟨_,lY⟩,⟨_,Ak⟩]) 4000 ?_
 rw [Tryz.ntmps127]
 simp only [Tryz.f127,Option.getD_some,aw]
 by_cases hk:k=1
 ·subst hk
  simp only [go_sem]
  refine wW (ι:=Nat) (fun i=>i≤128) (fun i=>⟨0,[(0,.s (.l (.v (.func (.yield l) #[] #[])))),(10,iv i)],[]⟩) (fun i=>((mT i).length,true)) (fun i=>128-i) 0 (by omega) rfl (fun i _ b k hk=>by cases hk) (Wk.renL [] (by simp) (by simp) (by simp) rfl rfl) ?_
  intro i hi
  refine oV (ctx:=[⟨_,wv⟩,⟨_,lY⟩]) 4000 ?_
  by_cases hlt:i<128
  ·have hltI:(i:Int)<128:=by omega
   have h0:(0:Int)≤i:=by omega
   have ei:IntKind.i64.wrap ((i:Int)+1)=((i+1:Nat):Int):=by rw [IntKind.wrap_i64];omega
   by_cases hr:(aV (jV i)).2=0
   ·have hg:=EM hlt hr
    simp only [go_sem,hltI,h0,td,ta,kS,kR,EK,gk,eW,hr,ei]
    refine ⟨?_,i+1,by omega,by omega,?_,Wk.renL [] (by simp) (by simp) (by simp) rfl rfl⟩
    ·rw [show ug 1=mT 128 from rfl,hg];rfl
    ·rw [mT,if_pos hr];simp
   ·simp only [go_sem,hltI,h0,td,ta,kS,kR,EK,gk,eW,hr,ei]
    exact ⟨i+1,by omega,by omega,by rw [mT,if_neg hr];simp,Wk.renL [] (by simp) (by simp) (by simp) rfl rfl⟩
  ·obtain rfl:i=128:=by omega
   simp only [go_sem,List.length_map,show ug 1=mT 128 from rfl]
 ·have ha:ug k=gK k:=by unfold ug;rw [if_neg hk]
  obtain ⟨t,ht⟩:∃ t,gK k=t:=⟨_,rfl⟩
  rw [ha,ht]
  have hlen:t.length≤100:=by
   rw [← ht]
   unfold gK
   repeat' split
   all_goals decide
  by_cases hnil:t=[]
  have e:nJ k=Ia:=by unfold nJ;rw [ht,if_pos hnil]
  simp only [go_sem,hk,qo,qn,e,Ia]
  refine wW (ι:=Nat) (fun i=>i≤t.length) (fun i=>⟨0,[(0,.s (.l (.v (.func (.yield l) #[] #[])))),(30,fV t),(31,iv t.length),(32,iv i)],[]⟩) (fun i=>(i,true)) (fun i=>t.length-i) 0 (Nat.zero_le _) rfl (fun i _ b k hk=>by cases hk) ((Wk.nilD 30 2 rfl).trans (Wk.renL [] (by simp) (by simp) (by simp) (by subst hnil;rfl) rfl)) ?_
  rotate_left
  have e:nJ k=fV t:=by unfold nJ;rw [ht,if_neg hnil]
  simp only [go_sem,hk,qo,qn,e,List.length_map]
  refine wW (ι:=Nat) (fun i=>i≤t.length) (fun i=>⟨0,[(0,.s (.l (.v (.func (.yield l) #[] #[])))),(30,fV t),(31,iv t.length),(32,iv i)],[]⟩) (fun i=>(i,true)) (fun i=>t.length-i) 0 (Nat.zero_le _) rfl (fun i _ b k hk=>by cases hk) (Wk.renL [] (by simp) (by simp) (by simp) rfl rfl) ?_
  all_goals
   intro i hi
   refine oV (ctx:=[]) 4000 ?_
   rcases Nat.lt_or_ge i t.length with hlt | hge
   ·have hltI:(i:Int)<t.length:=by omega
    obtain ⟨r,hr⟩:∃ r,t[i]? = some r:=⟨_,List.getElem?_eq_getElem hlt⟩
    have ei:IntKind.i64.wrap ((i:Int)+1)=((i+1:Nat):Int):=by rw [IntKind.wrap_i64];omega
    simp only [go_sem,hltI,hr,lV,ei]
    exact ⟨rfl,i+1,by omega,by omega,rfl,Wk.renL [] (by simp) (by simp) (by simp) rfl rfl⟩
   ·obtain rfl:i=t.length:=by omega
    have hI:¬(t.length:Int)<t.length:=by omega
    simp only [go_sem,hI]
noncomputable def Jt:It Tryz.prog 127 :=
 mkIt _ _ _ Tryz.func127 rfl rfl (fun _ _=>by go_simp) FC (by
  intro ds q L hd hq l
  unfold FC at hd
  split at hd
  case h_2=>cases hd
  rename_i k
  injection hd with hd
  injection hd with _ hd
  subst hd
  exact ⟨by rw [Tryz.ntmps127];show 1+1≤44;decide,MZ l k⟩)
theorem Ju {k:Int}:Jt.dec [.pd [.v (.int .i64 k)]]=some (True,(ug k).map I8):=rfl
def Ps:bq Tryz.prog 70 :=
 mk1 _ _ _ Tryz.func70 rfl (fun _ _=>by go_simp) (bA .i64) ((fun _=>True)) ((fun k=>.ret (.fn 127 [] [.d (.pd [.v (.int .i64 k)])]))) (by rw [Tryz.ntmps70];decide) (fun k _=>by
 refine ab (ctx:=[]) 4000 ?_
 rw [Tryz.ntmps70,Tryz.results70]
 simp only [Tryz.f70,Option.getD_some,aw]
 simp only [go_sem])
theorem uv {id:Nat} {h:ag} {args:List AV}:(Ps).run id h args=bV (aI (bA .i64) ((fun _=>True))) ((fun k=>.ret (.fn 127 [] [.d (.pd [.v (.int .i64 k)])]))) h args:=rfl
theorem uu {id:Nat} {h:ag} {args:List AV}:(Ps).pan id h args=ca (aI (bA .i64) ((fun _=>True))) ((fun k=>.ret (.fn 127 [] [.d (.pd [.v (.int .i64 k)])]))) h args:=rfl
end Go.Proofs.YthcoegkfpinlfaaGreatDoor
