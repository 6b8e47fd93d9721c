import Derived.Test.YthcoegkfpinlfaaGreatDoorO35
set_option linter.unusedVariables false
set_option linter.unusedSimpArgs false
set_option maxRecDepth 100000
set_option maxHeartbeats 8000000
namespace Go.Proofs.YthcoegkfpinlfaaGreatDoor
section
open Go.RowKit
def stR:KA ByteArray where
 dec:=fun | [.v (.string s)]=>some s | _=>none
 enc:=fun s=>[.v (.string s)]
 inv:=by
  intro c x h
  split at h
  ·injection h with h;subst h;rfl
  ·cases h
 back:=by intro x;rfl
theorem stE (s:ByteArray):stR.enc s=[.v (.string s)]:=rfl
theorem stD (s:ByteArray):stR.dec [.v (.string s)]=some s:=rfl
abbrev D8:Ty (List ByteArray):=tSl 1 stR
def stK (l:List ByteArray):Blk:=⟨true,9,1,(l.map stR.enc).map cf⟩
theorem K3 (x:List ByteArray) (s:ByteArray):(x.map stR.enc).map cf++[[LV.v (.string s)]]=((x++[s]).map stR.enc).map cf:=by rw [List.map_append,List.map_append];rfl
def Ja (l:Nat):AV:=.s (.l (.v (.func (.yield l) #[] #[])))
def L5:Code→Code
 | .seq x y=>match L5 x with
  | .skip=>L5 y
  | z=>z
 | .block _ x=>L5 x
 | .rangeFunc x ps as' bo=>.rangeFunc x ps as' bo
 | _=>.skip
def Vo:List AV→List LV
 | [A]=>(cellsOf A).getD []
 | _=>[]
def X1 (o:OpV):List AV:=[.s (.agg (cf (opE o)))]
def Le (l:List OpV):D:=.sd 15 (l.map opR.enc)
def Wd:List D→Option (Prop×List (List AV))
 | [.pd [.sd 15 els]]=>match fe opR.dec els with
  | some ts=>some (ts.length≤1000000,ts.map X1)
  | none=>none
 | _=>none
theorem XI (l:Nat) (ts:List OpV) (hz:ts.length≤1000000):SWy Tryz.prog l (ts.map X1) ⟨none,0⟩ Tryz.f95.ntmps (Tryz.f95.body.getD .skip) ⟨0,aN 0 [Ja l,.s (.l (.d (.pd [Le ts])))],[]⟩ (0,true) (itQ (ts.map X1)):=by
 refine mj (ctx:=[]) 4000 ?_
 rw [Tryz.ntmps95]
 simp only [Tryz.f95,Option.getD_some,aN]
 simp only [go_sem,Ja,Le]
 refine Ku (ι:=Nat) (fun i=>i≤ts.length) (fun i=>⟨0,[(0,Ja l),(5,mG.enc ts),(6,iv ts.length),(7,iv i)],[]⟩) (fun i=>(i,true)) (fun i=>ts.length-i) 0 (Nat.zero_le _) rfl (fun i _ b k hk=>by cases hk) (Wk.renL [] (by simp) (by simp) (by simp) rfl rfl) ?_
 intro i hi
 refine mj (ctx:=[]) 4000 ?_
 rcases Nat.lt_or_ge i ts.length with hlt | hge
 ·have hltI:(i:Int)<ts.length:=by omega
  obtain ⟨t,ht⟩:∃ t,ts[i]? = some t:=⟨_,List.getElem?_eq_getElem hlt⟩
  have ei:IntKind.i64.wrap ((i:Int)+1)=((i+1:Nat):Int):=by rw [IntKind.wrap_i64];omega
  simp only [go_sem,Ja,hltI,ht,bk,opE,ei]
  exact ⟨rfl,i+1,by omega,by omega,rfl,Wk.renL [] (by simp) (by simp) (by simp) rfl rfl⟩
 ·obtain rfl:i=ts.length:=by omega
  have hI:¬(ts.length:Int)<ts.length:=by omega
  simp only [go_sem,Ja,hI]
noncomputable def QK:It Tryz.prog 95 :=
 mkIt _ _ _ Tryz.func95 rfl rfl (fun _ _=>by go_simp) Wd (by
  intro ds q L hd hq l
  unfold Wd at hd
  split at hd
  case h_2=>cases hd
  rename_i els
  split at hd
  case h_2=>cases hd
  rename_i ts hts
  injection hd with hd
  injection hd with h1 hd
  subst h1
  subst hd
  have he:=C6 opR hts
  subst he
  exact ⟨by rw [Tryz.ntmps95];show 1+1≤16;decide,XI l ts hq⟩)
theorem XE {ts:List OpV}:QK.dec [.pd [Le ts]]=some (ts.length≤1000000,ts.map X1):=by
 have e:QK.dec=Wd:=rfl
 rw [e]
 unfold Wd Le
 simp only [dx]
def Tx:cK Tryz.prog 47 :=
 mk1 _ _ _ Tryz.func47 rfl (fun _ _=>by go_simp) (mG) ((fun _=>True)) ((fun l=>.ret (.fn 95 [] [.d (.pd [Le l])]))) (by rw [Tryz.ntmps47];decide) (fun l _=>by
 refine aC (ctx:=[]) 4000 ?_
 rw [Tryz.ntmps47,Tryz.results47]
 simp only [Tryz.f47,Option.getD_some,aN]
 simp only [go_sem,Le])
theorem XZ {id:Nat} {h:aF} {args:List AV}:(Tx).run id h args=be (aV (mG) ((fun _=>True))) ((fun l=>.ret (.fn 95 [] [.d (.pd [Le l])]))) h args:=rfl
theorem XG {id:Nat} {h:aF} {args:List AV}:(Tx).pan id h args=bi (aV (mG) ((fun _=>True))) ((fun l=>.ret (.fn 95 [] [.d (.pd [Le l])]))) h args:=rfl
def Wr (s:ByteArray):List AV:=[sv s]
def sH (l:List ByteArray):D:=.sd 1 (l.map stR.enc)
def Wm:List D→Option (Prop×List (List AV))
 | [.pd [.sd 1 els]]=>match fe stR.dec els with
  | some ts=>some (ts.length≤1000000,ts.map Wr)
  | none=>none
 | _=>none
theorem XN (l:Nat) (ts:List ByteArray) (hz:ts.length≤1000000):SWy Tryz.prog l (ts.map Wr) ⟨none,0⟩ Tryz.f96.ntmps (Tryz.f96.body.getD .skip) ⟨0,aN 0 [Ja l,.s (.l (.d (.pd [sH ts])))],[]⟩ (0,true) (itQ (ts.map Wr)):=by
 refine mj (ctx:=[]) 4000 ?_
 rw [Tryz.ntmps96]
 simp only [Tryz.f96,Option.getD_some,aN]
 simp only [go_sem,Ja,sH]
 refine Ku (ι:=Nat) (fun i=>i≤ts.length) (fun i=>⟨0,[(0,Ja l),(5,D8.enc ts),(6,iv ts.length),(7,iv i)],[]⟩) (fun i=>(i,true)) (fun i=>ts.length-i) 0 (Nat.zero_le _) rfl (fun i _ b k hk=>by cases hk) (Wk.renL [] (by simp) (by simp) (by simp) rfl rfl) ?_
 intro i hi
 refine mj (ctx:=[]) 4000 ?_
 rcases Nat.lt_or_ge i ts.length with hlt | hge
 ·have hltI:(i:Int)<ts.length:=by omega
  obtain ⟨t,ht⟩:∃ t,ts[i]? = some t:=⟨_,List.getElem?_eq_getElem hlt⟩
  have ei:IntKind.i64.wrap ((i:Int)+1)=((i+1:Nat):Int):=by rw [IntKind.wrap_i64];omega
  simp only [go_sem,Ja,hltI,ht,stE,ei]
  exact ⟨rfl,i+1,by omega,by omega,rfl,Wk.renL [] (by simp) (by simp) (by simp) rfl rfl⟩
 ·obtain rfl:i=ts.length:=by omega
  have hI:¬(ts.length:Int)<ts.length:=by omega
  simp only [go_sem,Ja,hI]
noncomputable def Ru:It Tryz.prog 96 :=
 mkIt _ _ _ Tryz.func96 rfl rfl (fun _ _=>by go_simp) Wm (by
  intro ds q L hd hq l
  unfold Wm at hd
  split at hd
  case h_2=>cases hd
  rename_i els
  split at hd
  case h_2=>cases hd
  rename_i ts hts
  injection hd with hd
  injection hd with h1 hd
  subst h1
  subst hd
  have he:=C6 stR hts
  subst he
  exact ⟨by rw [Tryz.ntmps96];show 1+1≤16;decide,XN l ts hq⟩)
theorem Wz {ts:List ByteArray}:Ru.dec [.pd [sH ts]]=some (ts.length≤1000000,ts.map Wr):=by
 have e:Ru.dec=Wm:=rfl
 rw [e]
 unfold Wm sH
 simp only [dx]
def UQ:cK Tryz.prog 48 :=
 mk1 _ _ _ Tryz.func48 rfl (fun _ _=>by go_simp) (D8) ((fun _=>True)) ((fun l=>.ret (.fn 96 [] [.d (.pd [sH l])]))) (by rw [Tryz.ntmps48];decide) (fun l _=>by
 refine aC (ctx:=[]) 4000 ?_
 rw [Tryz.ntmps48,Tryz.results48]
 simp only [Tryz.f48,Option.getD_some,aN]
 simp only [go_sem,sH])
theorem WP {id:Nat} {h:aF} {args:List AV}:(UQ).run id h args=be (aV (D8) ((fun _=>True))) ((fun l=>.ret (.fn 96 [] [.d (.pd [sH l])]))) h args:=rfl
theorem WW {id:Nat} {h:aF} {args:List AV}:(UQ).pan id h args=bi (aV (D8) ((fun _=>True))) ((fun l=>.ret (.fn 96 [] [.d (.pd [sH l])]))) h args:=rfl
def Lr (o:OpV):Bool:=decide (o.plus.size≤600)&&decide (o.minus.size≤600)
def Oe (l:List OpV):Bool:=if (l.take 20).all Lr=true then decide (l.length≤20) else false
theorem aag {l:List OpV} {i:Nat} {o:OpV} (hi:i<20) (ho:l[i]? = some o) (h:Lr o=false):Oe l=false:=by
 unfold Oe
 rw [if_neg]
 intro hall
 rw [List.all_eq_true] at hall
 have:=hall o (List.mem_of_getElem? (i:=i) (by rw [List.getElem?_take,if_pos hi];exact ho))
 rw [h] at this
 cases this
theorem few_sw (l:List OpV):SW Tryz.prog ⟨none,0⟩ Tryz.f7.ntmps (Tryz.f7.body.getD .skip) ⟨0,aN 0 [mG.enc l],[]⟩ (fa Tryz.prog Tryz.f7.results.toList (.ret (bv (Oe l)))):=by
 refine aC (ctx:=[]) 4000 ?_
 rw [Tryz.ntmps7,Tryz.results7]
 simp only [Tryz.f7,Option.getD_some,aN]
 obtain ⟨m,hm⟩:∃ m,min l.length 20=m:=⟨_,rfl⟩
 have hmI:(if (20:Int)<(l.length:Int) then (20:Int) else (l.length:Int))=(m:Int):=by split<;>omega
 have hml:(m:Int)≤(l.length:Int):=by omega
 have hml2:m≤l.length:=by omega
 have h0m:(0:Int)≤(m:Int):=by omega
 have hx:List.take (m-0) (List.map opR.enc l)=List.map opR.enc (l.take m):=by rw [Nat.sub_zero];exact (List.map_take ..).symm
 have hxl:(l.take m).length=m:=by rw [List.length_take];omega
 simp only [go_sem,hmI,hml,hml2,h0m,hx,Int.toNat_natCast,hxl]
 refine fj (ι:=Nat) (fun i=>i≤m∧∀ j o,j<i→l[j]? = some o→Lr o=true) (fun i=>⟨0,[(0,mG.enc l),(9,mG.enc (l.take m)),(10,iv m),(11,iv i)],[]⟩) (fun i=>m-i) 0 ⟨Nat.zero_le _,fun j o hj=>absurd hj (Nat.not_lt_zero _)⟩ (Wk.renL [] (by simp) (by simp) (by simp) rfl rfl) ?_
 rintro i ⟨hi,hn⟩
 refine aC (ctx:=[]) 4000 ?_
 by_cases hlt:i<m
 ·have hltI:(i:Int)<m:=by omega
  obtain ⟨o,ho⟩:∃ o,l[i]? = some o:=⟨_,List.getElem?_eq_getElem (by omega)⟩
  have ho2:(l.take m)[i]? = some o:=by rw [List.getElem?_take,if_pos hlt];exact ho
  have ei:IntKind.i64.wrap ((i:Int)+1)=((i+1:Nat):Int):=by rw [IntKind.wrap_i64];omega
  by_cases g1:600<o.plus.size
  ·have g1I:(600:Int)<o.plus.size:=by omega
   rw [aag (by omega) ho (by unfold Lr;rw [decide_eq_false (by omega)];rfl)]
   simp only [go_sem,hltI,hlt,hxl,ho2,bk,opE,g1I]
  have g1I:¬(600:Int)<o.plus.size:=by omega
  by_cases g2:600<o.minus.size
  ·have g2I:(600:Int)<o.minus.size:=by omega
   rw [aag (by omega) ho (by unfold Lr;rw [decide_eq_false (show ¬o.minus.size≤600 by omega),Bool.and_false])]
   simp only [go_sem,hltI,hlt,hxl,ho2,bk,opE,g1I,g2I]
  have g2I:¬(600:Int)<o.minus.size:=by omega
  simp only [go_sem,hltI,hlt,hxl,ho2,bk,opE,g1I,g2I,ei]
  exact ⟨i+1,⟨hlt,fun j p hj hp=>by
   by_cases e:j=i
   ·subst e;rw [ho] at hp;injection hp with hp;rw [← hp];unfold Lr;rw [decide_eq_true (by omega),decide_eq_true (by omega)];rfl
   ·exact hn j p (by omega) hp⟩,by omega,Wk.renL [] (by simp) (by simp) (by simp) rfl rfl⟩
 ·obtain rfl:i=m:=by omega
  have hI:¬(i:Int)<i:=by omega
  have hF:Oe l=decide ((l.length:Int)≤20):=by
   unfold Oe
   rw [if_pos]
   ·rw [Bool.eq_iff_iff,decide_eq_true_eq,decide_eq_true_eq];omega
   ·rw [List.all_eq_true]
    intro o ho
    obtain ⟨j,hj,he⟩:=List.mem_iff_getElem.1 ho
    rw [List.length_take] at hj
    rw [List.getElem_take] at he
    exact hn j o (by omega) (by rw [List.getElem?_eq_getElem (by omega),he])
  rw [hF]
  simp only [go_sem,hI]
def fewS:cK Tryz.prog 7 :=
 mk1 _ _ _ Tryz.func7 rfl (fun _ _=>by go_simp) (mG) ((fun _=>True)) ((fun l=>.ret (bv (Oe l)))) (by rw [Tryz.ntmps7];decide) (fun l _=>few_sw l)
theorem VJ {id:Nat} {h:aF} {args:List AV}:(fewS).run id h args=be (aV (mG) ((fun _=>True))) ((fun l=>.ret (bv (Oe l)))) h args:=rfl
theorem Wa {id:Nat} {h:aF} {args:List AV}:(fewS).pan id h args=bi (aV (mG) ((fun _=>True))) ((fun l=>.ret (bv (Oe l)))) h args:=rfl
theorem Zc {α:Type} {a b:List α} {i:Nat} {r q:α} (ha:a[i]? = some r) (hb:b[i]? = some q) (ht:a.take i=b.take i) (h:r=q):a.take (i+1)=b.take (i+1):=by
 rw [List.take_add_one,List.take_add_one,ht,ha,hb,h]
theorem ZA (a b:List ByteArray) (hz:b.length≤1000000):SW Tryz.prog ⟨none,0⟩ Tryz.f18.ntmps (Tryz.f18.body.getD .skip) ⟨0,aN 0 [D8.enc a,D8.enc b],[]⟩ (fa Tryz.prog Tryz.f18.results.toList (.ret (bv (decide (a=b))))):=by
 refine aC (ctx:=[]) 4000 ?_
 rw [Tryz.ntmps18,Tryz.results18]
 simp only [Tryz.f18,Option.getD_some,aN]
 by_cases hl:a.length=b.length
 case neg =>
  have hlI:¬(a.length:Int)=b.length:=by omega
  have hne:¬a=b:=fun h=>hl (by rw [h])
  simp only [go_sem,hlI,hne,decide_false]
 have hlI:(a.length:Int)=b.length:=by omega
 simp only [go_sem,hlI]
 refine fj (ι:=Nat) (fun i=>i≤a.length∧a.take i=b.take i) (fun i=>⟨0,[(0,D8.enc a),(1,D8.enc b),(12,iv b.length),(13,iv i)],[]⟩) (fun i=>a.length-i) 0 ⟨Nat.zero_le _,rfl⟩ (Wk.renL [] (by simp) (by simp) (by simp) rfl rfl) ?_
 rintro i ⟨hi,ht⟩
 refine aC (ctx:=[]) 4000 ?_
 by_cases hlt:i<a.length
 ·have hltI:(i:Int)<b.length:=by omega
  have hb:i<b.length:=by omega
  obtain ⟨r,hr⟩:∃ r,a[i]? = some r:=⟨_,List.getElem?_eq_getElem hlt⟩
  obtain ⟨q,hq⟩:∃ q,b[i]? = some q:=⟨_,List.getElem?_eq_getElem hb⟩
  have ei:IntKind.i64.wrap ((i:Int)+1)=((i+1:Nat):Int):=by rw [IntKind.wrap_i64];omega
  have hba:r≠q→¬a=b:=fun h1 h=>h1 (by rw [h,hq] at hr;injection hr with hr;exact hr.symm)
  simp only [go_sem,hltI]
  refine dc (ctx:=[]) mixed [] (by kernel_rfl) ?_
  by_cases e:r=q
  ·simp only [go_sem,hr,hq,hlt,hb,hltI,hlI,stE,eq_true e,ei]
   exact ⟨i+1,⟨hlt,Zc hr hq ht e⟩,by omega,Wk.renL [] (by simp) (by simp) (by simp) rfl rfl⟩
  ·have hne:=hba e
   simp only [go_sem,hr,hq,hlt,hb,hltI,hlI,stE,e,hne,decide_false]
 ·obtain rfl:i=a.length:=by omega
  have hI:¬(a.length:Int)<b.length:=by omega
  have he:a=b:=by rw [List.take_length,hl,List.take_length] at ht;exact ht
  simp only [go_sem,hI,eq_true he,decide_true]
def TX:cK Tryz.prog 18 :=
 mk2 _ _ _ Tryz.func18 rfl (fun _ _=>by go_simp) (D8) (D8) ((fun _ b=>b.length≤1000000)) ((fun a b=>.ret (bv (decide (a=b))))) (by rw [Tryz.ntmps18];decide) (fun a b hz=>ZA a b hz)
theorem Xm {id:Nat} {h:aF} {args:List AV}:(TX).run id h args=be (bE (D8) (D8) ((fun _ b=>b.length≤1000000))) (fun x=>((fun a b=>.ret (bv (decide (a=b))))) x.1 x.2) h args:=rfl
theorem WJ {id:Nat} {h:aF} {args:List AV}:(TX).pan id h args=bi (bE (D8) (D8) ((fun _ b=>b.length≤1000000))) (fun x=>((fun a b=>.ret (bv (decide (a=b))))) x.1 x.2) h args:=rfl
end
section
open Go.RowKit
def Lx:D→Option (List ByteArray)
 | .sd 1 els=>fe stR.dec els
 | .v (.slice none 0 0)=>some []
 | _=>none
theorem Vg {M:Mem} {d:D} {ts:List ByteArray} {y:Value} (h:Lx d=some ts) (hr:DRep M d y):DRep M (sH ts) y:=by
 unfold Lx at h
 split at h
 ·have he:=C6 stR h
  subst he
  exact hr
 ·injection h with h
  subst h
  simp only [DRep] at hr
  subst hr
  unfold sH
  simp only [List.map_nil,DRep]
  exact ⟨none,0,rfl,Nat.le_refl _,fun h=>absurd rfl h⟩
 ·cases h
def Pw:Ty (List ByteArray) where
 dec:=fun
  | .fn g [] [.d (.pd [d])]=>if g=96 then Lx d else none
  | .s (.l (.d (.fn g [] [.pd [d]])))=>if g=96 then Lx d else none
  | _=>none
 enc:=fun ts=>.s (.l (.d (.fn 96 [] [.pd [sH ts]])))
 ok:=by
  intro A x h ρ al v hr
  have key:∀ {d:D} {y:Value},Lx d=some x→DRep al.M (.pd [d]) y→DRep al.M (.pd [sH x]) y:=by
   intro d y hd hy
   simp only [DRep,DsAt] at hy ⊢
   obtain ⟨blk,off,e,⟨z,h1,h2,h3⟩,h4⟩:=hy
   exact ⟨blk,off,e,⟨z,h1,h2,Vg hd h3⟩,h4⟩
  split at h
  ·split at h
   ·rename_i e
    subst e
    obtain ⟨f,c,e1,e2,e3⟩:=hr
    match f,c,e2,e3 with
    | [],[y],_,⟨h1,h2,_⟩ =>
     show DRep al.M _ _
     simp only [DRep,DsRep]
     exact ⟨[],[y],e1,trivial,h1,key h h2,trivial⟩
   ·cases h
  ·split at h
   ·rename_i e
    subst e
    have hr:DRep al.M _ v:=hr
    simp only [DRep] at hr
    obtain ⟨f,c,e1,e2,e3⟩:=hr
    match f,c,e2,e3 with
    | [],[y],_,h3 =>
     simp only [DsRep] at h3
     show DRep al.M _ _
     simp only [DRep,DsRep]
     exact ⟨[],[y],e1,trivial,h3.1,key h h3.2.1,trivial⟩
   ·cases h
  ·cases h
def RQ (T:TypeId) (n:Int):Blk:=⟨true,T,1,[[.v (.int .i64 n)]]⟩
def tdT (ts:List ByteArray):dy:=[(3,pv 0 0 0),(5,pv 1 0 0),(9,.s (.l (.d (.fn 96 [] [.pd [sH ts]]))))]
def tdC (n:Nat):Blk:=⟨true,44,1,[[.sl 2 0 n]]⟩
def tdH (most:Int) (x:List ByteArray):aF:=[(0,some (RQ 3 most)),(1,some (tdC x.length)),(2,some (stK x))]
theorem told_sw (ts:List ByteArray) (most:Int) (hz:ts.length≤1000000) (hm0:0≤most):SW Tryz.prog ⟨none,0⟩ Tryz.f19.ntmps (Tryz.f19.body.getD .skip) ⟨0,aN 0 [Pw.enc ts,(aR .i64).enc most],[]⟩ (fa Tryz.prog Tryz.f19.results.toList (.ret (D8.enc (ts.take most.toNat)))):=by
 refine aC (ctx:=[]) 4000 ?_
 rw [Tryz.ntmps19,Tryz.results19]
 simp only [Tryz.f19,Option.getD_some,aN]
 have nf:∀ (Q:Exit→St→Prop),(ts.take most.toNat=ts→Q .normal ⟨3,tdT ts,tdH most ts⟩)→(∀ nx,Q (.exit 0) ⟨nx,tdT ts,tdH most (ts.take most.toNat)⟩)→SW Tryz.prog ⟨none,0⟩ 20 (L5 (Tryz.f19.body.getD .skip)) ⟨3,tdT ts,tdH most []⟩ Q:=by
  intro Q hdone hexit
  refine Tv (K':=2) (by decide) (fun j hj=>?_) ?_
  ·have hj':j=0∨j=1:=by omega
   rcases hj' with rfl | rfl<;>exact ⟨_,rfl⟩
  refine Sf (ι:=List ByteArray) (mv:=[(6,10)]) (t:=tdT ts) (fun i x=>x=ts.take i∧(i:Int)≤most) (tdH most) (fun _=>3) (fun c s=>c=.exit 0∧s.h=tdH most (ts.take most.toNat)) Ru Wz hz rfl rfl (by decide) (by decide) (fun As hA=>?_) (QW rfl) (fun i x _=>C3 rfl) (fun c s h=>?_) [] ⟨rfl,hm0⟩ (fun l i x As hinv hA=>?_) (fun x hinv=>?_) (fun c s h=>?_)
  ·obtain ⟨r,_,rfl⟩:=List.mem_map.1 hA
   rfl
  ·rw [h.2]
   exact C3 rfl
  ·obtain ⟨hx,hi⟩:=hinv
   rw [List.getElem?_map,Option.map_eq_some_iff] at hA
   obtain ⟨r,hr,rfl⟩:=hA
   have hil:=(List.getElem?_eq_some_iff.1 hr).1
   have hxl:x.length=i:=by rw [hx,List.length_take];omega
   have hx':ts.take (i+1)=x++[r]:=by rw [List.take_add_one,hr,hx];rfl
   refine aC (ctx:=[]) 4000 ?_
   by_cases hge:most≤(x.length:Int)
   ·have hmi:most.toNat=i:=by omega
    simp only [go_sem,LP,Dh,Wr,tdT,tdH,tdC,RQ,stK,List.zip_cons_cons,List.zip_nil_left,List.foldl_cons,List.foldl_nil,hge]
    have hxt:ts.take most.toNat=x:=by rw [hmi,hx]
    rw [hxt]
   ·have hm1:x.length+1≤maxLen:=by unfold maxLen;omega
    have hb1:(x.length+1)*16≤140737488355328:=by omega
    have hsn:=K3 x r
    simp only [go_sem,LP,Dh,Wr,tdT,tdH,tdC,RQ,stK,List.zip_cons_cons,List.zip_nil_left,List.foldl_cons,List.foldl_nil,hge,hm1,hb1,hsn]
    refine ⟨x++[r],⟨hx'.symm,by omega⟩,Wk.renL [0,1,115] (fun j hj=>?_) (Nat.le_refl 3) (by decide) rfl (by simp only [hget,Nat.reduceEqDiff,if_false,if_true,List.map_cons,List.map_nil,Option.map_some,List.getD_eq_getElem?_getD,List.getElem?_cons_zero,List.getElem?_cons_succ,Option.getD_some,Blk.ren,dz,List.length_append,List.length_cons,List.length_nil];rfl)⟩
    have hj':j=0∨j=1:=by have:j<2:=hj;omega
    rcases hj' with rfl | rfl<;>rfl
  ·obtain ⟨hx,hi⟩:=hinv
   rw [List.length_map] at hx hi
   rw [List.take_length] at hx
   subst hx
   exact hdone (List.take_of_length_le (by omega))
  ·obtain ⟨rfl,h2⟩:=h
   obtain ⟨nx,t,hp⟩:=s
   simp only at h2
   subst h2
   exact Y8 (hexit nx)
 have kt:kT Tryz.prog 49=3:=by kernel_rfl
 simp only [go_sem,Pw,kt,sH]
 refine SW.wk (nf _ (fun he=>?_) (fun nx=>?_)) ((Wk.nilC 32 0 9 1 (k:=⟨true,44,1,[[.v (.slice none 0 0)]]⟩) rfl rfl rfl).trans (Wk.renL [0,32,96] (by simp) (Nat.le_refl 3) (by decide) rfl rfl))
 ·rw [he]
  simp only [go_sem,tdT,tdH,tdC,RQ,stK]
 ·obtain ⟨x,hx⟩:∃ x,ts.take most.toNat=x:=⟨_,rfl⟩
  rw [hx]
  simp only [go_sem,tdT,tdH,tdC,RQ,stK]
def ZP:cK Tryz.prog 19 :=
 mk2 _ _ _ Tryz.func19 rfl (fun _ _=>by go_simp) (Pw) (aR .i64) ((fun ts most=>ts.length≤1000000∧0≤most)) ((fun ts most=>.ret (D8.enc (ts.take most.toNat)))) (by rw [Tryz.ntmps19];decide) (fun ts most h=>told_sw ts most h.1 h.2)
theorem Z7 {id:Nat} {h:aF} {args:List AV}:(ZP).run id h args=be (bE (Pw) (aR .i64) ((fun ts most=>ts.length≤1000000∧0≤most))) (fun x=>((fun ts most=>.ret (D8.enc (ts.take most.toNat)))) x.1 x.2) h args:=rfl
theorem aac {id:Nat} {h:aF} {args:List AV}:(ZP).pan id h args=bi (bE (Pw) (aR .i64) ((fun ts most=>ts.length≤1000000∧0≤most))) (fun x=>((fun ts most=>.ret (D8.enc (ts.take most.toNat)))) x.1 x.2) h args:=rfl
end
section
open Go.RowKit
def LH (s:ByteArray):List ByteArray:=if s=emp then [] else [s]
def NQ (o:OpV):List ByteArray:=if iS o=0 then LH o.plus++LH o.minus else []
def kZ (l:List OpV):List ByteArray:=l.flatMap NQ
theorem On {l:List OpV} {i:Nat} {o:OpV} (h:l[i]? = some o):kZ (l.take (i+1))=kZ (l.take i)++NQ o:=by
 unfold kZ
 rw [List.take_add_one,h,List.flatMap_append]
 simp
theorem aal (o:OpV):(NQ o).length≤2:=by
 unfold NQ LH
 repeat' split
 all_goals simp
theorem Jz:∀ l:List OpV,(kZ l).length≤2*l.length
 | []=>by simp [kZ]
 | o::l=>by
  have h1:=aal o
  have h2:=Jz l
  unfold kZ at h2 ⊢
  rw [List.flatMap_cons,List.length_append,List.length_cons]
  omega
def syT (l:List OpV):dy:=[(3,pv 0 0 0),(8,.s (.l (.d (.fn 95 [] [.pd [Le l]]))))]
def syC (n:Nat):Blk:=⟨true,44,1,[[.sl 1 0 n]]⟩
def syH (x:List ByteArray):aF:=[(0,some (syC x.length)),(1,some (stK x))]
def syE (l:List OpV) (x:List ByteArray) (As:List AV):St:=⟨3,(4,pv 2 0 0)::Dh ([9].zip As) (syT l),(2,some ⟨true,38,15,[Vo As]⟩)::syH x⟩
def Ki (o:OpV) (i:Nat):List ByteArray:=if i=0 then [] else if i=1 then LH o.plus else LH o.plus++LH o.minus
def syJ (l:List OpV) (o:OpV) (p:Nat×List ByteArray):St:=⟨3,(19,.s (.l (.sl 2 0 2)))::(20,iv 2)::(21,iv p.1)::syT l,(2,some ⟨true,9,1,[[.v (.string o.plus)],[.v (.string o.minus)]]⟩)::syH p.2⟩
theorem TJ (l:List OpV) (hl:l.length≤1000000) (hO:∀ o∈l,okO o):SW Tryz.prog ⟨none,0⟩ Tryz.f20.ntmps (Tryz.f20.body.getD .skip) ⟨0,aN 0 [mG.enc l],[]⟩ (fa Tryz.prog Tryz.f20.results.toList (.ret (.fn 96 [] [.d (.pd [sH (kZ l)])]))):=by
 refine aC (ctx:=[⟨_,Tx⟩,⟨_,UQ⟩]) 4000 ?_
 rw [Tryz.ntmps20,Tryz.results20]
 simp only [Tryz.f20,Option.getD_some,aN]
 have nf:∀ (Q:Exit→St→Prop),Q .normal ⟨2,syT l,syH (kZ l)⟩→SW Tryz.prog ⟨none,0⟩ 34 (L5 (Tryz.f20.body.getD .skip)) ⟨2,syT l,syH []⟩ Q:=by
  intro Q hdone
  refine Tv (K':=1) (by decide) (fun j hj=>?_) ?_
  ·have hj':j=0:=by omega
   subst hj'
   exact ⟨_,rfl⟩
  refine P3 (ι:=List ByteArray) (t:=syT l) (syE l) (fun i x=>x=kZ (l.take i)) syH (fun _=>2) (fun c s=>False) QK XE hl rfl (fun x As hA=>?_) (by decide) (fun As hA=>?_) (QW rfl) (fun i x _=>C3 rfl) (fun c s h=>h.elim) [] rfl (fun l' i x As hinv hA=>?_) (fun x hinv=>?_) (fun c s h=>h.elim)
  ·obtain ⟨r,_,rfl⟩:=List.mem_map.1 hA
   exact asg_box (T:=38) (tb:=4) (tp:=9) rfl (by decide) (xs:=cf (opE r)) rfl ma DX rfl
  ·obtain ⟨r,_,rfl⟩:=List.mem_map.1 hA
   rfl
  ·rw [List.getElem?_map,Option.map_eq_some_iff] at hA
   obtain ⟨o,ho,rfl⟩:=hA
   have hok:=hO o (List.mem_of_getElem? ho)
   have hil:=(List.getElem?_eq_some_iff.1 ho).1
   have hstep:x++NQ o=kZ (l.take (i+1)):=by rw [On ho,hinv]
   have hxl:x.length≤2000000:=by
    have:=Jz (l.take i)
    rw [hinv]
    rw [List.length_take] at this
    omega
   refine aC (ctx:=[⟨_,WU⟩]) 4000 ?_
   by_cases hc:iS o=0
   case neg =>
    have e:x=kZ (l.take (i+1)):=by rw [← hstep];unfold NQ;rw [if_neg hc,List.append_nil]
    simp only [go_sem,syE,syT,syH,syC,stK,X1,opE,Vo,Dh,List.zip_cons_cons,List.zip_nil_left,List.foldl_cons,List.foldl_nil,opD,bU,bT,mw,mr,hok,hc]
    rw [← e]
    exact Wk.renL [0,1] (fun j hj=>by
     obtain rfl:j=0:=by have:j<1:=hj;omega
     rfl) (Nat.le_refl 2) (by decide) rfl (by simp only [hget,Nat.reduceEqDiff,if_false,if_true,List.map_cons,List.map_nil,Option.map_some,List.getD_eq_getElem?_getD,List.getElem?_cons_zero,List.getElem?_cons_succ,Option.getD_some,Blk.ren,dz];rfl)
   simp only [go_sem,syE,syT,syH,syC,stK,X1,opE,Vo,Dh,List.zip_cons_cons,List.zip_nil_left,List.foldl_cons,List.foldl_nil,opD,bU,bT,mw,mr,hok,eq_true hc]
   have hp0:∀ (L:List Nat) (nx j:Nat),j<1→(0::L)[j]? = some j:=fun L nx j hj=>by
    obtain rfl:j=0:=by omega
    rfl
   refine fj (ι:=Nat×List ByteArray) (fun p=>p.1≤2∧p.2=x++Ki o p.1) (syJ l o) (fun p=>2-p.1) (0,x) ⟨Nat.zero_le _,(List.append_nil x).symm⟩ (Wk.renL [0,1,147] (hp0 _ 0) (Nat.le_refl 3) (by decide) rfl (by simp only [syJ,syH,syC,stK,hget,Nat.reduceEqDiff,if_false,if_true,List.map_cons,List.map_nil,Option.map_some,List.getD_eq_getElem?_getD,List.getElem?_cons_zero,List.getElem?_cons_succ,Option.getD_some,Blk.ren,dz];rfl)) ?_
   rintro ⟨k,y⟩ ⟨hk,hy⟩
   simp only at hk hy
   have hyl:y.length≤2000002:=by
    have:(Ki o k).length≤2:=by
     unfold Ki LH
     repeat' split
     all_goals simp
    rw [hy,List.length_append]
    omega
   have hm1:y.length+1≤maxLen:=by unfold maxLen;omega
   have hb1:(y.length+1)*16≤140737488355328:=by omega
   refine aC (ctx:=[]) 4000 ?_
   have e01:IntKind.i64.wrap ((0:Int)+1)=((1:Nat):Int):=rfl
   have e12:IntKind.i64.wrap ((1:Int)+1)=((2:Nat):Int):=rfl
   have hk':k=0∨k=1∨k=2:=by omega
   rcases hk' with rfl | rfl | rfl
   ·by_cases e:o.plus=emp
    ·have hy1:y=x++Ki o 1:=by rw [hy];unfold Ki LH;rw [if_pos rfl,if_neg (by decide),if_pos rfl,if_pos e]
     simp only [go_sem,syJ,syT,syH,syC,stK,aS,e,e01]
     exact ⟨(1,y),⟨by show 1≤2;decide,hy1⟩,by show 2-1<2;decide,Wk.renL [0,1,2] (hp0 _ 0) (Nat.le_refl 3) (by decide) rfl (by simp only [hget,Nat.reduceEqDiff,if_false,if_true,List.map_cons,List.map_nil,Option.map_some,List.getD_eq_getElem?_getD,List.getElem?_cons_zero,List.getElem?_cons_succ,Option.getD_some,Blk.ren,dz,List.length_append,List.length_cons,List.length_nil];rfl)⟩
    ·have hy1:y++[o.plus]=x++Ki o 1:=by rw [hy];unfold Ki LH;rw [if_pos rfl,if_neg (by decide),if_pos rfl,if_neg e,List.append_nil]
     have hsn:=K3 y o.plus
     simp only [go_sem,syJ,syT,syH,syC,stK,aS,e,hm1,hb1,hsn,e01]
     exact ⟨(1,y++[o.plus]),⟨by show 1≤2;decide,hy1⟩,by show 2-1<2;decide,Wk.renL [0,147,2] (hp0 _ 0) (Nat.le_refl 3) (by decide) rfl (by simp only [hget,Nat.reduceEqDiff,if_false,if_true,List.map_cons,List.map_nil,Option.map_some,List.getD_eq_getElem?_getD,List.getElem?_cons_zero,List.getElem?_cons_succ,Option.getD_some,Blk.ren,dz,List.length_append,List.length_cons,List.length_nil];rfl)⟩
   ·by_cases e:o.minus=emp
    ·have hy1:y=x++Ki o 2:=by rw [hy];unfold Ki LH;rw [if_neg (show ¬(1:Nat)=0 by decide),if_pos rfl,if_neg (show ¬(2:Nat)=0 by decide),if_neg (show ¬(2:Nat)=1 by decide),if_pos e,List.append_nil]
     simp only [go_sem,syJ,syT,syH,syC,stK,aS,e,e12]
     exact ⟨(2,y),⟨Nat.le_refl 2,hy1⟩,by show 2-2<1;decide,Wk.renL [0,1,2] (hp0 _ 0) (Nat.le_refl 3) (by decide) rfl (by simp only [hget,Nat.reduceEqDiff,if_false,if_true,List.map_cons,List.map_nil,Option.map_some,List.getD_eq_getElem?_getD,List.getElem?_cons_zero,List.getElem?_cons_succ,Option.getD_some,Blk.ren,dz,List.length_append,List.length_cons,List.length_nil];rfl)⟩
    ·have hy1:y++[o.minus]=x++Ki o 2:=by rw [hy];unfold Ki LH;rw [if_neg (show ¬(1:Nat)=0 by decide),if_pos rfl,if_neg (show ¬(2:Nat)=0 by decide),if_neg (show ¬(2:Nat)=1 by decide),if_neg e,List.append_assoc]
     have hsn:=K3 y o.minus
     simp only [go_sem,syJ,syT,syH,syC,stK,aS,e,hm1,hb1,hsn,e12]
     exact ⟨(2,y++[o.minus]),⟨Nat.le_refl 2,hy1⟩,by show 2-2<1;decide,Wk.renL [0,147,2] (hp0 _ 0) (Nat.le_refl 3) (by decide) rfl (by simp only [hget,Nat.reduceEqDiff,if_false,if_true,List.map_cons,List.map_nil,Option.map_some,List.getD_eq_getElem?_getD,List.getElem?_cons_zero,List.getElem?_cons_succ,Option.getD_some,Blk.ren,dz,List.length_append,List.length_cons,List.length_nil];rfl)⟩
   ·have e:y=kZ (l.take (i+1)):=by
     rw [hy,← hstep]
     unfold Ki NQ
     rw [if_neg (by decide),if_neg (by decide),if_pos hc]
    simp only [go_sem,syJ,syT,syH,syC,stK]
    rw [← e]
    exact Wk.renL [0,1] (hp0 _ 0) (Nat.le_refl 2) (by decide) rfl (by simp only [hget,Nat.reduceEqDiff,if_false,if_true,List.map_cons,List.map_nil,Option.map_some,List.getD_eq_getElem?_getD,List.getElem?_cons_zero,List.getElem?_cons_succ,Option.getD_some,Blk.ren,dz,List.length_append,List.length_cons,List.length_nil];rfl)
  ·rw [hinv,List.length_map,List.take_length]
   exact hdone
 simp only [go_sem,XZ,XG,Le]
 refine SW.wk (nf _ ?_) ((Wk.fnD (s:=⟨_,_,_⟩) 8 rfl rfl rfl).trans ((Wk.nilC 16 0 9 1 (k:=⟨true,44,1,[[.v (.slice none 0 0)]]⟩) rfl rfl rfl).trans (Wk.renL [16,64] (by simp) (Nat.le_refl 2) (by decide) rfl rfl)))
 simp only [go_sem,syT,syH,syC,stK,WP,WW]
def OP:cK Tryz.prog 20 :=
 mk1 _ _ _ Tryz.func20 rfl (fun _ _=>by go_simp) (mG) ((fun l=>l.length≤1000000∧∀ o∈l,okO o)) ((fun l=>.ret (.fn 96 [] [.d (.pd [sH (kZ l)])]))) (by rw [Tryz.ntmps20];decide) (fun l h=>TJ l h.1 h.2)
theorem ST {id:Nat} {h:aF} {args:List AV}:(OP).run id h args=be (aV (mG) ((fun l=>l.length≤1000000∧∀ o∈l,okO o))) ((fun l=>.ret (.fn 96 [] [.d (.pd [sH (kZ l)])]))) h args:=rfl
theorem SY {id:Nat} {h:aF} {args:List AV}:(OP).pan id h args=bi (aV (mG) ((fun l=>l.length≤1000000∧∀ o∈l,okO o))) ((fun l=>.ret (.fn 96 [] [.d (.pd [sH (kZ l)])]))) h args:=rfl
end
end Go.Proofs.YthcoegkfpinlfaaGreatDoor
