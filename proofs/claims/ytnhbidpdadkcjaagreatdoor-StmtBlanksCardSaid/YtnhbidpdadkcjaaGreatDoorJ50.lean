import Derived.Test.YtnhbidpdadkcjaaGreatDoorJ49
set_option linter.unusedVariables false
set_option linter.unusedSimpArgs false
set_option maxRecDepth 100000
set_option maxHeartbeats 8000000
namespace Go.Proofs.YtnhbidpdadkcjaaGreatDoor
section
open Go.RowKit
theorem Ho (s:StV) (hs:s.name.size≤maxLen):SW Tryz.prog ⟨none,0⟩ Tryz.f59.ntmps (Tryz.f59.body.getD .skip) ⟨0,aC 0 [lh.enc s],[]⟩ (es Tryz.prog Tryz.f59.results.toList (.ret (bv (bG s)))):=by
 refine aa (ctx:=[⟨_,Ly.nameS⟩,⟨_,lW⟩]) 4000 ?_
 rw [Tryz.ntmps59,Tryz.results59]
 simp only [Tryz.f59,Option.getD_some,aC]
 simp only [go_sem,dt,bN]
 refine bI (ctx:=[]) mixed [] (by kernel_rfl) ?_
 by_cases k1:s.kind=1
 ·cases hn:fI (ab s.name) with
  | false =>
   have e:bG s=false:=by unfold bG;rw [if_pos k1];rw [hn];rfl
   simp only [go_sem,bN,List.length_map,Ly.name_run,Ly.name_pan,bt,br,hs,eq_true k1,hn,e]
  | true =>
   cases hp:cM s.name (⟨#[46]⟩:ByteArray) with
   | false =>
    have e:bG s=true:=by unfold bG;rw [if_pos k1];rw [hn,show cM s.name tk=false from hp];rfl
    simp only [go_sem,bN,List.length_map,Ly.name_run,Ly.name_pan,bt,br,hs,eq_true k1,hn,hp,e]
   | true =>
    have e:bG s=false:=by unfold bG;rw [if_pos k1];rw [hn,show cM s.name tk=true from hp];rfl
    simp only [go_sem,bN,List.length_map,Ly.name_run,Ly.name_pan,bt,br,hs,eq_true k1,hn,hp,e]
 by_cases k2:s.kind=2
 ·by_cases n1:s.names.length=1
  ·have n2:((s.names.length:Int)=1)=True:=eq_true (by omega)
   have b1:((s.names.length:Int)==1)=true:=beq_iff_eq.2 (by omega)
   have e:bG s=true:=by unfold bG;rw [if_neg k1];rw [if_pos k2];exact decide_eq_true n1
   simp only [go_sem,bN,List.length_map,Ly.name_run,Ly.name_pan,bt,br,hs,k1,eq_true k2,n2,b1,e]
  ·have n2:¬((s.names.length:Int)=1):=by omega
   have b1:((s.names.length:Int)==1)=false:=beq_eq_false_iff_ne.2 (by omega)
   have e:bG s=false:=by unfold bG;rw [if_neg k1];rw [if_pos k2];exact decide_eq_false n1
   simp only [go_sem,bN,List.length_map,Ly.name_run,Ly.name_pan,bt,br,hs,k1,eq_true k2,n2,b1,e]
 by_cases k3:s.kind=3
 ·by_cases n1:0<s.names.length
  ·have n2:((0:Int)<s.names.length)=True:=eq_true (by omega)
   have e:bG s=true:=by unfold bG;rw [if_neg k1];rw [if_neg k2];rw [if_pos k3];exact decide_eq_true n1
   simp only [go_sem,bN,List.length_map,Ly.name_run,Ly.name_pan,bt,br,hs,k1,k2,eq_true k3,n2,e]
  ·have n2:¬((0:Int)<s.names.length):=by omega
   have e:bG s=false:=by unfold bG;rw [if_neg k1];rw [if_neg k2];rw [if_pos k3];exact decide_eq_false n1
   simp only [go_sem,bN,List.length_map,Ly.name_run,Ly.name_pan,bt,br,hs,k1,k2,eq_true k3,n2,e]
 by_cases k4:s.kind=4
 ·by_cases n1:s.vals.length=1
  ·have n2:((s.vals.length:Int)=1)=True:=eq_true (by omega)
   have b1:((s.vals.length:Int)==1)=true:=beq_iff_eq.2 (by omega)
   have e:bG s=true:=by unfold bG;rw [if_neg k1];rw [if_neg k2];rw [if_neg k3];rw [if_pos k4];exact decide_eq_true n1
   simp only [go_sem,bN,List.length_map,Ly.name_run,Ly.name_pan,bt,br,hs,k1,k2,k3,eq_true k4,n2,b1,e]
  ·have n2:¬((s.vals.length:Int)=1):=by omega
   have b1:((s.vals.length:Int)==1)=false:=beq_eq_false_iff_ne.2 (by omega)
   have e:bG s=false:=by unfold bG;rw [if_neg k1];rw [if_neg k2];rw [if_neg k3];rw [if_pos k4];exact decide_eq_false n1
   simp only [go_sem,bN,List.length_map,Ly.name_run,Ly.name_pan,bt,br,hs,k1,k2,k3,eq_true k4,n2,b1,e]
 by_cases k5:s.kind=5
 ·by_cases n1:0<s.vals.length
  case neg =>
   have n2:¬(0:Int)<s.vals.length:=by omega
   have e:bG s=false:=by unfold bG;rw [if_neg k1];rw [if_neg k2];rw [if_neg k3];rw [if_neg k4];rw [if_pos k5];rw [decide_eq_false n1];rfl
   simp only [go_sem,bN,List.length_map,Ly.name_run,Ly.name_pan,bt,br,hs,k1,k2,k3,k4,eq_true k5,n2,e]
  have n2:((0:Int)<s.vals.length)=True:=eq_true (by omega)
  by_cases z1:s.size=1
  ·skip
   have e:bG s=true:=by unfold bG;rw [if_neg k1];rw [if_neg k2];rw [if_neg k3];rw [if_neg k4];rw [if_pos k5];rw [decide_eq_true n1,decide_eq_true (.inl z1)];rfl
   simp only [go_sem,bN,List.length_map,Ly.name_run,Ly.name_pan,bt,br,hs,k1,k2,k3,k4,eq_true k5,n2,eq_true z1,e]
  by_cases z4:s.size=4
  ·skip
   have e:bG s=true:=by unfold bG;rw [if_neg k1];rw [if_neg k2];rw [if_neg k3];rw [if_neg k4];rw [if_pos k5];rw [decide_eq_true n1,decide_eq_true (.inr (.inl z4))];rfl
   simp only [go_sem,bN,List.length_map,Ly.name_run,Ly.name_pan,bt,br,hs,k1,k2,k3,k4,eq_true k5,n2,z1,eq_true z4,e]
  by_cases z8:s.size=8
  ·skip
   have b4:(s.size==8)=true:=beq_iff_eq.2 (by omega)
   have e:bG s=true:=by unfold bG;rw [if_neg k1];rw [if_neg k2];rw [if_neg k3];rw [if_neg k4];rw [if_pos k5];rw [decide_eq_true n1,decide_eq_true (.inr (.inr z8))];rfl
   simp only [go_sem,bN,List.length_map,Ly.name_run,Ly.name_pan,bt,br,hs,k1,k2,k3,k4,eq_true k5,n2,z1,z4,eq_true z8,b4,e]
  have b4:(s.size==8)=false:=beq_eq_false_iff_ne.2 (by omega)
  have e:bG s=false:=by unfold bG;rw [if_neg k1];rw [if_neg k2];rw [if_neg k3];rw [if_neg k4];rw [if_pos k5];rw [decide_eq_true n1,decide_eq_false (by rintro (h | h | h);exact z1 h;exact z4 h;exact z8 h)];rfl
  simp only [go_sem,bN,List.length_map,Ly.name_run,Ly.name_pan,bt,br,hs,k1,k2,k3,k4,eq_true k5,n2,z1,z4,z8,b4,e]
 by_cases k7:s.kind=7
 ·by_cases n1:s.names.length=1
  case neg =>
   have n2:¬(s.names.length:Int)=1:=by omega
   have e:bG s=false:=by unfold bG;rw [if_neg k1];rw [if_neg k2];rw [if_neg k3];rw [if_neg k4];rw [if_neg k5];rw [if_pos k7];rw [decide_eq_false n1];rfl
   simp only [go_sem,bN,List.length_map,Ly.name_run,Ly.name_pan,bt,br,hs,k1,k2,k3,k4,k5,eq_true k7,n2,e]
  have n2:((s.names.length:Int)=1)=True:=eq_true (by omega)
  by_cases v1:s.vals.length=1
  ·have v2:((s.vals.length:Int)=1)=True:=eq_true (by omega)
   have b2:((s.vals.length:Int)==1)=true:=beq_iff_eq.2 (by omega)
   have e:bG s=true:=by unfold bG;rw [if_neg k1];rw [if_neg k2];rw [if_neg k3];rw [if_neg k4];rw [if_neg k5];rw [if_pos k7];rw [decide_eq_true n1,decide_eq_true v1];rfl
   simp only [go_sem,bN,List.length_map,Ly.name_run,Ly.name_pan,bt,br,hs,k1,k2,k3,k4,k5,eq_true k7,n2,v2,b2,e]
  ·have v2:¬(s.vals.length:Int)=1:=by omega
   have b2:((s.vals.length:Int)==1)=false:=beq_eq_false_iff_ne.2 (by omega)
   have e:bG s=false:=by unfold bG;rw [if_neg k1];rw [if_neg k2];rw [if_neg k3];rw [if_neg k4];rw [if_neg k5];rw [if_pos k7];rw [decide_eq_true n1,decide_eq_false v1];rfl
   simp only [go_sem,bN,List.length_map,Ly.name_run,Ly.name_pan,bt,br,hs,k1,k2,k3,k4,k5,eq_true k7,n2,v2,b2,e]
 have e:bG s=true:=by unfold bG;rw [if_neg k1,if_neg k2,if_neg k3,if_neg k4,if_neg k5,if_neg k7]
 simp only [go_sem,bN,List.length_map,Ly.name_run,Ly.name_pan,bt,br,hs,k1,k2,k3,k4,k5,k7,e]
def AB:bi Tryz.prog 59 :=
 mk1 _ _ _ Tryz.func59 rfl (fun _ _=>by go_simp) (lh) ((fun s=>s.name.size≤maxLen)) ((fun s=>.ret (bv (bG s)))) (by rw [Tryz.ntmps59];decide) (fun s h=>Ho s h)
theorem mK {id:Nat} {h:ah} {args:List AV}:(AB).run id h args=bT (ba (lh) ((fun s=>s.name.size≤maxLen))) ((fun s=>.ret (bv (bG s)))) h args:=rfl
theorem mJ {id:Nat} {h:ah} {args:List AV}:(AB).pan id h args=bU (ba (lh) ((fun s=>s.name.size≤maxLen))) ((fun s=>.ret (bv (bG s)))) h args:=rfl
end
section
open Go.RowKit
structure vW (s:StV):Prop where
 labels:s.labels.length≤1000000
 labelT:∀ n∈s.labels,n.size≤1099511627776
 name:s.name.size≤1099511627776
 opers:s.opers.length≤1000000
 operT:∀ o∈s.opers,okO o
 names:s.names.length≤1000000
 nameT:∀ n∈s.names,n.size≤1099511627776
 vals:s.vals.length≤1000000
 valT:∀ v∈s.vals,gW v
 bytes:∀ z∈s.bytes,0≤z∧z≤255
 byteT:s.bytes.length≤1000000
theorem EB {n:Nat} (h:n≤1099511627776):n≤maxLen:=by unfold maxLen;omega
theorem Oc (l:List ByteArray):l.any (qt 56) = !l.all gV:=by
 induction l with
 | nil=>rfl
 | cons x r ih=>rw [List.any_cons,List.all_cons,ih,Bool.not_and];rfl
theorem Od (l:List ByteArray):l.any (qt 53) = !l.all fun n=>fI (ab n):=by
 induction l with
 | nil=>rfl
 | cons x r ih=>rw [List.any_cons,List.all_cons,ih,Bool.not_and];rfl
theorem FR {l:List Val} {i:Nat} {v:Val} (h:l[i]? = some v):mg (l.drop i)=if (Ex.printF v).2=0 then mg (l.drop (i+1)) else (Ex.printF v).2:=by
 obtain ⟨h1,h2⟩:=List.getElem?_eq_some_iff.1 h
 rw [List.drop_eq_getElem_cons h1,h2]
 rfl
def MU (s:StV) (i:Nat):St:=⟨1,[(1,pv 0 0 0),(57,zW.enc s.vals),(58,iv s.vals.length),(59,iv i)],bB 0 [eE s]⟩
theorem Jf (s:StV) (H:vW s) (hx:e7 s=if ¬mg s.vals=0 then mg s.vals else sA s.opers):SW Tryz.prog ⟨none,0⟩ 82 (oX (Tryz.f22.body.getD .skip)) ⟨1,[(1,pv 0 0 0)],bB 0 [eE s]⟩ (es Tryz.prog Tryz.f22.results.toList (.ret (iv (e7 s)))):=by
 rw [Tryz.results22]
 simp only [Tryz.f22,Option.getD_some,oX]
 refine iU (aa (ctx:=[]) 4000 ?_)
 simp only [go_sem,eE,bN]
 refine aa (ctx:=[]) 4000 ?_
 simp only [go_sem]
 refine cW (ι:=Nat) (fun i=>i≤s.vals.length∧mg (s.vals.drop i)=mg s.vals) (MU s) (fun i=>s.vals.length-i) 0 ⟨Nat.zero_le _,rfl⟩ (Wk.renL [0] (by simp) (Nat.le_refl 1) (by decide) (by simp only [MU,List.map_cons,List.map_nil,List.length_map];rfl) rfl) ?_
 rintro i ⟨hi,ht⟩
 unfold MU
 refine aa (ctx:=[⟨_,uI⟩,⟨_,uX⟩,⟨_,lW⟩]) 4000 ?_
 have hz:=H.vals
 by_cases hlt:i<s.vals.length
 ·have hltI:(i:Int)<s.vals.length:=by omega
  obtain ⟨v,hv⟩:∃ v,s.vals[i]? = some v:=⟨_,List.getElem?_eq_getElem hlt⟩
  have hok:=H.valT v (List.mem_of_getElem? hv)
  have ei:IntKind.i64.wrap ((i:Int)+1)=((i+1:Nat):Int):=by rw [IntKind.wrap_i64];omega
  rw [FR hv] at ht
  rcases hp:Ex.printF v with ⟨t,z⟩
  rw [hp] at ht
  by_cases z0:z=0
  ·subst z0
   rw [if_pos rfl] at ht
   simp only [go_sem,me,hltI,hlt,hv,v7,gJ,jh,jg,hok,hp,ii,ei]
   exact ⟨i+1,⟨hlt,ht⟩,by omega,Wk.renL [0] (by simp) (Nat.le_refl 1) (by decide) rfl rfl⟩
  ·rw [if_neg z0] at ht
   have e:e7 s=z:=by rw [hx,← ht,if_pos z0]
   simp only [go_sem,me,hltI,hlt,hv,v7,gJ,jh,jg,hok,hp,ii,z0,e]
 obtain rfl:i=s.vals.length:=by omega
 have hI:¬(s.vals.length:Int)<s.vals.length:=by omega
 have hv0:mg s.vals=0:=by rw [← ht,List.drop_length];rfl
 rw [hv0,if_neg (by simp)] at hx
 have hO:=H.operT
 have hO2:=H.opers
 rcases hT:gl s.opers with ⟨t,z⟩
 cases hp:cM t (⟨#[58]⟩:ByteArray) with
 | true =>
  have e:e7 s=110:=by rw [hx];unfold sA;rw [hT,if_pos (show cM t gy=true from hp)]
  simp only [go_sem,me,hI]
  refine aa (ctx:=[⟨_,uX⟩,⟨_,lW⟩]) 4000 ?_
  simp only [go_sem,eE,bN,uZ,uY,ac,hO2,hT,nu,bt,br,hp,e]
  exact hO
 | false =>
  have e:e7 s=z:=by rw [hx];unfold sA;rw [hT,if_neg (by rw [show cM t gy=false from hp];simp)]
  simp only [go_sem,me,hI]
  refine aa (ctx:=[⟨_,uX⟩,⟨_,lW⟩]) 4000 ?_
  simp only [go_sem,eE,bN,uZ,uY,ac,hO2,hT,nu,bt,br,hp,e]
  exact hO
theorem PP (s:StV) (H:vW s):SW Tryz.prog ⟨none,0⟩ Tryz.f22.ntmps (Tryz.f22.body.getD .skip) ⟨0,aC 0 [lh.enc s],[]⟩ (es Tryz.prog Tryz.f22.results.toList (.ret (iv (e7 s)))):=by
 have tail:=Jf s H
 rw [Tryz.ntmps22]
 rw [Tryz.results22] at tail ⊢
 simp only [Tryz.f22,Option.getD_some,aC,oX] at tail ⊢
 refine iU (aa (ctx:=[]) 4000 ?_)
 simp only [go_sem,dt,bN]
 refine iU (aa (ctx:=[]) 4000 ?_)
 simp only [go_sem]
 refine iU (aa (ctx:=[⟨_,D2⟩,⟨_,Ng⟩,⟨_,AB⟩,⟨_,tu⟩]) 4000 ?_)
 have hD:∀ l:List ByteArray,dT dQ.dec (l.map dQ.enc)=some l:=ac dQ
 have hSt:=Bq.back s
 simp only [dt,bN,dQ,gj] at hD hSt
 have f1:A9 s.labels 56:=⟨H.labels,fun n hn=>EB (H.labelT n hn),.inr rfl⟩
 have f2:A9 s.names 53:=⟨H.names,fun n hn=>EB (H.nameT n hn),.inl rfl⟩
 have hnm:=EB H.name
 have a1:=Oc s.labels
 have a2:=Od s.names
 cases h1:s.labels.all gV with
 | false =>
  have e:e7 s=110:=by unfold e7;rw [h1];rfl
  rw [h1] at a1
  simp only [go_sem,me,dt,bN,tFn,i8,i7,f1,hD,a1,e,Bool.not_false]
 | true =>
 rw [h1] at a1
 cases h2:rS s with
 | false =>
  have e:e7 s=110:=by unfold e7;rw [h1,h2];rfl
  simp only [go_sem,me,dt,bN,tFn,i8,i7,f1,hD,a1,lQ,lP,hSt,h2,e,Bool.not_true]
 | true =>
 have d1:¬(s.labels.all gV&&rS s)=false:=by rw [h1,h2];decide
 by_cases l8:8<s.labels.length
 ·have e:e7 s=3:=by unfold e7;rw [if_neg d1,if_pos (.inl l8)]
  have l8I:((8:Int)<s.labels.length)=True:=eq_true (by omega)
  simp only [go_sem,me,dt,bN,tFn,i8,i7,f1,hD,a1,lQ,lP,hSt,h2,e,Bool.not_true,List.length_map,l8I]
 have l8I:¬(8:Int)<s.labels.length:=by omega
 by_cases l64:(64:Int)<(if (s.names.length:Int)<s.vals.length then (s.vals.length:Int) else s.names.length)
 ·have e:e7 s=3:=by unfold e7;rw [if_neg d1,if_pos (by split at l64<;>omega)]
  simp only [go_sem,me,dt,bN,tFn,i8,i7,f1,hD,a1,lQ,lP,hSt,h2,e,Bool.not_true,List.length_map,l8I,eq_true l64]
 have d2:¬(8<s.labels.length∨64<s.names.length∨64<s.vals.length):=by split at l64<;>omega
 cases h3:bG s with
 | false =>
  have e:e7 s=110:=by unfold e7;rw [if_neg d1,if_neg d2,h3];rfl
  simp only [go_sem,me,dt,bN,tFn,i8,i7,f1,f2,hD,a1,lQ,lP,hSt,h2,Bool.not_true,List.length_map,l8I,l64,mK,mJ,hnm,h3,e]
 | true =>
 cases h4:s.names.all fun n=>fI (ab n) with
 | false =>
  have e:e7 s=110:=by unfold e7;rw [if_neg d1,if_neg d2,h3,h4];rfl
  rw [h4] at a2
  simp only [go_sem,me,dt,bN,tFn,i8,i7,f1,f2,hD,a1,lQ,lP,hSt,h2,Bool.not_true,List.length_map,l8I,l64,mK,mJ,hnm,h3,a2,Bool.not_false,e]
 | true =>
 rw [h4] at a2
 have d3:¬(bG s&&s.names.all fun n=>fI (ab n))=false:=by rw [h3,h4];decide
 by_cases k4:s.kind=4
 ·have hv:s.vals.length=1:=by
   have h:=h3
   unfold bG at h
   rw [if_neg (by omega),if_neg (by omega),if_neg (by omega),if_pos k4] at h
   exact of_decide_eq_true h
  obtain ⟨v,hv1⟩:=List.length_eq_one_iff.1 hv
  have g0:s.vals[0]? = some v:=by rw [hv1];rfl
  have g1:s.vals.getD 0 ⟨0,emp,emp⟩=v:=by rw [hv1];rfl
  have hl:(0:Nat)<s.vals.length:=by omega
  have hlI:(0:Int)<s.vals.length:=by omega
  cases ha:iM v with
  | false =>
   have e:e7 s=7:=by unfold e7;rw [if_neg d1,if_neg d2,if_neg d3,if_pos ⟨k4,by rw [g1];exact ha⟩]
   simp only [go_sem,me,dt,bN,tFn,i8,i7,f1,f2,hD,a1,lQ,lP,hSt,h2,Bool.not_true,List.length_map,l8I,l64,mK,mJ,hnm,h3,a2,eq_true k4,hl,hlI,g0,v7,gJ,nK,nJ,ha,e]
  | true =>
   have hx:e7 s=if ¬mg s.vals=0 then mg s.vals else sA s.opers:=by unfold e7;rw [if_neg d1,if_neg d2,if_neg d3,if_neg (by rintro ⟨-,h⟩;rw [g1,ha] at h;cases h)]
   simp only [go_sem,me,dt,bN,tFn,i8,i7,f1,f2,hD,a1,lQ,lP,hSt,h2,Bool.not_true,List.length_map,l8I,l64,mK,mJ,hnm,h3,a2,eq_true k4,hl,hlI,g0,v7,gJ,nK,nJ,ha]
   exact SW.wk (tail hx) (Wk.renL [0] (by simp) (Nat.le_refl 1) (by decide) rfl rfl)
 ·have hx:e7 s=if ¬mg s.vals=0 then mg s.vals else sA s.opers:=by unfold e7;rw [if_neg d1,if_neg d2,if_neg d3,if_neg (fun h=>k4 h.1)]
  simp only [go_sem,me,dt,bN,tFn,i8,i7,f1,f2,hD,a1,lQ,lP,hSt,h2,Bool.not_true,List.length_map,l8I,l64,mK,mJ,hnm,h3,a2,k4]
  exact SW.wk (tail hx) (Wk.renL [0] (by simp) (Nat.le_refl 1) (by decide) rfl rfl)
def MV:bi Tryz.prog 22 :=
 mk1 _ _ _ Tryz.func22 rfl (fun _ _=>by go_simp) (lh) (vW) ((fun s=>.ret (iv (e7 s)))) (by rw [Tryz.ntmps22];decide) (fun s h=>PP s h)
theorem Dh {id:Nat} {h:ah} {args:List AV}:(MV).run id h args=bT (ba (lh) (vW)) ((fun s=>.ret (iv (e7 s)))) h args:=rfl
theorem Dg {id:Nat} {h:ah} {args:List AV}:(MV).pan id h args=bU (ba (lh) (vW)) ((fun s=>.ret (iv (e7 s)))) h args:=rfl
end
end Go.Proofs.YtnhbidpdadkcjaaGreatDoor
