import Derived.Test.YthcoegkfpinlfaaGreatDoorO34
import Derived.Test.YthcoegkfpinlfaaGreatDoorO37
import Derived.Test.YthcoegkfpinlfaaGreatDoorO39
import Derived.Test.YthcoegkfpinlfaaGreatDoorO45
import Derived.Test.YthcoegkfpinlfaaGreatDoorO46
set_option linter.unusedVariables false
set_option linter.unusedSimpArgs false
set_option maxRecDepth 100000
set_option maxHeartbeats 8000000
namespace Go.Proofs.YthcoegkfpinlfaaGreatDoor
open Go.RowKit
theorem few_ok {l:List OpV} (h:Oe l=true) (ha:∀ o∈l,Si o):l.length≤20∧∀ o∈l,okO o:=by
 unfold Oe at h
 split at h
 case isFalse=>cases h
 rename_i hall
 rw [decide_eq_true_eq] at h
 refine ⟨h,fun o ho=>?_⟩
 rw [List.all_eq_true] at hall
 have:=hall o (by rw [List.take_of_length_le h];exact ho)
 unfold Lr at this
 simp only [Bool.and_eq_true,decide_eq_true_eq] at this
 exact ⟨⟨by omega,by omega⟩,ha o ho⟩
theorem seqD1 (x:List ByteArray):Pw.dec (.fn 96 [] [.d (.pd [sH x])])=some x:=by
 show (if 96=96 then Lx (sH x) else none)=some x
 rw [if_pos rfl]
 exact dx stR x
theorem seqD2 (x:List ByteArray):Pw.dec (.s (.l (.d (.fn 96 [] [.pd [sH x]]))))=some x:=by
 show (if 96=96 then Lx (sH x) else none)=some x
 rw [if_pos rfl]
 exact dx stR x
def otI (l:List OpV) (most:Int) (T:ByteArray×Int) (i:Nat):St:=⟨0,[(0,mG.enc l),(1,.s (.l (.v (.int .u8 most)))),(5,sv T.1),(6,iv T.2),(7,sv T.1),(8,iv T.2),(30,mG.enc l),(31,iv l.length),(32,iv i)],[]⟩
theorem ot_sw (l:List OpV) (most:Int) (hm:0≤most∧most≤255) (ha:∀ o∈l,Si o):SW Tryz.prog ⟨none,0⟩ Tryz.f5.ntmps (Tryz.f5.body.getD .skip) ⟨0,aN 0 [mG.enc l,(aR .u8).enc most],[]⟩ (fa Tryz.prog Tryz.f5.results.toList (.ret (bv true))):=by
 refine aC (ctx:=[⟨_,Q3⟩,⟨_,fewS⟩,⟨_,Vt⟩,⟨_,Ra⟩,⟨_,UB⟩]) 4000 ?_
 rw [Tryz.ntmps5,Tryz.results5]
 simp only [Tryz.f5,Option.getD_some,aN]
 cases hf:Oe l
 ·simp only [go_sem,OF,Oj,VJ,Wa,hf]
 obtain ⟨h20,hO⟩:=few_ok hf ha
 have h6:l.length≤1000000:=by omega
 obtain ⟨T,hT⟩:∃ T,lQ l=T:=⟨_,rfl⟩
 simp only [go_sem,OF,Oj,VJ,Wa,hf,Xv,Xr,Un,UZ,h6,hT,r9]
 refine ⟨hO,hO,?_⟩
 refine fj (ι:=Nat) (fun i=>i≤l.length) (otI l most T) (fun i=>l.length-i) 0 (Nat.zero_le _) ?_ ?_
 ·exact Wk.renL [] (by simp) (by simp) (by simp) rfl rfl
 intro i hi
 refine aC (ctx:=[]) 4000 ?_
 by_cases hlt:i<l.length
 ·have hltI:(i:Int)<l.length:=by omega
  obtain ⟨o,ho⟩:∃ o,l[i]? = some o:=⟨_,List.getElem?_eq_getElem hlt⟩
  have hok:=hO o (List.mem_of_getElem? ho)
  have ei:IntKind.i64.wrap ((i:Int)+1)=((i+1:Nat):Int):=by rw [IntKind.wrap_i64];omega
  obtain ⟨p,hp⟩:∃ p,fm o=p:=⟨_,rfl⟩
  obtain ⟨c,hc⟩:∃ c,iS o=c:=⟨_,rfl⟩
  have hcs:Ky o=c:=by rw [LQ,hc]
  have hd:decide (p=p)=true:=decide_eq_true rfl
  simp only [go_sem,otI,hltI,hlt,ho,bk,opE]
  refine dc (ctx:=[⟨_,WU⟩,⟨_,P7⟩,⟨_,Rn⟩,⟨_,Oi⟩]) mixed [] (by kernel_rfl) ?_
  simp only [go_sem,bk,opE,opD,bU,bT,mw,mr,fI,fH,Uu,TH,RM,Tg,hok,hc,hcs,hp,opV,↓cu,hd,bne_self_eq_false,beq_self_eq_true,ei]
  exact ⟨i+1,hlt,by omega,Wk.renL [] (by simp) (by simp) (by simp) rfl rfl⟩
 obtain rfl:i=l.length:=by omega
 have hI:¬(l.length:Int)<l.length:=by omega
 obtain ⟨x,hx⟩:∃ x,kZ l=x:=⟨_,rfl⟩
 have hxl:x.length≤1000000:=by have:=Jz l;rw [hx] at this;omega
 have hx40:x.length≤40:=by have:=Jz l;rw [hx] at this;omega
 obtain ⟨m,em⟩:∃ m,min x.length most.toNat=m:=⟨_,rfl⟩
 have hmI:(if most<(x.length:Int) then most else (x.length:Int))=(m:Int):=by split<;>omega
 have hml:(m:Int)≤(x.length:Int):=by omega
 have hml2:m≤x.length:=by omega
 have h0m:(0:Int)≤(m:Int):=by omega
 have hm6:m≤1000000:=by omega
 have e1:IntKind.i64.wrap most=most:=by rw [IntKind.wrap_i64];omega
 have h0M:0≤most:=hm.1
 have hxr:List.take (m-0) (List.map stR.enc x)=List.map stR.enc (x.take m):=by rw [Nat.sub_zero];exact (List.map_take ..).symm
 have hxm:(x.take m).length=m:=by rw [List.length_take];omega
 have hxt:x.take most.toNat=x.take m:=by
  by_cases h:x.length≤most.toNat
  ·rw [List.take_of_length_le h,List.take_of_length_le (by omega)]
  ·rw [show m=most.toNat by omega]
 have h9:x.take 999=x:=List.take_of_length_le (by omega)
 simp only [go_sem,otI,hI,WN,Wu,h6,hx]
 refine ⟨hO,?_⟩
 refine dc (ctx:=[⟨_,OP⟩,⟨_,ZP⟩,⟨_,TX⟩]) mixed [] (by kernel_rfl) ?_
 simp only [go_sem,ST,SY,h6,hx,seqD1,seqD2,Z7,aac,hxl,h9,Xm,WJ,e1,h0M,hxt,hmI,hml,hml2,h0m,Int.toNat_natCast,hxr,hxm,hm6,Int.reduceToNat,decide_true,bne_self_eq_false,beq_self_eq_true]
 exact hO
end Go.Proofs.YthcoegkfpinlfaaGreatDoor
