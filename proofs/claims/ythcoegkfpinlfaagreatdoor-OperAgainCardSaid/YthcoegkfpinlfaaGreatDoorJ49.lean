import Derived.Test.YthcoegkfpinlfaaGreatDoorJ34
import Derived.Test.YthcoegkfpinlfaaGreatDoorJ45
import Derived.Test.YthcoegkfpinlfaaGreatDoorJ46
import Derived.Test.YthcoegkfpinlfaaGreatDoorJ47
import Derived.Test.YthcoegkfpinlfaaGreatDoorJ48
set_option linter.unusedVariables false
set_option linter.unusedSimpArgs false
set_option maxRecDepth 100000
set_option maxHeartbeats 8000000
namespace Go.Proofs.YthcoegkfpinlfaaGreatDoor
open Go.RowKit
theorem PG {l:List OpV} (h:vw l=true) (ha:∀ o∈l,AC o):l.length≤20∧∀ o∈l,okO o:=by
 unfold vw at h
 split at h
 case isFalse=>cases h
 rename_i hall
 rw [decide_eq_true_eq] at h
 refine ⟨h,fun o ho=>?_⟩
 rw [List.all_eq_true] at hall
 have:=hall o (by rw [List.take_of_length_le h];exact ho)
 unfold rh at this
 simp only [Bool.and_eq_true,decide_eq_true_eq] at this
 exact ⟨⟨by omega,by omega⟩,ha o ho⟩
theorem vM {s:ByteArray} (h:512<s.size):(dP (aa s)).2.2≠0:=by
 have hl:(aa s).length=s.size:=ar s
 unfold dP
 rw [if_pos (by omega)]
 decide
def obI (l a:List OpV) (s:ByteArray) (i:Nat):St:=⟨0,[(0,iZ.enc l),(8,iZ.enc a),(51,iZ.enc l),(52,iv l.length),(53,iv i)],[]⟩
theorem QQ (l:List OpV) (ha:∀ o∈l,AC o):SW Tryz.prog ⟨none,0⟩ Tryz.f3.ntmps (Tryz.f3.body.getD .skip) ⟨0,aw 0 [iZ.enc l],[]⟩ (eK Tryz.prog Tryz.f3.results.toList (.ret (bv true))):=by
 refine ab (ctx:=[⟨_,uw⟩,⟨_,PF⟩,⟨_,tu⟩,⟨_,Lx.rlexS⟩,⟨_,yd⟩]) 4000 ?_
 rw [Tryz.ntmps3,Tryz.results3]
 simp only [Tryz.f3,Option.getD_some,aw]
 cases hf:vw l
 ·simp only [go_sem,jd,jc,uA,uz,hf]
 obtain ⟨h20,hO⟩:=PG hf ha
 have h6:l.length≤1000000:=by omega
 rcases hT:iA l with ⟨s,e⟩
 by_cases he:e=0
 case neg =>
  simp only [go_sem,jd,jc,uA,uz,hf,ku,kt,h6,hT,j3,he]
  exact hO
 subst he
 by_cases hs:512<s.size
 ·have hl:=vM hs
  have hsI:(512:Int)<s.size:=by omega
  rcases hL:dP (aa s) with ⟨ts,n,e⟩
  rw [hL] at hl
  have hl:¬e=0:=hl
  simp only [go_sem,jd,jc,uA,uz,hf,ku,kt,h6,hT,j3,Lx.rlex_run,Lx.rlex_pan,hL,sR,hl,hsI]
  exact hO
 obtain ⟨ts,n,hL,hR,hls⟩:=qI hO hT (by omega)
 have hlen:(l.map aN).length=l.length:=List.length_map ..
 simp only [go_sem,jd,jc,uA,uz,hf,ku,kt,h6,hT,j3,Lx.rlex_run,Lx.rlex_pan,hL,sR,j9,pB,pA,hR,i7,hls,hlen,bne_self_eq_false]
 refine ⟨hO,?_⟩
 refine dG (ι:=Nat) (fun i=>i≤l.length) (obI l (l.map aN) s) (fun i=>l.length-i) 0 (Nat.zero_le _) ?_ ?_
 ·exact Wk.renL [] (by simp) (by simp) (by simp) rfl (by simp only [List.map_map];rfl)
 intro i hi
 refine ab (ctx:=[]) 4000 ?_
 by_cases hlt:i<l.length
 ·have hltI:(i:Int)<l.length:=by omega
  obtain ⟨o,ho⟩:∃ o,l[i]? = some o:=⟨_,List.getElem?_eq_getElem hlt⟩
  have hok:=hO o (List.mem_of_getElem? ho)
  have ei:IntKind.i64.wrap ((i:Int)+1)=((i+1:Nat):Int):=by rw [IntKind.wrap_i64];omega
  obtain ⟨p,hp⟩:∃ p,aN o=p:=⟨_,rfl⟩
  obtain ⟨a,hA⟩:∃ a,l.map aN=a:=⟨_,rfl⟩
  have hp2:a[i]? = some p:=by rw [← hA,List.getElem?_map,ho];exact congrArg some hp
  have hal:a.length=l.length:=by rw [← hA,List.length_map]
  have hd:decide (p=p)=true:=decide_eq_true rfl
  rw [hA]
  simp only [go_sem,obI,hltI,hlt,ho,aF,opE]
  refine cr (ctx:=[⟨_,uE⟩]) mixed [] (by kernel_rfl) ?_
  simp only [go_sem,aF,opE,opD,bj,bi,wj,wi,hok,hp,hp2,hal,hltI,hlt,opV,↓df,hd,bne_self_eq_false,beq_self_eq_true,ei]
  exact ⟨i+1,hlt,by omega,Wk.renL [] (by simp) (by simp) (by simp) rfl rfl⟩
 obtain rfl:i=l.length:=by omega
 have hI:¬(l.length:Int)<l.length:=by omega
 simp only [go_sem,obI,hI]
theorem LO (a:List OpV) (hz:a.length≤1000000):SW Tryz.prog ⟨none,0⟩ Tryz.f13.ntmps (Tryz.f13.body.getD .skip) ⟨0,aw 0 [iZ.enc a,iZ.enc a],[]⟩ (eK Tryz.prog Tryz.f13.results.toList (.ret (bv true))):=by
 refine ab (ctx:=[]) 4000 ?_
 rw [Tryz.ntmps13,Tryz.results13]
 simp only [Tryz.f13,Option.getD_some,aw]
 simp only [go_sem,bne_self_eq_false]
 refine dG (ι:=Nat) (fun i=>i≤a.length) (fun i=>⟨0,[(0,iZ.enc a),(1,iZ.enc a),(5,iv i)],[]⟩) (fun i=>a.length-i) 0 (Nat.zero_le _) (Wk.renL [] (by simp) (by simp) (by simp) rfl rfl) ?_
 intro i hi
 refine ab (ctx:=[]) 4000 ?_
 by_cases hlt:i<a.length
 ·have hltI:(i:Int)<a.length:=by omega
  obtain ⟨o,ho⟩:∃ o,a[i]? = some o:=⟨_,List.getElem?_eq_getElem hlt⟩
  have ei:IntKind.i64.wrap ((i:Int)+1)=((i+1:Nat):Int):=by rw [IntKind.wrap_i64];omega
  have hd:decide (o=o)=true:=decide_eq_true rfl
  simp only [go_sem,hltI,hlt]
  refine cr (ctx:=[]) mixed [] (by kernel_rfl) ?_
  simp only [go_sem,hltI,hlt,ho,aF,opE,↓df,hd,bne_self_eq_false,beq_self_eq_true,ei]
  exact ⟨i+1,hlt,by omega,Wk.renL [] (by simp) (by simp) (by simp) rfl rfl⟩
 obtain rfl:i=a.length:=by omega
 have hI:¬(a.length:Int)<a.length:=by omega
 simp only [go_sem,hI]
def Ae:bq Tryz.prog 13 :=
 mk2 _ _ _ Tryz.func13 rfl (fun _ _=>by go_simp) (iZ) (iZ) ((fun a b=>a=b∧a.length≤1000000)) ((fun _ _=>.ret (bv true))) (by rw [Tryz.ntmps13];decide) (fun a b h=>by
 obtain ⟨rfl,hz⟩:=h
 exact LO a hz)
theorem ID {id:Nat} {h:ag} {args:List AV}:(Ae).run id h args=bV (cA (iZ) (iZ) ((fun a b=>a=b∧a.length≤1000000))) (fun x=>((fun _ _=>.ret (bv true))) x.1 x.2) h args:=rfl
theorem IC {id:Nat} {h:ag} {args:List AV}:(Ae).pan id h args=ca (cA (iZ) (iZ) ((fun a b=>a=b∧a.length≤1000000))) (fun x=>((fun _ _=>.ret (bv true))) x.1 x.2) h args:=rfl
def oaI (a:List OpV) (i:Nat):St:=⟨0,[(6,iZ.enc a),(36,iZ.enc a),(37,iv a.length),(38,iv i)],[]⟩
theorem QP (line:ByteArray):SW Tryz.prog ⟨none,0⟩ Tryz.f4.ntmps (Tryz.f4.body.getD .skip) ⟨0,aw 0 [bh.enc line],[]⟩ (eK Tryz.prog Tryz.f4.results.toList (.ret (bv true))):=by
 refine ab (ctx:=[⟨_,Lx.rlexS⟩,⟨_,uw⟩,⟨_,yd⟩,⟨_,tu⟩,⟨_,Ae⟩]) 4000 ?_
 rw [Tryz.ntmps4,Tryz.results4]
 simp only [Tryz.f4,Option.getD_some,aw]
 rcases hL:dP (aa line) with ⟨ts,n,e⟩
 by_cases he:e=0
 case neg=>simp only [go_sem,jd,jc,Lx.rlex_run,Lx.rlex_pan,hL,sR,he]
 subst he
 have hR:=DX hL
 rcases hls:ii ts with e | a
 ·have hne:=HI hR hls
  simp only [go_sem,jd,jc,Lx.rlex_run,Lx.rlex_pan,hL,sR,j9,pB,pA,hR,i7,hls,hne]
 obtain ⟨ht,hall,hmap⟩:=Dh hR hls
 have ha8:=(Bt hR hls).few
 have ha6:a.length≤1000000:=by omega
 have hok:∀ o∈a,okO o:=fun o ho=>(hall o ho).1
 simp only [go_sem,jd,jc,Lx.rlex_run,Lx.rlex_pan,hL,sR,j9,pB,pA,hR,i7,hls]
 refine dG (ι:=Nat) (fun i=>i≤a.length) (oaI a) (fun i=>a.length-i) 0 (Nat.zero_le _) ?_ ?_
 ·exact Wk.renL [] (by simp) (by simp) (by simp) rfl rfl
 intro i hi
 refine ab (ctx:=[⟨_,tu⟩,⟨_,Lx.rlexS⟩,⟨_,yd⟩,⟨_,Ae⟩]) 4000 ?_
 by_cases hlt:i<a.length
 ·have hltI:(i:Int)<a.length:=by omega
  obtain ⟨o,ho⟩:∃ o,a[i]? = some o:=⟨_,List.getElem?_eq_getElem hlt⟩
  obtain ⟨k1,k2,k3⟩:=hall o (List.mem_of_getElem? ho)
  have ei:IntKind.i64.wrap ((i:Int)+1)=((i+1:Nat):Int):=by rw [IntKind.wrap_i64];omega
  have hd:decide (o=o)=true:=decide_eq_true rfl
  simp only [go_sem,oaI,hltI,hlt,ho,aF,opE]
  refine cr (ctx:=[⟨_,GX⟩,⟨_,uE⟩]) mixed [] (by kernel_rfl) ?_
  simp only [go_sem,aF,opE,opD,bj,bi,cY,cX,wj,wi,k1,k2,k3,hltI,hlt,opV,↓df,hd,bne_self_eq_false,beq_self_eq_true,ei]
  exact ⟨i+1,hlt,by omega,Wk.renL [] (by simp) (by simp) (by simp) rfl rfl⟩
 obtain rfl:i=a.length:=by omega
 have hI:¬(a.length:Int)<a.length:=by omega
 rcases hT:iA a with ⟨s,e⟩
 rw [hT] at ht
 have ht:e=0:=ht
 subst ht
 by_cases hs:512<s.size
 ·have hl:=vM hs
  have hsI:(512:Int)<s.size:=by omega
  rcases hL2:dP (aa s) with ⟨ts2,n2,e2⟩
  rw [hL2] at hl
  have hl:¬e2=0:=hl
  simp only [go_sem,oaI,hI,ku,kt,ha6,hT,j3,Lx.rlex_run,Lx.rlex_pan,hL2,sR,hl,hsI]
  exact hok
 obtain ⟨ts2,n2,hL2,hR2,hls2⟩:=qI hok hT (by omega)
 rw [hmap] at hls2
 simp only [go_sem,oaI,hI,ku,kt,ha6,hT,j3,Lx.rlex_run,Lx.rlex_pan,hL2,sR,j9,pB,pA,hR2,i7,hls2,ID,IC]
 exact hok
end Go.Proofs.YthcoegkfpinlfaaGreatDoor
