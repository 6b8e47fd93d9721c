import Derived.Test.YthcoegkfpinlfaaGreatDoorO33
import Derived.Test.YthcoegkfpinlfaaGreatDoorO35
import Derived.Lib.IndexAny
import Derived.Test.YthcoegkfpinlfaaGreatDoorO38
set_option linter.unusedVariables false
set_option linter.unusedSimpArgs false
set_option maxRecDepth 100000
set_option maxHeartbeats 8000000
namespace Go.Proofs.YthcoegkfpinlfaaGreatDoor
section
open Go.RowKit
theorem WX {s:ByteArray} (h:0<s.size):sh s nm=(bj s 0==35):=by
 have e:nm=cF [35]:=rfl
 have h1:=KC s 35 ⟨by decide,by decide⟩
 rw [← e] at h1
 unfold uP at h1
 cases hp:sh s nm
 ·rw [hp,if_neg (by decide)] at h1
  by_cases hb:bj s 0=35
  ·rw [if_pos ⟨h,hb⟩] at h1
   cases (congrArg Prod.snd h1)
  ·rw [beq_eq_false_iff_ne.2 hb]
 ·rw [hp,if_pos rfl] at h1
  by_cases hb:bj s 0=35
  ·rw [hb];rfl
  ·rw [if_neg (fun h=>hb h.2)] at h1
   cases (congrArg Prod.snd h1)
theorem Yy:∀ (f n:Nat),0<f→0<(Ex.decG f n).length
 | 0,n,h=>absurd h (Nat.not_lt_zero _)
 | f+1,n,_=>by
  rw [Ex.decG]
  split
  ·simp
  ·rw [List.length_append];simp
theorem Zu (n:Nat):0<(Ex.decS n).size:=by
 show 0<(Ex.decG 20 n).toArray.size
 rw [List.size_toArray]
 exact Yy 20 n (by decide)
theorem Jx (n:Int):0<(Ex.signS n).size:=by
 unfold Ex.signS
 have h4:(⟨#[43]⟩:ByteArray).size=1:=rfl
 have h5:(⟨#[45]⟩:ByteArray).size=1:=rfl
 split<;>rw [ByteArray.size_append]<;>omega
theorem T8 {v:Val} (h:(Ex.printF v).2=0):0<(Ex.printF v).1.size:=by
 have h1:=Zu v.add.toNat
 have h2:=Jx v.add
 have h4:(⟨#[48]⟩:ByteArray).size=1:=rfl
 have h5:(⟨#[45]⟩:ByteArray).size=1:=rfl
 unfold Ex.printF at h ⊢
 split at h
 ·cases h
 rename_i c1
 rw [if_neg c1]
 split at h
 ·cases h
 rename_i c2
 rw [if_neg c2]
 by_cases c3:v.plus=emp∧v.minus=emp
 ·rw [if_pos c3]
  split<;>assumption
 ·rw [if_neg c3]
  by_cases p:v.plus=emp
  ·have m:¬v.minus=emp:=fun m=>c3 ⟨p,m⟩
   simp only [p,m,if_true,if_false]
   split<;>simp only [ByteArray.size_append]<;>omega
  ·have hp:0<v.plus.size:=C7 p
   simp only [p,if_false]
   repeat' split
   all_goals try simp only [ByteArray.size_append]
   all_goals omega
theorem L7 {r:CF} (h:(cA r).2=0):0<(cA r).1.size:=by
 unfold cA at h ⊢
 by_cases c:r.n<0∨31<r.n∨(r.sp=true∧¬r.n=31)
 ·rw [if_pos c] at h
  cases h
 ·rw [if_neg c]
  repeat' split
  all_goals first
   | decide
   | (simp only [ByteArray.size_append];first | (have:xS.size=1:=rfl;omega) | (have:wS.size=1:=rfl;omega))
theorem tbl_pos:∀ k:Fin 9,(sj (k.val:Int)).all (fun r=>decide (0<r.1.size))=true:=by decide +kernel
theorem Xj {k n:Int} (h:(cG k n).2=0):0<(cG k n).1.size:=by
 unfold cG at h ⊢
 by_cases k1:k=1
 ·rw [if_pos k1] at h ⊢
  split at h
  ·cases h
  rename_i c
  rw [if_neg c]
  exact L7 h
 rw [if_neg k1] at h ⊢
 split at h
 ·rename_i s hs
  have hm:=LC hs
  have hk:=(Tw hm).1
  have:=tbl_pos ⟨k.toNat,by omega⟩
  rw [show (((⟨k.toNat,by omega⟩:Fin 9).val:Nat):Int)=k by simp only;omega,List.all_eq_true] at this
  have:=this _ hm
  rw [decide_eq_true_eq] at this
  exact this
 ·rename_i hs
  split at h
  ·rename_i c
   rw [if_pos c]
   unfold fS
   simp only [ByteArray.size_append]
   have:s1.size=1:=rfl
   omega
  ·cases h
theorem Wx (o:OpV):0<(fE o).size:=by
 have f1:brS.size=1:=rfl
 unfold fE
 repeat' split
 all_goals simp only [ByteArray.size_append]
 all_goals omega
theorem Tl (k n:Int):0<(fc k n).size:=by
 unfold fc
 split
 ·rename_i h;exact Xj h
 ·have f1:nm.size=1:=rfl
  simp only [ByteArray.size_append]
  omega
theorem Qa {o:OpV} (hc:iS o=0):0<(ci o).size:=by
 obtain ⟨hf,hp,-⟩:=Kt hc
 obtain ⟨-,hk⟩:=C1 hf
 have h1:nm.size=1:=rfl
 have h2:RS.size=6:=rfl
 have g:=fun k=>Tl k o.n
 have hv:0<(Ct o).size:=T8 hp
 have hl:0<(qg o).size:=by
  unfold qg
  split<;>simp only [ByteArray.size_append]<;>omega
 unfold ci
 by_cases k1:o.kind=1
 ·rw [if_pos k1,ByteArray.size_append]
  have hr:iO o.r=true:=by
   rcases hk with h | h | h | h | h
   ·exact h.2.1
   ·omega
   ·omega
   ·omega
   ·omega
  have:0<(lZ o.r).size:=L7 (by unfold iO at hr;simpa using hr)
  omega
 rw [if_neg k1]
 split
 ·rw [ByteArray.size_append];omega
 split
 ·split
  ·rw [ByteArray.size_append];omega
  ·exact hv
 split
 ·exact g _
 split
 ·exact g _
 split
 ·exact g _
 split
 ·exact g _
 split
 ·exact g _
 ·exact Wx o
theorem Ng (s:ByteArray):mz s=s.data.toList.contains 44:=by
 unfold mz
 exact (Lib.contains_iff_indexByte _ _).symm
theorem dH (a b:ByteArray):mz (a++b)=(mz a||mz b):=by
 rw [Ng,Ng,Ng]
 simp [ByteArray.data_append,Array.toList_append]
theorem WT {r:CF} (h:iO r=true):mz (lZ r)=false:=by
 have key:∀ i:Fin 32,∀ x p:Bool,mz (lZ ⟨(i.val:Int),x,p⟩)=false:=by decide +kernel
 have hn:0≤r.n∧r.n≤31:=by
  unfold iO cA at h
  by_cases c:r.n<0∨31<r.n∨(r.sp=true∧¬r.n=31)
  ·rw [if_pos c] at h;cases h
  ·omega
 have:=key ⟨r.n.toNat,by omega⟩ r.x r.sp
 rwa [show (((⟨r.n.toNat,by omega⟩:Fin 32).val:Nat):Int)=r.n by simp only;omega] at this
theorem U0 {o:OpV} (hm:Dy o=true) (hk:o.kind=5):(!mz (fE o))=aloneM o:=by
 obtain ⟨h1,-,h3⟩:=M4 hm
 have hr:=WT h1
 have c1:mz lY=true:=by decide +kernel
 have c2:mz XF=true:=by decide +kernel
 have c3:mz brS=false:=by decide +kernel
 have c4:mz ekS=false:=by decide +kernel
 unfold fE aloneM
 rw [hk]
 by_cases e1:o.mode=1
 ·rw [if_pos e1,dH,dH,dH,dH,c1,e1];simp
 rw [if_neg e1]
 by_cases e2:o.mode=2
 ·rw [if_pos e2,dH,dH,dH,c2,e2];simp
 rw [if_neg e2]
 by_cases e3:o.mode=3
 ·rw [if_pos e3,e3]
  split
  ·rw [dH,dH,dH,dH,c1];simp
  ·rw [dH,dH,dH,dH,dH,c1];simp
 rw [if_neg e3]
 have e0:o.mode=0:=by
  rcases h3 with h | h | h | h
  ·exact h
  ·exact absurd h e1
  ·exact absurd h e2
  ·exact absurd h.1 e3
 rw [e0]
 split
 ·rename_i h
  rw [dH,dH,c3,hr,c4,decide_eq_true h.1.1,decide_eq_true h.1.2.1,decide_eq_true h.1.2.2,h.2];rfl
 ·rename_i h
  rw [dH,dH,dH,dH,c1]
  simp only [Bool.or_true,Bool.true_or,Bool.not_true]
  by_cases a1:o.add=0
  ·by_cases a2:o.plus=emp
   ·by_cases a3:o.minus=emp
    ·have a4:o.lo=true:=by
      cases hl:o.lo
      ·exact absurd ⟨⟨a1,a2,a3⟩,hl⟩ h
      ·rfl
     rw [a4];simp
    ·rw [decide_eq_false a3];simp
   ·rw [decide_eq_false a2];simp
  ·rw [decide_eq_false a1];simp
theorem aab {a b:OpV} (hca:iS a=0) (hcb:iS b=0):C9 a b=(aloneM a&&(bj (ci b) 0==35)):=by
 unfold C9
 rw [WX (Qa hcb)]
 by_cases k5:a.kind=5
 ·obtain ⟨hf,-,-⟩:=Kt hca
  obtain ⟨-,hk⟩:=C1 hf
  have hm:Dy a=true:=by
   rcases hk with h | h | h | h | h
   ·omega
   ·omega
   ·omega
   ·omega
   ·exact h.2
  have eT:ci a=fE a:=by
   unfold ci
   rw [if_neg (by omega),if_neg (by omega),if_neg (by omega),if_neg (by omega),if_neg (by omega),if_neg (by omega),if_neg (by omega),if_neg (by omega)]
  rw [eT,U0 hm k5,k5]
  cases aloneM a<;>cases (bj (ci b) 0==35)<;>rfl
 ·have e:aloneM a=false:=by unfold aloneM;rw [beq_eq_false_iff_ne.2 k5];rfl
  rw [e,beq_eq_false_iff_ne.2 k5]
  simp
end
section
open Go.RowKit
theorem W9:∀ {l:List OpV},(∀ o∈l,okO o)→(GD (l.map ci)).size≤l.length*2199023255802:=by
 have key:∀ (r:List OpV) (x:ByteArray),(∀ o∈r,okO o)→((r.map ci).foldl (fun a y=>a++lY++y) x).size≤x.size+r.length*2199023255802:=by
  intro r
  induction r with
  | nil=>intro x _;simp
  | cons o r ih =>
   intro x h
   have h1:=D3 (h o (by simp))
   have h2:=ih (x++lY++ci o) fun p hp=>h p (by simp [hp])
   have h3:lY.size=2:=rfl
   rw [List.map_cons,List.foldl_cons,List.length_cons]
   simp only [ByteArray.size_append] at h2
   omega
 intro l h
 cases l with
 | nil=>decide
 | cons o r =>
  have h1:=D3 (h o (by simp))
  have h2:=key r (ci o) fun p hp=>h p (by simp [hp])
  show ((r.map ci).foldl _ (ci o)).size≤(r.length+1)*2199023255802
  omega
theorem Rp (a:ByteArray):emp++a=a:=by
 apply ByteArray.ext
 simp [emp,ByteArray.data_append]
theorem XM (l:List OpV) (hl:l.length≤1000000) (hO:∀ o∈l,okO o):SW Tryz.prog ⟨none,0⟩ Tryz.f14.ntmps (Tryz.f14.body.getD .skip) ⟨0,aN 0 [mG.enc l],[]⟩ (fa Tryz.prog Tryz.f14.results.toList (.ret (r9 (lQ l)))):=by
 refine aC (ctx:=[]) 4000 ?_
 rw [Tryz.ntmps14,Tryz.results14]
 simp only [Tryz.f14,Option.getD_some,aN]
 simp only [go_sem]
 refine fj (ι:=Nat) (fun i=>i≤l.length∧∀ j p,j<i→l[j]? = some p→iS p=0) (fun i=>⟨0,[(0,mG.enc l),(4,sv emp),(5,iv i)],[]⟩) (fun i=>l.length-i) 0 ⟨Nat.zero_le _,fun j p hj=>absurd hj (Nat.not_lt_zero _)⟩ (Wk.renL [] (by simp) (by simp) (by simp) rfl rfl) ?_
 rintro i ⟨hi,hn⟩
 refine aC (ctx:=[⟨_,P7⟩]) 4000 ?_
 by_cases hlt:i<l.length
 ·have hltI:(i:Int)<l.length:=by omega
  obtain ⟨o,ho⟩:∃ o,l[i]? = some o:=⟨_,List.getElem?_eq_getElem hlt⟩
  have hok:=hO o (List.mem_of_getElem? ho)
  have hcs:=LQ o
  have ei:IntKind.i64.wrap ((i:Int)+1)=((i+1:Nat):Int):=by rw [IntKind.wrap_i64];omega
  by_cases hc:iS o=0
  ·simp only [go_sem,hltI,hlt,ho,bk,opE,opD,bU,bT,fI,fH,hok,hcs,eq_true hc,ei]
   exact ⟨i+1,⟨hlt,fun j p hj hp=>by
    by_cases e:j=i
    ·subst e;rw [ho] at hp;injection hp with hp;rw [← hp];exact hc
    ·exact hn j p (by omega) hp⟩,by omega,Wk.renL [] (by simp) (by simp) (by simp) rfl rfl⟩
  ·have e:lQ l=(emp,iS o):=by unfold lQ;rw [Nb hn ho hc,if_pos hc]
   simp only [go_sem,hltI,hlt,ho,bk,opE,opD,bU,bT,fI,fH,hok,hcs,hc,e,r9,aS]
 obtain rfl:i=l.length:=by omega
 have hI:¬(l.length:Int)<l.length:=by omega
 have hall:∀ o∈l,iS o=0:=fun o ho=>by
  obtain ⟨j,hj,he⟩:=List.mem_iff_getElem.1 ho
  exact hn j o hj (by rw [List.getElem?_eq_getElem hj,he])
 have h0:=Nl hall
 by_cases h8:8<l.length
 ·have h8I:(8:Int)<l.length:=by omega
  have e:lQ l=(emp,3):=by unfold lQ;rw [if_neg (by rw [h0];simp),if_pos h8]
  simp only [go_sem,hI,h8I,e,r9,aS]
 have h8I:¬(8:Int)<l.length:=by omega
 have hF:lQ l=if vw l=true then (emp,100) else (GD (l.map ci),0):=by unfold lQ;rw [if_neg (by rw [h0];simp),if_neg h8]
 simp only [go_sem,hI,h8I]
 refine fj (ι:=Nat) (fun i=>i≤l.length∧∀ j a b,j+1<i→l[j]? = some a→l[j+1]? = some b→C9 a b=false) (fun i=>⟨0,[(0,mG.enc l),(4,sv (GD ((l.take i).map ci))),(7,iv i)],[]⟩) (fun i=>l.length-i) 0 ⟨Nat.zero_le _,fun j a b hj=>absurd hj (by omega)⟩ (Wk.renL [] (by simp) (by simp) (by simp) rfl rfl) ?_
 rintro i ⟨hi,hn2⟩
 refine aC (ctx:=[⟨_,oneS⟩,⟨_,N5⟩]) 4000 ?_
 by_cases hlt:i<l.length
 ·have hltI:(i:Int)<l.length:=by omega
  obtain ⟨o,ho⟩:∃ o,l[i]? = some o:=⟨_,List.getElem?_eq_getElem hlt⟩
  have hok:=hO o (List.mem_of_getElem? ho)
  have hch:=hall o (List.mem_of_getElem? ho)
  have hpos:=Qa hch
  have hposI:(0:Int)<((ci o).size:Int):=by omega
  have ei:IntKind.i64.wrap ((i:Int)+1)=((i+1:Nat):Int):=by rw [IntKind.wrap_i64];omega
  have hT:GD ((l.take (i+1)).map ci)=if i=0 then ci o else GD ((l.take i).map ci)++lY++ci o:=by
   have e:(l.take (i+1)).map ci=(l.take i).map ci++[ci o]:=by rw [List.take_add_one,ho,List.map_append];rfl
   rw [e,T4]
   by_cases e0:i=0
   ·rw [if_pos e0,if_pos (by rw [e0];rfl)]
   ·rw [if_neg e0,if_neg]
    intro h
    have:=congrArg List.length h
    rw [List.length_map,List.length_take,List.length_nil] at this
    omega
  have hsz:(GD ((l.take i).map ci)).size≤17592186046416:=by
   have:=W9 (l:=l.take i) fun p hp=>hO p (List.mem_of_mem_take hp)
   rw [List.length_take] at this
   omega
  have hoz:=D3 hok
  generalize hy:GD ((l.take i).map ci)=y at hT hsz
  have s1:y.size+2≤maxLen:=by unfold maxLen;omega
  have s2:y.size+2+(ci o).size≤maxLen:=by unfold maxLen;omega
  have s3:y.size+(ci o).size≤maxLen:=by unfold maxLen;omega
  cases i with
  | zero =>
   have z0:(0:Int)<(l.length:Int):=by omega
   have z1:IntKind.i64.wrap ((0:Int)+1)=((0+1:Nat):Int):=rfl
   rw [if_pos rfl] at hT
   have hy0:y=emp:=by rw [← hy];rfl
   subst hy0
   have ee:=Rp (ci o)
   simp only [go_sem,hltI,hlt,ho,bk,opE,opD,bU,bT,NV,Oc,hok,hch,and_self,z0,z1,s3,ee,ei]
   refine ⟨0+1,⟨hlt,fun j a b hj=>absurd hj (by omega)⟩,by omega,?_⟩
   rw [hT]
   exact Wk.renL [] (by simp) (by simp) (by simp) rfl rfl
  | succ k =>
   have ek:IntKind.i64.wrap (((k+1:Nat):Int)-1)=(k:Int):=by rw [IntKind.wrap_i64];omega
   have hk:k<l.length:=by omega
   have p0:(0:Int)<((k+1:Nat):Int):=by omega
   obtain ⟨a,hal⟩:∃ a,l[k]? = some a:=⟨_,List.getElem?_eq_getElem hk⟩
   have hca:=hall a (List.mem_of_getElem? hal)
   have hbs:=aab hca hch
   rw [if_neg (Nat.succ_ne_zero k)] at hT
   have go:C9 a o=false→k+1+1≤l.length∧∀ j p q,j+1<k+1+1→l[j]? = some p→l[j+1]? = some q→C9 p q=false:=fun hb=>⟨hlt,fun j p q hj hp hq=>by
    by_cases e:j=k
    ·subst e
     rw [hal] at hp
     rw [ho] at hq
     injection hp with hp
     injection hq with hq
     rw [← hp,← hq]
     exact hb
    ·exact hn2 j p q (by omega) hp hq⟩
   cases hA:aloneM a
   ·simp only [go_sem,hltI,hlt,ho,bk,opE,opD,bU,bT,NV,Oc,hok,hch,and_self,p0,ek,hk,hal,D6,DY,hA,s1,s2,ei]
    refine ⟨k+1+1,go (by rw [hbs,hA];rfl),by omega,?_⟩
    rw [hT]
    exact Wk.renL [] (by simp) (by simp) (by simp) rfl rfl
   by_cases h35:bj (ci o) 0=35
   ·have hb:C9 a o=true:=by rw [hbs,hA,h35];rfl
    rw [hF,if_pos (Lq hal ho hb)]
    simp only [go_sem,hltI,hlt,ho,bk,opE,opD,bU,bT,NV,Oc,hok,hch,and_self,p0,ek,hk,hal,D6,DY,hA,s1,s2,hposI,eq_true h35,r9,aS]
   ·simp only [go_sem,hltI,hlt,ho,bk,opE,opD,bU,bT,NV,Oc,hok,hch,and_self,p0,ek,hk,hal,D6,DY,hA,s1,s2,hposI,h35,ei]
    refine ⟨k+1+1,go (by rw [hbs,beq_eq_false_iff_ne.2 h35,Bool.and_false]),by omega,?_⟩
    rw [hT]
    exact Wk.renL [] (by simp) (by simp) (by simp) rfl rfl
 ·obtain rfl:i=l.length:=by omega
  have hI:¬(l.length:Int)<l.length:=by omega
  have hb:vw l=false:=Ll fun j a b h1 h2=>hn2 j a b (List.getElem?_eq_some_iff.1 h2).1 h1 h2
  rw [if_neg (by rw [hb];simp)] at hF
  have htl:List.take l.length l=l:=List.take_length
  simp only [go_sem,hI,htl,hF,r9]
def Ra:cK Tryz.prog 14 :=
 mk1 _ _ _ Tryz.func14 rfl (fun _ _=>by go_simp) (mG) ((fun l=>l.length≤1000000∧∀ o∈l,okO o)) ((fun l=>.ret (r9 (lQ l)))) (by rw [Tryz.ntmps14];decide) (fun l h=>XM l h.1 h.2)
theorem Un {id:Nat} {h:aF} {args:List AV}:(Ra).run id h args=be (aV (mG) ((fun l=>l.length≤1000000∧∀ o∈l,okO o))) ((fun l=>.ret (r9 (lQ l)))) h args:=rfl
theorem UZ {id:Nat} {h:aF} {args:List AV}:(Ra).pan id h args=bi (aV (mG) ((fun l=>l.length≤1000000∧∀ o∈l,okO o))) ((fun l=>.ret (r9 (lQ l)))) h args:=rfl
end
end Go.Proofs.YthcoegkfpinlfaaGreatDoor
