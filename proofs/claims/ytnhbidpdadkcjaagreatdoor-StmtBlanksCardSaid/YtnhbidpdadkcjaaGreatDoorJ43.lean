import Derived.Test.YtnhbidpdadkcjaaGreatDoorJ42
import Derived.Test.YtnhbidpdadkcjaaGreatDoorJ34
set_option linter.unusedVariables false
set_option linter.unusedSimpArgs false
set_option maxRecDepth 100000
set_option maxHeartbeats 8000000
namespace Go.Proofs.YtnhbidpdadkcjaaGreatDoor
section
open Go.RowKit
open Ex (qG nameT valT lY Di pf yz)
structure PartOk (p:List (Bool×Tok)) (x:ByteArray):Prop where
 head:∃ t r,p=(false,t)::r
 rend:MG p=ab x
 sure:T6 p
 fine:Qv none p
 noat:Tc p
inductive Ag:List (List (Bool×Tok))→List ByteArray→Prop
 | nil:Ag [] []
 | cons {p x ps xs}:PartOk p x→Ag ps xs→Ag (p::ps) (x::xs)
end
section
open Go.RowKit
open Ex (qG nameT valT lY Di pf yz)
theorem PartOk.ne {p:List (Bool×Tok)} {x:ByteArray} (h:PartOk p x):x≠emp:=by
 obtain ⟨t,r,e⟩:=h.head
 have hs:=h.sure (false,t) (by rw [e];simp)
 have q0:0<(pf t).length:=(Ex.txt_head hs.1 hs.2.1 []).1
 intro hx
 have hr:=h.rend
 rw [e,hx,MG,if_neg (by simp),List.nil_append] at hr
 have:=congrArg List.length hr
 rw [List.length_append] at this
 simp only [show ab emp=[] from rfl,List.length_nil] at this
 omega
theorem S4 (n:ByteArray) (e:Int) (r:List Tok):nextF 1 e (nameT n::r)=.ok (n,r):=rfl
theorem RC (n:ByteArray) (r:List Tok) (s:StV):nameR ⟨nameT n::r,s⟩=.ok ⟨r,{ s with names:=s.names++[n] }⟩:=rfl
end
section
open Go.RowKit
open Ex (qG nameT valT lY Di pf yz)
theorem Jy {l:List OpV} {s:ByteArray} (h:∀ o∈l,okO o) (ht:gl l=(s,0)):s=kl (l.map cD)∧(∀ o∈l,OpOk o)∧lj l=false∧l.length≤8:=by
 unfold gl at ht
 split at ht
 ·rename_i hc
  injection ht with h1 h2
  exact absurd h2 hc
 rename_i hc
 split at ht
 ·injection ht with h1 h2;cases h2
 rename_i h8
 split at ht
 ·injection ht with h1 h2;cases h2
 rename_i hb
 injection ht with h1 h2
 subst h1
 have hall:∀ o∈l,iD o=0:=by
  have hc:=Decidable.not_not.1 hc
  intro o ho
  obtain ⟨i,hi,e⟩:=List.mem_iff_getElem.1 ho
  have key:∀ n:Nat,∀ j,j<n→∀ p,l[j]? = some p→iD p=0:=by
   intro n
   induction n with
   | zero=>intro j hj;omega
   | succ n ih =>
    intro j hj p hp
    by_cases hz:iD p=0
    ·exact hz
    ·have:=uh (i:=j) (fun k q hk hq=>ih k (by omega) q hq) hp hz
     rw [hc] at this
     exact absurd this.symm hz
  exact key (i+1) i (Nat.lt_succ_self i) o (by rw [List.getElem?_eq_getElem hi,e])
 exact ⟨rfl,fun o ho=>⟨h o ho,hall o ho⟩,by simpa using hb,by omega⟩
structure QM (s:StV):Prop where
 vals:∀ v∈s.vals,gW v
 opers:∀ o∈s.opers,okO o
 bytes:∀ z∈s.bytes,0≤z∧z≤255
theorem Dx:∀ {l:List Val},mg l=0→∀ v∈l,(Ex.printF v).2=0
 | [],_,v,hv=>by cases hv
 | w::r,h,v,hv=>by
  unfold mg at h
  split at h
  ·rename_i h0
   rcases List.mem_cons.1 hv with rfl | hv
   ·exact h0
   ·exact Dx h v hv
  ·rename_i h0;exact absurd h h0
theorem P5 {v:Val} (hp:(Ex.printF v).2=0) (h:gW v):lY v:=Ex.print_ok (s:=(Ex.printF v).1) (by rw [← hp]) h.2.2.1 h.2.2.2
structure HasLine (s:StV):Prop where
 labels:∀ n∈s.labels,ik n=true∧n≠tk
 few:s.labels.length≤8
 uses:rS s=true
 counts:bG s=true
 names:∀ n∈s.names,fI (ab n)=true
 nfew:s.names.length≤64
 vfew:s.vals.length≤64
 align:s.kind=4→iM (s.vals.getD 0 ⟨0,emp,emp⟩)=true
 vals:∀ v∈s.vals,(Ex.printF v).2=0∧lY v
 opers:cM (gl s.opers).1 gy=false∧(gl s.opers).2=0
 size:(Gn s).size≤512
end
section
open Go.RowKit
open Ex (qG nameT valT lY Di pf yz)
end
section
open Go.RowKit
open Ex (qG nameT valT lY Di pf yz)
structure ReadS (s:StV):Prop where
 chk:e7 s=0
 good:QM s
 plain:Pt s=s
end
end Go.Proofs.YtnhbidpdadkcjaaGreatDoor
