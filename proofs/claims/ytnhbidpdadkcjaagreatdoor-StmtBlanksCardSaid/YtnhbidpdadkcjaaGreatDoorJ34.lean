import Derived.Test.YtnhbidpdadkcjaaGreatDoorJ33
import Derived.Test.YtnhbidpdadkcjaaGreatDoorJ29
set_option linter.unusedVariables false
set_option linter.unusedSimpArgs false
set_option maxRecDepth 100000
set_option maxHeartbeats 8000000
namespace Go.Proofs.YtnhbidpdadkcjaaGreatDoor
section
open Go.RowKit
open Ex (qG nameT valT lY)
section
variable {o:OpV} {r:List Tok}
end
end
section
open Go.RowKit
open Ex (qG nameT valT lY)
structure PlainOk (o p:OpV):Prop where
 ok:OpOk p
 hash:(aj (cD p) 0==35)=(aj (cD o) 0==35)
 alone:p=o∨QV p=false
end
section
open Go.RowKit
structure ReadOk (out:List OpV):Prop where
 plain:∀ o∈out,Mx o=o
 bad:∀ i a b,out[i]? = some a→out[i+1]? = some b→jt a b=false
theorem Li {s:ByteArray} {ts:List Tok} {n:Nat} (h:kr (ab s)=(ts,n,0)):RdOk ts:=by
 have hl:(ab s).length=s.size:=aW s
 unfold kr at h
 split at h
 ·cases h
 ·rename_i hz
  have hr:∀ z∈ab s,0≤z∧z≤255:=fun z hz=>lq hz
  have h1:=vS ts 0 n 0 (Nat.zero_le _) (by rw [List.drop_zero];exact h)
  have h2:=qM hr (by omega) ts 0 n 0 (Nat.zero_le _) (by rw [List.drop_zero];exact h)
  refine ⟨fun t ht hk=>?_,by have:=h1.2.2.2;omega⟩
  have key:∀ (ts:List Tok) (p:Nat),Rises (ab s).length p ts→∀ t∈ts,t.kind=1→ik t.text=true:=by
   intro ts
   induction ts with
   | nil=>intro p _ t ht;cases ht
   | cons u ts ih =>
    rintro p ⟨⟨hc,hsz⟩,a,-,-,-,hrest⟩ t ht hk
    rcases List.mem_cons.1 ht with rfl | ht
    ·obtain ⟨hi,-⟩:=Ex.check_is hc
     unfold isT at hi
     rw [if_pos hk] at hi
     unfold ik
     rw [decide_eq_true hsz,Ex.nameB_nameL,hi];rfl
    ·exact ih _ hrest t ht hk
  exact key ts 0 h2 t ht hk
end
end Go.Proofs.YtnhbidpdadkcjaaGreatDoor
