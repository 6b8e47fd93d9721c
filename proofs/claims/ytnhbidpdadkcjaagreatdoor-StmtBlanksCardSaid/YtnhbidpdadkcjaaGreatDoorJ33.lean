import Derived.Test.YtnhbidpdadkcjaaGreatDoorJ32
set_option linter.unusedVariables false
set_option linter.unusedSimpArgs false
set_option maxRecDepth 100000
set_option maxHeartbeats 8000000
namespace Go.Proofs.YtnhbidpdadkcjaaGreatDoor
section
open Go.RowKit
open Ex (qG nameT valT pf lY Di)
theorem Nj {o:OpV} (ho:okO o) (h:(prO o).2=0):lY o.val:=Ex.print_ok (s:=(Ex.printF o.val).1) (by rw [← h];rfl) ho.2.1 ho.2.2
theorem mods_fin:∀ j:Fin 13,j.val=0∨(cX 3 (j.val:Int)).2=0:=by decide +kernel
theorem CF {o:OpV} (h0:0≤o.md) (h1:o.md≤12):QB o:=by
 obtain ⟨k,hk⟩:=Int.eq_ofNat_of_zero_le h0
 rcases mods_fin ⟨k,by omega⟩ with h | h
 ·exact .inl (by simp only at h;omega)
 ·exact .inr (by rw [hk];exact h)
structure Td (o:OpV):Prop where
 r:nl o.r=true
 v:lY o.val
 p:(prO o).2=0
 i:o.mode=3→fo o=true
structure OpOk (o:OpV):Prop where
 ok:okO o
 chk:iD o=0
theorem OpOk.val {o:OpV} (h:OpOk o):lY o.val:=Nj h.ok (ox h.chk).2.1
theorem OpOk.mem {o:OpV} (h:OpOk o) (hm:gB o=true):Td o:=by
 obtain ⟨h1,h2,h3⟩:=zD hm
 refine ⟨h1,h.val,(ox h.chk).2.1,fun h3'=>?_⟩
 rcases h3 with h | h | h | h
 ·omega
 ·omega
 ·omega
 ·exact h.2
theorem OpOk.n {o:OpV} (h:OpOk o) (hk:o.kind=4∨o.kind=6∨o.kind=7∨o.kind=8∨o.kind=9):(0≤o.n∧o.n≤lE o.kind):=by
 obtain ⟨-,hc⟩:=nI (ox h.chk).1
 rcases hc with ⟨k,-⟩ | ⟨k,-⟩ | k | ⟨-,n0,n1⟩ | ⟨k,-⟩
 ·omega
 ·omega
 ·omega
 ·exact ⟨n0,n1⟩
 ·omega
theorem OpOk.named {o:OpV} (h:OpOk o):(o.kind=4→(cX 2 o.n).2=0)∧(o.kind=6→(cX 6 o.n).2=0)∧(o.kind=7∨o.kind=8∨o.kind=9→0≤o.n∧o.n<100):=by
 refine ⟨fun k=>?_,fun k=>?_,fun k=>?_⟩
 ·obtain ⟨n0,n1⟩:=h.n (by omega)
  rw [k] at n1
  exact zH n0 n1
 ·obtain ⟨n0,n1⟩:=h.n (by omega)
  rw [k] at n1
  exact CI n0 n1
 ·obtain ⟨n0,n1⟩:=h.n (by omega)
  refine ⟨n0,?_⟩
  rcases k with k | k | k<;>rw [k] at n1
  ·have:lE 7=15:=rfl
   omega
  ·have:lE 8=31:=rfl
   omega
  ·have:lE 9=5:=rfl
   omega
theorem OpOk.amount {o:OpV} (h:OpOk o) (hk:o.kind=1∨o.kind=2):QB o∧0≤o.amt∧o.amt<100:=by
 obtain ⟨-,hc⟩:=nI (ox h.chk).1
 rcases hc with ⟨k,-,ha⟩ | ⟨k,ha⟩ | k | ⟨k,-⟩ | ⟨k,-⟩
 ·obtain ⟨⟨a,b⟩,c,d⟩:=qU ha
  exact ⟨CF a b,c,d⟩
 ·obtain ⟨⟨a,b⟩,c,d⟩:=qU ha
  exact ⟨CF a (by omega),c,d⟩
 ·omega
 ·omega
 ·omega
theorem OpOk.reg {o:OpV} (h:OpOk o) (hk:o.kind=1):nl o.r=true:=by
 obtain ⟨-,hc⟩:=nI (ox h.chk).1
 rcases hc with ⟨k,hr,ha⟩ | ⟨k,ha⟩ | k | ⟨k,-⟩ | ⟨k,-⟩
 ·exact hr
 all_goals omega
def Tc (l:List (Bool×Tok)):Prop:=∀ u∈l,fA u.2=u.2
end
section
open Go.RowKit
open Ex (qG nameT valT lY)
theorem at_sg (s:ByteArray) (r:List Tok):atF (qG s::r) 4 0=s:=rfl
theorem at_sg1 (s:ByteArray) (r:List Tok):atF (qG s::r) 1 0=emp:=rfl
theorem at_nm (s:ByteArray) (r:List Tok):atF (nameT s::r) 1 0=s:=rfl
theorem at_nm4 (s:ByteArray) (r:List Tok):atF (nameT s::r) 4 0=emp:=rfl
theorem at_num (n:Int) (r:List Tok):atF (Ex.numT n::r) 1 0=emp:=rfl
theorem at_num4 (n:Int) (r:List Tok):atF (Ex.numT n::r) 4 0=emp:=rfl
theorem at_succ (t:Tok) (r:List Tok) (k:Int) (n:Nat):atF (t::r) k (n+1)=atF r k n:=rfl
end
end Go.Proofs.YtnhbidpdadkcjaaGreatDoor
