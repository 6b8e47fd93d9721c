import Derived.Test.YthcoegkfpinlfaaGreatDoorJ10
import Derived.Test.YthcoegkfpinlfaaGreatDoorJ01
import Derived.Test.YthcoegkfpinlfaaGreatDoorChecked
import Derived.WalkKit
import Derived.WalkSpells
import Derived.WalkLawsBesides
import Derived.Lib.Hide
import Derived.OpenShut
set_option linter.unusedVariables false
set_option linter.unusedSimpArgs false
set_option maxRecDepth 100000
set_option maxHeartbeats 8000000
namespace Go.Proofs.YthcoegkfpinlfaaGreatDoor
structure OpV where
 kind:Int
 r:hP
 m:hP
 md:Int
 amt:Int
 n:Int
 add:Int
 plus:ByteArray
 minus:ByteArray
 lo:Bool
 mode:Int
deriving instance DecidableEq for OpV
def r0:hP:=⟨0,false,false⟩
def op0 (kind:Int):OpV:=⟨kind,r0,r0,0,0,0,0,emp,emp,false,0⟩
end Go.Proofs.YthcoegkfpinlfaaGreatDoor
namespace Go.Proofs.YthcoegkfpinlfaaGreatDoor
structure Tok where
 kind:Int
 text:ByteArray
 n:Int
 pos:Int
end Go.Proofs.YthcoegkfpinlfaaGreatDoor
namespace Go.Proofs.YthcoegkfpinlfaaGreatDoor
open Go.RowKit
theorem oh (n:Int) (w:World) :
  Calls Tryz.prog 149 #[.int .u8 n] w fun e w'=>e=.returned (.bool (bG n))∧w=w':=by
 go_enter Tryz.func149,Tryz.ntmps149
 go_wp2
 all_goals (go_ret;refine ⟨gl ?_,rfl⟩;rw [Bool.eq_iff_iff];simp [bG];try omega)
theorem xP (n:Int) (w:World) :
  Calls Tryz.prog 165 #[.int .u8 n] w fun e w'=>e=.returned (.bool (cy n))∧w=w':=by
 go_enter Tryz.func165,Tryz.ntmps165
 go_wp2
 all_goals (go_ret;refine ⟨gl ?_,rfl⟩;rw [Bool.eq_iff_iff];simp [cy];try omega)
theorem I1 (n:Int) (w:World) :
  Calls Tryz.prog 151 #[.int .u8 n] w fun e w'=>e=.returned (.bool (bn n))∧w=w':=by
 by_cases h:bG n=true
 ·go_enter Tryz.func151,Tryz.ntmps151
  go_wp2_with (first | (go_at_call 149;refine (oh _ _).mono ?_;rintro e w' ⟨rfl,rfl⟩) | (go_at_call 165;refine (xP _ _).mono ?_;rintro e w' ⟨rfl,rfl⟩))
  go_ret;exact ⟨gl (by simp [bn,h]),rfl⟩
 ·have h':bG n=false:=by simpa using h
  go_enter Tryz.func151,Tryz.ntmps151
  go_wp2_with (first | (go_at_call 149;refine (oh _ _).mono ?_;rintro e w' ⟨rfl,rfl⟩) | (go_at_call 165;refine (xP _ _).mono ?_;rintro e w' ⟨rfl,rfl⟩))
  go_ret;exact ⟨gl (by simp [bn,h']),rfl⟩
theorem Oh (F:Nat) (g:Int→Bool) (hE:∀ args w,(callFunc F args).run Tryz.prog w=.ok (.enter F args) w) (hF:∀ (n:Int) (w:World),Calls Tryz.prog F #[.int .u8 n] w fun e w'=>e=.returned (.bool (g n))∧w=w') (s:ByteArray) (w:World) (hs:s.size≤maxLen) :
  Calls Tryz.prog 150 #[.string s,.func (.func F) #[] #[]] w fun e w'=>e=.returned (.int .i64 (un g s.data.toList))∧w=w':=by
 have HF:=Lib.hid hF
 clear hF
 unfold maxLen at hs
 go_enter Tryz.func150,Tryz.ntmps150
 go_wp2_with fail
 go_loop [5] (fun n=>∃ k:Nat,k≤s.size∧n=.int .i64 k∧Hid (un g (s.data.toList.drop k)+k=un g s.data.toList)) (fun n=>s.size-(intOf n).toNat)
 case atStart=>exact ⟨0,Nat.zero_le _,rfl,show _=_ by simp⟩
 case round =>
  obtain ⟨k,hk,rfl,hr⟩:=hrel
  by_cases hlt:k<s.size
  ·have st:=Lib.hid (IE g s k hlt)
   by_cases hg:g (s[k].toNat:Int)=true
   ·go_wp2_with fail
    refine (HF.out _ _).mono ?_
    rintro e w' ⟨rfl,rfl⟩
    go_wp2_with fail
    go_round
    case rel=>exact ⟨k+1,by omega,by go_num,show _=_ by rw [← hr.out,st.out,if_pos hg];omega⟩
    case measure=>simp [intOf];omega
   ·have hg':g (s[k].toNat:Int)=false:=by simpa using hg
    go_wp2_with fail
    refine (HF.out _ _).mono ?_
    rintro e w' ⟨rfl,rfl⟩
    go_wp2_with fail
    go_ret
    exact ⟨oL (by have h1:=hr.out;rw [st.out,if_neg (by simp [hg'])] at h1;omega),rfl⟩
  ·have h0:=Lib.hid (LR g s k (by omega))
   go_wp2_with fail
   go_ret
   exact ⟨oL (by have h1:=hr.out;rw [h0.out] at h1;omega),rfl⟩
theorem Bb (args:Array Value) (w:World):(callFunc 151 args).run Tryz.prog w=.ok (.enter 151 args) w:=by go_simp
theorem yN (s:ByteArray) (w:World) (hs:s.size≤maxLen) :
  Calls Tryz.prog 150 #[.string s,.func (.func 151) #[] #[]] w fun e w'=>e=.returned (.int .i64 (un bn s.data.toList))∧w=w' :=
 Oh _ _ Bb I1 s w hs
theorem BF (s:ByteArray) (w:World) (hs:s.size≤maxLen) :
  Calls Tryz.prog 130 #[.string s] w fun e w'=>e=.returned (.bool (vX s))∧w=w':=by
 by_cases h0:s.size=0
 ·have h1:s.toList=[]:=Fd h0
  have h2:s.toList.isEmpty=true:=by rw [h1];rfl
  go_enter Tryz.func130,Tryz.ntmps130
  go_wp2_with fail
  go_ret
  exact ⟨gl (yh h0),rfl⟩
 ·have h1:0<s.size:=by omega
  have h2:s.toList.isEmpty=false:=An h0
  have h3:¬s.toList=[]:=w9 h0
  by_cases hl:bG (s[0].toNat:Int)=true
  ·go_enter Tryz.func130,Tryz.ntmps130
   go_wp2_with (first | (go_at_call 149;refine (oh _ _).mono ?_;rintro e w' ⟨rfl,rfl⟩) | (go_at_call 150;refine (yN _ _ hs).mono ?_;rintro e w' ⟨rfl,rfl⟩))
   go_ret
   exact ⟨gl (by rw [qY h1,hl,Bool.true_and,Bool.eq_iff_iff,beq_iff_eq,beq_iff_eq];omega),rfl⟩
  ·have hl':bG (s[0].toNat:Int)=false:=by simpa using hl
   go_enter Tryz.func130,Tryz.ntmps130
   go_wp2_with (first | (go_at_call 149;refine (oh _ _).mono ?_;rintro e w' ⟨rfl,rfl⟩) | (go_at_call 150;refine (yN _ _ hs).mono ?_;rintro e w' ⟨rfl,rfl⟩))
   go_ret
   exact ⟨gl (by rw [qY h1,hl'];simp),rfl⟩
theorem bp (s:ByteArray) (w:World) (hs:s.size≤maxLen) :
  Calls Tryz.prog 77 #[.string s] w fun e w'=>e=.returned (.bool (dQ s))∧w=w':=by
 by_cases h:s.size≤512
 ·have h':(s.size:Int)≤512:=by omega
  go_enter Tryz.func77,Tryz.ntmps77
  go_wp2_with (first | (go_at_call 130;refine (BF _ _ hs).mono ?_;rintro e w' ⟨rfl,rfl⟩))
  go_ret
  exact ⟨gl (by simp [dQ,h]),rfl⟩
 ·have h':(512:Int)<s.size:=by omega
  go_enter Tryz.func77,Tryz.ntmps77
  go_wp2_with (first | (go_at_call 130;refine (BF _ _ hs).mono ?_;rintro e w' ⟨rfl,rfl⟩))
  go_ret
  exact ⟨gl (by simp [dQ,h]),rfl⟩
end Go.Proofs.YthcoegkfpinlfaaGreatDoor
namespace Go.Proofs.YthcoegkfpinlfaaGreatDoor.Ex
open Go.RowKit
def _root_.Go.Proofs.YthcoegkfpinlfaaGreatDoor.Val.cells (x:Val):List Value:=[.int .i64 x.add,.string x.plus,.string x.minus]
def cH (k:Int) (a b:Val):Val×Int :=
 if k=3 then (rU b,0)
 else if k=4 then (if dm b.plus b.minus=true then (⟨bits .xor .i64 (-1) b.add,emp,emp⟩,0) else (eY,91))
 else if k=8 then mG a b
 else if k=9 then mG a (rU b)
 else if dm a.plus a.minus=true∧dm b.plus b.minus=true then (⟨(j5 k a.add b.add).1,emp,emp⟩,(j5 k a.add b.add).2) else (eY,91)
theorem Dl (a:Val) {b:Val} (h:dm b.plus b.minus=true):cH 4 a b=(⟨bits .xor .i64 (-1) b.add,⟨#[]⟩,⟨#[]⟩⟩,0):=by simp [cH,h,emp]
theorem uZ (a:Val) {b:Val} (h:dm b.plus b.minus=false):cH 4 a b=(⟨0,⟨#[]⟩,⟨#[]⟩⟩,91):=by simp [cH,h,eY,emp]
theorem Dk (a b:Val):cH 8 a b=mG a b:=by simp [cH]
theorem Dn (a b:Val):cH 9 a b=mG a ⟨wrap64 (-b.add),b.minus,b.plus⟩:=by simp [cH,rU]
theorem Dm {k:Int} {a b:Val} (k3:(k==3)=false) (k4:(k==4)=false) (k8:(k==8)=false) (k9:(k==9)=false) (ha:dm a.plus a.minus=true) (hb:dm b.plus b.minus=true) :
  cH k a b=(⟨(j5 k a.add b.add).1,⟨#[]⟩,⟨#[]⟩⟩,(j5 k a.add b.add).2):=by
 simp only [beq_eq_false_iff_ne,ne_eq] at k3 k4 k8 k9
 simp [cH,k3,k4,k8,k9,ha,hb,emp]
theorem pf {k:Int} {a b:Val} (k3:(k==3)=false) (k4:(k==4)=false) (k8:(k==8)=false) (k9:(k==9)=false) (h:dm a.plus a.minus=false∨dm b.plus b.minus=false) :
  cH k a b=(⟨0,⟨#[]⟩,⟨#[]⟩⟩,91):=by
 simp only [beq_eq_false_iff_ne,ne_eq] at k3 k4 k8 k9
 rcases h with h | h<;>simp [cH,k3,k4,k8,k9,h,eY,emp]
def _root_.Go.Proofs.YthcoegkfpinlfaaGreatDoor.Val.le (x:Val) (k:Nat):Prop:=x.plus.size≤k∧x.minus.size≤k
theorem xK {x:Val} {k:Nat} (h:x.le k):(bC x).le k:=pr rfl h.1 h.2
theorem Fq {a b:Val} {k:Nat} (ha:a.le k) (hb:b.le k):(mG a b).1.le k:=by
 obtain ⟨a1,a2⟩:=xK ha
 obtain ⟨b1,b2⟩:=xK hb
 obtain ⟨m1,m2⟩:=ot (show d6 (bC a).plus (bC b).minus=((d6 (bC a).plus (bC b).minus).1,(d6 (bC a).plus (bC b).minus).2) from rfl) a1 b2
 obtain ⟨m3,m4⟩:=ot (show d6 (bC a).minus (bC b).plus=((d6 (bC a).minus (bC b).plus).1,(d6 (bC a).minus (bC b).plus).2) from rfl) a2 b1
 unfold mG
 dsimp only
 split
 ·exact ⟨by simp [eY,emp,ByteArray.size],by simp [eY,emp,ByteArray.size]⟩
 ·rename_i h
  have e0:emp.size=0:=rfl
  constructor
  ·show (_++_:ByteArray).size≤k
   rw [ByteArray.size_append]
   by_cases h1:(d6 (bC a).plus (bC b).minus).fst=emp
   ·rw [h1,e0];omega
   ·have h2:(d6 (bC a).minus (bC b).plus).snd=emp:=Decidable.byContradiction fun h2=>h (.inl ⟨h1,h2⟩)
    rw [h2,e0];omega
  ·show (_++_:ByteArray).size≤k
   rw [ByteArray.size_append]
   by_cases h1:(d6 (bC a).minus (bC b).plus).fst=emp
   ·rw [h1,e0];omega
   ·have h2:(d6 (bC a).plus (bC b).minus).snd=emp:=Decidable.byContradiction fun h2=>h (.inr ⟨h1,h2⟩)
    rw [h2,e0];omega
theorem DV (n:Int) (k:Nat):Val.le ⟨n,emp,emp⟩ k:=⟨Nat.zero_le _,Nat.zero_le _⟩
theorem GK (m:Int) {a b:Val} {k:Nat} (ha:a.le k) (hb:b.le k):(cH m a b).1.le k:=by
 have hn:(rU b).le k:=⟨hb.2,hb.1⟩
 unfold cH
 split
 ·exact hn
 split
 ·split<;>exact DV _ _
 split
 ·exact Fq ha hb
 split
 ·exact Fq ha hn
 split<;>exact DV _ _
def ee (vs:List Val):List Term→Val×Int
 | []=>(vs.getD 0 eY,0)
 | t::r =>
  if bz t.kind=0 then ee (vs++[⟨t.n,t.sym,emp⟩]) r
  else
   let y:=cH t.kind (vs.getD (vs.length-2) eY) (vs.getD (vs.length-1) eY)
   if y.2=0 then ee (vs.take (vs.length-(bz t.kind).toNat)++[y.1]) r else (eY,y.2)
def evalAll (l:List Term):Val×Int:=if dM l=0 then ee [] l else (eY,dM l)
theorem vt {vs:List Val} {t:Term} {r:List Term} (h:bz t.kind=0):ee vs (t::r)=ee (vs++[⟨t.n,t.sym,emp⟩]) r:=by rw [ee,if_pos h]
theorem vu {vs:List Val} {t:Term} {r:List Term} (h:¬bz t.kind=0) {v:Val} (e:cH t.kind (vs.getD (vs.length-2) eY) (vs.getD (vs.length-1) eY)=(v,0)) :
  ee vs (t::r)=ee (vs.take (vs.length-(bz t.kind).toNat)++[v]) r:=by
 rw [ee,if_neg h];dsimp only;rw [e,if_pos rfl]
theorem Hg {vs:List Val} {t:Term} {r:List Term} (h:¬bz t.kind=0) {v:Val} {x:Int} (hx:¬x=0) (e:cH t.kind (vs.getD (vs.length-2) eY) (vs.getD (vs.length-1) eY)=(v,x)) :
  ee vs (t::r)=(eY,x):=by
 rw [ee,if_neg h];dsimp only;rw [e,if_neg hx]
theorem DN {h:Int} {t:Term} {r:List Term} (e:cQ h (t::r)=0):gq t=true∧bz t.kind≤h∧cQ (h+(1-bz t.kind)) r=0:=by
 rw [cQ] at e
 split at e
 ·cases e
 ·rename_i hn
  refine ⟨?_,?_,e⟩
  ·cases ht:gq t with
   | true=>rfl
   | false=>exact (hn (.inl ht)).elim
  ·exact Int.not_lt.1 fun hlt=>hn (.inr hlt)
theorem Hk {h:Int} (e:cQ h []=0):h=1:=by
 rw [cQ] at e;split at e
 ·assumption
 ·cases e
theorem AR {ts:List Term} (h:dM ts=0):cQ 0 ts=0:=by
 unfold dM at h
 split at h
 ·split at h
  ·cases h
  ·exact h
 ·exact h
theorem zt {k:Int} (h:bz k=1) (a a' b:Val):cH k a b=cH k a' b:=by
 have:k=3∨k=4:=by
  unfold bz at h
  split at h
  ·assumption
  ·split at h<;>omega
 rcases this with rfl | rfl<;>simp [cH]
end Go.Proofs.YthcoegkfpinlfaaGreatDoor.Ex
namespace Go.Proofs.YthcoegkfpinlfaaGreatDoor.Ex
open Go.RowKit
def decG:Nat→Nat→List UInt8
 | 0,_=>[]
 | f+1,n=>if n<10 then [UInt8.ofNat (48+n)] else decG f (n / 10)++[UInt8.ofNat (48+n % 10)]
def decS (n:Nat):ByteArray:=⟨(decG 20 n).toArray⟩
theorem AY:∀ f n,(decG f n).length≤f
 | 0,_=>Nat.le_refl _
 | f+1,n=>by
  rw [decG]
  split
  ·simp
  ·rw [List.length_append];have:=AY f (n / 10);simp;omega
theorem decS_size (n:Nat):(decS n).size≤20:=by
 show (decG 20 n).toArray.size≤20
 rw [List.size_toArray];exact AY 20 n
theorem Oy {n:Int} (h:n<0) (hl : -9223372036854775808≤n):IntKind.u64.wrap (-IntKind.u64.wrap n)=(((-n).toNat:Nat):Int):=by
 rw [IntKind.wrap_u64,IntKind.wrap_u64];omega
theorem Gl {n:Int} (h:0≤n) (hl:n≤9223372036854775807):IntKind.u64.wrap n=((n.toNat:Nat):Int):=by
 rw [IntKind.wrap_u64];omega
def signS (n:Int):ByteArray:=if n<0 then ⟨#[45]⟩++decS (-n).toNat else ⟨#[43]⟩++decS n.toNat
theorem signS_size (n:Int):(signS n).size≤21:=by
 have h1:=decS_size (-n).toNat
 have h2:=decS_size n.toNat
 have e1:(⟨#[45]⟩:ByteArray).size=1:=rfl
 have e2:(⟨#[43]⟩:ByteArray).size=1:=rfl
 unfold signS
 split<;>rw [ByteArray.size_append]<;>omega
theorem nI {s:ByteArray} (h:dQ s=true):s.size≤512:=by
 unfold dQ at h;simp at h;exact h.1
theorem J7 {m:ByteArray} (h:¬m=emp):¬emp=m:=fun e=>h e.symm
def printF (v:Val):ByteArray×Int :=
 if (v.plus≠emp∧dQ v.plus=false)∨(v.minus≠emp∧dQ v.minus=false) then (emp,90)
 else if v.plus=v.minus∧v.plus≠emp then (emp,90)
 else if v.plus=emp∧v.minus=emp then (if v.add<0 then (signS v.add,0) else (decS v.add.toNat,0))
 else
  let o:=if v.plus=emp then ⟨#[48]⟩ else v.plus
  let o:=if v.minus=emp then o else o++(⟨#[45]⟩++v.minus)
  (if v.add=0 then o else o++signS v.add,0)
end Go.Proofs.YthcoegkfpinlfaaGreatDoor.Ex
namespace Go.Proofs.YthcoegkfpinlfaaGreatDoor.Ex
open Go.RowKit
theorem Nb {m q:Nat} (h:m<10 ^ (q+1)):m / 10<10 ^ q:=by
 rw [Nat.pow_succ] at h;omega
theorem Na {m q:Nat} (h:m<10 ^ (q+1)) (h10:¬m<10):0<q:=by
 rcases Nat.eq_zero_or_pos q with rfl | h0
 ·simp at h;omega
 ·exact h0
end Go.Proofs.YthcoegkfpinlfaaGreatDoor.Ex
namespace Go.Proofs.YthcoegkfpinlfaaGreatDoor.Ex
open Go.RowKit
def eC (k:Int):ByteArray :=
 if k=3 then ⟨#[45]⟩ else if k=4 then ⟨#[126]⟩ else if k=5 then ⟨#[42]⟩ else if k=6 then ⟨#[47]⟩ else if k=7 then ⟨#[37]⟩ else if k=8 then ⟨#[43]⟩ else if k=9 then ⟨#[45]⟩
 else if k=10 then ⟨#[60,60]⟩ else if k=11 then ⟨#[62,62]⟩ else if k=12 then ⟨#[38]⟩ else if k=13 then ⟨#[94]⟩ else ⟨#[124]⟩
structure Pc where
 s:ByteArray
 d:Int
def QL (num:Int→ByteArray) (t:Term):Pc:=⟨if t.kind=1 then num t.n else t.sym,0⟩
def unF (k:Int) (x:Pc):Pc:=⟨(⟨#[40]⟩++eC k)++x.s++⟨#[41]⟩,x.d+1⟩
def biF (k:Int) (x y:Pc):Pc:=⟨((⟨#[40]⟩++x.s)++eC k)++y.s++⟨#[41]⟩,max x.d y.d+1⟩
def My:Pc:=⟨emp,0⟩
def QX (num:Int→ByteArray) (st:List Pc) (t:Term):List Pc :=
 if bz t.kind=0 then st++[QL num t]
 else if bz t.kind=1 then st.take (st.length-1)++[unF t.kind (st.getD (st.length-1) My)]
 else st.take (st.length-2)++[biF t.kind (st.getD (st.length-2) My) (st.getD (st.length-1) My)]
def dK (num:Int→ByteArray) (st:List Pc):List Term→List Pc
 | []=>st
 | t::r=>dK num (QX num st t) r
def room (st:List Pc):Nat:=(st.map fun x=>x.s.size).sum
structure Fine (k:Nat) (st:List Pc):Prop where
 len:st.length≤k
 room:room st≤1000*k
 dep:∀ x∈st,0≤x.d∧x.d≤k
end Go.Proofs.YthcoegkfpinlfaaGreatDoor.Ex
namespace Go.Proofs.YthcoegkfpinlfaaGreatDoor.Ex
open Go.RowKit
structure PS where
 at_:Nat
 op:Int
 ts:List Term
abbrev PR:=Except Int PS
def jz (t:Term) (s:PS):PR:=if 256<s.ts.length+1 then .error 93 else .ok { s with ts:=s.ts++[t] }
def cT (l:List Tok) (s:PS):ByteArray :=
 match l[s.at_]? with
 | some t=>if t.kind=4 then t.text else emp
 | none=>emp
def dV (read:PS→PR) (s:PS):PR :=
 if 64<s.op+1 then .error 93 else
 match read ⟨s.at_+1,s.op+1,s.ts⟩ with
 | .ok s'=>.ok { s' with op:=s'.op-1 }
 | .error e=>.error e
def cf (s:ByteArray):List Int→Int→Int
 | [],f=>f
 | k::r,f=>cf s r (if s≠emp∧s=eC k then k else f)
def eB (l:List Tok) (read:PS→PR) (kinds:List Int):Nat→PS→PR
 | 0,s=>.ok s
 | m+1,s =>
  if cf (cT l s) kinds 0=0 then .ok s else
  match read ⟨s.at_+1,s.op,s.ts⟩ with
  | .error e=>.error e
  | .ok s'=>match jz ⟨cf (cT l s) kinds 0,0,emp⟩ s' with
   | .error e=>.error e
   | .ok s''=>eB l read kinds m s''
def dW (l:List Tok) (read:PS→PR) (kinds:List Int) (s:PS):PR :=
 match read s with
 | .error e=>.error e
 | .ok s'=>eB l read kinds l.length s'
def fK (l:List Tok) (read:PS→PR):PS→PR :=
 dW l (dW l (dW l (dW l (dW l (dW l read [5,6,7]) [8,9]) [10,11]) [12]) [13]) [14]
def aU (l:List Tok):Nat→PS→PR
 | 0,_=>.error 90
 | N+1,s=>match l[s.at_]? with
  | none=>.error 90
  | some t =>
   if t.kind=2 then jz ⟨1,wrap64 t.n,emp⟩ { s with at_:=s.at_+1 }
   else if t.kind=1 then jz ⟨2,0,t.text⟩ { s with at_:=s.at_+1 }
   else if t.kind=4∧t.text=⟨#[40]⟩ then
    match dV (fK l (aU l N)) s with
    | .error e=>.error e
    | .ok s'=>if cT l s'=⟨#[41]⟩ then .ok { s' with at_:=s'.at_+1 } else .error 90
   else if t.kind=4∧(t.text=⟨#[45]⟩∨t.text=⟨#[126]⟩) then
    match dV (aU l N) s with
    | .error e=>.error e
    | .ok s'=>jz ⟨if t.text=⟨#[126]⟩ then 4 else 3,0,emp⟩ s'
   else .error 90
structure POk (l:List Tok) (N:Nat) (s:PS):Prop where
 le:s.at_≤l.length
 rem:l.length≤s.at_+N
 op0:0≤s.op
 op1:s.op≤64
 ts:s.ts.length≤256
def Au (l:List Tok) (N:Nat) (F:PS→PR):Prop :=
 ∀ s s',POk l N s→F s=.ok s'→s.at_<s'.at_∧s'.at_≤l.length∧s'.op=s.op∧s'.ts.length≤256
theorem qi {t:Term} {s s':PS} (h:jz t s=.ok s'):s'={ s with ts:=s.ts++[t] }∧s.ts.length+1≤256:=by
 unfold jz at h
 split at h
 ·cases h
 ·injection h with h;exact ⟨h.symm,by omega⟩
theorem rW {l:List Tok} {s:PS} (h:cT l s≠emp):s.at_<l.length:=by
 unfold cT at h
 split at h
 ·rename_i t ht;exact (List.getElem?_eq_some_iff.1 ht).1
 ·exact absurd rfl h
theorem oa:∀ (kinds:List Int) (f:Int),cf emp kinds f=f
 | [],f=>rfl
 | k::r,f=>by rw [cf,if_neg (by simp),oa r f]
theorem sL {l:List Tok} {s:PS} {kinds:List Int} (h:¬cf (cT l s) kinds 0=0):cT l s≠emp:=by
 intro e
 rw [e,oa] at h
 exact h rfl
theorem POk.mono {l:List Tok} {N N':Nat} {s:PS} (h:POk l N s) (hN:N≤N'):POk l N' s:=⟨h.le,by have:=h.rem;omega,h.op0,h.op1,h.ts⟩
theorem jS {l:List Tok} {N:Nat} {read:PS→PR} (h:Au l N read) {s s':PS} (hs:POk l (N+1) s) (hlt:s.at_<l.length) (e:dV read s=.ok s'):s.at_+1<s'.at_∧s'.at_≤l.length∧s'.op=s.op∧s'.ts.length≤256:=by
 unfold dV at e
 split at e
 ·cases e
 ·split at e
  ·rename_i hop q hq
   injection e with e
   subst e
   have:=h ⟨s.at_+1,s.op+1,s.ts⟩ _ ⟨by show s.at_+1≤_;omega,by have:=hs.rem;show _≤s.at_+1+N;omega,by have:=hs.op0;show 0≤s.op+1;omega,by show s.op+1≤64;omega,hs.ts⟩ hq
   simp only at this ⊢
   exact ⟨this.1,this.2.1,by omega,this.2.2.2⟩
  ·cases e
theorem sf {l:List Tok} {N:Nat} {read:PS→PR} {kinds:List Int} (h:Au l N read):∀ (m:Nat) {s s':PS},POk l (N+1) s→eB l read kinds m s=.ok s'→s.at_≤s'.at_∧s'.at_≤l.length∧s'.op=s.op∧s'.ts.length≤256
 | 0,s,s',hs,e=>by
  injection e with e;subst e
  exact ⟨Nat.le_refl _,hs.le,rfl,hs.ts⟩
 | m+1,s,s',hs,e=>by
  rw [eB] at e
  split at e
  ·injection e with e;subst e
   exact ⟨Nat.le_refl _,hs.le,rfl,hs.ts⟩
  ·rename_i hf
   have hlt:=rW (sL hf)
   split at e
   ·cases e
   ·rename_i q hq
    have h1:=h ⟨s.at_+1,s.op,s.ts⟩ _ ⟨by show s.at_+1≤_;omega,by have:=hs.rem;show _≤s.at_+1+N;omega,hs.op0,hs.op1,hs.ts⟩ hq
    simp only at h1
    split at e
    ·cases e
    ·rename_i q' hq'
     obtain ⟨rfl,h2⟩:=qi hq'
     have:=sf h m (s:={ q with ts:=q.ts++[⟨cf (cT l s) kinds 0,0,emp⟩] }) ⟨h1.2.1,by have:=hs.rem;show _≤q.at_+(N+1);omega,by rw [show (PS.op _)=_ from h1.2.2.1];exact hs.op0,by rw [show (PS.op _)=_ from h1.2.2.1];exact hs.op1,by simp only [List.length_append,List.length_cons,List.length_nil];omega⟩ e
     simp only at this
     exact ⟨by omega,this.2.1,by rw [this.2.2.1,h1.2.2.1],this.2.2.2⟩
theorem fB {l:List Tok} {N:Nat} {read:PS→PR} {kinds:List Int} (h:Au l N read):Au l N (dW l read kinds):=by
 intro s s' hs e
 unfold dW at e
 split at e
 ·cases e
 ·rename_i q hq
  have h1:=h _ _ hs hq
  have:=sf h l.length ⟨h1.2.1,by have:=hs.rem;omega,by rw [h1.2.2.1];exact hs.op0,by rw [h1.2.2.1];exact hs.op1,h1.2.2.2⟩ e
  exact ⟨by omega,this.2.1,by rw [this.2.2.1,h1.2.2.1],this.2.2.2⟩
theorem rO {l:List Tok} {N:Nat} {read:PS→PR} (h:Au l N read):Au l N (fK l read) :=
 fB (fB (fB (fB (fB (fB h)))))
theorem iV {l:List Tok}:∀ N:Nat,Au l N (aU l N)
 | 0,s,s',_,e=>by rw [aU] at e;cases e
 | N+1,s,s',hs,e=>by
  rw [aU] at e
  split at e
  ·cases e
  ·rename_i t ht
   have hlt:=(List.getElem?_eq_some_iff.1 ht).1
   split at e
   ·obtain ⟨rfl,h2⟩:=qi e
    exact ⟨by simp only;omega,by simp only;omega,rfl,by simp only [List.length_append,List.length_cons,List.length_nil];omega⟩
   split at e
   ·obtain ⟨rfl,h2⟩:=qi e
    exact ⟨by simp only;omega,by simp only;omega,rfl,by simp only [List.length_append,List.length_cons,List.length_nil];omega⟩
   split at e
   ·split at e
    ·cases e
    ·rename_i q hq
     have h1:=jS (rO (iV N)) hs hlt hq
     split at e
     ·rename_i hn
      injection e with e
      subst e
      have:=rW (show cT l q≠emp by rw [hn];intro h;cases h)
      exact ⟨by simp only;omega,by simp only;omega,h1.2.2.1,h1.2.2.2⟩
     ·cases e
   split at e
   ·split at e
    ·cases e
    ·rename_i q hq
     have h1:=jS (iV N) hs hlt hq
     obtain ⟨rfl,h2⟩:=qi e
     exact ⟨by simp only;omega,h1.2.1,h1.2.2.1,by simp only [List.length_append,List.length_cons,List.length_nil];omega⟩
   ·cases e
def parseF (l:List Tok):PR:=fK l (aU l l.length) ⟨0,0,[]⟩
end Go.Proofs.YthcoegkfpinlfaaGreatDoor.Ex
namespace Go.Proofs.YthcoegkfpinlfaaGreatDoor.Ex
open Go.RowKit
def qs:Int→List Term→Option Int
 | h,[]=>some h
 | h,t::r=>if gq t=false∨h<bz t.kind then none else qs (h+(1-bz t.kind)) r
theorem x3:∀ (ts:List Term) (h:Int) (t:Term),qs h (ts++[t])=(qs h ts).bind fun q=>if gq t=false∨q<bz t.kind then none else some (q+(1-bz t.kind))
 | [],h,t=>by simp only [List.nil_append,qs,Option.bind_some]
 | x::r,h,t=>by
  simp only [List.cons_append,qs]
  split
  ·rfl
  ·exact x3 r _ t
theorem x2:∀ (ts:List Term) (h:Int),qs h ts=some 1→cQ h ts=0
 | [],h,e=>by
  injection e with e
  rw [cQ,if_pos e]
 | t::r,h,e=>by
  rw [qs] at e
  split at e
  ·cases e
  ·rename_i hn
   rw [cQ,if_neg hn]
   exact x2 r _ e
theorem vE:∀ (ts:List Term) (h q:Int),qs h ts=some q→∀ t∈ts,gq t=true
 | [],h,q,_,t,ht=>by simp at ht
 | x::r,h,q,e,t,ht=>by
  rw [qs] at e
  split at e
  ·cases e
  ·rename_i hn
   rcases List.mem_cons.1 ht with rfl | ht
   ·cases hb:gq t with
    | true=>rfl
    | false=>exact (hn (.inl hb)).elim
   ·exact vE r _ q e t ht
def Av (F:PS→PR):Prop:=∀ s h,0≤h→qs 0 s.ts=some h→match F s with
 | .ok s'=>qs 0 s'.ts=some (h+1)
 | .error e=>e≠0
theorem nw {t:Term} {s:PS} {h:Int} (hb:gq t=true) (ht:bz t.kind≤h) (hs:qs 0 s.ts=some h):match jz t s with
  | .ok s'=>qs 0 s'.ts=some (h+(1-bz t.kind))
  | .error e=>e≠0:=by
 unfold jz
 by_cases hl:256<s.ts.length+1
 ·rw [if_pos hl];show (93:Int)≠0;decide
 ·rw [if_neg hl]
  show qs 0 (s.ts++[t])=_
  rw [x3,hs,Option.bind_some,if_neg]
  rw [hb]
  rintro (h1 | h1)
  ·cases h1
  ·omega
theorem r3 {read:PS→PR} (hr:Av read):Av (dV read):=by
 intro s h h0 hs
 unfold dV
 by_cases hl:64<s.op+1
 ·rw [if_pos hl];show (93:Int)≠0;decide
 ·rw [if_neg hl]
  have:=hr ⟨s.at_+1,s.op+1,s.ts⟩ h h0 hs
  split at this
  ·rename_i e;first | (rw [e];exact this) | exact this
  ·rename_i e;first | (rw [e];exact this) | exact this
theorem foundF_mem {s:ByteArray}:∀ {kinds:List Int} {f:Int},cf s kinds f=f∨cf s kinds f∈kinds
 | [],f=>.inl rfl
 | k::r,f=>by
  rw [cf]
  rcases foundF_mem (s:=s) (kinds:=r) (f:=if s≠emp∧s=eC k then k else f) with h | h
  ·rw [h]
   split
   ·exact .inr (by simp)
   ·exact .inl rfl
  ·exact .inr (List.mem_cons_of_mem _ h)
theorem sj {l:List Tok} {read:PS→PR} {kinds:List Int} (hk:∀ k∈kinds,5≤k∧k≤14) (hr:Av read):∀ (m:Nat) (s:PS) (h:Int),0≤h→qs 0 s.ts=some (h+1)→match eB l read kinds m s with
  | .ok s'=>qs 0 s'.ts=some (h+1)
  | .error e=>e≠0
 | 0,s,h,_,hs=>hs
 | m+1,s,h,h0,hs=>by
  rw [eB]
  by_cases hf:cf (cT l s) kinds 0=0
  ·rw [if_pos hf];exact hs
  ·rw [if_neg hf]
   have hm:cf (cT l s) kinds 0∈kinds:=(foundF_mem.resolve_left hf)
   have hb:=hk _ hm
   have h1:=hr ⟨s.at_+1,s.op,s.ts⟩ (h+1) (by omega) hs
   split at h1
   case h_2=>rename_i e he;rw [he];exact h1
   rename_i q he
   rw [he]
   have ht:bz (cf (cT l s) kinds 0)=2:=by unfold bz;rw [if_neg (by omega),if_pos hb]
   have h2:=nw (t:=⟨cf (cT l s) kinds 0,0,emp⟩) (s:=q) (h:=h+1+1) (by
    unfold gq
    simp only
    rw [if_neg (by omega),if_neg (by omega),ht]
    simp) (by show bz _≤_;rw [ht];omega) h1
   simp only at h2 ⊢
   rw [ht] at h2
   split at h2
   case h_2=>rename_i e he2;rw [he2];exact h2
   rename_i q2 he2
   rw [he2]
   exact sj hk hr m q2 h h0 (by rw [h2];congr 1;omega)
theorem lE {l:List Tok} {read:PS→PR} {kinds:List Int} (hk:∀ k∈kinds,5≤k∧k≤14) (hr:Av read):Av (dW l read kinds):=by
 intro s h h0 hs
 unfold dW
 have h1:=hr s h h0 hs
 split at h1
 case h_2=>rename_i e he;rw [he];exact h1
 rename_i q he
 rw [he]
 exact sj hk hr _ q h h0 h1
theorem rP {l:List Tok} {read:PS→PR} (hr:Av read):Av (fK l read) :=
 lE (by simp) (lE (by simp) (lE (by simp) (lE (by simp) (lE (by simp) (lE (by simp) hr)))))
def Named (l:List Tok):Prop:=∀ t∈l,t.kind=1→dQ t.text=true
theorem qB {l:List Tok} (hl:Named l):∀ N:Nat,Av (aU l N)
 | 0=>fun s h _ _=>by show (90:Int)≠0;decide
 | N+1=>by
  have ih:=qB hl N
  intro s h h0 hs
  rw [aU]
  cases ht:l[s.at_]? with
  | none=>show (90:Int)≠0;decide
  | some t =>
   simp only
   by_cases c2:t.kind=2
   ·rw [if_pos c2]
    have:=nw (t:=⟨1,wrap64 t.n,emp⟩) (s:={ s with at_:=s.at_+1 }) (h:=h) (by simp [gq]) (by show bz 1≤h;exact h0) hs
    rw [show bz 1=0 by decide] at this
    exact this
   rw [if_neg c2]
   by_cases c1:t.kind=1
   ·rw [if_pos c1]
    have hn:=hl t (List.mem_of_getElem? ht) c1
    have:=nw (t:=⟨2,0,t.text⟩) (s:={ s with at_:=s.at_+1 }) (h:=h) (by simp [gq,hn]) (by show bz 2≤h;exact h0) hs
    rw [show bz 2=0 by decide] at this
    exact this
   rw [if_neg c1]
   by_cases cp:t.kind=4∧t.text=⟨#[40]⟩
   ·rw [if_pos cp]
    have h1:=r3 (rP (l:=l) ih) s h h0 hs
    split at h1
    case h_2=>rename_i e he;rw [he];exact h1
    rename_i q he
    rw [he]
    simp only
    by_cases hc:cT l q=⟨#[41]⟩
    ·rw [if_pos hc];exact h1
    ·rw [if_neg hc];show (90:Int)≠0;decide
   rw [if_neg cp]
   by_cases cs:t.kind=4∧(t.text=⟨#[45]⟩∨t.text=⟨#[126]⟩)
   ·rw [if_pos cs]
    have h1:=r3 ih s h h0 hs
    split at h1
    case h_2=>rename_i e he;rw [he];exact h1
    rename_i q he
    rw [he]
    simp only
    by_cases hc:t.text=⟨#[126]⟩
    ·rw [if_pos hc]
     have:=nw (t:=⟨4,0,emp⟩) (s:=q) (h:=h+1) (by decide) (by show bz 4≤_;rw [show bz 4=1 by decide];omega) h1
     rw [show bz 4=1 by decide,show h+1+(1-1)=h+1 by omega] at this
     exact this
    ·rw [if_neg hc]
     have:=nw (t:=⟨3,0,emp⟩) (s:=q) (h:=h+1) (by decide) (by show bz 3≤_;rw [show bz 3=1 by decide];omega) h1
     rw [show bz 3=1 by decide,show h+1+(1-1)=h+1 by omega] at this
     exact this
   ·rw [if_neg cs];show (90:Int)≠0;decide
theorem parseF_nice {l:List Tok} (hl:Named l):match parseF l with
  | .ok s=>dM s.ts=0∧(∀ t∈s.ts,gq t=true)∧1≤s.at_∧s.at_≤l.length∧s.ts.length≤256
  | .error e=>e≠0:=by
 have h1:=rP (l:=l) (qB hl l.length) ⟨0,0,[]⟩ 0 (by decide) rfl
 unfold parseF
 split at h1
 ·rename_i s he
  have hg:=rO (l:=l) (iV l.length) _ _ ⟨Nat.zero_le _,by simp,by decide,by decide,by simp⟩ he
  refine ⟨?_,vE _ _ _ h1,by have:=hg.1;simp only at this;omega,hg.2.1,hg.2.2.2⟩
  unfold dM
  rw [if_neg (by have:=hg.2.2.2;omega)]
  exact x2 _ _ h1
 ·exact h1
structure GoodV (v:Val):Prop where
 p:v.plus=emp∨dQ v.plus=true
 m:v.minus=emp∨dQ v.minus=true
 ne:v.plus=v.minus→v.plus=emp
 lo : -9223372036854775808≤v.add
 hi:v.add≤9223372036854775807
theorem iM (n:Int) : -9223372036854775808≤wrap64 n∧wrap64 n≤9223372036854775807:=by unfold wrap64;omega
theorem ux (op:BinOp) (a b:Int) : -9223372036854775808≤bits op .i64 a b∧bits op .i64 a b≤9223372036854775807:=by
 have:=bounds_i64 (wf_bits op .i64 a b)
 omega
theorem goodZero:GoodV eY:=⟨.inl rfl,.inl rfl,fun _=>rfl,by decide,by decide⟩
theorem uC {a:Int} (h : -9223372036854775808≤a∧a≤9223372036854775807):GoodV ⟨a,emp,emp⟩:=⟨.inl rfl,.inl rfl,fun _=>rfl,h.1,h.2⟩
theorem L2:dQ emp=false:=by decide
theorem FO {v:Val} (h:GoodV v):GoodV (rU v):=⟨h.m,h.p,fun e=>by
 have e':v.minus=v.plus:=e
 have:=h.ne e'.symm
 show v.minus=emp
 rw [e'];exact this,(iM _).1,(iM _).2⟩
theorem xZ {v:Val} (h:GoodV v):GoodV (bC v)∧(bC v).plus=v.plus∧(bC v).minus=v.minus:=by
 unfold bC
 by_cases e:v.plus=v.minus
 ·rw [if_pos e]
  have h1:=h.ne e
  exact ⟨⟨.inl rfl,.inl rfl,fun _=>rfl,h.lo,h.hi⟩,h1.symm,by rw [← e,h1]⟩
 ·rw [if_neg e];exact ⟨h,rfl,rfl⟩
theorem jb (a:ByteArray):a++emp=a:=by
 refine ByteArray.ext ?_
 rw [ByteArray.data_append];simp [emp]
theorem kf (a:ByteArray):emp++a=a:=by
 refine ByteArray.ext ?_
 rw [ByteArray.data_append];simp [emp]
theorem FN {a b:Val} (ha:GoodV a) (hb:GoodV b):GoodV (mG a b).1:=by
 obtain ⟨ga,pa,ma⟩:=xZ ha
 obtain ⟨gb,pb,mb⟩:=xZ hb
 unfold mG
 simp only [pa,ma,pb,mb]
 split
 ·exact goodZero
 ·rename_i hn
  have hx:(d6 a.plus b.minus).1=emp∨(d6 a.minus b.plus).2=emp:=by
   rcases Classical.em ((d6 a.plus b.minus).1=emp) with h | h
   ·exact .inl h
   ·rcases Classical.em ((d6 a.minus b.plus).2=emp) with h2 | h2
    ·exact .inr h2
    ·exact (hn (.inl ⟨h,h2⟩)).elim
  have hy:(d6 a.minus b.plus).1=emp∨(d6 a.plus b.minus).2=emp:=by
   rcases Classical.em ((d6 a.minus b.plus).1=emp) with h | h
   ·exact .inl h
   ·rcases Classical.em ((d6 a.plus b.minus).2=emp) with h2 | h2
    ·exact .inr h2
    ·exact (hn (.inr ⟨h,h2⟩)).elim
  have r:=iM ((bC a).add+(bC b).add)
  have e0:dQ emp=false:=L2
  unfold d6 at hx hy ⊢
  by_cases h1:a.plus=b.minus<;>by_cases h2:a.minus=b.plus
  ·simp only [h1,h2,if_true,jb]
   exact uC r
  ·simp only [h1,h2,if_true,if_false,kf,jb] at hx hy ⊢
   exact ⟨hb.p,ha.m,fun e=>(h2 e.symm).elim,r.1,r.2⟩
  ·simp only [h1,h2,if_true,if_false,kf,jb] at hx hy ⊢
   exact ⟨ha.p,hb.m,fun e=>(h1 e).elim,r.1,r.2⟩
  ·simp only [h1,h2,if_false] at hx hy ⊢
   rcases hx with ex | ex<;>rcases hy with ey | ey
   ·rw [ex,ey,kf,kf]
    exact ⟨hb.p,hb.m,hb.ne,r.1,r.2⟩
   ·rw [ex,ey,kf,jb]
    exact ⟨hb.p,ha.m,fun e=>(h2 e.symm).elim,r.1,r.2⟩
   ·rw [ex,ey,jb,kf]
    exact ⟨ha.p,hb.m,fun e=>(h1 e).elim,r.1,r.2⟩
   ·rw [ex,ey,jb,jb]
    exact ⟨ha.p,ha.m,ha.ne,r.1,r.2⟩
theorem JZ {k a b:Int} (ha : -9223372036854775808≤a∧a≤9223372036854775807) : -9223372036854775808≤(oZ k a b).1∧(oZ k a b).1≤9223372036854775807:=by
 unfold oZ
 split
 ·exact ⟨by decide,by decide⟩
 split
 ·exact ⟨by decide,by decide⟩
 split
 ·show _≤a.tmod b∧a.tmod b≤_
  rcases Int.le_total 0 a with h | h
  ·have h1:=Int.tmod_nonneg b h
   have h2:a.tmod b≤a:=by
    have:=Int.emod_emod_of_dvd
    rw [Int.tmod_def]
    have h3:0≤b*a.tdiv b:=by
     rcases Int.le_total 0 b with hb | hb
     ·exact Int.mul_nonneg hb (Int.tdiv_nonneg h hb)
     ·have:a.tdiv b≤0:=Int.tdiv_nonpos_of_nonneg_of_nonpos h hb
      have:=Int.mul_nonneg_of_nonpos_of_nonpos hb this
      exact this
    omega
   omega
  ·have h4:(-a).tmod b = - a.tmod b:=Int.neg_tmod ..
   have h1:=Int.tmod_nonneg (a := -a) b (by omega)
   have h2:(-a).tmod b ≤ -a:=by
    rw [Int.tmod_def]
    have h3:0≤b*(-a).tdiv b:=by
     rcases Int.le_total 0 b with hb | hb
     ·exact Int.mul_nonneg hb (Int.tdiv_nonneg (by omega) hb)
     ·have:(-a).tdiv b≤0:=Int.tdiv_nonpos_of_nonneg_of_nonpos (by omega) hb
      exact Int.mul_nonneg_of_nonpos_of_nonpos hb this
    omega
   omega
 split
 ·exact iM _
 ·exact iM _
theorem PV {k a b:Int} (ha : -9223372036854775808≤a∧a≤9223372036854775807) : -9223372036854775808≤(j5 k a b).1∧(j5 k a b).1≤9223372036854775807:=by
 rcases numF_cases k a b with ⟨_,h⟩ | ⟨_,h⟩ | ⟨_,h⟩ | ⟨_,h⟩ | ⟨_,h⟩ | ⟨_,h⟩ | ⟨_,_,_,_,_,_,⟨_,h⟩ | ⟨_,_,_,h⟩ | ⟨_,_,_,h⟩⟩
 ·rw [h];exact iM (a*b)
 ·rw [h];exact JZ ha
 ·rw [h];exact JZ ha
 ·rw [h];exact ux .and a b
 ·rw [h];exact ux .xor a b
 ·rw [h];exact ux .or a b
 ·rw [h];exact ⟨by decide,by decide⟩
 ·rw [h];exact iM (a*2 ^ b.toNat)
 ·rw [h];exact iM (IntKind.u64.wrap a / 2 ^ b.toNat)
theorem Hn {k:Int} {a b:Val} (ha:GoodV a) (hb:GoodV b):GoodV (cH k a b).1:=by
 unfold cH
 split
 ·exact FO hb
 split
 ·split
  ·exact uC (ux .xor (-1) b.add)
  ·exact goodZero
 split
 ·exact FN ha hb
 split
 ·exact FN ha (FO hb)
 split
 ·exact uC (PV ⟨ha.lo,ha.hi⟩)
 ·exact goodZero
theorem zH {vs:List Val} (h:∀ v∈vs,GoodV v) (i:Nat):GoodV (vs.getD i eY):=by
 rw [List.getD_eq_getElem?_getD]
 cases hv:vs[i]? with
 | none=>exact goodZero
 | some v=>exact h v (List.mem_of_getElem? hv)
theorem goodEval:∀ (ts:List Term) (vs:List Val),(∀ v∈vs,GoodV v)→(∀ t∈ts,gq t=true)→(∀ t∈ts,-9223372036854775808≤t.n∧t.n≤9223372036854775807)→GoodV (ee vs ts).1
 | [],vs,hv,_,_=>zH hv 0
 | t::r,vs,hv,ht,hn=>by
  have htb:=ht t (by simp)
  have htn:=hn t (by simp)
  rw [ee]
  split
  ·rename_i h0
   refine goodEval r _ (fun v hvm=>?_) (fun x hx=>ht x (by simp [hx])) (fun x hx=>hn x (by simp [hx]))
   rcases List.mem_append.1 hvm with h | h
   ·exact hv v h
   ·simp only [List.mem_singleton] at h
    subst h
    unfold gq at htb
    split at htb
    ·have e:t.sym=emp:=of_decide_eq_true htb
     rw [e];exact uC htn
    split at htb
    ·simp only [Bool.and_eq_true] at htb
     exact ⟨.inr htb.2,.inl rfl,fun e=>e,htn.1,htn.2⟩
    ·simp only [Bool.and_eq_true,decide_eq_true_eq] at htb
     have:=htb.1.1
     omega
  ·dsimp only
   split
   ·refine goodEval r _ (fun v hvm=>?_) (fun x hx=>ht x (by simp [hx])) (fun x hx=>hn x (by simp [hx]))
    rcases List.mem_append.1 hvm with h | h
    ·exact hv v (List.mem_of_mem_take h)
    ·simp only [List.mem_singleton] at h
     subst h
     exact Hn (zH hv _) (zH hv _)
   ·exact goodZero
theorem goodSize {v:Val} (h:GoodV v):v.plus.size≤512∧v.minus.size≤512:=by
 have key:∀ s:ByteArray,s=emp∨dQ s=true→s.size≤512:=by
  rintro s (rfl | h)
  ·decide
  ·exact nI h
 exact ⟨key _ h.p,key _ h.m⟩
theorem termB_size {t:Term} (h:gq t=true):t.sym.size≤512:=by
 have e0:emp.size=0:=rfl
 unfold gq at h
 split at h
 ·have e:t.sym=emp:=of_decide_eq_true h
  rw [e,e0];decide
 split at h
 ·simp only [Bool.and_eq_true] at h
  exact nI h.2
 ·simp only [Bool.and_eq_true,decide_eq_true_eq] at h
  rw [h.2,e0];decide
def Rgs (ts:List Term):Prop:=∀ t∈ts,-9223372036854775808≤t.n∧t.n≤9223372036854775807
def pX (F:PS→PR):Prop:=∀ s s',Rgs s.ts→F s=.ok s'→Rgs s'.ts
theorem At : -9223372036854775808≤(0:Int)∧(0:Int)≤9223372036854775807:=by decide
theorem qh {t:Term} {s s':PS} (ht : -9223372036854775808≤t.n∧t.n≤9223372036854775807) (hs:Rgs s.ts) (h:jz t s=.ok s'):Rgs s'.ts:=by
 obtain ⟨rfl,-⟩:=qi h
 intro x hx
 rcases List.mem_append.1 hx with hx | hx
 ·exact hs x hx
 ·simp only [List.mem_singleton] at hx
  subst hx
  exact ht
theorem rZ {read:PS→PR} (hr:pX read):pX (dV read):=by
 intro s s' hs e
 unfold dV at e
 split at e
 ·cases e
 ·split at e
  ·rename_i q hq
   injection e with e
   subst e
   exact hr ⟨s.at_+1,s.op+1,s.ts⟩ q hs hq
  ·cases e
theorem si {l:List Tok} {read:PS→PR} {kinds:List Int} (hr:pX read):∀ (m:Nat) (s s':PS),Rgs s.ts→eB l read kinds m s=.ok s'→Rgs s'.ts
 | 0,s,s',hs,e=>by injection e with e;subst e;exact hs
 | m+1,s,s',hs,e=>by
  rw [eB] at e
  split at e
  ·injection e with e;subst e;exact hs
  ·split at e
   ·cases e
   ·rename_i q hq
    have h1:=hr ⟨s.at_+1,s.op,s.ts⟩ q hs hq
    split at e
    ·cases e
    ·rename_i q2 hq2
     exact si hr m q2 s' (qh At h1 hq2) e
theorem fC {l:List Tok} {read:PS→PR} {kinds:List Int} (hr:pX read):pX (dW l read kinds):=by
 intro s s' hs e
 unfold dW at e
 split at e
 ·cases e
 ·rename_i q hq
  exact si hr _ q s' (hr s q hs hq) e
theorem qA {l:List Tok}:∀ N:Nat,pX (aU l N)
 | 0=>fun s s' _ e=>by cases e
 | N+1=>by
  have ih:=qA (l:=l) N
  intro s s' hs e
  rw [aU] at e
  split at e
  ·cases e
  ·rename_i t ht
   split at e
   ·exact qh (s:={ s with at_:=s.at_+1 }) (iM t.n) hs e
   split at e
   ·exact qh (s:={ s with at_:=s.at_+1 }) At hs e
   split at e
   ·split at e
    ·cases e
    ·rename_i q hq
     have h1:=rZ (fC (fC (fC (fC (fC (fC ih)))))) s q hs hq
     split at e
     ·injection e with e;subst e;exact h1
     ·cases e
   split at e
   ·split at e
    ·cases e
    ·rename_i q hq
     exact qh At (rZ ih s q hs hq) e
   ·cases e
theorem parseF_keep {l:List Tok} {s:PS} (h:parseF l=.ok s):Rgs s.ts :=
 fC (fC (fC (fC (fC (fC (qA l.length)))))) ⟨0,0,[]⟩ s (fun t ht=>by simp at ht) h
end Go.Proofs.YthcoegkfpinlfaaGreatDoor.Ex
namespace Go.Proofs.YthcoegkfpinlfaaGreatDoor.Ex
open Go.RowKit
def nxt (l:List Tok) (p:Nat):ByteArray:=match l[p]? with
 | some t=>if t.kind=4 then t.text else emp
 | none=>emp
theorem yk (l:List Tok) (s:PS):cT l s=nxt l s.at_:=rfl
def Reads (read:PS→PR) (p q:Nat) (d:Int) (new:List Term):Prop :=
 ∀ (op:Int) (T:List Term),0≤op→op+d≤64→T.length+new.length≤256→read ⟨p,op,T⟩=.ok ⟨q,op,T++new⟩
theorem Reads.mono {read:PS→PR} {p q:Nat} {d d':Int} {new:List Term} (h:Reads read p q d new) (hd:d≤d'):Reads read p q d' new:=fun op T h0 h1 h2=>h op T h0 (by omega) h2
theorem uF {t:Term} {p:Nat} {op:Int} {T:List Term} (h:T.length+1≤256):jz t ⟨p,op,T⟩=.ok ⟨p,op,T++[t]⟩:=by
 unfold jz
 rw [if_neg (by simp only;omega)]
section
variable {l:List Tok} {N p q:Nat} {t:Tok}
theorem Iv (ht:l[p]? = some t) (hk:t.kind=2):Reads (aU l (N+1)) p (p+1) 0 [⟨1,wrap64 t.n,emp⟩]:=by
 intro op T h0 h1 h2
 rw [aU]
 simp only [ht,hk,if_true]
 exact uF h2
theorem EH (ht:l[p]? = some t) (hk:t.kind=1):Reads (aU l (N+1)) p (p+1) 0 [⟨2,0,t.text⟩]:=by
 intro op T h0 h1 h2
 rw [aU]
 simp only [ht,hk,if_true]
 rw [if_neg (by decide)]
 exact uF h2
theorem Lq {d:Int} {new:List Term} {k:Int} (hd:0≤d) (ht:l[p]? = some t) (hk:t.kind=4) (hx:(k=3∧t.text=⟨#[45]⟩)∨(k=4∧t.text=⟨#[126]⟩)) (h:Reads (aU l N) (p+1) q d new) :
  Reads (aU l (N+1)) p q (d+1) (new++[⟨k,0,emp⟩]):=by
 intro op T h0 h1 h2
 rw [List.length_append] at h2
 have h3:new.length+1=new.length+[(⟨k,0,emp⟩:Term)].length:=rfl
 rw [aU]
 simp only [ht,hk]
 have hne:¬t.text=⟨#[40]⟩:=by
  rcases hx with ⟨_,e⟩ | ⟨_,e⟩<;>rw [e]<;>decide
 have hor:t.text=⟨#[45]⟩∨t.text=⟨#[126]⟩:=by
  rcases hx with ⟨_,e⟩ | ⟨_,e⟩
  ·exact .inl e
  ·exact .inr e
 rw [if_neg (by decide),if_neg (by decide),if_neg (fun h=>hne h.2),if_pos ⟨trivial,hor⟩]
 unfold dV
 simp only
 rw [if_neg (by omega),h (op+1) T (by omega) (by omega) (by omega)]
 simp only
 have e1:op+1-1=op:=by omega
 have e2:(if t.text=⟨#[126]⟩ then (4:Int) else 3)=k:=by
  rcases hx with ⟨e0,e⟩ | ⟨e0,e⟩
  ·rw [e,e0];decide
  ·rw [e,e0];rfl
 rw [e1,e2,uF (by rw [List.length_append];omega),List.append_assoc]
end
inductive Chn (l:List Tok) (read:PS→PR) (kinds:List Int):Nat→Nat→Int→List Term→Prop
 | nil {q:Nat} (h:cf (nxt l q) kinds 0=0):Chn l read kinds q q 0 []
 | cons {q r z:Nat} {k d d':Int} {b c:List Term} (hk:cf (nxt l q) kinds 0=k) (h0:k≠0) (hr:Reads read (q+1) r d b) (hq:q+1≤r) (hc:Chn l read kinds r z d' c) (hd:0≤d) (hd':0≤d'):Chn l read kinds q z (max d d') (b++⟨k,0,emp⟩::c)
theorem PW {l:List Tok} {q:Nat} (h:nxt l q≠emp):q<l.length:=by
 unfold nxt at h
 split at h
 ·rename_i t ht;exact (List.getElem?_eq_some_iff.1 ht).1
 ·exact absurd rfl h
theorem Kl {l:List Tok} {q:Nat} {kinds:List Int} {k:Int} (h:cf (nxt l q) kinds 0=k) (h0:k≠0):q<l.length:=by
 refine PW fun e=>?_
 rw [e,oa] at h
 exact h0 h.symm
theorem JH {l:List Tok} {read:PS→PR} {kinds:List Int} {q z:Nat} {d:Int} {c:List Term} (h:Chn l read kinds q z d c):∀ (m:Nat) (op:Int) (T:List Term),l.length≤q+m→0≤op→op+d≤64→T.length+c.length≤256→eB l read kinds m ⟨q,op,T⟩=.ok ⟨z,op,T++c⟩:=by
 induction h with
 | nil h =>
  intro m op T hm h0 h1 h2
  cases m with
  | zero=>rw [eB,List.append_nil]
  | succ m=>rw [eB,if_pos (by exact h),List.append_nil]
 | @cons q r z k d d' b c hk hk0 hr hq hc hd hd' ih =>
  intro m op T hm h0 h1 h2
  have hlt:=Kl hk hk0
  rw [List.length_append,List.length_cons] at h2
  cases m with
  | zero=>omega
  | succ m =>
   rw [eB,if_neg (by rw [yk];simp only;rw [hk];exact hk0),hr op T h0 (by omega) (by omega)]
   simp only [yk,hk]
   rw [uF (by rw [List.length_append];omega)]
   simp only
   rw [ih m op _ (by omega) h0 (by omega) (by simp only [List.length_append,List.length_cons,List.length_nil];omega)]
   simp only [List.append_assoc,List.cons_append,List.nil_append]
theorem yF {l:List Tok} {read:PS→PR} {kinds:List Int} {p q z:Nat} {d d':Int} {a c:List Term} (h:Reads read p q d a) (hc:Chn l read kinds q z d' c):Reads (dW l read kinds) p z (max d d') (a++c):=by
 intro op T h0 h1 h2
 rw [List.length_append] at h2
 unfold dW
 rw [h op T h0 (by omega) (by omega)]
 simp only
 rw [JH hc l.length op _ (by omega) h0 (by omega) (by rw [List.length_append];omega),List.append_assoc]
theorem ip {l:List Tok} {read:PS→PR} {kinds:List Int} {p q:Nat} {d:Int} {a:List Term} (h:Reads read p q d a) (hd:0≤d) (hn:cf (nxt l q) kinds 0=0):Reads (dW l read kinds) p q d a:=by
 have:=yF h (.nil hn)
 rw [List.append_nil,show max d 0=d by omega] at this
 exact this
end Go.Proofs.YthcoegkfpinlfaaGreatDoor.Ex
