import Derived.Test.YthcoegkfpinlfaaGreatDoorO10
import Derived.Test.YthcoegkfpinlfaaGreatDoorO01
import Derived.Test.YthcoegkfpinlfaaGreatDoorChecked
import Derived.WalkKit
import Derived.WalkSpells
import Derived.WalkLawsBesides
import Derived.Lib.Hide
import Derived.OpenShut
set_option linter.unusedVariables false
set_option linter.unusedSimpArgs false
set_option maxRecDepth 100000
set_option maxHeartbeats 8000000
namespace Go.Proofs.YthcoegkfpinlfaaGreatDoor
structure OpV where
 kind:Int
 r:CF
 m:CF
 md:Int
 amt:Int
 n:Int
 add:Int
 plus:ByteArray
 minus:ByteArray
 lo:Bool
 mode:Int
deriving instance DecidableEq for OpV
def r0:CF:=⟨0,false,false⟩
def op0 (kind:Int):OpV:=⟨kind,r0,r0,0,0,0,0,emp,emp,false,0⟩
end Go.Proofs.YthcoegkfpinlfaaGreatDoor
namespace Go.Proofs.YthcoegkfpinlfaaGreatDoor
structure Tok where
 kind:Int
 text:ByteArray
 n:Int
 pos:Int
end Go.Proofs.YthcoegkfpinlfaaGreatDoor
namespace Go.Proofs.YthcoegkfpinlfaaGreatDoor
open Go.RowKit
theorem J5 (n:Int) (w:World) :
  Calls Tryz.prog 149 #[.int .u8 n] w fun e w'=>e=.returned (.bool (nl n))∧w=w':=by
 go_enter Tryz.func149,Tryz.ntmps149
 go_wp2
 all_goals (go_ret;refine ⟨j1 ?_,rfl⟩;rw [Bool.eq_iff_iff];simp [nl];try omega)
theorem PX (n:Int) (w:World) :
  Calls Tryz.prog 165 #[.int .u8 n] w fun e w'=>e=.returned (.bool (MX n))∧w=w':=by
 go_enter Tryz.func165,Tryz.ntmps165
 go_wp2
 all_goals (go_ret;refine ⟨j1 ?_,rfl⟩;rw [Bool.eq_iff_iff];simp [MX];try omega)
theorem Yl (n:Int) (w:World) :
  Calls Tryz.prog 151 #[.int .u8 n] w fun e w'=>e=.returned (.bool (wordyB n))∧w=w':=by
 by_cases h:nl n=true
 ·go_enter Tryz.func151,Tryz.ntmps151
  go_wp2_with (first | (go_at_call 149;refine (J5 _ _).mono ?_;rintro e w' ⟨rfl,rfl⟩) | (go_at_call 165;refine (PX _ _).mono ?_;rintro e w' ⟨rfl,rfl⟩))
  go_ret;exact ⟨j1 (by simp [wordyB,h]),rfl⟩
 ·have h':nl n=false:=by simpa using h
  go_enter Tryz.func151,Tryz.ntmps151
  go_wp2_with (first | (go_at_call 149;refine (J5 _ _).mono ?_;rintro e w' ⟨rfl,rfl⟩) | (go_at_call 165;refine (PX _ _).mono ?_;rintro e w' ⟨rfl,rfl⟩))
  go_ret;exact ⟨j1 (by simp [wordyB,h']),rfl⟩
theorem run_gen (F:Nat) (g:Int→Bool) (hE:∀ args w,(callFunc F args).run Tryz.prog w=.ok (.enter F args) w) (hF:∀ (n:Int) (w:World),Calls Tryz.prog F #[.int .u8 n] w fun e w'=>e=.returned (.bool (g n))∧w=w') (s:ByteArray) (w:World) (hs:s.size≤maxLen) :
  Calls Tryz.prog 150 #[.string s,.func (.func F) #[] #[]] w fun e w'=>e=.returned (.int .i64 (Ks g s.data.toList))∧w=w':=by
 have HF:=Lib.hid hF
 clear hF
 unfold maxLen at hs
 go_enter Tryz.func150,Tryz.ntmps150
 go_wp2_with fail
 go_loop [5] (fun n=>∃ k:Nat,k≤s.size∧n=.int .i64 k∧Hid (Ks g (s.data.toList.drop k)+k=Ks g s.data.toList)) (fun n=>s.size-(intOf n).toNat)
 case atStart=>exact ⟨0,Nat.zero_le _,rfl,show _=_ by simp⟩
 case round =>
  obtain ⟨k,hk,rfl,hr⟩:=hrel
  by_cases hlt:k<s.size
  ·have st:=Lib.hid (WZ g s k hlt)
   by_cases hg:g (s[k].toNat:Int)=true
   ·go_wp2_with fail
    refine (HF.out _ _).mono ?_
    rintro e w' ⟨rfl,rfl⟩
    go_wp2_with fail
    go_round
    case rel=>exact ⟨k+1,by omega,by go_num,show _=_ by rw [← hr.out,st.out,if_pos hg];omega⟩
    case measure=>simp [intOf];omega
   ·have hg':g (s[k].toNat:Int)=false:=by simpa using hg
    go_wp2_with fail
    refine (HF.out _ _).mono ?_
    rintro e w' ⟨rfl,rfl⟩
    go_wp2_with fail
    go_ret
    exact ⟨JY (by have h1:=hr.out;rw [st.out,if_neg (by simp [hg'])] at h1;omega),rfl⟩
  ·have h0:=Lib.hid (YD g s k (by omega))
   go_wp2_with fail
   go_ret
   exact ⟨JY (by have h1:=hr.out;rw [h0.out] at h1;omega),rfl⟩
theorem SN (args:Array Value) (w:World):(callFunc 151 args).run Tryz.prog w=.ok (.enter 151 args) w:=by go_simp
theorem Qm (s:ByteArray) (w:World) (hs:s.size≤maxLen) :
  Calls Tryz.prog 150 #[.string s,.func (.func 151) #[] #[]] w fun e w'=>e=.returned (.int .i64 (Ks wordyB s.data.toList))∧w=w' :=
 run_gen _ _ SN Yl s w hs
theorem RV (s:ByteArray) (w:World) (hs:s.size≤maxLen) :
  Calls Tryz.prog 130 #[.string s] w fun e w'=>e=.returned (.bool (Py s))∧w=w':=by
 by_cases h0:s.size=0
 ·have h1:s.toList=[]:=Ls h0
  have h2:s.toList.isEmpty=true:=by rw [h1];rfl
  go_enter Tryz.func130,Tryz.ntmps130
  go_wp2_with fail
  go_ret
  exact ⟨j1 (XB h0),rfl⟩
 ·have h1:0<s.size:=by omega
  have h2:s.toList.isEmpty=false:=Dp h0
  have h3:¬s.toList=[]:=D2 h0
  by_cases hl:nl (s[0].toNat:Int)=true
  ·go_enter Tryz.func130,Tryz.ntmps130
   go_wp2_with (first | (go_at_call 149;refine (J5 _ _).mono ?_;rintro e w' ⟨rfl,rfl⟩) | (go_at_call 150;refine (Qm _ _ hs).mono ?_;rintro e w' ⟨rfl,rfl⟩))
   go_ret
   exact ⟨j1 (by rw [Od h1,hl,Bool.true_and,Bool.eq_iff_iff,beq_iff_eq,beq_iff_eq];omega),rfl⟩
  ·have hl':nl (s[0].toNat:Int)=false:=by simpa using hl
   go_enter Tryz.func130,Tryz.ntmps130
   go_wp2_with (first | (go_at_call 149;refine (J5 _ _).mono ?_;rintro e w' ⟨rfl,rfl⟩) | (go_at_call 150;refine (Qm _ _ hs).mono ?_;rintro e w' ⟨rfl,rfl⟩))
   go_ret
   exact ⟨j1 (by rw [Od h1,hl'];simp),rfl⟩
theorem cL (s:ByteArray) (w:World) (hs:s.size≤maxLen) :
  Calls Tryz.prog 77 #[.string s] w fun e w'=>e=.returned (.bool (iP s))∧w=w':=by
 by_cases h:s.size≤512
 ·have h':(s.size:Int)≤512:=by omega
  go_enter Tryz.func77,Tryz.ntmps77
  go_wp2_with (first | (go_at_call 130;refine (RV _ _ hs).mono ?_;rintro e w' ⟨rfl,rfl⟩))
  go_ret
  exact ⟨j1 (by simp [iP,h]),rfl⟩
 ·have h':(512:Int)<s.size:=by omega
  go_enter Tryz.func77,Tryz.ntmps77
  go_wp2_with (first | (go_at_call 130;refine (RV _ _ hs).mono ?_;rintro e w' ⟨rfl,rfl⟩))
  go_ret
  exact ⟨j1 (by simp [iP,h]),rfl⟩
end Go.Proofs.YthcoegkfpinlfaaGreatDoor
namespace Go.Proofs.YthcoegkfpinlfaaGreatDoor.Ex
open Go.RowKit
def _root_.Go.Proofs.YthcoegkfpinlfaaGreatDoor.Val.cells (x:Val):List Value:=[.int .i64 x.add,.string x.plus,.string x.minus]
def iV (k:Int) (a b:Val):Val×Int :=
 if k=3 then (ZQ b,0)
 else if k=4 then (if eX b.plus b.minus=true then (⟨bits .xor .i64 (-1) b.add,emp,emp⟩,0) else (i3,91))
 else if k=8 then NP a b
 else if k=9 then NP a (ZQ b)
 else if eX a.plus a.minus=true∧eX b.plus b.minus=true then (⟨(CU k a.add b.add).1,emp,emp⟩,(CU k a.add b.add).2) else (i3,91)
theorem U9 (a:Val) {b:Val} (h:eX b.plus b.minus=true):iV 4 a b=(⟨bits .xor .i64 (-1) b.add,⟨#[]⟩,⟨#[]⟩⟩,0):=by simp [iV,h,emp]
theorem OW (a:Val) {b:Val} (h:eX b.plus b.minus=false):iV 4 a b=(⟨0,⟨#[]⟩,⟨#[]⟩⟩,91):=by simp [iV,h,i3,emp]
theorem U4 (a b:Val):iV 8 a b=NP a b:=by simp [iV]
theorem Va (a b:Val):iV 9 a b=NP a ⟨wrap64 (-b.add),b.minus,b.plus⟩:=by simp [iV,ZQ]
theorem UV {k:Int} {a b:Val} (k3:(k==3)=false) (k4:(k==4)=false) (k8:(k==8)=false) (k9:(k==9)=false) (ha:eX a.plus a.minus=true) (hb:eX b.plus b.minus=true) :
  iV k a b=(⟨(CU k a.add b.add).1,⟨#[]⟩,⟨#[]⟩⟩,(CU k a.add b.add).2):=by
 simp only [beq_eq_false_iff_ne,ne_eq] at k3 k4 k8 k9
 simp [iV,k3,k4,k8,k9,ha,hb,emp]
theorem Kz {k:Int} {a b:Val} (k3:(k==3)=false) (k4:(k==4)=false) (k8:(k==8)=false) (k9:(k==9)=false) (h:eX a.plus a.minus=false∨eX b.plus b.minus=false) :
  iV k a b=(⟨0,⟨#[]⟩,⟨#[]⟩⟩,91):=by
 simp only [beq_eq_false_iff_ne,ne_eq] at k3 k4 k8 k9
 rcases h with h | h<;>simp [iV,k3,k4,k8,k9,h,i3,emp]
def _root_.Go.Proofs.YthcoegkfpinlfaaGreatDoor.Val.le (x:Val) (k:Nat):Prop:=x.plus.size≤k∧x.minus.size≤k
theorem QF {x:Val} {k:Nat} (h:x.le k):(dS x).le k:=Kr rfl h.1 h.2
theorem VZ {a b:Val} {k:Nat} (ha:a.le k) (hb:b.le k):(NP a b).1.le k:=by
 obtain ⟨a1,a2⟩:=QF ha
 obtain ⟨b1,b2⟩:=QF hb
 obtain ⟨m1,m2⟩:=J3 (show sn (dS a).plus (dS b).minus=((sn (dS a).plus (dS b).minus).1,(sn (dS a).plus (dS b).minus).2) from rfl) a1 b2
 obtain ⟨m3,m4⟩:=J3 (show sn (dS a).minus (dS b).plus=((sn (dS a).minus (dS b).plus).1,(sn (dS a).minus (dS b).plus).2) from rfl) a2 b1
 unfold NP
 dsimp only
 split
 ·exact ⟨by simp [i3,emp,ByteArray.size],by simp [i3,emp,ByteArray.size]⟩
 ·rename_i h
  have e0:emp.size=0:=rfl
  constructor
  ·show (_++_:ByteArray).size≤k
   rw [ByteArray.size_append]
   by_cases h1:(sn (dS a).plus (dS b).minus).fst=emp
   ·rw [h1,e0];omega
   ·have h2:(sn (dS a).minus (dS b).plus).snd=emp:=Decidable.byContradiction fun h2=>h (.inl ⟨h1,h2⟩)
    rw [h2,e0];omega
  ·show (_++_:ByteArray).size≤k
   rw [ByteArray.size_append]
   by_cases h1:(sn (dS a).minus (dS b).plus).fst=emp
   ·rw [h1,e0];omega
   ·have h2:(sn (dS a).plus (dS b).minus).snd=emp:=Decidable.byContradiction fun h2=>h (.inr ⟨h1,h2⟩)
    rw [h2,e0];omega
theorem UW (n:Int) (k:Nat):Val.le ⟨n,emp,emp⟩ k:=⟨Nat.zero_le _,Nat.zero_le _⟩
theorem Xt (m:Int) {a b:Val} {k:Nat} (ha:a.le k) (hb:b.le k):(iV m a b).1.le k:=by
 have hn:(ZQ b).le k:=⟨hb.2,hb.1⟩
 unfold iV
 split
 ·exact hn
 split
 ·split<;>exact UW _ _
 split
 ·exact VZ ha hb
 split
 ·exact VZ ha hn
 split<;>exact UW _ _
def CZ (vs:List Val):List Term→Val×Int
 | []=>(vs.getD 0 i3,0)
 | t::r =>
  if fL t.kind=0 then CZ (vs++[⟨t.n,t.sym,emp⟩]) r
  else
   let y:=iV t.kind (vs.getD (vs.length-2) i3) (vs.getD (vs.length-1) i3)
   if y.2=0 then CZ (vs.take (vs.length-(fL t.kind).toNat)++[y.1]) r else (i3,y.2)
def J0 (l:List Term):Val×Int:=if zU l=0 then CZ [] l else (i3,zU l)
theorem Vu {vs:List Val} {t:Term} {r:List Term} (h:fL t.kind=0):CZ vs (t::r)=CZ (vs++[⟨t.n,t.sym,emp⟩]) r:=by rw [CZ,if_pos h]
theorem aav {vs:List Val} {t:Term} {r:List Term} (h:¬fL t.kind=0) {v:Val} (e:iV t.kind (vs.getD (vs.length-2) i3) (vs.getD (vs.length-1) i3)=(v,0)) :
  CZ vs (t::r)=CZ (vs.take (vs.length-(fL t.kind).toNat)++[v]) r:=by
 rw [CZ,if_neg h];dsimp only;rw [e,if_pos rfl]
theorem XV {vs:List Val} {t:Term} {r:List Term} (h:¬fL t.kind=0) {v:Val} {x:Int} (hx:¬x=0) (e:iV t.kind (vs.getD (vs.length-2) i3) (vs.getD (vs.length-1) i3)=(v,x)) :
  CZ vs (t::r)=(i3,x):=by
 rw [CZ,if_neg h];dsimp only;rw [e,if_neg hx]
theorem Tz {h:Int} {t:Term} {r:List Term} (e:iN h (t::r)=0):S2 t=true∧fL t.kind≤h∧iN (h+(1-fL t.kind)) r=0:=by
 rw [iN] at e
 split at e
 ·cases e
 ·rename_i hn
  refine ⟨?_,?_,e⟩
  ·cases ht:S2 t with
   | true=>rfl
   | false=>exact (hn (.inl ht)).elim
  ·exact Int.not_lt.1 fun hlt=>hn (.inr hlt)
theorem X2 {h:Int} (e:iN h []=0):h=1:=by
 rw [iN] at e;split at e
 ·assumption
 ·cases e
theorem Se {ts:List Term} (h:zU ts=0):iN 0 ts=0:=by
 unfold zU at h
 split at h
 ·split at h
  ·cases h
  ·exact h
 ·exact h
theorem Rq {k:Int} (h:fL k=1) (a a' b:Val):iV k a b=iV k a' b:=by
 have:k=3∨k=4:=by
  unfold fL at h
  split at h
  ·assumption
  ·split at h<;>omega
 rcases this with rfl | rfl<;>simp [iV]
end Go.Proofs.YthcoegkfpinlfaaGreatDoor.Ex
namespace Go.Proofs.YthcoegkfpinlfaaGreatDoor.Ex
open Go.RowKit
def decG:Nat→Nat→List UInt8
 | 0,_=>[]
 | f+1,n=>if n<10 then [UInt8.ofNat (48+n)] else decG f (n / 10)++[UInt8.ofNat (48+n % 10)]
def decS (n:Nat):ByteArray:=⟨(decG 20 n).toArray⟩
theorem SG:∀ f n,(decG f n).length≤f
 | 0,_=>Nat.le_refl _
 | f+1,n=>by
  rw [decG]
  split
  ·simp
  ·rw [List.length_append];have:=SG f (n / 10);simp;omega
theorem decS_size (n:Nat):(decS n).size≤20:=by
 show (decG 20 n).toArray.size≤20
 rw [List.size_toArray];exact SG 20 n
theorem VY {n:Int} (h:n<0) (hl : -9223372036854775808≤n):IntKind.u64.wrap (-IntKind.u64.wrap n)=(((-n).toNat:Nat):Int):=by
 rw [IntKind.wrap_u64,IntKind.wrap_u64];omega
theorem QP {n:Int} (h:0≤n) (hl:n≤9223372036854775807):IntKind.u64.wrap n=((n.toNat:Nat):Int):=by
 rw [IntKind.wrap_u64];omega
def signS (n:Int):ByteArray:=if n<0 then ⟨#[45]⟩++decS (-n).toNat else ⟨#[43]⟩++decS n.toNat
theorem signS_size (n:Int):(signS n).size≤21:=by
 have h1:=decS_size (-n).toNat
 have h2:=decS_size n.toNat
 have e1:(⟨#[45]⟩:ByteArray).size=1:=rfl
 have e2:(⟨#[43]⟩:ByteArray).size=1:=rfl
 unfold signS
 split<;>rw [ByteArray.size_append]<;>omega
theorem DT {s:ByteArray} (h:iP s=true):s.size≤512:=by
 unfold iP at h;simp at h;exact h.1
theorem Pi {m:ByteArray} (h:¬m=emp):¬emp=m:=fun e=>h e.symm
def printF (v:Val):ByteArray×Int :=
 if (v.plus≠emp∧iP v.plus=false)∨(v.minus≠emp∧iP v.minus=false) then (emp,90)
 else if v.plus=v.minus∧v.plus≠emp then (emp,90)
 else if v.plus=emp∧v.minus=emp then (if v.add<0 then (signS v.add,0) else (decS v.add.toNat,0))
 else
  let o:=if v.plus=emp then ⟨#[48]⟩ else v.plus
  let o:=if v.minus=emp then o else o++(⟨#[45]⟩++v.minus)
  (if v.add=0 then o else o++signS v.add,0)
end Go.Proofs.YthcoegkfpinlfaaGreatDoor.Ex
namespace Go.Proofs.YthcoegkfpinlfaaGreatDoor.Ex
open Go.RowKit
def okB (i:Nat) (c:Int):Bool:=nl c||(MX c&&decide (i≠0))
def Lf (i:Nat):List UInt8→Bool
 | []=>true
 | c::r=>okB i c.toNat&&Lf (i+1) r
theorem NA:∀ (l:List UInt8) (i:Nat),i≠0→Lf i l=(Ks wordyB l==l.length)
 | [],i,h=>rfl
 | c::r,i,h=>by
  rw [Lf,NA r (i+1) (by omega)]
  have e:okB i c.toNat=wordyB c.toNat:=by simp [okB,wordyB,h]
  rw [e]
  unfold Ks
  rw [List.takeWhile_cons]
  cases wordyB c.toNat<;>simp
theorem X8 (s:ByteArray):iP s=(Lf 0 s.data.toList&&(!decide (s.size=0)&&decide (s.size≤512))):=by
 unfold iP Py
 have hl:s.data.toList.length=s.size:=Array.length_toList
 cases e:s.data.toList with
 | nil =>
  have h0:s.size=0:=by rw [← hl,e];rfl
  simp [h0]
 | cons c r =>
  have h0:¬s.size=0:=by rw [← hl,e];simp
  have hr:s.size=r.length+1:=by rw [← hl,e];rfl
  rw [Lf,NA r 1 (by omega)]
  have e1:okB 0 c.toNat=nl c.toNat:=by simp [okB]
  rw [e1]
  cases hL:nl c.toNat with
  | false=>simp [hL]
  | true =>
   have hw:wordyB c.toNat=true:=by simp [wordyB,hL]
   have e2:Ks wordyB (c::r)=Ks wordyB r+1:=by unfold Ks;rw [List.takeWhile_cons,hw];rfl
   have e3:(Ks wordyB r+1==r.length+1)=(Ks wordyB r==r.length):=by rw [Bool.eq_iff_iff];simp
   have e4:decide (r.length+1=0)=false:=by simp
   simp only [hL,e2,hr,Bool.true_and,e3,e4,Bool.not_false]
   rw [Bool.and_comm]
theorem Yw (d:Nat) (h:d<10):(⟨#[48,49,50,51,52,53,54,55,56,57,97,98,99,100,101,102]⟩:ByteArray).extract d (d+1)=⟨#[UInt8.ofNat (48+d)]⟩:=by
 match d,h with
 | 0,_=>rfl
 | 1,_=>rfl
 | 2,_=>rfl
 | 3,_=>rfl
 | 4,_=>rfl
 | 5,_=>rfl
 | 6,_=>rfl
 | 7,_=>rfl
 | 8,_=>rfl
 | 9,_=>rfl
theorem VS {m q:Nat} (h:m<10 ^ (q+1)):m / 10<10 ^ q:=by
 rw [Nat.pow_succ] at h;omega
theorem VL {m q:Nat} (h:m<10 ^ (q+1)) (h10:¬m<10):0<q:=by
 rcases Nat.eq_zero_or_pos q with rfl | h0
 ·simp at h;omega
 ·exact h0
end Go.Proofs.YthcoegkfpinlfaaGreatDoor.Ex
namespace Go.Proofs.YthcoegkfpinlfaaGreatDoor.Ex
open Go.RowKit
def signF (k:Int):ByteArray :=
 if k=3 then ⟨#[45]⟩ else if k=4 then ⟨#[126]⟩ else if k=5 then ⟨#[42]⟩ else if k=6 then ⟨#[47]⟩ else if k=7 then ⟨#[37]⟩ else if k=8 then ⟨#[43]⟩ else if k=9 then ⟨#[45]⟩
 else if k=10 then ⟨#[60,60]⟩ else if k=11 then ⟨#[62,62]⟩ else if k=12 then ⟨#[38]⟩ else if k=13 then ⟨#[94]⟩ else ⟨#[124]⟩
structure Pc where
 s:ByteArray
 d:Int
def leafF (num:Int→ByteArray) (t:Term):Pc:=⟨if t.kind=1 then num t.n else t.sym,0⟩
def unF (k:Int) (x:Pc):Pc:=⟨(⟨#[40]⟩++signF k)++x.s++⟨#[41]⟩,x.d+1⟩
def biF (k:Int) (x y:Pc):Pc:=⟨((⟨#[40]⟩++x.s)++signF k)++y.s++⟨#[41]⟩,max x.d y.d+1⟩
def Zs:Pc:=⟨emp,0⟩
def stepP (num:Int→ByteArray) (st:List Pc) (t:Term):List Pc :=
 if fL t.kind=0 then st++[leafF num t]
 else if fL t.kind=1 then st.take (st.length-1)++[unF t.kind (st.getD (st.length-1) Zs)]
 else st.take (st.length-2)++[biF t.kind (st.getD (st.length-2) Zs) (st.getD (st.length-1) Zs)]
def eI (num:Int→ByteArray) (st:List Pc):List Term→List Pc
 | []=>st
 | t::r=>eI num (stepP num st t) r
def room (st:List Pc):Nat:=(st.map fun x=>x.s.size).sum
structure Fine (k:Nat) (st:List Pc):Prop where
 len:st.length≤k
 room:room st≤1000*k
 dep:∀ x∈st,0≤x.d∧x.d≤k
end Go.Proofs.YthcoegkfpinlfaaGreatDoor.Ex
namespace Go.Proofs.YthcoegkfpinlfaaGreatDoor.Ex
open Go.RowKit
structure PS where
 at_:Nat
 op:Int
 ts:List Term
structure POk (l:List Tok) (N:Nat) (s:PS):Prop where
 le:s.at_≤l.length
 rem:l.length≤s.at_+N
 op0:0≤s.op
 op1:s.op≤64
 ts:s.ts.length≤256
theorem POk.mono {l:List Tok} {N N':Nat} {s:PS} (h:POk l N s) (hN:N≤N'):POk l N' s:=⟨h.le,by have:=h.rem;omega,h.op0,h.op1,h.ts⟩
end Go.Proofs.YthcoegkfpinlfaaGreatDoor.Ex
namespace Go.Proofs.YthcoegkfpinlfaaGreatDoor.Ex
open Go.RowKit
structure GoodV (v:Val):Prop where
 p:v.plus=emp∨iP v.plus=true
 m:v.minus=emp∨iP v.minus=true
 ne:v.plus=v.minus→v.plus=emp
 lo : -9223372036854775808≤v.add
 hi:v.add≤9223372036854775807
end Go.Proofs.YthcoegkfpinlfaaGreatDoor.Ex
