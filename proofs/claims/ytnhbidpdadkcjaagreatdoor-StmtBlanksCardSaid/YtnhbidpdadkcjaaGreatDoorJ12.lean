import Derived.Test.YtnhbidpdadkcjaaGreatDoorJ10
import Derived.Test.YtnhbidpdadkcjaaGreatDoorJ01
import Derived.Test.YtnhbidpdadkcjaaGreatDoorChecked
import Derived.WalkKit
import Derived.WalkSpells
import Derived.WalkLawsBesides
import Derived.Lib.Hide
import Derived.OpenShut
set_option linter.unusedVariables false
set_option linter.unusedSimpArgs false
set_option maxRecDepth 100000
set_option maxHeartbeats 8000000
namespace Go.Proofs.YtnhbidpdadkcjaaGreatDoor
structure OpV where
 kind:Int
 r:kC
 m:kC
 md:Int
 amt:Int
 n:Int
 add:Int
 plus:ByteArray
 minus:ByteArray
 lo:Bool
 mode:Int
deriving instance DecidableEq for OpV
def r0:kC:=⟨0,false,false⟩
def op0 (kind:Int):OpV:=⟨kind,r0,r0,0,0,0,0,emp,emp,false,0⟩
end Go.Proofs.YtnhbidpdadkcjaaGreatDoor
namespace Go.Proofs.YtnhbidpdadkcjaaGreatDoor
structure Tok where
 kind:Int
 text:ByteArray
 n:Int
 pos:Int
end Go.Proofs.YtnhbidpdadkcjaaGreatDoor
namespace Go.Proofs.YtnhbidpdadkcjaaGreatDoor
open Go.RowKit
theorem mR (n:Int) (w:World) :
  Calls Tryz.prog 116 #[.int .u8 n] w fun e w'=>e=.returned (.bool (fU n))∧w=w':=by
 go_enter Tryz.func116,Tryz.ntmps116
 go_wp2
 all_goals (go_ret;refine ⟨gG ?_,rfl⟩;rw [Bool.eq_iff_iff];simp [fU];try omega)
theorem ul (n:Int) (w:World) :
  Calls Tryz.prog 165 #[.int .u8 n] w fun e w'=>e=.returned (.bool (lS n))∧w=w':=by
 go_enter Tryz.func165,Tryz.ntmps165
 go_wp2
 all_goals (go_ret;refine ⟨gG ?_,rfl⟩;rw [Bool.eq_iff_iff];simp [lS];try omega)
theorem Ab (n:Int) (w:World) :
  Calls Tryz.prog 118 #[.int .u8 n] w fun e w'=>e=.returned (.bool (dc n))∧w=w':=by
 by_cases h:fU n=true
 ·go_enter Tryz.func118,Tryz.ntmps118
  go_wp2_with (first | (go_at_call 116;refine (mR _ _).mono ?_;rintro e w' ⟨rfl,rfl⟩) | (go_at_call 165;refine (ul _ _).mono ?_;rintro e w' ⟨rfl,rfl⟩))
  go_ret;exact ⟨gG (by simp [dc,h]),rfl⟩
 ·have h':fU n=false:=by simpa using h
  go_enter Tryz.func118,Tryz.ntmps118
  go_wp2_with (first | (go_at_call 116;refine (mR _ _).mono ?_;rintro e w' ⟨rfl,rfl⟩) | (go_at_call 165;refine (ul _ _).mono ?_;rintro e w' ⟨rfl,rfl⟩))
  go_ret;exact ⟨gG (by simp [dc,h']),rfl⟩
theorem GF (F:Nat) (g:Int→Bool) (hE:∀ args w,(callFunc F args).run Tryz.prog w=.ok (.enter F args) w) (hF:∀ (n:Int) (w:World),Calls Tryz.prog F #[.int .u8 n] w fun e w'=>e=.returned (.bool (g n))∧w=w') (s:ByteArray) (w:World) (hs:s.size≤maxLen) :
  Calls Tryz.prog 117 #[.string s,.func (.func F) #[] #[]] w fun e w'=>e=.returned (.int .i64 (sF g s.data.toList))∧w=w':=by
 have HF:=Lib.hid hF
 clear hF
 unfold maxLen at hs
 go_enter Tryz.func117,Tryz.ntmps117
 go_wp2_with fail
 go_loop [5] (fun n=>∃ k:Nat,k≤s.size∧n=.int .i64 k∧Hid (sF g (s.data.toList.drop k)+k=sF g s.data.toList)) (fun n=>s.size-(intOf n).toNat)
 case atStart=>exact ⟨0,Nat.zero_le _,rfl,show _=_ by simp⟩
 case round =>
  obtain ⟨k,hk,rfl,hr⟩:=hrel
  by_cases hlt:k<s.size
  ·have st:=Lib.hid (Jb g s k hlt)
   by_cases hg:g (s[k].toNat:Int)=true
   ·go_wp2_with fail
    refine (HF.out _ _).mono ?_
    rintro e w' ⟨rfl,rfl⟩
    go_wp2_with fail
    go_round
    case rel=>exact ⟨k+1,by omega,by go_num,show _=_ by rw [← hr.out,st.out,if_pos hg];omega⟩
    case measure=>simp [intOf];omega
   ·have hg':g (s[k].toNat:Int)=false:=by simpa using hg
    go_wp2_with fail
    refine (HF.out _ _).mono ?_
    rintro e w' ⟨rfl,rfl⟩
    go_wp2_with fail
    go_ret
    exact ⟨pP (by have h1:=hr.out;rw [st.out,if_neg (by simp [hg'])] at h1;omega),rfl⟩
  ·have h0:=Lib.hid (MR g s k (by omega))
   go_wp2_with fail
   go_ret
   exact ⟨pP (by have h1:=hr.out;rw [h0.out] at h1;omega),rfl⟩
theorem vn (args:Array Value) (w:World):(callFunc 118 args).run Tryz.prog w=.ok (.enter 118 args) w:=by go_simp
theorem uP (s:ByteArray) (w:World) (hs:s.size≤maxLen) :
  Calls Tryz.prog 117 #[.string s,.func (.func 118) #[] #[]] w fun e w'=>e=.returned (.int .i64 (sF dc s.data.toList))∧w=w' :=
 GF _ _ vn Ab s w hs
theorem xK (s:ByteArray) (w:World) (hs:s.size≤maxLen) :
  Calls Tryz.prog 54 #[.string s] w fun e w'=>e=.returned (.bool (vA s))∧w=w':=by
 by_cases h0:s.size=0
 ·have h1:s.toList=[]:=FO h0
  have h2:s.toList.isEmpty=true:=by rw [h1];rfl
  go_enter Tryz.func54,Tryz.ntmps54
  go_wp2_with fail
  go_ret
  exact ⟨gG (uA h0),rfl⟩
 ·have h1:0<s.size:=by omega
  have h2:s.toList.isEmpty=false:=Bv h0
  have h3:¬s.toList=[]:=yA h0
  by_cases hl:fU (s[0].toNat:Int)=true
  ·go_enter Tryz.func54,Tryz.ntmps54
   go_wp2_with (first | (go_at_call 116;refine (mR _ _).mono ?_;rintro e w' ⟨rfl,rfl⟩) | (go_at_call 117;refine (uP _ _ hs).mono ?_;rintro e w' ⟨rfl,rfl⟩))
   go_ret
   exact ⟨gG (by rw [pD h1,hl,Bool.true_and,Bool.eq_iff_iff,beq_iff_eq,beq_iff_eq];omega),rfl⟩
  ·have hl':fU (s[0].toNat:Int)=false:=by simpa using hl
   go_enter Tryz.func54,Tryz.ntmps54
   go_wp2_with (first | (go_at_call 116;refine (mR _ _).mono ?_;rintro e w' ⟨rfl,rfl⟩) | (go_at_call 117;refine (uP _ _ hs).mono ?_;rintro e w' ⟨rfl,rfl⟩))
   go_ret
   exact ⟨gG (by rw [pD h1,hl'];simp),rfl⟩
theorem bJ (s:ByteArray) (w:World) (hs:s.size≤maxLen) :
  Calls Tryz.prog 122 #[.string s] w fun e w'=>e=.returned (.bool (ik s))∧w=w':=by
 by_cases h:s.size≤512
 ·have h':(s.size:Int)≤512:=by omega
  go_enter Tryz.func122,Tryz.ntmps122
  go_wp2_with (first | (go_at_call 54;refine (xK _ _ hs).mono ?_;rintro e w' ⟨rfl,rfl⟩))
  go_ret
  exact ⟨gG (by simp [ik,h]),rfl⟩
 ·have h':(512:Int)<s.size:=by omega
  go_enter Tryz.func122,Tryz.ntmps122
  go_wp2_with (first | (go_at_call 54;refine (xK _ _ hs).mono ?_;rintro e w' ⟨rfl,rfl⟩))
  go_ret
  exact ⟨gG (by simp [ik,h]),rfl⟩
end Go.Proofs.YtnhbidpdadkcjaaGreatDoor
namespace Go.Proofs.YtnhbidpdadkcjaaGreatDoor.Ex
open Go.RowKit
def _root_.Go.Proofs.YtnhbidpdadkcjaaGreatDoor.Val.cells (x:Val):List Value:=[.int .i64 x.add,.string x.plus,.string x.minus]
def e9 (k:Int) (a b:Val):Val×Int :=
 if k=3 then (Iv b,0)
 else if k=4 then (if dJ b.plus b.minus=true then (⟨bits .xor .i64 (-1) b.add,emp,emp⟩,0) else (fy,91))
 else if k=8 then sT a b
 else if k=9 then sT a (Iv b)
 else if dJ a.plus a.minus=true∧dJ b.plus b.minus=true then (⟨(kD k a.add b.add).1,emp,emp⟩,(kD k a.add b.add).2) else (fy,91)
theorem DV (a:Val) {b:Val} (h:dJ b.plus b.minus=true):e9 4 a b=(⟨bits .xor .i64 (-1) b.add,⟨#[]⟩,⟨#[]⟩⟩,0):=by simp [e9,h,emp]
theorem wC (a:Val) {b:Val} (h:dJ b.plus b.minus=false):e9 4 a b=(⟨0,⟨#[]⟩,⟨#[]⟩⟩,91):=by simp [e9,h,fy,emp]
theorem DU (a b:Val):e9 8 a b=sT a b:=by simp [e9]
theorem DX (a b:Val):e9 9 a b=sT a ⟨wrap64 (-b.add),b.minus,b.plus⟩:=by simp [e9,Iv]
theorem DW {k:Int} {a b:Val} (k3:(k==3)=false) (k4:(k==4)=false) (k8:(k==8)=false) (k9:(k==9)=false) (ha:dJ a.plus a.minus=true) (hb:dJ b.plus b.minus=true) :
  e9 k a b=(⟨(kD k a.add b.add).1,⟨#[]⟩,⟨#[]⟩⟩,(kD k a.add b.add).2):=by
 simp only [beq_eq_false_iff_ne,ne_eq] at k3 k4 k8 k9
 simp [e9,k3,k4,k8,k9,ha,hb,emp]
theorem qe {k:Int} {a b:Val} (k3:(k==3)=false) (k4:(k==4)=false) (k8:(k==8)=false) (k9:(k==9)=false) (h:dJ a.plus a.minus=false∨dJ b.plus b.minus=false) :
  e9 k a b=(⟨0,⟨#[]⟩,⟨#[]⟩⟩,91):=by
 simp only [beq_eq_false_iff_ne,ne_eq] at k3 k4 k8 k9
 rcases h with h | h<;>simp [e9,k3,k4,k8,k9,h,fy,emp]
def _root_.Go.Proofs.YtnhbidpdadkcjaaGreatDoor.Val.le (x:Val) (k:Nat):Prop:=x.plus.size≤k∧x.minus.size≤k
theorem za {x:Val} {k:Nat} (h:x.le k):(cE x).le k:=qm rfl h.1 h.2
theorem F2 {a b:Val} {k:Nat} (ha:a.le k) (hb:b.le k):(sT a b).1.le k:=by
 obtain ⟨a1,a2⟩:=za ha
 obtain ⟨b1,b2⟩:=za hb
 obtain ⟨m1,m2⟩:=pA (show fu (cE a).plus (cE b).minus=((fu (cE a).plus (cE b).minus).1,(fu (cE a).plus (cE b).minus).2) from rfl) a1 b2
 obtain ⟨m3,m4⟩:=pA (show fu (cE a).minus (cE b).plus=((fu (cE a).minus (cE b).plus).1,(fu (cE a).minus (cE b).plus).2) from rfl) a2 b1
 unfold sT
 dsimp only
 split
 ·exact ⟨by simp [fy,emp,ByteArray.size],by simp [fy,emp,ByteArray.size]⟩
 ·rename_i h
  have e0:emp.size=0:=rfl
  constructor
  ·show (_++_:ByteArray).size≤k
   rw [ByteArray.size_append]
   by_cases h1:(fu (cE a).plus (cE b).minus).fst=emp
   ·rw [h1,e0];omega
   ·have h2:(fu (cE a).minus (cE b).plus).snd=emp:=Decidable.byContradiction fun h2=>h (.inl ⟨h1,h2⟩)
    rw [h2,e0];omega
  ·show (_++_:ByteArray).size≤k
   rw [ByteArray.size_append]
   by_cases h1:(fu (cE a).minus (cE b).plus).fst=emp
   ·rw [h1,e0];omega
   ·have h2:(fu (cE a).plus (cE b).minus).snd=emp:=Decidable.byContradiction fun h2=>h (.inr ⟨h1,h2⟩)
    rw [h2,e0];omega
theorem EA (n:Int) (k:Nat):Val.le ⟨n,emp,emp⟩ k:=⟨Nat.zero_le _,Nat.zero_le _⟩
theorem G4 (m:Int) {a b:Val} {k:Nat} (ha:a.le k) (hb:b.le k):(e9 m a b).1.le k:=by
 have hn:(Iv b).le k:=⟨hb.2,hb.1⟩
 unfold e9
 split
 ·exact hn
 split
 ·split<;>exact EA _ _
 split
 ·exact F2 ha hb
 split
 ·exact F2 ha hn
 split<;>exact EA _ _
def kg (vs:List Val):List Term→Val×Int
 | []=>(vs.getD 0 fy,0)
 | t::r =>
  if cu t.kind=0 then kg (vs++[⟨t.n,t.sym,emp⟩]) r
  else
   let y:=e9 t.kind (vs.getD (vs.length-2) fy) (vs.getD (vs.length-1) fy)
   if y.2=0 then kg (vs.take (vs.length-(cu t.kind).toNat)++[y.1]) r else (fy,y.2)
def evalAll (l:List Term):Val×Int:=if iH l=0 then kg [] l else (fy,iH l)
theorem Ek {vs:List Val} {t:Term} {r:List Term} (h:cu t.kind=0):kg vs (t::r)=kg (vs++[⟨t.n,t.sym,emp⟩]) r:=by rw [kg,if_pos h]
theorem KU {vs:List Val} {t:Term} {r:List Term} (h:¬cu t.kind=0) {v:Val} (e:e9 t.kind (vs.getD (vs.length-2) fy) (vs.getD (vs.length-1) fy)=(v,0)) :
  kg vs (t::r)=kg (vs.take (vs.length-(cu t.kind).toNat)++[v]) r:=by
 rw [kg,if_neg h];dsimp only;rw [e,if_pos rfl]
theorem HO {vs:List Val} {t:Term} {r:List Term} (h:¬cu t.kind=0) {v:Val} {x:Int} (hx:¬x=0) (e:e9 t.kind (vs.getD (vs.length-2) fy) (vs.getD (vs.length-1) fy)=(v,x)) :
  kg vs (t::r)=(fy,x):=by
 rw [kg,if_neg h];dsimp only;rw [e,if_neg hx]
theorem Em {h:Int} {t:Term} {r:List Term} (e:eJ h (t::r)=0):ky t=true∧cu t.kind≤h∧eJ (h+(1-cu t.kind)) r=0:=by
 rw [eJ] at e
 split at e
 ·cases e
 ·rename_i hn
  refine ⟨?_,?_,e⟩
  ·cases ht:ky t with
   | true=>rfl
   | false=>exact (hn (.inl ht)).elim
  ·exact Int.not_lt.1 fun hlt=>hn (.inr hlt)
theorem HP {h:Int} (e:eJ h []=0):h=1:=by
 rw [eJ] at e;split at e
 ·assumption
 ·cases e
theorem BQ {ts:List Term} (h:iH ts=0):eJ 0 ts=0:=by
 unfold iH at h
 split at h
 ·split at h
  ·cases h
  ·exact h
 ·exact h
theorem Av {k:Int} (h:cu k=1) (a a' b:Val):e9 k a b=e9 k a' b:=by
 have:k=3∨k=4:=by
  unfold cu at h
  split at h
  ·assumption
  ·split at h<;>omega
 rcases this with rfl | rfl<;>simp [e9]
end Go.Proofs.YtnhbidpdadkcjaaGreatDoor.Ex
namespace Go.Proofs.YtnhbidpdadkcjaaGreatDoor.Ex
open Go.RowKit
def AD:Nat→Nat→List UInt8
 | 0,_=>[]
 | f+1,n=>if n<10 then [UInt8.ofNat (48+n)] else AD f (n / 10)++[UInt8.ofNat (48+n % 10)]
def decS (n:Nat):ByteArray:=⟨(AD 20 n).toArray⟩
theorem B0:∀ f n,(AD f n).length≤f
 | 0,_=>Nat.le_refl _
 | f+1,n=>by
  rw [AD]
  split
  ·simp
  ·rw [List.length_append];have:=B0 f (n / 10);simp;omega
theorem decS_size (n:Nat):(decS n).size≤20:=by
 show (AD 20 n).toArray.size≤20
 rw [List.size_toArray];exact B0 20 n
theorem P3 {n:Int} (h:n<0) (hl : -9223372036854775808≤n):IntKind.u64.wrap (-IntKind.u64.wrap n)=(((-n).toNat:Nat):Int):=by
 rw [IntKind.wrap_u64,IntKind.wrap_u64];omega
theorem GO {n:Int} (h:0≤n) (hl:n≤9223372036854775807):IntKind.u64.wrap n=((n.toNat:Nat):Int):=by
 rw [IntKind.wrap_u64];omega
def j6 (n:Int):ByteArray:=if n<0 then ⟨#[45]⟩++decS (-n).toNat else ⟨#[43]⟩++decS n.toNat
theorem signS_size (n:Int):(j6 n).size≤21:=by
 have h1:=decS_size (-n).toNat
 have h2:=decS_size n.toNat
 have e1:(⟨#[45]⟩:ByteArray).size=1:=rfl
 have e2:(⟨#[43]⟩:ByteArray).size=1:=rfl
 unfold j6
 split<;>rw [ByteArray.size_append]<;>omega
theorem symB_size {s:ByteArray} (h:ik s=true):s.size≤512:=by
 unfold ik at h;simp at h;exact h.1
theorem KH {m:ByteArray} (h:¬m=emp):¬emp=m:=fun e=>h e.symm
def printF (v:Val):ByteArray×Int :=
 if (v.plus≠emp∧ik v.plus=false)∨(v.minus≠emp∧ik v.minus=false) then (emp,90)
 else if v.plus=v.minus∧v.plus≠emp then (emp,90)
 else if v.plus=emp∧v.minus=emp then (if v.add<0 then (j6 v.add,0) else (decS v.add.toNat,0))
 else
  let o:=if v.plus=emp then ⟨#[48]⟩ else v.plus
  let o:=if v.minus=emp then o else o++(⟨#[45]⟩++v.minus)
  (if v.add=0 then o else o++j6 v.add,0)
end Go.Proofs.YtnhbidpdadkcjaaGreatDoor.Ex
namespace Go.Proofs.YtnhbidpdadkcjaaGreatDoor.Ex
open Go.RowKit
theorem Oy {m q:Nat} (h:m<10 ^ (q+1)):m / 10<10 ^ q:=by
 rw [Nat.pow_succ] at h;omega
theorem Ox {m q:Nat} (h:m<10 ^ (q+1)) (h10:¬m<10):0<q:=by
 rcases Nat.eq_zero_or_pos q with rfl | h0
 ·simp at h;omega
 ·exact h0
end Go.Proofs.YtnhbidpdadkcjaaGreatDoor.Ex
namespace Go.Proofs.YtnhbidpdadkcjaaGreatDoor.Ex
open Go.RowKit
def rN (k:Int):ByteArray :=
 if k=3 then ⟨#[45]⟩ else if k=4 then ⟨#[126]⟩ else if k=5 then ⟨#[42]⟩ else if k=6 then ⟨#[47]⟩ else if k=7 then ⟨#[37]⟩ else if k=8 then ⟨#[43]⟩ else if k=9 then ⟨#[45]⟩
 else if k=10 then ⟨#[60,60]⟩ else if k=11 then ⟨#[62,62]⟩ else if k=12 then ⟨#[38]⟩ else if k=13 then ⟨#[94]⟩ else ⟨#[124]⟩
structure Pc where
 s:ByteArray
 d:Int
def par (l m r:ByteArray):ByteArray:=((⟨#[40]⟩++l++m)++r)++⟨#[41]⟩
def Tx (num:Int→ByteArray) (t:Term):Pc:=⟨if t.kind=1 then num t.n else t.sym,0⟩
def unF (k:Int) (x:Pc):Pc:=⟨(⟨#[40]⟩++rN k)++x.s++⟨#[41]⟩,x.d+1⟩
def biF (k:Int) (x y:Pc):Pc:=⟨((⟨#[40]⟩++x.s)++rN k)++y.s++⟨#[41]⟩,max x.d y.d+1⟩
def Nv:Pc:=⟨emp,0⟩
def T0 (num:Int→ByteArray) (st:List Pc) (t:Term):List Pc :=
 if cu t.kind=0 then st++[Tx num t]
 else if cu t.kind=1 then st.take (st.length-1)++[unF t.kind (st.getD (st.length-1) Nv)]
 else st.take (st.length-2)++[biF t.kind (st.getD (st.length-2) Nv) (st.getD (st.length-1) Nv)]
def eT (num:Int→ByteArray) (st:List Pc):List Term→List Pc
 | []=>st
 | t::r=>eT num (T0 num st t) r
def room (st:List Pc):Nat:=(st.map fun x=>x.s.size).sum
structure Fine (k:Nat) (st:List Pc):Prop where
 len:st.length≤k
 room:room st≤1000*k
 dep:∀ x∈st,0≤x.d∧x.d≤k
end Go.Proofs.YtnhbidpdadkcjaaGreatDoor.Ex
namespace Go.Proofs.YtnhbidpdadkcjaaGreatDoor.Ex
open Go.RowKit
structure PS where
 at_:Nat
 op:Int
 ts:List Term
abbrev PR:=Except Int PS
def kE (t:Term) (s:PS):PR:=if 256<s.ts.length+1 then .error 93 else .ok { s with ts:=s.ts++[t] }
def nextF (l:List Tok) (s:PS):ByteArray :=
 match l[s.at_]? with
 | some t=>if t.kind=4 then t.text else emp
 | none=>emp
def eZ (read:PS→PR) (s:PS):PR :=
 if 64<s.op+1 then .error 93 else
 match read ⟨s.at_+1,s.op+1,s.ts⟩ with
 | .ok s'=>.ok { s' with op:=s'.op-1 }
 | .error e=>.error e
def di (s:ByteArray):List Int→Int→Int
 | [],f=>f
 | k::r,f=>di s r (if s≠emp∧s=rN k then k else f)
def gw (l:List Tok) (read:PS→PR) (kinds:List Int):Nat→PS→PR
 | 0,s=>.ok s
 | m+1,s =>
  if di (nextF l s) kinds 0=0 then .ok s else
  match read ⟨s.at_+1,s.op,s.ts⟩ with
  | .error e=>.error e
  | .ok s'=>match kE ⟨di (nextF l s) kinds 0,0,emp⟩ s' with
   | .error e=>.error e
   | .ok s''=>gw l read kinds m s''
def fB (l:List Tok) (read:PS→PR) (kinds:List Int) (s:PS):PR :=
 match read s with
 | .error e=>.error e
 | .ok s'=>gw l read kinds l.length s'
def jH (l:List Tok) (read:PS→PR):PS→PR :=
 fB l (fB l (fB l (fB l (fB l (fB l read [5,6,7]) [8,9]) [10,11]) [12]) [13]) [14]
def cv (l:List Tok):Nat→PS→PR
 | 0,_=>.error 90
 | N+1,s=>match l[s.at_]? with
  | none=>.error 90
  | some t =>
   if t.kind=2 then kE ⟨1,wrap64 t.n,emp⟩ { s with at_:=s.at_+1 }
   else if t.kind=1 then kE ⟨2,0,t.text⟩ { s with at_:=s.at_+1 }
   else if t.kind=4∧t.text=⟨#[40]⟩ then
    match eZ (jH l (cv l N)) s with
    | .error e=>.error e
    | .ok s'=>if nextF l s'=⟨#[41]⟩ then .ok { s' with at_:=s'.at_+1 } else .error 90
   else if t.kind=4∧(t.text=⟨#[45]⟩∨t.text=⟨#[126]⟩) then
    match eZ (cv l N) s with
    | .error e=>.error e
    | .ok s'=>kE ⟨if t.text=⟨#[126]⟩ then 4 else 3,0,emp⟩ s'
   else .error 90
structure POk (l:List Tok) (N:Nat) (s:PS):Prop where
 le:s.at_≤l.length
 rem:l.length≤s.at_+N
 op0:0≤s.op
 op1:s.op≤64
 ts:s.ts.length≤256
def BA (l:List Tok) (N:Nat) (F:PS→PR):Prop :=
 ∀ s s',POk l N s→F s=.ok s'→s.at_<s'.at_∧s'.at_≤l.length∧s'.op=s.op∧s'.ts.length≤256
theorem rg {t:Term} {s s':PS} (h:kE t s=.ok s'):s'={ s with ts:=s.ts++[t] }∧s.ts.length+1≤256:=by
 unfold kE at h
 split at h
 ·cases h
 ·injection h with h;exact ⟨h.symm,by omega⟩
theorem tJ {l:List Tok} {s:PS} (h:nextF l s≠emp):s.at_<l.length:=by
 unfold nextF at h
 split at h
 ·rename_i t ht;exact (List.getElem?_eq_some_iff.1 ht).1
 ·exact absurd rfl h
theorem xh:∀ (kinds:List Int) (f:Int),di emp kinds f=f
 | [],f=>rfl
 | k::r,f=>by rw [di,if_neg (by simp),xh r f]
theorem uq {l:List Tok} {s:PS} {kinds:List Int} (h:¬di (nextF l s) kinds 0=0):nextF l s≠emp:=by
 intro e
 rw [e,xh] at h
 exact h rfl
theorem POk.mono {l:List Tok} {N N':Nat} {s:PS} (h:POk l N s) (hN:N≤N'):POk l N' s:=⟨h.le,by have:=h.rem;omega,h.op0,h.op1,h.ts⟩
theorem kt {l:List Tok} {N:Nat} {read:PS→PR} (h:BA l N read) {s s':PS} (hs:POk l (N+1) s) (hlt:s.at_<l.length) (e:eZ read s=.ok s'):s.at_+1<s'.at_∧s'.at_≤l.length∧s'.op=s.op∧s'.ts.length≤256:=by
 unfold eZ at e
 split at e
 ·cases e
 ·split at e
  ·rename_i hop q hq
   injection e with e
   subst e
   have:=h ⟨s.at_+1,s.op+1,s.ts⟩ _ ⟨by show s.at_+1≤_;omega,by have:=hs.rem;show _≤s.at_+1+N;omega,by have:=hs.op0;show 0≤s.op+1;omega,by show s.op+1≤64;omega,hs.ts⟩ hq
   simp only at this ⊢
   exact ⟨this.1,this.2.1,by omega,this.2.2.2⟩
  ·cases e
theorem tS {l:List Tok} {N:Nat} {read:PS→PR} {kinds:List Int} (h:BA l N read):∀ (m:Nat) {s s':PS},POk l (N+1) s→gw l read kinds m s=.ok s'→s.at_≤s'.at_∧s'.at_≤l.length∧s'.op=s.op∧s'.ts.length≤256
 | 0,s,s',hs,e=>by
  injection e with e;subst e
  exact ⟨Nat.le_refl _,hs.le,rfl,hs.ts⟩
 | m+1,s,s',hs,e=>by
  rw [gw] at e
  split at e
  ·injection e with e;subst e
   exact ⟨Nat.le_refl _,hs.le,rfl,hs.ts⟩
  ·rename_i hf
   have hlt:=tJ (uq hf)
   split at e
   ·cases e
   ·rename_i q hq
    have h1:=h ⟨s.at_+1,s.op,s.ts⟩ _ ⟨by show s.at_+1≤_;omega,by have:=hs.rem;show _≤s.at_+1+N;omega,hs.op0,hs.op1,hs.ts⟩ hq
    simp only at h1
    split at e
    ·cases e
    ·rename_i q' hq'
     obtain ⟨rfl,h2⟩:=rg hq'
     have:=tS h m (s:={ q with ts:=q.ts++[⟨di (nextF l s) kinds 0,0,emp⟩] }) ⟨h1.2.1,by have:=hs.rem;show _≤q.at_+(N+1);omega,by rw [show (PS.op _)=_ from h1.2.2.1];exact hs.op0,by rw [show (PS.op _)=_ from h1.2.2.1];exact hs.op1,by simp only [List.length_append,List.length_cons,List.length_nil];omega⟩ e
     simp only at this
     exact ⟨by omega,this.2.1,by rw [this.2.2.1,h1.2.2.1],this.2.2.2⟩
theorem fP {l:List Tok} {N:Nat} {read:PS→PR} {kinds:List Int} (h:BA l N read):BA l N (fB l read kinds):=by
 intro s s' hs e
 unfold fB at e
 split at e
 ·cases e
 ·rename_i q hq
  have h1:=h _ _ hs hq
  have:=tS h l.length ⟨h1.2.1,by have:=hs.rem;omega,by rw [h1.2.2.1];exact hs.op0,by rw [h1.2.2.1];exact hs.op1,h1.2.2.2⟩ e
  exact ⟨by omega,this.2.1,by rw [this.2.2.1,h1.2.2.1],this.2.2.2⟩
theorem tD {l:List Tok} {N:Nat} {read:PS→PR} (h:BA l N read):BA l N (jH l read) :=
 fP (fP (fP (fP (fP (fP h)))))
theorem jA {l:List Tok}:∀ N:Nat,BA l N (cv l N)
 | 0,s,s',_,e=>by rw [cv] at e;cases e
 | N+1,s,s',hs,e=>by
  rw [cv] at e
  split at e
  ·cases e
  ·rename_i t ht
   have hlt:=(List.getElem?_eq_some_iff.1 ht).1
   split at e
   ·obtain ⟨rfl,h2⟩:=rg e
    exact ⟨by simp only;omega,by simp only;omega,rfl,by simp only [List.length_append,List.length_cons,List.length_nil];omega⟩
   split at e
   ·obtain ⟨rfl,h2⟩:=rg e
    exact ⟨by simp only;omega,by simp only;omega,rfl,by simp only [List.length_append,List.length_cons,List.length_nil];omega⟩
   split at e
   ·split at e
    ·cases e
    ·rename_i q hq
     have h1:=kt (tD (jA N)) hs hlt hq
     split at e
     ·rename_i hn
      injection e with e
      subst e
      have:=tJ (show nextF l q≠emp by rw [hn];intro h;cases h)
      exact ⟨by simp only;omega,by simp only;omega,h1.2.2.1,h1.2.2.2⟩
     ·cases e
   split at e
   ·split at e
    ·cases e
    ·rename_i q hq
     have h1:=kt (jA N) hs hlt hq
     obtain ⟨rfl,h2⟩:=rg e
     exact ⟨by simp only;omega,h1.2.1,h1.2.2.1,by simp only [List.length_append,List.length_cons,List.length_nil];omega⟩
   ·cases e
def parseF (l:List Tok):PR:=jH l (cv l l.length) ⟨0,0,[]⟩
end Go.Proofs.YtnhbidpdadkcjaaGreatDoor.Ex
namespace Go.Proofs.YtnhbidpdadkcjaaGreatDoor.Ex
open Go.RowKit
def rz:Int→List Term→Option Int
 | h,[]=>some h
 | h,t::r=>if ky t=false∨h<cu t.kind then none else rz (h+(1-cu t.kind)) r
theorem zo:∀ (ts:List Term) (h:Int) (t:Term),rz h (ts++[t])=(rz h ts).bind fun q=>if ky t=false∨q<cu t.kind then none else some (q+(1-cu t.kind))
 | [],h,t=>by simp only [List.nil_append,rz,Option.bind_some]
 | x::r,h,t=>by
  simp only [List.cons_append,rz]
  split
  ·rfl
  ·exact zo r _ t
theorem zn:∀ (ts:List Term) (h:Int),rz h ts=some 1→eJ h ts=0
 | [],h,e=>by
  injection e with e
  rw [eJ,if_pos e]
 | t::r,h,e=>by
  rw [rz] at e
  split at e
  ·cases e
  ·rename_i hn
   rw [eJ,if_neg hn]
   exact zn r _ e
theorem xl:∀ (ts:List Term) (h q:Int),rz h ts=some q→∀ t∈ts,ky t=true
 | [],h,q,_,t,ht=>by simp at ht
 | x::r,h,q,e,t,ht=>by
  rw [rz] at e
  split at e
  ·cases e
  ·rename_i hn
   rcases List.mem_cons.1 ht with rfl | ht
   ·cases hb:ky t with
    | true=>rfl
    | false=>exact (hn (.inl hb)).elim
   ·exact xl r _ q e t ht
def BB (F:PS→PR):Prop:=∀ s h,0≤h→rz 0 s.ts=some h→match F s with
 | .ok s'=>rz 0 s'.ts=some (h+1)
 | .error e=>e≠0
theorem oS {t:Term} {s:PS} {h:Int} (hb:ky t=true) (ht:cu t.kind≤h) (hs:rz 0 s.ts=some h):match kE t s with
  | .ok s'=>rz 0 s'.ts=some (h+(1-cu t.kind))
  | .error e=>e≠0:=by
 unfold kE
 by_cases hl:256<s.ts.length+1
 ·rw [if_pos hl];show (93:Int)≠0;decide
 ·rw [if_neg hl]
  show rz 0 (s.ts++[t])=_
  rw [zo,hs,Option.bind_some,if_neg]
  rw [hb]
  rintro (h1 | h1)
  ·cases h1
  ·omega
theorem tM {read:PS→PR} (hr:BB read):BB (eZ read):=by
 intro s h h0 hs
 unfold eZ
 by_cases hl:64<s.op+1
 ·rw [if_pos hl];show (93:Int)≠0;decide
 ·rw [if_neg hl]
  have:=hr ⟨s.at_+1,s.op+1,s.ts⟩ h h0 hs
  split at this
  ·rename_i e;first | (rw [e];exact this) | exact this
  ·rename_i e;first | (rw [e];exact this) | exact this
theorem foundF_mem {s:ByteArray}:∀ {kinds:List Int} {f:Int},di s kinds f=f∨di s kinds f∈kinds
 | [],f=>.inl rfl
 | k::r,f=>by
  rw [di]
  rcases foundF_mem (s:=s) (kinds:=r) (f:=if s≠emp∧s=rN k then k else f) with h | h
  ·rw [h]
   split
   ·exact .inr (by simp)
   ·exact .inl rfl
  ·exact .inr (List.mem_cons_of_mem _ h)
theorem tU {l:List Tok} {read:PS→PR} {kinds:List Int} (hk:∀ k∈kinds,5≤k∧k≤14) (hr:BB read):∀ (m:Nat) (s:PS) (h:Int),0≤h→rz 0 s.ts=some (h+1)→match gw l read kinds m s with
  | .ok s'=>rz 0 s'.ts=some (h+1)
  | .error e=>e≠0
 | 0,s,h,_,hs=>hs
 | m+1,s,h,h0,hs=>by
  rw [gw]
  by_cases hf:di (nextF l s) kinds 0=0
  ·rw [if_pos hf];exact hs
  ·rw [if_neg hf]
   have hm:di (nextF l s) kinds 0∈kinds:=(foundF_mem.resolve_left hf)
   have hb:=hk _ hm
   have h1:=hr ⟨s.at_+1,s.op,s.ts⟩ (h+1) (by omega) hs
   split at h1
   case h_2=>rename_i e he;rw [he];exact h1
   rename_i q he
   rw [he]
   have ht:cu (di (nextF l s) kinds 0)=2:=by unfold cu;rw [if_neg (by omega),if_pos hb]
   have h2:=oS (t:=⟨di (nextF l s) kinds 0,0,emp⟩) (s:=q) (h:=h+1+1) (by
    unfold ky
    simp only
    rw [if_neg (by omega),if_neg (by omega),ht]
    simp) (by show cu _≤_;rw [ht];omega) h1
   simp only at h2 ⊢
   rw [ht] at h2
   split at h2
   case h_2=>rename_i e he2;rw [he2];exact h2
   rename_i q2 he2
   rw [he2]
   exact tU hk hr m q2 h h0 (by rw [h2];congr 1;omega)
theorem mD {l:List Tok} {read:PS→PR} {kinds:List Int} (hk:∀ k∈kinds,5≤k∧k≤14) (hr:BB read):BB (fB l read kinds):=by
 intro s h h0 hs
 unfold fB
 have h1:=hr s h h0 hs
 split at h1
 case h_2=>rename_i e he;rw [he];exact h1
 rename_i q he
 rw [he]
 exact tU hk hr _ q h h0 h1
theorem tE {l:List Tok} {read:PS→PR} (hr:BB read):BB (jH l read) :=
 mD (by simp) (mD (by simp) (mD (by simp) (mD (by simp) (mD (by simp) (mD (by simp) hr)))))
def Named (l:List Tok):Prop:=∀ t∈l,t.kind=1→ik t.text=true
theorem rK {l:List Tok} (hl:Named l):∀ N:Nat,BB (cv l N)
 | 0=>fun s h _ _=>by show (90:Int)≠0;decide
 | N+1=>by
  have ih:=rK hl N
  intro s h h0 hs
  rw [cv]
  cases ht:l[s.at_]? with
  | none=>show (90:Int)≠0;decide
  | some t =>
   simp only
   by_cases c2:t.kind=2
   ·rw [if_pos c2]
    have:=oS (t:=⟨1,wrap64 t.n,emp⟩) (s:={ s with at_:=s.at_+1 }) (h:=h) (by simp [ky]) (by show cu 1≤h;exact h0) hs
    rw [show cu 1=0 by decide] at this
    exact this
   rw [if_neg c2]
   by_cases c1:t.kind=1
   ·rw [if_pos c1]
    have hn:=hl t (List.mem_of_getElem? ht) c1
    have:=oS (t:=⟨2,0,t.text⟩) (s:={ s with at_:=s.at_+1 }) (h:=h) (by simp [ky,hn]) (by show cu 2≤h;exact h0) hs
    rw [show cu 2=0 by decide] at this
    exact this
   rw [if_neg c1]
   by_cases cp:t.kind=4∧t.text=⟨#[40]⟩
   ·rw [if_pos cp]
    have h1:=tM (tE (l:=l) ih) s h h0 hs
    split at h1
    case h_2=>rename_i e he;rw [he];exact h1
    rename_i q he
    rw [he]
    simp only
    by_cases hc:nextF l q=⟨#[41]⟩
    ·rw [if_pos hc];exact h1
    ·rw [if_neg hc];show (90:Int)≠0;decide
   rw [if_neg cp]
   by_cases cs:t.kind=4∧(t.text=⟨#[45]⟩∨t.text=⟨#[126]⟩)
   ·rw [if_pos cs]
    have h1:=tM ih s h h0 hs
    split at h1
    case h_2=>rename_i e he;rw [he];exact h1
    rename_i q he
    rw [he]
    simp only
    by_cases hc:t.text=⟨#[126]⟩
    ·rw [if_pos hc]
     have:=oS (t:=⟨4,0,emp⟩) (s:=q) (h:=h+1) (by decide) (by show cu 4≤_;rw [show cu 4=1 by decide];omega) h1
     rw [show cu 4=1 by decide,show h+1+(1-1)=h+1 by omega] at this
     exact this
    ·rw [if_neg hc]
     have:=oS (t:=⟨3,0,emp⟩) (s:=q) (h:=h+1) (by decide) (by show cu 3≤_;rw [show cu 3=1 by decide];omega) h1
     rw [show cu 3=1 by decide,show h+1+(1-1)=h+1 by omega] at this
     exact this
   ·rw [if_neg cs];show (90:Int)≠0;decide
theorem parseF_nice {l:List Tok} (hl:Named l):match parseF l with
  | .ok s=>iH s.ts=0∧(∀ t∈s.ts,ky t=true)∧1≤s.at_∧s.at_≤l.length∧s.ts.length≤256
  | .error e=>e≠0:=by
 have h1:=tE (l:=l) (rK hl l.length) ⟨0,0,[]⟩ 0 (by decide) rfl
 unfold parseF
 split at h1
 ·rename_i s he
  have hg:=tD (l:=l) (jA l.length) _ _ ⟨Nat.zero_le _,by simp,by decide,by decide,by simp⟩ he
  refine ⟨?_,xl _ _ _ h1,by have:=hg.1;simp only at this;omega,hg.2.1,hg.2.2.2⟩
  unfold iH
  rw [if_neg (by have:=hg.2.2.2;omega)]
  exact zn _ _ h1
 ·exact h1
structure GoodV (v:Val):Prop where
 p:v.plus=emp∨ik v.plus=true
 m:v.minus=emp∨ik v.minus=true
 ne:v.plus=v.minus→v.plus=emp
 lo : -9223372036854775808≤v.add
 hi:v.add≤9223372036854775807
theorem jk (n:Int) : -9223372036854775808≤wrap64 n∧wrap64 n≤9223372036854775807:=by unfold wrap64;omega
theorem wl (op:BinOp) (a b:Int) : -9223372036854775808≤bits op .i64 a b∧bits op .i64 a b≤9223372036854775807:=by
 have:=bounds_i64 (wf_bits op .i64 a b)
 omega
theorem goodZero:GoodV fy:=⟨.inl rfl,.inl rfl,fun _=>rfl,by decide,by decide⟩
theorem wn {a:Int} (h : -9223372036854775808≤a∧a≤9223372036854775807):GoodV ⟨a,emp,emp⟩:=⟨.inl rfl,.inl rfl,fun _=>rfl,h.1,h.2⟩
theorem M3:ik emp=false:=by decide
theorem Gg {v:Val} (h:GoodV v):GoodV (Iv v):=⟨h.m,h.p,fun e=>by
 have e':v.minus=v.plus:=e
 have:=h.ne e'.symm
 show v.minus=emp
 rw [e'];exact this,(jk _).1,(jk _).2⟩
theorem zl {v:Val} (h:GoodV v):GoodV (cE v)∧(cE v).plus=v.plus∧(cE v).minus=v.minus:=by
 unfold cE
 by_cases e:v.plus=v.minus
 ·rw [if_pos e]
  have h1:=h.ne e
  exact ⟨⟨.inl rfl,.inl rfl,fun _=>rfl,h.lo,h.hi⟩,h1.symm,by rw [← e,h1]⟩
 ·rw [if_neg e];exact ⟨h,rfl,rfl⟩
theorem jM (a:ByteArray):a++emp=a:=by
 refine ByteArray.ext ?_
 rw [ByteArray.data_append];simp [emp]
theorem kP (a:ByteArray):emp++a=a:=by
 refine ByteArray.ext ?_
 rw [ByteArray.data_append];simp [emp]
theorem Gf {a b:Val} (ha:GoodV a) (hb:GoodV b):GoodV (sT a b).1:=by
 obtain ⟨ga,pa,ma⟩:=zl ha
 obtain ⟨gb,pb,mb⟩:=zl hb
 unfold sT
 simp only [pa,ma,pb,mb]
 split
 ·exact goodZero
 ·rename_i hn
  have hx:(fu a.plus b.minus).1=emp∨(fu a.minus b.plus).2=emp:=by
   rcases Classical.em ((fu a.plus b.minus).1=emp) with h | h
   ·exact .inl h
   ·rcases Classical.em ((fu a.minus b.plus).2=emp) with h2 | h2
    ·exact .inr h2
    ·exact (hn (.inl ⟨h,h2⟩)).elim
  have hy:(fu a.minus b.plus).1=emp∨(fu a.plus b.minus).2=emp:=by
   rcases Classical.em ((fu a.minus b.plus).1=emp) with h | h
   ·exact .inl h
   ·rcases Classical.em ((fu a.plus b.minus).2=emp) with h2 | h2
    ·exact .inr h2
    ·exact (hn (.inr ⟨h,h2⟩)).elim
  have r:=jk ((cE a).add+(cE b).add)
  have e0:ik emp=false:=M3
  unfold fu at hx hy ⊢
  by_cases h1:a.plus=b.minus<;>by_cases h2:a.minus=b.plus
  ·simp only [h1,h2,if_true,jM]
   exact wn r
  ·simp only [h1,h2,if_true,if_false,kP,jM] at hx hy ⊢
   exact ⟨hb.p,ha.m,fun e=>(h2 e.symm).elim,r.1,r.2⟩
  ·simp only [h1,h2,if_true,if_false,kP,jM] at hx hy ⊢
   exact ⟨ha.p,hb.m,fun e=>(h1 e).elim,r.1,r.2⟩
  ·simp only [h1,h2,if_false] at hx hy ⊢
   rcases hx with ex | ex<;>rcases hy with ey | ey
   ·rw [ex,ey,kP,kP]
    exact ⟨hb.p,hb.m,hb.ne,r.1,r.2⟩
   ·rw [ex,ey,kP,jM]
    exact ⟨hb.p,ha.m,fun e=>(h2 e.symm).elim,r.1,r.2⟩
   ·rw [ex,ey,jM,kP]
    exact ⟨ha.p,hb.m,fun e=>(h1 e).elim,r.1,r.2⟩
   ·rw [ex,ey,jM,jM]
    exact ⟨ha.p,ha.m,ha.ne,r.1,r.2⟩
theorem KE {k a b:Int} (ha : -9223372036854775808≤a∧a≤9223372036854775807) : -9223372036854775808≤(p8 k a b).1∧(p8 k a b).1≤9223372036854775807:=by
 unfold p8
 split
 ·exact ⟨by decide,by decide⟩
 split
 ·exact ⟨by decide,by decide⟩
 split
 ·show _≤a.tmod b∧a.tmod b≤_
  rcases Int.le_total 0 a with h | h
  ·have h1:=Int.tmod_nonneg b h
   have h2:a.tmod b≤a:=by
    have:=Int.emod_emod_of_dvd
    rw [Int.tmod_def]
    have h3:0≤b*a.tdiv b:=by
     rcases Int.le_total 0 b with hb | hb
     ·exact Int.mul_nonneg hb (Int.tdiv_nonneg h hb)
     ·have:a.tdiv b≤0:=Int.tdiv_nonpos_of_nonneg_of_nonpos h hb
      have:=Int.mul_nonneg_of_nonpos_of_nonpos hb this
      exact this
    omega
   omega
  ·have h4:(-a).tmod b = - a.tmod b:=Int.neg_tmod ..
   have h1:=Int.tmod_nonneg (a := -a) b (by omega)
   have h2:(-a).tmod b ≤ -a:=by
    rw [Int.tmod_def]
    have h3:0≤b*(-a).tdiv b:=by
     rcases Int.le_total 0 b with hb | hb
     ·exact Int.mul_nonneg hb (Int.tdiv_nonneg (by omega) hb)
     ·have:(-a).tdiv b≤0:=Int.tdiv_nonpos_of_nonneg_of_nonpos (by omega) hb
      exact Int.mul_nonneg_of_nonpos_of_nonpos hb this
    omega
   omega
 split
 ·exact jk _
 ·exact jk _
theorem RF {k a b:Int} (ha : -9223372036854775808≤a∧a≤9223372036854775807) : -9223372036854775808≤(kD k a b).1∧(kD k a b).1≤9223372036854775807:=by
 rcases numF_cases k a b with ⟨_,h⟩ | ⟨_,h⟩ | ⟨_,h⟩ | ⟨_,h⟩ | ⟨_,h⟩ | ⟨_,h⟩ | ⟨_,_,_,_,_,_,⟨_,h⟩ | ⟨_,_,_,h⟩ | ⟨_,_,_,h⟩⟩
 ·rw [h];exact jk (a*b)
 ·rw [h];exact KE ha
 ·rw [h];exact KE ha
 ·rw [h];exact wl .and a b
 ·rw [h];exact wl .xor a b
 ·rw [h];exact wl .or a b
 ·rw [h];exact ⟨by decide,by decide⟩
 ·rw [h];exact jk (a*2 ^ b.toNat)
 ·rw [h];exact jk (IntKind.u64.wrap a / 2 ^ b.toNat)
theorem HY {k:Int} {a b:Val} (ha:GoodV a) (hb:GoodV b):GoodV (e9 k a b).1:=by
 unfold e9
 split
 ·exact Gg hb
 split
 ·split
  ·exact wn (wl .xor (-1) b.add)
  ·exact goodZero
 split
 ·exact Gf ha hb
 split
 ·exact Gf ha (Gg hb)
 split
 ·exact wn (RF ⟨ha.lo,ha.hi⟩)
 ·exact goodZero
theorem AS {vs:List Val} (h:∀ v∈vs,GoodV v) (i:Nat):GoodV (vs.getD i fy):=by
 rw [List.getD_eq_getElem?_getD]
 cases hv:vs[i]? with
 | none=>exact goodZero
 | some v=>exact h v (List.mem_of_getElem? hv)
theorem goodEval:∀ (ts:List Term) (vs:List Val),(∀ v∈vs,GoodV v)→(∀ t∈ts,ky t=true)→(∀ t∈ts,-9223372036854775808≤t.n∧t.n≤9223372036854775807)→GoodV (kg vs ts).1
 | [],vs,hv,_,_=>AS hv 0
 | t::r,vs,hv,ht,hn=>by
  have htb:=ht t (by simp)
  have htn:=hn t (by simp)
  rw [kg]
  split
  ·rename_i h0
   refine goodEval r _ (fun v hvm=>?_) (fun x hx=>ht x (by simp [hx])) (fun x hx=>hn x (by simp [hx]))
   rcases List.mem_append.1 hvm with h | h
   ·exact hv v h
   ·simp only [List.mem_singleton] at h
    subst h
    unfold ky at htb
    split at htb
    ·have e:t.sym=emp:=of_decide_eq_true htb
     rw [e];exact wn htn
    split at htb
    ·simp only [Bool.and_eq_true] at htb
     exact ⟨.inr htb.2,.inl rfl,fun e=>e,htn.1,htn.2⟩
    ·simp only [Bool.and_eq_true,decide_eq_true_eq] at htb
     have:=htb.1.1
     omega
  ·dsimp only
   split
   ·refine goodEval r _ (fun v hvm=>?_) (fun x hx=>ht x (by simp [hx])) (fun x hx=>hn x (by simp [hx]))
    rcases List.mem_append.1 hvm with h | h
    ·exact hv v (List.mem_of_mem_take h)
    ·simp only [List.mem_singleton] at h
     subst h
     exact HY (AS hv _) (AS hv _)
   ·exact goodZero
theorem goodSize {v:Val} (h:GoodV v):v.plus.size≤512∧v.minus.size≤512:=by
 have key:∀ s:ByteArray,s=emp∨ik s=true→s.size≤512:=by
  rintro s (rfl | h)
  ·decide
  ·exact symB_size h
 exact ⟨key _ h.p,key _ h.m⟩
theorem termB_size {t:Term} (h:ky t=true):t.sym.size≤512:=by
 have e0:emp.size=0:=rfl
 unfold ky at h
 split at h
 ·have e:t.sym=emp:=of_decide_eq_true h
  rw [e,e0];decide
 split at h
 ·simp only [Bool.and_eq_true] at h
  exact symB_size h.2
 ·simp only [Bool.and_eq_true,decide_eq_true_eq] at h
  rw [h.2,e0];decide
def Rgs (ts:List Term):Prop:=∀ t∈ts,-9223372036854775808≤t.n∧t.n≤9223372036854775807
def qR (F:PS→PR):Prop:=∀ s s',Rgs s.ts→F s=.ok s'→Rgs s'.ts
theorem Bz : -9223372036854775808≤(0:Int)∧(0:Int)≤9223372036854775807:=by decide
theorem re {t:Term} {s s':PS} (ht : -9223372036854775808≤t.n∧t.n≤9223372036854775807) (hs:Rgs s.ts) (h:kE t s=.ok s'):Rgs s'.ts:=by
 obtain ⟨rfl,-⟩:=rg h
 intro x hx
 rcases List.mem_append.1 hx with hx | hx
 ·exact hs x hx
 ·simp only [List.mem_singleton] at hx
  subst hx
  exact ht
theorem tL {read:PS→PR} (hr:qR read):qR (eZ read):=by
 intro s s' hs e
 unfold eZ at e
 split at e
 ·cases e
 ·split at e
  ·rename_i q hq
   injection e with e
   subst e
   exact hr ⟨s.at_+1,s.op+1,s.ts⟩ q hs hq
  ·cases e
theorem tT {l:List Tok} {read:PS→PR} {kinds:List Int} (hr:qR read):∀ (m:Nat) (s s':PS),Rgs s.ts→gw l read kinds m s=.ok s'→Rgs s'.ts
 | 0,s,s',hs,e=>by injection e with e;subst e;exact hs
 | m+1,s,s',hs,e=>by
  rw [gw] at e
  split at e
  ·injection e with e;subst e;exact hs
  ·split at e
   ·cases e
   ·rename_i q hq
    have h1:=hr ⟨s.at_+1,s.op,s.ts⟩ q hs hq
    split at e
    ·cases e
    ·rename_i q2 hq2
     exact tT hr m q2 s' (re Bz h1 hq2) e
theorem fQ {l:List Tok} {read:PS→PR} {kinds:List Int} (hr:qR read):qR (fB l read kinds):=by
 intro s s' hs e
 unfold fB at e
 split at e
 ·cases e
 ·rename_i q hq
  exact tT hr _ q s' (hr s q hs hq) e
theorem rJ {l:List Tok}:∀ N:Nat,qR (cv l N)
 | 0=>fun s s' _ e=>by cases e
 | N+1=>by
  have ih:=rJ (l:=l) N
  intro s s' hs e
  rw [cv] at e
  split at e
  ·cases e
  ·rename_i t ht
   split at e
   ·exact re (s:={ s with at_:=s.at_+1 }) (jk t.n) hs e
   split at e
   ·exact re (s:={ s with at_:=s.at_+1 }) Bz hs e
   split at e
   ·split at e
    ·cases e
    ·rename_i q hq
     have h1:=tL (fQ (fQ (fQ (fQ (fQ (fQ ih)))))) s q hs hq
     split at e
     ·injection e with e;subst e;exact h1
     ·cases e
   split at e
   ·split at e
    ·cases e
    ·rename_i q hq
     exact re Bz (tL ih s q hs hq) e
   ·cases e
theorem parseF_keep {l:List Tok} {s:PS} (h:parseF l=.ok s):Rgs s.ts :=
 fQ (fQ (fQ (fQ (fQ (fQ (rJ l.length)))))) ⟨0,0,[]⟩ s (fun t ht=>by simp at ht) h
end Go.Proofs.YtnhbidpdadkcjaaGreatDoor.Ex
namespace Go.Proofs.YtnhbidpdadkcjaaGreatDoor.Ex
open Go.RowKit
def nxt (l:List Tok) (p:Nat):ByteArray:=match l[p]? with
 | some t=>if t.kind=4 then t.text else emp
 | none=>emp
theorem S3 (l:List Tok) (s:PS):nextF l s=nxt l s.at_:=rfl
def Reads (read:PS→PR) (p q:Nat) (d:Int) (new:List Term):Prop :=
 ∀ (op:Int) (T:List Term),0≤op→op+d≤64→T.length+new.length≤256→read ⟨p,op,T⟩=.ok ⟨q,op,T++new⟩
theorem Reads.mono {read:PS→PR} {p q:Nat} {d d':Int} {new:List Term} (h:Reads read p q d new) (hd:d≤d'):Reads read p q d' new:=fun op T h0 h1 h2=>h op T h0 (by omega) h2
section
variable {l:List Tok} {N p q:Nat} {t:Tok}
end
inductive Chn (l:List Tok) (read:PS→PR) (kinds:List Int):Nat→Nat→Int→List Term→Prop
 | nil {q:Nat} (h:di (nxt l q) kinds 0=0):Chn l read kinds q q 0 []
 | cons {q r z:Nat} {k d d':Int} {b c:List Term} (hk:di (nxt l q) kinds 0=k) (h0:k≠0) (hr:Reads read (q+1) r d b) (hq:q+1≤r) (hc:Chn l read kinds r z d' c) (hd:0≤d) (hd':0≤d'):Chn l read kinds q z (max d d') (b++⟨k,0,emp⟩::c)
end Go.Proofs.YtnhbidpdadkcjaaGreatDoor.Ex
