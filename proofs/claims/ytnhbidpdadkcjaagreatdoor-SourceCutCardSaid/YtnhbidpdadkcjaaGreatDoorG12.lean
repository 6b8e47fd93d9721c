import Derived.Test.YtnhbidpdadkcjaaGreatDoorG10
import Derived.WalkSpells
import Derived.WalkLawsBesides
import Derived.OpenShut
open Go.RowKit
set_option linter.unusedVariables false
set_option linter.unusedSimpArgs false
set_option maxRecDepth 100000
set_option maxHeartbeats 8000000
open List (length_append length_cons length_nil)
open Nat (zero_le)
open Bool (and_eq_true)
namespace Go.Proofs.YtnhbidpdadkcjaaGreatDoor
open Tryz
structure OpV where
 kind:Int
 r:gO
 m:gO
 md:Int
 amt:Int
 n:Int
 add:Int
 plus:ByteArray
 minus:ByteArray
 lo:Bool
 mode:Int
deriving instance DecidableEq for OpV
def r0:gO:=⟨0,false,false⟩
def op0 (kind:Int):OpV:=⟨kind,r0,r0,0,0,0,0,emp,emp,false,0⟩
structure Tok where
 kind:Int
 text:ByteArray
 n:Int
 pos:Int
theorem kP (n:Int)(w:World) :
  Calls prog 116 #[.int .u8 n] w fun e w'=>e=.returned (.bool (ce n))∧w=w':=by
 go_enter func116,ntmps116;go_wp2
 all_goals (go_ret;refine⟨eJ ?_,rfl⟩;rw[Bool.eq_iff_iff];simp[ce];try omega)
theorem sw (n:Int)(w:World) :
  Calls prog 165 #[.int .u8 n] w fun e w'=>e=.returned (.bool (dM n))∧w=w':=by
 go_enter func165,ntmps165;go_wp2
 all_goals (go_ret;refine⟨eJ ?_,rfl⟩;rw[Bool.eq_iff_iff];simp[dM];try omega)
theorem yJ (n:Int)(w:World) :
  Calls prog 118 #[.int .u8 n] w fun e w'=>e=.returned (.bool (aM n))∧w=w':=by
 by_cases h:ce n=true
 ·go_enter func118,ntmps118
  go_wp2_with (first | (go_at_call 116;refine(kP _ _).mono ?_;rintro e w' ⟨rfl,rfl⟩) | (go_at_call 165;refine(sw _ _).mono ?_;rintro e w' ⟨rfl,rfl⟩))
  go_ret;exact⟨eJ (by simp[aM,h]),rfl⟩
 ·have h':ce n=false:=by simpa using h
  go_enter func118,ntmps118
  go_wp2_with (first | (go_at_call 116;refine(kP _ _).mono ?_;rintro e w' ⟨rfl,rfl⟩) | (go_at_call 165;refine(sw _ _).mono ?_;rintro e w' ⟨rfl,rfl⟩))
  go_ret;exact⟨eJ (by simp[aM,h']),rfl⟩
theorem FO (F:Nat)(g:Int→Bool)(hE:∀args w,(callFunc F args).run prog w=.ok (.enter F args) w)(hF:∀(n:Int) (w:World),Calls prog F #[.int .u8 n] w fun e w'=>e=.returned (.bool (g n))∧w=w')(s:ByteArray)(w:World)(hs:s.size≤maxLen) :
  Calls prog 117 #[.string s,.func (.func F) #[] #[]] w fun e w'=>e=.returned (.int .i64 (qE g s.data.toList))∧w=w':=by
 have HF:=Lib.hid hF;clear hF;unfold maxLen at hs;go_enter func117,ntmps117
 go_wp2_with fail
 go_loop [5] (fun n=>∃k:Nat,k≤s.size∧n=.int .i64 k∧Hid (qE g (s.data.toList.drop k)+k=qE g s.data.toList)) (fun n=>s.size-(intOf n).toNat)
 case atStart=>exact⟨0,zero_le _,rfl,show _=_ by simp⟩
 case round =>
  obtain⟨k,hk,rfl,hr⟩:=hrel;by_cases hlt:k<s.size
  ·have st:=Lib.hid (IF g s k hlt);by_cases hg:g (s[k].toNat:Int)=true
   ·go_wp2_with fail
    refine(HF.out _ _).mono ?_;rintro e w' ⟨rfl,rfl⟩
    go_wp2_with fail
    go_round
    case rel=>exact⟨k+1,by omega,by go_num,show _=_ by rw[←hr.out,st.out,if_pos hg];omega⟩
    case measure=>simp[intOf];omega
   ·have hg':g (s[k].toNat:Int)=false:=by simpa using hg
    go_wp2_with fail
    refine(HF.out _ _).mono ?_;rintro e w' ⟨rfl,rfl⟩
    go_wp2_with fail
    go_ret;exact⟨nF (by have h1:=hr.out;rw[st.out,if_neg (by simp[hg'])]at h1;omega),rfl⟩
  ·have h0:=Lib.hid (LU g s k (by omega))
   go_wp2_with fail
   go_ret;exact⟨nF (by have h1:=hr.out;rw[h0.out]at h1;omega),rfl⟩
theorem tH (args:Array Value)(w:World):(callFunc 118 args).run prog w=.ok (.enter 118 args) w:=by go_simp
theorem tf (s:ByteArray)(w:World)(hs:s.size≤maxLen) :
  Calls prog 117 #[.string s,.func (.func 118) #[] #[]] w fun e w'=>e=.returned (.int .i64 (qE aM s.data.toList))∧w=w' :=
 FO _ _ tH yJ s w hs
theorem vY (s:ByteArray)(w:World)(hs:s.size≤maxLen) :
  Calls prog 54 #[.string s] w fun e w'=>e=.returned (.bool (tR s))∧w=w':=by
 by_cases h0:s.size=0
 ·have h1:s.toList=[]:=E3 h0;have h2:s.toList.isEmpty=true:=by rw[h1];rfl
  go_enter func54,ntmps54
  go_wp2_with fail
  go_ret;exact⟨eJ (sJ h0),rfl⟩
 ·have h1:0<s.size:=by omega
  have h2:s.toList.isEmpty=false:=Aa h0;have h3:¬s.toList=[]:=wY h0;by_cases hl:ce (s[0].toNat:Int)=true
  ·go_enter func54,ntmps54
   go_wp2_with (first | (go_at_call 116;refine(kP _ _).mono ?_;rintro e w' ⟨rfl,rfl⟩) | (go_at_call 117;refine(tf _ _ hs).mono ?_;rintro e w' ⟨rfl,rfl⟩))
   go_ret;exact⟨eJ (by rw[np h1,hl,Bool.true_and,Bool.eq_iff_iff,beq_iff_eq,beq_iff_eq];omega),rfl⟩
  ·have hl':ce (s[0].toNat:Int)=false:=by simpa using hl
   go_enter func54,ntmps54
   go_wp2_with (first | (go_at_call 116;refine(kP _ _).mono ?_;rintro e w' ⟨rfl,rfl⟩) | (go_at_call 117;refine(tf _ _ hs).mono ?_;rintro e w' ⟨rfl,rfl⟩))
   go_ret;exact⟨eJ (by rw[np h1,hl'];simp),rfl⟩
theorem aG (s:ByteArray)(w:World)(hs:s.size≤maxLen) :
  Calls prog 122 #[.string s] w fun e w'=>e=.returned (.bool (cJ s))∧w=w':=by
 by_cases h:s.size≤512
 ·have h':(s.size:Int)≤512:=by omega
  go_enter func122,ntmps122
  go_wp2_with (first | (go_at_call 54;refine(vY _ _ hs).mono ?_;rintro e w' ⟨rfl,rfl⟩))
  go_ret;exact⟨eJ (by simp[cJ,h]),rfl⟩
 ·have h':(512:Int)<s.size:=by omega
  go_enter func122,ntmps122
  go_wp2_with (first | (go_at_call 54;refine(vY _ _ hs).mono ?_;rintro e w' ⟨rfl,rfl⟩))
  go_ret;exact⟨eJ (by simp[cJ,h]),rfl⟩
namespace Ex
def _root_.Go.Proofs.YtnhbidpdadkcjaaGreatDoor.Val.cells (x:Val):List Value:=[.int .i64 x.add,.string x.plus,.string x.minus]
def dk (k:Int)(a b:Val):Val×Int :=
 if k=3 then(Hy b,0)
 else if k=4 then(if cu b.plus b.minus=true then(⟨bits .xor .i64 (-1) b.add,emp,emp⟩,0) else(dC,91))
 else if k=8 then qT a b
 else if k=9 then qT a (Hy b)
 else if cu a.plus a.minus=true∧cu b.plus b.minus=true then(⟨(i8 k a.add b.add).1,emp,emp⟩,(i8 k a.add b.add).2) else(dC,91)
theorem Dc (a:Val){b:Val}(h:cu b.plus b.minus=true):dk 4 a b=(⟨bits .xor .i64 (-1) b.add,⟨#[]⟩,⟨#[]⟩⟩,0):=by simp[dk,h,emp]
theorem uM (a:Val){b:Val}(h:cu b.plus b.minus=false):dk 4 a b=(⟨0,⟨#[]⟩,⟨#[]⟩⟩,91):=by simp[dk,h,dC,emp]
theorem Db (a b:Val):dk 8 a b=qT a b:=by simp[dk]
theorem De (a b:Val):dk 9 a b=qT a ⟨wrap64 (-b.add),b.minus,b.plus⟩:=by simp[dk,Hy]
theorem Dd {k:Int}{a b:Val}(k3:(k==3)=false)(k4:(k==4)=false)(k8:(k==8)=false)(k9:(k==9)=false)(ha:cu a.plus a.minus=true)(hb:cu b.plus b.minus=true) :
  dk k a b=(⟨(i8 k a.add b.add).1,⟨#[]⟩,⟨#[]⟩⟩,(i8 k a.add b.add).2):=by
 simp only[beq_eq_false_iff_ne,ne_eq]at k3 k4 k8 k9;simp[dk,k3,k4,k8,k9,ha,hb,emp]
theorem oc {k:Int}{a b:Val}(k3:(k==3)=false)(k4:(k==4)=false)(k8:(k==8)=false)(k9:(k==9)=false)(h:cu a.plus a.minus=false∨cu b.plus b.minus=false) :
  dk k a b=(⟨0,⟨#[]⟩,⟨#[]⟩⟩,91):=by
 simp only[beq_eq_false_iff_ne,ne_eq]at k3 k4 k8 k9;rcases h with h | h<;>simp[dk,k3,k4,k8,k9,h,dC,emp]
def _root_.Go.Proofs.YtnhbidpdadkcjaaGreatDoor.Val.le (x:Val)(k:Nat):Prop:=x.plus.size≤k∧x.minus.size≤k
theorem xI {x:Val}{k:Nat}(h:x.le k):(bj x).le k:=ov rfl h.1 h.2
theorem Fh {a b:Val}{k:Nat}(ha:a.le k)(hb:b.le k):(qT a b).1.le k:=by
 obtain⟨a1,a2⟩:=xI ha;obtain⟨b1,b2⟩:=xI hb;obtain⟨m1,m2⟩:=nl (show dB (bj a).plus (bj b).minus=((dB (bj a).plus (bj b).minus).1,(dB (bj a).plus (bj b).minus).2) from rfl) a1 b2;obtain⟨m3,m4⟩:=nl (show dB (bj a).minus (bj b).plus=((dB (bj a).minus (bj b).plus).1,(dB (bj a).minus (bj b).plus).2) from rfl) a2 b1;unfold qT;dsimp only;split
 ·exact⟨by simp[dC,emp,ByteArray.size],by simp[dC,emp,ByteArray.size]⟩
 ·rename_i h;have e0:emp.size=0:=rfl;constructor
  ·show(_++_:ByteArray).size≤k;rw[ByteArray.size_append];by_cases h1:(dB (bj a).plus (bj b).minus).fst=emp
   ·rw[h1,e0];omega
   ·have h2:(dB (bj a).minus (bj b).plus).snd=emp:=Decidable.byContradiction fun h2=>h (.inl ⟨h1,h2⟩);rw[h2,e0];omega
  ·show(_++_:ByteArray).size≤k;rw[ByteArray.size_append];by_cases h1:(dB (bj a).minus (bj b).plus).fst=emp
   ·rw[h1,e0];omega
   ·have h2:(dB (bj a).plus (bj b).minus).snd=emp:=Decidable.byContradiction fun h2=>h (.inr ⟨h1,h2⟩);rw[h2,e0];omega
theorem DR (n:Int)(k:Nat):Val.le ⟨n,emp,emp⟩ k:=⟨zero_le _,zero_le _⟩
theorem Gh (m:Int){a b:Val}{k:Nat}(ha:a.le k)(hb:b.le k):(dk m a b).1.le k:=by
 have hn:(Hy b).le k:=⟨hb.2,hb.1⟩;unfold dk;split
 ·exact hn
 split
 ·split<;>exact DR _ _
 split
 ·exact Fh ha hb
 split
 ·exact Fh ha hn
 split<;>exact DR _ _
def iF (vs:List Val):List Term→Val×Int
 |[]=>(vs.getD 0 dC,0)
 |t::r =>
  if aX t.kind=0 then iF (vs++[⟨t.n,t.sym,emp⟩]) r
  else
   let y:=dk t.kind (vs.getD (vs.length-2) dC) (vs.getD (vs.length-1) dC)
   if y.2=0 then iF (vs.take (vs.length-(aX t.kind).toNat)++[y.1]) r else(dC,y.2)
def evalAll (l:List Term):Val×Int:=if fJ l=0 then iF [] l else(dC,fJ l)
theorem DF {vs:List Val}{t:Term}{r:List Term}(h:aX t.kind=0):iF vs (t::r)=iF (vs++[⟨t.n,t.sym,emp⟩]) r:=by rw[iF,if_pos h]
theorem J9 {vs:List Val}{t:Term}{r:List Term}(h:¬aX t.kind=0){v:Val}(e:dk t.kind (vs.getD (vs.length-2) dC) (vs.getD (vs.length-1) dC)=(v,0)) :
  iF vs (t::r)=iF (vs.take (vs.length-(aX t.kind).toNat)++[v]) r:=by
 rw[iF,if_neg h];dsimp only;rw[e,if_pos rfl]
theorem GN {vs:List Val}{t:Term}{r:List Term}(h:¬aX t.kind=0){v:Val}{x:Int}(hx:¬x=0)(e:dk t.kind (vs.getD (vs.length-2) dC) (vs.getD (vs.length-1) dC)=(v,x)) :
  iF vs (t::r)=(dC,x):=by
 rw[iF,if_neg h];dsimp only;rw[e,if_neg hx]
theorem DK {h:Int}{t:Term}{r:List Term}(e:cW h (t::r)=0):i7 t=true∧aX t.kind≤h∧cW (h+(1-aX t.kind)) r=0:=by
 rw[cW]at e;split at e
 ·cases e
 ·rename_i hn;refine⟨?_,?_,e⟩
  ·cases ht:i7 t with
   |true=>rfl
   |false=>exact(hn (.inl ht)).elim
  ·exact Int.not_lt.1 fun hlt=>hn (.inr hlt)
theorem GW {h:Int}(e:cW h []=0):h=1:=by
 rw[cW]at e;split at e
 ·assumption
 ·cases e
theorem AA {ts:List Term}(h:fJ ts=0):cW 0 ts=0:=by
 unfold fJ at h;split at h
 ·split at h
  ·cases h
  ·exact h
 ·exact h
theorem y8 {k:Int}(h:aX k=1)(a a' b:Val):dk k a b=dk k a' b:=by
 have:k=3∨k=4:=by
  unfold aX at h;split at h
  ·assumption
  ·split at h<;>omega
 rcases this with rfl | rfl<;>simp[dk]
end Ex
namespace Ex
def uk:Nat→Nat→List UInt8
 |0,_=>[]
 |f+1,n=>if n<10 then[UInt8.ofNat (48+n)] else uk f (n / 10)++[UInt8.ofNat (48+n % 10)]
def decS (n:Nat):ByteArray:=⟨(uk 20 n).toArray⟩
theorem AH:∀f n,(uk f n).length≤f
 |0,_=>Nat.le_refl _
 |f+1,n=>by
  rw[uk];split
  ·simp
  ·rw[length_append];have:=AH f (n / 10);simp;omega
theorem decS_size (n:Nat):(decS n).size≤20:=by
 show(uk 20 n).toArray.size≤20;rw[List.size_toArray];exact AH 20 n
theorem O1 {n:Int}(h:n<0)(hl : -9223372036854775808≤n):IntKind.u64.wrap (-IntKind.u64.wrap n)=(((-n).toNat:Nat):Int):=by
 rw[IntKind.wrap_u64,IntKind.wrap_u64];omega
theorem F0 {n:Int}(h:0≤n)(hl:n≤9223372036854775807):IntKind.u64.wrap n=((n.toNat:Nat):Int):=by
 rw[IntKind.wrap_u64];omega
def fV (n:Int):ByteArray:=if n<0 then⟨#[45]⟩++decS (-n).toNat else⟨#[43]⟩++decS n.toNat
theorem signS_size (n:Int):(fV n).size≤21:=by
 have h1:=decS_size (-n).toNat;have h2:=decS_size n.toNat;have e1:(⟨#[45]⟩:ByteArray).size=1:=rfl;have e2:(⟨#[43]⟩:ByteArray).size=1:=rfl;unfold fV;split<;>rw[ByteArray.size_append]<;>omega
theorem mO {s:ByteArray}(h:cJ s=true):s.size≤512:=by
 unfold cJ at h;simp at h;exact h.1
theorem J5 {m:ByteArray}(h:¬m=emp):¬emp=m:=fun e=>h e.symm
def printF (v:Val):ByteArray×Int :=
 if(v.plus≠emp∧cJ v.plus=false)∨(v.minus≠emp∧cJ v.minus=false) then(emp,90)
 else if v.plus=v.minus∧v.plus≠emp then(emp,90)
 else if v.plus=emp∧v.minus=emp then(if v.add<0 then(fV v.add,0) else(decS v.add.toNat,0))
 else
  let o:=if v.plus=emp then⟨#[48]⟩ else v.plus
  let o:=if v.minus=emp then o else o++(⟨#[45]⟩++v.minus)
  (if v.add=0 then o else o++fV v.add,0)
end Ex
namespace Ex
theorem NC {m q:Nat}(h:m<10 ^ (q+1)):m / 10<10 ^ q:=by
 rw[Nat.pow_succ]at h;omega
theorem NB {m q:Nat}(h:m<10 ^ (q+1))(h10:¬m<10):0<q:=by
 rcases Nat.eq_zero_or_pos q with rfl | h0
 ·simp at h;omega
 ·exact h0
end Ex
namespace Ex
def p9 (k:Int):ByteArray :=
 if k=3 then⟨#[45]⟩ else if k=4 then⟨#[126]⟩ else if k=5 then⟨#[42]⟩ else if k=6 then⟨#[47]⟩ else if k=7 then⟨#[37]⟩ else if k=8 then⟨#[43]⟩ else if k=9 then⟨#[45]⟩
 else if k=10 then⟨#[60,60]⟩ else if k=11 then⟨#[62,62]⟩ else if k=12 then⟨#[38]⟩ else if k=13 then⟨#[94]⟩ else⟨#[124]⟩
structure Pc where
 s:ByteArray
 d:Int
def par (l m r:ByteArray):ByteArray:=((⟨#[40]⟩++l++m)++r)++⟨#[41]⟩
def Te (num:Int→ByteArray)(t:Term):Pc:=⟨if t.kind=1 then num t.n else t.sym,0⟩
def unF (k:Int)(x:Pc):Pc:=⟨(⟨#[40]⟩++p9 k)++x.s++⟨#[41]⟩,x.d+1⟩
def biF (k:Int)(x y:Pc):Pc:=⟨((⟨#[40]⟩++x.s)++p9 k)++y.s++⟨#[41]⟩,max x.d y.d+1⟩
def MG:Pc:=⟨emp,0⟩
def TS (num:Int→ByteArray)(st:List Pc)(t:Term):List Pc :=
 if aX t.kind=0 then st++[Te num t]
 else if aX t.kind=1 then st.take (st.length-1)++[unF t.kind (st.getD (st.length-1) MG)]
 else st.take (st.length-2)++[biF t.kind (st.getD (st.length-2) MG) (st.getD (st.length-1) MG)]
def da (num:Int→ByteArray)(st:List Pc):List Term→List Pc
 |[]=>st
 |t::r=>da num (TS num st t) r
def room (st:List Pc):Nat:=(st.map fun x=>x.s.size).sum
structure Fine (k:Nat)(st:List Pc):Prop where
 len:st.length≤k
 room:room st≤1000*k
 dep:∀x∈st,0≤x.d∧x.d≤k
end Ex
namespace Ex
structure PS where
 at_:Nat
 op:Int
 ts:List Term
abbrev PR:=Except Int PS
def jb (t:Term)(s:PS):PR:=if 256<s.ts.length+1 then .error 93 else .ok { s with ts:=s.ts++[t] }
def aL (l:List Tok)(s:PS):ByteArray :=
 match l[s.at_]? with
 |some t=>if t.kind=4 then t.text else emp
 |none=>emp
def dg (read:PS→PR)(s:PS):PR :=
 if 64<s.op+1 then .error 93 else
 match read ⟨s.at_+1,s.op+1,s.ts⟩ with
 |.ok s'=>.ok { s' with op:=s'.op-1 }
 |.error e=>.error e
def bS (s:ByteArray):List Int→Int→Int
 |[],f=>f
 |k::r,f=>bS s r (if s≠emp∧s=p9 k then k else f)
def gk (l:List Tok)(read:PS→PR)(kinds:List Int):Nat→PS→PR
 |0,s=>.ok s
 |m+1,s =>
  if bS (aL l s) kinds 0=0 then .ok s else
  match read ⟨s.at_+1,s.op,s.ts⟩ with
  |.error e=>.error e
  |.ok s'=>match jb ⟨bS (aL l s) kinds 0,0,emp⟩ s' with
   |.error e=>.error e
   |.ok s''=>gk l read kinds m s''
def dY (l:List Tok)(read:PS→PR)(kinds:List Int)(s:PS):PR :=
 match read s with
 |.error e=>.error e
 |.ok s'=>gk l read kinds l.length s'
def kn (l:List Tok)(read:PS→PR):PS→PR :=
 dY l (dY l (dY l (dY l (dY l (dY l read [5,6,7]) [8,9]) [10,11]) [12]) [13]) [14]
def br (l:List Tok):Nat→PS→PR
 |0,_=>.error 90
 |N+1,s=>match l[s.at_]? with
  |none=>.error 90
  |some t =>
   if t.kind=2 then jb ⟨1,wrap64 t.n,emp⟩ { s with at_:=s.at_+1 }
   else if t.kind=1 then jb ⟨2,0,t.text⟩ { s with at_:=s.at_+1 }
   else if t.kind=4∧t.text=⟨#[40]⟩ then
    match dg (kn l (br l N)) s with
    |.error e=>.error e
    |.ok s'=>if aL l s'=⟨#[41]⟩ then .ok { s' with at_:=s'.at_+1 } else .error 90
   else if t.kind=4∧(t.text=⟨#[45]⟩∨t.text=⟨#[126]⟩) then
    match dg (br l N) s with
    |.error e=>.error e
    |.ok s'=>jb ⟨if t.text=⟨#[126]⟩ then 4 else 3,0,emp⟩ s'
   else .error 90
structure POk (l:List Tok)(N:Nat)(s:PS):Prop where
 le:s.at_≤l.length
 rem:l.length≤s.at_+N
 op0:0≤s.op
 op1:s.op≤64
 ts:s.ts.length≤256
def Af (l:List Tok)(N:Nat)(F:PS→PR):Prop :=
 ∀s s',POk l N s→F s=.ok s'→s.at_<s'.at_∧s'.at_≤l.length∧s'.op=s.op∧s'.ts.length≤256
theorem pJ {t:Term}{s s':PS}(h:jb t s=.ok s'):s'={ s with ts:=s.ts++[t] }∧s.ts.length+1≤256:=by
 unfold jb at h;split at h
 ·cases h
 ·injection h with h;exact⟨h.symm,by omega⟩
theorem rK {l:List Tok}{s:PS}(h:aL l s≠emp):s.at_<l.length:=by
 unfold aL at h;split at h
 ·rename_i t ht;exact(List.getElem?_eq_some_iff.1 ht).1
 ·exact absurd rfl h
theorem vy:∀(kinds:List Int) (f:Int),bS emp kinds f=f
 |[],f=>rfl
 |k::r,f=>by rw[bS,if_neg (by simp),vy r f]
theorem sB {l:List Tok}{s:PS}{kinds:List Int}(h:¬bS (aL l s) kinds 0=0):aL l s≠emp:=by
 intro e;rw[e,vy]at h;exact h rfl
theorem POk.mono {l:List Tok}{N N':Nat}{s:PS}(h:POk l N s)(hN:N≤N'):POk l N' s:=⟨h.le,by have:=h.rem;omega,h.op0,h.op1,h.ts⟩
theorem iR {l:List Tok}{N:Nat}{read:PS→PR}(h:Af l N read){s s':PS}(hs:POk l (N+1) s)(hlt:s.at_<l.length)(e:dg read s=.ok s'):s.at_+1<s'.at_∧s'.at_≤l.length∧s'.op=s.op∧s'.ts.length≤256:=by
 unfold dg at e;split at e
 ·cases e
 ·split at e
  ·rename_i hop q hq;injection e with e;subst e;have:=h ⟨s.at_+1,s.op+1,s.ts⟩ _ ⟨by show s.at_+1≤_;omega,by have:=hs.rem;show _≤s.at_+1+N;omega,by have:=hs.op0;show 0≤s.op+1;omega,by show s.op+1≤64;omega,hs.ts⟩ hq;simp only at this ⊢;exact⟨this.1,this.2.1,by omega,this.2.2.2⟩
  ·cases e
theorem rU {l:List Tok}{N:Nat}{read:PS→PR}{kinds:List Int}(h:Af l N read):∀(m:Nat) {s s':PS},POk l (N+1) s→gk l read kinds m s=.ok s'→s.at_≤s'.at_∧s'.at_≤l.length∧s'.op=s.op∧s'.ts.length≤256
 |0,s,s',hs,e=>by
  injection e with e;subst e;exact⟨Nat.le_refl _,hs.le,rfl,hs.ts⟩
 |m+1,s,s',hs,e=>by
  rw[gk]at e;split at e
  ·injection e with e;subst e;exact⟨Nat.le_refl _,hs.le,rfl,hs.ts⟩
  ·rename_i hf;have hlt:=rK (sB hf);split at e
   ·cases e
   ·rename_i q hq;have h1:=h ⟨s.at_+1,s.op,s.ts⟩ _ ⟨by show s.at_+1≤_;omega,by have:=hs.rem;show _≤s.at_+1+N;omega,hs.op0,hs.op1,hs.ts⟩ hq;simp only at h1;split at e
    ·cases e
    ·rename_i q' hq';obtain⟨rfl,h2⟩:=pJ hq';have:=rU h m (s:={ q with ts:=q.ts++[⟨bS (aL l s) kinds 0,0,emp⟩] }) ⟨h1.2.1,by have:=hs.rem;show _≤q.at_+(N+1);omega,by rw[show(PS.op _)=_ from h1.2.2.1];exact hs.op0,by rw[show(PS.op _)=_ from h1.2.2.1];exact hs.op1,by simp only[length_append,length_cons,length_nil];omega⟩ e;simp only at this;exact⟨by omega,this.2.1,by rw[this.2.2.1,h1.2.2.1],this.2.2.2⟩
theorem dQ {l:List Tok}{N:Nat}{read:PS→PR}{kinds:List Int}(h:Af l N read):Af l N (dY l read kinds):=by
 intro s s' hs e;unfold dY at e;split at e
 ·cases e
 ·rename_i q hq;have h1:=h _ _ hs hq;have:=rU h l.length ⟨h1.2.1,by have:=hs.rem;omega,by rw[h1.2.2.1];exact hs.op0,by rw[h1.2.2.1];exact hs.op1,h1.2.2.2⟩ e;exact⟨by omega,this.2.1,by rw[this.2.2.1,h1.2.2.1],this.2.2.2⟩
theorem rE {l:List Tok}{N:Nat}{read:PS→PR}(h:Af l N read):Af l N (kn l read) :=
 dQ (dQ (dQ (dQ (dQ (dQ h)))))
theorem gB {l:List Tok}:∀N:Nat,Af l N (br l N)
 |0,s,s',_,e=>by rw[br]at e;cases e
 |N+1,s,s',hs,e=>by
  rw[br]at e;split at e
  ·cases e
  ·rename_i t ht;have hlt:=(List.getElem?_eq_some_iff.1 ht).1;split at e
   ·obtain⟨rfl,h2⟩:=pJ e;exact⟨by simp only;omega,by simp only;omega,rfl,by simp only[length_append,length_cons,length_nil];omega⟩
   split at e
   ·obtain⟨rfl,h2⟩:=pJ e;exact⟨by simp only;omega,by simp only;omega,rfl,by simp only[length_append,length_cons,length_nil];omega⟩
   split at e
   ·split at e
    ·cases e
    ·rename_i q hq;have h1:=iR (rE (gB N)) hs hlt hq;split at e
     ·rename_i hn;injection e with e;subst e;have:=rK (show aL l q≠emp by rw[hn];intro h;cases h);exact⟨by simp only;omega,by simp only;omega,h1.2.2.1,h1.2.2.2⟩
     ·cases e
   split at e
   ·split at e
    ·cases e
    ·rename_i q hq;have h1:=iR (gB N) hs hlt hq;obtain⟨rfl,h2⟩:=pJ e;exact⟨by simp only;omega,h1.2.1,h1.2.2.1,by simp only[length_append,length_cons,length_nil];omega⟩
   ·cases e
def parseF (l:List Tok):PR:=kn l (br l l.length) ⟨0,0,[]⟩
end Ex
namespace Ex
def pR:Int→List Term→Option Int
 |h,[]=>some h
 |h,t::r=>if i7 t=false∨h<aX t.kind then none else pR (h+(1-aX t.kind)) r
theorem xZ:∀(ts:List Term) (h:Int) (t:Term),pR h (ts++[t])=(pR h ts).bind fun q=>if i7 t=false∨q<aX t.kind then none else some (q+(1-aX t.kind))
 |[],h,t=>by simp only[List.nil_append,pR,Option.bind_some]
 |x::r,h,t=>by
  simp only[List.cons_append,pR];split
  ·rfl
  ·exact xZ r _ t
theorem xY:∀(ts:List Term) (h:Int),pR h ts=some 1→cW h ts=0
 |[],h,e=>by
  injection e with e;rw[cW,if_pos e]
 |t::r,h,e=>by
  rw[pR]at e;split at e
  ·cases e
  ·rename_i hn;rw[cW,if_neg hn];exact xY r _ e
theorem vB:∀(ts:List Term) (h q:Int),pR h ts=some q→∀t∈ts,i7 t=true
 |[],h,q,_,t,ht=>by simp at ht
 |x::r,h,q,e,t,ht=>by
  rw[pR]at e;split at e
  ·cases e
  ·rename_i hn;rcases List.mem_cons.1 ht with rfl | ht
   ·cases hb:i7 t with
    |true=>rfl
    |false=>exact(hn (.inl hb)).elim
   ·exact vB r _ q e t ht
def Ag (F:PS→PR):Prop:=∀s h,0≤h→pR 0 s.ts=some h→match F s with
 |.ok s'=>pR 0 s'.ts=some (h+1)
 |.error e=>e≠0
theorem mH {t:Term}{s:PS}{h:Int}(hb:i7 t=true)(ht:aX t.kind≤h)(hs:pR 0 s.ts=some h):match jb t s with
  |.ok s'=>pR 0 s'.ts=some (h+(1-aX t.kind))
  |.error e=>e≠0:=by
 unfold jb;by_cases hl:256<s.ts.length+1
 ·rw[if_pos hl];show(93:Int)≠0;decide
 ·rw[if_neg hl];show pR 0 (s.ts++[t])=_;rw[xZ,hs,Option.bind_some,if_neg];rw[hb];rintro (h1 | h1)
  ·cases h1
  ·omega
theorem rN {read:PS→PR}(hr:Ag read):Ag (dg read):=by
 intro s h h0 hs;unfold dg;by_cases hl:64<s.op+1
 ·rw[if_pos hl];show(93:Int)≠0;decide
 ·rw[if_neg hl];have:=hr ⟨s.at_+1,s.op+1,s.ts⟩ h h0 hs;split at this
  ·rename_i e;first | (rw[e];exact this) | exact this
  ·rename_i e;first | (rw[e];exact this) | exact this
theorem foundF_mem {s:ByteArray}:∀{kinds:List Int} {f:Int},bS s kinds f=f∨bS s kinds f∈kinds
 |[],f=>.inl rfl
 |k::r,f=>by
  rw[bS];rcases foundF_mem (s:=s) (kinds:=r) (f:=if s≠emp∧s=p9 k then k else f) with h | h
  ·rw[h];split
   ·exact .inr (by simp)
   ·exact .inl rfl
  ·exact .inr (List.mem_cons_of_mem _ h)
theorem rW {l:List Tok}{read:PS→PR}{kinds:List Int}(hk:∀k∈kinds,5≤k∧k≤14)(hr:Ag read):∀(m:Nat) (s:PS) (h:Int),0≤h→pR 0 s.ts=some (h+1)→match gk l read kinds m s with
  |.ok s'=>pR 0 s'.ts=some (h+1)
  |.error e=>e≠0
 |0,s,h,_,hs=>hs
 |m+1,s,h,h0,hs=>by
  rw[gk];by_cases hf:bS (aL l s) kinds 0=0
  ·rw[if_pos hf];exact hs
  ·rw[if_neg hf];have hm:bS (aL l s) kinds 0∈kinds:=(foundF_mem.resolve_left hf);have hb:=hk _ hm;have h1:=hr ⟨s.at_+1,s.op,s.ts⟩ (h+1) (by omega) hs;split at h1
   case h_2=>rename_i e he;rw[he];exact h1
   rename_i q he;rw[he];have ht:aX (bS (aL l s) kinds 0)=2:=by unfold aX;rw[nG,if_pos hb]
   have h2:=mH (t:=⟨bS (aL l s) kinds 0,0,emp⟩) (s:=q) (h:=h+1+1) (by
    unfold i7;simp only;rw[nG,nG,ht];simp) (by show aX _≤_;rw[ht];omega) h1
   simp only at h2 ⊢;rw[ht]at h2;split at h2
   case h_2=>rename_i e he2;rw[he2];exact h2
   rename_i q2 he2;rw[he2];exact rW hk hr m q2 h h0 (by rw[h2];congr 1;omega)
theorem kD {l:List Tok}{read:PS→PR}{kinds:List Int}(hk:∀k∈kinds,5≤k∧k≤14)(hr:Ag read):Ag (dY l read kinds):=by
 intro s h h0 hs;unfold dY;have h1:=hr s h h0 hs;split at h1
 case h_2=>rename_i e he;rw[he];exact h1
 rename_i q he;rw[he];exact rW hk hr _ q h h0 h1
theorem rF {l:List Tok}{read:PS→PR}(hr:Ag read):Ag (kn l read) :=
 kD (by simp) (kD (by simp) (kD (by simp) (kD (by simp) (kD (by simp) (kD (by simp) hr)))))
def Named (l:List Tok):Prop:=∀t∈l,t.kind=1→cJ t.text=true
theorem p7 {l:List Tok}(hl:Named l):∀N:Nat,Ag (br l N)
 |0=>fun s h _ _=>by show(90:Int)≠0;decide
 |N+1=>by
  have ih:=p7 hl N;intro s h h0 hs;rw[br];cases ht:l[s.at_]? with
  |none=>show(90:Int)≠0;decide
  |some t =>
   simp only;by_cases c2:t.kind=2
   ·rw[if_pos c2];have:=mH (t:=⟨1,wrap64 t.n,emp⟩) (s:={ s with at_:=s.at_+1 }) (h:=h) (by simp[i7]) (by show aX 1≤h;exact h0) hs;rw[show aX 1=0 by decide]at this;exact this
   rw[if_neg c2];by_cases c1:t.kind=1
   ·rw[if_pos c1];have hn:=hl t (List.mem_of_getElem? ht) c1;have:=mH (t:=⟨2,0,t.text⟩) (s:={ s with at_:=s.at_+1 }) (h:=h) (by simp[i7,hn]) (by show aX 2≤h;exact h0) hs;rw[show aX 2=0 by decide]at this;exact this
   rw[if_neg c1];by_cases cp:t.kind=4∧t.text=⟨#[40]⟩
   ·rw[if_pos cp];have h1:=rN (rF (l:=l) ih) s h h0 hs;split at h1
    case h_2=>rename_i e he;rw[he];exact h1
    rename_i q he;rw[he];simp only;by_cases hc:aL l q=⟨#[41]⟩
    ·rw[if_pos hc];exact h1
    ·rw[if_neg hc];show(90:Int)≠0;decide
   rw[if_neg cp];by_cases cs:t.kind=4∧(t.text=⟨#[45]⟩∨t.text=⟨#[126]⟩)
   ·rw[if_pos cs];have h1:=rN ih s h h0 hs;split at h1
    case h_2=>rename_i e he;rw[he];exact h1
    rename_i q he;rw[he];simp only;by_cases hc:t.text=⟨#[126]⟩
    ·rw[if_pos hc];have:=mH (t:=⟨4,0,emp⟩) (s:=q) (h:=h+1) (by decide) (by show aX 4≤_;rw[show aX 4=1 by decide];omega) h1;rw[show aX 4=1 by decide,show h+1+(1-1)=h+1 by omega]at this;exact this
    ·rw[if_neg hc];have:=mH (t:=⟨3,0,emp⟩) (s:=q) (h:=h+1) (by decide) (by show aX 3≤_;rw[show aX 3=1 by decide];omega) h1;rw[show aX 3=1 by decide,show h+1+(1-1)=h+1 by omega]at this;exact this
   ·rw[if_neg cs];show(90:Int)≠0;decide
theorem parseF_nice {l:List Tok}(hl:Named l):match parseF l with
  |.ok s=>fJ s.ts=0∧(∀t∈s.ts,i7 t=true)∧1≤s.at_∧s.at_≤l.length∧s.ts.length≤256
  |.error e=>e≠0:=by
 have h1:=rF (l:=l) (p7 hl l.length) ⟨0,0,[]⟩ 0 (by decide) rfl;unfold parseF;split at h1
 ·rename_i s he;have hg:=rE (l:=l) (gB l.length) _ _ ⟨zero_le _,by simp,by decide,by decide,by simp⟩ he;refine⟨?_,vB _ _ _ h1,by have:=hg.1;simp only at this;omega,hg.2.1,hg.2.2.2⟩;unfold fJ;rw[if_neg (by have:=hg.2.2.2;omega)];exact xY _ _ h1
 ·exact h1
structure GoodV (v:Val):Prop where
 p:v.plus=emp∨cJ v.plus=true
 m:v.minus=emp∨cJ v.minus=true
 ne:v.plus=v.minus→v.plus=emp
 lo : -9223372036854775808≤v.add
 hi:v.add≤9223372036854775807
theorem gp (n:Int) : -9223372036854775808≤wrap64 n∧wrap64 n≤9223372036854775807:=by unfold wrap64;omega
theorem uy (op:BinOp)(a b:Int) : -9223372036854775808≤bits op .i64 a b∧bits op .i64 a b≤9223372036854775807:=by
 have:=bounds_i64 (wf_bits op .i64 a b);omega
theorem goodZero:GoodV dC:=⟨.inl rfl,.inl rfl,fun _=>rfl,by decide,by decide⟩
theorem uB {a:Int}(h : -9223372036854775808≤a∧a≤9223372036854775807):GoodV ⟨a,emp,emp⟩:=⟨.inl rfl,.inl rfl,fun _=>rfl,h.1,h.2⟩
theorem Mc:cJ emp=false:=by decide
theorem Fx {v:Val}(h:GoodV v):GoodV (Hy v):=⟨h.m,h.p,fun e=>by
 have e':v.minus=v.plus:=e;have:=h.ne e'.symm;show v.minus=emp;rw[e'];exact this,(gp _).1,(gp _).2⟩
theorem xW {v:Val}(h:GoodV v):GoodV (bj v)∧(bj v).plus=v.plus∧(bj v).minus=v.minus:=by
 unfold bj;by_cases e:v.plus=v.minus
 ·rw[if_pos e];have h1:=h.ne e;exact⟨⟨.inl rfl,.inl rfl,fun _=>rfl,h.lo,h.hi⟩,h1.symm,by rw[←e,h1]⟩
 ·rw[if_neg e];exact⟨h,rfl,rfl⟩
theorem gP (a:ByteArray):a++emp=a:=by
 refine ByteArray.ext ?_;rw[ByteArray.data_append];simp[emp]
theorem jk (a:ByteArray):emp++a=a:=by
 refine ByteArray.ext ?_;rw[ByteArray.data_append];simp[emp]
theorem Fv {a b:Val}(ha:GoodV a)(hb:GoodV b):GoodV (qT a b).1:=by
 obtain⟨ga,pa,ma⟩:=xW ha;obtain⟨gb,pb,mb⟩:=xW hb;unfold qT;simp only[pa,ma,pb,mb];split
 ·exact goodZero
 ·rename_i hn
  have hx:(dB a.plus b.minus).1=emp∨(dB a.minus b.plus).2=emp:=by
   rcases Classical.em ((dB a.plus b.minus).1=emp) with h | h
   ·exact .inl h
   ·rcases Classical.em ((dB a.minus b.plus).2=emp) with h2 | h2
    ·exact .inr h2
    ·exact(hn (.inl ⟨h,h2⟩)).elim
  have hy:(dB a.minus b.plus).1=emp∨(dB a.plus b.minus).2=emp:=by
   rcases Classical.em ((dB a.minus b.plus).1=emp) with h | h
   ·exact .inl h
   ·rcases Classical.em ((dB a.plus b.minus).2=emp) with h2 | h2
    ·exact .inr h2
    ·exact(hn (.inr ⟨h,h2⟩)).elim
  have r:=gp ((bj a).add+(bj b).add);have e0:cJ emp=false:=Mc;unfold dB at hx hy ⊢;by_cases h1:a.plus=b.minus<;>by_cases h2:a.minus=b.plus
  ·simp only[h1,h2,if_true,gP];exact uB r
  ·simp only[h1,h2,if_true,if_false,jk,gP]at hx hy ⊢;exact⟨hb.p,ha.m,fun e=>(h2 e.symm).elim,r.1,r.2⟩
  ·simp only[h1,h2,if_true,if_false,jk,gP]at hx hy ⊢;exact⟨ha.p,hb.m,fun e=>(h1 e).elim,r.1,r.2⟩
  ·simp only[h1,h2,if_false]at hx hy ⊢;rcases hx with ex | ex<;>rcases hy with ey | ey
   ·rw[ex,ey,jk,jk];exact⟨hb.p,hb.m,hb.ne,r.1,r.2⟩
   ·rw[ex,ey,jk,gP];exact⟨hb.p,ha.m,fun e=>(h2 e.symm).elim,r.1,r.2⟩
   ·rw[ex,ey,gP,jk];exact⟨ha.p,hb.m,fun e=>(h1 e).elim,r.1,r.2⟩
   ·rw[ex,ey,gP,gP];exact⟨ha.p,ha.m,ha.ne,r.1,r.2⟩
theorem J2 {k a b:Int}(ha : -9223372036854775808≤a∧a≤9223372036854775807) : -9223372036854775808≤(nV k a b).1∧(nV k a b).1≤9223372036854775807:=by
 unfold nV;split
 ·exact⟨by decide,by decide⟩
 split
 ·exact⟨by decide,by decide⟩
 split
 ·show _≤a.tmod b∧a.tmod b≤_;rcases Int.le_total 0 a with h | h
  ·have h1:=Int.tmod_nonneg b h
   have h2:a.tmod b≤a:=by
    have:=Int.emod_emod_of_dvd;rw[Int.tmod_def]
    have h3:0≤b*a.tdiv b:=by
     rcases Int.le_total 0 b with hb | hb
     ·exact Int.mul_nonneg hb (Int.tdiv_nonneg h hb)
     ·have:a.tdiv b≤0:=Int.tdiv_nonpos_of_nonneg_of_nonpos h hb;have:=Int.mul_nonneg_of_nonpos_of_nonpos hb this;exact this
    omega
   omega
  ·have h4:(-a).tmod b = - a.tmod b:=Int.neg_tmod ..;have h1:=Int.tmod_nonneg (a := -a) b (by omega)
   have h2:(-a).tmod b ≤ -a:=by
    rw[Int.tmod_def]
    have h3:0≤b*(-a).tdiv b:=by
     rcases Int.le_total 0 b with hb | hb
     ·exact Int.mul_nonneg hb (Int.tdiv_nonneg (by omega) hb)
     ·have:(-a).tdiv b≤0:=Int.tdiv_nonpos_of_nonneg_of_nonpos (by omega) hb;exact Int.mul_nonneg_of_nonpos_of_nonpos hb this
    omega
   omega
 split
 ·exact gp _
 ·exact gp _
theorem QJ {k a b:Int}(ha : -9223372036854775808≤a∧a≤9223372036854775807) : -9223372036854775808≤(i8 k a b).1∧(i8 k a b).1≤9223372036854775807:=by
 rcases numF_cases k a b with ⟨_,h⟩ | ⟨_,h⟩ | ⟨_,h⟩ | ⟨_,h⟩ | ⟨_,h⟩ | ⟨_,h⟩ | ⟨_,_,_,_,_,_,⟨_,h⟩ | ⟨_,_,_,h⟩ | ⟨_,_,_,h⟩⟩
 ·rw[h];exact gp (a*b)
 ·rw[h];exact J2 ha
 ·rw[h];exact J2 ha
 ·rw[h];exact uy .and a b
 ·rw[h];exact uy .xor a b
 ·rw[h];exact uy .or a b
 ·rw[h];exact⟨by decide,by decide⟩
 ·rw[h];exact gp (a*2 ^ b.toNat)
 ·rw[h];exact gp (IntKind.u64.wrap a / 2 ^ b.toNat)
theorem GZ {k:Int}{a b:Val}(ha:GoodV a)(hb:GoodV b):GoodV (dk k a b).1:=by
 unfold dk;split
 ·exact Fx hb
 split
 ·split
  ·exact uB (uy .xor (-1) b.add)
  ·exact goodZero
 split
 ·exact Fv ha hb
 split
 ·exact Fv ha (Fx hb)
 split
 ·exact uB (QJ ⟨ha.lo,ha.hi⟩)
 ·exact goodZero
theorem zo {vs:List Val}(h:∀v∈vs,GoodV v)(i:Nat):GoodV (vs.getD i dC):=by
 rw[List.getD_eq_getElem?_getD];cases hv:vs[i]? with
 |none=>exact goodZero
 |some v=>exact h v (List.mem_of_getElem? hv)
theorem goodEval:∀(ts:List Term) (vs:List Val),(∀v∈vs,GoodV v)→(∀t∈ts,i7 t=true)→(∀t∈ts,-9223372036854775808≤t.n∧t.n≤9223372036854775807)→GoodV (iF vs ts).1
 |[],vs,hv,_,_=>zo hv 0
 |t::r,vs,hv,ht,hn=>by
  have htb:=ht t (by simp);have htn:=hn t (by simp);rw[iF];split
  ·rename_i h0;refine goodEval r _ (fun v hvm=>?_) (fun x hx=>ht x (by simp[hx])) (fun x hx=>hn x (by simp[hx]));rcases List.mem_append.1 hvm with h | h
   ·exact hv v h
   ·simp only[List.mem_singleton]at h;subst h;unfold i7 at htb;split at htb
    ·have e:t.sym=emp:=of_decide_eq_true htb;rw[e];exact uB htn
    split at htb
    ·simp only[and_eq_true]at htb;exact⟨.inr htb.2,.inl rfl,fun e=>e,htn.1,htn.2⟩
    ·simp only[and_eq_true,decide_eq_true_eq]at htb;have:=htb.1.1;omega
  ·dsimp only;split
   ·refine goodEval r _ (fun v hvm=>?_) (fun x hx=>ht x (by simp[hx])) (fun x hx=>hn x (by simp[hx]));rcases List.mem_append.1 hvm with h | h
    ·exact hv v (List.mem_of_mem_take h)
    ·simp only[List.mem_singleton]at h;subst h;exact GZ (zo hv _) (zo hv _)
   ·exact goodZero
theorem goodPrint {v:Val}(h:GoodV v):(printF v).2=0:=by
 unfold printF;rw[if_neg,if_neg]
 ·split
  ·split<;>rfl
  ·rfl
 ·rintro⟨e,hne⟩;exact hne (h.ne e)
 ·rintro (⟨h1,h2⟩ | ⟨h1,h2⟩)
  ·rcases h.p with h3 | h3
   ·exact h1 h3
   ·rw[h3]at h2;cases h2
  ·rcases h.m with h3 | h3
   ·exact h1 h3
   ·rw[h3]at h2;cases h2
theorem goodSize {v:Val}(h:GoodV v):v.plus.size≤512∧v.minus.size≤512:=by
 have key:∀s:ByteArray,s=emp∨cJ s=true→s.size≤512:=by
  rintro s (rfl | h)
  ·decide
  ·exact mO h
 exact⟨key _ h.p,key _ h.m⟩
theorem termB_size {t:Term}(h:i7 t=true):t.sym.size≤512:=by
 have e0:emp.size=0:=rfl;unfold i7 at h;split at h
 ·have e:t.sym=emp:=of_decide_eq_true h;rw[e,e0];decide
 split at h
 ·simp only[and_eq_true]at h;exact mO h.2
 ·simp only[and_eq_true,decide_eq_true_eq]at h;rw[h.2,e0];decide
def Rgs (ts:List Term):Prop:=∀t∈ts,-9223372036854775808≤t.n∧t.n≤9223372036854775807
def pu (F:PS→PR):Prop:=∀s s',Rgs s.ts→F s=.ok s'→Rgs s'.ts
theorem Ae : -9223372036854775808≤(0:Int)∧(0:Int)≤9223372036854775807:=by decide
theorem pI {t:Term}{s s':PS}(ht : -9223372036854775808≤t.n∧t.n≤9223372036854775807)(hs:Rgs s.ts)(h:jb t s=.ok s'):Rgs s'.ts:=by
 obtain⟨rfl,-⟩:=pJ h;intro x hx;rcases List.mem_append.1 hx with hx | hx
 ·exact hs x hx
 ·simp only[List.mem_singleton]at hx;subst hx;exact ht
theorem rM {read:PS→PR}(hr:pu read):pu (dg read):=by
 intro s s' hs e;unfold dg at e;split at e
 ·cases e
 ·split at e
  ·rename_i q hq;injection e with e;subst e;exact hr ⟨s.at_+1,s.op+1,s.ts⟩ q hs hq
  ·cases e
theorem rV {l:List Tok}{read:PS→PR}{kinds:List Int}(hr:pu read):∀(m:Nat) (s s':PS),Rgs s.ts→gk l read kinds m s=.ok s'→Rgs s'.ts
 |0,s,s',hs,e=>by injection e with e;subst e;exact hs
 |m+1,s,s',hs,e=>by
  rw[gk]at e;split at e
  ·injection e with e;subst e;exact hs
  ·split at e
   ·cases e
   ·rename_i q hq;have h1:=hr ⟨s.at_+1,s.op,s.ts⟩ q hs hq;split at e
    ·cases e
    ·rename_i q2 hq2;exact rV hr m q2 s' (pI Ae h1 hq2) e
theorem dR {l:List Tok}{read:PS→PR}{kinds:List Int}(hr:pu read):pu (dY l read kinds):=by
 intro s s' hs e;unfold dY at e;split at e
 ·cases e
 ·rename_i q hq;exact rV hr _ q s' (hr s q hs hq) e
theorem p6 {l:List Tok}:∀N:Nat,pu (br l N)
 |0=>fun s s' _ e=>by cases e
 |N+1=>by
  have ih:=p6 (l:=l) N;intro s s' hs e;rw[br]at e;split at e
  ·cases e
  ·rename_i t ht;split at e
   ·exact pI (s:={ s with at_:=s.at_+1 }) (gp t.n) hs e
   split at e
   ·exact pI (s:={ s with at_:=s.at_+1 }) Ae hs e
   split at e
   ·split at e
    ·cases e
    ·rename_i q hq;have h1:=rM (dR (dR (dR (dR (dR (dR ih)))))) s q hs hq;split at e
     ·injection e with e;subst e;exact h1
     ·cases e
   split at e
   ·split at e
    ·cases e
    ·rename_i q hq;exact pI Ae (rM ih s q hs hq) e
   ·cases e
theorem parseF_keep {l:List Tok}{s:PS}(h:parseF l=.ok s):Rgs s.ts :=
 dR (dR (dR (dR (dR (dR (p6 l.length)))))) ⟨0,0,[]⟩ s (fun t ht=>by simp at ht) h
end Ex
namespace Ex
def nxt (l:List Tok)(p:Nat):ByteArray:=match l[p]? with
 |some t=>if t.kind=4 then t.text else emp
 |none=>emp
theorem Sv (l:List Tok)(s:PS):aL l s=nxt l s.at_:=rfl
def Reads (read:PS→PR)(p q:Nat)(d:Int)(new:List Term):Prop :=
 ∀(op:Int) (T:List Term),0≤op→op+d≤64→T.length+new.length≤256→read ⟨p,op,T⟩=.ok ⟨q,op,T++new⟩
theorem Reads.mono {read:PS→PR}{p q:Nat}{d d':Int}{new:List Term}(h:Reads read p q d new)(hd:d≤d'):Reads read p q d' new:=fun op T h0 h1 h2=>h op T h0 (by omega) h2
section
variable {l:List Tok}{N p q:Nat}{t:Tok}
end
inductive Chn (l:List Tok)(read:PS→PR)(kinds:List Int):Nat→Nat→Int→List Term→Prop
 |nil {q:Nat} (h:bS (nxt l q) kinds 0=0):Chn l read kinds q q 0 []
 |cons {q r z:Nat} {k d d':Int} {b c:List Term} (hk:bS (nxt l q) kinds 0=k) (h0:k≠0) (hr:Reads read (q+1) r d b) (hq:q+1≤r) (hc:Chn l read kinds r z d' c) (hd:0≤d) (hd':0≤d'):Chn l read kinds q z (max d d') (b++⟨k,0,emp⟩::c)
end Ex
end Go.Proofs.YtnhbidpdadkcjaaGreatDoor
