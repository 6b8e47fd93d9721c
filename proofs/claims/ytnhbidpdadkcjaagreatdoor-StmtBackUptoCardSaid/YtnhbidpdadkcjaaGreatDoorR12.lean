import Derived.Test.YtnhbidpdadkcjaaGreatDoorR10
import Derived.WalkSpells
import Derived.WalkLawsBesides
import Derived.OpenShut
open Go.RowKit
set_option linter.unusedVariables false
set_option linter.unusedSimpArgs false
set_option maxRecDepth 100000
set_option maxHeartbeats 8000000
open List (length_append length_cons length_nil)
open Nat (zero_le)
open Bool (and_eq_true)
namespace Go.Proofs.YtnhbidpdadkcjaaGreatDoor
open Tryz
structure OpV where
 kind:Int
 r:gu
 m:gu
 md:Int
 amt:Int
 n:Int
 add:Int
 plus:ByteArray
 minus:ByteArray
 lo:Bool
 mode:Int
deriving instance DecidableEq for OpV
def r0:gu:=⟨0,false,false⟩
def op0 (kind:Int):OpV:=⟨kind,r0,r0,0,0,0,0,emp,emp,false,0⟩
structure Tok where
 kind:Int
 text:ByteArray
 n:Int
 pos:Int
theorem mp (n:Int)(w:World) :
  Calls prog 116 #[.int .u8 n] w fun e w'=>e=.returned (.bool (bX n))∧w=w':=by
 go_enter func116,ntmps116;go_wp2
 all_goals (go_ret;refine⟨eS ?_,rfl⟩;rw[Bool.eq_iff_iff];simp[bX];try omega)
theorem uU (n:Int)(w:World) :
  Calls prog 165 #[.int .u8 n] w fun e w'=>e=.returned (.bool (eI n))∧w=w':=by
 go_enter func165,ntmps165;go_wp2
 all_goals (go_ret;refine⟨eS ?_,rfl⟩;rw[Bool.eq_iff_iff];simp[eI];try omega)
theorem Cl (n:Int)(w:World) :
  Calls prog 118 #[.int .u8 n] w fun e w'=>e=.returned (.bool (wordyB n))∧w=w':=by
 by_cases h:bX n=true
 ·go_enter func118,ntmps118
  go_wp2_with (first | (go_at_call 116;refine(mp _ _).mono ?_;rintro e w' ⟨rfl,rfl⟩) | (go_at_call 165;refine(uU _ _).mono ?_;rintro e w' ⟨rfl,rfl⟩))
  go_ret;exact⟨eS (by simp[wordyB,h]),rfl⟩
 ·have h':bX n=false:=by simpa using h
  go_enter func118,ntmps118
  go_wp2_with (first | (go_at_call 116;refine(mp _ _).mono ?_;rintro e w' ⟨rfl,rfl⟩) | (go_at_call 165;refine(uU _ _).mono ?_;rintro e w' ⟨rfl,rfl⟩))
  go_ret;exact⟨eS (by simp[wordyB,h']),rfl⟩
theorem J5 (F:Nat)(g:Int→Bool)(hE:∀args w,(callFunc F args).run prog w=.ok (.enter F args) w)(hF:∀(n:Int) (w:World),Calls prog F #[.int .u8 n] w fun e w'=>e=.returned (.bool (g n))∧w=w')(s:ByteArray)(w:World)(hs:s.size≤maxLen) :
  Calls prog 117 #[.string s,.func (.func F) #[] #[]] w fun e w'=>e=.returned (.int .i64 (mR g s.data.toList))∧w=w':=by
 have HF:=Lib.hid hF;clear hF;unfold maxLen at hs;go_enter func117,ntmps117
 go_wp2_with fail
 go_loop [5] (fun n=>∃k:Nat,k≤s.size∧n=.int .i64 k∧Hid (mR g (s.data.toList.drop k)+k=mR g s.data.toList)) (fun n=>s.size-(intOf n).toNat)
 case atStart=>exact⟨0,zero_le _,rfl,show _=_ by simp⟩
 case round =>
  obtain⟨k,hk,rfl,hr⟩:=hrel;by_cases hlt:k<s.size
  ·have st:=Lib.hid (MH g s k hlt);by_cases hg:g (s[k].toNat:Int)=true
   ·go_wp2_with fail
    refine(HF.out _ _).mono ?_;rintro e w' ⟨rfl,rfl⟩
    go_wp2_with fail
    go_round
    case rel=>exact⟨k+1,by omega,by go_num,show _=_ by rw[←hr.out,st.out,if_pos hg];omega⟩
    case measure=>simp[intOf];omega
   ·have hg':g (s[k].toNat:Int)=false:=by simpa using hg
    go_wp2_with fail
    refine(HF.out _ _).mono ?_;rintro e w' ⟨rfl,rfl⟩
    go_wp2_with fail
    go_ret;exact⟨pJ (by have h1:=hr.out;rw[st.out,if_neg (by simp[hg'])]at h1;omega),rfl⟩
  ·have h0:=Lib.hid (Qp g s k (by omega))
   go_wp2_with fail
   go_ret;exact⟨pJ (by have h1:=hr.out;rw[h0.out]at h1;omega),rfl⟩
theorem wh (args:Array Value)(w:World):(callFunc 118 args).run prog w=.ok (.enter 118 args) w:=by go_simp
theorem vF (s:ByteArray)(w:World)(hs:s.size≤maxLen) :
  Calls prog 117 #[.string s,.func (.func 118) #[] #[]] w fun e w'=>e=.returned (.int .i64 (mR wordyB s.data.toList))∧w=w' :=
 J5 _ _ wh Cl s w hs
theorem zk (s:ByteArray)(w:World)(hs:s.size≤maxLen) :
  Calls prog 54 #[.string s] w fun e w'=>e=.returned (.bool (ud s))∧w=w':=by
 by_cases h0:s.size=0
 ·have h1:s.toList=[]:=td h0;have h2:s.toList.isEmpty=true:=by rw[h1];rfl
  go_enter func54,ntmps54
  go_wp2_with fail
  go_ret;exact⟨eS (vj h0),rfl⟩
 ·have h1:0<s.size:=by omega
  have h2:s.toList.isEmpty=false:=lT h0;have h3:¬s.toList=[]:=mL h0;by_cases hl:bX (s[0].toNat:Int)=true
  ·go_enter func54,ntmps54
   go_wp2_with (first | (go_at_call 116;refine(mp _ _).mono ?_;rintro e w' ⟨rfl,rfl⟩) | (go_at_call 117;refine(vF _ _ hs).mono ?_;rintro e w' ⟨rfl,rfl⟩))
   go_ret;exact⟨eS (by rw[px h1,hl,Bool.true_and,Bool.eq_iff_iff,beq_iff_eq,beq_iff_eq];omega),rfl⟩
  ·have hl':bX (s[0].toNat:Int)=false:=by simpa using hl
   go_enter func54,ntmps54
   go_wp2_with (first | (go_at_call 116;refine(mp _ _).mono ?_;rintro e w' ⟨rfl,rfl⟩) | (go_at_call 117;refine(vF _ _ hs).mono ?_;rintro e w' ⟨rfl,rfl⟩))
   go_ret;exact⟨eS (by rw[px h1,hl'];simp),rfl⟩
theorem aY (s:ByteArray)(w:World)(hs:s.size≤maxLen) :
  Calls prog 122 #[.string s] w fun e w'=>e=.returned (.bool (br s))∧w=w':=by
 by_cases h:s.size≤512
 ·have h':(s.size:Int)≤512:=by omega
  go_enter func122,ntmps122
  go_wp2_with (first | (go_at_call 54;refine(zk _ _ hs).mono ?_;rintro e w' ⟨rfl,rfl⟩))
  go_ret;exact⟨eS (by simp[br,h]),rfl⟩
 ·have h':(512:Int)<s.size:=by omega
  go_enter func122,ntmps122
  go_wp2_with (first | (go_at_call 54;refine(zk _ _ hs).mono ?_;rintro e w' ⟨rfl,rfl⟩))
  go_ret;exact⟨eS (by simp[br,h]),rfl⟩
namespace Ex
def _root_.Go.Proofs.YtnhbidpdadkcjaaGreatDoor.Val.cells (x:Val):List Value:=[.int .i64 x.add,.string x.plus,.string x.minus]
def cF (k:Int)(a b:Val):Val×Int :=
 if k=3 then(ue b,0)
 else if k=4 then(if cR b.plus b.minus=true then(⟨bits .xor .i64 (-1) b.add,emp,emp⟩,0) else(fc,91))
 else if k=8 then nq a b
 else if k=9 then nq a (ue b)
 else if cR a.plus a.minus=true∧cR b.plus b.minus=true then(⟨(kh k a.add b.add).1,emp,emp⟩,(kh k a.add b.add).2) else(fc,91)
theorem GO (a:Val){b:Val}(h:cR b.plus b.minus=true):cF 4 a b=(⟨bits .xor .i64 (-1) b.add,⟨#[]⟩,⟨#[]⟩⟩,0):=by simp[cF,h,emp]
theorem xO (a:Val){b:Val}(h:cR b.plus b.minus=false):cF 4 a b=(⟨0,⟨#[]⟩,⟨#[]⟩⟩,91):=by simp[cF,h,fc,emp]
theorem GN (a b:Val):cF 8 a b=nq a b:=by simp[cF]
theorem GQ (a b:Val):cF 9 a b=nq a ⟨wrap64 (-b.add),b.minus,b.plus⟩:=by simp[cF,ue]
theorem GP {k:Int}{a b:Val}(k3:(k==3)=false)(k4:(k==4)=false)(k8:(k==8)=false)(k9:(k==9)=false)(ha:cR a.plus a.minus=true)(hb:cR b.plus b.minus=true) :
  cF k a b=(⟨(kh k a.add b.add).1,⟨#[]⟩,⟨#[]⟩⟩,(kh k a.add b.add).2):=by
 simp only[beq_eq_false_iff_ne,ne_eq]at k3 k4 k8 k9;simp[cF,k3,k4,k8,k9,ha,hb,emp]
theorem qd {k:Int}{a b:Val}(k3:(k==3)=false)(k4:(k==4)=false)(k8:(k==8)=false)(k9:(k==9)=false)(h:cR a.plus a.minus=false∨cR b.plus b.minus=false) :
  cF k a b=(⟨0,⟨#[]⟩,⟨#[]⟩⟩,91):=by
 simp only[beq_eq_false_iff_ne,ne_eq]at k3 k4 k8 k9;rcases h with h | h<;>simp[cF,k3,k4,k8,k9,h,fc,emp]
def _root_.Go.Proofs.YtnhbidpdadkcjaaGreatDoor.Val.le (x:Val)(k:Nat):Prop:=x.plus.size≤k∧x.minus.size≤k
theorem Be {x:Val}{k:Nat}(h:x.le k):(bn x).le k:=qn rfl h.1 h.2
theorem Jv {a b:Val}{k:Nat}(ha:a.le k)(hb:b.le k):(nq a b).1.le k:=by
 obtain⟨a1,a2⟩:=Be ha;obtain⟨b1,b2⟩:=Be hb;obtain⟨m1,m2⟩:=pw (show dZ (bn a).plus (bn b).minus=((dZ (bn a).plus (bn b).minus).1,(dZ (bn a).plus (bn b).minus).2) from rfl) a1 b2;obtain⟨m3,m4⟩:=pw (show dZ (bn a).minus (bn b).plus=((dZ (bn a).minus (bn b).plus).1,(dZ (bn a).minus (bn b).plus).2) from rfl) a2 b1;unfold nq;dsimp only;split
 ·exact⟨by simp[fc,emp,ByteArray.size],by simp[fc,emp,ByteArray.size]⟩
 ·rename_i h;have e0:emp.size=0:=rfl;constructor
  ·show(_++_:ByteArray).size≤k;rw[ByteArray.size_append];by_cases h1:(dZ (bn a).plus (bn b).minus).fst=emp
   ·rw[h1,e0];omega
   ·have h2:(dZ (bn a).minus (bn b).plus).snd=emp:=Decidable.byContradiction fun h2=>h (.inl ⟨h1,h2⟩);rw[h2,e0];omega
  ·show(_++_:ByteArray).size≤k;rw[ByteArray.size_append];by_cases h1:(dZ (bn a).minus (bn b).plus).fst=emp
   ·rw[h1,e0];omega
   ·have h2:(dZ (bn a).plus (bn b).minus).snd=emp:=Decidable.byContradiction fun h2=>h (.inr ⟨h1,h2⟩);rw[h2,e0];omega
theorem Hw (n:Int)(k:Nat):Val.le ⟨n,emp,emp⟩ k:=⟨zero_le _,zero_le _⟩
theorem Ky (m:Int){a b:Val}{k:Nat}(ha:a.le k)(hb:b.le k):(cF m a b).1.le k:=by
 have hn:(ue b).le k:=⟨hb.2,hb.1⟩;unfold cF;split
 ·exact hn
 split
 ·split<;>exact Hw _ _
 split
 ·exact Jv ha hb
 split
 ·exact Jv ha hn
 split<;>exact Hw _ _
def eB (vs:List Val):List Term→Val×Int
 |[]=>(vs.getD 0 fc,0)
 |t::r =>
  if bd t.kind=0 then eB (vs++[⟨t.n,t.sym,emp⟩]) r
  else
   let y:=cF t.kind (vs.getD (vs.length-2) fc) (vs.getD (vs.length-1) fc)
   if y.2=0 then eB (vs.take (vs.length-(bd t.kind).toNat)++[y.1]) r else(fc,y.2)
def evalAll (l:List Term):Val×Int:=if dN l=0 then eB [] l else(fc,dN l)
theorem yx {vs:List Val}{t:Term}{r:List Term}(h:bd t.kind=0):eB vs (t::r)=eB (vs++[⟨t.n,t.sym,emp⟩]) r:=by rw[eB,if_pos h]
theorem yy {vs:List Val}{t:Term}{r:List Term}(h:¬bd t.kind=0){v:Val}(e:cF t.kind (vs.getD (vs.length-2) fc) (vs.getD (vs.length-1) fc)=(v,0)) :
  eB vs (t::r)=eB (vs.take (vs.length-(bd t.kind).toNat)++[v]) r:=by
 rw[eB,if_neg h];dsimp only;rw[e,if_pos rfl]
theorem K6 {vs:List Val}{t:Term}{r:List Term}(h:¬bd t.kind=0){v:Val}{x:Int}(hx:¬x=0)(e:cF t.kind (vs.getD (vs.length-2) fc) (vs.getD (vs.length-1) fc)=(v,x)) :
  eB vs (t::r)=(fc,x):=by
 rw[eB,if_neg h];dsimp only;rw[e,if_neg hx]
theorem Hj {h:Int}{t:Term}{r:List Term}(e:cI h (t::r)=0):gp t=true∧bd t.kind≤h∧cI (h+(1-bd t.kind)) r=0:=by
 rw[cI]at e;split at e
 ·cases e
 ·rename_i hn;refine⟨?_,?_,e⟩
  ·cases ht:gp t with
   |true=>rfl
   |false=>exact(hn (.inl ht)).elim
  ·exact Int.not_lt.1 fun hlt=>hn (.inr hlt)
theorem Le {h:Int}(e:cI h []=0):h=1:=by
 rw[cI]at e;split at e
 ·assumption
 ·cases e
theorem Ea {ts:List Term}(h:dN ts=0):cI 0 ts=0:=by
 unfold dN at h;split at h
 ·split at h
  ·cases h
  ·exact h
 ·exact h
theorem CE {k:Int}(h:bd k=1)(a a' b:Val):cF k a b=cF k a' b:=by
 have:k=3∨k=4:=by
  unfold bd at h;split at h
  ·assumption
  ·split at h<;>omega
 rcases this with rfl | rfl<;>simp[cF]
end Ex
namespace Ex
def decG:Nat→Nat→List UInt8
 |0,_=>[]
 |f+1,n=>if n<10 then[UInt8.ofNat (48+n)] else decG f (n / 10)++[UInt8.ofNat (48+n % 10)]
def decS (n:Nat):ByteArray:=⟨(decG 20 n).toArray⟩
theorem Ek:∀f n,(decG f n).length≤f
 |0,_=>Nat.le_refl _
 |f+1,n=>by
  rw[decG];split
  ·simp
  ·rw[length_append];have:=Ek f (n / 10);simp;omega
theorem decS_size (n:Nat):(decS n).size≤20:=by
 show(decG 20 n).toArray.size≤20;rw[List.size_toArray];exact Ek 20 n
theorem Kh {n:Int}(h:n<0)(hl : -9223372036854775808≤n):IntKind.u64.wrap (-IntKind.u64.wrap n)=(((-n).toNat:Nat):Int):=by
 rw[IntKind.wrap_u64,IntKind.wrap_u64];omega
theorem DK {n:Int}(h:0≤n)(hl:n≤9223372036854775807):IntKind.u64.wrap n=((n.toNat:Nat):Int):=by
 rw[IntKind.wrap_u64];omega
def signS (n:Int):ByteArray:=if n<0 then⟨#[45]⟩++decS (-n).toNat else⟨#[43]⟩++decS n.toNat
theorem signS_size (n:Int):(signS n).size≤21:=by
 have h1:=decS_size (-n).toNat;have h2:=decS_size n.toNat;have e1:(⟨#[45]⟩:ByteArray).size=1:=rfl;have e2:(⟨#[43]⟩:ByteArray).size=1:=rfl;unfold signS;split<;>rw[ByteArray.size_append]<;>omega
theorem symB_size {s:ByteArray}(h:br s=true):s.size≤512:=by
 unfold br at h;simp at h;exact h.1
theorem yu {m:ByteArray}(h:¬m=emp):¬emp=m:=fun e=>h e.symm
def printF (v:Val):ByteArray×Int :=
 if(v.plus≠emp∧br v.plus=false)∨(v.minus≠emp∧br v.minus=false) then(emp,90)
 else if v.plus=v.minus∧v.plus≠emp then(emp,90)
 else if v.plus=emp∧v.minus=emp then(if v.add<0 then(signS v.add,0) else(decS v.add.toNat,0))
 else
  let o:=if v.plus=emp then⟨#[48]⟩ else v.plus
  let o:=if v.minus=emp then o else o++(⟨#[45]⟩++v.minus)
  (if v.add=0 then o else o++signS v.add,0)
end Ex
namespace Ex
def okB (i:Nat)(c:Int):Bool:=bX c||(eI c&&decide (i≠0))
def sj (i:Nat):List UInt8→Bool
 |[]=>true
 |c::r=>okB i c.toNat&&sj (i+1) r
theorem wM:∀(l:List UInt8) (i:Nat),i≠0→sj i l=(mR wordyB l==l.length)
 |[],i,h=>rfl
 |c::r,i,h=>by
  rw[sj,wM r (i+1) (by omega)];have e:okB i c.toNat=wordyB c.toNat:=by simp[okB,wordyB,h]
  rw[e];unfold mR;rw[List.takeWhile_cons];cases wordyB c.toNat<;>simp
theorem MW (s:ByteArray):br s=(sj 0 s.data.toList&&(!decide (s.size=0)&&decide (s.size≤512))):=by
 unfold br ud;have hl:s.data.toList.length=s.size:=Array.length_toList;cases e:s.data.toList with
 |nil =>
  have h0:s.size=0:=by rw[←hl,e];rfl
  simp[h0]
 |cons c r =>
  have h0:¬s.size=0:=by rw[←hl,e];simp
  have hr:s.size=r.length+1:=by rw[←hl,e];rfl
  rw[sj,wM r 1 (by omega)];have e1:okB 0 c.toNat=bX c.toNat:=by simp[okB]
  rw[e1];cases hL:bX c.toNat with
  |false=>simp[hL]
  |true =>
   have hw:wordyB c.toNat=true:=by simp[wordyB,hL]
   have e2:mR wordyB (c::r)=mR wordyB r+1:=by unfold mR;rw[List.takeWhile_cons,hw];rfl
   have e3:(mR wordyB r+1==r.length+1)=(mR wordyB r==r.length):=by rw[Bool.eq_iff_iff];simp
   have e4:decide (r.length+1=0)=false:=by simp
   simp only[hL,e2,hr,Bool.true_and,e3,e4,Bool.not_false];rw[Bool.and_comm]
theorem Oc (d:Nat)(h:d<10):(⟨#[48,49,50,51,52,53,54,55,56,57,97,98,99,100,101,102]⟩:ByteArray).extract d (d+1)=⟨#[UInt8.ofNat (48+d)]⟩:=by
 match d,h with
 |0,_=>rfl
 |1,_=>rfl
 |2,_=>rfl
 |3,_=>rfl
 |4,_=>rfl
 |5,_=>rfl
 |6,_=>rfl
 |7,_=>rfl
 |8,_=>rfl
 |9,_=>rfl
theorem JJ {m q:Nat}(h:m<10 ^ (q+1)):m / 10<10 ^ q:=by
 rw[Nat.pow_succ]at h;omega
theorem JI {m q:Nat}(h:m<10 ^ (q+1))(h10:¬m<10):0<q:=by
 rcases Nat.eq_zero_or_pos q with rfl | h0
 ·simp at h;omega
 ·exact h0
end Ex
namespace Ex
def eF (k:Int):ByteArray :=
 if k=3 then⟨#[45]⟩ else if k=4 then⟨#[126]⟩ else if k=5 then⟨#[42]⟩ else if k=6 then⟨#[47]⟩ else if k=7 then⟨#[37]⟩ else if k=8 then⟨#[43]⟩ else if k=9 then⟨#[45]⟩
 else if k=10 then⟨#[60,60]⟩ else if k=11 then⟨#[62,62]⟩ else if k=12 then⟨#[38]⟩ else if k=13 then⟨#[94]⟩ else⟨#[124]⟩
structure Pc where
 s:ByteArray
 d:Int
def par (l m r:ByteArray):ByteArray:=((⟨#[40]⟩++l++m)++r)++⟨#[41]⟩
def X7 (num:Int→ByteArray)(t:Term):Pc:=⟨if t.kind=1 then num t.n else t.sym,0⟩
def unF (k:Int)(x:Pc):Pc:=⟨(⟨#[40]⟩++eF k)++x.s++⟨#[41]⟩,x.d+1⟩
def biF (k:Int)(x y:Pc):Pc:=⟨((⟨#[40]⟩++x.s)++eF k)++y.s++⟨#[41]⟩,max x.d y.d+1⟩
def Ri:Pc:=⟨emp,0⟩
def YH (num:Int→ByteArray)(st:List Pc)(t:Term):List Pc :=
 if bd t.kind=0 then st++[X7 num t]
 else if bd t.kind=1 then st.take (st.length-1)++[unF t.kind (st.getD (st.length-1) Ri)]
 else st.take (st.length-2)++[biF t.kind (st.getD (st.length-2) Ri) (st.getD (st.length-1) Ri)]
def de (num:Int→ByteArray)(st:List Pc):List Term→List Pc
 |[]=>st
 |t::r=>de num (YH num st t) r
def room (st:List Pc):Nat:=(st.map fun x=>x.s.size).sum
structure Fine (k:Nat)(st:List Pc):Prop where
 len:st.length≤k
 room:room st≤1000*k
 dep:∀x∈st,0≤x.d∧x.d≤k
end Ex
namespace Ex
structure PS where
 at_:Nat
 op:Int
 ts:List Term
abbrev PR:=Except Int PS
def jJ (t:Term)(s:PS):PR:=if 256<s.ts.length+1 then .error 93 else .ok { s with ts:=s.ts++[t] }
def nextF (l:List Tok)(s:PS):ByteArray :=
 match l[s.at_]? with
 |some t=>if t.kind=4 then t.text else emp
 |none=>emp
def dT (read:PS→PR)(s:PS):PR :=
 if 64<s.op+1 then .error 93 else
 match read ⟨s.at_+1,s.op+1,s.ts⟩ with
 |.ok s'=>.ok { s' with op:=s'.op-1 }
 |.error e=>.error e
def bP (s:ByteArray):List Int→Int→Int
 |[],f=>f
 |k::r,f=>bP s r (if s≠emp∧s=eF k then k else f)
def eE (l:List Tok)(read:PS→PR)(kinds:List Int):Nat→PS→PR
 |0,s=>.ok s
 |m+1,s =>
  if bP (nextF l s) kinds 0=0 then .ok s else
  match read ⟨s.at_+1,s.op,s.ts⟩ with
  |.error e=>.error e
  |.ok s'=>match jJ ⟨bP (nextF l s) kinds 0,0,emp⟩ s' with
   |.error e=>.error e
   |.ok s''=>eE l read kinds m s''
def dU (l:List Tok)(read:PS→PR)(kinds:List Int)(s:PS):PR :=
 match read s with
 |.error e=>.error e
 |.ok s'=>eE l read kinds l.length s'
def fF (l:List Tok)(read:PS→PR):PS→PR :=
 dU l (dU l (dU l (dU l (dU l (dU l read [5,6,7]) [8,9]) [10,11]) [12]) [13]) [14]
def aP (l:List Tok):Nat→PS→PR
 |0,_=>.error 90
 |N+1,s=>match l[s.at_]? with
  |none=>.error 90
  |some t =>
   if t.kind=2 then jJ ⟨1,wrap64 t.n,emp⟩ { s with at_:=s.at_+1 }
   else if t.kind=1 then jJ ⟨2,0,t.text⟩ { s with at_:=s.at_+1 }
   else if t.kind=4∧t.text=⟨#[40]⟩ then
    match dT (fF l (aP l N)) s with
    |.error e=>.error e
    |.ok s'=>if nextF l s'=⟨#[41]⟩ then .ok { s' with at_:=s'.at_+1 } else .error 90
   else if t.kind=4∧(t.text=⟨#[45]⟩∨t.text=⟨#[126]⟩) then
    match dT (aP l N) s with
    |.error e=>.error e
    |.ok s'=>jJ ⟨if t.text=⟨#[126]⟩ then 4 else 3,0,emp⟩ s'
   else .error 90
structure POk (l:List Tok)(N:Nat)(s:PS):Prop where
 le:s.at_≤l.length
 rem:l.length≤s.at_+N
 op0:0≤s.op
 op1:s.op≤64
 ts:s.ts.length≤256
def DP (l:List Tok)(N:Nat)(F:PS→PR):Prop :=
 ∀s s',POk l N s→F s=.ok s'→s.at_<s'.at_∧s'.at_≤l.length∧s'.op=s.op∧s'.ts.length≤256
theorem rG {t:Term}{s s':PS}(h:jJ t s=.ok s'):s'={ s with ts:=s.ts++[t] }∧s.ts.length+1≤256:=by
 unfold jJ at h;split at h
 ·cases h
 ·injection h with h;exact⟨h.symm,by omega⟩
theorem uh {l:List Tok}{s:PS}(h:nextF l s≠emp):s.at_<l.length:=by
 unfold nextF at h;split at h
 ·rename_i t ht;exact(List.getElem?_eq_some_iff.1 ht).1
 ·exact absurd rfl h
theorem pm:∀(kinds:List Int) (f:Int),bP emp kinds f=f
 |[],f=>rfl
 |k::r,f=>by rw[bP,if_neg (by simp),pm r f]
theorem uZ {l:List Tok}{s:PS}{kinds:List Int}(h:¬bP (nextF l s) kinds 0=0):nextF l s≠emp:=by
 intro e;rw[e,pm]at h;exact h rfl
theorem POk.mono {l:List Tok}{N N':Nat}{s:PS}(h:POk l N s)(hN:N≤N'):POk l N' s:=⟨h.le,by have:=h.rem;omega,h.op0,h.op1,h.ts⟩
theorem j9 {l:List Tok}{N:Nat}{read:PS→PR}(h:DP l N read){s s':PS}(hs:POk l (N+1) s)(hlt:s.at_<l.length)(e:dT read s=.ok s'):s.at_+1<s'.at_∧s'.at_≤l.length∧s'.op=s.op∧s'.ts.length≤256:=by
 unfold dT at e;split at e
 ·cases e
 ·split at e
  ·rename_i hop q hq;injection e with e;subst e;have:=h ⟨s.at_+1,s.op+1,s.ts⟩ _ ⟨by show s.at_+1≤_;omega,by have:=hs.rem;show _≤s.at_+1+N;omega,by have:=hs.op0;show 0≤s.op+1;omega,by show s.op+1≤64;omega,hs.ts⟩ hq;simp only at this ⊢;exact⟨this.1,this.2.1,by omega,this.2.2.2⟩
  ·cases e
theorem uA {l:List Tok}{N:Nat}{read:PS→PR}{kinds:List Int}(h:DP l N read):∀(m:Nat) {s s':PS},POk l (N+1) s→eE l read kinds m s=.ok s'→s.at_≤s'.at_∧s'.at_≤l.length∧s'.op=s.op∧s'.ts.length≤256
 |0,s,s',hs,e=>by
  injection e with e;subst e;exact⟨Nat.le_refl _,hs.le,rfl,hs.ts⟩
 |m+1,s,s',hs,e=>by
  rw[eE]at e;split at e
  ·injection e with e;subst e;exact⟨Nat.le_refl _,hs.le,rfl,hs.ts⟩
  ·rename_i hf;have hlt:=uh (uZ hf);split at e
   ·cases e
   ·rename_i q hq;have h1:=h ⟨s.at_+1,s.op,s.ts⟩ _ ⟨by show s.at_+1≤_;omega,by have:=hs.rem;show _≤s.at_+1+N;omega,hs.op0,hs.op1,hs.ts⟩ hq;simp only at h1;split at e
    ·cases e
    ·rename_i q' hq';obtain⟨rfl,h2⟩:=rG hq';have:=uA h m (s:={ q with ts:=q.ts++[⟨bP (nextF l s) kinds 0,0,emp⟩] }) ⟨h1.2.1,by have:=hs.rem;show _≤q.at_+(N+1);omega,by rw[show(PS.op _)=_ from h1.2.2.1];exact hs.op0,by rw[show(PS.op _)=_ from h1.2.2.1];exact hs.op1,by simp only[length_append,length_cons,length_nil];omega⟩ e;simp only at this;exact⟨by omega,this.2.1,by rw[this.2.2.1,h1.2.2.1],this.2.2.2⟩
theorem fq {l:List Tok}{N:Nat}{read:PS→PR}{kinds:List Int}(h:DP l N read):DP l N (dU l read kinds):=by
 intro s s' hs e;unfold dU at e;split at e
 ·cases e
 ·rename_i q hq;have h1:=h _ _ hs hq;have:=uA h l.length ⟨h1.2.1,by have:=hs.rem;omega,by rw[h1.2.2.1];exact hs.op0,by rw[h1.2.2.1];exact hs.op1,h1.2.2.2⟩ e;exact⟨by omega,this.2.1,by rw[this.2.2.1,h1.2.2.1],this.2.2.2⟩
theorem tZ {l:List Tok}{N:Nat}{read:PS→PR}(h:DP l N read):DP l N (fF l read) :=
 fq (fq (fq (fq (fq (fq h)))))
theorem i7 {l:List Tok}:∀N:Nat,DP l N (aP l N)
 |0,s,s',_,e=>by rw[aP]at e;cases e
 |N+1,s,s',hs,e=>by
  rw[aP]at e;split at e
  ·cases e
  ·rename_i t ht;have hlt:=(List.getElem?_eq_some_iff.1 ht).1;split at e
   ·obtain⟨rfl,h2⟩:=rG e;exact⟨by simp only;omega,by simp only;omega,rfl,by simp only[length_append,length_cons,length_nil];omega⟩
   split at e
   ·obtain⟨rfl,h2⟩:=rG e;exact⟨by simp only;omega,by simp only;omega,rfl,by simp only[length_append,length_cons,length_nil];omega⟩
   split at e
   ·split at e
    ·cases e
    ·rename_i q hq;have h1:=j9 (tZ (i7 N)) hs hlt hq;split at e
     ·rename_i hn;injection e with e;subst e;have:=uh (show nextF l q≠emp by rw[hn];intro h;cases h);exact⟨by simp only;omega,by simp only;omega,h1.2.2.1,h1.2.2.2⟩
     ·cases e
   split at e
   ·split at e
    ·cases e
    ·rename_i q hq;have h1:=j9 (i7 N) hs hlt hq;obtain⟨rfl,h2⟩:=rG e;exact⟨by simp only;omega,h1.2.1,h1.2.2.1,by simp only[length_append,length_cons,length_nil];omega⟩
   ·cases e
def parseF (l:List Tok):PR:=fF l (aP l l.length) ⟨0,0,[]⟩
end Ex
namespace Ex
def rT:Int→List Term→Option Int
 |h,[]=>some h
 |h,t::r=>if gp t=false∨h<bd t.kind then none else rT (h+(1-bd t.kind)) r
theorem Bv:∀(ts:List Term) (h:Int) (t:Term),rT h (ts++[t])=(rT h ts).bind fun q=>if gp t=false∨q<bd t.kind then none else some (q+(1-bd t.kind))
 |[],h,t=>by simp only[List.nil_append,rT,Option.bind_some]
 |x::r,h,t=>by
  simp only[List.cons_append,rT];split
  ·rfl
  ·exact Bv r _ t
theorem Bu:∀(ts:List Term) (h:Int),rT h ts=some 1→cI h ts=0
 |[],h,e=>by
  injection e with e;rw[cI,if_pos e]
 |t::r,h,e=>by
  rw[rT]at e;split at e
  ·cases e
  ·rename_i hn;rw[cI,if_neg hn];exact Bu r _ e
theorem yI:∀(ts:List Term) (h q:Int),rT h ts=some q→∀t∈ts,gp t=true
 |[],h,q,_,t,ht=>by simp at ht
 |x::r,h,q,e,t,ht=>by
  rw[rT]at e;split at e
  ·cases e
  ·rename_i hn;rcases List.mem_cons.1 ht with rfl | ht
   ·cases hb:gp t with
    |true=>rfl
    |false=>exact(hn (.inl hb)).elim
   ·exact yI r _ q e t ht
def DQ (F:PS→PR):Prop:=∀s h,0≤h→rT 0 s.ts=some h→match F s with
 |.ok s'=>rT 0 s'.ts=some (h+1)
 |.error e=>e≠0
theorem oI {t:Term}{s:PS}{h:Int}(hb:gp t=true)(ht:bd t.kind≤h)(hs:rT 0 s.ts=some h):match jJ t s with
  |.ok s'=>rT 0 s'.ts=some (h+(1-bd t.kind))
  |.error e=>e≠0:=by
 unfold jJ;by_cases hl:256<s.ts.length+1
 ·rw[if_pos hl];show(93:Int)≠0;decide
 ·rw[if_neg hl];show rT 0 (s.ts++[t])=_;rw[Bv,hs,Option.bind_some,if_neg];rw[hb];rintro (h1 | h1)
  ·cases h1
  ·omega
theorem um {read:PS→PR}(hr:DQ read):DQ (dT read):=by
 intro s h h0 hs;unfold dT;by_cases hl:64<s.op+1
 ·rw[if_pos hl];show(93:Int)≠0;decide
 ·rw[if_neg hl];have:=hr ⟨s.at_+1,s.op+1,s.ts⟩ h h0 hs;split at this
  ·rename_i e;first | (rw[e];exact this) | exact this
  ·rename_i e;first | (rw[e];exact this) | exact this
theorem foundF_mem {s:ByteArray}:∀{kinds:List Int} {f:Int},bP s kinds f=f∨bP s kinds f∈kinds
 |[],f=>.inl rfl
 |k::r,f=>by
  rw[bP];rcases foundF_mem (s:=s) (kinds:=r) (f:=if s≠emp∧s=eF k then k else f) with h | h
  ·rw[h];split
   ·exact .inr (by simp)
   ·exact .inl rfl
  ·exact .inr (List.mem_cons_of_mem _ h)
theorem uC {l:List Tok}{read:PS→PR}{kinds:List Int}(hk:∀k∈kinds,5≤k∧k≤14)(hr:DQ read):∀(m:Nat) (s:PS) (h:Int),0≤h→rT 0 s.ts=some (h+1)→match eE l read kinds m s with
  |.ok s'=>rT 0 s'.ts=some (h+1)
  |.error e=>e≠0
 |0,s,h,_,hs=>hs
 |m+1,s,h,h0,hs=>by
  rw[eE];by_cases hf:bP (nextF l s) kinds 0=0
  ·rw[if_pos hf];exact hs
  ·rw[if_neg hf];have hm:bP (nextF l s) kinds 0∈kinds:=(foundF_mem.resolve_left hf);have hb:=hk _ hm;have h1:=hr ⟨s.at_+1,s.op,s.ts⟩ (h+1) (by omega) hs;split at h1
   case h_2=>rename_i e he;rw[he];exact h1
   rename_i q he;rw[he];have ht:bd (bP (nextF l s) kinds 0)=2:=by unfold bd;rw[nG,if_pos hb]
   have h2:=oI (t:=⟨bP (nextF l s) kinds 0,0,emp⟩) (s:=q) (h:=h+1+1) (by
    unfold gp;simp only;rw[nG,nG,ht];simp) (by show bd _≤_;rw[ht];omega) h1
   simp only at h2 ⊢;rw[ht]at h2;split at h2
   case h_2=>rename_i e he2;rw[he2];exact h2
   rename_i q2 he2;rw[he2];exact uC hk hr m q2 h h0 (by rw[h2];congr 1;omega)
theorem lZ {l:List Tok}{read:PS→PR}{kinds:List Int}(hk:∀k∈kinds,5≤k∧k≤14)(hr:DQ read):DQ (dU l read kinds):=by
 intro s h h0 hs;unfold dU;have h1:=hr s h h0 hs;split at h1
 case h_2=>rename_i e he;rw[he];exact h1
 rename_i q he;rw[he];exact uC hk hr _ q h h0 h1
theorem t6 {l:List Tok}{read:PS→PR}(hr:DQ read):DQ (fF l read) :=
 lZ (by simp) (lZ (by simp) (lZ (by simp) (lZ (by simp) (lZ (by simp) (lZ (by simp) hr)))))
def Named (l:List Tok):Prop:=∀t∈l,t.kind=1→br t.text=true
theorem sf {l:List Tok}(hl:Named l):∀N:Nat,DQ (aP l N)
 |0=>fun s h _ _=>by show(90:Int)≠0;decide
 |N+1=>by
  have ih:=sf hl N;intro s h h0 hs;rw[aP];cases ht:l[s.at_]? with
  |none=>show(90:Int)≠0;decide
  |some t =>
   simp only;by_cases c2:t.kind=2
   ·rw[if_pos c2];have:=oI (t:=⟨1,wrap64 t.n,emp⟩) (s:={ s with at_:=s.at_+1 }) (h:=h) (by simp[gp]) (by show bd 1≤h;exact h0) hs;rw[show bd 1=0 by decide]at this;exact this
   rw[if_neg c2];by_cases c1:t.kind=1
   ·rw[if_pos c1];have hn:=hl t (List.mem_of_getElem? ht) c1;have:=oI (t:=⟨2,0,t.text⟩) (s:={ s with at_:=s.at_+1 }) (h:=h) (by simp[gp,hn]) (by show bd 2≤h;exact h0) hs;rw[show bd 2=0 by decide]at this;exact this
   rw[if_neg c1];by_cases cp:t.kind=4∧t.text=⟨#[40]⟩
   ·rw[if_pos cp];have h1:=um (t6 (l:=l) ih) s h h0 hs;split at h1
    case h_2=>rename_i e he;rw[he];exact h1
    rename_i q he;rw[he];simp only;by_cases hc:nextF l q=⟨#[41]⟩
    ·rw[if_pos hc];exact h1
    ·rw[if_neg hc];show(90:Int)≠0;decide
   rw[if_neg cp];by_cases cs:t.kind=4∧(t.text=⟨#[45]⟩∨t.text=⟨#[126]⟩)
   ·rw[if_pos cs];have h1:=um ih s h h0 hs;split at h1
    case h_2=>rename_i e he;rw[he];exact h1
    rename_i q he;rw[he];simp only;by_cases hc:t.text=⟨#[126]⟩
    ·rw[if_pos hc];have:=oI (t:=⟨4,0,emp⟩) (s:=q) (h:=h+1) (by decide) (by show bd 4≤_;rw[show bd 4=1 by decide];omega) h1;rw[show bd 4=1 by decide,show h+1+(1-1)=h+1 by omega]at this;exact this
    ·rw[if_neg hc];have:=oI (t:=⟨3,0,emp⟩) (s:=q) (h:=h+1) (by decide) (by show bd 3≤_;rw[show bd 3=1 by decide];omega) h1;rw[show bd 3=1 by decide,show h+1+(1-1)=h+1 by omega]at this;exact this
   ·rw[if_neg cs];show(90:Int)≠0;decide
theorem parseF_nice {l:List Tok}(hl:Named l):match parseF l with
  |.ok s=>dN s.ts=0∧(∀t∈s.ts,gp t=true)∧1≤s.at_∧s.at_≤l.length∧s.ts.length≤256
  |.error e=>e≠0:=by
 have h1:=t6 (l:=l) (sf hl l.length) ⟨0,0,[]⟩ 0 (by decide) rfl;unfold parseF;split at h1
 ·rename_i s he;have hg:=tZ (l:=l) (i7 l.length) _ _ ⟨zero_le _,by simp,by decide,by decide,by simp⟩ he;refine⟨?_,yI _ _ _ h1,by have:=hg.1;simp only at this;omega,hg.2.1,hg.2.2.2⟩;unfold dN;rw[if_neg (by have:=hg.2.2.2;omega)];exact Bu _ _ h1
 ·exact h1
structure GoodV (v:Val):Prop where
 p:v.plus=emp∨br v.plus=true
 m:v.minus=emp∨br v.minus=true
 ne:v.plus=v.minus→v.plus=emp
 lo : -9223372036854775808≤v.add
 hi:v.add≤9223372036854775807
theorem iQ (n:Int) : -9223372036854775808≤wrap64 n∧wrap64 n≤9223372036854775807:=by unfold wrap64;omega
theorem xk (op:BinOp)(a b:Int) : -9223372036854775808≤bits op .i64 a b∧bits op .i64 a b≤9223372036854775807:=by
 have:=bounds_i64 (wf_bits op .i64 a b);omega
theorem goodZero:GoodV fc:=⟨.inl rfl,.inl rfl,fun _=>rfl,by decide,by decide⟩
theorem xt {a:Int}(h : -9223372036854775808≤a∧a≤9223372036854775807):GoodV ⟨a,emp,emp⟩:=⟨.inl rfl,.inl rfl,fun _=>rfl,h.1,h.2⟩
theorem QL:br emp=false:=by decide
theorem JQ {v:Val}(h:GoodV v):GoodV (ue v):=⟨h.m,h.p,fun e=>by
 have e':v.minus=v.plus:=e;have:=h.ne e'.symm;show v.minus=emp;rw[e'];exact this,(iQ _).1,(iQ _).2⟩
theorem Bs {v:Val}(h:GoodV v):GoodV (bn v)∧(bn v).plus=v.plus∧(bn v).minus=v.minus:=by
 unfold bn;by_cases e:v.plus=v.minus
 ·rw[if_pos e];have h1:=h.ne e;exact⟨⟨.inl rfl,.inl rfl,fun _=>rfl,h.lo,h.hi⟩,h1.symm,by rw[←e,h1]⟩
 ·rw[if_neg e];exact⟨h,rfl,rfl⟩
theorem jk (a:ByteArray):a++emp=a:=by
 refine ByteArray.ext ?_;rw[ByteArray.data_append];simp[emp]
theorem kx (a:ByteArray):emp++a=a:=by
 refine ByteArray.ext ?_;rw[ByteArray.data_append];simp[emp]
theorem JP {a b:Val}(ha:GoodV a)(hb:GoodV b):GoodV (nq a b).1:=by
 obtain⟨ga,pa,ma⟩:=Bs ha;obtain⟨gb,pb,mb⟩:=Bs hb;unfold nq;simp only[pa,ma,pb,mb];split
 ·exact goodZero
 ·rename_i hn
  have hx:(dZ a.plus b.minus).1=emp∨(dZ a.minus b.plus).2=emp:=by
   rcases Classical.em ((dZ a.plus b.minus).1=emp) with h | h
   ·exact .inl h
   ·rcases Classical.em ((dZ a.minus b.plus).2=emp) with h2 | h2
    ·exact .inr h2
    ·exact(hn (.inl ⟨h,h2⟩)).elim
  have hy:(dZ a.minus b.plus).1=emp∨(dZ a.plus b.minus).2=emp:=by
   rcases Classical.em ((dZ a.minus b.plus).1=emp) with h | h
   ·exact .inl h
   ·rcases Classical.em ((dZ a.plus b.minus).2=emp) with h2 | h2
    ·exact .inr h2
    ·exact(hn (.inr ⟨h,h2⟩)).elim
  have r:=iQ ((bn a).add+(bn b).add);have e0:br emp=false:=QL;unfold dZ at hx hy ⊢;by_cases h1:a.plus=b.minus<;>by_cases h2:a.minus=b.plus
  ·simp only[h1,h2,if_true,jk];exact xt r
  ·simp only[h1,h2,if_true,if_false,kx,jk]at hx hy ⊢;exact⟨hb.p,ha.m,fun e=>(h2 e.symm).elim,r.1,r.2⟩
  ·simp only[h1,h2,if_true,if_false,kx,jk]at hx hy ⊢;exact⟨ha.p,hb.m,fun e=>(h1 e).elim,r.1,r.2⟩
  ·simp only[h1,h2,if_false]at hx hy ⊢;rcases hx with ex | ex<;>rcases hy with ey | ey
   ·rw[ex,ey,kx,kx];exact⟨hb.p,hb.m,hb.ne,r.1,r.2⟩
   ·rw[ex,ey,kx,jk];exact⟨hb.p,ha.m,fun e=>(h2 e.symm).elim,r.1,r.2⟩
   ·rw[ex,ey,jk,kx];exact⟨ha.p,hb.m,fun e=>(h1 e).elim,r.1,r.2⟩
   ·rw[ex,ey,jk,jk];exact⟨ha.p,ha.m,ha.ne,r.1,r.2⟩
theorem Ok {k a b:Int}(ha : -9223372036854775808≤a∧a≤9223372036854775807) : -9223372036854775808≤(qa k a b).1∧(qa k a b).1≤9223372036854775807:=by
 unfold qa;split
 ·exact⟨by decide,by decide⟩
 split
 ·exact⟨by decide,by decide⟩
 split
 ·show _≤a.tmod b∧a.tmod b≤_;rcases Int.le_total 0 a with h | h
  ·have h1:=Int.tmod_nonneg b h
   have h2:a.tmod b≤a:=by
    have:=Int.emod_emod_of_dvd;rw[Int.tmod_def]
    have h3:0≤b*a.tdiv b:=by
     rcases Int.le_total 0 b with hb | hb
     ·exact Int.mul_nonneg hb (Int.tdiv_nonneg h hb)
     ·have:a.tdiv b≤0:=Int.tdiv_nonpos_of_nonneg_of_nonpos h hb;have:=Int.mul_nonneg_of_nonpos_of_nonpos hb this;exact this
    omega
   omega
  ·have h4:(-a).tmod b = - a.tmod b:=Int.neg_tmod ..;have h1:=Int.tmod_nonneg (a := -a) b (by omega)
   have h2:(-a).tmod b ≤ -a:=by
    rw[Int.tmod_def]
    have h3:0≤b*(-a).tdiv b:=by
     rcases Int.le_total 0 b with hb | hb
     ·exact Int.mul_nonneg hb (Int.tdiv_nonneg (by omega) hb)
     ·have:(-a).tdiv b≤0:=Int.tdiv_nonpos_of_nonneg_of_nonpos (by omega) hb;exact Int.mul_nonneg_of_nonpos_of_nonpos hb this
    omega
   omega
 split
 ·exact iQ _
 ·exact iQ _
theorem VR {k a b:Int}(ha : -9223372036854775808≤a∧a≤9223372036854775807) : -9223372036854775808≤(kh k a b).1∧(kh k a b).1≤9223372036854775807:=by
 rcases numF_cases k a b with ⟨_,h⟩ | ⟨_,h⟩ | ⟨_,h⟩ | ⟨_,h⟩ | ⟨_,h⟩ | ⟨_,h⟩ | ⟨_,_,_,_,_,_,⟨_,h⟩ | ⟨_,_,_,h⟩ | ⟨_,_,_,h⟩⟩
 ·rw[h];exact iQ (a*b)
 ·rw[h];exact Ok ha
 ·rw[h];exact Ok ha
 ·rw[h];exact xk .and a b
 ·rw[h];exact xk .xor a b
 ·rw[h];exact xk .or a b
 ·rw[h];exact⟨by decide,by decide⟩
 ·rw[h];exact iQ (a*2 ^ b.toNat)
 ·rw[h];exact iQ (IntKind.u64.wrap a / 2 ^ b.toNat)
theorem Li {k:Int}{a b:Val}(ha:GoodV a)(hb:GoodV b):GoodV (cF k a b).1:=by
 unfold cF;split
 ·exact JQ hb
 split
 ·split
  ·exact xt (xk .xor (-1) b.add)
  ·exact goodZero
 split
 ·exact JP ha hb
 split
 ·exact JP ha (JQ hb)
 split
 ·exact xt (VR ⟨ha.lo,ha.hi⟩)
 ·exact goodZero
theorem C0 {vs:List Val}(h:∀v∈vs,GoodV v)(i:Nat):GoodV (vs.getD i fc):=by
 rw[List.getD_eq_getElem?_getD];cases hv:vs[i]? with
 |none=>exact goodZero
 |some v=>exact h v (List.mem_of_getElem? hv)
theorem goodEval:∀(ts:List Term) (vs:List Val),(∀v∈vs,GoodV v)→(∀t∈ts,gp t=true)→(∀t∈ts,-9223372036854775808≤t.n∧t.n≤9223372036854775807)→GoodV (eB vs ts).1
 |[],vs,hv,_,_=>C0 hv 0
 |t::r,vs,hv,ht,hn=>by
  have htb:=ht t (by simp);have htn:=hn t (by simp);rw[eB];split
  ·rename_i h0;refine goodEval r _ (fun v hvm=>?_) (fun x hx=>ht x (by simp[hx])) (fun x hx=>hn x (by simp[hx]));rcases List.mem_append.1 hvm with h | h
   ·exact hv v h
   ·simp only[List.mem_singleton]at h;subst h;unfold gp at htb;split at htb
    ·have e:t.sym=emp:=of_decide_eq_true htb;rw[e];exact xt htn
    split at htb
    ·simp only[and_eq_true]at htb;exact⟨.inr htb.2,.inl rfl,fun e=>e,htn.1,htn.2⟩
    ·simp only[and_eq_true,decide_eq_true_eq]at htb;have:=htb.1.1;omega
  ·dsimp only;split
   ·refine goodEval r _ (fun v hvm=>?_) (fun x hx=>ht x (by simp[hx])) (fun x hx=>hn x (by simp[hx]));rcases List.mem_append.1 hvm with h | h
    ·exact hv v (List.mem_of_mem_take h)
    ·simp only[List.mem_singleton]at h;subst h;exact Li (C0 hv _) (C0 hv _)
   ·exact goodZero
theorem goodSize {v:Val}(h:GoodV v):v.plus.size≤512∧v.minus.size≤512:=by
 have key:∀s:ByteArray,s=emp∨br s=true→s.size≤512:=by
  rintro s (rfl | h)
  ·decide
  ·exact symB_size h
 exact⟨key _ h.p,key _ h.m⟩
theorem termB_size {t:Term}(h:gp t=true):t.sym.size≤512:=by
 have e0:emp.size=0:=rfl;unfold gp at h;split at h
 ·have e:t.sym=emp:=of_decide_eq_true h;rw[e,e0];decide
 split at h
 ·simp only[and_eq_true]at h;exact symB_size h.2
 ·simp only[and_eq_true,decide_eq_true_eq]at h;rw[h.2,e0];decide
def Rgs (ts:List Term):Prop:=∀t∈ts,-9223372036854775808≤t.n∧t.n≤9223372036854775807
def rg (F:PS→PR):Prop:=∀s s',Rgs s.ts→F s=.ok s'→Rgs s'.ts
theorem DO : -9223372036854775808≤(0:Int)∧(0:Int)≤9223372036854775807:=by decide
theorem rF {t:Term}{s s':PS}(ht : -9223372036854775808≤t.n∧t.n≤9223372036854775807)(hs:Rgs s.ts)(h:jJ t s=.ok s'):Rgs s'.ts:=by
 obtain⟨rfl,-⟩:=rG h;intro x hx;rcases List.mem_append.1 hx with hx | hx
 ·exact hs x hx
 ·simp only[List.mem_singleton]at hx;subst hx;exact ht
theorem ul {read:PS→PR}(hr:rg read):rg (dT read):=by
 intro s s' hs e;unfold dT at e;split at e
 ·cases e
 ·split at e
  ·rename_i q hq;injection e with e;subst e;exact hr ⟨s.at_+1,s.op+1,s.ts⟩ q hs hq
  ·cases e
theorem uB {l:List Tok}{read:PS→PR}{kinds:List Int}(hr:rg read):∀(m:Nat) (s s':PS),Rgs s.ts→eE l read kinds m s=.ok s'→Rgs s'.ts
 |0,s,s',hs,e=>by injection e with e;subst e;exact hs
 |m+1,s,s',hs,e=>by
  rw[eE]at e;split at e
  ·injection e with e;subst e;exact hs
  ·split at e
   ·cases e
   ·rename_i q hq;have h1:=hr ⟨s.at_+1,s.op,s.ts⟩ q hs hq;split at e
    ·cases e
    ·rename_i q2 hq2;exact uB hr m q2 s' (rF DO h1 hq2) e
theorem fu {l:List Tok}{read:PS→PR}{kinds:List Int}(hr:rg read):rg (dU l read kinds):=by
 intro s s' hs e;unfold dU at e;split at e
 ·cases e
 ·rename_i q hq;exact uB hr _ q s' (hr s q hs hq) e
theorem se {l:List Tok}:∀N:Nat,rg (aP l N)
 |0=>fun s s' _ e=>by cases e
 |N+1=>by
  have ih:=se (l:=l) N;intro s s' hs e;rw[aP]at e;split at e
  ·cases e
  ·rename_i t ht;split at e
   ·exact rF (s:={ s with at_:=s.at_+1 }) (iQ t.n) hs e
   split at e
   ·exact rF (s:={ s with at_:=s.at_+1 }) DO hs e
   split at e
   ·split at e
    ·cases e
    ·rename_i q hq;have h1:=ul (fu (fu (fu (fu (fu (fu ih)))))) s q hs hq;split at e
     ·injection e with e;subst e;exact h1
     ·cases e
   split at e
   ·split at e
    ·cases e
    ·rename_i q hq;exact rF DO (ul ih s q hs hq) e
   ·cases e
theorem parseF_keep {l:List Tok}{s:PS}(h:parseF l=.ok s):Rgs s.ts :=
 fu (fu (fu (fu (fu (fu (se l.length)))))) ⟨0,0,[]⟩ s (fun t ht=>by simp at ht) h
end Ex
namespace Ex
def nxt (l:List Tok)(p:Nat):ByteArray:=match l[p]? with
 |some t=>if t.kind=4 then t.text else emp
 |none=>emp
theorem BJ (l:List Tok)(s:PS):nextF l s=nxt l s.at_:=rfl
def Reads (read:PS→PR)(p q:Nat)(d:Int)(new:List Term):Prop :=
 ∀(op:Int) (T:List Term),0≤op→op+d≤64→T.length+new.length≤256→read ⟨p,op,T⟩=.ok ⟨q,op,T++new⟩
theorem Reads.mono {read:PS→PR}{p q:Nat}{d d':Int}{new:List Term}(h:Reads read p q d new)(hd:d≤d'):Reads read p q d' new:=fun op T h0 h1 h2=>h op T h0 (by omega) h2
theorem xx {t:Term}{p:Nat}{op:Int}{T:List Term}(h:T.length+1≤256):jJ t ⟨p,op,T⟩=.ok ⟨p,op,T++[t]⟩:=by
 unfold jJ;rw[if_neg (by simp only;omega)]
section
variable {l:List Tok}{N p q:Nat}{t:Tok}
theorem Mv (ht:l[p]? = some t)(hk:t.kind=2):Reads (aP l (N+1)) p (p+1) 0 [⟨1,wrap64 t.n,emp⟩]:=by
 intro op T h0 h1 h2;rw[aP];simp only[ht,hk,if_true];exact xx h2
theorem IB (ht:l[p]? = some t)(hk:t.kind=1):Reads (aP l (N+1)) p (p+1) 0 [⟨2,0,t.text⟩]:=by
 intro op T h0 h1 h2;rw[aP];simp only[ht,hk,if_true];rw[if_neg (by decide)];exact xx h2
theorem Qa {d:Int}{new:List Term}{k:Int}(hd:0≤d)(ht:l[p]? = some t)(hk:t.kind=4)(hx:(k=3∧t.text=⟨#[45]⟩)∨(k=4∧t.text=⟨#[126]⟩))(h:Reads (aP l N) (p+1) q d new) :
  Reads (aP l (N+1)) p q (d+1) (new++[⟨k,0,emp⟩]):=by
 intro op T h0 h1 h2;rw[length_append]at h2;have h3:new.length+1=new.length+[(⟨k,0,emp⟩:Term)].length:=rfl;rw[aP];simp only[ht,hk]
 have hne:¬t.text=⟨#[40]⟩:=by
  rcases hx with ⟨_,e⟩ | ⟨_,e⟩<;>rw[e]<;>decide
 have hor:t.text=⟨#[45]⟩∨t.text=⟨#[126]⟩:=by
  rcases hx with ⟨_,e⟩ | ⟨_,e⟩
  ·exact .inl e
  ·exact .inr e
 rw[if_neg (by decide),if_neg (by decide),if_neg (fun h=>hne h.2),if_pos ⟨trivial,hor⟩];unfold dT;simp only;rw[nG,h (op+1) T (by omega) (by omega) (by omega)];simp only;have e1:op+1-1=op:=by omega
 have e2:(if t.text=⟨#[126]⟩ then(4:Int) else 3)=k:=by
  rcases hx with ⟨e0,e⟩ | ⟨e0,e⟩
  ·rw[e,e0];decide
  ·rw[e,e0];rfl
 rw[e1,e2,xx (by rw[length_append];omega),List.append_assoc]
end
inductive Chn (l:List Tok)(read:PS→PR)(kinds:List Int):Nat→Nat→Int→List Term→Prop
 |nil {q:Nat} (h:bP (nxt l q) kinds 0=0):Chn l read kinds q q 0 []
 |cons {q r z:Nat} {k d d':Int} {b c:List Term} (hk:bP (nxt l q) kinds 0=k) (h0:k≠0) (hr:Reads read (q+1) r d b) (hq:q+1≤r) (hc:Chn l read kinds r z d' c) (hd:0≤d) (hd':0≤d'):Chn l read kinds q z (max d d') (b++⟨k,0,emp⟩::c)
theorem VS {l:List Tok}{q:Nat}(h:nxt l q≠emp):q<l.length:=by
 unfold nxt at h;split at h
 ·rename_i t ht;exact(List.getElem?_eq_some_iff.1 ht).1
 ·exact absurd rfl h
theorem Ox {l:List Tok}{q:Nat}{kinds:List Int}{k:Int}(h:bP (nxt l q) kinds 0=k)(h0:k≠0):q<l.length:=by
 refine VS fun e=>?_;rw[e,pm]at h;exact h0 h.symm
theorem NU {l:List Tok}{read:PS→PR}{kinds:List Int}{q z:Nat}{d:Int}{c:List Term}(h:Chn l read kinds q z d c):∀(m:Nat) (op:Int) (T:List Term),l.length≤q+m→0≤op→op+d≤64→T.length+c.length≤256→eE l read kinds m ⟨q,op,T⟩=.ok ⟨z,op,T++c⟩:=by
 induction h with
 |nil h =>
  intro m op T hm h0 h1 h2;cases m with
  |zero=>rw[eE,List.append_nil]
  |succ m=>rw[eE,if_pos (by exact h),List.append_nil]
 | @cons q r z k d d' b c hk hk0 hr hq hc hd hd' ih =>
  intro m op T hm h0 h1 h2;have hlt:=Ox hk hk0;rw[length_append,length_cons]at h2;cases m with
  |zero=>omega
  |succ m =>
   rw[eE,if_neg (by rw[BJ];simp only;rw[hk];exact hk0),hr op T h0 (by omega) (by omega)];simp only[BJ,hk];rw[xx (by rw[length_append];omega)];simp only;rw[ih m op _ (by omega) h0 (by omega) (by simp only[length_append,length_cons,length_nil];omega)];simp only[List.append_assoc,List.cons_append,List.nil_append]
theorem BY {l:List Tok}{read:PS→PR}{kinds:List Int}{p q z:Nat}{d d':Int}{a c:List Term}(h:Reads read p q d a)(hc:Chn l read kinds q z d' c):Reads (dU l read kinds) p z (max d d') (a++c):=by
 intro op T h0 h1 h2;rw[length_append]at h2;unfold dU;rw[h op T h0 (by omega) (by omega)];simp only;rw[NU hc l.length op _ (by omega) h0 (by omega) (by rw[length_append];omega),List.append_assoc]
theorem iy {l:List Tok}{read:PS→PR}{kinds:List Int}{p q:Nat}{d:Int}{a:List Term}(h:Reads read p q d a)(hd:0≤d)(hn:bP (nxt l q) kinds 0=0):Reads (dU l read kinds) p q d a:=by
 have:=BY h (.nil hn);rw[List.append_nil,show max d 0=d by omega]at this;exact this
def Stop (l:List Tok)(q:Nat):Prop:=nxt l q=emp∨nxt l q=⟨#[41]⟩
end Ex
end Go.Proofs.YtnhbidpdadkcjaaGreatDoor
