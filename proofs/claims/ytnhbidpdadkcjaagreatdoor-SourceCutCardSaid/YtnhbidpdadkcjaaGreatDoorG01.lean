import Derived.WalkKit
import Derived.Lib.Hide
open Go.RowKit
set_option linter.unusedVariables false
set_option linter.unusedSimpArgs false
set_option maxRecDepth 100000
set_option maxHeartbeats 8000000
namespace Go.Proofs.YtnhbidpdadkcjaaGreatDoor
def Gok (M:Nat→Nat→Option Value):Prop :=
 (∃ev,M 3 0=some ev∧(ev=.nilIface∨∃te pe,ev=.iface te pe))∧∀i:Nat,i<20→M 1 i=some (.int .u64 (10 ^ i))
theorem Gok.mono {M M':Nat→Nat→Option Value}(h:Gok M)(hle:∀b o y,M b o=some y→M' b o=some y):Gok M' :=
 ⟨h.1.elim fun ev h1=>⟨ev,hle _ _ _ h1.1,h1.2⟩,fun i hi=>hle _ _ _ (h.2 i hi)⟩
theorem bat {B:Nat}{W w1:World}(hb:Below B W w1){b:Nat}(h:b<B):(∀o,w1.cell? ⟨b,o,none⟩=W.cell? ⟨b,o,none⟩)∧(∀o,w1.frozen? ⟨b,o,none⟩=W.frozen? ⟨b,o,none⟩) :=
 ⟨fun o=>hb.cell (p:=⟨b,o,none⟩) h,fun o=>hb.frozen (p:=⟨b,o,none⟩) h⟩
theorem rX {w:World}{a:Addr}{v:Value}(h:w.cell? a=some v):w.setCell a v=w:=by
 obtain⟨heap,tape,drawn,os,output⟩:=w;simp only[World.setCell,World.mk.injEq,and_true];apply Array.ext_getElem?;intro i;rw[Array.getElem?_modify];split
 ·rename_i hi;subst hi;simp only[World.cell?]at h;cases hb:heap[a.block]? with
  |none=>rfl
  |some o =>
   rw[hb]at h;cases o with
   |cells c t f =>
    simp only at h;split at h
    ·cases h
    ·rename_i hs;simp only[Option.map_some,Option.some.injEq,Obj.cells.injEq,and_true];rw[if_neg hs];apply Array.ext_getElem?;intro j;rw[Array.getElem?_setIfInBounds];split
     ·rename_i hj;subst hj;rw[h];have:=(Array.getElem?_eq_some_iff.1 h).1;rw[if_pos this]
     ·rfl
   |_=>first | rfl | (simp at h)
 ·rfl
@[simp,go_sem] theorem lt_up2 (n:Nat):n<n+1+1:=by omega
@[simp,go_sem] theorem lt_up3 (n:Nat):n<n+1+1+1:=by omega
@[simp,go_sem] theorem lt_up4 (n:Nat):n<n+1+1+1+1:=by omega
@[simp,go_sem] theorem lt_up5 (n:Nat):n<n+1+1+1+1+1:=by omega
@[simp,go_sem] theorem lt_up6 (n:Nat):n<n+1+1+1+1+1+1:=by omega
@[simp,go_sem] theorem lt_up7 (n:Nat):n<n+1+1+1+1+1+1+1:=by omega
@[simp,go_sem] theorem lt_up8 (n:Nat):n<n+1+1+1+1+1+1+1+1:=by omega
@[simp,go_sem] theorem lt_up9 (n:Nat):n<n+1+1+1+1+1+1+1+1+1:=by omega
@[simp,go_sem] theorem lt_up10 (n:Nat):n<n+1+1+1+1+1+1+1+1+1+1:=by omega
@[simp,go_sem] theorem lt_up11 (n:Nat):n<n+1+1+1+1+1+1+1+1+1+1+1:=by omega
@[simp,go_sem] theorem lt_up12 (n:Nat):n<n+1+1+1+1+1+1+1+1+1+1+1+1:=by omega
@[simp,go_sem] theorem lt_up13 (n:Nat):n<n+1+1+1+1+1+1+1+1+1+1+1+1+1:=by omega
@[simp,go_sem] theorem lt_up14 (n:Nat):n<n+1+1+1+1+1+1+1+1+1+1+1+1+1+1:=by omega
@[simp,go_sem] theorem lt_up15 (n:Nat):n<n+1+1+1+1+1+1+1+1+1+1+1+1+1+1+1:=by omega
@[simp,go_sem] theorem lt_up16 (n:Nat):n<n+1+1+1+1+1+1+1+1+1+1+1+1+1+1+1+1:=by omega
def SL (w:World)(B sz:Nat)(A:Option Addr)(n:Nat)(xs:List Value):Prop :=
 xs.length=n*sz∧(0<n→∃b off,A=some ⟨b,off,none⟩∧b<B∧∀j u,xs[j]? = some u→w.cell? ⟨b,off+j,none⟩=some u)
section
variable {w w':World}{B B' sz n:Nat}{A:Option Addr}{xs:List Value}
theorem SL.keep (h:SL w B sz A n xs)(hk:∀b o,b<B→w'.cell? ⟨b,o,none⟩=w.cell? ⟨b,o,none⟩):SL w' B sz A n xs :=
 ⟨h.1,fun hn=>by
  obtain⟨b,off,e,hb,hc⟩:=h.2 hn;exact⟨b,off,e,hb,fun j u hu=>(hk _ _ hb).trans (hc j u hu)⟩⟩
theorem SL.more (h:SL w B sz A n xs)(hB:B≤B'):SL w B' sz A n xs :=
 ⟨h.1,fun hn=>by
  obtain⟨b,off,e,hb,hc⟩:=h.2 hn;exact⟨b,off,e,by omega,hc⟩⟩
theorem SL.below (h:SL w B sz A n xs)(hb:Below B w w'):SL w' B sz A n xs:=h.keep fun b o hp=>hb.cell (p:=⟨b,o,none⟩) hp
theorem SL.drew (h:SL w B sz A n xs):SL w.drew B sz A n xs:=h
theorem SL.at_ (h:SL w B sz A n xs)(hn:0<n):∃b off,A=some ⟨b,off,none⟩∧b<B∧∀j u,xs[j]? = some u→w.cell? ⟨b,off+j,none⟩=some u:=h.2 hn
end
theorem vw {α:Type}(f:α→List Value)(sz:Nat)(hf:∀x,(f x).length=sz):∀(l:List α) (k:Nat) (x:α) (j:Nat),l[k]? = some x→j<sz→(l.flatMap f)[k*sz+j]? = (f x)[j]?
 |[],k,x,j,h,_=>by simp at h
 |y::r,0,x,j,h,hj=>by
  simp at h;subst h;simp[List.getElem?_append,hf,hj]
 |y::r,k+1,x,j,h,hj=>by
  have ih:=vw f sz hf r k x j (by simpa using h) hj;rw[List.flatMap_cons,List.getElem?_append_right (by rw[hf,Nat.succ_mul];omega),hf,←ih];congr 1;rw[Nat.succ_mul];omega
structure Val where
 add:Int
 plus:ByteArray
 minus:ByteArray
def Val.v (x:Val):Value:=.agg #[.int .i64 x.add,.string x.plus,.string x.minus]
def emp:ByteArray:=⟨#[]⟩
theorem P5 {a b:ByteArray}(h:a.toList=b.toList):a=b:=by
 rw[ByteArray.toList_eq,ByteArray.toList_eq]at h;exact ByteArray.ext (Array.ext' h)
theorem za {a b:ByteArray}:a.toList=b.toList↔a=b:=⟨P5,fun h=>by rw[h]⟩
theorem qg {a:ByteArray}:a.toList=[]↔a=emp:=by
 rw[←za,show emp.toList=[] from by simp[emp]]
def bj (x:Val):Val:=if x.plus=x.minus then⟨x.add,emp,emp⟩ else x
theorem ov {x r:Val}(h:bj x=r){k:Nat}(hp:x.plus.size≤k)(hm:x.minus.size≤k):r.plus.size≤k∧r.minus.size≤k:=by
 subst h;unfold bj;split
 ·simp[emp,ByteArray.size]
 ·exact⟨hp,hm⟩
def Hy (x:Val):Val:=⟨wrap64 (-x.add),x.minus,x.plus⟩
def dC:Val:=⟨0,emp,emp⟩
def dB (s t:ByteArray):ByteArray×ByteArray:=if s=t then(emp,emp) else(s,t)
theorem nl {s t a b:ByteArray}(h:dB s t=(a,b)){k:Nat}(hs:s.size≤k)(ht:t.size≤k):a.size≤k∧b.size≤k:=by
 unfold dB at h;split at h<;>injection h with h1 h2<;>subst h1<;>subst h2
 ·simp[emp,ByteArray.size]
 ·exact⟨hs,ht⟩
def qT (a b:Val):Val×Int :=
 let a:=bj a
 let b:=bj b
 let x:=dB a.plus b.minus
 let y:=dB a.minus b.plus
 if(x.1≠emp∧y.2≠emp)∨(y.1≠emp∧x.2≠emp) then(dC,91) else(⟨wrap64 (a.add+b.add),x.1++y.2,y.1++x.2⟩,0)
section
variable {a b r1 r2:Val}{p1 p2 m1 m2:ByteArray}
theorem Ng (hr1:bj a=r1)(hr2:bj b=r2)(h1:dB r1.plus r2.minus=(p1,m2))(h2:dB r1.minus r2.plus=(m1,p2))(hp:p1.toList=[]∨p2.toList=[])(hm:m1.toList=[]∨m2.toList=[]) :
  qT a b=(⟨wrap64 (r1.add+r2.add),p1++p2,m1++m2⟩,0):=by
 simp only[qg]at hp hm;simp only[qT,hr1,hr2,h1,h2];rw[if_neg];rintro (⟨h,k⟩ | ⟨h,k⟩)
 ·rcases hp with e | e
  ·exact h e
  ·exact k e
 ·rcases hm with e | e
  ·exact h e
  ·exact k e
theorem Jz (hr1:bj a=r1)(hr2:bj b=r2)(h1:dB r1.plus r2.minus=(p1,m2))(h2:dB r1.minus r2.plus=(m1,p2))(h:(¬p1.toList=[]∧¬p2.toList=[])∨(¬m1.toList=[]∧¬m2.toList=[])) :
  qT a b=(⟨0,⟨#[]⟩,⟨#[]⟩⟩,91):=by
 simp only[qg]at h;simp only[qT,hr1,hr2,h1,h2];rw[if_pos h];rfl
end
def ce (n:Int):Bool:=decide (97≤n∧n≤122∨65≤n∧n≤90∨n=95∨n=46∨n=36)
def dM (n:Int):Bool:=decide (48≤n∧n≤57)
def aM (n:Int):Bool:=ce n||dM n
theorem eJ {a b:Bool}(h:a=b):Ending.returned (.bool a)=.returned (.bool b):=by rw[h]
theorem nF {k:IntKind}{a b:Int}(h:a=b):Ending.returned (.int k a)=.returned (.int k b):=by rw[h]
def qE (g:Int→Bool)(l:List UInt8):Nat:=(l.takeWhile fun c=>g c.toNat).length
theorem xN (s:ByteArray)(k:Nat)(h:k<s.size):s.data.toList.drop k=s[k]::s.data.toList.drop (k+1):=by
 rw[List.drop_eq_getElem_cons (by simpa using h)];rfl
theorem J3 (s:ByteArray)(k:Nat)(h:s.size≤k):s.data.toList.drop k=[]:=by
 apply List.drop_eq_nil_of_le;simpa using h
theorem IF (g:Int→Bool)(s:ByteArray)(k:Nat)(h:k<s.size) :
  qE g (s.data.toList.drop k)=if g (s[k].toNat:Int)=true then 1+qE g (s.data.toList.drop (k+1)) else 0:=by
 rw[xN s k h];unfold qE;rw[List.takeWhile_cons];split<;>simp[Nat.add_comm]
theorem LU (g:Int→Bool)(s:ByteArray)(k:Nat)(h:s.size≤k):qE g (s.data.toList.drop k)=0:=by
 rw[J3 s k h];rfl
def tR (s:ByteArray):Bool :=
 match s.data.toList with
 |[]=>false
 |c::_=>ce c.toNat&&qE aM s.data.toList==s.size
def cJ (s:ByteArray):Bool:=decide (s.size≤512)&&tR s
theorem AE {s:ByteArray}(h:s.size=0):s.data.toList=[] :=
 List.eq_nil_of_length_eq_zero ((Array.length_toList).trans h)
theorem E3 {s:ByteArray}(h:s.size=0):s.toList=[]:=by rw[ByteArray.toList_eq,AE h]
theorem wY {s:ByteArray}(h:¬s.size=0):¬s.toList=[]:=by
 rw[ByteArray.toList_eq];intro e;exact h ((Array.length_toList (xs:=s.data)).symm.trans (by rw[e];rfl))
theorem Aa {s:ByteArray}(h:¬s.size=0):s.toList.isEmpty=false:=by
 cases e:s.toList with
 |nil=>exact(wY h e).elim
 |cons=>rfl
theorem tM (s:ByteArray):s.toList.isEmpty=decide (s=emp):=by
 rw[Bool.eq_iff_iff,List.isEmpty_iff,decide_eq_true_iff,qg]
theorem sJ {s:ByteArray}(h:s.size=0):false=tR s:=by
 unfold tR;rw[AE h]
theorem np {s:ByteArray}(h:0<s.size):tR s=(ce (s[0].toNat:Int)&&qE aM s.data.toList==s.size):=by
 have:=xN s 0 h;simp only[List.drop_zero]at this;unfold tR;split
 ·rename_i e;rw[e]at this;cases this
 ·rename_i c r e;rw[e]at this;injection this with h1 h2;rw[h1]
structure Term where
 kind:Int
 n:Int
 sym:ByteArray
def Term.cells (t:Term):List Value:=[.int .i64 t.kind,.int .i64 t.n,.string t.sym]
def aX (k:Int):Int:=if k=3∨k=4 then 1 else if 5≤k∧k≤14 then 2 else 0
def i7 (t:Term):Bool :=
 if t.kind=1 then decide (t.sym=emp) else if t.kind=2 then decide (t.n=0)&&cJ t.sym else decide (0<aX t.kind)&&decide (t.n=0)&&decide (t.sym=emp)
theorem tk (k:Int):0≤aX k∧aX k≤2:=by unfold aX;split<;>(try split)<;>omega
def cW (h:Int):List Term→Int
 |[]=>if h=1 then 0 else 90
 |t::r=>if i7 t=false∨h<aX t.kind then 90 else cW (h+(1-aX t.kind)) r
def fJ (l:List Term):Int:=if 256<l.length then(if cW 0 l=0 then 93 else cW 0 l) else cW 0 l
def nV (k a b:Int):Int×Int :=
 if b=0 then(0,92) else if k=7∧b = -1 then(0,0) else if k=7 then(a.tmod b,0) else if b = -1 then(wrap64 (-a),0) else(wrap64 (a.tdiv b),0)
def i8 (k a b:Int):Int×Int :=
 if k=5 then(wrap64 (a*b),0) else if k=6∨k=7 then nV k a b else if k=12 then(bits .and .i64 a b,0) else if k=13 then(bits .xor .i64 a b,0) else if k=14 then(bits .or .i64 a b,0)
 else if b<0∨63<b then(0,7) else if k=10 then(wrap64 (a*2 ^ b.toNat),0) else(wrap64 (IntKind.u64.wrap a / 2 ^ b.toNat),0)
theorem numF_cases (k a b:Int):(k=5∧i8 k a b=(wrap64 (a*b),0))∨(k=6∧i8 k a b=nV 6 a b)∨(k=7∧i8 k a b=nV 7 a b)∨(k=12∧i8 k a b=(bits .and .i64 a b,0))∨(k=13∧i8 k a b=(bits .xor .i64 a b,0))∨(k=14∧i8 k a b=(bits .or .i64 a b,0)) ∨
  ((
   k==5)=false∧(k==6)=false∧(k==7)=false∧(k==12)=false∧(k==13)=false∧(k==14)=false ∧
   (((b<0∨63<b)∧i8 k a b=(0,7))∨(0≤b∧b≤63∧k=10∧i8 k a b=(wrap64 (a*2 ^ b.toNat),0))∨(0≤b∧b≤63∧(k==10)=false∧i8 k a b=(wrap64 (IntKind.u64.wrap a / 2 ^ b.toNat),0)))):=by
 by_cases h5:k=5
 ·subst h5;exact .inl ⟨rfl,by simp[i8]⟩
 by_cases h6:k=6
 ·subst h6;exact .inr (.inl ⟨rfl,by simp[i8]⟩)
 by_cases h7:k=7
 ·subst h7;exact .inr (.inr (.inl ⟨rfl,by simp[i8]⟩))
 by_cases h12:k=12
 ·subst h12;exact .inr (.inr (.inr (.inl ⟨rfl,by simp[i8]⟩)))
 by_cases h13:k=13
 ·subst h13;exact .inr (.inr (.inr (.inr (.inl ⟨rfl,by simp[i8]⟩))))
 by_cases h14:k=14
 ·subst h14;exact .inr (.inr (.inr (.inr (.inr (.inl ⟨rfl,by simp[i8]⟩)))))
 refine .inr (.inr (.inr (.inr (.inr (.inr ⟨by simpa using h5,by simpa using h6,by simpa using h7,by simpa using h12,by simpa using h13,by simpa using h14,?_⟩)))));by_cases hb:b<0∨63<b
 ·exact .inl ⟨hb,by simp[i8, *]⟩
 by_cases h10:k=10
 ·subst h10;exact .inr (.inl ⟨by omega,by omega,rfl,by simp[i8,hb]⟩)
 ·exact .inr (.inr ⟨by omega,by omega,by simpa using h10,by simp[i8, *]⟩)
def cu (p m:ByteArray):Bool:=decide (p=emp)&&decide (m=emp)
theorem ak:(⟨#[]⟩:ByteArray)=emp:=rfl
end Go.Proofs.YtnhbidpdadkcjaaGreatDoor
