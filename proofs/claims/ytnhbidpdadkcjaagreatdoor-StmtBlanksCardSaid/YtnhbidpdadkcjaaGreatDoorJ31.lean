import Derived.Test.YtnhbidpdadkcjaaGreatDoorJ28
import Derived.Test.YtnhbidpdadkcjaaGreatDoorJ29
import Derived.Test.YtnhbidpdadkcjaaGreatDoorJ30
set_option linter.unusedVariables false
set_option linter.unusedSimpArgs false
set_option maxRecDepth 100000
set_option maxHeartbeats 8000000
namespace Go.Proofs.YtnhbidpdadkcjaaGreatDoor
open Go.RowKit
abbrev RdR (α:Type):=Except Int (α×List Tok)
def qp:ByteArray:=⟨#[93]⟩
def Ot:ByteArray:=⟨#[91]⟩
def fJ:ByteArray:=⟨#[44]⟩
def gy:ByteArray:=⟨#[58]⟩
def F4:ByteArray:=⟨#[33]⟩
def zC:ByteArray:=⟨#[108,111,49,50]⟩
def atF (l:List Tok) (k:Int) (n:Nat):ByteArray:=match l[n]? with
 | some t=>if t.kind=k then t.text else emp
 | none=>emp
def bW (s:ByteArray) (l:List Tok):Bool×List Tok:=if atF l 4 0=s then (true,l.drop 1) else (false,l)
def mustR (s:ByteArray) (l:List Tok):Except Int (List Tok):=if atF l 4 0=s then .ok (l.drop 1) else .error 100
def valueR (l:List Tok):RdR Val:=match Ex.parseF l with
 | .error e=>.error e
 | .ok s=>if (Ex.evalAll s.ts).2=0 then .ok ((Ex.evalAll s.ts).1,l.drop s.at_) else .error (Ex.evalAll s.ts).2
def countR (l:List Tok):RdR Int:=match mustR eQ l with
 | .error e=>.error e
 | .ok l=>match valueR l with
  | .error e=>.error e
  | .ok (v,l)=>if (v.plus=emp∧v.minus=emp)∧0≤v.add∧v.add≤63 then .ok (v.add,l) else .error 100
def changedR (o:OpV) (most none:Int) (l:List Tok):RdR OpV :=
 if ¬atF l 4 0=fJ∨¬(bM 3 3 (atF l 1 1)).2=0∨most<(bM 3 3 (atF l 1 1)).1 then .ok (o,l)
 else if (bM 3 3 (atF l 1 1)).1≤4∨atF (l.drop 2) 4 0=eQ then match countR (l.drop 2) with
  | .error e=>.error e
  | .ok (k,l')=>.ok ({ o with md:=(bM 3 3 (atF l 1 1)).1,amt:=k },l')
 else .ok ({ o with md:=(bM 3 3 (atF l 1 1)).1,amt:=none },l.drop 2)
def loR (l:List Tok):Except Int (Bool×List Tok) :=
 if ¬atF l 4 0=gy then .ok (false,l) else if ¬atF l 1 1=zC∨¬atF l 4 2=gy then .error 100 else .ok (true,l.drop 3)
def j5 (l:List Tok):kC×Bool:=if (jD 3 (atF l 1 0)).2=0 then ((jD 3 (atF l 1 0)).1,true) else (r0,false)
def aQ (l:List Tok):(kC×Bool)×List Tok:=(j5 l,if (j5 l).2=true then l.drop 1 else l)
def p6 (o:OpV) (v:Val):OpV:={ o with add:=v.add,plus:=v.plus,minus:=v.minus }
def EK (r:kC):OpV:=⟨5,r,r0,0,0,0,0,emp,emp,false,0⟩
def Cq (o:OpV) (l:List Tok):RdR OpV:=match changedR o 12 (-1) l with
 | .error e=>.error e
 | .ok (o,l)=>if fo o=false then .error 100 else match mustR qp l with
  | .error e=>.error e
  | .ok l=>.ok (o,l)
def EH (o:OpV) (l:List Tok):RdR OpV:=match valueR l with
 | .error e=>.error e
 | .ok (v,l)=>match mustR qp l with
  | .error e=>.error e
  | .ok l=>.ok ({ p6 o v with lo:=true },l)
def E2 (o:OpV) (l:List Tok):RdR OpV:=match mustR eQ l with
 | .error e=>.error e
 | .ok l=>match valueR l with
  | .error e=>.error e
  | .ok (v,l)=>match mustR qp l with
   | .error e=>.error e
   | .ok l=>if (bW F4 l).1=true then .ok ({ p6 o v with mode:=1 },(bW F4 l).2) else .ok (p6 o v,l)
def pk (o:OpV) (l:List Tok):RdR OpV:=match mustR fJ l with
 | .error e=>.error e
 | .ok l=>if (j5 l).2=true then Cq { o with mode:=3,m:=(j5 l).1,md:=1,amt := -1 } (l.drop 1) else match loR l with
  | .error e=>.error e
  | .ok (b,l)=>if b=true then EH o l else E2 o l
def xZ (o:OpV) (l:List Tok):RdR OpV:=if atF l 4 0=fJ∧atF l 4 1=eQ then match valueR (l.drop 2) with
  | .error e=>.error e
  | .ok (v,l)=>.ok ({ p6 o v with mode:=2 },l)
 else .ok (o,l)
def je (l:List Tok):RdR OpV :=
 if gB (EK (j5 l).1)=false then .error 100
 else if (bW qp (aQ l).2).1=true then xZ (EK (j5 l).1) ((bW qp (aQ l).2).2)
 else pk (EK (j5 l).1) (aQ l).2
def Cv (k n:Int):OpV:=⟨k,r0,r0,0,0,n,0,emp,emp,false,0⟩
def rsvdF (s:ByteArray):List (Int×Int)→Option OpV
 | []=>none
 | (kd,k)::r=>if (bM 3 kd s).2=0 then some (Cv k (bM 3 kd s).1) else rsvdF s r
def pZ:List (Int×Int):=[(2,4),(4,7),(6,6),(7,8),(8,9)]
def eB (s:ByteArray) (l:List Tok):RdR OpV:=match rsvdF s pZ with
 | some o=>.ok (o,l.drop 1)
 | none=>.error 100
def qx (v:Val) (lo:Bool):OpV:=⟨2,r0,r0,0,0,0,v.add,v.plus,v.minus,lo,0⟩
def toV (v:Val):OpV:=⟨3,r0,r0,0,0,0,v.add,v.plus,v.minus,false,0⟩
def xk (l:List Tok):RdR OpV:=match valueR l with
 | .error e=>.error e
 | .ok (v,l)=>changedR (qx v false) 1 0 l
def operR (l:List Tok):RdR OpV :=
 if (j5 l).2=true then changedR ⟨1,(j5 l).1,r0,0,0,0,0,emp,emp,false,0⟩ 12 0 (l.drop 1)
 else if atF l 4 0=Ot then je (l.drop 1)
 else if atF l 4 0=eQ then xk (l.drop 1)
 else match loR l with
  | .error e=>.error e
  | .ok (true,l)=>(match valueR l with
   | .error e=>.error e
   | .ok (v,l)=>.ok (qx v true,l))
  | .ok (false,l) =>
   if ¬atF l 1 0=emp∧kJ 3 (atF l 1 0)=true then eB (atF l 1 0) l
   else match valueR l with
    | .error e=>.error e
    | .ok (v,l)=>.ok (if v.plus=emp∧v.minus=emp then qx v false else toV v,l)
def xj (out:List OpV) (o:OpV):Bool:=match out.getLast? with
 | some q=>jt q o
 | none=>false
def stepR (out:List OpV) (l:List Tok):RdR (List OpV) :=
 match (if out=[] then .ok l else mustR fJ l) with
 | .error e=>.error e
 | .ok l=>if out.length=8 then .error 3 else match operR l with
  | .error e=>.error e
  | .ok (o,l)=>if ¬iD o=0 then .error (iD o) else if xj out o=true then .error 100 else .ok (out++[o],l)
def gZ:Nat→List OpV→List Tok→Except Int (List OpV)
 | _,out,[]=>.ok out
 | 0,_,_=>.error 100
 | N+1,out,l=>match stepR out l with
  | .error e=>.error e
  | .ok (out,l)=>gZ N out l
def listF (l:List Tok):Except Int (List OpV):=gZ l.length [] l
end Go.Proofs.YtnhbidpdadkcjaaGreatDoor
namespace Go.Proofs.YtnhbidpdadkcjaaGreatDoor
open Go.RowKit
structure RdOk (l:List Tok):Prop where
 named:Ex.Named l
 few:l.length≤1000000
theorem RdOk.drop {l:List Tok} (h:RdOk l) (n:Nat):RdOk (l.drop n) :=
 ⟨fun t ht=>h.named t (List.mem_of_mem_drop ht),by rw [List.length_drop];have:=h.few;omega⟩
theorem wF {l:List Tok} (h:RdOk l) (n:Nat):(atF l 1 n).size≤512:=by
 unfold atF
 split
 ·rename_i t ht
  split
  ·rename_i hk
   have h1:=h.named t (List.mem_of_getElem? ht) hk
   unfold ik at h1
   simp only [Bool.and_eq_true,decide_eq_true_eq] at h1
   exact h1.1
  ·decide
 ·decide
theorem jN {l:List Tok} {k:Int} {n:Nat} (h:¬atF l k n=emp):n<l.length:=by
 unfold atF at h
 split at h
 ·rename_i t ht;exact (List.getElem?_eq_some_iff.1 ht).1
 ·exact absurd rfl h
theorem AN {s:Ex.PS} (h1:iH s.ts=0) (h2:∀ t∈s.ts,ky t=true) (h3:Ex.Rgs s.ts):Ex.GoodV (Ex.evalAll s.ts).1:=by
 unfold Ex.evalAll
 rw [if_pos h1]
 exact Ex.goodEval s.ts [] (fun v hv=>by simp at hv) h2 h3
theorem vU {l:List Tok} (h:RdOk l):match valueR l with
  | .ok (v,r)=>Ex.GoodV v∧∃ n,1≤n∧n≤l.length∧r=l.drop n
  | .error e=>e≠0:=by
 have h1:=Ex.parseF_nice h.named
 unfold valueR
 cases hp:Ex.parseF l with
 | error e=>rw [hp] at h1;exact h1
 | ok s =>
  rw [hp] at h1
  obtain ⟨g1,g2,g3,g4,g5⟩:=h1
  simp only
  by_cases h0:(Ex.evalAll s.ts).2=0
  ·rw [if_pos h0]
   exact ⟨AN g1 g2 (Ex.parseF_keep hp),s.at_,g3,g4,rfl⟩
  ·rw [if_neg h0];exact h0
theorem jj {l r:List Tok} {v:Val} (h:RdOk l) (e:valueR l=.ok (v,r)):Ex.GoodV v∧RdOk r∧r.length<l.length:=by
 have h1:=vU h
 rw [e] at h1
 obtain ⟨g,n,n1,n2,rfl⟩:=h1
 exact ⟨g,h.drop n,by rw [List.length_drop];omega⟩
theorem jY {l:List Tok} {x:Int} (h:RdOk l) (e:valueR l=.error x):x≠0:=by
 have h1:=vU h
 rw [e] at h1
 exact h1
theorem fV {s:ByteArray} {l r:List Tok} (hs:¬s=emp) (h:RdOk l) (e:mustR s l=.ok r):RdOk r∧r.length<l.length∧atF l 4 0=s∧r=l.drop 1:=by
 unfold mustR at e
 split at e
 ·rename_i hx
  injection e with e
  subst e
  have:=jN (l:=l) (k:=4) (n:=0) (by rw [hx];exact hs)
  exact ⟨h.drop 1,by rw [List.length_drop];omega,hx,rfl⟩
 ·cases e
theorem kZ {s:ByteArray} {l:List Tok} {x:Int} (e:mustR s l=.error x):x=100:=by
 unfold mustR at e
 split at e
 ·cases e
 ·injection e with e;exact e.symm
theorem Hk {l r:List Tok} {k:Int} (h:RdOk l) (e:countR l=.ok (k,r)):(0≤k∧k≤63)∧RdOk r∧r.length<l.length:=by
 unfold countR at e
 split at e
 ·cases e
 ·rename_i l1 h1
  obtain ⟨g1,g2,-,-⟩:=fV (by decide) h h1
  split at e
  ·cases e
  ·rename_i v l2 h2
   obtain ⟨g3,g4,g5⟩:=jj g1 h2
   split at e
   ·rename_i hc
    injection e with e
    injection e with e1 e2
    subst e1 e2
    exact ⟨⟨hc.2.1,hc.2.2⟩,g4,by omega⟩
   ·cases e
theorem D4 {l:List Tok} {x:Int} (h:RdOk l) (e:countR l=.error x):x≠0:=by
 unfold countR at e
 split at e
 ·rename_i y h1
  injection e with e
  have:=kZ h1
  omega
 ·rename_i l1 h1
  obtain ⟨g1,g2,-,-⟩:=fV (by decide) h h1
  split at e
  ·rename_i y h2
   injection e with e
   subst e
   exact jY g1 h2
  ·split at e
   ·cases e
   ·injection e with e;omega
end Go.Proofs.YtnhbidpdadkcjaaGreatDoor
namespace Go.Proofs.YtnhbidpdadkcjaaGreatDoor
open Go.RowKit
theorem mp {o:OpV} {v:Val} (h:Ex.GoodV v) (h1:o.add=v.add) (h2:o.plus=v.plus) (h3:o.minus=v.minus):okO o:=by
 have h4:=Ex.goodSize h
 refine ⟨⟨by rw [h2];omega,by rw [h3];omega⟩,by rw [h1];exact h.lo,by rw [h1];exact h.hi⟩
theorem xQ {o:OpV} (h1:o.add=0) (h2:o.plus=emp) (h3:o.minus=emp):okO o:=mp Ex.goodZero h1 h2 h3
theorem xP {o p:OpV} (h:okO p) (h1:o.add=p.add) (h2:o.plus=p.plus) (h3:o.minus=p.minus):okO o:=by
 unfold okO at *
 rw [h1,h2,h3]
 exact h
theorem vi {o o':OpV} {most nn:Int} {l r:List Tok} (h:RdOk l) (e:changedR o most nn l=.ok (o',r)):RdOk r∧r.length≤l.length∧∃ a b,o'={ o with md:=a,amt:=b }:=by
 unfold changedR at e
 split at e
 ·injection e with e
  injection e with e1 e2
  subst e1 e2
  exact ⟨h,Nat.le_refl _,o.md,o.amt,rfl⟩
 ·split at e
  ·split at e
   ·cases e
   ·rename_i k l' hc
    injection e with e
    injection e with e1 e2
    subst e1 e2
    obtain ⟨-,g1,g2⟩:=Hk (h.drop 2) hc
    rw [List.length_drop] at g2
    exact ⟨g1,by omega,_,_,rfl⟩
  ·injection e with e
   injection e with e1 e2
   subst e1 e2
   exact ⟨h.drop 2,by rw [List.length_drop];omega,_,_,rfl⟩
theorem sW {o:OpV} {most nn:Int} {l:List Tok} {x:Int} (h:RdOk l) (e:changedR o most nn l=.error x):x≠0:=by
 unfold changedR at e
 split at e
 ·cases e
 ·split at e
  ·split at e
   ·rename_i y hc
    injection e with e
    subst e
    exact D4 (h.drop 2) hc
   ·cases e
  ·cases e
theorem CA {l r:List Tok} {b:Bool} (h:RdOk l) (e:loR l=.ok (b,r)):RdOk r∧r.length≤l.length:=by
 unfold loR at e
 split at e
 ·injection e with e;injection e with e1 e2;subst e2;exact ⟨h,Nat.le_refl _⟩
 ·split at e
  ·cases e
  ·injection e with e;injection e with e1 e2;subst e2;exact ⟨h.drop 3,by rw [List.length_drop];omega⟩
theorem Gr {l:List Tok} {x:Int} (e:loR l=.error x):x≠0:=by
 unfold loR at e
 split at e
 ·cases e
 ·split at e
  ·injection e with e;omega
  ·cases e
theorem yg {s:ByteArray} {l:List Tok} (h:RdOk l):RdOk (bW s l).2∧(bW s l).2.length≤l.length:=by
 unfold bW
 split
 ·exact ⟨h.drop 1,by rw [List.length_drop];omega⟩
 ·exact ⟨h,Nat.le_refl _⟩
theorem ya {l:List Tok} (h:RdOk l):RdOk (aQ l).2∧(aQ l).2.length≤l.length:=by
 unfold aQ
 split
 ·exact ⟨h.drop 1,by rw [List.length_drop];omega⟩
 ·exact ⟨h,Nat.le_refl _⟩
theorem Gi:¬eQ=emp:=by decide
theorem KG:¬qp=emp:=by decide
theorem qn:¬fJ=emp:=by decide
def NiceR (l:List Tok) (r:RdR OpV):Prop:=match r with
 | .ok (o,r)=>okO o∧RdOk r∧r.length≤l.length
 | .error e=>e≠0
theorem NiceR.mono {l l':List Tok} {r:RdR OpV} (h:NiceR l r) (hl:l.length≤l'.length):NiceR l' r:=by
 unfold NiceR at *
 split at h
 ·exact ⟨h.1,h.2.1,Nat.le_trans h.2.2 hl⟩
 ·exact h
theorem Ia {o:OpV} {l:List Tok} (ho:okO o) (h:RdOk l):NiceR l (Cq o l):=by
 unfold Cq
 rcases h1:changedR o 12 (-1) l with e | ⟨o',l1⟩
 ·exact sW h h1
 ·obtain ⟨g1,g2,a,b,rfl⟩:=vi h h1
  simp only
  split
  ·show (100:Int)≠0;decide
  ·rcases h2:mustR qp l1 with e | l2
   ·have:=kZ h2;show e≠0;omega
   ·obtain ⟨g3,g4,-,-⟩:=fV KG g1 h2
    exact ⟨xP ho rfl rfl rfl,g3,by omega⟩
theorem Im {o:OpV} {l:List Tok} (h:RdOk l):NiceR l (EH o l):=by
 unfold EH
 rcases h1:valueR l with e | ⟨v,l1⟩
 ·exact jY h h1
 ·obtain ⟨g0,g1,g2⟩:=jj h h1
  simp only
  rcases h2:mustR qp l1 with e | l2
  ·have:=kZ h2;show e≠0;omega
  ·obtain ⟨g3,g4,-,-⟩:=fV KG g1 h2
   exact ⟨mp g0 rfl rfl rfl,g3,by omega⟩
theorem IY {o:OpV} {l:List Tok} (h:RdOk l):NiceR l (E2 o l):=by
 unfold E2
 rcases h0:mustR eQ l with e | l0
 ·have:=kZ h0;show e≠0;omega
 obtain ⟨k0,k1,-,-⟩:=fV Gi h h0
 simp only
 rcases h1:valueR l0 with e | ⟨v,l1⟩
 ·exact jY k0 h1
 ·obtain ⟨g0,g1,g2⟩:=jj k0 h1
  simp only
  rcases h2:mustR qp l1 with e | l2
  ·have:=kZ h2;show e≠0;omega
  ·obtain ⟨g3,g4,-,-⟩:=fV KG g1 h2
   obtain ⟨g5,g6⟩:=yg (s:=F4) g3
   simp only
   split
   ·exact ⟨mp g0 rfl rfl rfl,g5,by omega⟩
   ·exact ⟨mp g0 rfl rfl rfl,g3,by omega⟩
theorem Az {o:OpV} {l:List Tok} (ho:okO o) (h:RdOk l):NiceR l (pk o l):=by
 unfold pk
 rcases h0:mustR fJ l with e | l0
 ·have:=kZ h0;show e≠0;omega
 obtain ⟨k0,k1,-,-⟩:=fV qn h h0
 simp only
 split
 ·exact (Ia (xP (o:={ o with mode:=3,m:=(j5 l0).1,md:=1,amt := -1 }) ho rfl rfl rfl) (k0.drop 1)).mono (by rw [List.length_drop];omega)
 ·rcases h1:loR l0 with e | ⟨b,l1⟩
  ·exact Gr h1
  ·obtain ⟨g1,g2⟩:=CA k0 h1
   simp only
   split
   ·exact (Im g1).mono (by omega)
   ·exact (IY g1).mono (by omega)
theorem E0 {o:OpV} {l:List Tok} (ho:okO o) (h:RdOk l):NiceR l (xZ o l):=by
 unfold xZ
 split
 ·rcases h1:valueR (l.drop 2) with e | ⟨v,l1⟩
  ·exact jY (h.drop 2) h1
  ·obtain ⟨g0,g1,g2⟩:=jj (h.drop 2) h1
   rw [List.length_drop] at g2
   exact ⟨mp g0 rfl rfl rfl,g1,by omega⟩
 ·exact ⟨ho,h,Nat.le_refl _⟩
theorem A4 {l:List Tok} (h:RdOk l):NiceR l (je l):=by
 obtain ⟨g1,g2⟩:=ya h
 obtain ⟨g3,g4⟩:=yg (s:=qp) g1
 have ho:okO (EK (j5 l).1):=xQ rfl rfl rfl
 unfold je
 split
 ·show (100:Int)≠0;decide
 ·split
  ·exact (E0 ho g3).mono (by omega)
  ·exact (Az ho g1).mono (by omega)
theorem yc {s:ByteArray}:∀ {t:List (Int×Int)} {o:OpV},rsvdF s t=some o→∃ kd k,(kd,k)∈t∧(bM 3 kd s).2=0∧o=Cv k (bM 3 kd s).1
 | [],o,h=>by cases h
 | (kd,k)::r,o,h=>by
  rw [rsvdF] at h
  split at h
  ·rename_i hc
   injection h with h
   exact ⟨kd,k,by simp,hc,h.symm⟩
  ·obtain ⟨a,b,h1,h2⟩:=yc h
   exact ⟨a,b,by simp [h1],h2⟩
def JS (l:List Tok) (r:RdR OpV):Prop:=match r with
 | .ok (o,r)=>okO o∧RdOk r∧r.length<l.length
 | .error e=>e≠0
theorem NiceR.less {l l':List Tok} {r:RdR OpV} (h:NiceR l r) (hl:l.length<l'.length):JS l' r:=by
 unfold NiceR at h
 unfold JS
 split at h
 ·exact ⟨h.1,h.2.1,Nat.lt_of_le_of_lt h.2.2 hl⟩
 ·exact h
theorem rE {o:OpV} {most nn:Int} {l:List Tok} (ho:okO o) (h:RdOk l):NiceR l (changedR o most nn l):=by
 rcases h1:changedR o most nn l with e | ⟨o',l1⟩
 ·exact sW h h1
 ·obtain ⟨g1,g2,a,b,rfl⟩:=vi h h1
  exact ⟨xP ho rfl rfl rfl,g1,g2⟩
theorem ME:¬(jD 3 emp).2=0:=by decide +kernel
theorem I4 {l:List Tok} (h:(j5 l).2=true):1≤l.length∧(jD 3 (atF l 1 0)).2=0∧j5 l=((jD 3 (atF l 1 0)).1,true):=by
 unfold j5 at h ⊢
 split at h
 ·rename_i hc
  have:=jN (l:=l) (k:=1) (n:=0) (fun e=>ME (by rw [← e];exact hc))
  exact ⟨by omega,hc,by rw [if_pos hc]⟩
 ·cases h
theorem xU {l:List Tok} (h:RdOk l):JS l (operR l):=by
 have one:∀ {s:ByteArray},¬s=emp→atF l 4 0=s→(l.drop 1).length<l.length:=fun hs e=>by
  have:=jN (l:=l) (k:=4) (n:=0) (by rw [e];exact hs)
  rw [List.length_drop];omega
 unfold operR
 split
 ·rename_i hr
  have:=(I4 hr).1
  exact (rE (xQ rfl rfl rfl) (h.drop 1)).less (by rw [List.length_drop];omega)
 split
 ·rename_i h1
  exact (A4 (h.drop 1)).less (one (by decide) h1)
 split
 ·rename_i h1
  unfold xk
  have hl:=one Gi h1
  rcases hv:valueR (l.drop 1) with e | ⟨v,l1⟩
  ·exact jY (h.drop 1) hv
  ·obtain ⟨g0,g1,g2⟩:=jj (h.drop 1) hv
   exact (rE (mp g0 rfl rfl rfl) g1).less (by omega)
 rcases h1:loR l with e | ⟨b,l1⟩
 ·exact Gr h1
 obtain ⟨g1,g2⟩:=CA h h1
 cases b with
 | true =>
  simp only
  rcases hv:valueR l1 with e | ⟨v,l2⟩
  ·exact jY g1 hv
  ·obtain ⟨k0,k1,k2⟩:=jj g1 hv
   exact ⟨mp k0 rfl rfl rfl,k1,by omega⟩
 | false =>
  simp only
  split
  ·rename_i hw
   unfold eB
   rcases hs:rsvdF (atF l1 1 0) pZ with _ | o
   ·show (100:Int)≠0;decide
   ·obtain ⟨kd,k,-,-,rfl⟩:=yc hs
    have:=jN hw.1
    exact ⟨xQ rfl rfl rfl,g1.drop 1,by rw [List.length_drop];omega⟩
  ·rcases hv:valueR l1 with e | ⟨v,l2⟩
   ·exact jY g1 hv
   ·obtain ⟨k0,k1,k2⟩:=jj g1 hv
    refine ⟨?_,k1,by omega⟩
    split
    ·exact mp k0 rfl rfl rfl
    ·exact mp k0 rfl rfl rfl
theorem CT {l r:List Tok} {o:OpV} (h:RdOk l) (e:operR l=.ok (o,r)):okO o∧RdOk r∧r.length<l.length:=by
 have:=xU h
 rw [e] at this
 exact this
theorem IQ {l:List Tok} {x:Int} (h:RdOk l) (e:operR l=.error x):x≠0:=by
 have:=xU h
 rw [e] at this
 exact this
structure qd (out:List OpV):Prop where
 few:out.length≤8
 all:∀ o∈out,okO o∧iD o=0
theorem tX {out out':List OpV} {l r:List Tok} (h:RdOk l) (ho:qd out) (e:stepR out l=.ok (out',r)):qd out'∧RdOk r∧r.length<l.length∧∃ o,out'=out++[o]:=by
 unfold stepR at e
 split at e
 ·cases e
 ·rename_i l1 h1
  have k1:RdOk l1∧l1.length≤l.length:=by
   split at h1
   ·injection h1 with h1;subst h1;exact ⟨h,Nat.le_refl _⟩
   ·obtain ⟨g1,g2,-,-⟩:=fV qn h h1
    exact ⟨g1,by omega⟩
  split at e
  ·cases e
  ·rename_i h8
   split at e
   ·cases e
   ·rename_i o l2 h2
    obtain ⟨g1,g2,g3⟩:=CT k1.1 h2
    split at e
    ·cases e
    ·rename_i hc
     split at e
     ·cases e
     ·injection e with e
      injection e with e1 e2
      subst e1 e2
      refine ⟨⟨?_,?_⟩,g2,by omega,o,rfl⟩
      ·have:=ho.few
       rw [List.length_append,List.length_singleton]
       omega
      ·intro p hp
       rw [List.mem_append,List.mem_singleton] at hp
       rcases hp with hp | rfl
       ·exact ho.all p hp
       ·exact ⟨g1,Decidable.not_not.1 hc⟩
theorem Jm {out:List OpV} {l:List Tok} {x:Int} (h:RdOk l) (e:stepR out l=.error x):x≠0:=by
 unfold stepR at e
 split at e
 ·rename_i y h1
  injection e with e
  subst e
  split at h1
  ·cases h1
  ·have:=kZ h1;omega
 ·rename_i l1 h1
  have k1:RdOk l1:=by
   split at h1
   ·injection h1 with h1;subst h1;exact h
   ·exact (fV qn h h1).1
  split at e
  ·injection e with e;omega
  ·split at e
   ·rename_i y h2
    injection e with e
    subst e
    exact IQ k1 h2
   ·split at e
    ·rename_i hc
     injection e with e
     subst e
     exact hc
    ·split at e
     ·injection e with e;omega
     ·cases e
theorem iQ (N:Nat) (out:List OpV):gZ N out []=.ok out:=by
 cases N<;>rw [gZ]
theorem g9 {N:Nat} {out:List OpV} {l:List Tok} (hl:l≠[]):gZ (N+1) out l=match stepR out l with
  | .error e=>.error e
  | .ok (out,l)=>gZ N out l:=by
 cases l with
 | nil=>exact absurd rfl hl
 | cons t r=>rfl
theorem pK:∀ {N:Nat} {out:List OpV} {l:List Tok},RdOk l→qd out→l.length≤N→gZ N out l=gZ l.length out l
 | 0,out,l,_,_,hn=>by
  obtain rfl:l=[]:=List.eq_nil_of_length_eq_zero (by omega)
  rfl
 | N+1,out,[],_,_,_=>by rw [iQ,iQ]
 | N+1,out,t::r,h,ho,hn=>by
  rw [List.length_cons,g9 (by simp),g9 (by simp)]
  rcases hs:stepR out (t::r) with e | ⟨out',l'⟩
  ·rfl
  ·obtain ⟨g1,g2,g3,-⟩:=tX h ho hs
   simp only
   rw [List.length_cons] at g3 hn
   rw [pK g2 g1 (by omega)]
   exact (pK g2 g1 (by omega)).symm
theorem x6:∀ {N:Nat} {out out':List OpV} {l:List Tok},RdOk l→qd out→gZ N out l=.ok out'→qd out'
 | 0,out,out',l,h,ho,e=>by
  cases l with
  | nil=>rw [iQ] at e;injection e with e;subst e;exact ho
  | cons t r=>cases e
 | N+1,out,out',[],_,ho,e=>by rw [iQ] at e;injection e with e;subst e;exact ho
 | N+1,out,out',t::r,h,ho,e=>by
  rw [g9 (by simp)] at e
  rcases hs:stepR out (t::r) with x | ⟨o2,l'⟩
  ·rw [hs] at e;cases e
  ·rw [hs] at e
   obtain ⟨g1,g2,-,-⟩:=tX h ho hs
   exact x6 g2 g1 e
theorem uH:qd []:=⟨by simp,fun o h=>by simp at h⟩
theorem Lj {l:List Tok} {out:List OpV} (h:RdOk l) (e:listF l=.ok out):qd out:=x6 h uH e
theorem vL:∀ {N:Nat} {out:List OpV} {l:List Tok} {x:Int},RdOk l→qd out→gZ N out l=.error x→x≠0
 | 0,out,l,x,h,ho,e=>by
  cases l with
  | nil=>rw [iQ] at e;cases e
  | cons t r =>
   have e:(.error 100:Except Int (List OpV))=.error x:=e
   injection e with e
   omega
 | N+1,out,[],x,_,ho,e=>by rw [iQ] at e;cases e
 | N+1,out,t::r,x,h,ho,e=>by
  rw [g9 (by simp)] at e
  rcases hs:stepR out (t::r) with y | ⟨o2,l'⟩
  ·rw [hs] at e;injection e with e;subst e;exact Jm h hs
  ·rw [hs] at e
   obtain ⟨g1,g2,-,-⟩:=tX h ho hs
   exact vL g2 g1 e
theorem Ii {l:List Tok} {x:Int} (h:RdOk l) (e:listF l=.error x):x≠0:=vL h uH e
end Go.Proofs.YtnhbidpdadkcjaaGreatDoor
namespace Go.Proofs.YtnhbidpdadkcjaaGreatDoor.Ex
open Go.RowKit
theorem xL {l:List Tok} {s:PS}:nextF (l.map fA) s=nextF l s:=by
 unfold nextF
 rw [List.getElem?_map]
 cases l[s.at_]?<;>rfl
theorem tR {l:List Tok} {read:PS→PR} {kinds:List Int}:∀ (m:Nat) (s:PS),gw (l.map fA) read kinds m s=gw l read kinds m s
 | 0,s=>rfl
 | m+1,s=>by
  simp only [gw,xL,tR m]
theorem I7 {l:List Tok} {read:PS→PR} {kinds:List Int}:fB (l.map fA) read kinds=fB l read kinds:=by
 funext s
 unfold fB
 simp only [List.length_map,tR]
theorem tC {l:List Tok} {read:PS→PR}:jH (l.map fA) read=jH l read:=by
 unfold jH
 simp only [I7]
theorem rI {l:List Tok}:∀ N:Nat,cv (l.map fA) N=cv l N
 | 0=>by funext s;rfl
 | N+1=>by
  funext s
  rw [cv,cv,List.getElem?_map]
  cases l[s.at_]? with
  | none=>rfl
  | some t =>
   simp only [Option.map_some,rI N,tC,xL]
   rfl
theorem parseF_bare {l:List Tok}:parseF (l.map fA)=parseF l:=by
 unfold parseF
 rw [List.length_map,tC,rI]
end Go.Proofs.YtnhbidpdadkcjaaGreatDoor.Ex
namespace Go.Proofs.YtnhbidpdadkcjaaGreatDoor
open Go.RowKit
def ic {α:Type}:RdR α→RdR α
 | .ok (x,l)=>.ok (x,l.map fA)
 | .error e=>.error e
def vy:Except Int (List Tok)→Except Int (List Tok)
 | .ok l=>.ok (l.map fA)
 | .error e=>.error e
theorem ib {l:List Tok} {k:Int} {n:Nat}:atF (l.map fA) k n=atF l k n:=by
 unfold atF
 rw [List.getElem?_map]
 cases l[n]?<;>rfl
theorem eW {l:List Tok} {n:Nat}:(l.map fA).drop n=(l.drop n).map fA:=(List.map_drop).symm
theorem jV {s:ByteArray} {l:List Tok}:mustR s (l.map fA)=vy (mustR s l):=by
 unfold mustR
 rw [ib,eW]
 split<;>rfl
theorem gN {l:List Tok}:valueR (l.map fA)=ic (valueR l):=by
 unfold valueR
 rw [Ex.parseF_bare]
 cases Ex.parseF l with
 | error e=>rfl
 | ok s =>
  simp only [eW]
  split<;>rfl
theorem BV {l:List Tok}:countR (l.map fA)=ic (countR l):=by
 unfold countR
 rw [jV]
 cases mustR eQ l with
 | error e=>rfl
 | ok l1 =>
  simp only [vy,gN]
  rcases valueR l1 with e | ⟨v,l2⟩
  ·rfl
  ·simp only [ic]
   split<;>rfl
theorem nY {o:OpV} {most nn:Int} {l:List Tok}:changedR o most nn (l.map fA)=ic (changedR o most nn l):=by
 unfold changedR
 simp only [ib,eW,BV]
 split
 ·rfl
 ·split
  ·rcases countR (l.drop 2) with e | ⟨k,l'⟩<;>rfl
  ·rfl
theorem Cz {l:List Tok}:loR (l.map fA)=ic (loR l):=by
 unfold loR
 simp only [ib,eW]
 split
 ·rfl
 ·split<;>rfl
theorem pM {l:List Tok}:j5 (l.map fA)=j5 l:=by unfold j5;rw [ib]
theorem yf {s:ByteArray} {l:List Tok}:bW s (l.map fA)=((bW s l).1,(bW s l).2.map fA):=by
 unfold bW
 rw [ib,eW]
 split<;>rfl
theorem x9 {l:List Tok}:(aQ (l.map fA)).2=(aQ l).2.map fA:=by
 unfold aQ
 rw [pM,eW]
 split<;>rfl
theorem H9 {o:OpV} {l:List Tok}:Cq o (l.map fA)=ic (Cq o l):=by
 unfold Cq
 rw [nY]
 rcases changedR o 12 (-1) l with e | ⟨o',l1⟩
 ·rfl
 ·simp only [ic,jV]
  split
  ·rfl
  ·rcases mustR qp l1 with e | l2<;>rfl
theorem Il {o:OpV} {l:List Tok}:EH o (l.map fA)=ic (EH o l):=by
 unfold EH
 rw [gN]
 rcases valueR l with e | ⟨v,l1⟩
 ·rfl
 ·simp only [ic,jV]
  rcases mustR qp l1 with e | l2<;>rfl
theorem IX {o:OpV} {l:List Tok}:E2 o (l.map fA)=ic (E2 o l):=by
 unfold E2
 rw [jV]
 rcases mustR eQ l with e | l0
 ·rfl
 ·simp only [vy,gN]
  rcases valueR l0 with e | ⟨v,l1⟩
  ·rfl
  ·simp only [ic,jV]
   rcases mustR qp l1 with e | l2
   ·rfl
   ·simp only [vy,yf]
    split<;>rfl
theorem Ay {o:OpV} {l:List Tok}:pk o (l.map fA)=ic (pk o l):=by
 unfold pk
 rw [jV]
 rcases mustR fJ l with e | l0
 ·rfl
 ·simp only [vy,pM,eW,H9,Cz]
  split
  ·rfl
  ·rcases loR l0 with e | ⟨b,l1⟩
   ·rfl
   ·simp only [ic,Il,IX]
    split<;>rfl
theorem EZ {o:OpV} {l:List Tok}:xZ o (l.map fA)=ic (xZ o l):=by
 unfold xZ
 simp only [ib,eW,gN]
 split
 ·rcases valueR (l.drop 2) with e | ⟨v,l1⟩<;>rfl
 ·rfl
theorem A0 {l:List Tok}:je (l.map fA)=ic (je l):=by
 unfold je
 simp only [pM,x9,yf,EZ,Ay]
 split
 ·rfl
 ·split<;>rfl
theorem yb {s:ByteArray} {l:List Tok}:eB s (l.map fA)=ic (eB s l):=by
 unfold eB
 rw [eW]
 cases rsvdF s pZ<;>rfl
theorem Eo {l:List Tok}:xk (l.map fA)=ic (xk l):=by
 unfold xk
 rw [gN]
 rcases valueR l with e | ⟨v,l1⟩
 ·rfl
 ·simp only [ic,nY]
theorem ES {l:List Tok}:operR (l.map fA)=ic (operR l):=by
 unfold operR
 simp only [pM,eW,nY,ib,A0,Eo,Cz]
 split
 ·rfl
 split
 ·rfl
 split
 ·rfl
 rcases loR l with e | ⟨b,l1⟩
 ·rfl
 cases b with
 | true =>
  simp only [ic,gN]
  rcases valueR l1 with e | ⟨v,l2⟩<;>rfl
 | false =>
  simp only [ic,ib,yb,gN]
  split
  ·rfl
  ·rcases valueR l1 with e | ⟨v,l2⟩<;>rfl
theorem FG {out:List OpV} {l:List Tok}:stepR out (l.map fA)=ic (stepR out l):=by
 unfold stepR
 rw [jV]
 have e:(if out=[] then (.ok (l.map fA):Except Int (List Tok)) else vy (mustR fJ l))=vy (if out=[] then .ok l else mustR fJ l):=by split<;>rfl
 rw [e]
 rcases (if out=[] then .ok l else mustR fJ l:Except Int (List Tok)) with e | l1
 ·rfl
 ·simp only [vy,ES]
  split
  ·rfl
  ·rcases operR l1 with e | ⟨o,l2⟩
   ·rfl
   ·simp only [ic]
    split
    ·rfl
    ·split<;>rfl
theorem tQ:∀ {N:Nat} {out:List OpV} {l:List Tok},gZ N out (l.map fA)=gZ N out l
 | N,out,[]=>rfl
 | 0,out,t::r=>rfl
 | N+1,out,t::r=>by
  rw [g9 (by simp),g9 (by simp),FG]
  rcases stepR out (t::r) with e | ⟨out',l'⟩
  ·rfl
  ·exact tQ
theorem EE {l:List Tok}:listF (l.map fA)=listF l:=by
 unfold listF
 rw [List.length_map,tQ]
end Go.Proofs.YtnhbidpdadkcjaaGreatDoor
namespace Go.Proofs.YtnhbidpdadkcjaaGreatDoor.Ex
open Go.RowKit
section
variable {l:List Tok} {read:PS→PR} {p q z:Nat} {a c:List Term} {d:Int}
end
end Go.Proofs.YtnhbidpdadkcjaaGreatDoor.Ex
namespace Go.Proofs.YtnhbidpdadkcjaaGreatDoor
open Go.RowKit
end Go.Proofs.YtnhbidpdadkcjaaGreatDoor
