import Derived.Test.YthcoegkfpinlfaaGreatDoorJ28
import Derived.Test.YthcoegkfpinlfaaGreatDoorJ29
import Derived.Test.YthcoegkfpinlfaaGreatDoorJ30
set_option linter.unusedVariables false
set_option linter.unusedSimpArgs false
set_option maxRecDepth 100000
set_option maxHeartbeats 8000000
namespace Go.Proofs.YthcoegkfpinlfaaGreatDoor
open Go.RowKit
abbrev RdR (α:Type):=Except Int (α×List Tok)
def dE:ByteArray:=⟨#[93]⟩
def AN:ByteArray:=⟨#[91]⟩
def aY:ByteArray:=⟨#[44]⟩
def dO:ByteArray:=⟨#[58]⟩
def rD:ByteArray:=⟨#[33]⟩
def lR:ByteArray:=⟨#[108,111,49,50]⟩
def atF (l:List Tok) (k:Int) (n:Nat):ByteArray:=match l[n]? with
 | some t=>if t.kind=k then t.text else emp
 | none=>emp
def br (s:ByteArray) (l:List Tok):Bool×List Tok:=if atF l 4 0=s then (true,l.drop 1) else (false,l)
def mustR (s:ByteArray) (l:List Tok):Except Int (List Tok):=if atF l 4 0=s then .ok (l.drop 1) else .error 100
def valueR (l:List Tok):RdR Val:=match Ex.parseF l with
 | .error e=>.error e
 | .ok s=>if (Ex.evalAll s.ts).2=0 then .ok ((Ex.evalAll s.ts).1,l.drop s.at_) else .error (Ex.evalAll s.ts).2
def countR (l:List Tok):RdR Int:=match mustR bc l with
 | .error e=>.error e
 | .ok l=>match valueR l with
  | .error e=>.error e
  | .ok (v,l)=>if (v.plus=emp∧v.minus=emp)∧0≤v.add∧v.add≤63 then .ok (v.add,l) else .error 100
def changedR (o:OpV) (most none:Int) (l:List Tok):RdR OpV :=
 if ¬atF l 4 0=aY∨¬(ap 3 3 (atF l 1 1)).2=0∨most<(ap 3 3 (atF l 1 1)).1 then .ok (o,l)
 else if (ap 3 3 (atF l 1 1)).1≤4∨atF (l.drop 2) 4 0=bc then match countR (l.drop 2) with
  | .error e=>.error e
  | .ok (k,l')=>.ok ({ o with md:=(ap 3 3 (atF l 1 1)).1,amt:=k },l')
 else .ok ({ o with md:=(ap 3 3 (atF l 1 1)).1,amt:=none },l.drop 2)
def loR (l:List Tok):Except Int (Bool×List Tok) :=
 if ¬atF l 4 0=dO then .ok (false,l) else if ¬atF l 1 1=lR∨¬atF l 4 2=dO then .error 100 else .ok (true,l.drop 3)
def gJ (l:List Tok):hP×Bool:=if (fm 3 (atF l 1 0)).2=0 then ((fm 3 (atF l 1 0)).1,true) else (r0,false)
def au (l:List Tok):(hP×Bool)×List Tok:=(gJ l,if (gJ l).2=true then l.drop 1 else l)
def lh (o:OpV) (v:Val):OpV:={ o with add:=v.add,plus:=v.plus,minus:=v.minus }
def la (r:hP):OpV:=⟨5,r,r0,0,0,0,0,emp,emp,false,0⟩
def uh (o:OpV) (l:List Tok):RdR OpV:=match changedR o 12 (-1) l with
 | .error e=>.error e
 | .ok (o,l)=>if d5 o=false then .error 100 else match mustR dE l with
  | .error e=>.error e
  | .ok l=>.ok (o,l)
def vO (o:OpV) (l:List Tok):RdR OpV:=match valueR l with
 | .error e=>.error e
 | .ok (v,l)=>match mustR dE l with
  | .error e=>.error e
  | .ok l=>.ok ({ lh o v with lo:=true },l)
def wm (o:OpV) (l:List Tok):RdR OpV:=match mustR bc l with
 | .error e=>.error e
 | .ok l=>match valueR l with
  | .error e=>.error e
  | .ok (v,l)=>match mustR dE l with
   | .error e=>.error e
   | .ok l=>if (br rD l).1=true then .ok ({ lh o v with mode:=1 },(br rD l).2) else .ok (lh o v,l)
def gz (o:OpV) (l:List Tok):RdR OpV:=match mustR aY l with
 | .error e=>.error e
 | .ok l=>if (gJ l).2=true then uh { o with mode:=3,m:=(gJ l).1,md:=1,amt := -1 } (l.drop 1) else match loR l with
  | .error e=>.error e
  | .ok (b,l)=>if b=true then vO o l else wm o l
def nr (o:OpV) (l:List Tok):RdR OpV:=if atF l 4 0=aY∧atF l 4 1=bc then match valueR (l.drop 2) with
  | .error e=>.error e
  | .ok (v,l)=>.ok ({ lh o v with mode:=2 },l)
 else .ok (o,l)
def fg (l:List Tok):RdR OpV :=
 if eN (la (gJ l).1)=false then .error 100
 else if (br dE (au l).2).1=true then nr (la (gJ l).1) ((br dE (au l).2).2)
 else gz (la (gJ l).1) (au l).2
def ju (k n:Int):OpV:=⟨k,r0,r0,0,0,n,0,emp,emp,false,0⟩
def rsvdF (s:ByteArray):List (Int×Int)→Option OpV
 | []=>none
 | (kd,k)::r=>if (ap 3 kd s).2=0 then some (ju k (ap 3 kd s).1) else rsvdF s r
def jY:List (Int×Int):=[(2,4),(4,7),(6,6),(7,8),(8,9)]
def cJ (s:ByteArray) (l:List Tok):RdR OpV:=match rsvdF s jY with
 | some o=>.ok (o,l.drop 1)
 | none=>.error 100
def iI (v:Val) (lo:Bool):OpV:=⟨2,r0,r0,0,0,0,v.add,v.plus,v.minus,lo,0⟩
def toV (v:Val):OpV:=⟨3,r0,r0,0,0,0,v.add,v.plus,v.minus,false,0⟩
def m9 (l:List Tok):RdR OpV:=match valueR l with
 | .error e=>.error e
 | .ok (v,l)=>changedR (iI v false) 1 0 l
def operR (l:List Tok):RdR OpV :=
 if (gJ l).2=true then changedR ⟨1,(gJ l).1,r0,0,0,0,0,emp,emp,false,0⟩ 12 0 (l.drop 1)
 else if atF l 4 0=AN then fg (l.drop 1)
 else if atF l 4 0=bc then m9 (l.drop 1)
 else match loR l with
  | .error e=>.error e
  | .ok (true,l)=>(match valueR l with
   | .error e=>.error e
   | .ok (v,l)=>.ok (iI v true,l))
  | .ok (false,l) =>
   if ¬atF l 1 0=emp∧iE 3 (atF l 1 0)=true then cJ (atF l 1 0) l
   else match valueR l with
    | .error e=>.error e
    | .ok (v,l)=>.ok (if v.plus=emp∧v.minus=emp then iI v false else toV v,l)
def qx (out:List OpV) (o:OpV):Bool:=match out.getLast? with
 | some q=>fE q o
 | none=>false
def stepR (out:List OpV) (l:List Tok):RdR (List OpV) :=
 match (if out=[] then .ok l else mustR aY l) with
 | .error e=>.error e
 | .ok l=>if out.length=8 then .error 3 else match operR l with
  | .error e=>.error e
  | .ok (o,l)=>if ¬fi o=0 then .error (fi o) else if qx out o=true then .error 100 else .ok (out++[o],l)
def fO:Nat→List OpV→List Tok→Except Int (List OpV)
 | _,out,[]=>.ok out
 | 0,_,_=>.error 100
 | N+1,out,l=>match stepR out l with
  | .error e=>.error e
  | .ok (out,l)=>fO N out l
def ii (l:List Tok):Except Int (List OpV):=fO l.length [] l
end Go.Proofs.YthcoegkfpinlfaaGreatDoor
namespace Go.Proofs.YthcoegkfpinlfaaGreatDoor
open Go.RowKit
structure RdOk (l:List Tok):Prop where
 named:Ex.Named l
 few:l.length≤1000000
theorem RdOk.drop {l:List Tok} (h:RdOk l) (n:Nat):RdOk (l.drop n) :=
 ⟨fun t ht=>h.named t (List.mem_of_mem_drop ht),by rw [List.length_drop];have:=h.few;omega⟩
theorem zzu5 {l:List Tok} (h:RdOk l) (n:Nat):(atF l 1 n).size≤512:=by
 unfold atF
 split
 ·rename_i t ht
  split
  ·rename_i hk
   have h1:=h.named t (List.mem_of_getElem? ht) hk
   unfold dQ at h1
   simp only [Bool.and_eq_true,decide_eq_true_eq] at h1
   exact h1.1
  ·decide
 ·decide
theorem lI {l:List Tok} {k:Int} {n:Nat} (h:¬atF l k n=emp):n<l.length:=by
 unfold atF at h
 split at h
 ·rename_i t ht;exact (List.getElem?_eq_some_iff.1 ht).1
 ·exact absurd rfl h
theorem zC {s:Ex.PS} (h1:dM s.ts=0) (h2:∀ t∈s.ts,gq t=true) (h3:Ex.Rgs s.ts):Ex.GoodV (Ex.evalAll s.ts).1:=by
 unfold Ex.evalAll
 rw [if_pos h1]
 exact Ex.goodEval s.ts [] (fun v hv=>by simp at hv) h2 h3
theorem ud {l:List Tok} (h:RdOk l):match valueR l with
  | .ok (v,r)=>Ex.GoodV v∧∃ n,1≤n∧n≤l.length∧r=l.drop n
  | .error e=>e≠0:=by
 have h1:=Ex.parseF_nice h.named
 unfold valueR
 cases hp:Ex.parseF l with
 | error e=>rw [hp] at h1;exact h1
 | ok s =>
  rw [hp] at h1
  obtain ⟨g1,g2,g3,g4,g5⟩:=h1
  simp only
  by_cases h0:(Ex.evalAll s.ts).2=0
  ·rw [if_pos h0]
   exact ⟨zC g1 g2 (Ex.parseF_keep hp),s.at_,g3,g4,rfl⟩
  ·rw [if_neg h0];exact h0
theorem iL {l r:List Tok} {v:Val} (h:RdOk l) (e:valueR l=.ok (v,r)):Ex.GoodV v∧RdOk r∧r.length<l.length:=by
 have h1:=ud h
 rw [e] at h1
 obtain ⟨g,n,n1,n2,rfl⟩:=h1
 exact ⟨g,h.drop n,by rw [List.length_drop];omega⟩
theorem jm {l:List Tok} {x:Int} (h:RdOk l) (e:valueR l=.error x):x≠0:=by
 have h1:=ud h
 rw [e] at h1
 exact h1
theorem eH {s:ByteArray} {l r:List Tok} (hs:¬s=emp) (h:RdOk l) (e:mustR s l=.ok r):RdOk r∧r.length<l.length∧atF l 4 0=s∧r=l.drop 1:=by
 unfold mustR at e
 split at e
 ·rename_i hx
  injection e with e
  subst e
  have:=lI (l:=l) (k:=4) (n:=0) (by rw [hx];exact hs)
  exact ⟨h.drop 1,by rw [List.length_drop];omega,hx,rfl⟩
 ·cases e
theorem kn {s:ByteArray} {l:List Tok} {x:Int} (e:mustR s l=.error x):x=100:=by
 unfold mustR at e
 split at e
 ·cases e
 ·injection e with e;exact e.symm
theorem GZ {l r:List Tok} {k:Int} (h:RdOk l) (e:countR l=.ok (k,r)):(0≤k∧k≤63)∧RdOk r∧r.length<l.length:=by
 unfold countR at e
 split at e
 ·cases e
 ·rename_i l1 h1
  obtain ⟨g1,g2,-,-⟩:=eH (by decide) h h1
  split at e
  ·cases e
  ·rename_i v l2 h2
   obtain ⟨g3,g4,g5⟩:=iL g1 h2
   split at e
   ·rename_i hc
    injection e with e
    injection e with e1 e2
    subst e1 e2
    exact ⟨⟨hc.2.1,hc.2.2⟩,g4,by omega⟩
   ·cases e
theorem Dz {l:List Tok} {x:Int} (h:RdOk l) (e:countR l=.error x):x≠0:=by
 unfold countR at e
 split at e
 ·rename_i y h1
  injection e with e
  have:=kn h1
  omega
 ·rename_i l1 h1
  obtain ⟨g1,g2,-,-⟩:=eH (by decide) h h1
  split at e
  ·rename_i y h2
   injection e with e
   subst e
   exact jm g1 h2
  ·split at e
   ·cases e
   ·injection e with e;omega
end Go.Proofs.YthcoegkfpinlfaaGreatDoor
namespace Go.Proofs.YthcoegkfpinlfaaGreatDoor
open Go.RowKit
theorem lm {o:OpV} {v:Val} (h:Ex.GoodV v) (h1:o.add=v.add) (h2:o.plus=v.plus) (h3:o.minus=v.minus):okO o:=by
 have h4:=Ex.goodSize h
 refine ⟨⟨by rw [h2];omega,by rw [h3];omega⟩,by rw [h1];exact h.lo,by rw [h1];exact h.hi⟩
theorem pG {o:OpV} (h1:o.add=0) (h2:o.plus=emp) (h3:o.minus=emp):okO o:=lm Ex.goodZero h1 h2 h3
theorem rY {o p:OpV} (h:okO p) (h1:o.add=p.add) (h2:o.plus=p.plus) (h3:o.minus=p.minus):okO o:=by
 unfold okO at *
 rw [h1,h2,h3]
 exact h
theorem pk {o o':OpV} {most nn:Int} {l r:List Tok} (h:RdOk l) (e:changedR o most nn l=.ok (o',r)):RdOk r∧r.length≤l.length∧∃ a b,o'={ o with md:=a,amt:=b }:=by
 unfold changedR at e
 split at e
 ·injection e with e
  injection e with e1 e2
  subst e1 e2
  exact ⟨h,Nat.le_refl _,o.md,o.amt,rfl⟩
 ·split at e
  ·split at e
   ·cases e
   ·rename_i k l' hc
    injection e with e
    injection e with e1 e2
    subst e1 e2
    obtain ⟨-,g1,g2⟩:=GZ (h.drop 2) hc
    rw [List.length_drop] at g2
    exact ⟨g1,by omega,_,_,rfl⟩
  ·injection e with e
   injection e with e1 e2
   subst e1 e2
   exact ⟨h.drop 2,by rw [List.length_drop];omega,_,_,rfl⟩
theorem rF {o:OpV} {most nn:Int} {l:List Tok} {x:Int} (h:RdOk l) (e:changedR o most nn l=.error x):x≠0:=by
 unfold changedR at e
 split at e
 ·cases e
 ·split at e
  ·split at e
   ·rename_i y hc
    injection e with e
    subst e
    exact Dz (h.drop 2) hc
   ·cases e
  ·cases e
theorem Bw {l r:List Tok} {b:Bool} (h:RdOk l) (e:loR l=.ok (b,r)):RdOk r∧r.length≤l.length:=by
 unfold loR at e
 split at e
 ·injection e with e;injection e with e1 e2;subst e2;exact ⟨h,Nat.le_refl _⟩
 ·split at e
  ·cases e
  ·injection e with e;injection e with e1 e2;subst e2;exact ⟨h.drop 3,by rw [List.length_drop];omega⟩
theorem FW {l:List Tok} {x:Int} (e:loR l=.error x):x≠0:=by
 unfold loR at e
 split at e
 ·cases e
 ·split at e
  ·injection e with e;omega
  ·cases e
theorem wL {s:ByteArray} {l:List Tok} (h:RdOk l):RdOk (br s l).2∧(br s l).2.length≤l.length:=by
 unfold br
 split
 ·exact ⟨h.drop 1,by rw [List.length_drop];omega⟩
 ·exact ⟨h,Nat.le_refl _⟩
theorem pQ {l:List Tok} (h:RdOk l):RdOk (au l).2∧(au l).2.length≤l.length:=by
 unfold au
 split
 ·exact ⟨h.drop 1,by rw [List.length_drop];omega⟩
 ·exact ⟨h,Nat.le_refl _⟩
theorem FQ:¬bc=emp:=by decide
theorem J2:¬dE=emp:=by decide
theorem lK:¬aY=emp:=by decide
def NiceR (l:List Tok) (r:RdR OpV):Prop:=match r with
 | .ok (o,r)=>okO o∧RdOk r∧r.length≤l.length
 | .error e=>e≠0
theorem NiceR.mono {l l':List Tok} {r:RdR OpV} (h:NiceR l r) (hl:l.length≤l'.length):NiceR l' r:=by
 unfold NiceR at *
 split at h
 ·exact ⟨h.1,h.2.1,Nat.le_trans h.2.2 hl⟩
 ·exact h
theorem HA {o:OpV} {l:List Tok} (ho:okO o) (h:RdOk l):NiceR l (uh o l):=by
 unfold uh
 rcases h1:changedR o 12 (-1) l with e | ⟨o',l1⟩
 ·exact rF h h1
 ·obtain ⟨g1,g2,a,b,rfl⟩:=pk h h1
  simp only
  split
  ·show (100:Int)≠0;decide
  ·rcases h2:mustR dE l1 with e | l2
   ·have:=kn h2;show e≠0;omega
   ·obtain ⟨g3,g4,-,-⟩:=eH J2 g1 h2
    exact ⟨rY ho rfl rfl rfl,g3,by omega⟩
theorem HO {o:OpV} {l:List Tok} (h:RdOk l):NiceR l (vO o l):=by
 unfold vO
 rcases h1:valueR l with e | ⟨v,l1⟩
 ·exact jm h h1
 ·obtain ⟨g0,g1,g2⟩:=iL h h1
  simp only
  rcases h2:mustR dE l1 with e | l2
  ·have:=kn h2;show e≠0;omega
  ·obtain ⟨g3,g4,-,-⟩:=eH J2 g1 h2
   exact ⟨lm g0 rfl rfl rfl,g3,by omega⟩
theorem Io {o:OpV} {l:List Tok} (h:RdOk l):NiceR l (wm o l):=by
 unfold wm
 rcases h0:mustR bc l with e | l0
 ·have:=kn h0;show e≠0;omega
 obtain ⟨k0,k1,-,-⟩:=eH FQ h h0
 simp only
 rcases h1:valueR l0 with e | ⟨v,l1⟩
 ·exact jm k0 h1
 ·obtain ⟨g0,g1,g2⟩:=iL k0 h1
  simp only
  rcases h2:mustR dE l1 with e | l2
  ·have:=kn h2;show e≠0;omega
  ·obtain ⟨g3,g4,-,-⟩:=eH J2 g1 h2
   obtain ⟨g5,g6⟩:=wL (s:=rD) g3
   simp only
   split
   ·exact ⟨lm g0 rfl rfl rfl,g5,by omega⟩
   ·exact ⟨lm g0 rfl rfl rfl,g3,by omega⟩
theorem zy {o:OpV} {l:List Tok} (ho:okO o) (h:RdOk l):NiceR l (gz o l):=by
 unfold gz
 rcases h0:mustR aY l with e | l0
 ·have:=kn h0;show e≠0;omega
 obtain ⟨k0,k1,-,-⟩:=eH lK h h0
 simp only
 split
 ·exact (HA (rY (o:={ o with mode:=3,m:=(gJ l0).1,md:=1,amt := -1 }) ho rfl rfl rfl) (k0.drop 1)).mono (by rw [List.length_drop];omega)
 ·rcases h1:loR l0 with e | ⟨b,l1⟩
  ·exact FW h1
  ·obtain ⟨g1,g2⟩:=Bw k0 h1
   simp only
   split
   ·exact (HO g1).mono (by omega)
   ·exact (Io g1).mono (by omega)
theorem El {o:OpV} {l:List Tok} (ho:okO o) (h:RdOk l):NiceR l (nr o l):=by
 unfold nr
 split
 ·rcases h1:valueR (l.drop 2) with e | ⟨v,l1⟩
  ·exact jm (h.drop 2) h1
  ·obtain ⟨g0,g1,g2⟩:=iL (h.drop 2) h1
   rw [List.length_drop] at g2
   exact ⟨lm g0 rfl rfl rfl,g1,by omega⟩
 ·exact ⟨ho,h,Nat.le_refl _⟩
theorem zO {l:List Tok} (h:RdOk l):NiceR l (fg l):=by
 obtain ⟨g1,g2⟩:=pQ h
 obtain ⟨g3,g4⟩:=wL (s:=dE) g1
 have ho:okO (la (gJ l).1):=pG rfl rfl rfl
 unfold fg
 split
 ·show (100:Int)≠0;decide
 ·split
  ·exact (El ho g3).mono (by omega)
  ·exact (zy ho g1).mono (by omega)
theorem wF {s:ByteArray}:∀ {t:List (Int×Int)} {o:OpV},rsvdF s t=some o→∃ kd k,(kd,k)∈t∧(ap 3 kd s).2=0∧o=ju k (ap 3 kd s).1
 | [],o,h=>by cases h
 | (kd,k)::r,o,h=>by
  rw [rsvdF] at h
  split at h
  ·rename_i hc
   injection h with h
   exact ⟨kd,k,by simp,hc,h.symm⟩
  ·obtain ⟨a,b,h1,h2⟩:=wF h
   exact ⟨a,b,by simp [h1],h2⟩
def Jc (l:List Tok) (r:RdR OpV):Prop:=match r with
 | .ok (o,r)=>okO o∧RdOk r∧r.length<l.length
 | .error e=>e≠0
theorem NiceR.less {l l':List Tok} {r:RdR OpV} (h:NiceR l r) (hl:l.length<l'.length):Jc l' r:=by
 unfold NiceR at h
 unfold Jc
 split at h
 ·exact ⟨h.1,h.2.1,Nat.lt_of_le_of_lt h.2.2 hl⟩
 ·exact h
theorem qv {o:OpV} {most nn:Int} {l:List Tok} (ho:okO o) (h:RdOk l):NiceR l (changedR o most nn l):=by
 rcases h1:changedR o most nn l with e | ⟨o',l1⟩
 ·exact rF h h1
 ·obtain ⟨g1,g2,a,b,rfl⟩:=pk h h1
  exact ⟨rY ho rfl rfl rfl,g1,g2⟩
theorem wt:¬(fm 3 emp).2=0:=by decide +kernel
theorem Iw {l:List Tok} (h:(gJ l).2=true):1≤l.length∧(fm 3 (atF l 1 0)).2=0∧gJ l=((fm 3 (atF l 1 0)).1,true):=by
 unfold gJ at h ⊢
 split at h
 ·rename_i hc
  have:=lI (l:=l) (k:=1) (n:=0) (fun e=>wt (by rw [← e];exact hc))
  exact ⟨by omega,hc,by rw [if_pos hc]⟩
 ·cases h
theorem wa {l:List Tok} (h:RdOk l):Jc l (operR l):=by
 have one:∀ {s:ByteArray},¬s=emp→atF l 4 0=s→(l.drop 1).length<l.length:=fun hs e=>by
  have:=lI (l:=l) (k:=4) (n:=0) (by rw [e];exact hs)
  rw [List.length_drop];omega
 unfold operR
 split
 ·rename_i hr
  have:=(Iw hr).1
  exact (qv (pG rfl rfl rfl) (h.drop 1)).less (by rw [List.length_drop];omega)
 split
 ·rename_i h1
  exact (zO (h.drop 1)).less (one (by decide) h1)
 split
 ·rename_i h1
  unfold m9
  have hl:=one FQ h1
  rcases hv:valueR (l.drop 1) with e | ⟨v,l1⟩
  ·exact jm (h.drop 1) hv
  ·obtain ⟨g0,g1,g2⟩:=iL (h.drop 1) hv
   exact (qv (lm g0 rfl rfl rfl) g1).less (by omega)
 rcases h1:loR l with e | ⟨b,l1⟩
 ·exact FW h1
 obtain ⟨g1,g2⟩:=Bw h h1
 cases b with
 | true =>
  simp only
  rcases hv:valueR l1 with e | ⟨v,l2⟩
  ·exact jm g1 hv
  ·obtain ⟨k0,k1,k2⟩:=iL g1 hv
   exact ⟨lm k0 rfl rfl rfl,k1,by omega⟩
 | false =>
  simp only
  split
  ·rename_i hw
   unfold cJ
   rcases hs:rsvdF (atF l1 1 0) jY with _ | o
   ·show (100:Int)≠0;decide
   ·obtain ⟨kd,k,-,-,rfl⟩:=wF hs
    have:=lI hw.1
    exact ⟨pG rfl rfl rfl,g1.drop 1,by rw [List.length_drop];omega⟩
  ·rcases hv:valueR l1 with e | ⟨v,l2⟩
   ·exact jm g1 hv
   ·obtain ⟨k0,k1,k2⟩:=iL g1 hv
    refine ⟨?_,k1,by omega⟩
    split
    ·exact lm k0 rfl rfl rfl
    ·exact lm k0 rfl rfl rfl
theorem Ca {l r:List Tok} {o:OpV} (h:RdOk l) (e:operR l=.ok (o,r)):okO o∧RdOk r∧r.length<l.length:=by
 have:=wa h
 rw [e] at this
 exact this
theorem Ih {l:List Tok} {x:Int} (h:RdOk l) (e:operR l=.error x):x≠0:=by
 have:=wa h
 rw [e] at this
 exact this
structure oW (out:List OpV):Prop where
 few:out.length≤8
 all:∀ o∈out,okO o∧fi o=0
theorem pT {out out':List OpV} {l r:List Tok} (h:RdOk l) (ho:oW out) (e:stepR out l=.ok (out',r)):oW out'∧RdOk r∧r.length<l.length∧∃ o,out'=out++[o]:=by
 unfold stepR at e
 split at e
 ·cases e
 ·rename_i l1 h1
  have k1:RdOk l1∧l1.length≤l.length:=by
   split at h1
   ·injection h1 with h1;subst h1;exact ⟨h,Nat.le_refl _⟩
   ·obtain ⟨g1,g2,-,-⟩:=eH lK h h1
    exact ⟨g1,by omega⟩
  split at e
  ·cases e
  ·rename_i h8
   split at e
   ·cases e
   ·rename_i o l2 h2
    obtain ⟨g1,g2,g3⟩:=Ca k1.1 h2
    split at e
    ·cases e
    ·rename_i hc
     split at e
     ·cases e
     ·injection e with e
      injection e with e1 e2
      subst e1 e2
      refine ⟨⟨?_,?_⟩,g2,by omega,o,rfl⟩
      ·have:=ho.few
       rw [List.length_append,List.length_singleton]
       omega
      ·intro p hp
       rw [List.mem_append,List.mem_singleton] at hp
       rcases hp with hp | rfl
       ·exact ho.all p hp
       ·exact ⟨g1,Decidable.not_not.1 hc⟩
theorem IL {out:List OpV} {l:List Tok} {x:Int} (h:RdOk l) (e:stepR out l=.error x):x≠0:=by
 unfold stepR at e
 split at e
 ·rename_i y h1
  injection e with e
  subst e
  split at h1
  ·cases h1
  ·have:=kn h1;omega
 ·rename_i l1 h1
  have k1:RdOk l1:=by
   split at h1
   ·injection h1 with h1;subst h1;exact h
   ·exact (eH lK h h1).1
  split at e
  ·injection e with e;omega
  ·split at e
   ·rename_i y h2
    injection e with e
    subst e
    exact Ih k1 h2
   ·split at e
    ·rename_i hc
     injection e with e
     subst e
     exact hc
    ·split at e
     ·injection e with e;omega
     ·cases e
theorem eX (N:Nat) (out:List OpV):fO N out []=.ok out:=by
 cases N<;>rw [fO]
theorem eQ {N:Nat} {out:List OpV} {l:List Tok} (hl:l≠[]):fO (N+1) out l=match stepR out l with
  | .error e=>.error e
  | .ok (out,l)=>fO N out l:=by
 cases l with
 | nil=>exact absurd rfl hl
 | cons t r=>rfl
theorem oG:∀ {N:Nat} {out:List OpV} {l:List Tok},RdOk l→oW out→l.length≤N→fO N out l=fO l.length out l
 | 0,out,l,_,_,hn=>by
  obtain rfl:l=[]:=List.eq_nil_of_length_eq_zero (by omega)
  rfl
 | N+1,out,[],_,_,_=>by rw [eX,eX]
 | N+1,out,t::r,h,ho,hn=>by
  rw [List.length_cons,eQ (by simp),eQ (by simp)]
  rcases hs:stepR out (t::r) with e | ⟨out',l'⟩
  ·rfl
  ·obtain ⟨g1,g2,g3,-⟩:=pT h ho hs
   simp only
   rw [List.length_cons] at g3 hn
   rw [oG g2 g1 (by omega)]
   exact (oG g2 g1 (by omega)).symm
theorem ws:∀ {N:Nat} {out out':List OpV} {l:List Tok},RdOk l→oW out→fO N out l=.ok out'→oW out'
 | 0,out,out',l,h,ho,e=>by
  cases l with
  | nil=>rw [eX] at e;injection e with e;subst e;exact ho
  | cons t r=>cases e
 | N+1,out,out',[],_,ho,e=>by rw [eX] at e;injection e with e;subst e;exact ho
 | N+1,out,out',t::r,h,ho,e=>by
  rw [eQ (by simp)] at e
  rcases hs:stepR out (t::r) with x | ⟨o2,l'⟩
  ·rw [hs] at e;cases e
  ·rw [hs] at e
   obtain ⟨g1,g2,-,-⟩:=pT h ho hs
   exact ws g2 g1 e
theorem qg:oW []:=⟨by simp,fun o h=>by simp at h⟩
theorem Bt {l:List Tok} {out:List OpV} (h:RdOk l) (e:ii l=.ok out):oW out:=ws h qg e
theorem tT:∀ {N:Nat} {out:List OpV} {l:List Tok} {x:Int},RdOk l→oW out→fO N out l=.error x→x≠0
 | 0,out,l,x,h,ho,e=>by
  cases l with
  | nil=>rw [eX] at e;cases e
  | cons t r =>
   have e:(.error 100:Except Int (List OpV))=.error x:=e
   injection e with e
   omega
 | N+1,out,[],x,_,ho,e=>by rw [eX] at e;cases e
 | N+1,out,t::r,x,h,ho,e=>by
  rw [eQ (by simp)] at e
  rcases hs:stepR out (t::r) with y | ⟨o2,l'⟩
  ·rw [hs] at e;injection e with e;subst e;exact IL h hs
  ·rw [hs] at e
   obtain ⟨g1,g2,-,-⟩:=pT h ho hs
   exact tT g2 g1 e
theorem HI {l:List Tok} {x:Int} (h:RdOk l) (e:ii l=.error x):x≠0:=tT h qg e
end Go.Proofs.YthcoegkfpinlfaaGreatDoor
namespace Go.Proofs.YthcoegkfpinlfaaGreatDoor.Ex
open Go.RowKit
theorem vZ {l:List Tok} {s:PS}:cT (l.map dH) s=cT l s:=by
 unfold cT
 rw [List.getElem?_map]
 cases l[s.at_]?<;>rfl
theorem se {l:List Tok} {read:PS→PR} {kinds:List Int}:∀ (m:Nat) (s:PS),eB (l.map dH) read kinds m s=eB l read kinds m s
 | 0,s=>rfl
 | m+1,s=>by
  simp only [eB,vZ,se m]
theorem IA {l:List Tok} {read:PS→PR} {kinds:List Int}:dW (l.map dH) read kinds=dW l read kinds:=by
 funext s
 unfold dW
 simp only [List.length_map,se]
theorem rN {l:List Tok} {read:PS→PR}:fK (l.map dH) read=fK l read:=by
 unfold fK
 simp only [IA]
theorem qz {l:List Tok}:∀ N:Nat,aU (l.map dH) N=aU l N
 | 0=>by funext s;rfl
 | N+1=>by
  funext s
  rw [aU,aU,List.getElem?_map]
  cases l[s.at_]? with
  | none=>rfl
  | some t =>
   simp only [Option.map_some,qz N,rN,vZ]
   rfl
theorem parseF_bare {l:List Tok}:parseF (l.map dH)=parseF l:=by
 unfold parseF
 rw [List.length_map,rN,qz]
end Go.Proofs.YthcoegkfpinlfaaGreatDoor.Ex
namespace Go.Proofs.YthcoegkfpinlfaaGreatDoor
open Go.RowKit
def ik {α:Type}:RdR α→RdR α
 | .ok (x,l)=>.ok (x,l.map dH)
 | .error e=>.error e
def tM:Except Int (List Tok)→Except Int (List Tok)
 | .ok l=>.ok (l.map dH)
 | .error e=>.error e
theorem kD {l:List Tok} {k:Int} {n:Nat}:atF (l.map dH) k n=atF l k n:=by
 unfold atF
 rw [List.getElem?_map]
 cases l[n]?<;>rfl
theorem gN {l:List Tok} {n:Nat}:(l.map dH).drop n=(l.drop n).map dH:=(List.map_drop).symm
theorem jh {s:ByteArray} {l:List Tok}:mustR s (l.map dH)=tM (mustR s l):=by
 unfold mustR
 rw [kD,gN]
 split<;>rfl
theorem iD {l:List Tok}:valueR (l.map dH)=ik (valueR l):=by
 unfold valueR
 rw [Ex.parseF_bare]
 cases Ex.parseF l with
 | error e=>rfl
 | ok s =>
  simp only [gN]
  split<;>rfl
theorem AT {l:List Tok}:countR (l.map dH)=ik (countR l):=by
 unfold countR
 rw [jh]
 cases mustR bc l with
 | error e=>rfl
 | ok l1 =>
  simp only [tM,iD]
  rcases valueR l1 with e | ⟨v,l2⟩
  ·rfl
  ·simp only [ik]
   split<;>rfl
theorem mL {o:OpV} {most nn:Int} {l:List Tok}:changedR o most nn (l.map dH)=ik (changedR o most nn l):=by
 unfold changedR
 simp only [kD,gN,AT]
 split
 ·rfl
 ·split
  ·rcases countR (l.drop 2) with e | ⟨k,l'⟩<;>rfl
  ·rfl
theorem Bv {l:List Tok}:loR (l.map dH)=ik (loR l):=by
 unfold loR
 simp only [kD,gN]
 split
 ·rfl
 ·split<;>rfl
theorem oI {l:List Tok}:gJ (l.map dH)=gJ l:=by unfold gJ;rw [kD]
theorem wK {s:ByteArray} {l:List Tok}:br s (l.map dH)=((br s l).1,(br s l).2.map dH):=by
 unfold br
 rw [kD,gN]
 split<;>rfl
theorem wy {l:List Tok}:(au (l.map dH)).2=(au l).2.map dH:=by
 unfold au
 rw [oI,gN]
 split<;>rfl
theorem Hy {o:OpV} {l:List Tok}:uh o (l.map dH)=ik (uh o l):=by
 unfold uh
 rw [mL]
 rcases changedR o 12 (-1) l with e | ⟨o',l1⟩
 ·rfl
 ·simp only [ik,jh]
  split
  ·rfl
  ·rcases mustR dE l1 with e | l2<;>rfl
theorem HM {o:OpV} {l:List Tok}:vO o (l.map dH)=ik (vO o l):=by
 unfold vO
 rw [iD]
 rcases valueR l with e | ⟨v,l1⟩
 ·rfl
 ·simp only [ik,jh]
  rcases mustR dE l1 with e | l2<;>rfl
theorem Im {o:OpV} {l:List Tok}:wm o (l.map dH)=ik (wm o l):=by
 unfold wm
 rw [jh]
 rcases mustR bc l with e | l0
 ·rfl
 ·simp only [tM,iD]
  rcases valueR l0 with e | ⟨v,l1⟩
  ·rfl
  ·simp only [ik,jh]
   rcases mustR dE l1 with e | l2
   ·rfl
   ·simp only [tM,wK]
    split<;>rfl
theorem zw {o:OpV} {l:List Tok}:gz o (l.map dH)=ik (gz o l):=by
 unfold gz
 rw [jh]
 rcases mustR aY l with e | l0
 ·rfl
 ·simp only [tM,oI,gN,Hy,Bv]
  split
  ·rfl
  ·rcases loR l0 with e | ⟨b,l1⟩
   ·rfl
   ·simp only [ik,HM,Im]
    split<;>rfl
theorem Ej {o:OpV} {l:List Tok}:nr o (l.map dH)=ik (nr o l):=by
 unfold nr
 simp only [kD,gN,iD]
 split
 ·rcases valueR (l.drop 2) with e | ⟨v,l1⟩<;>rfl
 ·rfl
theorem zM {l:List Tok}:fg (l.map dH)=ik (fg l):=by
 unfold fg
 simp only [oI,wy,wK,Ej,zw]
 split
 ·rfl
 ·split<;>rfl
theorem wA {s:ByteArray} {l:List Tok}:cJ s (l.map dH)=ik (cJ s l):=by
 unfold cJ
 rw [gN]
 cases rsvdF s jY<;>rfl
theorem DP {l:List Tok}:m9 (l.map dH)=ik (m9 l):=by
 unfold m9
 rw [iD]
 rcases valueR l with e | ⟨v,l1⟩
 ·rfl
 ·simp only [ik,mL]
theorem Ed {l:List Tok}:operR (l.map dH)=ik (operR l):=by
 unfold operR
 simp only [oI,gN,mL,kD,zM,DP,Bv]
 split
 ·rfl
 split
 ·rfl
 split
 ·rfl
 rcases loR l with e | ⟨b,l1⟩
 ·rfl
 cases b with
 | true =>
  simp only [ik,iD]
  rcases valueR l1 with e | ⟨v,l2⟩<;>rfl
 | false =>
  simp only [ik,kD,wA,iD]
  split
  ·rfl
  ·rcases valueR l1 with e | ⟨v,l2⟩<;>rfl
theorem E4 {out:List OpV} {l:List Tok}:stepR out (l.map dH)=ik (stepR out l):=by
 unfold stepR
 rw [jh]
 have e:(if out=[] then (.ok (l.map dH):Except Int (List Tok)) else tM (mustR aY l))=tM (if out=[] then .ok l else mustR aY l):=by split<;>rfl
 rw [e]
 rcases (if out=[] then .ok l else mustR aY l:Except Int (List Tok)) with e | l1
 ·rfl
 ·simp only [tM,Ed]
  split
  ·rfl
  ·rcases operR l1 with e | ⟨o,l2⟩
   ·rfl
   ·simp only [ik]
    split
    ·rfl
    ·split<;>rfl
theorem r8:∀ {N:Nat} {out:List OpV} {l:List Tok},fO N out (l.map dH)=fO N out l
 | N,out,[]=>rfl
 | 0,out,t::r=>rfl
 | N+1,out,t::r=>by
  rw [eQ (by simp),eQ (by simp),E4]
  rcases stepR out (t::r) with e | ⟨out',l'⟩
  ·rfl
  ·exact r8
theorem DY {l:List Tok}:ii (l.map dH)=ii l:=by
 unfold ii
 rw [List.length_map,r8]
end Go.Proofs.YthcoegkfpinlfaaGreatDoor
namespace Go.Proofs.YthcoegkfpinlfaaGreatDoor.Ex
open Go.RowKit
def Ends (l:List Tok) (q:Nat):Prop:=∀ kinds:List Int,(∀ k∈kinds,5≤k∧k≤14)→cf (nxt l q) kinds 0=0
theorem vz {s:ByteArray} (h:∀ k:Int,5≤k→k≤14→s≠eC k):∀ kinds:List Int,(∀ k∈kinds,5≤k∧k≤14)→cf s kinds 0=0
 | [],_=>rfl
 | k::r,hk=>by
  have hk5:=hk k (List.mem_cons_self ..)
  rw [cf,if_neg,vz h r fun x hx=>hk x (List.mem_cons_of_mem _ hx)]
  rintro ⟨_,e⟩
  exact h k hk5.1 hk5.2 e
theorem ends_emp {l:List Tok} {q:Nat} (h:nxt l q=emp):Ends l q:=fun kinds hk=>by rw [h];exact oa _ _
theorem ends_sign {l:List Tok} {q:Nat} (h:∀ k:Int,5≤k→k≤14→nxt l q≠eC k):Ends l q:=vz h
theorem sign_all {p:ByteArray→Prop} (h5:p (eC 5)) (h6:p (eC 6)) (h7:p (eC 7)) (h8:p (eC 8)) (h9:p (eC 9)) (h10:p (eC 10)) (h11:p (eC 11)) (h12:p (eC 12)) (h13:p (eC 13)) (h14:p (eC 14)):∀ k:Int,5≤k→k≤14→p (eC k):=by
 intro k h1 h2
 have hc:k=5∨k=6∨k=7∨k=8∨k=9∨k=10∨k=11∨k=12∨k=13∨k=14:=by omega
 rcases hc with rfl | rfl | rfl | rfl | rfl | rfl | rfl | rfl | rfl | rfl<;>assumption
section
variable {l:List Tok} {read:PS→PR} {p q z:Nat} {a c:List Term} {d:Int}
theorem mS (h:Reads read p q d a) (hd:0≤d) (hs:Ends l q):Reads (fK l read) p q d a:=by
 unfold fK
 exact ip (ip (ip (ip (ip (ip h hd (hs _ (by simp))) hd (hs _ (by simp))) hd (hs _ (by simp))) hd (hs _ (by simp))) hd (hs _ (by simp))) hd (hs _ (by simp))
theorem lX (h:Reads (dW l read [5,6,7]) p q 0 a) (hc:Chn l (dW l read [5,6,7]) [8,9] q z 0 c) (hs:Ends l z):Reads (fK l read) p z 0 (a++c):=by
 have upr:∀ {read:PS→PR} {kinds:List Int} {x:List Term} {p:Nat},Reads read p z 0 x→(∀ k∈kinds,5≤k∧k≤14)→Reads (dW l read kinds) p z 0 x:=fun h hf=>ip h (Int.le_refl _) (hs _ hf)
 unfold fK
 exact upr (upr (upr (upr (yF h hc) (by simp)) (by simp)) (by simp)) (by simp)
theorem gI (h:Reads read p q 0 a) (hn:Ends l q∨nxt l q=eC 8∨nxt l q=eC 9):Reads (dW l read [5,6,7]) p q 0 a:=by
 refine ip h (Int.le_refl _) ?_
 rcases hn with hn | hn | hn
 ·exact hn _ (by simp)
 ·exact (vA (.inl rfl) hn).1
 ·exact (vA (.inr rfl) hn).1
theorem pq (h:Ends l q):Chn l read [8,9] q q 0 []:=.nil (h _ (by simp))
theorem jv (h:Reads (fK l (aU l l.length)) 0 q d a) (hd:d≤64) (hl:a.length≤256):parseF l=.ok ⟨q,0,a⟩:=by
 have:=h 0 [] (Int.le_refl _) (by omega) (by simpa using hl)
 simpa [parseF] using this
end
theorem val_readE {v:Val} (hv:ValOk v) {r:List Tok} (he:Ends r 0):parseF (valT v++r)=.ok ⟨(valT v).length,0,Am v⟩:=by
 unfold valT Am
 by_cases c:v.plus=emp∧v.minus=emp
 ·rw [if_pos c,if_pos c]
  by_cases c2:v.add<0
  ·rw [if_pos c2,if_pos c2]
   refine jv (l:=aK minusS::numT (-v.add)::r) (q:=2) (d:=1) ?_ (by decide) (by simp)
   have h1:Reads (aU (aK minusS::numT (-v.add)::r) (r.length+1)) 1 2 0 [⟨1,wrap64 (-v.add),emp⟩]:=re (l:=aK minusS::numT (-v.add)::r) rfl rfl
   have h2:=Lq (l:=aK minusS::numT (-v.add)::r) (N:=r.length+1) (p:=0) (q:=2) (Int.le_refl 0) rfl rfl (.inl ⟨rfl,rfl⟩) h1
   exact mS (l:=aK minusS::numT (-v.add)::r) h2 (by decide) he
  ·rw [if_neg c2,if_neg c2]
   refine jv (l:=numT v.add::r) (q:=1) (d:=0) ?_ (by decide) (by simp)
   exact mS (l:=numT v.add::r) (re (l:=numT v.add::r) (N:=r.length) rfl rfl) (Int.le_refl _) he
 ·rw [if_neg c,if_neg c]
  obtain ⟨B,hB⟩:∃ B,(if v.plus=emp then numT 0 else aZ v.plus)=B:=⟨_,rfl⟩
  obtain ⟨b,hb⟩:∃ b:Term,(if v.plus=emp then ⟨1,0,emp⟩ else ⟨2,0,v.plus⟩)=b:=⟨_,rfl⟩
  have hBB:dH B=B:=by rw [← hB];split<;>rfl
  have base:∀ {l:List Tok} {N p:Nat},l[p]? = some B→Reads (aU l (N+1)) p (p+1) 0 [b]:=fun h1=>by
   rw [← hb];exact Oa h1 (by rw [hBB,← hB])
  rw [hb,hB]
  unfold midT tailT
  by_cases em:v.minus=emp
  ·rw [if_pos em,if_pos em,List.nil_append,List.nil_append]
   by_cases e0:v.add=0
   ·rw [if_pos e0,if_pos e0]
    exact jv (l:=B::r) (q:=1) (d:=0) (mS (l:=B::r) (base (l:=B::r) (p:=0) rfl) (Int.le_refl _) he) (by decide) (by simp)
   ·rw [if_neg e0,if_neg e0]
    by_cases en:v.add<0
    ·rw [if_pos en,if_pos en]
     obtain ⟨l,hl⟩:∃ l,B::aK minusS::numT (-v.add)::r=l:=⟨_,rfl⟩
     have n1:nxt l 1=eC 9:=by rw [← hl];rfl
     have hlen:l.length=r.length+2+1:=by rw [← hl];rfl
     have e3:Ends l 3:=by rw [← hl];exact he
     show parseF (B::aK minusS::numT (-v.add)::r)=_
     rw [hl]
     refine jv (q:=3) (d:=0) ?_ (by decide) (by simp)
     rw [hlen]
     exact lX (gI (base (l:=l) (p:=0) (by rw [← hl];rfl)) (.inr (.inr n1))) (nV (.inr rfl) n1 (gI (re (l:=l) (p:=2) (u:=numT (-v.add)) (by rw [← hl];rfl) rfl) (.inl e3)) (pq e3)) e3
    ·rw [if_neg en,if_neg en]
     obtain ⟨l,hl⟩:∃ l,B::aK plusS::numT v.add::r=l:=⟨_,rfl⟩
     have n1:nxt l 1=eC 8:=by rw [← hl];rfl
     have hlen:l.length=r.length+2+1:=by rw [← hl];rfl
     have e3:Ends l 3:=by rw [← hl];exact he
     show parseF (B::aK plusS::numT v.add::r)=_
     rw [hl]
     refine jv (q:=3) (d:=0) ?_ (by decide) (by simp)
     rw [hlen]
     exact lX (gI (base (l:=l) (p:=0) (by rw [← hl];rfl)) (.inr (.inl n1))) (nV (.inl rfl) n1 (gI (re (l:=l) (p:=2) (u:=numT v.add) (by rw [← hl];rfl) rfl) (.inl e3)) (pq e3)) e3
  ·rw [if_neg em,if_neg em]
   by_cases e0:v.add=0
   ·rw [if_pos e0,if_pos e0]
    obtain ⟨l,hl⟩:∃ l,B::aK minusS::aZ v.minus::r=l:=⟨_,rfl⟩
    have n1:nxt l 1=eC 9:=by rw [← hl];rfl
    have hlen:l.length=r.length+2+1:=by rw [← hl];rfl
    have e3:Ends l 3:=by rw [← hl];exact he
    show parseF (B::aK minusS::aZ v.minus::r)=_
    rw [hl]
    refine jv (q:=3) (d:=0) ?_ (by decide) (by simp)
    rw [hlen]
    exact lX (gI (base (l:=l) (p:=0) (by rw [← hl];rfl)) (.inr (.inr n1))) (nV (.inr rfl) n1 (gI (uH (l:=l) (p:=2) (u:=aZ v.minus) (by rw [← hl];rfl) rfl) (.inl e3)) (pq e3)) e3
   ·rw [if_neg e0,if_neg e0]
    by_cases en:v.add<0
    ·rw [if_pos en,if_pos en]
     obtain ⟨l,hl⟩:∃ l,B::aK minusS::aZ v.minus::aK minusS::numT (-v.add)::r=l:=⟨_,rfl⟩
     have n1:nxt l 1=eC 9:=by rw [← hl];rfl
     have n3:nxt l 3=eC 9:=by rw [← hl];rfl
     have hlen:l.length=r.length+4+1:=by rw [← hl];rfl
     have e3:Ends l 5:=by rw [← hl];exact he
     show parseF (B::aK minusS::aZ v.minus::aK minusS::numT (-v.add)::r)=_
     rw [hl]
     refine jv (q:=5) (d:=0) ?_ (by decide) (by simp)
     rw [hlen]
     exact lX (gI (base (l:=l) (p:=0) (by rw [← hl];rfl)) (.inr (.inr n1))) (nV (.inr rfl) n1 (gI (uH (l:=l) (p:=2) (u:=aZ v.minus) (by rw [← hl];rfl) rfl) (.inr (.inr n3))) (nV (.inr rfl) n3 (gI (re (l:=l) (p:=4) (u:=numT (-v.add)) (by rw [← hl];rfl) rfl) (.inl e3)) (pq e3))) e3
    ·rw [if_neg en,if_neg en]
     obtain ⟨l,hl⟩:∃ l,B::aK minusS::aZ v.minus::aK plusS::numT v.add::r=l:=⟨_,rfl⟩
     have n1:nxt l 1=eC 9:=by rw [← hl];rfl
     have n3:nxt l 3=eC 8:=by rw [← hl];rfl
     have hlen:l.length=r.length+4+1:=by rw [← hl];rfl
     have e3:Ends l 5:=by rw [← hl];exact he
     show parseF (B::aK minusS::aZ v.minus::aK plusS::numT v.add::r)=_
     rw [hl]
     refine jv (q:=5) (d:=0) ?_ (by decide) (by simp)
     rw [hlen]
     exact lX (gI (base (l:=l) (p:=0) (by rw [← hl];rfl)) (.inr (.inr n1))) (nV (.inr rfl) n1 (gI (uH (l:=l) (p:=2) (u:=aZ v.minus) (by rw [← hl];rfl) rfl) (.inr (.inl n3))) (nV (.inl rfl) n3 (gI (re (l:=l) (p:=4) (u:=numT v.add) (by rw [← hl];rfl) rfl) (.inl e3)) (pq e3))) e3
end Go.Proofs.YthcoegkfpinlfaaGreatDoor.Ex
namespace Go.Proofs.YthcoegkfpinlfaaGreatDoor
open Go.RowKit
theorem fQ {v:Val} (hv:Ex.ValOk v) {r:List Tok} (he:Ex.Ends r 0):valueR (Ex.valT v++r)=.ok (v,r):=by
 unfold valueR
 rw [Ex.val_readE hv he]
 simp only [Ex.val_eval hv,if_true,List.drop_left]
end Go.Proofs.YthcoegkfpinlfaaGreatDoor
