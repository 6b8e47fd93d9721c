import Derived.Test.YtnhbidpdadkcjaaGreatDoorJ31
import Derived.Test.YtnhbidpdadkcjaaGreatDoorJ29
import Derived.Test.YtnhbidpdadkcjaaGreatDoorJ07
set_option linter.unusedVariables false
set_option linter.unusedSimpArgs false
set_option maxRecDepth 100000
set_option maxHeartbeats 8000000
namespace Go.Proofs.YtnhbidpdadkcjaaGreatDoor
section
open Go.RowKit
structure StV where
 labels:List ByteArray
 kind:Int
 name:ByteArray
 opers:List OpV
 names:List ByteArray
 size:Int
 vals:List Val
 bytes:List Int
def st0:StV:=⟨[],0,emp,[],[],0,[],[]⟩
structure PsV where
 l:List Tok
 s:StV
def tk:ByteArray:=⟨#[46]⟩
def jX:ByteArray:=(⟨#[46,116,101,120,116]⟩:ByteArray)
def ke:ByteArray:=(⟨#[46,100,97,116,97]⟩:ByteArray)
def f7:ByteArray:=(⟨#[46,115,101,99,116,105,111,110]⟩:ByteArray)
def jd:ByteArray:=(⟨#[46,103,108,111,98,97,108]⟩:ByteArray)
def jG:ByteArray:=(⟨#[46,97,108,105,103,110]⟩:ByteArray)
def pX:ByteArray:=(⟨#[46,98,121,116,101]⟩:ByteArray)
def nA:ByteArray:=(⟨#[46,119,111,114,100]⟩:ByteArray)
def rM:ByteArray:=(⟨#[46,113,117,97,100]⟩:ByteArray)
def nE:ByteArray:=(⟨#[46,97,115,99,105,105]⟩:ByteArray)
def xb:ByteArray:=(⟨#[46,101,113,117]⟩:ByteArray)
def isF (l:List Tok) (k:Int) (n:Nat):Bool:=match l[n]? with
 | some t=>decide (t.kind=k)
 | none=>false
def nextF (k e:Int) (l:List Tok):Except Int (ByteArray×List Tok):=if isF l k 0=true then .ok (atF l k 0,l.drop 1) else .error e
def labelsF:Nat→List ByteArray→List Tok→Except Int (List ByteArray×List Tok)
 | 0,out,l=>.ok (out,l)
 | N+1,out,l=>if isF l 1 0=true∧atF l 4 1=gy then (if atF l 1 0=tk then .error 110 else if out.length=8 then .error 3 else labelsF N (out++[atF l 1 0]) (l.drop 2)) else .ok (out,l)
def nameR (p:PsV):Except Int PsV:=match nextF 1 112 p.l with
 | .error e=>.error e
 | .ok (t,l)=>.ok ⟨l,{ p.s with names:=p.s.names++[t] }⟩
def valR2 (p:PsV):Except Int PsV:=match valueR p.l with
 | .error e=>.error e
 | .ok (v,l)=>.ok ⟨l,{ p.s with vals:=p.s.vals++[v] }⟩
def fh (rd:PsV→Except Int PsV):Nat→PsV→Except Int PsV
 | N,p=>match rd p with
  | .error e=>.error e
  | .ok p=>if atF p.l 4 0=fJ then (match N with
    | 0=>.error 3
    | N+1=>fh rd N ⟨p.l.drop 1,p.s⟩) else .ok p
def iM (v:Val):Bool:=decide ((v.plus=emp∧v.minus=emp)∧0≤v.add∧v.add≤12)
def jn (p:PsV):Except Int PsV:=match valR2 p with
 | .error e=>.error e
 | .ok p=>if iM (p.s.vals.getD 0 ⟨0,emp,emp⟩)=true then .ok p else .error 7
def p9 (p:PsV):Except Int PsV:=match nameR p with
 | .error e=>.error e
 | .ok p=>if atF p.l 4 0=fJ then valR2 ⟨p.l.drop 1,p.s⟩ else .error 112
def jo (p:PsV):Except Int PsV:=match nextF 3 112 p.l with
 | .error e=>.error e
 | .ok (t,l)=>.ok ⟨l,{ p.s with bytes:=ab t }⟩
def eU (n:Int) (p:PsV):Except Int PsV:=fh valR2 63 ⟨p.l,{ p.s with kind:=5,size:=n }⟩
def iB (k:Int) (p:PsV):PsV:=⟨p.l,{ p.s with kind:=k }⟩
def readR (name:ByteArray) (p:PsV):Except Int PsV :=
 if name=jX∨name=ke then .ok ⟨p.l,{ p.s with kind:=2,names:=[name] }⟩
 else if name=f7 then nameR (iB 2 p)
 else if name=jd then fh nameR 63 (iB 3 p)
 else if name=jG then jn (iB 4 p)
 else if name=pX then eU 1 p
 else if name=nA then eU 4 p
 else if name=rM then eU 8 p
 else if name=nE then jo (iB 6 p)
 else if name=xb then p9 (iB 7 p)
 else .error 111
def yL (name:ByteArray) (p:PsV):Except Int PsV:=match readR name p with
 | .error e=>.error e
 | .ok p=>if p.l=[] then .ok p else .error 112
def restR (p:PsV):Except Int PsV:=match nextF 1 110 p.l with
 | .error e=>.error e
 | .ok (name,l)=>if name=tk then .error 110
  else if cM name tk=true then yL name ⟨l,p.s⟩
  else match listF l with
   | .error e=>.error e
   | .ok o=>.ok ⟨l,{ p.s with kind:=1,name:=name,opers:=o }⟩
def pF (l:List Tok):Except Int StV:=match labelsF l.length [] l with
 | .error e=>.error e
 | .ok (ls,l)=>if l=[] then .ok { st0 with labels:=ls } else match restR ⟨l,{ st0 with labels:=ls }⟩ with
  | .error e=>.error e
  | .ok p=>.ok p.s
def fi (b:List Int):Except Int StV:=if (kr b).2.2=0 then pF (kr b).1 else .error (kr b).2.2
end
section
open Go.RowKit
def mT:Except Int PsV→Except Int PsV
 | .ok p=>.ok ⟨p.l.map fA,p.s⟩
 | .error e=>.error e
def lZ (p:PsV):PsV:=⟨p.l.map fA,p.s⟩
theorem Cu {l:List Tok} {k:Int} {n:Nat}:isF (l.map fA) k n=isF l k n:=by
 unfold isF
 rw [List.getElem?_map]
 cases l[n]?<;>rfl
theorem pT {l:List Tok} {k e:Int}:nextF k e (l.map fA)=ic (nextF k e l):=by
 unfold nextF
 rw [Cu,ib,eW]
 split<;>rfl
def Qz:Except Int (List ByteArray×List Tok)→Except Int (List ByteArray×List Tok)
 | .ok (x,l)=>.ok (x,l.map fA)
 | .error e=>.error e
theorem tz:∀ {N:Nat} {out:List ByteArray} {l:List Tok},labelsF N out (l.map fA)=Qz (labelsF N out l)
 | 0,out,l=>rfl
 | N+1,out,l=>by
  unfold labelsF
  simp only [Cu,ib,eW]
  split
  ·split
   ·rfl
   ·split
    ·rfl
    ·exact tz
  ·rfl
theorem sy {p:PsV}:nameR (lZ p)=mT (nameR p):=by
 unfold nameR
 simp only [lZ,pT]
 rcases nextF 1 112 p.l with e | ⟨t,l⟩<;>rfl
theorem sK {p:PsV}:valR2 (lZ p)=mT (valR2 p):=by
 unfold valR2
 simp only [lZ,gN]
 rcases valueR p.l with e | ⟨t,l⟩<;>rfl
theorem uO {rd:PsV→Except Int PsV} (h:∀ p,rd (lZ p)=mT (rd p)):∀ {N:Nat} {p:PsV},fh rd N (lZ p)=mT (fh rd N p)
 | N,p=>by
  unfold fh
  rw [h]
  rcases rd p with e | q
  ·rfl
  ·simp only [mT,ib,eW]
   split
   ·cases N with
    | zero=>rfl
    | succ N=>exact uO h (p:=⟨q.l.drop 1,q.s⟩)
   ·rfl
theorem BK {p:PsV}:jn (lZ p)=mT (jn p):=by
 unfold jn
 rw [sK]
 rcases valR2 p with e | q
 ·rfl
 ·simp only [mT]
  split<;>rfl
theorem HN {p:PsV}:p9 (lZ p)=mT (p9 p):=by
 unfold p9
 rw [sy]
 rcases nameR p with e | q
 ·rfl
 ·simp only [mT,ib,eW]
  split
  ·exact sK (p:=⟨q.l.drop 1,q.s⟩)
  ·rfl
theorem BM {p:PsV}:jo (lZ p)=mT (jo p):=by
 unfold jo
 simp only [lZ,pT]
 rcases nextF 3 112 p.l with e | ⟨t,l⟩<;>rfl
theorem se {n:Int} {p:PsV}:eU n (lZ p)=mT (eU n p):=uO (fun _=>sK) (p:=⟨p.l,{ p.s with kind:=5,size:=n }⟩)
theorem Ff {name:ByteArray} {p:PsV}:readR name (lZ p)=mT (readR name p):=by
 unfold readR
 split
 ·rfl
 split
 ·exact sy (p:=iB 2 p)
 split
 ·exact uO (fun _=>sy) (p:=iB 3 p)
 split
 ·exact BK (p:=iB 4 p)
 split
 ·exact se
 split
 ·exact se
 split
 ·exact se
 split
 ·exact BM (p:=iB 6 p)
 split
 ·exact HN (p:=iB 7 p)
 ·rfl
theorem Hx {name:ByteArray} {p:PsV}:yL name (lZ p)=mT (yL name p):=by
 unfold yL
 rw [Ff]
 rcases readR name p with e | q
 ·rfl
 ·simp only [mT,List.map_eq_nil_iff]
  split<;>rfl
theorem Fk {p:PsV}:restR (lZ p)=mT (restR p):=by
 unfold restR
 simp only [lZ,pT]
 rcases nextF 1 110 p.l with e | ⟨t,l⟩
 ·rfl
 ·simp only [ic,EE]
  split
  ·rfl
  split
  ·exact Hx (p:=⟨l,p.s⟩)
  ·rcases listF l with e | o<;>rfl
theorem vE {l:List Tok}:pF (l.map fA)=pF l:=by
 unfold pF
 rw [List.length_map,tz]
 rcases labelsF l.length [] l with e | ⟨ls,l1⟩
 ·rfl
 ·simp only [Qz,List.map_eq_nil_iff]
  split
  ·rfl
  ·have:=Fk (p:=⟨l1,{ st0 with labels:=ls }⟩)
   simp only [lZ] at this
   rw [this]
   rcases restR ⟨l1,{ st0 with labels:=ls }⟩ with e | q<;>rfl
end
section
open Go.RowKit
structure GR (v:List Int):Prop where
 b:aO (bAt v 0)=true
 c:∀ c∈v,c≠34∧c≠39∧c≠92
 d:eI (v.drop (bO aO v))=true
theorem Gj {v:List Int} (h:GR v):v≠[]:=by
 intro e
 have:=h.b
 rw [e] at this
 simp [bAt,aO] at this
theorem Om {v:List Int} {i:Nat} (h:i<v.length):bAt v i∈v:=List.mem_of_getElem? (wj h)
theorem J8 {v:List Int} {i:Nat} (h:v.length≤i):bAt v i=0:=by
 unfold bAt
 rw [List.getD_eq_getElem?_getD,List.getElem?_eq_none h]
 rfl
theorem Cp {v:List Int} (h:GR v) (i:Nat):bAt v i≠34∧bAt v i≠39∧bAt v i≠92:=by
 by_cases hi:i<v.length
 ·exact h.c _ (Om hi)
 ·rw [J8 (by omega)]
  omega
theorem wG {a v:List Int} {i:Nat} (h:a.length≤i):bAt (a++v) i=bAt v (i-a.length):=by
 unfold bAt
 rw [List.getD_eq_getElem?_getD,List.getD_eq_getElem?_getD,List.getElem?_append_right h]
theorem yd {g:Int→Bool} {v:List Int} (hg:g (bAt v 0)=false):∀ y:List Int,bO g (y++v)=bO g y
 | []=>by
  cases v with
  | nil=>rfl
  | cons c v =>
   rw [List.nil_append,gH,Db,if_neg]
   intro e
   rw [qf] at hg
   rw [hg] at e
   cases e
 | c::y=>by
  rw [List.cons_append,gH,gH,yd hg y]
theorem uU {y v:List Int} {k:Nat} (h:k≤y.length):(y++v).take k=y.take k:=by
 rw [List.take_append_of_le_length h]
theorem pr {l:List Int} (h:l.length≠0):lT l=match longL (bAt l 0) with
  | some x=>some (x,1)
  | none=>if 2<l.length∧bAt l 0=120∧bw (bAt l 1)<16∧bw (bAt l 2)<16 then some (16*bw (bAt l 1)+bw (bAt l 2),3) else none:=by
 unfold lT
 rw [if_neg h]
 rfl
section
variable {v:List Int} (hv:GR v)
include hv
theorem KT (z:List Int):lT (z++v)=lT z:=by
 obtain ⟨b1,b2,b3,b4,b5⟩:=kL hv.b
 have hn:=Cp hv 0
 have hbl:bAt v 0=32∨bAt v 0=9:=by have:=hv.b;unfold aO at this;exact of_decide_eq_true this
 have hvl:0<v.length:=List.length_pos_iff.2 (Gj hv)
 have hl0:longL (bAt v 0)=none:=by
  unfold longL
  rcases hbl with e | e<;>rw [e]<;>rfl
 match z with
 | [] =>
  rw [List.nil_append,pr (by omega),hl0]
  simp only
  rw [if_neg (fun h=>b3 h.2.1)]
  rfl
 | [a] =>
  rw [pr (l:=[a]++v) (by simp),pr (l:=[a]) (by simp)]
  have e0:bAt ([a]++v) 0=a:=rfl
  have e0':bAt [a] 0=a:=rfl
  have e1:bAt ([a]++v) 1=bAt v 0:=rfl
  rw [e0,e0',e1,b2]
  cases longL a with
  | some x=>rfl
  | none =>
   simp only
   rw [if_neg (fun h=>absurd h.2.2.1 (by omega)),if_neg (fun h=>absurd h.1 (by simp))]
 | [a,b] =>
  rw [pr (l:=[a,b]++v) (by simp),pr (l:=[a,b]) (by simp)]
  have e0:bAt ([a,b]++v) 0=a:=rfl
  have e0':bAt [a,b] 0=a:=rfl
  have e2:bAt ([a,b]++v) 2=bAt v 0:=rfl
  rw [e0,e0',e2,b2]
  cases longL a with
  | some x=>rfl
  | none =>
   simp only
   rw [if_neg (fun h=>absurd h.2.2.2 (by omega)),if_neg (fun h=>absurd h.1 (by simp))]
 | a::b::c::z =>
  rw [pr (l:=a::b::c::z++v) (by simp),pr (l:=a::b::c::z) (by simp)]
  have e0:bAt (a::b::c::z++v) 0=a:=rfl
  have e1:bAt (a::b::c::z++v) 1=b:=rfl
  have e2:bAt (a::b::c::z++v) 2=c:=rfl
  have f0:bAt (a::b::c::z) 0=a:=rfl
  have f1:bAt (a::b::c::z) 1=b:=rfl
  have f2:bAt (a::b::c::z) 2=c:=rfl
  rw [e0,e1,e2,f0,f1,f2]
  have el:(2<(a::b::c::z++v).length)↔(2<(a::b::c::z).length):=by simp [List.length_append]
  simp only [el]
omit hv in
theorem vI:∀ (N:Nat) (w:List Int),w.length≤N→(∀ c∈w,c≠34∧c≠39∧c≠92)→quotesL w=none
 | N,w,hN,hw=>by
  cases w with
  | nil=>exact d6 rfl
  | cons c w =>
   have hc:=hw c (by simp)
   by_cases hs:hZ c=true
   ·have hq:gt (c::w)=.put c 1:=by
     unfold gt
     rw [qf,if_neg (by simp),if_neg hc.1,if_neg hc.2.2,if_pos hs]
    cases N with
    | zero=>simp at hN
    | succ N =>
     rw [gM hq]
     have:(c::w).drop 1=w:=rfl
     rw [this,vI N w (by simpa using hN) fun d hd=>hw d (by simp [hd])]
     rfl
   ·refine d6 ?_
    unfold gt
    rw [qf,if_neg (by simp),if_neg hc.1,if_neg hc.2.2,if_neg hs]
theorem vK:∀ (N:Nat) (y:List Int),y.length≤N→quotesL (y++v)=quotesL y
 | N,y,hN=>by
  cases y with
  | nil=>rw [List.nil_append,vI _ v (Nat.le_refl _) hv.c,d6 rfl]
  | cons c y =>
   have hstep:gt (c::y++v)=gt (c::y):=by
    have e0:bAt (c::y++v) 0=c:=rfl
    have e0':bAt (c::y) 0=c:=rfl
    have ed:(c::y++v).drop 1=y++v:=rfl
    have ed':(c::y).drop 1=y:=rfl
    have h1:¬(c::y++v).length=0:=by simp
    have h2:¬(c::y).length=0:=by simp
    unfold gt
    simp only [e0,e0',ed,ed',KT hv y,if_neg h1,if_neg h2]
   cases N with
   | zero=>simp at hN
   | succ N =>
    rcases hq:gt (c::y) with _ | _ | ⟨x,k⟩
    ·rw [gY hq,gY (hstep.trans hq)]
    ·rw [d6 hq,d6 (hstep.trans hq)]
    ·have hk:=nj hq
     rw [gM hq,gM (hstep.trans hq),List.drop_append_of_le_length hk.2,vK N ((c::y).drop k) (by rw [List.length_drop];simp at hN hk ⊢;omega)]
theorem Mg {x:List Int} (hx:x≠[]):lF (x++v)=lF x∧eI (x++v)=eI x:=by
 obtain ⟨b1,b2,b3,b4,b5⟩:=kL hv.b
 have hbl:bAt v 0=32∨bAt v 0=9:=by have:=hv.b;unfold aO at this;exact of_decide_eq_true this
 have hvl:0<v.length:=List.length_pos_iff.2 (Gj hv)
 have hxl:0<x.length:=List.length_pos_iff.2 hx
 have e0:bAt (x++v) 0=bAt x 0:=iu hxl
 have e1:∀ c,c≠32→c≠9→((1<(x++v).length∧bAt (x++v) 1=c)↔(1<x.length∧bAt x 1=c)):=by
  intro c h1 h2
  by_cases h:1<x.length
  ·rw [iu h,List.length_append]
   simp [h]
   omega
  ·have hx1:x.length=1:=by omega
   rw [wG (by omega),hx1]
   constructor
   ·rintro ⟨-,h3⟩
    rcases hbl with e | e<;>rw [e] at h3<;>omega
   ·rintro ⟨h3,-⟩
    omega
 have hdone:eI (x++v)=eI x:=by
  unfold eI
  have:=e1 47 (by decide) (by decide)
  rw [Bool.eq_iff_iff]
  simp only [Bool.or_eq_true,Bool.and_eq_true,decide_eq_true_eq,e0]
  have hn1:¬(x++v).length=0:=by rw [List.length_append];omega
  have hn2:¬x.length=0:=by omega
  constructor
  ·rintro (h | ⟨⟨h1,h2⟩,h3⟩)
   ·exact absurd h hn1
   ·exact .inr ⟨⟨(this.1 ⟨h1,h3⟩).1,h2⟩,(this.1 ⟨h1,h3⟩).2⟩
  ·rintro (h | ⟨⟨h1,h2⟩,h3⟩)
   ·exact absurd h hn2
   ·exact .inr ⟨⟨(this.2 ⟨h1,h3⟩).1,h2⟩,(this.2 ⟨h1,h3⟩).2⟩
 refine ⟨?_,hdone⟩
 have hw:bO dc (x++v)=bO dc x:=yd b1 x
 have hhead:cU (x++v)=cU x:=by
  unfold cU
  rw [e0]
  have h1:=e1 120 (by decide) (by decide)
  have h2:=e1 98 (by decide) (by decide)
  by_cases hc:1<x.length∧bAt x 0=48∧(bAt x 1=120∨bAt x 1=98)
  ·rw [if_pos hc,if_pos]
   obtain ⟨g1,g2,g3 | g3⟩:=hc
   ·exact ⟨(h1.2 ⟨g1,g3⟩).1,g2,.inl (h1.2 ⟨g1,g3⟩).2⟩
   ·exact ⟨(h2.2 ⟨g1,g3⟩).1,g2,.inr (h2.2 ⟨g1,g3⟩).2⟩
  ·rw [if_neg hc,if_neg]
   rintro ⟨g1,g2,g3 | g3⟩
   ·exact hc ⟨(h1.1 ⟨g1,g3⟩).1,g2,.inl (h1.1 ⟨g1,g3⟩).2⟩
   ·exact hc ⟨(h2.1 ⟨g1,g3⟩).1,g2,.inr (h2.1 ⟨g1,g3⟩).2⟩
 have hbase:fe (x++v)=fe x:=by
  unfold fe
  rw [e0]
  have h1:=e1 120 (by decide) (by decide)
  have h2:=e1 98 (by decide) (by decide)
  have i1:(1<(x++v).length∧bAt x 0=48∧bAt (x++v) 1=120)↔(1<x.length∧bAt x 0=48∧bAt x 1=120) :=
   ⟨fun ⟨a,b,c⟩=>⟨(h1.1 ⟨a,c⟩).1,b,(h1.1 ⟨a,c⟩).2⟩,fun ⟨a,b,c⟩=>⟨(h1.2 ⟨a,c⟩).1,b,(h1.2 ⟨a,c⟩).2⟩⟩
  have i2:(1<(x++v).length∧bAt x 0=48∧bAt (x++v) 1=98)↔(1<x.length∧bAt x 0=48∧bAt x 1=98) :=
   ⟨fun ⟨a,b,c⟩=>⟨(h2.1 ⟨a,c⟩).1,b,(h2.1 ⟨a,c⟩).2⟩,fun ⟨a,b,c⟩=>⟨(h2.2 ⟨a,c⟩).1,b,(h2.2 ⟨a,c⟩).2⟩⟩
  simp only [i1,i2]
 have hhl:cU x≤x.length:=by unfold cU;split<;>omega
 have hrun:cz (fe x) ((x++v).drop (cU x))=cz (fe x) (x.drop (cU x)):=by
  rw [List.drop_append_of_le_length hhl]
  refine yd ?_ _
  rw [b2]
  have:=F5 x
  exact decide_eq_false (by omega)
 have hrl:cz (fe x) (x.drop (cU x))≤(x.drop (cU x)).length:=lp _ _
 have hnum:cA (x++v)=cA x:=by
  unfold cA
  rw [e0,hhead,hbase,hrun]
  split
  ·have key:((3≤(x++v).length∧bAt (x++v) 2=39∧hZ (bAt (x++v) 1)=true∧bAt (x++v) 1≠39∧bAt (x++v) 1≠92))↔(3≤x.length∧bAt x 2=39∧hZ (bAt x 1)=true∧bAt x 1≠39∧bAt x 1≠92):=by
    by_cases h3:3≤x.length
    ·rw [iu (by omega),iu (by omega),List.length_append]
     simp [h3]
     omega
    ·constructor
     ·rintro ⟨-,h,-⟩
      rw [wG (by omega)] at h
      exact absurd h (Cp hv _).2.1
     ·rintro ⟨h,-⟩
      exact absurd h h3
   have e1':3≤x.length→bAt (x++v) 1=bAt x 1:=fun h=>iu (by omega)
   by_cases hk:3≤x.length∧bAt x 2=39∧hZ (bAt x 1)=true∧bAt x 1≠39∧bAt x 1≠92
   ·rw [if_pos hk,if_pos (key.2 hk),e1' hk.1]
   ·rw [if_neg hk,if_neg (fun h=>hk (key.1 h))]
  ·rw [List.drop_append_of_le_length hhl,uU hrl]
 have hnl:=xO x
 have hquo:fq (x++v)=fq x:=by
  unfold fq
  rw [List.drop_append_of_le_length (by omega),vK hv _ _ (Nat.le_refl _)]
 have hsig:dr (x++v)=dr x:=by
  unfold dr
  rw [e0]
  have h1:=e1 60 (by decide) (by decide)
  have h2:=e1 62 (by decide) (by decide)
  have i1:(1<(x++v).length∧(bAt x 0=60∧bAt (x++v) 1=60∨bAt x 0=62∧bAt (x++v) 1=62))↔(1<x.length∧(bAt x 0=60∧bAt x 1=60∨bAt x 0=62∧bAt x 1=62)):=by
   constructor
   ·rintro ⟨g,⟨a,b⟩ | ⟨a,b⟩⟩
    ·exact ⟨(h1.1 ⟨g,b⟩).1,.inl ⟨a,(h1.1 ⟨g,b⟩).2⟩⟩
    ·exact ⟨(h2.1 ⟨g,b⟩).1,.inr ⟨a,(h2.1 ⟨g,b⟩).2⟩⟩
   ·rintro ⟨g,⟨a,b⟩ | ⟨a,b⟩⟩
    ·exact ⟨(h1.2 ⟨g,b⟩).1,.inl ⟨a,(h1.2 ⟨g,b⟩).2⟩⟩
    ·exact ⟨(h2.2 ⟨g,b⟩).1,.inr ⟨a,(h2.2 ⟨g,b⟩).2⟩⟩
  have i2:(0<(x++v).length∧bAt x 0∈oV)↔(0<x.length∧bAt x 0∈oV):=by
   rw [List.length_append]
   exact ⟨fun h=>⟨hxl,h.2⟩,fun h=>⟨by omega,h.2⟩⟩
  simp only [i1,i2]
 have hfol:((cA x).2<(x++v).length∧dc (bAt (x++v) (cA x).2)=true)↔((cA x).2<x.length∧dc (bAt x (cA x).2)=true):=by
  by_cases h:(cA x).2<x.length
  ·rw [iu h,List.length_append]
   exact ⟨fun g=>⟨h,g.2⟩,fun g=>⟨by omega,g.2⟩⟩
  ·have e:(cA x).2=x.length:=by omega
   rw [wG (by omega),e,Nat.sub_self,b1]
   simp
 unfold lF
 rw [e0,hw,hnum,hquo,hsig,uU (lp _ _),uU (ye x)]
 simp only [hfol]
theorem vT:∀ (N:Nat) (m:List Int) (q:Nat),m.length≤N→(ci q (m++v)).1=(ci q m).1∧(ci q (m++v)).2.2=(ci q m).2.2
 | N,m,q,hN=>by
  by_cases hm:bO aO m=m.length
  ·have hb:∀ c∈m,aO c=true:=by
    have:=r4 m
    rw [hm,List.take_length] at this
    exact this
   rw [ip hb,eM (l:=v) hv.d,eM (l:=m) (by rw [hm,List.drop_length];rfl)]
   exact ⟨rfl,rfl⟩
  ·have hlt:bO aO m<m.length:=by have:=lp aO m;omega
   have hr:bO aO (m++v)=bO aO m:=by
    refine tV aO _ _ (by rw [List.length_append];omega) (fun i hi=>?_) (fun _=>?_)
    ·rw [iu (by omega)]
     exact nP aO m i hi
    ·rw [iu hlt]
     exact ri aO m hlt
   have hx:m.drop (bO aO m)≠[]:=by
    intro e
    have:=congrArg List.length e
    rw [List.length_drop,List.length_nil] at this
    omega
   obtain ⟨o1,o2⟩:=Mg hv hx
   have hd:(m++v).drop (bO aO m)=m.drop (bO aO m)++v:=List.drop_append_of_le_length (by omega)
   cases hdn:eI (m.drop (bO aO m)) with
   | true =>
    rw [eM (l:=m) hdn,eM (l:=m++v) (by rw [hr,hd,o2];exact hdn)]
    exact ⟨rfl,rfl⟩
   | false =>
    rcases ho:lF (m.drop (bO aO m)) with e | ⟨t,n⟩
    ·rw [fx (l:=m) hdn ho,fx (l:=m++v) (by rw [hr,hd,o2];exact hdn) (by rw [hr,hd,o1];exact ho)]
     exact ⟨rfl,rfl⟩
    ·rw [ia (l:=m) hdn ho,ia (l:=m++v) (by rw [hr,hd,o2];exact hdn) (by rw [hr,hd,o1];exact ho),hr]
     have hn:=lm (l:=m.drop (bO aO m)) (by rw [List.length_drop];omega) ho
     rw [List.length_drop] at hn
     rw [List.drop_append_of_le_length (l₁:=m) (by omega)]
     cases N with
     | zero=>omega
     | succ N =>
      obtain ⟨t1,t2⟩:=vT N (m.drop (bO aO m+n)) (q+bO aO m+n) (by rw [List.length_drop];omega)
      rw [t1,t2]
      exact ⟨rfl,rfl⟩
end
theorem t8:∀ (N:Nat) (m:List Int) (p q:Nat),m.length≤N→(ci p m).1.map fA=(ci q m).1.map fA∧(ci p m).2.2=(ci q m).2.2
 | N,m,p,q,hN=>by
  cases hdn:eI (m.drop (bO aO m)) with
  | true =>
   rw [eM hdn,eM hdn]
   exact ⟨rfl,rfl⟩
  | false =>
   rcases ho:lF (m.drop (bO aO m)) with e | ⟨t,n⟩
   ·rw [fx hdn ho,fx hdn ho]
    exact ⟨rfl,rfl⟩
   ·have hne:(m.drop (bO aO m)).length≠0:=fun e=>by
     have:m.drop (bO aO m)=[]:=List.length_eq_zero_iff.1 e
     rw [this] at hdn
     cases hdn
    have hn:=lm hne ho
    rw [List.length_drop] at hn hne
    rw [ia hdn ho,ia hdn ho]
    cases N with
    | zero=>omega
    | succ N =>
     obtain ⟨t1,t2⟩:=t8 N (m.drop (bO aO m+n)) (p+bO aO m+n) (q+bO aO m+n) (by rw [List.length_drop];omega)
     refine ⟨?_,t2⟩
     simp only [List.map_cons,t1]
     rfl
theorem ED {bs v m:List Int} (hb:∀ c∈bs,aO c=true) (hv:GR v) (hl:bs.length+(m.length+v.length)≤512) :
  (kr (bs++(m++v))).1.map fA=(kr m).1.map fA∧(kr (bs++(m++v))).2.2=(kr m).2.2:=by
 unfold kr
 rw [if_neg (by rw [List.length_append,List.length_append];omega),if_neg (by omega),ip hb]
 obtain ⟨t1,t2⟩:=vT hv _ m (0+bs.length) (Nat.le_refl _)
 rw [t1,t2]
 exact t8 _ m _ _ (Nat.le_refl _)
theorem AT:∀ k:Nat,k<9→GR (List.replicate k 32++[32,47,47,32,97]):=by
 have h:∀ k:Fin 9,aO (bAt (List.replicate k.val 32++[32,47,47,32,97]) 0)=true∧(∀ c∈(List.replicate k.val 32++[32,47,47,32,97]:List Int),c≠34∧c≠39∧c≠92)∧eI ((List.replicate k.val 32++[32,47,47,32,97]:List Int).drop (bO aO (List.replicate k.val 32++[32,47,47,32,97]:List Int)))=true:=by decide +kernel
 intro k hk
 obtain ⟨a,b,c⟩:=h ⟨k,hk⟩
 exact ⟨a,b,c⟩
end
section
open Go.RowKit
theorem RD {ρ:Nat→Loc} {al:Al} {sz:Nat} {v:Value} (h:LRep ρ al (.v (.slice none 0 0)) v):LRep ρ al (.d (.sd sz [])) v:=by
 have hv:v=.slice none 0 0:=h
 rw [hv]
 simp only [LRep,DRep]
 exact ⟨none,0,rfl,Nat.le_refl _,fun h=>absurd rfl h⟩
theorem Wk.deepC {ro:Cf} {s:St} (b j:Nat) (sz:Nat) {k:Blk} {xs:List LV} (hk:hget s.h b=some k) (hx:k.els=[xs]) (hj:xs[j]? = some (.v (.slice none 0 0))) :
  Wk ro s ⟨s.nx,s.t,(b,some { k with els:=[xs.set j (.d (.sd sz []))] })::s.h⟩:=by
 intro n B w0 ρ al a w _ H
 have hb':=H.w.blk b k hk
 refine ⟨ρ,al,H.size,H.defers,H.t,H.w.retell hk rfl (fun _=>by rw [hx];simp) ⟨hb'.here,hb'.own,hb'.sz,?_,?_,?_,hb'.room⟩,H.al⟩
 ·intro e he
  simp only [List.mem_singleton] at he
  subst he
  rw [List.length_set]
  exact hb'.len xs (by rw [hx];simp)
 ·have:=hb'.cap;rw [hx] at this;exact this
 ·intro i j' x hc
  obtain ⟨rfl,h2⟩:=r8 hc
  rw [List.getElem?_set] at h2
  split at h2
  ·rename_i ej
   subst ej
   split at h2
   ·injection h2 with h2
    subst h2
    obtain ⟨y,g1,g2,g3⟩:=hb'.cells 0 j _ (by rw [hx];exact (show cellAt [xs] 0 j=_ from hj))
    exact ⟨y,g1,g2,RD g3⟩
   ·cases h2
  ·exact hb'.cells 0 j' x (by rw [hx];exact h2)
end
section
open Go.RowKit
def gV (n:ByteArray):Bool:=fI (ab n)&&!decide (n=tk)
def rS (s:StV):Bool :=
 decide (0≤s.kind∧s.kind≤7)&&(decide (s.name=emp∧s.opers=[])||decide (s.kind=1))&&(decide (s.names=[])||decide (s.kind=2∨s.kind=3∨s.kind=7))
  && (decide (s.vals=[])||decide (s.kind=4∨s.kind=5∨s.kind=7))&&(decide (s.size=0)||decide (s.kind=5))&&(decide (s.bytes=[])||decide (s.kind=6))
def bG (s:StV):Bool :=
 if s.kind=1 then fI (ab s.name)&&!cM s.name tk
 else if s.kind=2 then decide (s.names.length=1)
 else if s.kind=3 then decide (0<s.names.length)
 else if s.kind=4 then decide (s.vals.length=1)
 else if s.kind=5 then decide (0<s.vals.length)&&decide (s.size=1∨s.size=4∨s.size=8)
 else if s.kind=7 then decide (s.names.length=1)&&decide (s.vals.length=1)
 else true
def mg:List Val→Int
 | []=>0
 | v::r=>if (Ex.printF v).2=0 then mg r else (Ex.printF v).2
def sA (l:List OpV):Int:=if cM (gl l).1 gy=true then 110 else (gl l).2
def e7 (s:StV):Int :=
 if (s.labels.all gV&&rS s)=false then 110
 else if 8<s.labels.length∨64<s.names.length∨64<s.vals.length then 3
 else if (bG s&&s.names.all fun n=>fI (ab n))=false then 110
 else if s.kind=4∧iM (s.vals.getD 0 ⟨0,emp,emp⟩)=false then 7
 else if ¬mg s.vals=0 then mg s.vals else sA s.opers
def cJ (l:List Val):List ByteArray:=l.map fun v=>(Ex.printF v).1
def uK (b:List Int):ByteArray:=bu (sD b)
def bK (s:StV):ByteArray×ByteArray :=
 if s.kind=1 then (s.name,(gl s.opers).1)
 else if s.kind=2 then (if s.names.getD 0 emp=jX∨s.names.getD 0 emp=ke then (s.names.getD 0 emp,emp) else (f7,s.names.getD 0 emp))
 else if s.kind=3 then (jd,kl s.names)
 else if s.kind=4 then (jG,(cJ s.vals).getD 0 emp)
 else if s.kind=5 then (if s.size=1 then pX else if s.size=4 then nA else rM,kl (cJ s.vals))
 else if s.kind=6 then (nE,uK s.bytes)
 else if s.kind=7 then (xb,s.names.getD 0 emp++gQ++(cJ s.vals).getD 0 emp)
 else (emp,emp)
def oh:List ByteArray→ByteArray
 | []=>emp
 | x::r=>r.foldl (fun a y=>a++⟨#[32]⟩++y) x
def Gn (s:StV):ByteArray:=oh ((s.labels.map fun n=>n++gy)++[(bK s).1,(bK s).2].filter fun w=>!decide (w=emp))
def nh (s:StV):ByteArray×Int:=if ¬e7 s=0 then (emp,e7 s) else if 512<(Gn s).size then (emp,3) else (Gn s,0)
def Pt (s:StV):StV:={ s with opers:=s.opers.map Mx }
end
section
open Go.RowKit
theorem AU {l:List Tok} {k:Int} {n:Nat} (h:isF l k n=true):n<l.length:=by
 unfold isF at h
 split at h
 ·rename_i t ht;exact (List.getElem?_eq_some_iff.1 ht).1
 ·cases h
theorem tK {k e:Int} {l r:List Tok} {t:ByteArray} (h:RdOk l) (hn:nextF k e l=.ok (t,r)):RdOk r∧r.length<l.length∧r=l.drop 1∧t=atF l k 0∧isF l k 0=true:=by
 unfold nextF at hn
 split at hn
 ·rename_i h1
  injection hn with hn
  injection hn with h2 h3
  subst h2 h3
  have:=AU h1
  exact ⟨h.drop 1,by rw [List.length_drop];omega,rfl,rfl,h1⟩
 ·cases hn
theorem su:∀ {N:Nat} {out ls:List ByteArray} {l r:List Tok},RdOk l→out.length≤8→labelsF N out l=.ok (ls,r)→RdOk r∧ls.length≤8
 | 0,out,ls,l,r,h,ho,e=>by
  injection e with e
  injection e with e1 e2
  subst e1 e2
  exact ⟨h,ho⟩
 | N+1,out,ls,l,r,h,ho,e=>by
  unfold labelsF at e
  split at e
  ·split at e
   ·cases e
   ·split at e
    ·cases e
    ·refine su (h.drop 2) ?_ e
     rw [List.length_append,List.length_singleton]
     omega
  ·injection e with e
   injection e with e1 e2
   subst e1 e2
   exact ⟨h,ho⟩
structure BodyOk (a b:Nat) (p:PsV):Prop where
 toks:RdOk p.l
 names:p.s.names.length≤a
 vals:p.s.vals.length≤b
 good:∀ v∈p.s.vals,Ex.GoodV v
theorem BodyOk.to {a b a' b':Nat} {p:PsV} (h:BodyOk a b p) (h1:a≤a') (h2:b≤b'):BodyOk a' b' p:=⟨h.toks,by have:=h.names;omega,by have:=h.vals;omega,h.good⟩
theorem BodyOk.with {a b:Nat} {p:PsV} (h:BodyOk a b p) {l:List Tok} (hl:RdOk l) {s:StV} (h1:s.names=p.s.names) (h2:s.vals=p.s.vals):BodyOk a b ⟨l,s⟩:=⟨hl,by rw [h1];exact h.names,by rw [h2];exact h.vals,by rw [h2];exact h.good⟩
theorem qv {a b:Nat} {p q:PsV} (h:BodyOk a b p) (e:nameR p=.ok q):BodyOk (a+1) b q∧q.l.length<p.l.length:=by
 unfold nameR at e
 rcases hn:nextF 1 112 p.l with x | ⟨t,l⟩
 ·rw [hn] at e;cases e
 ·rw [hn] at e
  injection e with e
  subst e
  obtain ⟨g1,g2,-⟩:=tK h.toks hn
  refine ⟨⟨g1,?_,h.vals,h.good⟩,g2⟩
  simp only [List.length_append,List.length_singleton]
  have:=h.names
  omega
theorem ub {a b:Nat} {p q:PsV} (h:BodyOk a b p) (e:valR2 p=.ok q):BodyOk a (b+1) q∧q.l.length<p.l.length:=by
 unfold valR2 at e
 rcases hn:valueR p.l with x | ⟨v,l⟩
 ·rw [hn] at e;cases e
 ·rw [hn] at e
  injection e with e
  subst e
  obtain ⟨g1,g2,g3⟩:=jj h.toks hn
  refine ⟨⟨g2,h.names,?_,?_⟩,g3⟩
  ·simp only [List.length_append,List.length_singleton]
   have:=h.vals
   omega
  ·intro w hw
   simp only [List.mem_append,List.mem_singleton] at hw
   rcases hw with hw | rfl
   ·exact h.good w hw
   ·exact g1
theorem kM {a b:Nat} {p:PsV} (h:BodyOk a b p):BodyOk a b ⟨p.l.drop 1,p.s⟩:=⟨h.toks.drop 1,h.names,h.vals,h.good⟩
theorem GD:∀ {N a b:Nat} {p q:PsV},BodyOk a b p→fh nameR N p=.ok q→BodyOk (a+(N+1)) b q
 | N,a,b,p,q,h,e=>by
  unfold fh at e
  rcases h1:nameR p with x | p1
  ·rw [h1] at e;cases e
  ·rw [h1] at e
   obtain ⟨g,-⟩:=qv h h1
   simp only at e
   split at e
   ·cases N with
    | zero=>cases e
    | succ N=>exact (GD (kM g) e).to (by omega) (Nat.le_refl _)
   ·injection e with e
    subst e
    exact g.to (by omega) (Nat.le_refl _)
theorem GE:∀ {N a b:Nat} {p q:PsV},BodyOk a b p→fh valR2 N p=.ok q→BodyOk a (b+(N+1)) q
 | N,a,b,p,q,h,e=>by
  unfold fh at e
  rcases h1:valR2 p with x | p1
  ·rw [h1] at e;cases e
  ·rw [h1] at e
   obtain ⟨g,-⟩:=ub h h1
   simp only at e
   split at e
   ·cases N with
    | zero=>cases e
    | succ N=>exact (GE (kM g) e).to (Nat.le_refl _) (by omega)
   ·injection e with e
    subst e
    exact g.to (Nat.le_refl _) (by omega)
theorem wO {n:Int} {p q:PsV} (h:BodyOk 0 0 p) (e:eU n p=.ok q):BodyOk 64 64 q:=by
 unfold eU at e
 exact (GE (p:=⟨p.l,{ p.s with kind:=5,size:=n }⟩) (h.with h.toks rfl rfl) e).to (by omega) (by omega)
theorem MD {name:ByteArray} {p q:PsV} (h:BodyOk 0 0 p) (e:readR name p=.ok q):BodyOk 64 64 q:=by
 unfold readR at e
 split at e
 ·injection e with e
  subst e
  exact ⟨h.toks,by simp,by have:=h.vals;simp only;omega,h.good⟩
 split at e
 ·exact (qv (p:=iB 2 p) (h.with h.toks rfl rfl) e).1.to (by omega) (by omega)
 split at e
 ·exact (GD (p:=iB 3 p) (h.with h.toks rfl rfl) e).to (by omega) (by omega)
 split at e
 ·unfold jn at e
  rcases h1:valR2 (iB 4 p) with x | p1
  ·rw [h1] at e;cases e
  ·rw [h1] at e
   simp only at e
   split at e
   ·injection e with e
    subst e
    exact (ub (p:=iB 4 p) (h.with h.toks rfl rfl) h1).1.to (by omega) (by omega)
   ·cases e
 split at e
 ·exact wO h e
 split at e
 ·exact wO h e
 split at e
 ·exact wO h e
 split at e
 ·unfold jo at e
  rcases h1:nextF 3 112 (iB 6 p).l with x | ⟨t,l⟩
  ·rw [h1] at e;cases e
  ·rw [h1] at e
   injection e with e
   subst e
   have h2:BodyOk 0 0 ⟨l,{ (iB 6 p).s with bytes:=ab t }⟩:=h.with (tK (l:=p.l) h.toks h1).1 rfl rfl
   exact h2.to (by omega) (by omega)
 split at e
 ·unfold p9 at e
  rcases h1:nameR (iB 7 p) with x | p1
  ·rw [h1] at e;cases e
  ·rw [h1] at e
   obtain ⟨g,-⟩:=qv (p:=iB 7 p) (h.with h.toks rfl rfl) h1
   simp only at e
   split at e
   ·exact (ub (kM g) e).1.to (by omega) (by omega)
   ·cases e
 ·cases e
end
section
open Go.RowKit
theorem Jp {bs v m:List Int} (hb:∀ c∈bs,aO c=true) (hv:GR v) (hl:bs.length+(m.length+v.length)≤512):fi (bs++(m++v))=fi m:=by
 obtain ⟨h1,h2⟩:=ED hb hv hl
 unfold fi
 rw [h2,← vE,h1,vE]
theorem Dn {m:List Int} {a b:Nat} (ha:a<9) (hb:b<9) (hm:m.length≤482):fi (List.replicate a 32++(m++(List.replicate b 32++[32,47,47,32,97])))=fi m:=by
 refine Jp (fun c hc=>?_) (AT b hb) ?_
 ·rw [List.eq_of_mem_replicate hc]
  rfl
 ·rw [List.length_replicate,List.length_append,List.length_replicate]
  simp only [List.length_cons,List.length_nil]
  omega
end
end Go.Proofs.YtnhbidpdadkcjaaGreatDoor
