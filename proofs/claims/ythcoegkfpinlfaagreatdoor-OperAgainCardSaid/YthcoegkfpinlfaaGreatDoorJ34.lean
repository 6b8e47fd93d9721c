import Derived.Test.YthcoegkfpinlfaaGreatDoorJ33
import Derived.Test.YthcoegkfpinlfaaGreatDoorJ29
set_option linter.unusedVariables false
set_option linter.unusedSimpArgs false
set_option maxRecDepth 100000
set_option maxHeartbeats 8000000
namespace Go.Proofs.YthcoegkfpinlfaaGreatDoor
section
open Go.RowKit
open Ex (aK aZ valT ValOk)
theorem wM (s:ByteArray) (l:List Tok):br s (aK s::l)=(true,l):=by
 unfold br
 rw [if_pos (mY s l)];rfl
theorem uL {s:ByteArray} {l:List Tok} (h:¬atF l 4 0=s):br s l=(false,l):=by
 unfold br
 rw [if_neg h]
theorem NK {o:OpV} (h:eN o=true):eN (la o.r)=true:=by
 unfold eN at h ⊢
 simp only [Bool.and_eq_true] at h
 obtain ⟨⟨⟨⟨⟨h1,h2⟩,h3⟩,-⟩,-⟩,-⟩:=h
 simp only [la,h1,h2,Bool.true_and]
 rw [h3]
 rfl
theorem NQ (l:List Tok):operR (aK AN::l)=fg l:=by
 unfold operR
 rw [te,if_neg (by simp),mY,if_pos rfl]
 rfl
theorem BB {o:OpV} (hm:eN o=true) (l:List Tok):fg (aZ (dy o.r)::l)=if (br dE l).1=true then nr (la o.r) (br dE l).2 else gz (la o.r) l:=by
 have hr:=(ng hm).1
 have e:(au (aZ (dy o.r)::l)).2=l:=by
  unfold au
  rw [uK hr]
  rfl
 unfold fg
 rw [uK hr,e,if_neg (by rw [NK hm];simp)]
def Fh (o:OpV) (r:List Tok):Prop:=aloneM o=true→¬(atF r 4 0=aY∧atF r 4 1=bc)
section
variable {o:OpV} {r:List Tok}
theorem Lj (h:OpOk o) (k:o.kind=5) (hr:Tail r) (ha:Fh o r):operR (txT o++r)=.ok (aN o,r):=by
 obtain ⟨hb,hc⟩:=dr (dz h.chk).1
 have hm:eN o=true:=by rcases hc with ⟨k2,_⟩ | ⟨k2,_⟩ | k2 | ⟨k2,_⟩ | ⟨_,hm⟩<;>first | exact hm | omega
 obtain ⟨m1,m2,m3⟩:=ng hm
 have et:txT o=(vR o).map (·.2):=by
  unfold txT gX
  rw [if_neg (by omega),if_neg (by omega),if_neg (by omega),if_neg (by omega),if_neg (by omega),if_neg (by omega),if_neg (by omega),if_neg (by omega)]
 have hv:=h.val
 rw [gj (by omega),et]
 unfold vR
 rw [List.map_cons,List.map_cons,List.cons_append,List.cons_append]
 show operR (aK AN::aZ (dy o.r)::_)=_
 rw [NQ,BB hm]
 rcases m3 with e | e | e | ⟨e,hi⟩
 ·
  have sh:(⟨5,o.r,r0,0,0,0,o.add,o.plus,o.minus,o.lo,0⟩:OpV)=o:=by
   have:=hb
   unfold fX at this
   rwa [if_neg (by omega),if_neg (by omega),if_neg (by omega),if_pos k,if_pos e,k,e] at this
  rw [if_neg (show ¬o.mode=1 by omega),if_neg (show ¬o.mode=2 by omega),if_neg (show ¬o.mode=3 by omega)]
  by_cases hz:(o.add=0∧o.plus=emp∧o.minus=emp)∧o.lo=false
  ·rw [if_pos hz]
   show (if (br dE (aK dE::r)).1=true then _ else _)=_
   rw [show [sg dE].map (fun x:Bool×Tok=>x.2)++r=aK dE::r from rfl,wM,if_pos rfl]
   unfold nr
   have hal:aloneM o=true:=by
    unfold aloneM
    rw [k,e,decide_eq_true hz.1.1,decide_eq_true hz.1.2.1,decide_eq_true hz.1.2.2,hz.2];rfl
   rw [if_neg (ha hal)]
   rw [hz.1.1,hz.1.2.1,hz.1.2.2,hz.2] at sh
   rw [show la o.r=o from sh]
  ·rw [if_neg hz,List.map_cons,List.map_append,uM,uD]
   show (if (br dE (aK aY::(pC o++[aK dE]++r))).1=true then _ else gz (la o.r) (aK aY::(pC o++[aK dE]++r)))=_
   rw [uL (by rw [mY];decide),if_neg (by simp)]
   unfold gz
   rw [im]
   simp only
   cases hl:o.lo with
   | true =>
    have el:pC o=aK dO::aZ lR::aK dO::valT o.val:=by unfold pC;rw [if_pos hl]
    rw [el,show (aK dO::aZ lR::aK dO::valT o.val)++[aK dE]++r=aK dO::aZ lR::aK dO::(valT o.val++(aK dE::r)) by simp,te,if_neg (by simp),KF]
    show vO (la o.r) (valT o.val++aK dE::r)=_
    unfold vO
    rw [fQ hv (uy r)]
    simp only
    rw [im]
    rw [hl] at sh
    simp only
    rw [show ({ lh (la o.r) o.val with lo:=true }:OpV)=o from sh]
   | false =>
    have el:pC o=aK bc::valT o.val:=by unfold pC;rw [if_neg (by rw [hl];simp)]
    rw [el,show (aK bc::valT o.val)++[aK dE]++r=aK bc::(valT o.val++(aK dE::r)) by simp,te,if_neg (by simp),FX (by rw [mY];decide)]
    simp only
    rw [if_neg (by simp)]
    unfold wm
    rw [im]
    simp only
    rw [fQ hv (uy r)]
    simp only
    rw [im]
    simp only
    rw [uL (hr.not (by decide) (by decide)),if_neg (by simp)]
    rw [hl] at sh
    rw [show (lh (la o.r) o.val:OpV)=o from sh]
 ·
  have sh:(⟨5,o.r,r0,0,0,0,o.add,o.plus,o.minus,false,1⟩:OpV)=o:=by
   have:=hb
   unfold fX at this
   rwa [if_neg (by omega),if_neg (by omega),if_neg (by omega),if_pos k,if_neg (by omega),if_neg (by omega),k,e] at this
  have hl:o.lo=false:=(congrArg OpV.lo sh).symm
  have el:pC o=aK bc::valT o.val:=by unfold pC;rw [if_neg (by rw [hl];simp)]
  rw [if_pos e,List.map_cons,List.map_append,uM,uD,el]
  rw [show (sg aY).2::((aK bc::valT o.val)++[sg dE,sg rD].map (fun x:Bool×Tok=>x.2))++r=aK aY::aK bc::(valT o.val++(aK dE::aK rD::r)) by simp [sg]]
  rw [uL (by rw [mY];decide),if_neg (by simp)]
  unfold gz
  rw [im]
  simp only
  rw [te,if_neg (by simp),FX (by rw [mY];decide)]
  simp only
  rw [if_neg (by simp)]
  unfold wm
  rw [im]
  simp only
  rw [fQ hv (uy _)]
  simp only
  rw [im]
  simp only
  rw [wM,if_pos rfl]
  rw [show ({ lh (la o.r) o.val with mode:=1 }:OpV)=o from sh]
 ·
  have sh:(⟨5,o.r,r0,0,0,0,o.add,o.plus,o.minus,false,2⟩:OpV)=o:=by
   have:=hb
   unfold fX at this
   rwa [if_neg (by omega),if_neg (by omega),if_neg (by omega),if_pos k,if_neg (by omega),if_neg (by omega),k,e] at this
  have hl:o.lo=false:=(congrArg OpV.lo sh).symm
  have el:pC o=aK bc::valT o.val:=by unfold pC;rw [if_neg (by rw [hl];simp)]
  rw [if_neg (show ¬o.mode=1 by omega),if_pos e,List.map_cons,List.map_cons,uM,uD,el]
  rw [show (sg dE).2::(sg aY).2::(aK bc::valT o.val)++r=aK dE::aK aY::aK bc::(valT o.val++r) by simp [sg]]
  rw [wM,if_pos rfl]
  unfold nr
  rw [if_pos ⟨rfl,rfl⟩]
  show (match valueR (valT o.val++r) with | .error e=>_ | .ok (v,l)=>_)=_
  rw [fQ hv hr.ends]
  simp only
  rw [show ({ lh (la o.r) o.val with mode:=2 }:OpV)=o from sh]
 ·
  have sh:(⟨5,o.r,o.m,o.md,o.amt,0,0,emp,emp,false,3⟩:OpV)=o:=by
   have:=hb
   unfold fX at this
   rwa [if_neg (by omega),if_neg (by omega),if_neg (by omega),if_pos k,if_neg (by omega),if_pos e,k,e] at this
  obtain ⟨i1,i2,i3,i4⟩:=sP hi
  rw [if_neg (show ¬o.mode=1 by omega),if_neg (show ¬o.mode=2 by omega),if_pos e,List.map_cons,List.map_cons,List.map_append]
  have key:∀ (x:List Tok),changedR ({ la o.r with mode:=3,m:=o.m,md:=1,amt := -1 }:OpV) 12 (-1) (x++aK dE::r)=.ok (o,aK dE::r) →
    (if (br dE (aK aY::aZ (dy o.m)::(x++aK dE::r))).1=true then nr (la o.r) (br dE (aK aY::aZ (dy o.m)::(x++aK dE::r))).2 else gz (la o.r) (aK aY::aZ (dy o.m)::(x++aK dE::r)))=.ok (o,r):=fun x hx=>by
   rw [uL (by rw [mY];decide),if_neg (by simp)]
   unfold gz
   rw [im]
   simp only
   rw [uK i1,if_pos rfl]
   show uh ({ la o.r with mode:=3,m:=o.m,md:=1,amt := -1 }:OpV) (x++aK dE::r)=_
   unfold uh
   rw [hx]
   simp only
   rw [if_neg (by rw [hi];simp),im]
  by_cases hp:o.md=1∧o.amt = -1
  ·rw [if_pos hp]
   rw [hp.1,hp.2] at sh
   exact key [] (by rw [List.nil_append,xg (by decide),show ({ la o.r with mode:=3,m:=o.m,md:=1,amt := -1 }:OpV)=o from sh])
  ·rw [if_neg hp,zP]
   rw [show (sg aY).2::(true,aZ (dy o.m)).2::(uj o (o.amt == -1)++[sg dE].map (fun x:Bool×Tok=>x.2))++r=aK aY::aZ (dy o.m)::(uj o (o.amt == -1)++aK dE::r) by simp [sg]]
   refine key _ ?_
   have hm3:=zL (o:=o) (by omega) (by omega)
   unfold uj
   rw [if_neg (by omega)]
   by_cases hs:o.amt = -1
   ·rw [if_pos (by rw [hs];rfl)]
    rw [show [aK aY,aZ (ay 3 o.md).1]++aK dE::r=aK aY::aZ (ay 3 o.md).1::aK dE::r from rfl,pn hm3 (by omega) (by omega) (by rw [mY];decide)]
    rw [hs] at sh
    simp only [la,sh]
   ·rw [if_neg (by simpa using hs)]
    rw [show [aK aY,aZ (ay 3 o.md).1,aK bc,Ex.numT o.amt]++aK dE::r=aK aY::aZ (ay 3 o.md).1::aK bc::Ex.numT o.amt::aK dE::r from rfl,pm hm3 (by omega) (by omega) (by omega) (uy r)]
    simp only [la,sh]
theorem Ll (h:OpOk o) (hr:Tail r) (ha:Fh o r):operR (txT o++r)=.ok (aN o,r):=by
 obtain ⟨hb,hc⟩:=dr (dz h.chk).1
 rcases hc with ⟨k,_⟩ | ⟨k,_⟩ | k | ⟨k,_⟩ | ⟨k,_⟩
 ·exact Ln h k hr
 ·exact Lk h k hr
 ·exact Ob h k hr
 ·rcases k with k | k | k | k | k
  ·exact Iu h k
  ·exact Lp h k
  ·exact Lh h k hr
  ·exact Lm h k hr
  ·exact Li h k
 ·exact Lj h k hr ha
end
end
section
open Go.RowKit
open Ex (aK aZ valT ValOk)
theorem N9 {n:Int} (h:0≤n):Ex.printF ⟨n,emp,emp⟩=(gV n,0):=by
 unfold Ex.printF gV
 rw [if_neg (by simp),if_neg (by simp),if_pos ⟨rfl,rfl⟩,if_neg (show ¬n<0 by omega)]
theorem AS {v:Val} (h:(Ex.printF v).2=0):fi (iI v false)=0:=by
 have hk:(iI v false).kind=2:=rfl
 have hl:(iI v false).lo=false:=rfl
 have hb:fX (iI v false)=iI v false:=by
  unfold fX
  rw [if_neg (by omega),if_pos hk,if_neg (by rw [hl];simp)]
  rfl
 have ha:dF (iI v false) 1=true:=rfl
 have hf:iH (iI v false)=true:=by
  unfold iH
  rw [if_neg (not_not_intro hb),if_neg (by omega),if_pos hk,ha]
 unfold fi
 rw [hf,if_neg (by simp),if_neg (not_not_intro (show (prO (iI v false)).2=0 from h)),if_neg]
 rintro ⟨h3,-⟩
 omega
theorem my (s:ByteArray):ac (bc++s) 0=35:=by
 rw [jr,bJ]
 rfl
theorem yU (v:Val):aT (iI v false)=bc++(Ex.printF v).1:=by
 have hk:(iI v false).kind=2:=rfl
 unfold aT
 rw [if_neg (by omega),if_pos hk]
 show (bc++(Ex.printF v).1)++emp=_
 exact ByteArray.append_empty
def QJ (j:Int):Bool:=!decide ((ap 3 6 (ay 8 j).1).2=0)||(decide (fi (ju 6 (ap 3 6 (ay 8 j).1).1)=0)&&!(ac (aT (ju 6 (ap 3 6 (ay 8 j).1).1)) 0==35))
theorem Nt:∀ j:Fin 6,QJ (j.val:Int)=true∧(ac (ay 8 (j.val:Int)).1 0==35)=false:=by decide +kernel
structure ze (o p:OpV):Prop where
 ok:OpOk p
 hash:(ac (aT p) 0==35)=(ac (aT o) 0==35)
 alone:p=o∨aloneM p=false
theorem yA {o:OpV} (h:OpOk o) {n:Int} (n0:0≤n) (n1:n<100) (ht:aT o=bc++gV n):ze o (pF n):=by
 have e:pF n=iI ⟨n,emp,emp⟩ false:=rfl
 refine ⟨⟨⟨⟨by show emp.size≤_;decide,by show emp.size≤_;decide⟩,by show -9223372036854775808≤n;omega,by show n≤9223372036854775807;omega⟩,?_⟩,?_,.inr rfl⟩
 ·rw [e];exact AS (by rw [N9 n0])
 ·rw [e,yU,ht,my,my]
theorem wl {o:OpV} (h:OpOk o):ze o (aN o):=by
 have same:aN o=o→ze o (aN o):=fun e=>by rw [e];exact ⟨h,rfl,.inl rfl⟩
 by_cases k3:o.kind=3
 ·cases ha:kW o with
  | true =>
   have ep:aN o=iI o.val false:=by
    unfold aN
    rw [if_neg (not_not_intro h.chk),if_pos k3,if_pos ha];rfl
   have et:aT o=bc++mh o:=by
    unfold aT
    rw [if_neg (by omega),if_neg (by omega),if_pos k3,if_pos ha]
   rw [ep]
   refine ⟨⟨rY h.ok rfl rfl rfl,AS (dz h.chk).2.1⟩,?_,.inr rfl⟩
   rw [yU,et,my,my]
  | false =>
   refine same ?_
   unfold aN
   rw [if_neg (not_not_intro h.chk),if_pos k3,if_neg (by rw [ha];simp)]
 by_cases k7:o.kind=7
 ·by_cases hn:(ay 4 o.n).2=0
  ·refine same ?_
   unfold aN
   rw [if_neg (not_not_intro h.chk),if_neg k3,if_pos k7,if_neg (not_not_intro hn)]
  ·have ep:aN o=pF o.n:=by
    unfold aN
    rw [if_neg (not_not_intro h.chk),if_neg k3,if_pos k7,if_pos hn]
   obtain ⟨n0,n1⟩:=h.named.2.2 (.inl k7)
   rw [ep]
   refine yA h n0 n1 ?_
   unfold aT dU
   rw [if_neg (by omega),if_neg (by omega),if_neg (by omega),if_neg (by omega),if_neg (by omega),if_pos k7,if_neg hn]
 by_cases k8:o.kind=8
 ·by_cases hn:(ay 7 o.n).2=0
  ·refine same ?_
   unfold aN
   rw [if_neg (not_not_intro h.chk),if_neg k3,if_neg k7,if_pos k8,if_neg (not_not_intro hn)]
  ·have ep:aN o=pF o.n:=by
    unfold aN
    rw [if_neg (not_not_intro h.chk),if_neg k3,if_neg k7,if_pos k8,if_pos hn]
   obtain ⟨n0,n1⟩:=h.named.2.2 (.inr (.inl k8))
   rw [ep]
   refine yA h n0 n1 ?_
   unfold aT dU
   rw [if_neg (by omega),if_neg (by omega),if_neg (by omega),if_neg (by omega),if_neg (by omega),if_neg (by omega),if_pos k8,if_neg hn]
 by_cases k9:o.kind=9
 ·obtain ⟨n0,n1⟩:=h.n (.inr (.inr (.inr (.inr k9))))
  rw [k9] at n1
  obtain ⟨j,hj⟩:=Int.eq_ofNat_of_zero_le n0
  have h5:jP 9=5:=rfl
  have hj6:j<6:=by omega
  have hn:(ay 8 o.n).2=0:=by rw [hj];exact yz ⟨j,hj6⟩
  obtain ⟨f1,f2⟩:=Nt ⟨j,hj6⟩
  simp only at f1 f2
  rw [← hj] at f1 f2
  have ex:aT o=(ay 8 o.n).1:=by
   unfold aT dU
   rw [if_neg (by omega),if_neg (by omega),if_neg (by omega),if_neg (by omega),if_neg (by omega),if_neg (by omega),if_neg (by omega),if_pos k9,if_pos hn]
  have ep:aN o=if (ap 3 6 (ay 8 o.n).1).2=0 then ju 6 (ap 3 6 (ay 8 o.n).1).1 else o:=by
   unfold aN
   rw [if_neg (not_not_intro h.chk),if_neg k3,if_neg k7,if_neg k8,if_pos k9,ex]
   rfl
  by_cases h6:(ap 3 6 (ay 8 o.n).1).2=0
  ·rw [if_pos h6] at ep
   unfold QJ at f1
   rw [decide_eq_true h6] at f1
   simp only [Bool.not_true,Bool.false_or,Bool.and_eq_true,decide_eq_true_eq,Bool.not_eq_true'] at f1
   rw [ep]
   refine ⟨⟨pG rfl rfl rfl,f1.1⟩,?_,.inr rfl⟩
   rw [f1.2,ex,f2]
  ·rw [if_neg h6] at ep
   exact same ep
 ·exact same (gj ⟨k3,k7,k8,k9⟩)
theorem GT {a b:OpV} (ha:OpOk a) (hb:OpOk b) (h:fE a b=false):fE (aN a) (aN b)=false:=by
 have pa:=wl ha
 have pb:=wl hb
 rw [zzu7 ha.chk hb.chk] at h
 rw [zzu7 pa.ok.chk pb.ok.chk,pb.hash]
 rcases pa.alone with e | e
 ·rw [e];exact h
 ·rw [e];rfl
theorem nk:¬(ap 3 3 emp).2=0:=by decide +kernel
theorem Bh {o:OpV} (h:OpOk o) (x:List Tok):¬(ap 3 3 (atF (txT o++x) 1 0)).2=0:=by
 have nm:∀ {k n:Int},(k=2∨k=3∨k=4∨k=6∨k=7∨k=8)→¬k=3→¬(ap 3 3 (atF ((gC k n).map (·.2)++x) 1 0)).2=0:=fun hk h3=>by
  unfold gC
  split
  ·rename_i hn;exact (iU hk hn).2.2.1 h3
  ·exact nk
 unfold txT gX
 split
 ·rename_i k;exact (gu (h.reg k)).2.2
 split
 ·unfold mR
  split<;>exact nk
 split
 ·rename_i k
  split
  ·exact nk
  ·rename_i ha
   obtain ⟨t,y,ev,hx⟩:=yV o.val
   have hna:¬(o.plus=emp∧o.minus=emp):=fun e=>ha (by unfold kW;rw [decide_eq_true e.1,decide_eq_true e.2];rfl)
   have ht:t=if o.plus=emp then Ex.numT 0 else aZ o.plus:=hx.resolve_left hna
   rw [nN,ev,ht]
   split
   ·exact nk
   ·rename_i hp
    exact D6 (((dz h.chk).2.2 k).resolve_left hp)
 split
 ·exact nm (.inl rfl) (by decide)
 split
 ·exact nm (.inr (.inr (.inr (.inl rfl)))) (by decide)
 split
 ·exact nm (.inr (.inr (.inl rfl))) (by decide)
 split
 ·exact nm (.inr (.inr (.inr (.inr (.inl rfl))))) (by decide)
 split
 ·exact nm (.inr (.inr (.inr (.inr (.inr rfl))))) (by decide)
 ·exact nk
theorem DM {o:OpV} (h:OpOk o) {x:List Tok} (e:atF (txT o++x) 4 0=bc):ac (aT o) 0=35:=by
 obtain ⟨t,r,et⟩:=sw h
 have hc:=(tj h (false,t) (by rw [et];simp)).1
 have e2:(if t.kind=4 then t.text else emp)=bc:=by
  have:txT o++x=t::(r.map (·.2)++x):=by unfold txT;rw [et];rfl
  rw [this] at e
  exact e
 have k4:t.kind=4:=by
  by_cases k:t.kind=4
  ·exact k
  ·rw [if_neg k] at e2;exact absurd e2 (by decide)
 rw [if_pos k4] at e2
 have ex:Ex.txtL t=[35]:=by
  unfold Ex.txtL Ex.textT
  simp only at hc
  rw [if_pos hc,if_neg (by omega),if_neg (by omega),e2]
  rfl
 rw [jr,← tf h,et,bY,ex]
 rfl
def j7 (l:List OpV):List Tok:=match l with
 | []=>[]
 | o::r=>aK aY::pJ (o::r)
theorem lw (o:OpV) (r:List OpV):pJ (o::r)=txT o++j7 r:=by
 cases r with
 | nil=>rw [pJ,j7,List.append_nil]
 | cons p r=>rw [pJ,j7]
theorem IR {l:List OpV} (h:∀ o∈l,OpOk o):Tail (j7 l):=by
 cases l with
 | nil=>exact .inl rfl
 | cons p r=>exact .inr ⟨_,rfl,by rw [lw];exact Bh (h p (by simp)) _⟩
theorem Dj {o:OpV} {l:List OpV} (ho:OpOk o) (h:∀ p∈l,OpOk p) (hb:∀ p r,l=p::r→fE o p=false):Fh o (j7 l):=by
 intro ha
 cases l with
 | nil=>rintro ⟨e,-⟩;rw [show atF (j7 []) 4 0=emp from Do _ _] at e;exact absurd e (by decide)
 | cons p r =>
  rintro ⟨-,e⟩
  have e2:atF (txT p++j7 r) 4 0=bc:=by rw [← lw];exact e
  have h35:=DM (h p (by simp)) e2
  have:=hb p r rfl
  rw [zzu7 ho.chk (h p (by simp)).chk,ha,h35] at this
  cases this
theorem Cn:∀ (l pre:List OpV) (N:Nat),(∀ o∈pre++l,OpOk o)→(∀ i a b,(pre++l)[i]? = some a→(pre++l)[i+1]? = some b→fE a b=false)→pre.length+l.length≤8→l.length≤N →
  fO N (pre.map aN) (if pre=[] then pJ l else j7 l)=.ok ((pre++l).map aN)
 | [],pre,N,_,_,_,_=>by
  have:(if pre=[] then pJ [] else j7 [])=[]:=by split<;>rfl
  rw [this,eX,List.append_nil]
 | o::r,pre,0,_,_,_,hn=>by simp at hn
 | o::r,pre,N+1,h,hb,h8,hn=>by
  have ho:=h o (by simp)
  have hr:∀ p∈r,OpOk p:=fun p hp=>h p (by simp [hp])
  have hpre:∀ p∈pre,OpOk p:=fun p hp=>h p (by simp [hp])
  have hap:Fh o (j7 r):=Dj ho hr fun p q e=>by
   subst e
   exact hb pre.length o p (by simp) (by simp)
  have hop:=Ll ho (IR hr) hap
  rw [List.length_cons] at h8 hn
  have pok:=wl ho
  have hg:qx (pre.map aN) (aN o)=false:=by
   unfold qx
   cases hl:(pre.map aN).getLast? with
   | none=>rfl
   | some q' =>
    rw [List.getLast?_map,Option.map_eq_some_iff] at hl
    obtain ⟨q,hq,rfl⟩:=hl
    have hlen:0<pre.length:=by
     cases pre with
     | nil=>simp at hq
     | cons x y=>simp
    have hq1:(pre++o::r)[pre.length-1]? = some q:=by
     rw [List.getElem?_append_left (by omega),← List.getLast?_eq_getElem?];exact hq
    have hq2:(pre++o::r)[pre.length-1+1]? = some o:=by
     rw [show pre.length-1+1=pre.length by omega];simp
    exact GT (hpre q (List.mem_of_getLast? hq)) ho (hb _ _ _ hq1 hq2)
  have hs:stepR (pre.map aN) (if pre=[] then pJ (o::r) else j7 (o::r))=.ok ((pre++[o]).map aN,j7 r):=by
   have e1:(if pre.map aN=[] then (.ok (if pre=[] then pJ (o::r) else j7 (o::r)):Except Int (List Tok)) else mustR aY (if pre=[] then pJ (o::r) else j7 (o::r)))=.ok (txT o++j7 r):=by
    by_cases hp:pre=[]
    ·rw [if_pos (by rw [hp];rfl),if_pos hp,lw]
    ·rw [if_neg (by simpa using hp),if_neg hp,← lw]
     exact im _ _
   unfold stepR
   rw [e1]
   simp only
   rw [if_neg (by rw [List.length_map];omega),hop]
   simp only
   rw [if_neg (not_not_intro pok.ok.chk),if_neg (by rw [hg];simp),List.map_append]
   rfl
  have hne:(if pre=[] then pJ (o::r) else j7 (o::r))≠[]:=by
   obtain ⟨t,x,et⟩:=sw ho
   by_cases hp:pre=[]
   ·rw [if_pos hp,lw]
    unfold txT
    rw [et]
    simp
   ·rw [if_neg hp];simp [j7]
  rw [eQ hne,hs]
  simp only
  have ih:=Cn r (pre++[o]) N (by simpa using h) (by simpa using hb) (by rw [List.length_append,List.length_singleton];omega) (by omega)
  rw [if_neg (by simp)] at ih
  rw [ih]
  simp
theorem badPair_all:∀ {l:List OpV},jC l=false→∀ i a b,l[i]? = some a→l[i+1]? = some b→fE a b=false:=fun h i a b h1 h2=>by
 cases hb:fE a b with
 | false=>rfl
 | true=>rw [qJ h1 h2 hb] at h;cases h
theorem Cc:∀ {l:List OpV},(∀ o∈l,OpOk o)→l.length≤(pJ l).length
 | [],_=>Nat.zero_le _
 | o::r,h=>by
  obtain ⟨t,x,et⟩:=sw (h o (by simp))
  have ih:=Cc (l:=r) fun p hp=>h p (by simp [hp])
  rw [lw]
  unfold txT
  rw [et]
  cases r with
  | nil=>simp
  | cons p r =>
   simp only [j7,List.map_cons,List.length_append,List.length_cons] at ih ⊢
   omega
theorem KD {l:List OpV} (h:∀ o∈l,OpOk o) (hb:jC l=false) (h8:l.length≤8):ii (pJ l)=.ok (l.map aN):=by
 have:=Cn l [] (pJ l).length (by simpa using h) (by simpa using badPair_all hb) (by simpa using h8) (Cc h)
 simpa [ii] using this
end
section
open Go.RowKit
theorem mM {o o':OpV} {most nn:Int} {l r:List Tok} (h:RdOk l) (e:changedR o most nn l=.ok (o',r)):o'.kind=o.kind:=by
 obtain ⟨-,-,a,b,rfl⟩:=pk h e
 rfl
theorem HN {o o':OpV} {l r:List Tok} (e:vO o l=.ok (o',r)):o'.kind=o.kind:=by
 unfold vO at e
 split at e
 ·cases e
 ·split at e
  ·cases e
  ·injection e with e;injection e with e1 e2;rw [← e1];rfl
theorem In {o o':OpV} {l r:List Tok} (e:wm o l=.ok (o',r)):o'.kind=o.kind:=by
 unfold wm at e
 split at e
 ·cases e
 ·split at e
  ·cases e
  ·split at e
   ·cases e
   ·split at e
    ·injection e with e;injection e with e1 e2;rw [← e1];rfl
    ·injection e with e;injection e with e1 e2;rw [← e1];rfl
theorem Hz {o o':OpV} {l r:List Tok} (h:RdOk l) (e:uh o l=.ok (o',r)):o'.kind=o.kind:=by
 unfold uh at e
 split at e
 ·cases e
 ·rename_i o1 l1 h1
  split at e
  ·cases e
  ·split at e
   ·cases e
   ·injection e with e;injection e with e1 e2;rw [← e1];exact mM h h1
theorem zx {o o':OpV} {l r:List Tok} (h:RdOk l) (e:gz o l=.ok (o',r)):o'.kind=o.kind:=by
 unfold gz at e
 split at e
 ·cases e
 ·rename_i l0 h0
  have k0:=(eH lK h h0).1
  split at e
  ·exact (Hz (k0.drop 1) e).trans rfl
  ·split at e
   ·cases e
   ·split at e
    ·exact HN e
    ·exact In e
theorem Ek {o o':OpV} {l r:List Tok} (e:nr o l=.ok (o',r)):o'.kind=o.kind:=by
 unfold nr at e
 split at e
 ·split at e
  ·cases e
  ·injection e with e;injection e with e1 e2;rw [← e1];rfl
 ·injection e with e;injection e with e1 e2;rw [← e1]
theorem zN {o:OpV} {l r:List Tok} (h:RdOk l) (e:fg l=.ok (o,r)):o.kind=5:=by
 unfold fg at e
 split at e
 ·cases e
 ·split at e
  ·exact (Ek e).trans rfl
  ·exact (zx (pQ h).1 e).trans rfl
theorem ES {s:ByteArray} {o:OpV} (h:rsvdF s jY=some o) (hc:fi o=0):aN o=o:=by
 have h:rsvdF s ((2,4)::(4,7)::(6,6)::(7,8)::(8,9)::[])=some o:=h
 have nameOk:∀ {k:Int},¬k=2→¬k=6→(ap 3 k s).2=0→ay k (ap 3 k s).1=(s,0):=fun h2 h6 hn=>by
  obtain ⟨x,e1,e2⟩:=back (k:=_) (m:=(ap 3 _ s).1) (s:=s) (by rw [← hn])
  rcases e2 with e2 | e2 | e2
  ·rw [e1,e2]
  ·exact absurd e2.1 h2
  ·exact absurd e2 h6
 by_cases n2:(ap 3 2 s).2=0
 ·rw [rsvdF,if_pos n2] at h
  injection h with h
  subst h
  exact gj ⟨by show ¬(4:Int)=3;decide,by show ¬(4:Int)=7;decide,by show ¬(4:Int)=8;decide,by show ¬(4:Int)=9;decide⟩
 rw [rsvdF,if_neg n2] at h
 by_cases n4:(ap 3 4 s).2=0
 ·rw [rsvdF,if_pos n4] at h
  injection h with h
  subst h
  have hk:(ju 7 (ap 3 4 s).1).kind=7:=rfl
  unfold aN
  rw [if_neg (not_not_intro hc),if_neg (by omega),if_pos hk]
  exact if_neg (not_not_intro (show (ay 4 (ap 3 4 s).1).2=0 by rw [nameOk (by decide) (by decide) n4]))
 rw [rsvdF,if_neg n4] at h
 by_cases n6:(ap 3 6 s).2=0
 ·rw [rsvdF,if_pos n6] at h
  injection h with h
  subst h
  exact gj ⟨by show ¬(6:Int)=3;decide,by show ¬(6:Int)=7;decide,by show ¬(6:Int)=8;decide,by show ¬(6:Int)=9;decide⟩
 rw [rsvdF,if_neg n6] at h
 by_cases n7:(ap 3 7 s).2=0
 ·rw [rsvdF,if_pos n7] at h
  injection h with h
  subst h
  have hk:(ju 8 (ap 3 7 s).1).kind=8:=rfl
  unfold aN
  rw [if_neg (not_not_intro hc),if_neg (by omega),if_neg (by omega),if_pos hk]
  exact if_neg (not_not_intro (show (ay 7 (ap 3 7 s).1).2=0 by rw [nameOk (by decide) (by decide) n7]))
 rw [rsvdF,if_neg n7] at h
 by_cases n8:(ap 3 8 s).2=0
 ·rw [rsvdF,if_pos n8] at h
  injection h with h
  subst h
  have hk:(ju 9 (ap 3 8 s).1).kind=9:=rfl
  have hx:=nameOk (k:=8) (by decide) (by decide) n8
  have ex:aT (ju 9 (ap 3 8 s).1)=s:=by
   unfold aT dU
   rw [if_neg (by omega),if_neg (by omega),if_neg (by omega),if_neg (by omega),if_neg (by omega),if_neg (by omega),if_neg (by omega),if_pos hk]
   show (if (ay 8 (ap 3 8 s).1).2=0 then (ay 8 (ap 3 8 s).1).1 else _)=s
   rw [hx,if_pos rfl]
  unfold aN
  rw [if_neg (not_not_intro hc),if_neg (by omega),if_neg (by omega),if_neg (by omega),if_pos hk,ex,if_neg n6]
 ·rw [rsvdF,if_neg n8] at h
  cases h
theorem Cb {o:OpV} {l r:List Tok} (h:RdOk l) (e:operR l=.ok (o,r)) (hc:fi o=0):aN o=o:=by
 unfold operR at e
 split at e
 ·have hk:=mM (h.drop 1) e
  exact gj (by simp only at hk;omega)
 split at e
 ·have hk:=zN (h.drop 1) e
  exact gj (by omega)
 split at e
 ·unfold m9 at e
  split at e
  ·cases e
  ·rename_i v l1 h1
   have hk:=mM (iL (h.drop 1) h1).2.1 e
   have hk:o.kind=2:=hk
   exact gj (by omega)
 split at e
 ·cases e
 ·split at e
  ·cases e
  ·injection e with e;injection e with e1 e2
   have hk:o.kind=2:=by rw [← e1];rfl
   exact gj (by omega)
 ·split at e
  ·unfold cJ at e
   split at e
   ·rename_i o1 h1
    injection e with e;injection e with e1 e2
    subst e1
    exact ES h1 hc
   ·cases e
  ·split at e
   ·cases e
   ·rename_i v l1 h1
    injection e with e;injection e with e1 e2
    split at e1
    ·have hk:o.kind=2:=by rw [← e1];rfl
     exact gj (by omega)
    ·rename_i hna
     have hk:o.kind=3:=by rw [← e1];rfl
     have ha:kW o=false:=by
      cases ha:kW o with
      | false=>rfl
      | true =>
       unfold kW at ha
       rw [Bool.and_eq_true,decide_eq_true_eq,decide_eq_true_eq,← e1] at ha
       exact absurd ha hna
     unfold aN
     rw [if_neg (not_not_intro hc),if_pos hk,if_neg (by rw [ha];simp)]
structure uO (out:List OpV):Prop where
 plain:∀ o∈out,aN o=o
 bad:∀ i a b,out[i]? = some a→out[i+1]? = some b→fE a b=false
theorem E5 {out out':List OpV} {l r:List Tok} (h:RdOk l) (hr:uO out) (e:stepR out l=.ok (out',r)):uO out':=by
 unfold stepR at e
 split at e
 ·cases e
 ·rename_i l1 h1
  have k1:RdOk l1:=by
   split at h1
   ·injection h1 with h1;subst h1;exact h
   ·exact (eH lK h h1).1
  split at e
  ·cases e
  ·split at e
   ·cases e
   ·rename_i o l2 h2
    split at e
    ·cases e
    ·rename_i hc
     split at e
     ·cases e
     ·rename_i hg
      injection e with e
      injection e with e1 e2
      subst e1
      refine ⟨fun p hp=>?_,fun i a b h1 h2=>?_⟩
      ·rw [List.mem_append,List.mem_singleton] at hp
       rcases hp with hp | rfl
       ·exact hr.plain p hp
       ·exact Cb k1 h2 (Decidable.not_not.1 hc)
      ·rcases Nat.lt_or_ge (i+1) out.length with hi | hi
       ·rw [List.getElem?_append_left (by omega)] at h1
        rw [List.getElem?_append_left hi] at h2
        exact hr.bad i a b h1 h2
       ·have hi2:i+1=out.length:=by
         have:=(List.getElem?_eq_some_iff.1 h2).1
         rw [List.length_append,List.length_singleton] at this
         omega
        rw [hi2,List.getElem?_append_right (Nat.le_refl _),Nat.sub_self] at h2
        simp only [List.getElem?_cons_zero,Option.some.injEq] at h2
        subst h2
        rw [List.getElem?_append_left (by omega)] at h1
        have hl:out.getLast? = some a:=by
         rw [List.getLast?_eq_getElem?,show out.length-1=i by omega];exact h1
        unfold qx at hg
        rw [hl] at hg
        simpa using hg
theorem r9:∀ {N:Nat} {out out':List OpV} {l:List Tok},RdOk l→oW out→uO out→fO N out l=.ok out'→uO out'
 | 0,out,out',l,h,ho,hr,e=>by
  cases l with
  | nil=>rw [eX] at e;injection e with e;subst e;exact hr
  | cons t r=>cases e
 | N+1,out,out',[],_,ho,hr,e=>by rw [eX] at e;injection e with e;subst e;exact hr
 | N+1,out,out',t::r,h,ho,hr,e=>by
  rw [eQ (by simp)] at e
  rcases hs:stepR out (t::r) with x | ⟨o2,l'⟩
  ·rw [hs] at e;cases e
  ·rw [hs] at e
   obtain ⟨g1,g2,-,-⟩:=pT h ho hs
   exact r9 g2 g1 (E5 h hr hs) e
theorem DZ {l:List Tok} {out:List OpV} (h:RdOk l) (e:ii l=.ok out):uO out:=r9 h qg ⟨fun o ho=>by simp at ho,fun i a b h1=>by simp at h1⟩ e
theorem DX {s:ByteArray} {ts:List Tok} {n:Nat} (h:dP (aa s)=(ts,n,0)):RdOk ts:=by
 have hl:(aa s).length=s.size:=ar s
 unfold dP at h
 split at h
 ·cases h
 ·rename_i hz
  have hr:∀ z∈aa s,0≤z∧z≤255:=fun z hz=>kC hz
  have h1:=ub ts 0 n 0 (Nat.zero_le _) (by rw [List.drop_zero];exact h)
  have h2:=uc hr (by omega) ts 0 n 0 (Nat.zero_le _) (by rw [List.drop_zero];exact h)
  refine ⟨fun t ht hk=>?_,by have:=h1.2.2.2;omega⟩
  have key:∀ (ts:List Tok) (p:Nat),Rises (aa s).length p ts→∀ t∈ts,t.kind=1→dQ t.text=true:=by
   intro ts
   induction ts with
   | nil=>intro p _ t ht;cases ht
   | cons u ts ih =>
    rintro p ⟨⟨hc,hsz⟩,a,-,-,-,hrest⟩ t ht hk
    rcases List.mem_cons.1 ht with rfl | ht
    ·obtain ⟨hi,-⟩:=Ex.check_is hc
     unfold isT at hi
     rw [if_pos hk] at hi
     unfold dQ
     rw [decide_eq_true hsz,Ex.nameB_nameL,hi];rfl
    ·exact ih _ hrest t ht hk
  exact key ts 0 h2 t ht hk
theorem qI {l:List OpV} {s:ByteArray} (h:∀ o∈l,okO o) (ht:iA l=(s,0)) (hs:s.size≤512):∃ ts n,dP (aa s)=(ts,n,0)∧RdOk ts∧ii ts=.ok (l.map aN):=by
 unfold iA at ht
 split at ht
 ·rename_i hc
  injection ht with h1 h2
  exact absurd h2 hc
 rename_i hc
 split at ht
 ·injection ht with h1 h2;cases h2
 rename_i h8
 split at ht
 ·injection ht with h1 h2;cases h2
 rename_i hb
 injection ht with h1 h2
 subst h1
 have hall:∀ o∈l,fi o=0:=by
  have hc:=Decidable.not_not.1 hc
  intro o ho
  obtain ⟨i,hi,e⟩:=List.mem_iff_getElem.1 ho
  have key:∀ n:Nat,∀ j,j<n→∀ p,l[j]? = some p→fi p=0:=by
   intro n
   induction n with
   | zero=>intro j hj;omega
   | succ n ih =>
    intro j hj p hp
    by_cases hz:fi p=0
    ·exact hz
    ·have:=sE (i:=j) (fun k q hk hq=>ih k (by omega) q hq) hp hz
     rw [hc] at this
     exact absurd this.symm hz
  exact key (i+1) i (Nat.lt_succ_self i) o (by rw [List.getElem?_eq_getElem hi,e])
 have hO:∀ o∈l,OpOk o:=fun o ho=>⟨h o ho,hall o ho⟩
 have er:=Cu hO
 obtain ⟨ts,k1,k2⟩:=tW none 0 (CH hO) (Bg (l:=l) (p:=none) fun t=>rfl)
 have hlen:(aa (mz (l.map aT))).length=(mz (l.map aT)).size:=ar _
 have hl:dP (aa (mz (l.map aT)))=(ts,(mz (l.map aT)).size,0):=by
  unfold dP
  rw [if_neg (by omega),← er,k1,er,hlen,Nat.zero_add]
 have hbare:ts.map dH=pJ l:=by
  rw [k2,← Cd]
  have:∀ u∈rb l,dH u.2=u.2:=AK l
  exact List.map_congr_left this
 refine ⟨ts,_,hl,DX hl,?_⟩
 rw [← DY,hbare]
 exact KD hO (by simpa using hb) (by omega)
theorem Dh {l:List Tok} {a:List OpV} (h:RdOk l) (e:ii l=.ok a):(iA a).2=0∧(∀ o∈a,okO o∧fi o=0∧aN o=o)∧a.map aN=a:=by
 have h1:=Bt h e
 have h2:=DZ h e
 refine ⟨?_,fun o ho=>⟨(h1.all o ho).1,(h1.all o ho).2,h2.plain o ho⟩,?_⟩
 ·unfold iA
  rw [if_neg (not_not_intro (sF fun o ho=>(h1.all o ho).2)),if_neg (by have:=h1.few;omega),if_neg (by rw [qK h2.bad];simp)]
 ·exact (List.map_congr_left fun o ho=>h2.plain o ho).trans (List.map_id a)
end
end Go.Proofs.YthcoegkfpinlfaaGreatDoor
