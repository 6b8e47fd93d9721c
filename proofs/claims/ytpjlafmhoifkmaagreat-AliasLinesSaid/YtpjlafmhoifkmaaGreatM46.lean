import Derived.Test.YtpjlafmhoifkmaaGreatM43
import Derived.Test.YtpjlafmhoifkmaaGreatM44
import Derived.Test.YtpjlafmhoifkmaaGreatM45
import Derived.Test.YtpjlafmhoifkmaaGreatM40
import Derived.Test.YtpjlafmhoifkmaaGreatM42
import Derived.Test.YtpjlafmhoifkmaaGreatM30
import Derived.Test.YtpjlafmhoifkmaaGreatM11
set_option linter.unusedVariables false
set_option linter.unusedSimpArgs false
set_option maxRecDepth 100000
set_option maxHeartbeats 8000000
namespace Go.Proofs.YtpjlafmhoifkmaaGreat
section
open Go.RowKit
theorem aW {P:Program} {ro:Cf} {n:Nat} {c:Code} {s:St} {rs:List ResultVar} {r t:AV} (h:SW P ro n c s (ax P rs (.ret r))) (e:t=r):SW P ro n c s (ax P rs (.ret t)):=e▸h
attribute [local simp] o9 dy Am nA dO nO dL
theorem H9 (x:Ins) (h:ay x=0) (ho:x.op=5):SW Tryz.prog ⟨none,0⟩ Tryz.f47.ntmps (Tryz.f47.body.getD .skip) ⟨0,ag 0 [(ai ac).enc x],[]⟩ (ax Tryz.prog Tryz.f47.results.toList (.ret (alO (AlV.ln (o9 x) true)))):=by
 have q:=eK h
 have l:=kE h
 have lfld:=l.fld
 clear l
 clear q
 clear h
 obtain ⟨op,xx,ss,rd,rn,rm,ra,a,b,c⟩:=x
 simp only at ho lfld
 subst ho
 have lfa:=(lfld rfl).2.1
 have lfc:=(lfld rfl).2.2
 replace lfld:=lfld rfl
 cases xx
 ·by_cases h1:b=0
  ·subst h1
   by_cases h2:c=31
   ·subst h2
    exact aW (pb0f ss rd rn rm ra a) rfl
   ·by_cases h3:a=0
    ·subst h3
     by_cases h4:c=7
     ·subst h4
      exact aW (pb07 ss rd rn rm ra) rfl
     ·by_cases h5:c=15
      ·subst h5
       exact aW (P6 ss rd rn rm ra) rfl
      ·exact aW (pb0z ss rd rn rm ra c (by omega) (by omega) (by omega)) (by simp [*,show ¬c<0 by omega])
    ·by_cases h6:c<a
     ·exact aW (pb0l ss rd rn rm ra a c (by omega) (by omega) (by omega) (by omega)) (by simp [*])
     ·exact aW (pb0g ss rd rn rm ra a c (by omega) (by omega) (by omega) (by omega) (by omega)) (by simp [*])
  ·by_cases h7:b=1
   ·subst h7
    by_cases h8:c<a
    ·by_cases h9:rn=31
     ·subst h9
      exact aW (pb1z ss rd rm ra a c (by omega) (by omega) (by omega)) (by simp [*,b0,n1];rfl)
     ·exact aW (pb1l ss rd rn rm ra a c (by omega) (by omega) (by omega) (by omega)) (by simp [*,b0,n1];rfl)
    ·exact aW (pb1g ss rd rn rm ra a c (by omega) (by omega) (by omega)) (by simp [*])
   ·have hb2:b=2:=by have:=lfld.1;omega
    subst hb2
    by_cases h10:c=31
    ·subst h10
     exact aW (pb2f ss rd rn rm ra a) rfl
    ·by_cases h11:c+1=a
     ·exact aW (pb2s ss rd rn rm ra a c (by omega) (by omega) (by omega) (by omega)) (by simp [*])
     ·by_cases h12:a=0
      ·subst h12
       by_cases h13:c=7
       ·subst h13
        exact aW (pb27 ss rd rn rm ra) rfl
       ·by_cases h14:c=15
        ·subst h14
         exact aW (QV ss rd rn rm ra) rfl
        ·exact aW (pb2z ss rd rn rm ra c (by omega) (by omega) (by omega)) (by simp [*,show ¬c<0 by omega])
      ·by_cases h15:c<a
       ·exact aW (pb2l ss rd rn rm ra a c (by omega) (by omega) (by omega) (by omega) (by omega)) (by simp [*])
       ·exact aW (pb2g ss rd rn rm ra a c (by omega) (by omega) (by omega) (by omega) (by omega)) (by simp [*])
 ·by_cases h16:b=0
  ·subst h16
   by_cases h17:c=63
   ·subst h17
    exact aW (Rm ss rd rn rm ra a) rfl
   ·by_cases h18:a=0
    ·subst h18
     by_cases h19:c=7
     ·subst h19
      exact aW (Rz ss rd rn rm ra) rfl
     ·by_cases h20:c=15
      ·subst h20
       exact aW (Na ss rd rn rm ra) rfl
      ·by_cases h21:c=31
       ·subst h21
        exact aW (Np ss rd rn rm ra) rfl
       ·exact aW (OI ss rd rn rm ra c (by omega) (by omega) (by omega)) (by simp [*,show ¬c<0 by omega])
    ·by_cases h22:c<a
     ·exact aW (RA ss rd rn rm ra a c (by omega) (by omega) (by omega) (by omega)) (by simp [*])
     ·exact aW (Rw ss rd rn rm ra a c (by omega) (by omega) (by omega) (by omega) (by omega)) (by simp [*])
  ·by_cases h23:b=1
   ·subst h23
    by_cases h24:c<a
    ·by_cases h25:rn=31
     ·subst h25
      exact aW (Ou ss rd rm ra a c (by omega) (by omega) (by omega)) (by simp [*,b0,n1];rfl)
     ·exact aW (OJ ss rd rn rm ra a c (by omega) (by omega) (by omega) (by omega)) (by simp [*,b0,n1];rfl)
    ·exact aW (Qg ss rd rn rm ra a c (by omega) (by omega) (by omega)) (by simp [*])
   ·have hb2:b=2:=by have:=lfld.1;omega
    subst hb2
    by_cases h26:c=63
    ·subst h26
     exact aW (O5 ss rd rn rm ra a) rfl
    ·by_cases h27:c+1=a
     ·exact aW (OL ss rd rn rm ra a c (by omega) (by omega) (by omega) (by omega)) (by simp [*])
     ·by_cases h28:a=0
      ·subst h28
       exact aW (Pf ss rd rn rm ra c (by omega) (by omega)) (by simp [*,show ¬c<0 by omega])
      ·by_cases h29:c<a
       ·exact aW (QO ss rd rn rm ra a c (by omega) (by omega) (by omega) (by omega) (by omega)) (by simp [*])
       ·exact aW (Pb ss rd rn rm ra a c (by omega) (by omega) (by omega) (by omega) (by omega)) (by simp [*])
def FY:aJ Tryz.prog 47 :=
 mk1 _ _ _ Tryz.func47 rfl (fun _ _=>by go_simp) (ai ac) ((fun x=>ay x=0∧(x.op=5))) ((fun x=>.ret (alO (AlV.ln (o9 x) true)))) (by rw [Tryz.ntmps47];decide) (fun x h=>H9 x h.1 h.2)
theorem E7 {id:Nat} {h:am} {args:List AV}:(FY).run id h args=aY (au (ai ac) ((fun x=>ay x=0∧(x.op=5)))) ((fun x=>.ret (alO (AlV.ln (o9 x) true)))) h args:=rfl
theorem EA {id:Nat} {h:am} {args:List AV}:(FY).pan id h args=aZ (au (ai ac) ((fun x=>ay x=0∧(x.op=5)))) ((fun x=>.ret (alO (AlV.ln (o9 x) true)))) h args:=rfl
attribute [local simp] kh dO nO
theorem D4 (x:Ins) (h:ay x=0) (ho:x.op=29):SW Tryz.prog ⟨none,0⟩ Tryz.f55.ntmps (Tryz.f55.body.getD .skip) ⟨0,ag 0 [(ai ac).enc x],[]⟩ (ax Tryz.prog Tryz.f55.results.toList (.ret (alO (kh x)))):=by
 have q:=eK h
 have l:=kE h
 clear l
 clear q
 clear h
 obtain ⟨op,xx,ss,rd,rn,rm,ra,a,b,c⟩:=x
 simp only at ho
 subst ho
 by_cases h1:14≤a
 ·exact aW (pc14 xx ss rd rn rm ra a b c (by omega)) (by simp [*])
 ·by_cases h2:b=0
  ·subst h2
   by_cases h3:rn=rm
   ·exact aW (pc0 xx ss rd rn rm ra a c (by omega) (by omega)) (by simp [*])
   ·exact aW (pc0m xx ss rd rn rm ra a c (by omega) (by omega)) (by simp [*])
  ·by_cases h4:b=1
   ·subst h4
    by_cases h5:rn=rm
    ·by_cases h6:rn=31
     ·subst h6
      exact aW (pcz1 xx ss rd rm ra a c (by omega) (by omega)) (by simp [*])
     ·exact aW (pcn1 xx ss rd rn rm ra a c (by omega) (by omega) (by omega)) (by simp [*,show ¬rm=31 by omega])
    ·exact aW (Ry xx ss rd rn rm ra a c (by omega) (by omega)) (by simp [*])
   ·by_cases h7:b=2
    ·subst h7
     by_cases h8:rn=rm
     ·by_cases h9:rn=31
      ·subst h9
       exact aW (pcz2 xx ss rd rm ra a c (by omega) (by omega)) (by simp [*])
      ·exact aW (pcn2 xx ss rd rn rm ra a c (by omega) (by omega) (by omega)) (by simp [*,show ¬rm=31 by omega])
     ·exact aW (Qa xx ss rd rn rm ra a c (by omega) (by omega)) (by simp [*])
    ·by_cases h10:rn=rm
     ·exact aW (pc3 xx ss rd rn rm ra a b c (by omega) (by omega) (by omega)) (by simp [*])
     ·exact aW (pcm2 xx ss rd rn rm ra a b c (by omega) (by omega) (by omega)) (by simp [*])
def xB:aJ Tryz.prog 55 :=
 mk1 _ _ _ Tryz.func55 rfl (fun _ _=>by go_simp) (ai ac) ((fun x=>ay x=0∧(x.op=29))) ((fun x=>.ret (alO (kh x)))) (by rw [Tryz.ntmps55];decide) (fun x h=>D4 x h.1 h.2)
theorem AH {id:Nat} {h:am} {args:List AV}:(xB).run id h args=aY (au (ai ac) ((fun x=>ay x=0∧(x.op=29)))) ((fun x=>.ret (alO (kh x)))) h args:=rfl
theorem AI {id:Nat} {h:am} {args:List AV}:(xB).pan id h args=aZ (au (ai ac) ((fun x=>ay x=0∧(x.op=29)))) ((fun x=>.ret (alO (kh x)))) h args:=rfl
theorem RC {x:Ins} (h:x.op=32) (h4:¬x.b=4) (h7:¬x.b=7):3≤(bz x).2.length:=by
 have hs:bz x=bM x:=by unfold bz;rw [if_neg (by omega),if_neg (by omega),if_neg (by omega),if_neg (by omega),if_neg (by omega)]
 rw [hs]
 by_cases h2:x.b<2
 ·have ho:(bM x).2=[dO x,nO x,mO x,aO x]:=by unfold bM;rw [if_neg (by omega),if_neg (by omega),if_neg (by omega),if_pos h2]
  rw [ho];exact Nat.le_of_ble_eq_true rfl
 ·have ho:(bM x).2=[ah x.rd true,ah x.rn false,ah x.rm false,ah x.ra true]:=by unfold bM;rw [if_neg (by omega),if_neg (by omega),if_neg (by omega),if_neg h2,if_neg (by omega)]
  rw [ho];exact Nat.le_of_ble_eq_true rfl
attribute [local simp] kq
theorem GF (x:Ins) (h:ay x=0) (ho:x.op=32):SW Tryz.prog ⟨none,0⟩ Tryz.f57.ntmps (Tryz.f57.body.getD .skip) ⟨0,ag 0 [(ai ac).enc x],[]⟩ (ax Tryz.prog Tryz.f57.results.toList (.ret (alO (kq x)))):=by
 have q:=eK h
 have l:=kE h
 clear l
 clear h
 obtain ⟨op,xx,ss,rd,rn,rm,ra,a,b,c⟩:=x
 simp only at ho
 subst ho
 obtain ⟨⟨pn,pl⟩,hp⟩:∃ r,bz ⟨32,xx,ss,rd,rn,rm,ra,a,b,c⟩=r:=⟨_,rfl⟩
 by_cases h1:ra=31
 ·subst h1
  by_cases h2:b=4
  ·subst h2
   exact aW (pp4 xx ss rd rn rm a c _ _ (by assumption) (by assumption)) (by simp [*])
  ·by_cases h3:b=7
   ·subst h3
    exact aW (pp7 xx ss rd rn rm a c _ _ (by assumption) (by assumption)) (by simp [*])
   ·have h3:3≤pl.length:=by have:=RC (x:=⟨32,xx,ss,rd,rn,rm,31,a,b,c⟩) rfl (by assumption) (by assumption);rw [hp] at this;exact this
    exact aW (pp xx ss rd rn rm a b c _ _ (by assumption) (by assumption) (by omega) (by assumption)) (by simp [*])
 ·exact aW (ppr xx ss rd rn rm ra a b c _ _ (by assumption) (by assumption) (by omega)) (by simp [*])
def zf:aJ Tryz.prog 57 :=
 mk1 _ _ _ Tryz.func57 rfl (fun _ _=>by go_simp) (ai ac) ((fun x=>ay x=0∧(x.op=32))) ((fun x=>.ret (alO (kq x)))) (by rw [Tryz.ntmps57];decide) (fun x h=>GF x h.1 h.2)
theorem AZ {id:Nat} {h:am} {args:List AV}:(zf).run id h args=aY (au (ai ac) ((fun x=>ay x=0∧(x.op=32)))) ((fun x=>.ret (alO (kq x)))) h args:=rfl
theorem CQ {id:Nat} {h:am} {args:List AV}:(zf).pan id h args=aZ (au (ai ac) ((fun x=>ay x=0∧(x.op=32)))) ((fun x=>.ret (alO (kq x)))) h args:=rfl
theorem Po (x:Ins) (h:x.op=26):∃ n o1 o2 o3,bP x=(n,[o1,o2,o3]):=by
 unfold bP
 rw [if_neg (by omega),if_neg (by omega),if_pos h]
 exact ⟨_,_,_,_,rfl⟩
attribute [local simp] gk Aa yj G0 aU
theorem Kf (x:Ins) (h:ay x=0) (ho:x.op=26):SW Tryz.prog ⟨none,0⟩ Tryz.f54.ntmps (Tryz.f54.body.getD .skip) ⟨0,ag 0 [(ai ac).enc x],[]⟩ (ax Tryz.prog Tryz.f54.results.toList (.ret (alO (gk x)))):=by
 have q:=eK h
 have l:=kE h
 have lmod:=l.mod
 clear l
 clear q
 clear h
 obtain ⟨op,xx,ss,rd,rn,rm,ra,a,b,c⟩:=x
 simp only at ho lmod
 subst ho
 replace lmod:=lmod (by decide)
 obtain ⟨pn,o1,o2,o3,hs⟩:=Po ⟨26,xx,ss,rd,rn,rm,ra,a,b,c⟩ rfl
 cases xx
 ·cases ss
  ·by_cases h1:rn=31
   ·subst h1
    by_cases h2:c=2
    ·subst h2
     by_cases h3:a=0
     ·subst h3
      exact aW (peCz rd rm ra b _ _ _ _ (by assumption) (by assumption)) (by simp [*])
     ·exact aW (peCa rd rm ra a b _ _ _ _ (by assumption) (by assumption) (by omega)) (by simp [*])
    ·exact aW (peCw rd rm ra a b c _ _ _ _ (by assumption) (by assumption) (by omega)) (by simp [*])
   ·by_cases h4:rd=31
    ·subst h4
     by_cases h5:c=2
     ·subst h5
      by_cases h6:a=0
      ·subst h6
       exact aW (peDz rn rm ra b _ _ _ _ (by assumption) (by assumption) (by omega)) (by simp [*])
      ·exact aW (peDa rn rm ra a b _ _ _ _ (by assumption) (by assumption) (by omega) (by omega)) (by simp [*])
     ·exact aW (peDw rn rm ra a b c _ _ _ _ (by assumption) (by assumption) (by omega) (by omega)) (by simp [*])
    ·exact aW (peDn rd rn rm ra a b c _ _ _ _ (by assumption) (by assumption) (by omega) (by omega)) (by simp [*])
  ·by_cases h7:rd=31
   ·subst h7
    by_cases h8:rn=31
    ·subst h8
     by_cases h9:c=2
     ·subst h9
      by_cases h10:a=0
      ·subst h10
       exact aW (peAz rm ra b _ _ _ _ (by assumption) (by assumption)) rfl
      ·exact aW (peAa rm ra a b _ _ _ _ (by assumption) (by assumption) (by omega)) (by simp [*])
     ·exact aW (peAw rm ra a b c _ _ _ _ (by assumption) (by assumption) (by omega)) (by simp [*])
    ·exact aW (peAn rn rm ra a b c _ _ _ _ (by assumption) (by assumption) (by omega)) (by simp [*])
   ·by_cases h11:rn=31
    ·subst h11
     by_cases h12:c=2
     ·subst h12
      by_cases h13:a=0
      ·subst h13
       exact aW (peBz rd rm ra b _ _ _ _ (by assumption) (by assumption) (by omega)) (by simp [*])
      ·exact aW (peBa rd rm ra a b _ _ _ _ (by assumption) (by assumption) (by omega) (by omega)) (by simp [*])
     ·exact aW (peBw rd rm ra a b c _ _ _ _ (by assumption) (by assumption) (by omega) (by omega)) (by simp [*])
    ·exact aW (peBn rd rn rm ra a b c _ _ _ _ (by assumption) (by assumption) (by omega) (by omega)) (by simp [*])
 ·cases ss
  ·by_cases h14:rn=31
   ·subst h14
    by_cases h15:c=3
    ·subst h15
     by_cases h16:a=0
     ·subst h16
      exact aW (RG rd rm ra b _ _ _ _ (by assumption) (by assumption)) (by simp [*])
     ·exact aW (Oq rd rm ra a b _ _ _ _ (by assumption) (by assumption) (by omega)) (by simp [*])
    ·exact aW (Ov rd rm ra a b c _ _ _ _ (by assumption) (by assumption) (by omega)) (by simp [*])
   ·by_cases h17:rd=31
    ·subst h17
     by_cases h18:c=3
     ·subst h18
      by_cases h19:a=0
      ·subst h19
       exact aW (Q4 rn rm ra b _ _ _ _ (by assumption) (by assumption) (by omega)) (by simp [*])
      ·exact aW (Ps rn rm ra a b _ _ _ _ (by assumption) (by assumption) (by omega) (by omega)) (by simp [*])
     ·exact aW (OK rn rm ra a b c _ _ _ _ (by assumption) (by assumption) (by omega) (by omega)) (by simp [*])
    ·exact aW (Pr rd rn rm ra a b c _ _ _ _ (by assumption) (by assumption) (by omega) (by omega)) (by simp [*])
  ·by_cases h20:rd=31
   ·subst h20
    by_cases h21:rn=31
    ·subst h21
     by_cases h22:c=3
     ·subst h22
      by_cases h23:a=0
      ·subst h23
       exact aW (Qe rm ra b _ _ _ _ (by assumption) (by assumption)) rfl
      ·exact aW (PG rm ra a b _ _ _ _ (by assumption) (by assumption) (by omega)) (by simp [*])
     ·exact aW (QB rm ra a b c _ _ _ _ (by assumption) (by assumption) (by omega)) (by simp [*])
    ·exact aW (Qf rn rm ra a b c _ _ _ _ (by assumption) (by assumption) (by omega)) (by simp [*])
   ·by_cases h24:rn=31
    ·subst h24
     by_cases h25:c=3
     ·subst h25
      by_cases h26:a=0
      ·subst h26
       exact aW (Pj rd rm ra b _ _ _ _ (by assumption) (by assumption) (by omega)) (by simp [*])
      ·exact aW (QD rd rm ra a b _ _ _ _ (by assumption) (by assumption) (by omega) (by omega)) (by simp [*])
     ·exact aW (Ox rd rm ra a b c _ _ _ _ (by assumption) (by assumption) (by omega) (by omega)) (by simp [*])
    ·exact aW (OC rd rn rm ra a b c _ _ _ _ (by assumption) (by assumption) (by omega) (by omega)) (by simp [*])
def Gk:aJ Tryz.prog 54 :=
 mk1 _ _ _ Tryz.func54 rfl (fun _ _=>by go_simp) (ai ac) ((fun x=>ay x=0∧(x.op=26))) ((fun x=>.ret (alO (gk x)))) (by rw [Tryz.ntmps54];decide) (fun x h=>Kf x h.1 h.2)
theorem Fn {id:Nat} {h:am} {args:List AV}:(Gk).run id h args=aY (au (ai ac) ((fun x=>ay x=0∧(x.op=26)))) ((fun x=>.ret (alO (gk x)))) h args:=rfl
theorem FV {id:Nat} {h:am} {args:List AV}:(Gk).pan id h args=aZ (au (ai ac) ((fun x=>ay x=0∧(x.op=26)))) ((fun x=>.ret (alO (gk x)))) h args:=rfl
attribute [local simp] mc
theorem JK (x:Ins) (h:ay x=0):SW Tryz.prog ⟨none,0⟩ Tryz.f58.ntmps (Tryz.f58.body.getD .skip) ⟨0,ag 0 [(ai ac).enc x],[]⟩ (ax Tryz.prog Tryz.f58.results.toList (.ret (alO (mc x)))):=by
 have q:=eK h
 have qsys:=q.sys
 clear h
 obtain ⟨op,xx,ss,rd,rn,rm,ra,a,b,c⟩:=x
 simp only at qsys
 by_cases hno:¬op=11∧¬op=12∧¬op=13∧¬op=14∧¬op=17
 ·have e:mc ⟨op,xx,ss,rd,rn,rm,ra,a,b,c⟩=.no:=by unfold mc;simp [hno]
  rw [e]
  exact ptno xx ss rd rn rm ra a b c op hno
 have hop:op=11∨op=12∨op=13∨op=14∨op=17:=by omega
 clear hno
 rcases hop with rfl | rfl | rfl | rfl | rfl
 ·clear q qsys
  by_cases h1:b=2
  ·subst h1
   exact aW (O2 xx ss rd rn rm ra a c) rfl
  ·exact aW (pt11 xx ss rd rn rm ra a b c (by omega)) (by simp [*,b0,n1])
 ·clear qsys
  obtain ⟨⟨pn,pl⟩,hp⟩:∃ r,bz ⟨12,xx,ss,rd,rn,rm,ra,a,b,c⟩=r:=⟨_,rfl⟩
  by_cases h2:5≤b
  ·exact aW (PJ xx ss rd rn rm ra a b c _ _ (by assumption) (by assumption) (by omega)) (by simp [*])
  ·exact aW (pt12 xx ss rd rn rm ra a b c _ _ (by assumption) (by assumption) (by omega)) (by simp [*])
 ·clear q qsys
  obtain ⟨⟨hn,he⟩,hN⟩:∃ r,cV 5 a=r:=⟨_,rfl⟩
  exact aW (pt13 xx ss rd rn rm ra a b c _ _ (by assumption)) (by simp [*])
 ·clear qsys
  obtain ⟨⟨pn,pl⟩,hp⟩:∃ r,bz ⟨14,xx,ss,rd,rn,rm,ra,a,b,c⟩=r:=⟨_,rfl⟩
  by_cases h3:a=15
  ·subst h3
   by_cases h4:b=2
   ·subst h4
    exact aW (Qj xx ss rd rn rm ra c _ _ (by assumption) (by assumption)) (by simp [*])
   ·by_cases h5:b=6
    ·subst h5
     exact aW (Oy xx ss rd rn rm ra c _ _ (by assumption) (by assumption)) (by simp [*])
    ·exact aW (P8 xx ss rd rn rm ra b c _ _ (by assumption) (by assumption) (by omega)) (by simp [*,b0,n1])
  ·exact aW (O1 xx ss rd rn rm ra a b c _ _ (by assumption) (by assumption) (by omega)) (by simp [*,b0,n1])
 ·replace qsys:=qsys rfl
  clear q
  by_cases h6:b=0
  ·subst h6
   exact aW (P1 xx ss rd rn rm ra a c (by omega)) rfl
  ·exact aW (pt17 xx ss rd rn rm ra a b c (by omega) (by omega)) (by simp [*,b0,n1])
def FB:aJ Tryz.prog 58 :=
 mk1 _ _ _ Tryz.func58 rfl (fun _ _=>by go_simp) (ai ac) ((fun x=>ay x=0)) ((fun x=>.ret (alO (mc x)))) (by rw [Tryz.ntmps58];decide) (fun x h=>JK x h)
theorem GW {id:Nat} {h:am} {args:List AV}:(FB).run id h args=aY (au (ai ac) ((fun x=>ay x=0))) ((fun x=>.ret (alO (mc x)))) h args:=rfl
theorem FH {id:Nat} {h:am} {args:List AV}:(FB).pan id h args=aZ (au (ai ac) ((fun x=>ay x=0))) ((fun x=>.ret (alO (mc x)))) h args:=rfl
end
section
open Go.RowKit
def F4:Ctx Tryz.prog:=[⟨_,rK⟩]
def EV:Ctx Tryz.prog:=[⟨_,qX⟩]
def ED:Ctx Tryz.prog:=[⟨_,pt⟩]
def KW:Ctx Tryz.prog:=[⟨_,FY⟩]
def Ga:Ctx Tryz.prog:=[⟨_,rE⟩]
def vH:Ctx Tryz.prog:=[⟨_,rf⟩]
def Fz:Ctx Tryz.prog:=[⟨_,Gk⟩]
def G1:Ctx Tryz.prog:=[⟨_,xB⟩]
def F3:Ctx Tryz.prog:=[⟨_,zf⟩]
def Ei:Ctx Tryz.prog:=[⟨_,cI bG⟩]
def nK:Ctx Tryz.prog:=[⟨_,bJ⟩,⟨_,cI bG⟩]
def yi:Ctx Tryz.prog:=[⟨_,FB⟩]
attribute [local go_sem] ag wrA az wrK aD bQ pcK gO aV bV bj bk jJ jL co bX iP bp aT aq aX ci kc gOf aH aF aI cn bF bh my lI ng mw kD jD lD kz nC gS iO kF jZ jN fA mK lO oC aL aK bU bW bu aC bm bD bE d9 ef ce ca db xwT xw0 bI opV opL cG ofD opR cy opE dO nO mO dL ah aw oOf op0 r0 emp oR oI lM jx alO ac F4 EV ED KW Ga vH Fz G1 F3 Ei nK yi ww wb wo wV uN t7 E7 EA vP w6 wF vj true_or false_or or_true and_self Fn FV AH AI AZ CQ GW FH
theorem alP {x:Ins} {r:PO} {n:Nat} {rs:Array ResultVar} {ctx:Ctx Tryz.prog} {c0 c1 c:Code} (hn:Tryz.f26.ntmps=n) (hr:Tryz.f26.results=rs) (hb:Tryz.f26.body=some (.seq c0 (.seq c1 c))) (h:bS Tryz.prog ctx ⟨none,0⟩ n 4000 [.c c] (wrA x) (ax Tryz.prog rs.toList r)):Lf Tryz.f26 [(ai ac).enc x] r:=by
 subst hn
 rw [Tryz.ntmps26] at h
 unfold Lf
 rw [Tryz.ntmps26,hr,hb]
 simp only [Tryz.f26] at hb
 injection hb with hb
 injection hb with ha hb
 injection hb with hb hc
 subst ha hb hc
 simp only [Option.getD_some,ag]
 refine aE (aa (ctx:=[]) 4000 ?_)
 simp only [go_sem,aS,ac]
 refine aE (aa (ctx:=[]) 4000 ?_)
 simp only [go_sem,aS]
 refine SW.wk (s':=wrA x) ?_ ((Wk.nilC 80 11 40 15 (k:=⟨true,68,12,[az x++[.v (.string emp),.v (.slice none 0 0)]]⟩) rfl rfl rfl).trans (Wk.renL [0,16,80,112] (by simp) (by simp [wrA]) (by decide) rfl rfl))
 exact aa 4000 h
theorem pl2 (xx ss:Bool) (rd rn rm ra a b c:Int) (pn:ByteArray) (po:List OpV) (pq:Bool) (hr:gq ⟨2,xx,ss,rd,rn,rm,ra,a,b,c⟩=.ln (pn,po) pq):Lf Tryz.f26 [(ai ac).enc ⟨2,xx,ss,rd,rn,rm,ra,a,b,c⟩] (.ret (alO (.ln (pn,po) pq))):=by
 refine alP (ctx:=F4) Tryz.ntmps26 Tryz.results26 rfl ?_
 simp only [go_sem,hr]
theorem pl2n (xx ss:Bool) (rd rn rm ra a b c:Int) (hr:gq ⟨2,xx,ss,rd,rn,rm,ra,a,b,c⟩=.no):Lf Tryz.f26 [(ai ac).enc ⟨2,xx,ss,rd,rn,rm,ra,a,b,c⟩] (.ret (alO .no)):=by
 refine alP (ctx:=F4) Tryz.ntmps26 Tryz.results26 rfl ?_
 simp only [go_sem,hr]
theorem pl3 (xx ss:Bool) (rd rn rm ra a b c:Int) (pn:ByteArray) (po:List OpV) (pq:Bool) (hr:ofO (io ⟨3,xx,ss,rd,rn,rm,ra,a,b,c⟩)=.ln (pn,po) pq):Lf Tryz.f26 [(ai ac).enc ⟨3,xx,ss,rd,rn,rm,ra,a,b,c⟩] (.ret (alO (.ln (pn,po) pq))):=by
 refine alP (ctx:=EV) Tryz.ntmps26 Tryz.results26 rfl ?_
 simp only [go_sem,hr]
theorem pl3n (xx ss:Bool) (rd rn rm ra a b c:Int) (hr:ofO (io ⟨3,xx,ss,rd,rn,rm,ra,a,b,c⟩)=.no):Lf Tryz.f26 [(ai ac).enc ⟨3,xx,ss,rd,rn,rm,ra,a,b,c⟩] (.ret (alO .no)):=by
 refine alP (ctx:=EV) Tryz.ntmps26 Tryz.results26 rfl ?_
 simp only [go_sem,hr]
theorem pl4 (xx ss:Bool) (rd rn rm ra a b c:Int) (pn:ByteArray) (po:List OpV) (pq:Bool) (hr:ofO (iH ⟨4,xx,ss,rd,rn,rm,ra,a,b,c⟩)=.ln (pn,po) pq) (hc:0≤c∧c≤3):Lf Tryz.f26 [(ai ac).enc ⟨4,xx,ss,rd,rn,rm,ra,a,b,c⟩] (.ret (alO (.ln (pn,po) pq))):=by
 refine alP (ctx:=ED) Tryz.ntmps26 Tryz.results26 rfl ?_
 simp only [go_sem,hc.1,hc.2,hr]
theorem pl4n (xx ss:Bool) (rd rn rm ra a b c:Int) (hr:ofO (iH ⟨4,xx,ss,rd,rn,rm,ra,a,b,c⟩)=.no) (hc:0≤c∧c≤3):Lf Tryz.f26 [(ai ac).enc ⟨4,xx,ss,rd,rn,rm,ra,a,b,c⟩] (.ret (alO .no)):=by
 refine alP (ctx:=ED) Tryz.ntmps26 Tryz.results26 rfl ?_
 simp only [go_sem,hc.1,hc.2,hr]
theorem pl5 (xx ss:Bool) (rd rn rm ra a b c:Int) (pn:ByteArray) (po:List OpV) (hr:o9 ⟨5,xx,ss,rd,rn,rm,ra,a,b,c⟩=(pn,po)) (hk:ay ⟨5,xx,ss,rd,rn,rm,ra,a,b,c⟩=0):Lf Tryz.f26 [(ai ac).enc ⟨5,xx,ss,rd,rn,rm,ra,a,b,c⟩] (.ret (alO (.ln (pn,po) true))):=by
 refine alP (ctx:=KW) Tryz.ntmps26 Tryz.results26 rfl ?_
 simp only [go_sem,hk,hr]
theorem pl24 (xx ss:Bool) (rd rn rm ra a b c:Int) (pn:ByteArray) (po:List OpV) (pq:Bool) (hr:gn ⟨24,xx,ss,rd,rn,rm,ra,a,b,c⟩=.ln (pn,po) pq) (hc:0≤c∧c≤7):Lf Tryz.f26 [(ai ac).enc ⟨24,xx,ss,rd,rn,rm,ra,a,b,c⟩] (.ret (alO (.ln (pn,po) pq))):=by
 refine alP (ctx:=Ga) Tryz.ntmps26 Tryz.results26 rfl ?_
 simp only [go_sem,hc.1,hc.2,hr]
theorem Q0 (xx ss:Bool) (rd rn rm ra a b c:Int) (hr:gn ⟨24,xx,ss,rd,rn,rm,ra,a,b,c⟩=.no) (hc:0≤c∧c≤7):Lf Tryz.f26 [(ai ac).enc ⟨24,xx,ss,rd,rn,rm,ra,a,b,c⟩] (.ret (alO .no)):=by
 refine alP (ctx:=Ga) Tryz.ntmps26 Tryz.results26 rfl ?_
 simp only [go_sem,hc.1,hc.2,hr]
theorem pl25 (xx ss:Bool) (rd rn rm ra a b c:Int) (pn:ByteArray) (po:List OpV) (pq:Bool) (hr:dw ⟨25,xx,ss,rd,rn,rm,ra,a,b,c⟩=.ln (pn,po) pq) (hc:0≤c∧c≤7):Lf Tryz.f26 [(ai ac).enc ⟨25,xx,ss,rd,rn,rm,ra,a,b,c⟩] (.ret (alO (.ln (pn,po) pq))):=by
 refine alP (ctx:=vH) Tryz.ntmps26 Tryz.results26 rfl ?_
 simp only [go_sem,hc.1,hc.2,hr]
theorem QZ (xx ss:Bool) (rd rn rm ra a b c:Int) (hr:dw ⟨25,xx,ss,rd,rn,rm,ra,a,b,c⟩=.no) (hc:0≤c∧c≤7):Lf Tryz.f26 [(ai ac).enc ⟨25,xx,ss,rd,rn,rm,ra,a,b,c⟩] (.ret (alO .no)):=by
 refine alP (ctx:=vH) Tryz.ntmps26 Tryz.results26 rfl ?_
 simp only [go_sem,hc.1,hc.2,hr]
theorem pl27 (xx ss:Bool) (rd rn rm ra a b c:Int) (pn:ByteArray) (po:List OpV) (pq:Bool) (hr:dw ⟨27,xx,ss,rd,rn,rm,ra,a,b,c⟩=.ln (pn,po) pq):Lf Tryz.f26 [(ai ac).enc ⟨27,xx,ss,rd,rn,rm,ra,a,b,c⟩] (.ret (alO (.ln (pn,po) pq))):=by
 refine alP (ctx:=vH) Tryz.ntmps26 Tryz.results26 rfl ?_
 simp only [go_sem,hr]
theorem QF (xx ss:Bool) (rd rn rm ra a b c:Int) (hr:dw ⟨27,xx,ss,rd,rn,rm,ra,a,b,c⟩=.no):Lf Tryz.f26 [(ai ac).enc ⟨27,xx,ss,rd,rn,rm,ra,a,b,c⟩] (.ret (alO .no)):=by
 refine alP (ctx:=vH) Tryz.ntmps26 Tryz.results26 rfl ?_
 simp only [go_sem,hr]
theorem pl26 (xx ss:Bool) (rd rn rm ra a b c:Int) (pn:ByteArray) (po:List OpV) (pq:Bool) (hr:gk ⟨26,xx,ss,rd,rn,rm,ra,a,b,c⟩=.ln (pn,po) pq) (hk:ay ⟨26,xx,ss,rd,rn,rm,ra,a,b,c⟩=0):Lf Tryz.f26 [(ai ac).enc ⟨26,xx,ss,rd,rn,rm,ra,a,b,c⟩] (.ret (alO (.ln (pn,po) pq))):=by
 refine alP (ctx:=Fz) Tryz.ntmps26 Tryz.results26 rfl ?_
 simp only [go_sem,hk,hr]
theorem Pt (xx ss:Bool) (rd rn rm ra a b c:Int) (hr:gk ⟨26,xx,ss,rd,rn,rm,ra,a,b,c⟩=.no) (hk:ay ⟨26,xx,ss,rd,rn,rm,ra,a,b,c⟩=0):Lf Tryz.f26 [(ai ac).enc ⟨26,xx,ss,rd,rn,rm,ra,a,b,c⟩] (.ret (alO .no)):=by
 refine alP (ctx:=Fz) Tryz.ntmps26 Tryz.results26 rfl ?_
 simp only [go_sem,hk,hr]
theorem pl29 (xx ss:Bool) (rd rn rm ra a b c:Int) (pn:ByteArray) (po:List OpV) (pq:Bool) (hr:kh ⟨29,xx,ss,rd,rn,rm,ra,a,b,c⟩=.ln (pn,po) pq) (hk:ay ⟨29,xx,ss,rd,rn,rm,ra,a,b,c⟩=0):Lf Tryz.f26 [(ai ac).enc ⟨29,xx,ss,rd,rn,rm,ra,a,b,c⟩] (.ret (alO (.ln (pn,po) pq))):=by
 refine alP (ctx:=G1) Tryz.ntmps26 Tryz.results26 rfl ?_
 simp only [go_sem,hk,hr]
theorem PV (xx ss:Bool) (rd rn rm ra a b c:Int) (hr:kh ⟨29,xx,ss,rd,rn,rm,ra,a,b,c⟩=.no) (hk:ay ⟨29,xx,ss,rd,rn,rm,ra,a,b,c⟩=0):Lf Tryz.f26 [(ai ac).enc ⟨29,xx,ss,rd,rn,rm,ra,a,b,c⟩] (.ret (alO .no)):=by
 refine alP (ctx:=G1) Tryz.ntmps26 Tryz.results26 rfl ?_
 simp only [go_sem,hk,hr]
theorem pl32 (xx ss:Bool) (rd rn rm ra a b c:Int) (pn:ByteArray) (po:List OpV) (pq:Bool) (hr:kq ⟨32,xx,ss,rd,rn,rm,ra,a,b,c⟩=.ln (pn,po) pq) (hk:ay ⟨32,xx,ss,rd,rn,rm,ra,a,b,c⟩=0):Lf Tryz.f26 [(ai ac).enc ⟨32,xx,ss,rd,rn,rm,ra,a,b,c⟩] (.ret (alO (.ln (pn,po) pq))):=by
 refine alP (ctx:=F3) Tryz.ntmps26 Tryz.results26 rfl ?_
 simp only [go_sem,hk,hr]
theorem PA (xx ss:Bool) (rd rn rm ra a b c:Int) (hr:kq ⟨32,xx,ss,rd,rn,rm,ra,a,b,c⟩=.no) (hk:ay ⟨32,xx,ss,rd,rn,rm,ra,a,b,c⟩=0):Lf Tryz.f26 [(ai ac).enc ⟨32,xx,ss,rd,rn,rm,ra,a,b,c⟩] (.ret (alO .no)):=by
 refine alP (ctx:=F3) Tryz.ntmps26 Tryz.results26 rfl ?_
 simp only [go_sem,hk,hr]
theorem pl6 (xx ss:Bool) (rd rn rm ra a b c:Int):Lf Tryz.f26 [(ai ac).enc ⟨6,xx,ss,rd,rn,rm,ra,a,b,c⟩] (.ret (alO (.ln ((⟨#[114,111,114]⟩:ByteArray),[ah rd xx,ah rn xx,aw a]) (rn==rm)))):=by
 refine alP (ctx:=Ei) Tryz.ntmps26 Tryz.results26 rfl ?_
 simp only [go_sem]
 refine ab (ctx:=Ei) ak ⟨[],[(8,[2,3,308]),(14,[1])],[(9,[2,3,308,1]),(10,[2,3,308,1]),(11,[2,3,308,1]),(12,[2,3,308,1]),(13,[2,3,308,1])]⟩ (by kernel_rfl) ?_
 simp only [go_sem]
theorem pl31 (xx ss:Bool) (rd rn rm ra a b c:Int) (h8:8≤b) (h11:b≤11) (hb:b≤23):Lf Tryz.f26 [(ai ac).enc ⟨31,xx,ss,rd,rn,rm,ra,a,b,c⟩] (.ret (alO (.ln (ae (b-8) [(⟨#[108,115,108]⟩:ByteArray),(⟨#[108,115,114]⟩:ByteArray),(⟨#[97,115,114]⟩:ByteArray),(⟨#[114,111,114]⟩:ByteArray)],[ah rd xx,ah rn xx,ah rm xx]) true))):=by
 refine alP (ctx:=nK) Tryz.ntmps26 Tryz.results26 rfl ?_
 have k2:IntKind.i64.wrap (b-8)=b-8:=wr (by omega)
 simp only [go_sem,k2,h8,h11]
 refine ab (ctx:=nK) ak ⟨[],[(5,[452]),(13,[2,3,580]),(22,[1])],[(0,[452]),(6,[452]),(7,[452]),(8,[452]),(9,[452]),(10,[452]),(11,[452]),(12,[452]),(14,[452,2,3,580]),(15,[452,2,3,580]),(16,[452,2,3,580]),(18,[1]),(19,[1]),(20,[1]),(21,[1])]⟩ (by kernel_rfl) ?_
 simp only [go_sem,k2,h8,h11]
theorem PS (xx ss:Bool) (rd rn rm ra a b c:Int) (h8:8≤b) (h11:¬b≤11) (hb:b≤23):Lf Tryz.f26 [(ai ac).enc ⟨31,xx,ss,rd,rn,rm,ra,a,b,c⟩] (.ret (alO (.ln (ae (b-8) [(⟨#[108,115,108]⟩:ByteArray),(⟨#[108,115,114]⟩:ByteArray),(⟨#[97,115,114]⟩:ByteArray),(⟨#[114,111,114]⟩:ByteArray)],[ah rd xx,ah rn xx,ah rm xx]) false))):=by
 refine alP (ctx:=nK) Tryz.ntmps26 Tryz.results26 rfl ?_
 have k2:IntKind.i64.wrap (b-8)=b-8:=wr (by omega)
 simp only [go_sem,k2,h8,h11]
 refine ab (ctx:=nK) ak ⟨[],[(5,[452]),(13,[2,3,580]),(22,[1])],[(0,[452]),(6,[452]),(7,[452]),(8,[452]),(9,[452]),(10,[452]),(11,[452]),(12,[452]),(14,[452,2,3,580]),(15,[452,2,3,580]),(16,[452,2,3,580]),(18,[1]),(19,[1]),(20,[1]),(21,[1])]⟩ (by kernel_rfl) ?_
 simp only [go_sem,k2,h8,h11]
theorem Qn (xx ss:Bool) (rd rn rm ra a b c:Int) (h8:¬8≤b) (hb:2≤b):Lf Tryz.f26 [(ai ac).enc ⟨31,xx,ss,rd,rn,rm,ra,a,b,c⟩] (.ret (alO (.ln (ae (b-8) [(⟨#[108,115,108]⟩:ByteArray),(⟨#[108,115,114]⟩:ByteArray),(⟨#[97,115,114]⟩:ByteArray),(⟨#[114,111,114]⟩:ByteArray)],[ah rd xx,ah rn xx,ah rm xx]) false))):=by
 refine alP (ctx:=nK) Tryz.ntmps26 Tryz.results26 rfl ?_
 have k2:IntKind.i64.wrap (b-8)=b-8:=wr (by omega)
 simp only [go_sem,k2,h8]
 refine ab (ctx:=nK) ak ⟨[],[(5,[452]),(13,[2,3,580]),(22,[1])],[(0,[452]),(6,[452]),(7,[452]),(8,[452]),(9,[452]),(10,[452]),(11,[452]),(12,[452]),(14,[452,2,3,580]),(15,[452,2,3,580]),(16,[452,2,3,580]),(18,[1]),(19,[1]),(20,[1]),(21,[1])]⟩ (by kernel_rfl) ?_
 simp only [go_sem,k2,h8]
theorem plo (xx ss:Bool) (rd rn rm ra a b c:Int) (op:Int) (ho:¬op=2∧¬op=3∧¬op=4∧¬op=5∧¬op=6∧¬op=24∧¬op=25∧¬op=27∧¬op=26∧¬op=29∧¬op=31∧¬op=32) (hk:ay ⟨op,xx,ss,rd,rn,rm,ra,a,b,c⟩=0) (pn:ByteArray) (po:List OpV) (pq:Bool) (hr:mc ⟨op,xx,ss,rd,rn,rm,ra,a,b,c⟩=.ln (pn,po) pq):Lf Tryz.f26 [(ai ac).enc ⟨op,xx,ss,rd,rn,rm,ra,a,b,c⟩] (.ret (alO (.ln (pn,po) pq))):=by
 refine alP (ctx:=yi) Tryz.ntmps26 Tryz.results26 rfl ?_
 simp only [go_sem,b0 ho.1,b0 ho.2.1,b0 ho.2.2.1,b0 ho.2.2.2.1,b0 ho.2.2.2.2.1,b0 ho.2.2.2.2.2.1,b0 ho.2.2.2.2.2.2.1,b0 ho.2.2.2.2.2.2.2.1,b0 ho.2.2.2.2.2.2.2.2.1,b0 ho.2.2.2.2.2.2.2.2.2.1,b0 ho.2.2.2.2.2.2.2.2.2.2.1,b0 ho.2.2.2.2.2.2.2.2.2.2.2,hk,hr]
theorem plon (xx ss:Bool) (rd rn rm ra a b c:Int) (op:Int) (ho:¬op=2∧¬op=3∧¬op=4∧¬op=5∧¬op=6∧¬op=24∧¬op=25∧¬op=27∧¬op=26∧¬op=29∧¬op=31∧¬op=32) (hk:ay ⟨op,xx,ss,rd,rn,rm,ra,a,b,c⟩=0) (hr:mc ⟨op,xx,ss,rd,rn,rm,ra,a,b,c⟩=.no):Lf Tryz.f26 [(ai ac).enc ⟨op,xx,ss,rd,rn,rm,ra,a,b,c⟩] (.ret (alO .no)):=by
 refine alP (ctx:=yi) Tryz.ntmps26 Tryz.results26 rfl ?_
 simp only [go_sem,b0 ho.1,b0 ho.2.1,b0 ho.2.2.1,b0 ho.2.2.2.1,b0 ho.2.2.2.2.1,b0 ho.2.2.2.2.2.1,b0 ho.2.2.2.2.2.2.1,b0 ho.2.2.2.2.2.2.2.1,b0 ho.2.2.2.2.2.2.2.2.1,b0 ho.2.2.2.2.2.2.2.2.2.1,b0 ho.2.2.2.2.2.2.2.2.2.2.1,b0 ho.2.2.2.2.2.2.2.2.2.2.2,hk,hr]
theorem BV (x:Ins) (h:ay x=0):SW Tryz.prog ⟨none,0⟩ Tryz.f26.ntmps (Tryz.f26.body.getD .skip) ⟨0,ag 0 [(ai ac).enc x],[]⟩ (ax Tryz.prog Tryz.f26.results.toList (.ret (alO (alA x)))):=by
 have q:=eK h
 have l:=kE h
 have qtwo:=q.two
 have lmov:=l.mov
 have lmod:=l.mod
 clear q l
 obtain ⟨op,xx,ss,rd,rn,rm,ra,a,b,c⟩:=x
 simp only at qtwo lmov lmod
 by_cases hno:¬op=2∧¬op=3∧¬op=4∧¬op=5∧¬op=6∧¬op=24∧¬op=25∧¬op=27∧¬op=26∧¬op=29∧¬op=31∧¬op=32
 ·have e:alA ⟨op,xx,ss,rd,rn,rm,ra,a,b,c⟩=mc ⟨op,xx,ss,rd,rn,rm,ra,a,b,c⟩:=by unfold alA;simp [hno]
  rw [e]
  cases hr:mc ⟨op,xx,ss,rd,rn,rm,ra,a,b,c⟩ with
  | no=>exact plon xx ss rd rn rm ra a b c op hno h hr
  | ln r q=>exact plo xx ss rd rn rm ra a b c op hno h r.1 r.2 q hr
 have hop:op=2∨op=3∨op=4∨op=5∨op=6∨op=24∨op=25∨op=27∨op=26∨op=29∨op=31∨op=32:=by omega
 clear hno
 rcases hop with rfl | rfl | rfl | rfl | rfl | rfl | rfl | rfl | rfl | rfl | rfl | rfl
 ·have e:alA ⟨2,xx,ss,rd,rn,rm,ra,a,b,c⟩=gq ⟨2,xx,ss,rd,rn,rm,ra,a,b,c⟩:=rfl
  rw [e]
  cases hr:gq ⟨2,xx,ss,rd,rn,rm,ra,a,b,c⟩ with
  | no=>exact pl2n xx ss rd rn rm ra a b c hr
  | ln r q=>exact pl2 xx ss rd rn rm ra a b c r.1 r.2 q hr
 ·have e:alA ⟨3,xx,ss,rd,rn,rm,ra,a,b,c⟩=ofO (io ⟨3,xx,ss,rd,rn,rm,ra,a,b,c⟩):=rfl
  rw [e]
  cases hr:ofO (io ⟨3,xx,ss,rd,rn,rm,ra,a,b,c⟩) with
  | no=>exact pl3n xx ss rd rn rm ra a b c hr
  | ln r q=>exact pl3 xx ss rd rn rm ra a b c r.1 r.2 q hr
 ·have e:alA ⟨4,xx,ss,rd,rn,rm,ra,a,b,c⟩=ofO (iH ⟨4,xx,ss,rd,rn,rm,ra,a,b,c⟩):=rfl
  rw [e]
  cases hr:ofO (iH ⟨4,xx,ss,rd,rn,rm,ra,a,b,c⟩) with
  | no=>exact pl4n xx ss rd rn rm ra a b c hr (lmov rfl).2.1
  | ln r q=>exact pl4 xx ss rd rn rm ra a b c r.1 r.2 q hr (lmov rfl).2.1
 ·have e:alA ⟨5,xx,ss,rd,rn,rm,ra,a,b,c⟩=AlV.ln (o9 ⟨5,xx,ss,rd,rn,rm,ra,a,b,c⟩) true:=rfl
  rw [e]
  exact pl5 xx ss rd rn rm ra a b c _ _ rfl h
 ·exact pl6 xx ss rd rn rm ra a b c
 ·have e:alA ⟨24,xx,ss,rd,rn,rm,ra,a,b,c⟩=gn ⟨24,xx,ss,rd,rn,rm,ra,a,b,c⟩:=rfl
  rw [e]
  cases hr:gn ⟨24,xx,ss,rd,rn,rm,ra,a,b,c⟩ with
  | no=>exact Q0 xx ss rd rn rm ra a b c hr (lmod (by decide))
  | ln r q=>exact pl24 xx ss rd rn rm ra a b c r.1 r.2 q hr (lmod (by decide))
 ·have e:alA ⟨25,xx,ss,rd,rn,rm,ra,a,b,c⟩=dw ⟨25,xx,ss,rd,rn,rm,ra,a,b,c⟩:=rfl
  rw [e]
  cases hr:dw ⟨25,xx,ss,rd,rn,rm,ra,a,b,c⟩ with
  | no=>exact QZ xx ss rd rn rm ra a b c hr (lmod (by decide))
  | ln r q=>exact pl25 xx ss rd rn rm ra a b c r.1 r.2 q hr (lmod (by decide))
 ·have e:alA ⟨27,xx,ss,rd,rn,rm,ra,a,b,c⟩=dw ⟨27,xx,ss,rd,rn,rm,ra,a,b,c⟩:=rfl
  rw [e]
  cases hr:dw ⟨27,xx,ss,rd,rn,rm,ra,a,b,c⟩ with
  | no=>exact QF xx ss rd rn rm ra a b c hr
  | ln r q=>exact pl27 xx ss rd rn rm ra a b c r.1 r.2 q hr
 ·have e:alA ⟨26,xx,ss,rd,rn,rm,ra,a,b,c⟩=gk ⟨26,xx,ss,rd,rn,rm,ra,a,b,c⟩:=rfl
  rw [e]
  cases hr:gk ⟨26,xx,ss,rd,rn,rm,ra,a,b,c⟩ with
  | no=>exact Pt xx ss rd rn rm ra a b c hr h
  | ln r q=>exact pl26 xx ss rd rn rm ra a b c r.1 r.2 q hr h
 ·have e:alA ⟨29,xx,ss,rd,rn,rm,ra,a,b,c⟩=kh ⟨29,xx,ss,rd,rn,rm,ra,a,b,c⟩:=rfl
  rw [e]
  cases hr:kh ⟨29,xx,ss,rd,rn,rm,ra,a,b,c⟩ with
  | no=>exact PV xx ss rd rn rm ra a b c hr h
  | ln r q=>exact pl29 xx ss rd rn rm ra a b c r.1 r.2 q hr h
 ·have qt:=qtwo rfl
  clear qtwo lmov lmod h
  by_cases h8:8≤b
  ·by_cases h11:b≤11
   ·have e:alA ⟨31,xx,ss,rd,rn,rm,ra,a,b,c⟩=.ln (ae (b-8) [(⟨#[108,115,108]⟩:ByteArray),(⟨#[108,115,114]⟩:ByteArray),(⟨#[97,115,114]⟩:ByteArray),(⟨#[114,111,114]⟩:ByteArray)],[ah rd xx,ah rn xx,ah rm xx]) true:=by unfold alA dO nO mO;simp [*]
    rw [e]
    exact pl31 xx ss rd rn rm ra a b c h8 h11 qt.2
   ·have e:alA ⟨31,xx,ss,rd,rn,rm,ra,a,b,c⟩=.ln (ae (b-8) [(⟨#[108,115,108]⟩:ByteArray),(⟨#[108,115,114]⟩:ByteArray),(⟨#[97,115,114]⟩:ByteArray),(⟨#[114,111,114]⟩:ByteArray)],[ah rd xx,ah rn xx,ah rm xx]) false:=by unfold alA dO nO mO;simp [*]
    rw [e]
    exact PS xx ss rd rn rm ra a b c h8 h11 qt.2
  ·have e:alA ⟨31,xx,ss,rd,rn,rm,ra,a,b,c⟩=.ln (ae (b-8) [(⟨#[108,115,108]⟩:ByteArray),(⟨#[108,115,114]⟩:ByteArray),(⟨#[97,115,114]⟩:ByteArray),(⟨#[114,111,114]⟩:ByteArray)],[ah rd xx,ah rn xx,ah rm xx]) false:=by unfold alA dO nO mO;simp [*]
   rw [e]
   exact Qn xx ss rd rn rm ra a b c h8 qt.1
 ·have e:alA ⟨32,xx,ss,rd,rn,rm,ra,a,b,c⟩=kq ⟨32,xx,ss,rd,rn,rm,ra,a,b,c⟩:=rfl
  rw [e]
  cases hr:kq ⟨32,xx,ss,rd,rn,rm,ra,a,b,c⟩ with
  | no=>exact PA xx ss rd rn rm ra a b c hr h
  | ln r q=>exact pl32 xx ss rd rn rm ra a b c r.1 r.2 q hr h
def vc:aJ Tryz.prog 26 :=
 mk1 _ _ _ Tryz.func26 rfl (fun _ _=>by go_simp) (ai ac) ((fun x=>ay x=0)) ((fun x=>.ret (alO (alA x)))) (by rw [Tryz.ntmps26];decide) (fun x h=>BV x h)
theorem nS {id:Nat} {h:am} {args:List AV}:(vc).run id h args=aY (au (ai ac) ((fun x=>ay x=0))) ((fun x=>.ret (alO (alA x)))) h args:=rfl
theorem nw {id:Nat} {h:am} {args:List AV}:(vc).pan id h args=aZ (au (ai ac) ((fun x=>ay x=0))) ((fun x=>.ret (alO (alA x)))) h args:=rfl
def lV (x:Ins):AV:=if ay x=0 then lnO (lnF x) else xY
def xG:aJ Tryz.prog 9 :=
 mk1 _ _ _ Tryz.func9 rfl (fun _ _=>by go_simp) (ai ac) ((fun _=>True)) ((fun x=>.ret (lV x))) (by rw [Tryz.ntmps9];decide) (fun x _=>by
 refine aa (ctx:=[⟨_,qB⟩,⟨_,vc⟩,⟨_,q7⟩]) 4000 ?_
 rw [Tryz.ntmps9,Tryz.results9]
 simp only [Tryz.f9,Option.getD_some,ag]
 by_cases h:ay x=0
 ·have q:=eK h
  have e:lV x=lnO (lnF x):=by unfold lV;rw [if_pos h]
  rw [e]
  cases hr:alA x with
  | no =>
   have e2:lnF x=bz x:=by unfold lnF;rw [hr]
   rw [e2]
   simp only [go_sem,ac,j0,jO,h,nS,nw,hr,alO,oV,pB,q,aj,lnO]
  | ln r b =>
   cases b
   ·have e2:lnF x=bz x:=by unfold lnF;rw [hr]
    rw [e2]
    simp only [go_sem,ac,j0,jO,h,nS,nw,hr,alO,oV,pB,q,aj,lnO]
   ·have e2:lnF x=r:=by unfold lnF;rw [hr]
    rw [e2]
    simp only [go_sem,ac,j0,jO,h,nS,nw,hr,alO,aj,lnO]
 ·have e:lV x=xY:=by unfold lV;rw [if_neg h]
  have h40:=tB h
  rw [e]
  simp only [go_sem,ac,j0,jO,h40,xY,emp])
theorem Bt {id:Nat} {h:am} {args:List AV}:(xG).run id h args=aY (au (ai ac) ((fun _=>True))) ((fun x=>.ret (lV x))) h args:=rfl
theorem CW {id:Nat} {h:am} {args:List AV}:(xG).pan id h args=aZ (au (ai ac) ((fun _=>True))) ((fun x=>.ret (lV x))) h args:=rfl
end
end Go.Proofs.YtpjlafmhoifkmaaGreat
