import Derived.Test.YtpjlafmhoifkmaaGreatN43
import Derived.Test.YtpjlafmhoifkmaaGreatN44
import Derived.Test.YtpjlafmhoifkmaaGreatN45
import Derived.Test.YtpjlafmhoifkmaaGreatN35
import Derived.Test.YtpjlafmhoifkmaaGreatN42
import Derived.Test.YtpjlafmhoifkmaaGreatN30
import Derived.Test.YtpjlafmhoifkmaaGreatN11
set_option linter.unusedVariables false
set_option linter.unusedSimpArgs false
set_option maxRecDepth 100000
set_option maxHeartbeats 8000000
namespace Go.Proofs.YtpjlafmhoifkmaaGreat
section
open Go.RowKit
theorem aN {P:Program} {ro:Cf} {n:Nat} {c:Code} {s:St} {rs:List ResultVar} {r t:AV} (h:SW P ro n c s (aH P rs (.ret r))) (e:t=r):SW P ro n c s (aH P rs (.ret t)):=e▸h
attribute [local simp] ny cx t4 ga dO nO cF
theorem Gy (x:Ins) (h:ao x=0) (ho:x.op=5):SW Tryz.prog ⟨none,0⟩ Tryz.f47.ntmps (Tryz.f47.body.getD .skip) ⟨0,ag 0 [(am ae).enc x],[]⟩ (aH Tryz.prog Tryz.f47.results.toList (.ret (alO (AlV.ln (ny x) true)))):=by
 have q:=gl h
 have l:=oP h
 have lfld:=l.fld
 clear l
 clear q
 clear h
 obtain ⟨op,xx,ss,rd,rn,rm,ra,a,b,c⟩:=x
 simp only at ho lfld
 subst ho
 have lfa:=(lfld rfl).2.1
 have lfc:=(lfld rfl).2.2
 replace lfld:=lfld rfl
 cases xx
 ·by_cases h1:b=0
  ·subst h1
   by_cases h2:c=31
   ·subst h2
    exact aN (pb0f ss rd rn rm ra a) rfl
   ·by_cases h3:a=0
    ·subst h3
     by_cases h4:c=7
     ·subst h4
      exact aN (pb07 ss rd rn rm ra) rfl
     ·by_cases h5:c=15
      ·subst h5
       exact aN (Mj ss rd rn rm ra) rfl
      ·exact aN (pb0z ss rd rn rm ra c (by omega) (by omega) (by omega)) (by simp [*,show ¬c<0 by omega])
    ·by_cases h6:c<a
     ·exact aN (pb0l ss rd rn rm ra a c (by omega) (by omega) (by omega) (by omega)) (by simp [*])
     ·exact aN (pb0g ss rd rn rm ra a c (by omega) (by omega) (by omega) (by omega) (by omega)) (by simp [*])
  ·by_cases h7:b=1
   ·subst h7
    by_cases h8:c<a
    ·by_cases h9:rn=31
     ·subst h9
      exact aN (pb1z ss rd rm ra a c (by omega) (by omega) (by omega)) (by simp [*,b0,n1];rfl)
     ·exact aN (pb1l ss rd rn rm ra a c (by omega) (by omega) (by omega) (by omega)) (by simp [*,b0,n1];rfl)
    ·exact aN (pb1g ss rd rn rm ra a c (by omega) (by omega) (by omega)) (by simp [*])
   ·have hb2:b=2:=by have:=lfld.1;omega
    subst hb2
    by_cases h10:c=31
    ·subst h10
     exact aN (pb2f ss rd rn rm ra a) rfl
    ·by_cases h11:c+1=a
     ·exact aN (pb2s ss rd rn rm ra a c (by omega) (by omega) (by omega) (by omega)) (by simp [*])
     ·by_cases h12:a=0
      ·subst h12
       by_cases h13:c=7
       ·subst h13
        exact aN (pb27 ss rd rn rm ra) rfl
       ·by_cases h14:c=15
        ·subst h14
         exact aN (NU ss rd rn rm ra) rfl
        ·exact aN (pb2z ss rd rn rm ra c (by omega) (by omega) (by omega)) (by simp [*,show ¬c<0 by omega])
      ·by_cases h15:c<a
       ·exact aN (pb2l ss rd rn rm ra a c (by omega) (by omega) (by omega) (by omega) (by omega)) (by simp [*])
       ·exact aN (pb2g ss rd rn rm ra a c (by omega) (by omega) (by omega) (by omega) (by omega)) (by simp [*])
 ·by_cases h16:b=0
  ·subst h16
   by_cases h17:c=63
   ·subst h17
    exact aN (Nt ss rd rn rm ra a) rfl
   ·by_cases h18:a=0
    ·subst h18
     by_cases h19:c=7
     ·subst h19
      exact aN (NN ss rd rn rm ra) rfl
     ·by_cases h20:c=15
      ·subst h20
       exact aN (Jt ss rd rn rm ra) rfl
      ·by_cases h21:c=31
       ·subst h21
        exact aN (Kt ss rd rn rm ra) rfl
       ·exact aN (Ot ss rd rn rm ra c (by omega) (by omega) (by omega)) (by simp [*,show ¬c<0 by omega])
    ·by_cases h22:c<a
     ·exact aN (NR ss rd rn rm ra a c (by omega) (by omega) (by omega) (by omega)) (by simp [*])
     ·exact aN (MW ss rd rn rm ra a c (by omega) (by omega) (by omega) (by omega) (by omega)) (by simp [*])
  ·by_cases h23:b=1
   ·subst h23
    by_cases h24:c<a
    ·by_cases h25:rn=31
     ·subst h25
      exact aN (LL ss rd rm ra a c (by omega) (by omega) (by omega)) (by simp [*,b0,n1];rfl)
     ·exact aN (L9 ss rd rn rm ra a c (by omega) (by omega) (by omega) (by omega)) (by simp [*,b0,n1];rfl)
    ·exact aN (NW ss rd rn rm ra a c (by omega) (by omega) (by omega)) (by simp [*])
   ·have hb2:b=2:=by have:=lfld.1;omega
    subst hb2
    by_cases h26:c=63
    ·subst h26
     exact aN (Nx ss rd rn rm ra a) rfl
    ·by_cases h27:c+1=a
     ·exact aN (Nf ss rd rn rm ra a c (by omega) (by omega) (by omega) (by omega)) (by simp [*])
     ·by_cases h28:a=0
      ·subst h28
       exact aN (OF ss rd rn rm ra c (by omega) (by omega)) (by simp [*,show ¬c<0 by omega])
      ·by_cases h29:c<a
       ·exact aN (Ml ss rd rn rm ra a c (by omega) (by omega) (by omega) (by omega) (by omega)) (by simp [*])
       ·exact aN (Mh ss rd rn rm ra a c (by omega) (by omega) (by omega) (by omega) (by omega)) (by simp [*])
def Cw:aQ Tryz.prog 47 :=
 mk1 _ _ _ Tryz.func47 rfl (fun _ _=>by go_simp) (am ae) ((fun x=>ao x=0∧(x.op=5))) ((fun x=>.ret (alO (AlV.ln (ny x) true)))) (by rw [Tryz.ntmps47];decide) (fun x h=>Gy x h.1 h.2)
theorem B9 {id:Nat} {h:ah} {args:List AV}:(Cw).run id h args=bm (av (am ae) ((fun x=>ao x=0∧(x.op=5)))) ((fun x=>.ret (alO (AlV.ln (ny x) true)))) h args:=rfl
theorem DP {id:Nat} {h:ah} {args:List AV}:(Cw).pan id h args=bt (av (am ae) ((fun x=>ao x=0∧(x.op=5)))) ((fun x=>.ret (alO (AlV.ln (ny x) true)))) h args:=rfl
attribute [local simp] iV dO nO
theorem AA (x:Ins) (h:ao x=0) (ho:x.op=29):SW Tryz.prog ⟨none,0⟩ Tryz.f55.ntmps (Tryz.f55.body.getD .skip) ⟨0,ag 0 [(am ae).enc x],[]⟩ (aH Tryz.prog Tryz.f55.results.toList (.ret (alO (iV x)))):=by
 have q:=gl h
 have l:=oP h
 clear l
 clear q
 clear h
 obtain ⟨op,xx,ss,rd,rn,rm,ra,a,b,c⟩:=x
 simp only at ho
 subst ho
 by_cases h1:14≤a
 ·exact aN (pc14 xx ss rd rn rm ra a b c (by omega)) (by simp [*])
 ·by_cases h2:b=0
  ·subst h2
   by_cases h3:rn=rm
   ·exact aN (pc0 xx ss rd rn rm ra a c (by omega) (by omega)) (by simp [*])
   ·exact aN (pc0m xx ss rd rn rm ra a c (by omega) (by omega)) (by simp [*])
  ·by_cases h4:b=1
   ·subst h4
    by_cases h5:rn=rm
    ·by_cases h6:rn=31
     ·subst h6
      exact aN (pcz1 xx ss rd rm ra a c (by omega) (by omega)) (by simp [*])
     ·exact aN (pcn1 xx ss rd rn rm ra a c (by omega) (by omega) (by omega)) (by simp [*,show ¬rm=31 by omega])
    ·exact aN (MJ xx ss rd rn rm ra a c (by omega) (by omega)) (by simp [*])
   ·by_cases h7:b=2
    ·subst h7
     by_cases h8:rn=rm
     ·by_cases h9:rn=31
      ·subst h9
       exact aN (pcz2 xx ss rd rm ra a c (by omega) (by omega)) (by simp [*])
      ·exact aN (pcn2 xx ss rd rn rm ra a c (by omega) (by omega) (by omega)) (by simp [*,show ¬rm=31 by omega])
     ·exact aN (Mi xx ss rd rn rm ra a c (by omega) (by omega)) (by simp [*])
    ·by_cases h10:rn=rm
     ·exact aN (pc3 xx ss rd rn rm ra a b c (by omega) (by omega) (by omega)) (by simp [*])
     ·exact aN (pcm2 xx ss rd rn rm ra a b c (by omega) (by omega) (by omega)) (by simp [*])
def wD:aQ Tryz.prog 55 :=
 mk1 _ _ _ Tryz.func55 rfl (fun _ _=>by go_simp) (am ae) ((fun x=>ao x=0∧(x.op=29))) ((fun x=>.ret (alO (iV x)))) (by rw [Tryz.ntmps55];decide) (fun x h=>AA x h.1 h.2)
theorem yl {id:Nat} {h:ah} {args:List AV}:(wD).run id h args=bm (av (am ae) ((fun x=>ao x=0∧(x.op=29)))) ((fun x=>.ret (alO (iV x)))) h args:=rfl
theorem yd {id:Nat} {h:ah} {args:List AV}:(wD).pan id h args=bt (av (am ae) ((fun x=>ao x=0∧(x.op=29)))) ((fun x=>.ret (alO (iV x)))) h args:=rfl
theorem Md {x:Ins} (h:x.op=32) (h4:¬x.b=4) (h7:¬x.b=7):3≤(aj x).2.length:=by
 have hs:aj x=bG x:=by unfold aj;rw [if_neg (by omega),if_neg (by omega),if_neg (by omega),if_neg (by omega),if_neg (by omega)]
 rw [hs]
 by_cases h2:x.b<2
 ·have ho:(bG x).2=[dO x,nO x,mO x,aO x]:=by unfold bG;rw [if_neg (by omega),if_neg (by omega),if_neg (by omega),if_pos h2]
  rw [ho];exact Nat.le_of_ble_eq_true rfl
 ·have ho:(bG x).2=[ab x.rd true,ab x.rn false,ab x.rm false,ab x.ra true]:=by unfold bG;rw [if_neg (by omega),if_neg (by omega),if_neg (by omega),if_neg h2,if_neg (by omega)]
  rw [ho];exact Nat.le_of_ble_eq_true rfl
attribute [local simp] gU
theorem Br (x:Ins) (h:ao x=0) (ho:x.op=32):SW Tryz.prog ⟨none,0⟩ Tryz.f57.ntmps (Tryz.f57.body.getD .skip) ⟨0,ag 0 [(am ae).enc x],[]⟩ (aH Tryz.prog Tryz.f57.results.toList (.ret (alO (gU x)))):=by
 have q:=gl h
 have l:=oP h
 clear l
 clear h
 obtain ⟨op,xx,ss,rd,rn,rm,ra,a,b,c⟩:=x
 simp only at ho
 subst ho
 obtain ⟨⟨pn,pl⟩,hp⟩:∃ r,aj ⟨32,xx,ss,rd,rn,rm,ra,a,b,c⟩=r:=⟨_,rfl⟩
 by_cases h1:ra=31
 ·subst h1
  by_cases h2:b=4
  ·subst h2
   exact aN (pp4 xx ss rd rn rm a c _ _ (by assumption) (by assumption)) (by simp [*])
  ·by_cases h3:b=7
   ·subst h3
    exact aN (pp7 xx ss rd rn rm a c _ _ (by assumption) (by assumption)) (by simp [*])
   ·have h3:3≤pl.length:=by have:=Md (x:=⟨32,xx,ss,rd,rn,rm,31,a,b,c⟩) rfl (by assumption) (by assumption);rw [hp] at this;exact this
    exact aN (pp xx ss rd rn rm a b c _ _ (by assumption) (by assumption) (by omega) (by assumption)) (by simp [*])
 ·exact aN (ppr xx ss rd rn rm ra a b c _ _ (by assumption) (by assumption) (by omega)) (by simp [*])
def vT:aQ Tryz.prog 57 :=
 mk1 _ _ _ Tryz.func57 rfl (fun _ _=>by go_simp) (am ae) ((fun x=>ao x=0∧(x.op=32))) ((fun x=>.ret (alO (gU x)))) (by rw [Tryz.ntmps57];decide) (fun x h=>Br x h.1 h.2)
theorem zM {id:Nat} {h:ah} {args:List AV}:(vT).run id h args=bm (av (am ae) ((fun x=>ao x=0∧(x.op=32)))) ((fun x=>.ret (alO (gU x)))) h args:=rfl
theorem Ae {id:Nat} {h:ah} {args:List AV}:(vT).pan id h args=bt (av (am ae) ((fun x=>ao x=0∧(x.op=32)))) ((fun x=>.ret (alO (gU x)))) h args:=rfl
theorem M3 (x:Ins) (h:x.op=26):∃ n o1 o2 o3,bx x=(n,[o1,o2,o3]):=by
 unfold bx
 rw [if_neg (by omega),if_neg (by omega),if_pos h]
 exact ⟨_,_,_,_,rfl⟩
attribute [local simp] eJ xi F8 tg an
theorem Gt (x:Ins) (h:ao x=0) (ho:x.op=26):SW Tryz.prog ⟨none,0⟩ Tryz.f54.ntmps (Tryz.f54.body.getD .skip) ⟨0,ag 0 [(am ae).enc x],[]⟩ (aH Tryz.prog Tryz.f54.results.toList (.ret (alO (eJ x)))):=by
 have q:=gl h
 have l:=oP h
 have lmod:=l.mod
 clear l
 clear q
 clear h
 obtain ⟨op,xx,ss,rd,rn,rm,ra,a,b,c⟩:=x
 simp only at ho lmod
 subst ho
 replace lmod:=lmod (by decide)
 obtain ⟨pn,o1,o2,o3,hs⟩:=M3 ⟨26,xx,ss,rd,rn,rm,ra,a,b,c⟩ rfl
 cases xx
 ·cases ss
  ·by_cases h1:rn=31
   ·subst h1
    by_cases h2:c=2
    ·subst h2
     by_cases h3:a=0
     ·subst h3
      exact aN (peCz rd rm ra b _ _ _ _ (by assumption) (by assumption)) (by simp [*])
     ·exact aN (peCa rd rm ra a b _ _ _ _ (by assumption) (by assumption) (by omega)) (by simp [*])
    ·exact aN (peCw rd rm ra a b c _ _ _ _ (by assumption) (by assumption) (by omega)) (by simp [*])
   ·by_cases h4:rd=31
    ·subst h4
     by_cases h5:c=2
     ·subst h5
      by_cases h6:a=0
      ·subst h6
       exact aN (peDz rn rm ra b _ _ _ _ (by assumption) (by assumption) (by omega)) (by simp [*])
      ·exact aN (peDa rn rm ra a b _ _ _ _ (by assumption) (by assumption) (by omega) (by omega)) (by simp [*])
     ·exact aN (peDw rn rm ra a b c _ _ _ _ (by assumption) (by assumption) (by omega) (by omega)) (by simp [*])
    ·exact aN (peDn rd rn rm ra a b c _ _ _ _ (by assumption) (by assumption) (by omega) (by omega)) (by simp [*])
  ·by_cases h7:rd=31
   ·subst h7
    by_cases h8:rn=31
    ·subst h8
     by_cases h9:c=2
     ·subst h9
      by_cases h10:a=0
      ·subst h10
       exact aN (peAz rm ra b _ _ _ _ (by assumption) (by assumption)) rfl
      ·exact aN (peAa rm ra a b _ _ _ _ (by assumption) (by assumption) (by omega)) (by simp [*])
     ·exact aN (peAw rm ra a b c _ _ _ _ (by assumption) (by assumption) (by omega)) (by simp [*])
    ·exact aN (peAn rn rm ra a b c _ _ _ _ (by assumption) (by assumption) (by omega)) (by simp [*])
   ·by_cases h11:rn=31
    ·subst h11
     by_cases h12:c=2
     ·subst h12
      by_cases h13:a=0
      ·subst h13
       exact aN (peBz rd rm ra b _ _ _ _ (by assumption) (by assumption) (by omega)) (by simp [*])
      ·exact aN (peBa rd rm ra a b _ _ _ _ (by assumption) (by assumption) (by omega) (by omega)) (by simp [*])
     ·exact aN (peBw rd rm ra a b c _ _ _ _ (by assumption) (by assumption) (by omega) (by omega)) (by simp [*])
    ·exact aN (peBn rd rn rm ra a b c _ _ _ _ (by assumption) (by assumption) (by omega) (by omega)) (by simp [*])
 ·cases ss
  ·by_cases h14:rn=31
   ·subst h14
    by_cases h15:c=3
    ·subst h15
     by_cases h16:a=0
     ·subst h16
      exact aN (L3 rd rm ra b _ _ _ _ (by assumption) (by assumption)) (by simp [*])
     ·exact aN (N6 rd rm ra a b _ _ _ _ (by assumption) (by assumption) (by omega)) (by simp [*])
    ·exact aN (Ni rd rm ra a b c _ _ _ _ (by assumption) (by assumption) (by omega)) (by simp [*])
   ·by_cases h17:rd=31
    ·subst h17
     by_cases h18:c=3
     ·subst h18
      by_cases h19:a=0
      ·subst h19
       exact aN (M7 rn rm ra b _ _ _ _ (by assumption) (by assumption) (by omega)) (by simp [*])
      ·exact aN (Oa rn rm ra a b _ _ _ _ (by assumption) (by assumption) (by omega) (by omega)) (by simp [*])
     ·exact aN (Mp rn rm ra a b c _ _ _ _ (by assumption) (by assumption) (by omega) (by omega)) (by simp [*])
    ·exact aN (Mv rd rn rm ra a b c _ _ _ _ (by assumption) (by assumption) (by omega) (by omega)) (by simp [*])
  ·by_cases h20:rd=31
   ·subst h20
    by_cases h21:rn=31
    ·subst h21
     by_cases h22:c=3
     ·subst h22
      by_cases h23:a=0
      ·subst h23
       exact aN (M8 rm ra b _ _ _ _ (by assumption) (by assumption)) rfl
      ·exact aN (Lj rm ra a b _ _ _ _ (by assumption) (by assumption) (by omega)) (by simp [*])
     ·exact aN (Mr rm ra a b c _ _ _ _ (by assumption) (by assumption) (by omega)) (by simp [*])
    ·exact aN (NB rn rm ra a b c _ _ _ _ (by assumption) (by assumption) (by omega)) (by simp [*])
   ·by_cases h24:rn=31
    ·subst h24
     by_cases h25:c=3
     ·subst h25
      by_cases h26:a=0
      ·subst h26
       exact aN (MT rd rm ra b _ _ _ _ (by assumption) (by assumption) (by omega)) (by simp [*])
      ·exact aN (ND rd rm ra a b _ _ _ _ (by assumption) (by assumption) (by omega) (by omega)) (by simp [*])
     ·exact aN (NS rd rm ra a b c _ _ _ _ (by assumption) (by assumption) (by omega) (by omega)) (by simp [*])
    ·exact aN (LE rd rn rm ra a b c _ _ _ _ (by assumption) (by assumption) (by omega) (by omega)) (by simp [*])
def B8:aQ Tryz.prog 54 :=
 mk1 _ _ _ Tryz.func54 rfl (fun _ _=>by go_simp) (am ae) ((fun x=>ao x=0∧(x.op=26))) ((fun x=>.ret (alO (eJ x)))) (by rw [Tryz.ntmps54];decide) (fun x h=>Gt x h.1 h.2)
theorem D0 {id:Nat} {h:ah} {args:List AV}:(B8).run id h args=bm (av (am ae) ((fun x=>ao x=0∧(x.op=26)))) ((fun x=>.ret (alO (eJ x)))) h args:=rfl
theorem Dp {id:Nat} {h:ah} {args:List AV}:(B8).pan id h args=bt (av (am ae) ((fun x=>ao x=0∧(x.op=26)))) ((fun x=>.ret (alO (eJ x)))) h args:=rfl
attribute [local simp] mI
theorem FW (x:Ins) (h:ao x=0):SW Tryz.prog ⟨none,0⟩ Tryz.f58.ntmps (Tryz.f58.body.getD .skip) ⟨0,ag 0 [(am ae).enc x],[]⟩ (aH Tryz.prog Tryz.f58.results.toList (.ret (alO (mI x)))):=by
 have q:=gl h
 have qsys:=q.sys
 clear h
 obtain ⟨op,xx,ss,rd,rn,rm,ra,a,b,c⟩:=x
 simp only at qsys
 by_cases hno:¬op=11∧¬op=12∧¬op=13∧¬op=14∧¬op=17
 ·have e:mI ⟨op,xx,ss,rd,rn,rm,ra,a,b,c⟩=.no:=by unfold mI;simp [hno]
  rw [e]
  exact ptno xx ss rd rn rm ra a b c op hno
 have hop:op=11∨op=12∨op=13∨op=14∨op=17:=by omega
 clear hno
 rcases hop with rfl | rfl | rfl | rfl | rfl
 ·clear q qsys
  by_cases h1:b=2
  ·subst h1
   exact aN (MX xx ss rd rn rm ra a c) rfl
  ·exact aN (pt11 xx ss rd rn rm ra a b c (by omega)) (by simp [*,b0,n1])
 ·clear qsys
  obtain ⟨⟨pn,pl⟩,hp⟩:∃ r,aj ⟨12,xx,ss,rd,rn,rm,ra,a,b,c⟩=r:=⟨_,rfl⟩
  by_cases h2:5≤b
  ·exact aN (Nh xx ss rd rn rm ra a b c _ _ (by assumption) (by assumption) (by omega)) (by simp [*])
  ·exact aN (pt12 xx ss rd rn rm ra a b c _ _ (by assumption) (by assumption) (by omega)) (by simp [*])
 ·clear q qsys
  obtain ⟨⟨hn,he⟩,hN⟩:∃ r,dn 5 a=r:=⟨_,rfl⟩
  exact aN (pt13 xx ss rd rn rm ra a b c _ _ (by assumption)) (by simp [*])
 ·clear qsys
  obtain ⟨⟨pn,pl⟩,hp⟩:∃ r,aj ⟨14,xx,ss,rd,rn,rm,ra,a,b,c⟩=r:=⟨_,rfl⟩
  by_cases h3:a=15
  ·subst h3
   by_cases h4:b=2
   ·subst h4
    exact aN (NV xx ss rd rn rm ra c _ _ (by assumption) (by assumption)) (by simp [*])
   ·by_cases h5:b=6
    ·subst h5
     exact aN (N8 xx ss rd rn rm ra c _ _ (by assumption) (by assumption)) (by simp [*])
    ·exact aN (NK xx ss rd rn rm ra b c _ _ (by assumption) (by assumption) (by omega)) (by simp [*,b0,n1])
  ·exact aN (MF xx ss rd rn rm ra a b c _ _ (by assumption) (by assumption) (by omega)) (by simp [*,b0,n1])
 ·replace qsys:=qsys rfl
  clear q
  by_cases h6:b=0
  ·subst h6
   exact aN (MG xx ss rd rn rm ra a c (by omega)) rfl
  ·exact aN (pt17 xx ss rd rn rm ra a b c (by omega) (by omega)) (by simp [*,b0,n1])
def CN:aQ Tryz.prog 58 :=
 mk1 _ _ _ Tryz.func58 rfl (fun _ _=>by go_simp) (am ae) ((fun x=>ao x=0)) ((fun x=>.ret (alO (mI x)))) (by rw [Tryz.ntmps58];decide) (fun x h=>FW x h)
theorem BP {id:Nat} {h:ah} {args:List AV}:(CN).run id h args=bm (av (am ae) ((fun x=>ao x=0))) ((fun x=>.ret (alO (mI x)))) h args:=rfl
theorem DO {id:Nat} {h:ah} {args:List AV}:(CN).pan id h args=bt (av (am ae) ((fun x=>ao x=0))) ((fun x=>.ret (alO (mI x)))) h args:=rfl
end
section
open Go.RowKit
def AY:Ctx Tryz.prog:=[⟨_,oz⟩]
def BI:Ctx Tryz.prog:=[⟨_,nZ⟩]
def CJ:Ctx Tryz.prog:=[⟨_,mp⟩]
def HP:Ctx Tryz.prog:=[⟨_,Cw⟩]
def Db:Ctx Tryz.prog:=[⟨_,oX⟩]
def un:Ctx Tryz.prog:=[⟨_,pr⟩]
def Bs:Ctx Tryz.prog:=[⟨_,B8⟩]
def Bj:Ctx Tryz.prog:=[⟨_,wD⟩]
def CW:Ctx Tryz.prog:=[⟨_,vT⟩]
def AK:Ctx Tryz.prog:=[⟨_,bZ bh⟩]
def kD:Ctx Tryz.prog:=[⟨_,bp⟩,⟨_,bZ bh⟩]
def wB:Ctx Tryz.prog:=[⟨_,CN⟩]
attribute [local go_sem] ag wrA aw wrK ay bB pcK fJ aM bC aW aV gC gD bT bD fz aX aL ap aS bH ij gOf aG aF aK bI bg aT jy jo kt jW iq gy jj iz kE eM fH iw gH gO dP jE jr ll aE aD bK bO bu aC bj be aZ dc da bE bF cp xwT xw0 bk opV opL bX ofD opR cB opE dO nO mO cF ab aB oOf op0 r0 emp l5 lw jq gq alO ae AY BI CJ HP Db un Bs Bj CW AK kD wB s8 sF tK um sh se B9 DP tF ua ul td true_or false_or or_true and_self D0 Dp yl yd zM Ae BP DO
theorem alP {x:Ins} {r:PO} {n:Nat} {rs:Array ResultVar} {ctx:Ctx Tryz.prog} {c0 c1 c:Code} (hn:Tryz.f26.ntmps=n) (hr:Tryz.f26.results=rs) (hb:Tryz.f26.body=some (.seq c0 (.seq c1 c))) (h:bA Tryz.prog ctx ⟨none,0⟩ n 4000 [.c c] (wrA x) (aH Tryz.prog rs.toList r)):Lf Tryz.f26 [(am ae).enc x] r:=by
 subst hn
 rw [Tryz.ntmps26] at h
 unfold Lf
 rw [Tryz.ntmps26,hr,hb]
 simp only [Tryz.f26] at hb
 injection hb with hb
 injection hb with ha hb
 injection hb with hb hc
 subst ha hb hc
 simp only [Option.getD_some,ag]
 refine az (aa (ctx:=[]) 4000 ?_)
 simp only [go_sem,aJ,ae]
 refine az (aa (ctx:=[]) 4000 ?_)
 simp only [go_sem,aJ]
 refine SW.wk (s':=wrA x) ?_ ((Wk.nilC 80 11 40 15 (k:=⟨true,68,12,[aw x++[.v (.string emp),.v (.slice none 0 0)]]⟩) rfl rfl rfl).trans (Wk.renL [0,16,80,112] (by simp) (by simp [wrA]) (by decide) rfl rfl))
 exact aa 4000 h
theorem pl2 (xx ss:Bool) (rd rn rm ra a b c:Int) (pn:ByteArray) (po:List OpV) (pq:Bool) (hr:eG ⟨2,xx,ss,rd,rn,rm,ra,a,b,c⟩=.ln (pn,po) pq):Lf Tryz.f26 [(am ae).enc ⟨2,xx,ss,rd,rn,rm,ra,a,b,c⟩] (.ret (alO (.ln (pn,po) pq))):=by
 refine alP (ctx:=AY) Tryz.ntmps26 Tryz.results26 rfl ?_
 simp only [go_sem,hr]
theorem pl2n (xx ss:Bool) (rd rn rm ra a b c:Int) (hr:eG ⟨2,xx,ss,rd,rn,rm,ra,a,b,c⟩=.no):Lf Tryz.f26 [(am ae).enc ⟨2,xx,ss,rd,rn,rm,ra,a,b,c⟩] (.ret (alO .no)):=by
 refine alP (ctx:=AY) Tryz.ntmps26 Tryz.results26 rfl ?_
 simp only [go_sem,hr]
theorem pl3 (xx ss:Bool) (rd rn rm ra a b c:Int) (pn:ByteArray) (po:List OpV) (pq:Bool) (hr:ofO (ft ⟨3,xx,ss,rd,rn,rm,ra,a,b,c⟩)=.ln (pn,po) pq):Lf Tryz.f26 [(am ae).enc ⟨3,xx,ss,rd,rn,rm,ra,a,b,c⟩] (.ret (alO (.ln (pn,po) pq))):=by
 refine alP (ctx:=BI) Tryz.ntmps26 Tryz.results26 rfl ?_
 simp only [go_sem,hr]
theorem pl3n (xx ss:Bool) (rd rn rm ra a b c:Int) (hr:ofO (ft ⟨3,xx,ss,rd,rn,rm,ra,a,b,c⟩)=.no):Lf Tryz.f26 [(am ae).enc ⟨3,xx,ss,rd,rn,rm,ra,a,b,c⟩] (.ret (alO .no)):=by
 refine alP (ctx:=BI) Tryz.ntmps26 Tryz.results26 rfl ?_
 simp only [go_sem,hr]
theorem pl4 (xx ss:Bool) (rd rn rm ra a b c:Int) (pn:ByteArray) (po:List OpV) (pq:Bool) (hr:ofO (fL ⟨4,xx,ss,rd,rn,rm,ra,a,b,c⟩)=.ln (pn,po) pq) (hc:0≤c∧c≤3):Lf Tryz.f26 [(am ae).enc ⟨4,xx,ss,rd,rn,rm,ra,a,b,c⟩] (.ret (alO (.ln (pn,po) pq))):=by
 refine alP (ctx:=CJ) Tryz.ntmps26 Tryz.results26 rfl ?_
 simp only [go_sem,hc.1,hc.2,hr]
theorem pl4n (xx ss:Bool) (rd rn rm ra a b c:Int) (hr:ofO (fL ⟨4,xx,ss,rd,rn,rm,ra,a,b,c⟩)=.no) (hc:0≤c∧c≤3):Lf Tryz.f26 [(am ae).enc ⟨4,xx,ss,rd,rn,rm,ra,a,b,c⟩] (.ret (alO .no)):=by
 refine alP (ctx:=CJ) Tryz.ntmps26 Tryz.results26 rfl ?_
 simp only [go_sem,hc.1,hc.2,hr]
theorem pl5 (xx ss:Bool) (rd rn rm ra a b c:Int) (pn:ByteArray) (po:List OpV) (hr:ny ⟨5,xx,ss,rd,rn,rm,ra,a,b,c⟩=(pn,po)) (hk:ao ⟨5,xx,ss,rd,rn,rm,ra,a,b,c⟩=0):Lf Tryz.f26 [(am ae).enc ⟨5,xx,ss,rd,rn,rm,ra,a,b,c⟩] (.ret (alO (.ln (pn,po) true))):=by
 refine alP (ctx:=HP) Tryz.ntmps26 Tryz.results26 rfl ?_
 simp only [go_sem,hk,hr]
theorem pl24 (xx ss:Bool) (rd rn rm ra a b c:Int) (pn:ByteArray) (po:List OpV) (pq:Bool) (hr:eH ⟨24,xx,ss,rd,rn,rm,ra,a,b,c⟩=.ln (pn,po) pq) (hc:0≤c∧c≤7):Lf Tryz.f26 [(am ae).enc ⟨24,xx,ss,rd,rn,rm,ra,a,b,c⟩] (.ret (alO (.ln (pn,po) pq))):=by
 refine alP (ctx:=Db) Tryz.ntmps26 Tryz.results26 rfl ?_
 simp only [go_sem,hc.1,hc.2,hr]
theorem Lx (xx ss:Bool) (rd rn rm ra a b c:Int) (hr:eH ⟨24,xx,ss,rd,rn,rm,ra,a,b,c⟩=.no) (hc:0≤c∧c≤7):Lf Tryz.f26 [(am ae).enc ⟨24,xx,ss,rd,rn,rm,ra,a,b,c⟩] (.ret (alO .no)):=by
 refine alP (ctx:=Db) Tryz.ntmps26 Tryz.results26 rfl ?_
 simp only [go_sem,hc.1,hc.2,hr]
theorem pl25 (xx ss:Bool) (rd rn rm ra a b c:Int) (pn:ByteArray) (po:List OpV) (pq:Bool) (hr:dw ⟨25,xx,ss,rd,rn,rm,ra,a,b,c⟩=.ln (pn,po) pq) (hc:0≤c∧c≤7):Lf Tryz.f26 [(am ae).enc ⟨25,xx,ss,rd,rn,rm,ra,a,b,c⟩] (.ret (alO (.ln (pn,po) pq))):=by
 refine alP (ctx:=un) Tryz.ntmps26 Tryz.results26 rfl ?_
 simp only [go_sem,hc.1,hc.2,hr]
theorem Nz (xx ss:Bool) (rd rn rm ra a b c:Int) (hr:dw ⟨25,xx,ss,rd,rn,rm,ra,a,b,c⟩=.no) (hc:0≤c∧c≤7):Lf Tryz.f26 [(am ae).enc ⟨25,xx,ss,rd,rn,rm,ra,a,b,c⟩] (.ret (alO .no)):=by
 refine alP (ctx:=un) Tryz.ntmps26 Tryz.results26 rfl ?_
 simp only [go_sem,hc.1,hc.2,hr]
theorem pl27 (xx ss:Bool) (rd rn rm ra a b c:Int) (pn:ByteArray) (po:List OpV) (pq:Bool) (hr:dw ⟨27,xx,ss,rd,rn,rm,ra,a,b,c⟩=.ln (pn,po) pq):Lf Tryz.f26 [(am ae).enc ⟨27,xx,ss,rd,rn,rm,ra,a,b,c⟩] (.ret (alO (.ln (pn,po) pq))):=by
 refine alP (ctx:=un) Tryz.ntmps26 Tryz.results26 rfl ?_
 simp only [go_sem,hr]
theorem Mu (xx ss:Bool) (rd rn rm ra a b c:Int) (hr:dw ⟨27,xx,ss,rd,rn,rm,ra,a,b,c⟩=.no):Lf Tryz.f26 [(am ae).enc ⟨27,xx,ss,rd,rn,rm,ra,a,b,c⟩] (.ret (alO .no)):=by
 refine alP (ctx:=un) Tryz.ntmps26 Tryz.results26 rfl ?_
 simp only [go_sem,hr]
theorem pl26 (xx ss:Bool) (rd rn rm ra a b c:Int) (pn:ByteArray) (po:List OpV) (pq:Bool) (hr:eJ ⟨26,xx,ss,rd,rn,rm,ra,a,b,c⟩=.ln (pn,po) pq) (hk:ao ⟨26,xx,ss,rd,rn,rm,ra,a,b,c⟩=0):Lf Tryz.f26 [(am ae).enc ⟨26,xx,ss,rd,rn,rm,ra,a,b,c⟩] (.ret (alO (.ln (pn,po) pq))):=by
 refine alP (ctx:=Bs) Tryz.ntmps26 Tryz.results26 rfl ?_
 simp only [go_sem,hk,hr]
theorem OE (xx ss:Bool) (rd rn rm ra a b c:Int) (hr:eJ ⟨26,xx,ss,rd,rn,rm,ra,a,b,c⟩=.no) (hk:ao ⟨26,xx,ss,rd,rn,rm,ra,a,b,c⟩=0):Lf Tryz.f26 [(am ae).enc ⟨26,xx,ss,rd,rn,rm,ra,a,b,c⟩] (.ret (alO .no)):=by
 refine alP (ctx:=Bs) Tryz.ntmps26 Tryz.results26 rfl ?_
 simp only [go_sem,hk,hr]
theorem pl29 (xx ss:Bool) (rd rn rm ra a b c:Int) (pn:ByteArray) (po:List OpV) (pq:Bool) (hr:iV ⟨29,xx,ss,rd,rn,rm,ra,a,b,c⟩=.ln (pn,po) pq) (hk:ao ⟨29,xx,ss,rd,rn,rm,ra,a,b,c⟩=0):Lf Tryz.f26 [(am ae).enc ⟨29,xx,ss,rd,rn,rm,ra,a,b,c⟩] (.ret (alO (.ln (pn,po) pq))):=by
 refine alP (ctx:=Bj) Tryz.ntmps26 Tryz.results26 rfl ?_
 simp only [go_sem,hk,hr]
theorem MS (xx ss:Bool) (rd rn rm ra a b c:Int) (hr:iV ⟨29,xx,ss,rd,rn,rm,ra,a,b,c⟩=.no) (hk:ao ⟨29,xx,ss,rd,rn,rm,ra,a,b,c⟩=0):Lf Tryz.f26 [(am ae).enc ⟨29,xx,ss,rd,rn,rm,ra,a,b,c⟩] (.ret (alO .no)):=by
 refine alP (ctx:=Bj) Tryz.ntmps26 Tryz.results26 rfl ?_
 simp only [go_sem,hk,hr]
theorem pl32 (xx ss:Bool) (rd rn rm ra a b c:Int) (pn:ByteArray) (po:List OpV) (pq:Bool) (hr:gU ⟨32,xx,ss,rd,rn,rm,ra,a,b,c⟩=.ln (pn,po) pq) (hk:ao ⟨32,xx,ss,rd,rn,rm,ra,a,b,c⟩=0):Lf Tryz.f26 [(am ae).enc ⟨32,xx,ss,rd,rn,rm,ra,a,b,c⟩] (.ret (alO (.ln (pn,po) pq))):=by
 refine alP (ctx:=CW) Tryz.ntmps26 Tryz.results26 rfl ?_
 simp only [go_sem,hk,hr]
theorem NZ (xx ss:Bool) (rd rn rm ra a b c:Int) (hr:gU ⟨32,xx,ss,rd,rn,rm,ra,a,b,c⟩=.no) (hk:ao ⟨32,xx,ss,rd,rn,rm,ra,a,b,c⟩=0):Lf Tryz.f26 [(am ae).enc ⟨32,xx,ss,rd,rn,rm,ra,a,b,c⟩] (.ret (alO .no)):=by
 refine alP (ctx:=CW) Tryz.ntmps26 Tryz.results26 rfl ?_
 simp only [go_sem,hk,hr]
theorem pl6 (xx ss:Bool) (rd rn rm ra a b c:Int):Lf Tryz.f26 [(am ae).enc ⟨6,xx,ss,rd,rn,rm,ra,a,b,c⟩] (.ret (alO (.ln ((⟨#[114,111,114]⟩:ByteArray),[ab rd xx,ab rn xx,aB a]) (rn==rm)))):=by
 refine alP (ctx:=AK) Tryz.ntmps26 Tryz.results26 rfl ?_
 simp only [go_sem]
 refine aq (ctx:=AK) ax ⟨[],[(8,[2,3,308]),(14,[1])],[(9,[2,3,308,1]),(10,[2,3,308,1]),(11,[2,3,308,1]),(12,[2,3,308,1]),(13,[2,3,308,1])]⟩ (by kernel_rfl) ?_
 simp only [go_sem]
theorem pl31 (xx ss:Bool) (rd rn rm ra a b c:Int) (h8:8≤b) (h11:b≤11) (hb:b≤23):Lf Tryz.f26 [(am ae).enc ⟨31,xx,ss,rd,rn,rm,ra,a,b,c⟩] (.ret (alO (.ln (ak (b-8) [(⟨#[108,115,108]⟩:ByteArray),(⟨#[108,115,114]⟩:ByteArray),(⟨#[97,115,114]⟩:ByteArray),(⟨#[114,111,114]⟩:ByteArray)],[ab rd xx,ab rn xx,ab rm xx]) true))):=by
 refine alP (ctx:=kD) Tryz.ntmps26 Tryz.results26 rfl ?_
 have k2:IntKind.i64.wrap (b-8)=b-8:=wr (by omega)
 simp only [go_sem,k2,h8,h11]
 refine aq (ctx:=kD) ax ⟨[],[(5,[452]),(13,[2,3,580]),(22,[1])],[(0,[452]),(6,[452]),(7,[452]),(8,[452]),(9,[452]),(10,[452]),(11,[452]),(12,[452]),(14,[452,2,3,580]),(15,[452,2,3,580]),(16,[452,2,3,580]),(18,[1]),(19,[1]),(20,[1]),(21,[1])]⟩ (by kernel_rfl) ?_
 simp only [go_sem,k2,h8,h11]
theorem N9 (xx ss:Bool) (rd rn rm ra a b c:Int) (h8:8≤b) (h11:¬b≤11) (hb:b≤23):Lf Tryz.f26 [(am ae).enc ⟨31,xx,ss,rd,rn,rm,ra,a,b,c⟩] (.ret (alO (.ln (ak (b-8) [(⟨#[108,115,108]⟩:ByteArray),(⟨#[108,115,114]⟩:ByteArray),(⟨#[97,115,114]⟩:ByteArray),(⟨#[114,111,114]⟩:ByteArray)],[ab rd xx,ab rn xx,ab rm xx]) false))):=by
 refine alP (ctx:=kD) Tryz.ntmps26 Tryz.results26 rfl ?_
 have k2:IntKind.i64.wrap (b-8)=b-8:=wr (by omega)
 simp only [go_sem,k2,h8,h11]
 refine aq (ctx:=kD) ax ⟨[],[(5,[452]),(13,[2,3,580]),(22,[1])],[(0,[452]),(6,[452]),(7,[452]),(8,[452]),(9,[452]),(10,[452]),(11,[452]),(12,[452]),(14,[452,2,3,580]),(15,[452,2,3,580]),(16,[452,2,3,580]),(18,[1]),(19,[1]),(20,[1]),(21,[1])]⟩ (by kernel_rfl) ?_
 simp only [go_sem,k2,h8,h11]
theorem Ll (xx ss:Bool) (rd rn rm ra a b c:Int) (h8:¬8≤b) (hb:2≤b):Lf Tryz.f26 [(am ae).enc ⟨31,xx,ss,rd,rn,rm,ra,a,b,c⟩] (.ret (alO (.ln (ak (b-8) [(⟨#[108,115,108]⟩:ByteArray),(⟨#[108,115,114]⟩:ByteArray),(⟨#[97,115,114]⟩:ByteArray),(⟨#[114,111,114]⟩:ByteArray)],[ab rd xx,ab rn xx,ab rm xx]) false))):=by
 refine alP (ctx:=kD) Tryz.ntmps26 Tryz.results26 rfl ?_
 have k2:IntKind.i64.wrap (b-8)=b-8:=wr (by omega)
 simp only [go_sem,k2,h8]
 refine aq (ctx:=kD) ax ⟨[],[(5,[452]),(13,[2,3,580]),(22,[1])],[(0,[452]),(6,[452]),(7,[452]),(8,[452]),(9,[452]),(10,[452]),(11,[452]),(12,[452]),(14,[452,2,3,580]),(15,[452,2,3,580]),(16,[452,2,3,580]),(18,[1]),(19,[1]),(20,[1]),(21,[1])]⟩ (by kernel_rfl) ?_
 simp only [go_sem,k2,h8]
theorem plo (xx ss:Bool) (rd rn rm ra a b c:Int) (op:Int) (ho:¬op=2∧¬op=3∧¬op=4∧¬op=5∧¬op=6∧¬op=24∧¬op=25∧¬op=27∧¬op=26∧¬op=29∧¬op=31∧¬op=32) (hk:ao ⟨op,xx,ss,rd,rn,rm,ra,a,b,c⟩=0) (pn:ByteArray) (po:List OpV) (pq:Bool) (hr:mI ⟨op,xx,ss,rd,rn,rm,ra,a,b,c⟩=.ln (pn,po) pq):Lf Tryz.f26 [(am ae).enc ⟨op,xx,ss,rd,rn,rm,ra,a,b,c⟩] (.ret (alO (.ln (pn,po) pq))):=by
 refine alP (ctx:=wB) Tryz.ntmps26 Tryz.results26 rfl ?_
 simp only [go_sem,b0 ho.1,b0 ho.2.1,b0 ho.2.2.1,b0 ho.2.2.2.1,b0 ho.2.2.2.2.1,b0 ho.2.2.2.2.2.1,b0 ho.2.2.2.2.2.2.1,b0 ho.2.2.2.2.2.2.2.1,b0 ho.2.2.2.2.2.2.2.2.1,b0 ho.2.2.2.2.2.2.2.2.2.1,b0 ho.2.2.2.2.2.2.2.2.2.2.1,b0 ho.2.2.2.2.2.2.2.2.2.2.2,hk,hr]
theorem plon (xx ss:Bool) (rd rn rm ra a b c:Int) (op:Int) (ho:¬op=2∧¬op=3∧¬op=4∧¬op=5∧¬op=6∧¬op=24∧¬op=25∧¬op=27∧¬op=26∧¬op=29∧¬op=31∧¬op=32) (hk:ao ⟨op,xx,ss,rd,rn,rm,ra,a,b,c⟩=0) (hr:mI ⟨op,xx,ss,rd,rn,rm,ra,a,b,c⟩=.no):Lf Tryz.f26 [(am ae).enc ⟨op,xx,ss,rd,rn,rm,ra,a,b,c⟩] (.ret (alO .no)):=by
 refine alP (ctx:=wB) Tryz.ntmps26 Tryz.results26 rfl ?_
 simp only [go_sem,b0 ho.1,b0 ho.2.1,b0 ho.2.2.1,b0 ho.2.2.2.1,b0 ho.2.2.2.2.1,b0 ho.2.2.2.2.2.1,b0 ho.2.2.2.2.2.2.1,b0 ho.2.2.2.2.2.2.2.1,b0 ho.2.2.2.2.2.2.2.2.1,b0 ho.2.2.2.2.2.2.2.2.2.1,b0 ho.2.2.2.2.2.2.2.2.2.2.1,b0 ho.2.2.2.2.2.2.2.2.2.2.2,hk,hr]
theorem zm (x:Ins) (h:ao x=0):SW Tryz.prog ⟨none,0⟩ Tryz.f26.ntmps (Tryz.f26.body.getD .skip) ⟨0,ag 0 [(am ae).enc x],[]⟩ (aH Tryz.prog Tryz.f26.results.toList (.ret (alO (alA x)))):=by
 have q:=gl h
 have l:=oP h
 have qtwo:=q.two
 have lmov:=l.mov
 have lmod:=l.mod
 clear q l
 obtain ⟨op,xx,ss,rd,rn,rm,ra,a,b,c⟩:=x
 simp only at qtwo lmov lmod
 by_cases hno:¬op=2∧¬op=3∧¬op=4∧¬op=5∧¬op=6∧¬op=24∧¬op=25∧¬op=27∧¬op=26∧¬op=29∧¬op=31∧¬op=32
 ·have e:alA ⟨op,xx,ss,rd,rn,rm,ra,a,b,c⟩=mI ⟨op,xx,ss,rd,rn,rm,ra,a,b,c⟩:=by unfold alA;simp [hno]
  rw [e]
  cases hr:mI ⟨op,xx,ss,rd,rn,rm,ra,a,b,c⟩ with
  | no=>exact plon xx ss rd rn rm ra a b c op hno h hr
  | ln r q=>exact plo xx ss rd rn rm ra a b c op hno h r.1 r.2 q hr
 have hop:op=2∨op=3∨op=4∨op=5∨op=6∨op=24∨op=25∨op=27∨op=26∨op=29∨op=31∨op=32:=by omega
 clear hno
 rcases hop with rfl | rfl | rfl | rfl | rfl | rfl | rfl | rfl | rfl | rfl | rfl | rfl
 ·have e:alA ⟨2,xx,ss,rd,rn,rm,ra,a,b,c⟩=eG ⟨2,xx,ss,rd,rn,rm,ra,a,b,c⟩:=rfl
  rw [e]
  cases hr:eG ⟨2,xx,ss,rd,rn,rm,ra,a,b,c⟩ with
  | no=>exact pl2n xx ss rd rn rm ra a b c hr
  | ln r q=>exact pl2 xx ss rd rn rm ra a b c r.1 r.2 q hr
 ·have e:alA ⟨3,xx,ss,rd,rn,rm,ra,a,b,c⟩=ofO (ft ⟨3,xx,ss,rd,rn,rm,ra,a,b,c⟩):=rfl
  rw [e]
  cases hr:ofO (ft ⟨3,xx,ss,rd,rn,rm,ra,a,b,c⟩) with
  | no=>exact pl3n xx ss rd rn rm ra a b c hr
  | ln r q=>exact pl3 xx ss rd rn rm ra a b c r.1 r.2 q hr
 ·have e:alA ⟨4,xx,ss,rd,rn,rm,ra,a,b,c⟩=ofO (fL ⟨4,xx,ss,rd,rn,rm,ra,a,b,c⟩):=rfl
  rw [e]
  cases hr:ofO (fL ⟨4,xx,ss,rd,rn,rm,ra,a,b,c⟩) with
  | no=>exact pl4n xx ss rd rn rm ra a b c hr (lmov rfl).2.1
  | ln r q=>exact pl4 xx ss rd rn rm ra a b c r.1 r.2 q hr (lmov rfl).2.1
 ·have e:alA ⟨5,xx,ss,rd,rn,rm,ra,a,b,c⟩=AlV.ln (ny ⟨5,xx,ss,rd,rn,rm,ra,a,b,c⟩) true:=rfl
  rw [e]
  exact pl5 xx ss rd rn rm ra a b c _ _ rfl h
 ·exact pl6 xx ss rd rn rm ra a b c
 ·have e:alA ⟨24,xx,ss,rd,rn,rm,ra,a,b,c⟩=eH ⟨24,xx,ss,rd,rn,rm,ra,a,b,c⟩:=rfl
  rw [e]
  cases hr:eH ⟨24,xx,ss,rd,rn,rm,ra,a,b,c⟩ with
  | no=>exact Lx xx ss rd rn rm ra a b c hr (lmod (by decide))
  | ln r q=>exact pl24 xx ss rd rn rm ra a b c r.1 r.2 q hr (lmod (by decide))
 ·have e:alA ⟨25,xx,ss,rd,rn,rm,ra,a,b,c⟩=dw ⟨25,xx,ss,rd,rn,rm,ra,a,b,c⟩:=rfl
  rw [e]
  cases hr:dw ⟨25,xx,ss,rd,rn,rm,ra,a,b,c⟩ with
  | no=>exact Nz xx ss rd rn rm ra a b c hr (lmod (by decide))
  | ln r q=>exact pl25 xx ss rd rn rm ra a b c r.1 r.2 q hr (lmod (by decide))
 ·have e:alA ⟨27,xx,ss,rd,rn,rm,ra,a,b,c⟩=dw ⟨27,xx,ss,rd,rn,rm,ra,a,b,c⟩:=rfl
  rw [e]
  cases hr:dw ⟨27,xx,ss,rd,rn,rm,ra,a,b,c⟩ with
  | no=>exact Mu xx ss rd rn rm ra a b c hr
  | ln r q=>exact pl27 xx ss rd rn rm ra a b c r.1 r.2 q hr
 ·have e:alA ⟨26,xx,ss,rd,rn,rm,ra,a,b,c⟩=eJ ⟨26,xx,ss,rd,rn,rm,ra,a,b,c⟩:=rfl
  rw [e]
  cases hr:eJ ⟨26,xx,ss,rd,rn,rm,ra,a,b,c⟩ with
  | no=>exact OE xx ss rd rn rm ra a b c hr h
  | ln r q=>exact pl26 xx ss rd rn rm ra a b c r.1 r.2 q hr h
 ·have e:alA ⟨29,xx,ss,rd,rn,rm,ra,a,b,c⟩=iV ⟨29,xx,ss,rd,rn,rm,ra,a,b,c⟩:=rfl
  rw [e]
  cases hr:iV ⟨29,xx,ss,rd,rn,rm,ra,a,b,c⟩ with
  | no=>exact MS xx ss rd rn rm ra a b c hr h
  | ln r q=>exact pl29 xx ss rd rn rm ra a b c r.1 r.2 q hr h
 ·have qt:=qtwo rfl
  clear qtwo lmov lmod h
  by_cases h8:8≤b
  ·by_cases h11:b≤11
   ·have e:alA ⟨31,xx,ss,rd,rn,rm,ra,a,b,c⟩=.ln (ak (b-8) [(⟨#[108,115,108]⟩:ByteArray),(⟨#[108,115,114]⟩:ByteArray),(⟨#[97,115,114]⟩:ByteArray),(⟨#[114,111,114]⟩:ByteArray)],[ab rd xx,ab rn xx,ab rm xx]) true:=by unfold alA dO nO mO;simp [*]
    rw [e]
    exact pl31 xx ss rd rn rm ra a b c h8 h11 qt.2
   ·have e:alA ⟨31,xx,ss,rd,rn,rm,ra,a,b,c⟩=.ln (ak (b-8) [(⟨#[108,115,108]⟩:ByteArray),(⟨#[108,115,114]⟩:ByteArray),(⟨#[97,115,114]⟩:ByteArray),(⟨#[114,111,114]⟩:ByteArray)],[ab rd xx,ab rn xx,ab rm xx]) false:=by unfold alA dO nO mO;simp [*]
    rw [e]
    exact N9 xx ss rd rn rm ra a b c h8 h11 qt.2
  ·have e:alA ⟨31,xx,ss,rd,rn,rm,ra,a,b,c⟩=.ln (ak (b-8) [(⟨#[108,115,108]⟩:ByteArray),(⟨#[108,115,114]⟩:ByteArray),(⟨#[97,115,114]⟩:ByteArray),(⟨#[114,111,114]⟩:ByteArray)],[ab rd xx,ab rn xx,ab rm xx]) false:=by unfold alA dO nO mO;simp [*]
   rw [e]
   exact Ll xx ss rd rn rm ra a b c h8 qt.1
 ·have e:alA ⟨32,xx,ss,rd,rn,rm,ra,a,b,c⟩=gU ⟨32,xx,ss,rd,rn,rm,ra,a,b,c⟩:=rfl
  rw [e]
  cases hr:gU ⟨32,xx,ss,rd,rn,rm,ra,a,b,c⟩ with
  | no=>exact NZ xx ss rd rn rm ra a b c hr h
  | ln r q=>exact pl32 xx ss rd rn rm ra a b c r.1 r.2 q hr h
def sa:aQ Tryz.prog 26 :=
 mk1 _ _ _ Tryz.func26 rfl (fun _ _=>by go_simp) (am ae) ((fun x=>ao x=0)) ((fun x=>.ret (alO (alA x)))) (by rw [Tryz.ntmps26];decide) (fun x h=>zm x h)
theorem k8 {id:Nat} {h:ah} {args:List AV}:(sa).run id h args=bm (av (am ae) ((fun x=>ao x=0))) ((fun x=>.ret (alO (alA x)))) h args:=rfl
theorem kL {id:Nat} {h:ah} {args:List AV}:(sa).pan id h args=bt (av (am ae) ((fun x=>ao x=0))) ((fun x=>.ret (alO (alA x)))) h args:=rfl
def oF (x:Ins):AV:=if ao x=0 then lnO (lnF x) else zX
def vR:aQ Tryz.prog 9 :=
 mk1 _ _ _ Tryz.func9 rfl (fun _ _=>by go_simp) (am ae) ((fun _=>True)) ((fun x=>.ret (oF x))) (by rw [Tryz.ntmps9];decide) (fun x _=>by
 refine aa (ctx:=[⟨_,lu⟩,⟨_,sa⟩,⟨_,l8⟩]) 4000 ?_
 rw [Tryz.ntmps9,Tryz.results9]
 simp only [Tryz.f9,Option.getD_some,ag]
 by_cases h:ao x=0
 ·have q:=gl h
  have e:oF x=lnO (lnF x):=by unfold oF;rw [if_pos h]
  rw [e]
  cases hr:alA x with
  | no =>
   have e2:lnF x=aj x:=by unfold lnF;rw [hr]
   rw [e2]
   simp only [go_sem,ae,fa,eW,h,k8,kL,hr,alO,j8,j5,q,au,lnO]
  | ln r b =>
   cases b
   ·have e2:lnF x=aj x:=by unfold lnF;rw [hr]
    rw [e2]
    simp only [go_sem,ae,fa,eW,h,k8,kL,hr,alO,j8,j5,q,au,lnO]
   ·have e2:lnF x=r:=by unfold lnF;rw [hr]
    rw [e2]
    simp only [go_sem,ae,fa,eW,h,k8,kL,hr,alO,au,lnO]
 ·have e:oF x=zX:=by unfold oF;rw [if_neg h]
  have h40:=j3 h
  rw [e]
  simp only [go_sem,ae,fa,eW,h40,zX,emp])
theorem yW {id:Nat} {h:ah} {args:List AV}:(vR).run id h args=bm (av (am ae) ((fun _=>True))) ((fun x=>.ret (oF x))) h args:=rfl
theorem zV {id:Nat} {h:ah} {args:List AV}:(vR).pan id h args=bt (av (am ae) ((fun _=>True))) ((fun x=>.ret (oF x))) h args:=rfl
end
end Go.Proofs.YtpjlafmhoifkmaaGreat
