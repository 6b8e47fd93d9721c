import Derived.Test.YtpjlafmhoifkmaaGreatM48
import Derived.Test.YtpjlafmhoifkmaaGreatM49
import Derived.Test.YtpjlafmhoifkmaaGreatM50
import Derived.Test.YtpjlafmhoifkmaaGreatM51
import Derived.Test.YtpjlafmhoifkmaaGreatM52
import Derived.Test.YtpjlafmhoifkmaaGreatM53
import Derived.Test.YtpjlafmhoifkmaaGreatM40
set_option linter.unusedVariables false
set_option linter.unusedSimpArgs false
set_option maxRecDepth 100000
set_option maxHeartbeats 8000000
namespace Go.Proofs.YtpjlafmhoifkmaaGreat
open Go.RowKit
theorem ar {P:Program} {ro:Cf} {n:Nat} {c:Code} {s:St} {rs:List ResultVar} {r t:AV} (h:SW P ro n c s (ax P rs (.ret r))) (e:t=r):SW P ro n c s (ax P rs (.ret t)):=e▸h
attribute [local simp] fK mvI
theorem ID (x:Ins) (h:ay x=0) (ho:x.op=2∨x.op=3∨x.op=4∨x.op=6):SW Tryz.prog ⟨none,0⟩ Tryz.f33.ntmps (Tryz.f33.body.getD .skip) ⟨0,ag 0 [(ai ac).enc x],[]⟩ (ax Tryz.prog Tryz.f33.results.toList (.ret (alO (fK x)))):=by
 have q:=eK h
 have l:=kE h
 have lmov:=l.mov
 clear l
 clear q
 clear h
 obtain ⟨op,xx,ss,rd,rn,rm,ra,a,b,c⟩:=x
 simp only at ho lmov
 rcases ho with rfl | rfl | rfl | rfl
 ·cases ss
  ·by_cases h1:c=1
   ·subst h1
    by_cases h2:b=0
    ·subst h2
     by_cases h3:a=0
     ·subst h3
      exact ar (RB xx rd rn rm ra) rfl
     ·exact ar (Oi xx rd rn rm ra a (by omega)) (by simp [*])
    ·exact ar (QE xx rd rn rm ra a b (by omega)) (by simp [*])
   ·by_cases h4:b=0
    ·subst h4
     by_cases h5:a=0
     ·subst h5
      by_cases h6:c=0
      ·subst h6
       by_cases h7:rd=31
       ·subst h7
        exact ar (qi2d xx rn rm ra) rfl
       ·by_cases h8:rn=31
        ·subst h8
         exact ar (qi2n xx rd rm ra (by omega)) (by simp [*])
        ·exact ar (qi2o xx rd rn rm ra (by omega) (by omega)) (by simp [*,b0,n1])
      ·exact ar (qi2c xx rd rn rm ra c (by omega)) (by simp [*,b0,n1])
     ·exact ar (qi2a xx rd rn rm ra a c (by omega) (by omega)) (by simp [*,b0,n1])
    ·exact ar (qi2b xx rd rn rm ra a b c (by omega) (by omega)) (by simp [*,b0,n1])
  ·by_cases h9:rd=31
   ·subst h9
    by_cases h10:c=1
    ·subst h10
     exact ar (OW xx rn rm ra a b) rfl
    ·exact ar (qi2t xx rn rm ra a b c (by omega)) (by simp [*])
   ·by_cases h11:c=1
    ·subst h11
     by_cases h12:b=0
     ·subst h12
      by_cases h13:a=0
      ·subst h13
       exact ar (LY xx rd rn rm ra (by omega)) (by simp [*])
      ·exact ar (Nl xx rd rn rm ra a (by omega) (by omega)) (by simp [*])
     ·exact ar (M7 xx rd rn rm ra a b (by omega) (by omega)) (by simp [*])
    ·by_cases h14:b=0
     ·subst h14
      by_cases h15:a=0
      ·subst h15
       by_cases h16:c=0
       ·subst h16
        exact ar (NT xx rd rn rm ra (by omega)) (by simp [*])
       ·exact ar (RI xx rd rn rm ra c (by omega) (by omega)) (by simp [*])
      ·exact ar (Ot xx rd rn rm ra a c (by omega) (by omega) (by omega)) (by simp [*])
     ·exact ar (Rh xx rd rn rm ra a b c (by omega) (by omega) (by omega)) (by simp [*])
 ·obtain ⟨⟨m,e⟩,hM⟩:∃ r,bR ⟨rd,xx,false⟩ (dg a)=r:=⟨_,rfl⟩
  by_cases h17:b=3
  ·subst h17
   exact ar (qi3t xx ss rd rn rm ra a c) rfl
  ·by_cases h18:b=1
   ·subst h18
    by_cases h19:rn=31
    ·subst h19
     by_cases h20:e=0
     ·subst h20
      exact ar (qi3m xx ss rd rm ra a c _ (by assumption)) (by simp [*])
     ·exact ar (qi3e xx ss rd rm ra a c _ _ (by assumption) (by omega)) (by simp [*,b0,n1])
    ·exact ar (qi3n xx ss rd rn rm ra a c _ _ (by assumption) (by omega)) (by simp [*,b0,n1])
   ·exact ar (qi3b xx ss rd rn rm ra a b c _ _ (by assumption) (by omega)) (by simp [*,b0,n1])
 ·have lmc:=(lmov rfl).2.1
  have lma:=(lmov rfl).2.2
  clear lmov
  by_cases h21:b<3
  ·by_cases h22:a=0
   ·subst h22
    by_cases h23:c=0
    ·subst h23
     by_cases h24:b=2
     ·subst h24
      exact ar (Ru xx ss rd rn rm ra) rfl
     ·cases xx
      ·exact ar (qi40 ss rd rn rm ra b (by omega)) (by simp [*])
      ·exact ar (Pq ss rd rn rm ra b (by omega)) (by simp [*])
    ·exact ar (QT xx ss rd rn rm ra b c (by omega) (by omega) (by omega)) (by simp [*,b0,n1])
   ·by_cases h25:b=2
    ·subst h25
     exact ar (Qd xx ss rd rn rm ra a c (by omega) (by omega) (by omega)) (by simp [*,b0,n1])
    ·cases xx
     ·exact ar (qi4a ss rd rn rm ra a b c (by omega) (by omega) (by omega) (by omega)) (by simp [*,b0,n1])
     ·exact ar (Q1 ss rd rn rm ra a b c (by omega) (by omega) (by omega) (by omega)) (by simp [*,b0,n1])
  ·exact ar (qi4b xx ss rd rn rm ra a b c (by omega) (by omega) (by omega)) (by simp [*])
 ·exact ar (qi6 xx ss rd rn rm ra a b c) rfl
def Gr:aJ Tryz.prog 33 :=
 mk1 _ _ _ Tryz.func33 rfl (fun _ _=>by go_simp) (ai ac) ((fun x=>ay x=0∧(x.op=2∨x.op=3∨x.op=4∨x.op=6))) ((fun x=>.ret (alO (fK x)))) (by rw [Tryz.ntmps33];decide) (fun x h=>ID x h.1 h.2)
theorem fV {id:Nat} {h:am} {args:List AV}:(Gr).run id h args=aY (au (ai ac) ((fun x=>ay x=0∧(x.op=2∨x.op=3∨x.op=4∨x.op=6)))) ((fun x=>.ret (alO (fK x)))) h args:=rfl
theorem ga {id:Nat} {h:am} {args:List AV}:(Gr).pan id h args=aZ (au (ai ac) ((fun x=>ay x=0∧(x.op=2∨x.op=3∨x.op=4∨x.op=6)))) ((fun x=>.ret (alO (fK x)))) h args:=rfl
attribute [local simp] ne vv wG nA
theorem I9 (x:Ins) (h:ay x=0) (ho:x.op=5):SW Tryz.prog ⟨none,0⟩ Tryz.f34.ntmps (Tryz.f34.body.getD .skip) ⟨0,ag 0 [(ai ac).enc x],[]⟩ (ax Tryz.prog Tryz.f34.results.toList (.ret (aj (ne x)))):=by
 have q:=eK h
 have l:=kE h
 have lfld:=l.fld
 clear l
 clear q
 clear h
 obtain ⟨op,xx,ss,rd,rn,rm,ra,a,b,c⟩:=x
 simp only at ho lfld
 subst ho
 have lfa:=(lfld rfl).2.1
 have lfc:=(lfld rfl).2.2
 replace lfld:=lfld rfl
 cases xx
 ·by_cases h1:b=0
  ·subst h1
   by_cases h2:c=31
   ·subst h2
    exact ar (qf0f ss rd rn rm ra a (by omega)) rfl
   ·by_cases h3:a=0
    ·subst h3
     by_cases h4:c=7
     ·subst h4
      exact ar (qf07 ss rd rn rm ra) rfl
     ·by_cases h5:c=15
      ·subst h5
       exact ar (Qx ss rd rn rm ra) rfl
      ·exact ar (qf0z ss rd rn rm ra c (by omega) (by omega) (by omega)) (by simp [*,show ¬c<0 by omega])
    ·by_cases h6:c<a
     ·exact ar (qf0l ss rd rn rm ra a c (by omega) (by omega) (by omega) (by omega)) (by simp [*])
     ·exact ar (qf0g ss rd rn rm ra a c (by omega) (by omega) (by omega) (by omega) (by omega)) (by simp [*])
  ·by_cases h7:b=1
   ·subst h7
    by_cases h8:c<a
    ·by_cases h9:rn=31
     ·subst h9
      exact ar (qf1z ss rd rm ra a c (by omega) (by omega) (by omega)) (by simp [*])
     ·exact ar (qf1l ss rd rn rm ra a c (by omega) (by omega) (by omega) (by omega)) (by simp [*])
    ·exact ar (qf1g ss rd rn rm ra a c (by omega) (by omega) (by omega)) (by simp [*])
   ·have hb2:b=2:=by have:=lfld.1;omega
    subst hb2
    by_cases h10:c=31
    ·subst h10
     exact ar (qf2f ss rd rn rm ra a (by omega)) rfl
    ·by_cases h11:c+1=a
     ·exact ar (qf2s ss rd rn rm ra a c (by omega) (by omega) (by omega) (by omega)) (by simp [*])
     ·by_cases h12:a=0
      ·subst h12
       by_cases h13:c=7
       ·subst h13
        exact ar (qf27 ss rd rn rm ra) rfl
       ·by_cases h14:c=15
        ·subst h14
         exact ar (Px ss rd rn rm ra) rfl
        ·exact ar (qf2z ss rd rn rm ra c (by omega) (by omega) (by omega)) (by simp [*,show ¬c<0 by omega])
      ·by_cases h15:c<a
       ·exact ar (qf2l ss rd rn rm ra a c (by omega) (by omega) (by omega) (by omega) (by omega)) (by simp [*])
       ·exact ar (qf2g ss rd rn rm ra a c (by omega) (by omega) (by omega) (by omega) (by omega)) (by simp [*])
 ·by_cases h16:b=0
  ·subst h16
   by_cases h17:c=63
   ·subst h17
    exact ar (PC ss rd rn rm ra a (by omega)) rfl
   ·by_cases h18:a=0
    ·subst h18
     by_cases h19:c=7
     ·subst h19
      exact ar (Qc ss rd rn rm ra) rfl
     ·by_cases h20:c=15
      ·subst h20
       exact ar (LZ ss rd rn rm ra) rfl
      ·by_cases h21:c=31
       ·subst h21
        exact ar (M9 ss rd rn rm ra) rfl
       ·exact ar (Qk ss rd rn rm ra c (by omega) (by omega) (by omega)) (by simp [*,show ¬c<0 by omega])
    ·by_cases h22:c<a
     ·exact ar (Rn ss rd rn rm ra a c (by omega) (by omega) (by omega) (by omega)) (by simp [*])
     ·exact ar (QC ss rd rn rm ra a c (by omega) (by omega) (by omega) (by omega) (by omega)) (by simp [*])
  ·by_cases h23:b=1
   ·subst h23
    by_cases h24:c<a
    ·by_cases h25:rn=31
     ·subst h25
      exact ar (OR ss rd rm ra a c (by omega) (by omega) (by omega)) (by simp [*])
     ·exact ar (NU ss rd rn rm ra a c (by omega) (by omega) (by omega) (by omega)) (by simp [*])
    ·exact ar (NY ss rd rn rm ra a c (by omega) (by omega) (by omega)) (by simp [*])
   ·have hb2:b=2:=by have:=lfld.1;omega
    subst hb2
    by_cases h26:c=63
    ·subst h26
     exact ar (QP ss rd rn rm ra a (by omega)) rfl
    ·by_cases h27:c+1=a
     ·exact ar (RF ss rd rn rm ra a c (by omega) (by omega) (by omega) (by omega)) (by simp [*])
     ·by_cases h28:a=0
      ·subst h28
       exact ar (OA ss rd rn rm ra c (by omega) (by omega)) (by simp [*,show ¬c<0 by omega])
      ·by_cases h29:c<a
       ·exact ar (PL ss rd rn rm ra a c (by omega) (by omega) (by omega) (by omega) (by omega)) (by simp [*])
       ·exact ar (Qo ss rd rn rm ra a c (by omega) (by omega) (by omega) (by omega) (by omega)) (by simp [*])
def GZ:aJ Tryz.prog 34 :=
 mk1 _ _ _ Tryz.func34 rfl (fun _ _=>by go_simp) (ai ac) ((fun x=>ay x=0∧(x.op=5))) ((fun x=>.ret (aj (ne x)))) (by rw [Tryz.ntmps34];decide) (fun x h=>I9 x h.1 h.2)
theorem GR {id:Nat} {h:am} {args:List AV}:(GZ).run id h args=aY (au (ai ac) ((fun x=>ay x=0∧(x.op=5)))) ((fun x=>.ret (aj (ne x)))) h args:=rfl
theorem FU {id:Nat} {h:am} {args:List AV}:(GZ).pan id h args=aZ (au (ai ac) ((fun x=>ay x=0∧(x.op=5)))) ((fun x=>.ret (aj (ne x)))) h args:=rfl
theorem Od {x:Ins} (h:x.op=17):4≤(bt x).2.length:=by
 have hs:bt x=dr x:=by unfold bt;rw [if_neg (by omega),if_neg (by omega),if_pos (by omega)]
 rw [hs]
 obtain ⟨op,xx,ss,rd,rn,rm,ra,a,b,c⟩:=x
 simp only at h
 subst h
 unfold dr l9
 rw [if_neg (show ¬(17:Int)=12 by decide),if_neg (show ¬(17:Int)=13 by decide),if_neg (show ¬(17:Int)=14 by decide),if_neg (show ¬(17:Int)=15 by decide),if_neg (show ¬(17:Int)=16 by decide)]
 split<;>exact Nat.le_of_ble_eq_true rfl
attribute [local simp] iR
theorem Ip (x:Ins) (h:ay x=0) (ho:x.op=11∨x.op=12∨x.op=13∨x.op=14∨x.op=17):SW Tryz.prog ⟨none,0⟩ Tryz.f35.ntmps (Tryz.f35.body.getD .skip) ⟨0,ag 0 [(ai ac).enc x],[]⟩ (ax Tryz.prog Tryz.f35.results.toList (.ret (alO (iR x)))):=by
 have q:=eK h
 have l:=kE h
 clear l
 obtain ⟨op,xx,ss,rd,rn,rm,ra,a,b,c⟩:=x
 simp only at ho
 rcases ho with rfl | rfl | rfl | rfl | rfl
 ·clear q
  obtain ⟨⟨pn,pl⟩,hp⟩:∃ r,bt ⟨11,xx,ss,rd,rn,rm,ra,a,b,c⟩=r:=⟨_,rfl⟩
  by_cases h1:b=2
  ·subst h1
   exact ar (Of xx ss rd rn rm ra a c _ _ (by assumption) (by assumption)) rfl
  ·exact ar (qs11 xx ss rd rn rm ra a b c _ _ (by assumption) (by assumption) (by omega)) (by simp [*,b0,n1])
 ·clear q
  obtain ⟨⟨pn,pl⟩,hp⟩:∃ r,bt ⟨12,xx,ss,rd,rn,rm,ra,a,b,c⟩=r:=⟨_,rfl⟩
  by_cases h2:5≤b
  ·exact ar (Qs xx ss rd rn rm ra a b c _ _ (by assumption) (by assumption) (by omega)) (by simp [*])
  ·exact ar (qs12 xx ss rd rn rm ra a b c _ _ (by assumption) (by assumption) (by omega)) (by simp [*])
 ·clear q
  obtain ⟨⟨pn,pl⟩,hp⟩:∃ r,bt ⟨13,xx,ss,rd,rn,rm,ra,a,b,c⟩=r:=⟨_,rfl⟩
  obtain ⟨⟨hn,he⟩,hN⟩:∃ r,cV 5 a=r:=⟨_,rfl⟩
  exact ar (qs13 xx ss rd rn rm ra a b c _ _ (by assumption) (by assumption) _ _ (by assumption)) (by simp [*])
 ·clear q
  obtain ⟨⟨pn,pl⟩,hp⟩:∃ r,bt ⟨14,xx,ss,rd,rn,rm,ra,a,b,c⟩=r:=⟨_,rfl⟩
  by_cases h3:b=2
  ·subst h3
   exact ar (Q7 xx ss rd rn rm ra a c _ _ (by assumption) (by assumption)) (by simp [*])
  ·by_cases h4:b=6
   ·subst h4
    exact ar (QJ xx ss rd rn rm ra a c _ _ (by assumption) (by assumption)) (by simp [*])
   ·exact ar (qs14 xx ss rd rn rm ra a b c _ _ (by assumption) (by assumption) (by omega)) (by simp [*,b0,n1])
 ·clear q
  obtain ⟨⟨pn,pl⟩,hp⟩:∃ r,bt ⟨17,xx,ss,rd,rn,rm,ra,a,b,c⟩=r:=⟨_,rfl⟩
  have h4:4≤pl.length:=by have:=Od (x:=⟨17,xx,ss,rd,rn,rm,ra,a,b,c⟩) rfl;rw [hp] at this;exact this
  by_cases h5:b=0
  ·subst h5
   exact ar (Q5 xx ss rd rn rm ra a c _ _ (by assumption) (by assumption) (by assumption)) (by simp [*])
  ·exact ar (qs17 xx ss rd rn rm ra a b c _ _ (by assumption) (by assumption) (by omega) (by assumption)) (by simp [*,b0,n1])
def Ej:aJ Tryz.prog 35 :=
 mk1 _ _ _ Tryz.func35 rfl (fun _ _=>by go_simp) (ai ac) ((fun x=>ay x=0∧(x.op=11∨x.op=12∨x.op=13∨x.op=14∨x.op=17))) ((fun x=>.ret (alO (iR x)))) (by rw [Tryz.ntmps35];decide) (fun x h=>Ip x h.1 h.2)
theorem eG {id:Nat} {h:am} {args:List AV}:(Ej).run id h args=aY (au (ai ac) ((fun x=>ay x=0∧(x.op=11∨x.op=12∨x.op=13∨x.op=14∨x.op=17)))) ((fun x=>.ret (alO (iR x)))) h args:=rfl
theorem eH {id:Nat} {h:am} {args:List AV}:(Ej).pan id h args=aZ (au (ai ac) ((fun x=>ay x=0∧(x.op=11∨x.op=12∨x.op=13∨x.op=14∨x.op=17)))) ((fun x=>.ret (alO (iR x)))) h args:=rfl
attribute [local simp] fI zT Aw
theorem He (x:Ins) (h:ay x=0) (ho:x.op=24∨x.op=25∨x.op=27∨x.op=26):SW Tryz.prog ⟨none,0⟩ Tryz.f36.ntmps (Tryz.f36.body.getD .skip) ⟨0,ag 0 [(ai ac).enc x],[]⟩ (ax Tryz.prog Tryz.f36.results.toList (.ret (alO (fI x)))):=by
 have q:=eK h
 have l:=kE h
 have lmod:=l.mod
 clear l
 clear q
 clear h
 obtain ⟨op,xx,ss,rd,rn,rm,ra,a,b,c⟩:=x
 simp only at ho lmod
 rcases ho with rfl | rfl | rfl | rfl
 ·replace lmod:=lmod (by decide)
  by_cases h1:b=1
  ·subst h1
   cases ss
   ·by_cases h2:rn=31
    ·subst h2
     by_cases h3:a=0
     ·subst h3
      by_cases h4:c=0
      ·subst h4
       exact ar (PW xx rd rm ra) rfl
      ·exact ar (ON xx rd rm ra c (by omega)) (by simp [*])
     ·exact ar (QM xx rd rm ra a c (by omega)) (by simp [*])
    ·exact ar (Pv xx rd rn rm ra a c (by omega)) (by simp [*])
   ·by_cases h5:rn=31
    ·subst h5
     exact ar (OX xx rd rm ra a c (by omega)) rfl
    ·exact ar (OM xx rd rn rm ra a c (by omega)) (by simp [*])
  ·by_cases h6:b=3
   ·subst h6
    cases ss
    ·by_cases h7:rd=31
     ·subst h7
      exact ar (Ql xx rn rm ra a c (by omega)) rfl
     ·exact ar (Rd xx rd rn rm ra a c (by omega)) (by simp [*])
    ·exact ar (Og xx rd rn rm ra a c) rfl
   ·cases ss
    ·exact ar (K6 xx rd rn rm ra a b c (by omega)) (by simp [*])
    ·exact ar (Nd xx rd rn rm ra a b c (by omega)) (by simp [*])
 ·replace lmod:=lmod (by decide)
  cases ss
  ·by_cases h8:b=1
   ·subst h8
    by_cases h9:rn=31
    ·subst h9
     exact ar (Nw xx rd rm ra a c (by omega)) rfl
    ·exact ar (Me xx rd rn rm ra a c (by omega)) (by simp [*])
   ·exact ar (NC xx rd rn rm ra a b c (by omega)) (by simp [*])
  ·by_cases h10:rd=31
   ·subst h10
    exact ar (Ok xx rn rm ra a b c (by omega)) rfl
   ·by_cases h11:b=1
    ·subst h11
     by_cases h12:rn=31
     ·subst h12
      exact ar (Ll xx rd rm ra a c (by omega) (by omega)) (by simp [*])
     ·exact ar (Mf xx rd rn rm ra a c (by omega) (by omega)) (by simp [*])
    ·exact ar (LT xx rd rn rm ra a b c (by omega) (by omega)) (by simp [*])
 ·cases ss
  ·by_cases h13:b=1
   ·subst h13
    by_cases h14:rn=31
    ·subst h14
     exact ar (LG xx rd rm ra a c) rfl
    ·exact ar (Lw xx rd rn rm ra a c (by omega)) (by simp [*])
   ·exact ar (LU xx rd rn rm ra a b c (by omega)) (by simp [*])
  ·by_cases h15:b=1
   ·subst h15
    by_cases h16:rn=31
    ·subst h16
     exact ar (K5 xx rd rm ra a c) rfl
    ·exact ar (K4 xx rd rn rm ra a c (by omega)) (by simp [*])
   ·exact ar (Lu xx rd rn rm ra a b c (by omega)) (by simp [*])
 ·replace lmod:=lmod (by decide)
  cases xx
  ·cases ss
   ·by_cases h17:c=2
    ·subst h17
     by_cases h18:rn=31
     ·subst h18
      by_cases h19:a=0
      ·subst h19
       exact ar (Lk rd rm ra b (by assumption)) rfl
      ·exact ar (K0 rd rm ra a b (by omega) (by assumption)) (by simp [*])
     ·by_cases h20:rd=31
      ·subst h20
       by_cases h21:a=0
       ·subst h21
        exact ar (Mg rn rm ra b (by omega) (by assumption)) (by simp [*])
       ·exact ar (Lg rn rm ra a b (by omega) (by omega) (by assumption)) (by simp [*])
      ·exact ar (N8 rd rn rm ra a b (by omega) (by omega) (by assumption)) (by simp [*])
    ·exact ar (PI rd rn rm ra a b c (by omega) (by omega)) (by simp [*])
   ·by_cases h22:c=2
    ·subst h22
     by_cases h23:rn=31
     ·subst h23
      by_cases h24:rd=31
      ·subst h24
       by_cases h25:a=0
       ·subst h25
        exact ar (L4 rm ra b (by assumption)) rfl
       ·exact ar (Lt rm ra a b (by omega) (by assumption)) (by simp [*])
      ·by_cases h26:a=0
       ·subst h26
        exact ar (Lp rd rm ra b (by omega) (by assumption)) (by simp [*])
       ·exact ar (ND rd rm ra a b (by omega) (by omega) (by assumption)) (by simp [*])
     ·by_cases h27:rd=31
      ·subst h27
       exact ar (Rp rn rm ra a b (by omega) (by assumption)) (by simp [*])
      ·exact ar (OH rd rn rm ra a b (by omega) (by omega) (by assumption)) (by simp [*])
    ·by_cases h28:rd=31
     ·subst h28
      exact ar (QQ rn rm ra a b c (by omega) (by omega)) (by simp [*])
     ·exact ar (PM rd rn rm ra a b c (by omega) (by omega) (by omega)) (by simp [*])
  ·cases ss
   ·by_cases h29:c=3
    ·subst h29
     by_cases h30:rn=31
     ·subst h30
      by_cases h31:a=0
      ·subst h31
       exact ar (HX rd rm ra b (by assumption)) rfl
      ·exact ar (Ju rd rm ra a b (by omega) (by assumption)) (by simp [*])
     ·by_cases h32:rd=31
      ·subst h32
       by_cases h33:a=0
       ·subst h33
        exact ar (H5 rn rm ra b (by omega) (by assumption)) (by simp [*])
       ·exact ar (Jq rn rm ra a b (by omega) (by omega) (by assumption)) (by simp [*])
      ·exact ar (LL rd rn rm ra a b (by omega) (by omega) (by assumption)) (by simp [*])
    ·exact ar (Lj rd rn rm ra a b c (by omega) (by omega)) (by simp [*])
   ·by_cases h34:c=3
    ·subst h34
     by_cases h35:rn=31
     ·subst h35
      by_cases h36:rd=31
      ·subst h36
       by_cases h37:a=0
       ·subst h37
        exact ar (H7 rm ra b (by assumption)) rfl
       ·exact ar (HA rm ra a b (by omega) (by assumption)) (by simp [*])
      ·by_cases h38:a=0
       ·subst h38
        exact ar (Jl rd rm ra b (by omega) (by assumption)) (by simp [*])
       ·exact ar (H8 rd rm ra a b (by omega) (by omega) (by assumption)) (by simp [*])
     ·by_cases h39:rd=31
      ·subst h39
       exact ar (L7 rn rm ra a b (by omega) (by assumption)) (by simp [*])
      ·exact ar (Le rd rn rm ra a b (by omega) (by omega) (by assumption)) (by simp [*])
    ·by_cases h40:rd=31
     ·subst h40
      exact ar (NH rn rm ra a b c (by omega) (by omega)) (by simp [*])
     ·exact ar (LA rd rn rm ra a b c (by omega) (by omega) (by omega)) (by simp [*])
def FW:aJ Tryz.prog 36 :=
 mk1 _ _ _ Tryz.func36 rfl (fun _ _=>by go_simp) (ai ac) ((fun x=>ay x=0∧(x.op=24∨x.op=25∨x.op=27∨x.op=26))) ((fun x=>.ret (alO (fI x)))) (by rw [Tryz.ntmps36];decide) (fun x h=>He x h.1 h.2)
theorem fQ {id:Nat} {h:am} {args:List AV}:(FW).run id h args=aY (au (ai ac) ((fun x=>ay x=0∧(x.op=24∨x.op=25∨x.op=27∨x.op=26)))) ((fun x=>.ret (alO (fI x)))) h args:=rfl
theorem fU {id:Nat} {h:am} {args:List AV}:(FW).pan id h args=aZ (au (ai ac) ((fun x=>ay x=0∧(x.op=24∨x.op=25∨x.op=27∨x.op=26)))) ((fun x=>.ret (alO (fI x)))) h args:=rfl
attribute [local simp] gR
theorem Ji (x:Ins) (h:ay x=0) (ho:x.op=29∨x.op=31∨x.op=32):SW Tryz.prog ⟨none,0⟩ Tryz.f37.ntmps (Tryz.f37.body.getD .skip) ⟨0,ag 0 [(ai ac).enc x],[]⟩ (ax Tryz.prog Tryz.f37.results.toList (.ret (alO (gR x)))):=by
 have q:=eK h
 have l:=kE h
 clear l
 clear q
 clear h
 obtain ⟨op,xx,ss,rd,rn,rm,ra,a,b,c⟩:=x
 simp only at ho
 rcases ho with rfl | rfl | rfl
 ·by_cases h1:14≤a
  ·exact ar (Om xx ss rd rn rm ra a b c (by omega)) (by simp [*])
  ·by_cases h2:rn=rm
   ·by_cases h3:b=0
    ·subst h3
     exact ar (N9 xx ss rd rn rm ra a c (by omega) (by omega)) (by simp [*])
    ·by_cases h4:b=3
     ·subst h4
      exact ar (Oa xx ss rd rn rm ra a c (by omega) (by omega)) (by simp [*])
     ·by_cases h5:rn=31
      ·subst h5
       exact ar (Pc xx ss rd rm ra a b c (by omega) (by omega) (by omega)) (by simp [*])
      ·exact ar (NS xx ss rd rn rm ra a b c (by omega) (by omega) (by omega) (by omega)) (by simp [*,show ¬rm=31 by omega])
   ·exact ar (Oz xx ss rd rn rm ra a b c (by omega) (by omega)) (by simp [*])
 ·by_cases h6:8≤b
  ·by_cases h7:b≤11
   ·exact ar (qr31 xx ss rd rn rm ra a b c (by omega)) (by simp [*])
   ·exact ar (OY xx ss rd rn rm ra a b c (by omega)) (by simp [*])
  ·exact ar (N5 xx ss rd rn rm ra a b c (by omega)) (by simp [*])
 ·by_cases h8:ra=31
  ·subst h8
   by_cases h9:b<2
   ·exact ar (NZ xx ss rd rn rm a b c (by omega)) (by simp [*])
   ·by_cases h10:b=4
    ·subst h10
     exact ar (Pd xx ss rd rn rm a c) rfl
    ·by_cases h11:b=7
     ·subst h11
      exact ar (Pe xx ss rd rn rm a c) rfl
     ·exact ar (PU xx ss rd rn rm a b c (by omega)) (by simp [*])
  ·exact ar (RE xx ss rd rn rm ra a b c (by omega)) (by simp [*])
def De:aJ Tryz.prog 37 :=
 mk1 _ _ _ Tryz.func37 rfl (fun _ _=>by go_simp) (ai ac) ((fun x=>ay x=0∧(x.op=29∨x.op=31∨x.op=32))) ((fun x=>.ret (alO (gR x)))) (by rw [Tryz.ntmps37];decide) (fun x h=>Ji x h.1 h.2)
theorem iS {id:Nat} {h:am} {args:List AV}:(De).run id h args=aY (au (ai ac) ((fun x=>ay x=0∧(x.op=29∨x.op=31∨x.op=32)))) ((fun x=>.ret (alO (gR x)))) h args:=rfl
theorem iL {id:Nat} {h:am} {args:List AV}:(De).pan id h args=aZ (au (ai ac) ((fun x=>ay x=0∧(x.op=29∨x.op=31∨x.op=32)))) ((fun x=>.ret (alO (gR x)))) h args:=rfl
end Go.Proofs.YtpjlafmhoifkmaaGreat
