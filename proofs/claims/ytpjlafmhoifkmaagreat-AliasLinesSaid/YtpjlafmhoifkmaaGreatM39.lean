import Derived.Test.YtpjlafmhoifkmaaGreatM34
import Derived.Test.YtpjlafmhoifkmaaGreatM35
import Derived.Test.YtpjlafmhoifkmaaGreatM36
import Derived.Test.YtpjlafmhoifkmaaGreatM37
import Derived.Test.YtpjlafmhoifkmaaGreatM38
set_option linter.unusedVariables false
set_option linter.unusedSimpArgs false
set_option maxRecDepth 100000
set_option maxHeartbeats 8000000
namespace Go.Proofs.YtpjlafmhoifkmaaGreat
open Go.RowKit
theorem Ey (x:Ins) (h:ay x=0) (ho:x.op=1∨(7≤x.op∧x.op≤11)):SW Tryz.prog ⟨none,0⟩ Tryz.f73.ntmps (Tryz.f73.body.getD .skip) ⟨0,ag 0 [(ai ac).enc x],[]⟩ (ax Tryz.prog Tryz.f73.results.toList (.ret (aj (dt x)))):=by
 have q:=eK h
 clear h
 have qadr:=q.adr
 have qfar:=q.far
 clear q
 obtain ⟨op,xx,ss,rd,rn,rm,ra,a,b,c⟩:=x
 simp only at ho qadr qfar
 have hop:op=1∨op=7∨op=8∨op=9∨op=10∨op=11:=by omega
 clear ho
 rcases hop with rfl | rfl | rfl | rfl | rfl | rfl
 ·have qa:=qadr rfl
  cases xx
  ·have e:dt ⟨1,false,ss,rd,rn,rm,ra,a,b,c⟩=(((⟨#[97,100,114]⟩:ByteArray),[ah rd true,oTo a])):=by first | rfl | (unfold dt;simp [*];done) | (unfold dt;simp [*];omega)
   rw [e]
   exact rd1w ss rd rn rm ra a b c
  ·have e:dt ⟨1,true,ss,rd,rn,rm,ra,a,b,c⟩=(((⟨#[97,100,114,112]⟩:ByteArray),[ah rd true,oTo (4096*a)])):=by first | rfl | (unfold dt;simp [*];done) | (unfold dt;simp [*];omega)
   rw [e]
   exact rd1x ss rd rn rm ra a b c (by omega)
 ·have e:dt ⟨7,xx,ss,rd,rn,rm,ra,a,b,c⟩=(((⟨#[98,46]⟩:ByteArray)++(cV 2 b).1,[oTo (4*a)])):=by first | rfl | (unfold dt;simp [*];done) | (unfold dt;simp [*];omega)
  rw [e]
  exact rd7 xx ss rd rn rm ra a b c (by have:=qfar (by decide) (by decide);omega)
 ·have e:dt ⟨8,xx,ss,rd,rn,rm,ra,a,b,c⟩=((cJ (⟨#[98]⟩:ByteArray) ss (⟨#[108]⟩:ByteArray),[oTo (4*a)])):=by first | rfl | (unfold dt;simp [*];done) | (unfold dt;simp [*];omega)
  rw [e]
  exact rd8 xx ss rd rn rm ra a b c (by have:=qfar (by decide) (by decide);omega)
 ·have e:dt ⟨9,xx,ss,rd,rn,rm,ra,a,b,c⟩=((ae b [(⟨#[99,98,122]⟩:ByteArray),(⟨#[99,98,110,122]⟩:ByteArray)],[ah rd xx,oTo (4*a)])):=by first | rfl | (unfold dt;simp [*];done) | (unfold dt;simp [*];omega)
  rw [e]
  exact rd9 xx ss rd rn rm ra a b c (by have:=qfar (by decide) (by decide);omega)
 ·have e:dt ⟨10,xx,ss,rd,rn,rm,ra,a,b,c⟩=((ae b [(⟨#[116,98,122]⟩:ByteArray),(⟨#[116,98,110,122]⟩:ByteArray)],[ah rd (decide (31<c)),aw c,oTo (4*a)])):=by first | rfl | (unfold dt;simp [*];done) | (unfold dt;simp [*];omega)
  rw [e]
  exact rd10 xx ss rd rn rm ra a b c (by have:=qfar (by decide) (by decide);omega)
 ·by_cases hb:b=4
  ·subst hb
   have e:dt ⟨11,xx,ss,rd,rn,rm,ra,a,4,c⟩=(((⟨#[101,114,101,116]⟩:ByteArray),[])):=by first | rfl | (unfold dt;simp [*];done) | (unfold dt;simp [*];omega)
   rw [e]
   exact PX xx ss rd rn rm ra a c
  ·have e:dt ⟨11,xx,ss,rd,rn,rm,ra,a,b,c⟩=((ae b [(⟨#[98,114]⟩:ByteArray),(⟨#[98,108,114]⟩:ByteArray),(⟨#[114,101,116]⟩:ByteArray)],[ah rn true])):=by first | rfl | (unfold dt;simp [*];done) | (unfold dt;simp [*];omega)
   rw [e]
   exact rd11 xx ss rd rn rm ra a b c hb
def xh:aJ Tryz.prog 73 :=
 mk1 _ _ _ Tryz.func73 rfl (fun _ _=>by go_simp) (ai ac) ((fun x=>ay x=0∧(x.op=1∨(7≤x.op∧x.op≤11)))) ((fun x=>.ret (aj (dt x)))) (by rw [Tryz.ntmps73];decide) (fun x h=>Ey x h.1 h.2)
theorem eg {id:Nat} {h:am} {args:List AV}:(xh).run id h args=aY (au (ai ac) ((fun x=>ay x=0∧(x.op=1∨(7≤x.op∧x.op≤11))))) ((fun x=>.ret (aj (dt x)))) h args:=rfl
theorem eb {id:Nat} {h:am} {args:List AV}:(xh).pan id h args=aZ (au (ai ac) ((fun x=>ay x=0∧(x.op=1∨(7≤x.op∧x.op≤11))))) ((fun x=>.ret (aj (dt x)))) h args:=rfl
theorem Kc (x:Ins) (h:ay x=0) (ho:2≤x.op∧x.op≤6):SW Tryz.prog ⟨none,0⟩ Tryz.f74.ntmps (Tryz.f74.body.getD .skip) ⟨0,ag 0 [(ai ac).enc x],[]⟩ (ax Tryz.prog Tryz.f74.results.toList (.ret (aj (fx x)))):=by
 have q:=eK h
 clear h
 have qwide:=q.wide
 clear q
 obtain ⟨op,xx,ss,rd,rn,rm,ra,a,b,c⟩:=x
 simp only at ho qwide
 have hop:op=2∨op=3∨op=4∨op=5∨op=6:=by omega
 clear ho
 rcases hop with rfl | rfl | rfl | rfl | rfl
 ·by_cases hc:c=1
  ·subst hc
   have e:fx ⟨2,xx,ss,rd,rn,rm,ra,a,b,1⟩=((cJ (ae b [(⟨#[97,100,100]⟩:ByteArray),(⟨#[115,117,98]⟩:ByteArray)]) ss (⟨#[115]⟩:ByteArray),[spF (!ss) rd xx,oSP rn xx,cw (aw a) 1 12])):=by first | rfl | (unfold fx;simp [*];done) | (unfold fx;simp [*];omega)
   rw [e]
   exact ri2c xx ss rd rn rm ra a b
  ·have e:fx ⟨2,xx,ss,rd,rn,rm,ra,a,b,c⟩=((cJ (ae b [(⟨#[97,100,100]⟩:ByteArray),(⟨#[115,117,98]⟩:ByteArray)]) ss (⟨#[115]⟩:ByteArray),[spF (!ss) rd xx,oSP rn xx,aw a])):=by first | rfl | (unfold fx;simp [*];done) | (unfold fx;simp [*];omega)
   rw [e]
   exact ri2 xx ss rd rn rm ra a b c hc
 ·have e:fx ⟨3,xx,ss,rd,rn,rm,ra,a,b,c⟩=((ae b [(⟨#[97,110,100]⟩:ByteArray),(⟨#[111,114,114]⟩:ByteArray),(⟨#[101,111,114]⟩:ByteArray),(⟨#[97,110,100,115]⟩:ByteArray)],[spF (decide (b<3)) rd xx,ah rn xx,aw a])):=by first | rfl | (unfold fx;simp [*];done) | (unfold fx;simp [*];omega)
  rw [e]
  exact ri3 xx ss rd rn rm ra a b c
 ·by_cases hc:0<c
  ·have e:fx ⟨4,xx,ss,rd,rn,rm,ra,a,b,c⟩=((ae b [(⟨#[109,111,118,110]⟩:ByteArray),emp,(⟨#[109,111,118,122]⟩:ByteArray),(⟨#[109,111,118,107]⟩:ByteArray)],[ah rd xx,cw (aw a) 1 (16*c)])):=by first | rfl | (unfold fx;simp [*];done) | (unfold fx;simp [*];omega)
   rw [e]
   exact ri4c xx ss rd rn rm ra a b c ⟨hc,(qwide rfl).2⟩
  ·have e:fx ⟨4,xx,ss,rd,rn,rm,ra,a,b,c⟩=((ae b [(⟨#[109,111,118,110]⟩:ByteArray),emp,(⟨#[109,111,118,122]⟩:ByteArray),(⟨#[109,111,118,107]⟩:ByteArray)],[ah rd xx,aw a])):=by first | rfl | (unfold fx;simp [*];done) | (unfold fx;simp [*];omega)
   rw [e]
   exact ri4 xx ss rd rn rm ra a b c hc
 ·have e:fx ⟨5,xx,ss,rd,rn,rm,ra,a,b,c⟩=((ae b [(⟨#[115,98,102,109]⟩:ByteArray),(⟨#[98,102,109]⟩:ByteArray),(⟨#[117,98,102,109]⟩:ByteArray)],[ah rd xx,ah rn xx,aw a,aw c])):=by first | rfl | (unfold fx;simp [*];done) | (unfold fx;simp [*];omega)
  rw [e]
  exact ri5 xx ss rd rn rm ra a b c
 ·have e:fx ⟨6,xx,ss,rd,rn,rm,ra,a,b,c⟩=(((⟨#[101,120,116,114]⟩:ByteArray),[ah rd xx,ah rn xx,ah rm xx,aw a])):=by first | rfl | (unfold fx;simp [*];done) | (unfold fx;simp [*];omega)
  rw [e]
  exact ri6 xx ss rd rn rm ra a b c
def DC:aJ Tryz.prog 74 :=
 mk1 _ _ _ Tryz.func74 rfl (fun _ _=>by go_simp) (ai ac) ((fun x=>ay x=0∧(2≤x.op∧x.op≤6))) ((fun x=>.ret (aj (fx x)))) (by rw [Tryz.ntmps74];decide) (fun x h=>Kc x h.1 h.2)
theorem fc {id:Nat} {h:am} {args:List AV}:(DC).run id h args=aY (au (ai ac) ((fun x=>ay x=0∧(2≤x.op∧x.op≤6)))) ((fun x=>.ret (aj (fx x)))) h args:=rfl
theorem fp {id:Nat} {h:am} {args:List AV}:(DC).pan id h args=aZ (au (ai ac) ((fun x=>ay x=0∧(2≤x.op∧x.op≤6)))) ((fun x=>.ret (aj (fx x)))) h args:=rfl
theorem Hr (x:Ins) (h:ay x=0) (ho:12≤x.op∧x.op≤17):SW Tryz.prog ⟨none,0⟩ Tryz.f75.ntmps (Tryz.f75.body.getD .skip) ⟨0,ag 0 [(ai ac).enc x],[]⟩ (ax Tryz.prog Tryz.f75.results.toList (.ret (aj (dr x)))):=by
 have q:=eK h
 clear h
 have qsys:=q.sys
 clear q
 obtain ⟨op,xx,ss,rd,rn,rm,ra,a,b,c⟩:=x
 simp only at ho qsys
 have hop:op=12∨op=13∨op=14∨op=15∨op=16∨op=17:=by omega
 clear ho
 rcases hop with rfl | rfl | rfl | rfl | rfl | rfl
 ·have e:dr ⟨12,xx,ss,rd,rn,rm,ra,a,b,c⟩=((ae b [(⟨#[115,118,99]⟩:ByteArray),(⟨#[104,118,99]⟩:ByteArray),(⟨#[115,109,99]⟩:ByteArray),(⟨#[98,114,107]⟩:ByteArray),(⟨#[104,108,116]⟩:ByteArray),(⟨#[100,99,112,115,49]⟩:ByteArray),(⟨#[100,99,112,115,50]⟩:ByteArray),(⟨#[100,99,112,115,51]⟩:ByteArray)],[aw a])):=by first | rfl | (unfold dr;simp [*];done) | (unfold dr;simp [*];omega)
  rw [e]
  exact rs12 xx ss rd rn rm ra a b c
 ·have e:dr ⟨13,xx,ss,rd,rn,rm,ra,a,b,c⟩=(((⟨#[104,105,110,116]⟩:ByteArray),[aw a])):=by first | rfl | (unfold dr;simp [*];done) | (unfold dr;simp [*];omega)
  rw [e]
  exact rs13 xx ss rd rn rm ra a b c
 ·by_cases h4:b=4
  ·subst h4
   have e:dr ⟨14,xx,ss,rd,rn,rm,ra,a,4,c⟩=((ae 0 [(⟨#[100,115,98]⟩:ByteArray),(⟨#[100,109,98]⟩:ByteArray)],[oOf 7 a])):=by first | rfl | (unfold dr;simp [*];done) | (unfold dr;simp [*];omega)
   rw [e]
   exact PY xx ss rd rn rm ra a c
  by_cases h5:b=5
  ·subst h5
   have e:dr ⟨14,xx,ss,rd,rn,rm,ra,a,5,c⟩=((ae 1 [(⟨#[100,115,98]⟩:ByteArray),(⟨#[100,109,98]⟩:ByteArray)],[oOf 7 a])):=by first | rfl | (unfold dr;simp [*];done) | (unfold dr;simp [*];omega)
   rw [e]
   exact Rr xx ss rd rn rm ra a c
  by_cases h2:b=2
  ·subst h2
   have e:dr ⟨14,xx,ss,rd,rn,rm,ra,a,2,c⟩=(((⟨#[99,108,114,101,120]⟩:ByteArray),[aw a])):=by first | rfl | (unfold dr;simp [*];done) | (unfold dr;simp [*];omega)
   rw [e]
   exact P0 xx ss rd rn rm ra a c
  ·have e:dr ⟨14,xx,ss,rd,rn,rm,ra,a,b,c⟩=(((⟨#[105,115,98]⟩:ByteArray),[aw a])):=by first | rfl | (unfold dr;simp [*];done) | (unfold dr;simp [*];omega)
   rw [e]
   exact rs14 xx ss rd rn rm ra a b c ⟨h4,h5,h2⟩
 ·by_cases hb:b=1
  ·subst hb
   have e:dr ⟨15,xx,ss,rd,rn,rm,ra,a,1,c⟩=(((⟨#[109,114,115]⟩:ByteArray),[ah rd true,oOf 6 a])):=by first | rfl | (unfold dr;simp [*];done) | (unfold dr;simp [*];omega)
   rw [e]
   exact Ra xx ss rd rn rm ra a c
  ·have e:dr ⟨15,xx,ss,rd,rn,rm,ra,a,b,c⟩=(((⟨#[109,115,114]⟩:ByteArray),[oOf 6 a,ah rd true])):=by first | rfl | (unfold dr;simp [*];done) | (unfold dr;simp [*];omega)
   rw [e]
   exact rs15 xx ss rd rn rm ra a b c hb
 ·have e:dr ⟨16,xx,ss,rd,rn,rm,ra,a,b,c⟩=(((⟨#[109,115,114]⟩:ByteArray),[oOf 9 b,aw a])):=by first | rfl | (unfold dr;simp [*];done) | (unfold dr;simp [*];omega)
  rw [e]
  exact rs16 xx ss rd rn rm ra a b c
 ·have qs:=qsys rfl
  by_cases hb:b=1
  ·subst hb
   have e:dr ⟨17,xx,ss,rd,rn,rm,ra,a,1,c⟩=(((⟨#[115,121,115,108]⟩:ByteArray),ah rd true::[aw (a / 2048),aw (a / 128 % 16),aw (a / 8 % 16),aw (a % 8)])):=by first | rfl | (unfold dr l9;simp [*];done) | (unfold dr l9;simp [*];omega)
   rw [e]
   exact Oh xx ss rd rn rm ra a c qs
  ·have e:dr ⟨17,xx,ss,rd,rn,rm,ra,a,b,c⟩=(((⟨#[115,121,115]⟩:ByteArray),[aw (a / 2048),aw (a / 128 % 16),aw (a / 8 % 16),aw (a % 8)]++[ah rd true])):=by first | rfl | (unfold dr l9;simp [*];done) | (unfold dr l9;simp [*];omega)
   rw [e]
   exact rs17 xx ss rd rn rm ra a b c qs hb
def Dv:aJ Tryz.prog 75 :=
 mk1 _ _ _ Tryz.func75 rfl (fun _ _=>by go_simp) (ai ac) ((fun x=>ay x=0∧(12≤x.op∧x.op≤17))) ((fun x=>.ret (aj (dr x)))) (by rw [Tryz.ntmps75];decide) (fun x h=>Hr x h.1 h.2)
theorem fe {id:Nat} {h:am} {args:List AV}:(Dv).run id h args=aY (au (ai ac) ((fun x=>ay x=0∧(12≤x.op∧x.op≤17)))) ((fun x=>.ret (aj (dr x)))) h args:=rfl
theorem fa {id:Nat} {h:am} {args:List AV}:(Dv).pan id h args=aZ (au (ai ac) ((fun x=>ay x=0∧(12≤x.op∧x.op≤17)))) ((fun x=>.ret (aj (dr x)))) h args:=rfl
theorem Lx (x:Ins) (h:ay x=0) (ho:20≤x.op∧x.op≤22):SW Tryz.prog ⟨none,0⟩ Tryz.f76.ntmps (Tryz.f76.body.getD .skip) ⟨0,ag 0 [(ai ac).enc x],[]⟩ (ax Tryz.prog Tryz.f76.results.toList (.ret (aj (cB x)))):=by
 have q:=eK h
 clear h
 have qld:=q.ld
 have qidx:=q.idx
 have qreg:=q.reg
 clear q
 obtain ⟨op,xx,ss,rd,rn,rm,ra,a,b,c⟩:=x
 simp only at ho qld qidx qreg
 have hop:op=20∨op=21∨op=22:=by omega
 clear ho
 rcases hop with rfl | rfl | rfl
 all_goals
  obtain ⟨⟨N,L,W⟩,hT⟩:∃ T,bx b c=T:=⟨_,rfl⟩
 ·have ql:=qld rfl
  by_cases hp:N=(⟨#[112,114,102,109]⟩:ByteArray)
  ·have e:cB ⟨20,xx,ss,rd,rn,rm,ra,a,b,c⟩=((N,[oOf 8 rd,be rn 0 (a*2 ^ b.toNat)])):=by first | rfl | (unfold cB trD trN;simp [*];done) | (unfold cB trD trN;simp [*];omega)
   rw [e]
   exact Ri xx ss rd rn rm ra a b c N L W hT hp ql.1 ql.2
  ·have e:cB ⟨20,xx,ss,rd,rn,rm,ra,a,b,c⟩=((N,[ah rd W,be rn 0 (a*2 ^ b.toNat)])):=by first | rfl | (unfold cB trD trN;simp [*];done) | (unfold cB trD trN;simp [*];omega)
   rw [e]
   exact rt20 xx ss rd rn rm ra a b c N L W hT hp ql.1 ql.2
 ·have hN:3≤N.size∧N.size≤5:=by
   have h1:=qidx rfl
   have h2:=rl b c
   rw [hT] at h1 h2
   exact ⟨h1,h2⟩
  by_cases hp:N=(⟨#[112,114,102,109]⟩:ByteArray)
  ·by_cases r0:ra=0
   ·subst r0
    have e:cB ⟨21,xx,ss,rd,rn,rm,0,a,b,c⟩=((lq N (⟨#[117,114]⟩:ByteArray),[oOf 8 rd,be rn 0 a])):=by first | rfl | (unfold cB trD trN;simp [*];done) | (unfold cB trD trN;simp [*];omega)
    rw [e]
    exact Ma xx ss rd rn rm 0 a b c N L W hT hp hN
   by_cases r1:ra=1
   ·subst r1
    have e:cB ⟨21,xx,ss,rd,rn,rm,1,a,b,c⟩=((N,[oOf 8 rd,be rn 2 a])):=by first | rfl | (unfold cB trD trN;simp [*];done) | (unfold cB trD trN;simp [*];omega)
    rw [e]
    exact K8 xx ss rd rn rm 1 a b c N L W hT hp
   by_cases r2:ra=2
   ·subst r2
    have e:cB ⟨21,xx,ss,rd,rn,rm,2,a,b,c⟩=((lq N (⟨#[116,114]⟩:ByteArray),[oOf 8 rd,be rn 0 a])):=by first | rfl | (unfold cB trD trN;simp [*];done) | (unfold cB trD trN;simp [*];omega)
    rw [e]
    exact LC xx ss rd rn rm 2 a b c N L W hT hp hN
   ·have e:cB ⟨21,xx,ss,rd,rn,rm,ra,a,b,c⟩=((N,[oOf 8 rd,be rn 1 a])):=by first | rfl | (unfold cB trD trN;simp [*];done) | (unfold cB trD trN;simp [*];omega)
    rw [e]
    exact Qb xx ss rd rn rm ra a b c N L W hT hp ⟨r0,r1,r2⟩
  ·by_cases r0:ra=0
   ·subst r0
    have e:cB ⟨21,xx,ss,rd,rn,rm,0,a,b,c⟩=((lq N (⟨#[117,114]⟩:ByteArray),[ah rd W,be rn 0 a])):=by first | rfl | (unfold cB trD trN;simp [*];done) | (unfold cB trD trN;simp [*];omega)
    rw [e]
    exact Qt xx ss rd rn rm 0 a b c N L W hT hp hN
   by_cases r1:ra=1
   ·subst r1
    have e:cB ⟨21,xx,ss,rd,rn,rm,1,a,b,c⟩=((N,[ah rd W,be rn 2 a])):=by first | rfl | (unfold cB trD trN;simp [*];done) | (unfold cB trD trN;simp [*];omega)
    rw [e]
    exact Oo xx ss rd rn rm 1 a b c N L W hT hp
   by_cases r2:ra=2
   ·subst r2
    have e:cB ⟨21,xx,ss,rd,rn,rm,2,a,b,c⟩=((lq N (⟨#[116,114]⟩:ByteArray),[ah rd W,be rn 0 a])):=by first | rfl | (unfold cB trD trN;simp [*];done) | (unfold cB trD trN;simp [*];omega)
    rw [e]
    exact Rf xx ss rd rn rm 2 a b c N L W hT hp hN
   ·have e:cB ⟨21,xx,ss,rd,rn,rm,ra,a,b,c⟩=((N,[ah rd W,be rn 1 a])):=by first | rfl | (unfold cB trD trN;simp [*];done) | (unfold cB trD trN;simp [*];omega)
    rw [e]
    exact rt21 xx ss rd rn rm ra a b c N L W hT hp ⟨r0,r1,r2⟩
 ·have qr:=qreg rfl
  by_cases hp:N=(⟨#[112,114,102,109]⟩:ByteArray)
  ·by_cases h2:a=2
   ·cases ss
    ·have e:cB ⟨22,xx,false,rd,rn,rm,ra,a,b,c⟩=((N,[oOf 8 rd,{ be rn 3 0 with m:=⟨rm,decide (a % 2=1),false⟩,md:=7,amt := -1 }])):=by first | rfl | (unfold cB trD trN fO;simp [*];done) | (unfold cB trD trN fO;simp [*];omega)
     rw [e]
     exact Lq xx rd rn rm ra a b c N L W hT hp qr h2
    ·have e:cB ⟨22,xx,true,rd,rn,rm,ra,a,b,c⟩=((N,[oOf 8 rd,{ be rn 3 0 with m:=⟨rm,decide (a % 2=1),false⟩,md:=7,amt:=b }])):=by first | rfl | (unfold cB trD trN fO;simp [*];done) | (unfold cB trD trN fO;simp [*];omega)
     rw [e]
     exact IX xx rd rn rm ra a b c N L W hT hp qr h2
   by_cases h3:a=3
   ·cases ss
    ·have e:cB ⟨22,xx,false,rd,rn,rm,ra,a,b,c⟩=((N,[oOf 8 rd,{ be rn 3 0 with m:=⟨rm,decide (a % 2=1),false⟩,md:=1,amt := -1 }])):=by first | rfl | (unfold cB trD trN fO;simp [*];done) | (unfold cB trD trN fO;simp [*];omega)
     rw [e]
     exact Ng xx rd rn rm ra a b c N L W hT hp qr h3
    ·have e:cB ⟨22,xx,true,rd,rn,rm,ra,a,b,c⟩=((N,[oOf 8 rd,{ be rn 3 0 with m:=⟨rm,decide (a % 2=1),false⟩,md:=1,amt:=b }])):=by first | rfl | (unfold cB trD trN fO;simp [*];done) | (unfold cB trD trN fO;simp [*];omega)
     rw [e]
     exact J1 xx rd rn rm ra a b c N L W hT hp qr h3
   by_cases h6:a=6
   ·cases ss
    ·have e:cB ⟨22,xx,false,rd,rn,rm,ra,a,b,c⟩=((N,[oOf 8 rd,{ be rn 3 0 with m:=⟨rm,decide (a % 2=1),false⟩,md:=11,amt := -1 }])):=by first | rfl | (unfold cB trD trN fO;simp [*];done) | (unfold cB trD trN fO;simp [*];omega)
     rw [e]
     exact NG xx rd rn rm ra a b c N L W hT hp qr h6
    ·have e:cB ⟨22,xx,true,rd,rn,rm,ra,a,b,c⟩=((N,[oOf 8 rd,{ be rn 3 0 with m:=⟨rm,decide (a % 2=1),false⟩,md:=11,amt:=b }])):=by first | rfl | (unfold cB trD trN fO;simp [*];done) | (unfold cB trD trN fO;simp [*];omega)
     rw [e]
     exact Kp xx rd rn rm ra a b c N L W hT hp qr h6
   ·cases ss
    ·have e:cB ⟨22,xx,false,rd,rn,rm,ra,a,b,c⟩=((N,[oOf 8 rd,{ be rn 3 0 with m:=⟨rm,decide (a % 2=1),false⟩,md:=12,amt := -1 }])):=by first | rfl | (unfold cB trD trN fO;simp [*];done) | (unfold cB trD trN fO;simp [*];omega)
     rw [e]
     exact Ml xx rd rn rm ra a b c N L W hT hp qr ⟨h2,h3,h6⟩
    ·have e:cB ⟨22,xx,true,rd,rn,rm,ra,a,b,c⟩=((N,[oOf 8 rd,{ be rn 3 0 with m:=⟨rm,decide (a % 2=1),false⟩,md:=12,amt:=b }])):=by first | rfl | (unfold cB trD trN fO;simp [*];done) | (unfold cB trD trN fO;simp [*];omega)
     rw [e]
     exact Hq xx rd rn rm ra a b c N L W hT hp qr ⟨h2,h3,h6⟩
  ·by_cases h2:a=2
   ·cases ss
    ·have e:cB ⟨22,xx,false,rd,rn,rm,ra,a,b,c⟩=((N,[ah rd W,{ be rn 3 0 with m:=⟨rm,decide (a % 2=1),false⟩,md:=7,amt := -1 }])):=by first | rfl | (unfold cB trD trN fO;simp [*];done) | (unfold cB trD trN fO;simp [*];omega)
     rw [e]
     exact PD xx rd rn rm ra a b c N L W hT hp qr h2
    ·have e:cB ⟨22,xx,true,rd,rn,rm,ra,a,b,c⟩=((N,[ah rd W,{ be rn 3 0 with m:=⟨rm,decide (a % 2=1),false⟩,md:=7,amt:=b }])):=by first | rfl | (unfold cB trD trN fO;simp [*];done) | (unfold cB trD trN fO;simp [*];omega)
     rw [e]
     exact Nm xx rd rn rm ra a b c N L W hT hp qr h2
   by_cases h3:a=3
   ·cases ss
    ·have e:cB ⟨22,xx,false,rd,rn,rm,ra,a,b,c⟩=((N,[ah rd W,{ be rn 3 0 with m:=⟨rm,decide (a % 2=1),false⟩,md:=1,amt := -1 }])):=by first | rfl | (unfold cB trD trN fO;simp [*];done) | (unfold cB trD trN fO;simp [*];omega)
     rw [e]
     exact PP xx rd rn rm ra a b c N L W hT hp qr h3
    ·have e:cB ⟨22,xx,true,rd,rn,rm,ra,a,b,c⟩=((N,[ah rd W,{ be rn 3 0 with m:=⟨rm,decide (a % 2=1),false⟩,md:=1,amt:=b }])):=by first | rfl | (unfold cB trD trN fO;simp [*];done) | (unfold cB trD trN fO;simp [*];omega)
     rw [e]
     exact MX xx rd rn rm ra a b c N L W hT hp qr h3
   by_cases h6:a=6
   ·cases ss
    ·have e:cB ⟨22,xx,false,rd,rn,rm,ra,a,b,c⟩=((N,[ah rd W,{ be rn 3 0 with m:=⟨rm,decide (a % 2=1),false⟩,md:=11,amt := -1 }])):=by first | rfl | (unfold cB trD trN fO;simp [*];done) | (unfold cB trD trN fO;simp [*];omega)
     rw [e]
     exact O3 xx rd rn rm ra a b c N L W hT hp qr h6
    ·have e:cB ⟨22,xx,true,rd,rn,rm,ra,a,b,c⟩=((N,[ah rd W,{ be rn 3 0 with m:=⟨rm,decide (a % 2=1),false⟩,md:=11,amt:=b }])):=by first | rfl | (unfold cB trD trN fO;simp [*];done) | (unfold cB trD trN fO;simp [*];omega)
     rw [e]
     exact MF xx rd rn rm ra a b c N L W hT hp qr h6
   ·cases ss
    ·have e:cB ⟨22,xx,false,rd,rn,rm,ra,a,b,c⟩=((N,[ah rd W,{ be rn 3 0 with m:=⟨rm,decide (a % 2=1),false⟩,md:=12,amt := -1 }])):=by first | rfl | (unfold cB trD trN fO;simp [*];done) | (unfold cB trD trN fO;simp [*];omega)
     rw [e]
     exact P3 xx rd rn rm ra a b c N L W hT hp qr ⟨h2,h3,h6⟩
    ·have e:cB ⟨22,xx,true,rd,rn,rm,ra,a,b,c⟩=((N,[ah rd W,{ be rn 3 0 with m:=⟨rm,decide (a % 2=1),false⟩,md:=12,amt:=b }])):=by first | rfl | (unfold cB trD trN fO;simp [*];done) | (unfold cB trD trN fO;simp [*];omega)
     rw [e]
     exact MS xx rd rn rm ra a b c N L W hT hp qr ⟨h2,h3,h6⟩
def No:aJ Tryz.prog 76 :=
 mk1 _ _ _ Tryz.func76 rfl (fun _ _=>by go_simp) (ai ac) ((fun x=>ay x=0∧(20≤x.op∧x.op≤22))) ((fun x=>.ret (aj (cB x)))) (by rw [Tryz.ntmps76];decide) (fun x h=>Lx x h.1 h.2)
theorem gr {id:Nat} {h:am} {args:List AV}:(No).run id h args=aY (au (ai ac) ((fun x=>ay x=0∧(20≤x.op∧x.op≤22)))) ((fun x=>.ret (aj (cB x)))) h args:=rfl
theorem gp {id:Nat} {h:am} {args:List AV}:(No).pan id h args=aZ (au (ai ac) ((fun x=>ay x=0∧(20≤x.op∧x.op≤22)))) ((fun x=>.ret (aj (cB x)))) h args:=rfl
theorem MO (x:Ins) (h:ay x=0) (ho:x.op=18∨x.op=19∨x.op=23):SW Tryz.prog ⟨none,0⟩ Tryz.f77.ntmps (Tryz.f77.body.getD .skip) ⟨0,ag 0 [(ai ac).enc x],[]⟩ (ax Tryz.prog Tryz.f77.results.toList (.ret (aj (cH x)))):=by
 have q:=eK h
 clear h
 have qlit:=q.lit
 have qex:=q.ex
 have qpairB:=q.pairB
 clear q
 obtain ⟨op,xx,ss,rd,rn,rm,ra,a,b,c⟩:=x
 simp only at ho qlit qex qpairB
 have hop:op=18∨op=19∨op=23:=by omega
 clear ho
 rcases hop with rfl | rfl | rfl
 ·have ql:=qlit (.inl rfl)
  by_cases hb:b=3
  ·subst hb
   have e:cH ⟨18,xx,ss,rd,rn,rm,ra,a,3,c⟩=((ae 3 [(⟨#[108,100,114]⟩:ByteArray),(⟨#[108,100,114]⟩:ByteArray),(⟨#[108,100,114,115,119]⟩:ByteArray),(⟨#[112,114,102,109]⟩:ByteArray)],[oOf 8 rd,oTo (4*a)])):=by first | rfl | (unfold cH;simp [*];done) | (unfold cH;simp [*];omega)
   rw [e]
   exact QL xx ss rd rn rm ra a c (by omega)
  ·have e:cH ⟨18,xx,ss,rd,rn,rm,ra,a,b,c⟩=((ae b [(⟨#[108,100,114]⟩:ByteArray),(⟨#[108,100,114]⟩:ByteArray),(⟨#[108,100,114,115,119]⟩:ByteArray),(⟨#[112,114,102,109]⟩:ByteArray)],[ah rd (decide (0<b)),oTo (4*a)])):=by first | rfl | (unfold cH;simp [*];done) | (unfold cH;simp [*];omega)
   rw [e]
   exact RH xx ss rd rn rm ra a b c (by omega) hb
 ·have ql:=qlit (.inr rfl)
  cases ss
  ·by_cases h1:c=1
   ·by_cases hb:b=2
    ·have e:cH ⟨19,xx,false,rd,rn,rm,ra,a,b,c⟩=(((⟨#[115,116]⟩:ByteArray)++(ae c [(⟨#[110,112]⟩:ByteArray),(⟨#[112]⟩:ByteArray),(⟨#[112]⟩:ByteArray),(⟨#[112]⟩:ByteArray)]++ae b [emp,(⟨#[115,119]⟩:ByteArray),emp]),[ah rd (decide (0<b)),ah ra (decide (0<b)),be rn 2 (8*a)])):=by first | rfl | (unfold cH ez dB;simp [*];done) | (unfold cH ez dB;simp [*];omega)
     rw [e]
     exact FX xx rd rn rm ra a b c (by omega) h1 hb
    ·have e:cH ⟨19,xx,false,rd,rn,rm,ra,a,b,c⟩=(((⟨#[115,116]⟩:ByteArray)++(ae c [(⟨#[110,112]⟩:ByteArray),(⟨#[112]⟩:ByteArray),(⟨#[112]⟩:ByteArray),(⟨#[112]⟩:ByteArray)]++ae b [emp,(⟨#[115,119]⟩:ByteArray),emp]),[ah rd (decide (0<b)),ah ra (decide (0<b)),be rn 2 (4*a)])):=by first | rfl | (unfold cH ez dB;simp [*];done) | (unfold cH ez dB;simp [*];omega)
     rw [e]
     exact GY xx rd rn rm ra a b c (by omega) h1 hb
   by_cases h3:c=3
   ·by_cases hb:b=2
    ·have e:cH ⟨19,xx,false,rd,rn,rm,ra,a,b,c⟩=(((⟨#[115,116]⟩:ByteArray)++(ae c [(⟨#[110,112]⟩:ByteArray),(⟨#[112]⟩:ByteArray),(⟨#[112]⟩:ByteArray),(⟨#[112]⟩:ByteArray)]++ae b [emp,(⟨#[115,119]⟩:ByteArray),emp]),[ah rd (decide (0<b)),ah ra (decide (0<b)),be rn 1 (8*a)])):=by first | rfl | (unfold cH ez dB;simp [*];done) | (unfold cH ez dB;simp [*];omega)
     rw [e]
     exact GB xx rd rn rm ra a b c (by omega) h3 hb
    ·have e:cH ⟨19,xx,false,rd,rn,rm,ra,a,b,c⟩=(((⟨#[115,116]⟩:ByteArray)++(ae c [(⟨#[110,112]⟩:ByteArray),(⟨#[112]⟩:ByteArray),(⟨#[112]⟩:ByteArray),(⟨#[112]⟩:ByteArray)]++ae b [emp,(⟨#[115,119]⟩:ByteArray),emp]),[ah rd (decide (0<b)),ah ra (decide (0<b)),be rn 1 (4*a)])):=by first | rfl | (unfold cH ez dB;simp [*];done) | (unfold cH ez dB;simp [*];omega)
     rw [e]
     exact Dt xx rd rn rm ra a b c (by omega) h3 hb
   ·by_cases hb:b=2
    ·have e:cH ⟨19,xx,false,rd,rn,rm,ra,a,b,c⟩=(((⟨#[115,116]⟩:ByteArray)++(ae c [(⟨#[110,112]⟩:ByteArray),(⟨#[112]⟩:ByteArray),(⟨#[112]⟩:ByteArray),(⟨#[112]⟩:ByteArray)]++ae b [emp,(⟨#[115,119]⟩:ByteArray),emp]),[ah rd (decide (0<b)),ah ra (decide (0<b)),be rn 0 (8*a)])):=by first | rfl | (unfold cH ez dB;simp [*];done) | (unfold cH ez dB;simp [*];omega)
     rw [e]
     exact Ew xx rd rn rm ra a b c (by omega) ⟨h1,h3⟩ hb
    ·have e:cH ⟨19,xx,false,rd,rn,rm,ra,a,b,c⟩=(((⟨#[115,116]⟩:ByteArray)++(ae c [(⟨#[110,112]⟩:ByteArray),(⟨#[112]⟩:ByteArray),(⟨#[112]⟩:ByteArray),(⟨#[112]⟩:ByteArray)]++ae b [emp,(⟨#[115,119]⟩:ByteArray),emp]),[ah rd (decide (0<b)),ah ra (decide (0<b)),be rn 0 (4*a)])):=by first | rfl | (unfold cH ez dB;simp [*];done) | (unfold cH ez dB;simp [*];omega)
     rw [e]
     exact GI xx rd rn rm ra a b c (by omega) ⟨h1,h3⟩ hb
  ·by_cases h1:c=1
   ·by_cases hb:b=2
    ·have e:cH ⟨19,xx,true,rd,rn,rm,ra,a,b,c⟩=(((⟨#[108,100]⟩:ByteArray)++(ae c [(⟨#[110,112]⟩:ByteArray),(⟨#[112]⟩:ByteArray),(⟨#[112]⟩:ByteArray),(⟨#[112]⟩:ByteArray)]++ae b [emp,(⟨#[115,119]⟩:ByteArray),emp]),[ah rd (decide (0<b)),ah ra (decide (0<b)),be rn 2 (8*a)])):=by first | rfl | (unfold cH ez dB;simp [*];done) | (unfold cH ez dB;simp [*];omega)
     rw [e]
     exact Bv xx rd rn rm ra a b c (by omega) h1 hb
    ·have e:cH ⟨19,xx,true,rd,rn,rm,ra,a,b,c⟩=(((⟨#[108,100]⟩:ByteArray)++(ae c [(⟨#[110,112]⟩:ByteArray),(⟨#[112]⟩:ByteArray),(⟨#[112]⟩:ByteArray),(⟨#[112]⟩:ByteArray)]++ae b [emp,(⟨#[115,119]⟩:ByteArray),emp]),[ah rd (decide (0<b)),ah ra (decide (0<b)),be rn 2 (4*a)])):=by first | rfl | (unfold cH ez dB;simp [*];done) | (unfold cH ez dB;simp [*];omega)
     rw [e]
     exact CG xx rd rn rm ra a b c (by omega) h1 hb
   by_cases h3:c=3
   ·by_cases hb:b=2
    ·have e:cH ⟨19,xx,true,rd,rn,rm,ra,a,b,c⟩=(((⟨#[108,100]⟩:ByteArray)++(ae c [(⟨#[110,112]⟩:ByteArray),(⟨#[112]⟩:ByteArray),(⟨#[112]⟩:ByteArray),(⟨#[112]⟩:ByteArray)]++ae b [emp,(⟨#[115,119]⟩:ByteArray),emp]),[ah rd (decide (0<b)),ah ra (decide (0<b)),be rn 1 (8*a)])):=by first | rfl | (unfold cH ez dB;simp [*];done) | (unfold cH ez dB;simp [*];omega)
     rw [e]
     exact BY xx rd rn rm ra a b c (by omega) h3 hb
    ·have e:cH ⟨19,xx,true,rd,rn,rm,ra,a,b,c⟩=(((⟨#[108,100]⟩:ByteArray)++(ae c [(⟨#[110,112]⟩:ByteArray),(⟨#[112]⟩:ByteArray),(⟨#[112]⟩:ByteArray),(⟨#[112]⟩:ByteArray)]++ae b [emp,(⟨#[115,119]⟩:ByteArray),emp]),[ah rd (decide (0<b)),ah ra (decide (0<b)),be rn 1 (4*a)])):=by first | rfl | (unfold cH ez dB;simp [*];done) | (unfold cH ez dB;simp [*];omega)
     rw [e]
     exact AP xx rd rn rm ra a b c (by omega) h3 hb
   ·by_cases hb:b=2
    ·have e:cH ⟨19,xx,true,rd,rn,rm,ra,a,b,c⟩=(((⟨#[108,100]⟩:ByteArray)++(ae c [(⟨#[110,112]⟩:ByteArray),(⟨#[112]⟩:ByteArray),(⟨#[112]⟩:ByteArray),(⟨#[112]⟩:ByteArray)]++ae b [emp,(⟨#[115,119]⟩:ByteArray),emp]),[ah rd (decide (0<b)),ah ra (decide (0<b)),be rn 0 (8*a)])):=by first | rfl | (unfold cH ez dB;simp [*];done) | (unfold cH ez dB;simp [*];omega)
     rw [e]
     exact C3 xx rd rn rm ra a b c (by omega) ⟨h1,h3⟩ hb
    ·have e:cH ⟨19,xx,true,rd,rn,rm,ra,a,b,c⟩=(((⟨#[108,100]⟩:ByteArray)++(ae c [(⟨#[110,112]⟩:ByteArray),(⟨#[112]⟩:ByteArray),(⟨#[112]⟩:ByteArray),(⟨#[112]⟩:ByteArray)]++ae b [emp,(⟨#[115,119]⟩:ByteArray),emp]),[ah rd (decide (0<b)),ah ra (decide (0<b)),be rn 0 (4*a)])):=by first | rfl | (unfold cH ez dB;simp [*];done) | (unfold cH ez dB;simp [*];omega)
     rw [e]
     exact BC xx rd rn rm ra a b c (by omega) ⟨h1,h3⟩ hb
 ·have qa:a=0∨a=1∨a=2:=by have:=(qex rfl).1;omega
  cases ss
  ·rcases qa with rfl | rfl | rfl
   ·cases xx
    ·have e:cH ⟨23,false,false,rd,rn,rm,ra,0,b,c⟩=((((⟨#[115,116]⟩:ByteArray)++((⟨#[120]⟩:ByteArray)++ae 0 [(⟨#[114]⟩:ByteArray),(⟨#[112]⟩:ByteArray)]))++ae b [(⟨#[98]⟩:ByteArray),(⟨#[104]⟩:ByteArray),emp,emp],[ah rm false,ah rd (decide (b=3)),be rn 0 0])):=by first | rfl | (unfold cH iT ky ez;simp [*];done) | (unfold cH iT ky ez;simp [*];omega)
     rw [e]
     exact Pl rd rn rm ra b c
    ·have e:cH ⟨23,true,false,rd,rn,rm,ra,0,b,c⟩=((((⟨#[115,116]⟩:ByteArray)++(ae (aU false) [(⟨#[108,120]⟩:ByteArray),(⟨#[97,120]⟩:ByteArray)]++ae 0 [(⟨#[114]⟩:ByteArray),(⟨#[112]⟩:ByteArray)]))++ae b [(⟨#[98]⟩:ByteArray),(⟨#[104]⟩:ByteArray),emp,emp],[ah rm false,ah rd (decide (b=3)),be rn 0 0])):=by first | rfl | (unfold cH iT ky ez;simp [*];done) | (unfold cH iT ky ez;simp [*];omega)
     rw [e]
     exact KZ rd rn rm ra b c
   ·cases xx
    ·have e:cH ⟨23,false,false,rd,rn,rm,ra,1,b,c⟩=((((⟨#[115,116]⟩:ByteArray)++((⟨#[120]⟩:ByteArray)++ae 1 [(⟨#[114]⟩:ByteArray),(⟨#[112]⟩:ByteArray)]))++ae b [(⟨#[98]⟩:ByteArray),(⟨#[104]⟩:ByteArray),emp,emp],[ah rm false,ah rd (decide (b=3)),ah ra (decide (b=3)),be rn 0 0])):=by first | rfl | (unfold cH iT ky ez;simp [*];done) | (unfold cH iT ky ez;simp [*];omega)
     rw [e]
     exact QA rd rn rm ra b c
    ·have e:cH ⟨23,true,false,rd,rn,rm,ra,1,b,c⟩=((((⟨#[115,116]⟩:ByteArray)++(ae (aU false) [(⟨#[108,120]⟩:ByteArray),(⟨#[97,120]⟩:ByteArray)]++ae 1 [(⟨#[114]⟩:ByteArray),(⟨#[112]⟩:ByteArray)]))++ae b [(⟨#[98]⟩:ByteArray),(⟨#[104]⟩:ByteArray),emp,emp],[ah rm false,ah rd (decide (b=3)),ah ra (decide (b=3)),be rn 0 0])):=by first | rfl | (unfold cH iT ky ez;simp [*];done) | (unfold cH iT ky ez;simp [*];omega)
     rw [e]
     exact LQ rd rn rm ra b c
   ·have e:cH ⟨23,xx,false,rd,rn,rm,ra,2,b,c⟩=((((⟨#[115,116]⟩:ByteArray)++(ae (aU false) [(⟨#[108]⟩:ByteArray),(⟨#[97]⟩:ByteArray)]++(⟨#[114]⟩:ByteArray)))++ae b [(⟨#[98]⟩:ByteArray),(⟨#[104]⟩:ByteArray),emp,emp],[ah rd (decide (b=3)),be rn 0 0])):=by first | rfl | (unfold cH iT ky ez;simp [*];done) | (unfold cH iT ky ez;simp [*];omega)
    rw [e]
    exact Q8 xx rd rn rm ra b c
  ·rcases qa with rfl | rfl | rfl
   ·cases xx
    ·have e:cH ⟨23,false,true,rd,rn,rm,ra,0,b,c⟩=((((⟨#[108,100]⟩:ByteArray)++((⟨#[120]⟩:ByteArray)++ae 0 [(⟨#[114]⟩:ByteArray),(⟨#[112]⟩:ByteArray)]))++ae b [(⟨#[98]⟩:ByteArray),(⟨#[104]⟩:ByteArray),emp,emp],[ah rd (decide (b=3)),be rn 0 0])):=by first | rfl | (unfold cH iT ky ez;simp [*];done) | (unfold cH iT ky ez;simp [*];omega)
     rw [e]
     exact Mr rd rn rm ra b c
    ·have e:cH ⟨23,true,true,rd,rn,rm,ra,0,b,c⟩=((((⟨#[108,100]⟩:ByteArray)++(ae (aU true) [(⟨#[108,120]⟩:ByteArray),(⟨#[97,120]⟩:ByteArray)]++ae 0 [(⟨#[114]⟩:ByteArray),(⟨#[112]⟩:ByteArray)]))++ae b [(⟨#[98]⟩:ByteArray),(⟨#[104]⟩:ByteArray),emp,emp],[ah rd (decide (b=3)),be rn 0 0])):=by first | rfl | (unfold cH iT ky ez;simp [*];done) | (unfold cH iT ky ez;simp [*];omega)
     rw [e]
     exact JE rd rn rm ra b c
   ·cases xx
    ·have e:cH ⟨23,false,true,rd,rn,rm,ra,1,b,c⟩=((((⟨#[108,100]⟩:ByteArray)++((⟨#[120]⟩:ByteArray)++ae 1 [(⟨#[114]⟩:ByteArray),(⟨#[112]⟩:ByteArray)]))++ae b [(⟨#[98]⟩:ByteArray),(⟨#[104]⟩:ByteArray),emp,emp],[ah rd (decide (b=3)),ah ra (decide (b=3)),be rn 0 0])):=by first | rfl | (unfold cH iT ky ez;simp [*];done) | (unfold cH iT ky ez;simp [*];omega)
     rw [e]
     exact L6 rd rn rm ra b c
    ·have e:cH ⟨23,true,true,rd,rn,rm,ra,1,b,c⟩=((((⟨#[108,100]⟩:ByteArray)++(ae (aU true) [(⟨#[108,120]⟩:ByteArray),(⟨#[97,120]⟩:ByteArray)]++ae 1 [(⟨#[114]⟩:ByteArray),(⟨#[112]⟩:ByteArray)]))++ae b [(⟨#[98]⟩:ByteArray),(⟨#[104]⟩:ByteArray),emp,emp],[ah rd (decide (b=3)),ah ra (decide (b=3)),be rn 0 0])):=by first | rfl | (unfold cH iT ky ez;simp [*];done) | (unfold cH iT ky ez;simp [*];omega)
     rw [e]
     exact IZ rd rn rm ra b c
   ·have e:cH ⟨23,xx,true,rd,rn,rm,ra,2,b,c⟩=((((⟨#[108,100]⟩:ByteArray)++(ae (aU true) [(⟨#[108]⟩:ByteArray),(⟨#[97]⟩:ByteArray)]++(⟨#[114]⟩:ByteArray)))++ae b [(⟨#[98]⟩:ByteArray),(⟨#[104]⟩:ByteArray),emp,emp],[ah rd (decide (b=3)),be rn 0 0])):=by first | rfl | (unfold cH iT ky ez;simp [*];done) | (unfold cH iT ky ez;simp [*];omega)
    rw [e]
    exact Ls xx rd rn rm ra b c
def M8:aJ Tryz.prog 77 :=
 mk1 _ _ _ Tryz.func77 rfl (fun _ _=>by go_simp) (ai ac) ((fun x=>ay x=0∧(x.op=18∨x.op=19∨x.op=23))) ((fun x=>.ret (aj (cH x)))) (by rw [Tryz.ntmps77];decide) (fun x h=>MO x h.1 h.2)
theorem gm {id:Nat} {h:am} {args:List AV}:(M8).run id h args=aY (au (ai ac) ((fun x=>ay x=0∧(x.op=18∨x.op=19∨x.op=23)))) ((fun x=>.ret (aj (cH x)))) h args:=rfl
theorem gl {id:Nat} {h:am} {args:List AV}:(M8).pan id h args=aZ (au (ai ac) ((fun x=>ay x=0∧(x.op=18∨x.op=19∨x.op=23)))) ((fun x=>.ret (aj (cH x)))) h args:=rfl
theorem IL (x:Ins) (h:ay x=0) (ho:24≤x.op∧x.op≤27):SW Tryz.prog ⟨none,0⟩ Tryz.f78.ntmps (Tryz.f78.body.getD .skip) ⟨0,ag 0 [(ai ac).enc x],[]⟩ (ax Tryz.prog Tryz.f78.results.toList (.ret (aj (iF x)))):=by
 have q:=eK h
 clear h
 have qlogR:=q.logR
 have qmods:=q.mods
 clear q
 obtain ⟨op,xx,ss,rd,rn,rm,ra,a,b,c⟩:=x
 simp only at ho qlogR qmods
 have hop:op=24∨op=25∨op=26∨op=27:=by omega
 clear ho
 rcases hop with rfl | rfl | rfl | rfl
 ·have e:iF ⟨24,xx,ss,rd,rn,rm,ra,a,b,c⟩=((ae (2*b+aU ss) [(⟨#[97,110,100]⟩:ByteArray),(⟨#[98,105,99]⟩:ByteArray),(⟨#[111,114,114]⟩:ByteArray),(⟨#[111,114,110]⟩:ByteArray),(⟨#[101,111,114]⟩:ByteArray),(⟨#[101,111,110]⟩:ByteArray),(⟨#[97,110,100,115]⟩:ByteArray),(⟨#[98,105,99,115]⟩:ByteArray)],[ah rd xx,ah rn xx,shF ⟨24,xx,ss,rd,rn,rm,ra,a,b,c⟩])):=by first | rfl | (unfold iF;simp [*];done) | (unfold iF;simp [*];omega)
  rw [e]
  exact ra24 xx ss rd rn rm ra a b c (qmods (by decide) (by decide)) (qlogR rfl)
 ·have e:iF ⟨25,xx,ss,rd,rn,rm,ra,a,b,c⟩=((cJ (ae b [(⟨#[97,100,100]⟩:ByteArray),(⟨#[115,117,98]⟩:ByteArray)]) ss (⟨#[115]⟩:ByteArray),[ah rd xx,ah rn xx,shF ⟨25,xx,ss,rd,rn,rm,ra,a,b,c⟩])):=by first | rfl | (unfold iF;simp [*];done) | (unfold iF;simp [*];omega)
  rw [e]
  exact ra25 xx ss rd rn rm ra a b c (qmods (by decide) (by decide))
 ·have e:iF ⟨26,xx,ss,rd,rn,rm,ra,a,b,c⟩=((cJ (ae b [(⟨#[97,100,100]⟩:ByteArray),(⟨#[115,117,98]⟩:ByteArray)]) ss (⟨#[115]⟩:ByteArray),[spF (!ss) rd xx,oSP rn xx,dK ⟨26,xx,ss,rd,rn,rm,ra,a,b,c⟩])):=by first | rfl | (unfold iF;simp [*];done) | (unfold iF;simp [*];omega)
  rw [e]
  exact ra26 xx ss rd rn rm ra a b c (qmods (by decide) (by decide))
 ·have e:iF ⟨27,xx,ss,rd,rn,rm,ra,a,b,c⟩=((cJ (ae b [(⟨#[97,100,99]⟩:ByteArray),(⟨#[115,98,99]⟩:ByteArray)]) ss (⟨#[115]⟩:ByteArray),[ah rd xx,ah rn xx,ah rm xx])):=by first | rfl | (unfold iF;simp [*];done) | (unfold iF;simp [*];omega)
  rw [e]
  exact ra27 xx ss rd rn rm ra a b c
def G5:aJ Tryz.prog 78 :=
 mk1 _ _ _ Tryz.func78 rfl (fun _ _=>by go_simp) (ai ac) ((fun x=>ay x=0∧(24≤x.op∧x.op≤27))) ((fun x=>.ret (aj (iF x)))) (by rw [Tryz.ntmps78];decide) (fun x h=>IL x h.1 h.2)
theorem fo {id:Nat} {h:am} {args:List AV}:(G5).run id h args=aY (au (ai ac) ((fun x=>ay x=0∧(24≤x.op∧x.op≤27)))) ((fun x=>.ret (aj (iF x)))) h args:=rfl
theorem fh {id:Nat} {h:am} {args:List AV}:(G5).pan id h args=aZ (au (ai ac) ((fun x=>ay x=0∧(24≤x.op∧x.op≤27)))) ((fun x=>.ret (aj (iF x)))) h args:=rfl
theorem DO (x:Ins) (h:ay x=0) (ho:28≤x.op∧x.op≤32):SW Tryz.prog ⟨none,0⟩ Tryz.f79.ntmps (Tryz.f79.body.getD .skip) ⟨0,ag 0 [(ai ac).enc x],[]⟩ (ax Tryz.prog Tryz.f79.results.toList (.ret (aj (cj x)))):=by
 have q:=eK h
 clear h
 have qtwo:=q.two
 clear q
 obtain ⟨op,xx,ss,rd,rn,rm,ra,a,b,c⟩:=x
 simp only at ho qtwo
 have hop:op=28∨op=29∨op=30∨op=31∨op=32:=by omega
 clear ho
 rcases hop with rfl | rfl | rfl | rfl | rfl
 ·cases ss
  ·have e:cj ⟨28,xx,false,rd,rn,rm,ra,a,b,c⟩=((ae b [(⟨#[99,99,109,110]⟩:ByteArray),(⟨#[99,99,109,112]⟩:ByteArray)],[ah rn xx,ah rm xx,aw a,oOf 4 c])):=by first | rfl | (unfold cj;simp [*];done) | (unfold cj;simp [*];omega)
   rw [e]
   exact rr28 xx rd rn rm ra a b c
  ·have e:cj ⟨28,xx,true,rd,rn,rm,ra,a,b,c⟩=((ae b [(⟨#[99,99,109,110]⟩:ByteArray),(⟨#[99,99,109,112]⟩:ByteArray)],[ah rn xx,aw rm,aw a,oOf 4 c])):=by first | rfl | (unfold cj;simp [*];done) | (unfold cj;simp [*];omega)
   rw [e]
   exact Q9 xx rd rn rm ra a b c
 ·have e:cj ⟨29,xx,ss,rd,rn,rm,ra,a,b,c⟩=((ae b [(⟨#[99,115,101,108]⟩:ByteArray),(⟨#[99,115,105,110,99]⟩:ByteArray),(⟨#[99,115,105,110,118]⟩:ByteArray),(⟨#[99,115,110,101,103]⟩:ByteArray)],[ah rd xx,ah rn xx,ah rm xx,oOf 4 a])):=by first | rfl | (unfold cj;simp [*];done) | (unfold cj;simp [*];omega)
  rw [e]
  exact rr29 xx ss rd rn rm ra a b c
 ·by_cases hb:b=2
  ·subst hb
   cases xx
   ·have e:cj ⟨30,false,ss,rd,rn,rm,ra,a,2,c⟩=(((⟨#[114,101,118]⟩:ByteArray),[ah rd false,ah rn false])):=by first | rfl | (unfold cj;simp [*];done) | (unfold cj;simp [*];omega)
    rw [e]
    exact Py ss rd rn rm ra a c
   ·have e:cj ⟨30,true,ss,rd,rn,rm,ra,a,2,c⟩=((ae 2 [(⟨#[114,98,105,116]⟩:ByteArray),(⟨#[114,101,118,49,54]⟩:ByteArray),(⟨#[114,101,118,51,50]⟩:ByteArray),(⟨#[114,101,118]⟩:ByteArray),(⟨#[99,108,122]⟩:ByteArray),(⟨#[99,108,115]⟩:ByteArray)],[ah rd true,ah rn true])):=by first | rfl | (unfold cj;simp [*];done) | (unfold cj;simp [*];omega)
    rw [e]
    exact QY ss rd rn rm ra a 2 c
  ·have e:cj ⟨30,xx,ss,rd,rn,rm,ra,a,b,c⟩=((ae b [(⟨#[114,98,105,116]⟩:ByteArray),(⟨#[114,101,118,49,54]⟩:ByteArray),(⟨#[114,101,118,51,50]⟩:ByteArray),(⟨#[114,101,118]⟩:ByteArray),(⟨#[99,108,122]⟩:ByteArray),(⟨#[99,108,115]⟩:ByteArray)],[ah rd xx,ah rn xx])):=by first | rfl | (unfold cj;simp [*];done) | (unfold cj;simp [*];omega)
   rw [e]
   exact rr30 xx ss rd rn rm ra a b c hb
 ·by_cases hb:16≤b
  ·have e:cj ⟨31,xx,ss,rd,rn,rm,ra,a,b,c⟩=(((⟨#[99,114,99,51,50]⟩:ByteArray)++ae (b-16) [(⟨#[98]⟩:ByteArray),(⟨#[104]⟩:ByteArray),(⟨#[119]⟩:ByteArray),(⟨#[120]⟩:ByteArray),(⟨#[99,98]⟩:ByteArray),(⟨#[99,104]⟩:ByteArray),(⟨#[99,119]⟩:ByteArray),(⟨#[99,120]⟩:ByteArray)],[ah rd false,ah rn false,ah rm (decide (b % 4=3))])):=by first | rfl | (unfold cj;simp [*];done) | (unfold cj;simp [*];omega)
   rw [e]
   exact QW xx ss rd rn rm ra a b c ⟨hb,(qtwo rfl).2⟩
  ·have e:cj ⟨31,xx,ss,rd,rn,rm,ra,a,b,c⟩=((ae b [emp,emp,(⟨#[117,100,105,118]⟩:ByteArray),(⟨#[115,100,105,118]⟩:ByteArray),emp,emp,emp,emp,(⟨#[108,115,108,118]⟩:ByteArray),(⟨#[108,115,114,118]⟩:ByteArray),(⟨#[97,115,114,118]⟩:ByteArray),(⟨#[114,111,114,118]⟩:ByteArray)],[ah rd xx,ah rn xx,ah rm xx])):=by first | rfl | (unfold cj;simp [*];done) | (unfold cj;simp [*];omega)
   rw [e]
   exact rr31 xx ss rd rn rm ra a b c hb
 ·by_cases h0:b=0
  ·subst h0
   have e:cj ⟨32,xx,ss,rd,rn,rm,ra,a,0,c⟩=((g7 ⟨32,xx,ss,rd,rn,rm,ra,a,0,c⟩,[ah rd xx,ah rn xx,ah rm xx,ah ra xx])):=by first | rfl | (unfold cj;simp [*];done) | (unfold cj;simp [*];omega)
   rw [e]
   exact QN xx ss rd rn rm ra a c
  by_cases h1:b=1
  ·subst h1
   have e:cj ⟨32,xx,ss,rd,rn,rm,ra,a,1,c⟩=((g7 ⟨32,xx,ss,rd,rn,rm,ra,a,1,c⟩,[ah rd xx,ah rn xx,ah rm xx,ah ra xx])):=by first | rfl | (unfold cj;simp [*];done) | (unfold cj;simp [*];omega)
   rw [e]
   exact QR xx ss rd rn rm ra a c
  by_cases h4:b=4
  ·subst h4
   have e:cj ⟨32,xx,ss,rd,rn,rm,ra,a,4,c⟩=((g7 ⟨32,xx,ss,rd,rn,rm,ra,a,4,c⟩,[ah rd true,ah rn true,ah rm true])):=by first | rfl | (unfold cj;simp [*];done) | (unfold cj;simp [*];omega)
   rw [e]
   exact P9 xx ss rd rn rm ra a c
  by_cases h7:b=7
  ·subst h7
   have e:cj ⟨32,xx,ss,rd,rn,rm,ra,a,7,c⟩=((g7 ⟨32,xx,ss,rd,rn,rm,ra,a,7,c⟩,[ah rd true,ah rn true,ah rm true])):=by first | rfl | (unfold cj;simp [*];done) | (unfold cj;simp [*];omega)
   rw [e]
   exact OO xx ss rd rn rm ra a c
  ·have e:cj ⟨32,xx,ss,rd,rn,rm,ra,a,b,c⟩=((g7 ⟨32,xx,ss,rd,rn,rm,ra,a,b,c⟩,[ah rd true,ah rn false,ah rm false,ah ra true])):=by first | rfl | (unfold cj;simp [*];done) | (unfold cj;simp [*];omega)
   rw [e]
   exact rr32 xx ss rd rn rm ra a b c ⟨h0,h1,h4,h7⟩
def yK:aJ Tryz.prog 79 :=
 mk1 _ _ _ Tryz.func79 rfl (fun _ _=>by go_simp) (ai ac) ((fun x=>ay x=0∧(28≤x.op∧x.op≤32))) ((fun x=>.ret (aj (cj x)))) (by rw [Tryz.ntmps79];decide) (fun x h=>DO x h.1 h.2)
theorem ee {id:Nat} {h:am} {args:List AV}:(yK).run id h args=aY (au (ai ac) ((fun x=>ay x=0∧(28≤x.op∧x.op≤32)))) ((fun x=>.ret (aj (cj x)))) h args:=rfl
theorem d8 {id:Nat} {h:am} {args:List AV}:(yK).pan id h args=aZ (au (ai ac) ((fun x=>ay x=0∧(28≤x.op∧x.op≤32)))) ((fun x=>.ret (aj (cj x)))) h args:=rfl
theorem JS (x:Ins) (h:ay x=0):SW Tryz.prog ⟨none,0⟩ Tryz.f30.ntmps (Tryz.f30.body.getD .skip) ⟨0,ag 0 [(ai ac).enc x],[]⟩ (ax Tryz.prog Tryz.f30.results.toList (.ret (aj (bt x)))):=by
 refine aa (ctx:=[⟨_,xh⟩,⟨_,DC⟩,⟨_,Dv⟩,⟨_,No⟩,⟨_,M8⟩,⟨_,G5⟩,⟨_,yK⟩]) 4000 ?_
 rw [Tryz.ntmps30,Tryz.results30]
 simp only [Tryz.f30,Option.getD_some,ag]
 have ho:=(eK h).op
 by_cases crdist:x.op=1∨(7≤x.op∧x.op≤11)
 ·have e:bt x=dt x:=by unfold bt;first | (rw [if_pos crdist];done) | (simp only [crdist,if_false];repeat' split)<;>first | rfl | (exfalso;omega)
  have hq:ay x=0∧(x.op=1∨(7≤x.op∧x.op≤11)):=⟨h,crdist⟩
  rw [e]
  rcases crdist with c1 | c1
  ·have h1:(x.op==1)=true:=by simpa using c1
   simp only [go_sem,ac,h1,eg,eb,fc,fp,fe,fa,gr,gp,gm,gl,fo,fh,ee,d8,hq,aj]
  ·have h1:(x.op==1)=false:=by simp only [beq_eq_false_iff_ne,ne_eq];omega
   simp only [go_sem,ac,h1,c1.1,c1.2,eg,eb,fc,fp,fe,fa,gr,gp,gm,gl,fo,fh,ee,d8,hq,aj]
 by_cases crimm:2≤x.op∧x.op≤6
 ·have e:bt x=fx x:=by unfold bt;first | (rw [if_pos crimm];done) | (simp only [crdist,if_false];repeat' split)<;>first | rfl | (exfalso;omega)
  have hq:ay x=0∧(2≤x.op∧x.op≤6):=⟨h,crimm⟩
  rw [e]
  have h1:(x.op==1)=false:=by simp only [beq_eq_false_iff_ne,ne_eq];omega
  rcases Classical.em (7≤x.op) with h7 | h7
  ·have h11:x.op≤11∨¬x.op≤11:=Classical.em _
   have h6:x.op≤6∨¬x.op≤6:=Classical.em _
   have h17:x.op≤17∨¬x.op≤17:=Classical.em _
   have h20:20≤x.op∨¬20≤x.op:=Classical.em _
   have h22:x.op≤22∨¬x.op≤22:=Classical.em _
   have h23:x.op≤23∨¬x.op≤23:=Classical.em _
   have h27:x.op≤27∨¬x.op≤27:=Classical.em _
   rcases h11 with h11 | h11<;>rcases h6 with h6 | h6<;>rcases h17 with h17 | h17<;>rcases h20 with h20 | h20<;>rcases h22 with h22 | h22<;>rcases h23 with h23 | h23<;>rcases h27 with h27 | h27
   all_goals first | (exfalso;omega) | (simp only [go_sem,ac,h1,h7,h11,h6,h17,h20,h22,h23,h27,eg,eb,fc,fp,fe,fa,gr,gp,gm,gl,fo,fh,ee,d8,hq,aj];done)
  ·have h11:x.op≤11∨¬x.op≤11:=Classical.em _
   have h6:x.op≤6∨¬x.op≤6:=Classical.em _
   have h17:x.op≤17∨¬x.op≤17:=Classical.em _
   have h20:20≤x.op∨¬20≤x.op:=Classical.em _
   have h22:x.op≤22∨¬x.op≤22:=Classical.em _
   have h23:x.op≤23∨¬x.op≤23:=Classical.em _
   have h27:x.op≤27∨¬x.op≤27:=Classical.em _
   rcases h11 with h11 | h11<;>rcases h6 with h6 | h6<;>rcases h17 with h17 | h17<;>rcases h20 with h20 | h20<;>rcases h22 with h22 | h22<;>rcases h23 with h23 | h23<;>rcases h27 with h27 | h27
   all_goals first | (exfalso;omega) | (simp only [go_sem,ac,h1,h7,h11,h6,h17,h20,h22,h23,h27,eg,eb,fc,fp,fe,fa,gr,gp,gm,gl,fo,fh,ee,d8,hq,aj];done)
 by_cases crsys:12≤x.op∧x.op≤17
 ·have e:bt x=dr x:=by unfold bt;first | (rw [if_pos crsys];done) | (simp only [crdist,if_false];repeat' split)<;>first | rfl | (exfalso;omega)
  have hq:ay x=0∧(12≤x.op∧x.op≤17):=⟨h,crsys⟩
  rw [e]
  have h1:(x.op==1)=false:=by simp only [beq_eq_false_iff_ne,ne_eq];omega
  rcases Classical.em (7≤x.op) with h7 | h7
  ·have h11:x.op≤11∨¬x.op≤11:=Classical.em _
   have h6:x.op≤6∨¬x.op≤6:=Classical.em _
   have h17:x.op≤17∨¬x.op≤17:=Classical.em _
   have h20:20≤x.op∨¬20≤x.op:=Classical.em _
   have h22:x.op≤22∨¬x.op≤22:=Classical.em _
   have h23:x.op≤23∨¬x.op≤23:=Classical.em _
   have h27:x.op≤27∨¬x.op≤27:=Classical.em _
   rcases h11 with h11 | h11<;>rcases h6 with h6 | h6<;>rcases h17 with h17 | h17<;>rcases h20 with h20 | h20<;>rcases h22 with h22 | h22<;>rcases h23 with h23 | h23<;>rcases h27 with h27 | h27
   all_goals first | (exfalso;omega) | (simp only [go_sem,ac,h1,h7,h11,h6,h17,h20,h22,h23,h27,eg,eb,fc,fp,fe,fa,gr,gp,gm,gl,fo,fh,ee,d8,hq,aj];done)
  ·have h11:x.op≤11∨¬x.op≤11:=Classical.em _
   have h6:x.op≤6∨¬x.op≤6:=Classical.em _
   have h17:x.op≤17∨¬x.op≤17:=Classical.em _
   have h20:20≤x.op∨¬20≤x.op:=Classical.em _
   have h22:x.op≤22∨¬x.op≤22:=Classical.em _
   have h23:x.op≤23∨¬x.op≤23:=Classical.em _
   have h27:x.op≤27∨¬x.op≤27:=Classical.em _
   rcases h11 with h11 | h11<;>rcases h6 with h6 | h6<;>rcases h17 with h17 | h17<;>rcases h20 with h20 | h20<;>rcases h22 with h22 | h22<;>rcases h23 with h23 | h23<;>rcases h27 with h27 | h27
   all_goals first | (exfalso;omega) | (simp only [go_sem,ac,h1,h7,h11,h6,h17,h20,h22,h23,h27,eg,eb,fc,fp,fe,fa,gr,gp,gm,gl,fo,fh,ee,d8,hq,aj];done)
 by_cases crtr:20≤x.op∧x.op≤22
 ·have e:bt x=cB x:=by unfold bt;first | (rw [if_pos crtr];done) | (simp only [crdist,if_false];repeat' split)<;>first | rfl | (exfalso;omega)
  have hq:ay x=0∧(20≤x.op∧x.op≤22):=⟨h,crtr⟩
  rw [e]
  have h1:(x.op==1)=false:=by simp only [beq_eq_false_iff_ne,ne_eq];omega
  rcases Classical.em (7≤x.op) with h7 | h7
  ·have h11:x.op≤11∨¬x.op≤11:=Classical.em _
   have h6:x.op≤6∨¬x.op≤6:=Classical.em _
   have h17:x.op≤17∨¬x.op≤17:=Classical.em _
   have h20:20≤x.op∨¬20≤x.op:=Classical.em _
   have h22:x.op≤22∨¬x.op≤22:=Classical.em _
   have h23:x.op≤23∨¬x.op≤23:=Classical.em _
   have h27:x.op≤27∨¬x.op≤27:=Classical.em _
   rcases h11 with h11 | h11<;>rcases h6 with h6 | h6<;>rcases h17 with h17 | h17<;>rcases h20 with h20 | h20<;>rcases h22 with h22 | h22<;>rcases h23 with h23 | h23<;>rcases h27 with h27 | h27
   all_goals first | (exfalso;omega) | (simp only [go_sem,ac,h1,h7,h11,h6,h17,h20,h22,h23,h27,eg,eb,fc,fp,fe,fa,gr,gp,gm,gl,fo,fh,ee,d8,hq,aj];done)
  ·have h11:x.op≤11∨¬x.op≤11:=Classical.em _
   have h6:x.op≤6∨¬x.op≤6:=Classical.em _
   have h17:x.op≤17∨¬x.op≤17:=Classical.em _
   have h20:20≤x.op∨¬20≤x.op:=Classical.em _
   have h22:x.op≤22∨¬x.op≤22:=Classical.em _
   have h23:x.op≤23∨¬x.op≤23:=Classical.em _
   have h27:x.op≤27∨¬x.op≤27:=Classical.em _
   rcases h11 with h11 | h11<;>rcases h6 with h6 | h6<;>rcases h17 with h17 | h17<;>rcases h20 with h20 | h20<;>rcases h22 with h22 | h22<;>rcases h23 with h23 | h23<;>rcases h27 with h27 | h27
   all_goals first | (exfalso;omega) | (simp only [go_sem,ac,h1,h7,h11,h6,h17,h20,h22,h23,h27,eg,eb,fc,fp,fe,fa,gr,gp,gm,gl,fo,fh,ee,d8,hq,aj];done)
 by_cases crld:x.op=18∨x.op=19∨x.op=23
 ·have e:bt x=cH x:=by unfold bt;first | (rw [if_pos crld];done) | (simp only [crdist,if_false];repeat' split)<;>first | rfl | (exfalso;omega)
  have hq:ay x=0∧(x.op=18∨x.op=19∨x.op=23):=⟨h,crld⟩
  rw [e]
  have h1:(x.op==1)=false:=by simp only [beq_eq_false_iff_ne,ne_eq];omega
  rcases Classical.em (7≤x.op) with h7 | h7
  ·have h11:x.op≤11∨¬x.op≤11:=Classical.em _
   have h6:x.op≤6∨¬x.op≤6:=Classical.em _
   have h17:x.op≤17∨¬x.op≤17:=Classical.em _
   have h20:20≤x.op∨¬20≤x.op:=Classical.em _
   have h22:x.op≤22∨¬x.op≤22:=Classical.em _
   have h23:x.op≤23∨¬x.op≤23:=Classical.em _
   have h27:x.op≤27∨¬x.op≤27:=Classical.em _
   rcases h11 with h11 | h11<;>rcases h6 with h6 | h6<;>rcases h17 with h17 | h17<;>rcases h20 with h20 | h20<;>rcases h22 with h22 | h22<;>rcases h23 with h23 | h23<;>rcases h27 with h27 | h27
   all_goals first | (exfalso;omega) | (simp only [go_sem,ac,h1,h7,h11,h6,h17,h20,h22,h23,h27,eg,eb,fc,fp,fe,fa,gr,gp,gm,gl,fo,fh,ee,d8,hq,aj];done)
  ·have h11:x.op≤11∨¬x.op≤11:=Classical.em _
   have h6:x.op≤6∨¬x.op≤6:=Classical.em _
   have h17:x.op≤17∨¬x.op≤17:=Classical.em _
   have h20:20≤x.op∨¬20≤x.op:=Classical.em _
   have h22:x.op≤22∨¬x.op≤22:=Classical.em _
   have h23:x.op≤23∨¬x.op≤23:=Classical.em _
   have h27:x.op≤27∨¬x.op≤27:=Classical.em _
   rcases h11 with h11 | h11<;>rcases h6 with h6 | h6<;>rcases h17 with h17 | h17<;>rcases h20 with h20 | h20<;>rcases h22 with h22 | h22<;>rcases h23 with h23 | h23<;>rcases h27 with h27 | h27
   all_goals first | (exfalso;omega) | (simp only [go_sem,ac,h1,h7,h11,h6,h17,h20,h22,h23,h27,eg,eb,fc,fp,fe,fa,gr,gp,gm,gl,fo,fh,ee,d8,hq,aj];done)
 by_cases cradd:24≤x.op∧x.op≤27
 ·have e:bt x=iF x:=by unfold bt;first | (rw [if_pos cradd];done) | (simp only [crdist,if_false];repeat' split)<;>first | rfl | (exfalso;omega)
  have hq:ay x=0∧(24≤x.op∧x.op≤27):=⟨h,cradd⟩
  rw [e]
  have h1:(x.op==1)=false:=by simp only [beq_eq_false_iff_ne,ne_eq];omega
  rcases Classical.em (7≤x.op) with h7 | h7
  ·have h11:x.op≤11∨¬x.op≤11:=Classical.em _
   have h6:x.op≤6∨¬x.op≤6:=Classical.em _
   have h17:x.op≤17∨¬x.op≤17:=Classical.em _
   have h20:20≤x.op∨¬20≤x.op:=Classical.em _
   have h22:x.op≤22∨¬x.op≤22:=Classical.em _
   have h23:x.op≤23∨¬x.op≤23:=Classical.em _
   have h27:x.op≤27∨¬x.op≤27:=Classical.em _
   rcases h11 with h11 | h11<;>rcases h6 with h6 | h6<;>rcases h17 with h17 | h17<;>rcases h20 with h20 | h20<;>rcases h22 with h22 | h22<;>rcases h23 with h23 | h23<;>rcases h27 with h27 | h27
   all_goals first | (exfalso;omega) | (simp only [go_sem,ac,h1,h7,h11,h6,h17,h20,h22,h23,h27,eg,eb,fc,fp,fe,fa,gr,gp,gm,gl,fo,fh,ee,d8,hq,aj];done)
  ·have h11:x.op≤11∨¬x.op≤11:=Classical.em _
   have h6:x.op≤6∨¬x.op≤6:=Classical.em _
   have h17:x.op≤17∨¬x.op≤17:=Classical.em _
   have h20:20≤x.op∨¬20≤x.op:=Classical.em _
   have h22:x.op≤22∨¬x.op≤22:=Classical.em _
   have h23:x.op≤23∨¬x.op≤23:=Classical.em _
   have h27:x.op≤27∨¬x.op≤27:=Classical.em _
   rcases h11 with h11 | h11<;>rcases h6 with h6 | h6<;>rcases h17 with h17 | h17<;>rcases h20 with h20 | h20<;>rcases h22 with h22 | h22<;>rcases h23 with h23 | h23<;>rcases h27 with h27 | h27
   all_goals first | (exfalso;omega) | (simp only [go_sem,ac,h1,h7,h11,h6,h17,h20,h22,h23,h27,eg,eb,fc,fp,fe,fa,gr,gp,gm,gl,fo,fh,ee,d8,hq,aj];done)
 by_cases crregs:28≤x.op∧x.op≤32
 ·have e:bt x=cj x:=by unfold bt;first | (rw [if_pos crregs];done) | (simp only [crdist,if_false];repeat' split)<;>first | rfl | (exfalso;omega)
  have hq:ay x=0∧(28≤x.op∧x.op≤32):=⟨h,crregs⟩
  rw [e]
  have h1:(x.op==1)=false:=by simp only [beq_eq_false_iff_ne,ne_eq];omega
  rcases Classical.em (7≤x.op) with h7 | h7
  ·have h11:x.op≤11∨¬x.op≤11:=Classical.em _
   have h6:x.op≤6∨¬x.op≤6:=Classical.em _
   have h17:x.op≤17∨¬x.op≤17:=Classical.em _
   have h20:20≤x.op∨¬20≤x.op:=Classical.em _
   have h22:x.op≤22∨¬x.op≤22:=Classical.em _
   have h23:x.op≤23∨¬x.op≤23:=Classical.em _
   have h27:x.op≤27∨¬x.op≤27:=Classical.em _
   rcases h11 with h11 | h11<;>rcases h6 with h6 | h6<;>rcases h17 with h17 | h17<;>rcases h20 with h20 | h20<;>rcases h22 with h22 | h22<;>rcases h23 with h23 | h23<;>rcases h27 with h27 | h27
   all_goals first | (exfalso;omega) | (simp only [go_sem,ac,h1,h7,h11,h6,h17,h20,h22,h23,h27,eg,eb,fc,fp,fe,fa,gr,gp,gm,gl,fo,fh,ee,d8,hq,aj];done)
  ·have h11:x.op≤11∨¬x.op≤11:=Classical.em _
   have h6:x.op≤6∨¬x.op≤6:=Classical.em _
   have h17:x.op≤17∨¬x.op≤17:=Classical.em _
   have h20:20≤x.op∨¬20≤x.op:=Classical.em _
   have h22:x.op≤22∨¬x.op≤22:=Classical.em _
   have h23:x.op≤23∨¬x.op≤23:=Classical.em _
   have h27:x.op≤27∨¬x.op≤27:=Classical.em _
   rcases h11 with h11 | h11<;>rcases h6 with h6 | h6<;>rcases h17 with h17 | h17<;>rcases h20 with h20 | h20<;>rcases h22 with h22 | h22<;>rcases h23 with h23 | h23<;>rcases h27 with h27 | h27
   all_goals first | (exfalso;omega) | (simp only [go_sem,ac,h1,h7,h11,h6,h17,h20,h22,h23,h27,eg,eb,fc,fp,fe,fa,gr,gp,gm,gl,fo,fh,ee,d8,hq,aj];done)
 exfalso
 omega
def wW:aJ Tryz.prog 30 :=
 mk1 _ _ _ Tryz.func30 rfl (fun _ _=>by go_simp) (ai ac) ((fun x=>ay x=0)) ((fun x=>.ret (aj (bt x)))) (by rw [Tryz.ntmps30];decide) (fun x h=>JS x h)
theorem bY {id:Nat} {h:am} {args:List AV}:(wW).run id h args=aY (au (ai ac) ((fun x=>ay x=0))) ((fun x=>.ret (aj (bt x)))) h args:=rfl
theorem bZ {id:Nat} {h:am} {args:List AV}:(wW).pan id h args=aZ (au (ai ac) ((fun x=>ay x=0))) ((fun x=>.ret (aj (bt x)))) h args:=rfl
end Go.Proofs.YtpjlafmhoifkmaaGreat
