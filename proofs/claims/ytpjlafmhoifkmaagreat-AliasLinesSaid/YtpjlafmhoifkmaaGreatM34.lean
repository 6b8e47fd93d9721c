import Derived.Test.YtpjlafmhoifkmaaGreatM33
import Derived.Test.YtpjlafmhoifkmaaGreatM30
import Derived.Test.YtpjlafmhoifkmaaGreatM32
set_option linter.unusedVariables false
set_option linter.unusedSimpArgs false
set_option maxRecDepth 100000
set_option maxHeartbeats 8000000
namespace Go.Proofs.YtpjlafmhoifkmaaGreat
section
def dt (x:Ins):cE :=
 if x.op=1 then (if x.x then ((⟨#[97,100,114,112]⟩:ByteArray),[ah x.rd true,oTo (4096*x.a)]) else ((⟨#[97,100,114]⟩:ByteArray),[ah x.rd true,oTo x.a]))
 else if x.op=7 then ((⟨#[98,46]⟩:ByteArray)++(cV 2 x.b).1,[oTo (4*x.a)])
 else if x.op=8 then (cJ (⟨#[98]⟩:ByteArray) x.s (⟨#[108]⟩:ByteArray),[oTo (4*x.a)])
 else if x.op=9 then (ae x.b [(⟨#[99,98,122]⟩:ByteArray),(⟨#[99,98,110,122]⟩:ByteArray)],[ah x.rd x.x,oTo (4*x.a)])
 else if x.op=10 then (ae x.b [(⟨#[116,98,122]⟩:ByteArray),(⟨#[116,98,110,122]⟩:ByteArray)],[ah x.rd (decide (31<x.c)),aw x.c,oTo (4*x.a)])
 else if x.b=4 then ((⟨#[101,114,101,116]⟩:ByteArray),[]) else (ae x.b [(⟨#[98,114]⟩:ByteArray),(⟨#[98,108,114]⟩:ByteArray),(⟨#[114,101,116]⟩:ByteArray)],[ah x.rn true])
def fx (x:Ins):cE :=
 if x.op=2 then (cJ (ae x.b [(⟨#[97,100,100]⟩:ByteArray),(⟨#[115,117,98]⟩:ByteArray)]) x.s (⟨#[115]⟩:ByteArray),[spF (!x.s) x.rd x.x,oSP x.rn x.x,if x.c=1 then cw (aw x.a) 1 12 else aw x.a])
 else if x.op=3 then (ae x.b [(⟨#[97,110,100]⟩:ByteArray),(⟨#[111,114,114]⟩:ByteArray),(⟨#[101,111,114]⟩:ByteArray),(⟨#[97,110,100,115]⟩:ByteArray)],[spF (decide (x.b<3)) x.rd x.x,ah x.rn x.x,aw x.a])
 else if x.op=4 then (ae x.b [(⟨#[109,111,118,110]⟩:ByteArray),emp,(⟨#[109,111,118,122]⟩:ByteArray),(⟨#[109,111,118,107]⟩:ByteArray)],[ah x.rd x.x,if 0<x.c then cw (aw x.a) 1 (16*x.c) else aw x.a])
 else if x.op=5 then (ae x.b [(⟨#[115,98,102,109]⟩:ByteArray),(⟨#[98,102,109]⟩:ByteArray),(⟨#[117,98,102,109]⟩:ByteArray)],[ah x.rd x.x,ah x.rn x.x,aw x.a,aw x.c])
 else ((⟨#[101,120,116,114]⟩:ByteArray),[ah x.rd x.x,ah x.rn x.x,ah x.rm x.x,aw x.a])
def l9 (x:Ins):List OpV:=[aw (x.a / 2048),aw (x.a / 128 % 16),aw (x.a / 8 % 16),aw (x.a % 8)]
def dr (x:Ins):cE :=
 if x.op=12 then (ae x.b [(⟨#[115,118,99]⟩:ByteArray),(⟨#[104,118,99]⟩:ByteArray),(⟨#[115,109,99]⟩:ByteArray),(⟨#[98,114,107]⟩:ByteArray),(⟨#[104,108,116]⟩:ByteArray),(⟨#[100,99,112,115,49]⟩:ByteArray),(⟨#[100,99,112,115,50]⟩:ByteArray),(⟨#[100,99,112,115,51]⟩:ByteArray)],[aw x.a])
 else if x.op=13 then ((⟨#[104,105,110,116]⟩:ByteArray),[aw x.a])
 else if x.op=14 then
  if x.b=4∨x.b=5 then (ae (x.b-4) [(⟨#[100,115,98]⟩:ByteArray),(⟨#[100,109,98]⟩:ByteArray)],[oOf 7 x.a])
  else if x.b=2 then ((⟨#[99,108,114,101,120]⟩:ByteArray),[aw x.a]) else ((⟨#[105,115,98]⟩:ByteArray),[aw x.a])
 else if x.op=15 then if x.b=1 then ((⟨#[109,114,115]⟩:ByteArray),[ah x.rd true,oOf 6 x.a]) else ((⟨#[109,115,114]⟩:ByteArray),[oOf 6 x.a,ah x.rd true])
 else if x.op=16 then ((⟨#[109,115,114]⟩:ByteArray),[oOf 9 x.b,aw x.a])
 else if x.b=1 then ((⟨#[115,121,115,108]⟩:ByteArray),ah x.rd true::l9 x) else ((⟨#[115,121,115]⟩:ByteArray),l9 x++[ah x.rd true])
def cB (x:Ins):cE :=
 if x.op=20 then (trN x,[trD x,be x.rn 0 (x.a*2 ^ x.b.toNat)])
 else if x.op=21 then
  if x.ra=0 then (lq (trN x) (⟨#[117,114]⟩:ByteArray),[trD x,be x.rn 0 x.a])
  else if x.ra=1 then (trN x,[trD x,be x.rn 2 x.a])
  else if x.ra=2 then (lq (trN x) (⟨#[116,114]⟩:ByteArray),[trD x,be x.rn 0 x.a])
  else (trN x,[trD x,be x.rn 1 x.a])
 else (trN x,[trD x,{ be x.rn 3 0 with m:=⟨x.rm,decide (x.a % 2=1),false⟩,md:=fO x.a,amt:=if x.s then x.b else -1 }])
def ez (s:Bool):ByteArray:=if s then (⟨#[108,100]⟩:ByteArray) else (⟨#[115,116]⟩:ByteArray)
def iT (x:Ins):ByteArray :=
 (
  if x.a=2 then ez x.s++(ae (aU x.s) [(⟨#[108]⟩:ByteArray),(⟨#[97]⟩:ByteArray)]++(⟨#[114]⟩:ByteArray))
  else if x.x then ez x.s++(ae (aU x.s) [(⟨#[108,120]⟩:ByteArray),(⟨#[97,120]⟩:ByteArray)]++ae x.a [(⟨#[114]⟩:ByteArray),(⟨#[112]⟩:ByteArray)])
  else ez x.s++((⟨#[120]⟩:ByteArray)++ae x.a [(⟨#[114]⟩:ByteArray),(⟨#[112]⟩:ByteArray)]))++ae x.b [(⟨#[98]⟩:ByteArray),(⟨#[104]⟩:ByteArray),emp,emp]
def ky (x:Ins):List OpV:=(if x.s=false∧x.a<2 then [ah x.rm false] else [])++[ah x.rd (decide (x.b=3))]++(if x.a=1 then [ah x.ra (decide (x.b=3))] else [])++[be x.rn 0 0]
def cH (x:Ins):cE :=
 if x.op=18 then (ae x.b [(⟨#[108,100,114]⟩:ByteArray),(⟨#[108,100,114]⟩:ByteArray),(⟨#[108,100,114,115,119]⟩:ByteArray),(⟨#[112,114,102,109]⟩:ByteArray)],[if x.b=3 then oOf 8 x.rd else ah x.rd (decide (0<x.b)),oTo (4*x.a)])
 else if x.op=19 then (ez x.s++(ae x.c [(⟨#[110,112]⟩:ByteArray),(⟨#[112]⟩:ByteArray),(⟨#[112]⟩:ByteArray),(⟨#[112]⟩:ByteArray)]++ae x.b [emp,(⟨#[115,119]⟩:ByteArray),emp]),[ah x.rd (decide (0<x.b)),ah x.ra (decide (0<x.b)),be x.rn (dB x.c) ((if x.b=2 then 8 else 4)*x.a)])
 else (iT x,ky x)
def iF (x:Ins):cE :=
 if x.op=24 then (ae (2*x.b+aU x.s) [(⟨#[97,110,100]⟩:ByteArray),(⟨#[98,105,99]⟩:ByteArray),(⟨#[111,114,114]⟩:ByteArray),(⟨#[111,114,110]⟩:ByteArray),(⟨#[101,111,114]⟩:ByteArray),(⟨#[101,111,110]⟩:ByteArray),(⟨#[97,110,100,115]⟩:ByteArray),(⟨#[98,105,99,115]⟩:ByteArray)],[ah x.rd x.x,ah x.rn x.x,shF x])
 else if x.op=25 then (cJ (ae x.b [(⟨#[97,100,100]⟩:ByteArray),(⟨#[115,117,98]⟩:ByteArray)]) x.s (⟨#[115]⟩:ByteArray),[ah x.rd x.x,ah x.rn x.x,shF x])
 else if x.op=26 then (cJ (ae x.b [(⟨#[97,100,100]⟩:ByteArray),(⟨#[115,117,98]⟩:ByteArray)]) x.s (⟨#[115]⟩:ByteArray),[spF (!x.s) x.rd x.x,oSP x.rn x.x,dK x])
 else (cJ (ae x.b [(⟨#[97,100,99]⟩:ByteArray),(⟨#[115,98,99]⟩:ByteArray)]) x.s (⟨#[115]⟩:ByteArray),[ah x.rd x.x,ah x.rn x.x,ah x.rm x.x])
def cj (x:Ins):cE :=
 if x.op=28 then (ae x.b [(⟨#[99,99,109,110]⟩:ByteArray),(⟨#[99,99,109,112]⟩:ByteArray)],[ah x.rn x.x,if x.s then aw x.rm else ah x.rm x.x,aw x.a,oOf 4 x.c])
 else if x.op=29 then (ae x.b [(⟨#[99,115,101,108]⟩:ByteArray),(⟨#[99,115,105,110,99]⟩:ByteArray),(⟨#[99,115,105,110,118]⟩:ByteArray),(⟨#[99,115,110,101,103]⟩:ByteArray)],[ah x.rd x.x,ah x.rn x.x,ah x.rm x.x,oOf 4 x.a])
 else if x.op=30 then (if x.b=2∧x.x=false then (⟨#[114,101,118]⟩:ByteArray) else ae x.b [(⟨#[114,98,105,116]⟩:ByteArray),(⟨#[114,101,118,49,54]⟩:ByteArray),(⟨#[114,101,118,51,50]⟩:ByteArray),(⟨#[114,101,118]⟩:ByteArray),(⟨#[99,108,122]⟩:ByteArray),(⟨#[99,108,115]⟩:ByteArray)],[ah x.rd x.x,ah x.rn x.x])
 else if x.op=31 then
  if 16≤x.b then ((⟨#[99,114,99,51,50]⟩:ByteArray)++ae (x.b-16) [(⟨#[98]⟩:ByteArray),(⟨#[104]⟩:ByteArray),(⟨#[119]⟩:ByteArray),(⟨#[120]⟩:ByteArray),(⟨#[99,98]⟩:ByteArray),(⟨#[99,104]⟩:ByteArray),(⟨#[99,119]⟩:ByteArray),(⟨#[99,120]⟩:ByteArray)],[ah x.rd false,ah x.rn false,ah x.rm (decide (x.b % 4=3))])
  else (ae x.b [emp,emp,(⟨#[117,100,105,118]⟩:ByteArray),(⟨#[115,100,105,118]⟩:ByteArray),emp,emp,emp,emp,(⟨#[108,115,108,118]⟩:ByteArray),(⟨#[108,115,114,118]⟩:ByteArray),(⟨#[97,115,114,118]⟩:ByteArray),(⟨#[114,111,114,118]⟩:ByteArray)],[ah x.rd x.x,ah x.rn x.x,ah x.rm x.x])
 else if x.b=0∨x.b=1 then (g7 x,[ah x.rd x.x,ah x.rn x.x,ah x.rm x.x,ah x.ra x.x])
 else if x.b=4∨x.b=7 then (g7 x,[ah x.rd true,ah x.rn true,ah x.rm true])
 else (g7 x,[ah x.rd true,ah x.rn false,ah x.rm false,ah x.ra true])
def bt (x:Ins):cE :=
 if x.op=1∨(7≤x.op∧x.op≤11) then dt x else if x.op≤6 then fx x else if x.op≤17 then dr x
 else if 20≤x.op∧x.op≤22 then cB x else if x.op≤23 then cH x else if x.op≤27 then iF x else cj x
end
section
theorem jP {s t:ByteArray} {l m:List OpV} (h:s=t) (g:l=m):((s,l):cE)=(t,m):=by rw [h,g]
theorem zU (s:ByteArray):s++emp=s:=by
 apply ByteArray.ext
 simp [emp]
theorem Jc {x:Ins} (q:PlB x) (ho:x.op=1∨(7≤x.op∧x.op≤11)):dt x=bz x:=by
 have qb:=q.br
 obtain ⟨op,xx,ss,rd,rn,rm,ra,a,b,c⟩:=x
 simp only at ho qb
 have hop:op=1∨op=7∨op=8∨op=9∨op=10∨op=11:=by omega
 rcases hop with rfl | rfl | rfl | rfl | rfl | rfl
 ·cases xx
  ·exact jP (by first | rfl | (dsimp only;decide +kernel) | (unfold iT exN;dsimp only;decide +kernel)) rfl
  ·refine jP (by first | rfl | (dsimp only;decide +kernel) | (unfold iT exN;dsimp only;decide +kernel)) ?_
   show [ah rd true,oTo (4096*a)]=[ah rd true,oTo (a*4096)]
   rw [Int.mul_comm]
 ·rfl
 ·cases ss<;>exact jP (by first | rfl | (dsimp only;decide +kernel) | (unfold iT exN;dsimp only;decide +kernel)) rfl
 ·rfl
 ·rfl
 ·have:=qb rfl
  have hb:b=0∨b=1∨b=2∨b=4:=by omega
  rcases hb with rfl | rfl | rfl | rfl<;>rfl
theorem MK {x:Ins} (q:PlB x) (ho:2≤x.op∧x.op≤6):fx x=bz x:=by
 have q2:=q.addImm
 have q3:=q.logI
 have q4:=q.wide
 obtain ⟨op,xx,ss,rd,rn,rm,ra,a,b,c⟩:=x
 simp only at ho q2 q3 q4
 have hop:op=2∨op=3∨op=4∨op=5∨op=6:=by omega
 rcases hop with rfl | rfl | rfl | rfl | rfl
 ·have:=q2 rfl
  have hb:b=0∨b=1:=by omega
  rcases hb with rfl | rfl<;>cases ss<;>exact jP (by first | rfl | (dsimp only;decide +kernel) | (unfold iT exN;dsimp only;decide +kernel)) rfl
 ·have:=q3 rfl
  have hb:b=0∨b=1∨b=2∨b=3:=by omega
  rcases hb with rfl | rfl | rfl | rfl<;>rfl
 ·have:=q4 rfl
  have hc:c=0∨c=1∨c=2∨c=3:=by omega
  rcases hc with rfl | rfl | rfl | rfl<;>rfl
 ·rfl
 ·rfl
theorem K3 {x:Ins} (q:PlB x) (ho:12≤x.op∧x.op≤17):dr x=bz x:=by
 have q1:=q.bar
 have q2:=q.bit
 have q3:=q.sys
 obtain ⟨op,xx,ss,rd,rn,rm,ra,a,b,c⟩:=x
 simp only at ho q1 q2 q3
 have hop:op=12∨op=13∨op=14∨op=15∨op=16∨op=17:=by omega
 rcases hop with rfl | rfl | rfl | rfl | rfl | rfl
 ·rfl
 ·rfl
 ·have:=q1 rfl
  have hb:b=2∨b=4∨b=5∨b=6:=by omega
  rcases hb with rfl | rfl | rfl | rfl<;>rfl
 ·have:=q2 (.inl rfl)
  have hb:b=0∨b=1:=by omega
  rcases hb with rfl | rfl<;>rfl
 ·rfl
 ·have:=q2 (.inr rfl)
  have ha:=q3 rfl
  have h8:a / 2048 % 8=a / 2048:=by omega
  have hb:b=0∨b=1:=by omega
  have e:l9 ⟨17,xx,ss,rd,rn,rm,ra,a,b,c⟩=li ⟨17,xx,ss,rd,rn,rm,ra,a,b,c⟩:=by unfold l9 li;simp only [h8]
  rcases hb with rfl | rfl
  ·show (_,l9 _++_)=(_,li _++_)
   rw [e]
   rfl
  ·show (_,_::l9 _)=(_,_::li _)
   rw [e]
   rfl
theorem MQ {b c:Int} (hb:0≤b∧b≤3) (hc:0≤c∧c≤3) (h:¬c=3∨b<2):(lq (bx b c).1 (⟨#[117,114]⟩:ByteArray)=if (bx b c).1=(⟨#[112,114,102,109]⟩:ByteArray) then (⟨#[112,114,102,117,109]⟩:ByteArray) else (bx b c).1.extract 0 2++(⟨#[117]⟩:ByteArray)++(bx b c).1.extract 2 (bx b c).1.size) ∧
  ((¬c=2∨¬b=3)→lq (bx b c).1 (⟨#[116,114]⟩:ByteArray)=(bx b c).1.extract 0 2++(⟨#[116,114]⟩:ByteArray)++(bx b c).1.extract 3 (bx b c).1.size):=by
 have h1:b=0∨b=1∨b=2∨b=3:=by omega
 have h2:c=0∨c=1∨c=2∨c=3:=by omega
 rcases h1 with rfl | rfl | rfl | rfl<;>rcases h2 with rfl | rfl | rfl | rfl<;>first | (exfalso;omega) | decide +kernel
theorem Qr {x:Ins} (q:PlB x) (hi:x.op=21→nU x=true∧0≤x.ra∧x.ra≤3) (ho:20≤x.op∧x.op≤22):cB x=bz x:=by
 have q1:=q.tr
 obtain ⟨op,xx,ss,rd,rn,rm,ra,a,b,c⟩:=x
 simp only at ho q1 hi
 have hop:op=20∨op=21∨op=22:=by omega
 rcases hop with rfl | rfl | rfl
 ·rfl
 ·obtain ⟨q1,q2,q3⟩:=q1 (by decide) (by decide)
  obtain ⟨h1,h2⟩:=hi rfl
  have hp:=MQ q1 q2 q3
  have hr:ra=0∨ra=1∨ra=2∨ra=3:=by omega
  rcases hr with rfl | rfl | rfl | rfl
  ·exact jP hp.1 rfl
  ·rfl
  ·refine jP (hp.2 ?_) rfl
   unfold nU at h1
   simp only [Bool.and_eq_true,decide_eq_true_eq] at h1
   omega
  ·rfl
 ·rfl
theorem N1 {x:Ins} (q:PlB x) (hb:x.op=18→0≤x.b) (he:x.op=23→dS x=true) (ho:x.op=18∨x.op=19∨x.op=23):cH x=bz x:=by
 have q1:=q.pairB
 have q2:=q.ex
 obtain ⟨op,xx,ss,rd,rn,rm,ra,a,b,c⟩:=x
 simp only at ho q1 q2 hb he
 rcases ho with rfl | rfl | rfl
 ·have:=hb rfl
  have e:decide (0<b)=decide (¬b=0):=by
   rw [decide_eq_decide]
   omega
  show (_,[if b=3 then oOf 8 rd else ah rd (decide (0<b)),_])=(_,[if b=3 then oOf 8 rd else ah rd (decide (¬b=0)),_])
  rw [e]
 ·obtain ⟨h1,h2,h3⟩:=q1 rfl
  have hb:b=0∨b=1∨b=2:=by omega
  have hc:c=0∨c=1∨c=2∨c=3:=by omega
  rcases hb with rfl | rfl | rfl<;>rcases hc with rfl | rfl | rfl | rfl<;>cases ss<;>first | (exfalso;have:=h3 rfl;simp at this;done) | exact jP (by first | rfl | (dsimp only;decide +kernel) | (unfold iT exN;dsimp only;decide +kernel)) rfl
 ·obtain ⟨h1,h2⟩:=q2 rfl
  have h3:=he rfl
  have ha:a=0∨a=1∨a=2:=by omega
  have hb:b=0∨b=1∨b=2∨b=3:=by omega
  rcases ha with rfl | rfl | rfl<;>rcases hb with rfl | rfl | rfl | rfl<;>cases ss<;>cases xx<;>first | exact jP (by first | rfl | (dsimp only;decide +kernel) | (unfold iT exN;dsimp only;decide +kernel)) rfl | (exfalso;unfold dS at h3;simp at h3;done)
theorem KU (x:Ins) (nm:ByteArray):((nm,[ah x.rd x.x,ah x.rn x.x,shF x]):cE)=(nm,cK x [dO x,nO x,mO x]):=by
 refine jP rfl ?_
 unfold shF cK
 by_cases h:x.a=0∧x.c=0
 ·rw [if_pos h,if_neg (by omega)]
  rfl
 ·rw [if_neg h,if_pos (by omega)]
  rfl
theorem MC {x:Ins} (q:PlB x) (ho:24≤x.op∧x.op≤27):iF x=bz x:=by
 obtain ⟨op,xx,ss,rd,rn,rm,ra,a,b,c⟩:=x
 simp only at ho
 have fl:∀ l:List ByteArray,cJ (ae b l) ss (⟨#[115]⟩:ByteArray)=ae b l++ae (aU ss) [emp,(⟨#[115]⟩:ByteArray)]:=by
  intro l
  cases ss
  ·exact (zU _).symm
  ·rfl
 have hop:op=24∨op=25∨op=26∨op=27:=by omega
 rcases hop with rfl | rfl | rfl | rfl
 ·exact KU ⟨24,xx,ss,rd,rn,rm,ra,a,b,c⟩ _
 ·refine Eq.trans (jP (fl _) rfl) (KU ⟨25,xx,ss,rd,rn,rm,ra,a,b,c⟩ _)
 ·exact jP (fl _) (by cases ss<;>rfl)
 ·exact jP (fl _) rfl
theorem Io {x:Ins} (q:PlB x) (h32:x.op=32→(x.x=true∨x.b≤1)∧0≤x.b) (h31:x.op=31→fk x=true) (ho:28≤x.op∧x.op≤32):cj x=bz x:=by
 have q1:=q.two
 obtain ⟨op,xx,ss,rd,rn,rm,ra,a,b,c⟩:=x
 simp only at ho q1 h32 h31
 have hop:op=28∨op=29∨op=30∨op=31∨op=32:=by omega
 rcases hop with rfl | rfl | rfl | rfl | rfl
 ·rfl
 ·rfl
 ·rfl
 ·have h1:=q1 rfl
  have h2:=h31 rfl
  unfold fk at h2
  simp only at h2
  have hb:b=2∨b=3∨b=8∨b=9∨b=10∨b=11∨b=16∨b=17∨b=18∨b=19∨b=20∨b=21∨b=22∨b=23:=by
   split at h2
   ·omega
   ·split at h2
    ·omega
    ·split at h2
     ·omega
     ·cases h2
  rcases hb with rfl | rfl | rfl | rfl | rfl | rfl | rfl | rfl | rfl | rfl | rfl | rfl | rfl | rfl<;>exact jP (by first | rfl | (dsimp only;decide +kernel) | (unfold iT exN;dsimp only;decide +kernel)) rfl
 ·obtain ⟨h1,h2⟩:=h32 rfl
  by_cases b0:b=0
  ·subst b0;rfl
  by_cases b1:b=1
  ·subst b1;rfl
  have hx:xx=true:=by rcases h1 with h | h;exact h;omega
  subst hx
  by_cases b4:b=4
  ·subst b4;rfl
  by_cases b7:b=7
  ·subst b7;rfl
  have e1:cj ⟨32,true,ss,rd,rn,rm,ra,a,b,c⟩=(g7 ⟨32,true,ss,rd,rn,rm,ra,a,b,c⟩,[ah rd true,ah rn false,ah rm false,ah ra true]):=by simp [cj,b0,b1,b4,b7]
  have e2:bz ⟨32,true,ss,rd,rn,rm,ra,a,b,c⟩=bM ⟨32,true,ss,rd,rn,rm,ra,a,b,c⟩:=rfl
  have lt:¬b<2:=by omega
  rw [e1,e2]
  simp [bM,lt,b4,b7]
theorem BP {x:Ins} (h:ay x=0):bt x=bz x:=by
 have q:=eK h
 obtain ⟨h1,h2⟩:=jF h
 have hc:=OF h1
 have ha:=jT h1
 have ho:=q.op
 have th21:x.op=21→nU x=true:=fun e=>by simpa [de,e] using h2
 have th23:x.op=23→dS x=true:=fun e=>by simpa [de,e] using h2
 have th31:x.op=31→fk x=true:=fun e=>by simpa [de,e] using h2
 have th32:x.op=32→(x.x=true∨x.b≤1):=fun e=>by
  have:=h2
  simp [de,e] at this
  exact this.1
 have b0:(x.op=18∨x.op=32)→0≤x.b:=by
  intro e
  have:∀ f∈an x.op,gv x f=true:=List.all_eq_true.1 ha
  have hm:(8,0,(if x.op=18 then 3 else 7))∈an x.op:=by rcases e with e | e<;>(rw [e];decide)
  have h3:=this _ hm
  unfold gv at h3
  rw [Bool.and_eq_true,decide_eq_true_eq] at h3
  exact h3.1
 unfold bt
 split
 ·rename_i c1;exact Jc q c1
 split
 ·exact MK q (by omega)
 split
 ·exact K3 q (by omega)
 split
 ·rename_i c1;exact Qr q (fun e=>⟨th21 e,hc.2.1 e⟩) c1
 split
 ·exact N1 q (fun e=>b0 (.inl e)) th23 (by omega)
 split
 ·exact MC q (by omega)
 ·exact Io q (fun e=>⟨th32 e,b0 (.inr e)⟩) th31 (by omega)
end
end Go.Proofs.YtpjlafmhoifkmaaGreat
