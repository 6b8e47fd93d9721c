import Derived.Test.YtnhbidpdadkcjaaGreatDoorG29
import Derived.Laws.BitsLemmas
import Derived.Shelf.Pu.RangeError
import Derived.Lib.IfaceEq
open Go.RowKit
set_option linter.unusedVariables false
set_option linter.unusedSimpArgs false
set_option maxRecDepth 100000
set_option maxHeartbeats 8000000
open List (length_drop drop_drop append_nil)
open Nat (zero_le)
namespace Go.Proofs.YtnhbidpdadkcjaaGreatDoor
open Tryz
namespace Ly
theorem Gv (n:Int)(w:World) :
  Calls prog 147 #[.int .u8 n] w fun e w'=>e=.returned (.bool (an n))∧w=w':=by
 go_enter func147,ntmps147;go_wp2
 all_goals (go_ret;refine⟨eJ ?_,rfl⟩;rw[Bool.eq_iff_iff];simp[an];try omega)
theorem IK (n:Int)(w:World) :
  Calls prog 145 #[.int .u8 n] w fun e w'=>e=.returned (.bool (g9 n))∧w=w':=by
 go_enter func145,ntmps145;go_wp2
 all_goals (go_ret;refine⟨eJ ?_,rfl⟩;rw[Bool.eq_iff_iff];simp[g9];try omega)
theorem AR (args:Array Value)(w:World):(callFunc 147 args).run prog w=.ok (.enter 147 args) w:=by go_simp
theorem II (s:ByteArray)(w:World)(hs:s.size≤maxLen) :
  Calls prog 117 #[.string s,.func (.func 147) #[] #[]] w fun e w'=>e=.returned (.int .i64 (qE an s.data.toList))∧w=w' :=
 FO _ _ AR Gv s w hs
theorem ju (g:Int→Bool):∀l:List UInt8,qE g l=aS g (l.map fun b=>(b.toNat:Int))
 |[]=>rfl
 |c::l=>by rw[List.map_cons,gm,←ju g l];unfold qE;rw[List.takeWhile_cons];split<;>simp[Nat.add_comm, *]
abbrev NW:am prog 116:=xj _ (asP fun _ _=>by go_simp) (bq .u8) (fun _=>True) (fun c=>bv (ce c)) (asP fun _=>rfl) <| asP fun s hs M w v _ hv=>by
 obtain rfl:v=.int .u8 s:=hv;exact(kP s w).mono fun e w' ⟨h1,h2⟩=>⟨⟨_,h1,rfl⟩,h2▸.refl _ _⟩
abbrev JV:am prog 165:=xj _ (asP fun _ _=>by go_simp) (bq .u8) (fun _=>True) (fun c=>bv (dM c)) (asP fun _=>rfl) <| asP fun s hs M w v _ hv=>by
 obtain rfl:v=.int .u8 s:=hv;exact(sw s w).mono fun e w' ⟨h1,h2⟩=>⟨⟨_,h1,rfl⟩,h2▸.refl _ _⟩
abbrev Sk:am prog 118:=xj _ tH (bq .u8) (fun _=>True) (fun c=>bv (aM c)) (asP fun _=>rfl) <| asP fun s hs M w v _ hv=>by
 obtain rfl:v=.int .u8 s:=hv;exact(yJ s w).mono fun e w' ⟨h1,h2⟩=>⟨⟨_,h1,rfl⟩,h2▸.refl _ _⟩
abbrev EK:am prog 145:=xj _ (asP fun _ _=>by go_simp) (bq .u8) (fun _=>True) (fun c=>bv (g9 c)) (asP fun _=>rfl) <| asP fun s hs M w v _ hv=>by
 obtain rfl:v=.int .u8 s:=hv;exact(IK s w).mono fun e w' ⟨h1,h2⟩=>⟨⟨_,h1,rfl⟩,h2▸.refl _ _⟩
abbrev Kg:am prog 249 :=
 mz1 func249 (bq .u8) ((fun c=>0≤c∧c≤255)) ((fun c=>.ret (iv (aA c)))) (asP fun c hc=>by
 refine aq [⟨_,JV⟩] rfl ?_;by_cases h1:48≤c∧c≤57
 ·have hd:dM c=true:=by simp[dM,h1]
  have e1:IntKind.u8.wrap (c-48)=c-48:=by rw[IntKind.wrap_u8];omega
  have e2:IntKind.i64.wrap (c-48)=c-48:=by rw[IntKind.wrap_i64];omega
  have e3:aA c=c-48:=by unfold aA;rw[if_pos h1]
  simp only[go_sem,hd,e1,e2,e3]
 ·have hd:dM c=false:=by simp[dM];omega
  by_cases h2:97≤c
  ·by_cases h3:c≤102
   ·have e1:IntKind.u8.wrap (c-97)=c-97:=by rw[IntKind.wrap_u8];omega
    have e2:IntKind.i64.wrap (c-97)=c-97:=by rw[IntKind.wrap_i64];omega
    have e4:IntKind.i64.wrap (c-97+10)=c-97+10:=by rw[IntKind.wrap_i64];omega
    have e3:aA c=c-97+10:=by unfold aA;rw[if_neg h1,if_pos ⟨h2,h3⟩];omega
    simp only[go_sem,hd,h2,h3,e1,e2,e4,e3]
   ·have h5:(65:Int)≤c:=by omega
    have h6:¬c≤70:=by omega
    have e3:aA c=16:=by unfold aA;rw[if_neg h1,nG,nG]
    simp only[go_sem,hd,h2,h3,h5,h6,e3]
  ·by_cases h5:65≤c
   ·by_cases h6:c≤70
    ·have e1:IntKind.u8.wrap (c-65)=c-65:=by rw[IntKind.wrap_u8];omega
     have e2:IntKind.i64.wrap (c-65)=c-65:=by rw[IntKind.wrap_i64];omega
     have e4:IntKind.i64.wrap (c-65+10)=c-65+10:=by rw[IntKind.wrap_i64];omega
     have e3:aA c=c-65+10:=by unfold aA;rw[if_neg h1,nG,if_pos ⟨h5,h6⟩];omega
     simp only[go_sem,hd,h2,h5,h6,e1,e2,e4,e3]
    ·have e3:aA c=16:=by unfold aA;rw[if_neg h1,nG,nG]
     simp only[go_sem,hd,h2,h5,h6,e3]
   ·have e3:aA c=16:=by unfold aA;rw[if_neg h1,nG,nG]
    simp only[go_sem,hd,h2,h5,e3])
def G9 (f:FuncId):Int→Bool:=if f=118 then aM else an
abbrev Rz:am prog 117:=Bv _ (asP fun _ _=>by go_simp) aT tFn (fun s f=>s.size≤maxLen∧(f=118∨f=147)) (fun s f=>iv (aS (G9 f) (aa s))) (asP fun _ _=>rfl) <| asP fun s f hs M w u v _ hu hv=>by
 obtain rfl:u=.string s:=hu;obtain rfl:v=.func (.func f) #[] #[]:=hv;obtain⟨hs,rfl | rfl⟩:=hs
 ·refine(tf s w hs).mono fun e w' ⟨h1,h2⟩=>⟨⟨_,h1,?_⟩,h2▸.refl _ _⟩;rw[ju];rfl
 ·refine(II s w hs).mono fun e w' ⟨h1,h2⟩=>⟨⟨_,h1,?_⟩,h2▸.refl _ _⟩;rw[ju];rfl
theorem nameB_nameL (s:ByteArray):tR s=dJ (aa s):=by
 have hl:(aa s).length=s.size:=ae s;rcases Nat.eq_zero_or_pos s.size with h | h
 ·rw[←sJ h];unfold dJ;rw[hl,h];rfl
 ·rw[np h];unfold dJ;rw[hl,ju]
  have h0:bAt (aa s) 0=(s[0].toNat:Int):=by
   have:=cH h;rw[←ig];unfold ab;rw[List.getD_eq_getElem?_getD,show Int.toNat 0=0 from rfl,List.getElem?_eq_getElem (by simpa using h)];rfl
  rw[h0];simp[h,aa];rfl
theorem zh (args:Array Value)(w:World):(callFunc 54 args).run prog w=.ok (.enter 54 args) w:=by go_simp
def vX:am prog 54:=xj _ zh aT (fun s=>s.size≤maxLen) (fun s=>bv (dJ (aa s))) (fun _=>rfl) fun s hs M w v _ hv=>by
 obtain rfl:v=.string s:=hv;refine(vY s w hs).mono fun e w' ⟨h1,h2⟩=>⟨⟨_,h1,?_⟩,h2▸.refl _ _⟩;rw[nameB_nameL];rfl
theorem g8 {id:Nat}{h:ag}{args:List AV}:vX.run id h args=fT (cE aT (fun s=>s.size≤maxLen)) (fun s=>.ret (bv (dJ (aa s)))) h args:=rfl
theorem ek {id:Nat}{h:ag}{args:List AV}:vX.pan id h args=gh (cE aT (fun s=>s.size≤maxLen)) (fun s=>.ret (bv (dJ (aa s)))) h args:=rfl
theorem PP {s:ByteArray}(h:¬s=emp):0<s.size:=by
 rcases Nat.eq_zero_or_pos s.size with h0 | h0
 ·exact absurd (eS (List.eq_nil_of_length_eq_zero (by rw[ae];exact h0))) h
 ·exact h0
theorem jB (s:ByteArray)(c:Int)(w:World) :
  Calls prog 89 #[.string s,.int .u8 c] w fun e w'=>e=.returned (.int .i64 (Lib.indexByte s.data.toList c.toNat.toUInt8))∧w'=w:=by
 go_enter func89,ntmps89;go_wp2;rw[run_callFunc_extern func142 (by kernel_rfl) (by kernel_rfl) (by kernel_rfl) (e:=Extern.BytealgIndexByte.indexByte) (by kernel_rfl),Lib.run_indexByteString];simp only[Result.andThen];rw[Oper.upon_value];go_wp2;go_ret;exact⟨rfl,rfl⟩
theorem Bd (s:ByteArray)(c:Int)(w:World) :
  Calls prog 38 #[.string s,.int .u8 c] w fun e w'=>e=.returned (.int .i64 (Lib.indexByte s.data.toList c.toNat.toUInt8))∧w'=w:=by
 go_enter func38,ntmps38
 go_wp2_with (go_at_call 89;refine(jB _ _ _).mono ?_;rintro e w' ⟨rfl,rfl⟩)
 go_ret;exact⟨rfl,rfl⟩
def nW (s:ByteArray)(c:Int):Int:=Lib.indexByte s.data.toList c.toNat.toUInt8
abbrev Ki:am prog 38:=Bv _ (asP fun _ _=>by go_simp) aT (bq .u8) (fun _ _=>True) (fun s c=>iv (nW s c)) (asP fun _ _=>rfl) <| asP fun s c hs M w u v _ hu hv=>by
 obtain rfl:u=.string s:=hu;obtain rfl:v=.int .u8 c:=hv;exact(Bd s c w).mono fun e w' ⟨h1,h2⟩=>⟨⟨_,h1,rfl⟩,h2▸.refl _ _⟩
theorem G7 (c:Int)(hc:0≤c∧c≤255):0≤nW wF c↔c∈pk:=by
 have:∀n:Nat,n<256→(0≤nW wF (n:Int)↔(n:Int)∈pk):=by decide +kernel
 have:=this c.toNat (by omega)
 rwa [Int.toNat_of_nonneg hc.1]at this
abbrev S7:am prog 98 :=
 mz2 func98 (aT) (aT) ((fun _ _=>True)) ((fun s p=>.ret (bv (bY s p)))) (asP fun s p _=>by
 refine aq [] rfl ?_;by_cases h:p.size≤s.size
 ·have hI:(p.size:Int)≤s.size:=by omega
  by_cases h2:s.extract 0 p.size=p
  ·simp only[go_sem,hI,Int.toNat_zero,h2,bY,h]
  ·simp only[go_sem,hI,Int.toNat_zero,h2,bY,h]
 ·have hI:¬(p.size:Int)≤s.size:=by omega
  simp only[go_sem,hI,bY,h,Bool.false_and])
theorem zg (args:Array Value)(w:World):(callFunc 47 args).run prog w=.ok (.enter 47 args) w:=by go_simp
def oG:am prog 47 :=
 mk2 _ _ _ func47 rfl zg (aT) (aT) ((fun _ _=>True)) ((fun s p=>.ret (bv (bY s p)))) (by rw[ntmps47];decide) (fun s p _=>by
 refine aq [⟨_,S7⟩] rfl ?_;simp only[go_sem])
theorem cw {id:Nat}{h:ag}{args:List AV}:(oG).run id h args=fT (e9 (aT) (aT) ((fun _ _=>True))) (fun x=>((fun s p=>.ret (bv (bY s p)))) x.1 x.2) h args:=rfl
theorem cv {id:Nat}{h:ag}{args:List AV}:(oG).pan id h args=gh (e9 (aT) (aT) ((fun _ _=>True))) (fun x=>((fun s p=>.ret (bv (bY s p)))) x.1 x.2) h args:=rfl
theorem Ba (s:ByteArray)(c d:Int)(hc:0≤c∧c≤255)(hd:0≤d∧d≤255):bY s (ao [c,d])=decide (1<(aa s).length∧bAt (aa s) 0=c∧bAt (aa s) 1=d):=by
 have hb:aa (ao [c,d])=[c,d]:=bB (by intro z hz;simp at hz;omega);rw[Bool.eq_iff_iff,sE,hb,decide_eq_true_eq];constructor
 ·rintro⟨t,ht⟩;rw[ht];exact⟨by simp,rfl,rfl⟩
 ·rintro⟨h1,h2,h3⟩;cases hs:aa s with
  |nil=>rw[hs]at h1;simp at h1
  |cons x t =>
   cases t with
   |nil=>rw[hs]at h1;simp at h1
   |cons y t =>
    rw[hs]at h2 h3;exact⟨t,by rw[←h2,←h3];rfl⟩
theorem DD (args:Array Value)(w:World):(callFunc 232 args).run prog w=.ok (.enter 232 args) w:=by go_simp
def Cu:am prog 232 :=
 mk1 _ _ _ func232 rfl DD (aT) ((fun _=>True)) ((fun s=>.ret (iv (ba (aa s))))) (by rw[ntmps232];decide) (fun s _=>by
 refine aq [⟨_,oG⟩,⟨_,Ki⟩] rfl ?_;have hl:(aa s).length=s.size:=ae s;have h1:bY s ⟨#[60,60]⟩=decide (1<s.size∧bAt (aa s) 0=60∧bAt (aa s) 1=60):=by rw[←hl];exact Ba s 60 60 (by omega) (by omega)
 have h2:bY s ⟨#[62,62]⟩=decide (1<s.size∧bAt (aa s) 0=62∧bAt (aa s) 1=62):=by rw[←hl];exact Ba s 62 62 (by omega) (by omega)
 by_cases c1:1<s.size∧bAt (aa s) 0=60∧bAt (aa s) 1=60
 ·have e:ba (aa s)=2:=by unfold ba;rw[pS]
  rw[decide_eq_true c1]at h1;simp only[go_sem,cw,cv,h1,e]
 ·rw[decide_eq_false c1]at h1;by_cases c2:1<s.size∧bAt (aa s) 0=62∧bAt (aa s) 1=62
  ·have e:ba (aa s)=2:=by unfold ba;rw[pS]
   rw[decide_eq_true c2]at h2;simp only[go_sem,cw,cv,h1,h2,e]
  ·rw[decide_eq_false c2]at h2;by_cases h0:s=emp
   ·subst h0;have e:ba (aa emp)=0:=rfl;simp only[go_sem,cw,cv,h1,h2,e,ak]
   ·have hne:¬s=emp:=h0;have hp:0<s.size:=PP h0;have hpI:(0:Int)<s.size:=by omega
    have hr:=ca s 0;have hi:=G7 (ab s 0) hr;have hb:ab s 0=bAt (aa s) 0:=ig s;by_cases c3:ab s 0∈pk
    ·have e:ba (aa s)=1:=by unfold ba;rw[nG,if_pos ⟨by omega,by rw[←hb];exact c3⟩]
     have hge:=hi.2 c3;unfold wF at hge;simp only[go_sem,cw,cv,h1,h2,e,hne,ak,hpI,hge]
    ·have e:ba (aa s)=0:=by unfold ba;rw[nG,if_neg (by rw[←hb];exact fun h=>c3 h.2)]
     have hge:¬0≤nW wF (ab s 0):=fun h=>c3 (hi.1 h);unfold wF at hge;simp only[go_sem,cw,cv,h1,h2,e,hne,ak,hpI,hge])
theorem zS {id:Nat}{h:ag}{args:List AV}:(Cu).run id h args=fT (cE (aT) ((fun _=>True))) ((fun s=>.ret (iv (ba (aa s))))) h args:=rfl
theorem zR {id:Nat}{h:ag}{args:List AV}:(Cu).pan id h args=gh (cE (aT) ((fun _=>True))) ((fun s=>.ret (iv (ba (aa s))))) h args:=rfl
end Ly
namespace Ly
theorem mixed:Tryz.prog.follows .mixedOrders=true:=by kernel_rfl
abbrev pj:am prog 144 :=
 mz1 func144 (bq .u8) ((fun _=>True)) ((fun c=>.ret (.s (.l (.v (.int .u8 (cU c))))))) (asP fun c _=>by
 refine aq [] rfl ?_;by_cases h0:c=0
 ·subst h0;simp only[go_sem,cU]
 by_cases h1:c=9
 ·subst h1;simp only[go_sem,cU]
 by_cases h2:c=10
 ·subst h2;simp only[go_sem,cU]
 by_cases h3:c=13
 ·subst h3;simp only[go_sem,cU]
 by_cases h4:c=34
 ·subst h4;simp only[go_sem,cU]
 by_cases h5:c=92
 ·subst h5;simp only[go_sem,cU]
 have e:cU c=0:=by unfold cU;simp only[h0,h1,h2,h3,h4,h5,or_self,if_false]
 simp only[go_sem,h0,h1,h2,h3,h4,h5,e])
theorem th {s:ByteArray}{i:Nat}(h:i<s.size):(aa s).take (i+1)=(aa s).take i++[ab s i]:=by
 rw[List.take_add_one,cH h];rfl
theorem qA (c:Int):(fD c).length≤4:=by
 unfold fD;split
 ·simp
 ·split<;>simp
theorem nz:∀l:List Int,(gZ l).length≤4*l.length
 |[]=>by simp[gZ]
 |c::l=>by
  have h1:=nz l;have h2:=qA c;have:gZ (c::l)=fD c++gZ l:=rfl;rw[this,List.length_append,List.length_cons];omega
def b8 (z:Int):SV:=.l (.v (.int .u8 z))
def iE (l:List Int):AV:=match lp l with
 |some p=>.tup [.l (.v (.int .u8 p.1)),.l (.v (.int .i64 p.2))]
 |none=>.tup [.l (.v (.int .u8 0)),.l (.v (.int .i64 0))]
theorem UI:∀a:Nat,a<16→∀b:Nat,b<16→bits .or .i64 ((a:Int)*16) (b:Int)=16*(a:Int)+(b:Int):=by decide +kernel
def Qm (b:Int)(i:Nat):Prop:=i≤6∧(0<i→¬48=b)∧(1<i→¬116=b)∧(2<i→¬110=b)∧(3<i→¬114=b)∧(4<i→¬34=b)∧(5<i→¬92=b)
theorem DE (s:ByteArray):Sw f251 0 ⟨0,ax 0 [aT.enc s],[]⟩ (oQ f251 (.ret (iE (aa s)))):=by
 refine aq [⟨_,pj⟩,⟨_,Kg⟩] rfl ?_;have hl:(aa s).length=s.size:=ae s;by_cases h0:s=emp
 ·subst h0;have e:iE (aa emp)=.tup [.l (.v (.int .u8 0)),.l (.v (.int .i64 0))]:=rfl;simp only[go_sem,ak,e]
 have hne:¬s=emp:=h0;have hp:0<s.size:=PP h0;have hpI:(0:Int)<s.size:=by omega
 have hr0:=ca s 0;have hb0:=ig s;have hb1:=tB s;have hb2:=tC s;have hz:¬(aa s).length=0:=by omega
 simp only[go_sem,hne,ak];refine bF (ι:=Nat) (Qm (ab s 0)) (fun i=>⟨1,[(0,sv s),(8,.s (.l (.sl 0 0 6))),(9,iv 6),(10,iv i)],[(0,some (ci [0,9,10,13,34,92]))]⟩) (fun i=>6-i) 0 ⟨by omega,by omega,by omega,by omega,by omega,by omega,by omega⟩ ?_ ?_
 ·exact wR [64]
 rintro i ⟨hi,i0,i1,i2,i3,i4,i5⟩;refine aw [⟨_,pj⟩,⟨_,Kg⟩] ?_;have hcase:i=0∨i=1∨i=2∨i=3∨i=4∨i=5∨i=6:=by omega
 rcases hcase with rfl | rfl | rfl | rfl | rfl | rfl | rfl
 ·have e1:cU 0=48:=rfl;simp only[go_sem,ci,au];refine sD mixed [⟨_,pj⟩] [] ?_;by_cases hc:(48:Int)=ab s 0
  ·have e:iE (aa s)=.tup [.l (.v (.int .u8 0)),.l (.v (.int .i64 1))]:=by unfold iE lp;rw[if_neg hz,←hb0,←hc];rfl
   simp only[go_sem,ci,au,e1,hpI,eq_true hc,e]
  ·have ei:IntKind.i64.wrap (0+1)=1:=by rfl
   simp only[go_sem,ci,au,e1,hpI,hc,ei];exact⟨1,⟨by omega,fun _=>hc,fun h=>absurd h (by omega),fun h=>absurd h (by omega),fun h=>absurd h (by omega),fun h=>absurd h (by omega),fun h=>absurd h (by omega)⟩,by omega,wR [0]⟩
 ·have e1:cU 9=116:=rfl;simp only[go_sem,ci,au];refine sD mixed [⟨_,pj⟩] [] ?_;by_cases hc:(116:Int)=ab s 0
  ·have e:iE (aa s)=.tup [.l (.v (.int .u8 9)),.l (.v (.int .i64 1))]:=by unfold iE lp;rw[if_neg hz,←hb0,←hc];rfl
   simp only[go_sem,ci,au,e1,hpI,eq_true hc,e]
  ·have ei:IntKind.i64.wrap (1+1)=2:=by rfl
   simp only[go_sem,ci,au,e1,hpI,hc,ei];exact⟨2,⟨by omega,fun _=>i0 (by omega),fun _=>hc,fun h=>absurd h (by omega),fun h=>absurd h (by omega),fun h=>absurd h (by omega),fun h=>absurd h (by omega)⟩,by omega,wR [0]⟩
 ·have e1:cU 10=110:=rfl;simp only[go_sem,ci,au];refine sD mixed [⟨_,pj⟩] [] ?_;by_cases hc:(110:Int)=ab s 0
  ·have e:iE (aa s)=.tup [.l (.v (.int .u8 10)),.l (.v (.int .i64 1))]:=by unfold iE lp;rw[if_neg hz,←hb0,←hc];rfl
   simp only[go_sem,ci,au,e1,hpI,eq_true hc,e]
  ·have ei:IntKind.i64.wrap (2+1)=3:=by rfl
   simp only[go_sem,ci,au,e1,hpI,hc,ei];exact⟨3,⟨by omega,fun _=>i0 (by omega),fun _=>i1 (by omega),fun _=>hc,fun h=>absurd h (by omega),fun h=>absurd h (by omega),fun h=>absurd h (by omega)⟩,by omega,wR [0]⟩
 ·have e1:cU 13=114:=rfl;simp only[go_sem,ci,au];refine sD mixed [⟨_,pj⟩] [] ?_;by_cases hc:(114:Int)=ab s 0
  ·have e:iE (aa s)=.tup [.l (.v (.int .u8 13)),.l (.v (.int .i64 1))]:=by unfold iE lp;rw[if_neg hz,←hb0,←hc];rfl
   simp only[go_sem,ci,au,e1,hpI,eq_true hc,e]
  ·have ei:IntKind.i64.wrap (3+1)=4:=by rfl
   simp only[go_sem,ci,au,e1,hpI,hc,ei];exact⟨4,⟨by omega,fun _=>i0 (by omega),fun _=>i1 (by omega),fun _=>i2 (by omega),fun _=>hc,fun h=>absurd h (by omega),fun h=>absurd h (by omega)⟩,by omega,wR [0]⟩
 ·have e1:cU 34=34:=rfl;simp only[go_sem,ci,au];refine sD mixed [⟨_,pj⟩] [] ?_;by_cases hc:(34:Int)=ab s 0
  ·have e:iE (aa s)=.tup [.l (.v (.int .u8 34)),.l (.v (.int .i64 1))]:=by unfold iE lp;rw[if_neg hz,←hb0,←hc];rfl
   simp only[go_sem,ci,au,e1,hpI,eq_true hc,e]
  ·have ei:IntKind.i64.wrap (4+1)=5:=by rfl
   simp only[go_sem,ci,au,e1,hpI,hc,ei];exact⟨5,⟨by omega,fun _=>i0 (by omega),fun _=>i1 (by omega),fun _=>i2 (by omega),fun _=>i3 (by omega),fun _=>hc,fun h=>absurd h (by omega)⟩,by omega,wR [0]⟩
 ·have e1:cU 92=92:=rfl;simp only[go_sem,ci,au];refine sD mixed [⟨_,pj⟩] [] ?_;by_cases hc:(92:Int)=ab s 0
  ·have e:iE (aa s)=.tup [.l (.v (.int .u8 92)),.l (.v (.int .i64 1))]:=by unfold iE lp;rw[if_neg hz,←hb0,←hc];rfl
   simp only[go_sem,ci,au,e1,hpI,eq_true hc,e]
  ·have ei:IntKind.i64.wrap (5+1)=6:=by rfl
   simp only[go_sem,ci,au,e1,hpI,hc,ei];exact⟨6,⟨by omega,fun _=>i0 (by omega),fun _=>i1 (by omega),fun _=>i2 (by omega),fun _=>i3 (by omega),fun _=>i4 (by omega),fun _=>hc⟩,by omega,wR [0]⟩
 ·have hL:Bq (bAt (aa s) 0)=none:=by
   rw[←hb0];have a0:=i0 (by omega);have a1:=i1 (by omega);have a2:=i2 (by omega);have a3:=i3 (by omega);have a4:=i4 (by omega);have a5:=i5 (by omega);unfold Bq;rw[nG,nG,nG,nG,nG]
  have hF:lp (aa s)=if 2<(aa s).length∧bAt (aa s) 0=120∧aA (bAt (aa s) 1)<16∧aA (bAt (aa s) 2)<16 then some (16*aA (bAt (aa s) 1)+aA (bAt (aa s) 2),3) else none:=by
   unfold lp;rw[if_neg hz,hL]
  by_cases c1:s.size<3
  ·have c1I:(s.size:Int)<3:=by omega
   have e:iE (aa s)=.tup [.l (.v (.int .u8 0)),.l (.v (.int .i64 0))]:=by unfold iE;rw[hF,nG]
   simp only[go_sem,ci,au,c1I,e]
  have c1I:¬(s.size:Int)<3:=by omega
  have p1:(1:Int)<s.size:=by omega
  have p2:(2:Int)<s.size:=by omega
  have hr1:=ca s 1;have hr2:=ca s 2;by_cases c2:ab s 0=120
  case neg =>
   have e:iE (aa s)=.tup [.l (.v (.int .u8 0)),.l (.v (.int .i64 0))]:=by unfold iE;rw[hF,nG]
   simp only[go_sem,ci,au,c1I,hpI,c2,e]
  by_cases c3:aA (ab s 1) > 15
  ·have c3':(15:Int)<aA (ab s 1):=by omega
   have e:iE (aa s)=.tup [.l (.v (.int .u8 0)),.l (.v (.int .i64 0))]:=by unfold iE;rw[hF,if_neg (by rw[←hb1];omega)]
   simp only[go_sem,ci,au,c1I,hpI,p1,c2,c3',hr1,e]
  have c3':¬(15:Int)<aA (ab s 1):=by omega
  by_cases c4:aA (ab s 2) > 15
  ·have c4':(15:Int)<aA (ab s 2):=by omega
   have e:iE (aa s)=.tup [.l (.v (.int .u8 0)),.l (.v (.int .i64 0))]:=by unfold iE;rw[hF,if_neg (by rw[←hb2];omega)]
   simp only[go_sem,ci,au,c1I,hpI,p1,p2,c2,c3',c4',hr1,hr2,e]
  have c4':¬(15:Int)<aA (ab s 2):=by omega
  have q1:=jn (ab s 1);have q2:=jn (ab s 2)
  have e:iE (aa s)=.tup [.l (.v (.int .u8 (16*aA (ab s 1)+aA (ab s 2)))),.l (.v (.int .i64 3))]:=by
   unfold iE;rw[hF,if_pos (by rw[←hb0,←hb1,←hb2];omega),hb1,hb2];rfl
  have g1:IntKind.i64.wrap (aA (ab s 1)*2 ^ min 4 IntKind.i64.bits)=aA (ab s 1)*16:=by
   rw[show(2:Int) ^ min 4 IntKind.i64.bits=16 from rfl,IntKind.wrap_i64];omega
  have g1':IntKind.i64.wrap (aA (ab s 1)*2 ^ min 4 64)=aA (ab s 1)*16:=g1
  have g2:bits .or .i64 (aA (ab s 1)*16) (aA (ab s 2))=16*aA (ab s 1)+aA (ab s 2):=by
   have:=UI (aA (ab s 1)).toNat (by omega) (aA (ab s 2)).toNat (by omega)
   rwa [Int.toNat_of_nonneg q1.1,Int.toNat_of_nonneg q2.1]at this
  have g3:IntKind.u8.wrap (16*aA (ab s 1)+aA (ab s 2))=16*aA (ab s 1)+aA (ab s 2):=by
   rw[IntKind.wrap_u8];omega
  simp only[go_sem,ci,au,c1I,hpI,p1,p2,c2,c3',c4',hr1,hr2];refine sD mixed [⟨_,Kg⟩] [] ?_;simp only[go_sem,p1,p2,hr1,hr2,g1,g1',g2,g3,e]
abbrev S6:am prog 251 :=
 mz1 func251 (aT) ((fun _=>True)) ((fun s=>.ret (iE (aa s)))) (asP fun s _=>DE s)
end Ly
namespace Ly
theorem Iv (s:ByteArray)(hs:s.size≤1099511627776):Sw f234 0 ⟨0,ax 0 [aT.enc s],[]⟩ (oQ f234 (.ret (oZ (aa s)))):=by
 refine aq [⟨_,S6⟩,⟨_,EK⟩] rfl ?_;simp only[go_sem];refine bF (ι:=Nat×List Int) (fun p=>BW s p.1 p.2∧p.1≤1099511627777) (fun p=>⟨1,[(0,sv s),(4,.s (.l (.sl 0 0 p.2.length))),(5,iv p.1)],[(0,some (ci p.2))]⟩) (fun p=>s.size+1-p.1) (1,[]) ⟨⟨by omega,by omega,by simp,by cases quotesL ((aa s).drop 1)<;>simp⟩,by omega⟩ ?_ ?_
 ·exact(Wk.nil 4 5 1 rfl).trans (wR [64])
 rintro⟨i,l⟩ ⟨hq,hi⟩;simp only at hq hi;refine aw [⟨_,S6⟩,⟨_,EK⟩] ?_;have h1:=hq.1;have h2:=hq.2.1;have h3:=hq.2.2.1;have hl:(aa s).length=s.size:=ae s;have ei:=wI i;have hmx:maxLen=9223372036854775807:=rfl;by_cases hlt:i<s.size
 ·have hltI:(i:Int)<s.size:=by omega
  have hr:=ca s i;have hdl:((aa s).drop i).length=s.size-i:=by rw[length_drop,hl]
  have hd0:bAt ((aa s).drop i) 0=ab s i:=by rw[fa,Nat.add_zero,gR]
  by_cases c1:ab s i=34
  ·have hst:dv ((aa s).drop i)=.stop:=by unfold dv;rw[nG,if_pos (by rw[hd0];exact c1)]
   have hF:=Et hq hst;have e:oZ (aa s)=.tup [.l (.v (.string (ao l))),.l (.v (.int .i64 ((i+1:Nat):Int)))]:=by unfold oZ;rw[hF]
   simp only[go_sem,ci,hltI,c1,ei,JQ,e]
  by_cases c2:ab s i=92
  ·have hsz:((i+1:Nat):Int)≤s.size:=by omega
   rcases he:lp ((aa s).drop (i+1)) with _ | ⟨x,n⟩
   ·have hst:dv ((aa s).drop i)=.bad:=by unfold dv;rw[nG,if_neg (by rw[hd0];exact c1),if_pos (by rw[hd0];exact c2),drop_drop,he]
    have hF:=sY hq hst;have e:oZ (aa s)=.tup [.l (.v (.string emp)),.l (.v (.int .i64 0))]:=by unfold oZ;rw[hF];rfl
    have e2:iE (aa (s.extract (i+1) s.size))=.tup [.l (.v (.int .u8 0)),.l (.v (.int .i64 0))]:=by unfold iE;rw[cC,he]
    simp only[go_sem,ci,hltI,c1,c2,ei,hsz,e2,e];rfl
   ·have hst:dv ((aa s).drop i)=.put x (n+1):=by unfold dv;rw[nG,if_neg (by rw[hd0];exact c1),if_pos (by rw[hd0];exact c2),drop_drop,he]
    have hk:=la hst;rw[hdl]at hk;have hn:=zk he;have hF:=yp hq hst;have e2:iE (aa (s.extract (i+1) s.size))=.tup [.l (.v (.int .u8 x)),.l (.v (.int .i64 n))]:=by unfold iE;rw[cC,he]
    have hn0:¬(n:Int)=0:=by omega
    have e3:IntKind.i64.wrap ((i:Int)+(n:Int))=((i+n:Nat):Int):=by rw[IntKind.wrap_i64];omega
    have e4:IntKind.i64.wrap (((i+n:Nat):Int)+1)=((i+n+1:Nat):Int):=by rw[IntKind.wrap_i64];omega
    have hm1:l.length+1≤maxLen:=by omega
    have hb1:(l.length+1)*1≤140737488355328:=by omega
    simp only[go_sem,ci,hltI,c1,c2,ei,hsz,e2,hn0,e3,e4,hm1,hb1];exact⟨(i+n+1,l++[x]),⟨hF,by simp only;omega⟩,by simp only;omega,Wk.renL [465] (by simp) (by simp) (by simp) (by simp[bI,AV.ren,SV.ren,LV.ren]) (by simp[ac,Blk.ren,au,LV.ren,Function.comp_def])⟩
  by_cases c3:g9 (ab s i)=true
  ·have hst:dv ((aa s).drop i)=.put (ab s i) 1:=by unfold dv;rw[nG,if_neg (by rw[hd0];exact c1),if_neg (by rw[hd0];exact c2),if_pos (by rw[hd0];exact c3),hd0]
   have hF:=yp hq hst;have hm1:l.length+1≤maxLen:=by omega
   have hb1:(l.length+1)*1≤140737488355328:=by omega
   simp only[go_sem,ci,hltI,c1,c2,c3,ei,hm1,hb1];exact⟨(i+1,l++[ab s i]),⟨hF,by simp only;omega⟩,by simp only;omega,Wk.renL [321] (by simp) (by simp) (by simp) (by simp[bI,AV.ren,SV.ren,LV.ren]) (by simp[ac,Blk.ren,au,LV.ren,Function.comp_def])⟩
  ·have c3':g9 (ab s i)=false:=by simpa using c3
   have hst:dv ((aa s).drop i)=.bad:=by unfold dv;rw[nG,if_neg (by rw[hd0];exact c1),if_neg (by rw[hd0];exact c2),if_neg (by rw[hd0];exact c3)]
   have hF:=sY hq hst;have e:oZ (aa s)=.tup [.l (.v (.string emp)),.l (.v (.int .i64 0))]:=by unfold oZ;rw[hF];rfl
   simp only[go_sem,ci,hltI,c1,c2,c3',ei,e];rfl
 ·have hltI:¬(i:Int)<s.size:=by omega
  have hst:dv ((aa s).drop i)=.bad:=by unfold dv;rw[if_pos (by rw[length_drop];omega)]
  have hF:=sY hq hst;have e:oZ (aa s)=.tup [.l (.v (.string emp)),.l (.v (.int .i64 0))]:=by unfold oZ;rw[hF];rfl
  simp only[go_sem,ci,hltI,e];rfl
abbrev On:am prog 234 :=
 mz1 func234 (aT) ((fun s=>s.size≤1099511627776)) ((fun s=>.ret (oZ (aa s)))) (asP fun s hs=>Iv s hs)
end Ly
namespace Ly
theorem zA (base:Int)(hb:1≤base):∀(l:List Int) (n:Int),0≤n→n≤l.foldl (fun n c=>n*base+aA c) n
 |[],n,_=>Int.le_refl _
 |c::l,n,hn=>by
  have h1:=jn c
  have h2:n≤n*base:=by
   have:=Int.mul_le_mul_of_nonneg_left hb hn
   rwa [Int.mul_one]at this
  exact Int.le_trans (show n≤n*base+aA c by omega) (zA base hb l _ (by omega))
theorem KK (base:Int)(hb:1≤base)(l:List Int):0≤bx base l:=zA base hb l 0 (Int.le_refl _)
theorem sM (base:Int)(hb:1≤base)(l:List Int)(i:Nat):bx base (l.take i)≤bx base l:=by
 have h:bx base l=(l.drop i).foldl (fun n c=>n*base+aA c) (bx base (l.take i)):=by
  unfold bx;rw[←List.foldl_append,List.take_append_drop]
 rw[h];exact zA base hb _ _ (KK base hb _)
theorem qr {c:Int}(h:48≤c∧c≤57):aA c=c-48:=by unfold aA;rw[if_pos h]
theorem qt {c:Int}(h:97≤c∧c≤102):aA c=c-87:=by unfold aA;rw[nG,if_pos h]
theorem qs {c:Int}(h:65≤c∧c≤70):aA c=c-55:=by unfold aA;rw[nG,nG,if_pos h]
theorem jm {c:Int}(h:aA c<16):48≤c∧c≤57∨97≤c∧c≤102∨65≤c∧c≤70:=by
 unfold aA at h;split at h
 ·omega
 ·split at h
  ·omega
  ·split at h<;>omega
def iq (c:Int):Int:=bits .or .u8 c 32
theorem Hl:∀n:Nat,n<103→97≤n→iq (n:Int)=n:=by decide +kernel
theorem Hk:∀n:Nat,n<71→65≤n→iq (n:Int)=n+32:=by decide +kernel
theorem NY {c:Int}(h:97≤c∧c≤102∨65≤c∧c≤70):97≤iq c∧iq c≤102∧iq c-97+10=aA c:=by
 have hc:c=((c.toNat:Nat):Int):=(Int.toNat_of_nonneg (by omega)).symm;rcases h with h | h
 ·have h1:=Hl c.toNat (by omega) (by omega);rw[←hc]at h1;rw[h1,qt h];omega
 ·have h1:=Hk c.toNat (by omega) (by omega);rw[←hc]at h1;rw[h1,qs h];omega
abbrev zv:am prog 283 :=
 mz1 func283 (bq .u8) ((fun _=>True)) ((fun c=>.ret (.s (.l (.v (.int .u8 (iq c))))))) (asP fun c _=>by
 refine aq [] rfl ?_;simp only[go_sem,iq])
def mZ:TypeId:=277
theorem jI:lU prog 277=true:=by kernel_rfl
def ja (n:Int):AV:=if n<18446744073709551616 then .tup [.l (.v (.int .u64 n)),.l (.v .nilIface)] else .tup [.l (.v (.int .u64 18446744073709551615)),.l (.v (.iface mZ (.int .i64 1)))]
def yj (s:ByteArray)(base:Int):Prop:=0<s.size∧s.size≤1099511627776∧(base=2∨base=10∨base=16)∧∀i:Nat,i<s.size→aA (ab s i)<base
def j3 (base:Int):Int:=if base=10 then 1844674407370955162 else if base=16 then 1152921504606846976 else 9223372036854775808
theorem Lw (s:ByteArray)(base:Int)(h:yj s base):Sw f265 0 ⟨0,ax 0 [aT.enc s,(bq .i64).enc base,(bq .i64).enc 64],[]⟩ (oQ f265 (.ret (ja (bx base (aa s))))):=by
 obtain⟨hp,hsz,hb,hx⟩:=h;have hpI:(0:Int)<s.size:=by omega
 have hne:¬s=emp:=by rintro rfl;exact absurd hp (by decide)
 have hb1:(1:Int)≤base:=by omega
 have loop:∀(st:St),bI st.t 0=sv s→True:=fun _ _=>trivial;refine aq [⟨_,zv⟩] rfl ?_;have hz:¬base=0:=by omega
 have h2:2≤base:=by omega
 have h3:base≤36:=by omega
 have w1:IntKind.u64.wrap 64=64:=by rfl
 have w2:IntKind.u64.wrap (1*2 ^ min 64 IntKind.u64.bits)=0:=by rfl
 have w3:IntKind.u64.wrap (0-1)=18446744073709551615:=by rfl
 rcases hb with rfl | rfl | rfl
 ·have w4:IntKind.u64.wrap 2=2:=by rfl
  have w5:IntKind.u64.wrap (Int.tdiv 18446744073709551615 2)=9223372036854775807:=by rfl
  have w6:IntKind.u64.wrap (9223372036854775807+1)=9223372036854775808:=by rfl
  simp only[go_sem,hne,ak,hz,h2,h3,w1,w2,w3,w4,w5,w6];refine⟨by unfold maxLen;omega,bF (ι:=Nat×Int) (fun p=>p.1≤s.size∧p.2=bx 2 ((aa s).take p.1)∧0≤p.2∧p.2<18446744073709551616) (fun p=>⟨1,[(1,iv 2),(8,bv false),(10,.s (.l (.v (.int .u64 9223372036854775808)))),(11,.s (.l (.v (.int .u64 18446744073709551615)))),(12,bv false),(13,.s (.l (.v (.int .u64 p.2)))),(99,.s (.l (.sl 0 0 s.size))),(100,iv s.size),(101,iv p.1)],[(0,some ⟨true,5,1,(aa s).map au⟩)]⟩) (fun p=>s.size-p.1) (0,0) ⟨zero_le _,rfl,by simp only;omega,by simp only;omega⟩ ?_ ?_⟩
  ·exact Wk.renL [688] (by simp) (by simp) (by simp) rfl (by simp[ac,Blk.ren,au,LV.ren,Function.comp_def])
  rintro⟨i,n⟩ ⟨hi,hn,hn0,hn1⟩;simp only at hi hn hn0 hn1;refine aw [⟨_,zv⟩] ?_;by_cases hlt:i<s.size
  ·have hltI:(i:Int)<s.size:=by omega
   have hr:=ca s i;have hgt:=cH hlt;have hc:=hx i hlt;have hh:=jn (ab s i);have hnx:bx 2 ((aa s).take (i+1))=bx 2 ((aa s).take i)*2+aA (ab s i):=by rw[th hlt,sL]
   have hle:=sM 2 hb1 (aa s) (i+1);rw[hnx,←hn]at hle;have wb:IntKind.u8.wrap 2=2:=by rfl
   have hnb:¬2≤aA (ab s i):=by omega
   have c1:¬ab s i=95:=by rintro e;rw[e]at hc;exact absurd hc (by decide)
   have c2:48≤ab s i:=by have:=jm (c:=ab s i) (by omega);omega
   by_cases c3:ab s i≤57
   ·have hd:=qr ⟨c2,c3⟩;have d1:IntKind.u8.wrap (ab s i-48)=aA (ab s i):=by rw[IntKind.wrap_u8,hd];omega
    by_cases hcut:(9223372036854775808:Int)≤n
    ·have e:ja (bx 2 (aa s))=.tup [.l (.v (.int .u64 18446744073709551615)),.l (.v (.iface mZ (.int .i64 1)))]:=by unfold ja;rw[nG]
     simp only[go_sem,au,hltI,hgt,c1,c2,c3,d1,hnb,hcut,wb,e,mZ,jI]
    ·have e1:IntKind.u64.wrap (n*2)=n*2:=by rw[IntKind.wrap_u64];omega
     have ei:=wI i;have e2:IntKind.u64.wrap (aA (ab s i))=aA (ab s i):=by rw[IntKind.wrap_u64];omega
     by_cases hov:n*2+aA (ab s i)<18446744073709551616
     ·have e3:IntKind.u64.wrap (n*2+aA (ab s i))=n*2+aA (ab s i):=by rw[IntKind.wrap_u64];omega
      have g1:¬n*2+aA (ab s i)<n*2:=by omega
      have g2:¬18446744073709551615<n*2+aA (ab s i):=by omega
      simp only[go_sem,au,hltI,hgt,c1,c2,c3,d1,hnb,hcut,wb,w4,e1,e2,e3,ei,g1,g2];exact⟨(i+1,n*2+aA (ab s i)),⟨hlt,by simp only;rw[hnx,←hn],by simp only;omega,hov⟩,by simp only;omega,Wk.renL [0] (by simp) (by simp) (by simp) rfl (by simp[ac,Blk.ren,au,LV.ren,Function.comp_def])⟩
     ·have e3:IntKind.u64.wrap (n*2+aA (ab s i))=n*2+aA (ab s i)-18446744073709551616:=by rw[IntKind.wrap_u64];omega
      have g1:n*2+aA (ab s i)-18446744073709551616<n*2:=by omega
      have e:ja (bx 2 (aa s))=.tup [.l (.v (.int .u64 18446744073709551615)),.l (.v (.iface mZ (.int .i64 1)))]:=by unfold ja;rw[nG]
      simp only[go_sem,au,hltI,hgt,c1,c2,c3,d1,hnb,hcut,wb,w4,e1,e2,e3,g1,e,mZ,jI]
   ·exfalso;have:=jm (c:=ab s i) (by omega);rcases this with h | h | h
    ·omega
    ·rw[qt h]at hc;omega
    ·rw[qs h]at hc;omega
  ·have hltI:¬(i:Int)<s.size:=by omega
   obtain rfl:i=s.size:=by omega
   have ht:(aa s).take s.size=aa s:=List.take_of_length_le (by rw[ae];exact Nat.le_refl _);rw[ht]at hn;have e:ja (bx 2 (aa s))=.tup [.l (.v (.int .u64 n)),.l (.v .nilIface)]:=by unfold ja;rw[pS,hn]
   simp only[go_sem,hltI,e]
 ·have w4:IntKind.u64.wrap 10=10:=by rfl
  simp only[go_sem,hne,ak,hz,h2,h3,w1,w2,w3,w4];refine⟨by unfold maxLen;omega,bF (ι:=Nat×Int) (fun p=>p.1≤s.size∧p.2=bx 10 ((aa s).take p.1)∧0≤p.2∧p.2<18446744073709551616) (fun p=>⟨1,[(1,iv 10),(8,bv false),(10,.s (.l (.v (.int .u64 1844674407370955162)))),(11,.s (.l (.v (.int .u64 18446744073709551615)))),(12,bv false),(13,.s (.l (.v (.int .u64 p.2)))),(99,.s (.l (.sl 0 0 s.size))),(100,iv s.size),(101,iv p.1)],[(0,some ⟨true,5,1,(aa s).map au⟩)]⟩) (fun p=>s.size-p.1) (0,0) ⟨zero_le _,rfl,by simp only;omega,by simp only;omega⟩ ?_ ?_⟩
  ·exact Wk.renL [592] (by simp) (by simp) (by simp) rfl (by simp[ac,Blk.ren,au,LV.ren,Function.comp_def])
  rintro⟨i,n⟩ ⟨hi,hn,hn0,hn1⟩;simp only at hi hn hn0 hn1;refine aw [⟨_,zv⟩] ?_;by_cases hlt:i<s.size
  ·have hltI:(i:Int)<s.size:=by omega
   have hr:=ca s i;have hgt:=cH hlt;have hc:=hx i hlt;have hh:=jn (ab s i);have hnx:bx 10 ((aa s).take (i+1))=bx 10 ((aa s).take i)*10+aA (ab s i):=by rw[th hlt,sL]
   have hle:=sM 10 hb1 (aa s) (i+1);rw[hnx,←hn]at hle;have wb:IntKind.u8.wrap 10=10:=by rfl
   have hnb:¬10≤aA (ab s i):=by omega
   have c1:¬ab s i=95:=by rintro e;rw[e]at hc;exact absurd hc (by decide)
   have c2:48≤ab s i:=by have:=jm (c:=ab s i) (by omega);omega
   by_cases c3:ab s i≤57
   ·have hd:=qr ⟨c2,c3⟩;have d1:IntKind.u8.wrap (ab s i-48)=aA (ab s i):=by rw[IntKind.wrap_u8,hd];omega
    by_cases hcut:(1844674407370955162:Int)≤n
    ·have e:ja (bx 10 (aa s))=.tup [.l (.v (.int .u64 18446744073709551615)),.l (.v (.iface mZ (.int .i64 1)))]:=by unfold ja;rw[nG]
     simp only[go_sem,au,hltI,hgt,c1,c2,c3,d1,hnb,hcut,wb,e,mZ,jI]
    ·have e1:IntKind.u64.wrap (n*10)=n*10:=by rw[IntKind.wrap_u64];omega
     have ei:=wI i;have e2:IntKind.u64.wrap (aA (ab s i))=aA (ab s i):=by rw[IntKind.wrap_u64];omega
     by_cases hov:n*10+aA (ab s i)<18446744073709551616
     ·have e3:IntKind.u64.wrap (n*10+aA (ab s i))=n*10+aA (ab s i):=by rw[IntKind.wrap_u64];omega
      have g1:¬n*10+aA (ab s i)<n*10:=by omega
      have g2:¬18446744073709551615<n*10+aA (ab s i):=by omega
      simp only[go_sem,au,hltI,hgt,c1,c2,c3,d1,hnb,hcut,wb,w4,e1,e2,e3,ei,g1,g2];exact⟨(i+1,n*10+aA (ab s i)),⟨hlt,by simp only;rw[hnx,←hn],by simp only;omega,hov⟩,by simp only;omega,Wk.renL [0] (by simp) (by simp) (by simp) rfl (by simp[ac,Blk.ren,au,LV.ren,Function.comp_def])⟩
     ·have e3:IntKind.u64.wrap (n*10+aA (ab s i))=n*10+aA (ab s i)-18446744073709551616:=by rw[IntKind.wrap_u64];omega
      have g1:n*10+aA (ab s i)-18446744073709551616<n*10:=by omega
      have e:ja (bx 10 (aa s))=.tup [.l (.v (.int .u64 18446744073709551615)),.l (.v (.iface mZ (.int .i64 1)))]:=by unfold ja;rw[nG]
      simp only[go_sem,au,hltI,hgt,c1,c2,c3,d1,hnb,hcut,wb,w4,e1,e2,e3,g1,e,mZ,jI]
   ·exfalso;have:=jm (c:=ab s i) (by omega);rcases this with h | h | h
    ·omega
    ·rw[qt h]at hc;omega
    ·rw[qs h]at hc;omega
  ·have hltI:¬(i:Int)<s.size:=by omega
   obtain rfl:i=s.size:=by omega
   have ht:(aa s).take s.size=aa s:=List.take_of_length_le (by rw[ae];exact Nat.le_refl _);rw[ht]at hn;have e:ja (bx 10 (aa s))=.tup [.l (.v (.int .u64 n)),.l (.v .nilIface)]:=by unfold ja;rw[pS,hn]
   simp only[go_sem,hltI,e]
 ·have w4:IntKind.u64.wrap 16=16:=by rfl
  simp only[go_sem,hne,ak,hz,h2,h3,w1,w2,w3,w4];refine⟨by unfold maxLen;omega,bF (ι:=Nat×Int) (fun p=>p.1≤s.size∧p.2=bx 16 ((aa s).take p.1)∧0≤p.2∧p.2<18446744073709551616) (fun p=>⟨1,[(1,iv 16),(8,bv false),(10,.s (.l (.v (.int .u64 1152921504606846976)))),(11,.s (.l (.v (.int .u64 18446744073709551615)))),(12,bv false),(13,.s (.l (.v (.int .u64 p.2)))),(99,.s (.l (.sl 0 0 s.size))),(100,iv s.size),(101,iv p.1)],[(0,some ⟨true,5,1,(aa s).map au⟩)]⟩) (fun p=>s.size-p.1) (0,0) ⟨zero_le _,rfl,by simp only;omega,by simp only;omega⟩ ?_ ?_⟩
  ·exact Wk.renL [624] (by simp) (by simp) (by simp) rfl (by simp[ac,Blk.ren,au,LV.ren,Function.comp_def])
  rintro⟨i,n⟩ ⟨hi,hn,hn0,hn1⟩;simp only at hi hn hn0 hn1;refine aw [⟨_,zv⟩] ?_;by_cases hlt:i<s.size
  ·have hltI:(i:Int)<s.size:=by omega
   have hr:=ca s i;have hgt:=cH hlt;have hc:=hx i hlt;have hh:=jn (ab s i);have hnx:bx 16 ((aa s).take (i+1))=bx 16 ((aa s).take i)*16+aA (ab s i):=by rw[th hlt,sL]
   have hle:=sM 16 hb1 (aa s) (i+1);rw[hnx,←hn]at hle;have wb:IntKind.u8.wrap 16=16:=by rfl
   have hnb:¬16≤aA (ab s i):=by omega
   have c1:¬ab s i=95:=by rintro e;rw[e]at hc;exact absurd hc (by decide)
   have c2:48≤ab s i:=by have:=jm (c:=ab s i) (by omega);omega
   by_cases c3:ab s i≤57
   ·have hd:=qr ⟨c2,c3⟩;have d1:IntKind.u8.wrap (ab s i-48)=aA (ab s i):=by rw[IntKind.wrap_u8,hd];omega
    by_cases hcut:(1152921504606846976:Int)≤n
    ·have e:ja (bx 16 (aa s))=.tup [.l (.v (.int .u64 18446744073709551615)),.l (.v (.iface mZ (.int .i64 1)))]:=by unfold ja;rw[nG]
     simp only[go_sem,au,hltI,hgt,c1,c2,c3,d1,hnb,hcut,wb,e,mZ,jI]
    ·have e1:IntKind.u64.wrap (n*16)=n*16:=by rw[IntKind.wrap_u64];omega
     have ei:=wI i;have e2:IntKind.u64.wrap (aA (ab s i))=aA (ab s i):=by rw[IntKind.wrap_u64];omega
     by_cases hov:n*16+aA (ab s i)<18446744073709551616
     ·have e3:IntKind.u64.wrap (n*16+aA (ab s i))=n*16+aA (ab s i):=by rw[IntKind.wrap_u64];omega
      have g1:¬n*16+aA (ab s i)<n*16:=by omega
      have g2:¬18446744073709551615<n*16+aA (ab s i):=by omega
      simp only[go_sem,au,hltI,hgt,c1,c2,c3,d1,hnb,hcut,wb,w4,e1,e2,e3,ei,g1,g2];exact⟨(i+1,n*16+aA (ab s i)),⟨hlt,by simp only;rw[hnx,←hn],by simp only;omega,hov⟩,by simp only;omega,Wk.renL [0] (by simp) (by simp) (by simp) rfl (by simp[ac,Blk.ren,au,LV.ren,Function.comp_def])⟩
     ·have e3:IntKind.u64.wrap (n*16+aA (ab s i))=n*16+aA (ab s i)-18446744073709551616:=by rw[IntKind.wrap_u64];omega
      have g1:n*16+aA (ab s i)-18446744073709551616<n*16:=by omega
      have e:ja (bx 16 (aa s))=.tup [.l (.v (.int .u64 18446744073709551615)),.l (.v (.iface mZ (.int .i64 1)))]:=by unfold ja;rw[nG]
      simp only[go_sem,au,hltI,hgt,c1,c2,c3,d1,hnb,hcut,wb,w4,e1,e2,e3,g1,e,mZ,jI]
   ·have hl:=NY (c:=ab s i) (by have:=jm (c:=ab s i) (by omega);omega);obtain⟨l1,l2,l3⟩:=hl;have l4:iq (ab s i)≤122:=by omega
    have d1:IntKind.u8.wrap (iq (ab s i)-97)=iq (ab s i)-97:=by rw[IntKind.wrap_u8];omega
    have d2:IntKind.u8.wrap (iq (ab s i)-97+10)=aA (ab s i):=by rw[IntKind.wrap_u8,l3];omega
    by_cases hcut:(1152921504606846976:Int)≤n
    ·have e:ja (bx 16 (aa s))=.tup [.l (.v (.int .u64 18446744073709551615)),.l (.v (.iface mZ (.int .i64 1)))]:=by unfold ja;rw[nG]
     simp only[go_sem,au,hltI,hgt,c1,c2,c3,l1,l4,d1,d2,hnb,hcut,wb,e,mZ,jI]
    ·have e1:IntKind.u64.wrap (n*16)=n*16:=by rw[IntKind.wrap_u64];omega
     have ei:=wI i;have e2:IntKind.u64.wrap (aA (ab s i))=aA (ab s i):=by rw[IntKind.wrap_u64];omega
     by_cases hov:n*16+aA (ab s i)<18446744073709551616
     ·have e3:IntKind.u64.wrap (n*16+aA (ab s i))=n*16+aA (ab s i):=by rw[IntKind.wrap_u64];omega
      have g1:¬n*16+aA (ab s i)<n*16:=by omega
      have g2:¬18446744073709551615<n*16+aA (ab s i):=by omega
      simp only[go_sem,au,hltI,hgt,c1,c2,c3,l1,l4,d1,d2,hnb,hcut,wb,w4,e1,e2,e3,ei,g1,g2];exact⟨(i+1,n*16+aA (ab s i)),⟨hlt,by simp only;rw[hnx,←hn],by simp only;omega,hov⟩,by simp only;omega,Wk.renL [0] (by simp) (by simp) (by simp) rfl (by simp[ac,Blk.ren,au,LV.ren,Function.comp_def])⟩
     ·have e3:IntKind.u64.wrap (n*16+aA (ab s i))=n*16+aA (ab s i)-18446744073709551616:=by rw[IntKind.wrap_u64];omega
      have g1:n*16+aA (ab s i)-18446744073709551616<n*16:=by omega
      have e:ja (bx 16 (aa s))=.tup [.l (.v (.int .u64 18446744073709551615)),.l (.v (.iface mZ (.int .i64 1)))]:=by unfold ja;rw[nG]
      simp only[go_sem,au,hltI,hgt,c1,c2,c3,l1,l4,d1,d2,hnb,hcut,wb,w4,e1,e2,e3,g1,e,mZ,jI]
  ·have hltI:¬(i:Int)<s.size:=by omega
   obtain rfl:i=s.size:=by omega
   have ht:(aa s).take s.size=aa s:=List.take_of_length_le (by rw[ae];exact Nat.le_refl _);rw[ht]at hn;have e:ja (bx 16 (aa s))=.tup [.l (.v (.int .u64 n)),.l (.v .nilIface)]:=by unfold ja;rw[pS,hn]
   simp only[go_sem,hltI,e]
abbrev UJ:am prog 265 :=
 mz3 func265 (aT) (bq .i64) (bq .i64) ((fun s b n=>yj s b∧n=64)) ((fun s b _=>.ret (ja (bx b (aa s))))) (asP fun s b n h=>by
 obtain⟨h,rfl⟩:=h;exact Lw s b h)
end Ly
namespace Ly
open Go.RowKit Go.Shelf
def TC:Ren:=⟨fun k=>if k=22 then 286 else if k=25 then 294 else k,
 fun k=>if k=0 then 0 else if k=3 then 3 else if k=4 then 4 else if k=5 then 5 else if k=9 then 9 else if k=24 then 109 else if k=37 then 39 else if k=39 then 278 else if k=44 then 284 else if k=47 then 160 else if k=67 then 113 else k,
 fun k=>if k=1 then 3 else k⟩
theorem UL:Go.Proofs.LaysPu.n22 prog TC where
 mixed:=by kernel_rfl
 f22:=by kernel_rfl
 f25:=by kernel_rfl
 t0:=by kernel_rfl
 a0:=fun w=>by kernel_rfl
 z0:=fun w=>by kernel_rfl
 v0:=fun w=>by kernel_rfl
 i0:=by kernel_rfl
 t3:=by kernel_rfl
 a3:=fun w=>by kernel_rfl
 z3:=fun w=>by kernel_rfl
 v3:=fun w=>by kernel_rfl
 i3:=by kernel_rfl
 t4:=by kernel_rfl
 a4:=fun w=>by kernel_rfl
 z4:=fun w=>by kernel_rfl
 v4:=fun w=>by kernel_rfl
 i4:=by kernel_rfl
 t5:=by kernel_rfl
 a5:=fun w=>by kernel_rfl
 z5:=fun w=>by kernel_rfl
 v5:=fun w=>by kernel_rfl
 i5:=by kernel_rfl
 t9:=by kernel_rfl
 a9:=fun w=>by kernel_rfl
 z9:=fun w=>by kernel_rfl
 v9:=fun w=>by kernel_rfl
 i9:=by kernel_rfl
 t24:=by kernel_rfl
 a24:=fun w=>by kernel_rfl
 z24:=fun w=>by kernel_rfl
 v24:=fun w=>by kernel_rfl
 i24:=by kernel_rfl
 t37:=by kernel_rfl
 a37:=fun w=>by kernel_rfl
 z37:=fun w=>by kernel_rfl
 v37:=fun w=>by kernel_rfl
 i37:=by kernel_rfl
 t39:=by kernel_rfl
 a39:=fun w=>by kernel_rfl
 z39:=fun w=>by kernel_rfl
 v39:=fun w=>by kernel_rfl
 i39:=by kernel_rfl
 t44:=by kernel_rfl
 a44:=fun w=>by kernel_rfl
 z44:=fun w=>by kernel_rfl
 v44:=fun w=>by kernel_rfl
 i44:=by kernel_rfl
 t47:=by kernel_rfl
 a47:=fun w=>by kernel_rfl
 z47:=fun w=>by kernel_rfl
 v47:=fun w=>by kernel_rfl
 i47:=by kernel_rfl
 t67:=by kernel_rfl
 a67:=fun w=>by kernel_rfl
 z67:=fun w=>by kernel_rfl
 v67:=fun w=>by kernel_rfl
 i67:=by kernel_rfl
 g1:=by kernel_rfl
 m1:=by kernel_rfl
theorem zK (fn s:ByteArray)(ev:Value)(w:World)(hlim:s.size≤281474976710656)(hv:w.cell? ⟨3,0,none⟩=some ev)(hev:ev=.nilIface∨∃te pe,ev=.iface te pe) :
  Calls prog 286 #[.string fn,.string s] w fun e w'=>(∃N,e=.returned (.pointer (some ⟨N,0,none⟩)))∧Below w.heap.size w w' :=
 (AnyPu.strconv_rangeError UL fn s ev w hlim hv hev).mono fun e w' ⟨N,h1,_,_,h2⟩=>⟨⟨N,h1⟩,h2⟩
theorem IZ (fn s:ByteArray)(base bits:Int)(ev:Value)(w:World)(hlim:s.size≤281474976710656)(hv:w.cell? ⟨3,0,none⟩=some ev)(hev:ev=.nilIface∨∃te pe,ev=.iface te pe) :
  Calls prog 266 #[.string fn,.string s,.int .i64 base,.int .i64 bits,.iface 277 (.int .i64 1)] w fun e w'=>(∃N,e=.returned (.iface 278 (.pointer (some ⟨N,0,none⟩))))∧Below w.heap.size w w':=by
 have hu:Tryz.prog.underlying 109=some (.interface #[("Error",113)]):=by kernel_rfl
 have hc:(Tryz.prog.info? 277).map (·.comparable)=some true:=by kernel_rfl
 have hi:Tryz.prog.underlying 277=some (.int .i64):=by kernel_rfl
 have q2:∀W,(binOp .eql 109 (.iface 277 (.int .i64 1)) (.iface 277 (.int .i64 2))).run prog W=.ok (.bool false) W:=fun W=>Lib.run_eql_iface_int W 1 2 hu hc hi;have q1:∀W,(binOp .eql 109 (.iface 277 (.int .i64 1)) (.iface 277 (.int .i64 1))).run prog W=.ok (.bool true) W:=fun W=>Lib.run_eql_iface_int W 1 1 hu hc hi;go_enter func266,ntmps266
 go_wp2_with (go_at_call 286;refine(zK fn s ev _ hlim ?_ hev).mono ?_)
 ·exact hv
 rintro e w2 ⟨⟨N,rfl⟩,h3⟩;go_wp2;go_ret;exact⟨⟨N,rfl⟩,h3⟩
end Ly
namespace Ly
def OH {X:Type}(dec:List AV→Option (Prop×X))(out:X→AV)(zs:List AV):Option Res:=match dec zs with | some (q,x)=>some ⟨q,out x,[]⟩ | none=>none
def mkS {P:Program}{X:Type}(f:FuncId)(hen:∀(args:Array Value) (w:World),(callFunc f args).run P w=.ok (.enter f args) w)(dec:List AV→Option (Prop×X))(vs:X→List Value)(out:X→AV)
  (hdec:∀{zs:List AV} {q:Prop} {x:X},dec zs=some (q,x)→∀(ρ:Nat→Loc) (al:Al) (vals:List Value),AsRep ρ al zs vals→vals=vs x)
  (hout:∀(x:X) (ρ:Nat→Loc) (al:Al) (v:Value),ARep ρ0 (al0 al.M) (out x) v→ARep ρ al (out x) v)
  (calls:∀{zs:List AV} {q:Prop} {x:X},dec zs=some (q,x)→q→∀(M:Mem) (w:World),Gok M→(∀b o y,M b o=some y→w.cell? ⟨b,o,none⟩=some y) →
   Calls P f (vs x).toArray w fun e w'=>(∃v,e=.returned v∧ARep ρ0 (al0 M) (out x) v)∧Below w.heap.size w w'):am P f where
 enter:=hen
 run:=fun _ _ args=>OH dec out args
 mono:=by
  intro id h h' args R hs hr;exact hr
 sound:=by
  intro id h args R hr hob B w0 ρ al w vals H hid hA;unfold OH at hr;split at hr
  case h_2=>cases hr
  rename_i q x hd;injection hr with hr;subst hr;obtain rfl:=hdec hd ρ al vals hA;refine(calls hd hob al.M w H.gok (fun b o y hy=>H.mem b o y hy)).mono ?_;rintro e w' ⟨⟨v,rfl,hv⟩,hb⟩;exact⟨v,ρ,al,rfl,.refl _ _,fun b hb=>.inl hb,hout x ρ al v hv,H.step (.refl _ _) (H.below.trans ((tN hb).mono fun k hk=>H.size k hk)) (fun b k hk hc=>hb.block _ (H.lt hk hc)) (fun b ⟨_,_,hb'⟩=>hb.block _ (H.memLt hb'))⟩
structure Xb (X:Type) where
 dec:List AV→Option (Nat×X)
 enc:X→List AV
 len:Nat
 enc_len:∀x,(enc x).length=len
 ok:∀{zs:List AV} {b:Nat} {x:X},dec zs=some (b,x)→∀{ρ ρ':Nat→Loc} {al al':Al} {vals:List Value},(∀y,LRep ρ al (.p b 0 0) y→LRep ρ' al' (.p 0 0 0) y)→al.M.le al'.M→AsRep ρ al zs vals→AsRep ρ' al' (enc x) vals
def cI (T:TypeId)(z:Int):Blk:=⟨true,T,1,[[.v (.int .i64 z)]]⟩
def nU {X:Type}(T:TypeId)(D:Xb X)(q:X→Int→Prop)(h:ag)(zs:List AV):Option (Prop×List Nat×(X×Int)) :=
 match D.dec zs with
 |some (b,x)=>match ac h b with
  |some ⟨true,T',1,[[.v (.int .i64 z)]]⟩=>if T'=T then some (q x z,[b],(x,z)) else none
  |_=>none
 |none=>none
theorem sq {X:Type}{T:TypeId}{D:Xb X}{q:X→Int→Prop}{h:ag}{zs:List AV}{r:Prop×List Nat×(X×Int)}(hd:nU T D q h zs=some r):∃b x z,D.dec zs=some (b,x)∧ac h b=some (cI T z)∧r=(q x z,[b],(x,z)):=by
 unfold nU at hd;split at hd
 case h_2=>cases hd
 rename_i b x h1;split at hd
 case h_2=>cases hd
 rename_i T' z h2;split at hd
 case isFalse=>cases hd
 rename_i e;subst e;injection hd with hd;exact⟨b,x,z,h1,h2,hd.symm⟩
def mkB {P:Program}{X:Type}(f:FuncId)(fn:Func)(c:Code)(hf:P.funcs[f]? = some fn)(hb:fn.body=some c)
  (hen:∀(args:Array Value) (w:World),(callFunc f args).run P w=.ok (.enter f args) w) (T:TypeId) (D:Xb X) (q:X→Int→Prop) (out:X→Int→AV) (hn:D.len≤fn.ntmps)
  (body:∀x z,q x z→SW P ⟨none,1⟩ fn.ntmps c ⟨1,ax 0 (D.enc x),aC 0 [cI T z]⟩ (um P fn.results.toList 1 (.ret (out x z) [some (cI T z)] []))):am P f :=
 mkR 1 1 (by decide) f fn c hf hb hen (nU T D q) (fun x=>D.enc x.1) (fun x=>[cI T x.2]) (fun x=>.ret (out x.1 x.2) [some (cI T x.2)] [])
  (by
   intro h h' args r hs hd;obtain⟨b,x,z,h1,h2,rfl⟩:=sq hd;unfold nU;rw[h1];simp only[hs _ _ h2,cI,if_true])
  (by
   intro h zs q' bs x hd hq;obtain⟨b,x',z,h1,h2,e⟩:=sq hd;injection e with e1 e;injection e with e2 e3;subst e2;subst e3;refine⟨by rw[D.enc_len];exact hn,rfl,rfl,by simp,fun d=>⟨?_,?_⟩⟩
   ·intro j b' k hj hk
    match j,hj,hk with
    |0,hj,hk =>
     simp at hj hk;subst hj;subst hk;exact⟨rfl,by rw[h2];rfl⟩
   ·intro ρ al vals hA;exact D.ok (al:=al) h1 (fun y hy=>hy) (Mem.le_refl _) hA)
  (by
   intro h zs q' bs x hd hq;obtain⟨b,x',z,h1,h2,e⟩:=sq hd;injection e with e1 e;injection e with e2 e3;subst e1;subst e3;exact body _ _ hq)
def w9:Xb Int where
 dec:=fun | [.s (.l (.v (.int .u8 c))),.s (.l (.p b 0 0))]=>some (b,c) | _=>none
 enc:=fun c=>[.s (.l (.v (.int .u8 c))),pv 0 0 0]
 len:=2
 enc_len:=fun _=>rfl
 ok:=by
  intro zs b x h ρ ρ' al al' vals hp hM hA;split at h
  ·injection h with h;injection h with h1 h2;subst h1;subst h2
   match vals,hA with
   |[v,u],⟨a,b,_⟩=>exact⟨a,hp u b,trivial⟩
  ·cases h
theorem Ks {st:St}{r:AV}{k:Blk}(hr:r.plain=true)(hk:ac st.h 0=some k)(ho:k.own=true)(hren:∀g,k.ren g=k):mA 1 st (.ret r [some k] []) (some r):=by
 refine⟨hr,[some k],[],rfl,rfl,by simp,by simpa using ho,by simp,Wk.ren [0] (by intro j hj;have:j=0:=(by simpa using hj);subst this;rfl) (by simp) (by simp) (fun p hp=>by cases hp) ?_⟩;intro p hp k' hk';simp only[ee,aC,append_nil,List.mem_cons,List.not_mem_nil,or_false]at hp;subst hp;simp only[Option.some.injEq]at hk';subst hk';rw[hren];exact hk
theorem BD (T:TypeId)(z:Int)(g:Nat→Nat):(cI T z).ren g=cI T z:=rfl
theorem Kn (c z:Int)(h:0≤c∧c≤255):Sw f248 1 ⟨1,ax 0 [.s (.l (.v (.int .u8 c))),pv 0 0 0],aC 0 [cI 3 z]⟩ (oR f248 1 (.ret (bv (decide (aA c<z))) [some (cI 3 z)] [])):=by
 refine aq [⟨_,Kg⟩] rfl ?_;simp only[go_sem,cI];refine sD mixed [⟨_,Kg⟩] [] ?_;simp only[go_sem,cI,h];exact Ks rfl rfl rfl (fun _=>rfl)
def zq:am prog 248 :=
 mkB _ _ _ func248 rfl (fun _ _=>by go_simp) 3 w9 (fun c _=>0≤c∧c≤255) (fun c z=>bv (decide (aA c<z))) (by rw[ntmps248];decide) (fun c z h=>Kn c z h)
theorem x8 {id:Nat}{h:ag}{args:List AV}:zq.run id h args=jv 1 (nU 3 w9 (fun c _=>0≤c∧c≤255)) (fun x=>.ret (bv (decide (aA x.1<x.2))) [some (cI 3 x.2)] []) id h args:=rfl
theorem x7 {id:Nat}{h:ag}{args:List AV}:zq.pan id h args=iT (nU 3 w9 (fun c _=>0≤c∧c≤255)) (fun x=>.ret (bv (decide (aA x.1<x.2))) [some (cI 3 x.2)] []) h args:=rfl
def vx:AV:=.fn 248 [] [.p 0 0 0]
def pt:Xb ByteArray where
 dec:=fun | [.s (.l (.v (.string s))),.fn g [] [.p b 0 0]]=>if g=248 then some (b,s) else none | _=>none
 enc:=fun s=>[sv s,vx]
 len:=2
 enc_len:=fun _=>rfl
 ok:=by
  intro zs b x h ρ ρ' al al' vals hp hM hA;split at h
  ·split at h
   ·rename_i e;subst e;injection h with h;injection h with h1 h2;subst h1;subst h2
    match vals,hA with
    |[v,u],⟨a,b,_⟩ =>
     refine⟨a,?_,trivial⟩;obtain⟨f,c,e1,e2,e3⟩:=b
     match c,e3 with
     |[y],⟨o,g1,_⟩=>exact⟨f,[y],e1,(match f,e2 with | [],_=>trivial),o,hp y g1,trivial⟩
   ·cases h
  ·cases h
def fC (z:Int)(s:ByteArray):Nat:=bn z (aa s)
theorem Bb (z:Int){s:ByteArray}{i:Nat}(h:i<s.size):bn z ((aa s).drop i)=if aA (ab s i)<z then 1+bn z ((aa s).drop (i+1)) else 0:=by
 unfold bn;rw[IG _ _ _ (by rw[ae];exact h),gR];simp only[decide_eq_true_eq]
theorem OG (s:ByteArray)(z:Int)(hs:s.size≤1099511627776):Sw f117 1 ⟨1,ax 0 [sv s,vx],aC 0 [cI 3 z]⟩ (oR f117 1 (.ret (iv (bn z (aa s))) [some (cI 3 z)] [])):=by
 refine aq [⟨_,zq⟩] rfl ?_;simp only[go_sem,cI,vx];refine bF (ι:=Nat) (fun i=>i≤s.size∧bn z (aa s)=i+bn z ((aa s).drop i)) (fun i=>⟨1,[(0,sv s),(1,vx),(5,iv i)],[(0,some (cI 3 z))]⟩) (fun i=>s.size-i) 0 ⟨zero_le _,by simp⟩ (wR [0]) ?_;rintro i ⟨hi,hr⟩;refine aw [⟨_,zq⟩] ?_;have hb:=ca s i;have hdz:∀d:Nat,bn z ((aa s).drop (s.size+d))=0:=fun d=>LW _ _ _ (by rw[ae];omega);by_cases hlt:i<s.size
 ·have hltI:(i:Int)<s.size:=by omega
  have hst:=Bb z hlt;have ei:=wI i;by_cases hx:aA (ab s i)<z
  ·rw[if_pos hx]at hst;simp only[go_sem,cI,vx,x8,x7,nU,w9,hltI,hx,hb,ei];exact⟨i+1,⟨hlt,by rw[hr,hst];omega⟩,by omega,wR [0]⟩
  ·rw[if_neg hx]at hst;have e:bn z (aa s)=i:=by omega
   simp only[go_sem,cI,vx,x8,x7,nU,w9,hltI,hx,hb,e];exact Ks rfl rfl rfl (fun _=>rfl)
 ·have hltI:¬(i:Int)<s.size:=by omega
  obtain rfl:i=s.size:=by omega
  have e:bn z (aa s)=s.size:=by have:=hdz 0;rw[Nat.add_zero]at this;omega
  simp only[go_sem,cI,vx,hltI,e];exact Ks rfl rfl rfl (fun _=>rfl)
def LT:am prog 117 :=
 mkB _ _ _ func117 rfl (fun _ _=>by go_simp) 3 pt (fun s _=>s.size≤1099511627776) (fun s z=>iv (bn z (aa s))) (by rw[ntmps117];decide) (fun s z h=>OG s z h)
theorem jT {id:Nat}{h:ag}{args:List AV}:LT.run id h args=jv 1 (nU 3 pt (fun s _=>s.size≤1099511627776)) (fun x=>.ret (iv (bn x.2 (aa x.1))) [some (cI 3 x.2)] []) id h args:=rfl
theorem jS {id:Nat}{h:ag}{args:List AV}:LT.pan id h args=iT (nU 3 pt (fun s _=>s.size≤1099511627776)) (fun x=>.ret (iv (bn x.2 (aa x.1))) [some (cI 3 x.2)] []) h args:=rfl
theorem ud {P:Program}{t:TypeId}{u v:Value}{x y:Operand}{b:Bool}{w:World}(h1:binOp .neq t u v=(do pure (.bool (!(←Op.equal t u v)))))(h3:(eqGuard .neq t x y u v).run P w=.ok () w)(h4:∀d,(Op.equalIn (d+1) t u v).run P w=.ok b w):(do eqGuard .neq t x y u v;binOp .neq t u v:Sem Value).run P w=.ok (.bool (!b)) w:=by
  have h5:(Op.equal t u v).run P w=.ok b w:=by
    unfold Op.equal;rw[show Op.maxDepth=9999+1 from rfl];exact h4 9999
  rw[Sem.run_bind,h3,Result.andThen_ok,h1,Sem.run_bind,h5];rfl
theorem xt {P:Program}{t u:TypeId}{v c:Value}{x:Operand}(h:kT P t=4):iU P (do eqGuard .neq t x (.const c) (.iface u v) .nilIface;binOp .neq t (.iface u v) .nilIface)=some (.bool true):=by
  obtain⟨ms,hu⟩:=rv h;exact iV fun w=>ud (b:=false) rfl rfl (fun d=>by simp only[Op.equalIn,Sem.run_bind,run_underlying hu,Result.andThen_ok];rfl)
theorem tV {P:Program}{t:TypeId}{c:Value}{x:Operand}(h:kT P t=4):iU P (do eqGuard .neq t x (.const c) .nilIface .nilIface;binOp .neq t .nilIface .nilIface)=some (.bool false):=by
  obtain⟨ms,hu⟩:=rv h;exact iV fun w=>ud (b:=true) rfl (by cases x<;>rfl) (fun d=>by simp only[Op.equalIn,Sem.run_bind,run_underlying hu,Result.andThen_ok];rfl)
def ri:LV:=.d (.ifc 278 (.pd []))
def zd:List AV→Option (Prop×(ByteArray×ByteArray×Int×Int))
 |[.s (.l (.v (.string a))),.s (.l (.v (.string s))),.s (.l (.v (.int .i64 x))),.s (.l (.v (.int .i64 y))),.s (.l (.v (.iface T (.int .i64 1))))]=>some (s.size≤281474976710656∧T=277,(a,s,x,y))
 |_=>none
def ra (zs:List AV):Option (Prop×(List AV×(ByteArray×ByteArray×Int×Int))):=match zd zs with | some (q,x)=>some (q,(zs,x)) | none=>none
def E0:am prog 266 :=
 mkS _ (fun _ _=>by go_simp) ra (fun x=>match x.1 with
   |[.s (.l (.v a)),.s (.l (.v b)),.s (.l (.v c)),.s (.l (.v d)),.s (.l (.v e))]=>[a,b,c,d,e]
   |_=>[]) (fun _=>.s (.l ri))
  (by
   intro zs q x hd ρ al vals hA;unfold ra at hd;split at hd
   case h_2=>cases hd
   rename_i q' y h1;injection hd with hd;injection hd with e1 e2;subst e2;unfold zd at h1;split at h1
   ·match vals,hA with
    |[a,b,c,d,e],⟨h1,h2,h3,h4,h5,_⟩ =>
     obtain rfl:=(show a=_ from h1);obtain rfl:=(show b=_ from h2);obtain rfl:=(show c=_ from h3);obtain rfl:=(show d=_ from h4);obtain rfl:=(show e=_ from h5);rfl
   ·cases h1)
  (fun _ _ _ _ h=>h)
  (by
   intro zs q x hd hq M w hG hM;unfold ra at hd;split at hd
   case h_2=>cases hd
   rename_i q' y h1;injection hd with hd;injection hd with e1 e2;subst e2;subst e1;unfold zd at h1;split at h1
   ·injection h1 with h1;injection h1 with e1 e2;subst e1;obtain⟨hs,rfl⟩:=hq;obtain⟨⟨ev,he1,he2⟩,_⟩:=hG;refine(IZ _ _ _ _ ev w hs (hM _ _ _ he1) he2).mono ?_;rintro e w' ⟨⟨N,rfl⟩,hb⟩;refine⟨⟨_,rfl,?_⟩,hb⟩;simp only[ARep,SRep,LRep,ri,DRep,DsAt];exact⟨_,rfl,N,0,rfl,trivial⟩
   ·cases h1)
theorem I1 {id:Nat}{h:ag}{zs:List AV}:E0.run id h zs=OH ra (fun _=>.s (.l ri)) zs:=rfl
theorem I0 {id:Nat}{h:ag}{zs:List AV}:E0.pan id h zs=none:=rfl
def kW (n:Int):AV:=if n<18446744073709551616 then .tup [.l (.v (.int .u64 n)),.l (.v .nilIface)] else .tup [.l (.v (.int .u64 18446744073709551615)),.l ri]
theorem vt (args:Array Value)(w:World):(callFunc 250 args).run prog w=.ok (.enter 250 args) w:=by go_simp
def parseS:am prog 250 :=
 mk3 _ _ _ func250 rfl vt (aT) (bq .i64) (bq .i64) ((fun s b n=>yj s b∧n=64)) ((fun s b _=>.ret (kW (bx b (aa s))))) (by rw[ntmps250];decide) (fun s b n h=>by
 obtain⟨h,rfl⟩:=h;have hsz:s.size≤281474976710656:=by have:=h.2.1;omega
 refine aq [⟨_,UJ⟩,⟨_,E0⟩] rfl ?_;have hb1:=@tV prog 109 .nilIface (.tmp 17) (by kernel_rfl);have hb2:∀u v,_:=fun u v=>@xt prog 109 u v .nilIface (.tmp 17) (by kernel_rfl);by_cases hn:bx b (aa s)<18446744073709551616
 ·have e1:ja (bx b (aa s))=.tup [.l (.v (.int .u64 (bx b (aa s)))),.l (.v .nilIface)]:=by unfold ja;rw[if_pos hn]
  have e2:kW (bx b (aa s))=.tup [.l (.v (.int .u64 (bx b (aa s)))),.l (.v .nilIface)]:=by unfold kW;rw[if_pos hn]
  simp only[go_sem,h,e1,e2,↓hb1]
 ·have e1:ja (bx b (aa s))=.tup [.l (.v (.int .u64 18446744073709551615)),.l (.v (.iface mZ (.int .i64 1)))]:=by unfold ja;rw[if_neg hn]
  have e2:kW (bx b (aa s))=.tup [.l (.v (.int .u64 18446744073709551615)),.l ri]:=by unfold kW;rw[if_neg hn]
  simp only[go_sem,h,e1,e2,mZ,I1,I0,OH,ra,zd,hsz,ri,↓hb2])
theorem parse_run {id:Nat}{h:ag}{args:List AV}:(parseS).run id h args=fT (pW (aT) (bq .i64) (bq .i64) ((fun s b n=>yj s b∧n=64))) (fun x=>((fun s b _=>.ret (kW (bx b (aa s))))) x.1 x.2.1 x.2.2) h args:=rfl
theorem parse_pan {id:Nat}{h:ag}{args:List AV}:(parseS).pan id h args=gh (pW (aT) (bq .i64) (bq .i64) ((fun s b n=>yj s b∧n=64))) (fun x=>((fun s b _=>.ret (kW (bx b (aa s))))) x.1 x.2.1 x.2.2) h args:=rfl
end Ly
namespace Ly
def bz (l:List Int):AV:=.tup [.l (.v (.int .u64 (aE l).1)),.l (.v (.int .i64 (aE l).2))]
theorem rP {s:ByteArray}{base:Int}{head n:Nat}(hs:s.size≤1099511627776)(hb:base=2∨base=10∨base=16)(hn:bn base ((aa s).drop head)=n)(h0:0<n)(hle:head+n≤s.size):yj (s.extract head (head+n)) base:=by
 have hsz:(s.extract head (head+n)).size=n:=by
  rw[←ae,cG,List.length_take,length_drop,ae];omega
 refine⟨by omega,by omega,hb,fun i hi=>?_⟩;have hi':i<n:=by omega
 have h1:=nI (fun c=>decide (aA c<base)) ((aa s).drop head) i (by unfold bn at hn;omega);simp only[decide_eq_true_eq]at h1;rw[gR,cG,show head+n-head=n by omega]
 have:bAt (((aa s).drop head).take n) i=bAt ((aa s).drop head) i:=by
  unfold bAt;rw[List.getD_eq_getElem?_getD,List.getD_eq_getElem?_getD,List.getElem?_take_of_lt hi']
 rw[this];exact h1
theorem Fp {s:ByteArray}{head n:Nat}:aa (s.extract head (head+n))=((aa s).drop head).take n:=by
 rw[cG,show head+n-head=n by omega]
theorem sQ (s:ByteArray)(h0:0<s.size)(hs:s.size≤1099511627776):Sw f233 0 ⟨0,ax 0 [aT.enc s],[]⟩ (oQ f233 (.ret (bz (aa s)))):=by
 refine aq [⟨_,oG⟩,⟨_,EK⟩,⟨_,LT⟩,⟨_,parseS⟩] rfl ?_;have hl:(aa s).length=s.size:=ae s;have hpI:(0:Int)<s.size:=by omega
 have hb0:=ig s;have hb1:=tB s;have hb2:=tC s;by_cases hq:ab s 0=39
 ·have hF:aE (aa s)=if 3≤s.size∧ab s 2=39∧g9 (ab s 1)=true∧ab s 1≠39∧ab s 1≠92 then(ab s 1,3) else(0,0):=by
   unfold aE;rw[if_pos (by rw[←hb0];exact hq),hl,←hb1,←hb2]
  by_cases c1:s.size<3
  ·have c1I:(s.size:Int)<3:=by omega
   have e:bz (aa s)=.tup [.l (.v (.int .u64 0)),.l (.v (.int .i64 0))]:=by unfold bz;rw[hF,nG];rfl
   simp only[go_sem,hpI,hq,c1I,e]
  have c1I:¬(s.size:Int)<3:=by omega
  have p1:(1:Int)<s.size:=by omega
  have p2:(2:Int)<s.size:=by omega
  by_cases c2:ab s 2=39
  case neg =>
   have e:bz (aa s)=.tup [.l (.v (.int .u64 0)),.l (.v (.int .i64 0))]:=by unfold bz;rw[hF,if_neg (fun h=>c2 h.2.1)];rfl
   simp only[go_sem,hpI,hq,c1I,p2,c2,e]
  by_cases c3:g9 (ab s 1)=true
  case neg =>
   have c3':g9 (ab s 1)=false:=by simpa using c3
   have e:bz (aa s)=.tup [.l (.v (.int .u64 0)),.l (.v (.int .i64 0))]:=by unfold bz;rw[hF,if_neg (fun h=>c3 h.2.2.1)];rfl
   simp only[go_sem,hpI,hq,c1I,p1,p2,c2,c3',e]
  by_cases c4:ab s 1=39
  ·have e:bz (aa s)=.tup [.l (.v (.int .u64 0)),.l (.v (.int .i64 0))]:=by unfold bz;rw[hF,if_neg (fun h=>h.2.2.2.1 c4)];rfl
   simp only[go_sem,hpI,hq,c1I,p1,p2,c2,c3,c4,e]
  by_cases c5:ab s 1=92
  ·have e:bz (aa s)=.tup [.l (.v (.int .u64 0)),.l (.v (.int .i64 0))]:=by unfold bz;rw[hF,if_neg (fun h=>h.2.2.2.2 c5)];rfl
   simp only[go_sem,hpI,hq,c1I,p1,p2,c2,c3,c4,c5,e]
  have e:bz (aa s)=.tup [.l (.v (.int .u64 (ab s 1))),.l (.v (.int .i64 3))]:=by unfold bz;rw[hF,if_pos ⟨by omega,c2,c3,c4,c5⟩];rfl
  have hr:=ca s 1;have ew:IntKind.u64.wrap (ab s 1)=ab s 1:=by rw[IntKind.wrap_u64];omega
  simp only[go_sem,hpI,hq,c1I,p1,p2,c2,c3,c4,c5,ew,e]
 have hF:∀base head,dS (aa s)=base→cg (aa s)=head→aE (aa s)=if bn base ((aa s).drop head)=0∨head=0∧1<bn base ((aa s).drop head)∧ab s 0=48 then(0,0)
   else if 18446744073709551616≤bx base (((aa s).drop head).take (bn base ((aa s).drop head))) then(0,0)
   else(bx base (((aa s).drop head).take (bn base ((aa s).drop head))),head+bn base ((aa s).drop head)):=by
  intro base head e1 e2;unfold aE;rw[if_neg (by rw[←hb0];exact hq),e1,e2,←hb0]
 have hle:∀base head,bn base ((aa s).drop head)≤s.size-head:=by
  intro base head;have:bn base ((aa s).drop head)≤((aa s).drop head).length:=kr _ _
  rwa [length_drop,hl]at this
 have hx:bY s ⟨#[48,120]⟩=decide (1<(aa s).length∧bAt (aa s) 0=48∧bAt (aa s) 1=120):=Ba s 48 120 (by omega) (by omega);have hbb:bY s ⟨#[48,98]⟩=decide (1<(aa s).length∧bAt (aa s) 0=48∧bAt (aa s) 1=98):=Ba s 48 98 (by omega) (by omega);have nb2:=@tV prog 109 .nilIface (.tmp 76) (by kernel_rfl);by_cases k1:1<(aa s).length∧bAt (aa s) 0=48∧bAt (aa s) 1=120
 ·rw[decide_eq_true k1]at hx;have hB:dS (aa s)=16:=by unfold dS;rw[if_pos k1]
  have hH:cg (aa s)=2:=by unfold cg;rw[if_pos ⟨k1.1,k1.2.1,.inl k1.2.2⟩]
  have hF:=hF 16 2 hB hH;have hle:=hle 16 2;have p2:(2:Int)≤s.size:=by omega
  have hs2:(s.extract 2 s.size).size≤1099511627776:=by rw[←ae,cC,length_drop,hl];omega
  have hR:bn 16 (aa (s.extract 2 s.size))=bn 16 ((aa s).drop 2):=by rw[cC]
  generalize hn:bn 16 ((aa s).drop 2)=n at *
  by_cases n0:n=0
  ·have e:bz (aa s)=.tup [.l (.v (.int .u64 0)),.l (.v (.int .i64 0))]:=by unfold bz;rw[hF,if_pos (.inl n0)];rfl
   have n0I:(n:Int)=0:=by omega
   simp only[go_sem,cI,hpI,hq,hx,cw,cv,jT,jS,nU,pt,p2,hs2,hR,n0I,e]
  ·have n0I:¬(n:Int)=0:=by omega
   rw[nG]at hF;have hpar:=rP (head:=2) hs (by omega) hn (by omega) (by omega);have hnat:bx 16 (aa (s.extract 2 (2+n)))=bx 16 (((aa s).drop 2).take n):=by rw[Fp]
   have ea:IntKind.i64.wrap (2+(n:Int))=((2+n:Nat):Int):=by rw[IntKind.wrap_i64];omega
   have hend:((2+n:Nat):Int)≤s.size:=by omega
   have hst:(2:Int)≤((2+n:Nat):Int):=by omega
   simp only[go_sem,cI,hpI,hq,hx,cw,cv,jT,jS,nU,pt,p2,hs2,hR,n0I];refine sD mixed [⟨_,parseS⟩] [] ?_;by_cases hv:bx 16 (((aa s).drop 2).take n)<18446744073709551616
   ·rw[nG]at hF;have e2:kW (bx 16 (((aa s).drop 2).take n))=.tup [.l (.v (.int .u64 (bx 16 (((aa s).drop 2).take n)))),.l (.v .nilIface)]:=by unfold kW;rw[if_pos hv]
    have e:bz (aa s)=.tup [.l (.v (.int .u64 (bx 16 (((aa s).drop 2).take n)))),.l (.v (.int .i64 ((2+n:Nat):Int)))]:=by unfold bz;rw[hF]
    simp only[go_sem,cI,ea,hend,hst,parse_run,parse_pan,hpar,hnat,e2,↓nb2,e]
   ·rw[pS]at hF;have e2:kW (bx 16 (((aa s).drop 2).take n))=.tup [.l (.v (.int .u64 18446744073709551615)),.l ri]:=by unfold kW;rw[if_neg hv]
    have e:bz (aa s)=.tup [.l (.v (.int .u64 0)),.l (.v (.int .i64 0))]:=by unfold bz;rw[hF];rfl
    simp only[go_sem,cI,ea,hend,hst,parse_run,parse_pan,hpar,hnat,e2,ri,e]
 rw[decide_eq_false k1]at hx;by_cases k2:1<(aa s).length∧bAt (aa s) 0=48∧bAt (aa s) 1=98
 ·rw[decide_eq_true k2]at hbb;have hB:dS (aa s)=2:=by unfold dS;rw[if_neg k1,if_pos k2]
  have hH:cg (aa s)=2:=by unfold cg;rw[if_pos ⟨k2.1,k2.2.1,.inr k2.2.2⟩]
  have hF:=hF 2 2 hB hH;have hle:=hle 2 2;have p2:(2:Int)≤s.size:=by omega
  have hs2:(s.extract 2 s.size).size≤1099511627776:=by rw[←ae,cC,length_drop,hl];omega
  have hR:bn 2 (aa (s.extract 2 s.size))=bn 2 ((aa s).drop 2):=by rw[cC]
  generalize hn:bn 2 ((aa s).drop 2)=n at *
  by_cases n0:n=0
  ·have e:bz (aa s)=.tup [.l (.v (.int .u64 0)),.l (.v (.int .i64 0))]:=by unfold bz;rw[hF,if_pos (.inl n0)];rfl
   have n0I:(n:Int)=0:=by omega
   simp only[go_sem,cI,hpI,hq,hx,hbb,cw,cv,jT,jS,nU,pt,p2,hs2,hR,n0I,e]
  ·have n0I:¬(n:Int)=0:=by omega
   rw[nG]at hF;have hpar:=rP (head:=2) hs (by omega) hn (by omega) (by omega);have hnat:bx 2 (aa (s.extract 2 (2+n)))=bx 2 (((aa s).drop 2).take n):=by rw[Fp]
   have ea:IntKind.i64.wrap (2+(n:Int))=((2+n:Nat):Int):=by rw[IntKind.wrap_i64];omega
   have hend:((2+n:Nat):Int)≤s.size:=by omega
   have hst:(2:Int)≤((2+n:Nat):Int):=by omega
   simp only[go_sem,cI,hpI,hq,hx,hbb,cw,cv,jT,jS,nU,pt,p2,hs2,hR,n0I];refine sD mixed [⟨_,parseS⟩] [] ?_;by_cases hv:bx 2 (((aa s).drop 2).take n)<18446744073709551616
   ·rw[nG]at hF;have e2:kW (bx 2 (((aa s).drop 2).take n))=.tup [.l (.v (.int .u64 (bx 2 (((aa s).drop 2).take n)))),.l (.v .nilIface)]:=by unfold kW;rw[if_pos hv]
    have e:bz (aa s)=.tup [.l (.v (.int .u64 (bx 2 (((aa s).drop 2).take n)))),.l (.v (.int .i64 ((2+n:Nat):Int)))]:=by unfold bz;rw[hF]
    simp only[go_sem,cI,ea,hend,hst,parse_run,parse_pan,hpar,hnat,e2,↓nb2,e]
   ·rw[pS]at hF;have e2:kW (bx 2 (((aa s).drop 2).take n))=.tup [.l (.v (.int .u64 18446744073709551615)),.l ri]:=by unfold kW;rw[if_neg hv]
    have e:bz (aa s)=.tup [.l (.v (.int .u64 0)),.l (.v (.int .i64 0))]:=by unfold bz;rw[hF];rfl
    simp only[go_sem,cI,ea,hend,hst,parse_run,parse_pan,hpar,hnat,e2,ri,e]
 rw[decide_eq_false k2]at hbb;have hB:dS (aa s)=10:=by unfold dS;rw[if_neg k1,if_neg k2]
 have hH:cg (aa s)=0:=by unfold cg;rw[if_neg (fun h=>h.2.2.elim (fun h3=>k1 ⟨h.1,h.2.1,h3⟩) fun h3=>k2 ⟨h.1,h.2.1,h3⟩)]
 have hF:=hF 10 0 hB hH;have hle:=hle 10 0;have p2:(0:Int)≤s.size:=by omega
 have hs2:(s.extract 0 s.size).size≤1099511627776:=by rw[←ae,cC,length_drop,hl];omega
 have hR:bn 10 (aa (s.extract 0 s.size))=bn 10 ((aa s).drop 0):=by rw[cC]
 rw[List.drop_zero]at hF hle hR;generalize hn:bn 10 (aa s)=n at *
 rw[Nat.zero_add]at hF;by_cases n0:n=0
 ·have e:bz (aa s)=.tup [.l (.v (.int .u64 0)),.l (.v (.int .i64 0))]:=by unfold bz;rw[hF,if_pos (.inl n0)];rfl
  have n0I:(n:Int)=0:=by omega
  simp only[go_sem,cI,hpI,hq,hx,hbb,cw,cv,jT,jS,nU,pt,p2,hs2,hR,n0I,e]
 ·have n0I:¬(n:Int)=0:=by omega
  by_cases n1:1<n
  ·have n1I:(1:Int)<n:=by omega
   by_cases z:ab s 0=48
   ·have e:bz (aa s)=.tup [.l (.v (.int .u64 0)),.l (.v (.int .i64 0))]:=by unfold bz;rw[hF,if_pos (.inr ⟨rfl,n1,z⟩)];rfl
    simp only[go_sem,cI,hpI,hq,hx,hbb,cw,cv,jT,jS,nU,pt,p2,hs2,hR,n0I,n1I,z,e]
   ·rw[nG]at hF;have hpar:=rP (base:=10) (head:=0) (n:=n) hs (by omega) (by rw[List.drop_zero];exact hn) (by omega) (by omega);have hnat:bx 10 (aa (s.extract 0 n))=bx 10 ((aa s).take n):=by rw[nP]
    rw[Nat.zero_add]at hpar;have ea:IntKind.i64.wrap (0+(n:Int))=(n:Int):=by rw[IntKind.wrap_i64];omega
    have hend:(n:Int)≤s.size:=by omega
    have hst:(0:Int)≤(n:Int):=by omega
    simp only[go_sem,cI,hpI,hq,hx,hbb,cw,cv,jT,jS,nU,pt,p2,hs2,hR,n0I,n1I,z];refine sD mixed [⟨_,parseS⟩] [] ?_;by_cases hv:bx 10 ((aa s).take n)<18446744073709551616
    ·rw[nG]at hF;have e2:kW (bx 10 ((aa s).take n))=.tup [.l (.v (.int .u64 (bx 10 ((aa s).take n)))),.l (.v .nilIface)]:=by unfold kW;rw[if_pos hv]
     have e:bz (aa s)=.tup [.l (.v (.int .u64 (bx 10 ((aa s).take n)))),.l (.v (.int .i64 (n:Int)))]:=by unfold bz;rw[hF]
     simp only[go_sem,cI,ea,hend,hst,parse_run,parse_pan,hpar,hnat,e2,↓nb2,e]
    ·rw[pS]at hF;have e2:kW (bx 10 ((aa s).take n))=.tup [.l (.v (.int .u64 18446744073709551615)),.l ri]:=by unfold kW;rw[if_neg hv]
     have e:bz (aa s)=.tup [.l (.v (.int .u64 0)),.l (.v (.int .i64 0))]:=by unfold bz;rw[hF];rfl
     simp only[go_sem,cI,ea,hend,hst,parse_run,parse_pan,hpar,hnat,e2,ri,e]
  ·have n1I:¬(1:Int)<n:=by omega
   rw[nG]at hF;have hpar:=rP (base:=10) (head:=0) (n:=n) hs (by omega) (by rw[List.drop_zero];exact hn) (by omega) (by omega);have hnat:bx 10 (aa (s.extract 0 n))=bx 10 ((aa s).take n):=by rw[nP]
   rw[Nat.zero_add]at hpar;have ea:IntKind.i64.wrap (0+(n:Int))=(n:Int):=by rw[IntKind.wrap_i64];omega
   have hend:(n:Int)≤s.size:=by omega
   have hst:(0:Int)≤(n:Int):=by omega
   simp only[go_sem,cI,hpI,hq,hx,hbb,cw,cv,jT,jS,nU,pt,p2,hs2,hR,n0I,n1I];refine sD mixed [⟨_,parseS⟩] [] ?_;by_cases hv:bx 10 ((aa s).take n)<18446744073709551616
   ·rw[nG]at hF;have e2:kW (bx 10 ((aa s).take n))=.tup [.l (.v (.int .u64 (bx 10 ((aa s).take n)))),.l (.v .nilIface)]:=by unfold kW;rw[if_pos hv]
    have e:bz (aa s)=.tup [.l (.v (.int .u64 (bx 10 ((aa s).take n)))),.l (.v (.int .i64 (n:Int)))]:=by unfold bz;rw[hF]
    simp only[go_sem,cI,ea,hend,hst,parse_run,parse_pan,hpar,hnat,e2,↓nb2,e]
   ·rw[pS]at hF;have e2:kW (bx 10 ((aa s).take n))=.tup [.l (.v (.int .u64 18446744073709551615)),.l ri]:=by unfold kW;rw[if_neg hv]
    have e:bz (aa s)=.tup [.l (.v (.int .u64 0)),.l (.v (.int .i64 0))]:=by unfold bz;rw[hF];rfl
    simp only[go_sem,cI,ea,hend,hst,parse_run,parse_pan,hpar,hnat,e2,ri,e]
abbrev UG:am prog 233 :=
 mz1 func233 (aT) ((fun s=>0<s.size∧s.size≤1099511627776)) ((fun s=>.ret (bz (aa s)))) (asP fun s h=>sQ s h.1 h.2)
end Ly
namespace Ly
def iW (t:Tok)(n:Int):AV:=.tup [kt t,.l (.v (.int .i64 n))]
abbrev Oo:am prog 193 :=
 mz1 func193 (aT) ((fun s=>s.size≤1099511627776)) ((fun s=>.ret (iW ⟨1,ao ((aa s).take (aS aM (aa s))),0,0⟩ (aS aM (aa s))))) (asP fun s hs=>by
 refine aq [⟨_,Rz⟩] rfl ?_;have hm:s.size≤maxLen:=by unfold maxLen;omega
 have hle:aS aM (aa s)≤(aa s).length:=kr _ _;rw[ae]at hle;have hleI:(aS aM (aa s):Int)≤s.size:=by omega
 simp only[go_sem,G9,hm,hleI,iW,kt,←rj,Int.toNat_zero])
abbrev Oq:am prog 192 :=
 mz1 func192 (aT) ((fun _=>True)) ((fun s=>.ret (iW ⟨4,ao ((aa s).take (ba (aa s))),0,0⟩ (ba (aa s))))) (asP fun s hs=>by
 refine aq [⟨_,Cu⟩] rfl ?_;have hle:=wD (aa s);rw[ae]at hle;have hleI:(ba (aa s):Int)≤s.size:=by omega
 simp only[go_sem,zS,zR,hleI,iW,kt,←rj,Int.toNat_zero])
abbrev Iw:am prog 195 :=
 mz1 func195 (aT) ((fun s=>s.size≤1099511627776)) ((fun s=>.ret (iW ⟨3,ao (bL (aa s)).1,0,0⟩ (bL (aa s)).2))) (asP fun s hs=>by
 refine aq [⟨_,On⟩] rfl ?_;simp only[go_sem,oZ,hs,iW,kt,ak])
def ul (l:List Int):Int:=if(aE l).2<l.length∧aM (bAt l (aE l).2)=true then 0 else(aE l).2
abbrev Rb:am prog 194 :=
 mz1 func194 (aT) ((fun s=>0<s.size∧s.size≤1099511627776)) ((fun s=>.ret (iW ⟨2,emp,(aE (aa s)).1,0⟩ (ul (aa s))))) (asP fun s hs=>by
 refine aq [⟨_,UG⟩,⟨_,Sk⟩] rfl ?_;have hl:(aa s).length=s.size:=ae s;have hbb:=gR s (aE (aa s)).2;by_cases h1:(aE (aa s)).2<s.size
 ·have h1I:((aE (aa s)).2:Int)<s.size:=by omega
  cases h2:aM (ab s (aE (aa s)).2) with
  |true =>
   have e:ul (aa s)=0:=by unfold ul;rw[hl,←hbb,if_pos ⟨h1,h2⟩]
   simp only[go_sem,bz,hs,h1I,h2,iW,kt,e,ak]
  |false =>
   have e:ul (aa s)=(aE (aa s)).2:=by unfold ul;rw[hl,←hbb,h2,if_neg (by simp)]
   simp only[go_sem,bz,hs,h1I,h2,iW,kt,e,ak]
 ·have h1I:¬((aE (aa s)).2:Int)<s.size:=by omega
  have e:ul (aa s)=(aE (aa s)).2:=by unfold ul;rw[hl,nG]
  simp only[go_sem,bz,hs,h1I,iW,kt,e,ak])
theorem QM (s:ByteArray)(h0:0<s.size)(hs:s.size≤1099511627776):Sw f148 0 ⟨0,ax 0 [aT.enc s],[]⟩ (oQ f148 (.ret (oS (dH (aa s))))):=by
 refine aq [⟨_,NW⟩,⟨_,JV⟩,⟨_,Oo⟩,⟨_,Oq⟩,⟨_,Iw⟩,⟨_,Rb⟩] rfl ?_;have hl:(aa s).length=s.size:=ae s;have hpI:(0:Int)<s.size:=by omega
 have hb0:=ig s;by_cases c1:ce (ab s 0)=true
 ·have e:dH (aa s)=.ok (⟨1,ao ((aa s).take (aS aM (aa s))),0,0⟩,aS aM (aa s)):=by unfold dH;rw[if_pos (by rw[←hb0];exact c1)]
  have hn:=jC (by omega) e;have hn0:¬(aS aM (aa s):Int)=0:=by omega
  simp only[go_sem,hpI,c1,hs,iW,kt,hn0,e,oS]
 have k1:ce (ab s 0)=false:=by simpa using c1
 by_cases c2:dM (ab s 0)=true∨ab s 0=39
 ·have hO:dH (aa s)=if(aE (aa s)).2=0∨(aE (aa s)).2<(aa s).length∧aM (bAt (aa s) (aE (aa s)).2)=true then .error 81 else .ok (⟨2,emp,(aE (aa s)).1,0⟩,(aE (aa s)).2):=by
   unfold dH;rw[if_neg (by rw[←hb0];exact c1),if_pos (by rw[←hb0];exact c2)]
  have hz:ul (aa s)=0↔(aE (aa s)).2=0∨(aE (aa s)).2<(aa s).length∧aM (bAt (aa s) (aE (aa s)).2)=true:=by
   unfold ul;split
   ·rename_i h;exact⟨fun _=>.inr h,fun _=>rfl⟩
   ·rename_i h;exact⟨fun e=>.inl (by omega),fun e=>e.elim (fun e=>by omega) fun e=>absurd e h⟩
  by_cases hn:ul (aa s)=0
  ·have e:dH (aa s)=.error 81:=by rw[hO,if_pos (hz.1 hn)]
   cases k2:dM (ab s 0) with
   |true =>
    simp only[go_sem,hpI,k1,k2,h0,hs,iW,kt,hn,e,oS];refine bu (ctx:=[]) mixed ⟨[],[(3,[0])],[(1,[0]),(2,[0])]⟩ (by kernel_rfl) ?_;simp only[go_sem,e,oS,kt,ak]
   |false =>
    have k3:ab s 0=39:=c2.resolve_left (by rw[k2];simp);simp only[go_sem,hpI,k1,k2,k3,show ce 39=false from rfl,show dM 39=false from rfl,h0,hs,iW,kt,hn,e,oS];refine bu (ctx:=[]) mixed ⟨[],[(3,[0])],[(1,[0]),(2,[0])]⟩ (by kernel_rfl) ?_;simp only[go_sem,e,oS,kt,ak]
  ·have e:dH (aa s)=.ok (⟨2,emp,(aE (aa s)).1,0⟩,(aE (aa s)).2):=by rw[hO,if_neg (fun h=>hn (hz.2 h))]
   have e4:ul (aa s)=(aE (aa s)).2:=by
    unfold ul;rw[if_neg (fun h=>hn (hz.2 (.inr h)))]
   rw[e4]at hn;cases k2:dM (ab s 0) with
   |true=>simp only[go_sem,hpI,k1,k2,h0,hs,iW,kt,hn,e4,e,oS]
   |false =>
    have k3:ab s 0=39:=c2.resolve_left (by rw[k2];simp);simp only[go_sem,hpI,k1,k2,k3,show ce 39=false from rfl,show dM 39=false from rfl,h0,hs,iW,kt,hn,e4,e,oS]
 have k2:dM (ab s 0)=false:=by simpa using fun h=>c2 (.inl h)
 have k3:¬ab s 0=39:=fun h=>c2 (.inr h);by_cases c3:ab s 0=34
 ·have hO:dH (aa s)=if(bL (aa s)).2=0 then .error 82 else .ok (⟨3,ao (bL (aa s)).1,0,0⟩,(bL (aa s)).2):=by
   unfold dH;rw[if_neg (by rw[←hb0];exact c1),if_neg (by rw[←hb0];exact c2),if_pos (by rw[←hb0];exact c3)]
  by_cases hn:(bL (aa s)).2=0
  ·have e:dH (aa s)=.error 82:=by rw[hO,if_pos hn]
   have hnI:((bL (aa s)).2:Int)=0:=by omega
   simp only[go_sem,hpI,k1,k2,k3,c3,show ce 34=false from rfl,show dM 34=false from rfl,hs,iW,kt,hnI,e,oS];refine bu (ctx:=[]) mixed ⟨[],[(3,[0])],[(1,[0]),(2,[0])]⟩ (by kernel_rfl) ?_;simp only[go_sem,e,oS,kt,ak]
  ·have e:dH (aa s)=.ok (⟨3,ao (bL (aa s)).1,0,0⟩,(bL (aa s)).2):=by rw[hO,if_neg hn]
   have hnI:¬((bL (aa s)).2:Int)=0:=by omega
   simp only[go_sem,hpI,k1,k2,k3,c3,show ce 34=false from rfl,show dM 34=false from rfl,hs,iW,kt,hnI,e,oS]
 ·have hO:dH (aa s)=if ba (aa s)=0 then .error 80 else .ok (⟨4,ao ((aa s).take (ba (aa s))),0,0⟩,ba (aa s)):=by
   unfold dH;rw[if_neg (by rw[←hb0];exact c1),if_neg (by rw[←hb0];exact c2),if_neg (by rw[←hb0];exact c3)]
  by_cases hn:ba (aa s)=0
  ·have e:dH (aa s)=.error 80:=by rw[hO,if_pos hn]
   have hnI:(ba (aa s):Int)=0:=by omega
   simp only[go_sem,hpI,k1,k2,k3,c3,iW,kt,hnI,e,oS];refine bu (ctx:=[]) mixed ⟨[],[(3,[0])],[(1,[0]),(2,[0])]⟩ (by kernel_rfl) ?_;simp only[go_sem,e,oS,kt,ak]
  ·have e:dH (aa s)=.ok (⟨4,ao ((aa s).take (ba (aa s))),0,0⟩,ba (aa s)):=by rw[hO,if_neg hn]
   have hnI:¬(ba (aa s):Int)=0:=by omega
   simp only[go_sem,hpI,k1,k2,k3,c3,iW,kt,hnI,e,oS]
abbrev Tn:am prog 148 :=
 mz1 func148 (aT) ((fun s=>0<s.size∧s.size≤1099511627776)) ((fun s=>.ret (oS (dH (aa s))))) (asP fun s h=>QM s h.1 h.2)
end Ly
namespace Ly
theorem I2 (s:ByteArray):Sw f95 0 ⟨0,ax 0 [aT.enc s],[]⟩ (oQ f95 (.ret (pP (eF (aa s)) (iO (aa s))))):=by
 refine aq [⟨_,Rz⟩,⟨_,oG⟩,⟨_,Tn⟩] rfl ?_;have hl:(aa s).length=s.size:=ae s;by_cases h5:512<s.size
 ·have h5I:(512:Int)<s.size:=by omega
  have e1:eF (aa s)=([],0,3):=by unfold eF;rw[pS]
  have e2:iO (aa s)=true:=by unfold iO;rw[hl];exact decide_eq_true h5
  simp only[go_sem,h5I,e1,e2,pP,BC]
 have h5I:¬(512:Int)<s.size:=by omega
 have hs:s.size≤1099511627776:=by omega
 have e1:eF (aa s)=aJ 0 (aa s):=by unfold eF;rw[nG]
 have e2:iO (aa s)=false:=by unfold iO;rw[hl];exact decide_eq_false h5
 simp only[go_sem,h5I,e1,e2,pP];refine bF (ι:=Nat×List Tok) (Ug s) (fun p=>⟨1,[(0,sv s),(5,.s (.l (.sl 0 0 p.2.length))),(6,iv p.1)],[(0,some (CJ p.2))]⟩) (fun p=>s.size-p.1) (0,[]) ⟨zero_le _,Nat.le_refl _,by simp⟩ ?_ ?_
 ·exact(Wk.nil 5 137 4 rfl).trans (wR [128])
 rintro⟨p,l⟩ ⟨hp,hlp,hinv⟩;simp only at hp hlp hinv;refine aw [⟨_,Rz⟩,⟨_,oG⟩,⟨_,Tn⟩] ?_;obtain⟨k,hk⟩:∃k,aS an ((aa s).drop p)=k:=⟨_,rfl⟩
 have hkl:k≤s.size-p:=by
  have:aS an ((aa s).drop p)≤((aa s).drop p).length:=kr _ _;rw[length_drop,hl]at this;omega
 have hpI:(p:Int)≤s.size:=by omega
 have hx1:(s.extract p s.size).size≤maxLen:=by rw[←ae,cC,length_drop,hl];unfold maxLen;omega
 have hx2:aS an (aa (s.extract p s.size))=k:=by rw[cC,hk]
 have ew:IntKind.i64.wrap ((p:Int)+(k:Int))=((p+k:Nat):Int):=by rw[IntKind.wrap_i64];omega
 have hpk:((p+k:Nat):Int)≤s.size:=by omega
 have hdd:((aa s).drop p).drop k=(aa s).drop (p+k):=by rw[drop_drop]
 by_cases hend:p+k=s.size
 ·have hendI:((p+k:Nat):Int)=s.size:=by omega
  have hd:aJ p ((aa s).drop p)=([],p+((aa s).drop p).length,0):=e8 (by rw[hk,hdd];unfold cA;rw[length_drop,hl,hend];simp);have hF:aJ 0 (aa s)=(l,s.size,0):=by rw[hinv,hd,append_nil,length_drop,hl];exact Prod.ext rfl (Prod.ext (show p+(s.size-p)=s.size by omega) rfl)
  simp only[go_sem,CJ,G9,hpI,hx1,hx2,ew,hendI,hF,uh]
 have hendI:¬((p+k:Nat):Int)=s.size:=by omega
 obtain⟨m,hm⟩:∃m,(aa s).drop (p+k)=m:=⟨_,rfl⟩;have hml:m.length=s.size-(p+k):=by rw[←hm,length_drop,hl]
 have hx3:aa (s.extract (p+k) s.size)=m:=by rw[cC,hm]
 have hx4:(s.extract (p+k) s.size).size=s.size-(p+k):=by rw[←ae,hx3,hml]
 have hx5:0<(s.extract (p+k) s.size).size∧(s.extract (p+k) s.size).size≤1099511627776:=by omega
 have hP:bY (s.extract (p+k) s.size) ⟨#[47,47]⟩=decide (1<m.length∧bAt m 0=47∧bAt m 1=47):=by rw[←hx3];exact Ba _ 47 47 (by omega) (by omega)
 have hD:cA m=decide (1<m.length∧bAt m 0=47∧bAt m 1=47):=by
  unfold cA;rw[decide_eq_false (show ¬m.length=0 by omega),Bool.false_or,Bool.eq_iff_iff];simp[and_assoc]
 by_cases hc:1<m.length∧bAt m 0=47∧bAt m 1=47
 ·rw[decide_eq_true hc]at hP hD;have hd:aJ p ((aa s).drop p)=([],p+((aa s).drop p).length,0):=e8 (by rw[hk,hdd,hm];exact hD);have hF:aJ 0 (aa s)=(l,s.size,0):=by rw[hinv,hd,append_nil,length_drop,hl];exact Prod.ext rfl (Prod.ext (show p+(s.size-p)=s.size by omega) rfl)
  simp only[go_sem,CJ,G9,hpI,hx1,hx2,ew,hendI,hpk,cw,cv,hP,hF,uh]
 rw[decide_eq_false hc]at hP hD;have hD':cA (((aa s).drop p).drop k)=false:=by rw[hdd,hm];exact hD
 rcases ho:dH m with e | ⟨t,n⟩
 ·have hd:aJ p ((aa s).drop p)=([],p+k,e):=by
   have:=gG (p:=p) (l:=(aa s).drop p) (e:=e) (by rw[hk];exact hD') (by rw[hk,hdd,hm];exact ho);rw[hk]at this;exact this
  have hF:aJ 0 (aa s)=(l,p+k,e):=by rw[hinv,hd,append_nil]
  have he:¬e=0:=by have:=Lh ho;omega
  simp only[go_sem,CJ,G9,hpI,hx1,hx2,hx3,hx5,ew,hendI,hpk,cw,cv,hP,ho,oS,kt,he,hF,uh]
 ·have hn:=jC (by omega) ho
  have hd:aJ p ((aa s).drop p)=({ t with pos:=((p+k:Nat):Int) }::(aJ (p+k+n) ((aa s).drop (p+k+n))).1,(aJ (p+k+n) ((aa s).drop (p+k+n))).2):=by
   have:=ib (p:=p) (l:=(aa s).drop p) (t:=t) (n:=n) (by rw[hk];exact hD') (by rw[hk,hdd,hm];exact ho);rw[hk,drop_drop,←Nat.add_assoc]at this;exact this
  have e3:IntKind.i64.wrap (((p+k:Nat):Int)+(n:Int))=((p+k+n:Nat):Int):=by rw[IntKind.wrap_i64];omega
  have hsn:=I3 l { t with pos:=((p+k:Nat):Int) };simp only at hsn;have hm1:l.length+1≤maxLen:=by unfold maxLen;omega
  have hb1:(l.length+1)*40≤140737488355328:=by omega
  simp only[go_sem,CJ,G9,hpI,hx1,hx2,hx3,hx5,ew,hendI,hpk,cw,cv,hP,ho,oS,kt,hm1,hb1,e3,hsn];exact⟨(p+k+n,l++[{ t with pos:=((p+k:Nat):Int) }]),⟨by simp only;omega,by simp only[List.length_append,List.length_cons,List.length_nil];omega,by rw[hinv,hd];simp⟩,by simp only;omega,Wk.renL [593] (by simp) (by simp) (by simp) (by simp[bI,AV.ren,SV.ren,LV.ren]) (by simp only[ac,List.map_cons,List.map_nil,Option.map_some,Blk.ren,fS];rfl)⟩
abbrev O0:am prog 95 :=
 mz1 func95 (aT) ((fun _=>True)) ((fun s=>.ret (pP (eF (aa s)) (iO (aa s))))) (asP fun s _=>I2 s)
end Ly
namespace Ly
abbrev lexS:am prog 43 :=
 mz1 func43 (aT) ((fun _=>True)) ((fun s=>.ret (Kt (eF (aa s))))) (asP fun s _=>by
 refine aq [⟨_,O0⟩] rfl ?_;by_cases h0:(eF (aa s)).2.2=0
 ·have hl:iO (aa s)=false:=by
   unfold iO;refine decide_eq_false fun h=>?_;unfold eF at h0;rw[if_pos h]at h0;cases h0
  simp only[go_sem,pP,uh,Kt,h0,hl]
 ·cases hl:iO (aa s)<;>simp only[go_sem,pP,uh,BC,Kt,h0,hl])
end Ly
end Go.Proofs.YtnhbidpdadkcjaaGreatDoor
