import Derived.Test.YtnhbidpdadkcjaaGreatDoorR29
import Derived.Laws.BitsLemmas
import Derived.Shelf.Pu.RangeError
import Derived.Lib.IfaceEq
open Go.RowKit
set_option linter.unusedVariables false
set_option linter.unusedSimpArgs false
set_option maxRecDepth 100000
set_option maxHeartbeats 8000000
open List (take_of_length_le length_drop drop_drop append_nil)
open Nat (zero_le)
open Int (toNat_of_nonneg)
namespace Go.Proofs.YtnhbidpdadkcjaaGreatDoor
open Tryz
namespace Ly
theorem KL (n:Int)(w:World) :
  Calls prog 147 #[.int .u8 n] w fun e w'=>e=.returned (.bool (az n))∧w=w':=by
 go_enter func147,ntmps147;go_wp2
 all_goals (go_ret;refine⟨eS ?_,rfl⟩;rw[Bool.eq_iff_iff];simp[az];try omega)
theorem MN (n:Int)(w:World) :
  Calls prog 145 #[.int .u8 n] w fun e w'=>e=.returned (.bool (iA n))∧w=w':=by
 go_enter func145,ntmps145;go_wp2
 all_goals (go_ret;refine⟨eS ?_,rfl⟩;rw[Bool.eq_iff_iff];simp[iA];try omega)
theorem Ez (args:Array Value)(w:World):(callFunc 147 args).run prog w=.ok (.enter 147 args) w:=by go_simp
theorem MK (s:ByteArray)(w:World)(hs:s.size≤maxLen) :
  Calls prog 117 #[.string s,.func (.func 147) #[] #[]] w fun e w'=>e=.returned (.int .i64 (mR az s.data.toList))∧w=w' :=
 J5 _ _ Ez KL s w hs
theorem kI (g:Int→Bool):∀l:List UInt8,mR g l=bz g (l.map fun b=>(b.toNat:Int))
 |[]=>rfl
 |c::l=>by rw[List.map_cons,jE,←kI g l];unfold mR;rw[List.takeWhile_cons];split<;>simp[Nat.add_comm, *]
abbrev SS:ap prog 116:=ze _ (asP fun _ _=>by go_simp) (bO .u8) (fun _=>True) (fun c=>bv (bX c)) (asP fun _=>rfl) <| asP fun s hs M w v _ hv=>by
 obtain rfl:v=.int .u8 s:=hv;exact(mp s w).mono fun e w' ⟨h1,h2⟩=>⟨⟨_,h1,rfl⟩,h2▸.refl _ _⟩
abbrev Ob:ap prog 165:=ze _ (asP fun _ _=>by go_simp) (bO .u8) (fun _=>True) (fun c=>bv (eI c)) (asP fun _=>rfl) <| asP fun s hs M w v _ hv=>by
 obtain rfl:v=.int .u8 s:=hv;exact(uU s w).mono fun e w' ⟨h1,h2⟩=>⟨⟨_,h1,rfl⟩,h2▸.refl _ _⟩
abbrev Xn:ap prog 118:=ze _ wh (bO .u8) (fun _=>True) (fun c=>bv (wordyB c)) (asP fun _=>rfl) <| asP fun s hs M w v _ hv=>by
 obtain rfl:v=.int .u8 s:=hv;exact(Cl s w).mono fun e w' ⟨h1,h2⟩=>⟨⟨_,h1,rfl⟩,h2▸.refl _ _⟩
abbrev zS:ap prog 145:=ze _ (asP fun _ _=>by go_simp) (bO .u8) (fun _=>True) (fun c=>bv (iA c)) (asP fun _=>rfl) <| asP fun s hs M w v _ hv=>by
 obtain rfl:v=.int .u8 s:=hv;exact(MN s w).mono fun e w' ⟨h1,h2⟩=>⟨⟨_,h1,rfl⟩,h2▸.refl _ _⟩
abbrev OB:ap prog 249 :=
 mz1 func249 (bO .u8) ((fun c=>0≤c∧c≤255)) ((fun c=>.ret (iv (aM c)))) (asP fun c hc=>by
 refine aq [⟨_,Ob⟩] rfl ?_;by_cases h1:48≤c∧c≤57
 ·have hd:eI c=true:=by simp[eI,h1]
  have e1:IntKind.u8.wrap (c-48)=c-48:=by rw[IntKind.wrap_u8];omega
  have e2:IntKind.i64.wrap (c-48)=c-48:=by rw[IntKind.wrap_i64];omega
  have e3:aM c=c-48:=by unfold aM;rw[if_pos h1]
  simp only[go_sem,hd,e1,e2,e3]
 ·have hd:eI c=false:=by simp[eI];omega
  by_cases h2:97≤c
  ·by_cases h3:c≤102
   ·have e1:IntKind.u8.wrap (c-97)=c-97:=by rw[IntKind.wrap_u8];omega
    have e2:IntKind.i64.wrap (c-97)=c-97:=by rw[IntKind.wrap_i64];omega
    have e4:IntKind.i64.wrap (c-97+10)=c-97+10:=by rw[IntKind.wrap_i64];omega
    have e3:aM c=c-97+10:=by unfold aM;rw[if_neg h1,if_pos ⟨h2,h3⟩];omega
    simp only[go_sem,hd,h2,h3,e1,e2,e4,e3]
   ·have h5:(65:Int)≤c:=by omega
    have h6:¬c≤70:=by omega
    have e3:aM c=16:=by unfold aM;rw[if_neg h1,nG,nG]
    simp only[go_sem,hd,h2,h3,h5,h6,e3]
  ·by_cases h5:65≤c
   ·by_cases h6:c≤70
    ·have e1:IntKind.u8.wrap (c-65)=c-65:=by rw[IntKind.wrap_u8];omega
     have e2:IntKind.i64.wrap (c-65)=c-65:=by rw[IntKind.wrap_i64];omega
     have e4:IntKind.i64.wrap (c-65+10)=c-65+10:=by rw[IntKind.wrap_i64];omega
     have e3:aM c=c-65+10:=by unfold aM;rw[if_neg h1,nG,if_pos ⟨h5,h6⟩];omega
     simp only[go_sem,hd,h2,h5,h6,e1,e2,e4,e3]
    ·have e3:aM c=16:=by unfold aM;rw[if_neg h1,nG,nG]
     simp only[go_sem,hd,h2,h5,h6,e3]
   ·have e3:aM c=16:=by unfold aM;rw[if_neg h1,nG,nG]
    simp only[go_sem,hd,h2,h5,e3])
def Lt (f:FuncId):Int→Bool:=if f=118 then wordyB else az
abbrev WF:ap prog 117:=HH _ (asP fun _ _=>by go_simp) bw tFn (fun s f=>s.size≤maxLen∧(f=118∨f=147)) (fun s f=>iv (bz (Lt f) (aa s))) (asP fun _ _=>rfl) <| asP fun s f hs M w u v _ hu hv=>by
 obtain rfl:u=.string s:=hu;obtain rfl:v=.func (.func f) #[] #[]:=hv;obtain⟨hs,rfl | rfl⟩:=hs
 ·refine(vF s w hs).mono fun e w' ⟨h1,h2⟩=>⟨⟨_,h1,?_⟩,h2▸.refl _ _⟩;rw[kI];rfl
 ·refine(MK s w hs).mono fun e w' ⟨h1,h2⟩=>⟨⟨_,h1,?_⟩,h2▸.refl _ _⟩;rw[kI];rfl
theorem nameB_nameL (s:ByteArray):ud s=eK (aa s):=by
 have hl:(aa s).length=s.size:=ae s;rcases Nat.eq_zero_or_pos s.size with h | h
 ·rw[←vj h];unfold eK;rw[hl,h];rfl
 ·rw[px h];unfold eK;rw[hl,kI]
  have h0:bAt (aa s) 0=(s[0].toNat:Int):=by
   have:=dw h;rw[←gq];unfold ab;rw[List.getD_eq_getElem?_getD,show Int.toNat 0=0 from rfl,List.getElem?_eq_getElem (by simpa using h)];rfl
  rw[h0];simp[h,aa];rfl
theorem CT (args:Array Value)(w:World):(callFunc 54 args).run prog w=.ok (.enter 54 args) w:=by go_simp
def nameS:ap prog 54:=ze _ CT bw (fun s=>s.size≤maxLen) (fun s=>bv (eK (aa s))) (fun _=>rfl) fun s hs M w v _ hv=>by
 obtain rfl:v=.string s:=hv;refine(zk s w hs).mono fun e w' ⟨h1,h2⟩=>⟨⟨_,h1,?_⟩,h2▸.refl _ _⟩;rw[nameB_nameL];rfl
theorem name_run {id:Nat}{h:ai}{args:List AV}:nameS.run id h args=iN (dV bw (fun s=>s.size≤maxLen)) (fun s=>.ret (bv (eK (aa s)))) h args:=rfl
theorem name_pan {id:Nat}{h:ai}{args:List AV}:nameS.pan id h args=iK (dV bw (fun s=>s.size≤maxLen)) (fun s=>.ret (bv (eK (aa s)))) h args:=rfl
theorem UX {s:ByteArray}(h:¬s=emp):0<s.size:=by
 rcases Nat.eq_zero_or_pos s.size with h0 | h0
 ·exact absurd (ez (List.eq_nil_of_length_eq_zero (by rw[ae];exact h0))) h
 ·exact h0
theorem nD (s:ByteArray)(c:Int)(w:World) :
  Calls prog 89 #[.string s,.int .u8 c] w fun e w'=>e=.returned (.int .i64 (Lib.indexByte s.data.toList c.toNat.toUInt8))∧w'=w:=by
 go_enter func89,ntmps89;go_wp2;rw[run_callFunc_extern func142 (by kernel_rfl) (by kernel_rfl) (by kernel_rfl) (e:=Extern.BytealgIndexByte.indexByte) (by kernel_rfl),Lib.run_indexByteString];simp only[Result.andThen];rw[Oper.upon_value];go_wp2;go_ret;exact⟨rfl,rfl⟩
theorem ES (s:ByteArray)(c:Int)(w:World) :
  Calls prog 38 #[.string s,.int .u8 c] w fun e w'=>e=.returned (.int .i64 (Lib.indexByte s.data.toList c.toNat.toUInt8))∧w'=w:=by
 go_enter func38,ntmps38
 go_wp2_with (go_at_call 89;refine(nD _ _ _).mono ?_;rintro e w' ⟨rfl,rfl⟩)
 go_ret;exact⟨rfl,rfl⟩
def lx (s:ByteArray)(c:Int):Int:=Lib.indexByte s.data.toList c.toNat.toUInt8
abbrev OE:ap prog 38:=HH _ (asP fun _ _=>by go_simp) bw (bO .u8) (fun _ _=>True) (fun s c=>iv (lx s c)) (asP fun _ _=>rfl) <| asP fun s c hs M w u v _ hu hv=>by
 obtain rfl:u=.string s:=hu;obtain rfl:v=.int .u8 c:=hv;exact(ES s c w).mono fun e w' ⟨h1,h2⟩=>⟨⟨_,h1,rfl⟩,h2▸.refl _ _⟩
theorem Lr (c:Int)(hc:0≤c∧c≤255):0≤lx zW c↔c∈qY:=by
 have:∀n:Nat,n<256→(0≤lx zW (n:Int)↔(n:Int)∈qY):=by decide +kernel
 have:=this c.toNat (by omega)
 rwa [toNat_of_nonneg hc.1]at this
abbrev X1:ap prog 98 :=
 mz2 func98 (bw) (bw) ((fun _ _=>True)) ((fun s p=>.ret (bv (bS s p)))) (asP fun s p _=>by
 refine aq [] rfl ?_;by_cases h:p.size≤s.size
 ·have hI:(p.size:Int)≤s.size:=by omega
  by_cases h2:s.extract 0 p.size=p
  ·simp only[go_sem,hI,Int.toNat_zero,h2,bS,h]
  ·simp only[go_sem,hI,Int.toNat_zero,h2,bS,h]
 ·have hI:¬(p.size:Int)≤s.size:=by omega
  simp only[go_sem,hI,bS,h,Bool.false_and])
theorem CS (args:Array Value)(w:World):(callFunc 47 args).run prog w=.ok (.enter 47 args) w:=by go_simp
def qx:ap prog 47 :=
 mk2 _ _ _ func47 rfl CS (bw) (bw) ((fun _ _=>True)) ((fun s p=>.ret (bv (bS s p)))) (by rw[ntmps47];decide) (fun s p _=>by
 refine aq [⟨_,X1⟩] rfl ?_;simp only[go_sem])
theorem cY {id:Nat}{h:ai}{args:List AV}:(qx).run id h args=iN (jN (bw) (bw) ((fun _ _=>True))) (fun x=>((fun s p=>.ret (bv (bS s p)))) x.1 x.2) h args:=rfl
theorem cX {id:Nat}{h:ai}{args:List AV}:(qx).pan id h args=iK (jN (bw) (bw) ((fun _ _=>True))) (fun x=>((fun s p=>.ret (bv (bS s p)))) x.1 x.2) h args:=rfl
theorem EP (s:ByteArray)(c d:Int)(hc:0≤c∧c≤255)(hd:0≤d∧d≤255):bS s (aj [c,d])=decide (1<(aa s).length∧bAt (aa s) 0=c∧bAt (aa s) 1=d):=by
 have hb:aa (aj [c,d])=[c,d]:=bj (by intro z hz;simp at hz;omega);rw[Bool.eq_iff_iff,rA,hb,decide_eq_true_eq];constructor
 ·rintro⟨t,ht⟩;rw[ht];exact⟨by simp,rfl,rfl⟩
 ·rintro⟨h1,h2,h3⟩;cases hs:aa s with
  |nil=>rw[hs]at h1;simp at h1
  |cons x t =>
   cases t with
   |nil=>rw[hs]at h1;simp at h1
   |cons y t =>
    rw[hs]at h2 h3;exact⟨t,by rw[←h2,←h3];rfl⟩
theorem Hd (args:Array Value)(w:World):(callFunc 232 args).run prog w=.ok (.enter 232 args) w:=by go_simp
def F8:ap prog 232 :=
 mk1 _ _ _ func232 rfl Hd (bw) ((fun _=>True)) ((fun s=>.ret (iv (bI (aa s))))) (by rw[ntmps232];decide) (fun s _=>by
 refine aq [⟨_,qx⟩,⟨_,OE⟩] rfl ?_;have hl:(aa s).length=s.size:=ae s;have h1:bS s ⟨#[60,60]⟩=decide (1<s.size∧bAt (aa s) 0=60∧bAt (aa s) 1=60):=by rw[←hl];exact EP s 60 60 (by omega) (by omega)
 have h2:bS s ⟨#[62,62]⟩=decide (1<s.size∧bAt (aa s) 0=62∧bAt (aa s) 1=62):=by rw[←hl];exact EP s 62 62 (by omega) (by omega)
 by_cases c1:1<s.size∧bAt (aa s) 0=60∧bAt (aa s) 1=60
 ·have e:bI (aa s)=2:=by unfold bI;rw[pS]
  rw[decide_eq_true c1]at h1;simp only[go_sem,cY,cX,h1,e]
 ·rw[decide_eq_false c1]at h1;by_cases c2:1<s.size∧bAt (aa s) 0=62∧bAt (aa s) 1=62
  ·have e:bI (aa s)=2:=by unfold bI;rw[pS]
   rw[decide_eq_true c2]at h2;simp only[go_sem,cY,cX,h1,h2,e]
  ·rw[decide_eq_false c2]at h2;by_cases h0:s=emp
   ·subst h0;have e:bI (aa emp)=0:=rfl;simp only[go_sem,cY,cX,h1,h2,e,ac]
   ·have hne:¬s=emp:=h0;have hp:0<s.size:=UX h0;have hpI:(0:Int)<s.size:=by omega
    have hr:=bN s 0;have hi:=Lr (ab s 0) hr;have hb:ab s 0=bAt (aa s) 0:=gq s;by_cases c3:ab s 0∈qY
    ·have e:bI (aa s)=1:=by unfold bI;rw[nG,if_pos ⟨by omega,by rw[←hb];exact c3⟩]
     have hge:=hi.2 c3;unfold zW at hge;simp only[go_sem,cY,cX,h1,h2,e,hne,ac,hpI,hge]
    ·have e:bI (aa s)=0:=by unfold bI;rw[nG,if_neg (by rw[←hb];exact fun h=>c3 h.2)]
     have hge:¬0≤lx zW (ab s 0):=fun h=>c3 (hi.1 h);unfold zW at hge;simp only[go_sem,cY,cX,h1,h2,e,hne,ac,hpI,hge])
theorem Dy {id:Nat}{h:ai}{args:List AV}:(F8).run id h args=iN (dV (bw) ((fun _=>True))) ((fun s=>.ret (iv (bI (aa s))))) h args:=rfl
theorem Dx {id:Nat}{h:ai}{args:List AV}:(F8).pan id h args=iK (dV (bw) ((fun _=>True))) ((fun s=>.ret (iv (bI (aa s))))) h args:=rfl
end Ly
namespace Ly
theorem mixed:Tryz.prog.follows .mixedOrders=true:=by kernel_rfl
abbrev nP:ap prog 144 :=
 mz1 func144 (bO .u8) ((fun _=>True)) ((fun c=>.ret (.s (.l (.v (.int .u8 (dh c))))))) (asP fun c _=>by
 refine aq [] rfl ?_;by_cases h0:c=0
 ·subst h0;simp only[go_sem,dh]
 by_cases h1:c=9
 ·subst h1;simp only[go_sem,dh]
 by_cases h2:c=10
 ·subst h2;simp only[go_sem,dh]
 by_cases h3:c=13
 ·subst h3;simp only[go_sem,dh]
 by_cases h4:c=34
 ·subst h4;simp only[go_sem,dh]
 by_cases h5:c=92
 ·subst h5;simp only[go_sem,dh]
 have e:dh c=0:=by unfold dh;simp only[h0,h1,h2,h3,h4,h5,or_self,if_false]
 simp only[go_sem,h0,h1,h2,h3,h4,h5,e])
theorem YE (l:List Int)(x:Int):l.map ay++[[LV.v (.int .u8 x)]]=(l++[x]).map ay:=by rw[List.map_append];rfl
theorem YY (l:List Int)(x:Int):((l++[x]).map ay).take (l.length+1)=(l++[x]).map ay:=take_of_length_le (by simp)
theorem rN {s:ByteArray}{i:Nat}(h:i<s.size):(aa s).take (i+1)=(aa s).take i++[ab s i]:=by
 rw[List.take_add_one,dw h];rfl
theorem AN (a b:List Int):ee (a++b)=ee a++ee b:=by
 unfold ee;rw[List.flatMap_append]
theorem FE {s:ByteArray}{i:Nat}(h:i<s.size):ee ((aa s).take (i+1))=ee ((aa s).take i)++dz (ab s i):=by
 rw[rN h,AN];simp[ee]
theorem sW (c:Int):(dz c).length≤4:=by
 unfold dz;split
 ·simp
 ·split<;>simp
theorem quoteB_len:∀l:List Int,(ee l).length≤4*l.length
 |[]=>by simp[ee]
 |c::l=>by
  have h1:=quoteB_len l;have h2:=sW c;have:ee (c::l)=dz c++ee l:=rfl;rw[this,List.length_append,List.length_cons];omega
theorem Xz:∀n:Nat,n<256→bits .and .u8 (n:Int) 15=(n:Int) % 16:=by decide +kernel
theorem XQ:∀n:Nat,n<16→ab ⟨#[48,49,50,51,52,53,54,55,56,57,97,98,99,100,101,102]⟩ (n:Int)=jY n:=by decide +kernel
theorem P0 (s:ByteArray)(hs:s.size≤1000000):Sw f93 0 ⟨0,aB 0 [bw.enc s],[]⟩ (oQ f93 (.ret (sv (aj (eg (aa s)))))):=by
 refine aq [⟨_,nP⟩,⟨_,zS⟩] rfl ?_;simp only[go_sem];refine ba (ι:=Nat×List Int) (fun p=>p.1≤s.size∧p.2=34::ee ((aa s).take p.1)) (fun p=>⟨1,[(0,sv s),(3,.s (.l (.sl 0 0 p.2.length))),(8,iv s.size),(9,iv p.1)],[(0,some (ca p.2))]⟩) (fun p=>s.size-p.1) (0,[34]) ⟨zero_le _,rfl⟩ (wR [16]) ?_;rintro⟨i,l⟩ ⟨hi,hl⟩;simp only at hi hl;refine aw [⟨_,nP⟩,⟨_,zS⟩] ?_
 have hlen:l.length≤4*i+1:=by
  have:=quoteB_len ((aa s).take i);rw[List.length_take]at this;rw[hl,List.length_cons];omega
 have hm1:l.length+1≤maxLen:=by unfold maxLen;omega
 have hm2:l.length+2≤maxLen:=by unfold maxLen;omega
 have hm4:l.length+4≤maxLen:=by unfold maxLen;omega
 have hb1:(l.length+1)*1≤140737488355328:=by omega
 have hb2:(l.length+2)*1≤140737488355328:=by omega
 have hb4:(l.length+4)*1≤140737488355328:=by omega
 by_cases hlt:i<s.size
 ·have hltI:(i:Int)<s.size:=by omega
  have hr:=bN s i;have hq:=FE hlt;have ei:=wI i;by_cases h1:dh (ab s i)=0
  ·by_cases h2:iA (ab s i)=true
   ·have e1:dz (ab s i)=[ab s i]:=by unfold dz;rw[if_neg (by simp[h1]),if_pos h2]
    simp only[go_sem,ca,hltI,h1,h2,hm1,hb1,ei];exact⟨(i+1,l++[ab s i]),⟨hlt,by simp only;rw[hq,e1,hl];rfl⟩,by simp only;omega,Wk.renL [273] (by simp) (by simp) (by simp) (by simp[bR,AV.ren,SV.ren,LV.ren]) (by simp[hget,Blk.ren,ay,LV.ren,Function.comp_def])⟩
   ·have h2':iA (ab s i)=false:=by simpa using h2
    have e1:dz (ab s i)=[92,120,jY (ab s i / 16),jY (ab s i % 16)]:=by unfold dz;rw[if_neg (by simp[h1]),if_neg h2]
    have e2:(ab s i).fdiv (2 ^ min 4 IntKind.u8.bits)=ab s i / 16:=by
     rw[show(2:Int) ^ min 4 IntKind.u8.bits=16 from rfl,Int.fdiv_eq_ediv_of_nonneg _ (by omega)]
    have e2':(ab s i).fdiv (2 ^ min 4 8)=ab s i / 16:=e2
    have e3:bits .and .u8 (ab s i) 15=ab s i % 16:=by
     have:=Xz (ab s i).toNat (by omega)
     rwa [toNat_of_nonneg hr.1]at this
    have e4:∀z:Int,0≤z→z<16→ab ⟨#[48,49,50,51,52,53,54,55,56,57,97,98,99,100,101,102]⟩ z=jY z:=fun z h0 h1=>by
     have:=XQ z.toNat (by omega)
     rwa [toNat_of_nonneg h0]at this
    have e5:=e4 (ab s i / 16) (by omega) (by omega);have e6:=e4 (ab s i % 16) (by omega) (by omega);simp only[go_sem,ca,hltI,h1,h2'];refine sD mixed [] [8] ?_;simp only[go_sem,ca,e2,e2',e3,e5,e6,hm4,hb4,ei];exact⟨⟨by omega,show _<(16:Int) by omega⟩,⟨by omega,show _<(16:Int) by omega⟩,(i+1,l++[92,120,jY (ab s i / 16),jY (ab s i % 16)]),⟨hlt,by simp only;rw[hq,e1,hl];rfl⟩,by simp only;omega,Wk.renL [353] (by simp) (by simp) (by simp) (by simp[bR,AV.ren,SV.ren,LV.ren]) (by simp[hget,Blk.ren,ay,LV.ren,Function.comp_def])⟩
  ·have e1:dz (ab s i)=[92,dh (ab s i)]:=by unfold dz;rw[if_pos h1]
   simp only[go_sem,ca,hltI,h1,hm2,hb2,ei];exact⟨(i+1,l++[92,dh (ab s i)]),⟨hlt,by simp only;rw[hq,e1,hl];rfl⟩,by simp only;omega,Wk.renL [241] (by simp) (by simp) (by simp) (by simp[bR,AV.ren,SV.ren,LV.ren]) (by simp[hget,Blk.ren,ay,LV.ren,Function.comp_def])⟩
 ·have hI:¬(i:Int)<s.size:=by omega
  obtain rfl:i=s.size:=by omega
  have ht:(aa s).take s.size=aa s:=take_of_length_le (by rw[ae];exact Nat.le_refl _);have hF:eg (aa s)=l++[34]:=by rw[hl,ht];rfl
  simp only[go_sem,ca,hI,hm1,hb1,YE,YY,Ej,hF];simp
abbrev quoteS:ap prog 93 :=
 mz1 func93 (bw) ((fun s=>s.size≤1000000)) ((fun s=>.ret (sv (aj (eg (aa s)))))) (asP fun s hs=>P0 s hs)
def b8 (z:Int):SV:=.l (.v (.int .u8 z))
def jV (l:List Int):AV:=match mO l with
 |some p=>.tup [.l (.v (.int .u8 p.1)),.l (.v (.int .i64 p.2))]
 |none=>.tup [.l (.v (.int .u8 0)),.l (.v (.int .i64 0))]
theorem Zt:∀a:Nat,a<16→∀b:Nat,b<16→bits .or .i64 ((a:Int)*16) (b:Int)=16*(a:Int)+(b:Int):=by decide +kernel
def Vv (b:Int)(i:Nat):Prop:=i≤6∧(0<i→¬48=b)∧(1<i→¬116=b)∧(2<i→¬110=b)∧(3<i→¬114=b)∧(4<i→¬34=b)∧(5<i→¬92=b)
theorem He (s:ByteArray):Sw f251 0 ⟨0,aB 0 [bw.enc s],[]⟩ (oQ f251 (.ret (jV (aa s)))):=by
 refine aq [⟨_,nP⟩,⟨_,OB⟩] rfl ?_;have hl:(aa s).length=s.size:=ae s;by_cases h0:s=emp
 ·subst h0;have e:jV (aa emp)=.tup [.l (.v (.int .u8 0)),.l (.v (.int .i64 0))]:=rfl;simp only[go_sem,ac,e]
 have hne:¬s=emp:=h0;have hp:0<s.size:=UX h0;have hpI:(0:Int)<s.size:=by omega
 have hr0:=bN s 0;have hb0:=gq s;have hb1:=v6 s;have hb2:=v7 s;have hz:¬(aa s).length=0:=by omega
 simp only[go_sem,hne,ac];refine ba (ι:=Nat) (Vv (ab s 0)) (fun i=>⟨1,[(0,sv s),(8,.s (.l (.sl 0 0 6))),(9,iv 6),(10,iv i)],[(0,some (ca [0,9,10,13,34,92]))]⟩) (fun i=>6-i) 0 ⟨by omega,by omega,by omega,by omega,by omega,by omega,by omega⟩ ?_ ?_
 ·exact wR [64]
 rintro i ⟨hi,i0,i1,i2,i3,i4,i5⟩;refine aw [⟨_,nP⟩,⟨_,OB⟩] ?_;have hcase:i=0∨i=1∨i=2∨i=3∨i=4∨i=5∨i=6:=by omega
 rcases hcase with rfl | rfl | rfl | rfl | rfl | rfl | rfl
 ·have e1:dh 0=48:=rfl;simp only[go_sem,ca,ay];refine sD mixed [⟨_,nP⟩] [] ?_;by_cases hc:(48:Int)=ab s 0
  ·have e:jV (aa s)=.tup [.l (.v (.int .u8 0)),.l (.v (.int .i64 1))]:=by unfold jV mO;rw[if_neg hz,←hb0,←hc];rfl
   simp only[go_sem,ca,ay,e1,hpI,eq_true hc,e]
  ·have ei:IntKind.i64.wrap (0+1)=1:=by rfl
   simp only[go_sem,ca,ay,e1,hpI,hc,ei];exact⟨1,⟨by omega,fun _=>hc,fun h=>absurd h (by omega),fun h=>absurd h (by omega),fun h=>absurd h (by omega),fun h=>absurd h (by omega),fun h=>absurd h (by omega)⟩,by omega,wR [0]⟩
 ·have e1:dh 9=116:=rfl;simp only[go_sem,ca,ay];refine sD mixed [⟨_,nP⟩] [] ?_;by_cases hc:(116:Int)=ab s 0
  ·have e:jV (aa s)=.tup [.l (.v (.int .u8 9)),.l (.v (.int .i64 1))]:=by unfold jV mO;rw[if_neg hz,←hb0,←hc];rfl
   simp only[go_sem,ca,ay,e1,hpI,eq_true hc,e]
  ·have ei:IntKind.i64.wrap (1+1)=2:=by rfl
   simp only[go_sem,ca,ay,e1,hpI,hc,ei];exact⟨2,⟨by omega,fun _=>i0 (by omega),fun _=>hc,fun h=>absurd h (by omega),fun h=>absurd h (by omega),fun h=>absurd h (by omega),fun h=>absurd h (by omega)⟩,by omega,wR [0]⟩
 ·have e1:dh 10=110:=rfl;simp only[go_sem,ca,ay];refine sD mixed [⟨_,nP⟩] [] ?_;by_cases hc:(110:Int)=ab s 0
  ·have e:jV (aa s)=.tup [.l (.v (.int .u8 10)),.l (.v (.int .i64 1))]:=by unfold jV mO;rw[if_neg hz,←hb0,←hc];rfl
   simp only[go_sem,ca,ay,e1,hpI,eq_true hc,e]
  ·have ei:IntKind.i64.wrap (2+1)=3:=by rfl
   simp only[go_sem,ca,ay,e1,hpI,hc,ei];exact⟨3,⟨by omega,fun _=>i0 (by omega),fun _=>i1 (by omega),fun _=>hc,fun h=>absurd h (by omega),fun h=>absurd h (by omega),fun h=>absurd h (by omega)⟩,by omega,wR [0]⟩
 ·have e1:dh 13=114:=rfl;simp only[go_sem,ca,ay];refine sD mixed [⟨_,nP⟩] [] ?_;by_cases hc:(114:Int)=ab s 0
  ·have e:jV (aa s)=.tup [.l (.v (.int .u8 13)),.l (.v (.int .i64 1))]:=by unfold jV mO;rw[if_neg hz,←hb0,←hc];rfl
   simp only[go_sem,ca,ay,e1,hpI,eq_true hc,e]
  ·have ei:IntKind.i64.wrap (3+1)=4:=by rfl
   simp only[go_sem,ca,ay,e1,hpI,hc,ei];exact⟨4,⟨by omega,fun _=>i0 (by omega),fun _=>i1 (by omega),fun _=>i2 (by omega),fun _=>hc,fun h=>absurd h (by omega),fun h=>absurd h (by omega)⟩,by omega,wR [0]⟩
 ·have e1:dh 34=34:=rfl;simp only[go_sem,ca,ay];refine sD mixed [⟨_,nP⟩] [] ?_;by_cases hc:(34:Int)=ab s 0
  ·have e:jV (aa s)=.tup [.l (.v (.int .u8 34)),.l (.v (.int .i64 1))]:=by unfold jV mO;rw[if_neg hz,←hb0,←hc];rfl
   simp only[go_sem,ca,ay,e1,hpI,eq_true hc,e]
  ·have ei:IntKind.i64.wrap (4+1)=5:=by rfl
   simp only[go_sem,ca,ay,e1,hpI,hc,ei];exact⟨5,⟨by omega,fun _=>i0 (by omega),fun _=>i1 (by omega),fun _=>i2 (by omega),fun _=>i3 (by omega),fun _=>hc,fun h=>absurd h (by omega)⟩,by omega,wR [0]⟩
 ·have e1:dh 92=92:=rfl;simp only[go_sem,ca,ay];refine sD mixed [⟨_,nP⟩] [] ?_;by_cases hc:(92:Int)=ab s 0
  ·have e:jV (aa s)=.tup [.l (.v (.int .u8 92)),.l (.v (.int .i64 1))]:=by unfold jV mO;rw[if_neg hz,←hb0,←hc];rfl
   simp only[go_sem,ca,ay,e1,hpI,eq_true hc,e]
  ·have ei:IntKind.i64.wrap (5+1)=6:=by rfl
   simp only[go_sem,ca,ay,e1,hpI,hc,ei];exact⟨6,⟨by omega,fun _=>i0 (by omega),fun _=>i1 (by omega),fun _=>i2 (by omega),fun _=>i3 (by omega),fun _=>i4 (by omega),fun _=>hc⟩,by omega,wR [0]⟩
 ·have hL:E4 (bAt (aa s) 0)=none:=by
   rw[←hb0];have a0:=i0 (by omega);have a1:=i1 (by omega);have a2:=i2 (by omega);have a3:=i3 (by omega);have a4:=i4 (by omega);have a5:=i5 (by omega);unfold E4;rw[nG,nG,nG,nG,nG]
  have hF:mO (aa s)=if 2<(aa s).length∧bAt (aa s) 0=120∧aM (bAt (aa s) 1)<16∧aM (bAt (aa s) 2)<16 then some (16*aM (bAt (aa s) 1)+aM (bAt (aa s) 2),3) else none:=by
   unfold mO;rw[if_neg hz,hL]
  by_cases c1:s.size<3
  ·have c1I:(s.size:Int)<3:=by omega
   have e:jV (aa s)=.tup [.l (.v (.int .u8 0)),.l (.v (.int .i64 0))]:=by unfold jV;rw[hF,nG]
   simp only[go_sem,ca,ay,c1I,e]
  have c1I:¬(s.size:Int)<3:=by omega
  have p1:(1:Int)<s.size:=by omega
  have p2:(2:Int)<s.size:=by omega
  have hr1:=bN s 1;have hr2:=bN s 2;by_cases c2:ab s 0=120
  case neg =>
   have e:jV (aa s)=.tup [.l (.v (.int .u8 0)),.l (.v (.int .i64 0))]:=by unfold jV;rw[hF,nG]
   simp only[go_sem,ca,ay,c1I,hpI,c2,e]
  by_cases c3:aM (ab s 1) > 15
  ·have c3':(15:Int)<aM (ab s 1):=by omega
   have e:jV (aa s)=.tup [.l (.v (.int .u8 0)),.l (.v (.int .i64 0))]:=by unfold jV;rw[hF,if_neg (by rw[←hb1];omega)]
   simp only[go_sem,ca,ay,c1I,hpI,p1,c2,c3',hr1,e]
  have c3':¬(15:Int)<aM (ab s 1):=by omega
  by_cases c4:aM (ab s 2) > 15
  ·have c4':(15:Int)<aM (ab s 2):=by omega
   have e:jV (aa s)=.tup [.l (.v (.int .u8 0)),.l (.v (.int .i64 0))]:=by unfold jV;rw[hF,if_neg (by rw[←hb2];omega)]
   simp only[go_sem,ca,ay,c1I,hpI,p1,p2,c2,c3',c4',hr1,hr2,e]
  have c4':¬(15:Int)<aM (ab s 2):=by omega
  have q1:=kA (ab s 1);have q2:=kA (ab s 2)
  have e:jV (aa s)=.tup [.l (.v (.int .u8 (16*aM (ab s 1)+aM (ab s 2)))),.l (.v (.int .i64 3))]:=by
   unfold jV;rw[hF,if_pos (by rw[←hb0,←hb1,←hb2];omega),hb1,hb2];rfl
  have g1:IntKind.i64.wrap (aM (ab s 1)*2 ^ min 4 IntKind.i64.bits)=aM (ab s 1)*16:=by
   rw[show(2:Int) ^ min 4 IntKind.i64.bits=16 from rfl,IntKind.wrap_i64];omega
  have g1':IntKind.i64.wrap (aM (ab s 1)*2 ^ min 4 64)=aM (ab s 1)*16:=g1
  have g2:bits .or .i64 (aM (ab s 1)*16) (aM (ab s 2))=16*aM (ab s 1)+aM (ab s 2):=by
   have:=Zt (aM (ab s 1)).toNat (by omega) (aM (ab s 2)).toNat (by omega)
   rwa [toNat_of_nonneg q1.1,toNat_of_nonneg q2.1]at this
  have g3:IntKind.u8.wrap (16*aM (ab s 1)+aM (ab s 2))=16*aM (ab s 1)+aM (ab s 2):=by
   rw[IntKind.wrap_u8];omega
  simp only[go_sem,ca,ay,c1I,hpI,p1,p2,c2,c3',c4',hr1,hr2];refine sD mixed [⟨_,OB⟩] [] ?_;simp only[go_sem,p1,p2,hr1,hr2,g1,g1',g2,g3,e]
abbrev XY:ap prog 251 :=
 mz1 func251 (bw) ((fun _=>True)) ((fun s=>.ret (jV (aa s)))) (asP fun s _=>He s)
end Ly
namespace Ly
theorem Mr (s:ByteArray)(hs:s.size≤1099511627776):Sw f234 0 ⟨0,aB 0 [bw.enc s],[]⟩ (oQ f234 (.ret (qT (aa s)))):=by
 refine aq [⟨_,XY⟩,⟨_,zS⟩] rfl ?_;simp only[go_sem];refine ba (ι:=Nat×List Int) (fun p=>FC s p.1 p.2∧p.1≤1099511627777) (fun p=>⟨1,[(0,sv s),(4,.s (.l (.sl 0 0 p.2.length))),(5,iv p.1)],[(0,some (ca p.2))]⟩) (fun p=>s.size+1-p.1) (1,[]) ⟨⟨by omega,by omega,by simp,by cases quotesL ((aa s).drop 1)<;>simp⟩,by omega⟩ ?_ ?_
 ·exact(Wk.nil 4 5 1 rfl).trans (wR [64])
 rintro⟨i,l⟩ ⟨hq,hi⟩;simp only at hq hi;refine aw [⟨_,XY⟩,⟨_,zS⟩] ?_;have h1:=hq.1;have h2:=hq.2.1;have h3:=hq.2.2.1;have hl:(aa s).length=s.size:=ae s;have ei:=wI i;have hmx:maxLen=9223372036854775807:=rfl;by_cases hlt:i<s.size
 ·have hltI:(i:Int)<s.size:=by omega
  have hr:=bN s i;have hdl:((aa s).drop i).length=s.size-i:=by rw[length_drop,hl]
  have hd0:bAt ((aa s).drop i) 0=ab s i:=by rw[gL,Nat.add_zero,jm]
  by_cases c1:ab s i=34
  ·have hst:eQ ((aa s).drop i)=.stop:=by unfold eQ;rw[nG,if_pos (by rw[hd0];exact c1)]
   have hF:=Iv hq hst;have e:qT (aa s)=.tup [.l (.v (.string (aj l))),.l (.v (.int .i64 ((i+1:Nat):Int)))]:=by unfold qT;rw[hF]
   simp only[go_sem,ca,hltI,c1,ei,Ej,e]
  by_cases c2:ab s i=92
  ·have hsz:((i+1:Nat):Int)≤s.size:=by omega
   rcases he:mO ((aa s).drop (i+1)) with _ | ⟨x,n⟩
   ·have hst:eQ ((aa s).drop i)=.bad:=by unfold eQ;rw[nG,if_neg (by rw[hd0];exact c1),if_pos (by rw[hd0];exact c2),drop_drop,he]
    have hF:=vv hq hst;have e:qT (aa s)=.tup [.l (.v (.string emp)),.l (.v (.int .i64 0))]:=by unfold qT;rw[hF];rfl
    have e2:jV (aa (s.extract (i+1) s.size))=.tup [.l (.v (.int .u8 0)),.l (.v (.int .i64 0))]:=by unfold jV;rw[dk,he]
    simp only[go_sem,ca,hltI,c1,c2,ei,hsz,e2,e];rfl
   ·have hst:eQ ((aa s).drop i)=.put x (n+1):=by unfold eQ;rw[nG,if_neg (by rw[hd0];exact c1),if_pos (by rw[hd0];exact c2),drop_drop,he]
    have hk:=mD hst;rw[hdl]at hk;have hn:=CX he;have hF:=BW hq hst;have e2:jV (aa (s.extract (i+1) s.size))=.tup [.l (.v (.int .u8 x)),.l (.v (.int .i64 n))]:=by unfold jV;rw[dk,he]
    have hn0:¬(n:Int)=0:=by omega
    have e3:IntKind.i64.wrap ((i:Int)+(n:Int))=((i+n:Nat):Int):=by rw[IntKind.wrap_i64];omega
    have e4:IntKind.i64.wrap (((i+n:Nat):Int)+1)=((i+n+1:Nat):Int):=by rw[IntKind.wrap_i64];omega
    have hm1:l.length+1≤maxLen:=by omega
    have hb1:(l.length+1)*1≤140737488355328:=by omega
    simp only[go_sem,ca,hltI,c1,c2,ei,hsz,e2,hn0,e3,e4,hm1,hb1];exact⟨(i+n+1,l++[x]),⟨hF,by simp only;omega⟩,by simp only;omega,Wk.renL [465] (by simp) (by simp) (by simp) (by simp[bR,AV.ren,SV.ren,LV.ren]) (by simp[hget,Blk.ren,ay,LV.ren,Function.comp_def])⟩
  by_cases c3:iA (ab s i)=true
  ·have hst:eQ ((aa s).drop i)=.put (ab s i) 1:=by unfold eQ;rw[nG,if_neg (by rw[hd0];exact c1),if_neg (by rw[hd0];exact c2),if_pos (by rw[hd0];exact c3),hd0]
   have hF:=BW hq hst;have hm1:l.length+1≤maxLen:=by omega
   have hb1:(l.length+1)*1≤140737488355328:=by omega
   simp only[go_sem,ca,hltI,c1,c2,c3,ei,hm1,hb1];exact⟨(i+1,l++[ab s i]),⟨hF,by simp only;omega⟩,by simp only;omega,Wk.renL [321] (by simp) (by simp) (by simp) (by simp[bR,AV.ren,SV.ren,LV.ren]) (by simp[hget,Blk.ren,ay,LV.ren,Function.comp_def])⟩
  ·have c3':iA (ab s i)=false:=by simpa using c3
   have hst:eQ ((aa s).drop i)=.bad:=by unfold eQ;rw[nG,if_neg (by rw[hd0];exact c1),if_neg (by rw[hd0];exact c2),if_neg (by rw[hd0];exact c3)]
   have hF:=vv hq hst;have e:qT (aa s)=.tup [.l (.v (.string emp)),.l (.v (.int .i64 0))]:=by unfold qT;rw[hF];rfl
   simp only[go_sem,ca,hltI,c1,c2,c3',ei,e];rfl
 ·have hltI:¬(i:Int)<s.size:=by omega
  have hst:eQ ((aa s).drop i)=.bad:=by unfold eQ;rw[if_pos (by rw[length_drop];omega)]
  have hF:=vv hq hst;have e:qT (aa s)=.tup [.l (.v (.string emp)),.l (.v (.int .i64 0))]:=by unfold qT;rw[hF];rfl
  simp only[go_sem,ca,hltI,e];rfl
abbrev Tr:ap prog 234 :=
 mz1 func234 (bw) ((fun s=>s.size≤1099511627776)) ((fun s=>.ret (qT (aa s)))) (asP fun s hs=>Mr s hs)
end Ly
namespace Ly
theorem Df (base:Int)(hb:1≤base):∀(l:List Int) (n:Int),0≤n→n≤l.foldl (fun n c=>n*base+aM c) n
 |[],n,_=>Int.le_refl _
 |c::l,n,hn=>by
  have h1:=kA c
  have h2:n≤n*base:=by
   have:=Int.mul_le_mul_of_nonneg_left hb hn
   rwa [Int.mul_one]at this
  exact Int.le_trans (show n≤n*base+aM c by omega) (Df base hb l _ (by omega))
theorem O4 (base:Int)(hb:1≤base)(l:List Int):0≤bW base l:=Df base hb l 0 (Int.le_refl _)
theorem vl (base:Int)(hb:1≤base)(l:List Int)(i:Nat):bW base (l.take i)≤bW base l:=by
 have h:bW base l=(l.drop i).foldl (fun n c=>n*base+aM c) (bW base (l.take i)):=by
  unfold bW;rw[←List.foldl_append,List.take_append_drop]
 rw[h];exact Df base hb _ _ (O4 base hb _)
theorem sK {c:Int}(h:48≤c∧c≤57):aM c=c-48:=by unfold aM;rw[if_pos h]
theorem sM {c:Int}(h:97≤c∧c≤102):aM c=c-87:=by unfold aM;rw[nG,if_pos h]
theorem sL {c:Int}(h:65≤c∧c≤70):aM c=c-55:=by unfold aM;rw[nG,nG,if_pos h]
theorem kz {c:Int}(h:aM c<16):48≤c∧c≤57∨97≤c∧c≤102∨65≤c∧c≤70:=by
 unfold aM at h;split at h
 ·omega
 ·split at h
  ·omega
  ·split at h<;>omega
def iV (c:Int):Int:=bits .or .u8 c 32
theorem LG:∀n:Nat,n<103→97≤n→iV (n:Int)=n:=by decide +kernel
theorem LF:∀n:Nat,n<71→65≤n→iV (n:Int)=n+32:=by decide +kernel
theorem SY {c:Int}(h:97≤c∧c≤102∨65≤c∧c≤70):97≤iV c∧iV c≤102∧iV c-97+10=aM c:=by
 have hc:c=((c.toNat:Nat):Int):=(toNat_of_nonneg (by omega)).symm;rcases h with h | h
 ·have h1:=LG c.toNat (by omega) (by omega);rw[←hc]at h1;rw[h1,sM h];omega
 ·have h1:=LF c.toNat (by omega) (by omega);rw[←hc]at h1;rw[h1,sL h];omega
abbrev C8:ap prog 283 :=
 mz1 func283 (bO .u8) ((fun _=>True)) ((fun c=>.ret (.s (.l (.v (.int .u8 (iV c))))))) (asP fun c _=>by
 refine aq [] rfl ?_;simp only[go_sem,iV])
def pj:TypeId:=277
theorem kX:nE prog 277=true:=by kernel_rfl
def ki (n:Int):AV:=if n<18446744073709551616 then .tup [.l (.v (.int .u64 n)),.l (.v .nilIface)] else .tup [.l (.v (.int .u64 18446744073709551615)),.l (.v (.iface pj (.int .i64 1)))]
def BQ (s:ByteArray)(base:Int):Prop:=0<s.size∧s.size≤1099511627776∧(base=2∨base=10∨base=16)∧∀i:Nat,i<s.size→aM (ab s i)<base
theorem PP (s:ByteArray)(base:Int)(h:BQ s base):Sw f265 0 ⟨0,aB 0 [bw.enc s,(bO .i64).enc base,(bO .i64).enc 64],[]⟩ (oQ f265 (.ret (ki (bW base (aa s))))):=by
 obtain⟨hp,hsz,hb,hx⟩:=h;have hpI:(0:Int)<s.size:=by omega
 have hne:¬s=emp:=by rintro rfl;exact absurd hp (by decide)
 have hb1:(1:Int)≤base:=by omega
 have loop:∀(st:St),bR st.t 0=sv s→True:=fun _ _=>trivial;refine aq [⟨_,C8⟩] rfl ?_;have hz:¬base=0:=by omega
 have h2:2≤base:=by omega
 have h3:base≤36:=by omega
 have w1:IntKind.u64.wrap 64=64:=by rfl
 have w2:IntKind.u64.wrap (1*2 ^ min 64 IntKind.u64.bits)=0:=by rfl
 have w3:IntKind.u64.wrap (0-1)=18446744073709551615:=by rfl
 rcases hb with rfl | rfl | rfl
 ·have w4:IntKind.u64.wrap 2=2:=by rfl
  have w5:IntKind.u64.wrap (Int.tdiv 18446744073709551615 2)=9223372036854775807:=by rfl
  have w6:IntKind.u64.wrap (9223372036854775807+1)=9223372036854775808:=by rfl
  simp only[go_sem,hne,ac,hz,h2,h3,w1,w2,w3,w4,w5,w6];refine⟨by unfold maxLen;omega,ba (ι:=Nat×Int) (fun p=>p.1≤s.size∧p.2=bW 2 ((aa s).take p.1)∧0≤p.2∧p.2<18446744073709551616) (fun p=>⟨1,[(1,iv 2),(8,bv false),(10,.s (.l (.v (.int .u64 9223372036854775808)))),(11,.s (.l (.v (.int .u64 18446744073709551615)))),(12,bv false),(13,.s (.l (.v (.int .u64 p.2)))),(99,.s (.l (.sl 0 0 s.size))),(100,iv s.size),(101,iv p.1)],[(0,some ⟨true,5,1,(aa s).map ay⟩)]⟩) (fun p=>s.size-p.1) (0,0) ⟨zero_le _,rfl,by simp only;omega,by simp only;omega⟩ ?_ ?_⟩
  ·exact Wk.renL [688] (by simp) (by simp) (by simp) rfl (by simp[hget,Blk.ren,ay,LV.ren,Function.comp_def])
  rintro⟨i,n⟩ ⟨hi,hn,hn0,hn1⟩;simp only at hi hn hn0 hn1;refine aw [⟨_,C8⟩] ?_;by_cases hlt:i<s.size
  ·have hltI:(i:Int)<s.size:=by omega
   have hr:=bN s i;have hgt:=dw hlt;have hc:=hx i hlt;have hh:=kA (ab s i);have hnx:bW 2 ((aa s).take (i+1))=bW 2 ((aa s).take i)*2+aM (ab s i):=by rw[rN hlt,vk]
   have hle:=vl 2 hb1 (aa s) (i+1);rw[hnx,←hn]at hle;have wb:IntKind.u8.wrap 2=2:=by rfl
   have hnb:¬2≤aM (ab s i):=by omega
   have c1:¬ab s i=95:=by rintro e;rw[e]at hc;exact absurd hc (by decide)
   have c2:48≤ab s i:=by have:=kz (c:=ab s i) (by omega);omega
   by_cases c3:ab s i≤57
   ·have hd:=sK ⟨c2,c3⟩;have d1:IntKind.u8.wrap (ab s i-48)=aM (ab s i):=by rw[IntKind.wrap_u8,hd];omega
    by_cases hcut:(9223372036854775808:Int)≤n
    ·have e:ki (bW 2 (aa s))=.tup [.l (.v (.int .u64 18446744073709551615)),.l (.v (.iface pj (.int .i64 1)))]:=by unfold ki;rw[nG]
     simp only[go_sem,ay,hltI,hgt,c1,c2,c3,d1,hnb,hcut,wb,e,pj,kX]
    ·have e1:IntKind.u64.wrap (n*2)=n*2:=by rw[IntKind.wrap_u64];omega
     have ei:=wI i;have e2:IntKind.u64.wrap (aM (ab s i))=aM (ab s i):=by rw[IntKind.wrap_u64];omega
     by_cases hov:n*2+aM (ab s i)<18446744073709551616
     ·have e3:IntKind.u64.wrap (n*2+aM (ab s i))=n*2+aM (ab s i):=by rw[IntKind.wrap_u64];omega
      have g1:¬n*2+aM (ab s i)<n*2:=by omega
      have g2:¬18446744073709551615<n*2+aM (ab s i):=by omega
      simp only[go_sem,ay,hltI,hgt,c1,c2,c3,d1,hnb,hcut,wb,w4,e1,e2,e3,ei,g1,g2];exact⟨(i+1,n*2+aM (ab s i)),⟨hlt,by simp only;rw[hnx,←hn],by simp only;omega,hov⟩,by simp only;omega,Wk.renL [0] (by simp) (by simp) (by simp) rfl (by simp[hget,Blk.ren,ay,LV.ren,Function.comp_def])⟩
     ·have e3:IntKind.u64.wrap (n*2+aM (ab s i))=n*2+aM (ab s i)-18446744073709551616:=by rw[IntKind.wrap_u64];omega
      have g1:n*2+aM (ab s i)-18446744073709551616<n*2:=by omega
      have e:ki (bW 2 (aa s))=.tup [.l (.v (.int .u64 18446744073709551615)),.l (.v (.iface pj (.int .i64 1)))]:=by unfold ki;rw[nG]
      simp only[go_sem,ay,hltI,hgt,c1,c2,c3,d1,hnb,hcut,wb,w4,e1,e2,e3,g1,e,pj,kX]
   ·exfalso;have:=kz (c:=ab s i) (by omega);rcases this with h | h | h
    ·omega
    ·rw[sM h]at hc;omega
    ·rw[sL h]at hc;omega
  ·have hltI:¬(i:Int)<s.size:=by omega
   obtain rfl:i=s.size:=by omega
   have ht:(aa s).take s.size=aa s:=take_of_length_le (by rw[ae];exact Nat.le_refl _);rw[ht]at hn;have e:ki (bW 2 (aa s))=.tup [.l (.v (.int .u64 n)),.l (.v .nilIface)]:=by unfold ki;rw[pS,hn]
   simp only[go_sem,hltI,e]
 ·have w4:IntKind.u64.wrap 10=10:=by rfl
  simp only[go_sem,hne,ac,hz,h2,h3,w1,w2,w3,w4];refine⟨by unfold maxLen;omega,ba (ι:=Nat×Int) (fun p=>p.1≤s.size∧p.2=bW 10 ((aa s).take p.1)∧0≤p.2∧p.2<18446744073709551616) (fun p=>⟨1,[(1,iv 10),(8,bv false),(10,.s (.l (.v (.int .u64 1844674407370955162)))),(11,.s (.l (.v (.int .u64 18446744073709551615)))),(12,bv false),(13,.s (.l (.v (.int .u64 p.2)))),(99,.s (.l (.sl 0 0 s.size))),(100,iv s.size),(101,iv p.1)],[(0,some ⟨true,5,1,(aa s).map ay⟩)]⟩) (fun p=>s.size-p.1) (0,0) ⟨zero_le _,rfl,by simp only;omega,by simp only;omega⟩ ?_ ?_⟩
  ·exact Wk.renL [592] (by simp) (by simp) (by simp) rfl (by simp[hget,Blk.ren,ay,LV.ren,Function.comp_def])
  rintro⟨i,n⟩ ⟨hi,hn,hn0,hn1⟩;simp only at hi hn hn0 hn1;refine aw [⟨_,C8⟩] ?_;by_cases hlt:i<s.size
  ·have hltI:(i:Int)<s.size:=by omega
   have hr:=bN s i;have hgt:=dw hlt;have hc:=hx i hlt;have hh:=kA (ab s i);have hnx:bW 10 ((aa s).take (i+1))=bW 10 ((aa s).take i)*10+aM (ab s i):=by rw[rN hlt,vk]
   have hle:=vl 10 hb1 (aa s) (i+1);rw[hnx,←hn]at hle;have wb:IntKind.u8.wrap 10=10:=by rfl
   have hnb:¬10≤aM (ab s i):=by omega
   have c1:¬ab s i=95:=by rintro e;rw[e]at hc;exact absurd hc (by decide)
   have c2:48≤ab s i:=by have:=kz (c:=ab s i) (by omega);omega
   by_cases c3:ab s i≤57
   ·have hd:=sK ⟨c2,c3⟩;have d1:IntKind.u8.wrap (ab s i-48)=aM (ab s i):=by rw[IntKind.wrap_u8,hd];omega
    by_cases hcut:(1844674407370955162:Int)≤n
    ·have e:ki (bW 10 (aa s))=.tup [.l (.v (.int .u64 18446744073709551615)),.l (.v (.iface pj (.int .i64 1)))]:=by unfold ki;rw[nG]
     simp only[go_sem,ay,hltI,hgt,c1,c2,c3,d1,hnb,hcut,wb,e,pj,kX]
    ·have e1:IntKind.u64.wrap (n*10)=n*10:=by rw[IntKind.wrap_u64];omega
     have ei:=wI i;have e2:IntKind.u64.wrap (aM (ab s i))=aM (ab s i):=by rw[IntKind.wrap_u64];omega
     by_cases hov:n*10+aM (ab s i)<18446744073709551616
     ·have e3:IntKind.u64.wrap (n*10+aM (ab s i))=n*10+aM (ab s i):=by rw[IntKind.wrap_u64];omega
      have g1:¬n*10+aM (ab s i)<n*10:=by omega
      have g2:¬18446744073709551615<n*10+aM (ab s i):=by omega
      simp only[go_sem,ay,hltI,hgt,c1,c2,c3,d1,hnb,hcut,wb,w4,e1,e2,e3,ei,g1,g2];exact⟨(i+1,n*10+aM (ab s i)),⟨hlt,by simp only;rw[hnx,←hn],by simp only;omega,hov⟩,by simp only;omega,Wk.renL [0] (by simp) (by simp) (by simp) rfl (by simp[hget,Blk.ren,ay,LV.ren,Function.comp_def])⟩
     ·have e3:IntKind.u64.wrap (n*10+aM (ab s i))=n*10+aM (ab s i)-18446744073709551616:=by rw[IntKind.wrap_u64];omega
      have g1:n*10+aM (ab s i)-18446744073709551616<n*10:=by omega
      have e:ki (bW 10 (aa s))=.tup [.l (.v (.int .u64 18446744073709551615)),.l (.v (.iface pj (.int .i64 1)))]:=by unfold ki;rw[nG]
      simp only[go_sem,ay,hltI,hgt,c1,c2,c3,d1,hnb,hcut,wb,w4,e1,e2,e3,g1,e,pj,kX]
   ·exfalso;have:=kz (c:=ab s i) (by omega);rcases this with h | h | h
    ·omega
    ·rw[sM h]at hc;omega
    ·rw[sL h]at hc;omega
  ·have hltI:¬(i:Int)<s.size:=by omega
   obtain rfl:i=s.size:=by omega
   have ht:(aa s).take s.size=aa s:=take_of_length_le (by rw[ae];exact Nat.le_refl _);rw[ht]at hn;have e:ki (bW 10 (aa s))=.tup [.l (.v (.int .u64 n)),.l (.v .nilIface)]:=by unfold ki;rw[pS,hn]
   simp only[go_sem,hltI,e]
 ·have w4:IntKind.u64.wrap 16=16:=by rfl
  simp only[go_sem,hne,ac,hz,h2,h3,w1,w2,w3,w4];refine⟨by unfold maxLen;omega,ba (ι:=Nat×Int) (fun p=>p.1≤s.size∧p.2=bW 16 ((aa s).take p.1)∧0≤p.2∧p.2<18446744073709551616) (fun p=>⟨1,[(1,iv 16),(8,bv false),(10,.s (.l (.v (.int .u64 1152921504606846976)))),(11,.s (.l (.v (.int .u64 18446744073709551615)))),(12,bv false),(13,.s (.l (.v (.int .u64 p.2)))),(99,.s (.l (.sl 0 0 s.size))),(100,iv s.size),(101,iv p.1)],[(0,some ⟨true,5,1,(aa s).map ay⟩)]⟩) (fun p=>s.size-p.1) (0,0) ⟨zero_le _,rfl,by simp only;omega,by simp only;omega⟩ ?_ ?_⟩
  ·exact Wk.renL [624] (by simp) (by simp) (by simp) rfl (by simp[hget,Blk.ren,ay,LV.ren,Function.comp_def])
  rintro⟨i,n⟩ ⟨hi,hn,hn0,hn1⟩;simp only at hi hn hn0 hn1;refine aw [⟨_,C8⟩] ?_;by_cases hlt:i<s.size
  ·have hltI:(i:Int)<s.size:=by omega
   have hr:=bN s i;have hgt:=dw hlt;have hc:=hx i hlt;have hh:=kA (ab s i);have hnx:bW 16 ((aa s).take (i+1))=bW 16 ((aa s).take i)*16+aM (ab s i):=by rw[rN hlt,vk]
   have hle:=vl 16 hb1 (aa s) (i+1);rw[hnx,←hn]at hle;have wb:IntKind.u8.wrap 16=16:=by rfl
   have hnb:¬16≤aM (ab s i):=by omega
   have c1:¬ab s i=95:=by rintro e;rw[e]at hc;exact absurd hc (by decide)
   have c2:48≤ab s i:=by have:=kz (c:=ab s i) (by omega);omega
   by_cases c3:ab s i≤57
   ·have hd:=sK ⟨c2,c3⟩;have d1:IntKind.u8.wrap (ab s i-48)=aM (ab s i):=by rw[IntKind.wrap_u8,hd];omega
    by_cases hcut:(1152921504606846976:Int)≤n
    ·have e:ki (bW 16 (aa s))=.tup [.l (.v (.int .u64 18446744073709551615)),.l (.v (.iface pj (.int .i64 1)))]:=by unfold ki;rw[nG]
     simp only[go_sem,ay,hltI,hgt,c1,c2,c3,d1,hnb,hcut,wb,e,pj,kX]
    ·have e1:IntKind.u64.wrap (n*16)=n*16:=by rw[IntKind.wrap_u64];omega
     have ei:=wI i;have e2:IntKind.u64.wrap (aM (ab s i))=aM (ab s i):=by rw[IntKind.wrap_u64];omega
     by_cases hov:n*16+aM (ab s i)<18446744073709551616
     ·have e3:IntKind.u64.wrap (n*16+aM (ab s i))=n*16+aM (ab s i):=by rw[IntKind.wrap_u64];omega
      have g1:¬n*16+aM (ab s i)<n*16:=by omega
      have g2:¬18446744073709551615<n*16+aM (ab s i):=by omega
      simp only[go_sem,ay,hltI,hgt,c1,c2,c3,d1,hnb,hcut,wb,w4,e1,e2,e3,ei,g1,g2];exact⟨(i+1,n*16+aM (ab s i)),⟨hlt,by simp only;rw[hnx,←hn],by simp only;omega,hov⟩,by simp only;omega,Wk.renL [0] (by simp) (by simp) (by simp) rfl (by simp[hget,Blk.ren,ay,LV.ren,Function.comp_def])⟩
     ·have e3:IntKind.u64.wrap (n*16+aM (ab s i))=n*16+aM (ab s i)-18446744073709551616:=by rw[IntKind.wrap_u64];omega
      have g1:n*16+aM (ab s i)-18446744073709551616<n*16:=by omega
      have e:ki (bW 16 (aa s))=.tup [.l (.v (.int .u64 18446744073709551615)),.l (.v (.iface pj (.int .i64 1)))]:=by unfold ki;rw[nG]
      simp only[go_sem,ay,hltI,hgt,c1,c2,c3,d1,hnb,hcut,wb,w4,e1,e2,e3,g1,e,pj,kX]
   ·have hl:=SY (c:=ab s i) (by have:=kz (c:=ab s i) (by omega);omega);obtain⟨l1,l2,l3⟩:=hl;have l4:iV (ab s i)≤122:=by omega
    have d1:IntKind.u8.wrap (iV (ab s i)-97)=iV (ab s i)-97:=by rw[IntKind.wrap_u8];omega
    have d2:IntKind.u8.wrap (iV (ab s i)-97+10)=aM (ab s i):=by rw[IntKind.wrap_u8,l3];omega
    by_cases hcut:(1152921504606846976:Int)≤n
    ·have e:ki (bW 16 (aa s))=.tup [.l (.v (.int .u64 18446744073709551615)),.l (.v (.iface pj (.int .i64 1)))]:=by unfold ki;rw[nG]
     simp only[go_sem,ay,hltI,hgt,c1,c2,c3,l1,l4,d1,d2,hnb,hcut,wb,e,pj,kX]
    ·have e1:IntKind.u64.wrap (n*16)=n*16:=by rw[IntKind.wrap_u64];omega
     have ei:=wI i;have e2:IntKind.u64.wrap (aM (ab s i))=aM (ab s i):=by rw[IntKind.wrap_u64];omega
     by_cases hov:n*16+aM (ab s i)<18446744073709551616
     ·have e3:IntKind.u64.wrap (n*16+aM (ab s i))=n*16+aM (ab s i):=by rw[IntKind.wrap_u64];omega
      have g1:¬n*16+aM (ab s i)<n*16:=by omega
      have g2:¬18446744073709551615<n*16+aM (ab s i):=by omega
      simp only[go_sem,ay,hltI,hgt,c1,c2,c3,l1,l4,d1,d2,hnb,hcut,wb,w4,e1,e2,e3,ei,g1,g2];exact⟨(i+1,n*16+aM (ab s i)),⟨hlt,by simp only;rw[hnx,←hn],by simp only;omega,hov⟩,by simp only;omega,Wk.renL [0] (by simp) (by simp) (by simp) rfl (by simp[hget,Blk.ren,ay,LV.ren,Function.comp_def])⟩
     ·have e3:IntKind.u64.wrap (n*16+aM (ab s i))=n*16+aM (ab s i)-18446744073709551616:=by rw[IntKind.wrap_u64];omega
      have g1:n*16+aM (ab s i)-18446744073709551616<n*16:=by omega
      have e:ki (bW 16 (aa s))=.tup [.l (.v (.int .u64 18446744073709551615)),.l (.v (.iface pj (.int .i64 1)))]:=by unfold ki;rw[nG]
      simp only[go_sem,ay,hltI,hgt,c1,c2,c3,l1,l4,d1,d2,hnb,hcut,wb,w4,e1,e2,e3,g1,e,pj,kX]
  ·have hltI:¬(i:Int)<s.size:=by omega
   obtain rfl:i=s.size:=by omega
   have ht:(aa s).take s.size=aa s:=take_of_length_le (by rw[ae];exact Nat.le_refl _);rw[ht]at hn;have e:ki (bW 16 (aa s))=.tup [.l (.v (.int .u64 n)),.l (.v .nilIface)]:=by unfold ki;rw[pS,hn]
   simp only[go_sem,hltI,e]
abbrev Zu:ap prog 265 :=
 mz3 func265 (bw) (bO .i64) (bO .i64) ((fun s b n=>BQ s b∧n=64)) ((fun s b _=>.ret (ki (bW b (aa s))))) (asP fun s b n h=>by
 obtain⟨h,rfl⟩:=h;exact PP s b h)
end Ly
namespace Ly
open Go.RowKit Go.Shelf
def Yt:Ren:=⟨fun k=>if k=22 then 286 else if k=25 then 294 else k,
 fun k=>if k=0 then 0 else if k=3 then 3 else if k=4 then 4 else if k=5 then 5 else if k=9 then 9 else if k=24 then 109 else if k=37 then 39 else if k=39 then 278 else if k=44 then 284 else if k=47 then 160 else if k=67 then 113 else k,
 fun k=>if k=1 then 3 else k⟩
theorem Zw:Go.Proofs.LaysPu.n22 prog Yt where
 mixed:=by kernel_rfl
 f22:=by kernel_rfl
 f25:=by kernel_rfl
 t0:=by kernel_rfl
 a0:=fun w=>by kernel_rfl
 z0:=fun w=>by kernel_rfl
 v0:=fun w=>by kernel_rfl
 i0:=by kernel_rfl
 t3:=by kernel_rfl
 a3:=fun w=>by kernel_rfl
 z3:=fun w=>by kernel_rfl
 v3:=fun w=>by kernel_rfl
 i3:=by kernel_rfl
 t4:=by kernel_rfl
 a4:=fun w=>by kernel_rfl
 z4:=fun w=>by kernel_rfl
 v4:=fun w=>by kernel_rfl
 i4:=by kernel_rfl
 t5:=by kernel_rfl
 a5:=fun w=>by kernel_rfl
 z5:=fun w=>by kernel_rfl
 v5:=fun w=>by kernel_rfl
 i5:=by kernel_rfl
 t9:=by kernel_rfl
 a9:=fun w=>by kernel_rfl
 z9:=fun w=>by kernel_rfl
 v9:=fun w=>by kernel_rfl
 i9:=by kernel_rfl
 t24:=by kernel_rfl
 a24:=fun w=>by kernel_rfl
 z24:=fun w=>by kernel_rfl
 v24:=fun w=>by kernel_rfl
 i24:=by kernel_rfl
 t37:=by kernel_rfl
 a37:=fun w=>by kernel_rfl
 z37:=fun w=>by kernel_rfl
 v37:=fun w=>by kernel_rfl
 i37:=by kernel_rfl
 t39:=by kernel_rfl
 a39:=fun w=>by kernel_rfl
 z39:=fun w=>by kernel_rfl
 v39:=fun w=>by kernel_rfl
 i39:=by kernel_rfl
 t44:=by kernel_rfl
 a44:=fun w=>by kernel_rfl
 z44:=fun w=>by kernel_rfl
 v44:=fun w=>by kernel_rfl
 i44:=by kernel_rfl
 t47:=by kernel_rfl
 a47:=fun w=>by kernel_rfl
 z47:=fun w=>by kernel_rfl
 v47:=fun w=>by kernel_rfl
 i47:=by kernel_rfl
 t67:=by kernel_rfl
 a67:=fun w=>by kernel_rfl
 z67:=fun w=>by kernel_rfl
 v67:=fun w=>by kernel_rfl
 i67:=by kernel_rfl
 g1:=by kernel_rfl
 m1:=by kernel_rfl
theorem Dr (fn s:ByteArray)(ev:Value)(w:World)(hlim:s.size≤281474976710656)(hv:w.cell? ⟨3,0,none⟩=some ev)(hev:ev=.nilIface∨∃te pe,ev=.iface te pe) :
  Calls prog 286 #[.string fn,.string s] w fun e w'=>(∃N,e=.returned (.pointer (some ⟨N,0,none⟩)))∧Below w.heap.size w w' :=
 (AnyPu.strconv_rangeError Zw fn s ev w hlim hv hev).mono fun e w' ⟨N,h1,_,_,h2⟩=>⟨⟨N,h1⟩,h2⟩
theorem M5 (fn s:ByteArray)(base bits:Int)(ev:Value)(w:World)(hlim:s.size≤281474976710656)(hv:w.cell? ⟨3,0,none⟩=some ev)(hev:ev=.nilIface∨∃te pe,ev=.iface te pe) :
  Calls prog 266 #[.string fn,.string s,.int .i64 base,.int .i64 bits,.iface 277 (.int .i64 1)] w fun e w'=>(∃N,e=.returned (.iface 278 (.pointer (some ⟨N,0,none⟩))))∧Below w.heap.size w w':=by
 have hu:Tryz.prog.underlying 109=some (.interface #[("Error",113)]):=by kernel_rfl
 have hc:(Tryz.prog.info? 277).map (·.comparable)=some true:=by kernel_rfl
 have hi:Tryz.prog.underlying 277=some (.int .i64):=by kernel_rfl
 have q2:∀W,(binOp .eql 109 (.iface 277 (.int .i64 1)) (.iface 277 (.int .i64 2))).run prog W=.ok (.bool false) W:=fun W=>Lib.run_eql_iface_int W 1 2 hu hc hi;have q1:∀W,(binOp .eql 109 (.iface 277 (.int .i64 1)) (.iface 277 (.int .i64 1))).run prog W=.ok (.bool true) W:=fun W=>Lib.run_eql_iface_int W 1 1 hu hc hi;go_enter func266,ntmps266
 go_wp2_with (go_at_call 286;refine(Dr fn s ev _ hlim ?_ hev).mono ?_)
 ·exact hv
 rintro e w2 ⟨⟨N,rfl⟩,h3⟩;go_wp2;go_ret;exact⟨⟨N,rfl⟩,h3⟩
end Ly
namespace Ly
def TQ {X:Type}(dec:List AV→Option (Prop×X))(out:X→AV)(zs:List AV):Option Res:=match dec zs with | some (q,x)=>some ⟨q,out x,[]⟩ | none=>none
def mkS {P:Program}{X:Type}(f:FuncId)(hen:∀(args:Array Value) (w:World),(callFunc f args).run P w=.ok (.enter f args) w)(dec:List AV→Option (Prop×X))(vs:X→List Value)(out:X→AV)
  (hdec:∀{zs:List AV} {q:Prop} {x:X},dec zs=some (q,x)→∀(ρ:Nat→Loc) (al:Al) (vals:List Value),AsRep ρ al zs vals→vals=vs x)
  (hout:∀(x:X) (ρ:Nat→Loc) (al:Al) (v:Value),ARep ρ0 (al0 al.M) (out x) v→ARep ρ al (out x) v)
  (calls:∀{zs:List AV} {q:Prop} {x:X},dec zs=some (q,x)→q→∀(M:Mem) (w:World),Gok M→(∀b o y,M b o=some y→w.cell? ⟨b,o,none⟩=some y) →
   Calls P f (vs x).toArray w fun e w'=>(∃v,e=.returned v∧ARep ρ0 (al0 M) (out x) v)∧Below w.heap.size w w'):ap P f where
 enter:=hen
 run:=fun _ _ args=>TQ dec out args
 mono:=by
  intro id h h' args R hs hr;exact hr
 sound:=by
  intro id h args R hr hob B w0 ρ al w vals H hid hA;unfold TQ at hr;split at hr
  case h_2=>cases hr
  rename_i q x hd;injection hr with hr;subst hr;obtain rfl:=hdec hd ρ al vals hA;refine(calls hd hob al.M w H.gok (fun b o y hy=>H.mem b o y hy)).mono ?_;rintro e w' ⟨⟨v,rfl,hv⟩,hb⟩;exact⟨v,ρ,al,rfl,.refl _ _,fun b hb=>.inl hb,hout x ρ al v hv,H.step (.refl _ _) (H.below.trans ((wo hb).mono fun k hk=>H.size k hk)) (fun b k hk hc=>hb.block _ (H.lt hk hc)) (fun b ⟨_,_,hb'⟩=>hb.block _ (H.memLt hb'))⟩
structure Xb (X:Type) where
 dec:List AV→Option (Nat×X)
 enc:X→List AV
 len:Nat
 enc_len:∀x,(enc x).length=len
 ok:∀{zs:List AV} {b:Nat} {x:X},dec zs=some (b,x)→∀{ρ ρ':Nat→Loc} {al al':Al} {vals:List Value},(∀y,LRep ρ al (.p b 0 0) y→LRep ρ' al' (.p 0 0 0) y)→al.M.le al'.M→AsRep ρ al zs vals→AsRep ρ' al' (enc x) vals
def dy (T:TypeId)(z:Int):Blk:=⟨true,T,1,[[.v (.int .i64 z)]]⟩
def p9 {X:Type}(T:TypeId)(D:Xb X)(q:X→Int→Prop)(h:ai)(zs:List AV):Option (Prop×List Nat×(X×Int)) :=
 match D.dec zs with
 |some (b,x)=>match hget h b with
  |some ⟨true,T',1,[[.v (.int .i64 z)]]⟩=>if T'=T then some (q x z,[b],(x,z)) else none
  |_=>none
 |none=>none
theorem uR {X:Type}{T:TypeId}{D:Xb X}{q:X→Int→Prop}{h:ai}{zs:List AV}{r:Prop×List Nat×(X×Int)}(hd:p9 T D q h zs=some r):∃b x z,D.dec zs=some (b,x)∧hget h b=some (dy T z)∧r=(q x z,[b],(x,z)):=by
 unfold p9 at hd;split at hd
 case h_2=>cases hd
 rename_i b x h1;split at hd
 case h_2=>cases hd
 rename_i T' z h2;split at hd
 case isFalse=>cases hd
 rename_i e;subst e;injection hd with hd;exact⟨b,x,z,h1,h2,hd.symm⟩
def mkB {P:Program}{X:Type}(f:FuncId)(fn:Func)(c:Code)(hf:P.funcs[f]? = some fn)(hb:fn.body=some c)
  (hen:∀(args:Array Value) (w:World),(callFunc f args).run P w=.ok (.enter f args) w) (T:TypeId) (D:Xb X) (q:X→Int→Prop) (out:X→Int→AV) (hn:D.len≤fn.ntmps)
  (body:∀x z,q x z→SW P ⟨none,1⟩ fn.ntmps c ⟨1,aB 0 (D.enc x),aL 0 [dy T z]⟩ (xb P fn.results.toList 1 (.ret (out x z) [some (dy T z)] []))):ap P f :=
 mkR 1 1 (by decide) f fn c hf hb hen (p9 T D q) (fun x=>D.enc x.1) (fun x=>[dy T x.2]) (fun x=>.ret (out x.1 x.2) [some (dy T x.2)] [])
  (by
   intro h h' args r hs hd;obtain⟨b,x,z,h1,h2,rfl⟩:=uR hd;unfold p9;rw[h1];simp only[hs _ _ h2,dy,if_true])
  (by
   intro h zs q' bs x hd hq;obtain⟨b,x',z,h1,h2,e⟩:=uR hd;injection e with e1 e;injection e with e2 e3;subst e2;subst e3;refine⟨by rw[D.enc_len];exact hn,rfl,rfl,by simp,fun d=>⟨?_,?_⟩⟩
   ·intro j b' k hj hk
    match j,hj,hk with
    |0,hj,hk =>
     simp at hj hk;subst hj;subst hk;exact⟨rfl,by rw[h2];rfl⟩
   ·intro ρ al vals hA;exact D.ok (al:=al) h1 (fun y hy=>hy) (Mem.le_refl _) hA)
  (by
   intro h zs q' bs x hd hq;obtain⟨b,x',z,h1,h2,e⟩:=uR hd;injection e with e1 e;injection e with e2 e3;subst e1;subst e3;exact body _ _ hq)
def Ar:Xb Int where
 dec:=fun | [.s (.l (.v (.int .u8 c))),.s (.l (.p b 0 0))]=>some (b,c) | _=>none
 enc:=fun c=>[.s (.l (.v (.int .u8 c))),pv 0 0 0]
 len:=2
 enc_len:=fun _=>rfl
 ok:=by
  intro zs b x h ρ ρ' al al' vals hp hM hA;split at h
  ·injection h with h;injection h with h1 h2;subst h1;subst h2
   match vals,hA with
   |[v,u],⟨a,b,_⟩=>exact⟨a,hp u b,trivial⟩
  ·cases h
theorem OM {st:St}{r:AV}{k:Blk}(hr:r.plain=true)(hk:hget st.h 0=some k)(ho:k.own=true)(hren:∀g,k.ren g=k):oo 1 st (.ret r [some k] []) (some r):=by
 refine⟨hr,[some k],[],rfl,rfl,by simp,by simpa using ho,by simp,Wk.ren [0] (by intro j hj;have:j=0:=(by simpa using hj);subst this;rfl) (by simp) (by simp) (fun p hp=>by cases hp) ?_⟩;intro p hp k' hk';simp only[fX,aL,append_nil,List.mem_cons,List.not_mem_nil,or_false]at hp;subst hp;simp only[Option.some.injEq]at hk';subst hk';rw[hren];exact hk
theorem Fh (T:TypeId)(z:Int)(g:Nat→Nat):(dy T z).ren g=dy T z:=rfl
theorem OI (c z:Int)(h:0≤c∧c≤255):Sw f248 1 ⟨1,aB 0 [.s (.l (.v (.int .u8 c))),pv 0 0 0],aL 0 [dy 3 z]⟩ (oR f248 1 (.ret (bv (decide (aM c<z))) [some (dy 3 z)] [])):=by
 refine aq [⟨_,OB⟩] rfl ?_;simp only[go_sem,dy];refine sD mixed [⟨_,OB⟩] [] ?_;simp only[go_sem,dy,h];exact OM rfl rfl rfl (fun _=>rfl)
def C2:ap prog 248 :=
 mkB _ _ _ func248 rfl (fun _ _=>by go_simp) 3 Ar (fun c _=>0≤c∧c≤255) (fun c z=>bv (decide (aM c<z))) (by rw[ntmps248];decide) (fun c z h=>OI c z h)
theorem BB {id:Nat}{h:ai}{args:List AV}:C2.run id h args=kJ 1 (p9 3 Ar (fun c _=>0≤c∧c≤255)) (fun x=>.ret (bv (decide (aM x.1<x.2))) [some (dy 3 x.2)] []) id h args:=rfl
theorem BA {id:Nat}{h:ai}{args:List AV}:C2.pan id h args=kb (p9 3 Ar (fun c _=>0≤c∧c≤255)) (fun x=>.ret (bv (decide (aM x.1<x.2))) [some (dy 3 x.2)] []) h args:=rfl
def yE:AV:=.fn 248 [] [.p 0 0 0]
def re:Xb ByteArray where
 dec:=fun | [.s (.l (.v (.string s))),.fn g [] [.p b 0 0]]=>if g=248 then some (b,s) else none | _=>none
 enc:=fun s=>[sv s,yE]
 len:=2
 enc_len:=fun _=>rfl
 ok:=by
  intro zs b x h ρ ρ' al al' vals hp hM hA;split at h
  ·split at h
   ·rename_i e;subst e;injection h with h;injection h with h1 h2;subst h1;subst h2
    match vals,hA with
    |[v,u],⟨a,b,_⟩ =>
     refine⟨a,?_,trivial⟩;obtain⟨f,c,e1,e2,e3⟩:=b
     match c,e3 with
     |[y],⟨o,g1,_⟩=>exact⟨f,[y],e1,(match f,e2 with | [],_=>trivial),o,hp y g1,trivial⟩
   ·cases h
  ·cases h
def dj (z:Int)(s:ByteArray):Nat:=bQ z (aa s)
theorem ER (z:Int){s:ByteArray}{i:Nat}(h:i<s.size):bQ z ((aa s).drop i)=if aM (ab s i)<z then 1+bQ z ((aa s).drop (i+1)) else 0:=by
 unfold bQ;rw[MI _ _ _ (by rw[ae];exact h),jm];simp only[decide_eq_true_eq]
theorem TP (s:ByteArray)(z:Int)(hs:s.size≤1099511627776):Sw f117 1 ⟨1,aB 0 [sv s,yE],aL 0 [dy 3 z]⟩ (oR f117 1 (.ret (iv (bQ z (aa s))) [some (dy 3 z)] [])):=by
 refine aq [⟨_,C2⟩] rfl ?_;simp only[go_sem,dy,yE];refine ba (ι:=Nat) (fun i=>i≤s.size∧bQ z (aa s)=i+bQ z ((aa s).drop i)) (fun i=>⟨1,[(0,sv s),(1,yE),(5,iv i)],[(0,some (dy 3 z))]⟩) (fun i=>s.size-i) 0 ⟨zero_le _,by simp⟩ (wR [0]) ?_;rintro i ⟨hi,hr⟩;refine aw [⟨_,C2⟩] ?_;have hb:=bN s i;have hdz:∀d:Nat,bQ z ((aa s).drop (s.size+d))=0:=fun d=>Qq _ _ _ (by rw[ae];omega);by_cases hlt:i<s.size
 ·have hltI:(i:Int)<s.size:=by omega
  have hst:=ER z hlt;have ei:=wI i;by_cases hx:aM (ab s i)<z
  ·rw[if_pos hx]at hst;simp only[go_sem,dy,yE,BB,BA,p9,Ar,hltI,hx,hb,ei];exact⟨i+1,⟨hlt,by rw[hr,hst];omega⟩,by omega,wR [0]⟩
  ·rw[if_neg hx]at hst;have e:bQ z (aa s)=i:=by omega
   simp only[go_sem,dy,yE,BB,BA,p9,Ar,hltI,hx,hb,e];exact OM rfl rfl rfl (fun _=>rfl)
 ·have hltI:¬(i:Int)<s.size:=by omega
  obtain rfl:i=s.size:=by omega
  have e:bQ z (aa s)=s.size:=by have:=hdz 0;rw[Nat.add_zero]at this;omega
  simp only[go_sem,dy,yE,hltI,e];exact OM rfl rfl rfl (fun _=>rfl)
def Qo:ap prog 117 :=
 mkB _ _ _ func117 rfl (fun _ _=>by go_simp) 3 re (fun s _=>s.size≤1099511627776) (fun s z=>iv (bQ z (aa s))) (by rw[ntmps117];decide) (fun s z h=>TP s z h)
theorem ll {id:Nat}{h:ai}{args:List AV}:Qo.run id h args=kJ 1 (p9 3 re (fun s _=>s.size≤1099511627776)) (fun x=>.ret (iv (bQ x.2 (aa x.1))) [some (dy 3 x.2)] []) id h args:=rfl
theorem lk {id:Nat}{h:ai}{args:List AV}:Qo.pan id h args=kb (p9 3 re (fun s _=>s.size≤1099511627776)) (fun x=>.ret (iv (bQ x.2 (aa x.1))) [some (dy 3 x.2)] []) h args:=rfl
theorem wL {P:Program}{t:TypeId}{u v:Value}{x y:Operand}{b:Bool}{w:World}(h1:binOp .neq t u v=(do pure (.bool (!(←Op.equal t u v)))))(h3:(eqGuard .neq t x y u v).run P w=.ok () w)(h4:∀d,(Op.equalIn (d+1) t u v).run P w=.ok b w):(do eqGuard .neq t x y u v;binOp .neq t u v:Sem Value).run P w=.ok (.bool (!b)) w:=by
  have h5:(Op.equal t u v).run P w=.ok b w:=by
    unfold Op.equal;rw[show Op.maxDepth=9999+1 from rfl];exact h4 9999
  rw[Sem.run_bind,h3,Result.andThen_ok,h1,Sem.run_bind,h5];rfl
theorem AM {P:Program}{t u:TypeId}{v c:Value}{x:Operand}(h:kT P t=4):kn P (do eqGuard .neq t x (.const c) (.iface u v) .nilIface;binOp .neq t (.iface u v) .nilIface)=some (.bool true):=by
  obtain⟨ms,hu⟩:=tU h;exact kc fun w=>wL (b:=false) rfl rfl (fun d=>by simp only[Op.equalIn,Sem.run_bind,run_underlying hu,Result.andThen_ok];rfl)
theorem wB {P:Program}{t:TypeId}{c:Value}{x:Operand}(h:kT P t=4):kn P (do eqGuard .neq t x (.const c) .nilIface .nilIface;binOp .neq t .nilIface .nilIface)=some (.bool false):=by
  obtain⟨ms,hu⟩:=tU h;exact kc fun w=>wL (b:=true) rfl (by cases x<;>rfl) (fun d=>by simp only[Op.equalIn,Sem.run_bind,run_underlying hu,Result.andThen_ok];rfl)
def tN:LV:=.d (.ifc 278 (.pd []))
def CM:List AV→Option (Prop×(ByteArray×ByteArray×Int×Int))
 |[.s (.l (.v (.string a))),.s (.l (.v (.string s))),.s (.l (.v (.int .i64 x))),.s (.l (.v (.int .i64 y))),.s (.l (.v (.iface T (.int .i64 1))))]=>some (s.size≤281474976710656∧T=277,(a,s,x,y))
 |_=>none
def tI (zs:List AV):Option (Prop×(List AV×(ByteArray×ByteArray×Int×Int))):=match CM zs with | some (q,x)=>some (q,(zs,x)) | none=>none
def Jd:ap prog 266 :=
 mkS _ (fun _ _=>by go_simp) tI (fun x=>match x.1 with
   |[.s (.l (.v a)),.s (.l (.v b)),.s (.l (.v c)),.s (.l (.v d)),.s (.l (.v e))]=>[a,b,c,d,e]
   |_=>[]) (fun _=>.s (.l tN))
  (by
   intro zs q x hd ρ al vals hA;unfold tI at hd;split at hd
   case h_2=>cases hd
   rename_i q' y h1;injection hd with hd;injection hd with e1 e2;subst e2;unfold CM at h1;split at h1
   ·match vals,hA with
    |[a,b,c,d,e],⟨h1,h2,h3,h4,h5,_⟩ =>
     obtain rfl:=(show a=_ from h1);obtain rfl:=(show b=_ from h2);obtain rfl:=(show c=_ from h3);obtain rfl:=(show d=_ from h4);obtain rfl:=(show e=_ from h5);rfl
   ·cases h1)
  (fun _ _ _ _ h=>h)
  (by
   intro zs q x hd hq M w hG hM;unfold tI at hd;split at hd
   case h_2=>cases hd
   rename_i q' y h1;injection hd with hd;injection hd with e1 e2;subst e2;subst e1;unfold CM at h1;split at h1
   ·injection h1 with h1;injection h1 with e1 e2;subst e1;obtain⟨hs,rfl⟩:=hq;obtain⟨⟨ev,he1,he2⟩,_⟩:=hG;refine(M5 _ _ _ _ ev w hs (hM _ _ _ he1) he2).mono ?_;rintro e w' ⟨⟨N,rfl⟩,hb⟩;refine⟨⟨_,rfl,?_⟩,hb⟩;simp only[ARep,SRep,LRep,tN,DRep,DsAt];exact⟨_,rfl,N,0,rfl,trivial⟩
   ·cases h1)
theorem M7 {id:Nat}{h:ai}{zs:List AV}:Jd.run id h zs=TQ tI (fun _=>.s (.l tN)) zs:=rfl
theorem M6 {id:Nat}{h:ai}{zs:List AV}:Jd.pan id h zs=none:=rfl
def mA (n:Int):AV:=if n<18446744073709551616 then .tup [.l (.v (.int .u64 n)),.l (.v .nilIface)] else .tup [.l (.v (.int .u64 18446744073709551615)),.l tN]
theorem yw (args:Array Value)(w:World):(callFunc 250 args).run prog w=.ok (.enter 250 args) w:=by go_simp
def parseS:ap prog 250 :=
 mk3 _ _ _ func250 rfl yw (bw) (bO .i64) (bO .i64) ((fun s b n=>BQ s b∧n=64)) ((fun s b _=>.ret (mA (bW b (aa s))))) (by rw[ntmps250];decide) (fun s b n h=>by
 obtain⟨h,rfl⟩:=h;have hsz:s.size≤281474976710656:=by have:=h.2.1;omega
 refine aq [⟨_,Zu⟩,⟨_,Jd⟩] rfl ?_;have hb1:=@wB prog 109 .nilIface (.tmp 17) (by kernel_rfl);have hb2:∀u v,_:=fun u v=>@AM prog 109 u v .nilIface (.tmp 17) (by kernel_rfl);by_cases hn:bW b (aa s)<18446744073709551616
 ·have e1:ki (bW b (aa s))=.tup [.l (.v (.int .u64 (bW b (aa s)))),.l (.v .nilIface)]:=by unfold ki;rw[if_pos hn]
  have e2:mA (bW b (aa s))=.tup [.l (.v (.int .u64 (bW b (aa s)))),.l (.v .nilIface)]:=by unfold mA;rw[if_pos hn]
  simp only[go_sem,h,e1,e2,↓hb1]
 ·have e1:ki (bW b (aa s))=.tup [.l (.v (.int .u64 18446744073709551615)),.l (.v (.iface pj (.int .i64 1)))]:=by unfold ki;rw[if_neg hn]
  have e2:mA (bW b (aa s))=.tup [.l (.v (.int .u64 18446744073709551615)),.l tN]:=by unfold mA;rw[if_neg hn]
  simp only[go_sem,h,e1,e2,pj,M7,M6,TQ,tI,CM,hsz,tN,↓hb2])
theorem parse_run {id:Nat}{h:ai}{args:List AV}:(parseS).run id h args=iN (rY (bw) (bO .i64) (bO .i64) ((fun s b n=>BQ s b∧n=64))) (fun x=>((fun s b _=>.ret (mA (bW b (aa s))))) x.1 x.2.1 x.2.2) h args:=rfl
theorem parse_pan {id:Nat}{h:ai}{args:List AV}:(parseS).pan id h args=iK (rY (bw) (bO .i64) (bO .i64) ((fun s b n=>BQ s b∧n=64))) (fun x=>((fun s b _=>.ret (mA (bW b (aa s))))) x.1 x.2.1 x.2.2) h args:=rfl
end Ly
namespace Ly
def bA (l:List Int):AV:=.tup [.l (.v (.int .u64 (aT l).1)),.l (.v (.int .i64 (aT l).2))]
theorem ur {s:ByteArray}{base:Int}{head n:Nat}(hs:s.size≤1099511627776)(hb:base=2∨base=10∨base=16)(hn:bQ base ((aa s).drop head)=n)(h0:0<n)(hle:head+n≤s.size):BQ (s.extract head (head+n)) base:=by
 have hsz:(s.extract head (head+n)).size=n:=by
  rw[←ae,cD,List.length_take,length_drop,ae];omega
 refine⟨by omega,by omega,hb,fun i hi=>?_⟩;have hi':i<n:=by omega
 have h1:=pL (fun c=>decide (aM c<base)) ((aa s).drop head) i (by unfold bQ at hn;omega);simp only[decide_eq_true_eq]at h1;rw[jm,cD,show head+n-head=n by omega]
 have:bAt (((aa s).drop head).take n) i=bAt ((aa s).drop head) i:=by
  unfold bAt;rw[List.getD_eq_getElem?_getD,List.getD_eq_getElem?_getD,List.getElem?_take_of_lt hi']
 rw[this];exact h1
theorem JL {s:ByteArray}{head n:Nat}:aa (s.extract head (head+n))=((aa s).drop head).take n:=by
 rw[cD,show head+n-head=n by omega]
theorem vo (s:ByteArray)(h0:0<s.size)(hs:s.size≤1099511627776):Sw f233 0 ⟨0,aB 0 [bw.enc s],[]⟩ (oQ f233 (.ret (bA (aa s)))):=by
 refine aq [⟨_,qx⟩,⟨_,zS⟩,⟨_,Qo⟩,⟨_,parseS⟩] rfl ?_;have hl:(aa s).length=s.size:=ae s;have hpI:(0:Int)<s.size:=by omega
 have hb0:=gq s;have hb1:=v6 s;have hb2:=v7 s;by_cases hq:ab s 0=39
 ·have hF:aT (aa s)=if 3≤s.size∧ab s 2=39∧iA (ab s 1)=true∧ab s 1≠39∧ab s 1≠92 then(ab s 1,3) else(0,0):=by
   unfold aT;rw[if_pos (by rw[←hb0];exact hq),hl,←hb1,←hb2]
  by_cases c1:s.size<3
  ·have c1I:(s.size:Int)<3:=by omega
   have e:bA (aa s)=.tup [.l (.v (.int .u64 0)),.l (.v (.int .i64 0))]:=by unfold bA;rw[hF,nG];rfl
   simp only[go_sem,hpI,hq,c1I,e]
  have c1I:¬(s.size:Int)<3:=by omega
  have p1:(1:Int)<s.size:=by omega
  have p2:(2:Int)<s.size:=by omega
  by_cases c2:ab s 2=39
  case neg =>
   have e:bA (aa s)=.tup [.l (.v (.int .u64 0)),.l (.v (.int .i64 0))]:=by unfold bA;rw[hF,if_neg (fun h=>c2 h.2.1)];rfl
   simp only[go_sem,hpI,hq,c1I,p2,c2,e]
  by_cases c3:iA (ab s 1)=true
  case neg =>
   have c3':iA (ab s 1)=false:=by simpa using c3
   have e:bA (aa s)=.tup [.l (.v (.int .u64 0)),.l (.v (.int .i64 0))]:=by unfold bA;rw[hF,if_neg (fun h=>c3 h.2.2.1)];rfl
   simp only[go_sem,hpI,hq,c1I,p1,p2,c2,c3',e]
  by_cases c4:ab s 1=39
  ·have e:bA (aa s)=.tup [.l (.v (.int .u64 0)),.l (.v (.int .i64 0))]:=by unfold bA;rw[hF,if_neg (fun h=>h.2.2.2.1 c4)];rfl
   simp only[go_sem,hpI,hq,c1I,p1,p2,c2,c3,c4,e]
  by_cases c5:ab s 1=92
  ·have e:bA (aa s)=.tup [.l (.v (.int .u64 0)),.l (.v (.int .i64 0))]:=by unfold bA;rw[hF,if_neg (fun h=>h.2.2.2.2 c5)];rfl
   simp only[go_sem,hpI,hq,c1I,p1,p2,c2,c3,c4,c5,e]
  have e:bA (aa s)=.tup [.l (.v (.int .u64 (ab s 1))),.l (.v (.int .i64 3))]:=by unfold bA;rw[hF,if_pos ⟨by omega,c2,c3,c4,c5⟩];rfl
  have hr:=bN s 1;have ew:IntKind.u64.wrap (ab s 1)=ab s 1:=by rw[IntKind.wrap_u64];omega
  simp only[go_sem,hpI,hq,c1I,p1,p2,c2,c3,c4,c5,ew,e]
 have hF:∀base head,fA (aa s)=base→cM (aa s)=head→aT (aa s)=if bQ base ((aa s).drop head)=0∨head=0∧1<bQ base ((aa s).drop head)∧ab s 0=48 then(0,0)
   else if 18446744073709551616≤bW base (((aa s).drop head).take (bQ base ((aa s).drop head))) then(0,0)
   else(bW base (((aa s).drop head).take (bQ base ((aa s).drop head))),head+bQ base ((aa s).drop head)):=by
  intro base head e1 e2;unfold aT;rw[if_neg (by rw[←hb0];exact hq),e1,e2,←hb0]
 have hle:∀base head,bQ base ((aa s).drop head)≤s.size-head:=by
  intro base head;have:bQ base ((aa s).drop head)≤((aa s).drop head).length:=lR _ _
  rwa [length_drop,hl]at this
 have hx:bS s ⟨#[48,120]⟩=decide (1<(aa s).length∧bAt (aa s) 0=48∧bAt (aa s) 1=120):=EP s 48 120 (by omega) (by omega);have hbb:bS s ⟨#[48,98]⟩=decide (1<(aa s).length∧bAt (aa s) 0=48∧bAt (aa s) 1=98):=EP s 48 98 (by omega) (by omega);have nb2:=@wB prog 109 .nilIface (.tmp 76) (by kernel_rfl);by_cases k1:1<(aa s).length∧bAt (aa s) 0=48∧bAt (aa s) 1=120
 ·rw[decide_eq_true k1]at hx;have hB:fA (aa s)=16:=by unfold fA;rw[if_pos k1]
  have hH:cM (aa s)=2:=by unfold cM;rw[if_pos ⟨k1.1,k1.2.1,.inl k1.2.2⟩]
  have hF:=hF 16 2 hB hH;have hle:=hle 16 2;have p2:(2:Int)≤s.size:=by omega
  have hs2:(s.extract 2 s.size).size≤1099511627776:=by rw[←ae,dk,length_drop,hl];omega
  have hR:bQ 16 (aa (s.extract 2 s.size))=bQ 16 ((aa s).drop 2):=by rw[dk]
  generalize hn:bQ 16 ((aa s).drop 2)=n at *
  by_cases n0:n=0
  ·have e:bA (aa s)=.tup [.l (.v (.int .u64 0)),.l (.v (.int .i64 0))]:=by unfold bA;rw[hF,if_pos (.inl n0)];rfl
   have n0I:(n:Int)=0:=by omega
   simp only[go_sem,dy,hpI,hq,hx,cY,cX,ll,lk,p9,re,p2,hs2,hR,n0I,e]
  ·have n0I:¬(n:Int)=0:=by omega
   rw[nG]at hF;have hpar:=ur (head:=2) hs (by omega) hn (by omega) (by omega);have hnat:bW 16 (aa (s.extract 2 (2+n)))=bW 16 (((aa s).drop 2).take n):=by rw[JL]
   have ea:IntKind.i64.wrap (2+(n:Int))=((2+n:Nat):Int):=by rw[IntKind.wrap_i64];omega
   have hend:((2+n:Nat):Int)≤s.size:=by omega
   have hst:(2:Int)≤((2+n:Nat):Int):=by omega
   simp only[go_sem,dy,hpI,hq,hx,cY,cX,ll,lk,p9,re,p2,hs2,hR,n0I];refine sD mixed [⟨_,parseS⟩] [] ?_;by_cases hv:bW 16 (((aa s).drop 2).take n)<18446744073709551616
   ·rw[nG]at hF;have e2:mA (bW 16 (((aa s).drop 2).take n))=.tup [.l (.v (.int .u64 (bW 16 (((aa s).drop 2).take n)))),.l (.v .nilIface)]:=by unfold mA;rw[if_pos hv]
    have e:bA (aa s)=.tup [.l (.v (.int .u64 (bW 16 (((aa s).drop 2).take n)))),.l (.v (.int .i64 ((2+n:Nat):Int)))]:=by unfold bA;rw[hF]
    simp only[go_sem,dy,ea,hend,hst,parse_run,parse_pan,hpar,hnat,e2,↓nb2,e]
   ·rw[pS]at hF;have e2:mA (bW 16 (((aa s).drop 2).take n))=.tup [.l (.v (.int .u64 18446744073709551615)),.l tN]:=by unfold mA;rw[if_neg hv]
    have e:bA (aa s)=.tup [.l (.v (.int .u64 0)),.l (.v (.int .i64 0))]:=by unfold bA;rw[hF];rfl
    simp only[go_sem,dy,ea,hend,hst,parse_run,parse_pan,hpar,hnat,e2,tN,e]
 rw[decide_eq_false k1]at hx;by_cases k2:1<(aa s).length∧bAt (aa s) 0=48∧bAt (aa s) 1=98
 ·rw[decide_eq_true k2]at hbb;have hB:fA (aa s)=2:=by unfold fA;rw[if_neg k1,if_pos k2]
  have hH:cM (aa s)=2:=by unfold cM;rw[if_pos ⟨k2.1,k2.2.1,.inr k2.2.2⟩]
  have hF:=hF 2 2 hB hH;have hle:=hle 2 2;have p2:(2:Int)≤s.size:=by omega
  have hs2:(s.extract 2 s.size).size≤1099511627776:=by rw[←ae,dk,length_drop,hl];omega
  have hR:bQ 2 (aa (s.extract 2 s.size))=bQ 2 ((aa s).drop 2):=by rw[dk]
  generalize hn:bQ 2 ((aa s).drop 2)=n at *
  by_cases n0:n=0
  ·have e:bA (aa s)=.tup [.l (.v (.int .u64 0)),.l (.v (.int .i64 0))]:=by unfold bA;rw[hF,if_pos (.inl n0)];rfl
   have n0I:(n:Int)=0:=by omega
   simp only[go_sem,dy,hpI,hq,hx,hbb,cY,cX,ll,lk,p9,re,p2,hs2,hR,n0I,e]
  ·have n0I:¬(n:Int)=0:=by omega
   rw[nG]at hF;have hpar:=ur (head:=2) hs (by omega) hn (by omega) (by omega);have hnat:bW 2 (aa (s.extract 2 (2+n)))=bW 2 (((aa s).drop 2).take n):=by rw[JL]
   have ea:IntKind.i64.wrap (2+(n:Int))=((2+n:Nat):Int):=by rw[IntKind.wrap_i64];omega
   have hend:((2+n:Nat):Int)≤s.size:=by omega
   have hst:(2:Int)≤((2+n:Nat):Int):=by omega
   simp only[go_sem,dy,hpI,hq,hx,hbb,cY,cX,ll,lk,p9,re,p2,hs2,hR,n0I];refine sD mixed [⟨_,parseS⟩] [] ?_;by_cases hv:bW 2 (((aa s).drop 2).take n)<18446744073709551616
   ·rw[nG]at hF;have e2:mA (bW 2 (((aa s).drop 2).take n))=.tup [.l (.v (.int .u64 (bW 2 (((aa s).drop 2).take n)))),.l (.v .nilIface)]:=by unfold mA;rw[if_pos hv]
    have e:bA (aa s)=.tup [.l (.v (.int .u64 (bW 2 (((aa s).drop 2).take n)))),.l (.v (.int .i64 ((2+n:Nat):Int)))]:=by unfold bA;rw[hF]
    simp only[go_sem,dy,ea,hend,hst,parse_run,parse_pan,hpar,hnat,e2,↓nb2,e]
   ·rw[pS]at hF;have e2:mA (bW 2 (((aa s).drop 2).take n))=.tup [.l (.v (.int .u64 18446744073709551615)),.l tN]:=by unfold mA;rw[if_neg hv]
    have e:bA (aa s)=.tup [.l (.v (.int .u64 0)),.l (.v (.int .i64 0))]:=by unfold bA;rw[hF];rfl
    simp only[go_sem,dy,ea,hend,hst,parse_run,parse_pan,hpar,hnat,e2,tN,e]
 rw[decide_eq_false k2]at hbb;have hB:fA (aa s)=10:=by unfold fA;rw[if_neg k1,if_neg k2]
 have hH:cM (aa s)=0:=by unfold cM;rw[if_neg (fun h=>h.2.2.elim (fun h3=>k1 ⟨h.1,h.2.1,h3⟩) fun h3=>k2 ⟨h.1,h.2.1,h3⟩)]
 have hF:=hF 10 0 hB hH;have hle:=hle 10 0;have p2:(0:Int)≤s.size:=by omega
 have hs2:(s.extract 0 s.size).size≤1099511627776:=by rw[←ae,dk,length_drop,hl];omega
 have hR:bQ 10 (aa (s.extract 0 s.size))=bQ 10 ((aa s).drop 0):=by rw[dk]
 rw[List.drop_zero]at hF hle hR;generalize hn:bQ 10 (aa s)=n at *
 rw[Nat.zero_add]at hF;by_cases n0:n=0
 ·have e:bA (aa s)=.tup [.l (.v (.int .u64 0)),.l (.v (.int .i64 0))]:=by unfold bA;rw[hF,if_pos (.inl n0)];rfl
  have n0I:(n:Int)=0:=by omega
  simp only[go_sem,dy,hpI,hq,hx,hbb,cY,cX,ll,lk,p9,re,p2,hs2,hR,n0I,e]
 ·have n0I:¬(n:Int)=0:=by omega
  by_cases n1:1<n
  ·have n1I:(1:Int)<n:=by omega
   by_cases z:ab s 0=48
   ·have e:bA (aa s)=.tup [.l (.v (.int .u64 0)),.l (.v (.int .i64 0))]:=by unfold bA;rw[hF,if_pos (.inr ⟨rfl,n1,z⟩)];rfl
    simp only[go_sem,dy,hpI,hq,hx,hbb,cY,cX,ll,lk,p9,re,p2,hs2,hR,n0I,n1I,z,e]
   ·rw[nG]at hF;have hpar:=ur (base:=10) (head:=0) (n:=n) hs (by omega) (by rw[List.drop_zero];exact hn) (by omega) (by omega);have hnat:bW 10 (aa (s.extract 0 n))=bW 10 ((aa s).take n):=by rw[pT]
    rw[Nat.zero_add]at hpar;have ea:IntKind.i64.wrap (0+(n:Int))=(n:Int):=by rw[IntKind.wrap_i64];omega
    have hend:(n:Int)≤s.size:=by omega
    have hst:(0:Int)≤(n:Int):=by omega
    simp only[go_sem,dy,hpI,hq,hx,hbb,cY,cX,ll,lk,p9,re,p2,hs2,hR,n0I,n1I,z];refine sD mixed [⟨_,parseS⟩] [] ?_;by_cases hv:bW 10 ((aa s).take n)<18446744073709551616
    ·rw[nG]at hF;have e2:mA (bW 10 ((aa s).take n))=.tup [.l (.v (.int .u64 (bW 10 ((aa s).take n)))),.l (.v .nilIface)]:=by unfold mA;rw[if_pos hv]
     have e:bA (aa s)=.tup [.l (.v (.int .u64 (bW 10 ((aa s).take n)))),.l (.v (.int .i64 (n:Int)))]:=by unfold bA;rw[hF]
     simp only[go_sem,dy,ea,hend,hst,parse_run,parse_pan,hpar,hnat,e2,↓nb2,e]
    ·rw[pS]at hF;have e2:mA (bW 10 ((aa s).take n))=.tup [.l (.v (.int .u64 18446744073709551615)),.l tN]:=by unfold mA;rw[if_neg hv]
     have e:bA (aa s)=.tup [.l (.v (.int .u64 0)),.l (.v (.int .i64 0))]:=by unfold bA;rw[hF];rfl
     simp only[go_sem,dy,ea,hend,hst,parse_run,parse_pan,hpar,hnat,e2,tN,e]
  ·have n1I:¬(1:Int)<n:=by omega
   rw[nG]at hF;have hpar:=ur (base:=10) (head:=0) (n:=n) hs (by omega) (by rw[List.drop_zero];exact hn) (by omega) (by omega);have hnat:bW 10 (aa (s.extract 0 n))=bW 10 ((aa s).take n):=by rw[pT]
   rw[Nat.zero_add]at hpar;have ea:IntKind.i64.wrap (0+(n:Int))=(n:Int):=by rw[IntKind.wrap_i64];omega
   have hend:(n:Int)≤s.size:=by omega
   have hst:(0:Int)≤(n:Int):=by omega
   simp only[go_sem,dy,hpI,hq,hx,hbb,cY,cX,ll,lk,p9,re,p2,hs2,hR,n0I,n1I];refine sD mixed [⟨_,parseS⟩] [] ?_;by_cases hv:bW 10 ((aa s).take n)<18446744073709551616
   ·rw[nG]at hF;have e2:mA (bW 10 ((aa s).take n))=.tup [.l (.v (.int .u64 (bW 10 ((aa s).take n)))),.l (.v .nilIface)]:=by unfold mA;rw[if_pos hv]
    have e:bA (aa s)=.tup [.l (.v (.int .u64 (bW 10 ((aa s).take n)))),.l (.v (.int .i64 (n:Int)))]:=by unfold bA;rw[hF]
    simp only[go_sem,dy,ea,hend,hst,parse_run,parse_pan,hpar,hnat,e2,↓nb2,e]
   ·rw[pS]at hF;have e2:mA (bW 10 ((aa s).take n))=.tup [.l (.v (.int .u64 18446744073709551615)),.l tN]:=by unfold mA;rw[if_neg hv]
    have e:bA (aa s)=.tup [.l (.v (.int .u64 0)),.l (.v (.int .i64 0))]:=by unfold bA;rw[hF];rfl
    simp only[go_sem,dy,ea,hend,hst,parse_run,parse_pan,hpar,hnat,e2,tN,e]
abbrev Zr:ap prog 233 :=
 mz1 func233 (bw) ((fun s=>0<s.size∧s.size≤1099511627776)) ((fun s=>.ret (bA (aa s)))) (asP fun s h=>vo s h.1 h.2)
end Ly
namespace Ly
def kf (t:Tok)(n:Int):AV:=.tup [lU t,.l (.v (.int .i64 n))]
abbrev Tt:ap prog 193 :=
 mz1 func193 (bw) ((fun s=>s.size≤1099511627776)) ((fun s=>.ret (kf ⟨1,aj ((aa s).take (bz wordyB (aa s))),0,0⟩ (bz wordyB (aa s))))) (asP fun s hs=>by
 refine aq [⟨_,WF⟩] rfl ?_;have hm:s.size≤maxLen:=by unfold maxLen;omega
 have hle:bz wordyB (aa s)≤(aa s).length:=lR _ _;rw[ae]at hle;have hleI:(bz wordyB (aa s):Int)≤s.size:=by omega
 simp only[go_sem,Lt,hm,hleI,kf,lU,←tO,Int.toNat_zero])
abbrev Tu:ap prog 192 :=
 mz1 func192 (bw) ((fun _=>True)) ((fun s=>.ret (kf ⟨4,aj ((aa s).take (bI (aa s))),0,0⟩ (bI (aa s))))) (asP fun s hs=>by
 refine aq [⟨_,F8⟩] rfl ?_;have hle:=zT (aa s);rw[ae]at hle;have hleI:(bI (aa s):Int)≤s.size:=by omega
 simp only[go_sem,Dy,Dx,hleI,kf,lU,←tO,Int.toNat_zero])
abbrev Mt:ap prog 195 :=
 mz1 func195 (bw) ((fun s=>s.size≤1099511627776)) ((fun s=>.ret (kf ⟨3,aj (cv (aa s)).1,0,0⟩ (cv (aa s)).2))) (asP fun s hs=>by
 refine aq [⟨_,Tr⟩] rfl ?_;simp only[go_sem,qT,hs,kf,lU,ac])
def xa (l:List Int):Int:=if(aT l).2<l.length∧wordyB (bAt l (aT l).2)=true then 0 else(aT l).2
abbrev Wn:ap prog 194 :=
 mz1 func194 (bw) ((fun s=>0<s.size∧s.size≤1099511627776)) ((fun s=>.ret (kf ⟨2,emp,(aT (aa s)).1,0⟩ (xa (aa s))))) (asP fun s hs=>by
 refine aq [⟨_,Zr⟩,⟨_,Xn⟩] rfl ?_;have hl:(aa s).length=s.size:=ae s;have hbb:=jm s (aT (aa s)).2;by_cases h1:(aT (aa s)).2<s.size
 ·have h1I:((aT (aa s)).2:Int)<s.size:=by omega
  cases h2:wordyB (ab s (aT (aa s)).2) with
  |true =>
   have e:xa (aa s)=0:=by unfold xa;rw[hl,←hbb,if_pos ⟨h1,h2⟩]
   simp only[go_sem,bA,hs,h1I,h2,kf,lU,e,ac]
  |false =>
   have e:xa (aa s)=(aT (aa s)).2:=by unfold xa;rw[hl,←hbb,h2,if_neg (by simp)]
   simp only[go_sem,bA,hs,h1I,h2,kf,lU,e,ac]
 ·have h1I:¬((aT (aa s)).2:Int)<s.size:=by omega
  have e:xa (aa s)=(aT (aa s)).2:=by unfold xa;rw[hl,nG]
  simp only[go_sem,bA,hs,h1I,kf,lU,e,ac])
theorem VV (s:ByteArray)(h0:0<s.size)(hs:s.size≤1099511627776):Sw f148 0 ⟨0,aB 0 [bw.enc s],[]⟩ (oQ f148 (.ret (qE (fT (aa s))))):=by
 refine aq [⟨_,SS⟩,⟨_,Ob⟩,⟨_,Tt⟩,⟨_,Tu⟩,⟨_,Mt⟩,⟨_,Wn⟩] rfl ?_;have hl:(aa s).length=s.size:=ae s;have hpI:(0:Int)<s.size:=by omega
 have hb0:=gq s;by_cases c1:bX (ab s 0)=true
 ·have e:fT (aa s)=.ok (⟨1,aj ((aa s).take (bz wordyB (aa s))),0,0⟩,bz wordyB (aa s)):=by unfold fT;rw[if_pos (by rw[←hb0];exact c1)]
  have hn:=kQ (by omega) e;have hn0:¬(bz wordyB (aa s):Int)=0:=by omega
  simp only[go_sem,hpI,c1,hs,kf,lU,hn0,e,qE]
 have k1:bX (ab s 0)=false:=by simpa using c1
 by_cases c2:eI (ab s 0)=true∨ab s 0=39
 ·have hO:fT (aa s)=if(aT (aa s)).2=0∨(aT (aa s)).2<(aa s).length∧wordyB (bAt (aa s) (aT (aa s)).2)=true then .error 81 else .ok (⟨2,emp,(aT (aa s)).1,0⟩,(aT (aa s)).2):=by
   unfold fT;rw[if_neg (by rw[←hb0];exact c1),if_pos (by rw[←hb0];exact c2)]
  have hz:xa (aa s)=0↔(aT (aa s)).2=0∨(aT (aa s)).2<(aa s).length∧wordyB (bAt (aa s) (aT (aa s)).2)=true:=by
   unfold xa;split
   ·rename_i h;exact⟨fun _=>.inr h,fun _=>rfl⟩
   ·rename_i h;exact⟨fun e=>.inl (by omega),fun e=>e.elim (fun e=>by omega) fun e=>absurd e h⟩
  by_cases hn:xa (aa s)=0
  ·have e:fT (aa s)=.error 81:=by rw[hO,if_pos (hz.1 hn)]
   cases k2:eI (ab s 0) with
   |true =>
    simp only[go_sem,hpI,k1,k2,h0,hs,kf,lU,hn,e,qE];refine bT (ctx:=[]) mixed ⟨[],[(3,[0])],[(1,[0]),(2,[0])]⟩ (by kernel_rfl) ?_;simp only[go_sem,e,qE,lU,ac]
   |false =>
    have k3:ab s 0=39:=c2.resolve_left (by rw[k2];simp);simp only[go_sem,hpI,k1,k2,k3,show bX 39=false from rfl,show eI 39=false from rfl,h0,hs,kf,lU,hn,e,qE];refine bT (ctx:=[]) mixed ⟨[],[(3,[0])],[(1,[0]),(2,[0])]⟩ (by kernel_rfl) ?_;simp only[go_sem,e,qE,lU,ac]
  ·have e:fT (aa s)=.ok (⟨2,emp,(aT (aa s)).1,0⟩,(aT (aa s)).2):=by rw[hO,if_neg (fun h=>hn (hz.2 h))]
   have e4:xa (aa s)=(aT (aa s)).2:=by
    unfold xa;rw[if_neg (fun h=>hn (hz.2 (.inr h)))]
   rw[e4]at hn;cases k2:eI (ab s 0) with
   |true=>simp only[go_sem,hpI,k1,k2,h0,hs,kf,lU,hn,e4,e,qE]
   |false =>
    have k3:ab s 0=39:=c2.resolve_left (by rw[k2];simp);simp only[go_sem,hpI,k1,k2,k3,show bX 39=false from rfl,show eI 39=false from rfl,h0,hs,kf,lU,hn,e4,e,qE]
 have k2:eI (ab s 0)=false:=by simpa using fun h=>c2 (.inl h)
 have k3:¬ab s 0=39:=fun h=>c2 (.inr h);by_cases c3:ab s 0=34
 ·have hO:fT (aa s)=if(cv (aa s)).2=0 then .error 82 else .ok (⟨3,aj (cv (aa s)).1,0,0⟩,(cv (aa s)).2):=by
   unfold fT;rw[if_neg (by rw[←hb0];exact c1),if_neg (by rw[←hb0];exact c2),if_pos (by rw[←hb0];exact c3)]
  by_cases hn:(cv (aa s)).2=0
  ·have e:fT (aa s)=.error 82:=by rw[hO,if_pos hn]
   have hnI:((cv (aa s)).2:Int)=0:=by omega
   simp only[go_sem,hpI,k1,k2,k3,c3,show bX 34=false from rfl,show eI 34=false from rfl,hs,kf,lU,hnI,e,qE];refine bT (ctx:=[]) mixed ⟨[],[(3,[0])],[(1,[0]),(2,[0])]⟩ (by kernel_rfl) ?_;simp only[go_sem,e,qE,lU,ac]
  ·have e:fT (aa s)=.ok (⟨3,aj (cv (aa s)).1,0,0⟩,(cv (aa s)).2):=by rw[hO,if_neg hn]
   have hnI:¬((cv (aa s)).2:Int)=0:=by omega
   simp only[go_sem,hpI,k1,k2,k3,c3,show bX 34=false from rfl,show eI 34=false from rfl,hs,kf,lU,hnI,e,qE]
 ·have hO:fT (aa s)=if bI (aa s)=0 then .error 80 else .ok (⟨4,aj ((aa s).take (bI (aa s))),0,0⟩,bI (aa s)):=by
   unfold fT;rw[if_neg (by rw[←hb0];exact c1),if_neg (by rw[←hb0];exact c2),if_neg (by rw[←hb0];exact c3)]
  by_cases hn:bI (aa s)=0
  ·have e:fT (aa s)=.error 80:=by rw[hO,if_pos hn]
   have hnI:(bI (aa s):Int)=0:=by omega
   simp only[go_sem,hpI,k1,k2,k3,c3,kf,lU,hnI,e,qE];refine bT (ctx:=[]) mixed ⟨[],[(3,[0])],[(1,[0]),(2,[0])]⟩ (by kernel_rfl) ?_;simp only[go_sem,e,qE,lU,ac]
  ·have e:fT (aa s)=.ok (⟨4,aj ((aa s).take (bI (aa s))),0,0⟩,bI (aa s)):=by rw[hO,if_neg hn]
   have hnI:¬(bI (aa s):Int)=0:=by omega
   simp only[go_sem,hpI,k1,k2,k3,c3,kf,lU,hnI,e,qE]
abbrev Yc:ap prog 148 :=
 mz1 func148 (bw) ((fun s=>0<s.size∧s.size≤1099511627776)) ((fun s=>.ret (qE (fT (aa s))))) (asP fun s h=>VV s h.1 h.2)
end Ly
namespace Ly
theorem M8 (s:ByteArray):Sw f95 0 ⟨0,aB 0 [bw.enc s],[]⟩ (oQ f95 (.ret (rO (gB (aa s)) (j6 (aa s))))):=by
 refine aq [⟨_,WF⟩,⟨_,qx⟩,⟨_,Yc⟩] rfl ?_;have hl:(aa s).length=s.size:=ae s;by_cases h5:512<s.size
 ·have h5I:(512:Int)<s.size:=by omega
  have e1:gB (aa s)=([],0,3):=by unfold gB;rw[pS]
  have e2:j6 (aa s)=true:=by unfold j6;rw[hl];exact decide_eq_true h5
  simp only[go_sem,h5I,e1,e2,rO,Ff]
 have h5I:¬(512:Int)<s.size:=by omega
 have hs:s.size≤1099511627776:=by omega
 have e1:gB (aa s)=bg 0 (aa s):=by unfold gB;rw[nG]
 have e2:j6 (aa s)=false:=by unfold j6;rw[hl];exact decide_eq_false h5
 simp only[go_sem,h5I,e1,e2,rO];refine ba (ι:=Nat×List Tok) (Y0 s) (fun p=>⟨1,[(0,sv s),(5,.s (.l (.sl 0 0 p.2.length))),(6,iv p.1)],[(0,some (Gn p.2))]⟩) (fun p=>s.size-p.1) (0,[]) ⟨zero_le _,Nat.le_refl _,by simp⟩ ?_ ?_
 ·exact(Wk.nil 5 137 4 rfl).trans (wR [128])
 rintro⟨p,l⟩ ⟨hp,hlp,hinv⟩;simp only at hp hlp hinv;refine aw [⟨_,WF⟩,⟨_,qx⟩,⟨_,Yc⟩] ?_;obtain⟨k,hk⟩:∃k,bz az ((aa s).drop p)=k:=⟨_,rfl⟩
 have hkl:k≤s.size-p:=by
  have:bz az ((aa s).drop p)≤((aa s).drop p).length:=lR _ _;rw[length_drop,hl]at this;omega
 have hpI:(p:Int)≤s.size:=by omega
 have hx1:(s.extract p s.size).size≤maxLen:=by rw[←ae,dk,length_drop,hl];unfold maxLen;omega
 have hx2:bz az (aa (s.extract p s.size))=k:=by rw[dk,hk]
 have ew:IntKind.i64.wrap ((p:Int)+(k:Int))=((p+k:Nat):Int):=by rw[IntKind.wrap_i64];omega
 have hpk:((p+k:Nat):Int)≤s.size:=by omega
 have hdd:((aa s).drop p).drop k=(aa s).drop (p+k):=by rw[drop_drop]
 by_cases hend:p+k=s.size
 ·have hendI:((p+k:Nat):Int)=s.size:=by omega
  have hd:bg p ((aa s).drop p)=([],p+((aa s).drop p).length,0):=gJ (by rw[hk,hdd];unfold dF;rw[length_drop,hl,hend];simp);have hF:bg 0 (aa s)=(l,s.size,0):=by rw[hinv,hd,append_nil,length_drop,hl];exact Prod.ext rfl (Prod.ext (show p+(s.size-p)=s.size by omega) rfl)
  simp only[go_sem,Gn,Lt,hpI,hx1,hx2,ew,hendI,hF,wV]
 have hendI:¬((p+k:Nat):Int)=s.size:=by omega
 obtain⟨m,hm⟩:∃m,(aa s).drop (p+k)=m:=⟨_,rfl⟩;have hml:m.length=s.size-(p+k):=by rw[←hm,length_drop,hl]
 have hx3:aa (s.extract (p+k) s.size)=m:=by rw[dk,hm]
 have hx4:(s.extract (p+k) s.size).size=s.size-(p+k):=by rw[←ae,hx3,hml]
 have hx5:0<(s.extract (p+k) s.size).size∧(s.extract (p+k) s.size).size≤1099511627776:=by omega
 have hP:bS (s.extract (p+k) s.size) ⟨#[47,47]⟩=decide (1<m.length∧bAt m 0=47∧bAt m 1=47):=by rw[←hx3];exact EP _ 47 47 (by omega) (by omega)
 have hD:dF m=decide (1<m.length∧bAt m 0=47∧bAt m 1=47):=by
  unfold dF;rw[decide_eq_false (show ¬m.length=0 by omega),Bool.false_or,Bool.eq_iff_iff];simp[and_assoc]
 by_cases hc:1<m.length∧bAt m 0=47∧bAt m 1=47
 ·rw[decide_eq_true hc]at hP hD;have hd:bg p ((aa s).drop p)=([],p+((aa s).drop p).length,0):=gJ (by rw[hk,hdd,hm];exact hD);have hF:bg 0 (aa s)=(l,s.size,0):=by rw[hinv,hd,append_nil,length_drop,hl];exact Prod.ext rfl (Prod.ext (show p+(s.size-p)=s.size by omega) rfl)
  simp only[go_sem,Gn,Lt,hpI,hx1,hx2,ew,hendI,hpk,cY,cX,hP,hF,wV]
 rw[decide_eq_false hc]at hP hD;have hD':dF (((aa s).drop p).drop k)=false:=by rw[hdd,hm];exact hD
 rcases ho:fT m with e | ⟨t,n⟩
 ·have hd:bg p ((aa s).drop p)=([],p+k,e):=by
   have:=jd (p:=p) (l:=(aa s).drop p) (e:=e) (by rw[hk];exact hD') (by rw[hk,hdd,hm];exact ho);rw[hk]at this;exact this
  have hF:bg 0 (aa s)=(l,p+k,e):=by rw[hinv,hd,append_nil]
  have he:¬e=0:=by have:=PB ho;omega
  simp only[go_sem,Gn,Lt,hpI,hx1,hx2,hx3,hx5,ew,hendI,hpk,cY,cX,hP,ho,qE,lU,he,hF,wV]
 ·have hn:=kQ (by omega) ho
  have hd:bg p ((aa s).drop p)=({ t with pos:=((p+k:Nat):Int) }::(bg (p+k+n) ((aa s).drop (p+k+n))).1,(bg (p+k+n) ((aa s).drop (p+k+n))).2):=by
   have:=kK (p:=p) (l:=(aa s).drop p) (t:=t) (n:=n) (by rw[hk];exact hD') (by rw[hk,hdd,hm];exact ho);rw[hk,drop_drop,←Nat.add_assoc]at this;exact this
  have e3:IntKind.i64.wrap (((p+k:Nat):Int)+(n:Int))=((p+k+n:Nat):Int):=by rw[IntKind.wrap_i64];omega
  have hsn:=Na l { t with pos:=((p+k:Nat):Int) };simp only at hsn;have hm1:l.length+1≤maxLen:=by unfold maxLen;omega
  have hb1:(l.length+1)*40≤140737488355328:=by omega
  simp only[go_sem,Gn,Lt,hpI,hx1,hx2,hx3,hx5,ew,hendI,hpk,cY,cX,hP,ho,qE,lU,hm1,hb1,e3,hsn];exact⟨(p+k+n,l++[{ t with pos:=((p+k:Nat):Int) }]),⟨by simp only;omega,by simp only[List.length_append,List.length_cons,List.length_nil];omega,by rw[hinv,hd];simp⟩,by simp only;omega,Wk.renL [593] (by simp) (by simp) (by simp) (by simp[bR,AV.ren,SV.ren,LV.ren]) (by simp only[hget,List.map_cons,List.map_nil,Option.map_some,Blk.ren,gS];rfl)⟩
abbrev Uc:ap prog 95 :=
 mz1 func95 (bw) ((fun _=>True)) ((fun s=>.ret (rO (gB (aa s)) (j6 (aa s))))) (asP fun s _=>M8 s)
end Ly
namespace Ly
abbrev lexS:ap prog 43 :=
 mz1 func43 (bw) ((fun _=>True)) ((fun s=>.ret (ON (gB (aa s))))) (asP fun s _=>by
 refine aq [⟨_,Uc⟩] rfl ?_;by_cases h0:(gB (aa s)).2.2=0
 ·have hl:j6 (aa s)=false:=by
   unfold j6;refine decide_eq_false fun h=>?_;unfold gB at h0;rw[if_pos h]at h0;cases h0
  simp only[go_sem,rO,wV,ON,h0,hl]
 ·cases hl:j6 (aa s)<;>simp only[go_sem,rO,wV,Ff,ON,h0,hl])
end Ly
end Go.Proofs.YtnhbidpdadkcjaaGreatDoor
