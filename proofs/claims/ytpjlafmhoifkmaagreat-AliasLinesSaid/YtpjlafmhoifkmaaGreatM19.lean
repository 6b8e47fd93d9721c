import Derived.Test.YtpjlafmhoifkmaaGreatM18
import Derived.Test.YtpjlafmhoifkmaaGreatM17
import Derived.Laws.BitsAllLaws
set_option linter.unusedVariables false
set_option linter.unusedSimpArgs false
set_option maxRecDepth 100000
set_option maxHeartbeats 8000000
namespace Go.Proofs.YtpjlafmhoifkmaaGreat
section
open Go.RowKit
def Eo:aJ Tryz.prog 93 :=
 mk2 _ _ _ Tryz.func93 rfl (fun _ _=>by go_simp) (tU) (ao .i64) ((fun v w=>(0≤v∧v<18446744073709551616)∧(w=32∨w=64))) ((fun v w=>.ret (k8 (dF v.toNat w.toNat)))) (by rw [Tryz.ntmps93];decide) (fun v w h=>by
 obtain ⟨⟨h1,h2⟩,h3⟩:=h
 obtain ⟨v,rfl⟩:=Int.eq_ofNat_of_zero_le h1
 obtain ⟨w,rfl⟩:=Int.eq_ofNat_of_zero_le (show 0≤w by omega)
 exact Jm v w (by omega) (by omega))
theorem vo {id:Nat} {h:am} {args:List AV}:(Eo).run id h args=aY (bT (tU) (ao .i64) ((fun v w=>(0≤v∧v<18446744073709551616)∧(w=32∨w=64)))) (fun x=>((fun v w=>.ret (k8 (dF v.toNat w.toNat)))) x.1 x.2) h args:=rfl
theorem vM {id:Nat} {h:am} {args:List AV}:(Eo).pan id h args=aZ (bT (tU) (ao .i64) ((fun v w=>(0≤v∧v<18446744073709551616)∧(w=32∨w=64)))) (fun x=>((fun v w=>.ret (k8 (dF v.toNat w.toNat)))) x.1 x.2) h args:=rfl
theorem x6 {v w:Nat} (hw:w=32∨w=64) {s o t:Nat} (h:dF v w=some (s,o,t)):2≤s∧s≤w∧1≤o∧o<s∧t<s:=by
 unfold dF at h
 split at h
 ·cases h
 split at h
 ·cases h
 rename_i size hs
 rw [Option.map_eq_some_iff] at h
 obtain ⟨t',ht,e⟩:=h
 simp only [Prod.mk.injEq] at e
 obtain ⟨rfl,rfl,rfl⟩:=e
 obtain ⟨h1,h2,h3⟩:=nt ht
 have:=pA hw (List.mem_of_find?_eq_some hs)
 omega
def mq (v w:Nat):Int×Int×Int×Int:=match dF v w with
 | some (s,o,t)=>(if (s:Int)=64 then 1 else 0,t,ib s+o-1,0)
 | none=>(0,0,0,20)
def oo (r:Int×Int×Int×Int):AV:=.tup [.l (.v (.int .i64 r.1)),.l (.v (.int .i64 r.2.1)),.l (.v (.int .i64 r.2.2.1)),.l (.v (.int .i64 r.2.2.2))]
def uF:aJ Tryz.prog 41 :=
 mk2 _ _ _ Tryz.func41 rfl (fun _ _=>by go_simp) (tU) (ao .i64) ((fun v w=>(0≤v∧v<18446744073709551616)∧(w=32∨w=64))) ((fun v w=>.ret (oo (mq v.toNat w.toNat)))) (by rw [Tryz.ntmps41];decide) (fun v w h=>by
 refine aa (ctx:=[⟨_,Eo⟩,⟨_,yl⟩]) 4000 ?_
 rw [Tryz.ntmps41,Tryz.results41]
 simp only [Tryz.f41,Option.getD_some,ag]
 obtain ⟨⟨h1,h2⟩,h3⟩:=h
 obtain ⟨v,rfl⟩:=Int.eq_ofNat_of_zero_le h1
 obtain ⟨w,rfl⟩:=Int.eq_ofNat_of_zero_le (show 0≤w by omega)
 have t:∀ n:Nat,Int.toNat (n:Int)=n:=fun _=>rfl
 unfold mq
 simp only [t]
 cases hF:dF v w with
 | none=>simp only [go_sem,tU,vo,vM,h1,h2,h3,t,hF,k8,oo]
 | some y =>
  obtain ⟨s,o,tt⟩:=y
  have hb:=x6 (by omega) hF
  have b0:(0:Int)≤s∧(s:Int)≤64∧(0:Int)≤o∧(o:Int)≤64:=by omega
  simp only [go_sem,tU,vo,vM,h1,h2,h3,t,hF,k8,oo,gP,BW,BH,pD,lZ,b0.1,b0.2.1,b0.2.2.1,b0.2.2.2])
theorem yD {id:Nat} {h:am} {args:List AV}:(uF).run id h args=aY (bT (tU) (ao .i64) ((fun v w=>(0≤v∧v<18446744073709551616)∧(w=32∨w=64)))) (fun x=>((fun v w=>.ret (oo (mq v.toNat w.toNat)))) x.1 x.2) h args:=rfl
theorem yz {id:Nat} {h:am} {args:List AV}:(uF).pan id h args=aZ (bT (tU) (ao .i64) ((fun v w=>(0≤v∧v<18446744073709551616)∧(w=32∨w=64)))) (fun x=>((fun v w=>.ret (oo (mq v.toNat w.toNat)))) x.1 x.2) h args:=rfl
def gw (r:Int×Int×Int×Int):Int×Int:=(bits .or .i64 (bits .or .i64 (IntKind.i64.wrap (r.1*2 ^ min 12 64)) (IntKind.i64.wrap (r.2.1*2 ^ min 6 64))) r.2.2.1,r.2.2.2)
def cP (r:Int×Int):AV:=.tup [.l (.v (.int .i64 r.1)),.l (.v (.int .i64 r.2))]
def uX:aJ Tryz.prog 23 :=
 mk2 _ _ _ Tryz.func23 rfl (fun _ _=>by go_simp) (tU) (ao .i64) ((fun v w=>(0≤v∧v<18446744073709551616)∧(w=32∨w=64))) ((fun v w=>.ret (cP (gw (mq v.toNat w.toNat))))) (by rw [Tryz.ntmps23];decide) (fun v w h=>by
 refine aa (ctx:=[⟨_,uF⟩]) 4000 ?_
 rw [Tryz.ntmps23,Tryz.results23]
 simp only [Tryz.f23,Option.getD_some,ag]
 simp only [go_sem,tU,yD,yz,h.1.1,h.1.2,h.2,oo,cP,gw])
theorem fz {id:Nat} {h:am} {args:List AV}:(uX).run id h args=aY (bT (tU) (ao .i64) ((fun v w=>(0≤v∧v<18446744073709551616)∧(w=32∨w=64)))) (fun x=>((fun v w=>.ret (cP (gw (mq v.toNat w.toNat))))) x.1 x.2) h args:=rfl
theorem fB {id:Nat} {h:am} {args:List AV}:(uX).pan id h args=aZ (bT (tU) (ao .i64) ((fun v w=>(0≤v∧v<18446744073709551616)∧(w=32∨w=64)))) (fun x=>((fun v w=>.ret (cP (gw (mq v.toNat w.toNat))))) x.1 x.2) h args:=rfl
theorem tO (v w:Nat):(gw (mq v w)).2=if (dF v w).isSome then 0 else 20:=by
 unfold gw mq
 cases h:dF v w<;>simp
theorem Fk (n:Int) (w:World) (h:n=32∨n=64) :
  Calls Tryz.prog 40 #[.int .i64 n] w fun e w'=>e=.returned (.int .u64 (if n=64 then 18446744073709551615 else 4294967295))∧Below w.heap.size w w':=by
 rcases h with rfl | rfl
 ·go_enter Tryz.func40,Tryz.ntmps40
  go_wp2_with fail
  go_ret
  exact ⟨rfl,(by ((repeat (first | with_reducible refine Below.drew ?_ | (with_reducible refine Below.alloc ?_ ?_ _;rotate_left;(focus (first | (simp;done) | (simp;omega) | omega))) | (with_reducible refine Below.setCell ?_ ?_ _;rotate_left;(focus (first | (simp;done) | (simp;omega) | omega)))));(first | with_reducible exact Below.refl _ _ | with_reducible assumption)))⟩
 ·go_enter Tryz.func40,Tryz.ntmps40
  go_wp2_with fail
  go_ret
  exact ⟨rfl,(by ((repeat (first | with_reducible refine Below.drew ?_ | (with_reducible refine Below.alloc ?_ ?_ _;rotate_left;(focus (first | (simp;done) | (simp;omega) | omega))) | (with_reducible refine Below.setCell ?_ ?_ _;rotate_left;(focus (first | (simp;done) | (simp;omega) | omega)))));(first | with_reducible exact Below.refl _ _ | with_reducible assumption)))⟩
def rH (n:Int):Nat:=if n=64 then 18446744073709551615 else 4294967295
def xA:aJ Tryz.prog 40 :=
 QX _ (fun _ _=>by go_simp) (ao .i64) (fun n=>n=32∨n=64) (fun n=>uv (rH n)) (fun _=>rfl) (fun n hn M w v _ hv=>by
  have hv':v=.int .i64 n:=hv
  subst hv'
  exact (Fk n w hn).mono fun e w' h=>⟨⟨_,h.1,by rcases hn with rfl | rfl<;>rfl⟩,h.2⟩)
theorem ta {id:Nat} {h:am} {args:List AV}:xA.run id h args=aY (au (ao .i64) (fun n=>n=32∨n=64)) (fun n=>.ret (uv (rH n))) h args:=rfl
theorem tc {id:Nat} {h:am} {args:List AV}:xA.pan id h args=aZ (au (ao .i64) (fun n=>n=32∨n=64)) (fun n=>.ret (uv (rH n))) h args:=rfl
theorem fl1:IntKind.i64.wrap (32+IntKind.i64.wrap (32*1))=64:=by decide
theorem fl0:IntKind.i64.wrap (32+IntKind.i64.wrap (32*0))=32:=by decide
theorem LH:rH 64=18446744073709551615:=by decide
theorem MY:rH 32=4294967295:=by decide
theorem KC:cg true=18446744073709551615:=by decide
theorem KG:cg false=4294967295:=by decide
def rP:aJ Tryz.prog 21 :=
 mk1 _ _ _ Tryz.func21 rfl (fun _ _=>by go_simp) (cW) ((fun _=>True)) ((fun x=>.ret (uv (cg x)))) (by rw [Tryz.ntmps21];decide) (fun x _=>by
 refine aa (ctx:=[⟨_,cL⟩,⟨_,xA⟩]) 4000 ?_
 rw [Tryz.ntmps21,Tryz.results21]
 simp only [Tryz.f21,Option.getD_some,ag]
 cases x
 ·simp only [go_sem,bD,bE,aU,fl0,ta,tc,MY,KG]
  rfl
 ·simp only [go_sem,bD,bE,aU,fl1,ta,tc,LH,KC]
  rfl)
theorem eE {id:Nat} {h:am} {args:List AV}:(rP).run id h args=aY (au (cW) ((fun _=>True))) ((fun x=>.ret (uv (cg x)))) h args:=rfl
theorem eC {id:Nat} {h:am} {args:List AV}:(rP).pan id h args=aZ (au (cW) ((fun _=>True))) ((fun x=>.ret (uv (cg x)))) h args:=rfl
theorem lf (a b n:Nat):a &&& b=0↔(a % 2 ^ n &&& b % 2 ^ n)=0∧(a / 2 ^ n &&& b / 2 ^ n)=0:=by
 rw [← Nat.and_mod_two_pow,← Nat.and_div_two_pow]
 constructor
 ·intro h;rw [h];simp
 ·rintro ⟨h1,h2⟩
  have:=Nat.div_add_mod (a &&& b) (2 ^ n)
  rw [h1,h2] at this
  simpa using this.symm
theorem Fl (v c:Nat) (hv:v<18446744073709551616) (hc:c<4):(v &&& (18446744073709551615-65535*2 ^ (16*c) % 18446744073709551616))=0↔jY v c=true:=by
 have hmod:∀ x n,x &&& (2 ^ n-1)=x % 2 ^ n:=fun x n=>Nat.and_two_pow_sub_one_eq_mod x n
 unfold jY
 simp only [Bool.and_eq_true,beq_iff_eq,decide_eq_true_eq]
 have h4:c=0∨c=1∨c=2∨c=3:=by omega
 rcases h4 with rfl | rfl | rfl | rfl
 ·rw [lf _ _ 16,show (18446744073709551615-65535*2 ^ (16*0) % 18446744073709551616) % 2 ^ 16=0 from by decide,show (18446744073709551615-65535*2 ^ (16*0) % 18446744073709551616) / 2 ^ 16=2 ^ 48-1 from by decide,hmod]
  simp only [Nat.and_zero,true_and,Nat.reduceMul,Nat.reducePow]
  omega
 ·rw [lf _ _ 16,show (18446744073709551615-65535*2 ^ (16*1) % 18446744073709551616) % 2 ^ 16=2 ^ 16-1 from by decide,show (18446744073709551615-65535*2 ^ (16*1) % 18446744073709551616) / 2 ^ 16=(2 ^ 32-1)*2 ^ 16 from by decide,hmod,lf (v / 2 ^ 16) _ 16,show (2 ^ 32-1)*2 ^ 16 % 2 ^ 16=0 from by decide,show (2 ^ 32-1)*2 ^ 16 / 2 ^ 16=2 ^ 32-1 from by decide,hmod]
  simp only [Nat.and_zero,true_and,Nat.reduceMul,Nat.reducePow]
  omega
 ·rw [lf _ _ 32,show (18446744073709551615-65535*2 ^ (16*2) % 18446744073709551616) % 2 ^ 32=2 ^ 32-1 from by decide,show (18446744073709551615-65535*2 ^ (16*2) % 18446744073709551616) / 2 ^ 32=(2 ^ 16-1)*2 ^ 16 from by decide,hmod,lf (v / 2 ^ 32) _ 16,show (2 ^ 16-1)*2 ^ 16 % 2 ^ 16=0 from by decide,show (2 ^ 16-1)*2 ^ 16 / 2 ^ 16=2 ^ 16-1 from by decide,hmod]
  simp only [Nat.and_zero,true_and,Nat.reduceMul,Nat.reducePow]
  omega
 ·rw [show 18446744073709551615-65535*2 ^ (16*3) % 18446744073709551616=2 ^ 48-1 from by decide,hmod]
  omega
def wdI (v:Nat) (x:Bool) (y:Nat×Nat):St:=⟨0,[(0,uv v),(11,iv (jl x)),(12,iv y.2)],[]⟩
def es:Option (Nat×Nat)→AV
 | some (a,c)=>.tup [.l (.v (.int .i64 (a:Int))),.l (.v (.int .i64 (c:Int))),.l (.v (.bool true))]
 | none=>.tup [.l (.v (.int .i64 0)),.l (.v (.int .i64 0)),.l (.v (.bool false))]
theorem vU (x:Bool):jl x≤4:=by cases x<;>decide
theorem Ht (v:Nat) (hv:v<18446744073709551616) (x:Bool):SW Tryz.prog ⟨none,0⟩ Tryz.f22.ntmps (Tryz.f22.body.getD .skip) ⟨0,ag 0 [tU.enc (v:Int),cW.enc x],[]⟩ (ax Tryz.prog Tryz.f22.results.toList (.ret (es (gh v x)))):=by
 have t:∀ n:Nat,Int.toNat (n:Int)=n:=fun _=>rfl
 refine aa (ctx:=[⟨_,cL⟩]) 4000 ?_
 rw [Tryz.ntmps22,Tryz.results22]
 simp only [Tryz.f22,Option.getD_some,ag]
 have hw:IntKind.i64.wrap (2+IntKind.i64.wrap (2*aU x))=((jl x:Nat):Int):=by cases x<;>rfl
 have hn4:=vU x
 simp only [go_sem,tU,bD,bE,hw]
 refine cM (ι:=Nat×Nat) (fun y=>mm v (jl x) y.1 y.2=gh v x∧y.1+y.2=5) (wdI v x) (fun y=>5-y.2) (5,0) ⟨rfl,rfl⟩ (Wk.renL [] (by simp) (Nat.zero_le _) (by decide) rfl rfl) ?_
 rintro ⟨f,c⟩ ⟨i1,i2⟩
 simp only at i1 i2
 refine aa (ctx:=[]) 4000 ?_
 by_cases hlt:c<jl x
 ·obtain ⟨f',rfl⟩:∃ f',f=f'+1:=⟨f-1,by omega⟩
  rw [mm,if_pos hlt] at i1
  have hltI:(c:Int)<(jl x:Int):=by omega
  have e1:IntKind.i64.wrap (16*(c:Int))=((16*c:Nat):Int):=by rw [IntKind.wrap_i64];omega
  have e0:(0:Int)≤((16*c:Nat):Int):=Int.natCast_nonneg _
  have e2:IntKind.u64.wrap (65535*2 ^ min (16*c) 64)=((65535*2 ^ (16*c) % 18446744073709551616:Nat):Int):=vq 65535 (16*c) (by omega)
  have e3:=u64_andNot_nat v (65535*2 ^ (16*c) % 18446744073709551616) hv (Nat.mod_lt _ (by decide))
  have e4:=wI v (16*c) (by omega)
  have e6:IntKind.i64.wrap ((c:Int)+1)=((c+1:Nat):Int):=by rw [IntKind.wrap_i64];omega
  have hb:=Fl v c hv (by omega)
  by_cases hp:jY v c=true
  ·rw [if_pos hp] at i1
   have hz:(((v &&& (18446744073709551615-65535*2 ^ (16*c) % 18446744073709551616):Nat):Int)==0)=true:=by rw [hb.2 hp];rfl
   have e5:IntKind.i64.wrap ((v / 2 ^ (16*c):Nat):Int)=((v / 2 ^ (16*c):Nat):Int):=by
    simp only [jY,Bool.and_eq_true,decide_eq_true_eq] at hp
    have hp2:=hp.2
    revert hp2
    generalize v / 2 ^ (16*c)=q
    intro hp2
    rw [IntKind.wrap_i64]
    omega
   simp only [go_sem,wdI,hltI,e0,e1,e2,e3,e4,e5,t,hz,← i1,es]
  ·rw [if_neg hp] at i1
   have hz:(((v &&& (18446744073709551615-65535*2 ^ (16*c) % 18446744073709551616):Nat):Int)==0)=false:=by
    simp only [beq_eq_false_iff_ne,ne_eq]
    intro h
    exact hp (hb.1 (by exact_mod_cast h))
   simp only [go_sem,wdI,hltI,e0,e1,e2,e3,e4,e6,t,hz]
   exact ⟨(f',c+1),⟨i1,by simp only;omega⟩,by simp only;omega,Wk.renL [] (by simp) (Nat.zero_le _) (by decide) rfl rfl⟩
 ·have hltI:¬(c:Int)<(jl x:Int):=by omega
  have hF:gh v x=none:=by
   rw [← i1]
   cases f
   ·rfl
   ·rw [mm,if_neg hlt]
  simp only [go_sem,wdI,hltI,hF,es]
def vp:aJ Tryz.prog 22 :=
 mk2 _ _ _ Tryz.func22 rfl (fun _ _=>by go_simp) (tU) (cW) ((fun v _=>0≤v∧v<18446744073709551616)) ((fun v x=>.ret (es (gh v.toNat x)))) (by rw [Tryz.ntmps22];decide) (fun v x h=>by
 obtain ⟨v,rfl⟩:=Int.eq_ofNat_of_zero_le h.1
 exact Ht v (by omega) x)
theorem j6 {id:Nat} {h:am} {args:List AV}:(vp).run id h args=aY (bT (tU) (cW) ((fun v _=>0≤v∧v<18446744073709551616))) (fun x=>((fun v x=>.ret (es (gh v.toNat x)))) x.1 x.2) h args:=rfl
theorem jS {id:Nat} {h:am} {args:List AV}:(vp).pan id h args=aZ (bT (tU) (cW) ((fun v _=>0≤v∧v<18446744073709551616))) (fun x=>((fun v x=>.ret (es (gh v.toNat x)))) x.1 x.2) h args:=rfl
end
section
open Go.RowKit
def lY:nr Lim where
 dec:=fun | [.v (.int .i64 f),.v (.int .i64 a),.v (.int .i64 b)]=>some (f,a,b) | _=>none
 enc:=fun f=>[.v (.int .i64 f.1),.v (.int .i64 f.2.1),.v (.int .i64 f.2.2)]
 inv:=by
  intro c x h
  split at h
  ·injection h with h;subst h;rfl
  ·cases h
 back:=by intro x;rfl
def dx (f:Lim):AV:=.s (.agg (eJ f))
def bK (l:List Lim):AV:=.s (.l (.d (.sd 3 (l.map lY.enc))))
def dN:aJ Tryz.prog 177 :=
 mk3 _ _ _ Tryz.func177 rfl (fun _ _=>by go_simp) (ao .i64) (ao .i64) (ao .i64) ((fun _ _ _=>True)) ((fun f a b=>.ret (dx (f,a,b)))) (by rw [Tryz.ntmps177];decide) (fun f a b _=>by
 refine aa (ctx:=[]) 4000 ?_
 rw [Tryz.ntmps177,Tryz.results177]
 simp only [Tryz.f177,Option.getD_some,ag]
 simp only [go_sem,dx,eJ])
theorem kO {id:Nat} {h:am} {args:List AV}:(dN).run id h args=aY (gj (ao .i64) (ao .i64) (ao .i64) ((fun _ _ _=>True))) (fun x=>((fun f a b=>.ret (dx (f,a,b)))) x.1 x.2.1 x.2.2) h args:=rfl
theorem kQ {id:Nat} {h:am} {args:List AV}:(dN).pan id h args=aZ (gj (ao .i64) (ao .i64) (ao .i64) ((fun _ _ _=>True))) (fun x=>((fun f a b=>.ret (dx (f,a,b)))) x.1 x.2.1 x.2.2) h args:=rfl
def dA:aJ Tryz.prog 171 :=
 mk2 _ _ _ Tryz.func171 rfl (fun _ _=>by go_simp) (ao .i64) (ao .i64) ((fun _ _=>True)) ((fun f b=>.ret (dx (f,0,b)))) (by rw [Tryz.ntmps171];decide) (fun f b _=>by
 refine aa (ctx:=[⟨_,dN⟩]) 4000 ?_
 rw [Tryz.ntmps171,Tryz.results171]
 simp only [Tryz.f171,Option.getD_some,ag]
 simp only [go_sem,kO,kQ,dx,eJ])
theorem j4 {id:Nat} {h:am} {args:List AV}:(dA).run id h args=aY (bT (ao .i64) (ao .i64) ((fun _ _=>True))) (fun x=>((fun f b=>.ret (dx (f,0,b)))) x.1 x.2) h args:=rfl
theorem jV {id:Nat} {h:am} {args:List AV}:(dA).pan id h args=aZ (bT (ao .i64) (ao .i64) ((fun _ _=>True))) (fun x=>((fun f b=>.ret (dx (f,0,b)))) x.1 x.2) h args:=rfl
def faS:aJ Tryz.prog 170 :=
 mk1 _ _ _ Tryz.func170 rfl (fun _ _=>by go_simp) (ao .i64) ((fun _=>True)) ((fun b=>.ret (dx (7,0,b)))) (by rw [Tryz.ntmps170];decide) (fun b _=>by
 refine aa (ctx:=[⟨_,dA⟩]) 4000 ?_
 rw [Tryz.ntmps170,Tryz.results170]
 simp only [Tryz.f170,Option.getD_some,ag]
 simp only [go_sem,j4,jV,dx,eJ])
theorem gI {id:Nat} {h:am} {args:List AV}:(faS).run id h args=aY (au (ao .i64) ((fun _=>True))) ((fun b=>.ret (dx (7,0,b)))) h args:=rfl
theorem gz {id:Nat} {h:am} {args:List AV}:(faS).pan id h args=aZ (au (ao .i64) ((fun _=>True))) ((fun b=>.ret (dx (7,0,b)))) h args:=rfl
def fbS:aJ Tryz.prog 172 :=
 mk1 _ _ _ Tryz.func172 rfl (fun _ _=>by go_simp) (ao .i64) ((fun _=>True)) ((fun b=>.ret (dx (8,0,b)))) (by rw [Tryz.ntmps172];decide) (fun b _=>by
 refine aa (ctx:=[⟨_,dA⟩]) 4000 ?_
 rw [Tryz.ntmps172,Tryz.results172]
 simp only [Tryz.f172,Option.getD_some,ag]
 simp only [go_sem,j4,jV,dx,eJ])
theorem gC {id:Nat} {h:am} {args:List AV}:(fbS).run id h args=aY (au (ao .i64) ((fun _=>True))) ((fun b=>.ret (dx (8,0,b)))) h args:=rfl
theorem gA {id:Nat} {h:am} {args:List AV}:(fbS).pan id h args=aZ (au (ao .i64) ((fun _=>True))) ((fun b=>.ret (dx (8,0,b)))) h args:=rfl
def fcS:aJ Tryz.prog 173 :=
 mk1 _ _ _ Tryz.func173 rfl (fun _ _=>by go_simp) (ao .i64) ((fun _=>True)) ((fun b=>.ret (dx (9,0,b)))) (by rw [Tryz.ntmps173];decide) (fun b _=>by
 refine aa (ctx:=[⟨_,dA⟩]) 4000 ?_
 rw [Tryz.ntmps173,Tryz.results173]
 simp only [Tryz.f173,Option.getD_some,ag]
 simp only [go_sem,j4,jV,dx,eJ])
theorem gH {id:Nat} {h:am} {args:List AV}:(fcS).run id h args=aY (au (ao .i64) ((fun _=>True))) ((fun b=>.ret (dx (9,0,b)))) h args:=rfl
theorem gF {id:Nat} {h:am} {args:List AV}:(fcS).pan id h args=aZ (au (ao .i64) ((fun _=>True))) ((fun b=>.ret (dx (9,0,b)))) h args:=rfl
def saS:aJ Tryz.prog 178 :=
 mk1 _ _ _ Tryz.func178 rfl (fun _ _=>by go_simp) (ao .i64) ((fun _=>True)) ((fun b=>.ret (dx (7,0,b)))) (by rw [Tryz.ntmps178];decide) (fun b _=>by
 refine aa (ctx:=[⟨_,dA⟩]) 4000 ?_
 rw [Tryz.ntmps178,Tryz.results178]
 simp only [Tryz.f178,Option.getD_some,ag]
 simp only [go_sem,j4,jV,dx,eJ])
theorem ii {id:Nat} {h:am} {args:List AV}:(saS).run id h args=aY (au (ao .i64) ((fun _=>True))) ((fun b=>.ret (dx (7,0,b)))) h args:=rfl
theorem hH {id:Nat} {h:am} {args:List AV}:(saS).pan id h args=aZ (au (ao .i64) ((fun _=>True))) ((fun b=>.ret (dx (7,0,b)))) h args:=rfl
def sbS:aJ Tryz.prog 179 :=
 mk1 _ _ _ Tryz.func179 rfl (fun _ _=>by go_simp) (ao .i64) ((fun _=>True)) ((fun b=>.ret (dx (8,0,b)))) (by rw [Tryz.ntmps179];decide) (fun b _=>by
 refine aa (ctx:=[⟨_,dA⟩]) 4000 ?_
 rw [Tryz.ntmps179,Tryz.results179]
 simp only [Tryz.f179,Option.getD_some,ag]
 simp only [go_sem,j4,jV,dx,eJ])
theorem im {id:Nat} {h:am} {args:List AV}:(sbS).run id h args=aY (au (ao .i64) ((fun _=>True))) ((fun b=>.ret (dx (8,0,b)))) h args:=rfl
theorem ik {id:Nat} {h:am} {args:List AV}:(sbS).pan id h args=aZ (au (ao .i64) ((fun _=>True))) ((fun b=>.ret (dx (8,0,b)))) h args:=rfl
def scS:aJ Tryz.prog 180 :=
 mk1 _ _ _ Tryz.func180 rfl (fun _ _=>by go_simp) (ao .i64) ((fun _=>True)) ((fun b=>.ret (dx (9,0,b)))) (by rw [Tryz.ntmps180];decide) (fun b _=>by
 refine aa (ctx:=[⟨_,dA⟩]) 4000 ?_
 rw [Tryz.ntmps180,Tryz.results180]
 simp only [Tryz.f180,Option.getD_some,ag]
 simp only [go_sem,j4,jV,dx,eJ])
theorem g8 {id:Nat} {h:am} {args:List AV}:(scS).run id h args=aY (au (ao .i64) ((fun _=>True))) ((fun b=>.ret (dx (9,0,b)))) h args:=rfl
theorem ia {id:Nat} {h:am} {args:List AV}:(scS).pan id h args=aZ (au (ao .i64) ((fun _=>True))) ((fun b=>.ret (dx (9,0,b)))) h args:=rfl
theorem kR {st:St} {b n:Nat} {k:Blk} (hb:hget st.h b=some k) (ho:k.own=true) (hren:∀ g,k.ren g=k):zO 0 st (.ret (.s (.l (.sl 0 0 n))) [] [k]) (some (.s (.l (.sl b 0 n)))):=by
 refine ⟨_,_,_,rfl,rfl,by simp,by simp,by simp [ho],Wk.renL [b] (by simp) (Nat.le_refl _) (by simp) rfl ?_⟩
 simp [eL,cX,hb,hren]
theorem Ar (args:Array Value) (w:World):(callFunc 174 args).run Tryz.prog w=.ok (.enter 174 args) w:=by go_simp
theorem IM (l m:List Lim) (h:l.length≤20∧m.length≤20):SW Tryz.prog ⟨none,0⟩ Tryz.f174.ntmps (Tryz.f174.body.getD .skip) ⟨2,ag 0 [.s (.l (.sl 0 0 l.length)),.s (.l (.sl 1 0 m.length))],cX 0 [bw.blk l,bw.blk m]⟩
  (iC Tryz.prog Tryz.f174.results.toList 0 (fT bw (fun l m=>l++m) (l,m))):=by
 refine aa (ctx:=[]) 4000 ?_
 rw [Tryz.ntmps174,Tryz.results174]
 simp only [Tryz.f174,Option.getD_some,ag]
 have hm:l.length+m.length≤maxLen:=by unfold maxLen;omega
 have hb:(l.length+m.length)*24≤140737488355328:=by omega
 simp only [go_sem,RowL.blk,bw,hm,hb,eZ,dm,fT]
 rw [← List.map_append,← List.length_append]
 exact kR (st:=⟨_,_,_⟩) (k:=bw.blk (l++m)) rfl rfl (bw.blk_ren _)
def ft:aJ Tryz.prog 174 :=
 mkQ2 _ _ _ Tryz.func174 rfl Ar bw bw bw (fun l m=>l.length≤20∧m.length≤20) (fun l m=>l++m) (by rw [Tryz.ntmps174];decide) (fun l m h=>IM l m h)
theorem Em {id:Nat} {h:am} {args:List AV}:ft.run id h args=co 0 (tj bw bw (fun l m=>l.length≤20∧m.length≤20)) (fT bw (fun l m=>l++m)) id h args:=rfl
theorem D0 {id:Nat} {h:am} {args:List AV}:ft.pan id h args=none:=rfl
def sQ {α:Type} (R:RowL α) (q:List α→Prop) (h:am):List AV→Option (Prop×List Nat×(List α×Unit))
 | [.s (.l (.v (.slice none 0 0))),A]=>match mr R h A with
  | some (b,l)=>some (q l,[b],(l,()))
  | none=>none
 | _=>none
theorem Hx (l:List Lim) (h:l.length≤20):SW Tryz.prog ⟨none,0⟩ Tryz.f174.ntmps (Tryz.f174.body.getD .skip) ⟨1,ag 0 [.s (.l (.v (.slice none 0 0))),.s (.l (.sl 0 0 l.length))],cX 0 [bw.blk l]⟩
  (iC Tryz.prog Tryz.f174.results.toList 0 (fT bw (fun l (_:Unit)=>l) (l,()))):=by
 refine SW.wk (s':=⟨2,[(0,.s (.l (.sl 1 0 0))),(1,.s (.l (.sl 0 0 l.length)))],[(0,some (bw.blk l)),(1,some (bw.blk []))]⟩) ?_ ((Wk.nil 0 75 3 rfl).trans (Wk.renL [0,1] (by simp) (Nat.le_refl 2) (by decide) rfl (by simp [cX,hget,Blk.ren,RowL.blk,bw,eJ,LV.ren,Function.comp_def])))
 refine aa (ctx:=[]) 4000 ?_
 rw [Tryz.ntmps174,Tryz.results174]
 simp only [Tryz.f174,Option.getD_some,ag]
 have hm:0+l.length≤maxLen:=by unfold maxLen;omega
 have hb:(0+l.length)*24≤140737488355328:=by omega
 simp only [go_sem,RowL.blk,bw,hm,hb,eZ,dm,fT]
 exact ⟨⟨by omega,by omega⟩,kR (st:=⟨_,_,_⟩) (k:=bw.blk l) rfl rfl (bw.blk_ren _)⟩
def qR:aJ Tryz.prog 174 :=
 mkQ 0 1 (by decide) _ _ _ Tryz.func174 rfl Ar (sQ bw (fun l=>l.length≤20)) (fun y=>[.s (.l (.v (.slice none 0 0))),.s (.l (.sl 0 0 y.1.length))]) (fun y=>[bw.blk y.1]) (fT bw (fun l (_:Unit)=>l)) (by rw [Tryz.ntmps174];decide)
  (by
   intro h h' args r hs hd
   unfold sQ at hd ⊢
   split at hd
   ·split at hd
    ·rename_i h1
     rw [lu hs h1]
     exact hd
    ·cases hd
   ·cases hd)
  (by
   intro h zs q' bs y hd hq
   unfold sQ at hd
   split at hd
   case h_2=>cases hd
   rename_i A
   split at hd
   case h_2=>cases hd
   rename_i b l h1
   simp only [Option.some.injEq,Prod.mk.injEq] at hd
   obtain ⟨rfl,rfl,rfl⟩:=hd
   obtain ⟨rfl,hb1⟩:=oj h1
   refine ⟨by rw [Tryz.ntmps174];show 2≤8;decide,rfl,rfl,by simp,fun d=>⟨?_,?_⟩⟩
   ·intro j b' k hj hk
    match j,hj,hk with
    | 0,hj,hk =>
     simp at hj hk
     subst hj
     subst hk
     exact ⟨rfl,by rw [hb1,bw.blk_ren]⟩
   ·intro ρ al vals hA
    match vals,hA with
    | [v,w],⟨a,b,_⟩=>exact ⟨a,b,trivial⟩)
  (by
   intro h zs q' bs y hd hq
   unfold sQ at hd
   split at hd
   case h_2=>cases hd
   split at hd
   case h_2=>cases hd
   simp only [Option.some.injEq,Prod.mk.injEq] at hd
   obtain ⟨rfl,rfl,rfl⟩:=hd
   exact Hx _ hq)
theorem DH {id:Nat} {h:am} {args:List AV}:qR.run id h args=co 0 (sQ bw (fun l=>l.length≤20)) (fT bw (fun l (_:Unit)=>l)) id h args:=rfl
theorem Dh {id:Nat} {h:am} {args:List AV}:qR.pan id h args=none:=rfl
def jr (f:Int):Lim:=(f,0,if f=1∨f=2 then 1 else 31)
theorem pJ {l:List Int} {i:Nat} {z:Int} (h:l[i]? = some z):bi (l.take (i+1))=bi (l.take i)++[jr z]:=by
 rw [List.take_add_one,h]
 simp [bi,jr]
theorem lx (l:List Int):(bi l).length=l.length:=by simp [bi]
def flI (l:List Int) (i:Nat):St:=⟨2,[(3,.s (.l (.sl 1 0 i))),(7,.s (.l (.sl 0 0 l.length))),(8,iv l.length),(9,iv i)],[(0,some (dZ.blk l)),(1,some (bw.blk (bi (l.take i))))]⟩
theorem DJ (l:List Int) (h:l.length≤20):SW Tryz.prog ⟨none,0⟩ Tryz.f175.ntmps (Tryz.f175.body.getD .skip) ⟨1,ag 0 [.s (.l (.sl 0 0 l.length))],cX 0 [dZ.blk l]⟩
  (iC Tryz.prog Tryz.f175.results.toList 0 (fT bw (fun l (_:Unit)=>bi l) (l,()))):=by
 refine aa (ctx:=[]) 4000 ?_
 rw [Tryz.ntmps175,Tryz.results175]
 simp only [Tryz.f175,Option.getD_some,ag]
 simp only [go_sem,RowL.blk,dZ]
 refine cM (ι:=Nat) (fun i=>i≤l.length) (flI l) (fun i=>l.length-i) 0 (Nat.zero_le _) ((Wk.nil 3 75 3 rfl).trans (Wk.renL [0,81] (by simp) (Nat.le_refl 2) (by decide) rfl ?_)) ?_
 ·simp [flI,hget,Blk.ren,RowL.blk,dZ,bw,eJ,bi,LV.ren,Function.comp_def]
 intro i hi
 refine aa (ctx:=[⟨_,dN⟩]) 4000 ?_
 by_cases hlt:i<l.length
 ·have hltI:(i:Int)<l.length:=by omega
  obtain ⟨z,hz⟩:∃ z,l[i]? = some z:=⟨_,List.getElem?_eq_getElem hlt⟩
  have ei:IntKind.i64.wrap ((i:Int)+1)=((i+1:Nat):Int):=by rw [IntKind.wrap_i64];omega
  have hsn:=pJ hz
  have hm:i+1≤maxLen:=by unfold maxLen;omega
  have hb:(i+1)*24≤140737488355328:=by omega
  have hl:(bi (l.take i)).length=i:=by rw [lx,List.length_take];omega
  have htk:List.take i (List.map eJ (bi (l.take i)))=List.map eJ (bi (l.take i)):=List.take_of_length_le (by rw [List.length_map,hl];exact Nat.le_refl _)
  by_cases h1:z=1
  ·have e:jr z=(z,0,1):=by unfold jr;rw [if_pos (.inl h1)]
   have hb1:(z==1)=true:=by simpa using h1
   simp only [go_sem,flI,RowL.blk,dZ,bw,hltI,hlt,hz,hb1,kO,kQ,dx,eJ,hm,hb,ei,htk]
   exact ⟨Nat.le_of_eq hl.symm,i+1,by omega,by omega,Wk.renL [0,242] (by simp) (Nat.le_refl 2) (by decide) rfl (by simp only [flI,RowL.blk,dZ,bw,hsn,e];simp [hget,Blk.ren,eJ,LV.ren,Function.comp_def])⟩
  have hb1:(z==1)=false:=by simpa using h1
  by_cases h2:z=2
  ·have e:jr z=(z,0,1):=by unfold jr;rw [if_pos (.inr h2)]
   have hb2:(z==2)=true:=by simpa using h2
   simp only [go_sem,flI,RowL.blk,dZ,bw,hltI,hlt,hz,hb1,hb2,kO,kQ,dx,eJ,hm,hb,ei,htk]
   exact ⟨Nat.le_of_eq hl.symm,i+1,by omega,by omega,Wk.renL [0,274] (by simp) (Nat.le_refl 2) (by decide) rfl (by simp only [flI,RowL.blk,dZ,bw,hsn,e];simp [hget,Blk.ren,eJ,LV.ren,Function.comp_def])⟩
  ·have e:jr z=(z,0,31):=by unfold jr;rw [if_neg (by rintro (h | h);exact h1 h;exact h2 h)]
   have hb2:(z==2)=false:=by simpa using h2
   simp only [go_sem,flI,RowL.blk,dZ,bw,hltI,hlt,hz,hb1,hb2,kO,kQ,dx,eJ,hm,hb,ei,htk]
   exact ⟨Nat.le_of_eq hl.symm,i+1,by omega,by omega,Wk.renL [0,258] (by simp) (Nat.le_refl 2) (by decide) rfl (by simp only [flI,RowL.blk,dZ,bw,hsn,e];simp [hget,Blk.ren,eJ,LV.ren,Function.comp_def])⟩
 ·obtain rfl:i=l.length:=by omega
  have hltI:¬(l.length:Int)<l.length:=by omega
  simp only [go_sem,flI,RowL.blk,dZ,bw,hltI,List.take_length,eZ,dm,fT]
  have e:=lx l
  rw [← e]
  exact kR (st:=⟨_,_,_⟩) (k:=bw.blk (bi l)) rfl rfl (bw.blk_ren _)
def cZ:aJ Tryz.prog 175 :=
 Mk _ _ _ Tryz.func175 rfl (fun _ _=>by go_simp) dZ bw xw0 (fun l _=>l.length≤20) (fun l _=>bi l) (by rw [Tryz.ntmps175];decide) (fun l x h=>DJ l h)
theorem Cw {id:Nat} {h:am} {args:List AV}:cZ.run id h args=co 0 (ox dZ xw0 (fun l _=>l.length≤20)) (fT bw (fun l _=>bi l)) id h args:=rfl
theorem Cs {id:Nat} {h:am} {args:List AV}:cZ.pan id h args=none:=rfl
end
end Go.Proofs.YtpjlafmhoifkmaaGreat
