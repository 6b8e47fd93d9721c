import Derived.Test.YtpjlafmhoifkmaaGreatN18
import Derived.Test.YtpjlafmhoifkmaaGreatN17
import Derived.Laws.BitsAllLaws
set_option linter.unusedVariables false
set_option linter.unusedSimpArgs false
set_option maxRecDepth 100000
set_option maxHeartbeats 8000000
namespace Go.Proofs.YtpjlafmhoifkmaaGreat
section
open Go.RowKit
def CO:aQ Tryz.prog 93 :=
 mk2 _ _ _ Tryz.func93 rfl (fun _ _=>by go_simp) (tU) (ar .i64) ((fun v w=>(0≤v∧v<18446744073709551616)∧(w=32∨w=64))) ((fun v w=>.ret (iK (cN v.toNat w.toNat)))) (by rw [Tryz.ntmps93];decide) (fun v w h=>by
 obtain ⟨⟨h1,h2⟩,h3⟩:=h
 obtain ⟨v,rfl⟩:=Int.eq_ofNat_of_zero_le h1
 obtain ⟨w,rfl⟩:=Int.eq_ofNat_of_zero_le (show 0≤w by omega)
 exact Eo v w (by omega) (by omega))
theorem sJ {id:Nat} {h:ah} {args:List AV}:(CO).run id h args=bm (cq (tU) (ar .i64) ((fun v w=>(0≤v∧v<18446744073709551616)∧(w=32∨w=64)))) (fun x=>((fun v w=>.ret (iK (cN v.toNat w.toNat)))) x.1 x.2) h args:=rfl
theorem ui {id:Nat} {h:ah} {args:List AV}:(CO).pan id h args=bt (cq (tU) (ar .i64) ((fun v w=>(0≤v∧v<18446744073709551616)∧(w=32∨w=64)))) (fun x=>((fun v w=>.ret (iK (cN v.toNat w.toNat)))) x.1 x.2) h args:=rfl
theorem vc {v w:Nat} (hw:w=32∨w=64) {s o t:Nat} (h:cN v w=some (s,o,t)):2≤s∧s≤w∧1≤o∧o<s∧t<s:=by
 unfold cN at h
 split at h
 ·cases h
 split at h
 ·cases h
 rename_i size hs
 rw [Option.map_eq_some_iff] at h
 obtain ⟨t',ht,e⟩:=h
 simp only [Prod.mk.injEq] at e
 obtain ⟨rfl,rfl,rfl⟩:=e
 obtain ⟨h1,h2,h3⟩:=kA ht
 have:=mg hw (List.mem_of_find?_eq_some hs)
 omega
def j0 (v w:Nat):Int×Int×Int×Int:=match cN v w with
 | some (s,o,t)=>(if (s:Int)=64 then 1 else 0,t,eZ s+o-1,0)
 | none=>(0,0,0,20)
def lc (r:Int×Int×Int×Int):AV:=.tup [.l (.v (.int .i64 r.1)),.l (.v (.int .i64 r.2.1)),.l (.v (.int .i64 r.2.2.1)),.l (.v (.int .i64 r.2.2.2))]
def qY:aQ Tryz.prog 41 :=
 mk2 _ _ _ Tryz.func41 rfl (fun _ _=>by go_simp) (tU) (ar .i64) ((fun v w=>(0≤v∧v<18446744073709551616)∧(w=32∨w=64))) ((fun v w=>.ret (lc (j0 v.toNat w.toNat)))) (by rw [Tryz.ntmps41];decide) (fun v w h=>by
 refine aa (ctx:=[⟨_,CO⟩,⟨_,uu⟩]) 4000 ?_
 rw [Tryz.ntmps41,Tryz.results41]
 simp only [Tryz.f41,Option.getD_some,ag]
 obtain ⟨⟨h1,h2⟩,h3⟩:=h
 obtain ⟨v,rfl⟩:=Int.eq_ofNat_of_zero_le h1
 obtain ⟨w,rfl⟩:=Int.eq_ofNat_of_zero_le (show 0≤w by omega)
 have t:∀ n:Nat,Int.toNat (n:Int)=n:=fun _=>rfl
 unfold j0
 simp only [t]
 cases hF:cN v w with
 | none=>simp only [go_sem,tU,sJ,ui,h1,h2,h3,t,hF,iK,lc]
 | some y =>
  obtain ⟨s,o,tt⟩:=y
  have hb:=vc (by omega) hF
  have b0:(0:Int)≤s∧(s:Int)≤64∧(0:Int)≤o∧(o:Int)≤64:=by omega
  simp only [go_sem,tU,sJ,ui,h1,h2,h3,t,hF,iK,lc,eN,yQ,zA,mq,jR,b0.1,b0.2.1,b0.2.2.1,b0.2.2.2])
theorem uC {id:Nat} {h:ah} {args:List AV}:(qY).run id h args=bm (cq (tU) (ar .i64) ((fun v w=>(0≤v∧v<18446744073709551616)∧(w=32∨w=64)))) (fun x=>((fun v w=>.ret (lc (j0 v.toNat w.toNat)))) x.1 x.2) h args:=rfl
theorem vO {id:Nat} {h:ah} {args:List AV}:(qY).pan id h args=bt (cq (tU) (ar .i64) ((fun v w=>(0≤v∧v<18446744073709551616)∧(w=32∨w=64)))) (fun x=>((fun v w=>.ret (lc (j0 v.toNat w.toNat)))) x.1 x.2) h args:=rfl
def ey (r:Int×Int×Int×Int):Int×Int:=(bits .or .i64 (bits .or .i64 (IntKind.i64.wrap (r.1*2 ^ min 12 64)) (IntKind.i64.wrap (r.2.1*2 ^ min 6 64))) r.2.2.1,r.2.2.2)
def de (r:Int×Int):AV:=.tup [.l (.v (.int .i64 r.1)),.l (.v (.int .i64 r.2))]
def re:aQ Tryz.prog 23 :=
 mk2 _ _ _ Tryz.func23 rfl (fun _ _=>by go_simp) (tU) (ar .i64) ((fun v w=>(0≤v∧v<18446744073709551616)∧(w=32∨w=64))) ((fun v w=>.ret (de (ey (j0 v.toNat w.toNat))))) (by rw [Tryz.ntmps23];decide) (fun v w h=>by
 refine aa (ctx:=[⟨_,qY⟩]) 4000 ?_
 rw [Tryz.ntmps23,Tryz.results23]
 simp only [Tryz.f23,Option.getD_some,ag]
 simp only [go_sem,tU,uC,vO,h.1.1,h.1.2,h.2,lc,de,ey])
theorem dW {id:Nat} {h:ah} {args:List AV}:(re).run id h args=bm (cq (tU) (ar .i64) ((fun v w=>(0≤v∧v<18446744073709551616)∧(w=32∨w=64)))) (fun x=>((fun v w=>.ret (de (ey (j0 v.toNat w.toNat))))) x.1 x.2) h args:=rfl
theorem dU {id:Nat} {h:ah} {args:List AV}:(re).pan id h args=bt (cq (tU) (ar .i64) ((fun v w=>(0≤v∧v<18446744073709551616)∧(w=32∨w=64)))) (fun x=>((fun v w=>.ret (de (ey (j0 v.toNat w.toNat))))) x.1 x.2) h args:=rfl
theorem qJ (v w:Nat):(ey (j0 v w)).2=if (cN v w).isSome then 0 else 20:=by
 unfold ey j0
 cases h:cN v w<;>simp
theorem Au (n:Int) (w:World) (h:n=32∨n=64) :
  Calls Tryz.prog 40 #[.int .i64 n] w fun e w'=>e=.returned (.int .u64 (if n=64 then 18446744073709551615 else 4294967295))∧Below w.heap.size w w':=by
 rcases h with rfl | rfl
 ·go_enter Tryz.func40,Tryz.ntmps40
  go_wp2_with fail
  go_ret
  exact ⟨rfl,(by ((repeat (first | with_reducible refine Below.drew ?_ | (with_reducible refine Below.alloc ?_ ?_ _;rotate_left;(focus (first | (simp;done) | (simp;omega) | omega))) | (with_reducible refine Below.setCell ?_ ?_ _;rotate_left;(focus (first | (simp;done) | (simp;omega) | omega)))));(first | with_reducible exact Below.refl _ _ | with_reducible assumption)))⟩
 ·go_enter Tryz.func40,Tryz.ntmps40
  go_wp2_with fail
  go_ret
  exact ⟨rfl,(by ((repeat (first | with_reducible refine Below.drew ?_ | (with_reducible refine Below.alloc ?_ ?_ _;rotate_left;(focus (first | (simp;done) | (simp;omega) | omega))) | (with_reducible refine Below.setCell ?_ ?_ _;rotate_left;(focus (first | (simp;done) | (simp;omega) | omega)))));(first | with_reducible exact Below.refl _ _ | with_reducible assumption)))⟩
def oK (n:Int):Nat:=if n=64 then 18446744073709551615 else 4294967295
def vr:aQ Tryz.prog 40 :=
 LS _ (fun _ _=>by go_simp) (ar .i64) (fun n=>n=32∨n=64) (fun n=>uv (oK n)) (fun _=>rfl) (fun n hn M w v _ hv=>by
  have hv':v=.int .i64 n:=hv
  subst hv'
  exact (Au n w hn).mono fun e w' h=>⟨⟨_,h.1,by rcases hn with rfl | rfl<;>rfl⟩,h.2⟩)
theorem pT {id:Nat} {h:ah} {args:List AV}:vr.run id h args=bm (av (ar .i64) (fun n=>n=32∨n=64)) (fun n=>.ret (uv (oK n))) h args:=rfl
theorem qs {id:Nat} {h:ah} {args:List AV}:vr.pan id h args=bt (av (ar .i64) (fun n=>n=32∨n=64)) (fun n=>.ret (uv (oK n))) h args:=rfl
theorem fl1:IntKind.i64.wrap (32+IntKind.i64.wrap (32*1))=64:=by decide
theorem fl0:IntKind.i64.wrap (32+IntKind.i64.wrap (32*0))=32:=by decide
theorem Js:oK 64=18446744073709551615:=by decide
theorem Jv:oK 32=4294967295:=by decide
theorem LQ:cj true=18446744073709551615:=by decide
theorem Ng:cj false=4294967295:=by decide
def n5:aQ Tryz.prog 21 :=
 mk1 _ _ _ Tryz.func21 rfl (fun _ _=>by go_simp) (ez) ((fun _=>True)) ((fun x=>.ret (uv (cj x)))) (by rw [Tryz.ntmps21];decide) (fun x _=>by
 refine aa (ctx:=[⟨_,ca⟩,⟨_,vr⟩]) 4000 ?_
 rw [Tryz.ntmps21,Tryz.results21]
 simp only [Tryz.f21,Option.getD_some,ag]
 cases x
 ·simp only [go_sem,be,aZ,an,fl0,pT,qs,Jv,Ng]
  rfl
 ·simp only [go_sem,be,aZ,an,fl1,pT,qs,Js,LQ]
  rfl)
theorem dr {id:Nat} {h:ah} {args:List AV}:(n5).run id h args=bm (av (ez) ((fun _=>True))) ((fun x=>.ret (uv (cj x)))) h args:=rfl
theorem dt {id:Nat} {h:ah} {args:List AV}:(n5).pan id h args=bt (av (ez) ((fun _=>True))) ((fun x=>.ret (uv (cj x)))) h args:=rfl
theorem iH (a b n:Nat):a &&& b=0↔(a % 2 ^ n &&& b % 2 ^ n)=0∧(a / 2 ^ n &&& b / 2 ^ n)=0:=by
 rw [← Nat.and_mod_two_pow,← Nat.and_div_two_pow]
 constructor
 ·intro h;rw [h];simp
 ·rintro ⟨h1,h2⟩
  have:=Nat.div_add_mod (a &&& b) (2 ^ n)
  rw [h1,h2] at this
  simpa using this.symm
theorem C0 (v c:Nat) (hv:v<18446744073709551616) (hc:c<4):(v &&& (18446744073709551615-65535*2 ^ (16*c) % 18446744073709551616))=0↔dz v c=true:=by
 have hmod:∀ x n,x &&& (2 ^ n-1)=x % 2 ^ n:=fun x n=>Nat.and_two_pow_sub_one_eq_mod x n
 unfold dz
 simp only [Bool.and_eq_true,beq_iff_eq,decide_eq_true_eq]
 have h4:c=0∨c=1∨c=2∨c=3:=by omega
 rcases h4 with rfl | rfl | rfl | rfl
 ·rw [iH _ _ 16,show (18446744073709551615-65535*2 ^ (16*0) % 18446744073709551616) % 2 ^ 16=0 from by decide,show (18446744073709551615-65535*2 ^ (16*0) % 18446744073709551616) / 2 ^ 16=2 ^ 48-1 from by decide,hmod]
  simp only [Nat.and_zero,true_and,Nat.reduceMul,Nat.reducePow]
  omega
 ·rw [iH _ _ 16,show (18446744073709551615-65535*2 ^ (16*1) % 18446744073709551616) % 2 ^ 16=2 ^ 16-1 from by decide,show (18446744073709551615-65535*2 ^ (16*1) % 18446744073709551616) / 2 ^ 16=(2 ^ 32-1)*2 ^ 16 from by decide,hmod,iH (v / 2 ^ 16) _ 16,show (2 ^ 32-1)*2 ^ 16 % 2 ^ 16=0 from by decide,show (2 ^ 32-1)*2 ^ 16 / 2 ^ 16=2 ^ 32-1 from by decide,hmod]
  simp only [Nat.and_zero,true_and,Nat.reduceMul,Nat.reducePow]
  omega
 ·rw [iH _ _ 32,show (18446744073709551615-65535*2 ^ (16*2) % 18446744073709551616) % 2 ^ 32=2 ^ 32-1 from by decide,show (18446744073709551615-65535*2 ^ (16*2) % 18446744073709551616) / 2 ^ 32=(2 ^ 16-1)*2 ^ 16 from by decide,hmod,iH (v / 2 ^ 32) _ 16,show (2 ^ 16-1)*2 ^ 16 % 2 ^ 16=0 from by decide,show (2 ^ 16-1)*2 ^ 16 / 2 ^ 16=2 ^ 16-1 from by decide,hmod]
  simp only [Nat.and_zero,true_and,Nat.reduceMul,Nat.reducePow]
  omega
 ·rw [show 18446744073709551615-65535*2 ^ (16*3) % 18446744073709551616=2 ^ 48-1 from by decide,hmod]
  omega
def wdI (v:Nat) (x:Bool) (y:Nat×Nat):St:=⟨0,[(0,uv v),(11,iv (fp x)),(12,iv y.2)],[]⟩
def iX:Option (Nat×Nat)→AV
 | some (a,c)=>.tup [.l (.v (.int .i64 (a:Int))),.l (.v (.int .i64 (c:Int))),.l (.v (.bool true))]
 | none=>.tup [.l (.v (.int .i64 0)),.l (.v (.int .i64 0)),.l (.v (.bool false))]
theorem Cc (x:Bool):fp x≤4:=by cases x<;>decide
theorem Ej (v:Nat) (hv:v<18446744073709551616) (x:Bool):SW Tryz.prog ⟨none,0⟩ Tryz.f22.ntmps (Tryz.f22.body.getD .skip) ⟨0,ag 0 [tU.enc (v:Int),ez.enc x],[]⟩ (aH Tryz.prog Tryz.f22.results.toList (.ret (iX (ge v x)))):=by
 have t:∀ n:Nat,Int.toNat (n:Int)=n:=fun _=>rfl
 refine aa (ctx:=[⟨_,ca⟩]) 4000 ?_
 rw [Tryz.ntmps22,Tryz.results22]
 simp only [Tryz.f22,Option.getD_some,ag]
 have hw:IntKind.i64.wrap (2+IntKind.i64.wrap (2*an x))=((fp x:Nat):Int):=by cases x<;>rfl
 have hn4:=Cc x
 simp only [go_sem,tU,be,aZ,hw]
 refine cM (ι:=Nat×Nat) (fun y=>fN v (fp x) y.1 y.2=ge v x∧y.1+y.2=5) (wdI v x) (fun y=>5-y.2) (5,0) ⟨rfl,rfl⟩ (Wk.renL [] (by simp) (Nat.zero_le _) (by decide) rfl rfl) ?_
 rintro ⟨f,c⟩ ⟨i1,i2⟩
 simp only at i1 i2
 refine aa (ctx:=[]) 4000 ?_
 by_cases hlt:c<fp x
 ·obtain ⟨f',rfl⟩:∃ f',f=f'+1:=⟨f-1,by omega⟩
  rw [fN,if_pos hlt] at i1
  have hltI:(c:Int)<(fp x:Int):=by omega
  have e1:IntKind.i64.wrap (16*(c:Int))=((16*c:Nat):Int):=by rw [IntKind.wrap_i64];omega
  have e0:(0:Int)≤((16*c:Nat):Int):=Int.natCast_nonneg _
  have e2:IntKind.u64.wrap (65535*2 ^ min (16*c) 64)=((65535*2 ^ (16*c) % 18446744073709551616:Nat):Int):=sV 65535 (16*c) (by omega)
  have e3:=u64_andNot_nat v (65535*2 ^ (16*c) % 18446744073709551616) hv (Nat.mod_lt _ (by decide))
  have e4:=sA v (16*c) (by omega)
  have e6:IntKind.i64.wrap ((c:Int)+1)=((c+1:Nat):Int):=by rw [IntKind.wrap_i64];omega
  have hb:=C0 v c hv (by omega)
  by_cases hp:dz v c=true
  ·rw [if_pos hp] at i1
   have hz:(((v &&& (18446744073709551615-65535*2 ^ (16*c) % 18446744073709551616):Nat):Int)==0)=true:=by rw [hb.2 hp];rfl
   have e5:IntKind.i64.wrap ((v / 2 ^ (16*c):Nat):Int)=((v / 2 ^ (16*c):Nat):Int):=by
    simp only [dz,Bool.and_eq_true,decide_eq_true_eq] at hp
    have hp2:=hp.2
    revert hp2
    generalize v / 2 ^ (16*c)=q
    intro hp2
    rw [IntKind.wrap_i64]
    omega
   simp only [go_sem,wdI,hltI,e0,e1,e2,e3,e4,e5,t,hz,← i1,iX]
  ·rw [if_neg hp] at i1
   have hz:(((v &&& (18446744073709551615-65535*2 ^ (16*c) % 18446744073709551616):Nat):Int)==0)=false:=by
    simp only [beq_eq_false_iff_ne,ne_eq]
    intro h
    exact hp (hb.1 (by exact_mod_cast h))
   simp only [go_sem,wdI,hltI,e0,e1,e2,e3,e4,e6,t,hz]
   exact ⟨(f',c+1),⟨i1,by simp only;omega⟩,by simp only;omega,Wk.renL [] (by simp) (Nat.zero_le _) (by decide) rfl rfl⟩
 ·have hltI:¬(c:Int)<(fp x:Int):=by omega
  have hF:ge v x=none:=by
   rw [← i1]
   cases f
   ·rfl
   ·rw [fN,if_neg hlt]
  simp only [go_sem,wdI,hltI,hF,iX]
def sT:aQ Tryz.prog 22 :=
 mk2 _ _ _ Tryz.func22 rfl (fun _ _=>by go_simp) (tU) (ez) ((fun v _=>0≤v∧v<18446744073709551616)) ((fun v x=>.ret (iX (ge v.toNat x)))) (by rw [Tryz.ntmps22];decide) (fun v x h=>by
 obtain ⟨v,rfl⟩:=Int.eq_ofNat_of_zero_le h.1
 exact Ej v (by omega) x)
theorem gI {id:Nat} {h:ah} {args:List AV}:(sT).run id h args=bm (cq (tU) (ez) ((fun v _=>0≤v∧v<18446744073709551616))) (fun x=>((fun v x=>.ret (iX (ge v.toNat x)))) x.1 x.2) h args:=rfl
theorem gQ {id:Nat} {h:ah} {args:List AV}:(sT).pan id h args=bt (cq (tU) (ez) ((fun v _=>0≤v∧v<18446744073709551616))) (fun x=>((fun v x=>.ret (iX (ge v.toNat x)))) x.1 x.2) h args:=rfl
end
section
open Go.RowKit
def jv:kx Lim where
 dec:=fun | [.v (.int .i64 f),.v (.int .i64 a),.v (.int .i64 b)]=>some (f,a,b) | _=>none
 enc:=fun f=>[.v (.int .i64 f.1),.v (.int .i64 f.2.1),.v (.int .i64 f.2.2)]
 inv:=by
  intro c x h
  split at h
  ·injection h with h;subst h;rfl
  ·cases h
 back:=by intro x;rfl
def cD (f:Lim):AV:=.s (.agg (dx f))
def bq (l:List Lim):AV:=.s (.l (.d (.sd 3 (l.map jv.enc))))
def cQ:aQ Tryz.prog 177 :=
 mk3 _ _ _ Tryz.func177 rfl (fun _ _=>by go_simp) (ar .i64) (ar .i64) (ar .i64) ((fun _ _ _=>True)) ((fun f a b=>.ret (cD (f,a,b)))) (by rw [Tryz.ntmps177];decide) (fun f a b _=>by
 refine aa (ctx:=[]) 4000 ?_
 rw [Tryz.ntmps177,Tryz.results177]
 simp only [Tryz.f177,Option.getD_some,ag]
 simp only [go_sem,cD,dx])
theorem iM {id:Nat} {h:ah} {args:List AV}:(cQ).run id h args=bm (gp (ar .i64) (ar .i64) (ar .i64) ((fun _ _ _=>True))) (fun x=>((fun f a b=>.ret (cD (f,a,b)))) x.1 x.2.1 x.2.2) h args:=rfl
theorem iR {id:Nat} {h:ah} {args:List AV}:(cQ).pan id h args=bt (gp (ar .i64) (ar .i64) (ar .i64) ((fun _ _ _=>True))) (fun x=>((fun f a b=>.ret (cD (f,a,b)))) x.1 x.2.1 x.2.2) h args:=rfl
def cE:aQ Tryz.prog 171 :=
 mk2 _ _ _ Tryz.func171 rfl (fun _ _=>by go_simp) (ar .i64) (ar .i64) ((fun _ _=>True)) ((fun f b=>.ret (cD (f,0,b)))) (by rw [Tryz.ntmps171];decide) (fun f b _=>by
 refine aa (ctx:=[⟨_,cQ⟩]) 4000 ?_
 rw [Tryz.ntmps171,Tryz.results171]
 simp only [Tryz.f171,Option.getD_some,ag]
 simp only [go_sem,iM,iR,cD,dx])
theorem gF {id:Nat} {h:ah} {args:List AV}:(cE).run id h args=bm (cq (ar .i64) (ar .i64) ((fun _ _=>True))) (fun x=>((fun f b=>.ret (cD (f,0,b)))) x.1 x.2) h args:=rfl
theorem gG {id:Nat} {h:ah} {args:List AV}:(cE).pan id h args=bt (cq (ar .i64) (ar .i64) ((fun _ _=>True))) (fun x=>((fun f b=>.ret (cD (f,0,b)))) x.1 x.2) h args:=rfl
def faS:aQ Tryz.prog 170 :=
 mk1 _ _ _ Tryz.func170 rfl (fun _ _=>by go_simp) (ar .i64) ((fun _=>True)) ((fun b=>.ret (cD (7,0,b)))) (by rw [Tryz.ntmps170];decide) (fun b _=>by
 refine aa (ctx:=[⟨_,cE⟩]) 4000 ?_
 rw [Tryz.ntmps170,Tryz.results170]
 simp only [Tryz.f170,Option.getD_some,ag]
 simp only [go_sem,gF,gG,cD,dx])
theorem eu {id:Nat} {h:ah} {args:List AV}:(faS).run id h args=bm (av (ar .i64) ((fun _=>True))) ((fun b=>.ret (cD (7,0,b)))) h args:=rfl
theorem es {id:Nat} {h:ah} {args:List AV}:(faS).pan id h args=bt (av (ar .i64) ((fun _=>True))) ((fun b=>.ret (cD (7,0,b)))) h args:=rfl
def fbS:aQ Tryz.prog 172 :=
 mk1 _ _ _ Tryz.func172 rfl (fun _ _=>by go_simp) (ar .i64) ((fun _=>True)) ((fun b=>.ret (cD (8,0,b)))) (by rw [Tryz.ntmps172];decide) (fun b _=>by
 refine aa (ctx:=[⟨_,cE⟩]) 4000 ?_
 rw [Tryz.ntmps172,Tryz.results172]
 simp only [Tryz.f172,Option.getD_some,ag]
 simp only [go_sem,gF,gG,cD,dx])
theorem eB {id:Nat} {h:ah} {args:List AV}:(fbS).run id h args=bm (av (ar .i64) ((fun _=>True))) ((fun b=>.ret (cD (8,0,b)))) h args:=rfl
theorem eE {id:Nat} {h:ah} {args:List AV}:(fbS).pan id h args=bt (av (ar .i64) ((fun _=>True))) ((fun b=>.ret (cD (8,0,b)))) h args:=rfl
def fcS:aQ Tryz.prog 173 :=
 mk1 _ _ _ Tryz.func173 rfl (fun _ _=>by go_simp) (ar .i64) ((fun _=>True)) ((fun b=>.ret (cD (9,0,b)))) (by rw [Tryz.ntmps173];decide) (fun b _=>by
 refine aa (ctx:=[⟨_,cE⟩]) 4000 ?_
 rw [Tryz.ntmps173,Tryz.results173]
 simp only [Tryz.f173,Option.getD_some,ag]
 simp only [go_sem,gF,gG,cD,dx])
theorem eC {id:Nat} {h:ah} {args:List AV}:(fcS).run id h args=bm (av (ar .i64) ((fun _=>True))) ((fun b=>.ret (cD (9,0,b)))) h args:=rfl
theorem eD {id:Nat} {h:ah} {args:List AV}:(fcS).pan id h args=bt (av (ar .i64) ((fun _=>True))) ((fun b=>.ret (cD (9,0,b)))) h args:=rfl
def saS:aQ Tryz.prog 178 :=
 mk1 _ _ _ Tryz.func178 rfl (fun _ _=>by go_simp) (ar .i64) ((fun _=>True)) ((fun b=>.ret (cD (7,0,b)))) (by rw [Tryz.ntmps178];decide) (fun b _=>by
 refine aa (ctx:=[⟨_,cE⟩]) 4000 ?_
 rw [Tryz.ntmps178,Tryz.results178]
 simp only [Tryz.f178,Option.getD_some,ag]
 simp only [go_sem,gF,gG,cD,dx])
theorem fh {id:Nat} {h:ah} {args:List AV}:(saS).run id h args=bm (av (ar .i64) ((fun _=>True))) ((fun b=>.ret (cD (7,0,b)))) h args:=rfl
theorem eY {id:Nat} {h:ah} {args:List AV}:(saS).pan id h args=bt (av (ar .i64) ((fun _=>True))) ((fun b=>.ret (cD (7,0,b)))) h args:=rfl
def sbS:aQ Tryz.prog 179 :=
 mk1 _ _ _ Tryz.func179 rfl (fun _ _=>by go_simp) (ar .i64) ((fun _=>True)) ((fun b=>.ret (cD (8,0,b)))) (by rw [Tryz.ntmps179];decide) (fun b _=>by
 refine aa (ctx:=[⟨_,cE⟩]) 4000 ?_
 rw [Tryz.ntmps179,Tryz.results179]
 simp only [Tryz.f179,Option.getD_some,ag]
 simp only [go_sem,gF,gG,cD,dx])
theorem fi {id:Nat} {h:ah} {args:List AV}:(sbS).run id h args=bm (av (ar .i64) ((fun _=>True))) ((fun b=>.ret (cD (8,0,b)))) h args:=rfl
theorem fe {id:Nat} {h:ah} {args:List AV}:(sbS).pan id h args=bt (av (ar .i64) ((fun _=>True))) ((fun b=>.ret (cD (8,0,b)))) h args:=rfl
def scS:aQ Tryz.prog 180 :=
 mk1 _ _ _ Tryz.func180 rfl (fun _ _=>by go_simp) (ar .i64) ((fun _=>True)) ((fun b=>.ret (cD (9,0,b)))) (by rw [Tryz.ntmps180];decide) (fun b _=>by
 refine aa (ctx:=[⟨_,cE⟩]) 4000 ?_
 rw [Tryz.ntmps180,Tryz.results180]
 simp only [Tryz.f180,Option.getD_some,ag]
 simp only [go_sem,gF,gG,cD,dx])
theorem fc {id:Nat} {h:ah} {args:List AV}:(scS).run id h args=bm (av (ar .i64) ((fun _=>True))) ((fun b=>.ret (cD (9,0,b)))) h args:=rfl
theorem fg {id:Nat} {h:ah} {args:List AV}:(scS).pan id h args=bt (av (ar .i64) ((fun _=>True))) ((fun b=>.ret (cD (9,0,b)))) h args:=rfl
theorem iY {st:St} {b n:Nat} {k:Blk} (hb:hget st.h b=some k) (ho:k.own=true) (hren:∀ g,k.ren g=k):xE 0 st (.ret (.s (.l (.sl 0 0 n))) [] [k]) (some (.s (.l (.sl b 0 n)))):=by
 refine ⟨_,_,_,rfl,rfl,by simp,by simp,by simp [ho],Wk.renL [b] (by simp) (Nat.le_refl _) (by simp) rfl ?_⟩
 simp [dC,cn,hb,hren]
theorem xe (args:Array Value) (w:World):(callFunc 174 args).run Tryz.prog w=.ok (.enter 174 args) w:=by go_simp
theorem GC (l m:List Lim) (h:l.length≤20∧m.length≤20):SW Tryz.prog ⟨none,0⟩ Tryz.f174.ntmps (Tryz.f174.body.getD .skip) ⟨2,ag 0 [.s (.l (.sl 0 0 l.length)),.s (.l (.sl 1 0 m.length))],cn 0 [aY.blk l,aY.blk m]⟩
  (fy Tryz.prog Tryz.f174.results.toList 0 (ee aY (fun l m=>l++m) (l,m))):=by
 refine aa (ctx:=[]) 4000 ?_
 rw [Tryz.ntmps174,Tryz.results174]
 simp only [Tryz.f174,Option.getD_some,ag]
 have hm:l.length+m.length≤maxLen:=by unfold maxLen;omega
 have hb:(l.length+m.length)*24≤140737488355328:=by omega
 simp only [go_sem,RowL.blk,aY,hm,hb,dE,cA,ee]
 rw [← List.map_append,← List.length_append]
 exact iY (st:=⟨_,_,_⟩) (k:=aY.blk (l++m)) rfl rfl (aY.blk_ren _)
def dJ:aQ Tryz.prog 174 :=
 mkQ2 _ _ _ Tryz.func174 rfl xe aY aY aY (fun l m=>l.length≤20∧m.length≤20) (fun l m=>l++m) (by rw [Tryz.ntmps174];decide) (fun l m h=>GC l m h)
theorem Ck {id:Nat} {h:ah} {args:List AV}:dJ.run id h args=bT 0 (qm aY aY (fun l m=>l.length≤20∧m.length≤20)) (ee aY (fun l m=>l++m)) id h args:=rfl
theorem AM {id:Nat} {h:ah} {args:List AV}:dJ.pan id h args=none:=rfl
def qe {α:Type} (R:RowL α) (q:List α→Prop) (h:ah):List AV→Option (Prop×List Nat×(List α×Unit))
 | [.s (.l (.v (.slice none 0 0))),A]=>match jC R h A with
  | some (b,l)=>some (q l,[b],(l,()))
  | none=>none
 | _=>none
theorem Es (l:List Lim) (h:l.length≤20):SW Tryz.prog ⟨none,0⟩ Tryz.f174.ntmps (Tryz.f174.body.getD .skip) ⟨1,ag 0 [.s (.l (.v (.slice none 0 0))),.s (.l (.sl 0 0 l.length))],cn 0 [aY.blk l]⟩
  (fy Tryz.prog Tryz.f174.results.toList 0 (ee aY (fun l (_:Unit)=>l) (l,()))):=by
 refine SW.wk (s':=⟨2,[(0,.s (.l (.sl 1 0 0))),(1,.s (.l (.sl 0 0 l.length)))],[(0,some (aY.blk l)),(1,some (aY.blk []))]⟩) ?_ ((Wk.nil 0 75 3 rfl).trans (Wk.renL [0,1] (by simp) (Nat.le_refl 2) (by decide) rfl (by simp [cn,hget,Blk.ren,RowL.blk,aY,dx,LV.ren,Function.comp_def])))
 refine aa (ctx:=[]) 4000 ?_
 rw [Tryz.ntmps174,Tryz.results174]
 simp only [Tryz.f174,Option.getD_some,ag]
 have hm:0+l.length≤maxLen:=by unfold maxLen;omega
 have hb:(0+l.length)*24≤140737488355328:=by omega
 simp only [go_sem,RowL.blk,aY,hm,hb,dE,cA,ee]
 exact ⟨⟨by omega,by omega⟩,iY (st:=⟨_,_,_⟩) (k:=aY.blk l) rfl rfl (aY.blk_ren _)⟩
def oq:aQ Tryz.prog 174 :=
 mkQ 0 1 (by decide) _ _ _ Tryz.func174 rfl xe (qe aY (fun l=>l.length≤20)) (fun y=>[.s (.l (.v (.slice none 0 0))),.s (.l (.sl 0 0 y.1.length))]) (fun y=>[aY.blk y.1]) (ee aY (fun l (_:Unit)=>l)) (by rw [Tryz.ntmps174];decide)
  (by
   intro h h' args r hs hd
   unfold qe at hd ⊢
   split at hd
   ·split at hd
    ·rename_i h1
     rw [jf hs h1]
     exact hd
    ·cases hd
   ·cases hd)
  (by
   intro h zs q' bs y hd hq
   unfold qe at hd
   split at hd
   case h_2=>cases hd
   rename_i A
   split at hd
   case h_2=>cases hd
   rename_i b l h1
   simp only [Option.some.injEq,Prod.mk.injEq] at hd
   obtain ⟨rfl,rfl,rfl⟩:=hd
   obtain ⟨rfl,hb1⟩:=lD h1
   refine ⟨by rw [Tryz.ntmps174];show 2≤8;decide,rfl,rfl,by simp,fun d=>⟨?_,?_⟩⟩
   ·intro j b' k hj hk
    match j,hj,hk with
    | 0,hj,hk =>
     simp at hj hk
     subst hj
     subst hk
     exact ⟨rfl,by rw [hb1,aY.blk_ren]⟩
   ·intro ρ al vals hA
    match vals,hA with
    | [v,w],⟨a,b,_⟩=>exact ⟨a,b,trivial⟩)
  (by
   intro h zs q' bs y hd hq
   unfold qe at hd
   split at hd
   case h_2=>cases hd
   split at hd
   case h_2=>cases hd
   simp only [Option.some.injEq,Prod.mk.injEq] at hd
   obtain ⟨rfl,rfl,rfl⟩:=hd
   exact Es _ hq)
theorem Dv {id:Nat} {h:ah} {args:List AV}:oq.run id h args=bT 0 (qe aY (fun l=>l.length≤20)) (ee aY (fun l (_:Unit)=>l)) id h args:=rfl
theorem DD {id:Nat} {h:ah} {args:List AV}:oq.pan id h args=none:=rfl
def gk (f:Int):Lim:=(f,0,if f=1∨f=2 then 1 else 31)
theorem nu {l:List Int} {i:Nat} {z:Int} (h:l[i]? = some z):aU (l.take (i+1))=aU (l.take i)++[gk z]:=by
 rw [List.take_add_one,h]
 simp [aU,gk]
theorem jg (l:List Int):(aU l).length=l.length:=by simp [aU]
def flI (l:List Int) (i:Nat):St:=⟨2,[(3,.s (.l (.sl 1 0 i))),(7,.s (.l (.sl 0 0 l.length))),(8,iv l.length),(9,iv i)],[(0,some (cX.blk l)),(1,some (aY.blk (aU (l.take i))))]⟩
theorem BG (l:List Int) (h:l.length≤20):SW Tryz.prog ⟨none,0⟩ Tryz.f175.ntmps (Tryz.f175.body.getD .skip) ⟨1,ag 0 [.s (.l (.sl 0 0 l.length))],cn 0 [cX.blk l]⟩
  (fy Tryz.prog Tryz.f175.results.toList 0 (ee aY (fun l (_:Unit)=>aU l) (l,()))):=by
 refine aa (ctx:=[]) 4000 ?_
 rw [Tryz.ntmps175,Tryz.results175]
 simp only [Tryz.f175,Option.getD_some,ag]
 simp only [go_sem,RowL.blk,cX]
 refine cM (ι:=Nat) (fun i=>i≤l.length) (flI l) (fun i=>l.length-i) 0 (Nat.zero_le _) ((Wk.nil 3 75 3 rfl).trans (Wk.renL [0,81] (by simp) (Nat.le_refl 2) (by decide) rfl ?_)) ?_
 ·simp [flI,hget,Blk.ren,RowL.blk,cX,aY,dx,aU,LV.ren,Function.comp_def]
 intro i hi
 refine aa (ctx:=[⟨_,cQ⟩]) 4000 ?_
 by_cases hlt:i<l.length
 ·have hltI:(i:Int)<l.length:=by omega
  obtain ⟨z,hz⟩:∃ z,l[i]? = some z:=⟨_,List.getElem?_eq_getElem hlt⟩
  have ei:IntKind.i64.wrap ((i:Int)+1)=((i+1:Nat):Int):=by rw [IntKind.wrap_i64];omega
  have hsn:=nu hz
  have hm:i+1≤maxLen:=by unfold maxLen;omega
  have hb:(i+1)*24≤140737488355328:=by omega
  have hl:(aU (l.take i)).length=i:=by rw [jg,List.length_take];omega
  have htk:List.take i (List.map dx (aU (l.take i)))=List.map dx (aU (l.take i)):=List.take_of_length_le (by rw [List.length_map,hl];exact Nat.le_refl _)
  by_cases h1:z=1
  ·have e:gk z=(z,0,1):=by unfold gk;rw [if_pos (.inl h1)]
   have hb1:(z==1)=true:=by simpa using h1
   simp only [go_sem,flI,RowL.blk,cX,aY,hltI,hlt,hz,hb1,iM,iR,cD,dx,hm,hb,ei,htk]
   exact ⟨Nat.le_of_eq hl.symm,i+1,by omega,by omega,Wk.renL [0,242] (by simp) (Nat.le_refl 2) (by decide) rfl (by simp only [flI,RowL.blk,cX,aY,hsn,e];simp [hget,Blk.ren,dx,LV.ren,Function.comp_def])⟩
  have hb1:(z==1)=false:=by simpa using h1
  by_cases h2:z=2
  ·have e:gk z=(z,0,1):=by unfold gk;rw [if_pos (.inr h2)]
   have hb2:(z==2)=true:=by simpa using h2
   simp only [go_sem,flI,RowL.blk,cX,aY,hltI,hlt,hz,hb1,hb2,iM,iR,cD,dx,hm,hb,ei,htk]
   exact ⟨Nat.le_of_eq hl.symm,i+1,by omega,by omega,Wk.renL [0,274] (by simp) (Nat.le_refl 2) (by decide) rfl (by simp only [flI,RowL.blk,cX,aY,hsn,e];simp [hget,Blk.ren,dx,LV.ren,Function.comp_def])⟩
  ·have e:gk z=(z,0,31):=by unfold gk;rw [if_neg (by rintro (h | h);exact h1 h;exact h2 h)]
   have hb2:(z==2)=false:=by simpa using h2
   simp only [go_sem,flI,RowL.blk,cX,aY,hltI,hlt,hz,hb1,hb2,iM,iR,cD,dx,hm,hb,ei,htk]
   exact ⟨Nat.le_of_eq hl.symm,i+1,by omega,by omega,Wk.renL [0,258] (by simp) (Nat.le_refl 2) (by decide) rfl (by simp only [flI,RowL.blk,cX,aY,hsn,e];simp [hget,Blk.ren,dx,LV.ren,Function.comp_def])⟩
 ·obtain rfl:i=l.length:=by omega
  have hltI:¬(l.length:Int)<l.length:=by omega
  simp only [go_sem,flI,RowL.blk,cX,aY,hltI,List.take_length,dE,cA,ee]
  have e:=jg l
  rw [← e]
  exact iY (st:=⟨_,_,_⟩) (k:=aY.blk (aU l)) rfl rfl (aY.blk_ren _)
def co:aQ Tryz.prog 175 :=
 IU _ _ _ Tryz.func175 rfl (fun _ _=>by go_simp) cX aY xw0 (fun l _=>l.length≤20) (fun l _=>aU l) (by rw [Tryz.ntmps175];decide) (fun l x h=>BG l h)
theorem xV {id:Nat} {h:ah} {args:List AV}:co.run id h args=bT 0 (lb cX xw0 (fun l _=>l.length≤20)) (ee aY (fun l _=>aU l)) id h args:=rfl
theorem yb {id:Nat} {h:ah} {args:List AV}:co.pan id h args=none:=rfl
end
end Go.Proofs.YtpjlafmhoifkmaaGreat
