import Derived.Test.YthcoegkfpinlfaaGreatDoorJ15
set_option linter.unusedVariables false
set_option linter.unusedSimpArgs false
set_option maxRecDepth 100000
set_option maxHeartbeats 8000000
namespace Go.Proofs.YthcoegkfpinlfaaGreatDoor
open Go.RowKit
theorem rj (n:Int):(dK n).size≤3:=by
 unfold dK
 split
 ·rw [iJ];simp
 ·split<;>(rw [iJ];simp)
theorem EJ (r:hP):SW Tryz.prog ⟨none,0⟩ Tryz.f64.ntmps (Tryz.f64.body.getD .skip) ⟨0,aw 0 [(jZ gk).enc r],[]⟩ (eK Tryz.prog Tryz.f64.results.toList (.ret (eW (aV r)))):=by
 obtain ⟨n,x,sp⟩:=r
 refine ab (ctx:=[⟨_,su⟩]) 4000 ?_
 rw [Tryz.ntmps64,Tryz.results64]
 simp only [Tryz.f64,Option.getD_some,aw]
 have hz:(dK n).size≤3:=rj n
 have e1:(1+(dK n).size:Nat)≤maxLen:=by unfold maxLen;omega
 have e2:(⟨#[119]⟩:ByteArray)=wS:=rfl
 have e3:(⟨#[120]⟩:ByteArray)=xS:=rfl
 by_cases h1:n<0
 ·cases x<;>cases sp<;>simp only [go_sem,gk,h1,eW,aV,ax]
 by_cases h2:31<n
 ·cases x<;>cases sp<;>simp only [go_sem,gk,h1,h2,eW,aV,ax]
 by_cases h3:n=31
 ·subst h3
  cases x<;>cases sp<;>simp only [go_sem,gk,eW,aV,ax]<;>first | rfl | exact ⟨by decide,rfl⟩ | decide
 ·have h4:0≤n∧n<1000:=by omega
  have h5:¬n > 31:=h2
  cases x<;>cases sp<;>simp only [go_sem,gk,h1,h2,h3,h4,eW,aV,ax,nL,nK,e2,e3,show wS.size=1 from rfl,show xS.size=1 from rfl,e1]
def lY:bq Tryz.prog 64 :=
 mk1 _ _ _ Tryz.func64 rfl (fun _ _=>by go_simp) (jZ gk) ((fun _=>True)) ((fun r=>.ret (eW (aV r)))) (by rw [Tryz.ntmps64];decide) (fun r _=>EJ r)
theorem kS {id:Nat} {h:ag} {args:List AV}:(lY).run id h args=bV (aI (jZ gk) ((fun _=>True))) ((fun r=>.ret (eW (aV r)))) h args:=rfl
theorem kR {id:Nat} {h:ag} {args:List AV}:(lY).pan id h args=ca (aI (jZ gk) ((fun _=>True))) ((fun r=>.ret (eW (aV r)))) h args:=rfl
def EK (r:hP):AV:=.s (.agg [.v (.int .i64 r.n),.v (.bool r.x),.v (.bool r.sp)])
def wv:bq Tryz.prog 65 :=
 mk1 _ _ _ Tryz.func65 rfl (fun _ _=>by go_simp) (bA .i64) ((fun n=>0≤n∧n<128)) ((fun n=>.ret (EK (jV n)))) (by rw [Tryz.ntmps65];decide) (fun n hn=>by
 obtain ⟨h0,h1⟩:=hn
 refine ab (ctx:=[]) 4000 ?_
 rw [Tryz.ntmps65,Tryz.results65]
 simp only [Tryz.f65,Option.getD_some,aw]
 have d1:n.tdiv 32=n / 32:=Int.tdiv_eq_ediv_of_nonneg h0
 have d2:n.tmod 32=n % 32:=Int.tmod_eq_emod_of_nonneg h0
 have d3:(n / 32).tmod 2=n / 32 % 2:=Int.tmod_eq_emod_of_nonneg (by omega)
 have e1:IntKind.i64.wrap (n / 32)=n / 32:=by rw [IntKind.wrap_i64];omega
 have e2:IntKind.i64.wrap (n % 32)=n % 32:=by rw [IntKind.wrap_i64];omega
 simp only [go_sem,EK,jV,d1,d2,d3,e1,e2]
 have e3:(n / 32 % 2==1)=decide (n / 32 % 2=1):=by by_cases h:n / 32 % 2=1<;>simp [h]
 rw [e3])
theorem td {id:Nat} {h:ag} {args:List AV}:(wv).run id h args=bV (aI (bA .i64) ((fun n=>0≤n∧n<128))) ((fun n=>.ret (EK (jV n)))) h args:=rfl
theorem ta {id:Nat} {h:ag} {args:List AV}:(wv).pan id h args=ca (aI (bA .i64) ((fun n=>0≤n∧n<128))) ((fun n=>.ret (EK (jV n)))) h args:=rfl
def D9:bq Tryz.prog 69 :=
 mk1 _ _ _ Tryz.func69 rfl (fun _ _=>by go_simp) (jZ gk) ((fun r => -100000<r.n∧r.n<100000)) ((fun r=>.ret (iv (oy r)))) (by rw [Tryz.ntmps69];decide) (fun r hr=>by
 obtain ⟨n,x,sp⟩:=r
 obtain ⟨h0,h1⟩:=hr
 simp only at h0 h1
 refine ab (ctx:=[]) 4000 ?_
 rw [Tryz.ntmps69,Tryz.results69]
 simp only [Tryz.f69,Option.getD_some,aw]
 have e1:IntKind.i64.wrap n=n:=by rw [IntKind.wrap_i64];omega
 have e2:IntKind.i64.wrap (n+32)=n+32:=by rw [IntKind.wrap_i64];omega
 have e3:IntKind.i64.wrap (n+64)=n+64:=by rw [IntKind.wrap_i64];omega
 have e4:IntKind.i64.wrap (n+32+64)=n+32+64:=by rw [IntKind.wrap_i64];omega
 cases x<;>cases sp<;>simp only [go_sem,gk,oy,e1,e2,e3,e4,Int.add_zero])
theorem Ic {id:Nat} {h:ag} {args:List AV}:(D9).run id h args=bV (aI (jZ gk) ((fun r => -100000<r.n∧r.n<100000))) ((fun r=>.ret (iv (oy r)))) h args:=rfl
theorem Ib {id:Nat} {h:ag} {args:List AV}:(D9).pan id h args=ca (aI (jZ gk) ((fun r => -100000<r.n∧r.n<100000))) ((fun r=>.ret (iv (oy r)))) h args:=rfl
end Go.Proofs.YthcoegkfpinlfaaGreatDoor
