import Derived.Test.YtpjlafmhoifkmaaGreatM33
import Derived.Test.YtpjlafmhoifkmaaGreatM28
set_option linter.unusedVariables false
set_option linter.unusedSimpArgs false
set_option maxRecDepth 100000
set_option maxHeartbeats 8000000
namespace Go.Proofs.YtpjlafmhoifkmaaGreat
open Go.RowKit
attribute [local go_sem] dX d7 dQ dR eV eT fS gb gW gT gV gY eD eB fZ fW ek eh dp dq dJ dI eX eS bU bW bu aC aH bm fN cy gL opV opR opE ah oSP aw oTo oOf cw be op0 r0 emp co gOf aD aF aI aj ac
def trI (N:ByteArray) (o:OpV) (x:Ins) (i:Nat):St:=⟨3,[(1,.s (.l (.p 0 0 0))),(2,.s (.l (.p 1 0 0))),(3,sv N),(6,.s (.l (.p 2 0 0))),(7,iv (x.a*2 ^ i)),(8,iv i)],[(0,some (gO x)),(1,some bQ),(2,some (mZ o))]⟩
theorem rt20 (xx ss:Bool) (rd rn rm ra a b c:Int) (N:ByteArray) (L W:Bool) (hT:bx b c=(N,L,W)) (hp:¬N=(⟨#[112,114,102,109]⟩:ByteArray)) (hb:0≤b∧b≤3) (ha:0≤a∧a≤4095):SW Tryz.prog ⟨none,0⟩ Tryz.f76.ntmps (Tryz.f76.body.getD .skip) ⟨0,ag 0 [(ai ac).enc ⟨20,xx,ss,rd,rn,rm,ra,a,b,c⟩],[]⟩ (ax Tryz.prog Tryz.f76.results.toList (.ret (aj ((N,[ah rd W,be rn 0 (a*2 ^ b.toNat)]))))):=by
 refine aa (ctx:=[⟨_,aB⟩,⟨_,bC⟩,⟨_,bA⟩,⟨_,ap⟩,⟨_,bq⟩]) 4000 ?_
 rw [Tryz.ntmps76,Tryz.results76]
 simp only [Tryz.f76,Option.getD_some,ag]
 simp only [go_sem,aQ,aR,bB,hT,hp]
 refine cM (ι:=Nat) (fun i=>i≤b.toNat) (trI N (ah rd W) ⟨20,xx,ss,rd,rn,rm,ra,a,b,c⟩) (fun i=>b.toNat-i) 0 (Nat.zero_le _) (Wk.renL [0,16,288] (by simp) (Nat.le_refl 3) (by decide) (by simp [trI,dD,AV.ren,SV.ren,LV.ren]) rfl) ?_
 intro i hi
 refine aa (ctx:=[⟨_,aB⟩,⟨_,ct⟩,⟨_,dl⟩,⟨_,bN⟩,⟨_,cU⟩,⟨_,bC⟩,⟨_,fG⟩,⟨_,bA⟩,⟨_,bO⟩,⟨_,aG⟩,⟨_,aA⟩,⟨_,ap⟩]) 4000 ?_
 by_cases hlt:i<b.toNat
 ·have hltI:(i:Int)<b:=by omega
  have ei:IntKind.i64.wrap ((i:Int)+1)=((i+1:Nat):Int):=by rw [IntKind.wrap_i64];omega
  have ep:IntKind.i64.wrap (a*2 ^ i*2)=a*2 ^ (i+1):=by
   have:i=0∨i=1∨i=2:=by omega
   rcases this with rfl | rfl | rfl<;>(rw [IntKind.wrap_i64];simp<;>omega)
  simp only [go_sem,trI,gO,az,bQ,mZ,opL,hltI,ei,ep]
  exact ⟨i+1,by omega,by omega,Wk.renL [0,1,2] (by simp) (Nat.le_refl 3) (by decide) rfl rfl⟩
 ·obtain rfl:i=b.toNat:=by omega
  have hltI:¬((b.toNat:Nat):Int)<b:=by omega
  simp only [go_sem,trI,gO,az,bQ,mZ,opL,hltI]
  refine ab (ctx:=[⟨_,aB⟩,⟨_,ct⟩,⟨_,dl⟩,⟨_,bN⟩,⟨_,cU⟩,⟨_,bC⟩,⟨_,fG⟩,⟨_,bA⟩,⟨_,bO⟩,⟨_,aG⟩,⟨_,aA⟩,⟨_,ap⟩]) ak ⟨[7,8],[],[]⟩ (by kernel_rfl) ?_
  simp only [go_sem,cG,ofD,opL]
theorem Qt (xx ss:Bool) (rd rn rm ra a b c:Int) (N:ByteArray) (L W:Bool) (hT:bx b c=(N,L,W)) (hp:¬N=(⟨#[112,114,102,109]⟩:ByteArray)) (hN:3≤N.size∧N.size≤5):SW Tryz.prog ⟨none,0⟩ Tryz.f76.ntmps (Tryz.f76.body.getD .skip) ⟨0,ag 0 [(ai ac).enc ⟨21,xx,ss,rd,rn,rm,0,a,b,c⟩],[]⟩ (ax Tryz.prog Tryz.f76.results.toList (.ret (aj ((lq N (⟨#[117,114]⟩:ByteArray),[ah rd W,be rn 0 a]))))):=by
 refine aa (ctx:=[⟨_,aB⟩,⟨_,bC⟩,⟨_,bA⟩,⟨_,ap⟩,⟨_,bq⟩,⟨_,nq⟩]) 4000 ?_
 rw [Tryz.ntmps76,Tryz.results76]
 simp only [Tryz.f76,Option.getD_some,ag]
 simp only [go_sem,aQ,aR,bB,hT,hp,jp,jo,hN.1,hN.2]
 refine ab (ctx:=[⟨_,aB⟩,⟨_,bC⟩,⟨_,bA⟩,⟨_,ap⟩,⟨_,bq⟩,⟨_,nq⟩]) ak ⟨[9,10],[],[]⟩ (by kernel_rfl) ?_
 simp only [go_sem,aQ,aR,bB,hT,hp,jp,jo,hN.1,hN.2]
theorem Oo (xx ss:Bool) (rd rn rm ra a b c:Int) (N:ByteArray) (L W:Bool) (hT:bx b c=(N,L,W)) (hp:¬N=(⟨#[112,114,102,109]⟩:ByteArray)):SW Tryz.prog ⟨none,0⟩ Tryz.f76.ntmps (Tryz.f76.body.getD .skip) ⟨0,ag 0 [(ai ac).enc ⟨21,xx,ss,rd,rn,rm,1,a,b,c⟩],[]⟩ (ax Tryz.prog Tryz.f76.results.toList (.ret (aj ((N,[ah rd W,be rn 2 a]))))):=by
 refine aa (ctx:=[⟨_,aB⟩,⟨_,bC⟩,⟨_,bA⟩,⟨_,ap⟩,⟨_,bq⟩]) 4000 ?_
 rw [Tryz.ntmps76,Tryz.results76]
 simp only [Tryz.f76,Option.getD_some,ag]
 simp only [go_sem,aQ,aR,bB,hT,hp]
 refine ab (ctx:=[⟨_,aB⟩,⟨_,bC⟩,⟨_,bA⟩,⟨_,ap⟩,⟨_,bq⟩]) ak ⟨[8,9],[],[]⟩ (by kernel_rfl) ?_
 simp only [go_sem,aQ,aR,bB,hT,hp]
theorem Rf (xx ss:Bool) (rd rn rm ra a b c:Int) (N:ByteArray) (L W:Bool) (hT:bx b c=(N,L,W)) (hp:¬N=(⟨#[112,114,102,109]⟩:ByteArray)) (hN:3≤N.size∧N.size≤5):SW Tryz.prog ⟨none,0⟩ Tryz.f76.ntmps (Tryz.f76.body.getD .skip) ⟨0,ag 0 [(ai ac).enc ⟨21,xx,ss,rd,rn,rm,2,a,b,c⟩],[]⟩ (ax Tryz.prog Tryz.f76.results.toList (.ret (aj ((lq N (⟨#[116,114]⟩:ByteArray),[ah rd W,be rn 0 a]))))):=by
 refine aa (ctx:=[⟨_,aB⟩,⟨_,bC⟩,⟨_,bA⟩,⟨_,ap⟩,⟨_,bq⟩,⟨_,nq⟩]) 4000 ?_
 rw [Tryz.ntmps76,Tryz.results76]
 simp only [Tryz.f76,Option.getD_some,ag]
 simp only [go_sem,aQ,aR,bB,hT,hp,jp,jo,hN.1,hN.2]
 refine ab (ctx:=[⟨_,aB⟩,⟨_,bC⟩,⟨_,bA⟩,⟨_,ap⟩,⟨_,bq⟩,⟨_,nq⟩]) ak ⟨[9,10],[],[]⟩ (by kernel_rfl) ?_
 simp only [go_sem,aQ,aR,bB,hT,hp,jp,jo,hN.1,hN.2]
theorem rt21 (xx ss:Bool) (rd rn rm ra a b c:Int) (N:ByteArray) (L W:Bool) (hT:bx b c=(N,L,W)) (hp:¬N=(⟨#[112,114,102,109]⟩:ByteArray)) (hr:¬ra=0∧¬ra=1∧¬ra=2):SW Tryz.prog ⟨none,0⟩ Tryz.f76.ntmps (Tryz.f76.body.getD .skip) ⟨0,ag 0 [(ai ac).enc ⟨21,xx,ss,rd,rn,rm,ra,a,b,c⟩],[]⟩ (ax Tryz.prog Tryz.f76.results.toList (.ret (aj ((N,[ah rd W,be rn 1 a]))))):=by
 refine aa (ctx:=[⟨_,aB⟩,⟨_,bC⟩,⟨_,bA⟩,⟨_,ap⟩,⟨_,bq⟩]) 4000 ?_
 rw [Tryz.ntmps76,Tryz.results76]
 simp only [Tryz.f76,Option.getD_some,ag]
 have h0:(ra==0)=false:=by simpa using hr.1
 have h1:(ra==1)=false:=by simpa using hr.2.1
 have h2:(ra==2)=false:=by simpa using hr.2.2
 simp only [go_sem,aQ,aR,bB,hT,hp,h0,h1,h2]
 refine ab (ctx:=[⟨_,aB⟩,⟨_,bC⟩,⟨_,bA⟩,⟨_,ap⟩,⟨_,bq⟩]) ak ⟨[8,9],[],[]⟩ (by kernel_rfl) ?_
 simp only [go_sem,aQ,aR,bB,hT,hp,h0,h1,h2]
theorem Nm (xx:Bool) (rd rn rm ra a b c:Int) (N:ByteArray) (L W:Bool) (hT:bx b c=(N,L,W)) (hp:¬N=(⟨#[112,114,102,109]⟩:ByteArray)) (ha:0≤a∧a≤7) (hk:a=2):SW Tryz.prog ⟨none,0⟩ Tryz.f76.ntmps (Tryz.f76.body.getD .skip) ⟨0,ag 0 [(ai ac).enc ⟨22,xx,true,rd,rn,rm,ra,a,b,c⟩],[]⟩ (ax Tryz.prog Tryz.f76.results.toList (.ret (aj ((N,[ah rd W,{ be rn 3 0 with m:=⟨rm,decide (a % 2=1),false⟩,md:=7,amt:=b }]))))):=by
 refine aa (ctx:=[⟨_,aB⟩,⟨_,bC⟩,⟨_,bA⟩,⟨_,ap⟩,⟨_,bq⟩]) 4000 ?_
 rw [Tryz.ntmps76,Tryz.results76]
 simp only [Tryz.f76,Option.getD_some,ag]
 have d:a.tmod 2=a % 2:=Int.tmod_eq_emod_of_nonneg ha.1
 have e2:=bH (a % 2) 1
 have h2:(a==2)=true:=by simpa using hk
 have h3:(a==3)=false:=by simpa using (show ¬a=3 by omega)
 have h6:(a==6)=false:=by simpa using (show ¬a=6 by omega)
 simp only [go_sem,aQ,aR,bB,hT,hp,d,e2,h2,h3,h6]
theorem MX (xx:Bool) (rd rn rm ra a b c:Int) (N:ByteArray) (L W:Bool) (hT:bx b c=(N,L,W)) (hp:¬N=(⟨#[112,114,102,109]⟩:ByteArray)) (ha:0≤a∧a≤7) (hk:a=3):SW Tryz.prog ⟨none,0⟩ Tryz.f76.ntmps (Tryz.f76.body.getD .skip) ⟨0,ag 0 [(ai ac).enc ⟨22,xx,true,rd,rn,rm,ra,a,b,c⟩],[]⟩ (ax Tryz.prog Tryz.f76.results.toList (.ret (aj ((N,[ah rd W,{ be rn 3 0 with m:=⟨rm,decide (a % 2=1),false⟩,md:=1,amt:=b }]))))):=by
 refine aa (ctx:=[⟨_,aB⟩,⟨_,bC⟩,⟨_,bA⟩,⟨_,ap⟩,⟨_,bq⟩]) 4000 ?_
 rw [Tryz.ntmps76,Tryz.results76]
 simp only [Tryz.f76,Option.getD_some,ag]
 have d:a.tmod 2=a % 2:=Int.tmod_eq_emod_of_nonneg ha.1
 have e2:=bH (a % 2) 1
 have h2:(a==2)=false:=by simpa using (show ¬a=2 by omega)
 have h3:(a==3)=true:=by simpa using hk
 have h6:(a==6)=false:=by simpa using (show ¬a=6 by omega)
 simp only [go_sem,aQ,aR,bB,hT,hp,d,e2,h2,h3,h6]
theorem MF (xx:Bool) (rd rn rm ra a b c:Int) (N:ByteArray) (L W:Bool) (hT:bx b c=(N,L,W)) (hp:¬N=(⟨#[112,114,102,109]⟩:ByteArray)) (ha:0≤a∧a≤7) (hk:a=6):SW Tryz.prog ⟨none,0⟩ Tryz.f76.ntmps (Tryz.f76.body.getD .skip) ⟨0,ag 0 [(ai ac).enc ⟨22,xx,true,rd,rn,rm,ra,a,b,c⟩],[]⟩ (ax Tryz.prog Tryz.f76.results.toList (.ret (aj ((N,[ah rd W,{ be rn 3 0 with m:=⟨rm,decide (a % 2=1),false⟩,md:=11,amt:=b }]))))):=by
 refine aa (ctx:=[⟨_,aB⟩,⟨_,bC⟩,⟨_,bA⟩,⟨_,ap⟩,⟨_,bq⟩]) 4000 ?_
 rw [Tryz.ntmps76,Tryz.results76]
 simp only [Tryz.f76,Option.getD_some,ag]
 have d:a.tmod 2=a % 2:=Int.tmod_eq_emod_of_nonneg ha.1
 have e2:=bH (a % 2) 1
 have h2:(a==2)=false:=by simpa using (show ¬a=2 by omega)
 have h3:(a==3)=false:=by simpa using (show ¬a=3 by omega)
 have h6:(a==6)=true:=by simpa using hk
 simp only [go_sem,aQ,aR,bB,hT,hp,d,e2,h2,h3,h6]
theorem MS (xx:Bool) (rd rn rm ra a b c:Int) (N:ByteArray) (L W:Bool) (hT:bx b c=(N,L,W)) (hp:¬N=(⟨#[112,114,102,109]⟩:ByteArray)) (ha:0≤a∧a≤7) (hk:¬a=2∧¬a=3∧¬a=6):SW Tryz.prog ⟨none,0⟩ Tryz.f76.ntmps (Tryz.f76.body.getD .skip) ⟨0,ag 0 [(ai ac).enc ⟨22,xx,true,rd,rn,rm,ra,a,b,c⟩],[]⟩ (ax Tryz.prog Tryz.f76.results.toList (.ret (aj ((N,[ah rd W,{ be rn 3 0 with m:=⟨rm,decide (a % 2=1),false⟩,md:=12,amt:=b }]))))):=by
 refine aa (ctx:=[⟨_,aB⟩,⟨_,bC⟩,⟨_,bA⟩,⟨_,ap⟩,⟨_,bq⟩]) 4000 ?_
 rw [Tryz.ntmps76,Tryz.results76]
 simp only [Tryz.f76,Option.getD_some,ag]
 have d:a.tmod 2=a % 2:=Int.tmod_eq_emod_of_nonneg ha.1
 have e2:=bH (a % 2) 1
 have h2:(a==2)=false:=by simpa using hk.1
 have h3:(a==3)=false:=by simpa using hk.2.1
 have h6:(a==6)=false:=by simpa using hk.2.2
 simp only [go_sem,aQ,aR,bB,hT,hp,d,e2,h2,h3,h6]
theorem PD (xx:Bool) (rd rn rm ra a b c:Int) (N:ByteArray) (L W:Bool) (hT:bx b c=(N,L,W)) (hp:¬N=(⟨#[112,114,102,109]⟩:ByteArray)) (ha:0≤a∧a≤7) (hk:a=2):SW Tryz.prog ⟨none,0⟩ Tryz.f76.ntmps (Tryz.f76.body.getD .skip) ⟨0,ag 0 [(ai ac).enc ⟨22,xx,false,rd,rn,rm,ra,a,b,c⟩],[]⟩ (ax Tryz.prog Tryz.f76.results.toList (.ret (aj ((N,[ah rd W,{ be rn 3 0 with m:=⟨rm,decide (a % 2=1),false⟩,md:=7,amt := -1 }]))))):=by
 refine aa (ctx:=[⟨_,aB⟩,⟨_,bC⟩,⟨_,bA⟩,⟨_,ap⟩,⟨_,bq⟩]) 4000 ?_
 rw [Tryz.ntmps76,Tryz.results76]
 simp only [Tryz.f76,Option.getD_some,ag]
 have d:a.tmod 2=a % 2:=Int.tmod_eq_emod_of_nonneg ha.1
 have e2:=bH (a % 2) 1
 have h2:(a==2)=true:=by simpa using hk
 have h3:(a==3)=false:=by simpa using (show ¬a=3 by omega)
 have h6:(a==6)=false:=by simpa using (show ¬a=6 by omega)
 simp only [go_sem,aQ,aR,bB,hT,hp,d,e2,h2,h3,h6]
theorem PP (xx:Bool) (rd rn rm ra a b c:Int) (N:ByteArray) (L W:Bool) (hT:bx b c=(N,L,W)) (hp:¬N=(⟨#[112,114,102,109]⟩:ByteArray)) (ha:0≤a∧a≤7) (hk:a=3):SW Tryz.prog ⟨none,0⟩ Tryz.f76.ntmps (Tryz.f76.body.getD .skip) ⟨0,ag 0 [(ai ac).enc ⟨22,xx,false,rd,rn,rm,ra,a,b,c⟩],[]⟩ (ax Tryz.prog Tryz.f76.results.toList (.ret (aj ((N,[ah rd W,{ be rn 3 0 with m:=⟨rm,decide (a % 2=1),false⟩,md:=1,amt := -1 }]))))):=by
 refine aa (ctx:=[⟨_,aB⟩,⟨_,bC⟩,⟨_,bA⟩,⟨_,ap⟩,⟨_,bq⟩]) 4000 ?_
 rw [Tryz.ntmps76,Tryz.results76]
 simp only [Tryz.f76,Option.getD_some,ag]
 have d:a.tmod 2=a % 2:=Int.tmod_eq_emod_of_nonneg ha.1
 have e2:=bH (a % 2) 1
 have h2:(a==2)=false:=by simpa using (show ¬a=2 by omega)
 have h3:(a==3)=true:=by simpa using hk
 have h6:(a==6)=false:=by simpa using (show ¬a=6 by omega)
 simp only [go_sem,aQ,aR,bB,hT,hp,d,e2,h2,h3,h6]
theorem O3 (xx:Bool) (rd rn rm ra a b c:Int) (N:ByteArray) (L W:Bool) (hT:bx b c=(N,L,W)) (hp:¬N=(⟨#[112,114,102,109]⟩:ByteArray)) (ha:0≤a∧a≤7) (hk:a=6):SW Tryz.prog ⟨none,0⟩ Tryz.f76.ntmps (Tryz.f76.body.getD .skip) ⟨0,ag 0 [(ai ac).enc ⟨22,xx,false,rd,rn,rm,ra,a,b,c⟩],[]⟩ (ax Tryz.prog Tryz.f76.results.toList (.ret (aj ((N,[ah rd W,{ be rn 3 0 with m:=⟨rm,decide (a % 2=1),false⟩,md:=11,amt := -1 }]))))):=by
 refine aa (ctx:=[⟨_,aB⟩,⟨_,bC⟩,⟨_,bA⟩,⟨_,ap⟩,⟨_,bq⟩]) 4000 ?_
 rw [Tryz.ntmps76,Tryz.results76]
 simp only [Tryz.f76,Option.getD_some,ag]
 have d:a.tmod 2=a % 2:=Int.tmod_eq_emod_of_nonneg ha.1
 have e2:=bH (a % 2) 1
 have h2:(a==2)=false:=by simpa using (show ¬a=2 by omega)
 have h3:(a==3)=false:=by simpa using (show ¬a=3 by omega)
 have h6:(a==6)=true:=by simpa using hk
 simp only [go_sem,aQ,aR,bB,hT,hp,d,e2,h2,h3,h6]
theorem P3 (xx:Bool) (rd rn rm ra a b c:Int) (N:ByteArray) (L W:Bool) (hT:bx b c=(N,L,W)) (hp:¬N=(⟨#[112,114,102,109]⟩:ByteArray)) (ha:0≤a∧a≤7) (hk:¬a=2∧¬a=3∧¬a=6):SW Tryz.prog ⟨none,0⟩ Tryz.f76.ntmps (Tryz.f76.body.getD .skip) ⟨0,ag 0 [(ai ac).enc ⟨22,xx,false,rd,rn,rm,ra,a,b,c⟩],[]⟩ (ax Tryz.prog Tryz.f76.results.toList (.ret (aj ((N,[ah rd W,{ be rn 3 0 with m:=⟨rm,decide (a % 2=1),false⟩,md:=12,amt := -1 }]))))):=by
 refine aa (ctx:=[⟨_,aB⟩,⟨_,bC⟩,⟨_,bA⟩,⟨_,ap⟩,⟨_,bq⟩]) 4000 ?_
 rw [Tryz.ntmps76,Tryz.results76]
 simp only [Tryz.f76,Option.getD_some,ag]
 have d:a.tmod 2=a % 2:=Int.tmod_eq_emod_of_nonneg ha.1
 have e2:=bH (a % 2) 1
 have h2:(a==2)=false:=by simpa using hk.1
 have h3:(a==3)=false:=by simpa using hk.2.1
 have h6:(a==6)=false:=by simpa using hk.2.2
 simp only [go_sem,aQ,aR,bB,hT,hp,d,e2,h2,h3,h6]
theorem Ri (xx ss:Bool) (rd rn rm ra a b c:Int) (N:ByteArray) (L W:Bool) (hT:bx b c=(N,L,W)) (hp:N=(⟨#[112,114,102,109]⟩:ByteArray)) (hb:0≤b∧b≤3) (ha:0≤a∧a≤4095):SW Tryz.prog ⟨none,0⟩ Tryz.f76.ntmps (Tryz.f76.body.getD .skip) ⟨0,ag 0 [(ai ac).enc ⟨20,xx,ss,rd,rn,rm,ra,a,b,c⟩],[]⟩ (ax Tryz.prog Tryz.f76.results.toList (.ret (aj ((N,[oOf 8 rd,be rn 0 (a*2 ^ b.toNat)]))))):=by
 refine aa (ctx:=[⟨_,aB⟩,⟨_,bC⟩,⟨_,bA⟩,⟨_,ap⟩,⟨_,bq⟩]) 4000 ?_
 rw [Tryz.ntmps76,Tryz.results76]
 simp only [Tryz.f76,Option.getD_some,ag]
 simp only [go_sem,aQ,aR,bB,hT,eq_true hp]
 refine cM (ι:=Nat) (fun i=>i≤b.toNat) (trI N (oOf 8 rd) ⟨20,xx,ss,rd,rn,rm,ra,a,b,c⟩) (fun i=>b.toNat-i) 0 (Nat.zero_le _) (Wk.renL [0,16,288] (by simp) (Nat.le_refl 3) (by decide) (by simp [trI,dD,AV.ren,SV.ren,LV.ren]) rfl) ?_
 intro i hi
 refine aa (ctx:=[⟨_,aB⟩,⟨_,ct⟩,⟨_,dl⟩,⟨_,bN⟩,⟨_,cU⟩,⟨_,bC⟩,⟨_,fG⟩,⟨_,bA⟩,⟨_,bO⟩,⟨_,aG⟩,⟨_,aA⟩,⟨_,ap⟩]) 4000 ?_
 by_cases hlt:i<b.toNat
 ·have hltI:(i:Int)<b:=by omega
  have ei:IntKind.i64.wrap ((i:Int)+1)=((i+1:Nat):Int):=by rw [IntKind.wrap_i64];omega
  have ep:IntKind.i64.wrap (a*2 ^ i*2)=a*2 ^ (i+1):=by
   have:i=0∨i=1∨i=2:=by omega
   rcases this with rfl | rfl | rfl<;>(rw [IntKind.wrap_i64];simp<;>omega)
  simp only [go_sem,trI,gO,az,bQ,mZ,opL,hltI,ei,ep]
  exact ⟨i+1,by omega,by omega,Wk.renL [0,1,2] (by simp) (Nat.le_refl 3) (by decide) rfl rfl⟩
 ·obtain rfl:i=b.toNat:=by omega
  have hltI:¬((b.toNat:Nat):Int)<b:=by omega
  simp only [go_sem,trI,gO,az,bQ,mZ,opL,hltI]
  refine ab (ctx:=[⟨_,aB⟩,⟨_,ct⟩,⟨_,dl⟩,⟨_,bN⟩,⟨_,cU⟩,⟨_,bC⟩,⟨_,fG⟩,⟨_,bA⟩,⟨_,bO⟩,⟨_,aG⟩,⟨_,aA⟩,⟨_,ap⟩]) ak ⟨[7,8],[],[]⟩ (by kernel_rfl) ?_
  simp only [go_sem,cG,ofD,opL]
theorem Ma (xx ss:Bool) (rd rn rm ra a b c:Int) (N:ByteArray) (L W:Bool) (hT:bx b c=(N,L,W)) (hp:N=(⟨#[112,114,102,109]⟩:ByteArray)) (hN:3≤N.size∧N.size≤5):SW Tryz.prog ⟨none,0⟩ Tryz.f76.ntmps (Tryz.f76.body.getD .skip) ⟨0,ag 0 [(ai ac).enc ⟨21,xx,ss,rd,rn,rm,0,a,b,c⟩],[]⟩ (ax Tryz.prog Tryz.f76.results.toList (.ret (aj ((lq N (⟨#[117,114]⟩:ByteArray),[oOf 8 rd,be rn 0 a]))))):=by
 refine aa (ctx:=[⟨_,aB⟩,⟨_,bC⟩,⟨_,bA⟩,⟨_,ap⟩,⟨_,bq⟩,⟨_,nq⟩]) 4000 ?_
 rw [Tryz.ntmps76,Tryz.results76]
 simp only [Tryz.f76,Option.getD_some,ag]
 simp only [go_sem,aQ,aR,bB,hT,eq_true hp,jp,jo,hN.1,hN.2]
 refine ab (ctx:=[⟨_,aB⟩,⟨_,bC⟩,⟨_,bA⟩,⟨_,ap⟩,⟨_,bq⟩,⟨_,nq⟩]) ak ⟨[9,10],[],[]⟩ (by kernel_rfl) ?_
 simp only [go_sem,aQ,aR,bB,hT,eq_true hp,jp,jo,hN.1,hN.2]
theorem K8 (xx ss:Bool) (rd rn rm ra a b c:Int) (N:ByteArray) (L W:Bool) (hT:bx b c=(N,L,W)) (hp:N=(⟨#[112,114,102,109]⟩:ByteArray)):SW Tryz.prog ⟨none,0⟩ Tryz.f76.ntmps (Tryz.f76.body.getD .skip) ⟨0,ag 0 [(ai ac).enc ⟨21,xx,ss,rd,rn,rm,1,a,b,c⟩],[]⟩ (ax Tryz.prog Tryz.f76.results.toList (.ret (aj ((N,[oOf 8 rd,be rn 2 a]))))):=by
 refine aa (ctx:=[⟨_,aB⟩,⟨_,bC⟩,⟨_,bA⟩,⟨_,ap⟩,⟨_,bq⟩]) 4000 ?_
 rw [Tryz.ntmps76,Tryz.results76]
 simp only [Tryz.f76,Option.getD_some,ag]
 simp only [go_sem,aQ,aR,bB,hT,eq_true hp]
 refine ab (ctx:=[⟨_,aB⟩,⟨_,bC⟩,⟨_,bA⟩,⟨_,ap⟩,⟨_,bq⟩]) ak ⟨[8,9],[],[]⟩ (by kernel_rfl) ?_
 simp only [go_sem,aQ,aR,bB,hT,eq_true hp]
theorem LC (xx ss:Bool) (rd rn rm ra a b c:Int) (N:ByteArray) (L W:Bool) (hT:bx b c=(N,L,W)) (hp:N=(⟨#[112,114,102,109]⟩:ByteArray)) (hN:3≤N.size∧N.size≤5):SW Tryz.prog ⟨none,0⟩ Tryz.f76.ntmps (Tryz.f76.body.getD .skip) ⟨0,ag 0 [(ai ac).enc ⟨21,xx,ss,rd,rn,rm,2,a,b,c⟩],[]⟩ (ax Tryz.prog Tryz.f76.results.toList (.ret (aj ((lq N (⟨#[116,114]⟩:ByteArray),[oOf 8 rd,be rn 0 a]))))):=by
 refine aa (ctx:=[⟨_,aB⟩,⟨_,bC⟩,⟨_,bA⟩,⟨_,ap⟩,⟨_,bq⟩,⟨_,nq⟩]) 4000 ?_
 rw [Tryz.ntmps76,Tryz.results76]
 simp only [Tryz.f76,Option.getD_some,ag]
 simp only [go_sem,aQ,aR,bB,hT,eq_true hp,jp,jo,hN.1,hN.2]
 refine ab (ctx:=[⟨_,aB⟩,⟨_,bC⟩,⟨_,bA⟩,⟨_,ap⟩,⟨_,bq⟩,⟨_,nq⟩]) ak ⟨[9,10],[],[]⟩ (by kernel_rfl) ?_
 simp only [go_sem,aQ,aR,bB,hT,eq_true hp,jp,jo,hN.1,hN.2]
theorem Qb (xx ss:Bool) (rd rn rm ra a b c:Int) (N:ByteArray) (L W:Bool) (hT:bx b c=(N,L,W)) (hp:N=(⟨#[112,114,102,109]⟩:ByteArray)) (hr:¬ra=0∧¬ra=1∧¬ra=2):SW Tryz.prog ⟨none,0⟩ Tryz.f76.ntmps (Tryz.f76.body.getD .skip) ⟨0,ag 0 [(ai ac).enc ⟨21,xx,ss,rd,rn,rm,ra,a,b,c⟩],[]⟩ (ax Tryz.prog Tryz.f76.results.toList (.ret (aj ((N,[oOf 8 rd,be rn 1 a]))))):=by
 refine aa (ctx:=[⟨_,aB⟩,⟨_,bC⟩,⟨_,bA⟩,⟨_,ap⟩,⟨_,bq⟩]) 4000 ?_
 rw [Tryz.ntmps76,Tryz.results76]
 simp only [Tryz.f76,Option.getD_some,ag]
 have h0:(ra==0)=false:=by simpa using hr.1
 have h1:(ra==1)=false:=by simpa using hr.2.1
 have h2:(ra==2)=false:=by simpa using hr.2.2
 simp only [go_sem,aQ,aR,bB,hT,eq_true hp,h0,h1,h2]
 refine ab (ctx:=[⟨_,aB⟩,⟨_,bC⟩,⟨_,bA⟩,⟨_,ap⟩,⟨_,bq⟩]) ak ⟨[8,9],[],[]⟩ (by kernel_rfl) ?_
 simp only [go_sem,aQ,aR,bB,hT,eq_true hp,h0,h1,h2]
theorem IX (xx:Bool) (rd rn rm ra a b c:Int) (N:ByteArray) (L W:Bool) (hT:bx b c=(N,L,W)) (hp:N=(⟨#[112,114,102,109]⟩:ByteArray)) (ha:0≤a∧a≤7) (hk:a=2):SW Tryz.prog ⟨none,0⟩ Tryz.f76.ntmps (Tryz.f76.body.getD .skip) ⟨0,ag 0 [(ai ac).enc ⟨22,xx,true,rd,rn,rm,ra,a,b,c⟩],[]⟩ (ax Tryz.prog Tryz.f76.results.toList (.ret (aj ((N,[oOf 8 rd,{ be rn 3 0 with m:=⟨rm,decide (a % 2=1),false⟩,md:=7,amt:=b }]))))):=by
 refine aa (ctx:=[⟨_,aB⟩,⟨_,bC⟩,⟨_,bA⟩,⟨_,ap⟩,⟨_,bq⟩]) 4000 ?_
 rw [Tryz.ntmps76,Tryz.results76]
 simp only [Tryz.f76,Option.getD_some,ag]
 have d:a.tmod 2=a % 2:=Int.tmod_eq_emod_of_nonneg ha.1
 have e2:=bH (a % 2) 1
 have h2:(a==2)=true:=by simpa using hk
 have h3:(a==3)=false:=by simpa using (show ¬a=3 by omega)
 have h6:(a==6)=false:=by simpa using (show ¬a=6 by omega)
 simp only [go_sem,aQ,aR,bB,hT,eq_true hp,d,e2,h2,h3,h6]
theorem J1 (xx:Bool) (rd rn rm ra a b c:Int) (N:ByteArray) (L W:Bool) (hT:bx b c=(N,L,W)) (hp:N=(⟨#[112,114,102,109]⟩:ByteArray)) (ha:0≤a∧a≤7) (hk:a=3):SW Tryz.prog ⟨none,0⟩ Tryz.f76.ntmps (Tryz.f76.body.getD .skip) ⟨0,ag 0 [(ai ac).enc ⟨22,xx,true,rd,rn,rm,ra,a,b,c⟩],[]⟩ (ax Tryz.prog Tryz.f76.results.toList (.ret (aj ((N,[oOf 8 rd,{ be rn 3 0 with m:=⟨rm,decide (a % 2=1),false⟩,md:=1,amt:=b }]))))):=by
 refine aa (ctx:=[⟨_,aB⟩,⟨_,bC⟩,⟨_,bA⟩,⟨_,ap⟩,⟨_,bq⟩]) 4000 ?_
 rw [Tryz.ntmps76,Tryz.results76]
 simp only [Tryz.f76,Option.getD_some,ag]
 have d:a.tmod 2=a % 2:=Int.tmod_eq_emod_of_nonneg ha.1
 have e2:=bH (a % 2) 1
 have h2:(a==2)=false:=by simpa using (show ¬a=2 by omega)
 have h3:(a==3)=true:=by simpa using hk
 have h6:(a==6)=false:=by simpa using (show ¬a=6 by omega)
 simp only [go_sem,aQ,aR,bB,hT,eq_true hp,d,e2,h2,h3,h6]
theorem Kp (xx:Bool) (rd rn rm ra a b c:Int) (N:ByteArray) (L W:Bool) (hT:bx b c=(N,L,W)) (hp:N=(⟨#[112,114,102,109]⟩:ByteArray)) (ha:0≤a∧a≤7) (hk:a=6):SW Tryz.prog ⟨none,0⟩ Tryz.f76.ntmps (Tryz.f76.body.getD .skip) ⟨0,ag 0 [(ai ac).enc ⟨22,xx,true,rd,rn,rm,ra,a,b,c⟩],[]⟩ (ax Tryz.prog Tryz.f76.results.toList (.ret (aj ((N,[oOf 8 rd,{ be rn 3 0 with m:=⟨rm,decide (a % 2=1),false⟩,md:=11,amt:=b }]))))):=by
 refine aa (ctx:=[⟨_,aB⟩,⟨_,bC⟩,⟨_,bA⟩,⟨_,ap⟩,⟨_,bq⟩]) 4000 ?_
 rw [Tryz.ntmps76,Tryz.results76]
 simp only [Tryz.f76,Option.getD_some,ag]
 have d:a.tmod 2=a % 2:=Int.tmod_eq_emod_of_nonneg ha.1
 have e2:=bH (a % 2) 1
 have h2:(a==2)=false:=by simpa using (show ¬a=2 by omega)
 have h3:(a==3)=false:=by simpa using (show ¬a=3 by omega)
 have h6:(a==6)=true:=by simpa using hk
 simp only [go_sem,aQ,aR,bB,hT,eq_true hp,d,e2,h2,h3,h6]
theorem Hq (xx:Bool) (rd rn rm ra a b c:Int) (N:ByteArray) (L W:Bool) (hT:bx b c=(N,L,W)) (hp:N=(⟨#[112,114,102,109]⟩:ByteArray)) (ha:0≤a∧a≤7) (hk:¬a=2∧¬a=3∧¬a=6):SW Tryz.prog ⟨none,0⟩ Tryz.f76.ntmps (Tryz.f76.body.getD .skip) ⟨0,ag 0 [(ai ac).enc ⟨22,xx,true,rd,rn,rm,ra,a,b,c⟩],[]⟩ (ax Tryz.prog Tryz.f76.results.toList (.ret (aj ((N,[oOf 8 rd,{ be rn 3 0 with m:=⟨rm,decide (a % 2=1),false⟩,md:=12,amt:=b }]))))):=by
 refine aa (ctx:=[⟨_,aB⟩,⟨_,bC⟩,⟨_,bA⟩,⟨_,ap⟩,⟨_,bq⟩]) 4000 ?_
 rw [Tryz.ntmps76,Tryz.results76]
 simp only [Tryz.f76,Option.getD_some,ag]
 have d:a.tmod 2=a % 2:=Int.tmod_eq_emod_of_nonneg ha.1
 have e2:=bH (a % 2) 1
 have h2:(a==2)=false:=by simpa using hk.1
 have h3:(a==3)=false:=by simpa using hk.2.1
 have h6:(a==6)=false:=by simpa using hk.2.2
 simp only [go_sem,aQ,aR,bB,hT,eq_true hp,d,e2,h2,h3,h6]
theorem Lq (xx:Bool) (rd rn rm ra a b c:Int) (N:ByteArray) (L W:Bool) (hT:bx b c=(N,L,W)) (hp:N=(⟨#[112,114,102,109]⟩:ByteArray)) (ha:0≤a∧a≤7) (hk:a=2):SW Tryz.prog ⟨none,0⟩ Tryz.f76.ntmps (Tryz.f76.body.getD .skip) ⟨0,ag 0 [(ai ac).enc ⟨22,xx,false,rd,rn,rm,ra,a,b,c⟩],[]⟩ (ax Tryz.prog Tryz.f76.results.toList (.ret (aj ((N,[oOf 8 rd,{ be rn 3 0 with m:=⟨rm,decide (a % 2=1),false⟩,md:=7,amt := -1 }]))))):=by
 refine aa (ctx:=[⟨_,aB⟩,⟨_,bC⟩,⟨_,bA⟩,⟨_,ap⟩,⟨_,bq⟩]) 4000 ?_
 rw [Tryz.ntmps76,Tryz.results76]
 simp only [Tryz.f76,Option.getD_some,ag]
 have d:a.tmod 2=a % 2:=Int.tmod_eq_emod_of_nonneg ha.1
 have e2:=bH (a % 2) 1
 have h2:(a==2)=true:=by simpa using hk
 have h3:(a==3)=false:=by simpa using (show ¬a=3 by omega)
 have h6:(a==6)=false:=by simpa using (show ¬a=6 by omega)
 simp only [go_sem,aQ,aR,bB,hT,eq_true hp,d,e2,h2,h3,h6]
theorem Ng (xx:Bool) (rd rn rm ra a b c:Int) (N:ByteArray) (L W:Bool) (hT:bx b c=(N,L,W)) (hp:N=(⟨#[112,114,102,109]⟩:ByteArray)) (ha:0≤a∧a≤7) (hk:a=3):SW Tryz.prog ⟨none,0⟩ Tryz.f76.ntmps (Tryz.f76.body.getD .skip) ⟨0,ag 0 [(ai ac).enc ⟨22,xx,false,rd,rn,rm,ra,a,b,c⟩],[]⟩ (ax Tryz.prog Tryz.f76.results.toList (.ret (aj ((N,[oOf 8 rd,{ be rn 3 0 with m:=⟨rm,decide (a % 2=1),false⟩,md:=1,amt := -1 }]))))):=by
 refine aa (ctx:=[⟨_,aB⟩,⟨_,bC⟩,⟨_,bA⟩,⟨_,ap⟩,⟨_,bq⟩]) 4000 ?_
 rw [Tryz.ntmps76,Tryz.results76]
 simp only [Tryz.f76,Option.getD_some,ag]
 have d:a.tmod 2=a % 2:=Int.tmod_eq_emod_of_nonneg ha.1
 have e2:=bH (a % 2) 1
 have h2:(a==2)=false:=by simpa using (show ¬a=2 by omega)
 have h3:(a==3)=true:=by simpa using hk
 have h6:(a==6)=false:=by simpa using (show ¬a=6 by omega)
 simp only [go_sem,aQ,aR,bB,hT,eq_true hp,d,e2,h2,h3,h6]
theorem NG (xx:Bool) (rd rn rm ra a b c:Int) (N:ByteArray) (L W:Bool) (hT:bx b c=(N,L,W)) (hp:N=(⟨#[112,114,102,109]⟩:ByteArray)) (ha:0≤a∧a≤7) (hk:a=6):SW Tryz.prog ⟨none,0⟩ Tryz.f76.ntmps (Tryz.f76.body.getD .skip) ⟨0,ag 0 [(ai ac).enc ⟨22,xx,false,rd,rn,rm,ra,a,b,c⟩],[]⟩ (ax Tryz.prog Tryz.f76.results.toList (.ret (aj ((N,[oOf 8 rd,{ be rn 3 0 with m:=⟨rm,decide (a % 2=1),false⟩,md:=11,amt := -1 }]))))):=by
 refine aa (ctx:=[⟨_,aB⟩,⟨_,bC⟩,⟨_,bA⟩,⟨_,ap⟩,⟨_,bq⟩]) 4000 ?_
 rw [Tryz.ntmps76,Tryz.results76]
 simp only [Tryz.f76,Option.getD_some,ag]
 have d:a.tmod 2=a % 2:=Int.tmod_eq_emod_of_nonneg ha.1
 have e2:=bH (a % 2) 1
 have h2:(a==2)=false:=by simpa using (show ¬a=2 by omega)
 have h3:(a==3)=false:=by simpa using (show ¬a=3 by omega)
 have h6:(a==6)=true:=by simpa using hk
 simp only [go_sem,aQ,aR,bB,hT,eq_true hp,d,e2,h2,h3,h6]
theorem Ml (xx:Bool) (rd rn rm ra a b c:Int) (N:ByteArray) (L W:Bool) (hT:bx b c=(N,L,W)) (hp:N=(⟨#[112,114,102,109]⟩:ByteArray)) (ha:0≤a∧a≤7) (hk:¬a=2∧¬a=3∧¬a=6):SW Tryz.prog ⟨none,0⟩ Tryz.f76.ntmps (Tryz.f76.body.getD .skip) ⟨0,ag 0 [(ai ac).enc ⟨22,xx,false,rd,rn,rm,ra,a,b,c⟩],[]⟩ (ax Tryz.prog Tryz.f76.results.toList (.ret (aj ((N,[oOf 8 rd,{ be rn 3 0 with m:=⟨rm,decide (a % 2=1),false⟩,md:=12,amt := -1 }]))))):=by
 refine aa (ctx:=[⟨_,aB⟩,⟨_,bC⟩,⟨_,bA⟩,⟨_,ap⟩,⟨_,bq⟩]) 4000 ?_
 rw [Tryz.ntmps76,Tryz.results76]
 simp only [Tryz.f76,Option.getD_some,ag]
 have d:a.tmod 2=a % 2:=Int.tmod_eq_emod_of_nonneg ha.1
 have e2:=bH (a % 2) 1
 have h2:(a==2)=false:=by simpa using hk.1
 have h3:(a==3)=false:=by simpa using hk.2.1
 have h6:(a==6)=false:=by simpa using hk.2.2
 simp only [go_sem,aQ,aR,bB,hT,eq_true hp,d,e2,h2,h3,h6]
end Go.Proofs.YtpjlafmhoifkmaaGreat
