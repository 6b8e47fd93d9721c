import Derived.Test.YthcoegkfpinlfaaGreatDoorJ16
set_option linter.unusedVariables false
set_option linter.unusedSimpArgs false
set_option maxRecDepth 100000
set_option maxHeartbeats 8000000
namespace Go.Proofs.YthcoegkfpinlfaaGreatDoor
section
open Go.RowKit
def lV:mW (ByteArray×Int) where
 dec:=fun | [.v (.string s),.v (.int .i64 n)]=>some (s,n) | _=>none
 enc:=fun r=>[.v (.string r.1),.v (.int .i64 r.2)]
 inv:=by
  intro c x h
  split at h
  ·injection h with h;subst h;rfl
  ·cases h
 back:=by intro x;rfl
def Ia:AV:=.s (.l (.v (.slice none 0 0)))
abbrev fV (l:List (ByteArray×Int)):AV:=.s (.l (.d (.sd 2 (l.map lV.enc))))
theorem JJ:SW Tryz.prog ⟨none,0⟩ Tryz.f117.ntmps (Tryz.f117.body.getD .skip) ⟨0,[],[]⟩ (eK Tryz.prog Tryz.f117.results.toList (.ret (fV qQ))):=by
 refine ab (ctx:=[]) 4000 ?_
 rw [Tryz.ntmps117,Tryz.results117]
 simp only [Tryz.f117,Option.getD_some,aw]
 simp only [go_sem,true_or,or_true,or_false,false_or,qQ,lV]
 rfl
def Dx:bq Tryz.prog 117 :=
 mk0 _ _ _ Tryz.func117 rfl (fun _ _=>by go_simp) (True) ((.ret (fV qQ))) (fun _=>JJ)
theorem ke {id:Nat} {h:ag} {args:List AV}:(Dx).run id h args=bV (jp (True)) (fun _=>(.ret (fV qQ))) h args:=rfl
theorem kc {id:Nat} {h:ag} {args:List AV}:(Dx).pan id h args=ca (jp (True)) (fun _=>(.ret (fV qQ))) h args:=rfl
theorem NL:SW Tryz.prog ⟨none,0⟩ Tryz.f118.ntmps (Tryz.f118.body.getD .skip) ⟨0,[],[]⟩ (eK Tryz.prog Tryz.f118.results.toList (.ret (fV vS))):=by
 refine ab (ctx:=[]) 4000 ?_
 rw [Tryz.ntmps118,Tryz.results118]
 simp only [Tryz.f118,Option.getD_some,aw]
 simp only [go_sem,true_or,or_true,or_false,false_or,vS,lV]
 rfl
def KQ:bq Tryz.prog 118 :=
 mk0 _ _ _ Tryz.func118 rfl (fun _ _=>by go_simp) (True) ((.ret (fV vS))) (fun _=>NL)
theorem lT {id:Nat} {h:ag} {args:List AV}:(KQ).run id h args=bV (jp (True)) (fun _=>(.ret (fV vS))) h args:=rfl
theorem lS {id:Nat} {h:ag} {args:List AV}:(KQ).pan id h args=ca (jp (True)) (fun _=>(.ret (fV vS))) h args:=rfl
theorem AL:SW Tryz.prog ⟨none,0⟩ Tryz.f119.ntmps (Tryz.f119.body.getD .skip) ⟨0,[],[]⟩ (eK Tryz.prog Tryz.f119.results.toList (.ret (fV kb))):=by
 refine ab (ctx:=[]) 4000 ?_
 rw [Tryz.ntmps119,Tryz.results119]
 simp only [Tryz.f119,Option.getD_some,aw]
 simp only [go_sem,true_or,or_true,or_false,false_or,kb,lV]
 rfl
def sA:bq Tryz.prog 119 :=
 mk0 _ _ _ Tryz.func119 rfl (fun _ _=>by go_simp) (True) ((.ret (fV kb))) (fun _=>AL)
theorem gy {id:Nat} {h:ag} {args:List AV}:(sA).run id h args=bV (jp (True)) (fun _=>(.ret (fV kb))) h args:=rfl
theorem gw {id:Nat} {h:ag} {args:List AV}:(sA).pan id h args=ca (jp (True)) (fun _=>(.ret (fV kb))) h args:=rfl
theorem Ko:SW Tryz.prog ⟨none,0⟩ Tryz.f120.ntmps (Tryz.f120.body.getD .skip) ⟨0,[],[]⟩ (eK Tryz.prog Tryz.f120.results.toList (.ret (fV qW))):=by
 refine ab (ctx:=[]) 4000 ?_
 rw [Tryz.ntmps120,Tryz.results120]
 simp only [Tryz.f120,Option.getD_some,aw]
 simp only [go_sem,true_or,or_true,or_false,false_or,qW,lV]
 rfl
def DQ:bq Tryz.prog 120 :=
 mk0 _ _ _ Tryz.func120 rfl (fun _ _=>by go_simp) (True) ((.ret (fV qW))) (fun _=>Ko)
theorem kl {id:Nat} {h:ag} {args:List AV}:(DQ).run id h args=bV (jp (True)) (fun _=>(.ret (fV qW))) h args:=rfl
theorem kj {id:Nat} {h:ag} {args:List AV}:(DQ).pan id h args=ca (jp (True)) (fun _=>(.ret (fV qW))) h args:=rfl
theorem Fb:SW Tryz.prog ⟨none,0⟩ Tryz.f121.ntmps (Tryz.f121.body.getD .skip) ⟨0,[],[]⟩ (eK Tryz.prog Tryz.f121.results.toList (.ret (fV iw))):=by
 refine ab (ctx:=[]) 4000 ?_
 rw [Tryz.ntmps121,Tryz.results121]
 simp only [Tryz.f121,Option.getD_some,aw]
 simp only [go_sem,true_or,or_true,or_false,false_or,iw,lV]
 rfl
def w7:bq Tryz.prog 121 :=
 mk0 _ _ _ Tryz.func121 rfl (fun _ _=>by go_simp) (True) ((.ret (fV iw))) (fun _=>Fb)
theorem iz {id:Nat} {h:ag} {args:List AV}:(w7).run id h args=bV (jp (True)) (fun _=>(.ret (fV iw))) h args:=rfl
theorem iy {id:Nat} {h:ag} {args:List AV}:(w7).pan id h args=ca (jp (True)) (fun _=>(.ret (fV iw))) h args:=rfl
theorem DK:SW Tryz.prog ⟨none,0⟩ Tryz.f122.ntmps (Tryz.f122.body.getD .skip) ⟨0,[],[]⟩ (eK Tryz.prog Tryz.f122.results.toList (.ret (fV lM))):=by
 refine ab (ctx:=[]) 4000 ?_
 rw [Tryz.ntmps122,Tryz.results122]
 simp only [Tryz.f122,Option.getD_some,aw]
 simp only [go_sem,true_or,or_true,or_false,false_or,lM,lV]
 rfl
def vv:bq Tryz.prog 122 :=
 mk0 _ _ _ Tryz.func122 rfl (fun _ _=>by go_simp) (True) ((.ret (fV lM))) (fun _=>DK)
theorem ic {id:Nat} {h:ag} {args:List AV}:(vv).run id h args=bV (jp (True)) (fun _=>(.ret (fV lM))) h args:=rfl
theorem ib {id:Nat} {h:ag} {args:List AV}:(vv).pan id h args=ca (jp (True)) (fun _=>(.ret (fV lM))) h args:=rfl
theorem K5:SW Tryz.prog ⟨none,0⟩ Tryz.f123.ntmps (Tryz.f123.body.getD .skip) ⟨0,[],[]⟩ (eK Tryz.prog Tryz.f123.results.toList (.ret (fV rc))):=by
 refine ab (ctx:=[]) 4000 ?_
 rw [Tryz.ntmps123,Tryz.results123]
 simp only [Tryz.f123,Option.getD_some,aw]
 simp only [go_sem,true_or,or_true,or_false,false_or,rc,lV]
 rfl
def Eh:bq Tryz.prog 123 :=
 mk0 _ _ _ Tryz.func123 rfl (fun _ _=>by go_simp) (True) ((.ret (fV rc))) (fun _=>K5)
theorem kp {id:Nat} {h:ag} {args:List AV}:(Eh).run id h args=bV (jp (True)) (fun _=>(.ret (fV rc))) h args:=rfl
theorem ko {id:Nat} {h:ag} {args:List AV}:(Eh).pan id h args=ca (jp (True)) (fun _=>(.ret (fV rc))) h args:=rfl
def nJ (k:Int):AV:=if gK k=[] then Ia else fV (gK k)
theorem Md (k:Int):SW Tryz.prog ⟨none,0⟩ Tryz.f66.ntmps (Tryz.f66.body.getD .skip) ⟨0,aw 0 [(bA .i64).enc k],[]⟩ (eK Tryz.prog Tryz.f66.results.toList (.ret (nJ k))):=by
 refine ab (ctx:=[⟨_,Dx⟩,⟨_,KQ⟩,⟨_,sA⟩,⟨_,DQ⟩,⟨_,w7⟩,⟨_,vv⟩,⟨_,Eh⟩]) 4000 ?_
 rw [Tryz.ntmps66,Tryz.results66]
 simp only [Tryz.f66,Option.getD_some,aw]
 by_cases h2:k=2
 ·have e:nJ k=fV qQ:=by rw [h2];rfl
  simp only [go_sem,true_or,or_true,or_false,false_or,ke,kc,lT,lS,gy,gw,kl,kj,iz,iy,ic,ib,kp,ko,e,eq_true h2]
 by_cases h3:k=3
 ·have e:nJ k=fV vS:=by rw [h3];rfl
  simp only [go_sem,true_or,or_true,or_false,false_or,ke,kc,lT,lS,gy,gw,kl,kj,iz,iy,ic,ib,kp,ko,e,h2,eq_true h3]
 by_cases h4:k=4
 ·have e:nJ k=fV kb:=by rw [h4];rfl
  simp only [go_sem,true_or,or_true,or_false,false_or,ke,kc,lT,lS,gy,gw,kl,kj,iz,iy,ic,ib,kp,ko,e,h2,h3,eq_true h4]
 by_cases h5:k=5
 ·have e:nJ k=fV qW:=by rw [h5];rfl
  simp only [go_sem,true_or,or_true,or_false,false_or,ke,kc,lT,lS,gy,gw,kl,kj,iz,iy,ic,ib,kp,ko,e,h2,h3,h4,eq_true h5]
 by_cases h6:k=6
 ·have e:nJ k=fV iw:=by rw [h6];rfl
  simp only [go_sem,true_or,or_true,or_false,false_or,ke,kc,lT,lS,gy,gw,kl,kj,iz,iy,ic,ib,kp,ko,e,h2,h3,h4,h5,eq_true h6]
 by_cases h7:k=7
 ·have e:nJ k=fV lM:=by rw [h7];rfl
  simp only [go_sem,true_or,or_true,or_false,false_or,ke,kc,lT,lS,gy,gw,kl,kj,iz,iy,ic,ib,kp,ko,e,h2,h3,h4,h5,h6,eq_true h7]
 by_cases h8:k=8
 ·have e:nJ k=fV rc:=by rw [h8];rfl
  simp only [go_sem,true_or,or_true,or_false,false_or,ke,kc,lT,lS,gy,gw,kl,kj,iz,iy,ic,ib,kp,ko,e,h2,h3,h4,h5,h6,h7,eq_true h8]
 simp only [go_sem,true_or,or_true,or_false,false_or,h2,h3,h4,h5,h6,h7,h8,nJ,gK,Ia]
def Ak:bq Tryz.prog 66 :=
 mk1 _ _ _ Tryz.func66 rfl (fun _ _=>by go_simp) (bA .i64) ((fun _=>True)) ((fun k=>.ret (nJ k))) (by rw [Tryz.ntmps66];decide) (fun k _=>Md k)
theorem qo {id:Nat} {h:ag} {args:List AV}:(Ak).run id h args=bV (aI (bA .i64) ((fun _=>True))) ((fun k=>.ret (nJ k))) h args:=rfl
theorem qn {id:Nat} {h:ag} {args:List AV}:(Ak).pan id h args=ca (aI (bA .i64) ((fun _=>True))) ((fun k=>.ret (nJ k))) h args:=rfl
end
section
open Go.RowKit
end
end Go.Proofs.YthcoegkfpinlfaaGreatDoor
