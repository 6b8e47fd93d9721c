import Derived.Test.YtnhbidpdadkcjaaGreatDoorG44
open Go.RowKit
set_option linter.unusedVariables false
set_option linter.unusedSimpArgs false
set_option maxRecDepth 100000
set_option maxHeartbeats 8000000
open List (getElem?_eq_getElem take_length append_eq)
namespace Go.Proofs.YtnhbidpdadkcjaaGreatDoor
open Tryz
def cz (s:StV):List D:=[.sd 1 (s.labels.map jr.enc),.v (.int .i64 s.kind),.v (.string s.name),.sd 15 (s.opers.map opR.enc),.sd 1 (s.names.map jr.enc),.v (.int .i64 s.size),.sd 3 (s.vals.map nZ.enc),.sd 1 (s.bytes.map (gE .u8).enc)]
def ET:List D→Option StV
 |[.sd 1 ls,.v (.int .i64 kind),.v (.string name),.sd 15 os,.sd 1 ns,.v (.int .i64 size),.sd 3 vs,.sd 1 bs] =>
  match dc jr.dec ls,dc opR.dec os,dc jr.dec ns,dc nZ.dec vs,dc (gE .u8).dec bs with
  |some ls,some os,some ns,some vs,some bs=>some ⟨ls,kind,name,os,ns,size,vs,bs⟩
  |_,_,_,_,_=>none
 |_=>none
def Cz:kG StV where
 dec:=ET
 enc:=cz
 inv:=by
  intro c x h;unfold ET at h;split at h
  ·split at h
   ·rename_i h1 h2 h3 h4 h5;injection h with h;subst h;unfold cz;rw[←cY jr h1,←cY opR h2,←cY jr h3,←cY nZ h4,←cY (gE .u8) h5]
   ·cases h
  ·cases h
 back:=by
  intro x;unfold ET cz;simp only[fK]
theorem kb (s:StV):Cz.enc s=cz s:=rfl
theorem Uo (s:StV):(⟨s.labels,s.kind,s.name,s.opers,s.names,s.size,s.vals,s.bytes⟩:StV)=s:=rfl
abbrev OX:Ty StV:=nX Cz
def oV (l:ByteArray):PO:=match eh (aa l) with
 |.ok s=>.ret (.tup [.agg (bp (cz s)),.l (.v (.int .i64 0))])
 |.error e=>.ret (.tup [.agg (bp (cz st0)),.l (.v (.int .i64 e))])
theorem wT {α:Type}{a b:List α}{i:Nat}{r q:α}(ha:a[i]? = some r)(hb:b[i]? = some q)(ht:a.take i=b.take i)(h:r=q):a.take (i+1)=b.take (i+1):=by
 rw[List.take_add_one,List.take_add_one,ht,ha,hb,h]
theorem IE (a b:List ByteArray)(hz:b.length≤1000000):Sw f50 0 ⟨0,ax 0 [wQ.enc a,wQ.enc b],[]⟩ (oQ f50 (.ret (bv (decide (a=b))))):=by
 refine aq [] rfl ?_;by_cases hl:a.length=b.length
 case neg =>
  have hlI:¬(a.length:Int)=b.length:=by omega
  have hne:¬a=b:=fun h=>hl (by rw[h]);simp only[go_sem,hlI,hne]
 have hlI:(a.length:Int)=b.length:=by omega
 simp only[go_sem,hlI];refine bF (ι:=Nat) (fun i=>i≤a.length∧a.take i=b.take i) (fun i=>⟨0,[(0,wQ.enc a),(1,wQ.enc b),(5,iv i)],[]⟩) (fun i=>a.length-i) 0 ⟨Nat.zero_le _,rfl⟩ (wR []) ?_;rintro i ⟨hi,ht⟩;refine aw [] ?_;by_cases hlt:i<a.length
 ·have hltI:(i:Int)<a.length:=by omega
  have hltJ:(i:Int)<b.length:=by omega
  have hb:i<b.length:=by omega
  obtain⟨r,hr⟩:∃r,a[i]? = some r:=⟨_,getElem?_eq_getElem hlt⟩;obtain⟨q,hq⟩:∃q,b[i]? = some q:=⟨_,getElem?_eq_getElem hb⟩;have hba:r≠q→¬a=b:=fun h1 h=>h1 (by rw[h,hq]at hr;injection hr with hr;exact hr.symm);have ei:=wI i;simp only[go_sem,hltI,hltJ];refine sD mixed [] [] ?_;by_cases h1:r=q
  case neg =>
   have hne:=hba h1;simp only[go_sem,hr,hq,hlt,hb,hltI,hltJ,h1,hne]
  simp only[go_sem,hr,hq,hlt,hb,hltI,hltJ,eq_true h1,ei];exact⟨i+1,⟨hlt,wT hr hq ht h1⟩,by omega,wR []⟩
 ·obtain rfl:i=a.length:=by omega
  have hI:¬(a.length:Int)<a.length:=by omega
  have he:a=b:=by rw[take_length,hl,take_length]at ht;exact ht
  simp only[go_sem,hI,eq_true he]
abbrev Rx:am prog 50 :=
 mz2 func50 (wQ) (wQ) ((fun _ b=>b.length≤1000000)) ((fun a b=>.ret (bv (decide (a=b))))) (asP fun a b hz=>IE a b hz)
theorem ID (a b:List OpV)(hz:b.length≤1000000):Sw f51 0 ⟨0,ax 0 [IV.enc a,IV.enc b],[]⟩ (oQ f51 (.ret (bv (decide (a=b))))):=by
 refine aq [] rfl ?_;by_cases hl:a.length=b.length
 case neg =>
  have hlI:¬(a.length:Int)=b.length:=by omega
  have hne:¬a=b:=fun h=>hl (by rw[h]);simp only[go_sem,hlI,hne]
 have hlI:(a.length:Int)=b.length:=by omega
 simp only[go_sem,hlI];refine bF (ι:=Nat) (fun i=>i≤a.length∧a.take i=b.take i) (fun i=>⟨0,[(0,IV.enc a),(1,IV.enc b),(5,iv i)],[]⟩) (fun i=>a.length-i) 0 ⟨Nat.zero_le _,rfl⟩ (wR []) ?_;rintro i ⟨hi,ht⟩;refine aw [] ?_;by_cases hlt:i<a.length
 ·have hltI:(i:Int)<a.length:=by omega
  have hltJ:(i:Int)<b.length:=by omega
  have hb:i<b.length:=by omega
  obtain⟨r,hr⟩:∃r,a[i]? = some r:=⟨_,getElem?_eq_getElem hlt⟩;obtain⟨q,hq⟩:∃q,b[i]? = some q:=⟨_,getElem?_eq_getElem hb⟩;have hba:r≠q→¬a=b:=fun h1 h=>h1 (by rw[h,hq]at hr;injection hr with hr;exact hr.symm);have ei:=wI i;simp only[go_sem,hltI,hltJ];refine sD mixed [] [] ?_;by_cases h1:r=q
  case neg =>
   have hne:=hba h1;have hd:decide (r=q)=false:=decide_eq_false h1;simp only[go_sem,hr,hq,hlt,hb,hltI,hltJ,ap,opE,↓cy,hd,hne]
  have hd:decide (r=q)=true:=decide_eq_true h1;simp only[go_sem,hr,hq,hlt,hb,hltI,hltJ,ap,opE,↓cy,hd,ei];exact⟨i+1,⟨hlt,wT hr hq ht h1⟩,by omega,wR []⟩
 ·obtain rfl:i=a.length:=by omega
  have hI:¬(a.length:Int)<a.length:=by omega
  have he:a=b:=by rw[take_length,hl,take_length]at ht;exact ht
  simp only[go_sem,hI,eq_true he]
abbrev OF:am prog 51 :=
 mz2 func51 (IV) (IV) ((fun _ b=>b.length≤1000000)) ((fun a b=>.ret (bv (decide (a=b))))) (asP fun a b hz=>ID a b hz)
deriving instance DecidableEq for Val
deriving instance DecidableEq for StV
theorem JT (l:List Int):bH kg ((l.map (gE .u8).enc).map bp)=some l:=by
 rw[List.map_map];exact gW (d:=kg) (e:=bp∘(gE .u8).enc) (fun _=>rfl) l
theorem cR (l:List Int):bH kg ((l.map fun z=>[D.v (Value.int .u8 z)]).map bp)=some l:=JT l
structure yS (s:StV):Prop where
 labels:s.labels.length≤1000000
 names:s.names.length≤1000000
 opers:s.opers.length≤1000000
 vals:s.vals.length≤1000000
 bytes:∀z∈s.bytes,0≤z∧z≤255
theorem BG {a b:List Int}(ha:∀z∈a,0≤z∧z≤255)(hb:∀z∈b,0≤z∧z≤255)(h:ao a=ao b):a=b:=by
 rw[←bB ha,←bB hb,h]
def j8 (s:StV):Blk:=⟨true,41,8,[bp (cz s)]⟩
theorem Ry (a b:StV)(ha:yS a)(hb:yS b):Sw f20 0 ⟨0,ax 0 [OX.enc a,OX.enc b],[]⟩ (oQ f20 (.ret (bv (decide (a=b))))):=by
 refine aq [⟨_,Rx⟩,⟨_,OF⟩] rfl ?_;have l1:=hb.labels;have l2:=hb.names;have l3:=hb.opers;have hD:∀l:List ByteArray,dc jr.dec (l.map jr.enc)=some l:=fK jr;simp only[jr]at hD;by_cases c1:a.kind=b.kind
 case neg =>
  have hne:¬a=b:=fun h=>c1 (by rw[h]);simp only[go_sem,kb,cz,append_eq,l1,l2,l3,cR,hD,c1,hne]
 by_cases c2:a.size=b.size
 case neg =>
  have hne:¬a=b:=fun h=>c2 (by rw[h]);simp only[go_sem,kb,cz,append_eq,l1,l2,l3,cR,hD,eq_true c1,c2,hne]
 by_cases c3:a.name=b.name
 case neg =>
  have hne:¬a=b:=fun h=>c3 (by rw[h]);simp only[go_sem,kb,cz,append_eq,l1,l2,l3,cR,hD,eq_true c1,eq_true c2,c3,hne]
 by_cases c4:(a.vals.length:Int)=b.vals.length
 case neg =>
  have hne:¬a=b:=fun h=>c4 (by rw[h]);simp only[go_sem,kb,cz,append_eq,l1,l2,l3,cR,hD,eq_true c1,eq_true c2,eq_true c3,c4,hne]
 by_cases c5:ao a.bytes=ao b.bytes
 case neg =>
  have hne:¬a=b:=fun h=>c5 (by rw[h]);simp only[go_sem,kb,cz,append_eq,l1,l2,l3,cR,hD,eq_true c1,eq_true c2,eq_true c3,eq_true c4,c5,hne]
 by_cases c6:a.labels=b.labels
 case neg =>
  have hne:¬a=b:=fun h=>c6 (by rw[h]);simp only[go_sem,kb,cz,append_eq,l1,l2,l3,cR,hD,eq_true c1,eq_true c2,eq_true c3,eq_true c4,eq_true c5,c6,hne]
 by_cases c7:a.names=b.names
 case neg =>
  have hne:¬a=b:=fun h=>c7 (by rw[h]);simp only[go_sem,kb,cz,append_eq,l1,l2,l3,cR,hD,eq_true c1,eq_true c2,eq_true c3,eq_true c4,eq_true c5,eq_true c6,c7,hne]
 by_cases c8:a.opers=b.opers
 case neg =>
  have hne:¬a=b:=fun h=>c8 (by rw[h]);simp only[go_sem,kb,cz,append_eq,l1,l2,l3,cR,hD,eq_true c1,eq_true c2,eq_true c3,eq_true c4,eq_true c5,eq_true c6,eq_true c7,c8,hne]
 simp only[go_sem,kb,cz,append_eq,l1,l2,l3,cR,hD,eq_true c1,eq_true c2,eq_true c3,eq_true c4,eq_true c5,eq_true c6,eq_true c7,eq_true c8];refine bF (ι:=Nat) (fun i=>i≤a.vals.length∧a.vals.take i=b.vals.take i) (fun i=>⟨2,[(2,pv 0 0 0),(3,pv 1 0 0),(5,iv i)],aC 0 [j8 a,j8 b]⟩) (fun i=>a.vals.length-i) 0 ⟨Nat.zero_le _,rfl⟩ (Wk.renL [0,16] (by simp) (by simp) (by decide) rfl rfl) ?_;rintro i ⟨hi,ht⟩;refine aw [] ?_;have hl:a.vals.length=b.vals.length:=by omega
 have hz:=ha.vals;by_cases hlt:i<a.vals.length
 ·have hltI:(i:Int)<a.vals.length:=by omega
  have hltJ:(i:Int)<b.vals.length:=by omega
  have hb:i<b.vals.length:=by omega
  obtain⟨r,hr⟩:∃r,a.vals[i]? = some r:=⟨_,getElem?_eq_getElem hlt⟩;obtain⟨q,hq⟩:∃q,b.vals[i]? = some q:=⟨_,getElem?_eq_getElem hb⟩;have hba:r≠q→¬a=b:=fun h1 h=>h1 (by rw[h,hq]at hr;injection hr with hr;exact hr.symm);have ei:=wI i;simp only[go_sem,kb,cz,append_eq,l1,l2,l3,cR,hD,j8,hltI];refine sD mixed [] [] ?_;by_cases h1:r.add=q.add
  case neg =>
   have hne:=hba (fun h=>h1 (by rw[h]));simp only[go_sem,kb,cz,append_eq,l1,l2,l3,cR,hD,j8,hr,hq,hlt,hb,hltI,hltJ,nZ,gC,kz,eU,iG,fN,h1,hne,Bool.false_and]
  by_cases h2:r.plus=q.plus
  case neg =>
   have hne:=hba (fun h=>h2 (by rw[h]));simp only[go_sem,kb,cz,append_eq,l1,l2,l3,cR,hD,j8,hr,hq,hlt,hb,hltI,hltJ,nZ,gC,kz,eU,iG,fN,eq_true h1,h2,hne,Bool.false_and]
  by_cases h3:r.minus=q.minus
  case neg =>
   have hne:=hba (fun h=>h3 (by rw[h]));simp only[go_sem,kb,cz,append_eq,l1,l2,l3,cR,hD,j8,hr,hq,hlt,hb,hltI,hltJ,nZ,gC,kz,eU,iG,fN,eq_true h1,eq_true h2,h3,hne,Bool.false_and]
  simp only[go_sem,kb,cz,append_eq,l1,l2,l3,cR,hD,j8,hr,hq,hlt,hb,hltI,hltJ,nZ,gC,kz,eU,iG,fN,eq_true h1,eq_true h2,eq_true h3,ei];have hrq:r=q:=by cases r;cases q;simp only at h1 h2 h3;rw[h1,h2,h3]
  exact⟨i+1,⟨hlt,wT hr hq ht hrq⟩,by omega,Wk.renL [0,1] (by simp) (by simp) (by decide) rfl rfl⟩
 ·obtain rfl:i=a.vals.length:=by omega
  have hI:¬(a.vals.length:Int)<a.vals.length:=by omega
  have hv:a.vals=b.vals:=by rw[take_length,hl,take_length]at ht;exact ht
  have he:a=b:=by
   have e5:=BG ha.bytes hb.bytes c5;cases a;cases b;simp only at c1 c2 c3 c6 c7 c8 hv e5;subst c1 c2 c3 c6 c7 c8 hv e5;rfl
  simp only[go_sem,kb,cz,append_eq,l1,l2,l3,cR,hD,j8,hI,eq_true he]
abbrev UO:am prog 20 :=
 mz2 func20 (OX) (OX) ((fun a b=>yS a∧yS b)) ((fun a b=>.ret (bv (decide (a=b))))) (asP fun a b h=>Ry a b h.1 h.2)
end Go.Proofs.YtnhbidpdadkcjaaGreatDoor
