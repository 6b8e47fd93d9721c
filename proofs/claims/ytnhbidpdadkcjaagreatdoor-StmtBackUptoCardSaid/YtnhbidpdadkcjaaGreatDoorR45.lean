import Derived.Test.YtnhbidpdadkcjaaGreatDoorR44
open Go.RowKit
set_option linter.unusedVariables false
set_option linter.unusedSimpArgs false
set_option maxRecDepth 100000
set_option maxHeartbeats 8000000
open List (getElem?_eq_getElem take_length append_eq)
namespace Go.Proofs.YtnhbidpdadkcjaaGreatDoor
open Tryz
def aR (s:StV):List D:=[.sd 1 (s.labels.map dr.enc),.v (.int .i64 s.kind),.v (.string s.name),.sd 15 (s.opers.map opR.enc),.sd 1 (s.names.map dr.enc),.v (.int .i64 s.size),.sd 3 (s.vals.map kl.enc),.sd 1 (s.bytes.map (fU .u8).enc)]
def TX:List D→Option StV
 |[.sd 1 ls,.v (.int .i64 kind),.v (.string name),.sd 15 os,.sd 1 ns,.v (.int .i64 size),.sd 3 vs,.sd 1 bs] =>
  match df dr.dec ls,df opR.dec os,df dr.dec ns,df kl.dec vs,df (fU .u8).dec bs with
  |some ls,some os,some ns,some vs,some bs=>some ⟨ls,kind,name,os,ns,size,vs,bs⟩
  |_,_,_,_,_=>none
 |_=>none
def AU:mT StV where
 dec:=TX
 enc:=aR
 inv:=by
  intro c x h;unfold TX at h;split at h
  ·split at h
   ·rename_i h1 h2 h3 h4 h5;injection h with h;subst h;unfold aR;rw[←dW dr h1,←dW opR h2,←dW dr h3,←dW kl h4,←dW (fU .u8) h5]
   ·cases h
  ·cases h
 back:=by
  intro x;unfold TX aR;simp only[dX]
theorem bD (s:StV):AU.enc s=aR s:=rfl
theorem Y9 (s:StV):(⟨s.labels,s.kind,s.name,s.opers,s.names,s.size,s.vals,s.bytes⟩:StV)=s:=rfl
abbrev mS:Ty StV:=ln AU
def qJ (l:ByteArray):PO:=match gl (aa l) with
 |.ok s=>.ret (.tup [.agg (bu (aR s)),.l (.v (.int .i64 0))])
 |.error e=>.ret (.tup [.agg (bu (aR st0)),.l (.v (.int .i64 e))])
theorem An {α:Type}{a b:List α}{i:Nat}{r q:α}(ha:a[i]? = some r)(hb:b[i]? = some q)(ht:a.take i=b.take i)(h:r=q):a.take (i+1)=b.take (i+1):=by
 rw[List.take_add_one,List.take_add_one,ht,ha,hb,h]
abbrev Kc:Ty (List Val):=tSl 3 kl
theorem MG (a b:List ByteArray)(hz:b.length≤1000000):Sw f50 0 ⟨0,aB 0 [oT.enc a,oT.enc b],[]⟩ (oQ f50 (.ret (bv (decide (a=b))))):=by
 refine aq [] rfl ?_;by_cases hl:a.length=b.length
 case neg =>
  have hlI:¬(a.length:Int)=b.length:=by omega
  have hne:¬a=b:=fun h=>hl (by rw[h]);simp only[go_sem,hlI,hne]
 have hlI:(a.length:Int)=b.length:=by omega
 simp only[go_sem,hlI];refine ba (ι:=Nat) (fun i=>i≤a.length∧a.take i=b.take i) (fun i=>⟨0,[(0,oT.enc a),(1,oT.enc b),(5,iv i)],[]⟩) (fun i=>a.length-i) 0 ⟨Nat.zero_le _,rfl⟩ (wR []) ?_;rintro i ⟨hi,ht⟩;refine aw [] ?_;by_cases hlt:i<a.length
 ·have hltI:(i:Int)<a.length:=by omega
  have hltJ:(i:Int)<b.length:=by omega
  have hb:i<b.length:=by omega
  obtain⟨r,hr⟩:∃r,a[i]? = some r:=⟨_,getElem?_eq_getElem hlt⟩;obtain⟨q,hq⟩:∃q,b[i]? = some q:=⟨_,getElem?_eq_getElem hb⟩;have hba:r≠q→¬a=b:=fun h1 h=>h1 (by rw[h,hq]at hr;injection hr with hr;exact hr.symm);have ei:=wI i;simp only[go_sem,hltI,hltJ];refine sD mixed [] [] ?_;by_cases h1:r=q
  case neg =>
   have hne:=hba h1;simp only[go_sem,hr,hq,hlt,hb,hltI,hltJ,h1,hne]
  simp only[go_sem,hr,hq,hlt,hb,hltI,hltJ,eq_true h1,ei];exact⟨i+1,⟨hlt,An hr hq ht h1⟩,by omega,wR []⟩
 ·obtain rfl:i=a.length:=by omega
  have hI:¬(a.length:Int)<a.length:=by omega
  have he:a=b:=by rw[take_length,hl,take_length]at ht;exact ht
  simp only[go_sem,hI,eq_true he]
abbrev WD:ap prog 50 :=
 mz2 func50 (oT) (oT) ((fun _ b=>b.length≤1000000)) ((fun a b=>.ret (bv (decide (a=b))))) (asP fun a b hz=>MG a b hz)
theorem MF (a b:List OpV)(hz:b.length≤1000000):Sw f51 0 ⟨0,aB 0 [xe.enc a,xe.enc b],[]⟩ (oQ f51 (.ret (bv (decide (a=b))))):=by
 refine aq [] rfl ?_;by_cases hl:a.length=b.length
 case neg =>
  have hlI:¬(a.length:Int)=b.length:=by omega
  have hne:¬a=b:=fun h=>hl (by rw[h]);simp only[go_sem,hlI,hne]
 have hlI:(a.length:Int)=b.length:=by omega
 simp only[go_sem,hlI];refine ba (ι:=Nat) (fun i=>i≤a.length∧a.take i=b.take i) (fun i=>⟨0,[(0,xe.enc a),(1,xe.enc b),(5,iv i)],[]⟩) (fun i=>a.length-i) 0 ⟨Nat.zero_le _,rfl⟩ (wR []) ?_;rintro i ⟨hi,ht⟩;refine aw [] ?_;by_cases hlt:i<a.length
 ·have hltI:(i:Int)<a.length:=by omega
  have hltJ:(i:Int)<b.length:=by omega
  have hb:i<b.length:=by omega
  obtain⟨r,hr⟩:∃r,a[i]? = some r:=⟨_,getElem?_eq_getElem hlt⟩;obtain⟨q,hq⟩:∃q,b[i]? = some q:=⟨_,getElem?_eq_getElem hb⟩;have hba:r≠q→¬a=b:=fun h1 h=>h1 (by rw[h,hq]at hr;injection hr with hr;exact hr.symm);have ei:=wI i;simp only[go_sem,hltI,hltJ];refine sD mixed [] [] ?_;by_cases h1:r=q
  case neg =>
   have hne:=hba h1;have hd:decide (r=q)=false:=decide_eq_false h1;simp only[go_sem,hr,hq,hlt,hb,hltI,hltJ,ah,opE,↓aH,hd,hne]
  have hd:decide (r=q)=true:=decide_eq_true h1;simp only[go_sem,hr,hq,hlt,hb,hltI,hltJ,ah,opE,↓aH,hd,ei];exact⟨i+1,⟨hlt,An hr hq ht h1⟩,by omega,wR []⟩
 ·obtain rfl:i=a.length:=by omega
  have hI:¬(a.length:Int)<a.length:=by omega
  have he:a=b:=by rw[take_length,hl,take_length]at ht;exact ht
  simp only[go_sem,hI,eq_true he]
abbrev TO:ap prog 51 :=
 mz2 func51 (xe) (xe) ((fun _ b=>b.length≤1000000)) ((fun a b=>.ret (bv (decide (a=b))))) (asP fun a b hz=>MF a b hz)
deriving instance DecidableEq for Val
deriving instance DecidableEq for StV
theorem N8 (l:List Int):aZ lL ((l.map (fU .u8).enc).map bu)=some l:=by
 rw[List.map_map];exact jq (d:=lL) (e:=bu∘(fU .u8).enc) (fun _=>rfl) l
theorem dl (l:List Int):aZ lL ((l.map fun z=>[D.v (Value.int .u8 z)]).map bu)=some l:=N8 l
structure Nx (s:StV):Prop where
 labels:s.labels.length≤1000000
 names:s.names.length≤1000000
 opers:s.opers.length≤1000000
 vals:s.vals.length≤1000000
 bytes:∀z∈s.bytes,0≤z∧z≤255
theorem Fk {a b:List Int}(ha:∀z∈a,0≤z∧z≤255)(hb:∀z∈b,0≤z∧z≤255)(h:aj a=aj b):a=b:=by
 rw[←bj ha,←bj hb,h]
def dt (s:StV):Blk:=⟨true,41,8,[bu (aR s)]⟩
theorem WE (a b:StV)(ha:Nx a)(hb:Nx b):Sw f20 0 ⟨0,aB 0 [mS.enc a,mS.enc b],[]⟩ (oQ f20 (.ret (bv (decide (a=b))))):=by
 refine aq [⟨_,WD⟩,⟨_,TO⟩] rfl ?_;have l1:=hb.labels;have l2:=hb.names;have l3:=hb.opers;have hD:∀l:List ByteArray,df dr.dec (l.map dr.enc)=some l:=dX dr;simp only[dr]at hD;by_cases c1:a.kind=b.kind
 case neg =>
  have hne:¬a=b:=fun h=>c1 (by rw[h]);simp only[go_sem,bD,aR,append_eq,l1,l2,l3,dl,hD,c1,hne]
 by_cases c2:a.size=b.size
 case neg =>
  have hne:¬a=b:=fun h=>c2 (by rw[h]);simp only[go_sem,bD,aR,append_eq,l1,l2,l3,dl,hD,eq_true c1,c2,hne]
 by_cases c3:a.name=b.name
 case neg =>
  have hne:¬a=b:=fun h=>c3 (by rw[h]);simp only[go_sem,bD,aR,append_eq,l1,l2,l3,dl,hD,eq_true c1,eq_true c2,c3,hne]
 by_cases c4:(a.vals.length:Int)=b.vals.length
 case neg =>
  have hne:¬a=b:=fun h=>c4 (by rw[h]);simp only[go_sem,bD,aR,append_eq,l1,l2,l3,dl,hD,eq_true c1,eq_true c2,eq_true c3,c4,hne]
 by_cases c5:aj a.bytes=aj b.bytes
 case neg =>
  have hne:¬a=b:=fun h=>c5 (by rw[h]);simp only[go_sem,bD,aR,append_eq,l1,l2,l3,dl,hD,eq_true c1,eq_true c2,eq_true c3,eq_true c4,c5,hne]
 by_cases c6:a.labels=b.labels
 case neg =>
  have hne:¬a=b:=fun h=>c6 (by rw[h]);simp only[go_sem,bD,aR,append_eq,l1,l2,l3,dl,hD,eq_true c1,eq_true c2,eq_true c3,eq_true c4,eq_true c5,c6,hne]
 by_cases c7:a.names=b.names
 case neg =>
  have hne:¬a=b:=fun h=>c7 (by rw[h]);simp only[go_sem,bD,aR,append_eq,l1,l2,l3,dl,hD,eq_true c1,eq_true c2,eq_true c3,eq_true c4,eq_true c5,eq_true c6,c7,hne]
 by_cases c8:a.opers=b.opers
 case neg =>
  have hne:¬a=b:=fun h=>c8 (by rw[h]);simp only[go_sem,bD,aR,append_eq,l1,l2,l3,dl,hD,eq_true c1,eq_true c2,eq_true c3,eq_true c4,eq_true c5,eq_true c6,eq_true c7,c8,hne]
 simp only[go_sem,bD,aR,append_eq,l1,l2,l3,dl,hD,eq_true c1,eq_true c2,eq_true c3,eq_true c4,eq_true c5,eq_true c6,eq_true c7,eq_true c8];refine ba (ι:=Nat) (fun i=>i≤a.vals.length∧a.vals.take i=b.vals.take i) (fun i=>⟨2,[(2,pv 0 0 0),(3,pv 1 0 0),(5,iv i)],aL 0 [dt a,dt b]⟩) (fun i=>a.vals.length-i) 0 ⟨Nat.zero_le _,rfl⟩ (Wk.renL [0,16] (by simp) (by simp) (by decide) rfl rfl) ?_;rintro i ⟨hi,ht⟩;refine aw [] ?_;have hl:a.vals.length=b.vals.length:=by omega
 have hz:=ha.vals;by_cases hlt:i<a.vals.length
 ·have hltI:(i:Int)<a.vals.length:=by omega
  have hltJ:(i:Int)<b.vals.length:=by omega
  have hb:i<b.vals.length:=by omega
  obtain⟨r,hr⟩:∃r,a.vals[i]? = some r:=⟨_,getElem?_eq_getElem hlt⟩;obtain⟨q,hq⟩:∃q,b.vals[i]? = some q:=⟨_,getElem?_eq_getElem hb⟩;have hba:r≠q→¬a=b:=fun h1 h=>h1 (by rw[h,hq]at hr;injection hr with hr;exact hr.symm);have ei:=wI i;simp only[go_sem,bD,aR,append_eq,l1,l2,l3,dl,hD,dt,hltI];refine sD mixed [] [] ?_;by_cases h1:r.add=q.add
  case neg =>
   have hne:=hba (fun h=>h1 (by rw[h]));simp only[go_sem,bD,aR,append_eq,l1,l2,l3,dl,hD,dt,hr,hq,hlt,hb,hltI,hltJ,kl,kR,oC,jt,jW,iT,h1,hne,Bool.false_and]
  by_cases h2:r.plus=q.plus
  case neg =>
   have hne:=hba (fun h=>h2 (by rw[h]));simp only[go_sem,bD,aR,append_eq,l1,l2,l3,dl,hD,dt,hr,hq,hlt,hb,hltI,hltJ,kl,kR,oC,jt,jW,iT,eq_true h1,h2,hne,Bool.false_and]
  by_cases h3:r.minus=q.minus
  case neg =>
   have hne:=hba (fun h=>h3 (by rw[h]));simp only[go_sem,bD,aR,append_eq,l1,l2,l3,dl,hD,dt,hr,hq,hlt,hb,hltI,hltJ,kl,kR,oC,jt,jW,iT,eq_true h1,eq_true h2,h3,hne,Bool.false_and]
  simp only[go_sem,bD,aR,append_eq,l1,l2,l3,dl,hD,dt,hr,hq,hlt,hb,hltI,hltJ,kl,kR,oC,jt,jW,iT,eq_true h1,eq_true h2,eq_true h3,ei];have hrq:r=q:=by cases r;cases q;simp only at h1 h2 h3;rw[h1,h2,h3]
  exact⟨i+1,⟨hlt,An hr hq ht hrq⟩,by omega,Wk.renL [0,1] (by simp) (by simp) (by decide) rfl rfl⟩
 ·obtain rfl:i=a.vals.length:=by omega
  have hI:¬(a.vals.length:Int)<a.vals.length:=by omega
  have hv:a.vals=b.vals:=by rw[take_length,hl,take_length]at ht;exact ht
  have he:a=b:=by
   have e5:=Fk ha.bytes hb.bytes c5;cases a;cases b;simp only at c1 c2 c3 c6 c7 c8 hv e5;subst c1 c2 c3 c6 c7 c8 hv e5;rfl
  simp only[go_sem,bD,aR,append_eq,l1,l2,l3,dl,hD,dt,hI,eq_true he]
abbrev Zz:ap prog 20 :=
 mz2 func20 (mS) (mS) ((fun a b=>Nx a∧Nx b)) ((fun a b=>.ret (bv (decide (a=b))))) (asP fun a b h=>WE a b h.1 h.2)
end Go.Proofs.YtnhbidpdadkcjaaGreatDoor
