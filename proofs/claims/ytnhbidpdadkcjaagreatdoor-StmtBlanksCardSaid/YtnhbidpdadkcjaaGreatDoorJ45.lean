import Derived.Test.YtnhbidpdadkcjaaGreatDoorJ44
import Derived.Test.YtnhbidpdadkcjaaGreatDoorJ42
set_option linter.unusedVariables false
set_option linter.unusedSimpArgs false
set_option maxRecDepth 100000
set_option maxHeartbeats 8000000
namespace Go.Proofs.YtnhbidpdadkcjaaGreatDoor
section
open Go.RowKit
def bN (s:StV):List D:=[.sd 1 (s.labels.map dQ.enc),.v (.int .i64 s.kind),.v (.string s.name),.sd 15 (s.opers.map opR.enc),.sd 1 (s.names.map dQ.enc),.v (.int .i64 s.size),.sd 3 (s.vals.map lR.enc),.sd 1 (s.bytes.map (gj .u8).enc)]
def PT:List D→Option StV
 | [.sd 1 ls,.v (.int .i64 kind),.v (.string name),.sd 15 os,.sd 1 ns,.v (.int .i64 size),.sd 3 vs,.sd 1 bs] =>
  match dT dQ.dec ls,dT opR.dec os,dT dQ.dec ns,dT lR.dec vs,dT (gj .u8).dec bs with
  | some ls,some os,some ns,some vs,some bs=>some ⟨ls,kind,name,os,ns,size,vs,bs⟩
  | _,_,_,_,_=>none
 | _=>none
def Bq:ov StV where
 dec:=PT
 enc:=bN
 inv:=by
  intro c x h
  unfold PT at h
  split at h
  ·split at h
   ·rename_i h1 h2 h3 h4 h5
    injection h with h
    subst h
    unfold bN
    rw [← eN dQ h1,← eN opR h2,← eN dQ h3,← eN lR h4,← eN (gj .u8) h5]
   ·cases h
  ·cases h
 back:=by
  intro x
  unfold PT bN
  simp only [ac]
theorem dt (s:StV):Bq.enc s=bN s:=rfl
theorem stm_eta (s:StV):(⟨s.labels,s.kind,s.name,s.opers,s.names,s.size,s.vals,s.bytes⟩:StV)=s:=rfl
abbrev lh:Ty StV:=jr Bq
def nM (l:ByteArray):PO:=match fi (ab l) with
 | .ok s=>.ret (.tup [.agg (cG (bN s)),.l (.v (.int .i64 0))])
 | .error e=>.ret (.tup [.agg (cG (bN st0)),.l (.v (.int .i64 e))])
end
section
open Go.RowKit
theorem yy {α:Type} {a b:List α} {i:Nat} {r q:α} (ha:a[i]? = some r) (hb:b[i]? = some q) (ht:a.take i=b.take i) (h:r=q):a.take (i+1)=b.take (i+1):=by
 rw [List.take_add_one,List.take_add_one,ht,ha,hb,h]
abbrev zW:Ty (List Val):=tSl 3 lR
theorem Ja (a b:List ByteArray) (hz:b.length≤1000000):SW Tryz.prog ⟨none,0⟩ Tryz.f50.ntmps (Tryz.f50.body.getD .skip) ⟨0,aC 0 [jm.enc a,jm.enc b],[]⟩ (es Tryz.prog Tryz.f50.results.toList (.ret (bv (decide (a=b))))):=by
 refine aa (ctx:=[]) 4000 ?_
 rw [Tryz.ntmps50,Tryz.results50]
 simp only [Tryz.f50,Option.getD_some,aC]
 by_cases hl:a.length=b.length
 case neg =>
  have hlI:¬(a.length:Int)=b.length:=by omega
  have hne:¬a=b:=fun h=>hl (by rw [h])
  simp only [go_sem,hlI,hne]
 have hlI:(a.length:Int)=b.length:=by omega
 simp only [go_sem,hlI]
 refine cW (ι:=Nat) (fun i=>i≤a.length∧a.take i=b.take i) (fun i=>⟨0,[(0,jm.enc a),(1,jm.enc b),(5,iv i)],[]⟩) (fun i=>a.length-i) 0 ⟨Nat.zero_le _,rfl⟩ (Wk.renL [] (by simp) (by simp) (by simp) rfl rfl) ?_
 rintro i ⟨hi,ht⟩
 refine aa (ctx:=[]) 4000 ?_
 by_cases hlt:i<a.length
 ·have hltI:(i:Int)<a.length:=by omega
  have hltJ:(i:Int)<b.length:=by omega
  have hb:i<b.length:=by omega
  obtain ⟨r,hr⟩:∃ r,a[i]? = some r:=⟨_,List.getElem?_eq_getElem hlt⟩
  obtain ⟨q,hq⟩:∃ q,b[i]? = some q:=⟨_,List.getElem?_eq_getElem hb⟩
  have hba:r≠q→¬a=b:=fun h1 h=>h1 (by rw [h,hq] at hr;injection hr with hr;exact hr.symm)
  have ei:IntKind.i64.wrap ((i:Int)+1)=((i+1:Nat):Int):=by rw [IntKind.wrap_i64];omega
  simp only [go_sem,hltI,hltJ]
  refine bI (ctx:=[]) mixed [] (by kernel_rfl) ?_
  by_cases h1:r=q
  case neg =>
   have hne:=hba h1
   simp only [go_sem,hr,hq,hlt,hb,hltI,hltJ,dQ,h1,hne]
  simp only [go_sem,hr,hq,hlt,hb,hltI,hltJ,dQ,eq_true h1,ei]
  exact ⟨i+1,⟨hlt,yy hr hq ht h1⟩,by omega,Wk.renL [] (by simp) (by simp) (by simp) rfl rfl⟩
 ·obtain rfl:i=a.length:=by omega
  have hI:¬(a.length:Int)<a.length:=by omega
  have he:a=b:=by rw [List.take_length,hl,List.take_length] at ht;exact ht
  simp only [go_sem,hI,eq_true he]
def Fp:bi Tryz.prog 50 :=
 mk2 _ _ _ Tryz.func50 rfl (fun _ _=>by go_simp) (jm) (jm) ((fun _ b=>b.length≤1000000)) ((fun a b=>.ret (bv (decide (a=b))))) (by rw [Tryz.ntmps50];decide) (fun a b hz=>Ja a b hz)
theorem eD {id:Nat} {h:ah} {args:List AV}:(Fp).run id h args=bT (cg (jm) (jm) ((fun _ b=>b.length≤1000000))) (fun x=>((fun a b=>.ret (bv (decide (a=b))))) x.1 x.2) h args:=rfl
theorem eC {id:Nat} {h:ah} {args:List AV}:(Fp).pan id h args=bU (cg (jm) (jm) ((fun _ b=>b.length≤1000000))) (fun x=>((fun a b=>.ret (bv (decide (a=b))))) x.1 x.2) h args:=rfl
theorem I9 (a b:List OpV) (hz:b.length≤1000000):SW Tryz.prog ⟨none,0⟩ Tryz.f51.ntmps (Tryz.f51.body.getD .skip) ⟨0,aC 0 [qa.enc a,qa.enc b],[]⟩ (es Tryz.prog Tryz.f51.results.toList (.ret (bv (decide (a=b))))):=by
 refine aa (ctx:=[]) 4000 ?_
 rw [Tryz.ntmps51,Tryz.results51]
 simp only [Tryz.f51,Option.getD_some,aC]
 by_cases hl:a.length=b.length
 case neg =>
  have hlI:¬(a.length:Int)=b.length:=by omega
  have hne:¬a=b:=fun h=>hl (by rw [h])
  simp only [go_sem,hlI,hne]
 have hlI:(a.length:Int)=b.length:=by omega
 simp only [go_sem,hlI]
 refine cW (ι:=Nat) (fun i=>i≤a.length∧a.take i=b.take i) (fun i=>⟨0,[(0,qa.enc a),(1,qa.enc b),(5,iv i)],[]⟩) (fun i=>a.length-i) 0 ⟨Nat.zero_le _,rfl⟩ (Wk.renL [] (by simp) (by simp) (by simp) rfl rfl) ?_
 rintro i ⟨hi,ht⟩
 refine aa (ctx:=[]) 4000 ?_
 by_cases hlt:i<a.length
 ·have hltI:(i:Int)<a.length:=by omega
  have hltJ:(i:Int)<b.length:=by omega
  have hb:i<b.length:=by omega
  obtain ⟨r,hr⟩:∃ r,a[i]? = some r:=⟨_,List.getElem?_eq_getElem hlt⟩
  obtain ⟨q,hq⟩:∃ q,b[i]? = some q:=⟨_,List.getElem?_eq_getElem hb⟩
  have hba:r≠q→¬a=b:=fun h1 h=>h1 (by rw [h,hq] at hr;injection hr with hr;exact hr.symm)
  have ei:IntKind.i64.wrap ((i:Int)+1)=((i+1:Nat):Int):=by rw [IntKind.wrap_i64];omega
  simp only [go_sem,hltI,hltJ]
  refine bI (ctx:=[]) mixed [] (by kernel_rfl) ?_
  by_cases h1:r=q
  case neg =>
   have hne:=hba h1
   have hd:decide (r=q)=false:=decide_eq_false h1
   simp only [go_sem,hr,hq,hlt,hb,hltI,hltJ,bh,opE,↓dU,hd,hne]
  have hd:decide (r=q)=true:=decide_eq_true h1
  simp only [go_sem,hr,hq,hlt,hb,hltI,hltJ,bh,opE,↓dU,hd,ei]
  exact ⟨i+1,⟨hlt,yy hr hq ht h1⟩,by omega,Wk.renL [] (by simp) (by simp) (by simp) rfl rfl⟩
 ·obtain rfl:i=a.length:=by omega
  have hI:¬(a.length:Int)<a.length:=by omega
  have he:a=b:=by rw [List.take_length,hl,List.take_length] at ht;exact ht
  simp only [go_sem,hI,eq_true he]
def Bm:bi Tryz.prog 51 :=
 mk2 _ _ _ Tryz.func51 rfl (fun _ _=>by go_simp) (qa) (qa) ((fun _ b=>b.length≤1000000)) ((fun a b=>.ret (bv (decide (a=b))))) (by rw [Tryz.ntmps51];decide) (fun a b hz=>I9 a b hz)
theorem dM {id:Nat} {h:ah} {args:List AV}:(Bm).run id h args=bT (cg (qa) (qa) ((fun _ b=>b.length≤1000000))) (fun x=>((fun a b=>.ret (bv (decide (a=b))))) x.1 x.2) h args:=rfl
theorem dK {id:Nat} {h:ah} {args:List AV}:(Bm).pan id h args=bU (cg (qa) (qa) ((fun _ b=>b.length≤1000000))) (fun x=>((fun a b=>.ret (bv (decide (a=b))))) x.1 x.2) h args:=rfl
end
section
open Go.RowKit
deriving instance DecidableEq for Val
deriving instance DecidableEq for StV
theorem Kv (l:List Int):bL mh ((l.map (gj .u8).enc).map cG)=some l:=by
 rw [List.map_map]
 exact jR (d:=mh) (e:=cG∘(gj .u8).enc) (fun _=>rfl) l
theorem dZ (l:List Int):bL mh ((l.map fun z=>[D.v (Value.int .u8 z)]).map cG)=some l:=Kv l
structure vV (s:StV):Prop where
 labels:s.labels.length≤1000000
 names:s.names.length≤1000000
 opers:s.opers.length≤1000000
 vals:s.vals.length≤1000000
 bytes:∀ z∈s.bytes,0≤z∧z≤255
theorem CP {a b:List Int} (ha:∀ z∈a,0≤z∧z≤255) (hb:∀ z∈b,0≤z∧z≤255) (h:bu a=bu b):a=b:=by
 rw [← cN ha,← cN hb,h]
def eE (s:StV):Blk:=⟨true,41,8,[cG (bN s)]⟩
theorem Sk (a b:StV) (ha:vV a) (hb:vV b):SW Tryz.prog ⟨none,0⟩ Tryz.f20.ntmps (Tryz.f20.body.getD .skip) ⟨0,aC 0 [lh.enc a,lh.enc b],[]⟩ (es Tryz.prog Tryz.f20.results.toList (.ret (bv (decide (a=b))))):=by
 refine aa (ctx:=[⟨_,Fp⟩,⟨_,Bm⟩]) 4000 ?_
 rw [Tryz.ntmps20,Tryz.results20]
 simp only [Tryz.f20,Option.getD_some,aC]
 have l1:=hb.labels
 have l2:=hb.names
 have l3:=hb.opers
 have hD:∀ l:List ByteArray,dT dQ.dec (l.map dQ.enc)=some l:=ac dQ
 simp only [dQ] at hD
 by_cases c1:a.kind=b.kind
 case neg =>
  have hne:¬a=b:=fun h=>c1 (by rw [h])
  simp only [go_sem,dt,bN,List.append_eq,List.cons_append,List.nil_append,eD,eC,dM,dK,l1,l2,l3,dZ,hD,List.length_map,c1,hne]
 by_cases c2:a.size=b.size
 case neg =>
  have hne:¬a=b:=fun h=>c2 (by rw [h])
  simp only [go_sem,dt,bN,List.append_eq,List.cons_append,List.nil_append,eD,eC,dM,dK,l1,l2,l3,dZ,hD,List.length_map,eq_true c1,c2,hne]
 by_cases c3:a.name=b.name
 case neg =>
  have hne:¬a=b:=fun h=>c3 (by rw [h])
  simp only [go_sem,dt,bN,List.append_eq,List.cons_append,List.nil_append,eD,eC,dM,dK,l1,l2,l3,dZ,hD,List.length_map,eq_true c1,eq_true c2,c3,hne]
 by_cases c4:(a.vals.length:Int)=b.vals.length
 case neg =>
  have hne:¬a=b:=fun h=>c4 (by rw [h])
  simp only [go_sem,dt,bN,List.append_eq,List.cons_append,List.nil_append,eD,eC,dM,dK,l1,l2,l3,dZ,hD,List.length_map,eq_true c1,eq_true c2,eq_true c3,c4,hne]
 by_cases c5:bu a.bytes=bu b.bytes
 case neg =>
  have hne:¬a=b:=fun h=>c5 (by rw [h])
  simp only [go_sem,dt,bN,List.append_eq,List.cons_append,List.nil_append,eD,eC,dM,dK,l1,l2,l3,dZ,hD,List.length_map,eq_true c1,eq_true c2,eq_true c3,eq_true c4,c5,hne]
 by_cases c6:a.labels=b.labels
 case neg =>
  have hne:¬a=b:=fun h=>c6 (by rw [h])
  simp only [go_sem,dt,bN,List.append_eq,List.cons_append,List.nil_append,eD,eC,dM,dK,l1,l2,l3,dZ,hD,List.length_map,eq_true c1,eq_true c2,eq_true c3,eq_true c4,eq_true c5,c6,hne]
 by_cases c7:a.names=b.names
 case neg =>
  have hne:¬a=b:=fun h=>c7 (by rw [h])
  simp only [go_sem,dt,bN,List.append_eq,List.cons_append,List.nil_append,eD,eC,dM,dK,l1,l2,l3,dZ,hD,List.length_map,eq_true c1,eq_true c2,eq_true c3,eq_true c4,eq_true c5,eq_true c6,c7,hne]
 by_cases c8:a.opers=b.opers
 case neg =>
  have hne:¬a=b:=fun h=>c8 (by rw [h])
  simp only [go_sem,dt,bN,List.append_eq,List.cons_append,List.nil_append,eD,eC,dM,dK,l1,l2,l3,dZ,hD,List.length_map,eq_true c1,eq_true c2,eq_true c3,eq_true c4,eq_true c5,eq_true c6,eq_true c7,c8,hne]
 simp only [go_sem,dt,bN,List.append_eq,List.cons_append,List.nil_append,eD,eC,dM,dK,l1,l2,l3,dZ,hD,List.length_map,eq_true c1,eq_true c2,eq_true c3,eq_true c4,eq_true c5,eq_true c6,eq_true c7,eq_true c8]
 refine cW (ι:=Nat) (fun i=>i≤a.vals.length∧a.vals.take i=b.vals.take i) (fun i=>⟨2,[(2,pv 0 0 0),(3,pv 1 0 0),(5,iv i)],bB 0 [eE a,eE b]⟩) (fun i=>a.vals.length-i) 0 ⟨Nat.zero_le _,rfl⟩ (Wk.renL [0,16] (by simp) (by simp) (by decide) rfl rfl) ?_
 rintro i ⟨hi,ht⟩
 refine aa (ctx:=[]) 4000 ?_
 have hl:a.vals.length=b.vals.length:=by omega
 have hz:=ha.vals
 by_cases hlt:i<a.vals.length
 ·have hltI:(i:Int)<a.vals.length:=by omega
  have hltJ:(i:Int)<b.vals.length:=by omega
  have hb:i<b.vals.length:=by omega
  obtain ⟨r,hr⟩:∃ r,a.vals[i]? = some r:=⟨_,List.getElem?_eq_getElem hlt⟩
  obtain ⟨q,hq⟩:∃ q,b.vals[i]? = some q:=⟨_,List.getElem?_eq_getElem hb⟩
  have hba:r≠q→¬a=b:=fun h1 h=>h1 (by rw [h,hq] at hr;injection hr with hr;exact hr.symm)
  have ei:IntKind.i64.wrap ((i:Int)+1)=((i+1:Nat):Int):=by rw [IntKind.wrap_i64];omega
  simp only [go_sem,dt,bN,List.append_eq,List.cons_append,List.nil_append,eD,eC,dM,dK,l1,l2,l3,dZ,hD,List.length_map,eE,hltI]
  refine bI (ctx:=[]) mixed [] (by kernel_rfl) ?_
  by_cases h1:r.add=q.add
  case neg =>
   have hne:=hba (fun h=>h1 (by rw [h]))
   simp only [go_sem,dt,bN,List.append_eq,List.cons_append,List.nil_append,eD,eC,dM,dK,l1,l2,l3,dZ,hD,List.length_map,eE,hr,hq,hlt,hb,hltI,hltJ,lR,ln,oO,jT,kh,jq,h1,hne,Bool.false_and]
  by_cases h2:r.plus=q.plus
  case neg =>
   have hne:=hba (fun h=>h2 (by rw [h]))
   simp only [go_sem,dt,bN,List.append_eq,List.cons_append,List.nil_append,eD,eC,dM,dK,l1,l2,l3,dZ,hD,List.length_map,eE,hr,hq,hlt,hb,hltI,hltJ,lR,ln,oO,jT,kh,jq,eq_true h1,h2,hne,Bool.false_and]
  by_cases h3:r.minus=q.minus
  case neg =>
   have hne:=hba (fun h=>h3 (by rw [h]))
   simp only [go_sem,dt,bN,List.append_eq,List.cons_append,List.nil_append,eD,eC,dM,dK,l1,l2,l3,dZ,hD,List.length_map,eE,hr,hq,hlt,hb,hltI,hltJ,lR,ln,oO,jT,kh,jq,eq_true h1,eq_true h2,h3,hne,Bool.false_and]
  simp only [go_sem,dt,bN,List.append_eq,List.cons_append,List.nil_append,eD,eC,dM,dK,l1,l2,l3,dZ,hD,List.length_map,eE,hr,hq,hlt,hb,hltI,hltJ,lR,ln,oO,jT,kh,jq,eq_true h1,eq_true h2,eq_true h3,ei]
  have hrq:r=q:=by cases r;cases q;simp only at h1 h2 h3;rw [h1,h2,h3]
  exact ⟨i+1,⟨hlt,yy hr hq ht hrq⟩,by omega,Wk.renL [0,1] (by simp) (by simp) (by decide) rfl rfl⟩
 ·obtain rfl:i=a.vals.length:=by omega
  have hI:¬(a.vals.length:Int)<a.vals.length:=by omega
  have hv:a.vals=b.vals:=by rw [List.take_length,hl,List.take_length] at ht;exact ht
  have he:a=b:=by
   have e5:=CP ha.bytes hb.bytes c5
   cases a;cases b
   simp only at c1 c2 c3 c6 c7 c8 hv e5
   subst c1 c2 c3 c6 c7 c8 hv e5
   rfl
  simp only [go_sem,dt,bN,List.append_eq,List.cons_append,List.nil_append,eD,eC,dM,dK,l1,l2,l3,dZ,hD,List.length_map,eE,hI,eq_true he]
def Sj:bi Tryz.prog 20 :=
 mk2 _ _ _ Tryz.func20 rfl (fun _ _=>by go_simp) (lh) (lh) ((fun a b=>vV a∧vV b)) ((fun a b=>.ret (bv (decide (a=b))))) (by rw [Tryz.ntmps20];decide) (fun a b h=>Sk a b h.1 h.2)
theorem PJ {id:Nat} {h:ah} {args:List AV}:(Sj).run id h args=bT (cg (lh) (lh) ((fun a b=>vV a∧vV b))) (fun x=>((fun a b=>.ret (bv (decide (a=b))))) x.1 x.2) h args:=rfl
theorem PI {id:Nat} {h:ah} {args:List AV}:(Sj).pan id h args=bU (cg (lh) (lh) ((fun a b=>vV a∧vV b))) (fun x=>((fun a b=>.ret (bv (decide (a=b))))) x.1 x.2) h args:=rfl
end
end Go.Proofs.YtnhbidpdadkcjaaGreatDoor
