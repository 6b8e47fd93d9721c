import Derived.Test.YtnhbidpdadkcjaaGreatDoorJ27
import Derived.Shelf.Strings.OnBuilder
import Derived.Test.YtnhbidpdadkcjaaGreatDoorJ13
set_option linter.unusedVariables false
set_option linter.unusedSimpArgs false
set_option maxRecDepth 100000
set_option maxHeartbeats 8000000
namespace Go.Proofs.YtnhbidpdadkcjaaGreatDoor
section
open Go.RowKit Go.Shelf
def GB:Ren:=⟨fun k=>if k=156 then 41 else if k=165 then 94 else if k=166 then 64 else if k=169 then 66 else if k=240 then 129 else if k=241 then 146 else if k=276 then 176 else if k=277 then 191 else k,
 fun k=>if k=0 then 0 else if k=3 then 3 else if k=4 then 4 else if k=5 then 5 else if k=9 then 9 else if k=20 then 20 else if k=31 then 34 else if k=37 then 39 else if k=70 then 104 else if k=72 then 106 else if k=75 then 109 else if k=76 then 110 else if k=80 then 113 else if k=127 then 160 else if k=164 then 193 else k,
 fun k=>k⟩
theorem Qx:Go.Proofs.Lays.n156 Tryz.prog GB where
 mixed:=by kernel_rfl
 f156:=by kernel_rfl
 f165:=by kernel_rfl
 f166:=by kernel_rfl
 f169:=by kernel_rfl
 f240:=by kernel_rfl
 f241:=by kernel_rfl
 f276:=by kernel_rfl
 f277:=by kernel_rfl
 t0:=by kernel_rfl
 a0:=fun w=>by kernel_rfl
 z0:=fun w=>by kernel_rfl
 v0:=fun w=>by kernel_rfl
 t3:=by kernel_rfl
 a3:=fun w=>by kernel_rfl
 z3:=fun w=>by kernel_rfl
 v3:=fun w=>by kernel_rfl
 t4:=by kernel_rfl
 a4:=fun w=>by kernel_rfl
 z4:=fun w=>by kernel_rfl
 v4:=fun w=>by kernel_rfl
 t9:=by kernel_rfl
 a9:=fun w=>by kernel_rfl
 z9:=fun w=>by kernel_rfl
 v9:=fun w=>by kernel_rfl
 t20:=by kernel_rfl
 a20:=fun w=>by kernel_rfl
 z20:=fun w=>by kernel_rfl
 v20:=fun w=>by kernel_rfl
 t31:=by kernel_rfl
 a31:=fun w=>by kernel_rfl
 z31:=fun w=>by kernel_rfl
 v31:=fun w=>by kernel_rfl
 t37:=by kernel_rfl
 a37:=fun w=>by kernel_rfl
 z37:=fun w=>by kernel_rfl
 v37:=fun w=>by kernel_rfl
 t70:=by kernel_rfl
 a70:=fun w=>by kernel_rfl
 z70:=fun w=>by kernel_rfl
 v70:=fun w=>by kernel_rfl
 t72:=by kernel_rfl
 a72:=fun w=>by kernel_rfl
 z72:=fun w=>by kernel_rfl
 v72:=fun w=>by kernel_rfl
 t75:=by kernel_rfl
 a75:=fun w=>by kernel_rfl
 z75:=fun w=>by kernel_rfl
 v75:=fun w=>by kernel_rfl
 t76:=by kernel_rfl
 a76:=fun w=>by kernel_rfl
 z76:=fun w=>by kernel_rfl
 v76:=fun w=>by kernel_rfl
 t127:=by kernel_rfl
 a127:=fun w=>by kernel_rfl
 z127:=fun w=>by kernel_rfl
 v127:=fun w=>by kernel_rfl
 t164:=by kernel_rfl
 a164:=fun w=>by kernel_rfl
 z164:=fun w=>by kernel_rfl
 v164:=fun w=>by kernel_rfl
theorem jnX:Go.Proofs.Builder.Extra Tryz.prog GB where
 sizeBuilder:=by kernel_rfl
 liesBuilder:=by kernel_rfl
 t5:=by kernel_rfl
 a5:=fun w=>by kernel_rfl
 z5:=fun w=>by kernel_rfl
 v5:=fun w=>by kernel_rfl
 infoByte:=by kernel_rfl
 cellsByte:=by kernel_rfl
 sizeByte:=by kernel_rfl
 neB5:=by decide
abbrev jm:Ty (List ByteArray):=tSl 1 dQ
def lC (l:List ByteArray) (p:ByteArray):ByteArray:=⟨(Lib.join (l.map (·.data.toList)) p.data.toList).toArray⟩
def tw:bi Tryz.prog 41 :=
 Lv _ (fun _ _=>by go_simp) jm bx (fun l p=>l.length≤1000000∧(lC l p).size≤140737488355328) (fun l p=>sv (lC l p)) (fun _ _=>rfl) (fun l p hq M w u v hM hu hv=>by
  have hv':v=.string p:=hv
  subst hv'
  have hu':DRep M (.sd 1 (l.map dQ.enc)) u:=hu
  simp only [DRep] at hu'
  obtain ⟨A,cap,rfl,hc,hA⟩:=hu'
  rw [List.length_map] at hc ⊢
  have hz:(Lib.join (l.map (·.data.toList)) p.data.toList).length≤140737488355328:=by
   have:=hq.2
   unfold lC at this
   simpa [ByteArray.size] using this
  cases l with
  | nil =>
   refine (Any.strings_Join_none (ρ:=GB) Qx jnX A cap p w).mono fun e w' ⟨he,hw⟩=>⟨⟨_,he,rfl⟩,hw▸Below.refl _ _⟩
  | cons x r =>
   obtain ⟨blk,off,rfl,hat⟩:=hA (by simp)
   have e:(x::r).map dQ.enc=((x::r).map fun s=>[Value.string s]).map fun e=>e.map D.v:=by
    rw [List.map_map];rfl
   rw [e] at hat
   have hg:=um hat
   have hf:((x::r).map fun s=>[Value.string s]).flatten=(x::r).map Value.string:=by
    rw [← List.flatMap_def]
    induction (x::r) with
    | nil=>rfl
    | cons a t ih=>rw [List.flatMap_cons,ih];rfl
   rw [hf] at hg
   have hcell:∀ (j:Nat) y,(x::r)[j]? = some y→w.cell? ⟨blk,off+j,none⟩=some (.string y):=fun j y hj=>hM _ _ _ (hg j _ (by rw [List.getElem?_map,hj];rfl))
   have hblk:blk<w.heap.size:=by
    obtain ⟨q,h1,_⟩:=iN (hcell 0 x rfl)
    exact (Array.getElem?_eq_some_iff.1 h1).1
   refine (Any.strings_Join (ρ:=GB) Qx jnX blk off cap (x::r) p w hcell hblk (by have:=hq.1;omega) hc hz).mono fun e w' ⟨he,hw⟩=>⟨⟨_,he,rfl⟩,hw⟩)
theorem mQ {id:Nat} {h:ah} {args:List AV}:tw.run id h args=bT (cg jm bx (fun l p=>l.length≤1000000∧(lC l p).size≤140737488355328)) (fun x=>.ret (sv (lC x.1 x.2))) h args:=rfl
theorem mP {id:Nat} {h:ah} {args:List AV}:tw.pan id h args=bU (cg jm bx (fun l p=>l.length≤1000000∧(lC l p).size≤140737488355328)) (fun x=>.ret (sv (lC x.1 x.2))) h args:=rfl
def kl:List ByteArray→ByteArray
 | []=>emp
 | x::r=>r.foldl (fun a y=>a++gQ++y) x
theorem zA:∀ (r:List ByteArray) (x:ByteArray),(r.foldl (fun a y=>a++gQ++y) x).data.toList=x.data.toList++Lib.joinTail gQ.data.toList (r.map (·.data.toList))
 | [],x=>by simp [Lib.joinTail]
 | y::r,x=>by
  rw [List.foldl_cons,zA r]
  have e:(x++gQ++y).data.toList=x.data.toList++(gQ.data.toList++y.data.toList):=by simp [ByteArray.data_append,Array.toList_append]
  rw [e,List.map_cons]
  simp [Lib.joinTail,List.append_assoc]
theorem qs (l:List ByteArray):lC l gQ=kl l:=by
 cases l with
 | nil=>rfl
 | cons x r =>
  apply ByteArray.ext
  rw [← Array.toList_inj]
  show _=(r.foldl (fun a y=>a++gQ++y) x).data.toList
  rw [zA,← Lib.join_cons]
  rfl
end
section
open Go.RowKit
def sZ (s:ByteArray):Bool:=decide (0≤Lib.indexByte s.data.toList 44)
def qW:bi Tryz.prog 128 :=
 mk2 _ _ _ Tryz.func128 rfl (fun _ _=>by go_simp) (bx) (bx) ((fun _ p=>p.size=1)) ((fun s p=>.ret (bv (decide (0≤Lib.indexByte s.data.toList (hdU p)))))) (by rw [Tryz.ntmps128];decide) (fun s p hp=>by
 refine aa (ctx:=[⟨_,xt⟩]) 4000 ?_
 rw [Tryz.ntmps128,Tryz.results128]
 simp only [Tryz.f128,Option.getD_some,aC]
 simp only [go_sem,zx,zw,hp])
theorem cT {id:Nat} {h:ah} {args:List AV}:(qW).run id h args=bT (cg (bx) (bx) ((fun _ p=>p.size=1))) (fun x=>((fun s p=>.ret (bv (decide (0≤Lib.indexByte s.data.toList (hdU p)))))) x.1 x.2) h args:=rfl
theorem cR {id:Nat} {h:ah} {args:List AV}:(qW).pan id h args=bU (cg (bx) (bx) ((fun _ p=>p.size=1))) (fun x=>((fun s p=>.ret (bv (decide (0≤Lib.indexByte s.data.toList (hdU p)))))) x.1 x.2) h args:=rfl
def lW:bi Tryz.prog 47 :=
 mk2 _ _ _ Tryz.func47 rfl (fun _ _=>by go_simp) (bx) (bx) ((fun _ _=>True)) ((fun s p=>.ret (bv (cM s p)))) (by rw [Tryz.ntmps47];decide) (fun s p _=>by
 refine aa (ctx:=[⟨_,tq⟩]) 4000 ?_
 rw [Tryz.ntmps47,Tryz.results47]
 simp only [Tryz.f47,Option.getD_some,aC]
 simp only [go_sem,eP,eO])
theorem bt {id:Nat} {h:ah} {args:List AV}:(lW).run id h args=bT (cg (bx) (bx) ((fun _ _=>True))) (fun x=>((fun s p=>.ret (bv (cM s p)))) x.1 x.2) h args:=rfl
theorem br {id:Nat} {h:ah} {args:List AV}:(lW).pan id h args=bU (cg (bx) (bx) ((fun _ _=>True))) (fun x=>((fun s p=>.ret (bv (cM s p)))) x.1 x.2) h args:=rfl
def ql:List OpV→Int
 | []=>0
 | o::r=>if iD o=0 then ql r else iD o
theorem uh:∀ {l:List OpV} {i:Nat} {o:OpV},(∀ j p,j<i→l[j]? = some p→iD p=0)→l[i]? = some o→¬iD o=0→ql l=iD o
 | [],i,o,_,h,_=>by cases h
 | x::l,0,o,_,h,hc=>by
  injection h with h
  subst h
  rw [ql,if_neg hc]
 | x::l,i+1,o,hn,h,hc=>by
  rw [ql,if_pos (hn 0 x (Nat.zero_lt_succ _) rfl)]
  exact uh (i:=i) (fun j p hj hp=>hn (j+1) p (by omega) (by simpa using hp)) (by simpa using h) hc
theorem y9:∀ {l:List OpV},(∀ o∈l,iD o=0)→ql l=0
 | [],_=>rfl
 | x::l,h=>by
  rw [ql,if_pos (h x (by simp))]
  exact y9 fun o ho=>h o (by simp [ho])
def jt (a b:OpV):Bool:=cM (cD b) eQ&&(a.kind==5)&&!sZ (cD a)
def lj:List OpV→Bool
 | []=>false
 | [_]=>false
 | a::b::r=>jt a b||lj (b::r)
theorem wH:∀ {l:List OpV} {i:Nat} {a b:OpV},l[i]? = some a→l[i+1]? = some b→jt a b=true→lj l=true
 | [],i,a,b,h,_,_=>by cases h
 | [x],i,a,b,_,h,_=>by simp at h
 | x::y::l,0,a,b,h,h1,hb=>by
  injection h with h
  injection h1 with h1
  subst h h1
  rw [lj,hb]
  rfl
 | x::y::l,i+1,a,b,h,h1,hb=>by
  rw [lj,wH (l:=y::l) (i:=i) (by simpa using h) (by simpa using h1) hb,Bool.or_true]
theorem wI:∀ {l:List OpV},(∀ i a b,l[i]? = some a→l[i+1]? = some b→jt a b=false)→lj l=false
 | [],_=>rfl
 | [x],_=>rfl
 | x::y::l,h=>by
  rw [lj,h 0 x y rfl rfl,wI (l:=y::l) fun i a b h1 h2=>h (i+1) a b (by simpa using h1) (by simpa using h2)]
  rfl
def gl (l:List OpV):ByteArray×Int :=
 if ¬ql l=0 then (emp,ql l) else if 8<l.length then (emp,3) else if lj l=true then (emp,100) else (kl (l.map cD),0)
abbrev qa:Ty (List OpV):=tSl 15 opR
def nu (r:ByteArray×Int):AV:=.tup [.l (.v (.string r.1)),.l (.v (.int .i64 r.2))]
def y3 (l:List ByteArray):Blk:=⟨true,9,1,(l.map fun s=>[D.v (.string s)]).map cG⟩
theorem T4 (s:ByteArray):dQ.enc s=[.v (.string s)]:=rfl
theorem Ey:∀ {l:List OpV},l.length≤8→(∀ o∈l,okO o)→(kl (l.map cD)).size≤140737488355328:=by
 have key:∀ (r:List OpV) (x:ByteArray),(∀ o∈r,okO o)→((r.map cD).foldl (fun a y=>a++gQ++y) x).size≤x.size+r.length*2199023255802:=by
  intro r
  induction r with
  | nil=>intro x _;simp
  | cons o r ih =>
   intro x h
   have h1:=sI (h o (by simp))
   have h2:=ih (x++gQ++cD o) fun p hp=>h p (by simp [hp])
   have h3:gQ.size=2:=rfl
   rw [List.map_cons,List.foldl_cons,List.length_cons]
   simp only [ByteArray.size_append] at h2
   omega
 intro l hl h
 cases l with
 | nil=>decide
 | cons o r =>
  have h1:=sI (h o (by simp))
  have h2:=key r (cD o) fun p hp=>h p (by simp [hp])
  simp only [List.length_cons] at hl
  show ((r.map cD).foldl _ (cD o)).size≤_
  omega
theorem Nb (l:List OpV) (hl:l.length≤1000000) (hO:∀ o∈l,okO o):SW Tryz.prog ⟨none,0⟩ Tryz.f62.ntmps (Tryz.f62.body.getD .skip) ⟨0,aC 0 [qa.enc l],[]⟩ (es Tryz.prog Tryz.f62.results.toList (.ret (nu (gl l)))):=by
 refine aa (ctx:=[⟨_,tw⟩]) 4000 ?_
 rw [Tryz.ntmps62,Tryz.results62]
 simp only [Tryz.f62,Option.getD_some,aC]
 simp only [go_sem]
 refine cW (ι:=Nat) (fun i=>i≤l.length∧∀ j p,j<i→l[j]? = some p→iD p=0) (fun i=>⟨0,[(0,qa.enc l),(11,qa.enc l),(12,iv l.length),(13,iv i)],[]⟩) (fun i=>l.length-i) 0 ⟨Nat.zero_le _,fun j p hj=>absurd hj (Nat.not_lt_zero _)⟩ (Wk.renL [] (by simp) (by simp) (by simp) rfl rfl) ?_
 rintro i ⟨hi,hn⟩
 refine aa (ctx:=[⟨_,Ov⟩]) 4000 ?_
 by_cases hlt:i<l.length
 ·have hltI:(i:Int)<l.length:=by omega
  obtain ⟨o,ho⟩:∃ o,l[i]? = some o:=⟨_,List.getElem?_eq_getElem hlt⟩
  have hok:=hO o (List.mem_of_getElem? ho)
  have ei:IntKind.i64.wrap ((i:Int)+1)=((i+1:Nat):Int):=by rw [IntKind.wrap_i64];omega
  by_cases hc:iD o=0
  ·simp only [go_sem,hltI,hlt,ho,bh,opE,opD,bQ,bP,iy,iw,hok,eq_true hc,ei]
   exact ⟨i+1,⟨hlt,fun j p hj hp=>by
    by_cases e:j=i
    ·subst e;rw [ho] at hp;injection hp with hp;rw [← hp];exact hc
    ·exact hn j p (by omega) hp⟩,by omega,Wk.renL [] (by simp) (by simp) (by simp) rfl rfl⟩
  ·have e:gl l=(emp,iD o):=by unfold gl;rw [uh hn ho hc,if_pos hc]
   simp only [go_sem,hltI,hlt,ho,bh,opE,opD,bQ,bP,iy,iw,hok,hc,e,nu,aR]
 obtain rfl:i=l.length:=by omega
 have hI:¬(l.length:Int)<l.length:=by omega
 have hall:∀ o∈l,iD o=0:=fun o ho=>by
  obtain ⟨j,hj,he⟩:=List.mem_iff_getElem.1 ho
  exact hn j o hj (by rw [List.getElem?_eq_getElem hj,he])
 have h0:=y9 hall
 by_cases h8:8<l.length
 ·have h8I:(8:Int)<l.length:=by omega
  have e:gl l=(emp,3):=by unfold gl;rw [if_neg (by rw [h0];simp),if_pos h8]
  simp only [go_sem,hI,h8I,e,nu,aR]
 have h8I:¬(8:Int)<l.length:=by omega
 have hF:gl l=if lj l=true then (emp,100) else (kl (l.map cD),0):=by unfold gl;rw [if_neg (by rw [h0];simp),if_neg h8]
 simp only [go_sem,hI,h8I]
 refine cW (ι:=Nat) (fun i=>i≤l.length∧∀ j a b,j+1<i→l[j]? = some a→l[j+1]? = some b→jt a b=false) (fun i=>⟨1,[(0,qa.enc l),(26,qa.enc l),(27,iv l.length),(28,iv i),(7,.s (.l (.sl 0 0 i)))],[(0,some (y3 ((l.take i).map cD)))]⟩) (fun i=>l.length-i) 0 ⟨Nat.zero_le _,fun j a b hj=>absurd hj (by omega)⟩ ?_ ?_
 ·exact (Wk.nil 7 9 1 rfl).trans (Wk.renL [128] (by simp) (by simp) (by simp) rfl rfl)
 rintro i ⟨hi,hn2⟩
 refine aa (ctx:=[⟨_,P2⟩,⟨_,lW⟩,⟨_,qW⟩]) 4000 ?_
 by_cases hlt:i<l.length
 ·have hltI:(i:Int)<l.length:=by omega
  obtain ⟨o,ho⟩:∃ o,l[i]? = some o:=⟨_,List.getElem?_eq_getElem hlt⟩
  have hok:=hO o (List.mem_of_getElem? ho)
  have hch:=hall o (List.mem_of_getElem? ho)
  have ei:IntKind.i64.wrap ((i:Int)+1)=((i+1:Nat):Int):=by rw [IntKind.wrap_i64];omega
  have hT:(l.take (i+1)).map cD=(l.take i).map cD++[cD o]:=by rw [List.take_add_one,ho,List.map_append];rfl
  have hlen:((l.take i).map cD).length=i:=by rw [List.length_map,List.length_take];omega
  obtain ⟨T,hTT⟩:∃ T,(l.take i).map cD=T:=⟨_,rfl⟩
  rw [hTT] at hT hlen
  have hK:List.take i ((T.map (fun s=>[D.v (.string s)])).map cG)=(T.map (fun s=>[D.v (.string s)])).map cG:=List.take_of_length_le (by simp [hlen])
  have hK2:(T.map (fun s=>[D.v (.string s)])).map cG++[[LV.v (.string (cD o))]]=((T++[cD o]).map (fun s=>[D.v (.string s)])).map cG:=by rw [List.map_append,List.map_append];rfl
  have m1:i+1≤maxLen:=by unfold maxLen;omega
  have m2:(i+1)*16≤140737488355328:=by omega
  cases i with
  | zero =>
   have z0:(0:Int)<(l.length:Int):=by omega
   have z1:IntKind.i64.wrap ((0:Int)+1)=((0+1:Nat):Int):=rfl
   have hTn:T=[]:=List.eq_nil_of_length_eq_zero hlen
   subst hTn
   simp only [go_sem,hltI,hlt,ho,bh,opE,opD,bQ,bP,f9,f8,hok,hch,and_self,hTT,y3,hK,hK2,hlen,m1,m2,ei,z0,z1]
   exact ⟨1,⟨hlt,fun j a b hj=>absurd hj (by omega)⟩,by omega,Wk.renL [337] (by simp) (Nat.le_refl 1) (by simp) rfl (by rw [hT];rfl)⟩
  | succ k =>
   have ek:IntKind.i64.wrap (((k+1:Nat):Int)-1)=(k:Int):=by rw [IntKind.wrap_i64];omega
   have hk:k<l.length:=by omega
   have p0:(0:Int)<((k+1:Nat):Int):=by omega
   have hkI:(k:Int)<((k+1:Nat):Int):=by omega
   obtain ⟨a,ha⟩:∃ a,l[k]? = some a:=⟨_,List.getElem?_eq_getElem hk⟩
   have hTk:T[k]? = some (cD a):=by rw [← hTT,List.getElem?_map,List.getElem?_take,if_pos (by omega),ha];rfl
   have hU:hdU (⟨#[44]⟩:ByteArray)=44:=rfl
   have hU1:(⟨#[44]⟩:ByteArray).size=1:=rfl
   have hp1:cM (cD o) ⟨#[35]⟩=cM (cD o) eQ:=rfl
   have go:jt a o=false→k+1+1≤l.length∧∀ j p q,j+1<k+1+1→l[j]? = some p→l[j+1]? = some q→jt p q=false:=fun hb=>⟨hlt,fun j p q hj hp hq=>by
    by_cases e:j=k
    ·subst e
     rw [ha] at hp
     rw [ho] at hq
     injection hp with hp
     injection hq with hq
     rw [← hp,← hq]
     exact hb
    ·exact hn2 j p q (by omega) hp hq⟩
   cases h1:cM (cD o) eQ
   ·simp only [go_sem,hltI,hlt,ho,bh,opE,opD,bQ,bP,f9,f8,hok,hch,and_self,hTT,y3,p0,bt,br,hp1,h1,hK,hK2,hlen,m1,m2,ei]
    exact ⟨k+1+1,go (by unfold jt;rw [h1];rfl),by omega,Wk.renL [369] (by simp) (Nat.le_refl 1) (by simp) rfl (by rw [hT];simp only [hget,if_true,List.map_cons,List.map_nil,Option.map_some,List.getD_cons_zero,Blk.ren,jF,y3])⟩
   by_cases h2:a.kind=5
   case neg =>
    simp only [go_sem,hltI,hlt,ho,bh,opE,opD,bQ,bP,f9,f8,hok,hch,and_self,hTT,y3,p0,bt,br,hp1,h1,ek,hk,ha,h2,hK,hK2,hlen,m1,m2,ei]
    exact ⟨k+1+1,go (by unfold jt;rw [beq_eq_false_iff_ne.2 h2];simp),by omega,Wk.renL [481] (by simp) (Nat.le_refl 1) (by simp) rfl (by rw [hT];simp only [hget,if_true,List.map_cons,List.map_nil,Option.map_some,List.getD_cons_zero,Blk.ren,jF,y3])⟩
   cases h3:(decide (0≤Lib.indexByte (cD a).data.toList 44))
   ·have hb:jt a o=true:=by unfold jt sZ;rw [h1,h3,h2];rfl
    rw [hF,if_pos (wH ha ho hb)]
    simp only [go_sem,hltI,hlt,ho,bh,opE,opD,bQ,bP,f9,f8,hok,hch,and_self,hTT,y3,p0,bt,br,hp1,h1,ek,hk,ha,eq_true h2,hkI,hTk,T4,cT,cR,hU1,hU,h3,nu,aR]
   ·simp only [go_sem,hltI,hlt,ho,bh,opE,opD,bQ,bP,f9,f8,hok,hch,and_self,hTT,y3,p0,bt,br,hp1,h1,ek,hk,ha,eq_true h2,hkI,hTk,T4,cT,cR,hU1,hU,h3,hK,hK2,hlen,m1,m2,ei]
    exact ⟨k+1+1,go (by unfold jt sZ;rw [h3];simp),by omega,Wk.renL [593] (by simp) (Nat.le_refl 1) (by simp) rfl (by rw [hT];simp only [hget,if_true,List.map_cons,List.map_nil,Option.map_some,List.getD_cons_zero,Blk.ren,jF,y3])⟩
 ·obtain rfl:i=l.length:=by omega
  have hI:¬(l.length:Int)<l.length:=by omega
  have hb:lj l=false:=wI fun j a b h1 h2=>hn2 j a b (List.getElem?_eq_some_iff.1 h2).1 h1 h2
  rw [if_neg (by rw [hb];simp)] at hF
  have hj:lC (l.map cD) ⟨#[44,32]⟩=kl (l.map cD):=qs _
  have hs1:(l.map cD).length≤1000000:=by rw [List.length_map];exact hl
  have hs2:=Ey (l:=l) (by omega) hO
  have htl:List.take l.length l=l:=List.take_length
  have hK:List.take l.length (((l.map cD).map (fun s=>[D.v (.string s)])).map cG)=((l.map cD).map (fun s=>[D.v (.string s)])).map cG:=List.take_of_length_le (by simp)
  have hD:dT dQ.dec ((l.map cD).map dQ.enc)=some (l.map cD):=ac dQ _
  simp only [dQ] at hD
  simp only [go_sem,hI,hl,htl,y3,hK,hD,mQ,mP,hj,hs1,hs2,and_self,hF,nu]
def uX:bi Tryz.prog 62 :=
 mk1 _ _ _ Tryz.func62 rfl (fun _ _=>by go_simp) (qa) ((fun l=>l.length≤1000000∧∀ o∈l,okO o)) ((fun l=>.ret (nu (gl l)))) (by rw [Tryz.ntmps62];decide) (fun l h=>Nb l h.1 h.2)
theorem uZ {id:Nat} {h:ah} {args:List AV}:(uX).run id h args=bT (ba (qa) ((fun l=>l.length≤1000000∧∀ o∈l,okO o))) ((fun l=>.ret (nu (gl l)))) h args:=rfl
theorem uY {id:Nat} {h:ah} {args:List AV}:(uX).pan id h args=bU (ba (qa) ((fun l=>l.length≤1000000∧∀ o∈l,okO o))) ((fun l=>.ret (nu (gl l)))) h args:=rfl
end
end Go.Proofs.YtnhbidpdadkcjaaGreatDoor
