import Derived.Test.YthcoegkfpinlfaaGreatDoorJ27
import Derived.Shelf.Strings.OnBuilder
import Derived.Test.YthcoegkfpinlfaaGreatDoorJ13
set_option linter.unusedVariables false
set_option linter.unusedSimpArgs false
set_option maxRecDepth 100000
set_option maxHeartbeats 8000000
namespace Go.Proofs.YthcoegkfpinlfaaGreatDoor
section
open Go.RowKit Go.Shelf
def F3:Ren:=⟨fun k=>if k=156 then 25 else if k=165 then 57 else if k=166 then 58 else if k=169 then 59 else if k=240 then 100 else if k=241 then 101 else if k=276 then 138 else if k=277 then 139 else k,
 fun k=>if k=0 then 0 else if k=3 then 3 else if k=4 then 4 else if k=5 then 5 else if k=9 then 9 else if k=20 then 20 else if k=31 then 44 else if k=37 then 82 else if k=70 then 81 else if k=72 then 84 else if k=75 then 87 else if k=76 then 88 else if k=80 then 90 else if k=127 then 124 else if k=164 then 150 else k,
 fun k=>k⟩
theorem OU:Go.Proofs.Lays.n156 Tryz.prog F3 where
 mixed:=by kernel_rfl
 f156:=by kernel_rfl
 f165:=by kernel_rfl
 f166:=by kernel_rfl
 f169:=by kernel_rfl
 f240:=by kernel_rfl
 f241:=by kernel_rfl
 f276:=by kernel_rfl
 f277:=by kernel_rfl
 t0:=by kernel_rfl
 a0:=fun w=>by kernel_rfl
 z0:=fun w=>by kernel_rfl
 v0:=fun w=>by kernel_rfl
 t3:=by kernel_rfl
 a3:=fun w=>by kernel_rfl
 z3:=fun w=>by kernel_rfl
 v3:=fun w=>by kernel_rfl
 t4:=by kernel_rfl
 a4:=fun w=>by kernel_rfl
 z4:=fun w=>by kernel_rfl
 v4:=fun w=>by kernel_rfl
 t9:=by kernel_rfl
 a9:=fun w=>by kernel_rfl
 z9:=fun w=>by kernel_rfl
 v9:=fun w=>by kernel_rfl
 t20:=by kernel_rfl
 a20:=fun w=>by kernel_rfl
 z20:=fun w=>by kernel_rfl
 v20:=fun w=>by kernel_rfl
 t31:=by kernel_rfl
 a31:=fun w=>by kernel_rfl
 z31:=fun w=>by kernel_rfl
 v31:=fun w=>by kernel_rfl
 t37:=by kernel_rfl
 a37:=fun w=>by kernel_rfl
 z37:=fun w=>by kernel_rfl
 v37:=fun w=>by kernel_rfl
 t70:=by kernel_rfl
 a70:=fun w=>by kernel_rfl
 z70:=fun w=>by kernel_rfl
 v70:=fun w=>by kernel_rfl
 t72:=by kernel_rfl
 a72:=fun w=>by kernel_rfl
 z72:=fun w=>by kernel_rfl
 v72:=fun w=>by kernel_rfl
 t75:=by kernel_rfl
 a75:=fun w=>by kernel_rfl
 z75:=fun w=>by kernel_rfl
 v75:=fun w=>by kernel_rfl
 t76:=by kernel_rfl
 a76:=fun w=>by kernel_rfl
 z76:=fun w=>by kernel_rfl
 v76:=fun w=>by kernel_rfl
 t127:=by kernel_rfl
 a127:=fun w=>by kernel_rfl
 z127:=fun w=>by kernel_rfl
 v127:=fun w=>by kernel_rfl
 t164:=by kernel_rfl
 a164:=fun w=>by kernel_rfl
 z164:=fun w=>by kernel_rfl
 v164:=fun w=>by kernel_rfl
theorem jnX:Go.Proofs.Builder.Extra Tryz.prog F3 where
 sizeBuilder:=by kernel_rfl
 liesBuilder:=by kernel_rfl
 t5:=by kernel_rfl
 a5:=fun w=>by kernel_rfl
 z5:=fun w=>by kernel_rfl
 v5:=fun w=>by kernel_rfl
 infoByte:=by kernel_rfl
 cellsByte:=by kernel_rfl
 sizeByte:=by kernel_rfl
 neB5:=by decide
abbrev Mc:Ty (List ByteArray):=tSl 1 um
def rM (l:List ByteArray) (p:ByteArray):ByteArray:=⟨(Lib.join (l.map (·.data.toList)) p.data.toList).toArray⟩
def Kv:bq Tryz.prog 25 :=
 PN _ (fun _ _=>by go_simp) Mc bh (fun l p=>l.length≤1000000∧(rM l p).size≤140737488355328) (fun l p=>sv (rM l p)) (fun _ _=>rfl) (fun l p hq M w u v hM hu hv=>by
  have hv':v=.string p:=hv
  subst hv'
  have hu':DRep M (.sd 1 (l.map um.enc)) u:=hu
  simp only [DRep] at hu'
  obtain ⟨A,cap,rfl,hc,hA⟩:=hu'
  rw [List.length_map] at hc ⊢
  have hz:(Lib.join (l.map (·.data.toList)) p.data.toList).length≤140737488355328:=by
   have:=hq.2
   unfold rM at this
   simpa [ByteArray.size] using this
  cases l with
  | nil =>
   refine (Any.strings_Join_none (ρ:=F3) OU jnX A cap p w).mono fun e w' ⟨he,hw⟩=>⟨⟨_,he,rfl⟩,hw▸Below.refl _ _⟩
  | cons x r =>
   obtain ⟨blk,off,rfl,hat⟩:=hA (by simp)
   have e:(x::r).map um.enc=((x::r).map fun s=>[Value.string s]).map fun e=>e.map D.v:=by
    rw [List.map_map];rfl
   rw [e] at hat
   have hg:=sJ hat
   have hf:((x::r).map fun s=>[Value.string s]).flatten=(x::r).map Value.string:=by
    rw [← List.flatMap_def]
    induction (x::r) with
    | nil=>rfl
    | cons a t ih=>rw [List.flatMap_cons,ih];rfl
   rw [hf] at hg
   have hcell:∀ (j:Nat) y,(x::r)[j]? = some y→w.cell? ⟨blk,off+j,none⟩=some (.string y):=fun j y hj=>hM _ _ _ (hg j _ (by rw [List.getElem?_map,hj];rfl))
   have hblk:blk<w.heap.size:=by
    obtain ⟨q,h1,_⟩:=ig (hcell 0 x rfl)
    exact (Array.getElem?_eq_some_iff.1 h1).1
   refine (Any.strings_Join (ρ:=F3) OU jnX blk off cap (x::r) p w hcell hblk (by have:=hq.1;omega) hc hz).mono fun e w' ⟨he,hw⟩=>⟨⟨_,he,rfl⟩,hw⟩)
theorem Kx {id:Nat} {h:ag} {args:List AV}:Kv.run id h args=bV (cA Mc bh (fun l p=>l.length≤1000000∧(rM l p).size≤140737488355328)) (fun x=>.ret (sv (rM x.1 x.2))) h args:=rfl
theorem Kw {id:Nat} {h:ag} {args:List AV}:Kv.pan id h args=ca (cA Mc bh (fun l p=>l.length≤1000000∧(rM l p).size≤140737488355328)) (fun x=>.ret (sv (rM x.1 x.2))) h args:=rfl
def mz:List ByteArray→ByteArray
 | []=>emp
 | x::r=>r.foldl (fun a y=>a++gr++y) x
theorem x9:∀ (r:List ByteArray) (x:ByteArray),(r.foldl (fun a y=>a++gr++y) x).data.toList=x.data.toList++Lib.joinTail gr.data.toList (r.map (·.data.toList))
 | [],x=>by simp [Lib.joinTail]
 | y::r,x=>by
  rw [List.foldl_cons,x9 r]
  have e:(x++gr++y).data.toList=x.data.toList++(gr.data.toList++y.data.toList):=by simp [ByteArray.data_append,Array.toList_append]
  rw [e,List.map_cons]
  simp [Lib.joinTail,List.append_assoc]
theorem Ku (l:List ByteArray):rM l gr=mz l:=by
 cases l with
 | nil=>rfl
 | cons x r =>
  apply ByteArray.ext
  rw [← Array.toList_inj]
  show _=(r.foldl (fun a y=>a++gr++y) x).data.toList
  rw [x9,← Lib.join_cons]
  rfl
end
section
open Go.RowKit
def fH (s:ByteArray):Bool:=decide (0≤Lib.indexByte s.data.toList 44)
def p7:bq Tryz.prog 24 :=
 mk2 _ _ _ Tryz.func24 rfl (fun _ _=>by go_simp) (bh) (bh) ((fun _ p=>p.size=1)) ((fun s p=>.ret (bv (decide (0≤Lib.indexByte s.data.toList (hdU p)))))) (by rw [Tryz.ntmps24];decide) (fun s p hp=>by
 refine ab (ctx:=[⟨_,vH⟩]) 4000 ?_
 rw [Tryz.ntmps24,Tryz.results24]
 simp only [Tryz.f24,Option.getD_some,aw]
 simp only [go_sem,x8,x7,hp])
theorem cw {id:Nat} {h:ag} {args:List AV}:(p7).run id h args=bV (cA (bh) (bh) ((fun _ p=>p.size=1))) (fun x=>((fun s p=>.ret (bv (decide (0≤Lib.indexByte s.data.toList (hdU p)))))) x.1 x.2) h args:=rfl
theorem cv {id:Nat} {h:ag} {args:List AV}:(p7).pan id h args=ca (cA (bh) (bh) ((fun _ p=>p.size=1))) (fun x=>((fun s p=>.ret (bv (decide (0≤Lib.indexByte s.data.toList (hdU p)))))) x.1 x.2) h args:=rfl
def zI:bq Tryz.prog 23 :=
 mk2 _ _ _ Tryz.func23 rfl (fun _ _=>by go_simp) (bh) (bh) ((fun _ _=>True)) ((fun s p=>.ret (bv (gt s p)))) (by rw [Tryz.ntmps23];decide) (fun s p _=>by
 refine ab (ctx:=[⟨_,FP⟩]) 4000 ?_
 rw [Tryz.ntmps23,Tryz.results23]
 simp only [Tryz.f23,Option.getD_some,aw]
 simp only [go_sem,vD,vC])
theorem dD {id:Nat} {h:ag} {args:List AV}:(zI).run id h args=bV (cA (bh) (bh) ((fun _ _=>True))) (fun x=>((fun s p=>.ret (bv (gt s p)))) x.1 x.2) h args:=rfl
theorem dC {id:Nat} {h:ag} {args:List AV}:(zI).pan id h args=ca (cA (bh) (bh) ((fun _ _=>True))) (fun x=>((fun s p=>.ret (bv (gt s p)))) x.1 x.2) h args:=rfl
def po:List OpV→Int
 | []=>0
 | o::r=>if fi o=0 then po r else fi o
theorem sE:∀ {l:List OpV} {i:Nat} {o:OpV},(∀ j p,j<i→l[j]? = some p→fi p=0)→l[i]? = some o→¬fi o=0→po l=fi o
 | [],i,o,_,h,_=>by cases h
 | x::l,0,o,_,h,hc=>by
  injection h with h
  subst h
  rw [po,if_neg hc]
 | x::l,i+1,o,hn,h,hc=>by
  rw [po,if_pos (hn 0 x (Nat.zero_lt_succ _) rfl)]
  exact sE (i:=i) (fun j p hj hp=>hn (j+1) p (by omega) (by simpa using hp)) (by simpa using h) hc
theorem sF:∀ {l:List OpV},(∀ o∈l,fi o=0)→po l=0
 | [],_=>rfl
 | x::l,h=>by
  rw [po,if_pos (h x (by simp))]
  exact sF fun o ho=>h o (by simp [ho])
def fE (a b:OpV):Bool:=gt (aT b) bc&&(a.kind==5)&&!fH (aT a)
def jC:List OpV→Bool
 | []=>false
 | [_]=>false
 | a::b::r=>fE a b||jC (b::r)
theorem qJ:∀ {l:List OpV} {i:Nat} {a b:OpV},l[i]? = some a→l[i+1]? = some b→fE a b=true→jC l=true
 | [],i,a,b,h,_,_=>by cases h
 | [x],i,a,b,_,h,_=>by simp at h
 | x::y::l,0,a,b,h,h1,hb=>by
  injection h with h
  injection h1 with h1
  subst h h1
  rw [jC,hb]
  rfl
 | x::y::l,i+1,a,b,h,h1,hb=>by
  rw [jC,qJ (l:=y::l) (i:=i) (by simpa using h) (by simpa using h1) hb,Bool.or_true]
theorem qK:∀ {l:List OpV},(∀ i a b,l[i]? = some a→l[i+1]? = some b→fE a b=false)→jC l=false
 | [],_=>rfl
 | [x],_=>rfl
 | x::y::l,h=>by
  rw [jC,h 0 x y rfl rfl,qK (l:=y::l) fun i a b h1 h2=>h (i+1) a b (by simpa using h1) (by simpa using h2)]
  rfl
def iA (l:List OpV):ByteArray×Int :=
 if ¬po l=0 then (emp,po l) else if 8<l.length then (emp,3) else if jC l=true then (emp,100) else (mz (l.map aT),0)
abbrev iZ:Ty (List OpV):=tSl 15 opR
def j3 (r:ByteArray×Int):AV:=.tup [.l (.v (.string r.1)),.l (.v (.int .i64 r.2))]
def xw (l:List ByteArray):Blk:=⟨true,9,1,(l.map fun s=>[D.v (.string s)]).map dj⟩
theorem QY (s:ByteArray):um.enc s=[.v (.string s)]:=rfl
theorem DT:∀ {l:List OpV},l.length≤8→(∀ o∈l,okO o)→(mz (l.map aT)).size≤140737488355328:=by
 have key:∀ (r:List OpV) (x:ByteArray),(∀ o∈r,okO o)→((r.map aT).foldl (fun a y=>a++gr++y) x).size≤x.size+r.length*2199023255802:=by
  intro r
  induction r with
  | nil=>intro x _;simp
  | cons o r ih =>
   intro x h
   have h1:=w8 (h o (by simp))
   have h2:=ih (x++gr++aT o) fun p hp=>h p (by simp [hp])
   have h3:gr.size=2:=rfl
   rw [List.map_cons,List.foldl_cons,List.length_cons]
   simp only [ByteArray.size_append] at h2
   omega
 intro l hl h
 cases l with
 | nil=>decide
 | cons o r =>
  have h1:=w8 (h o (by simp))
  have h2:=key r (aT o) fun p hp=>h p (by simp [hp])
  simp only [List.length_cons] at hl
  show ((r.map aT).foldl _ (aT o)).size≤_
  omega
theorem Mh (l:List OpV) (hl:l.length≤1000000) (hO:∀ o∈l,okO o):SW Tryz.prog ⟨none,0⟩ Tryz.f8.ntmps (Tryz.f8.body.getD .skip) ⟨0,aw 0 [iZ.enc l],[]⟩ (eK Tryz.prog Tryz.f8.results.toList (.ret (j3 (iA l)))):=by
 refine ab (ctx:=[⟨_,Kv⟩]) 4000 ?_
 rw [Tryz.ntmps8,Tryz.results8]
 simp only [Tryz.f8,Option.getD_some,aw]
 simp only [go_sem]
 refine dG (ι:=Nat) (fun i=>i≤l.length∧∀ j p,j<i→l[j]? = some p→fi p=0) (fun i=>⟨0,[(0,iZ.enc l),(11,iZ.enc l),(12,iv l.length),(13,iv i)],[]⟩) (fun i=>l.length-i) 0 ⟨Nat.zero_le _,fun j p hj=>absurd hj (Nat.not_lt_zero _)⟩ (Wk.renL [] (by simp) (by simp) (by simp) rfl rfl) ?_
 rintro i ⟨hi,hn⟩
 refine ab (ctx:=[⟨_,GX⟩]) 4000 ?_
 by_cases hlt:i<l.length
 ·have hltI:(i:Int)<l.length:=by omega
  obtain ⟨o,ho⟩:∃ o,l[i]? = some o:=⟨_,List.getElem?_eq_getElem hlt⟩
  have hok:=hO o (List.mem_of_getElem? ho)
  have ei:IntKind.i64.wrap ((i:Int)+1)=((i+1:Nat):Int):=by rw [IntKind.wrap_i64];omega
  by_cases hc:fi o=0
  ·simp only [go_sem,hltI,hlt,ho,aF,opE,opD,bj,bi,cY,cX,hok,eq_true hc,ei]
   exact ⟨i+1,⟨hlt,fun j p hj hp=>by
    by_cases e:j=i
    ·subst e;rw [ho] at hp;injection hp with hp;rw [← hp];exact hc
    ·exact hn j p (by omega) hp⟩,by omega,Wk.renL [] (by simp) (by simp) (by simp) rfl rfl⟩
  ·have e:iA l=(emp,fi o):=by unfold iA;rw [sE hn ho hc,if_pos hc]
   simp only [go_sem,hltI,hlt,ho,aF,opE,opD,bj,bi,cY,cX,hok,hc,e,j3,ax]
 obtain rfl:i=l.length:=by omega
 have hI:¬(l.length:Int)<l.length:=by omega
 have hall:∀ o∈l,fi o=0:=fun o ho=>by
  obtain ⟨j,hj,he⟩:=List.mem_iff_getElem.1 ho
  exact hn j o hj (by rw [List.getElem?_eq_getElem hj,he])
 have h0:=sF hall
 by_cases h8:8<l.length
 ·have h8I:(8:Int)<l.length:=by omega
  have e:iA l=(emp,3):=by unfold iA;rw [if_neg (by rw [h0];simp),if_pos h8]
  simp only [go_sem,hI,h8I,e,j3,ax]
 have h8I:¬(8:Int)<l.length:=by omega
 have hF:iA l=if jC l=true then (emp,100) else (mz (l.map aT),0):=by unfold iA;rw [if_neg (by rw [h0];simp),if_neg h8]
 simp only [go_sem,hI,h8I]
 refine dG (ι:=Nat) (fun i=>i≤l.length∧∀ j a b,j+1<i→l[j]? = some a→l[j+1]? = some b→fE a b=false) (fun i=>⟨1,[(0,iZ.enc l),(26,iZ.enc l),(27,iv l.length),(28,iv i),(7,.s (.l (.sl 0 0 i)))],[(0,some (xw ((l.take i).map aT)))]⟩) (fun i=>l.length-i) 0 ⟨Nat.zero_le _,fun j a b hj=>absurd hj (by omega)⟩ ?_ ?_
 ·exact (Wk.nil 7 9 1 rfl).trans (Wk.renL [128] (by simp) (by simp) (by simp) rfl rfl)
 rintro i ⟨hi,hn2⟩
 refine ab (ctx:=[⟨_,Mn⟩,⟨_,zI⟩,⟨_,p7⟩]) 4000 ?_
 by_cases hlt:i<l.length
 ·have hltI:(i:Int)<l.length:=by omega
  obtain ⟨o,ho⟩:∃ o,l[i]? = some o:=⟨_,List.getElem?_eq_getElem hlt⟩
  have hok:=hO o (List.mem_of_getElem? ho)
  have hch:=hall o (List.mem_of_getElem? ho)
  have ei:IntKind.i64.wrap ((i:Int)+1)=((i+1:Nat):Int):=by rw [IntKind.wrap_i64];omega
  have hT:(l.take (i+1)).map aT=(l.take i).map aT++[aT o]:=by rw [List.take_add_one,ho,List.map_append];rfl
  have hlen:((l.take i).map aT).length=i:=by rw [List.length_map,List.length_take];omega
  obtain ⟨T,hTT⟩:∃ T,(l.take i).map aT=T:=⟨_,rfl⟩
  rw [hTT] at hT hlen
  have hK:List.take i ((T.map (fun s=>[D.v (.string s)])).map dj)=(T.map (fun s=>[D.v (.string s)])).map dj:=List.take_of_length_le (by simp [hlen])
  have hK2:(T.map (fun s=>[D.v (.string s)])).map dj++[[LV.v (.string (aT o))]]=((T++[aT o]).map (fun s=>[D.v (.string s)])).map dj:=by rw [List.map_append,List.map_append];rfl
  have m1:i+1≤maxLen:=by unfold maxLen;omega
  have m2:(i+1)*16≤140737488355328:=by omega
  cases i with
  | zero =>
   have z0:(0:Int)<(l.length:Int):=by omega
   have z1:IntKind.i64.wrap ((0:Int)+1)=((0+1:Nat):Int):=rfl
   have hTn:T=[]:=List.eq_nil_of_length_eq_zero hlen
   subst hTn
   simp only [go_sem,hltI,hlt,ho,aF,opE,opD,bj,bi,eU,eS,hok,hch,and_self,hTT,xw,hK,hK2,hlen,m1,m2,ei,z0,z1]
   exact ⟨1,⟨hlt,fun j a b hj=>absurd hj (by omega)⟩,by omega,Wk.renL [337] (by simp) (Nat.le_refl 1) (by simp) rfl (by rw [hT];rfl)⟩
  | succ k =>
   have ek:IntKind.i64.wrap (((k+1:Nat):Int)-1)=(k:Int):=by rw [IntKind.wrap_i64];omega
   have hk:k<l.length:=by omega
   have p0:(0:Int)<((k+1:Nat):Int):=by omega
   have hkI:(k:Int)<((k+1:Nat):Int):=by omega
   obtain ⟨a,ha⟩:∃ a,l[k]? = some a:=⟨_,List.getElem?_eq_getElem hk⟩
   have hTk:T[k]? = some (aT a):=by rw [← hTT,List.getElem?_map,List.getElem?_take,if_pos (by omega),ha];rfl
   have hU:hdU (⟨#[44]⟩:ByteArray)=44:=rfl
   have hU1:(⟨#[44]⟩:ByteArray).size=1:=rfl
   have hp1:gt (aT o) ⟨#[35]⟩=gt (aT o) bc:=rfl
   have go:fE a o=false→k+1+1≤l.length∧∀ j p q,j+1<k+1+1→l[j]? = some p→l[j+1]? = some q→fE p q=false:=fun hb=>⟨hlt,fun j p q hj hp hq=>by
    by_cases e:j=k
    ·subst e
     rw [ha] at hp
     rw [ho] at hq
     injection hp with hp
     injection hq with hq
     rw [← hp,← hq]
     exact hb
    ·exact hn2 j p q (by omega) hp hq⟩
   cases h1:gt (aT o) bc
   ·simp only [go_sem,hltI,hlt,ho,aF,opE,opD,bj,bi,eU,eS,hok,hch,and_self,hTT,xw,p0,dD,dC,hp1,h1,hK,hK2,hlen,m1,m2,ei]
    exact ⟨k+1+1,go (by unfold fE;rw [h1];rfl),by omega,Wk.renL [369] (by simp) (Nat.le_refl 1) (by simp) rfl (by rw [hT];simp only [aq,if_true,List.map_cons,List.map_nil,Option.map_some,List.getD_cons_zero,Blk.ren,ff,xw])⟩
   by_cases h2:a.kind=5
   case neg =>
    simp only [go_sem,hltI,hlt,ho,aF,opE,opD,bj,bi,eU,eS,hok,hch,and_self,hTT,xw,p0,dD,dC,hp1,h1,ek,hk,ha,h2,hK,hK2,hlen,m1,m2,ei]
    exact ⟨k+1+1,go (by unfold fE;rw [beq_eq_false_iff_ne.2 h2];simp),by omega,Wk.renL [481] (by simp) (Nat.le_refl 1) (by simp) rfl (by rw [hT];simp only [aq,if_true,List.map_cons,List.map_nil,Option.map_some,List.getD_cons_zero,Blk.ren,ff,xw])⟩
   cases h3:(decide (0≤Lib.indexByte (aT a).data.toList 44))
   ·have hb:fE a o=true:=by unfold fE fH;rw [h1,h3,h2];rfl
    rw [hF,if_pos (qJ ha ho hb)]
    simp only [go_sem,hltI,hlt,ho,aF,opE,opD,bj,bi,eU,eS,hok,hch,and_self,hTT,xw,p0,dD,dC,hp1,h1,ek,hk,ha,eq_true h2,hkI,hTk,QY,cw,cv,hU1,hU,h3,j3,ax]
   ·simp only [go_sem,hltI,hlt,ho,aF,opE,opD,bj,bi,eU,eS,hok,hch,and_self,hTT,xw,p0,dD,dC,hp1,h1,ek,hk,ha,eq_true h2,hkI,hTk,QY,cw,cv,hU1,hU,h3,hK,hK2,hlen,m1,m2,ei]
    exact ⟨k+1+1,go (by unfold fE fH;rw [h3];simp),by omega,Wk.renL [593] (by simp) (Nat.le_refl 1) (by simp) rfl (by rw [hT];simp only [aq,if_true,List.map_cons,List.map_nil,Option.map_some,List.getD_cons_zero,Blk.ren,ff,xw])⟩
 ·obtain rfl:i=l.length:=by omega
  have hI:¬(l.length:Int)<l.length:=by omega
  have hb:jC l=false:=qK fun j a b h1 h2=>hn2 j a b (List.getElem?_eq_some_iff.1 h2).1 h1 h2
  rw [if_neg (by rw [hb];simp)] at hF
  have hj:rM (l.map aT) ⟨#[44,32]⟩=mz (l.map aT):=Ku _
  have hs1:(l.map aT).length≤1000000:=by rw [List.length_map];exact hl
  have hs2:=DT (l:=l) (by omega) hO
  have htl:List.take l.length l=l:=List.take_length
  have hK:List.take l.length (((l.map aT).map (fun s=>[D.v (.string s)])).map dj)=((l.map aT).map (fun s=>[D.v (.string s)])).map dj:=List.take_of_length_le (by simp)
  have hD:kA um.dec ((l.map aT).map um.enc)=some (l.map aT):=pt um _
  simp only [um] at hD
  simp only [go_sem,hI,hl,htl,xw,hK,hD,Kx,Kw,hj,hs1,hs2,and_self,hF,j3]
def tu:bq Tryz.prog 8 :=
 mk1 _ _ _ Tryz.func8 rfl (fun _ _=>by go_simp) (iZ) ((fun l=>l.length≤1000000∧∀ o∈l,okO o)) ((fun l=>.ret (j3 (iA l)))) (by rw [Tryz.ntmps8];decide) (fun l h=>Mh l h.1 h.2)
theorem ku {id:Nat} {h:ag} {args:List AV}:(tu).run id h args=bV (aI (iZ) ((fun l=>l.length≤1000000∧∀ o∈l,okO o))) ((fun l=>.ret (j3 (iA l)))) h args:=rfl
theorem kt {id:Nat} {h:ag} {args:List AV}:(tu).pan id h args=ca (aI (iZ) ((fun l=>l.length≤1000000∧∀ o∈l,okO o))) ((fun l=>.ret (j3 (iA l)))) h args:=rfl
end
end Go.Proofs.YthcoegkfpinlfaaGreatDoor
