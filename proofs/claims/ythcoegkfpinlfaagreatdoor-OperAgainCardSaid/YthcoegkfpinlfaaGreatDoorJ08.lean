import Derived.Test.YthcoegkfpinlfaaGreatDoorJ07
import Derived.RangeFuncSeq
set_option linter.unusedVariables false
set_option linter.unusedSimpArgs false
set_option maxRecDepth 100000
set_option maxHeartbeats 8000000
namespace Go.Proofs.YthcoegkfpinlfaaGreatDoor
section
open Go.RowKit
def xz (M:Mem) (w:World):Prop:=∀ b o y,M b o=some y→w.cell? ⟨b,o,none⟩=some y
def Mem.join (M M':Mem):Mem:=fun b o=>match M b o with
 | some y=>some y
 | none=>M' b o
theorem Mem.join_left {M M':Mem}:M.le (M.join M'):=fun b o y h=>by simp only [Mem.join,h]
theorem Mem.join_some {M M':Mem} {b o:Nat} {y:Value} (h:M.join M' b o=some y):M b o=some y∨M' b o=some y:=by
 unfold Mem.join at h
 split at h
 ·rename_i e;exact .inl (e.trans h)
 ·exact .inr h
theorem Mem.join_right {M M':Mem} {w:World} (h:xz M w) (h':xz M' w):M'.le (M.join M'):=fun b o y e=>by
 unfold Mem.join
 split
 ·rename_i z hz
  have h1:=h b o z hz
  rw [h' b o y e] at h1
  injection h1 with h1
  rw [h1]
 ·exact e
theorem WRep.addM {B:dX} {w0:World} {ρ:Nat→Loc} {al:Al} {h:ag} {w:World} (H:WRep B w0 ρ al h w) {M:Mem} (hM:xz M w) (ho:∀ b k,aq h b=some k→k.own=true→(ρ b).cap≠0→∀ o,M (ρ b).blk o=none)
  (hN:∀ b o y,M b o=some y→B.M b o=some y∨¬B.S b):WRep B w0 ρ ⟨al.p,al.M.join M⟩ h w:=by
 have E:Ext ρ ρ al ⟨al.p,al.M.join M⟩:=⟨fun _ _=>rfl,Mem.join_left,fun _ h=>h⟩
 refine ⟨H.base,H.below,fun b k hk=>(H.blk b k hk).ext E rfl,H.own,H.old,H.apart,fun b o y hy=>?_,fun b k hk hown hc o=>?_,fun b o y hy=>?_,Mem.le_trans H.memOld E.M,H.pins⟩
 ·rcases Mem.join_some hy with h1 | h1
  ·exact H.mem b o y h1
  ·exact hM b o y h1
 ·cases e:al.M.join M (ρ b).blk o with
  | none=>exact e
  | some y =>
   rcases Mem.join_some e with h1 | h1
   ·rw [H.memOwn b k hk hown hc o] at h1;cases h1
   ·rw [ho b k hk hown hc o] at h1;cases h1
 ·rcases Mem.join_some hy with h1 | h1
  ·exact H.memNew b o y h1
  ·exact hN b o y h1
def LV.pin (K:Nat):LV→Bool
 | .sl b _ _=>decide (b<K)
 | .p b _ _=>decide (b<K)
 | .bf _ bs cs=>bs.all (fun b=>decide (b<K))&&cs.all (fun b=>decide (b<K))
 | _=>true
def SV.pin (K:Nat):SV→Bool
 | .l x=>x.pin K
 | .agg xs=>xs.all (·.pin K)
def AV.pin (K:Nat):AV→Bool
 | .s x=>x.pin K
 | .tup xs=>xs.all (·.pin K)
 | .fn _ f c=>f.all (·.pin K)&&c.all (·.pin K)
section
variable {K:Nat} {ρ ρ':Nat→Loc} {al al':Al} (hM:al.M.le al'.M) (hp:∀ j,j<K→al' j∧ρ' j=ρ j)
include hM hp
theorem LRep.pinned {x:LV} {y:Value} (h:LRep ρ al x y) (hx:x.pin K=true):LRep ρ' al' x y:=by
 cases x with
 | v x=>exact h
 | d x=>exact DRep.mono hM h
 | any=>trivial
 | sl b i n =>
  obtain ⟨g1,g2⟩:=hp b (of_decide_eq_true hx)
  obtain ⟨_,A,h1,h2,h3⟩:=h
  exact ⟨g1,A,by rw [g2];exact h1,by rw [g2];exact h2,by rw [g2];exact h3⟩
 | p b i j =>
  obtain ⟨g1,g2⟩:=hp b (of_decide_eq_true hx)
  exact ⟨g1,by rw [g2];exact h.2⟩
 | bf g bs cs =>
  simp only [LV.pin,Bool.and_eq_true,List.all_eq_true,decide_eq_true_eq] at hx
  obtain ⟨a,c,e⟩:=h
  have h1:∀ l:List Nat,(∀ b∈l,b<K)→l.map (pAt ρ')=l.map (pAt ρ):=fun l hl=>List.map_congr_left fun b hb=>by unfold pAt;rw [(hp b (hl b hb)).2]
  exact ⟨fun b hb=>(hp b (hx.1 b hb)).1,fun b hb=>(hp b (hx.2 b hb)).1,by rw [h1 bs hx.1,h1 cs hx.2];exact e⟩
theorem LsRep.pinned:∀ {xs:List LV} {ys:List Value},LsRep ρ al xs ys→xs.all (·.pin K)=true→LsRep ρ' al' xs ys
 | [],[],_,_=>trivial
 | x::xs,y::ys,⟨a,b,c⟩,hf=>by
  simp only [List.all_cons,Bool.and_eq_true] at hf
  exact ⟨a,b.pinned hM hp hf.1,LsRep.pinned c hf.2⟩
 | [],_::_,h,_=>h.elim
 | _::_,[],h,_=>h.elim
theorem SRep.pinned {x:SV} {y:Value} (h:SRep ρ al x y) (hf:x.pin K=true):SRep ρ' al' x y:=by
 cases x with
 | l x=>exact LRep.pinned hM hp h hf
 | agg xs=>obtain ⟨cs,e,h⟩:=h;exact ⟨cs,e,h.pinned hM hp hf⟩
theorem SsRep.pinned:∀ {xs:List SV} {ys:List Value},SsRep ρ al xs ys→xs.all (·.pin K)=true→SsRep ρ' al' xs ys
 | [],[],_,_=>trivial
 | x::xs,y::ys,⟨a,b⟩,hf=>by
  simp only [List.all_cons,Bool.and_eq_true] at hf
  exact ⟨a.pinned hM hp hf.1,SsRep.pinned b hf.2⟩
 | [],_::_,h,_=>h.elim
 | _::_,[],h,_=>h.elim
theorem ARep.pinned {x:AV} {y:Value} (h:ARep ρ al x y) (hf:x.pin K=true):ARep ρ' al' x y:=by
 cases x with
 | s x=>exact SRep.pinned hM hp h hf
 | tup xs=>obtain ⟨cs,e,h⟩:=h;exact ⟨cs,e,h.pinned hM hp hf⟩
 | fn g f c =>
  obtain ⟨fs,cs,e,h,k⟩:=h
  simp only [AV.pin,Bool.and_eq_true] at hf
  exact ⟨fs,cs,e,h.pinned hM hp hf.1,k.pinned hM hp hf.2⟩
theorem AsRep.pinned:∀ {xs:List AV} {ys:List Value},AsRep ρ al xs ys→xs.all (·.pin K)=true→AsRep ρ' al' xs ys
 | [],[],_,_=>trivial
 | x::xs,y::ys,⟨a,b⟩,hf=>by
  simp only [List.all_cons,Bool.and_eq_true] at hf
  exact ⟨a.pinned hM hp hf.1,AsRep.pinned b hf.2⟩
 | [],_::_,h,_=>h.elim
 | _::_,[],h,_=>h.elim
end
theorem tget_memY {t:dY} {k:Nat}:cE t k=.s (.l .any)∨(k,cE t k)∈t:=by
 induction t with
 | nil=>exact .inl rfl
 | cons p r ih =>
  obtain ⟨j,A⟩:=p
  rw [cE]
  split
  ·rename_i e;subst e;exact .inr (by simp)
  ·rcases ih with h | h
   ·exact .inl h
   ·exact .inr (by simp [h])
theorem Ox {K:Nat} {t:dY} (h:t.all (fun p=>p.2.pin K)=true) (ρ:Nat→Loc) (al:Al) (ρ':Nat→Loc) (al':Al) (tm:Array Value) (hM:al.M.le al'.M) (hp:∀ j,j<K→al' j∧ρ' j=ρ j) (hT:TRep ρ al t tm):TRep ρ' al' t tm:=by
 intro k
 have h1:=hT k
 rcases tget_memY (t:=t) (k:=k) with e | e
 ·rw [e];trivial
 ·exact h1.pinned hM hp (List.all_eq_true.1 h _ e)
def ρz:Nat→Loc:=fun _=>⟨0,0,0,0,true⟩
def alz (M:Mem):Al:=⟨fun _=>False,M⟩
theorem Ext.ofz {M:Mem} {ρ:Nat→Loc} {al:Al} (h:M.le al.M):Ext ρz ρ (alz M) al:=⟨fun _ h=>h.elim,h,fun _ h=>h.elim⟩
structure Kept (S:Nat→Prop) (w w':World):Prop where
 os:w'.os=w.os
 tape:w'.tape=w.tape
 output:w'.output=w.output
 size:w.heap.size≤w'.heap.size
 block:∀ k,S k→w'.heap[k]? = w.heap[k]?
theorem Keeps.toKept {S:Nat→Prop} {w w':World} (h:Keeps S w w'):Kept S w w':=⟨h.os,h.tape,h.output,h.size,h.block⟩
theorem Kept.trans {S:Nat→Prop} {a b c:World} (h:Kept S a b) (k:Kept S b c):Kept S a c :=
 ⟨k.os.trans h.os,k.tape.trans h.tape,k.output.trans h.output,Nat.le_trans h.size k.size,fun i hi=>(k.block i hi).trans (h.block i hi)⟩
theorem Kept.mono {S S':Nat→Prop} {w w':World} (h:Kept S w w') (hS:∀ k,S' k→S k):Kept S' w w':=⟨h.os,h.tape,h.output,h.size,fun k hk=>h.block k (hS k hk)⟩
structure Rounds (P:Program) (l:Nat) (L:List (List AV)) (γ:Type) where
 N0:Nat
 M0:Mem
 J:γ→World→Prop
 dep:γ→Nat→Prop
 mt:γ→Nat→Prop
 pos:γ→Nat
 live:γ→Bool
 fit:∀ g W,J g W→∀ k,dep g k→k<W.heap.size
 steady:∀ g A B,J g A→Kept (dep g) A B→J g B
 sub:∀ g k,mt g k→dep g k
 round:∀ g W M As vs,J g W→live g=true→L[pos g]? = some As→xz M W→(∀ b o y,M b o=some y→¬mt g b∧(M0 b o=some y∨N0≤b))→AsRep ρz (alz M) As vs →
  YieldAt (Fw ⟨none,0⟩) 0 P l vs.toArray W fun e W' =>
  ∃ g',J g' W'∧pos g'=pos g+1∧e=.returned (.bool (live g'))∧Keeps (fun k=>k<W.heap.size∧¬mt g k) W W' ∧
   (∀ k,dep g' k→dep g k∨W.heap.size≤k∨∃ o y,M k o=some y)∧(∀ k,mt g' k→mt g k∨W.heap.size≤k)
def Rounds.no (P:Program):Rounds P 0 [] Unit where
 N0:=0
 M0:=fun _ _=>none
 J:=fun _ _=>True
 dep:=fun _ _=>False
 mt:=fun _ _=>False
 pos:=fun _=>0
 live:=fun _=>true
 fit:=fun _ _ _ _ h=>h.elim
 steady:=fun _ _ _ _ _=>trivial
 sub:=fun _ _ h=>h
 round:=fun _ _ _ _ _ _ _ h=>by cases h
structure It (P:Program) (f:FuncId) where
 enter:∀ (args:Array Value) (w:World),(callFunc f args).run P w=.ok (.enter f args) w
 dec:List D→Option (Prop×List (List AV))
 sound:∀ {ds:List D} {q:Prop} {L:List (List AV)},dec ds=some (q,L)→q→∀ (M:Mem) (W:World) (caps:List Value),Gok M→xz M W→DsRep M ds caps →
  ∀ (l:Nat) (γ:Type) (R:Rounds P l L γ) (g:γ),R.N0≤W.heap.size→R.J g W→R.pos g=0→R.live g=true→(∀ b o y,M b o=some y→¬R.mt g b∧(R.M0 b o=some y∨R.N0≤b)) →
   Calls P f (Value.func (.yield l) #[] #[]::caps).toArray W fun e W'=>(∃ v,e=.returned v)∧∃ g',R.J g' W'∧(R.live g'=true→R.pos g'=L.length)
theorem Qf {P:Program} {ro:Option Nat} {K K' n:Nat} {c:Code} {s:St} {Q:Exit→St→Prop} (hK:K≤K') (hb:∀ j,j<K'→∃ k,aq s.h j=some k) (h:SW P ⟨ro,K'⟩ n c s Q):SW P ⟨ro,K⟩ n c s Q:=by
 intro B w0 ρ al a w hpl H
 let B':dX:=⟨B.S,B.M,(List.range K').map ρ,B.ds,B.gok⟩
 have hpin:∀ {j:Nat},j<K'→B'.pl[j]? = some (ρ j):=by
  intro j hj
  simp only [B',List.getElem?_map,List.getElem?_range hj,Option.map_some]
 have H':RepS n B' w0 ρ al s a w:=by
  refine ⟨H.size,H.defers,H.t,⟨H.w.base,H.w.below,H.w.blk,H.w.own,H.w.old,H.w.apart,H.w.mem,H.w.memOwn,H.w.memNew,H.w.memOld,fun j l hj=>?_⟩,H.al⟩
  have hjK:j<K':=by
   have:=(List.getElem?_eq_some_iff.1 hj).1
   simpa [B'] using this
  rw [hpin hjK] at hj
  injection hj with hj
  obtain ⟨k,hk⟩:=hb j hjK
  exact ⟨(H.w.blk j k hk).here,hj⟩
 refine wpIn_mono (h B' w0 ρ al a w (by simp [B']) H') ?_
 rintro e a' w' ⟨ρ',al',s',R,q⟩
 refine ⟨ρ',al',s',⟨R.size,R.defers,R.t,⟨R.w.base,R.w.below,R.w.blk,R.w.own,R.w.old,R.w.apart,R.w.mem,R.w.memOwn,R.w.memNew,R.w.memOld,fun j l hj=>?_⟩,R.al⟩,q⟩
 have hjK:j<K:=by
  have:=(List.getElem?_eq_some_iff.1 hj).1
  rw [hpl] at this
  exact this
 obtain ⟨h1,h2⟩:=R.w.pins j _ (hpin (by omega))
 obtain ⟨_,h3⟩:=H.w.pins j l hj
 exact ⟨h1,h2.trans h3⟩
section
variable {B:dX} {w0:World} {ρ:Nat→Loc} {al:Al} {h:ag} {W:World}
theorem WRep.turn (H:WRep B w0 ρ al h W) {l:Nat} {o o':Obj} (hl:W.heap[l]? = some o) (ho:o.isCells=false) (hd:rL o=false) (hS:¬B.S l):WRep B w0 ρ al h (W.putObj l o'):=by
 have hne:∀ k,(∃ q:Obj,W.heap[k]? = some q∧q.isCells=true)→k≠l:=by
  rintro k ⟨q,h1,h2⟩ rfl
  rw [hl] at h1
  injection h1 with h1
  subst h1
  rw [ho] at h2;cases h2
 refine H.step (.refl _ _) (H.below.trans ⟨rfl,rfl,rfl,by simp [World.putObj],fun k hk=>World.putObj_heap_other (by rintro rfl;exact hS hk),fun k q hk hq=>?_⟩) (fun b k hk hc=>World.putObj_heap_other ?_) (fun b ⟨o,y,hy⟩=>World.putObj_heap_other (hne b (ig (H.mem b o y hy))))
 ·rw [World.putObj_heap_other]
  ·exact hk
  ·rintro rfl
   rw [hl] at hk
   injection hk with hk
   subst hk
   rw [hd] at hq;cases hq
 ·cases hob:k.own with
  | true =>
   have hcap:(ρ b).cap≠0:=by
    rcases hc with hc | hc
    ·have:=(H.blk b k hk).cap
     intro h0
     exact hc (List.eq_nil_of_length_eq_zero (by omega))
    ·exact hc.2
   obtain ⟨cur,fr,h1,_⟩:=((H.blk b k hk).room hob).2.2 hcap
   exact hne _ ⟨_,h1,rfl⟩
  | false =>
   have h1:=H.old b k hk hob (hc.resolve_right (by rw [hob];simp))
   rintro e
   exact hS (e▸h1)
theorem WRep.rekeep (H:WRep B w0 ρ al h W) (S':Nat→Prop) (ds:List Deferred) (hS:∀ k,S' k→k<W.heap.size) (hown:∀ b k,aq h b=some k→k.own=true) (hno:∀ b k,aq h b=some k→(ρ b).cap≠0→¬S' (ρ b).blk):WRep ⟨S',al.M,B.pl,ds,H.gok⟩ W ρ al h W :=
 ⟨hS,.refl _ _,H.blk,fun b k hk _=>hno b k hk,fun b k hk ho=>(by rw [hown b k hk] at ho;cases ho),H.apart,H.mem,H.memOwn,fun b o y hy=>.inl hy,Mem.le_refl _,H.pins⟩
theorem WRep.rekept (H:WRep B w0 ρ al h W) {S':Nat→Prop} {ds:List Deferred} {ρ':Nat→Loc} {al':Al} {h':ag} {W':World} {g:Gok al.M} (H':WRep ⟨S',al.M,B.pl,ds,g⟩ W ρ' al' h' W') (hSS:∀ k,B.S k→S' k) (hown:∀ b k,aq h' b=some k→k.own=true):WRep B w0 ρ' al' h' W' :=
 ⟨H.base,H.below.trans (H'.below.mono hSS),H'.blk,fun b k hk ho hc hB=>H'.own b k hk ho hc (hSS _ hB),fun b k hk ho=>(by rw [hown b k hk] at ho;cases ho),H'.apart,H'.mem,H'.memOwn,
  fun b o y hy=>(H'.memNew b o y hy).elim (H.memNew b o y) fun h=>.inr fun hB=>h (hSS _ hB),Mem.le_trans H.memOld H'.memOld,H'.pins⟩
end
def pO:List (Tmp×AV)→dY→dY
 | [],t=>t
 | (p,v)::r,t=>pO r ((p,v)::t)
theorem yB {ρ:Nat→Loc} {al:Al}:∀ {ps:List Tmp} {As:List AV} {vs:List Value} {t:dY} {tm:Array Value},(∀ p∈ps,p<tm.size)→AsRep ρ al As vs→TRep ρ al t tm→TRep ρ al (pO (ps.zip As) t) ((ps.zip vs).foldl (fun tm x=>tm.setIfInBounds x.1 x.2) tm)
 | [],_,_,_,_,_,_,h=>h
 | _::_,[],[],_,_,_,_,h=>h
 | _::_,[],_::_,_,_,_,h,_=>h.elim
 | _::_,_::_,[],_,_,_,h,_=>h.elim
 | p::ps,A::As,v::vs,t,tm,hl,⟨ha,hr⟩,h=>by
  simp only [List.zip_cons_cons,pO,List.foldl_cons]
  exact yB (fun x hx=>by rw [Array.size_setIfInBounds];exact hl x (by simp [hx])) hr (TRep.put h (hl p (by simp)) ha)
theorem I9 {ps:Array Tmp} {vs:List Value} {tm:Array Value}:(ps.zip vs.toArray).foldl (fun (tm:Array Value) (x:Tmp×Value)=>tm.setIfInBounds x.1 x.2) tm=(ps.toList.zip vs).foldl (fun tm x=>tm.setIfInBounds x.1 x.2) tm:=by
 rw [← Array.foldl_toList,Array.toList_zip]
def mi (h:ag) (ρ:Nat→Loc) (k:Nat):Prop:=∃ b kk,aq h b=some kk∧(ρ b).cap≠0∧(ρ b).blk=k
section
variable {P:Program} {l:Nat} {L:List (List AV)} {γ:Type}
structure YRep (R:Rounds P l L γ) (n:Nat) (B:dX) (w0:World) (g0:γ) (ρ:Nat→Loc) (al:Al) (s:St) (a:Act) (w:World) (g:γ):Prop where
 r:RepS n B w0 ρ al s a w
 own:∀ b k,aq s.h b=some k→k.own=true
 J:R.J g w
 N:R.N0≤w0.heap.size
 dep:∀ b k,aq s.h b=some k→(ρ b).cap≠0→¬R.dep g (ρ b).blk
 ownN:∀ b k,aq s.h b=some k→(ρ b).cap≠0→R.N0≤(ρ b).blk
 mem:∀ b o y,al.M b o=some y→¬R.mt g b
 memN:∀ b o y,al.M b o=some y→R.M0 b o=some y∨R.N0≤b
 S:∀ k,B.S k→¬R.mt g k
 mks:∀ rs:List Nat,a.defers=rs.map mark++B.ds→∀ r∈rs,¬R.dep g r
 fol:∀ k,R.dep g k→R.dep g0 k∨w0.heap.size≤k∨∃ o y,al.M k o=some y
 folm:∀ k,R.mt g k→R.mt g0 k∨w0.heap.size≤k
theorem KG {r r':Nat} (h:mark r=mark r'):r=r':=by
 unfold mark at h
 injection h with h
 injection h
theorem vQ {rs rs':List Nat} {ds:List Deferred} (h:rs.map mark++ds=rs'.map mark++ds):rs=rs' :=
 (List.map_inj_right fun _ _=>KG).1 (List.append_cancel_right h)
theorem Marks.trans {N:Nat} {d0 ds ds':List Deferred} {w w':World} (h:Marks N d0 ds w) (k:Marks w.heap.size ds ds' w') (hN:N≤w.heap.size) (hk:KeepsD w w'):Marks N d0 ds' w':=by
 obtain ⟨rs,n1,rfl,k1⟩:=h
 obtain ⟨rs',n2,rfl,k2⟩:=k
 refine ⟨rs'++rs,?_,by simp,?_⟩
 ·rw [List.nodup_append]
  refine ⟨n2,n1,?_⟩
  rintro r hr r' hr' rfl
  have h1:=(k2 r hr).1
  have h2:=(Array.getElem?_eq_some_iff.1 (k1 r hr').2).1
  omega
 ·intro r hr
  rcases List.mem_append.1 hr with hr | hr
  ·exact ⟨Nat.le_trans hN (k2 r hr).1,(k2 r hr).2⟩
  ·exact ⟨(k1 r hr).1,hk.same r _ (k1 r hr).2 rfl⟩
def dnS (h:ag) (ρ:Nat→Loc) (w:World) (k:Nat):Prop:=k<w.heap.size∧¬mi h ρ k
variable {R:Rounds P l L γ} {n:Nat} {B:dX} {w0:World} {g0 g:γ} {ρ ρ':Nat→Loc} {al al':Al} {s s':St} {a a':Act} {w w':World}
theorem YRep.down (H:YRep R n B w0 g0 ρ al s a w g):RepS n ⟨dnS s.h ρ w,al.M,B.pl,a.defers,H.r.w.gok⟩ w ρ al s a w :=
 ⟨H.r.size,Marks.nil _ _ _,H.r.t,H.r.w.rekeep _ _ (fun k hk=>hk.1) H.own (fun b k hk hc hS=>hS.2 ⟨b,k,hk,hc,rfl⟩),H.r.al⟩
theorem YRep.up (H:YRep R n B w0 g0 ρ al s a w g) (H':RepS n ⟨dnS s.h ρ w,al.M,B.pl,a.defers,H.r.w.gok⟩ w ρ' al' s' a' w') (hown:∀ b k,aq s'.h b=some k→k.own=true):YRep R n B w0 g0 ρ' al' s' a' w' g:=by
 have hw0:w0.heap.size≤w.heap.size:=H.r.w.below.size
 have hdep:∀ k,R.dep g k→dnS s.h ρ w k:=fun k hk=>⟨R.fit g w H.J k hk,by rintro ⟨b,kk,h1,h2,rfl⟩;exact H.dep b kk h1 h2 hk⟩
 have hSS:∀ k,B.S k→dnS s.h ρ w k:=fun k hk=>⟨H.r.w.size k hk,by rintro ⟨b,kk,h1,h2,rfl⟩;exact H.r.w.own b kk h1 (H.own b kk h1) h2 hk⟩
 have hnew:∀ k,¬dnS s.h ρ w k→R.N0≤k:=by
  intro k hk
  by_cases h1:k<w.heap.size
  ·by_cases h2:mi s.h ρ k
   ·obtain ⟨b,kk,h3,h4,rfl⟩:=h2
    exact H.ownN b kk h3 h4
   ·exact (hk ⟨h1,h2⟩).elim
  ·have:=H.N;omega
 refine ⟨⟨H'.size,H.r.defers.trans H'.defers hw0 H'.w.below.kept,H'.t,H.r.w.rekept H'.w hSS hown,H'.al⟩,hown,R.steady g w w' H.J ((H'.w.below.mono hdep).toKept),H.N,fun b k hk hc hd=>H'.w.own b k hk (hown b k hk) hc (hdep _ hd),fun b k hk hc=>hnew _ (H'.w.own b k hk (hown b k hk) hc),fun b o y hy hm=>?_,fun b o y hy=>?_,H.S,fun rs hrs r hr hd=>?_,fun k hk=>(H.fol k hk).imp_right fun h=>h.imp_right fun ⟨o,y,hy⟩=>⟨o,y,H'.w.memOld k o y hy⟩,H.folm⟩
 ·rcases H'.w.memNew b o y hy with h1 | h1
  ·exact H.mem b o y h1 hm
  ·exact h1 (hdep b (R.sub g b hm))
 ·rcases H'.w.memNew b o y hy with h1 | h1
  ·exact H.memN b o y h1
  ·exact .inr (hnew b h1)
 ·obtain ⟨rs',h1,h2,h3⟩:=H'.defers
  obtain ⟨rs0,k1,k2,k3⟩:=H.r.defers
  have e1:a'.defers=rs'.map mark++a.defers:=h2
  obtain rfl:=vQ (rs:=rs) (rs':=rs'++rs0) (by rw [← hrs,e1,k2,List.map_append,List.append_assoc])
  rcases List.mem_append.1 hr with hr | hr
  ·have h6:=(h3 _ hr).1
   have h7:=R.fit g w H.J _ hd
   omega
  ·exact H.mks rs0 k2 r hr hd
def SWy (P:Program) (l:Nat) (L:List (List AV)) (ro:Cf) (n:Nat) (c:Code) (s:St) (y:Nat×Bool) (Q:Exit→St→Nat×Bool→Prop):Prop :=
 ∀ (γ:Type) (R:Rounds P l L γ) B w0 g0 ρ al a w g,B.pl.length=ro.K→YRep R n B w0 g0 ρ al s a w g→R.pos g=y.1→R.live g=y.2 →
  c.wpIn (Fw ro) 0 P (fun e a' w'=>∃ ρ' al' s' g',YRep R n B w0 g0 ρ' al' s' a' w' g'∧Q e s' (R.pos g',R.live g')) a w
def pK:ag→Bool
 | []=>true
 | (_,some k)::r=>k.own&&pK r
 | (_,none)::r=>pK r
theorem pL:∀ {h:ag},pK h=true→∀ b k,aq h b=some k→k.own=true
 | [],_,b,k,hk=>by cases hk
 | (c,some x)::r,h,b,k,hk=>by
  simp only [pK,Bool.and_eq_true] at h
  rw [aq] at hk
  split at hk
  ·injection hk with e;subst e;exact h.1
  ·exact pL h.2 b k hk
 | (c,none)::r,h,b,k,hk=>by
  rw [aq] at hk
  split at hk
  ·cases hk
  ·exact pL (by simpa only [pK] using h) b k hk
theorem tQ {E h:ag} (hE:pK E=true) (hh:∀ b k,aq h b=some k→k.own=true):∀ b k,aq (E++h) b=some k→k.own=true:=by
 induction E with
 | nil=>exact hh
 | cons p r ih =>
  obtain ⟨c,x⟩:=p
  intro b k hk
  rw [List.cons_append,aq] at hk
  cases x with
  | none =>
   split at hk
   ·cases hk
   ·exact ih (by simpa only [pK] using hE) b k hk
  | some x =>
   simp only [pK,Bool.and_eq_true] at hE
   split at hk
   ·injection hk with e;subst e;exact hE.1
   ·exact ih hE.2 b k hk
variable {ro:Cf} {y:Nat×Bool}
theorem SWy.mono {c:Code} {Q Q':Exit→St→Nat×Bool→Prop} (h:SWy P l L ro n c s y Q) (hq:∀ e s y,Q e s y→Q' e s y):SWy P l L ro n c s y Q' :=
 fun γ R B w0 g0 ρ al a w g hpl H h1 h2=>wpIn_mono (h γ R B w0 g0 ρ al a w g hpl H h1 h2) fun _ _ _ ⟨ρ',al',s',g',H',q⟩=>⟨ρ',al',s',g',H',hq _ _ _ q⟩
theorem zQ0 {c:Code} {Q:Exit→St→Nat×Bool→Prop} (h:SW P ro n c s fun e s'=>(∀ b k,aq s'.h b=some k→k.own=true)∧Q e s' y):SWy P l L ro n c s y Q:=by
 intro γ R B w0 g0 ρ al a w g hpl H h1 h2
 refine wpIn_mono (h ⟨dnS s.h ρ w,al.M,B.pl,a.defers,H.r.w.gok⟩ w ρ al a w hpl H.down) ?_
 rintro e a' w' ⟨ρ',al',s',H',ho,q⟩
 refine ⟨ρ',al',s',g,H.up H' ho,?_⟩
 rw [h1,h2]
 exact q
theorem IM {c:Code} {Q:Exit→St→Prop} (hown:∀ b k,aq s.h b=some k→k.own=true) (h:SWy P 0 [] ro n c s (0,true) fun e s' _=>Q e s'):SW P ro n c s Q:=by
 intro B w0 ρ al a w hpl H
 refine wpIn_mono (h Unit (Rounds.no P) B w0 () ρ al a w () hpl ⟨H,hown,trivial,Nat.zero_le _,fun _ _ _ _ h=>h,fun _ _ _ _=>Nat.zero_le _,fun _ _ _ _ h=>h,fun b _ _ _=>.inr (Nat.zero_le b),fun _ _ h=>h,fun _ _ _ _ h=>h,fun _ h=>h.elim,fun _ h=>h.elim⟩ rfl rfl) ?_
 rintro e a' w' ⟨ρ',al',s',g',H',q⟩
 exact ⟨ρ',al',s',H'.r,q⟩
theorem YRep.wk (H:YRep R n B w0 g0 ρ al s a w g) (hpl:B.pl.length=ro.K) (h:Wk ro s s') (hown:∀ b k,aq s'.h b=some k→k.own=true):∃ ρ' al',YRep R n B w0 g0 ρ' al' s' a w g:=by
 obtain ⟨ρ',al',H'⟩:=h n ⟨dnS s.h ρ w,al.M,B.pl,a.defers,H.r.w.gok⟩ w ρ al a w hpl H.down
 exact ⟨ρ',al',H.up H' hown⟩
theorem SWy.wk {c:Code} {Q:Exit→St→Nat×Bool→Prop} (h:SWy P l L ro n c s' y Q) (hw:Wk ro s s') (hown:∀ b k,aq s'.h b=some k→k.own=true):SWy P l L ro n c s y Q:=fun γ R B w0 g0 ρ al a w g hpl H h1 h2=>by
 obtain ⟨ρ',al',H'⟩:=H.wk hpl hw hown
 exact h γ R B w0 g0 ρ' al' a w g hpl H' h1 h2
def yOp (l:Nat) (o:Op) (ev:Operand→AV):Option (List AV) :=
 match o with
 | .call c=>match c.callee with
  | .value f=>match ev f with
   | .s (.l (.v (.func (.yield l') ⟨[]⟩ ⟨[]⟩)))=>if l'=l then some (c.args.toList.map ev) else none
   | _=>none
  | _=>none
 | _=>none
theorem OF {o:Oper} {ev:Operand→AV} {As:List AV} (hT:∀ x,ARep ρ al (ev x) (a.eval x)) (h:yOp l o.op ev=some As) :
  (∀ c,o.op≠.defer c)∧∃ vs:List Value,AsRep ρ al As vs∧∀ w:World,(execOp a.eval o).run P w=(Instr.yield l vs.toArray).run P w:=by
 unfold yOp at h
 split at h
 case h_2=>cases h
 rename_i c ho
 refine ⟨fun d hd=>(by rw [ho] at hd;cases hd),?_⟩
 obtain ⟨callee,args,ts⟩:=c
 simp only at h
 split at h
 case h_2=>cases h
 rename_i f
 split at h
 case h_2=>cases h
 rename_i l' e
 split at h
 case isFalse=>cases h
 rename_i hl
 subst hl
 injection h with h
 subst h
 have hf:=hT f
 rw [e] at hf
 have hf':a.eval f=.func (.yield l') #[] #[]:=hf
 refine ⟨args.toList.map a.eval,AsRep.map hT _,fun w=>?_⟩
 simp only [execOp,ho,resolve,Deferred.ofValue,hf',invoke,Sem.run_bind,Sem.run_pure,Result.andThen_ok]
 congr 2
 rw [← Array.toList_inj]
 simp
theorem YRep.yield_wp (H:YRep R n B w0 g0 ρ al s a w g) {o:Oper} {As:List AV} {K:Act→World→Prop} {Q:Exit→Act→World→Prop} (hy:yOp l o.op (evT s.t)=some As) (hl:R.live g=true) (hL:L[R.pos g]? = some As) (hp:As.all (·.pin 0)=true) (hd:cP n o.dst=true)
  (hK:∀ g' a' w',R.pos g'=R.pos g+1→YRep R n B w0 g0 ρ al ⟨s.nx,putT s.t o.dst (.s (.l (.v (.bool (R.live g'))))),s.h⟩ a' w' g'→K a' w'):o.wpIn (Fw ro) 0 P a w K Q:=by
 obtain ⟨h1,vs,h2,h3⟩:=OF (P:=P) (li H.r.t) hy
 have hvz:AsRep ρz (alz al.M) As vs:=AsRep.pinned (K:=0) (ρ':=ρz) (al':=alz al.M) (Mem.le_refl al.M) (fun j hj=>(Nat.not_lt_zero _ hj).elim) h2 hp
 obtain ⟨fn,tmps,assign,body,hy1,hy2⟩:=R.round g w al.M As vs H.J hl hL H.r.w.mem (fun b o y hy=>⟨H.mem b o y hy,H.memN b o y hy⟩) hvz
 refine ⟨fun _ _=>trivial,?_⟩
 rw [Oper.semAt_eq _ _ _ h1,h3 w,hy1]
 refine ⟨fun h=>by simp [Fw,Fence.wide] at h,RoundIn.mono (show RoundIn (Fw ro) 0 P l fn tmps assign body w _ from hy2) ?_⟩
 rintro e w' ⟨g',J',hpos,rfl,hk,hdep,hmt⟩
 have hw0:w0.heap.size≤w.heap.size:=H.r.w.below.size
 refine hK g' _ w' hpos ⟨⟨kQ.trans H.r.size,?_,H.r.t.putT H.r.size hd (show ARep ρ al (.s (.l (.v (.bool (R.live g'))))) _ from rfl),H.r.w.step (.refl _ _) (H.r.w.below.trans (hk.mono fun k hS=>⟨H.r.w.size k hS,H.S k hS⟩)) (fun b k hb hc=>hk.block _ ⟨H.r.w.lt hb hc,fun hm=>?_⟩) (fun b ⟨o,y,hy⟩=>hk.block _ ⟨H.r.w.memLt hy,H.mem b o y hy⟩),H.r.al⟩,H.own,J',H.N,fun b k hb hc hdd=>?_,H.ownN,fun b o y hy hm=>?_,H.memN,fun k hS hm=>?_,fun rs hrs r hr hdd=>?_,fun k hdd=>?_,fun k hm=>?_⟩
 ·rw [fc];exact H.r.defers.keep hk.kept
 ·refine H.dep b k hb ?_ (R.sub g _ hm)
  rcases hc with hc | hc
  ·have:=(H.r.w.blk b k hb).cap
   intro h0
   exact hc (List.eq_nil_of_length_eq_zero (by omega))
  ·exact hc.2
 ·rcases hdep _ hdd with h4 | h4 | ⟨o,y,h4⟩
  ·exact H.dep b k hb hc h4
  ·have:=H.r.w.lt hb (.inr ⟨H.own b k hb,hc⟩)
   omega
  ·rw [H.r.w.memOwn b k hb (H.own b k hb) hc o] at h4
   cases h4
 ·rcases hmt _ hm with h4 | h4
  ·exact H.mem b o y hy h4
  ·have:=H.r.w.memLt hy
   omega
 ·rcases hmt _ hm with h4 | h4
  ·exact H.S k hS h4
  ·have:=H.r.w.size k hS
   omega
 ·rw [fc] at hrs
  obtain ⟨rs0,k1,k2,k3⟩:=H.r.defers
  obtain rfl:=vQ (hrs.symm.trans k2)
  rcases hdep _ hdd with h4 | h4 | ⟨o,y,h4⟩
  ·exact H.mks rs hrs r hr h4
  ·have:=(Array.getElem?_eq_some_iff.1 (k3 _ hr).2).1
   omega
  ·obtain ⟨q,h5,h6⟩:=ig (H.r.w.mem _ _ _ h4)
   rw [(k3 _ hr).2] at h5
   injection h5 with h5
   subst h5
   cases h6
 ·rcases hdep _ hdd with h4 | h4 | h4
  ·exact H.fol k h4
  ·right;left;omega
  ·exact .inr (.inr h4)
 ·rcases hmt _ hm with h4 | h4
  ·exact H.folm k h4
  ·right;omega
end
end
section
open Go.RowKit
def D2 (o:Oper):Option (Tmp×Tmp) :=
 match o.op,o.dst,o.guard with
 | .assign (.tmp s),some d,none=>some (d,s)
 | .move (.tmp s),some d,none=>some (d,s)
 | _,_,_=>none
def zQ:List Oper→Option (List (Tmp×Tmp))
 | []=>some []
 | o::r=>match D2 o,zQ r with
  | some m,some l=>some (m::l)
  | _,_=>none
def qe:Code→Option (List (Tmp×Tmp))
 | .region _ ops false=>zQ ops.toList
 | .seq a b=>match qe a,qe b with
  | some x,some y=>some (x++y)
  | _,_=>none
 | _=>none
def tN (l:List (Tmp×Tmp)) (tm:Array Value):Array Value:=l.foldl (fun tm x=>tm.setIfInBounds x.1 (tm.getD x.2 undef)) tm
theorem D3 {P:Program} {o:Oper} {d s:Tmp} (h:D2 o=some (d,s)) (a:Act) (W:World):o.dst=some d∧o.guard=none∧(∀ c,o.op≠.defer c)∧(execOp a.eval o).run P W=.ok (.value (a.tmps.getD s undef)) W:=by
 unfold D2 at h
 split at h
 ·rename_i s' d' h1 h2 h3
  injection h with h;injection h with e1 e2;subst e1;subst e2
  exact ⟨h2,h3,fun c e=>(by rw [h1] at e;cases e),(by simp only [execOp,h1,Act.eval];rfl)⟩
 ·rename_i s' d' h1 h2 h3
  injection h with h;injection h with e1 e2;subst e1;subst e2
  exact ⟨h2,h3,fun c e=>(by rw [h1] at e;cases e),(by simp only [execOp,h1,Act.eval];rfl)⟩
 ·cases h
theorem yg {P:Program} {ro:Cf} {ops:Array Oper} {Q:Exit→Act→World→Prop}:∀ (r:List Oper) (k:Nat) {l:List (Tmp×Tmp)} {a:Act} {W:World},(∀ j,r[j]? = ops[k+j]?)→zQ r=some l→Q .normal { a with tmps:=tN l a.tmps } W →
  wpOpsIn (Fw ro) 0 P ops Q (List.range' k r.length) a W
 | [],k,l,a,W,_,h,hq=>by
  injection h with h
  subst h
  exact hq
 | o::r,k,l,a,W,hr,h,hq=>by
  simp only [zQ] at h
  split at h
  case h_2=>cases h
  rename_i m l' h1 h2
  injection h with h
  subst h
  obtain ⟨d,s⟩:=m
  obtain ⟨g1,g2,g3,g4⟩:=D3 (P:=P) h1 a W
  have h0:ops[k]? = some o:=by have:=hr 0;simpa using this.symm
  rw [List.length_cons,List.range'_succ]
  simp only [wpOpsIn,h0]
  have hw:Region.wanted o (yielded ops a.tmps)=true:=by unfold Region.wanted;rw [g2]
  rw [if_pos hw]
  refine ⟨fun _ _=>trivial,?_⟩
  rw [Oper.semAt_eq _ _ _ g3,g4,Oper.uponIn_value,g1]
  exact yg r (k+1) (fun j=>by have:=hr (j+1);rw [show k+1+j=k+(j+1) by omega];simpa using this) h2 hq
theorem vW {P:Program} {ro:Cf}:∀ {c:Code} {l:List (Tmp×Tmp)},qe c=some l→∀ (a:Act) (W:World) (Q:Exit→Act→World→Prop),Q .normal { a with tmps:=tN l a.tmps } W→c.wpIn (Fw ro) 0 P Q a W
 | .region id ops false,l,h,a,W,Q,hq=>by
  refine wpIn_region ?_
  rw [List.range_eq_range']
  have:=yg (P:=P) (ro:=ro) (Q:=Q) (ops:=ops) ops.toList 0 (a:=a) (W:=W) (fun j=>by simp) h hq
  simpa using this
 | .seq x y,l,h,a,W,Q,hq=>by
  simp only [qe] at h
  split at h
  case h_2=>cases h
  rename_i l1 l2 h1 h2
  injection h with h
  subst h
  refine wpIn_seq (vW h1 a W _ ?_)
  show y.wpIn _ _ _ _ _ _
  refine vW h2 _ W _ ?_
  unfold tN at hq ⊢
  rw [List.foldl_append] at hq
  exact hq
end
section
open Go.RowKit
section
variable {P:Program} {ctx:Ctx P} {l:Nat} {L:List (List AV)} {ro:Cf} {n:Nat} {s:St} {Q:Exit→St→Nat×Bool→Prop}
def sx (P:Program) (ctx:Ctx P) (l:Nat) (L:List (List AV)) (n:Nat) (d:Option Tmp) (op:Op) (s:St) (y:Nat×Bool) (Q:Exit→St→Nat×Bool→Prop) (K:St→Nat×Bool→Prop):Prop :=
 match ue P ctx s.nx op (evT s.t) s.h with
 | some (ob,x,E)=>ob∧pK E=true∧Q (.panic [{ v:=x,recovered:=false }]) ⟨s.nx+16,s.t,E++s.h⟩ y
 | none=>match aOp P ctx s.nx op (evT s.t) s.h with
  | some R=>cP n d=true∧R.ob∧pK R.E=true∧K ⟨s.nx+16,putT s.t d R.r,R.E++s.h⟩ y
  | none=>match yOp l op (evT s.t) with
   | some As=>cP n d=true∧y.2=true∧L[y.1]? = some As∧As.all (·.pin 0)=true ∧
     K ⟨s.nx,putT s.t d (.s (.l (.v (.bool true)))),s.h⟩ (y.1+1,true)∧K ⟨s.nx,putT s.t d (.s (.l (.v (.bool false)))),s.h⟩ (y.1+1,false)
   | none=>False
theorem CR {γ:Type} {R:Rounds P l L γ} {B:dX} {w0:World} {g0 g:γ} {ρ:Nat→Loc} {al:Al} {a:Act} {w:World} {y:Nat×Bool} (H:YRep R n B w0 g0 ρ al s a w g) (h1:R.pos g=y.1) (h2:R.live g=y.2) {o:Oper} {K:St→Nat×Bool→Prop} {K':Act→World→Prop} {Q':Exit→Act→World→Prop}
  (h:sx P ctx l L n o.dst o.op s y Q K)
  (hK:∀ s' y' ρ' al' a' w' g',YRep R n B w0 g0 ρ' al' s' a' w' g'→R.pos g'=y'.1→R.live g'=y'.2→K s' y'→K' a' w')
  (hQ:∀ ch s' ρ' al' w',YRep R n B w0 g0 ρ' al' s' a w' g→Q (.panic ch) s' y→Q' (.panic ch) a w'):o.wpIn (Fw ro) 0 P a w K' Q':=by
 unfold sx at h
 split at h
 ·rename_i ob x E hp
  exact zn H.down hp h.1 fun ρ' al' w' H'=>hQ _ _ ρ' al' w' (H.up H' (tQ h.2.1 H.own)) h.2.2
 ·split at h
  ·rename_i Rs hR
   exact Da H.down hR h.2.1 h.1 fun ρ' al' a' w' H'=>hK _ _ ρ' al' a' w' g (H.up H' (tQ h.2.2.1 H.own)) h1 h2 h.2.2.2
  ·split at h
   case h_2=>exact h.elim
   rename_i As hy
   obtain ⟨hd,hl,hL,hp,ht,hf⟩:=h
   refine H.yield_wp hy (h2.trans hl) (by rw [h1];exact hL) hp hd fun g' a' w' hpos H'=>?_
   cases e:R.live g' with
   | true =>
    rw [e] at H'
    exact hK _ _ ρ al a' w' g' H' (by rw [hpos,h1]) e ht
   | false =>
    rw [e] at H'
    exact hK _ _ ρ al a' w' g' H' (by rw [hpos,h1]) e hf
noncomputable def bU (P:Program) (ctx:Ctx P) (l:Nat) (L:List (List AV)) (ro:Cf) (n:Nat):Nat→List Itm→St→Nat×Bool→(Exit→St→Nat×Bool→Prop)→Prop
 | 0,_,_,_,_=>False
 | _+1,[],s,y,Q=>Q .normal s y
 | f+1,.b _::r,s,y,Q=>bU P ctx l L ro n f r s y Q
 | f+1,.o _ []::r,s,y,Q=>bU P ctx l L ro n f r s y Q
 | f+1,.o all (o::t)::r,s,y,Q=>match o.guard with
  | none=>sx P ctx l L n o.dst o.op s y Q fun s' y'=>bU P ctx l L ro n f (.o all t::r) s' y' Q
  | some (j,want)=>match gAt all s.t j with
   | .s (.l (.v (.bool q)))=>cP n o.dst=true ∧
     (q=want→sx P ctx l L n o.dst o.op ⟨s.nx,jA all s.t j want,s.h⟩ y Q fun s' y'=>bU P ctx l L ro n f (.o all t::r) s' y' Q) ∧
     (q = !want→bU P ctx l L ro n f (.o all t::r) ⟨s.nx,putT (jA all s.t j (!want)) o.dst (.s (.l (.v (.tuple #[])))),s.h⟩ y Q)
   | .s (.l (.v (.tuple ⟨[]⟩)))=>cP n o.dst=true∧bU P ctx l L ro n f (.o all t::r) ⟨s.nx,putT s.t o.dst (.s (.l (.v (.tuple #[])))),s.h⟩ y Q
   | _=>False
 | f+1,.c x::r,s,y,Q=>match x with
  | .skip=>bU P ctx l L ro n f r s y Q
  | .label _=>bU P ctx l L ro n f r s y Q
  | .ret=>Q .ret s y
  | .exit id=>match gH id r with
   | some r'=>bU P ctx l L ro n f r' s y Q
   | none=>Q (.exit id) s y
  | .seq x z=>bU P ctx l L ro n f (.c x::.c z::r) s y Q
  | .cond c x z=>match evT s.t c with
   | .s (.l (.v (.bool q)))=>(q=true→bU P ctx l L ro n f (.c x::r) s y Q)∧(q=false→bU P ctx l L ro n f (.c z::r) s y Q)
   | _=>False
  | .block id x=>bU P ctx l L ro n f (.c x::.b id::r) s y Q
  | .region _ ops false=>bU P ctx l L ro n f (.o ops.toList ops.toList::r) s y Q
  | x=>SWy P l L ro n x s y (fun e s' y'=>match e with
   | .normal=>bU P ctx l L ro n f r s' y' Q
   | .exit id=>match gH id r with
    | some r'=>bU P ctx l L ro n f r' s' y' Q
    | none=>Q (.exit id) s' y'
   | e=>Q e s' y')
variable {γ:Type} (R:Rounds P l L γ)
def GoodY (P:Program) {l:Nat} {L:List (List AV)} {γ:Type} (R:Rounds P l L γ) (ro:Cf) (n:Nat) (B:dX) (w0:World) (g0:γ) (Q:Exit→St→Nat×Bool→Prop) (b:Frame) (k:List Item) (cs:List Frame) (r:List Itm) (a:Act) (w:World):Prop :=
 ∃ e a' w',(∃ ρ al s g,YRep R n B w0 g0 ρ al s a' w' g∧Q e s (R.pos g,R.live g))∧ArrivesIn (Machine.fenced P (Fw ro)) P (lone (b.atR a (r.map Itm.item++k)) cs w) b k cs e a' w'
theorem GoodY.step {R:Rounds P l L γ} {B:dX} {w0:World} {g0:γ} {b:Frame} {k:List Item} {cs:List Frame} {r r':List Itm} {a a':Act} {w w':World} (hs:StepsIn (Machine.fenced P (Fw ro)) P (lone (b.atR a (r.map Itm.item++k)) cs w) (lone (b.atR a' (r'.map Itm.item++k)) cs w')) (h:GoodY P R ro n B w0 g0 Q b k cs r' a' w'):GoodY P R ro n B w0 g0 Q b k cs r a w:=by
 obtain ⟨e,a2,w2,h1,h2⟩:=h
 exact ⟨e,a2,w2,h1,.of_steps hs h2⟩
def regY (P:Program) {l:Nat} {L:List (List AV)} {γ:Type} (R:Rounds P l L γ) (ro:Cf) (n:Nat) (B:dX) (w0:World) (g0:γ) (Q:Exit→St→Nat×Bool→Prop) (b:Frame) (k:List Item) (cs:List Frame) (r:List Itm):Exit→Act→World→Prop
 | .normal,a,w=>GoodY P R ro n B w0 g0 Q b k cs r a w
 | .panic ch,a,w=>∃ ρ al s g,YRep R n B w0 g0 ρ al s a w g∧Q (.panic ch) s (R.pos g,R.live g)
 | _,_,_=>False
theorem za {R:Rounds P l L γ} {B:dX} {w0:World} {g0:γ} {b:Frame} {k:List Item} {cs:List Frame} (hpl:B.pl.length=ro.K) (hb:b.roundOf=ro.ro):∀ (f:Nat),
  (∀ (r:List Itm) (s:St) (y:Nat×Bool) (ρ:Nat→Loc) (al:Al) (a:Act) (w:World) (g:γ),noO r=true→YRep R n B w0 g0 ρ al s a w g→R.pos g=y.1→R.live g=y.2→bU P ctx l L ro n f r s y Q→GoodY P R ro n B w0 g0 Q b k cs r a w) ∧
  (∀ (all t:List Oper) (r:List Itm) (s:St) (y:Nat×Bool) (ρ:Nat→Loc) (al:Al) (a:Act) (w:World) (g:γ),noO r=true→YRep R n B w0 g0 ρ al s a w g→R.pos g=y.1→R.live g=y.2→bU P ctx l L ro n f (.o all t::r) s y Q→wpListIn (Fw ro) 0 P all.toArray (regY P R ro n B w0 g0 Q b k cs r) t a w)
 | 0=>⟨fun r s y ρ al a w g _ _ _ _ h=>by simp only [bU] at h,fun all t r s y ρ al a w g _ _ _ _ h=>by simp only [bU] at h⟩
 | f+1=>by
  obtain ⟨ih1,ih2⟩:=za (R:=R) (B:=B) (w0:=w0) (g0:=g0) (b:=b) (k:=k) (cs:=cs) hpl hb f
  refine ⟨fun r s y ρ al a w g hr H p1 p2 h=>?_,fun all t r s y ρ al a w g hr H p1 p2 h=>?_⟩
  ·have pe:(R.pos g,R.live g)=y:=by rw [p1,p2]
   cases r with
   | nil=>exact ⟨.normal,a,w,⟨ρ,al,s,g,H,by rw [pe];simpa only [bU] using h⟩,.refl _⟩
   | cons x r =>
    cases x with
    | o _ _=>cases hr
    | b id=>exact GoodY.step (gh stepR_inBlock) (ih1 r s y ρ al a w g hr H p1 p2 (by simpa only [bU] using h))
    | c x =>
     have viaSW:SWy P l L ro n x s y (fun e s' y'=>match e with
       | .normal=>bU P ctx l L ro n f r s' y' Q
       | .exit id=>match gH id r with
        | some r'=>bU P ctx l L ro n f r' s' y' Q
        | none=>Q (.exit id) s' y'
       | e=>Q e s' y')→GoodY P R ro n B w0 g0 Q b k cs (.c x::r) a w:=by
      intro hsw
      obtain ⟨e,a',w',⟨ρ',al',s',g',H',hq⟩,harr⟩:=hsw γ R B w0 g0 ρ al a w g hpl H p1 p2 b (r.map Itm.item++k) cs hb trivial (uB _ _)
      cases e with
      | normal=>exact GoodY.step harr (ih1 r s' _ ρ' al' a' w' g' hr H' rfl rfl hq)
      | exit id =>
       have hx:=exitTo_pop (id:=id) k (r:=r) hr
       simp only at hq
       cases hp:gH id r with
       | some r' =>
        rw [hp] at hq hx
        exact GoodY.step (harr.1 _ hx) (ih1 r' s' _ ρ' al' a' w' g' (ly hr hp) H' rfl rfl hq)
       | none =>
        rw [hp] at hq hx
        exact ⟨.exit id,a',w',⟨ρ',al',s',g',H',hq⟩,fun k' hk=>harr.1 k' (hx.trans hk),fun hro hk=>harr.2 hro (hx.trans hk)⟩
      | goto l=>exact ⟨.goto l,a',w',⟨ρ',al',s',g',H',hq⟩,fun k' hk=>harr.1 k' ((gotoIn_pop k hr).trans hk),fun hro hk=>harr.2 hro ((gotoIn_pop k hr).trans hk)⟩
      | ret=>exact ⟨.ret,a',w',⟨ρ',al',s',g',H',hq⟩,harr⟩
      | panic ch=>exact ⟨.panic ch,a',w',⟨ρ',al',s',g',H',hq⟩,harr⟩
      | outgrown=>exact ⟨.outgrown,a',w',⟨ρ',al',s',g',H',hq⟩,harr⟩
     cases x with
     | skip=>exact GoodY.step (gh stepR_skip) (ih1 r s y ρ al a w g hr H p1 p2 (by simpa only [bU] using h))
     | label l=>exact GoodY.step (gh stepR_label) (ih1 r s y ρ al a w g hr H p1 p2 (by simpa only [bU] using h))
     | ret=>exact ⟨.ret,a,w,⟨ρ,al,s,g,H,by rw [pe];simpa only [bU] using h⟩,fun hn=>⟨_,gh (stepR_ret hn)⟩,fun _=>⟨_,.refl _⟩⟩
     | exit id =>
      have hx:=exitTo_pop (id:=id) k (r:=r) hr
      simp only [bU] at h
      cases hp:gH id r with
      | some r' =>
       rw [hp] at h hx
       exact GoodY.step (gh (stepR_exit hx)) (ih1 r' s y ρ al a w g (ly hr hp) H p1 p2 h)
      | none =>
       rw [hp] at h hx
       exact ⟨.exit id,a,w,⟨ρ,al,s,g,H,by rw [pe];exact h⟩,fun k' hk=>gh (stepR_exit (hx.trans hk)),fun _ hk=>⟨_,hx.trans hk,.refl _⟩⟩
     | seq x z=>exact GoodY.step (r':=.c x::.c z::r) (gh stepR_seq) (ih1 _ s y ρ al a w g hr H p1 p2 (by simpa only [bU] using h))
     | block id x=>exact GoodY.step (r':=.c x::.b id::r) (gh stepR_block) (ih1 _ s y ρ al a w g hr H p1 p2 (by simpa only [bU] using h))
     | cond c x z =>
      simp only [bU] at h
      split at h
      case h_2=>exact h.elim
      rename_i q hq
      have hv:=li H.r.t c
      rw [hq] at hv
      have hv':a.eval c=.bool q:=hv
      cases q with
      | true=>exact GoodY.step (r':=.c x::r) (gh (stepR_cond hv')) (ih1 _ s y ρ al a w g hr H p1 p2 (h.1 rfl))
      | false=>exact GoodY.step (r':=.c z::r) (gh (stepR_cond hv')) (ih1 _ s y ρ al a w g hr H p1 p2 (h.2 rfl))
     | region id ops draw =>
      cases draw with
      | true=>exact viaSW (by simpa only [bU] using h)
      | false =>
       have hl:=ih2 ops.toList ops.toList r s y ρ al a w g hr H p1 p2 (by simpa only [bU] using h)
       rw [Array.toArray_toList] at hl
       obtain ⟨e,a',w',hq,harr⟩:=wpIn_region_list (id:=id) hl b (r.map Itm.item++k) cs hb trivial (uB _ _)
       cases e with
       | normal=>exact GoodY.step (r:=.c (.region id ops false)::r) harr hq
       | panic ch=>exact ⟨.panic ch,a',w',hq,harr⟩
       | exit _=>exact hq.elim
       | goto _=>exact hq.elim
       | ret=>exact hq.elim
       | outgrown=>exact hq.elim
     | loop x=>exact viaSW (by simpa only [bU] using h)
     | rangeFunc _ _ _ _=>exact viaSW (by simpa only [bU] using h)
     | scope x=>exact viaSW (by simpa only [bU] using h)
     | goto l=>exact viaSW (by simpa only [bU] using h)
     | refuse y=>exact viaSW (by simpa only [bU] using h)
  ·have pe:(R.pos g,R.live g)=y:=by rw [p1,p2]
   cases t with
   | nil=>exact ih1 r s y ρ al a w g hr H p1 p2 (by simpa only [bU] using h)
   | cons o t =>
    unfold wpListIn
    simp only [bU] at h
    split at h
    ·rename_i hg
     rw [if_pos (by simp [Region.wanted,hg])]
     exact CR H p1 p2 h (fun s' y' ρ' al' a' w' g' H' q1 q2 hk=>ih2 all t r s' y' ρ' al' a' w' g' hr H' q1 q2 hk) (fun ch s' ρ' al' w' H' hq=>⟨ρ',al',s',g,H',by rw [pe];exact hq⟩)
    ·rename_i j want hg
     split at h
     case h_3=>exact h.elim
     case h_2 =>
      rename_i hq
      rw [if_neg (by simp [Region.wanted,hg,vB H.r.t hq])]
      refine ⟨fun _ _=>trivial,ih2 all t r ⟨s.nx,putT s.t o.dst (.s (.l (.v (.tuple #[])))),s.h⟩ y ρ al _ w g hr ?_ p1 p2 h.2⟩
      exact ⟨⟨kQ.trans H.r.size,(by rw [fc];exact H.r.defers),H.r.t.putT H.r.size h.1 nM,H.r.w,H.r.al⟩,H.own,H.J,H.N,H.dep,H.ownN,H.mem,H.memN,H.S,(by rw [fc];exact H.mks),H.fol,H.folm⟩
     rename_i q hq
     obtain ⟨h1,h2,h3⟩:=h
     have hy:=sM H.r.t H.r.size hq
     have hset:=CD H.r.t hq
     by_cases hqw:q=want
     ·rw [if_pos (by simp [Region.wanted,hg,hy,hqw])]
      have h4:=h2 hqw
      rw [hqw] at hset
      exact CR (s:=⟨s.nx,jA all s.t j want,s.h⟩) ⟨⟨H.r.size,H.r.defers,hset,H.r.w,H.r.al⟩,H.own,H.J,H.N,H.dep,H.ownN,H.mem,H.memN,H.S,H.mks,H.fol,H.folm⟩ p1 p2 h4 (fun s' y' ρ' al' a' w' g' H' q1 q2 hk=>ih2 all t r s' y' ρ' al' a' w' g' hr H' q1 q2 hk) (fun ch s' ρ' al' w' H' hq=>⟨ρ',al',s',g,H',by rw [pe];exact hq⟩)
     ·rw [if_neg (by simp [Region.wanted,hg,hy,hqw])]
      have hqn:q = !want:=by cases q<;>cases want<;>simp_all
      rw [hqn] at hset
      refine ⟨fun _ _=>trivial,ih2 all t r ⟨s.nx,putT (jA all s.t j (!want)) o.dst (.s (.l (.v (.tuple #[])))),s.h⟩ y ρ al _ w g hr ?_ p1 p2 (h3 hqn)⟩
      exact ⟨⟨kQ.trans H.r.size,(by rw [fc];exact H.r.defers),hset.putT H.r.size h1 nM,H.r.w,H.r.al⟩,H.own,H.J,H.N,H.dep,H.ownN,H.mem,H.memN,H.S,(by rw [fc];exact H.mks),H.fol,H.folm⟩
theorem oV {c:Code} {y:Nat×Bool} (f:Nat) (h:bU P ctx l L ro n f [.c c] s y Q):SWy P l L ro n c s y Q:=fun γ R B w0 g0 ρ al a w g hpl H h1 h2 b k cs hb _ _=>by
 obtain ⟨e,a',w',k1,k2⟩:=(za (R:=R) hpl hb f).1 [.c c] s y ρ al a w g rfl H h1 h2 h
 exact ⟨e,a',w',k1,k2⟩
end
section
variable {P:Program} {ctx:Ctx P} {l:Nat} {L:List (List AV)} {ro:Cf} {n:Nat} {s:St} {y:Nat×Bool} {Q:Exit→St→Nat×Bool→Prop} {K:St→Nat×Bool→Prop} {f:Nat} {r:List Itm}
def yY (L:List (List AV)) (n:Nat) (d:Option Tmp) (s:St) (y:Nat×Bool) (K:St→Nat×Bool→Prop):Option (List AV)→Prop
 | some As=>cP n d=true∧y.2=true∧L[y.1]? = some As∧As.all (·.pin 0)=true ∧
   K ⟨s.nx,putT s.t d (.s (.l (.v (.bool true)))),s.h⟩ (y.1+1,true)∧K ⟨s.nx,putT s.t d (.s (.l (.v (.bool false)))),s.h⟩ (y.1+1,false)
 | none=>False
def yO (n:Nat) (d:Option Tmp) (s:St) (y:Nat×Bool) (K:St→Nat×Bool→Prop) (rest:Prop):Option Res→Prop
 | some R=>cP n d=true∧R.ob∧pK R.E=true∧K ⟨s.nx+16,putT s.t d R.r,R.E++s.h⟩ y
 | none=>rest
def yP (s:St) (y:Nat×Bool) (Q:Exit→St→Nat×Bool→Prop) (rest:Prop):Option (Prop×Value×ag)→Prop
 | some (ob,x,E)=>ob∧pK E=true∧Q (.panic [{ v:=x,recovered:=false }]) ⟨s.nx+16,s.t,E++s.h⟩ y
 | none=>rest
theorem Mx {d:Option Tmp} {op:Op}:sx P ctx l L n d op s y Q K=yP s y Q (yO n d s y K (yY L n d s y K (yOp l op (evT s.t))) (aOp P ctx s.nx op (evT s.t) s.h)) (ue P ctx s.nx op (evT s.t) s.h):=by
 simp only [sx,yP,yO,yY]
theorem OG {rest:Prop}:yP s y Q rest none=rest:=rfl
theorem OH {rest:Prop} {ob:Prop} {x:Value} {E:ag}:yP s y Q rest (some (ob,x,E))=(ob∧pK E=true∧Q (.panic [{ v:=x,recovered:=false }]) ⟨s.nx+16,s.t,E++s.h⟩ y):=rfl
theorem OD {d:Option Tmp} {rest:Prop}:yO n d s y K rest none=rest:=rfl
theorem OE {d:Option Tmp} {rest:Prop} {ob:Prop} {x:AV} {E:ag}:yO n d s y K rest (some ⟨ob,x,E⟩)=(cP n d=true∧ob∧pK E=true∧K ⟨s.nx+16,putT s.t d x,E++s.h⟩ y):=rfl
theorem OL {d:Option Tmp} {As:List AV}:yY L n d s y K (some As)=(cP n d=true∧y.2=true∧L[y.1]? = some As∧As.all (·.pin 0)=true∧K ⟨s.nx,putT s.t d (.s (.l (.v (.bool true)))),s.h⟩ (y.1+1,true)∧K ⟨s.nx,putT s.t d (.s (.l (.v (.bool false)))),s.h⟩ (y.1+1,false)):=rfl
def yGd (P:Program) (ctx:Ctx P) (l:Nat) (L:List (List AV)) (ro:Cf) (n f:Nat) (all:List Oper) (o:Oper) (t:List Oper) (r:List Itm) (s:St) (y:Nat×Bool) (Q:Exit→St→Nat×Bool→Prop) (j:Nat) (want:Bool):AV→Prop
 | .s (.l (.v (.bool q)))=>cP n o.dst=true ∧
   (q=want→sx P ctx l L n o.dst o.op ⟨s.nx,jA all s.t j want,s.h⟩ y Q fun s' y'=>bU P ctx l L ro n f (.o all t::r) s' y' Q) ∧
   (q = !want→bU P ctx l L ro n f (.o all t::r) ⟨s.nx,putT (jA all s.t j (!want)) o.dst (.s (.l (.v (.tuple #[])))),s.h⟩ y Q)
 | .s (.l (.v (.tuple ⟨[]⟩)))=>cP n o.dst=true∧bU P ctx l L ro n f (.o all t::r) ⟨s.nx,putT s.t o.dst (.s (.l (.v (.tuple #[])))),s.h⟩ y Q
 | _=>False
def yBr (P:Program) (ctx:Ctx P) (l:Nat) (L:List (List AV)) (ro:Cf) (n f:Nat) (x z:Code) (r:List Itm) (s:St) (y:Nat×Bool) (Q:Exit→St→Nat×Bool→Prop):AV→Prop
 | .s (.l (.v (.bool q)))=>(q=true→bU P ctx l L ro n f (.c x::r) s y Q)∧(q=false→bU P ctx l L ro n f (.c z::r) s y Q)
 | _=>False
def yEx (P:Program) (ctx:Ctx P) (l:Nat) (L:List (List AV)) (ro:Cf) (n f id:Nat) (s:St) (y:Nat×Bool) (Q:Exit→St→Nat×Bool→Prop):Option (List Itm)→Prop
 | some r'=>bU P ctx l L ro n f r' s y Q
 | none=>Q (.exit id) s y
def uU (P:Program) (ctx:Ctx P) (l:Nat) (L:List (List AV)) (ro:Cf) (n f:Nat) (r:List Itm) (Q:Exit→St→Nat×Bool→Prop):Exit→St→Nat×Bool→Prop
 | .normal,s,y=>bU P ctx l L ro n f r s y Q
 | .exit id,s,y=>yEx P ctx l L ro n f id s y Q (gH id r)
 | e,s,y=>Q e s y
theorem Mv:bU P ctx l L ro n (f+1) [] s y Q=Q .normal s y:=by simp only [bU]
theorem Qx {id:Nat}:bU P ctx l L ro n (f+1) (.b id::r) s y Q=bU P ctx l L ro n f r s y Q:=by simp only [bU]
theorem OI {all:List Oper}:bU P ctx l L ro n (f+1) (.o all []::r) s y Q=bU P ctx l L ro n f r s y Q:=by simp only [bU]
theorem OJ {all t:List Oper} {d:Option Tmp} {op:Op} {ty:TypeId} {p:String} {af:Array Edge}:bU P ctx l L ro n (f+1) (.o all (⟨d,op,ty,p,af,none⟩::t)::r) s y Q=sx P ctx l L n d op s y Q fun s' y'=>bU P ctx l L ro n f (.o all t::r) s' y' Q:=by
 simp only [bU]
theorem OK {all t:List Oper} {d:Option Tmp} {op:Op} {ty:TypeId} {p:String} {af:Array Edge} {j:Nat} {want:Bool}:bU P ctx l L ro n (f+1) (.o all (⟨d,op,ty,p,af,some (j,want)⟩::t)::r) s y Q=yGd P ctx l L ro n f all ⟨d,op,ty,p,af,some (j,want)⟩ t r s y Q j want (gAt all s.t j):=by
 simp only [bU,yGd]
theorem I7:bU P ctx l L ro n (f+1) (.c .skip::r) s y Q=bU P ctx l L ro n f r s y Q:=by simp only [bU]
theorem CQ:bU P ctx l L ro n (f+1) (.c .ret::r) s y Q=Q .ret s y:=by simp only [bU]
theorem Mw {x z:Code}:bU P ctx l L ro n (f+1) (.c (.seq x z)::r) s y Q=bU P ctx l L ro n f (.c x::.c z::r) s y Q:=by simp only [bU]
theorem Fg {id:Nat} {x:Code}:bU P ctx l L ro n (f+1) (.c (.block id x)::r) s y Q=bU P ctx l L ro n f (.c x::.b id::r) s y Q:=by simp only [bU]
theorem I4 {c:Operand} {x z:Code}:bU P ctx l L ro n (f+1) (.c (.cond c x z)::r) s y Q=yBr P ctx l L ro n f x z r s y Q (evT s.t c):=by
 simp only [bU,yBr]
theorem CP {id:Nat} {t:List Oper}:bU P ctx l L ro n (f+1) (.c (.region id t.toArray false)::r) s y Q=bU P ctx l L ro n f (.o t t::r) s y Q:=by simp only [bU,List.toList_toArray]
theorem I5 {id:Nat}:bU P ctx l L ro n (f+1) (.c (.exit id)::r) s y Q=yEx P ctx l L ro n f id s y Q (gH id r):=by
 simp only [bU,yEx]
theorem I6 {x:Code}:bU P ctx l L ro n (f+1) (.c (.loop x)::r) s y Q=SWy P l L ro n (.loop x) s y (uU P ctx l L ro n f r Q):=by
 simp only [bU]
 congr 1
 funext e s' y'
 cases e<;>simp only [uU,yEx]
theorem xf:uU P ctx l L ro n f r Q .normal s y=bU P ctx l L ro n f r s y Q:=rfl
theorem AE {id:Nat}:uU P ctx l L ro n f r Q (.exit id) s y=yEx P ctx l L ro n f id s y Q (gH id r):=rfl
theorem Dg:uU P ctx l L ro n f r Q .ret s y=Q .ret s y:=rfl
theorem Mu {id:Nat} {r':List Itm}:yEx P ctx l L ro n f id s y Q (some r')=bU P ctx l L ro n f r' s y Q:=rfl
theorem Mt {id:Nat}:yEx P ctx l L ro n f id s y Q none=Q (.exit id) s y:=rfl
theorem Mr {x z:Code}:yBr P ctx l L ro n f x z r s y Q (.s (.l (.v (.bool true))))=bU P ctx l L ro n f (.c x::r) s y Q:=by simp [yBr]
theorem I3 {x z:Code}:yBr P ctx l L ro n f x z r s y Q (.s (.l (.v (.bool false))))=bU P ctx l L ro n f (.c z::r) s y Q:=by simp [yBr]
theorem OA {x z:Code} {u v:Int}:yBr P ctx l L ro n f x z r s y Q (.s (.l (.v (.bool (u==v)))))=((u=v→bU P ctx l L ro n f (.c x::r) s y Q)∧(¬u=v→bU P ctx l L ro n f (.c z::r) s y Q)):=by simp [yBr]
section
variable {all t:List Oper} {o:Oper} {j:Nat} {want:Bool}
theorem OC (h:cP n o.dst=true):yGd P ctx l L ro n f all o t r s y Q j want (.s (.l (.v (.bool want))))=sx P ctx l L n o.dst o.op ⟨s.nx,jA all s.t j want,s.h⟩ y Q fun s' y'=>bU P ctx l L ro n f (.o all t::r) s' y' Q:=by
 cases want<;>simp [yGd,h]
theorem Qw (h:cP n o.dst=true):yGd P ctx l L ro n f all o t r s y Q j true (.s (.l (.v (.bool false))))=bU P ctx l L ro n f (.o all t::r) ⟨s.nx,putT (jA all s.t j false) o.dst (.s (.l (.v (.tuple #[])))),s.h⟩ y Q:=by simp [yGd,h]
theorem OB {u v:Int} (h:cP n o.dst=true):yGd P ctx l L ro n f all o t r s y Q j want (.s (.l (.v (.bool (u==v)))))=((u=v→yGd P ctx l L ro n f all o t r s y Q j want (.s (.l (.v (.bool true)))))∧(¬u=v→yGd P ctx l L ro n f all o t r s y Q j want (.s (.l (.v (.bool false)))))):=by
 by_cases hp:u=v
 ·have e:(u==v)=true:=by simp [hp]
  rw [e];simp [hp]
 ·have e:(u==v)=false:=by simp [hp]
  rw [e];simp [hp]
end
def Ad (ro:Cf) {ι:Type} (inv:ι→Prop) (I:ι→St) (Y:ι→Nat×Bool) (m:ι→Nat) (i:ι) (Q:Exit→St→Nat×Bool→Prop):Exit→St→Nat×Bool→Prop
 | .normal,s,y=>∃ j,inv j∧m j<m i∧y=Y j∧Wk ro s (I j)
 | e,s,y=>Q e s y
theorem xv {ι:Type} {inv:ι→Prop} {I:ι→St} {Y:ι→Nat×Bool} {m:ι→Nat} {i:ι}:Ad ro inv I Y m i Q .normal s y = ∃ j,inv j∧m j<m i∧y=Y j∧Wk ro s (I j):=rfl
theorem Cz {ι:Type} {inv:ι→Prop} {I:ι→St} {Y:ι→Nat×Bool} {m:ι→Nat} {i:ι} {id:Nat}:Ad ro inv I Y m i Q (.exit id) s y=Q (.exit id) s y:=rfl
theorem EP {ι:Type} {inv:ι→Prop} {I:ι→St} {Y:ι→Nat×Bool} {m:ι→Nat} {i:ι}:Ad ro inv I Y m i Q .ret s y=Q .ret s y:=rfl
theorem wW {ι:Type} {c:Code} (inv:ι→Prop) (I:ι→St) (Y:ι→Nat×Bool) (m:ι→Nat) (i0:ι) (h0:inv i0) (hy0:y=Y i0) (hown:∀ i,inv i→∀ b k,aq (I i).h b=some k→k.own=true) (start:Wk ro s (I i0)) (round:∀ i,inv i→SWy P l L ro n c (I i) (Y i) (Ad ro inv I Y m i Q)):SWy P l L ro n (.loop c) s y Q:=by
 intro γ R B w0 g0 ρ al a w g hpl H p1 p2
 classical
 let Jn:Act→World→Prop:=fun a w=>∃ i ρ al g,inv i∧YRep R n B w0 g0 ρ al (I i) a w g∧(R.pos g,R.live g)=Y i
 let μ:Act→World→Nat:=fun a w=>if hq:∃ k,∃ i ρ al g,m i=k∧inv i∧YRep R n B w0 g0 ρ al (I i) a w g∧(R.pos g,R.live g)=Y i then (cI hq).choose else 0
 obtain ⟨ρ0,al0,H0⟩:=H.wk hpl start (hown i0 h0)
 refine wpIn_loop Jn μ ⟨i0,ρ0,al0,g,h0,H0,by rw [p1,p2,← hy0]⟩ ?_
 rintro a1 w1 ⟨i1,ρ1',al1',g1,hi1,H1,e1⟩
 have hq:∃ k,∃ i ρ al g,m i=k∧inv i∧YRep R n B w0 g0 ρ al (I i) a1 w1 g∧(R.pos g,R.live g)=Y i:=⟨_,i1,ρ1',al1',g1,rfl,hi1,H1,e1⟩
 have hμ:μ a1 w1=(cI hq).choose:=dif_pos hq
 obtain ⟨i,ρi,ali,gi,hmi,hii,Hi,ei⟩:=(cI hq).choose_spec.1
 refine wpIn_mono (round i hii γ R B w0 g0 ρi ali a1 w1 gi hpl Hi (congrArg Prod.fst ei) (congrArg Prod.snd ei)) ?_
 rintro e a2 w2 ⟨ρ2,al2,s2,g2,H2,q⟩
 cases e with
 | normal =>
  obtain ⟨j,hij,hj,hyj,hwk⟩:=q
  obtain ⟨ρ3,al3,H3⟩:=H2.wk hpl hwk (hown j hij)
  refine ⟨⟨j,ρ3,al3,g2,hij,H3,hyj⟩,?_⟩
  have hq2:∃ k,∃ i ρ al g,m i=k∧inv i∧YRep R n B w0 g0 ρ al (I i) a2 w2 g∧(R.pos g,R.live g)=Y i:=⟨_,j,ρ3,al3,g2,rfl,hij,H3,hyj⟩
  have h1:μ a2 w2=(cI hq2).choose:=dif_pos hq2
  have h2:(cI hq2).choose≤m j:=(cI hq2).choose_spec.2 _ ⟨j,ρ3,al3,g2,rfl,hij,H3,hyj⟩
  rw [h1,hμ,← hmi]
  omega
 | _=>exact ⟨ρ2,al2,s2,g2,H2,q⟩
end
end
end Go.Proofs.YthcoegkfpinlfaaGreatDoor
