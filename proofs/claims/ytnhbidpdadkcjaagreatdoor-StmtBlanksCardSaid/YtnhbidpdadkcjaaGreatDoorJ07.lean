import Derived.Test.YtnhbidpdadkcjaaGreatDoorJ06
import Derived.RecoverIn
import Derived.Test.YtnhbidpdadkcjaaGreatDoorJ01
set_option linter.unusedVariables false
set_option linter.unusedSimpArgs false
set_option maxRecDepth 100000
set_option maxHeartbeats 8000000
namespace Go.Proofs.YtnhbidpdadkcjaaGreatDoor
section
open Go.RowKit
section
variable {ρ ρ':Nat→Loc} {al al':Al} {g:Nat→Nat}
structure Fwd (ρ ρ':Nat→Loc) (al al':Al) (g:Nat→Nat):Prop where
 M:al.M.le al'.M
 eq:∀ j,al.p j→ρ' (g j)=ρ j
 al:∀ j,al.p j→al'.p (g j)
theorem LRep.fwd (F:Fwd ρ ρ' al al' g) {x:LV} {y:Value} (h:LRep ρ al x y):LRep ρ' al' (x.ren g) y:=by
 cases x with
 | v x=>exact h
 | d x=>exact DRep.mono F.M h
 | any=>trivial
 | p b i j=>obtain ⟨a,e⟩:=h;exact ⟨F.al b a,by rw [F.eq b a];exact e⟩
 | bf k bs cs =>
  obtain ⟨a,c,e⟩:=h
  have h1:∀ l:List Nat,(∀ b∈l,al.p b)→(l.map g).map (pAt ρ')=l.map (pAt ρ):=fun l hl=>by
   rw [List.map_map]
   exact List.map_congr_left fun b hb=>by simp only [Function.comp,pAt];rw [F.eq b (hl b hb)]
  have h2:∀ l:List Nat,(∀ b∈l,al.p b)→∀ b∈l.map g,al'.p b:=fun l hl b hb=>by
   obtain ⟨q,hq,rfl⟩:=List.mem_map.1 hb
   exact F.al q (hl q hq)
  exact ⟨h2 bs a,h2 cs c,by rw [h1 bs a,h1 cs c];exact e⟩
 | sl b i n=>obtain ⟨a,e⟩:=h;exact ⟨F.al b a,by rw [F.eq b a];exact e⟩
theorem DY {els:List (List LV)} {i j:Nat} {x:LV} (h:cellAt (els.map (·.map (·.ren g))) i j=some x):∃ z,cellAt els i j=some z∧x=z.ren g:=by
 obtain ⟨e,h1,h2⟩:=bH.1 h
 rw [List.getElem?_map,Option.map_eq_some_iff] at h1
 obtain ⟨e',h1,rfl⟩:=h1
 rw [List.getElem?_map,Option.map_eq_some_iff] at h2
 obtain ⟨z,h2,rfl⟩:=h2
 exact ⟨z,bH.2 ⟨e',h1,h2⟩,rfl⟩
theorem BRep.fwd (F:Fwd ρ ρ' al al' g) {w:World} {b:Nat} {k:Blk} (h:BRep ρ al w b k):BRep ρ' al' w (g b) (k.ren g):=by
 have e:=F.eq b h.here
 refine ⟨F.al b h.here,by rw [e];exact h.own,by rw [e];exact h.sz,fun x hx=>?_,by rw [e];simpa [Blk.ren] using h.cap,fun i j x hx=>?_,by rw [e];exact h.room⟩
 ·simp only [Blk.ren,List.mem_map] at hx
  obtain ⟨y,hy,rfl⟩:=hx
  simpa [Blk.ren] using h.len y hy
 ·obtain ⟨z,hz,rfl⟩:=DY hx
  obtain ⟨y,h1,h2,h3⟩:=h.cells i j z hz
  exact ⟨y,by rw [e];exact h1,h2,h3.fwd F⟩
end
def bB:Nat→List Blk→ah
 | _,[]=>[]
 | j,k::r=>(j,some k)::bB (j+1) r
def gm:Nat→List (Option Blk)→ah
 | _,[]=>[]
 | j,k::r=>(j,k)::gm (j+1) r
theorem uu:∀ {ks:List (Option Blk)} {j b:Nat} {k:Blk},hget (gm j ks) b=some k→j≤b∧ks[b-j]? = some (some k)
 | [],_,_,_,h=>by cases h
 | x::ks,j,b,k,h=>by
  simp only [gm,hget] at h
  split at h
  ·rename_i e;subst e;subst h;exact ⟨Nat.le_refl _,by simp⟩
  ·obtain ⟨h1,h2⟩:=uu h
   refine ⟨by omega,?_⟩
   rw [show b-j=(b-(j+1))+1 by omega,List.getElem?_cons_succ]
   exact h2
theorem zzu6:∀ {ks:List Blk} {j:Nat},bB j ks=gm j (ks.map some)
 | [],_=>rfl
 | k::ks,j=>by rw [bB,List.map_cons,gm,zzu6]
theorem H8 {ks:List Blk} {j b:Nat} {k:Blk} (h:hget (bB j ks) b=some k):j≤b∧ks[b-j]? = some k:=by
 rw [zzu6] at h
 obtain ⟨h1,h2⟩:=uu h
 rw [List.getElem?_map,Option.map_eq_some_iff] at h2
 obtain ⟨x,h2,h3⟩:=h2
 injection h3 with h3
 subst h3
 exact ⟨h1,h2⟩
def kn (h:ah):List Nat:=h.map (·.1)
theorem ra:∀ (ks:List (Option Blk)) (j:Nat),kn (gm j ks)=(List.range ks.length).map (j+·)
 | [],_=>rfl
 | k::ks,j=>by
  have:=ra ks (j+1)
  unfold kn at this ⊢
  rw [gm,List.map_cons,this,List.length_cons,List.range_succ_eq_map,List.map_cons,List.map_map]
  refine congr (congrArg List.cons rfl) (List.map_congr_left fun x _=>?_)
  show j+1+x=j+(x+1)
  omega
def yV (g:Nat→Nat) (h:ah):ah:=h.map fun x=>(g x.1,x.2.map (·.ren g))
theorem hget_renH {g:Nat→Nat} {h:ah}:∀ {E:ah} {b:Nat} {k:Blk},(∀ i∈kn E,∀ j∈kn E,g i=g j→i=j)→hget (yV g E++h) b=some k →
  (∃ j k0,hget E j=some k0∧b=g j∧k=k0.ren g)∨((∀ j∈kn E,g j≠b)∧hget h b=some k)
 | [],b,k,_,hk=>.inr ⟨by simp [kn],hk⟩
 | (c,x)::E,b,k,hi,hk=>by
  simp only [yV,List.map_cons,List.cons_append,hget] at hk
  split at hk
  ·rename_i e
   rw [Option.map_eq_some_iff] at hk
   obtain ⟨k0,h1,h2⟩:=hk
   exact .inl ⟨c,k0,by rw [hget,if_pos rfl];exact h1,e.symm,h2.symm⟩
  ·rename_i hne
   rcases hget_renH (fun i hI j hJ=>hi i (by unfold kn at hI ⊢;simp;exact .inr (by simpa using hI)) j (by unfold kn at hJ ⊢;simp;exact .inr (by simpa using hJ))) hk with ⟨j,k0,h1,h2,h3⟩ | ⟨h1,h2⟩
   ·refine .inl ⟨j,k0,?_,h2,h3⟩
    rw [hget]
    split
    ·rename_i e
     rw [e] at hne
     exact absurd h2.symm hne
    ·exact h1
   ·refine .inr ⟨fun j hj=>?_,h2⟩
    unfold kn at hj
    rw [List.map_cons,List.mem_cons] at hj
    rcases hj with rfl | hj
    ·exact hne
    ·exact h1 j hj
inductive RO where
 | ret (r:AV) (hs:List (Option Blk)) (ns:List Blk)
 | pan (v:Value)
def gOf (K:Nat) (bs:List Nat) (id:Nat) (j:Nat):Nat:=if j<K then bs.getD j 0 else id+(j-K)
section
variable {P:Program}
def oH (K:Nat) (s:St) (o:RO):Option AV→Prop
 | some r=>r.plain=true∧∃ hs ns,o=.ret r hs ns∧hs.length=K∧ns.length≤16∧(∀ k,some k∈hs→k.own=true)∧(∀ k∈ns,k.own=true)∧Wk ⟨none,K⟩ s ⟨K+ns.length,[],gm 0 hs++bB K ns⟩
 | none=>False
theorem xA {K:Nat} {s:St} {o:RO} {r:Option AV} (h:oH K s o r):∃ r' hs ns,o=.ret r' hs ns∧r=some r'∧r'.plain=true∧hs.length=K∧ns.length≤16∧(∀ k,some k∈hs→k.own=true)∧(∀ k∈ns,k.own=true)∧Wk ⟨none,K⟩ s ⟨K+ns.length,[],gm 0 hs++bB K ns⟩:=by
 unfold oH at h
 split at h
 ·obtain ⟨h0,hs,ns,h1,h2⟩:=h
  exact ⟨_,hs,ns,h1,rfl,h0,h2⟩
 ·exact h.elim
def dy (P:Program) (rs:List ResultVar) (K:Nat) (o:RO):Exit→St→Prop :=
 rv (fun s=>oH K s o (nT P rs s)) (fun x _=>o=.pan x)
theorem CV {P:Program} {rs:List ResultVar} {K:Nat} {o:RO} {s:St}:dy P rs K o .normal s=oH K s o (nT P rs s):=rfl
theorem Mo {P:Program} {rs:List ResultVar} {K:Nat} {o:RO} {s:St}:dy P rs K o .ret s=oH K s o (nT P rs s):=rfl
theorem EU {P:Program} {rs:List ResultVar} {K:Nat} {o:RO} {x:Value} {s:St}:dy P rs K o (.panic [{ v:=x,recovered:=false }]) s=(o=.pan x):=po
def gu {X:Type} (K:Nat) (dec:ah→List AV→Option (Prop×List Nat×X)) (out:X→RO) (id:Nat) (h:ah) (args:List AV):Option Res :=
 match dec h args with
 | some (q,bs,x)=>match out x with
  | .ret r hs ns=>some ⟨q,r,yV (gOf K bs id) (gm 0 hs++bB K ns)++(bs.drop K).map fun b=>(b,none)⟩
  | .pan _=>none
 | none=>none
def fX {X:Type} (dec:ah→List AV→Option (Prop×List Nat×X)) (out:X→RO) (h:ah) (args:List AV):Option (Prop×Value×ah) :=
 match dec h args with
 | some (q,bs,x)=>match out x with
  | .ret _ _ _=>none
  | .pan v=>some (q,v,bs.map fun b=>(b,none))
 | none=>none
section
variable {B:eK} {w0:World} {ρ:Nat→Loc} {al:Al} {h:ah} {w:World}
def jZ (w:World) (ρ:Nat→Loc) (al:Al) (bs:List Nat) (K:Nat) (id:Nat) (g:Gok al.M):eK :=
 ⟨fun k=>k<w.heap.size∧∀ b∈bs,(ρ b).cap≠0→(ρ b).blk≠k,al.M,(List.range K).map fun j=>ρ (bs.getD j id),[],g⟩
theorem kj {bs:List Nat} {j d:Nat} (h:j<bs.length):bs.getD j d=bs[j]:=by
 rw [List.getD_eq_getElem?_getD,List.getElem?_eq_getElem h];rfl
theorem AL (H:WRep B w0 ρ al h w) {bs:List Nat} {K:Nat} (hKb:K≤bs.length) {id:Nat} (hid:¬al id) {ks:List Blk} (hl:ks.length=bs.length) (hnd:bs.Nodup)
  (hks:∀ (j b:Nat) (k:Blk),bs[j]? = some b→ks[j]? = some k→k.own=true∧hget h b=some (k.ren fun j=>bs.getD j id)) :
  WRep (jZ w ρ al bs K id H.gok) w (fun j=>ρ (bs.getD j id)) (alR al fun j=>bs.getD j id) (bB 0 ks) w:=by
 have at_:∀ {j k},hget (bB 0 ks) j=some k→∃ hj:j<bs.length,k.own=true∧hget h (bs.getD j id)=some (k.ren fun j=>bs.getD j id)∧bs.getD j id=bs[j]:=by
  intro j k hk
  obtain ⟨_,h2⟩:=H8 hk
  rw [Nat.sub_zero] at h2
  have hj:j<bs.length:=by rw [← hl];exact (List.getElem?_eq_some_iff.1 h2).1
  obtain ⟨g1,g2⟩:=hks j bs[j] k (List.getElem?_eq_getElem hj) h2
  exact ⟨hj,g1,by rw [kj hj];exact g2,kj hj⟩
 refine ⟨fun k hk=>hk.1,.refl _ _,?_,?_,?_,?_,H.mem,?_,fun b o y hy=>.inl hy,Mem.le_refl _,?_⟩
 ·intro j k hk
  obtain ⟨_,_,h2,_⟩:=at_ hk
  exact (H.blk _ _ h2).ren
 ·intro j k hk _ hc hS
  obtain ⟨hj,_,_,h3⟩:=at_ hk
  refine hS.2 _ ?_ hc rfl
  rw [h3];exact List.getElem_mem hj
 ·intro j k hk ho
  obtain ⟨_,h1,_⟩:=at_ hk
  rw [h1] at ho;cases ho
 ·intro j i k l hk hl' _ _ ck cl hne
  obtain ⟨hj,o1,h2,e2⟩:=at_ hk
  obtain ⟨hi,o3,h4,e4⟩:=at_ hl'
  refine H.apart _ _ _ _ h2 h4 o1 o3 ck cl ?_
  rw [e2,e4]
  exact fun e=>hne ((List.getElem_inj hnd).1 e)
 ·intro j k hk _ hc o
  obtain ⟨_,h1,h2,_⟩:=at_ hk
  exact H.memOwn _ _ h2 h1 hc o
 ·intro j l hj
  simp only [jZ,List.getElem?_map,Option.map_eq_some_iff] at hj
  obtain ⟨j',h1,rfl⟩:=hj
  have hj3:j<K:=by
   rcases Nat.lt_or_ge j K with h | h
   ·exact h
   ·rw [List.getElem?_eq_none (by simpa using h)] at h1;cases h1
  have hj2:j<bs.length:=by omega
  rw [List.getElem?_range hj3] at h1
  injection h1 with h1
  subst h1
  refine ⟨?_,rfl⟩
  obtain ⟨g1,g2⟩:=hks j bs[j] (ks[j]'(by omega)) (List.getElem?_eq_getElem hj2) (List.getElem?_eq_getElem _)
  show al (bs.getD j id)
  rw [kj hj2]
  exact (H.blk _ _ g2).here
theorem Gl (H:WRep B w0 ρ al h w) {bs:List Nat} {K:Nat} (hKb:K≤bs.length) {id:Nat} (hid:∀ b,id≤b→b<id+16→¬al b) (hnd:bs.Nodup) (hbs:∀ b∈bs,∃ k,hget h b=some k∧k.own=true)
  {ρ2:Nat→Loc} {al2:Al} {hs:List (Option Blk)} {ns:List Blk} {w1:World} (hl:hs.length=K) (hn:ns.length≤16) (ho1:∀ k,some k∈hs→k.own=true) (ho2:∀ k∈ns,k.own=true)
  (H2:WRep (jZ w ρ al bs K id H.gok) w ρ2 al2 (gm 0 hs++bB K ns) w1) (hal:∀ b,al2 b→b<K+ns.length) :
  ∃ ρ' al',Ext ρ ρ' al al'∧(∀ b,al' b→alW al id b)∧WRep B w0 ρ' al' (yV (gOf K bs id) (gm 0 hs++bB K ns)++(((bs.drop K).map fun b=>(b,none))++h)) w1∧Fwd ρ2 ρ' al2 al' (gOf K bs id):=by
 let ρ':Nat→Loc:=fun b=>if id≤b∧b<id+ns.length then ρ2 (K+(b-id)) else ρ b
 let al':Al:=⟨fun b=>al b∨(id≤b∧b<id+ns.length),al2.M⟩
 have hloc:gm 0 hs++bB K ns=gm 0 (hs++ns.map some):=by
  rw [zzu6]
  have:∀ (a b:List (Option Blk)) (j:Nat),gm j (a++b)=gm j a++gm (j+a.length) b:=by
   intro a
   induction a with
   | nil=>intro b j;simp [gm]
   | cons x a ih=>intro b j;rw [List.cons_append,gm,gm,ih];simp [Nat.add_assoc,Nat.add_comm 1]
  rw [this,hl,Nat.zero_add]
 rw [hloc] at H2 ⊢
 generalize hE:gm 0 (hs++ns.map some)=E at *
 have hkeys:kn E=List.range (K+ns.length):=by
  rw [← hE,ra]
  simp [hl]
 have hown:∀ {j k},hget E j=some k→k.own=true∧j<K+ns.length:=by
  intro j k hk
  rw [← hE] at hk
  obtain ⟨_,h2⟩:=uu hk
  rw [Nat.sub_zero] at h2
  have h3:=List.mem_of_getElem? h2
  refine ⟨?_,by have:=(List.getElem?_eq_some_iff.1 h2).1;simpa [hl] using this⟩
  rcases List.mem_append.1 h3 with h3 | h3
  ·exact ho1 k h3
  ·obtain ⟨k',h4,h5⟩:=List.mem_map.1 h3
   injection h5 with h5
   subst h5
   exact ho2 k' h4
 have hpin:∀ j (hj:j<K),al2 j∧ρ2 j=ρ (bs[j]'(by omega)):=by
  intro j hj
  have hj2:j<bs.length:=by omega
  have:=H2.pins j (ρ bs[j]) (by simp [jZ,List.getElem?_range hj,List.getElem?_eq_getElem hj2])
  exact this
 have hbal:∀ b∈bs,al b:=fun b hb=>by obtain ⟨k,hk,_⟩:=hbs b hb;exact (H.blk b k hk).here
 have hold:∀ b,al b→ρ' b=ρ b:=fun b hb=>if_neg fun h=>hid b h.1 (by omega) hb
 have E1:Ext ρ ρ' al al':=⟨hold,H2.memOld,fun _ hb=>.inl hb⟩
 have F:Fwd ρ2 ρ' al2 al' (gOf K bs id):=by
  have key:∀ j,al2 j→al'.p (gOf K bs id j)∧ρ' (gOf K bs id j)=ρ2 j:=by
   intro j hj
   have hlt:=hal j hj
   unfold gOf
   by_cases h:j<K
   ·have hjb:j<bs.length:=by omega
    rw [if_pos h,kj hjb]
    have hb:=hbal _ (List.getElem_mem hjb)
    exact ⟨.inl hb,(hold _ hb).trans (hpin j h).2.symm⟩
   ·rw [if_neg h]
    refine ⟨.inr ⟨by omega,by omega⟩,?_⟩
    show (if id≤id+(j-K)∧id+(j-K)<id+ns.length then ρ2 (K+(id+(j-K)-id)) else _)=_
    rw [if_pos ⟨by omega,by omega⟩]
    congr 1
    omega
  exact ⟨Mem.le_refl _,fun j hj=>(key j hj).2,fun j hj=>(key j hj).1⟩
 have hinj:∀ i∈kn E,∀ j∈kn E,gOf K bs id i=gOf K bs id j→i=j:=by
  intro i hi j hj e
  rw [hkeys,List.mem_range] at hi hj
  unfold gOf at e
  by_cases h1:i<K<;>by_cases h2:j<K
  ·have h1':i<bs.length:=by omega
   have h2':j<bs.length:=by omega
   rw [if_pos h1,if_pos h2,kj h1',kj h2'] at e
   exact (List.getElem_inj hnd).1 e
  ·have h1':i<bs.length:=by omega
   rw [if_pos h1,if_neg h2,kj h1'] at e
   exact absurd (hbal _ (List.getElem_mem h1')) (hid _ (by omega) (by omega))
  ·have h2':j<bs.length:=by omega
   rw [if_neg h1,if_pos h2,kj h2'] at e
   exact absurd (hbal _ (List.getElem_mem h2')) (hid _ (by omega) (by omega))
  ·rw [if_neg h1,if_neg h2] at e;omega
 have hcls:∀ {b:Nat} {k:Blk},hget (yV (gOf K bs id) E++(((bs.drop K).map fun b=>(b,none))++h)) b=some k→(∃ j k0,hget E j=some k0∧b=gOf K bs id j∧k=k0.ren (gOf K bs id))∨(b∉bs∧hget h b=some k):=by
  intro b k hk
  rcases hget_renH hinj hk with h1 | ⟨h1,h2⟩
  ·exact .inl h1
  ·obtain ⟨h3,h4⟩:=dG h2
   refine .inr ⟨fun hb=>?_,h4⟩
   obtain ⟨j,hj,rfl⟩:=List.mem_iff_getElem.1 hb
   by_cases hjK:j<K
   ·have:=h1 j (by rw [hkeys,List.mem_range];omega)
    unfold gOf at this
    rw [if_pos hjK,kj hj] at this
    exact this rfl
   ·refine h3 ?_
    rw [List.mem_iff_getElem?]
    exact ⟨j-K,by rw [List.getElem?_drop,show K+(j-K)=j by omega,List.getElem?_eq_getElem hj]⟩
 have hfar:∀ b k,b∉bs→hget h b=some k→k.els≠[]∨(k.own=true∧(ρ b).cap≠0)→(jZ w ρ al bs K id H.gok).S (ρ b).blk:=by
  intro b k hb hk hc
  refine ⟨H.lt hk hc,fun c hc' hcap=>?_⟩
  obtain ⟨l,hl',ol⟩:=hbs _ hc'
  exact (H.other hl' ol hcap hk hc (fun e=>hb (e▸hc'))).symm
 have hbase:∀ k,B.S k→(jZ w ρ al bs K id H.gok).S k:=fun k hk=>⟨H.size k hk,fun c hc hcap e=>by
  obtain ⟨l,hl',ol⟩:=hbs c hc
  exact H.own c l hl' ol hcap (e▸hk)⟩
 refine ⟨ρ',al',E1,fun b hb=>hb.elim .inl fun hb=>.inr ⟨hb.1,by have:=hb.2;omega⟩,⟨H.base,H.below.trans (H2.below.mono hbase),?_,?_,?_,?_,H2.mem,?_,?_,Mem.le_trans H.memOld H2.memOld,?_⟩,F⟩
 ·intro b k hk
  rcases hcls hk with ⟨j,k0,h1,rfl,rfl⟩ | ⟨h1,h2⟩
  ·exact (H2.blk j k0 h1).fwd F
  ·exact (H.blk b k h2).ext' E1 fun hc=>H2.below.block _ (hfar b k h1 h2 hc)
 ·intro b k hk ho hc
  rcases hcls hk with ⟨j,k0,h1,rfl,rfl⟩ | ⟨h1,h2⟩
  ·have e:=F.eq j (H2.blk j k0 h1).here
   rw [e] at hc ⊢
   exact fun hS=>H2.own j k0 h1 (hown h1).1 hc (hbase _ hS)
  ·have e:=hold b (H.blk b k h2).here
   rw [e] at hc ⊢
   exact H.own b k h2 ho hc
 ·intro b k hk ho
  rcases hcls hk with ⟨j,k0,h1,rfl,rfl⟩ | ⟨h1,h2⟩
  ·have:k0.own=true:=(hown h1).1
   have h3:k0.own=false:=ho
   rw [this] at h3;cases h3
  ·rw [hold b (H.blk b k h2).here]
   exact H.old b k h2 ho
 ·intro b c k l hk hl' ok ol cb cc hne
  rcases hcls hk with ⟨j,k0,h1,rfl,rfl⟩ | ⟨h1,h2⟩<;>rcases hcls hl' with ⟨i,l0,g1,rfl,rfl⟩ | ⟨g1,g2⟩
  ·have e1:=F.eq j (H2.blk j k0 h1).here
   have e2:=F.eq i (H2.blk i l0 g1).here
   rw [e1] at cb ⊢
   rw [e2] at cc ⊢
   exact H2.apart j i k0 l0 h1 g1 (hown h1).1 (hown g1).1 cb cc (fun e=>hne (by rw [e]))
  ·have e1:=F.eq j (H2.blk j k0 h1).here
   have e2:=hold c (H.blk c l g2).here
   rw [e1] at cb ⊢
   rw [e2] at cc ⊢
   exact fun e=>H2.own j k0 h1 (hown h1).1 cb (e▸hfar c l g1 g2 (.inr ⟨ol,cc⟩))
  ·have e1:=F.eq i (H2.blk i l0 g1).here
   have e2:=hold b (H.blk b k h2).here
   rw [e1] at cc ⊢
   rw [e2] at cb ⊢
   exact fun e=>H2.own i l0 g1 (hown g1).1 cc (e▸hfar b k h1 h2 (.inr ⟨ok,cb⟩))
  ·have e1:=hold b (H.blk b k h2).here
   have e2:=hold c (H.blk c l g2).here
   rw [e1] at cb ⊢
   rw [e2] at cc ⊢
   exact H.apart b c k l h2 g2 ok ol cb cc hne
 ·intro b k hk ho hc o
  rcases hcls hk with ⟨j,k0,h1,rfl,rfl⟩ | ⟨h1,h2⟩
  ·have e:=F.eq j (H2.blk j k0 h1).here
   rw [e] at hc ⊢
   exact H2.memOwn j k0 h1 (hown h1).1 hc o
  ·have e:=hold b (H.blk b k h2).here
   rw [e] at hc ⊢
   cases hy:al2.M (ρ b).blk o with
   | none=>rfl
   | some y =>
    rcases H2.memNew _ _ _ hy with h3 | h3
    ·have:al.M (ρ b).blk o=some y:=h3
     rw [H.memOwn b k h2 ho hc o] at this;cases this
    ·exact absurd (hfar b k h1 h2 (.inr ⟨ho,hc⟩)) h3
 ·intro b o y hy
  rcases H2.memNew _ _ _ hy with h3 | h3
  ·exact H.memNew b o y h3
  ·exact .inr fun hS=>h3 (hbase b hS)
 ·intro j l hj
  obtain ⟨h1,h2⟩:=H.pins j l hj
  exact ⟨.inl h1,(hold j h1).trans h2⟩
theorem EC (H:WRep B w0 ρ al h w) {bs:List Nat} {K:Nat} (hKb:K≤bs.length) {id:Nat} (hid:∀ b,id≤b→b<id+16→¬al b) (hnd:bs.Nodup) (hbs:∀ b∈bs,∃ k,hget h b=some k∧k.own=true)
  {ρ2:Nat→Loc} {al2:Al} {hs:List (Option Blk)} {ns:List Blk} {w1:World} (hl:hs.length=K) (hn:ns.length≤16) (ho1:∀ k,some k∈hs→k.own=true) (ho2:∀ k∈ns,k.own=true)
  (H2:WRep (jZ w ρ al bs K id H.gok) w ρ2 al2 (gm 0 hs++bB K ns) w1) (hal:∀ b,al2 b→b<K+ns.length) :
  ∃ ρ' al',Ext ρ ρ' al al'∧(∀ b,al' b→alW al id b)∧WRep B w0 ρ' al' (yV (gOf K bs id) (gm 0 hs++bB K ns)++(((bs.drop K).map fun b=>(b,none))++h)) w1 :=
 let ⟨ρ',al',h1,h2,h3,_⟩:=Gl H hKb hid hnd hbs hl hn ho1 ho2 H2 hal
 ⟨ρ',al',h1,h2,h3⟩
end
def mkR {X:Type} (K N:Nat) (hKN:K≤N) (f:FuncId) (fn:Func) (c:Code) (hf:P.funcs[f]? = some fn) (hb:fn.body=some c)
  (hen:∀ (args:Array Value) (w:World),(callFunc f args).run P w=.ok (.enter f args) w)
  (dec:ah→List AV→Option (Prop×List Nat×X)) (encA:X→List AV) (encK:X→List Blk) (out:X→RO)
  (hmono:∀ {h h':ah} {args:List AV} {r:Prop×List Nat×X},(∀ b k,hget h b=some k→hget h' b=some k)→dec h args=some r→dec h' args=some r)
  (hdec:∀ {h:ah} {as:List AV} {q:Prop} {bs:List Nat} {x:X},dec h as=some (q,bs,x)→q→(encA x).length≤fn.ntmps∧bs.length=N∧(encK x).length=N∧bs.Nodup ∧
   ∀ d:Nat,(∀ (j b:Nat) (k:Blk),bs[j]? = some b→(encK x)[j]? = some k→k.own=true∧hget h b=some (k.ren fun j=>bs.getD j d)) ∧
    ∀ (ρ:Nat→Loc) (al:Al) (vals:List Value),AsRep ρ al as vals→AsRep (fun j=>ρ (bs.getD j d)) (alR al fun j=>bs.getD j d) (encA x) vals)
  (body:∀ {h:ah} {as:List AV} {q:Prop} {bs:List Nat} {x:X},dec h as=some (q,bs,x)→q→SW P ⟨none,K⟩ fn.ntmps c ⟨N,aC 0 (encA x),bB 0 (encK x)⟩ (dy P fn.results.toList K (out x))):bi P f where
 enter:=hen
 run:=fun id h args=>gu K dec out id h args
 pan:=fun _ h args=>fX dec out h args
 mono:=by
  intro id h h' args R hs hr
  unfold gu at hr ⊢
  split at hr
  case h_2=>cases hr
  rename_i q bs x hd
  rw [hmono hs hd]
  exact hr
 sound:=by
  intro id h args R hr hob B w0 ρ al w vals H hid hA
  unfold gu at hr
  split at hr
  case h_2=>cases hr
  rename_i q bs x hd
  split at hr
  case h_2=>cases hr
  rename_i r hs ns hout
  injection hr with hr
  subst hr
  obtain ⟨hlen,hK,hKl,hnd,hall⟩:=hdec hd hob
  obtain ⟨hks,henc⟩:=hall id
  have hKb:K≤bs.length:=by omega
  have hA1:=henc ρ al vals hA
  have hl:=hA1.length
  have h0:¬al id:=hid id (Nat.le_refl _) (by omega)
  have H1:=AL H hKb h0 (by rw [hKl,hK]) hnd hks
  have hbs:∀ b∈bs,∃ k,hget h b=some k∧k.own=true:=fun b hb=>by
   obtain ⟨j,hj,rfl⟩:=List.mem_iff_getElem.1 hb
   obtain ⟨g1,g2⟩:=hks j bs[j] ((encK x)[j]'(by omega)) (List.getElem?_eq_getElem hj) (List.getElem?_eq_getElem _)
   exact ⟨_,g2,g1⟩
  refine iG (K:=K) (B:=jZ w ρ al bs K id H.gok) (ρ:=fun j=>ρ (bs.getD j id)) (al:=alR al fun j=>bs.getD j id) (s0:=⟨N,aC 0 (encA x),bB 0 (encK x)⟩) hf hb (by simp [jZ]) rfl ⟨by simp;omega,Marks.nil _ _ _,kf hA1 _,H1,fun b hb=>?_⟩ (body hd hob) ?_ ?_
  ·rcases Nat.lt_or_ge b bs.length with h | h
   ·show b<N;omega
   ·have:al (bs.getD b id):=hb
    rw [List.getD_eq_getElem?_getD,List.getElem?_eq_none h] at this
    exact absurd this h0
  ·intro s ρ1 al1 a w1 hq1 HS
   obtain ⟨r',hs',ns',e,hret,hpl,hl1,hl2,ho1,ho2,hwk⟩:=xA hq1
   rw [hout] at e
   injection e with e1 e2 e3
   subst e1
   subst e2
   subst e3
   obtain ⟨v,g1,g2⟩:=mF (fn:=fn) HS hret
   obtain ⟨ρ2,al2,HS2⟩:=hwk _ _ _ _ _ _ _ (by simp [jZ]) HS
   obtain ⟨ρ',al',k1,k2,k3⟩:=EC H hKb hid hnd hbs hl1 hl2 ho1 ho2 HS2.w HS2.al
   exact ⟨v,g1,v,ρ',al',rfl,k1,k2,g2.plain hpl,by simpa only [List.append_assoc] using k3⟩
  ·intro y s ρ1 al1 a w1 h1 HS
   rw [hout] at h1;cases h1
 psound:=by
  intro id h args ob y E hr hob B w0 ρ al w vals H hid hA
  unfold fX at hr
  split at hr
  case h_2=>cases hr
  rename_i q bs x hd
  split at hr
  case h_1=>cases hr
  rename_i v hout
  injection hr with hr
  injection hr with e1 hr
  injection hr with e2 e3
  subst e1
  subst e2
  subst e3
  obtain ⟨hlen,hK,hKl,hnd,hall⟩:=hdec hd hob
  obtain ⟨hks,henc⟩:=hall id
  have hKb:K≤bs.length:=by omega
  have hA1:=henc ρ al vals hA
  have hl:=hA1.length
  have h0:¬al id:=hid id (Nat.le_refl _) (by omega)
  have H1:=AL H hKb h0 (by rw [hKl,hK]) hnd hks
  have hbs:∀ b∈bs,∃ k,hget h b=some k∧k.own=true:=fun b hb=>by
   obtain ⟨j,hj,rfl⟩:=List.mem_iff_getElem.1 hb
   obtain ⟨g1,g2⟩:=hks j bs[j] ((encK x)[j]'(by omega)) (List.getElem?_eq_getElem hj) (List.getElem?_eq_getElem _)
   exact ⟨_,g2,g1⟩
  refine iG (K:=K) (B:=jZ w ρ al bs K id H.gok) (ρ:=fun j=>ρ (bs.getD j id)) (al:=alR al fun j=>bs.getD j id) (s0:=⟨N,aC 0 (encA x),bB 0 (encK x)⟩) hf hb (by simp [jZ]) rfl ⟨by simp;omega,Marks.nil _ _ _,kf hA1 _,H1,fun b hb=>?_⟩ (body hd hob) ?_ ?_
  ·rcases Nat.lt_or_ge b bs.length with h | h
   ·show b<N;omega
   ·have:al (bs.getD b id):=hb
    rw [List.getD_eq_getElem?_getD,List.getElem?_eq_none h] at this
    exact absurd this h0
  ·intro s ρ1 al1 a w1 hq1 HS
   obtain ⟨r',hs',ns',e,_⟩:=xA hq1
   rw [hout] at e;cases e
  ·intro y' s ρ1 al1 a w1 h1 HS
   rw [hout] at h1
   injection h1 with h1
   subst h1
   obtain ⟨ρ2,al2,HS2⟩:=(Wk.ren (ro:=⟨none,K⟩) (s:=s) (s':=⟨K,[],gm 0 (List.replicate K none)⟩) (List.range K) (fun j hj=>by rw [List.getElem?_range hj]) (by simp) List.nodup_range (by simp) (by
    intro p hp k hk
    obtain ⟨j,o⟩:=p
    simp only at hk
    subst hk
    have:∀ (n i j:Nat) (k:Blk),(j,some k)∉gm i (List.replicate n none):=by
     intro n
     induction n with
     | zero=>intro i j k hm;simp [gm] at hm
     | succ n ih=>intro i j k hm;simp [List.replicate_succ,gm] at hm;exact ih _ _ _ hm
    exact absurd hp (this _ _ _ _))) _ _ _ _ _ _ _ (by simp [jZ]) HS
   obtain ⟨ρ',al',k1,k2,k3⟩:=EC H hKb hid hnd hbs (ns:=[]) (hs:=List.replicate K none) (by simp) (by simp) (by intro k hk;simp [List.mem_replicate] at hk) (by simp) (by simpa [bB] using HS2.w) (by simpa using HS2.al)
   refine ⟨ρ',al',rfl,k1,k2,k3.sub fun b k hk=>?_⟩
   obtain ⟨h3,h4⟩:=dG hk
   rw [← h4]
   have:∀ E:ah,(∀ x∈E,x.1≠b)→hget (E++h) b=hget h b:=by
    intro E
    induction E with
    | nil=>intro _;rfl
    | cons x E ih =>
     intro hE
     obtain ⟨c,o⟩:=x
     rw [List.cons_append,hget,if_neg (hE (c,o) (by simp))]
     exact ih fun y hy=>hE y (by simp [hy])
   rw [← List.append_assoc]
   refine this _ fun y hy=>?_
   rcases List.mem_append.1 hy with hy | hy
   ·simp only [yV,bB,List.append_nil,List.mem_map] at hy
    obtain ⟨z,hz,rfl⟩:=hy
    have hkz:z.1∈kn (gm 0 (List.replicate K none)):=List.mem_map.2 ⟨z,hz,rfl⟩
    rw [ra] at hkz
    have hz2:z.1<K:=by simpa using hkz
    have hz3:z.1<bs.length:=by omega
    simp only [gOf,if_pos hz2,kj hz3]
    rintro rfl
    exact h3 (List.getElem_mem hz3)
   ·obtain ⟨c,hc,rfl⟩:=List.mem_map.1 hy
    rintro rfl
    exact h3 (List.mem_of_mem_drop hc)
end
end
section
open Go.RowKit
section
variable {B:eK} {w0:World} {ρ:Nat→Loc} {al:Al} {h:ah} {w:World} {U:List Nat}
theorem WRep.freeze (H:WRep B w0 ρ al h w) (U:List Nat):Ext ρ ρ al ⟨al.p,fG al.M ρ h U w⟩∧WRep B w0 ρ ⟨al.p,fG al.M ρ h U w⟩ ((U.map fun b=>(b,none))++h) w:=by
 have E:Ext ρ ρ al ⟨al.p,fG al.M ρ h U w⟩:=⟨fun _ _=>rfl,pt,fun _ hb=>hb⟩
 refine ⟨E,H.base,H.below,fun b k hk=>(H.blk b k (dG hk).2).ext E rfl,fun b k hk=>H.own b k (dG hk).2,fun b k hk=>H.old b k (dG hk).2,fun b c k l hk hl=>H.apart b c k l (dG hk).2 (dG hl).2,fun b o y hy=>tn H hy,fun b k hk ho hc o=>?_,fun b o y hy=>?_,Mem.le_trans H.memOld pt,H.pins⟩
 ·obtain ⟨hn,hk⟩:=dG hk
  cases hy:fG al.M ρ h U w (ρ b).blk o with
  | none=>exact hy
  | some y =>
   rcases frzM_some hy with h2 | ⟨⟨c,k',hcU,hk',ho',hc',e⟩,_⟩
   ·rw [H.memOwn b k hk ho hc o] at h2;cases h2
   ·exact absurd e (H.apart c b k' k hk' hk ho' ho hc' hc (fun e=>hn (e▸hcU)))
 ·rcases frzM_some hy with h2 | ⟨⟨c,k',hcU,hk',ho',hc',rfl⟩,_⟩
  ·exact H.memNew b o y h2
  ·exact .inr (H.own c k' hk' ho' hc')
theorem WRep.retell (H:WRep B w0 ρ al h w) {b:Nat} {k k':Blk} (hk:hget h b=some k) (ho:k'.own=k.own) (he:k'.els≠[]→k.els≠[]) (hB:BRep ρ al w b k'):WRep B w0 ρ al ((b,some k')::h) w:=by
 have at_:∀ {c l},hget ((b,some k')::h) c=some l→∃ l',hget h c=some l'∧l.own=l'.own∧(l.els≠[]→l'.els≠[])∧BRep ρ al w c l:=by
  intro c l hl
  rw [hget] at hl
  split at hl
  ·rename_i e;subst e;injection hl with hl;subst hl;exact ⟨k,hk,ho,he,hB⟩
  ·exact ⟨l,hl,rfl,id,H.blk c l hl⟩
 refine ⟨H.base,H.below,fun c l hl=>?_,fun c l hl h1=>?_,fun c l hl h1 h2=>?_,fun c d l m hl hm h1 h2=>?_,H.mem,fun c l hl h1=>?_,H.memNew,H.memOld,H.pins⟩
 ·obtain ⟨_,_,_,_,g⟩:=at_ hl;exact g
 ·obtain ⟨l',g1,g2,_⟩:=at_ hl;exact H.own c l' g1 (g2▸h1)
 ·obtain ⟨l',g1,g2,g3,_⟩:=at_ hl;exact H.old c l' g1 (g2▸h1) (g3 h2)
 ·obtain ⟨l',g1,g2,_⟩:=at_ hl
  obtain ⟨m',g3,g4,_⟩:=at_ hm
  exact H.apart c d l' m' g1 g3 (g2▸h1) (g4▸h2)
 ·obtain ⟨l',g1,g2,_⟩:=at_ hl;exact H.memOwn c l' g1 (g2▸h1)
end
theorem SW.wk {P:Program} {ro:Cf} {n:Nat} {c:Code} {s s':St} {Q:Exit→St→Prop} (h:SW P ro n c s' Q) (hw:Wk ro s s'):SW P ro n c s Q:=fun B w0 ρ al a w hpl H=>by
 obtain ⟨ρ',al',H'⟩:=hw n B w0 ρ al a w hpl H
 exact h B w0 ρ' al' a w hpl H'
theorem Wk.frz {ro:Cf} {s:St} (k:Nat) {q:Prop} {u:List Nat} {A:AV} (hk:AV.toD s.h 4 (dk s.t k)=some (q,u,A)) (hq:q):Wk ro s ⟨s.nx,(k,A)::s.t,(u.map fun b=>(b,none))++s.h⟩:=by
 intro n B w0 ρ al a w _ H
 obtain ⟨E,H'⟩:=H.w.freeze u
 refine ⟨ρ,⟨al.p,fG al.M ρ s.h u w⟩,H.size,H.defers,?_,H',H.al⟩
 intro j
 rw [dk]
 split
 ·rename_i ej
  subst ej
  exact AV.toD_rep H.w rfl hk hq (fun _ h=>h) (H.t k)
 ·exact (H.t j).ext E
theorem Wk.nilC {ro:Cf} {s:St} (b j:Nat) (T:TypeId) (sz:Nat) {k:Blk} {xs:List LV} (hk:hget s.h b=some k) (hx:k.els=[xs]) (hj:xs[j]? = some (.v (.slice none 0 0))) :
  Wk ro s ⟨s.nx+1,s.t,(b,some { k with els:=[xs.set j (.sl s.nx 0 0)] })::(s.nx,some ⟨true,T,sz,[]⟩)::s.h⟩:=by
 intro n B w0 ρ al a w _ H
 have hid:¬al s.nx:=fun h=>Nat.lt_irrefl _ (H.al _ h)
 obtain ⟨ρ',E,e,H'⟩:=H.w.virtual hid T sz
 have hb:=H.w.blk b k hk
 have hne:s.nx≠b:=fun h=>hid (h▸hb.here)
 have hk':hget ((s.nx,some ⟨true,T,sz,[]⟩)::s.h) b=some k:=by rw [hget,if_neg hne];exact hk
 have hb':=H'.blk b k hk'
 refine ⟨ρ',al1 al s.nx,H.size,H.defers,H.t.ext E,H'.retell hk' rfl (fun _=>by rw [hx];simp) ⟨hb'.here,hb'.own,hb'.sz,?_,?_,?_,hb'.room⟩,?_⟩
 ·intro e he
  simp only [List.mem_singleton] at he
  subst he
  rw [List.length_set]
  exact hb'.len xs (by rw [hx];simp)
 ·have:=hb'.cap;rw [hx] at this;exact this
 ·intro i j' x hc
  obtain ⟨rfl,h2⟩:=r8 hc
  rw [List.getElem?_set] at h2
  split at h2
  ·rename_i ej
   subst ej
   split at h2
   ·injection h2 with h2
    subst h2
    obtain ⟨y,g1,g2,g3⟩:=hb'.cells 0 j _ (by rw [hx];exact (show cellAt [xs] 0 j=_ from hj))
    refine ⟨y,g1,g2,?_⟩
    have hv:y=.slice none 0 0:=g3
    rw [hv]
    exact ⟨.inr rfl,none,by rw [e];rfl,by simp,fun h=>by rw [e] at h;simp at h⟩
   ·cases h2
  ·exact hb'.cells 0 j' x (by rw [hx];exact h2)
 ·rintro c (hc | rfl)
  ·have:=H.al c hc;show c<s.nx+1;omega
  ·show _<_+1;omega
theorem pQ {ro:Cf} {ι:Type} {inv:ι→Prop} {I:ι→St} {m:ι→Nat} {i:ι} {Q:Exit→St→Prop} {s:St} {v:Value} {b:Bool}:uN ro inv I m i Q (.panic [{ v:=v,recovered:=b }]) s=Q (.panic [{ v:=v,recovered:=b }]) s:=rfl
theorem pj {P:Program} {ctx:Ctx P} {ro:Cf} {n f:Nat} {r:List Itm} {Q:Exit→St→Prop} {s:St} {v:Value} {b:Bool}:nU P ctx ro n f r Q (.panic [{ v:=v,recovered:=b }]) s=Q (.panic [{ v:=v,recovered:=b }]) s:=rfl
end
section
open Go.RowKit
section
variable {P:Program}
theorem qu {F:Fence} {n:Nat} {N:Nat}:∀ (rs:List Nat) (fr:Frame) (cs:List Frame) (w:World),fr.mode≠.run→fr.defers=rs.map mark→F.fn fr.fn→F.room (cs.length+1+n)→rs.Nodup →
  (∀ r∈rs,N≤r∧w.heap[r]? = some (.deferred (some [])))→∃ w',Unmark N w w'∧StepsIn (Machine.fenced P F) P (lone fr cs w) (lone { fr with defers:=[] } cs w')
 | [],fr,cs,w,_,hd,_,_,_,_=>⟨w,.refl N w,by
   have:({ fr with defers:=[] }:Frame)=fr:=by
    cases fr;simp only [List.map_nil] at hd;subst hd;rfl
   rw [this];exact StepsIn.refl _⟩
 | r::rs,fr,cs,w,hm,hd,hb,hroom,hnd,hr=>by
  have h0:=hr r (by simp)
  rw [List.nodup_cons] at hnd
  have hlt:r<w.heap.size:=(Array.getElem?_eq_some_iff.1 h0.2).1
  have hU:Unmark N w (w.putObj r (.deferred none)):=⟨rfl,rfl,rfl,by simp [World.putObj],fun k hk=>by
   refine World.putObj_heap_other ?_
   rintro rfl
   rcases hk with hk | ⟨o,h1,h2⟩
   ·omega
   ·rw [h0.2] at h1;injection h1 with h1;subst h1;cases h2⟩
  have h1:=step_collected (P:=P) (cs:=cs) hm hd rfl (run_takeDeferred h0.2)
  have i1:(lone fr cs w).fenced P F:=fenced_out hb hroom hm hd (fun g hg=>by simp [mark,Target.leads] at hg)
  obtain ⟨w',g1,g2⟩:=qu rs { fr with defers:=[]++rs.map mark } cs (w.putObj r (.deferred none)) hm rfl hb hroom hnd.2 (fun q hq=>by
   have:=hr q (by simp [hq])
   refine ⟨this.1,?_⟩
   rw [World.putObj_heap_other (by rintro rfl;exact hnd.1 hq)]
   exact this.2)
  exact ⟨w',hU.trans g1,.head i1 h1 g2⟩
def wK (P:Program) (N:Nat) (fn:Func) (c₀:Frame) (cs:List Frame) (R:Ending→FrameMode→World→Prop):Exit→Act→List Frame→World→Prop
 | .normal,a,cs',w | .ret,a,cs',w=>∃ rs:List Nat,rs.Nodup∧a.defers=rs.map mark∧(∀ r∈rs,N≤r∧w.heap[r]? = some (.deferred (some []))) ∧
   ∃ u',cs'={ c₀ with mode:=u' }::cs∧∀ w',Unmark N w w'→∃ v,(results fn a.tmps).run P w'=.ok v w'∧R (.returned v) u' w'
 | _,_,_,_=>False
theorem wL {F:Fence} {n N:Nat} {f:FuncId} {fn:Func} {c:Code} {args:Array Value} {u:FrameMode} {w:World} {R:Ending→FrameMode→World→Prop}
  (hf:P.funcs[f]? = some fn) (hb:fn.body=some c) (hF:F.fn f)
  (h:∀ (c₀:Frame) (cs:List Frame),c₀.mode=u→c.wpSIn F n P (wK P N fn c₀ cs R) { tmps:=args++Array.replicate (fn.ntmps-args.size) undef,defers:=[] } (c₀::cs) w) :
  CallsDIn F n P f args u w R:=by
 refine ⟨hF,fun c₀ cs hu hroom=>?_⟩
 let b:Frame:={ (default:Frame) with fn:=f,kind:=.deferred,roundOf:=none }
 have henter:Frame.enter P f args .deferred =
   b.atR { tmps:=args++Array.replicate (fn.ntmps-args.size) undef,defers:=[] } [.code c]:=by
  simp [Frame.enter,Frame.atR,hf,hb,b]
 obtain ⟨e,a',cs',w',hl,hq,harr⟩:=h c₀ cs hu b [] rfl rfl hF hroom
 rw [← henter] at harr
 cases e with
 | normal =>
  obtain ⟨rs,h1,h2,h3,u',rfl,h4⟩:=hq
  obtain ⟨w2,g1,g2⟩:=qu (P:=P) (F:=F) (n:=n) rs { b.atR a' [] with mode:=.returning } ({ c₀ with mode:=u' }::cs) w' (by simp) h2 hF hroom h1 h3
  obtain ⟨v,g3,g4⟩:=h4 w2 g1
  exact ⟨.returned v,u',w2,_,g4,StepsIn.trans harr (.head (fenced_calm (fr:=b.atR a' []) hF hroom rfl) (stepR_end rfl) g2),rfl,rfl,rfl,rfl,fn,hf,g3⟩
 | ret =>
  obtain ⟨rs,h1,h2,h3,u',rfl,h4⟩:=hq
  obtain ⟨todo,hs⟩:=harr.1 rfl
  obtain ⟨w2,g1,g2⟩:=qu (P:=P) (F:=F) (n:=n) rs { b.atR a' todo with mode:=.returning } ({ c₀ with mode:=u' }::cs) w' (by simp) h2 hF hroom h1 h3
  obtain ⟨v,g3,g4⟩:=h4 w2 g1
  exact ⟨.returned v,u',w2,_,g4,StepsIn.trans hs g2,rfl,rfl,rfl,rfl,fn,hf,g3⟩
 | panic chain=>exact hq.elim
 | exit id=>exact hq.elim
 | goto l=>exact hq.elim
 | outgrown=>exact hq.elim
inductive Caught:FrameMode→Value→FrameMode→Prop where
 | none:Caught .returning .nilIface .returning
 | some (x:Value):Caught (.panicking [{ v:=x,recovered:=false }]) x (.panicking [{ v:=x,recovered:=true }])
theorem Caught.settle {u u':FrameMode} {x:Value} (h:Caught u x u'):settle u'=.returning:=by
 cases h<;>rfl
theorem Ou {g:FuncId} {fn:Func} {rid:Nat} {o:Oper} {t:Tmp} {rest:Code} (hf:P.funcs[g]? = some fn) (hb:fn.body=some (.seq (.region rid #[o] false) rest))
  (hop:o.op=.call { callee:=.builtin .recover,args:=#[],argTypes:=#[] }) (hg:o.guard=none) (hd:o.dst=some t) (hres:fn.results = #[])
  {K:Nat} {B:eK} {w1:World} {ρ:Nat→Loc} {al:Al} {h:ah} {nx:Nat} (hds:B.ds=[]) (hpl:B.pl.length=K) (H:WRep B w1 ρ al h w1) (hal:∀ b,al b→b<nx)
  {as:List AV} {vals:List Value} (hA:AsRep ρ al as vals) (hn:vals.length≤fn.ntmps) (htn:t<fn.ntmps) {u u':FrameMode} {x:Value} (hu:Caught u x u') {post:St→Prop}
  (hsw:SW P ⟨none,K⟩ fn.ntmps rest ⟨nx,(t,.s (.l (.v x)))::aC 0 as,h⟩ (rv post fun _ _=>False)) :
  CallsDIn (Fw ⟨none,K⟩) 0 P g vals.toArray u w1 fun e u2 w2=>u2=u'∧(∃ v,e=.returned v)∧∃ ρ2 al2 s2,post s2∧WRep B w1 ρ2 al2 s2.h w2∧∀ b,al2 b→b<s2.nx:=by
 refine wL (N:=w1.heap.size) hf hb trivial fun c₀ cs hm=>wpSIn_seq (wpSIn_region ?_)
 have hsz:(vals.toArray++Array.replicate (fn.ntmps-vals.toArray.size) undef).size=fn.ntmps:=by simp;omega
 have hrec:∃ cs',cs'={ c₀ with mode:=u' }::cs∧∀ (Q:Exit→Act→List Frame→World→Prop) (a:Act),Q .normal (a.put o.dst x) cs' w1→wpOpsSIn (Fw ⟨none,K⟩) 0 P #[o] Q [0] a (c₀::cs) w1:=by
  refine ⟨_,rfl,fun Q a hQ=>?_⟩
  have hw:Region.wanted o (yielded #[o] a.tmps)=true:=by unfold Region.wanted;rw [hg]
  simp only [wpOpsSIn,List.getElem?_toArray,List.getElem?_cons_zero]
  refine ⟨fun _ _=>trivial,?_⟩
  rw [if_pos hw]
  have he:(execOp a.eval o).run P w1=.ok .recover w1:=by simp [execOp,hop];rfl
  rw [he]
  cases hu with
  | none =>
   simp only [recoverD,hm]
   have:({ c₀ with mode:=.returning }:Frame)=c₀:=by cases c₀;simp only at hm;subst hm;rfl
   rw [this] at hQ
   exact hQ
  | some x =>
   simp only [recoverD,hm]
   exact hQ
 obtain ⟨cs',hcs,hrec⟩:=hrec
 refine hrec _ _ (wpSIn_of_wpIn rfl ?_)
 let a0:Act:={ tmps:=vals.toArray++Array.replicate (fn.ntmps-vals.toArray.size) undef,defers:=[] }
 have H0:RepS fn.ntmps B w1 ρ al ⟨nx,(t,.s (.l (.v x)))::aC 0 as,h⟩ (a0.put o.dst x) w1:=by
  refine ⟨by rw [hd];simp [Act.put,a0];omega,by rw [hd];exact hds▸Marks.nil _ _ _,?_,H,hal⟩
  rw [hd]
  exact TRep.put (kf hA _) (by rw [hsz];exact htn) (show ARep ρ al (.s (.l (.v x))) x from rfl)
 refine wpIn_mono (hsw B w1 ρ al _ w1 hpl H0) ?_
 rintro e a' w' ⟨ρ2,al2,s2,H2,hq⟩
 have fin:post s2→wK P w1.heap.size fn c₀ cs (fun e u2 w2=>u2=u'∧(∃ v,e=.returned v)∧∃ ρ2 al2 s2,post s2∧WRep B w1 ρ2 al2 s2.h w2∧∀ b,al2 b→b<s2.nx) .ret a' cs' w':=by
  intro hp
  obtain ⟨rs,h1,h2,h3⟩:=H2.defers
  rw [hds,List.append_nil] at h2
  refine ⟨rs,h1,h2,h3,u',hcs,fun w3 hU=>⟨.tuple #[],by simp [results,hres],rfl,⟨_,rfl⟩,ρ2,al2,s2,hp,(H2.unmark hU).w,H2.al⟩⟩
 cases e with
 | normal=>exact fin hq
 | ret=>exact fin hq
 | panic ch=>obtain ⟨_,_,hp⟩:=hq;exact hp.elim
 | exit _=>exact hq.elim
 | goto _=>exact hq.elim
 | outgrown=>exact hq.elim
def pvs (js:List Nat):List AV:=js.map fun j=>.s (.l (.p j 0 0))
theorem Gz {ρ ρ':Nat→Loc} {al al':Al} {K:Nat} (h:∀ j,j<K→al' j∧ρ' j=ρ j):∀ {js:List Nat} {vals:List Value},(∀ j∈js,j<K)→AsRep ρ al (pvs js) vals→AsRep ρ' al' (pvs js) vals
 | [],[],_,_=>trivial
 | [],_::_,_,hA=>hA.elim
 | _::_,[],_,hA=>hA.elim
 | j::js,v::vs,hj,⟨⟨_,a⟩,b⟩=>by
  obtain ⟨g1,g2⟩:=h j (hj j (by simp))
  exact ⟨⟨g1,by rw [g2];exact a⟩,Gz h (fun i hi=>hj i (by simp [hi])) b⟩
def Lays (P:Program) (n:Nat) (D:Code) (s1:St) (t2:et) (g:FuncId) (js:List Nat):Prop :=
 ∀ K B w0 ρ al a w,RepS n B w0 ρ al s1 a w→∃ (d:Deferred) (fv:Fn) (cap:Array Value) (vals:List Value) (a':Act),D.wpIn (Fw ⟨none,K⟩) 0 P (fun e a2 w2=>e=.normal∧a2=a'∧w2=w) a w ∧
  a'.defers=d::a.defers∧a'.tmps.size=n∧TRep ρ al t2 a'.tmps∧d.target=.fn fv cap∧(∀ w,(invoke d.target d.args).run P w=.ok (.enter g vals.toArray) w)∧AsRep ρ al (pvs js) vals
theorem qi {f:FuncId} {fn:Func} {c0 D rest:Code} (hf:P.funcs[f]? = some fn) (hb:fn.body=some (.seq c0 (.seq D rest)))
  {g:FuncId} {gn:Func} {rid:Nat} {o:Oper} {t:Tmp} {grest:Code} (hgf:P.funcs[g]? = some gn) (hgb:gn.body=some (.seq (.region rid #[o] false) grest))
  (hop:o.op=.call { callee:=.builtin .recover,args:=#[],argTypes:=#[] }) (hog:o.guard=none) (hod:o.dst=some t) (hgres:gn.results = #[]) (htn:t<gn.ntmps)
  {K:Nat} {B:eK} {w:World} {ρ:Nat→Loc} {al:Al} {s0 s1:St} {t2:et} {js:List Nat} (hjs:∀ j∈js,j<K) (hjn:js.length≤gn.ntmps) {vals:List Value} {post post2:St→Prop} {pp:Value→St→Prop} {cells:List (Tmp×Nat)} (hck:∀ p∈cells,p.2<K) {R:Ending→World→Prop}
  (hpl:B.pl=[]) (hds:B.ds=[]) (H:RepS fn.ntmps B w ρ al s0 { tmps:=vals.toArray++Array.replicate (fn.ntmps-vals.toArray.size) undef,defers:=[] } w)
  (h0:SW P ⟨none,0⟩ fn.ntmps c0 s0 (fun e s=>e=.normal∧Wk ⟨none,0⟩ s s1)) (hD:Lays P fn.ntmps D s1 t2 g js) (hK:∀ j,j<K→∃ k,hget s1.h j=some k)
  (h1:SW P ⟨none,K⟩ fn.ntmps rest ⟨s1.nx,t2,s1.h⟩ (rv post pp)) (hcell:∀ s,post s→∀ p∈cells,dk s.t p.1=.s (.l (.p p.2 0 0))) (hcellp:∀ x s,pp x s→∀ p∈cells,dk s.t p.1=.s (.l (.p p.2 0 0)))
  (hc0:∀ s,post s→SW P ⟨none,K⟩ gn.ntmps grest ⟨s.nx,(t,.s (.l (.v .nilIface)))::aC 0 (pvs js),s.h⟩ (rv post2 fun _ _=>False))
  (hc1:∀ x s,pp x s→SW P ⟨none,K⟩ gn.ntmps grest ⟨s.nx,(t,.s (.l (.v x)))::aC 0 (pvs js),s.h⟩ (rv post2 fun _ _=>False))
  (hret:∀ s ρ al a w1,post2 s→RepS fn.ntmps B w ρ al ⟨s.nx,cells.map fun p=>(p.1,.s (.l (.p p.2 0 0))),s.h⟩ a w1→∃ v,(results fn a.tmps).run P w1=.ok v w1∧R (.returned v) w1):Calls P f vals.toArray w R:=by
 refine (jO (ro:=⟨none,K⟩) (n:=0)).1 (callsIn_of_wp_marks hf hb trivial ?_ rfl)
 refine wpIn_seq (wpIn_mono (h0 B w ρ al _ w (by rw [hpl];rfl) H) ?_)
 rintro e a1 w1 ⟨ρ',al',s',H',rfl,hwk⟩
 obtain ⟨ρ1,al1,H1⟩:=hwk _ B w ρ' al' a1 w1 (by rw [hpl];rfl) H'
 obtain ⟨d,fv,cap,cvals,a',g1,g2,g3,g4,g5,g6,g7⟩:=hD K B w ρ1 al1 a1 w1 H1
 refine wpIn_seq (wpIn_mono g1 ?_)
 rintro e a2 w2 ⟨rfl,rfl,rfl⟩
 let B1:eK:=⟨B.S,al1.M,(List.range K).map ρ1,d::a1.defers,H1.w.gok⟩
 have hpins:∀ {j l},B1.pl[j]? = some l→j<K∧ρ1 j=l:=by
  intro j l hj
  simp only [B1,List.getElem?_map,Option.map_eq_some_iff] at hj
  obtain ⟨j',e1,e2⟩:=hj
  have hj3:j<K:=by
   rcases Nat.lt_or_ge j K with h | h
   ·exact h
   ·rw [List.getElem?_eq_none (by simpa using h)] at e1;cases e1
  rw [List.getElem?_range hj3] at e1
  injection e1 with e1
  subst e1
  exact ⟨hj3,e2⟩
 have hpin:∀ {j},j<K→B1.pl[j]? = some (ρ1 j):=by
  intro j hj
  simp only [B1,List.getElem?_map,List.getElem?_range hj,Option.map_some]
 have Hb:RepS fn.ntmps B1 w2 ρ1 al1 ⟨s1.nx,t2,s1.h⟩ a2 w2:=by
  refine ⟨g3,by rw [g2];exact Marks.nil _ _ _,g4,?_,H1.al⟩
  have hr:=H1.w.rebase
  refine ⟨hr.base,hr.below,hr.blk,hr.own,hr.old,hr.apart,hr.mem,hr.memOwn,hr.memNew,hr.memOld,fun j l hj=>?_⟩
  obtain ⟨e1,e2⟩:=hpins hj
  obtain ⟨k,hk⟩:=hK j e1
  exact ⟨(H1.w.blk j k hk).here,e2⟩
 refine wpIn_mono (h1 B1 w2 ρ1 al1 a2 w2 (by simp [B1]) Hb) ?_
 rintro e a3 w3 ⟨ρ3,al3,s3,H3,hq⟩
 obtain ⟨rs,k1,k2,k3⟩:=H3.defers
 have hp3:∀ j,j<K→al3 j∧ρ3 j=ρ1 j:=fun j hj=>H3.w.pins j _ (hpin hj)
 have door:∀ u u' x,Caught u x u'→u≠.run→SW P ⟨none,K⟩ gn.ntmps grest ⟨s3.nx,(t,.s (.l (.v x)))::aC 0 (pvs js),s3.h⟩ (rv post2 fun _ _=>False)→(∀ p∈cells,dk s3.t p.1=.s (.l (.p p.2 0 0))) →
   LeavesInM (Fw ⟨none,K⟩) 0 P fn a3.tmps R a3.defers u w3:=by
  intro u u' x hu hrun hsw hcl
  rw [k2]
  refine kp hrun rs w3 k1 k3 fun w4 hU=>?_
  have H4:=H3.unmark hU
  have hA:AsRep ρ3 al3 (pvs js) cvals:=Gz hp3 hjs g7
  have hlen:cvals.length≤gn.ntmps:=by
   have:∀ {js:List Nat} {vs:List Value},AsRep ρ1 al1 (pvs js) vs→vs.length=js.length:=by
    intro js
    induction js with
    | nil=>intro vs h;cases vs with
     | nil=>rfl
     | cons _ _=>exact h.elim
    | cons j js ih=>intro vs h;cases vs with
     | nil=>exact h.elim
     | cons v vs=>rw [List.length_cons,List.length_cons,ih h.2]
   rw [this g7];exact hjn
  have H4r:WRep ⟨B.S,al3.M,(List.range K).map ρ1,[],H4.w.gok⟩ w4 ρ3 al3 s3.h w4:=by
   have hr:=H4.w.rebase
   exact ⟨hr.base,hr.below,hr.blk,hr.own,hr.old,hr.apart,hr.mem,hr.memOwn,hr.memNew,hr.memOld,hr.pins⟩
  refine ⟨hrun,.inr ⟨fun h=>by simp [Fw,Fence.wide] at h,fv,cap,g,cvals.toArray,g5,g6 w4,fun _ _=>trivial,CallsDIn.mono (Ou hgf hgb hop hog hod hgres rfl (by simp) H4r H3.al hA hlen htn hu hsw) ?_⟩⟩
  rintro e u2 w5 ⟨rfl,⟨v,rfl⟩,ρ5,al5,s5,hp,H5,hal5⟩
  show LeavesInM _ _ _ _ _ _ _ (settle _) _
  rw [hu.settle]
  obtain ⟨rs1,m1,m2,m3⟩:=H1.defers
  rw [hds,List.append_nil] at m2
  have hmk:∀ r∈rs1,w.heap.size≤r∧w5.heap[r]? = some (.deferred (some [])):=fun r hr=>⟨(m3 r hr).1,H5.below.others r _ (H4.w.below.others r _ (m3 r hr).2 rfl) rfl⟩
  rw [m2,← List.append_nil (rs1.map mark)]
  refine kp (by simp) rs1 w5 m1 hmk fun w6 hU2=>?_
  have W5:WRep B w ρ5 al5 s5.h w5:=by
   have u1:WRep B1 w2 ρ5 al5 s5.h w5:=H4.w.unbase (g:=H4.w.gok) ⟨H5.base,H5.below,H5.blk,H5.own,H5.old,H5.apart,H5.mem,H5.memOwn,H5.memNew,H5.memOld,H5.pins⟩
   exact H1.w.unbase (g:=H1.w.gok) ⟨u1.base,u1.below,u1.blk,u1.own,u1.old,u1.apart,u1.mem,u1.memOwn,u1.memNew,u1.memOld,fun j l hj=>by rw [hpl] at hj;simp at hj⟩
  have hp5:∀ j,j<K→al5 j∧ρ5 j=ρ3 j:=fun j hj=>by
   have:=H5.pins j _ (hpin hj)
   exact ⟨this.1,this.2.trans (hp3 j hj).2.symm⟩
  have R5:RepS fn.ntmps B w ρ5 al5 ⟨s5.nx,cells.map fun p=>(p.1,.s (.l (.p p.2 0 0))),s5.h⟩ { a3 with defers:=rs1.map mark } w5:=by
   refine ⟨H3.size,⟨rs1,m1,by rw [hds,List.append_nil],hmk⟩,?_,W5,hal5⟩
   intro k
   rcases tget_mem (t:=cells.map fun p=>(p.1,AV.s (.l (.p p.2 0 0)))) (k:=k) rfl with h | h
   ·rw [h];trivial
   ·obtain ⟨p,hp1,hp2⟩:=List.mem_map.1 h
    injection hp2 with e1 e2
    have h3:=H3.t k
    rw [← e1,hcl p hp1] at h3
    obtain ⟨b1,b2⟩:=hp5 p.2 (hck p hp1)
    rw [← e2,← e1]
    exact ⟨b1,by rw [b2];exact h3.2⟩
  obtain ⟨v,q1,q2⟩:=hret s5 ρ5 al5 _ w6 hp (R5.unmark hU2)
  exact ⟨v,q1,q2⟩
 cases e with
 | normal=>exact door .returning _ _ .none (by simp) (hc0 s3 hq) (hcell s3 hq)
 | ret=>exact door .returning _ _ .none (by simp) (hc0 s3 hq) (hcell s3 hq)
 | panic ch =>
  obtain ⟨x,rfl,hp⟩:=hq
  exact door _ _ _ (.some x) (by simp) (hc1 x s3 hp) (hcellp x s3 hp)
 | exit _=>exact hq.elim
 | goto _=>exact hq.elim
 | outgrown=>exact hq.elim
def JR (P:Program) (f:FuncId) (fn:Func) (s0:St) (o:PO):Prop :=
 ∀ {B:eK} {w:World} {ρ:Nat→Loc} {al:Al} {vals:List Value} {R:Ending→World→Prop},B.pl=[]→B.ds=[] →
  RepS fn.ntmps B w ρ al s0 { tmps:=vals.toArray++Array.replicate (fn.ntmps-vals.toArray.size) undef,defers:=[] } w →
  (∀ s ρ al a w1,yW s.h o (nT P fn.results.toList s)→RepS fn.ntmps B w ρ al s a w1→∃ v,(results fn a.tmps).run P w1=.ok v w1∧R (.returned v) w1) →
  (∀ x s ρ al a w1,o=.pan x→RepS fn.ntmps B w ρ al s a w1→R (.panicked [{ v:=x,recovered:=false }]) w1)→Calls P f vals.toArray w R
def mkPD {X:Type} (f:FuncId) (fn:Func)
  (hen:∀ (args:Array Value) (w:World),(callFunc f args).run P w=.ok (.enter f args) w)
  (dec:List AV→Option (Prop×X)) (enc:X→List AV) (out:X→PO)
  (hdec:∀ {as:List AV} {q:Prop} {x:X},dec as=some (q,x)→q→(enc x).length≤fn.ntmps∧∀ (ρ:Nat→Loc) (al:Al) (vals:List Value),AsRep ρ al as vals→AsRep ρ al (enc x) vals)
  (body:∀ {as:List AV} {q:Prop} {x:X},dec as=some (q,x)→q→JR P f fn ⟨0,aC 0 (enc x),[]⟩ (out x)):bi P f where
 enter:=hen
 run:=fun _ h args=>bT dec out h args
 pan:=fun _ h args=>bU dec out h args
 mono:=by
  intro id h h' args R hs hr
  unfold bT at hr ⊢
  split at hr
  case h_2=>cases hr
  rename_i p u as hm
  rw [gA (fun z t hz=>AV.toD_mono hs 4 hz) hm]
  exact hr
 sound:=by
  intro id h args R hr hob B w0 ρ al w vals H hid hA
  unfold bT at hr
  split at hr
  case h_2=>cases hr
  rename_i p u as hm
  split at hr
  case h_2=>cases hr
  rename_i q x hd
  split at hr
  case h_2=>cases hr
  rename_i r hout
  injection hr with hr
  subst hr
  obtain ⟨hp,hq⟩:=hob
  obtain ⟨hlen,henc⟩:=hdec hd hq
  have hA1:=henc (fun _=>⟨0,0,0,0,false⟩) ⟨fun _=>False,fG al.M ρ h u w⟩ vals (mE H rfl hm hp (fun _ hc=>hc) hA)
  have hl:=hA1.length
  refine body hd hq (B:=⟨fun k=>k<w.heap.size,fG al.M ρ h u w,[],[],HV H u⟩) (ρ:=fun _=>⟨0,0,0,0,false⟩) (al:=⟨fun _=>False,fG al.M ρ h u w⟩) rfl rfl ⟨by simp;omega,Marks.nil _ _ _,kf hA1 _,AK H u,fun b hb=>hb.elim⟩ ?_ ?_
  ·intro s ρ1 al1 a w1 hq1 H1
   obtain ⟨r0,q1,u1,r1,h1,h2,h3,h4⟩:=oU hq1
   rw [hout] at h4
   injection h4 with h4
   subst h4
   obtain ⟨v,g1,g2⟩:=mF (fn:=fn) H1 h1
   refine ⟨v,g1,?_⟩
   have g3:=AV.toD_rep (U:=u1) (ρ2:=ρ) (al2:=⟨al.p,fG al1.M ρ1 s.h u1 w1⟩) H1.w rfl h2 h3 (fun _ hc=>hc) g2
   by_cases hpl:r.plain=true
   ·refine ⟨v,ρ,al,rfl,.refl _ _,fun b hb=>.inl hb,g3.plain hpl,?_⟩
    unfold xn
    rw [if_pos hpl]
    exact xx H H1.w
   ·obtain ⟨g4,g5⟩:=Lg (U1:=u1) H H1.w
    refine ⟨v,ρ,_,rfl,g4,fun b hb=>.inl hb,g3,?_⟩
    unfold xn
    rw [if_neg hpl]
    exact g5
  ·intro y s ρ1 al1 a w1 h1 H1
   rw [hout] at h1;cases h1
 psound:=by
  intro id h args ob y E hr hob B w0 ρ al w vals H hid hA
  unfold bU at hr
  split at hr
  case h_2=>cases hr
  rename_i p u as hm
  split at hr
  case h_2=>cases hr
  rename_i q x hd
  split at hr
  case h_1=>cases hr
  rename_i v hout
  injection hr with hr
  injection hr with e1 hr
  injection hr with e2 e3
  subst e1
  subst e2
  subst e3
  obtain ⟨hp,hq⟩:=hob
  obtain ⟨hlen,henc⟩:=hdec hd hq
  have hA1:=henc (fun _=>⟨0,0,0,0,false⟩) ⟨fun _=>False,fG al.M ρ h u w⟩ vals (mE H rfl hm hp (fun _ hc=>hc) hA)
  have hl:=hA1.length
  refine body hd hq (B:=⟨fun k=>k<w.heap.size,fG al.M ρ h u w,[],[],HV H u⟩) (ρ:=fun _=>⟨0,0,0,0,false⟩) (al:=⟨fun _=>False,fG al.M ρ h u w⟩) rfl rfl ⟨by simp;omega,Marks.nil _ _ _,kf hA1 _,AK H u,fun b hb=>hb.elim⟩ ?_ ?_
  ·intro s ρ1 al1 a w1 hq1 H1
   obtain ⟨r0,q1,u1,r1,h1,h2,h3,h4⟩:=oU hq1
   rw [hout] at h4;cases h4
  ·intro y' s ρ1 al1 a w1 h1 H1
   rw [hout] at h1
   injection h1 with h1
   subst h1
   exact ⟨ρ,al,rfl,.refl _ _,fun b hb=>.inl hb,xx H H1.w⟩
theorem tB {n:Nat} {rid:Nat} {oM oD:Oper} {tc:Tmp} {g:FuncId} {caps:Array Operand} {js:List Nat} {s1:St} (hM:oM.op=.makeFunc (.func g) #[] caps) (hMd:oM.dst=some tc) (hMg:oM.guard=none)
  (hD:oD.op=.defer { callee:=.value (.tmp tc),args:=#[],argTypes:=#[] }) (hDd:oD.dst=none) (hDg:oD.guard=none) (htc:tc<n) (hen:∀ (args:Array Value) (w:World),(callFunc g args).run P w=.ok (.enter g args) w)
  (hcaps:caps.toList.map (evT s1.t)=pvs js):Lays P n (.region rid #[oM,oD] false) s1 ((tc,.s (.l .any))::s1.t) g js:=by
 intro K B w0 ρ al a w H
 let fv:Value:=.func (.func g) #[] (caps.map a.eval)
 let a1:Act:=a.put (some tc) fv
 let d:Deferred:={ target:=.fn (.func g) (caps.map a.eval),args:=#[] }
 have hsz:a1.tmps.size=n:=by simp only [a1,Act.put,Array.size_setIfInBounds];exact H.size
 refine ⟨d,.func g,caps.map a.eval,caps.toList.map a.eval,{ a1 with defers:=d::a.defers },?_,rfl,hsz,?_,rfl,?_,?_⟩
 ·refine wpIn_region ?_
  have w1:Region.wanted oM (yielded #[oM,oD] a.tmps)=true:=by unfold Region.wanted;rw [hMg]
  have w2:Region.wanted oD (yielded #[oM,oD] a1.tmps)=true:=by unfold Region.wanted;rw [hDg]
  show wpOpsIn _ _ _ _ _ [0,1] a w
  simp only [wpOpsIn,List.getElem?_toArray,List.getElem?_cons_zero,List.getElem?_cons_succ]
  rw [if_pos w1]
  refine ⟨fun _ _=>trivial,?_⟩
  have e1:(oM.semAt (Fw ⟨none,K⟩).round a.eval).run P w=.ok (.value fv) w:=by
   rw [show (Fw ⟨none,K⟩).round=none from rfl,Oper.semAt_none]
   simp only [execOp,hM,Instr.makeFunc,Sem.run_bind,Sem.run_pure,Result.andThen_ok]
   simp [fv]
  rw [e1,Oper.uponIn_value,hMd]
  rw [if_pos w2]
  refine ⟨fun _ _=>trivial,?_⟩
  have hev:a1.eval (.tmp tc)=fv:=by
   simp only [Act.eval,a1,Act.put]
   rw [Array.getD_eq_getD_getElem?,Array.getElem?_setIfInBounds_self_of_lt (by rw [H.size];exact htc)]
   rfl
  have e2:(oD.semAt (Fw ⟨none,K⟩).round a1.eval).run P w=.ok (.defer d) w:=by
   rw [show (Fw ⟨none,K⟩).round=none from rfl,Oper.semAt_none]
   simp only [execOp,hD,resolve,hev,fv,Deferred.ofValue,Sem.run_bind,Sem.run_pure,Result.andThen_ok]
   simp [d]
  rw [show a.put (some tc) fv=a1 from rfl,e2,Oper.uponIn_defer,hDd]
  exact ⟨trivial,rfl,rfl⟩
 ·exact TRep.put H.t (by rw [H.size];exact htc) trivial
 ·intro w
  simp [d,invoke,hen]
  rw [← Array.toList_inj];simp
 ·rw [← hcaps]
  have:∀ l:List Operand,AsRep ρ al (l.map (evT s1.t)) (l.map a.eval):=by
   intro l
   induction l with
   | nil=>trivial
   | cons x l ih=>exact ⟨jc H.t x,ih⟩
  exact this _
end
theorem tx {P:Program} {t:TypeId} (h:kT P t=4):∃ ms,P.underlying t=some (.interface ms):=by
 unfold kT at h
 split at h
 all_goals first | (rename_i ms hu;exact ⟨ms,hu⟩) | cases h
theorem vO {P:Program} {t:TypeId} {u v:Value} {x y:Operand} {b:Bool} {w:World} (h1:binOp .eql t u v=(do pure (.bool (← Op.equal t u v)))) (h3:(eqGuard .eql t x y u v).run P w=.ok () w) (h4:∀ d,(Op.equalIn (d+1) t u v).run P w=.ok b w):(do eqGuard .eql t x y u v;binOp .eql t u v:Sem Value).run P w=.ok (.bool b) w:=by
  have h5:(Op.equal t u v).run P w=.ok b w:=by
    unfold Op.equal
    rw [show Op.maxDepth=9999+1 from rfl]
    exact h4 9999
  rw [Sem.run_bind,h3,Result.andThen_ok,h1,Sem.run_bind,h5]
  rfl
theorem ni {P:Program} {t u:TypeId} {v c:Value} {x:Operand} (h:kT P t=4):l9 P (do eqGuard .eql t x (.const c) (.iface u v) .nilIface;binOp .eql t (.iface u v) .nilIface)=some (.bool false):=by
  obtain ⟨ms,hu⟩:=tx h
  exact lH fun w=>vO rfl rfl (fun d=>by simp only [Op.equalIn,Sem.run_bind,run_underlying hu,Result.andThen_ok];rfl)
theorem pI {P:Program} {t:TypeId} {c:Value} {x:Operand} (h:kT P t=4):l9 P (do eqGuard .eql t x (.const c) .nilIface .nilIface;binOp .eql t .nilIface .nilIface)=some (.bool true):=by
  obtain ⟨ms,hu⟩:=tx h
  exact lH fun w=>vO rfl (by cases x<;>rfl) (fun d=>by simp only [Op.equalIn,Sem.run_bind,run_underlying hu,Result.andThen_ok];rfl)
theorem Wk.renL {ro:Cf} {s s':St} (L:List Nat) (hK:∀ j,j<ro.K→L[j]? = some j) (hn:L.length≤s'.nx) (hd:L.Nodup) (ht:s'.t.map (fun p=>dk s.t p.1)=s'.t.map fun p=>p.2.ren fun b=>L.getD b s.nx)
  (hh:s'.h.map (fun p=>hget s.h (L.getD p.1 s.nx))=s'.h.map fun p=>p.2.map fun k=>k.ren fun b=>L.getD b s.nx):Wk ro s s' :=
 Wk.ren L hK hn hd (fun p hp=>List.map_inj_left.1 ht p hp) (fun p hp k hk=>by
  have:=List.map_inj_left.1 hh p hp
  rw [hk] at this
  exact this)
theorem Wk.sub {ro:Cf} {s s':St} (hn:s.nx≤s'.nx) (ht:s'.t.map (fun p=>dk s.t p.1)=s'.t.map (·.2)) (hh:s'.h.map (fun p=>hget s.h p.1)=s'.h.map (·.2)):Wk ro s s':=by
 intro n B w0 ρ al a w hpl H
 refine ⟨ρ,al,H.size,H.defers,?_,H.w.sub fun b k hk=>?_,fun b hb=>Nat.lt_of_lt_of_le (H.al b hb) hn⟩
 ·intro k
  rcases tget_mem (t:=s'.t) (k:=k) rfl with h | h
  ·rw [h];trivial
  ·have h2:dk s.t k=dk s'.t k:=List.map_inj_left.1 ht _ h
   rw [← h2];exact H.t k
 ·have:=List.map_inj_left.1 hh _ (xm hk)
  exact this
end
section
open Go.RowKit
section
variable {P:Program}
abbrev ρ0:Nat→Loc:=fun _=>⟨0,0,0,0,false⟩
abbrev al0 (M:Mem):Al:=⟨fun _=>False,M⟩
theorem vx {w w':World} (h:Below w.heap.size w w'):Keeps (fun k=>k<w.heap.size) w w' :=
 ⟨h.os,h.tape,h.output,h.size,fun k hk=>h.block k hk,fun k o hk _=>by rw [h.block k (Array.getElem?_eq_some_iff.1 hk).1];exact hk⟩
def mkC {X:Type} (f:FuncId) (hen:∀ (args:Array Value) (w:World),(callFunc f args).run P w=.ok (.enter f args) w) (dec:List AV→Option (Prop×X)) (enc:X→List AV) (out:X→AV) (hpl:∀ x,(out x).plain=true)
  (hdec:∀ {as:List AV} {q:Prop} {x:X},dec as=some (q,x)→q→∀ (ρ:Nat→Loc) (al:Al) (vals:List Value),AsRep ρ al as vals→AsRep ρ al (enc x) vals)
  (calls:∀ {as:List AV} {q:Prop} {x:X},dec as=some (q,x)→q→∀ (M:Mem) (w:World) (vals:List Value),Gok M→(∀ b o y,M b o=some y→w.cell? ⟨b,o,none⟩=some y)→AsRep ρ0 (al0 M) (enc x) vals →
   Calls P f vals.toArray w fun e w'=>(∃ v,e=.returned v∧ARep ρ0 (al0 M) (out x) v)∧Below w.heap.size w w'):bi P f where
 enter:=hen
 run:=fun _ h args=>bT dec (fun x=>.ret (out x)) h args
 pan:=fun _ h args=>bU dec (fun x=>.ret (out x)) h args
 mono:=by
  intro id h h' args R hs hr
  unfold bT at hr ⊢
  split at hr
  case h_2=>cases hr
  rename_i p u as hm
  rw [gA (fun z t hz=>AV.toD_mono hs 4 hz) hm]
  exact hr
 sound:=by
  intro id h args R hr hob B w0 ρ al w vals H hid hA
  unfold bT at hr
  split at hr
  case h_2=>cases hr
  rename_i p u as hm
  split at hr
  case h_2=>cases hr
  rename_i q x hd
  simp only at hr
  injection hr with hr
  subst hr
  obtain ⟨hp,hq⟩:=hob
  have hA1:=hdec hd hq ρ0 (al0 (fG al.M ρ h u w)) vals (mE H rfl hm hp (fun _ hc=>hc) hA)
  refine (calls hd hq (fG al.M ρ h u w) w vals (HV H u) (fun b o y hy=>tn H hy) hA1).mono ?_
  rintro e w' ⟨⟨v,rfl,hv⟩,hb⟩
  refine ⟨v,ρ,al,rfl,.refl _ _,fun b hb=>.inl hb,hv.plain (hpl x),?_⟩
  unfold xn
  rw [if_pos (hpl x)]
  exact H.step (.refl _ _) (H.below.trans ((vx hb).mono fun k hk=>H.size k hk)) (fun b k hk hc=>hb.block _ (H.lt hk hc)) (fun b ⟨_,_,hb'⟩=>hb.block _ (H.memLt hb'))
 psound:=by
  intro id h args ob y E hr
  unfold bU at hr
  split at hr
  case h_2=>cases hr
  split at hr
  case h_2=>cases hr
  cases hr
def CD {α:Type} (f:FuncId) (hen:∀ (args:Array Value) (w:World),(callFunc f args).run P w=.ok (.enter f args) w) (T:Ty α) (q:α→Prop) (out:α→AV) (hpl:∀ x,(out x).plain=true)
  (calls:∀ x,q x→∀ (M:Mem) (w:World) (v:Value),(∀ b o y,M b o=some y→w.cell? ⟨b,o,none⟩=some y)→ARep ρ0 (al0 M) (T.enc x) v→Calls P f #[v] w fun e w'=>(∃ v,e=.returned v∧ARep ρ0 (al0 M) (out x) v)∧Below w.heap.size w w'):bi P f :=
 mkC f hen (ba T q) (fun x=>[T.enc x]) out hpl
  (by
   intro as p x h _ ρ al vals hA
   unfold ba at h
   split at h
   ·split at h
    ·rename_i hx
     injection h with h
     injection h with h1 h2
     subst h2
     match vals,hA with
     | [v],⟨a,_⟩=>exact ⟨T.ok hx a,trivial⟩
    ·cases h
   ·cases h)
  (by
   intro as p x h hp M w vals hG hM hA
   unfold ba at h
   split at h
   ·split at h
    ·injection h with h
     injection h with h1 h2
     subst h1
     subst h2
     match vals,hA with
     | [v],⟨a,_⟩=>exact calls _ hp M w v hM a
    ·cases h
   ·cases h)
def Ry {α:Type} (f:FuncId) (fn:Func) (hen:∀ (args:Array Value) (w:World),(callFunc f args).run P w=.ok (.enter f args) w) (T:Ty α) (q:α→Prop) (out:α→PO) (hn:1≤fn.ntmps)
  (body:∀ x,q x→JR P f fn ⟨0,aC 0 [T.enc x],[]⟩ (out x)):bi P f :=
 mkPD f fn hen (ba T q) (fun x=>[T.enc x]) out
  (by
   intro as p x h _
   unfold ba at h
   split at h
   ·split at h
    ·rename_i hx
     injection h with h
     injection h with h1 h2
     subst h2
     refine ⟨hn,fun ρ al vals hA=>?_⟩
     match vals,hA with
     | [v],⟨a,_⟩=>exact ⟨T.ok hx a,trivial⟩
    ·cases h
   ·cases h)
  (by
   intro as p x h hp
   unfold ba at h
   split at h
   ·split at h
    ·injection h with h
     injection h with h1 h2
     subst h1
     subst h2
     exact body _ hp
    ·cases h
   ·cases h)
theorem Ih {f:FuncId} {fn:Func} {c:Code} (hf:P.funcs[f]? = some fn) (hb:fn.body=some c) {xs:List AV} {vals:List Value} {w:World} (hG:Gok fun b o=>w.cell? ⟨b,o,none⟩) (hA:AsRep ρ0 (al0 fun b o=>w.cell? ⟨b,o,none⟩) xs vals) (hn:vals.length≤fn.ntmps) {v:Value}
  (hsw:SW P ⟨none,0⟩ fn.ntmps c ⟨0,aC 0 xs,[]⟩ (es P fn.results.toList (.ret (.s (.l (.v v)))))):Calls P f vals.toArray w fun e w'=>e=.returned v∧Below w.heap.size w w':=by
 refine iG (K:=0) (B:=⟨fun k=>k<w.heap.size,fun b o=>w.cell? ⟨b,o,none⟩,[],[],hG⟩) (ρ:=ρ0) (al:=al0 fun b o=>w.cell? ⟨b,o,none⟩) (s0:=⟨0,aC 0 xs,[]⟩) hf hb rfl rfl
  ⟨by simp;omega,Marks.nil _ _ _,kf hA _,⟨fun _ hk=>hk,.refl _ _,(fun b k hk=>by cases hk),(fun b k hk=>by cases hk),(fun b k hk=>by cases hk),(fun b c k l hk=>by cases hk),fun b o y hy=>hy,(fun b k hk=>by cases hk),fun b o y hy=>.inl hy,Mem.le_refl _,fun j l hj=>by simp at hj⟩,fun b hb=>hb.elim⟩ hsw ?_ ?_
 ·intro s ρ1 al1 a w1 hq1 H1
  obtain ⟨r0,q1,u1,r1,h1,h2,h3,h4⟩:=oU hq1
  injection h4 with h4
  subst h4
  obtain ⟨v',g1,g2⟩:=mF (fn:=fn) H1 h1
  have g3:=AV.toD_rep (U:=u1) (ρ2:=ρ1) (al2:=⟨al1.p,fG al1.M ρ1 s.h u1 w1⟩) H1.w rfl h2 h3 (fun _ hc=>hc) g2
  obtain rfl:v'=v:=g3
  refine ⟨v',g1,rfl,?_⟩
  have hk:=H1.w.below
  exact ⟨hk.os,hk.tape,hk.output,hk.size,hk.block⟩
 ·intro y s ρ1 al1 a w1 h1 H1
  cases h1
theorem Ca {M:Mem} {blk:Nat}:∀ {off:Nat} {e:List Value},DsAt M blk off (e.map .v)→∀ (j:Nat) (u:Value),e[j]? = some u→M blk (off+j)=some u
 | off,[],_,j,u,hu=>by simp at hu
 | off,x::e,h,j,u,hu=>by
  simp only [List.map_cons,DsAt] at h
  obtain ⟨⟨y,h1,_,h3⟩,h4⟩:=h
  simp only [DRep] at h3
  subst h3
  cases j with
  | zero=>simp at hu;subst hu;exact h1
  | succ j =>
   have:=Ca h4 j u (by simpa using hu)
   rwa [show off+(j+1)=off+1+j by omega]
theorem um {M:Mem} {blk sz:Nat}:∀ {off:Nat} {rows:List (List Value)},DssAt M blk off sz (rows.map fun e=>e.map .v)→∀ (j:Nat) (u:Value),rows.flatten[j]? = some u→M blk (off+j)=some u
 | off,[],_,j,u,hu=>by simp at hu
 | off,e::r,h,j,u,hu=>by
  simp only [List.map_cons,DssAt] at h
  obtain ⟨h1,h2,h3⟩:=h
  rw [List.length_map] at h1
  rw [List.flatten_cons] at hu
  by_cases hj:j<e.length
  ·rw [List.getElem?_append_left hj] at hu
   exact Ca h2 j u hu
  ·rw [List.getElem?_append_right (by omega)] at hu
   have:=um h3 (j-e.length) u hu
   rwa [show off+sz+(j-e.length)=off+j by omega] at this
theorem TY {M:Mem} {w:World} (hM:∀ b o y,M b o=some y→w.cell? ⟨b,o,none⟩=some y) {sz:Nat} {rows:List (List Value)} (hl:rows.flatten.length=rows.length*sz) (hsz:rows≠[]→rows.flatten≠[]) {v:Value} (h:DRep M (.sd sz (rows.map fun e=>e.map .v)) v) :
  ∃ A cap,v=.slice A rows.length cap∧SL w w.heap.size sz A rows.length rows.flatten:=by
 simp only [DRep] at h
 obtain ⟨A,cap,rfl,hc,hA⟩:=h
 refine ⟨A,cap,by rw [List.length_map],hl,fun hn=>?_⟩
 have hne:rows≠[]:=by intro e;rw [e] at hn;simp at hn
 obtain ⟨blk,off,rfl,hat⟩:=hA (by simpa using hne)
 have hg:=um hat
 refine ⟨blk,off,rfl,?_,fun j u hu=>hM _ _ _ (hg j u hu)⟩
 cases hf:rows.flatten with
 | nil=>exact (hsz hne hf).elim
 | cons x r =>
  have h0:=hM _ _ _ (hg 0 x (by rw [hf];rfl))
  obtain ⟨q,h1,_⟩:=iN h0
  exact (Array.getElem?_eq_some_iff.1 h1).1
end
section
end
end
end Go.Proofs.YtnhbidpdadkcjaaGreatDoor
