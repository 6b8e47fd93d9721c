import Derived.Test.YtnhbidpdadkcjaaGreatDoorJ05
set_option linter.unusedVariables false
set_option linter.unusedSimpArgs false
set_option maxRecDepth 100000
set_option maxHeartbeats 8000000
namespace Go.Proofs.YtnhbidpdadkcjaaGreatDoor
section
open Go.RowKit
def LV.ren (g:Nat→Nat):LV→LV
 | .v x=>.v x
 | .d x=>.d x
 | .sl b i n=>.sl (g b) i n
 | .p b i j=>.p (g b) i j
 | .bf h bs cs=>.bf h (bs.map g) (cs.map g)
 | .any=>.any
def SV.ren (g:Nat→Nat):SV→SV
 | .l x=>.l (x.ren g)
 | .agg xs=>.agg (xs.map (·.ren g))
def AV.ren (g:Nat→Nat):AV→AV
 | .s x=>.s (x.ren g)
 | .tup xs=>.tup (xs.map (·.ren g))
 | .fn f a c=>.fn f (a.map (·.ren g)) (c.map (·.ren g))
def Blk.ren (g:Nat→Nat) (k:Blk):Blk:=⟨k.own,k.T,k.sz,k.els.map (·.map (·.ren g))⟩
theorem LV.ren_v {g:Nat→Nat} {x:Value}:(LV.v x).ren g=.v x:=rfl
theorem LV.ren_d {g:Nat→Nat} {x:D}:(LV.d x).ren g=.d x:=rfl
theorem LV.ren_sl {g:Nat→Nat} {b i n:Nat}:(LV.sl b i n).ren g=.sl (g b) i n:=rfl
theorem LV.ren_p {g:Nat→Nat} {b i j:Nat}:(LV.p b i j).ren g=.p (g b) i j:=rfl
theorem LV.ren_bf {g:Nat→Nat} {h:FuncId} {bs cs:List Nat}:(LV.bf h bs cs).ren g=.bf h (bs.map g) (cs.map g):=rfl
theorem LV.ren_any {g:Nat→Nat}:LV.any.ren g=.any:=rfl
theorem Gw {g:Nat→Nat} {x:D}:(ofD x).ren g=ofD x:=by cases x<;>rfl
theorem CQ {g:Nat→Nat} {xs:List D}:(cG xs).map (·.ren g)=cG xs:=by
 unfold cG
 rw [List.map_map]
 exact List.map_congr_left fun x _=>Gw
theorem jF {g:Nat→Nat} {els:List (List D)}:(els.map cG).map (·.map (·.ren g))=els.map cG:=by
 rw [List.map_map]
 exact List.map_congr_left fun x _=>CQ
def alR (al:Al) (g:Nat→Nat):Al:=⟨fun b=>al (g b),al.M⟩
section
variable {ρ:Nat→Loc} {al:Al} {g:Nat→Nat}
theorem LRep.ren {x:LV} {y:Value} (h:LRep ρ al (x.ren g) y):LRep (fun b=>ρ (g b)) (alR al g) x y:=by
 cases x
 case bf k bs cs =>
  obtain ⟨h1,h2,h3⟩:=h
  refine ⟨fun b hb=>h1 _ (List.mem_map_of_mem hb),fun b hb=>h2 _ (List.mem_map_of_mem hb),?_⟩
  rw [h3,List.map_map,List.map_map]
  rfl
 all_goals exact h
theorem LsRep.ren:∀ {xs:List LV} {ys:List Value},LsRep ρ al (xs.map (·.ren g)) ys→LsRep (fun b=>ρ (g b)) (alR al g) xs ys
 | [],[],_=>trivial
 | [],_::_,h=>h.elim
 | _::_,[],h=>h.elim
 | _::_,_::_,⟨a,b,c⟩=>⟨a,b.ren,LsRep.ren c⟩
theorem SRep.ren {x:SV} {y:Value} (h:SRep ρ al (x.ren g) y):SRep (fun b=>ρ (g b)) (alR al g) x y:=by
 cases x with
 | l x=>exact LRep.ren h
 | agg xs=>obtain ⟨cs,e,h⟩:=h;exact ⟨cs,e,h.ren⟩
theorem SsRep.ren:∀ {xs:List SV} {ys:List Value},SsRep ρ al (xs.map (·.ren g)) ys→SsRep (fun b=>ρ (g b)) (alR al g) xs ys
 | [],[],_=>trivial
 | [],_::_,h=>h.elim
 | _::_,[],h=>h.elim
 | _::_,_::_,⟨a,b⟩=>⟨a.ren,SsRep.ren b⟩
theorem ARep.ren {x:AV} {y:Value} (h:ARep ρ al (x.ren g) y):ARep (fun b=>ρ (g b)) (alR al g) x y:=by
 cases x with
 | s x=>exact SRep.ren h
 | tup xs=>obtain ⟨cs,e,h⟩:=h;exact ⟨cs,e,h.ren⟩
 | fn f a c=>obtain ⟨fs,cs,e,h,k⟩:=h;exact ⟨fs,cs,e,h.ren,k.ren⟩
theorem DZ {els:List (List LV)} {i j:Nat} {x:LV} (h:cellAt els i j=some x):cellAt (els.map (·.map (·.ren g))) i j=some (x.ren g):=by
 obtain ⟨e,h1,h2⟩:=bH.1 h
 exact bH.2 ⟨e.map (·.ren g),by rw [List.getElem?_map,h1];rfl,by rw [List.getElem?_map,h2];rfl⟩
theorem BRep.ren {w:World} {b:Nat} {k:Blk} (h:BRep ρ al w (g b) (k.ren g)):BRep (fun b=>ρ (g b)) (alR al g) w b k :=
 ⟨h.here,h.own,h.sz,fun e he=>by have:=h.len (e.map (·.ren g)) (List.mem_map.2 ⟨e,he,rfl⟩);simpa [Blk.ren] using this,by simpa [Blk.ren] using h.cap,
  fun i j x hx=>by
   obtain ⟨y,h1,h2,h3⟩:=h.cells i j _ (DZ hx)
   exact ⟨y,h1,h2,h3.ren⟩,h.room⟩
theorem tget_mem:∀ {t:et} {k:Nat} {A:AV},dk t k=A→A=.s (.l .any)∨(k,A)∈t
 | [],k,A,h=>.inl h.symm
 | (j,x)::r,k,A,h=>by
  rw [dk] at h
  split at h
  ·rename_i e;subst e;subst h;exact .inr (by simp)
  ·rcases tget_mem h with h | h
   ·exact .inl h
   ·exact .inr (by simp [h])
theorem xm:∀ {h:ah} {b:Nat} {k:Blk},hget h b=some k→(b,some k)∈h
 | [],_,_,h=>by cases h
 | (j,x)::r,b,k,h=>by
  rw [hget] at h
  split at h
  ·rename_i e;subst e;subst h;simp
  ·simp [xm h]
end
theorem Wk.ren {ro:Cf} {s s':St} (L:List Nat) (hK:∀ j,j<ro.K→L[j]? = some j) (hn:L.length≤s'.nx) (hd:L.Nodup) (ht:∀ p∈s'.t,dk s.t p.1=p.2.ren fun b=>L.getD b s.nx) (hh:∀ p∈s'.h,∀ k,p.2=some k→hget s.h (L.getD p.1 s.nx)=some (k.ren fun b=>L.getD b s.nx)):Wk ro s s':=by
 intro n B w0 ρ al a w hpl H
 have hno:¬al s.nx:=fun h=>Nat.lt_irrefl _ (H.al _ h)
 have hlt:∀ b,al (L.getD b s.nx)→b<L.length:=by
  intro b hb
  rcases Nat.lt_or_ge b L.length with h | h
  ·exact h
  ·rw [List.getD_eq_getElem?_getD,List.getElem?_eq_none h] at hb
   exact (hno hb).elim
 have hb:∀ b k,hget s'.h b=some k→hget s.h (L.getD b s.nx)=some (k.ren fun b=>L.getD b s.nx):=fun b k hk=>hh _ (xm hk) k rfl
 refine ⟨fun b=>ρ (L.getD b s.nx),alR al fun b=>L.getD b s.nx,H.size,H.defers,?_,⟨H.w.base,H.w.below,?_,?_,?_,?_,H.w.mem,?_,H.w.memNew,H.w.memOld,?_⟩,fun b hb=>Nat.lt_of_lt_of_le (hlt b hb) hn⟩
 ·intro k
  rcases tget_mem (t:=s'.t) (k:=k) rfl with h | h
  ·rw [h];trivial
  ·have h1:=ht _ h
   have h2:=H.t k
   rw [h1] at h2
   exact h2.ren
 ·exact fun b k hk=>(H.w.blk _ _ (hb b k hk)).ren
 ·exact fun b k hk ho hc=>H.w.own _ _ (hb b k hk) ho hc
 ·intro b k hk ho hne
  exact H.w.old _ _ (hb b k hk) ho (by simpa [Blk.ren] using hne)
 ·intro b c k l hk hl ok ol cb cc hne
  refine H.w.apart _ _ _ _ (hb b k hk) (hb c l hl) ok ol cb cc ?_
  have h1:=hlt b (H.w.blk _ _ (hb b k hk)).here
  have h2:=hlt c (H.w.blk _ _ (hb c l hl)).here
  rw [List.getD_eq_getElem?_getD,List.getD_eq_getElem?_getD,List.getElem?_eq_getElem h1,List.getElem?_eq_getElem h2]
  exact fun e=>hne ((List.getElem_inj hd).1 e)
 ·exact fun b k hk ho hc=>H.w.memOwn _ _ (hb b k hk) ho hc
 ·intro j l hj
  have hjK:j<ro.K:=by rw [← hpl];exact (List.getElem?_eq_some_iff.1 hj).1
  have e:L.getD j s.nx=j:=by rw [List.getD_eq_getElem?_getD,hK j hjK];rfl
  have:=H.w.pins j l hj
  refine ⟨?_,?_⟩
  ·show al (L.getD j s.nx);rw [e];exact this.1
  ·show ρ (L.getD j s.nx)=l;rw [e];exact this.2
def refOf:AV→Nat
 | .s (.l (.sl b _ _))=>b
 | .s (.l (.p b _ _))=>b
 | _=>0
theorem Wk.nil {ro:Cf} {s:St} (k:Nat) (T:TypeId) (sz:Nat) (hk:dk s.t k=.s (.l (.v (.slice none 0 0)))):Wk ro s ⟨s.nx+1,(k,.s (.l (.sl s.nx 0 0)))::s.t,(s.nx,some ⟨true,T,sz,[]⟩)::s.h⟩:=by
 intro n B w0 ρ al a w _ H
 have hid:¬al s.nx:=fun h=>Nat.lt_irrefl _ (H.al _ h)
 obtain ⟨ρ',E,e,H'⟩:=H.w.virtual hid T sz
 refine ⟨ρ',al1 al s.nx,H.size,H.defers,?_,H',?_⟩
 ·intro j
  rw [dk]
  split
  ·rename_i ej
   subst ej
   have:=H.t k
   rw [hk] at this
   have hv:a.tmps.getD k undef=.slice none 0 0:=this
   rw [hv]
   exact ⟨.inr rfl,none,by rw [e];rfl,by simp,fun h=>by rw [e] at h;simp at h⟩
  ·exact (H.t j).ext E
 ·rintro b (hb | rfl)
  ·have:=H.al b hb;show b<s.nx+1;omega
  ·show _<_+1;omega
theorem Wk.nilD {ro:Cf} {s:St} (k:Nat) (sz:Nat) (hk:dk s.t k=.s (.l (.v (.slice none 0 0)))):Wk ro s ⟨s.nx,(k,.s (.l (.d (.sd sz []))))::s.t,s.h⟩:=by
 intro n B w0 ρ al a w _ H
 refine ⟨ρ,al,H.size,H.defers,?_,H.w,H.al⟩
 intro j
 rw [dk]
 split
 ·rename_i ej
  subst ej
  have:=H.t k
  rw [hk] at this
  have hv:a.tmps.getD k undef=.slice none 0 0:=this
  rw [hv]
  simp only [ARep,SRep,LRep,DRep]
  exact ⟨none,0,rfl,Nat.le_refl _,fun h=>absurd rfl h⟩
 ·exact H.t j
def LV.flat:LV→Bool
 | .v _=>true
 | .d _=>true
 | _=>false
def SV.flat:SV→Bool
 | .l x=>x.flat
 | .agg xs=>xs.all (·.flat)
def AV.flat:AV→Bool
 | .s x=>x.flat
 | .tup xs=>xs.all (·.flat)
 | .fn _ f c=>f.all (·.flat)&&c.all (·.flat)
def LV.plain:LV→Bool
 | .v _=>true
 | _=>false
def SV.plain:SV→Bool
 | .l x=>x.plain
 | .agg xs=>xs.all (·.plain)
def AV.plain:AV→Bool
 | .s x=>x.plain
 | .tup xs=>xs.all (·.plain)
 | .fn _ f c=>f.all (·.plain)&&c.all (·.plain)
section
variable {ρ ρ':Nat→Loc} {al al':Al}
theorem LRep.flat (hM:al.M.le al'.M) {x:LV} {y:Value} (h:LRep ρ al x y) (hf:x.flat=true):LRep ρ' al' x y:=by
 cases x<;>first | exact DRep.mono hM h | exact h | cases hf
theorem LsRep.flat (hM:al.M.le al'.M):∀ {xs:List LV} {ys:List Value},LsRep ρ al xs ys→xs.all (·.flat)=true→LsRep ρ' al' xs ys
 | [],[],_,_=>trivial
 | _::_,_::_,⟨a,b,c⟩,hf=>by
  simp only [List.all_cons,Bool.and_eq_true] at hf
  exact ⟨a,b.flat hM hf.1,LsRep.flat hM c hf.2⟩
theorem SRep.flat (hM:al.M.le al'.M) {x:SV} {y:Value} (h:SRep ρ al x y) (hf:x.flat=true):SRep ρ' al' x y:=by
 cases x with
 | l x=>exact LRep.flat hM h hf
 | agg xs=>obtain ⟨cs,e,h⟩:=h;exact ⟨cs,e,h.flat hM hf⟩
theorem SsRep.flat (hM:al.M.le al'.M):∀ {xs:List SV} {ys:List Value},SsRep ρ al xs ys→xs.all (·.flat)=true→SsRep ρ' al' xs ys
 | [],[],_,_=>trivial
 | _::_,_::_,⟨a,b⟩,hf=>by
  simp only [List.all_cons,Bool.and_eq_true] at hf
  exact ⟨a.flat hM hf.1,SsRep.flat hM b hf.2⟩
theorem ARep.flat (hM:al.M.le al'.M) {x:AV} {y:Value} (h:ARep ρ al x y) (hf:x.flat=true):ARep ρ' al' x y:=by
 cases x with
 | s x=>exact SRep.flat hM h hf
 | tup xs=>obtain ⟨cs,e,h⟩:=h;exact ⟨cs,e,h.flat hM hf⟩
 | fn f a c =>
  obtain ⟨fs,cs,e,h,k⟩:=h
  simp only [AV.flat,Bool.and_eq_true] at hf
  exact ⟨fs,cs,e,h.flat hM hf.1,k.flat hM hf.2⟩
theorem AsRep.flat (hM:al.M.le al'.M):∀ {xs:List AV} {ys:List Value},AsRep ρ al xs ys→xs.all (·.flat)=true→AsRep ρ' al' xs ys
 | [],[],_,_=>trivial
 | _::_,_::_,⟨a,b⟩,hf=>by
  simp only [List.all_cons,Bool.and_eq_true] at hf
  exact ⟨a.flat hM hf.1,AsRep.flat hM b hf.2⟩
theorem LRep.plain {x:LV} {y:Value} (h:LRep ρ al x y) (hf:x.plain=true):LRep ρ' al' x y:=by
 cases x<;>first | exact h | cases hf
theorem LsRep.plain:∀ {xs:List LV} {ys:List Value},LsRep ρ al xs ys→xs.all (·.plain)=true→LsRep ρ' al' xs ys
 | [],[],_,_=>trivial
 | _::_,_::_,⟨a,b,c⟩,hf=>by
  simp only [List.all_cons,Bool.and_eq_true] at hf
  exact ⟨a,b.plain hf.1,LsRep.plain c hf.2⟩
theorem SRep.plain {x:SV} {y:Value} (h:SRep ρ al x y) (hf:x.plain=true):SRep ρ' al' x y:=by
 cases x with
 | l x=>exact LRep.plain h hf
 | agg xs=>obtain ⟨cs,e,h⟩:=h;exact ⟨cs,e,h.plain hf⟩
theorem SsRep.plain:∀ {xs:List SV} {ys:List Value},SsRep ρ al xs ys→xs.all (·.plain)=true→SsRep ρ' al' xs ys
 | [],[],_,_=>trivial
 | _::_,_::_,⟨a,b⟩,hf=>by
  simp only [List.all_cons,Bool.and_eq_true] at hf
  exact ⟨a.plain hf.1,SsRep.plain b hf.2⟩
theorem ARep.plain {x:AV} {y:Value} (h:ARep ρ al x y) (hf:x.plain=true):ARep ρ' al' x y:=by
 cases x with
 | s x=>exact SRep.plain h hf
 | tup xs=>obtain ⟨cs,e,h⟩:=h;exact ⟨cs,e,h.plain hf⟩
 | fn f a c =>
  obtain ⟨fs,cs,e,h,k⟩:=h
  simp only [AV.plain,Bool.and_eq_true] at hf
  exact ⟨fs,cs,e,h.plain hf.1,k.plain hf.2⟩
end
def ez {α β:Type} (g:α→Option (Prop×List Nat×β)):List α→Option (Prop×List Nat×List β)
 | []=>some (True,[],[])
 | x::r=>match g x,ez g r with
  | some (p,u,d),some (q,v,l)=>some (p∧q,u++v,d::l)
  | _,_=>none
def LV.toD (h:ah):Nat→LV→Option (Prop×List Nat×D)
 | _,.v x=>some (True,[],.v x)
 | _,.d x=>some (True,[],x)
 | f+1,.sl b i n=>match hget h b with
  | some k=>if k.own=true then match ez (ez (LV.toD h f)) ((k.els.drop i).take n) with
    | some (q,u,ds)=>some (i+n≤k.els.length∧q,b::u,.sd k.sz ds)
    | none=>none
    else none
  | none=>none
 | f+1,.p b i j=>match hget h b with
  | some k=>if k.own=true then match k.els[i]? with
    | some e=>match ez (LV.toD h f) (e.drop j) with
     | some (q,u,ds)=>some (q,b::u,.pd ds)
     | none=>none
    | none=>none
    else none
  | none=>none
 | _,_=>none
theorem GN {h:ah} {f:Nat} {x:D}:LV.toD h f (ofD x)=some (True,[],x):=by
 cases x<;>cases f<;>simp [ofD,LV.toD]
theorem uy {h:ah} {f:Nat}:∀ {xs:List D},ez (LV.toD h f) (cG xs)=some (True,[],xs)
 | []=>rfl
 | x::xs=>by
  have:=uy (h:=h) (f:=f) (xs:=xs)
  unfold cG at this ⊢
  rw [List.map_cons,ez,GN,this]
  simp
theorem im {h:ah} {f:Nat}:∀ {els:List (List D)},ez (ez (LV.toD h f)) (els.map cG)=some (True,[],els)
 | []=>rfl
 | e::els=>by
  rw [List.map_cons,ez,uy,im (els:=els)]
  simp
def SV.toD (h:ah) (f:Nat):SV→Option (Prop×List Nat×SV)
 | .l x=>match x.toD h f with
  | some (p,u,d)=>some (p,u,.l (ofD d))
  | none=>none
 | .agg xs=>match ez (LV.toD h f) xs with
  | some (p,u,ds)=>some (p,u,.agg (cG ds))
  | none=>none
def AV.toD (h:ah) (f:Nat):AV→Option (Prop×List Nat×AV)
 | .s x=>match x.toD h f with
  | some (p,u,d)=>some (p,u,.s d)
  | none=>none
 | .tup xs=>match ez (SV.toD h f) xs with
  | some (p,u,ds)=>some (p,u,.tup ds)
  | none=>none
 | .fn g a c=>match ez (LV.toD h f) a,ez (LV.toD h f) c with
  | some (p,u,fd),some (q,v,cd)=>some (p∧q,u++v,.fn g (cG fd) (cG cd))
  | _,_=>none
open Classical in
noncomputable def fG (M:Mem) (ρ:Nat→Loc) (h:ah) (U:List Nat) (w:World):Mem:=fun b o =>
 match M b o with
 | some y=>some y
 | none=>if ∃ c k,c∈U∧hget h c=some k∧k.own=true∧(ρ c).cap≠0∧(ρ c).blk=b then w.cell? ⟨b,o,none⟩ else none
section
variable {B:eK} {w0:World} {ρ:Nat→Loc} {al:Al} {h:ah} {w:World} {U:List Nat}
theorem pt:al.M.le (fG al.M ρ h U w):=fun b o y hy=>by unfold fG;rw [hy]
theorem frzM_some {M:Mem} {b o:Nat} {y:Value} (hy:fG M ρ h U w b o=some y):M b o=some y∨((∃ c k,c∈U∧hget h c=some k∧k.own=true∧(ρ c).cap≠0∧(ρ c).blk=b)∧w.cell? ⟨b,o,none⟩=some y):=by
 unfold fG at hy
 split at hy
 ·rename_i y' e;injection hy with hy;subst hy;exact .inl e
 ·split at hy
  ·rename_i hc;exact .inr ⟨hc,hy⟩
  ·cases hy
theorem tn (H:WRep B w0 ρ al h w) {b o:Nat} {y:Value} (hy:fG al.M ρ h U w b o=some y):w.cell? ⟨b,o,none⟩=some y :=
 (frzM_some hy).elim (H.mem b o y) (·.2)
theorem Gd (H:WRep B w0 ρ al h w) {c:Nat} {k:Blk} (hc:c∈U) (hk:hget h c=some k) (ho:k.own=true) (hcap:(ρ c).cap≠0) {o:Nat}:fG al.M ρ h U w (ρ c).blk o=w.cell? ⟨(ρ c).blk,o,none⟩:=by
 unfold fG
 rw [H.memOwn c k hk ho hcap o]
 simp only
 rw [if_pos ⟨c,k,hc,hk,ho,hcap,rfl⟩]
theorem tG {α β:Type} {g:α→Option (Prop×List Nat×β)}:∀ {xs:List α} {p:Prop} {u:List Nat} {ds:List β},ez g xs=some (p,u,ds)→p→ds.length=xs.length∧∀ (i:Nat) (d:β),ds[i]? = some d→∃ x q v,xs[i]? = some x∧g x=some (q,v,d)∧q∧∀ c∈v,c∈u
 | [],p,u,ds,h,_=>by
  simp only [ez,Option.some.injEq,Prod.mk.injEq] at h
  obtain ⟨_,_,rfl⟩:=h
  exact ⟨rfl,fun i d hd=>by simp at hd⟩
 | x::xs,p,u,ds,h,hp=>by
  simp only [ez] at h
  split at h
  case h_2=>cases h
  rename_i q v d q' v' l h1 h2
  injection h with h
  injection h with e1 h
  injection h with e2 e3
  subst e1
  subst e2
  subst e3
  obtain ⟨g1,g2⟩:=tG h2 hp.2
  refine ⟨by simp [g1],fun i d' hd=>?_⟩
  cases i with
  | zero =>
   simp at hd
   subst hd
   exact ⟨x,q,v,rfl,h1,hp.1,fun c hc=>List.mem_append.2 (.inl hc)⟩
  | succ i =>
   obtain ⟨x',q2,v2,a1,a2,a3,a4⟩:=g2 i d' (by simpa using hd)
   exact ⟨x',q2,v2,by simpa using a1,a2,a3,fun c hc=>List.mem_append.2 (.inr (a4 c hc))⟩
theorem toD_rep (H:WRep B w0 ρ al h w):∀ (f:Nat) {x:LV} {p:Prop} {u:List Nat} {d:D} {y:Value},LV.toD h f x=some (p,u,d)→p→(∀ c∈u,c∈U)→LRep ρ al x y→DRep (fG al.M ρ h U w) d y:=by
 intro f
 induction f with
 | zero =>
  intro x p u d y hx hp hu hr
  cases x with
  | v x=>simp only [LV.toD,Option.some.injEq,Prod.mk.injEq] at hx;obtain ⟨_,_,rfl⟩:=hx;simp only [DRep];exact hr
  | d x=>simp only [LV.toD,Option.some.injEq,Prod.mk.injEq] at hx;obtain ⟨_,_,rfl⟩:=hx;exact DRep.mono pt hr
  | sl b i n=>simp only [LV.toD] at hx;cases hx
  | p b i j=>simp only [LV.toD] at hx;cases hx
  | any=>simp only [LV.toD] at hx;cases hx
  | bf g bs cs=>simp only [LV.toD] at hx;cases hx
 | succ f ih =>
  intro x p u d y hx hp hu hr
  cases x with
  | v x=>simp only [LV.toD,Option.some.injEq,Prod.mk.injEq] at hx;obtain ⟨_,_,rfl⟩:=hx;simp only [DRep];exact hr
  | d x=>simp only [LV.toD,Option.some.injEq,Prod.mk.injEq] at hx;obtain ⟨_,_,rfl⟩:=hx;exact DRep.mono pt hr
  | any=>simp only [LV.toD] at hx;cases hx
  | bf g bs cs=>simp only [LV.toD] at hx;cases hx
  | p b i j =>
   simp only [LV.toD] at hx
   split at hx
   case h_2=>cases hx
   rename_i k hk
   split at hx
   case isFalse=>cases hx
   rename_i ho
   split at hx
   case h_2=>cases hx
   rename_i e he
   split at hx
   case h_2=>cases hx
   rename_i p' u' ds hm
   injection hx with hx
   injection hx with e1 hx
   injection hx with e2 e3
   subst e1
   subst e2
   subst e3
   obtain ⟨_,rfl⟩:=hr
   have Hb:=H.blk b k hk
   have hcap:(ρ b).cap≠0:=by have:=Hb.cap;have:=(List.getElem?_eq_some_iff.1 he).1;omega
   obtain ⟨g1,g2⟩:=tG hm hp
   simp only [DRep]
   refine ⟨_,_,rfl,DsAt.of fun m d hd=>?_⟩
   obtain ⟨x,q,v,a1,a2,a3,a4⟩:=g2 m d hd
   rw [List.getElem?_drop] at a1
   obtain ⟨y,b1,b2,b3⟩:=Hb.cells i (j+m) x (bH.2 ⟨e,he,a1⟩)
   refine ⟨y,?_,b2,ih a2 a3 (fun c hc=>hu c (List.mem_cons.2 (.inr (a4 c hc)))) b3⟩
   rw [Gd H (hu b (List.mem_cons.2 (.inl rfl))) hk ho hcap,← b1]
   congr 2
   omega
  | sl b i n =>
   simp only [LV.toD] at hx
   split at hx
   case h_2=>cases hx
   rename_i k hk
   split at hx
   case isFalse=>cases hx
   rename_i ho
   split at hx
   case h_2=>cases hx
   rename_i p' u' ds hm
   injection hx with hx
   injection hx with e1 hx
   injection hx with e2 e3
   subst e1
   subst e2
   subst e3
   obtain ⟨hin,hp⟩:=hp
   obtain ⟨_,A,rfl,hc,hA⟩:=hr
   have Hb:=H.blk b k hk
   obtain ⟨g1,g2⟩:=tG hm hp
   have hlen:ds.length=n:=by rw [g1];simp;omega
   simp only [DRep]
   refine ⟨A,(ρ b).cap-i,by rw [hlen],by rw [hlen];omega,fun hne=>?_⟩
   have hn:0<n:=by rw [← hlen];exact List.length_pos_iff.2 hne
   have hcap:(ρ b).cap≠0:=by omega
   have hoff:=(Hb.room ho).1
   refine ⟨(ρ b).blk,(ρ b).off+i*(ρ b).sz,hA (by omega),DssAt.of fun m e he=>?_⟩
   obtain ⟨r,q,v,a1,a2,a3,a4⟩:=g2 m e he
   rw [List.getElem?_take] at a1
   split at a1
   case isFalse=>cases a1
   rw [List.getElem?_drop] at a1
   obtain ⟨c1,c2⟩:=tG a2 a3
   refine ⟨by rw [c1];exact Hb.len r (List.mem_of_getElem? a1),DsAt.of fun j d hd=>?_⟩
   obtain ⟨x,q2,v2,d1,d2,d3,d4⟩:=c2 j d hd
   obtain ⟨y,b1,b2,b3⟩:=Hb.cells (i+m) j x (bH.2 ⟨r,a1,d1⟩)
   refine ⟨y,?_,b2,ih d2 d3 (fun c hc=>hu c (List.mem_cons.2 (.inr (a4 c (d4 c hc))))) b3⟩
   rw [Gd H (hu b (List.mem_cons.2 (.inl rfl))) hk ho hcap,← b1]
   congr 2
   rw [Nat.add_mul,Hb.sz]
   omega
theorem tH (H:WRep B w0 ρ al h w) {f:Nat} {ρ2:Nat→Loc} {al2:Al} (hM:al2.M=fG al.M ρ h U w):∀ {xs:List LV} {p:Prop} {u:List Nat} {ds:List D} {ys:List Value},ez (LV.toD h f) xs=some (p,u,ds)→p→(∀ c∈u,c∈U)→LsRep ρ al xs ys→LsRep ρ2 al2 (cG ds) ys
 | [],p,u,ds,[],hx,_,_,_=>by
  simp only [ez,Option.some.injEq,Prod.mk.injEq] at hx
  obtain ⟨_,_,rfl⟩:=hx
  trivial
 | x::xs,p,u,ds,y::ys,hx,hp,hu,⟨a,b,c⟩=>by
  simp only [ez] at hx
  split at hx
  case h_2=>cases hx
  rename_i q v d q' v' l h1 h2
  injection hx with hx
  injection hx with e1 hx
  injection hx with e2 e3
  subst e1
  subst e2
  subst e3
  exact ⟨a,pE.2 (hM▸toD_rep H f h1 hp.1 (fun c hc=>hu c (List.mem_append.2 (.inl hc))) b),tH H hM h2 hp.2 (fun c hc=>hu c (List.mem_append.2 (.inr hc))) c⟩
theorem SV.toD_rep (H:WRep B w0 ρ al h w) {f:Nat} {ρ2:Nat→Loc} {al2:Al} (hM:al2.M=fG al.M ρ h U w) {x x':SV} {p:Prop} {u:List Nat} {y:Value} (hx:SV.toD h f x=some (p,u,x')) (hp:p) (hu:∀ c∈u,c∈U) (hr:SRep ρ al x y):SRep ρ2 al2 x' y:=by
 cases x with
 | l x =>
  simp only [SV.toD] at hx
  split at hx
  case h_2=>cases hx
  rename_i p' u' d h1
  injection hx with hx
  injection hx with e1 hx
  injection hx with e2 e3
  subst e1
  subst e2
  subst e3
  exact pE.2 (hM▸Go.Proofs.YtnhbidpdadkcjaaGreatDoor.toD_rep H f h1 hp hu hr)
 | agg xs =>
  simp only [SV.toD] at hx
  split at hx
  case h_2=>cases hx
  rename_i p' u' d h1
  injection hx with hx
  injection hx with e1 hx
  injection hx with e2 e3
  subst e1
  subst e2
  subst e3
  obtain ⟨cs,rfl,hr⟩:=hr
  exact ⟨cs,rfl,tH H hM h1 hp hu hr⟩
theorem CB (H:WRep B w0 ρ al h w) {f:Nat} {ρ2:Nat→Loc} {al2:Al} (hM:al2.M=fG al.M ρ h U w):∀ {xs:List SV} {p:Prop} {u:List Nat} {ds:List SV} {ys:List Value},ez (SV.toD h f) xs=some (p,u,ds)→p→(∀ c∈u,c∈U)→SsRep ρ al xs ys→SsRep ρ2 al2 ds ys
 | [],p,u,ds,[],hx,_,_,_=>by
  simp only [ez,Option.some.injEq,Prod.mk.injEq] at hx
  obtain ⟨_,_,rfl⟩:=hx
  trivial
 | x::xs,p,u,ds,y::ys,hx,hp,hu,⟨a,b⟩=>by
  simp only [ez] at hx
  split at hx
  case h_2=>cases hx
  rename_i q v d q' v' l h1 h2
  injection hx with hx
  injection hx with e1 hx
  injection hx with e2 e3
  subst e1
  subst e2
  subst e3
  exact ⟨SV.toD_rep H hM h1 hp.1 (fun c hc=>hu c (List.mem_append.2 (.inl hc))) a,CB H hM h2 hp.2 (fun c hc=>hu c (List.mem_append.2 (.inr hc))) b⟩
theorem AV.toD_rep (H:WRep B w0 ρ al h w) {f:Nat} {ρ2:Nat→Loc} {al2:Al} (hM:al2.M=fG al.M ρ h U w) {x x':AV} {p:Prop} {u:List Nat} {y:Value} (hx:AV.toD h f x=some (p,u,x')) (hp:p) (hu:∀ c∈u,c∈U) (hr:ARep ρ al x y):ARep ρ2 al2 x' y:=by
 cases x with
 | s x =>
  simp only [AV.toD] at hx
  split at hx
  case h_2=>cases hx
  rename_i p' u' d h1
  injection hx with hx
  injection hx with e1 hx
  injection hx with e2 e3
  subst e1
  subst e2
  subst e3
  exact SV.toD_rep H hM h1 hp hu hr
 | tup xs =>
  simp only [AV.toD] at hx
  split at hx
  case h_2=>cases hx
  rename_i p' u' d h1
  injection hx with hx
  injection hx with e1 hx
  injection hx with e2 e3
  subst e1
  subst e2
  subst e3
  obtain ⟨cs,rfl,hr⟩:=hr
  exact ⟨cs,rfl,CB H hM h1 hp hu hr⟩
 | fn g a c =>
  simp only [AV.toD] at hx
  split at hx
  case h_2=>cases hx
  rename_i p' u' fd q' v' cd h1 h2
  injection hx with hx
  injection hx with e1 hx
  injection hx with e2 e3
  subst e1
  subst e2
  subst e3
  obtain ⟨fs,cs,rfl,r1,r2⟩:=hr
  exact ⟨fs,cs,rfl,tH H hM h1 hp.1 (fun c hc=>hu c (List.mem_append.2 (.inl hc))) r1,tH H hM h2 hp.2 (fun c hc=>hu c (List.mem_append.2 (.inr hc))) r2⟩
theorem mE (H:WRep B w0 ρ al h w) {f:Nat} {ρ2:Nat→Loc} {al2:Al} (hM:al2.M=fG al.M ρ h U w):∀ {xs:List AV} {p:Prop} {u:List Nat} {ds:List AV} {ys:List Value},ez (AV.toD h f) xs=some (p,u,ds)→p→(∀ c∈u,c∈U)→AsRep ρ al xs ys→AsRep ρ2 al2 ds ys
 | [],p,u,ds,[],hx,_,_,_=>by
  simp only [ez,Option.some.injEq,Prod.mk.injEq] at hx
  obtain ⟨_,_,rfl⟩:=hx
  trivial
 | x::xs,p,u,ds,y::ys,hx,hp,hu,⟨a,b⟩=>by
  simp only [ez] at hx
  split at hx
  case h_2=>cases hx
  rename_i q v d q' v' l h1 h2
  injection hx with hx
  injection hx with e1 hx
  injection hx with e2 e3
  subst e1
  subst e2
  subst e3
  exact ⟨AV.toD_rep H hM h1 hp.1 (fun c hc=>hu c (List.mem_append.2 (.inl hc))) a,mE H hM h2 hp.2 (fun c hc=>hu c (List.mem_append.2 (.inr hc))) b⟩
end
end
section
open Go.RowKit
def PN (P:Program) (s:St):ResultVar→Option AV
 | .tmp t=>some (dk s.t t)
 | .cell a t=>match sR P t (dk s.t a) s.h with
  | some R=>some R.r
  | none=>none
def FP:List AV→Option (List SV)
 | []=>some []
 | .s x::r=>(FP r).map (x::·)
 | .fn g f c::r=>match nQ f,nQ c with
  | some fd,some cd=>(FP r).map (.l (.d (.fn g fd cd))::·)
  | _,_=>none
 | .tup _::_=>none
def De (P:Program) (s:St):List ResultVar→Option (List AV)
 | []=>some []
 | x::r=>match PN P s x,De P s r with
  | some A,some l=>some (A::l)
  | _,_=>none
def nT (P:Program) (rs:List ResultVar) (s:St):Option AV :=
 match De P s rs with
 | some [A]=>some A
 | some l=>(FP l).map .tup
 | none=>none
section
variable {P:Program} {n:Nat} {B:eK} {w0:World} {ρ:Nat→Loc} {al:Al} {s:St} {a:Act} {w:World}
def zP (tm:Array Value):ResultVar→Sem Value
  | .tmp t=>pure (tm.getD t undef)
  | .cell b t=>do loadVar t (← asAddr (tm.getD b undef))
theorem Fq (H:RepS n B w0 ρ al s a w) {x:ResultVar} {A:AV} (hx:PN P s x=some A) :
  ∃ v,(zP a.tmps x).run P w=.ok v w∧ARep ρ al A v:=by
 cases x with
 | tmp t =>
  injection hx with hx
  subst hx
  exact ⟨_,rfl,H.t t⟩
 | cell b t =>
  simp only [PN] at hx
  split at hx
  case h_2=>cases hx
  rename_i R hR
  injection hx with hx
  subst hx
  obtain ⟨v,h1,h2,_⟩:=zzu9 (P:=P) H.w (H.t b) hR
  refine ⟨v,?_,h2⟩
  unfold sR at hR
  split at hR
  ·rename_i b' i' j' e
   have:=H.t b
   rw [e] at this
   obtain ⟨_,hp⟩:=this
   rw [hp] at h1
   simp only [zP,hp]
   simpa [Instr.loadAt,Instr.sureAddr,asAddr] using h1
  ·rename_i xs e
   have:=H.t b
   rw [e] at this
   simp only [ARep,SRep,LRep,DRep] at this
   obtain ⟨blk,off,hp,_⟩:=this
   rw [hp] at h1
   simp only [zP,hp]
   simpa [Instr.loadAt,Instr.sureAddr,asAddr] using h1
  ·cases hR
theorem qF (H:RepS n B w0 ρ al s a w):∀ {l:List ResultVar} {As:List AV},De P s l=some As →
  ∃ vs,(l.mapM (zP a.tmps)).run P w=.ok vs w∧AsRep ρ al As vs
 | [],As,h=>by
  injection h with h
  subst h
  exact ⟨[],rfl,trivial⟩
 | x::l,As,h=>by
  simp only [De] at h
  split at h
  case h_2=>cases h
  rename_i A r hA hr
  injection h with h
  subst h
  obtain ⟨v,g1,g2⟩:=Fq H hA
  obtain ⟨vs,g3,g4⟩:=qF H hr
  refine ⟨v::vs,?_,g2,g4⟩
  rw [List.mapM_cons,Sem.run_bind,g1,Result.andThen_ok,Sem.run_bind,g3]
  rfl
theorem yB:∀ {As:List AV} {ss:List SV} {vs:List Value},FP As=some ss→AsRep ρ al As vs→SsRep ρ al ss vs
 | [],ss,[],h,_=>by injection h with h;subst h;trivial
 | .s x::r,ss,v::vs,h,⟨a,b⟩=>by
  simp only [FP,Option.map_eq_some_iff] at h
  obtain ⟨l,h1,rfl⟩:=h
  exact ⟨a,yB h1 b⟩
 | .fn g f c::r,ss,v::vs,h,⟨a,b⟩=>by
  simp only [FP] at h
  split at h
  case h_2=>cases h
  rename_i fd cd h1 h2
  rw [Option.map_eq_some_iff] at h
  obtain ⟨l,h3,rfl⟩:=h
  refine ⟨?_,yB h3 b⟩
  obtain ⟨fs,cs,rfl,g1,g2⟩:=a
  simp only [SRep,LRep,DRep]
  exact ⟨fs,cs,rfl,io h1 g1,io h2 g2⟩
 | .tup _::_,_,_,h,_=>by cases h
 | [],_,_::_,_,h=>h.elim
 | _::_,_,[],_,h=>h.elim
theorem mF (H:RepS n B w0 ρ al s a w) {fn:Func} {r:AV} (hr:nT P fn.results.toList s=some r):∃ v,(results fn a.tmps).run P w=.ok v w∧ARep ρ al r v:=by
  unfold nT at hr
  have hm:∀ {vs:List Value},(fn.results.toList.mapM (zP a.tmps)).run P w=.ok vs w→(results fn a.tmps).run P w=.ok (if h:vs.toArray.size=1 then vs.toArray[0] else .tuple vs.toArray) w:=by
    intro vs hv
    have e:results fn a.tmps=(do let vs ← fn.results.mapM (zP a.tmps);pure (if h:vs.size=1 then vs[0] else .tuple vs)):=by
      unfold results
      congr 1
    rw [e,Array.mapM_eq_mapM_toList]
    simp only [Sem.run_bind,Sem.run_map,hv,Result.andThen_ok,Sem.run_pure]
  split at hr
  · rename_i A hA
    injection hr with hr
    subst hr
    obtain ⟨vs,g1,g2⟩:=qF H hA
    obtain ⟨v,rfl⟩:∃ v,vs=[v]:=by
      cases vs with
      | nil=>exact g2.elim
      | cons v r=>cases r with
        | nil=>exact ⟨v,rfl⟩
        | cons _ _=>exact g2.2.elim
    exact ⟨v,by rw [hm g1];rfl,g2.1⟩
  · rename_i l hne hl
    rw [Option.map_eq_some_iff] at hr
    obtain ⟨ss,h1,rfl⟩:=hr
    obtain ⟨vs,g1,g2⟩:=qF H hl
    have hlen:=g2.length
    refine ⟨.tuple vs.toArray,?_,vs,rfl,yB h1 g2⟩
    rw [hm g1,dif_neg]
    intro h
    have:l.length=1:=by rw [← hlen];simpa using h
    cases l with
    | nil=>cases this
    | cons A r=>cases r with
      | nil=>exact hne A rfl
      | cons _ _=>cases this
  · cases hr
structure Unmark (N:Nat) (w w':World):Prop where
 os:w'.os=w.os
 tape:w'.tape=w.tape
 output:w'.output=w.output
 size:w'.heap.size=w.heap.size
 same:∀ k:Nat,(k<N∨∃ o:Obj,w.heap[k]? = some o∧o.isCells=true)→w'.heap[k]? = w.heap[k]?
theorem Unmark.refl (N:Nat) (w:World):Unmark N w w:=⟨rfl,rfl,rfl,rfl,fun _ _=>rfl⟩
theorem Unmark.trans {N:Nat} {a b c:World} (h:Unmark N a b) (k:Unmark N b c):Unmark N a c :=
 ⟨k.os.trans h.os,k.tape.trans h.tape,k.output.trans h.output,k.size.trans h.size,fun i hi=>by
  rw [k.same i ?_,h.same i hi]
  rcases hi with hi | ⟨o,h1,h2⟩
  ·exact .inl hi
  ·exact .inr ⟨o,by rw [h.same i (.inr ⟨o,h1,h2⟩)];exact h1,h2⟩⟩
theorem kp {F:Fence} {n:Nat} {fn:Func} {tm:Array Value} {R:Ending→World→Prop} {u:FrameMode} (hu:u≠.run) {N:Nat} {d0:List Deferred}:∀ (rs:List Nat) (w:World),rs.Nodup→(∀ r∈rs,N≤r∧w.heap[r]? = some (.deferred (some [])))→(∀ w',Unmark N w w'→LeavesInM F n P fn tm R d0 u w')→LeavesInM F n P fn tm R (rs.map mark++d0) u w
 | [],w,_,_,h=>h w (.refl N w)
 | r::rs,w,hd,hr,h=>by
  have h0:=hr r (by simp)
  rw [List.nodup_cons] at hd
  have hlt:r<w.heap.size:=(Array.getElem?_eq_some_iff.1 h0.2).1
  have hU:Unmark N w (w.putObj r (.deferred none)):=⟨rfl,rfl,rfl,by simp [World.putObj],fun k hk=>by
   refine World.putObj_heap_other ?_
   rintro rfl
   rcases hk with hk | ⟨o,h1,h2⟩
   ·omega
   ·rw [h0.2] at h1;injection h1 with h1;subst h1;cases h2⟩
  refine ⟨hu,.inl ⟨r,_,rfl,run_takeDeferred h0.2,kp hu rs _ hd.2 (fun q hq=>?_) fun w' hw'=>h w' (hU.trans hw')⟩⟩
  have:=hr q (by simp [hq])
  refine ⟨this.1,?_⟩
  rw [World.putObj_heap_other (by rintro rfl;exact hd.1 hq)]
  exact this.2
theorem iN {w:World} {b o:Nat} {y:Value} (h:w.cell? ⟨b,o,none⟩=some y):∃ q:Obj,w.heap[b]? = some q∧q.isCells=true:=by
 obtain ⟨q,h1,h2⟩:=cells_of_cell h
 exact ⟨q,h1,h2⟩
theorem RepS.unmark (H:RepS n B w0 ρ al s a w) {w':World} (hU:Unmark w0.heap.size w w'):RepS n B w0 ρ al s { a with defers:=B.ds } w':=by
 refine ⟨H.size,Marks.nil _ _ _,H.t,H.w.step (.refl _ _) ⟨hU.os.trans H.w.below.os,hU.tape.trans H.w.below.tape,hU.output.trans H.w.below.output,by rw [hU.size];exact H.w.below.size,fun k hk=>(hU.same k (.inl (H.w.base k hk))).trans (H.w.below.block k hk),fun k o hk ho=>?_⟩ (fun b k hk hc=>hU.same _ ?_) (fun b ⟨o,y,hy⟩=>hU.same b (.inr (iN (H.w.mem b o y hy)))),H.al⟩
 ·rw [hU.same k (.inl (Array.getElem?_eq_some_iff.1 hk).1)]
  exact H.w.below.others k o hk ho
 ·cases ho:k.own with
  | true =>
   right
   have hcap:(ρ b).cap≠0:=by
    rcases hc with hc | hc
    ·have:=(H.w.blk b k hk).cap
     intro h0
     exact hc (List.eq_nil_of_length_eq_zero (by omega))
    ·exact hc.2
   obtain ⟨cur,fr,h1,_⟩:=((H.w.blk b k hk).room ho).2.2 hcap
   exact ⟨_,h1,rfl⟩
  | false=>exact .inl (H.w.base _ (H.w.old b k hk ho (hc.resolve_right (by rw [ho];simp))))
end
def aC:Nat→List AV→et
 | _,[]=>[]
 | j,A::r=>(j,A)::aC (j+1) r
theorem MI (j:Nat) (vs:List Value) (k:Nat):(List.replicate j undef++vs).getD k undef=if k<j then undef else vs.getD (k-j) undef:=by
 rw [List.getD_eq_getElem?_getD,List.getElem?_append]
 simp only [List.length_replicate]
 split
 ·rename_i h
  rw [List.getElem?_replicate,if_pos h];rfl
 ·rw [List.getD_eq_getElem?_getD]
theorem DC {ρ:Nat→Loc} {al:Al}:∀ {args:List AV} {vals:List Value} (j:Nat),AsRep ρ al args vals→∀ k,ARep ρ al (dk (aC j args) k) ((List.replicate j undef++vals).getD k undef)
 | [],[],j,_,k=>trivial
 | A::r,v::vs,j,⟨a,b⟩,k=>by
  have:=DC (j+1) b k
  rw [MI] at this ⊢
  rw [aC,dk]
  split
  ·rename_i e
   subst e
   rw [if_neg (Nat.lt_irrefl _),Nat.sub_self]
   exact a
  ·rename_i hne
   rcases Nat.lt_or_ge k j with h | h
   ·rw [if_pos h]
    rw [if_pos (by omega)] at this
    exact this
   ·rw [if_neg (by omega)]
    rw [if_neg (by omega)] at this
    rw [show k-j=(k-(j+1))+1 by omega,List.getD_cons_succ]
    exact this
theorem kf {ρ:Nat→Loc} {al:Al} {args:List AV} {vals:List Value} (hA:AsRep ρ al args vals) (m:Nat):TRep ρ al (aC 0 args) (vals.toArray++Array.replicate m undef):=by
 intro k
 have:=DC 0 hA k
 simp only [List.replicate_zero,List.nil_append] at this
 rw [Array.getD_eq_getD_getElem?,Array.getElem?_append]
 rw [List.getD_eq_getElem?_getD] at this
 split
 ·simpa using this
 ·rename_i hk
  rw [List.getElem?_eq_none (by simpa using hk)] at this
  rw [Array.getElem?_replicate]
  split<;>simpa using this
def rv (post:St→Prop) (pp:Value→St→Prop):Exit→St→Prop
 | .normal,s=>post s
 | .ret,s=>post s
 | .panic ch,s=>∃ x,ch=[{ v:=x,recovered:=false }]∧pp x s
 | _,_=>False
theorem Cb {post:St→Prop} {pp:Value→St→Prop} {s:St}:rv post pp .normal s=post s:=rfl
theorem KQ {post:St→Prop} {pp:Value→St→Prop} {s:St}:rv post pp .ret s=post s:=rfl
theorem po {post:St→Prop} {pp:Value→St→Prop} {x:Value} {s:St}:rv post pp (.panic [{ v:=x,recovered:=false }]) s=pp x s:=by
 simp [rv]
section
variable {P:Program}
theorem iG {f:FuncId} {fn:Func} {c:Code} (hf:P.funcs[f]? = some fn) (hb:fn.body=some c) {K:Nat} {B:eK} {w:World} {ρ:Nat→Loc} {al:Al} {s0:St} {vals:List Value} {post:St→Prop} {pp:Value→St→Prop} {R:Ending→World→Prop}
  (hpl:B.pl.length=K) (hds:B.ds=[]) (H:RepS fn.ntmps B w ρ al s0 { tmps:=vals.toArray++Array.replicate (fn.ntmps-vals.toArray.size) undef,defers:=[] } w)
  (hsw:SW P ⟨none,K⟩ fn.ntmps c s0 (rv post pp))
  (hret:∀ s ρ al a w1,post s→RepS fn.ntmps B w ρ al s a w1→∃ v,(results fn a.tmps).run P w1=.ok v w1∧R (.returned v) w1)
  (hpan:∀ x s ρ al a w1,pp x s→RepS fn.ntmps B w ρ al s a w1→R (.panicked [{ v:=x,recovered:=false }]) w1):Calls P f vals.toArray w R:=by
 refine (jO (ro:=⟨none,K⟩) (n:=0)).1 (callsIn_of_wp_marks hf hb trivial (wpIn_mono (hsw B w ρ al _ w hpl H) ?_) rfl)
 rintro e a' w' ⟨ρ',al',s',H',hq⟩
 obtain ⟨rs,h1,h2,h3⟩:=H'.defers
 have ret:post s'→LeavesInM (Fw ⟨none,K⟩) 0 P fn a'.tmps R a'.defers .returning w':=by
  intro hp
  rw [h2,hds]
  refine kp (by simp) rs w' h1 h3 fun w2 hU=>?_
  exact hret s' ρ' al' { a' with defers:=B.ds } w2 hp (H'.unmark hU)
 cases e with
 | normal=>exact ret hq
 | ret=>exact ret hq
 | panic ch =>
  obtain ⟨x,rfl,hp⟩:=hq
  show LeavesInM (Fw ⟨none,K⟩) 0 P fn a'.tmps R a'.defers (.panicking _) w'
  rw [h2,hds]
  refine kp (by simp) rs w' h1 h3 fun w2 hU=>?_
  exact hpan x s' ρ' al' { a' with defers:=B.ds } w2 hp (H'.unmark hU)
 | exit _=>exact hq.elim
 | goto _=>exact hq.elim
 | outgrown=>exact hq.elim
inductive PO where
 | ret (r:AV)
 | pan (x:Value)
theorem gA {α β:Type} {g g':α→Option (Prop×List Nat×β)} (hg:∀ x r,g x=some r→g' x=some r):∀ {xs:List α} {r:Prop×List Nat×List β},ez g xs=some r→ez g' xs=some r
 | [],r,h=>h
 | x::xs,r,h=>by
  simp only [ez] at h ⊢
  split at h
  case h_2=>cases h
  rename_i h1 h2
  rw [hg _ _ h1,gA hg h2]
  exact h
theorem toD_mono {h h':ah} (hs:∀ b k,hget h b=some k→hget h' b=some k):∀ (f:Nat) {x:LV} {r:Prop×List Nat×D},LV.toD h f x=some r→LV.toD h' f x=some r
 | 0,x,r,hx=>by cases x<;>first | exact hx | (simp only [LV.toD] at hx;cases hx)
 | f+1,x,r,hx=>by
  cases x with
  | v x=>exact hx
  | d x=>exact hx
  | any=>simp only [LV.toD] at hx;cases hx
  | bf g bs cs=>simp only [LV.toD] at hx;cases hx
  | sl b i n =>
   simp only [LV.toD] at hx ⊢
   split at hx
   case h_2=>cases hx
   rename_i k hk
   simp only [hs _ _ hk]
   split at hx
   case isFalse=>cases hx
   rename_i ho
   rw [if_pos ho]
   split at hx
   case h_2=>cases hx
   rename_i hm
   rw [gA (fun y q hy=>gA (fun z t hz=>toD_mono hs f hz) hy) hm]
   exact hx
  | p b i j =>
   simp only [LV.toD] at hx ⊢
   split at hx
   case h_2=>cases hx
   rename_i k hk
   simp only [hs _ _ hk]
   split at hx
   case isFalse=>cases hx
   rename_i ho
   rw [if_pos ho]
   split at hx
   case h_2=>cases hx
   rename_i e he
   try rw [he]
   try simp only
   split at hx
   case h_2=>cases hx
   rename_i hm
   rw [gA (fun z t hz=>toD_mono hs f hz) hm]
   exact hx
theorem SV.toD_mono {h h':ah} (hs:∀ b k,hget h b=some k→hget h' b=some k) (f:Nat) {x:SV} {r:Prop×List Nat×SV} (hx:SV.toD h f x=some r):SV.toD h' f x=some r:=by
 cases x with
 | l x =>
  simp only [SV.toD] at hx ⊢
  split at hx
  case h_2=>cases hx
  rename_i h1
  rw [Go.Proofs.YtnhbidpdadkcjaaGreatDoor.toD_mono hs f h1]
  exact hx
 | agg xs =>
  simp only [SV.toD] at hx ⊢
  split at hx
  case h_2=>cases hx
  rename_i h1
  rw [gA (fun z t hz=>Go.Proofs.YtnhbidpdadkcjaaGreatDoor.toD_mono hs f hz) h1]
  exact hx
theorem AV.toD_mono {h h':ah} (hs:∀ b k,hget h b=some k→hget h' b=some k) (f:Nat) {x:AV} {r:Prop×List Nat×AV} (hx:AV.toD h f x=some r):AV.toD h' f x=some r:=by
 cases x with
 | s x =>
  simp only [AV.toD] at hx ⊢
  split at hx
  case h_2=>cases hx
  rename_i h1
  rw [SV.toD_mono hs f h1]
  exact hx
 | tup xs =>
  simp only [AV.toD] at hx ⊢
  split at hx
  case h_2=>cases hx
  rename_i h1
  rw [gA (fun z t hz=>SV.toD_mono hs f hz) h1]
  exact hx
 | fn g a c =>
  simp only [AV.toD] at hx ⊢
  split at hx
  case h_2=>cases hx
  rename_i h1 h2
  rw [gA (fun z t hz=>Go.Proofs.YtnhbidpdadkcjaaGreatDoor.toD_mono hs f hz) h1,gA (fun z t hz=>Go.Proofs.YtnhbidpdadkcjaaGreatDoor.toD_mono hs f hz) h2]
  exact hx
def xn (r:AV) (u:List Nat):ah:=if r.plain=true then [] else u.map fun b=>(b,none)
def bT {X:Type} (dec:List AV→Option (Prop×X)) (out:X→PO) (h:ah) (args:List AV):Option Res :=
 match ez (AV.toD h 4) args with
 | some (p,u,as)=>match dec as with
  | some (q,x)=>match out x with
   | .ret r=>some ⟨p∧q,r,xn r u⟩
   | .pan _=>none
  | none=>none
 | none=>none
def bU {X:Type} (dec:List AV→Option (Prop×X)) (out:X→PO) (h:ah) (args:List AV):Option (Prop×Value×ah) :=
 match ez (AV.toD h 4) args with
 | some (p,u,as)=>match dec as with
  | some (q,x)=>match out x with
   | .ret _=>none
   | .pan v=>some (p∧q,v,[])
  | none=>none
 | none=>none
def R1 (o:PO):Option (Prop×List Nat×AV)→Prop
 | some (q,_,r)=>q∧o=.ret r
 | none=>False
def yW (h:ah) (o:PO):Option AV→Prop
 | some r0=>R1 o (AV.toD h 4 r0)
 | none=>False
def es (P:Program) (rs:List ResultVar) (o:PO):Exit→St→Prop :=
 rv (fun s=>yW s.h o (nT P rs s)) (fun x _=>o=.pan x)
theorem CU {P:Program} {rs:List ResultVar} {o:PO} {s:St}:es P rs o .normal s=yW s.h o (nT P rs s):=rfl
theorem Mn {P:Program} {rs:List ResultVar} {o:PO} {s:St}:es P rs o .ret s=yW s.h o (nT P rs s):=rfl
theorem ET {P:Program} {rs:List ResultVar} {o:PO} {x:Value} {s:St}:es P rs o (.panic [{ v:=x,recovered:=false }]) s=(o=.pan x):=po
section
variable {B:eK} {w0:World} {ρ:Nat→Loc} {al:Al} {h:ah} {w:World}
theorem HV (H:WRep B w0 ρ al h w) (U:List Nat):Gok (fG al.M ρ h U w):=H.gok.mono pt
theorem AK (H:WRep B w0 ρ al h w) (U:List Nat):WRep ⟨fun k=>k<w.heap.size,fG al.M ρ h U w,[],[],HV H U⟩ w (fun _=>⟨0,0,0,0,false⟩) ⟨fun _=>False,fG al.M ρ h U w⟩ [] w :=
 ⟨fun _ hk=>hk,.refl _ _,(fun b k hk=>by cases hk),(fun b k hk=>by cases hk),(fun b k hk=>by cases hk),(fun b c k l hk=>by cases hk),fun b o y hy=>tn H hy,(fun b k hk=>by cases hk),fun b o y hy=>.inl hy,Mem.le_refl _,fun j l hj=>by simp at hj⟩
theorem xx (H:WRep B w0 ρ al h w) {M:Mem} {ρ1:Nat→Loc} {al1:Al} {h1:ah} {w1:World} {pl:List Loc} {g:Gok M} (H1:WRep ⟨fun k=>k<w.heap.size,M,pl,[],g⟩ w ρ1 al1 h1 w1):WRep B w0 ρ al h w1 :=
 H.step (.refl _ _) (H.below.trans (H1.below.mono fun k hk=>H.size k hk)) (fun b k hk hc=>H1.below.block _ (H.lt hk hc)) (fun b ⟨_,_,hb⟩=>H1.below.block _ (H.memLt hb))
theorem dG {U:List Nat}:∀ {b:Nat} {k:Blk},hget ((U.map fun b=>(b,none))++h) b=some k→b∉U∧hget h b=some k:=by
 induction U with
 | nil=>exact fun hk=>⟨by simp,hk⟩
 | cons c U ih =>
  intro b k hk
  simp only [List.map_cons,List.cons_append,hget] at hk
  split at hk
  ·cases hk
  ·rename_i hne
   obtain ⟨h1,h2⟩:=ih hk
   exact ⟨by simp only [List.mem_cons,not_or];exact ⟨fun e=>hne e.symm,h1⟩,h2⟩
theorem Lg (H:WRep B w0 ρ al h w) {U U1:List Nat} {ρ1:Nat→Loc} {al1:Al} {h1:ah} {w1:World} {g:Gok (fG al.M ρ h U w)} (H1:WRep ⟨fun k=>k<w.heap.size,fG al.M ρ h U w,[],[],g⟩ w ρ1 al1 h1 w1) :
  Ext ρ ρ al ⟨al.p,fG al1.M ρ1 h1 U1 w1⟩∧WRep B w0 ρ ⟨al.p,fG al1.M ρ1 h1 U1 w1⟩ ((U.map fun b=>(b,none))++h) w1:=by
 have hle:al.M.le (fG al1.M ρ1 h1 U1 w1):=Mem.le_trans (Mem.le_trans pt H1.memOld) pt
 have E:Ext ρ ρ al ⟨al.p,fG al1.M ρ1 h1 U1 w1⟩:=⟨fun _ _=>rfl,hle,fun _ hb=>hb⟩
 have H2:=xx H H1
 have old:∀ b o y,fG al1.M ρ1 h1 U1 w1 b o=some y→b<w.heap.size→al.M b o=some y∨∃ c k,c∈U∧hget h c=some k∧k.own=true∧(ρ c).cap≠0∧(ρ c).blk=b:=by
  intro b o y hy hb
  rcases frzM_some hy with hy | ⟨⟨c,k,_,hk,ho,hc,rfl⟩,_⟩
  ·rcases H1.memNew b o y hy with hy | hy
   ·rcases frzM_some hy with hy | ⟨hy,_⟩
    ·exact .inl hy
    ·exact .inr hy
   ·exact absurd hb hy
  ·exact absurd hb (H1.own c k hk ho hc)
 refine ⟨E,H2.base,H2.below,fun b k hk=>(H2.blk b k (dG hk).2).ext E rfl,fun b k hk=>H2.own b k (dG hk).2,fun b k hk=>H2.old b k (dG hk).2,fun b c k l hk hl=>H2.apart b c k l (dG hk).2 (dG hl).2,fun b o y hy=>tn H1 hy,fun b k hk ho hc o=>?_,fun b o y hy=>?_,Mem.le_trans H.memOld hle,H2.pins⟩
 ·obtain ⟨hn,hk⟩:=dG hk
  cases hy:fG al1.M ρ1 h1 U1 w1 (ρ b).blk o with
  | none=>exact hy
  | some y =>
   rcases old _ _ _ hy ((H.blk b k hk).lt ho hc) with h2 | ⟨c,k',hcU,hk',ho',hc',e⟩
   ·rw [H.memOwn b k hk ho hc o] at h2;cases h2
   ·exact absurd e (H.apart c b k' k hk' hk ho' ho hc' hc (fun e=>hn (e▸hcU)))
 ·by_cases hb:b<w.heap.size
  ·rcases old _ _ _ hy hb with h2 | ⟨c,k',hcU,hk',ho',hc',rfl⟩
   ·exact H.memNew b o y h2
   ·exact .inr (H.own c k' hk' ho' hc')
  ·exact .inr fun hS=>hb (H.size _ hS)
end
theorem oU {h:ah} {o:PO} {r:Option AV} (hq:yW h o r):∃ r0 q u r',r=some r0∧AV.toD h 4 r0=some (q,u,r')∧q∧o=.ret r':=by
 unfold yW at hq
 split at hq
 ·rename_i r0
  unfold R1 at hq
  split at hq
  ·rename_i q u r' e
   exact ⟨r0,q,u,r',rfl,e,hq.1,hq.2⟩
  ·exact hq.elim
 ·exact hq.elim
def mkP {X:Type} (f:FuncId) (fn:Func) (c:Code) (hf:P.funcs[f]? = some fn) (hb:fn.body=some c)
  (hen:∀ (args:Array Value) (w:World),(callFunc f args).run P w=.ok (.enter f args) w)
  (dec:List AV→Option (Prop×X)) (enc:X→List AV) (out:X→PO)
  (hdec:∀ {as:List AV} {q:Prop} {x:X},dec as=some (q,x)→q→(enc x).length≤fn.ntmps∧∀ (ρ:Nat→Loc) (al:Al) (vals:List Value),AsRep ρ al as vals→AsRep ρ al (enc x) vals)
  (body:∀ {as:List AV} {q:Prop} {x:X},dec as=some (q,x)→q→SW P ⟨none,0⟩ fn.ntmps c ⟨0,aC 0 (enc x),[]⟩ (es P fn.results.toList (out x))):bi P f where
 enter:=hen
 run:=fun _ h args=>bT dec out h args
 pan:=fun _ h args=>bU dec out h args
 mono:=by
  intro id h h' args R hs hr
  unfold bT at hr ⊢
  split at hr
  case h_2=>cases hr
  rename_i p u as hm
  rw [gA (fun z t hz=>AV.toD_mono hs 4 hz) hm]
  exact hr
 sound:=by
  intro id h args R hr hob B w0 ρ al w vals H hid hA
  unfold bT at hr
  split at hr
  case h_2=>cases hr
  rename_i p u as hm
  split at hr
  case h_2=>cases hr
  rename_i q x hd
  split at hr
  case h_2=>cases hr
  rename_i r hout
  injection hr with hr
  subst hr
  obtain ⟨hp,hq⟩:=hob
  obtain ⟨hlen,henc⟩:=hdec hd hq
  have hA1:=henc (fun _=>⟨0,0,0,0,false⟩) ⟨fun _=>False,fG al.M ρ h u w⟩ vals (mE H rfl hm hp (fun _ hc=>hc) hA)
  have hl:=hA1.length
  refine iG (B:=⟨fun k=>k<w.heap.size,fG al.M ρ h u w,[],[],HV H u⟩) (ρ:=fun _=>⟨0,0,0,0,false⟩) (al:=⟨fun _=>False,fG al.M ρ h u w⟩) (s0:=⟨0,aC 0 (enc x),[]⟩) hf hb rfl rfl ⟨by simp;omega,Marks.nil _ _ _,kf hA1 _,AK H u,fun b hb=>hb.elim⟩ (body hd hq) ?_ ?_
  ·intro s ρ1 al1 a w1 hq1 H1
   obtain ⟨r0,q1,u1,r1,h1,h2,h3,h4⟩:=oU hq1
   rw [hout] at h4
   injection h4 with h4
   subst h4
   obtain ⟨v,g1,g2⟩:=mF (fn:=fn) H1 h1
   refine ⟨v,g1,?_⟩
   have g3:=AV.toD_rep (U:=u1) (ρ2:=ρ) (al2:=⟨al.p,fG al1.M ρ1 s.h u1 w1⟩) H1.w rfl h2 h3 (fun _ hc=>hc) g2
   by_cases hpl:r.plain=true
   ·refine ⟨v,ρ,al,rfl,.refl _ _,fun b hb=>.inl hb,g3.plain hpl,?_⟩
    unfold xn
    rw [if_pos hpl]
    exact xx H H1.w
   ·obtain ⟨g4,g5⟩:=Lg (U1:=u1) H H1.w
    refine ⟨v,ρ,_,rfl,g4,fun b hb=>.inl hb,g3,?_⟩
    unfold xn
    rw [if_neg hpl]
    exact g5
  ·intro y s ρ1 al1 a w1 h1 H1
   rw [hout] at h1;cases h1
 psound:=by
  intro id h args ob y E hr hob B w0 ρ al w vals H hid hA
  unfold bU at hr
  split at hr
  case h_2=>cases hr
  rename_i p u as hm
  split at hr
  case h_2=>cases hr
  rename_i q x hd
  split at hr
  case h_1=>cases hr
  rename_i v hout
  injection hr with hr
  injection hr with e1 hr
  injection hr with e2 e3
  subst e1
  subst e2
  subst e3
  obtain ⟨hp,hq⟩:=hob
  obtain ⟨hlen,henc⟩:=hdec hd hq
  have hA1:=henc (fun _=>⟨0,0,0,0,false⟩) ⟨fun _=>False,fG al.M ρ h u w⟩ vals (mE H rfl hm hp (fun _ hc=>hc) hA)
  have hl:=hA1.length
  refine iG (B:=⟨fun k=>k<w.heap.size,fG al.M ρ h u w,[],[],HV H u⟩) (ρ:=fun _=>⟨0,0,0,0,false⟩) (al:=⟨fun _=>False,fG al.M ρ h u w⟩) (s0:=⟨0,aC 0 (enc x),[]⟩) hf hb rfl rfl ⟨by simp;omega,Marks.nil _ _ _,kf hA1 _,AK H u,fun b hb=>hb.elim⟩ (body hd hq) ?_ ?_
  ·intro s ρ1 al1 a w1 hq1 H1
   obtain ⟨r0,q1,u1,r1,h1,h2,h3,h4⟩:=oU hq1
   rw [hout] at h4;cases h4
  ·intro y' s ρ1 al1 a w1 h1 H1
   rw [hout] at h1
   injection h1 with h1
   subst h1
   exact ⟨ρ,al,rfl,.refl _ _,fun b hb=>.inl hb,xx H H1.w⟩
end
end
section
open Go.RowKit
structure Ty (α:Type) where
 dec:AV→Option α
 enc:α→AV
 ok:∀ {A:AV} {x:α},dec A=some x→∀ {ρ:Nat→Loc} {al:Al} {v:Value},ARep ρ al A v→ARep ρ al (enc x) v
structure ov (α:Type) where
 dec:List D→Option α
 enc:α→List D
 inv:∀ {c:List D} {x:α},dec c=some x→c=enc x
 back:∀ x:α,dec (enc x)=some x
def bq (k:IntKind):Ty Int where
 dec:=fun | .s (.l (.v (.int k' z)))=>if k'=k then some z else none | _=>none
 enc:=fun z=>.s (.l (.v (.int k z)))
 ok:=by
  intro A x h ρ al v hr
  split at h
  ·split at h
   ·rename_i e;injection h with h;subst h;subst e;exact hr
   ·cases h
  ·cases h
def GL:Ty Bool where
 dec:=fun | .s (.l (.v (.bool b)))=>some b | _=>none
 enc:=fun b=>.s (.l (.v (.bool b)))
 ok:=by
  intro A x h ρ al v hr
  split at h
  ·injection h with h;subst h;exact hr
  ·cases h
def bx:Ty ByteArray where
 dec:=fun | .s (.l (.v (.string s)))=>some s | _=>none
 enc:=fun s=>.s (.l (.v (.string s)))
 ok:=by
  intro A x h ρ al v hr
  split at h
  ·injection h with h;subst h;exact hr
  ·cases h
def tFn:Ty FuncId where
 dec:=fun | .s (.l (.v (.func (.func g) ⟨[]⟩ ⟨[]⟩)))=>some g | .fn g [] []=>some g | .s (.l (.d (.fn g [] [])))=>some g | _=>none
 enc:=fun g=>.s (.l (.v (.func (.func g) #[] #[])))
 ok:=by
  intro A x h ρ al v hr
  split at h
  ·injection h with h;subst h;exact hr
  ·injection h with h;subst h
   obtain ⟨fs,cs,rfl,h1,h2⟩:=hr
   cases fs with
   | nil=>cases cs with
    | nil=>rfl
    | cons _ _=>exact h2.elim
   | cons _ _=>exact h1.elim
  ·injection h with h;subst h
   simp only [ARep,SRep,LRep,DRep] at hr
   obtain ⟨fs,cs,rfl,h1,h2⟩:=hr
   cases fs with
   | nil=>cases cs with
    | nil=>rfl
    | cons _ _=>simp only [DsRep] at h2
   | cons _ _=>simp only [DsRep] at h1
  ·cases h
def dT {α:Type} (d:List D→Option α):List (List D)→Option (List α)
 | []=>some []
 | e::r=>match d e,dT d r with
  | some x,some l=>some (x::l)
  | _,_=>none
theorem ac {α:Type} (R:ov α):∀ l:List α,dT R.dec (l.map R.enc)=some l
 | []=>rfl
 | x::l=>by simp [dT,R.back,ac R l]
theorem eN {α:Type} (R:ov α):∀ {els:List (List D)} {l:List α},dT R.dec els=some l→els=l.map R.enc
 | [],l,hd=>by injection hd with hd;subst hd;rfl
 | c::r,l,hd=>by
  simp only [dT] at hd
  split at hd
  case h_2=>cases hd
  rename_i x l' h1 h2
  injection hd with hd
  subst hd
  rw [R.inv h1,eN R h2]
  rfl
def tSl {α:Type} (sz:Nat) (R:ov α):Ty (List α) where
 dec:=fun
  | .s (.l (.d (.sd sz' els)))=>if sz'=sz then dT R.dec els else none
  | .s (.l (.v (.slice none 0 0)))=>some []
  | _=>none
 enc:=fun l=>.s (.l (.d (.sd sz (l.map R.enc))))
 ok:=by
  intro A x h ρ al v hr
  split at h
  ·split at h
   ·rename_i e;subst e;rw [eN R h] at hr;exact hr
   ·cases h
  ·injection h with h;subst h
   have:v=.slice none 0 0:=hr
   subst this
   simp only [ARep,SRep,LRep,DRep]
   exact ⟨none,0,rfl,Nat.le_refl _,fun h=>absurd rfl h⟩
  ·cases h
def jr {α:Type} (R:ov α):Ty α where
 dec:=fun
  | .s (.agg xs)=>match nQ xs with
   | some ds=>R.dec ds
   | none=>none
  | _=>none
 enc:=fun x=>.s (.agg (cG (R.enc x)))
 ok:=by
  intro A x h ρ al v hr
  split at h
  ·split at h
   ·rename_i hd
    obtain ⟨cs,rfl,hr⟩:=hr
    rw [← R.inv h]
    exact ⟨cs,rfl,DsRep.ls rfl (io hd hr)⟩
   ·cases h
  ·cases h
def gj (k:IntKind):ov Int where
 dec:=fun | [.v (.int k' z)]=>if k'=k then some z else none | _=>none
 enc:=fun z=>[.v (.int k z)]
 inv:=by
  intro c x h
  split at h
  ·split at h
   ·rename_i e;injection h with h;subst h;subst e;rfl
   ·cases h
  ·cases h
 back:=by intro x;simp
def dQ:ov ByteArray where
 dec:=fun | [.v (.string s)]=>some s | _=>none
 enc:=fun s=>[.v (.string s)]
 inv:=by
  intro c x h
  split at h
  ·injection h with h;subst h;rfl
  ·cases h
 back:=by intro x;rfl
theorem Jv {α β:Type} (f:α→β) (l:List α):List.take l.length (List.map f l)=List.map f l:=by rw [List.take_of_length_le (by simp)]
theorem Jw {α β γ:Type} (f:α→β) (g:β→γ) (l:List α):List.take l.length (List.map g (List.map f l))=List.map g (List.map f l):=by rw [List.take_of_length_le (by simp)]
section
variable {P:Program}
def jl (q:Prop):List AV→Option (Prop×Unit)
 | []=>some (q,())
 | _=>none
def ba {α:Type} (T:Ty α) (q:α→Prop):List AV→Option (Prop×α)
 | [A]=>match T.dec A with
  | some x=>some (q x,x)
  | none=>none
 | _=>none
def cg {α β:Type} (T:Ty α) (U:Ty β) (q:α→β→Prop):List AV→Option (Prop×(α×β))
 | [A,B]=>match T.dec A,U.dec B with
  | some x,some y=>some (q x y,(x,y))
  | _,_=>none
 | _=>none
def rD {α β γ:Type} (T:Ty α) (U:Ty β) (V:Ty γ) (q:α→β→γ→Prop):List AV→Option (Prop×(α×β×γ))
 | [A,B,C]=>match T.dec A,U.dec B,V.dec C with
  | some x,some y,some z=>some (q x y z,(x,y,z))
  | _,_,_=>none
 | _=>none
def y8 {α β γ δ:Type} (T:Ty α) (U:Ty β) (V:Ty γ) (W:Ty δ) (q:α→β→γ→δ→Prop):List AV→Option (Prop×(α×β×γ×δ))
 | [A,B,C,E]=>match T.dec A,U.dec B,V.dec C,W.dec E with
  | some x,some y,some z,some u=>some (q x y z u,(x,y,z,u))
  | _,_,_,_=>none
 | _=>none
def mk0 (f:FuncId) (fn:Func) (c:Code) (hf:P.funcs[f]? = some fn) (hb:fn.body=some c)
  (hen:∀ (args:Array Value) (w:World),(callFunc f args).run P w=.ok (.enter f args) w) (q:Prop) (out:PO)
  (body:q→SW P ⟨none,0⟩ fn.ntmps c ⟨0,[],[]⟩ (es P fn.results.toList out)):bi P f :=
 mkP f fn c hf hb hen (jl q) (fun _=>[]) (fun _=>out)
  (by
   intro as p x h _;unfold jl at h;split at h
   ·exact ⟨Nat.zero_le _,fun _ _ _ hA=>hA⟩
   ·cases h)
  (by
   intro as p x h hp;unfold jl at h;split at h
   ·injection h with h;injection h with h1 h2;subst h1;exact body hp
   ·cases h)
def mk1 {α:Type} (f:FuncId) (fn:Func) (c:Code) (hf:P.funcs[f]? = some fn) (hb:fn.body=some c)
  (hen:∀ (args:Array Value) (w:World),(callFunc f args).run P w=.ok (.enter f args) w) (T:Ty α) (q:α→Prop) (out:α→PO) (hn:1≤fn.ntmps)
  (body:∀ x,q x→SW P ⟨none,0⟩ fn.ntmps c ⟨0,aC 0 [T.enc x],[]⟩ (es P fn.results.toList (out x))):bi P f :=
 mkP f fn c hf hb hen (ba T q) (fun x=>[T.enc x]) out
  (by
   intro as p x h _;unfold ba at h;split at h
   ·split at h
    ·rename_i hx;injection h with h;injection h with h1 h2;subst h2
     refine ⟨hn,fun ρ al vals hA=>?_⟩
     match vals,hA with
     | [v],⟨a,_⟩=>exact ⟨T.ok hx a,trivial⟩
    ·cases h
   ·cases h)
  (by
   intro as p x h hp;unfold ba at h;split at h
   ·split at h
    ·injection h with h;injection h with h1 h2;subst h1;subst h2;exact body _ hp
    ·cases h
   ·cases h)
def mk2 {α β:Type} (f:FuncId) (fn:Func) (c:Code) (hf:P.funcs[f]? = some fn) (hb:fn.body=some c)
  (hen:∀ (args:Array Value) (w:World),(callFunc f args).run P w=.ok (.enter f args) w) (T:Ty α) (U:Ty β) (q:α→β→Prop) (out:α→β→PO) (hn:2≤fn.ntmps)
  (body:∀ x y,q x y→SW P ⟨none,0⟩ fn.ntmps c ⟨0,aC 0 [T.enc x,U.enc y],[]⟩ (es P fn.results.toList (out x y))):bi P f :=
 mkP f fn c hf hb hen (cg T U q) (fun x=>[T.enc x.1,U.enc x.2]) (fun x=>out x.1 x.2)
  (by
   intro as p x h _;unfold cg at h;split at h
   ·split at h
    ·rename_i hx hy;injection h with h;injection h with h1 h2;subst h2
     refine ⟨hn,fun ρ al vals hA=>?_⟩
     match vals,hA with
     | [v,u],⟨a,b,_⟩=>exact ⟨T.ok hx a,U.ok hy b,trivial⟩
    ·cases h
   ·cases h)
  (by
   intro as p x h hp;unfold cg at h;split at h
   ·split at h
    ·injection h with h;injection h with h1 h2;subst h1;subst h2;exact body _ _ hp
    ·cases h
   ·cases h)
def mk3 {α β γ:Type} (f:FuncId) (fn:Func) (c:Code) (hf:P.funcs[f]? = some fn) (hb:fn.body=some c)
  (hen:∀ (args:Array Value) (w:World),(callFunc f args).run P w=.ok (.enter f args) w) (T:Ty α) (U:Ty β) (V:Ty γ) (q:α→β→γ→Prop) (out:α→β→γ→PO) (hn:3≤fn.ntmps)
  (body:∀ x y z,q x y z→SW P ⟨none,0⟩ fn.ntmps c ⟨0,aC 0 [T.enc x,U.enc y,V.enc z],[]⟩ (es P fn.results.toList (out x y z))):bi P f :=
 mkP f fn c hf hb hen (rD T U V q) (fun x=>[T.enc x.1,U.enc x.2.1,V.enc x.2.2]) (fun x=>out x.1 x.2.1 x.2.2)
  (by
   intro as p x h _;unfold rD at h;split at h
   ·split at h
    ·rename_i hx hy hz;injection h with h;injection h with h1 h2;subst h2
     refine ⟨hn,fun ρ al vals hA=>?_⟩
     match vals,hA with
     | [v,u,t],⟨a,b,c,_⟩=>exact ⟨T.ok hx a,U.ok hy b,V.ok hz c,trivial⟩
    ·cases h
   ·cases h)
  (by
   intro as p x h hp;unfold rD at h;split at h
   ·split at h
    ·injection h with h;injection h with h1 h2;subst h1;subst h2;exact body _ _ _ hp
    ·cases h
   ·cases h)
def mk4 {α β γ δ:Type} (f:FuncId) (fn:Func) (c:Code) (hf:P.funcs[f]? = some fn) (hb:fn.body=some c)
  (hen:∀ (args:Array Value) (w:World),(callFunc f args).run P w=.ok (.enter f args) w) (T:Ty α) (U:Ty β) (V:Ty γ) (W:Ty δ) (q:α→β→γ→δ→Prop) (out:α→β→γ→δ→PO) (hn:4≤fn.ntmps)
  (body:∀ x y z u,q x y z u→SW P ⟨none,0⟩ fn.ntmps c ⟨0,aC 0 [T.enc x,U.enc y,V.enc z,W.enc u],[]⟩ (es P fn.results.toList (out x y z u))):bi P f :=
 mkP f fn c hf hb hen (y8 T U V W q) (fun x=>[T.enc x.1,U.enc x.2.1,V.enc x.2.2.1,W.enc x.2.2.2]) (fun x=>out x.1 x.2.1 x.2.2.1 x.2.2.2)
  (by
   intro as p x h _;unfold y8 at h;split at h
   ·split at h
    ·rename_i hx hy hz hu;injection h with h;injection h with h1 h2;subst h2
     refine ⟨hn,fun ρ al vals hA=>?_⟩
     match vals,hA with
     | [v,u,t,r],⟨a,b,c,d,_⟩=>exact ⟨T.ok hx a,U.ok hy b,V.ok hz c,W.ok hu d,trivial⟩
    ·cases h
   ·cases h)
  (by
   intro as p x h hp;unfold y8 at h;split at h
   ·split at h
    ·injection h with h;injection h with h1 h2;subst h1;subst h2;exact body _ _ _ _ hp
    ·cases h
   ·cases h)
end
end
end Go.Proofs.YtnhbidpdadkcjaaGreatDoor
