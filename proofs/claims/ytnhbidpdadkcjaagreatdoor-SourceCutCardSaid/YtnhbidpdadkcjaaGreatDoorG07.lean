import Derived.Test.YtnhbidpdadkcjaaGreatDoorG05
import Derived.RecoverIn
import Derived.RangeFuncSeq
open Go.RowKit
set_option linter.unusedVariables false
set_option linter.unusedSimpArgs false
set_option maxRecDepth 100000
set_option maxHeartbeats 8000000
open List (getElem?_map map_cons length_cons cons_append getElem?_eq_getElem getElem_mem getElem?_range append_nil all_cons)
open Option (map_eq_some_iff)
open Nat (lt_or_ge)
open Bool (and_eq_true)
namespace Go.Proofs.YtnhbidpdadkcjaaGreatDoor
section
variable {ρ ρ':Nat→Loc}{al al':Al}{g:Nat→Nat}
structure Fwd (ρ ρ':Nat→Loc)(al al':Al)(g:Nat→Nat):Prop where
 M:al.M.le al'.M
 eq:∀j,al.p j→ρ' (g j)=ρ j
 al:∀j,al.p j→al'.p (g j)
theorem LRep.fwd (F:Fwd ρ ρ' al al' g){x:LV}{y:Value}(h:LRep ρ al x y):LRep ρ' al' (x.ren g) y:=by
 cases x with
 |v x=>exact h
 |d x=>exact DRep.mono F.M h
 |any=>trivial
 |p b i j=>obtain⟨a,e⟩:=h;exact⟨F.al b a,by rw[F.eq b a];exact e⟩
 |bf k bs cs =>
  obtain⟨a,c,e⟩:=h
  have h1:∀l:List Nat,(∀b∈l,al.p b)→(l.map g).map (pAt ρ')=l.map (pAt ρ):=fun l hl=>by
   rw[List.map_map];exact List.map_congr_left fun b hb=>by simp only[Function.comp,pAt];rw[F.eq b (hl b hb)]
  have h2:∀l:List Nat,(∀b∈l,al.p b)→∀b∈l.map g,al'.p b:=fun l hl b hb=>by
   obtain⟨q,hq,rfl⟩:=List.mem_map.1 hb;exact F.al q (hl q hq)
  exact⟨h2 bs a,h2 cs c,by rw[h1 bs a,h1 cs c];exact e⟩
 |sl b i n=>obtain⟨a,e⟩:=h;exact⟨F.al b a,by rw[F.eq b a];exact e⟩
theorem Dh {els:List (List LV)}{i j:Nat}{x:LV}(h:cellAt (els.map (·.map (·.ren g))) i j=some x):∃z,cellAt els i j=some z∧x=z.ren g:=by
 obtain⟨e,h1,h2⟩:=aD.1 h;rw[getElem?_map,map_eq_some_iff]at h1;obtain⟨e',h1,rfl⟩:=h1;rw[getElem?_map,map_eq_some_iff]at h2;obtain⟨z,h2,rfl⟩:=h2;exact⟨z,aD.2 ⟨e',h1,h2⟩,rfl⟩
theorem BRep.fwd (F:Fwd ρ ρ' al al' g){w:World}{b:Nat}{k:Blk}(h:BRep ρ al w b k):BRep ρ' al' w (g b) (k.ren g):=by
 have e:=F.eq b h.here;refine⟨F.al b h.here,by rw[e];exact h.own,by rw[e];exact h.sz,fun x hx=>?_,by rw[e];simpa[Blk.ren] using h.cap,fun i j x hx=>?_,by rw[e];exact h.room⟩
 ·simp only[Blk.ren,List.mem_map]at hx;obtain⟨y,hy,rfl⟩:=hx;simpa[Blk.ren] using h.len y hy
 ·obtain⟨z,hz,rfl⟩:=Dh hx;obtain⟨y,h1,h2,h3⟩:=h.cells i j z hz;exact⟨y,by rw[e];exact h1,h2,h3.fwd F⟩
end
def aC:Nat→List Blk→ag
 |_,[]=>[]
 |j,k::r=>(j,some k)::aC (j+1) r
def ee:Nat→List (Option Blk)→ag
 |_,[]=>[]
 |j,k::r=>(j,k)::ee (j+1) r
theorem sF:∀{ks:List (Option Blk)} {j b:Nat} {k:Blk},ac (ee j ks) b=some k→j≤b∧ks[b-j]? = some (some k)
 |[],_,_,_,h=>by cases h
 |x::ks,j,b,k,h=>by
  simp only[ee,ac]at h;split at h
  ·rename_i e;subst e;subst h;exact⟨Nat.le_refl _,by simp⟩
  ·obtain⟨h1,h2⟩:=sF h;refine⟨by omega,?_⟩;rw[show b-j=(b-(j+1))+1 by omega,List.getElem?_cons_succ];exact h2
theorem tr:∀{ks:List Blk} {j:Nat},aC j ks=ee j (ks.map some)
 |[],_=>rfl
 |k::ks,j=>by rw[aC,map_cons,ee,tr]
theorem G3 {ks:List Blk}{j b:Nat}{k:Blk}(h:ac (aC j ks) b=some k):j≤b∧ks[b-j]? = some k:=by
 rw[tr]at h;obtain⟨h1,h2⟩:=sF h;rw[getElem?_map,map_eq_some_iff]at h2;obtain⟨x,h2,h3⟩:=h2;injection h3 with h3;subst h3;exact⟨h1,h2⟩
def iK (h:ag):List Nat:=h.map (·.1)
theorem pF:∀(ks:List (Option Blk)) (j:Nat),iK (ee j ks)=(List.range ks.length).map (j+·)
 |[],_=>rfl
 |k::ks,j=>by
  have:=pF ks (j+1);unfold iK at this ⊢;rw[ee,map_cons,this,length_cons,List.range_succ_eq_map,map_cons,List.map_map];refine congr (congrArg List.cons rfl) (List.map_congr_left fun x _=>?_);show j+1+x=j+(x+1);omega
def xu (g:Nat→Nat)(h:ag):ag:=h.map fun x=>(g x.1,x.2.map (·.ren g))
theorem hget_renH {g:Nat→Nat}{h:ag}:∀{E:ag} {b:Nat} {k:Blk},(∀i∈iK E,∀j∈iK E,g i=g j→i=j)→ac (xu g E++h) b=some k →
  (∃j k0,ac E j=some k0∧b=g j∧k=k0.ren g)∨((∀j∈iK E,g j≠b)∧ac h b=some k)
 |[],b,k,_,hk=>.inr ⟨by simp[iK],hk⟩
 |(c,x)::E,b,k,hi,hk=>by
  simp only[xu,map_cons,cons_append,ac]at hk;split at hk
  ·rename_i e;rw[map_eq_some_iff]at hk;obtain⟨k0,h1,h2⟩:=hk;exact .inl ⟨c,k0,by rw[ac,if_pos rfl];exact h1,e.symm,h2.symm⟩
  ·rename_i hne;rcases hget_renH (fun i hI j hJ=>hi i (by unfold iK at hI ⊢;simp;exact .inr (by simpa using hI)) j (by unfold iK at hJ ⊢;simp;exact .inr (by simpa using hJ))) hk with ⟨j,k0,h1,h2,h3⟩ | ⟨h1,h2⟩
   ·refine .inl ⟨j,k0,?_,h2,h3⟩;rw[ac];split
    ·rename_i e;rw[e]at hne;exact absurd h2.symm hne
    ·exact h1
   ·refine .inr ⟨fun j hj=>?_,h2⟩;unfold iK at hj;rw[map_cons,List.mem_cons]at hj;rcases hj with rfl | hj
    ·exact hne
    ·exact h1 j hj
inductive RO where
 |ret (r:AV) (hs:List (Option Blk)) (ns:List Blk)
 |pan (v:Value)
def gOf (K:Nat)(bs:List Nat)(id:Nat)(j:Nat):Nat:=if j<K then bs.getD j 0 else id+(j-K)
section
variable {P:Program}
def mA (K:Nat)(s:St)(o:RO):Option AV→Prop
 |some r=>r.plain=true∧∃hs ns,o=.ret r hs ns∧hs.length=K∧ns.length≤16∧(∀k,some k∈hs→k.own=true)∧(∀k∈ns,k.own=true)∧Wk ⟨none,K⟩ s ⟨K+ns.length,[],ee 0 hs++aC K ns⟩
 |none=>False
theorem vN {K:Nat}{s:St}{o:RO}{r:Option AV}(h:mA K s o r):∃r' hs ns,o=.ret r' hs ns∧r=some r'∧r'.plain=true∧hs.length=K∧ns.length≤16∧(∀k,some k∈hs→k.own=true)∧(∀k∈ns,k.own=true)∧Wk ⟨none,K⟩ s ⟨K+ns.length,[],ee 0 hs++aC K ns⟩:=by
 unfold mA at h;split at h
 ·obtain⟨h0,hs,ns,h1,h2⟩:=h;exact⟨_,hs,ns,h1,rfl,h0,h2⟩
 ·exact h.elim
def um (P:Program)(rs:List ResultVar)(K:Nat)(o:RO):Exit→St→Prop :=
 mX (fun s=>mA K s o (kf P rs s)) (fun x _=>o=.pan x)
theorem BP {P:Program}{rs:List ResultVar}{K:Nat}{o:RO}{s:St}:um P rs K o .normal s=mA K s o (kf P rs s):=rfl
theorem Lu {P:Program}{rs:List ResultVar}{K:Nat}{o:RO}{s:St}:um P rs K o .ret s=mA K s o (kf P rs s):=rfl
theorem D8 {P:Program}{rs:List ResultVar}{K:Nat}{o:RO}{x:Value}{s:St}:um P rs K o (.panic [{ v:=x,recovered:=false }]) s=(o=.pan x):=mY
def jv {X:Type}(K:Nat)(dec:ag→List AV→Option (Prop×List Nat×X))(out:X→RO)(id:Nat)(h:ag)(args:List AV):Option Res :=
 match dec h args with
 |some (q,bs,x)=>match out x with
  |.ret r hs ns=>some ⟨q,r,xu (gOf K bs id) (ee 0 hs++aC K ns)++(bs.drop K).map fun b=>(b,none)⟩
  |.pan _=>none
 |none=>none
def iT {X:Type}(dec:ag→List AV→Option (Prop×List Nat×X))(out:X→RO)(h:ag)(args:List AV):Option (Prop×Value×ag) :=
 match dec h args with
 |some (q,bs,x)=>match out x with
  |.ret _ _ _=>none
  |.pan v=>some (q,v,bs.map fun b=>(b,none))
 |none=>none
section
variable {B:cX}{w0:World}{ρ:Nat→Loc}{al:Al}{h:ag}{w:World}
def ic (w:World)(ρ:Nat→Loc)(al:Al)(bs:List Nat)(K:Nat)(id:Nat)(g:Gok al.M):cX :=
 ⟨fun k=>k<w.heap.size∧∀b∈bs,(ρ b).cap≠0→(ρ b).blk≠k,al.M,(List.range K).map fun j=>ρ (bs.getD j id),[],g⟩
theorem iH {bs:List Nat}{j d:Nat}(h:j<bs.length):bs.getD j d=bs[j]:=by
 rw[List.getD_eq_getElem?_getD,getElem?_eq_getElem h];rfl
theorem zj (H:WRep B w0 ρ al h w){bs:List Nat}{K:Nat}(hKb:K≤bs.length){id:Nat}(hid:¬al id){ks:List Blk}(hl:ks.length=bs.length)(hnd:bs.Nodup)
  (hks:∀(j b:Nat) (k:Blk),bs[j]? = some b→ks[j]? = some k→k.own=true∧ac h b=some (k.ren fun j=>bs.getD j id)) :
  WRep (ic w ρ al bs K id H.gok) w (fun j=>ρ (bs.getD j id)) (alR al fun j=>bs.getD j id) (aC 0 ks) w:=by
 have at_:∀{j k},ac (aC 0 ks) j=some k→∃hj:j<bs.length,k.own=true∧ac h (bs.getD j id)=some (k.ren fun j=>bs.getD j id)∧bs.getD j id=bs[j]:=by
  intro j k hk;obtain⟨_,h2⟩:=G3 hk;rw[Nat.sub_zero]at h2;have hj:j<bs.length:=by rw[←hl];exact(List.getElem?_eq_some_iff.1 h2).1
  obtain⟨g1,g2⟩:=hks j bs[j] k (getElem?_eq_getElem hj) h2;exact⟨hj,g1,by rw[iH hj];exact g2,iH hj⟩
 refine⟨fun k hk=>hk.1,.refl _ _,?_,?_,?_,?_,H.mem,?_,fun b o y hy=>.inl hy,Mem.le_refl _,?_⟩
 ·intro j k hk;obtain⟨_,_,h2,_⟩:=at_ hk;exact(H.blk _ _ h2).ren
 ·intro j k hk _ hc hS;obtain⟨hj,_,_,h3⟩:=at_ hk;refine hS.2 _ ?_ hc rfl;rw[h3];exact getElem_mem hj
 ·intro j k hk ho;obtain⟨_,h1,_⟩:=at_ hk;rw[h1]at ho;cases ho
 ·intro j i k l hk hl' _ _ ck cl hne;obtain⟨hj,o1,h2,e2⟩:=at_ hk;obtain⟨hi,o3,h4,e4⟩:=at_ hl';refine H.apart _ _ _ _ h2 h4 o1 o3 ck cl ?_;rw[e2,e4];exact fun e=>hne ((List.getElem_inj hnd).1 e)
 ·intro j k hk _ hc o;obtain⟨_,h1,h2,_⟩:=at_ hk;exact H.memOwn _ _ h2 h1 hc o
 ·intro j l hj;simp only[ic,getElem?_map,map_eq_some_iff]at hj;obtain⟨j',h1,rfl⟩:=hj
  have hj3:j<K:=by
   rcases lt_or_ge j K with h | h
   ·exact h
   ·rw[List.getElem?_eq_none (by simpa using h)]at h1;cases h1
  have hj2:j<bs.length:=by omega
  rw[getElem?_range hj3]at h1;injection h1 with h1;subst h1;refine⟨?_,rfl⟩;obtain⟨g1,g2⟩:=hks j bs[j] (ks[j]'(by omega)) (getElem?_eq_getElem hj2) (getElem?_eq_getElem _);show al (bs.getD j id);rw[iH hj2];exact(H.blk _ _ g2).here
theorem FB (H:WRep B w0 ρ al h w){bs:List Nat}{K:Nat}(hKb:K≤bs.length){id:Nat}(hid:∀b,id≤b→b<id+16→¬al b)(hnd:bs.Nodup)(hbs:∀b∈bs,∃k,ac h b=some k∧k.own=true)
  {ρ2:Nat→Loc} {al2:Al} {hs:List (Option Blk)} {ns:List Blk} {w1:World} (hl:hs.length=K) (hn:ns.length≤16) (ho1:∀k,some k∈hs→k.own=true) (ho2:∀k∈ns,k.own=true)
  (H2:WRep (ic w ρ al bs K id H.gok) w ρ2 al2 (ee 0 hs++aC K ns) w1) (hal:∀b,al2 b→b<K+ns.length) :
  ∃ρ' al',Ext ρ ρ' al al'∧(∀b,al' b→alW al id b)∧WRep B w0 ρ' al' (xu (gOf K bs id) (ee 0 hs++aC K ns)++(((bs.drop K).map fun b=>(b,none))++h)) w1∧Fwd ρ2 ρ' al2 al' (gOf K bs id):=by
 let ρ':Nat→Loc:=fun b=>if id≤b∧b<id+ns.length then ρ2 (K+(b-id)) else ρ b
 let al':Al:=⟨fun b=>al b∨(id≤b∧b<id+ns.length),al2.M⟩
 have hloc:ee 0 hs++aC K ns=ee 0 (hs++ns.map some):=by
  rw[tr]
  have:∀(a b:List (Option Blk)) (j:Nat),ee j (a++b)=ee j a++ee (j+a.length) b:=by
   intro a
   induction a with
   |nil=>intro b j;simp[ee]
   |cons x a ih=>intro b j;rw[cons_append,ee,ee,ih];simp[Nat.add_assoc,Nat.add_comm 1]
  rw[this,hl,Nat.zero_add]
 rw[hloc]at H2 ⊢;generalize hE:ee 0 (hs++ns.map some)=E at *
 have hkeys:iK E=List.range (K+ns.length):=by
  rw[←hE,pF];simp[hl]
 have hown:∀{j k},ac E j=some k→k.own=true∧j<K+ns.length:=by
  intro j k hk;rw[←hE]at hk;obtain⟨_,h2⟩:=sF hk;rw[Nat.sub_zero]at h2;have h3:=List.mem_of_getElem? h2;refine⟨?_,by have:=(List.getElem?_eq_some_iff.1 h2).1;simpa[hl] using this⟩;rcases List.mem_append.1 h3 with h3 | h3
  ·exact ho1 k h3
  ·obtain⟨k',h4,h5⟩:=List.mem_map.1 h3;injection h5 with h5;subst h5;exact ho2 k' h4
 have hpin:∀j (hj:j<K),al2 j∧ρ2 j=ρ (bs[j]'(by omega)):=by
  intro j hj;have hj2:j<bs.length:=by omega
  have:=H2.pins j (ρ bs[j]) (by simp[ic,getElem?_range hj,getElem?_eq_getElem hj2]);exact this
 have hbal:∀b∈bs,al b:=fun b hb=>by obtain⟨k,hk,_⟩:=hbs b hb;exact(H.blk b k hk).here
 have hold:∀b,al b→ρ' b=ρ b:=fun b hb=>if_neg fun h=>hid b h.1 (by omega) hb;have E1:Ext ρ ρ' al al':=⟨hold,H2.memOld,fun _ hb=>.inl hb⟩
 have F:Fwd ρ2 ρ' al2 al' (gOf K bs id):=by
  have key:∀j,al2 j→al'.p (gOf K bs id j)∧ρ' (gOf K bs id j)=ρ2 j:=by
   intro j hj;have hlt:=hal j hj;unfold gOf;by_cases h:j<K
   ·have hjb:j<bs.length:=by omega
    rw[if_pos h,iH hjb];have hb:=hbal _ (getElem_mem hjb);exact⟨.inl hb,(hold _ hb).trans (hpin j h).2.symm⟩
   ·rw[if_neg h];refine⟨.inr ⟨by omega,by omega⟩,?_⟩;show(if id≤id+(j-K)∧id+(j-K)<id+ns.length then ρ2 (K+(id+(j-K)-id)) else _)=_;rw[if_pos ⟨by omega,by omega⟩];congr 1;omega
  exact⟨Mem.le_refl _,fun j hj=>(key j hj).2,fun j hj=>(key j hj).1⟩
 have hinj:∀i∈iK E,∀j∈iK E,gOf K bs id i=gOf K bs id j→i=j:=by
  intro i hi j hj e;rw[hkeys,List.mem_range]at hi hj;unfold gOf at e;by_cases h1:i<K<;>by_cases h2:j<K
  ·have h1':i<bs.length:=by omega
   have h2':j<bs.length:=by omega
   rw[if_pos h1,if_pos h2,iH h1',iH h2']at e;exact(List.getElem_inj hnd).1 e
  ·have h1':i<bs.length:=by omega
   rw[if_pos h1,if_neg h2,iH h1']at e;exact absurd (hbal _ (getElem_mem h1')) (hid _ (by omega) (by omega))
  ·have h2':j<bs.length:=by omega
   rw[if_neg h1,if_pos h2,iH h2']at e;exact absurd (hbal _ (getElem_mem h2')) (hid _ (by omega) (by omega))
  ·rw[if_neg h1,if_neg h2]at e;omega
 have hcls:∀{b:Nat} {k:Blk},ac (xu (gOf K bs id) E++(((bs.drop K).map fun b=>(b,none))++h)) b=some k→(∃j k0,ac E j=some k0∧b=gOf K bs id j∧k=k0.ren (gOf K bs id))∨(b∉bs∧ac h b=some k):=by
  intro b k hk;rcases hget_renH hinj hk with h1 | ⟨h1,h2⟩
  ·exact .inl h1
  ·obtain⟨h3,h4⟩:=co h2;refine .inr ⟨fun hb=>?_,h4⟩;obtain⟨j,hj,rfl⟩:=List.mem_iff_getElem.1 hb;by_cases hjK:j<K
   ·have:=h1 j (by rw[hkeys,List.mem_range];omega);unfold gOf at this;rw[if_pos hjK,iH hj]at this;exact this rfl
   ·refine h3 ?_;rw[List.mem_iff_getElem?];exact⟨j-K,by rw[List.getElem?_drop,show K+(j-K)=j by omega,getElem?_eq_getElem hj]⟩
 have hfar:∀b k,b∉bs→ac h b=some k→k.els≠[]∨(k.own=true∧(ρ b).cap≠0)→(ic w ρ al bs K id H.gok).S (ρ b).blk:=by
  intro b k hb hk hc;refine⟨H.lt hk hc,fun c hc' hcap=>?_⟩;obtain⟨l,hl',ol⟩:=hbs _ hc';exact(H.other hl' ol hcap hk hc (fun e=>hb (e▸hc'))).symm
 have hbase:∀k,B.S k→(ic w ρ al bs K id H.gok).S k:=fun k hk=>⟨H.size k hk,fun c hc hcap e=>by
  obtain⟨l,hl',ol⟩:=hbs c hc;exact H.own c l hl' ol hcap (e▸hk)⟩
 refine⟨ρ',al',E1,fun b hb=>hb.elim .inl fun hb=>.inr ⟨hb.1,by have:=hb.2;omega⟩,⟨H.base,H.below.trans (H2.below.mono hbase),?_,?_,?_,?_,H2.mem,?_,?_,Mem.le_trans H.memOld H2.memOld,?_⟩,F⟩
 ·intro b k hk;rcases hcls hk with ⟨j,k0,h1,rfl,rfl⟩ | ⟨h1,h2⟩
  ·exact(H2.blk j k0 h1).fwd F
  ·exact(H.blk b k h2).ext' E1 fun hc=>H2.below.block _ (hfar b k h1 h2 hc)
 ·intro b k hk ho hc;rcases hcls hk with ⟨j,k0,h1,rfl,rfl⟩ | ⟨h1,h2⟩
  ·have e:=F.eq j (H2.blk j k0 h1).here;rw[e]at hc ⊢;exact fun hS=>H2.own j k0 h1 (hown h1).1 hc (hbase _ hS)
  ·have e:=hold b (H.blk b k h2).here;rw[e]at hc ⊢;exact H.own b k h2 ho hc
 ·intro b k hk ho;rcases hcls hk with ⟨j,k0,h1,rfl,rfl⟩ | ⟨h1,h2⟩
  ·have:k0.own=true:=(hown h1).1;have h3:k0.own=false:=ho;rw[this]at h3;cases h3
  ·rw[hold b (H.blk b k h2).here];exact H.old b k h2 ho
 ·intro b c k l hk hl' ok ol cb cc hne;rcases hcls hk with ⟨j,k0,h1,rfl,rfl⟩ | ⟨h1,h2⟩<;>rcases hcls hl' with ⟨i,l0,g1,rfl,rfl⟩ | ⟨g1,g2⟩
  ·have e1:=F.eq j (H2.blk j k0 h1).here;have e2:=F.eq i (H2.blk i l0 g1).here;rw[e1]at cb ⊢;rw[e2]at cc ⊢;exact H2.apart j i k0 l0 h1 g1 (hown h1).1 (hown g1).1 cb cc (fun e=>hne (by rw[e]))
  ·have e1:=F.eq j (H2.blk j k0 h1).here;have e2:=hold c (H.blk c l g2).here;rw[e1]at cb ⊢;rw[e2]at cc ⊢;exact fun e=>H2.own j k0 h1 (hown h1).1 cb (e▸hfar c l g1 g2 (.inr ⟨ol,cc⟩))
  ·have e1:=F.eq i (H2.blk i l0 g1).here;have e2:=hold b (H.blk b k h2).here;rw[e1]at cc ⊢;rw[e2]at cb ⊢;exact fun e=>H2.own i l0 g1 (hown g1).1 cc (e▸hfar b k h1 h2 (.inr ⟨ok,cb⟩))
  ·have e1:=hold b (H.blk b k h2).here;have e2:=hold c (H.blk c l g2).here;rw[e1]at cb ⊢;rw[e2]at cc ⊢;exact H.apart b c k l h2 g2 ok ol cb cc hne
 ·intro b k hk ho hc o;rcases hcls hk with ⟨j,k0,h1,rfl,rfl⟩ | ⟨h1,h2⟩
  ·have e:=F.eq j (H2.blk j k0 h1).here;rw[e]at hc ⊢;exact H2.memOwn j k0 h1 (hown h1).1 hc o
  ·have e:=hold b (H.blk b k h2).here;rw[e]at hc ⊢;cases hy:al2.M (ρ b).blk o with
   |none=>rfl
   |some y =>
    rcases H2.memNew _ _ _ hy with h3 | h3
    ·have:al.M (ρ b).blk o=some y:=h3;rw[H.memOwn b k h2 ho hc o]at this;cases this
    ·exact absurd (hfar b k h1 h2 (.inr ⟨ho,hc⟩)) h3
 ·intro b o y hy;rcases H2.memNew _ _ _ hy with h3 | h3
  ·exact H.memNew b o y h3
  ·exact .inr fun hS=>h3 (hbase b hS)
 ·intro j l hj;obtain⟨h1,h2⟩:=H.pins j l hj;exact⟨.inl h1,(hold j h1).trans h2⟩
theorem DT (H:WRep B w0 ρ al h w){bs:List Nat}{K:Nat}(hKb:K≤bs.length){id:Nat}(hid:∀b,id≤b→b<id+16→¬al b)(hnd:bs.Nodup)(hbs:∀b∈bs,∃k,ac h b=some k∧k.own=true)
  {ρ2:Nat→Loc} {al2:Al} {hs:List (Option Blk)} {ns:List Blk} {w1:World} (hl:hs.length=K) (hn:ns.length≤16) (ho1:∀k,some k∈hs→k.own=true) (ho2:∀k∈ns,k.own=true)
  (H2:WRep (ic w ρ al bs K id H.gok) w ρ2 al2 (ee 0 hs++aC K ns) w1) (hal:∀b,al2 b→b<K+ns.length) :
  ∃ρ' al',Ext ρ ρ' al al'∧(∀b,al' b→alW al id b)∧WRep B w0 ρ' al' (xu (gOf K bs id) (ee 0 hs++aC K ns)++(((bs.drop K).map fun b=>(b,none))++h)) w1 :=
 let ⟨ρ',al',h1,h2,h3,_⟩:=FB H hKb hid hnd hbs hl hn ho1 ho2 H2 hal
 ⟨ρ',al',h1,h2,h3⟩
end
def mkR {X:Type}(K N:Nat)(hKN:K≤N)(f:FuncId)(fn:Func)(c:Code)(hf:P.funcs[f]? = some fn)(hb:fn.body=some c)
  (hen:∀(args:Array Value) (w:World),(callFunc f args).run P w=.ok (.enter f args) w)
  (dec:ag→List AV→Option (Prop×List Nat×X)) (encA:X→List AV) (encK:X→List Blk) (out:X→RO)
  (hmono:∀{h h':ag} {args:List AV} {r:Prop×List Nat×X},(∀b k,ac h b=some k→ac h' b=some k)→dec h args=some r→dec h' args=some r)
  (hdec:∀{h:ag} {aS0:List AV} {q:Prop} {bs:List Nat} {x:X},dec h aS0=some (q,bs,x)→q→(encA x).length≤fn.ntmps∧bs.length=N∧(encK x).length=N∧bs.Nodup ∧
   ∀d:Nat,(∀(j b:Nat) (k:Blk),bs[j]? = some b→(encK x)[j]? = some k→k.own=true∧ac h b=some (k.ren fun j=>bs.getD j d)) ∧
    ∀(ρ:Nat→Loc) (al:Al) (vals:List Value),AsRep ρ al aS0 vals→AsRep (fun j=>ρ (bs.getD j d)) (alR al fun j=>bs.getD j d) (encA x) vals)
  (body:∀{h:ag} {aS0:List AV} {q:Prop} {bs:List Nat} {x:X},dec h aS0=some (q,bs,x)→q→SW P ⟨none,K⟩ fn.ntmps c ⟨N,ax 0 (encA x),aC 0 (encK x)⟩ (um P fn.results.toList K (out x))):am P f where
 enter:=hen
 run:=fun id h args=>jv K dec out id h args
 pan:=fun _ h args=>iT dec out h args
 mono:=by
  intro id h h' args R hs hr;unfold jv at hr ⊢;split at hr
  case h_2=>cases hr
  rename_i q bs x hd;rw[hmono hs hd];exact hr
 sound:=by
  intro id h args R hr hob B w0 ρ al w vals H hid hA;unfold jv at hr;split at hr
  case h_2=>cases hr
  rename_i q bs x hd;split at hr
  case h_2=>cases hr
  rename_i r hs ns hout;injection hr with hr;subst hr;obtain⟨hlen,hK,hKl,hnd,hall⟩:=hdec hd hob;obtain⟨hks,henc⟩:=hall id;have hKb:K≤bs.length:=by omega
  have hA1:=henc ρ al vals hA;have hl:=hA1.length;have h0:¬al id:=hid id (Nat.le_refl _) (by omega);have H1:=zj H hKb h0 (by rw[hKl,hK]) hnd hks
  have hbs:∀b∈bs,∃k,ac h b=some k∧k.own=true:=fun b hb=>by
   obtain⟨j,hj,rfl⟩:=List.mem_iff_getElem.1 hb;obtain⟨g1,g2⟩:=hks j bs[j] ((encK x)[j]'(by omega)) (getElem?_eq_getElem hj) (getElem?_eq_getElem _);exact⟨_,g2,g1⟩
  refine eP (K:=K) (B:=ic w ρ al bs K id H.gok) (ρ:=fun j=>ρ (bs.getD j id)) (al:=alR al fun j=>bs.getD j id) (s0:=⟨N,ax 0 (encA x),aC 0 (encK x)⟩) hf hb (by simp[ic]) rfl ⟨by simp;omega,Marks.nil _ _ _,gI hA1 _,H1,fun b hb=>?_⟩ (body hd hob) ?_ ?_
  ·rcases lt_or_ge b bs.length with h | h
   ·show b<N;omega
   ·have:al (bs.getD b id):=hb;rw[List.getD_eq_getElem?_getD,List.getElem?_eq_none h]at this;exact absurd this h0
  ·intro s ρ1 al1 a w1 hq1 HS;obtain⟨r',hs',ns',e,hret,hpl,hl1,hl2,ho1,ho2,hwk⟩:=vN hq1;rw[hout]at e;injection e with e1 e2 e3;subst e1;subst e2;subst e3;obtain⟨v,g1,g2⟩:=jg (fn:=fn) HS hret;obtain⟨ρ2,al2,HS2⟩:=hwk _ _ _ _ _ _ _ (by simp[ic]) HS;obtain⟨ρ',al',k1,k2,k3⟩:=DT H hKb hid hnd hbs hl1 hl2 ho1 ho2 HS2.w HS2.al;exact⟨v,g1,v,ρ',al',rfl,k1,k2,g2.plain hpl,by simpa only[List.append_assoc] using k3⟩
  ·intro y s ρ1 al1 a w1 h1 HS;rw[hout]at h1;cases h1
 psound:=by
  intro id h args ob y E hr hob B w0 ρ al w vals H hid hA;unfold iT at hr;split at hr
  case h_2=>cases hr
  rename_i q bs x hd;split at hr
  case h_1=>cases hr
  rename_i v hout;injection hr with hr;injection hr with e1 hr;injection hr with e2 e3;subst e1;subst e2;subst e3;obtain⟨hlen,hK,hKl,hnd,hall⟩:=hdec hd hob;obtain⟨hks,henc⟩:=hall id;have hKb:K≤bs.length:=by omega
  have hA1:=henc ρ al vals hA;have hl:=hA1.length;have h0:¬al id:=hid id (Nat.le_refl _) (by omega);have H1:=zj H hKb h0 (by rw[hKl,hK]) hnd hks
  have hbs:∀b∈bs,∃k,ac h b=some k∧k.own=true:=fun b hb=>by
   obtain⟨j,hj,rfl⟩:=List.mem_iff_getElem.1 hb;obtain⟨g1,g2⟩:=hks j bs[j] ((encK x)[j]'(by omega)) (getElem?_eq_getElem hj) (getElem?_eq_getElem _);exact⟨_,g2,g1⟩
  refine eP (K:=K) (B:=ic w ρ al bs K id H.gok) (ρ:=fun j=>ρ (bs.getD j id)) (al:=alR al fun j=>bs.getD j id) (s0:=⟨N,ax 0 (encA x),aC 0 (encK x)⟩) hf hb (by simp[ic]) rfl ⟨by simp;omega,Marks.nil _ _ _,gI hA1 _,H1,fun b hb=>?_⟩ (body hd hob) ?_ ?_
  ·rcases lt_or_ge b bs.length with h | h
   ·show b<N;omega
   ·have:al (bs.getD b id):=hb;rw[List.getD_eq_getElem?_getD,List.getElem?_eq_none h]at this;exact absurd this h0
  ·intro s ρ1 al1 a w1 hq1 HS;obtain⟨r',hs',ns',e,_⟩:=vN hq1;rw[hout]at e;cases e
  ·intro y' s ρ1 al1 a w1 h1 HS;rw[hout]at h1;injection h1 with h1;subst h1
   obtain⟨ρ2,al2,HS2⟩:=(Wk.ren (ro:=⟨none,K⟩) (s:=s) (s':=⟨K,[],ee 0 (List.replicate K none)⟩) (List.range K) (fun j hj=>by rw[getElem?_range hj]) (by simp) List.nodup_range (by simp) (by
    intro p hp k hk;obtain⟨j,o⟩:=p;simp only at hk;subst hk
    have:∀(n i j:Nat) (k:Blk),(j,some k)∉ee i (List.replicate n none):=by
     intro n
     induction n with
     |zero=>intro i j k hm;simp[ee]at hm
     |succ n ih=>intro i j k hm;simp[List.replicate_succ,ee]at hm;exact ih _ _ _ hm
    exact absurd hp (this _ _ _ _))) _ _ _ _ _ _ _ (by simp[ic]) HS
   obtain⟨ρ',al',k1,k2,k3⟩:=DT H hKb hid hnd hbs (ns:=[]) (hs:=List.replicate K none) (by simp) (by simp) (by intro k hk;simp[List.mem_replicate]at hk) (by simp) (by simpa[aC] using HS2.w) (by simpa using HS2.al);refine⟨ρ',al',rfl,k1,k2,k3.sub fun b k hk=>?_⟩;obtain⟨h3,h4⟩:=co hk;rw[←h4]
   have:∀E:ag,(∀x∈E,x.1≠b)→ac (E++h) b=ac h b:=by
    intro E
    induction E with
    |nil=>intro _;rfl
    |cons x E ih =>
     intro hE;obtain⟨c,o⟩:=x;rw[cons_append,ac,if_neg (hE (c,o) (by simp))];exact ih fun y hy=>hE y (by simp[hy])
   rw[←List.append_assoc];refine this _ fun y hy=>?_;rcases List.mem_append.1 hy with hy | hy
   ·simp only[xu,aC,append_nil,List.mem_map]at hy;obtain⟨z,hz,rfl⟩:=hy;have hkz:z.1∈iK (ee 0 (List.replicate K none)):=List.mem_map.2 ⟨z,hz,rfl⟩;rw[pF]at hkz;have hz2:z.1<K:=by simpa using hkz
    have hz3:z.1<bs.length:=by omega
    simp only[gOf,if_pos hz2,iH hz3];rintro rfl;exact h3 (getElem_mem hz3)
   ·obtain⟨c,hc,rfl⟩:=List.mem_map.1 hy;rintro rfl;exact h3 (List.mem_of_mem_drop hc)
end
section
variable {B:cX}{w0:World}{ρ:Nat→Loc}{al:Al}{h:ag}{w:World}{U:List Nat}
theorem WRep.freeze (H:WRep B w0 ρ al h w)(U:List Nat):Ext ρ ρ al ⟨al.p,dp al.M ρ h U w⟩∧WRep B w0 ρ ⟨al.p,dp al.M ρ h U w⟩ ((U.map fun b=>(b,none))++h) w:=by
 have E:Ext ρ ρ al ⟨al.p,dp al.M ρ h U w⟩:=⟨fun _ _=>rfl,kj,fun _ hb=>hb⟩;refine⟨E,H.base,H.below,fun b k hk=>(H.blk b k (co hk).2).ext E rfl,fun b k hk=>H.own b k (co hk).2,fun b k hk=>H.old b k (co hk).2,fun b c k l hk hl=>H.apart b c k l (co hk).2 (co hl).2,fun b o y hy=>rm H hy,fun b k hk ho hc o=>?_,fun b o y hy=>?_,Mem.le_trans H.memOld kj,H.pins⟩
 ·obtain⟨hn,hk⟩:=co hk;cases hy:dp al.M ρ h U w (ρ b).blk o with
  |none=>exact hy
  |some y =>
   rcases frzM_some hy with h2 | ⟨⟨c,k',hcU,hk',ho',hc',e⟩,_⟩
   ·rw[H.memOwn b k hk ho hc o]at h2;cases h2
   ·exact absurd e (H.apart c b k' k hk' hk ho' ho hc' hc (fun e=>hn (e▸hcU)))
 ·rcases frzM_some hy with h2 | ⟨⟨c,k',hcU,hk',ho',hc',rfl⟩,_⟩
  ·exact H.memNew b o y h2
  ·exact .inr (H.own c k' hk' ho' hc')
theorem WRep.retell (H:WRep B w0 ρ al h w){b:Nat}{k k':Blk}(hk:ac h b=some k)(ho:k'.own=k.own)(he:k'.els≠[]→k.els≠[])(hB:BRep ρ al w b k'):WRep B w0 ρ al ((b,some k')::h) w:=by
 have at_:∀{c l},ac ((b,some k')::h) c=some l→∃l',ac h c=some l'∧l.own=l'.own∧(l.els≠[]→l'.els≠[])∧BRep ρ al w c l:=by
  intro c l hl;rw[ac]at hl;split at hl
  ·rename_i e;subst e;injection hl with hl;subst hl;exact⟨k,hk,ho,he,hB⟩
  ·exact⟨l,hl,rfl,id,H.blk c l hl⟩
 refine⟨H.base,H.below,fun c l hl=>?_,fun c l hl h1=>?_,fun c l hl h1 h2=>?_,fun c d l m hl hm h1 h2=>?_,H.mem,fun c l hl h1=>?_,H.memNew,H.memOld,H.pins⟩
 ·obtain⟨_,_,_,_,g⟩:=at_ hl;exact g
 ·obtain⟨l',g1,g2,_⟩:=at_ hl;exact H.own c l' g1 (g2▸h1)
 ·obtain⟨l',g1,g2,g3,_⟩:=at_ hl;exact H.old c l' g1 (g2▸h1) (g3 h2)
 ·obtain⟨l',g1,g2,_⟩:=at_ hl;obtain⟨m',g3,g4,_⟩:=at_ hm;exact H.apart c d l' m' g1 g3 (g2▸h1) (g4▸h2)
 ·obtain⟨l',g1,g2,_⟩:=at_ hl;exact H.memOwn c l' g1 (g2▸h1)
end
theorem SW.wk {P:Program}{ro:Cf}{n:Nat}{c:Code}{s s':St}{Q:Exit→St→Prop}(h:SW P ro n c s' Q)(hw:Wk ro s s'):SW P ro n c s Q:=fun B w0 ρ al a w hpl H=>by
 obtain⟨ρ',al',H'⟩:=hw n B w0 ρ al a w hpl H;exact h B w0 ρ' al' a w hpl H'
theorem Wk.frz {ro:Cf}{s:St}(k:Nat){q:Prop}{u:List Nat}{A:AV}(hk:AV.toD s.h 4 (bI s.t k)=some (q,u,A))(hq:q):Wk ro s ⟨s.nx,(k,A)::s.t,(u.map fun b=>(b,none))++s.h⟩:=by
 intro n B w0 ρ al a w _ H;obtain⟨E,H'⟩:=H.w.freeze u;refine⟨ρ,⟨al.p,dp al.M ρ s.h u w⟩,H.size,H.defers,?_,H',H.al⟩;intro j;rw[bI];split
 ·rename_i ej;subst ej;exact AV.toD_rep H.w rfl hk hq (fun _ h=>h) (H.t k)
 ·exact(H.t j).ext E
theorem Wk.nilC {ro:Cf}{s:St}(b j:Nat)(T:TypeId)(sz:Nat){k:Blk}{xs:List LV}(hk:ac s.h b=some k)(hx:k.els=[xs])(hj:xs[j]? = some (.v (.slice none 0 0))) :
  Wk ro s ⟨s.nx+1,s.t,(b,some { k with els:=[xs.set j (.sl s.nx 0 0)] })::(s.nx,some ⟨true,T,sz,[]⟩)::s.h⟩:=by
 intro n B w0 ρ al a w _ H;have hid:¬al s.nx:=fun h=>Nat.lt_irrefl _ (H.al _ h);obtain⟨ρ',E,e,H'⟩:=H.w.virtual hid T sz;have hb:=H.w.blk b k hk;have hne:s.nx≠b:=fun h=>hid (h▸hb.here);have hk':ac ((s.nx,some ⟨true,T,sz,[]⟩)::s.h) b=some k:=by rw[ac,if_neg hne];exact hk
 have hb':=H'.blk b k hk';refine⟨ρ',al1 al s.nx,H.size,H.defers,H.t.ext E,H'.retell hk' rfl (fun _=>by rw[hx];simp) ⟨hb'.here,hb'.own,hb'.sz,?_,?_,?_,hb'.room⟩,?_⟩
 ·intro e he;simp only[List.mem_singleton]at he;subst he;rw[List.length_set];exact hb'.len xs (by rw[hx];simp)
 ·have:=hb'.cap;rw[hx]at this;exact this
 ·intro i j' x hc;obtain⟨rfl,h2⟩:=qk hc;rw[List.getElem?_set]at h2;split at h2
  ·rename_i ej;subst ej;split at h2
   ·injection h2 with h2;subst h2;obtain⟨y,g1,g2,g3⟩:=hb'.cells 0 j _ (by rw[hx];exact(show cellAt [xs] 0 j=_ from hj));refine⟨y,g1,g2,?_⟩;have hv:y=.slice none 0 0:=g3;rw[hv];exact⟨.inr rfl,none,by rw[e];rfl,by simp,fun h=>by rw[e]at h;simp at h⟩
   ·cases h2
  ·exact hb'.cells 0 j' x (by rw[hx];exact h2)
 ·rintro c (hc | rfl)
  ·have:=H.al c hc;show c<s.nx+1;omega
  ·show _<_+1;omega
theorem zM {ro:Cf}{ι:Type}{inv:ι→Prop}{I:ι→St}{m:ι→Nat}{i:ι}{Q:Exit→St→Prop}{s:St}{v:Value}{b:Bool}:s9 ro inv I m i Q (.panic [{ v:=v,recovered:=b }]) s=Q (.panic [{ v:=v,recovered:=b }]) s:=rfl
theorem y7 {P:Program}{ctx:Ctx P}{ro:Cf}{n f:Nat}{r:List Itm}{Q:Exit→St→Prop}{s:St}{v:Value}{b:Bool}:lL P ctx ro n f r Q (.panic [{ v:=v,recovered:=b }]) s=Q (.panic [{ v:=v,recovered:=b }]) s:=rfl
section
variable {P:Program}
theorem oK {F:Fence}{n:Nat}{N:Nat}:∀(rs:List Nat) (fr:Frame) (cs:List Frame) (w:World),fr.mode≠.run→fr.defers=rs.map mark→F.fn fr.fn→F.room (cs.length+1+n)→rs.Nodup →
  (∀r∈rs,N≤r∧w.heap[r]? = some (.deferred (some [])))→∃w',Unmark N w w'∧StepsIn (Machine.fenced P F) P (lone fr cs w) (lone { fr with defers:=[] } cs w')
 |[],fr,cs,w,_,hd,_,_,_,_=>⟨w,.refl N w,by
   have:({ fr with defers:=[] }:Frame)=fr:=by
    cases fr;simp only[List.map_nil]at hd;subst hd;rfl
   rw[this];exact StepsIn.refl _⟩
 |r::rs,fr,cs,w,hm,hd,hb,hroom,hnd,hr=>by
  have h0:=hr r (by simp);rw[List.nodup_cons]at hnd;have hlt:r<w.heap.size:=(Array.getElem?_eq_some_iff.1 h0.2).1
  have hU:Unmark N w (w.putObj r (.deferred none)):=⟨rfl,rfl,rfl,by simp[World.putObj],fun k hk=>by
   refine World.putObj_heap_other ?_;rintro rfl;rcases hk with hk | ⟨o,h1,h2⟩
   ·omega
   ·rw[h0.2]at h1;injection h1 with h1;subst h1;cases h2⟩
  have h1:=step_collected (P:=P) (cs:=cs) hm hd rfl (run_takeDeferred h0.2);have i1:(lone fr cs w).fenced P F:=fenced_out hb hroom hm hd (fun g hg=>by simp[mark,Target.leads]at hg)
  obtain⟨w',g1,g2⟩:=oK rs { fr with defers:=[]++rs.map mark } cs (w.putObj r (.deferred none)) hm rfl hb hroom hnd.2 (fun q hq=>by
   have:=hr q (by simp[hq]);refine⟨this.1,?_⟩;rw[World.putObj_heap_other (by rintro rfl;exact hnd.1 hq)];exact this.2)
  exact⟨w',hU.trans g1,.head i1 h1 g2⟩
def uU (P:Program)(N:Nat)(fn:Func)(c₀:Frame)(cs:List Frame)(R:Ending→FrameMode→World→Prop):Exit→Act→List Frame→World→Prop
 |.normal,a,cs',w | .ret,a,cs',w=>∃rs:List Nat,rs.Nodup∧a.defers=rs.map mark∧(∀r∈rs,N≤r∧w.heap[r]? = some (.deferred (some []))) ∧
   ∃u',cs'={ c₀ with mode:=u' }::cs∧∀w',Unmark N w w'→∃v,(results fn a.tmps).run P w'=.ok v w'∧R (.returned v) u' w'
 |_,_,_,_=>False
theorem uV {F:Fence}{n N:Nat}{f:FuncId}{fn:Func}{c:Code}{args:Array Value}{u:FrameMode}{w:World}{R:Ending→FrameMode→World→Prop}
  (hf:P.funcs[f]? = some fn) (hb:fn.body=some c) (hF:F.fn f)
  (h:∀(c₀:Frame) (cs:List Frame),c₀.mode=u→c.wpSIn F n P (uU P N fn c₀ cs R) { tmps:=args++Array.replicate (fn.ntmps-args.size) undef,defers:=[] } (c₀::cs) w) :
  CallsDIn F n P f args u w R:=by
 refine⟨hF,fun c₀ cs hu hroom=>?_⟩;let b:Frame:={ (default:Frame) with fn:=f,kind:=.deferred,roundOf:=none }
 have henter:Frame.enter P f args .deferred =
   b.atR { tmps:=args++Array.replicate (fn.ntmps-args.size) undef,defers:=[] } [.code c]:=by
  simp[Frame.enter,Frame.atR,hf,hb,b]
 obtain⟨e,a',cs',w',hl,hq,harr⟩:=h c₀ cs hu b [] rfl rfl hF hroom;rw[←henter]at harr;cases e with
 |normal =>
  obtain⟨rs,h1,h2,h3,u',rfl,h4⟩:=hq;obtain⟨w2,g1,g2⟩:=oK (P:=P) (F:=F) (n:=n) rs { b.atR a' [] with mode:=.returning } ({ c₀ with mode:=u' }::cs) w' (by simp) h2 hF hroom h1 h3;obtain⟨v,g3,g4⟩:=h4 w2 g1;exact⟨.returned v,u',w2,_,g4,StepsIn.trans harr (.head (fenced_calm (fr:=b.atR a' []) hF hroom rfl) (stepR_end rfl) g2),rfl,rfl,rfl,rfl,fn,hf,g3⟩
 |ret =>
  obtain⟨rs,h1,h2,h3,u',rfl,h4⟩:=hq;obtain⟨todo,hs⟩:=harr.1 rfl;obtain⟨w2,g1,g2⟩:=oK (P:=P) (F:=F) (n:=n) rs { b.atR a' todo with mode:=.returning } ({ c₀ with mode:=u' }::cs) w' (by simp) h2 hF hroom h1 h3;obtain⟨v,g3,g4⟩:=h4 w2 g1;exact⟨.returned v,u',w2,_,g4,StepsIn.trans hs g2,rfl,rfl,rfl,rfl,fn,hf,g3⟩
 |panic chain=>exact hq.elim
 |exit id=>exact hq.elim
 |goto l=>exact hq.elim
 |outgrown=>exact hq.elim
inductive Caught:FrameMode→Value→FrameMode→Prop where
 |none:Caught .returning .nilIface .returning
 |some (x:Value):Caught (.panicking [{ v:=x,recovered:=false }]) x (.panicking [{ v:=x,recovered:=true }])
theorem Caught.settle {u u':FrameMode}{x:Value}(h:Caught u x u'):settle u'=.returning:=by
 cases h<;>rfl
theorem Ny {g:FuncId}{fn:Func}{rid:Nat}{o:Oper}{t:Tmp}{rest:Code}(hf:P.funcs[g]? = some fn)(hb:fn.body=some (.seq (.region rid #[o] false) rest))
  (hop:o.op=.call { callee:=.builtin .recover,args:=#[],argTypes:=#[] }) (hg:o.guard=none) (hd:o.dst=some t) (hres:fn.results = #[])
  {K:Nat} {B:cX} {w1:World} {ρ:Nat→Loc} {al:Al} {h:ag} {nx:Nat} (hds:B.ds=[]) (hpl:B.pl.length=K) (H:WRep B w1 ρ al h w1) (hal:∀b,al b→b<nx)
  {aS0:List AV} {vals:List Value} (hA:AsRep ρ al aS0 vals) (hn:vals.length≤fn.ntmps) (htn:t<fn.ntmps) {u u':FrameMode} {x:Value} (hu:Caught u x u') {post:St→Prop}
  (hsw:SW P ⟨none,K⟩ fn.ntmps rest ⟨nx,(t,.s (.l (.v x)))::ax 0 aS0,h⟩ (mX post fun _ _=>False)) :
  CallsDIn (Fw ⟨none,K⟩) 0 P g vals.toArray u w1 fun e u2 w2=>u2=u'∧(∃v,e=.returned v)∧∃ρ2 al2 s2,post s2∧WRep B w1 ρ2 al2 s2.h w2∧∀b,al2 b→b<s2.nx:=by
 refine uV (N:=w1.heap.size) hf hb trivial fun c₀ cs hm=>wpSIn_seq (wpSIn_region ?_);have hsz:(vals.toArray++Array.replicate (fn.ntmps-vals.toArray.size) undef).size=fn.ntmps:=by simp;omega
 have hrec:∃cs',cs'={ c₀ with mode:=u' }::cs∧∀(Q:Exit→Act→List Frame→World→Prop) (a:Act),Q .normal (a.put o.dst x) cs' w1→wpOpsSIn (Fw ⟨none,K⟩) 0 P #[o] Q [0] a (c₀::cs) w1:=by
  refine⟨_,rfl,fun Q a hQ=>?_⟩;have hw:Region.wanted o (yielded #[o] a.tmps)=true:=by unfold Region.wanted;rw[hg]
  simp only[wpOpsSIn,List.getElem?_toArray,List.getElem?_cons_zero];refine⟨fun _ _=>trivial,?_⟩;rw[if_pos hw];have he:(execOp a.eval o).run P w1=.ok .recover w1:=by simp[execOp,hop];rfl
  rw[he];cases hu with
  |none =>
   simp only[recoverD,hm];have:({ c₀ with mode:=.returning }:Frame)=c₀:=by cases c₀;simp only at hm;subst hm;rfl
   rw[this]at hQ;exact hQ
  |some x =>
   simp only[recoverD,hm];exact hQ
 obtain⟨cs',hcs,hrec⟩:=hrec;refine hrec _ _ (wpSIn_of_wpIn rfl ?_);let a0:Act:={ tmps:=vals.toArray++Array.replicate (fn.ntmps-vals.toArray.size) undef,defers:=[] }
 have H0:RepS fn.ntmps B w1 ρ al ⟨nx,(t,.s (.l (.v x)))::ax 0 aS0,h⟩ (a0.put o.dst x) w1:=by
  refine⟨by rw[hd];simp[Act.put,a0];omega,by rw[hd];exact hds▸Marks.nil _ _ _,?_,H,hal⟩;rw[hd];exact TRep.put (gI hA _) (by rw[hsz];exact htn) (show ARep ρ al (.s (.l (.v x))) x from rfl)
 refine wpIn_mono (hsw B w1 ρ al _ w1 hpl H0) ?_;rintro e a' w' ⟨ρ2,al2,s2,H2,hq⟩
 have fin:post s2→uU P w1.heap.size fn c₀ cs (fun e u2 w2=>u2=u'∧(∃v,e=.returned v)∧∃ρ2 al2 s2,post s2∧WRep B w1 ρ2 al2 s2.h w2∧∀b,al2 b→b<s2.nx) .ret a' cs' w':=by
  intro hp;obtain⟨rs,h1,h2,h3⟩:=H2.defers;rw[hds,append_nil]at h2;refine⟨rs,h1,h2,h3,u',hcs,fun w3 hU=>⟨.tuple #[],by simp[results,hres],rfl,⟨_,rfl⟩,ρ2,al2,s2,hp,(H2.unmark hU).w,H2.al⟩⟩
 cases e with
 |normal=>exact fin hq
 |ret=>exact fin hq
 |panic ch=>obtain⟨_,_,hp⟩:=hq;exact hp.elim
 |exit _=>exact hq.elim
 |goto _=>exact hq.elim
 |outgrown=>exact hq.elim
def pvs (js:List Nat):List AV:=js.map fun j=>.s (.l (.p j 0 0))
theorem FK {ρ ρ':Nat→Loc}{al al':Al}{K:Nat}(h:∀j,j<K→al' j∧ρ' j=ρ j):∀{js:List Nat} {vals:List Value},(∀j∈js,j<K)→AsRep ρ al (pvs js) vals→AsRep ρ' al' (pvs js) vals
 |[],[],_,_=>trivial
 |[],_::_,_,hA=>hA.elim
 |_::_,[],_,hA=>hA.elim
 |j::js,v::vs,hj,⟨⟨_,a⟩,b⟩=>by
  obtain⟨g1,g2⟩:=h j (hj j (by simp));exact⟨⟨g1,by rw[g2];exact a⟩,FK h (fun i hi=>hj i (by simp[hi])) b⟩
def Lays (P:Program)(n:Nat)(D:Code)(s1:St)(t2:cK)(g:FuncId)(js:List Nat):Prop :=
 ∀K B w0 ρ al a w,RepS n B w0 ρ al s1 a w→∃(d:Deferred) (fv:Fn) (cap:Array Value) (vals:List Value) (a':Act),D.wpIn (Fw ⟨none,K⟩) 0 P (fun e a2 w2=>e=.normal∧a2=a'∧w2=w) a w ∧
  a'.defers=d::a.defers∧a'.tmps.size=n∧TRep ρ al t2 a'.tmps∧d.target=.fn fv cap∧(∀w,(invoke d.target d.args).run P w=.ok (.enter g vals.toArray) w)∧AsRep ρ al (pvs js) vals
theorem oj {f:FuncId}{fn:Func}{c0 D rest:Code}(hf:P.funcs[f]? = some fn)(hb:fn.body=some (.seq c0 (.seq D rest)))
  {g:FuncId} {gn:Func} {rid:Nat} {o:Oper} {t:Tmp} {grest:Code} (hgf:P.funcs[g]? = some gn) (hgb:gn.body=some (.seq (.region rid #[o] false) grest))
  (hop:o.op=.call { callee:=.builtin .recover,args:=#[],argTypes:=#[] }) (hog:o.guard=none) (hod:o.dst=some t) (hgres:gn.results = #[]) (htn:t<gn.ntmps)
  {K:Nat} {B:cX} {w:World} {ρ:Nat→Loc} {al:Al} {s0 s1:St} {t2:cK} {js:List Nat} (hjs:∀j∈js,j<K) (hjn:js.length≤gn.ntmps) {vals:List Value} {post post2:St→Prop} {pp:Value→St→Prop} {cells:List (Tmp×Nat)} (hck:∀p∈cells,p.2<K) {R:Ending→World→Prop}
  (hpl:B.pl=[]) (hds:B.ds=[]) (H:RepS fn.ntmps B w ρ al s0 { tmps:=vals.toArray++Array.replicate (fn.ntmps-vals.toArray.size) undef,defers:=[] } w)
  (h0:SW P ⟨none,0⟩ fn.ntmps c0 s0 (fun e s=>e=.normal∧Wk ⟨none,0⟩ s s1)) (hD:Lays P fn.ntmps D s1 t2 g js) (hK:∀j,j<K→∃k,ac s1.h j=some k)
  (h1:SW P ⟨none,K⟩ fn.ntmps rest ⟨s1.nx,t2,s1.h⟩ (mX post pp)) (hcell:∀s,post s→∀p∈cells,bI s.t p.1=.s (.l (.p p.2 0 0))) (hcellp:∀x s,pp x s→∀p∈cells,bI s.t p.1=.s (.l (.p p.2 0 0)))
  (hc0:∀s,post s→SW P ⟨none,K⟩ gn.ntmps grest ⟨s.nx,(t,.s (.l (.v .nilIface)))::ax 0 (pvs js),s.h⟩ (mX post2 fun _ _=>False))
  (hc1:∀x s,pp x s→SW P ⟨none,K⟩ gn.ntmps grest ⟨s.nx,(t,.s (.l (.v x)))::ax 0 (pvs js),s.h⟩ (mX post2 fun _ _=>False))
  (hret:∀s ρ al a w1,post2 s→RepS fn.ntmps B w ρ al ⟨s.nx,cells.map fun p=>(p.1,.s (.l (.p p.2 0 0))),s.h⟩ a w1→∃v,(results fn a.tmps).run P w1=.ok v w1∧R (.returned v) w1):Calls P f vals.toArray w R:=by
 refine(gS (ro:=⟨none,K⟩) (n:=0)).1 (callsIn_of_wp_marks hf hb trivial ?_ rfl);refine wpIn_seq (wpIn_mono (h0 B w ρ al _ w (by rw[hpl];rfl) H) ?_);rintro e a1 w1 ⟨ρ',al',s',H',rfl,hwk⟩;obtain⟨ρ1,al1,H1⟩:=hwk _ B w ρ' al' a1 w1 (by rw[hpl];rfl) H';obtain⟨d,fv,cap,cvals,a',g1,g2,g3,g4,g5,g6,g7⟩:=hD K B w ρ1 al1 a1 w1 H1;refine wpIn_seq (wpIn_mono g1 ?_);rintro e a2 w2 ⟨rfl,rfl,rfl⟩;let B1:cX:=⟨B.S,al1.M,(List.range K).map ρ1,d::a1.defers,H1.w.gok⟩
 have hpins:∀{j l},B1.pl[j]? = some l→j<K∧ρ1 j=l:=by
  intro j l hj;simp only[B1,getElem?_map,map_eq_some_iff]at hj;obtain⟨j',e1,e2⟩:=hj
  have hj3:j<K:=by
   rcases lt_or_ge j K with h | h
   ·exact h
   ·rw[List.getElem?_eq_none (by simpa using h)]at e1;cases e1
  rw[getElem?_range hj3]at e1;injection e1 with e1;subst e1;exact⟨hj3,e2⟩
 have hpin:∀{j},j<K→B1.pl[j]? = some (ρ1 j):=by
  intro j hj;simp only[B1,getElem?_map,getElem?_range hj,Option.map_some]
 have Hb:RepS fn.ntmps B1 w2 ρ1 al1 ⟨s1.nx,t2,s1.h⟩ a2 w2:=by
  refine⟨g3,by rw[g2];exact Marks.nil _ _ _,g4,?_,H1.al⟩;have hr:=H1.w.rebase;refine⟨hr.base,hr.below,hr.blk,hr.own,hr.old,hr.apart,hr.mem,hr.memOwn,hr.memNew,hr.memOld,fun j l hj=>?_⟩;obtain⟨e1,e2⟩:=hpins hj;obtain⟨k,hk⟩:=hK j e1;exact⟨(H1.w.blk j k hk).here,e2⟩
 refine wpIn_mono (h1 B1 w2 ρ1 al1 a2 w2 (by simp[B1]) Hb) ?_;rintro e a3 w3 ⟨ρ3,al3,s3,H3,hq⟩;obtain⟨rs,k1,k2,k3⟩:=H3.defers;have hp3:∀j,j<K→al3 j∧ρ3 j=ρ1 j:=fun j hj=>H3.w.pins j _ (hpin hj)
 have door:∀u u' x,Caught u x u'→u≠.run→SW P ⟨none,K⟩ gn.ntmps grest ⟨s3.nx,(t,.s (.l (.v x)))::ax 0 (pvs js),s3.h⟩ (mX post2 fun _ _=>False)→(∀p∈cells,bI s3.t p.1=.s (.l (.p p.2 0 0))) →
   LeavesInM (Fw ⟨none,K⟩) 0 P fn a3.tmps R a3.defers u w3:=by
  intro u u' x hu hrun hsw hcl;rw[k2];refine iM hrun rs w3 k1 k3 fun w4 hU=>?_;have H4:=H3.unmark hU;have hA:AsRep ρ3 al3 (pvs js) cvals:=FK hp3 hjs g7
  have hlen:cvals.length≤gn.ntmps:=by
   have:∀{js:List Nat} {vs:List Value},AsRep ρ1 al1 (pvs js) vs→vs.length=js.length:=by
    intro js
    induction js with
    |nil=>intro vs h;cases vs with
     |nil=>rfl
     |cons _ _=>exact h.elim
    |cons j js ih=>intro vs h;cases vs with
     |nil=>exact h.elim
     |cons v vs=>rw[length_cons,length_cons,ih h.2]
   rw[this g7];exact hjn
  have H4r:WRep ⟨B.S,al3.M,(List.range K).map ρ1,[],H4.w.gok⟩ w4 ρ3 al3 s3.h w4:=by
   have hr:=H4.w.rebase;exact⟨hr.base,hr.below,hr.blk,hr.own,hr.old,hr.apart,hr.mem,hr.memOwn,hr.memNew,hr.memOld,hr.pins⟩
  refine⟨hrun,.inr ⟨fun h=>by simp[Fw,Fence.wide]at h,fv,cap,g,cvals.toArray,g5,g6 w4,fun _ _=>trivial,CallsDIn.mono (Ny hgf hgb hop hog hod hgres rfl (by simp) H4r H3.al hA hlen htn hu hsw) ?_⟩⟩;rintro e u2 w5 ⟨rfl,⟨v,rfl⟩,ρ5,al5,s5,hp,H5,hal5⟩;show LeavesInM _ _ _ _ _ _ _ (settle _) _;rw[hu.settle];obtain⟨rs1,m1,m2,m3⟩:=H1.defers;rw[hds,append_nil]at m2;have hmk:∀r∈rs1,w.heap.size≤r∧w5.heap[r]? = some (.deferred (some [])):=fun r hr=>⟨(m3 r hr).1,H5.below.others r _ (H4.w.below.others r _ (m3 r hr).2 rfl) rfl⟩;rw[m2,←append_nil (rs1.map mark)];refine iM (by simp) rs1 w5 m1 hmk fun w6 hU2=>?_
  have W5:WRep B w ρ5 al5 s5.h w5:=by
   have u1:WRep B1 w2 ρ5 al5 s5.h w5:=H4.w.unbase (g:=H4.w.gok) ⟨H5.base,H5.below,H5.blk,H5.own,H5.old,H5.apart,H5.mem,H5.memOwn,H5.memNew,H5.memOld,H5.pins⟩;exact H1.w.unbase (g:=H1.w.gok) ⟨u1.base,u1.below,u1.blk,u1.own,u1.old,u1.apart,u1.mem,u1.memOwn,u1.memNew,u1.memOld,fun j l hj=>by rw[hpl]at hj;simp at hj⟩
  have hp5:∀j,j<K→al5 j∧ρ5 j=ρ3 j:=fun j hj=>by
   have:=H5.pins j _ (hpin hj);exact⟨this.1,this.2.trans (hp3 j hj).2.symm⟩
  have R5:RepS fn.ntmps B w ρ5 al5 ⟨s5.nx,cells.map fun p=>(p.1,.s (.l (.p p.2 0 0))),s5.h⟩ { a3 with defers:=rs1.map mark } w5:=by
   refine⟨H3.size,⟨rs1,m1,by rw[hds,append_nil],hmk⟩,?_,W5,hal5⟩;intro k;rcases tget_mem (t:=cells.map fun p=>(p.1,AV.s (.l (.p p.2 0 0)))) (k:=k) rfl with h | h
   ·rw[h];trivial
   ·obtain⟨p,hp1,hp2⟩:=List.mem_map.1 h;injection hp2 with e1 e2;have h3:=H3.t k;rw[←e1,hcl p hp1]at h3;obtain⟨b1,b2⟩:=hp5 p.2 (hck p hp1);rw[←e2,←e1];exact⟨b1,by rw[b2];exact h3.2⟩
  obtain⟨v,q1,q2⟩:=hret s5 ρ5 al5 _ w6 hp (R5.unmark hU2);exact⟨v,q1,q2⟩
 cases e with
 |normal=>exact door .returning _ _ .none (by simp) (hc0 s3 hq) (hcell s3 hq)
 |ret=>exact door .returning _ _ .none (by simp) (hc0 s3 hq) (hcell s3 hq)
 |panic ch =>
  obtain⟨x,rfl,hp⟩:=hq;exact door _ _ _ (.some x) (by simp) (hc1 x s3 hp) (hcellp x s3 hp)
 |exit _=>exact hq.elim
 |goto _=>exact hq.elim
 |outgrown=>exact hq.elim
def Jj (P:Program)(f:FuncId)(fn:Func)(s0:St)(o:PO):Prop :=
 ∀{B:cX} {w:World} {ρ:Nat→Loc} {al:Al} {vals:List Value} {R:Ending→World→Prop},B.pl=[]→B.ds=[] →
  RepS fn.ntmps B w ρ al s0 { tmps:=vals.toArray++Array.replicate (fn.ntmps-vals.toArray.size) undef,defers:=[] } w →
  (∀s ρ al a w1,xv s.h o (kf P fn.results.toList s)→RepS fn.ntmps B w ρ al s a w1→∃v,(results fn a.tmps).run P w1=.ok v w1∧R (.returned v) w1) →
  (∀x s ρ al a w1,o=.pan x→RepS fn.ntmps B w ρ al s a w1→R (.panicked [{ v:=x,recovered:=false }]) w1)→Calls P f vals.toArray w R
def UD {X:Type}(f:FuncId)(fn:Func)
  (hen:∀(args:Array Value) (w:World),(callFunc f args).run P w=.ok (.enter f args) w)
  (dec:List AV→Option (Prop×X)) (enc:X→List AV) (out:X→PO)
  (hdec:∀{aS0:List AV} {q:Prop} {x:X},dec aS0=some (q,x)→q→(enc x).length≤fn.ntmps∧∀(ρ:Nat→Loc) (al:Al) (vals:List Value),AsRep ρ al aS0 vals→AsRep ρ al (enc x) vals)
  (body:∀{aS0:List AV} {q:Prop} {x:X},dec aS0=some (q,x)→q→Jj P f fn ⟨0,ax 0 (enc x),[]⟩ (out x)):am P f where
 enter:=hen
 run:=fun _ h args=>fT dec out h args
 pan:=fun _ h args=>gh dec out h args
 mono:=by
  intro id h h' args R hs hr;unfold fT at hr ⊢;split at hr
  case h_2=>cases hr
  rename_i p u aS0 hm;rw[eH (fun z t hz=>AV.toD_mono hs 4 hz) hm];exact hr
 sound:=by
  intro id h args R hr hob B w0 ρ al w vals H hid hA;unfold fT at hr;split at hr
  case h_2=>cases hr
  rename_i p u aS0 hm;split at hr
  case h_2=>cases hr
  rename_i q x hd;split at hr
  case h_2=>cases hr
  rename_i r hout;injection hr with hr;subst hr;obtain⟨hp,hq⟩:=hob;obtain⟨hlen,henc⟩:=hdec hd hq;have hA1:=henc (fun _=>⟨0,0,0,0,false⟩) ⟨fun _=>False,dp al.M ρ h u w⟩ vals (kF H rfl hm hp (fun _ hc=>hc) hA);have hl:=hA1.length;refine body hd hq (B:=⟨fun k=>k<w.heap.size,dp al.M ρ h u w,[],[],DM H u⟩) (ρ:=fun _=>⟨0,0,0,0,false⟩) (al:=⟨fun _=>False,dp al.M ρ h u w⟩) rfl rfl ⟨by simp;omega,Marks.nil _ _ _,gI hA1 _,vu H u,fun b hb=>hb.elim⟩ ?_ ?_
  ·intro s ρ1 al1 a w1 hq1 H1;obtain⟨r0,q1,u1,r1,h1,h2,h3,h4⟩:=mJ hq1;rw[hout]at h4;injection h4 with h4;subst h4;obtain⟨v,g1,g2⟩:=jg (fn:=fn) H1 h1;refine⟨v,g1,?_⟩;have g3:=AV.toD_rep (U:=u1) (ρ2:=ρ) (al2:=⟨al.p,dp al1.M ρ1 s.h u1 w1⟩) H1.w rfl h2 h3 (fun _ hc=>hc) g2;by_cases hpl:r.plain=true
   ·refine⟨v,ρ,al,rfl,.refl _ _,fun b hb=>.inl hb,g3.plain hpl,?_⟩;unfold vD;rw[if_pos hpl];exact vK H H1.w
   ·obtain⟨g4,g5⟩:=DS (U1:=u1) H H1.w;refine⟨v,ρ,_,rfl,g4,fun b hb=>.inl hb,g3,?_⟩;unfold vD;rw[if_neg hpl];exact g5
  ·intro y s ρ1 al1 a w1 h1 H1;rw[hout]at h1;cases h1
 psound:=by
  intro id h args ob y E hr hob B w0 ρ al w vals H hid hA;unfold gh at hr;split at hr
  case h_2=>cases hr
  rename_i p u aS0 hm;split at hr
  case h_2=>cases hr
  rename_i q x hd;split at hr
  case h_1=>cases hr
  rename_i v hout;injection hr with hr;injection hr with e1 hr;injection hr with e2 e3;subst e1;subst e2;subst e3;obtain⟨hp,hq⟩:=hob;obtain⟨hlen,henc⟩:=hdec hd hq;have hA1:=henc (fun _=>⟨0,0,0,0,false⟩) ⟨fun _=>False,dp al.M ρ h u w⟩ vals (kF H rfl hm hp (fun _ hc=>hc) hA);have hl:=hA1.length;refine body hd hq (B:=⟨fun k=>k<w.heap.size,dp al.M ρ h u w,[],[],DM H u⟩) (ρ:=fun _=>⟨0,0,0,0,false⟩) (al:=⟨fun _=>False,dp al.M ρ h u w⟩) rfl rfl ⟨by simp;omega,Marks.nil _ _ _,gI hA1 _,vu H u,fun b hb=>hb.elim⟩ ?_ ?_
  ·intro s ρ1 al1 a w1 hq1 H1;obtain⟨r0,q1,u1,r1,h1,h2,h3,h4⟩:=mJ hq1;rw[hout]at h4;cases h4
  ·intro y' s ρ1 al1 a w1 h1 H1;rw[hout]at h1;injection h1 with h1;subst h1;exact⟨ρ,al,rfl,.refl _ _,fun b hb=>.inl hb,vK H H1.w⟩
theorem rD {n:Nat}{rid:Nat}{oM oD:Oper}{tc:Tmp}{g:FuncId}{caps:Array Operand}{js:List Nat}{s1:St}(hM:oM.op=.makeFunc (.func g) #[] caps)(hMd:oM.dst=some tc)(hMg:oM.guard=none)
  (hD:oD.op=.defer { callee:=.value (.tmp tc),args:=#[],argTypes:=#[] }) (hDd:oD.dst=none) (hDg:oD.guard=none) (htc:tc<n) (hen:∀(args:Array Value) (w:World),(callFunc g args).run P w=.ok (.enter g args) w)
  (hcaps:caps.toList.map (evT s1.t)=pvs js):Lays P n (.region rid #[oM,oD] false) s1 ((tc,.s (.l .any))::s1.t) g js:=by
 intro K B w0 ρ al a w H;let fv:Value:=.func (.func g) #[] (caps.map a.eval)
 let a1:Act:=a.put (some tc) fv
 let d:Deferred:={ target:=.fn (.func g) (caps.map a.eval),args:=#[] }
 have hsz:a1.tmps.size=n:=by simp only[a1,Act.put,Array.size_setIfInBounds];exact H.size
 refine⟨d,.func g,caps.map a.eval,caps.toList.map a.eval,{ a1 with defers:=d::a.defers },?_,rfl,hsz,?_,rfl,?_,?_⟩
 ·refine wpIn_region ?_;have w1:Region.wanted oM (yielded #[oM,oD] a.tmps)=true:=by unfold Region.wanted;rw[hMg]
  have w2:Region.wanted oD (yielded #[oM,oD] a1.tmps)=true:=by unfold Region.wanted;rw[hDg]
  show wpOpsIn _ _ _ _ _ [0,1] a w;simp only[wpOpsIn,List.getElem?_toArray,List.getElem?_cons_zero,List.getElem?_cons_succ];rw[if_pos w1];refine⟨fun _ _=>trivial,?_⟩
  have e1:(oM.semAt (Fw ⟨none,K⟩).round a.eval).run P w=.ok (.value fv) w:=by
   rw[show(Fw ⟨none,K⟩).round=none from rfl,Oper.semAt_none];simp only[execOp,hM,Instr.makeFunc,Sem.run_bind,Sem.run_pure,Result.andThen_ok];simp[fv]
  rw[e1,Oper.uponIn_value,hMd];rw[if_pos w2];refine⟨fun _ _=>trivial,?_⟩
  have hev:a1.eval (.tmp tc)=fv:=by
   simp only[Act.eval,a1,Act.put];rw[Array.getD_eq_getD_getElem?,Array.getElem?_setIfInBounds_self_of_lt (by rw[H.size];exact htc)];rfl
  have e2:(oD.semAt (Fw ⟨none,K⟩).round a1.eval).run P w=.ok (.defer d) w:=by
   rw[show(Fw ⟨none,K⟩).round=none from rfl,Oper.semAt_none];simp only[execOp,hD,resolve,hev,fv,Deferred.ofValue,Sem.run_bind,Sem.run_pure,Result.andThen_ok];simp[d]
  rw[show a.put (some tc) fv=a1 from rfl,e2,Oper.uponIn_defer,hDd];exact⟨trivial,rfl,rfl⟩
 ·exact TRep.put H.t (by rw[H.size];exact htc) trivial
 ·intro w;simp[d,invoke,hen];rw[←Array.toList_inj];simp
 ·rw[←hcaps]
  have:∀l:List Operand,AsRep ρ al (l.map (evT s1.t)) (l.map a.eval):=by
   intro l
   induction l with
   |nil=>trivial
   |cons x l ih=>exact⟨gJ H.t x,ih⟩
  exact this _
end
theorem rv {P:Program}{t:TypeId}(h:kT P t=4):∃ms,P.underlying t=some (.interface ms):=by
 unfold kT at h;split at h
 all_goals first | (rename_i ms hu;exact⟨ms,hu⟩) | cases h
theorem uc {P:Program}{t:TypeId}{u v:Value}{x y:Operand}{b:Bool}{w:World}(h1:binOp .eql t u v=(do pure (.bool (←Op.equal t u v))))(h3:(eqGuard .eql t x y u v).run P w=.ok () w)(h4:∀d,(Op.equalIn (d+1) t u v).run P w=.ok b w):(do eqGuard .eql t x y u v;binOp .eql t u v:Sem Value).run P w=.ok (.bool b) w:=by
  have h5:(Op.equal t u v).run P w=.ok b w:=by
    unfold Op.equal;rw[show Op.maxDepth=9999+1 from rfl];exact h4 9999
  rw[Sem.run_bind,h3,Result.andThen_ok,h1,Sem.run_bind,h5];rfl
theorem kZ {P:Program}{t u:TypeId}{v c:Value}{x:Operand}(h:kT P t=4):iU P (do eqGuard .eql t x (.const c) (.iface u v) .nilIface;binOp .eql t (.iface u v) .nilIface)=some (.bool false):=by
  obtain⟨ms,hu⟩:=rv h;exact iV fun w=>uc rfl rfl (fun d=>by simp only[Op.equalIn,Sem.run_bind,run_underlying hu,Result.andThen_ok];rfl)
theorem ny {P:Program}{t:TypeId}{c:Value}{x:Operand}(h:kT P t=4):iU P (do eqGuard .eql t x (.const c) .nilIface .nilIface;binOp .eql t .nilIface .nilIface)=some (.bool true):=by
  obtain⟨ms,hu⟩:=rv h;exact iV fun w=>uc rfl (by cases x<;>rfl) (fun d=>by simp only[Op.equalIn,Sem.run_bind,run_underlying hu,Result.andThen_ok];rfl)
theorem Wk.renL {ro:Cf}{s s':St}(L:List Nat)(hK:∀j,j<ro.K→L[j]? = some j)(hn:L.length≤s'.nx)(hd:L.Nodup)(ht:s'.t.map (fun p=>bI s.t p.1)=s'.t.map fun p=>p.2.ren fun b=>L.getD b s.nx)
  (hh:s'.h.map (fun p=>ac s.h (L.getD p.1 s.nx))=s'.h.map fun p=>p.2.map fun k=>k.ren fun b=>L.getD b s.nx):Wk ro s s' :=
 Wk.ren L hK hn hd (fun p hp=>List.map_inj_left.1 ht p hp) (fun p hp k hk=>by
  have:=List.map_inj_left.1 hh p hp;rw[hk]at this;exact this)
theorem Wk.sub {ro:Cf}{s s':St}(hn:s.nx≤s'.nx)(ht:s'.t.map (fun p=>bI s.t p.1)=s'.t.map (·.2))(hh:s'.h.map (fun p=>ac s.h p.1)=s'.h.map (·.2)):Wk ro s s':=by
 intro n B w0 ρ al a w hpl H;refine⟨ρ,al,H.size,H.defers,?_,H.w.sub fun b k hk=>?_,fun b hb=>Nat.lt_of_lt_of_le (H.al b hb) hn⟩
 ·intro k;rcases tget_mem (t:=s'.t) (k:=k) rfl with h | h
  ·rw[h];trivial
  ·have h2:bI s.t k=bI s'.t k:=List.map_inj_left.1 ht _ h;rw[←h2];exact H.t k
 ·have:=List.map_inj_left.1 hh _ (vC hk);exact this
section
variable {P:Program}
abbrev ρ0:Nat→Loc:=fun _=>⟨0,0,0,0,false⟩
abbrev al0 (M:Mem):Al:=⟨fun _=>False,M⟩
theorem tN {w w':World}(h:Below w.heap.size w w'):Keeps (fun k=>k<w.heap.size) w w' :=
 ⟨h.os,h.tape,h.output,h.size,fun k hk=>h.block k hk,fun k o hk _=>by rw[h.block k (Array.getElem?_eq_some_iff.1 hk).1];exact hk⟩
def mkC {X:Type}(f:FuncId)(hen:∀(args:Array Value) (w:World),(callFunc f args).run P w=.ok (.enter f args) w)(dec:List AV→Option (Prop×X))(enc:X→List AV)(out:X→AV)(hpl:∀x,(out x).plain=true)
  (hdec:∀{aS0:List AV} {q:Prop} {x:X},dec aS0=some (q,x)→q→∀(ρ:Nat→Loc) (al:Al) (vals:List Value),AsRep ρ al aS0 vals→AsRep ρ al (enc x) vals)
  (calls:∀{aS0:List AV} {q:Prop} {x:X},dec aS0=some (q,x)→q→∀(M:Mem) (w:World) (vals:List Value),Gok M→(∀b o y,M b o=some y→w.cell? ⟨b,o,none⟩=some y)→AsRep ρ0 (al0 M) (enc x) vals →
   Calls P f vals.toArray w fun e w'=>(∃v,e=.returned v∧ARep ρ0 (al0 M) (out x) v)∧Below w.heap.size w w'):am P f where
 enter:=hen
 run:=fun _ h args=>fT dec (fun x=>.ret (out x)) h args
 pan:=fun _ h args=>gh dec (fun x=>.ret (out x)) h args
 mono:=by
  intro id h h' args R hs hr;unfold fT at hr ⊢;split at hr
  case h_2=>cases hr
  rename_i p u aS0 hm;rw[eH (fun z t hz=>AV.toD_mono hs 4 hz) hm];exact hr
 sound:=by
  intro id h args R hr hob B w0 ρ al w vals H hid hA;unfold fT at hr;split at hr
  case h_2=>cases hr
  rename_i p u aS0 hm;split at hr
  case h_2=>cases hr
  rename_i q x hd;simp only at hr;injection hr with hr;subst hr;obtain⟨hp,hq⟩:=hob;have hA1:=hdec hd hq ρ0 (al0 (dp al.M ρ h u w)) vals (kF H rfl hm hp (fun _ hc=>hc) hA);refine(calls hd hq (dp al.M ρ h u w) w vals (DM H u) (fun b o y hy=>rm H hy) hA1).mono ?_;rintro e w' ⟨⟨v,rfl,hv⟩,hb⟩;refine⟨v,ρ,al,rfl,.refl _ _,fun b hb=>.inl hb,hv.plain (hpl x),?_⟩;unfold vD;rw[if_pos (hpl x)];exact H.step (.refl _ _) (H.below.trans ((tN hb).mono fun k hk=>H.size k hk)) (fun b k hk hc=>hb.block _ (H.lt hk hc)) (fun b ⟨_,_,hb'⟩=>hb.block _ (H.memLt hb'))
 psound:=by
  intro id h args ob y E hr;unfold gh at hr;split at hr
  case h_2=>cases hr
  split at hr
  case h_2=>cases hr
  cases hr
def xj {α:Type}(f:FuncId)(hen:∀(args:Array Value) (w:World),(callFunc f args).run P w=.ok (.enter f args) w)(T:Ty α)(q:α→Prop)(out:α→AV)(hpl:∀x,(out x).plain=true)
  (calls:∀x,q x→∀(M:Mem) (w:World) (v:Value),(∀b o y,M b o=some y→w.cell? ⟨b,o,none⟩=some y)→ARep ρ0 (al0 M) (T.enc x) v→Calls P f #[v] w fun e w'=>(∃v,e=.returned v∧ARep ρ0 (al0 M) (out x) v)∧Below w.heap.size w w'):am P f :=
 mkC f hen (cE T q) (fun x=>[T.enc x]) out hpl
  (by
   intro aS0 p x h _ ρ al vals hA;unfold cE at h;split at h
   ·split at h
    ·rename_i hx;injection h with h;injection h with h1 h2;subst h2
     match vals,hA with
     |[v],⟨a,_⟩=>exact⟨T.ok hx a,trivial⟩
    ·cases h
   ·cases h)
  (by
   intro aS0 p x h hp M w vals hG hM hA;unfold cE at h;split at h
   ·split at h
    ·injection h with h;injection h with h1 h2;subst h1;subst h2
     match vals,hA with
     |[v],⟨a,_⟩=>exact calls _ hp M w v hM a
    ·cases h
   ·cases h)
def QA {α:Type}(f:FuncId)(fn:Func)(hen:∀(args:Array Value) (w:World),(callFunc f args).run P w=.ok (.enter f args) w)(T:Ty α)(q:α→Prop)(out:α→PO)(hn:1≤fn.ntmps)
  (body:∀x,q x→Jj P f fn ⟨0,ax 0 [T.enc x],[]⟩ (out x)):am P f :=
 UD f fn hen (cE T q) (fun x=>[T.enc x]) out
  (by
   intro aS0 p x h _;unfold cE at h;split at h
   ·split at h
    ·rename_i hx;injection h with h;injection h with h1 h2;subst h2;refine⟨hn,fun ρ al vals hA=>?_⟩
     match vals,hA with
     |[v],⟨a,_⟩=>exact⟨T.ok hx a,trivial⟩
    ·cases h
   ·cases h)
  (by
   intro aS0 p x h hp;unfold cE at h;split at h
   ·split at h
    ·injection h with h;injection h with h1 h2;subst h1;subst h2;exact body _ hp
    ·cases h
   ·cases h)
theorem Hd {f:FuncId}{fn:Func}{c:Code}(hf:P.funcs[f]? = some fn)(hb:fn.body=some c){xs:List AV}{vals:List Value}{w:World}(hG:Gok fun b o=>w.cell? ⟨b,o,none⟩)(hA:AsRep ρ0 (al0 fun b o=>w.cell? ⟨b,o,none⟩) xs vals)(hn:vals.length≤fn.ntmps){v:Value}
  (hsw:SW P ⟨none,0⟩ fn.ntmps c ⟨0,ax 0 xs,[]⟩ (pT P fn.results.toList (.ret (.s (.l (.v v)))))):Calls P f vals.toArray w fun e w'=>e=.returned v∧Below w.heap.size w w':=by
 refine eP (K:=0) (B:=⟨fun k=>k<w.heap.size,fun b o=>w.cell? ⟨b,o,none⟩,[],[],hG⟩) (ρ:=ρ0) (al:=al0 fun b o=>w.cell? ⟨b,o,none⟩) (s0:=⟨0,ax 0 xs,[]⟩) hf hb rfl rfl
  ⟨by simp;omega,Marks.nil _ _ _,gI hA _,⟨fun _ hk=>hk,.refl _ _,(fun b k hk=>by cases hk),(fun b k hk=>by cases hk),(fun b k hk=>by cases hk),(fun b c k l hk=>by cases hk),fun b o y hy=>hy,(fun b k hk=>by cases hk),fun b o y hy=>.inl hy,Mem.le_refl _,fun j l hj=>by simp at hj⟩,fun b hb=>hb.elim⟩ hsw ?_ ?_
 ·intro s ρ1 al1 a w1 hq1 H1;obtain⟨r0,q1,u1,r1,h1,h2,h3,h4⟩:=mJ hq1;injection h4 with h4;subst h4;obtain⟨v',g1,g2⟩:=jg (fn:=fn) H1 h1;have g3:=AV.toD_rep (U:=u1) (ρ2:=ρ1) (al2:=⟨al1.p,dp al1.M ρ1 s.h u1 w1⟩) H1.w rfl h2 h3 (fun _ hc=>hc) g2;obtain rfl:v'=v:=g3;refine⟨v',g1,rfl,?_⟩;have hk:=H1.w.below;exact⟨hk.os,hk.tape,hk.output,hk.size,hk.block⟩
 ·intro y s ρ1 al1 a w1 h1 H1;cases h1
theorem AP {M:Mem}{blk:Nat}:∀{off:Nat} {e:List Value},DsAt M blk off (e.map .v)→∀(j:Nat) (u:Value),e[j]? = some u→M blk (off+j)=some u
 |off,[],_,j,u,hu=>by simp at hu
 |off,x::e,h,j,u,hu=>by
  simp only[map_cons,DsAt]at h;obtain⟨⟨y,h1,_,h3⟩,h4⟩:=h;simp only[DRep]at h3;subst h3;cases j with
  |zero=>simp at hu;subst hu;exact h1
  |succ j =>
   have:=AP h4 j u (by simpa using hu)
   rwa [show off+(j+1)=off+1+j by omega]
theorem sy {M:Mem}{blk sz:Nat}:∀{off:Nat} {rows:List (List Value)},DssAt M blk off sz (rows.map fun e=>e.map .v)→∀(j:Nat) (u:Value),rows.flatten[j]? = some u→M blk (off+j)=some u
 |off,[],_,j,u,hu=>by simp at hu
 |off,e::r,h,j,u,hu=>by
  simp only[map_cons,DssAt]at h;obtain⟨h1,h2,h3⟩:=h;rw[List.length_map]at h1;rw[List.flatten_cons]at hu;by_cases hj:j<e.length
  ·rw[List.getElem?_append_left hj]at hu;exact AP h2 j u hu
  ·rw[List.getElem?_append_right (by omega)]at hu;have:=sy h3 (j-e.length) u hu
   rwa [show off+sz+(j-e.length)=off+j by omega]at this
theorem TO {M:Mem}{w:World}(hM:∀b o y,M b o=some y→w.cell? ⟨b,o,none⟩=some y){sz:Nat}{rows:List (List Value)}(hl:rows.flatten.length=rows.length*sz)(hsz:rows≠[]→rows.flatten≠[]){v:Value}(h:DRep M (.sd sz (rows.map fun e=>e.map .v)) v) :
  ∃A cap,v=.slice A rows.length cap∧SL w w.heap.size sz A rows.length rows.flatten:=by
 simp only[DRep]at h;obtain⟨A,cap,rfl,hc,hA⟩:=h;refine⟨A,cap,by rw[List.length_map],hl,fun hn=>?_⟩;have hne:rows≠[]:=by intro e;rw[e]at hn;simp at hn
 obtain⟨blk,off,rfl,hat⟩:=hA (by simpa using hne);have hg:=sy hat;refine⟨blk,off,rfl,?_,fun j u hu=>hM _ _ _ (hg j u hu)⟩;cases hf:rows.flatten with
 |nil=>exact(hsz hne hf).elim
 |cons x r =>
  have h0:=hM _ _ _ (hg 0 x (by rw[hf];rfl));obtain⟨q,h1,_⟩:=fO h0;exact(Array.getElem?_eq_some_iff.1 h1).1
end
def xA (M:Mem)(w:World):Prop:=∀b o y,M b o=some y→w.cell? ⟨b,o,none⟩=some y
def Mem.join (M M':Mem):Mem:=fun b o=>match M b o with
 |some y=>some y
 |none=>M' b o
theorem Mem.join_left {M M':Mem}:M.le (M.join M'):=fun b o y h=>by simp only[Mem.join,h]
theorem Mem.join_some {M M':Mem}{b o:Nat}{y:Value}(h:M.join M' b o=some y):M b o=some y∨M' b o=some y:=by
 unfold Mem.join at h;split at h
 ·rename_i e;exact .inl (e.trans h)
 ·exact .inr h
theorem Mem.join_right {M M':Mem}{w:World}(h:xA M w)(h':xA M' w):M'.le (M.join M'):=fun b o y e=>by
 unfold Mem.join;split
 ·rename_i z hz;have h1:=h b o z hz;rw[h' b o y e]at h1;injection h1 with h1;rw[h1]
 ·exact e
theorem WRep.addM {B:cX}{w0:World}{ρ:Nat→Loc}{al:Al}{h:ag}{w:World}(H:WRep B w0 ρ al h w){M:Mem}(hM:xA M w)(ho:∀b k,ac h b=some k→k.own=true→(ρ b).cap≠0→∀o,M (ρ b).blk o=none)
  (hN:∀b o y,M b o=some y→B.M b o=some y∨¬B.S b):WRep B w0 ρ ⟨al.p,al.M.join M⟩ h w:=by
 have E:Ext ρ ρ al ⟨al.p,al.M.join M⟩:=⟨fun _ _=>rfl,Mem.join_left,fun _ h=>h⟩;refine⟨H.base,H.below,fun b k hk=>(H.blk b k hk).ext E rfl,H.own,H.old,H.apart,fun b o y hy=>?_,fun b k hk hown hc o=>?_,fun b o y hy=>?_,Mem.le_trans H.memOld E.M,H.pins⟩
 ·rcases Mem.join_some hy with h1 | h1
  ·exact H.mem b o y h1
  ·exact hM b o y h1
 ·cases e:al.M.join M (ρ b).blk o with
  |none=>exact e
  |some y =>
   rcases Mem.join_some e with h1 | h1
   ·rw[H.memOwn b k hk hown hc o]at h1;cases h1
   ·rw[ho b k hk hown hc o]at h1;cases h1
 ·rcases Mem.join_some hy with h1 | h1
  ·exact H.memNew b o y h1
  ·exact hN b o y h1
def LV.pin (K:Nat):LV→Bool
 |.sl b _ _=>decide (b<K)
 |.p b _ _=>decide (b<K)
 |.bf _ bs cs=>bs.all (fun b=>decide (b<K))&&cs.all (fun b=>decide (b<K))
 |_=>true
def SV.pin (K:Nat):SV→Bool
 |.l x=>x.pin K
 |.agg xs=>xs.all (·.pin K)
def AV.pin (K:Nat):AV→Bool
 |.s x=>x.pin K
 |.tup xs=>xs.all (·.pin K)
 |.fn _ f c=>f.all (·.pin K)&&c.all (·.pin K)
section
variable {K:Nat}{ρ ρ':Nat→Loc}{al al':Al}(hM:al.M.le al'.M)(hp:∀j,j<K→al' j∧ρ' j=ρ j)
include hM hp
theorem LRep.pinned {x:LV}{y:Value}(h:LRep ρ al x y)(hx:x.pin K=true):LRep ρ' al' x y:=by
 cases x with
 |v x=>exact h
 |d x=>exact DRep.mono hM h
 |any=>trivial
 |sl b i n =>
  obtain⟨g1,g2⟩:=hp b (of_decide_eq_true hx);obtain⟨_,A,h1,h2,h3⟩:=h;exact⟨g1,A,by rw[g2];exact h1,by rw[g2];exact h2,by rw[g2];exact h3⟩
 |p b i j =>
  obtain⟨g1,g2⟩:=hp b (of_decide_eq_true hx);exact⟨g1,by rw[g2];exact h.2⟩
 |bf g bs cs =>
  simp only[LV.pin,and_eq_true,List.all_eq_true,decide_eq_true_eq]at hx;obtain⟨a,c,e⟩:=h;have h1:∀l:List Nat,(∀b∈l,b<K)→l.map (pAt ρ')=l.map (pAt ρ):=fun l hl=>List.map_congr_left fun b hb=>by unfold pAt;rw[(hp b (hl b hb)).2]
  exact⟨fun b hb=>(hp b (hx.1 b hb)).1,fun b hb=>(hp b (hx.2 b hb)).1,by rw[h1 bs hx.1,h1 cs hx.2];exact e⟩
theorem LsRep.pinned:∀{xs:List LV} {ys:List Value},LsRep ρ al xs ys→xs.all (·.pin K)=true→LsRep ρ' al' xs ys
 |[],[],_,_=>trivial
 |x::xs,y::ys,⟨a,b,c⟩,hf=>by
  simp only[all_cons,and_eq_true]at hf;exact⟨a,b.pinned hM hp hf.1,LsRep.pinned c hf.2⟩
 |[],_::_,h,_=>h.elim
 |_::_,[],h,_=>h.elim
theorem SRep.pinned {x:SV}{y:Value}(h:SRep ρ al x y)(hf:x.pin K=true):SRep ρ' al' x y:=by
 cases x with
 |l x=>exact LRep.pinned hM hp h hf
 |agg xs=>obtain⟨cs,e,h⟩:=h;exact⟨cs,e,h.pinned hM hp hf⟩
theorem SsRep.pinned:∀{xs:List SV} {ys:List Value},SsRep ρ al xs ys→xs.all (·.pin K)=true→SsRep ρ' al' xs ys
 |[],[],_,_=>trivial
 |x::xs,y::ys,⟨a,b⟩,hf=>by
  simp only[all_cons,and_eq_true]at hf;exact⟨a.pinned hM hp hf.1,SsRep.pinned b hf.2⟩
 |[],_::_,h,_=>h.elim
 |_::_,[],h,_=>h.elim
theorem ARep.pinned {x:AV}{y:Value}(h:ARep ρ al x y)(hf:x.pin K=true):ARep ρ' al' x y:=by
 cases x with
 |s x=>exact SRep.pinned hM hp h hf
 |tup xs=>obtain⟨cs,e,h⟩:=h;exact⟨cs,e,h.pinned hM hp hf⟩
 |fn g f c =>
  obtain⟨fs,cs,e,h,k⟩:=h;simp only[AV.pin,and_eq_true]at hf;exact⟨fs,cs,e,h.pinned hM hp hf.1,k.pinned hM hp hf.2⟩
theorem AsRep.pinned:∀{xs:List AV} {ys:List Value},AsRep ρ al xs ys→xs.all (·.pin K)=true→AsRep ρ' al' xs ys
 |[],[],_,_=>trivial
 |x::xs,y::ys,⟨a,b⟩,hf=>by
  simp only[all_cons,and_eq_true]at hf;exact⟨a.pinned hM hp hf.1,AsRep.pinned b hf.2⟩
 |[],_::_,h,_=>h.elim
 |_::_,[],h,_=>h.elim
end
theorem tget_memY {t:cK}{k:Nat}:bI t k=.s (.l .any)∨(k,bI t k)∈t:=by
 induction t with
 |nil=>exact .inl rfl
 |cons p r ih =>
  obtain⟨j,A⟩:=p;rw[bI];split
  ·rename_i e;subst e;exact .inr (by simp)
  ·rcases ih with h | h
   ·exact .inl h
   ·exact .inr (by simp[h])
theorem FZ {K:Nat}{t:cK}(h:t.all (fun p=>p.2.pin K)=true)(ρ:Nat→Loc)(al:Al)(ρ':Nat→Loc)(al':Al)(tm:Array Value)(hM:al.M.le al'.M)(hp:∀j,j<K→al' j∧ρ' j=ρ j)(hT:TRep ρ al t tm):TRep ρ' al' t tm:=by
 intro k;have h1:=hT k;rcases tget_memY (t:=t) (k:=k) with e | e
 ·rw[e];trivial
 ·exact h1.pinned hM hp (List.all_eq_true.1 h _ e)
def ρz:Nat→Loc:=fun _=>⟨0,0,0,0,true⟩
def alz (M:Mem):Al:=⟨fun _=>False,M⟩
theorem Ext.ofz {M:Mem}{ρ:Nat→Loc}{al:Al}(h:M.le al.M):Ext ρz ρ (alz M) al:=⟨fun _ h=>h.elim,h,fun _ h=>h.elim⟩
structure Kept (S:Nat→Prop)(w w':World):Prop where
 os:w'.os=w.os
 tape:w'.tape=w.tape
 output:w'.output=w.output
 size:w.heap.size≤w'.heap.size
 block:∀k,S k→w'.heap[k]? = w.heap[k]?
theorem Keeps.toKept {S:Nat→Prop}{w w':World}(h:Keeps S w w'):Kept S w w':=⟨h.os,h.tape,h.output,h.size,h.block⟩
theorem Kept.trans {S:Nat→Prop}{a b c:World}(h:Kept S a b)(k:Kept S b c):Kept S a c :=
 ⟨k.os.trans h.os,k.tape.trans h.tape,k.output.trans h.output,Nat.le_trans h.size k.size,fun i hi=>(k.block i hi).trans (h.block i hi)⟩
theorem Kept.mono {S S':Nat→Prop}{w w':World}(h:Kept S w w')(hS:∀k,S' k→S k):Kept S' w w':=⟨h.os,h.tape,h.output,h.size,fun k hk=>h.block k (hS k hk)⟩
structure Rounds (P:Program)(l:Nat)(L:List (List AV))(γ:Type) where
 N0:Nat
 M0:Mem
 J:γ→World→Prop
 dep:γ→Nat→Prop
 mt:γ→Nat→Prop
 pos:γ→Nat
 live:γ→Bool
 fit:∀g W,J g W→∀k,dep g k→k<W.heap.size
 steady:∀g A B,J g A→Kept (dep g) A B→J g B
 sub:∀g k,mt g k→dep g k
 round:∀g W M As vs,J g W→live g=true→L[pos g]? = some As→xA M W→(∀b o y,M b o=some y→¬mt g b∧(M0 b o=some y∨N0≤b))→AsRep ρz (alz M) As vs →
  YieldAt (Fw ⟨none,0⟩) 0 P l vs.toArray W fun e W' =>
  ∃g',J g' W'∧pos g'=pos g+1∧e=.returned (.bool (live g'))∧Keeps (fun k=>k<W.heap.size∧¬mt g k) W W' ∧
   (∀k,dep g' k→dep g k∨W.heap.size≤k∨∃o y,M k o=some y)∧(∀k,mt g' k→mt g k∨W.heap.size≤k)
def Rounds.no (P:Program):Rounds P 0 [] Unit where
 N0:=0
 M0:=fun _ _=>none
 J:=fun _ _=>True
 dep:=fun _ _=>False
 mt:=fun _ _=>False
 pos:=fun _=>0
 live:=fun _=>true
 fit:=fun _ _ _ _ h=>h.elim
 steady:=fun _ _ _ _ _=>trivial
 sub:=fun _ _ h=>h
 round:=fun _ _ _ _ _ _ _ h=>by cases h
structure It (P:Program)(f:FuncId) where
 enter:∀(args:Array Value) (w:World),(callFunc f args).run P w=.ok (.enter f args) w
 dec:List D→Option (Prop×List (List AV))
 sound:∀{ds:List D} {q:Prop} {L:List (List AV)},dec ds=some (q,L)→q→∀(M:Mem) (W:World) (caps:List Value),Gok M→xA M W→DsRep M ds caps →
  ∀(l:Nat) (γ:Type) (R:Rounds P l L γ) (g:γ),R.N0≤W.heap.size→R.J g W→R.pos g=0→R.live g=true→(∀b o y,M b o=some y→¬R.mt g b∧(R.M0 b o=some y∨R.N0≤b)) →
   Calls P f (Value.func (.yield l) #[] #[]::caps).toArray W fun e W'=>(∃v,e=.returned v)∧∃g',R.J g' W'∧(R.live g'=true→R.pos g'=L.length)
theorem Ma {P:Program}{ro:Option Nat}{K K' n:Nat}{c:Code}{s:St}{Q:Exit→St→Prop}(hK:K≤K')(hb:∀j,j<K'→∃k,ac s.h j=some k)(h:SW P ⟨ro,K'⟩ n c s Q):SW P ⟨ro,K⟩ n c s Q:=by
 intro B w0 ρ al a w hpl H;let B':cX:=⟨B.S,B.M,(List.range K').map ρ,B.ds,B.gok⟩
 have hpin:∀{j:Nat},j<K'→B'.pl[j]? = some (ρ j):=by
  intro j hj;simp only[B',getElem?_map,getElem?_range hj,Option.map_some]
 have H':RepS n B' w0 ρ al s a w:=by
  refine⟨H.size,H.defers,H.t,⟨H.w.base,H.w.below,H.w.blk,H.w.own,H.w.old,H.w.apart,H.w.mem,H.w.memOwn,H.w.memNew,H.w.memOld,fun j l hj=>?_⟩,H.al⟩
  have hjK:j<K':=by
   have:=(List.getElem?_eq_some_iff.1 hj).1;simpa[B'] using this
  rw[hpin hjK]at hj;injection hj with hj;obtain⟨k,hk⟩:=hb j hjK;exact⟨(H.w.blk j k hk).here,hj⟩
 refine wpIn_mono (h B' w0 ρ al a w (by simp[B']) H') ?_;rintro e a' w' ⟨ρ',al',s',R,q⟩;refine⟨ρ',al',s',⟨R.size,R.defers,R.t,⟨R.w.base,R.w.below,R.w.blk,R.w.own,R.w.old,R.w.apart,R.w.mem,R.w.memOwn,R.w.memNew,R.w.memOld,fun j l hj=>?_⟩,R.al⟩,q⟩
 have hjK:j<K:=by
  have:=(List.getElem?_eq_some_iff.1 hj).1;rw[hpl]at this;exact this
 obtain⟨h1,h2⟩:=R.w.pins j _ (hpin (by omega));obtain⟨_,h3⟩:=H.w.pins j l hj;exact⟨h1,h2.trans h3⟩
section
variable {B:cX}{w0:World}{ρ:Nat→Loc}{al:Al}{h:ag}{W:World}
theorem WRep.turn (H:WRep B w0 ρ al h W){l:Nat}{o o':Obj}(hl:W.heap[l]? = some o)(ho:o.isCells=false)(hd:rr o=false)(hS:¬B.S l):WRep B w0 ρ al h (W.putObj l o'):=by
 have hne:∀k,(∃q:Obj,W.heap[k]? = some q∧q.isCells=true)→k≠l:=by
  rintro k ⟨q,h1,h2⟩ rfl;rw[hl]at h1;injection h1 with h1;subst h1;rw[ho]at h2;cases h2
 refine H.step (.refl _ _) (H.below.trans ⟨rfl,rfl,rfl,by simp[World.putObj],fun k hk=>World.putObj_heap_other (by rintro rfl;exact hS hk),fun k q hk hq=>?_⟩) (fun b k hk hc=>World.putObj_heap_other ?_) (fun b ⟨o,y,hy⟩=>World.putObj_heap_other (hne b (fO (H.mem b o y hy))))
 ·rw[World.putObj_heap_other]
  ·exact hk
  ·rintro rfl;rw[hl]at hk;injection hk with hk;subst hk;rw[hd]at hq;cases hq
 ·cases hob:k.own with
  |true =>
   have hcap:(ρ b).cap≠0:=by
    rcases hc with hc | hc
    ·have:=(H.blk b k hk).cap;intro h0;exact hc (List.eq_nil_of_length_eq_zero (by omega))
    ·exact hc.2
   obtain⟨cur,fr,h1,_⟩:=((H.blk b k hk).room hob).2.2 hcap;exact hne _ ⟨_,h1,rfl⟩
  |false =>
   have h1:=H.old b k hk hob (hc.resolve_right (by rw[hob];simp));rintro e;exact hS (e▸h1)
theorem WRep.rekeep (H:WRep B w0 ρ al h W)(S':Nat→Prop)(ds:List Deferred)(hS:∀k,S' k→k<W.heap.size)(hown:∀b k,ac h b=some k→k.own=true)(hno:∀b k,ac h b=some k→(ρ b).cap≠0→¬S' (ρ b).blk):WRep ⟨S',al.M,B.pl,ds,H.gok⟩ W ρ al h W :=
 ⟨hS,.refl _ _,H.blk,fun b k hk _=>hno b k hk,fun b k hk ho=>(by rw[hown b k hk]at ho;cases ho),H.apart,H.mem,H.memOwn,fun b o y hy=>.inl hy,Mem.le_refl _,H.pins⟩
theorem WRep.rekept (H:WRep B w0 ρ al h W){S':Nat→Prop}{ds:List Deferred}{ρ':Nat→Loc}{al':Al}{h':ag}{W':World}{g:Gok al.M}(H':WRep ⟨S',al.M,B.pl,ds,g⟩ W ρ' al' h' W')(hSS:∀k,B.S k→S' k)(hown:∀b k,ac h' b=some k→k.own=true):WRep B w0 ρ' al' h' W' :=
 ⟨H.base,H.below.trans (H'.below.mono hSS),H'.blk,fun b k hk ho hc hB=>H'.own b k hk ho hc (hSS _ hB),fun b k hk ho=>(by rw[hown b k hk]at ho;cases ho),H'.apart,H'.mem,H'.memOwn,
  fun b o y hy=>(H'.memNew b o y hy).elim (H.memNew b o y) fun h=>.inr fun hB=>h (hSS _ hB),Mem.le_trans H.memOld H'.memOld,H'.pins⟩
end
def je:List (Tmp×AV)→cK→cK
 |[],t=>t
 |(p,v)::r,t=>je r ((p,v)::t)
theorem ym {ρ:Nat→Loc}{al:Al}:∀{ps:List Tmp} {As:List AV} {vs:List Value} {t:cK} {tm:Array Value},(∀p∈ps,p<tm.size)→AsRep ρ al As vs→TRep ρ al t tm→TRep ρ al (je (ps.zip As) t) ((ps.zip vs).foldl (fun tm x=>tm.setIfInBounds x.1 x.2) tm)
 |[],_,_,_,_,_,_,h=>h
 |_::_,[],[],_,_,_,_,h=>h
 |_::_,[],_::_,_,_,_,h,_=>h.elim
 |_::_,_::_,[],_,_,_,h,_=>h.elim
 |p::ps,A::As,v::vs,t,tm,hl,⟨ha,hr⟩,h=>by
  simp only[List.zip_cons_cons,je,List.foldl_cons];exact ym (fun x hx=>by rw[Array.size_setIfInBounds];exact hl x (by simp[hx])) hr (TRep.put h (hl p (by simp)) ha)
theorem Jf {ps:Array Tmp}{vs:List Value}{tm:Array Value}:(ps.zip vs.toArray).foldl (fun(tm:Array Value) (x:Tmp×Value)=>tm.setIfInBounds x.1 x.2) tm=(ps.toList.zip vs).foldl (fun tm x=>tm.setIfInBounds x.1 x.2) tm:=by
 rw[←Array.foldl_toList,Array.toList_zip]
def lq (h:ag)(ρ:Nat→Loc)(k:Nat):Prop:=∃b kk,ac h b=some kk∧(ρ b).cap≠0∧(ρ b).blk=k
section
variable {P:Program}{l:Nat}{L:List (List AV)}{γ:Type}
structure YRep (R:Rounds P l L γ)(n:Nat)(B:cX)(w0:World)(g0:γ)(ρ:Nat→Loc)(al:Al)(s:St)(a:Act)(w:World)(g:γ):Prop where
 r:RepS n B w0 ρ al s a w
 own:∀b k,ac s.h b=some k→k.own=true
 J:R.J g w
 N:R.N0≤w0.heap.size
 dep:∀b k,ac s.h b=some k→(ρ b).cap≠0→¬R.dep g (ρ b).blk
 ownN:∀b k,ac s.h b=some k→(ρ b).cap≠0→R.N0≤(ρ b).blk
 mem:∀b o y,al.M b o=some y→¬R.mt g b
 memN:∀b o y,al.M b o=some y→R.M0 b o=some y∨R.N0≤b
 S:∀k,B.S k→¬R.mt g k
 mks:∀rs:List Nat,a.defers=rs.map mark++B.ds→∀r∈rs,¬R.dep g r
 fol:∀k,R.dep g k→R.dep g0 k∨w0.heap.size≤k∨∃o y,al.M k o=some y
 folm:∀k,R.mt g k→R.mt g0 k∨w0.heap.size≤k
theorem Kw {r r':Nat}(h:mark r=mark r'):r=r':=by
 unfold mark at h;injection h with h;injection h
theorem vR {rs rs':List Nat}{ds:List Deferred}(h:rs.map mark++ds=rs'.map mark++ds):rs=rs' :=
 (List.map_inj_right fun _ _=>Kw).1 (List.append_cancel_right h)
theorem Marks.trans {N:Nat}{d0 ds ds':List Deferred}{w w':World}(h:Marks N d0 ds w)(k:Marks w.heap.size ds ds' w')(hN:N≤w.heap.size)(hk:KeepsD w w'):Marks N d0 ds' w':=by
 obtain⟨rs,n1,rfl,k1⟩:=h;obtain⟨rs',n2,rfl,k2⟩:=k;refine⟨rs'++rs,?_,by simp,?_⟩
 ·rw[List.nodup_append];refine⟨n2,n1,?_⟩;rintro r hr r' hr' rfl;have h1:=(k2 r hr).1;have h2:=(Array.getElem?_eq_some_iff.1 (k1 r hr').2).1;omega
 ·intro r hr;rcases List.mem_append.1 hr with hr | hr
  ·exact⟨Nat.le_trans hN (k2 r hr).1,(k2 r hr).2⟩
  ·exact⟨(k1 r hr).1,hk.same r _ (k1 r hr).2 rfl⟩
def dnS (h:ag)(ρ:Nat→Loc)(w:World)(k:Nat):Prop:=k<w.heap.size∧¬lq h ρ k
variable {R:Rounds P l L γ}{n:Nat}{B:cX}{w0:World}{g0 g:γ}{ρ ρ':Nat→Loc}{al al':Al}{s s':St}{a a':Act}{w w':World}
theorem YRep.down (H:YRep R n B w0 g0 ρ al s a w g):RepS n ⟨dnS s.h ρ w,al.M,B.pl,a.defers,H.r.w.gok⟩ w ρ al s a w :=
 ⟨H.r.size,Marks.nil _ _ _,H.r.t,H.r.w.rekeep _ _ (fun k hk=>hk.1) H.own (fun b k hk hc hS=>hS.2 ⟨b,k,hk,hc,rfl⟩),H.r.al⟩
theorem YRep.up (H:YRep R n B w0 g0 ρ al s a w g)(H':RepS n ⟨dnS s.h ρ w,al.M,B.pl,a.defers,H.r.w.gok⟩ w ρ' al' s' a' w')(hown:∀b k,ac s'.h b=some k→k.own=true):YRep R n B w0 g0 ρ' al' s' a' w' g:=by
 have hw0:w0.heap.size≤w.heap.size:=H.r.w.below.size;have hdep:∀k,R.dep g k→dnS s.h ρ w k:=fun k hk=>⟨R.fit g w H.J k hk,by rintro⟨b,kk,h1,h2,rfl⟩;exact H.dep b kk h1 h2 hk⟩;have hSS:∀k,B.S k→dnS s.h ρ w k:=fun k hk=>⟨H.r.w.size k hk,by rintro⟨b,kk,h1,h2,rfl⟩;exact H.r.w.own b kk h1 (H.own b kk h1) h2 hk⟩
 have hnew:∀k,¬dnS s.h ρ w k→R.N0≤k:=by
  intro k hk;by_cases h1:k<w.heap.size
  ·by_cases h2:lq s.h ρ k
   ·obtain⟨b,kk,h3,h4,rfl⟩:=h2;exact H.ownN b kk h3 h4
   ·exact(hk ⟨h1,h2⟩).elim
  ·have:=H.N;omega
 refine⟨⟨H'.size,H.r.defers.trans H'.defers hw0 H'.w.below.kept,H'.t,H.r.w.rekept H'.w hSS hown,H'.al⟩,hown,R.steady g w w' H.J ((H'.w.below.mono hdep).toKept),H.N,fun b k hk hc hd=>H'.w.own b k hk (hown b k hk) hc (hdep _ hd),fun b k hk hc=>hnew _ (H'.w.own b k hk (hown b k hk) hc),fun b o y hy hm=>?_,fun b o y hy=>?_,H.S,fun rs hrs r hr hd=>?_,fun k hk=>(H.fol k hk).imp_right fun h=>h.imp_right fun⟨o,y,hy⟩=>⟨o,y,H'.w.memOld k o y hy⟩,H.folm⟩
 ·rcases H'.w.memNew b o y hy with h1 | h1
  ·exact H.mem b o y h1 hm
  ·exact h1 (hdep b (R.sub g b hm))
 ·rcases H'.w.memNew b o y hy with h1 | h1
  ·exact H.memN b o y h1
  ·exact .inr (hnew b h1)
 ·obtain⟨rs',h1,h2,h3⟩:=H'.defers;obtain⟨rs0,k1,k2,k3⟩:=H.r.defers;have e1:a'.defers=rs'.map mark++a.defers:=h2;obtain rfl:=vR (rs:=rs) (rs':=rs'++rs0) (by rw[←hrs,e1,k2,List.map_append,List.append_assoc]);rcases List.mem_append.1 hr with hr | hr
  ·have h6:=(h3 _ hr).1;have h7:=R.fit g w H.J _ hd;omega
  ·exact H.mks rs0 k2 r hr hd
def SWy (P:Program)(l:Nat)(L:List (List AV))(ro:Cf)(n:Nat)(c:Code)(s:St)(y:Nat×Bool)(Q:Exit→St→Nat×Bool→Prop):Prop :=
 ∀(γ:Type) (R:Rounds P l L γ) B w0 g0 ρ al a w g,B.pl.length=ro.K→YRep R n B w0 g0 ρ al s a w g→R.pos g=y.1→R.live g=y.2 →
  c.wpIn (Fw ro) 0 P (fun e a' w'=>∃ρ' al' s' g',YRep R n B w0 g0 ρ' al' s' a' w' g'∧Q e s' (R.pos g',R.live g')) a w
def oW:ag→Bool
 |[]=>true
 |(_,some k)::r=>k.own&&oW r
 |(_,none)::r=>oW r
theorem mE:∀{h:ag},oW h=true→∀b k,ac h b=some k→k.own=true
 |[],_,b,k,hk=>by cases hk
 |(c,some x)::r,h,b,k,hk=>by
  simp only[oW,and_eq_true]at h;rw[ac]at hk;split at hk
  ·injection hk with e;subst e;exact h.1
  ·exact mE h.2 b k hk
 |(c,none)::r,h,b,k,hk=>by
  rw[ac]at hk;split at hk
  ·cases hk
  ·exact mE (by simpa only[oW] using h) b k hk
theorem tU {E h:ag}(hE:oW E=true)(hh:∀b k,ac h b=some k→k.own=true):∀b k,ac (E++h) b=some k→k.own=true:=by
 induction E with
 |nil=>exact hh
 |cons p r ih =>
  obtain⟨c,x⟩:=p;intro b k hk;rw[cons_append,ac]at hk;cases x with
  |none =>
   split at hk
   ·cases hk
   ·exact ih (by simpa only[oW] using hE) b k hk
  |some x =>
   simp only[oW,and_eq_true]at hE;split at hk
   ·injection hk with e;subst e;exact hE.1
   ·exact ih hE.2 b k hk
variable {ro:Cf}{y:Nat×Bool}
theorem SWy.mono {c:Code}{Q Q':Exit→St→Nat×Bool→Prop}(h:SWy P l L ro n c s y Q)(hq:∀e s y,Q e s y→Q' e s y):SWy P l L ro n c s y Q' :=
 fun γ R B w0 g0 ρ al a w g hpl H h1 h2=>wpIn_mono (h γ R B w0 g0 ρ al a w g hpl H h1 h2) fun _ _ _ ⟨ρ',al',s',g',H',q⟩=>⟨ρ',al',s',g',H',hq _ _ _ q⟩
theorem IS {c:Code}{Q:Exit→St→Nat×Bool→Prop}(h:SW P ro n c s fun e s'=>(∀b k,ac s'.h b=some k→k.own=true)∧Q e s' y):SWy P l L ro n c s y Q:=by
 intro γ R B w0 g0 ρ al a w g hpl H h1 h2;refine wpIn_mono (h ⟨dnS s.h ρ w,al.M,B.pl,a.defers,H.r.w.gok⟩ w ρ al a w hpl H.down) ?_;rintro e a' w' ⟨ρ',al',s',H',ho,q⟩;refine⟨ρ',al',s',g,H.up H' ho,?_⟩;rw[h1,h2];exact q
theorem IQ {c:Code}{Q:Exit→St→Prop}(hown:∀b k,ac s.h b=some k→k.own=true)(h:SWy P 0 [] ro n c s (0,true) fun e s' _=>Q e s'):SW P ro n c s Q:=by
 intro B w0 ρ al a w hpl H;refine wpIn_mono (h Unit (Rounds.no P) B w0 () ρ al a w () hpl ⟨H,hown,trivial,Nat.zero_le _,fun _ _ _ _ h=>h,fun _ _ _ _=>Nat.zero_le _,fun _ _ _ _ h=>h,fun b _ _ _=>.inr (Nat.zero_le b),fun _ _ h=>h,fun _ _ _ _ h=>h,fun _ h=>h.elim,fun _ h=>h.elim⟩ rfl rfl) ?_;rintro e a' w' ⟨ρ',al',s',g',H',q⟩;exact⟨ρ',al',s',H'.r,q⟩
theorem YRep.wk (H:YRep R n B w0 g0 ρ al s a w g)(hpl:B.pl.length=ro.K)(h:Wk ro s s')(hown:∀b k,ac s'.h b=some k→k.own=true):∃ρ' al',YRep R n B w0 g0 ρ' al' s' a w g:=by
 obtain⟨ρ',al',H'⟩:=h n ⟨dnS s.h ρ w,al.M,B.pl,a.defers,H.r.w.gok⟩ w ρ al a w hpl H.down;exact⟨ρ',al',H.up H' hown⟩
theorem SWy.wk {c:Code}{Q:Exit→St→Nat×Bool→Prop}(h:SWy P l L ro n c s' y Q)(hw:Wk ro s s')(hown:∀b k,ac s'.h b=some k→k.own=true):SWy P l L ro n c s y Q:=fun γ R B w0 g0 ρ al a w g hpl H h1 h2=>by
 obtain⟨ρ',al',H'⟩:=H.wk hpl hw hown;exact h γ R B w0 g0 ρ' al' a w g hpl H' h1 h2
def yOp (l:Nat)(o:Op)(ev:Operand→AV):Option (List AV) :=
 match o with
 |.call c=>match c.callee with
  |.value f=>match ev f with
   |.s (.l (.v (.func (.yield l') ⟨[]⟩ ⟨[]⟩)))=>if l'=l then some (c.args.toList.map ev) else none
   |_=>none
  |_=>none
 |_=>none
theorem Pd {o:Oper}{ev:Operand→AV}{As:List AV}(hT:∀x,ARep ρ al (ev x) (a.eval x))(h:yOp l o.op ev=some As) :
  (∀c,o.op≠.defer c)∧∃vs:List Value,AsRep ρ al As vs∧∀w:World,(execOp a.eval o).run P w=(Instr.yield l vs.toArray).run P w:=by
 unfold yOp at h;split at h
 case h_2=>cases h
 rename_i c ho;refine⟨fun d hd=>(by rw[ho]at hd;cases hd),?_⟩;obtain⟨callee,args,ts⟩:=c;simp only at h;split at h
 case h_2=>cases h
 rename_i f;split at h
 case h_2=>cases h
 rename_i l' e;split at h
 case isFalse=>cases h
 rename_i hl;subst hl;injection h with h;subst h;have hf:=hT f;rw[e]at hf;have hf':a.eval f=.func (.yield l') #[] #[]:=hf;refine⟨args.toList.map a.eval,AsRep.map hT _,fun w=>?_⟩;simp only[execOp,ho,resolve,Deferred.ofValue,hf',invoke,Sem.run_bind,Sem.run_pure,Result.andThen_ok];congr 2;rw[←Array.toList_inj];simp
theorem YRep.yield_wp (H:YRep R n B w0 g0 ρ al s a w g){o:Oper}{As:List AV}{K:Act→World→Prop}{Q:Exit→Act→World→Prop}(hy:yOp l o.op (evT s.t)=some As)(hl:R.live g=true)(hL:L[R.pos g]? = some As)(hp:As.all (·.pin 0)=true)(hd:bC n o.dst=true)
  (hK:∀g' a' w',R.pos g'=R.pos g+1→YRep R n B w0 g0 ρ al ⟨s.nx,putT s.t o.dst (.s (.l (.v (.bool (R.live g'))))),s.h⟩ a' w' g'→K a' w'):o.wpIn (Fw ro) 0 P a w K Q:=by
 obtain⟨h1,vs,h2,h3⟩:=Pd (P:=P) (gJ H.r.t) hy;have hvz:AsRep ρz (alz al.M) As vs:=AsRep.pinned (K:=0) (ρ':=ρz) (al':=alz al.M) (Mem.le_refl al.M) (fun j hj=>(Nat.not_lt_zero _ hj).elim) h2 hp;obtain⟨fn,tmps,assign,body,hy1,hy2⟩:=R.round g w al.M As vs H.J hl hL H.r.w.mem (fun b o y hy=>⟨H.mem b o y hy,H.memN b o y hy⟩) hvz;refine⟨fun _ _=>trivial,?_⟩;rw[Oper.semAt_eq _ _ _ h1,h3 w,hy1];refine⟨fun h=>by simp[Fw,Fence.wide]at h,RoundIn.mono (show RoundIn (Fw ro) 0 P l fn tmps assign body w _ from hy2) ?_⟩;rintro e w' ⟨g',J',hpos,rfl,hk,hdep,hmt⟩;have hw0:w0.heap.size≤w.heap.size:=H.r.w.below.size;refine hK g' _ w' hpos ⟨⟨gD.trans H.r.size,?_,H.r.t.putT H.r.size hd (show ARep ρ al (.s (.l (.v (.bool (R.live g'))))) _ from rfl),H.r.w.step (.refl _ _) (H.r.w.below.trans (hk.mono fun k hS=>⟨H.r.w.size k hS,H.S k hS⟩)) (fun b k hb hc=>hk.block _ ⟨H.r.w.lt hb hc,fun hm=>?_⟩) (fun b ⟨o,y,hy⟩=>hk.block _ ⟨H.r.w.memLt hy,H.mem b o y hy⟩),H.r.al⟩,H.own,J',H.N,fun b k hb hc hdd=>?_,H.ownN,fun b o y hy hm=>?_,H.memN,fun k hS hm=>?_,fun rs hrs r hr hdd=>?_,fun k hdd=>?_,fun k hm=>?_⟩
 ·rw[cT];exact H.r.defers.keep hk.kept
 ·refine H.dep b k hb ?_ (R.sub g _ hm);rcases hc with hc | hc
  ·have:=(H.r.w.blk b k hb).cap;intro h0;exact hc (List.eq_nil_of_length_eq_zero (by omega))
  ·exact hc.2
 ·rcases hdep _ hdd with h4 | h4 | ⟨o,y,h4⟩
  ·exact H.dep b k hb hc h4
  ·have:=H.r.w.lt hb (.inr ⟨H.own b k hb,hc⟩);omega
  ·rw[H.r.w.memOwn b k hb (H.own b k hb) hc o]at h4;cases h4
 ·rcases hmt _ hm with h4 | h4
  ·exact H.mem b o y hy h4
  ·have:=H.r.w.memLt hy;omega
 ·rcases hmt _ hm with h4 | h4
  ·exact H.S k hS h4
  ·have:=H.r.w.size k hS;omega
 ·rw[cT]at hrs;obtain⟨rs0,k1,k2,k3⟩:=H.r.defers;obtain rfl:=vR (hrs.symm.trans k2);rcases hdep _ hdd with h4 | h4 | ⟨o,y,h4⟩
  ·exact H.mks rs hrs r hr h4
  ·have:=(Array.getElem?_eq_some_iff.1 (k3 _ hr).2).1;omega
  ·obtain⟨q,h5,h6⟩:=fO (H.r.w.mem _ _ _ h4);rw[(k3 _ hr).2]at h5;injection h5 with h5;subst h5;cases h6
 ·rcases hdep _ hdd with h4 | h4 | h4
  ·exact H.fol k h4
  ·right;left;omega
  ·exact .inr (.inr h4)
 ·rcases hmt _ hm with h4 | h4
  ·exact H.folm k h4
  ·right;omega
end
def D3 (o:Oper):Option (Tmp×Tmp) :=
 match o.op,o.dst,o.guard with
 |.assign (.tmp s),some d,none=>some (d,s)
 |.move (.tmp s),some d,none=>some (d,s)
 |_,_,_=>none
def zy:List Oper→Option (List (Tmp×Tmp))
 |[]=>some []
 |o::r=>match D3 o,zy r with
  |some m,some l=>some (m::l)
  |_,_=>none
def pG:Code→Option (List (Tmp×Tmp))
 |.region _ ops false=>zy ops.toList
 |.seq a b=>match pG a,pG b with
  |some x,some y=>some (x++y)
  |_,_=>none
 |_=>none
def tQ (l:List (Tmp×Tmp))(tm:Array Value):Array Value:=l.foldl (fun tm x=>tm.setIfInBounds x.1 (tm.getD x.2 undef)) tm
theorem D4 {P:Program}{o:Oper}{d s:Tmp}(h:D3 o=some (d,s))(a:Act)(W:World):o.dst=some d∧o.guard=none∧(∀c,o.op≠.defer c)∧(execOp a.eval o).run P W=.ok (.value (a.tmps.getD s undef)) W:=by
 unfold D3 at h;split at h
 ·rename_i s' d' h1 h2 h3;injection h with h;injection h with e1 e2;subst e1;subst e2;exact⟨h2,h3,fun c e=>(by rw[h1]at e;cases e),(by simp only[execOp,h1,Act.eval];rfl)⟩
 ·rename_i s' d' h1 h2 h3;injection h with h;injection h with e1 e2;subst e1;subst e2;exact⟨h2,h3,fun c e=>(by rw[h1]at e;cases e),(by simp only[execOp,h1,Act.eval];rfl)⟩
 ·cases h
theorem yf {P:Program}{ro:Cf}{ops:Array Oper}{Q:Exit→Act→World→Prop}:∀(r:List Oper) (k:Nat) {l:List (Tmp×Tmp)} {a:Act} {W:World},(∀j,r[j]? = ops[k+j]?)→zy r=some l→Q .normal { a with tmps:=tQ l a.tmps } W →
  wpOpsIn (Fw ro) 0 P ops Q (List.range' k r.length) a W
 |[],k,l,a,W,_,h,hq=>by
  injection h with h;subst h;exact hq
 |o::r,k,l,a,W,hr,h,hq=>by
  simp only[zy]at h;split at h
  case h_2=>cases h
  rename_i m l' h1 h2;injection h with h;subst h;obtain⟨d,s⟩:=m;obtain⟨g1,g2,g3,g4⟩:=D4 (P:=P) h1 a W;have h0:ops[k]? = some o:=by have:=hr 0;simpa using this.symm
  rw[length_cons,List.range'_succ];simp only[wpOpsIn,h0];have hw:Region.wanted o (yielded ops a.tmps)=true:=by unfold Region.wanted;rw[g2]
  rw[if_pos hw];refine⟨fun _ _=>trivial,?_⟩;rw[Oper.semAt_eq _ _ _ g3,g4,Oper.uponIn_value,g1];exact yf r (k+1) (fun j=>by have:=hr (j+1);rw[show k+1+j=k+(j+1) by omega];simpa using this) h2 hq
theorem vT {P:Program}{ro:Cf}:∀{c:Code} {l:List (Tmp×Tmp)},pG c=some l→∀(a:Act) (W:World) (Q:Exit→Act→World→Prop),Q .normal { a with tmps:=tQ l a.tmps } W→c.wpIn (Fw ro) 0 P Q a W
 |.region id ops false,l,h,a,W,Q,hq=>by
  refine wpIn_region ?_;rw[List.range_eq_range'];have:=yf (P:=P) (ro:=ro) (Q:=Q) (ops:=ops) ops.toList 0 (a:=a) (W:=W) (fun j=>by simp) h hq;simpa using this
 |.seq x y,l,h,a,W,Q,hq=>by
  simp only[pG]at h;split at h
  case h_2=>cases h
  rename_i l1 l2 h1 h2;injection h with h;subst h;refine wpIn_seq (vT h1 a W _ ?_);show y.wpIn _ _ _ _ _ _;refine vT h2 _ W _ ?_;unfold tQ at hq ⊢;rw[List.foldl_append]at hq;exact hq
section
variable {P:Program}{ctx:Ctx P}{l:Nat}{L:List (List AV)}{ro:Cf}{n:Nat}{s:St}{Q:Exit→St→Nat×Bool→Prop}
def si (P:Program)(ctx:Ctx P)(l:Nat)(L:List (List AV))(n:Nat)(d:Option Tmp)(op:Op)(s:St)(y:Nat×Bool)(Q:Exit→St→Nat×Bool→Prop)(K:St→Nat×Bool→Prop):Prop :=
 match qS P ctx s.nx op (evT s.t) s.h with
 |some (ob,x,E)=>ob∧oW E=true∧Q (.panic [{ v:=x,recovered:=false }]) ⟨s.nx+16,s.t,E++s.h⟩ y
 |none=>match aOp P ctx s.nx op (evT s.t) s.h with
  |some R=>bC n d=true∧R.ob∧oW R.E=true∧K ⟨s.nx+16,putT s.t d R.r,R.E++s.h⟩ y
  |none=>match yOp l op (evT s.t) with
   |some As=>bC n d=true∧y.2=true∧L[y.1]? = some As∧As.all (·.pin 0)=true ∧
     K ⟨s.nx,putT s.t d (.s (.l (.v (.bool true)))),s.h⟩ (y.1+1,true)∧K ⟨s.nx,putT s.t d (.s (.l (.v (.bool false)))),s.h⟩ (y.1+1,false)
   |none=>False
theorem CQ {γ:Type}{R:Rounds P l L γ}{B:cX}{w0:World}{g0 g:γ}{ρ:Nat→Loc}{al:Al}{a:Act}{w:World}{y:Nat×Bool}(H:YRep R n B w0 g0 ρ al s a w g)(h1:R.pos g=y.1)(h2:R.live g=y.2){o:Oper}{K:St→Nat×Bool→Prop}{K':Act→World→Prop}{Q':Exit→Act→World→Prop}
  (h:si P ctx l L n o.dst o.op s y Q K)
  (hK:∀s' y' ρ' al' a' w' g',YRep R n B w0 g0 ρ' al' s' a' w' g'→R.pos g'=y'.1→R.live g'=y'.2→K s' y'→K' a' w')
  (hQ:∀ch s' ρ' al' w',YRep R n B w0 g0 ρ' al' s' a w' g→Q (.panic ch) s' y→Q' (.panic ch) a w'):o.wpIn (Fw ro) 0 P a w K' Q':=by
 unfold si at h;split at h
 ·rename_i ob x E hp;exact uu H.down hp h.1 fun ρ' al' w' H'=>hQ _ _ ρ' al' w' (H.up H' (tU h.2.1 H.own)) h.2.2
 ·split at h
  ·rename_i Rs hR;exact y4 H.down hR h.2.1 h.1 fun ρ' al' a' w' H'=>hK _ _ ρ' al' a' w' g (H.up H' (tU h.2.2.1 H.own)) h1 h2 h.2.2.2
  ·split at h
   case h_2=>exact h.elim
   rename_i As hy;obtain⟨hd,hl,hL,hp,ht,hf⟩:=h;refine H.yield_wp hy (h2.trans hl) (by rw[h1];exact hL) hp hd fun g' a' w' hpos H'=>?_;cases e:R.live g' with
   |true =>
    rw[e]at H';exact hK _ _ ρ al a' w' g' H' (by rw[hpos,h1]) e ht
   |false =>
    rw[e]at H';exact hK _ _ ρ al a' w' g' H' (by rw[hpos,h1]) e hf
noncomputable def be (P:Program) (ctx:Ctx P) (l:Nat) (L:List (List AV)) (ro:Cf) (n:Nat):Nat→List Itm→St→Nat×Bool→(Exit→St→Nat×Bool→Prop)→Prop
 |0,_,_,_,_=>False
 |_+1,[],s,y,Q=>Q .normal s y
 |f+1,.b _::r,s,y,Q=>be P ctx l L ro n f r s y Q
 |f+1,.o _ []::r,s,y,Q=>be P ctx l L ro n f r s y Q
 |f+1,.o all (o::t)::r,s,y,Q=>match o.guard with
  |none=>si P ctx l L n o.dst o.op s y Q fun s' y'=>be P ctx l L ro n f (.o all t::r) s' y' Q
  |some (j,want)=>match gAt all s.t j with
   |.s (.l (.v (.bool q)))=>bC n o.dst=true ∧
     (q=want→si P ctx l L n o.dst o.op ⟨s.nx,iu all s.t j want,s.h⟩ y Q fun s' y'=>be P ctx l L ro n f (.o all t::r) s' y' Q) ∧
     (q = !want→be P ctx l L ro n f (.o all t::r) ⟨s.nx,putT (iu all s.t j (!want)) o.dst (.s (.l (.v (.tuple #[])))),s.h⟩ y Q)
   |.s (.l (.v (.tuple ⟨[]⟩)))=>bC n o.dst=true∧be P ctx l L ro n f (.o all t::r) ⟨s.nx,putT s.t o.dst (.s (.l (.v (.tuple #[])))),s.h⟩ y Q
   |_=>False
 |f+1,.c x::r,s,y,Q=>match x with
  |.skip=>be P ctx l L ro n f r s y Q
  |.label _=>be P ctx l L ro n f r s y Q
  |.ret=>Q .ret s y
  |.exit id=>match fh id r with
   |some r'=>be P ctx l L ro n f r' s y Q
   |none=>Q (.exit id) s y
  |.seq x z=>be P ctx l L ro n f (.c x::.c z::r) s y Q
  |.cond c x z=>match evT s.t c with
   |.s (.l (.v (.bool q)))=>(q=true→be P ctx l L ro n f (.c x::r) s y Q)∧(q=false→be P ctx l L ro n f (.c z::r) s y Q)
   |_=>False
  |.block id x=>be P ctx l L ro n f (.c x::.b id::r) s y Q
  |.region _ ops false=>be P ctx l L ro n f (.o ops.toList ops.toList::r) s y Q
  |x=>SWy P l L ro n x s y (fun e s' y'=>match e with
   |.normal=>be P ctx l L ro n f r s' y' Q
   |.exit id=>match fh id r with
    |some r'=>be P ctx l L ro n f r' s' y' Q
    |none=>Q (.exit id) s' y'
   |e=>Q e s' y')
variable {γ:Type}(R:Rounds P l L γ)
def GoodY (P:Program){l:Nat}{L:List (List AV)}{γ:Type}(R:Rounds P l L γ)(ro:Cf)(n:Nat)(B:cX)(w0:World)(g0:γ)(Q:Exit→St→Nat×Bool→Prop)(b:Frame)(k:List Item)(cs:List Frame)(r:List Itm)(a:Act)(w:World):Prop :=
 ∃e a' w',(∃ρ al s g,YRep R n B w0 g0 ρ al s a' w' g∧Q e s (R.pos g,R.live g))∧ArrivesIn (Machine.fenced P (Fw ro)) P (lone (b.atR a (r.map Itm.item++k)) cs w) b k cs e a' w'
theorem GoodY.step {R:Rounds P l L γ}{B:cX}{w0:World}{g0:γ}{b:Frame}{k:List Item}{cs:List Frame}{r r':List Itm}{a a':Act}{w w':World}(hs:StepsIn (Machine.fenced P (Fw ro)) P (lone (b.atR a (r.map Itm.item++k)) cs w) (lone (b.atR a' (r'.map Itm.item++k)) cs w'))(h:GoodY P R ro n B w0 g0 Q b k cs r' a' w'):GoodY P R ro n B w0 g0 Q b k cs r a w:=by
 obtain⟨e,a2,w2,h1,h2⟩:=h;exact⟨e,a2,w2,h1,.of_steps hs h2⟩
def UN (P:Program){l:Nat}{L:List (List AV)}{γ:Type}(R:Rounds P l L γ)(ro:Cf)(n:Nat)(B:cX)(w0:World)(g0:γ)(Q:Exit→St→Nat×Bool→Prop)(b:Frame)(k:List Item)(cs:List Frame)(r:List Itm):Exit→Act→World→Prop
 |.normal,a,w=>GoodY P R ro n B w0 g0 Q b k cs r a w
 |.panic ch,a,w=>∃ρ al s g,YRep R n B w0 g0 ρ al s a w g∧Q (.panic ch) s (R.pos g,R.live g)
 |_,_,_=>False
theorem yK {R:Rounds P l L γ}{B:cX}{w0:World}{g0:γ}{b:Frame}{k:List Item}{cs:List Frame}(hpl:B.pl.length=ro.K)(hb:b.roundOf=ro.ro):∀(f:Nat),
  (∀(r:List Itm) (s:St) (y:Nat×Bool) (ρ:Nat→Loc) (al:Al) (a:Act) (w:World) (g:γ),noO r=true→YRep R n B w0 g0 ρ al s a w g→R.pos g=y.1→R.live g=y.2→be P ctx l L ro n f r s y Q→GoodY P R ro n B w0 g0 Q b k cs r a w) ∧
  (∀(all t:List Oper) (r:List Itm) (s:St) (y:Nat×Bool) (ρ:Nat→Loc) (al:Al) (a:Act) (w:World) (g:γ),noO r=true→YRep R n B w0 g0 ρ al s a w g→R.pos g=y.1→R.live g=y.2→be P ctx l L ro n f (.o all t::r) s y Q→wpListIn (Fw ro) 0 P all.toArray (UN P R ro n B w0 g0 Q b k cs r) t a w)
 |0=>⟨fun r s y ρ al a w g _ _ _ _ h=>by simp only[be]at h,fun all t r s y ρ al a w g _ _ _ _ h=>by simp only[be]at h⟩
 |f+1=>by
  obtain⟨ih1,ih2⟩:=yK (R:=R) (B:=B) (w0:=w0) (g0:=g0) (b:=b) (k:=k) (cs:=cs) hpl hb f;refine⟨fun r s y ρ al a w g hr H p1 p2 h=>?_,fun all t r s y ρ al a w g hr H p1 p2 h=>?_⟩
  ·have pe:(R.pos g,R.live g)=y:=by rw[p1,p2]
   cases r with
   |nil=>exact⟨.normal,a,w,⟨ρ,al,s,g,H,by rw[pe];simpa only[be] using h⟩,.refl _⟩
   |cons x r =>
    cases x with
    |o _ _=>cases hr
    |b id=>exact GoodY.step (eI stepR_inBlock) (ih1 r s y ρ al a w g hr H p1 p2 (by simpa only[be] using h))
    |c x =>
     have viaSW:SWy P l L ro n x s y (fun e s' y'=>match e with
       |.normal=>be P ctx l L ro n f r s' y' Q
       |.exit id=>match fh id r with
        |some r'=>be P ctx l L ro n f r' s' y' Q
        |none=>Q (.exit id) s' y'
       |e=>Q e s' y')→GoodY P R ro n B w0 g0 Q b k cs (.c x::r) a w:=by
      intro hsw;obtain⟨e,a',w',⟨ρ',al',s',g',H',hq⟩,harr⟩:=hsw γ R B w0 g0 ρ al a w g hpl H p1 p2 b (r.map Itm.item++k) cs hb trivial (uA _ _);cases e with
      |normal=>exact GoodY.step harr (ih1 r s' _ ρ' al' a' w' g' hr H' rfl rfl hq)
      |exit id =>
       have hx:=exitTo_pop (id:=id) k (r:=r) hr;simp only at hq;cases hp:fh id r with
       |some r' =>
        rw[hp]at hq hx;exact GoodY.step (harr.1 _ hx) (ih1 r' s' _ ρ' al' a' w' g' (kA hr hp) H' rfl rfl hq)
       |none =>
        rw[hp]at hq hx;exact⟨.exit id,a',w',⟨ρ',al',s',g',H',hq⟩,fun k' hk=>harr.1 k' (hx.trans hk),fun hro hk=>harr.2 hro (hx.trans hk)⟩
      |goto l=>exact⟨.goto l,a',w',⟨ρ',al',s',g',H',hq⟩,fun k' hk=>harr.1 k' ((gotoIn_pop k hr).trans hk),fun hro hk=>harr.2 hro ((gotoIn_pop k hr).trans hk)⟩
      |ret=>exact⟨.ret,a',w',⟨ρ',al',s',g',H',hq⟩,harr⟩
      |panic ch=>exact⟨.panic ch,a',w',⟨ρ',al',s',g',H',hq⟩,harr⟩
      |outgrown=>exact⟨.outgrown,a',w',⟨ρ',al',s',g',H',hq⟩,harr⟩
     cases x with
     |skip=>exact GoodY.step (eI stepR_skip) (ih1 r s y ρ al a w g hr H p1 p2 (by simpa only[be] using h))
     |label l=>exact GoodY.step (eI stepR_label) (ih1 r s y ρ al a w g hr H p1 p2 (by simpa only[be] using h))
     |ret=>exact⟨.ret,a,w,⟨ρ,al,s,g,H,by rw[pe];simpa only[be] using h⟩,fun hn=>⟨_,eI (stepR_ret hn)⟩,fun _=>⟨_,.refl _⟩⟩
     |exit id =>
      have hx:=exitTo_pop (id:=id) k (r:=r) hr;simp only[be]at h;cases hp:fh id r with
      |some r' =>
       rw[hp]at h hx;exact GoodY.step (eI (stepR_exit hx)) (ih1 r' s y ρ al a w g (kA hr hp) H p1 p2 h)
      |none =>
       rw[hp]at h hx;exact⟨.exit id,a,w,⟨ρ,al,s,g,H,by rw[pe];exact h⟩,fun k' hk=>eI (stepR_exit (hx.trans hk)),fun _ hk=>⟨_,hx.trans hk,.refl _⟩⟩
     |seq x z=>exact GoodY.step (r':=.c x::.c z::r) (eI stepR_seq) (ih1 _ s y ρ al a w g hr H p1 p2 (by simpa only[be] using h))
     |block id x=>exact GoodY.step (r':=.c x::.b id::r) (eI stepR_block) (ih1 _ s y ρ al a w g hr H p1 p2 (by simpa only[be] using h))
     |cond c x z =>
      simp only[be]at h;split at h
      case h_2=>exact h.elim
      rename_i q hq;have hv:=gJ H.r.t c;rw[hq]at hv;have hv':a.eval c=.bool q:=hv;cases q with
      |true=>exact GoodY.step (r':=.c x::r) (eI (stepR_cond hv')) (ih1 _ s y ρ al a w g hr H p1 p2 (h.1 rfl))
      |false=>exact GoodY.step (r':=.c z::r) (eI (stepR_cond hv')) (ih1 _ s y ρ al a w g hr H p1 p2 (h.2 rfl))
     |region id ops draw =>
      cases draw with
      |true=>exact viaSW (by simpa only[be] using h)
      |false =>
       have hl:=ih2 ops.toList ops.toList r s y ρ al a w g hr H p1 p2 (by simpa only[be] using h);rw[Array.toArray_toList]at hl;obtain⟨e,a',w',hq,harr⟩:=wpIn_region_list (id:=id) hl b (r.map Itm.item++k) cs hb trivial (uA _ _);cases e with
       |normal=>exact GoodY.step (r:=.c (.region id ops false)::r) harr hq
       |panic ch=>exact⟨.panic ch,a',w',hq,harr⟩
       |exit _=>exact hq.elim
       |goto _=>exact hq.elim
       |ret=>exact hq.elim
       |outgrown=>exact hq.elim
     |loop x=>exact viaSW (by simpa only[be] using h)
     |rangeFunc _ _ _ _=>exact viaSW (by simpa only[be] using h)
     |scope x=>exact viaSW (by simpa only[be] using h)
     |goto l=>exact viaSW (by simpa only[be] using h)
     |refuse y=>exact viaSW (by simpa only[be] using h)
  ·have pe:(R.pos g,R.live g)=y:=by rw[p1,p2]
   cases t with
   |nil=>exact ih1 r s y ρ al a w g hr H p1 p2 (by simpa only[be] using h)
   |cons o t =>
    unfold wpListIn;simp only[be]at h;split at h
    ·rename_i hg;rw[if_pos (by simp[Region.wanted,hg])];exact CQ H p1 p2 h (fun s' y' ρ' al' a' w' g' H' q1 q2 hk=>ih2 all t r s' y' ρ' al' a' w' g' hr H' q1 q2 hk) (fun ch s' ρ' al' w' H' hq=>⟨ρ',al',s',g,H',by rw[pe];exact hq⟩)
    ·rename_i j want hg;split at h
     case h_3=>exact h.elim
     case h_2 =>
      rename_i hq;rw[if_neg (by simp[Region.wanted,hg,vz H.r.t hq])];refine⟨fun _ _=>trivial,ih2 all t r ⟨s.nx,putT s.t o.dst (.s (.l (.v (.tuple #[])))),s.h⟩ y ρ al _ w g hr ?_ p1 p2 h.2⟩;exact⟨⟨gD.trans H.r.size,(by rw[cT];exact H.r.defers),H.r.t.putT H.r.size h.1 mQ,H.r.w,H.r.al⟩,H.own,H.J,H.N,H.dep,H.ownN,H.mem,H.memN,H.S,(by rw[cT];exact H.mks),H.fol,H.folm⟩
     rename_i q hq;obtain⟨h1,h2,h3⟩:=h;have hy:=sC H.r.t H.r.size hq;have hset:=Ct H.r.t hq;by_cases hqw:q=want
     ·rw[if_pos (by simp[Region.wanted,hg,hy,hqw])];have h4:=h2 hqw;rw[hqw]at hset;exact CQ (s:=⟨s.nx,iu all s.t j want,s.h⟩) ⟨⟨H.r.size,H.r.defers,hset,H.r.w,H.r.al⟩,H.own,H.J,H.N,H.dep,H.ownN,H.mem,H.memN,H.S,H.mks,H.fol,H.folm⟩ p1 p2 h4 (fun s' y' ρ' al' a' w' g' H' q1 q2 hk=>ih2 all t r s' y' ρ' al' a' w' g' hr H' q1 q2 hk) (fun ch s' ρ' al' w' H' hq=>⟨ρ',al',s',g,H',by rw[pe];exact hq⟩)
     ·rw[if_neg (by simp[Region.wanted,hg,hy,hqw])];have hqn:q = !want:=by cases q<;>cases want<;>simp_all
      rw[hqn]at hset;refine⟨fun _ _=>trivial,ih2 all t r ⟨s.nx,putT (iu all s.t j (!want)) o.dst (.s (.l (.v (.tuple #[])))),s.h⟩ y ρ al _ w g hr ?_ p1 p2 (h3 hqn)⟩;exact⟨⟨gD.trans H.r.size,(by rw[cT];exact H.r.defers),hset.putT H.r.size h1 mQ,H.r.w,H.r.al⟩,H.own,H.J,H.N,H.dep,H.ownN,H.mem,H.memN,H.S,(by rw[cT];exact H.mks),H.fol,H.folm⟩
theorem jw {c:Code}{y:Nat×Bool}(f:Nat)(h:be P ctx l L ro n f [.c c] s y Q):SWy P l L ro n c s y Q:=fun γ R B w0 g0 ρ al a w g hpl H h1 h2 b k cs hb _ _=>by
 obtain⟨e,a',w',k1,k2⟩:=(yK (R:=R) hpl hb f).1 [.c c] s y ρ al a w g rfl H h1 h2 h;exact⟨e,a',w',k1,k2⟩
end
section
variable {P:Program}{ctx:Ctx P}{l:Nat}{L:List (List AV)}{ro:Cf}{n:Nat}{s:St}{y:Nat×Bool}{Q:Exit→St→Nat×Bool→Prop}{K:St→Nat×Bool→Prop}{f:Nat}{r:List Itm}
def yY (L:List (List AV))(n:Nat)(d:Option Tmp)(s:St)(y:Nat×Bool)(K:St→Nat×Bool→Prop):Option (List AV)→Prop
 |some As=>bC n d=true∧y.2=true∧L[y.1]? = some As∧As.all (·.pin 0)=true ∧
   K ⟨s.nx,putT s.t d (.s (.l (.v (.bool true)))),s.h⟩ (y.1+1,true)∧K ⟨s.nx,putT s.t d (.s (.l (.v (.bool false)))),s.h⟩ (y.1+1,false)
 |none=>False
def yO (n:Nat)(d:Option Tmp)(s:St)(y:Nat×Bool)(K:St→Nat×Bool→Prop)(rest:Prop):Option Res→Prop
 |some R=>bC n d=true∧R.ob∧oW R.E=true∧K ⟨s.nx+16,putT s.t d R.r,R.E++s.h⟩ y
 |none=>rest
def yP (s:St)(y:Nat×Bool)(Q:Exit→St→Nat×Bool→Prop)(rest:Prop):Option (Prop×Value×ag)→Prop
 |some (ob,x,E)=>ob∧oW E=true∧Q (.panic [{ v:=x,recovered:=false }]) ⟨s.nx+16,s.t,E++s.h⟩ y
 |none=>rest
theorem MF {d:Option Tmp}{op:Op}:si P ctx l L n d op s y Q K=yP s y Q (yO n d s y K (yY L n d s y K (yOp l op (evT s.t))) (aOp P ctx s.nx op (evT s.t) s.h)) (qS P ctx s.nx op (evT s.t) s.h):=by
 simp only[si,yP,yO,yY]
theorem Pe {rest:Prop}:yP s y Q rest none=rest:=rfl
theorem Pf {rest:Prop}{ob:Prop}{x:Value}{E:ag}:yP s y Q rest (some (ob,x,E))=(ob∧oW E=true∧Q (.panic [{ v:=x,recovered:=false }]) ⟨s.nx+16,s.t,E++s.h⟩ y):=rfl
theorem Pa {d:Option Tmp}{rest:Prop}:yO n d s y K rest none=rest:=rfl
theorem Pb {d:Option Tmp}{rest:Prop}{ob:Prop}{x:AV}{E:ag}:yO n d s y K rest (some ⟨ob,x,E⟩)=(bC n d=true∧ob∧oW E=true∧K ⟨s.nx+16,putT s.t d x,E++s.h⟩ y):=rfl
theorem Pj {d:Option Tmp}{As:List AV}:yY L n d s y K (some As)=(bC n d=true∧y.2=true∧L[y.1]? = some As∧As.all (·.pin 0)=true∧K ⟨s.nx,putT s.t d (.s (.l (.v (.bool true)))),s.h⟩ (y.1+1,true)∧K ⟨s.nx,putT s.t d (.s (.l (.v (.bool false)))),s.h⟩ (y.1+1,false)):=rfl
def yGd (P:Program)(ctx:Ctx P)(l:Nat)(L:List (List AV))(ro:Cf)(n f:Nat)(all:List Oper)(o:Oper)(t:List Oper)(r:List Itm)(s:St)(y:Nat×Bool)(Q:Exit→St→Nat×Bool→Prop)(j:Nat)(want:Bool):AV→Prop
 |.s (.l (.v (.bool q)))=>bC n o.dst=true ∧
   (q=want→si P ctx l L n o.dst o.op ⟨s.nx,iu all s.t j want,s.h⟩ y Q fun s' y'=>be P ctx l L ro n f (.o all t::r) s' y' Q) ∧
   (q = !want→be P ctx l L ro n f (.o all t::r) ⟨s.nx,putT (iu all s.t j (!want)) o.dst (.s (.l (.v (.tuple #[])))),s.h⟩ y Q)
 |.s (.l (.v (.tuple ⟨[]⟩)))=>bC n o.dst=true∧be P ctx l L ro n f (.o all t::r) ⟨s.nx,putT s.t o.dst (.s (.l (.v (.tuple #[])))),s.h⟩ y Q
 |_=>False
def yBr (P:Program)(ctx:Ctx P)(l:Nat)(L:List (List AV))(ro:Cf)(n f:Nat)(x z:Code)(r:List Itm)(s:St)(y:Nat×Bool)(Q:Exit→St→Nat×Bool→Prop):AV→Prop
 |.s (.l (.v (.bool q)))=>(q=true→be P ctx l L ro n f (.c x::r) s y Q)∧(q=false→be P ctx l L ro n f (.c z::r) s y Q)
 |_=>False
def yEx (P:Program)(ctx:Ctx P)(l:Nat)(L:List (List AV))(ro:Cf)(n f id:Nat)(s:St)(y:Nat×Bool)(Q:Exit→St→Nat×Bool→Prop):Option (List Itm)→Prop
 |some r'=>be P ctx l L ro n f r' s y Q
 |none=>Q (.exit id) s y
def uL (P:Program)(ctx:Ctx P)(l:Nat)(L:List (List AV))(ro:Cf)(n f:Nat)(r:List Itm)(Q:Exit→St→Nat×Bool→Prop):Exit→St→Nat×Bool→Prop
 |.normal,s,y=>be P ctx l L ro n f r s y Q
 |.exit id,s,y=>yEx P ctx l L ro n f id s y Q (fh id r)
 |e,s,y=>Q e s y
theorem MD:be P ctx l L ro n (f+1) [] s y Q=Q .normal s y:=by simp only[be]
theorem Sp {id:Nat}:be P ctx l L ro n (f+1) (.b id::r) s y Q=be P ctx l L ro n f r s y Q:=by simp only[be]
theorem Pg {all:List Oper}:be P ctx l L ro n (f+1) (.o all []::r) s y Q=be P ctx l L ro n f r s y Q:=by simp only[be]
theorem Ph {all t:List Oper}{d:Option Tmp}{op:Op}{ty:TypeId}{p:String}{af:Array Edge}:be P ctx l L ro n (f+1) (.o all (⟨d,op,ty,p,af,none⟩::t)::r) s y Q=si P ctx l L n d op s y Q fun s' y'=>be P ctx l L ro n f (.o all t::r) s' y' Q:=by
 simp only[be]
theorem Pi {all t:List Oper}{d:Option Tmp}{op:Op}{ty:TypeId}{p:String}{af:Array Edge}{j:Nat}{want:Bool}:be P ctx l L ro n (f+1) (.o all (⟨d,op,ty,p,af,some (j,want)⟩::t)::r) s y Q=yGd P ctx l L ro n f all ⟨d,op,ty,p,af,some (j,want)⟩ t r s y Q j want (gAt all s.t j):=by
 simp only[be,yGd]
theorem Jd:be P ctx l L ro n (f+1) (.c .skip::r) s y Q=be P ctx l L ro n f r s y Q:=by simp only[be]
theorem CP:be P ctx l L ro n (f+1) (.c .ret::r) s y Q=Q .ret s y:=by simp only[be]
theorem ME {x z:Code}:be P ctx l L ro n (f+1) (.c (.seq x z)::r) s y Q=be P ctx l L ro n f (.c x::.c z::r) s y Q:=by simp only[be]
theorem E8 {id:Nat}{x:Code}:be P ctx l L ro n (f+1) (.c (.block id x)::r) s y Q=be P ctx l L ro n f (.c x::.b id::r) s y Q:=by simp only[be]
theorem Ja {c:Operand}{x z:Code}:be P ctx l L ro n (f+1) (.c (.cond c x z)::r) s y Q=yBr P ctx l L ro n f x z r s y Q (evT s.t c):=by
 simp only[be,yBr]
theorem CO {id:Nat}{t:List Oper}:be P ctx l L ro n (f+1) (.c (.region id t.toArray false)::r) s y Q=be P ctx l L ro n f (.o t t::r) s y Q:=by simp only[be,List.toList_toArray]
theorem Jb {id:Nat}:be P ctx l L ro n (f+1) (.c (.exit id)::r) s y Q=yEx P ctx l L ro n f id s y Q (fh id r):=by
 simp only[be,yEx]
theorem Jc {x:Code}:be P ctx l L ro n (f+1) (.c (.loop x)::r) s y Q=SWy P l L ro n (.loop x) s y (uL P ctx l L ro n f r Q):=by
 simp only[be];congr 1;funext e s' y';cases e<;>simp only[uL,yEx]
theorem xe:uL P ctx l L ro n f r Q .normal s y=be P ctx l L ro n f r s y Q:=rfl
theorem Aq {id:Nat}:uL P ctx l L ro n f r Q (.exit id) s y=yEx P ctx l L ro n f id s y Q (fh id r):=rfl
theorem C8:uL P ctx l L ro n f r Q .ret s y=Q .ret s y:=rfl
theorem MC {id:Nat}{r':List Itm}:yEx P ctx l L ro n f id s y Q (some r')=be P ctx l L ro n f r' s y Q:=rfl
theorem MB {id:Nat}:yEx P ctx l L ro n f id s y Q none=Q (.exit id) s y:=rfl
theorem MA {x z:Code}:yBr P ctx l L ro n f x z r s y Q (.s (.l (.v (.bool true))))=be P ctx l L ro n f (.c x::r) s y Q:=by simp[yBr]
theorem I9 {x z:Code}:yBr P ctx l L ro n f x z r s y Q (.s (.l (.v (.bool false))))=be P ctx l L ro n f (.c z::r) s y Q:=by simp[yBr]
theorem O7 {x z:Code}{u v:Int}:yBr P ctx l L ro n f x z r s y Q (.s (.l (.v (.bool (u==v)))))=((u=v→be P ctx l L ro n f (.c x::r) s y Q)∧(¬u=v→be P ctx l L ro n f (.c z::r) s y Q)):=by simp[yBr]
section
variable {all t:List Oper}{o:Oper}{j:Nat}{want:Bool}
theorem O9 (h:bC n o.dst=true):yGd P ctx l L ro n f all o t r s y Q j want (.s (.l (.v (.bool want))))=si P ctx l L n o.dst o.op ⟨s.nx,iu all s.t j want,s.h⟩ y Q fun s' y'=>be P ctx l L ro n f (.o all t::r) s' y' Q:=by
 cases want<;>simp[yGd,h]
theorem So (h:bC n o.dst=true):yGd P ctx l L ro n f all o t r s y Q j true (.s (.l (.v (.bool false))))=be P ctx l L ro n f (.o all t::r) ⟨s.nx,putT (iu all s.t j false) o.dst (.s (.l (.v (.tuple #[])))),s.h⟩ y Q:=by simp[yGd,h]
theorem O8 {u v:Int}(h:bC n o.dst=true):yGd P ctx l L ro n f all o t r s y Q j want (.s (.l (.v (.bool (u==v)))))=((u=v→yGd P ctx l L ro n f all o t r s y Q j want (.s (.l (.v (.bool true)))))∧(¬u=v→yGd P ctx l L ro n f all o t r s y Q j want (.s (.l (.v (.bool false)))))):=by
 by_cases hp:u=v
 ·have e:(u==v)=true:=by simp[hp]
  rw[e];simp[hp]
 ·have e:(u==v)=false:=by simp[hp]
  rw[e];simp[hp]
end
def zN (ro:Cf){ι:Type}(inv:ι→Prop)(I:ι→St)(Y:ι→Nat×Bool)(m:ι→Nat)(i:ι)(Q:Exit→St→Nat×Bool→Prop):Exit→St→Nat×Bool→Prop
 |.normal,s,y=>∃j,inv j∧m j<m i∧y=Y j∧Wk ro s (I j)
 |e,s,y=>Q e s y
theorem xx {ι:Type}{inv:ι→Prop}{I:ι→St}{Y:ι→Nat×Bool}{m:ι→Nat}{i:ι}:zN ro inv I Y m i Q .normal s y = ∃j,inv j∧m j<m i∧y=Y j∧Wk ro s (I j):=rfl
theorem Ca {ι:Type}{inv:ι→Prop}{I:ι→St}{Y:ι→Nat×Bool}{m:ι→Nat}{i:ι}{id:Nat}:zN ro inv I Y m i Q (.exit id) s y=Q (.exit id) s y:=rfl
theorem EF {ι:Type}{inv:ι→Prop}{I:ι→St}{Y:ι→Nat×Bool}{m:ι→Nat}{i:ι}:zN ro inv I Y m i Q .ret s y=Q .ret s y:=rfl
theorem r8 {ι:Type}{c:Code}(inv:ι→Prop)(I:ι→St)(Y:ι→Nat×Bool)(m:ι→Nat)(i0:ι)(h0:inv i0)(hy0:y=Y i0)(hown:∀i,inv i→∀b k,ac (I i).h b=some k→k.own=true)(start:Wk ro s (I i0))(round:∀i,inv i→SWy P l L ro n c (I i) (Y i) (zN ro inv I Y m i Q)):SWy P l L ro n (.loop c) s y Q:=by
 intro γ R B w0 g0 ρ al a w g hpl H p1 p2
 classical
 let Jn:Act→World→Prop:=fun a w=>∃i ρ al g,inv i∧YRep R n B w0 g0 ρ al (I i) a w g∧(R.pos g,R.live g)=Y i
 let μ:Act→World→Nat:=fun a w=>if hq:∃k,∃i ρ al g,m i=k∧inv i∧YRep R n B w0 g0 ρ al (I i) a w g∧(R.pos g,R.live g)=Y i then(bR hq).choose else 0
 obtain⟨ρ0,al0,H0⟩:=H.wk hpl start (hown i0 h0);refine wpIn_loop Jn μ ⟨i0,ρ0,al0,g,h0,H0,by rw[p1,p2,←hy0]⟩ ?_;rintro a1 w1 ⟨i1,ρ1',al1',g1,hi1,H1,e1⟩;have hq:∃k,∃i ρ al g,m i=k∧inv i∧YRep R n B w0 g0 ρ al (I i) a1 w1 g∧(R.pos g,R.live g)=Y i:=⟨_,i1,ρ1',al1',g1,rfl,hi1,H1,e1⟩;have hμ:μ a1 w1=(bR hq).choose:=dif_pos hq;obtain⟨i,ρi,ali,gi,hmi,hii,Hi,ei⟩:=(bR hq).choose_spec.1;refine wpIn_mono (round i hii γ R B w0 g0 ρi ali a1 w1 gi hpl Hi (congrArg Prod.fst ei) (congrArg Prod.snd ei)) ?_;rintro e a2 w2 ⟨ρ2,al2,s2,g2,H2,q⟩;cases e with
 |normal =>
  obtain⟨j,hij,hj,hyj,hwk⟩:=q;obtain⟨ρ3,al3,H3⟩:=H2.wk hpl hwk (hown j hij);refine⟨⟨j,ρ3,al3,g2,hij,H3,hyj⟩,?_⟩;have hq2:∃k,∃i ρ al g,m i=k∧inv i∧YRep R n B w0 g0 ρ al (I i) a2 w2 g∧(R.pos g,R.live g)=Y i:=⟨_,j,ρ3,al3,g2,rfl,hij,H3,hyj⟩;have h1:μ a2 w2=(bR hq2).choose:=dif_pos hq2;have h2:(bR hq2).choose≤m j:=(bR hq2).choose_spec.2 _ ⟨j,ρ3,al3,g2,rfl,hij,H3,hyj⟩;rw[h1,hμ,←hmi];omega
 |_=>exact⟨ρ2,al2,s2,g2,H2,q⟩
end
end Go.Proofs.YtnhbidpdadkcjaaGreatDoor
