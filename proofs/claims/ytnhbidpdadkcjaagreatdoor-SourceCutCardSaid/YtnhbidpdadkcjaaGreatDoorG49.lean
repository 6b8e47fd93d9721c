import Derived.Test.YtnhbidpdadkcjaaGreatDoorG48
open Go.RowKit
set_option linter.unusedVariables false
set_option linter.unusedSimpArgs false
set_option maxRecDepth 100000
set_option maxHeartbeats 8000000
namespace Go.Proofs.YtnhbidpdadkcjaaGreatDoor
open Tryz
def nW {α:Type}(p:α→Bool):List α→Nat→Int
 |[],_ => -1
 |x::r,i=>if p x=true then i else nW p r (i+1)
theorem Bc {α:Type}(p:α→Bool):∀(l:List α) (i:Nat),(0≤nW p l i)↔l.any p=true
 |[],i=>by unfold nW;simp
 |x::r,i=>by
  unfold nW;rw[List.any_cons];split
  ·rename_i h;rw[h];simp
  ·rename_i h;have h:p x=false:=by simpa using h
   rw[h,Bool.false_or];exact Bc p r (i+1)
theorem G4 {α:Type}{p:α→Bool}{l:List α}{i:Nat}{x:α}(h:l[i]? = some x):nW p (l.drop i) i=if p x=true then(i:Int) else nW p (l.drop (i+1)) (i+1):=by
 have hi:=(List.getElem?_eq_some_iff.1 h);obtain⟨h1,h2⟩:=hi;rw[List.drop_eq_getElem_cons h1,h2];rfl
abbrev FV:Ty (List Int):=tSl 1 (gE .i64)
theorem NR (l:List Int)(v:Int)(h:l.length≤1000000):Sw f166 0 ⟨0,ax 0 [FV.enc l,iv v],[]⟩ (oQ f166 (.ret (iv (nW (fun x=>decide (v=x)) l 0)))):=by
 refine aq [] rfl ?_;simp only[go_sem];refine bF (ι:=Nat) (fun i=>i≤l.length∧nW (fun x=>decide (v=x)) (l.drop i) i=nW (fun x=>decide (v=x)) l 0) (fun i=>⟨0,[(0,FV.enc l),(1,iv v),(7,iv l.length),(8,iv i)],[]⟩) (fun i=>l.length-i) 0 ⟨Nat.zero_le _,rfl⟩ (wR []) ?_;rintro i ⟨hi,ht⟩;refine aw [] ?_;by_cases hlt:i<l.length
 ·have hltI:(i:Int)<l.length:=by omega
  obtain⟨r,hr⟩:∃r,l[i]? = some r:=⟨_,List.getElem?_eq_getElem hlt⟩;have ei:=wI i;rw[G4 hr]at ht;by_cases hp:v=r
  ·rw[if_pos (decide_eq_true hp)]at ht;simp only[go_sem,hlt,hltI,hr,eq_true hp,←ht]
  ·rw[if_neg (by rw[decide_eq_false hp];simp)]at ht;simp only[go_sem,hlt,hltI,hr,hp,ei];exact⟨i+1,⟨hlt,ht⟩,by omega,wR []⟩
 ·obtain rfl:i=l.length:=by omega
  have hI:¬(l.length:Int)<l.length:=by omega
  have e:nW (fun x=>decide (v=x)) l 0 = -1:=by rw[←ht,List.drop_length];rfl
  simp only[go_sem,hI,e]
abbrev S8:am prog 166 :=
 mz2 func166 (FV) (bq .i64) ((fun l _=>l.length≤1000000)) ((fun l v=>.ret (iv (nW (fun x=>decide (v=x)) l 0)))) (asP fun l v h=>NR l v h)
abbrev ST:am prog 121 :=
 mz2 func121 (FV) (bq .i64) ((fun l _=>l.length≤1000000)) ((fun l v=>.ret (bv (l.any fun x=>decide (v=x))))) (asP fun l v h=>by
 refine aq [⟨_,S8⟩] rfl ?_;have hD:∀l:List Int,dc (gE .i64).dec (l.map (gE .i64).enc)=some l:=fK (gE .i64);simp only[gE]at hD;have hx:=Bc (fun x=>decide (v=x)) l 0;cases ha:l.any (fun x=>decide (v=x)) with
 |true =>
  rw[ha]at hx;have h1:0≤nW (fun x=>decide (v=x)) l 0:=hx.2 rfl;simp only[go_sem,hD,h,eq_true h1]
 |false =>
  rw[ha]at hx;have h1:¬0≤nW (fun x=>decide (v=x)) l 0:=fun h=>by cases hx.1 h
  simp only[go_sem,hD,h,h1])
def cI (l:List Int):Blk:=⟨true,3,1,(l.map (gE .i64).enc).map bp⟩
def JS:List LV→Option Int
 |[.v (.int .i64 z)]=>some z
 |_=>none
theorem GD (c:List LV)(x:Int)(h:JS c=some x):c=[.v (.int .i64 x)]:=by
 unfold JS at h;split at h
 ·injection h with h;subst h;rfl
 ·cases h
def Dv:List LV→Option StV
 |[.d (.sd 1 ls),.v (.int .i64 k),.v (.string nm),.d (.sd 15 os),.d (.sd 1 ns),.v (.int .i64 sz),.d (.sd 3 vs),.d (.sd 1 bs)]=>ET [.sd 1 ls,.v (.int .i64 k),.v (.string nm),.sd 15 os,.sd 1 ns,.v (.int .i64 sz),.sd 3 vs,.sd 1 bs]
 |_=>none
theorem Dw {c:List LV}{s:StV}(h:Dv c=some s):c=bp (cz s):=by
 unfold Dv at h;split at h
 ·rename_i ls k nm os ns sz vs bs;have e:[D.sd 1 ls,.v (.int .i64 k),.v (.string nm),.sd 15 os,.sd 1 ns,.v (.int .i64 sz),.sd 3 vs,.sd 1 bs]=cz s:=Cz.inv (show Cz.dec _=some s from h);rw[←e];rfl
 ·cases h
def tG (h:ag):List AV→Option (Prop×List Nat×(List Int×StV))
 |[.s (.l (.sl b 0 n)),.s (.l (.p c 0 0))]=>match ac h b,ac h c with
  |some ⟨true,T,1,rows⟩,some ⟨true,T2,8,[cells]⟩=>match bH JS rows,Dv cells with
   |some l,some s=>if T=3∧T2=41∧n=l.length∧c≠b then some (l.length≤1000000,[c,b],(l,s)) else none
   |_,_=>none
  |_,_=>none
 |_=>none
theorem AK {h:ag}{zs:List AV}{q:Prop}{bs:List Nat}{l:List Int}{s:StV}(hd:tG h zs=some (q,bs,(l,s))):∃b c,zs=[.s (.l (.sl b 0 l.length)),pv c 0 0]∧bs=[c,b]∧q=(l.length≤1000000)∧c≠b∧ac h b=some (cI l)∧ac h c=some (j8 s):=by
 unfold tG at hd;split at hd
 case h_2=>cases hd
 rename_i b n c;split at hd
 case h_2=>cases hd
 rename_i T rows T2 cells h1 h2;split at hd
 case h_2=>cases hd
 rename_i l' s' e1 e2;split at hd
 case isFalse=>cases hd
 rename_i hk;obtain⟨rfl,rfl,rfl,hne⟩:=hk;simp only[Option.some.injEq,Prod.mk.injEq]at hd;obtain⟨rfl,rfl,rfl,rfl⟩:=hd;refine⟨b,c,rfl,rfl,rfl,hne,?_,?_⟩
 ·rw[h1,gX GD e1];unfold cI;rw[List.map_map];rfl
 ·rw[h2,Dw e2];rfl
theorem Dx {h h':ag}(hs:∀b k,ac h b=some k→ac h' b=some k){zs:List AV}{r:Prop×List Nat×(List Int×StV)}(hd:tG h zs=some r):tG h' zs=some r:=by
 unfold tG at hd ⊢;split at hd
 case h_2=>cases hd
 split at hd
 case h_2=>cases hd
 rename_i h1 h2;simp only[hs _ _ h1,hs _ _ h2];exact hd
theorem BD (l:List Int)(g:Nat→Nat):(cI l).ren g=cI l:=by
 unfold cI Blk.ren;simp[Function.comp_def,gE,bp,ofD,LV.ren]
theorem Cy (s:StV)(g:Nat→Nat):(j8 s).ren g=j8 s:=rfl
def sc (l:List Int)(s:StV):Bool:=l.any fun x=>decide (s.kind=x)
theorem Tf {s:StV}{st:St}{r:AV}(hr:r.plain=true)(h0:ac st.h 0=some (j8 s)):mA 1 st (.ret r [some (j8 s)] []) (some r):=by
 refine⟨hr,[some (j8 s)],[],rfl,rfl,by simp,by simp[j8],by simp,Wk.ren [0] (by intro j hj;have:j=0:=(by simpa using hj);subst this;rfl) (Nat.le_refl _) (by simp) (fun p hp=>by cases hp) ?_⟩;intro q hq k hk;simp only[ee,aC,List.cons_append,List.nil_append,List.mem_cons,List.not_mem_nil,or_false]at hq;subst hq;simp only[Option.some.injEq]at hk;subst hk;simp only[List.getD_eq_getElem?_getD,List.getElem?_cons_zero,Option.getD_some,h0,Cy]
theorem Mq (l:List Int)(s:StV)(h:l.length≤1000000):Sw f120 1 ⟨2,ax 0 [.s (.l (.sl 1 0 l.length)),pv 0 0 0],aC 0 [j8 s,cI l]⟩ (oR f120 1 (.ret (bv (sc l s)) [some (j8 s)] [])):=by
 have e:AV.toD (aC 0 [j8 s,cI l]) 4 (.s (.l (.sl 1 0 l.length)))=some (l.length≤l.length∧True,[1],.s (.l (.d (.sd 1 (l.map (gE .i64).enc))))):=by
  have hm:cZ (cZ (LV.toD (aC 0 [j8 s,cI l]) 3)) ((cI l).els.take l.length)=some (True,[],l.map (gE .i64).enc):=by
   rw[List.take_of_length_le (by simp[cI])];exact gl
  have hg:ac (aC 0 [j8 s,cI l]) 1=some (cI l):=rfl;have hl:(cI l).els.length=l.length:=by simp[cI]
  have ho:(cI l).own=true:=rfl;have hz:(cI l).sz=1:=rfl;simp only[AV.toD,SV.toD,LV.toD,hg,ho,if_true,List.drop_zero,hm,hl,hz,Nat.zero_add,Option.map_some];rfl
 refine SW.wk ?_ (Wk.frz 0 e ⟨Nat.le_refl _,trivial⟩);refine aq [⟨_,ST⟩] rfl ?_;have hD:∀l:List Int,dc (gE .i64).dec (l.map (gE .i64).enc)=some l:=fK (gE .i64);simp only[gE]at hD;simp only[go_sem,j8,cz,hD,h];exact Tf (s:=s) rfl rfl
def Mp:am prog 120 :=
 mkR 1 2 (by decide) _ _ _ func120 rfl (fun _ _=>by go_simp) tG (fun x=>[.s (.l (.sl 1 0 x.1.length)),pv 0 0 0]) (fun x=>[j8 x.2,cI x.1]) (fun x=>.ret (bv (sc x.1 x.2)) [some (j8 x.2)] [])
  (fun hs hd=>Dx hs hd)
  (by
   rintro h zs q bs ⟨l,s⟩ hd hq;obtain⟨b,c,rfl,rfl,rfl,hne,h1,h2⟩:=AK hd;refine⟨by rw[ntmps120];simp,rfl,rfl,by simp[hne],fun d=>⟨?_,?_⟩⟩
   ·intro j b' k hj hk
    match j,hj,hk with
    |0,hj,hk =>
     simp at hj hk;subst hj;subst hk;exact⟨rfl,by rw[h2,Cy]⟩
    |1,hj,hk =>
     simp at hj hk;subst hj;subst hk;exact⟨rfl,by rw[h1,BD]⟩
   ·intro ρ al vals hA
    match vals,hA with
    |[v,u],⟨a,b,_⟩=>exact⟨a,b,trivial⟩)
  (by
   rintro h zs q bs ⟨l,s⟩ hd hq;obtain⟨b,c,rfl,rfl,rfl,hne,h1,h2⟩:=AK hd;exact Mq l s hq)
theorem SB {id:Nat}{h:ag}{args:List AV}:Mp.run id h args=jv 1 tG (fun x=>.ret (bv (sc x.1 x.2)) [some (j8 x.2)] []) id h args:=rfl
theorem SA {id:Nat}{h:ag}{args:List AV}:Mp.pan id h args=iT tG (fun x=>.ret (bv (sc x.1 x.2)) [some (j8 x.2)] []) h args:=rfl
def g0 (s:StV):Bool:=decide (0≤s.kind∧s.kind≤7)
def g1 (s:StV):Bool:=decide (s.name=emp∧s.opers=[])||sc [1] s
def g2 (s:StV):Bool:=decide (s.names=[])||sc [2,3,7] s
def g3 (s:StV):Bool:=decide (s.vals=[])||sc [4,5,7] s
def g4 (s:StV):Bool:=decide (s.size=0)||sc [5] s
def g5 (s:StV):Bool:=decide (s.bytes=[])||sc [6] s
section
set_option maxRecDepth 100000
end
structure StOk (s:StV):Prop where
 labels:s.labels.length≤1000000
 labelT:∀n∈s.labels,n.size≤1099511627776
 name:s.name.size≤1099511627776
 opers:s.opers.length≤1000000
 operT:∀o∈s.opers,okO o
 names:s.names.length≤1000000
 nameT:∀n∈s.names,n.size≤1099511627776
 vals:s.vals.length≤1000000
 valT:∀v∈s.vals,nt v
 bytes:∀z∈s.bytes,0≤z∧z≤255
 byteT:s.bytes.length≤1000000
theorem zr {n:Nat}(h:n≤1099511627776):n≤maxLen:=by unfold maxLen;omega
end Go.Proofs.YtnhbidpdadkcjaaGreatDoor
