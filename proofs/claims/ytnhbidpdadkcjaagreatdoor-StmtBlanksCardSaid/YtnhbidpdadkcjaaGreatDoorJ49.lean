import Derived.Test.YtnhbidpdadkcjaaGreatDoorJ45
import Derived.Test.YtnhbidpdadkcjaaGreatDoorJ48
import Derived.Test.YtnhbidpdadkcjaaGreatDoorJ41
set_option linter.unusedVariables false
set_option linter.unusedSimpArgs false
set_option maxRecDepth 100000
set_option maxHeartbeats 8000000
namespace Go.Proofs.YtnhbidpdadkcjaaGreatDoor
section
open Go.RowKit
def jU {α:Type} (p:α→Bool):List α→Nat→Int
 | [],_ => -1
 | x::r,i=>if p x=true then i else jU p r (i+1)
theorem xp {α:Type} (p:α→Bool):∀ (l:List α) (i:Nat),(0≤jU p l i)↔l.any p=true
 | [],i=>by unfold jU;simp
 | x::r,i=>by
  unfold jU
  rw [List.any_cons]
  split
  ·rename_i h;rw [h];simp
  ·rename_i h
   have h:p x=false:=by simpa using h
   rw [h,Bool.false_or]
   exact xp p r (i+1)
theorem zt {α:Type} {p:α→Bool} {l:List α} {i:Nat} {x:α} (h:l[i]? = some x):jU p (l.drop i) i=if p x=true then (i:Int) else jU p (l.drop (i+1)) (i+1):=by
 have hi:=(List.getElem?_eq_some_iff.1 h)
 obtain ⟨h1,h2⟩:=hi
 rw [List.drop_eq_getElem_cons h1,h2]
 rfl
def qt (g:FuncId) (n:ByteArray):Bool:=if g=53 then !fI (ab n) else !gV n
def Ld:bi Tryz.prog 57 :=
 mk1 _ _ _ Tryz.func57 rfl (fun _ _=>by go_simp) (bx) ((fun s=>s.size≤maxLen)) ((fun s=>.ret (bv (gV s)))) (by rw [Tryz.ntmps57];decide) (fun s hs=>by
 refine aa (ctx:=[⟨_,Ly.nameS⟩]) 4000 ?_
 rw [Tryz.ntmps57,Tryz.results57]
 simp only [Tryz.f57,Option.getD_some,aC]
 cases hn:fI (ab s) with
 | false=>simp only [go_sem,Ly.name_run,Ly.name_pan,hs,hn,gV,Bool.false_and]
 | true =>
  by_cases hd:s=(⟨#[46]⟩:ByteArray)
  ·have e:gV s=false:=by unfold gV;rw [hn,decide_eq_true (show s=tk from hd)];rfl
   simp only [go_sem,Ly.name_run,Ly.name_pan,hs,hn,e,eq_true hd]
  ·have e:gV s=true:=by unfold gV;rw [hn,decide_eq_false (show ¬s=tk from hd)];rfl
   simp only [go_sem,Ly.name_run,Ly.name_pan,hs,hn,e,hd])
theorem Lf {id:Nat} {h:ah} {args:List AV}:(Ld).run id h args=bT (ba (bx) ((fun s=>s.size≤maxLen))) ((fun s=>.ret (bv (gV s)))) h args:=rfl
theorem Le {id:Nat} {h:ah} {args:List AV}:(Ld).pan id h args=bU (ba (bx) ((fun s=>s.size≤maxLen))) ((fun s=>.ret (bv (gV s)))) h args:=rfl
def Kb:bi Tryz.prog 53 :=
 mk1 _ _ _ Tryz.func53 rfl (fun _ _=>by go_simp) (bx) ((fun s=>s.size≤maxLen)) ((fun s=>.ret (bv (!fI (ab s))))) (by rw [Tryz.ntmps53];decide) (fun s hs=>by
 refine aa (ctx:=[⟨_,Ly.nameS⟩]) 4000 ?_
 rw [Tryz.ntmps53,Tryz.results53]
 simp only [Tryz.f53,Option.getD_some,aC]
 cases hn:fI (ab s)<;>simp only [go_sem,Ly.name_run,Ly.name_pan,hs,hn])
theorem BS {id:Nat} {h:ah} {args:List AV}:(Kb).run id h args=bT (ba (bx) ((fun s=>s.size≤maxLen))) ((fun s=>.ret (bv (!fI (ab s))))) h args:=rfl
theorem BR {id:Nat} {h:ah} {args:List AV}:(Kb).pan id h args=bU (ba (bx) ((fun s=>s.size≤maxLen))) ((fun s=>.ret (bv (!fI (ab s))))) h args:=rfl
def Kc:bi Tryz.prog 56 :=
 mk1 _ _ _ Tryz.func56 rfl (fun _ _=>by go_simp) (bx) ((fun s=>s.size≤maxLen)) ((fun s=>.ret (bv (!gV s)))) (by rw [Tryz.ntmps56];decide) (fun s hs=>by
 refine aa (ctx:=[⟨_,Ld⟩]) 4000 ?_
 rw [Tryz.ntmps56,Tryz.results56]
 simp only [Tryz.f56,Option.getD_some,aC]
 cases hn:gV s<;>simp only [go_sem,Lf,Le,hs,hn])
theorem BU {id:Nat} {h:ah} {args:List AV}:(Kc).run id h args=bT (ba (bx) ((fun s=>s.size≤maxLen))) ((fun s=>.ret (bv (!gV s)))) h args:=rfl
theorem BT {id:Nat} {h:ah} {args:List AV}:(Kc).pan id h args=bU (ba (bx) ((fun s=>s.size≤maxLen))) ((fun s=>.ret (bv (!gV s)))) h args:=rfl
def A9 (l:List ByteArray) (g:FuncId):Prop:=l.length≤1000000∧(∀ n∈l,n.size≤maxLen)∧(g=53∨g=56)
theorem K2 (l:List ByteArray) (g:FuncId) (h:A9 l g):SW Tryz.prog ⟨none,0⟩ Tryz.f119.ntmps (Tryz.f119.body.getD .skip) ⟨0,aC 0 [jm.enc l,tFn.enc g],[]⟩ (es Tryz.prog Tryz.f119.results.toList (.ret (iv (jU (qt g) l 0)))):=by
 refine aa (ctx:=[]) 4000 ?_
 rw [Tryz.ntmps119,Tryz.results119]
 simp only [Tryz.f119,Option.getD_some,aC]
 obtain ⟨h6,hs,hg⟩:=h
 simp only [go_sem]
 refine cW (ι:=Nat) (fun i=>i≤l.length∧jU (qt g) (l.drop i) i=jU (qt g) l 0) (fun i=>⟨0,[(0,jm.enc l),(1,tFn.enc g),(7,iv l.length),(8,iv i)],[]⟩) (fun i=>l.length-i) 0 ⟨Nat.zero_le _,rfl⟩ (Wk.renL [] (by simp) (by simp) (by simp) rfl rfl) ?_
 rintro i ⟨hi,ht⟩
 refine aa (ctx:=[⟨_,Kb⟩,⟨_,Kc⟩]) 4000 ?_
 by_cases hlt:i<l.length
 ·have hltI:(i:Int)<l.length:=by omega
  obtain ⟨r,hr⟩:∃ r,l[i]? = some r:=⟨_,List.getElem?_eq_getElem hlt⟩
  have hsz:=hs r (List.mem_of_getElem? hr)
  have ei:IntKind.i64.wrap ((i:Int)+1)=((i+1:Nat):Int):=by rw [IntKind.wrap_i64];omega
  rw [zt hr] at ht
  cases hp:qt g r with
  | true =>
   rw [hp,if_pos rfl] at ht
   rcases hg with rfl | rfl
   ·have e1:(!fI (ab r))=true:=hp
    simp only [go_sem,tFn,hlt,hltI,hr,dQ,BS,BR,hsz,e1,← ht]
   ·have e1:(!gV r)=true:=hp
    simp only [go_sem,tFn,hlt,hltI,hr,dQ,BU,BT,hsz,e1,← ht]
  | false =>
   rw [hp,if_neg (by simp)] at ht
   rcases hg with rfl | rfl
   ·have e1:(!fI (ab r))=false:=hp
    simp only [go_sem,tFn,hlt,hltI,hr,dQ,BS,BR,hsz,e1,ei]
    exact ⟨i+1,⟨hlt,ht⟩,by omega,Wk.renL [] (by simp) (by simp) (by simp) rfl rfl⟩
   ·have e1:(!gV r)=false:=hp
    simp only [go_sem,tFn,hlt,hltI,hr,dQ,BU,BT,hsz,e1,ei]
    exact ⟨i+1,⟨hlt,ht⟩,by omega,Wk.renL [] (by simp) (by simp) (by simp) rfl rfl⟩
 ·obtain rfl:i=l.length:=by omega
  have hI:¬(l.length:Int)<l.length:=by omega
  have e:jU (qt g) l 0 = -1:=by rw [← ht,List.drop_length];rfl
  simp only [go_sem,hI,e]
def Es:bi Tryz.prog 119 :=
 mk2 _ _ _ Tryz.func119 rfl (fun _ _=>by go_simp) (jm) (tFn) (A9) ((fun l g=>.ret (iv (jU (qt g) l 0)))) (by rw [Tryz.ntmps119];decide) (fun l g h=>K2 l g h)
theorem zv {id:Nat} {h:ah} {args:List AV}:(Es).run id h args=bT (cg (jm) (tFn) (A9)) (fun x=>((fun l g=>.ret (iv (jU (qt g) l 0)))) x.1 x.2) h args:=rfl
theorem zu {id:Nat} {h:ah} {args:List AV}:(Es).pan id h args=bU (cg (jm) (tFn) (A9)) (fun x=>((fun l g=>.ret (iv (jU (qt g) l 0)))) x.1 x.2) h args:=rfl
def D2:bi Tryz.prog 55 :=
 mk2 _ _ _ Tryz.func55 rfl (fun _ _=>by go_simp) (jm) (tFn) (A9) ((fun l g=>.ret (bv (l.any (qt g))))) (by rw [Tryz.ntmps55];decide) (fun l g h=>by
 refine aa (ctx:=[⟨_,Es⟩]) 4000 ?_
 rw [Tryz.ntmps55,Tryz.results55]
 simp only [Tryz.f55,Option.getD_some,aC]
 have hD:∀ l:List ByteArray,dT dQ.dec (l.map dQ.enc)=some l:=ac dQ
 simp only [dQ] at hD
 have hx:=xp (qt g) l 0
 cases ha:l.any (qt g) with
 | true =>
  rw [ha] at hx
  have h1:0≤jU (qt g) l 0:=hx.2 rfl
  simp only [go_sem,tFn,hD,zv,zu,h,eq_true h1]
 | false =>
  rw [ha] at hx
  have h1:¬0≤jU (qt g) l 0:=fun h=>by cases hx.1 h
  simp only [go_sem,tFn,hD,zv,zu,h,h1])
theorem i8 {id:Nat} {h:ah} {args:List AV}:(D2).run id h args=bT (cg (jm) (tFn) (A9)) (fun x=>((fun l g=>.ret (bv (l.any (qt g))))) x.1 x.2) h args:=rfl
theorem i7 {id:Nat} {h:ah} {args:List AV}:(D2).pan id h args=bU (cg (jm) (tFn) (A9)) (fun x=>((fun l g=>.ret (bv (l.any (qt g))))) x.1 x.2) h args:=rfl
abbrev vR:Ty (List Int):=tSl 1 (gj .i64)
theorem OV (l:List Int) (v:Int) (h:l.length≤1000000):SW Tryz.prog ⟨none,0⟩ Tryz.f166.ntmps (Tryz.f166.body.getD .skip) ⟨0,aC 0 [vR.enc l,iv v],[]⟩ (es Tryz.prog Tryz.f166.results.toList (.ret (iv (jU (fun x=>decide (v=x)) l 0)))):=by
 refine aa (ctx:=[]) 4000 ?_
 rw [Tryz.ntmps166,Tryz.results166]
 simp only [Tryz.f166,Option.getD_some,aC]
 simp only [go_sem]
 refine cW (ι:=Nat) (fun i=>i≤l.length∧jU (fun x=>decide (v=x)) (l.drop i) i=jU (fun x=>decide (v=x)) l 0) (fun i=>⟨0,[(0,vR.enc l),(1,iv v),(7,iv l.length),(8,iv i)],[]⟩) (fun i=>l.length-i) 0 ⟨Nat.zero_le _,rfl⟩ (Wk.renL [] (by simp) (by simp) (by simp) rfl rfl) ?_
 rintro i ⟨hi,ht⟩
 refine aa (ctx:=[]) 4000 ?_
 by_cases hlt:i<l.length
 ·have hltI:(i:Int)<l.length:=by omega
  obtain ⟨r,hr⟩:∃ r,l[i]? = some r:=⟨_,List.getElem?_eq_getElem hlt⟩
  have ei:IntKind.i64.wrap ((i:Int)+1)=((i+1:Nat):Int):=by rw [IntKind.wrap_i64];omega
  rw [zt hr] at ht
  by_cases hp:v=r
  ·rw [if_pos (decide_eq_true hp)] at ht
   simp only [go_sem,hlt,hltI,hr,gj,eq_true hp,← ht]
  ·rw [if_neg (by rw [decide_eq_false hp];simp)] at ht
   simp only [go_sem,hlt,hltI,hr,gj,hp,ei]
   exact ⟨i+1,⟨hlt,ht⟩,by omega,Wk.renL [] (by simp) (by simp) (by simp) rfl rfl⟩
 ·obtain rfl:i=l.length:=by omega
  have hI:¬(l.length:Int)<l.length:=by omega
  have e:jU (fun x=>decide (v=x)) l 0 = -1:=by rw [← ht,List.drop_length];rfl
  simp only [go_sem,hI,e]
def K3:bi Tryz.prog 166 :=
 mk2 _ _ _ Tryz.func166 rfl (fun _ _=>by go_simp) (vR) (bq .i64) ((fun l _=>l.length≤1000000)) ((fun l v=>.ret (iv (jU (fun x=>decide (v=x)) l 0)))) (by rw [Tryz.ntmps166];decide) (fun l v h=>OV l v h)
theorem Cs {id:Nat} {h:ah} {args:List AV}:(K3).run id h args=bT (cg (vR) (bq .i64) ((fun l _=>l.length≤1000000))) (fun x=>((fun l v=>.ret (iv (jU (fun x=>decide (v=x)) l 0)))) x.1 x.2) h args:=rfl
theorem Cr {id:Nat} {h:ah} {args:List AV}:(K3).pan id h args=bU (cg (vR) (bq .i64) ((fun l _=>l.length≤1000000))) (fun x=>((fun l v=>.ret (iv (jU (fun x=>decide (v=x)) l 0)))) x.1 x.2) h args:=rfl
def Kf:bi Tryz.prog 121 :=
 mk2 _ _ _ Tryz.func121 rfl (fun _ _=>by go_simp) (vR) (bq .i64) ((fun l _=>l.length≤1000000)) ((fun l v=>.ret (bv (l.any fun x=>decide (v=x))))) (by rw [Tryz.ntmps121];decide) (fun l v h=>by
 refine aa (ctx:=[⟨_,K3⟩]) 4000 ?_
 rw [Tryz.ntmps121,Tryz.results121]
 simp only [Tryz.f121,Option.getD_some,aC]
 have hD:∀ l:List Int,dT (gj .i64).dec (l.map (gj .i64).enc)=some l:=ac (gj .i64)
 simp only [gj] at hD
 have hx:=xp (fun x=>decide (v=x)) l 0
 cases ha:l.any (fun x=>decide (v=x)) with
 | true =>
  rw [ha] at hx
  have h1:0≤jU (fun x=>decide (v=x)) l 0:=hx.2 rfl
  simp only [go_sem,hD,Cs,Cr,h,eq_true h1]
 | false =>
  rw [ha] at hx
  have h1:¬0≤jU (fun x=>decide (v=x)) l 0:=fun h=>by cases hx.1 h
  simp only [go_sem,hD,Cs,Cr,h,h1])
theorem Kh {id:Nat} {h:ah} {args:List AV}:(Kf).run id h args=bT (cg (vR) (bq .i64) ((fun l _=>l.length≤1000000))) (fun x=>((fun l v=>.ret (bv (l.any fun x=>decide (v=x))))) x.1 x.2) h args:=rfl
theorem Kg {id:Nat} {h:ah} {args:List AV}:(Kf).pan id h args=bU (cg (vR) (bq .i64) ((fun l _=>l.length≤1000000))) (fun x=>((fun l v=>.ret (bv (l.any fun x=>decide (v=x))))) x.1 x.2) h args:=rfl
end
section
open Go.RowKit
def d9 (l:List Int):Blk:=⟨true,3,1,(l.map (gj .i64).enc).map cG⟩
def iI:List LV→Option Int
 | [.v (.int .i64 z)]=>some z
 | _=>none
theorem Hq (c:List LV) (x:Int) (h:iI c=some x):c=[.v (.int .i64 x)]:=by
 unfold iI at h
 split at h
 ·injection h with h;subst h;rfl
 ·cases h
def AE:List LV→Option StV
 | [.d (.sd 1 ls),.v (.int .i64 k),.v (.string nm),.d (.sd 15 os),.d (.sd 1 ns),.v (.int .i64 sz),.d (.sd 3 vs),.d (.sd 1 bs)]=>PT [.sd 1 ls,.v (.int .i64 k),.v (.string nm),.sd 15 os,.sd 1 ns,.v (.int .i64 sz),.sd 3 vs,.sd 1 bs]
 | _=>none
theorem Ea {c:List LV} {s:StV} (h:AE c=some s):c=cG (bN s):=by
 unfold AE at h
 split at h
 ·rename_i ls k nm os ns sz vs bs
  have e:[D.sd 1 ls,.v (.int .i64 k),.v (.string nm),.sd 15 os,.sd 1 ns,.v (.int .i64 sz),.sd 3 vs,.sd 1 bs]=bN s:=Bq.inv (show Bq.dec _=some s from h)
  rw [← e]
  rfl
 ·cases h
theorem j0 (s:StV):AE (cG (bN s))=some s:=Bq.back s
def gp (h:ah):List AV→Option (Prop×List Nat×(List Int×StV))
 | [.s (.l (.sl b 0 n)),.s (.l (.p c 0 0))]=>match hget h b,hget h c with
  | some ⟨true,T,1,rows⟩,some ⟨true,T2,8,[cells]⟩=>match bL iI rows,AE cells with
   | some l,some s=>if T=3∧T2=41∧n=l.length∧c≠b then some (l.length≤1000000,[c,b],(l,s)) else none
   | _,_=>none
  | _,_=>none
 | _=>none
theorem B4 {h:ah} {zs:List AV} {q:Prop} {bs:List Nat} {l:List Int} {s:StV} (hd:gp h zs=some (q,bs,(l,s))):∃ b c,zs=[.s (.l (.sl b 0 l.length)),pv c 0 0]∧bs=[c,b]∧q=(l.length≤1000000)∧c≠b∧hget h b=some (d9 l)∧hget h c=some (eE s):=by
 unfold gp at hd
 split at hd
 case h_2=>cases hd
 rename_i b n c
 split at hd
 case h_2=>cases hd
 rename_i T rows T2 cells h1 h2
 split at hd
 case h_2=>cases hd
 rename_i l' s' e1 e2
 split at hd
 case isFalse=>cases hd
 rename_i hk
 obtain ⟨rfl,rfl,rfl,hne⟩:=hk
 simp only [Option.some.injEq,Prod.mk.injEq] at hd
 obtain ⟨rfl,rfl,rfl,rfl⟩:=hd
 refine ⟨b,c,rfl,rfl,rfl,hne,?_,?_⟩
 ·rw [h1,jS Hq e1]
  unfold d9
  rw [List.map_map]
  rfl
 ·rw [h2,Ea e2]
  rfl
theorem Eb {h h':ah} (hs:∀ b k,hget h b=some k→hget h' b=some k) {zs:List AV} {r:Prop×List Nat×(List Int×StV)} (hd:gp h zs=some r):gp h' zs=some r:=by
 unfold gp at hd ⊢
 split at hd
 case h_2=>cases hd
 split at hd
 case h_2=>cases hd
 rename_i h1 h2
 simp only [hs _ _ h1,hs _ _ h2]
 exact hd
theorem CM (l:List Int) (g:Nat→Nat):(d9 l).ren g=d9 l:=by
 unfold d9 Blk.ren
 simp [Function.comp_def,gj,cG,ofD,LV.ren]
theorem Dm (s:StV) (g:Nat→Nat):(eE s).ren g=eE s:=rfl
def mf (l:List Int) (s:StV):Bool:=l.any fun x=>decide (s.kind=x)
theorem Tz {s:StV} {st:St} {r:AV} (hr:r.plain=true) (h0:hget st.h 0=some (eE s)):oH 1 st (.ret r [some (eE s)] []) (some r):=by
 refine ⟨hr,[some (eE s)],[],rfl,rfl,by simp,by simp [eE],by simp,Wk.ren [0] (by intro j hj;have:j=0:=(by simpa using hj);subst this;rfl) (Nat.le_refl _) (by simp) (fun p hp=>by cases hp) ?_⟩
 intro q hq k hk
 simp only [gm,bB,List.cons_append,List.nil_append,List.mem_cons,List.not_mem_nil,or_false] at hq
 subst hq
 simp only [Option.some.injEq] at hk
 subst hk
 simp only [List.getD_eq_getElem?_getD,List.getElem?_cons_zero,Option.getD_some,h0,Dm]
theorem Nf (l:List Int) (s:StV) (h:l.length≤1000000):SW Tryz.prog ⟨none,1⟩ Tryz.f120.ntmps (Tryz.f120.body.getD .skip) ⟨2,aC 0 [.s (.l (.sl 1 0 l.length)),pv 0 0 0],bB 0 [eE s,d9 l]⟩ (dy Tryz.prog Tryz.f120.results.toList 1 (.ret (bv (mf l s)) [some (eE s)] [])):=by
 have e:AV.toD (bB 0 [eE s,d9 l]) 4 (.s (.l (.sl 1 0 l.length)))=some (l.length≤l.length∧True,[1],.s (.l (.d (.sd 1 (l.map (gj .i64).enc))))):=by
  have hm:ez (ez (LV.toD (bB 0 [eE s,d9 l]) 3)) ((d9 l).els.take l.length)=some (True,[],l.map (gj .i64).enc):=by
   rw [List.take_of_length_le (by simp [d9])];exact im
  have hg:hget (bB 0 [eE s,d9 l]) 1=some (d9 l):=rfl
  have hl:(d9 l).els.length=l.length:=by simp [d9]
  have ho:(d9 l).own=true:=rfl
  have hz:(d9 l).sz=1:=rfl
  simp only [AV.toD,SV.toD,LV.toD,hg,ho,if_true,List.drop_zero,hm,hl,hz,Nat.zero_add,Option.map_some]
  rfl
 refine SW.wk ?_ (Wk.frz 0 e ⟨Nat.le_refl _,trivial⟩)
 refine aa (ctx:=[⟨_,Kf⟩]) 4000 ?_
 rw [Tryz.ntmps120,Tryz.results120]
 simp only [Tryz.f120,Option.getD_some,aC]
 have hD:∀ l:List Int,dT (gj .i64).dec (l.map (gj .i64).enc)=some l:=ac (gj .i64)
 simp only [gj] at hD
 simp only [go_sem,eE,bN,hD,Kh,Kg,h]
 exact Tz (s:=s) rfl rfl
def sJ:bi Tryz.prog 120 :=
 mkR 1 2 (by decide) _ _ _ Tryz.func120 rfl (fun _ _=>by go_simp) gp (fun x=>[.s (.l (.sl 1 0 x.1.length)),pv 0 0 0]) (fun x=>[eE x.2,d9 x.1]) (fun x=>.ret (bv (mf x.1 x.2)) [some (eE x.2)] [])
  (fun hs hd=>Eb hs hd)
  (by
   rintro h zs q bs ⟨l,s⟩ hd hq
   obtain ⟨b,c,rfl,rfl,rfl,hne,h1,h2⟩:=B4 hd
   refine ⟨by rw [Tryz.ntmps120];simp,rfl,rfl,by simp [hne],fun d=>⟨?_,?_⟩⟩
   ·intro j b' k hj hk
    match j,hj,hk with
    | 0,hj,hk =>
     simp at hj hk
     subst hj
     subst hk
     exact ⟨rfl,by rw [h2,Dm]⟩
    | 1,hj,hk =>
     simp at hj hk
     subst hj
     subst hk
     exact ⟨rfl,by rw [h1,CM]⟩
   ·intro ρ al vals hA
    match vals,hA with
    | [v,u],⟨a,b,_⟩=>exact ⟨a,b,trivial⟩)
  (by
   rintro h zs q bs ⟨l,s⟩ hd hq
   obtain ⟨b,c,rfl,rfl,rfl,hne,h1,h2⟩:=B4 hd
   exact Nf l s hq)
theorem da {id:Nat} {h:ah} {args:List AV}:sJ.run id h args=gu 1 gp (fun x=>.ret (bv (mf x.1 x.2)) [some (eE x.2)] []) id h args:=rfl
theorem c9 {id:Nat} {h:ah} {args:List AV}:sJ.pan id h args=fX gp (fun x=>.ret (bv (mf x.1 x.2)) [some (eE x.2)] []) h args:=rfl
end
section
open Go.RowKit
def r5:Code→Code
 | .seq _ (.seq _ (.seq (.block _ x) _))=>x
 | c=>c
def oX:Code→Code
 | .seq _ (.seq _ (.seq _ c))=>c
 | c=>c
def gq:Code→Code
 | .seq _ (.cond _ _ y)=>y
 | c=>c
noncomputable def usB:Code:=Tryz.f58.body.getD .skip
noncomputable def usQ (o:PO):Exit→St→Prop:=AA 0 (me (fun s=>SW Tryz.prog ⟨none,0⟩ Tryz.f58.ntmps (oX usB) s (es Tryz.prog Tryz.f58.results.toList o)) (es Tryz.prog Tryz.f58.results.toList o))
def usS (s:StV):St:=⟨1,[(1,pv 0 0 0),(3,.fn 120 [] [.p 0 0 0])],bB 0 [eE s]⟩
def g0 (s:StV):Bool:=decide (0≤s.kind∧s.kind≤7)
def g1 (s:StV):Bool:=decide (s.name=emp∧s.opers=[])||mf [1] s
def g2 (s:StV):Bool:=decide (s.names=[])||mf [2,3,7] s
def g3 (s:StV):Bool:=decide (s.vals=[])||mf [4,5,7] s
def g4 (s:StV):Bool:=decide (s.size=0)||mf [5] s
def g5 (s:StV):Bool:=decide (s.bytes=[])||mf [6] s
theorem zzu4 (s:St):SW Tryz.prog ⟨none,0⟩ Tryz.f58.ntmps (oX usB) s (es Tryz.prog Tryz.f58.results.toList (.ret (bv false))):=by
 unfold usB
 simp only [Tryz.f58,Option.getD_some,oX]
 refine aa (ctx:=[]) 4000 ?_
 simp only [go_sem]
theorem us_6 (s:StV):SW Tryz.prog ⟨none,0⟩ Tryz.f58.ntmps (gq (gq (gq (gq (gq (gq (r5 usB))))))) (usS s) (usQ (.ret (bv true))):=by
 unfold usB
 simp only [Tryz.f58,Option.getD_some,r5,gq]
 refine aa (ctx:=[]) 4000 ?_
 unfold usQ usS
 rw [Tryz.results58]
 simp only [go_sem,AA,me]
theorem us_5 (s:StV):SW Tryz.prog ⟨none,0⟩ Tryz.f58.ntmps (gq (gq (gq (gq (gq (r5 usB)))))) (usS s) (usQ (.ret (bv (g5 s)))):=by
 have hSt:=j0 s
 simp only [bN,dQ,gj,cG,ofD,List.map_cons,List.map_nil] at hSt
 have nxt:=us_6 s
 have hbad:=zzu4
 unfold usB at nxt hbad ⊢
 simp only [Tryz.f58,Option.getD_some,r5,gq,oX] at nxt hbad ⊢
 unfold usS
 refine iU (aa (ctx:=[⟨_,sJ⟩]) 4000 ?_)
 by_cases a1:s.bytes=[]
 ·have e:g5 s=true:=by unfold g5;rw [decide_eq_true a1];rfl
  have hl:¬(0:Int)<s.bytes.length:=by rw [a1];decide
  rw [e]
  simp only [go_sem,eE,bN,gp,hSt,bL,iI,da,c9,hl,List.length_map]
  refine e8 (q:=false) rfl (fun h=>by cases h) fun _=>?_
  exact SW.wk nxt (Wk.renL [0] (by simp) (Nat.le_refl 1) (by decide) rfl rfl)
 ·have hl:(0:Int)<s.bytes.length:=by have:=List.length_pos_iff.2 a1;omega
  cases hU:mf [6] s with
  | true =>
   have e:g5 s=true:=by unfold g5;rw [hU,Bool.or_true]
   rw [e]
   simp only [go_sem,eE,bN,gp,hSt,bL,iI,da,c9,hl,List.length_map,hU]
   refine e8 (q:=false) rfl (fun h=>by cases h) fun _=>?_
   exact SW.wk nxt (Wk.renL [0] (by simp) (Nat.le_refl 1) (by decide) rfl rfl)
  | false =>
   have e:g5 s=false:=by unfold g5;rw [hU,decide_eq_false a1];rfl
   rw [e]
   simp only [go_sem,eE,bN,gp,hSt,bL,iI,da,c9,hl,List.length_map,hU]
   refine e8 (q:=true) rfl (fun _=>?_) fun h=>by cases h
   exact aa (ctx:=[]) 4000 (hbad _)
theorem us_4 (s:StV):SW Tryz.prog ⟨none,0⟩ Tryz.f58.ntmps (gq (gq (gq (gq (r5 usB))))) (usS s) (usQ (.ret (bv (g4 s&&(g5 s))))):=by
 have hSt:=j0 s
 simp only [bN,dQ,gj,cG,ofD,List.map_cons,List.map_nil] at hSt
 have nxt:=us_5 s
 have hbad:=zzu4
 unfold usB at nxt hbad ⊢
 simp only [Tryz.f58,Option.getD_some,r5,gq,oX] at nxt hbad ⊢
 unfold usS
 refine iU (aa (ctx:=[⟨_,sJ⟩]) 4000 ?_)
 by_cases a1:s.size=0
 ·have e:g4 s=true:=by unfold g4;rw [decide_eq_true a1];rfl
  rw [e,Bool.true_and]
  simp only [go_sem,eE,bN,gp,hSt,bL,iI,da,c9,eq_true a1]
  refine e8 (q:=false) rfl (fun h=>by cases h) fun _=>?_
  exact SW.wk nxt (Wk.renL [0] (by simp) (Nat.le_refl 1) (by decide) rfl rfl)
 ·skip
  cases hU:mf [5] s with
  | true =>
   have e:g4 s=true:=by unfold g4;rw [hU,Bool.or_true]
   rw [e,Bool.true_and]
   simp only [go_sem,eE,bN,gp,hSt,bL,iI,da,c9,a1,hU]
   refine e8 (q:=false) rfl (fun h=>by cases h) fun _=>?_
   exact SW.wk nxt (Wk.renL [0] (by simp) (Nat.le_refl 1) (by decide) rfl rfl)
  | false =>
   have e:g4 s=false:=by unfold g4;rw [hU,decide_eq_false a1];rfl
   rw [e,Bool.false_and]
   simp only [go_sem,eE,bN,gp,hSt,bL,iI,da,c9,a1,hU]
   refine e8 (q:=true) rfl (fun _=>?_) fun h=>by cases h
   exact aa (ctx:=[]) 4000 (hbad _)
theorem us_3 (s:StV):SW Tryz.prog ⟨none,0⟩ Tryz.f58.ntmps (gq (gq (gq (r5 usB)))) (usS s) (usQ (.ret (bv (g3 s&&(g4 s&&(g5 s)))))):=by
 have hSt:=j0 s
 simp only [bN,dQ,gj,cG,ofD,List.map_cons,List.map_nil] at hSt
 have nxt:=us_4 s
 have hbad:=zzu4
 unfold usB at nxt hbad ⊢
 simp only [Tryz.f58,Option.getD_some,r5,gq,oX] at nxt hbad ⊢
 unfold usS
 refine iU (aa (ctx:=[⟨_,sJ⟩]) 4000 ?_)
 by_cases a1:s.vals=[]
 ·have e:g3 s=true:=by unfold g3;rw [decide_eq_true a1];rfl
  have hl:¬(0:Int)<s.vals.length:=by rw [a1];decide
  rw [e,Bool.true_and]
  simp only [go_sem,eE,bN,gp,hSt,bL,iI,da,c9,hl,List.length_map]
  refine e8 (q:=false) rfl (fun h=>by cases h) fun _=>?_
  exact SW.wk nxt (Wk.renL [0] (by simp) (Nat.le_refl 1) (by decide) rfl rfl)
 ·have hl:(0:Int)<s.vals.length:=by have:=List.length_pos_iff.2 a1;omega
  cases hU:mf [4,5,7] s with
  | true =>
   have e:g3 s=true:=by unfold g3;rw [hU,Bool.or_true]
   rw [e,Bool.true_and]
   simp only [go_sem,eE,bN,gp,hSt,bL,iI,da,c9,hl,List.length_map,hU]
   refine e8 (q:=false) rfl (fun h=>by cases h) fun _=>?_
   exact SW.wk nxt (Wk.renL [0] (by simp) (Nat.le_refl 1) (by decide) rfl rfl)
  | false =>
   have e:g3 s=false:=by unfold g3;rw [hU,decide_eq_false a1];rfl
   rw [e,Bool.false_and]
   simp only [go_sem,eE,bN,gp,hSt,bL,iI,da,c9,hl,List.length_map,hU]
   refine e8 (q:=true) rfl (fun _=>?_) fun h=>by cases h
   exact aa (ctx:=[]) 4000 (hbad _)
theorem us_2 (s:StV):SW Tryz.prog ⟨none,0⟩ Tryz.f58.ntmps (gq (gq (r5 usB))) (usS s) (usQ (.ret (bv (g2 s&&(g3 s&&(g4 s&&(g5 s))))))):=by
 have hSt:=j0 s
 simp only [bN,dQ,gj,cG,ofD,List.map_cons,List.map_nil] at hSt
 have nxt:=us_3 s
 have hbad:=zzu4
 unfold usB at nxt hbad ⊢
 simp only [Tryz.f58,Option.getD_some,r5,gq,oX] at nxt hbad ⊢
 unfold usS
 refine iU (aa (ctx:=[⟨_,sJ⟩]) 4000 ?_)
 by_cases a1:s.names=[]
 ·have e:g2 s=true:=by unfold g2;rw [decide_eq_true a1];rfl
  have hl:¬(0:Int)<s.names.length:=by rw [a1];decide
  rw [e,Bool.true_and]
  simp only [go_sem,eE,bN,gp,hSt,bL,iI,da,c9,hl,List.length_map]
  refine e8 (q:=false) rfl (fun h=>by cases h) fun _=>?_
  exact SW.wk nxt (Wk.renL [0] (by simp) (Nat.le_refl 1) (by decide) rfl rfl)
 ·have hl:(0:Int)<s.names.length:=by have:=List.length_pos_iff.2 a1;omega
  cases hU:mf [2,3,7] s with
  | true =>
   have e:g2 s=true:=by unfold g2;rw [hU,Bool.or_true]
   rw [e,Bool.true_and]
   simp only [go_sem,eE,bN,gp,hSt,bL,iI,da,c9,hl,List.length_map,hU]
   refine e8 (q:=false) rfl (fun h=>by cases h) fun _=>?_
   exact SW.wk nxt (Wk.renL [0] (by simp) (Nat.le_refl 1) (by decide) rfl rfl)
  | false =>
   have e:g2 s=false:=by unfold g2;rw [hU,decide_eq_false a1];rfl
   rw [e,Bool.false_and]
   simp only [go_sem,eE,bN,gp,hSt,bL,iI,da,c9,hl,List.length_map,hU]
   refine e8 (q:=true) rfl (fun _=>?_) fun h=>by cases h
   exact aa (ctx:=[]) 4000 (hbad _)
theorem us_1 (s:StV):SW Tryz.prog ⟨none,0⟩ Tryz.f58.ntmps (gq (r5 usB)) (usS s) (usQ (.ret (bv (g1 s&&(g2 s&&(g3 s&&(g4 s&&(g5 s)))))))):=by
 have hSt:=j0 s
 simp only [bN,dQ,gj,cG,ofD,List.map_cons,List.map_nil] at hSt
 have nxt:=us_2 s
 have hbad:=zzu4
 unfold usB at nxt hbad ⊢
 simp only [Tryz.f58,Option.getD_some,r5,gq,oX] at nxt hbad ⊢
 unfold usS
 refine iU (aa (ctx:=[⟨_,sJ⟩]) 4000 ?_)
 by_cases a1:s.name=emp
 ·by_cases a2:s.opers=[]
  ·have e:g1 s=true:=by unfold g1;rw [decide_eq_true ⟨a1,a2⟩];rfl
   have hl:¬(0:Int)<s.opers.length:=by rw [a2];decide
   rw [e,Bool.true_and]
   simp only [go_sem,eE,bN,gp,hSt,bL,iI,da,c9,aR,eq_true a1,hl,List.length_map]
   refine e8 (q:=false) rfl (fun h=>by cases h) fun _=>?_
   exact SW.wk nxt (Wk.renL [0] (by simp) (Nat.le_refl 1) (by decide) rfl rfl)
  ·have hl:(0:Int)<s.opers.length:=by have:=List.length_pos_iff.2 a2;omega
   cases hU:mf [1] s with
   | true =>
    have e:g1 s=true:=by unfold g1;rw [hU,Bool.or_true]
    rw [e,Bool.true_and]
    simp only [go_sem,eE,bN,gp,hSt,bL,iI,da,c9,aR,eq_true a1,hl,List.length_map,hU]
    refine e8 (q:=false) rfl (fun h=>by cases h) fun _=>?_
    exact SW.wk nxt (Wk.renL [0] (by simp) (Nat.le_refl 1) (by decide) rfl rfl)
   | false =>
    have e:g1 s=false:=by unfold g1;rw [hU,decide_eq_false (fun h=>a2 h.2)];rfl
    rw [e,Bool.false_and]
    simp only [go_sem,eE,bN,gp,hSt,bL,iI,da,c9,aR,eq_true a1,hl,List.length_map,hU]
    refine e8 (q:=true) rfl (fun _=>?_) fun h=>by cases h
    exact aa (ctx:=[]) 4000 (hbad _)
 ·skip
  cases hU:mf [1] s with
  | true =>
   have e:g1 s=true:=by unfold g1;rw [hU,Bool.or_true]
   rw [e,Bool.true_and]
   simp only [go_sem,eE,bN,gp,hSt,bL,iI,da,c9,aR,a1,List.length_map,hU]
   refine e8 (q:=false) rfl (fun h=>by cases h) fun _=>?_
   exact SW.wk nxt (Wk.renL [0] (by simp) (Nat.le_refl 1) (by decide) rfl rfl)
  | false =>
   have e:g1 s=false:=by unfold g1;rw [hU,decide_eq_false (fun h=>a1 h.1)];rfl
   rw [e,Bool.false_and]
   simp only [go_sem,eE,bN,gp,hSt,bL,iI,da,c9,aR,a1,List.length_map,hU]
   refine e8 (q:=true) rfl (fun _=>?_) fun h=>by cases h
   exact aa (ctx:=[]) 4000 (hbad _)
theorem us_0 (s:StV):SW Tryz.prog ⟨none,0⟩ Tryz.f58.ntmps (r5 usB) (usS s) (usQ (.ret (bv (g0 s&&(g1 s&&(g2 s&&(g3 s&&(g4 s&&(g5 s))))))))):=by
 have hSt:=j0 s
 simp only [bN,dQ,gj,cG,ofD,List.map_cons,List.map_nil] at hSt
 have nxt:=us_1 s
 have hbad:=zzu4
 unfold usB at nxt hbad ⊢
 simp only [Tryz.f58,Option.getD_some,r5,gq,oX] at nxt hbad ⊢
 unfold usS
 refine iU (aa (ctx:=[]) 4000 ?_)
 by_cases k1:s.kind<0
 ·have e:g0 s=false:=by unfold g0;exact decide_eq_false (by omega)
  rw [e,Bool.false_and]
  simp only [go_sem,eE,bN,gp,hSt,bL,iI,da,c9,eq_true k1]
  refine e8 (q:=true) rfl (fun _=>?_) fun h=>by cases h
  exact aa (ctx:=[]) 4000 (hbad _)
 by_cases k2:7<s.kind
 ·have e:g0 s=false:=by unfold g0;exact decide_eq_false (by omega)
  rw [e,Bool.false_and]
  simp only [go_sem,eE,bN,gp,hSt,bL,iI,da,c9,k1,eq_true k2]
  refine e8 (q:=true) rfl (fun _=>?_) fun h=>by cases h
  exact aa (ctx:=[]) 4000 (hbad _)
 have e:g0 s=true:=by unfold g0;exact decide_eq_true (by omega)
 rw [e,Bool.true_and]
 simp only [go_sem,eE,bN,gp,hSt,bL,iI,da,c9,k1,k2]
 refine e8 (q:=false) rfl (fun h=>by cases h) fun _=>?_
 exact SW.wk nxt (Wk.renL [0] (by simp) (Nat.le_refl 1) (by decide) rfl rfl)
theorem Nh (s:StV):(g0 s&&(g1 s&&(g2 s&&(g3 s&&(g4 s&&(g5 s))))))=rS s:=by
 unfold rS g0 g1 g2 g3 g4 g5 mf
 simp only [List.any_cons,List.any_nil,Bool.or_false,Bool.and_true,Bool.and_assoc,Bool.decide_or]
def Ng:bi Tryz.prog 58 :=
 mk1 _ _ _ Tryz.func58 rfl (fun _ _=>by go_simp) (lh) ((fun _=>True)) ((fun s=>.ret (bv (rS s)))) (by rw [Tryz.ntmps58];decide) (fun s _=>by
 have h0:=us_0 s
 rw [Nh] at h0
 unfold usQ usB at h0
 rw [Tryz.results58] at h0 ⊢
 simp only [Tryz.f58,Option.getD_some,aC,r5,oX] at h0 ⊢
 refine iU (aa (ctx:=[]) 4000 ?_)
 simp only [go_sem,dt,bN]
 refine iU (aa (ctx:=[]) 4000 ?_)
 simp only [go_sem]
 exact iU (M1 (SW.wk h0 (Wk.renL [0] (by simp) (Nat.le_refl 1) (by decide) rfl rfl))))
theorem lQ {id:Nat} {h:ah} {args:List AV}:(Ng).run id h args=bT (ba (lh) ((fun _=>True))) ((fun s=>.ret (bv (rS s)))) h args:=rfl
theorem lP {id:Nat} {h:ah} {args:List AV}:(Ng).pan id h args=bU (ba (lh) ((fun _=>True))) ((fun s=>.ret (bv (rS s)))) h args:=rfl
end
end Go.Proofs.YtnhbidpdadkcjaaGreatDoor
