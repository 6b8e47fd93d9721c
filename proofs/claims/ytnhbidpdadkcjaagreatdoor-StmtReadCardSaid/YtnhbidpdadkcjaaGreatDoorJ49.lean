import Derived.Test.YtnhbidpdadkcjaaGreatDoorJ48
open Go.RowKit
set_option linter.unusedVariables false
set_option linter.unusedSimpArgs false
set_option maxRecDepth 100000
set_option maxHeartbeats 8000000
open List (any_cons take_of_length_le map_cons map_nil length_cons sum_cons)
open Option (getD_some)
open Nat (zero_le le_add_left one_pos mul_le_mul_right)
namespace Go.Proofs.YtnhbidpdadkcjaaGreatDoor
open Tryz
def lB {α:Type}(p:α→Bool):List α→Nat→Int
 |[],_ => -1
 |x::r,i=>if p x=true then i else lB p r (i+1)
theorem yU {α:Type}(p:α→Bool):∀(l:List α) (i:Nat),(0≤lB p l i)↔l.any p=true
 |[],i=>by unfold lB;simp
 |x::r,i=>by
  unfold lB;rw[any_cons];split
  ·rename_i h;rw[h];simp
  ·rename_i h;have h:p x=false:=by simpa using h
   rw[h,Bool.false_or];exact yU p r (i+1)
theorem Bx {α:Type}{p:α→Bool}{l:List α}{i:Nat}{x:α}(h:l[i]? = some x):lB p (l.drop i) i=if p x=true then(i:Int) else lB p (l.drop (i+1)) (i+1):=by
 have hi:=(List.getElem?_eq_some_iff.1 h);obtain⟨h1,h2⟩:=hi;rw[List.drop_eq_getElem_cons h1,h2];rfl
def vq (g:FuncId)(n:ByteArray):Bool:=if g=53 then !da (aa n) else !fx n
abbrev XW:ao prog 57 :=
 mz1 func57 (bu) ((fun s=>s.size≤maxLen)) ((fun s=>.ret (bv (fx s)))) (asP fun s hs=>by
 refine aq [⟨_,Ly.nameS⟩] rfl ?_;cases hn:da (aa s) with
 |false=>simp only[go_sem,Ly.name_run,Ly.name_pan,hs,hn,fx,Bool.false_and]
 |true =>
  by_cases hd:s=(⟨#[46]⟩:ByteArray)
  ·have e:fx s=false:=by unfold fx;rw[hn,decide_eq_true (show s=lO from hd)];rfl
   simp only[go_sem,Ly.name_run,Ly.name_pan,hs,hn,e,eq_true hd]
  ·have e:fx s=true:=by unfold fx;rw[hn,decide_eq_false (show ¬s=lO from hd)];rfl
   simp only[go_sem,Ly.name_run,Ly.name_pan,hs,hn,e,hd])
abbrev XC:ao prog 53 :=
 mz1 func53 (bu) ((fun s=>s.size≤maxLen)) ((fun s=>.ret (bv (!da (aa s))))) (asP fun s hs=>by
 refine aq [⟨_,Ly.nameS⟩] rfl ?_;cases hn:da (aa s)<;>simp only[go_sem,Ly.name_run,Ly.name_pan,hs,hn])
abbrev XD:ao prog 56 :=
 mz1 func56 (bu) ((fun s=>s.size≤maxLen)) ((fun s=>.ret (bv (!fx s)))) (asP fun s hs=>by
 refine aq [⟨_,XW⟩] rfl ?_;cases hn:fx s<;>simp only[go_sem,hs,hn])
def Pz (l:List ByteArray)(g:FuncId):Prop:=l.length≤1000000∧(∀n∈l,n.size≤maxLen)∧(g=53∨g=56)
theorem OB (l:List ByteArray)(g:FuncId)(h:Pz l g):Sw f119 0 ⟨0,aA 0 [qi.enc l,tFn.enc g],[]⟩ (oQ f119 (.ret (iv (lB (vq g) l 0)))):=by
 refine aq [] rfl ?_;obtain⟨h6,hs,hg⟩:=h;simp only[go_sem];refine bm (ι:=Nat) (fun i=>i≤l.length∧lB (vq g) (l.drop i) i=lB (vq g) l 0) (fun i=>⟨0,[(0,qi.enc l),(1,tFn.enc g),(7,iv l.length),(8,iv i)],[]⟩) (fun i=>l.length-i) 0 ⟨zero_le _,rfl⟩ (wR []) ?_;rintro i ⟨hi,ht⟩;refine aw [⟨_,XC⟩,⟨_,XD⟩] ?_;by_cases hlt:i<l.length
 ·have hltI:(i:Int)<l.length:=by omega
  obtain⟨r,hr⟩:∃r,l[i]? = some r:=⟨_,List.getElem?_eq_getElem hlt⟩;have hsz:=hs r (List.mem_of_getElem? hr);have ei:=wI i;rw[Bx hr]at ht;cases hp:vq g r with
  |true =>
   rw[hp,if_pos rfl]at ht;rcases hg with rfl | rfl
   ·have e1:(!da (aa r))=true:=hp;simp only[go_sem,hlt,hltI,hr,hsz,e1,←ht]
   ·have e1:(!fx r)=true:=hp;simp only[go_sem,hlt,hltI,hr,hsz,e1,←ht]
  |false =>
   rw[hp,if_neg (by simp)]at ht;rcases hg with rfl | rfl
   ·have e1:(!da (aa r))=false:=hp;simp only[go_sem,hlt,hltI,hr,hsz,e1,ei];exact⟨i+1,⟨hlt,ht⟩,by omega,wR []⟩
   ·have e1:(!fx r)=false:=hp;simp only[go_sem,hlt,hltI,hr,hsz,e1,ei];exact⟨i+1,⟨hlt,ht⟩,by omega,wR []⟩
 ·obtain rfl:i=l.length:=by omega
  have hI:¬(l.length:Int)<l.length:=by omega
  have e:lB (vq g) l 0 = -1:=by rw[←ht,List.drop_length];rfl
  simp only[go_sem,hI,e]
abbrev Vu:ao prog 119 :=
 mz2 func119 (qi) (tFn) (Pz) ((fun l g=>.ret (iv (lB (vq g) l 0)))) (asP fun l g h=>OB l g h)
abbrev Vi:ao prog 55 :=
 mz2 func55 (qi) (tFn) (Pz) ((fun l g=>.ret (bv (l.any (vq g))))) (asP fun l g h=>by
 refine aq [⟨_,Vu⟩] rfl ?_;have hD:∀l:List ByteArray,dg dZ.dec (l.map dZ.enc)=some l:=ez dZ;simp only[dZ]at hD;have hx:=yU (vq g) l 0;cases ha:l.any (vq g) with
 |true =>
  rw[ha]at hx;have h1:0≤lB (vq g) l 0:=hx.2 rfl;simp only[go_sem,hD,h,eq_true h1]
 |false =>
  rw[ha]at hx;have h1:¬0≤lB (vq g) l 0:=fun h=>by cases hx.1 h
  simp only[go_sem,hD,h,h1])
abbrev J1:Ty (List Int):=tSl 1 (gw .i64)
theorem SH (l:List Int)(v:Int)(h:l.length≤1000000):Sw f166 0 ⟨0,aA 0 [J1.enc l,iv v],[]⟩ (oQ f166 (.ret (iv (lB (fun x=>decide (v=x)) l 0)))):=by
 refine aq [] rfl ?_;simp only[go_sem];refine bm (ι:=Nat) (fun i=>i≤l.length∧lB (fun x=>decide (v=x)) (l.drop i) i=lB (fun x=>decide (v=x)) l 0) (fun i=>⟨0,[(0,J1.enc l),(1,iv v),(7,iv l.length),(8,iv i)],[]⟩) (fun i=>l.length-i) 0 ⟨zero_le _,rfl⟩ (wR []) ?_;rintro i ⟨hi,ht⟩;refine aw [] ?_;by_cases hlt:i<l.length
 ·have hltI:(i:Int)<l.length:=by omega
  obtain⟨r,hr⟩:∃r,l[i]? = some r:=⟨_,List.getElem?_eq_getElem hlt⟩;have ei:=wI i;rw[Bx hr]at ht;by_cases hp:v=r
  ·rw[if_pos (decide_eq_true hp)]at ht;simp only[go_sem,hlt,hltI,hr,eq_true hp,←ht]
  ·rw[if_neg (by rw[decide_eq_false hp];simp)]at ht;simp only[go_sem,hlt,hltI,hr,hp,ei];exact⟨i+1,⟨hlt,ht⟩,by omega,wR []⟩
 ·obtain rfl:i=l.length:=by omega
  have hI:¬(l.length:Int)<l.length:=by omega
  have e:lB (fun x=>decide (v=x)) l 0 = -1:=by rw[←ht,List.drop_length];rfl
  simp only[go_sem,hI,e]
abbrev XS:ao prog 166 :=
 mz2 func166 (J1) (bN .i64) ((fun l _=>l.length≤1000000)) ((fun l v=>.ret (iv (lB (fun x=>decide (v=x)) l 0)))) (asP fun l v h=>SH l v h)
abbrev XG:ao prog 121 :=
 mz2 func121 (J1) (bN .i64) ((fun l _=>l.length≤1000000)) ((fun l v=>.ret (bv (l.any fun x=>decide (v=x))))) (asP fun l v h=>by
 refine aq [⟨_,XS⟩] rfl ?_;have hD:∀l:List Int,dg (gw .i64).dec (l.map (gw .i64).enc)=some l:=ez (gw .i64);simp only[gw]at hD;have hx:=yU (fun x=>decide (v=x)) l 0;cases ha:l.any (fun x=>decide (v=x)) with
 |true =>
  rw[ha]at hx;have h1:0≤lB (fun x=>decide (v=x)) l 0:=hx.2 rfl;simp only[go_sem,hD,h,eq_true h1]
 |false =>
  rw[ha]at hx;have h1:¬0≤lB (fun x=>decide (v=x)) l 0:=fun h=>by cases hx.1 h
  simp only[go_sem,hD,h,h1])
def dB (l:List Int):Blk:=⟨true,3,1,(l.map (gw .i64).enc).map bw⟩
def iu:List LV→Option Int
 |[.v (.int .i64 z)]=>some z
 |_=>none
theorem KL (c:List LV)(x:Int)(h:iu c=some x):c=[.v (.int .i64 x)]:=by
 unfold iu at h;split at h
 ·injection h with h;subst h;rfl
 ·cases h
def CH:List LV→Option StV
 |[.d (.sd 1 ls),.v (.int .i64 k),.v (.string nm),.d (.sd 15 os),.d (.sd 1 ns),.v (.int .i64 sz),.d (.sd 3 vs),.d (.sd 1 bs)]=>TV [.sd 1 ls,.v (.int .i64 k),.v (.string nm),.sd 15 os,.sd 1 ns,.v (.int .i64 sz),.sd 3 vs,.sd 1 bs]
 |_=>none
theorem GU {c:List LV}{s:StV}(h:CH c=some s):c=bw (aW s):=by
 unfold CH at h;split at h
 ·rename_i ls k nm os ns sz vs bs;have e:[D.sd 1 ls,.v (.int .i64 k),.v (.string nm),.sd 15 os,.sd 1 ns,.v (.int .i64 sz),.sd 3 vs,.sd 1 bs]=aW s:=Du.inv (show Du.dec _=some s from h);rw[←e];rfl
 ·cases h
theorem jC (s:StV):CH (bw (aW s))=some s:=Du.back s
def gj (h:ai):List AV→Option (Prop×List Nat×(List Int×StV))
 |[.s (.l (.sl b 0 n)),.s (.l (.p c 0 0))]=>match hget h b,hget h c with
  |some ⟨true,T,1,rows⟩,some ⟨true,T2,8,[cells]⟩=>match aY iu rows,CH cells with
   |some l,some s=>if T=3∧T2=41∧n=l.length∧c≠b then some (l.length≤1000000,[c,b],(l,s)) else none
   |_,_=>none
  |_,_=>none
 |_=>none
theorem Ec {h:ai}{zs:List AV}{q:Prop}{bs:List Nat}{l:List Int}{s:StV}(hd:gj h zs=some (q,bs,(l,s))):∃b c,zs=[.s (.l (.sl b 0 l.length)),pv c 0 0]∧bs=[c,b]∧q=(l.length≤1000000)∧c≠b∧hget h b=some (dB l)∧hget h c=some (dv s):=by
 unfold gj at hd;split at hd
 case h_2=>cases hd
 rename_i b n c;split at hd
 case h_2=>cases hd
 rename_i T rows T2 cells h1 h2;split at hd
 case h_2=>cases hd
 rename_i l' s' e1 e2;split at hd
 case isFalse=>cases hd
 rename_i hk;obtain⟨rfl,rfl,rfl,hne⟩:=hk;simp only[Option.some.injEq,Prod.mk.injEq]at hd;obtain⟨rfl,rfl,rfl,rfl⟩:=hd;refine⟨b,c,rfl,rfl,rfl,hne,?_,?_⟩
 ·rw[h1,jw KL e1];unfold dB;rw[List.map_map];rfl
 ·rw[h2,GU e2];rfl
theorem GV {h h':ai}(hs:∀b k,hget h b=some k→hget h' b=some k){zs:List AV}{r:Prop×List Nat×(List Int×StV)}(hd:gj h zs=some r):gj h' zs=some r:=by
 unfold gj at hd ⊢;split at hd
 case h_2=>cases hd
 split at hd
 case h_2=>cases hd
 rename_i h1 h2;simp only[hs _ _ h1,hs _ _ h2];exact hd
theorem E3 (l:List Int)(g:Nat→Nat):(dB l).ren g=dB l:=by
 unfold dB Blk.ren;simp[Function.comp_def,gw,bw,ofD,LV.ren]
theorem FZ (s:StV)(g:Nat→Nat):(dv s).ren g=dv s:=rfl
def lJ (l:List Int)(s:StV):Bool:=l.any fun x=>decide (s.kind=x)
theorem XZ {s:StV}{st:St}{r:AV}(hr:r.plain=true)(h0:hget st.h 0=some (dv s)):oA 1 st (.ret r [some (dv s)] []) (some r):=by
 refine⟨hr,[some (dv s)],[],rfl,rfl,by simp,by simp[dv],by simp,Wk.ren [0] (by intro j hj;have:j=0:=(by simpa using hj);subst this;rfl) (Nat.le_refl _) (by simp) (fun p hp=>by cases hp) ?_⟩;intro q hq k hk;simp only[gh,aN,List.cons_append,List.nil_append,List.mem_cons,List.not_mem_nil,or_false]at hq;subst hq;simp only[Option.some.injEq]at hk;subst hk;simp only[List.getD_eq_getElem?_getD,List.getElem?_cons_zero,getD_some,h0,FZ]
theorem Q1 (l:List Int)(s:StV)(h:l.length≤1000000):Sw f120 1 ⟨2,aA 0 [.s (.l (.sl 1 0 l.length)),pv 0 0 0],aN 0 [dv s,dB l]⟩ (oR f120 1 (.ret (bv (lJ l s)) [some (dv s)] [])):=by
 have e:AV.toD (aN 0 [dv s,dB l]) 4 (.s (.l (.sl 1 0 l.length)))=some (l.length≤l.length∧True,[1],.s (.l (.d (.sd 1 (l.map (gw .i64).enc))))):=by
  have hm:dA (dA (LV.toD (aN 0 [dv s,dB l]) 3)) ((dB l).els.take l.length)=some (True,[],l.map (gw .i64).enc):=by
   rw[take_of_length_le (by simp[dB])];exact gy
  have hg:hget (aN 0 [dv s,dB l]) 1=some (dB l):=rfl;have hl:(dB l).els.length=l.length:=by simp[dB]
  have ho:(dB l).own=true:=rfl;have hz:(dB l).sz=1:=rfl;simp only[AV.toD,SV.toD,LV.toD,hg,ho,if_true,List.drop_zero,hm,hl,hz,Nat.zero_add,Option.map_some];rfl
 refine SW.wk ?_ (Wk.frz 0 e ⟨Nat.le_refl _,trivial⟩);refine aq [⟨_,XG⟩] rfl ?_;have hD:∀l:List Int,dg (gw .i64).dec (l.map (gw .i64).enc)=some l:=ez (gw .i64);simp only[gw]at hD;simp only[go_sem,dv,aW,hD,h];exact XZ (s:=s) rfl rfl
def tv:ao prog 120 :=
 mkR 1 2 (by decide) _ _ _ func120 rfl (fun _ _=>by go_simp) gj (fun x=>[.s (.l (.sl 1 0 x.1.length)),pv 0 0 0]) (fun x=>[dv x.2,dB x.1]) (fun x=>.ret (bv (lJ x.1 x.2)) [some (dv x.2)] [])
  (fun hs hd=>GV hs hd)
  (by
   rintro h zs q bs ⟨l,s⟩ hd hq;obtain⟨b,c,rfl,rfl,rfl,hne,h1,h2⟩:=Ec hd;refine⟨by rw[ntmps120];simp,rfl,rfl,by simp[hne],fun d=>⟨?_,?_⟩⟩
   ·intro j b' k hj hk
    match j,hj,hk with
    |0,hj,hk =>
     simp at hj hk;subst hj;subst hk;exact⟨rfl,by rw[h2,FZ]⟩
    |1,hj,hk =>
     simp at hj hk;subst hj;subst hk;exact⟨rfl,by rw[h1,E3]⟩
   ·intro ρ al vals hA
    match vals,hA with
    |[v,u],⟨a,b,_⟩=>exact⟨a,b,trivial⟩)
  (by
   rintro h zs q bs ⟨l,s⟩ hd hq;obtain⟨b,c,rfl,rfl,rfl,hne,h1,h2⟩:=Ec hd;exact Q1 l s hq)
theorem cj {id:Nat}{h:ai}{args:List AV}:tv.run id h args=kM 1 gj (fun x=>.ret (bv (lJ x.1 x.2)) [some (dv x.2)] []) id h args:=rfl
theorem ci {id:Nat}{h:ai}{args:List AV}:tv.pan id h args=kf gj (fun x=>.ret (bv (lJ x.1 x.2)) [some (dv x.2)] []) h args:=rfl
def sG:Code→Code
 |.seq _ (.seq _ (.seq (.block _ x) _))=>x
 |c=>c
def pg:Code→Code
 |.seq _ (.seq _ (.seq _ c))=>c
 |c=>c
def gk:Code→Code
 |.seq _ (.cond _ _ y)=>y
 |c=>c
noncomputable def usB:Code:=f58.body.getD .skip
noncomputable def usQ (o:PO):Exit→St→Prop:=CC 0 (lI (fun s=>SW prog ⟨none,0⟩ f58.ntmps (pg usB) s (r8 prog f58.results.toList o)) (r8 prog f58.results.toList o))
def usS (s:StV):St:=⟨1,[(1,pv 0 0 0),(3,.fn 120 [] [.p 0 0 0])],aN 0 [dv s]⟩
def g0 (s:StV):Bool:=decide (0≤s.kind∧s.kind≤7)
def g1 (s:StV):Bool:=decide (s.name=emp∧s.opers=[])||lJ [1] s
def g2 (s:StV):Bool:=decide (s.names=[])||lJ [2,3,7] s
def g3 (s:StV):Bool:=decide (s.vals=[])||lJ [4,5,7] s
def g4 (s:StV):Bool:=decide (s.size=0)||lJ [5] s
def g5 (s:StV):Bool:=decide (s.bytes=[])||lJ [6] s
theorem v6 (s:St):SW prog ⟨none,0⟩ f58.ntmps (pg usB) s (r8 prog f58.results.toList (.ret (bv false))):=by
 unfold usB;simp only[f58,getD_some,pg];refine aw [] ?_;simp only[go_sem]
theorem ZB (s:StV):SW prog ⟨none,0⟩ f58.ntmps (gk (gk (gk (gk (gk (gk (sG usB))))))) (usS s) (usQ (.ret (bv true))):=by
 unfold usB;simp only[f58,getD_some,sG,gk];refine aw [] ?_;unfold usQ usS;rw[results58];simp only[go_sem,CC,lI]
theorem ZA (s:StV):SW prog ⟨none,0⟩ f58.ntmps (gk (gk (gk (gk (gk (sG usB)))))) (usS s) (usQ (.ret (bv (g5 s)))):=by
 have hSt:=jC s;simp only[aW,dZ,gw,bw,ofD,map_cons,map_nil]at hSt;have nxt:=ZB s;have hbad:=v6;unfold usB at nxt hbad ⊢;simp only[f58,getD_some,sG,gk,pg]at nxt hbad ⊢;unfold usS;refine iG (bd (ctx:=[⟨_,tv⟩]) 4000 ?_);by_cases a1:s.bytes=[]
 ·have e:g5 s=true:=by unfold g5;rw[decide_eq_true a1];rfl
  have hl:¬(0:Int)<s.bytes.length:=by rw[a1];decide
  rw[e];simp only[go_sem,dv,aW,gj,hSt,aY,iu,cj,ci,hl];refine eS (q:=false) rfl (fun h=>by cases h) fun _=>?_;exact SW.wk nxt (Wk.renL [0] (by simp) (Nat.le_refl 1) (by decide) rfl rfl)
 ·have hl:(0:Int)<s.bytes.length:=by have:=List.length_pos_iff.2 a1;omega
  cases hU:lJ [6] s with
  |true =>
   have e:g5 s=true:=by unfold g5;rw[hU,Bool.or_true]
   rw[e];simp only[go_sem,dv,aW,gj,hSt,aY,iu,cj,ci,hl,hU];refine eS (q:=false) rfl (fun h=>by cases h) fun _=>?_;exact SW.wk nxt (Wk.renL [0] (by simp) (Nat.le_refl 1) (by decide) rfl rfl)
  |false =>
   have e:g5 s=false:=by unfold g5;rw[hU,decide_eq_false a1];rfl
   rw[e];simp only[go_sem,dv,aW,gj,hSt,aY,iu,cj,ci,hl,hU];refine eS (q:=true) rfl (fun _=>?_) fun h=>by cases h
   exact bd (ctx:=[]) 4000 (hbad _)
theorem Zz (s:StV):SW prog ⟨none,0⟩ f58.ntmps (gk (gk (gk (gk (sG usB))))) (usS s) (usQ (.ret (bv (g4 s&&(g5 s))))):=by
 have hSt:=jC s;simp only[aW,dZ,gw,bw,ofD,map_cons,map_nil]at hSt;have nxt:=ZA s;have hbad:=v6;unfold usB at nxt hbad ⊢;simp only[f58,getD_some,sG,gk,pg]at nxt hbad ⊢;unfold usS;refine iG (bd (ctx:=[⟨_,tv⟩]) 4000 ?_);by_cases a1:s.size=0
 ·have e:g4 s=true:=by unfold g4;rw[decide_eq_true a1];rfl
  rw[e,Bool.true_and];simp only[go_sem,dv,aW,gj,hSt,aY,iu,cj,ci,eq_true a1];refine eS (q:=false) rfl (fun h=>by cases h) fun _=>?_;exact SW.wk nxt (Wk.renL [0] (by simp) (Nat.le_refl 1) (by decide) rfl rfl)
 ·skip
  cases hU:lJ [5] s with
  |true =>
   have e:g4 s=true:=by unfold g4;rw[hU,Bool.or_true]
   rw[e,Bool.true_and];simp only[go_sem,dv,aW,gj,hSt,aY,iu,cj,ci,a1,hU];refine eS (q:=false) rfl (fun h=>by cases h) fun _=>?_;exact SW.wk nxt (Wk.renL [0] (by simp) (Nat.le_refl 1) (by decide) rfl rfl)
  |false =>
   have e:g4 s=false:=by unfold g4;rw[hU,decide_eq_false a1];rfl
   rw[e,Bool.false_and];simp only[go_sem,dv,aW,gj,hSt,aY,iu,cj,ci,a1,hU];refine eS (q:=true) rfl (fun _=>?_) fun h=>by cases h
   exact bd (ctx:=[]) 4000 (hbad _)
theorem Zy (s:StV):SW prog ⟨none,0⟩ f58.ntmps (gk (gk (gk (sG usB)))) (usS s) (usQ (.ret (bv (g3 s&&(g4 s&&(g5 s)))))):=by
 have hSt:=jC s;simp only[aW,dZ,gw,bw,ofD,map_cons,map_nil]at hSt;have nxt:=Zz s;have hbad:=v6;unfold usB at nxt hbad ⊢;simp only[f58,getD_some,sG,gk,pg]at nxt hbad ⊢;unfold usS;refine iG (bd (ctx:=[⟨_,tv⟩]) 4000 ?_);by_cases a1:s.vals=[]
 ·have e:g3 s=true:=by unfold g3;rw[decide_eq_true a1];rfl
  have hl:¬(0:Int)<s.vals.length:=by rw[a1];decide
  rw[e,Bool.true_and];simp only[go_sem,dv,aW,gj,hSt,aY,iu,cj,ci,hl];refine eS (q:=false) rfl (fun h=>by cases h) fun _=>?_;exact SW.wk nxt (Wk.renL [0] (by simp) (Nat.le_refl 1) (by decide) rfl rfl)
 ·have hl:(0:Int)<s.vals.length:=by have:=List.length_pos_iff.2 a1;omega
  cases hU:lJ [4,5,7] s with
  |true =>
   have e:g3 s=true:=by unfold g3;rw[hU,Bool.or_true]
   rw[e,Bool.true_and];simp only[go_sem,dv,aW,gj,hSt,aY,iu,cj,ci,hl,hU];refine eS (q:=false) rfl (fun h=>by cases h) fun _=>?_;exact SW.wk nxt (Wk.renL [0] (by simp) (Nat.le_refl 1) (by decide) rfl rfl)
  |false =>
   have e:g3 s=false:=by unfold g3;rw[hU,decide_eq_false a1];rfl
   rw[e,Bool.false_and];simp only[go_sem,dv,aW,gj,hSt,aY,iu,cj,ci,hl,hU];refine eS (q:=true) rfl (fun _=>?_) fun h=>by cases h
   exact bd (ctx:=[]) 4000 (hbad _)
theorem Zx (s:StV):SW prog ⟨none,0⟩ f58.ntmps (gk (gk (sG usB))) (usS s) (usQ (.ret (bv (g2 s&&(g3 s&&(g4 s&&(g5 s))))))):=by
 have hSt:=jC s;simp only[aW,dZ,gw,bw,ofD,map_cons,map_nil]at hSt;have nxt:=Zy s;have hbad:=v6;unfold usB at nxt hbad ⊢;simp only[f58,getD_some,sG,gk,pg]at nxt hbad ⊢;unfold usS;refine iG (bd (ctx:=[⟨_,tv⟩]) 4000 ?_);by_cases a1:s.names=[]
 ·have e:g2 s=true:=by unfold g2;rw[decide_eq_true a1];rfl
  have hl:¬(0:Int)<s.names.length:=by rw[a1];decide
  rw[e,Bool.true_and];simp only[go_sem,dv,aW,gj,hSt,aY,iu,cj,ci,hl];refine eS (q:=false) rfl (fun h=>by cases h) fun _=>?_;exact SW.wk nxt (Wk.renL [0] (by simp) (Nat.le_refl 1) (by decide) rfl rfl)
 ·have hl:(0:Int)<s.names.length:=by have:=List.length_pos_iff.2 a1;omega
  cases hU:lJ [2,3,7] s with
  |true =>
   have e:g2 s=true:=by unfold g2;rw[hU,Bool.or_true]
   rw[e,Bool.true_and];simp only[go_sem,dv,aW,gj,hSt,aY,iu,cj,ci,hl,hU];refine eS (q:=false) rfl (fun h=>by cases h) fun _=>?_;exact SW.wk nxt (Wk.renL [0] (by simp) (Nat.le_refl 1) (by decide) rfl rfl)
  |false =>
   have e:g2 s=false:=by unfold g2;rw[hU,decide_eq_false a1];rfl
   rw[e,Bool.false_and];simp only[go_sem,dv,aW,gj,hSt,aY,iu,cj,ci,hl,hU];refine eS (q:=true) rfl (fun _=>?_) fun h=>by cases h
   exact bd (ctx:=[]) 4000 (hbad _)
theorem Zw (s:StV):SW prog ⟨none,0⟩ f58.ntmps (gk (sG usB)) (usS s) (usQ (.ret (bv (g1 s&&(g2 s&&(g3 s&&(g4 s&&(g5 s)))))))):=by
 have hSt:=jC s;simp only[aW,dZ,gw,bw,ofD,map_cons,map_nil]at hSt;have nxt:=Zx s;have hbad:=v6;unfold usB at nxt hbad ⊢;simp only[f58,getD_some,sG,gk,pg]at nxt hbad ⊢;unfold usS;refine iG (bd (ctx:=[⟨_,tv⟩]) 4000 ?_);by_cases a1:s.name=emp
 ·by_cases a2:s.opers=[]
  ·have e:g1 s=true:=by unfold g1;rw[decide_eq_true ⟨a1,a2⟩];rfl
   have hl:¬(0:Int)<s.opers.length:=by rw[a2];decide
   rw[e,Bool.true_and];simp only[go_sem,dv,aW,gj,hSt,aY,iu,cj,ci,ac,eq_true a1,hl];refine eS (q:=false) rfl (fun h=>by cases h) fun _=>?_;exact SW.wk nxt (Wk.renL [0] (by simp) (Nat.le_refl 1) (by decide) rfl rfl)
  ·have hl:(0:Int)<s.opers.length:=by have:=List.length_pos_iff.2 a2;omega
   cases hU:lJ [1] s with
   |true =>
    have e:g1 s=true:=by unfold g1;rw[hU,Bool.or_true]
    rw[e,Bool.true_and];simp only[go_sem,dv,aW,gj,hSt,aY,iu,cj,ci,ac,eq_true a1,hl,hU];refine eS (q:=false) rfl (fun h=>by cases h) fun _=>?_;exact SW.wk nxt (Wk.renL [0] (by simp) (Nat.le_refl 1) (by decide) rfl rfl)
   |false =>
    have e:g1 s=false:=by unfold g1;rw[hU,decide_eq_false (fun h=>a2 h.2)];rfl
    rw[e,Bool.false_and];simp only[go_sem,dv,aW,gj,hSt,aY,iu,cj,ci,ac,eq_true a1,hl,hU];refine eS (q:=true) rfl (fun _=>?_) fun h=>by cases h
    exact bd (ctx:=[]) 4000 (hbad _)
 ·skip
  cases hU:lJ [1] s with
  |true =>
   have e:g1 s=true:=by unfold g1;rw[hU,Bool.or_true]
   rw[e,Bool.true_and];simp only[go_sem,dv,aW,gj,hSt,aY,iu,cj,ci,ac,a1,hU];refine eS (q:=false) rfl (fun h=>by cases h) fun _=>?_;exact SW.wk nxt (Wk.renL [0] (by simp) (Nat.le_refl 1) (by decide) rfl rfl)
  |false =>
   have e:g1 s=false:=by unfold g1;rw[hU,decide_eq_false (fun h=>a1 h.1)];rfl
   rw[e,Bool.false_and];simp only[go_sem,dv,aW,gj,hSt,aY,iu,cj,ci,ac,a1,hU];refine eS (q:=true) rfl (fun _=>?_) fun h=>by cases h
   exact bd (ctx:=[]) 4000 (hbad _)
theorem Zv (s:StV):SW prog ⟨none,0⟩ f58.ntmps (sG usB) (usS s) (usQ (.ret (bv (g0 s&&(g1 s&&(g2 s&&(g3 s&&(g4 s&&(g5 s))))))))):=by
 have hSt:=jC s;simp only[aW,dZ,gw,bw,ofD,map_cons,map_nil]at hSt;have nxt:=Zw s;have hbad:=v6;unfold usB at nxt hbad ⊢;simp only[f58,getD_some,sG,gk,pg]at nxt hbad ⊢;unfold usS;refine iG (bd (ctx:=[]) 4000 ?_);by_cases k1:s.kind<0
 ·have e:g0 s=false:=by unfold g0;exact decide_eq_false (by omega)
  rw[e,Bool.false_and];simp only[go_sem,dv,aW,gj,hSt,aY,iu,cj,ci,eq_true k1];refine eS (q:=true) rfl (fun _=>?_) fun h=>by cases h
  exact bd (ctx:=[]) 4000 (hbad _)
 by_cases k2:7<s.kind
 ·have e:g0 s=false:=by unfold g0;exact decide_eq_false (by omega)
  rw[e,Bool.false_and];simp only[go_sem,dv,aW,gj,hSt,aY,iu,cj,ci,k1,eq_true k2];refine eS (q:=true) rfl (fun _=>?_) fun h=>by cases h
  exact bd (ctx:=[]) 4000 (hbad _)
 have e:g0 s=true:=by unfold g0;exact decide_eq_true (by omega)
 rw[e,Bool.true_and];simp only[go_sem,dv,aW,gj,hSt,aY,iu,cj,ci,k1,k2];refine eS (q:=false) rfl (fun h=>by cases h) fun _=>?_;exact SW.wk nxt (Wk.renL [0] (by simp) (Nat.le_refl 1) (by decide) rfl rfl)
theorem Q2 (s:StV):(g0 s&&(g1 s&&(g2 s&&(g3 s&&(g4 s&&(g5 s))))))=lx s:=by
 unfold lx g0 g1 g2 g3 g4 g5 lJ;simp only[any_cons,List.any_nil,Bool.or_false,Bool.and_true,Bool.and_assoc,Bool.decide_or]
abbrev YS:ao prog 58 :=
 mz1 func58 (rm) ((fun _=>True)) ((fun s=>.ret (bv (lx s)))) (asP fun s _=>by
 have h0:=Zv s;rw[Q2]at h0;unfold usQ usB at h0;rw[results58]at h0 ⊢;simp only[f58,getD_some,aA,sG,pg]at h0 ⊢;refine iG (bd (ctx:=[]) 4000 ?_);simp only[go_sem,cD,aW];refine iG (bd (ctx:=[]) 4000 ?_);simp only[go_sem];exact iG (QK (SW.wk h0 (Wk.renL [0] (by simp) (Nat.le_refl 1) (by decide) rfl rfl))))
theorem KJ (s:StV)(hs:s.name.size≤maxLen):Sw f59 0 ⟨0,aA 0 [rm.enc s],[]⟩ (oQ f59 (.ret (bv (aP s)))):=by
 refine aq [⟨_,Ly.nameS⟩,⟨_,nL⟩] rfl ?_;simp only[go_sem,cD,aW];refine sD mixed [] [] ?_;by_cases k1:s.kind=1
 ·cases hn:da (aa s.name) with
  |false =>
   have e:aP s=false:=by unfold aP;rw[if_pos k1];rw[hn];rfl
   simp only[go_sem,aW,Ly.name_run,Ly.name_pan,hs,eq_true k1,hn,e]
  |true =>
   cases hp:bL s.name (⟨#[46]⟩:ByteArray) with
   |false =>
    have e:aP s=true:=by unfold aP;rw[if_pos k1];rw[hn,show bL s.name lO=false from hp];rfl
    simp only[go_sem,aW,Ly.name_run,Ly.name_pan,hs,eq_true k1,hn,hp,e]
   |true =>
    have e:aP s=false:=by unfold aP;rw[if_pos k1];rw[hn,show bL s.name lO=true from hp];rfl
    simp only[go_sem,aW,Ly.name_run,Ly.name_pan,hs,eq_true k1,hn,hp,e]
 by_cases k2:s.kind=2
 ·by_cases n1:s.names.length=1
  ·have n2:((s.names.length:Int)=1)=True:=eq_true (by omega);have b1:((s.names.length:Int)==1)=true:=beq_iff_eq.2 (by omega);have e:aP s=true:=by unfold aP;rw[if_neg k1];rw[if_pos k2];exact decide_eq_true n1
   simp only[go_sem,aW,Ly.name_run,Ly.name_pan,hs,k1,eq_true k2,n2,b1,e]
  ·have n2:¬((s.names.length:Int)=1):=by omega
   have b1:((s.names.length:Int)==1)=false:=beq_eq_false_iff_ne.2 (by omega);have e:aP s=false:=by unfold aP;rw[if_neg k1];rw[if_pos k2];exact decide_eq_false n1
   simp only[go_sem,aW,Ly.name_run,Ly.name_pan,hs,k1,eq_true k2,n2,b1,e]
 by_cases k3:s.kind=3
 ·by_cases n1:0<s.names.length
  ·have n2:((0:Int)<s.names.length)=True:=eq_true (by omega);have e:aP s=true:=by unfold aP;rw[if_neg k1];rw[if_neg k2];rw[if_pos k3];exact decide_eq_true n1
   simp only[go_sem,aW,Ly.name_run,Ly.name_pan,hs,k1,k2,eq_true k3,n2,e]
  ·have n2:¬((0:Int)<s.names.length):=by omega
   have e:aP s=false:=by unfold aP;rw[if_neg k1];rw[if_neg k2];rw[if_pos k3];exact decide_eq_false n1
   simp only[go_sem,aW,Ly.name_run,Ly.name_pan,hs,k1,k2,eq_true k3,n2,e]
 by_cases k4:s.kind=4
 ·by_cases n1:s.vals.length=1
  ·have n2:((s.vals.length:Int)=1)=True:=eq_true (by omega);have b1:((s.vals.length:Int)==1)=true:=beq_iff_eq.2 (by omega);have e:aP s=true:=by unfold aP;rw[if_neg k1];rw[if_neg k2];rw[if_neg k3];rw[if_pos k4];exact decide_eq_true n1
   simp only[go_sem,aW,Ly.name_run,Ly.name_pan,hs,k1,k2,k3,eq_true k4,n2,b1,e]
  ·have n2:¬((s.vals.length:Int)=1):=by omega
   have b1:((s.vals.length:Int)==1)=false:=beq_eq_false_iff_ne.2 (by omega);have e:aP s=false:=by unfold aP;rw[if_neg k1];rw[if_neg k2];rw[if_neg k3];rw[if_pos k4];exact decide_eq_false n1
   simp only[go_sem,aW,Ly.name_run,Ly.name_pan,hs,k1,k2,k3,eq_true k4,n2,b1,e]
 by_cases k5:s.kind=5
 ·by_cases n1:0<s.vals.length
  case neg =>
   have n2:¬(0:Int)<s.vals.length:=by omega
   have e:aP s=false:=by unfold aP;rw[if_neg k1];rw[if_neg k2];rw[if_neg k3];rw[if_neg k4];rw[if_pos k5];rw[decide_eq_false n1];rfl
   simp only[go_sem,aW,Ly.name_run,Ly.name_pan,hs,k1,k2,k3,k4,eq_true k5,n2,e]
  have n2:((0:Int)<s.vals.length)=True:=eq_true (by omega);by_cases z1:s.size=1
  ·skip
   have e:aP s=true:=by unfold aP;rw[if_neg k1];rw[if_neg k2];rw[if_neg k3];rw[if_neg k4];rw[if_pos k5];rw[decide_eq_true n1,decide_eq_true (.inl z1)];rfl
   simp only[go_sem,aW,Ly.name_run,Ly.name_pan,hs,k1,k2,k3,k4,eq_true k5,n2,eq_true z1,e]
  by_cases z4:s.size=4
  ·skip
   have e:aP s=true:=by unfold aP;rw[if_neg k1];rw[if_neg k2];rw[if_neg k3];rw[if_neg k4];rw[if_pos k5];rw[decide_eq_true n1,decide_eq_true (.inr (.inl z4))];rfl
   simp only[go_sem,aW,Ly.name_run,Ly.name_pan,hs,k1,k2,k3,k4,eq_true k5,n2,z1,eq_true z4,e]
  by_cases z8:s.size=8
  ·skip
   have b4:(s.size==8)=true:=beq_iff_eq.2 (by omega);have e:aP s=true:=by unfold aP;rw[if_neg k1];rw[if_neg k2];rw[if_neg k3];rw[if_neg k4];rw[if_pos k5];rw[decide_eq_true n1,decide_eq_true (.inr (.inr z8))];rfl
   simp only[go_sem,aW,Ly.name_run,Ly.name_pan,hs,k1,k2,k3,k4,eq_true k5,n2,z1,z4,eq_true z8,b4,e]
  have b4:(s.size==8)=false:=beq_eq_false_iff_ne.2 (by omega);have e:aP s=false:=by unfold aP;rw[if_neg k1];rw[if_neg k2];rw[if_neg k3];rw[if_neg k4];rw[if_pos k5];rw[decide_eq_true n1,decide_eq_false (by rintro (h | h | h);exact z1 h;exact z4 h;exact z8 h)];rfl
  simp only[go_sem,aW,Ly.name_run,Ly.name_pan,hs,k1,k2,k3,k4,eq_true k5,n2,z1,z4,z8,b4,e]
 by_cases k7:s.kind=7
 ·by_cases n1:s.names.length=1
  case neg =>
   have n2:¬(s.names.length:Int)=1:=by omega
   have e:aP s=false:=by unfold aP;rw[if_neg k1];rw[if_neg k2];rw[if_neg k3];rw[if_neg k4];rw[if_neg k5];rw[if_pos k7];rw[decide_eq_false n1];rfl
   simp only[go_sem,aW,Ly.name_run,Ly.name_pan,hs,k1,k2,k3,k4,k5,eq_true k7,n2,e]
  have n2:((s.names.length:Int)=1)=True:=eq_true (by omega);by_cases v1:s.vals.length=1
  ·have v2:((s.vals.length:Int)=1)=True:=eq_true (by omega);have b2:((s.vals.length:Int)==1)=true:=beq_iff_eq.2 (by omega);have e:aP s=true:=by unfold aP;rw[if_neg k1];rw[if_neg k2];rw[if_neg k3];rw[if_neg k4];rw[if_neg k5];rw[if_pos k7];rw[decide_eq_true n1,decide_eq_true v1];rfl
   simp only[go_sem,aW,Ly.name_run,Ly.name_pan,hs,k1,k2,k3,k4,k5,eq_true k7,n2,v2,b2,e]
  ·have v2:¬(s.vals.length:Int)=1:=by omega
   have b2:((s.vals.length:Int)==1)=false:=beq_eq_false_iff_ne.2 (by omega);have e:aP s=false:=by unfold aP;rw[if_neg k1];rw[if_neg k2];rw[if_neg k3];rw[if_neg k4];rw[if_neg k5];rw[if_pos k7];rw[decide_eq_true n1,decide_eq_false v1];rfl
   simp only[go_sem,aW,Ly.name_run,Ly.name_pan,hs,k1,k2,k3,k4,k5,eq_true k7,n2,v2,b2,e]
 have e:aP s=true:=by unfold aP;rw[if_neg k1,if_neg k2,if_neg k3,if_neg k4,if_neg k5,if_neg k7]
 simp only[go_sem,aW,Ly.name_run,Ly.name_pan,hs,k1,k2,k3,k4,k5,k7,e]
abbrev Sq:ao prog 59 :=
 mz1 func59 (rm) ((fun s=>s.name.size≤maxLen)) ((fun s=>.ret (bv (aP s)))) (asP fun s h=>KJ s h)
structure StOk (s:StV):Prop where
 labels:s.labels.length≤1000000
 labelT:∀n∈s.labels,n.size≤1099511627776
 name:s.name.size≤1099511627776
 opers:s.opers.length≤1000000
 operT:∀o∈s.opers,okO o
 names:s.names.length≤1000000
 nameT:∀n∈s.names,n.size≤1099511627776
 vals:s.vals.length≤1000000
 valT:∀v∈s.vals,iQ v
 bytes:∀z∈s.bytes,0≤z∧z≤255
 byteT:s.bytes.length≤1000000
theorem Hh {n:Nat}(h:n≤1099511627776):n≤maxLen:=by unfold maxLen;omega
theorem RZ (l:List ByteArray):l.any (vq 56) = !l.all fx:=by
 induction l with
 |nil=>rfl
 |cons x r ih=>rw[any_cons,List.all_cons,ih,Bool.not_and];rfl
theorem R1 (l:List ByteArray):l.any (vq 53) = !l.all fun n=>da (aa n):=by
 induction l with
 |nil=>rfl
 |cons x r ih=>rw[any_cons,List.all_cons,ih,Bool.not_and];rfl
theorem Jd {l:List Val}{i:Nat}{v:Val}(h:l[i]? = some v):kx (l.drop i)=if(Ex.printF v).2=0 then kx (l.drop (i+1)) else(Ex.printF v).2:=by
 obtain⟨h1,h2⟩:=List.getElem?_eq_some_iff.1 h;rw[List.drop_eq_getElem_cons h1,h2];rfl
def Qx (s:StV)(i:Nat):St:=⟨1,[(1,pv 0 0 0),(57,J2.enc s.vals),(58,iv s.vals.length),(59,iv i)],aN 0 [dv s]⟩
theorem MH (s:StV)(H:StOk s)(hx:dT s=if ¬kx s.vals=0 then kx s.vals else kI s.opers):SW prog ⟨none,0⟩ 82 (pg (f22.body.getD .skip)) ⟨1,[(1,pv 0 0 0)],aN 0 [dv s]⟩ (r8 prog f22.results.toList (.ret (iv (dT s)))):=by
 rw[results22];simp only[f22,getD_some,pg];refine iG (bd (ctx:=[]) 4000 ?_);simp only[go_sem,dv,aW];refine aw [] ?_;simp only[go_sem];refine bm (ι:=Nat) (fun i=>i≤s.vals.length∧kx (s.vals.drop i)=kx s.vals) (Qx s) (fun i=>s.vals.length-i) 0 ⟨zero_le _,rfl⟩ (Wk.renL [0] (by simp) (Nat.le_refl 1) (by decide) (by simp only[Qx,map_cons,map_nil,List.length_map];rfl) rfl) ?_;rintro i ⟨hi,ht⟩;unfold Qx;refine aw [⟨_,zJ⟩,⟨_,Dy⟩,⟨_,nL⟩] ?_;have hz:=H.vals;by_cases hlt:i<s.vals.length
 ·have hltI:(i:Int)<s.vals.length:=by omega
  obtain⟨v,hv⟩:∃v,s.vals[i]? = some v:=⟨_,List.getElem?_eq_getElem hlt⟩;have hok:=H.valT v (List.mem_of_getElem? hv);have ei:=wI i;rw[Jd hv]at ht;rcases hp:Ex.printF v with ⟨t,z⟩;rw[hp]at ht;by_cases z0:z=0
  ·subst z0;rw[if_pos rfl]at ht;simp only[go_sem,lI,hltI,hlt,hv,se,bZ,iS,hok,hp,aM,ei];exact⟨i+1,⟨hlt,ht⟩,by omega,Wk.renL [0] (by simp) (Nat.le_refl 1) (by decide) rfl rfl⟩
  ·rw[if_neg z0]at ht;have e:dT s=z:=by rw[hx,←ht,if_pos z0]
   simp only[go_sem,lI,hltI,hlt,hv,se,bZ,iS,hok,hp,aM,z0,e]
 obtain rfl:i=s.vals.length:=by omega
 have hI:¬(s.vals.length:Int)<s.vals.length:=by omega
 have hv0:kx s.vals=0:=by rw[←ht,List.drop_length];rfl
 rw[hv0,if_neg (by simp)]at hx;have hO:=H.operT;have hO2:=H.opers;rcases hT:eE s.opers with ⟨t,z⟩;cases hp:bL t (⟨#[58]⟩:ByteArray) with
 |true =>
  have e:dT s=110:=by rw[hx];unfold kI;rw[hT,if_pos (show bL t aC=true from hp)]
  simp only[go_sem,lI,hI];refine aw [⟨_,Dy⟩,⟨_,nL⟩] ?_;simp only[go_sem,dv,aW,hO2,hT,p9,hp,e];exact hO
 |false =>
  have e:dT s=z:=by rw[hx];unfold kI;rw[hT,if_neg (by rw[show bL t aC=false from hp];simp)]
  simp only[go_sem,lI,hI];refine aw [⟨_,Dy⟩,⟨_,nL⟩] ?_;simp only[go_sem,dv,aW,hO2,hT,p9,hp,e];exact hO
theorem TR (s:StV)(H:StOk s):SW prog ⟨none,0⟩ f22.ntmps (f22.body.getD .skip) ⟨0,aA 0 [rm.enc s],[]⟩ (r8 prog f22.results.toList (.ret (iv (dT s)))):=by
 have tail:=MH s H;rw[ntmps22];rw[results22]at tail ⊢;simp only[f22,getD_some,aA,pg]at tail ⊢;refine iG (bd (ctx:=[]) 4000 ?_);simp only[go_sem,cD,aW];refine iG (bd (ctx:=[]) 4000 ?_);simp only[go_sem];refine iG (bd (ctx:=[⟨_,Vi⟩,⟨_,YS⟩,⟨_,Sq⟩,⟨_,EG⟩]) 4000 ?_);have hD:∀l:List ByteArray,dg dZ.dec (l.map dZ.enc)=some l:=ez dZ;have hSt:=Du.back s;simp only[cD,aW,dZ,gw]at hD hSt;have f1:Pz s.labels 56:=⟨H.labels,fun n hn=>Hh (H.labelT n hn),.inr rfl⟩;have f2:Pz s.names 53:=⟨H.names,fun n hn=>Hh (H.nameT n hn),.inl rfl⟩;have hnm:=Hh H.name;have a1:=RZ s.labels;have a2:=R1 s.names;cases h1:s.labels.all fx with
 |false =>
  have e:dT s=110:=by unfold dT;rw[h1];rfl
  rw[h1]at a1;simp only[go_sem,lI,cD,aW,f1,hD,a1,e]
 |true =>
 rw[h1]at a1;cases h2:lx s with
 |false =>
  have e:dT s=110:=by unfold dT;rw[h1,h2];rfl
  simp only[go_sem,lI,cD,aW,f1,hD,a1,hSt,h2,e]
 |true =>
 have d1:¬(s.labels.all fx&&lx s)=false:=by rw[h1,h2];decide
 by_cases l8:8<s.labels.length
 ·have e:dT s=3:=by unfold dT;rw[if_neg d1,if_pos (.inl l8)]
  have l8I:((8:Int)<s.labels.length)=True:=eq_true (by omega);simp only[go_sem,lI,cD,aW,f1,hD,a1,hSt,h2,e,l8I]
 have l8I:¬(8:Int)<s.labels.length:=by omega
 by_cases l64:(64:Int)<(if(s.names.length:Int)<s.vals.length then(s.vals.length:Int) else s.names.length)
 ·have e:dT s=3:=by unfold dT;rw[if_neg d1,if_pos (by split at l64<;>omega)]
  simp only[go_sem,lI,cD,aW,f1,hD,a1,hSt,h2,e,l8I,eq_true l64]
 have d2:¬(8<s.labels.length∨64<s.names.length∨64<s.vals.length):=by split at l64<;>omega
 cases h3:aP s with
 |false =>
  have e:dT s=110:=by unfold dT;rw[if_neg d1,if_neg d2,h3];rfl
  simp only[go_sem,lI,cD,aW,f1,f2,hD,a1,hSt,h2,l8I,l64,hnm,h3,e]
 |true =>
 cases h4:s.names.all fun n=>da (aa n) with
 |false =>
  have e:dT s=110:=by unfold dT;rw[if_neg d1,if_neg d2,h3,h4];rfl
  rw[h4]at a2;simp only[go_sem,lI,cD,aW,f1,f2,hD,a1,hSt,h2,l8I,l64,hnm,h3,a2,e]
 |true =>
 rw[h4]at a2;have d3:¬(aP s&&s.names.all fun n=>da (aa n))=false:=by rw[h3,h4];decide
 by_cases k4:s.kind=4
 ·have hv:s.vals.length=1:=by
   have h:=h3;unfold aP at h;rw[nG,nG,nG,if_pos k4]at h;exact of_decide_eq_true h
  obtain⟨v,hv1⟩:=List.length_eq_one_iff.1 hv;have g0:s.vals[0]? = some v:=by rw[hv1];rfl
  have g1:s.vals.getD 0 ⟨0,emp,emp⟩=v:=by rw[hv1];rfl
  have hl:(0:Nat)<s.vals.length:=by omega
  have hlI:(0:Int)<s.vals.length:=by omega
  cases ha:gp v with
  |false =>
   have e:dT s=7:=by unfold dT;rw[if_neg d1,if_neg d2,if_neg d3,if_pos ⟨k4,by rw[g1];exact ha⟩]
   simp only[go_sem,lI,cD,aW,f1,f2,hD,a1,hSt,h2,l8I,l64,hnm,h3,a2,eq_true k4,hl,hlI,g0,se,bZ,ha,e]
  |true =>
   have hx:dT s=if ¬kx s.vals=0 then kx s.vals else kI s.opers:=by unfold dT;rw[if_neg d1,if_neg d2,if_neg d3,if_neg (by rintro⟨-,h⟩;rw[g1,ha]at h;cases h)]
   simp only[go_sem,lI,cD,aW,f1,f2,hD,a1,hSt,h2,l8I,l64,hnm,h3,a2,eq_true k4,hl,hlI,g0,se,bZ,ha];exact SW.wk (tail hx) (Wk.renL [0] (by simp) (Nat.le_refl 1) (by decide) rfl rfl)
 ·have hx:dT s=if ¬kx s.vals=0 then kx s.vals else kI s.opers:=by unfold dT;rw[if_neg d1,if_neg d2,if_neg d3,if_neg (fun h=>k4 h.1)]
  simp only[go_sem,lI,cD,aW,f1,f2,hD,a1,hSt,h2,l8I,l64,hnm,h3,a2,k4];exact SW.wk (tail hx) (Wk.renL [0] (by simp) (Nat.le_refl 1) (by decide) rfl rfl)
abbrev UU:ao prog 22 :=
 mz1 func22 (rm) (StOk) ((fun s=>.ret (iv (dT s)))) (asP fun s h=>TR s h)
theorem yW (p:ByteArray){K:Nat}:∀(r:List ByteArray) (x:ByteArray),(∀y∈r,y.size≤K)→(r.foldl (fun a y=>a++p++y) x).size≤x.size+r.length*(K+p.size)
 |[],x,_=>by simp
 |y::r,x,h=>by
  have h1:=h y (by simp);have h2:=yW p r (x++p++y) fun z hz=>h z (by simp[hz]);rw[List.foldl_cons,length_cons,Nat.add_mul];simp only[ByteArray.size_append]at h2;omega
theorem mr {l:List ByteArray}{K:Nat}(h:∀y∈l,y.size≤K):(cO l).size≤l.length*(K+2):=by
 cases l with
 |nil=>exact zero_le _
 |cons x r =>
  have h1:=h x (by simp);have h2:=yW dX r x fun y hy=>h y (by simp[hy]);have h3:dX.size=2:=rfl;rw[h3]at h2;show(r.foldl _ x).size≤_;rw[length_cons,Nat.add_mul];omega
theorem wC:∀(r:List ByteArray) (x:ByteArray),(r.foldl (fun a y=>a++(⟨#[32]⟩:ByteArray)++y) x).data.toList=x.data.toList++Lib.joinTail [32] (r.map (·.data.toList))
 |[],x=>by simp[Lib.joinTail]
 |y::r,x=>by
  rw[List.foldl_cons,wC r];have e:(x++(⟨#[32]⟩:ByteArray)++y).data.toList=x.data.toList++([32]++y.data.toList):=by simp[ByteArray.data_append,Array.toList_append]
  rw[e,map_cons];simp[Lib.joinTail,List.append_assoc]
theorem Lj (l:List ByteArray):oz l (⟨#[32]⟩:ByteArray)=gM l:=by
 cases l with
 |nil=>rfl
 |cons x r =>
  apply ByteArray.ext;rw[←Array.toList_inj];show _=(r.foldl (fun a y=>a++(⟨#[32]⟩:ByteArray)++y) x).data.toList;rw[wC];show Lib.join ((x::r).map (·.data.toList)) [32]=_;rw[←Lib.join_cons];rfl
def Xd (l:List Val)(i:Nat):St:=⟨1,[(3,.s (.l (.sl 0 0 l.length))),(9,J2.enc l),(10,iv l.length),(11,iv i)],[(0,some ⟨true,9,1,lf (bH l) i⟩)]⟩
theorem xO (l:List Val):(bH l).length=l.length:=by unfold bH;rw[List.length_map]
theorem Ng (l:List Val)(hz:l.length≤1000000)(hO:∀v∈l,iQ v):Sw f92 0 ⟨0,aA 0 [J2.enc l],[]⟩ (oQ f92 (.ret (.s (.l (.d (.sd 1 ((bH l).map dZ.enc))))))):=by
 refine aq [] rfl ?_;have hm:maxLen=9223372036854775807:=rfl;have hlen:=xO l;simp only[go_sem];refine⟨by rw[hm];omega,?_⟩;refine bm (ι:=Nat) (fun i=>i≤l.length) (Xd l) (fun i=>l.length-i) 0 (zero_le _) (Wk.renL [48] (by simp) (le_add_left 1 _) (by simp) rfl (by simp[Xd,hget,Blk.ren,yH,LV.ren,hlen])) ?_;intro i hi;unfold Xd;refine aw [⟨_,zJ⟩] ?_;by_cases hlt:i<l.length
 ·have hltI:(i:Int)<l.length:=by omega
  have hlt2:i<(bH l).length:=by omega
  obtain⟨v,hv⟩:∃v,l[i]? = some v:=⟨_,List.getElem?_eq_getElem hlt⟩;have hok:=hO v (List.mem_of_getElem? hv);have ei:=wI i;have hx:(bH l)[i]? = some (Ex.printF v).1:=by unfold bH;rw[List.getElem?_map,hv];rfl
  have hset:=vj hx;simp only[nT]at hset;rcases hp:Ex.printF v with ⟨t,z⟩;rw[hp]at hset;simp only[go_sem,hltI,hlt,hv,se,bZ,iS,hok,hp,aM,ei,rI (Nat.le_of_lt hlt2),yG hlt2,hlen,hset];exact⟨i+1,hlt,by omega,Wk.renL [0] (by simp) (le_add_left 1 _) (by simp) rfl (by simp[hget,Blk.ren,Bl])⟩
 obtain rfl:i=l.length:=by omega
 have hI:¬(l.length:Int)<l.length:=by omega
 have hq:∀h:ai,dA (dA (LV.toD h 3)) ((lf (bH l) l.length).take l.length)=some (True,[],(bH l).map dZ.enc):=fun h=>by
  rw[←hlen,Bk,take_of_length_le (by simp)];exact gy
 have hfl:(lf (bH l) l.length).length=l.length:=by rw[rI (by omega)];exact hlen
 simp only[go_sem,hI];rw[hq];exact⟨⟨by rw[hfl];exact Nat.le_refl _,trivial⟩,rfl⟩
abbrev rZ:ao prog 92 :=
 mz1 func92 (J2) ((fun l=>l.length≤1000000∧∀v∈l,iQ v)) ((fun l=>.ret (.s (.l (.d (.sd 1 ((bH l).map dZ.enc))))))) (asP fun l h=>Ng l h.1 h.2)
structure ChkOk (s:StV):Prop where
 ok:StOk s
 labels:s.labels.length≤8
 uses:lx s=true
 counts:aP s=true
 names:s.names.length≤64
 vals:s.vals.length≤64
 good:∀v∈s.vals,(Ex.printF v).2=0
 opers:(eE s.opers).2=0
theorem Vf {s:StV}(H:StOk s)(h:dT s=0):ChkOk s:=by
 unfold dT at h;split at h
 ·cases h
 rename_i c1;split at h
 ·cases h
 rename_i c2;split at h
 ·cases h
 rename_i c3;split at h
 ·cases h
 split at h
 ·rename_i c5;exact absurd h c5
 rename_i c5;simp only[Bool.not_eq_false,Bool.and_eq_true]at c1 c3;refine⟨H,by omega,c1.2,c3.1,by omega,by omega,AA (Decidable.not_not.1 c5),?_⟩;unfold kI at h;split at h
 ·cases h
 ·exact h
theorem ChkOk.text {s:StV}(h:ChkOk s):∀t∈bH s.vals,t.size≤4000:=by
 intro t ht;unfold bH at ht;obtain⟨v,hv,rfl⟩:=List.mem_map.1 ht;have h1:=J8 (h.good v hv) (h.ok.valT v hv);have h2:=wN v
 have h3:v.plus.size≤512:=by
  rcases h1.p with h | h
  ·rw[h];exact zero_le _
  ·exact Ex.symB_size h
 have h4:v.minus.size≤512:=by
  rcases h1.m with h | h
  ·rw[h];exact zero_le _
  ·exact Ex.symB_size h
 omega
def wa (s:StV):PO:=.ret (.tup [.l (.v (.string (aG s).1)),.l (.v (.string (aG s).2))])
theorem Rb (s:StV)(H:ChkOk s):Sw f40 0 ⟨0,aA 0 [rm.enc s],[]⟩ (oQ f40 (wa s)):=by
 refine aq [⟨_,Dy⟩,⟨_,yX⟩,⟨_,rZ⟩,⟨_,Ly.quoteS⟩] rfl ?_;have hD:∀l:List ByteArray,dg dZ.dec (l.map dZ.enc)=some l:=ez dZ;simp only[dZ]at hD;have hC:=H.counts;have o1:=H.ok.opers;have o2:=H.ok.operT;have o3:=H.ok.names;have o4:=H.ok.vals;have o5:=H.ok.valT;unfold aP at hC;unfold wa;by_cases k1:s.kind=1
 ·rcases hT:eE s.opers with ⟨t,z⟩;have e:aG s=(s.name,t):=by unfold aG;rw[if_pos k1,hT]
  rw[e];simp only[go_sem,cD,aW,eq_true k1,o1,hT,p9];exact o2
 rw[if_neg k1]at hC;by_cases k2:s.kind=2
 ·rw[if_pos k2]at hC;obtain⟨n,hn⟩:=List.length_eq_one_iff.1 (of_decide_eq_true hC);have g0:s.names[0]? = some n:=by rw[hn];rfl
  have g1:s.names.getD 0 emp=n:=by rw[hn];rfl
  have hl:(0:Nat)<s.names.length:=by rw[hn];exact one_pos
  have hlI:(0:Int)<s.names.length:=by omega
  by_cases t1:n=gC
  ·have e:aG s=(n,emp):=by unfold aG;rw[if_neg k1,if_pos k2,g1,if_pos (.inl t1)]
   rw[e];have t1':n=((⟨#[46,116,101,120,116]⟩:ByteArray)):=t1;simp only[go_sem,cD,aW,k1,eq_true k2,hl,hlI,g0,eq_true t1',ac]
  have t1':¬n=((⟨#[46,116,101,120,116]⟩:ByteArray)):=t1;by_cases t2:n=gH
  ·have e:aG s=(n,emp):=by unfold aG;rw[if_neg k1,if_pos k2,g1,if_pos (.inr t2)]
   rw[e];have t2':n=((⟨#[46,100,97,116,97]⟩:ByteArray)):=t2;simp only[go_sem,cD,aW,k1,eq_true k2,hl,hlI,g0,t1',eq_true t2',ac]
  have t2':¬n=((⟨#[46,100,97,116,97]⟩:ByteArray)):=t2;have e:aG s=(dN,n):=by unfold aG;rw[if_neg k1,if_pos k2,g1,if_neg (by rintro (h | h);exact t1 h;exact t2 h)]
  rw[e];simp only[go_sem,cD,aW,k1,eq_true k2,hl,hlI,g0,t1',t2'];refine sD mixed [] [] ?_;simp only[go_sem,hl,hlI,g0,dN]
 rw[if_neg k2]at hC;by_cases k3:s.kind=3
 ·have e:aG s=(gK,cO s.names):=by unfold aG;rw[if_neg k1,if_neg k2,if_pos k3]
  have hj:(oz s.names dX).size≤140737488355328:=by
   rw[qJ];have h1:=mr H.ok.nameT;have h2:=H.names;have:=mul_le_mul_right (1099511627776+2) h2;omega
  have hj':oz s.names (⟨#[44,32]⟩:ByteArray)=cO s.names:=qJ s.names;have hj2:(oz s.names (⟨#[44,32]⟩:ByteArray)).size≤140737488355328:=hj;rw[hj']at hj2;rw[e];simp only[go_sem,cD,aW,k1,k2,eq_true k3,hD,o3,hj',hj2,gK]
 rw[if_neg k3]at hC;by_cases k4:s.kind=4
 ·rw[if_pos k4]at hC;obtain⟨v,hv⟩:=List.length_eq_one_iff.1 (of_decide_eq_true hC);have g0:(bH s.vals)[0]? = some (Ex.printF v).1:=by rw[hv];rfl
  have g1:(bH s.vals).getD 0 emp=(Ex.printF v).1:=by rw[hv];rfl
  have hl:(0:Nat)<(bH s.vals).length:=by rw[hv];exact one_pos
  have hlI:(0:Int)<(bH s.vals).length:=by omega
  have e:aG s=(io,(Ex.printF v).1):=by unfold aG;rw[if_neg k1,if_neg k2,if_neg k3,if_pos k4,g1]
  rw[e];simp only[go_sem,cD,aW,k1,k2,k3,eq_true k4];refine sD mixed [⟨_,rZ⟩] [] ?_;simp only[go_sem,o4,hl,hlI,g0,io];exact o5
 rw[if_neg k4]at hC;by_cases k5:s.kind=5
 ·rw[if_pos k5,Bool.and_eq_true]at hC
  have hj:(oz (bH s.vals) dX).size≤140737488355328:=by
   rw[qJ];have h1:=mr H.text;rw[xO]at h1;have h2:=H.vals;have:=mul_le_mul_right (4000+2) h2;omega
  have hj':oz (bH s.vals) (⟨#[44,32]⟩:ByteArray)=cO (bH s.vals):=qJ _;have hj2:(oz (bH s.vals) (⟨#[44,32]⟩:ByteArray)).size≤140737488355328:=hj;rw[hj']at hj2;have o6:(bH s.vals).length≤1000000:=by rw[xO];exact o4
  have ew:aG s=(if s.size=1 then ng else if s.size=4 then kN else qh,cO (bH s.vals)):=by unfold aG;rw[if_neg k1,if_neg k2,if_neg k3,if_neg k4,if_pos k5]
  rcases of_decide_eq_true hC.2 with z | z | z
  ·have e:aG s=(ng,cO (bH s.vals)):=by rw[ew,if_pos z]
   rw[e];simp only[go_sem,cD,aW,k1,k2,k3,k4,eq_true k5,z];refine sD mixed [⟨_,rZ⟩,⟨_,yX⟩] [] ?_;simp only[go_sem,o4,hD,o6,hj',hj2,ng];exact o5
  ·have e:aG s=(kN,cO (bH s.vals)):=by rw[ew,nG,if_pos z]
   rw[e];simp only[go_sem,cD,aW,k1,k2,k3,k4,eq_true k5,z];refine sD mixed [⟨_,rZ⟩,⟨_,yX⟩] [] ?_;simp only[go_sem,o4,hD,o6,hj',hj2,kN];exact o5
  ·have e:aG s=(qh,cO (bH s.vals)):=by rw[ew,nG,nG]
   rw[e];simp only[go_sem,cD,aW,k1,k2,k3,k4,eq_true k5,z];refine sD mixed [⟨_,rZ⟩,⟨_,yX⟩] [] ?_;simp only[go_sem,o4,hD,o6,hj',hj2,qh];exact o5
 rw[if_neg k5]at hC;by_cases k6:s.kind=6
 ·have e:aG s=(kO,ki s.bytes):=by unfold aG;rw[if_neg k1,if_neg k2,if_neg k3,if_neg k4,if_neg k5,if_pos k6]
  have hb:aa (aj s.bytes)=s.bytes:=bh H.ok.bytes;have hz:(aj s.bytes).size≤1000000:=by rw[←ae,hb];exact H.ok.byteT
  rw[e];simp only[go_sem,cD,aW,k1,k2,k3,k4,k5,eq_true k6,dt,hz,hb,kO,ki]
 by_cases k7:s.kind=7
 ·rw[if_pos k7,Bool.and_eq_true]at hC;obtain⟨n,hn⟩:=List.length_eq_one_iff.1 (of_decide_eq_true hC.1);obtain⟨v,hv⟩:=List.length_eq_one_iff.1 (of_decide_eq_true hC.2);have n0:s.names[0]? = some n:=by rw[hn];rfl
  have n1:s.names.getD 0 emp=n:=by rw[hn];rfl
  have hm:(0:Nat)<s.names.length:=by rw[hn];exact one_pos
  have hmI:(0:Int)<s.names.length:=by omega
  have g0:(bH s.vals)[0]? = some (Ex.printF v).1:=by rw[hv];rfl
  have g1:(bH s.vals).getD 0 emp=(Ex.printF v).1:=by rw[hv];rfl
  have hl:(0:Nat)<(bH s.vals).length:=by rw[hv];exact one_pos
  have hlI:(0:Int)<(bH s.vals).length:=by omega
  have e:aG s=(sk,n++dX++(Ex.printF v).1):=by unfold aG;rw[if_neg k1,if_neg k2,if_neg k3,if_neg k4,if_neg k5,if_neg k6,if_pos k7,n1,g1]
  rw[e];simp only[go_sem,cD,aW,k1,k2,k3,k4,k5,k6,eq_true k7];refine sD mixed [⟨_,rZ⟩] [] ?_;simp only[go_sem,o4,hl,hlI,g0,hm,hmI,n0,sk,dX];have x1:=H.ok.nameT n (by rw[hn];simp);have x2:=H.text (Ex.printF v).1 (by rw[hv];simp[bH]);have x3:maxLen=9223372036854775807:=rfl;exact⟨by omega,o5,by omega⟩
 have e:aG s=(emp,emp):=by unfold aG;rw[if_neg k1,if_neg k2,if_neg k3,if_neg k4,if_neg k5,if_neg k6,if_neg k7]
 rw[e];simp only[go_sem,cD,aW,k1,k2,k3,k4,k5,k6,k7,ac]
def Je:ao prog 40 :=
 mz1 func40 (rm) (ChkOk) ((fun s=>wa s)) (fun s h=>Rb s h)
theorem we {id:Nat}{h:ai}{args:List AV}:(Je).run id h args=iV (eg (rm) (ChkOk)) ((fun s=>wa s)) h args:=rfl
theorem Ni {id:Nat}{h:ai}{args:List AV}:(Je).pan id h args=iR (eg (rm) (ChkOk)) ((fun s=>wa s)) h args:=rfl
def Fo (r:ByteArray×Int):AV:=.tup [.l (.v (.string r.1)),.l (.v (.int .i64 r.2))]
def nO (s:StV):List ByteArray:=s.labels.map fun n=>n++aC
def dw (s:StV)(i:Nat):List ByteArray:=nO s++(([(aG s).1,(aG s).2].take i).filter fun w=>!decide (w=emp))
def Yf (s:StV)(i:Nat):St:=⟨2,[(1,pv 0 0 0),(5,.s (.l (.sl 1 0 i))),(19,qi.enc s.labels),(20,iv s.labels.length),(21,iv i)],aN 0 [dv s,stK ((nO s).take i)]⟩
def To (s:StV)(i:Nat):St:=⟨2,[(5,.s (.l (.sl 1 0 (dw s i).length))),(38,.s (.agg [.v (.string (aG s).1),.v (.string (aG s).2)])),(39,iv i)],aN 0 [dv s,stK (dw s i)]⟩
theorem Hd (l:List ByteArray):(gM l).size≤(l.map fun x=>x.size+1).sum:=by
 have key:∀(r:List ByteArray) (x:ByteArray),(r.foldl (fun a y=>a++(⟨#[32]⟩:ByteArray)++y) x).size=x.size+(r.map fun x=>x.size+1).sum:=by
  intro r
  induction r with
  |nil=>intro x;simp
  |cons y r ih =>
   intro x;rw[List.foldl_cons,ih,map_cons,sum_cons];simp only[ByteArray.size_append];have:(⟨#[32]⟩:ByteArray).size=1:=rfl;omega
 cases l with
 |nil=>exact zero_le _
 |cons x r =>
  show(r.foldl _ x).size≤_;rw[key,map_cons,sum_cons];omega
theorem QH {K:Nat}:∀{l:List ByteArray},(∀y∈l,y.size≤K)→(l.map fun x=>x.size+1).sum≤l.length*(K+1)
 |[],_=>by simp
 |y::r,h=>by
  have h1:=h y (by simp);have h2:=QH (l:=r) fun z hz=>h z (by simp[hz]);rw[map_cons,sum_cons,length_cons,Nat.add_mul];omega
theorem Aj (p:ByteArray→Bool):∀l:List ByteArray,((l.filter p).map fun x=>x.size+1).sum≤(l.map fun x=>x.size+1).sum
 |[]=>by simp
 |y::r=>by
  have h:=Aj p r;rw[List.filter_cons];split
  ·simp only[map_cons,sum_cons];omega
  ·simp only[map_cons,sum_cons];omega
theorem ChkOk.wordsz {s:StV}(h:ChkOk s):(aG s).1.size≤1099511627776∧(aG s).2.size≤72567767433216:=by
 have hC:=h.counts;unfold aP at hC;have e0:emp.size=0:=rfl;unfold aG;by_cases k1:s.kind=1
 ·rw[if_pos k1];refine⟨h.ok.name,?_⟩;obtain⟨e,hO,-,h8⟩:=rW (s:=(eE s.opers).1) h.ok.operT (by rw[←h.opers])
  have h2:=mr (l:=s.opers.map aO) (K:=2199023255800) (by
   intro y hy;obtain⟨o,ho,rfl⟩:=List.mem_map.1 hy;exact tr (h.ok.operT o ho))
  rw[List.length_map]at h2;have:=mul_le_mul_right (2199023255800+2) h8;rw[e];show(cO _).size≤_;omega
 rw[if_neg k1]at hC ⊢;by_cases k2:s.kind=2
 ·rw[if_pos k2]at hC ⊢;obtain⟨n,hn⟩:=List.length_eq_one_iff.1 (of_decide_eq_true hC);have g1:s.names.getD 0 emp=n:=by rw[hn];rfl
  have:=h.ok.nameT n (by rw[hn];simp);rw[g1];split
  ·exact⟨this,by show(0:Nat)≤_;omega⟩
  ·exact⟨by show(8:Nat)≤_;omega,by show n.size≤_;omega⟩
 rw[if_neg k2]at hC ⊢;by_cases k3:s.kind=3
 ·rw[if_pos k3];have h1:=mr h.ok.nameT;have h2:=h.names;have:=mul_le_mul_right (1099511627776+2) h2;exact⟨by show(7:Nat)≤_;omega,by show(cO s.names).size≤_;omega⟩
 rw[if_neg k3]at hC ⊢
 have hget:((bH s.vals).getD 0 emp).size≤4000:=by
  cases hv:bH s.vals with
  |nil=>exact zero_le _
  |cons t r=>exact h.text t (by rw[hv];simp)
 by_cases k4:s.kind=4
 ·rw[if_pos k4];exact⟨by show(6:Nat)≤_;omega,by show((bH s.vals).getD 0 emp).size≤_;omega⟩
 rw[if_neg k4]at hC ⊢;by_cases k5:s.kind=5
 ·rw[if_pos k5];have h1:=mr h.text;rw[xO]at h1;have h2:=h.vals;have:=mul_le_mul_right (4000+2) h2;refine⟨?_,by show(cO (bH s.vals)).size≤_;omega⟩;split
  ·show(5:Nat)≤_;omega
  split
  ·show(5:Nat)≤_;omega
  ·show(5:Nat)≤_;omega
 rw[if_neg k5]at hC ⊢;by_cases k6:s.kind=6
 ·rw[if_pos k6];have h1:=Ly.quoteB_len s.bytes;have h2:=h.ok.byteT;refine⟨by show(6:Nat)≤_;omega,?_⟩;show(ki s.bytes).size≤_;have e:(ki s.bytes).size=(eD s.bytes).length:=by unfold ki aj;simp[ByteArray.size]
  rw[e];unfold eD;simp only[length_cons,List.length_append,List.length_nil];omega
 rw[if_neg k6];by_cases k7:s.kind=7
 ·rw[if_pos k7];refine⟨by show(4:Nat)≤_;omega,?_⟩;show(s.names.getD 0 emp++dX++(bH s.vals).getD 0 emp).size≤_
  have h2:(s.names.getD 0 emp).size≤1099511627776:=by
   cases hn:s.names with
   |nil=>exact zero_le _
   |cons n r=>exact h.ok.nameT n (by rw[hn];simp)
  have h3:dX.size=2:=rfl;simp only[ByteArray.size_append];omega
 ·rw[if_neg k7];exact⟨by show(0:Nat)≤_;omega,by show(0:Nat)≤_;omega⟩
theorem B5 (l:List ByteArray):l.map mM=(l.map fun s=>[D.v (.string s)]).map bw:=by rw[List.map_map];rfl
theorem vZ {a b c d:Option Blk}(h1:a=b)(h2:c=d):[a,c]=[b,d]:=by rw[h1,h2]
theorem MO (s:StV)(H:StOk s):Sw f18 0 ⟨0,aA 0 [rm.enc s],[]⟩ (oQ f18 (.ret (Fo (iB s)))):=by
 refine aq [⟨_,UU⟩,⟨_,Je⟩,⟨_,yX⟩] rfl ?_;have hSt:=Du.back s;simp only[cD,aW,dZ,gw]at hSt;by_cases hc:dT s=0
 case neg =>
  have e:iB s=(emp,dT s):=by unfold iB;rw[if_pos hc]
  rw[e];simp only[go_sem,cD,aW,hSt,H,hc,Fo,ac]
 have HC:=Vf H hc;have x3:maxLen=9223372036854775807:=rfl;have hlz:=H.labels;simp only[go_sem,cD,aW,hSt,H,hc];refine bm (ι:=Nat) (fun i=>i≤s.labels.length) (Yf s) (fun i=>s.labels.length-i) 0 (zero_le _) ?_ ?_
 ·exact(Wk.nil 5 9 1 rfl).trans (Wk.renL [0,208] (by simp) (le_add_left _ _) (by simp) rfl rfl)
 intro i hi;unfold Yf;refine aw [] ?_;by_cases hlt:i<s.labels.length
 ·have hltI:(i:Int)<s.labels.length:=by omega
  obtain⟨n,hn⟩:∃n,s.labels[i]? = some n:=⟨_,List.getElem?_eq_getElem hlt⟩;have hnz:=H.labelT n (List.mem_of_getElem? hn);have ei:=wI i;have hT:(nO s).take (i+1)=(nO s).take i++[n++aC]:=by rw[List.take_add_one];unfold nO;rw[List.getElem?_map,hn];rfl
  have hlen:((nO s).take i).length=i:=by simp[nO];omega
  obtain⟨T,hTT⟩:∃T,(nO s).take i=T:=⟨_,rfl⟩;rw[hTT]at hT hlen;have hK:List.take i (T.map mM)=T.map mM:=take_of_length_le (by simp[hlen]);have hK2:T.map mM++[[LV.v (.string (n++(⟨#[58]⟩:ByteArray)))]]=(T++[n++aC]).map mM:=pc _ _;have m1:i+1≤maxLen:=by have:=H.labels;omega
  have m2:(i+1)*16≤140737488355328:=by have:=H.labels;omega
  simp only[go_sem,hltI,hlt,hn,dv,hTT,hK,hK2,hlen,m1,m2,ei];exact⟨by omega,i+1,hlt,by omega,Wk.renL [0,130] (by simp) (le_add_left 2 _) (by simp) rfl (by rw[hT];exact vZ rfl (congrArg some (dH _ _).symm))⟩
 obtain rfl:i=s.labels.length:=by omega
 have hI:¬(s.labels.length:Int)<s.labels.length:=by omega
 have hl8:=HC.labels;have hlab:(nO s).take s.labels.length=nO s:=take_of_length_le (by simp[nO]);have hp0:dw s 0=nO s:=by unfold dw;simp
 have hn0:(dw s 0).length=s.labels.length:=by rw[hp0];simp[nO]
 rw[hlab];simp only[go_sem,hI,dv,we,Ni,hSt,aW,HC,wa];refine bm (ι:=Nat) (fun i=>i≤2) (To s) (fun i=>2-i) 0 (zero_le _) ?_ ?_
 ·exact Wk.renL [0,1] (by simp) (le_add_left 2 _) (by simp) (by simp only[To,hn0];rfl) (by simp only[To,hp0];exact vZ rfl (congrArg some (dH _ _).symm))
 intro i hi;unfold To;refine aw [⟨_,yX⟩] ?_
 have fin:∀(j:Nat) (w:ByteArray),j<2→[(aG s).1,(aG s).2][j]? = some w→dw s (j+1)=if w=emp then dw s j else dw s j++[w]:=by
  intro j w hj hw;unfold dw;rw[List.take_add_one,hw,List.filter_append,←List.append_assoc];by_cases h:w=emp
  ·rw[if_pos h];simp[h]
  ·rw[if_neg h];simp[h]
 have step:∀(j:Nat),j<2→(dw s j).length+1≤maxLen∧((dw s j).length+1)*16≤140737488355328:=by
  intro j hj
  have h1:(dw s j).length≤10:=by
   unfold dw;rw[List.length_append];have h2:(nO s).length≤8:=by simp[nO];exact hl8
   have h3:=List.length_filter_le (fun w=>!decide (w=emp)) ([(aG s).1,(aG s).2].take j);have h4:([(aG s).1,(aG s).2].take j).length≤2:=by rw[List.length_take];exact Nat.min_le_right _ _
   omega
  omega
 have hK:∀j,List.take (dw s j).length ((dw s j).map mM)=(dw s j).map mM:=fun j=>take_of_length_le (by simp);have hi3:i=0∨i=1∨i=2:=by omega
 rcases hi3 with rfl | rfl | rfl
 ·obtain⟨s1,s2⟩:=step 0 (by decide);have hf:=fin 0 (aG s).1 (by decide) rfl;by_cases hw:(aG s).1=emp
  ·rw[if_pos hw]at hf;simp only[go_sem,ac,eq_true hw];exact⟨1,by decide,by decide,Wk.renL [0,1] (by simp) (le_add_left 2 _) (by simp) (by rw[hf];rfl) (by rw[hf];exact vZ rfl (congrArg some (dH _ _).symm))⟩
  ·rw[if_neg hw]at hf;have hK2:(dw s 0).map mM++[[LV.v (.string (aG s).1)]]=(dw s 0++[(aG s).1]).map mM:=pc _ _;have hl:(dw s 1).length=(dw s 0).length+1:=by rw[hf];simp
   simp only[go_sem,ac,hw,hK,hK2,s1,s2];exact⟨1,by decide,by decide,Wk.renL [0,130] (by simp) (le_add_left 2 _) (by simp) (by simp only[hl];rfl) (by rw[hf];exact vZ rfl (congrArg some (dH _ _).symm))⟩
 ·obtain⟨s1,s2⟩:=step 1 (by decide);have hf:=fin 1 (aG s).2 (by decide) rfl;by_cases hw:(aG s).2=emp
  ·rw[if_pos hw]at hf;simp only[go_sem,ac,eq_true hw];exact⟨2,by decide,by decide,Wk.renL [0,1] (by simp) (le_add_left 2 _) (by simp) (by rw[hf];rfl) (by rw[hf];exact vZ rfl (congrArg some (dH _ _).symm))⟩
  ·rw[if_neg hw]at hf;have hK2:(dw s 1).map mM++[[LV.v (.string (aG s).2)]]=(dw s 1++[(aG s).2]).map mM:=pc _ _;have hl:(dw s 2).length=(dw s 1).length+1:=by rw[hf];simp
   simp only[go_sem,ac,hw,hK,hK2,s1,s2];exact⟨2,by decide,by decide,Wk.renL [0,130] (by simp) (le_add_left 2 _) (by simp) (by simp only[hl];rfl) (by rw[hf];exact vZ rfl (congrArg some (dH _ _).symm))⟩
 ·have hl:qg s=gM (dw s 2):=rfl;have hj:oz (dw s 2) (⟨#[32]⟩:ByteArray)=gM (dw s 2):=Lj _
  have hlen:(dw s 2).length≤10:=by
   unfold dw;rw[List.length_append];have h2:(nO s).length≤8:=by simp[nO];exact hl8
   have h3:=List.length_filter_le (fun w=>!decide (w=emp)) ([(aG s).1,(aG s).2].take 2);have h4:([(aG s).1,(aG s).2].take 2).length=2:=rfl;omega
  have hsz:(gM (dw s 2)).size≤140737488355328:=by
   have h1:=Hd (dw s 2);have hws:=HC.wordsz;unfold dw at h1;rw[List.map_append,List.sum_append]at h1
   have h2:=QH (l:=nO s) (K:=1099511627777) (by
    intro y hy;unfold nO at hy;obtain⟨n,hn,rfl⟩:=List.mem_map.1 hy;have:=H.labelT n hn;rw[ByteArray.size_append];have:aC.size=1:=rfl;omega)
   have h3:(nO s).length≤8:=by simp[nO];exact hl8
   have h4:=mul_le_mul_right (1099511627777+1) h3;have h5:=Aj (fun w=>!decide (w=emp)) ([(aG s).1,(aG s).2].take 2);have h6:(([(aG s).1,(aG s).2].take 2).map fun x=>x.size+1).sum=((aG s).1.size+1)+((aG s).2.size+1+0):=rfl;unfold dw;omega
  have hL6:(dw s 2).length≤1000000:=by omega
  have hD:∀l:List ByteArray,dg dZ.dec (l.map dZ.enc)=some l:=ez dZ;simp only[dZ]at hD;by_cases h5:512<(gM (dw s 2)).size
  ·have e:iB s=(emp,3):=by unfold iB;rw[if_neg (by rw[hc];simp),hl,if_pos h5]
   have h5I:(512:Int)<(gM (dw s 2)).size:=by omega
   rw[e];simp only[go_sem,hK,B5,hD,hj,hL6,hsz,eq_true h5I,Fo,ac]
  ·have e:iB s=(gM (dw s 2),0):=by unfold iB;rw[if_neg (by rw[hc];simp),hl,if_neg h5]
   have h5I:¬(512:Int)<(gM (dw s 2)).size:=by omega
   rw[e];simp only[go_sem,hK,B5,hD,hj,hL6,hsz,h5I,Fo,ac]
abbrev J0:ao prog 18 :=
 mz1 func18 (rm) (StOk) ((fun s=>.ret (Fo (iB s)))) (asP fun s h=>MO s h)
end Go.Proofs.YtnhbidpdadkcjaaGreatDoor
