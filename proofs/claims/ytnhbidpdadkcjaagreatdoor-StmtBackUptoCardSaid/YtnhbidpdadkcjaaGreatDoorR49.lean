import Derived.Test.YtnhbidpdadkcjaaGreatDoorR48
open Go.RowKit
set_option linter.unusedVariables false
set_option linter.unusedSimpArgs false
set_option maxRecDepth 100000
set_option maxHeartbeats 8000000
open List (any_cons take_of_length_le map_cons map_nil length_cons sum_cons)
open Option (getD_some)
open Nat (zero_le le_add_left one_pos mul_le_mul_right)
namespace Go.Proofs.YtnhbidpdadkcjaaGreatDoor
open Tryz
def lx {α:Type}(p:α→Bool):List α→Nat→Int
 |[],_ => -1
 |x::r,i=>if p x=true then i else lx p r (i+1)
theorem yL {α:Type}(p:α→Bool):∀(l:List α) (i:Nat),(0≤lx p l i)↔l.any p=true
 |[],i=>by unfold lx;simp
 |x::r,i=>by
  unfold lx;rw[any_cons];split
  ·rename_i h;rw[h];simp
  ·rename_i h;have h:p x=false:=by simpa using h
   rw[h,Bool.false_or];exact yL p r (i+1)
theorem Bz {α:Type}{p:α→Bool}{l:List α}{i:Nat}{x:α}(h:l[i]? = some x):lx p (l.drop i) i=if p x=true then(i:Int) else lx p (l.drop (i+1)) (i+1):=by
 have hi:=(List.getElem?_eq_some_iff.1 h);obtain⟨h1,h2⟩:=hi;rw[List.drop_eq_getElem_cons h1,h2];rfl
def vg (g:FuncId)(n:ByteArray):Bool:=if g=53 then !eK (aa n) else !iU n
abbrev X6:ap prog 57 :=
 mz1 func57 (bw) ((fun s=>s.size≤maxLen)) ((fun s=>.ret (bv (iU s)))) (asP fun s hs=>by
 refine aq [⟨_,Ly.nameS⟩] rfl ?_;cases hn:eK (aa s) with
 |false=>simp only[go_sem,Ly.name_run,Ly.name_pan,hs,hn,iU,Bool.false_and]
 |true =>
  by_cases hd:s=(⟨#[46]⟩:ByteArray)
  ·have e:iU s=false:=by unfold iU;rw[hn,decide_eq_true (show s=mf from hd)];rfl
   simp only[go_sem,Ly.name_run,Ly.name_pan,hs,hn,e,eq_true hd]
  ·have e:iU s=true:=by unfold iU;rw[hn,decide_eq_false (show ¬s=mf from hd)];rfl
   simp only[go_sem,Ly.name_run,Ly.name_pan,hs,hn,e,hd])
abbrev XK:ap prog 53 :=
 mz1 func53 (bw) ((fun s=>s.size≤maxLen)) ((fun s=>.ret (bv (!eK (aa s))))) (asP fun s hs=>by
 refine aq [⟨_,Ly.nameS⟩] rfl ?_;cases hn:eK (aa s)<;>simp only[go_sem,Ly.name_run,Ly.name_pan,hs,hn])
abbrev XL:ap prog 56 :=
 mz1 func56 (bw) ((fun s=>s.size≤maxLen)) ((fun s=>.ret (bv (!iU s)))) (asP fun s hs=>by
 refine aq [⟨_,X6⟩] rfl ?_;cases hn:iU s<;>simp only[go_sem,hs,hn])
def PA (l:List ByteArray)(g:FuncId):Prop:=l.length≤1000000∧(∀n∈l,n.size≤maxLen)∧(g=53∨g=56)
theorem OD (l:List ByteArray)(g:FuncId)(h:PA l g):Sw f119 0 ⟨0,aB 0 [oT.enc l,tFn.enc g],[]⟩ (oQ f119 (.ret (iv (lx (vg g) l 0)))):=by
 refine aq [] rfl ?_;obtain⟨h6,hs,hg⟩:=h;simp only[go_sem];refine ba (ι:=Nat) (fun i=>i≤l.length∧lx (vg g) (l.drop i) i=lx (vg g) l 0) (fun i=>⟨0,[(0,oT.enc l),(1,tFn.enc g),(7,iv l.length),(8,iv i)],[]⟩) (fun i=>l.length-i) 0 ⟨zero_le _,rfl⟩ (wR []) ?_;rintro i ⟨hi,ht⟩;refine aw [⟨_,XK⟩,⟨_,XL⟩] ?_;by_cases hlt:i<l.length
 ·have hltI:(i:Int)<l.length:=by omega
  obtain⟨r,hr⟩:∃r,l[i]? = some r:=⟨_,List.getElem?_eq_getElem hlt⟩;have hsz:=hs r (List.mem_of_getElem? hr);have ei:=wI i;rw[Bz hr]at ht;cases hp:vg g r with
  |true =>
   rw[hp,if_pos rfl]at ht;rcases hg with rfl | rfl
   ·have e1:(!eK (aa r))=true:=hp;simp only[go_sem,hlt,hltI,hr,hsz,e1,←ht]
   ·have e1:(!iU r)=true:=hp;simp only[go_sem,hlt,hltI,hr,hsz,e1,←ht]
  |false =>
   rw[hp,if_neg (by simp)]at ht;rcases hg with rfl | rfl
   ·have e1:(!eK (aa r))=false:=hp;simp only[go_sem,hlt,hltI,hr,hsz,e1,ei];exact⟨i+1,⟨hlt,ht⟩,by omega,wR []⟩
   ·have e1:(!iU r)=false:=hp;simp only[go_sem,hlt,hltI,hr,hsz,e1,ei];exact⟨i+1,⟨hlt,ht⟩,by omega,wR []⟩
 ·obtain rfl:i=l.length:=by omega
  have hI:¬(l.length:Int)<l.length:=by omega
  have e:lx (vg g) l 0 = -1:=by rw[←ht,List.drop_length];rfl
  simp only[go_sem,hI,e]
abbrev Vy:ap prog 119 :=
 mz2 func119 (oT) (tFn) (PA) ((fun l g=>.ret (iv (lx (vg g) l 0)))) (asP fun l g h=>OD l g h)
abbrev Vl:ap prog 55 :=
 mz2 func55 (oT) (tFn) (PA) ((fun l g=>.ret (bv (l.any (vg g))))) (asP fun l g h=>by
 refine aq [⟨_,Vy⟩] rfl ?_;have hD:∀l:List ByteArray,df dr.dec (l.map dr.enc)=some l:=dX dr;simp only[dr]at hD;have hx:=yL (vg g) l 0;cases ha:l.any (vg g) with
 |true =>
  rw[ha]at hx;have h1:0≤lx (vg g) l 0:=hx.2 rfl;simp only[go_sem,hD,h,eq_true h1]
 |false =>
  rw[ha]at hx;have h1:¬0≤lx (vg g) l 0:=fun h=>by cases hx.1 h
  simp only[go_sem,hD,h,h1])
abbrev Kb:Ty (List Int):=tSl 1 (fU .i64)
theorem SO (l:List Int)(v:Int)(h:l.length≤1000000):Sw f166 0 ⟨0,aB 0 [Kb.enc l,iv v],[]⟩ (oQ f166 (.ret (iv (lx (fun x=>decide (v=x)) l 0)))):=by
 refine aq [] rfl ?_;simp only[go_sem];refine ba (ι:=Nat) (fun i=>i≤l.length∧lx (fun x=>decide (v=x)) (l.drop i) i=lx (fun x=>decide (v=x)) l 0) (fun i=>⟨0,[(0,Kb.enc l),(1,iv v),(7,iv l.length),(8,iv i)],[]⟩) (fun i=>l.length-i) 0 ⟨zero_le _,rfl⟩ (wR []) ?_;rintro i ⟨hi,ht⟩;refine aw [] ?_;by_cases hlt:i<l.length
 ·have hltI:(i:Int)<l.length:=by omega
  obtain⟨r,hr⟩:∃r,l[i]? = some r:=⟨_,List.getElem?_eq_getElem hlt⟩;have ei:=wI i;rw[Bz hr]at ht;by_cases hp:v=r
  ·rw[if_pos (decide_eq_true hp)]at ht;simp only[go_sem,hlt,hltI,hr,eq_true hp,←ht]
  ·rw[if_neg (by rw[decide_eq_false hp];simp)]at ht;simp only[go_sem,hlt,hltI,hr,hp,ei];exact⟨i+1,⟨hlt,ht⟩,by omega,wR []⟩
 ·obtain rfl:i=l.length:=by omega
  have hI:¬(l.length:Int)<l.length:=by omega
  have e:lx (fun x=>decide (v=x)) l 0 = -1:=by rw[←ht,List.drop_length];rfl
  simp only[go_sem,hI,e]
abbrev X2:ap prog 166 :=
 mz2 func166 (Kb) (bO .i64) ((fun l _=>l.length≤1000000)) ((fun l v=>.ret (iv (lx (fun x=>decide (v=x)) l 0)))) (asP fun l v h=>SO l v h)
abbrev XO:ap prog 121 :=
 mz2 func121 (Kb) (bO .i64) ((fun l _=>l.length≤1000000)) ((fun l v=>.ret (bv (l.any fun x=>decide (v=x))))) (asP fun l v h=>by
 refine aq [⟨_,X2⟩] rfl ?_;have hD:∀l:List Int,df (fU .i64).dec (l.map (fU .i64).enc)=some l:=dX (fU .i64);simp only[fU]at hD;have hx:=yL (fun x=>decide (v=x)) l 0;cases ha:l.any (fun x=>decide (v=x)) with
 |true =>
  rw[ha]at hx;have h1:0≤lx (fun x=>decide (v=x)) l 0:=hx.2 rfl;simp only[go_sem,hD,h,eq_true h1]
 |false =>
  rw[ha]at hx;have h1:¬0≤lx (fun x=>decide (v=x)) l 0:=fun h=>by cases hx.1 h
  simp only[go_sem,hD,h,h1])
def dy (l:List Int):Blk:=⟨true,3,1,(l.map (fU .i64).enc).map bu⟩
def im:List LV→Option Int
 |[.v (.int .i64 z)]=>some z
 |_=>none
theorem KU (c:List LV)(x:Int)(h:im c=some x):c=[.v (.int .i64 x)]:=by
 unfold im at h;split at h
 ·injection h with h;subst h;rfl
 ·cases h
def CO:List LV→Option StV
 |[.d (.sd 1 ls),.v (.int .i64 k),.v (.string nm),.d (.sd 15 os),.d (.sd 1 ns),.v (.int .i64 sz),.d (.sd 3 vs),.d (.sd 1 bs)]=>TX [.sd 1 ls,.v (.int .i64 k),.v (.string nm),.sd 15 os,.sd 1 ns,.v (.int .i64 sz),.sd 3 vs,.sd 1 bs]
 |_=>none
theorem G5 {c:List LV}{s:StV}(h:CO c=some s):c=bu (aR s):=by
 unfold CO at h;split at h
 ·rename_i ls k nm os ns sz vs bs;have e:[D.sd 1 ls,.v (.int .i64 k),.v (.string nm),.sd 15 os,.sd 1 ns,.v (.int .i64 sz),.sd 3 vs,.sd 1 bs]=aR s:=AU.inv (show AU.dec _=some s from h);rw[←e];rfl
 ·cases h
theorem jy (s:StV):CO (bu (aR s))=some s:=AU.back s
def fY (h:ai):List AV→Option (Prop×List Nat×(List Int×StV))
 |[.s (.l (.sl b 0 n)),.s (.l (.p c 0 0))]=>match hget h b,hget h c with
  |some ⟨true,T,1,rows⟩,some ⟨true,T2,8,[cells]⟩=>match aZ im rows,CO cells with
   |some l,some s=>if T=3∧T2=41∧n=l.length∧c≠b then some (l.length≤1000000,[c,b],(l,s)) else none
   |_,_=>none
  |_,_=>none
 |_=>none
theorem En {h:ai}{zs:List AV}{q:Prop}{bs:List Nat}{l:List Int}{s:StV}(hd:fY h zs=some (q,bs,(l,s))):∃b c,zs=[.s (.l (.sl b 0 l.length)),pv c 0 0]∧bs=[c,b]∧q=(l.length≤1000000)∧c≠b∧hget h b=some (dy l)∧hget h c=some (dt s):=by
 unfold fY at hd;split at hd
 case h_2=>cases hd
 rename_i b n c;split at hd
 case h_2=>cases hd
 rename_i T rows T2 cells h1 h2;split at hd
 case h_2=>cases hd
 rename_i l' s' e1 e2;split at hd
 case isFalse=>cases hd
 rename_i hk;obtain⟨rfl,rfl,rfl,hne⟩:=hk;simp only[Option.some.injEq,Prod.mk.injEq]at hd;obtain⟨rfl,rfl,rfl,rfl⟩:=hd;refine⟨b,c,rfl,rfl,rfl,hne,?_,?_⟩
 ·rw[h1,jr KU e1];unfold dy;rw[List.map_map];rfl
 ·rw[h2,G5 e2];rfl
theorem G6 {h h':ai}(hs:∀b k,hget h b=some k→hget h' b=some k){zs:List AV}{r:Prop×List Nat×(List Int×StV)}(hd:fY h zs=some r):fY h' zs=some r:=by
 unfold fY at hd ⊢;split at hd
 case h_2=>cases hd
 split at hd
 case h_2=>cases hd
 rename_i h1 h2;simp only[hs _ _ h1,hs _ _ h2];exact hd
theorem Fh (l:List Int)(g:Nat→Nat):(dy l).ren g=dy l:=by
 unfold dy Blk.ren;simp[Function.comp_def,fU,bu,ofD,LV.ren]
theorem Gc (s:StV)(g:Nat→Nat):(dt s).ren g=dt s:=rfl
def lG (l:List Int)(s:StV):Bool:=l.any fun x=>decide (s.kind=x)
theorem X8 {s:StV}{st:St}{r:AV}(hr:r.plain=true)(h0:hget st.h 0=some (dt s)):oo 1 st (.ret r [some (dt s)] []) (some r):=by
 refine⟨hr,[some (dt s)],[],rfl,rfl,by simp,by simp[dt],by simp,Wk.ren [0] (by intro j hj;have:j=0:=(by simpa using hj);subst this;rfl) (Nat.le_refl _) (by simp) (fun p hp=>by cases hp) ?_⟩;intro q hq k hk;simp only[fX,aL,List.cons_append,List.nil_append,List.mem_cons,List.not_mem_nil,or_false]at hq;subst hq;simp only[Option.some.injEq]at hk;subst hk;simp only[List.getD_eq_getElem?_getD,List.getElem?_cons_zero,getD_some,h0,Gc]
theorem QZ (l:List Int)(s:StV)(h:l.length≤1000000):Sw f120 1 ⟨2,aB 0 [.s (.l (.sl 1 0 l.length)),pv 0 0 0],aL 0 [dt s,dy l]⟩ (oR f120 1 (.ret (bv (lG l s)) [some (dt s)] [])):=by
 have e:AV.toD (aL 0 [dt s,dy l]) 4 (.s (.l (.sl 1 0 l.length)))=some (l.length≤l.length∧True,[1],.s (.l (.d (.sd 1 (l.map (fU .i64).enc))))):=by
  have hm:dx (dx (LV.toD (aL 0 [dt s,dy l]) 3)) ((dy l).els.take l.length)=some (True,[],l.map (fU .i64).enc):=by
   rw[take_of_length_le (by simp[dy])];exact gk
  have hg:hget (aL 0 [dt s,dy l]) 1=some (dy l):=rfl;have hl:(dy l).els.length=l.length:=by simp[dy]
  have ho:(dy l).own=true:=rfl;have hz:(dy l).sz=1:=rfl;simp only[AV.toD,SV.toD,LV.toD,hg,ho,if_true,List.drop_zero,hm,hl,hz,Nat.zero_add,Option.map_some];rfl
 refine SW.wk ?_ (Wk.frz 0 e ⟨Nat.le_refl _,trivial⟩);refine aq [⟨_,XO⟩] rfl ?_;have hD:∀l:List Int,df (fU .i64).dec (l.map (fU .i64).enc)=some l:=dX (fU .i64);simp only[fU]at hD;simp only[go_sem,dt,aR,hD,h];exact X8 (s:=s) rfl rfl
def tg:ap prog 120 :=
 mkR 1 2 (by decide) _ _ _ func120 rfl (fun _ _=>by go_simp) fY (fun x=>[.s (.l (.sl 1 0 x.1.length)),pv 0 0 0]) (fun x=>[dt x.2,dy x.1]) (fun x=>.ret (bv (lG x.1 x.2)) [some (dt x.2)] [])
  (fun hs hd=>G6 hs hd)
  (by
   rintro h zs q bs ⟨l,s⟩ hd hq;obtain⟨b,c,rfl,rfl,rfl,hne,h1,h2⟩:=En hd;refine⟨by rw[ntmps120];simp,rfl,rfl,by simp[hne],fun d=>⟨?_,?_⟩⟩
   ·intro j b' k hj hk
    match j,hj,hk with
    |0,hj,hk =>
     simp at hj hk;subst hj;subst hk;exact⟨rfl,by rw[h2,Gc]⟩
    |1,hj,hk =>
     simp at hj hk;subst hj;subst hk;exact⟨rfl,by rw[h1,Fh]⟩
   ·intro ρ al vals hA
    match vals,hA with
    |[v,u],⟨a,b,_⟩=>exact⟨a,b,trivial⟩)
  (by
   rintro h zs q bs ⟨l,s⟩ hd hq;obtain⟨b,c,rfl,rfl,rfl,hne,h1,h2⟩:=En hd;exact QZ l s hq)
theorem cr {id:Nat}{h:ai}{args:List AV}:tg.run id h args=kJ 1 fY (fun x=>.ret (bv (lG x.1 x.2)) [some (dt x.2)] []) id h args:=rfl
theorem cq {id:Nat}{h:ai}{args:List AV}:tg.pan id h args=kb fY (fun x=>.ret (bv (lG x.1 x.2)) [some (dt x.2)] []) h args:=rfl
def su:Code→Code
 |.seq _ (.seq _ (.seq (.block _ x) _))=>x
 |c=>c
def oU:Code→Code
 |.seq _ (.seq _ (.seq _ c))=>c
 |c=>c
def fZ:Code→Code
 |.seq _ (.cond _ _ y)=>y
 |c=>c
noncomputable def usB:Code:=f58.body.getD .skip
noncomputable def usQ (o:PO):Exit→St→Prop:=CI 0 (lF (fun s=>SW prog ⟨none,0⟩ f58.ntmps (oU usB) s (nJ prog f58.results.toList o)) (nJ prog f58.results.toList o))
def usS (s:StV):St:=⟨1,[(1,pv 0 0 0),(3,.fn 120 [] [.p 0 0 0])],aL 0 [dt s]⟩
def g0 (s:StV):Bool:=decide (0≤s.kind∧s.kind≤7)
def g1 (s:StV):Bool:=decide (s.name=emp∧s.opers=[])||lG [1] s
def g2 (s:StV):Bool:=decide (s.names=[])||lG [2,3,7] s
def g3 (s:StV):Bool:=decide (s.vals=[])||lG [4,5,7] s
def g4 (s:StV):Bool:=decide (s.size=0)||lG [5] s
def g5 (s:StV):Bool:=decide (s.bytes=[])||lG [6] s
theorem vM (s:St):SW prog ⟨none,0⟩ f58.ntmps (oU usB) s (nJ prog f58.results.toList (.ret (bv false))):=by
 unfold usB;simp only[f58,getD_some,oU];refine aw [] ?_;simp only[go_sem]
theorem ZP (s:StV):SW prog ⟨none,0⟩ f58.ntmps (fZ (fZ (fZ (fZ (fZ (fZ (su usB))))))) (usS s) (usQ (.ret (bv true))):=by
 unfold usB;simp only[f58,getD_some,su,fZ];refine aw [] ?_;unfold usQ usS;rw[results58];simp only[go_sem,CI,lF]
theorem ZO (s:StV):SW prog ⟨none,0⟩ f58.ntmps (fZ (fZ (fZ (fZ (fZ (su usB)))))) (usS s) (usQ (.ret (bv (g5 s)))):=by
 have hSt:=jy s;simp only[aR,dr,fU,bu,ofD,map_cons,map_nil]at hSt;have nxt:=ZP s;have hbad:=vM;unfold usB at nxt hbad ⊢;simp only[f58,getD_some,su,fZ,oU]at nxt hbad ⊢;unfold usS;refine iB (bh (ctx:=[⟨_,tg⟩]) 4000 ?_);by_cases a1:s.bytes=[]
 ·have e:g5 s=true:=by unfold g5;rw[decide_eq_true a1];rfl
  have hl:¬(0:Int)<s.bytes.length:=by rw[a1];decide
  rw[e];simp only[go_sem,dt,aR,fY,hSt,aZ,im,cr,cq,hl];refine eH (q:=false) rfl (fun h=>by cases h) fun _=>?_;exact SW.wk nxt (Wk.renL [0] (by simp) (Nat.le_refl 1) (by decide) rfl rfl)
 ·have hl:(0:Int)<s.bytes.length:=by have:=List.length_pos_iff.2 a1;omega
  cases hU:lG [6] s with
  |true =>
   have e:g5 s=true:=by unfold g5;rw[hU,Bool.or_true]
   rw[e];simp only[go_sem,dt,aR,fY,hSt,aZ,im,cr,cq,hl,hU];refine eH (q:=false) rfl (fun h=>by cases h) fun _=>?_;exact SW.wk nxt (Wk.renL [0] (by simp) (Nat.le_refl 1) (by decide) rfl rfl)
  |false =>
   have e:g5 s=false:=by unfold g5;rw[hU,decide_eq_false a1];rfl
   rw[e];simp only[go_sem,dt,aR,fY,hSt,aZ,im,cr,cq,hl,hU];refine eH (q:=true) rfl (fun _=>?_) fun h=>by cases h
   exact bh (ctx:=[]) 4000 (hbad _)
theorem ZN (s:StV):SW prog ⟨none,0⟩ f58.ntmps (fZ (fZ (fZ (fZ (su usB))))) (usS s) (usQ (.ret (bv (g4 s&&(g5 s))))):=by
 have hSt:=jy s;simp only[aR,dr,fU,bu,ofD,map_cons,map_nil]at hSt;have nxt:=ZO s;have hbad:=vM;unfold usB at nxt hbad ⊢;simp only[f58,getD_some,su,fZ,oU]at nxt hbad ⊢;unfold usS;refine iB (bh (ctx:=[⟨_,tg⟩]) 4000 ?_);by_cases a1:s.size=0
 ·have e:g4 s=true:=by unfold g4;rw[decide_eq_true a1];rfl
  rw[e,Bool.true_and];simp only[go_sem,dt,aR,fY,hSt,aZ,im,cr,cq,eq_true a1];refine eH (q:=false) rfl (fun h=>by cases h) fun _=>?_;exact SW.wk nxt (Wk.renL [0] (by simp) (Nat.le_refl 1) (by decide) rfl rfl)
 ·skip
  cases hU:lG [5] s with
  |true =>
   have e:g4 s=true:=by unfold g4;rw[hU,Bool.or_true]
   rw[e,Bool.true_and];simp only[go_sem,dt,aR,fY,hSt,aZ,im,cr,cq,a1,hU];refine eH (q:=false) rfl (fun h=>by cases h) fun _=>?_;exact SW.wk nxt (Wk.renL [0] (by simp) (Nat.le_refl 1) (by decide) rfl rfl)
  |false =>
   have e:g4 s=false:=by unfold g4;rw[hU,decide_eq_false a1];rfl
   rw[e,Bool.false_and];simp only[go_sem,dt,aR,fY,hSt,aZ,im,cr,cq,a1,hU];refine eH (q:=true) rfl (fun _=>?_) fun h=>by cases h
   exact bh (ctx:=[]) 4000 (hbad _)
theorem ZM (s:StV):SW prog ⟨none,0⟩ f58.ntmps (fZ (fZ (fZ (su usB)))) (usS s) (usQ (.ret (bv (g3 s&&(g4 s&&(g5 s)))))):=by
 have hSt:=jy s;simp only[aR,dr,fU,bu,ofD,map_cons,map_nil]at hSt;have nxt:=ZN s;have hbad:=vM;unfold usB at nxt hbad ⊢;simp only[f58,getD_some,su,fZ,oU]at nxt hbad ⊢;unfold usS;refine iB (bh (ctx:=[⟨_,tg⟩]) 4000 ?_);by_cases a1:s.vals=[]
 ·have e:g3 s=true:=by unfold g3;rw[decide_eq_true a1];rfl
  have hl:¬(0:Int)<s.vals.length:=by rw[a1];decide
  rw[e,Bool.true_and];simp only[go_sem,dt,aR,fY,hSt,aZ,im,cr,cq,hl];refine eH (q:=false) rfl (fun h=>by cases h) fun _=>?_;exact SW.wk nxt (Wk.renL [0] (by simp) (Nat.le_refl 1) (by decide) rfl rfl)
 ·have hl:(0:Int)<s.vals.length:=by have:=List.length_pos_iff.2 a1;omega
  cases hU:lG [4,5,7] s with
  |true =>
   have e:g3 s=true:=by unfold g3;rw[hU,Bool.or_true]
   rw[e,Bool.true_and];simp only[go_sem,dt,aR,fY,hSt,aZ,im,cr,cq,hl,hU];refine eH (q:=false) rfl (fun h=>by cases h) fun _=>?_;exact SW.wk nxt (Wk.renL [0] (by simp) (Nat.le_refl 1) (by decide) rfl rfl)
  |false =>
   have e:g3 s=false:=by unfold g3;rw[hU,decide_eq_false a1];rfl
   rw[e,Bool.false_and];simp only[go_sem,dt,aR,fY,hSt,aZ,im,cr,cq,hl,hU];refine eH (q:=true) rfl (fun _=>?_) fun h=>by cases h
   exact bh (ctx:=[]) 4000 (hbad _)
theorem ZL (s:StV):SW prog ⟨none,0⟩ f58.ntmps (fZ (fZ (su usB))) (usS s) (usQ (.ret (bv (g2 s&&(g3 s&&(g4 s&&(g5 s))))))):=by
 have hSt:=jy s;simp only[aR,dr,fU,bu,ofD,map_cons,map_nil]at hSt;have nxt:=ZM s;have hbad:=vM;unfold usB at nxt hbad ⊢;simp only[f58,getD_some,su,fZ,oU]at nxt hbad ⊢;unfold usS;refine iB (bh (ctx:=[⟨_,tg⟩]) 4000 ?_);by_cases a1:s.names=[]
 ·have e:g2 s=true:=by unfold g2;rw[decide_eq_true a1];rfl
  have hl:¬(0:Int)<s.names.length:=by rw[a1];decide
  rw[e,Bool.true_and];simp only[go_sem,dt,aR,fY,hSt,aZ,im,cr,cq,hl];refine eH (q:=false) rfl (fun h=>by cases h) fun _=>?_;exact SW.wk nxt (Wk.renL [0] (by simp) (Nat.le_refl 1) (by decide) rfl rfl)
 ·have hl:(0:Int)<s.names.length:=by have:=List.length_pos_iff.2 a1;omega
  cases hU:lG [2,3,7] s with
  |true =>
   have e:g2 s=true:=by unfold g2;rw[hU,Bool.or_true]
   rw[e,Bool.true_and];simp only[go_sem,dt,aR,fY,hSt,aZ,im,cr,cq,hl,hU];refine eH (q:=false) rfl (fun h=>by cases h) fun _=>?_;exact SW.wk nxt (Wk.renL [0] (by simp) (Nat.le_refl 1) (by decide) rfl rfl)
  |false =>
   have e:g2 s=false:=by unfold g2;rw[hU,decide_eq_false a1];rfl
   rw[e,Bool.false_and];simp only[go_sem,dt,aR,fY,hSt,aZ,im,cr,cq,hl,hU];refine eH (q:=true) rfl (fun _=>?_) fun h=>by cases h
   exact bh (ctx:=[]) 4000 (hbad _)
theorem ZK (s:StV):SW prog ⟨none,0⟩ f58.ntmps (fZ (su usB)) (usS s) (usQ (.ret (bv (g1 s&&(g2 s&&(g3 s&&(g4 s&&(g5 s)))))))):=by
 have hSt:=jy s;simp only[aR,dr,fU,bu,ofD,map_cons,map_nil]at hSt;have nxt:=ZL s;have hbad:=vM;unfold usB at nxt hbad ⊢;simp only[f58,getD_some,su,fZ,oU]at nxt hbad ⊢;unfold usS;refine iB (bh (ctx:=[⟨_,tg⟩]) 4000 ?_);by_cases a1:s.name=emp
 ·by_cases a2:s.opers=[]
  ·have e:g1 s=true:=by unfold g1;rw[decide_eq_true ⟨a1,a2⟩];rfl
   have hl:¬(0:Int)<s.opers.length:=by rw[a2];decide
   rw[e,Bool.true_and];simp only[go_sem,dt,aR,fY,hSt,aZ,im,cr,cq,ac,eq_true a1,hl];refine eH (q:=false) rfl (fun h=>by cases h) fun _=>?_;exact SW.wk nxt (Wk.renL [0] (by simp) (Nat.le_refl 1) (by decide) rfl rfl)
  ·have hl:(0:Int)<s.opers.length:=by have:=List.length_pos_iff.2 a2;omega
   cases hU:lG [1] s with
   |true =>
    have e:g1 s=true:=by unfold g1;rw[hU,Bool.or_true]
    rw[e,Bool.true_and];simp only[go_sem,dt,aR,fY,hSt,aZ,im,cr,cq,ac,eq_true a1,hl,hU];refine eH (q:=false) rfl (fun h=>by cases h) fun _=>?_;exact SW.wk nxt (Wk.renL [0] (by simp) (Nat.le_refl 1) (by decide) rfl rfl)
   |false =>
    have e:g1 s=false:=by unfold g1;rw[hU,decide_eq_false (fun h=>a2 h.2)];rfl
    rw[e,Bool.false_and];simp only[go_sem,dt,aR,fY,hSt,aZ,im,cr,cq,ac,eq_true a1,hl,hU];refine eH (q:=true) rfl (fun _=>?_) fun h=>by cases h
    exact bh (ctx:=[]) 4000 (hbad _)
 ·skip
  cases hU:lG [1] s with
  |true =>
   have e:g1 s=true:=by unfold g1;rw[hU,Bool.or_true]
   rw[e,Bool.true_and];simp only[go_sem,dt,aR,fY,hSt,aZ,im,cr,cq,ac,a1,hU];refine eH (q:=false) rfl (fun h=>by cases h) fun _=>?_;exact SW.wk nxt (Wk.renL [0] (by simp) (Nat.le_refl 1) (by decide) rfl rfl)
  |false =>
   have e:g1 s=false:=by unfold g1;rw[hU,decide_eq_false (fun h=>a1 h.1)];rfl
   rw[e,Bool.false_and];simp only[go_sem,dt,aR,fY,hSt,aZ,im,cr,cq,ac,a1,hU];refine eH (q:=true) rfl (fun _=>?_) fun h=>by cases h
   exact bh (ctx:=[]) 4000 (hbad _)
theorem ZJ (s:StV):SW prog ⟨none,0⟩ f58.ntmps (su usB) (usS s) (usQ (.ret (bv (g0 s&&(g1 s&&(g2 s&&(g3 s&&(g4 s&&(g5 s))))))))):=by
 have hSt:=jy s;simp only[aR,dr,fU,bu,ofD,map_cons,map_nil]at hSt;have nxt:=ZK s;have hbad:=vM;unfold usB at nxt hbad ⊢;simp only[f58,getD_some,su,fZ,oU]at nxt hbad ⊢;unfold usS;refine iB (bh (ctx:=[]) 4000 ?_);by_cases k1:s.kind<0
 ·have e:g0 s=false:=by unfold g0;exact decide_eq_false (by omega)
  rw[e,Bool.false_and];simp only[go_sem,dt,aR,fY,hSt,aZ,im,cr,cq,eq_true k1];refine eH (q:=true) rfl (fun _=>?_) fun h=>by cases h
  exact bh (ctx:=[]) 4000 (hbad _)
 by_cases k2:7<s.kind
 ·have e:g0 s=false:=by unfold g0;exact decide_eq_false (by omega)
  rw[e,Bool.false_and];simp only[go_sem,dt,aR,fY,hSt,aZ,im,cr,cq,k1,eq_true k2];refine eH (q:=true) rfl (fun _=>?_) fun h=>by cases h
  exact bh (ctx:=[]) 4000 (hbad _)
 have e:g0 s=true:=by unfold g0;exact decide_eq_true (by omega)
 rw[e,Bool.true_and];simp only[go_sem,dt,aR,fY,hSt,aZ,im,cr,cq,k1,k2];refine eH (q:=false) rfl (fun h=>by cases h) fun _=>?_;exact SW.wk nxt (Wk.renL [0] (by simp) (Nat.le_refl 1) (by decide) rfl rfl)
theorem Q0 (s:StV):(g0 s&&(g1 s&&(g2 s&&(g3 s&&(g4 s&&(g5 s))))))=sn s:=by
 unfold sn g0 g1 g2 g3 g4 g5 lG;simp only[any_cons,List.any_nil,Bool.or_false,Bool.and_true,Bool.and_assoc,Bool.decide_or]
abbrev Y4:ap prog 58 :=
 mz1 func58 (mS) ((fun _=>True)) ((fun s=>.ret (bv (sn s)))) (asP fun s _=>by
 have h0:=ZJ s;rw[Q0]at h0;unfold usQ usB at h0;rw[results58]at h0 ⊢;simp only[f58,getD_some,aB,su,oU]at h0 ⊢;refine iB (bh (ctx:=[]) 4000 ?_);simp only[go_sem,bD,aR];refine iB (bh (ctx:=[]) 4000 ?_);simp only[go_sem];exact iB (QI (SW.wk h0 (Wk.renL [0] (by simp) (Nat.le_refl 1) (by decide) rfl rfl))))
theorem KS (s:StV)(hs:s.name.size≤maxLen):Sw f59 0 ⟨0,aB 0 [mS.enc s],[]⟩ (oQ f59 (.ret (bv (aX s)))):=by
 refine aq [⟨_,Ly.nameS⟩,⟨_,nC⟩] rfl ?_;simp only[go_sem,bD,aR];refine sD mixed [] [] ?_;by_cases k1:s.kind=1
 ·cases hn:eK (aa s.name) with
  |false =>
   have e:aX s=false:=by unfold aX;rw[if_pos k1];rw[hn];rfl
   simp only[go_sem,aR,Ly.name_run,Ly.name_pan,hs,eq_true k1,hn,e]
  |true =>
   cases hp:bS s.name (⟨#[46]⟩:ByteArray) with
   |false =>
    have e:aX s=true:=by unfold aX;rw[if_pos k1];rw[hn,show bS s.name mf=false from hp];rfl
    simp only[go_sem,aR,Ly.name_run,Ly.name_pan,hs,eq_true k1,hn,hp,e]
   |true =>
    have e:aX s=false:=by unfold aX;rw[if_pos k1];rw[hn,show bS s.name mf=true from hp];rfl
    simp only[go_sem,aR,Ly.name_run,Ly.name_pan,hs,eq_true k1,hn,hp,e]
 by_cases k2:s.kind=2
 ·by_cases n1:s.names.length=1
  ·have n2:((s.names.length:Int)=1)=True:=eq_true (by omega);have b1:((s.names.length:Int)==1)=true:=beq_iff_eq.2 (by omega);have e:aX s=true:=by unfold aX;rw[if_neg k1];rw[if_pos k2];exact decide_eq_true n1
   simp only[go_sem,aR,Ly.name_run,Ly.name_pan,hs,k1,eq_true k2,n2,b1,e]
  ·have n2:¬((s.names.length:Int)=1):=by omega
   have b1:((s.names.length:Int)==1)=false:=beq_eq_false_iff_ne.2 (by omega);have e:aX s=false:=by unfold aX;rw[if_neg k1];rw[if_pos k2];exact decide_eq_false n1
   simp only[go_sem,aR,Ly.name_run,Ly.name_pan,hs,k1,eq_true k2,n2,b1,e]
 by_cases k3:s.kind=3
 ·by_cases n1:0<s.names.length
  ·have n2:((0:Int)<s.names.length)=True:=eq_true (by omega);have e:aX s=true:=by unfold aX;rw[if_neg k1];rw[if_neg k2];rw[if_pos k3];exact decide_eq_true n1
   simp only[go_sem,aR,Ly.name_run,Ly.name_pan,hs,k1,k2,eq_true k3,n2,e]
  ·have n2:¬((0:Int)<s.names.length):=by omega
   have e:aX s=false:=by unfold aX;rw[if_neg k1];rw[if_neg k2];rw[if_pos k3];exact decide_eq_false n1
   simp only[go_sem,aR,Ly.name_run,Ly.name_pan,hs,k1,k2,eq_true k3,n2,e]
 by_cases k4:s.kind=4
 ·by_cases n1:s.vals.length=1
  ·have n2:((s.vals.length:Int)=1)=True:=eq_true (by omega);have b1:((s.vals.length:Int)==1)=true:=beq_iff_eq.2 (by omega);have e:aX s=true:=by unfold aX;rw[if_neg k1];rw[if_neg k2];rw[if_neg k3];rw[if_pos k4];exact decide_eq_true n1
   simp only[go_sem,aR,Ly.name_run,Ly.name_pan,hs,k1,k2,k3,eq_true k4,n2,b1,e]
  ·have n2:¬((s.vals.length:Int)=1):=by omega
   have b1:((s.vals.length:Int)==1)=false:=beq_eq_false_iff_ne.2 (by omega);have e:aX s=false:=by unfold aX;rw[if_neg k1];rw[if_neg k2];rw[if_neg k3];rw[if_pos k4];exact decide_eq_false n1
   simp only[go_sem,aR,Ly.name_run,Ly.name_pan,hs,k1,k2,k3,eq_true k4,n2,b1,e]
 by_cases k5:s.kind=5
 ·by_cases n1:0<s.vals.length
  case neg =>
   have n2:¬(0:Int)<s.vals.length:=by omega
   have e:aX s=false:=by unfold aX;rw[if_neg k1];rw[if_neg k2];rw[if_neg k3];rw[if_neg k4];rw[if_pos k5];rw[decide_eq_false n1];rfl
   simp only[go_sem,aR,Ly.name_run,Ly.name_pan,hs,k1,k2,k3,k4,eq_true k5,n2,e]
  have n2:((0:Int)<s.vals.length)=True:=eq_true (by omega);by_cases z1:s.size=1
  ·skip
   have e:aX s=true:=by unfold aX;rw[if_neg k1];rw[if_neg k2];rw[if_neg k3];rw[if_neg k4];rw[if_pos k5];rw[decide_eq_true n1,decide_eq_true (.inl z1)];rfl
   simp only[go_sem,aR,Ly.name_run,Ly.name_pan,hs,k1,k2,k3,k4,eq_true k5,n2,eq_true z1,e]
  by_cases z4:s.size=4
  ·skip
   have e:aX s=true:=by unfold aX;rw[if_neg k1];rw[if_neg k2];rw[if_neg k3];rw[if_neg k4];rw[if_pos k5];rw[decide_eq_true n1,decide_eq_true (.inr (.inl z4))];rfl
   simp only[go_sem,aR,Ly.name_run,Ly.name_pan,hs,k1,k2,k3,k4,eq_true k5,n2,z1,eq_true z4,e]
  by_cases z8:s.size=8
  ·skip
   have b4:(s.size==8)=true:=beq_iff_eq.2 (by omega);have e:aX s=true:=by unfold aX;rw[if_neg k1];rw[if_neg k2];rw[if_neg k3];rw[if_neg k4];rw[if_pos k5];rw[decide_eq_true n1,decide_eq_true (.inr (.inr z8))];rfl
   simp only[go_sem,aR,Ly.name_run,Ly.name_pan,hs,k1,k2,k3,k4,eq_true k5,n2,z1,z4,eq_true z8,b4,e]
  have b4:(s.size==8)=false:=beq_eq_false_iff_ne.2 (by omega);have e:aX s=false:=by unfold aX;rw[if_neg k1];rw[if_neg k2];rw[if_neg k3];rw[if_neg k4];rw[if_pos k5];rw[decide_eq_true n1,decide_eq_false (by rintro (h | h | h);exact z1 h;exact z4 h;exact z8 h)];rfl
  simp only[go_sem,aR,Ly.name_run,Ly.name_pan,hs,k1,k2,k3,k4,eq_true k5,n2,z1,z4,z8,b4,e]
 by_cases k7:s.kind=7
 ·by_cases n1:s.names.length=1
  case neg =>
   have n2:¬(s.names.length:Int)=1:=by omega
   have e:aX s=false:=by unfold aX;rw[if_neg k1];rw[if_neg k2];rw[if_neg k3];rw[if_neg k4];rw[if_neg k5];rw[if_pos k7];rw[decide_eq_false n1];rfl
   simp only[go_sem,aR,Ly.name_run,Ly.name_pan,hs,k1,k2,k3,k4,k5,eq_true k7,n2,e]
  have n2:((s.names.length:Int)=1)=True:=eq_true (by omega);by_cases v1:s.vals.length=1
  ·have v2:((s.vals.length:Int)=1)=True:=eq_true (by omega);have b2:((s.vals.length:Int)==1)=true:=beq_iff_eq.2 (by omega);have e:aX s=true:=by unfold aX;rw[if_neg k1];rw[if_neg k2];rw[if_neg k3];rw[if_neg k4];rw[if_neg k5];rw[if_pos k7];rw[decide_eq_true n1,decide_eq_true v1];rfl
   simp only[go_sem,aR,Ly.name_run,Ly.name_pan,hs,k1,k2,k3,k4,k5,eq_true k7,n2,v2,b2,e]
  ·have v2:¬(s.vals.length:Int)=1:=by omega
   have b2:((s.vals.length:Int)==1)=false:=beq_eq_false_iff_ne.2 (by omega);have e:aX s=false:=by unfold aX;rw[if_neg k1];rw[if_neg k2];rw[if_neg k3];rw[if_neg k4];rw[if_neg k5];rw[if_pos k7];rw[decide_eq_true n1,decide_eq_false v1];rfl
   simp only[go_sem,aR,Ly.name_run,Ly.name_pan,hs,k1,k2,k3,k4,k5,eq_true k7,n2,v2,b2,e]
 have e:aX s=true:=by unfold aX;rw[if_neg k1,if_neg k2,if_neg k3,if_neg k4,if_neg k5,if_neg k7]
 simp only[go_sem,aR,Ly.name_run,Ly.name_pan,hs,k1,k2,k3,k4,k5,k7,e]
abbrev Sy:ap prog 59 :=
 mz1 func59 (mS) ((fun s=>s.name.size≤maxLen)) ((fun s=>.ret (bv (aX s)))) (asP fun s h=>KS s h)
structure Au (s:StV):Prop where
 labels:s.labels.length≤1000000
 labelT:∀n∈s.labels,n.size≤1099511627776
 name:s.name.size≤1099511627776
 opers:s.opers.length≤1000000
 operT:∀o∈s.opers,okO o
 names:s.names.length≤1000000
 nameT:∀n∈s.names,n.size≤1099511627776
 vals:s.vals.length≤1000000
 valT:∀v∈s.vals,jg v
 bytes:∀z∈s.bytes,0≤z∧z≤255
 byteT:s.bytes.length≤1000000
theorem yU {n:Nat}(h:n≤1099511627776):n≤maxLen:=by unfold maxLen;omega
theorem RZ (l:List ByteArray):l.any (vg 56) = !l.all iU:=by
 induction l with
 |nil=>rfl
 |cons x r ih=>rw[any_cons,List.all_cons,ih,Bool.not_and];rfl
theorem R1 (l:List ByteArray):l.any (vg 53) = !l.all fun n=>eK (aa n):=by
 induction l with
 |nil=>rfl
 |cons x r ih=>rw[any_cons,List.all_cons,ih,Bool.not_and];rfl
theorem Jh {l:List Val}{i:Nat}{v:Val}(h:l[i]? = some v):lH (l.drop i)=if(Ex.printF v).2=0 then lH (l.drop (i+1)) else(Ex.printF v).2:=by
 obtain⟨h1,h2⟩:=List.getElem?_eq_some_iff.1 h;rw[List.drop_eq_getElem_cons h1,h2];rfl
def Qv (s:StV)(i:Nat):St:=⟨1,[(1,pv 0 0 0),(57,Kc.enc s.vals),(58,iv s.vals.length),(59,iv i)],aL 0 [dt s]⟩
theorem ML (s:StV)(H:Au s)(hx:eZ s=if ¬lH s.vals=0 then lH s.vals else qG s.opers):SW prog ⟨none,0⟩ 82 (oU (f22.body.getD .skip)) ⟨1,[(1,pv 0 0 0)],aL 0 [dt s]⟩ (nJ prog f22.results.toList (.ret (iv (eZ s)))):=by
 rw[results22];simp only[f22,getD_some,oU];refine iB (bh (ctx:=[]) 4000 ?_);simp only[go_sem,dt,aR];refine aw [] ?_;simp only[go_sem];refine ba (ι:=Nat) (fun i=>i≤s.vals.length∧lH (s.vals.drop i)=lH s.vals) (Qv s) (fun i=>s.vals.length-i) 0 ⟨zero_le _,rfl⟩ (Wk.renL [0] (by simp) (Nat.le_refl 1) (by decide) (by simp only[Qv,map_cons,map_nil,List.length_map];rfl) rfl) ?_;rintro i ⟨hi,ht⟩;unfold Qv;refine aw [⟨_,zF⟩,⟨_,DJ⟩,⟨_,nC⟩] ?_;have hz:=H.vals;by_cases hlt:i<s.vals.length
 ·have hltI:(i:Int)<s.vals.length:=by omega
  obtain⟨v,hv⟩:∃v,s.vals[i]? = some v:=⟨_,List.getElem?_eq_getElem hlt⟩;have hok:=H.valT v (List.mem_of_getElem? hv);have ei:=wI i;rw[Jh hv]at ht;rcases hp:Ex.printF v with ⟨t,z⟩;rw[hp]at ht;by_cases z0:z=0
  ·subst z0;rw[if_pos rfl]at ht;simp only[go_sem,lF,hltI,hlt,hv,rX,ce,iL,hok,hp,aN,ei];exact⟨i+1,⟨hlt,ht⟩,by omega,Wk.renL [0] (by simp) (Nat.le_refl 1) (by decide) rfl rfl⟩
  ·rw[if_neg z0]at ht;have e:eZ s=z:=by rw[hx,←ht,if_pos z0]
   simp only[go_sem,lF,hltI,hlt,hv,rX,ce,iL,hok,hp,aN,z0,e]
 obtain rfl:i=s.vals.length:=by omega
 have hI:¬(s.vals.length:Int)<s.vals.length:=by omega
 have hv0:lH s.vals=0:=by rw[←ht,List.drop_length];rfl
 rw[hv0,if_neg (by simp)]at hx;have hO:=H.operT;have hO2:=H.opers;rcases hT:fm s.opers with ⟨t,z⟩;cases hp:bS t (⟨#[58]⟩:ByteArray) with
 |true =>
  have e:eZ s=110:=by rw[hx];unfold qG;rw[hT,if_pos (show bS t aO=true from hp)]
  simp only[go_sem,lF,hI];refine aw [⟨_,DJ⟩,⟨_,nC⟩] ?_;simp only[go_sem,dt,aR,hO2,hT,pR,hp,e];exact hO
 |false =>
  have e:eZ s=z:=by rw[hx];unfold qG;rw[hT,if_neg (by rw[show bS t aO=false from hp];simp)]
  simp only[go_sem,lF,hI];refine aw [⟨_,DJ⟩,⟨_,nC⟩] ?_;simp only[go_sem,dt,aR,hO2,hT,pR,hp,e];exact hO
theorem TT (s:StV)(H:Au s):SW prog ⟨none,0⟩ f22.ntmps (f22.body.getD .skip) ⟨0,aB 0 [mS.enc s],[]⟩ (nJ prog f22.results.toList (.ret (iv (eZ s)))):=by
 have tail:=ML s H;rw[ntmps22];rw[results22]at tail ⊢;simp only[f22,getD_some,aB,oU]at tail ⊢;refine iB (bh (ctx:=[]) 4000 ?_);simp only[go_sem,bD,aR];refine iB (bh (ctx:=[]) 4000 ?_);simp only[go_sem];refine iB (bh (ctx:=[⟨_,Vl⟩,⟨_,Y4⟩,⟨_,Sy⟩,⟨_,ET⟩]) 4000 ?_);have hD:∀l:List ByteArray,df dr.dec (l.map dr.enc)=some l:=dX dr;have hSt:=AU.back s;simp only[bD,aR,dr,fU]at hD hSt;have f1:PA s.labels 56:=⟨H.labels,fun n hn=>yU (H.labelT n hn),.inr rfl⟩;have f2:PA s.names 53:=⟨H.names,fun n hn=>yU (H.nameT n hn),.inl rfl⟩;have hnm:=yU H.name;have a1:=RZ s.labels;have a2:=R1 s.names;cases h1:s.labels.all iU with
 |false =>
  have e:eZ s=110:=by unfold eZ;rw[h1];rfl
  rw[h1]at a1;simp only[go_sem,lF,bD,aR,f1,hD,a1,e]
 |true =>
 rw[h1]at a1;cases h2:sn s with
 |false =>
  have e:eZ s=110:=by unfold eZ;rw[h1,h2];rfl
  simp only[go_sem,lF,bD,aR,f1,hD,a1,hSt,h2,e]
 |true =>
 have d1:¬(s.labels.all iU&&sn s)=false:=by rw[h1,h2];decide
 by_cases l8:8<s.labels.length
 ·have e:eZ s=3:=by unfold eZ;rw[if_neg d1,if_pos (.inl l8)]
  have l8I:((8:Int)<s.labels.length)=True:=eq_true (by omega);simp only[go_sem,lF,bD,aR,f1,hD,a1,hSt,h2,e,l8I]
 have l8I:¬(8:Int)<s.labels.length:=by omega
 by_cases l64:(64:Int)<(if(s.names.length:Int)<s.vals.length then(s.vals.length:Int) else s.names.length)
 ·have e:eZ s=3:=by unfold eZ;rw[if_neg d1,if_pos (by split at l64<;>omega)]
  simp only[go_sem,lF,bD,aR,f1,hD,a1,hSt,h2,e,l8I,eq_true l64]
 have d2:¬(8<s.labels.length∨64<s.names.length∨64<s.vals.length):=by split at l64<;>omega
 cases h3:aX s with
 |false =>
  have e:eZ s=110:=by unfold eZ;rw[if_neg d1,if_neg d2,h3];rfl
  simp only[go_sem,lF,bD,aR,f1,f2,hD,a1,hSt,h2,l8I,l64,hnm,h3,e]
 |true =>
 cases h4:s.names.all fun n=>eK (aa n) with
 |false =>
  have e:eZ s=110:=by unfold eZ;rw[if_neg d1,if_neg d2,h3,h4];rfl
  rw[h4]at a2;simp only[go_sem,lF,bD,aR,f1,f2,hD,a1,hSt,h2,l8I,l64,hnm,h3,a2,e]
 |true =>
 rw[h4]at a2;have d3:¬(aX s&&s.names.all fun n=>eK (aa n))=false:=by rw[h3,h4];decide
 by_cases k4:s.kind=4
 ·have hv:s.vals.length=1:=by
   have h:=h3;unfold aX at h;rw[nG,nG,nG,if_pos k4]at h;exact of_decide_eq_true h
  obtain⟨v,hv1⟩:=List.length_eq_one_iff.1 hv;have g0:s.vals[0]? = some v:=by rw[hv1];rfl
  have g1:s.vals.getD 0 ⟨0,emp,emp⟩=v:=by rw[hv1];rfl
  have hl:(0:Nat)<s.vals.length:=by omega
  have hlI:(0:Int)<s.vals.length:=by omega
  cases ha:ip v with
  |false =>
   have e:eZ s=7:=by unfold eZ;rw[if_neg d1,if_neg d2,if_neg d3,if_pos ⟨k4,by rw[g1];exact ha⟩]
   simp only[go_sem,lF,bD,aR,f1,f2,hD,a1,hSt,h2,l8I,l64,hnm,h3,a2,eq_true k4,hl,hlI,g0,rX,ce,ha,e]
  |true =>
   have hx:eZ s=if ¬lH s.vals=0 then lH s.vals else qG s.opers:=by unfold eZ;rw[if_neg d1,if_neg d2,if_neg d3,if_neg (by rintro⟨-,h⟩;rw[g1,ha]at h;cases h)]
   simp only[go_sem,lF,bD,aR,f1,f2,hD,a1,hSt,h2,l8I,l64,hnm,h3,a2,eq_true k4,hl,hlI,g0,rX,ce,ha];exact SW.wk (tail hx) (Wk.renL [0] (by simp) (Nat.le_refl 1) (by decide) rfl rfl)
 ·have hx:eZ s=if ¬lH s.vals=0 then lH s.vals else qG s.opers:=by unfold eZ;rw[if_neg d1,if_neg d2,if_neg d3,if_neg (fun h=>k4 h.1)]
  simp only[go_sem,lF,bD,aR,f1,f2,hD,a1,hSt,h2,l8I,l64,hnm,h3,a2,k4];exact SW.wk (tail hx) (Wk.renL [0] (by simp) (Nat.le_refl 1) (by decide) rfl rfl)
abbrev YB:ap prog 22 :=
 mz1 func22 (mS) (Au) ((fun s=>.ret (iv (eZ s)))) (asP fun s h=>TT s h)
theorem yM (p:ByteArray){K:Nat}:∀(r:List ByteArray) (x:ByteArray),(∀y∈r,y.size≤K)→(r.foldl (fun a y=>a++p++y) x).size≤x.size+r.length*(K+p.size)
 |[],x,_=>by simp
 |y::r,x,h=>by
  have h1:=h y (by simp);have h2:=yM p r (x++p++y) fun z hz=>h z (by simp[hz]);rw[List.foldl_cons,length_cons,Nat.add_mul];simp only[ByteArray.size_append]at h2;omega
theorem ml {l:List ByteArray}{K:Nat}(h:∀y∈l,y.size≤K):(cZ l).size≤l.length*(K+2):=by
 cases l with
 |nil=>exact zero_le _
 |cons x r =>
  have h1:=h x (by simp);have h2:=yM dR r x fun y hy=>h y (by simp[hy]);have h3:dR.size=2:=rfl;rw[h3]at h2;show(r.foldl _ x).size≤_;rw[length_cons,Nat.add_mul];omega
theorem wn:∀(r:List ByteArray) (x:ByteArray),(r.foldl (fun a y=>a++(⟨#[32]⟩:ByteArray)++y) x).data.toList=x.data.toList++Lib.joinTail [32] (r.map (·.data.toList))
 |[],x=>by simp[Lib.joinTail]
 |y::r,x=>by
  rw[List.foldl_cons,wn r];have e:(x++(⟨#[32]⟩:ByteArray)++y).data.toList=x.data.toList++([32]++y.data.toList):=by simp[ByteArray.data_append,Array.toList_append]
  rw[e,map_cons];simp[Lib.joinTail,List.append_assoc]
theorem Lu (l:List ByteArray):oj l (⟨#[32]⟩:ByteArray)=gA l:=by
 cases l with
 |nil=>rfl
 |cons x r =>
  apply ByteArray.ext;rw[←Array.toList_inj];show _=(r.foldl (fun a y=>a++(⟨#[32]⟩:ByteArray)++y) x).data.toList;rw[wn];show Lib.join ((x::r).map (·.data.toList)) [32]=_;rw[←Lib.join_cons];rfl
def Xl (l:List Val)(i:Nat):St:=⟨1,[(3,.s (.l (.sl 0 0 l.length))),(9,Kc.enc l),(10,iv l.length),(11,iv i)],[(0,some ⟨true,9,1,la (bJ l) i⟩)]⟩
theorem xG (l:List Val):(bJ l).length=l.length:=by unfold bJ;rw[List.length_map]
theorem Ng (l:List Val)(hz:l.length≤1000000)(hO:∀v∈l,jg v):Sw f92 0 ⟨0,aB 0 [Kc.enc l],[]⟩ (oQ f92 (.ret (.s (.l (.d (.sd 1 ((bJ l).map dr.enc))))))):=by
 refine aq [] rfl ?_;have hm:maxLen=9223372036854775807:=rfl;have hlen:=xG l;simp only[go_sem];refine⟨by rw[hm];omega,?_⟩;refine ba (ι:=Nat) (fun i=>i≤l.length) (Xl l) (fun i=>l.length-i) 0 (zero_le _) (Wk.renL [48] (by simp) (le_add_left 1 _) (by simp) rfl (by simp[Xl,hget,Blk.ren,yB,LV.ren,hlen])) ?_;intro i hi;unfold Xl;refine aw [⟨_,zF⟩] ?_;by_cases hlt:i<l.length
 ·have hltI:(i:Int)<l.length:=by omega
  have hlt2:i<(bJ l).length:=by omega
  obtain⟨v,hv⟩:∃v,l[i]? = some v:=⟨_,List.getElem?_eq_getElem hlt⟩;have hok:=hO v (List.mem_of_getElem? hv);have ei:=wI i;have hx:(bJ l)[i]? = some (Ex.printF v).1:=by unfold bJ;rw[List.getElem?_map,hv];rfl
  have hset:=uY hx;simp only[nM]at hset;rcases hp:Ex.printF v with ⟨t,z⟩;rw[hp]at hset;simp only[go_sem,hltI,hlt,hv,rX,ce,iL,hok,hp,aN,ei,rv (Nat.le_of_lt hlt2),yA hlt2,hlen,hset];exact⟨i+1,hlt,by omega,Wk.renL [0] (by simp) (le_add_left 1 _) (by simp) rfl (by simp[hget,Blk.ren,Bn])⟩
 obtain rfl:i=l.length:=by omega
 have hI:¬(l.length:Int)<l.length:=by omega
 have hq:∀h:ai,dx (dx (LV.toD h 3)) ((la (bJ l) l.length).take l.length)=some (True,[],(bJ l).map dr.enc):=fun h=>by
  rw[←hlen,Bm,take_of_length_le (by simp)];exact gk
 have hfl:(la (bJ l) l.length).length=l.length:=by rw[rv (by omega)];exact hlen
 simp only[go_sem,hI];rw[hq];exact⟨⟨by rw[hfl];exact Nat.le_refl _,trivial⟩,rfl⟩
abbrev rQ:ap prog 92 :=
 mz1 func92 (Kc) ((fun l=>l.length≤1000000∧∀v∈l,jg v)) ((fun l=>.ret (.s (.l (.d (.sd 1 ((bJ l).map dr.enc))))))) (asP fun l h=>Ng l h.1 h.2)
structure ChkOk (s:StV):Prop where
 ok:Au s
 labels:s.labels.length≤8
 uses:sn s=true
 counts:aX s=true
 names:s.names.length≤64
 vals:s.vals.length≤64
 good:∀v∈s.vals,(Ex.printF v).2=0
 opers:(fm s.opers).2=0
theorem Vi {s:StV}(H:Au s)(h:eZ s=0):ChkOk s:=by
 unfold eZ at h;split at h
 ·cases h
 rename_i c1;split at h
 ·cases h
 rename_i c2;split at h
 ·cases h
 rename_i c3;split at h
 ·cases h
 split at h
 ·rename_i c5;exact absurd h c5
 rename_i c5;simp only[Bool.not_eq_false,Bool.and_eq_true]at c1 c3;refine⟨H,by omega,c1.2,c3.1,by omega,by omega,Aq (Decidable.not_not.1 c5),?_⟩;unfold qG at h;split at h
 ·cases h
 ·exact h
theorem ChkOk.text {s:StV}(h:ChkOk s):∀t∈bJ s.vals,t.size≤4000:=by
 intro t ht;unfold bJ at ht;obtain⟨v,hv,rfl⟩:=List.mem_map.1 ht;have h1:=Ki (h.good v hv) (h.ok.valT v hv);have h2:=wA v
 have h3:v.plus.size≤512:=by
  rcases h1.p with h | h
  ·rw[h];exact zero_le _
  ·exact Ex.symB_size h
 have h4:v.minus.size≤512:=by
  rcases h1.m with h | h
  ·rw[h];exact zero_le _
  ·exact Ex.symB_size h
 omega
def vO (s:StV):PO:=.ret (.tup [.l (.v (.string (aG s).1)),.l (.v (.string (aG s).2))])
theorem Rb (s:StV)(H:ChkOk s):Sw f40 0 ⟨0,aB 0 [mS.enc s],[]⟩ (oQ f40 (vO s)):=by
 refine aq [⟨_,DJ⟩,⟨_,yN⟩,⟨_,rQ⟩,⟨_,Ly.quoteS⟩] rfl ?_;have hD:∀l:List ByteArray,df dr.dec (l.map dr.enc)=some l:=dX dr;simp only[dr]at hD;have hC:=H.counts;have o1:=H.ok.opers;have o2:=H.ok.operT;have o3:=H.ok.names;have o4:=H.ok.vals;have o5:=H.ok.valT;unfold aX at hC;unfold vO;by_cases k1:s.kind=1
 ·rcases hT:fm s.opers with ⟨t,z⟩;have e:aG s=(s.name,t):=by unfold aG;rw[if_pos k1,hT]
  rw[e];simp only[go_sem,bD,aR,eq_true k1,o1,hT,pR];exact o2
 rw[if_neg k1]at hC;by_cases k2:s.kind=2
 ·rw[if_pos k2]at hC;obtain⟨n,hn⟩:=List.length_eq_one_iff.1 (of_decide_eq_true hC);have g0:s.names[0]? = some n:=by rw[hn];rfl
  have g1:s.names.getD 0 emp=n:=by rw[hn];rfl
  have hl:(0:Nat)<s.names.length:=by rw[hn];exact one_pos
  have hlI:(0:Int)<s.names.length:=by omega
  by_cases t1:n=gI
  ·have e:aG s=(n,emp):=by unfold aG;rw[if_neg k1,if_pos k2,g1,if_pos (.inl t1)]
   rw[e];have t1':n=((⟨#[46,116,101,120,116]⟩:ByteArray)):=t1;simp only[go_sem,bD,aR,k1,eq_true k2,hl,hlI,g0,eq_true t1',ac]
  have t1':¬n=((⟨#[46,116,101,120,116]⟩:ByteArray)):=t1;by_cases t2:n=hZ
  ·have e:aG s=(n,emp):=by unfold aG;rw[if_neg k1,if_pos k2,g1,if_pos (.inr t2)]
   rw[e];have t2':n=((⟨#[46,100,97,116,97]⟩:ByteArray)):=t2;simp only[go_sem,bD,aR,k1,eq_true k2,hl,hlI,g0,t1',eq_true t2',ac]
  have t2':¬n=((⟨#[46,100,97,116,97]⟩:ByteArray)):=t2;have e:aG s=(dJ,n):=by unfold aG;rw[if_neg k1,if_pos k2,g1,if_neg (by rintro (h | h);exact t1 h;exact t2 h)]
  rw[e];simp only[go_sem,bD,aR,k1,eq_true k2,hl,hlI,g0,t1',t2'];refine sD mixed [] [] ?_;simp only[go_sem,hl,hlI,g0,dJ]
 rw[if_neg k2]at hC;by_cases k3:s.kind=3
 ·have e:aG s=(gy,cZ s.names):=by unfold aG;rw[if_neg k1,if_neg k2,if_pos k3]
  have hj:(oj s.names dR).size≤140737488355328:=by
   rw[qy];have h1:=ml H.ok.nameT;have h2:=H.names;have:=mul_le_mul_right (1099511627776+2) h2;omega
  have hj':oj s.names (⟨#[44,32]⟩:ByteArray)=cZ s.names:=qy s.names;have hj2:(oj s.names (⟨#[44,32]⟩:ByteArray)).size≤140737488355328:=hj;rw[hj']at hj2;rw[e];simp only[go_sem,bD,aR,k1,k2,eq_true k3,hD,o3,hj',hj2,gy]
 rw[if_neg k3]at hC;by_cases k4:s.kind=4
 ·rw[if_pos k4]at hC;obtain⟨v,hv⟩:=List.length_eq_one_iff.1 (of_decide_eq_true hC);have g0:(bJ s.vals)[0]? = some (Ex.printF v).1:=by rw[hv];rfl
  have g1:(bJ s.vals).getD 0 emp=(Ex.printF v).1:=by rw[hv];rfl
  have hl:(0:Nat)<(bJ s.vals).length:=by rw[hv];exact one_pos
  have hlI:(0:Int)<(bJ s.vals).length:=by omega
  have e:aG s=(ic,(Ex.printF v).1):=by unfold aG;rw[if_neg k1,if_neg k2,if_neg k3,if_pos k4,g1]
  rw[e];simp only[go_sem,bD,aR,k1,k2,k3,eq_true k4];refine sD mixed [⟨_,rQ⟩] [] ?_;simp only[go_sem,o4,hl,hlI,g0,ic];exact o5
 rw[if_neg k4]at hC;by_cases k5:s.kind=5
 ·rw[if_pos k5,Bool.and_eq_true]at hC
  have hj:(oj (bJ s.vals) dR).size≤140737488355328:=by
   rw[qy];have h1:=ml H.text;rw[xG]at h1;have h2:=H.vals;have:=mul_le_mul_right (4000+2) h2;omega
  have hj':oj (bJ s.vals) (⟨#[44,32]⟩:ByteArray)=cZ (bJ s.vals):=qy _;have hj2:(oj (bJ s.vals) (⟨#[44,32]⟩:ByteArray)).size≤140737488355328:=hj;rw[hj']at hj2;have o6:(bJ s.vals).length≤1000000:=by rw[xG];exact o4
  have ew:aG s=(if s.size=1 then mY else if s.size=4 then kL else pZ,cZ (bJ s.vals)):=by unfold aG;rw[if_neg k1,if_neg k2,if_neg k3,if_neg k4,if_pos k5]
  rcases of_decide_eq_true hC.2 with z | z | z
  ·have e:aG s=(mY,cZ (bJ s.vals)):=by rw[ew,if_pos z]
   rw[e];simp only[go_sem,bD,aR,k1,k2,k3,k4,eq_true k5,z];refine sD mixed [⟨_,rQ⟩,⟨_,yN⟩] [] ?_;simp only[go_sem,o4,hD,o6,hj',hj2,mY];exact o5
  ·have e:aG s=(kL,cZ (bJ s.vals)):=by rw[ew,nG,if_pos z]
   rw[e];simp only[go_sem,bD,aR,k1,k2,k3,k4,eq_true k5,z];refine sD mixed [⟨_,rQ⟩,⟨_,yN⟩] [] ?_;simp only[go_sem,o4,hD,o6,hj',hj2,kL];exact o5
  ·have e:aG s=(pZ,cZ (bJ s.vals)):=by rw[ew,nG,nG]
   rw[e];simp only[go_sem,bD,aR,k1,k2,k3,k4,eq_true k5,z];refine sD mixed [⟨_,rQ⟩,⟨_,yN⟩] [] ?_;simp only[go_sem,o4,hD,o6,hj',hj2,pZ];exact o5
 rw[if_neg k5]at hC;by_cases k6:s.kind=6
 ·have e:aG s=(kM,ke s.bytes):=by unfold aG;rw[if_neg k1,if_neg k2,if_neg k3,if_neg k4,if_neg k5,if_pos k6]
  have hb:aa (aj s.bytes)=s.bytes:=bj H.ok.bytes;have hz:(aj s.bytes).size≤1000000:=by rw[←ae,hb];exact H.ok.byteT
  rw[e];simp only[go_sem,bD,aR,k1,k2,k3,k4,k5,eq_true k6,dl,hz,hb,kM,ke]
 by_cases k7:s.kind=7
 ·rw[if_pos k7,Bool.and_eq_true]at hC;obtain⟨n,hn⟩:=List.length_eq_one_iff.1 (of_decide_eq_true hC.1);obtain⟨v,hv⟩:=List.length_eq_one_iff.1 (of_decide_eq_true hC.2);have n0:s.names[0]? = some n:=by rw[hn];rfl
  have n1:s.names.getD 0 emp=n:=by rw[hn];rfl
  have hm:(0:Nat)<s.names.length:=by rw[hn];exact one_pos
  have hmI:(0:Int)<s.names.length:=by omega
  have g0:(bJ s.vals)[0]? = some (Ex.printF v).1:=by rw[hv];rfl
  have g1:(bJ s.vals).getD 0 emp=(Ex.printF v).1:=by rw[hv];rfl
  have hl:(0:Nat)<(bJ s.vals).length:=by rw[hv];exact one_pos
  have hlI:(0:Int)<(bJ s.vals).length:=by omega
  have e:aG s=(r6,n++dR++(Ex.printF v).1):=by unfold aG;rw[if_neg k1,if_neg k2,if_neg k3,if_neg k4,if_neg k5,if_neg k6,if_pos k7,n1,g1]
  rw[e];simp only[go_sem,bD,aR,k1,k2,k3,k4,k5,k6,eq_true k7];refine sD mixed [⟨_,rQ⟩] [] ?_;simp only[go_sem,o4,hl,hlI,g0,hm,hmI,n0,r6,dR];have x1:=H.ok.nameT n (by rw[hn];simp);have x2:=H.text (Ex.printF v).1 (by rw[hv];simp[bJ]);have x3:maxLen=9223372036854775807:=rfl;exact⟨by omega,o5,by omega⟩
 have e:aG s=(emp,emp):=by unfold aG;rw[if_neg k1,if_neg k2,if_neg k3,if_neg k4,if_neg k5,if_neg k6,if_neg k7]
 rw[e];simp only[go_sem,bD,aR,k1,k2,k3,k4,k5,k6,k7,ac]
def Ji:ap prog 40 :=
 mz1 func40 (mS) (ChkOk) ((fun s=>vO s)) (fun s h=>Rb s h)
theorem vP {id:Nat}{h:ai}{args:List AV}:(Ji).run id h args=iN (dV (mS) (ChkOk)) ((fun s=>vO s)) h args:=rfl
theorem Ni {id:Nat}{h:ai}{args:List AV}:(Ji).pan id h args=iK (dV (mS) (ChkOk)) ((fun s=>vO s)) h args:=rfl
def FB (r:ByteArray×Int):AV:=.tup [.l (.v (.string r.1)),.l (.v (.int .i64 r.2))]
def nF (s:StV):List ByteArray:=s.labels.map fun n=>n++aO
def du (s:StV)(i:Nat):List ByteArray:=nF s++(([(aG s).1,(aG s).2].take i).filter fun w=>!decide (w=emp))
def Yo (s:StV)(i:Nat):St:=⟨2,[(1,pv 0 0 0),(5,.s (.l (.sl 1 0 i))),(19,oT.enc s.labels),(20,iv s.labels.length),(21,iv i)],aL 0 [dt s,stK ((nF s).take i)]⟩
def Tq (s:StV)(i:Nat):St:=⟨2,[(5,.s (.l (.sl 1 0 (du s i).length))),(38,.s (.agg [.v (.string (aG s).1),.v (.string (aG s).2)])),(39,iv i)],aL 0 [dt s,stK (du s i)]⟩
theorem Hq (l:List ByteArray):(gA l).size≤(l.map fun x=>x.size+1).sum:=by
 have key:∀(r:List ByteArray) (x:ByteArray),(r.foldl (fun a y=>a++(⟨#[32]⟩:ByteArray)++y) x).size=x.size+(r.map fun x=>x.size+1).sum:=by
  intro r
  induction r with
  |nil=>intro x;simp
  |cons y r ih =>
   intro x;rw[List.foldl_cons,ih,map_cons,sum_cons];simp only[ByteArray.size_append];have:(⟨#[32]⟩:ByteArray).size=1:=rfl;omega
 cases l with
 |nil=>exact zero_le _
 |cons x r =>
  show(r.foldl _ x).size≤_;rw[key,map_cons,sum_cons];omega
theorem QF {K:Nat}:∀{l:List ByteArray},(∀y∈l,y.size≤K)→(l.map fun x=>x.size+1).sum≤l.length*(K+1)
 |[],_=>by simp
 |y::r,h=>by
  have h1:=h y (by simp);have h2:=QF (l:=r) fun z hz=>h z (by simp[hz]);rw[map_cons,sum_cons,length_cons,Nat.add_mul];omega
theorem Ae (p:ByteArray→Bool):∀l:List ByteArray,((l.filter p).map fun x=>x.size+1).sum≤(l.map fun x=>x.size+1).sum
 |[]=>by simp
 |y::r=>by
  have h:=Ae p r;rw[List.filter_cons];split
  ·simp only[map_cons,sum_cons];omega
  ·simp only[map_cons,sum_cons];omega
theorem ChkOk.wordsz {s:StV}(h:ChkOk s):(aG s).1.size≤1099511627776∧(aG s).2.size≤72567767433216:=by
 have hC:=h.counts;unfold aX at hC;have e0:emp.size=0:=rfl;unfold aG;by_cases k1:s.kind=1
 ·rw[if_pos k1];refine⟨h.ok.name,?_⟩;obtain⟨e,hO,-,h8⟩:=Ce (s:=(fm s.opers).1) h.ok.operT (by rw[←h.opers])
  have h2:=ml (l:=s.opers.map aS) (K:=2199023255800) (by
   intro y hy;obtain⟨o,ho,rfl⟩:=List.mem_map.1 hy;exact ta (h.ok.operT o ho))
  rw[List.length_map]at h2;have:=mul_le_mul_right (2199023255800+2) h8;rw[e];show(cZ _).size≤_;omega
 rw[if_neg k1]at hC ⊢;by_cases k2:s.kind=2
 ·rw[if_pos k2]at hC ⊢;obtain⟨n,hn⟩:=List.length_eq_one_iff.1 (of_decide_eq_true hC);have g1:s.names.getD 0 emp=n:=by rw[hn];rfl
  have:=h.ok.nameT n (by rw[hn];simp);rw[g1];split
  ·exact⟨this,by show(0:Nat)≤_;omega⟩
  ·exact⟨by show(8:Nat)≤_;omega,by show n.size≤_;omega⟩
 rw[if_neg k2]at hC ⊢;by_cases k3:s.kind=3
 ·rw[if_pos k3];have h1:=ml h.ok.nameT;have h2:=h.names;have:=mul_le_mul_right (1099511627776+2) h2;exact⟨by show(7:Nat)≤_;omega,by show(cZ s.names).size≤_;omega⟩
 rw[if_neg k3]at hC ⊢
 have hget:((bJ s.vals).getD 0 emp).size≤4000:=by
  cases hv:bJ s.vals with
  |nil=>exact zero_le _
  |cons t r=>exact h.text t (by rw[hv];simp)
 by_cases k4:s.kind=4
 ·rw[if_pos k4];exact⟨by show(6:Nat)≤_;omega,by show((bJ s.vals).getD 0 emp).size≤_;omega⟩
 rw[if_neg k4]at hC ⊢;by_cases k5:s.kind=5
 ·rw[if_pos k5];have h1:=ml h.text;rw[xG]at h1;have h2:=h.vals;have:=mul_le_mul_right (4000+2) h2;refine⟨?_,by show(cZ (bJ s.vals)).size≤_;omega⟩;split
  ·show(5:Nat)≤_;omega
  split
  ·show(5:Nat)≤_;omega
  ·show(5:Nat)≤_;omega
 rw[if_neg k5]at hC ⊢;by_cases k6:s.kind=6
 ·rw[if_pos k6];have h1:=Ly.quoteB_len s.bytes;have h2:=h.ok.byteT;refine⟨by show(6:Nat)≤_;omega,?_⟩;show(ke s.bytes).size≤_;have e:(ke s.bytes).size=(eg s.bytes).length:=by unfold ke aj;simp[ByteArray.size]
  rw[e];unfold eg;simp only[length_cons,List.length_append,List.length_nil];omega
 rw[if_neg k6];by_cases k7:s.kind=7
 ·rw[if_pos k7];refine⟨by show(4:Nat)≤_;omega,?_⟩;show(s.names.getD 0 emp++dR++(bJ s.vals).getD 0 emp).size≤_
  have h2:(s.names.getD 0 emp).size≤1099511627776:=by
   cases hn:s.names with
   |nil=>exact zero_le _
   |cons n r=>exact h.ok.nameT n (by rw[hn];simp)
  have h3:dR.size=2:=rfl;simp only[ByteArray.size_append];omega
 ·rw[if_neg k7];exact⟨by show(0:Nat)≤_;omega,by show(0:Nat)≤_;omega⟩
theorem Cb (l:List ByteArray):l.map mI=(l.map fun s=>[D.v (.string s)]).map bu:=by rw[List.map_map];rfl
theorem nR {a b c d:Option Blk}(h1:a=b)(h2:c=d):[a,c]=[b,d]:=by rw[h1,h2]
theorem MQ (s:StV)(H:Au s):Sw f18 0 ⟨0,aB 0 [mS.enc s],[]⟩ (oQ f18 (.ret (FB (kF s)))):=by
 refine aq [⟨_,YB⟩,⟨_,Ji⟩,⟨_,yN⟩] rfl ?_;have hSt:=AU.back s;simp only[bD,aR,dr,fU]at hSt;by_cases hc:eZ s=0
 case neg =>
  have e:kF s=(emp,eZ s):=by unfold kF;rw[if_pos hc]
  rw[e];simp only[go_sem,bD,aR,hSt,H,hc,FB,ac]
 have HC:=Vi H hc;have x3:maxLen=9223372036854775807:=rfl;have hlz:=H.labels;simp only[go_sem,bD,aR,hSt,H,hc];refine ba (ι:=Nat) (fun i=>i≤s.labels.length) (Yo s) (fun i=>s.labels.length-i) 0 (zero_le _) ?_ ?_
 ·exact(Wk.nil 5 9 1 rfl).trans (Wk.renL [0,208] (by simp) (le_add_left _ _) (by simp) rfl rfl)
 intro i hi;unfold Yo;refine aw [] ?_;by_cases hlt:i<s.labels.length
 ·have hltI:(i:Int)<s.labels.length:=by omega
  obtain⟨n,hn⟩:∃n,s.labels[i]? = some n:=⟨_,List.getElem?_eq_getElem hlt⟩;have hnz:=H.labelT n (List.mem_of_getElem? hn);have ei:=wI i;have hT:(nF s).take (i+1)=(nF s).take i++[n++aO]:=by rw[List.take_add_one];unfold nF;rw[List.getElem?_map,hn];rfl
  have hlen:((nF s).take i).length=i:=by simp[nF];omega
  obtain⟨T,hTT⟩:∃T,(nF s).take i=T:=⟨_,rfl⟩;rw[hTT]at hT hlen;have hK:List.take i (T.map mI)=T.map mI:=take_of_length_le (by simp[hlen]);have hK2:T.map mI++[[LV.v (.string (n++(⟨#[58]⟩:ByteArray)))]]=(T++[n++aO]).map mI:=oP _ _;have m1:i+1≤maxLen:=by have:=H.labels;omega
  have m2:(i+1)*16≤140737488355328:=by have:=H.labels;omega
  simp only[go_sem,hltI,hlt,hn,dt,hTT,hK,hK2,hlen,m1,m2,ei];exact⟨by omega,i+1,hlt,by omega,Wk.renL [0,130] (by simp) (le_add_left 2 _) (by simp) rfl (by rw[hT];exact nR rfl (congrArg some (dD _ _).symm))⟩
 obtain rfl:i=s.labels.length:=by omega
 have hI:¬(s.labels.length:Int)<s.labels.length:=by omega
 have hl8:=HC.labels;have hlab:(nF s).take s.labels.length=nF s:=take_of_length_le (by simp[nF]);have hp0:du s 0=nF s:=by unfold du;simp
 have hn0:(du s 0).length=s.labels.length:=by rw[hp0];simp[nF]
 rw[hlab];simp only[go_sem,hI,dt,vP,Ni,hSt,aR,HC,vO];refine ba (ι:=Nat) (fun i=>i≤2) (Tq s) (fun i=>2-i) 0 (zero_le _) ?_ ?_
 ·exact Wk.renL [0,1] (by simp) (le_add_left 2 _) (by simp) (by simp only[Tq,hn0];rfl) (by simp only[Tq,hp0];exact nR rfl (congrArg some (dD _ _).symm))
 intro i hi;unfold Tq;refine aw [⟨_,yN⟩] ?_
 have fin:∀(j:Nat) (w:ByteArray),j<2→[(aG s).1,(aG s).2][j]? = some w→du s (j+1)=if w=emp then du s j else du s j++[w]:=by
  intro j w hj hw;unfold du;rw[List.take_add_one,hw,List.filter_append,←List.append_assoc];by_cases h:w=emp
  ·rw[if_pos h];simp[h]
  ·rw[if_neg h];simp[h]
 have step:∀(j:Nat),j<2→(du s j).length+1≤maxLen∧((du s j).length+1)*16≤140737488355328:=by
  intro j hj
  have h1:(du s j).length≤10:=by
   unfold du;rw[List.length_append];have h2:(nF s).length≤8:=by simp[nF];exact hl8
   have h3:=List.length_filter_le (fun w=>!decide (w=emp)) ([(aG s).1,(aG s).2].take j);have h4:([(aG s).1,(aG s).2].take j).length≤2:=by rw[List.length_take];exact Nat.min_le_right _ _
   omega
  omega
 have hK:∀j,List.take (du s j).length ((du s j).map mI)=(du s j).map mI:=fun j=>take_of_length_le (by simp);have hi3:i=0∨i=1∨i=2:=by omega
 rcases hi3 with rfl | rfl | rfl
 ·obtain⟨s1,s2⟩:=step 0 (by decide);have hf:=fin 0 (aG s).1 (by decide) rfl;by_cases hw:(aG s).1=emp
  ·rw[if_pos hw]at hf;simp only[go_sem,ac,eq_true hw];exact⟨1,by decide,by decide,Wk.renL [0,1] (by simp) (le_add_left 2 _) (by simp) (by rw[hf];rfl) (by rw[hf];exact nR rfl (congrArg some (dD _ _).symm))⟩
  ·rw[if_neg hw]at hf;have hK2:(du s 0).map mI++[[LV.v (.string (aG s).1)]]=(du s 0++[(aG s).1]).map mI:=oP _ _;have hl:(du s 1).length=(du s 0).length+1:=by rw[hf];simp
   simp only[go_sem,ac,hw,hK,hK2,s1,s2];exact⟨1,by decide,by decide,Wk.renL [0,130] (by simp) (le_add_left 2 _) (by simp) (by simp only[hl];rfl) (by rw[hf];exact nR rfl (congrArg some (dD _ _).symm))⟩
 ·obtain⟨s1,s2⟩:=step 1 (by decide);have hf:=fin 1 (aG s).2 (by decide) rfl;by_cases hw:(aG s).2=emp
  ·rw[if_pos hw]at hf;simp only[go_sem,ac,eq_true hw];exact⟨2,by decide,by decide,Wk.renL [0,1] (by simp) (le_add_left 2 _) (by simp) (by rw[hf];rfl) (by rw[hf];exact nR rfl (congrArg some (dD _ _).symm))⟩
  ·rw[if_neg hw]at hf;have hK2:(du s 1).map mI++[[LV.v (.string (aG s).2)]]=(du s 1++[(aG s).2]).map mI:=oP _ _;have hl:(du s 2).length=(du s 1).length+1:=by rw[hf];simp
   simp only[go_sem,ac,hw,hK,hK2,s1,s2];exact⟨2,by decide,by decide,Wk.renL [0,130] (by simp) (le_add_left 2 _) (by simp) (by simp only[hl];rfl) (by rw[hf];exact nR rfl (congrArg some (dD _ _).symm))⟩
 ·have hl:r9 s=gA (du s 2):=rfl;have hj:oj (du s 2) (⟨#[32]⟩:ByteArray)=gA (du s 2):=Lu _
  have hlen:(du s 2).length≤10:=by
   unfold du;rw[List.length_append];have h2:(nF s).length≤8:=by simp[nF];exact hl8
   have h3:=List.length_filter_le (fun w=>!decide (w=emp)) ([(aG s).1,(aG s).2].take 2);have h4:([(aG s).1,(aG s).2].take 2).length=2:=rfl;omega
  have hsz:(gA (du s 2)).size≤140737488355328:=by
   have h1:=Hq (du s 2);have hws:=HC.wordsz;unfold du at h1;rw[List.map_append,List.sum_append]at h1
   have h2:=QF (l:=nF s) (K:=1099511627777) (by
    intro y hy;unfold nF at hy;obtain⟨n,hn,rfl⟩:=List.mem_map.1 hy;have:=H.labelT n hn;rw[ByteArray.size_append];have:aO.size=1:=rfl;omega)
   have h3:(nF s).length≤8:=by simp[nF];exact hl8
   have h4:=mul_le_mul_right (1099511627777+1) h3;have h5:=Ae (fun w=>!decide (w=emp)) ([(aG s).1,(aG s).2].take 2);have h6:(([(aG s).1,(aG s).2].take 2).map fun x=>x.size+1).sum=((aG s).1.size+1)+((aG s).2.size+1+0):=rfl;unfold du;omega
  have hL6:(du s 2).length≤1000000:=by omega
  have hD:∀l:List ByteArray,df dr.dec (l.map dr.enc)=some l:=dX dr;simp only[dr]at hD;by_cases h5:512<(gA (du s 2)).size
  ·have e:kF s=(emp,3):=by unfold kF;rw[if_neg (by rw[hc];simp),hl,if_pos h5]
   have h5I:(512:Int)<(gA (du s 2)).size:=by omega
   rw[e];simp only[go_sem,hK,Cb,hD,hj,hL6,hsz,eq_true h5I,FB,ac]
  ·have e:kF s=(gA (du s 2),0):=by unfold kF;rw[if_neg (by rw[hc];simp),hl,if_neg h5]
   have h5I:¬(512:Int)<(gA (du s 2)).size:=by omega
   rw[e];simp only[go_sem,hK,Cb,hD,hj,hL6,hsz,h5I,FB,ac]
abbrev J9:ap prog 18 :=
 mz1 func18 (mS) (Au) ((fun s=>.ret (FB (kF s)))) (asP fun s h=>MQ s h)
end Go.Proofs.YtnhbidpdadkcjaaGreatDoor
