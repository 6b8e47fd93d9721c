import Derived.Test.YtnhbidpdadkcjaaGreatDoorG23
import Derived.Test.YtnhbidpdadkcjaaGreatDoorG29
set_option linter.unusedVariables false
set_option linter.unusedSimpArgs false
set_option maxRecDepth 100000
set_option maxHeartbeats 8000000
open List (map_map mem_cons not_mem_nil getElem?_cons_zero)
open Option (getD_some)
open Nat (succ_ne_zero)
namespace Go.Proofs.YtnhbidpdadkcjaaGreatDoor
open Tryz
open Go.RowKit
namespace Ex
def jf:kG Term where
 dec:=fun | [.v (.int .i64 k),.v (.int .i64 n),.v (.string s)]=>some ⟨k,n,s⟩ | _=>none
 enc:=fun t=>[.v (.int .i64 t.kind),.v (.int .i64 t.n),.v (.string t.sym)]
 inv:=by
  intro c x h;split at h
  ·injection h with h;subst h;rfl
  ·cases h
 back:=by intro x;rfl
def dE (e:Int):Value:=.iface 236 (.agg #[.int .i64 e])
abbrev Fq:am prog 289 :=
 mz1 func289 (bq .i64) ((fun _=>True)) ((fun e=>.pan (dE e))) (asP fun e _=>by
 refine aq [] rfl ?_;simp only[go_sem,dE])
theorem zU (k:Int)(h:3≤k∧k≤14):Sw f268 0 ⟨0,ax 0 [(bq .i64).enc k],[]⟩ (oQ f268 (.ret (sv (p9 k)))):=by
 refine aq [] rfl ?_;have hk:k=3∨k=4∨k=5∨k=6∨k=7∨k=8∨k=9∨k=10∨k=11∨k=12∨k=13∨k=14:=by omega
 rcases hk with rfl | rfl | rfl | rfl | rfl | rfl | rfl | rfl | rfl | rfl | rfl | rfl
 all_goals simp only[go_sem]
 all_goals rfl
theorem DD (args:Array Value)(w:World):(callFunc 268 args).run prog w=.ok (.enter 268 args) w:=by go_simp
def Cu:am prog 268 :=
 mk1 _ _ _ func268 rfl DD (bq .i64) ((fun k=>3≤k∧k≤14)) ((fun k=>.ret (sv (p9 k)))) (by rw[ntmps268];decide) (fun k h=>zU k h)
theorem zS {id:Nat}{h:ag}{args:List AV}:(Cu).run id h args=fT (cE (bq .i64) ((fun k=>3≤k∧k≤14))) ((fun k=>.ret (sv (p9 k)))) h args:=rfl
theorem zR {id:Nat}{h:ag}{args:List AV}:(Cu).pan id h args=gh (cE (bq .i64) ((fun k=>3≤k∧k≤14))) ((fun k=>.ret (sv (p9 k)))) h args:=rfl
def bw (l:List Tok)(a:Nat)(o:Int)(n tb:Nat):Blk:=⟨true,239,4,[[.d (.sd 4 (l.map jX.enc)),.v (.int .i64 a),.v (.int .i64 o),.sl tb 0 n]]⟩
def bc (ts:List Term):Blk:=⟨true,242,3,(ts.map jf.enc).map bp⟩
def mp:List LV→Option Term
 |[.v (.int .i64 k),.v (.int .i64 n),.v (.string s)]=>some ⟨k,n,s⟩
 |_=>none
theorem aV (ts:List Term):bH mp ((ts.map jf.enc).map bp)=some ts:=by
 rw[map_map];exact gW (d:=mp) (e:=bp∘jf.enc) (fun _=>rfl) ts
theorem OY {rows:List (List LV)}{ts:List Term}(h:bH mp rows=some ts):rows=(ts.map jf.enc).map bp:=by
 rw[map_map];refine gX (d:=mp) (e:=bp∘jf.enc) (fun c x hc=>?_) h;unfold mp at hc;split at hc
 ·injection hc with hc;subst hc;rfl
 ·cases hc
def dT (h:ag):AV→Option (List Nat×List Tok×PS)
 |.s (.l (.p b 0 0))=>match ac h b with
  |some ⟨true,T,4,[[.d (.sd 4 els),.v (.int .i64 a),.v (.int .i64 o),.sl tb 0 n]]⟩=>match dc jX.dec els,ac h tb with
   |some l,some ⟨true,T2,3,rows⟩=>match bH mp rows with
    |some ts=>if T=239∧T2=242∧0≤a∧n=ts.length∧b≠tb then some ([b,tb],l,⟨a.toNat,o,ts⟩) else none
    |none=>none
   |_,_=>none
  |_=>none
 |_=>none
theorem Fm {h:ag}{A:AV}{bs:List Nat}{l:List Tok}{s:PS}(hd:dT h A=some (bs,l,s)) :
  ∃b tb,A=pv b 0 0∧bs=[b,tb]∧b≠tb∧ac h b=some (bw l s.at_ s.op s.ts.length tb)∧ac h tb=some (bc s.ts):=by
 unfold dT at hd;split at hd
 case h_2=>cases hd
 rename_i b;split at hd
 case h_2=>cases hd
 rename_i T els a o tb n hb;split at hd
 case h_2=>cases hd
 rename_i l' T2 rows hl ht;split at hd
 case h_2=>cases hd
 rename_i ts hts;split at hd
 case isFalse=>cases hd
 rename_i hc;obtain⟨rfl,rfl,ha,rfl,hne⟩:=hc;injection hd with hd;injection hd with e1 hd;injection hd with e2 e3;subst e1;subst e2;subst e3;refine⟨b,tb,rfl,rfl,hne,?_,?_⟩
 ·rw[hb,bw,←cY jX hl];simp only[Int.toNat_of_nonneg ha]
 ·rw[ht,bc,OY hts]
theorem xL {h h':ag}(hs:∀b k,ac h b=some k→ac h' b=some k){A:AV}{r:List Nat×List Tok×PS}(hd:dT h A=some r):dT h' A=some r:=by
 unfold dT at hd ⊢;split at hd
 case h_2=>cases hd
 split at hd
 case h_2=>cases hd
 rename_i hb;simp only[hs _ _ hb];split at hd
 case h_2=>cases hd
 rename_i hl ht;simp only[hl,hs _ _ ht];exact hd
def ir (l:List Tok):Except Int (AV×PS)→RO
 |.ok (r,s)=>.ret r [some (bw l s.at_ s.op s.ts.length 1)] [bc s.ts]
 |.error e=>.pan (dE e)
theorem aU {l:List Tok}{r:AV}{s:PS}:ir l (.ok (r,s))=.ret r [some (bw l s.at_ s.op s.ts.length 1)] [bc s.ts]:=rfl
theorem ar {l:List Tok}{e:Int}:ir l (.error e)=.pan (dE e):=rfl
structure Xs (X:Type) where
 dec:List AV→Option X
 enc:X→List AV
 len:Nat
 enc_len:∀x,(enc x).length=len
 ok:∀{zs:List AV} {x:X},dec zs=some x→∀{ρ ρ':Nat→Loc} {al al':Al} {vals:List Value},al.M.le al'.M→AsRep ρ al zs vals→AsRep ρ' al' (enc x) vals
def fB {X:Type}(T:Xs X)(q:X→List Tok→PS→Prop)(h:ag):List AV→Option (Prop×List Nat×(X×List Tok×PS))
 |A::zs=>match dT h A,T.dec zs with
  |some (bs,l,s),some x=>some (q x l s,bs,(x,l,s))
  |_,_=>none
 |[]=>none
def mkX {X:Type}(f:FuncId)(fn:Func)(c:Code)(hf:Tryz.prog.funcs[f]? = some fn)(hb:fn.body=some c)
  (hen:∀(args:Array Value) (w:World),(callFunc f args).run prog w=.ok (.enter f args) w) (T:Xs X) (q:X→List Tok→PS→Prop) (F:X→List Tok→PS→Except Int (AV×PS)) (hn:T.len+1≤fn.ntmps)
  (body:∀x l s,q x l s→SW prog ⟨none,1⟩ fn.ntmps c ⟨2,ax 0 (pv 0 0 0::T.enc x),aC 0 [bw l s.at_ s.op s.ts.length 1,bc s.ts]⟩ (um prog fn.results.toList 1 (ir l (F x l s)))):am prog f :=
 mkR 1 2 (by decide) f fn c hf hb hen (fB T q) (fun x=>pv 0 0 0::T.enc x.1) (fun x=>[bw x.2.1 x.2.2.at_ x.2.2.op x.2.2.ts.length 1,bc x.2.2.ts]) (fun x=>ir x.2.1 (F x.1 x.2.1 x.2.2))
  (by
   intro h h' args r hs hd;unfold fB at hd ⊢;split at hd
   ·split at hd
    ·rename_i h1 h2;rw[xL hs h1,h2];exact hd
    ·cases hd
   ·cases hd)
  (by
   intro h zs q' bs x hd hq;unfold fB at hd;split at hd
   case h_2=>cases hd
   rename_i A zs';split at hd
   case h_2=>cases hd
   rename_i bs' l s x' h1 h2;injection hd with hd;injection hd with e1 hd;injection hd with e2 e3;subst e2;subst e3;obtain⟨b,tb,rfl,rfl,hne,hb1,hb2⟩:=Fm h1;refine⟨by rw[List.length_cons,T.enc_len];exact hn,rfl,rfl,by simp[hne],fun d=>⟨?_,?_⟩⟩
   ·intro j b' k hj hk
    match j,hj,hk with
    |0,hj,hk =>
     simp at hj hk;subst hj;subst hk;exact⟨rfl,by rw[hb1];rfl⟩
    |1,hj,hk =>
     simp at hj hk;subst hj;subst hk;refine⟨rfl,?_⟩;rw[hb2];simp only[bc,Blk.ren,fS]
   ·intro ρ al vals hA
    match vals,hA with
    |v::vs,⟨a,r⟩=>exact⟨a,T.ok (al:=al) h2 (Mem.le_refl _) r⟩)
  (by
   intro h zs q' bs x hd hq;unfold fB at hd;split at hd
   case h_2=>cases hd
   split at hd
   case h_2=>cases hd
   injection hd with hd;injection hd with e1 hd;injection hd with e2 e3;subst e1;subst e3;exact body _ _ _ hq)
def xs0:Xs Unit where
 dec:=fun | []=>some () | _=>none
 enc:=fun _=>[]
 len:=0
 enc_len:=fun _=>rfl
 ok:=by
  intro zs x h ρ ρ' al al' vals _ hA;split at h
  ·match vals,hA with
   |[],_=>trivial
  ·cases h
def Ad:Xs Term where
 dec:=fun | [A]=>(nX jf).dec A | _=>none
 enc:=fun t=>[(nX jf).enc t]
 len:=1
 enc_len:=fun _=>rfl
 ok:=by
  intro zs x h ρ ρ' al al' vals hM hA;split at h
  ·match vals,hA with
   |[v],⟨a,_⟩=>exact⟨((nX jf).ok h a).flat hM (by rfl),trivial⟩
  ·cases h
theorem Ue (t:Term):jf.enc t=[.v (.int .i64 t.kind),.v (.int .i64 t.n),.v (.string t.sym)]:=rfl
theorem Tz {l:List Tok}{a:Nat}{o:Int}{n tb:Nat}:(bw l a o n tb).own=true:=rfl
theorem Uh {ts:List Term}:(bc ts).own=true:=rfl
theorem iN {l:List Tok}{s':PS}{r:AV}{st:St}{tb:Nat}(hr:r.plain=true)(h1:ac st.h 0=some (bw l s'.at_ s'.op s'.ts.length tb))(h2:ac st.h tb=some (bc s'.ts))(hn:tb≠0) :
  mA 1 st (ir l (.ok (r,s'))) (some r):=by
 refine⟨hr,[some (bw l s'.at_ s'.op s'.ts.length 1)],[bc s'.ts],rfl,rfl,by simp,by simp[bw],by simp[bc],Wk.ren [0,tb] (by intro j hj;have:j=0:=(by simpa using hj);subst this;rfl) (Nat.le_refl _) (by simpa using fun h=>hn h.symm) (fun p hp=>by cases hp) ?_⟩;intro p hp k hk;simp only[ee,aC,List.cons_append,List.nil_append,mem_cons,not_mem_nil,or_false]at hp;rcases hp with rfl | rfl
 ·simp only[Option.some.injEq]at hk;subst hk;simp only[List.getD_eq_getElem?_getD,getElem?_cons_zero,getD_some,h1];rfl
 ·simp only[Option.some.injEq]at hk;subst hk;simp only[List.getD_eq_getElem?_getD,List.getElem?_cons_succ,getElem?_cons_zero,getD_some,h2];simp only[bc,Blk.ren,fS]
theorem zB (l:List Tok)(s:PS)(h:s.at_≤l.length∧l.length≤maxLen):Sw f267 1 ⟨2,ax 0 [pv 0 0 0],aC 0 [bw l s.at_ s.op s.ts.length 1,bc s.ts]⟩ (oR f267 1 (ir l (.ok (sv (aL l s),s)))):=by
 refine aq [] rfl ?_;simp only[go_sem,bw,bc];rcases hl:l[s.at_]? with _ | t
 ·have hlt:¬(s.at_:Int)<l.length:=by have:=List.getElem?_eq_none_iff.1 hl;omega
  refine sD mixed [] [] ?_;simp only[go_sem,hlt];have e:aL l s=⟨#[]⟩:=by unfold aL;rw[hl];rfl
  rw[e];exact iN rfl rfl rfl (by decide)
 ·have hlt:(s.at_:Int)<l.length:=by have:=(List.getElem?_eq_some_iff.1 hl).1;omega
  refine sD mixed [] [] ?_;simp only[go_sem,hlt,hl,jW];refine⟨fun hk=>?_,fun hk=>?_⟩
  ·refine sD mixed [] [] ?_;simp only[go_sem,hlt,hl,jW];have e:aL l s=t.text:=by unfold aL;rw[hl];simp only[if_pos hk]
   rw[e];exact iN rfl rfl rfl (by decide)
  ·have e:aL l s=⟨#[]⟩:=by unfold aL;rw[hl];simp only[if_neg hk];rfl
   rw[e];exact iN rfl rfl rfl (by decide)
def BB:am prog 267 :=
 mkX _ _ _ func267 rfl (fun _ _=>by go_simp) xs0 ((fun _ l s=>s.at_≤l.length∧l.length≤maxLen)) ((fun _ l s=>.ok (sv (aL l s),s))) (by rw[ntmps267];decide) (fun _ l s h=>zB l s h)
theorem du {id:Nat}{h:ag}{args:List AV}:(BB).run id h args=jv 1 (fB xs0 ((fun _ l s=>s.at_≤l.length∧l.length≤maxLen))) (fun x=>ir x.2.1 (((fun _ l s=>.ok (sv (aL l s),s))) x.1 x.2.1 x.2.2)) id h args:=rfl
theorem dr {id:Nat}{h:ag}{args:List AV}:(BB).pan id h args=iT (fB xs0 ((fun _ l s=>s.at_≤l.length∧l.length≤maxLen))) (fun x=>ir x.2.1 (((fun _ l s=>.ok (sv (aL l s),s))) x.1 x.2.1 x.2.2)) h args:=rfl
theorem Mn {ts:List Term}{t:Term}:(ts.map jf.enc).map bp++[[.v (.int .i64 t.kind),.v (.int .i64 t.n),.v (.string t.sym)]]=((ts++[t]).map jf.enc).map bp:=by
 rw[List.map_append,List.map_append];rfl
theorem Q9 (t:Term)(l:List Tok)(s:PS)(h:s.ts.length≤256):Sw f269 1 ⟨2,ax 0 [pv 0 0 0,(nX jf).enc t],aC 0 [bw l s.at_ s.op s.ts.length 1,bc s.ts]⟩ (oR f269 1 (ir l ((jb t s).map fun s=>(im,s)))):=by
 refine aq [⟨_,Fq⟩] rfl ?_;have hb:(s.ts.length+1)*32≤140737488355328:=by omega
 have hm:s.ts.length+1≤maxLen:=by unfold maxLen;omega
 simp only[go_sem,bw,bc,Ue];refine sD mixed [] [7,10] ?_;simp only[go_sem,hb,hm,Mn];refine⟨fun hc=>?_,fun hc=>?_⟩
 ·rw[jb,pS];rfl
 ·rw[jb,nG];refine iN (s':={ s with ts:=s.ts++[t] }) (tb:=130) rfl ?_ rfl (by decide);rw[List.length_append];rfl
def LE:am prog 269 :=
 mkX _ _ _ func269 rfl (fun _ _=>by go_simp) Ad ((fun _ _ s=>s.ts.length≤256)) ((fun t _ s=>(jb t s).map fun s=>(im,s))) (by rw[ntmps269];decide) (fun t l s h=>Q9 t l s h)
theorem dW {id:Nat}{h:ag}{args:List AV}:(LE).run id h args=jv 1 (fB Ad ((fun _ _ s=>s.ts.length≤256))) (fun x=>ir x.2.1 (((fun t _ s=>(jb t s).map fun s=>(im,s))) x.1 x.2.1 x.2.2)) id h args:=rfl
theorem dV {id:Nat}{h:ag}{args:List AV}:(LE).pan id h args=iT (fB Ad ((fun _ _ s=>s.ts.length≤256))) (fun x=>ir x.2.1 (((fun t _ s=>(jb t s).map fun s=>(im,s))) x.1 x.2.1 x.2.2)) h args:=rfl
def iS (r:PR):Except Int (AV×PS):=r.map fun s=>(im,s)
theorem aZ {s:PS}:iS (.ok s)=.ok (im,s):=rfl
theorem ay {e:Int}:iS (.error e)=.error e:=rfl
def qP (N:Nat):Unit→List Tok→PS→Prop:=fun _ l s=>POk l N s∧l.length≤1000000
structure fF (N:Nat) where
 f:FuncId
 F:List Tok→PS→PR
 spec:am prog f
 run_eq:∀(id:Nat) (h:ag) (args:List AV),spec.run id h args=jv 1 (fB xs0 (qP N)) (fun x=>ir x.2.1 (iS (F x.2.1 x.2.2))) id h args
 pan_eq:∀(id:Nat) (h:ag) (args:List AV),spec.pan id h args=iT (fB xs0 (qP N)) (fun x=>ir x.2.1 (iS (F x.2.1 x.2.2))) h args
 goes:∀l,Af l N (F l)
 ne:f≠289∧f≠267∧f≠269∧f≠268
def oa:Xs FuncId where
 dec:=fun | [A]=>tFn.dec A | _=>none
 enc:=fun g=>[tFn.enc g]
 len:=1
 enc_len:=fun _=>rfl
 ok:=by
  intro zs x h ρ ρ' al al' vals hM hA;split at h
  ·match vals,hA with
   |[v],⟨a,_⟩=>exact⟨(tFn.ok h a).flat hM (by rfl),trivial⟩
  ·cases h
theorem Ac {s:PS}{l:List Tok}(h1:s.at_≤l.length)(h2:l.length≤1000000):IntKind.i64.wrap ((s.at_:Int)+1)=((s.at_+1:Nat):Int):=by rw[IntKind.wrap_i64];omega
theorem yi {N:Nat}(p:fF N)(l:List Tok)(s:PS)(h:POk l (N+1) s∧s.at_<l.length∧l.length≤1000000) :
  Sw f299 1 ⟨2,ax 0 [pv 0 0 0,tFn.enc p.f],aC 0 [bw l s.at_ s.op s.ts.length 1,bc s.ts]⟩ (oR f299 1 (ir l (iS (dg (p.F l) s)))):=by
 obtain⟨hok,hlt,hlen⟩:=h;obtain⟨n1,n2,n3,n4⟩:=p.ne;refine aq [⟨_,p.spec⟩,⟨_,Fq⟩] rfl ?_;have e1:=Ac hok.le hlen;have o0:=hok.op0;have o1:=hok.op1;have e2:IntKind.i64.wrap (s.op+1)=s.op+1:=by rw[IntKind.wrap_i64];omega
 by_cases hc:64<s.op+1
 ·simp only[go_sem,bw,bc,e1,e2,hc,n1];rw[dg,if_pos hc];rfl
 ·have hp:qP N () l ⟨s.at_+1,s.op+1,s.ts⟩:=⟨⟨by show s.at_+1≤_;omega,by have:=hok.rem;show _≤s.at_+1+N;omega,by show 0≤s.op+1;omega,by show s.op+1≤64;omega,hok.ts⟩,hlen⟩;rcases hr:p.F l ⟨s.at_+1,s.op+1,s.ts⟩ with e | s'
  ·simp only[go_sem,bw,bc,e1,e2,hc,n1,p.run_eq,p.pan_eq,fB,dT,xs0,aV,hr,hp,ay,aZ,aU,ar];rw[dg,if_neg hc,hr];rfl
  ·have hg:=p.goes l _ _ hp.1 hr;simp only at hg;have e3:IntKind.i64.wrap (s'.op-1)=s'.op-1:=by rw[IntKind.wrap_i64];omega
   simp only[go_sem,bw,bc,e1,e2,hc,n1,p.run_eq,p.pan_eq,fB,dT,xs0,aV,hr,hp,ay,aZ,aU,ar,e3];rw[dg,if_neg hc,hr];exact iN (s':={ s' with op:=s'.op-1 }) (tb:=370) rfl rfl rfl (by decide)
def zD {N:Nat}(p q:fF N):am prog 299 :=
 mkX _ _ _ func299 rfl (fun _ _=>by go_simp) oa (fun g l s=>(g=p.f∨g=q.f)∧POk l (N+1) s∧s.at_<l.length∧l.length≤1000000)
  (fun g l s=>iS (dg (if g=p.f then p.F l else q.F l) s)) (by rw[ntmps299];decide)
  (fun g l s h=>by
   by_cases hg:g=p.f
   ·subst hg;rw[if_pos rfl];exact yi p l s h.2
   ·rw[if_neg hg];obtain rfl:g=q.f:=h.1.resolve_left hg;exact yi q l s h.2)
theorem cr {N:Nat}{p q:fF N}{id:Nat}{h:ag}{args:List AV}:(zD p q).run id h args=jv 1 (fB oa (fun g l s=>(g=p.f∨g=q.f)∧POk l (N+1) s∧s.at_<l.length∧l.length≤1000000)) (fun x=>ir x.2.1 (iS (dg (if x.1=p.f then p.F x.2.1 else q.F x.2.1) x.2.2))) id h args:=rfl
theorem cq {N:Nat}{p q:fF N}{id:Nat}{h:ag}{args:List AV}:(zD p q).pan id h args=iT (fB oa (fun g l s=>(g=p.f∨g=q.f)∧POk l (N+1) s∧s.at_<l.length∧l.length≤1000000)) (fun x=>ir x.2.1 (iS (dg (if x.1=p.f then p.F x.2.1 else q.F x.2.1) x.2.2))) h args:=rfl
theorem bP {k n:Int}{z:ByteArray}:Ad.dec [.s (.agg [.v (.int .i64 k),.v (.int .i64 n),.v (.string z)])]=some ⟨k,n,z⟩:=rfl
theorem wkP {st:St}{l:List Tok}{q:PS}{X:cK}{tb:Nat}(h1:ac st.h 0=some (bw l q.at_ q.op q.ts.length tb))(h2:ac st.h tb=some (bc q.ts))(hn:tb≠0)(hx:2≤st.nx)(hX:X.map (fun p=>bI st.t p.1)=X.map fun p=>p.2.ren fun b=>[0,tb].getD b st.nx):Wk ⟨none,1⟩ st ⟨2,X,aC 0 [bw l q.at_ q.op q.ts.length 1,bc q.ts]⟩:=by
 refine Wk.ren [0,tb] (by intro j hj;have:j=0:=(by simpa using hj);subst this;rfl) (Nat.le_refl _) (by simpa using fun h=>hn h.symm) (fun p hp=>List.map_inj_left.1 hX p hp) ?_;intro p hp k hk;simp only[aC,mem_cons,not_mem_nil,or_false]at hp;rcases hp with rfl | rfl
 ·simp only[Option.some.injEq]at hk;subst hk;simp only[List.getD_eq_getElem?_getD,getElem?_cons_zero,getD_some,h1];rfl
 ·simp only[Option.some.injEq]at hk;subst hk;simp only[List.getD_eq_getElem?_getD,List.getElem?_cons_succ,getElem?_cons_zero,getD_some,h2];simp only[bc,Blk.ren,fS]
theorem tJ {s:ByteArray}:∀{a:List Int} {k f:Int},bS s (a++[k]) f=if s≠emp∧s=p9 k then k else bS s a f
 |[],k,f=>by rw[List.nil_append,bS,bS,bS]
 |x::a,k,f=>by rw[List.cons_append,bS,tJ,bS]
theorem EG {l:List Tok}{read:PS→PR}{kinds:List Int}{q:PS}:∀{m:Nat},l.length≤q.at_+m→gk l read kinds m q =
  if bS (aL l q) kinds 0=0 then .ok q else
  match read ⟨q.at_+1,q.op,q.ts⟩ with
  |.error e=>.error e
  |.ok s'=>match jb ⟨bS (aL l q) kinds 0,0,emp⟩ s' with
   |.error e=>.error e
   |.ok s''=>gk l read kinds (m-1) s''
 |0,h=>by
  have:bS (aL l q) kinds 0=0:=Classical.byContradiction fun hc=>by have:=rK (sB hc);omega
  rw[if_pos this,gk]
 |m+1,h=>by rw[gk];rfl
theorem Rv {N:Nat}(p:fF N)(kinds:List Int)(hk:∀k∈kinds,3≤k∧k≤14)(hk2:kinds.length≤10)(l:List Tok)(s:PS)(h:qP N () l s) :
  Sw f252 1 ⟨2,ax 0 [pv 0 0 0,tFn.enc p.f,(tSl 1 (gE .i64)).enc kinds],aC 0 [bw l s.at_ s.op s.ts.length 1,bc s.ts]⟩ (oR f252 1 (ir l (iS (dY l (p.F l) kinds s)))):=by
 obtain⟨hok,hlen⟩:=h;obtain⟨n1,n2,n3,n4⟩:=p.ne;refine aq [⟨_,p.spec⟩] rfl ?_;have hq:qP N () l s:=⟨hok,hlen⟩;rcases hr:p.F l s with e | s'
 ·simp only[go_sem,bw,bc,p.run_eq,p.pan_eq,fB,dT,xs0,aV,hr,hq,ay,aZ,aU,ar];rw[dY,hr];rfl
 ·have hg:=p.goes l _ _ hok hr;simp only[go_sem,bw,bc,p.run_eq,p.pan_eq,fB,dT,xs0,aV,hr,hq,ay,aZ,aU,ar]
  refine bF (ι:=Nat×PS) (fun i=>l.length≤i.2.at_+i.1∧POk l N i.2∧gk l (p.F l) kinds i.1 i.2=dY l (p.F l) kinds s)
   (fun i=>⟨2,ax 0 [pv 0 0 0,tFn.enc p.f,(tSl 1 (gE .i64)).enc kinds],aC 0 [bw l i.2.at_ i.2.op i.2.ts.length 1,bc i.2.ts]⟩) (fun i=>i.1) (l.length,s')
   ⟨by show l.length≤s'.at_+l.length;omega,⟨by show s'.at_≤_;omega,by have:=hok.rem;show _≤s'.at_+N;omega,by show 0≤s'.op;rw[hg.2.2.1];exact hok.op0,by show s'.op≤64;rw[hg.2.2.1];exact hok.op1,hg.2.2.2⟩,by rw[dY,hr]⟩
   (wkP (tb:=34) rfl rfl (by decide) (by simp) rfl) ?_
  ·rintro⟨m,q⟩ ⟨hm,hqk,hR⟩;simp only at hm hqk hR;refine aw [⟨_,p.spec⟩,⟨_,BB⟩,⟨_,Cu⟩,⟨_,LE⟩] ?_;simp only[go_sem,bw,bc]
   refine bF (ι:=Nat) (fun j=>j≤kinds.length)
    (fun j=>⟨2,[(0,pv 0 0 0),(1,tFn.enc p.f),(2,(tSl 1 (gE .i64)).enc kinds),(6,iv (bS (aL l q) (kinds.take j) 0)),(13,(tSl 1 (gE .i64)).enc kinds),(14,iv kinds.length),(15,iv j)],aC 0 [bw l q.at_ q.op q.ts.length 1,bc q.ts]⟩) (fun j=>kinds.length-j) 0
    (Nat.zero_le _) (wkP (tb:=1) rfl rfl (by decide) (by simp) rfl) ?_
   ·intro j hj;refine aw [⟨_,p.spec⟩,⟨_,BB⟩,⟨_,Cu⟩,⟨_,LE⟩] ?_;rcases Nat.lt_or_ge j kinds.length with hlt | hge
    ·obtain⟨k,hkj⟩:∃k,kinds[j]? = some k:=⟨_,List.getElem?_eq_getElem hlt⟩;have hltI:(j:Int)<kinds.length:=by omega
     have ej:=wI j;have hk3:=hk k (List.mem_of_getElem? hkj);have hnx:s.at_≤l.length:=hok.le;have hnm:l.length≤maxLen:=by unfold maxLen;omega
     have hqn:=hqk.le;simp only[go_sem,bw,bc,hltI,hkj,du,dr,zS,zR,n1,n2,n3,n4,fB,dT,xs0,aV,hqn,hnm,aU,ar,ej,hk3]
     have ef:bS (aL l q) (kinds.take (j+1)) 0=if aL l q≠emp∧aL l q=p9 k then k else bS (aL l q) (kinds.take j) 0:=by
      rw[List.take_add_one,hkj];exact tJ
     refine⟨fun h1=>?_,fun h1=>⟨fun h2=>?_,fun h2=>?_⟩⟩
     ·rw[if_neg (fun h=>h.1 h1)]at ef;exact⟨j+1,hlt,by omega,wkP (q:=q) (tb:=82) rfl rfl (by decide) (by simp) (by rw[ef];rfl)⟩
     ·rw[if_pos ⟨h1,h2⟩]at ef;exact⟨j+1,hlt,by omega,wkP (q:=q) (tb:=82) rfl rfl (by decide) (by simp) (by rw[ef];rfl)⟩
     ·rw[if_neg (fun h=>h2 h.2)]at ef;exact⟨j+1,hlt,by omega,wkP (q:=q) (tb:=82) rfl rfl (by decide) (by simp) (by rw[ef];rfl)⟩
    ·obtain rfl:j=kinds.length:=by omega
     rw[←hR,EG hm];simp only[List.take_length];by_cases hf:bS (aL l q) kinds 0=0
     ·simp only[go_sem,bw,bc,Int.lt_irrefl,hf];exact iN (s':=q) (tb:=1) rfl rfl rfl (by decide)
     ·have hlt:=rK (sB hf);have e1:IntKind.i64.wrap ((q.at_:Int)+1)=((q.at_+1:Nat):Int):=by rw[IntKind.wrap_i64];omega
      have hq1:qP N () l ⟨q.at_+1,q.op,q.ts⟩:=⟨⟨by show q.at_+1≤_;omega,by have:=hqk.rem;show _≤q.at_+1+N;omega,hqk.op0,hqk.op1,hqk.ts⟩,hlen⟩;rcases hr2:p.F l ⟨q.at_+1,q.op,q.ts⟩ with e | q'
      ·simp only[go_sem,bw,bc,Int.lt_irrefl,hf,e1,n1,n2,n3,n4,p.run_eq,p.pan_eq,fB,dT,xs0,aV,hq1,hr2,ay,aZ,aU,ar]
      ·have hg2:=p.goes l _ _ hq1.1 hr2;simp only at hg2;have h256:=hg2.2.2.2;rcases hp:jb ⟨bS (aL l q) kinds 0,0,⟨#[]⟩⟩ q' with e | q''
       ·have hp':jb ⟨bS (aL l q) kinds 0,0,emp⟩ q'=.error e:=hp;simp only[go_sem,bw,bc,Int.lt_irrefl,hf,e1,n1,n2,n3,n4,p.run_eq,p.pan_eq,fB,dT,xs0,aV,hq1,hr2,ay,aZ,aU,ar,dW,dV,bP,h256,hp,hp',Except.map]
       ·have hp':jb ⟨bS (aL l q) kinds 0,0,emp⟩ q'=.ok q'':=hp;simp only[go_sem,bw,bc,Int.lt_irrefl,hf,e1,n1,n2,n3,n4,p.run_eq,p.pan_eq,fB,dT,xs0,aV,hq1,hr2,ay,aZ,aU,ar,dW,dV,bP,h256,hp,hp',Except.map];obtain⟨e3,e4⟩:=pJ hp;subst e3;refine⟨(m-1,{ q' with ts:=q'.ts++[⟨bS (aL l q) kinds 0,0,⟨#[]⟩⟩] }),⟨?_,⟨?_,?_,?_,?_,?_⟩,rfl⟩,?_,wkP (tb:=274) rfl rfl (by decide) (by simp) rfl⟩
        ·show l.length≤q'.at_+(m-1);omega
        ·show q'.at_≤l.length;exact hg2.2.1
        ·have:=hqk.rem;show l.length≤q'.at_+N;omega
        ·show 0≤q'.op;rw[hg2.2.2.1];exact hqk.op0
        ·show q'.op≤64;rw[hg2.2.2.1];exact hqk.op1
        ·show(q'.ts++[_]).length≤256;rw[List.length_append];exact e4
        ·show m-1<m;omega
def iL (ks:List Int):Blk:=⟨true,3,1,(ks.map (gE .i64).enc).map bp⟩
def eB:List LV→Option Int
 |[.v (.int .i64 k)]=>some k
 |_=>none
theorem Kk {rows:List (List LV)}{ks:List Int}(h:bH eB rows=some ks):rows=(ks.map (gE .i64).enc).map bp:=by
 rw[map_map];refine gX (d:=eB) (e:=bp∘(gE .i64).enc) (fun c x hc=>?_) h;unfold eB at hc;split at hc
 ·injection hc with hc;subst hc;rfl
 ·cases hc
theorem zi (args:Array Value)(w:World):(callFunc 252 args).run prog w=.ok (.enter 252 args) w:=by go_simp
def bW (N:Nat)(g:FuncId)(h:ag):List AV→Option (Prop×List Nat×(List Int×List Tok×PS))
 |[A,F,.s (.l (.sl c 0 n))]=>match dT h A,tFn.dec F,ac h c with
  |some (bs,l,s),some g',some ⟨true,T,1,rows⟩=>match bH eB rows with
   |some ks=>if g'=g∧T=3∧n=ks.length∧c∉bs then some (((∀k∈ks,3≤k∧k≤14)∧ks.length≤10)∧qP N () l s,bs++[c],(ks,l,s)) else none
   |none=>none
  |_,_,_=>none
 |_=>none
theorem xM {N:Nat}{g:FuncId}{h:ag}{zs:List AV}{q:Prop}{bs:List Nat}{ks:List Int}{l:List Tok}{s:PS}(hd:bW N g h zs=some (q,bs,(ks,l,s))) :
  ∃b tb c F,zs=[pv b 0 0,F,.s (.l (.sl c 0 ks.length))]∧tFn.dec F=some g∧bs=[b,tb,c]∧b≠tb∧c≠b∧c≠tb∧ac h b=some (bw l s.at_ s.op s.ts.length tb)∧ac h tb=some (bc s.ts)∧ac h c=some (iL ks) ∧
   q=(((∀k∈ks,3≤k∧k≤14)∧ks.length≤10)∧qP N () l s):=by
 unfold bW at hd;split at hd
 case h_2=>cases hd
 rename_i A F c n;split at hd
 case h_2=>cases hd
 rename_i bs' l' s' g' T rows h1 h2 h3;split at hd
 case h_2=>cases hd
 rename_i ks' h4;split at hd
 case isFalse=>cases hd
 rename_i hc;obtain⟨rfl,rfl,rfl,hm⟩:=hc;injection hd with hd;injection hd with e1 hd;injection hd with e2 hd;injection hd with e3 hd;injection hd with e4 e5;subst e3;subst e4;subst e5;obtain⟨b,tb,rfl,rfl,hne,hb1,hb2⟩:=Fm h1;simp only[mem_cons,not_mem_nil,or_false,not_or]at hm;exact⟨b,tb,c,F,rfl,h2,e2.symm,hne,hm.1,hm.2,hb1,hb2,by rw[h3,iL,Kk h4],e1.symm⟩
theorem AJ {N:Nat}{g:FuncId}{h h':ag}(hs:∀b k,ac h b=some k→ac h' b=some k){zs:List AV}{r:Prop×List Nat×(List Int×List Tok×PS)}(hd:bW N g h zs=some r):bW N g h' zs=some r:=by
 unfold bW at hd ⊢;split at hd
 case h_2=>cases hd
 split at hd
 case h_2=>cases hd
 rename_i h1 h2 h3;simp only[xL hs h1,h2,hs _ _ h3];exact hd
theorem OE {N:Nat}(p:fF N)(ks:List Int)(hk:(∀k∈ks,3≤k∧k≤14)∧ks.length≤10)(l:List Tok)(s:PS)(h:qP N () l s) :
  Sw f252 1 ⟨3,ax 0 [pv 0 0 0,tFn.enc p.f,.s (.l (.sl 2 0 ks.length))],aC 0 [bw l s.at_ s.op s.ts.length 1,bc s.ts,iL ks]⟩ (oR f252 1 (ir l (iS (dY l (p.F l) ks s)))):=by
 have e:AV.toD (aC 0 [bw l s.at_ s.op s.ts.length 1,bc s.ts,iL ks]) 4 (.s (.l (.sl 2 0 ks.length)))=some (0+ks.length≤(iL ks).els.length∧True,[2],(tSl 1 (gE .i64)).enc ks):=by
  have e2:cZ (cZ (LV.toD (aC 0 [bw l s.at_ s.op s.ts.length 1,bc s.ts,iL ks]) 3)) (((iL ks).els.drop 0).take ks.length)=some (True,[],ks.map (gE .i64).enc):=by
   rw[List.drop_zero,List.take_of_length_le (by simp[iL])];exact gl
  simp only[AV.toD,SV.toD,LV.toD];rw[show ac (aC 0 [bw l s.at_ s.op s.ts.length 1,bc s.ts,iL ks]) 2=some (iL ks) from rfl];simp only[e2,show(iL ks).own=true from rfl,if_true];rfl
 refine SW.wk (SW.wk (Rv p ks hk.1 hk.2 l s h) (wkP (tb:=1) ?_ ?_ (by decide) ?_ ?_)) (Wk.frz 2 e ⟨by simp[iL],trivial⟩)
 ·rfl
 ·rfl
 ·show 2≤3;decide
 ·rfl
def qD {N:Nat}(p:fF N):am prog 252 :=
 mkR 1 3 (by decide) _ _ _ func252 rfl zi (bW N p.f) (fun x=>[pv 0 0 0,tFn.enc p.f,.s (.l (.sl 2 0 x.1.length))]) (fun x=>[bw x.2.1 x.2.2.at_ x.2.2.op x.2.2.ts.length 1,bc x.2.2.ts,iL x.1])
  (fun x=>ir x.2.1 (iS (dY x.2.1 (p.F x.2.1) x.1 x.2.2))) (fun hs hd=>AJ hs hd)
  (by
   intro h zs q bs x hd hq;obtain⟨ks,l,s⟩:=x;obtain⟨b,tb,c,F,rfl,hF,rfl,n1,n2,n3,h1,h2,h3,rfl⟩:=xM hd;refine⟨by rw[ntmps252];show 3≤47;decide,rfl,rfl,by simp[n1,Ne.symm n2,Ne.symm n3],fun d=>⟨?_,?_⟩⟩
   ·intro j b' k hj hk
    match j,hj,hk with
    |0,hj,hk =>
     simp at hj hk;subst hj;subst hk;exact⟨rfl,by rw[h1];rfl⟩
    |1,hj,hk =>
     simp at hj hk;subst hj;subst hk;refine⟨rfl,?_⟩;rw[h2];simp only[bc,Blk.ren,fS]
    |2,hj,hk =>
     simp at hj hk;subst hj;subst hk;refine⟨rfl,?_⟩;rw[h3];simp only[iL,Blk.ren,fS]
   ·intro ρ al vals hA
    match vals,hA with
    |[v,v2,v3],⟨a,a2,a3,_⟩=>exact⟨a,(show v2=_ from tFn.ok hF a2),a3,trivial⟩)
  (by
   intro h zs q bs x hd hq;obtain⟨ks,l,s⟩:=x;obtain⟨b,tb,c,F,rfl,hF,rfl,n1,n2,n3,h1,h2,h3,rfl⟩:=xM hd;exact OE p ks hq.1 l s hq.2)
theorem gM {N:Nat}{p:fF N}{id:Nat}{h:ag}{args:List AV}:(qD p).run id h args=jv 1 (bW N p.f) (fun x=>ir x.2.1 (iS (dY x.2.1 (p.F x.2.1) x.1 x.2.2))) id h args:=rfl
theorem gL {N:Nat}{p:fF N}{id:Nat}{h:ag}{args:List AV}:(qD p).pan id h args=iT (bW N p.f) (fun x=>ir x.2.1 (iS (dY x.2.1 (p.F x.2.1) x.1 x.2.2))) h args:=rfl
theorem Em {N:Nat}(p:fF N)(hp:p.f=298)(l:List Tok)(s:PS)(h:qP N () l s) :
  Sw f297 1 ⟨2,ax 0 [pv 0 0 0],aC 0 [bw l s.at_ s.op s.ts.length 1,bc s.ts]⟩ (oR f297 1 (ir l (iS (dY l (p.F l) [5,6,7] s)))):=by
 refine aq [⟨_,qD p⟩] rfl ?_;have hq:qP N () l s:=h;rcases hr:dY l (p.F l) [5,6,7] s with e | s'
 ·simp only[go_sem,bw,bc,gM,gL,bW,dT,aV,eB,bH,hp,hq,hr,ay,aZ,aU,ar]
  try (intro k hk;omega)
 ·simp only[go_sem,bw,bc,gM,gL,bW,dT,aV,eB,bH,hp,hq,hr,ay,aZ,aU,ar]
  first
   |exact iN (s':=s') (tb:=34) rfl rfl rfl (by decide)
   |exact⟨by intro k hk;omega,iN (s':=s') (tb:=34) rfl rfl rfl (by decide)⟩
def LC {N:Nat}(p:fF N)(hp:p.f=298):fF N where
 f:=297
 F:=fun l=>dY l (p.F l) [5,6,7]
 spec:=mkX _ _ _ func297 rfl (fun _ _=>by go_simp) xs0 (qP N) (fun _ l s=>iS (dY l (p.F l) [5,6,7] s)) (by rw[ntmps297];decide) (fun _ l s h=>Em p hp l s h)
 run_eq:=fun _ _ _=>rfl
 pan_eq:=fun _ _ _=>rfl
 goes:=fun l=>dQ (p.goes l)
 ne:=by decide
theorem RN {N:Nat}(p:fF N)(hp:p.f=297)(l:List Tok)(s:PS)(h:qP N () l s) :
  Sw f296 1 ⟨2,ax 0 [pv 0 0 0],aC 0 [bw l s.at_ s.op s.ts.length 1,bc s.ts]⟩ (oR f296 1 (ir l (iS (dY l (p.F l) [8,9] s)))):=by
 refine aq [⟨_,qD p⟩] rfl ?_;have hq:qP N () l s:=h;rcases hr:dY l (p.F l) [8,9] s with e | s'
 ·simp only[go_sem,bw,bc,gM,gL,bW,dT,aV,eB,bH,hp,hq,hr,ay,aZ,aU,ar]
  try (intro k hk;omega)
 ·simp only[go_sem,bw,bc,gM,gL,bW,dT,aV,eB,bH,hp,hq,hr,ay,aZ,aU,ar]
  first
   |exact iN (s':=s') (tb:=34) rfl rfl rfl (by decide)
   |exact⟨by intro k hk;omega,iN (s':=s') (tb:=34) rfl rfl rfl (by decide)⟩
def UR {N:Nat}(p:fF N)(hp:p.f=297):fF N where
 f:=296
 F:=fun l=>dY l (p.F l) [8,9]
 spec:=mkX _ _ _ func296 rfl (fun _ _=>by go_simp) xs0 (qP N) (fun _ l s=>iS (dY l (p.F l) [8,9] s)) (by rw[ntmps296];decide) (fun _ l s h=>RN p hp l s h)
 run_eq:=fun _ _ _=>rfl
 pan_eq:=fun _ _ _=>rfl
 goes:=fun l=>dQ (p.goes l)
 ne:=by decide
theorem L1 {N:Nat}(p:fF N)(hp:p.f=296)(l:List Tok)(s:PS)(h:qP N () l s) :
  Sw f290 1 ⟨2,ax 0 [pv 0 0 0],aC 0 [bw l s.at_ s.op s.ts.length 1,bc s.ts]⟩ (oR f290 1 (ir l (iS (dY l (p.F l) [10,11] s)))):=by
 refine aq [⟨_,qD p⟩] rfl ?_;have hq:qP N () l s:=h;rcases hr:dY l (p.F l) [10,11] s with e | s'
 ·simp only[go_sem,bw,bc,gM,gL,bW,dT,aV,eB,bH,hp,hq,hr,ay,aZ,aU,ar]
  try (intro k hk;omega)
 ·simp only[go_sem,bw,bc,gM,gL,bW,dT,aV,eB,bH,hp,hq,hr,ay,aZ,aU,ar]
  first
   |exact iN (s':=s') (tb:=34) rfl rfl rfl (by decide)
   |exact⟨by intro k hk;omega,iN (s':=s') (tb:=34) rfl rfl rfl (by decide)⟩
def RF {N:Nat}(p:fF N)(hp:p.f=296):fF N where
 f:=290
 F:=fun l=>dY l (p.F l) [10,11]
 spec:=mkX _ _ _ func290 rfl (fun _ _=>by go_simp) xs0 (qP N) (fun _ l s=>iS (dY l (p.F l) [10,11] s)) (by rw[ntmps290];decide) (fun _ l s h=>L1 p hp l s h)
 run_eq:=fun _ _ _=>rfl
 pan_eq:=fun _ _ _=>rfl
 goes:=fun l=>dQ (p.goes l)
 ne:=by decide
theorem Nx {N:Nat}(p:fF N)(hp:p.f=290)(l:List Tok)(s:PS)(h:qP N () l s) :
  Sw f270 1 ⟨2,ax 0 [pv 0 0 0],aC 0 [bw l s.at_ s.op s.ts.length 1,bc s.ts]⟩ (oR f270 1 (ir l (iS (dY l (p.F l) [12] s)))):=by
 refine aq [⟨_,qD p⟩] rfl ?_;have hq:qP N () l s:=h;rcases hr:dY l (p.F l) [12] s with e | s'
 ·simp only[go_sem,bw,bc,gM,gL,bW,dT,aV,eB,bH,hp,hq,hr,ay,aZ,aU,ar]
  try (intro k hk;omega)
 ·simp only[go_sem,bw,bc,gM,gL,bW,dT,aV,eB,bH,hp,hq,hr,ay,aZ,aU,ar]
  first
   |exact iN (s':=s') (tb:=34) rfl rfl rfl (by decide)
   |exact⟨by intro k hk;omega,iN (s':=s') (tb:=34) rfl rfl rfl (by decide)⟩
def SK {N:Nat}(p:fF N)(hp:p.f=290):fF N where
 f:=270
 F:=fun l=>dY l (p.F l) [12]
 spec:=mkX _ _ _ func270 rfl (fun _ _=>by go_simp) xs0 (qP N) (fun _ l s=>iS (dY l (p.F l) [12] s)) (by rw[ntmps270];decide) (fun _ l s h=>Nx p hp l s h)
 run_eq:=fun _ _ _=>rfl
 pan_eq:=fun _ _ _=>rfl
 goes:=fun l=>dQ (p.goes l)
 ne:=by decide
theorem QK {N:Nat}(p:fF N)(hp:p.f=270)(l:List Tok)(s:PS)(h:qP N () l s) :
  Sw f253 1 ⟨2,ax 0 [pv 0 0 0],aC 0 [bw l s.at_ s.op s.ts.length 1,bc s.ts]⟩ (oR f253 1 (ir l (iS (dY l (p.F l) [13] s)))):=by
 refine aq [⟨_,qD p⟩] rfl ?_;have hq:qP N () l s:=h;rcases hr:dY l (p.F l) [13] s with e | s'
 ·simp only[go_sem,bw,bc,gM,gL,bW,dT,aV,eB,bH,hp,hq,hr,ay,aZ,aU,ar]
  try (intro k hk;omega)
 ·simp only[go_sem,bw,bc,gM,gL,bW,dT,aV,eB,bH,hp,hq,hr,ay,aZ,aU,ar]
  first
   |exact iN (s':=s') (tb:=34) rfl rfl rfl (by decide)
   |exact⟨by intro k hk;omega,iN (s':=s') (tb:=34) rfl rfl rfl (by decide)⟩
def UH {N:Nat}(p:fF N)(hp:p.f=270):fF N where
 f:=253
 F:=fun l=>dY l (p.F l) [13]
 spec:=mkX _ _ _ func253 rfl (fun _ _=>by go_simp) xs0 (qP N) (fun _ l s=>iS (dY l (p.F l) [13] s)) (by rw[ntmps253];decide) (fun _ l s h=>QK p hp l s h)
 run_eq:=fun _ _ _=>rfl
 pan_eq:=fun _ _ _=>rfl
 goes:=fun l=>dQ (p.goes l)
 ne:=by decide
theorem GM {N:Nat}(p:fF N)(hp:p.f=253)(l:List Tok)(s:PS)(h:qP N () l s) :
  Sw f236 1 ⟨2,ax 0 [pv 0 0 0],aC 0 [bw l s.at_ s.op s.ts.length 1,bc s.ts]⟩ (oR f236 1 (ir l (iS (dY l (p.F l) [14] s)))):=by
 refine aq [⟨_,qD p⟩] rfl ?_;have hq:qP N () l s:=h;rcases hr:dY l (p.F l) [14] s with e | s'
 ·simp only[go_sem,bw,bc,gM,gL,bW,dT,aV,eB,bH,hp,hq,hr,ay,aZ,aU,ar]
  try (intro k hk;omega)
 ·simp only[go_sem,bw,bc,gM,gL,bW,dT,aV,eB,bH,hp,hq,hr,ay,aZ,aU,ar]
  first
   |exact iN (s':=s') (tb:=34) rfl rfl rfl (by decide)
   |exact⟨by intro k hk;omega,iN (s':=s') (tb:=34) rfl rfl rfl (by decide)⟩
def NK {N:Nat}(p:fF N)(hp:p.f=253):fF N where
 f:=236
 F:=fun l=>dY l (p.F l) [14]
 spec:=mkX _ _ _ func236 rfl (fun _ _=>by go_simp) xs0 (qP N) (fun _ l s=>iS (dY l (p.F l) [14] s)) (by rw[ntmps236];decide) (fun _ l s h=>GM p hp l s h)
 run_eq:=fun _ _ _=>rfl
 pan_eq:=fun _ _ _=>rfl
 goes:=fun l=>dQ (p.goes l)
 ne:=by decide
def R8 (h:ag):Nat:=match ac h 0 with
 |some ⟨_,_,_,[[_,_,_,.sl tb _ _]]⟩=>tb
 |_=>0
theorem Bi {l:List Tok}{s':PS}{r:AV}{st:St}(hr:r.plain=true)(h1:ac st.h 0=some (bw l s'.at_ s'.op s'.ts.length (R8 st.h)))(h2:ac st.h (R8 st.h)=some (bc s'.ts))(hn:R8 st.h≠0):mA 1 st (ir l (.ok (r,s'))) (some r):=iN hr h1 h2 hn
def bi (rp rq:PS→PR)(l:List Tok)(t:Tok)(s:PS):PR :=
 if t.kind=2 then jb ⟨1,wrap64 t.n,emp⟩ { s with at_:=s.at_+1 }
 else if t.kind=1 then jb ⟨2,0,t.text⟩ { s with at_:=s.at_+1 }
 else if t.kind=4∧t.text=⟨#[40]⟩ then
  match dg rp s with
  |.error e=>.error e
  |.ok s'=>if aL l s'=⟨#[41]⟩ then .ok { s' with at_:=s'.at_+1 } else .error 90
 else if t.kind=4∧(t.text=⟨#[45]⟩∨t.text=⟨#[126]⟩) then
  match dg rq s with
  |.error e=>.error e
  |.ok s'=>jb ⟨if t.text=⟨#[126]⟩ then 4 else 3,0,emp⟩ s'
 else .error 90
theorem xp {l:List Tok}{N:Nat}{s:PS}{t:Tok}(h:l[s.at_]? = some t):br l (N+1) s=bi (kn l (br l N)) (br l N) l t s:=by
 rw[br,h];rfl
theorem rO {N:Nat}(l:List Tok)(s:PS)(h:qP N () l s)(hl:l[s.at_]? = none) :
  Sw f298 1 ⟨2,ax 0 [pv 0 0 0],aC 0 [bw l s.at_ s.op s.ts.length 1,bc s.ts]⟩ (oR f298 1 (ir l (iS (.error 90)))):=by
 refine aq [⟨_,Fq⟩] rfl ?_;have hge:¬(s.at_:Int)<l.length:=by have:=List.getElem?_eq_none_iff.1 hl;omega
 have hge2:(l.length:Int)≤s.at_:=by omega
 simp only[go_sem,bw,bc];refine sD mixed [] [] ?_;simp only[go_sem,hge,hge2,ay,ar]
set_option maxRecDepth 4000 in
theorem zE {N:Nat}(p q:fF N)(hp:p.f=236)(hq:q.f=298)(l:List Tok)(s:PS)(h:qP (N+1) () l s)(t:Tok)(hl:l[s.at_]? = some t) :
  Sw f298 1 ⟨2,ax 0 [pv 0 0 0],aC 0 [bw l s.at_ s.op s.ts.length 1,bc s.ts]⟩ (oR f298 1 (ir l (iS (bi (p.F l) (q.F l) l t s)))):=by
 refine aq [⟨_,zD p q⟩,⟨_,BB⟩,⟨_,LE⟩,⟨_,Fq⟩] rfl ?_;obtain⟨hok,hlen⟩:=h;have hltN:=(List.getElem?_eq_some_iff.1 hl).1;have hlt:(s.at_:Int)<l.length:=by omega
 have hge:¬(l.length:Int)≤s.at_:=by omega
 have e1:=Ac hok.le hlen;simp only[go_sem,bw,bc];refine sD mixed [] [] ?_;simp only[go_sem,hlt,hge];refine sD mixed [] [11] ?_;have h256:=hok.ts;by_cases c2:t.kind=2
 ·have eG:bi (p.F l) (q.F l) l t s=jb ⟨1,IntKind.i64.wrap t.n,⟨#[]⟩⟩ { s with at_:=s.at_+1 }:=by rw[bi,if_pos c2,IntKind.wrap_i64,Go.RowKit.wrap64];rfl
  rw[eG];rcases hp2:jb ⟨1,IntKind.i64.wrap t.n,⟨#[]⟩⟩ { s with at_:=s.at_+1 } with e | s'
  ·simp only[go_sem,bw,bc,hlt,hge,e1,hl,jW,cr,cq,du,dr,dW,dV,fB,dT,xs0,oa,bP,aV,ay,aZ,aU,ar,Except.map,hp,hq,h256,c2,hp2]
  ·simp only[go_sem,bw,bc,hlt,hge,e1,hl,jW,cr,cq,du,dr,dW,dV,fB,dT,xs0,oa,bP,aV,ay,aZ,aU,ar,Except.map,hp,hq,h256,c2,hp2];exact Bi (s':=s') rfl rfl rfl (succ_ne_zero _)
 have c2b:(t.kind==2)=false:=by simp[c2]
 by_cases c1:t.kind=1
 ·have eG:bi (p.F l) (q.F l) l t s=jb ⟨2,0,t.text⟩ { s with at_:=s.at_+1 }:=by rw[bi,if_neg c2,if_pos c1]
  rw[eG];rcases hp2:jb ⟨2,0,t.text⟩ { s with at_:=s.at_+1 } with e | s'
  ·simp only[go_sem,bw,bc,hlt,hge,e1,hl,jW,cr,cq,du,dr,dW,dV,fB,dT,xs0,oa,bP,aV,ay,aZ,aU,ar,Except.map,hp,hq,h256,c1,hp2]
  ·simp only[go_sem,bw,bc,hlt,hge,e1,hl,jW,cr,cq,du,dr,dW,dV,fB,dT,xs0,oa,bP,aV,ay,aZ,aU,ar,Except.map,hp,hq,h256,c1,hp2];exact Bi (s':=s') rfl rfl rfl (succ_ne_zero _)
 have hopq:((236:Nat)=298)=False:=by simp
 by_cases c4:t.kind=4
 ·by_cases ct:t.text=⟨#[40]⟩
  ·rcases ho:dg (p.F l) s with e | s'
   ·have eG:bi (p.F l) (q.F l) l t s=.error e:=by rw[bi,if_neg c2,if_neg c1,if_pos ⟨c4,ct⟩,ho]
    rw[eG];simp only[go_sem,bw,bc,hlt,hge,e1,hl,jW,cr,cq,du,dr,dW,dV,fB,dT,xs0,oa,bP,aV,ay,aZ,aU,ar,Except.map,hp,hq,h256,c4,ct,ho,hok,hltN,hlen]
   ·have hg:=iR (p.goes l) hok hltN ho;have hsl:=hg.2.1;have hlm:l.length≤maxLen:=by unfold maxLen;omega
    by_cases hn:aL l s'=⟨#[41]⟩
    ·have eG:bi (p.F l) (q.F l) l t s=.ok { s' with at_:=s'.at_+1 }:=by rw[bi,if_neg c2,if_neg c1,if_pos ⟨c4,ct⟩,ho];simp only[hn,if_true]
     rw[eG];have e5:=Ac hsl hlen;simp only[go_sem,bw,bc,hlt,hge,e1,hl,jW,cr,cq,du,dr,dW,dV,fB,dT,xs0,oa,bP,aV,ay,aZ,aU,ar,Except.map,hp,hq,h256,c4,ct,ho,hok,hltN,hlen,hsl,hlm,hn,e5];exact Bi (s':={ s' with at_:=s'.at_+1 }) rfl rfl rfl (succ_ne_zero _)
    ·have eG:bi (p.F l) (q.F l) l t s=.error 90:=by rw[bi,if_neg c2,if_neg c1,if_pos ⟨c4,ct⟩,ho];simp only[hn,if_false]
     rw[eG];simp only[go_sem,bw,bc,hlt,hge,e1,hl,jW,cr,cq,du,dr,dW,dV,fB,dT,xs0,oa,bP,aV,ay,aZ,aU,ar,Except.map,hp,hq,h256,c4,ct,ho,hok,hltN,hlen,hsl,hlm,hn]
  ·by_cases cm:t.text=⟨#[45]⟩
   ·have ne1:((⟨#[45]⟩:ByteArray)=⟨#[40]⟩)=False:=by simp
    have ne2:((⟨#[45]⟩:ByteArray)=⟨#[45]⟩)=True:=by simp
    have ne3:((⟨#[45]⟩:ByteArray)=⟨#[126]⟩)=False:=by simp
    rcases ho:dg (q.F l) s with e | s'
    ·have eG:bi (p.F l) (q.F l) l t s=.error e:=by rw[bi,if_neg c2,if_neg c1,if_neg (fun h=>ct h.2),if_pos ⟨c4,.inl cm⟩,ho]
     rw[eG];simp only[go_sem,bw,bc,hlt,hge,e1,hl,jW,cr,cq,du,dr,dW,dV,fB,dT,xs0,oa,bP,aV,ay,aZ,aU,ar,Except.map,hp,hq,h256,c4,cm,ct,ne1,ne2,ne3,ho,hok,hltN,hlen]
    ·have hg:=iR (q.goes l) hok hltN ho;have hs256:=hg.2.2.2;rcases hp2:jb ⟨3,0,⟨#[]⟩⟩ s' with e | s''
     ·have eG:bi (p.F l) (q.F l) l t s=.error e:=by
       rw[bi,if_neg c2,if_neg c1,if_neg (fun h=>ct h.2),if_pos ⟨c4,.inl cm⟩,ho,cm];simp only[ne3,if_true,if_false];exact hp2
      rw[eG];simp only[go_sem,bw,bc,hlt,hge,e1,hl,jW,cr,cq,du,dr,dW,dV,fB,dT,xs0,oa,bP,aV,ay,aZ,aU,ar,Except.map,hp,hq,h256,c4,cm,ct,ne1,ne2,ne3,ho,hok,hltN,hlen,hs256,hp2]
     ·have eG:bi (p.F l) (q.F l) l t s=.ok s'':=by
       rw[bi,if_neg c2,if_neg c1,if_neg (fun h=>ct h.2),if_pos ⟨c4,.inl cm⟩,ho,cm];simp only[ne3,if_true,if_false];exact hp2
      rw[eG];simp only[go_sem,bw,bc,hlt,hge,e1,hl,jW,cr,cq,du,dr,dW,dV,fB,dT,xs0,oa,bP,aV,ay,aZ,aU,ar,Except.map,hp,hq,h256,c4,cm,ct,ne1,ne2,ne3,ho,hok,hltN,hlen,hs256,hp2];exact Bi (s':=s'') rfl rfl rfl (succ_ne_zero _)
   ·by_cases cn:t.text=⟨#[126]⟩
    ·have ne1:((⟨#[126]⟩:ByteArray)=⟨#[40]⟩)=False:=by simp
     have ne2:((⟨#[126]⟩:ByteArray)=⟨#[45]⟩)=False:=by simp
     have ne3:((⟨#[126]⟩:ByteArray)=⟨#[126]⟩)=True:=by simp
     rcases ho:dg (q.F l) s with e | s'
     ·have eG:bi (p.F l) (q.F l) l t s=.error e:=by rw[bi,if_neg c2,if_neg c1,if_neg (fun h=>ct h.2),if_pos ⟨c4,.inr cn⟩,ho]
      rw[eG];simp only[go_sem,bw,bc,hlt,hge,e1,hl,jW,cr,cq,du,dr,dW,dV,fB,dT,xs0,oa,bP,aV,ay,aZ,aU,ar,Except.map,hp,hq,h256,c4,cn,ct,ne1,ne2,ne3,ho,hok,hltN,hlen]
     ·have hg:=iR (q.goes l) hok hltN ho;have hs256:=hg.2.2.2;rcases hp2:jb ⟨4,0,⟨#[]⟩⟩ s' with e | s''
      ·have eG:bi (p.F l) (q.F l) l t s=.error e:=by
        rw[bi,if_neg c2,if_neg c1,if_neg (fun h=>ct h.2),if_pos ⟨c4,.inr cn⟩,ho,cn];simp only[ne3,if_true,if_false];exact hp2
       rw[eG];simp only[go_sem,bw,bc,hlt,hge,e1,hl,jW,cr,cq,du,dr,dW,dV,fB,dT,xs0,oa,bP,aV,ay,aZ,aU,ar,Except.map,hp,hq,h256,c4,cn,ct,ne1,ne2,ne3,ho,hok,hltN,hlen,hs256,hp2]
      ·have eG:bi (p.F l) (q.F l) l t s=.ok s'':=by
        rw[bi,if_neg c2,if_neg c1,if_neg (fun h=>ct h.2),if_pos ⟨c4,.inr cn⟩,ho,cn];simp only[ne3,if_true,if_false];exact hp2
       rw[eG];simp only[go_sem,bw,bc,hlt,hge,e1,hl,jW,cr,cq,du,dr,dW,dV,fB,dT,xs0,oa,bP,aV,ay,aZ,aU,ar,Except.map,hp,hq,h256,c4,cn,ct,ne1,ne2,ne3,ho,hok,hltN,hlen,hs256,hp2];exact Bi (s':=s'') rfl rfl rfl (succ_ne_zero _)
    ·have eG:bi (p.F l) (q.F l) l t s=.error 90:=by rw[bi,if_neg c2,if_neg c1,if_neg (fun h=>ct h.2),if_neg (fun h=>h.2.elim cm cn)]
     rw[eG];simp only[go_sem,bw,bc,hlt,hge,e1,hl,jW,cr,cq,du,dr,dW,dV,fB,dT,xs0,oa,bP,aV,ay,aZ,aU,ar,Except.map,hp,hq,h256,c4,ct,cm,cn]
 ·have eG:bi (p.F l) (q.F l) l t s=.error 90:=by rw[bi,if_neg c2,if_neg c1,if_neg (fun h=>c4 h.1),if_neg (fun h=>c4 h.1)]
  rw[eG];have c4b:(t.kind==4)=false:=by simp[c4]
  have c1b:(t.kind==1)=false:=by simp[c1]
  simp only[go_sem,bw,bc,hlt,hge,e1,hl,jW,cr,cq,du,dr,dW,dV,fB,dT,xs0,oa,bP,aV,ay,aZ,aU,ar,Except.map,hp,hq,h256,c1,c2,c4]
theorem vr (args:Array Value)(w:World):(callFunc 298 args).run prog w=.ok (.enter 298 args) w:=by go_simp
def zu {N:Nat}(q:fF N)(hq:q.f=298):fF N :=
 NK (UH (SK (RF (UR (LC q hq) rfl) rfl) rfl) rfl) rfl
theorem ya {N:Nat}{q:fF N}{hq:q.f=298}:(zu q hq).F=fun l=>kn l (q.F l):=rfl
theorem p8 {l:List Tok}{N:Nat}{s:PS}(h:l[s.at_]? = none):br l N s=.error 90:=by
 cases N with
 |zero=>rw[br]
 |succ N=>rw[br,h]
def Lp:fF 0 where
 f:=298
 F:=fun l=>br l 0
 spec:=mkX _ _ _ func298 rfl vr xs0 (qP 0) (fun _ l s=>iS (br l 0 s)) (by rw[ntmps298];decide)
  (fun _ l s h=>by
   have hl:l[s.at_]? = none:=List.getElem?_eq_none_iff.2 (by have:=h.1.rem;omega);rw[p8 hl];exact rO l s h hl)
 run_eq:=fun _ _ _=>rfl
 pan_eq:=fun _ _ _=>rfl
 goes:=fun l=>gB 0
 ne:=by decide
def Lq {N:Nat}(q:fF N)(hq:q.f=298)(hF:q.F=fun l=>br l N):fF (N+1) where
 f:=298
 F:=fun l=>br l (N+1)
 spec:=mkX _ _ _ func298 rfl vr xs0 (qP (N+1)) (fun _ l s=>iS (br l (N+1) s)) (by rw[ntmps298];decide)
  (fun _ l s h=>by
   rcases hl:l[s.at_]? with _ | t
   ·rw[p8 hl];exact rO l s h hl
   ·rw[xp hl];have:=zE (zu q hq) q rfl hq l s h t hl;rw[ya,hF]at this;exact this)
 run_eq:=fun _ _ _=>rfl
 pan_eq:=fun _ _ _=>rfl
 goes:=fun l=>gB (N+1)
 ne:=by decide
def mC:(N:Nat)→{ q:fF N // q.f=298∧q.F=fun l=>br l N }
 |0=>⟨Lp,rfl,rfl⟩
 |N+1=>⟨Lq (mC N).1 (mC N).2.1 (mC N).2.2,rfl,rfl⟩
def oX (N:Nat):fF N:=zu (mC N).1 (mC N).2.1
theorem BR (N:Nat):(oX N).f=236:=rfl
theorem BQ (N:Nat):(oX N).F=fun l=>kn l (br l N):=by
 rw[oX,ya,(mC N).2.2]
def outParse (l:List Tok):PO :=
 match parseF l with
 |.ok s=>.ret (.tup [.l (.d (.sd 3 (s.ts.map jf.enc))),.l (.v (.int .i64 s.at_)),.l (.v (.int .i64 0))])
 |.error e=>.ret (.tup [.l (.v (.slice none 0 0)),.l (.v (.int .i64 0)),.l (.v (.int .i64 e))])
theorem vt (args:Array Value)(w:World):(callFunc 196 args).run prog w=.ok (.enter 196 args) w:=by go_simp
def c3K (a:LV)(b c:Int):List Blk:=[⟨true,208,1,[[a]]⟩,⟨true,3,1,[[.v (.int .i64 b)]]⟩,⟨true,27,1,[[.v (.int .i64 c)]]⟩]
structure Ji (s:St)(a:LV)(b c:Int):Prop where
 h0:ac s.h 0=some ⟨true,208,1,[[a]]⟩
 h1:ac s.h 1=some ⟨true,3,1,[[.v (.int .i64 b)]]⟩
 h2:ac s.h 2=some ⟨true,27,1,[[.v (.int .i64 c)]]⟩
def PL (s:St):Prop:=bI s.t 2=pv 0 0 0∧bI s.t 3=pv 1 0 0∧bI s.t 4=pv 2 0 0
set_option maxRecDepth 4000 in
theorem Ea (l:List Tok)(hl:l.length≤1000000):Jj prog 196 f196 ⟨0,ax 0 [(tSl 4 jX).enc l],[]⟩ (outParse l):=by
 intro B w ρ al vals R hpl hds H hret _
 refine oj (K:=3) (js:=[0,1,2]) (cells:=[(2,0),(3,1),(4,2)]) (s1:=⟨3,[(0,(tSl 4 jX).enc l),(2,pv 0 0 0),(3,pv 1 0 0),(4,pv 2 0 0)],aC 0 (c3K (.v (.slice none 0 0)) 0 0)⟩)
  (post:=fun s=>PL s∧∃s',parseF l=.ok s'∧∃tb,Ji s (.sl tb 0 s'.ts.length) s'.at_ 0∧3≤tb∧ac s.h tb=some (bc s'.ts))
  (pp:=fun x s=>PL s∧∃e,parseF l=.error e∧x=dE e∧Ji s (.v (.slice none 0 0)) 0 0)
  (post2:=fun s=>xv s.h (outParse l) (kf prog f196.results.toList ⟨s.nx,[(2,pv 0 0 0),(3,pv 1 0 0),(4,pv 2 0 0)],s.h⟩))
  func196 rfl func235 rfl rfl rfl rfl rfl (by decide) (by decide) (by decide) (by decide) hpl hds H ?_
  (rD rfl rfl rfl rfl rfl rfl (by decide) (fun _ _=>by go_simp) rfl) ?_ ?_ ?_ ?_ ?_ ?_ ?_
 ·refine aw [] ?_;rw[ntmps196];simp only[go_sem];exact Wk.renL [0,16,32] (by simp) (by simp) (by decide) rfl rfl
 ·intro j hj
  match j,hj with
  |0,_=>exact⟨_,rfl⟩
  |1,_=>exact⟨_,rfl⟩
  |2,_=>exact⟨_,rfl⟩
 ·refine zZ (jh (ctx:=[]) 4000 ?_);rw[ntmps196];simp only[go_sem]
  refine SW.wk (s':=⟨68,[(5,pv 35 0 0),(2,pv 0 0 0),(3,pv 1 0 0),(4,pv 2 0 0)],(35,some (bw l 0 0 0 67))::(67,some (bc []))::aC 0 (c3K (.v (.slice none 0 0)) 0 0)⟩) ?_
   ((Wk.nilC 35 3 242 3 rfl rfl rfl).trans (Wk.sub (Nat.le_refl _) rfl rfl))
  ·refine aw [⟨_,(oX l.length).spec⟩] ?_;have hq:qP l.length () l ⟨0,0,[]⟩:=⟨⟨Nat.zero_le _,by simp,by decide,by decide,by simp⟩,hl⟩;rcases hr:parseF l with e | s'
   ·have hr2:kn l (br l l.length) ⟨0,0,[]⟩=.error e:=hr;simp only[go_sem,bw,bc,c3K,BR,BQ,(oX l.length).run_eq,(oX l.length).pan_eq,fB,dT,xs0,aV,bH,hr2,hq,ay,aZ,aU,ar];exact⟨⟨rfl,rfl,rfl⟩,e,rfl,rfl,⟨rfl,rfl,rfl⟩⟩
   ·have hr2:kn l (br l l.length) ⟨0,0,[]⟩=.ok s':=hr;simp only[go_sem,bw,bc,c3K,BR,BQ,(oX l.length).run_eq,(oX l.length).pan_eq,fB,dT,xs0,aV,bH,hr2,hq,ay,aZ,aU,ar];refine bu (ctx:=[]) mixed ⟨[],[(8,[0]),(9,[1]),(10,[2])],[(4,[0]),(5,[0]),(6,[0]),(7,[0])]⟩ (by kernel_rfl) ?_;simp only[go_sem,bw,bc,c3K];exact⟨⟨rfl,rfl,rfl⟩,s',rfl,84,⟨rfl,rfl,rfl⟩,by decide,rfl⟩
 ·rintro s ⟨⟨e1,e2,e3⟩,_⟩ p hp;simp only[mem_cons,not_mem_nil,or_false]at hp;rcases hp with rfl | rfl | rfl
  ·exact e1
  ·exact e2
  ·exact e3
 ·rintro x s ⟨⟨e1,e2,e3⟩,_⟩ p hp;simp only[mem_cons,not_mem_nil,or_false]at hp;rcases hp with rfl | rfl | rfl
  ·exact e1
  ·exact e2
  ·exact e3
 ·rintro s ⟨-,s',hr,tb,hc,h3,ht⟩;refine aw [] ?_;rw[ntmps235,results196];have hb:=@ny prog 20 .nilIface (.tmp 6) vH
  have hm:cZ (cZ (LV.toD s.h 3)) ((bc s'.ts).els.take s'.ts.length)=some (True,[],s'.ts.map jf.enc):=by
   rw[List.take_of_length_le (by simp[bc])];exact gl
  have ho:(bc s'.ts).own=true:=rfl;have hz:(bc s'.ts).sz=3:=rfl;have hlen:s'.ts.length≤(bc s'.ts).els.length:=by simp[bc]
  simp only[go_sem,pvs,↓hb,hc.h0,hc.h1,hc.h2,outParse,hr,ht,ho,hz,hm,hlen]
 ·rintro x s ⟨-,e,hr,rfl,hc⟩
  have hwk:Wk ⟨none,3⟩ ⟨s.nx,(6,.s (.l (.v (dE e))))::ax 0 (pvs [0,1,2]),s.h⟩ ⟨3,(6,.s (.l (.v (dE e))))::ax 0 (pvs [0,1,2]),aC 0 (c3K (.v (.slice none 0 0)) 0 0)⟩:=by
   refine Wk.renL [0,1,2] (by decide) (Nat.le_refl 3) (by decide) rfl ?_;simp only[c3K,aC,List.map_cons,List.map_nil,List.getD_eq_getElem?_getD,getElem?_cons_zero,List.getElem?_cons_succ,getD_some,hc.h0,hc.h1,hc.h2];rfl
  refine SW.wk ?_ hwk;refine aw [] ?_;rw[ntmps235,results196];have hb:∀u v,_:=fun u v=>@kZ prog 20 u v .nilIface (.tmp 6) vH;have hs:CD (.agg #[.int .i64 e])=some (.agg [.v (.int .i64 e)]):=rfl;simp only[go_sem,pvs,↓hb,hs,dE,pw,c3K];refine bu (ctx:=[]) mixed ⟨[],[(2,[0]),(3,[1]),(4,[2])],[(0,[0,1]),(1,[0,1])]⟩ (by kernel_rfl) ?_;simp only[go_sem,outParse,hr]
 ·intro s ρ al a w1 h2 H2;exact hret _ ρ al a w1 h2 H2
theorem Ml {M:Mem}{w:World}(hM:∀b o y,M b o=some y→w.cell? ⟨b,o,none⟩=some y){ts:List Term}{v:Value}(h:ARep ρ0 (al0 M) ((tSl 3 jf).enc ts) v):∃A cap,v=.slice A ts.length cap∧Terms w w.heap.size A ts:=by
 have e:ts.map jf.enc=(ts.map Term.cells).map fun e=>e.map .v:=by
  rw[map_map];exact List.map_congr_left fun t _=>rfl
 have hfl:(ts.map Term.cells).flatten=ts.flatMap Term.cells:=by rw[List.flatMap_def]
 have hl:∀ts:List Term,(ts.flatMap Term.cells).length=ts.length*3:=by
  intro ts
  induction ts with
  |nil=>rfl
  |cons t r ih=>rw[List.flatMap_cons,List.length_append,ih,List.length_cons];show 3+_=_;omega
 have h':DRep M (.sd 3 ((ts.map Term.cells).map fun e=>e.map .v)) v:=by rw[←e];exact h
 obtain⟨A,cap,rfl,hs⟩:=TO hM (by rw[hfl,hl,List.length_map]) (fun hne=>by
  intro h0;rw[hfl]at h0;have:=hl ts;rw[h0]at this;have:ts=[]:=List.eq_nil_of_length_eq_zero (by simp at this;omega);rw[this]at hne;exact hne rfl) h'
 rw[hfl,List.length_map]at hs;exact⟨A,cap,by rw[List.length_map],hs⟩
def parseS:am prog 196:=QA _ _ vt (tSl 4 jX) (fun l=>l.length≤1000000) outParse (by rw[ntmps196];decide) fun l hl=>Ea l hl
theorem parse_run {id:Nat}{h:ag}{args:List AV}:parseS.run id h args=fT (cE (tSl 4 jX) (fun l=>l.length≤1000000)) outParse h args:=rfl
theorem parse_pan {h:ag}{id:Nat}{args:List AV}:parseS.pan id h args=gh (cE (tSl 4 jX) (fun l=>l.length≤1000000)) outParse h args:=rfl
def outEval (ts:List Term):AV:=.tup [.agg [.v (.int .i64 (evalAll ts).1.add),.v (.string (evalAll ts).1.plus),.v (.string (evalAll ts).1.minus)],.l (.v (.int .i64 (evalAll ts).2))]
abbrev evalS:am prog 197:=xj _ (asP fun _ _=>by go_simp) (tSl 3 jf) (fun ts=>ts.length≤1099511627776∧∀t∈ts,t.sym.size≤140737488355328) outEval (asP fun _=>rfl) <| asP fun ts hs M w v hM hv=>by
 obtain⟨A,cap,rfl,hT⟩:=Ml hM hv;refine(Ka A cap ts w hT hs.1 hs.2).mono fun e w' h=>?_;obtain⟨r,x,h1,h2,h3⟩:=h;refine⟨⟨_,h2,[.agg #[.int .i64 r.add,.string r.plus,.string r.minus],.int .i64 x],rfl,⟨[.int .i64 r.add,.string r.plus,.string r.minus],rfl,?_⟩,?_,trivial⟩,h3⟩
 ·rw[h1];exact⟨rfl,rfl,rfl,rfl,rfl,rfl,trivial⟩
 ·rw[h1];rfl
theorem eval_pan {h:ag}{id:Nat}{args:List AV}:evalS.pan id h args=gh (cE (tSl 3 jf) (fun ts=>ts.length≤1099511627776∧∀t∈ts,t.sym.size≤140737488355328)) (fun ts=>.ret (outEval ts)) h args:=rfl
end Ex
end Go.Proofs.YtnhbidpdadkcjaaGreatDoor
