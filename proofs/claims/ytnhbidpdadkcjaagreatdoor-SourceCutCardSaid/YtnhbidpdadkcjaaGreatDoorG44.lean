import Derived.Test.YtnhbidpdadkcjaaGreatDoorG39
import Derived.Test.YtnhbidpdadkcjaaGreatDoorG42
open Go.RowKit
set_option linter.unusedVariables false
set_option linter.unusedSimpArgs false
set_option maxRecDepth 100000
set_option maxHeartbeats 8000000
open List (mem_cons getD_eq_getElem?_getD getElem?_cons_zero getElem?_cons_succ)
open Option (getD_some)
open Int (toNat_zero toNat_one)
namespace Go.Proofs.YtnhbidpdadkcjaaGreatDoor
open Tryz
section
open Ex (Xs xs0)
def dE (e:Int):Value:=.iface 85 (.agg #[.int .i64 e])
def uq (s:ByteArray):List LV:=[.v (.string s)]
def sf (v:Val):List LV:=[.v (.int .i64 v.add),.v (.string v.plus),.v (.string v.minus)]
def xf (z:Int):List LV:=[.v (.int .u8 z)]
def stK (l:List ByteArray):Blk:=⟨true,9,1,l.map uq⟩
def vlK (l:List Val):Blk:=⟨true,75,3,l.map sf⟩
def byK (l:List Int):Blk:=⟨true,5,1,l.map xf⟩
def psL (p:PsV)(lb nb vb bb:Nat):List LV :=
 [.d (.sd 4 (p.l.map jX.enc)),.sl lb 0 p.s.labels.length,.v (.int .i64 p.s.kind),.v (.string p.s.name),.d (.sd 15 (p.s.opers.map opR.enc)),.sl nb 0 p.s.names.length,.v (.int .i64 p.s.size),.sl vb 0 p.s.vals.length,.sl bb 0 p.s.bytes.length]
def psK (p:PsV)(lb nb vb bb:Nat):Blk:=⟨true,91,9,[psL p lb nb vb bb]⟩
def psB (p:PsV):List Blk:=[psK p 1 2 3 4,stK p.s.labels,stK p.s.names,vlK p.s.vals,byK p.s.bytes]
def pC:List LV→Option ByteArray
 |[.v (.string s)]=>some s
 |_=>none
theorem tF (c:List LV)(x:ByteArray)(h:pC c=some x):c=uq x:=by
 unfold pC at h;split at h
 ·injection h with h;subst h;rfl
 ·cases h
def re:List LV→Option Val
 |[.v (.int .i64 a),.v (.string p),.v (.string m)]=>some ⟨a,p,m⟩
 |_=>none
theorem AL (c:List LV)(x:Val)(h:re c=some x):c=sf x:=by
 unfold re at h;split at h
 ·injection h with h;subst h;rfl
 ·cases h
def qZ:List LV→Option Int
 |[.v (.int .u8 z)]=>some z
 |_=>none
theorem AF (c:List LV)(x:Int)(h:qZ c=some x):c=xf x:=by
 unfold qZ at h;split at h
 ·injection h with h;subst h;rfl
 ·cases h
theorem Dq (l:List ByteArray):bH pC (l.map uq)=some l:=gW (d:=pC) (e:=uq) (fun _=>rfl) l
theorem Dr (l:List Val):bH re (l.map sf)=some l:=gW (d:=re) (e:=sf) (fun _=>rfl) l
theorem Dp (l:List Int):bH qZ (l.map xf)=some l:=gW (d:=qZ) (e:=xf) (fun _=>rfl) l
def lY {α:Type}(d:List LV→Option α)(T:TypeId)(sz:Nat)(h:ag)(b:Nat):Option (List α):=match ac h b with
 |some ⟨true,T',sz',rows⟩=>if T'=T∧sz'=sz then bH d rows else none
 |_=>none
theorem pM {α:Type}{d:List LV→Option α}{e:α→List LV}(hi:∀c x,d c=some x→c=e x){T:TypeId}{sz:Nat}{h:ag}{b:Nat}{l:List α}(hr:lY d T sz h b=some l):ac h b=some ⟨true,T,sz,l.map e⟩:=by
 unfold lY at hr;split at hr
 ·rename_i T' sz' rows hb;split at hr
  ·rename_i hc;obtain⟨rfl,rfl⟩:=hc;rw[hb,gX hi hr]
  ·cases hr
 ·cases hr
theorem lH {α:Type}{d:List LV→Option α}{T:TypeId}{sz:Nat}{h h':ag}(hs:∀b k,ac h b=some k→ac h' b=some k){b:Nat}{l:List α}(hr:lY d T sz h b=some l):lY d T sz h' b=some l:=by
 unfold lY at hr ⊢;split at hr
 ·rename_i T' sz' rows hb;rw[hs _ _ hb];exact hr
 ·cases hr
structure PsC where
 ts:List (List D)
 os:List (List D)
 kind:Int
 name:ByteArray
 size:Int
 lb:Nat
 n1:Nat
 nb:Nat
 n2:Nat
 vb:Nat
 n3:Nat
 bb:Nat
 n4:Nat
def ze:List LV→Option PsC
 |[.d (.sd 4 ts),.sl lb 0 n1,.v (.int .i64 kind),.v (.string name),.d (.sd 15 os),.sl nb 0 n2,.v (.int .i64 size),.sl vb 0 n3,.sl bb 0 n4]=>some ⟨ts,os,kind,name,size,lb,n1,nb,n2,vb,n3,bb,n4⟩
 |_=>none
theorem Du {e:List LV}{c:PsC}(h:ze e=some c):e=[.d (.sd 4 c.ts),.sl c.lb 0 c.n1,.v (.int .i64 c.kind),.v (.string c.name),.d (.sd 15 c.os),.sl c.nb 0 c.n2,.v (.int .i64 c.size),.sl c.vb 0 c.n3,.sl c.bb 0 c.n4]:=by
 unfold ze at h;split at h
 ·injection h with h;subst h;rfl
 ·cases h
def rb (h:ag):AV→Option (List Nat×PsV)
 |.s (.l (.p b 0 0))=>match ac h b with
  |some ⟨true,T,9,[e]⟩=>match ze e with
   |some c=>match dc jX.dec c.ts,dc opR.dec c.os,lY pC 9 1 h c.lb,lY pC 9 1 h c.nb,lY re 75 3 h c.vb,lY qZ 5 1 h c.bb with
    |some l,some o,some ls,some ns,some vs,some zs =>
     if T=91∧(c.n1=ls.length∧c.n2=ns.length∧c.n3=vs.length∧c.n4=zs.length)∧[b,c.lb,c.nb,c.vb,c.bb].Nodup then some ([b,c.lb,c.nb,c.vb,c.bb],⟨l,⟨ls,c.kind,c.name,o,ns,c.size,vs,zs⟩⟩) else none
    |_,_,_,_,_,_=>none
   |none=>none
  |_=>none
 |_=>none
structure F4 (h:ag)(b lb nb vb bb:Nat)(p:PsV):Prop where
 p0:ac h b=some (psK p lb nb vb bb)
 p1:ac h lb=some (stK p.s.labels)
 p2:ac h nb=some (stK p.s.names)
 p3:ac h vb=some (vlK p.s.vals)
 p4:ac h bb=some (byK p.s.bytes)
 nd:[b,lb,nb,vb,bb].Nodup
theorem rc {h:ag}{A:AV}{bs:List Nat}{p:PsV}(hd:rb h A=some (bs,p)):∃b lb nb vb bb,A=pv b 0 0∧bs=[b,lb,nb,vb,bb]∧F4 h b lb nb vb bb p:=by
 unfold rb at hd;split at hd
 case h_2=>cases hd
 rename_i b;split at hd
 case h_2=>cases hd
 rename_i T e hb;split at hd
 case h_2=>cases hd
 rename_i c hc;split at hd
 case h_2=>cases hd
 rename_i l o ls ns vs zs hl ho h1 h2 h3 h4;split at hd
 case isFalse=>cases hd
 rename_i hk;obtain⟨rfl,⟨e1,e2,e3,e4⟩,hn⟩:=hk;simp only[Option.some.injEq,Prod.mk.injEq]at hd;obtain⟨rfl,rfl⟩:=hd;refine⟨b,c.lb,c.nb,c.vb,c.bb,rfl,rfl,?_,pM tF h1,pM tF h2,pM AL h3,pM AF h4,hn⟩;rw[hb,Du hc,e1,e2,e3,e4,cY jX hl,cY opR ho];rfl
theorem mW {h h':ag}(hs:∀b k,ac h b=some k→ac h' b=some k){A:AV}{r:List Nat×PsV}(hd:rb h A=some r):rb h' A=some r:=by
 unfold rb at hd ⊢;split at hd
 case h_2=>cases hd
 rename_i b;split at hd
 case h_2=>cases hd
 rename_i T e hb;split at hd
 case h_2=>cases hd
 rename_i c hc;split at hd
 case h_2=>cases hd
 rename_i l o ls ns vs zs hl ho h1 h2 h3 h4;simp only[hs _ _ hb,hc,hl,ho,lH hs h1,lH hs h2,lH hs h3,lH hs h4];exact hd
theorem eD (l:List ByteArray)(g:Nat→Nat):(stK l).ren g=stK l:=by
 unfold stK Blk.ren;simp[Function.comp_def,uq,LV.ren]
theorem lK (l:List Val)(g:Nat→Nat):(vlK l).ren g=vlK l:=by
 unfold vlK Blk.ren;simp[Function.comp_def,sf,LV.ren]
theorem lx (l:List Int)(g:Nat→Nat):(byK l).ren g=byK l:=by
 unfold byK Blk.ren;simp[Function.comp_def,xf,LV.ren]
theorem L7 (l:List ByteArray)(g:Nat→Nat):List.map (fun x=>List.map (fun x=>LV.ren g x) x) (l.map uq)=l.map uq:=by
 simp[Function.comp_def,uq,LV.ren]
theorem Mv (l:List Val)(g:Nat→Nat):List.map (fun x=>List.map (fun x=>LV.ren g x) x) (l.map sf)=l.map sf:=by
 simp[Function.comp_def,sf,LV.ren]
theorem JG (l:List Int)(g:Nat→Nat):List.map (fun x=>List.map (fun x=>LV.ren g x) x) (l.map xf)=l.map xf:=by
 simp[Function.comp_def,xf,LV.ren]
theorem lE (p:PsV)(lb nb vb bb:Nat)(g:Nat→Nat):(psK p lb nb vb bb).ren g=psK p (g lb) (g nb) (g vb) (g bb):=rfl
def dh:Except Int (AV×PsV)→RO
 |.ok (r,p)=>.ret r [some (psK p 1 2 3 4)] [stK p.s.labels,stK p.s.names,vlK p.s.vals,byK p.s.bytes]
 |.error e=>.pan (dE e)
theorem Lr {r:AV}{p:PsV}:dh (.ok (r,p))=.ret r [some (psK p 1 2 3 4)] [stK p.s.labels,stK p.s.names,vlK p.s.vals,byK p.s.bytes]:=rfl
theorem BM {e:Int}:dh (.error e)=.pan (dE e):=rfl
def bO:Except Int PsV→Except Int (AV×PsV)
 |.ok p=>.ok (im,p)
 |.error e=>.error e
def iC {X:Type}(T:Xs X)(q:X→PsV→Prop)(h:ag):List AV→Option (Prop×List Nat×(X×PsV))
 |A::zs=>match rb h A,T.dec zs with
  |some (bs,p),some x=>some (q x p,bs,(x,p))
  |_,_=>none
 |[]=>none
def xk {X:Type}(f:FuncId)(fn:Func)(c:Code)(hf:Tryz.prog.funcs[f]? = some fn)(hb:fn.body=some c)
  (hen:∀(args:Array Value) (w:World),(callFunc f args).run prog w=.ok (.enter f args) w) (T:Xs X) (q:X→PsV→Prop) (F:X→PsV→Except Int (AV×PsV)) (hn:T.len+1≤fn.ntmps)
  (body:∀x p,q x p→SW prog ⟨none,1⟩ fn.ntmps c ⟨5,ax 0 (pv 0 0 0::T.enc x),aC 0 (psB p)⟩ (um prog fn.results.toList 1 (dh (F x p)))):am prog f :=
 mkR 1 5 (by decide) f fn c hf hb hen (iC T q) (fun x=>pv 0 0 0::T.enc x.1) (fun x=>psB x.2) (fun x=>dh (F x.1 x.2))
  (by
   intro h h' args r hs hd;unfold iC at hd ⊢;split at hd
   ·split at hd
    ·rename_i h1 h2;rw[mW hs h1,h2];exact hd
    ·cases hd
   ·cases hd)
  (by
   intro h zs q' bs x hd hq;unfold iC at hd;split at hd
   case h_2=>cases hd
   rename_i A zs';split at hd
   case h_2=>cases hd
   rename_i bs' p x' h1 h2;injection hd with hd;injection hd with e1 hd;injection hd with e2 e3;subst e2;subst e3;obtain⟨b,lb,nb,vb,bb,rfl,rfl,hp⟩:=rc h1;refine⟨by rw[List.length_cons,T.enc_len];exact hn,rfl,rfl,hp.nd,fun d=>⟨?_,?_⟩⟩
   ·intro j b' k hj hk
    match j,hj,hk with
    |0,hj,hk =>
     simp[psB]at hj hk;subst hj;subst hk;exact⟨rfl,by rw[hp.p0,lE];rfl⟩
    |1,hj,hk =>
     simp[psB]at hj hk;subst hj;subst hk;exact⟨rfl,by rw[hp.p1,eD]⟩
    |2,hj,hk =>
     simp[psB]at hj hk;subst hj;subst hk;exact⟨rfl,by rw[hp.p2,eD]⟩
    |3,hj,hk =>
     simp[psB]at hj hk;subst hj;subst hk;exact⟨rfl,by rw[hp.p3,lK]⟩
    |4,hj,hk =>
     simp[psB]at hj hk;subst hj;subst hk;exact⟨rfl,by rw[hp.p4,lx]⟩
   ·intro ρ al vals hA
    match vals,hA with
    |v::vs,⟨a,r⟩=>exact⟨a,T.ok (al:=al) h2 (Mem.le_refl _) r⟩)
  (by
   intro h zs q' bs x hd hq;unfold iC at hd;split at hd
   case h_2=>cases hd
   split at hd
   case h_2=>cases hd
   injection hd with hd;injection hd with e1 hd;injection hd with e2 e3;subst e1;subst e3;exact body _ _ hq)
def j9:Except Int (AV×PsV)→RO
 |.ok (r,p)=>.ret r [some (psK p 1 2 3 4),some (stK p.s.labels),some (stK p.s.names),some (vlK p.s.vals),some (byK p.s.bytes)] []
 |.error e=>.pan (dE e)
theorem Ls {r:AV}{p:PsV}:j9 (.ok (r,p))=.ret r [some (psK p 1 2 3 4),some (stK p.s.labels),some (stK p.s.names),some (vlK p.s.vals),some (byK p.s.bytes)] []:=rfl
theorem BN {e:Int}:j9 (.error e)=.pan (dE e):=rfl
def KI {X:Type}(f:FuncId)(fn:Func)(c:Code)(hf:Tryz.prog.funcs[f]? = some fn)(hb:fn.body=some c)
  (hen:∀(args:Array Value) (w:World),(callFunc f args).run prog w=.ok (.enter f args) w) (T:Xs X) (q:X→PsV→Prop) (F:X→PsV→Except Int (AV×PsV)) (hn:T.len+1≤fn.ntmps)
  (body:∀x p,q x p→SW prog ⟨none,5⟩ fn.ntmps c ⟨5,ax 0 (pv 0 0 0::T.enc x),aC 0 (psB p)⟩ (um prog fn.results.toList 5 (j9 (F x p)))):am prog f :=
 mkR 5 5 (by decide) f fn c hf hb hen (iC T q) (fun x=>pv 0 0 0::T.enc x.1) (fun x=>psB x.2) (fun x=>j9 (F x.1 x.2))
  (by
   intro h h' args r hs hd;unfold iC at hd ⊢;split at hd
   ·split at hd
    ·rename_i h1 h2;rw[mW hs h1,h2];exact hd
    ·cases hd
   ·cases hd)
  (by
   intro h zs q' bs x hd hq;unfold iC at hd;split at hd
   case h_2=>cases hd
   rename_i A zs';split at hd
   case h_2=>cases hd
   rename_i bs' p x' h1 h2;injection hd with hd;injection hd with e1 hd;injection hd with e2 e3;subst e2;subst e3;obtain⟨b,lb,nb,vb,bb,rfl,rfl,hp⟩:=rc h1;refine⟨by rw[List.length_cons,T.enc_len];exact hn,rfl,rfl,hp.nd,fun d=>⟨?_,?_⟩⟩
   ·intro j b' k hj hk
    match j,hj,hk with
    |0,hj,hk =>
     simp[psB]at hj hk;subst hj;subst hk;exact⟨rfl,by rw[hp.p0,lE];rfl⟩
    |1,hj,hk =>
     simp[psB]at hj hk;subst hj;subst hk;exact⟨rfl,by rw[hp.p1,eD]⟩
    |2,hj,hk =>
     simp[psB]at hj hk;subst hj;subst hk;exact⟨rfl,by rw[hp.p2,eD]⟩
    |3,hj,hk =>
     simp[psB]at hj hk;subst hj;subst hk;exact⟨rfl,by rw[hp.p3,lK]⟩
    |4,hj,hk =>
     simp[psB]at hj hk;subst hj;subst hk;exact⟨rfl,by rw[hp.p4,lx]⟩
   ·intro ρ al vals hA
    match vals,hA with
    |v::vs,⟨a,r⟩=>exact⟨a,T.ok (al:=al) h2 (Mem.le_refl _) r⟩)
  (by
   intro h zs q' bs x hd hq;unfold iC at hd;split at hd
   case h_2=>cases hd
   split at hd
   case h_2=>cases hd
   injection hd with hd;injection hd with e1 hd;injection hd with e2 e3;subst e1;subst e3;exact body _ _ hq)
theorem eE {p:PsV}{r:AV}{st:St}(lb nb vb bb:Nat)(hr:r.plain=true)(hp:F4 st.h 0 lb nb vb bb p):mA 1 st (dh (.ok (r,p))) (some r):=by
 refine⟨hr,[some (psK p 1 2 3 4)],[stK p.s.labels,stK p.s.names,vlK p.s.vals,byK p.s.bytes],rfl,rfl,by simp,by simp[psK],by simp[stK,vlK,byK],Wk.ren [0,lb,nb,vb,bb] (by intro j hj;have:j=0:=(by simpa using hj);subst this;rfl) (Nat.le_refl _) hp.nd (fun p hp=>by cases hp) ?_⟩;intro q hq k hk;simp only[ee,aC,List.cons_append,List.nil_append,mem_cons,List.not_mem_nil,or_false]at hq;rcases hq with rfl | rfl | rfl | rfl | rfl
 ·simp only[Option.some.injEq]at hk;subst hk;simp only[getD_eq_getElem?_getD,getElem?_cons_zero,getD_some,hp.p0,lE];rfl
 ·simp only[Option.some.injEq]at hk;subst hk;simp only[getD_eq_getElem?_getD,getElem?_cons_succ,getElem?_cons_zero,getD_some,hp.p1,eD]
 ·simp only[Option.some.injEq]at hk;subst hk;simp only[getD_eq_getElem?_getD,getElem?_cons_succ,getElem?_cons_zero,getD_some,hp.p2,eD]
 ·simp only[Option.some.injEq]at hk;subst hk;simp only[getD_eq_getElem?_getD,getElem?_cons_succ,getElem?_cons_zero,getD_some,hp.p3,lK]
 ·simp only[Option.some.injEq]at hk;subst hk;simp only[getD_eq_getElem?_getD,getElem?_cons_succ,getElem?_cons_zero,getD_some,hp.p4,lx]
theorem vL {p:PsV}{r:AV}{st:St}(hr:r.plain=true)(hp:F4 st.h 0 1 2 3 4 p):mA 5 st (j9 (.ok (r,p))) (some r):=by
 refine⟨hr,[some (psK p 1 2 3 4),some (stK p.s.labels),some (stK p.s.names),some (vlK p.s.vals),some (byK p.s.bytes)],[],rfl,rfl,by simp,by simp[psK,stK,vlK,byK],by simp,Wk.ren [0,1,2,3,4] (by intro j hj;match j,hj with | 0,_=>rfl | 1,_=>rfl | 2,_=>rfl | 3,_=>rfl | 4,_=>rfl) (Nat.le_refl _) hp.nd (fun p hp=>by cases hp) ?_⟩;intro q hq k hk;simp only[ee,aC,List.cons_append,List.nil_append,mem_cons,List.not_mem_nil,or_false]at hq;rcases hq with rfl | rfl | rfl | rfl | rfl
 ·simp only[Option.some.injEq]at hk;subst hk;simp only[getD_eq_getElem?_getD,getElem?_cons_zero,getD_some,hp.p0,lE];rfl
 ·simp only[Option.some.injEq]at hk;subst hk;simp only[getD_eq_getElem?_getD,getElem?_cons_succ,getElem?_cons_zero,getD_some,hp.p1,eD]
 ·simp only[Option.some.injEq]at hk;subst hk;simp only[getD_eq_getElem?_getD,getElem?_cons_succ,getElem?_cons_zero,getD_some,hp.p2,eD]
 ·simp only[Option.some.injEq]at hk;subst hk;simp only[getD_eq_getElem?_getD,getElem?_cons_succ,getElem?_cons_zero,getD_some,hp.p3,lK]
 ·simp only[Option.some.injEq]at hk;subst hk;simp only[getD_eq_getElem?_getD,getElem?_cons_succ,getElem?_cons_zero,getD_some,hp.p4,lx]
@[go_sem] theorem mkPr_rn {X:Type} {T:Xs X} {f fn c hf hb hen q G hn body id h args}:(xk f fn c hf hb hen T q G hn body).run id h args=jv 1 (iC T q) (fun x=>dh (G x.1 x.2)) id h args:=rfl
@[go_sem] theorem mkPr_pn {X:Type} {T:Xs X} {f fn c hf hb hen q G hn body id h args}:(xk f fn c hf hb hen T q G hn body).pan id h args=iT (iC T q) (fun x=>dh (G x.1 x.2)) h args:=rfl
@[go_sem] theorem mkPt_rn {X:Type} {T:Xs X} {f fn c hf hb hen q G hn body id h args}:(KI f fn c hf hb hen T q G hn body).run id h args=jv 5 (iC T q) (fun x=>j9 (G x.1 x.2)) id h args:=rfl
@[go_sem] theorem mkPt_pn {X:Type} {T:Xs X} {f fn c hf hb hen q G hn body id h args}:(KI f fn c hf hb hen T q G hn body).pan id h args=iT (iC T q) (fun x=>j9 (G x.1 x.2)) h args:=rfl
end
section
open Ex (Xs xs0)
def dG:am prog 46 :=
 mz1 func46 (bq .i64) ((fun _=>True)) ((fun e=>.pan (dE e))) (fun e _=>by
 refine aq [] rfl ?_;simp only[go_sem,dE])
theorem yC {id:Nat}{h:ag}{args:List AV}:(dG).run id h args=fT (cE (bq .i64) ((fun _=>True))) ((fun e=>.pan (dE e))) h args:=rfl
theorem yB {id:Nat}{h:ag}{args:List AV}:(dG).pan id h args=gh (cE (bq .i64) ((fun _=>True))) ((fun e=>.pan (dE e))) h args:=rfl
theorem S9 (k:Int)(m:Nat)(p:PsV):Sw f96 5 ⟨5,ax 0 [pv 0 0 0,iv k,iv m],aC 0 (psB p)⟩ (oR f96 5 (j9 (.ok (bv (isF p.l k m),p)))):=by
 refine aq [] rfl ?_;rcases hl:p.l[m]? with _ | t
 ·have hlt:¬(m:Int)<p.l.length:=by have:=List.getElem?_eq_none_iff.1 hl;omega
  have e:isF p.l k m=false:=by unfold isF;rw[hl]
  rw[e];simp only[go_sem,psB,psK,psL,hlt];exact vL rfl ⟨rfl,rfl,rfl,rfl,rfl,by decide⟩
 ·have hlt:(m:Int)<p.l.length:=by have:=(List.getElem?_eq_some_iff.1 hl).1;omega
  have e:isF p.l k m=decide (t.kind=k):=by unfold isF;rw[hl]
  rw[e];simp only[go_sem,psB,psK,psL,hlt,hl,jW];exact vL rfl ⟨rfl,rfl,rfl,rfl,rfl,by decide⟩
def Km:am prog 96 :=
 KI _ _ _ func96 rfl (fun _ _=>by go_simp) (xs2) ((fun x _=>0≤x.2)) ((fun x p=>.ok (bv (isF p.l x.1 x.2.toNat),p))) (by rw[ntmps96];decide) (fun x p h=>by
 obtain⟨k,n⟩:=x;obtain⟨m,rfl⟩:=Int.eq_ofNat_of_zero_le h;exact S9 k m p)
theorem ru {id:Nat}{h:ag}{args:List AV}:(Km).run id h args=jv 5 (iC (xs2) ((fun x _=>0≤x.2))) (fun x=>j9 (((fun x p=>.ok (bv (isF p.l x.1 x.2.toNat),p))) x.1 x.2)) id h args:=rfl
theorem rt {id:Nat}{h:ag}{args:List AV}:(Km).pan id h args=iT (iC (xs2) ((fun x _=>0≤x.2))) (fun x=>j9 (((fun x p=>.ok (bv (isF p.l x.1 x.2.toNat),p))) x.1 x.2)) h args:=rfl
def O6:Xs (ByteArray×Int) where
 dec:=fun | [.s (.l (.v (.string a))),.s (.l (.v (.int .i64 b)))]=>some (a,b) | _=>none
 enc:=fun t=>[sv t.1,iv t.2]
 len:=2
 enc_len:=fun _=>rfl
 ok:=by
  intro zs x h ρ ρ' al al' vals hM hA;split at h
  ·injection h with h;subst h
   match vals,hA with
   |[v,u],⟨a,b,_⟩=>exact⟨a,b,trivial⟩
  ·cases h
theorem SF {l:List Tok}{k:Int}{n:Nat}:isF l k n=false→atF l k n=emp:=by
 unfold isF atF;intro h;split at h
 ·rename_i t ht;rw[ht];simp only;rw[if_neg (of_decide_eq_false h)]
 ·rename_i ht;rw[ht]
attribute [go_sem] psB psK psL iC rb ze lY Dq Dr Dp stK vlK byK O6 Lr BM Ls BN L7 Mv JG List.nodup_cons not_or List.nodup_nil
theorem LD (s:ByteArray)(m:Nat)(p:PsV)(hs:¬s=emp):Sw f97 5 ⟨5,ax 0 [pv 0 0 0,sv s,iv m],aC 0 (psB p)⟩ (oR f97 5 (j9 (.ok (bv (decide (atF p.l 4 m=s)),p)))):=by
 refine aq [⟨_,Km⟩] rfl ?_;have h0:(0:Int)≤m:=by omega
 cases hi:isF p.l 4 m with
 |false =>
  have e:decide (atF p.l 4 m=s)=false:=by rw[SF hi];exact decide_eq_false fun h=>hs h.symm
  rw[e];simp only[go_sem,ru,rt,h0,hi];exact vL rfl ⟨rfl,rfl,rfl,rfl,rfl,by decide⟩
 |true =>
  have hlt:(m:Int)<p.l.length:=by have:=vF hi;omega
  rcases hl:p.l[m]? with _ | t
  ·have:=List.getElem?_eq_none_iff.1 hl;omega
  have hk:t.kind=4:=by unfold isF at hi;rw[hl]at hi;exact of_decide_eq_true hi
  have e:atF p.l 4 m=t.text:=by unfold atF;rw[hl];simp only[if_pos hk]
  rw[e];simp only[go_sem,ru,rt,h0,hi,hlt,hl,jW];exact vL rfl ⟨rfl,rfl,rfl,rfl,rfl,by decide⟩
def sX:am prog 97 :=
 KI _ _ _ func97 rfl (fun _ _=>by go_simp) (O6) ((fun x _=>¬x.1=emp∧0≤x.2)) ((fun x p=>.ok (bv (decide (atF p.l 4 x.2.toNat=x.1)),p))) (by rw[ntmps97];decide) (fun x p h=>by
 obtain⟨s,n⟩:=x;obtain⟨m,rfl⟩:=Int.eq_ofNat_of_zero_le h.2;exact LD s m p h.1)
theorem Iu {id:Nat}{h:ag}{args:List AV}:(sX).run id h args=jv 5 (iC (O6) ((fun x _=>¬x.1=emp∧0≤x.2))) (fun x=>j9 (((fun x p=>.ok (bv (decide (atF p.l 4 x.2.toNat=x.1)),p))) x.1 x.2)) id h args:=rfl
theorem Is {id:Nat}{h:ag}{args:List AV}:(sX).pan id h args=iT (iC (O6) ((fun x _=>¬x.1=emp∧0≤x.2))) (fun x=>j9 (((fun x p=>.ok (bv (decide (atF p.l 4 x.2.toNat=x.1)),p))) x.1 x.2)) h args:=rfl
def ij (k e:Int)(p:PsV):Except Int (AV×PsV):=match aL k e p.l with
 |.ok (t,l)=>.ok (sv t,⟨l,p.s⟩)
 |.error e=>.error e
theorem zB (k e:Int)(p:PsV):Sw f45 5 ⟨5,ax 0 [pv 0 0 0,iv k,iv e],aC 0 (psB p)⟩ (oR f45 5 (j9 (ij k e p))):=by
 refine aq [⟨_,Km⟩,⟨_,dG⟩] rfl ?_;cases hi:isF p.l k 0 with
 |false =>
  have e1:ij k e p=.error e:=by unfold ij aL;rw[hi];rfl
  rw[e1];simp only[go_sem,ru,rt,hi,toNat_zero,yC,yB]
 |true =>
  have h1:(0:Int)<p.l.length:=by have:=vF hi;omega
  have h2:(1:Int)≤p.l.length:=by omega
  rcases hl:p.l[0]? with _ | t
  ·have:=List.getElem?_eq_none_iff.1 hl;omega
  have hk:t.kind=k:=by unfold isF at hi;rw[hl]at hi;exact of_decide_eq_true hi
  have e0:atF p.l k 0=t.text:=by unfold atF;rw[hl];simp only[if_pos hk]
  have e1:ij k e p=.ok (sv t.text,⟨p.l.drop 1,p.s⟩):=by unfold ij aL;rw[hi,e0];rfl
  rw[e1];simp only[go_sem,ru,rt,hi,toNat_zero,h1,h2,hl,jW,kL p.l 1 (by omega),toNat_one];exact vL (p:=⟨p.l.drop 1,p.s⟩) rfl ⟨rfl,rfl,rfl,rfl,rfl,by decide⟩
def kU:am prog 45 :=
 KI _ _ _ func45 rfl (fun _ _=>by go_simp) (xs2) ((fun _ _=>True)) ((fun x p=>ij x.1 x.2 p)) (by rw[ntmps45];decide) (fun x p _=>zB x.1 x.2 p)
theorem HA {id:Nat}{h:ag}{args:List AV}:(kU).run id h args=jv 5 (iC (xs2) ((fun _ _=>True))) (fun x=>j9 (((fun x p=>ij x.1 x.2 p)) x.1 x.2)) id h args:=rfl
theorem Hz {id:Nat}{h:ag}{args:List AV}:(kU).pan id h args=iT (iC (xs2) ((fun _ _=>True))) (fun x=>j9 (((fun x p=>ij x.1 x.2 p)) x.1 x.2)) h args:=rfl
end
section
open Ex (Xs xs0)
theorem I4 (l:List Val)(v:Val):l.map sf++[[.v (.int .i64 v.add),.v (.string v.plus),.v (.string v.minus)]]=(l++[v]).map sf:=by
 rw[List.map_append];rfl
theorem az {p:PsV}:bO (.ok p)=.ok (im,p):=rfl
theorem ah {e:Int}:bO (.error e)=.error e:=rfl
attribute [go_sem] yC yB ru rt Iu Is HA Hz
theorem O4 (p:PsV)(h:BodyOk 1000 1000 p):Sw f149 1 ⟨5,ax 0 [pv 0 0 0],aC 0 (psB p)⟩ (oR f149 1 (dh (bO (bV p)))):=by
 refine aq [⟨_,Ex.parseS⟩,⟨_,Ex.evalS⟩,⟨_,dG⟩] rfl ?_;have hn:=Ex.parseF_nice h.toks.named;have hl6:=h.toks.few;rcases hp:Ex.parseF p.l with e | s
 ·rw[hp]at hn;have hne:¬e=0:=hn;have hv:bV p=.error e:=by unfold bV aP;rw[hp]
  rw[hv];simp only[go_sem,ah,Ex.parse_run,Ex.parse_pan,Ex.outParse,hl6,hp,hne]
 ·rw[hp]at hn;obtain⟨g1,g2,g3,g4,g5⟩:=hn;have q2:s.ts.length≤1099511627776:=by omega
  have q3:∀t∈s.ts,t.sym.size≤140737488355328:=fun t ht=>by have:=Ex.termB_size (g2 t ht);omega
  have q4:(s.at_:Int)≤p.l.length:=by omega
  have q5:(0:Int)≤s.at_:=by omega
  rcases hev:Ex.evalAll s.ts with ⟨⟨va,vp,vm⟩,x⟩;by_cases hx:x=0
  ·subst hx;have hv:bV p=.ok ⟨p.l.drop s.at_,{ p.s with vals:=p.s.vals++[⟨va,vp,vm⟩] }⟩:=by unfold bV aP;rw[hp];simp only[hev,if_true]
   rw[hv];have m1:p.s.vals.length+1≤maxLen:=by have:=h.vals;unfold maxLen;omega
   have m2:(p.s.vals.length+1)*40≤140737488355328:=by have:=h.vals;omega
   have hd:=kL p.l s.at_ (by omega);simp only[go_sem,az,Ex.parse_run,Ex.parse_pan,Ex.outParse,hl6,hp,Ex.eval_pan,Ex.outEval,hev,q2,q4,q5,hd];refine⟨q3,?_⟩;refine sD mixed [] [8,12] ?_;simp only[go_sem,m1,m2];refine eE (p:=⟨p.l.drop s.at_,{ p.s with vals:=p.s.vals++[⟨va,vp,vm⟩] }⟩) 1 2 677 4 rfl ⟨?_,rfl,rfl,?_,rfl,by decide⟩
   ·rw[psK,psL,List.length_append];rfl
   ·rw[vlK,←I4];rfl
  ·have hv:bV p=.error x:=by unfold bV aP;rw[hp];simp only[hev,if_neg hx]
   rw[hv];simp only[go_sem,ah,Ex.parse_run,Ex.parse_pan,Ex.outParse,hl6,hp,Ex.eval_pan,Ex.outEval,hev,q2,hx];exact q3
abbrev Mt:am prog 149 :=
 xk _ _ _ func149 (asP rfl) (asP fun _ _=>by go_simp) (xs0) ((fun _ p=>BodyOk 1000 1000 p)) ((fun _ p=>bO (bV p))) (asP (by rw[ntmps149];decide)) (asP fun _ p h=>O4 p h)
abbrev Kl:am prog 60 :=
 mz1 func60 (nX nZ) ((fun _=>True)) ((fun v=>.ret (bv (gz v)))) (asP fun v _=>by
 refine aq [] rfl ?_;obtain⟨a,p,m⟩:=v
 have e:gz ⟨a,p,m⟩=(decide (p=emp)&&(decide (m=emp)&&(decide (0≤a)&&decide (a≤12)))):=by
  unfold gz;rw[Bool.eq_iff_iff];simp only[decide_eq_true_eq,Bool.and_eq_true,and_assoc]
 rw[e];by_cases h1:p=emp
 ·by_cases h2:m=emp
  ·by_cases h3:0≤a
   ·simp only[go_sem,E6,ak,eq_true h1,eq_true h2,eq_true h3]
   ·simp only[go_sem,E6,ak,eq_true h1,eq_true h2,h3,Bool.false_and]
  ·simp only[go_sem,E6,ak,eq_true h1,h2,Bool.false_and]
 ·simp only[go_sem,E6,ak,h1,Bool.false_and])
end
section
open Ex (Xs xs0)
theorem Ge (p:PsV)(h:BodyOk 1000 1000 p)(h0:p.s.vals=[]):Sw f103 1 ⟨5,ax 0 [pv 0 0 0],aC 0 (psB p)⟩ (oR f103 1 (dh (bO (jZ p)))):=by
 refine aq [⟨_,Mt⟩,⟨_,Kl⟩,⟨_,dG⟩] rfl ?_;rcases hv:aP p.l with e | ⟨⟨va,vp,vm⟩,l⟩
 ·have h1:bV p=.error e:=by unfold bV;rw[hv]
  have h2:jZ p=.error e:=by unfold jZ;rw[h1]
  rw[h2];simp only[go_sem,h,h1,ah]
 ·have h1:bV p=.ok ⟨l,{ p.s with vals:=[⟨va,vp,vm⟩] }⟩:=by unfold bV;rw[hv,h0];rfl
  have h2:jZ p=if gz ⟨va,vp,vm⟩=true then .ok ⟨l,{ p.s with vals:=[⟨va,vp,vm⟩] }⟩ else .error 7:=by unfold jZ;rw[h1];rfl
  cases ha:gz ⟨va,vp,vm⟩ with
  |true =>
   rw[h2,if_pos ha];simp only[go_sem,h,h1,az,sf,fH,ha];exact eE (p:=⟨l,{ p.s with vals:=[⟨va,vp,vm⟩] }⟩) 21 22 23 24 rfl ⟨rfl,rfl,rfl,rfl,rfl,by decide⟩
  |false =>
   rw[h2,if_neg (by rw[ha];decide)];simp only[go_sem,h,h1,az,ah,sf,fH,ha]
abbrev iw:am prog 103 :=
 xk _ _ _ func103 (asP rfl) (asP fun _ _=>by go_simp) (xs0) ((fun _ p=>BodyOk 1000 1000 p∧p.s.vals=[])) ((fun _ p=>bO (jZ p))) (asP (by rw[ntmps103];decide)) (asP fun _ p h=>Ge p h.1 h.2)
theorem Gp (p:PsV)(h:∀t∈p.l,t.text.size≤1000000):Sw f108 1 ⟨5,ax 0 [pv 0 0 0],aC 0 (psB p)⟩ (oR f108 1 (dh (bO (j0 p)))):=by
 refine aq [⟨_,kU⟩] rfl ?_;rcases hv:aL 3 112 p.l with e | ⟨t,l⟩
 ·have h1:j0 p=.error e:=by unfold j0;rw[hv]
  have h2:ij 3 112 p=.error e:=by unfold ij;rw[hv]
  rw[h1];simp only[go_sem,h2,ah]
 ·have h1:j0 p=.ok ⟨l,{ p.s with bytes:=aa t }⟩:=by unfold j0;rw[hv]
  have h2:ij 3 112 p=.ok (sv t,⟨l,p.s⟩):=by unfold ij;rw[hv]
  have hz:t.size≤maxLen:=by
   have e:t=atF p.l 3 0:=by
    unfold aL at hv;split at hv
    ·injection hv with hv;injection hv with hv;exact hv.symm
    ·cases hv
   rw[e];unfold atF maxLen;split
   ·rename_i u hu;split
    ·have:=h u (List.mem_of_getElem? hu);omega
    ·show(0:Nat)≤_;omega
   ·show(0:Nat)≤_;omega
  rw[h1];simp only[go_sem,h2,az];refine⟨hz,eE (p:=⟨l,{ p.s with bytes:=aa t }⟩) 1 2 3 53 rfl ⟨?_,rfl,rfl,rfl,rfl,by decide⟩⟩;rw[psK,psL,ae];rfl
abbrev iz:am prog 108 :=
 xk _ _ _ func108 (asP rfl) (asP fun _ _=>by go_simp) (xs0) ((fun _ p=>∀t∈p.l,t.text.size≤1000000)) ((fun _ p=>bO (j0 p))) (asP (by rw[ntmps108];decide)) (asP fun _ p h=>Gp p h)
end
section
open Ex (Xs xs0)
theorem yD (l:List ByteArray)(s:ByteArray):l.map uq++[[.v (.string s)]]=(l++[s]).map uq:=by
 rw[List.map_append];rfl
theorem Mx {p:PsV}{st:St}{X:cK}(lb nb vb bb:Nat)(hp:F4 st.h 0 lb nb vb bb p)(hX:X.map (fun p=>bI st.t p.1)=X.map fun p=>p.2.ren fun j=>[0,lb,nb,vb,bb].getD j st.nx):Wk ⟨none,1⟩ st ⟨5,X,aC 0 (psB p)⟩:=by
 refine Wk.ren [0,lb,nb,vb,bb] (by intro j hj;have:j=0:=(by simpa using hj);subst this;rfl) (Nat.le_refl _) hp.nd (fun p hp=>List.map_inj_left.1 hX p hp) ?_;intro q hq k hk;simp only[psB,aC,mem_cons,List.not_mem_nil,or_false]at hq;rcases hq with rfl | rfl | rfl | rfl | rfl
 ·simp only[Option.some.injEq]at hk;subst hk;simp only[getD_eq_getElem?_getD,getElem?_cons_zero,getD_some,hp.p0,lE];rfl
 ·simp only[Option.some.injEq]at hk;subst hk;simp only[getD_eq_getElem?_getD,getElem?_cons_succ,getElem?_cons_zero,getD_some,hp.p1,eD]
 ·simp only[Option.some.injEq]at hk;subst hk;simp only[getD_eq_getElem?_getD,getElem?_cons_succ,getElem?_cons_zero,getD_some,hp.p2,eD]
 ·simp only[Option.some.injEq]at hk;subst hk;simp only[getD_eq_getElem?_getD,getElem?_cons_succ,getElem?_cons_zero,getD_some,hp.p3,lK]
 ·simp only[Option.some.injEq]at hk;subst hk;simp only[getD_eq_getElem?_getD,getElem?_cons_succ,getElem?_cons_zero,getD_some,hp.p4,lx]
def Qw (s:StV)(i:Nat×List ByteArray×List Tok):St:=⟨5,[(0,pv 0 0 0)],aC 0 (psB ⟨i.2.2,{ s with labels:=i.2.1 }⟩)⟩
def vI (s:StV)(r:Except Int (List ByteArray×List Tok)):Except Int (AV×PsV):=match r with
 |.ok (ls,l)=>.ok (im,⟨l,{ s with labels:=ls }⟩)
 |.error e=>.error e
theorem Ha (p:PsV)(h:RdOk p.l)(h0:p.s.labels=[]):Sw f44 1 ⟨5,ax 0 [pv 0 0 0],aC 0 (psB p)⟩ (oR f44 1 (dh (vI p.s (bm p.l.length [] p.l)))):=by
 refine aq [] rfl ?_;simp only[go_sem];refine bF (ι:=Nat×List ByteArray×List Tok) (fun i=>i.2.2.length≤i.1∧RdOk i.2.2∧i.2.1.length≤8∧bm i.1 i.2.1 i.2.2=bm p.l.length [] p.l) (Qw p.s) (fun i=>i.1) (p.l.length,[],p.l) ⟨Nat.le_refl _,h,Nat.zero_le _,rfl⟩ ?_ ?_
 ·refine Wk.renL [0,1,2,3,4] (by intro j hj;have:j=0:=(by simpa using hj);subst this;rfl) (Nat.le_refl 5) (by decide) rfl ?_;simp only[Qw,go_sem,h0]
 rintro⟨N,out,l⟩ ⟨hN,hk,h8,hR⟩;simp only at hN hk h8 hR;unfold Qw;refine aw [⟨_,Km⟩,⟨_,sX⟩,⟨_,dG⟩] ?_;have hcol:¬(⟨#[58]⟩:ByteArray)=emp:=by decide
 cases hi:isF l 1 0 with
 |false =>
  have e:bm N out l=.ok (out,l):=by
   cases N with
   |zero=>rfl
   |succ N=>unfold bm;rw[if_neg (by rw[hi];rintro⟨h,-⟩;cases h)]
  rw[←hR,e];simp only[go_sem,vI,hi,hcol,toNat_zero,toNat_one];exact eE (p:=⟨l,{ p.s with labels:=out }⟩) 1 2 3 4 rfl ⟨rfl,rfl,rfl,rfl,rfl,by decide⟩
 |true =>
  by_cases hc:atF l 4 1=cj
  case neg =>
   have e:bm N out l=.ok (out,l):=by
    cases N with
    |zero=>rfl
    |succ N=>unfold bm;rw[if_neg (fun h=>hc h.2)]
   have hc':¬atF l 4 1=(⟨#[58]⟩:ByteArray):=hc;rw[←hR,e];simp only[go_sem,vI,hi,hcol,toNat_zero,toNat_one,hc'];exact eE (p:=⟨l,{ p.s with labels:=out }⟩) 1 2 3 4 rfl ⟨rfl,rfl,rfl,rfl,rfl,by decide⟩
  have hc':atF l 4 1=(⟨#[58]⟩:ByteArray):=hc;have hl1:=vF hi;have hl2:1<l.length:=gQ (k:=4) (n:=1) (by rw[hc];decide);have hl1I:(0:Int)<l.length:=by omega
  have hl2I:(2:Int)≤l.length:=by omega
  obtain⟨M,rfl⟩:∃M,N=M+1:=⟨N-1,by omega⟩;rcases hl:l[0]? with _ | t
  ·have:=List.getElem?_eq_none_iff.1 hl;omega
  have hkk:t.kind=1:=by unfold isF at hi;rw[hl]at hi;exact of_decide_eq_true hi
  have ht:atF l 1 0=t.text:=by unfold atF;rw[hl];simp only[if_pos hkk]
  have hL:bm (M+1) out l=if t.text=sx then .error 110 else if out.length=8 then .error 3 else bm M (out++[t.text]) (l.drop 2):=by
   conv=>lhs;unfold bm
   rw[if_pos ⟨hi,hc⟩,ht]
  by_cases hd:t.text=sx
  ·rw[←hR,hL,if_pos hd];have hd':(t.text=(⟨#[46]⟩:ByteArray))=True:=eq_true hd;simp only[go_sem,vI,hi,hcol,toNat_zero,toNat_one,hc',hl1I,hl,jW,hd']
  have hd':¬t.text=(⟨#[46]⟩:ByteArray):=hd;by_cases h88:out.length=8
  ·rw[←hR,hL,if_neg hd,if_pos h88];have h8I:((out.length:Int)=8)=True:=eq_true (by omega);simp only[go_sem,vI,hi,hcol,toNat_zero,toNat_one,hc',hl1I,hl,jW,hd',h8I]
  have h8I:¬(out.length:Int)=8:=by omega
  rw[hL,if_neg hd,if_neg h88]at hR;have m1:out.length+1≤maxLen:=by unfold maxLen;omega
  have m2:(out.length+1)*16≤140737488355328:=by omega
  simp only[go_sem,vI,hi,hcol,toNat_zero,toNat_one,hc',hl1I,hl,jW,hd',h8I];refine sD mixed [] [14,18] ?_;simp only[go_sem,m1,m2,hl1I,hl,jW];refine⟨hl2I,(M,out++[t.text],l.drop 2),⟨by simp;omega,hk.drop 2,by simp;omega,hR⟩,Nat.lt_succ_self M,?_⟩;refine Mx (p:=⟨l.drop 2,{ p.s with labels:=out++[t.text] }⟩) 597 2 3 4 ⟨?_,?_,rfl,rfl,rfl,by decide⟩ rfl
  ·rw[psK,psL,List.length_append,←kL l 2 (by omega)];rfl
  ·rw[stK,←yD];rfl
abbrev jM:am prog 44 :=
 xk _ _ _ func44 (asP rfl) (asP fun _ _=>by go_simp) (xs0) ((fun _ p=>RdOk p.l∧p.s.labels=[])) ((fun _ p=>vI p.s (bm p.l.length [] p.l))) (asP (by rw[ntmps44];decide)) (asP fun _ p h=>Ha p h.1 h.2)
end
section
open Ex (Xs xs0)
def bW (g:FuncId)(q:PsV→Prop)(h:ag):List AV→Option (Prop×List Nat×PsV)
 |[A,.fn g' [.p b' 0 0] []]=>match rb h A with
  |some (bs,p)=>if g'=g∧bs.head? = some b' then some (q p,bs,p) else none
  |none=>none
 |_=>none
def PF (f:FuncId)(fn:Func)(c:Code)(hf:Tryz.prog.funcs[f]? = some fn)(hb:fn.body=some c)
  (hen:∀(args:Array Value) (w:World),(callFunc f args).run prog w=.ok (.enter f args) w) (g:FuncId) (q:PsV→Prop) (F:PsV→Except Int (AV×PsV)) (hn:2≤fn.ntmps)
  (body:∀p,q p→SW prog ⟨none,1⟩ fn.ntmps c ⟨5,ax 0 [pv 0 0 0,.fn g [.p 0 0 0] []],aC 0 (psB p)⟩ (um prog fn.results.toList 1 (dh (F p)))):am prog f :=
 mkR 1 5 (by decide) f fn c hf hb hen (bW g q) (fun _=>[pv 0 0 0,.fn g [.p 0 0 0] []]) (fun p=>psB p) (fun p=>dh (F p))
  (by
   intro h h' args r hs hd;unfold bW at hd ⊢;split at hd
   ·split at hd
    ·rename_i h1;rw[mW hs h1];exact hd
    ·cases hd
   ·cases hd)
  (by
   intro h zs q' bs p hd hq;unfold bW at hd;split at hd
   case h_2=>cases hd
   rename_i A g' b';split at hd
   case h_2=>cases hd
   rename_i bs' p' h1;split at hd
   case isFalse=>cases hd
   rename_i hc;obtain⟨rfl,hc⟩:=hc;injection hd with hd;injection hd with e1 hd;injection hd with e2 e3;subst e2;subst e3;obtain⟨b,lb,nb,vb,bb,rfl,rfl,hp⟩:=rc h1;simp only[List.head?_cons,Option.some.injEq]at hc;subst hc;refine⟨hn,rfl,rfl,hp.nd,fun d=>⟨?_,?_⟩⟩
   ·intro j b' k hj hk
    match j,hj,hk with
    |0,hj,hk =>
     simp[psB]at hj hk;subst hj;subst hk;exact⟨rfl,by rw[hp.p0,lE];rfl⟩
    |1,hj,hk =>
     simp[psB]at hj hk;subst hj;subst hk;exact⟨rfl,by rw[hp.p1,eD]⟩
    |2,hj,hk =>
     simp[psB]at hj hk;subst hj;subst hk;exact⟨rfl,by rw[hp.p2,eD]⟩
    |3,hj,hk =>
     simp[psB]at hj hk;subst hj;subst hk;exact⟨rfl,by rw[hp.p3,lK]⟩
    |4,hj,hk =>
     simp[psB]at hj hk;subst hj;subst hk;exact⟨rfl,by rw[hp.p4,lx]⟩
   ·intro ρ al vals hA
    match vals,hA with
    |[v,u],⟨a,r,_⟩ =>
     refine⟨a,?_,trivial⟩;obtain⟨fs,cs,e,r1,r2⟩:=r;refine⟨fs,cs,e,?_,?_⟩
     ·match fs,r1 with
      |[y],r3=>exact r3
     ·match cs,r2 with
      |[],_=>trivial)
  (by
   intro h zs q' bs p hd hq;unfold bW at hd;split at hd
   case h_2=>cases hd
   split at hd
   case h_2=>cases hd
   split at hd
   case isFalse=>cases hd
   injection hd with hd;injection hd with e1 hd;injection hd with e2 e3;subst e1;subst e3;exact body _ hq)
def Ou (g:FuncId)(i:Nat×PsV):St:=⟨5,[(0,pv 0 0 0),(1,.fn g [.p 0 0 0] []),(4,iv (64-i.1:Nat))],aC 0 (psB i.2)⟩
theorem Ow (p:PsV)(h:BodyOk 1000 800 p):Sw f102 1 ⟨5,ax 0 [pv 0 0 0,.fn 149 [.p 0 0 0] []],aC 0 (psB p)⟩ (oR f102 1 (dh (bO (dm bV 63 p)))):=by
 refine aq [] rfl ?_;simp only[go_sem];refine bF (ι:=Nat×PsV) (fun i=>i.1≤63∧BodyOk 1000 (900-i.1) i.2∧dm bV i.1 i.2=dm bV 63 p) (Ou 149) (fun i=>i.1) (63,p) ⟨Nat.le_refl _,h.to (Nat.le_refl _) (show 800≤900-63 by decide),rfl⟩ ?_ ?_
 ·exact Mx (p:=p) 1 2 3 4 ⟨rfl,rfl,rfl,rfl,rfl,by decide⟩ rfl
 rintro⟨N,q⟩ ⟨hN,hk,hR⟩;simp only at hN hk hR;unfold Ou;refine aw [⟨_,Mt⟩,⟨_,sX⟩,⟨_,dG⟩] ?_;have hcom:¬(⟨#[44]⟩:ByteArray)=emp:=by decide
 have hk':BodyOk 1000 1000 q:=hk.to (Nat.le_refl _) (by omega);rcases hv:bV q with e | q1
 ·have hr:dm bV N q=.error e:=by unfold dm;rw[hv]
  rw[←hR,hr];simp only[go_sem,ah,hk',hv]
 ·obtain⟨g1,-⟩:=CL hk hv;by_cases hc:atF q1.l 4 0=cQ
  case neg =>
   have hc':¬atF q1.l 4 0=(⟨#[44]⟩:ByteArray):=hc;have hr:dm bV N q=.ok q1:=by unfold dm;rw[hv];simp only[if_neg hc]
   rw[←hR,hr];simp only[go_sem,az,hk',hv,hcom,hc',toNat_zero];exact eE (p:=q1) 21 22 23 24 rfl ⟨rfl,rfl,rfl,rfl,rfl,by decide⟩
  have hc':atF q1.l 4 0=(⟨#[44]⟩:ByteArray):=hc;have hl1:(1:Int)≤q1.l.length:=by have:=gQ (l:=q1.l) (k:=4) (n:=0) (by rw[hc];decide);omega
  cases N with
  |zero =>
   have hr:dm bV 0 q=.error 3:=by unfold dm;rw[hv];simp only[if_pos hc]
   rw[←hR,hr];simp only[go_sem,az,ah,hk',hv,hcom,hc',toNat_zero,Nat.sub_zero,Int.reduceEq]
  |succ M =>
   have hr:dm bV (M+1) q=dm bV M ⟨q1.l.drop 1,q1.s⟩:=by conv=>lhs;unfold dm;rw[hv];simp only[if_pos hc]
   rw[hr]at hR;have e64:(((64-(M+1):Nat):Int)=64)=False:=eq_false (by omega);have ew:IntKind.i64.wrap (((64-(M+1):Nat):Int)+1)=((64-M:Nat):Int):=by rw[IntKind.wrap_i64];omega
   have hd:=kL q1.l 1 (by omega);simp only[go_sem,az,hk',hv,hcom,hc',toNat_zero,e64,ew,hl1,hd,toNat_one];refine⟨(M,⟨q1.l.drop 1,q1.s⟩),⟨by omega,(kJ g1).to (Nat.le_refl _) (by omega),hR⟩,Nat.lt_succ_self M,?_⟩;exact Mx (p:=⟨q1.l.drop 1,q1.s⟩) 21 22 23 24 ⟨rfl,rfl,rfl,rfl,rfl,by decide⟩ rfl
theorem zi (args:Array Value)(w:World):(callFunc 102 args).run prog w=.ok (.enter 102 args) w:=by go_simp
def LQ:am prog 102 :=
 PF _ _ _ func102 rfl zi 149 (fun p=>BodyOk 1000 800 p) (fun p=>bO (dm bV 63 p)) (by rw[ntmps102];decide) Ow
theorem Ch {id:Nat}{h:ag}{args:List AV}:LQ.run id h args=jv 1 (bW 149 fun p=>BodyOk 1000 800 p) (fun p=>dh (bO (dm bV 63 p))) id h args:=rfl
theorem Cg {id:Nat}{h:ag}{args:List AV}:LQ.pan id h args=iT (bW 149 fun p=>BodyOk 1000 800 p) (fun p=>dh (bO (dm bV 63 p))) h args:=rfl
theorem JO (n:Int)(p:PsV)(h:BodyOk 1000 800 p):Sw f105 1 ⟨5,ax 0 [pv 0 0 0,iv n],aC 0 (psB p)⟩ (oR f105 1 (dh (bO (dA n p)))):=by
 refine aq [⟨_,LQ⟩] rfl ?_;have h2:BodyOk 1000 800 ⟨p.l,{ p.s with kind:=5,size:=n }⟩:=h.with h.toks rfl rfl;unfold dA;rcases hr:dm bV 63 ⟨p.l,{ p.s with kind:=5,size:=n }⟩ with e | q
 ·simp only[go_sem,ah,Ch,Cg,bW,List.head?_cons,h2,hr]
 ·simp only[go_sem,az,Ch,Cg,bW,List.head?_cons,h2,hr];exact eE (p:=q) 229 230 231 232 rfl ⟨rfl,rfl,rfl,rfl,rfl,by decide⟩
abbrev Do:am prog 105 :=
 xk _ _ _ func105 (asP rfl) (asP fun _ _=>by go_simp) (sh) ((fun _ p=>BodyOk 1000 800 p)) ((fun n p=>bO (dA n p))) (asP (by rw[ntmps105];decide)) (asP fun n p h=>JO n p h)
end
end Go.Proofs.YtnhbidpdadkcjaaGreatDoor
