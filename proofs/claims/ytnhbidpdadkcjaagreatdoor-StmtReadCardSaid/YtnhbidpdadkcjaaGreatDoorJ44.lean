import Derived.Test.YtnhbidpdadkcjaaGreatDoorJ39
import Derived.Test.YtnhbidpdadkcjaaGreatDoorJ42
open Go.RowKit
set_option linter.unusedVariables false
set_option linter.unusedSimpArgs false
set_option maxRecDepth 100000
set_option maxHeartbeats 8000000
open List (mem_cons getD_eq_getElem?_getD getElem?_cons_zero getElem?_cons_succ)
open Option (getD_some)
open Int (toNat_zero toNat_one)
namespace Go.Proofs.YtnhbidpdadkcjaaGreatDoor
open Tryz
section
open Ex (Xs xs0)
def fi (e:Int):Value:=.iface 85 (.agg #[.int .i64 e])
def mM (s:ByteArray):List LV:=[.v (.string s)]
def uO (v:Val):List LV:=[.v (.int .i64 v.add),.v (.string v.plus),.v (.string v.minus)]
def AH (z:Int):List LV:=[.v (.int .u8 z)]
def stK (l:List ByteArray):Blk:=⟨true,9,1,l.map mM⟩
def vlK (l:List Val):Blk:=⟨true,75,3,l.map uO⟩
def byK (l:List Int):Blk:=⟨true,5,1,l.map AH⟩
def psL (p:PsV)(lb nb vb bb:Nat):List LV :=
 [.d (.sd 4 (p.l.map lv.enc)),.sl lb 0 p.s.labels.length,.v (.int .i64 p.s.kind),.v (.string p.s.name),.d (.sd 15 (p.s.opers.map opR.enc)),.sl nb 0 p.s.names.length,.v (.int .i64 p.s.size),.sl vb 0 p.s.vals.length,.sl bb 0 p.s.bytes.length]
def psK (p:PsV)(lb nb vb bb:Nat):Blk:=⟨true,91,9,[psL p lb nb vb bb]⟩
def psB (p:PsV):List Blk:=[psK p 1 2 3 4,stK p.s.labels,stK p.s.names,vlK p.s.vals,byK p.s.bytes]
def rG:List LV→Option ByteArray
 |[.v (.string s)]=>some s
 |_=>none
theorem wv (c:List LV)(x:ByteArray)(h:rG c=some x):c=mM x:=by
 unfold rG at h;split at h
 ·injection h with h;subst h;rfl
 ·cases h
def tS:List LV→Option Val
 |[.v (.int .i64 a),.v (.string p),.v (.string m)]=>some ⟨a,p,m⟩
 |_=>none
theorem Ed (c:List LV)(x:Val)(h:tS c=some x):c=uO x:=by
 unfold tS at h;split at h
 ·injection h with h;subst h;rfl
 ·cases h
def tO:List LV→Option Int
 |[.v (.int .u8 z)]=>some z
 |_=>none
theorem D6 (c:List LV)(x:Int)(h:tO c=some x):c=AH x:=by
 unfold tO at h;split at h
 ·injection h with h;subst h;rfl
 ·cases h
theorem GP (l:List ByteArray):aY rG (l.map mM)=some l:=jv (d:=rG) (e:=mM) (fun _=>rfl) l
theorem GQ (l:List Val):aY tS (l.map uO)=some l:=jv (d:=tS) (e:=uO) (fun _=>rfl) l
theorem GO (l:List Int):aY tO (l.map AH)=some l:=jv (d:=tO) (e:=AH) (fun _=>rfl) l
def nU {α:Type}(d:List LV→Option α)(T:TypeId)(sz:Nat)(h:ai)(b:Nat):Option (List α):=match hget h b with
 |some ⟨true,T',sz',rows⟩=>if T'=T∧sz'=sz then aY d rows else none
 |_=>none
theorem rR {α:Type}{d:List LV→Option α}{e:α→List LV}(hi:∀c x,d c=some x→c=e x){T:TypeId}{sz:Nat}{h:ai}{b:Nat}{l:List α}(hr:nU d T sz h b=some l):hget h b=some ⟨true,T,sz,l.map e⟩:=by
 unfold nU at hr;split at hr
 ·rename_i T' sz' rows hb;split at hr
  ·rename_i hc;obtain⟨rfl,rfl⟩:=hc;rw[hb,jw hi hr]
  ·cases hr
 ·cases hr
theorem nq {α:Type}{d:List LV→Option α}{T:TypeId}{sz:Nat}{h h':ai}(hs:∀b k,hget h b=some k→hget h' b=some k){b:Nat}{l:List α}(hr:nU d T sz h b=some l):nU d T sz h' b=some l:=by
 unfold nU at hr ⊢;split at hr
 ·rename_i T' sz' rows hb;rw[hs _ _ hb];exact hr
 ·cases hr
structure PsC where
 ts:List (List D)
 os:List (List D)
 kind:Int
 name:ByteArray
 size:Int
 lb:Nat
 n1:Nat
 nb:Nat
 n2:Nat
 vb:Nat
 n3:Nat
 bb:Nat
 n4:Nat
def CG:List LV→Option PsC
 |[.d (.sd 4 ts),.sl lb 0 n1,.v (.int .i64 kind),.v (.string name),.d (.sd 15 os),.sl nb 0 n2,.v (.int .i64 size),.sl vb 0 n3,.sl bb 0 n4]=>some ⟨ts,os,kind,name,size,lb,n1,nb,n2,vb,n3,bb,n4⟩
 |_=>none
theorem GT {e:List LV}{c:PsC}(h:CG e=some c):e=[.d (.sd 4 c.ts),.sl c.lb 0 c.n1,.v (.int .i64 c.kind),.v (.string c.name),.d (.sd 15 c.os),.sl c.nb 0 c.n2,.v (.int .i64 c.size),.sl c.vb 0 c.n3,.sl c.bb 0 c.n4]:=by
 unfold CG at h;split at h
 ·injection h with h;subst h;rfl
 ·cases h
def tQ (h:ai):AV→Option (List Nat×PsV)
 |.s (.l (.p b 0 0))=>match hget h b with
  |some ⟨true,T,9,[e]⟩=>match CG e with
   |some c=>match dg lv.dec c.ts,dg opR.dec c.os,nU rG 9 1 h c.lb,nU rG 9 1 h c.nb,nU tS 75 3 h c.vb,nU tO 5 1 h c.bb with
    |some l,some o,some ls,some ns,some vs,some zs =>
     if T=91∧(c.n1=ls.length∧c.n2=ns.length∧c.n3=vs.length∧c.n4=zs.length)∧[b,c.lb,c.nb,c.vb,c.bb].Nodup then some ([b,c.lb,c.nb,c.vb,c.bb],⟨l,⟨ls,c.kind,c.name,o,ns,c.size,vs,zs⟩⟩) else none
    |_,_,_,_,_,_=>none
   |none=>none
  |_=>none
 |_=>none
structure Kb (h:ai)(b lb nb vb bb:Nat)(p:PsV):Prop where
 p0:hget h b=some (psK p lb nb vb bb)
 p1:hget h lb=some (stK p.s.labels)
 p2:hget h nb=some (stK p.s.names)
 p3:hget h vb=some (vlK p.s.vals)
 p4:hget h bb=some (byK p.s.bytes)
 nd:[b,lb,nb,vb,bb].Nodup
theorem tR {h:ai}{A:AV}{bs:List Nat}{p:PsV}(hd:tQ h A=some (bs,p)):∃b lb nb vb bb,A=pv b 0 0∧bs=[b,lb,nb,vb,bb]∧Kb h b lb nb vb bb p:=by
 unfold tQ at hd;split at hd
 case h_2=>cases hd
 rename_i b;split at hd
 case h_2=>cases hd
 rename_i T e hb;split at hd
 case h_2=>cases hd
 rename_i c hc;split at hd
 case h_2=>cases hd
 rename_i l o ls ns vs zs hl ho h1 h2 h3 h4;split at hd
 case isFalse=>cases hd
 rename_i hk;obtain⟨rfl,⟨e1,e2,e3,e4⟩,hn⟩:=hk;simp only[Option.some.injEq,Prod.mk.injEq]at hd;obtain⟨rfl,rfl⟩:=hd;refine⟨b,c.lb,c.nb,c.vb,c.bb,rfl,rfl,?_,rR wv h1,rR wv h2,rR Ed h3,rR D6 h4,hn⟩;rw[hb,GT hc,e1,e2,e3,e4,eh lv hl,eh opR ho];rfl
theorem pq {h h':ai}(hs:∀b k,hget h b=some k→hget h' b=some k){A:AV}{r:List Nat×PsV}(hd:tQ h A=some r):tQ h' A=some r:=by
 unfold tQ at hd ⊢;split at hd
 case h_2=>cases hd
 rename_i b;split at hd
 case h_2=>cases hd
 rename_i T e hb;split at hd
 case h_2=>cases hd
 rename_i c hc;split at hd
 case h_2=>cases hd
 rename_i l o ls ns vs zs hl ho h1 h2 h3 h4;simp only[hs _ _ hb,hc,hl,ho,nq hs h1,nq hs h2,nq hs h3,nq hs h4];exact hd
theorem dH (l:List ByteArray)(g:Nat→Nat):(stK l).ren g=stK l:=by
 unfold stK Blk.ren;simp[Function.comp_def,mM,LV.ren]
theorem ny (l:List Val)(g:Nat→Nat):(vlK l).ren g=vlK l:=by
 unfold vlK Blk.ren;simp[Function.comp_def,uO,LV.ren]
theorem mZ (l:List Int)(g:Nat→Nat):(byK l).ren g=byK l:=by
 unfold byK Blk.ren;simp[Function.comp_def,AH,LV.ren]
theorem QG (l:List ByteArray)(g:Nat→Nat):List.map (fun x=>List.map (fun x=>LV.ren g x) x) (l.map mM)=l.map mM:=by
 simp[Function.comp_def,mM,LV.ren]
theorem Q6 (l:List Val)(g:Nat→Nat):List.map (fun x=>List.map (fun x=>LV.ren g x) x) (l.map uO)=l.map uO:=by
 simp[Function.comp_def,uO,LV.ren]
theorem NR (l:List Int)(g:Nat→Nat):List.map (fun x=>List.map (fun x=>LV.ren g x) x) (l.map AH)=l.map AH:=by
 simp[Function.comp_def,AH,LV.ren]
theorem np (p:PsV)(lb nb vb bb:Nat)(g:Nat→Nat):(psK p lb nb vb bb).ren g=psK p (g lb) (g nb) (g vb) (g bb):=rfl
def eN:Except Int (AV×PsV)→RO
 |.ok (r,p)=>.ret r [some (psK p 1 2 3 4)] [stK p.s.labels,stK p.s.names,vlK p.s.vals,byK p.s.bytes]
 |.error e=>.pan (fi e)
theorem PJ {r:AV}{p:PsV}:eN (.ok (r,p))=.ret r [some (psK p 1 2 3 4)] [stK p.s.labels,stK p.s.names,vlK p.s.vals,byK p.s.bytes]:=rfl
theorem Fd {e:Int}:eN (.error e)=.pan (fi e):=rfl
def cx:Except Int PsV→Except Int (AV×PsV)
 |.ok p=>.ok (jI,p)
 |.error e=>.error e
def jV {X:Type}(T:Xs X)(q:X→PsV→Prop)(h:ai):List AV→Option (Prop×List Nat×(X×PsV))
 |A::zs=>match tQ h A,T.dec zs with
  |some (bs,p),some x=>some (q x p,bs,(x,p))
  |_,_=>none
 |[]=>none
def AM {X:Type}(f:FuncId)(fn:Func)(c:Code)(hf:Tryz.prog.funcs[f]? = some fn)(hb:fn.body=some c)
  (hen:∀(args:Array Value) (w:World),(callFunc f args).run prog w=.ok (.enter f args) w) (T:Xs X) (q:X→PsV→Prop) (F:X→PsV→Except Int (AV×PsV)) (hn:T.len+1≤fn.ntmps)
  (body:∀x p,q x p→SW prog ⟨none,1⟩ fn.ntmps c ⟨5,aA 0 (pv 0 0 0::T.enc x),aN 0 (psB p)⟩ (xm prog fn.results.toList 1 (eN (F x p)))):ao prog f :=
 mkR 1 5 (by decide) f fn c hf hb hen (jV T q) (fun x=>pv 0 0 0::T.enc x.1) (fun x=>psB x.2) (fun x=>eN (F x.1 x.2))
  (by
   intro h h' args r hs hd;unfold jV at hd ⊢;split at hd
   ·split at hd
    ·rename_i h1 h2;rw[pq hs h1,h2];exact hd
    ·cases hd
   ·cases hd)
  (by
   intro h zs q' bs x hd hq;unfold jV at hd;split at hd
   case h_2=>cases hd
   rename_i A zs';split at hd
   case h_2=>cases hd
   rename_i bs' p x' h1 h2;injection hd with hd;injection hd with e1 hd;injection hd with e2 e3;subst e2;subst e3;obtain⟨b,lb,nb,vb,bb,rfl,rfl,hp⟩:=tR h1;refine⟨by rw[List.length_cons,T.enc_len];exact hn,rfl,rfl,hp.nd,fun d=>⟨?_,?_⟩⟩
   ·intro j b' k hj hk
    match j,hj,hk with
    |0,hj,hk =>
     simp[psB]at hj hk;subst hj;subst hk;exact⟨rfl,by rw[hp.p0,np];rfl⟩
    |1,hj,hk =>
     simp[psB]at hj hk;subst hj;subst hk;exact⟨rfl,by rw[hp.p1,dH]⟩
    |2,hj,hk =>
     simp[psB]at hj hk;subst hj;subst hk;exact⟨rfl,by rw[hp.p2,dH]⟩
    |3,hj,hk =>
     simp[psB]at hj hk;subst hj;subst hk;exact⟨rfl,by rw[hp.p3,ny]⟩
    |4,hj,hk =>
     simp[psB]at hj hk;subst hj;subst hk;exact⟨rfl,by rw[hp.p4,mZ]⟩
   ·intro ρ al vals hA
    match vals,hA with
    |v::vs,⟨a,r⟩=>exact⟨a,T.ok (al:=al) h2 (Mem.le_refl _) r⟩)
  (by
   intro h zs q' bs x hd hq;unfold jV at hd;split at hd
   case h_2=>cases hd
   split at hd
   case h_2=>cases hd
   injection hd with hd;injection hd with e1 hd;injection hd with e2 e3;subst e1;subst e3;exact body _ _ hq)
def lG:Except Int (AV×PsV)→RO
 |.ok (r,p)=>.ret r [some (psK p 1 2 3 4),some (stK p.s.labels),some (stK p.s.names),some (vlK p.s.vals),some (byK p.s.bytes)] []
 |.error e=>.pan (fi e)
theorem PK {r:AV}{p:PsV}:lG (.ok (r,p))=.ret r [some (psK p 1 2 3 4),some (stK p.s.labels),some (stK p.s.names),some (vlK p.s.vals),some (byK p.s.bytes)] []:=rfl
theorem Fe {e:Int}:lG (.error e)=.pan (fi e):=rfl
def OZ {X:Type}(f:FuncId)(fn:Func)(c:Code)(hf:Tryz.prog.funcs[f]? = some fn)(hb:fn.body=some c)
  (hen:∀(args:Array Value) (w:World),(callFunc f args).run prog w=.ok (.enter f args) w) (T:Xs X) (q:X→PsV→Prop) (F:X→PsV→Except Int (AV×PsV)) (hn:T.len+1≤fn.ntmps)
  (body:∀x p,q x p→SW prog ⟨none,5⟩ fn.ntmps c ⟨5,aA 0 (pv 0 0 0::T.enc x),aN 0 (psB p)⟩ (xm prog fn.results.toList 5 (lG (F x p)))):ao prog f :=
 mkR 5 5 (by decide) f fn c hf hb hen (jV T q) (fun x=>pv 0 0 0::T.enc x.1) (fun x=>psB x.2) (fun x=>lG (F x.1 x.2))
  (by
   intro h h' args r hs hd;unfold jV at hd ⊢;split at hd
   ·split at hd
    ·rename_i h1 h2;rw[pq hs h1,h2];exact hd
    ·cases hd
   ·cases hd)
  (by
   intro h zs q' bs x hd hq;unfold jV at hd;split at hd
   case h_2=>cases hd
   rename_i A zs';split at hd
   case h_2=>cases hd
   rename_i bs' p x' h1 h2;injection hd with hd;injection hd with e1 hd;injection hd with e2 e3;subst e2;subst e3;obtain⟨b,lb,nb,vb,bb,rfl,rfl,hp⟩:=tR h1;refine⟨by rw[List.length_cons,T.enc_len];exact hn,rfl,rfl,hp.nd,fun d=>⟨?_,?_⟩⟩
   ·intro j b' k hj hk
    match j,hj,hk with
    |0,hj,hk =>
     simp[psB]at hj hk;subst hj;subst hk;exact⟨rfl,by rw[hp.p0,np];rfl⟩
    |1,hj,hk =>
     simp[psB]at hj hk;subst hj;subst hk;exact⟨rfl,by rw[hp.p1,dH]⟩
    |2,hj,hk =>
     simp[psB]at hj hk;subst hj;subst hk;exact⟨rfl,by rw[hp.p2,dH]⟩
    |3,hj,hk =>
     simp[psB]at hj hk;subst hj;subst hk;exact⟨rfl,by rw[hp.p3,ny]⟩
    |4,hj,hk =>
     simp[psB]at hj hk;subst hj;subst hk;exact⟨rfl,by rw[hp.p4,mZ]⟩
   ·intro ρ al vals hA
    match vals,hA with
    |v::vs,⟨a,r⟩=>exact⟨a,T.ok (al:=al) h2 (Mem.le_refl _) r⟩)
  (by
   intro h zs q' bs x hd hq;unfold jV at hd;split at hd
   case h_2=>cases hd
   split at hd
   case h_2=>cases hd
   injection hd with hd;injection hd with e1 hd;injection hd with e2 e3;subst e1;subst e3;exact body _ _ hq)
theorem gq {p:PsV}{r:AV}{st:St}(lb nb vb bb:Nat)(hr:r.plain=true)(hp:Kb st.h 0 lb nb vb bb p):oA 1 st (eN (.ok (r,p))) (some r):=by
 refine⟨hr,[some (psK p 1 2 3 4)],[stK p.s.labels,stK p.s.names,vlK p.s.vals,byK p.s.bytes],rfl,rfl,by simp,by simp[psK],by simp[stK,vlK,byK],Wk.ren [0,lb,nb,vb,bb] (by intro j hj;have:j=0:=(by simpa using hj);subst this;rfl) (Nat.le_refl _) hp.nd (fun p hp=>by cases hp) ?_⟩;intro q hq k hk;simp only[gh,aN,List.cons_append,List.nil_append,mem_cons,List.not_mem_nil,or_false]at hq;rcases hq with rfl | rfl | rfl | rfl | rfl
 ·simp only[Option.some.injEq]at hk;subst hk;simp only[getD_eq_getElem?_getD,getElem?_cons_zero,getD_some,hp.p0,np];rfl
 ·simp only[Option.some.injEq]at hk;subst hk;simp only[getD_eq_getElem?_getD,getElem?_cons_succ,getElem?_cons_zero,getD_some,hp.p1,dH]
 ·simp only[Option.some.injEq]at hk;subst hk;simp only[getD_eq_getElem?_getD,getElem?_cons_succ,getElem?_cons_zero,getD_some,hp.p2,dH]
 ·simp only[Option.some.injEq]at hk;subst hk;simp only[getD_eq_getElem?_getD,getElem?_cons_succ,getElem?_cons_zero,getD_some,hp.p3,ny]
 ·simp only[Option.some.injEq]at hk;subst hk;simp only[getD_eq_getElem?_getD,getElem?_cons_succ,getElem?_cons_zero,getD_some,hp.p4,mZ]
theorem y7 {p:PsV}{r:AV}{st:St}(hr:r.plain=true)(hp:Kb st.h 0 1 2 3 4 p):oA 5 st (lG (.ok (r,p))) (some r):=by
 refine⟨hr,[some (psK p 1 2 3 4),some (stK p.s.labels),some (stK p.s.names),some (vlK p.s.vals),some (byK p.s.bytes)],[],rfl,rfl,by simp,by simp[psK,stK,vlK,byK],by simp,Wk.ren [0,1,2,3,4] (by intro j hj;match j,hj with | 0,_=>rfl | 1,_=>rfl | 2,_=>rfl | 3,_=>rfl | 4,_=>rfl) (Nat.le_refl _) hp.nd (fun p hp=>by cases hp) ?_⟩;intro q hq k hk;simp only[gh,aN,List.cons_append,List.nil_append,mem_cons,List.not_mem_nil,or_false]at hq;rcases hq with rfl | rfl | rfl | rfl | rfl
 ·simp only[Option.some.injEq]at hk;subst hk;simp only[getD_eq_getElem?_getD,getElem?_cons_zero,getD_some,hp.p0,np];rfl
 ·simp only[Option.some.injEq]at hk;subst hk;simp only[getD_eq_getElem?_getD,getElem?_cons_succ,getElem?_cons_zero,getD_some,hp.p1,dH]
 ·simp only[Option.some.injEq]at hk;subst hk;simp only[getD_eq_getElem?_getD,getElem?_cons_succ,getElem?_cons_zero,getD_some,hp.p2,dH]
 ·simp only[Option.some.injEq]at hk;subst hk;simp only[getD_eq_getElem?_getD,getElem?_cons_succ,getElem?_cons_zero,getD_some,hp.p3,ny]
 ·simp only[Option.some.injEq]at hk;subst hk;simp only[getD_eq_getElem?_getD,getElem?_cons_succ,getElem?_cons_zero,getD_some,hp.p4,mZ]
@[go_sem] theorem mkPr_rn {X:Type} {T:Xs X} {f fn c hf hb hen q G hn body id h args}:(AM f fn c hf hb hen T q G hn body).run id h args=kM 1 (jV T q) (fun x=>eN (G x.1 x.2)) id h args:=rfl
@[go_sem] theorem mkPr_pn {X:Type} {T:Xs X} {f fn c hf hb hen q G hn body id h args}:(AM f fn c hf hb hen T q G hn body).pan id h args=kf (jV T q) (fun x=>eN (G x.1 x.2)) h args:=rfl
@[go_sem] theorem mkPt_rn {X:Type} {T:Xs X} {f fn c hf hb hen q G hn body id h args}:(OZ f fn c hf hb hen T q G hn body).run id h args=kM 5 (jV T q) (fun x=>lG (G x.1 x.2)) id h args:=rfl
@[go_sem] theorem mkPt_pn {X:Type} {T:Xs X} {f fn c hf hb hen q G hn body id h args}:(OZ f fn c hf hb hen T q G hn body).pan id h args=kf (jV T q) (fun x=>lG (G x.1 x.2)) h args:=rfl
end
section
open Ex (Xs xs0)
def fk:ao prog 46 :=
 mz1 func46 (bN .i64) ((fun _=>True)) ((fun e=>.pan (fi e))) (fun e _=>by
 refine aq [] rfl ?_;simp only[go_sem,fi])
theorem MJ {id:Nat}{h:ai}{args:List AV}:(fk).run id h args=iV (eg (bN .i64) ((fun _=>True))) ((fun e=>.pan (fi e))) h args:=rfl
theorem MI {id:Nat}{h:ai}{args:List AV}:(fk).pan id h args=iR (eg (bN .i64) ((fun _=>True))) ((fun e=>.pan (fi e))) h args:=rfl
theorem XU (k:Int)(m:Nat)(p:PsV):Sw f96 5 ⟨5,aA 0 [pv 0 0 0,iv k,iv m],aN 0 (psB p)⟩ (oR f96 5 (lG (.ok (bv (isF p.l k m),p)))):=by
 refine aq [] rfl ?_;rcases hl:p.l[m]? with _ | t
 ·have hlt:¬(m:Int)<p.l.length:=by have:=List.getElem?_eq_none_iff.1 hl;omega
  have e:isF p.l k m=false:=by unfold isF;rw[hl]
  rw[e];simp only[go_sem,psB,psK,psL,hlt];exact y7 rfl ⟨rfl,rfl,rfl,rfl,rfl,by decide⟩
 ·have hlt:(m:Int)<p.l.length:=by have:=(List.getElem?_eq_some_iff.1 hl).1;omega
  have e:isF p.l k m=decide (t.kind=k):=by unfold isF;rw[hl]
  rw[e];simp only[go_sem,psB,psK,psL,hlt,hl,lu];exact y7 rfl ⟨rfl,rfl,rfl,rfl,rfl,by decide⟩
def OF:ao prog 96 :=
 OZ _ _ _ func96 rfl (fun _ _=>by go_simp) (xs2) ((fun x _=>0≤x.2)) ((fun x p=>.ok (bv (isF p.l x.1 x.2.toNat),p))) (by rw[ntmps96];decide) (fun x p h=>by
 obtain⟨k,n⟩:=x;obtain⟨m,rfl⟩:=Int.eq_ofNat_of_zero_le h;exact XU k m p)
theorem SK {id:Nat}{h:ai}{args:List AV}:(OF).run id h args=kM 5 (jV (xs2) ((fun x _=>0≤x.2))) (fun x=>lG (((fun x p=>.ok (bv (isF p.l x.1 x.2.toNat),p))) x.1 x.2)) id h args:=rfl
theorem SJ {id:Nat}{h:ai}{args:List AV}:(OF).pan id h args=kf (jV (xs2) ((fun x _=>0≤x.2))) (fun x=>lG (((fun x p=>.ok (bv (isF p.l x.1 x.2.toNat),p))) x.1 x.2)) h args:=rfl
def Uh:Xs (ByteArray×Int) where
 dec:=fun | [.s (.l (.v (.string a))),.s (.l (.v (.int .i64 b)))]=>some (a,b) | _=>none
 enc:=fun t=>[sv t.1,iv t.2]
 len:=2
 enc_len:=fun _=>rfl
 ok:=by
  intro zs x h ρ ρ' al al' vals hM hA;split at h
  ·injection h with h;subst h
   match vals,hA with
   |[v,u],⟨a,b,_⟩=>exact⟨a,b,trivial⟩
  ·cases h
theorem Xr {l:List Tok}{k:Int}{n:Nat}:isF l k n=false→atF l k n=emp:=by
 unfold isF atF;intro h;split at h
 ·rename_i t ht;rw[ht];simp only;rw[if_neg (of_decide_eq_false h)]
 ·rename_i ht;rw[ht]
attribute [go_sem] psB psK psL jV tQ CG nU GP GQ GO stK vlK byK Uh PJ Fd PK Fe QG Q6 NR List.nodup_cons not_or List.nodup_nil
theorem PX (s:ByteArray)(m:Nat)(p:PsV)(hs:¬s=emp):Sw f97 5 ⟨5,aA 0 [pv 0 0 0,sv s,iv m],aN 0 (psB p)⟩ (oR f97 5 (lG (.ok (bv (decide (atF p.l 4 m=s)),p)))):=by
 refine aq [⟨_,OF⟩] rfl ?_;have h0:(0:Int)≤m:=by omega
 cases hi:isF p.l 4 m with
 |false =>
  have e:decide (atF p.l 4 m=s)=false:=by rw[Xr hi];exact decide_eq_false fun h=>hs h.symm
  rw[e];simp only[go_sem,SK,SJ,h0,hi];exact y7 rfl ⟨rfl,rfl,rfl,rfl,rfl,by decide⟩
 |true =>
  have hlt:(m:Int)<p.l.length:=by have:=yV hi;omega
  rcases hl:p.l[m]? with _ | t
  ·have:=List.getElem?_eq_none_iff.1 hl;omega
  have hk:t.kind=4:=by unfold isF at hi;rw[hl]at hi;exact of_decide_eq_true hi
  have e:atF p.l 4 m=t.text:=by unfold atF;rw[hl];simp only[if_pos hk]
  rw[e];simp only[go_sem,SK,SJ,h0,hi,hlt,hl,lu];exact y7 rfl ⟨rfl,rfl,rfl,rfl,rfl,by decide⟩
def vG:ao prog 97 :=
 OZ _ _ _ func97 rfl (fun _ _=>by go_simp) (Uh) ((fun x _=>¬x.1=emp∧0≤x.2)) ((fun x p=>.ok (bv (decide (atF p.l 4 x.2.toNat=x.1)),p))) (by rw[ntmps97];decide) (fun x p h=>by
 obtain⟨s,n⟩:=x;obtain⟨m,rfl⟩:=Int.eq_ofNat_of_zero_le h.2;exact PX s m p h.1)
theorem Ml {id:Nat}{h:ai}{args:List AV}:(vG).run id h args=kM 5 (jV (Uh) ((fun x _=>¬x.1=emp∧0≤x.2))) (fun x=>lG (((fun x p=>.ok (bv (decide (atF p.l 4 x.2.toNat=x.1)),p))) x.1 x.2)) id h args:=rfl
theorem Mk {id:Nat}{h:ai}{args:List AV}:(vG).pan id h args=kf (jV (Uh) ((fun x _=>¬x.1=emp∧0≤x.2))) (fun x=>lG (((fun x p=>.ok (bv (decide (atF p.l 4 x.2.toNat=x.1)),p))) x.1 x.2)) h args:=rfl
def jF (k e:Int)(p:PsV):Except Int (AV×PsV):=match nextF k e p.l with
 |.ok (t,l)=>.ok (sv t,⟨l,p.s⟩)
 |.error e=>.error e
theorem C8 (k e:Int)(p:PsV):Sw f45 5 ⟨5,aA 0 [pv 0 0 0,iv k,iv e],aN 0 (psB p)⟩ (oR f45 5 (lG (jF k e p))):=by
 refine aq [⟨_,OF⟩,⟨_,fk⟩] rfl ?_;cases hi:isF p.l k 0 with
 |false =>
  have e1:jF k e p=.error e:=by unfold jF nextF;rw[hi];rfl
  rw[e1];simp only[go_sem,SK,SJ,hi,toNat_zero,MJ,MI]
 |true =>
  have h1:(0:Int)<p.l.length:=by have:=yV hi;omega
  have h2:(1:Int)≤p.l.length:=by omega
  rcases hl:p.l[0]? with _ | t
  ·have:=List.getElem?_eq_none_iff.1 hl;omega
  have hk:t.kind=k:=by unfold isF at hi;rw[hl]at hi;exact of_decide_eq_true hi
  have e0:atF p.l k 0=t.text:=by unfold atF;rw[hl];simp only[if_pos hk]
  have e1:jF k e p=.ok (sv t.text,⟨p.l.drop 1,p.s⟩):=by unfold jF nextF;rw[hi,e0];rfl
  rw[e1];simp only[go_sem,SK,SJ,hi,toNat_zero,h1,h2,hl,lu,mo p.l 1 (by omega),toNat_one];exact y7 (p:=⟨p.l.drop 1,p.s⟩) rfl ⟨rfl,rfl,rfl,rfl,rfl,by decide⟩
def mB:ao prog 45 :=
 OZ _ _ _ func45 rfl (fun _ _=>by go_simp) (xs2) ((fun _ _=>True)) ((fun x p=>jF x.1 x.2 p)) (by rw[ntmps45];decide) (fun x p _=>C8 x.1 x.2 p)
theorem LH {id:Nat}{h:ai}{args:List AV}:(mB).run id h args=kM 5 (jV (xs2) ((fun _ _=>True))) (fun x=>lG (((fun x p=>jF x.1 x.2 p)) x.1 x.2)) id h args:=rfl
theorem LG {id:Nat}{h:ai}{args:List AV}:(mB).pan id h args=kf (jV (xs2) ((fun _ _=>True))) (fun x=>lG (((fun x p=>jF x.1 x.2 p)) x.1 x.2)) h args:=rfl
end
section
open Ex (Xs xs0)
theorem Nd (l:List Val)(v:Val):l.map uO++[[.v (.int .i64 v.add),.v (.string v.plus),.v (.string v.minus)]]=(l++[v]).map uO:=by
 rw[List.map_append];rfl
theorem aF {p:PsV}:cx (.ok p)=.ok (jI,p):=rfl
theorem am {e:Int}:cx (.error e)=.error e:=rfl
attribute [go_sem] MJ MI SK SJ Ml Mk LH LG
theorem Ud (p:PsV)(h:BodyOk 1000 1000 p):Sw f149 1 ⟨5,aA 0 [pv 0 0 0],aN 0 (psB p)⟩ (oR f149 1 (eN (cx (valR2 p)))):=by
 refine aq [⟨_,Ex.parseS⟩,⟨_,Ex.evalS⟩,⟨_,fk⟩] rfl ?_;have hn:=Ex.parseF_nice h.toks.named;have hl6:=h.toks.few;rcases hp:Ex.parseF p.l with e | s
 ·rw[hp]at hn;have hne:¬e=0:=hn;have hv:valR2 p=.error e:=by unfold valR2 valueR;rw[hp]
  rw[hv];simp only[go_sem,am,Ex.parse_run,Ex.parse_pan,Ex.outParse,hl6,hp,hne]
 ·rw[hp]at hn;obtain⟨g1,g2,g3,g4,g5⟩:=hn;have q2:s.ts.length≤1099511627776:=by omega
  have q3:∀t∈s.ts,t.sym.size≤140737488355328:=fun t ht=>by have:=Ex.termB_size (g2 t ht);omega
  have q4:(s.at_:Int)≤p.l.length:=by omega
  have q5:(0:Int)≤s.at_:=by omega
  rcases hev:Ex.evalAll s.ts with ⟨⟨va,vp,vm⟩,x⟩;by_cases hx:x=0
  ·subst hx;have hv:valR2 p=.ok ⟨p.l.drop s.at_,{ p.s with vals:=p.s.vals++[⟨va,vp,vm⟩] }⟩:=by unfold valR2 valueR;rw[hp];simp only[hev,if_true]
   rw[hv];have m1:p.s.vals.length+1≤maxLen:=by have:=h.vals;unfold maxLen;omega
   have m2:(p.s.vals.length+1)*40≤140737488355328:=by have:=h.vals;omega
   have hd:=mo p.l s.at_ (by omega);simp only[go_sem,aF,Ex.parse_run,Ex.parse_pan,Ex.outParse,hl6,hp,Ex.eval_pan,Ex.outEval,hev,q2,q4,q5,hd];refine⟨q3,?_⟩;refine sD mixed [] [8,12] ?_;simp only[go_sem,m1,m2];refine gq (p:=⟨p.l.drop s.at_,{ p.s with vals:=p.s.vals++[⟨va,vp,vm⟩] }⟩) 1 2 677 4 rfl ⟨?_,rfl,rfl,?_,rfl,by decide⟩
   ·rw[psK,psL,List.length_append];rfl
   ·rw[vlK,←Nd];rfl
  ·have hv:valR2 p=.error x:=by unfold valR2 valueR;rw[hp];simp only[hev,if_neg hx]
   rw[hv];simp only[go_sem,am,Ex.parse_run,Ex.parse_pan,Ex.outParse,hl6,hp,Ex.eval_pan,Ex.outEval,hev,q2,hx];exact q3
abbrev Q4:ao prog 149 :=
 AM _ _ _ func149 (asP rfl) (asP fun _ _=>by go_simp) (xs0) ((fun _ p=>BodyOk 1000 1000 p)) ((fun _ p=>cx (valR2 p))) (asP (by rw[ntmps149];decide)) (asP fun _ p h=>Ud p h)
abbrev EG:ao prog 60 :=
 mz1 func60 (lr mQ) ((fun _=>True)) ((fun v=>.ret (bv (gp v)))) (asP fun v _=>by
 refine aq [] rfl ?_;obtain⟨a,p,m⟩:=v
 have e:gp ⟨a,p,m⟩=(decide (p=emp)&&(decide (m=emp)&&(decide (0≤a)&&decide (a≤12)))):=by
  unfold gp;rw[Bool.eq_iff_iff];simp only[decide_eq_true_eq,Bool.and_eq_true,and_assoc]
 rw[e];by_cases h1:p=emp
 ·by_cases h2:m=emp
  ·by_cases h3:0≤a
   ·simp only[go_sem,se,ac,eq_true h1,eq_true h2,eq_true h3]
   ·simp only[go_sem,se,ac,eq_true h1,eq_true h2,h3,Bool.false_and]
  ·simp only[go_sem,se,ac,eq_true h1,h2,Bool.false_and]
 ·simp only[go_sem,se,ac,h1,Bool.false_and])
end
section
open Ex (Xs xs0)
theorem Kl (p:PsV)(h:BodyOk 1000 1000 p)(h0:p.s.vals=[]):Sw f103 1 ⟨5,aA 0 [pv 0 0 0],aN 0 (psB p)⟩ (oR f103 1 (eN (cx (i6 p)))):=by
 refine aq [⟨_,Q4⟩,⟨_,EG⟩,⟨_,fk⟩] rfl ?_;rcases hv:valueR p.l with e | ⟨⟨va,vp,vm⟩,l⟩
 ·have h1:valR2 p=.error e:=by unfold valR2;rw[hv]
  have h2:i6 p=.error e:=by unfold i6;rw[h1]
  rw[h2];simp only[go_sem,h,h1,am]
 ·have h1:valR2 p=.ok ⟨l,{ p.s with vals:=[⟨va,vp,vm⟩] }⟩:=by unfold valR2;rw[hv,h0];rfl
  have h2:i6 p=if gp ⟨va,vp,vm⟩=true then .ok ⟨l,{ p.s with vals:=[⟨va,vp,vm⟩] }⟩ else .error 7:=by unfold i6;rw[h1];rfl
  cases ha:gp ⟨va,vp,vm⟩ with
  |true =>
   rw[h2,if_pos ha];simp only[go_sem,h,h1,aF,uO,bZ,ha];exact gq (p:=⟨l,{ p.s with vals:=[⟨va,vp,vm⟩] }⟩) 21 22 23 24 rfl ⟨rfl,rfl,rfl,rfl,rfl,by decide⟩
  |false =>
   rw[h2,if_neg (by rw[ha];decide)];simp only[go_sem,h,h1,aF,am,uO,bZ,ha]
abbrev jP:ao prog 103 :=
 AM _ _ _ func103 (asP rfl) (asP fun _ _=>by go_simp) (xs0) ((fun _ p=>BodyOk 1000 1000 p∧p.s.vals=[])) ((fun _ p=>cx (i6 p))) (asP (by rw[ntmps103];decide)) (asP fun _ p h=>Kl p h.1 h.2)
theorem Kw (p:PsV)(h:∀t∈p.l,t.text.size≤1000000):Sw f108 1 ⟨5,aA 0 [pv 0 0 0],aN 0 (psB p)⟩ (oR f108 1 (eN (cx (jo p)))):=by
 refine aq [⟨_,mB⟩] rfl ?_;rcases hv:nextF 3 112 p.l with e | ⟨t,l⟩
 ·have h1:jo p=.error e:=by unfold jo;rw[hv]
  have h2:jF 3 112 p=.error e:=by unfold jF;rw[hv]
  rw[h1];simp only[go_sem,h2,am]
 ·have h1:jo p=.ok ⟨l,{ p.s with bytes:=aa t }⟩:=by unfold jo;rw[hv]
  have h2:jF 3 112 p=.ok (sv t,⟨l,p.s⟩):=by unfold jF;rw[hv]
  have hz:t.size≤maxLen:=by
   have e:t=atF p.l 3 0:=by
    unfold nextF at hv;split at hv
    ·injection hv with hv;injection hv with hv;exact hv.symm
    ·cases hv
   rw[e];unfold atF maxLen;split
   ·rename_i u hu;split
    ·have:=h u (List.mem_of_getElem? hu);omega
    ·show(0:Nat)≤_;omega
   ·show(0:Nat)≤_;omega
  rw[h1];simp only[go_sem,h2,aF];refine⟨hz,gq (p:=⟨l,{ p.s with bytes:=aa t }⟩) 1 2 3 53 rfl ⟨?_,rfl,rfl,rfl,rfl,by decide⟩⟩;rw[psK,psL,ae];rfl
abbrev jS:ao prog 108 :=
 AM _ _ _ func108 (asP rfl) (asP fun _ _=>by go_simp) (xs0) ((fun _ p=>∀t∈p.l,t.text.size≤1000000)) ((fun _ p=>cx (jo p))) (asP (by rw[ntmps108];decide)) (asP fun _ p h=>Kw p h)
end
section
open Ex (Xs xs0)
theorem pc (l:List ByteArray)(s:ByteArray):l.map mM++[[.v (.string s)]]=(l++[s]).map mM:=by
 rw[List.map_append];rfl
theorem Q8 {p:PsV}{st:St}{X:dP}(lb nb vb bb:Nat)(hp:Kb st.h 0 lb nb vb bb p)(hX:X.map (fun p=>bQ st.t p.1)=X.map fun p=>p.2.ren fun j=>[0,lb,nb,vb,bb].getD j st.nx):Wk ⟨none,1⟩ st ⟨5,X,aN 0 (psB p)⟩:=by
 refine Wk.ren [0,lb,nb,vb,bb] (by intro j hj;have:j=0:=(by simpa using hj);subst this;rfl) (Nat.le_refl _) hp.nd (fun p hp=>List.map_inj_left.1 hX p hp) ?_;intro q hq k hk;simp only[psB,aN,mem_cons,List.not_mem_nil,or_false]at hq;rcases hq with rfl | rfl | rfl | rfl | rfl
 ·simp only[Option.some.injEq]at hk;subst hk;simp only[getD_eq_getElem?_getD,getElem?_cons_zero,getD_some,hp.p0,np];rfl
 ·simp only[Option.some.injEq]at hk;subst hk;simp only[getD_eq_getElem?_getD,getElem?_cons_succ,getElem?_cons_zero,getD_some,hp.p1,dH]
 ·simp only[Option.some.injEq]at hk;subst hk;simp only[getD_eq_getElem?_getD,getElem?_cons_succ,getElem?_cons_zero,getD_some,hp.p2,dH]
 ·simp only[Option.some.injEq]at hk;subst hk;simp only[getD_eq_getElem?_getD,getElem?_cons_succ,getElem?_cons_zero,getD_some,hp.p3,ny]
 ·simp only[Option.some.injEq]at hk;subst hk;simp only[getD_eq_getElem?_getD,getElem?_cons_succ,getElem?_cons_zero,getD_some,hp.p4,mZ]
def VA (s:StV)(i:Nat×List ByteArray×List Tok):St:=⟨5,[(0,pv 0 0 0)],aN 0 (psB ⟨i.2.2,{ s with labels:=i.2.1 }⟩)⟩
def y4 (s:StV)(r:Except Int (List ByteArray×List Tok)):Except Int (AV×PsV):=match r with
 |.ok (ls,l)=>.ok (jI,⟨l,{ s with labels:=ls }⟩)
 |.error e=>.error e
theorem Lk (p:PsV)(h:RdOk p.l)(h0:p.s.labels=[]):Sw f44 1 ⟨5,aA 0 [pv 0 0 0],aN 0 (psB p)⟩ (oR f44 1 (eN (y4 p.s (labelsF p.l.length [] p.l)))):=by
 refine aq [] rfl ?_;simp only[go_sem];refine bm (ι:=Nat×List ByteArray×List Tok) (fun i=>i.2.2.length≤i.1∧RdOk i.2.2∧i.2.1.length≤8∧labelsF i.1 i.2.1 i.2.2=labelsF p.l.length [] p.l) (VA p.s) (fun i=>i.1) (p.l.length,[],p.l) ⟨Nat.le_refl _,h,Nat.zero_le _,rfl⟩ ?_ ?_
 ·refine Wk.renL [0,1,2,3,4] (by intro j hj;have:j=0:=(by simpa using hj);subst this;rfl) (Nat.le_refl 5) (by decide) rfl ?_;simp only[VA,go_sem,h0]
 rintro⟨N,out,l⟩ ⟨hN,hk,h8,hR⟩;simp only at hN hk h8 hR;unfold VA;refine aw [⟨_,OF⟩,⟨_,vG⟩,⟨_,fk⟩] ?_;have hcol:¬(⟨#[58]⟩:ByteArray)=emp:=by decide
 cases hi:isF l 1 0 with
 |false =>
  have e:labelsF N out l=.ok (out,l):=by
   cases N with
   |zero=>rfl
   |succ N=>unfold labelsF;rw[if_neg (by rw[hi];rintro⟨h,-⟩;cases h)]
  rw[←hR,e];simp only[go_sem,y4,hi,hcol,toNat_zero,toNat_one];exact gq (p:=⟨l,{ p.s with labels:=out }⟩) 1 2 3 4 rfl ⟨rfl,rfl,rfl,rfl,rfl,by decide⟩
 |true =>
  by_cases hc:atF l 4 1=aC
  case neg =>
   have e:labelsF N out l=.ok (out,l):=by
    cases N with
    |zero=>rfl
    |succ N=>unfold labelsF;rw[if_neg (fun h=>hc h.2)]
   have hc':¬atF l 4 1=(⟨#[58]⟩:ByteArray):=hc;rw[←hR,e];simp only[go_sem,y4,hi,hcol,toNat_zero,toNat_one,hc'];exact gq (p:=⟨l,{ p.s with labels:=out }⟩) 1 2 3 4 rfl ⟨rfl,rfl,rfl,rfl,rfl,by decide⟩
  have hc':atF l 4 1=(⟨#[58]⟩:ByteArray):=hc;have hl1:=yV hi;have hl2:1<l.length:=jp (k:=4) (n:=1) (by rw[hc];decide);have hl1I:(0:Int)<l.length:=by omega
  have hl2I:(2:Int)≤l.length:=by omega
  obtain⟨M,rfl⟩:∃M,N=M+1:=⟨N-1,by omega⟩;rcases hl:l[0]? with _ | t
  ·have:=List.getElem?_eq_none_iff.1 hl;omega
  have hkk:t.kind=1:=by unfold isF at hi;rw[hl]at hi;exact of_decide_eq_true hi
  have ht:atF l 1 0=t.text:=by unfold atF;rw[hl];simp only[if_pos hkk]
  have hL:labelsF (M+1) out l=if t.text=lO then .error 110 else if out.length=8 then .error 3 else labelsF M (out++[t.text]) (l.drop 2):=by
   conv=>lhs;unfold labelsF
   rw[if_pos ⟨hi,hc⟩,ht]
  by_cases hd:t.text=lO
  ·rw[←hR,hL,if_pos hd];have hd':(t.text=(⟨#[46]⟩:ByteArray))=True:=eq_true hd;simp only[go_sem,y4,hi,hcol,toNat_zero,toNat_one,hc',hl1I,hl,lu,hd']
  have hd':¬t.text=(⟨#[46]⟩:ByteArray):=hd;by_cases h88:out.length=8
  ·rw[←hR,hL,if_neg hd,if_pos h88];have h8I:((out.length:Int)=8)=True:=eq_true (by omega);simp only[go_sem,y4,hi,hcol,toNat_zero,toNat_one,hc',hl1I,hl,lu,hd',h8I]
  have h8I:¬(out.length:Int)=8:=by omega
  rw[hL,if_neg hd,if_neg h88]at hR;have m1:out.length+1≤maxLen:=by unfold maxLen;omega
  have m2:(out.length+1)*16≤140737488355328:=by omega
  simp only[go_sem,y4,hi,hcol,toNat_zero,toNat_one,hc',hl1I,hl,lu,hd',h8I];refine sD mixed [] [14,18] ?_;simp only[go_sem,m1,m2,hl1I,hl,lu];refine⟨hl2I,(M,out++[t.text],l.drop 2),⟨by simp;omega,hk.drop 2,by simp;omega,hR⟩,Nat.lt_succ_self M,?_⟩;refine Q8 (p:=⟨l.drop 2,{ p.s with labels:=out++[t.text] }⟩) 597 2 3 4 ⟨?_,?_,rfl,rfl,rfl,by decide⟩ rfl
  ·rw[psK,psL,List.length_append,←mo l 2 (by omega)];rfl
  ·rw[stK,←pc];rfl
abbrev li:ao prog 44 :=
 AM _ _ _ func44 (asP rfl) (asP fun _ _=>by go_simp) (xs0) ((fun _ p=>RdOk p.l∧p.s.labels=[])) ((fun _ p=>y4 p.s (labelsF p.l.length [] p.l))) (asP (by rw[ntmps44];decide)) (asP fun _ p h=>Lk p h.1 h.2)
end
section
open Ex (Xs xs0)
def cG (g:FuncId)(q:PsV→Prop)(h:ai):List AV→Option (Prop×List Nat×PsV)
 |[A,.fn g' [.p b' 0 0] []]=>match tQ h A with
  |some (bs,p)=>if g'=g∧bs.head? = some b' then some (q p,bs,p) else none
  |none=>none
 |_=>none
def UL (f:FuncId)(fn:Func)(c:Code)(hf:Tryz.prog.funcs[f]? = some fn)(hb:fn.body=some c)
  (hen:∀(args:Array Value) (w:World),(callFunc f args).run prog w=.ok (.enter f args) w) (g:FuncId) (q:PsV→Prop) (F:PsV→Except Int (AV×PsV)) (hn:2≤fn.ntmps)
  (body:∀p,q p→SW prog ⟨none,1⟩ fn.ntmps c ⟨5,aA 0 [pv 0 0 0,.fn g [.p 0 0 0] []],aN 0 (psB p)⟩ (xm prog fn.results.toList 1 (eN (F p)))):ao prog f :=
 mkR 1 5 (by decide) f fn c hf hb hen (cG g q) (fun _=>[pv 0 0 0,.fn g [.p 0 0 0] []]) (fun p=>psB p) (fun p=>eN (F p))
  (by
   intro h h' args r hs hd;unfold cG at hd ⊢;split at hd
   ·split at hd
    ·rename_i h1;rw[pq hs h1];exact hd
    ·cases hd
   ·cases hd)
  (by
   intro h zs q' bs p hd hq;unfold cG at hd;split at hd
   case h_2=>cases hd
   rename_i A g' b';split at hd
   case h_2=>cases hd
   rename_i bs' p' h1;split at hd
   case isFalse=>cases hd
   rename_i hc;obtain⟨rfl,hc⟩:=hc;injection hd with hd;injection hd with e1 hd;injection hd with e2 e3;subst e2;subst e3;obtain⟨b,lb,nb,vb,bb,rfl,rfl,hp⟩:=tR h1;simp only[List.head?_cons,Option.some.injEq]at hc;subst hc;refine⟨hn,rfl,rfl,hp.nd,fun d=>⟨?_,?_⟩⟩
   ·intro j b' k hj hk
    match j,hj,hk with
    |0,hj,hk =>
     simp[psB]at hj hk;subst hj;subst hk;exact⟨rfl,by rw[hp.p0,np];rfl⟩
    |1,hj,hk =>
     simp[psB]at hj hk;subst hj;subst hk;exact⟨rfl,by rw[hp.p1,dH]⟩
    |2,hj,hk =>
     simp[psB]at hj hk;subst hj;subst hk;exact⟨rfl,by rw[hp.p2,dH]⟩
    |3,hj,hk =>
     simp[psB]at hj hk;subst hj;subst hk;exact⟨rfl,by rw[hp.p3,ny]⟩
    |4,hj,hk =>
     simp[psB]at hj hk;subst hj;subst hk;exact⟨rfl,by rw[hp.p4,mZ]⟩
   ·intro ρ al vals hA
    match vals,hA with
    |[v,u],⟨a,r,_⟩ =>
     refine⟨a,?_,trivial⟩;obtain⟨fs,cs,e,r1,r2⟩:=r;refine⟨fs,cs,e,?_,?_⟩
     ·match fs,r1 with
      |[y],r3=>exact r3
     ·match cs,r2 with
      |[],_=>trivial)
  (by
   intro h zs q' bs p hd hq;unfold cG at hd;split at hd
   case h_2=>cases hd
   split at hd
   case h_2=>cases hd
   split at hd
   case isFalse=>cases hd
   injection hd with hd;injection hd with e1 hd;injection hd with e2 e3;subst e1;subst e3;exact body _ hq)
def TA (g:FuncId)(i:Nat×PsV):St:=⟨5,[(0,pv 0 0 0),(1,.fn g [.p 0 0 0] []),(4,iv (64-i.1:Nat))],aN 0 (psB i.2)⟩
theorem TC (p:PsV)(h:BodyOk 1000 800 p):Sw f102 1 ⟨5,aA 0 [pv 0 0 0,.fn 149 [.p 0 0 0] []],aN 0 (psB p)⟩ (oR f102 1 (eN (cx (dl valR2 63 p)))):=by
 refine aq [] rfl ?_;simp only[go_sem];refine bm (ι:=Nat×PsV) (fun i=>i.1≤63∧BodyOk 1000 (900-i.1) i.2∧dl valR2 i.1 i.2=dl valR2 63 p) (TA 149) (fun i=>i.1) (63,p) ⟨Nat.le_refl _,h.to (Nat.le_refl _) (show 800≤900-63 by decide),rfl⟩ ?_ ?_
 ·exact Q8 (p:=p) 1 2 3 4 ⟨rfl,rfl,rfl,rfl,rfl,by decide⟩ rfl
 rintro⟨N,q⟩ ⟨hN,hk,hR⟩;simp only at hN hk hR;unfold TA;refine aw [⟨_,Q4⟩,⟨_,vG⟩,⟨_,fk⟩] ?_;have hcom:¬(⟨#[44]⟩:ByteArray)=emp:=by decide
 have hk':BodyOk 1000 1000 q:=hk.to (Nat.le_refl _) (by omega);rcases hv:valR2 q with e | q1
 ·have hr:dl valR2 N q=.error e:=by unfold dl;rw[hv]
  rw[←hR,hr];simp only[go_sem,am,hk',hv]
 ·obtain⟨g1,-⟩:=Ga hk hv;by_cases hc:atF q1.l 4 0=az
  case neg =>
   have hc':¬atF q1.l 4 0=(⟨#[44]⟩:ByteArray):=hc;have hr:dl valR2 N q=.ok q1:=by unfold dl;rw[hv];simp only[if_neg hc]
   rw[←hR,hr];simp only[go_sem,aF,hk',hv,hcom,hc',toNat_zero];exact gq (p:=q1) 21 22 23 24 rfl ⟨rfl,rfl,rfl,rfl,rfl,by decide⟩
  have hc':atF q1.l 4 0=(⟨#[44]⟩:ByteArray):=hc;have hl1:(1:Int)≤q1.l.length:=by have:=jp (l:=q1.l) (k:=4) (n:=0) (by rw[hc];decide);omega
  cases N with
  |zero =>
   have hr:dl valR2 0 q=.error 3:=by unfold dl;rw[hv];simp only[if_pos hc]
   rw[←hR,hr];simp only[go_sem,aF,am,hk',hv,hcom,hc',toNat_zero,Nat.sub_zero,Int.reduceEq]
  |succ M =>
   have hr:dl valR2 (M+1) q=dl valR2 M ⟨q1.l.drop 1,q1.s⟩:=by conv=>lhs;unfold dl;rw[hv];simp only[if_pos hc]
   rw[hr]at hR;have e64:(((64-(M+1):Nat):Int)=64)=False:=eq_false (by omega);have ew:IntKind.i64.wrap (((64-(M+1):Nat):Int)+1)=((64-M:Nat):Int):=by rw[IntKind.wrap_i64];omega
   have hd:=mo q1.l 1 (by omega);simp only[go_sem,aF,hk',hv,hcom,hc',toNat_zero,e64,ew,hl1,hd,toNat_one];refine⟨(M,⟨q1.l.drop 1,q1.s⟩),⟨by omega,(ml g1).to (Nat.le_refl _) (by omega),hR⟩,Nat.lt_succ_self M,?_⟩;exact Q8 (p:=⟨q1.l.drop 1,q1.s⟩) 21 22 23 24 ⟨rfl,rfl,rfl,rfl,rfl,by decide⟩ rfl
theorem CN (args:Array Value)(w:World):(callFunc 102 args).run prog w=.ok (.enter 102 args) w:=by go_simp
def Qm:ao prog 102 :=
 UL _ _ _ func102 rfl CN 149 (fun p=>BodyOk 1000 800 p) (fun p=>cx (dl valR2 63 p)) (by rw[ntmps102];decide) TC
theorem FK {id:Nat}{h:ai}{args:List AV}:Qm.run id h args=kM 1 (cG 149 fun p=>BodyOk 1000 800 p) (fun p=>eN (cx (dl valR2 63 p))) id h args:=rfl
theorem FJ {id:Nat}{h:ai}{args:List AV}:Qm.pan id h args=kf (cG 149 fun p=>BodyOk 1000 800 p) (fun p=>eN (cx (dl valR2 63 p))) h args:=rfl
theorem N1 (n:Int)(p:PsV)(h:BodyOk 1000 800 p):Sw f105 1 ⟨5,aA 0 [pv 0 0 0,iv n],aN 0 (psB p)⟩ (oR f105 1 (eN (cx (eI n p)))):=by
 refine aq [⟨_,Qm⟩] rfl ?_;have h2:BodyOk 1000 800 ⟨p.l,{ p.s with kind:=5,size:=n }⟩:=h.with h.toks rfl rfl;unfold eI;rcases hr:dl valR2 63 ⟨p.l,{ p.s with kind:=5,size:=n }⟩ with e | q
 ·simp only[go_sem,am,FK,FJ,cG,List.head?_cons,h2,hr]
 ·simp only[go_sem,aF,FK,FJ,cG,List.head?_cons,h2,hr];exact gq (p:=q) 229 230 231 232 rfl ⟨rfl,rfl,rfl,rfl,rfl,by decide⟩
abbrev GN:ao prog 105 :=
 AM _ _ _ func105 (asP rfl) (asP fun _ _=>by go_simp) (xh) ((fun _ p=>BodyOk 1000 800 p)) ((fun n p=>cx (eI n p))) (asP (by rw[ntmps105];decide)) (asP fun n p h=>N1 n p h)
end
end Go.Proofs.YtnhbidpdadkcjaaGreatDoor
