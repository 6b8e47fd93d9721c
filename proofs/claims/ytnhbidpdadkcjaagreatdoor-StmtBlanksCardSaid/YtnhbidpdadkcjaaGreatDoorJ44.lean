import Derived.Test.YtnhbidpdadkcjaaGreatDoorJ40
import Derived.Test.YtnhbidpdadkcjaaGreatDoorJ42
import Derived.Test.YtnhbidpdadkcjaaGreatDoorJ36
set_option linter.unusedVariables false
set_option linter.unusedSimpArgs false
set_option maxRecDepth 100000
set_option maxHeartbeats 8000000
namespace Go.Proofs.YtnhbidpdadkcjaaGreatDoor
section
open Go.RowKit
open Ex (Xs xs0)
def fa (e:Int):Value:=.iface 85 (.agg #[.int .i64 e])
def nr (s:ByteArray):List LV:=[.v (.string s)]
def ua (v:Val):List LV:=[.v (.int .i64 v.add),.v (.string v.plus),.v (.string v.minus)]
def yK (z:Int):List LV:=[.v (.int .u8 z)]
def stK (l:List ByteArray):Blk:=⟨true,9,1,l.map nr⟩
def vlK (l:List Val):Blk:=⟨true,75,3,l.map ua⟩
def byK (l:List Int):Blk:=⟨true,5,1,l.map yK⟩
def psL (p:PsV) (lb nb vb bb:Nat):List LV :=
 [.d (.sd 4 (p.l.map lN.enc)),.sl lb 0 p.s.labels.length,.v (.int .i64 p.s.kind),.v (.string p.s.name),.d (.sd 15 (p.s.opers.map opR.enc)),.sl nb 0 p.s.names.length,.v (.int .i64 p.s.size),.sl vb 0 p.s.vals.length,.sl bb 0 p.s.bytes.length]
def psK (p:PsV) (lb nb vb bb:Nat):Blk:=⟨true,91,9,[psL p lb nb vb bb]⟩
def psB (p:PsV):List Blk:=[psK p 1 2 3 4,stK p.s.labels,stK p.s.names,vlK p.s.vals,byK p.s.bytes]
def qX:List LV→Option ByteArray
 | [.v (.string s)]=>some s
 | _=>none
theorem vl (c:List LV) (x:ByteArray) (h:qX c=some x):c=nr x:=by
 unfold qX at h
 split at h
 ·injection h with h;subst h;rfl
 ·cases h
def tf:List LV→Option Val
 | [.v (.int .i64 a),.v (.string p),.v (.string m)]=>some ⟨a,p,m⟩
 | _=>none
theorem B5 (c:List LV) (x:Val) (h:tf c=some x):c=ua x:=by
 unfold tf at h
 split at h
 ·injection h with h;subst h;rfl
 ·cases h
def s9:List LV→Option Int
 | [.v (.int .u8 z)]=>some z
 | _=>none
theorem BY (c:List LV) (x:Int) (h:s9 c=some x):c=yK x:=by
 unfold s9 at h
 split at h
 ·injection h with h;subst h;rfl
 ·cases h
theorem am (l:List ByteArray):bL qX (l.map nr)=some l:=jR (d:=qX) (e:=nr) (fun _=>rfl) l
theorem ao (l:List Val):bL tf (l.map ua)=some l:=jR (d:=tf) (e:=ua) (fun _=>rfl) l
theorem ak (l:List Int):bL s9 (l.map yK)=some l:=jR (d:=s9) (e:=yK) (fun _=>rfl) l
def aP {α:Type} (d:List LV→Option α) (T:TypeId) (sz:Nat) (h:ah) (b:Nat):Option (List α):=match hget h b with
 | some ⟨true,T',sz',rows⟩=>if T'=T∧sz'=sz then bL d rows else none
 | _=>none
theorem rh {α:Type} {d:List LV→Option α} {e:α→List LV} (hi:∀ c x,d c=some x→c=e x) {T:TypeId} {sz:Nat} {h:ah} {b:Nat} {l:List α} (hr:aP d T sz h b=some l):hget h b=some ⟨true,T,sz,l.map e⟩:=by
 unfold aP at hr
 split at hr
 ·rename_i T' sz' rows hb
  split at hr
  ·rename_i hc
   obtain ⟨rfl,rfl⟩:=hc
   rw [hb,jS hi hr]
  ·cases hr
 ·cases hr
theorem nO {α:Type} {d:List LV→Option α} {T:TypeId} {sz:Nat} {h h':ah} (hs:∀ b k,hget h b=some k→hget h' b=some k) {b:Nat} {l:List α} (hr:aP d T sz h b=some l):aP d T sz h' b=some l:=by
 unfold aP at hr ⊢
 split at hr
 ·rename_i T' sz' rows hb
  rw [hs _ _ hb]
  exact hr
 ·cases hr
structure PsC where
 ts:List (List D)
 os:List (List D)
 kind:Int
 name:ByteArray
 size:Int
 lb:Nat
 n1:Nat
 nb:Nat
 n2:Nat
 vb:Nat
 n3:Nat
 bb:Nat
 n4:Nat
def aS:List LV→Option PsC
 | [.d (.sd 4 ts),.sl lb 0 n1,.v (.int .i64 kind),.v (.string name),.d (.sd 15 os),.sl nb 0 n2,.v (.int .i64 size),.sl vb 0 n3,.sl bb 0 n4]=>some ⟨ts,os,kind,name,size,lb,n1,nb,n2,vb,n3,bb,n4⟩
 | _=>none
theorem D9 {e:List LV} {c:PsC} (h:aS e=some c):e=[.d (.sd 4 c.ts),.sl c.lb 0 c.n1,.v (.int .i64 c.kind),.v (.string c.name),.d (.sd 15 c.os),.sl c.nb 0 c.n2,.v (.int .i64 c.size),.sl c.vb 0 c.n3,.sl c.bb 0 c.n4]:=by
 unfold aS at h
 split at h
 ·injection h with h;subst h;rfl
 ·cases h
def bj (h:ah):AV→Option (List Nat×PsV)
 | .s (.l (.p b 0 0))=>match hget h b with
  | some ⟨true,T,9,[e]⟩=>match aS e with
   | some c=>match dT lN.dec c.ts,dT opR.dec c.os,aP qX 9 1 h c.lb,aP qX 9 1 h c.nb,aP tf 75 3 h c.vb,aP s9 5 1 h c.bb with
    | some l,some o,some ls,some ns,some vs,some zs =>
     if T=91∧(c.n1=ls.length∧c.n2=ns.length∧c.n3=vs.length∧c.n4=zs.length)∧[b,c.lb,c.nb,c.vb,c.bb].Nodup then some ([b,c.lb,c.nb,c.vb,c.bb],⟨l,⟨ls,c.kind,c.name,o,ns,c.size,vs,zs⟩⟩) else none
    | _,_,_,_,_,_=>none
   | none=>none
  | _=>none
 | _=>none
structure GS (h:ah) (b lb nb vb bb:Nat) (p:PsV):Prop where
 p0:hget h b=some (psK p lb nb vb bb)
 p1:hget h lb=some (stK p.s.labels)
 p2:hget h nb=some (stK p.s.names)
 p3:hget h vb=some (vlK p.s.vals)
 p4:hget h bb=some (byK p.s.bytes)
 nd:[b,lb,nb,vb,bb].Nodup
theorem td {h:ah} {A:AV} {bs:List Nat} {p:PsV} (hd:bj h A=some (bs,p)):∃ b lb nb vb bb,A=pv b 0 0∧bs=[b,lb,nb,vb,bb]∧GS h b lb nb vb bb p:=by
 unfold bj at hd
 split at hd
 case h_2=>cases hd
 rename_i b
 split at hd
 case h_2=>cases hd
 rename_i T e hb
 split at hd
 case h_2=>cases hd
 rename_i c hc
 split at hd
 case h_2=>cases hd
 rename_i l o ls ns vs zs hl ho h1 h2 h3 h4
 split at hd
 case isFalse=>cases hd
 rename_i hk
 obtain ⟨rfl,⟨e1,e2,e3,e4⟩,hn⟩:=hk
 simp only [Option.some.injEq,Prod.mk.injEq] at hd
 obtain ⟨rfl,rfl⟩:=hd
 refine ⟨b,c.lb,c.nb,c.vb,c.bb,rfl,rfl,?_,rh vl h1,rh vl h2,rh B5 h3,rh BY h4,hn⟩
 rw [hb,D9 hc,e1,e2,e3,e4,eN lN hl,eN opR ho]
 rfl
theorem pn {h h':ah} (hs:∀ b k,hget h b=some k→hget h' b=some k) {A:AV} {r:List Nat×PsV} (hd:bj h A=some r):bj h' A=some r:=by
 unfold bj at hd ⊢
 split at hd
 case h_2=>cases hd
 rename_i b
 split at hd
 case h_2=>cases hd
 rename_i T e hb
 split at hd
 case h_2=>cases hd
 rename_i c hc
 split at hd
 case h_2=>cases hd
 rename_i l o ls ns vs zs hl ho h1 h2 h3 h4
 simp only [hs _ _ hb,hc,hl,ho,nO hs h1,nO hs h2,nO hs h3,nO hs h4]
 exact hd
theorem ee (l:List ByteArray) (g:Nat→Nat):(stK l).ren g=stK l:=by
 unfold stK Blk.ren
 simp [Function.comp_def,nr,LV.ren]
theorem nR (l:List Val) (g:Nat→Nat):(vlK l).ren g=vlK l:=by
 unfold vlK Blk.ren
 simp [Function.comp_def,ua,LV.ren]
theorem nG (l:List Int) (g:Nat→Nat):(byK l).ren g=byK l:=by
 unfold byK Blk.ren
 simp [Function.comp_def,yK,LV.ren]
theorem aG (l:List ByteArray) (g:Nat→Nat):List.map (fun x=>List.map (fun x=>LV.ren g x) x) (l.map nr)=l.map nr:=by
 simp [Function.comp_def,nr,LV.ren]
theorem aH (l:List Val) (g:Nat→Nat):List.map (fun x=>List.map (fun x=>LV.ren g x) x) (l.map ua)=l.map ua:=by
 simp [Function.comp_def,ua,LV.ren]
theorem aD (l:List Int) (g:Nat→Nat):List.map (fun x=>List.map (fun x=>LV.ren g x) x) (l.map yK)=l.map yK:=by
 simp [Function.comp_def,yK,LV.ren]
theorem nN (p:PsV) (lb nb vb bb:Nat) (g:Nat→Nat):(psK p lb nb vb bb).ren g=psK p (g lb) (g nb) (g vb) (g bb):=rfl
def cY:Except Int (AV×PsV)→RO
 | .ok (r,p)=>.ret r [some (psK p 1 2 3 4)] [stK p.s.labels,stK p.s.names,vlK p.s.vals,byK p.s.bytes]
 | .error e=>.pan (fa e)
theorem aE {r:AV} {p:PsV}:cY (.ok (r,p))=.ret r [some (psK p 1 2 3 4)] [stK p.s.labels,stK p.s.names,vlK p.s.vals,byK p.s.bytes]:=rfl
theorem ae {e:Int}:cY (.error e)=.pan (fa e):=rfl
def cf:Except Int PsV→Except Int (AV×PsV)
 | .ok p=>.ok (iA,p)
 | .error e=>.error e
def aX {X:Type} (T:Xs X) (q:X→PsV→Prop) (h:ah):List AV→Option (Prop×List Nat×(X×PsV))
 | A::zs=>match bj h A,T.dec zs with
  | some (bs,p),some x=>some (q x p,bs,(x,p))
  | _,_=>none
 | []=>none
def CE {X:Type} (f:FuncId) (fn:Func) (c:Code) (hf:Tryz.prog.funcs[f]? = some fn) (hb:fn.body=some c)
  (hen:∀ (args:Array Value) (w:World),(callFunc f args).run Tryz.prog w=.ok (.enter f args) w) (T:Xs X) (q:X→PsV→Prop) (F:X→PsV→Except Int (AV×PsV)) (hn:T.len+1≤fn.ntmps)
  (body:∀ x p,q x p→SW Tryz.prog ⟨none,1⟩ fn.ntmps c ⟨5,aC 0 (pv 0 0 0::T.enc x),bB 0 (psB p)⟩ (dy Tryz.prog fn.results.toList 1 (cY (F x p)))):bi Tryz.prog f :=
 mkR 1 5 (by decide) f fn c hf hb hen (aX T q) (fun x=>pv 0 0 0::T.enc x.1) (fun x=>psB x.2) (fun x=>cY (F x.1 x.2))
  (by
   intro h h' args r hs hd
   unfold aX at hd ⊢
   split at hd
   ·split at hd
    ·rename_i h1 h2
     rw [pn hs h1,h2]
     exact hd
    ·cases hd
   ·cases hd)
  (by
   intro h zs q' bs x hd hq
   unfold aX at hd
   split at hd
   case h_2=>cases hd
   rename_i A zs'
   split at hd
   case h_2=>cases hd
   rename_i bs' p x' h1 h2
   injection hd with hd
   injection hd with e1 hd
   injection hd with e2 e3
   subst e2
   subst e3
   obtain ⟨b,lb,nb,vb,bb,rfl,rfl,hp⟩:=td h1
   refine ⟨by rw [List.length_cons,T.enc_len];exact hn,rfl,rfl,hp.nd,fun d=>⟨?_,?_⟩⟩
   ·intro j b' k hj hk
    match j,hj,hk with
    | 0,hj,hk =>
     simp [psB] at hj hk
     subst hj
     subst hk
     exact ⟨rfl,by rw [hp.p0,nN];rfl⟩
    | 1,hj,hk =>
     simp [psB] at hj hk
     subst hj
     subst hk
     exact ⟨rfl,by rw [hp.p1,ee]⟩
    | 2,hj,hk =>
     simp [psB] at hj hk
     subst hj
     subst hk
     exact ⟨rfl,by rw [hp.p2,ee]⟩
    | 3,hj,hk =>
     simp [psB] at hj hk
     subst hj
     subst hk
     exact ⟨rfl,by rw [hp.p3,nR]⟩
    | 4,hj,hk =>
     simp [psB] at hj hk
     subst hj
     subst hk
     exact ⟨rfl,by rw [hp.p4,nG]⟩
   ·intro ρ al vals hA
    match vals,hA with
    | v::vs,⟨a,r⟩=>exact ⟨a,T.ok (al:=al) h2 (Mem.le_refl _) r⟩)
  (by
   intro h zs q' bs x hd hq
   unfold aX at hd
   split at hd
   case h_2=>cases hd
   split at hd
   case h_2=>cases hd
   injection hd with hd
   injection hd with e1 hd
   injection hd with e2 e3
   subst e1
   subst e3
   exact body _ _ hq)
def nL:Except Int (AV×PsV)→RO
 | .ok (r,p)=>.ret r [some (psK p 1 2 3 4),some (stK p.s.labels),some (stK p.s.names),some (vlK p.s.vals),some (byK p.s.bytes)] []
 | .error e=>.pan (fa e)
theorem aF {r:AV} {p:PsV}:nL (.ok (r,p))=.ret r [some (psK p 1 2 3 4),some (stK p.s.labels),some (stK p.s.names),some (vlK p.s.vals),some (byK p.s.bytes)] []:=rfl
theorem ag {e:Int}:nL (.error e)=.pan (fa e):=rfl
def Rz {X:Type} (f:FuncId) (fn:Func) (c:Code) (hf:Tryz.prog.funcs[f]? = some fn) (hb:fn.body=some c)
  (hen:∀ (args:Array Value) (w:World),(callFunc f args).run Tryz.prog w=.ok (.enter f args) w) (T:Xs X) (q:X→PsV→Prop) (F:X→PsV→Except Int (AV×PsV)) (hn:T.len+1≤fn.ntmps)
  (body:∀ x p,q x p→SW Tryz.prog ⟨none,5⟩ fn.ntmps c ⟨5,aC 0 (pv 0 0 0::T.enc x),bB 0 (psB p)⟩ (dy Tryz.prog fn.results.toList 5 (nL (F x p)))):bi Tryz.prog f :=
 mkR 5 5 (by decide) f fn c hf hb hen (aX T q) (fun x=>pv 0 0 0::T.enc x.1) (fun x=>psB x.2) (fun x=>nL (F x.1 x.2))
  (by
   intro h h' args r hs hd
   unfold aX at hd ⊢
   split at hd
   ·split at hd
    ·rename_i h1 h2
     rw [pn hs h1,h2]
     exact hd
    ·cases hd
   ·cases hd)
  (by
   intro h zs q' bs x hd hq
   unfold aX at hd
   split at hd
   case h_2=>cases hd
   rename_i A zs'
   split at hd
   case h_2=>cases hd
   rename_i bs' p x' h1 h2
   injection hd with hd
   injection hd with e1 hd
   injection hd with e2 e3
   subst e2
   subst e3
   obtain ⟨b,lb,nb,vb,bb,rfl,rfl,hp⟩:=td h1
   refine ⟨by rw [List.length_cons,T.enc_len];exact hn,rfl,rfl,hp.nd,fun d=>⟨?_,?_⟩⟩
   ·intro j b' k hj hk
    match j,hj,hk with
    | 0,hj,hk =>
     simp [psB] at hj hk
     subst hj
     subst hk
     exact ⟨rfl,by rw [hp.p0,nN];rfl⟩
    | 1,hj,hk =>
     simp [psB] at hj hk
     subst hj
     subst hk
     exact ⟨rfl,by rw [hp.p1,ee]⟩
    | 2,hj,hk =>
     simp [psB] at hj hk
     subst hj
     subst hk
     exact ⟨rfl,by rw [hp.p2,ee]⟩
    | 3,hj,hk =>
     simp [psB] at hj hk
     subst hj
     subst hk
     exact ⟨rfl,by rw [hp.p3,nR]⟩
    | 4,hj,hk =>
     simp [psB] at hj hk
     subst hj
     subst hk
     exact ⟨rfl,by rw [hp.p4,nG]⟩
   ·intro ρ al vals hA
    match vals,hA with
    | v::vs,⟨a,r⟩=>exact ⟨a,T.ok (al:=al) h2 (Mem.le_refl _) r⟩)
  (by
   intro h zs q' bs x hd hq
   unfold aX at hd
   split at hd
   case h_2=>cases hd
   split at hd
   case h_2=>cases hd
   injection hd with hd
   injection hd with e1 hd
   injection hd with e2 e3
   subst e1
   subst e3
   exact body _ _ hq)
theorem gz {p:PsV} {r:AV} {st:St} (lb nb vb bb:Nat) (hr:r.plain=true) (hp:GS st.h 0 lb nb vb bb p):oH 1 st (cY (.ok (r,p))) (some r):=by
 refine ⟨hr,[some (psK p 1 2 3 4)],[stK p.s.labels,stK p.s.names,vlK p.s.vals,byK p.s.bytes],rfl,rfl,by simp,by simp [psK],by simp [stK,vlK,byK],Wk.ren [0,lb,nb,vb,bb] (by intro j hj;have:j=0:=(by simpa using hj);subst this;rfl) (Nat.le_refl _) hp.nd (fun p hp=>by cases hp) ?_⟩
 intro q hq k hk
 simp only [gm,bB,List.cons_append,List.nil_append,List.mem_cons,List.not_mem_nil,or_false] at hq
 rcases hq with rfl | rfl | rfl | rfl | rfl
 ·simp only [Option.some.injEq] at hk
  subst hk
  simp only [List.getD_eq_getElem?_getD,List.getElem?_cons_zero,Option.getD_some,hp.p0,nN]
  rfl
 ·simp only [Option.some.injEq] at hk
  subst hk
  simp only [List.getD_eq_getElem?_getD,List.getElem?_cons_succ,List.getElem?_cons_zero,Option.getD_some,hp.p1,ee]
 ·simp only [Option.some.injEq] at hk
  subst hk
  simp only [List.getD_eq_getElem?_getD,List.getElem?_cons_succ,List.getElem?_cons_zero,Option.getD_some,hp.p2,ee]
 ·simp only [Option.some.injEq] at hk
  subst hk
  simp only [List.getD_eq_getElem?_getD,List.getElem?_cons_succ,List.getElem?_cons_zero,Option.getD_some,hp.p3,nR]
 ·simp only [Option.some.injEq] at hk
  subst hk
  simp only [List.getD_eq_getElem?_getD,List.getElem?_cons_succ,List.getElem?_cons_zero,Option.getD_some,hp.p4,nG]
theorem xy {p:PsV} {r:AV} {st:St} (hr:r.plain=true) (hp:GS st.h 0 1 2 3 4 p):oH 5 st (nL (.ok (r,p))) (some r):=by
 refine ⟨hr,[some (psK p 1 2 3 4),some (stK p.s.labels),some (stK p.s.names),some (vlK p.s.vals),some (byK p.s.bytes)],[],rfl,rfl,by simp,by simp [psK,stK,vlK,byK],by simp,Wk.ren [0,1,2,3,4] (by intro j hj;match j,hj with | 0,_=>rfl | 1,_=>rfl | 2,_=>rfl | 3,_=>rfl | 4,_=>rfl) (Nat.le_refl _) hp.nd (fun p hp=>by cases hp) ?_⟩
 intro q hq k hk
 simp only [gm,bB,List.cons_append,List.nil_append,List.mem_cons,List.not_mem_nil,or_false] at hq
 rcases hq with rfl | rfl | rfl | rfl | rfl
 ·simp only [Option.some.injEq] at hk
  subst hk
  simp only [List.getD_eq_getElem?_getD,List.getElem?_cons_zero,Option.getD_some,hp.p0,nN]
  rfl
 ·simp only [Option.some.injEq] at hk
  subst hk
  simp only [List.getD_eq_getElem?_getD,List.getElem?_cons_succ,List.getElem?_cons_zero,Option.getD_some,hp.p1,ee]
 ·simp only [Option.some.injEq] at hk
  subst hk
  simp only [List.getD_eq_getElem?_getD,List.getElem?_cons_succ,List.getElem?_cons_zero,Option.getD_some,hp.p2,ee]
 ·simp only [Option.some.injEq] at hk
  subst hk
  simp only [List.getD_eq_getElem?_getD,List.getElem?_cons_succ,List.getElem?_cons_zero,Option.getD_some,hp.p3,nR]
 ·simp only [Option.some.injEq] at hk
  subst hk
  simp only [List.getD_eq_getElem?_getD,List.getElem?_cons_succ,List.getElem?_cons_zero,Option.getD_some,hp.p4,nG]
end
section
open Go.RowKit
open Ex (Xs xs0)
def fC:bi Tryz.prog 46 :=
 mk1 _ _ _ Tryz.func46 rfl (fun _ _=>by go_simp) (bq .i64) ((fun _=>True)) ((fun e=>.pan (fa e))) (by rw [Tryz.ntmps46];decide) (fun e _=>by
 refine aa (ctx:=[]) 4000 ?_
 rw [Tryz.ntmps46,Tryz.results46]
 simp only [Tryz.f46,Option.getD_some,aC]
 simp only [go_sem,fa])
theorem aq {id:Nat} {h:ah} {args:List AV}:(fC).run id h args=bT (ba (bq .i64) ((fun _=>True))) ((fun e=>.pan (fa e))) h args:=rfl
theorem ap {id:Nat} {h:ah} {args:List AV}:(fC).pan id h args=bU (ba (bq .i64) ((fun _=>True))) ((fun e=>.pan (fa e))) h args:=rfl
theorem Tw (k:Int) (m:Nat) (p:PsV):SW Tryz.prog ⟨none,5⟩ Tryz.f96.ntmps (Tryz.f96.body.getD .skip) ⟨5,aC 0 [pv 0 0 0,iv k,iv m],bB 0 (psB p)⟩ (dy Tryz.prog Tryz.f96.results.toList 5 (nL (.ok (bv (isF p.l k m),p)))):=by
 refine aa (ctx:=[]) 4000 ?_
 rw [Tryz.ntmps96,Tryz.results96]
 simp only [Tryz.f96,Option.getD_some,aC]
 rcases hl:p.l[m]? with _ | t
 ·have hlt:¬(m:Int)<p.l.length:=by have:=List.getElem?_eq_none_iff.1 hl;omega
  have e:isF p.l k m=false:=by unfold isF;rw [hl]
  rw [e]
  simp only [go_sem,psB,psK,psL,hlt,List.length_map]
  exact xy rfl ⟨rfl,rfl,rfl,rfl,rfl,by decide⟩
 ·have hlt:(m:Int)<p.l.length:=by have:=(List.getElem?_eq_some_iff.1 hl).1;omega
  have e:isF p.l k m=decide (t.kind=k):=by unfold isF;rw [hl]
  rw [e]
  simp only [go_sem,psB,psK,psL,hlt,List.length_map,hl,lM]
  exact xy rfl ⟨rfl,rfl,rfl,rfl,rfl,by decide⟩
def K6:bi Tryz.prog 96 :=
 Rz _ _ _ Tryz.func96 rfl (fun _ _=>by go_simp) (xs2) ((fun x _=>0≤x.2)) ((fun x p=>.ok (bv (isF p.l x.1 x.2.toNat),p))) (by rw [Tryz.ntmps96];decide) (fun x p h=>by
 obtain ⟨k,n⟩:=x
 obtain ⟨m,rfl⟩:=Int.eq_ofNat_of_zero_le h
 exact Tw k m p)
theorem aN {id:Nat} {h:ah} {args:List AV}:(K6).run id h args=gu 5 (aX (xs2) ((fun x _=>0≤x.2))) (fun x=>nL (((fun x p=>.ok (bv (isF p.l x.1 x.2.toNat),p))) x.1 x.2)) id h args:=rfl
theorem aM {id:Nat} {h:ah} {args:List AV}:(K6).pan id h args=fX (aX (xs2) ((fun x _=>0≤x.2))) (fun x=>nL (((fun x p=>.ok (bv (isF p.l x.1 x.2.toNat),p))) x.1 x.2)) h args:=rfl
def bV:Xs (ByteArray×Int) where
 dec:=fun | [.s (.l (.v (.string a))),.s (.l (.v (.int .i64 b)))]=>some (a,b) | _=>none
 enc:=fun t=>[sv t.1,iv t.2]
 len:=2
 enc_len:=fun _=>rfl
 ok:=by
  intro zs x h ρ ρ' al al' vals hM hA
  split at h
  ·injection h with h
   subst h
   match vals,hA with
   | [v,u],⟨a,b,_⟩=>exact ⟨a,b,trivial⟩
  ·cases h
theorem Tg {l:List Tok} {k:Int} {n:Nat}:isF l k n=false→atF l k n=emp:=by
 unfold isF atF
 intro h
 split at h
 ·rename_i t ht
  rw [ht]
  simp only
  rw [if_neg (of_decide_eq_false h)]
 ·rename_i ht
  rw [ht]
theorem MA (s:ByteArray) (m:Nat) (p:PsV) (hs:¬s=emp):SW Tryz.prog ⟨none,5⟩ Tryz.f97.ntmps (Tryz.f97.body.getD .skip) ⟨5,aC 0 [pv 0 0 0,sv s,iv m],bB 0 (psB p)⟩ (dy Tryz.prog Tryz.f97.results.toList 5 (nL (.ok (bv (decide (atF p.l 4 m=s)),p)))):=by
 refine aa (ctx:=[⟨_,K6⟩]) 4000 ?_
 rw [Tryz.ntmps97,Tryz.results97]
 simp only [Tryz.f97,Option.getD_some,aC]
 have h0:(0:Int)≤m:=by omega
 cases hi:isF p.l 4 m with
 | false =>
  have e:decide (atF p.l 4 m=s)=false:=by rw [Tg hi];exact decide_eq_false fun h=>hs h.symm
  rw [e]
  simp only [go_sem,psB,psK,psL,aX,bj,aS,aP,am,ao,ak,stK,vlK,byK,ac,aB,aA,xs2,xs1,xs0,bV,aE,ae,aF,ag,aG,aH,aD,List.nodup_cons,List.mem_cons,List.not_mem_nil,or_false,not_or,List.nodup_nil,not_false_eq_true,and_self,aN,aM,h0,hi,Int.toNat_natCast]
  exact xy rfl ⟨rfl,rfl,rfl,rfl,rfl,by decide⟩
 | true =>
  have hlt:(m:Int)<p.l.length:=by have:=AU hi;omega
  rcases hl:p.l[m]? with _ | t
  ·have:=List.getElem?_eq_none_iff.1 hl;omega
  have hk:t.kind=4:=by unfold isF at hi;rw [hl] at hi;exact of_decide_eq_true hi
  have e:atF p.l 4 m=t.text:=by unfold atF;rw [hl];simp only [if_pos hk]
  rw [e]
  simp only [go_sem,psB,psK,psL,aX,bj,aS,aP,am,ao,ak,stK,vlK,byK,ac,aB,aA,xs2,xs1,xs0,bV,aE,ae,aF,ag,aG,aH,aD,List.nodup_cons,List.mem_cons,List.not_mem_nil,or_false,not_or,List.nodup_nil,not_false_eq_true,and_self,aN,aM,h0,hi,Int.toNat_natCast,hlt,List.length_map,hl,lM]
  exact xy rfl ⟨rfl,rfl,rfl,rfl,rfl,by decide⟩
def uJ:bi Tryz.prog 97 :=
 Rz _ _ _ Tryz.func97 rfl (fun _ _=>by go_simp) (bV) ((fun x _=>¬x.1=emp∧0≤x.2)) ((fun x p=>.ok (bv (decide (atF p.l 4 x.2.toNat=x.1)),p))) (by rw [Tryz.ntmps97];decide) (fun x p h=>by
 obtain ⟨s,n⟩:=x
 obtain ⟨m,rfl⟩:=Int.eq_ofNat_of_zero_le h.2
 exact MA s m p h.1)
theorem ax {id:Nat} {h:ah} {args:List AV}:(uJ).run id h args=gu 5 (aX (bV) ((fun x _=>¬x.1=emp∧0≤x.2))) (fun x=>nL (((fun x p=>.ok (bv (decide (atF p.l 4 x.2.toNat=x.1)),p))) x.1 x.2)) id h args:=rfl
theorem aw {id:Nat} {h:ah} {args:List AV}:(uJ).pan id h args=fX (aX (bV) ((fun x _=>¬x.1=emp∧0≤x.2))) (fun x=>nL (((fun x p=>.ok (bv (decide (atF p.l 4 x.2.toNat=x.1)),p))) x.1 x.2)) h args:=rfl
def j4 (k e:Int) (p:PsV):Except Int (AV×PsV):=match nextF k e p.l with
 | .ok (t,l)=>.ok (sv t,⟨l,p.s⟩)
 | .error e=>.error e
theorem A8 (k e:Int) (p:PsV):SW Tryz.prog ⟨none,5⟩ Tryz.f45.ntmps (Tryz.f45.body.getD .skip) ⟨5,aC 0 [pv 0 0 0,iv k,iv e],bB 0 (psB p)⟩ (dy Tryz.prog Tryz.f45.results.toList 5 (nL (j4 k e p))):=by
 refine aa (ctx:=[⟨_,K6⟩,⟨_,fC⟩]) 4000 ?_
 rw [Tryz.ntmps45,Tryz.results45]
 simp only [Tryz.f45,Option.getD_some,aC]
 cases hi:isF p.l k 0 with
 | false =>
  have e1:j4 k e p=.error e:=by unfold j4 nextF;rw [hi];rfl
  rw [e1]
  simp only [go_sem,psB,psK,psL,aX,bj,aS,aP,am,ao,ak,stK,vlK,byK,ac,aB,aA,xs2,xs1,xs0,bV,aE,ae,aF,ag,aG,aH,aD,List.nodup_cons,List.mem_cons,List.not_mem_nil,or_false,not_or,List.nodup_nil,not_false_eq_true,and_self,aN,aM,hi,Int.toNat_zero,aq,ap]
 | true =>
  have h1:(0:Int)<p.l.length:=by have:=AU hi;omega
  have h2:(1:Int)≤p.l.length:=by omega
  rcases hl:p.l[0]? with _ | t
  ·have:=List.getElem?_eq_none_iff.1 hl;omega
  have hk:t.kind=k:=by unfold isF at hi;rw [hl] at hi;exact of_decide_eq_true hi
  have e0:atF p.l k 0=t.text:=by unfold atF;rw [hl];simp only [if_pos hk]
  have e1:j4 k e p=.ok (sv t.text,⟨p.l.drop 1,p.s⟩):=by unfold j4 nextF;rw [hi,e0];rfl
  rw [e1]
  simp only [go_sem,psB,psK,psL,aX,bj,aS,aP,am,ao,ak,stK,vlK,byK,ac,aB,aA,xs2,xs1,xs0,bV,aE,ae,aF,ag,aG,aH,aD,List.nodup_cons,List.mem_cons,List.not_mem_nil,or_false,not_or,List.nodup_nil,not_false_eq_true,and_self,aN,aM,hi,Int.toNat_zero,h1,h2,List.length_map,hl,lM,mL p.l 1 (by omega),Int.toNat_one]
  exact xy (p:=⟨p.l.drop 1,p.s⟩) rfl ⟨rfl,rfl,rfl,rfl,rfl,by decide⟩
def mZ:bi Tryz.prog 45 :=
 Rz _ _ _ Tryz.func45 rfl (fun _ _=>by go_simp) (xs2) ((fun _ _=>True)) ((fun x p=>j4 x.1 x.2 p)) (by rw [Tryz.ntmps45];decide) (fun x p _=>A8 x.1 x.2 p)
theorem au {id:Nat} {h:ah} {args:List AV}:(mZ).run id h args=gu 5 (aX (xs2) ((fun _ _=>True))) (fun x=>nL (((fun x p=>j4 x.1 x.2 p)) x.1 x.2)) id h args:=rfl
theorem ar {id:Nat} {h:ah} {args:List AV}:(mZ).pan id h args=fX (aX (xs2) ((fun _ _=>True))) (fun x=>nL (((fun x p=>j4 x.1 x.2 p)) x.1 x.2)) h args:=rfl
end
section
open Go.RowKit
open Ex (Xs xs0)
theorem JC (l:List Val) (v:Val):l.map ua++[[.v (.int .i64 v.add),.v (.string v.plus),.v (.string v.minus)]]=(l++[v]).map ua:=by
 rw [List.map_append];rfl
theorem bc {p:PsV}:cf (.ok p)=.ok (iA,p):=rfl
theorem aL {e:Int}:cf (.error e)=.error e:=rfl
theorem P6 (p:PsV) (h:BodyOk 1000 1000 p):SW Tryz.prog ⟨none,1⟩ Tryz.f149.ntmps (Tryz.f149.body.getD .skip) ⟨5,aC 0 [pv 0 0 0],bB 0 (psB p)⟩ (dy Tryz.prog Tryz.f149.results.toList 1 (cY (cf (valR2 p)))):=by
 refine aa (ctx:=[⟨_,Ex.parseS⟩,⟨_,Ex.evalS⟩,⟨_,fC⟩]) 4000 ?_
 rw [Tryz.ntmps149,Tryz.results149]
 simp only [Tryz.f149,Option.getD_some,aC]
 have hn:=Ex.parseF_nice h.toks.named
 have hl6:=h.toks.few
 rcases hp:Ex.parseF p.l with e | s
 ·rw [hp] at hn
  have hne:¬e=0:=hn
  have hv:valR2 p=.error e:=by unfold valR2 valueR;rw [hp]
  rw [hv]
  simp only [go_sem,psB,psK,psL,aX,bj,aS,aP,am,ao,ak,stK,vlK,byK,ac,aB,aA,xs2,xs1,xs0,bV,aE,ae,aF,ag,aG,aH,aD,List.nodup_cons,List.mem_cons,List.not_mem_nil,or_false,not_or,List.nodup_nil,not_false_eq_true,and_self,aq,ap,aN,aM,ax,aw,au,ar,aL,Ex.parse_run,Ex.parse_pan,Ex.outParse,hl6,hp,hne]
 ·rw [hp] at hn
  obtain ⟨g1,g2,g3,g4,g5⟩:=hn
  have q2:s.ts.length≤1099511627776:=by omega
  have q3:∀ t∈s.ts,t.sym.size≤140737488355328:=fun t ht=>by have:=Ex.termB_size (g2 t ht);omega
  have q4:(s.at_:Int)≤p.l.length:=by omega
  have q5:(0:Int)≤s.at_:=by omega
  rcases hev:Ex.evalAll s.ts with ⟨⟨va,vp,vm⟩,x⟩
  by_cases hx:x=0
  ·subst hx
   have hv:valR2 p=.ok ⟨p.l.drop s.at_,{ p.s with vals:=p.s.vals++[⟨va,vp,vm⟩] }⟩:=by unfold valR2 valueR;rw [hp];simp only [hev,if_true]
   rw [hv]
   have m1:p.s.vals.length+1≤maxLen:=by have:=h.vals;unfold maxLen;omega
   have m2:(p.s.vals.length+1)*40≤140737488355328:=by have:=h.vals;omega
   have hd:=mL p.l s.at_ (by omega)
   simp only [go_sem,psB,psK,psL,aX,bj,aS,aP,am,ao,ak,stK,vlK,byK,ac,aB,aA,xs2,xs1,xs0,bV,aE,ae,aF,ag,aG,aH,aD,List.nodup_cons,List.mem_cons,List.not_mem_nil,or_false,not_or,List.nodup_nil,not_false_eq_true,and_self,aq,ap,aN,aM,ax,aw,au,ar,bc,Ex.parse_run,Ex.parse_pan,Ex.outParse,hl6,hp,Ex.eval_run,Ex.eval_pan,Ex.outEval,hev,q2,q4,q5,List.length_map,hd,Int.toNat_natCast]
   refine ⟨q3,?_⟩
   refine bI (ctx:=[]) mixed [8,12] (by kernel_rfl) ?_
   simp only [go_sem,psB,psK,psL,aX,bj,aS,aP,am,ao,ak,stK,vlK,byK,ac,aB,aA,xs2,xs1,xs0,bV,aE,ae,aF,ag,aG,aH,aD,List.nodup_cons,List.mem_cons,List.not_mem_nil,or_false,not_or,List.nodup_nil,not_false_eq_true,and_self,aq,ap,aN,aM,ax,aw,au,ar,m1,m2,List.length_map]
   refine gz (p:=⟨p.l.drop s.at_,{ p.s with vals:=p.s.vals++[⟨va,vp,vm⟩] }⟩) 1 2 677 4 rfl ⟨?_,rfl,rfl,?_,rfl,by decide⟩
   ·rw [psK,psL,List.length_append];rfl
   ·rw [vlK,← JC];rfl
  ·have hv:valR2 p=.error x:=by unfold valR2 valueR;rw [hp];simp only [hev,if_neg hx]
   rw [hv]
   simp only [go_sem,psB,psK,psL,aX,bj,aS,aP,am,ao,ak,stK,vlK,byK,ac,aB,aA,xs2,xs1,xs0,bV,aE,ae,aF,ag,aG,aH,aD,List.nodup_cons,List.mem_cons,List.not_mem_nil,or_false,not_or,List.nodup_nil,not_false_eq_true,and_self,aq,ap,aN,aM,ax,aw,au,ar,aL,Ex.parse_run,Ex.parse_pan,Ex.outParse,hl6,hp,Ex.eval_run,Ex.eval_pan,Ex.outEval,hev,q2,hx]
   exact q3
def Dw:bi Tryz.prog 149 :=
 CE _ _ _ Tryz.func149 rfl (fun _ _=>by go_simp) (xs0) ((fun _ p=>BodyOk 1000 1000 p)) ((fun _ p=>cf (valR2 p))) (by rw [Tryz.ntmps149];decide) (fun _ p h=>P6 p h)
theorem kB {id:Nat} {h:ah} {args:List AV}:(Dw).run id h args=gu 1 (aX (xs0) ((fun _ p=>BodyOk 1000 1000 p))) (fun x=>cY (((fun _ p=>cf (valR2 p))) x.1 x.2)) id h args:=rfl
theorem kA {id:Nat} {h:ah} {args:List AV}:(Dw).pan id h args=fX (aX (xs0) ((fun _ p=>BodyOk 1000 1000 p))) (fun x=>cY (((fun _ p=>cf (valR2 p))) x.1 x.2)) h args:=rfl
def tu:bi Tryz.prog 60 :=
 mk1 _ _ _ Tryz.func60 rfl (fun _ _=>by go_simp) (jr lR) ((fun _=>True)) ((fun v=>.ret (bv (iM v)))) (by rw [Tryz.ntmps60];decide) (fun v _=>by
 refine aa (ctx:=[]) 4000 ?_
 rw [Tryz.ntmps60,Tryz.results60]
 simp only [Tryz.f60,Option.getD_some,aC]
 obtain ⟨a,p,m⟩:=v
 have e:iM ⟨a,p,m⟩=(decide (p=emp)&&(decide (m=emp)&&(decide (0≤a)&&decide (a≤12)))):=by
  unfold iM
  rw [Bool.eq_iff_iff]
  simp only [decide_eq_true_eq,Bool.and_eq_true,and_assoc]
 rw [e]
 by_cases h1:p=emp
 ·by_cases h2:m=emp
  ·by_cases h3:0≤a
   ·simp only [go_sem,v7,aR,eq_true h1,eq_true h2,eq_true h3]
   ·simp only [go_sem,v7,aR,eq_true h1,eq_true h2,h3,Bool.false_and]
  ·simp only [go_sem,v7,aR,eq_true h1,h2,Bool.false_and]
 ·simp only [go_sem,v7,aR,h1,Bool.false_and])
theorem nK {id:Nat} {h:ah} {args:List AV}:(tu).run id h args=bT (ba (jr lR) ((fun _=>True))) ((fun v=>.ret (bv (iM v)))) h args:=rfl
theorem nJ {id:Nat} {h:ah} {args:List AV}:(tu).pan id h args=bU (ba (jr lR) ((fun _=>True))) ((fun v=>.ret (bv (iM v)))) h args:=rfl
end
section
open Go.RowKit
open Ex (Xs xs0)
theorem G2 (p:PsV) (h:BodyOk 1000 1000 p) (h0:p.s.vals=[]):SW Tryz.prog ⟨none,1⟩ Tryz.f103.ntmps (Tryz.f103.body.getD .skip) ⟨5,aC 0 [pv 0 0 0],bB 0 (psB p)⟩ (dy Tryz.prog Tryz.f103.results.toList 1 (cY (cf (jn p)))):=by
 refine aa (ctx:=[⟨_,Dw⟩,⟨_,tu⟩,⟨_,fC⟩]) 4000 ?_
 rw [Tryz.ntmps103,Tryz.results103]
 simp only [Tryz.f103,Option.getD_some,aC]
 rcases hv:valueR p.l with e | ⟨⟨va,vp,vm⟩,l⟩
 ·have h1:valR2 p=.error e:=by unfold valR2;rw [hv]
  have h2:jn p=.error e:=by unfold jn;rw [h1]
  rw [h2]
  simp only [go_sem,psB,psK,psL,aX,bj,aS,aP,am,ao,ak,stK,vlK,byK,ac,aB,aA,xs2,xs1,xs0,bV,aE,ae,aF,ag,aG,aH,aD,List.nodup_cons,List.mem_cons,List.not_mem_nil,or_false,not_or,List.nodup_nil,not_false_eq_true,and_self,aq,ap,aN,aM,ax,aw,au,ar,kB,kA,h,h1,aL]
 ·have h1:valR2 p=.ok ⟨l,{ p.s with vals:=[⟨va,vp,vm⟩] }⟩:=by unfold valR2;rw [hv,h0];rfl
  have h2:jn p=if iM ⟨va,vp,vm⟩=true then .ok ⟨l,{ p.s with vals:=[⟨va,vp,vm⟩] }⟩ else .error 7:=by unfold jn;rw [h1];rfl
  cases ha:iM ⟨va,vp,vm⟩ with
  | true =>
   rw [h2,if_pos ha]
   simp only [go_sem,psB,psK,psL,aX,bj,aS,aP,am,ao,ak,stK,vlK,byK,ac,aB,aA,xs2,xs1,xs0,bV,aE,ae,aF,ag,aG,aH,aD,List.nodup_cons,List.mem_cons,List.not_mem_nil,or_false,not_or,List.nodup_nil,not_false_eq_true,and_self,aq,ap,aN,aM,ax,aw,au,ar,kB,kA,h,h1,bc,ua,nK,nJ,gJ,ha]
   exact gz (p:=⟨l,{ p.s with vals:=[⟨va,vp,vm⟩] }⟩) 21 22 23 24 rfl ⟨rfl,rfl,rfl,rfl,rfl,by decide⟩
  | false =>
   rw [h2,if_neg (by rw [ha];decide)]
   simp only [go_sem,psB,psK,psL,aX,bj,aS,aP,am,ao,ak,stK,vlK,byK,ac,aB,aA,xs2,xs1,xs0,bV,aE,ae,aF,ag,aG,aH,aD,List.nodup_cons,List.mem_cons,List.not_mem_nil,or_false,not_or,List.nodup_nil,not_false_eq_true,and_self,aq,ap,aN,aM,ax,aw,au,ar,kB,kA,h,h1,bc,aL,ua,nK,nJ,gJ,ha]
def iZ:bi Tryz.prog 103 :=
 CE _ _ _ Tryz.func103 rfl (fun _ _=>by go_simp) (xs0) ((fun _ p=>BodyOk 1000 1000 p∧p.s.vals=[])) ((fun _ p=>cf (jn p))) (by rw [Tryz.ntmps103];decide) (fun _ p h=>G2 p h.1 h.2)
theorem rW {id:Nat} {h:ah} {args:List AV}:(iZ).run id h args=gu 1 (aX (xs0) ((fun _ p=>BodyOk 1000 1000 p∧p.s.vals=[]))) (fun x=>cY (((fun _ p=>cf (jn p))) x.1 x.2)) id h args:=rfl
theorem rV {id:Nat} {h:ah} {args:List AV}:(iZ).pan id h args=fX (aX (xs0) ((fun _ p=>BodyOk 1000 1000 p∧p.s.vals=[]))) (fun x=>cY (((fun _ p=>cf (jn p))) x.1 x.2)) h args:=rfl
theorem Hd (p:PsV) (h:∀ t∈p.l,t.text.size≤1000000):SW Tryz.prog ⟨none,1⟩ Tryz.f108.ntmps (Tryz.f108.body.getD .skip) ⟨5,aC 0 [pv 0 0 0],bB 0 (psB p)⟩ (dy Tryz.prog Tryz.f108.results.toList 1 (cY (cf (jo p)))):=by
 refine aa (ctx:=[⟨_,mZ⟩]) 4000 ?_
 rw [Tryz.ntmps108,Tryz.results108]
 simp only [Tryz.f108,Option.getD_some,aC]
 rcases hv:nextF 3 112 p.l with e | ⟨t,l⟩
 ·have h1:jo p=.error e:=by unfold jo;rw [hv]
  have h2:j4 3 112 p=.error e:=by unfold j4;rw [hv]
  rw [h1]
  simp only [go_sem,psB,psK,psL,aX,bj,aS,aP,am,ao,ak,stK,vlK,byK,ac,aB,aA,xs2,xs1,xs0,bV,aE,ae,aF,ag,aG,aH,aD,List.nodup_cons,List.mem_cons,List.not_mem_nil,or_false,not_or,List.nodup_nil,not_false_eq_true,and_self,aq,ap,aN,aM,ax,aw,au,ar,h2,aL]
 ·have h1:jo p=.ok ⟨l,{ p.s with bytes:=ab t }⟩:=by unfold jo;rw [hv]
  have h2:j4 3 112 p=.ok (sv t,⟨l,p.s⟩):=by unfold j4;rw [hv]
  have hz:t.size≤maxLen:=by
   have e:t=atF p.l 3 0:=by
    unfold nextF at hv
    split at hv
    ·injection hv with hv
     injection hv with hv
     exact hv.symm
    ·cases hv
   rw [e]
   unfold atF maxLen
   split
   ·rename_i u hu
    split
    ·have:=h u (List.mem_of_getElem? hu)
     omega
    ·show (0:Nat)≤_
     omega
   ·show (0:Nat)≤_
    omega
  rw [h1]
  simp only [go_sem,psB,psK,psL,aX,bj,aS,aP,am,ao,ak,stK,vlK,byK,ac,aB,aA,xs2,xs1,xs0,bV,aE,ae,aF,ag,aG,aH,aD,List.nodup_cons,List.mem_cons,List.not_mem_nil,or_false,not_or,List.nodup_nil,not_false_eq_true,and_self,aq,ap,aN,aM,ax,aw,au,ar,h2,bc]
  refine ⟨hz,gz (p:=⟨l,{ p.s with bytes:=ab t }⟩) 1 2 3 53 rfl ⟨?_,rfl,rfl,rfl,rfl,by decide⟩⟩
  rw [psK,psL,aW];rfl
def i6:bi Tryz.prog 108 :=
 CE _ _ _ Tryz.func108 rfl (fun _ _=>by go_simp) (xs0) ((fun _ p=>∀ t∈p.l,t.text.size≤1000000)) ((fun _ p=>cf (jo p))) (by rw [Tryz.ntmps108];decide) (fun _ p h=>Hd p h)
theorem rY {id:Nat} {h:ah} {args:List AV}:(i6).run id h args=gu 1 (aX (xs0) ((fun _ p=>∀ t∈p.l,t.text.size≤1000000))) (fun x=>cY (((fun _ p=>cf (jo p))) x.1 x.2)) id h args:=rfl
theorem rX {id:Nat} {h:ah} {args:List AV}:(i6).pan id h args=fX (aX (xs0) ((fun _ p=>∀ t∈p.l,t.text.size≤1000000))) (fun x=>cY (((fun _ p=>cf (jo p))) x.1 x.2)) h args:=rfl
end
section
open Go.RowKit
open Ex (Xs xs0)
theorem oW (l:List ByteArray) (s:ByteArray):l.map nr++[[.v (.string s)]]=(l++[s]).map nr:=by
 rw [List.map_append];rfl
theorem Nl {p:PsV} {st:St} {X:et} (lb nb vb bb:Nat) (hp:GS st.h 0 lb nb vb bb p) (hX:X.map (fun p=>dk st.t p.1)=X.map fun p=>p.2.ren fun j=>[0,lb,nb,vb,bb].getD j st.nx):Wk ⟨none,1⟩ st ⟨5,X,bB 0 (psB p)⟩:=by
 refine Wk.ren [0,lb,nb,vb,bb] (by intro j hj;have:j=0:=(by simpa using hj);subst this;rfl) (Nat.le_refl _) hp.nd (fun p hp=>List.map_inj_left.1 hX p hp) ?_
 intro q hq k hk
 simp only [psB,bB,List.mem_cons,List.not_mem_nil,or_false] at hq
 rcases hq with rfl | rfl | rfl | rfl | rfl
 ·simp only [Option.some.injEq] at hk
  subst hk
  simp only [List.getD_eq_getElem?_getD,List.getElem?_cons_zero,Option.getD_some,hp.p0,nN]
  rfl
 ·simp only [Option.some.injEq] at hk
  subst hk
  simp only [List.getD_eq_getElem?_getD,List.getElem?_cons_succ,List.getElem?_cons_zero,Option.getD_some,hp.p1,ee]
 ·simp only [Option.some.injEq] at hk
  subst hk
  simp only [List.getD_eq_getElem?_getD,List.getElem?_cons_succ,List.getElem?_cons_zero,Option.getD_some,hp.p2,ee]
 ·simp only [Option.some.injEq] at hk
  subst hk
  simp only [List.getD_eq_getElem?_getD,List.getElem?_cons_succ,List.getElem?_cons_zero,Option.getD_some,hp.p3,nR]
 ·simp only [Option.some.injEq] at hk
  subst hk
  simp only [List.getD_eq_getElem?_getD,List.getElem?_cons_succ,List.getElem?_cons_zero,Option.getD_some,hp.p4,nG]
def Rq (s:StV) (i:Nat×List ByteArray×List Tok):St:=⟨5,[(0,pv 0 0 0)],bB 0 (psB ⟨i.2.2,{ s with labels:=i.2.1 }⟩)⟩
def uv (s:StV) (r:Except Int (List ByteArray×List Tok)):Except Int (AV×PsV):=match r with
 | .ok (ls,l)=>.ok (iA,⟨l,{ s with labels:=ls }⟩)
 | .error e=>.error e
theorem Ig (p:PsV) (h:RdOk p.l) (h0:p.s.labels=[]):SW Tryz.prog ⟨none,1⟩ Tryz.f44.ntmps (Tryz.f44.body.getD .skip) ⟨5,aC 0 [pv 0 0 0],bB 0 (psB p)⟩ (dy Tryz.prog Tryz.f44.results.toList 1 (cY (uv p.s (labelsF p.l.length [] p.l)))):=by
 refine aa (ctx:=[]) 4000 ?_
 rw [Tryz.ntmps44,Tryz.results44]
 simp only [Tryz.f44,Option.getD_some,aC]
 simp only [go_sem,psB,psK,psL,aX,bj,aS,aP,am,ao,ak,stK,vlK,byK,ac,aB,aA,xs2,xs1,xs0,bV,aE,ae,aF,ag,aG,aH,aD,List.nodup_cons,List.mem_cons,List.not_mem_nil,or_false,not_or,List.nodup_nil,not_false_eq_true,and_self,aq,ap,aN,aM,ax,aw,au,ar]
 refine cW (ι:=Nat×List ByteArray×List Tok) (fun i=>i.2.2.length≤i.1∧RdOk i.2.2∧i.2.1.length≤8∧labelsF i.1 i.2.1 i.2.2=labelsF p.l.length [] p.l) (Rq p.s) (fun i=>i.1) (p.l.length,[],p.l) ⟨Nat.le_refl _,h,Nat.zero_le _,rfl⟩ ?_ ?_
 ·refine Wk.renL [0,1,2,3,4] (by intro j hj;have:j=0:=(by simpa using hj);subst this;rfl) (Nat.le_refl 5) (by decide) rfl ?_
  simp only [Rq,go_sem,psB,psK,psL,aX,bj,aS,aP,am,ao,ak,stK,vlK,byK,ac,aB,aA,xs2,xs1,xs0,bV,aE,ae,aF,ag,aG,aH,aD,List.nodup_cons,List.mem_cons,List.not_mem_nil,or_false,not_or,List.nodup_nil,not_false_eq_true,and_self,aq,ap,aN,aM,ax,aw,au,ar,bB,List.map_cons,List.map_nil,h0]
 rintro ⟨N,out,l⟩ ⟨hN,hk,h8,hR⟩
 simp only at hN hk h8 hR
 unfold Rq
 refine aa (ctx:=[⟨_,K6⟩,⟨_,uJ⟩,⟨_,fC⟩]) 4000 ?_
 have hcol:¬(⟨#[58]⟩:ByteArray)=emp:=by decide
 cases hi:isF l 1 0 with
 | false =>
  have e:labelsF N out l=.ok (out,l):=by
   cases N with
   | zero=>rfl
   | succ N=>unfold labelsF;rw [if_neg (by rw [hi];rintro ⟨h,-⟩;cases h)]
  rw [← hR,e]
  simp only [go_sem,psB,psK,psL,aX,bj,aS,aP,am,ao,ak,stK,vlK,byK,ac,aB,aA,xs2,xs1,xs0,bV,aE,ae,aF,ag,aG,aH,aD,List.nodup_cons,List.mem_cons,List.not_mem_nil,or_false,not_or,List.nodup_nil,not_false_eq_true,and_self,aq,ap,aN,aM,ax,aw,au,ar,uv,hi,hcol,Int.toNat_zero,Int.toNat_one]
  exact gz (p:=⟨l,{ p.s with labels:=out }⟩) 1 2 3 4 rfl ⟨rfl,rfl,rfl,rfl,rfl,by decide⟩
 | true =>
  by_cases hc:atF l 4 1=gy
  case neg =>
   have e:labelsF N out l=.ok (out,l):=by
    cases N with
    | zero=>rfl
    | succ N=>unfold labelsF;rw [if_neg (fun h=>hc h.2)]
   have hc':¬atF l 4 1=(⟨#[58]⟩:ByteArray):=hc
   rw [← hR,e]
   simp only [go_sem,psB,psK,psL,aX,bj,aS,aP,am,ao,ak,stK,vlK,byK,ac,aB,aA,xs2,xs1,xs0,bV,aE,ae,aF,ag,aG,aH,aD,List.nodup_cons,List.mem_cons,List.not_mem_nil,or_false,not_or,List.nodup_nil,not_false_eq_true,and_self,aq,ap,aN,aM,ax,aw,au,ar,uv,hi,hcol,Int.toNat_zero,Int.toNat_one,hc']
   exact gz (p:=⟨l,{ p.s with labels:=out }⟩) 1 2 3 4 rfl ⟨rfl,rfl,rfl,rfl,rfl,by decide⟩
  have hc':atF l 4 1=(⟨#[58]⟩:ByteArray):=hc
  have hl1:=AU hi
  have hl2:1<l.length:=jN (k:=4) (n:=1) (by rw [hc];decide)
  have hl1I:(0:Int)<l.length:=by omega
  have hl2I:(2:Int)≤l.length:=by omega
  obtain ⟨M,rfl⟩:∃ M,N=M+1:=⟨N-1,by omega⟩
  rcases hl:l[0]? with _ | t
  ·have:=List.getElem?_eq_none_iff.1 hl;omega
  have hkk:t.kind=1:=by unfold isF at hi;rw [hl] at hi;exact of_decide_eq_true hi
  have ht:atF l 1 0=t.text:=by unfold atF;rw [hl];simp only [if_pos hkk]
  have hL:labelsF (M+1) out l=if t.text=tk then .error 110 else if out.length=8 then .error 3 else labelsF M (out++[t.text]) (l.drop 2):=by
   conv=>lhs;unfold labelsF
   rw [if_pos ⟨hi,hc⟩,ht]
  by_cases hd:t.text=tk
  ·rw [← hR,hL,if_pos hd]
   have hd':(t.text=(⟨#[46]⟩:ByteArray))=True:=eq_true hd
   simp only [go_sem,psB,psK,psL,aX,bj,aS,aP,am,ao,ak,stK,vlK,byK,ac,aB,aA,xs2,xs1,xs0,bV,aE,ae,aF,ag,aG,aH,aD,List.nodup_cons,List.mem_cons,List.not_mem_nil,or_false,not_or,List.nodup_nil,not_false_eq_true,and_self,aq,ap,aN,aM,ax,aw,au,ar,uv,hi,hcol,Int.toNat_zero,Int.toNat_one,hc',hl1I,hl,lM,List.length_map,hd']
  have hd':¬t.text=(⟨#[46]⟩:ByteArray):=hd
  by_cases h88:out.length=8
  ·rw [← hR,hL,if_neg hd,if_pos h88]
   have h8I:((out.length:Int)=8)=True:=eq_true (by omega)
   simp only [go_sem,psB,psK,psL,aX,bj,aS,aP,am,ao,ak,stK,vlK,byK,ac,aB,aA,xs2,xs1,xs0,bV,aE,ae,aF,ag,aG,aH,aD,List.nodup_cons,List.mem_cons,List.not_mem_nil,or_false,not_or,List.nodup_nil,not_false_eq_true,and_self,aq,ap,aN,aM,ax,aw,au,ar,uv,hi,hcol,Int.toNat_zero,Int.toNat_one,hc',hl1I,hl,lM,List.length_map,hd',h8I]
  have h8I:¬(out.length:Int)=8:=by omega
  rw [hL,if_neg hd,if_neg h88] at hR
  have m1:out.length+1≤maxLen:=by unfold maxLen;omega
  have m2:(out.length+1)*16≤140737488355328:=by omega
  simp only [go_sem,psB,psK,psL,aX,bj,aS,aP,am,ao,ak,stK,vlK,byK,ac,aB,aA,xs2,xs1,xs0,bV,aE,ae,aF,ag,aG,aH,aD,List.nodup_cons,List.mem_cons,List.not_mem_nil,or_false,not_or,List.nodup_nil,not_false_eq_true,and_self,aq,ap,aN,aM,ax,aw,au,ar,uv,hi,hcol,Int.toNat_zero,Int.toNat_one,hc',hl1I,hl,lM,List.length_map,hd',h8I]
  refine bI (ctx:=[]) mixed [14,18] (by kernel_rfl) ?_
  simp only [go_sem,psB,psK,psL,aX,bj,aS,aP,am,ao,ak,stK,vlK,byK,ac,aB,aA,xs2,xs1,xs0,bV,aE,ae,aF,ag,aG,aH,aD,List.nodup_cons,List.mem_cons,List.not_mem_nil,or_false,not_or,List.nodup_nil,not_false_eq_true,and_self,aq,ap,aN,aM,ax,aw,au,ar,m1,m2,hl1I,hl,lM,List.length_map]
  refine ⟨hl2I,(M,out++[t.text],l.drop 2),⟨by simp;omega,hk.drop 2,by simp;omega,hR⟩,Nat.lt_succ_self M,?_⟩
  refine Nl (p:=⟨l.drop 2,{ p.s with labels:=out++[t.text] }⟩) 597 2 3 4 ⟨?_,?_,rfl,rfl,rfl,by decide⟩ rfl
  ·rw [psK,psL,List.length_append,← mL l 2 (by omega)];rfl
  ·rw [stK,← oW];rfl
def jw:bi Tryz.prog 44 :=
 CE _ _ _ Tryz.func44 rfl (fun _ _=>by go_simp) (xs0) ((fun _ p=>RdOk p.l∧p.s.labels=[])) ((fun _ p=>uv p.s (labelsF p.l.length [] p.l))) (by rw [Tryz.ntmps44];decide) (fun _ p h=>Ig p h.1 h.2)
theorem gL {id:Nat} {h:ah} {args:List AV}:(jw).run id h args=gu 1 (aX (xs0) ((fun _ p=>RdOk p.l∧p.s.labels=[]))) (fun x=>cY (((fun _ p=>uv p.s (labelsF p.l.length [] p.l))) x.1 x.2)) id h args:=rfl
theorem gK {id:Nat} {h:ah} {args:List AV}:(jw).pan id h args=fX (aX (xs0) ((fun _ p=>RdOk p.l∧p.s.labels=[]))) (fun x=>cY (((fun _ p=>uv p.s (labelsF p.l.length [] p.l))) x.1 x.2)) h args:=rfl
end
section
open Go.RowKit
open Ex (Xs xs0)
def dx (g:FuncId) (q:PsV→Prop) (h:ah):List AV→Option (Prop×List Nat×PsV)
 | [A,.fn g' [.p b' 0 0] []]=>match bj h A with
  | some (bs,p)=>if g'=g∧bs.head? = some b' then some (q p,bs,p) else none
  | none=>none
 | _=>none
def QA (f:FuncId) (fn:Func) (c:Code) (hf:Tryz.prog.funcs[f]? = some fn) (hb:fn.body=some c)
  (hen:∀ (args:Array Value) (w:World),(callFunc f args).run Tryz.prog w=.ok (.enter f args) w) (g:FuncId) (q:PsV→Prop) (F:PsV→Except Int (AV×PsV)) (hn:2≤fn.ntmps)
  (body:∀ p,q p→SW Tryz.prog ⟨none,1⟩ fn.ntmps c ⟨5,aC 0 [pv 0 0 0,.fn g [.p 0 0 0] []],bB 0 (psB p)⟩ (dy Tryz.prog fn.results.toList 1 (cY (F p)))):bi Tryz.prog f :=
 mkR 1 5 (by decide) f fn c hf hb hen (dx g q) (fun _=>[pv 0 0 0,.fn g [.p 0 0 0] []]) (fun p=>psB p) (fun p=>cY (F p))
  (by
   intro h h' args r hs hd
   unfold dx at hd ⊢
   split at hd
   ·split at hd
    ·rename_i h1
     rw [pn hs h1]
     exact hd
    ·cases hd
   ·cases hd)
  (by
   intro h zs q' bs p hd hq
   unfold dx at hd
   split at hd
   case h_2=>cases hd
   rename_i A g' b'
   split at hd
   case h_2=>cases hd
   rename_i bs' p' h1
   split at hd
   case isFalse=>cases hd
   rename_i hc
   obtain ⟨rfl,hc⟩:=hc
   injection hd with hd
   injection hd with e1 hd
   injection hd with e2 e3
   subst e2
   subst e3
   obtain ⟨b,lb,nb,vb,bb,rfl,rfl,hp⟩:=td h1
   simp only [List.head?_cons,Option.some.injEq] at hc
   subst hc
   refine ⟨hn,rfl,rfl,hp.nd,fun d=>⟨?_,?_⟩⟩
   ·intro j b' k hj hk
    match j,hj,hk with
    | 0,hj,hk =>
     simp [psB] at hj hk
     subst hj
     subst hk
     exact ⟨rfl,by rw [hp.p0,nN];rfl⟩
    | 1,hj,hk =>
     simp [psB] at hj hk
     subst hj
     subst hk
     exact ⟨rfl,by rw [hp.p1,ee]⟩
    | 2,hj,hk =>
     simp [psB] at hj hk
     subst hj
     subst hk
     exact ⟨rfl,by rw [hp.p2,ee]⟩
    | 3,hj,hk =>
     simp [psB] at hj hk
     subst hj
     subst hk
     exact ⟨rfl,by rw [hp.p3,nR]⟩
    | 4,hj,hk =>
     simp [psB] at hj hk
     subst hj
     subst hk
     exact ⟨rfl,by rw [hp.p4,nG]⟩
   ·intro ρ al vals hA
    match vals,hA with
    | [v,u],⟨a,r,_⟩ =>
     refine ⟨a,?_,trivial⟩
     obtain ⟨fs,cs,e,r1,r2⟩:=r
     refine ⟨fs,cs,e,?_,?_⟩
     ·match fs,r1 with
      | [y],r3=>exact r3
     ·match cs,r2 with
      | [],_=>trivial)
  (by
   intro h zs q' bs p hd hq
   unfold dx at hd
   split at hd
   case h_2=>cases hd
   split at hd
   case h_2=>cases hd
   split at hd
   case isFalse=>cases hd
   injection hd with hd
   injection hd with e1 hd
   injection hd with e2 e3
   subst e1
   subst e3
   exact body _ hq)
def Px (g:FuncId) (i:Nat×PsV):St:=⟨5,[(0,pv 0 0 0),(1,.fn g [.p 0 0 0] []),(4,iv (64-i.1:Nat))],bB 0 (psB i.2)⟩
theorem Pz (p:PsV) (h:BodyOk 1000 800 p):SW Tryz.prog ⟨none,1⟩ Tryz.f102.ntmps (Tryz.f102.body.getD .skip) ⟨5,aC 0 [pv 0 0 0,.fn 149 [.p 0 0 0] []],bB 0 (psB p)⟩ (dy Tryz.prog Tryz.f102.results.toList 1 (cY (cf (fh valR2 63 p)))):=by
 refine aa (ctx:=[]) 4000 ?_
 rw [Tryz.ntmps102,Tryz.results102]
 simp only [Tryz.f102,Option.getD_some,aC]
 simp only [go_sem,psB,psK,psL,aX,bj,aS,aP,am,ao,ak,stK,vlK,byK,ac,aB,aA,xs2,xs1,xs0,bV,aE,ae,aF,ag,aG,aH,aD,List.nodup_cons,List.mem_cons,List.not_mem_nil,or_false,not_or,List.nodup_nil,not_false_eq_true,and_self,aq,ap,aN,aM,ax,aw,au,ar]
 refine cW (ι:=Nat×PsV) (fun i=>i.1≤63∧BodyOk 1000 (900-i.1) i.2∧fh valR2 i.1 i.2=fh valR2 63 p) (Px 149) (fun i=>i.1) (63,p) ⟨Nat.le_refl _,h.to (Nat.le_refl _) (show 800≤900-63 by decide),rfl⟩ ?_ ?_
 ·exact Nl (p:=p) 1 2 3 4 ⟨rfl,rfl,rfl,rfl,rfl,by decide⟩ rfl
 rintro ⟨N,q⟩ ⟨hN,hk,hR⟩
 simp only at hN hk hR
 unfold Px
 refine aa (ctx:=[⟨_,Dw⟩,⟨_,uJ⟩,⟨_,fC⟩]) 4000 ?_
 have hcom:¬(⟨#[44]⟩:ByteArray)=emp:=by decide
 have hk':BodyOk 1000 1000 q:=hk.to (Nat.le_refl _) (by omega)
 rcases hv:valR2 q with e | q1
 ·have hr:fh valR2 N q=.error e:=by unfold fh;rw [hv]
  rw [← hR,hr]
  simp only [go_sem,psB,psK,psL,aX,bj,aS,aP,am,ao,ak,stK,vlK,byK,ac,aB,aA,xs2,xs1,xs0,bV,aE,ae,aF,ag,aG,aH,aD,List.nodup_cons,List.mem_cons,List.not_mem_nil,or_false,not_or,List.nodup_nil,not_false_eq_true,and_self,aq,ap,aN,aM,ax,aw,au,ar,aL,kB,kA,hk',hv]
 ·obtain ⟨g1,-⟩:=ub hk hv
  by_cases hc:atF q1.l 4 0=fJ
  case neg =>
   have hc':¬atF q1.l 4 0=(⟨#[44]⟩:ByteArray):=hc
   have hr:fh valR2 N q=.ok q1:=by unfold fh;rw [hv];simp only [if_neg hc]
   rw [← hR,hr]
   simp only [go_sem,psB,psK,psL,aX,bj,aS,aP,am,ao,ak,stK,vlK,byK,ac,aB,aA,xs2,xs1,xs0,bV,aE,ae,aF,ag,aG,aH,aD,List.nodup_cons,List.mem_cons,List.not_mem_nil,or_false,not_or,List.nodup_nil,not_false_eq_true,and_self,aq,ap,aN,aM,ax,aw,au,ar,bc,kB,kA,hk',hv,hcom,hc',Int.toNat_zero]
   exact gz (p:=q1) 21 22 23 24 rfl ⟨rfl,rfl,rfl,rfl,rfl,by decide⟩
  have hc':atF q1.l 4 0=(⟨#[44]⟩:ByteArray):=hc
  have hl1:(1:Int)≤q1.l.length:=by have:=jN (l:=q1.l) (k:=4) (n:=0) (by rw [hc];decide);omega
  cases N with
  | zero =>
   have hr:fh valR2 0 q=.error 3:=by unfold fh;rw [hv];simp only [if_pos hc]
   rw [← hR,hr]
   simp only [go_sem,psB,psK,psL,aX,bj,aS,aP,am,ao,ak,stK,vlK,byK,ac,aB,aA,xs2,xs1,xs0,bV,aE,ae,aF,ag,aG,aH,aD,List.nodup_cons,List.mem_cons,List.not_mem_nil,or_false,not_or,List.nodup_nil,not_false_eq_true,and_self,aq,ap,aN,aM,ax,aw,au,ar,bc,aL,kB,kA,hk',hv,hcom,hc',Int.toNat_zero,Nat.sub_zero,Int.cast_ofNat_Int,Int.reduceEq]
  | succ M =>
   have hr:fh valR2 (M+1) q=fh valR2 M ⟨q1.l.drop 1,q1.s⟩:=by conv=>lhs;unfold fh;rw [hv];simp only [if_pos hc]
   rw [hr] at hR
   have e64:(((64-(M+1):Nat):Int)=64)=False:=eq_false (by omega)
   have ew:IntKind.i64.wrap (((64-(M+1):Nat):Int)+1)=((64-M:Nat):Int):=by rw [IntKind.wrap_i64];omega
   have hd:=mL q1.l 1 (by omega)
   simp only [go_sem,psB,psK,psL,aX,bj,aS,aP,am,ao,ak,stK,vlK,byK,ac,aB,aA,xs2,xs1,xs0,bV,aE,ae,aF,ag,aG,aH,aD,List.nodup_cons,List.mem_cons,List.not_mem_nil,or_false,not_or,List.nodup_nil,not_false_eq_true,and_self,aq,ap,aN,aM,ax,aw,au,ar,bc,kB,kA,hk',hv,hcom,hc',Int.toNat_zero,e64,ew,hl1,List.length_map,hd,Int.toNat_one]
   refine ⟨(M,⟨q1.l.drop 1,q1.s⟩),⟨by omega,(kM g1).to (Nat.le_refl _) (by omega),hR⟩,Nat.lt_succ_self M,?_⟩
   exact Nl (p:=⟨q1.l.drop 1,q1.s⟩) 21 22 23 24 ⟨rfl,rfl,rfl,rfl,rfl,by decide⟩ rfl
theorem AJ (args:Array Value) (w:World):(callFunc 102 args).run Tryz.prog w=.ok (.enter 102 args) w:=by go_simp
def ML:bi Tryz.prog 102 :=
 QA _ _ _ Tryz.func102 rfl AJ 149 (fun p=>BodyOk 1000 800 p) (fun p=>cf (fh valR2 63 p)) (by rw [Tryz.ntmps102];decide) Pz
theorem C9 {id:Nat} {h:ah} {args:List AV}:ML.run id h args=gu 1 (dx 149 fun p=>BodyOk 1000 800 p) (fun p=>cY (cf (fh valR2 63 p))) id h args:=rfl
theorem C8 {id:Nat} {h:ah} {args:List AV}:ML.pan id h args=fX (dx 149 fun p=>BodyOk 1000 800 p) (fun p=>cY (cf (fh valR2 63 p))) h args:=rfl
theorem Ks (n:Int) (p:PsV) (h:BodyOk 1000 800 p):SW Tryz.prog ⟨none,1⟩ Tryz.f105.ntmps (Tryz.f105.body.getD .skip) ⟨5,aC 0 [pv 0 0 0,iv n],bB 0 (psB p)⟩ (dy Tryz.prog Tryz.f105.results.toList 1 (cY (cf (eU n p)))):=by
 refine aa (ctx:=[⟨_,ML⟩]) 4000 ?_
 rw [Tryz.ntmps105,Tryz.results105]
 simp only [Tryz.f105,Option.getD_some,aC]
 have h2:BodyOk 1000 800 ⟨p.l,{ p.s with kind:=5,size:=n }⟩:=h.with h.toks rfl rfl
 unfold eU
 rcases hr:fh valR2 63 ⟨p.l,{ p.s with kind:=5,size:=n }⟩ with e | q
 ·simp only [go_sem,psB,psK,psL,aX,bj,aS,aP,am,ao,ak,stK,vlK,byK,ac,aB,aA,xs2,xs1,xs0,bV,aE,ae,aF,ag,aG,aH,aD,List.nodup_cons,List.mem_cons,List.not_mem_nil,or_false,not_or,List.nodup_nil,not_false_eq_true,and_self,aq,ap,aN,aM,ax,aw,au,ar,aL,C9,C8,dx,List.head?_cons,h2,hr]
 ·simp only [go_sem,psB,psK,psL,aX,bj,aS,aP,am,ao,ak,stK,vlK,byK,ac,aB,aA,xs2,xs1,xs0,bV,aE,ae,aF,ag,aG,aH,aD,List.nodup_cons,List.mem_cons,List.not_mem_nil,or_false,not_or,List.nodup_nil,not_false_eq_true,and_self,aq,ap,aN,aM,ax,aw,au,ar,bc,C9,C8,dx,List.head?_cons,h2,hr]
  exact gz (p:=q) 229 230 231 232 rfl ⟨rfl,rfl,rfl,rfl,rfl,by decide⟩
def wN:bi Tryz.prog 105 :=
 CE _ _ _ Tryz.func105 rfl (fun _ _=>by go_simp) (aB) ((fun _ p=>BodyOk 1000 800 p)) ((fun n p=>cf (eU n p))) (by rw [Tryz.ntmps105];decide) (fun n p h=>Ks n p h)
theorem my {id:Nat} {h:ah} {args:List AV}:(wN).run id h args=gu 1 (aX (aB) ((fun _ p=>BodyOk 1000 800 p))) (fun x=>cY (((fun n p=>cf (eU n p))) x.1 x.2)) id h args:=rfl
theorem mw {id:Nat} {h:ah} {args:List AV}:(wN).pan id h args=fX (aX (aB) ((fun _ p=>BodyOk 1000 800 p))) (fun x=>cY (((fun n p=>cf (eU n p))) x.1 x.2)) h args:=rfl
end
end Go.Proofs.YtnhbidpdadkcjaaGreatDoor
