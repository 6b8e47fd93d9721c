import Derived.Test.YtpjlafmhoifkmaaGreatN24
set_option linter.unusedVariables false
set_option linter.unusedSimpArgs false
set_option maxRecDepth 100000
set_option maxHeartbeats 8000000
namespace Go.Proofs.YtpjlafmhoifkmaaGreat
section
open Go.RowKit
def pcK (b:Nat):Blk:=⟨true,66,1,[[.p b 0 0]]⟩
def sf (kk:Blk) (h:ah):List AV→Option (Prop×List Nat×(Ins×ByteArray×List OpV))
 | [.s (.l (.p pc 0 0)),.s (.l (.p oc 0 0))]=>match hget h pc with
  | some ⟨true,T,1,[[.p b 0 0]]⟩=>match aX h (.s (.l (.p b 0 0))) with
   | some ([b',tb],x,nm,l)=>match hget h oc with
    | some k=>if T=66∧b'=b∧[b,pc,oc,tb].Nodup then some (k=kk∧l.length≤1000,[b,pc,oc,tb],(x,nm,l)) else none
    | none=>none
   | _=>none
  | _=>none
 | _=>none
theorem xn {kk:Blk} {h:ah} {zs:List AV} {q:Prop} {bs:List Nat} {x:Ins} {nm:ByteArray} {l:List OpV} (hd:sf kk h zs=some (q,bs,x,nm,l)) :
  ∃ b pc oc tb k,zs=[.s (.l (.p pc 0 0)),.s (.l (.p oc 0 0))]∧bs=[b,pc,oc,tb]∧[b,pc,oc,tb].Nodup∧hget h b=some (wrK x nm l.length tb)∧hget h tb=some (ay l)∧hget h pc=some (pcK b)∧hget h oc=some k∧q=(k=kk∧l.length≤1000):=by
 unfold sf at hd
 split at hd
 case h_2=>cases hd
 rename_i pc oc
 split at hd
 case h_2=>cases hd
 rename_i T b hp
 split at hd
 case h_2=>cases hd
 rename_i b' tb x' nm' l' hw
 split at hd
 case h_2=>cases hd
 rename_i k hk
 split at hd
 case isFalse=>cases hd
 rename_i hc
 obtain ⟨rfl,rfl,hnd⟩:=hc
 simp only [Option.some.injEq,Prod.mk.injEq] at hd
 obtain ⟨rfl,rfl,rfl,rfl,rfl⟩:=hd
 obtain ⟨b2,tb2,e0,e,hne,g1,g2⟩:=iO hw
 simp only [List.cons.injEq,and_true] at e
 obtain ⟨rfl,rfl⟩:=e
 exact ⟨b',pc,oc,tb,k,rfl,rfl,hnd,g1,g2,hp,hk,rfl⟩
theorem yI {kk:Blk} {h h':ah} (hs:∀ b k,hget h b=some k→hget h' b=some k) {zs:List AV} {r:Prop×List Nat×(Ins×ByteArray×List OpV)} (hd:sf kk h zs=some r):sf kk h' zs=some r:=by
 unfold sf at hd ⊢
 split at hd
 case h_2=>cases hd
 split at hd
 case h_2=>cases hd
 rename_i hp
 simp only [hs _ _ hp]
 split at hd
 case h_2=>cases hd
 rename_i hw
 simp only [fT hs hw]
 split at hd
 case h_2=>cases hd
 rename_i hk
 simp only [hs _ _ hk]
 exact hd
def pH (kk:Blk) (o:OpV) (y:Ins×ByteArray×List OpV):RO :=
 .ret (.tup []) [some (wrK y.1 y.2.1 (y.2.2.length+1) 3),some (pcK 0),some kk] [ay (y.2.2++[o])]
theorem ru (b:Nat) (g:Nat→Nat):(pcK b).ren g=pcK (g b):=rfl
def El (f:FuncId) (fn:Func) (c:Code) (hf:Tryz.prog.funcs[f]? = some fn) (hb:fn.body=some c)
  (hen:∀ (args:Array Value) (w:World),(callFunc f args).run Tryz.prog w=.ok (.enter f args) w) (kk:Blk) (hk:∀ g,kk.ren g=kk) (ho:kk.own=true) (o:OpV) (hn:2≤fn.ntmps)
  (body:∀ x nm l,l.length≤1000→SW Tryz.prog ⟨none,3⟩ fn.ntmps c ⟨4,ag 0 [.s (.l (.p 1 0 0)),.s (.l (.p 2 0 0))],cn 0 [wrK x nm l.length 3,pcK 0,kk,ay l]⟩ (gn Tryz.prog fn.results.toList 3 (pH kk o (x,nm,l)))):aQ Tryz.prog f :=
 mkR 3 4 (by decide) f fn c hf hb hen (sf kk) (fun _=>[.s (.l (.p 1 0 0)),.s (.l (.p 2 0 0))]) (fun y=>[wrK y.1 y.2.1 y.2.2.length 3,pcK 0,kk,ay y.2.2]) (pH kk o) (fun hs hd=>yI hs hd)
  (by
   intro h zs q' bs y hd hq
   obtain ⟨x,nm,l⟩:=y
   obtain ⟨b,pc,oc,tb,k,rfl,rfl,hnd,h1,h2,h3,h4,rfl⟩:=xn hd
   obtain ⟨rfl,hl⟩:=hq
   refine ⟨hn,rfl,rfl,hnd,fun d=>⟨?_,?_⟩⟩
   ·intro j b' k' hj hk'
    match j,hj,hk' with
    | 0,hj,hk' =>
     simp at hj hk'
     subst hj
     subst hk'
     exact ⟨rfl,by rw [h1,g9];rfl⟩
    | 1,hj,hk' =>
     simp at hj hk'
     subst hj
     subst hk'
     exact ⟨rfl,by rw [h3,ru];rfl⟩
    | 2,hj,hk' =>
     simp at hj hk'
     subst hj
     subst hk'
     exact ⟨ho,by rw [h4,hk]⟩
    | 3,hj,hk' =>
     simp at hj hk'
     subst hj
     subst hk'
     exact ⟨rfl,by rw [h2,dH]⟩
   ·intro ρ al vals hA
    match vals,hA with
    | [v,w],⟨a,b,_⟩=>exact ⟨a,b,trivial⟩)
  (by
   intro h zs q' bs y hd hq
   obtain ⟨x,nm,l⟩:=y
   obtain ⟨b,pc,oc,tb,k,rfl,rfl,hnd,h1,h2,h3,h4,rfl⟩:=xn hd
   exact body x nm l hq.2)
structure Cst where
 g:FuncId
 kk:Blk
 own:kk.own=true
 ren:∀ f,kk.ren f=kk
 o:OpV
 spec:aQ Tryz.prog g
 run_eq:∀ (id:Nat) (h:ah) (args:List AV),spec.run id h args=bK 3 (sf kk) (pH kk o) id h args
 pan_eq:∀ (id:Nat) (h:ah) (args:List AV),spec.pan id h args=bO (sf kk) (pH kk o) h args
inductive Sx
 | s (st:Stp)
 | c
def Sx.F (c:Cst) (x:Ins):Sx→List OpV→List OpV
 | .s st,l=>st.F x l
 | .c,l=>l++[c.o]
def Sx.q (x:Ins):Sx→List OpV→Prop
 | .s st,l=>st.q x l
 | .c,l=>l.length≤1000
def sxF (c:Cst) (x:Ins):List Sx→List OpV→List OpV
 | [],l=>l
 | st::r,l=>sxF c x r (st.F c x l)
def sxQ (c:Cst) (x:Ins):List Sx→List OpV→Prop
 | [],_=>True
 | st::r,l=>st.q x l∧sxQ c x r (st.F c x l)
theorem xt (c:Cst) (x:Ins):∀ (a b:List Sx) (l:List OpV),sxF c x (a++b) l=sxF c x b (sxF c x a l)
 | [],_,_=>rfl
 | st::a,b,l=>xt c x a b (st.F c x l)
theorem Cq {c:Cst} {x:Ins} {S:List Sx} {i:Nat} {st:Sx} (h:S[i]? = some st) (l:List OpV):sxF c x (S.take (i+1)) l=st.F c x (sxF c x (S.take i) l):=by
 rw [List.take_add_one,h,xt]
 rfl
theorem DI {c:Cst} {x:Ins}:∀ {S:List Sx} {l:List OpV},sxQ c x S l→∀ {i:Nat} {st:Sx},S[i]? = some st→st.q x (sxF c x (S.take i) l)
 | [],_,_,_,_,hi=>by simp at hi
 | s::S,l,h,0,st,hi=>by
  simp only [List.getElem?_cons_zero,Option.some.injEq] at hi
  subst hi
  exact h.1
 | s::S,l,h,i+1,st,hi=>DI (S:=S) h.2 (by simpa using hi)
def sxL (c:Cst) (b pc oc:Nat):Sx→List LV
 | .s st=>[.bf st.g [b] []]
 | .c=>[.bf c.g [] [pc,oc]]
def sxK (c:Cst) (b pc oc:Nat) (S:List Sx):Blk:=⟨true,1,1,S.map (sxL c b pc oc)⟩
theorem Gm (c:Cst) (b pc oc:Nat) (st:Sx) (g:Nat→Nat):(sxL c b pc oc st).map (fun x=>LV.ren g x)=sxL c (g b) (g pc) (g oc) st:=by
 cases st<;>simp [sxL,LV.ren]
theorem Aw (c:Cst) (b pc oc:Nat) (S:List Sx) (g:Nat→Nat):List.map (List.map (fun x=>LV.ren g x)) (List.map (sxL c b pc oc) S)=List.map (sxL c (g b) (g pc) (g oc)) S:=by
 rw [List.map_map]
 exact List.map_congr_left fun st _=>Gm c b pc oc st g
def wv (c:Cst) (S:List Sx) (x:Ins) (nm:ByteArray) (l0:List OpV) (i:Nat):St :=
 ⟨6,[(0,.s (.l (.p 0 0 0))),(6,.s (.l (.p 5 0 0))),(14,.s (.l (.sl 2 0 S.length))),(15,iv S.length),(16,iv i)],[(0,some (wrK x nm (sxF c x (S.take i) l0).length 1)),(1,some (ay (sxF c x (S.take i) l0))),(2,some (sxK c 0 3 4 S)),(3,some (pcK 0)),(4,some c.kk),(5,some bB)]⟩
theorem nG (c:Cst) (b pc oc:Nat) (S:List Sx) (g:Nat→Nat):(sxK c b pc oc S).ren g=sxK c (g b) (g pc) (g oc) S:=by
 unfold sxK Blk.ren
 exact congrArg (fun r=>(⟨true,1,1,r⟩:Blk)) (Aw c b pc oc S g)
theorem AC (c:Cst) (S:List Sx) (x:Ins) (nm0 nm:ByteArray) (l0:List OpV) (hq:sxQ c x S l0) (hlen:S.length≤1000) :
  SW Tryz.prog ⟨none,1⟩ Tryz.f48.ntmps (Tryz.f48.body.getD .skip) ⟨5,ag 0 [.s (.l (.p 0 0 0)),sv nm,.s (.l (.sl 2 0 S.length))],cn 0 [wrK x nm0 l0.length 1,ay l0,sxK c 0 3 4 S,pcK 0,c.kk]⟩
   (fy Tryz.prog Tryz.f48.results.toList 1 (.ret (.s (.agg [.v (.string nm),.sl 1 0 (sxF c x S l0).length])) [some (wrK x nm (sxF c x S l0).length 1)] [ay (sxF c x S l0)])):=by
 have hkr:=c.ren
 have hke:∀ f,List.map (fun x=>List.map (fun x=>LV.ren f x) x) c.kk.els=c.kk.els:=fun f=>congrArg Blk.els (c.ren f)
 refine aa (ctx:=[]) 4000 ?_
 rw [Tryz.ntmps48,Tryz.results48]
 simp only [Tryz.f48,Option.getD_some,ag]
 simp only [go_sem,wrK,aw,ay,sxK,pcK]
 refine cM (ι:=Nat) (fun i=>i≤S.length) (wv c S x nm l0) (fun i=>S.length-i) 0 (Nat.zero_le _) ?start ?round
 case start =>
  exact Wk.renL [0,1,2,3,4,5] (fun j hj=>by
   obtain rfl:j=0:=Nat.lt_one_iff.1 hj
   rfl) (Nat.le_refl 6) (by decide) rfl (by show _=[some ((wrK _ _ _ _).ren _),some ((ay _).ren _),some ((sxK _ _ _ _ _).ren _),some ((pcK _).ren _),some (c.kk.ren _),some (bB.ren _)];rw [dH,nG,hkr];rfl)
 case round =>
  intro i hi
  by_cases hlt:i<S.length
  ·have hltI:(i:Int)<S.length:=by omega
   obtain ⟨st,hst⟩:∃ st,S[i]? = some st:=⟨_,List.getElem?_eq_getElem hlt⟩
   have hqs:=DI hq hst
   have hnx:=Cq (c:=c) (x:=x) hst l0
   have ei:IntKind.i64.wrap ((i:Int)+1)=((i+1:Nat):Int):=by rw [IntKind.wrap_i64];omega
   unfold wv
   obtain ⟨l,hl⟩:∃ l,sxF c x (S.take i) l0=l:=⟨_,rfl⟩
   rw [hl] at hqs hnx ⊢
   cases st with
   | s st =>
    have hqs':st.q x l:=hqs
    refine aa (ctx:=[⟨st.g,st.spec⟩]) 4000 ?_
    simp only [go_sem,wrK,aw,ay,sxK,sxL,pcK,hltI,hlt,hst,st.run_eq,st.pan_eq,cp,aX,aL,ap,xw0,bk,cz,hqs',ei]
    refine ⟨i+1,hlt,by omega,?_⟩
    rw [hnx]
    exact Wk.renL [0,86,2,3,4,5] (fun j hj=>by
     obtain rfl:j=0:=Nat.lt_one_iff.1 hj
     rfl) (Nat.le_refl 6) (by decide) rfl (by show _=[some ((wrK _ _ _ _).ren _),some ((ay _).ren _),some ((sxK _ _ _ _ _).ren _),some ((pcK _).ren _),some (c.kk.ren _),some (bB.ren _)];rw [dH,nG,hkr];rfl)
   | c =>
    have hqs':l.length≤1000:=hqs
    refine aa (ctx:=[⟨c.g,c.spec⟩]) 4000 ?_
    simp only [go_sem,wrK,aw,ay,sxK,sxL,pcK,hltI,hlt,hst,c.run_eq,c.pan_eq,sf,pH,aX,aL,ap,bk,cz,hqs',ei,hke,List.nodup_cons,List.nodup_nil,List.mem_cons,List.not_mem_nil,List.mem_nil_iff,or_false,false_or,or_self,not_false_eq_true,and_self,true_and,and_true]
    refine ⟨i+1,hlt,by omega,?_⟩
    rw [hnx]
    exact Wk.renL [0,86,2,3,4,5] (fun j hj=>by
     obtain rfl:j=0:=Nat.lt_one_iff.1 hj
     rfl) (Nat.le_refl 6) (by decide) rfl (by simp only [Sx.F,List.length_append,List.length_cons,List.length_nil];show _=[some ((wrK _ _ _ _).ren _),some ((ay _).ren _),some ((sxK _ _ _ _ _).ren _),some ((pcK _).ren _),some (c.kk.ren _),some (bB.ren _)];rw [dH,nG,hkr];rfl)
  ·obtain rfl:i=S.length:=by omega
   have hltI:¬(S.length:Int)<S.length:=by omega
   unfold wv
   rw [List.take_length]
   refine aa (ctx:=[]) 4000 ?_
   simp only [go_sem,wrK,aw,ay,sxK,bB,hltI,dE,cA]
   exact ⟨_,_,_,rfl,rfl,by simp,by simp,by simp,Wk.renL [0,1] (fun j hj=>by
    obtain rfl:j=0:=Nat.lt_one_iff.1 hj
    rfl) (Nat.le_refl _) (by decide) rfl (by simp [dC,cn,hget,Blk.ren,opL,opE,bX,ofD,LV.ren,Function.comp_def])⟩
def mV:List (List LV)→Option (Nat×Nat)
 | [.bf _ [] [pc,oc]]::_=>some (pc,oc)
 | _::r=>mV r
 | []=>none
def ky (T:eP) (c:Cst) (b pc oc:Nat):List LV→Option Sx
 | [.bf g [b'] []]=>if b'=b then (T.at_ g).map Sx.s else none
 | [.bf g [] [pc',oc']]=>if g=c.g∧pc'=pc∧oc'=oc then some .c else none
 | _=>none
theorem yK {T:eP} {c:Cst} {b pc oc:Nat} {e:List LV} {st:Sx} (h:ky T c b pc oc e=some st):e=sxL c b pc oc st:=by
 unfold ky at h
 split at h
 ·split at h
  case isFalse=>cases h
  rename_i g b' e
  subst e
  cases ht:T.at_ g with
  | none=>rw [ht] at h;cases h
  | some s =>
   rw [ht] at h
   simp only [Option.map_some,Option.some.injEq] at h
   subst h
   rw [sxL,T.ok ht]
 ·split at h
  case isFalse=>cases h
  rename_i e
  obtain ⟨rfl,rfl,rfl⟩:=e
  injection h with h
  subst h
  rfl
 ·cases h
def iL (T:eP) (c:Cst) (h:ah):List AV→Option (Prop×List Nat×(ByteArray×List Sx×(Ins×ByteArray×List OpV)))
 | [A,.s (.l (.v (.string nm))),.s (.l (.sl sb 0 n))]=>match aX h A with
  | some ([b,tb],x,nm0,l)=>match hget h sb with
   | some ⟨true,Tt,1,rows⟩=>match mV rows with
    | some (pc,oc)=>match aG (ky T c b pc oc) rows with
     | some S=>match hget h pc with
      | some kp=>match hget h oc with
       | some ko=>if Tt=1∧n=S.length∧[b,tb,sb,pc,oc].Nodup then some (kp=pcK b∧ko=c.kk∧sxQ c x S l∧S.length≤1000,[b,tb,sb,pc,oc],(nm,S,(x,nm0,l))) else none
       | none=>none
      | none=>none
     | none=>none
    | none=>none
   | _=>none
  | _=>none
 | _=>none
theorem tD {T:eP} {c:Cst} {h:ah} {zs:List AV} {q:Prop} {bs:List Nat} {nm:ByteArray} {S:List Sx} {x:Ins} {nm0:ByteArray} {l:List OpV} (hd:iL T c h zs=some (q,bs,nm,S,x,nm0,l)) :
  ∃ b tb sb pc oc kp ko,zs=[.s (.l (.p b 0 0)),sv nm,.s (.l (.sl sb 0 S.length))]∧bs=[b,tb,sb,pc,oc]∧[b,tb,sb,pc,oc].Nodup∧hget h b=some (wrK x nm0 l.length tb)∧hget h tb=some (ay l)∧hget h sb=some (sxK c b pc oc S)∧hget h pc=some kp∧hget h oc=some ko∧q=(kp=pcK b∧ko=c.kk∧sxQ c x S l∧S.length≤1000):=by
 unfold iL at hd
 split at hd
 case h_2=>cases hd
 rename_i A nm' sb n
 split at hd
 case h_2=>cases hd
 rename_i b tb x' nm0' l' hw
 split at hd
 case h_2=>cases hd
 rename_i Tt rows hs
 split at hd
 case h_2=>cases hd
 rename_i pc oc hcap
 split at hd
 case h_2=>cases hd
 rename_i S' hS
 split at hd
 case h_2=>cases hd
 rename_i kp hp
 split at hd
 case h_2=>cases hd
 rename_i ko hk
 split at hd
 case isFalse=>cases hd
 rename_i hc
 obtain ⟨rfl,rfl,hnd⟩:=hc
 simp only [Option.some.injEq,Prod.mk.injEq] at hd
 obtain ⟨rfl,rfl,rfl,rfl,rfl,rfl,rfl⟩:=hd
 obtain ⟨b2,tb2,rfl,e,hne,g1,g2⟩:=iO hw
 simp only [List.cons.injEq,and_true] at e
 obtain ⟨rfl,rfl⟩:=e
 exact ⟨b,tb,sb,pc,oc,kp,ko,rfl,rfl,hnd,g1,g2,by rw [hs,sxK,d6 (d:=ky T c b pc oc) (e:=sxL c b pc oc) (fun c x hc=>yK hc) hS],hp,hk,rfl⟩
theorem wI {T:eP} {c:Cst} {h h':ah} (hs:∀ b k,hget h b=some k→hget h' b=some k) {zs:List AV} {r:Prop×List Nat×(ByteArray×List Sx×(Ins×ByteArray×List OpV))} (hd:iL T c h zs=some r):iL T c h' zs=some r:=by
 unfold iL at hd ⊢
 split at hd
 case h_2=>cases hd
 split at hd
 case h_2=>cases hd
 rename_i hw
 simp only [fT hs hw]
 split at hd
 case h_2=>cases hd
 rename_i ht
 simp only [hs _ _ ht]
 split at hd
 case h_2=>cases hd
 rename_i e1
 split at hd
 case h_2=>cases hd
 rename_i e2
 split at hd
 case h_2=>cases hd
 rename_i e3
 split at hd
 case h_2=>cases hd
 rename_i e4
 simp only [e1,e2,hs _ _ e3,hs _ _ e4]
 exact hd
def m8 (c:Cst) (y:ByteArray×List Sx×(Ins×ByteArray×List OpV)):RO :=
 .ret (.s (.agg [.v (.string y.1),.sl 1 0 (sxF c y.2.2.1 y.2.1 y.2.2.2.2).length])) [some (wrK y.2.2.1 y.1 (sxF c y.2.2.1 y.2.1 y.2.2.2.2).length 1)] [ay (sxF c y.2.2.1 y.2.1 y.2.2.2.2)]
def cw (T:eP) (c:Cst):aQ Tryz.prog 48 :=
 mkQ 1 5 (by decide) _ _ _ Tryz.func48 rfl rM (iL T c) (fun y=>[.s (.l (.p 0 0 0)),sv y.1,.s (.l (.sl 2 0 y.2.1.length))]) (fun y=>[wrK y.2.2.1 y.2.2.2.1 y.2.2.2.2.length 1,ay y.2.2.2.2,sxK c 0 3 4 y.2.1,pcK 0,c.kk]) (m8 c) (by rw [Tryz.ntmps48];decide) (fun hs hd=>wI hs hd)
  (by
   intro h zs q' bs y hd hq
   obtain ⟨nm,S,x,nm0,l⟩:=y
   obtain ⟨b,tb,sb,pc,oc,kp,ko,rfl,rfl,hnd,h1,h2,h3,h4,h5,rfl⟩:=tD hd
   obtain ⟨rfl,rfl,hq1,hq2⟩:=hq
   refine ⟨by rw [Tryz.ntmps48];show 3≤27;decide,rfl,rfl,hnd,fun d=>⟨?_,?_⟩⟩
   ·intro j b' k hj hk
    match j,hj,hk with
    | 0,hj,hk =>
     simp at hj hk
     subst hj
     subst hk
     exact ⟨rfl,by rw [h1,g9];rfl⟩
    | 1,hj,hk =>
     simp at hj hk
     subst hj
     subst hk
     exact ⟨rfl,by rw [h2,dH]⟩
    | 2,hj,hk =>
     simp at hj hk
     subst hj
     subst hk
     exact ⟨rfl,by rw [h3,nG];rfl⟩
    | 3,hj,hk =>
     simp at hj hk
     subst hj
     subst hk
     exact ⟨rfl,by rw [h4,ru];rfl⟩
    | 4,hj,hk =>
     simp at hj hk
     subst hj
     subst hk
     exact ⟨c.own,by rw [h5,c.ren]⟩
   ·intro ρ al vals hA
    match vals,hA with
    | [v,w,u],⟨a,b,c,_⟩=>exact ⟨a,b,c,trivial⟩)
  (by
   intro h zs q' bs y hd hq
   obtain ⟨nm,S,x,nm0,l⟩:=y
   obtain ⟨b,tb,sb,pc,oc,kp,ko,rfl,rfl,hnd,h1,h2,h3,h4,h5,rfl⟩:=tD hd
   obtain ⟨rfl,rfl,hq1,hq2⟩:=hq
   exact AC c S x nm0 nm l hq1 hq2)
theorem gz {T:eP} {c:Cst} {id:Nat} {h:ah} {args:List AV}:(cw T c).run id h args=bT 1 (iL T c) (m8 c) id h args:=rfl
theorem gB {T:eP} {c:Cst} {id:Nat} {h:ah} {args:List AV}:(cw T c).pan id h args=none:=rfl
end
section
open Go.RowKit
theorem wV {st:St} {kk:Blk} (hk:∀ g,kk.ren g=kk) (ho:kk.own=true) {o:OpV} {x:Ins} {nm:ByteArray} {l:List OpV} {tb:Nat} (h0:hget st.h 0=some (wrK x nm (l.length+1) tb)) (h1:hget st.h 1=some (pcK 0)) (h2:hget st.h 2=some kk) (h3:hget st.h tb=some (ay (l++[o]))) (hn:2<tb) :
  na 3 st (pH kk o (x,nm,l)) (some (.tup [])):=by
 refine ⟨rfl,[some (wrK x nm (l.length+1) 3),some (pcK 0),some kk],[ay (l++[o])],rfl,rfl,by simp,by simp [wrK,pcK,ho],by simp [ay],Wk.ren [0,1,2,tb] ?_ (Nat.le_refl _) ?_ (fun p hp=>by cases hp) ?_⟩
 ·intro j hj
  have:j=0∨j=1∨j=2:=by
   have:j<3:=hj
   omega
  rcases this with rfl | rfl | rfl<;>rfl
 ·simp
  omega
 ·intro p hp k hk'
  simp only [dC,cn,List.cons_append,List.nil_append,List.mem_cons,List.not_mem_nil,or_false] at hp
  rcases hp with rfl | rfl | rfl | rfl
  ·simp only [Option.some.injEq] at hk'
   subst hk'
   simp only [List.getD_eq_getElem?_getD,List.getElem?_cons_zero,Option.getD_some,h0,g9]
   rfl
  ·simp only [Option.some.injEq] at hk'
   subst hk'
   simp only [List.getD_eq_getElem?_getD,List.getElem?_cons_succ,List.getElem?_cons_zero,Option.getD_some,h1,ru]
  ·simp only [Option.some.injEq] at hk'
   subst hk'
   simp only [List.getD_eq_getElem?_getD,List.getElem?_cons_succ,List.getElem?_cons_zero,Option.getD_some,h2,hk]
  ·simp only [Option.some.injEq] at hk'
   subst hk'
   simp only [List.getD_eq_getElem?_getD,List.getElem?_cons_succ,List.getElem?_cons_zero,Option.getD_some,h3,dH]
def fJ (x:Ins):Blk:=⟨true,27,10,[aw x]⟩
theorem GM (y x:Ins) (nm:ByteArray) (l:List OpV) (h:l.length≤1000):SW Tryz.prog ⟨none,3⟩ Tryz.f124.ntmps (Tryz.f124.body.getD .skip) ⟨4,ag 0 [.s (.l (.p 1 0 0)),.s (.l (.p 2 0 0))],cn 0 [wrK x nm l.length 3,pcK 0,fJ y,ay l]⟩ (gn Tryz.prog Tryz.f124.results.toList 3 (pH (fJ y) (oOf 6 y.a) (x,nm,l))):=by
 refine aa (ctx:=[]) 4000 ?_
 rw [Tryz.ntmps124,Tryz.results124]
 simp only [Tryz.f124,Option.getD_some,ag]
 simp only [go_sem,wrK,aw,ay,pcK,fJ]
 refine aI (ctx:=[⟨_,ofS⟩,⟨_,dV⟩]) ax [4] (by kernel_rfl) ?_
 simp only [go_sem,dR,dQ,bE,bF,opV,oOf,op0,r0,opR,opE,emp,cp,aX,aL,ap,xwT,bk,wrK,aw,ay,cz,h]
 refine wV (kk:=fJ y) (o:=oOf 6 y.a) (x:=x) (nm:=nm) (l:=l) (tb:=68) (fun _=>rfl) rfl ?_ ?_ ?_ ?_ (by decide)
 all_goals simp [hget,wrK,aw,fJ,pcK,ay,oOf,op0,r0,emp]
def EF (y:Ins):Cst where
 g:=124
 kk:=fJ y
 own:=rfl
 ren:=fun _=>rfl
 o:=oOf 6 y.a
 spec:=El _ _ _ Tryz.func124 rfl (fun _ _=>by go_simp) (fJ y) (fun _=>rfl) rfl (oOf 6 y.a) (by rw [Tryz.ntmps124];decide) (fun x nm l h=>GM y x nm l h)
 run_eq:=fun _ _ _=>rfl
 pan_eq:=fun _ _ _=>rfl
theorem og (i:Nat) (hi:i≤62) (x:Int) (h0:0≤x) (h1:x<4611686018427387904):bits .and .i64 x (2 ^ i-1)=x % 2 ^ i :=
 bits_mask .i64 62 (by decide) (fun n h0 h1=>by rw [IntKind.wrap_i64];omega) i hi x h0 h1
theorem nS (x:Ins) (h0:0≤x.a) (h1:x.a<4611686018427387904):mJ x=lY x:=by
 have d:∀ k:Int,0<k→x.a.fdiv k=x.a / k:=fun k hk=>Int.fdiv_eq_ediv_of_nonneg _ (by omega)
 have p:∀ k:Int,0<k→0≤x.a / k∧x.a / k<4611686018427387904:=fun k hk=>⟨Int.ediv_nonneg h0 (by omega),Int.lt_of_le_of_lt (Int.ediv_le_self _ h0) h1⟩
 have m3:∀ y:Int,0≤y→y<4611686018427387904→bits .and .i64 y 7=y % 8:=fun y=>og 3 (by decide) y
 have m4:∀ y:Int,0≤y→y<4611686018427387904→bits .and .i64 y 15=y % 16:=fun y=>og 4 (by decide) y
 unfold mJ iP lY
 simp only [List.getD_cons_zero,List.getD_cons_succ,List.cons.injEq,and_true]
 rw [d 2048 (by decide),d 128 (by decide),d 8 (by decide),d 1 (by decide)]
 have e1:=m3 (x.a / 2048) (p 2048 (by decide)).1 (p 2048 (by decide)).2
 have e2:=m4 (x.a / 128) (p 128 (by decide)).1 (p 128 (by decide)).2
 have e3:=m4 (x.a / 8) (p 8 (by decide)).1 (p 8 (by decide)).2
 have e4:=m3 (x.a / 1) (p 1 (by decide)).1 (p 1 (by decide)).2
 rw [e1,e2,e3,e4,Int.ediv_one]
 exact ⟨rfl,rfl,rfl,rfl⟩
def wrB (x:Ins):St:=⟨5,[(1,.s (.l (.p 0 0 0))),(2,.s (.l (.p 1 0 0))),(3,.s (.l (.p 2 0 0)))],[(0,some ⟨true,27,10,[aw x]⟩),(1,some bB),(2,some ⟨true,66,1,[[.p 3 0 0]]⟩),(3,some (wrK x emp 0 4)),(4,some (ay []))]⟩
theorem sy13 (x:Ins) (h:x.op=13):SW Tryz.prog ⟨none,0⟩ Tryz.f61.ntmps (Tryz.f61.body.getD .skip) ⟨0,ag 0 [(am ae).enc x],[]⟩ (aH Tryz.prog Tryz.f61.results.toList (.ret (au (cY x)))):=by
 rw [Tryz.ntmps61,Tryz.results61]
 simp only [Tryz.f61,Option.getD_some,ag]
 refine az (aa (ctx:=[]) 4000 ?_)
 simp only [go_sem,aJ,ae]
 refine az (aa (ctx:=[]) 4000 ?_)
 simp only [go_sem,aJ]
 refine SW.wk (s':=wrB x) ?_ ((Wk.nilC 64 11 40 15 (k:=⟨true,68,12,[aw x++[.v (.string emp),.v (.slice none 0 0)]]⟩) rfl rfl rfl).trans (Wk.renL [0,16,80,64,112] (by simp) (by simp [wrB]) (by decide) rfl rfl))
 refine aa (ctx:=[⟨_,bZ bh⟩]) 4000 ?_
 have b13:(x.op==13)=true:=by rw [h];decide
 have e:cY x=((⟨#[104,105,110,116]⟩:ByteArray),[cF x]):=by unfold cY;rw [if_pos h]
 simp only [go_sem,wrB,b13,e,aW,aV,aw,wrK,ay,bB,pcK,aM,bC,aE,aD,bK,bO,bu,aC,aG,bj,bT,bD,aX,aL,ap,aS,bH,gOf,aF,aK,au,bI,bg,aT,gy,dP]
theorem Lu (x:Ins) (h:x.op=14) (hb:x.b=4):SW Tryz.prog ⟨none,0⟩ Tryz.f61.ntmps (Tryz.f61.body.getD .skip) ⟨0,ag 0 [(am ae).enc x],[]⟩ (aH Tryz.prog Tryz.f61.results.toList (.ret (au (cY x)))):=by
 rw [Tryz.ntmps61,Tryz.results61]
 simp only [Tryz.f61,Option.getD_some,ag]
 refine az (aa (ctx:=[]) 4000 ?_)
 simp only [go_sem,aJ,ae]
 refine az (aa (ctx:=[]) 4000 ?_)
 simp only [go_sem,aJ]
 refine SW.wk (s':=wrB x) ?_ ((Wk.nilC 64 11 40 15 (k:=⟨true,68,12,[aw x++[.v (.string emp),.v (.slice none 0 0)]]⟩) rfl rfl rfl).trans (Wk.renL [0,16,80,64,112] (by simp) (by simp [wrB]) (by decide) rfl rfl))
 refine aa (ctx:=[]) 4000 ?_
 have b13:(x.op==13)=false:=by rw [h];decide
 have b14:(x.op==14)=true:=by rw [h];decide
 obtain ⟨P,hP⟩:∃ P,ak (x.b-4) [(⟨#[100,115,98]⟩:ByteArray),(⟨#[100,109,98]⟩:ByteArray)]=P:=⟨_,rfl⟩
 have e:cY x=(P,[oOf 7 x.a]):=by unfold cY;rw [if_neg (by omega),if_pos h,if_pos (by omega),hP]
 have e4:IntKind.i64.wrap (x.b-4)=x.b-4:=by rw [IntKind.wrap_i64];omega
 have q4:(x.b==4)=true:=by rw [hb];decide
 have q5:(x.b==5)=false:=by rw [hb];decide
 rw [e]
 simp only [go_sem,wrB,b13,b14,q4,q5,aw,wrK,ay,bB]
 refine aI (ctx:=[⟨_,ofS⟩,⟨_,dV⟩]) ax [4] (by kernel_rfl) ?_
 simp only [go_sem,dR,dQ,bK,bO,aX,aL,ap,aG,gOf,aF,aw,wrK,ay,bB,bE,bF,cp,xwT,xw0,bk,opV,aB,oOf,ab,op0,r0,opR,opE,emp,opL,bX,ofD,cB]
 refine aq (ctx:=[⟨_,bp⟩,⟨_,kz bh⟩]) ax ⟨[6,7],[(5,[325])],[(0,[325])]⟩ (by kernel_rfl) ?_
 simp only [go_sem,e4,hP,iT,iF,iD,gT,fz,ij,aw,wrK,ay,bB,pcK,aM,bC,aE,aD,bK,bO,bu,aC,aG,bj,bT,bD,aX,aL,ap,aS,bH,gOf,aF,aK,au,bI,bg,aT,opL,bX,ofD,opE,oOf,op0,r0,emp,cB]
theorem LC (x:Ins) (h:x.op=14) (hb:x.b=5):SW Tryz.prog ⟨none,0⟩ Tryz.f61.ntmps (Tryz.f61.body.getD .skip) ⟨0,ag 0 [(am ae).enc x],[]⟩ (aH Tryz.prog Tryz.f61.results.toList (.ret (au (cY x)))):=by
 rw [Tryz.ntmps61,Tryz.results61]
 simp only [Tryz.f61,Option.getD_some,ag]
 refine az (aa (ctx:=[]) 4000 ?_)
 simp only [go_sem,aJ,ae]
 refine az (aa (ctx:=[]) 4000 ?_)
 simp only [go_sem,aJ]
 refine SW.wk (s':=wrB x) ?_ ((Wk.nilC 64 11 40 15 (k:=⟨true,68,12,[aw x++[.v (.string emp),.v (.slice none 0 0)]]⟩) rfl rfl rfl).trans (Wk.renL [0,16,80,64,112] (by simp) (by simp [wrB]) (by decide) rfl rfl))
 refine aa (ctx:=[]) 4000 ?_
 have b13:(x.op==13)=false:=by rw [h];decide
 have b14:(x.op==14)=true:=by rw [h];decide
 obtain ⟨P,hP⟩:∃ P,ak (x.b-4) [(⟨#[100,115,98]⟩:ByteArray),(⟨#[100,109,98]⟩:ByteArray)]=P:=⟨_,rfl⟩
 have e:cY x=(P,[oOf 7 x.a]):=by unfold cY;rw [if_neg (by omega),if_pos h,if_pos (by omega),hP]
 have e4:IntKind.i64.wrap (x.b-4)=x.b-4:=by rw [IntKind.wrap_i64];omega
 have q4:(x.b==4)=false:=by rw [hb];decide
 have q5:(x.b==5)=true:=by rw [hb];decide
 rw [e]
 simp only [go_sem,wrB,b13,b14,q4,q5,aw,wrK,ay,bB]
 refine aI (ctx:=[⟨_,ofS⟩,⟨_,dV⟩]) ax [4] (by kernel_rfl) ?_
 simp only [go_sem,dR,dQ,bK,bO,aX,aL,ap,aG,gOf,aF,aw,wrK,ay,bB,bE,bF,cp,xwT,xw0,bk,opV,aB,oOf,ab,op0,r0,opR,opE,emp,opL,bX,ofD,cB]
 refine aq (ctx:=[⟨_,bp⟩,⟨_,kz bh⟩]) ax ⟨[6,7],[(5,[373])],[(0,[373])]⟩ (by kernel_rfl) ?_
 simp only [go_sem,e4,hP,iT,iF,iD,gT,fz,ij,aw,wrK,ay,bB,pcK,aM,bC,aE,aD,bK,bO,bu,aC,aG,bj,bT,bD,aX,aL,ap,aS,bH,gOf,aF,aK,au,bI,bg,aT,opL,bX,ofD,opE,oOf,op0,r0,emp,cB]
theorem M5 (x:Ins) (h:x.op=14) (h4:¬x.b=4) (h5:¬x.b=5):SW Tryz.prog ⟨none,0⟩ Tryz.f61.ntmps (Tryz.f61.body.getD .skip) ⟨0,ag 0 [(am ae).enc x],[]⟩ (aH Tryz.prog Tryz.f61.results.toList (.ret (au (cY x)))):=by
 rw [Tryz.ntmps61,Tryz.results61]
 simp only [Tryz.f61,Option.getD_some,ag]
 refine az (aa (ctx:=[]) 4000 ?_)
 simp only [go_sem,aJ,ae]
 refine az (aa (ctx:=[]) 4000 ?_)
 simp only [go_sem,aJ]
 refine SW.wk (s':=wrB x) ?_ ((Wk.nilC 64 11 40 15 (k:=⟨true,68,12,[aw x++[.v (.string emp),.v (.slice none 0 0)]]⟩) rfl rfl rfl).trans (Wk.renL [0,16,80,64,112] (by simp) (by simp [wrB]) (by decide) rfl rfl))
 refine aa (ctx:=[]) 4000 ?_
 have b13:(x.op==13)=false:=by rw [h];decide
 have b14:(x.op==14)=true:=by rw [h];decide
 obtain ⟨P,hP⟩:∃ P,ak x.b [⟨#[]⟩,⟨#[]⟩,(⟨#[99,108,114,101,120]⟩:ByteArray),⟨#[]⟩,⟨#[]⟩,⟨#[]⟩,(⟨#[105,115,98]⟩:ByteArray)]=P:=⟨_,rfl⟩
 have hP2:ak x.b [emp,emp,(⟨#[99,108,114,101,120]⟩:ByteArray),emp,emp,emp,(⟨#[105,115,98]⟩:ByteArray)]=P:=hP
 have e:cY x=(P,[cF x]):=by unfold cY;rw [if_neg (by omega),if_pos h,if_neg (by omega),hP2]
 have q4:(x.b==4)=false:=by simpa using h4
 have q5:(x.b==5)=false:=by simpa using h5
 rw [e]
 simp only [go_sem,wrB,b13,b14,q4,q5,aw,wrK,ay,bB]
 refine aq (ctx:=[⟨_,bp⟩,⟨_,bZ bh⟩]) ax ⟨[8,9],[(4,[277])],[(0,[277]),(5,[277]),(6,[277]),(7,[277])]⟩ (by kernel_rfl) ?_
 simp only [go_sem,hP,aW,aV,aw,wrK,ay,bB,pcK,aM,bC,aE,aD,bK,bO,bu,aC,aG,bj,bT,bD,aX,aL,ap,aS,bH,gOf,aF,aK,au,bI,bg,aT,gy,dP]
theorem NI (x:Ins) (h:x.op=15) (hb:x.b=0):SW Tryz.prog ⟨none,0⟩ Tryz.f61.ntmps (Tryz.f61.body.getD .skip) ⟨0,ag 0 [(am ae).enc x],[]⟩ (aH Tryz.prog Tryz.f61.results.toList (.ret (au (cY x)))):=by
 rw [Tryz.ntmps61,Tryz.results61]
 simp only [Tryz.f61,Option.getD_some,ag]
 refine az (aa (ctx:=[]) 4000 ?_)
 simp only [go_sem,aJ,ae]
 refine az (aa (ctx:=[]) 4000 ?_)
 simp only [go_sem,aJ]
 refine SW.wk (s':=wrB x) ?_ ((Wk.nilC 64 11 40 15 (k:=⟨true,68,12,[aw x++[.v (.string emp),.v (.slice none 0 0)]]⟩) rfl rfl rfl).trans (Wk.renL [0,16,80,64,112] (by simp) (by simp [wrB]) (by decide) rfl rfl))
 refine aa (ctx:=[⟨_,cw bh (EF x)⟩]) 4000 ?_
 have b13:(x.op==13)=false:=by rw [h];decide
 have b14:(x.op==14)=false:=by rw [h];decide
 have b15:(x.op==15)=true:=by rw [h];decide
 have e:cY x=((⟨#[109,115,114]⟩:ByteArray),[oOf 6 x.a,xdO x]):=by unfold cY;rw [if_neg (by omega),if_neg (by omega),if_pos h,if_pos hb]
 have q0:(x.b==0)=true:=by simpa using hb
 simp only [go_sem,wrB,b13,b14,b15,q0,e,gz,gB,iL,ky,m8,mV,sxQ,sxF,Sx.q,Sx.F,EF,List.nodup_cons,List.nodup_nil,List.mem_cons,List.not_mem_nil,List.mem_nil_iff,or_false,false_or,or_self,not_false_eq_true,and_self,true_and,and_true,aw,wrK,ay,bB,pcK,aM,bC,aE,aD,bK,bO,bu,aC,aG,bj,bT,bD,aX,aL,ap,aS,bH,gOf,aF,aK,au,bI,bg,aT,r8,lL,fJ]
theorem Nm (x:Ins) (h:x.op=15) (hb:¬x.b=0):SW Tryz.prog ⟨none,0⟩ Tryz.f61.ntmps (Tryz.f61.body.getD .skip) ⟨0,ag 0 [(am ae).enc x],[]⟩ (aH Tryz.prog Tryz.f61.results.toList (.ret (au (cY x)))):=by
 rw [Tryz.ntmps61,Tryz.results61]
 simp only [Tryz.f61,Option.getD_some,ag]
 refine az (aa (ctx:=[]) 4000 ?_)
 simp only [go_sem,aJ,ae]
 refine az (aa (ctx:=[]) 4000 ?_)
 simp only [go_sem,aJ]
 refine SW.wk (s':=wrB x) ?_ ((Wk.nilC 64 11 40 15 (k:=⟨true,68,12,[aw x++[.v (.string emp),.v (.slice none 0 0)]]⟩) rfl rfl rfl).trans (Wk.renL [0,16,80,64,112] (by simp) (by simp [wrB]) (by decide) rfl rfl))
 refine aa (ctx:=[⟨_,cw bh (EF x)⟩]) 4000 ?_
 have b13:(x.op==13)=false:=by rw [h];decide
 have b14:(x.op==14)=false:=by rw [h];decide
 have b15:(x.op==15)=true:=by rw [h];decide
 have e:cY x=((⟨#[109,114,115]⟩:ByteArray),[xdO x,oOf 6 x.a]):=by unfold cY;rw [if_neg (by omega),if_neg (by omega),if_pos h,if_neg hb]
 have q0:(x.b==0)=false:=by simpa using hb
 simp only [go_sem,wrB,b13,b14,b15,q0,e,gz,gB,iL,ky,m8,mV,sxQ,sxF,Sx.q,Sx.F,EF,List.nodup_cons,List.nodup_nil,List.mem_cons,List.not_mem_nil,List.mem_nil_iff,or_false,false_or,or_self,not_false_eq_true,and_self,true_and,and_true,aw,wrK,ay,bB,pcK,aM,bC,aE,aD,bK,bO,bu,aC,aG,bj,bT,bD,aX,aL,ap,aS,bH,gOf,aF,aK,au,bI,bg,aT,r8,lL,fJ]
theorem sy16 (x:Ins) (h:x.op=16):SW Tryz.prog ⟨none,0⟩ Tryz.f61.ntmps (Tryz.f61.body.getD .skip) ⟨0,ag 0 [(am ae).enc x],[]⟩ (aH Tryz.prog Tryz.f61.results.toList (.ret (au (cY x)))):=by
 rw [Tryz.ntmps61,Tryz.results61]
 simp only [Tryz.f61,Option.getD_some,ag]
 refine az (aa (ctx:=[]) 4000 ?_)
 simp only [go_sem,aJ,ae]
 refine az (aa (ctx:=[]) 4000 ?_)
 simp only [go_sem,aJ]
 refine SW.wk (s':=wrB x) ?_ ((Wk.nilC 64 11 40 15 (k:=⟨true,68,12,[aw x++[.v (.string emp),.v (.slice none 0 0)]]⟩) rfl rfl rfl).trans (Wk.renL [0,16,80,64,112] (by simp) (by simp [wrB]) (by decide) rfl rfl))
 refine aa (ctx:=[⟨_,bZ bh⟩]) 4000 ?_
 have b13:(x.op==13)=false:=by rw [h];decide
 have b14:(x.op==14)=false:=by rw [h];decide
 have b15:(x.op==15)=false:=by rw [h];decide
 have b16:(x.op==16)=true:=by rw [h];decide
 have e:cY x=((⟨#[109,115,114]⟩:ByteArray),[oOf 9 x.b,cF x]):=by unfold cY;rw [if_neg (by omega),if_neg (by omega),if_neg (by omega),if_pos h]
 rw [e]
 simp only [go_sem,wrB,b13,b14,b15,b16,aw,wrK,ay,bB]
 refine aI (ctx:=[⟨_,ofS⟩,⟨_,dV⟩]) ax [4] (by kernel_rfl) ?_
 simp only [go_sem,dR,dQ,aW,aV,aw,wrK,ay,bB,pcK,aM,bC,aE,aD,bK,bO,bu,aC,aG,bj,bT,bD,aX,aL,ap,aS,bH,gOf,aF,aK,au,bI,bg,aT,gy,dP,bE,bF,cp,xwT,xw0,bk,opV,aB,oOf,ab,op0,r0,opR,opE,emp,opL,bX,ofD,cB]
theorem LD (x:Ins) (h:x.op=17) (hb:x.b=0) (ha:0≤x.a∧x.a<4611686018427387904):SW Tryz.prog ⟨none,0⟩ Tryz.f61.ntmps (Tryz.f61.body.getD .skip) ⟨0,ag 0 [(am ae).enc x],[]⟩ (aH Tryz.prog Tryz.f61.results.toList (.ret (au (cY x)))):=by
 rw [Tryz.ntmps61,Tryz.results61]
 simp only [Tryz.f61,Option.getD_some,ag]
 refine az (aa (ctx:=[]) 4000 ?_)
 simp only [go_sem,aJ,ae]
 refine az (aa (ctx:=[]) 4000 ?_)
 simp only [go_sem,aJ]
 refine SW.wk (s':=wrB x) ?_ ((Wk.nilC 64 11 40 15 (k:=⟨true,68,12,[aw x++[.v (.string emp),.v (.slice none 0 0)]]⟩) rfl rfl rfl).trans (Wk.renL [0,16,80,64,112] (by simp) (by simp [wrB]) (by decide) rfl rfl))
 refine aa (ctx:=[⟨_,bZ bh⟩]) 4000 ?_
 have b13:(x.op==13)=false:=by rw [h];decide
 have b14:(x.op==14)=false:=by rw [h];decide
 have b15:(x.op==15)=false:=by rw [h];decide
 have b16:(x.op==16)=false:=by rw [h];decide
 have e:cY x=((⟨#[115,121,115]⟩:ByteArray),lY x++[xdO x]):=by unfold cY;rw [if_neg (by omega),if_neg (by omega),if_neg (by omega),if_neg (by omega),if_pos hb]
 have q0:(x.b==0)=true:=by simpa using hb
 have eA:=nS x ha.1 ha.2
 obtain ⟨z0,z1,z2,z3,hz⟩:∃ z0 z1 z2 z3,lY x=[z0,z1,z2,z3]:=⟨_,_,_,_,rfl⟩
 rw [hz] at eA
 simp only [go_sem,wrB,b13,b14,b15,b16,q0,e,hz,eA,aW,aV,aw,wrK,ay,bB,pcK,aM,bC,aE,aD,bK,bO,bu,aC,aG,bj,bT,bD,aX,aL,ap,aS,bH,gOf,aF,aK,au,bI,bg,aT,kE,ll,r8,lL]
theorem L8 (x:Ins) (h:x.op=17) (hb:¬x.b=0) (ha:0≤x.a∧x.a<4611686018427387904):SW Tryz.prog ⟨none,0⟩ Tryz.f61.ntmps (Tryz.f61.body.getD .skip) ⟨0,ag 0 [(am ae).enc x],[]⟩ (aH Tryz.prog Tryz.f61.results.toList (.ret (au (cY x)))):=by
 rw [Tryz.ntmps61,Tryz.results61]
 simp only [Tryz.f61,Option.getD_some,ag]
 refine az (aa (ctx:=[]) 4000 ?_)
 simp only [go_sem,aJ,ae]
 refine az (aa (ctx:=[]) 4000 ?_)
 simp only [go_sem,aJ]
 refine SW.wk (s':=wrB x) ?_ ((Wk.nilC 64 11 40 15 (k:=⟨true,68,12,[aw x++[.v (.string emp),.v (.slice none 0 0)]]⟩) rfl rfl rfl).trans (Wk.renL [0,16,80,64,112] (by simp) (by simp [wrB]) (by decide) rfl rfl))
 refine aa (ctx:=[⟨_,bZ bh⟩]) 4000 ?_
 have b13:(x.op==13)=false:=by rw [h];decide
 have b14:(x.op==14)=false:=by rw [h];decide
 have b15:(x.op==15)=false:=by rw [h];decide
 have b16:(x.op==16)=false:=by rw [h];decide
 have e:cY x=((⟨#[115,121,115,108]⟩:ByteArray),xdO x::lY x):=by unfold cY;rw [if_neg (by omega),if_neg (by omega),if_neg (by omega),if_neg (by omega),if_neg hb]
 have q0:(x.b==0)=false:=by simpa using hb
 have eA:=nS x ha.1 ha.2
 obtain ⟨z0,z1,z2,z3,hz⟩:∃ z0 z1 z2 z3,lY x=[z0,z1,z2,z3]:=⟨_,_,_,_,rfl⟩
 rw [hz] at eA
 simp only [go_sem,wrB,b13,b14,b15,b16,q0,e,hz,eA,aW,aV,aw,wrK,ay,bB,pcK,aM,bC,aE,aD,bK,bO,bu,aC,aG,bj,bT,bD,aX,aL,ap,aS,bH,gOf,aF,aK,au,bI,bg,aT,r8,lL,kE,ll]
def Cj (x:Ins):Prop:=13≤x.op∧x.op≤17∧(x.op=17→0≤x.a∧x.a<4611686018427387904)
theorem vv (x:Ins) (hq:Cj x):SW Tryz.prog ⟨none,0⟩ Tryz.f61.ntmps (Tryz.f61.body.getD .skip) ⟨0,ag 0 [(am ae).enc x],[]⟩ (aH Tryz.prog Tryz.f61.results.toList (.ret (au (cY x)))):=by
 obtain ⟨h1,h2,h3⟩:=hq
 have:x.op=13∨x.op=14∨x.op=15∨x.op=16∨x.op=17:=by omega
 rcases this with h | h | h | h | h
 ·exact sy13 x h
 ·by_cases h4:x.b=4
  ·exact Lu x h h4
  by_cases h5:x.b=5
  ·exact LC x h h5
  ·exact M5 x h h4 h5
 ·by_cases hb:x.b=0
  ·exact NI x h hb
  ·exact Nm x h hb
 ·exact sy16 x h
 ·by_cases hb:x.b=0
  ·exact LD x h hb (h3 h)
  ·exact L8 x h hb (h3 h)
def oY:aQ Tryz.prog 61 :=
 mk1 _ _ _ Tryz.func61 rfl (fun _ _=>by go_simp) (am ae) (Cj) ((fun x=>.ret (au (cY x)))) (by rw [Tryz.ntmps61];decide) (fun x h=>vv x h)
theorem sy {id:Nat} {h:ah} {args:List AV}:(oY).run id h args=bm (av (am ae) (Cj)) ((fun x=>.ret (au (cY x)))) h args:=rfl
theorem tM {id:Nat} {h:ah} {args:List AV}:(oY).pan id h args=bt (av (am ae) (Cj)) ((fun x=>.ret (au (cY x)))) h args:=rfl
end
end Go.Proofs.YtpjlafmhoifkmaaGreat
