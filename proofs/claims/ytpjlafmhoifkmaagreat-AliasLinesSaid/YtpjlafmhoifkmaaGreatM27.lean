import Derived.Test.YtpjlafmhoifkmaaGreatM24
set_option linter.unusedVariables false
set_option linter.unusedSimpArgs false
set_option maxRecDepth 100000
set_option maxHeartbeats 8000000
namespace Go.Proofs.YtpjlafmhoifkmaaGreat
section
open Go.RowKit
def pcK (b:Nat):Blk:=⟨true,66,1,[[.p b 0 0]]⟩
def tV (kk:Blk) (h:am):List AV→Option (Prop×List Nat×(Ins×ByteArray×List OpV))
 | [.s (.l (.p pc 0 0)),.s (.l (.p oc 0 0))]=>match hget h pc with
  | some ⟨true,T,1,[[.p b 0 0]]⟩=>match bp h (.s (.l (.p b 0 0))) with
   | some ([b',tb],x,nm,l)=>match hget h oc with
    | some k=>if T=66∧b'=b∧[b,pc,oc,tb].Nodup then some (k=kk∧l.length≤1000,[b,pc,oc,tb],(x,nm,l)) else none
    | none=>none
   | _=>none
  | _=>none
 | _=>none
theorem zS {kk:Blk} {h:am} {zs:List AV} {q:Prop} {bs:List Nat} {x:Ins} {nm:ByteArray} {l:List OpV} (hd:tV kk h zs=some (q,bs,x,nm,l)) :
  ∃ b pc oc tb k,zs=[.s (.l (.p pc 0 0)),.s (.l (.p oc 0 0))]∧bs=[b,pc,oc,tb]∧[b,pc,oc,tb].Nodup∧hget h b=some (wrK x nm l.length tb)∧hget h tb=some (aD l)∧hget h pc=some (pcK b)∧hget h oc=some k∧q=(k=kk∧l.length≤1000):=by
 unfold tV at hd
 split at hd
 case h_2=>cases hd
 rename_i pc oc
 split at hd
 case h_2=>cases hd
 rename_i T b hp
 split at hd
 case h_2=>cases hd
 rename_i b' tb x' nm' l' hw
 split at hd
 case h_2=>cases hd
 rename_i k hk
 split at hd
 case isFalse=>cases hd
 rename_i hc
 obtain ⟨rfl,rfl,hnd⟩:=hc
 simp only [Option.some.injEq,Prod.mk.injEq] at hd
 obtain ⟨rfl,rfl,rfl,rfl,rfl⟩:=hd
 obtain ⟨b2,tb2,e0,e,hne,g1,g2⟩:=kI hw
 simp only [List.cons.injEq,and_true] at e
 obtain ⟨rfl,rfl⟩:=e
 exact ⟨b',pc,oc,tb,k,rfl,rfl,hnd,g1,g2,hp,hk,rfl⟩
theorem C1 {kk:Blk} {h h':am} (hs:∀ b k,hget h b=some k→hget h' b=some k) {zs:List AV} {r:Prop×List Nat×(Ins×ByteArray×List OpV)} (hd:tV kk h zs=some r):tV kk h' zs=some r:=by
 unfold tV at hd ⊢
 split at hd
 case h_2=>cases hd
 split at hd
 case h_2=>cases hd
 rename_i hp
 simp only [hs _ _ hp]
 split at hd
 case h_2=>cases hd
 rename_i hw
 simp only [jc hs hw]
 split at hd
 case h_2=>cases hd
 rename_i hk
 simp only [hs _ _ hk]
 exact hd
def sC (kk:Blk) (o:OpV) (y:Ins×ByteArray×List OpV):RO :=
 .ret (.tup []) [some (wrK y.1 y.2.1 (y.2.2.length+1) 3),some (pcK 0),some kk] [aD (y.2.2++[o])]
theorem uR (b:Nat) (g:Nat→Nat):(pcK b).ren g=pcK (g b):=rfl
def Ko (f:FuncId) (fn:Func) (c:Code) (hf:Tryz.prog.funcs[f]? = some fn) (hb:fn.body=some c)
  (hen:∀ (args:Array Value) (w:World),(callFunc f args).run Tryz.prog w=.ok (.enter f args) w) (kk:Blk) (hk:∀ g,kk.ren g=kk) (ho:kk.own=true) (o:OpV) (hn:2≤fn.ntmps)
  (body:∀ x nm l,l.length≤1000→SW Tryz.prog ⟨none,3⟩ fn.ntmps c ⟨4,ag 0 [.s (.l (.p 1 0 0)),.s (.l (.p 2 0 0))],cX 0 [wrK x nm l.length 3,pcK 0,kk,aD l]⟩ (jq Tryz.prog fn.results.toList 3 (sC kk o (x,nm,l)))):aJ Tryz.prog f :=
 mkR 3 4 (by decide) f fn c hf hb hen (tV kk) (fun _=>[.s (.l (.p 1 0 0)),.s (.l (.p 2 0 0))]) (fun y=>[wrK y.1 y.2.1 y.2.2.length 3,pcK 0,kk,aD y.2.2]) (sC kk o) (fun hs hd=>C1 hs hd)
  (by
   intro h zs q' bs y hd hq
   obtain ⟨x,nm,l⟩:=y
   obtain ⟨b,pc,oc,tb,k,rfl,rfl,hnd,h1,h2,h3,h4,rfl⟩:=zS hd
   obtain ⟨rfl,hl⟩:=hq
   refine ⟨hn,rfl,rfl,hnd,fun d=>⟨?_,?_⟩⟩
   ·intro j b' k' hj hk'
    match j,hj,hk' with
    | 0,hj,hk' =>
     simp at hj hk'
     subst hj
     subst hk'
     exact ⟨rfl,by rw [h1,kl];rfl⟩
    | 1,hj,hk' =>
     simp at hj hk'
     subst hj
     subst hk'
     exact ⟨rfl,by rw [h3,uR];rfl⟩
    | 2,hj,hk' =>
     simp at hj hk'
     subst hj
     subst hk'
     exact ⟨ho,by rw [h4,hk]⟩
    | 3,hj,hk' =>
     simp at hj hk'
     subst hj
     subst hk'
     exact ⟨rfl,by rw [h2,fj]⟩
   ·intro ρ al vals hA
    match vals,hA with
    | [v,w],⟨a,b,_⟩=>exact ⟨a,b,trivial⟩)
  (by
   intro h zs q' bs y hd hq
   obtain ⟨x,nm,l⟩:=y
   obtain ⟨b,pc,oc,tb,k,rfl,rfl,hnd,h1,h2,h3,h4,rfl⟩:=zS hd
   exact body x nm l hq.2)
structure Cst where
 g:FuncId
 kk:Blk
 own:kk.own=true
 ren:∀ f,kk.ren f=kk
 o:OpV
 spec:aJ Tryz.prog g
 run_eq:∀ (id:Nat) (h:am) (args:List AV),spec.run id h args=bU 3 (tV kk) (sC kk o) id h args
 pan_eq:∀ (id:Nat) (h:am) (args:List AV),spec.pan id h args=bW (tV kk) (sC kk o) h args
inductive Sx
 | s (st:Stp)
 | c
def Sx.F (c:Cst) (x:Ins):Sx→List OpV→List OpV
 | .s st,l=>st.F x l
 | .c,l=>l++[c.o]
def Sx.q (x:Ins):Sx→List OpV→Prop
 | .s st,l=>st.q x l
 | .c,l=>l.length≤1000
def sxF (c:Cst) (x:Ins):List Sx→List OpV→List OpV
 | [],l=>l
 | st::r,l=>sxF c x r (st.F c x l)
def sxQ (c:Cst) (x:Ins):List Sx→List OpV→Prop
 | [],_=>True
 | st::r,l=>st.q x l∧sxQ c x r (st.F c x l)
theorem zZ (c:Cst) (x:Ins):∀ (a b:List Sx) (l:List OpV),sxF c x (a++b) l=sxF c x b (sxF c x a l)
 | [],_,_=>rfl
 | st::a,b,l=>zZ c x a b (st.F c x l)
theorem EZ {c:Cst} {x:Ins} {S:List Sx} {i:Nat} {st:Sx} (h:S[i]? = some st) (l:List OpV):sxF c x (S.take (i+1)) l=st.F c x (sxF c x (S.take i) l):=by
 rw [List.take_add_one,h,zZ]
 rfl
theorem Eg {c:Cst} {x:Ins}:∀ {S:List Sx} {l:List OpV},sxQ c x S l→∀ {i:Nat} {st:Sx},S[i]? = some st→st.q x (sxF c x (S.take i) l)
 | [],_,_,_,_,hi=>by simp at hi
 | s::S,l,h,0,st,hi=>by
  simp only [List.getElem?_cons_zero,Option.some.injEq] at hi
  subst hi
  exact h.1
 | s::S,l,h,i+1,st,hi=>Eg (S:=S) h.2 (by simpa using hi)
def sxL (c:Cst) (b pc oc:Nat):Sx→List LV
 | .s st=>[.bf st.g [b] []]
 | .c=>[.bf c.g [] [pc,oc]]
def sxK (c:Cst) (b pc oc:Nat) (S:List Sx):Blk:=⟨true,1,1,S.map (sxL c b pc oc)⟩
theorem I3 (c:Cst) (b pc oc:Nat) (st:Sx) (g:Nat→Nat):(sxL c b pc oc st).map (fun x=>LV.ren g x)=sxL c (g b) (g pc) (g oc) st:=by
 cases st<;>simp [sxL,LV.ren]
theorem D1 (c:Cst) (b pc oc:Nat) (S:List Sx) (g:Nat→Nat):List.map (List.map (fun x=>LV.ren g x)) (List.map (sxL c b pc oc) S)=List.map (sxL c (g b) (g pc) (g oc)) S:=by
 rw [List.map_map]
 exact List.map_congr_left fun st _=>I3 c b pc oc st g
def zd (c:Cst) (S:List Sx) (x:Ins) (nm:ByteArray) (l0:List OpV) (i:Nat):St :=
 ⟨6,[(0,.s (.l (.p 0 0 0))),(6,.s (.l (.p 5 0 0))),(14,.s (.l (.sl 2 0 S.length))),(15,iv S.length),(16,iv i)],[(0,some (wrK x nm (sxF c x (S.take i) l0).length 1)),(1,some (aD (sxF c x (S.take i) l0))),(2,some (sxK c 0 3 4 S)),(3,some (pcK 0)),(4,some c.kk),(5,some bQ)]⟩
theorem qF (c:Cst) (b pc oc:Nat) (S:List Sx) (g:Nat→Nat):(sxK c b pc oc S).ren g=sxK c (g b) (g pc) (g oc) S:=by
 unfold sxK Blk.ren
 exact congrArg (fun r=>(⟨true,1,1,r⟩:Blk)) (D1 c b pc oc S g)
theorem EC (c:Cst) (S:List Sx) (x:Ins) (nm0 nm:ByteArray) (l0:List OpV) (hq:sxQ c x S l0) (hlen:S.length≤1000) :
  SW Tryz.prog ⟨none,1⟩ Tryz.f48.ntmps (Tryz.f48.body.getD .skip) ⟨5,ag 0 [.s (.l (.p 0 0 0)),sv nm,.s (.l (.sl 2 0 S.length))],cX 0 [wrK x nm0 l0.length 1,aD l0,sxK c 0 3 4 S,pcK 0,c.kk]⟩
   (iC Tryz.prog Tryz.f48.results.toList 1 (.ret (.s (.agg [.v (.string nm),.sl 1 0 (sxF c x S l0).length])) [some (wrK x nm (sxF c x S l0).length 1)] [aD (sxF c x S l0)])):=by
 have hkr:=c.ren
 have hke:∀ f,List.map (fun x=>List.map (fun x=>LV.ren f x) x) c.kk.els=c.kk.els:=fun f=>congrArg Blk.els (c.ren f)
 refine aa (ctx:=[]) 4000 ?_
 rw [Tryz.ntmps48,Tryz.results48]
 simp only [Tryz.f48,Option.getD_some,ag]
 simp only [go_sem,wrK,az,aD,sxK,pcK]
 refine cM (ι:=Nat) (fun i=>i≤S.length) (zd c S x nm l0) (fun i=>S.length-i) 0 (Nat.zero_le _) ?start ?round
 case start =>
  exact Wk.renL [0,1,2,3,4,5] (fun j hj=>by
   obtain rfl:j=0:=Nat.lt_one_iff.1 hj
   rfl) (Nat.le_refl 6) (by decide) rfl (by show _=[some ((wrK _ _ _ _).ren _),some ((aD _).ren _),some ((sxK _ _ _ _ _).ren _),some ((pcK _).ren _),some (c.kk.ren _),some (bQ.ren _)];rw [fj,qF,hkr];rfl)
 case round =>
  intro i hi
  by_cases hlt:i<S.length
  ·have hltI:(i:Int)<S.length:=by omega
   obtain ⟨st,hst⟩:∃ st,S[i]? = some st:=⟨_,List.getElem?_eq_getElem hlt⟩
   have hqs:=Eg hq hst
   have hnx:=EZ (c:=c) (x:=x) hst l0
   have ei:IntKind.i64.wrap ((i:Int)+1)=((i+1:Nat):Int):=by rw [IntKind.wrap_i64];omega
   unfold zd
   obtain ⟨l,hl⟩:∃ l,sxF c x (S.take i) l0=l:=⟨_,rfl⟩
   rw [hl] at hqs hnx ⊢
   cases st with
   | s st =>
    have hqs':st.q x l:=hqs
    refine aa (ctx:=[⟨st.g,st.spec⟩]) 4000 ?_
    simp only [go_sem,wrK,az,aD,sxK,sxL,pcK,hltI,hlt,hst,st.run_eq,st.pan_eq,db,bp,aT,aq,xw0,bI,dn,hqs',ei]
    refine ⟨i+1,hlt,by omega,?_⟩
    rw [hnx]
    exact Wk.renL [0,86,2,3,4,5] (fun j hj=>by
     obtain rfl:j=0:=Nat.lt_one_iff.1 hj
     rfl) (Nat.le_refl 6) (by decide) rfl (by show _=[some ((wrK _ _ _ _).ren _),some ((aD _).ren _),some ((sxK _ _ _ _ _).ren _),some ((pcK _).ren _),some (c.kk.ren _),some (bQ.ren _)];rw [fj,qF,hkr];rfl)
   | c =>
    have hqs':l.length≤1000:=hqs
    refine aa (ctx:=[⟨c.g,c.spec⟩]) 4000 ?_
    simp only [go_sem,wrK,az,aD,sxK,sxL,pcK,hltI,hlt,hst,c.run_eq,c.pan_eq,tV,sC,bp,aT,aq,bI,dn,hqs',ei,hke,List.nodup_cons,List.nodup_nil,List.mem_cons,List.not_mem_nil,List.mem_nil_iff,or_false,false_or,or_self,not_false_eq_true,and_self,true_and,and_true]
    refine ⟨i+1,hlt,by omega,?_⟩
    rw [hnx]
    exact Wk.renL [0,86,2,3,4,5] (fun j hj=>by
     obtain rfl:j=0:=Nat.lt_one_iff.1 hj
     rfl) (Nat.le_refl 6) (by decide) rfl (by simp only [Sx.F,List.length_append,List.length_cons,List.length_nil];show _=[some ((wrK _ _ _ _).ren _),some ((aD _).ren _),some ((sxK _ _ _ _ _).ren _),some ((pcK _).ren _),some (c.kk.ren _),some (bQ.ren _)];rw [fj,qF,hkr];rfl)
  ·obtain rfl:i=S.length:=by omega
   have hltI:¬(S.length:Int)<S.length:=by omega
   unfold zd
   rw [List.take_length]
   refine aa (ctx:=[]) 4000 ?_
   simp only [go_sem,wrK,az,aD,sxK,bQ,hltI,eZ,dm]
   exact ⟨_,_,_,rfl,rfl,by simp,by simp,by simp,Wk.renL [0,1] (fun j hj=>by
    obtain rfl:j=0:=Nat.lt_one_iff.1 hj
    rfl) (Nat.le_refl _) (by decide) rfl (by simp [eL,cX,hget,Blk.ren,opL,opE,cG,ofD,LV.ren,Function.comp_def])⟩
def pX:List (List LV)→Option (Nat×Nat)
 | [.bf _ [] [pc,oc]]::_=>some (pc,oc)
 | _::r=>pX r
 | []=>none
def nh (T:gQ) (c:Cst) (b pc oc:Nat):List LV→Option Sx
 | [.bf g [b'] []]=>if b'=b then (T.at_ g).map Sx.s else none
 | [.bf g [] [pc',oc']]=>if g=c.g∧pc'=pc∧oc'=oc then some .c else none
 | _=>none
theorem Cc {T:gQ} {c:Cst} {b pc oc:Nat} {e:List LV} {st:Sx} (h:nh T c b pc oc e=some st):e=sxL c b pc oc st:=by
 unfold nh at h
 split at h
 ·split at h
  case isFalse=>cases h
  rename_i g b' e
  subst e
  cases ht:T.at_ g with
  | none=>rw [ht] at h;cases h
  | some s =>
   rw [ht] at h
   simp only [Option.map_some,Option.some.injEq] at h
   subst h
   rw [sxL,T.ok ht]
 ·split at h
  case isFalse=>cases h
  rename_i e
  obtain ⟨rfl,rfl,rfl⟩:=e
  injection h with h
  subst h
  rfl
 ·cases h
def kV (T:gQ) (c:Cst) (h:am):List AV→Option (Prop×List Nat×(ByteArray×List Sx×(Ins×ByteArray×List OpV)))
 | [A,.s (.l (.v (.string nm))),.s (.l (.sl sb 0 n))]=>match bp h A with
  | some ([b,tb],x,nm0,l)=>match hget h sb with
   | some ⟨true,Tt,1,rows⟩=>match pX rows with
    | some (pc,oc)=>match aH (nh T c b pc oc) rows with
     | some S=>match hget h pc with
      | some kp=>match hget h oc with
       | some ko=>if Tt=1∧n=S.length∧[b,tb,sb,pc,oc].Nodup then some (kp=pcK b∧ko=c.kk∧sxQ c x S l∧S.length≤1000,[b,tb,sb,pc,oc],(nm,S,(x,nm0,l))) else none
       | none=>none
      | none=>none
     | none=>none
    | none=>none
   | _=>none
  | _=>none
 | _=>none
theorem vY {T:gQ} {c:Cst} {h:am} {zs:List AV} {q:Prop} {bs:List Nat} {nm:ByteArray} {S:List Sx} {x:Ins} {nm0:ByteArray} {l:List OpV} (hd:kV T c h zs=some (q,bs,nm,S,x,nm0,l)) :
  ∃ b tb sb pc oc kp ko,zs=[.s (.l (.p b 0 0)),sv nm,.s (.l (.sl sb 0 S.length))]∧bs=[b,tb,sb,pc,oc]∧[b,tb,sb,pc,oc].Nodup∧hget h b=some (wrK x nm0 l.length tb)∧hget h tb=some (aD l)∧hget h sb=some (sxK c b pc oc S)∧hget h pc=some kp∧hget h oc=some ko∧q=(kp=pcK b∧ko=c.kk∧sxQ c x S l∧S.length≤1000):=by
 unfold kV at hd
 split at hd
 case h_2=>cases hd
 rename_i A nm' sb n
 split at hd
 case h_2=>cases hd
 rename_i b tb x' nm0' l' hw
 split at hd
 case h_2=>cases hd
 rename_i Tt rows hs
 split at hd
 case h_2=>cases hd
 rename_i pc oc hcap
 split at hd
 case h_2=>cases hd
 rename_i S' hS
 split at hd
 case h_2=>cases hd
 rename_i kp hp
 split at hd
 case h_2=>cases hd
 rename_i ko hk
 split at hd
 case isFalse=>cases hd
 rename_i hc
 obtain ⟨rfl,rfl,hnd⟩:=hc
 simp only [Option.some.injEq,Prod.mk.injEq] at hd
 obtain ⟨rfl,rfl,rfl,rfl,rfl,rfl,rfl⟩:=hd
 obtain ⟨b2,tb2,rfl,e,hne,g1,g2⟩:=kI hw
 simp only [List.cons.injEq,and_true] at e
 obtain ⟨rfl,rfl⟩:=e
 exact ⟨b,tb,sb,pc,oc,kp,ko,rfl,rfl,hnd,g1,g2,by rw [hs,sxK,fM (d:=nh T c b pc oc) (e:=sxL c b pc oc) (fun c x hc=>Cc hc) hS],hp,hk,rfl⟩
theorem yJ {T:gQ} {c:Cst} {h h':am} (hs:∀ b k,hget h b=some k→hget h' b=some k) {zs:List AV} {r:Prop×List Nat×(ByteArray×List Sx×(Ins×ByteArray×List OpV))} (hd:kV T c h zs=some r):kV T c h' zs=some r:=by
 unfold kV at hd ⊢
 split at hd
 case h_2=>cases hd
 split at hd
 case h_2=>cases hd
 rename_i hw
 simp only [jc hs hw]
 split at hd
 case h_2=>cases hd
 rename_i ht
 simp only [hs _ _ ht]
 split at hd
 case h_2=>cases hd
 rename_i e1
 split at hd
 case h_2=>cases hd
 rename_i e2
 split at hd
 case h_2=>cases hd
 rename_i e3
 split at hd
 case h_2=>cases hd
 rename_i e4
 simp only [e1,e2,hs _ _ e3,hs _ _ e4]
 exact hd
def qf (c:Cst) (y:ByteArray×List Sx×(Ins×ByteArray×List OpV)):RO :=
 .ret (.s (.agg [.v (.string y.1),.sl 1 0 (sxF c y.2.2.1 y.2.1 y.2.2.2.2).length])) [some (wrK y.2.2.1 y.1 (sxF c y.2.2.1 y.2.1 y.2.2.2.2).length 1)] [aD (sxF c y.2.2.1 y.2.1 y.2.2.2.2)]
def dk (T:gQ) (c:Cst):aJ Tryz.prog 48 :=
 mkQ 1 5 (by decide) _ _ _ Tryz.func48 rfl (fun _ _=>by go_simp) (kV T c) (fun y=>[.s (.l (.p 0 0 0)),sv y.1,.s (.l (.sl 2 0 y.2.1.length))]) (fun y=>[wrK y.2.2.1 y.2.2.2.1 y.2.2.2.2.length 1,aD y.2.2.2.2,sxK c 0 3 4 y.2.1,pcK 0,c.kk]) (qf c) (by rw [Tryz.ntmps48];decide) (fun hs hd=>yJ hs hd)
  (by
   intro h zs q' bs y hd hq
   obtain ⟨nm,S,x,nm0,l⟩:=y
   obtain ⟨b,tb,sb,pc,oc,kp,ko,rfl,rfl,hnd,h1,h2,h3,h4,h5,rfl⟩:=vY hd
   obtain ⟨rfl,rfl,hq1,hq2⟩:=hq
   refine ⟨by rw [Tryz.ntmps48];show 3≤27;decide,rfl,rfl,hnd,fun d=>⟨?_,?_⟩⟩
   ·intro j b' k hj hk
    match j,hj,hk with
    | 0,hj,hk =>
     simp at hj hk
     subst hj
     subst hk
     exact ⟨rfl,by rw [h1,kl];rfl⟩
    | 1,hj,hk =>
     simp at hj hk
     subst hj
     subst hk
     exact ⟨rfl,by rw [h2,fj]⟩
    | 2,hj,hk =>
     simp at hj hk
     subst hj
     subst hk
     exact ⟨rfl,by rw [h3,qF];rfl⟩
    | 3,hj,hk =>
     simp at hj hk
     subst hj
     subst hk
     exact ⟨rfl,by rw [h4,uR];rfl⟩
    | 4,hj,hk =>
     simp at hj hk
     subst hj
     subst hk
     exact ⟨c.own,by rw [h5,c.ren]⟩
   ·intro ρ al vals hA
    match vals,hA with
    | [v,w,u],⟨a,b,c,_⟩=>exact ⟨a,b,c,trivial⟩)
  (by
   intro h zs q' bs y hd hq
   obtain ⟨nm,S,x,nm0,l⟩:=y
   obtain ⟨b,tb,sb,pc,oc,kp,ko,rfl,rfl,hnd,h1,h2,h3,h4,h5,rfl⟩:=vY hd
   obtain ⟨rfl,rfl,hq1,hq2⟩:=hq
   exact EC c S x nm0 nm l hq1 hq2)
theorem jI {T:gQ} {c:Cst} {id:Nat} {h:am} {args:List AV}:(dk T c).run id h args=co 1 (kV T c) (qf c) id h args:=rfl
theorem jK {T:gQ} {c:Cst} {id:Nat} {h:am} {args:List AV}:(dk T c).pan id h args=none:=rfl
end
section
open Go.RowKit
theorem AD {st:St} {kk:Blk} (hk:∀ g,kk.ren g=kk) (ho:kk.own=true) {o:OpV} {x:Ins} {nm:ByteArray} {l:List OpV} {tb:Nat} (h0:hget st.h 0=some (wrK x nm (l.length+1) tb)) (h1:hget st.h 1=some (pcK 0)) (h2:hget st.h 2=some kk) (h3:hget st.h tb=some (aD (l++[o]))) (hn:2<tb) :
  pT 3 st (sC kk o (x,nm,l)) (some (.tup [])):=by
 refine ⟨rfl,[some (wrK x nm (l.length+1) 3),some (pcK 0),some kk],[aD (l++[o])],rfl,rfl,by simp,by simp [wrK,pcK,ho],by simp [aD],Wk.ren [0,1,2,tb] ?_ (Nat.le_refl _) ?_ (fun p hp=>by cases hp) ?_⟩
 ·intro j hj
  have:j=0∨j=1∨j=2:=by
   have:j<3:=hj
   omega
  rcases this with rfl | rfl | rfl<;>rfl
 ·simp
  omega
 ·intro p hp k hk'
  simp only [eL,cX,List.cons_append,List.nil_append,List.mem_cons,List.not_mem_nil,or_false] at hp
  rcases hp with rfl | rfl | rfl | rfl
  ·simp only [Option.some.injEq] at hk'
   subst hk'
   simp only [List.getD_eq_getElem?_getD,List.getElem?_cons_zero,Option.getD_some,h0,kl]
   rfl
  ·simp only [Option.some.injEq] at hk'
   subst hk'
   simp only [List.getD_eq_getElem?_getD,List.getElem?_cons_succ,List.getElem?_cons_zero,Option.getD_some,h1,uR]
  ·simp only [Option.some.injEq] at hk'
   subst hk'
   simp only [List.getD_eq_getElem?_getD,List.getElem?_cons_succ,List.getElem?_cons_zero,Option.getD_some,h2,hk]
  ·simp only [Option.some.injEq] at hk'
   subst hk'
   simp only [List.getD_eq_getElem?_getD,List.getElem?_cons_succ,List.getElem?_cons_zero,Option.getD_some,h3,fj]
def gO (x:Ins):Blk:=⟨true,27,10,[az x]⟩
theorem IB (y x:Ins) (nm:ByteArray) (l:List OpV) (h:l.length≤1000):SW Tryz.prog ⟨none,3⟩ Tryz.f124.ntmps (Tryz.f124.body.getD .skip) ⟨4,ag 0 [.s (.l (.p 1 0 0)),.s (.l (.p 2 0 0))],cX 0 [wrK x nm l.length 3,pcK 0,gO y,aD l]⟩ (jq Tryz.prog Tryz.f124.results.toList 3 (sC (gO y) (oOf 6 y.a) (x,nm,l))):=by
 refine aa (ctx:=[]) 4000 ?_
 rw [Tryz.ntmps124,Tryz.results124]
 simp only [Tryz.f124,Option.getD_some,ag]
 simp only [go_sem,wrK,az,aD,pcK,gO]
 refine aP (ctx:=[⟨_,ofS⟩,⟨_,fE⟩]) ak [4] (by kernel_rfl) ?_
 simp only [go_sem,fC,fF,ce,ca,opV,oOf,op0,r0,opR,opE,emp,db,bp,aT,aq,xwT,bI,wrK,az,aD,dn,h]
 refine AD (kk:=gO y) (o:=oOf 6 y.a) (x:=x) (nm:=nm) (l:=l) (tb:=68) (fun _=>rfl) rfl ?_ ?_ ?_ ?_ (by decide)
 all_goals simp [hget,wrK,az,gO,pcK,aD,oOf,op0,r0,emp]
def Ho (y:Ins):Cst where
 g:=124
 kk:=gO y
 own:=rfl
 ren:=fun _=>rfl
 o:=oOf 6 y.a
 spec:=Ko _ _ _ Tryz.func124 rfl (fun _ _=>by go_simp) (gO y) (fun _=>rfl) rfl (oOf 6 y.a) (by rw [Tryz.ntmps124];decide) (fun x nm l h=>IB y x nm l h)
 run_eq:=fun _ _ _=>rfl
 pan_eq:=fun _ _ _=>rfl
theorem rR (i:Nat) (hi:i≤62) (x:Int) (h0:0≤x) (h1:x<4611686018427387904):bits .and .i64 x (2 ^ i-1)=x % 2 ^ i :=
 bits_mask .i64 62 (by decide) (fun n h0 h1=>by rw [IntKind.wrap_i64];omega) i hi x h0 h1
theorem qG (x:Ins) (h0:0≤x.a) (h1:x.a<4611686018427387904):pu x=li x:=by
 have d:∀ k:Int,0<k→x.a.fdiv k=x.a / k:=fun k hk=>Int.fdiv_eq_ediv_of_nonneg _ (by omega)
 have p:∀ k:Int,0<k→0≤x.a / k∧x.a / k<4611686018427387904:=fun k hk=>⟨Int.ediv_nonneg h0 (by omega),Int.lt_of_le_of_lt (Int.ediv_le_self _ h0) h1⟩
 have m3:∀ y:Int,0≤y→y<4611686018427387904→bits .and .i64 y 7=y % 8:=fun y=>rR 3 (by decide) y
 have m4:∀ y:Int,0≤y→y<4611686018427387904→bits .and .i64 y 15=y % 16:=fun y=>rR 4 (by decide) y
 unfold pu kJ li
 simp only [List.getD_cons_zero,List.getD_cons_succ,List.cons.injEq,and_true]
 rw [d 2048 (by decide),d 128 (by decide),d 8 (by decide),d 1 (by decide)]
 have e1:=m3 (x.a / 2048) (p 2048 (by decide)).1 (p 2048 (by decide)).2
 have e2:=m4 (x.a / 128) (p 128 (by decide)).1 (p 128 (by decide)).2
 have e3:=m4 (x.a / 8) (p 8 (by decide)).1 (p 8 (by decide)).2
 have e4:=m3 (x.a / 1) (p 1 (by decide)).1 (p 1 (by decide)).2
 rw [e1,e2,e3,e4,Int.ediv_one]
 exact ⟨rfl,rfl,rfl,rfl⟩
def wrB (x:Ins):St:=⟨5,[(1,.s (.l (.p 0 0 0))),(2,.s (.l (.p 1 0 0))),(3,.s (.l (.p 2 0 0)))],[(0,some ⟨true,27,10,[az x]⟩),(1,some bQ),(2,some ⟨true,66,1,[[.p 3 0 0]]⟩),(3,some (wrK x emp 0 4)),(4,some (aD []))]⟩
theorem sy13 (x:Ins) (h:x.op=13):SW Tryz.prog ⟨none,0⟩ Tryz.f61.ntmps (Tryz.f61.body.getD .skip) ⟨0,ag 0 [(ai ac).enc x],[]⟩ (ax Tryz.prog Tryz.f61.results.toList (.ret (aj (dT x)))):=by
 rw [Tryz.ntmps61,Tryz.results61]
 simp only [Tryz.f61,Option.getD_some,ag]
 refine aE (aa (ctx:=[]) 4000 ?_)
 simp only [go_sem,aS,ac]
 refine aE (aa (ctx:=[]) 4000 ?_)
 simp only [go_sem,aS]
 refine SW.wk (s':=wrB x) ?_ ((Wk.nilC 64 11 40 15 (k:=⟨true,68,12,[az x++[.v (.string emp),.v (.slice none 0 0)]]⟩) rfl rfl rfl).trans (Wk.renL [0,16,80,64,112] (by simp) (by simp [wrB]) (by decide) rfl rfl))
 refine aa (ctx:=[⟨_,cI bG⟩]) 4000 ?_
 have b13:(x.op==13)=true:=by rw [h];decide
 have e:dT x=((⟨#[104,105,110,116]⟩:ByteArray),[dL x]):=by unfold dT;rw [if_pos h]
 simp only [go_sem,wrB,b13,e,bj,bk,az,wrK,aD,bQ,pcK,aV,bV,aL,aK,bU,bW,bu,aC,aH,bm,co,bX,bp,aT,aq,aX,ci,gOf,aF,aI,aj,cn,bF,bh,jD,fA]
theorem RD (x:Ins) (h:x.op=14) (hb:x.b=4):SW Tryz.prog ⟨none,0⟩ Tryz.f61.ntmps (Tryz.f61.body.getD .skip) ⟨0,ag 0 [(ai ac).enc x],[]⟩ (ax Tryz.prog Tryz.f61.results.toList (.ret (aj (dT x)))):=by
 rw [Tryz.ntmps61,Tryz.results61]
 simp only [Tryz.f61,Option.getD_some,ag]
 refine aE (aa (ctx:=[]) 4000 ?_)
 simp only [go_sem,aS,ac]
 refine aE (aa (ctx:=[]) 4000 ?_)
 simp only [go_sem,aS]
 refine SW.wk (s':=wrB x) ?_ ((Wk.nilC 64 11 40 15 (k:=⟨true,68,12,[az x++[.v (.string emp),.v (.slice none 0 0)]]⟩) rfl rfl rfl).trans (Wk.renL [0,16,80,64,112] (by simp) (by simp [wrB]) (by decide) rfl rfl))
 refine aa (ctx:=[]) 4000 ?_
 have b13:(x.op==13)=false:=by rw [h];decide
 have b14:(x.op==14)=true:=by rw [h];decide
 obtain ⟨P,hP⟩:∃ P,ae (x.b-4) [(⟨#[100,115,98]⟩:ByteArray),(⟨#[100,109,98]⟩:ByteArray)]=P:=⟨_,rfl⟩
 have e:dT x=(P,[oOf 7 x.a]):=by unfold dT;rw [if_neg (by omega),if_pos h,if_pos (by omega),hP]
 have e4:IntKind.i64.wrap (x.b-4)=x.b-4:=by rw [IntKind.wrap_i64];omega
 have q4:(x.b==4)=true:=by rw [hb];decide
 have q5:(x.b==5)=false:=by rw [hb];decide
 rw [e]
 simp only [go_sem,wrB,b13,b14,q4,q5,az,wrK,aD,bQ]
 refine aP (ctx:=[⟨_,ofS⟩,⟨_,fE⟩]) ak [4] (by kernel_rfl) ?_
 simp only [go_sem,fC,fF,bU,bW,bp,aT,aq,aH,gOf,aF,az,wrK,aD,bQ,ce,ca,db,xwT,xw0,bI,opV,aw,oOf,ah,op0,r0,opR,opE,emp,opL,cG,ofD,cy]
 refine ab (ctx:=[⟨_,bJ⟩,⟨_,nY bG⟩]) ak ⟨[6,7],[(5,[325])],[(0,[325])]⟩ (by kernel_rfl) ?_
 simp only [go_sem,e4,hP,kL,k9,kP,jW,iP,kc,az,wrK,aD,bQ,pcK,aV,bV,aL,aK,bU,bW,bu,aC,aH,bm,co,bX,bp,aT,aq,aX,ci,gOf,aF,aI,aj,cn,bF,bh,opL,cG,ofD,opE,oOf,op0,r0,emp,cy]
theorem Q3 (x:Ins) (h:x.op=14) (hb:x.b=5):SW Tryz.prog ⟨none,0⟩ Tryz.f61.ntmps (Tryz.f61.body.getD .skip) ⟨0,ag 0 [(ai ac).enc x],[]⟩ (ax Tryz.prog Tryz.f61.results.toList (.ret (aj (dT x)))):=by
 rw [Tryz.ntmps61,Tryz.results61]
 simp only [Tryz.f61,Option.getD_some,ag]
 refine aE (aa (ctx:=[]) 4000 ?_)
 simp only [go_sem,aS,ac]
 refine aE (aa (ctx:=[]) 4000 ?_)
 simp only [go_sem,aS]
 refine SW.wk (s':=wrB x) ?_ ((Wk.nilC 64 11 40 15 (k:=⟨true,68,12,[az x++[.v (.string emp),.v (.slice none 0 0)]]⟩) rfl rfl rfl).trans (Wk.renL [0,16,80,64,112] (by simp) (by simp [wrB]) (by decide) rfl rfl))
 refine aa (ctx:=[]) 4000 ?_
 have b13:(x.op==13)=false:=by rw [h];decide
 have b14:(x.op==14)=true:=by rw [h];decide
 obtain ⟨P,hP⟩:∃ P,ae (x.b-4) [(⟨#[100,115,98]⟩:ByteArray),(⟨#[100,109,98]⟩:ByteArray)]=P:=⟨_,rfl⟩
 have e:dT x=(P,[oOf 7 x.a]):=by unfold dT;rw [if_neg (by omega),if_pos h,if_pos (by omega),hP]
 have e4:IntKind.i64.wrap (x.b-4)=x.b-4:=by rw [IntKind.wrap_i64];omega
 have q4:(x.b==4)=false:=by rw [hb];decide
 have q5:(x.b==5)=true:=by rw [hb];decide
 rw [e]
 simp only [go_sem,wrB,b13,b14,q4,q5,az,wrK,aD,bQ]
 refine aP (ctx:=[⟨_,ofS⟩,⟨_,fE⟩]) ak [4] (by kernel_rfl) ?_
 simp only [go_sem,fC,fF,bU,bW,bp,aT,aq,aH,gOf,aF,az,wrK,aD,bQ,ce,ca,db,xwT,xw0,bI,opV,aw,oOf,ah,op0,r0,opR,opE,emp,opL,cG,ofD,cy]
 refine ab (ctx:=[⟨_,bJ⟩,⟨_,nY bG⟩]) ak ⟨[6,7],[(5,[373])],[(0,[373])]⟩ (by kernel_rfl) ?_
 simp only [go_sem,e4,hP,kL,k9,kP,jW,iP,kc,az,wrK,aD,bQ,pcK,aV,bV,aL,aK,bU,bW,bu,aC,aH,bm,co,bX,bp,aT,aq,aX,ci,gOf,aF,aI,aj,cn,bF,bh,opL,cG,ofD,opE,oOf,op0,r0,emp,cy]
theorem N4 (x:Ins) (h:x.op=14) (h4:¬x.b=4) (h5:¬x.b=5):SW Tryz.prog ⟨none,0⟩ Tryz.f61.ntmps (Tryz.f61.body.getD .skip) ⟨0,ag 0 [(ai ac).enc x],[]⟩ (ax Tryz.prog Tryz.f61.results.toList (.ret (aj (dT x)))):=by
 rw [Tryz.ntmps61,Tryz.results61]
 simp only [Tryz.f61,Option.getD_some,ag]
 refine aE (aa (ctx:=[]) 4000 ?_)
 simp only [go_sem,aS,ac]
 refine aE (aa (ctx:=[]) 4000 ?_)
 simp only [go_sem,aS]
 refine SW.wk (s':=wrB x) ?_ ((Wk.nilC 64 11 40 15 (k:=⟨true,68,12,[az x++[.v (.string emp),.v (.slice none 0 0)]]⟩) rfl rfl rfl).trans (Wk.renL [0,16,80,64,112] (by simp) (by simp [wrB]) (by decide) rfl rfl))
 refine aa (ctx:=[]) 4000 ?_
 have b13:(x.op==13)=false:=by rw [h];decide
 have b14:(x.op==14)=true:=by rw [h];decide
 obtain ⟨P,hP⟩:∃ P,ae x.b [⟨#[]⟩,⟨#[]⟩,(⟨#[99,108,114,101,120]⟩:ByteArray),⟨#[]⟩,⟨#[]⟩,⟨#[]⟩,(⟨#[105,115,98]⟩:ByteArray)]=P:=⟨_,rfl⟩
 have hP2:ae x.b [emp,emp,(⟨#[99,108,114,101,120]⟩:ByteArray),emp,emp,emp,(⟨#[105,115,98]⟩:ByteArray)]=P:=hP
 have e:dT x=(P,[dL x]):=by unfold dT;rw [if_neg (by omega),if_pos h,if_neg (by omega),hP2]
 have q4:(x.b==4)=false:=by simpa using h4
 have q5:(x.b==5)=false:=by simpa using h5
 rw [e]
 simp only [go_sem,wrB,b13,b14,q4,q5,az,wrK,aD,bQ]
 refine ab (ctx:=[⟨_,bJ⟩,⟨_,cI bG⟩]) ak ⟨[8,9],[(4,[277])],[(0,[277]),(5,[277]),(6,[277]),(7,[277])]⟩ (by kernel_rfl) ?_
 simp only [go_sem,hP,bj,bk,az,wrK,aD,bQ,pcK,aV,bV,aL,aK,bU,bW,bu,aC,aH,bm,co,bX,bp,aT,aq,aX,ci,gOf,aF,aI,aj,cn,bF,bh,jD,fA]
theorem N7 (x:Ins) (h:x.op=15) (hb:x.b=0):SW Tryz.prog ⟨none,0⟩ Tryz.f61.ntmps (Tryz.f61.body.getD .skip) ⟨0,ag 0 [(ai ac).enc x],[]⟩ (ax Tryz.prog Tryz.f61.results.toList (.ret (aj (dT x)))):=by
 rw [Tryz.ntmps61,Tryz.results61]
 simp only [Tryz.f61,Option.getD_some,ag]
 refine aE (aa (ctx:=[]) 4000 ?_)
 simp only [go_sem,aS,ac]
 refine aE (aa (ctx:=[]) 4000 ?_)
 simp only [go_sem,aS]
 refine SW.wk (s':=wrB x) ?_ ((Wk.nilC 64 11 40 15 (k:=⟨true,68,12,[az x++[.v (.string emp),.v (.slice none 0 0)]]⟩) rfl rfl rfl).trans (Wk.renL [0,16,80,64,112] (by simp) (by simp [wrB]) (by decide) rfl rfl))
 refine aa (ctx:=[⟨_,dk bG (Ho x)⟩]) 4000 ?_
 have b13:(x.op==13)=false:=by rw [h];decide
 have b14:(x.op==14)=false:=by rw [h];decide
 have b15:(x.op==15)=true:=by rw [h];decide
 have e:dT x=((⟨#[109,115,114]⟩:ByteArray),[oOf 6 x.a,xdO x]):=by unfold dT;rw [if_neg (by omega),if_neg (by omega),if_pos h,if_pos hb]
 have q0:(x.b==0)=true:=by simpa using hb
 simp only [go_sem,wrB,b13,b14,b15,q0,e,jI,jK,kV,nh,qf,pX,sxQ,sxF,Sx.q,Sx.F,Ho,List.nodup_cons,List.nodup_nil,List.mem_cons,List.not_mem_nil,List.mem_nil_iff,or_false,false_or,or_self,not_false_eq_true,and_self,true_and,and_true,az,wrK,aD,bQ,pcK,aV,bV,aL,aK,bU,bW,bu,aC,aH,bm,co,bX,bp,aT,aq,aX,ci,gOf,aF,aI,aj,cn,bF,bh,uB,oN,gO]
theorem Pp (x:Ins) (h:x.op=15) (hb:¬x.b=0):SW Tryz.prog ⟨none,0⟩ Tryz.f61.ntmps (Tryz.f61.body.getD .skip) ⟨0,ag 0 [(ai ac).enc x],[]⟩ (ax Tryz.prog Tryz.f61.results.toList (.ret (aj (dT x)))):=by
 rw [Tryz.ntmps61,Tryz.results61]
 simp only [Tryz.f61,Option.getD_some,ag]
 refine aE (aa (ctx:=[]) 4000 ?_)
 simp only [go_sem,aS,ac]
 refine aE (aa (ctx:=[]) 4000 ?_)
 simp only [go_sem,aS]
 refine SW.wk (s':=wrB x) ?_ ((Wk.nilC 64 11 40 15 (k:=⟨true,68,12,[az x++[.v (.string emp),.v (.slice none 0 0)]]⟩) rfl rfl rfl).trans (Wk.renL [0,16,80,64,112] (by simp) (by simp [wrB]) (by decide) rfl rfl))
 refine aa (ctx:=[⟨_,dk bG (Ho x)⟩]) 4000 ?_
 have b13:(x.op==13)=false:=by rw [h];decide
 have b14:(x.op==14)=false:=by rw [h];decide
 have b15:(x.op==15)=true:=by rw [h];decide
 have e:dT x=((⟨#[109,114,115]⟩:ByteArray),[xdO x,oOf 6 x.a]):=by unfold dT;rw [if_neg (by omega),if_neg (by omega),if_pos h,if_neg hb]
 have q0:(x.b==0)=false:=by simpa using hb
 simp only [go_sem,wrB,b13,b14,b15,q0,e,jI,jK,kV,nh,qf,pX,sxQ,sxF,Sx.q,Sx.F,Ho,List.nodup_cons,List.nodup_nil,List.mem_cons,List.not_mem_nil,List.mem_nil_iff,or_false,false_or,or_self,not_false_eq_true,and_self,true_and,and_true,az,wrK,aD,bQ,pcK,aV,bV,aL,aK,bU,bW,bu,aC,aH,bm,co,bX,bp,aT,aq,aX,ci,gOf,aF,aI,aj,cn,bF,bh,uB,oN,gO]
theorem sy16 (x:Ins) (h:x.op=16):SW Tryz.prog ⟨none,0⟩ Tryz.f61.ntmps (Tryz.f61.body.getD .skip) ⟨0,ag 0 [(ai ac).enc x],[]⟩ (ax Tryz.prog Tryz.f61.results.toList (.ret (aj (dT x)))):=by
 rw [Tryz.ntmps61,Tryz.results61]
 simp only [Tryz.f61,Option.getD_some,ag]
 refine aE (aa (ctx:=[]) 4000 ?_)
 simp only [go_sem,aS,ac]
 refine aE (aa (ctx:=[]) 4000 ?_)
 simp only [go_sem,aS]
 refine SW.wk (s':=wrB x) ?_ ((Wk.nilC 64 11 40 15 (k:=⟨true,68,12,[az x++[.v (.string emp),.v (.slice none 0 0)]]⟩) rfl rfl rfl).trans (Wk.renL [0,16,80,64,112] (by simp) (by simp [wrB]) (by decide) rfl rfl))
 refine aa (ctx:=[⟨_,cI bG⟩]) 4000 ?_
 have b13:(x.op==13)=false:=by rw [h];decide
 have b14:(x.op==14)=false:=by rw [h];decide
 have b15:(x.op==15)=false:=by rw [h];decide
 have b16:(x.op==16)=true:=by rw [h];decide
 have e:dT x=((⟨#[109,115,114]⟩:ByteArray),[oOf 9 x.b,dL x]):=by unfold dT;rw [if_neg (by omega),if_neg (by omega),if_neg (by omega),if_pos h]
 rw [e]
 simp only [go_sem,wrB,b13,b14,b15,b16,az,wrK,aD,bQ]
 refine aP (ctx:=[⟨_,ofS⟩,⟨_,fE⟩]) ak [4] (by kernel_rfl) ?_
 simp only [go_sem,fC,fF,bj,bk,az,wrK,aD,bQ,pcK,aV,bV,aL,aK,bU,bW,bu,aC,aH,bm,co,bX,bp,aT,aq,aX,ci,gOf,aF,aI,aj,cn,bF,bh,jD,fA,ce,ca,db,xwT,xw0,bI,opV,aw,oOf,ah,op0,r0,opR,opE,emp,opL,cG,ofD,cy]
theorem OQ (x:Ins) (h:x.op=17) (hb:x.b=0) (ha:0≤x.a∧x.a<4611686018427387904):SW Tryz.prog ⟨none,0⟩ Tryz.f61.ntmps (Tryz.f61.body.getD .skip) ⟨0,ag 0 [(ai ac).enc x],[]⟩ (ax Tryz.prog Tryz.f61.results.toList (.ret (aj (dT x)))):=by
 rw [Tryz.ntmps61,Tryz.results61]
 simp only [Tryz.f61,Option.getD_some,ag]
 refine aE (aa (ctx:=[]) 4000 ?_)
 simp only [go_sem,aS,ac]
 refine aE (aa (ctx:=[]) 4000 ?_)
 simp only [go_sem,aS]
 refine SW.wk (s':=wrB x) ?_ ((Wk.nilC 64 11 40 15 (k:=⟨true,68,12,[az x++[.v (.string emp),.v (.slice none 0 0)]]⟩) rfl rfl rfl).trans (Wk.renL [0,16,80,64,112] (by simp) (by simp [wrB]) (by decide) rfl rfl))
 refine aa (ctx:=[⟨_,cI bG⟩]) 4000 ?_
 have b13:(x.op==13)=false:=by rw [h];decide
 have b14:(x.op==14)=false:=by rw [h];decide
 have b15:(x.op==15)=false:=by rw [h];decide
 have b16:(x.op==16)=false:=by rw [h];decide
 have e:dT x=((⟨#[115,121,115]⟩:ByteArray),li x++[xdO x]):=by unfold dT;rw [if_neg (by omega),if_neg (by omega),if_neg (by omega),if_neg (by omega),if_pos hb]
 have q0:(x.b==0)=true:=by simpa using hb
 have eA:=qG x ha.1 ha.2
 obtain ⟨z0,z1,z2,z3,hz⟩:∃ z0 z1 z2 z3,li x=[z0,z1,z2,z3]:=⟨_,_,_,_,rfl⟩
 rw [hz] at eA
 simp only [go_sem,wrB,b13,b14,b15,b16,q0,e,hz,eA,bj,bk,az,wrK,aD,bQ,pcK,aV,bV,aL,aK,bU,bW,bu,aC,aH,bm,co,bX,bp,aT,aq,aX,ci,gOf,aF,aI,aj,cn,bF,bh,nC,oC,uB,oN]
theorem Rt (x:Ins) (h:x.op=17) (hb:¬x.b=0) (ha:0≤x.a∧x.a<4611686018427387904):SW Tryz.prog ⟨none,0⟩ Tryz.f61.ntmps (Tryz.f61.body.getD .skip) ⟨0,ag 0 [(ai ac).enc x],[]⟩ (ax Tryz.prog Tryz.f61.results.toList (.ret (aj (dT x)))):=by
 rw [Tryz.ntmps61,Tryz.results61]
 simp only [Tryz.f61,Option.getD_some,ag]
 refine aE (aa (ctx:=[]) 4000 ?_)
 simp only [go_sem,aS,ac]
 refine aE (aa (ctx:=[]) 4000 ?_)
 simp only [go_sem,aS]
 refine SW.wk (s':=wrB x) ?_ ((Wk.nilC 64 11 40 15 (k:=⟨true,68,12,[az x++[.v (.string emp),.v (.slice none 0 0)]]⟩) rfl rfl rfl).trans (Wk.renL [0,16,80,64,112] (by simp) (by simp [wrB]) (by decide) rfl rfl))
 refine aa (ctx:=[⟨_,cI bG⟩]) 4000 ?_
 have b13:(x.op==13)=false:=by rw [h];decide
 have b14:(x.op==14)=false:=by rw [h];decide
 have b15:(x.op==15)=false:=by rw [h];decide
 have b16:(x.op==16)=false:=by rw [h];decide
 have e:dT x=((⟨#[115,121,115,108]⟩:ByteArray),xdO x::li x):=by unfold dT;rw [if_neg (by omega),if_neg (by omega),if_neg (by omega),if_neg (by omega),if_neg hb]
 have q0:(x.b==0)=false:=by simpa using hb
 have eA:=qG x ha.1 ha.2
 obtain ⟨z0,z1,z2,z3,hz⟩:∃ z0 z1 z2 z3,li x=[z0,z1,z2,z3]:=⟨_,_,_,_,rfl⟩
 rw [hz] at eA
 simp only [go_sem,wrB,b13,b14,b15,b16,q0,e,hz,eA,bj,bk,az,wrK,aD,bQ,pcK,aV,bV,aL,aK,bU,bW,bu,aC,aH,bm,co,bX,bp,aT,aq,aX,ci,gOf,aF,aI,aj,cn,bF,bh,uB,oN,nC,oC]
def DN (x:Ins):Prop:=13≤x.op∧x.op≤17∧(x.op=17→0≤x.a∧x.a<4611686018427387904)
theorem yp (x:Ins) (hq:DN x):SW Tryz.prog ⟨none,0⟩ Tryz.f61.ntmps (Tryz.f61.body.getD .skip) ⟨0,ag 0 [(ai ac).enc x],[]⟩ (ax Tryz.prog Tryz.f61.results.toList (.ret (aj (dT x)))):=by
 obtain ⟨h1,h2,h3⟩:=hq
 have:x.op=13∨x.op=14∨x.op=15∨x.op=16∨x.op=17:=by omega
 rcases this with h | h | h | h | h
 ·exact sy13 x h
 ·by_cases h4:x.b=4
  ·exact RD x h h4
  by_cases h5:x.b=5
  ·exact Q3 x h h5
  ·exact N4 x h h4 h5
 ·by_cases hb:x.b=0
  ·exact N7 x h hb
  ·exact Pp x h hb
 ·exact sy16 x h
 ·by_cases hb:x.b=0
  ·exact OQ x h hb (h3 h)
  ·exact Rt x h hb (h3 h)
def rj:aJ Tryz.prog 61 :=
 mk1 _ _ _ Tryz.func61 rfl (fun _ _=>by go_simp) (ai ac) (DN) ((fun x=>.ret (aj (dT x)))) (by rw [Tryz.ntmps61];decide) (fun x h=>yp x h)
theorem wq {id:Nat} {h:am} {args:List AV}:(rj).run id h args=aY (au (ai ac) (DN)) ((fun x=>.ret (aj (dT x)))) h args:=rfl
theorem vf {id:Nat} {h:am} {args:List AV}:(rj).pan id h args=aZ (au (ai ac) (DN)) ((fun x=>.ret (aj (dT x)))) h args:=rfl
end
end Go.Proofs.YtpjlafmhoifkmaaGreat
