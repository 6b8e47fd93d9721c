import Derived.Test.YtpjlafmhoifkmaaGreatN15
import Derived.Test.YtpjlafmhoifkmaaGreatN10
set_option linter.unusedVariables false
set_option linter.unusedSimpArgs false
set_option maxRecDepth 100000
set_option maxHeartbeats 8000000
namespace Go.Proofs.YtpjlafmhoifkmaaGreat
section
open Go.RowKit
def qo (s:ByteArray):List LV:=[.v (.string s)]
def ff (l:List ByteArray):Blk:=⟨true,9,1,l.map qo⟩
def aC:List LV→Option ByteArray
 | [.v (.string s)]=>some s
 | _=>none
theorem rg {c:List LV} {s:ByteArray} (h:aC c=some s):c=qo s:=by
 unfold aC at h
 split at h
 ·injection h with h;subst h;rfl
 ·cases h
theorem pj (l:List ByteArray) (g:Nat→Nat):(ff l).ren g=ff l:=by
 unfold ff Blk.ren
 simp [Function.comp_def,qo,LV.ren]
def bu (h:ah):List AV→Option (Prop×List Nat×(Int×List ByteArray))
 | [.s (.l (.v (.int .i64 n))),.s (.l (.sl b 0 m))]=>match hget h b with
  | some ⟨true,T,1,rows⟩=>match aG aC rows with
   | some l=>if T=9∧m=l.length then some (True,[b],(n,l)) else none
   | none=>none
  | _=>none
 | _=>none
theorem tN {h:ah} {zs:List AV} {q:Prop} {bs:List Nat} {n:Int} {l:List ByteArray} (hd:bu h zs=some (q,bs,n,l)) :
  ∃ b,zs=[.s (.l (.v (.int .i64 n))),.s (.l (.sl b 0 l.length))]∧bs=[b]∧hget h b=some (ff l)∧q=True:=by
 unfold bu at hd
 split at hd
 case h_2=>cases hd
 rename_i n' b m
 split at hd
 case h_2=>cases hd
 rename_i T rows hb
 split at hd
 case h_2=>cases hd
 rename_i l' hl
 split at hd
 case isFalse=>cases hd
 rename_i hc
 obtain ⟨rfl,rfl⟩:=hc
 simp only [Option.some.injEq,Prod.mk.injEq] at hd
 obtain ⟨rfl,rfl,rfl,rfl⟩:=hd
 exact ⟨b,rfl,rfl,by rw [hb,ff,d6 (d:=aC) (e:=qo) (fun c x hc=>rg hc) hl],rfl⟩
theorem oI {h h':ah} (hs:∀ b k,hget h b=some k→hget h' b=some k) {zs:List AV} {r:Prop×List Nat×(Int×List ByteArray)} (hd:bu h zs=some r):bu h' zs=some r:=by
 unfold bu at hd ⊢
 split at hd
 case h_2=>cases hd
 split at hd
 case h_2=>cases hd
 rename_i hb
 simp only [hs _ _ hb]
 exact hd
def bj (x:Int×List ByteArray):RO:=.ret (.s (.l (.v (.string (ak x.1 x.2))))) [] []
theorem qd {st:St} {r:AV} (hr:r.plain=true):na 0 st (.ret r [] []) (some r) :=
 ⟨hr,[],[],rfl,rfl,by simp,by simp,by simp,Wk.ren [] (by intro j hj;cases hj) (Nat.zero_le _) List.nodup_nil (fun p hp=>by cases hp) (fun p hp=>by cases hp)⟩
theorem Fk (n:Int) (l:List ByteArray):SW Tryz.prog ⟨none,0⟩ Tryz.f31.ntmps (Tryz.f31.body.getD .skip) ⟨1,ag 0 [.s (.l (.v (.int .i64 n))),.s (.l (.sl 0 0 l.length))],cn 0 [ff l]⟩ (gn Tryz.prog Tryz.f31.results.toList 0 (bj (n,l))):=by
 refine aa (ctx:=[]) 4000 ?_
 rw [Tryz.ntmps31,Tryz.results31]
 simp only [Tryz.f31,Option.getD_some,ag]
 by_cases h0:n<0
 ·have e:ak n l=emp:=by unfold ak;rw [if_pos (.inl h0)]
  simp only [go_sem,ff,h0,bj,e,emp]
  exact qd rfl
 by_cases h1:(l.length:Int)≤n
 ·have e:ak n l=emp:=by unfold ak;rw [if_pos (.inr h1)]
  simp only [go_sem,ff,h0,h1,bj,e,emp]
  exact qd rfl
 ·obtain ⟨i,rfl⟩:=Int.eq_ofNat_of_zero_le (Int.not_lt.1 h0)
  have hi:i<l.length:=by omega
  obtain ⟨s,hs⟩:∃ s,l[i]? = some s:=⟨_,List.getElem?_eq_getElem hi⟩
  have e:ak (i:Int) l=s:=by
   unfold ak
   rw [if_neg (by omega)]
   show l.getD i emp=s
   rw [List.getD_eq_getElem?_getD,hs]
   rfl
  simp only [go_sem,ff,qo,h0,h1,bj,e,hi,hs]
  exact ⟨by omega,qd rfl⟩
def bp:aQ Tryz.prog 31 :=
 mkR 0 1 (by decide) _ _ _ Tryz.func31 rfl (fun _ _=>by go_simp) bu (fun x=>[.s (.l (.v (.int .i64 x.1))),.s (.l (.sl 0 0 x.2.length))]) (fun x=>[ff x.2]) bj (fun hs hd=>oI hs hd)
  (by
   intro h zs q' bs x hd hq
   obtain ⟨n,l⟩:=x
   obtain ⟨b,rfl,rfl,hb,rfl⟩:=tN hd
   refine ⟨by rw [Tryz.ntmps31];show 2≤17;decide,rfl,rfl,by simp,fun d=>⟨?_,?_⟩⟩
   ·intro j b' k hj hk
    match j,hj,hk with
    | 0,hj,hk =>
     simp at hj hk
     subst hj
     subst hk
     exact ⟨rfl,by rw [hb,pj]⟩
   ·intro ρ al vals hA
    match vals,hA with
    | [v,w],⟨a,b,_⟩=>exact ⟨a,b,trivial⟩)
  (by
   intro h zs q' bs x hd hq
   exact Fk x.1 x.2)
theorem aE {id:Nat} {h:ah} {args:List AV}:bp.run id h args=bK 0 bu bj id h args:=rfl
theorem aD {id:Nat} {h:ah} {args:List AV}:bp.pan id h args=bO bu bj h args:=rfl
end
section
open Go.RowKit
structure Stp where
 g:FuncId
 F:Ins→List OpV→List OpV
 q:Ins→List OpV→Prop
 spec:aQ Tryz.prog g
 run_eq:∀ (id:Nat) (h:ah) (args:List AV),spec.run id h args=bK 1 (cp xw0 (fun _=>q)) (fun y=>bk (.tup [],y.2.1,y.2.2.1,F y.2.1 y.2.2.2)) id h args
 pan_eq:∀ (id:Nat) (h:ah) (args:List AV),spec.pan id h args=bO (cp xw0 (fun _=>q)) (fun y=>bk (.tup [],y.2.1,y.2.2.1,F y.2.1 y.2.2.2)) h args
def aT (x:Ins):List Stp→List OpV→List OpV
 | [],l=>l
 | st::r,l=>aT x r (st.F x l)
def bg (x:Ins):List Stp→List OpV→Prop
 | [],_=>True
 | st::r,l=>st.q x l∧bg x r (st.F x l)
theorem ot (x:Ins):∀ (a b:List Stp) (l:List OpV),aT x (a++b) l=aT x b (aT x a l)
 | [],_,_=>rfl
 | st::a,b,l=>ot x a b (st.F x l)
theorem sK {x:Ins} {S:List Stp} {i:Nat} {st:Stp} (h:S[i]? = some st) (l:List OpV):aT x (S.take (i+1)) l=st.F x (aT x (S.take i) l):=by
 rw [List.take_add_one,h,ot]
 rfl
theorem qk {x:Ins}:∀ {S:List Stp} {l:List OpV},bg x S l→∀ {i:Nat} {st:Stp},S[i]? = some st→st.q x (aT x (S.take i) l)
 | [],_,_,_,_,hi=>by simp at hi
 | s::S,l,h,0,st,hi=>by
  simp only [List.getElem?_cons_zero,Option.some.injEq] at hi
  subst hi
  exact h.1
 | s::S,l,h,i+1,st,hi=>qk (S:=S) h.2 (by simpa using hi)
def mS (b:Nat) (st:Stp):List LV:=[.bf st.g [b] []]
def fB (b:Nat) (S:List Stp):Blk:=⟨true,1,1,S.map (mS b)⟩
def bB:Blk:=⟨true,33,2,[[.v (.string emp),.v (.slice none 0 0)]]⟩
def wO (S:List Stp) (x:Ins) (nm:ByteArray) (l0:List OpV) (i:Nat):St :=
 ⟨4,[(0,.s (.l (.p 0 0 0))),(6,.s (.l (.p 3 0 0))),(14,.s (.l (.sl 2 0 S.length))),(15,iv S.length),(16,iv i)],[(0,some (wrK x nm (aT x (S.take i) l0).length 1)),(1,some (ay (aT x (S.take i) l0))),(2,some (fB 0 S)),(3,some bB)]⟩
theorem wX (S:List Stp) (x:Ins) (nm0 nm:ByteArray) (l0:List OpV) (hq:bg x S l0) (hlen:S.length≤1000) :
  SW Tryz.prog ⟨none,1⟩ Tryz.f48.ntmps (Tryz.f48.body.getD .skip) ⟨3,ag 0 [.s (.l (.p 0 0 0)),sv nm,.s (.l (.sl 2 0 S.length))],cn 0 [wrK x nm0 l0.length 1,ay l0,fB 0 S]⟩
   (fy Tryz.prog Tryz.f48.results.toList 1 (.ret (.s (.agg [.v (.string nm),.sl 1 0 (aT x S l0).length])) [some (wrK x nm (aT x S l0).length 1)] [ay (aT x S l0)])):=by
 refine aa (ctx:=[]) 4000 ?_
 rw [Tryz.ntmps48,Tryz.results48]
 simp only [Tryz.f48,Option.getD_some,ag]
 simp only [go_sem,wrK,aw,ay,fB]
 refine cM (ι:=Nat) (fun i=>i≤S.length) (wO S x nm l0) (fun i=>S.length-i) 0 (Nat.zero_le _) ?start ?round
 case start =>
  exact Wk.renL [0,1,2,3] (fun j hj=>by
   obtain rfl:j=0:=Nat.lt_one_iff.1 hj
   rfl) (Nat.le_refl 4) (by decide) rfl (by simp [wO,aT,hget,Blk.ren,wrK,aw,ay,opL,opE,bX,ofD,fB,mS,bB,emp,LV.ren,Function.comp_def])
 case round =>
  intro i hi
  by_cases hlt:i<S.length
  ·have hltI:(i:Int)<S.length:=by omega
   obtain ⟨st,hst⟩:∃ st,S[i]? = some st:=⟨_,List.getElem?_eq_getElem hlt⟩
   have hqs:=qk hq hst
   have hnx:=sK (x:=x) hst l0
   have ei:IntKind.i64.wrap ((i:Int)+1)=((i+1:Nat):Int):=by rw [IntKind.wrap_i64];omega
   unfold wO
   obtain ⟨l,hl⟩:∃ l,aT x (S.take i) l0=l:=⟨_,rfl⟩
   rw [hl] at hqs hnx ⊢
   refine aa (ctx:=[⟨st.g,st.spec⟩]) 4000 ?_
   simp only [go_sem,wrK,aw,ay,fB,mS,hltI,hlt,hst,st.run_eq,st.pan_eq,cp,aX,aL,ap,xw0,bk,cz,hqs,ei]
   refine ⟨i+1,hlt,by omega,?_⟩
   rw [hnx]
   exact Wk.renL [0,84,2,3] (fun j hj=>by
    obtain rfl:j=0:=Nat.lt_one_iff.1 hj
    rfl) (Nat.le_refl 4) (by decide) rfl (by simp [hget,Blk.ren,wrK,aw,ay,opL,opE,bX,ofD,fB,mS,bB,emp,LV.ren,Function.comp_def])
  ·obtain rfl:i=S.length:=by omega
   have hltI:¬(S.length:Int)<S.length:=by omega
   unfold wO
   rw [List.take_length]
   refine aa (ctx:=[]) 4000 ?_
   simp only [go_sem,wrK,aw,ay,fB,bB,hltI,dE,cA]
   exact ⟨_,_,_,rfl,rfl,by simp,by simp,by simp,Wk.renL [0,1] (fun j hj=>by
    obtain rfl:j=0:=Nat.lt_one_iff.1 hj
    rfl) (Nat.le_refl _) (by decide) rfl (by simp [dC,cn,hget,Blk.ren,opL,opE,bX,ofD,LV.ren,Function.comp_def])⟩
end
section
open Go.RowKit
structure eP where
 at_:FuncId→Option Stp
 ok:∀ {g:FuncId} {st:Stp},at_ g=some st→st.g=g
def aS (T:eP) (b:Nat):List LV→Option Stp
 | [.bf g [b'] []]=>if b'=b then T.at_ g else none
 | _=>none
theorem sB {T:eP} {b:Nat} {c:List LV} {st:Stp} (h:aS T b c=some st):c=mS b st:=by
 unfold aS at h
 split at h
 ·split at h
  case isFalse=>cases h
  rename_i g b' e
  subst e
  rw [mS,T.ok h]
 ·cases h
def bI (x:Ins) (S:List Stp) (l:List OpV):Prop:=bg x S l∧S.length≤1000
def bD (T:eP) (h:ah):List AV→Option (Prop×List Nat×(ByteArray×List Stp×(Ins×ByteArray×List OpV)))
 | [A,.s (.l (.v (.string nm))),.s (.l (.sl sb 0 n))]=>match aX h A with
  | some ([b,tb],x,nm0,l)=>match hget h sb with
   | some ⟨true,Tt,1,rows⟩=>match aG (aS T b) rows with
    | some S=>if Tt=1∧n=S.length∧sb≠b∧sb≠tb then some (bI x S l,[b,tb,sb],(nm,S,(x,nm0,l))) else none
    | none=>none
   | _=>none
  | _=>none
 | _=>none
theorem uh {T:eP} {h:ah} {zs:List AV} {q:Prop} {bs:List Nat} {nm:ByteArray} {S:List Stp} {x:Ins} {nm0:ByteArray} {l:List OpV} (hd:bD T h zs=some (q,bs,nm,S,x,nm0,l)) :
  ∃ b tb sb,zs=[.s (.l (.p b 0 0)),sv nm,.s (.l (.sl sb 0 S.length))]∧bs=[b,tb,sb]∧b≠tb∧sb≠b∧sb≠tb∧hget h b=some (wrK x nm0 l.length tb)∧hget h tb=some (ay l)∧hget h sb=some (fB b S)∧q=bI x S l:=by
 unfold bD at hd
 split at hd
 case h_2=>cases hd
 rename_i A nm' sb n
 split at hd
 case h_2=>cases hd
 rename_i b tb x' nm0' l' hw
 split at hd
 case h_2=>cases hd
 rename_i Tt rows hs
 split at hd
 case h_2=>cases hd
 rename_i S' hS
 split at hd
 case isFalse=>cases hd
 rename_i hc
 obtain ⟨rfl,rfl,h1,h2⟩:=hc
 simp only [Option.some.injEq,Prod.mk.injEq] at hd
 obtain ⟨rfl,rfl,rfl,rfl,rfl,rfl,rfl⟩:=hd
 obtain ⟨b2,tb2,rfl,e,hne,g1,g2⟩:=iO hw
 simp only [List.cons.injEq,and_true] at e
 obtain ⟨rfl,rfl⟩:=e
 exact ⟨b,tb,sb,rfl,rfl,hne,h1,h2,g1,g2,by rw [hs,fB,d6 (d:=aS T b) (e:=mS b) (fun c x hc=>sB hc) hS],rfl⟩
theorem vf {T:eP} {h h':ah} (hs:∀ b k,hget h b=some k→hget h' b=some k) {zs:List AV} {r:Prop×List Nat×(ByteArray×List Stp×(Ins×ByteArray×List OpV))} (hd:bD T h zs=some r):bD T h' zs=some r:=by
 unfold bD at hd ⊢
 split at hd
 case h_2=>cases hd
 split at hd
 case h_2=>cases hd
 rename_i hw
 simp only [fT hs hw]
 split at hd
 case h_2=>cases hd
 rename_i ht
 simp only [hs _ _ ht]
 exact hd
theorem vB (b:Nat) (S:List Stp) (g:Nat→Nat):(fB b S).ren g=fB (g b) S:=by
 unfold fB Blk.ren
 simp [mS,LV.ren,Function.comp_def]
def bH (y:ByteArray×List Stp×(Ins×ByteArray×List OpV)):RO :=
 .ret (.s (.agg [.v (.string y.1),.sl 1 0 (aT y.2.2.1 y.2.1 y.2.2.2.2).length])) [some (wrK y.2.2.1 y.1 (aT y.2.2.1 y.2.1 y.2.2.2.2).length 1)] [ay (aT y.2.2.1 y.2.1 y.2.2.2.2)]
theorem rM (args:Array Value) (w:World):(callFunc 48 args).run Tryz.prog w=.ok (.enter 48 args) w:=by go_simp
def bZ (T:eP):aQ Tryz.prog 48 :=
 mkQ 1 3 (by decide) _ _ _ Tryz.func48 rfl rM (bD T) (fun y=>[.s (.l (.p 0 0 0)),sv y.1,.s (.l (.sl 2 0 y.2.1.length))]) (fun y=>[wrK y.2.2.1 y.2.2.2.1 y.2.2.2.2.length 1,ay y.2.2.2.2,fB 0 y.2.1]) bH (by rw [Tryz.ntmps48];decide) (fun hs hd=>vf hs hd)
  (by
   intro h zs q' bs y hd hq
   obtain ⟨nm,S,x,nm0,l⟩:=y
   obtain ⟨b,tb,sb,rfl,rfl,n1,n2,n3,h1,h2,h3,rfl⟩:=uh hd
   refine ⟨by rw [Tryz.ntmps48];show 3≤27;decide,rfl,rfl,by simp [n1,Ne.symm n2,Ne.symm n3],fun d=>⟨?_,?_⟩⟩
   ·intro j b' k hj hk
    match j,hj,hk with
    | 0,hj,hk =>
     simp at hj hk
     subst hj
     subst hk
     exact ⟨rfl,by rw [h1,g9];rfl⟩
    | 1,hj,hk =>
     simp at hj hk
     subst hj
     subst hk
     exact ⟨rfl,by rw [h2,dH]⟩
    | 2,hj,hk =>
     simp at hj hk
     subst hj
     subst hk
     exact ⟨rfl,by rw [h3,vB];rfl⟩
   ·intro ρ al vals hA
    match vals,hA with
    | [v,w,u],⟨a,b,c,_⟩=>exact ⟨a,b,c,trivial⟩)
  (by
   intro h zs q' bs y hd hq
   obtain ⟨nm,S,x,nm0,l⟩:=y
   obtain ⟨b,tb,sb,rfl,rfl,n1,n2,n3,h1,h2,h3,rfl⟩:=uh hd
   exact wX S x nm0 nm l hq.1 hq.2)
theorem aW {T:eP} {id:Nat} {h:ah} {args:List AV}:(bZ T).run id h args=bT 1 (bD T) bH id h args:=rfl
theorem aV {T:eP} {id:Nat} {h:ah} {args:List AV}:(bZ T).pan id h args=none:=rfl
end
section
open Go.RowKit
def eM:Stp:=⟨49,fun x l=>l++[dO x],fun _ l=>l.length≤1000∧True,GY,fun _ _ _=>rfl,fun _ _ _=>rfl⟩
def fH:Stp:=⟨50,fun x l=>l++[nO x],fun _ l=>l.length≤1000∧True,GU,fun _ _ _=>rfl,fun _ _ _=>rfl⟩
def iw:Stp:=⟨56,fun x l=>l++[mO x],fun _ l=>l.length≤1000∧True,Bc,fun _ _ _=>rfl,fun _ _ _=>rfl⟩
def IR:Stp:=⟨130,fun x l=>l++[aO x],fun _ l=>l.length≤1000∧True,KJ,fun _ _ _=>rfl,fun _ _ _=>rfl⟩
def gH:Stp:=⟨107,fun x l=>l++[dsO x],fun _ l=>l.length≤1000∧True,Bn,fun _ _ _=>rfl,fun _ _ _=>rfl⟩
def gO:Stp:=⟨104,fun x l=>l++[nsO x],fun _ l=>l.length≤1000∧True,Ap,fun _ _ _=>rfl,fun _ _ _=>rfl⟩
def lL:Stp:=⟨120,fun x l=>l++[xdO x],fun _ l=>l.length≤1000∧True,AI,fun _ _ _=>rfl,fun _ _ _=>rfl⟩
def dP:Stp:=⟨51,fun x l=>l++[cF x],fun _ l=>l.length≤1000∧True,wl,fun _ _ _=>rfl,fun _ _ _=>rfl⟩
def rZ:Stp:=⟨128,fun x l=>l++[jS x],fun _ l=>l.length≤1000∧True,rq,fun _ _ _=>rfl,fun _ _ _=>rfl⟩
def mj:Stp:=⟨123,fun x l=>l++[jB x],fun x l=>l.length≤1000∧(-1152921504606846976≤x.a∧x.a≤1152921504606846976),wn,fun _ _ _=>rfl,fun _ _ _=>rfl⟩
def bU:eP where
 at_:=fun g=>if g=49 then some eM else if g=50 then some fH else if g=56 then some iw else if g=130 then some IR else if g=107 then some gH else if g=104 then some gO else if g=120 then some lL else if g=51 then some dP else if g=128 then some rZ else if g=123 then some mj else none
 ok:=by
  intro g st h
  repeat' split at h
  all_goals first | (injection h with h;subst h;rename_i e;rw [e];rfl) | (injection h with h;subst h;subst_vars;rfl) | cases h
end
section
open Go.RowKit
theorem aM:df Tryz.prog 1=some [.nilFunc]:=by kernel_rfl
theorem bC:dI Tryz.prog 1=some 1:=by kernel_rfl
theorem ju:bU.at_ 49=some eM:=rfl
theorem lG:bU.at_ 50=some fH:=rfl
theorem th:bU.at_ 56=some iw:=rfl
theorem at_A:bU.at_ 130=some IR:=rfl
theorem xa:bU.at_ 107=some gH:=rfl
theorem In:bU.at_ 104=some gO:=rfl
theorem Hw:bU.at_ 120=some lL:=rfl
theorem jw:bU.at_ 51=some dP:=rfl
theorem E2:bU.at_ 128=some rZ:=rfl
theorem rr:bU.at_ 123=some mj:=rfl
theorem aF (o:OpV) (g:Nat→Nat):List.map (fun x=>LV.ren g x) (opL o)=opL o:=lz
theorem aK (h:ah) (f:Nat) (o:OpV):fI (LV.toD h f) (opL o)=some (True,[],opE o):=l9
def au (r:cG):AV:=.s (.agg [.v (.string r.1),.d (.sd 15 (r.2.map opE))])
def jU:aQ Tryz.prog 106 :=
 mk1 _ _ _ Tryz.func106 rfl (fun _ _=>by go_simp) (am ae) ((fun _=>True)) ((fun x=>.ret (opV (dh x)))) (by rw [Tryz.ntmps106];decide) (fun x _=>by
 refine aa (ctx:=[⟨_,ji⟩,⟨_,jN⟩]) 4000 ?_
 rw [Tryz.ntmps106,Tryz.results106]
 simp only [Tryz.f106,Option.getD_some,ag]
 by_cases h:x.c=1
 ·have e:dh x=cW (aB x.a) 1 12:=by unfold dh;rw [if_pos h]
  simp only [go_sem,ae,h,e,dc,da,fD,fx,opV,aB,cW,op0,r0,opR,opE,emp]
 ·have e:dh x=aB x.a:=by unfold dh;rw [if_neg h]
  simp only [go_sem,ae,h,e,dc,da,fD,fx,opV,aB,cW,op0,r0,opR,opE,emp])
theorem jD {id:Nat} {h:ah} {args:List AV}:(jU).run id h args=bm (av (am ae) ((fun _=>True))) ((fun x=>.ret (opV (dh x)))) h args:=rfl
theorem jG {id:Nat} {h:ah} {args:List AV}:(jU).pan id h args=bt (av (am ae) ((fun _=>True))) ((fun x=>.ret (opV (dh x)))) h args:=rfl
theorem AR (x:Ins) (h:x.op=6):SW Tryz.prog ⟨none,0⟩ Tryz.f59.ntmps (Tryz.f59.body.getD .skip) ⟨0,ag 0 [(am ae).enc x],[]⟩ (aH Tryz.prog Tryz.f59.results.toList (.ret (au (d8 x)))):=by
 rw [Tryz.ntmps59,Tryz.results59]
 simp only [Tryz.f59,Option.getD_some,ag]
 refine az (aa (ctx:=[]) 4000 ?_)
 simp only [go_sem,aJ,ae]
 refine az (aa (ctx:=[]) 4000 ?_)
 simp only [go_sem,aJ]
 refine SW.wk (s':=⟨5,[(1,.s (.l (.p 0 0 0))),(2,.s (.l (.p 1 0 0))),(3,.s (.l (.p 2 0 0)))],[(0,some ⟨true,27,10,[aw x]⟩),(1,some bB),(2,some ⟨true,66,1,[[.p 3 0 0]]⟩),(3,some (wrK x emp 0 4)),(4,some (ay []))]⟩) ?_ ((Wk.nilC 64 11 40 15 (k:=⟨true,68,12,[aw x++[.v (.string emp),.v (.slice none 0 0)]]⟩) rfl rfl rfl).trans (Wk.renL [0,16,80,64,112] (by simp) (by simp) (by decide) rfl rfl))
 refine aa (ctx:=[⟨_,bZ bU⟩]) 4000 ?_
 have e:d8 x=((⟨#[101,120,116,114]⟩:ByteArray),[dO x,nO x,mO x,cF x]):=by unfold d8;simp [h]
 simp only [go_sem,aw,wrK,ay,bB,h,aM,bC,aW,aV,bT,bD,aX,aL,ap,aS,ju,lG,th,jw,bH,gOf,aG,aF,aK,au,e,bI,bg,aT,eM,fH,iw,dP]
 rfl
end
end Go.Proofs.YtpjlafmhoifkmaaGreat
