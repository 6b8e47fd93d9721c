import Derived.Test.YtpjlafmhoifkmaaGreatM15
import Derived.Test.YtpjlafmhoifkmaaGreatM10
set_option linter.unusedVariables false
set_option linter.unusedSimpArgs false
set_option maxRecDepth 100000
set_option maxHeartbeats 8000000
namespace Go.Proofs.YtpjlafmhoifkmaaGreat
section
open Go.RowKit
def tP (s:ByteArray):List LV:=[.v (.string s)]
def ig (l:List ByteArray):Blk:=⟨true,9,1,l.map tP⟩
def aC:List LV→Option ByteArray
 | [.v (.string s)]=>some s
 | _=>none
theorem ur {c:List LV} {s:ByteArray} (h:aC c=some s):c=tP s:=by
 unfold aC at h
 split at h
 ·injection h with h;subst h;rfl
 ·cases h
theorem rU (l:List ByteArray) (g:Nat→Nat):(ig l).ren g=ig l:=by
 unfold ig Blk.ren
 simp [Function.comp_def,tP,LV.ren]
def bu (h:am):List AV→Option (Prop×List Nat×(Int×List ByteArray))
 | [.s (.l (.v (.int .i64 n))),.s (.l (.sl b 0 m))]=>match hget h b with
  | some ⟨true,T,1,rows⟩=>match aH aC rows with
   | some l=>if T=9∧m=l.length then some (True,[b],(n,l)) else none
   | none=>none
  | _=>none
 | _=>none
theorem vJ {h:am} {zs:List AV} {q:Prop} {bs:List Nat} {n:Int} {l:List ByteArray} (hd:bu h zs=some (q,bs,n,l)) :
  ∃ b,zs=[.s (.l (.v (.int .i64 n))),.s (.l (.sl b 0 l.length))]∧bs=[b]∧hget h b=some (ig l)∧q=True:=by
 unfold bu at hd
 split at hd
 case h_2=>cases hd
 rename_i n' b m
 split at hd
 case h_2=>cases hd
 rename_i T rows hb
 split at hd
 case h_2=>cases hd
 rename_i l' hl
 split at hd
 case isFalse=>cases hd
 rename_i hc
 obtain ⟨rfl,rfl⟩:=hc
 simp only [Option.some.injEq,Prod.mk.injEq] at hd
 obtain ⟨rfl,rfl,rfl,rfl⟩:=hd
 exact ⟨b,rfl,rfl,by rw [hb,ig,fM (d:=aC) (e:=tP) (fun c x hc=>ur hc) hl],rfl⟩
theorem rL {h h':am} (hs:∀ b k,hget h b=some k→hget h' b=some k) {zs:List AV} {r:Prop×List Nat×(Int×List ByteArray)} (hd:bu h zs=some r):bu h' zs=some r:=by
 unfold bu at hd ⊢
 split at hd
 case h_2=>cases hd
 split at hd
 case h_2=>cases hd
 rename_i hb
 simp only [hs _ _ hb]
 exact hd
def bm (x:Int×List ByteArray):RO:=.ret (.s (.l (.v (.string (ae x.1 x.2))))) [] []
theorem tA {st:St} {r:AV} (hr:r.plain=true):pT 0 st (.ret r [] []) (some r) :=
 ⟨hr,[],[],rfl,rfl,by simp,by simp,by simp,Wk.ren [] (by intro j hj;cases hj) (Nat.zero_le _) List.nodup_nil (fun p hp=>by cases hp) (fun p hp=>by cases hp)⟩
theorem HZ (n:Int) (l:List ByteArray):SW Tryz.prog ⟨none,0⟩ Tryz.f31.ntmps (Tryz.f31.body.getD .skip) ⟨1,ag 0 [.s (.l (.v (.int .i64 n))),.s (.l (.sl 0 0 l.length))],cX 0 [ig l]⟩ (jq Tryz.prog Tryz.f31.results.toList 0 (bm (n,l))):=by
 refine aa (ctx:=[]) 4000 ?_
 rw [Tryz.ntmps31,Tryz.results31]
 simp only [Tryz.f31,Option.getD_some,ag]
 by_cases h0:n<0
 ·have e:ae n l=emp:=by unfold ae;rw [if_pos (.inl h0)]
  simp only [go_sem,ig,h0,bm,e,emp]
  exact tA rfl
 by_cases h1:(l.length:Int)≤n
 ·have e:ae n l=emp:=by unfold ae;rw [if_pos (.inr h1)]
  simp only [go_sem,ig,h0,h1,bm,e,emp]
  exact tA rfl
 ·obtain ⟨i,rfl⟩:=Int.eq_ofNat_of_zero_le (Int.not_lt.1 h0)
  have hi:i<l.length:=by omega
  obtain ⟨s,hs⟩:∃ s,l[i]? = some s:=⟨_,List.getElem?_eq_getElem hi⟩
  have e:ae (i:Int) l=s:=by
   unfold ae
   rw [if_neg (by omega)]
   show l.getD i emp=s
   rw [List.getD_eq_getElem?_getD,hs]
   rfl
  simp only [go_sem,ig,tP,h0,h1,bm,e,hi,hs]
  exact ⟨by omega,tA rfl⟩
def bJ:aJ Tryz.prog 31 :=
 mkR 0 1 (by decide) _ _ _ Tryz.func31 rfl (fun _ _=>by go_simp) bu (fun x=>[.s (.l (.v (.int .i64 x.1))),.s (.l (.sl 0 0 x.2.length))]) (fun x=>[ig x.2]) bm (fun hs hd=>rL hs hd)
  (by
   intro h zs q' bs x hd hq
   obtain ⟨n,l⟩:=x
   obtain ⟨b,rfl,rfl,hb,rfl⟩:=vJ hd
   refine ⟨by rw [Tryz.ntmps31];show 2≤17;decide,rfl,rfl,by simp,fun d=>⟨?_,?_⟩⟩
   ·intro j b' k hj hk
    match j,hj,hk with
    | 0,hj,hk =>
     simp at hj hk
     subst hj
     subst hk
     exact ⟨rfl,by rw [hb,rU]⟩
   ·intro ρ al vals hA
    match vals,hA with
    | [v,w],⟨a,b,_⟩=>exact ⟨a,b,trivial⟩)
  (by
   intro h zs q' bs x hd hq
   exact HZ x.1 x.2)
theorem aL {id:Nat} {h:am} {args:List AV}:bJ.run id h args=bU 0 bu bm id h args:=rfl
theorem aK {id:Nat} {h:am} {args:List AV}:bJ.pan id h args=bW bu bm h args:=rfl
end
section
open Go.RowKit
structure Stp where
 g:FuncId
 F:Ins→List OpV→List OpV
 q:Ins→List OpV→Prop
 spec:aJ Tryz.prog g
 run_eq:∀ (id:Nat) (h:am) (args:List AV),spec.run id h args=bU 1 (db xw0 (fun _=>q)) (fun y=>bI (.tup [],y.2.1,y.2.2.1,F y.2.1 y.2.2.2)) id h args
 pan_eq:∀ (id:Nat) (h:am) (args:List AV),spec.pan id h args=bW (db xw0 (fun _=>q)) (fun y=>bI (.tup [],y.2.1,y.2.2.1,F y.2.1 y.2.2.2)) h args
def bh (x:Ins):List Stp→List OpV→List OpV
 | [],l=>l
 | st::r,l=>bh x r (st.F x l)
def bF (x:Ins):List Stp→List OpV→Prop
 | [],_=>True
 | st::r,l=>st.q x l∧bF x r (st.F x l)
theorem rS (x:Ins):∀ (a b:List Stp) (l:List OpV),bh x (a++b) l=bh x b (bh x a l)
 | [],_,_=>rfl
 | st::a,b,l=>rS x a b (st.F x l)
theorem w7 {x:Ins} {S:List Stp} {i:Nat} {st:Stp} (h:S[i]? = some st) (l:List OpV):bh x (S.take (i+1)) l=st.F x (bh x (S.take i) l):=by
 rw [List.take_add_one,h,rS]
 rfl
theorem tf {x:Ins}:∀ {S:List Stp} {l:List OpV},bF x S l→∀ {i:Nat} {st:Stp},S[i]? = some st→st.q x (bh x (S.take i) l)
 | [],_,_,_,_,hi=>by simp at hi
 | s::S,l,h,0,st,hi=>by
  simp only [List.getElem?_cons_zero,Option.some.injEq] at hi
  subst hi
  exact h.1
 | s::S,l,h,i+1,st,hi=>tf (S:=S) h.2 (by simpa using hi)
def pU (b:Nat) (st:Stp):List LV:=[.bf st.g [b] []]
def iG (b:Nat) (S:List Stp):Blk:=⟨true,1,1,S.map (pU b)⟩
def bQ:Blk:=⟨true,33,2,[[.v (.string emp),.v (.slice none 0 0)]]⟩
def z9 (S:List Stp) (x:Ins) (nm:ByteArray) (l0:List OpV) (i:Nat):St :=
 ⟨4,[(0,.s (.l (.p 0 0 0))),(6,.s (.l (.p 3 0 0))),(14,.s (.l (.sl 2 0 S.length))),(15,iv S.length),(16,iv i)],[(0,some (wrK x nm (bh x (S.take i) l0).length 1)),(1,some (aD (bh x (S.take i) l0))),(2,some (iG 0 S)),(3,some bQ)]⟩
theorem Aj (S:List Stp) (x:Ins) (nm0 nm:ByteArray) (l0:List OpV) (hq:bF x S l0) (hlen:S.length≤1000) :
  SW Tryz.prog ⟨none,1⟩ Tryz.f48.ntmps (Tryz.f48.body.getD .skip) ⟨3,ag 0 [.s (.l (.p 0 0 0)),sv nm,.s (.l (.sl 2 0 S.length))],cX 0 [wrK x nm0 l0.length 1,aD l0,iG 0 S]⟩
   (iC Tryz.prog Tryz.f48.results.toList 1 (.ret (.s (.agg [.v (.string nm),.sl 1 0 (bh x S l0).length])) [some (wrK x nm (bh x S l0).length 1)] [aD (bh x S l0)])):=by
 refine aa (ctx:=[]) 4000 ?_
 rw [Tryz.ntmps48,Tryz.results48]
 simp only [Tryz.f48,Option.getD_some,ag]
 simp only [go_sem,wrK,az,aD,iG]
 refine cM (ι:=Nat) (fun i=>i≤S.length) (z9 S x nm l0) (fun i=>S.length-i) 0 (Nat.zero_le _) ?start ?round
 case start =>
  exact Wk.renL [0,1,2,3] (fun j hj=>by
   obtain rfl:j=0:=Nat.lt_one_iff.1 hj
   rfl) (Nat.le_refl 4) (by decide) rfl (by simp [z9,bh,hget,Blk.ren,wrK,az,aD,opL,opE,cG,ofD,iG,pU,bQ,emp,LV.ren,Function.comp_def])
 case round =>
  intro i hi
  by_cases hlt:i<S.length
  ·have hltI:(i:Int)<S.length:=by omega
   obtain ⟨st,hst⟩:∃ st,S[i]? = some st:=⟨_,List.getElem?_eq_getElem hlt⟩
   have hqs:=tf hq hst
   have hnx:=w7 (x:=x) hst l0
   have ei:IntKind.i64.wrap ((i:Int)+1)=((i+1:Nat):Int):=by rw [IntKind.wrap_i64];omega
   unfold z9
   obtain ⟨l,hl⟩:∃ l,bh x (S.take i) l0=l:=⟨_,rfl⟩
   rw [hl] at hqs hnx ⊢
   refine aa (ctx:=[⟨st.g,st.spec⟩]) 4000 ?_
   simp only [go_sem,wrK,az,aD,iG,pU,hltI,hlt,hst,st.run_eq,st.pan_eq,db,bp,aT,aq,xw0,bI,dn,hqs,ei]
   refine ⟨i+1,hlt,by omega,?_⟩
   rw [hnx]
   exact Wk.renL [0,84,2,3] (fun j hj=>by
    obtain rfl:j=0:=Nat.lt_one_iff.1 hj
    rfl) (Nat.le_refl 4) (by decide) rfl (by simp [hget,Blk.ren,wrK,az,aD,opL,opE,cG,ofD,iG,pU,bQ,emp,LV.ren,Function.comp_def])
  ·obtain rfl:i=S.length:=by omega
   have hltI:¬(S.length:Int)<S.length:=by omega
   unfold z9
   rw [List.take_length]
   refine aa (ctx:=[]) 4000 ?_
   simp only [go_sem,wrK,az,aD,iG,bQ,hltI,eZ,dm]
   exact ⟨_,_,_,rfl,rfl,by simp,by simp,by simp,Wk.renL [0,1] (fun j hj=>by
    obtain rfl:j=0:=Nat.lt_one_iff.1 hj
    rfl) (Nat.le_refl _) (by decide) rfl (by simp [eL,cX,hget,Blk.ren,opL,opE,cG,ofD,LV.ren,Function.comp_def])⟩
end
section
open Go.RowKit
structure gQ where
 at_:FuncId→Option Stp
 ok:∀ {g:FuncId} {st:Stp},at_ g=some st→st.g=g
def aX (T:gQ) (b:Nat):List LV→Option Stp
 | [.bf g [b'] []]=>if b'=b then T.at_ g else none
 | _=>none
theorem wX {T:gQ} {b:Nat} {c:List LV} {st:Stp} (h:aX T b c=some st):c=pU b st:=by
 unfold aX at h
 split at h
 ·split at h
  case isFalse=>cases h
  rename_i g b' e
  subst e
  rw [pU,T.ok h]
 ·cases h
def cn (x:Ins) (S:List Stp) (l:List OpV):Prop:=bF x S l∧S.length≤1000
def bX (T:gQ) (h:am):List AV→Option (Prop×List Nat×(ByteArray×List Stp×(Ins×ByteArray×List OpV)))
 | [A,.s (.l (.v (.string nm))),.s (.l (.sl sb 0 n))]=>match bp h A with
  | some ([b,tb],x,nm0,l)=>match hget h sb with
   | some ⟨true,Tt,1,rows⟩=>match aH (aX T b) rows with
    | some S=>if Tt=1∧n=S.length∧sb≠b∧sb≠tb then some (cn x S l,[b,tb,sb],(nm,S,(x,nm0,l))) else none
    | none=>none
   | _=>none
  | _=>none
 | _=>none
theorem vx {T:gQ} {h:am} {zs:List AV} {q:Prop} {bs:List Nat} {nm:ByteArray} {S:List Stp} {x:Ins} {nm0:ByteArray} {l:List OpV} (hd:bX T h zs=some (q,bs,nm,S,x,nm0,l)) :
  ∃ b tb sb,zs=[.s (.l (.p b 0 0)),sv nm,.s (.l (.sl sb 0 S.length))]∧bs=[b,tb,sb]∧b≠tb∧sb≠b∧sb≠tb∧hget h b=some (wrK x nm0 l.length tb)∧hget h tb=some (aD l)∧hget h sb=some (iG b S)∧q=cn x S l:=by
 unfold bX at hd
 split at hd
 case h_2=>cases hd
 rename_i A nm' sb n
 split at hd
 case h_2=>cases hd
 rename_i b tb x' nm0' l' hw
 split at hd
 case h_2=>cases hd
 rename_i Tt rows hs
 split at hd
 case h_2=>cases hd
 rename_i S' hS
 split at hd
 case isFalse=>cases hd
 rename_i hc
 obtain ⟨rfl,rfl,h1,h2⟩:=hc
 simp only [Option.some.injEq,Prod.mk.injEq] at hd
 obtain ⟨rfl,rfl,rfl,rfl,rfl,rfl,rfl⟩:=hd
 obtain ⟨b2,tb2,rfl,e,hne,g1,g2⟩:=kI hw
 simp only [List.cons.injEq,and_true] at e
 obtain ⟨rfl,rfl⟩:=e
 exact ⟨b,tb,sb,rfl,rfl,hne,h1,h2,g1,g2,by rw [hs,iG,fM (d:=aX T b) (e:=pU b) (fun c x hc=>wX hc) hS],rfl⟩
theorem yB {T:gQ} {h h':am} (hs:∀ b k,hget h b=some k→hget h' b=some k) {zs:List AV} {r:Prop×List Nat×(ByteArray×List Stp×(Ins×ByteArray×List OpV))} (hd:bX T h zs=some r):bX T h' zs=some r:=by
 unfold bX at hd ⊢
 split at hd
 case h_2=>cases hd
 split at hd
 case h_2=>cases hd
 rename_i hw
 simp only [jc hs hw]
 split at hd
 case h_2=>cases hd
 rename_i ht
 simp only [hs _ _ ht]
 exact hd
theorem xv (b:Nat) (S:List Stp) (g:Nat→Nat):(iG b S).ren g=iG (g b) S:=by
 unfold iG Blk.ren
 simp [pU,LV.ren,Function.comp_def]
def ci (y:ByteArray×List Stp×(Ins×ByteArray×List OpV)):RO :=
 .ret (.s (.agg [.v (.string y.1),.sl 1 0 (bh y.2.2.1 y.2.1 y.2.2.2.2).length])) [some (wrK y.2.2.1 y.1 (bh y.2.2.1 y.2.1 y.2.2.2.2).length 1)] [aD (bh y.2.2.1 y.2.1 y.2.2.2.2)]
def cI (T:gQ):aJ Tryz.prog 48 :=
 mkQ 1 3 (by decide) _ _ _ Tryz.func48 rfl (fun _ _=>by go_simp) (bX T) (fun y=>[.s (.l (.p 0 0 0)),sv y.1,.s (.l (.sl 2 0 y.2.1.length))]) (fun y=>[wrK y.2.2.1 y.2.2.2.1 y.2.2.2.2.length 1,aD y.2.2.2.2,iG 0 y.2.1]) ci (by rw [Tryz.ntmps48];decide) (fun hs hd=>yB hs hd)
  (by
   intro h zs q' bs y hd hq
   obtain ⟨nm,S,x,nm0,l⟩:=y
   obtain ⟨b,tb,sb,rfl,rfl,n1,n2,n3,h1,h2,h3,rfl⟩:=vx hd
   refine ⟨by rw [Tryz.ntmps48];show 3≤27;decide,rfl,rfl,by simp [n1,Ne.symm n2,Ne.symm n3],fun d=>⟨?_,?_⟩⟩
   ·intro j b' k hj hk
    match j,hj,hk with
    | 0,hj,hk =>
     simp at hj hk
     subst hj
     subst hk
     exact ⟨rfl,by rw [h1,kl];rfl⟩
    | 1,hj,hk =>
     simp at hj hk
     subst hj
     subst hk
     exact ⟨rfl,by rw [h2,fj]⟩
    | 2,hj,hk =>
     simp at hj hk
     subst hj
     subst hk
     exact ⟨rfl,by rw [h3,xv];rfl⟩
   ·intro ρ al vals hA
    match vals,hA with
    | [v,w,u],⟨a,b,c,_⟩=>exact ⟨a,b,c,trivial⟩)
  (by
   intro h zs q' bs y hd hq
   obtain ⟨nm,S,x,nm0,l⟩:=y
   obtain ⟨b,tb,sb,rfl,rfl,n1,n2,n3,h1,h2,h3,rfl⟩:=vx hd
   exact Aj S x nm0 nm l hq.1 hq.2)
theorem bj {T:gQ} {id:Nat} {h:am} {args:List AV}:(cI T).run id h args=co 1 (bX T) ci id h args:=rfl
theorem bk {T:gQ} {id:Nat} {h:am} {args:List AV}:(cI T).pan id h args=none:=rfl
end
section
open Go.RowKit
def gS:Stp:=⟨49,fun x l=>l++[dO x],fun _ l=>l.length≤1000∧True,HR,fun _ _ _=>rfl,fun _ _ _=>rfl⟩
def iO:Stp:=⟨50,fun x l=>l++[nO x],fun _ l=>l.length≤1000∧True,JI,fun _ _ _=>rfl,fun _ _ _=>rfl⟩
def kF:Stp:=⟨56,fun x l=>l++[mO x],fun _ l=>l.length≤1000∧True,Fd,fun _ _ _=>rfl,fun _ _ _=>rfl⟩
def Md:Stp:=⟨130,fun x l=>l++[aO x],fun _ l=>l.length≤1000∧True,MH,fun _ _ _=>rfl,fun _ _ _=>rfl⟩
def jZ:Stp:=⟨107,fun x l=>l++[dsO x],fun _ l=>l.length≤1000∧True,Dw,fun _ _ _=>rfl,fun _ _ _=>rfl⟩
def jN:Stp:=⟨104,fun x l=>l++[nsO x],fun _ l=>l.length≤1000∧True,F1,fun _ _ _=>rfl,fun _ _ _=>rfl⟩
def oN:Stp:=⟨120,fun x l=>l++[xdO x],fun _ l=>l.length≤1000∧True,Gh,fun _ _ _=>rfl,fun _ _ _=>rfl⟩
def fA:Stp:=⟨51,fun x l=>l++[dL x],fun _ l=>l.length≤1000∧True,xn,fun _ _ _=>rfl,fun _ _ _=>rfl⟩
def t8:Stp:=⟨128,fun x l=>l++[nk x],fun _ l=>l.length≤1000∧True,ux,fun _ _ _=>rfl,fun _ _ _=>rfl⟩
def oW:Stp:=⟨123,fun x l=>l++[na x],fun x l=>l.length≤1000∧(-1152921504606846976≤x.a∧x.a≤1152921504606846976),ym,fun _ _ _=>rfl,fun _ _ _=>rfl⟩
def cC:gQ where
 at_:=fun g=>if g=49 then some gS else if g=50 then some iO else if g=56 then some kF else if g=130 then some Md else if g=107 then some jZ else if g=104 then some jN else if g=120 then some oN else if g=51 then some fA else if g=128 then some t8 else if g=123 then some oW else none
 ok:=by
  intro g st h
  repeat' split at h
  all_goals first | (injection h with h;subst h;rename_i e;rw [e];rfl) | (injection h with h;subst h;subst_vars;rfl) | cases h
end
section
open Go.RowKit
theorem aV:dY Tryz.prog 1=some [.nilFunc]:=by kernel_rfl
theorem bV:eR Tryz.prog 1=some 1:=by kernel_rfl
theorem lU:cC.at_ 49=some gS:=rfl
theorem oM:cC.at_ 50=some iO:=rfl
theorem wc:cC.at_ 56=some kF:=rfl
theorem at_A:cC.at_ 130=some Md:=rfl
theorem An:cC.at_ 107=some jZ:=rfl
theorem KE:cC.at_ 104=some jN:=rfl
theorem Ku:cC.at_ 120=some oN:=rfl
theorem l8:cC.at_ 51=some fA:=rfl
theorem Ki:cC.at_ 128=some t8:=rfl
theorem uQ:cC.at_ 123=some oW:=rfl
theorem aF (o:OpV) (g:Nat→Nat):List.map (fun x=>LV.ren g x) (opL o)=opL o:=oh
theorem aI (h:am) (f:Nat) (o:OpV):iB (LV.toD h f) (opL o)=some (True,[],opE o):=pG
def aj (r:cE):AV:=.s (.agg [.v (.string r.1),.d (.sd 15 (r.2.map opE))])
def mD:aJ Tryz.prog 106 :=
 mk1 _ _ _ Tryz.func106 rfl (fun _ _=>by go_simp) (ai ac) ((fun _=>True)) ((fun x=>.ret (opV (eI x)))) (by rw [Tryz.ntmps106];decide) (fun x _=>by
 refine aa (ctx:=[⟨_,ly⟩,⟨_,mg⟩]) 4000 ?_
 rw [Tryz.ntmps106,Tryz.results106]
 simp only [Tryz.f106,Option.getD_some,ag]
 by_cases h:x.c=1
 ·have e:eI x=cw (aw x.a) 1 12:=by unfold eI;rw [if_pos h]
  simp only [go_sem,ac,h,e,d9,ef,iK,iJ,opV,aw,cw,op0,r0,opR,opE,emp]
 ·have e:eI x=aw x.a:=by unfold eI;rw [if_neg h]
  simp only [go_sem,ac,h,e,d9,ef,iK,iJ,opV,aw,cw,op0,r0,opR,opE,emp])
theorem mH {id:Nat} {h:am} {args:List AV}:(mD).run id h args=aY (au (ai ac) ((fun _=>True))) ((fun x=>.ret (opV (eI x)))) h args:=rfl
theorem mz {id:Nat} {h:am} {args:List AV}:(mD).pan id h args=aZ (au (ai ac) ((fun _=>True))) ((fun x=>.ret (opV (eI x)))) h args:=rfl
theorem GG (x:Ins) (h:x.op=6):SW Tryz.prog ⟨none,0⟩ Tryz.f59.ntmps (Tryz.f59.body.getD .skip) ⟨0,ag 0 [(ai ac).enc x],[]⟩ (ax Tryz.prog Tryz.f59.results.toList (.ret (aj (fY x)))):=by
 rw [Tryz.ntmps59,Tryz.results59]
 simp only [Tryz.f59,Option.getD_some,ag]
 refine aE (aa (ctx:=[]) 4000 ?_)
 simp only [go_sem,aS,ac]
 refine aE (aa (ctx:=[]) 4000 ?_)
 simp only [go_sem,aS]
 refine SW.wk (s':=⟨5,[(1,.s (.l (.p 0 0 0))),(2,.s (.l (.p 1 0 0))),(3,.s (.l (.p 2 0 0)))],[(0,some ⟨true,27,10,[az x]⟩),(1,some bQ),(2,some ⟨true,66,1,[[.p 3 0 0]]⟩),(3,some (wrK x emp 0 4)),(4,some (aD []))]⟩) ?_ ((Wk.nilC 64 11 40 15 (k:=⟨true,68,12,[az x++[.v (.string emp),.v (.slice none 0 0)]]⟩) rfl rfl rfl).trans (Wk.renL [0,16,80,64,112] (by simp) (by simp) (by decide) rfl rfl))
 refine aa (ctx:=[⟨_,cI cC⟩]) 4000 ?_
 have e:fY x=((⟨#[101,120,116,114]⟩:ByteArray),[dO x,nO x,mO x,dL x]):=by unfold fY;simp [h]
 simp only [go_sem,az,wrK,aD,bQ,h,aV,bV,bj,bk,co,bX,bp,aT,aq,aX,lU,oM,wc,l8,ci,gOf,aH,aF,aI,aj,e,cn,bF,bh,gS,iO,kF,fA]
 rfl
end
end Go.Proofs.YtpjlafmhoifkmaaGreat
