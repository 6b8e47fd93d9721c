import Derived.Test.YtpjlafmhoifkmaaGreatN16
import Derived.Test.YtpjlafmhoifkmaaGreatN10
import Derived.Test.YtpjlafmhoifkmaaGreatN25
import Derived.Test.YtpjlafmhoifkmaaGreatN23
import Derived.Test.YtpjlafmhoifkmaaGreatN29
set_option linter.unusedVariables false
set_option linter.unusedSimpArgs false
set_option maxRecDepth 100000
set_option maxHeartbeats 8000000
namespace Go.Proofs.YtpjlafmhoifkmaaGreat
section
open Go.RowKit
theorem Dt (n:Int) (l:List ByteArray):SW Tryz.prog ⟨none,0⟩ Tryz.f32.ntmps (Tryz.f32.body.getD .skip) ⟨1,ag 0 [.s (.l (.v (.int .i64 n))),.s (.l (.sl 0 0 l.length))],cn 0 [ff l]⟩ (gn Tryz.prog Tryz.f32.results.toList 0 (bj (n,l))):=by
 refine aa (ctx:=[]) 4000 ?_
 rw [Tryz.ntmps32,Tryz.results32]
 simp only [Tryz.f32,Option.getD_some,ag]
 by_cases h0:n<0
 ·have e:ak n l=emp:=by unfold ak;rw [if_pos (.inl h0)]
  simp only [go_sem,ff,h0,bj,e,emp]
  exact qd rfl
 by_cases h1:(l.length:Int)≤n
 ·have e:ak n l=emp:=by unfold ak;rw [if_pos (.inr h1)]
  simp only [go_sem,ff,h0,h1,bj,e,emp]
  exact qd rfl
 ·obtain ⟨i,rfl⟩:=Int.eq_ofNat_of_zero_le (Int.not_lt.1 h0)
  have hi:i<l.length:=by omega
  obtain ⟨s,hs⟩:∃ s,l[i]? = some s:=⟨_,List.getElem?_eq_getElem hi⟩
  have e:ak (i:Int) l=s:=by
   unfold ak
   rw [if_neg (by omega)]
   show l.getD i emp=s
   rw [List.getD_eq_getElem?_getD,hs]
   rfl
  simp only [go_sem,ff,qo,h0,h1,bj,e,hi,hs]
  exact ⟨by omega,qd rfl⟩
def C1:aQ Tryz.prog 32 :=
 mkR 0 1 (by decide) _ _ _ Tryz.func32 rfl (fun _ _=>by go_simp) bu (fun x=>[.s (.l (.v (.int .i64 x.1))),.s (.l (.sl 0 0 x.2.length))]) (fun x=>[ff x.2]) bj (fun hs hd=>oI hs hd)
  (by
   intro h zs q' bs x hd hq
   obtain ⟨n,l⟩:=x
   obtain ⟨b,rfl,rfl,hb,rfl⟩:=tN hd
   refine ⟨by rw [Tryz.ntmps32];show 2≤17;decide,rfl,rfl,by simp,fun d=>⟨?_,?_⟩⟩
   ·intro j b' k hj hk
    match j,hj,hk with
    | 0,hj,hk =>
     simp at hj hk
     subst hj
     subst hk
     exact ⟨rfl,by rw [hb,pj]⟩
   ·intro ρ al vals hA
    match vals,hA with
    | [v,w],⟨a,b,_⟩=>exact ⟨a,b,trivial⟩)
  (by
   intro h zs q' bs x hd hq
   exact Dt x.1 x.2)
theorem Lb {id:Nat} {h:ah} {args:List AV}:C1.run id h args=bK 0 bu bj id h args:=rfl
theorem K5 {id:Nat} {h:ah} {args:List AV}:C1.pan id h args=bO bu bj h args:=rfl
def k5 (h:ah):List AV→Option (Prop×List Nat×cG)
 | [.s (.l (.v (.string s))),.s (.l (.sl b 0 m))]=>match hget h b with
  | some ⟨true,T,15,rows⟩=>match aG cB rows with
   | some l=>if T=40∧m=l.length then some (True,[b],(s,l)) else none
   | none=>none
  | _=>none
 | _=>none
theorem zR {h:ah} {zs:List AV} {q:Prop} {bs:List Nat} {s:ByteArray} {l:List OpV} (hd:k5 h zs=some (q,bs,s,l)) :
  ∃ b,zs=[sv s,.s (.l (.sl b 0 l.length))]∧bs=[b]∧hget h b=some (ay l)∧q=True:=by
 unfold k5 at hd
 split at hd
 case h_2=>cases hd
 rename_i s' b m
 split at hd
 case h_2=>cases hd
 rename_i T rows hb
 split at hd
 case h_2=>cases hd
 rename_i l' hl
 split at hd
 case isFalse=>cases hd
 rename_i hc
 obtain ⟨rfl,rfl⟩:=hc
 simp only [Option.some.injEq,Prod.mk.injEq] at hd
 obtain ⟨rfl,rfl,rfl,rfl⟩:=hd
 exact ⟨b,rfl,rfl,by rw [hb,ay,d6 (d:=cB) (e:=opL) (fun c x hc=>oJ hc) hl],rfl⟩
theorem tn {h h':ah} (hs:∀ b k,hget h b=some k→hget h' b=some k) {zs:List AV} {r:Prop×List Nat×cG} (hd:k5 h zs=some r):k5 h' zs=some r:=by
 unfold k5 at hd ⊢
 split at hd
 case h_2=>cases hd
 split at hd
 case h_2=>cases hd
 rename_i hb
 simp only [hs _ _ hb]
 exact hd
def rj (x:cG):RO:=.ret (.s (.agg [.v (.string x.1),.sl 0 0 x.2.length])) [] [ay x.2]
theorem A6 (s:ByteArray) (l:List OpV):SW Tryz.prog ⟨none,0⟩ Tryz.f82.ntmps (Tryz.f82.body.getD .skip) ⟨1,ag 0 [sv s,.s (.l (.sl 0 0 l.length))],cn 0 [ay l]⟩ (fy Tryz.prog Tryz.f82.results.toList 0 (rj (s,l))):=by
 refine aa (ctx:=[]) 4000 ?_
 rw [Tryz.ntmps82,Tryz.results82]
 simp only [Tryz.f82,Option.getD_some,ag]
 simp only [go_sem,dE,cA,rj]
 exact ⟨_,_,_,rfl,rfl,by simp,by simp,by simp [ay],Wk.renL [0] (by simp) (Nat.le_refl _) (by simp) rfl (by simp [dC,cn,hget,dH])⟩
def AO:aQ Tryz.prog 82 :=
 mkQ 0 1 (by decide) _ _ _ Tryz.func82 rfl (fun _ _=>by go_simp) k5 (fun x=>[sv x.1,.s (.l (.sl 0 0 x.2.length))]) (fun x=>[ay x.2]) rj (by rw [Tryz.ntmps82];decide) (fun hs hd=>tn hs hd)
  (by
   intro h zs q' bs x hd hq
   obtain ⟨n,l⟩:=x
   obtain ⟨b,rfl,rfl,hb,rfl⟩:=zR hd
   refine ⟨by rw [Tryz.ntmps82];show 2≤8;decide,rfl,rfl,by simp,fun d=>⟨?_,?_⟩⟩
   ·intro j b' k hj hk
    match j,hj,hk with
    | 0,hj,hk =>
     simp at hj hk
     subst hj
     subst hk
     exact ⟨rfl,by rw [hb,dH]⟩
   ·intro ρ al vals hA
    match vals,hA with
    | [v,w],⟨a,b,_⟩=>exact ⟨a,b,trivial⟩)
  (by
   intro h zs q' bs x hd hq
   exact A6 x.1 x.2)
theorem Lc {id:Nat} {h:ah} {args:List AV}:AO.run id h args=bT 0 k5 rj id h args:=rfl
theorem La {id:Nat} {h:ah} {args:List AV}:AO.pan id h args=none:=rfl
end
section
open Go.RowKit
set_option maxRecDepth 100000
end
end Go.Proofs.YtpjlafmhoifkmaaGreat
