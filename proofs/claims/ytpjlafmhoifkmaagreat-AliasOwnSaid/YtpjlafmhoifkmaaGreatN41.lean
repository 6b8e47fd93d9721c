import Derived.Test.YtpjlafmhoifkmaaGreatN16
import Derived.Test.YtpjlafmhoifkmaaGreatN10
import Derived.Test.YtpjlafmhoifkmaaGreatN35
set_option linter.unusedVariables false
set_option linter.unusedSimpArgs false
set_option maxRecDepth 100000
set_option maxHeartbeats 8000000
namespace Go.Proofs.YtpjlafmhoifkmaaGreat
section
open Go.RowKit
deriving instance DecidableEq for OpV
theorem wm {P:Program} {t:TypeId} {x y:Operand} {xs ys:List Value}:jO P (do eqGuard .neq t x y (.agg xs.toArray) (.agg ys.toArray);binOp .neq t (.agg xs.toArray) (.agg ys.toArray))=rU true (Av P (do eqGuard .neq t x y (.agg xs.toArray) (.agg ys.toArray);binOp .neq t (.agg xs.toArray) (.agg ys.toArray))) (oU P t xs ys):=by
  cases h:oU P t xs ys with
  | none=>rfl
  | some b =>
    refine lZ fun w=>?_
    obtain ⟨h1,h2⟩:=Bp h .neq x y w
    rw [Sem.run_bind,h2,Result.andThen_ok,show binOp .neq t (.agg xs.toArray) (.agg ys.toArray)=(do pure (.bool (!(← Op.equal t (.agg xs.toArray) (.agg ys.toArray))))) from rfl,Sem.run_bind,h1]
    rfl
theorem GL:Ci Tryz.prog 40=some [[1],[1,2,2],[1,2,2],[1],[1],[1],[1,3,3],[2],[1]]:=by kernel_rfl
theorem mZ:∀ l:List OpV,eQ opR.dec (l.map opE)=some l
 | []=>rfl
 | o::l=>by
  rw [List.map_cons,eQ,mZ l]
  rfl
def tLn:Ty cG where
 dec:=fun
  | .s (.agg [.v (.string s),.d (.sd 15 els)])=>(eQ opR.dec els).map fun l=>(s,l)
  | .s (.agg [.v (.string s),.v (.slice none 0 0)])=>some (s,[])
  | _=>none
 enc:=au
 ok:=by
  intro A x h ρ al v hr
  split at h
  ·rw [Option.map_eq_some_iff] at h
   obtain ⟨l,hl,rfl⟩:=h
   rw [hH opR hl] at hr
   exact hr
  ·injection h with h
   subst h
   obtain ⟨vs,rfl,h1⟩:=hr
   refine ⟨vs,rfl,?_⟩
   match vs,h1 with
   | [u,y],⟨o1,a,o2,b,c⟩ =>
    refine ⟨o1,a,o2,?_,c⟩
    have:y=.slice none 0 0:=b
    subst this
    simp only [LRep,DRep]
    exact ⟨none,0,rfl,Nat.le_refl _,fun h=>absurd rfl h⟩
  ·cases h
theorem IN (u v:OpV):(decide (u.kind=v.kind)&&(decide (u.r.n=v.r.n)&&(decide (u.r.x=v.r.x)&&decide (u.r.sp=v.r.sp))&&(decide (u.m.n=v.m.n)&&(decide (u.m.x=v.m.x)&&decide (u.m.sp=v.m.sp))&&(decide (u.md=v.md)&&(decide (u.amt=v.amt)&&(decide (u.n=v.n)&&(decide (u.add=v.add)&&(decide (u.plus=v.plus)&&decide (u.minus=v.minus))&&(decide (u.lo=v.lo)&&decide (u.mode=v.mode)))))))))=decide (u=v):=by
 obtain ⟨a1,⟨a2,a3,a4⟩,⟨a5,a6,a7⟩,a8,a9,a10,a11,a12,a13,a14,a15⟩:=u
 obtain ⟨b1,⟨b2,b3,b4⟩,⟨b5,b6,b7⟩,b8,b9,b10,b11,b12,b13,b14,b15⟩:=v
 rw [Bool.eq_iff_iff]
 simp only [OpV.mk.injEq,pM.mk.injEq,Bool.and_eq_true,decide_eq_true_eq,and_assoc]
def ku (a b:cG):Bool:=decide (a=b)
def slI (a b:cG) (i:Nat):St:=⟨2,[(2,.s (.l (.p 0 0 0))),(3,.s (.l (.p 1 0 0))),(5,iv i)],[(0,some ⟨true,33,2,[[.v (.string a.1),.d (.sd 15 (a.2.map opE))]]⟩),(1,some ⟨true,33,2,[[.v (.string b.1),.d (.sd 15 (b.2.map opE))]]⟩)]⟩
theorem Ep (a b:cG) (hq:a.2.length≤1000):SW Tryz.prog ⟨none,0⟩ Tryz.f15.ntmps (Tryz.f15.body.getD .skip) ⟨0,ag 0 [au a,au b],[]⟩ (aH Tryz.prog Tryz.f15.results.toList (.ret (bv (ku a b)))):=by
 refine aa (ctx:=[]) 4000 ?_
 rw [Tryz.ntmps15,Tryz.results15]
 simp only [Tryz.f15,Option.getD_some,ag]
 obtain ⟨n,l⟩:=a
 obtain ⟨k,m⟩:=b
 simp only at hq
 by_cases hn:n=k
 case neg =>
  have e:ku (n,l) (k,m)=false:=decide_eq_false (fun h=>hn (Prod.mk.inj h).1)
  simp only [go_sem,au,hn,e]
 by_cases hl:l.length=m.length
 case neg =>
  have e:ku (n,l) (k,m)=false:=decide_eq_false (fun h=>hl (congrArg (fun r:cG=>r.2.length) h))
  have hlI:((l.length:Int) !=(m.length:Int))=true:=by simp;omega
  simp only [go_sem,au,eq_true hn,List.length_map,hlI,e]
 have hlI:((l.length:Int) !=(m.length:Int))=false:=by simp;omega
 simp only [go_sem,au,eq_true hn,List.length_map,hlI]
 refine cM (ι:=Nat) (fun i=>i≤l.length∧∀ j,j<i→l[j]? = m[j]?) (slI (n,l) (k,m)) (fun i=>l.length-i) 0 ⟨Nat.zero_le _,fun j hj=>absurd hj (Nat.not_lt_zero _)⟩ (Wk.renL [0,16] (by simp) (Nat.le_refl 2) (by decide) rfl rfl) ?_
 rintro i ⟨hi,hinv⟩
 refine aa (ctx:=[]) 4000 ?_
 by_cases hlt:i<l.length
 ·have hltI:(i:Int)<l.length:=by omega
  have hltm:(i:Int)<m.length:=by omega
  have hltm':i<m.length:=by omega
  obtain ⟨u,hu⟩:∃ u,l[i]? = some u:=⟨_,List.getElem?_eq_getElem hlt⟩
  obtain ⟨v,hv⟩:∃ v,m[i]? = some v:=⟨_,List.getElem?_eq_getElem (by omega)⟩
  have ei:IntKind.i64.wrap ((i:Int)+1)=((i+1:Nat):Int):=by rw [IntKind.wrap_i64];omega
  simp only [go_sem,slI,List.length_map,hltI]
  refine aI (ctx:=[]) ax [] (by kernel_rfl) ?_
  simp only [go_sem,List.length_map,hltI,hltm,hlt,hltm',hu,hv,opE,wm,yJ,oU,GL,sH,fK,List.length_cons,List.length_nil,List.take_succ_cons,List.take_zero,List.drop_succ_cons,List.drop_zero]
  have hd:=IN u v
  by_cases huv:u=v
  ·rw [decide_eq_true huv] at hd
   simp only [go_sem,hd,ei]
   refine ⟨i+1,⟨by omega,fun j hj=>?_⟩,by omega,Wk.renL [0,1] (by simp) (Nat.le_refl 2) (by decide) rfl rfl⟩
   by_cases e:j=i
   ·subst e
    rw [hu,hv,huv]
   ·exact hinv j (by omega)
  ·rw [decide_eq_false huv] at hd
   have e:ku (n,l) (k,m)=false:=by
    refine decide_eq_false (fun h=>huv ?_)
    have h2:l=m:=(Prod.mk.inj h).2
    rw [h2,hv] at hu
    injection hu with hu
    exact hu.symm
   simp only [go_sem,hd,e]
 ·obtain rfl:i=l.length:=by omega
  have hltI:¬(l.length:Int)<l.length:=by omega
  have e:ku (n,l) (k,m)=true:=by
   refine decide_eq_true ?_
   have:l=m:=by
    apply List.ext_getElem?
    intro j
    by_cases hj:j<l.length
    ·exact hinv j hj
    ·rw [List.getElem?_eq_none (by omega),List.getElem?_eq_none (by omega)]
   rw [hn,this]
  simp only [go_sem,slI,List.length_map,hltI,e]
def wW:aQ Tryz.prog 15 :=
 mk2 _ _ _ Tryz.func15 rfl (fun _ _=>by go_simp) (tLn) (tLn) ((fun a _=>a.2.length≤1000)) ((fun a b=>.ret (bv (ku a b)))) (by rw [Tryz.ntmps15];decide) (fun a b h=>Ep a b h)
theorem C7 {id:Nat} {h:ah} {args:List AV}:(wW).run id h args=bm (cq (tLn) (tLn) ((fun a _=>a.2.length≤1000))) (fun x=>((fun a b=>.ret (bv (ku a b)))) x.1 x.2) h args:=rfl
theorem Cv {id:Nat} {h:ah} {args:List AV}:(wW).pan id h args=bt (cq (tLn) (tLn) ((fun a _=>a.2.length≤1000))) (fun x=>((fun a b=>.ret (bv (ku a b)))) x.1 x.2) h args:=rfl
end
section
open Go.RowKit
def alO:AlV→AV
 | .no=>.tup [.agg [.v (.string emp),.v (.slice none 0 0)],.l (.v (.bool false))]
 | .ln r q=>.tup [.agg [.v (.string r.1),.d (.sd 15 (r.2.map opE))],.l (.v (.bool q))]
theorem opR_enc:opR.enc=opE:=rfl
theorem FJ (n:Int) (h0:0≤n) (h1:n≤15):bits .xor .i64 n 1=gt n:=by
 have:n=0∨n=1∨n=2∨n=3∨n=4∨n=5∨n=6∨n=7∨n=8∨n=9∨n=10∨n=11∨n=12∨n=13∨n=14∨n=15:=by omega
 rcases this with rfl | rfl | rfl | rfl | rfl | rfl | rfl | rfl | rfl | rfl | rfl | rfl | rfl | rfl | rfl | rfl<;>decide
def rT:aQ Tryz.prog 18 :=
 mk1 _ _ _ Tryz.func18 rfl (fun _ _=>by go_simp) (ar .i64) ((fun _=>True)) ((fun n=>.ret (iv (gt n)))) (by rw [Tryz.ntmps18];decide) (fun n _=>by
 refine aa (ctx:=[]) 4000 ?_
 rw [Tryz.ntmps18,Tryz.results18]
 simp only [Tryz.f18,Option.getD_some,ag]
 by_cases h1:n<0
 ·have e:gt n = -1:=by unfold gt;rw [if_pos (.inl h1)]
  simp only [go_sem,h1,e]
 by_cases h2:15<n
 ·have e:gt n = -1:=by unfold gt;rw [if_pos (.inr h2)]
  simp only [go_sem,h1,h2,e]
 have e:=FJ n (by omega) (by omega)
 simp only [go_sem,h1,h2,e])
theorem uq {id:Nat} {h:ah} {args:List AV}:(rT).run id h args=bm (av (ar .i64) ((fun _=>True))) ((fun n=>.ret (iv (gt n)))) h args:=rfl
theorem uQ {id:Nat} {h:ah} {args:List AV}:(rT).pan id h args=bt (av (ar .i64) ((fun _=>True))) ((fun n=>.ret (iv (gt n)))) h args:=rfl
end
section
open Go.RowKit
theorem gD {id:Nat} {h:ah} {args:List AV}:kP.pan id h args=none:=rfl
structure FdV where
 ins:ByteArray
 ext:ByteArray
 w:Int
 src:Bool
def FdV.F (f:FdV) (x:Ins):cG:=cx f.ins f.ext f.w f.src x
def gq (y:FdV×Ins):RO :=
 .ret (.s (.agg [.v (.string (y.1.F y.2).1),.sl 1 0 (y.1.F y.2).2.length])) [some (wrK y.2 (y.1.F y.2).1 (y.1.F y.2).2.length 1)] [ay (y.1.F y.2).2]
def fdQ (y:FdV×Ins):Prop:=(32≤y.1.w∧y.1.w≤64)∧(0≤y.2.a∧y.2.a≤63)∧(0≤y.2.c∧y.2.c≤63)
def jq (h:ah):List AV→Option (Prop×List Nat×(FdV×Ins))
 | [A,.s (.l (.v (.string ins))),.s (.l (.v (.string ext))),.s (.l (.v (.int .i64 w))),.s (.l (.v (.bool src)))]=>match aX h A with
  | some ([b,tb],x,nm,[])=>if nm=emp then some (fdQ (⟨ins,ext,w,src⟩,x),[b,tb],(⟨ins,ext,w,src⟩,x)) else none
  | _=>none
 | _=>none
theorem tx {h:ah} {zs:List AV} {q:Prop} {bs:List Nat} {y:FdV×Ins} (hd:jq h zs=some (q,bs,y)) :
  ∃ b tb,zs=[.s (.l (.p b 0 0)),sv y.1.ins,sv y.1.ext,iv y.1.w,bv y.1.src]∧bs=[b,tb]∧b≠tb∧hget h b=some (wrK y.2 emp 0 tb)∧hget h tb=some (ay [])∧q=fdQ y:=by
 unfold jq at hd
 split at hd
 case h_2=>cases hd
 rename_i A ins ext w src
 split at hd
 case h_2=>cases hd
 rename_i b tb x nm hw
 split at hd
 case isFalse=>cases hd
 rename_i hn
 subst hn
 simp only [Option.some.injEq,Prod.mk.injEq] at hd
 obtain ⟨rfl,rfl,rfl⟩:=hd
 obtain ⟨b2,tb2,rfl,e,hne,g1,g2⟩:=iO hw
 simp only [List.cons.injEq,and_true] at e
 obtain ⟨rfl,rfl⟩:=e
 exact ⟨b,tb,rfl,rfl,hne,g1,g2,rfl⟩
theorem wj {h h':ah} (hs:∀ b k,hget h b=some k→hget h' b=some k) {zs:List AV} {r:Prop×List Nat×(FdV×Ins)} (hd:jq h zs=some r):jq h' zs=some r:=by
 unfold jq at hd ⊢
 split at hd
 case h_2=>cases hd
 split at hd
 case h_2=>cases hd
 rename_i hw
 simp only [fT hs hw]
 exact hd
attribute [local go_sem] aw wrK ay bB aM bC gC gD bT fz aX aL ap ij gOf aG aF aK dc da FZ Fr Eh FO bE bF cp xwT xw0 bk opV opL bX ofD opR cB opE dO nO ab aB op0 r0 bK bO dE cA cz
theorem Jm (f:FdV) (x:Ins) (hq:fdQ (f,x)):SW Tryz.prog ⟨none,1⟩ Tryz.f112.ntmps (Tryz.f112.body.getD .skip) ⟨2,ag 0 [.s (.l (.p 0 0 0)),sv f.ins,sv f.ext,iv f.w,bv f.src],cn 0 [wrK x emp 0 1,ay []]⟩ (fy Tryz.prog Tryz.f112.results.toList 1 (gq (f,x))):=by
 obtain ⟨⟨hw1,hw2⟩,⟨ha1,ha2⟩,⟨hc1,hc2⟩⟩:=hq
 obtain ⟨ins,ext,w,src⟩:=f
 simp only at hw1 hw2 ha1 ha2 hc1 hc2
 refine aa (ctx:=[⟨_,GY⟩,⟨_,GU⟩,⟨_,ji⟩,⟨_,dV⟩,⟨_,kP⟩]) 4000 ?_
 rw [Tryz.ntmps112,Tryz.results112]
 simp only [Tryz.f112,Option.getD_some,ag]
 have w1:IntKind.i64.wrap (w-x.a)=w-x.a:=by rw [IntKind.wrap_i64];omega
 have w2:IntKind.i64.wrap (x.c+1)=x.c+1:=by rw [IntKind.wrap_i64];omega
 have w3:IntKind.i64.wrap (x.c-x.a)=x.c-x.a:=by rw [IntKind.wrap_i64];omega
 have w4:IntKind.i64.wrap (x.c-x.a+1)=x.c-x.a+1:=by rw [IntKind.wrap_i64];omega
 by_cases h:x.c<x.a
 ·cases src
  ·simp only [go_sem]
   refine aI (ctx:=[]) ax [] (by kernel_rfl) ?_
   simp only [go_sem,h,w1,w2]
   have e:FdV.F ⟨ins,ext,w,false⟩ x=(ins,[dO x,aB (w-x.a),aB (x.c+1)]):=by unfold FdV.F cx;simp only [h,if_true,if_false,Bool.false_eq_true];rfl
   have eo:gq (⟨ins,ext,w,false⟩,x)=.ret (.s (.agg [.v (.string ins),.sl 1 0 3])) [some (wrK x ins 3 1)] [ay [dO x,aB (w-x.a),aB (x.c+1)]]:=by unfold gq;rw [e];rfl
   rw [eo]
   exact ⟨_,_,_,rfl,rfl,by simp,by simp [wrK],by simp [ay],Wk.renL [0,578] (pE [578]) (Nat.le_refl 2) (by decide) rfl (by simp [dC,cn,hget,wrK,aw,ay,opL,opE,bX,ofD,dO,nO,ab,aB,op0,r0,emp,Blk.ren,LV.ren])⟩
  ·simp only [go_sem]
   refine aI (ctx:=[]) ax [] (by kernel_rfl) ?_
   simp only [go_sem,h,w1,w2]
   have e:FdV.F ⟨ins,ext,w,true⟩ x=(ins,[dO x,nO x,aB (w-x.a),aB (x.c+1)]):=by unfold FdV.F cx;simp only [h,if_true,if_false,Bool.false_eq_true];rfl
   have eo:gq (⟨ins,ext,w,true⟩,x)=.ret (.s (.agg [.v (.string ins),.sl 1 0 4])) [some (wrK x ins 4 1)] [ay [dO x,nO x,aB (w-x.a),aB (x.c+1)]]:=by unfold gq;rw [e];rfl
   rw [eo]
   exact ⟨_,_,_,rfl,rfl,by simp,by simp [wrK],by simp [ay],Wk.renL [0,610] (pE [610]) (Nat.le_refl 2) (by decide) rfl (by simp [dC,cn,hget,wrK,aw,ay,opL,opE,bX,ofD,dO,nO,ab,aB,op0,r0,emp,Blk.ren,LV.ren])⟩
 ·cases src
  ·simp only [go_sem]
   refine aI (ctx:=[]) ax [] (by kernel_rfl) ?_
   simp only [go_sem,h]
   refine aI (ctx:=[⟨_,ji⟩,⟨_,dV⟩]) ax [14] (by kernel_rfl) ?_
   simp only [go_sem,h,w3,w4]
   have e:FdV.F ⟨ins,ext,w,false⟩ x=(ext,[dO x,aB x.a,aB (x.c-x.a+1)]):=by unfold FdV.F cx;simp only [h,if_true,if_false,Bool.false_eq_true];rfl
   have eo:gq (⟨ins,ext,w,false⟩,x)=.ret (.s (.agg [.v (.string ext),.sl 1 0 3])) [some (wrK x ext 3 1)] [ay [dO x,aB x.a,aB (x.c-x.a+1)]]:=by unfold gq;rw [e];rfl
   rw [eo]
   exact ⟨_,_,_,rfl,rfl,by simp,by simp [wrK],by simp [ay],Wk.renL [0,642] (pE [642]) (Nat.le_refl 2) (by decide) rfl (by simp [dC,cn,hget,wrK,aw,ay,opL,opE,bX,ofD,dO,nO,ab,aB,op0,r0,emp,Blk.ren,LV.ren])⟩
  ·simp only [go_sem]
   refine aI (ctx:=[]) ax [] (by kernel_rfl) ?_
   simp only [go_sem,h]
   refine aI (ctx:=[⟨_,ji⟩,⟨_,dV⟩]) ax [14] (by kernel_rfl) ?_
   simp only [go_sem,h,w3,w4]
   have e:FdV.F ⟨ins,ext,w,true⟩ x=(ext,[dO x,nO x,aB x.a,aB (x.c-x.a+1)]):=by unfold FdV.F cx;simp only [h,if_true,if_false,Bool.false_eq_true];rfl
   have eo:gq (⟨ins,ext,w,true⟩,x)=.ret (.s (.agg [.v (.string ext),.sl 1 0 4])) [some (wrK x ext 4 1)] [ay [dO x,nO x,aB x.a,aB (x.c-x.a+1)]]:=by unfold gq;rw [e];rfl
   rw [eo]
   exact ⟨_,_,_,rfl,rfl,by simp,by simp [wrK],by simp [ay],Wk.renL [0,674] (pE [674]) (Nat.le_refl 2) (by decide) rfl (by simp [dC,cn,hget,wrK,aw,ay,opL,opE,bX,ofD,dO,nO,ab,aB,op0,r0,emp,Blk.ren,LV.ren])⟩
def KM:aQ Tryz.prog 112 :=
 mkQ 1 2 (by decide) _ _ _ Tryz.func112 rfl (fun _ _=>by go_simp) jq (fun y=>[.s (.l (.p 0 0 0)),sv y.1.ins,sv y.1.ext,iv y.1.w,bv y.1.src]) (fun y=>[wrK y.2 emp 0 1,ay []]) gq (by rw [Tryz.ntmps112];decide) (fun hs hd=>wj hs hd)
  (by
   intro h zs q' bs y hd hq
   obtain ⟨b,tb,rfl,rfl,n1,h1,h2,rfl⟩:=tx hd
   refine ⟨by rw [Tryz.ntmps112];show 5≤75;decide,rfl,rfl,by simp [n1],fun d=>⟨?_,?_⟩⟩
   ·intro j b' k hj hk
    match j,hj,hk with
    | 0,hj,hk =>
     simp at hj hk
     subst hj
     subst hk
     exact ⟨rfl,by rw [h1,g9];rfl⟩
    | 1,hj,hk =>
     simp at hj hk
     subst hj
     subst hk
     exact ⟨rfl,by rw [h2,dH]⟩
   ·intro ρ al vals hA
    match vals,hA with
    | [v1,v2,v3,v4,v5],⟨a1,a2,a3,a4,a5,_⟩=>exact ⟨a1,a2,a3,a4,a5,trivial⟩)
  (by
   intro h zs q' bs y hd hq
   obtain ⟨f,x⟩:=y
   obtain ⟨b,tb,rfl,rfl,n1,h1,h2,rfl⟩:=tx hd
   exact Jm f x hq)
theorem l5 {id:Nat} {h:ah} {args:List AV}:KM.run id h args=bT 1 jq gq id h args:=rfl
theorem lw {id:Nat} {h:ah} {args:List AV}:KM.pan id h args=none:=rfl
end
end Go.Proofs.YtpjlafmhoifkmaaGreat
