import Derived.Test.YthcoegkfpinlfaaGreatDoorJ39
import Derived.Test.YthcoegkfpinlfaaGreatDoorJ10
set_option linter.unusedVariables false
set_option linter.unusedSimpArgs false
set_option maxRecDepth 100000
set_option maxHeartbeats 8000000
namespace Go.Proofs.YthcoegkfpinlfaaGreatDoor
open Go.RowKit
open Ex (Xs xs0)
def wp:bq Tryz.prog 28 :=
 mkQP 1 1 (by decide) _ _ _ Tryz.func28 rfl (fun _ _=>by go_simp) (az xs0 fun _ l=>RdOk l) (fun _=>[pv 0 0 0]) (fun x=>[rdK x.2]) (fun x=>sX (ii x.2)) (by rw [Tryz.ntmps28];decide)
  (by
   intro h h' args r hs hd
   unfold az at hd ⊢
   split at hd
   ·split at hd
    ·rename_i h1 h2
     rw [vl hs h1,h2]
     exact hd
    ·cases hd
   ·cases hd)
  (by
   intro h zs q' bs x hd hq
   unfold az at hd
   split at hd
   case h_2=>cases hd
   rename_i A zs'
   split at hd
   case h_2=>cases hd
   rename_i b l x' h1 h2
   injection hd with hd
   injection hd with e1 hd
   injection hd with e2 e3
   subst e2
   subst e3
   obtain ⟨rfl,hb1⟩:=AZ h1
   refine ⟨by rw [Tryz.ntmps28];decide,rfl,rfl,by simp,fun d=>⟨?_,?_⟩⟩
   ·intro j b' k hj hk
    match j,hj,hk with
    | 0,hj,hk =>
     simp at hj hk
     subst hj
     subst hk
     exact ⟨rfl,by rw [hb1];rfl⟩
   ·intro ρ al vals hA
    match vals,hA with
    | v::vs,⟨a,r⟩=>exact ⟨a,xs0.ok (al:=al) h2 (Mem.le_refl _) r⟩)
  (by
   intro h zs q' bs x hd hq
   unfold az at hd
   split at hd
   case h_2=>cases hd
   split at hd
   case h_2=>cases hd
   injection hd with hd
   injection hd with e1 hd
   injection hd with e2 e3
   subst e1
   subst e3
   exact Pt _ hq)
theorem tV {id:Nat} {h:ag} {args:List AV}:wp.run id h args=IF 1 (az xs0 fun _ l=>RdOk l) (fun x=>sX (ii x.2)) id h args:=rfl
theorem tU {id:Nat} {h:ag} {args:List AV}:wp.pan id h args=lp (az xs0 fun _ l=>RdOk l) (fun x=>sX (ii x.2)) h args:=rfl
def i7 (l:List Tok):PO :=
 match ii l with
 | .ok out=>.ret (.tup [.l (.d (.sd 15 (out.map opR.enc))),.l (.v (.int .i64 0))])
 | .error e=>.ret (.tup [.l (.v (.slice none 0 0)),.l (.v (.int .i64 e))])
def c2K (a:LV) (c:Int):List Blk:=[⟨true,22,1,[[a]]⟩,⟨true,25,1,[[.v (.int .i64 c)]]⟩]
structure Ja (s:St) (a:LV) (c:Int):Prop where
 h0:aq s.h 0=some ⟨true,22,1,[[a]]⟩
 h1:aq s.h 1=some ⟨true,25,1,[[.v (.int .i64 c)]]⟩
def O3 (s:St):Prop:=cE s.t 2=pv 0 0 0∧cE s.t 3=pv 1 0 0
theorem HJ (l:List Tok) (hl:RdOk l):MD Tryz.prog 10 Tryz.f10 ⟨0,aw 0 [(tSl 4 mg).enc l],[]⟩ (i7 l):=by
 intro B w ρ al vals R hpl hds H hret _
 refine tC (K:=2) (js:=[1,0]) (cells:=[(2,0),(3,1)]) (s1:=⟨2,[(0,(tSl 4 mg).enc l),(2,pv 0 0 0),(3,pv 1 0 0)],cu 0 (c2K (.v (.slice none 0 0)) 0)⟩)
  (post:=fun s=>O3 s∧∃ out,ii l=.ok out∧∃ b,Ja s (.sl b 0 out.length) 0∧2≤b∧aq s.h b=some (fL out))
  (pp:=fun x s=>O3 s∧∃ e,ii l=.error e∧x=rC e∧Ja s (.v (.slice none 0 0)) 0)
  (post2:=fun s=>Aa s.h (i7 l) (mX Tryz.prog Tryz.f10.results.toList ⟨s.nx,[(2,pv 0 0 0),(3,pv 1 0 0)],s.h⟩))
  Tryz.func10 rfl Tryz.func27 rfl rfl rfl rfl rfl (by decide) (by decide) (by decide) (by decide) hpl hds H ?_
  (DU rfl rfl rfl (fun _=>rfl) (fun _ _=>by go_simp) rfl) ?_ ?_ ?_ ?_ ?_ ?_ ?_
 ·refine ab (ctx:=[]) 4000 ?_
  rw [Tryz.ntmps10]
  simp only [go_sem]
  exact Wk.renL [0,16] (by simp) (by simp) (by decide) rfl rfl
 ·intro j hj
  match j,hj with
  | 0,_=>exact ⟨_,rfl⟩
  | 1,_=>exact ⟨_,rfl⟩
 ·refine ab (ctx:=[⟨_,wp⟩]) 4000 ?_
  rw [Tryz.ntmps10]
  rcases hr:ii l with e | out
  ·simp only [go_sem,c2K,tV,tU,IF,az,aM,xs0,hl,hr,sY,eP]
   exact ⟨⟨rfl,rfl⟩,e,rfl,rfl,⟨rfl,rfl⟩⟩
  ·simp only [go_sem,c2K,tV,tU,IF,az,aM,xs0,hl,hr,sY,eP,rdK,fL]
   exact ⟨⟨rfl,rfl⟩,out,rfl,82,⟨rfl,rfl⟩,by decide,rfl⟩
 ·rintro s ⟨⟨e1,e2⟩,_⟩ p hp
  simp only [List.mem_cons,List.not_mem_nil,or_false] at hp
  rcases hp with rfl | rfl
  ·exact e1
  ·exact e2
 ·rintro x s ⟨⟨e1,e2⟩,_⟩ p hp
  simp only [List.mem_cons,List.not_mem_nil,or_false] at hp
  rcases hp with rfl | rfl
  ·exact e1
  ·exact e2
 ·rintro s ⟨-,out,hr,b,hc,h3,ht⟩
  refine ab (ctx:=[]) 4000 ?_
  rw [Tryz.ntmps27,Tryz.results10]
  have hm:gU (gU (LV.toD s.h 3)) ((fL out).els.take out.length)=some (True,[],out.map opR.enc):=by
   rw [List.take_of_length_le (by simp [fL])]
   exact nD
  have ho:(fL out).own=true:=rfl
  have hz:(fL out).sz=15:=rfl
  have hlen:out.length≤(fL out).els.length:=by simp [fL]
  have hb:=@r6 Tryz.prog 20 .nilIface (.tmp 7) ya
  simp only [go_sem,pvs,↓hb,hc.h0,hc.h1,i7,hr,ht,AV.toD,SV.toD,LV.toD,ho,hz,hm,hlen]
 ·rintro x s ⟨-,e,hr,rfl,hc⟩
  have hwk:Wk ⟨none,2⟩ ⟨s.nx,(7,.s (.l (.v (rC e))))::aw 0 (pvs [1,0]),s.h⟩ ⟨2,(7,.s (.l (.v (rC e))))::aw 0 (pvs [1,0]),cu 0 (c2K (.v (.slice none 0 0)) 0)⟩:=by
   refine Wk.renL [0,1] (by decide) (Nat.le_refl 2) (by decide) rfl ?_
   simp only [c2K,cu,List.map_cons,List.map_nil,List.getD_eq_getElem?_getD,List.getElem?_cons_zero,List.getElem?_cons_succ,Option.getD_some,hc.h0,hc.h1]
   rfl
  refine SW.wk ?_ hwk
  refine ab (ctx:=[]) 4000 ?_
  rw [Tryz.ntmps27,Tryz.results10]
  have hb:∀ u v,_:=fun u v=>@pN Tryz.prog 20 u v .nilIface (.tmp 7) ya
  have hs:E7 (.agg #[.int .i64 e])=some (.agg [.v (.int .i64 e)]):=rfl
  simp only [go_sem,pvs,↓hb,hs,rC,rv,c2K]
  refine fP (ctx:=[]) mixed ⟨[],[(5,[0]),(7,[1])],[(0,[0]),(1,[0]),(2,[0]),(3,[0])]⟩ (by kernel_rfl) ?_
  simp only [go_sem,i7,hr]
 ·intro s ρ al a w1 h2 H2
  exact hret _ ρ al a w1 h2 H2
def yd:bq Tryz.prog 10:=QO _ _ (fun _ _=>by go_simp) (tSl 4 mg) RdOk i7 (by rw [Tryz.ntmps10];decide) fun l hl=>HJ l hl
theorem pB {id:Nat} {h:ag} {args:List AV}:yd.run id h args=bV (aI (tSl 4 mg) RdOk) i7 h args:=rfl
theorem pA {h:ag} {id:Nat} {args:List AV}:yd.pan id h args=ca (aI (tSl 4 mg) RdOk) i7 h args:=rfl
end Go.Proofs.YthcoegkfpinlfaaGreatDoor
