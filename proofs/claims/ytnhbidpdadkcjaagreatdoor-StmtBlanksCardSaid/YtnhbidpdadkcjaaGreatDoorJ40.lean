import Derived.Test.YtnhbidpdadkcjaaGreatDoorJ39
import Derived.Test.YtnhbidpdadkcjaaGreatDoorJ10
set_option linter.unusedVariables false
set_option linter.unusedSimpArgs false
set_option maxRecDepth 100000
set_option maxHeartbeats 8000000
namespace Go.Proofs.YtnhbidpdadkcjaaGreatDoor
open Go.RowKit
open Ex (Xs xs0)
def x5:bi Tryz.prog 111 :=
 mkQP 1 1 (by decide) _ _ _ Tryz.func111 rfl (fun _ _=>by go_simp) (aT xs0 fun _ l=>RdOk l) (fun _=>[pv 0 0 0]) (fun x=>[rdK x.2]) (fun x=>uF (listF x.2)) (by rw [Tryz.ntmps111];decide)
  (by
   intro h h' args r hs hd
   unfold aT at hd ⊢
   split at hd
   ·split at hd
    ·rename_i h1 h2
     rw [wP hs h1,h2]
     exact hd
    ·cases hd
   ·cases hd)
  (by
   intro h zs q' bs x hd hq
   unfold aT at hd
   split at hd
   case h_2=>cases hd
   rename_i A zs'
   split at hd
   case h_2=>cases hd
   rename_i b l x' h1 h2
   injection hd with hd
   injection hd with e1 hd
   injection hd with e2 e3
   subst e2
   subst e3
   obtain ⟨rfl,hb1⟩:=B2 h1
   refine ⟨by rw [Tryz.ntmps111];decide,rfl,rfl,by simp,fun d=>⟨?_,?_⟩⟩
   ·intro j b' k hj hk
    match j,hj,hk with
    | 0,hj,hk =>
     simp at hj hk
     subst hj
     subst hk
     exact ⟨rfl,by rw [hb1];rfl⟩
   ·intro ρ al vals hA
    match vals,hA with
    | v::vs,⟨a,r⟩=>exact ⟨a,xs0.ok (al:=al) h2 (Mem.le_refl _) r⟩)
  (by
   intro h zs q' bs x hd hq
   unfold aT at hd
   split at hd
   case h_2=>cases hd
   split at hd
   case h_2=>cases hd
   injection hd with hd
   injection hd with e1 hd
   injection hd with e2 e3
   subst e1
   subst e3
   exact QU _ hq)
theorem vN {id:Nat} {h:ah} {args:List AV}:x5.run id h args=Jd 1 (aT xs0 fun _ l=>RdOk l) (fun x=>uF (listF x.2)) id h args:=rfl
theorem vM {id:Nat} {h:ah} {args:List AV}:x5.pan id h args=fX (aT xs0 fun _ l=>RdOk l) (fun x=>uF (listF x.2)) h args:=rfl
def mq (l:List Tok):PO :=
 match listF l with
 | .ok out=>.ret (.tup [.l (.d (.sd 15 (out.map opR.enc))),.l (.v (.int .i64 0))])
 | .error e=>.ret (.tup [.l (.v (.slice none 0 0)),.l (.v (.int .i64 e))])
def c2K (a:LV) (c:Int):List Blk:=[⟨true,35,1,[[a]]⟩,⟨true,27,1,[[.v (.int .i64 c)]]⟩]
structure JP (s:St) (a:LV) (c:Int):Prop where
 h0:hget s.h 0=some ⟨true,35,1,[[a]]⟩
 h1:hget s.h 1=some ⟨true,27,1,[[.v (.int .i64 c)]]⟩
def QG (s:St):Prop:=dk s.t 2=pv 0 0 0∧dk s.t 3=pv 1 0 0
theorem Ij (l:List Tok) (hl:RdOk l):JR Tryz.prog 49 Tryz.f49 ⟨0,aC 0 [(tSl 4 lN).enc l],[]⟩ (mq l):=by
 intro B w ρ al vals R hpl hds H hret _
 refine qi (K:=2) (js:=[1,0]) (cells:=[(2,0),(3,1)]) (s1:=⟨2,[(0,(tSl 4 lN).enc l),(2,pv 0 0 0),(3,pv 1 0 0)],bB 0 (c2K (.v (.slice none 0 0)) 0)⟩)
  (post:=fun s=>QG s∧∃ out,listF l=.ok out∧∃ b,JP s (.sl b 0 out.length) 0∧2≤b∧hget s.h b=some (fW out))
  (pp:=fun x s=>QG s∧∃ e,listF l=.error e∧x=sU e∧JP s (.v (.slice none 0 0)) 0)
  (post2:=fun s=>yW s.h (mq l) (nT Tryz.prog Tryz.f49.results.toList ⟨s.nx,[(2,pv 0 0 0),(3,pv 1 0 0)],s.h⟩))
  Tryz.func49 rfl Tryz.func110 rfl rfl rfl rfl rfl (by decide) (by decide) (by decide) (by decide) hpl hds H ?_
  (Ez rfl rfl rfl (fun _=>rfl) (fun _ _=>by go_simp) rfl) ?_ ?_ ?_ ?_ ?_ ?_ ?_
 ·refine aa (ctx:=[]) 4000 ?_
  rw [Tryz.ntmps49]
  simp only [go_sem]
  exact Wk.renL [0,16] (by simp) (by simp) (by decide) rfl rfl
 ·intro j hj
  match j,hj with
  | 0,_=>exact ⟨_,rfl⟩
  | 1,_=>exact ⟨_,rfl⟩
 ·refine aa (ctx:=[⟨_,x5⟩]) 4000 ?_
  rw [Tryz.ntmps49]
  rcases hr:listF l with e | out
  ·simp only [go_sem,c2K,vN,vM,Jd,aT,bm,xs0,hl,hr,uG,fp]
   exact ⟨⟨rfl,rfl⟩,e,rfl,rfl,⟨rfl,rfl⟩⟩
  ·simp only [go_sem,c2K,vN,vM,Jd,aT,bm,xs0,hl,hr,uG,fp,rdK,fW]
   exact ⟨⟨rfl,rfl⟩,out,rfl,82,⟨rfl,rfl⟩,by decide,rfl⟩
 ·rintro s ⟨⟨e1,e2⟩,_⟩ p hp
  simp only [List.mem_cons,List.not_mem_nil,or_false] at hp
  rcases hp with rfl | rfl
  ·exact e1
  ·exact e2
 ·rintro x s ⟨⟨e1,e2⟩,_⟩ p hp
  simp only [List.mem_cons,List.not_mem_nil,or_false] at hp
  rcases hp with rfl | rfl
  ·exact e1
  ·exact e2
 ·rintro s ⟨-,out,hr,b,hc,h3,ht⟩
  refine aa (ctx:=[]) 4000 ?_
  rw [Tryz.ntmps110,Tryz.results49]
  have hm:ez (ez (LV.toD s.h 3)) ((fW out).els.take out.length)=some (True,[],out.map opR.enc):=by
   rw [List.take_of_length_le (by simp [fW])]
   exact im
  have ho:(fW out).own=true:=rfl
  have hz:(fW out).sz=15:=rfl
  have hlen:out.length≤(fW out).els.length:=by simp [fW]
  have hb:=@pI Tryz.prog 20 .nilIface (.tmp 7) xw
  simp only [go_sem,pvs,↓hb,hc.h0,hc.h1,mq,hr,ht,AV.toD,SV.toD,LV.toD,ho,hz,hm,hlen]
 ·rintro x s ⟨-,e,hr,rfl,hc⟩
  have hwk:Wk ⟨none,2⟩ ⟨s.nx,(7,.s (.l (.v (sU e))))::aC 0 (pvs [1,0]),s.h⟩ ⟨2,(7,.s (.l (.v (sU e))))::aC 0 (pvs [1,0]),bB 0 (c2K (.v (.slice none 0 0)) 0)⟩:=by
   refine Wk.renL [0,1] (by decide) (Nat.le_refl 2) (by decide) rfl ?_
   simp only [c2K,bB,List.map_cons,List.map_nil,List.getD_eq_getElem?_getD,List.getElem?_cons_zero,List.getElem?_cons_succ,Option.getD_some,hc.h0,hc.h1]
   rfl
  refine SW.wk ?_ hwk
  refine aa (ctx:=[]) 4000 ?_
  rw [Tryz.ntmps110,Tryz.results49]
  have hb:∀ u v,_:=fun u v=>@ni Tryz.prog 20 u v .nilIface (.tmp 7) xw
  have hs:Do (.agg #[.int .i64 e])=some (.agg [.v (.int .i64 e)]):=rfl
  simp only [go_sem,pvs,↓hb,hs,sU,qS,c2K]
  refine du (ctx:=[]) mixed ⟨[],[(5,[0]),(7,[1])],[(0,[0]),(1,[0]),(2,[0]),(3,[0])]⟩ (by kernel_rfl) ?_
  simp only [go_sem,mq,hr]
 ·intro s ρ al a w1 h2 H2
  exact hret _ ρ al a w1 h2 H2
def Gp:bi Tryz.prog 49:=Ry _ _ (fun _ _=>by go_simp) (tSl 4 lN) RdOk mq (by rw [Tryz.ntmps49];decide) fun l hl=>Ij l hl
theorem Cy {id:Nat} {h:ah} {args:List AV}:Gp.run id h args=bT (ba (tSl 4 lN) RdOk) mq h args:=rfl
theorem Cx {h:ah} {id:Nat} {args:List AV}:Gp.pan id h args=bU (ba (tSl 4 lN) RdOk) mq h args:=rfl
end Go.Proofs.YtnhbidpdadkcjaaGreatDoor
