import Derived.Test.YtnhbidpdadkcjaaGreatDoorJ36
import Derived.Test.YtnhbidpdadkcjaaGreatDoorJ26
set_option linter.unusedVariables false
set_option linter.unusedSimpArgs false
set_option maxRecDepth 100000
set_option maxHeartbeats 8000000
namespace Go.Proofs.YtnhbidpdadkcjaaGreatDoor
open Go.RowKit
open Ex (Xs xs0)
def fH:Xs (OpV×Int×Int) where
 dec:=fun | [A,.s (.l (.v (.int .i64 a))),.s (.l (.v (.int .i64 b)))]=>(tOp.dec A).map fun o=>(o,a,b) | _=>none
 enc:=fun t=>[tOp.enc t.1,iv t.2.1,iv t.2.2]
 len:=3
 enc_len:=fun _=>rfl
 ok:=by
  intro zs x h ρ ρ' al al' vals hM hA
  split at h
  ·rw [Option.map_eq_some_iff] at h
   obtain ⟨o,h,rfl⟩:=h
   match vals,hA with
   | [v,u,y],⟨a,b,c,_⟩=>exact ⟨(tOp.ok h a).flat hM (by rfl),b,c,trivial⟩
  ·cases h
theorem LD:¬(bM 3 3 emp).2=0:=by decide +kernel
theorem D0 (o:OpV) (most nn:Int) (l:List Tok) (h:RdOk l):SW Tryz.prog ⟨none,1⟩ Tryz.f200.ntmps (Tryz.f200.body.getD .skip) ⟨1,aC 0 [pv 0 0 0,tOp.enc o,iv most,iv nn],bB 0 [rdK l]⟩ (dy Tryz.prog Tryz.f200.results.toList 1 (dA ((changedR o most nn l).map fun p=>(opV p.1,p.2)))):=by
 refine aa (ctx:=[⟨_,atS⟩,⟨_,rc⟩,⟨_,rO⟩,⟨_,Kd⟩]) 4000 ?_
 rw [Tryz.ntmps200,Tryz.results200]
 simp only [Tryz.f200,Option.getD_some,aC]
 have hz:(atF l 1 1).size≤1099511627776:=by have:=wF h 1;omega
 obtain ⟨⟨n,e⟩,hn⟩:∃ p,bM 3 3 (atF l 1 1)=p:=⟨_,rfl⟩
 by_cases hA:atF l 4 0=⟨#[44]⟩
 case neg =>
  have hc:changedR o most nn l=.ok (o,l):=by unfold changedR;rw [if_pos (.inl hA)]
  rw [hc]
  simp only [go_sem,rdK,aT,bm,aB,aA,xs2,xs1,xs0,aI,ai,Except.map,aZ,aY,aK,aJ,az,ay,bh,opE,opV,Int.toNat_zero,Int.toNat_one,cI,cH,cQ,hz,hn,hA]
  exact cF rfl rfl
 by_cases hB:e=0
 case neg =>
  have hc:changedR o most nn l=.ok (o,l):=by unfold changedR;rw [hn,if_pos (.inr (.inl hB))]
  rw [hc]
  simp only [go_sem,rdK,aT,bm,aB,aA,xs2,xs1,xs0,aI,ai,Except.map,aZ,aY,aK,aJ,az,ay,bh,opE,opV,Int.toNat_zero,Int.toNat_one,cI,cH,cQ,hz,hn,hA,hB]
  exact cF rfl rfl
 subst hB
 have hl:(2:Int)≤l.length:=by
  have:=jN (l:=l) (k:=1) (n:=1) (fun e=>LD (by rw [← e,hn]))
  omega
 have hA':atF l 4 0=fJ:=hA
 by_cases hC:most<n
 ·have hc:changedR o most nn l=.ok (o,l):=by unfold changedR;rw [hn,if_pos (.inr (.inr hC))]
  rw [hc]
  simp only [go_sem,rdK,aT,bm,aB,aA,xs2,xs1,xs0,aI,ai,Except.map,aZ,aY,aK,aJ,az,ay,bh,opE,opV,Int.toNat_zero,Int.toNat_one,cI,cH,cQ,hz,hn,hA,hC]
  exact cF rfl rfl
 have hc:changedR o most nn l=if n≤4∨atF (l.drop 2) 4 0=eQ then match countR (l.drop 2) with
  | .error e=>.error e
  | .ok (k,l')=>.ok ({ o with md:=n,amt:=k },l')
  else .ok ({ o with md:=n,amt:=nn },l.drop 2):=by unfold changedR;rw [hn,if_neg (by simp [hA',hC])];rfl
 have hr:=h.drop 2
 have fin:∀ b:Bool,(decide (n≤4)=b)→True:=fun _ _=>trivial
 by_cases h4:n≤4
 ·rcases hk:countR (l.drop 2) with x | ⟨k,l'⟩
  ·rw [hc,if_pos (.inl h4)]
   simp only [go_sem,rdK,aT,bm,aB,aA,xs2,xs1,xs0,aI,ai,Except.map,aZ,aY,aK,aJ,az,ay,bh,opE,opV,Int.toNat_zero,Int.toNat_one,cI,cH,cQ,hz,hn,hA,hC,hl,Int.reduceToNat,h4,sY,sX,hr,hk]
  ·rw [hc,if_pos (.inl h4)]
   simp only [go_sem,rdK,aT,bm,aB,aA,xs2,xs1,xs0,aI,ai,Except.map,aZ,aY,aK,aJ,az,ay,bh,opE,opV,Int.toNat_zero,Int.toNat_one,cI,cH,cQ,hz,hn,hA,hC,hl,Int.reduceToNat,h4,sY,sX,hr,hk]
   exact cF rfl rfl
 by_cases h5:atF (l.drop 2) 4 0=⟨#[35]⟩
 ·rcases hk:countR (l.drop 2) with x | ⟨k,l'⟩
  ·rw [hc,if_pos (.inr h5)]
   simp only [go_sem,rdK,aT,bm,aB,aA,xs2,xs1,xs0,aI,ai,Except.map,aZ,aY,aK,aJ,az,ay,bh,opE,opV,Int.toNat_zero,Int.toNat_one,cI,cH,cQ,hz,hn,hA,hC,hl,Int.reduceToNat,h4,h5,sY,sX,hr,hk]
  ·rw [hc,if_pos (.inr h5)]
   simp only [go_sem,rdK,aT,bm,aB,aA,xs2,xs1,xs0,aI,ai,Except.map,aZ,aY,aK,aJ,az,ay,bh,opE,opV,Int.toNat_zero,Int.toNat_one,cI,cH,cQ,hz,hn,hA,hC,hl,Int.reduceToNat,h4,h5,sY,sX,hr,hk]
   exact cF rfl rfl
 ·rw [hc,if_neg (fun h=>h.elim h4 h5)]
  simp only [go_sem,rdK,aT,bm,aB,aA,xs2,xs1,xs0,aI,ai,Except.map,aZ,aY,aK,aJ,az,ay,bh,opE,opV,Int.toNat_zero,Int.toNat_one,cI,cH,cQ,hz,hn,hA,hC,hl,Int.reduceToNat,h4,h5]
  exact cF rfl rfl
def lx:bi Tryz.prog 200 :=
 uz _ _ _ Tryz.func200 rfl (fun _ _=>by go_simp) (fH) ((fun _ l=>RdOk l)) ((fun x l=>(changedR x.1 x.2.1 x.2.2 l).map fun (p:OpV×List Tok)=>(opV p.1,p.2))) (by rw [Tryz.ntmps200];decide) (fun x l h=>D0 x.1 x.2.1 x.2.2 l h)
theorem aV {id:Nat} {h:ah} {args:List AV}:(lx).run id h args=gu 1 (aT (fH) ((fun _ l=>RdOk l))) (fun x=>dA (((fun x l=>(changedR x.1 x.2.1 x.2.2 l).map fun (p:OpV×List Tok)=>(opV p.1,p.2))) x.1 x.2)) id h args:=rfl
theorem aU {id:Nat} {h:ah} {args:List AV}:(lx).pan id h args=fX (aT (fH) ((fun _ l=>RdOk l))) (fun x=>dA (((fun x l=>(changedR x.1 x.2.1 x.2.2 l).map fun (p:OpV×List Tok)=>(opV p.1,p.2))) x.1 x.2)) h args:=rfl
theorem zO {s:ByteArray} {j:Nat} {kd k:Int} (hj:pZ[j]? = some (kd,k)):rsvdF s (pZ.drop j)=if (bM 3 kd s).2=0 then some (Cv k (bM 3 kd s).1) else rsvdF s (pZ.drop (j+1)):=by
 have hlt:=(List.getElem?_eq_some_iff.1 hj).1
 rw [List.drop_eq_getElem_cons hlt]
 rw [List.getElem?_eq_getElem hlt] at hj
 injection hj with hj
 rw [hj,rsvdF]
theorem xv (k n:Int):opV (Cv k n)=.s (.agg [.v (.int .i64 k),.v (.int .i64 0),.v (.bool false),.v (.bool false),.v (.int .i64 0),.v (.bool false),.v (.bool false),.v (.int .i64 0),.v (.int .i64 0),.v (.int .i64 n),.v (.int .i64 0),.v (.string ⟨#[]⟩),.v (.string ⟨#[]⟩),.v (.bool false),.v (.int .i64 0)]):=rfl
theorem C3 (s:ByteArray) (l:List Tok) (hs:s.size≤1099511627776) (hl:1≤l.length):SW Tryz.prog ⟨none,1⟩ Tryz.f205.ntmps (Tryz.f205.body.getD .skip) ⟨1,aC 0 [pv 0 0 0,sv s],bB 0 [rdK l]⟩ (dy Tryz.prog Tryz.f205.results.toList 1 (dA ((eB s l).map fun p=>(opV p.1,p.2)))):=by
 refine aa (ctx:=[⟨_,fm⟩]) 4000 ?_
 rw [Tryz.ntmps205,Tryz.results205]
 simp only [Tryz.f205,Option.getD_some,aC]
 have hlI:(1:Int)≤l.length:=by omega
 simp only [go_sem,rdK,aT,bm,aB,aA,xs2,xs1,xs0,aI,ai,Except.map,aZ,aY,aK,aJ,az,ay]
 refine cW (ι:=Nat) (fun j=>j≤5∧rsvdF s (pZ.drop j)=rsvdF s pZ) (fun j=>⟨3,[(0,pv 0 0 0),(1,sv s),(4,pv 1 0 0),(9,.s (.l (.sl 2 0 5))),(10,iv 5),(11,iv j)],bB 0 [rdK l,⟨true,79,15,[[.v (.int .i64 0),.v (.int .i64 0),.v (.bool false),.v (.bool false),.v (.int .i64 0),.v (.bool false),.v (.bool false),.v (.int .i64 0),.v (.int .i64 0),.v (.int .i64 0),.v (.int .i64 0),.v (.string ⟨#[]⟩),.v (.string ⟨#[]⟩),.v (.bool false),.v (.int .i64 0)]]⟩,⟨true,3,1,[[.v (.int .i64 2)],[.v (.int .i64 4)],[.v (.int .i64 6)],[.v (.int .i64 7)],[.v (.int .i64 8)]]⟩]⟩) (fun j=>5-j) 0 ⟨Nat.zero_le _,rfl⟩ ?_ ?_
 ·exact Wk.renL [0,1,17] (by simp) (by simp) (by simp) rfl rfl
 rintro j ⟨hj,hR⟩
 refine aa (ctx:=[⟨_,rc⟩,⟨_,rO⟩,⟨_,fm⟩]) 4000 ?_
 have hlt:j=0∨j=1∨j=2∨j=3∨j=4∨j=5:=by omega
 have no:∀ {kd k:Int},pZ[j]? = some (kd,k)→¬(bM 3 kd s).2=0→rsvdF s (pZ.drop (j+1))=rsvdF s pZ:=fun hk hn=>by
  rw [← hR,zO hk,if_neg hn]
 have yes:∀ {kd k n:Int},pZ[j]? = some (kd,k)→bM 3 kd s=(n,0)→eB s l=.ok (Cv k n,l.drop 1):=fun hk hn=>by
  unfold eB
  rw [← hR,zO hk,hn,if_pos rfl]
 rcases hlt with rfl | rfl | rfl | rfl | rfl | rfl
 ·obtain ⟨⟨n,e⟩,hn⟩:∃ p,bM 3 2 s=p:=⟨_,rfl⟩
  by_cases he:e=0
  ·subst he
   rw [yes rfl hn]
   simp only [go_sem,rdK,aT,bm,aB,aA,xs2,xs1,xs0,aI,ai,Except.map,aZ,aY,aK,aJ,az,ay,cI,cH,cQ,hs,hn,hlI,Int.reduceToNat,Int.toNat_one,Int.reduceAdd,xv]
   exact cF rfl rfl
  ·simp only [go_sem,rdK,aT,bm,aB,aA,xs2,xs1,xs0,aI,ai,Except.map,aZ,aY,aK,aJ,az,ay,cI,cH,cQ,hs,hn,he,hlI,Int.reduceToNat,Int.toNat_one,Int.reduceAdd]
   exact ⟨1,⟨by omega,no rfl (by rw [hn];exact he)⟩,by omega,Wk.renL [0,1,2] (by simp) (by simp) (by simp) rfl rfl⟩
 ·obtain ⟨⟨n,e⟩,hn⟩:∃ p,bM 3 4 s=p:=⟨_,rfl⟩
  by_cases he:e=0
  ·subst he
   rw [yes rfl hn]
   simp only [go_sem,rdK,aT,bm,aB,aA,xs2,xs1,xs0,aI,ai,Except.map,aZ,aY,aK,aJ,az,ay,cI,cH,cQ,hs,hn,hlI,Int.reduceToNat,Int.toNat_one,Int.reduceAdd,xv]
   exact cF rfl rfl
  ·simp only [go_sem,rdK,aT,bm,aB,aA,xs2,xs1,xs0,aI,ai,Except.map,aZ,aY,aK,aJ,az,ay,cI,cH,cQ,hs,hn,he,hlI,Int.reduceToNat,Int.toNat_one,Int.reduceAdd]
   exact ⟨2,⟨by omega,no rfl (by rw [hn];exact he)⟩,by omega,Wk.renL [0,1,2] (by simp) (by simp) (by simp) rfl rfl⟩
 ·obtain ⟨⟨n,e⟩,hn⟩:∃ p,bM 3 6 s=p:=⟨_,rfl⟩
  by_cases he:e=0
  ·subst he
   rw [yes rfl hn]
   simp only [go_sem,rdK,aT,bm,aB,aA,xs2,xs1,xs0,aI,ai,Except.map,aZ,aY,aK,aJ,az,ay,cI,cH,cQ,hs,hn,hlI,Int.reduceToNat,Int.toNat_one,Int.reduceAdd,xv]
   exact cF rfl rfl
  ·simp only [go_sem,rdK,aT,bm,aB,aA,xs2,xs1,xs0,aI,ai,Except.map,aZ,aY,aK,aJ,az,ay,cI,cH,cQ,hs,hn,he,hlI,Int.reduceToNat,Int.toNat_one,Int.reduceAdd]
   exact ⟨3,⟨by omega,no rfl (by rw [hn];exact he)⟩,by omega,Wk.renL [0,1,2] (by simp) (by simp) (by simp) rfl rfl⟩
 ·obtain ⟨⟨n,e⟩,hn⟩:∃ p,bM 3 7 s=p:=⟨_,rfl⟩
  by_cases he:e=0
  ·subst he
   rw [yes rfl hn]
   simp only [go_sem,rdK,aT,bm,aB,aA,xs2,xs1,xs0,aI,ai,Except.map,aZ,aY,aK,aJ,az,ay,cI,cH,cQ,hs,hn,hlI,Int.reduceToNat,Int.toNat_one,Int.reduceAdd,xv]
   exact cF rfl rfl
  ·simp only [go_sem,rdK,aT,bm,aB,aA,xs2,xs1,xs0,aI,ai,Except.map,aZ,aY,aK,aJ,az,ay,cI,cH,cQ,hs,hn,he,hlI,Int.reduceToNat,Int.toNat_one,Int.reduceAdd]
   exact ⟨4,⟨by omega,no rfl (by rw [hn];exact he)⟩,by omega,Wk.renL [0,1,2] (by simp) (by simp) (by simp) rfl rfl⟩
 ·obtain ⟨⟨n,e⟩,hn⟩:∃ p,bM 3 8 s=p:=⟨_,rfl⟩
  by_cases he:e=0
  ·subst he
   rw [yes rfl hn]
   simp only [go_sem,rdK,aT,bm,aB,aA,xs2,xs1,xs0,aI,ai,Except.map,aZ,aY,aK,aJ,az,ay,cI,cH,cQ,hs,hn,hlI,Int.reduceToNat,Int.toNat_one,Int.reduceAdd,xv]
   exact cF rfl rfl
  ·simp only [go_sem,rdK,aT,bm,aB,aA,xs2,xs1,xs0,aI,ai,Except.map,aZ,aY,aK,aJ,az,ay,cI,cH,cQ,hs,hn,he,hlI,Int.reduceToNat,Int.toNat_one,Int.reduceAdd]
   exact ⟨5,⟨by omega,no rfl (by rw [hn];exact he)⟩,by omega,Wk.renL [0,1,2] (by simp) (by simp) (by simp) rfl rfl⟩
 ·have e:eB s l=.error 100:=by
   unfold eB
   rw [← hR]
   rfl
  rw [e]
  simp only [go_sem,rdK,aT,bm,aB,aA,xs2,xs1,xs0,aI,ai,Except.map,aZ,aY,aK,aJ,az,ay]
def MP:bi Tryz.prog 205 :=
 uz _ _ _ Tryz.func205 rfl (fun _ _=>by go_simp) (aA) ((fun s l=>s.size≤1099511627776∧1≤l.length)) ((fun s l=>(eB s l).map fun (p:OpV×List Tok)=>(opV p.1,p.2))) (by rw [Tryz.ntmps205];decide) (fun s l h=>C3 s l h.1 h.2)
theorem dS {id:Nat} {h:ah} {args:List AV}:(MP).run id h args=gu 1 (aT (aA) ((fun s l=>s.size≤1099511627776∧1≤l.length))) (fun x=>dA (((fun s l=>(eB s l).map fun (p:OpV×List Tok)=>(opV p.1,p.2))) x.1 x.2)) id h args:=rfl
theorem dR {id:Nat} {h:ah} {args:List AV}:(MP).pan id h args=fX (aT (aA) ((fun s l=>s.size≤1099511627776∧1≤l.length))) (fun x=>dA (((fun s l=>(eB s l).map fun (p:OpV×List Tok)=>(opV p.1,p.2))) x.1 x.2)) h args:=rfl
end Go.Proofs.YtnhbidpdadkcjaaGreatDoor
