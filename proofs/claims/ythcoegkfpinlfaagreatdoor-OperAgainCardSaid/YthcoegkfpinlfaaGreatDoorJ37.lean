import Derived.Test.YthcoegkfpinlfaaGreatDoorJ36
import Derived.Test.YthcoegkfpinlfaaGreatDoorJ26
set_option linter.unusedVariables false
set_option linter.unusedSimpArgs false
set_option maxRecDepth 100000
set_option maxHeartbeats 8000000
namespace Go.Proofs.YthcoegkfpinlfaaGreatDoor
open Go.RowKit
open Ex (Xs xs0)
def fk:Xs (OpV×Int×Int) where
 dec:=fun | [A,.s (.l (.v (.int .i64 a))),.s (.l (.v (.int .i64 b)))]=>(tOp.dec A).map fun o=>(o,a,b) | _=>none
 enc:=fun t=>[tOp.enc t.1,iv t.2.1,iv t.2.2]
 len:=3
 enc_len:=fun _=>rfl
 ok:=by
  intro zs x h ρ ρ' al al' vals hM hA
  split at h
  ·rw [Option.map_eq_some_iff] at h
   obtain ⟨o,h,rfl⟩:=h
   match vals,hA with
   | [v,u,y],⟨a,b,c,_⟩=>exact ⟨(tOp.ok h a).flat hM (by rfl),b,c,trivial⟩
  ·cases h
theorem KR:¬(ap 3 3 emp).2=0:=by decide +kernel
theorem Du (o:OpV) (most nn:Int) (l:List Tok) (h:RdOk l):SW Tryz.prog ⟨none,1⟩ Tryz.f110.ntmps (Tryz.f110.body.getD .skip) ⟨1,aw 0 [pv 0 0 0,tOp.enc o,iv most,iv nn],cu 0 [rdK l]⟩ (ji Tryz.prog Tryz.f110.results.toList 1 (cU ((changedR o most nn l).map fun p=>(opV p.1,p.2)))):=by
 refine ab (ctx:=[⟨_,atS⟩,⟨_,oz⟩,⟨_,qD⟩,⟨_,JI⟩]) 4000 ?_
 rw [Tryz.ntmps110,Tryz.results110]
 simp only [Tryz.f110,Option.getD_some,aw]
 have hz:(atF l 1 1).size≤1099511627776:=by have:=zzu5 h 1;omega
 obtain ⟨⟨n,e⟩,hn⟩:∃ p,ap 3 3 (atF l 1 1)=p:=⟨_,rfl⟩
 by_cases hA:atF l 4 0=⟨#[44]⟩
 case neg =>
  have hc:changedR o most nn l=.ok (o,l):=by unfold changedR;rw [if_pos (.inl hA)]
  rw [hc]
  simp only [go_sem,rdK,az,aM,aO,aL,xs2,xs1,xs0,aj,ae,Except.map,aD,aC,ao,ak,ai,ah,aF,opE,opV,Int.toNat_zero,Int.toNat_one,bQ,bP,cB,hz,hn,hA]
  exact bZ rfl rfl
 by_cases hB:e=0
 case neg =>
  have hc:changedR o most nn l=.ok (o,l):=by unfold changedR;rw [hn,if_pos (.inr (.inl hB))]
  rw [hc]
  simp only [go_sem,rdK,az,aM,aO,aL,xs2,xs1,xs0,aj,ae,Except.map,aD,aC,ao,ak,ai,ah,aF,opE,opV,Int.toNat_zero,Int.toNat_one,bQ,bP,cB,hz,hn,hA,hB]
  exact bZ rfl rfl
 subst hB
 have hl:(2:Int)≤l.length:=by
  have:=lI (l:=l) (k:=1) (n:=1) (fun e=>KR (by rw [← e,hn]))
  omega
 have hA':atF l 4 0=aY:=hA
 by_cases hC:most<n
 ·have hc:changedR o most nn l=.ok (o,l):=by unfold changedR;rw [hn,if_pos (.inr (.inr hC))]
  rw [hc]
  simp only [go_sem,rdK,az,aM,aO,aL,xs2,xs1,xs0,aj,ae,Except.map,aD,aC,ao,ak,ai,ah,aF,opE,opV,Int.toNat_zero,Int.toNat_one,bQ,bP,cB,hz,hn,hA,hC]
  exact bZ rfl rfl
 have hc:changedR o most nn l=if n≤4∨atF (l.drop 2) 4 0=bc then match countR (l.drop 2) with
  | .error e=>.error e
  | .ok (k,l')=>.ok ({ o with md:=n,amt:=k },l')
  else .ok ({ o with md:=n,amt:=nn },l.drop 2):=by unfold changedR;rw [hn,if_neg (by simp [hA',hC])];rfl
 have hr:=h.drop 2
 have fin:∀ b:Bool,(decide (n≤4)=b)→True:=fun _ _=>trivial
 by_cases h4:n≤4
 ·rcases hk:countR (l.drop 2) with x | ⟨k,l'⟩
  ·rw [hc,if_pos (.inl h4)]
   simp only [go_sem,rdK,az,aM,aO,aL,xs2,xs1,xs0,aj,ae,Except.map,aD,aC,ao,ak,ai,ah,aF,opE,opV,Int.toNat_zero,Int.toNat_one,bQ,bP,cB,hz,hn,hA,hC,hl,Int.reduceToNat,h4,rH,rG,hr,hk]
  ·rw [hc,if_pos (.inl h4)]
   simp only [go_sem,rdK,az,aM,aO,aL,xs2,xs1,xs0,aj,ae,Except.map,aD,aC,ao,ak,ai,ah,aF,opE,opV,Int.toNat_zero,Int.toNat_one,bQ,bP,cB,hz,hn,hA,hC,hl,Int.reduceToNat,h4,rH,rG,hr,hk]
   exact bZ rfl rfl
 by_cases h5:atF (l.drop 2) 4 0=⟨#[35]⟩
 ·rcases hk:countR (l.drop 2) with x | ⟨k,l'⟩
  ·rw [hc,if_pos (.inr h5)]
   simp only [go_sem,rdK,az,aM,aO,aL,xs2,xs1,xs0,aj,ae,Except.map,aD,aC,ao,ak,ai,ah,aF,opE,opV,Int.toNat_zero,Int.toNat_one,bQ,bP,cB,hz,hn,hA,hC,hl,Int.reduceToNat,h4,h5,rH,rG,hr,hk]
  ·rw [hc,if_pos (.inr h5)]
   simp only [go_sem,rdK,az,aM,aO,aL,xs2,xs1,xs0,aj,ae,Except.map,aD,aC,ao,ak,ai,ah,aF,opE,opV,Int.toNat_zero,Int.toNat_one,bQ,bP,cB,hz,hn,hA,hC,hl,Int.reduceToNat,h4,h5,rH,rG,hr,hk]
   exact bZ rfl rfl
 ·rw [hc,if_neg (fun h=>h.elim h4 h5)]
  simp only [go_sem,rdK,az,aM,aO,aL,xs2,xs1,xs0,aj,ae,Except.map,aD,aC,ao,ak,ai,ah,aF,opE,opV,Int.toNat_zero,Int.toNat_one,bQ,bP,cB,hz,hn,hA,hC,hl,Int.reduceToNat,h4,h5]
  exact bZ rfl rfl
def kH:bq Tryz.prog 110 :=
 sT _ _ _ Tryz.func110 rfl (fun _ _=>by go_simp) (fk) ((fun _ l=>RdOk l)) ((fun x l=>(changedR x.1 x.2.1 x.2.2 l).map fun (p:OpV×List Tok)=>(opV p.1,p.2))) (by rw [Tryz.ntmps110];decide) (fun x l h=>Du x.1 x.2.1 x.2.2 l h)
theorem aB {id:Nat} {h:ag} {args:List AV}:(kH).run id h args=mj 1 (az (fk) ((fun _ l=>RdOk l))) (fun x=>cU (((fun x l=>(changedR x.1 x.2.1 x.2.2 l).map fun (p:OpV×List Tok)=>(opV p.1,p.2))) x.1 x.2)) id h args:=rfl
theorem aA {id:Nat} {h:ag} {args:List AV}:(kH).pan id h args=lp (az (fk) ((fun _ l=>RdOk l))) (fun x=>cU (((fun x l=>(changedR x.1 x.2.1 x.2.2 l).map fun (p:OpV×List Tok)=>(opV p.1,p.2))) x.1 x.2)) h args:=rfl
theorem yK {s:ByteArray} {j:Nat} {kd k:Int} (hj:jY[j]? = some (kd,k)):rsvdF s (jY.drop j)=if (ap 3 kd s).2=0 then some (ju k (ap 3 kd s).1) else rsvdF s (jY.drop (j+1)):=by
 have hlt:=(List.getElem?_eq_some_iff.1 hj).1
 rw [List.drop_eq_getElem_cons hlt]
 rw [List.getElem?_eq_getElem hlt] at hj
 injection hj with hj
 rw [hj,rsvdF]
theorem vI (k n:Int):opV (ju k n)=.s (.agg [.v (.int .i64 k),.v (.int .i64 0),.v (.bool false),.v (.bool false),.v (.int .i64 0),.v (.bool false),.v (.bool false),.v (.int .i64 0),.v (.int .i64 0),.v (.int .i64 n),.v (.int .i64 0),.v (.string ⟨#[]⟩),.v (.string ⟨#[]⟩),.v (.bool false),.v (.int .i64 0)]):=rfl
theorem Cw (s:ByteArray) (l:List Tok) (hs:s.size≤1099511627776) (hl:1≤l.length):SW Tryz.prog ⟨none,1⟩ Tryz.f115.ntmps (Tryz.f115.body.getD .skip) ⟨1,aw 0 [pv 0 0 0,sv s],cu 0 [rdK l]⟩ (ji Tryz.prog Tryz.f115.results.toList 1 (cU ((cJ s l).map fun p=>(opV p.1,p.2)))):=by
 refine ab (ctx:=[⟨_,eM⟩]) 4000 ?_
 rw [Tryz.ntmps115,Tryz.results115]
 simp only [Tryz.f115,Option.getD_some,aw]
 have hlI:(1:Int)≤l.length:=by omega
 simp only [go_sem,rdK,az,aM,aO,aL,xs2,xs1,xs0,aj,ae,Except.map,aD,aC,ao,ak,ai,ah]
 refine dG (ι:=Nat) (fun j=>j≤5∧rsvdF s (jY.drop j)=rsvdF s jY) (fun j=>⟨3,[(0,pv 0 0 0),(1,sv s),(4,pv 1 0 0),(9,.s (.l (.sl 2 0 5))),(10,iv 5),(11,iv j)],cu 0 [rdK l,⟨true,38,15,[[.v (.int .i64 0),.v (.int .i64 0),.v (.bool false),.v (.bool false),.v (.int .i64 0),.v (.bool false),.v (.bool false),.v (.int .i64 0),.v (.int .i64 0),.v (.int .i64 0),.v (.int .i64 0),.v (.string ⟨#[]⟩),.v (.string ⟨#[]⟩),.v (.bool false),.v (.int .i64 0)]]⟩,⟨true,3,1,[[.v (.int .i64 2)],[.v (.int .i64 4)],[.v (.int .i64 6)],[.v (.int .i64 7)],[.v (.int .i64 8)]]⟩]⟩) (fun j=>5-j) 0 ⟨Nat.zero_le _,rfl⟩ ?_ ?_
 ·exact Wk.renL [0,1,17] (by simp) (by simp) (by simp) rfl rfl
 rintro j ⟨hj,hR⟩
 refine ab (ctx:=[⟨_,oz⟩,⟨_,qD⟩,⟨_,eM⟩]) 4000 ?_
 have hlt:j=0∨j=1∨j=2∨j=3∨j=4∨j=5:=by omega
 have no:∀ {kd k:Int},jY[j]? = some (kd,k)→¬(ap 3 kd s).2=0→rsvdF s (jY.drop (j+1))=rsvdF s jY:=fun hk hn=>by
  rw [← hR,yK hk,if_neg hn]
 have yes:∀ {kd k n:Int},jY[j]? = some (kd,k)→ap 3 kd s=(n,0)→cJ s l=.ok (ju k n,l.drop 1):=fun hk hn=>by
  unfold cJ
  rw [← hR,yK hk,hn,if_pos rfl]
 rcases hlt with rfl | rfl | rfl | rfl | rfl | rfl
 ·obtain ⟨⟨n,e⟩,hn⟩:∃ p,ap 3 2 s=p:=⟨_,rfl⟩
  by_cases he:e=0
  ·subst he
   rw [yes rfl hn]
   simp only [go_sem,rdK,az,aM,aO,aL,xs2,xs1,xs0,aj,ae,Except.map,aD,aC,ao,ak,ai,ah,bQ,bP,cB,hs,hn,hlI,Int.reduceToNat,Int.toNat_one,Int.reduceAdd,vI]
   exact bZ rfl rfl
  ·simp only [go_sem,rdK,az,aM,aO,aL,xs2,xs1,xs0,aj,ae,Except.map,aD,aC,ao,ak,ai,ah,bQ,bP,cB,hs,hn,he,hlI,Int.reduceToNat,Int.toNat_one,Int.reduceAdd]
   exact ⟨1,⟨by omega,no rfl (by rw [hn];exact he)⟩,by omega,Wk.renL [0,1,2] (by simp) (by simp) (by simp) rfl rfl⟩
 ·obtain ⟨⟨n,e⟩,hn⟩:∃ p,ap 3 4 s=p:=⟨_,rfl⟩
  by_cases he:e=0
  ·subst he
   rw [yes rfl hn]
   simp only [go_sem,rdK,az,aM,aO,aL,xs2,xs1,xs0,aj,ae,Except.map,aD,aC,ao,ak,ai,ah,bQ,bP,cB,hs,hn,hlI,Int.reduceToNat,Int.toNat_one,Int.reduceAdd,vI]
   exact bZ rfl rfl
  ·simp only [go_sem,rdK,az,aM,aO,aL,xs2,xs1,xs0,aj,ae,Except.map,aD,aC,ao,ak,ai,ah,bQ,bP,cB,hs,hn,he,hlI,Int.reduceToNat,Int.toNat_one,Int.reduceAdd]
   exact ⟨2,⟨by omega,no rfl (by rw [hn];exact he)⟩,by omega,Wk.renL [0,1,2] (by simp) (by simp) (by simp) rfl rfl⟩
 ·obtain ⟨⟨n,e⟩,hn⟩:∃ p,ap 3 6 s=p:=⟨_,rfl⟩
  by_cases he:e=0
  ·subst he
   rw [yes rfl hn]
   simp only [go_sem,rdK,az,aM,aO,aL,xs2,xs1,xs0,aj,ae,Except.map,aD,aC,ao,ak,ai,ah,bQ,bP,cB,hs,hn,hlI,Int.reduceToNat,Int.toNat_one,Int.reduceAdd,vI]
   exact bZ rfl rfl
  ·simp only [go_sem,rdK,az,aM,aO,aL,xs2,xs1,xs0,aj,ae,Except.map,aD,aC,ao,ak,ai,ah,bQ,bP,cB,hs,hn,he,hlI,Int.reduceToNat,Int.toNat_one,Int.reduceAdd]
   exact ⟨3,⟨by omega,no rfl (by rw [hn];exact he)⟩,by omega,Wk.renL [0,1,2] (by simp) (by simp) (by simp) rfl rfl⟩
 ·obtain ⟨⟨n,e⟩,hn⟩:∃ p,ap 3 7 s=p:=⟨_,rfl⟩
  by_cases he:e=0
  ·subst he
   rw [yes rfl hn]
   simp only [go_sem,rdK,az,aM,aO,aL,xs2,xs1,xs0,aj,ae,Except.map,aD,aC,ao,ak,ai,ah,bQ,bP,cB,hs,hn,hlI,Int.reduceToNat,Int.toNat_one,Int.reduceAdd,vI]
   exact bZ rfl rfl
  ·simp only [go_sem,rdK,az,aM,aO,aL,xs2,xs1,xs0,aj,ae,Except.map,aD,aC,ao,ak,ai,ah,bQ,bP,cB,hs,hn,he,hlI,Int.reduceToNat,Int.toNat_one,Int.reduceAdd]
   exact ⟨4,⟨by omega,no rfl (by rw [hn];exact he)⟩,by omega,Wk.renL [0,1,2] (by simp) (by simp) (by simp) rfl rfl⟩
 ·obtain ⟨⟨n,e⟩,hn⟩:∃ p,ap 3 8 s=p:=⟨_,rfl⟩
  by_cases he:e=0
  ·subst he
   rw [yes rfl hn]
   simp only [go_sem,rdK,az,aM,aO,aL,xs2,xs1,xs0,aj,ae,Except.map,aD,aC,ao,ak,ai,ah,bQ,bP,cB,hs,hn,hlI,Int.reduceToNat,Int.toNat_one,Int.reduceAdd,vI]
   exact bZ rfl rfl
  ·simp only [go_sem,rdK,az,aM,aO,aL,xs2,xs1,xs0,aj,ae,Except.map,aD,aC,ao,ak,ai,ah,bQ,bP,cB,hs,hn,he,hlI,Int.reduceToNat,Int.toNat_one,Int.reduceAdd]
   exact ⟨5,⟨by omega,no rfl (by rw [hn];exact he)⟩,by omega,Wk.renL [0,1,2] (by simp) (by simp) (by simp) rfl rfl⟩
 ·have e:cJ s l=.error 100:=by
   unfold cJ
   rw [← hR]
   rfl
  rw [e]
  simp only [go_sem,rdK,az,aM,aO,aL,xs2,xs1,xs0,aj,ae,Except.map,aD,aC,ao,ak,ai,ah]
def LQ:bq Tryz.prog 115 :=
 sT _ _ _ Tryz.func115 rfl (fun _ _=>by go_simp) (aL) ((fun s l=>s.size≤1099511627776∧1≤l.length)) ((fun s l=>(cJ s l).map fun (p:OpV×List Tok)=>(opV p.1,p.2))) (by rw [Tryz.ntmps115];decide) (fun s l h=>Cw s l h.1 h.2)
theorem dw {id:Nat} {h:ag} {args:List AV}:(LQ).run id h args=mj 1 (az (aL) ((fun s l=>s.size≤1099511627776∧1≤l.length))) (fun x=>cU (((fun s l=>(cJ s l).map fun (p:OpV×List Tok)=>(opV p.1,p.2))) x.1 x.2)) id h args:=rfl
theorem dv {id:Nat} {h:ag} {args:List AV}:(LQ).pan id h args=lp (az (aL) ((fun s l=>s.size≤1099511627776∧1≤l.length))) (fun x=>cU (((fun s l=>(cJ s l).map fun (p:OpV×List Tok)=>(opV p.1,p.2))) x.1 x.2)) h args:=rfl
end Go.Proofs.YthcoegkfpinlfaaGreatDoor
