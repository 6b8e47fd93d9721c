/- The statement of AliasOwn: called with any two instructions the law returns true, and the arguments read as before. No condition. -/
import Derived.Test.YtpjlafmhoifkmaaGreatN49
import Derived.Test.YtpjlafmhoifkmaaGreatN46
import Derived.Test.YtpjlafmhoifkmaaGreatN32
import Derived.Test.YtpjlafmhoifkmaaGreatN41
import Derived.Test.YtpjlafmhoifkmaaGreatN30
import Derived.Test.YtpjlafmhoifkmaaGreatRows
import Derived.ProofKit
import Derived.OpenShut
import Derived.ShutString
import Derived.ChangeOld
import Derived.SizedLaws
import Derived.Lib.SmallJoins
import Derived.ChangeSame
set_option linter.unusedVariables false
set_option linter.unusedSimpArgs false
set_option maxRecDepth 100000
set_option maxHeartbeats 8000000
namespace Go.Proofs.YtpjlafmhoifkmaaGreat
section
open Go.RowKit
theorem mc (x:Ins) (l:List OpV):(bS x l).length=l.length:=by
 unfold bS
 split
 ·rfl
 ·rw [List.length_set]
theorem GA (x:Ins):(d8 x).2.length≤1000:=by unfold d8;(repeat' split)<;>exact Nat.le_of_ble_eq_true rfl
theorem IW (x:Ins):(brF x).2.length≤1000:=by unfold brF;(repeat' split)<;>exact Nat.le_of_ble_eq_true rfl
theorem Fm (x:Ins):(cY x).2.length≤1000:=by unfold cY lY;(repeat' split)<;>exact Nat.le_of_ble_eq_true rfl
theorem JG (x:Ins):(ldF x).2.length≤1000:=by
 unfold ldF te ic exL trL
 repeat' split
 all_goals first | exact Nat.le_of_ble_eq_true rfl | (simp only [List.length_append];(repeat' split)<;>exact Nat.le_of_ble_eq_true rfl)
theorem tC (x:Ins):(bx x).2.length≤1000:=by
 unfold bx
 repeat' split
 all_goals first | exact Nat.le_of_ble_eq_true rfl | (simp only [mc];exact Nat.le_of_ble_eq_true rfl)
theorem GK (x:Ins):(bG x).2.length≤1000:=by
 unfold bG fM
 repeat' split
 all_goals exact Nat.le_of_ble_eq_true rfl
theorem je (x:Ins):(aj x).2.length≤1000:=by
 unfold aj
 split
 ·exact GA x
 split
 ·exact IW x
 split
 ·exact Fm x
 split
 ·exact JG x
 split
 ·exact tC x
 ·exact GK x
def sM:AlV→Prop
 | .no=>True
 | .ln r _=>r.2.length≤1000
theorem BT (o:Option cG) (h:∀ r,o=some r→r.2.length≤1000):sM (ofO o):=by
 cases o with
 | none=>trivial
 | some r=>exact h r rfl
theorem u5 (a b:ByteArray) (w:Int) (s:Bool) (x:Ins):(cx a b w s x).2.length≤1000:=by
 unfold cx
 cases s<;>split<;>exact Nat.le_of_ble_eq_true rfl
theorem Hh (x:Ins):(ny x).2.length≤1000:=by
 unfold ny
 repeat' split
 all_goals first | exact u5 _ _ _ _ _ | exact Nat.le_of_ble_eq_true rfl
theorem Ek {x:Ins} {r:cG} (h:ft x=some r):r.2.length≤1000:=by
 unfold ft at h
 by_cases h1:x.b=3∧x.rd=31
 ·rw [if_pos h1] at h
  injection h with h
  subst h
  exact Nat.le_of_ble_eq_true rfl
 rw [if_neg h1] at h
 by_cases h2:x.b=1∧x.rn=31
 ·rw [if_pos h2] at h
  dsimp only at h
  split at h
  ·cases h
  ·injection h with h
   subst h
   exact Nat.le_of_ble_eq_true rfl
 ·rw [if_neg h2] at h
  cases h
theorem fv {c:Prop} [Decidable c] {a b:AlV} (h1:sM a) (h2:sM b):sM (if c then a else b):=by
 split
 ·exact h1
 ·exact h2
theorem FR (x:Ins):sM (alA x):=by
 unfold alA
 refine fv ?_ ?_
 ·unfold eG;(repeat' split)<;>first | trivial | exact Nat.le_of_ble_eq_true rfl
 refine fv ?_ ?_
 ·refine BT _ fun r h=>?_
  exact Ek h
 refine fv ?_ ?_
 ·refine BT _ fun r h=>?_
  unfold fL at h
  repeat' split at h
  all_goals first | (injection h with h;subst h;exact Nat.le_of_ble_eq_true rfl) | cases h
 refine fv ?_ ?_
 ·exact Hh x
 refine fv ?_ ?_
 ·exact Nat.le_of_ble_eq_true rfl
 refine fv ?_ ?_
 ·unfold eH;(repeat' split)<;>first | trivial | exact Nat.le_of_ble_eq_true rfl | (show List.length _≤1000;simp only [mc];exact Nat.le_of_ble_eq_true rfl)
 refine fv ?_ ?_
 ·unfold dw;(repeat' split)<;>first | trivial | exact Nat.le_of_ble_eq_true rfl | (show List.length _≤1000;simp only [mc];exact Nat.le_of_ble_eq_true rfl)
 refine fv ?_ ?_
 ·have hs:=tC x
  unfold eJ
  simp only []
  repeat' split
  all_goals first | exact hs | exact Nat.le_of_ble_eq_true rfl | (show List.length _≤1000;unfold tg;rw [List.length_set];first | exact hs | exact Nat.le_of_ble_eq_true rfl)
 refine fv ?_ ?_
 ·unfold iV;(repeat' split)<;>first | trivial | exact Nat.le_of_ble_eq_true rfl
 refine fv ?_ ?_
 ·exact Nat.le_of_ble_eq_true rfl
 refine fv ?_ ?_
 ·have hp:=je x
  unfold gU
  split
  ·exact hp
  ·show List.length _≤1000
   rw [List.length_take]
   omega
 ·unfold mI;(repeat' split)<;>first | trivial | exact Nat.le_of_ble_eq_true rfl | (show List.length _≤1000;unfold lY;exact Nat.le_of_ble_eq_true rfl)
theorem EG (x:Ins):(lnF x).2.length≤1000:=by
 have h:=FR x
 unfold lnF
 cases hr:alA x with
 | no=>exact je x
 | ln r b =>
  rw [hr] at h
  cases b
  ·exact je x
  ·exact h
theorem G5 (n:ByteArray) (l:List OpV):tLn.dec (.s (.agg [.v (.string n),.d (.sd 15 (l.map opE))]))=some (n,l):=by
 show (eQ opR.dec _).map _=_
 rw [mZ]
 rfl
theorem tLn_nil (n:ByteArray):tLn.dec (.s (.agg [.v (.string n),.v (.slice none 0 0)]))=some (n,[]):=rfl
theorem yz {x y:Operand} {a b:Bool}:jO Tryz.prog (do eqGuard .eql 4 x y (.bool a) (.bool b);binOp .eql 4 (.bool a) (.bool b))=some (.bool (a==b)):=by
  refine lZ fun w=>?_
  have h2:(eqGuard .eql 4 x y (.bool a) (.bool b)).run Tryz.prog w=.ok () w:=by first | rfl | (cases x<;>cases y<;>rfl) | go_simp
  rw [Sem.run_bind,h2,Result.andThen_ok,show binOp .eql 4 (.bool a) (.bool b)=(do pure (.bool (← Op.equal 4 (.bool a) (.bool b)))) from rfl,Sem.run_bind,run_equal_bool _ _ _ _ Tryz.underlying4]
  rfl
theorem eqI (x y:Ins):fK [1,2,2,1,1,1,1,1,1,1] [.int .i64 x.op,.bool x.x,.bool x.s,.int .i64 x.rd,.int .i64 x.rn,.int .i64 x.rm,.int .i64 x.ra,.int .i64 x.a,.int .i64 x.b,.int .i64 x.c] [.int .i64 y.op,.bool y.x,.bool y.s,.int .i64 y.rd,.int .i64 y.rn,.int .i64 y.rm,.int .i64 y.ra,.int .i64 y.a,.int .i64 y.b,.int .i64 y.c]=some (decide (x=y)):=by
 obtain ⟨o1,a1,a2,a3,a4,a5,a6,a7,a8,a9⟩:=x
 obtain ⟨o2,b1,b2,b3,b4,b5,b6,b7,b8,b9⟩:=y
 simp [fK]
theorem xq {a b:cG} {x y:Ins} (h:a=b↔x=y):ku a b=decide (x=y):=by
 unfold ku
 by_cases e:x=y
 ·rw [decide_eq_true e,decide_eq_true (h.2 e)]
 ·rw [decide_eq_false e,decide_eq_false fun f=>e (h.1 f)]
theorem ER (x y:Ins):SW Tryz.prog ⟨none,0⟩ Tryz.f5.ntmps (Tryz.f5.body.getD .skip) ⟨0,ag 0 [(am ae).enc x,(am ae).enc y],[]⟩ (aH Tryz.prog Tryz.f5.results.toList (.ret (bv true))):=by
 refine aa (ctx:=[⟨_,BC⟩,⟨_,rK⟩,⟨_,rk⟩,⟨_,vR⟩,⟨_,wW⟩]) 4000 ?_
 rw [Tryz.ntmps5,Tryz.results5]
 simp only [Tryz.f5,Option.getD_some,ag]
 by_cases hx:ao x=0
 case neg =>
  have h40:=j3 hx
  simp only [go_sem,ae,pi,oj,kW,kK,h40]
 by_cases hy:ao y=0
 case neg =>
  have h40:=j3 hy
  simp only [go_sem,ae,pi,oj,kW,kK,hx,h40]
 have s1:=xq (xN hx hy)
 have s2:=xq (Ee hx hy)
 have hl1:=je x
 have hl3:=EG x
 have e1:plO x=lnO (aj x):=by unfold plO;rw [if_pos hx]
 have e2:plO y=lnO (aj y):=by unfold plO;rw [if_pos hy]
 have e3:oF x=lnO (lnF x):=by unfold oF;rw [if_pos hx]
 have e4:oF y=lnO (lnF y):=by unfold oF;rw [if_pos hy]
 have eq:=eqI x y
 obtain ⟨D,hD⟩:∃ D:Bool,decide (x=y)=D:=⟨_,rfl⟩
 rw [hD] at s1 s2 eq
 obtain ⟨r1,h1⟩:∃ r,aj x=r:=⟨_,rfl⟩
 obtain ⟨r2,h2⟩:∃ r,aj y=r:=⟨_,rfl⟩
 obtain ⟨r3,h3⟩:∃ r,lnF x=r:=⟨_,rfl⟩
 obtain ⟨r4,h4⟩:∃ r,lnF y=r:=⟨_,rfl⟩
 rw [h1] at s1 hl1 e1
 rw [h2] at s1 e2
 rw [h3] at s2 hl3 e3
 rw [h4] at s2 e4
 clear h1 h2 h3 h4 hD
 obtain ⟨n1,l1⟩:=r1
 obtain ⟨n2,l2⟩:=r2
 obtain ⟨n3,l3⟩:=r3
 obtain ⟨n4,l4⟩:=r4
 simp only [go_sem,ae,pi,oj,kW,kK,hx,hy,wh,ws,yW,zV,e1,e2,e3,e4,lnO]
 refine aI (ctx:=[⟨_,wW⟩]) ax [] (by kernel_rfl) ?_
 simp only [go_sem,↓yz,ae,C7,Cv,G5,s1,s2,hl1,hl3,iu,mu,kM,oC,eq,beq_self_eq_true]
end
section
open Go.ChangeShapes Go.WideShapes Go.ChangeAt Go.RowKit Go.Joins
theorem Kk:ownKnob Tryz.prog.godebug=none:=by kernel_rfl
theorem xb:laidOutB Tryz.prog=true:=by kernel_rfl
theorem DU {α:Type} {l:List α} (h:l.length=10):∃ c0 c1 c2 c3 c4 c5 c6 c7 c8 c9,l=[c0,c1,c2,c3,c4,c5,c6,c7,c8,c9]:=by
 match l,h with
 | [c0,c1,c2,c3,c4,c5,c6,c7,c8,c9],_=>exact ⟨c0,c1,c2,c3,c4,c5,c6,c7,c8,c9,rfl⟩
def Ins.cells (x:Ins):List Value:=[.int .i64 x.op,.bool x.x,.bool x.s,.int .i64 x.rd,.int .i64 x.rn,.int .i64 x.rm,.int .i64 x.ra,.int .i64 x.a,.int .i64 x.b,.int .i64 x.c]
theorem zd:Tryz.prog.cellsOf 27=10:=by kernel_rfl
theorem ly:Tryz.prog.cellsOf 3=1:=by kernel_rfl
theorem rN:Tryz.prog.cellsOf 2=1:=by kernel_rfl
theorem tT:Tryz.prog.cellsOf 4=1:=by kernel_rfl
theorem qi {H:Type} {enc:TypeId×Value→H} {w:World} {base:Nat} {spare:Nat→Bool} {held:Bool} {r:Reach} {b0:Nat} {v:Value} {d:DataW H} {p:List MemPlace}
  (hv:Value.okWide Tryz.prog w r b0 27 v) (h:DataW.Trod enc Tryz.prog w base spare held 27 v d p):∃ x:Ins,v=.agg x.cells.toArray:=by
 obtain ⟨cs,rfl,hsz⟩:=okWide_struct Tryz.underlying27 hv
 obtain ⟨fuel,hf⟩:=h
 obtain ⟨xs,m,rfl,hD,hl,hx,hf⟩:=DataW.trod_struct Tryz.underlying27 hf
 clear hD hl
 rw [zd] at hsz
 obtain ⟨l⟩:=cs
 obtain ⟨c0,c1,c2,c3,c4,c5,c6,c7,c8,c9,rfl⟩:=DU (l:=l) hsz
 obtain ⟨y0,y1,y2,y3,y4,y5,y6,y7,y8,y9,rfl⟩:=DU (l:=xs) hx
 have f0:DataW.trod enc Tryz.prog w base spare held m 3 (([c0,c1,c2,c3,c4,c5,c6,c7,c8,c9].drop 0).take (Tryz.prog.cellsOf 3))=some y0:=hf 0 _ rfl
 have f1:DataW.trod enc Tryz.prog w base spare held m 4 (([c0,c1,c2,c3,c4,c5,c6,c7,c8,c9].drop 1).take (Tryz.prog.cellsOf 4))=some y1:=hf 1 _ rfl
 have f2:DataW.trod enc Tryz.prog w base spare held m 4 (([c0,c1,c2,c3,c4,c5,c6,c7,c8,c9].drop 2).take (Tryz.prog.cellsOf 4))=some y2:=hf 2 _ rfl
 have f3:DataW.trod enc Tryz.prog w base spare held m 3 (([c0,c1,c2,c3,c4,c5,c6,c7,c8,c9].drop 3).take (Tryz.prog.cellsOf 3))=some y3:=hf 3 _ rfl
 have f4:DataW.trod enc Tryz.prog w base spare held m 3 (([c0,c1,c2,c3,c4,c5,c6,c7,c8,c9].drop 4).take (Tryz.prog.cellsOf 3))=some y4:=hf 4 _ rfl
 have f5:DataW.trod enc Tryz.prog w base spare held m 3 (([c0,c1,c2,c3,c4,c5,c6,c7,c8,c9].drop 5).take (Tryz.prog.cellsOf 3))=some y5:=hf 5 _ rfl
 have f6:DataW.trod enc Tryz.prog w base spare held m 3 (([c0,c1,c2,c3,c4,c5,c6,c7,c8,c9].drop 6).take (Tryz.prog.cellsOf 3))=some y6:=hf 6 _ rfl
 have f7:DataW.trod enc Tryz.prog w base spare held m 2 (([c0,c1,c2,c3,c4,c5,c6,c7,c8,c9].drop 7).take (Tryz.prog.cellsOf 2))=some y7:=hf 7 _ rfl
 have f8:DataW.trod enc Tryz.prog w base spare held m 2 (([c0,c1,c2,c3,c4,c5,c6,c7,c8,c9].drop 8).take (Tryz.prog.cellsOf 2))=some y8:=hf 8 _ rfl
 have f9:DataW.trod enc Tryz.prog w base spare held m 2 (([c0,c1,c2,c3,c4,c5,c6,c7,c8,c9].drop 9).take (Tryz.prog.cellsOf 2))=some y9:=hf 9 _ rfl
 clear hf
 rw [ly] at f0
 rw [tT] at f1
 rw [tT] at f2
 rw [ly] at f3
 rw [ly] at f4
 rw [ly] at f5
 rw [ly] at f6
 rw [rN] at f7
 rw [rN] at f8
 rw [rN] at f9
 obtain ⟨v0,e0,-,-⟩:=DataW.trod_int Tryz.underlying3 (show DataW.trod enc Tryz.prog w base spare held m 3 [c0]=some y0 from f0)
 obtain ⟨v1,e1,-⟩:=DataW.trod_bool Tryz.underlying4 (show DataW.trod enc Tryz.prog w base spare held m 4 [c1]=some y1 from f1)
 obtain ⟨v2,e2,-⟩:=DataW.trod_bool Tryz.underlying4 (show DataW.trod enc Tryz.prog w base spare held m 4 [c2]=some y2 from f2)
 obtain ⟨v3,e3,-,-⟩:=DataW.trod_int Tryz.underlying3 (show DataW.trod enc Tryz.prog w base spare held m 3 [c3]=some y3 from f3)
 obtain ⟨v4,e4,-,-⟩:=DataW.trod_int Tryz.underlying3 (show DataW.trod enc Tryz.prog w base spare held m 3 [c4]=some y4 from f4)
 obtain ⟨v5,e5,-,-⟩:=DataW.trod_int Tryz.underlying3 (show DataW.trod enc Tryz.prog w base spare held m 3 [c5]=some y5 from f5)
 obtain ⟨v6,e6,-,-⟩:=DataW.trod_int Tryz.underlying3 (show DataW.trod enc Tryz.prog w base spare held m 3 [c6]=some y6 from f6)
 obtain ⟨v7,e7,-,-⟩:=DataW.trod_int Tryz.underlying2 (show DataW.trod enc Tryz.prog w base spare held m 2 [c7]=some y7 from f7)
 obtain ⟨v8,e8,-,-⟩:=DataW.trod_int Tryz.underlying2 (show DataW.trod enc Tryz.prog w base spare held m 2 [c8]=some y8 from f8)
 obtain ⟨v9,e9,-,-⟩:=DataW.trod_int Tryz.underlying2 (show DataW.trod enc Tryz.prog w base spare held m 2 [c9]=some y9 from f9)
 injection e0 with e0
 injection e1 with e1
 injection e2 with e2
 injection e3 with e3
 injection e4 with e4
 injection e5 with e5
 injection e6 with e6
 injection e7 with e7
 injection e8 with e8
 injection e9 with e9
 subst e0 e1 e2 e3 e4 e5 e6 e7 e8 e9
 exact ⟨⟨v0,v1,v2,v3,v4,v5,v6,v7,v8,v9⟩,rfl⟩
theorem Df (x y:Ins) (w:World) :
  Calls Tryz.prog 5 #[.agg x.cells.toArray,.agg y.cells.toArray] w fun e w'=>e=.returned (.bool true)∧Below w.heap.size w w':=by
 have hA:AsRep ρ0 (al0 fun b o=>w.cell? ⟨b,o,none⟩) [(am ae).enc x,(am ae).enc y] [.agg x.cells.toArray,.agg y.cells.toArray] :=
  ⟨⟨x.cells,rfl,rfl,rfl,rfl,rfl,rfl,rfl,rfl,rfl,rfl,rfl,rfl,rfl,rfl,rfl,rfl,rfl,rfl,rfl,rfl,rfl,trivial⟩,⟨y.cells,rfl,rfl,rfl,rfl,rfl,rfl,rfl,rfl,rfl,rfl,rfl,rfl,rfl,rfl,rfl,rfl,rfl,rfl,rfl,rfl,rfl,trivial⟩,trivial⟩
 exact yZ Tryz.func5 rfl trivial hA (by rw [Tryz.ntmps5];show 2≤75;decide) (ER x y)
theorem law2.lifted (os:Os) (started:os.Started) (H:Type) (enc:TypeId×Value→H) :
  ReturnsInHanded {} Tryz.checked os 5 .any (Rows.aliasOwnSpec.pre6 enc Tryz.prog Tryz.f5 Rows.aliasOwnRow.domain false) (Rows.aliasOwnSpec.post enc Tryz.prog Tryz.f5 false true false false):=by
 refine returnsInHanded_of_change_sized (C:=Tryz.checked) Kk started (by kernel_rfl) Tryz.func5
  (ChangeSpec.witness6 (enc:=enc) (C:=Tryz.checked) false ⟨#[],#[.agg #[.int .i64 0,.bool false,.bool false,.int .i64 0,.int .i64 0,.int .i64 0,.int .i64 0,.int .i64 0,.int .i64 0,.int .i64 0],.agg #[.int .i64 0,.bool false,.bool false,.int .i64 0,.int .i64 0,.int .i64 0,.int .i64 0,.int .i64 0,.int .i64 0,.int .i64 0]],[]⟩ 8 (by kernel_rfl) (by kernel_rfl) (by kernel_rfl) (by kernel_rfl)) ?_
 intro W base args ds gs before hval0 hW hcnd hsz0 _
 have hval:∀ (j:Nat) t v,Tryz.f5.params[j]? = some t→args[j]? = some v→Value.okWide Tryz.prog W .any base t v:=hval0
 have hW':=hW
 obtain ⟨p,q,hA0,hV,rfl,hfz,hnd⟩:=hW
 have hA:DataW.TrodAll enc Tryz.prog W 0 (fun _=>true) true Tryz.f5.params.toList args.toList ds p:=hA0
 rw [Tryz.params5] at hA hval
 obtain ⟨v0,vs0,d0,ds0,p0,q0,hargs,rfl,rfl,h0,r0⟩:=trodAll_cons hA
 obtain ⟨v1,vs1,d1,ds1,p1,q1,rfl,rfl,rfl,h1,r1⟩:=trodAll_cons r0
 obtain ⟨rfl,rfl,rfl⟩:=trodAll_nil r1
 obtain rfl:args = #[v0,v1]:=by cases args;simp_all
 obtain ⟨rfl,rfl⟩:=trodVars_none hV
 have k0:=h0
 have lt0:∀ x∈p0,x.block<W.heap.size:=by obtain ⟨m,hm⟩:=k0;exact DataW.trod_lt m _ _ _ hm
 have k1:=h1
 have lt1:∀ x∈p1,x.block<W.heap.size:=by obtain ⟨m,hm⟩:=k1;exact DataW.trod_lt m _ _ _ hm
 obtain ⟨x,rfl⟩:=qi (hval 0 27 v0 rfl rfl) h0
 obtain ⟨y,rfl⟩:=qi (hval 1 27 v1 rfl rfl) h1
 clear hA0 hval0 hsz0
 refine (Df x y W).mono fun e W' ⟨he,bel⟩=>?_
 subst he
 exact ⟨_,rfl,_,_,_,[],_,[],hW',trodAll_mk1 (shut_bool Tryz.underlying4 _),(trodAll_cons_mk (Below.trod xb (by kernel_rfl) (of_decide_eq_true (by kernel_rfl)) k0 bel lt0) (trodAll_cons_mk (Below.trod xb (by kernel_rfl) (of_decide_eq_true (by kernel_rfl)) k1 bel lt1) trodAll_mk0)),rfl,bel.frame _,fun h=>by cases h⟩
theorem own_holds:Rows.AliasOwnSaid :=
 OpenClaim.holds_of_wide 5 Tryz.f5 rfl rfl rfl rfl rfl rfl rfl ⟨rfl,rfl,rfl,rfl,rfl⟩ rfl rfl rfl rfl rfl (by kernel_rfl) Tryz.func5 (by kernel_rfl)
  (of_decide_eq_true (by kernel_rfl)) (by unfold Func.isWrapper;first | (rw [if_pos (by decide +kernel)];kernel_rfl) | (rw [if_neg (by decide +kernel)];exact ⟨rfl,rfl⟩))
  (fun os started H enc _=>law2.lifted os started H enc)
#print axioms own_holds
end
end Go.Proofs.YtpjlafmhoifkmaaGreat
