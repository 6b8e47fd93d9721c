/- The statement of AliasLines: called with any two instructions the law returns true, and the arguments read as before. No condition. -/
import Derived.Test.YtpjlafmhoifkmaaGreatM55
import Derived.Test.YtpjlafmhoifkmaaGreatM30
import Derived.Test.YtpjlafmhoifkmaaGreatM41
import Derived.Test.YtpjlafmhoifkmaaGreatRows
import Derived.ProofKit
import Derived.OpenShut
import Derived.ShutString
import Derived.ChangeOld
import Derived.SizedLaws
import Derived.Lib.SmallJoins
import Derived.ChangeSame
set_option linter.unusedVariables false
set_option linter.unusedSimpArgs false
set_option maxRecDepth 100000
set_option maxHeartbeats 8000000
namespace Go.Proofs.YtpjlafmhoifkmaaGreat
section
open Go.RowKit
theorem oZ (x:Ins) (l:List OpV):(cK x l).length=l.length:=by
 unfold cK
 split
 ·rfl
 ·rw [List.length_set]
theorem IA (x:Ins):(fY x).2.length≤1000:=by unfold fY;(repeat' split)<;>exact Nat.le_of_ble_eq_true rfl
theorem Nc (x:Ins):(brF x).2.length≤1000:=by unfold brF;(repeat' split)<;>exact Nat.le_of_ble_eq_true rfl
theorem HV (x:Ins):(dT x).2.length≤1000:=by unfold dT li;(repeat' split)<;>exact Nat.le_of_ble_eq_true rfl
theorem LP (x:Ins):(ldF x).2.length≤1000:=by
 unfold ldF wy kg exL trL
 repeat' split
 all_goals first | exact Nat.le_of_ble_eq_true rfl | (simp only [List.length_append];(repeat' split)<;>exact Nat.le_of_ble_eq_true rfl)
theorem vC (x:Ins):(bP x).2.length≤1000:=by
 unfold bP
 repeat' split
 all_goals first | exact Nat.le_of_ble_eq_true rfl | (simp only [oZ];exact Nat.le_of_ble_eq_true rfl)
theorem Hy (x:Ins):(bM x).2.length≤1000:=by
 unfold bM jv
 repeat' split
 all_goals exact Nat.le_of_ble_eq_true rfl
theorem nB (x:Ins):(bz x).2.length≤1000:=by
 unfold bz
 split
 ·exact IA x
 split
 ·exact Nc x
 split
 ·exact HV x
 split
 ·exact LP x
 split
 ·exact vC x
 ·exact Hy x
def wp:AlV→Prop
 | .no=>True
 | .ln r _=>r.2.length≤1000
theorem Ef (o:Option cE) (h:∀ r,o=some r→r.2.length≤1000):wp (ofO o):=by
 cases o with
 | none=>trivial
 | some r=>exact h r rfl
theorem zm (a b:ByteArray) (w:Int) (s:Bool) (x:Ins):(dy a b w s x).2.length≤1000:=by
 unfold dy
 cases s<;>split<;>exact Nat.le_of_ble_eq_true rfl
theorem JH (x:Ins):(o9 x).2.length≤1000:=by
 unfold o9
 repeat' split
 all_goals first | exact zm _ _ _ _ _ | exact Nat.le_of_ble_eq_true rfl
theorem Id {x:Ins} {r:cE} (h:io x=some r):r.2.length≤1000:=by
 unfold io at h
 by_cases h1:x.b=3∧x.rd=31
 ·rw [if_pos h1] at h
  injection h with h
  subst h
  exact Nat.le_of_ble_eq_true rfl
 rw [if_neg h1] at h
 by_cases h2:x.b=1∧x.rn=31
 ·rw [if_pos h2] at h
  dsimp only at h
  split at h
  ·cases h
  ·injection h with h
   subst h
   exact Nat.le_of_ble_eq_true rfl
 ·rw [if_neg h2] at h
  cases h
theorem iQ {c:Prop} [Decidable c] {a b:AlV} (h1:wp a) (h2:wp b):wp (if c then a else b):=by
 split
 ·exact h1
 ·exact h2
theorem IW (x:Ins):wp (alA x):=by
 unfold alA
 refine iQ ?_ ?_
 ·unfold gq;(repeat' split)<;>first | trivial | exact Nat.le_of_ble_eq_true rfl
 refine iQ ?_ ?_
 ·refine Ef _ fun r h=>?_
  exact Id h
 refine iQ ?_ ?_
 ·refine Ef _ fun r h=>?_
  unfold iH at h
  repeat' split at h
  all_goals first | (injection h with h;subst h;exact Nat.le_of_ble_eq_true rfl) | cases h
 refine iQ ?_ ?_
 ·exact JH x
 refine iQ ?_ ?_
 ·exact Nat.le_of_ble_eq_true rfl
 refine iQ ?_ ?_
 ·unfold gn;(repeat' split)<;>first | trivial | exact Nat.le_of_ble_eq_true rfl | (show List.length _≤1000;simp only [oZ];exact Nat.le_of_ble_eq_true rfl)
 refine iQ ?_ ?_
 ·unfold dw;(repeat' split)<;>first | trivial | exact Nat.le_of_ble_eq_true rfl | (show List.length _≤1000;simp only [oZ];exact Nat.le_of_ble_eq_true rfl)
 refine iQ ?_ ?_
 ·have hs:=vC x
  unfold gk
  simp only []
  repeat' split
  all_goals first | exact hs | exact Nat.le_of_ble_eq_true rfl | (show List.length _≤1000;unfold G0;rw [List.length_set];first | exact hs | exact Nat.le_of_ble_eq_true rfl)
 refine iQ ?_ ?_
 ·unfold kh;(repeat' split)<;>first | trivial | exact Nat.le_of_ble_eq_true rfl
 refine iQ ?_ ?_
 ·exact Nat.le_of_ble_eq_true rfl
 refine iQ ?_ ?_
 ·have hp:=nB x
  unfold kq
  split
  ·exact hp
  ·show List.length _≤1000
   rw [List.length_take]
   omega
 ·unfold mc;(repeat' split)<;>first | trivial | exact Nat.le_of_ble_eq_true rfl | (show List.length _≤1000;unfold li;exact Nat.le_of_ble_eq_true rfl)
theorem JR (x:Ins):(lnF x).2.length≤1000:=by
 have h:=IW x
 unfold lnF
 cases hr:alA x with
 | no=>exact nB x
 | ln r b =>
  rw [hr] at h
  cases b
  ·exact nB x
  ·exact h
theorem JX (n:ByteArray) (l:List OpV):tLn.dec (.s (.agg [.v (.string n),.d (.sd 15 (l.map opE))]))=some (n,l):=by
 show (gZ opR.dec _).map _=_
 rw [gy]
 rfl
theorem Hn (n:ByteArray):tLn.dec (.s (.agg [.v (.string n),.v (.slice none 0 0)]))=some (n,[]):=rfl
theorem tF {x y:Operand} {a b:Bool}:mp Tryz.prog (do eqGuard .eql 4 x y (.bool a) (.bool b);binOp .eql 4 (.bool a) (.bool b))=some (.bool (a==b)):=by
  refine ou fun w=>?_
  have h2:(eqGuard .eql 4 x y (.bool a) (.bool b)).run Tryz.prog w=.ok () w:=by first | rfl | (cases x<;>cases y<;>rfl) | go_simp
  rw [Sem.run_bind,h2,Result.andThen_ok,show binOp .eql 4 (.bool a) (.bool b)=(do pure (.bool (← Op.equal 4 (.bool a) (.bool b)))) from rfl,Sem.run_bind,run_equal_bool _ _ _ _ Tryz.underlying4]
  rfl
theorem sT (a:cE):jz a a=true:=decide_eq_true rfl
theorem lnn_some (x:Ins):(∃ n l,lV x=lnO (n,l)∧l.length≤1000)∨lV x=xY:=by
 unfold lV
 split
 ·exact .inl ⟨(lnF x).1,(lnF x).2,rfl,JR x⟩
 ·exact .inr rfl
theorem BL (x y:Ins):SW Tryz.prog ⟨none,0⟩ Tryz.f6.ntmps (Tryz.f6.body.getD .skip) ⟨0,ag 0 [(ai ac).enc x,(ai ac).enc y],[]⟩ (ax Tryz.prog Tryz.f6.results.toList (.ret (bv true))):=by
 refine aa (ctx:=[⟨_,FF⟩,⟨_,xG⟩,⟨_,tZ⟩,⟨_,Ah⟩,⟨_,qz⟩,⟨_,oi⟩,⟨_,l4⟩]) 4000 ?_
 rw [Tryz.ntmps6,Tryz.results6]
 simp only [Tryz.f6,Option.getD_some,ag]
 have sm:=sT
 rcases lnn_some x with ⟨n,l,ex,hl⟩ | ex<;>rcases lnn_some y with ⟨m,k,ey,hk⟩ | ey
 all_goals
  simp only [go_sem,↓tF,ac,D6,C5,Bt,CW,x5,zl,ex,ey,lnO,xY]
  refine aP (ctx:=[⟨_,Ah⟩,⟨_,qz⟩,⟨_,oi⟩,⟨_,l4⟩]) ak [] (by kernel_rfl) ?_
  simp only [go_sem,↓tF,ac,DS,FK,zo,ye,rI,rz,pR,pN,JX,Hn,sT,beq_self_eq_true,List.length_nil,Nat.zero_le,Nat.le_refl, *]
end
section
open Go.ChangeShapes Go.WideShapes Go.ChangeAt Go.RowKit Go.Joins
theorem Mp:ownKnob Tryz.prog.godebug=none:=by kernel_rfl
theorem Ak:laidOutB Tryz.prog=true:=by kernel_rfl
theorem Do {α:Type} {l:List α} (h:l.length=10):∃ c0 c1 c2 c3 c4 c5 c6 c7 c8 c9,l=[c0,c1,c2,c3,c4,c5,c6,c7,c8,c9]:=by
 match l,h with
 | [c0,c1,c2,c3,c4,c5,c6,c7,c8,c9],_=>exact ⟨c0,c1,c2,c3,c4,c5,c6,c7,c8,c9,rfl⟩
def Ins.cells (x:Ins):List Value:=[.int .i64 x.op,.bool x.x,.bool x.s,.int .i64 x.rd,.int .i64 x.rn,.int .i64 x.rm,.int .i64 x.ra,.int .i64 x.a,.int .i64 x.b,.int .i64 x.c]
theorem Cu:Tryz.prog.cellsOf 27=10:=by kernel_rfl
theorem ot:Tryz.prog.cellsOf 3=1:=by kernel_rfl
theorem tR:Tryz.prog.cellsOf 2=1:=by kernel_rfl
theorem vD:Tryz.prog.cellsOf 4=1:=by kernel_rfl
theorem sJ {H:Type} {enc:TypeId×Value→H} {w:World} {base:Nat} {spare:Nat→Bool} {held:Bool} {r:Reach} {b0:Nat} {v:Value} {d:DataW H} {p:List MemPlace}
  (hv:Value.okWide Tryz.prog w r b0 27 v) (h:DataW.Trod enc Tryz.prog w base spare held 27 v d p):∃ x:Ins,v=.agg x.cells.toArray:=by
 obtain ⟨cs,rfl,hsz⟩:=okWide_struct Tryz.underlying27 hv
 obtain ⟨fuel,hf⟩:=h
 obtain ⟨xs,m,rfl,hD,hl,hx,hf⟩:=DataW.trod_struct Tryz.underlying27 hf
 clear hD hl
 rw [Cu] at hsz
 obtain ⟨l⟩:=cs
 obtain ⟨c0,c1,c2,c3,c4,c5,c6,c7,c8,c9,rfl⟩:=Do (l:=l) hsz
 obtain ⟨y0,y1,y2,y3,y4,y5,y6,y7,y8,y9,rfl⟩:=Do (l:=xs) hx
 have f0:DataW.trod enc Tryz.prog w base spare held m 3 (([c0,c1,c2,c3,c4,c5,c6,c7,c8,c9].drop 0).take (Tryz.prog.cellsOf 3))=some y0:=hf 0 _ rfl
 have f1:DataW.trod enc Tryz.prog w base spare held m 4 (([c0,c1,c2,c3,c4,c5,c6,c7,c8,c9].drop 1).take (Tryz.prog.cellsOf 4))=some y1:=hf 1 _ rfl
 have f2:DataW.trod enc Tryz.prog w base spare held m 4 (([c0,c1,c2,c3,c4,c5,c6,c7,c8,c9].drop 2).take (Tryz.prog.cellsOf 4))=some y2:=hf 2 _ rfl
 have f3:DataW.trod enc Tryz.prog w base spare held m 3 (([c0,c1,c2,c3,c4,c5,c6,c7,c8,c9].drop 3).take (Tryz.prog.cellsOf 3))=some y3:=hf 3 _ rfl
 have f4:DataW.trod enc Tryz.prog w base spare held m 3 (([c0,c1,c2,c3,c4,c5,c6,c7,c8,c9].drop 4).take (Tryz.prog.cellsOf 3))=some y4:=hf 4 _ rfl
 have f5:DataW.trod enc Tryz.prog w base spare held m 3 (([c0,c1,c2,c3,c4,c5,c6,c7,c8,c9].drop 5).take (Tryz.prog.cellsOf 3))=some y5:=hf 5 _ rfl
 have f6:DataW.trod enc Tryz.prog w base spare held m 3 (([c0,c1,c2,c3,c4,c5,c6,c7,c8,c9].drop 6).take (Tryz.prog.cellsOf 3))=some y6:=hf 6 _ rfl
 have f7:DataW.trod enc Tryz.prog w base spare held m 2 (([c0,c1,c2,c3,c4,c5,c6,c7,c8,c9].drop 7).take (Tryz.prog.cellsOf 2))=some y7:=hf 7 _ rfl
 have f8:DataW.trod enc Tryz.prog w base spare held m 2 (([c0,c1,c2,c3,c4,c5,c6,c7,c8,c9].drop 8).take (Tryz.prog.cellsOf 2))=some y8:=hf 8 _ rfl
 have f9:DataW.trod enc Tryz.prog w base spare held m 2 (([c0,c1,c2,c3,c4,c5,c6,c7,c8,c9].drop 9).take (Tryz.prog.cellsOf 2))=some y9:=hf 9 _ rfl
 clear hf
 rw [ot] at f0
 rw [vD] at f1
 rw [vD] at f2
 rw [ot] at f3
 rw [ot] at f4
 rw [ot] at f5
 rw [ot] at f6
 rw [tR] at f7
 rw [tR] at f8
 rw [tR] at f9
 obtain ⟨v0,e0,-,-⟩:=DataW.trod_int Tryz.underlying3 (show DataW.trod enc Tryz.prog w base spare held m 3 [c0]=some y0 from f0)
 obtain ⟨v1,e1,-⟩:=DataW.trod_bool Tryz.underlying4 (show DataW.trod enc Tryz.prog w base spare held m 4 [c1]=some y1 from f1)
 obtain ⟨v2,e2,-⟩:=DataW.trod_bool Tryz.underlying4 (show DataW.trod enc Tryz.prog w base spare held m 4 [c2]=some y2 from f2)
 obtain ⟨v3,e3,-,-⟩:=DataW.trod_int Tryz.underlying3 (show DataW.trod enc Tryz.prog w base spare held m 3 [c3]=some y3 from f3)
 obtain ⟨v4,e4,-,-⟩:=DataW.trod_int Tryz.underlying3 (show DataW.trod enc Tryz.prog w base spare held m 3 [c4]=some y4 from f4)
 obtain ⟨v5,e5,-,-⟩:=DataW.trod_int Tryz.underlying3 (show DataW.trod enc Tryz.prog w base spare held m 3 [c5]=some y5 from f5)
 obtain ⟨v6,e6,-,-⟩:=DataW.trod_int Tryz.underlying3 (show DataW.trod enc Tryz.prog w base spare held m 3 [c6]=some y6 from f6)
 obtain ⟨v7,e7,-,-⟩:=DataW.trod_int Tryz.underlying2 (show DataW.trod enc Tryz.prog w base spare held m 2 [c7]=some y7 from f7)
 obtain ⟨v8,e8,-,-⟩:=DataW.trod_int Tryz.underlying2 (show DataW.trod enc Tryz.prog w base spare held m 2 [c8]=some y8 from f8)
 obtain ⟨v9,e9,-,-⟩:=DataW.trod_int Tryz.underlying2 (show DataW.trod enc Tryz.prog w base spare held m 2 [c9]=some y9 from f9)
 injection e0 with e0
 injection e1 with e1
 injection e2 with e2
 injection e3 with e3
 injection e4 with e4
 injection e5 with e5
 injection e6 with e6
 injection e7 with e7
 injection e8 with e8
 injection e9 with e9
 subst e0 e1 e2 e3 e4 e5 e6 e7 e8 e9
 exact ⟨⟨v0,v1,v2,v3,v4,v5,v6,v7,v8,v9⟩,rfl⟩
theorem Gf (x y:Ins) (w:World) :
  Calls Tryz.prog 6 #[.agg x.cells.toArray,.agg y.cells.toArray] w fun e w'=>e=.returned (.bool true)∧Below w.heap.size w w':=by
 have hA:AsRep ρ0 (al0 fun b o=>w.cell? ⟨b,o,none⟩) [(ai ac).enc x,(ai ac).enc y] [.agg x.cells.toArray,.agg y.cells.toArray] :=
  ⟨⟨x.cells,rfl,rfl,rfl,rfl,rfl,rfl,rfl,rfl,rfl,rfl,rfl,rfl,rfl,rfl,rfl,rfl,rfl,rfl,rfl,rfl,rfl,trivial⟩,⟨y.cells,rfl,rfl,rfl,rfl,rfl,rfl,rfl,rfl,rfl,rfl,rfl,rfl,rfl,rfl,rfl,rfl,rfl,rfl,rfl,rfl,rfl,trivial⟩,trivial⟩
 exact C2 Tryz.func6 rfl trivial hA (by rw [Tryz.ntmps6];show 2≤54;decide) (BL x y)
theorem law2.lifted (os:Os) (started:os.Started) (H:Type) (enc:TypeId×Value→H) :
  ReturnsInHanded {} Tryz.checked os 6 .any (Rows.aliasLinesSpec.pre6 enc Tryz.prog Tryz.f6 Rows.aliasLinesRow.domain false) (Rows.aliasLinesSpec.post enc Tryz.prog Tryz.f6 false true false false):=by
 refine returnsInHanded_of_change_sized (C:=Tryz.checked) Mp started (by kernel_rfl) Tryz.func6
  (ChangeSpec.witness6 (enc:=enc) (C:=Tryz.checked) false ⟨#[],#[.agg #[.int .i64 0,.bool false,.bool false,.int .i64 0,.int .i64 0,.int .i64 0,.int .i64 0,.int .i64 0,.int .i64 0,.int .i64 0],.agg #[.int .i64 0,.bool false,.bool false,.int .i64 0,.int .i64 0,.int .i64 0,.int .i64 0,.int .i64 0,.int .i64 0,.int .i64 0]],[]⟩ 8 (by kernel_rfl) (by kernel_rfl) (by kernel_rfl) (by kernel_rfl)) ?_
 intro W base args ds gs before hval0 hW hcnd hsz0 _
 have hval:∀ (j:Nat) t v,Tryz.f6.params[j]? = some t→args[j]? = some v→Value.okWide Tryz.prog W .any base t v:=hval0
 have hW':=hW
 obtain ⟨p,q,hA0,hV,rfl,hfz,hnd⟩:=hW
 have hA:DataW.TrodAll enc Tryz.prog W 0 (fun _=>true) true Tryz.f6.params.toList args.toList ds p:=hA0
 rw [Tryz.params6] at hA hval
 obtain ⟨v0,vs0,d0,ds0,p0,q0,hargs,rfl,rfl,h0,r0⟩:=trodAll_cons hA
 obtain ⟨v1,vs1,d1,ds1,p1,q1,rfl,rfl,rfl,h1,r1⟩:=trodAll_cons r0
 obtain ⟨rfl,rfl,rfl⟩:=trodAll_nil r1
 obtain rfl:args = #[v0,v1]:=by cases args;simp_all
 obtain ⟨rfl,rfl⟩:=trodVars_none hV
 have k0:=h0
 have lt0:∀ x∈p0,x.block<W.heap.size:=by obtain ⟨m,hm⟩:=k0;exact DataW.trod_lt m _ _ _ hm
 have k1:=h1
 have lt1:∀ x∈p1,x.block<W.heap.size:=by obtain ⟨m,hm⟩:=k1;exact DataW.trod_lt m _ _ _ hm
 obtain ⟨x,rfl⟩:=sJ (hval 0 27 v0 rfl rfl) h0
 obtain ⟨y,rfl⟩:=sJ (hval 1 27 v1 rfl rfl) h1
 clear hA0 hval0 hsz0
 refine (Gf x y W).mono fun e W' ⟨he,bel⟩=>?_
 subst he
 exact ⟨_,rfl,_,_,_,[],_,[],hW',trodAll_mk1 (shut_bool Tryz.underlying4 _),(trodAll_cons_mk (Below.trod Ak (by kernel_rfl) (of_decide_eq_true (by kernel_rfl)) k0 bel lt0) (trodAll_cons_mk (Below.trod Ak (by kernel_rfl) (of_decide_eq_true (by kernel_rfl)) k1 bel lt1) trodAll_mk0)),rfl,bel.frame _,fun h=>by cases h⟩
theorem lines_holds:Rows.AliasLinesSaid :=
 OpenClaim.holds_of_wide 6 Tryz.f6 rfl rfl rfl rfl rfl rfl rfl ⟨rfl,rfl,rfl,rfl,rfl⟩ rfl rfl rfl rfl rfl (by kernel_rfl) Tryz.func6 (by kernel_rfl)
  (of_decide_eq_true (by kernel_rfl)) (by unfold Func.isWrapper;first | (rw [if_pos (by decide +kernel)];kernel_rfl) | (rw [if_neg (by decide +kernel)];exact ⟨rfl,rfl⟩))
  (fun os started H enc _=>law2.lifted os started H enc)
#print axioms lines_holds
end
end Go.Proofs.YtpjlafmhoifkmaaGreat
