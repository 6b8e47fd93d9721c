import Derived.Test.YthcoegkfpinlfaaGreatDoorO12
import Derived.Test.YthcoegkfpinlfaaGreatDoorO35
import Derived.Test.YthcoegkfpinlfaaGreatDoorRows
import Derived.Test.YthcoegkfpinlfaaGreatDoorCards
import Derived.Test.YthcoegkfpinlfaaGreatDoorTie
import Derived.ProofKit
import Derived.OpenShut
import Derived.ShutString
import Derived.ChangeOld
import Derived.SizedLaws
import Derived.LaidMore
import Derived.Lay
import Derived.LaidOnce
import Derived.SevenTiedAt
import Derived.Deep.Slices
import Derived.Deep.Fields
import Derived.Lib.SmallJoins
set_option linter.unusedVariables false
set_option linter.unusedSimpArgs false
set_option maxRecDepth 100000
set_option maxHeartbeats 8000000
namespace Go.Proofs.YthcoegkfpinlfaaGreatDoor
open Go.ChangeShapes Go.WideShapes Go.ChangeAt Go.RowKit Go.Joins
theorem lawOwn:ownKnob Tryz.prog.godebug=none:=by kernel_rfl
theorem Wg:laidOutB Tryz.prog=true:=by kernel_rfl
def L3:List (String×DataW Unit):=[("math/bits.deBruijn32tab",Rows.laid_math_bits_deBruijn32tab),("math/bits.deBruijn64tab",Rows.laid_math_bits_deBruijn64tab),("internal/strconv.uint64pow10",Rows.laid_internal_strconv_uint64pow10),("unicode/utf8.acceptRanges",Rows.laid_unicode_utf8_acceptRanges),("unicode/utf8.first",Rows.laid_unicode_utf8_first)]
theorem Sd {W:World} (h:laidMetH Tryz.prog L3 W):Gok fun b o=>W.cell? ⟨b,o,none⟩:=trivial
theorem aao {n:Int} (h:(Lit.int .u8 n).wf=true):0≤n∧n≤255:=by
 have h':IntKind.u8.min≤n∧n≤IntKind.u8.max:=by simpa [Lit.wf] using h
 rw [show IntKind.u8.min=0 from rfl,show IntKind.u8.max=255 from rfl] at h'
 omega
def Si (o:OpV):Prop := -9223372036854775808≤o.add∧o.add≤9223372036854775807
theorem Qb:Tryz.prog.cellsOf 38=15:=by kernel_rfl
theorem V3:Tryz.prog.cellsOf 34=3:=by kernel_rfl
theorem Vv:Tryz.prog.cellsOf 36=3:=by kernel_rfl
theorem Y5:Tryz.prog.cellsOf 3=1:=by kernel_rfl
theorem aap:Tryz.prog.cellsOf 2=1:=by kernel_rfl
theorem cellsS:Tryz.prog.cellsOf 9=1:=by kernel_rfl
theorem aaj:Tryz.prog.cellsOf 4=1:=by kernel_rfl
theorem spotN {w:World} {a:Addr} {v:Value} (h:w.cell? a=some v):a=⟨a.block,a.off,none⟩∧a.block<w.heap.size:=by
 unfold World.cell? at h
 split at h
 ·rename_i c t fr hb
  refine ⟨?_,(Array.getElem?_eq_some_iff.1 hb).1⟩
  split at h
  ·cases h
  ·rename_i hs
   obtain ⟨b,o,s⟩:=a
   cases s with
   | none=>rfl
   | some s=>exact absurd rfl hs
 ·cases h
theorem V8 {α:Type} {l:List α} (h:l.length=3):∃ a b c,l=[a,b,c]:=by
 match l,h with
 | [a,b,c],_=>exact ⟨a,b,c,rfl⟩
theorem list9 {α:Type} {l:List α} (h:l.length=9):∃ a b c d e f g i j,l=[a,b,c,d,e,f,g,i,j]:=by
 match l,h with
 | [a,b,c,d,e,f,g,i,j],_=>exact ⟨a,b,c,d,e,f,g,i,j,rfl⟩
theorem list15 {α:Type} {l:List α} (h:l.length=15):∃ a b c d e f g i j k m n o p q,l=[a,b,c,d,e,f,g,i,j,k,m,n,o,p,q]:=by
 match l,h with
 | [a,b,c,d,e,f,g,i,j,k,m,n,o,p,q],_=>exact ⟨a,b,c,d,e,f,g,i,j,k,m,n,o,p,q,rfl⟩
section
variable {H:Type} {enc:TypeId×Value→H} {w:World} {base:Nat} {spare:Nat→Bool} {held:Bool}
theorem P4 {n:Nat} {cs:List Value} {x:DataW H×List MemPlace} (h:DataW.trod enc Tryz.prog w base spare held n 34 cs=some x):∃ r:CF,cs=[.int .i64 r.n,.bool r.x,.bool r.sp]:=by
 obtain ⟨xs,m,rfl,hD,hl,hx,hf⟩:=DataW.trod_struct Tryz.underlying34 h
 rw [V3] at hl
 obtain ⟨c0,c1,c2,rfl⟩:=V8 hl
 obtain ⟨y0,y1,y2,rfl⟩:=V8 (l:=xs) hx
 have f0:DataW.trod enc Tryz.prog w base spare held m 3 (([c0,c1,c2].drop 0).take (Tryz.prog.cellsOf 3))=some y0:=hf 0 _ rfl
 have f1:DataW.trod enc Tryz.prog w base spare held m 4 (([c0,c1,c2].drop 1).take (Tryz.prog.cellsOf 4))=some y1:=hf 1 _ rfl
 have f2:DataW.trod enc Tryz.prog w base spare held m 4 (([c0,c1,c2].drop 2).take (Tryz.prog.cellsOf 4))=some y2:=hf 2 _ rfl
 clear hf
 rw [Y5] at f0
 rw [aaj] at f1 f2
 obtain ⟨a,e0,rfl,-⟩:=DataW.trod_int Tryz.underlying3 (show DataW.trod enc Tryz.prog w base spare held m 3 [c0]=some y0 from f0)
 obtain ⟨b,e1,rfl⟩:=DataW.trod_bool Tryz.underlying4 (show DataW.trod enc Tryz.prog w base spare held m 4 [c1]=some y1 from f1)
 obtain ⟨c,e2,rfl⟩:=DataW.trod_bool Tryz.underlying4 (show DataW.trod enc Tryz.prog w base spare held m 4 [c2]=some y2 from f2)
 injection e0 with e0
 injection e1 with e1
 injection e2 with e2
 subst e0 e1 e2
 exact ⟨⟨a,b,c⟩,rfl⟩
theorem Xl {n:Nat} {cs:List Value} {x:DataW H×List MemPlace} (h:DataW.trod enc Tryz.prog w base spare held n 36 cs=some x):∃ (a:Int) (s t:ByteArray),cs=[.int .i64 a,.string s,.string t] ∧ -9223372036854775808≤a∧a≤9223372036854775807:=by
 obtain ⟨xs,m,rfl,hD,hl,hx,hf⟩:=DataW.trod_struct Tryz.underlying36 h
 rw [Vv] at hl
 obtain ⟨c0,c1,c2,rfl⟩:=V8 hl
 obtain ⟨y0,y1,y2,rfl⟩:=V8 (l:=xs) hx
 have f0:DataW.trod enc Tryz.prog w base spare held m 2 (([c0,c1,c2].drop 0).take (Tryz.prog.cellsOf 2))=some y0:=hf 0 _ rfl
 have f1:DataW.trod enc Tryz.prog w base spare held m 9 (([c0,c1,c2].drop 1).take (Tryz.prog.cellsOf 9))=some y1:=hf 1 _ rfl
 have f2:DataW.trod enc Tryz.prog w base spare held m 9 (([c0,c1,c2].drop 2).take (Tryz.prog.cellsOf 9))=some y2:=hf 2 _ rfl
 clear hf
 rw [aap] at f0
 rw [cellsS] at f1 f2
 obtain ⟨q,e0,rfl,wq⟩:=DataW.trod_int Tryz.underlying2 (show DataW.trod enc Tryz.prog w base spare held m 2 [c0]=some y0 from f0)
 obtain ⟨s,e1,rfl,-⟩:=DataW.trod_string Tryz.underlying9 (show DataW.trod enc Tryz.prog w base spare held m 9 [c1]=some y1 from f1)
 obtain ⟨t,e2,rfl,-⟩:=DataW.trod_string Tryz.underlying9 (show DataW.trod enc Tryz.prog w base spare held m 9 [c2]=some y2 from f2)
 injection e0 with e0
 injection e1 with e1
 injection e2 with e2
 subst e0 e1 e2
 have wq:(Lit.int IntKind.i64 q).wf=true:=wq
 simp [Lit.wf] at wq
 have m1:IntKind.i64.min = -9223372036854775808:=rfl
 have m2:IntKind.i64.max=9223372036854775807:=rfl
 exact ⟨q,s,t,rfl,by omega,by omega⟩
theorem Ut {n:Nat} {cs:List Value} {x:DataW H×List MemPlace} (h:DataW.trod enc Tryz.prog w base spare held n 38 cs=some x):∃ o:OpV,cs=opC o∧Si o:=by
 obtain ⟨xs,m,rfl,hD,hl,hx,hf⟩:=DataW.trod_struct Tryz.underlying38 h
 rw [Qb] at hl
 obtain ⟨c0,c1,c2,c3,c4,c5,c6,c7,c8,c9,c10,c11,c12,c13,c14,rfl⟩:=list15 hl
 obtain ⟨y0,y1,y2,y3,y4,y5,y6,y7,y8,rfl⟩:=list9 (l:=xs) hx
 have f0:DataW.trod enc Tryz.prog w base spare held m 3 (([c0,c1,c2,c3,c4,c5,c6,c7,c8,c9,c10,c11,c12,c13,c14].drop 0).take (Tryz.prog.cellsOf 3))=some y0:=hf 0 _ rfl
 have f1:DataW.trod enc Tryz.prog w base spare held m 34 (([c0,c1,c2,c3,c4,c5,c6,c7,c8,c9,c10,c11,c12,c13,c14].drop 1).take (Tryz.prog.cellsOf 34))=some y1:=hf 1 _ rfl
 have f2:DataW.trod enc Tryz.prog w base spare held m 34 (([c0,c1,c2,c3,c4,c5,c6,c7,c8,c9,c10,c11,c12,c13,c14].drop 4).take (Tryz.prog.cellsOf 34))=some y2:=hf 2 _ rfl
 have f3:DataW.trod enc Tryz.prog w base spare held m 3 (([c0,c1,c2,c3,c4,c5,c6,c7,c8,c9,c10,c11,c12,c13,c14].drop 7).take (Tryz.prog.cellsOf 3))=some y3:=hf 3 _ rfl
 have f4:DataW.trod enc Tryz.prog w base spare held m 3 (([c0,c1,c2,c3,c4,c5,c6,c7,c8,c9,c10,c11,c12,c13,c14].drop 8).take (Tryz.prog.cellsOf 3))=some y4:=hf 4 _ rfl
 have f5:DataW.trod enc Tryz.prog w base spare held m 2 (([c0,c1,c2,c3,c4,c5,c6,c7,c8,c9,c10,c11,c12,c13,c14].drop 9).take (Tryz.prog.cellsOf 2))=some y5:=hf 5 _ rfl
 have f6:DataW.trod enc Tryz.prog w base spare held m 36 (([c0,c1,c2,c3,c4,c5,c6,c7,c8,c9,c10,c11,c12,c13,c14].drop 10).take (Tryz.prog.cellsOf 36))=some y6:=hf 6 _ rfl
 have f7:DataW.trod enc Tryz.prog w base spare held m 4 (([c0,c1,c2,c3,c4,c5,c6,c7,c8,c9,c10,c11,c12,c13,c14].drop 13).take (Tryz.prog.cellsOf 4))=some y7:=hf 7 _ rfl
 have f8:DataW.trod enc Tryz.prog w base spare held m 3 (([c0,c1,c2,c3,c4,c5,c6,c7,c8,c9,c10,c11,c12,c13,c14].drop 14).take (Tryz.prog.cellsOf 3))=some y8:=hf 8 _ rfl
 clear hf
 rw [Y5] at f0 f3 f4 f8
 rw [aap] at f5
 rw [aaj] at f7
 rw [V3] at f1 f2
 rw [Vv] at f6
 obtain ⟨k,e0,rfl,-⟩:=DataW.trod_int Tryz.underlying3 (show DataW.trod enc Tryz.prog w base spare held m 3 [c0]=some y0 from f0)
 obtain ⟨r,e1⟩:=P4 (show DataW.trod enc Tryz.prog w base spare held m 34 [c1,c2,c3]=some y1 from f1)
 obtain ⟨r2,e2⟩:=P4 (show DataW.trod enc Tryz.prog w base spare held m 34 [c4,c5,c6]=some y2 from f2)
 obtain ⟨md,e3,rfl,-⟩:=DataW.trod_int Tryz.underlying3 (show DataW.trod enc Tryz.prog w base spare held m 3 [c7]=some y3 from f3)
 obtain ⟨am,e4,rfl,-⟩:=DataW.trod_int Tryz.underlying3 (show DataW.trod enc Tryz.prog w base spare held m 3 [c8]=some y4 from f4)
 obtain ⟨nn,e5,rfl,-⟩:=DataW.trod_int Tryz.underlying2 (show DataW.trod enc Tryz.prog w base spare held m 2 [c9]=some y5 from f5)
 obtain ⟨ad,s,t,e6,hA⟩:=Xl (show DataW.trod enc Tryz.prog w base spare held m 36 [c10,c11,c12]=some y6 from f6)
 obtain ⟨lo,e7,rfl⟩:=DataW.trod_bool Tryz.underlying4 (show DataW.trod enc Tryz.prog w base spare held m 4 [c13]=some y7 from f7)
 obtain ⟨mo,e8,rfl,-⟩:=DataW.trod_int Tryz.underlying3 (show DataW.trod enc Tryz.prog w base spare held m 3 [c14]=some y8 from f8)
 injection e0 with e0
 injection e3 with e3
 injection e4 with e4
 injection e5 with e5
 injection e7 with e7
 injection e8 with e8
 simp only [List.cons.injEq,and_true] at e1 e2 e6
 obtain ⟨a1,a2,a3⟩:=e1
 obtain ⟨b1,b2,b3⟩:=e2
 obtain ⟨d1,d2,d3⟩:=e6
 subst e0 a1 a2 a3 b1 b2 b3 e3 e4 e5 d1 d2 d3 e7 e8
 exact ⟨⟨k,r,r2,md,am,nn,ad,s,t,lo,mo⟩,rfl,hA⟩
theorem TM {v:Value} {d:DataW H} {p:List MemPlace} {r:Reach} {b0:Nat} (hv:Value.okWide Tryz.prog w r b0 22 v) (h:DataW.Trod enc Tryz.prog w 0 (fun _=>true) held 22 v d p) :
  ∃ (A:Option Addr) (cap:Nat) (l:List OpV),v=.slice A l.length cap∧l.length≤cap∧(∀ o∈l,Si o) ∧
   (l≠[]→∃ b off,A=some ⟨b,off,none⟩∧∀ (i j:Nat) (t:OpV) (u:Value),l[i]? = some t→(opC t)[j]? = some u→w.cell? ⟨b,off+i*15+j,none⟩=some u):=by
 obtain ⟨a0,l0,c0,rfl⟩:=okWide_slice Tryz.underlying22 hv
 obtain ⟨m,hm⟩:=h
 rcases Go.Deep.open_slice Tryz.underlying22 hm with ⟨e,hd⟩ | ⟨a,len,cap,mm,n,D,Pl,e,-,hl,hcm,hmm,hx,hi⟩
 ·injection e with e
  injection e with e1 e2 e3
  subst e1 e2 e3
  exact ⟨none,0,[],rfl,Nat.le_refl _,(fun _ h=>by cases h),fun h=>(h rfl).elim⟩
 ·injection e with e
  injection e with e1 e2 e3
  subst e1 e2 e3
  rw [if_pos rfl] at hmm
  subst hmm
  rw [Qb] at hi
  have key:∀ i,∃ t:OpV,i<l0→(Si t∧∀ j,j<15→w.cell? (a.add (i*15+j))=(opC t)[j]?):=by
   intro i
   by_cases him:i<l0
   ·obtain ⟨cs,hc,ht⟩:=hi i (by omega)
    obtain ⟨t,rfl,hA⟩:=Ut ht
    obtain ⟨-,-,hcs⟩:=World.cells?_some hc
    exact ⟨t,fun _=>⟨hA,fun j hj=>by rw [← hcs j hj,Go.Deep.add_add]⟩⟩
   ·exact ⟨⟨0,⟨0,false,false⟩,⟨0,false,false⟩,0,0,0,0,⟨#[]⟩,⟨#[]⟩,false,0⟩,fun h=>absurd h him⟩
  obtain ⟨T,hT⟩:=Classical.axiomOfChoice key
  have hlen:((List.range l0).map T).length=l0:=by simp
  refine ⟨some a,mm,(List.range l0).map T,by rw [hlen],by rw [hlen];exact hl,fun o ho=>?_,fun hne=>?_⟩
  ·obtain ⟨i,hi',rfl⟩:=List.mem_map.1 ho
   exact (hT i (List.mem_range.1 hi')).1
  have hl0:0<l0:=by
   rcases Nat.eq_zero_or_pos l0 with h | h
   ·subst h;exact (hne rfl).elim
   ·exact h
  have h0:=(hT 0 (by omega)).2 0 (by omega)
  obtain ⟨ha,hb⟩:=spotN (h0.trans (show (opC (T 0))[0]? = some _ from rfl))
  rw [show a.add (0*15+0)=a from rfl] at ha hb
  refine ⟨a.block,a.off,by rw [← ha],fun i j t u ht hu=>?_⟩
  have hil:i<l0:=by
   have:=(List.getElem?_eq_some_iff.1 ht).1
   rwa [hlen] at this
  have hti:t=T i:=by
   rw [List.getElem?_map,List.getElem?_range hil] at ht
   injection ht with ht
   exact ht.symm
  subst hti
  have hj:j<15:=(List.getElem?_eq_some_iff.1 hu).1
  have c:=(hT i (by omega)).2 j hj
  rw [hu] at c
  rw [← c]
  congr 1
  rw [ha]
  unfold Addr.add
  split
  ·rename_i h
   simp only [Nat.add_assoc]
   congr 1
   omega
  ·simp only [Nat.add_assoc]
end
theorem ops_rep {A:Option Addr} {cap:Nat} {l:List OpV} {w:World} (hc:l.length≤cap)
  (hT:l≠[]→∃ b off,A=some ⟨b,off,none⟩∧∀ (i j:Nat) (t:OpV) (u:Value),l[i]? = some t→(opC t)[j]? = some u→w.cell? ⟨b,off+i*15+j,none⟩=some u) :
  ARep ρ0 (al0 fun b o=>w.cell? ⟨b,o,none⟩) (mG.enc l) (.slice A l.length cap):=by
 have e:l.map opR.enc=(l.map opC).map fun e=>e.map .v:=by
  rw [List.map_map];exact List.map_congr_left fun t _=>rfl
 show DRep _ (.sd 15 (l.map opR.enc)) _
 simp only [DRep]
 refine ⟨A,cap,by rw [List.length_map],by rw [List.length_map];exact hc,fun hne=>?_⟩
 obtain ⟨b,off,rfl,hcl⟩:=hT (fun h=>by subst h;exact hne rfl)
 refine ⟨b,off,rfl,?_⟩
 rw [e]
 refine Th (fun x hx=>?_) fun i j x u hx hu=>?_
 ·obtain ⟨t,_,rfl⟩:=List.mem_map.1 hx;rfl
 ·rw [List.getElem?_map,Option.map_eq_some_iff] at hx
  obtain ⟨t,ht,rfl⟩:=hx
  refine ⟨hcl i j t u ht hu,?_⟩
  match j,hu with
  | 0,hu=>injection hu with hu;subst hu;rfl
  | 1,hu=>injection hu with hu;subst hu;rfl
  | 2,hu=>injection hu with hu;subst hu;rfl
  | 3,hu=>injection hu with hu;subst hu;rfl
  | 4,hu=>injection hu with hu;subst hu;rfl
  | 5,hu=>injection hu with hu;subst hu;rfl
  | 6,hu=>injection hu with hu;subst hu;rfl
  | 7,hu=>injection hu with hu;subst hu;rfl
  | 8,hu=>injection hu with hu;subst hu;rfl
  | 9,hu=>injection hu with hu;subst hu;rfl
  | 10,hu=>injection hu with hu;subst hu;rfl
  | 11,hu=>injection hu with hu;subst hu;rfl
  | 12,hu=>injection hu with hu;subst hu;rfl
  | 13,hu=>injection hu with hu;subst hu;rfl
  | 14,hu=>injection hu with hu;subst hu;rfl
end Go.Proofs.YthcoegkfpinlfaaGreatDoor
