import Derived.Test.YthcoegkfpinlfaaGreatDoorJ12
import Derived.Test.YthcoegkfpinlfaaGreatDoorJ28
import Derived.Test.YthcoegkfpinlfaaGreatDoorRows
import Derived.Test.YthcoegkfpinlfaaGreatDoorCards
import Derived.Test.YthcoegkfpinlfaaGreatDoorTie
import Derived.ProofKit
import Derived.OpenShut
import Derived.ShutString
import Derived.ChangeOld
import Derived.SizedLaws
import Derived.LaidMore
import Derived.Lay
import Derived.LaidOnce
import Derived.SevenTiedAt
import Derived.Deep.Slices
import Derived.Deep.Fields
import Derived.Lib.SmallJoins
set_option linter.unusedVariables false
set_option linter.unusedSimpArgs false
set_option maxRecDepth 100000
set_option maxHeartbeats 8000000
namespace Go.Proofs.YthcoegkfpinlfaaGreatDoor
section
open Go.ChangeShapes Go.WideShapes Go.ChangeAt Go.RowKit Go.Joins
theorem KB:ownKnob Tryz.prog.godebug=none:=by kernel_rfl
theorem FT:laidOutB Tryz.prog=true:=by kernel_rfl
def ll:List (String×DataW Unit):=[("math/bits.deBruijn32tab",Rows.laid_math_bits_deBruijn32tab),("math/bits.deBruijn64tab",Rows.laid_math_bits_deBruijn64tab),("internal/strconv.uint64pow10",Rows.laid_internal_strconv_uint64pow10),("unicode/utf8.acceptRanges",Rows.laid_unicode_utf8_acceptRanges),("unicode/utf8.first",Rows.laid_unicode_utf8_first)]
theorem tH {W:World} (h:laidMetH Tryz.prog ll W):Gok fun b o=>W.cell? ⟨b,o,none⟩:=trivial
def AC (o:OpV):Prop := -9223372036854775808≤o.add∧o.add≤9223372036854775807
theorem xJ:Tryz.prog.cellsOf 38=15:=by kernel_rfl
theorem FA:Tryz.prog.cellsOf 34=3:=by kernel_rfl
theorem FB:Tryz.prog.cellsOf 36=3:=by kernel_rfl
theorem JF:Tryz.prog.cellsOf 3=1:=by kernel_rfl
theorem JG:Tryz.prog.cellsOf 2=1:=by kernel_rfl
theorem Px:Tryz.prog.cellsOf 9=1:=by kernel_rfl
theorem JE:Tryz.prog.cellsOf 4=1:=by kernel_rfl
theorem QW {w:World} {a:Addr} {v:Value} (h:w.cell? a=some v):a=⟨a.block,a.off,none⟩∧a.block<w.heap.size:=by
 unfold World.cell? at h
 split at h
 ·rename_i c t fr hb
  refine ⟨?_,(Array.getElem?_eq_some_iff.1 hb).1⟩
  split at h
  ·cases h
  ·rename_i hs
   obtain ⟨b,o,s⟩:=a
   cases s with
   | none=>rfl
   | some s=>exact absurd rfl hs
 ·cases h
theorem FV {α:Type} {l:List α} (h:l.length=3):∃ a b c,l=[a,b,c]:=by
 match l,h with
 | [a,b,c],_=>exact ⟨a,b,c,rfl⟩
theorem QM {α:Type} {l:List α} (h:l.length=9):∃ a b c d e f g i j,l=[a,b,c,d,e,f,g,i,j]:=by
 match l,h with
 | [a,b,c,d,e,f,g,i,j],_=>exact ⟨a,b,c,d,e,f,g,i,j,rfl⟩
theorem PK {α:Type} {l:List α} (h:l.length=15):∃ a b c d e f g i j k m n o p q,l=[a,b,c,d,e,f,g,i,j,k,m,n,o,p,q]:=by
 match l,h with
 | [a,b,c,d,e,f,g,i,j,k,m,n,o,p,q],_=>exact ⟨a,b,c,d,e,f,g,i,j,k,m,n,o,p,q,rfl⟩
section
variable {H:Type} {enc:TypeId×Value→H} {w:World} {base:Nat} {spare:Nat→Bool} {held:Bool}
theorem yx {n:Nat} {cs:List Value} {x:DataW H×List MemPlace} (h:DataW.trod enc Tryz.prog w base spare held n 34 cs=some x):∃ r:hP,cs=[.int .i64 r.n,.bool r.x,.bool r.sp]:=by
 obtain ⟨xs,m,rfl,hD,hl,hx,hf⟩:=DataW.trod_struct Tryz.underlying34 h
 rw [FA] at hl
 obtain ⟨c0,c1,c2,rfl⟩:=FV hl
 obtain ⟨y0,y1,y2,rfl⟩:=FV (l:=xs) hx
 have f0:DataW.trod enc Tryz.prog w base spare held m 3 (([c0,c1,c2].drop 0).take (Tryz.prog.cellsOf 3))=some y0:=hf 0 _ rfl
 have f1:DataW.trod enc Tryz.prog w base spare held m 4 (([c0,c1,c2].drop 1).take (Tryz.prog.cellsOf 4))=some y1:=hf 1 _ rfl
 have f2:DataW.trod enc Tryz.prog w base spare held m 4 (([c0,c1,c2].drop 2).take (Tryz.prog.cellsOf 4))=some y2:=hf 2 _ rfl
 clear hf
 rw [JF] at f0
 rw [JE] at f1 f2
 obtain ⟨a,e0,rfl,-⟩:=DataW.trod_int Tryz.underlying3 (show DataW.trod enc Tryz.prog w base spare held m 3 [c0]=some y0 from f0)
 obtain ⟨b,e1,rfl⟩:=DataW.trod_bool Tryz.underlying4 (show DataW.trod enc Tryz.prog w base spare held m 4 [c1]=some y1 from f1)
 obtain ⟨c,e2,rfl⟩:=DataW.trod_bool Tryz.underlying4 (show DataW.trod enc Tryz.prog w base spare held m 4 [c2]=some y2 from f2)
 injection e0 with e0
 injection e1 with e1
 injection e2 with e2
 subst e0 e1 e2
 exact ⟨⟨a,b,c⟩,rfl⟩
theorem Ig {n:Nat} {cs:List Value} {x:DataW H×List MemPlace} (h:DataW.trod enc Tryz.prog w base spare held n 36 cs=some x):∃ (a:Int) (s t:ByteArray),cs=[.int .i64 a,.string s,.string t] ∧ -9223372036854775808≤a∧a≤9223372036854775807:=by
 obtain ⟨xs,m,rfl,hD,hl,hx,hf⟩:=DataW.trod_struct Tryz.underlying36 h
 rw [FB] at hl
 obtain ⟨c0,c1,c2,rfl⟩:=FV hl
 obtain ⟨y0,y1,y2,rfl⟩:=FV (l:=xs) hx
 have f0:DataW.trod enc Tryz.prog w base spare held m 2 (([c0,c1,c2].drop 0).take (Tryz.prog.cellsOf 2))=some y0:=hf 0 _ rfl
 have f1:DataW.trod enc Tryz.prog w base spare held m 9 (([c0,c1,c2].drop 1).take (Tryz.prog.cellsOf 9))=some y1:=hf 1 _ rfl
 have f2:DataW.trod enc Tryz.prog w base spare held m 9 (([c0,c1,c2].drop 2).take (Tryz.prog.cellsOf 9))=some y2:=hf 2 _ rfl
 clear hf
 rw [JG] at f0
 rw [Px] at f1 f2
 obtain ⟨q,e0,rfl,wq⟩:=DataW.trod_int Tryz.underlying2 (show DataW.trod enc Tryz.prog w base spare held m 2 [c0]=some y0 from f0)
 obtain ⟨s,e1,rfl,-⟩:=DataW.trod_string Tryz.underlying9 (show DataW.trod enc Tryz.prog w base spare held m 9 [c1]=some y1 from f1)
 obtain ⟨t,e2,rfl,-⟩:=DataW.trod_string Tryz.underlying9 (show DataW.trod enc Tryz.prog w base spare held m 9 [c2]=some y2 from f2)
 injection e0 with e0
 injection e1 with e1
 injection e2 with e2
 subst e0 e1 e2
 have wq:(Lit.int IntKind.i64 q).wf=true:=wq
 simp [Lit.wf] at wq
 have m1:IntKind.i64.min = -9223372036854775808:=rfl
 have m2:IntKind.i64.max=9223372036854775807:=rfl
 exact ⟨q,s,t,rfl,by omega,by omega⟩
theorem Ea {n:Nat} {cs:List Value} {x:DataW H×List MemPlace} (h:DataW.trod enc Tryz.prog w base spare held n 38 cs=some x):∃ o:OpV,cs=opC o∧AC o:=by
 obtain ⟨xs,m,rfl,hD,hl,hx,hf⟩:=DataW.trod_struct Tryz.underlying38 h
 rw [xJ] at hl
 obtain ⟨c0,c1,c2,c3,c4,c5,c6,c7,c8,c9,c10,c11,c12,c13,c14,rfl⟩:=PK hl
 obtain ⟨y0,y1,y2,y3,y4,y5,y6,y7,y8,rfl⟩:=QM (l:=xs) hx
 have f0:DataW.trod enc Tryz.prog w base spare held m 3 (([c0,c1,c2,c3,c4,c5,c6,c7,c8,c9,c10,c11,c12,c13,c14].drop 0).take (Tryz.prog.cellsOf 3))=some y0:=hf 0 _ rfl
 have f1:DataW.trod enc Tryz.prog w base spare held m 34 (([c0,c1,c2,c3,c4,c5,c6,c7,c8,c9,c10,c11,c12,c13,c14].drop 1).take (Tryz.prog.cellsOf 34))=some y1:=hf 1 _ rfl
 have f2:DataW.trod enc Tryz.prog w base spare held m 34 (([c0,c1,c2,c3,c4,c5,c6,c7,c8,c9,c10,c11,c12,c13,c14].drop 4).take (Tryz.prog.cellsOf 34))=some y2:=hf 2 _ rfl
 have f3:DataW.trod enc Tryz.prog w base spare held m 3 (([c0,c1,c2,c3,c4,c5,c6,c7,c8,c9,c10,c11,c12,c13,c14].drop 7).take (Tryz.prog.cellsOf 3))=some y3:=hf 3 _ rfl
 have f4:DataW.trod enc Tryz.prog w base spare held m 3 (([c0,c1,c2,c3,c4,c5,c6,c7,c8,c9,c10,c11,c12,c13,c14].drop 8).take (Tryz.prog.cellsOf 3))=some y4:=hf 4 _ rfl
 have f5:DataW.trod enc Tryz.prog w base spare held m 2 (([c0,c1,c2,c3,c4,c5,c6,c7,c8,c9,c10,c11,c12,c13,c14].drop 9).take (Tryz.prog.cellsOf 2))=some y5:=hf 5 _ rfl
 have f6:DataW.trod enc Tryz.prog w base spare held m 36 (([c0,c1,c2,c3,c4,c5,c6,c7,c8,c9,c10,c11,c12,c13,c14].drop 10).take (Tryz.prog.cellsOf 36))=some y6:=hf 6 _ rfl
 have f7:DataW.trod enc Tryz.prog w base spare held m 4 (([c0,c1,c2,c3,c4,c5,c6,c7,c8,c9,c10,c11,c12,c13,c14].drop 13).take (Tryz.prog.cellsOf 4))=some y7:=hf 7 _ rfl
 have f8:DataW.trod enc Tryz.prog w base spare held m 3 (([c0,c1,c2,c3,c4,c5,c6,c7,c8,c9,c10,c11,c12,c13,c14].drop 14).take (Tryz.prog.cellsOf 3))=some y8:=hf 8 _ rfl
 clear hf
 rw [JF] at f0 f3 f4 f8
 rw [JG] at f5
 rw [JE] at f7
 rw [FA] at f1 f2
 rw [FB] at f6
 obtain ⟨k,e0,rfl,-⟩:=DataW.trod_int Tryz.underlying3 (show DataW.trod enc Tryz.prog w base spare held m 3 [c0]=some y0 from f0)
 obtain ⟨r,e1⟩:=yx (show DataW.trod enc Tryz.prog w base spare held m 34 [c1,c2,c3]=some y1 from f1)
 obtain ⟨r2,e2⟩:=yx (show DataW.trod enc Tryz.prog w base spare held m 34 [c4,c5,c6]=some y2 from f2)
 obtain ⟨md,e3,rfl,-⟩:=DataW.trod_int Tryz.underlying3 (show DataW.trod enc Tryz.prog w base spare held m 3 [c7]=some y3 from f3)
 obtain ⟨am,e4,rfl,-⟩:=DataW.trod_int Tryz.underlying3 (show DataW.trod enc Tryz.prog w base spare held m 3 [c8]=some y4 from f4)
 obtain ⟨nn,e5,rfl,-⟩:=DataW.trod_int Tryz.underlying2 (show DataW.trod enc Tryz.prog w base spare held m 2 [c9]=some y5 from f5)
 obtain ⟨ad,s,t,e6,hA⟩:=Ig (show DataW.trod enc Tryz.prog w base spare held m 36 [c10,c11,c12]=some y6 from f6)
 obtain ⟨lo,e7,rfl⟩:=DataW.trod_bool Tryz.underlying4 (show DataW.trod enc Tryz.prog w base spare held m 4 [c13]=some y7 from f7)
 obtain ⟨mo,e8,rfl,-⟩:=DataW.trod_int Tryz.underlying3 (show DataW.trod enc Tryz.prog w base spare held m 3 [c14]=some y8 from f8)
 injection e0 with e0
 injection e3 with e3
 injection e4 with e4
 injection e5 with e5
 injection e7 with e7
 injection e8 with e8
 simp only [List.cons.injEq,and_true] at e1 e2 e6
 obtain ⟨a1,a2,a3⟩:=e1
 obtain ⟨b1,b2,b3⟩:=e2
 obtain ⟨d1,d2,d3⟩:=e6
 subst e0 a1 a2 a3 b1 b2 b3 e3 e4 e5 d1 d2 d3 e7 e8
 exact ⟨⟨k,r,r2,md,am,nn,ad,s,t,lo,mo⟩,rfl,hA⟩
theorem Eb {v:Value} {d:DataW H} {p:List MemPlace} {r:Reach} {b0:Nat} (hv:Value.okWide Tryz.prog w r b0 22 v) (h:DataW.Trod enc Tryz.prog w 0 (fun _=>true) held 22 v d p) :
  ∃ (A:Option Addr) (cap:Nat) (l:List OpV),v=.slice A l.length cap∧l.length≤cap∧(∀ o∈l,AC o) ∧
   (l≠[]→∃ b off,A=some ⟨b,off,none⟩∧∀ (i j:Nat) (t:OpV) (u:Value),l[i]? = some t→(opC t)[j]? = some u→w.cell? ⟨b,off+i*15+j,none⟩=some u):=by
 obtain ⟨a0,l0,c0,rfl⟩:=okWide_slice Tryz.underlying22 hv
 obtain ⟨m,hm⟩:=h
 rcases Go.Deep.open_slice Tryz.underlying22 hm with ⟨e,hd⟩ | ⟨a,len,cap,mm,n,D,Pl,e,-,hl,hcm,hmm,hx,hi⟩
 ·injection e with e
  injection e with e1 e2 e3
  subst e1 e2 e3
  exact ⟨none,0,[],rfl,Nat.le_refl _,(fun _ h=>by cases h),fun h=>(h rfl).elim⟩
 ·injection e with e
  injection e with e1 e2 e3
  subst e1 e2 e3
  rw [if_pos rfl] at hmm
  subst hmm
  rw [xJ] at hi
  have key:∀ i,∃ t:OpV,i<l0→(AC t∧∀ j,j<15→w.cell? (a.add (i*15+j))=(opC t)[j]?):=by
   intro i
   by_cases him:i<l0
   ·obtain ⟨cs,hc,ht⟩:=hi i (by omega)
    obtain ⟨t,rfl,hA⟩:=Ea ht
    obtain ⟨-,-,hcs⟩:=World.cells?_some hc
    exact ⟨t,fun _=>⟨hA,fun j hj=>by rw [← hcs j hj,Go.Deep.add_add]⟩⟩
   ·exact ⟨⟨0,⟨0,false,false⟩,⟨0,false,false⟩,0,0,0,0,⟨#[]⟩,⟨#[]⟩,false,0⟩,fun h=>absurd h him⟩
  obtain ⟨T,hT⟩:=Classical.axiomOfChoice key
  have hlen:((List.range l0).map T).length=l0:=by simp
  refine ⟨some a,mm,(List.range l0).map T,by rw [hlen],by rw [hlen];exact hl,fun o ho=>?_,fun hne=>?_⟩
  ·obtain ⟨i,hi',rfl⟩:=List.mem_map.1 ho
   exact (hT i (List.mem_range.1 hi')).1
  have hl0:0<l0:=by
   rcases Nat.eq_zero_or_pos l0 with h | h
   ·subst h;exact (hne rfl).elim
   ·exact h
  have h0:=(hT 0 (by omega)).2 0 (by omega)
  obtain ⟨ha,hb⟩:=QW (h0.trans (show (opC (T 0))[0]? = some _ from rfl))
  rw [show a.add (0*15+0)=a from rfl] at ha hb
  refine ⟨a.block,a.off,by rw [← ha],fun i j t u ht hu=>?_⟩
  have hil:i<l0:=by
   have:=(List.getElem?_eq_some_iff.1 ht).1
   rwa [hlen] at this
  have hti:t=T i:=by
   rw [List.getElem?_map,List.getElem?_range hil] at ht
   injection ht with ht
   exact ht.symm
  subst hti
  have hj:j<15:=(List.getElem?_eq_some_iff.1 hu).1
  have c:=(hT i (by omega)).2 j hj
  rw [hu] at c
  rw [← c]
  congr 1
  rw [ha]
  unfold Addr.add
  split
  ·rename_i h
   simp only [Nat.add_assoc]
   congr 1
   omega
  ·simp only [Nat.add_assoc]
end
theorem NU {A:Option Addr} {cap:Nat} {l:List OpV} {w:World} (hc:l.length≤cap)
  (hT:l≠[]→∃ b off,A=some ⟨b,off,none⟩∧∀ (i j:Nat) (t:OpV) (u:Value),l[i]? = some t→(opC t)[j]? = some u→w.cell? ⟨b,off+i*15+j,none⟩=some u) :
  ARep ρ0 (al0 fun b o=>w.cell? ⟨b,o,none⟩) (iZ.enc l) (.slice A l.length cap):=by
 have e:l.map opR.enc=(l.map opC).map fun e=>e.map .v:=by
  rw [List.map_map];exact List.map_congr_left fun t _=>rfl
 show DRep _ (.sd 15 (l.map opR.enc)) _
 simp only [DRep]
 refine ⟨A,cap,by rw [List.length_map],by rw [List.length_map];exact hc,fun hne=>?_⟩
 obtain ⟨b,off,rfl,hcl⟩:=hT (fun h=>by subst h;exact hne rfl)
 refine ⟨b,off,rfl,?_⟩
 rw [e]
 refine A8 (fun x hx=>?_) fun i j x u hx hu=>?_
 ·obtain ⟨t,_,rfl⟩:=List.mem_map.1 hx;rfl
 ·rw [List.getElem?_map,Option.map_eq_some_iff] at hx
  obtain ⟨t,ht,rfl⟩:=hx
  refine ⟨hcl i j t u ht hu,?_⟩
  match j,hu with
  | 0,hu=>injection hu with hu;subst hu;rfl
  | 1,hu=>injection hu with hu;subst hu;rfl
  | 2,hu=>injection hu with hu;subst hu;rfl
  | 3,hu=>injection hu with hu;subst hu;rfl
  | 4,hu=>injection hu with hu;subst hu;rfl
  | 5,hu=>injection hu with hu;subst hu;rfl
  | 6,hu=>injection hu with hu;subst hu;rfl
  | 7,hu=>injection hu with hu;subst hu;rfl
  | 8,hu=>injection hu with hu;subst hu;rfl
  | 9,hu=>injection hu with hu;subst hu;rfl
  | 10,hu=>injection hu with hu;subst hu;rfl
  | 11,hu=>injection hu with hu;subst hu;rfl
  | 12,hu=>injection hu with hu;subst hu;rfl
  | 13,hu=>injection hu with hu;subst hu;rfl
  | 14,hu=>injection hu with hu;subst hu;rfl
end
section
open Go.RowKit
def stR:mW ByteArray where
 dec:=fun | [.v (.string s)]=>some s | _=>none
 enc:=fun s=>[.v (.string s)]
 inv:=by
  intro c x h
  split at h
  ·injection h with h;subst h;rfl
  ·cases h
 back:=by intro x;rfl
theorem stE (s:ByteArray):stR.enc s=[.v (.string s)]:=rfl
theorem stD (s:ByteArray):stR.dec [.v (.string s)]=some s:=rfl
def rh (o:OpV):Bool:=decide (o.plus.size≤600)&&decide (o.minus.size≤600)
def vw (l:List OpV):Bool:=if (l.take 20).all rh=true then decide (l.length≤20) else false
theorem Kh {l:List OpV} {i:Nat} {o:OpV} (hi:i<20) (ho:l[i]? = some o) (h:rh o=false):vw l=false:=by
 unfold vw
 rw [if_neg]
 intro hall
 rw [List.all_eq_true] at hall
 have:=hall o (List.mem_of_getElem? (i:=i) (by rw [List.getElem?_take,if_pos hi];exact ho))
 rw [h] at this
 cases this
theorem PH (l:List OpV):SW Tryz.prog ⟨none,0⟩ Tryz.f7.ntmps (Tryz.f7.body.getD .skip) ⟨0,aw 0 [iZ.enc l],[]⟩ (eK Tryz.prog Tryz.f7.results.toList (.ret (bv (vw l)))):=by
 refine ab (ctx:=[]) 4000 ?_
 rw [Tryz.ntmps7,Tryz.results7]
 simp only [Tryz.f7,Option.getD_some,aw]
 obtain ⟨m,hm⟩:∃ m,min l.length 20=m:=⟨_,rfl⟩
 have hmI:(if (20:Int)<(l.length:Int) then (20:Int) else (l.length:Int))=(m:Int):=by split<;>omega
 have hml:(m:Int)≤(l.length:Int):=by omega
 have hml2:m≤l.length:=by omega
 have h0m:(0:Int)≤(m:Int):=by omega
 have hx:List.take (m-0) (List.map opR.enc l)=List.map opR.enc (l.take m):=by rw [Nat.sub_zero];exact (List.map_take ..).symm
 have hxl:(l.take m).length=m:=by rw [List.length_take];omega
 simp only [go_sem,hmI,hml,hml2,h0m,hx,Int.toNat_natCast,hxl]
 refine dG (ι:=Nat) (fun i=>i≤m∧∀ j o,j<i→l[j]? = some o→rh o=true) (fun i=>⟨0,[(0,iZ.enc l),(9,iZ.enc (l.take m)),(10,iv m),(11,iv i)],[]⟩) (fun i=>m-i) 0 ⟨Nat.zero_le _,fun j o hj=>absurd hj (Nat.not_lt_zero _)⟩ (Wk.renL [] (by simp) (by simp) (by simp) rfl rfl) ?_
 rintro i ⟨hi,hn⟩
 refine ab (ctx:=[]) 4000 ?_
 by_cases hlt:i<m
 ·have hltI:(i:Int)<m:=by omega
  obtain ⟨o,ho⟩:∃ o,l[i]? = some o:=⟨_,List.getElem?_eq_getElem (by omega)⟩
  have ho2:(l.take m)[i]? = some o:=by rw [List.getElem?_take,if_pos hlt];exact ho
  have ei:IntKind.i64.wrap ((i:Int)+1)=((i+1:Nat):Int):=by rw [IntKind.wrap_i64];omega
  by_cases g1:600<o.plus.size
  ·have g1I:(600:Int)<o.plus.size:=by omega
   rw [Kh (by omega) ho (by unfold rh;rw [decide_eq_false (by omega)];rfl)]
   simp only [go_sem,hltI,hlt,hxl,ho2,aF,opE,g1I]
  have g1I:¬(600:Int)<o.plus.size:=by omega
  by_cases g2:600<o.minus.size
  ·have g2I:(600:Int)<o.minus.size:=by omega
   rw [Kh (by omega) ho (by unfold rh;rw [decide_eq_false (show ¬o.minus.size≤600 by omega),Bool.and_false])]
   simp only [go_sem,hltI,hlt,hxl,ho2,aF,opE,g1I,g2I]
  have g2I:¬(600:Int)<o.minus.size:=by omega
  simp only [go_sem,hltI,hlt,hxl,ho2,aF,opE,g1I,g2I,ei]
  exact ⟨i+1,⟨hlt,fun j p hj hp=>by
   by_cases e:j=i
   ·subst e;rw [ho] at hp;injection hp with hp;rw [← hp];unfold rh;rw [decide_eq_true (by omega),decide_eq_true (by omega)];rfl
   ·exact hn j p (by omega) hp⟩,by omega,Wk.renL [] (by simp) (by simp) (by simp) rfl rfl⟩
 ·obtain rfl:i=m:=by omega
  have hI:¬(i:Int)<i:=by omega
  have hF:vw l=decide ((l.length:Int)≤20):=by
   unfold vw
   rw [if_pos]
   ·rw [Bool.eq_iff_iff,decide_eq_true_eq,decide_eq_true_eq];omega
   ·rw [List.all_eq_true]
    intro o ho
    obtain ⟨j,hj,he⟩:=List.mem_iff_getElem.1 ho
    rw [List.length_take] at hj
    rw [List.getElem_take] at he
    exact hn j o (by omega) (by rw [List.getElem?_eq_getElem (by omega),he])
  rw [hF]
  simp only [go_sem,hI]
def PF:bq Tryz.prog 7 :=
 mk1 _ _ _ Tryz.func7 rfl (fun _ _=>by go_simp) (iZ) ((fun _=>True)) ((fun l=>.ret (bv (vw l)))) (by rw [Tryz.ntmps7];decide) (fun l _=>PH l)
theorem uA {id:Nat} {h:ag} {args:List AV}:(PF).run id h args=bV (aI (iZ) ((fun _=>True))) ((fun l=>.ret (bv (vw l)))) h args:=rfl
theorem uz {id:Nat} {h:ag} {args:List AV}:(PF).pan id h args=ca (aI (iZ) ((fun _=>True))) ((fun l=>.ret (bv (vw l)))) h args:=rfl
end
end Go.Proofs.YthcoegkfpinlfaaGreatDoor
