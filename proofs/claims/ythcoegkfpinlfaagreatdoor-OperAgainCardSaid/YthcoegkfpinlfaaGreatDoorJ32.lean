import Derived.Test.YthcoegkfpinlfaaGreatDoorJ31
import Derived.Test.YthcoegkfpinlfaaGreatDoorJ25
import Derived.Lib.IndexAny
import Derived.Test.YthcoegkfpinlfaaGreatDoorJ28
set_option linter.unusedVariables false
set_option linter.unusedSimpArgs false
set_option maxRecDepth 100000
set_option maxHeartbeats 8000000
namespace Go.Proofs.YthcoegkfpinlfaaGreatDoor
section
open Go.RowKit
def Lr (r:hP):Bool:=!decide ((aV r).2=0)||(dQ (aV r).1&&decide (fm 3 (aV r).1=(r,0))&&!decide ((ap 3 3 (aV r).1).2=0)&&decide ((cq (aV r).1 us).length=1))
theorem Od:∀ i:Fin 32,∀ x p:Bool,Lr ⟨(i.val:Int),x,p⟩=true:=by decide +kernel
theorem yG {r:hP} (h:(aV r).2=0):dQ (aV r).1=true∧fm 3 (aV r).1=(r,0)∧¬(ap 3 3 (aV r).1).2=0∧(cq (aV r).1 us).length=1:=by
 obtain ⟨n,x,p⟩:=r
 have hn:0≤n∧n≤31:=by
  unfold aV at h
  split at h
  ·cases h
  ·rename_i hc
   simp only at hc
   omega
 obtain ⟨k,rfl⟩:=Int.eq_ofNat_of_zero_le hn.1
 have hf:=Od ⟨k,by omega⟩ x p
 simp only at hf
 unfold Lr at hf
 rw [decide_eq_true h] at hf
 simpa [and_assoc] using hf
theorem gu {r:hP} (h:iO r=true):dQ (dy r)=true∧fm 3 (dy r)=(r,0)∧¬(ap 3 3 (dy r)).2=0:=by
 have h:=yG (of_decide_eq_true h)
 exact ⟨h.1,h.2.1,h.2.2.1⟩
theorem Iz {s:ByteArray} (h:(fm 3 s).2=0):(cq s us).length=1:=by
 rcases hr:fm 3 s with ⟨r,e⟩
 rw [hr] at h
 simp only at h
 subst h
 obtain ⟨-,e⟩:=Cp hr
 have:=(yG (r:=r) (by rw [e])).2.2.2
 rwa [e] at this
def nmB (k:Int) (s:ByteArray):Bool :=
 dQ s&&(!decide ((fm 3 s).2=0)&&((decide (k=3)||!decide ((ap 3 3 s).2=0)) &&
  ((!decide (k=4)||!decide ((ap 3 2 s).2=0)) &&
  ((!decide (k=6)||(!decide ((ap 3 2 s).2=0)&&!decide ((ap 3 4 s).2=0))) &&
  ((!decide (k=7)||(!decide ((ap 3 2 s).2=0)&&(!decide ((ap 3 4 s).2=0)&&!decide ((ap 3 6 s).2=0)))) &&
  (!decide (k=8)||(!decide ((ap 3 2 s).2=0)&&(!decide ((ap 3 4 s).2=0)&&!decide ((ap 3 7 s).2=0)))))))))
theorem nm2:(gK 2).all (fun r=>nmB 2 r.1)=true:=by decide +kernel
theorem nm3:(gK 3).all (fun r=>nmB 3 r.1)=true:=by decide +kernel
theorem nm4:(gK 4).all (fun r=>nmB 4 r.1)=true:=by decide +kernel
theorem nm6:(gK 6).all (fun r=>nmB 6 r.1)=true:=by decide +kernel
theorem nm7:(gK 7).all (fun r=>nmB 7 r.1)=true:=by decide +kernel
theorem nm8:(gK 8).all (fun r=>nmB 8 r.1)=true:=by decide +kernel
theorem bJ (a b:ByteArray):aa (a++b)=aa a++aa b:=d9 a b
theorem L1 {s:ByteArray} (h1:s.size≤512) (h2:0<s.size) (h3:bG (bAt (aa s) 0)=true) (h4:(aa s).all bn=true):dQ s=true:=by
 have hl:(aa s).length=s.size:=ar s
 unfold dQ
 rw [Ex.nameB_nameL]
 unfold iN
 rw [h3,decide_eq_true h1]
 have hr:bu bn (aa s)=(aa s).length:=lq _ _ _ (Nat.le_refl _) (fun i hi=>by
  have:=List.all_eq_true.1 h4 (bAt (aa s) i) (List.mem_of_getElem? (rB hi))
  exact this) (fun h=>absurd h (Nat.lt_irrefl _))
 rw [hr,hl]
 simp [h2]
def wh (i:Nat) (v:Int):Bool:=(aa (bW i v)).all bn
theorem P2:∀ j:Fin 2,wh 0 (j.val:Int)=true:=by decide +kernel
theorem P3:∀ j:Fin 8,wh 1 (j.val:Int)=true:=by decide +kernel
theorem P4:∀ j:Fin 16,wh 2 (j.val:Int)=true:=by decide +kernel
theorem P5:∀ j:Fin 16,wh 3 (j.val:Int)=true:=by decide +kernel
theorem P6:∀ j:Fin 8,wh 4 (j.val:Int)=true:=by decide +kernel
theorem CL {n:Int} (h0:0≤n) (h1:n<32768):dQ (cW n)=true:=by
 have hz:=sr h0 h1
 have w0:(aa (bW 0 (n / 16384))).all bn=true:=by
  obtain ⟨k,hk⟩:=Int.eq_ofNat_of_zero_le (show 0≤n / 16384 by omega)
  rw [hk];exact P2 ⟨k,by omega⟩
 have w1:(aa (bW 1 (n / 2048 % 8))).all bn=true:=by
  obtain ⟨k,hk⟩:=Int.eq_ofNat_of_zero_le (show 0≤n / 2048 % 8 by omega)
  rw [hk];exact P3 ⟨k,by omega⟩
 have w2:(aa (bW 2 (n / 128 % 16))).all bn=true:=by
  obtain ⟨k,hk⟩:=Int.eq_ofNat_of_zero_le (show 0≤n / 128 % 16 by omega)
  rw [hk];exact P4 ⟨k,by omega⟩
 have w3:(aa (bW 3 (n / 8 % 16))).all bn=true:=by
  obtain ⟨k,hk⟩:=Int.eq_ofNat_of_zero_le (show 0≤n / 8 % 16 by omega)
  rw [hk];exact P5 ⟨k,by omega⟩
 have w4:(aa (bW 4 (n % 8))).all bn=true:=by
  obtain ⟨k,hk⟩:=Int.eq_ofNat_of_zero_le (show 0≤n % 8 by omega)
  rw [hk];exact P6 ⟨k,by omega⟩
 have wu:(aa us).all bn=true:=by decide +kernel
 have e:aa (cW n)=115::(aa (dK (n / 16384+2))++(aa us++(aa (bW 1 (n / 2048 % 8))++aa us++(aa (bW 2 (n / 128 % 16))++aa us++(aa (bW 3 (n / 8 % 16))++aa us++aa (bW 4 (n % 8))))))):=by
  rw [kB,show bW 0 (n / 16384)=s1++dK (n / 16384+2) from rfl]
  simp only [bJ,show aa s1=[115] from rfl,List.append_assoc,List.cons_append,List.nil_append]
 refine L1 (by omega) ?_ ?_ ?_
 ·have:=congrArg List.length e
  rw [ar,List.length_cons] at this
  omega
 ·rw [e];rfl
 ·rw [kB]
  simp only [bJ,List.all_append,w0,w1,w2,w3,w4,wu,Bool.and_self]
theorem tab5:∀ k:Fin 9,k.val≠6→(gK (k.val:Int)).all (fun r=>decide ((cq r.1 us).length≠5))=true:=by decide +kernel
theorem zR {k:Int} (hk:k=2∨k=3∨k=4) {s:ByteArray} (hs:(cq s us).length=5):¬(ap 3 k s).2=0:=by
 have ha:ka k s=s:=by
  unfold ka
  rw [if_neg,if_neg]
  ·rintro ⟨-,rfl⟩
   revert hs;decide +kernel
  ·rintro ⟨-,rfl⟩
   revert hs;decide +kernel
 unfold ap
 rw [if_neg (by omega),ha]
 cases hn:jR (gK k) s with
 | none =>
  simp only
  rw [if_neg (by omega)]
  decide
 | some m =>
  exfalso
  have hm:=qf hn
  obtain ⟨j,rfl⟩:=Int.eq_ofNat_of_zero_le (show 0≤k by omega)
  have:=List.all_eq_true.1 (tab5 ⟨j,by omega⟩ (by simp only;omega)) _ hm
  simp [hs] at this
theorem PU {n:Int} (h0:0≤n) (h1:n<32768):nmB 6 (cW n)=true:=by
 have h5:(cq (cW n) us).length=5:=by rw [mV h0 h1];rfl
 have hr:¬(fm 3 (cW n)).2=0:=fun h=>by have:=Iz h;omega
 unfold nmB
 rw [CL h0 h1,decide_eq_false hr,decide_eq_false (zR (.inr (.inl rfl)) h5),decide_eq_false (zR (.inl rfl) h5),decide_eq_false (zR (.inr (.inr rfl)) h5)]
 simp
theorem PT {k n:Int} (hk:k=2∨k=3∨k=4∨k=6∨k=7∨k=8) (h:(ay k n).2=0):nmB k (ay k n).1=true:=by
 have h2:=h
 unfold ay at h2 ⊢
 rw [if_neg (by omega)] at h2 ⊢
 cases hn:jQ (gK k) n with
 | some s =>
  have hm:=ow hn
  simp only
  rcases hk with rfl | rfl | rfl | rfl | rfl | rfl
  ·exact List.all_eq_true.1 nm2 _ hm
  ·exact List.all_eq_true.1 nm3 _ hm
  ·exact List.all_eq_true.1 nm4 _ hm
  ·exact List.all_eq_true.1 nm6 _ hm
  ·exact List.all_eq_true.1 nm7 _ hm
  ·exact List.all_eq_true.1 nm8 _ hm
 | none =>
  rw [hn] at h2
  simp only at h2 ⊢
  split at h2
  ·rename_i hc
   rw [if_pos hc]
   obtain ⟨rfl,h0,h1⟩:=hc
   exact PU h0 h1
  ·cases h2
theorem iU {k n:Int} (hk:k=2∨k=3∨k=4∨k=6∨k=7∨k=8) (h:(ay k n).2=0) :
  dQ (ay k n).1=true∧¬(fm 3 (ay k n).1).2=0∧(¬k=3→¬(ap 3 3 (ay k n).1).2=0)∧(k=4→¬(ap 3 2 (ay k n).1).2=0) ∧
  (k=6→¬(ap 3 2 (ay k n).1).2=0∧¬(ap 3 4 (ay k n).1).2=0) ∧
  (k=7→¬(ap 3 2 (ay k n).1).2=0∧¬(ap 3 4 (ay k n).1).2=0∧¬(ap 3 6 (ay k n).1).2=0) ∧
  (k=8→¬(ap 3 2 (ay k n).1).2=0∧¬(ap 3 4 (ay k n).1).2=0∧¬(ap 3 7 (ay k n).1).2=0):=by
 have hB:=PT hk h
 unfold nmB at hB
 simp only [Bool.and_eq_true,Bool.or_eq_true,decide_eq_true_eq,Bool.not_eq_true',decide_eq_false_iff_not] at hB
 obtain ⟨b1,b2,b3,b4,b5,b6,b7⟩:=hB
 exact ⟨b1,b2,fun h=>b3.resolve_left h,fun h=>b4.resolve_left (not_not_intro h),fun h=>b5.resolve_left (not_not_intro h),fun h=>b6.resolve_left (not_not_intro h),fun h=>b7.resolve_left (not_not_intro h)⟩
theorem kO {k n:Int} (h:(ay k n).2=0):ap 3 k (ay k n).1=(n,0):=(there (show ay k n=((ay k n).1,0) by rw [← h])).1
theorem rX {k n:Int} (hk:1≤k∧k≤8) (h:(ay k n).2=0):iE 3 (ay k n).1=true:=Ap hk (kO h)
theorem wX {s:ByteArray} (h:dQ s=true):¬s=emp:=fun e=>by rw [e] at h;revert h;decide +kernel
theorem D7 {s:ByteArray} (h:iE 3 s=false):¬(fm 3 s).2=0:=fun h2=>by
 have:ap 3 1 s=(oy (fm 3 s).1,0):=by unfold ap;rw [if_pos rfl,if_pos h2]
 rw [Ap (by decide) this] at h;cases h
theorem D6 {s:ByteArray} (h:iE 3 s=false):¬(ap 3 3 s).2=0:=fun h2=>by
 have:ap 3 3 s=((ap 3 3 s).1,0):=by rw [← h2]
 rw [Ap (by decide) this] at h;cases h
end
section
open Go.RowKit
def aloneM (o:OpV):Bool:=(o.kind==5)&&((o.mode==0)&&((decide (o.add=0)&&(decide (o.plus=emp)&&decide (o.minus=emp)))&&!o.lo))
theorem Hq {s:ByteArray} (h:0<s.size):gt s bc=(ac s 0==35):=by
 have e:bc=aQ [35]:=rfl
 have h1:=JO s 35 ⟨by decide,by decide⟩
 rw [← e] at h1
 unfold kX at h1
 cases hp:gt s bc
 ·rw [hp,if_neg (by decide)] at h1
  by_cases hb:ac s 0=35
  ·rw [if_pos ⟨h,hb⟩] at h1
   cases (congrArg Prod.snd h1)
  ·rw [beq_eq_false_iff_ne.2 hb]
 ·rw [hp,if_pos rfl] at h1
  by_cases hb:ac s 0=35
  ·rw [hb];rfl
  ·rw [if_neg (fun h=>hb h.2)] at h1
   cases (congrArg Prod.snd h1)
theorem JV:∀ (f n:Nat),0<f→0<(Ex.decG f n).length
 | 0,n,h=>absurd h (Nat.not_lt_zero _)
 | f+1,n,_=>by
  rw [Ex.decG]
  split
  ·simp
  ·rw [List.length_append];simp
theorem JW (n:Nat):0<(Ex.decS n).size:=by
 show 0<(Ex.decG 20 n).toArray.size
 rw [List.size_toArray]
 exact JV 20 n (by decide)
theorem IH (n:Int):0<(Ex.signS n).size:=by
 unfold Ex.signS
 have h4:(⟨#[43]⟩:ByteArray).size=1:=rfl
 have h5:(⟨#[45]⟩:ByteArray).size=1:=rfl
 split<;>rw [ByteArray.size_append]<;>omega
theorem Em {v:Val} (h:(Ex.printF v).2=0):0<(Ex.printF v).1.size:=by
 have h1:=JW v.add.toNat
 have h2:=IH v.add
 have h4:(⟨#[48]⟩:ByteArray).size=1:=rfl
 have h5:(⟨#[45]⟩:ByteArray).size=1:=rfl
 unfold Ex.printF at h ⊢
 split at h
 ·cases h
 rename_i c1
 rw [if_neg c1]
 split at h
 ·cases h
 rename_i c2
 rw [if_neg c2]
 by_cases c3:v.plus=emp∧v.minus=emp
 ·rw [if_pos c3]
  split<;>assumption
 ·rw [if_neg c3]
  by_cases p:v.plus=emp
  ·have m:¬v.minus=emp:=fun m=>c3 ⟨p,m⟩
   simp only [p,m,if_true,if_false]
   split<;>simp only [ByteArray.size_append]<;>omega
  ·have hp:0<v.plus.size:=wN p
   simp only [p,if_false]
   repeat' split
   all_goals try simp only [ByteArray.size_append]
   all_goals omega
theorem sc {r:hP} (h:(aV r).2=0):0<(aV r).1.size:=by
 unfold aV at h ⊢
 by_cases c:r.n<0∨31<r.n∨(r.sp=true∧¬r.n=31)
 ·rw [if_pos c] at h
  cases h
 ·rw [if_neg c]
  repeat' split
  all_goals first
   | decide
   | (simp only [ByteArray.size_append];first | (have:xS.size=1:=rfl;omega) | (have:wS.size=1:=rfl;omega))
theorem Ou:∀ k:Fin 9,(gK (k.val:Int)).all (fun r=>decide (0<r.1.size))=true:=by decide +kernel
theorem H7 {k n:Int} (h:(ay k n).2=0):0<(ay k n).1.size:=by
 unfold ay at h ⊢
 by_cases k1:k=1
 ·rw [if_pos k1] at h ⊢
  split at h
  ·cases h
  rename_i c
  rw [if_neg c]
  exact sc h
 rw [if_neg k1] at h ⊢
 split at h
 ·rename_i s hs
  have hm:=ow hs
  have hk:=(Fc hm).1
  have:=Ou ⟨k.toNat,by omega⟩
  rw [show (((⟨k.toNat,by omega⟩:Fin 9).val:Nat):Int)=k by simp only;omega,List.all_eq_true] at this
  have:=this _ hm
  rw [decide_eq_true_eq] at this
  exact this
 ·rename_i hs
  split at h
  ·rename_i c
   rw [if_pos c]
   unfold cW
   simp only [ByteArray.size_append]
   have:s1.size=1:=rfl
   omega
  ·cases h
theorem HR (o:OpV):0<(gG o).size:=by
 have f1:brS.size=1:=rfl
 unfold gG
 repeat' split
 all_goals simp only [ByteArray.size_append]
 all_goals omega
theorem BH (k n:Int):0<(dU k n).size:=by
 unfold dU
 split
 ·rename_i h;exact H7 h
 ·have f1:bc.size=1:=rfl
  simp only [ByteArray.size_append]
  omega
theorem IV {o:OpV} (hc:fi o=0):0<(aT o).size:=by
 obtain ⟨hf,hp,-⟩:=dz hc
 obtain ⟨-,hk⟩:=dr hf
 have h1:bc.size=1:=rfl
 have h2:Bx.size=6:=rfl
 have g:=fun k=>BH k o.n
 have hv:0<(mh o).size:=Em hp
 have hl:0<(j6 o).size:=by
  unfold j6
  split<;>simp only [ByteArray.size_append]<;>omega
 unfold aT
 by_cases k1:o.kind=1
 ·rw [if_pos k1,ByteArray.size_append]
  have hr:iO o.r=true:=by
   rcases hk with h | h | h | h | h
   ·exact h.2.1
   ·omega
   ·omega
   ·omega
   ·omega
  have:0<(dy o.r).size:=sc (by unfold iO at hr;simpa using hr)
  omega
 rw [if_neg k1]
 split
 ·rw [ByteArray.size_append];omega
 split
 ·split
  ·rw [ByteArray.size_append];omega
  ·exact hv
 split
 ·exact g _
 split
 ·exact g _
 split
 ·exact g _
 split
 ·exact g _
 split
 ·exact g _
 ·exact HR o
theorem sG (s:ByteArray):fH s=s.data.toList.contains 44:=by
 unfold fH
 exact (Lib.contains_iff_indexByte _ _).symm
theorem ci (a b:ByteArray):fH (a++b)=(fH a||fH b):=by
 rw [sG,sG,sG]
 simp [ByteArray.data_append,Array.toList_append]
theorem GY {r:hP} (h:iO r=true):fH (dy r)=false:=by
 have key:∀ i:Fin 32,∀ x p:Bool,fH (dy ⟨(i.val:Int),x,p⟩)=false:=by decide +kernel
 have hn:0≤r.n∧r.n≤31:=by
  unfold iO aV at h
  by_cases c:r.n<0∨31<r.n∨(r.sp=true∧¬r.n=31)
  ·rw [if_pos c] at h;cases h
  ·omega
 have:=key ⟨r.n.toNat,by omega⟩ r.x r.sp
 rwa [show (((⟨r.n.toNat,by omega⟩:Fin 32).val:Nat):Int)=r.n by simp only;omega] at this
theorem Dw {o:OpV} (hm:eN o=true) (hk:o.kind=5):(!fH (gG o))=aloneM o:=by
 obtain ⟨h1,-,h3⟩:=ng hm
 have hr:=GY h1
 have c1:fH gr=true:=by decide +kernel
 have c2:fH J3=true:=by decide +kernel
 have c3:fH brS=false:=by decide +kernel
 have c4:fH ekS=false:=by decide +kernel
 unfold gG aloneM
 rw [hk]
 by_cases e1:o.mode=1
 ·rw [if_pos e1,ci,ci,ci,ci,c1,e1];simp
 rw [if_neg e1]
 by_cases e2:o.mode=2
 ·rw [if_pos e2,ci,ci,ci,c2,e2];simp
 rw [if_neg e2]
 by_cases e3:o.mode=3
 ·rw [if_pos e3,e3]
  split
  ·rw [ci,ci,ci,ci,c1];simp
  ·rw [ci,ci,ci,ci,ci,c1];simp
 rw [if_neg e3]
 have e0:o.mode=0:=by
  rcases h3 with h | h | h | h
  ·exact h
  ·exact absurd h e1
  ·exact absurd h e2
  ·exact absurd h.1 e3
 rw [e0]
 split
 ·rename_i h
  rw [ci,ci,c3,hr,c4,decide_eq_true h.1.1,decide_eq_true h.1.2.1,decide_eq_true h.1.2.2,h.2];rfl
 ·rename_i h
  rw [ci,ci,ci,ci,c1]
  simp only [Bool.or_true,Bool.true_or,Bool.not_true]
  by_cases a1:o.add=0
  ·by_cases a2:o.plus=emp
   ·by_cases a3:o.minus=emp
    ·have a4:o.lo=true:=by
      cases hl:o.lo
      ·exact absurd ⟨⟨a1,a2,a3⟩,hl⟩ h
      ·rfl
     rw [a4];simp
    ·rw [decide_eq_false a3];simp
   ·rw [decide_eq_false a2];simp
  ·rw [decide_eq_false a1];simp
theorem zzu7 {a b:OpV} (hca:fi a=0) (hcb:fi b=0):fE a b=(aloneM a&&(ac (aT b) 0==35)):=by
 unfold fE
 rw [Hq (IV hcb)]
 by_cases k5:a.kind=5
 ·obtain ⟨hf,-,-⟩:=dz hca
  obtain ⟨-,hk⟩:=dr hf
  have hm:eN a=true:=by
   rcases hk with h | h | h | h | h
   ·omega
   ·omega
   ·omega
   ·omega
   ·exact h.2
  have eT:aT a=gG a:=by
   unfold aT
   rw [if_neg (by omega),if_neg (by omega),if_neg (by omega),if_neg (by omega),if_neg (by omega),if_neg (by omega),if_neg (by omega),if_neg (by omega)]
  rw [eT,Dw hm k5,k5]
  cases aloneM a<;>cases (ac (aT b) 0==35)<;>rfl
 ·have e:aloneM a=false:=by unfold aloneM;rw [beq_eq_false_iff_ne.2 k5];rfl
  rw [e,beq_eq_false_iff_ne.2 k5]
  simp
end
section
open Go.RowKit
open Ex (aK aZ valT txtL ValOk th)
def bY:List (Bool×Tok)→List Int
 | []=>[]
 | (b,t)::r=>(if b=true then [32] else [])++(txtL t++bY r)
theorem lB:∀ a b:List (Bool×Tok),bY (a++b)=bY a++bY b
 | [],b=>rfl
 | (x,t)::a,b=>by
  rw [List.cons_append,bY,bY,lB a b,List.append_assoc,List.append_assoc]
def eF:Option Tok→List (Bool×Tok)→Prop
 | _,[]=>True
 | p,(b,t)::r=>(b=true∨th p t=false)∧eF (some t) r
def j8 (l:List (Bool×Tok)):Prop:=∀ u∈l,dN u.2=0∧0≤u.2.n∧u.2.n<18446744073709551616
theorem nH {a b:List (Bool×Tok)} (ha:j8 a) (hb:j8 b):j8 (a++b):=fun u hu=>(List.mem_append.1 hu).elim (ha u) (hb u)
theorem bg {x:Bool×Tok} {b:List (Bool×Tok)} (ha:dN x.2=0∧0≤x.2.n∧x.2.n<18446744073709551616) (hb:j8 b):j8 (x::b):=fun u hu=>by
 rcases List.mem_cons.1 hu with rfl | hu
 ·exact ha
 ·exact hb u hu
theorem gm:j8 []:=fun u hu=>by cases hu
theorem AF {t:Tok} {r:List (Bool×Tok)} (hf:eF (some t) r) (hr:j8 r):Ex.After t (bY r):=by
 cases r with
 | nil=>exact ⟨fun _=>.inl rfl,fun _ h=>by simp [bY] at h⟩
 | cons u r =>
  obtain ⟨b,u⟩:=u
  obtain ⟨hu,hn,-⟩:=hr (b,u) (List.mem_cons_self ..)
  unfold bY
  obtain ⟨hs,-⟩:=hf
  cases b with
  | true =>
   rw [if_pos rfl]
   exact ⟨fun _=>.inr rfl,fun _ h=>absurd h.2 (by show ¬(32:Int)=47;decide)⟩
  | false =>
   have hap:Ex.apartF t u=false:=hs.resolve_left (by simp)
   rw [if_neg (by simp),List.nil_append]
   obtain ⟨q0,q1,q2,q3,q4⟩:=Ex.txt_head hu hn (bY r)
   unfold Ex.apartF at hap
   simp only [Bool.or_eq_false_iff,Bool.and_eq_false_iff] at hap
   refine ⟨fun hw=>.inr ?_,fun hsl h=>?_⟩
   ·rw [q1]
    cases hwy:bn (bAt (txtL u) 0) with
    | false=>rfl
    | true =>
     have:=q3 hwy
     rw [hw,this] at hap
     simp at hap
   ·have:=q4 (q1▸h.2)
    rw [hsl,this] at hap
    simp at hap
theorem tW:∀ {l:List (Bool×Tok)} (p:Option Tok) (q:Nat),j8 l→eF p l →
  ∃ ts,bB q (bY l)=(ts,q+(bY l).length,0)∧ts.map dH=l.map fun u=>dH u.2
 | [],p,q,_,_=>⟨[],eR rfl,rfl⟩
 | (b,t)::r,p,q,h,hf=>by
  obtain ⟨c1,c2,c3⟩:=h (b,t) (List.mem_cons_self ..)
  have hr:j8 r:=fun u hu=>h u (List.mem_cons_of_mem _ hu)
  have hA:=AF hf.2 hr
  obtain ⟨t0,o1,o2,o3,o4⟩:=Ex.one_text c1 c2 c3 hA
  have main:∀ q:Nat,∃ ts,bB q (txtL t++bY r)=(ts,q+(txtL t++bY r).length,0)∧ts.map dH=((b,t)::r).map fun u=>dH u.2:=by
   intro q
   obtain ⟨ts,i1,i2⟩:=tW (some t) (q+(txtL t).length) hr hf.2
   have hk:=rk o4 o3 o1 q
   rw [List.drop_left,i1] at hk
   refine ⟨{ t0 with pos:=(q:Int) }::ts,?_,?_⟩
   ·rw [hk,List.length_append,Nat.add_assoc]
   ·rw [List.map_cons,List.map_cons,i2,← o2]
    rfl
  unfold bY
  cases b with
  | true =>
   rw [if_pos rfl]
   obtain ⟨ts,m1,m2⟩:=main (q+1)
   refine ⟨ts,?_,m2⟩
   rw [i6 (bs:=[32]) (by intro c hc;simp at hc;subst hc;rfl)]
   show bB (q+1) _=_
   rw [m1]
   simp only [List.length_append,List.length_cons,List.length_nil]
   congr 2
   omega
  | false =>
   rw [if_neg (by simp),List.nil_append]
   exact main q
def sg (s:ByteArray):Bool×Tok:=(false,aK s)
def jl (s:ByteArray):Prop:=dN (aK s)=0∧s≠⟨#[47]⟩
theorem cV:jl aY:=⟨by decide +kernel,by decide⟩
theorem gE:jl bc:=⟨by decide +kernel,by decide⟩
theorem kU:jl dO:=⟨by decide +kernel,by decide⟩
theorem Gc:jl AN:=⟨by decide +kernel,by decide⟩
theorem nF:jl dE:=⟨by decide +kernel,by decide⟩
theorem Aj:jl rD:=⟨by decide +kernel,by decide⟩
theorem eA {s:ByteArray} (h:jl s) (r:List (Bool×Tok)):bY (sg s::r)=aa s++bY r:=by
 rw [sg,bY,if_neg (by simp),List.nil_append,Ex.txt_sgn h.1]
theorem qj {s:ByteArray} (h:dQ s=true) (b:Bool) (r:List (Bool×Tok)):bY ((b,aZ s)::r)=(if b=true then [32] else [])++(aa s++bY r):=by
 rw [bY,Ex.txt_name h]
theorem Cs {s:ByteArray} (h:dQ s=true) (r:List (Bool×Tok)):bY ((false,aZ s)::r)=aa s++bY r:=qj h false r
theorem Lt {s:ByteArray} (h:dQ s=true) (r:List (Bool×Tok)):bY ((true,aZ s)::r)=32::(aa s++bY r):=qj h true r
theorem Lu {s:ByteArray} (h:jl s) (r:List (Bool×Tok)):bY ((true,aK s)::r)=32::(aa s++bY r):=by
 rw [bY,Ex.txt_sgn h.1];rfl
theorem Ct {n:Int} (h:0≤n) (h2:n<18446744073709551616) (r:List (Bool×Tok)):bY ((false,Ex.numT n)::r)=aa (gV n)++bY r:=by
 obtain ⟨k,rfl⟩:=Int.eq_ofNat_of_zero_le h
 rw [bY,if_neg (by simp),List.nil_append,Ex.txt_num h,← Ex.decS_dL (by omega)]
 rfl
theorem eD {s:ByteArray} (h:jl s):dN (sg s).2=0∧0≤(sg s).2.n∧(sg s).2.n<18446744073709551616:=⟨h.1,by show (0:Int)≤0;decide,by show (0:Int)<_;decide⟩
theorem LZ {s:ByteArray} (h:jl s):dN (true,aK s).2=0∧0≤(true,aK s).2.n∧(true,aK s).2.n<18446744073709551616:=eD h
theorem oS {s:ByteArray} (h:dQ s=true) (b:Bool):dN (b,aZ s).2=0∧0≤(b,aZ s).2.n∧(b,aZ s).2.n<18446744073709551616:=⟨Ex.check_name h,by show (0:Int)≤0;decide,by show (0:Int)<_;decide⟩
theorem CG {n:Int} (h:0≤n) (h2:n<18446744073709551616):dN (false,Ex.numT n).2=0∧0≤(false,Ex.numT n).2.n∧(false,Ex.numT n).2.n<18446744073709551616:=⟨Ex.check_num n,h,h2⟩
theorem Oj (p:Option Tok) {s:ByteArray} (h:jl s):th p (aK s)=false:=by
 cases p with
 | none=>rfl
 | some t=>exact Ex.sep_sgn t h.2
theorem eg {p:Option Tok} {s:ByteArray} {r:List (Bool×Tok)} (h:jl s) (hr:eF (some (aK s)) r):eF p (sg s::r):=⟨.inr (Oj p h),hr⟩
theorem jt {s:ByteArray} {b:Bool} {t:Tok} {r:List (Bool×Tok)} (h:jl s) (hr:eF (some t) r):eF (some (aK s)) ((b,t)::r):=⟨.inr (Ex.sgn_sep t h.2),hr⟩
theorem qa {p:Option Tok} {t:Tok} {r:List (Bool×Tok)} (hr:eF (some t) r):eF p ((true,t)::r):=⟨.inl rfl,hr⟩
def rm (v:Val):List (Bool×Tok):=(valT v).map fun t=>(false,t)
theorem nG:jl Ex.minusS:=⟨Ex.sgnM,Ex.minus_ne⟩
theorem Gd:jl Ex.plusS:=⟨Ex.sgnP,Ex.plus_ne⟩
theorem px {p:Option Tok} (hp:∀ t,th p t=false) {r:List (Bool×Tok)} (hr:∀ u,eF (some u) r) (v:Val):eF p (rm v++r):=by
 have first:∀ {t:Tok} {r:List (Bool×Tok)},eF (some t) r→eF p ((false,t)::r):=fun h=>⟨.inr (hp _),h⟩
 have tail:∀ t:Tok,eF (some t) ((Ex.tailT v.add).map (fun t=>(false,t))++r):=fun t=>by
  unfold Ex.tailT
  split
  ·exact hr t
  ·split
   ·exact eg nG (jt nG (hr _))
   ·exact eg Gd (jt Gd (hr _))
 unfold rm valT
 split
 ·split
  ·exact eg nG (jt nG (hr _))
  ·exact first (hr _)
 ·rw [List.map_cons,List.cons_append,List.map_append,List.append_assoc]
  refine first ?_
  unfold Ex.midT
  by_cases hm:v.minus=emp
  ·rw [if_pos hm];exact tail _
  ·rw [if_neg hm];exact eg nG (jt nG (tail _))
theorem yH:∀ {l:List Tok} {p:Option Tok},eF p (l.map fun t=>(false,t))→Ex.rendL p l=bY (l.map fun t=>(false,t))
 | [],p,_=>rfl
 | t::r,p,h=>by
  have hs:th p t=false:=h.1.resolve_left (by simp)
  rw [Ex.rendL,List.map_cons,bY,yH h.2,hs]
theorem Cv {v:Val} (h:(Ex.printF v).2=0) (hv:ValOk v):bY (rm v)=aa (Ex.printF v).1:=by
 have e:=Ex.val_rend (v:=v) (s:=(Ex.printF v).1) (by rw [← h]) hv
 rw [e]
 have:=px (p:=none) (fun t=>rfl) (r:=[]) (fun u=>trivial) v
 rw [List.append_nil] at this
 exact (yH this).symm
theorem sm {v:Val} (hv:ValOk v):j8 (rm v):=fun u hu=>by
 obtain ⟨t,ht,rfl⟩:=List.mem_map.1 hu
 exact Ex.val_toks hv t ht
def spB:List (Bool×Tok)→List (Bool×Tok)
 | []=>[]
 | (_,t)::r=>(true,t)::r
theorem Oq {a b:List (Bool×Tok)} (h:a≠[]):spB (a++b)=spB a++b:=by
 cases a with
 | nil=>exact absurd rfl h
 | cons x a=>rfl
theorem F4 {l:List (Bool×Tok)} {t:Tok} {r:List (Bool×Tok)} (h:l=(false,t)::r):bY (spB l)=32::bY l:=by
 rw [h,spB,bY,bY];rfl
theorem Gf {l:List (Bool×Tok)} (h:j8 l):j8 (spB l):=by
 cases l with
 | nil=>exact h
 | cons x l=>exact bg (h x (List.mem_cons_self ..)) fun u hu=>h u (List.mem_cons_of_mem _ hu)
theorem FJ {p q:Option Tok} {l:List (Bool×Tok)} (h:eF p l):eF q (spB l):=by
 cases l with
 | nil=>trivial
 | cons x l=>exact ⟨.inl rfl,h.2⟩
theorem uM (l:List (Bool×Tok)):(spB l).map (·.2)=l.map (·.2):=by
 cases l<;>rfl
def mR (o:OpV):List (Bool×Tok):=if o.lo=true then sg dO::(false,aZ lR)::sg dO::rm o.val else sg bc::rm o.val
def rS (o:OpV) (silent:Bool):List (Bool×Tok):=if o.md=0 then [] else if silent=true then [sg aY,(true,aZ (ay 3 o.md).1)] else [sg aY,(true,aZ (ay 3 o.md).1),(true,aK bc),(false,Ex.numT o.amt)]
def gC (kd n:Int):List (Bool×Tok):=if (ay kd n).2=0 then [(false,aZ (ay kd n).1)] else [sg bc,(false,Ex.numT n)]
def vR (o:OpV):List (Bool×Tok):=sg AN::(false,aZ (dy o.r)) ::
 (
  if o.mode=1 then sg aY::(spB (mR o)++[sg dE,sg rD])
  else if o.mode=2 then sg dE::sg aY::spB (mR o)
  else if o.mode=3 then sg aY::(true,aZ (dy o.m))::((if o.md=1∧o.amt = -1 then [] else rS o (o.amt == -1))++[sg dE])
  else if (o.add=0∧o.plus=emp∧o.minus=emp)∧o.lo=false then [sg dE]
  else sg aY::(spB (mR o)++[sg dE]))
def gX (o:OpV):List (Bool×Tok) :=
 if o.kind=1 then (false,aZ (dy o.r))::rS o (decide (5≤o.md)&&decide (o.amt=0))
 else if o.kind=2 then mR o++rS o false
 else if o.kind=3 then (if kW o=true then sg bc::rm o.val else rm o.val)
 else if o.kind=4 then gC 2 o.n
 else if o.kind=6 then gC 6 o.n
 else if o.kind=7 then gC 4 o.n
 else if o.kind=8 then gC 7 o.n
 else if o.kind=9 then gC 8 o.n
 else vR o
theorem Bu:dQ lR=true:=by decide +kernel
theorem tA:aa gr=[44,32]:=rfl
theorem mp:aa aY=[44]:=rfl
theorem Pu:aa bc=[35]:=rfl
theorem M3:aa Af=[32,35]:=rfl
theorem b_colon:aa dO=[58]:=rfl
theorem GS:aa brS=[91]:=rfl
theorem xE:aa AN=[91]:=rfl
theorem M2:aa ekS=[93]:=rfl
theorem xF:aa dE=[93]:=rfl
theorem QC:aa Ng=[93,33]:=rfl
theorem QD:aa J3=[93,44,32]:=rfl
theorem Jy:aa rD=[33]:=rfl
theorem b_lo:aa Bx=[58,108,111,49,50,58]:=rfl
theorem b_lo12:aa lR=[108,111,49,50]:=rfl
theorem vP (o:OpV):∃ t r,mR o=(false,t)::r:=by
 unfold mR
 split
 ·exact ⟨_,_,rfl⟩
 ·exact ⟨_,_,rfl⟩
theorem Cr {o:OpV} (h:(prO o).2=0) (hv:ValOk o.val):bY (mR o)=aa (j6 o):=by
 have e:bY (rm o.val)=aa (mh o):=Cv h hv
 unfold mR j6
 split
 ·rw [eA kU,qj Bu,eA kU,e,bJ]
  rfl
 ·rw [eA gE,e,bJ]
theorem CF {o:OpV} (hv:ValOk o.val):j8 (mR o):=by
 unfold mR
 split
 ·exact bg (eD kU) (bg (oS Bu _) (bg (eD kU) (sm hv)))
 ·exact bg (eD gE) (sm hv)
theorem Bf {p:Option Tok} {r:List (Bool×Tok)} (hr:∀ u,eF (some u) r) (o:OpV):eF p (mR o++r):=by
 unfold mR
 split
 ·exact eg kU (jt kU (eg kU (px (fun t=>Ex.sgn_sep t kU.2) hr _)))
 ·exact eg gE (px (fun t=>Ex.sgn_sep t gE.2) hr _)
def FY (o:OpV):Prop:=o.md=0∨(ay 3 o.md).2=0
theorem wz {o:OpV} {s:Bool} (h:FY o) (ha:s=true∨0≤o.amt∧o.amt<100):bY (rS o s)=aa (kK o s):=by
 unfold rS kK
 split
 ·rfl
 ·rename_i hm
  have hn:=h.resolve_left hm
  have hs:=(iU (.inr (.inl rfl)) hn).1
  split
  ·rw [eA cV,qj hs,bJ,tA,mp,bY,List.append_nil]
   rfl
  ·rename_i hx
   obtain ⟨a0,a1⟩:=ha.resolve_left (by simpa using hx)
   rw [eA cV,qj hs,Lu gE,Ct a0 (by omega),bJ,bJ,bJ,tA,mp,M3,Pu,bY,List.append_nil]
   simp
theorem wV {o:OpV} {s:Bool} (h:FY o) (ha:s=true∨0≤o.amt∧o.amt<100):j8 (rS o s):=by
 unfold rS
 split
 ·exact gm
 ·rename_i hm
  have hs:=(iU (.inr (.inl rfl)) (h.resolve_left hm)).1
  split
  ·exact bg (eD cV) (bg (oS hs _) gm)
  ·rename_i hx
   obtain ⟨a0,a1⟩:=ha.resolve_left (by simpa using hx)
   exact bg (eD cV) (bg (oS hs _) (bg (LZ gE) (bg (CG a0 (by omega)) gm)))
theorem vx {p:Option Tok} (hp:∃ t,p=some t) {r:List (Bool×Tok)} (hr:∀ u,eF (some u) r) (o:OpV) (s:Bool):eF p (rS o s++r):=by
 unfold rS
 split
 ·obtain ⟨t,rfl⟩:=hp
  exact hr t
 ·split
  ·exact eg cV (qa (hr _))
  ·exact eg cV (qa (qa (jt gE (hr _))))
theorem lZ {k n:Int} (hk:k=2∨k=3∨k=4∨k=6∨k=7∨k=8) (h:(ay k n).2=0∨0≤n∧n<100):bY (gC k n)=aa (dU k n):=by
 unfold gC dU
 split
 ·rename_i hn
  rw [qj (iU hk hn).1,bY,List.append_nil];rfl
 ·rename_i hn
  obtain ⟨a0,a1⟩:=h.resolve_left hn
  rw [eA gE,Ct a0 (by omega),bJ,bY,List.append_nil]
theorem me {k n:Int} (hk:k=2∨k=3∨k=4∨k=6∨k=7∨k=8) (h:(ay k n).2=0∨0≤n∧n<100):j8 (gC k n):=by
 unfold gC
 split
 ·rename_i hn
  exact bg (oS (iU hk hn).1 _) gm
 ·rename_i hn
  obtain ⟨a0,a1⟩:=h.resolve_left hn
  exact bg (eD gE) (bg (CG a0 (by omega)) gm)
theorem lN {p:Option Tok} (hp:∀ t,th p t=false) {r:List (Bool×Tok)} (hr:∀ u,eF (some u) r) (k n:Int):eF p (gC k n++r):=by
 unfold gC
 split
 ·exact ⟨.inr (hp _),hr _⟩
 ·exact eg gE (jt gE (hr _))
end
end Go.Proofs.YthcoegkfpinlfaaGreatDoor
