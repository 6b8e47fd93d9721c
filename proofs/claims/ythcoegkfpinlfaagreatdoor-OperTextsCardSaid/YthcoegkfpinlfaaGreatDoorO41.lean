import Derived.Test.YthcoegkfpinlfaaGreatDoorO40
set_option linter.unusedVariables false
set_option linter.unusedSimpArgs false
set_option maxRecDepth 100000
set_option maxHeartbeats 8000000
namespace Go.Proofs.YthcoegkfpinlfaaGreatDoor
section
open Go.RowKit
noncomputable section
def ZE (t:dy) (k:Nat) (x:AV):dy:=List.rec (motive:=fun _=>dy) [(k,x)] (fun a r ih=>cond (Nat.beq a.1 k) ((k,x)::r) (a::ih)) t
def MB (t:dy) (k:Nat):AV:=List.rec (motive:=fun _=>AV) (.s (.l .any)) (fun a _ ih=>cond (Nat.beq a.1 k) a.2 ih) t
def VI (h:aF) (k:Nat) (x:Option Blk):aF:=List.rec (motive:=fun _=>aF) [(k,x)] (fun a r ih=>cond (Nat.beq a.1 k) ((k,x)::r) (a::ih)) h
def Dg (h:aF) (E:aF):aF:=List.rec (motive:=fun _=>aF) h (fun a _ ih=>VI ih a.1 a.2) E
def NR (t:dy) (d:Option Tmp) (r:AV):dy:=match d with
 | none=>t
 | some d=>ZE t d r
def evR (t:dy) (x:Operand):AV:=match x with
 | .tmp k=>MB t k
 | x=>evT t x
def YE (ops:List Oper) (t:dy) (j:Nat):AV:=match ops[j]? with
 | some o=>match o.dst with
  | some d=>MB t d
  | none=>.s (.l .any)
 | none=>.s (.l .any)
end
theorem nbt {j k:Nat} (h:j=k):Nat.beq j k=true:=by subst h;exact Nat.beq_refl j
theorem nbf {j k:Nat} (h:¬j=k):Nat.beq j k=false:=by
 cases hb:Nat.beq j k
 ·rfl
 ·exact absurd (Nat.eq_of_beq_eq_true hb) h
theorem LX (t:dy) (k:Nat):MB t k=aW t k:=by
 induction t with
 | nil=>rfl
 | cons a r ih =>
  show cond (Nat.beq a.1 k) a.2 (MB r k)=_
  obtain ⟨j,x⟩:=a
  rw [aW,ih]
  by_cases e:j=k
  ·rw [if_pos e,nbt e]
   rfl
  ·rw [if_neg e,nbf e]
   rfl
theorem Xk (t:dy) (k j:Nat) (x:AV):aW (ZE t k x) j=aW ((k,x)::t) j:=by
 induction t with
 | nil=>rfl
 | cons a r ih =>
  obtain ⟨i,y⟩:=a
  show aW (cond (Nat.beq i k) ((k,x)::r) ((i,y)::ZE r k x)) j=_
  by_cases e:i=k
  ·subst e
   rw [nbt rfl]
   simp only [cond_true,aW]
   by_cases e2:i=j<;>simp [e2]
  ·rw [nbf e]
   simp only [cond_false,aW,ih]
   by_cases e2:k=j<;>by_cases e3:i=j<;>simp [e2,e3]
   exact absurd (e3.trans e2.symm) e
theorem XQ (h:aF) (k j:Nat) (x:Option Blk):hget (VI h k x) j=hget ((k,x)::h) j:=by
 induction h with
 | nil=>rfl
 | cons a r ih =>
  obtain ⟨i,y⟩:=a
  show hget (cond (Nat.beq i k) ((k,x)::r) ((i,y)::VI r k x)) j=_
  by_cases e:i=k
  ·subst e
   rw [nbt rfl]
   simp only [cond_true,hget]
   by_cases e2:i=j<;>simp [e2]
  ·rw [nbf e]
   simp only [cond_false,hget,ih]
   by_cases e2:k=j<;>by_cases e3:i=j<;>simp [e2,e3]
   exact absurd (e3.trans e2.symm) e
theorem JX (h:aF) (j:Nat):∀ E:aF,hget (Dg h E) j=hget (E++h) j
 | []=>rfl
 | (k,x)::E=>by
  show hget (VI (Dg h E) k x) j=_
  rw [XQ,List.cons_append,hget,hget,JX h j E]
theorem OL (t:dy) (d:Option Tmp) (r:AV) (j:Nat):aW (NR t d r) j=aW (putT t d r) j:=by
 cases d with
 | none=>rfl
 | some d=>exact Xk t d j r
theorem Rr (t:dy):evR t=evT t:=by
 funext x
 cases x with
 | tmp k=>exact LX t k
 | _=>rfl
theorem V4 (ops:List Oper) (t:dy) (j:Nat):YE ops t j=gAt ops t j:=by
 unfold YE gAt
 cases h:ops[j]? with
 | none=>rfl
 | some o =>
  simp only []
  cases hd:o.dst with
  | none=>rfl
  | some d=>exact LX _ _
theorem RepS.same {n:Nat} {B:fG} {w0:World} {ρ:Nat→Loc} {al:Al} {s s':St} {a:Act} {w:World} (H:RepS n B w0 ρ al s a w) (hn:s.nx≤s'.nx) (ht:∀ k,aW s'.t k=aW s.t k) (hh:∀ b k,hget s'.h b=some k→hget s.h b=some k):RepS n B w0 ρ al s' a w :=
 ⟨H.size,H.defers,fun k=>by rw [ht];exact H.t k,H.w.sub hh,fun b hb=>Nat.lt_of_lt_of_le (H.al b hb) hn⟩
inductive XK where
 | norm
 | ret
 | ex (id:Nat)
 | pn (v:Value)
def XK.e:XK→Exit
 | .norm=>.normal
 | .ret=>.ret
 | .ex id=>.exit id
 | .pn v=>.panic [{ v:=v,recovered:=false }]
inductive Cx where
 | go (k:XK) (s:St)
 | no (n:Nat)
def isQ (k:XK) (s':St) (e:Exit) (s:St):Prop:=e=k.e∧s=s'
noncomputable section
variable (P:Program) (call:Cl) (n:Nat)
def PI (d:Option Tmp):Bool:=match d with
 | none=>true
 | some d=>Nat.blt d n
def ZG (k:Nat→Cx) (m:Nat):Cx:=Nat.rec (motive:=fun _=>Cx) (k 0) (fun m _=>k (Nat.succ m)) m
def aftC (d:Option Tmp) (s:St) (ih:St→Cx) (r:CO):Cx:=match r with
 | .val r E=>cond (PI n d) (ZG (fun m=>ih ⟨m,NR s.t d r,Dg s.h E⟩) (s.nx+16)) (.no 50)
 | .pan v E=>.go (.pn v) ⟨s.nx+16,s.t,Dg s.h E⟩
 | .no e=>.no e
def doC (o:Oper) (s:St) (ih:St→Cx):Cx:=aftC n o.dst s ih (cOp P call s.nx o.op (evR s.t) s.h)
def skC (o:Oper) (s:St) (ih:St→Cx):Cx:=cond (PI n o.dst) (ih ⟨s.nx,NR s.t o.dst (.s (.l (.v (.tuple #[])))),s.h⟩) (.no 51)
def gdV (o:Oper) (s:St) (ih:St→Cx) (want:Bool) (v:Value):Cx:=match v with
 | .bool q=>cond (q==want) (doC P call n o s ih) (skC n o s ih)
 | .tuple ⟨[]⟩=>skC n o s ih
 | _=>.no 52
def gdA (o:Oper) (s:St) (ih:St→Cx) (want:Bool) (a:AV):Cx:=match a with
 | .s (.l (.v v))=>gdV P call n o s ih want v
 | _=>.no 52
def gdC (all:List Oper) (o:Oper) (s:St) (ih:St→Cx) (g:Option (Nat×Bool)):Cx:=match g with
 | none=>doC P call n o s ih
 | some g=>gdA P call n o s ih g.2 (YE all s.t g.1)
def Yg (all l:List Oper):St→Cx:=List.rec (motive:=fun _=>St→Cx) (fun s=>.go .norm s) (fun o _ ih s=>gdC P call n all o s ih o.guard) l
def thenK (g:St→Cx) (k:XK) (s:St):Cx:=match k with
 | .norm=>g s
 | k=>.go k s
def VG (g:St→Cx) (o:Cx):Cx:=match o with
 | .go k s=>thenK g k s
 | .no e=>.no e
def brC (g1 g2:St→Cx) (s:St) (a:AV):Cx:=match a with
 | .s (.l (.v (.bool q)))=>cond q (g1 s) (g2 s)
 | _=>.no 53
def blkK (id:Nat) (k:XK) (s:St):Cx:=match k with
 | .ex j=>cond (Nat.beq j id) (.go .norm s) (.go (.ex j) s)
 | k=>.go k s
def blkC (id:Nat) (o:Cx):Cx:=match o with
 | .go k s=>blkK id k s
 | .no e=>.no e
def Wp (g:St→Cx) (f:Nat):St→Cx:=Nat.rec (motive:=fun _=>St→Cx) (fun _=>.no 54) (fun _ ih s=>VG ih (g s)) f
def Me (draw:List Oper→St→Cx) (rng:Operand→Array Tmp→Code→Code→St→Cx) (c:Code):St→Cx:=Code.rec (motive:=fun _=>St→Cx)
 (fun s=>.go .norm s)
 (fun _ ops dr s=>cond dr (draw ops.toList s) (Yg P call n ops.toList ops.toList s))
 (fun _ _ g1 g2 s=>VG g2 (g1 s))
 (fun c _ _ g1 g2 s=>brC g1 g2 s (evR s.t c))
 (fun id _ g s=>blkC id (g s))
 (fun _ g=>Wp g 100000)
 (fun f ps as' body _ _ s=>rng f ps as' body s)
 (fun id s=>.go (.ex id) s)
 (fun _ _ _=>.no 55)
 (fun _ s=>.go .norm s)
 (fun _ _=>.no 56)
 (fun s=>.go .ret s)
 (fun _ _=>.no 57) c
end
section
variable {P:Program} {ctx:Ctx P} {call:Cl} {n:Nat} {ro:Cf}
theorem N7 {d:Option Tmp} (h:PI n d=true):aG n d=true:=by
 cases d with
 | none=>rfl
 | some d =>
  have:d<n:=by simpa [PI,Nat.blt_eq] using h
  simpa [aG] using this
theorem WD (k:Nat→Cx):∀ m,ZG k m=k m
 | 0=>rfl
 | _+1=>rfl
def opsQ (k:XK) (s':St) (n:Nat) (B:fG) (w0:World):Exit→Act→World→Prop:=fun e a w=>∃ ρ al,e=k.e∧RepS n B w0 ρ al s' a w
theorem VX (hc:NO ctx call) {all:List Oper} {B:fG} {w0:World} {k:XK} {s':St}:∀ (l:List Oper) (s:St) (ρ:Nat→Loc) (al:Al) (a:Act) (w:World),RepS n B w0 ρ al s a w→Yg P call n all l s=.go k s'→wpListIn (Fw ro) 0 P all.toArray (opsQ k s' n B w0) l a w
 | [],s,ρ,al,a,w,H,h=>by
  injection h with h1 h2
  subst h1 h2
  exact ⟨ρ,al,rfl,H⟩
 | o::l,s,ρ,al,a,w,H,h=>by
  have ih:=VX hc (all:=all) (B:=B) (w0:=w0) (k:=k) (s':=s') l
  have h:gdC P call n all o s (Yg P call n all l) o.guard=.go k s':=h
  have doIt:doC P call n o s (Yg P call n all l)=.go k s'→o.wpIn (Fw ro) 0 P a w (wpListIn (Fw ro) 0 P all.toArray (opsQ k s' n B w0) l) (opsQ k s' n B w0):=by
   intro h
   unfold doC at h
   rw [Rr] at h
   cases hr:cOp P call s.nx o.op (evT s.t) s.h with
   | no e=>rw [hr] at h;cases h
   | val r E =>
    rw [hr] at h
    obtain ⟨R,h1,h2,h3,h4⟩:=VN hc hr
    subst h3 h4
    simp only [aftC] at h
    cases hd:PI n o.dst
    ·rw [hd] at h;cases h
    ·rw [hd] at h
     simp only [cond_true,WD] at h
     refine QL H h1 h2 (N7 hd) fun ρ' al' a' w' H'=>ih ⟨s.nx+16,NR s.t o.dst R.r,Dg s.h R.E⟩ ρ' al' a' w' (H'.same (s':=⟨s.nx+16,NR s.t o.dst R.r,Dg s.h R.E⟩) (Nat.le_refl _) (fun k=>OL _ _ _ _) fun b k hk=>?_) h
     have hk:hget (Dg s.h R.E) b=some k:=hk
     rw [JX] at hk
     exact hk
   | pan v E =>
    rw [hr] at h
    obtain ⟨ob,h1,h2⟩:=cOp_pan hc hr
    simp only [aftC] at h
    injection h with g1 g2
    subst g1 g2
    exact NX H h1 h2 fun ρ' al' w' H'=>⟨ρ',al',rfl,H'.same (s':=⟨s.nx+16,s.t,Dg s.h E⟩) (Nat.le_refl _) (fun _=>rfl) fun b k hk=>by have hk:hget (Dg s.h E) b=some k:=hk;rw [JX] at hk;exact hk⟩
  have skIt:skC n o s (Yg P call n all l)=.go k s'→(∀ f,o.about P w a.eval=some f→(Fw ro).fn f)∧wpListIn (Fw ro) 0 P all.toArray (opsQ k s' n B w0) l (a.put o.dst undef) w:=by
   intro h
   unfold skC at h
   cases hd:PI n o.dst
   ·rw [hd] at h;cases h
   ·rw [hd] at h
    simp only [cond_true] at h
    have H':RepS n B w0 ρ al ⟨s.nx,putT s.t o.dst (.s (.l (.v (.tuple #[])))),s.h⟩ (a.put o.dst undef) w:=⟨zx.trans H.size,(by rw [iK];exact H.defers),H.t.putT H.size (N7 hd) DQ,H.w,H.al⟩
    exact ⟨fun _ _=>trivial,ih ⟨s.nx,NR s.t o.dst (.s (.l (.v (.tuple #[])))),s.h⟩ ρ al _ w (H'.same (s':=⟨s.nx,NR s.t o.dst (.s (.l (.v (.tuple #[])))),s.h⟩) (Nat.le_refl _) (fun k=>OL _ _ _ _) fun b k hk=>hk) h⟩
  unfold wpListIn
  unfold gdC at h
  split at h
  ·rename_i hg
   rw [if_pos (by simp [Region.wanted,hg])]
   exact doIt h
  ·rename_i g hg
   obtain ⟨j,want⟩:=g
   simp only at h
   rw [V4] at h
   unfold gdA at h
   split at h
   case h_2=>cases h
   rename_i v hv
   unfold gdV at h
   split at h
   ·rename_i q
    have hy:=KV H.t H.size hv
    by_cases hqw:q=want
    ·have e:(q==want)=true:=by simpa using hqw
     rw [e] at h
     rw [if_pos (by simp [Region.wanted,hg,hy,hqw])]
     exact doIt h
    ·have e:(q==want)=false:=by simpa using hqw
     rw [e] at h
     rw [if_neg (by simp [Region.wanted,hg,hy,hqw])]
     exact skIt h
   ·rw [if_neg (by simp [Region.wanted,hg,MR H.t hv])]
    exact skIt h
   ·cases h
theorem Xx (hc:NO ctx call) {id:Nat} {ops:Array Oper} {s s':St} {k:XK} (h:Yg P call n ops.toList ops.toList s=.go k s'):SW P ro n (.region id ops false) s (isQ k s'):=by
 intro B w0 ρ al a w hpl H
 have:=VX (ro:=ro) hc ops.toList s ρ al a w H h
 rw [Array.toArray_toList] at this
 refine wpIn_mono (wpIn_region_list (id:=id) this) ?_
 rintro e a' w' ⟨ρ',al',rfl,H'⟩
 exact ⟨ρ',al',s',H',rfl,rfl⟩
theorem Y9 {x y:Code} {s s1 s':St} {k:XK} (h1:SW P ro n x s (isQ .norm s1)) (h2:SW P ro n y s1 (isQ k s')):SW P ro n (.seq x y) s (isQ k s'):=by
 refine Yr (h1.mono ?_)
 rintro e s2 ⟨rfl,rfl⟩
 exact h2
theorem ZZ {x y:Code} {s s':St} {k:XK} (hk:k≠.norm) (h1:SW P ro n x s (isQ k s')):SW P ro n (.seq x y) s (isQ k s'):=by
 refine Yr (h1.mono ?_)
 rintro e s2 ⟨rfl,rfl⟩
 cases k with
 | norm=>exact absurd rfl hk
 | _=>exact ⟨rfl,rfl⟩
end
end
section
open Go.RowKit
section
variable {P:Program} {ctx:Ctx P} {call:Cl} {n:Nat} {ro:Cf}
theorem SM {g:St→Cx} {k:XK} {s':St}:∀ (f:Nat) (s:St),Wp g f s=.go k s'→∃ (N:Nat) (I:Nat→St),I 0=s∧(∀ i,i<N→g (I i)=.go .norm (I (i+1)))∧g (I N)=.go k s'∧k≠.norm
 | 0,s,h=>by cases h
 | f+1,s,h=>by
  have h:VG (Wp g f) (g s)=.go k s':=h
  cases hg:g s with
  | no e=>rw [hg] at h;cases h
  | go k1 s1 =>
   rw [hg] at h
   cases k1 with
   | norm =>
    obtain ⟨N,I,h0,h1,h2,h3⟩:=SM f s1 h
    refine ⟨N+1,fun i=>match i with | 0=>s | i+1=>I i,rfl,?_,h2,h3⟩
    intro i hi
    cases i with
    | zero =>
     show g s=.go .norm (I 0)
     rw [h0]
     exact hg
    | succ i=>exact h1 i (by omega)
   | _ =>
    injection h with e1 e2
    subst e1 e2
    exact ⟨0,fun _=>s,rfl,fun i hi=>absurd hi (Nat.not_lt_zero i),hg,by simp⟩
theorem WY {ι:Type} {inv:ι→Prop} {I:ι→St} {m:ι→Nat} {i:ι} {k:XK} {s':St} (hk:k≠.norm):Lv ro inv I m i (isQ k s') k.e s':=by
 cases k with
 | norm=>exact absurd rfl hk
 | _=>exact ⟨rfl,rfl⟩
theorem iter_ok {g:St→Cx} {c:Code} (hg:∀ s k s',g s=.go k s'→SW P ro n c s (isQ k s')) {f:Nat} {s s':St} {k:XK} (h:Wp g f s=.go k s'):SW P ro n (.loop c) s (isQ k s'):=by
 obtain ⟨N,I,h0,h1,h2,h3⟩:=SM f s h
 refine fj (ι:=Nat) (fun i=>i≤N) I (fun i=>N-i) 0 (Nat.zero_le _) (by rw [h0];exact Wk.refl _ _) ?_
 intro i hi
 rcases Nat.lt_or_ge i N with hlt | hge
 ·refine (hg _ _ _ (h1 i hlt)).mono ?_
  rintro e s1 ⟨rfl,rfl⟩
  exact ⟨i+1,hlt,by show N-(i+1)<N-i;omega,Wk.refl _ _⟩
 ·obtain rfl:i=N:=by omega
  refine (hg _ _ _ h2).mono ?_
  rintro e s1 ⟨rfl,rfl⟩
  exact WY h3
def aan (P:Program) (ro:Cf) (n:Nat) (draw:List Oper→St→Cx):Prop:=∀ (id:Nat) (ops:List Oper) (s:St) (k:XK) (s':St),draw ops s=.go k s'→SW P ro n (.region id ops.toArray true) s (isQ k s')
def YI (P:Program) (ro:Cf) (n:Nat) (rng:Operand→Array Tmp→Code→Code→St→Cx):Prop:=∀ (f:Operand) (ps:Array Tmp) (as' body:Code) (s:St) (k:XK) (s':St),rng f ps as' body s=.go k s'→SW P ro n (.rangeFunc f ps as' body) s (isQ k s')
theorem Z3 (hc:NO ctx call) {draw:List Oper→St→Cx} (hd:aan P ro n draw) {rng:Operand→Array Tmp→Code→Code→St→Cx} (hr:YI P ro n rng) (c:Code):∀ (s:St) (k:XK) (s':St),Me P call n draw rng c s=.go k s'→SW P ro n c s (isQ k s'):=by
 induction c with
 | skip =>
  intro s k s' h
  injection h with h1 h2
  subst h1 h2
  exact aC (ctx:=([]:Ctx P)) 3 (by simp only [cY];exact ⟨rfl,rfl⟩)
 | region id ops dr =>
  intro s k s' h
  cases dr with
  | false=>exact Xx hc h
  | true =>
   have:=hd id ops.toList s k s' h
   rw [Array.toArray_toList] at this
   exact this
 | seq x y ihx ihy =>
  intro s k s' h
  have h:VG (Me P call n draw rng y) (Me P call n draw rng x s)=.go k s':=h
  cases hx:Me P call n draw rng x s with
  | no e=>rw [hx] at h;cases h
  | go k1 s1 =>
   rw [hx] at h
   have h1:=ihx s k1 s1 hx
   cases k1 with
   | norm=>exact Y9 h1 (ihy s1 k s' h)
   | _ =>
    injection h with e1 e2
    subst e1 e2
    exact ZZ (by simp) h1
 | cond c x y ihx ihy =>
  intro s k s' h
  have h:brC (Me P call n draw rng x) (Me P call n draw rng y) s (evR s.t c)=.go k s':=h
  rw [Rr] at h
  unfold brC at h
  split at h
  case h_2=>cases h
  rename_i q hq
  refine sw_cond hq (fun e=>?_) (fun e=>?_)
  ·subst e;exact ihx s k s' h
  ·subst e;exact ihy s k s' h
 | block id x ih =>
  intro s k s' h
  have h:blkC id (Me P call n draw rng x s)=.go k s':=h
  cases hx:Me P call n draw rng x s with
  | no e=>rw [hx] at h;cases h
  | go k1 s1 =>
   rw [hx] at h
   refine YR ((ih s k1 s1 hx).mono ?_)
   rintro e s2 ⟨rfl,rfl⟩
   cases k1 with
   | ex j =>
    have h:cond (Nat.beq j id) (.go .norm s2) (.go (.ex j) s2)=Cx.go k s':=h
    show if j=id then isQ k s' .normal s2 else isQ k s' (.exit j) s2
    by_cases e:j=id
    ·rw [nbt e] at h
     injection h with e1 e2
     subst e1 e2
     rw [if_pos e]
     exact ⟨rfl,rfl⟩
    ·rw [nbf e] at h
     injection h with e1 e2
     subst e1 e2
     rw [if_neg e]
     exact ⟨rfl,rfl⟩
   | _ =>
    injection h with e1 e2
    subst e1 e2
    exact ⟨rfl,rfl⟩
 | loop x ih =>
  intro s k s' h
  exact iter_ok (f:=100000) ih h
 | rangeFunc f ps as' body _ _ =>
  intro s k s' h
  exact hr f ps as' body s k s' h
 | exit id =>
  intro s k s' h
  injection h with h1 h2
  subst h1 h2
  exact aC (ctx:=([]:Ctx P)) 3 (by simp only [cY,bA];exact ⟨rfl,rfl⟩)
 | label l =>
  intro s k s' h
  injection h with h1 h2
  subst h1 h2
  exact aC (ctx:=([]:Ctx P)) 3 (by simp only [cY];exact ⟨rfl,rfl⟩)
 | ret =>
  intro s k s' h
  injection h with h1 h2
  subst h1 h2
  exact aC (ctx:=([]:Ctx P)) 3 (by simp only [cY];exact ⟨rfl,rfl⟩)
 | scope x _=>intro s k s' h;cases h
 | goto l=>intro s k s' h;cases h
 | refuse y=>intro s k s' h;cases h
end
end
section
open Go.RowKit
def LV.refs:LV→List Nat
 | .sl b _ _=>[b]
 | .p b _ _=>[b]
 | .bf _ bs cs=>bs++cs
 | _=>[]
def SS (l:List LV):List Nat:=l.flatMap LV.refs
def SV.refs:SV→List Nat
 | .l x=>x.refs
 | .agg xs=>SS xs
def AV.refs:AV→List Nat
 | .s x=>x.refs
 | .tup xs=>xs.flatMap SV.refs
 | .fn _ a c=>SS a++SS c
def Blk.refs (k:Blk):List Nat:=k.els.flatMap SS
def V7 (l:List AV):List Nat:=l.flatMap AV.refs
theorem Pt {α:Type} {f:α→α} {l:List α} (h:∀ x∈l,f x=x):l.map f=l:=by
 induction l with
 | nil=>rfl
 | cons x l ih=>rw [List.map_cons,h x List.mem_cons_self,ih fun y hy=>h y (List.mem_cons_of_mem _ hy)]
theorem M1 {α:Type} {g f:α→α} {l:List α} (h:∀ x∈l,f (g x)=x):(l.map g).map f=l:=by
 rw [List.map_map]
 exact Pt h
section
variable {g f:Nat→Nat}
theorem Sx {l:List Nat} (h:∀ b∈l,f (g b)=b):(l.map g).map f=l:=by
 rw [List.map_map]
 exact Pt h
theorem LV.back {x:LV} (h:∀ b∈x.refs,f (g b)=b):(x.ren g).ren f=x:=by
 cases x with
 | sl b i n=>show LV.sl (f (g b)) i n=_;rw [h b (by simp [LV.refs])]
 | p b i j=>show LV.p (f (g b)) i j=_;rw [h b (by simp [LV.refs])]
 | bf k bs cs =>
  show LV.bf k ((bs.map g).map f) ((cs.map g).map f)=_
  rw [Sx fun b hb=>h b (by simp [LV.refs,hb]),Sx fun b hb=>h b (by simp [LV.refs,hb])]
 | _=>rfl
theorem Mo {l:List LV} (h:∀ b∈SS l,f (g b)=b):(l.map (·.ren g)).map (·.ren f)=l:=by
 rw [List.map_map]
 exact Pt fun x hx=>LV.back fun b hb=>h b (List.mem_flatMap.2 ⟨x,hx,hb⟩)
theorem SV.back {x:SV} (h:∀ b∈x.refs,f (g b)=b):(x.ren g).ren f=x:=by
 cases x with
 | l x=>show SV.l ((x.ren g).ren f)=_;rw [LV.back h]
 | agg xs=>show SV.agg ((xs.map (·.ren g)).map (·.ren f))=_;rw [Mo h]
theorem AV.back {x:AV} (h:∀ b∈x.refs,f (g b)=b):(x.ren g).ren f=x:=by
 cases x with
 | s x=>show AV.s ((x.ren g).ren f)=_;rw [SV.back h]
 | tup xs =>
  show AV.tup ((xs.map (·.ren g)).map (·.ren f))=_
  rw [M1 (g:=fun x:SV=>x.ren g) (f:=fun x:SV=>x.ren f) fun x hx=>SV.back fun b hb=>h b (List.mem_flatMap.2 ⟨x,hx,hb⟩)]
 | fn k a c =>
  show AV.fn k ((a.map (·.ren g)).map (·.ren f)) ((c.map (·.ren g)).map (·.ren f))=_
  rw [Mo fun b hb=>h b (by simp [AV.refs,hb]),Mo fun b hb=>h b (by simp [AV.refs,hb])]
theorem Blk.back {k:Blk} (h:∀ b∈k.refs,f (g b)=b):(k.ren g).ren f=k:=by
 obtain ⟨o,T,sz,els⟩:=k
 show (⟨o,T,sz,(els.map (·.map (·.ren g))).map (·.map (·.ren f))⟩:Blk)=_
 rw [M1 (g:=fun x:List LV=>x.map (·.ren g)) (f:=fun x:List LV=>x.map (·.ren f)) fun e he=>Mo fun b hb=>h b (List.mem_flatMap.2 ⟨e,he,hb⟩)]
end
noncomputable section
def Jp (bs:List Nat) (b:Nat):Bool:=List.rec (motive:=fun _=>Bool) false (fun a _ ih=>cond (Nat.beq a b) true ih) bs
def ixR (bs:List Nat) (b:Nat):Nat:=List.rec (motive:=fun _=>Nat) 0 (fun a _ ih=>cond (Nat.beq a b) 0 (Nat.succ ih)) bs
def Td (bs l:List Nat):Bool:=List.rec (motive:=fun _=>Bool) true (fun a _ ih=>cond (Jp bs a) ih false) l
def Ov (l:List Nat):Bool:=List.rec (motive:=fun _=>Bool) true (fun a r ih=>cond (Jp r a) false ih) l
def Lc (h:aF) (b:Nat):Option Blk:=List.rec (motive:=fun _=>Option Blk) none (fun a _ ih=>cond (Nat.beq a.1 b) a.2 ih) h
def reachB (rec:List Nat→List Nat→Option (List Nat)) (b:Nat) (r seen:List Nat) (k:Option Blk):Option (List Nat):=match k with
 | some k=>rec (k.refs++r) (seen++[b])
 | none=>none
def Rj (h:aF) (rec:List Nat→List Nat→Option (List Nat)) (todo seen:List Nat):Option (List Nat):=match todo with
 | []=>some seen
 | b::r=>cond (Jp seen b) (rec r seen) (reachB rec b r seen (Lc h b))
def Jc (h:aF) (f:Nat):List Nat→List Nat→Option (List Nat):=Nat.rec (motive:=fun _=>List Nat→List Nat→Option (List Nat)) (fun _ _=>none) (fun _ ih=>Rj h ih) f
def PM (ks:Option (List Blk)) (k:Option Blk):Option (List Blk):=match k with
 | some k=>ks.map (k::·)
 | none=>none
def JA (h:aF) (bs:List Nat):Option (List Blk):=List.rec (motive:=fun _=>Option (List Blk)) (some []) (fun b _ ih=>PM ih (Lc h b)) bs
end
theorem Kv {bs:List Nat} {b:Nat}:Jp bs b=true↔b∈bs:=by
 induction bs with
 | nil=>constructor<;>intro h<;>cases h
 | cons a r ih =>
  show cond (Nat.beq a b) true (Jp r b)=true↔_
  by_cases e:a=b
  ·rw [nbt e];simp [e]
  ·rw [nbf e]
   simp only [cond_false,List.mem_cons,ih]
   constructor
   ·exact .inr
   ·rintro (h | h)
    ·exact absurd h.symm e
    ·exact h
theorem getD_ix {bs:List Nat} {b d:Nat} (h:b∈bs):bs.getD (ixR bs b) d=b:=by
 induction bs with
 | nil=>cases h
 | cons a r ih =>
  show (a::r).getD (cond (Nat.beq a b) 0 (Nat.succ (ixR r b))) d=b
  by_cases e:a=b
  ·rw [nbt e];exact e
  ·rw [nbf e]
   simp only [cond_false,List.getD_cons_succ]
   rcases List.mem_cons.1 h with h | h
   ·exact absurd h.symm e
   ·exact ih h
theorem Jm {bs l:List Nat} (h:Td bs l=true):∀ b∈l,b∈bs:=by
 induction l with
 | nil=>intro b hb;cases hb
 | cons a r ih =>
  have h:cond (Jp bs a) (Td bs r) false=true:=h
  cases hm:Jp bs a
  ·rw [hm] at h;cases h
  ·rw [hm] at h
   intro b hb
   rcases List.mem_cons.1 hb with rfl | hb
   ·exact Kv.1 hm
   ·exact ih h b hb
theorem LA {l:List Nat} (h:Ov l=true):l.Nodup:=by
 induction l with
 | nil=>exact List.nodup_nil
 | cons a r ih =>
  have h:cond (Jp r a) false (Ov r)=true:=h
  cases hm:Jp r a
  ·rw [hm] at h
   refine List.nodup_cons.2 ⟨fun hi=>?_,ih h⟩
   rw [Kv.2 hi] at hm
   cases hm
  ·rw [hm] at h;cases h
theorem L1 (h:aF) (b:Nat):Lc h b=hget h b:=by
 induction h with
 | nil=>rfl
 | cons a r ih =>
  obtain ⟨j,x⟩:=a
  show cond (Nat.beq j b) x (Lc r b)=_
  rw [hget,ih]
  by_cases e:j=b
  ·rw [if_pos e,nbt e];rfl
  ·rw [if_neg e,nbf e];rfl
theorem LI {h h':aF} (hs:∀ b k,hget h b=some k→hget h' b=some k):∀ (f:Nat) {todo seen l:List Nat},Jc h f todo seen=some l→Jc h' f todo seen=some l
 | 0,_,_,_,hr=>by cases hr
 | f+1,todo,seen,l,hr=>by
  have hr:Rj h (Jc h f) todo seen=some l:=hr
  show Rj h' (Jc h' f) todo seen=some l
  unfold Rj at hr ⊢
  cases todo with
  | nil=>exact hr
  | cons b r =>
   simp only at hr ⊢
   cases hm:Jp seen b
   ·rw [hm] at hr
    simp only [cond_false] at hr ⊢
    rw [L1] at hr ⊢
    cases hk:hget h b with
    | none=>rw [hk] at hr;cases hr
    | some k =>
     rw [hk] at hr
     rw [hs _ _ hk]
     exact LI hs f hr
   ·rw [hm] at hr
    simp only [cond_true] at hr ⊢
    exact LI hs f hr
theorem MU {h:aF}:∀ {bs:List Nat} {ks:List Blk},JA h bs=some ks→ks.length=bs.length∧∀ (j b:Nat) (k:Blk),bs[j]? = some b→ks[j]? = some k→hget h b=some k
 | [],ks,hg=>by
  injection hg with hg
  subst hg
  exact ⟨rfl,fun j b k h=>by cases h⟩
 | b::bs,ks,hg=>by
  have hg:PM (JA h bs) (Lc h b)=some ks:=hg
  rw [L1] at hg
  cases hk:hget h b with
  | none=>rw [hk] at hg;cases hg
  | some k =>
   rw [hk] at hg
   simp only [PM,Option.map_eq_some_iff] at hg
   obtain ⟨ks',h1,rfl⟩:=hg
   obtain ⟨h2,h3⟩:=MU h1
   refine ⟨by simp [h2],fun j c k' hj hk'=>?_⟩
   cases j with
   | zero =>
    simp only [List.getElem?_cons_zero,Option.some.injEq] at hj hk'
    subst hj hk'
    exact hk
   | succ j=>exact h3 j c k' (by simpa using hj) (by simpa using hk')
theorem Ox {h h':aF} (hs:∀ b k,hget h b=some k→hget h' b=some k):∀ {bs:List Nat} {ks:List Blk},JA h bs=some ks→JA h' bs=some ks
 | [],ks,hg=>hg
 | b::bs,ks,hg=>by
  have hg:PM (JA h bs) (Lc h b)=some ks:=hg
  show PM (JA h' bs) (Lc h' b)=some ks
  rw [L1] at hg ⊢
  cases hk:hget h b with
  | none=>rw [hk] at hg;cases hg
  | some k =>
   rw [hk] at hg
   simp only [PM,Option.map_eq_some_iff] at hg
   obtain ⟨ks',h1,rfl⟩:=hg
   rw [hs _ _ hk,Ox hs h1]
   rfl
end
end Go.Proofs.YthcoegkfpinlfaaGreatDoor
