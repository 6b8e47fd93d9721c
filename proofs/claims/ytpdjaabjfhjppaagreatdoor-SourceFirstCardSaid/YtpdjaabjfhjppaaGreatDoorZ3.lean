/- The value logic, computed: code. No program in sight. -/
import Derived.Test.YtpdjaabjfhjppaaGreatDoorZ2
set_option linter.unusedVariables false
set_option linter.unusedSimpArgs false
namespace Go.Proofs.YtpdjaabjfhjppaaGreatDoor
open Go.RowKit
set_option maxRecDepth 100000

/-! ### Slots and blocks without doubles -/
noncomputable section
def tsetR (t : Tmps) (k : Nat) (x : AV) : Tmps := List.rec (motive := fun _ => Tmps) [(k, x)] (fun a r ih => cond (Nat.beq a.1 k) ((k, x) :: r) (a :: ih)) t
def tgetR (t : Tmps) (k : Nat) : AV := List.rec (motive := fun _ => AV) (.s (.l .any)) (fun a _ ih => cond (Nat.beq a.1 k) a.2 ih) t
def hsetR (h : Heap) (k : Nat) (x : Option Blk) : Heap := List.rec (motive := fun _ => Heap) [(k, x)] (fun a r ih => cond (Nat.beq a.1 k) ((k, x) :: r) (a :: ih)) h
def hsetsR (h : Heap) (E : Heap) : Heap := List.rec (motive := fun _ => Heap) h (fun a _ ih => hsetR ih a.1 a.2) E
def putR (t : Tmps) (d : Option Tmp) (r : AV) : Tmps := match d with
  | none => t
  | some d => tsetR t d r
def evR (t : Tmps) (x : Operand) : AV := match x with
  | .tmp k => tgetR t k
  | x => evT t x
def gAtR (ops : List Oper) (t : Tmps) (j : Nat) : AV := match ops[j]? with
  | some o => match o.dst with
    | some d => tgetR t d
    | none => .s (.l .any)
  | none => .s (.l .any)
end

theorem nbt {j k : Nat} (h : j = k) : Nat.beq j k = true := by subst h; exact Nat.beq_refl j
theorem nbf {j k : Nat} (h : ¬ j = k) : Nat.beq j k = false := by
  cases hb : Nat.beq j k
  · rfl
  · exact absurd (Nat.eq_of_beq_eq_true hb) h
theorem tgetR_eq (t : Tmps) (k : Nat) : tgetR t k = tget t k := by
  induction t with
  | nil => rfl
  | cons a r ih =>
    show cond (Nat.beq a.1 k) a.2 (tgetR r k) = _
    obtain ⟨j, x⟩ := a
    rw [tget, ih]
    by_cases e : j = k
    · rw [if_pos e, nbt e]
      rfl
    · rw [if_neg e, nbf e]
      rfl
theorem tget_tset (t : Tmps) (k j : Nat) (x : AV) : tget (tsetR t k x) j = tget ((k, x) :: t) j := by
  induction t with
  | nil => rfl
  | cons a r ih =>
    obtain ⟨i, y⟩ := a
    show tget (cond (Nat.beq i k) ((k, x) :: r) ((i, y) :: tsetR r k x)) j = _
    by_cases e : i = k
    · subst e
      rw [nbt rfl]
      simp only [cond_true, tget]
      by_cases e2 : i = j <;> simp [e2]
    · rw [nbf e]
      simp only [cond_false, tget, ih]
      by_cases e2 : k = j <;> by_cases e3 : i = j <;> simp [e2, e3]
      exact absurd (e3.trans e2.symm) e
theorem hget_hset (h : Heap) (k j : Nat) (x : Option Blk) : hget (hsetR h k x) j = hget ((k, x) :: h) j := by
  induction h with
  | nil => rfl
  | cons a r ih =>
    obtain ⟨i, y⟩ := a
    show hget (cond (Nat.beq i k) ((k, x) :: r) ((i, y) :: hsetR r k x)) j = _
    by_cases e : i = k
    · subst e
      rw [nbt rfl]
      simp only [cond_true, hget]
      by_cases e2 : i = j <;> simp [e2]
    · rw [nbf e]
      simp only [cond_false, hget, ih]
      by_cases e2 : k = j <;> by_cases e3 : i = j <;> simp [e2, e3]
      exact absurd (e3.trans e2.symm) e
theorem hget_hsets (h : Heap) (j : Nat) : ∀ E : Heap, hget (hsetsR h E) j = hget (E ++ h) j
  | [] => rfl
  | (k, x) :: E => by
    show hget (hsetR (hsetsR h E) k x) j = _
    rw [hget_hset, List.cons_append, hget, hget, hget_hsets h j E]
theorem tget_put (t : Tmps) (d : Option Tmp) (r : AV) (j : Nat) : tget (putR t d r) j = tget (putT t d r) j := by
  cases d with
  | none => rfl
  | some d => exact tget_tset t d j r
theorem evR_eq (t : Tmps) : evR t = evT t := by
  funext x
  cases x with
  | tmp k => exact tgetR_eq t k
  | _ => rfl
theorem gAtR_eq (ops : List Oper) (t : Tmps) (j : Nat) : gAtR ops t j = gAt ops t j := by
  unfold gAtR gAt
  cases h : ops[j]? with
  | none => rfl
  | some o =>
    simp only []
    cases hd : o.dst with
    | none => rfl
    | some d => exact tgetR_eq _ _
theorem RepS.same {n : Nat} {B : Base} {w0 : World} {ρ : Nat → Loc} {al : Al} {s s' : St} {a : Act} {w : World} (H : RepS n B w0 ρ al s a w) (hn : s.nx ≤ s'.nx) (ht : ∀ k, tget s'.t k = tget s.t k) (hh : ∀ b k, hget s'.h b = some k → hget s.h b = some k) : RepS n B w0 ρ al s' a w :=
  ⟨H.size, H.defers, fun k => by rw [ht]; exact H.t k, H.w.sub hh, fun b hb => Nat.lt_of_lt_of_le (H.al b hb) hn⟩

/-! ### What code comes to -/
inductive XK where
  | norm
  | ret
  | ex (id : Nat)
  | pn (v : Value)
def XK.e : XK → Exit
  | .norm => .normal
  | .ret => .ret
  | .ex id => .exit id
  | .pn v => .panic [{ v := v, recovered := false }]
inductive Cx where
  | go (k : XK) (s : St)
  | no (n : Nat)
/-- just that end, in just that state -/
def isQ (k : XK) (s' : St) (e : Exit) (s : St) : Prop := e = k.e ∧ s = s'

noncomputable section
variable (P : Program) (call : Cl) (n : Nat)
def dstR (d : Option Tmp) : Bool := match d with
  | none => true
  | some d => Nat.blt d n
def forceN (k : Nat → Cx) (m : Nat) : Cx := Nat.rec (motive := fun _ => Cx) (k 0) (fun m _ => k (Nat.succ m)) m
def aftC (d : Option Tmp) (s : St) (ih : St → Cx) (r : CO) : Cx := match r with
  | .val r E => cond (dstR n d) (forceN (fun m => ih ⟨m, putR s.t d r, hsetsR s.h E⟩) (s.nx + 16)) (.no 50)
  | .pan v E => .go (.pn v) ⟨s.nx + 16, s.t, hsetsR s.h E⟩
  | .no e => .no e
def doC (o : Oper) (s : St) (ih : St → Cx) : Cx := aftC n o.dst s ih (cOp P call s.nx o.op (evR s.t) s.h)
def skC (o : Oper) (s : St) (ih : St → Cx) : Cx := cond (dstR n o.dst) (ih ⟨s.nx, putR s.t o.dst (.s (.l (.v (.tuple #[])))), s.h⟩) (.no 51)
def gdV (o : Oper) (s : St) (ih : St → Cx) (want : Bool) (v : Value) : Cx := match v with
  | .bool q => cond (q == want) (doC P call n o s ih) (skC n o s ih)
  | .tuple ⟨[]⟩ => skC n o s ih
  | _ => .no 52
def gdA (o : Oper) (s : St) (ih : St → Cx) (want : Bool) (a : AV) : Cx := match a with
  | .s (.l (.v v)) => gdV P call n o s ih want v
  | _ => .no 52
def gdC (all : List Oper) (o : Oper) (s : St) (ih : St → Cx) (g : Option (Nat × Bool)) : Cx := match g with
  | none => doC P call n o s ih
  | some g => gdA P call n o s ih g.2 (gAtR all s.t g.1)
/-- a region in the order of the text -/
def opsC (all l : List Oper) : St → Cx := List.rec (motive := fun _ => St → Cx) (fun s => .go .norm s) (fun o _ ih s => gdC P call n all o s ih o.guard) l
def thenK (g : St → Cx) (k : XK) (s : St) : Cx := match k with
  | .norm => g s
  | k => .go k s
def thenC (g : St → Cx) (o : Cx) : Cx := match o with
  | .go k s => thenK g k s
  | .no e => .no e
def brC (g1 g2 : St → Cx) (s : St) (a : AV) : Cx := match a with
  | .s (.l (.v (.bool q))) => cond q (g1 s) (g2 s)
  | _ => .no 53
def blkK (id : Nat) (k : XK) (s : St) : Cx := match k with
  | .ex j => cond (Nat.beq j id) (.go .norm s) (.go (.ex j) s)
  | k => .go k s
def blkC (id : Nat) (o : Cx) : Cx := match o with
  | .go k s => blkK id k s
  | .no e => .no e
def iterC (g : St → Cx) (f : Nat) : St → Cx := Nat.rec (motive := fun _ => St → Cx) (fun _ => .no 54) (fun _ ih s => thenC ih (g s)) f
/-- code; regions that draw by draw, ranges over functions by rng -/
def cCode (draw : List Oper → St → Cx) (rng : Operand → Array Tmp → Code → Code → St → Cx) (c : Code) : St → Cx := Code.rec (motive := fun _ => St → Cx)
  (fun s => .go .norm s)
  (fun _ ops dr s => cond dr (draw ops.toList s) (opsC P call n ops.toList ops.toList s))
  (fun _ _ g1 g2 s => thenC g2 (g1 s))
  (fun c _ _ g1 g2 s => brC g1 g2 s (evR s.t c))
  (fun id _ g s => blkC id (g s))
  (fun _ g => iterC g 100000)
  (fun f ps as' body _ _ s => rng f ps as' body s)
  (fun id s => .go (.ex id) s)
  (fun _ _ _ => .no 55)
  (fun _ s => .go .norm s)
  (fun _ _ => .no 56)
  (fun s => .go .ret s)
  (fun _ _ => .no 57) c
end

section
variable {P : Program} {ctx : Ctx P} {call : Cl} {n : Nat} {ro : Cf}
theorem dstR_ok {d : Option Tmp} (h : dstR n d = true) : dstOk n d = true := by
  cases d with
  | none => rfl
  | some d =>
    have : d < n := by simpa [dstR, Nat.blt_eq] using h
    simpa [dstOk] using this
theorem forceN_eq (k : Nat → Cx) : ∀ m, forceN k m = k m
  | 0 => rfl
  | _ + 1 => rfl
/-- how a region in the order of the text ends -/
def opsQ (k : XK) (s' : St) (n : Nat) (B : Base) (w0 : World) : Exit → Act → World → Prop := fun e a w => ∃ ρ al, e = k.e ∧ RepS n B w0 ρ al s' a w
theorem opsC_ok (hc : ClOk ctx call) {all : List Oper} {B : Base} {w0 : World} {k : XK} {s' : St} : ∀ (l : List Oper) (s : St) (ρ : Nat → Loc) (al : Al) (a : Act) (w : World), RepS n B w0 ρ al s a w → opsC P call n all l s = .go k s' → wpListIn (Fw ro) 0 P all.toArray (opsQ k s' n B w0) l a w
  | [], s, ρ, al, a, w, H, h => by
    injection h with h1 h2
    subst h1 h2
    exact ⟨ρ, al, rfl, H⟩
  | o :: l, s, ρ, al, a, w, H, h => by
    have ih := opsC_ok hc (all := all) (B := B) (w0 := w0) (k := k) (s' := s') l
    have h : gdC P call n all o s (opsC P call n all l) o.guard = .go k s' := h
    have doIt : doC P call n o s (opsC P call n all l) = .go k s' → o.wpIn (Fw ro) 0 P a w (wpListIn (Fw ro) 0 P all.toArray (opsQ k s' n B w0) l) (opsQ k s' n B w0) := by
      intro h
      unfold doC at h
      rw [evR_eq] at h
      cases hr : cOp P call s.nx o.op (evT s.t) s.h with
      | no e => rw [hr] at h; cases h
      | val r E =>
        rw [hr] at h
        obtain ⟨R, h1, h2, h3, h4⟩ := cOp_val hc hr
        subst h3 h4
        simp only [aftC] at h
        cases hd : dstR n o.dst
        · rw [hd] at h; cases h
        · rw [hd] at h
          simp only [cond_true, forceN_eq] at h
          refine aOp_wp H h1 h2 (dstR_ok hd) fun ρ' al' a' w' H' => ih ⟨s.nx + 16, putR s.t o.dst R.r, hsetsR s.h R.E⟩ ρ' al' a' w' (H'.same (s' := ⟨s.nx + 16, putR s.t o.dst R.r, hsetsR s.h R.E⟩) (Nat.le_refl _) (fun k => tget_put _ _ _ _) fun b k hk => ?_) h
          have hk : hget (hsetsR s.h R.E) b = some k := hk
          rw [hget_hsets] at hk
          exact hk
      | pan v E =>
        rw [hr] at h
        obtain ⟨ob, h1, h2⟩ := cOp_pan hc hr
        simp only [aftC] at h
        injection h with g1 g2
        subst g1 g2
        exact aPan_wp H h1 h2 fun ρ' al' w' H' => ⟨ρ', al', rfl, H'.same (s' := ⟨s.nx + 16, s.t, hsetsR s.h E⟩) (Nat.le_refl _) (fun _ => rfl) fun b k hk => by have hk : hget (hsetsR s.h E) b = some k := hk; rw [hget_hsets] at hk; exact hk⟩
    have skIt : skC n o s (opsC P call n all l) = .go k s' → (∀ f, o.about P w a.eval = some f → (Fw ro).fn f) ∧ wpListIn (Fw ro) 0 P all.toArray (opsQ k s' n B w0) l (a.put o.dst undef) w := by
      intro h
      unfold skC at h
      cases hd : dstR n o.dst
      · rw [hd] at h; cases h
      · rw [hd] at h
        simp only [cond_true] at h
        have H' : RepS n B w0 ρ al ⟨s.nx, putT s.t o.dst (.s (.l (.v (.tuple #[])))), s.h⟩ (a.put o.dst undef) w := ⟨put_size.trans H.size, (by rw [put_defers]; exact H.defers), H.t.putT H.size (dstR_ok hd) undef_rep, H.w, H.al⟩
        exact ⟨fun _ _ => trivial, ih ⟨s.nx, putR s.t o.dst (.s (.l (.v (.tuple #[])))), s.h⟩ ρ al _ w (H'.same (s' := ⟨s.nx, putR s.t o.dst (.s (.l (.v (.tuple #[])))), s.h⟩) (Nat.le_refl _) (fun k => tget_put _ _ _ _) fun b k hk => hk) h⟩
    unfold wpListIn
    unfold gdC at h
    split at h
    · rename_i hg
      rw [if_pos (by simp [Region.wanted, hg])]
      exact doIt h
    · rename_i g hg
      obtain ⟨j, want⟩ := g
      simp only at h
      rw [gAtR_eq] at h
      unfold gdA at h
      split at h
      case h_2 => cases h
      rename_i v hv
      unfold gdV at h
      split at h
      · rename_i q
        have hy := gAt_yield H.t H.size hv
        by_cases hqw : q = want
        · have e : (q == want) = true := by simpa using hqw
          rw [e] at h
          rw [if_pos (by simp [Region.wanted, hg, hy, hqw])]
          exact doIt h
        · have e : (q == want) = false := by simpa using hqw
          rw [e] at h
          rw [if_neg (by simp [Region.wanted, hg, hy, hqw])]
          exact skIt h
      · rw [if_neg (by simp [Region.wanted, hg, gAt_none H.t hv])]
        exact skIt h
      · cases h
theorem region_ok (hc : ClOk ctx call) {id : Nat} {ops : Array Oper} {s s' : St} {k : XK} (h : opsC P call n ops.toList ops.toList s = .go k s') : SW P ro n (.region id ops false) s (isQ k s') := by
  intro B w0 ρ al a w hpl H
  have := opsC_ok (ro := ro) hc ops.toList s ρ al a w H h
  rw [Array.toArray_toList] at this
  refine wpIn_mono (wpIn_region_list (id := id) this) ?_
  rintro e a' w' ⟨ρ', al', rfl, H'⟩
  exact ⟨ρ', al', s', H', rfl, rfl⟩

theorem isQ_then {x y : Code} {s s1 s' : St} {k : XK} (h1 : SW P ro n x s (isQ .norm s1)) (h2 : SW P ro n y s1 (isQ k s')) : SW P ro n (.seq x y) s (isQ k s') := by
  refine sw_seq (h1.mono ?_)
  rintro e s2 ⟨rfl, rfl⟩
  exact h2
theorem isQ_left {x y : Code} {s s' : St} {k : XK} (hk : k ≠ .norm) (h1 : SW P ro n x s (isQ k s')) : SW P ro n (.seq x y) s (isQ k s') := by
  refine sw_seq (h1.mono ?_)
  rintro e s2 ⟨rfl, rfl⟩
  cases k with
  | norm => exact absurd rfl hk
  | _ => exact ⟨rfl, rfl⟩
end
end Go.Proofs.YtpdjaabjfhjppaaGreatDoor
