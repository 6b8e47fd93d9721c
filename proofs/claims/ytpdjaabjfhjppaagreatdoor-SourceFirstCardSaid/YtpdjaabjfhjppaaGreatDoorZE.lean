/- The value logic, computed: ranges over functions whose rows can be computed. No program in sight. -/
import Derived.Test.YtpdjaabjfhjppaaGreatDoorZD
set_option linter.unusedVariables false
set_option linter.unusedSimpArgs false
namespace Go.Proofs.YtpdjaabjfhjppaaGreatDoor
open Go.RowKit
set_option maxRecDepth 100000

/-- an iterator whose rows can be computed -/
structure ItS (P : Program) where
  f : FuncId
  it : It P f
  rows : List D → Option (List (List AV))
  ok : ∀ {ds : List D} {L : List (List AV)}, rows ds = some L → ∃ q, it.dec ds = some (q, L) ∧ q

noncomputable section
def rdEnd (t : Tmps) (ih : Nat → Heap → Cx) (k : XK) (s : St) : Cx := match k with
  | .norm => cond (ownL s.h) (forceN (fun m => ih m s.h) s.nx) (.no 94)
  | .ret => cond (ownL s.h) (.go .ret ⟨s.nx, t, s.h⟩) (.no 94)
  | .ex j => cond (ownL s.h) (.go (.ex j) ⟨s.nx, t, s.h⟩) (.no 94)
  | .pn _ => .no 95
def rdC (t : Tmps) (ih : Nat → Heap → Cx) (o : Cx) : Cx := match o with
  | .go k s => rdEnd t ih k s
  | .no e => .no e
def roundsC (t : Tmps) (ps : List Tmp) (mv : List (Tmp × Tmp)) (bd : Bd) (L : List (List AV)) : Nat → Heap → Cx :=
  List.rec (motive := fun _ => Nat → Heap → Cx) (fun nx h => .go .norm ⟨nx, t, h⟩) (fun As _ ih nx h => rdC t ih (bd ⟨nx, moveS mv (putPs (ps.zip As) t), h⟩)) L
end

theorem rounds_ok {t : Tmps} {ps : List Tmp} {mv : List (Tmp × Tmp)} {bd : Bd} {k : XK} {sE : St} : ∀ (L : List (List AV)) (nx : Nat) (h : Heap), roundsC t ps mv bd L nx h = .go k sE → ownL h = true →
    ∃ inv : Nat → Nat × Heap → Prop, inv 0 (nx, h) ∧ (∀ i x, inv i x → ownL x.2 = true) ∧
      (∀ i x As, inv i x → L[i]? = some As → ∃ k1 s1, bd ⟨x.1, moveS mv (putPs (ps.zip As) t), x.2⟩ = .go k1 s1 ∧ ownL s1.h = true ∧ ((k1 = .norm ∧ inv (i + 1) (s1.nx, s1.h)) ∨ ((k1 = .ret ∨ ∃ j, k1 = .ex j) ∧ k = k1 ∧ sE = ⟨s1.nx, t, s1.h⟩))) ∧
      ∀ x, inv L.length x → k = .norm ∧ sE = ⟨x.1, t, x.2⟩
  | [], nx, h, hr, ho => by
    injection hr with h1 h2
    subst h1 h2
    refine ⟨fun i x => i = 0 ∧ x = (nx, h), ⟨rfl, rfl⟩, ?_, ?_, ?_⟩
    · rintro i x ⟨rfl, rfl⟩
      exact ho
    · intro i x As _ hA
      simp at hA
    · rintro x ⟨-, rfl⟩
      exact ⟨rfl, rfl⟩
  | As :: r, nx, h, hr, ho => by
    have hr : rdC t (roundsC t ps mv bd r) (bd ⟨nx, moveS mv (putPs (ps.zip As) t), h⟩) = .go k sE := hr
    cases hb : bd ⟨nx, moveS mv (putPs (ps.zip As) t), h⟩ with
    | no e => rw [hb] at hr; cases hr
    | go k1 s1 =>
      rw [hb] at hr
      have hr : rdEnd t (roundsC t ps mv bd r) k1 s1 = .go k sE := hr
      have stopped : ownL s1.h = true → (k1 = .ret ∨ ∃ j, k1 = .ex j) → k = k1 → sE = ⟨s1.nx, t, s1.h⟩ → ∃ inv : Nat → Nat × Heap → Prop, inv 0 (nx, h) ∧ (∀ i x, inv i x → ownL x.2 = true) ∧
          (∀ i x As', inv i x → (As :: r)[i]? = some As' → ∃ k1 s1, bd ⟨x.1, moveS mv (putPs (ps.zip As') t), x.2⟩ = .go k1 s1 ∧ ownL s1.h = true ∧ ((k1 = .norm ∧ inv (i + 1) (s1.nx, s1.h)) ∨ ((k1 = .ret ∨ ∃ j, k1 = .ex j) ∧ k = k1 ∧ sE = ⟨s1.nx, t, s1.h⟩))) ∧
          ∀ x, inv (As :: r).length x → k = .norm ∧ sE = ⟨x.1, t, x.2⟩ := by
        intro g1 g2 g3 g4
        refine ⟨fun i x => i = 0 ∧ x = (nx, h), ⟨rfl, rfl⟩, ?_, ?_, ?_⟩
        · rintro i x ⟨rfl, rfl⟩
          exact ho
        · rintro i x As' ⟨rfl, rfl⟩ hA
          simp only [List.getElem?_cons_zero, Option.some.injEq] at hA
          subst hA
          exact ⟨k1, s1, hb, g1, .inr ⟨g2, g3, g4⟩⟩
        · rintro x ⟨h0, -⟩
          simp at h0
      cases hw : ownL s1.h
      · cases k1 <;> (simp only [rdEnd, hw, cond_false] at hr; cases hr)
      · cases k1 with
        | pn v => cases hr
        | ret =>
          simp only [rdEnd, hw, cond_true] at hr
          injection hr with h1 h2
          exact stopped hw (.inl rfl) h1.symm h2.symm
        | ex j =>
          simp only [rdEnd, hw, cond_true] at hr
          injection hr with h1 h2
          exact stopped hw (.inr ⟨j, rfl⟩) h1.symm h2.symm
        | norm =>
          simp only [rdEnd, hw, cond_true, forceN_eq] at hr
          obtain ⟨inv, i1, i2, i3, i4⟩ := rounds_ok r s1.nx s1.h hr hw
          refine ⟨fun i x => match i with | 0 => x = (nx, h) | i + 1 => inv i x, rfl, ?_, ?_, ?_⟩
          · intro i x hi
            cases i with
            | zero => rw [show x = (nx, h) from hi]; exact ho
            | succ i => exact i2 i x hi
          · intro i x As' hi hA
            cases i with
            | zero =>
              have hi : x = (nx, h) := hi
              subst hi
              simp only [List.getElem?_cons_zero, Option.some.injEq] at hA
              subst hA
              exact ⟨.norm, s1, hb, hw, .inl ⟨rfl, i1⟩⟩
            | succ i => exact i3 i x As' hi (by simpa using hA)
          · intro x hx
            exact i4 x hx

noncomputable section
/-- the function value is made lasting -/
def preH (k : Tmp) (s : St) (g : FuncId) (b : Bool) (A : AV) (u : List Nat) (fd cd : Option (List D)) : Option St := match fd with
  | some fd => match cd with
    | some cd => cond b (some ⟨s.nx, (k, .s (.l (.d (.fn g fd cd)))) :: (k, A) :: s.t, (u.map fun b => (b, none)) ++ s.h⟩) none
    | none => none
  | none => none
def preB (k : Tmp) (s : St) (b : Bool) (u : List Nat) (A : AV) : Option St := match A with
  | .fn g f c => preH k s g b (.fn g f c) u (toDs0 f) (toDs0 c)
  | _ => none
def preF (k : Tmp) (s : St) (x : Option (Bool × List Nat × AV)) : Option St := match x with
  | some x => preB k s x.1 x.2.1 x.2.2
  | none => none
def isFn (A : AV) : Bool := match A with
  | .fn _ _ _ => true
  | _ => false
def preG (k : Tmp) (s : St) : Option St := cond (isFn (tgetR s.t k)) (preF k s (AV.toB s.h 4 (tgetR s.t k))) (some s)
end
theorem preG_ok {ro : Cf} {k : Tmp} {s s' : St} (h : preG k s = some s') : Wk ro s s' := by
  unfold preG at h
  cases hf : isFn (tgetR s.t k)
  · rw [hf] at h
    injection h with h
    subst h
    exact Wk.refl _ _
  · rw [hf] at h
    simp only [cond_true] at h
    unfold preF at h
    split at h
    case h_2 => cases h
    rename_i x hx
    obtain ⟨b, u, A⟩ := x
    simp only at h
    unfold preB at h
    split at h
    case h_2 => cases h
    rename_i g f c
    unfold preH at h
    split at h
    case h_2 => cases h
    rename_i fd hfd
    split at h
    case h_2 => cases h
    rename_i cd hcd
    cases b
    · cases h
    injection h with h
    subst h
    obtain ⟨p, g1, g2⟩ := AV.toB_twin _ _ _ _ hx
    rw [tgetR_eq] at g1
    refine (Wk.frz k g1 (g2 rfl)).trans (Wk.fnD k (f := f) (c := c) ?_ hfd hcd)
    show tget ((k, AV.fn g f c) :: s.t) k = _
    rw [tget, if_pos rfl]

noncomputable section
variable {P : Program}
def findI (its : List (ItS P)) (g : FuncId) : Option (ItS P) := List.rec (motive := fun _ => Option (ItS P)) none (fun a _ ih => cond (Nat.beq a.f g) (some a) ih) its
def fnD1 (A : AV) : Option (FuncId × List D) := match A with
  | .s (.l (.d (.fn g [] ds))) => some (g, ds)
  | _ => none
def rg5 (n : Nat) (K2 : Nat) (ps : List Tmp) (mv : List (Tmp × Tmp)) (bd : Bd) (s1 : St) (L : Option (List (List AV))) : Cx := match L with
  | some L => cond (s1.t.all (fun p => p.2.pin K2) && ps.all (Nat.blt · n) && mv.all (fun x => Nat.blt x.1 n) && L.all (fun As => Nat.beq As.length ps.length) && ownL s1.h) (roundsC s1.t ps mv bd L s1.nx s1.h) (.no 91)
  | none => .no 92
def rowsOf (it : Option (ItS P)) (ds : List D) : Option (List (List AV)) := match it with
  | some it => it.rows ds
  | none => none
def rg4 (its : List (ItS P)) (n K2 : Nat) (ps : List Tmp) (mv : Option (List (Tmp × Tmp))) (bd : Bd) (s1 : St) (x : Option (FuncId × List D)) : Cx := match x with
  | some x => match mv with
    | some mv => rg5 n K2 ps mv bd s1 (rowsOf (findI its x.1) x.2)
    | none => .no 93
  | none => .no 96
def rg3 (its : List (ItS P)) (n K2 : Nat) (k : Tmp) (ps : List Tmp) (mv : Option (List (Tmp × Tmp))) (bd : Bd) (s1 : Option St) : Cx := match s1 with
  | some s1 => rg4 its n K2 ps mv bd s1 (fnD1 (tgetR s1.t k))
  | none => .no 97
def rg2 (its : List (ItS P)) (n K : Nat) (k : Tmp) (ps : List Tmp) (mv : Option (List (Tmp × Tmp))) (bd : Bd) (s : St) (L0 : List Nat) : Cx := rg3 its n L0.length k ps mv bd (allC K L0 s)
def rg1 (its : List (ItS P)) (n K : Nat) (k : Tmp) (ps : List Tmp) (mv : Option (List (Tmp × Tmp))) (bd : Bd) (s : Option St) : Cx := match s with
  | some s => rg2 its n K k ps mv bd s (addNew (refsT (slotsR s.h s.t)) (List.range K))
  | none => .no 98
def rg0 (its : List (ItS P)) (n K : Nat) (gop : Operand) (ps : List Tmp) (mv : Option (List (Tmp × Tmp))) (bd : Bd) (s : St) : Cx := match gop with
  | .tmp k => rg1 its n K k ps mv bd (preG k s)
  | _ => .no 99
def rngC (its : List (ItS P)) : Nat → Rg := fun K call n gop ps as' body s => rg0 its n K gop ps.toList (movesOf as') (cCode P call n (drawC P call n) (noRg call n) body) s
end

section
variable {P : Program}
theorem findI_some {its : List (ItS P)} {g : FuncId} {it : ItS P} (h : findI its g = some it) : it.f = g := by
  induction its with
  | nil => cases h
  | cons a r ih =>
    have h : cond (Nat.beq a.f g) (some a) (findI r g) = some it := h
    by_cases e : a.f = g
    · rw [nbt e] at h
      injection h with h
      subst h
      exact e
    · rw [nbf e] at h
      exact ih h
theorem fnD1_some {A : AV} {g : FuncId} {ds : List D} (h : fnD1 A = some (g, ds)) : A = .s (.l (.d (.fn g [] ds))) := by
  unfold fnD1 at h
  split at h
  · injection h with h
    injection h with h1 h2
    subst h1 h2
    rfl
  · cases h

theorem rngC_ok (hm : P.follows .mixedOrders = true) (its : List (ItS P)) : RgKOk P (rngC its) := by
  intro ctx call K n hc gop ps as' body s k sE h
  have h : rg0 its n K gop ps.toList (movesOf as') (cCode P call n (drawC P call n) (noRg call n) body) s = .go k sE := h
  have hbd : ∀ (ro : Cf) s k s', cCode P call n (drawC P call n) (noRg call n) body s = .go k s' → SW P ro n body s (isQ k s') := fun ro s k s' h => cCode_ok hc (drawC_ok hc hm) (noRg_ok P ctx call ro n hc) body s k s' h
  generalize cCode P call n (drawC P call n) (noRg call n) body = bd at h hbd
  unfold rg0 at h
  split at h
  case h_2 => cases h
  rename_i t0
  unfold rg1 at h
  split at h
  case h_2 => cases h
  rename_i s0 hs0
  unfold rg2 at h
  obtain ⟨L0, hL0⟩ : ∃ L0, addNew (refsT (slotsR s0.h s0.t)) (List.range K) = L0 := ⟨_, rfl⟩
  rw [hL0] at h
  unfold rg3 at h
  split at h
  case h_2 => cases h
  rename_i s1 hs1
  obtain ⟨hKK, hwk, hK⟩ := allC_ok hs1
  unfold rg4 at h
  split at h
  case h_2 => cases h
  rename_i x hx
  obtain ⟨g, ds⟩ := x
  split at h
  case h_2 => cases h
  rename_i mv hmv
  unfold rg5 at h
  split at h
  case h_2 => cases h
  rename_i L hL
  cases hcnd : s1.t.all (fun p => p.2.pin L0.length) && ps.toList.all (Nat.blt · n) && mv.all (fun x => Nat.blt x.1 n) && L.all (fun As => Nat.beq As.length ps.toList.length) && ownL s1.h
  · rw [hcnd] at h; cases h
  rw [hcnd] at h
  simp only [cond_true] at h
  simp only [Bool.and_eq_true] at hcnd
  obtain ⟨⟨⟨⟨c1, c2⟩, c3⟩, c4⟩, c5⟩ := hcnd
  unfold rowsOf at hL
  split at hL
  case h_2 => cases hL
  rename_i it hit
  have e := findI_some hit
  simp only at e hL
  subst e
  obtain ⟨q, hd, hq⟩ := it.ok hL
  obtain ⟨inv, i1, i2, i3, i4⟩ := rounds_ok L s1.nx s1.h h c5
  refine SW.wk (SW.wk (sw_pin hKK hK ?_) hwk) (preG_ok hs0)
  refine sw_rangeG (ι := Nat × Heap) (t := s1.t) (fun x As => ⟨x.1, moveS mv (putPs (ps.toList.zip As) s1.t), x.2⟩) inv (·.2) (·.1)
    (fun c s' => ((c = .ret ∧ k = .ret) ∨ ∃ j, c = .exit j ∧ k = .ex j) ∧ ownL s'.h = true ∧ sE = ⟨s'.nx, s1.t, s'.h⟩) it.it hd hq ?_ (fun x As _ => asg_moves hmv (fun y hy => ?_) _) (fun p hp => ?_) (fun As hA => ?_) (tpin_of c1) (fun i x hi => ownL_get (i2 i x hi)) (fun c s' hx => ownL_get hx.2.1) (s1.nx, s1.h) i1 (fun l i x As hi hA => ?_) (fun x hi => ?_) (fun c s' hx => ?_)
  · have := fnD1_some hx
    rw [tgetR_eq] at this
    exact this
  · have := List.all_eq_true.1 c3 y hy
    simpa [Nat.blt_eq] using this
  · have := List.all_eq_true.1 c2 p hp
    simpa [Nat.blt_eq] using this
  · have := Nat.eq_of_beq_eq_true (List.all_eq_true.1 c4 As hA)
    simpa using this
  · obtain ⟨k1, s2, g1, g2, g3⟩ := i3 i x As hi hA
    refine (hbd _ _ _ _ g1).mono ?_
    rintro e z ⟨rfl, rfl⟩
    rcases g3 with ⟨rfl, g4⟩ | ⟨g4, rfl, g5⟩
    · exact ⟨⟨(z.nx, z.h), g4, Wk.refl _ _⟩, g2⟩
    · rcases g4 with rfl | ⟨j, rfl⟩
      · exact ⟨.inl ⟨rfl, rfl⟩, g2, g5⟩
      · exact ⟨.inr ⟨j, rfl, rfl⟩, g2, g5⟩
  · obtain ⟨rfl, rfl⟩ := i4 x hi
    exact ⟨rfl, rfl⟩
  · obtain ⟨hx, g2, rfl⟩ := hx
    rcases hx with ⟨rfl, rfl⟩ | ⟨j, rfl, rfl⟩
    · exact swy_ret ⟨rfl, rfl⟩
    · exact swy_exit ⟨rfl, rfl⟩
end
end Go.Proofs.YtpdjaabjfhjppaaGreatDoor
