/- The value logic, computed: code ends as is computed. No program in sight. -/
import Derived.Test.YtpdjaabjfhjppaaGreatDoorZ3
set_option linter.unusedVariables false
set_option linter.unusedSimpArgs false
namespace Go.Proofs.YtpdjaabjfhjppaaGreatDoor
open Go.RowKit
set_option maxRecDepth 100000

section
variable {P : Program} {ctx : Ctx P} {call : Cl} {n : Nat} {ro : Cf}

theorem chain_of {g : St → Cx} {k : XK} {s' : St} : ∀ (f : Nat) (s : St), iterC g f s = .go k s' → ∃ (N : Nat) (I : Nat → St), I 0 = s ∧ (∀ i, i < N → g (I i) = .go .norm (I (i + 1))) ∧ g (I N) = .go k s' ∧ k ≠ .norm
  | 0, s, h => by cases h
  | f + 1, s, h => by
    have h : thenC (iterC g f) (g s) = .go k s' := h
    cases hg : g s with
    | no e => rw [hg] at h; cases h
    | go k1 s1 =>
      rw [hg] at h
      cases k1 with
      | norm =>
        obtain ⟨N, I, h0, h1, h2, h3⟩ := chain_of f s1 h
        refine ⟨N + 1, fun i => match i with | 0 => s | i + 1 => I i, rfl, ?_, h2, h3⟩
        intro i hi
        cases i with
        | zero =>
          show g s = .go .norm (I 0)
          rw [h0]
          exact hg
        | succ i => exact h1 i (by omega)
      | _ =>
        injection h with e1 e2
        subst e1 e2
        exact ⟨0, fun _ => s, rfl, fun i hi => absurd hi (Nat.not_lt_zero i), hg, by simp⟩
theorem XK.e_norm {k : XK} (h : k.e = .normal) : k = .norm := by cases k <;> first | rfl | cases h
theorem roundQ_of {ι : Type} {inv : ι → Prop} {I : ι → St} {m : ι → Nat} {i : ι} {k : XK} {s' : St} (hk : k ≠ .norm) : roundQ ro inv I m i (isQ k s') k.e s' := by
  cases k with
  | norm => exact absurd rfl hk
  | _ => exact ⟨rfl, rfl⟩
theorem iter_ok {g : St → Cx} {c : Code} (hg : ∀ s k s', g s = .go k s' → SW P ro n c s (isQ k s')) {f : Nat} {s s' : St} {k : XK} (h : iterC g f s = .go k s') : SW P ro n (.loop c) s (isQ k s') := by
  obtain ⟨N, I, h0, h1, h2, h3⟩ := chain_of f s h
  refine sw_loop (ι := Nat) (fun i => i ≤ N) I (fun i => N - i) 0 (Nat.zero_le _) (by rw [h0]; exact Wk.refl _ _) ?_
  intro i hi
  rcases Nat.lt_or_ge i N with hlt | hge
  · refine (hg _ _ _ (h1 i hlt)).mono ?_
    rintro e s1 ⟨rfl, rfl⟩
    exact ⟨i + 1, hlt, by show N - (i + 1) < N - i; omega, Wk.refl _ _⟩
  · obtain rfl : i = N := by omega
    refine (hg _ _ _ h2).mono ?_
    rintro e s1 ⟨rfl, rfl⟩
    exact roundQ_of h3

/-- what is computed of a region that draws -/
def DrawOk (P : Program) (ro : Cf) (n : Nat) (draw : List Oper → St → Cx) : Prop := ∀ (id : Nat) (ops : List Oper) (s : St) (k : XK) (s' : St), draw ops s = .go k s' → SW P ro n (.region id ops.toArray true) s (isQ k s')
def RngOk (P : Program) (ro : Cf) (n : Nat) (rng : Operand → Array Tmp → Code → Code → St → Cx) : Prop := ∀ (f : Operand) (ps : Array Tmp) (as' body : Code) (s : St) (k : XK) (s' : St), rng f ps as' body s = .go k s' → SW P ro n (.rangeFunc f ps as' body) s (isQ k s')

theorem cCode_ok (hc : ClOk ctx call) {draw : List Oper → St → Cx} (hd : DrawOk P ro n draw) {rng : Operand → Array Tmp → Code → Code → St → Cx} (hr : RngOk P ro n rng) (c : Code) : ∀ (s : St) (k : XK) (s' : St), cCode P call n draw rng c s = .go k s' → SW P ro n c s (isQ k s') := by
  induction c with
  | skip =>
    intro s k s' h
    injection h with h1 h2
    subst h1 h2
    exact aRun_sound (ctx := ([] : Ctx P)) 3 (by simp only [aRun]; exact ⟨rfl, rfl⟩)
  | region id ops dr =>
    intro s k s' h
    cases dr with
    | false => exact region_ok hc h
    | true =>
      have := hd id ops.toList s k s' h
      rw [Array.toArray_toList] at this
      exact this
  | seq x y ihx ihy =>
    intro s k s' h
    have h : thenC (cCode P call n draw rng y) (cCode P call n draw rng x s) = .go k s' := h
    cases hx : cCode P call n draw rng x s with
    | no e => rw [hx] at h; cases h
    | go k1 s1 =>
      rw [hx] at h
      have h1 := ihx s k1 s1 hx
      cases k1 with
      | norm => exact isQ_then h1 (ihy s1 k s' h)
      | _ =>
        injection h with e1 e2
        subst e1 e2
        exact isQ_left (by simp) h1
  | cond c x y ihx ihy =>
    intro s k s' h
    have h : brC (cCode P call n draw rng x) (cCode P call n draw rng y) s (evR s.t c) = .go k s' := h
    rw [evR_eq] at h
    unfold brC at h
    split at h
    case h_2 => cases h
    rename_i q hq
    refine sw_cond hq (fun e => ?_) (fun e => ?_)
    · subst e; exact ihx s k s' h
    · subst e; exact ihy s k s' h
  | block id x ih =>
    intro s k s' h
    have h : blkC id (cCode P call n draw rng x s) = .go k s' := h
    cases hx : cCode P call n draw rng x s with
    | no e => rw [hx] at h; cases h
    | go k1 s1 =>
      rw [hx] at h
      refine sw_block ((ih s k1 s1 hx).mono ?_)
      rintro e s2 ⟨rfl, rfl⟩
      cases k1 with
      | ex j =>
        have h : cond (Nat.beq j id) (.go .norm s2) (.go (.ex j) s2) = Cx.go k s' := h
        show if j = id then isQ k s' .normal s2 else isQ k s' (.exit j) s2
        by_cases e : j = id
        · rw [nbt e] at h
          injection h with e1 e2
          subst e1 e2
          rw [if_pos e]
          exact ⟨rfl, rfl⟩
        · rw [nbf e] at h
          injection h with e1 e2
          subst e1 e2
          rw [if_neg e]
          exact ⟨rfl, rfl⟩
      | _ =>
        injection h with e1 e2
        subst e1 e2
        exact ⟨rfl, rfl⟩
  | loop x ih =>
    intro s k s' h
    exact iter_ok (f := 100000) ih h
  | rangeFunc f ps as' body _ _ =>
    intro s k s' h
    exact hr f ps as' body s k s' h
  | exit id =>
    intro s k s' h
    injection h with h1 h2
    subst h1 h2
    exact aRun_sound (ctx := ([] : Ctx P)) 3 (by simp only [aRun, popTo]; exact ⟨rfl, rfl⟩)
  | label l =>
    intro s k s' h
    injection h with h1 h2
    subst h1 h2
    exact aRun_sound (ctx := ([] : Ctx P)) 3 (by simp only [aRun]; exact ⟨rfl, rfl⟩)
  | ret =>
    intro s k s' h
    injection h with h1 h2
    subst h1 h2
    exact aRun_sound (ctx := ([] : Ctx P)) 3 (by simp only [aRun]; exact ⟨rfl, rfl⟩)
  | scope x _ => intro s k s' h; cases h
  | goto l => intro s k s' h; cases h
  | refuse y => intro s k s' h; cases h
end
end Go.Proofs.YtpdjaabjfhjppaaGreatDoor
