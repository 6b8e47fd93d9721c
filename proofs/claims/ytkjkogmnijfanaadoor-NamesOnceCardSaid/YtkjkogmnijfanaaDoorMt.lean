/- Names: no two alike; rising numbers. No program in sight. -/
import Derived.Test.YtkjkogmnijfanaaDoorA10
set_option linter.unusedVariables false
set_option linter.unusedSimpArgs false
namespace Go.Proofs.YtkjkogmnijfanaaDoor

def onceB : List ByteArray → Option Int → List (ByteArray × Int) → Bool
  | _, _, [] => true
  | ks, p, r :: l => !(ks.any fun x => r.1 == x) && (match p with | none => true | some n => decide (n < r.2)) && onceB (ks ++ [r.1]) (some r.2) l

theorem once1 : onceB [] none (regsTo 128) = true := by decide +kernel
theorem once2 : onceB [] none (tblF 2) = true := by decide +kernel
theorem once3 : onceB [] none (tblF 3) = true := by decide +kernel
theorem once4 : onceB [] none (tblF 4) = true := by decide +kernel
theorem once5 : onceB [] none (tblF 5) = true := by decide +kernel
theorem once6 : onceB [] none (tblF 6) = true := by decide +kernel
theorem once7 : onceB [] none (tblF 7) = true := by decide +kernel
theorem once8 : onceB [] none (tblF 8) = true := by decide +kernel
theorem once_all (k : Int) : onceB [] none (allF k) = true := by
  unfold allF
  split
  · exact once1
  · by_cases h2 : k = 2
    · subst h2; exact once2
    by_cases h3 : k = 3
    · subst h3; exact once3
    by_cases h4 : k = 4
    · subst h4; exact once4
    by_cases h5 : k = 5
    · subst h5; exact once5
    by_cases h6 : k = 6
    · subst h6; exact once6
    by_cases h7 : k = 7
    · subst h7; exact once7
    by_cases h8 : k = 8
    · subst h8; exact once8
    have : tblF k = [] := by unfold tblF; simp [h2, h3, h4, h5, h6, h7, h8]
    rw [this]
    rfl

theorem allF_small (k : Int) : (allF k).length ≤ 1000 := by
  unfold allF
  split
  · have h : ∀ n, (regsTo n).length ≤ n := fun n => by
      induction n with
      | zero => exact Nat.le_refl 0
      | succ n ih => rw [regsTo, List.length_append]; split <;> simp <;> omega
    have := h 128
    omega
  · unfold tblF
    repeat' split
    all_goals decide

def namesTo (l : List (ByteArray × Int)) (i : Nat) : List ByteArray := (l.take i).map (·.1)
theorem namesTo_next {l : List (ByteArray × Int)} {i : Nat} {r : ByteArray × Int} (h : l[i]? = some r) : namesTo l (i + 1) = namesTo l i ++ [r.1] := by
  unfold namesTo
  rw [List.take_add_one, h]
  simp

theorem once_at : ∀ {l : List (ByteArray × Int)} {ks : List ByteArray} {p : Option Int}, onceB ks p l = true → ∀ (i : Nat) (r : ByteArray × Int), l[i]? = some r →
    ((ks ++ namesTo l i).any fun x => r.1 == x) = false ∧ (0 < i → ∃ q, l[i - 1]? = some q ∧ q.2 < r.2)
  | [], _, _, _, i, r, hr => by simp at hr
  | x :: l, ks, p, h, i, r, hr => by
    simp only [onceB, Bool.and_eq_true] at h
    obtain ⟨⟨h1, _⟩, h3⟩ := h
    cases i with
    | zero =>
      simp only [List.getElem?_cons_zero, Option.some.injEq] at hr
      subst hr
      exact ⟨by simpa [namesTo] using h1, fun h => absurd h (Nat.lt_irrefl _)⟩
    | succ i =>
      rw [List.getElem?_cons_succ] at hr
      obtain ⟨g1, g2⟩ := once_at h3 i r hr
      refine ⟨?_, fun _ => ?_⟩
      · have e : ks ++ namesTo (x :: l) (i + 1) = ks ++ [x.1] ++ namesTo l i := by simp [namesTo]
        rw [e]
        exact g1
      · cases i with
        | zero =>
          refine ⟨x, rfl, ?_⟩
          cases l with
          | nil => simp at hr
          | cons y l =>
            simp only [List.getElem?_cons_zero, Option.some.injEq] at hr
            subst hr
            simp only [onceB, Bool.and_eq_true] at h3
            simpa using h3.1.2
        | succ i =>
          obtain ⟨q, hq, hlt⟩ := g2 (Nat.succ_pos i)
          exact ⟨q, by simpa using hq, hlt⟩

end Go.Proofs.YtkjkogmnijfanaaDoor
