/- Faults, plainly: which comes ahead of which; the first of them. No program in sight. -/
import Derived.Test.YtpdjaabjfhjppaaGreatDoorPlain
set_option linter.unusedVariables false
set_option linter.unusedSimpArgs false
namespace Go.Proofs.YtpdjaabjfhjppaaGreatDoor

/-- a fault -/
structure Flt where
  file : Int
  line : Int
  err : Int
deriving DecidableEq
def lessF (a b : Flt) : Bool := if a = b then false else if a.file = b.file then (if a.line = b.line then decide (a.err < b.err) else decide (a.line < b.line)) else decide (a.file < b.file)
theorem lessF_iff (a b : Flt) : lessF a b = true ↔ a.file < b.file ∨ (a.file = b.file ∧ (a.line < b.line ∨ (a.line = b.line ∧ a.err < b.err))) := by
  obtain ⟨a1, a2, a3⟩ := a
  obtain ⟨b1, b2, b3⟩ := b
  unfold lessF
  simp only [Flt.mk.injEq]
  split
  · simp only [Bool.false_eq_true, false_iff]
    omega
  · split
    · split
      · rw [decide_eq_true_eq]
        omega
      · rw [decide_eq_true_eq]
        omega
    · rw [decide_eq_true_eq]
      omega
theorem lessF_no (a b : Flt) : lessF a b = false ↔ b.file < a.file ∨ (a.file = b.file ∧ (b.line < a.line ∨ (a.line = b.line ∧ b.err ≤ a.err))) := by
  rw [← Bool.not_eq_true, lessF_iff]
  omega
theorem lessF_irr (a : Flt) : lessF a a = false := by rw [lessF_no]; omega
theorem lessF_asym {a b : Flt} (h : lessF a b = true) : lessF b a = false := by rw [lessF_iff] at h; rw [lessF_no]; omega
theorem lessF_total {a b : Flt} (h : ¬ a = b) (h1 : lessF a b = false) : lessF b a = true := by
  rw [lessF_no] at h1
  rw [lessF_iff]
  obtain ⟨a1, a2, a3⟩ := a
  obtain ⟨b1, b2, b3⟩ := b
  simp only [Flt.mk.injEq] at h
  simp only at h1 ⊢
  omega
theorem lessF_trans {a b c : Flt} (h : lessF a b = true) (h1 : lessF b c = true) : lessF a c = true := by rw [lessF_iff] at *; omega
theorem lessF_negt {a b c : Flt} (h : lessF b a = false) (h1 : lessF c b = false) : lessF c a = false := by rw [lessF_no] at *; omega
def minF (m y : Flt) : Flt := if lessF y m = true then y else m
def firstL (x : Flt) (l : List Flt) : Flt := l.foldl minF x
def firstO : List Flt → Flt × Bool
  | [] => (⟨0, 0, 0⟩, false)
  | x :: l => (firstL x l, true)
theorem minF_le (m y : Flt) : lessF m (minF m y) = false ∧ lessF y (minF m y) = false ∧ (minF m y = m ∨ minF m y = y) := by
  unfold minF
  split
  · rename_i h
    exact ⟨lessF_asym h, lessF_irr _, .inr rfl⟩
  · rename_i h
    exact ⟨lessF_irr _, by simpa using h, .inl rfl⟩
theorem firstL_all : ∀ (l : List Flt) (x : Flt), (firstL x l = x ∨ firstL x l ∈ l) ∧ lessF x (firstL x l) = false ∧ ∀ y ∈ l, lessF y (firstL x l) = false
  | [], x => ⟨.inl rfl, lessF_irr _, fun y h => by cases h⟩
  | z :: l, x => by
    obtain ⟨h1, h2, h3⟩ := firstL_all l (minF x z)
    obtain ⟨g1, g2, g3⟩ := minF_le x z
    have e : firstL x (z :: l) = firstL (minF x z) l := rfl
    rw [e]
    refine ⟨?_, lessF_negt h2 g1, fun y hy => ?_⟩
    · rcases h1 with h1 | h1
      · rw [h1]
        rcases g3 with g3 | g3
        · exact .inl g3
        · rw [g3]
          exact .inr (by simp)
      · exact .inr (by simp [h1])
    · rcases List.mem_cons.1 hy with rfl | hy
      · exact lessF_negt h2 g2
      · exact h3 y hy
theorem firstO_all {l : List Flt} (h : l ≠ []) : (firstO l).2 = true ∧ (firstO l).1 ∈ l ∧ ∀ y ∈ l, lessF y (firstO l).1 = false := by
  cases l with
  | nil => exact absurd rfl h
  | cons x l =>
    obtain ⟨h1, h2, h3⟩ := firstL_all l x
    refine ⟨rfl, ?_, fun y hy => ?_⟩
    · rcases h1 with h1 | h1
      · show firstL x l ∈ x :: l
        rw [h1]
        simp
      · exact List.mem_cons_of_mem _ h1
    · rcases List.mem_cons.1 hy with rfl | hy
      · exact h2
      · exact h3 y hy
theorem firstO_same {l m : List Flt} (hm : ∀ y, y ∈ l ↔ y ∈ m) (h : l ≠ []) : (firstO m).1 = (firstO l).1 := by
  have h' : m ≠ [] := by
    rintro rfl
    cases l with
    | nil => exact h rfl
    | cons x l => exact absurd ((hm x).1 (by simp)) (by simp)
  obtain ⟨-, h1, h2⟩ := firstO_all h
  obtain ⟨-, g1, g2⟩ := firstO_all h'
  by_cases e : (firstO m).1 = (firstO l).1
  · exact e
  · have h3 := h2 _ ((hm _).2 g1)
    have h4 := lessF_total e h3
    rw [g2 _ ((hm _).1 h1)] at h4
    cases h4
theorem firstO_turn {l : List Flt} (k : Nat) (h : l ≠ []) : (firstO (l.drop k ++ l.take k)).1 = (firstO l).1 := by
  refine firstO_same (fun y => ?_) h
  rw [List.mem_append]
  constructor
  · intro hy
    rw [← List.take_append_drop k l, List.mem_append] at hy
    exact hy.symm
  · rintro (hy | hy)
    · exact List.mem_of_mem_drop hy
    · exact List.mem_of_mem_take hy

end Go.Proofs.YtpdjaabjfhjppaaGreatDoor
