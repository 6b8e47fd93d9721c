/- Plain Lean: the law of ExprNumbers on what Add computes; no program in sight. -/
import Derived.Test.YthhlghoeapjagaaPlain2
set_option linter.unusedVariables false
set_option linter.unusedSimpArgs false
namespace Go.Proofs.Ythhlghoeapjagaa
open Go.RowKit

theorem meetF_swap (s t : ByteArray) : meetF t s = ((meetF s t).2, (meetF s t).1) := by
  unfold meetF
  by_cases h : s = t
  · rw [if_pos h, if_pos h.symm]
  · rw [if_neg h, if_neg (fun e => h e.symm)]

theorem ba_append_emp (s : ByteArray) : s ++ emp = s := by
  apply ByteArray.ext; simp [emp, ByteArray.data_append]
theorem ba_emp_append (s : ByteArray) : emp ++ s = s := by
  apply ByteArray.ext; simp [emp, ByteArray.data_append]

theorem app_comm {s t : ByteArray} (h : ¬ (s ≠ emp ∧ t ≠ emp)) : s ++ t = t ++ s := by
  by_cases hs : s = emp
  · rw [hs, ba_append_emp, ba_emp_append]
  · have ht : t = emp := Decidable.byContradiction fun ht => h ⟨hs, ht⟩
    rw [ht, ba_append_emp, ba_emp_append]

theorem addF_comm (a b : Val) : addF a b = addF b a := by
  unfold addF
  dsimp only
  rw [meetF_swap (clearF a).minus (clearF b).plus, meetF_swap (clearF a).plus (clearF b).minus]
  dsimp only
  generalize meetF (clearF a).minus (clearF b).plus = x
  generalize meetF (clearF a).plus (clearF b).minus = y
  by_cases h : (y.1 ≠ emp ∧ x.2 ≠ emp) ∨ (x.1 ≠ emp ∧ y.2 ≠ emp)
  · rw [if_pos h, if_pos (by rcases h with ⟨h1, h2⟩ | ⟨h1, h2⟩; exact .inl ⟨h2, h1⟩; exact .inr ⟨h2, h1⟩)]
  · rw [if_neg h, if_neg (fun k => h (by rcases k with ⟨h1, h2⟩ | ⟨h1, h2⟩; exact .inl ⟨h2, h1⟩; exact .inr ⟨h2, h1⟩)),
      app_comm (fun k => h (.inl k)), app_comm (fun k => h (.inr k)), Int.add_comm]

theorem wrap_self (a : Int) : wrap64 (a + wrap64 (-a)) = 0 := by unfold wrap64; omega

theorem addF_neg (a : Int) (p m : ByteArray) : addF ⟨a, p, m⟩ ⟨wrap64 (-a), m, p⟩ = (zeroV, 0) := by
  have hm : ∀ s, meetF s s = (emp, emp) := fun s => by simp [meetF]
  by_cases h : p = m
  · subst h
    simp [addF, clearF, hm, ba_append_emp, wrap_self, zeroV]
  · have h' : ¬ m = p := fun e => h e.symm
    simp [addF, clearF, h, h', hm, ba_append_emp, wrap_self, zeroV]

theorem addF_num (a b : Int) : addF ⟨a, ⟨#[]⟩, ⟨#[]⟩⟩ ⟨b, ⟨#[]⟩, ⟨#[]⟩⟩ = (⟨wrap64 (a + b), ⟨#[]⟩, ⟨#[]⟩⟩, 0) := by
  have hm : meetF emp emp = (emp, emp) := by simp [meetF]
  show addF ⟨a, emp, emp⟩ ⟨b, emp, emp⟩ = (⟨wrap64 (a + b), emp, emp⟩, 0)
  simp [addF, clearF, hm, ba_append_emp]

end Go.Proofs.Ythhlghoeapjagaa
