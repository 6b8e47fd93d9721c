/- Plain Lean: what the reference's Add makes of two; no program in sight. -/
import Derived.Test.YthhlghoeapjagaaPlain4
set_option linter.unusedVariables false
set_option linter.unusedSimpArgs false
namespace Go.Proofs.Ythhlghoeapjagaa
open Go.RowKit

section
variable {a b r1 r2 : Val} {p1 p2 m1 m2 s1 s2 : ByteArray} {x1 x2 : Bool}
theorem oneF_true {a b s : ByteArray} (h : oneF a b = (s, true)) : s = a ++ b ∧ (a.toList = [] ∨ b.toList = []) := by
  unfold oneF at h
  split at h
  · rename_i e
    injection h with h1 h2
    subst h1
    subst e
    exact ⟨(ba_emp_append _).symm, .inl (ba_emp.2 rfl)⟩
  · injection h with h1 h2
    have hb : b = emp := by simpa using h2
    subst h1
    subst hb
    exact ⟨(ba_append_emp _).symm, .inr (ba_emp.2 rfl)⟩
theorem oneF_false {a b s : ByteArray} (h : oneF a b = (s, false)) : ¬ a.toList = [] ∧ ¬ b.toList = [] := by
  unfold oneF at h
  split at h
  · cases h
  · rename_i e
    injection h with h1 h2
    have hb : ¬ b = emp := by simpa using h2
    exact ⟨mt ba_emp.1 e, mt ba_emp.1 hb⟩
theorem addF_one_ok (hr1 : clearF a = r1) (hr2 : clearF b = r2) (h1 : meetF r1.plus r2.minus = (p1, m2)) (h2 : meetF r1.minus r2.plus = (m1, p2)) (o1 : oneF p1 p2 = (s1, true)) (o2 : oneF m1 m2 = (s2, true)) :
    addF a b = (⟨wrap64 (r1.add + r2.add), s1, s2⟩, 0) := by
  obtain ⟨rfl, k1⟩ := oneF_true o1
  obtain ⟨rfl, k2⟩ := oneF_true o2
  exact addF_ok hr1 hr2 h1 h2 k1 k2
theorem addF_one_bad (hr1 : clearF a = r1) (hr2 : clearF b = r2) (h1 : meetF r1.plus r2.minus = (p1, m2)) (h2 : meetF r1.minus r2.plus = (m1, p2)) (o1 : oneF p1 p2 = (s1, x1)) (o2 : oneF m1 m2 = (s2, x2)) (h : x1 = false ∨ x2 = false) :
    addF a b = (⟨0, ⟨#[]⟩, ⟨#[]⟩⟩, 91) := by
  rcases h with rfl | rfl
  · exact addF_bad hr1 hr2 h1 h2 (.inl (oneF_false o1))
  · exact addF_bad hr1 hr2 h1 h2 (.inr (oneF_false o2))
end

end Go.Proofs.Ythhlghoeapjagaa
