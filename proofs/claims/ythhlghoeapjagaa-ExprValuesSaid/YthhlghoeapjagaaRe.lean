/- The reference's Print, whatever the value. -/
import Derived.Test.YthhlghoeapjagaaRd
set_option linter.unusedVariables false
set_option linter.unusedSimpArgs false
namespace Go.Proofs.Ythhlghoeapjagaa
open Go.RowKit

theorem lit_app (s : ByteArray) (c : UInt8) : (⟨#[c]⟩ ++ s).toList.isEmpty = false ∧ ¬ (⟨#[c]⟩ ++ s).toList = [] := by
  have h : ¬ (⟨#[c]⟩ ++ s : ByteArray).size = 0 := by
    rw [ByteArray.size_append]
    have : (⟨#[c]⟩ : ByteArray).size = 1 := rfl
    omega
  exact ⟨toList_empty h, toList_not h⟩
theorem app_lit {s : ByteArray} (hs : ¬ s.toList = []) (t : ByteArray) : (s ++ t).toList.isEmpty = false ∧ ¬ (s ++ t).toList = [] := by
  have h0 : ¬ s.size = 0 := fun e => hs (toList_nil e)
  have h : ¬ (s ++ t : ByteArray).size = 0 := by rw [ByteArray.size_append]; omega
  exact ⟨toList_empty h, toList_not h⟩
theorem emp_app (s : ByteArray) : emp ++ s = s := by
  apply ByteArray.ext; simp [emp, ByteArray.data_append]

theorem signS_neg {a : Int} (h : a < 0) : signS a = ⟨#[45]⟩ ++ decS (-a).toNat := by rw [signS, if_pos h]
theorem signS_pos {a : Int} (h : 0 < a) : signS a = ⟨#[43]⟩ ++ decS a.toNat := by rw [signS, if_neg (by omega)]

theorem rprint_any (a : Int) (p m : ByteArray) (w : World) (hp : p.size ≤ maxLen) (hm : m.size ≤ maxLen) (hl : -9223372036854775808 ≤ a) (hu : a ≤ 9223372036854775807) :
    Calls Try.prog 11 #[.agg #[.int .i64 a, .string p, .string m]] w (PrintPost ⟨a, p, m⟩ w) := by
  have dn := fun W => rdecimal_any (-a).toNat W (by omega)
  have dp := fun W => rdecimal_any a.toNat W (by omega)
  have zn := decS_size (-a).toNat
  have zp := decS_size a.toNat
  have un := fun (h : a < 0) => u64_neg h hl
  have up := fun (h : 0 ≤ a) => u64_pos h hu
  by_cases hp0 : p = emp
  · subst hp0
    by_cases hm0 : m = emp
    · subst hm0
      by_cases ha : a < 0
      · exact rprint_plain_neg a w ha dn (un ha) zn (by simp only [lit_emp]; rw [emp_app, ← signS_neg ha]; simp [printF, ha])
      · exact rprint_plain_pos a w (by omega) dp (up (by omega)) zp (by simp [printF, lit_emp, ha])
    · have m1 := mt ba_emp.1 hm0
      have m2 : m.toList.isEmpty = false := by simpa using m1
      cases m3 : symB m with
      | false => exact rprint_badM0 a m w m1 m2 hm m3 (by simp [printF, lit_emp, hm0, m3]; try rfl)
      | true =>
        have m5 := symB_size m3
        have bb := lit_app (⟨#[45]⟩ ++ m) 48
        rcases Int.lt_trichotomy a 0 with ha | ha | ha
        · exact rprint_m_n a m w m1 m2 hm m3 m5 bb.1 bb.2 ha dn (un ha) zn (by rw [← signS_neg ha]; simp [printF, lit_emp, hm0, m3, Int.ne_of_lt ha, emp_ne hm0])
        · subst ha; exact rprint_m_0 m w m1 m2 hm m3 m5 bb.1 bb.2 (by simp [printF, lit_emp, hm0, m3, emp_ne hm0])
        · exact rprint_m_p a m w m1 m2 hm m3 m5 bb.1 bb.2 ha dp (up (by omega)) zp (by rw [← signS_pos ha]; simp [printF, lit_emp, hm0, m3, (Int.ne_of_lt ha).symm, emp_ne hm0])
  · have p1 := mt ba_emp.1 hp0
    have p2 : p.toList.isEmpty = false := by simpa using p1
    cases p3 : symB p with
    | false => exact rprint_badP a p m w p1 p2 hp p3 (by simp [printF, lit_emp, hp0, p3]; try rfl)
    | true =>
      have p5 := symB_size p3
      by_cases hm0 : m = emp
      · subst hm0
        rcases Int.lt_trichotomy a 0 with ha | ha | ha
        · exact rprint_p_n a p w p1 p2 hp p3 p5 ha dn (un ha) zn (by rw [← signS_neg ha]; simp [printF, lit_emp, hp0, p3, Int.ne_of_lt ha])
        · subst ha; exact rprint_p_0 p w p1 p2 hp p3 p5 (by simp [printF, lit_emp, hp0, p3])
        · exact rprint_p_p a p w p1 p2 hp p3 p5 ha dp (up (by omega)) zp (by rw [← signS_pos ha]; simp [printF, lit_emp, hp0, p3, (Int.ne_of_lt ha).symm])
      · have m1 := mt ba_emp.1 hm0
        have m2 : m.toList.isEmpty = false := by simpa using m1
        cases m3 : symB m with
        | false => exact rprint_badM a p m w p1 p2 hp p3 p5 m1 m2 hm m3 (by simp [printF, lit_emp, hm0, m3]; try rfl)
        | true =>
          have m5 := symB_size m3
          have bb := app_lit p1 (⟨#[45]⟩ ++ m)
          by_cases e : p = m
          · subst e; exact rprint_same a p w p1 p2 hp p3 p5 (by simp [printF, lit_emp, hp0, p3]; try rfl)
          · have ne : (p.toList == m.toList) = false := by simpa [ba_iff] using e
            rcases Int.lt_trichotomy a 0 with ha | ha | ha
            · exact rprint_pm_n a p m w p1 p2 hp p3 p5 m1 m2 hm m3 m5 ne bb.1 bb.2 ha dn (un ha) zn (by rw [← signS_neg ha]; simp [printF, lit_emp, hp0, hm0, p3, m3, e, Int.ne_of_lt ha])
            · subst ha; exact rprint_pm_0 p m w p1 p2 hp p3 p5 m1 m2 hm m3 m5 ne bb.1 bb.2 (by simp [printF, lit_emp, hp0, hm0, p3, m3, e])
            · exact rprint_pm_p a p m w p1 p2 hp p3 p5 m1 m2 hm m3 m5 ne bb.1 bb.2 ha dp (up (by omega)) zp (by rw [← signS_pos ha]; simp [printF, lit_emp, hp0, hm0, p3, m3, e, (Int.ne_of_lt ha).symm])

end Go.Proofs.Ythhlghoeapjagaa
