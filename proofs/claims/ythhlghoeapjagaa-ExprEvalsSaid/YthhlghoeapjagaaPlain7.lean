/- Plain Lean: the reference's takes; no program in sight. -/
import Derived.Test.YthhlghoeapjagaaPlain2
set_option linter.unusedVariables false
set_option linter.unusedSimpArgs false
namespace Go.Proofs.Ythhlghoeapjagaa
open Go.RowKit

def rtakesF (k : Int) : Int := if k = 1 ∨ k = 2 then 0 else if k = 3 ∨ k = 4 then 1 else if 5 ≤ k ∧ k ≤ 14 then 2 else -1
theorem rtakesF_bd (k : Int) : -1 ≤ rtakesF k ∧ rtakesF k ≤ 2 := by unfold rtakesF; split <;> (try split) <;> (try split) <;> omega

theorem checkF_bad {ts : List Term} (h : formF 0 ts = 90) : checkF ts = 90 := by
  unfold checkF; rw [h]; simp
theorem checkF_long {ts : List Term} (h : formF 0 ts = 0) (hl : 256 < ts.length) : checkF ts = 93 := by
  unfold checkF; rw [h, if_pos hl, if_pos rfl]
theorem checkF_ok {ts : List Term} (h : formF 0 ts = 0) (hl : ¬ 256 < ts.length) : checkF ts = 0 := by
  unfold checkF; rw [if_neg hl, h]

theorem symB_emp : symB emp = false := by decide

theorem rcheck_ret {t : Term} {h : Int} (hb : rtakesF t.kind < 0 ∨ h < rtakesF t.kind ∨ (¬ t.kind = 1 ∧ ¬ t.n = 0) ∨ (¬ t.kind = 2 ∧ ¬ t.sym.toList = []) ∨ (t.kind = 2 ∧ symB t.sym = false)) (h0 : 0 ≤ h) : termB t = false ∨ h < takesF t.kind := by
  by_cases k1 : t.kind = 1
  · simp [k1, rtakesF, ba_emp] at hb
    rcases hb with hb | hb
    · omega
    · exact .inl (by simp [termB, k1, hb])
  by_cases k2 : t.kind = 2
  · simp [k2, rtakesF] at hb
    rcases hb with hb | hb | hb
    · omega
    · exact .inl (by simp [termB, k2, hb])
    · exact .inl (by simp [termB, k2, hb])
  by_cases hk : 0 < takesF t.kind
  · have e : rtakesF t.kind = takesF t.kind := by
      unfold rtakesF takesF at *
      rw [if_neg (by omega)]
      split at hk <;> rename_i hh
      · rw [if_pos hh, if_pos hh]
      · split at hk <;> rename_i hg
        · rw [if_neg hh, if_pos hg, if_neg hh, if_pos hg]
        · omega
    rw [e] at hb
    rcases hb with hb | hb | hb | hb | hb
    · omega
    · exact .inr hb
    · exact .inl (by simp [termB, k1, k2, hb.2])
    · exact .inl (by have := mt ba_emp.2 hb.2; simp [termB, k1, k2, this])
    · exact (k2 hb.1).elim
  · exact .inl (by simp [termB, k1, k2, hk])

theorem rcheck_go {t : Term} {h : Int} (ha : 0 ≤ rtakesF t.kind) (hb : rtakesF t.kind ≤ h) (hn : t.kind = 1 ∨ t.n = 0) (hs : t.kind = 2 ∨ t.sym.toList = []) (hy : t.kind = 2 → symB t.sym = true) :
    ¬ (termB t = false ∨ h < takesF t.kind) ∧ takesF t.kind = rtakesF t.kind := by
  by_cases k1 : t.kind = 1
  · have : t.sym = emp := ba_emp.1 (hs.resolve_left (by omega))
    simp [k1, termB, this, takesF, rtakesF] at *
    omega
  by_cases k2 : t.kind = 2
  · have h0 := hn.resolve_left k1
    simp [k2, termB, takesF, rtakesF, h0, hy k2] at *
    omega
  · have h0 := hn.resolve_left k1
    have h1 : t.sym = emp := ba_emp.1 (hs.resolve_left k2)
    have er : rtakesF t.kind = if t.kind = 3 ∨ t.kind = 4 then 1 else if 5 ≤ t.kind ∧ t.kind ≤ 14 then 2 else -1 := by
      unfold rtakesF; rw [if_neg (by omega)]
    have et : takesF t.kind = if t.kind = 3 ∨ t.kind = 4 then 1 else if 5 ≤ t.kind ∧ t.kind ≤ 14 then 2 else 0 := rfl
    have e : takesF t.kind = rtakesF t.kind ∧ 0 < takesF t.kind := by
      by_cases hh : t.kind = 3 ∨ t.kind = 4
      · rw [if_pos hh] at er et; omega
      · by_cases hg : 5 ≤ t.kind ∧ t.kind ≤ 14
        · rw [if_neg hh, if_pos hg] at er et; omega
        · rw [if_neg hh, if_neg hg] at er; omega
    refine ⟨?_, e.1⟩
    rintro (hf | hf)
    · simp [termB, k1, k2, h0, h1] at hf; omega
    · omega

end Go.Proofs.Ythhlghoeapjagaa
