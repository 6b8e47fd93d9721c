/- Plain Lean: the reference's IsSym and decimal compute what expr's do; no program in sight. -/
import Derived.Test.YthhlghoeapjagaaPlain3
set_option linter.unusedVariables false
set_option linter.unusedSimpArgs false
namespace Go.Proofs.Ythhlghoeapjagaa
open Go.RowKit

def okB (i : Nat) (c : Int) : Bool := letterB c || (digitB c && decide (i ≠ 0))
def scanB (i : Nat) : List UInt8 → Bool
  | [] => true
  | c :: r => okB i c.toNat && scanB (i + 1) r

theorem scanB_wordy : ∀ (l : List UInt8) (i : Nat), i ≠ 0 → scanB i l = (runF wordyB l == l.length)
  | [], i, h => rfl
  | c :: r, i, h => by
    rw [scanB, scanB_wordy r (i + 1) (by omega)]
    have e : okB i c.toNat = wordyB c.toNat := by simp [okB, wordyB, h]
    rw [e]
    unfold runF
    rw [List.takeWhile_cons]
    cases wordyB c.toNat <;> simp

theorem symB_scan (s : ByteArray) : symB s = (scanB 0 s.data.toList && (!decide (s.size = 0) && decide (s.size ≤ 512))) := by
  unfold symB nameB
  have hl : s.data.toList.length = s.size := Array.length_toList
  cases e : s.data.toList with
  | nil =>
    have h0 : s.size = 0 := by rw [← hl, e]; rfl
    simp [h0]
  | cons c r =>
    have h0 : ¬ s.size = 0 := by rw [← hl, e]; simp
    have hr : s.size = r.length + 1 := by rw [← hl, e]; rfl
    rw [scanB, scanB_wordy r 1 (by omega)]
    have e1 : okB 0 c.toNat = letterB c.toNat := by simp [okB]
    rw [e1]
    cases hL : letterB c.toNat with
    | false => simp [hL]
    | true =>
      have hw : wordyB c.toNat = true := by simp [wordyB, hL]
      have e2 : runF wordyB (c :: r) = runF wordyB r + 1 := by unfold runF; rw [List.takeWhile_cons, hw]; rfl
      have e3 : (runF wordyB r + 1 == r.length + 1) = (runF wordyB r == r.length) := by rw [Bool.eq_iff_iff]; simp
      have e4 : decide (r.length + 1 = 0) = false := by simp
      simp only [hL, e2, hr, Bool.true_and, e3, e4, Bool.not_false]
      rw [Bool.and_comm]

theorem digit_at (d : Nat) (h : d < 10) : (⟨#[48, 49, 50, 51, 52, 53, 54, 55, 56, 57, 97, 98, 99, 100, 101, 102]⟩ : ByteArray).extract d (d + 1) = ⟨#[UInt8.ofNat (48 + d)]⟩ := by
  match d, h with
  | 0, _ => rfl
  | 1, _ => rfl
  | 2, _ => rfl
  | 3, _ => rfl
  | 4, _ => rfl
  | 5, _ => rfl
  | 6, _ => rfl
  | 7, _ => rfl
  | 8, _ => rfl
  | 9, _ => rfl

theorem dec_pow {m q : Nat} (h : m < 10 ^ (q + 1)) : m / 10 < 10 ^ q := by
  rw [Nat.pow_succ] at h; omega
theorem dec_pos {m q : Nat} (h : m < 10 ^ (q + 1)) (h10 : ¬ m < 10) : 0 < q := by
  rcases Nat.eq_zero_or_pos q with rfl | h0
  · simp at h; omega
  · exact h0

end Go.Proofs.Ythhlghoeapjagaa
