/- Names: system registers that are told by numbers, as plain functions. No program in sight. -/
import Derived.Test.YtkjkogmnijfanaaDoorA1
import Derived.Test.YtkjkogmnijfanaaDoorB0
set_option linter.unusedVariables false
set_option linter.unusedSimpArgs false
namespace Go.Proofs.YtkjkogmnijfanaaDoor
open Go.RowKit

def cS : ByteArray := ⟨#[99]⟩
def marksL : List ByteArray := [s1, emp, cS, cS, emp]
def mostL : List Int := [3, 7, 15, 15, 7]
def widthL : List Nat := [1, 3, 4, 4, 3]
def sysV (i : Nat) (d : Int) : Int := if i = 0 then d - 2 else d
def sysStep (lim : Nat) (i : Nat) (n : Int) (w : ByteArray) : Option Int :=
  if (cutF w (marksL.getD i emp)).2 = true ∧ (digF lim (cutF w (marksL.getD i emp)).1 (mostL.getD i 0)).2 = true ∧ 0 ≤ sysV i (digF lim (cutF w (marksL.getD i emp)).1 (mostL.getD i 0)).1 then
    some (n * 2 ^ widthL.getD i 0 + sysV i (digF lim (cutF w (marksL.getD i emp)).1 (mostL.getD i 0)).1)
  else none
def sysN (lim : Nat) (l : List ByteArray) : Nat → Option Int
  | 0 => some 0
  | i + 1 => match sysN lim l i, l[i]? with
    | some n, some w => sysStep lim i n w
    | _, _ => none
def sysF (lim : Nat) (s : ByteArray) : Option Int := if (splitF s us).length = 5 then sysN lim (splitF s us) 5 else none

theorem digF_range {lim : Nat} {s : ByteArray} {most : Int} (h : (digF lim s most).2 = true) : 0 ≤ (digF lim s most).1 ∧ (digF lim s most).1 ≤ most := by
  unfold digF at h ⊢
  split at h
  · cases h
  · rename_i hc
    rw [if_neg hc]
    split at h
    · rename_i n hn
      simp only [decide_eq_true_eq] at h
      exact ⟨(digN_bound hn).1, h⟩
    · cases h

theorem sysV_range {lim i : Nat} (hi : i < 5) {n : Int} {w : ByteArray} {m : Int} (h : sysStep lim i n w = some m) : ∃ v, sysV i (digF lim (cutF w (marksL.getD i emp)).1 (mostL.getD i 0)).1 = v ∧ 0 ≤ v ∧ v < 2 ^ widthL.getD i 0 ∧ m = n * 2 ^ widthL.getD i 0 + v := by
  unfold sysStep at h
  split at h
  case isFalse => cases h
  rename_i hc
  injection h with h
  refine ⟨_, rfl, hc.2.2, ?_, h.symm⟩
  have := digF_range hc.2.1
  clear h hc
  generalize digF lim (cutF w (marksL.getD i emp)).1 (mostL.getD i 0) = d at *
  have hi' : i = 0 ∨ i = 1 ∨ i = 2 ∨ i = 3 ∨ i = 4 := by omega
  rcases hi' with rfl | rfl | rfl | rfl | rfl <;> simp only [sysV, mostL, widthL, List.getD_cons_zero, List.getD_cons_succ] at this ⊢ <;> simp <;> omega

theorem sysN_bound {lim : Nat} {l : List ByteArray} : ∀ {i : Nat} {n : Int}, i ≤ 5 → sysN lim l i = some n → 0 ≤ n ∧ n < 2 ^ (4 * i + 1)
  | 0, n, _, h => by injection h with h; subst h; decide
  | i + 1, n, hi, h => by
    rw [sysN] at h
    split at h
    case h_2 => cases h
    rename_i m w hm hw
    obtain ⟨h0, h1⟩ := sysN_bound (i := i) (by omega) hm
    obtain ⟨v, _, v0, v1, rfl⟩ := sysV_range (by omega) h
    have hi' : i = 0 ∨ i = 1 ∨ i = 2 ∨ i = 3 ∨ i = 4 := by omega
    rcases hi' with rfl | rfl | rfl | rfl | rfl <;> simp only [widthL, List.getD_cons_zero, List.getD_cons_succ] at v1 h1 ⊢ <;> simp at v1 h1 ⊢ <;> omega

theorem sysN_none {lim : Nat} {l : List ByteArray} {i : Nat} (h : sysN lim l i = none) : ∀ {j}, i ≤ j → sysN lim l j = none := by
  intro j hj
  induction j with
  | zero => obtain rfl : i = 0 := by omega
            exact h
  | succ j ih =>
    by_cases e : i = j + 1
    · rw [← e]; exact h
    · rw [sysN, ih (by omega)]

end Go.Proofs.YtkjkogmnijfanaaDoor
