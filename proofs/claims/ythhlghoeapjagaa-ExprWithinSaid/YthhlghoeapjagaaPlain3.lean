/- Plain Lean: decimal digits, numbers, texts of values; no program in sight. -/
import Derived.Test.YthhlghoeapjagaaPlain
set_option linter.unusedVariables false
set_option linter.unusedSimpArgs false
namespace Go.Proofs.Ythhlghoeapjagaa
open Go.RowKit

/-- a number's decimal digits, at most so many -/
def decG : Nat → Nat → List UInt8
  | 0, _ => []
  | f + 1, n => if n < 10 then [UInt8.ofNat (48 + n)] else decG f (n / 10) ++ [UInt8.ofNat (48 + n % 10)]

def decS (n : Nat) : ByteArray := ⟨(decG 20 n).toArray⟩

theorem decG_len : ∀ f n, (decG f n).length ≤ f
  | 0, _ => Nat.le_refl _
  | f + 1, n => by
    rw [decG]
    split
    · simp
    · rw [List.length_append]; have := decG_len f (n / 10); simp; omega
theorem decS_size (n : Nat) : (decS n).size ≤ 20 := by
  show (decG 20 n).toArray.size ≤ 20
  rw [List.size_toArray]; exact decG_len 20 n

theorem u64_neg {n : Int} (h : n < 0) (hl : -9223372036854775808 ≤ n) : IntKind.u64.wrap (-IntKind.u64.wrap n) = (((-n).toNat : Nat) : Int) := by
  rw [IntKind.wrap_u64, IntKind.wrap_u64]; omega
theorem u64_pos {n : Int} (h : 0 ≤ n) (hl : n ≤ 9223372036854775807) : IntKind.u64.wrap n = ((n.toNat : Nat) : Int) := by
  rw [IntKind.wrap_u64]; omega

/-- a number with a sign ahead of it -/
def signS (n : Int) : ByteArray := if n < 0 then ⟨#[45]⟩ ++ decS (-n).toNat else ⟨#[43]⟩ ++ decS n.toNat

theorem signS_size (n : Int) : (signS n).size ≤ 21 := by
  have h1 := decS_size (-n).toNat
  have h2 := decS_size n.toNat
  have e1 : (⟨#[45]⟩ : ByteArray).size = 1 := rfl
  have e2 : (⟨#[43]⟩ : ByteArray).size = 1 := rfl
  unfold signS
  split <;> rw [ByteArray.size_append] <;> omega
theorem symB_size {s : ByteArray} (h : symB s = true) : s.size ≤ 512 := by
  unfold symB at h; simp at h; exact h.1
theorem lit_emp : (⟨#[]⟩ : ByteArray) = emp := rfl
theorem emp_ne {m : ByteArray} (h : ¬ m = emp) : ¬ emp = m := fun e => h e.symm

/-- a value's text -/
def printF (v : Val) : ByteArray × Int :=
  if (v.plus ≠ emp ∧ symB v.plus = false) ∨ (v.minus ≠ emp ∧ symB v.minus = false) then (emp, 90)
  else if v.plus = v.minus ∧ v.plus ≠ emp then (emp, 90)
  else if v.plus = emp ∧ v.minus = emp then (if v.add < 0 then (signS v.add, 0) else (decS v.add.toNat, 0))
  else
    let o := if v.plus = emp then ⟨#[48]⟩ else v.plus
    let o := if v.minus = emp then o else o ++ (⟨#[45]⟩ ++ v.minus)
    (if v.add = 0 then o else o ++ signS v.add, 0)

end Go.Proofs.Ythhlghoeapjagaa
