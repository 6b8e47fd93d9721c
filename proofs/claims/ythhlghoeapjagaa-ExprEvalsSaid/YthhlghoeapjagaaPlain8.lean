/- Plain Lean: shifts one by one; no program in sight. -/
import Derived.Test.YthhlghoeapjagaaPlain2
set_option linter.unusedVariables false
set_option linter.unusedSimpArgs false
namespace Go.Proofs.Ythhlghoeapjagaa
open Go.RowKit

theorem u64_nonneg (a : Int) : 0 ≤ IntKind.u64.wrap a := by rw [IntKind.wrap_u64]; omega
theorem wrap64_mod (y : Int) : wrap64 (y % 18446744073709551616) = wrap64 y := by unfold wrap64; omega

theorem shl_init (a : Int) : Hid (IntKind.u64.wrap a = (a * 2 ^ 0) % 18446744073709551616) := show _ = _ by rw [IntKind.wrap_u64]; simp
theorem shl_step {a x : Int} {k : Nat} (h : x = (a * 2 ^ k) % 18446744073709551616) : IntKind.u64.wrap (x * 2) = (a * 2 ^ (k + 1)) % 18446744073709551616 := by
  have e : a * 2 ^ (k + 1) = (a * 2 ^ k) * 2 := by rw [Int.pow_succ, Int.mul_assoc]
  rw [IntKind.wrap_u64, e, h]
  generalize a * 2 ^ k = y
  omega
theorem shl_end {a b x : Int} {k : Nat} (hb : b.toNat = k) (h : x = (a * 2 ^ k) % 18446744073709551616) : wrap64 x = wrap64 (a * 2 ^ b.toNat) := by
  rw [h, hb, wrap64_mod]
theorem shr_init (a : Int) : Hid (IntKind.u64.wrap a = (a % 18446744073709551616) / 2 ^ 0) := show _ = _ by rw [IntKind.wrap_u64]; simp
theorem shr_lt (a : Int) (k : Nat) : (a % 18446744073709551616) / 2 ^ k < 18446744073709551616 := by
  have h1 : 0 ≤ a % 18446744073709551616 := Int.emod_nonneg _ (by omega)
  have h2 : a % 18446744073709551616 < 18446744073709551616 := Int.emod_lt_of_pos _ (by omega)
  have h3 : (a % 18446744073709551616) / 2 ^ k ≤ a % 18446744073709551616 := Int.ediv_le_self _ h1
  omega
theorem shr_step {a x : Int} {k : Nat} (h : x = (a % 18446744073709551616) / 2 ^ k) : IntKind.u64.wrap (x.tdiv 2) = (a % 18446744073709551616) / 2 ^ (k + 1) := by
  have hl : x < 18446744073709551616 := by rw [h]; exact shr_lt a k
  have h0 : 0 ≤ x := by
    rw [h]; exact Int.ediv_nonneg (Int.emod_nonneg _ (by omega)) (Int.le_of_lt (Int.pow_pos (by omega)))
  have e : (a % 18446744073709551616) / 2 ^ (k + 1) = x / 2 := by
    rw [h, Int.pow_succ, Int.ediv_ediv_of_nonneg (Int.le_of_lt (Int.pow_pos (by omega)))]
  rw [e, IntKind.wrap_u64, Int.tdiv_eq_ediv_of_nonneg h0]
  omega
theorem shr_end {a b x : Int} {k : Nat} (hb : b.toNat = k) (h : x = (a % 18446744073709551616) / 2 ^ k) : wrap64 x = wrap64 (IntKind.u64.wrap a / 2 ^ b.toNat) := by
  rw [h, hb, IntKind.wrap_u64]

end Go.Proofs.Ythhlghoeapjagaa
