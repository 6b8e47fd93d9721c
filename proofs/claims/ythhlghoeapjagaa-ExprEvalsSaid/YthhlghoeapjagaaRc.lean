/- Contract of the reference's decimal (package cooperref09): it computes what package expr's does. -/
import Derived.Test.YthhlghoeapjagaaEb
import Derived.Test.YthhlghoeapjagaaPlain6
set_option linter.unusedVariables false
set_option linter.unusedSimpArgs false
namespace Go.Proofs.Ythhlghoeapjagaa
open Go.RowKit

set_option maxRecDepth 100000 in
set_option maxHeartbeats 1000000 in
theorem rdecimal_any (N : Nat) (w : World) (hN : N < 18446744073709551616) :
    Calls Try.prog 35 #[.int .u64 N] w fun e w' => e = .returned (.string (decS N)) ∧ w = w' := by
  have hN' := Lib.hid hN
  go_enter Try.func35, Try.ntmps35
  go_wp2_with fail
  go_loop [0, 3] (fun nv sv => ∃ (p m : Nat) (tail : ByteArray), nv = .int .u64 m ∧ sv = .string tail ∧ Hid (decG 20 N = decG p m ++ tail.data.toList) ∧ Hid (m < 10 ^ p) ∧ m ≤ N ∧ 0 < p ∧ p + tail.size = 20) (fun nv _ => (intOf nv).toNat)
  case atStart => exact ⟨20, N, ⟨#[]⟩, rfl, rfl, show _ = _ by simp, show N < 10 ^ 20 by have := hN'.out; omega, Nat.le_refl _, by omega, rfl⟩
  case round =>
    obtain ⟨p, m, tail, rfl, rfl, hd, hm, hmN, h0, ht⟩ := hrel
    obtain ⟨q, rfl⟩ : ∃ q, p = q + 1 := ⟨p - 1, by omega⟩
    have hts : tail.size ≤ 20 := by omega
    have hm10 : m % 10 < 10 := Nat.mod_lt _ (by omega)
    have hx := Lib.hid (digit_at (m % 10) hm10)
    by_cases h10 : m < 10
    · have h10' : ((m : Int) / 10 == 0) = true := by simp; omega
      have hs : Hid (decS N = ⟨#[UInt8.ofNat (48 + m % 10)]⟩ ++ tail) := show _ = _ by
        apply ByteArray.ext
        rw [ByteArray.data_append]
        apply Array.ext'
        show (decG 20 N).toArray.toList = _
        rw [hd.out, decG, if_pos h10, Nat.mod_eq_of_lt h10]
        simp
      go_wp2_with fail
      go_ret
      exact ⟨by rw [hx.out, hs.out]; rfl, rfl⟩
    · have h10' : ((m : Int) / 10 == 0) = false := by simp; omega
      go_wp2_with fail
      go_round
      case rel =>
        refine ⟨q, m / 10, _, by go_num, rfl, ?_, show _ < _ from dec_pow hm.out, by omega, dec_pos hm.out h10, ?_⟩
        · show _ = _
          rw [hx.out, hd.out, decG, if_neg h10, ByteArray.data_append]
          simp
        · rw [hx.out, ByteArray.size_append]
          show q + (1 + tail.size) = 20
          omega
      case measure => simp [intOf]; omega

end Go.Proofs.Ythhlghoeapjagaa
