/- Contracts of the reference's numbers, two (package cooperref09): they compute what package expr's do. -/
import Derived.Test.YthhlghoeapjagaaRa
import Derived.Test.YthhlghoeapjagaaEe
import Derived.Test.YthhlghoeapjagaaPlain8
set_option linter.unusedVariables false
set_option linter.unusedSimpArgs false
namespace Go.Proofs.Ythhlghoeapjagaa
open Go.RowKit
attribute [local go_sem ↓] Go.wp_at_zero Go.wp_at_succ

set_option maxRecDepth 100000 in
set_option maxHeartbeats 2000000 in
theorem rshl_any (a b : Int) (w : World) (h0 : 0 ≤ b) (h1 : b ≤ 63) :
    Calls Try.prog 56 #[.int .i64 10, .int .i64 a, .int .i64 b] w fun e w' => e = .returned (.tuple #[.int .i64 (wrap64 (a * 2 ^ b.toNat)), .int .i64 0]) ∧ w = w' := by
  go_enter Try.func56, Try.ntmps56
  go_wp2_with fail
  go_loop [8, 9] (fun v i => ∃ (k : Nat) (x : Int), (k : Int) ≤ b ∧ i = .int .i64 k ∧ v = .int .u64 x ∧ 0 ≤ x ∧ Hid (x = (a * 2 ^ k) % 18446744073709551616)) (fun _ i => (b - intOf i).toNat)
  case atStart => exact ⟨0, IntKind.u64.wrap a, h0, rfl, rfl, u64_nonneg a, shl_init a⟩
  case round =>
    obtain ⟨k, x, hk, rfl, rfl, hx0, hx⟩ := hrel
    by_cases hlt : (k : Int) < b
    · go_wp2_with fail
      go_round
      case rel => exact ⟨k + 1, _, by omega, by go_num, rfl, u64_nonneg _, show _ = _ from shl_step hx.out⟩
      case measure => simp [intOf]; omega
    · have hb : b.toNat = k := by omega
      have hr := Lib.hid (shl_end (b := b) hb hx.out)
      clear hb
      go_wp2_with fail
      go_ret2
      exact ⟨by rw [← hr.out]; rfl, rfl⟩

set_option maxRecDepth 100000 in
set_option maxHeartbeats 2000000 in
theorem rshr_any (a b : Int) (w : World) (h0 : 0 ≤ b) (h1 : b ≤ 63) :
    Calls Try.prog 56 #[.int .i64 11, .int .i64 a, .int .i64 b] w fun e w' => e = .returned (.tuple #[.int .i64 (wrap64 (IntKind.u64.wrap a / 2 ^ b.toNat)), .int .i64 0]) ∧ w = w' := by
  go_enter Try.func56, Try.ntmps56
  go_wp2_with fail
  go_loop [8, 9] (fun v i => ∃ (k : Nat) (x : Int), (k : Int) ≤ b ∧ i = .int .i64 k ∧ v = .int .u64 x ∧ 0 ≤ x ∧ Hid (x = (a % 18446744073709551616) / 2 ^ k)) (fun _ i => (b - intOf i).toNat)
  case atStart => exact ⟨0, IntKind.u64.wrap a, h0, rfl, rfl, u64_nonneg a, shr_init a⟩
  case round =>
    obtain ⟨k, x, hk, rfl, rfl, hx0, hx⟩ := hrel
    by_cases hlt : (k : Int) < b
    · go_wp2_with fail
      go_round
      case rel => exact ⟨k + 1, _, by omega, by go_num, rfl, u64_nonneg _, show _ = _ from shr_step hx.out⟩
      case measure => simp [intOf]; omega
    · have hb : b.toNat = k := by omega
      have hr := Lib.hid (shr_end (b := b) hb hx.out)
      clear hb
      go_wp2_with fail
      go_ret2
      exact ⟨by rw [← hr.out]; rfl, rfl⟩

set_option maxRecDepth 100000 in
set_option maxHeartbeats 2000000 in
theorem rdiv_any (k a b : Int) (w : World) (hk : k = 6 ∨ k = 7) :
    Calls Try.prog 56 #[.int .i64 k, .int .i64 a, .int .i64 b] w fun e w' => e = .returned (.tuple #[.int .i64 (divF k a b).1, .int .i64 (divF k a b).2]) ∧ w = w' := by
  by_cases h0 : b = 0
  · have hx : Hid (divF k a b = (0, 92)) := show _ = _ by rw [divF, if_pos h0]
    have h0' : (b == 0) = true := by simpa using h0
    clear h0
    rcases hk with rfl | rfl
    iterate 2
      · go_enter Try.func56, Try.ntmps56
        go_wp2_with fail
        go_ret2; exact ⟨by rw [hx.out]; rfl, rfl⟩
  · have h0' : (b == 0) = false := by simpa using h0
    by_cases h1 : b = -1
    · have h1' : (b == -1) = true := by simpa using h1
      rcases hk with rfl | rfl
      · have hx : Hid (divF 6 a b = (wrap64 (-a), 0)) := show _ = _ by rw [divF, if_neg h0, if_neg (fun h => by simp at h), if_neg (by decide), if_pos h1]
        clear h1
        go_enter Try.func56, Try.ntmps56
        go_wp2_with fail
        go_ret2; exact ⟨by rw [hx.out]; rfl, rfl⟩
      · have hx : Hid (divF 7 a b = (0, 0)) := show _ = _ by rw [divF, if_neg h0, if_pos ⟨rfl, h1⟩]
        clear h1
        go_enter Try.func56, Try.ntmps56
        go_wp2_with fail
        go_ret2; exact ⟨by rw [hx.out]; rfl, rfl⟩
    · have h1' : (b == -1) = false := by simpa using h1
      rcases hk with rfl | rfl
      · have hx : Hid (divF 6 a b = (wrap64 (a.tdiv b), 0)) := show _ = _ by rw [divF, if_neg h0, if_neg (fun h => by simp at h), if_neg (by decide), if_neg h1]
        go_enter Try.func56, Try.ntmps56
        go_wp2_with fail
        go_ret2; exact ⟨by rw [hx.out]; rfl, rfl⟩
      · have hx : Hid (divF 7 a b = (a.tmod b, 0)) := show _ = _ by rw [divF, if_neg h0, if_neg (fun h => h1 h.2), if_pos rfl]
        go_enter Try.func56, Try.ntmps56
        go_wp2_with fail
        go_ret2; exact ⟨by rw [hx.out]; rfl, rfl⟩

set_option maxRecDepth 100000 in
set_option maxHeartbeats 2000000 in
theorem rnumbers_any (k a b : Int) (w : World) (hk : 5 ≤ k ∧ k ≤ 14 ∧ ¬ k = 8 ∧ ¬ k = 9) :
    Calls Try.prog 56 #[.int .i64 k, .int .i64 a, .int .i64 b] w fun e w' => e = .returned (.tuple #[.int .i64 (numF k a b).1, .int .i64 (numF k a b).2]) ∧ w = w' := by
  obtain ⟨q1, q2, q3, q4⟩ := hk
  have hc : k = 5 ∨ (k = 6 ∨ k = 7) ∨ (k = 10 ∨ k = 11) ∨ k = 12 ∨ k = 13 ∨ k = 14 := by omega
  clear q1 q2 q3 q4
  rcases hc with rfl | hk | hk | rfl | rfl | rfl
  · go_enter Try.func56, Try.ntmps56
    go_wp2_with fail
    go_ret2; exact ⟨by simp [numF], rfl⟩
  · have e : numF k a b = divF k a b := by rcases hk with rfl | rfl <;> simp [numF]
    rw [e]; exact rdiv_any k a b w hk
  · by_cases hb : 0 ≤ b ∧ b ≤ 63
    · rcases hk with rfl | rfl
      · have e : numF 10 a b = (wrap64 (a * 2 ^ b.toNat), 0) := by simp [numF]; omega
        rw [e]; exact rshl_any a b w hb.1 hb.2
      · have e : numF 11 a b = (wrap64 (IntKind.u64.wrap a / 2 ^ b.toNat), 0) := by simp [numF]; omega
        rw [e]; exact rshr_any a b w hb.1 hb.2
    · have e : numF k a b = (0, 7) := by rcases hk with rfl | rfl <;> (simp [numF]; omega)
      rw [e]
      have hb' : b < 0 ∨ 63 < b := by omega
      rcases hk with rfl | rfl <;> rcases hb' with hb' | hb'
      iterate 4
        · go_enter Try.func56, Try.ntmps56
          go_wp2_with fail
          go_ret2; exact ⟨rfl, rfl⟩
  · go_enter Try.func56, Try.ntmps56
    go_wp2_with fail
    go_ret2; exact ⟨by simp [numF], rfl⟩
  · go_enter Try.func56, Try.ntmps56
    go_wp2_with fail
    go_ret2; exact ⟨by simp [numF], rfl⟩
  · go_enter Try.func56, Try.ntmps56
    go_wp2_with fail
    go_ret2; exact ⟨by simp [numF], rfl⟩

end Go.Proofs.Ythhlghoeapjagaa
