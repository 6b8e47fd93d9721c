/- Contracts of the reference's IsSym and decimal (package cooperref09): they compute what package expr computes. -/
import Derived.Test.YthhlghoeapjagaaEb
import Derived.Test.YthhlghoeapjagaaPlain6
set_option linter.unusedVariables false
set_option linter.unusedSimpArgs false
namespace Go.Proofs.Ythhlghoeapjagaa
open Go.RowKit

set_option maxRecDepth 100000 in
set_option maxHeartbeats 1000000 in
theorem risSym_any (s : ByteArray) (w : World) (hs : s.size ≤ maxLen) :
    Calls Try.prog 15 #[.string s] w fun e w' => e = .returned (.bool (symB s)) ∧ w = w' := by
  unfold maxLen at hs
  have HR := Lib.hid (symB_scan s)
  go_enter Try.func15, Try.ntmps15
  go_wp2_with fail
  go_loop [3] (fun n => ∃ k : Nat, k ≤ s.size ∧ n = .int .i64 k ∧ Hid (scanB k (s.data.toList.drop k) = scanB 0 s.data.toList)) (fun n => s.size - (intOf n).toNat)
  case atStart => exact ⟨0, Nat.zero_le _, rfl, show _ = _ by simp⟩
  case round =>
    obtain ⟨k, hk, rfl, hr⟩ := hrel
    by_cases hlt : k < s.size
    · have hd := Lib.hid (drop_step s k hlt)
      have hc : (0 : Int) ≤ (s[k].toNat : Int) := by omega
      go_wp2_with fail
      all_goals first
        | (go_ret
           refine ⟨ret_bool ?_, rfl⟩
           have ok : okB k (s[k].toNat : Int) = false := by ((unfold okB letterB digitB; simp) <;> (try simp at *) <;> omega)
           rw [HR.out, ← hr.out, hd.out, scanB, ok]; rfl)
        | (have ok : okB k (s[k].toNat : Int) = true := by ((unfold okB letterB digitB; simp) <;> (try simp at *) <;> omega)
           go_round
           case rel => exact ⟨k + 1, by omega, by go_num, show _ = _ by rw [← hr.out, hd.out, scanB, ok, Bool.true_and]⟩
           case measure => simp [intOf]; omega)
    · have hd := Lib.hid (drop_end s k (by omega))
      by_cases h0 : s.size = 0
      · have h1 : s.toList = [] := toList_nil h0
        go_wp2_with fail
        go_ret
        exact ⟨ret_bool (by rw [HR.out, ← hr.out, hd.out]; simp [h0]), rfl⟩
      · have h1 : ¬ s.toList = [] := toList_not h0
        have h2 : s.toList.isEmpty = false := toList_empty h0
        go_wp2_with fail
        go_ret
        exact ⟨ret_bool (by rw [HR.out, ← hr.out, hd.out, Bool.eq_iff_iff]; simp [scanB, h0]; omega), rfl⟩

end Go.Proofs.Ythhlghoeapjagaa
