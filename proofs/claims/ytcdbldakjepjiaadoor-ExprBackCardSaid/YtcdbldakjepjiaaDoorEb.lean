/- Contracts of package lex's tests on bytes and names, and of IsSym. -/
import Derived.Test.YtcdbldakjepjiaaDoorChecked
import Derived.Test.YtcdbldakjepjiaaDoorLib
import Derived.Test.YtcdbldakjepjiaaDoorPlain
import Derived.WalkKit
import Derived.WalkSpells
import Derived.WalkLawsBesides
import Derived.Lib.Hide
set_option linter.unusedVariables false
set_option linter.unusedSimpArgs false
namespace Go.Proofs.YtcdbldakjepjiaaDoor
open Go.RowKit

set_option maxHeartbeats 400000 in
theorem letter_any (n : Int) (w : World) :
    Calls Tryd.prog 55 #[.int .u8 n] w fun e w' => e = .returned (.bool (letterB n)) ∧ w = w' := by
  go_enter Tryd.func55, Tryd.ntmps55
  go_wp2
  all_goals (go_ret; refine ⟨ret_bool ?_, rfl⟩; rw [Bool.eq_iff_iff]; simp [letterB]; try omega)

set_option maxHeartbeats 400000 in
theorem digit_any (n : Int) (w : World) :
    Calls Tryd.prog 88 #[.int .u8 n] w fun e w' => e = .returned (.bool (digitB n)) ∧ w = w' := by
  go_enter Tryd.func88, Tryd.ntmps88
  go_wp2
  all_goals (go_ret; refine ⟨ret_bool ?_, rfl⟩; rw [Bool.eq_iff_iff]; simp [digitB]; try omega)

set_option maxHeartbeats 400000 in
theorem wordy_any (n : Int) (w : World) :
    Calls Tryd.prog 57 #[.int .u8 n] w fun e w' => e = .returned (.bool (wordyB n)) ∧ w = w' := by
  by_cases h : letterB n = true
  · go_enter Tryd.func57, Tryd.ntmps57
    go_wp2_with (first | (go_at_call 55; refine (letter_any _ _).mono ?_; rintro e w' ⟨rfl, rfl⟩) | (go_at_call 88; refine (digit_any _ _).mono ?_; rintro e w' ⟨rfl, rfl⟩))
    go_ret; exact ⟨ret_bool (by simp [wordyB, h]), rfl⟩
  · have h' : letterB n = false := by simpa using h
    go_enter Tryd.func57, Tryd.ntmps57
    go_wp2_with (first | (go_at_call 55; refine (letter_any _ _).mono ?_; rintro e w' ⟨rfl, rfl⟩) | (go_at_call 88; refine (digit_any _ _).mono ?_; rintro e w' ⟨rfl, rfl⟩))
    go_ret; exact ⟨ret_bool (by simp [wordyB, h']), rfl⟩

set_option maxHeartbeats 400000 in
theorem run_gen (F : Nat) (g : Int → Bool) (hE : ∀ args w, (callFunc F args).run Tryd.prog w = .ok (.enter F args) w) (hF : ∀ (n : Int) (w : World), Calls Tryd.prog F #[.int .u8 n] w fun e w' => e = .returned (.bool (g n)) ∧ w = w') (s : ByteArray) (w : World) (hs : s.size ≤ maxLen) :
    Calls Tryd.prog 56 #[.string s, .func (.func F) #[] #[]] w fun e w' => e = .returned (.int .i64 (runF g s.data.toList)) ∧ w = w' := by
  have HF := Lib.hid hF
  clear hF
  unfold maxLen at hs
  go_enter Tryd.func56, Tryd.ntmps56
  go_wp2_with fail
  go_loop [5] (fun n => ∃ k : Nat, k ≤ s.size ∧ n = .int .i64 k ∧ Hid (runF g (s.data.toList.drop k) + k = runF g s.data.toList)) (fun n => s.size - (intOf n).toNat)
  case atStart => exact ⟨0, Nat.zero_le _, rfl, show _ = _ by simp⟩
  case round =>
    obtain ⟨k, hk, rfl, hr⟩ := hrel
    by_cases hlt : k < s.size
    · have st := Lib.hid (runF_step g s k hlt)
      by_cases hg : g (s[k].toNat : Int) = true
      · go_wp2_with fail
        refine (HF.out _ _).mono ?_
        rintro e w' ⟨rfl, rfl⟩
        go_wp2_with fail
        go_round
        case rel => exact ⟨k + 1, by omega, by go_num, show _ = _ by rw [← hr.out, st.out, if_pos hg]; omega⟩
        case measure => simp [intOf]; omega
      · have hg' : g (s[k].toNat : Int) = false := by simpa using hg
        go_wp2_with fail
        refine (HF.out _ _).mono ?_
        rintro e w' ⟨rfl, rfl⟩
        go_wp2_with fail
        go_ret
        exact ⟨ret_int (by have h1 := hr.out; rw [st.out, if_neg (by simp [hg'])] at h1; omega), rfl⟩
    · have h0 := Lib.hid (runF_end g s k (by omega))
      go_wp2_with fail
      go_ret
      exact ⟨ret_int (by have h1 := hr.out; rw [h0.out] at h1; omega), rfl⟩

theorem enter_wordy (args : Array Value) (w : World) : (callFunc 57 args).run Tryd.prog w = .ok (.enter 57 args) w := by go_simp

theorem run_wordy (s : ByteArray) (w : World) (hs : s.size ≤ maxLen) :
    Calls Tryd.prog 56 #[.string s, .func (.func 57) #[] #[]] w fun e w' => e = .returned (.int .i64 (runF wordyB s.data.toList)) ∧ w = w' :=
  run_gen _ _ enter_wordy wordy_any s w hs

set_option maxHeartbeats 400000 in
theorem name_any (s : ByteArray) (w : World) (hs : s.size ≤ maxLen) :
    Calls Tryd.prog 27 #[.string s] w fun e w' => e = .returned (.bool (nameB s)) ∧ w = w' := by
  by_cases h0 : s.size = 0
  · have h1 : s.toList = [] := toList_nil h0
    have h2 : s.toList.isEmpty = true := by rw [h1]; rfl
    go_enter Tryd.func27, Tryd.ntmps27
    go_wp2_with fail
    go_ret
    exact ⟨ret_bool (nameB_nil h0), rfl⟩
  · have h1 : 0 < s.size := by omega
    have h2 : s.toList.isEmpty = false := toList_empty h0
    have h3 : ¬ s.toList = [] := toList_not h0
    by_cases hl : letterB (s[0].toNat : Int) = true
    · go_enter Tryd.func27, Tryd.ntmps27
      go_wp2_with (first | (go_at_call 55; refine (letter_any _ _).mono ?_; rintro e w' ⟨rfl, rfl⟩) | (go_at_call 56; refine (run_wordy _ _ hs).mono ?_; rintro e w' ⟨rfl, rfl⟩))
      go_ret
      exact ⟨ret_bool (by rw [nameB_cons h1, hl, Bool.true_and, Bool.eq_iff_iff, beq_iff_eq, beq_iff_eq]; omega), rfl⟩
    · have hl' : letterB (s[0].toNat : Int) = false := by simpa using hl
      go_enter Tryd.func27, Tryd.ntmps27
      go_wp2_with (first | (go_at_call 55; refine (letter_any _ _).mono ?_; rintro e w' ⟨rfl, rfl⟩) | (go_at_call 56; refine (run_wordy _ _ hs).mono ?_; rintro e w' ⟨rfl, rfl⟩))
      go_ret
      exact ⟨ret_bool (by rw [nameB_cons h1, hl']; simp), rfl⟩

set_option maxHeartbeats 400000 in
theorem isSym_any (s : ByteArray) (w : World) (hs : s.size ≤ maxLen) :
    Calls Tryd.prog 67 #[.string s] w fun e w' => e = .returned (.bool (symB s)) ∧ w = w' := by
  by_cases h : s.size ≤ 512
  · have h' : (s.size : Int) ≤ 512 := by omega
    go_enter Tryd.func67, Tryd.ntmps67
    go_wp2_with (first | (go_at_call 27; refine (name_any _ _ hs).mono ?_; rintro e w' ⟨rfl, rfl⟩))
    go_ret
    exact ⟨ret_bool (by simp [symB, h]), rfl⟩
  · have h' : (512 : Int) < s.size := by omega
    go_enter Tryd.func67, Tryd.ntmps67
    go_wp2_with (first | (go_at_call 27; refine (name_any _ _ hs).mono ?_; rintro e w' ⟨rfl, rfl⟩))
    go_ret
    exact ⟨ret_bool (by simp [symB, h]), rfl⟩

end Go.Proofs.YtcdbldakjepjiaaDoor
