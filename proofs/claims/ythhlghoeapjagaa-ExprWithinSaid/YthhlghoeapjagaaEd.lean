/- Contracts of divide and numbers of package expr. -/
import Derived.Test.YthhlghoeapjagaaEb
set_option linter.unusedVariables false
set_option linter.unusedSimpArgs false
namespace Go.Proofs.Ythhlghoeapjagaa
open Go.RowKit

set_option maxHeartbeats 400000 in
theorem divide_any (k a b : Int) (w : World) :
    Calls Try.prog 63 #[.int .i64 k, .int .i64 a, .int .i64 b] w fun e w' => e = .returned (.tuple #[.int .i64 (divF k a b).1, .int .i64 (divF k a b).2]) ∧ w = w' := by
  by_cases h0 : b = 0
  · have hx : Hid (divF k a b = (0, 92)) := show _ = _ by rw [divF, if_pos h0]
    have h0' : (b == 0) = true := by simpa using h0
    clear h0
    go_enter Try.func63, Try.ntmps63
    go_wp2_with fail
    go_ret2; exact ⟨by rw [hx.out]; rfl, rfl⟩
  · have h0' : (b == 0) = false := by simpa using h0
    by_cases h1 : b = -1
    · have h1' : (b == -1) = true := by simpa using h1
      by_cases h7 : k = 7
      · have hx : Hid (divF k a b = (0, 0)) := show _ = _ by rw [divF, if_neg h0, if_pos ⟨h7, h1⟩]
        have h7' : (k == 7) = true := by simpa using h7
        clear h7 h1
        go_enter Try.func63, Try.ntmps63
        go_wp2_with fail
        go_ret2; exact ⟨by rw [hx.out]; rfl, rfl⟩
      · have hx : Hid (divF k a b = (wrap64 (-a), 0)) := show _ = _ by rw [divF, if_neg h0, if_neg (fun h => h7 h.1), if_neg h7, if_pos h1]
        have h7' : (k == 7) = false := by simpa using h7
        clear h1
        go_enter Try.func63, Try.ntmps63
        go_wp2_with fail
        go_ret2; exact ⟨by rw [hx.out]; rfl, rfl⟩
    · have h1' : (b == -1) = false := by simpa using h1
      by_cases h7 : k = 7
      · have hx : Hid (divF k a b = (a.tmod b, 0)) := show _ = _ by rw [divF, if_neg h0, if_neg (fun h => h1 h.2), if_pos h7]
        have h7' : (k == 7) = true := by simpa using h7
        clear h7
        go_enter Try.func63, Try.ntmps63
        go_wp2_with fail
        go_ret2; exact ⟨by rw [hx.out]; rfl, rfl⟩
      · have hx : Hid (divF k a b = (wrap64 (a.tdiv b), 0)) := show _ = _ by rw [divF, if_neg h0, if_neg (fun h => h7 h.1), if_neg h7, if_neg h1]
        have h7' : (k == 7) = false := by simpa using h7
        go_enter Try.func63, Try.ntmps63
        go_wp2_with fail
        go_ret2; exact ⟨by rw [hx.out]; rfl, rfl⟩

set_option maxHeartbeats 800000 in
theorem numbers_any (k a b : Int) (w : World) :
    Calls Try.prog 55 #[.int .i64 k, .int .i64 a, .int .i64 b] w fun e w' => e = .returned (.tuple #[.int .i64 (numF k a b).1, .int .i64 (numF k a b).2]) ∧ w = w' := by
  rcases numF_cases k a b with ⟨rfl, hx⟩ | ⟨rfl, hx⟩ | ⟨rfl, hx⟩ | ⟨rfl, hx⟩ | ⟨rfl, hx⟩ | ⟨rfl, hx⟩ | ⟨h5, h6, h7, h12, h13, h14, hr⟩
  iterate 6
    · have HX := Lib.hid hx
      clear hx
      go_enter Try.func55, Try.ntmps55
      go_wp2_with (first | (go_at_call 63; refine (divide_any _ _ _ _).mono ?_; rintro e w' ⟨rfl, rfl⟩))
      go_ret2; exact ⟨by rw [HX.out]; rfl, rfl⟩
  · rcases hr with ⟨hb, hx⟩ | ⟨hb0, hb1, rfl, hx⟩ | ⟨hb0, hb1, h10, hx⟩
    · have HX := Lib.hid hx
      clear hx
      rcases hb with hb | hb
      iterate 2
        · go_enter Try.func55, Try.ntmps55
          go_wp2_with fail
          go_ret2; exact ⟨by rw [HX.out]; rfl, rfl⟩
    · have HX := Lib.hid hx
      clear hx
      go_enter Try.func55, Try.ntmps55
      go_wp2_with fail
      go_ret2; exact ⟨by rw [HX.out]; rfl, rfl⟩
    · have HX := Lib.hid hx
      clear hx
      go_enter Try.func55, Try.ntmps55
      go_wp2_with fail
      go_ret2; exact ⟨by rw [HX.out]; rfl, rfl⟩

set_option maxHeartbeats 400000 in
theorem plain_any (a : Int) (p m : ByteArray) (w : World) :
    Calls Try.prog 32 #[.agg #[.int .i64 a, .string p, .string m]] w fun e w' => e = .returned (.bool (plainB p m)) ∧ ∃ o, w' = w.alloc o := by
  go_enter Try.func32, Try.ntmps32
  go_wp2
  all_goals (go_ret; refine ⟨ret_bool ?_, _, rfl⟩; simp_all [plainB, isEmpty_emp, ba_emp])

end Go.Proofs.Ythhlghoeapjagaa
