/- Contracts of the reference's takes, Check (package cooperref09): they compute what package expr's do. -/
import Derived.Test.YthhlghoeapjagaaRb
import Derived.Test.YthhlghoeapjagaaEc
import Derived.Test.YthhlghoeapjagaaPlain7
set_option linter.unusedVariables false
set_option linter.unusedSimpArgs false
namespace Go.Proofs.Ythhlghoeapjagaa
open Go.RowKit

set_option maxHeartbeats 400000 in
theorem rtakes_any (k : Int) (w : World) :
    Calls Try.prog 39 #[.int .i64 k] w fun e w' => e = .returned (.int .i64 (rtakesF k)) ∧ w = w' := by
  go_enter Try.func39, Try.ntmps39
  go_wp2
  all_goals (go_ret; refine ⟨ret_int ?_, rfl⟩; unfold rtakesF; (repeat' split) <;> simp_all <;> omega)

set_option maxRecDepth 100000 in
set_option maxHeartbeats 2000000 in
theorem rcheck_any (A : Option Addr) (cap : Nat) (ts : List Term) (w : World) (hT : Terms w w.heap.size A ts) (hl : ts.length ≤ maxLen) (hsz : ∀ t ∈ ts, t.sym.size ≤ maxLen) :
    Calls Try.prog 23 #[.slice A ts.length cap] w fun e w' => e = .returned (.int .i64 (checkF ts)) ∧ w = w' := by
  unfold maxLen at hl
  have HT := Lib.hid hT
  have HZ := Lib.hid hsz
  clear hT hsz
  go_enter Try.func23, Try.ntmps23
  go_wp2_with fail
  go_loop [3, 4] (fun hv i => ∃ (k : Nat) (h : Int), k ≤ ts.length ∧ 0 ≤ h ∧ h ≤ k ∧ i = .int .i64 k ∧ hv = .int .i64 h ∧ Hid (formF h (ts.drop k) = formF 0 ts)) (fun _ i => ts.length - (intOf i).toNat)
  case atStart => exact ⟨0, 0, Nat.zero_le _, by omega, by omega, rfl, rfl, show _ = _ by simp⟩
  case round =>
    obtain ⟨k, h, hk, h0, h1, rfl, rfl, hr⟩ := hrel
    by_cases hlt : k < ts.length
    · obtain ⟨t, ht⟩ : ∃ t, ts[k]? = some t := ⟨_, List.getElem?_eq_getElem hlt⟩
      have Ht := Lib.hid ht
      have hz := HZ.out t (List.mem_of_getElem? ht)
      have hd : Hid (ts.drop k = t :: ts.drop (k + 1)) := show _ = _ by rw [List.drop_eq_getElem_cons hlt]; congr 1; rw [List.getElem?_eq_getElem hlt] at ht; injection ht
      clear ht
      obtain ⟨b, off, rfl, -, -⟩ := HT.out.2 (by omega)
      obtain ⟨hbb, c0, c1, c2⟩ := Terms.cells_at HT.out Ht.out
      have tb := rtakesF_bd t.kind
      go_wp2_with (first
        | (go_at_call 39; refine (rtakes_any _ _).mono ?_; rintro e w' ⟨rfl, rfl⟩)
        | (go_at_call 15; refine (risSym_any _ _ hz).mono ?_; rintro e w' ⟨rfl, rfl⟩))
      all_goals first
        | (go_ret
           have bad : termB t = false ∨ h < takesF t.kind := rcheck_ret (by first | (simp_all; done) | (simp_all [or_assoc]; done)) h0
           exact ⟨ret_int (by have e := hr.out; rw [hd.out, formF, if_pos bad] at e; exact (checkF_bad e.symm).symm), rfl⟩)
        | (have ok := rcheck_go (t := t) (h := h) (by simp_all) (by simp_all) (by simp_all) (by simp_all) (by simp_all)
           go_round
           case rel => exact ⟨k + 1, _, by omega, by omega, by omega, by go_num, rfl, show _ = _ by (rw [← hr.out, hd.out, formF, if_neg ok.1, ok.2]) <;> simp_all⟩
           case measure => simp [intOf]; omega)
    · have hd : Hid (ts.drop k = []) := show _ = _ by rw [List.drop_eq_nil_of_le (by omega)]
      by_cases hh : h = 1
      · subst hh
        have e := hr.out
        rw [hd.out, formF, if_pos rfl] at e
        by_cases hl2 : 256 < ts.length
        · have hl3 : (256 : Int) < ts.length := by omega
          have hx := Lib.hid (checkF_long e.symm hl2)
          clear e
          go_wp2_with fail
          go_ret; exact ⟨ret_int hx.out.symm, rfl⟩
        · have hl3 : (ts.length : Int) ≤ 256 := by omega
          have hx := Lib.hid (checkF_ok e.symm hl2)
          clear e
          go_wp2_with fail
          go_ret; exact ⟨ret_int hx.out.symm, rfl⟩
      · have e := hr.out
        rw [hd.out, formF, if_neg hh] at e
        have hx := Lib.hid (checkF_bad e.symm)
        clear e
        have hne : (h != 1) = true := by simpa using hh
        go_wp2_with fail
        go_ret; exact ⟨ret_int hx.out.symm, rfl⟩

end Go.Proofs.Ythhlghoeapjagaa
