/- Moves: the instruction that moves a number. -/
import Derived.Test.YtpjlafmhoifkmaaGreatK7
set_option linter.unusedVariables false
set_option linter.unusedSimpArgs false
namespace Go.Proofs.YtpjlafmhoifkmaaGreat
open Go.RowKit
set_option maxRecDepth 100000

def moveO (r : Ins × Int) : AV := .tup [.agg (insE r.1), .l (.v (.int .i64 r.2))]
theorem wq1 : IntKind.i64.wrap (32 + IntKind.i64.wrap (32 * 1)) = 64 := by decide
theorem wq0 : IntKind.i64.wrap (32 + IntKind.i64.wrap (32 * 0)) = 32 := by decide
set_option maxHeartbeats 4000000 in
theorem move_sw (rd : RegV) (v : Nat) (hv : v < 18446744073709551616) : SW Tryz.prog ⟨none, 0⟩ Tryz.f8.ntmps (Tryz.f8.body.getD .skip) ⟨0, zipT 0 [(tAgg regR).enc rd, tU.enc (v : Int)], []⟩ (outQ Tryz.prog Tryz.f8.results.toList (.ret (moveO (moveF rd v)))) := by
  have t : ∀ n : Nat, Int.toNat (n : Int) = n := fun _ => rfl
  obtain ⟨n, x, sp⟩ := rd
  have hvI : (0 : Int) ≤ v ∧ (v : Int) < 18446744073709551616 := by omega
  have hfw : IntKind.i64.wrap (32 + IntKind.i64.wrap (32 * flagN x)) = ((wN x : Nat) : Int) := by cases x <;> rfl
  have hwq : ((wN x : Nat) : Int) = 32 ∨ ((wN x : Nat) : Int) = 64 := by cases x <;> simp [wN]
  refine aRun_sound (ctx := [⟨_, regNameS⟩, ⟨_, onesS⟩, ⟨_, wideS⟩, ⟨_, flagAS⟩, ⟨_, fieldS⟩]) 4000 ?_
  rw [Tryz.ntmps8, Tryz.results8]
  simp only [Tryz.f8, Option.getD_some, zipT]
  by_cases hr : (regNameF ⟨n, x, sp⟩).2 = 0
  case neg =>
    have e : moveF ⟨n, x, sp⟩ v = (ins0 0, 1) := by unfold moveF; rw [if_pos (.inl hr)]
    have hb : ((regNameF ⟨n, x, sp⟩).2 != 0) = true := by simpa using hr
    simp only [go_sem, Nat.reduceOr, Nat.reducePow, Nat.reduceDiv, Nat.reduceMod, Nat.reduceBEq, Int.reduceBEq, Int.reduceBNe, Int.reduceEq, Int.reduceLT, Int.reduceLE, Int.reduceToNat, reduceIte, reduceCtorEq, Nat.reduceEqDiff, Nat.reduceAdd, Nat.reduceLT, Nat.reduceLeDiff, Nat.reduceMul, Nat.reduceSub, tU, regR, regName_run, regName_pan, nameO, hb, e, moveO, insE, ins0]
  have hb : ((regNameF ⟨n, x, sp⟩).2 != 0) = false := by simpa using hr
  by_cases ho : onesN x < v
  case pos =>
    have e : moveF ⟨n, x, sp⟩ v = (ins0 0, 1) := by unfold moveF; rw [if_pos (.inr ho)]
    have hoI : ((onesN x : Nat) : Int) < v := by omega
    simp only [go_sem, Nat.reduceOr, Nat.reducePow, Nat.reduceDiv, Nat.reduceMod, Nat.reduceBEq, Int.reduceBEq, Int.reduceBNe, Int.reduceEq, Int.reduceLT, Int.reduceLE, Int.reduceToNat, reduceIte, reduceCtorEq, Nat.reduceEqDiff, Nat.reduceAdd, Nat.reduceLT, Nat.reduceLeDiff, Nat.reduceMul, Nat.reduceSub, tU, regR, regName_run, regName_pan, nameO, hb, ones_run, ones_pan, hoI, e, moveO, insE, ins0]
  have hoI : ¬ ((onesN x : Nat) : Int) < v := by omega
  have hno : ¬ (¬ (regNameF ⟨n, x, sp⟩).2 = 0 ∨ onesN x < v) := by
    rintro (h | h)
    · exact h hr
    · exact ho h
  have hi : ∀ z : Nat, IntKind.i64.wrap ((z : Nat) : Int) = i64F z := fun _ => rfl
  have hx1 : onesN x < 2 ^ 64 := ones_lt x
  have hxor := xor_u v (onesN x) hv hx1
  have hx2 : (v ^^^ onesN x) < 18446744073709551616 := Nat.xor_lt_two_pow hv hx1
  have hx2I : (0 : Int) ≤ ((v ^^^ onesN x : Nat) : Int) ∧ ((v ^^^ onesN x : Nat) : Int) < 18446744073709551616 := by omega
  -- the end: is it a logical immediate?
  have hfe := field_err v (wN x)
  obtain ⟨A, hA⟩ : ∃ A, (fieldF (encF v (wN x))).1 = A := ⟨_, rfl⟩
  cases sp
  case false =>
    cases h1 : wideF v x with
    | some y =>
      obtain ⟨a, c⟩ := y
      have e : moveF ⟨n, x, false⟩ v = (⟨4, x, false, n, 0, 0, 0, a, 2, c⟩, 0) := by unfold moveF; rw [if_neg hno]; simp [h1]
      simp only [go_sem, Nat.reduceOr, Nat.reducePow, Nat.reduceDiv, Nat.reduceMod, Nat.reduceBEq, Int.reduceBEq, Int.reduceBNe, Int.reduceEq, Int.reduceLT, Int.reduceLE, Int.reduceToNat, reduceIte, reduceCtorEq, Nat.reduceEqDiff, Nat.reduceAdd, Nat.reduceLT, Nat.reduceLeDiff, Nat.reduceMul, Nat.reduceSub, tU, regR, regName_run, regName_pan, nameO, hb, ones_run, ones_pan, hoI, wide_run, wide_pan, hvI.1, hvI.2, t, h1, wideO, e, moveO, insE, ins0]
    | none =>
      cases h2 : wideF (v ^^^ onesN x) x with
      | some y =>
        obtain ⟨a, c⟩ := y
        have e : moveF ⟨n, x, false⟩ v = (⟨4, x, false, n, 0, 0, 0, a, 0, c⟩, 0) := by unfold moveF; rw [if_neg hno]; simp [h1, h2]
        simp only [go_sem, Nat.reduceOr, Nat.reducePow, Nat.reduceDiv, Nat.reduceMod, Nat.reduceBEq, Int.reduceBEq, Int.reduceBNe, Int.reduceEq, Int.reduceLT, Int.reduceLE, Int.reduceToNat, reduceIte, reduceCtorEq, Nat.reduceEqDiff, Nat.reduceAdd, Nat.reduceLT, Nat.reduceLeDiff, Nat.reduceMul, Nat.reduceSub, tU, regR, regName_run, regName_pan, nameO, hb, ones_run, ones_pan, hoI, wide_run, wide_pan, hvI.1, hvI.2, t, h1, wideO]
        refine sw_draw (ctx := [⟨_, onesS⟩, ⟨_, wideS⟩]) mixed [13, 15] (by kernel_rfl) ?_
        simp only [go_sem, Nat.reduceOr, Nat.reducePow, Nat.reduceDiv, Nat.reduceMod, Nat.reduceBEq, Int.reduceBEq, Int.reduceBNe, Int.reduceEq, Int.reduceLT, Int.reduceLE, Int.reduceToNat, reduceIte, reduceCtorEq, Nat.reduceEqDiff, Nat.reduceAdd, Nat.reduceLT, Nat.reduceLeDiff, Nat.reduceMul, Nat.reduceSub, tU, ones_run, ones_pan, wide_run, wide_pan, hxor, hx2I.1, hx2I.2, t, h2, wideO, e, moveO, insE, ins0]
      | none =>
        simp only [go_sem, Nat.reduceOr, Nat.reducePow, Nat.reduceDiv, Nat.reduceMod, Nat.reduceBEq, Int.reduceBEq, Int.reduceBNe, Int.reduceEq, Int.reduceLT, Int.reduceLE, Int.reduceToNat, reduceIte, reduceCtorEq, Nat.reduceEqDiff, Nat.reduceAdd, Nat.reduceLT, Nat.reduceLeDiff, Nat.reduceMul, Nat.reduceSub, tU, regR, regName_run, regName_pan, nameO, hb, ones_run, ones_pan, hoI, wide_run, wide_pan, hvI.1, hvI.2, t, h1, wideO]
        refine sw_draw (ctx := [⟨_, onesS⟩, ⟨_, wideS⟩]) mixed [13, 15] (by kernel_rfl) ?_
        by_cases h3 : (lFind v (wN x)).isSome = true
        · have hF : fieldF (encF v (wN x)) = (A, 0) := by rw [← hA]; exact Prod.ext rfl (by rw [hfe, if_pos h3])
          by_cases h4 : n = 31
          · have e : moveF ⟨n, x, false⟩ v = (ins0 0, 70) := by unfold moveF; rw [if_neg hno]; simp [h1, h2, h4]
            have hb4 : (n == 31) = true := by simpa using h4
            simp only [go_sem, Nat.reduceOr, Nat.reducePow, Nat.reduceDiv, Nat.reduceMod, Nat.reduceBEq, Int.reduceBEq, Int.reduceBNe, Int.reduceEq, Int.reduceLT, Int.reduceLE, Int.reduceToNat, reduceIte, reduceCtorEq, Nat.reduceEqDiff, Nat.reduceAdd, Nat.reduceLT, Nat.reduceLeDiff, Nat.reduceMul, Nat.reduceSub, tU, regR, ones_run, ones_pan, wide_run, wide_pan, hxor, hx2I.1, hx2I.2, t, h2, wideO, flagA_run, flagA_pan, hfw, field_run, field_pan, hvI.1, hvI.2, hwq, hF, fieldO, hb4, e, moveO, insE, ins0]
          · have e : moveF ⟨n, x, false⟩ v = (⟨3, x, false, n, 31, 0, 0, i64F v, 1, 0⟩, 0) := by unfold moveF; rw [if_neg hno]; simp [h1, h2, h3, h4]
            have hb4 : (n == 31) = false := by simpa using h4
            simp only [go_sem, Nat.reduceOr, Nat.reducePow, Nat.reduceDiv, Nat.reduceMod, Nat.reduceBEq, Int.reduceBEq, Int.reduceBNe, Int.reduceEq, Int.reduceLT, Int.reduceLE, Int.reduceToNat, reduceIte, reduceCtorEq, Nat.reduceEqDiff, Nat.reduceAdd, Nat.reduceLT, Nat.reduceLeDiff, Nat.reduceMul, Nat.reduceSub, tU, regR, ones_run, ones_pan, wide_run, wide_pan, hxor, hx2I.1, hx2I.2, t, h2, wideO, flagA_run, flagA_pan, hfw, field_run, field_pan, hvI.1, hvI.2, hwq, hF, fieldO, hb4, hi, e, moveO, insE, ins0]
        · have hF : fieldF (encF v (wN x)) = (A, 20) := by rw [← hA]; exact Prod.ext rfl (by rw [hfe, if_neg h3])
          have e : moveF ⟨n, x, false⟩ v = (ins0 0, 70) := by unfold moveF; rw [if_neg hno]; simp [h1, h2, h3]
          simp only [go_sem, Nat.reduceOr, Nat.reducePow, Nat.reduceDiv, Nat.reduceMod, Nat.reduceBEq, Int.reduceBEq, Int.reduceBNe, Int.reduceEq, Int.reduceLT, Int.reduceLE, Int.reduceToNat, reduceIte, reduceCtorEq, Nat.reduceEqDiff, Nat.reduceAdd, Nat.reduceLT, Nat.reduceLeDiff, Nat.reduceMul, Nat.reduceSub, tU, regR, ones_run, ones_pan, wide_run, wide_pan, hxor, hx2I.1, hx2I.2, t, h2, wideO, flagA_run, flagA_pan, hfw, field_run, field_pan, hvI.1, hvI.2, hwq, hF, fieldO, e, moveO, insE, ins0]
  case true =>
    by_cases h3 : (lFind v (wN x)).isSome = true
    · have hF : fieldF (encF v (wN x)) = (A, 0) := by rw [← hA]; exact Prod.ext rfl (by rw [hfe, if_pos h3])
      have e : moveF ⟨n, x, true⟩ v = (⟨3, x, false, n, 31, 0, 0, i64F v, 1, 0⟩, 0) := by unfold moveF; rw [if_neg hno]; simp [h3]
      by_cases h4 : n = 31
      · have hb4 : (n == 31) = true := by simpa using h4
        simp only [go_sem, Nat.reduceOr, Nat.reducePow, Nat.reduceDiv, Nat.reduceMod, Nat.reduceBEq, Int.reduceBEq, Int.reduceBNe, Int.reduceEq, Int.reduceLT, Int.reduceLE, Int.reduceToNat, reduceIte, reduceCtorEq, Nat.reduceEqDiff, Nat.reduceAdd, Nat.reduceLT, Nat.reduceLeDiff, Nat.reduceMul, Nat.reduceSub, tU, regR, regName_run, regName_pan, nameO, hb, ones_run, ones_pan, hoI, flagA_run, flagA_pan, hfw, field_run, field_pan, hvI.1, hvI.2, hwq, t, hF, fieldO, hb4, hi, e, moveO, insE, ins0]
      · have hb4 : (n == 31) = false := by simpa using h4
        simp only [go_sem, Nat.reduceOr, Nat.reducePow, Nat.reduceDiv, Nat.reduceMod, Nat.reduceBEq, Int.reduceBEq, Int.reduceBNe, Int.reduceEq, Int.reduceLT, Int.reduceLE, Int.reduceToNat, reduceIte, reduceCtorEq, Nat.reduceEqDiff, Nat.reduceAdd, Nat.reduceLT, Nat.reduceLeDiff, Nat.reduceMul, Nat.reduceSub, tU, regR, regName_run, regName_pan, nameO, hb, ones_run, ones_pan, hoI, flagA_run, flagA_pan, hfw, field_run, field_pan, hvI.1, hvI.2, hwq, t, hF, fieldO, hb4, hi, e, moveO, insE, ins0]
    · have hF : fieldF (encF v (wN x)) = (A, 20) := by rw [← hA]; exact Prod.ext rfl (by rw [hfe, if_neg h3])
      have e : moveF ⟨n, x, true⟩ v = (ins0 0, 70) := by unfold moveF; rw [if_neg hno]; simp [h3]
      simp only [go_sem, Nat.reduceOr, Nat.reducePow, Nat.reduceDiv, Nat.reduceMod, Nat.reduceBEq, Int.reduceBEq, Int.reduceBNe, Int.reduceEq, Int.reduceLT, Int.reduceLE, Int.reduceToNat, reduceIte, reduceCtorEq, Nat.reduceEqDiff, Nat.reduceAdd, Nat.reduceLT, Nat.reduceLeDiff, Nat.reduceMul, Nat.reduceSub, tU, regR, regName_run, regName_pan, nameO, hb, ones_run, ones_pan, hoI, flagA_run, flagA_pan, hfw, field_run, field_pan, hvI.1, hvI.2, hwq, t, hF, fieldO, e, moveO, insE, ins0]
theorem en_amove (args : Array Value) (w : World) : (callFunc 8 args).run Tryz.prog w = .ok (.enter 8 args) w := by go_simp
def amoveS : Spec Tryz.prog 8 :=
  mk2 _ _ _ Tryz.func8 rfl en_amove (tAgg regR) (tU) ((fun _ v => 0 ≤ v ∧ v < 18446744073709551616)) ((fun rd v => .ret (moveO (moveF rd v.toNat)))) (by rw [Tryz.ntmps8]; decide) (fun rd v h => by
  obtain ⟨v, rfl⟩ := Int.eq_ofNat_of_zero_le h.1
  exact move_sw rd v (by omega))
theorem amove_run {id : Nat} {h : Heap} {args : List AV} : (amoveS).run id h args = runP (args2 (tAgg regR) (tU) ((fun _ v => 0 ≤ v ∧ v < 18446744073709551616))) (fun x => ((fun rd v => .ret (moveO (moveF rd v.toNat)))) x.1 x.2) h args := rfl
theorem amove_pan {id : Nat} {h : Heap} {args : List AV} : (amoveS).pan id h args = panP (args2 (tAgg regR) (tU) ((fun _ v => 0 ≤ v ∧ v < 18446744073709551616))) (fun x => ((fun rd v => .ret (moveO (moveF rd v.toNat)))) x.1 x.2) h args := rfl

end Go.Proofs.YtpjlafmhoifkmaaGreat
