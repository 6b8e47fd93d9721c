/- Instructions as lines: the aliases of logical immediates and of moves. -/
import Derived.Test.YtpjlafmhoifkmaaGreatJ7
import Derived.Test.YtpjlafmhoifkmaaGreatKD
import Derived.Test.YtpjlafmhoifkmaaGreatK8
set_option linter.unusedVariables false
set_option linter.unusedSimpArgs false
namespace Go.Proofs.YtpjlafmhoifkmaaGreat
open Go.RowKit
set_option maxRecDepth 100000

def lineO (r : LineV) : SV := .agg [.v (.string r.1), .d (.sd 15 (r.2.map opE))]
def aliasO : Option LineV → AV
  | some r => .tup [.agg [.v (.string r.1), .d (.sd 15 (r.2.map opE))], .l (.v (.bool true))]
  | none => .tup [.agg [.v (.string emp), .v (.slice none 0 0)], .l (.v (.bool false))]
/-- behind the making of a writer -/
def wrS (x : Ins) : St := ⟨4, [(1, .s (.l (.p 0 0 0))), (2, .s (.l (.p 1 0 0))), (3, bv false), (4, .s (.l (.p 2 0 0)))], [(0, some (insK x)), (1, some boxL), (2, some (wrK x emp 0 3)), (3, some (opsK []))]⟩

set_option maxHeartbeats 4000000 in
theorem logImm_sw (x : Ins) : SW Tryz.prog ⟨none, 0⟩ Tryz.f45.ntmps (Tryz.f45.body.getD .skip) ⟨0, zipT 0 [(tAgg insR).enc x], []⟩ (outQ Tryz.prog Tryz.f45.results.toList (.ret (aliasO (logAF x)))) := by
  rw [Tryz.ntmps45, Tryz.results45]
  simp only [Tryz.f45, Option.getD_some, zipT]
  refine sw_seq (aRun_sound (ctx := []) 4000 ?_)
  simp only [go_sem, Nat.reduceOr, Nat.reducePow, Nat.reduceDiv, Nat.reduceMod, Nat.reduceBEq, Int.reduceBEq, Int.reduceBNe, Int.reduceEq, Int.reduceLT, Int.reduceLE, Int.reduceToNat, reduceIte, reduceCtorEq, Nat.reduceEqDiff, Nat.reduceAdd, Nat.reduceLT, Nat.reduceLeDiff, Nat.reduceMul, Nat.reduceSub, thenQ, insR]
  refine sw_seq (aRun_sound (ctx := []) 4000 ?_)
  simp only [go_sem, Nat.reduceOr, Nat.reducePow, Nat.reduceDiv, Nat.reduceMod, Nat.reduceBEq, Int.reduceBEq, Int.reduceBNe, Int.reduceEq, Int.reduceLT, Int.reduceLE, Int.reduceToNat, reduceIte, reduceCtorEq, Nat.reduceEqDiff, Nat.reduceAdd, Nat.reduceLT, Nat.reduceLeDiff, Nat.reduceMul, Nat.reduceSub, thenQ]
  refine SW.wk (s' := wrS x) ?_ ((Wk.nilC 80 11 40 15 (k := ⟨true, 68, 12, [insE x ++ [.v (.string emp), .v (.slice none 0 0)]]⟩) rfl rfl rfl).trans (Wk.renL [0, 16, 80, 112] (by simp) (by simp [wrS]) (by decide) rfl rfl))
  refine aRun_sound (ctx := [⟨_, lineS stepsT⟩]) 4000 ?_
  have beq : ∀ a b : Int, (a == b) = decide (a = b) := fun a b => by by_cases h : a = b <;> simp [h]
  have ht := u64_of x.a
  have t : ∀ n : Nat, Int.toNat (n : Int) = n := fun _ => rfl
  have tst : (x.b == 3) = true → (x.rd == 31) = true → logAF x = some ((⟨#[116, 115, 116]⟩ : ByteArray), [nO x, numO' x]) := by
    intro h1 h2
    unfold logAF
    rw [if_pos ⟨by simpa using h1, by simpa using h2⟩]
  have non : ((x.b == 3) = false ∨ (x.rd == 31) = false) → ((x.b == 1) = false ∨ (x.rn == 31) = false) → logAF x = none := by
    intro h1 h2
    unfold logAF
    rw [if_neg, if_neg]
    · rintro ⟨a, b⟩; rcases h2 with h | h <;> simp [a, b] at h
    · rintro ⟨a, b⟩; rcases h1 with h | h <;> simp [a, b] at h
  obtain ⟨m, hm⟩ : ∃ m, moveF ⟨x.rd, x.x, false⟩ (u64F x.a &&& onesN x.x) = m := ⟨_, rfl⟩
  have mv : ((x.b == 3) = false ∨ (x.rd == 31) = false) → (x.b == 1) = true → (x.rn == 31) = true → logAF x = if m.2 = 0 ∧ m.1.op = 4 then none else some ((⟨#[109, 111, 118]⟩ : ByteArray), [dsO x, numO' x]) := by
    intro h1 h2 h3
    unfold logAF
    rw [if_neg, if_pos ⟨by simpa using h2, by simpa using h3⟩]
    · simp only [hm]
    · rintro ⟨a, b⟩; rcases h1 with h | h <;> simp [a, b] at h
  have hand := and_u (u64F x.a) (onesN x.x) (u64F_lt x.a) (ones_lt x.x)
  have hv64 : (u64F x.a &&& onesN x.x) < 18446744073709551616 := Nat.lt_of_le_of_lt Nat.and_le_left (u64F_lt x.a)
  have hvI : (0 : Int) ≤ ((u64F x.a &&& onesN x.x : Nat) : Int) ∧ ((u64F x.a &&& onesN x.x : Nat) : Int) < 18446744073709551616 := by omega
  cases h1 : x.b == 3
  · cases h3 : x.b == 1
    · have e := non (.inl h1) (.inl h3)
      simp only [go_sem, Nat.reduceOr, Nat.reducePow, Nat.reduceDiv, Nat.reduceMod, Nat.reduceBEq, Int.reduceBEq, Int.reduceBNe, Int.reduceEq, Int.reduceLT, Int.reduceLE, Int.reduceToNat, reduceIte, reduceCtorEq, Nat.reduceEqDiff, Nat.reduceAdd, Nat.reduceLT, Nat.reduceLeDiff, Nat.reduceMul, Nat.reduceSub, h1, h3, wrS, insK, insE, wrK, opsK, boxL, fn_zero, fn_sz, line_run, line_pan, runQ, decLn, decWr, decWrL, decOps_map, decStep, outLn, gOf, decAll, opL_ren1, mapT_opL, aliasO, e, lineQ, stepsQ, stepsF, emp]
    · cases h4 : x.rn == 31
      · have e := non (.inl h1) (.inr h4)
        simp only [go_sem, Nat.reduceOr, Nat.reducePow, Nat.reduceDiv, Nat.reduceMod, Nat.reduceBEq, Int.reduceBEq, Int.reduceBNe, Int.reduceEq, Int.reduceLT, Int.reduceLE, Int.reduceToNat, reduceIte, reduceCtorEq, Nat.reduceEqDiff, Nat.reduceAdd, Nat.reduceLT, Nat.reduceLeDiff, Nat.reduceMul, Nat.reduceSub, h1, h3, h4, wrS, insK, insE, wrK, opsK, boxL, fn_zero, fn_sz, line_run, line_pan, runQ, decLn, decWr, decWrL, decOps_map, decStep, outLn, gOf, decAll, opL_ren1, mapT_opL, aliasO, e, lineQ, stepsQ, stepsF, emp]
      · have e := mv (.inl h1) h3 h4
        simp only [go_sem, Nat.reduceOr, Nat.reducePow, Nat.reduceDiv, Nat.reduceMod, Nat.reduceBEq, Int.reduceBEq, Int.reduceBNe, Int.reduceEq, Int.reduceLT, Int.reduceLE, Int.reduceToNat, reduceIte, reduceCtorEq, Nat.reduceEqDiff, Nat.reduceAdd, Nat.reduceLT, Nat.reduceLeDiff, Nat.reduceMul, Nat.reduceSub, h1, h3, h4, wrS, insK, insE, wrK, opsK, boxL]
        refine sw_draw (ctx := [⟨_, onesS⟩, ⟨_, amoveS⟩]) mixed [17] (by kernel_rfl) ?_
        by_cases h5 : m.2 = 0
        · have hb5 : (m.2 == 0) = true := by simpa using h5
          by_cases h6 : m.1.op = 4
          · have hb6 : (m.1.op == 4) = true := by simpa using h6
            rw [if_pos ⟨h5, h6⟩] at e
            simp only [go_sem, Nat.reduceOr, Nat.reducePow, Nat.reduceDiv, Nat.reduceMod, Nat.reduceBEq, Int.reduceBEq, Int.reduceBNe, Int.reduceEq, Int.reduceLT, Int.reduceLE, Int.reduceToNat, reduceIte, reduceCtorEq, Nat.reduceEqDiff, Nat.reduceAdd, Nat.reduceLT, Nat.reduceLeDiff, Nat.reduceMul, Nat.reduceSub, ht, t, tU, regR, ones_run, ones_pan, hand, amove_run, amove_pan, hvI.1, hvI.2, hm, moveO, insE, hb5, hb6, aliasO, e, emp]
          · have hb6 : (m.1.op == 4) = false := by simpa using h6
            rw [if_neg (fun h => h6 h.2)] at e
            simp only [go_sem, Nat.reduceOr, Nat.reducePow, Nat.reduceDiv, Nat.reduceMod, Nat.reduceBEq, Int.reduceBEq, Int.reduceBNe, Int.reduceEq, Int.reduceLT, Int.reduceLE, Int.reduceToNat, reduceIte, reduceCtorEq, Nat.reduceEqDiff, Nat.reduceAdd, Nat.reduceLT, Nat.reduceLeDiff, Nat.reduceMul, Nat.reduceSub, ht, t, tU, regR, ones_run, ones_pan, hand, amove_run, amove_pan, hvI.1, hvI.2, hm, moveO, hb5, hb6, wrS, insK, insE, wrK, opsK, boxL, fn_zero, fn_sz, line_run, line_pan, runQ, decLn, decWr, decWrL, decOps_map, decStep, outLn, gOf, decAll, opL_ren1, mapT_opL, aliasO, e, lineQ, stepsQ, stepsF, at_Ds, at_Num, stpDs, stpNum]
        · have hb5 : (m.2 == 0) = false := by simpa using h5
          rw [if_neg (fun h => h5 h.1)] at e
          simp only [go_sem, Nat.reduceOr, Nat.reducePow, Nat.reduceDiv, Nat.reduceMod, Nat.reduceBEq, Int.reduceBEq, Int.reduceBNe, Int.reduceEq, Int.reduceLT, Int.reduceLE, Int.reduceToNat, reduceIte, reduceCtorEq, Nat.reduceEqDiff, Nat.reduceAdd, Nat.reduceLT, Nat.reduceLeDiff, Nat.reduceMul, Nat.reduceSub, ht, t, tU, regR, ones_run, ones_pan, hand, amove_run, amove_pan, hvI.1, hvI.2, hm, moveO, hb5, wrS, insK, insE, wrK, opsK, boxL, fn_zero, fn_sz, line_run, line_pan, runQ, decLn, decWr, decWrL, decOps_map, decStep, outLn, gOf, decAll, opL_ren1, mapT_opL, aliasO, e, lineQ, stepsQ, stepsF, at_Ds, at_Num, stpDs, stpNum]
  · have h3 : (x.b == 1) = false := by
      have : x.b = 3 := by simpa using h1
      rw [this]; decide
    cases h2 : x.rd == 31
    · have e := non (.inr h2) (.inl h3)
      simp only [go_sem, Nat.reduceOr, Nat.reducePow, Nat.reduceDiv, Nat.reduceMod, Nat.reduceBEq, Int.reduceBEq, Int.reduceBNe, Int.reduceEq, Int.reduceLT, Int.reduceLE, Int.reduceToNat, reduceIte, reduceCtorEq, Nat.reduceEqDiff, Nat.reduceAdd, Nat.reduceLT, Nat.reduceLeDiff, Nat.reduceMul, Nat.reduceSub, h1, h2, h3, wrS, insK, insE, wrK, opsK, boxL, fn_zero, fn_sz, line_run, line_pan, runQ, decLn, decWr, decWrL, decOps_map, decStep, outLn, gOf, decAll, opL_ren1, mapT_opL, aliasO, e, lineQ, stepsQ, stepsF, emp]
    · have e := tst h1 h2
      simp only [go_sem, Nat.reduceOr, Nat.reducePow, Nat.reduceDiv, Nat.reduceMod, Nat.reduceBEq, Int.reduceBEq, Int.reduceBNe, Int.reduceEq, Int.reduceLT, Int.reduceLE, Int.reduceToNat, reduceIte, reduceCtorEq, Nat.reduceEqDiff, Nat.reduceAdd, Nat.reduceLT, Nat.reduceLeDiff, Nat.reduceMul, Nat.reduceSub, h1, h2, wrS, insK, insE, wrK, opsK, boxL, fn_zero, fn_sz, line_run, line_pan, runQ, decLn, decWr, decWrL, decOps_map, decStep, outLn, gOf, decAll, opL_ren1, mapT_opL, aliasO, e, lineQ, stepsQ, stepsF, at_N, at_Num, stpN, stpNum]
theorem en_logImm (args : Array Value) (w : World) : (callFunc 45 args).run Tryz.prog w = .ok (.enter 45 args) w := by go_simp
def logImmS : Spec Tryz.prog 45 :=
  mk1 _ _ _ Tryz.func45 rfl en_logImm (tAgg insR) ((fun _ => True)) ((fun x => .ret (aliasO (logAF x)))) (by rw [Tryz.ntmps45]; decide) (fun x _ => logImm_sw x)
theorem logImm_run {id : Nat} {h : Heap} {args : List AV} : (logImmS).run id h args = runP (args1 (tAgg insR) ((fun _ => True))) ((fun x => .ret (aliasO (logAF x)))) h args := rfl
theorem logImm_pan {id : Nat} {h : Heap} {args : List AV} : (logImmS).pan id h args = panP (args1 (tAgg insR) ((fun _ => True))) ((fun x => .ret (aliasO (logAF x)))) h args := rfl

end Go.Proofs.YtpjlafmhoifkmaaGreat
