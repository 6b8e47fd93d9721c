/- Instructions: the check, of some classes. -/
import Derived.Test.YtpjlafmhoifkmaaGreatKC
set_option linter.unusedVariables false
set_option linter.unusedSimpArgs false
namespace Go.Proofs.YtpjlafmhoifkmaaGreat
open Go.RowKit
set_option maxRecDepth 100000

set_option maxHeartbeats 4000000 in
theorem there_sw (x : Ins) (h : opQ x.op) : SW Tryz.prog ⟨none, 0⟩ Tryz.f43.ntmps (Tryz.f43.body.getD .skip) ⟨0, zipT 0 [(tAgg insR).enc x], []⟩ (outQ Tryz.prog Tryz.f43.results.toList (.ret (bv (thereF x)))) := by
  refine aRun_sound (ctx := [⟨_, logicalS⟩]) 4000 ?_
  rw [Tryz.ntmps43, Tryz.results43]
  simp only [Tryz.f43, Option.getD_some, zipT]
  unfold thereF
  have hb1 : (x.b != 1) = decide (¬ x.b = 1) := by by_cases e : x.b = 1 <;> simp [e]
  have h31 : x.a ≤ 31 ∨ ¬ x.a ≤ 31 := Decidable.em _
  rcases h with h | h | h | h
  · rcases h31 with ha | ha <;> cases hx : x.x <;> simp only [go_sem, Nat.reduceOr, Nat.reducePow, Nat.reduceDiv, Nat.reduceMod, Nat.reduceBEq, Int.reduceBEq, Int.reduceBNe, Int.reduceEq, Int.reduceLT, Int.reduceLE, Int.reduceToNat, reduceIte, reduceCtorEq, Nat.reduceEqDiff, Nat.reduceAdd, Nat.reduceLT, Nat.reduceLeDiff, Nat.reduceMul, Nat.reduceSub, insR, h, hx, ha, logical_run, logical_pan] <;> simp only [logicalF, hx]
  · by_cases hb : x.b = 1
    · have e1 : (x.b != 1) = false := by rw [hb1]; simpa using hb
      rcases h31 with ha | ha <;> cases hx : x.x <;> simp only [go_sem, Nat.reduceOr, Nat.reducePow, Nat.reduceDiv, Nat.reduceMod, Nat.reduceBEq, Int.reduceBEq, Int.reduceBNe, Int.reduceEq, Int.reduceLT, Int.reduceLE, Int.reduceToNat, reduceIte, reduceCtorEq, Nat.reduceEqDiff, Nat.reduceAdd, Nat.reduceLT, Nat.reduceLeDiff, Nat.reduceMul, Nat.reduceSub, insR, h, hx, ha, e1, eq_true hb, not_true, not_false, decide_false, Bool.false_and]
    · have e1 : (x.b != 1) = true := by rw [hb1]; simpa using hb
      by_cases hc : x.c ≤ 1
      · rcases h31 with ha | ha <;> cases hx : x.x <;> simp only [go_sem, Nat.reduceOr, Nat.reducePow, Nat.reduceDiv, Nat.reduceMod, Nat.reduceBEq, Int.reduceBEq, Int.reduceBNe, Int.reduceEq, Int.reduceLT, Int.reduceLE, Int.reduceToNat, reduceIte, reduceCtorEq, Nat.reduceEqDiff, Nat.reduceAdd, Nat.reduceLT, Nat.reduceLeDiff, Nat.reduceMul, Nat.reduceSub, insR, h, hx, ha, e1, hb, hc, not_true, not_false, decide_true, Bool.true_and, Bool.true_or, Bool.false_or]
      · rcases h31 with ha | ha <;> cases hx : x.x <;> simp only [go_sem, Nat.reduceOr, Nat.reducePow, Nat.reduceDiv, Nat.reduceMod, Nat.reduceBEq, Int.reduceBEq, Int.reduceBNe, Int.reduceEq, Int.reduceLT, Int.reduceLE, Int.reduceToNat, reduceIte, reduceCtorEq, Nat.reduceEqDiff, Nat.reduceAdd, Nat.reduceLT, Nat.reduceLeDiff, Nat.reduceMul, Nat.reduceSub, insR, h, hx, ha, e1, hb, hc, not_true, not_false, decide_true, Bool.true_and, Bool.true_or, Bool.false_or, decide_false]
  · rcases h31 with ha | ha <;> cases hx : x.x <;> simp only [go_sem, Nat.reduceOr, Nat.reducePow, Nat.reduceDiv, Nat.reduceMod, Nat.reduceBEq, Int.reduceBEq, Int.reduceBNe, Int.reduceEq, Int.reduceLT, Int.reduceLE, Int.reduceToNat, reduceIte, reduceCtorEq, Nat.reduceEqDiff, Nat.reduceAdd, Nat.reduceLT, Nat.reduceLeDiff, Nat.reduceMul, Nat.reduceSub, insR, h, hx, ha, or_true, true_or, false_or, Bool.true_or, Bool.false_or, decide_true, decide_false]
  · rcases h31 with ha | ha <;> cases hx : x.x <;> simp only [go_sem, Nat.reduceOr, Nat.reducePow, Nat.reduceDiv, Nat.reduceMod, Nat.reduceBEq, Int.reduceBEq, Int.reduceBNe, Int.reduceEq, Int.reduceLT, Int.reduceLE, Int.reduceToNat, reduceIte, reduceCtorEq, Nat.reduceEqDiff, Nat.reduceAdd, Nat.reduceLT, Nat.reduceLeDiff, Nat.reduceMul, Nat.reduceSub, insR, h, hx, ha, or_true, true_or, false_or, Bool.true_or, Bool.false_or, decide_true, decide_false]
theorem en_there (args : Array Value) (w : World) : (callFunc 43 args).run Tryz.prog w = .ok (.enter 43 args) w := by go_simp
def thereS : Spec Tryz.prog 43 :=
  mk1 _ _ _ Tryz.func43 rfl en_there (tAgg insR) ((fun x => opQ x.op)) ((fun x => .ret (bv (thereF x)))) (by rw [Tryz.ntmps43]; decide) (fun x h => there_sw x h)
theorem there_run {id : Nat} {h : Heap} {args : List AV} : (thereS).run id h args = runP (args1 (tAgg insR) ((fun x => opQ x.op))) ((fun x => .ret (bv (thereF x)))) h args := rfl
theorem there_pan {id : Nat} {h : Heap} {args : List AV} : (thereS).pan id h args = panP (args1 (tAgg insR) ((fun x => opQ x.op))) ((fun x => .ret (bv (thereF x)))) h args := rfl
theorem en_icheck (args : Array Value) (w : World) : (callFunc 25 args).run Tryz.prog w = .ok (.enter 25 args) w := by go_simp
def icheckS : Spec Tryz.prog 25 :=
  mk1 _ _ _ Tryz.func25 rfl en_icheck (tAgg insR) ((fun x => opQ x.op)) ((fun x => .ret (iv (icheckF x)))) (by rw [Tryz.ntmps25]; decide) (fun x h => by
  refine aRun_sound (ctx := [⟨_, withinS⟩, ⟨_, thereS⟩]) 4000 ?_
  rw [Tryz.ntmps25, Tryz.results25]
  simp only [Tryz.f25, Option.getD_some, zipT]
  unfold icheckF
  cases h1 : withinF x
  · simp only [go_sem, Nat.reduceOr, Nat.reducePow, Nat.reduceDiv, Nat.reduceMod, Nat.reduceBEq, Int.reduceBEq, Int.reduceBNe, Int.reduceEq, Int.reduceLT, Int.reduceLE, Int.reduceToNat, reduceIte, reduceCtorEq, Nat.reduceEqDiff, Nat.reduceAdd, Nat.reduceLT, Nat.reduceLeDiff, Nat.reduceMul, Nat.reduceSub, insR, within_run, within_pan, h, h1, Bool.false_and]
  · cases h2 : thereF x
    · simp only [go_sem, Nat.reduceOr, Nat.reducePow, Nat.reduceDiv, Nat.reduceMod, Nat.reduceBEq, Int.reduceBEq, Int.reduceBNe, Int.reduceEq, Int.reduceLT, Int.reduceLE, Int.reduceToNat, reduceIte, reduceCtorEq, Nat.reduceEqDiff, Nat.reduceAdd, Nat.reduceLT, Nat.reduceLeDiff, Nat.reduceMul, Nat.reduceSub, insR, within_run, within_pan, there_run, there_pan, h, h1, h2, Bool.true_and]
    · simp only [go_sem, Nat.reduceOr, Nat.reducePow, Nat.reduceDiv, Nat.reduceMod, Nat.reduceBEq, Int.reduceBEq, Int.reduceBNe, Int.reduceEq, Int.reduceLT, Int.reduceLE, Int.reduceToNat, reduceIte, reduceCtorEq, Nat.reduceEqDiff, Nat.reduceAdd, Nat.reduceLT, Nat.reduceLeDiff, Nat.reduceMul, Nat.reduceSub, insR, within_run, within_pan, there_run, there_pan, h, h1, h2, Bool.true_and])
theorem icheck_run {id : Nat} {h : Heap} {args : List AV} : (icheckS).run id h args = runP (args1 (tAgg insR) ((fun x => opQ x.op))) ((fun x => .ret (iv (icheckF x)))) h args := rfl
theorem icheck_pan {id : Nat} {h : Heap} {args : List AV} : (icheckS).pan id h args = panP (args1 (tAgg insR) ((fun x => opQ x.op))) ((fun x => .ret (iv (icheckF x)))) h args := rfl

end Go.Proofs.YtpjlafmhoifkmaaGreat
