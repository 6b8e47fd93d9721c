/- Instructions as lines: the alias of a move of 16 bits. -/
import Derived.Test.YtpjlafmhoifkmaaGreatKE
set_option linter.unusedVariables false
set_option linter.unusedSimpArgs false
namespace Go.Proofs.YtpjlafmhoifkmaaGreat
open Go.RowKit
set_option maxRecDepth 100000

set_option maxHeartbeats 1000000 in
theorem en_movedN (args : Array Value) (w : World) : (callFunc 109 args).run Tryz.prog w = .ok (.enter 109 args) w := by go_simp
def movedNS : Spec Tryz.prog 109 :=
  mk1 _ _ _ Tryz.func109 rfl en_movedN (tAgg insR) ((fun x => 0 ≤ x.c ∧ x.c ≤ 3)) ((fun x => .ret (iv (mvdF x)))) (by rw [Tryz.ntmps109]; decide) (fun x h => by
  refine aRun_sound (ctx := [⟨_, onesS⟩]) 4000 ?_
  rw [Tryz.ntmps109, Tryz.results109]
  simp only [Tryz.f109, Option.getD_some, zipT]
  have ht := u64_of x.a
  have e1 : IntKind.i64.wrap (16 * x.c) = 16 * x.c := by rw [IntKind.wrap_i64]; omega
  have e0 : 0 ≤ 16 * x.c := by omega
  have e2 := shl_u (u64F x.a) (16 * x.c).toNat (by omega)
  obtain ⟨P, hP⟩ : ∃ P, u64F x.a * 2 ^ (16 * x.c).toNat % 18446744073709551616 = P := ⟨_, rfl⟩
  have hP64 : P < 2 ^ 64 := by rw [← hP]; exact Nat.mod_lt _ (by decide)
  rw [hP] at e2
  have hxor := xor_u P (onesN x.x) hP64 (ones_lt x.x)
  have hi : ∀ z : Nat, IntKind.i64.wrap ((z : Nat) : Int) = i64F z := fun _ => rfl
  have hm : mvdF x = i64F (if x.b = 0 then P ^^^ onesN x.x else P) := by unfold mvdF; rw [hP]
  by_cases hb : x.b = 0
  · have hb1 : (x.b == 0) = true := by simpa using hb
    rw [hm, if_pos hb]
    simp only [go_sem, Nat.reduceOr, Nat.reducePow, Nat.reduceDiv, Nat.reduceMod, Nat.reduceBEq, Int.reduceBEq, Int.reduceBNe, Int.reduceEq, Int.reduceLT, Int.reduceLE, Int.reduceToNat, reduceIte, reduceCtorEq, Nat.reduceEqDiff, Nat.reduceAdd, Nat.reduceLT, Nat.reduceLeDiff, Nat.reduceMul, Nat.reduceSub, insR, ht, e0, e1, e2, hb1, ones_run, ones_pan, hxor, hi]
  · have hb1 : (x.b == 0) = false := by simpa using hb
    rw [hm, if_neg hb]
    simp only [go_sem, Nat.reduceOr, Nat.reducePow, Nat.reduceDiv, Nat.reduceMod, Nat.reduceBEq, Int.reduceBEq, Int.reduceBNe, Int.reduceEq, Int.reduceLT, Int.reduceLE, Int.reduceToNat, reduceIte, reduceCtorEq, Nat.reduceEqDiff, Nat.reduceAdd, Nat.reduceLT, Nat.reduceLeDiff, Nat.reduceMul, Nat.reduceSub, insR, ht, e0, e1, e2, hb1, hi])
theorem movedN_run {id : Nat} {h : Heap} {args : List AV} : (movedNS).run id h args = runP (args1 (tAgg insR) ((fun x => 0 ≤ x.c ∧ x.c ≤ 3))) ((fun x => .ret (iv (mvdF x)))) h args := rfl
theorem movedN_pan {id : Nat} {h : Heap} {args : List AV} : (movedNS).pan id h args = panP (args1 (tAgg insR) ((fun x => 0 ≤ x.c ∧ x.c ≤ 3))) ((fun x => .ret (iv (mvdF x)))) h args := rfl

def wrT (x : Ins) (q : Bool) : St := ⟨4, (35, bv q) :: (wrS x).t, (wrS x).h⟩
set_option maxHeartbeats 4000000 in
theorem movWide_sw (x : Ins) (hc : 0 ≤ x.c ∧ x.c ≤ 3) : SW Tryz.prog ⟨none, 0⟩ Tryz.f46.ntmps (Tryz.f46.body.getD .skip) ⟨0, zipT 0 [(tAgg insR).enc x], []⟩ (outQ Tryz.prog Tryz.f46.results.toList (.ret (aliasO (movAF x)))) := by
  rw [Tryz.ntmps46, Tryz.results46]
  simp only [Tryz.f46, Option.getD_some, zipT]
  refine sw_seq (aRun_sound (ctx := []) 4000 ?_)
  simp only [go_sem, Nat.reduceOr, Nat.reducePow, Nat.reduceDiv, Nat.reduceMod, Nat.reduceBEq, Int.reduceBEq, Int.reduceBNe, Int.reduceEq, Int.reduceLT, Int.reduceLE, Int.reduceToNat, reduceIte, reduceCtorEq, Nat.reduceEqDiff, Nat.reduceAdd, Nat.reduceLT, Nat.reduceLeDiff, Nat.reduceMul, Nat.reduceSub, thenQ, insR]
  refine sw_seq (aRun_sound (ctx := []) 4000 ?_)
  simp only [go_sem, Nat.reduceOr, Nat.reducePow, Nat.reduceDiv, Nat.reduceMod, Nat.reduceBEq, Int.reduceBEq, Int.reduceBNe, Int.reduceEq, Int.reduceLT, Int.reduceLE, Int.reduceToNat, reduceIte, reduceCtorEq, Nat.reduceEqDiff, Nat.reduceAdd, Nat.reduceLT, Nat.reduceLeDiff, Nat.reduceMul, Nat.reduceSub, thenQ]
  refine SW.wk (s' := wrS x) ?_ ((Wk.nilC 80 11 40 15 (k := ⟨true, 68, 12, [insE x ++ [.v (.string emp), .v (.slice none 0 0)]]⟩) rfl rfl rfl).trans (Wk.renL [0, 16, 80, 112] (by simp) (by simp [wrS]) (by decide) rfl rfl))
  obtain ⟨op, xx, ss, rd, rn, rm, ra, a, b, c⟩ := x
  simp only at hc
  have no : (b = 3 ∨ (a = 0 ∧ ¬ c = 0) ∨ (b = 0 ∧ xx = false ∧ a = 65535)) → movAF ⟨op, xx, ss, rd, rn, rm, ra, a, b, c⟩ = none := by
    intro h
    unfold movAF
    exact if_pos h
  have yes : ¬ (b = 3 ∨ (a = 0 ∧ ¬ c = 0) ∨ (b = 0 ∧ xx = false ∧ a = 65535)) → movAF ⟨op, xx, ss, rd, rn, rm, ra, a, b, c⟩ = some ((⟨#[109, 111, 118]⟩ : ByteArray), [dO ⟨op, xx, ss, rd, rn, rm, ra, a, b, c⟩, oNum (mvdF ⟨op, xx, ss, rd, rn, rm, ra, a, b, c⟩)]) := by
    intro h
    unfold movAF
    exact if_neg h
  have beq : ∀ a b : Int, (a == b) = decide (a = b) := fun a b => by by_cases h : a = b <;> simp [h]
  have bne : ∀ a b : Int, (a != b) = !decide (a = b) := fun a b => by by_cases h : a = b <;> simp [h]
  have fin : ∀ b3 a0 c0 b0 af : Bool, (b == 3) = b3 → (a == 0) = a0 → (c != 0) = c0 → (b == 0) = b0 → (a == 65535) = af → (decide (b = 3) = b3 ∧ decide (a = 0) = a0 ∧ decide (c = 0) = !c0 ∧ decide (b = 0) = b0 ∧ decide (a = 65535) = af) := by
    intro b3 a0 c0 b0 af h1 h2 h3 h4 h6
    rw [beq] at h1 h2 h4 h6
    rw [bne] at h3
    exact ⟨h1, h2, by rw [← h3]; simp, h4, h6⟩
  obtain ⟨x, hx⟩ : ∃ x : Ins, x = ⟨op, xx, ss, rd, rn, rm, ra, a, b, c⟩ := ⟨_, rfl⟩
  rw [← hx] at no yes ⊢
  refine sw_seq (sw_seq (SW.mono (Q := fun e s' => e = .normal ∧ ∃ q : Bool, (q = true → movAF x = none) ∧ (q = false → movAF x = some ((⟨#[109, 111, 118]⟩ : ByteArray), [dO x, oNum (mvdF x)])) ∧ Wk ⟨none, 0⟩ s' (wrT x q)) (aRun_sound (ctx := []) 4000 ?_) ?_))
  · subst hx
    cases h1 : b == 3 <;> cases h2 : a == 0 <;> cases h3 : c != 0 <;> cases h4 : b == 0 <;> cases h6 : a == 65535 <;> cases xx
    all_goals
      obtain ⟨g1, g2, g3, g4, g6⟩ := fin _ _ _ _ _ h1 h2 h3 h4 h6
      simp only [decide_eq_true_eq, decide_eq_false_iff_not, Bool.not_true, Bool.not_false] at g1 g2 g3 g4 g6
      first
      | (exfalso; omega)
      | (simp only [go_sem, Nat.reduceOr, Nat.reducePow, Nat.reduceDiv, Nat.reduceMod, Nat.reduceBEq, Int.reduceBEq, Int.reduceBNe, Int.reduceEq, Int.reduceLT, Int.reduceLE, Int.reduceToNat, reduceIte, reduceCtorEq, Nat.reduceEqDiff, Nat.reduceAdd, Nat.reduceLT, Nat.reduceLeDiff, Nat.reduceMul, Nat.reduceSub, wrS, insK, insE, wrK, opsK, boxL, h1, h2, h3, h4, h6]
         first
         | exact ⟨true, fun _ => no (by simp only [g1, g2, g3, g4, g6]; simp), (fun h => by cases h), Wk.renL [0, 1, 2, 3] (by simp) (by simp [wrT, wrS]) (by decide) rfl rfl⟩
         | exact ⟨false, (fun h => by cases h), fun _ => yes (by simp only [g1, g2, g3, g4, g6]; simp), Wk.renL [0, 1, 2, 3] (by simp) (by simp [wrT, wrS]) (by decide) rfl rfl⟩)
  · rintro e s' ⟨rfl, q, hq1, hq2, hwk⟩
    refine SW.wk (s' := wrT x q) ?_ hwk
    have hcx : 0 ≤ x.c ∧ x.c ≤ 3 := by rw [hx]; exact hc
    refine aRun_sound (ctx := []) 4000 ?_
    cases q
    · have e := hq2 rfl
      simp only [go_sem, Nat.reduceOr, Nat.reducePow, Nat.reduceDiv, Nat.reduceMod, Nat.reduceBEq, Int.reduceBEq, Int.reduceBNe, Int.reduceEq, Int.reduceLT, Int.reduceLE, Int.reduceToNat, reduceIte, reduceCtorEq, Nat.reduceEqDiff, Nat.reduceAdd, Nat.reduceLT, Nat.reduceLeDiff, Nat.reduceMul, Nat.reduceSub, thenQ, wrT, wrS, insK, insE, wrK, opsK, boxL, aliasO, e]
      refine aRun_sound (ctx := [⟨_, lineS stepsT⟩, ⟨_, numS⟩, ⟨_, movedNS⟩, ⟨_, putS⟩]) 4000 ?_
      simp only [go_sem, Nat.reduceOr, Nat.reducePow, Nat.reduceDiv, Nat.reduceMod, Nat.reduceBEq, Int.reduceBEq, Int.reduceBNe, Int.reduceEq, Int.reduceLT, Int.reduceLE, Int.reduceToNat, reduceIte, reduceCtorEq, Nat.reduceEqDiff, Nat.reduceAdd, Nat.reduceLT, Nat.reduceLeDiff, Nat.reduceMul, Nat.reduceSub, insR, fn_zero, fn_sz, line_run, line_pan, runQ, decLn, decWr, decWrL, decOps_map, decStep, outLn, gOf, decAll, opL_ren1, mapT_opL, lineQ, stepsQ, stepsF, at_D, stpD, movedN_run, movedN_pan, hcx.1, hcx.2, num_run, num_pan, opV, oNum, op0, r0, opR, opE, emp, insE, wrK, opsK, put_run, put_pan, decW, xwT, outWr, dO, oReg, opL, ofDs, ofD, decOpL]
    · have e := hq1 rfl
      simp only [go_sem, Nat.reduceOr, Nat.reducePow, Nat.reduceDiv, Nat.reduceMod, Nat.reduceBEq, Int.reduceBEq, Int.reduceBNe, Int.reduceEq, Int.reduceLT, Int.reduceLE, Int.reduceToNat, reduceIte, reduceCtorEq, Nat.reduceEqDiff, Nat.reduceAdd, Nat.reduceLT, Nat.reduceLeDiff, Nat.reduceMul, Nat.reduceSub, thenQ, wrT, wrS, insK, insE, wrK, opsK, boxL, aliasO, e, emp]

theorem en_movWide (args : Array Value) (w : World) : (callFunc 46 args).run Tryz.prog w = .ok (.enter 46 args) w := by go_simp
def movWideS : Spec Tryz.prog 46 :=
  mk1 _ _ _ Tryz.func46 rfl en_movWide (tAgg insR) ((fun x => 0 ≤ x.c ∧ x.c ≤ 3)) ((fun x => .ret (aliasO (movAF x)))) (by rw [Tryz.ntmps46]; decide) (fun x h => movWide_sw x h)
theorem movWide_run {id : Nat} {h : Heap} {args : List AV} : (movWideS).run id h args = runP (args1 (tAgg insR) ((fun x => 0 ≤ x.c ∧ x.c ≤ 3))) ((fun x => .ret (aliasO (movAF x)))) h args := rfl
theorem movWide_pan {id : Nat} {h : Heap} {args : List AV} : (movWideS).pan id h args = panP (args1 (tAgg insR) ((fun x => 0 ≤ x.c ∧ x.c ≤ 3))) ((fun x => .ret (aliasO (movAF x)))) h args := rfl

end Go.Proofs.YtpjlafmhoifkmaaGreat
