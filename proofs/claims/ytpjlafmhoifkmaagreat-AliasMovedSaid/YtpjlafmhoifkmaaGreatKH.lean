/- Instructions as lines: a logical immediate, plainly; Line. -/
import Derived.Test.YtpjlafmhoifkmaaGreatKG
set_option linter.unusedVariables false
set_option linter.unusedSimpArgs false
namespace Go.Proofs.YtpjlafmhoifkmaaGreat
open Go.RowKit
set_option maxRecDepth 100000

set_option maxHeartbeats 4000000 in
theorem imm_log (x : Ins) (h : x.op = 3) : SW Tryz.prog ⟨none, 0⟩ Tryz.f59.ntmps (Tryz.f59.body.getD .skip) ⟨0, zipT 0 [(tAgg insR).enc x], []⟩ (outQ Tryz.prog Tryz.f59.results.toList (.ret (lineV (immF x)))) := by
  rw [Tryz.ntmps59, Tryz.results59]
  simp only [Tryz.f59, Option.getD_some, zipT]
  refine sw_seq (aRun_sound (ctx := []) 4000 ?_)
  simp only [go_sem, Nat.reduceOr, Nat.reducePow, Nat.reduceDiv, Nat.reduceMod, Nat.reduceBEq, Int.reduceBEq, Int.reduceBNe, Int.reduceEq, Int.reduceLT, Int.reduceLE, Int.reduceToNat, reduceIte, reduceCtorEq, Nat.reduceEqDiff, Nat.reduceAdd, Nat.reduceLT, Nat.reduceLeDiff, Nat.reduceMul, Nat.reduceSub, thenQ, insR]
  refine sw_seq (aRun_sound (ctx := []) 4000 ?_)
  simp only [go_sem, Nat.reduceOr, Nat.reducePow, Nat.reduceDiv, Nat.reduceMod, Nat.reduceBEq, Int.reduceBEq, Int.reduceBNe, Int.reduceEq, Int.reduceLT, Int.reduceLE, Int.reduceToNat, reduceIte, reduceCtorEq, Nat.reduceEqDiff, Nat.reduceAdd, Nat.reduceLT, Nat.reduceLeDiff, Nat.reduceMul, Nat.reduceSub, thenQ]
  refine SW.wk (s' := ⟨5, [(1, .s (.l (.p 0 0 0))), (2, .s (.l (.p 1 0 0))), (3, .s (.l (.p 2 0 0)))], [(0, some ⟨true, 27, 10, [insE x]⟩), (1, some boxL), (2, some ⟨true, 66, 1, [[.p 3 0 0]]⟩), (3, some (wrK x emp 0 4)), (4, some (opsK []))]⟩) ?_ ((Wk.nilC 64 11 40 15 (k := ⟨true, 68, 12, [insE x ++ [.v (.string emp), .v (.slice none 0 0)]]⟩) rfl rfl rfl).trans (Wk.renL [0, 16, 80, 64, 112] (by simp) (by simp) (by decide) rfl rfl))
  refine aRun_sound (ctx := []) 4000 ?_
  by_cases hb : x.b = 3
  · have b1 : (x.b == 3) = true := by simpa using hb
    have e : immF x = (pickF x.b [(⟨#[97, 110, 100]⟩ : ByteArray), (⟨#[111, 114, 114]⟩ : ByteArray), (⟨#[101, 111, 114]⟩ : ByteArray), (⟨#[97, 110, 100, 115]⟩ : ByteArray)], [dO x, nO x, numO' x]) := by unfold immF; simp [h, hb]
    simp only [go_sem, Nat.reduceOr, Nat.reducePow, Nat.reduceDiv, Nat.reduceMod, Nat.reduceBEq, Int.reduceBEq, Int.reduceBNe, Int.reduceEq, Int.reduceLT, Int.reduceLE, Int.reduceToNat, reduceIte, reduceCtorEq, Nat.reduceEqDiff, Nat.reduceAdd, Nat.reduceLT, Nat.reduceLeDiff, Nat.reduceMul, Nat.reduceSub, insE, wrK, opsK, boxL, h, b1, fn_zero, fn_sz]
    refine sw_drawF (ctx := [⟨_, pickS⟩, ⟨_, lineS stepsT⟩]) mixed ⟨[11, 12], [(4, [325])], [(0, [325]), (5, [325]), (6, [325]), (7, [325]), (8, [325]), (9, [325]), (10, [325])]⟩ (by kernel_rfl) ?_
    obtain ⟨P, hP⟩ : ∃ P, pickF x.b [(⟨#[97, 110, 100]⟩ : ByteArray), (⟨#[111, 114, 114]⟩ : ByteArray), (⟨#[101, 111, 114]⟩ : ByteArray), (⟨#[97, 110, 100, 115]⟩ : ByteArray)] = P := ⟨_, rfl⟩
    rw [hP] at e
    simp only [go_sem, Nat.reduceOr, Nat.reducePow, Nat.reduceDiv, Nat.reduceMod, Nat.reduceBEq, Int.reduceBEq, Int.reduceBNe, Int.reduceEq, Int.reduceLT, Int.reduceLE, Int.reduceToNat, reduceIte, reduceCtorEq, Nat.reduceEqDiff, Nat.reduceAdd, Nat.reduceLT, Nat.reduceLeDiff, Nat.reduceMul, Nat.reduceSub, pick_run, pick_pan, runR, panR, decPk, decWordL, decAll, outPk, hP, fn_zero, fn_sz, line_run, line_pan, runQ, decLn, decWr, decWrL, decOps_map, decStep, at_D, at_N, at_Num, outLn, gOf, opL_ren1, mapT_opL, lineV, e, lineQ, stepsQ, stepsF, stpD, stpN, stpNum, insE, wrK, opsK]
    rfl
  · have b1 : (x.b == 3) = false := by simpa using hb
    have e : immF x = (pickF x.b [(⟨#[97, 110, 100]⟩ : ByteArray), (⟨#[111, 114, 114]⟩ : ByteArray), (⟨#[101, 111, 114]⟩ : ByteArray), (⟨#[97, 110, 100, 115]⟩ : ByteArray)], [dsO x, nO x, numO' x]) := by unfold immF; simp [h, hb]
    simp only [go_sem, Nat.reduceOr, Nat.reducePow, Nat.reduceDiv, Nat.reduceMod, Nat.reduceBEq, Int.reduceBEq, Int.reduceBNe, Int.reduceEq, Int.reduceLT, Int.reduceLE, Int.reduceToNat, reduceIte, reduceCtorEq, Nat.reduceEqDiff, Nat.reduceAdd, Nat.reduceLT, Nat.reduceLeDiff, Nat.reduceMul, Nat.reduceSub, insE, wrK, opsK, boxL, h, b1, fn_zero, fn_sz]
    refine sw_drawF (ctx := [⟨_, pickS⟩, ⟨_, lineS stepsT⟩]) mixed ⟨[11, 12], [(4, [277])], [(0, [277]), (5, [277]), (6, [277]), (7, [277]), (8, [277]), (9, [277]), (10, [277])]⟩ (by kernel_rfl) ?_
    obtain ⟨P, hP⟩ : ∃ P, pickF x.b [(⟨#[97, 110, 100]⟩ : ByteArray), (⟨#[111, 114, 114]⟩ : ByteArray), (⟨#[101, 111, 114]⟩ : ByteArray), (⟨#[97, 110, 100, 115]⟩ : ByteArray)] = P := ⟨_, rfl⟩
    rw [hP] at e
    simp only [go_sem, Nat.reduceOr, Nat.reducePow, Nat.reduceDiv, Nat.reduceMod, Nat.reduceBEq, Int.reduceBEq, Int.reduceBNe, Int.reduceEq, Int.reduceLT, Int.reduceLE, Int.reduceToNat, reduceIte, reduceCtorEq, Nat.reduceEqDiff, Nat.reduceAdd, Nat.reduceLT, Nat.reduceLeDiff, Nat.reduceMul, Nat.reduceSub, pick_run, pick_pan, runR, panR, decPk, decWordL, decAll, outPk, hP, fn_zero, fn_sz, line_run, line_pan, runQ, decLn, decWr, decWrL, decOps_map, decStep, at_Ds, at_N, at_Num, outLn, gOf, opL_ren1, mapT_opL, lineV, e, lineQ, stepsQ, stepsF, stpDs, stpN, stpNum, insE, wrK, opsK]
    rfl

theorem en_imm (args : Array Value) (w : World) : (callFunc 59 args).run Tryz.prog w = .ok (.enter 59 args) w := by go_simp
def immS : Spec Tryz.prog 59 :=
  mk1 _ _ _ Tryz.func59 rfl en_imm (tAgg insR) ((fun x => x.op = 3)) ((fun x => .ret (lineV (immF x)))) (by rw [Tryz.ntmps59]; decide) (fun x h => imm_log x h)
theorem imm_run {id : Nat} {h : Heap} {args : List AV} : (immS).run id h args = runP (args1 (tAgg insR) ((fun x => x.op = 3))) ((fun x => .ret (lineV (immF x)))) h args := rfl
theorem imm_pan {id : Nat} {h : Heap} {args : List AV} : (immS).pan id h args = panP (args1 (tAgg insR) ((fun x => x.op = 3))) ((fun x => .ret (lineV (immF x)))) h args := rfl
theorem en_plain (args : Array Value) (w : World) : (callFunc 27 args).run Tryz.prog w = .ok (.enter 27 args) w := by go_simp
def plainS : Spec Tryz.prog 27 :=
  mk1 _ _ _ Tryz.func27 rfl en_plain (tAgg insR) ((fun x => x.op = 3)) ((fun x => .ret (lineV (immF x)))) (by rw [Tryz.ntmps27]; decide) (fun x h => by
  refine aRun_sound (ctx := [⟨_, immS⟩]) 4000 ?_
  rw [Tryz.ntmps27, Tryz.results27]
  simp only [Tryz.f27, Option.getD_some, zipT]
  have h6 : x.op ≤ 6 := by omega
  simp only [go_sem, Nat.reduceOr, Nat.reducePow, Nat.reduceDiv, Nat.reduceMod, Nat.reduceBEq, Int.reduceBEq, Int.reduceBNe, Int.reduceEq, Int.reduceLT, Int.reduceLE, Int.reduceToNat, reduceIte, reduceCtorEq, Nat.reduceEqDiff, Nat.reduceAdd, Nat.reduceLT, Nat.reduceLeDiff, Nat.reduceMul, Nat.reduceSub, insR, h6, eq_true h, imm_run, imm_pan, lineV])
theorem plain_run {id : Nat} {h : Heap} {args : List AV} : (plainS).run id h args = runP (args1 (tAgg insR) ((fun x => x.op = 3))) ((fun x => .ret (lineV (immF x)))) h args := rfl
theorem plain_pan {id : Nat} {h : Heap} {args : List AV} : (plainS).pan id h args = panP (args1 (tAgg insR) ((fun x => x.op = 3))) ((fun x => .ret (lineV (immF x)))) h args := rfl

/-! ### Line -/
def lnR (x : Ins) : LineV := match aliasV x with
  | some r => r
  | none => immF x
def lnQ (x : Ins) : Prop := icheckF x = 0 ∧ opQ x.op ∧ alQ x ∧ (aliasV x = none → x.op = 3)
def lnO (r : LineV) : AV := .tup [.agg [.v (.string r.1), .d (.sd 15 (r.2.map opE))], .l (.v (.int .i64 0))]
set_option maxHeartbeats 2000000 in
theorem en_lineF (args : Array Value) (w : World) : (callFunc 9 args).run Tryz.prog w = .ok (.enter 9 args) w := by go_simp
def lineFS : Spec Tryz.prog 9 :=
  mk1 _ _ _ Tryz.func9 rfl en_lineF (tAgg insR) (lnQ) ((fun x => .ret (lnO (lnR x)))) (by rw [Tryz.ntmps9]; decide) (fun x h => by
  refine aRun_sound (ctx := [⟨_, icheckS⟩, ⟨_, aliasS⟩, ⟨_, plainS⟩]) 4000 ?_
  rw [Tryz.ntmps9, Tryz.results9]
  simp only [Tryz.f9, Option.getD_some, zipT]
  obtain ⟨h1, h2, h3, h4⟩ := h
  cases hl : aliasV x with
  | some r =>
    have e : lnR x = r := by unfold lnR; rw [hl]
    simp only [go_sem, Nat.reduceOr, Nat.reducePow, Nat.reduceDiv, Nat.reduceMod, Nat.reduceBEq, Int.reduceBEq, Int.reduceBNe, Int.reduceEq, Int.reduceLT, Int.reduceLE, Int.reduceToNat, reduceIte, reduceCtorEq, Nat.reduceEqDiff, Nat.reduceAdd, Nat.reduceLT, Nat.reduceLeDiff, Nat.reduceMul, Nat.reduceSub, insR, icheck_run, icheck_pan, h1, h2, alias_run, alias_pan, h3, hl, aliasO, e, lnO]
  | none =>
    have e : lnR x = immF x := by unfold lnR; rw [hl]
    have ho := h4 hl
    simp only [go_sem, Nat.reduceOr, Nat.reducePow, Nat.reduceDiv, Nat.reduceMod, Nat.reduceBEq, Int.reduceBEq, Int.reduceBNe, Int.reduceEq, Int.reduceLT, Int.reduceLE, Int.reduceToNat, reduceIte, reduceCtorEq, Nat.reduceEqDiff, Nat.reduceAdd, Nat.reduceLT, Nat.reduceLeDiff, Nat.reduceMul, Nat.reduceSub, insR, icheck_run, icheck_pan, h1, h2, alias_run, alias_pan, h3, hl, aliasO, plain_run, plain_pan, eq_true ho, lineV, e, lnO])
theorem lineF_run {id : Nat} {h : Heap} {args : List AV} : (lineFS).run id h args = runP (args1 (tAgg insR) (lnQ)) ((fun x => .ret (lnO (lnR x)))) h args := rfl
theorem lineF_pan {id : Nat} {h : Heap} {args : List AV} : (lineFS).pan id h args = panP (args1 (tAgg insR) (lnQ)) ((fun x => .ret (lnO (lnR x)))) h args := rfl

end Go.Proofs.YtpjlafmhoifkmaaGreat
