/- Instructions as lines: immediates. -/
import Derived.Test.YtpjlafmhoifkmaaGreatJ6
set_option linter.unusedVariables false
set_option linter.unusedSimpArgs false
namespace Go.Proofs.YtpjlafmhoifkmaaGreat
open Go.RowKit
set_option maxRecDepth 100000

theorem fn_zero : zeroOf Tryz.prog 1 = some [.nilFunc] := by kernel_rfl
theorem fn_sz : szOf Tryz.prog 1 = some 1 := by kernel_rfl
theorem at_D : stepsT.at_ 49 = some stpD := rfl
theorem at_N : stepsT.at_ 50 = some stpN := rfl
theorem at_M : stepsT.at_ 56 = some stpM := rfl
theorem at_A : stepsT.at_ 130 = some stpA := rfl
theorem at_Ds : stepsT.at_ 107 = some stpDs := rfl
theorem at_Ns : stepsT.at_ 104 = some stpNs := rfl
theorem at_Xd : stepsT.at_ 120 = some stpXd := rfl
theorem at_Num : stepsT.at_ 51 = some stpNum := rfl
theorem at_Cond : stepsT.at_ 128 = some stpCond := rfl
theorem at_Far : stepsT.at_ 123 = some stpFar := rfl
theorem opL_ren1 (o : OpV) (g : Nat → Nat) : List.map (fun x => LV.ren g x) (opL o) = opL o := ofDs_ren
theorem mapT_opL (h : Heap) (f : Nat) (o : OpV) : mapT (LV.toD h f) (opL o) = some (True, [], opE o) := mapT_ofDs
def lineV (r : LineV) : AV := .s (.agg [.v (.string r.1), .d (.sd 15 (r.2.map opE))])
theorem en_shifted (args : Array Value) (w : World) : (callFunc 106 args).run Tryz.prog w = .ok (.enter 106 args) w := by go_simp
def shiftedS : Spec Tryz.prog 106 :=
  mk1 _ _ _ Tryz.func106 rfl en_shifted (tAgg insR) ((fun _ => True)) ((fun x => .ret (opV (shiftedF x)))) (by rw [Tryz.ntmps106]; decide) (fun x _ => by
  refine aRun_sound (ctx := [⟨_, numS⟩, ⟨_, withS⟩]) 4000 ?_
  rw [Tryz.ntmps106, Tryz.results106]
  simp only [Tryz.f106, Option.getD_some, zipT]
  by_cases h : x.c = 1
  · have e : shiftedF x = oWith (oNum x.a) 1 12 := by unfold shiftedF; rw [if_pos h]
    simp only [go_sem, Nat.reduceOr, Nat.reducePow, Nat.reduceDiv, Nat.reduceMod, Nat.reduceBEq, Int.reduceBEq, Int.reduceBNe, Int.reduceEq, Int.reduceLT, Int.reduceLE, Int.reduceToNat, reduceIte, reduceCtorEq, Nat.reduceEqDiff, Nat.reduceAdd, Nat.reduceLT, Nat.reduceLeDiff, Nat.reduceMul, Nat.reduceSub, insR, h, e, num_run, num_pan, with_run, with_pan, opV, oNum, oWith, op0, r0, opR, opE, emp]
  · have e : shiftedF x = oNum x.a := by unfold shiftedF; rw [if_neg h]
    simp only [go_sem, Nat.reduceOr, Nat.reducePow, Nat.reduceDiv, Nat.reduceMod, Nat.reduceBEq, Int.reduceBEq, Int.reduceBNe, Int.reduceEq, Int.reduceLT, Int.reduceLE, Int.reduceToNat, reduceIte, reduceCtorEq, Nat.reduceEqDiff, Nat.reduceAdd, Nat.reduceLT, Nat.reduceLeDiff, Nat.reduceMul, Nat.reduceSub, insR, h, e, num_run, num_pan, with_run, with_pan, opV, oNum, oWith, op0, r0, opR, opE, emp])
theorem shifted_run {id : Nat} {h : Heap} {args : List AV} : (shiftedS).run id h args = runP (args1 (tAgg insR) ((fun _ => True))) ((fun x => .ret (opV (shiftedF x)))) h args := rfl
theorem shifted_pan {id : Nat} {h : Heap} {args : List AV} : (shiftedS).pan id h args = panP (args1 (tAgg insR) ((fun _ => True))) ((fun x => .ret (opV (shiftedF x)))) h args := rfl

set_option maxHeartbeats 2000000 in
theorem imm_extr (x : Ins) (h : x.op = 6) : SW Tryz.prog ⟨none, 0⟩ Tryz.f59.ntmps (Tryz.f59.body.getD .skip) ⟨0, zipT 0 [(tAgg insR).enc x], []⟩ (outQ Tryz.prog Tryz.f59.results.toList (.ret (lineV (immF x)))) := by
  rw [Tryz.ntmps59, Tryz.results59]
  simp only [Tryz.f59, Option.getD_some, zipT]
  refine sw_seq (aRun_sound (ctx := []) 4000 ?_)
  simp only [go_sem, Nat.reduceOr, Nat.reducePow, Nat.reduceDiv, Nat.reduceMod, Nat.reduceBEq, Int.reduceBEq, Int.reduceBNe, Int.reduceEq, Int.reduceLT, Int.reduceLE, Int.reduceToNat, reduceIte, reduceCtorEq, Nat.reduceEqDiff, Nat.reduceAdd, Nat.reduceLT, Nat.reduceLeDiff, Nat.reduceMul, Nat.reduceSub, thenQ, insR]
  refine sw_seq (aRun_sound (ctx := []) 4000 ?_)
  simp only [go_sem, Nat.reduceOr, Nat.reducePow, Nat.reduceDiv, Nat.reduceMod, Nat.reduceBEq, Int.reduceBEq, Int.reduceBNe, Int.reduceEq, Int.reduceLT, Int.reduceLE, Int.reduceToNat, reduceIte, reduceCtorEq, Nat.reduceEqDiff, Nat.reduceAdd, Nat.reduceLT, Nat.reduceLeDiff, Nat.reduceMul, Nat.reduceSub, thenQ]
  refine SW.wk (s' := ⟨5, [(1, .s (.l (.p 0 0 0))), (2, .s (.l (.p 1 0 0))), (3, .s (.l (.p 2 0 0)))], [(0, some ⟨true, 27, 10, [insE x]⟩), (1, some boxL), (2, some ⟨true, 66, 1, [[.p 3 0 0]]⟩), (3, some (wrK x emp 0 4)), (4, some (opsK []))]⟩) ?_ ((Wk.nilC 64 11 40 15 (k := ⟨true, 68, 12, [insE x ++ [.v (.string emp), .v (.slice none 0 0)]]⟩) rfl rfl rfl).trans (Wk.renL [0, 16, 80, 64, 112] (by simp) (by simp) (by decide) rfl rfl))
  refine aRun_sound (ctx := [⟨_, lineS stepsT⟩]) 4000 ?_
  have e : immF x = ((⟨#[101, 120, 116, 114]⟩ : ByteArray), [dO x, nO x, mO x, numO' x]) := by unfold immF; simp [h]
  simp only [go_sem, Nat.reduceOr, Nat.reducePow, Nat.reduceDiv, Nat.reduceMod, Nat.reduceBEq, Int.reduceBEq, Int.reduceBNe, Int.reduceEq, Int.reduceLT, Int.reduceLE, Int.reduceToNat, reduceIte, reduceCtorEq, Nat.reduceEqDiff, Nat.reduceAdd, Nat.reduceLT, Nat.reduceLeDiff, Nat.reduceMul, Nat.reduceSub, insE, wrK, opsK, boxL, h, fn_zero, fn_sz, line_run, line_pan, runQ, decLn, decWr, decWrL, decOps_map, decStep, at_D, at_N, at_M, at_Num, outLn, gOf, decAll, opL_ren1, mapT_opL, lineV, e, lineQ, stepsQ, stepsF, stpD, stpN, stpM, stpNum]
  rfl

end Go.Proofs.YtpjlafmhoifkmaaGreat
