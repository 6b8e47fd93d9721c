/- Instructions as lines: the aliases of live's two instructions; a logical immediate, plainly. -/
import Derived.Test.YtpjlafmhoifkmaaGreatKF
set_option linter.unusedVariables false
set_option linter.unusedSimpArgs false
namespace Go.Proofs.YtpjlafmhoifkmaaGreat
open Go.RowKit
set_option maxRecDepth 100000

/-! ### The last register shifted, where it is not -/
theorem en_stMv (args : Array Value) (w : World) : (callFunc 113 args).run Tryz.prog w = .ok (.enter 113 args) w := by go_simp
theorem stMv_sw (x : Ins) (nm : ByteArray) (l : List OpV) (hq : x.a = 0 ∧ x.c = 0) : SW Tryz.prog ⟨none, 1⟩ Tryz.f113.ntmps (Tryz.f113.body.getD .skip) ⟨2, zipT 0 [.s (.l (.p 0 0 0))], zipH 0 [wrK x nm l.length 1, opsK l]⟩ (outR Tryz.prog Tryz.f113.results.toList 1 (outWr (.tup [], x, nm, l))) := by
  refine aRun_sound (ctx := []) 4000 ?_
  rw [Tryz.ntmps113, Tryz.results113]
  simp only [Tryz.f113, Option.getD_some, zipT]
  have h1 : (x.a == 0) = true := by simpa using hq.1
  have h2 : (x.c == 0) = true := by simpa using hq.2
  simp only [go_sem, Nat.reduceOr, Nat.reducePow, Nat.reduceDiv, Nat.reduceMod, Nat.reduceBEq, Int.reduceBEq, Int.reduceBNe, Int.reduceEq, Int.reduceLT, Int.reduceLE, Int.reduceToNat, reduceIte, reduceCtorEq, Nat.reduceEqDiff, Nat.reduceAdd, Nat.reduceLT, Nat.reduceLeDiff, Nat.reduceMul, Nat.reduceSub, wrK, insE, opsK, h1, h2]
  refine leftWr (x := x) (nm := nm) (l := l) (tb := 1) rfl ?_ ?_ (by decide)
  · simp [hget, wrK, insE]
  · simp [hget, opsK]
def stMvS : Spec Tryz.prog 113 :=
  mkW _ _ _ Tryz.func113 rfl en_stMv xw0 (fun _ x l => l.length ≤ 1000 ∧ (x.a = 0 ∧ x.c = 0)) (fun _ x nm l => (.tup [], x, nm, l)) (by rw [Tryz.ntmps113]; decide) (fun _ x nm l h => stMv_sw x nm l h.2)
def stpMv : Stp := ⟨113, fun x l => l, fun x l => l.length ≤ 1000 ∧ (x.a = 0 ∧ x.c = 0), stMvS, fun _ _ _ => rfl, fun _ _ _ => rfl⟩
def steps2 : StTab where
  at_ := fun g => if g = 113 then some stpMv else stepsT.at_ g
  ok := by
    intro g st h
    split at h
    · injection h with h; subst h; rename_i e; rw [e]; rfl
    · exact stepsT.ok h
theorem at2_Mv : steps2.at_ 113 = some stpMv := rfl
theorem at2_N : steps2.at_ 50 = some stpN := rfl
theorem at2_M : steps2.at_ 56 = some stpM := rfl
theorem at2_D : steps2.at_ 49 = some stpD := rfl

def liveR (x : Ins) : Prop := x.b = 1 ∧ x.s = false ∧ x.rn = 31 ∧ x.a = 0 ∧ x.c = 0
def liveA (x : Ins) : Prop := x.b = 1 ∧ x.s = true ∧ x.rd = 31 ∧ x.a = 0 ∧ x.c = 0
set_option maxHeartbeats 4000000 in
theorem logReg_sw (x : Ins) (h : liveR x) : SW Tryz.prog ⟨none, 0⟩ Tryz.f52.ntmps (Tryz.f52.body.getD .skip) ⟨0, zipT 0 [(tAgg insR).enc x], []⟩ (outQ Tryz.prog Tryz.f52.results.toList (.ret (aliasO (some ((⟨#[109, 111, 118]⟩ : ByteArray), [dO x, mO x]))))) := by
  rw [Tryz.ntmps52, Tryz.results52]
  simp only [Tryz.f52, Option.getD_some, zipT]
  refine sw_seq (aRun_sound (ctx := []) 4000 ?_)
  simp only [go_sem, Nat.reduceOr, Nat.reducePow, Nat.reduceDiv, Nat.reduceMod, Nat.reduceBEq, Int.reduceBEq, Int.reduceBNe, Int.reduceEq, Int.reduceLT, Int.reduceLE, Int.reduceToNat, reduceIte, reduceCtorEq, Nat.reduceEqDiff, Nat.reduceAdd, Nat.reduceLT, Nat.reduceLeDiff, Nat.reduceMul, Nat.reduceSub, thenQ, insR]
  refine sw_seq (aRun_sound (ctx := []) 4000 ?_)
  simp only [go_sem, Nat.reduceOr, Nat.reducePow, Nat.reduceDiv, Nat.reduceMod, Nat.reduceBEq, Int.reduceBEq, Int.reduceBNe, Int.reduceEq, Int.reduceLT, Int.reduceLE, Int.reduceToNat, reduceIte, reduceCtorEq, Nat.reduceEqDiff, Nat.reduceAdd, Nat.reduceLT, Nat.reduceLeDiff, Nat.reduceMul, Nat.reduceSub, thenQ]
  refine SW.wk (s' := wrS x) ?_ ((Wk.nilC 80 11 40 15 (k := ⟨true, 68, 12, [insE x ++ [.v (.string emp), .v (.slice none 0 0)]]⟩) rfl rfl rfl).trans (Wk.renL [0, 16, 80, 112] (by simp) (by simp [wrS]) (by decide) rfl rfl))
  refine aRun_sound (ctx := [⟨_, lineS stepsT⟩]) 4000 ?_
  obtain ⟨h1, h2, h3, h4, h5⟩ := h
  have b1 : (x.b == 1) = true := by simpa using h1
  have b3 : (x.rn == 31) = true := by simpa using h3
  have b4 : (x.a == 0) = true := by simpa using h4
  have b5 : (x.c == 0) = true := by simpa using h5
  simp only [go_sem, Nat.reduceOr, Nat.reducePow, Nat.reduceDiv, Nat.reduceMod, Nat.reduceBEq, Int.reduceBEq, Int.reduceBNe, Int.reduceEq, Int.reduceLT, Int.reduceLE, Int.reduceToNat, reduceIte, reduceCtorEq, Nat.reduceEqDiff, Nat.reduceAdd, Nat.reduceLT, Nat.reduceLeDiff, Nat.reduceMul, Nat.reduceSub, wrS, insK, insE, wrK, opsK, boxL, b1, h2, b3, b4, b5, fn_zero, fn_sz, line_run, line_pan, runQ, decLn, decWr, decWrL, decOps_map, decStep, outLn, gOf, decAll, opL_ren1, mapT_opL, aliasO, lineQ, stepsQ, stepsF, at_D, at_M, stpD, stpM]
  rfl
set_option maxHeartbeats 4000000 in
theorem addReg_sw (x : Ins) (ho : x.op = 25) (h : liveA x) : SW Tryz.prog ⟨none, 0⟩ Tryz.f53.ntmps (Tryz.f53.body.getD .skip) ⟨0, zipT 0 [(tAgg insR).enc x], []⟩ (outQ Tryz.prog Tryz.f53.results.toList (.ret (aliasO (some ((⟨#[99, 109, 112]⟩ : ByteArray), [nO x, mO x]))))) := by
  rw [Tryz.ntmps53, Tryz.results53]
  simp only [Tryz.f53, Option.getD_some, zipT]
  refine sw_seq (aRun_sound (ctx := []) 4000 ?_)
  simp only [go_sem, Nat.reduceOr, Nat.reducePow, Nat.reduceDiv, Nat.reduceMod, Nat.reduceBEq, Int.reduceBEq, Int.reduceBNe, Int.reduceEq, Int.reduceLT, Int.reduceLE, Int.reduceToNat, reduceIte, reduceCtorEq, Nat.reduceEqDiff, Nat.reduceAdd, Nat.reduceLT, Nat.reduceLeDiff, Nat.reduceMul, Nat.reduceSub, thenQ, insR]
  refine sw_seq (aRun_sound (ctx := []) 4000 ?_)
  simp only [go_sem, Nat.reduceOr, Nat.reducePow, Nat.reduceDiv, Nat.reduceMod, Nat.reduceBEq, Int.reduceBEq, Int.reduceBNe, Int.reduceEq, Int.reduceLT, Int.reduceLE, Int.reduceToNat, reduceIte, reduceCtorEq, Nat.reduceEqDiff, Nat.reduceAdd, Nat.reduceLT, Nat.reduceLeDiff, Nat.reduceMul, Nat.reduceSub, thenQ]
  refine SW.wk (s' := wrS x) ?_ ((Wk.nilC 80 11 40 15 (k := ⟨true, 68, 12, [insE x ++ [.v (.string emp), .v (.slice none 0 0)]]⟩) rfl rfl rfl).trans (Wk.renL [0, 16, 80, 112] (by simp) (by simp [wrS]) (by decide) rfl rfl))
  refine aRun_sound (ctx := [⟨_, pickS⟩, ⟨_, lineS steps2⟩]) 4000 ?_
  obtain ⟨h1, h2, h3, h4, h5⟩ := h
  have b0 : (x.op == 27) = false := by rw [ho]; decide
  have b3 : (x.rd == 31) = true := by simpa using h3
  have hp : pickF 1 [(⟨#[99, 109, 110]⟩ : ByteArray), (⟨#[99, 109, 112]⟩ : ByteArray)] = (⟨#[99, 109, 112]⟩ : ByteArray) := by decide
  simp only [go_sem, Nat.reduceOr, Nat.reducePow, Nat.reduceDiv, Nat.reduceMod, Nat.reduceBEq, Int.reduceBEq, Int.reduceBNe, Int.reduceEq, Int.reduceLT, Int.reduceLE, Int.reduceToNat, reduceIte, reduceCtorEq, Nat.reduceEqDiff, Nat.reduceAdd, Nat.reduceLT, Nat.reduceLeDiff, Nat.reduceMul, Nat.reduceSub, wrS, insK, insE, wrK, opsK, boxL, b0, h1, h2, b3, pick_run, pick_pan, runR, panR, decPk, decWordL, decAll, outPk, hp, fn_zero, fn_sz, line_run, line_pan, runQ, decLn, decWr, decWrL, decOps_map, decStep, outLn, gOf, opL_ren1, mapT_opL, aliasO, lineQ, stepsQ, stepsF, at2_N, at2_M, at2_Mv, stpN, stpM, stpMv, h4, h5]
  rfl
theorem en_logReg (args : Array Value) (w : World) : (callFunc 52 args).run Tryz.prog w = .ok (.enter 52 args) w := by go_simp
def logRegS : Spec Tryz.prog 52 :=
  mk1 _ _ _ Tryz.func52 rfl en_logReg (tAgg insR) (liveR) ((fun x => .ret (aliasO (some ((⟨#[109, 111, 118]⟩ : ByteArray), [dO x, mO x]))))) (by rw [Tryz.ntmps52]; decide) (fun x h => logReg_sw x h)
theorem logReg_run {id : Nat} {h : Heap} {args : List AV} : (logRegS).run id h args = runP (args1 (tAgg insR) (liveR)) ((fun x => .ret (aliasO (some ((⟨#[109, 111, 118]⟩ : ByteArray), [dO x, mO x]))))) h args := rfl
theorem logReg_pan {id : Nat} {h : Heap} {args : List AV} : (logRegS).pan id h args = panP (args1 (tAgg insR) (liveR)) ((fun x => .ret (aliasO (some ((⟨#[109, 111, 118]⟩ : ByteArray), [dO x, mO x]))))) h args := rfl
theorem en_addReg (args : Array Value) (w : World) : (callFunc 53 args).run Tryz.prog w = .ok (.enter 53 args) w := by go_simp
def addRegS : Spec Tryz.prog 53 :=
  mk1 _ _ _ Tryz.func53 rfl en_addReg (tAgg insR) ((fun x => x.op = 25 ∧ liveA x)) ((fun x => .ret (aliasO (some ((⟨#[99, 109, 112]⟩ : ByteArray), [nO x, mO x]))))) (by rw [Tryz.ntmps53]; decide) (fun x h => addReg_sw x h.1 h.2)
theorem addReg_run {id : Nat} {h : Heap} {args : List AV} : (addRegS).run id h args = runP (args1 (tAgg insR) ((fun x => x.op = 25 ∧ liveA x))) ((fun x => .ret (aliasO (some ((⟨#[99, 109, 112]⟩ : ByteArray), [nO x, mO x]))))) h args := rfl
theorem addReg_pan {id : Nat} {h : Heap} {args : List AV} : (addRegS).pan id h args = panP (args1 (tAgg insR) ((fun x => x.op = 25 ∧ liveA x))) ((fun x => .ret (aliasO (some ((⟨#[99, 109, 112]⟩ : ByteArray), [nO x, mO x]))))) h args := rfl
def aliasV (x : Ins) : Option LineV := if x.op = 3 then logAF x else if x.op = 4 then movAF x else if x.op = 24 then some ((⟨#[109, 111, 118]⟩ : ByteArray), [dO x, mO x]) else some ((⟨#[99, 109, 112]⟩ : ByteArray), [nO x, mO x])
def alQ (x : Ins) : Prop := x.op = 3 ∨ (x.op = 4 ∧ 0 ≤ x.c ∧ x.c ≤ 3) ∨ (x.op = 24 ∧ liveR x) ∨ (x.op = 25 ∧ liveA x)
set_option maxHeartbeats 4000000 in
theorem alias_sw (x : Ins) (h : alQ x) : SW Tryz.prog ⟨none, 0⟩ Tryz.f26.ntmps (Tryz.f26.body.getD .skip) ⟨0, zipT 0 [(tAgg insR).enc x], []⟩ (outQ Tryz.prog Tryz.f26.results.toList (.ret (aliasO (aliasV x)))) := by
  refine aRun_sound (ctx := [⟨_, logImmS⟩, ⟨_, movWideS⟩, ⟨_, logRegS⟩, ⟨_, addRegS⟩]) 4000 ?_
  rw [Tryz.ntmps26, Tryz.results26]
  simp only [Tryz.f26, Option.getD_some, zipT]
  rcases h with h | ⟨h, hc1, hc2⟩ | ⟨h, hq⟩ | ⟨h, hq⟩
  · have e : aliasV x = logAF x := by unfold aliasV; rw [if_pos h]
    have hx : logAF x = logAF ⟨3, x.x, x.s, x.rd, x.rn, x.rm, x.ra, x.a, x.b, x.c⟩ := by rw [← h]
    rw [e, hx]
    cases hl : logAF ⟨3, x.x, x.s, x.rd, x.rn, x.rm, x.ra, x.a, x.b, x.c⟩ <;> simp only [go_sem, Nat.reduceOr, Nat.reducePow, Nat.reduceDiv, Nat.reduceMod, Nat.reduceBEq, Int.reduceBEq, Int.reduceBNe, Int.reduceEq, Int.reduceLT, Int.reduceLE, Int.reduceToNat, reduceIte, reduceCtorEq, Nat.reduceEqDiff, Nat.reduceAdd, Nat.reduceLT, Nat.reduceLeDiff, Nat.reduceMul, Nat.reduceSub, insR, h, logImm_run, logImm_pan, hl, aliasO]
  · have e : aliasV x = movAF x := by unfold aliasV; rw [if_neg (by omega), if_pos h]
    have hx : movAF x = movAF ⟨4, x.x, x.s, x.rd, x.rn, x.rm, x.ra, x.a, x.b, x.c⟩ := by rw [← h]
    rw [e, hx]
    cases hl : movAF ⟨4, x.x, x.s, x.rd, x.rn, x.rm, x.ra, x.a, x.b, x.c⟩ <;> simp only [go_sem, Nat.reduceOr, Nat.reducePow, Nat.reduceDiv, Nat.reduceMod, Nat.reduceBEq, Int.reduceBEq, Int.reduceBNe, Int.reduceEq, Int.reduceLT, Int.reduceLE, Int.reduceToNat, reduceIte, reduceCtorEq, Nat.reduceEqDiff, Nat.reduceAdd, Nat.reduceLT, Nat.reduceLeDiff, Nat.reduceMul, Nat.reduceSub, insR, h, movWide_run, movWide_pan, hc1, hc2, hl, aliasO]
  · have e : aliasV x = some ((⟨#[109, 111, 118]⟩ : ByteArray), [dO x, mO x]) := by unfold aliasV; rw [if_neg (by omega), if_neg (by omega), if_pos h]
    have hq' : liveR ⟨24, x.x, x.s, x.rd, x.rn, x.rm, x.ra, x.a, x.b, x.c⟩ := hq
    rw [e]
    simp only [go_sem, Nat.reduceOr, Nat.reducePow, Nat.reduceDiv, Nat.reduceMod, Nat.reduceBEq, Int.reduceBEq, Int.reduceBNe, Int.reduceEq, Int.reduceLT, Int.reduceLE, Int.reduceToNat, reduceIte, reduceCtorEq, Nat.reduceEqDiff, Nat.reduceAdd, Nat.reduceLT, Nat.reduceLeDiff, Nat.reduceMul, Nat.reduceSub, insR, h, logReg_run, logReg_pan, hq', aliasO]
    rfl
  · have e : aliasV x = some ((⟨#[99, 109, 112]⟩ : ByteArray), [nO x, mO x]) := by unfold aliasV; rw [if_neg (by omega), if_neg (by omega), if_neg (by omega)]
    have hq' : liveA ⟨25, x.x, x.s, x.rd, x.rn, x.rm, x.ra, x.a, x.b, x.c⟩ := hq
    rw [e]
    simp only [go_sem, Nat.reduceOr, Nat.reducePow, Nat.reduceDiv, Nat.reduceMod, Nat.reduceBEq, Int.reduceBEq, Int.reduceBNe, Int.reduceEq, Int.reduceLT, Int.reduceLE, Int.reduceToNat, reduceIte, reduceCtorEq, Nat.reduceEqDiff, Nat.reduceAdd, Nat.reduceLT, Nat.reduceLeDiff, Nat.reduceMul, Nat.reduceSub, insR, h, addReg_run, addReg_pan, hq', aliasO]
    rfl
theorem en_alias (args : Array Value) (w : World) : (callFunc 26 args).run Tryz.prog w = .ok (.enter 26 args) w := by go_simp
def aliasS : Spec Tryz.prog 26 :=
  mk1 _ _ _ Tryz.func26 rfl en_alias (tAgg insR) (alQ) ((fun x => .ret (aliasO (aliasV x)))) (by rw [Tryz.ntmps26]; decide) (fun x h => alias_sw x h)
theorem alias_run {id : Nat} {h : Heap} {args : List AV} : (aliasS).run id h args = runP (args1 (tAgg insR) (alQ)) ((fun x => .ret (aliasO (aliasV x)))) h args := rfl
theorem alias_pan {id : Nat} {h : Heap} {args : List AV} : (aliasS).pan id h args = panP (args1 (tAgg insR) (alQ)) ((fun x => .ret (aliasO (aliasV x)))) h args := rfl

end Go.Proofs.YtpjlafmhoifkmaaGreat
