/- Instructions as lines: sums. Instructions as lines: the conditions' names; lines of no steps. -/
import Derived.Test.YtpjlafmhoifkmaaGreatR3
import Derived.Test.YtpjlafmhoifkmaaGreatKa
set_option linter.unusedVariables false
set_option linter.unusedSimpArgs false
namespace Go.Proofs.YtpjlafmhoifkmaaGreat
open Go.RowKit
set_option maxRecDepth 100000

def steps3 : StTab where
  at_ := fun g => if g = 113 then some stpMv else if g = 114 then some stpEx else if g = 118 then some stpSy else stepsT.at_ g
  ok := by
    intro g st h
    split at h
    · injection h with h; subst h; rename_i e; rw [e]; rfl
    · split at h
      · injection h with h; subst h; rename_i e; rw [e]; rfl
      · split at h
        · injection h with h; subst h; rename_i e; rw [e]; rfl
        · exact stepsT.ok h
theorem at3_Mv : steps3.at_ 113 = some stpMv := rfl
theorem at3_Ex : steps3.at_ 114 = some stpEx := rfl
theorem at3_Sy : steps3.at_ 118 = some stpSy := rfl
theorem at3_D : steps3.at_ 49 = some stpD := rfl
theorem at3_N : steps3.at_ 50 = some stpN := rfl
theorem at3_M : steps3.at_ 56 = some stpM := rfl
theorem at3_Ds : steps3.at_ 107 = some stpDs := rfl
theorem at3_Ns : steps3.at_ 104 = some stpNs := rfl
theorem at3_Xd : steps3.at_ 120 = some stpXd := rfl
theorem at3_Num : steps3.at_ 51 = some stpNum := rfl
theorem movedL3 (x : Ins) (a b c : OpV) : ∃ M, movedL x [a, b, c] = [a, b, M] := by
  unfold movedL
  split
  · exact ⟨c, rfl⟩
  · exact ⟨_, rfl⟩
theorem flagN_b (q : Bool) : 0 ≤ flagN q ∧ flagN q ≤ 1 := by cases q <;> decide
set_option maxHeartbeats 4000000 in
theorem sum24 (x : Ins) (h : x.op = 24) (hb : 0 ≤ x.b ∧ x.b ≤ 3) (hc : 0 ≤ x.c ∧ x.c ≤ 7) : SW Tryz.prog ⟨none, 0⟩ Tryz.f63.ntmps (Tryz.f63.body.getD .skip) ⟨0, zipT 0 [(tAgg insR).enc x], []⟩ (outQ Tryz.prog Tryz.f63.results.toList (.ret (lineV (sumsF x)))) := by
  rw [Tryz.ntmps63, Tryz.results63]
  simp only [Tryz.f63, Option.getD_some, zipT]
  refine sw_seq (aRun_sound (ctx := []) 4000 ?_)
  simp only [go_sem, thenQ, insR]
  refine sw_seq (aRun_sound (ctx := []) 4000 ?_)
  simp only [go_sem, thenQ]
  refine SW.wk (s' := wr3 x) ?_ ((Wk.nilC 64 11 40 15 (k := ⟨true, 68, 12, [insE x ++ [.v (.string emp), .v (.slice none 0 0)]]⟩) rfl rfl rfl).trans (Wk.renL [0, 16, 64, 96] (by simp) (by simp [wr3]) (by decide) rfl rfl))
  refine aRun_sound (ctx := [⟨_, flagAS⟩, ⟨_, pickS⟩]) 4000 ?_
  obtain ⟨S, hS⟩ : ∃ S, pickF (flagN x.s) [⟨#[]⟩, (⟨#[115]⟩ : ByteArray)] = S := ⟨_, rfl⟩
  have lS : S.size ≤ 1 := by rw [← hS]; exact pickF_le (by decide)
  have hS2 : sS x = S := hS
  obtain ⟨P, hP⟩ : ∃ P, pickF (2 * x.b + flagN x.s) [(⟨#[97, 110, 100]⟩ : ByteArray), (⟨#[98, 105, 99]⟩ : ByteArray), (⟨#[111, 114, 114]⟩ : ByteArray), (⟨#[111, 114, 110]⟩ : ByteArray), (⟨#[101, 111, 114]⟩ : ByteArray), (⟨#[101, 111, 110]⟩ : ByteArray), (⟨#[97, 110, 100, 115]⟩ : ByteArray), (⟨#[98, 105, 99, 115]⟩ : ByteArray)] = P := ⟨_, rfl⟩
  obtain ⟨M, hM⟩ := movedL3 x (dO x) (nO x) (mO x)
  have e : sumsF x = (P, [dO x, nO x, M]) := by unfold sumsF; rw [if_pos h, hP, hM]
  have fb := flagN_b x.s
  have e1 : IntKind.i64.wrap (2 * x.b) = 2 * x.b := by rw [IntKind.wrap_i64]; omega
  have e2 : IntKind.i64.wrap (2 * x.b + flagN x.s) = 2 * x.b + flagN x.s := by rw [IntKind.wrap_i64]; omega
  have b24 : (x.op == 24) = true := by rw [h]; decide
  simp only [go_sem, wr3, insE, wrK, opsK, boxL, flagA_run, flagA_pan, pick_run, pick_pan, runR, panR, decPk, decWordL, decAll, outPk, gOf, hS, b24, fn_zero, fn_sz]
  refine sw_drawF (ctx := [⟨_, flagAS⟩, ⟨_, pickS⟩, ⟨_, lineS steps3⟩]) mixed ⟨[19, 20], [(9, [292])], [(0, [292]), (10, [292]), (11, [292]), (12, [292]), (13, [292]), (14, [292]), (15, [292]), (16, [292]), (17, [292]), (18, [292])]⟩ (by kernel_rfl) ?_
  simp only [go_sem, flagA_run, flagA_pan, e1, e2, hP, e, hM, hc.1, hc.2, insE, wrK, opsK, boxL, fn_zero, fn_sz, pick_run, pick_pan, runR, panR, decPk, decWordL, decAll, outPk, line_run, line_pan, runQ, decLn, decWr, decWrL, decOps_map, decStep, outLn, gOf, opL_ren1, mapT_opL, lineV, lineQ, stepsQ, stepsF, at3_D, at3_N, at3_M, at3_Mv, stpD, stpN, stpM, stpMv]
set_option maxHeartbeats 4000000 in
theorem sum25 (x : Ins) (h : x.op = 25) (hc : 0 ≤ x.c ∧ x.c ≤ 7) : SW Tryz.prog ⟨none, 0⟩ Tryz.f63.ntmps (Tryz.f63.body.getD .skip) ⟨0, zipT 0 [(tAgg insR).enc x], []⟩ (outQ Tryz.prog Tryz.f63.results.toList (.ret (lineV (sumsF x)))) := by
  rw [Tryz.ntmps63, Tryz.results63]
  simp only [Tryz.f63, Option.getD_some, zipT]
  refine sw_seq (aRun_sound (ctx := []) 4000 ?_)
  simp only [go_sem, thenQ, insR]
  refine sw_seq (aRun_sound (ctx := []) 4000 ?_)
  simp only [go_sem, thenQ]
  refine SW.wk (s' := wr3 x) ?_ ((Wk.nilC 64 11 40 15 (k := ⟨true, 68, 12, [insE x ++ [.v (.string emp), .v (.slice none 0 0)]]⟩) rfl rfl rfl).trans (Wk.renL [0, 16, 64, 96] (by simp) (by simp [wr3]) (by decide) rfl rfl))
  refine aRun_sound (ctx := [⟨_, flagAS⟩, ⟨_, pickS⟩, ⟨_, lineS steps3⟩]) 4000 ?_
  obtain ⟨S, hS⟩ : ∃ S, pickF (flagN x.s) [⟨#[]⟩, (⟨#[115]⟩ : ByteArray)] = S := ⟨_, rfl⟩
  have lS : S.size ≤ 1 := by rw [← hS]; exact pickF_le (by decide)
  have hS2 : sS x = S := hS
  obtain ⟨P, hP⟩ : ∃ P, pickF x.b [(⟨#[97, 100, 100]⟩ : ByteArray), (⟨#[115, 117, 98]⟩ : ByteArray)] = P := ⟨_, rfl⟩
  have lP : P.size ≤ 3 := by rw [← hP]; exact pickF_le (by decide)
  have m1 : P.size + S.size ≤ maxLen := by unfold maxLen; omega
  obtain ⟨M, hM⟩ := movedL3 x (dO x) (nO x) (mO x)
  have e : sumsF x = (P ++ S, [dO x, nO x, M]) := by unfold sumsF; rw [if_neg (by omega), if_pos h, hP, hM, hS2]
  have b24 : (x.op == 24) = false := by rw [h]; decide
  have b25 : (x.op == 25) = true := by rw [h]; decide
  simp only [go_sem, b24, b25, flagA_run, flagA_pan, hS, hP, e, hM, m1, hc.1, hc.2, wr3, insE, wrK, opsK, boxL, fn_zero, fn_sz, pick_run, pick_pan, runR, panR, decPk, decWordL, decAll, outPk, line_run, line_pan, runQ, decLn, decWr, decWrL, decOps_map, decStep, outLn, gOf, opL_ren1, mapT_opL, lineV, lineQ, stepsQ, stepsF, at3_D, stpD, at3_N, stpN, at3_M, stpM, at3_Mv, stpMv]
  all_goals rfl
set_option maxHeartbeats 4000000 in
theorem sum26a (x : Ins) (h : x.op = 26) (hs : x.s = true) (hc : 0 ≤ x.c ∧ x.c ≤ 7) : SW Tryz.prog ⟨none, 0⟩ Tryz.f63.ntmps (Tryz.f63.body.getD .skip) ⟨0, zipT 0 [(tAgg insR).enc x], []⟩ (outQ Tryz.prog Tryz.f63.results.toList (.ret (lineV (sumsF x)))) := by
  rw [Tryz.ntmps63, Tryz.results63]
  simp only [Tryz.f63, Option.getD_some, zipT]
  refine sw_seq (aRun_sound (ctx := []) 4000 ?_)
  simp only [go_sem, thenQ, insR]
  refine sw_seq (aRun_sound (ctx := []) 4000 ?_)
  simp only [go_sem, thenQ]
  refine SW.wk (s' := wr3 x) ?_ ((Wk.nilC 64 11 40 15 (k := ⟨true, 68, 12, [insE x ++ [.v (.string emp), .v (.slice none 0 0)]]⟩) rfl rfl rfl).trans (Wk.renL [0, 16, 64, 96] (by simp) (by simp [wr3]) (by decide) rfl rfl))
  refine aRun_sound (ctx := [⟨_, flagAS⟩, ⟨_, pickS⟩, ⟨_, lineS steps3⟩]) 4000 ?_
  obtain ⟨S, hS⟩ : ∃ S, pickF (flagN x.s) [⟨#[]⟩, (⟨#[115]⟩ : ByteArray)] = S := ⟨_, rfl⟩
  have lS : S.size ≤ 1 := by rw [← hS]; exact pickF_le (by decide)
  have hS2 : sS x = S := hS
  obtain ⟨P, hP⟩ : ∃ P, pickF x.b [(⟨#[97, 100, 100]⟩ : ByteArray), (⟨#[115, 117, 98]⟩ : ByteArray)] = P := ⟨_, rfl⟩
  have lP : P.size ≤ 3 := by rw [← hP]; exact pickF_le (by decide)
  have m1 : P.size + S.size ≤ maxLen := by unfold maxLen; omega
  have e : sumsF x = (P ++ S, [dO x, nsO x, extO x]) := by unfold sumsF; rw [if_neg (by omega), if_neg (by omega), if_pos h, hP, hS2, if_pos hs]
  rw [hs] at hS
  have b24 : (x.op == 24) = false := by rw [h]; decide
  have b25 : (x.op == 25) = false := by rw [h]; decide
  have b26 : (x.op == 26) = true := by rw [h]; decide
  simp only [go_sem, b24, b25, b26, flagA_run, flagA_pan, hS, hP, e, hs, m1, hc.1, hc.2, wr3, insE, wrK, opsK, boxL, fn_zero, fn_sz, pick_run, pick_pan, runR, panR, decPk, decWordL, decAll, outPk, line_run, line_pan, runQ, decLn, decWr, decWrL, decOps_map, decStep, outLn, gOf, opL_ren1, mapT_opL, lineV, lineQ, stepsQ, stepsF, at3_D, stpD, at3_Ns, stpNs, at3_Ex, stpEx]
  all_goals rfl
set_option maxHeartbeats 4000000 in
theorem sum26b (x : Ins) (h : x.op = 26) (hs : x.s = false) (hc : 0 ≤ x.c ∧ x.c ≤ 7) : SW Tryz.prog ⟨none, 0⟩ Tryz.f63.ntmps (Tryz.f63.body.getD .skip) ⟨0, zipT 0 [(tAgg insR).enc x], []⟩ (outQ Tryz.prog Tryz.f63.results.toList (.ret (lineV (sumsF x)))) := by
  rw [Tryz.ntmps63, Tryz.results63]
  simp only [Tryz.f63, Option.getD_some, zipT]
  refine sw_seq (aRun_sound (ctx := []) 4000 ?_)
  simp only [go_sem, thenQ, insR]
  refine sw_seq (aRun_sound (ctx := []) 4000 ?_)
  simp only [go_sem, thenQ]
  refine SW.wk (s' := wr3 x) ?_ ((Wk.nilC 64 11 40 15 (k := ⟨true, 68, 12, [insE x ++ [.v (.string emp), .v (.slice none 0 0)]]⟩) rfl rfl rfl).trans (Wk.renL [0, 16, 64, 96] (by simp) (by simp [wr3]) (by decide) rfl rfl))
  refine aRun_sound (ctx := [⟨_, flagAS⟩, ⟨_, pickS⟩, ⟨_, lineS steps3⟩]) 4000 ?_
  obtain ⟨S, hS⟩ : ∃ S, pickF (flagN x.s) [⟨#[]⟩, (⟨#[115]⟩ : ByteArray)] = S := ⟨_, rfl⟩
  have lS : S.size ≤ 1 := by rw [← hS]; exact pickF_le (by decide)
  have hS2 : sS x = S := hS
  obtain ⟨P, hP⟩ : ∃ P, pickF x.b [(⟨#[97, 100, 100]⟩ : ByteArray), (⟨#[115, 117, 98]⟩ : ByteArray)] = P := ⟨_, rfl⟩
  have lP : P.size ≤ 3 := by rw [← hP]; exact pickF_le (by decide)
  have m1 : P.size + S.size ≤ maxLen := by unfold maxLen; omega
  have e : sumsF x = (P ++ S, [dsO x, nsO x, extO x]) := by unfold sumsF; rw [if_neg (by omega), if_neg (by omega), if_pos h, hP, hS2, hs]; rfl
  rw [hs] at hS
  have b24 : (x.op == 24) = false := by rw [h]; decide
  have b25 : (x.op == 25) = false := by rw [h]; decide
  have b26 : (x.op == 26) = true := by rw [h]; decide
  simp only [go_sem, b24, b25, b26, flagA_run, flagA_pan, hS, hP, e, hs, m1, hc.1, hc.2, wr3, insE, wrK, opsK, boxL, fn_zero, fn_sz, pick_run, pick_pan, runR, panR, decPk, decWordL, decAll, outPk, line_run, line_pan, runQ, decLn, decWr, decWrL, decOps_map, decStep, outLn, gOf, opL_ren1, mapT_opL, lineV, lineQ, stepsQ, stepsF, at3_Ds, stpDs, at3_Ns, stpNs, at3_Ex, stpEx]
  all_goals rfl
set_option maxHeartbeats 4000000 in
theorem sum27 (x : Ins) (h : x.op = 27) : SW Tryz.prog ⟨none, 0⟩ Tryz.f63.ntmps (Tryz.f63.body.getD .skip) ⟨0, zipT 0 [(tAgg insR).enc x], []⟩ (outQ Tryz.prog Tryz.f63.results.toList (.ret (lineV (sumsF x)))) := by
  rw [Tryz.ntmps63, Tryz.results63]
  simp only [Tryz.f63, Option.getD_some, zipT]
  refine sw_seq (aRun_sound (ctx := []) 4000 ?_)
  simp only [go_sem, thenQ, insR]
  refine sw_seq (aRun_sound (ctx := []) 4000 ?_)
  simp only [go_sem, thenQ]
  refine SW.wk (s' := wr3 x) ?_ ((Wk.nilC 64 11 40 15 (k := ⟨true, 68, 12, [insE x ++ [.v (.string emp), .v (.slice none 0 0)]]⟩) rfl rfl rfl).trans (Wk.renL [0, 16, 64, 96] (by simp) (by simp [wr3]) (by decide) rfl rfl))
  refine aRun_sound (ctx := [⟨_, flagAS⟩, ⟨_, pickS⟩, ⟨_, lineS steps3⟩]) 4000 ?_
  obtain ⟨S, hS⟩ : ∃ S, pickF (flagN x.s) [⟨#[]⟩, (⟨#[115]⟩ : ByteArray)] = S := ⟨_, rfl⟩
  have lS : S.size ≤ 1 := by rw [← hS]; exact pickF_le (by decide)
  have hS2 : sS x = S := hS
  obtain ⟨P, hP⟩ : ∃ P, pickF x.b [(⟨#[97, 100, 99]⟩ : ByteArray), (⟨#[115, 98, 99]⟩ : ByteArray)] = P := ⟨_, rfl⟩
  have lP : P.size ≤ 3 := by rw [← hP]; exact pickF_le (by decide)
  have m1 : P.size + S.size ≤ maxLen := by unfold maxLen; omega
  have e : sumsF x = (P ++ S, [dO x, nO x, mO x]) := by unfold sumsF; rw [if_neg (by omega), if_neg (by omega), if_neg (by omega), if_pos h, hP, hS2]
  have b24 : (x.op == 24) = false := by rw [h]; decide
  have b25 : (x.op == 25) = false := by rw [h]; decide
  have b26 : (x.op == 26) = false := by rw [h]; decide
  have b27 : (x.op == 27) = true := by rw [h]; decide
  simp only [go_sem, b24, b25, b26, b27, flagA_run, flagA_pan, hS, hP, e, m1, wr3, insE, wrK, opsK, boxL, fn_zero, fn_sz, pick_run, pick_pan, runR, panR, decPk, decWordL, decAll, outPk, line_run, line_pan, runQ, decLn, decWr, decWrL, decOps_map, decStep, outLn, gOf, opL_ren1, mapT_opL, lineV, lineQ, stepsQ, stepsF, at3_D, stpD, at3_N, stpN, at3_M, stpM]
  all_goals rfl
set_option maxHeartbeats 8000000 in
theorem sum28a (x : Ins) (h : x.op = 28) (hs : x.s = true) : SW Tryz.prog ⟨none, 0⟩ Tryz.f63.ntmps (Tryz.f63.body.getD .skip) ⟨0, zipT 0 [(tAgg insR).enc x], []⟩ (outQ Tryz.prog Tryz.f63.results.toList (.ret (lineV (sumsF x)))) := by
  rw [Tryz.ntmps63, Tryz.results63]
  simp only [Tryz.f63, Option.getD_some, zipT]
  refine sw_seq (aRun_sound (ctx := []) 4000 ?_)
  simp only [go_sem, thenQ, insR]
  refine sw_seq (aRun_sound (ctx := []) 4000 ?_)
  simp only [go_sem, thenQ]
  refine SW.wk (s' := wr3 x) ?_ ((Wk.nilC 64 11 40 15 (k := ⟨true, 68, 12, [insE x ++ [.v (.string emp), .v (.slice none 0 0)]]⟩) rfl rfl rfl).trans (Wk.renL [0, 16, 64, 96] (by simp) (by simp [wr3]) (by decide) rfl rfl))
  refine aRun_sound (ctx := [⟨_, flagAS⟩, ⟨_, pickS⟩, ⟨_, lineS steps3⟩, ⟨_, numS⟩, ⟨_, ofS⟩, ⟨_, putS⟩, ⟨_, stMS⟩]) 4000 ?_
  obtain ⟨S, hS⟩ : ∃ S, pickF (flagN x.s) [⟨#[]⟩, (⟨#[115]⟩ : ByteArray)] = S := ⟨_, rfl⟩
  have lS : S.size ≤ 1 := by rw [← hS]; exact pickF_le (by decide)
  have hS2 : sS x = S := hS
  obtain ⟨P, hP⟩ : ∃ P, pickF x.b [(⟨#[99, 99, 109, 110]⟩ : ByteArray), (⟨#[99, 99, 109, 112]⟩ : ByteArray)] = P := ⟨_, rfl⟩
  have e : sumsF x = (P, [nO x, oNum x.rm, oNum x.a, oOf 4 x.c]) := by unfold sumsF; rw [if_neg (by omega), if_neg (by omega), if_neg (by omega), if_neg (by omega), hP, hs]; rfl
  have b24 : (x.op == 24) = false := by rw [h]; decide
  have b25 : (x.op == 25) = false := by rw [h]; decide
  have b26 : (x.op == 26) = false := by rw [h]; decide
  have b27 : (x.op == 27) = false := by rw [h]; decide
  simp only [go_sem, b24, b25, b26, b27, flagA_run, flagA_pan, hS, hP, e, hs, wr3, insE, wrK, opsK, boxL, fn_zero, fn_sz, pick_run, pick_pan, runR, panR, decPk, decWordL, decAll, outPk, line_run, line_pan, runQ, decLn, decWr, decWrL, decOps_map, decStep, outLn, gOf, opL_ren1, mapT_opL, lineV, lineQ, stepsQ, stepsF, at3_N, stpN, num_run, num_pan, of_run, of_pan, put_run, put_pan, stM_run, stM_pan, decW, xwT, xw0, outWr, opV, oNum, oOf, nO, mO, oReg, op0, r0, opR, opE, emp, opL, ofDs, ofD, decOpL]
  all_goals rfl
set_option maxHeartbeats 8000000 in
theorem sum28b (x : Ins) (h : x.op = 28) (hs : x.s = false) : SW Tryz.prog ⟨none, 0⟩ Tryz.f63.ntmps (Tryz.f63.body.getD .skip) ⟨0, zipT 0 [(tAgg insR).enc x], []⟩ (outQ Tryz.prog Tryz.f63.results.toList (.ret (lineV (sumsF x)))) := by
  rw [Tryz.ntmps63, Tryz.results63]
  simp only [Tryz.f63, Option.getD_some, zipT]
  refine sw_seq (aRun_sound (ctx := []) 4000 ?_)
  simp only [go_sem, thenQ, insR]
  refine sw_seq (aRun_sound (ctx := []) 4000 ?_)
  simp only [go_sem, thenQ]
  refine SW.wk (s' := wr3 x) ?_ ((Wk.nilC 64 11 40 15 (k := ⟨true, 68, 12, [insE x ++ [.v (.string emp), .v (.slice none 0 0)]]⟩) rfl rfl rfl).trans (Wk.renL [0, 16, 64, 96] (by simp) (by simp [wr3]) (by decide) rfl rfl))
  refine aRun_sound (ctx := [⟨_, flagAS⟩, ⟨_, pickS⟩, ⟨_, lineS steps3⟩, ⟨_, numS⟩, ⟨_, ofS⟩, ⟨_, putS⟩, ⟨_, stMS⟩]) 4000 ?_
  obtain ⟨S, hS⟩ : ∃ S, pickF (flagN x.s) [⟨#[]⟩, (⟨#[115]⟩ : ByteArray)] = S := ⟨_, rfl⟩
  have lS : S.size ≤ 1 := by rw [← hS]; exact pickF_le (by decide)
  have hS2 : sS x = S := hS
  obtain ⟨P, hP⟩ : ∃ P, pickF x.b [(⟨#[99, 99, 109, 110]⟩ : ByteArray), (⟨#[99, 99, 109, 112]⟩ : ByteArray)] = P := ⟨_, rfl⟩
  have e : sumsF x = (P, [nO x, mO x, oNum x.a, oOf 4 x.c]) := by unfold sumsF; rw [if_neg (by omega), if_neg (by omega), if_neg (by omega), if_neg (by omega), hP, hs]; rfl
  have b24 : (x.op == 24) = false := by rw [h]; decide
  have b25 : (x.op == 25) = false := by rw [h]; decide
  have b26 : (x.op == 26) = false := by rw [h]; decide
  have b27 : (x.op == 27) = false := by rw [h]; decide
  simp only [go_sem, b24, b25, b26, b27, flagA_run, flagA_pan, hS, hP, e, hs, wr3, insE, wrK, opsK, boxL, fn_zero, fn_sz, pick_run, pick_pan, runR, panR, decPk, decWordL, decAll, outPk, line_run, line_pan, runQ, decLn, decWr, decWrL, decOps_map, decStep, outLn, gOf, opL_ren1, mapT_opL, lineV, lineQ, stepsQ, stepsF, at3_N, stpN, num_run, num_pan, of_run, of_pan, put_run, put_pan, stM_run, stM_pan, decW, xwT, xw0, outWr, opV, oNum, oOf, nO, mO, oReg, op0, r0, opR, opE, emp, opL, ofDs, ofD, decOpL]
  all_goals rfl
def sumQ (x : Ins) : Prop := 24 ≤ x.op ∧ x.op ≤ 28 ∧ (x.op = 24 → 0 ≤ x.b ∧ x.b ≤ 3) ∧ (x.op ≤ 26 → 0 ≤ x.c ∧ x.c ≤ 7)
theorem sums_sw (x : Ins) (hq : sumQ x) : SW Tryz.prog ⟨none, 0⟩ Tryz.f63.ntmps (Tryz.f63.body.getD .skip) ⟨0, zipT 0 [(tAgg insR).enc x], []⟩ (outQ Tryz.prog Tryz.f63.results.toList (.ret (lineV (sumsF x)))) := by
  obtain ⟨h1, h2, h3, h4⟩ := hq
  have : x.op = 24 ∨ x.op = 25 ∨ x.op = 26 ∨ x.op = 27 ∨ x.op = 28 := by omega
  rcases this with h | h | h | h | h
  · exact sum24 x h (h3 h) (h4 (by omega))
  · exact sum25 x h (h4 (by omega))
  · cases hs : x.s
    · exact sum26b x h hs (h4 (by omega))
    · exact sum26a x h hs (h4 (by omega))
  · exact sum27 x h
  · cases hs : x.s
    · exact sum28b x h hs
    · exact sum28a x h hs
theorem en_sums (args : Array Value) (w : World) : (callFunc 63 args).run Tryz.prog w = .ok (.enter 63 args) w := by go_simp
def sumsS : Spec Tryz.prog 63 :=
  mk1 _ _ _ Tryz.func63 rfl en_sums (tAgg insR) (sumQ) ((fun x => .ret (lineV (sumsF x)))) (by rw [Tryz.ntmps63]; decide) (fun x h => sums_sw x h)
theorem sums_run {id : Nat} {h : Heap} {args : List AV} : (sumsS).run id h args = runP (args1 (tAgg insR) (sumQ)) ((fun x => .ret (lineV (sumsF x)))) h args := rfl
theorem sums_pan {id : Nat} {h : Heap} {args : List AV} : (sumsS).pan id h args = panP (args1 (tAgg insR) (sumQ)) ((fun x => .ret (lineV (sumsF x)))) h args := rfl

end Go.Proofs.YtpjlafmhoifkmaaGreat

namespace Go.Proofs.YtpjlafmhoifkmaaGreat
open Go.RowKit
set_option maxRecDepth 100000

def namedR : RowTy (ByteArray × Int) where
  dec := fun | [.v (.string s), .v (.int .i64 n)] => some (s, n) | _ => none
  enc := fun r => [.v (.string r.1), .v (.int .i64 r.2)]
  inv := by
    intro c x h
    split at h
    · injection h with h; subst h; rfl
    · cases h
  back := by intro x; rfl
abbrev tblV (l : List (ByteArray × Int)) : AV := .s (.l (.d (.sd 2 (l.map namedR.enc))))
set_option maxHeartbeats 4000000 in
theorem conds_sw : SW Tryz.prog ⟨none, 0⟩ Tryz.f182.ntmps (Tryz.f182.body.getD .skip) ⟨0, [], []⟩ (outQ Tryz.prog Tryz.f182.results.toList (.ret (tblV condsL))) := by
  refine aRun_sound (ctx := []) 4000 ?_
  rw [Tryz.ntmps182, Tryz.results182]
  simp only [Tryz.f182, Option.getD_some, zipT]
  simp only [go_sem, true_or, or_true, or_false, false_or, condsL, namedR]
  rfl
theorem en_conds (args : Array Value) (w : World) : (callFunc 182 args).run Tryz.prog w = .ok (.enter 182 args) w := by go_simp
def condsS : Spec Tryz.prog 182 :=
  mk0 _ _ _ Tryz.func182 rfl en_conds  (True) ((.ret (tblV condsL))) (fun _ => conds_sw)
theorem conds_run {id : Nat} {h : Heap} {args : List AV} : (condsS).run id h args = runP (args0  (True)) (fun _ => (.ret (tblV condsL))) h args := rfl
theorem conds_pan {id : Nat} {h : Heap} {args : List AV} : (condsS).pan id h args = panP (args0  (True)) (fun _ => (.ret (tblV condsL))) h args := rfl
theorem en_table (args : Array Value) (w : World) : (callFunc 163 args).run Tryz.prog w = .ok (.enter 163 args) w := by go_simp
def tableS : Spec Tryz.prog 163 :=
  mk1 _ _ _ Tryz.func163 rfl en_table (tInt .i64) ((fun k => k = 2)) ((fun _ => .ret (tblV condsL))) (by rw [Tryz.ntmps163]; decide) (fun k h => by
  subst h
  refine aRun_sound (ctx := [⟨_, condsS⟩]) 4000 ?_
  rw [Tryz.ntmps163, Tryz.results163]
  simp only [Tryz.f163, Option.getD_some, zipT]
  simp only [go_sem, conds_run, conds_pan, true_or, or_true, or_false, false_or])
theorem table_run {id : Nat} {h : Heap} {args : List AV} : (tableS).run id h args = runP (args1 (tInt .i64) ((fun k => k = 2))) ((fun _ => .ret (tblV condsL))) h args := rfl
theorem table_pan {id : Nat} {h : Heap} {args : List AV} : (tableS).pan id h args = panP (args1 (tInt .i64) ((fun k => k = 2))) ((fun _ => .ret (tblV condsL))) h args := rfl

def nmI (n : Int) (i : Nat) : St := ⟨0, [(0, iv 2), (1, iv n), (22, tblV condsL), (23, iv 16), (24, iv i)], []⟩
theorem conds_len : condsL.length = 16 := rfl
set_option maxHeartbeats 4000000 in
theorem name_sw (n : Int) : SW Tryz.prog ⟨none, 0⟩ Tryz.f117.ntmps (Tryz.f117.body.getD .skip) ⟨0, zipT 0 [(tInt .i64).enc 2, (tInt .i64).enc n], []⟩ (outQ Tryz.prog Tryz.f117.results.toList (.ret (nameO (nameF 2 n)))) := by
  refine aRun_sound (ctx := [⟨_, tableS⟩]) 4000 ?_
  rw [Tryz.ntmps117, Tryz.results117]
  simp only [Tryz.f117, Option.getD_some, zipT]
  simp only [go_sem, table_run, table_pan, List.length_map, conds_len, condsL]
  refine sw_loop (ι := Nat) (fun i => i ≤ 16 ∧ ∀ (j : Nat) (r : ByteArray × Int), j < i → condsL[j]? = some r → ¬ r.2 = n) (nmI n) (fun i => 16 - i) 0 ⟨Nat.zero_le _, fun j r hj => absurd hj (Nat.not_lt_zero j)⟩ (Wk.renL [] (by simp) (by simp) (by simp) rfl rfl) ?_
  rintro i ⟨hi, hn⟩
  refine aRun_sound (ctx := []) 4000 ?_
  obtain ⟨l, hl⟩ : ∃ l, condsL = l := ⟨_, rfl⟩
  have hlen : l.length = 16 := by rw [← hl]; rfl
  unfold nmI
  rw [hl] at hn ⊢
  rcases Nat.lt_or_ge i 16 with hlt | hge
  · have hltI : (i : Int) < 16 := by omega
    obtain ⟨r, hr⟩ : ∃ r, l[i]? = some r := ⟨_, List.getElem?_eq_getElem (by omega)⟩
    have ei : IntKind.i64.wrap ((i : Int) + 1) = ((i + 1 : Nat) : Int) := by rw [IntKind.wrap_i64]; omega
    by_cases hrn : r.2 = n
    · have er : nameF 2 n = (r.1, 0) := by
        have := nameIn_at (by rw [← hl] at hn; exact hn) (by rw [← hl] at hr; exact hr) hrn
        unfold nameF tblF
        rw [if_neg (by decide), if_pos rfl, this]
      have hb : (r.2 == n) = true := by simpa using hrn
      simp only [go_sem, hltI, hr, namedR, hb, er, nameO, hlen, List.length_map, List.getElem?_map]
    · have hb : (r.2 == n) = false := by simpa using hrn
      simp only [go_sem, hltI, hr, namedR, hb, ei, hlen, List.length_map, List.getElem?_map]
      refine ⟨i + 1, ⟨hlt, fun j r' hj hr' => ?_⟩, by omega, Wk.renL [] (by simp) (by simp) (by simp) rfl rfl⟩
      by_cases e2 : j = i
      · subst e2
        rw [hr] at hr'
        injection hr' with hr'
        rw [← hr']
        exact hrn
      · exact hn j r' (by omega) hr'
  · obtain rfl : i = 16 := by omega
    have er : nameF 2 n = (emp, 30) := by
      have := nameIn_none (by rw [← hl, conds_len] at *; exact hn)
      unfold nameF tblF
      rw [if_neg (by decide), if_pos rfl, this]
      rfl
    simp only [go_sem, er, nameO, emp]
theorem en_name (args : Array Value) (w : World) : (callFunc 117 args).run Tryz.prog w = .ok (.enter 117 args) w := by go_simp
def nameS : Spec Tryz.prog 117 :=
  mk2 _ _ _ Tryz.func117 rfl en_name (tInt .i64) (tInt .i64) ((fun k _ => k = 2)) ((fun k n => .ret (nameO (nameF 2 n)))) (by rw [Tryz.ntmps117]; decide) (fun k n h => by
  subst h
  exact name_sw n)
theorem name_run {id : Nat} {h : Heap} {args : List AV} : (nameS).run id h args = runP (args2 (tInt .i64) (tInt .i64) ((fun k _ => k = 2))) (fun x => ((fun k n => .ret (nameO (nameF 2 n)))) x.1 x.2) h args := rfl
theorem name_pan {id : Nat} {h : Heap} {args : List AV} : (nameS).pan id h args = panP (args2 (tInt .i64) (tInt .i64) ((fun k _ => k = 2))) (fun x => ((fun k n => .ret (nameO (nameF 2 n)))) x.1 x.2) h args := rfl

/-! ### lines of no steps -/
section
variable {P : Program}
/-- two Specs of one function, told apart by the arguments -/
def orS {f : FuncId} (p : List AV → Bool) (a b : Spec P f) : Spec P f where
  enter := a.enter
  run := fun id h args => if p args then a.run id h args else b.run id h args
  pan := fun _ _ _ => none
  mono := by
    intro id h h' args R hs hr
    by_cases e : p args = true
    · rw [if_pos e] at hr ⊢; exact a.mono hs hr
    · rw [if_neg e] at hr ⊢; exact b.mono hs hr
  sound := by
    intro id h args R hr
    by_cases e : p args = true
    · rw [if_pos e] at hr; exact a.sound hr
    · rw [if_neg e] at hr; exact b.sound hr
  psound := by
    intro id h args ob y E hr
    cases hr
end
def isNil3 : List AV → Bool
  | [_, _, .s (.l (.v (.slice none 0 0)))] => true
  | _ => false
def decL0 (h : Heap) : List AV → Option (Prop × List Nat × (ByteArray × (Ins × ByteArray × List OpV)))
  | [A, .s (.l (.v (.string nm))), .s (.l (.v (.slice none 0 0)))] => match decWr h A with
    | some ([b, tb], x, nm0, l) => some (True, [b, tb], (nm, (x, nm0, l)))
    | _ => none
  | _ => none
theorem decL0_ok {h : Heap} {zs : List AV} {q : Prop} {bs : List Nat} {nm : ByteArray} {x : Ins} {nm0 : ByteArray} {l : List OpV} (hd : decL0 h zs = some (q, bs, nm, x, nm0, l)) :
    ∃ b tb, zs = [.s (.l (.p b 0 0)), sv nm, .s (.l (.v (.slice none 0 0)))] ∧ bs = [b, tb] ∧ b ≠ tb ∧ hget h b = some (wrK x nm0 l.length tb) ∧ hget h tb = some (opsK l) := by
  unfold decL0 at hd
  split at hd
  case h_2 => cases hd
  rename_i A nm'
  split at hd
  case h_2 => cases hd
  rename_i b tb x' nm0' l' hw
  simp only [Option.some.injEq, Prod.mk.injEq] at hd
  obtain ⟨rfl, rfl, rfl, rfl, rfl, rfl⟩ := hd
  obtain ⟨b2, tb2, rfl, e, hne, g1, g2⟩ := decWr_ok hw
  simp only [List.cons.injEq, and_true] at e
  obtain ⟨rfl, rfl⟩ := e
  exact ⟨b, tb, rfl, rfl, hne, g1, g2⟩
theorem decL0_mono {h h' : Heap} (hs : ∀ b k, hget h b = some k → hget h' b = some k) {zs : List AV} {r : Prop × List Nat × (ByteArray × (Ins × ByteArray × List OpV))} (hd : decL0 h zs = some r) : decL0 h' zs = some r := by
  unfold decL0 at hd ⊢
  split at hd
  case h_2 => cases hd
  split at hd
  case h_2 => cases hd
  rename_i hw
  simp only [decWr_mono hs hw]
  exact hd
def outL0 (y : ByteArray × (Ins × ByteArray × List OpV)) : RO :=
  .ret (.s (.agg [.v (.string y.1), .sl 1 0 y.2.2.2.length])) [some (wrK y.2.1 y.1 y.2.2.2.length 1)] [opsK y.2.2.2]
def line0S : Spec Tryz.prog 48 :=
  mkQ 1 2 (by decide) _ _ _ Tryz.func48 rfl en_line decL0 (fun y => [.s (.l (.p 0 0 0)), sv y.1, .s (.l (.v (.slice none 0 0)))]) (fun y => [wrK y.2.1 y.2.2.1 y.2.2.2.length 1, opsK y.2.2.2]) outL0 (by rw [Tryz.ntmps48]; decide) (fun hs hd => decL0_mono hs hd)
    (by
      intro h zs q' bs y hd hq
      obtain ⟨nm, x, nm0, l⟩ := y
      obtain ⟨b, tb, rfl, rfl, n1, h1, h2⟩ := decL0_ok hd
      refine ⟨by rw [Tryz.ntmps48]; show 3 ≤ 27; decide, rfl, rfl, by simp [n1], fun d => ⟨?_, ?_⟩⟩
      · intro j b' k hj hk
        match j, hj, hk with
        | 0, hj, hk =>
          simp at hj hk
          subst hj
          subst hk
          exact ⟨rfl, by rw [h1, wrK_ren]; rfl⟩
        | 1, hj, hk =>
          simp at hj hk
          subst hj
          subst hk
          exact ⟨rfl, by rw [h2, opsK_ren]⟩
      · intro ρ al vals hA
        match vals, hA with
        | [v, w, u], ⟨a, b, c, _⟩ => exact ⟨a, b, c, trivial⟩)
    (by
      intro h zs q' bs y hd hq
      obtain ⟨nm, x, nm0, l⟩ := y
      obtain ⟨b, tb, rfl, rfl, n1, h1, h2⟩ := decL0_ok hd
      refine SW.wk (line_sw [] x nm0 nm l trivial (by decide)) ?_
      refine (Wk.nil 2 1 1 rfl).trans (Wk.renL [0, 1, 2] (pin1 [1, 2]) (Nat.le_refl 3) (by decide) rfl ?_)
      simp [zipH, zipO, hget, Blk.ren, wrK, insE, opsK, opL, opE, ofDs, ofD, stepsK, LV.ren, Function.comp_def])
theorem line0_run {id : Nat} {h : Heap} {args : List AV} : line0S.run id h args = runQ 1 decL0 outL0 id h args := rfl
def lineZS (T : StTab) : Spec Tryz.prog 48 := orS isNil3 line0S (lineS T)
theorem lineZ_run {T : StTab} {id : Nat} {h : Heap} {args : List AV} : (lineZS T).run id h args = if isNil3 args then runQ 1 decL0 outL0 id h args else runQ 1 (decLn T) outLn id h args := rfl
theorem lineZ_pan {T : StTab} {id : Nat} {h : Heap} {args : List AV} : (lineZS T).pan id h args = none := rfl
theorem isNil3_no {A B : AV} {b i n : Nat} : isNil3 [A, B, .s (.l (.sl b i n))] = false := rfl
theorem isNil3_yes {A B : AV} : isNil3 [A, B, .s (.l (.v (.slice none 0 0)))] = true := rfl

end Go.Proofs.YtpjlafmhoifkmaaGreat
