/- Instructions as lines: branches. -/
import Derived.Test.YtpjlafmhoifkmaaGreatR8
set_option linter.unusedVariables false
set_option linter.unusedSimpArgs false
namespace Go.Proofs.YtpjlafmhoifkmaaGreat
open Go.RowKit
set_option maxRecDepth 100000

def farQ (x : Ins) : Prop := -1152921504606846976 ≤ x.a ∧ x.a ≤ 1152921504606846976
theorem nameIn_size {k : Nat} : ∀ {l : List (ByteArray × Int)}, (∀ r ∈ l, r.1.size ≤ k) → ∀ {n : Int} {s : ByteArray}, nameIn l n = some s → s.size ≤ k
  | [], _, _, _, h => by cases h
  | r :: l, hl, n, s, h => by
    unfold nameIn at h
    split at h
    · injection h with h
      rw [← h]
      exact hl r (List.mem_cons_self ..)
    · exact nameIn_size (fun r hr => hl r (List.mem_cons_of_mem _ hr)) h
theorem cond_size (n : Int) : (nameF 2 n).1.size ≤ 2 := by
  unfold nameF tblF
  rw [if_neg (by decide), if_pos rfl]
  split
  · rename_i s hs
    exact nameIn_size (k := 2) (by decide) hs
  · rw [if_neg (by omega)]
    exact Nat.zero_le _
set_option maxHeartbeats 4000000 in
theorem br7 (x : Ins) (h : x.op = 7) (ha : farQ x) : SW Tryz.prog ⟨none, 0⟩ Tryz.f60.ntmps (Tryz.f60.body.getD .skip) ⟨0, zipT 0 [(tAgg insR).enc x], []⟩ (outQ Tryz.prog Tryz.f60.results.toList (.ret (lineV (brF x)))) := by
  rw [Tryz.ntmps60, Tryz.results60]
  simp only [Tryz.f60, Option.getD_some, zipT]
  refine sw_seq (aRun_sound (ctx := []) 4000 ?_)
  simp only [go_sem, thenQ, insR]
  refine sw_seq (aRun_sound (ctx := []) 4000 ?_)
  simp only [go_sem, thenQ]
  refine SW.wk (s' := wr3 x) ?_ ((Wk.nilC 64 11 40 15 (k := ⟨true, 68, 12, [insE x ++ [.v (.string emp), .v (.slice none 0 0)]]⟩) rfl rfl rfl).trans (Wk.renL [0, 16, 64, 96] (by simp) (by simp [wr3]) (by decide) rfl rfl))
  refine aRun_sound (ctx := [⟨_, nameS⟩, ⟨_, lineS stepsT⟩]) 4000 ?_
  obtain ⟨C, hC⟩ : ∃ C, (nameF 2 x.b).1 = C := ⟨_, rfl⟩
  have lC : C.size ≤ 2 := by rw [← hC]; exact cond_size x.b
  have s2 : ((⟨#[98, 46]⟩ : ByteArray)).size = 2 := rfl
  have m1 : 2 + C.size ≤ maxLen := by unfold maxLen; omega
  have b7 : (x.op == 7) = true := by rw [h]; decide
  have e : brF x = ((⟨#[98, 46]⟩ : ByteArray) ++ C, [farO x]) := by unfold brF; rw [if_pos h, hC]
  obtain ⟨ha1, ha2⟩ := ha
  simp only [go_sem, b7, name_run, name_pan, nameO, hC, s2, m1, e, ha1, ha2, line_run, line_pan, wr3, insE, wrK, opsK, boxL, fn_zero, fn_sz, pick_run, pick_pan, runR, panR, decPk, decWordL, decAll, outPk, runQ, decLn, decWr, decWrL, decOps_map, decStep, outLn, gOf, opL_ren1, mapT_opL, lineV, lineQ, stepsQ, stepsF, at_Far, stpFar]
set_option maxHeartbeats 4000000 in
theorem br8 (x : Ins) (h : x.op = 8) (ha : farQ x) : SW Tryz.prog ⟨none, 0⟩ Tryz.f60.ntmps (Tryz.f60.body.getD .skip) ⟨0, zipT 0 [(tAgg insR).enc x], []⟩ (outQ Tryz.prog Tryz.f60.results.toList (.ret (lineV (brF x)))) := by
  rw [Tryz.ntmps60, Tryz.results60]
  simp only [Tryz.f60, Option.getD_some, zipT]
  refine sw_seq (aRun_sound (ctx := []) 4000 ?_)
  simp only [go_sem, thenQ, insR]
  refine sw_seq (aRun_sound (ctx := []) 4000 ?_)
  simp only [go_sem, thenQ]
  refine SW.wk (s' := wr3 x) ?_ ((Wk.nilC 64 11 40 15 (k := ⟨true, 68, 12, [insE x ++ [.v (.string emp), .v (.slice none 0 0)]]⟩) rfl rfl rfl).trans (Wk.renL [0, 16, 64, 96] (by simp) (by simp [wr3]) (by decide) rfl rfl))
  refine aRun_sound (ctx := [⟨_, flagAS⟩, ⟨_, pickS⟩, ⟨_, lineS stepsT⟩]) 4000 ?_
  obtain ⟨P, hP⟩ : ∃ P, pickF (flagN x.s) [(⟨#[98]⟩ : ByteArray), (⟨#[98, 108]⟩ : ByteArray)] = P := ⟨_, rfl⟩
  have b7 : (x.op == 7) = false := by rw [h]; decide
  have b8 : (x.op == 8) = true := by rw [h]; decide
  have e : brF x = (P, [farO x]) := by unfold brF; rw [if_neg (by omega), if_pos h, hP]
  obtain ⟨ha1, ha2⟩ := ha
  simp only [go_sem, b7, b8, flagA_run, flagA_pan, hP, e, ha1, ha2, line_run, line_pan, wr3, insE, wrK, opsK, boxL, fn_zero, fn_sz, pick_run, pick_pan, runR, panR, decPk, decWordL, decAll, outPk, runQ, decLn, decWr, decWrL, decOps_map, decStep, outLn, gOf, opL_ren1, mapT_opL, lineV, lineQ, stepsQ, stepsF, at_Far, stpFar]
set_option maxHeartbeats 4000000 in
theorem br9 (x : Ins) (h : x.op = 9) (ha : farQ x) : SW Tryz.prog ⟨none, 0⟩ Tryz.f60.ntmps (Tryz.f60.body.getD .skip) ⟨0, zipT 0 [(tAgg insR).enc x], []⟩ (outQ Tryz.prog Tryz.f60.results.toList (.ret (lineV (brF x)))) := by
  rw [Tryz.ntmps60, Tryz.results60]
  simp only [Tryz.f60, Option.getD_some, zipT]
  refine sw_seq (aRun_sound (ctx := []) 4000 ?_)
  simp only [go_sem, thenQ, insR]
  refine sw_seq (aRun_sound (ctx := []) 4000 ?_)
  simp only [go_sem, thenQ]
  refine SW.wk (s' := wr3 x) ?_ ((Wk.nilC 64 11 40 15 (k := ⟨true, 68, 12, [insE x ++ [.v (.string emp), .v (.slice none 0 0)]]⟩) rfl rfl rfl).trans (Wk.renL [0, 16, 64, 96] (by simp) (by simp [wr3]) (by decide) rfl rfl))
  refine aRun_sound (ctx := [⟨_, pickS⟩, ⟨_, lineS stepsT⟩]) 4000 ?_
  obtain ⟨P, hP⟩ : ∃ P, pickF x.b [(⟨#[99, 98, 122]⟩ : ByteArray), (⟨#[99, 98, 110, 122]⟩ : ByteArray)] = P := ⟨_, rfl⟩
  have b7 : (x.op == 7) = false := by rw [h]; decide
  have b8 : (x.op == 8) = false := by rw [h]; decide
  have b9 : (x.op == 9) = true := by rw [h]; decide
  have e : brF x = (P, [dO x, farO x]) := by unfold brF; rw [if_neg (by omega), if_neg (by omega), if_pos h, hP]
  obtain ⟨ha1, ha2⟩ := ha
  simp only [go_sem, b7, b8, b9, hP, e, ha1, ha2, line_run, line_pan, wr3, insE, wrK, opsK, boxL, fn_zero, fn_sz, pick_run, pick_pan, runR, panR, decPk, decWordL, decAll, outPk, runQ, decLn, decWr, decWrL, decOps_map, decStep, outLn, gOf, opL_ren1, mapT_opL, lineV, lineQ, stepsQ, stepsF, at_D, stpD, at_Far, stpFar]
set_option maxHeartbeats 4000000 in
theorem br10 (x : Ins) (h : x.op = 10) (ha : farQ x) : SW Tryz.prog ⟨none, 0⟩ Tryz.f60.ntmps (Tryz.f60.body.getD .skip) ⟨0, zipT 0 [(tAgg insR).enc x], []⟩ (outQ Tryz.prog Tryz.f60.results.toList (.ret (lineV (brF x)))) := by
  rw [Tryz.ntmps60, Tryz.results60]
  simp only [Tryz.f60, Option.getD_some, zipT]
  refine sw_seq (aRun_sound (ctx := []) 4000 ?_)
  simp only [go_sem, thenQ, insR]
  refine sw_seq (aRun_sound (ctx := []) 4000 ?_)
  simp only [go_sem, thenQ]
  refine SW.wk (s' := wr3 x) ?_ ((Wk.nilC 64 11 40 15 (k := ⟨true, 68, 12, [insE x ++ [.v (.string emp), .v (.slice none 0 0)]]⟩) rfl rfl rfl).trans (Wk.renL [0, 16, 64, 96] (by simp) (by simp [wr3]) (by decide) rfl rfl))
  refine aRun_sound (ctx := [⟨_, pickS⟩, ⟨_, lineZS stepsT⟩, ⟨_, regS⟩, ⟨_, numS⟩, ⟨_, putS⟩]) 4000 ?_
  obtain ⟨P, hP⟩ : ∃ P, pickF x.b [(⟨#[116, 98, 122]⟩ : ByteArray), (⟨#[116, 98, 110, 122]⟩ : ByteArray)] = P := ⟨_, rfl⟩
  have b7 : (x.op == 7) = false := by rw [h]; decide
  have b8 : (x.op == 8) = false := by rw [h]; decide
  have b9 : (x.op == 9) = false := by rw [h]; decide
  have b10 : (x.op == 10) = true := by rw [h]; decide
  have e : brF x = (P, [oReg x.rd (decide (31 < x.c)), oNum x.c, farO x]) := by unfold brF; rw [if_neg (by omega), if_neg (by omega), if_neg (by omega), if_pos h, hP]
  obtain ⟨ha1, ha2⟩ := ha
  simp only [go_sem, b7, b8, b9, b10, hP, e, ha1, ha2, lineZ_run, lineZ_pan, isNil3_no, isNil3_yes, decL0, outL0, reg_run, reg_pan, num_run, num_pan, wr3, insE, wrK, opsK, boxL, fn_zero, fn_sz, pick_run, pick_pan, runR, panR, decPk, decWordL, decAll, outPk, runQ, decLn, decWr, decWrL, decOps_map, decStep, outLn, gOf, opL_ren1, mapT_opL, lineV, lineQ, stepsQ, stepsF, at_Far, stpFar, put_run, put_pan, decW, xwT, xw0, outWr, opV, oNum, oReg, op0, r0, opR, opE, emp, opL, ofDs, ofD, decOpL]
set_option maxHeartbeats 4000000 in
theorem br11a (x : Ins) (h : x.op = 11) (hb : x.b = 4) : SW Tryz.prog ⟨none, 0⟩ Tryz.f60.ntmps (Tryz.f60.body.getD .skip) ⟨0, zipT 0 [(tAgg insR).enc x], []⟩ (outQ Tryz.prog Tryz.f60.results.toList (.ret (lineV (brF x)))) := by
  rw [Tryz.ntmps60, Tryz.results60]
  simp only [Tryz.f60, Option.getD_some, zipT]
  refine sw_seq (aRun_sound (ctx := []) 4000 ?_)
  simp only [go_sem, thenQ, insR]
  refine sw_seq (aRun_sound (ctx := []) 4000 ?_)
  simp only [go_sem, thenQ]
  refine SW.wk (s' := wr3 x) ?_ ((Wk.nilC 64 11 40 15 (k := ⟨true, 68, 12, [insE x ++ [.v (.string emp), .v (.slice none 0 0)]]⟩) rfl rfl rfl).trans (Wk.renL [0, 16, 64, 96] (by simp) (by simp [wr3]) (by decide) rfl rfl))
  refine aRun_sound (ctx := [⟨_, pickS⟩, ⟨_, lineZS stepsT⟩, ⟨_, regS⟩, ⟨_, putS⟩]) 4000 ?_
  obtain ⟨P, hP⟩ : ∃ P, pickF x.b [(⟨#[98, 114]⟩ : ByteArray), (⟨#[98, 108, 114]⟩ : ByteArray), (⟨#[114, 101, 116]⟩ : ByteArray), ⟨#[]⟩, (⟨#[101, 114, 101, 116]⟩ : ByteArray)] = P := ⟨_, rfl⟩
  have b7 : (x.op == 7) = false := by rw [h]; decide
  have b8 : (x.op == 8) = false := by rw [h]; decide
  have b9 : (x.op == 9) = false := by rw [h]; decide
  have b10 : (x.op == 10) = false := by rw [h]; decide
  have b11 : (x.op == 11) = true := by rw [h]; decide
  have hP2 : pickF x.b [(⟨#[98, 114]⟩ : ByteArray), (⟨#[98, 108, 114]⟩ : ByteArray), (⟨#[114, 101, 116]⟩ : ByteArray), emp, (⟨#[101, 114, 101, 116]⟩ : ByteArray)] = P := hP
  have e : brF x = (P, []) := by unfold brF; rw [if_neg (by omega), if_neg (by omega), if_neg (by omega), if_neg (by omega), if_pos h, hP2, if_pos hb]
  have bb : (x.b != 4) = false := by simpa using hb
  simp only [go_sem, b7, b8, b9, b10, b11, bb, hP, e, lineZ_run, lineZ_pan, isNil3_no, isNil3_yes, decL0, outL0, reg_run, reg_pan, wr3, insE, wrK, opsK, boxL, fn_zero, fn_sz, pick_run, pick_pan, runR, panR, decPk, decWordL, decAll, outPk, runQ, decLn, decWr, decWrL, decOps_map, decStep, outLn, gOf, opL_ren1, mapT_opL, lineV, lineQ, stepsQ, stepsF, put_run, put_pan, decW, xwT, xw0, outWr, opV, oNum, oReg, op0, r0, opR, opE, emp, opL, ofDs, ofD, decOpL]
set_option maxHeartbeats 4000000 in
theorem br11b (x : Ins) (h : x.op = 11) (hb : ¬ x.b = 4) : SW Tryz.prog ⟨none, 0⟩ Tryz.f60.ntmps (Tryz.f60.body.getD .skip) ⟨0, zipT 0 [(tAgg insR).enc x], []⟩ (outQ Tryz.prog Tryz.f60.results.toList (.ret (lineV (brF x)))) := by
  rw [Tryz.ntmps60, Tryz.results60]
  simp only [Tryz.f60, Option.getD_some, zipT]
  refine sw_seq (aRun_sound (ctx := []) 4000 ?_)
  simp only [go_sem, thenQ, insR]
  refine sw_seq (aRun_sound (ctx := []) 4000 ?_)
  simp only [go_sem, thenQ]
  refine SW.wk (s' := wr3 x) ?_ ((Wk.nilC 64 11 40 15 (k := ⟨true, 68, 12, [insE x ++ [.v (.string emp), .v (.slice none 0 0)]]⟩) rfl rfl rfl).trans (Wk.renL [0, 16, 64, 96] (by simp) (by simp [wr3]) (by decide) rfl rfl))
  refine aRun_sound (ctx := [⟨_, pickS⟩, ⟨_, lineZS stepsT⟩, ⟨_, regS⟩, ⟨_, putS⟩]) 4000 ?_
  obtain ⟨P, hP⟩ : ∃ P, pickF x.b [(⟨#[98, 114]⟩ : ByteArray), (⟨#[98, 108, 114]⟩ : ByteArray), (⟨#[114, 101, 116]⟩ : ByteArray), ⟨#[]⟩, (⟨#[101, 114, 101, 116]⟩ : ByteArray)] = P := ⟨_, rfl⟩
  have b7 : (x.op == 7) = false := by rw [h]; decide
  have b8 : (x.op == 8) = false := by rw [h]; decide
  have b9 : (x.op == 9) = false := by rw [h]; decide
  have b10 : (x.op == 10) = false := by rw [h]; decide
  have b11 : (x.op == 11) = true := by rw [h]; decide
  have hP2 : pickF x.b [(⟨#[98, 114]⟩ : ByteArray), (⟨#[98, 108, 114]⟩ : ByteArray), (⟨#[114, 101, 116]⟩ : ByteArray), emp, (⟨#[101, 114, 101, 116]⟩ : ByteArray)] = P := hP
  have e : brF x = (P, [oReg x.rn true]) := by unfold brF; rw [if_neg (by omega), if_neg (by omega), if_neg (by omega), if_neg (by omega), if_pos h, hP2, if_neg hb]
  have bb : (x.b != 4) = true := by simpa using hb
  simp only [go_sem, b7, b8, b9, b10, b11, bb, hP, e, lineZ_run, lineZ_pan, isNil3_no, isNil3_yes, decL0, outL0, reg_run, reg_pan, wr3, insE, wrK, opsK, boxL, fn_zero, fn_sz, pick_run, pick_pan, runR, panR, decPk, decWordL, decAll, outPk, runQ, decLn, decWr, decWrL, decOps_map, decStep, outLn, gOf, opL_ren1, mapT_opL, lineV, lineQ, stepsQ, stepsF, put_run, put_pan, decW, xwT, xw0, outWr, opV, oNum, oReg, op0, r0, opR, opE, emp, opL, ofDs, ofD, decOpL]
set_option maxHeartbeats 4000000 in
theorem br12 (x : Ins) (h : x.op = 12) : SW Tryz.prog ⟨none, 0⟩ Tryz.f60.ntmps (Tryz.f60.body.getD .skip) ⟨0, zipT 0 [(tAgg insR).enc x], []⟩ (outQ Tryz.prog Tryz.f60.results.toList (.ret (lineV (brF x)))) := by
  rw [Tryz.ntmps60, Tryz.results60]
  simp only [Tryz.f60, Option.getD_some, zipT]
  refine sw_seq (aRun_sound (ctx := []) 4000 ?_)
  simp only [go_sem, thenQ, insR]
  refine sw_seq (aRun_sound (ctx := []) 4000 ?_)
  simp only [go_sem, thenQ]
  refine SW.wk (s' := wr3 x) ?_ ((Wk.nilC 64 11 40 15 (k := ⟨true, 68, 12, [insE x ++ [.v (.string emp), .v (.slice none 0 0)]]⟩) rfl rfl rfl).trans (Wk.renL [0, 16, 64, 96] (by simp) (by simp [wr3]) (by decide) rfl rfl))
  refine aRun_sound (ctx := [⟨_, pickS⟩, ⟨_, lineS stepsT⟩]) 4000 ?_
  obtain ⟨P, hP⟩ : ∃ P, pickF x.b [(⟨#[115, 118, 99]⟩ : ByteArray), (⟨#[104, 118, 99]⟩ : ByteArray), (⟨#[115, 109, 99]⟩ : ByteArray), (⟨#[98, 114, 107]⟩ : ByteArray), (⟨#[104, 108, 116]⟩ : ByteArray), (⟨#[100, 99, 112, 115, 49]⟩ : ByteArray), (⟨#[100, 99, 112, 115, 50]⟩ : ByteArray), (⟨#[100, 99, 112, 115, 51]⟩ : ByteArray)] = P := ⟨_, rfl⟩
  have b7 : (x.op == 7) = false := by rw [h]; decide
  have b8 : (x.op == 8) = false := by rw [h]; decide
  have b9 : (x.op == 9) = false := by rw [h]; decide
  have b10 : (x.op == 10) = false := by rw [h]; decide
  have b11 : (x.op == 11) = false := by rw [h]; decide
  have e : brF x = (P, [numO' x]) := by unfold brF; rw [if_neg (by omega), if_neg (by omega), if_neg (by omega), if_neg (by omega), if_neg (by omega), hP]
  simp only [go_sem, b7, b8, b9, b10, b11, hP, e, line_run, line_pan, wr3, insE, wrK, opsK, boxL, fn_zero, fn_sz, pick_run, pick_pan, runR, panR, decPk, decWordL, decAll, outPk, runQ, decLn, decWr, decWrL, decOps_map, decStep, outLn, gOf, opL_ren1, mapT_opL, lineV, lineQ, stepsQ, stepsF, at_Num, stpNum]
def brQ (x : Ins) : Prop := 7 ≤ x.op ∧ x.op ≤ 12 ∧ (x.op ≤ 10 → farQ x)
theorem br_sw (x : Ins) (h : brQ x) : SW Tryz.prog ⟨none, 0⟩ Tryz.f60.ntmps (Tryz.f60.body.getD .skip) ⟨0, zipT 0 [(tAgg insR).enc x], []⟩ (outQ Tryz.prog Tryz.f60.results.toList (.ret (lineV (brF x)))) := by
  obtain ⟨h1, h2, h3⟩ := h
  have : x.op = 7 ∨ x.op = 8 ∨ x.op = 9 ∨ x.op = 10 ∨ x.op = 11 ∨ x.op = 12 := by omega
  rcases this with h | h | h | h | h | h
  · exact br7 x h (h3 (by omega))
  · exact br8 x h (h3 (by omega))
  · exact br9 x h (h3 (by omega))
  · exact br10 x h (h3 (by omega))
  · by_cases hb : x.b = 4
    · exact br11a x h hb
    · exact br11b x h hb
  · exact br12 x h
theorem en_br (args : Array Value) (w : World) : (callFunc 60 args).run Tryz.prog w = .ok (.enter 60 args) w := by go_simp
def brS : Spec Tryz.prog 60 :=
  mk1 _ _ _ Tryz.func60 rfl en_br (tAgg insR) (brQ) ((fun x => .ret (lineV (brF x)))) (by rw [Tryz.ntmps60]; decide) (fun x h => br_sw x h)
theorem br_run {id : Nat} {h : Heap} {args : List AV} : (brS).run id h args = runP (args1 (tAgg insR) (brQ)) ((fun x => .ret (lineV (brF x)))) h args := rfl
theorem br_pan {id : Nat} {h : Heap} {args : List AV} : (brS).pan id h args = panP (args1 (tAgg insR) (brQ)) ((fun x => .ret (lineV (brF x)))) h args := rfl

end Go.Proofs.YtpjlafmhoifkmaaGreat
