/- Instructions as lines: immediates. -/
import Derived.Test.YtpjlafmhoifkmaaGreatP2
set_option linter.unusedVariables false
set_option linter.unusedSimpArgs false
namespace Go.Proofs.YtpjlafmhoifkmaaGreat
open Go.RowKit
set_option maxRecDepth 100000

def oprC (o : OpV) : Blk := ⟨true, 40, 15, [opL o]⟩
theorem oprC_ren (o : OpV) (g : Nat → Nat) : (oprC o).ren g = oprC o := opsK_ren [o] g
theorem en_immC (args : Array Value) (w : World) : (callFunc 121 args).run Tryz.prog w = .ok (.enter 121 args) w := by go_simp
set_option maxHeartbeats 4000000 in
theorem immC_sw (o : OpV) (x : Ins) (nm : ByteArray) (l : List OpV) (h : l.length ≤ 1000) : SW Tryz.prog ⟨none, 3⟩ Tryz.f121.ntmps (Tryz.f121.body.getD .skip) ⟨4, zipT 0 [.s (.l (.p 1 0 0)), .s (.l (.p 2 0 0))], zipH 0 [wrK x nm l.length 3, pcK 0, oprC o, opsK l]⟩ (outR Tryz.prog Tryz.f121.results.toList 3 (outC (oprC o) o (x, nm, l))) := by
  refine aRun_sound (ctx := [⟨_, putS⟩]) 4000 ?_
  rw [Tryz.ntmps121, Tryz.results121]
  simp only [Tryz.f121, Option.getD_some, zipT]
  simp only [go_sem, wrK, insE, opsK, pcK, oprC, put_run, put_pan, opV, opL, ofDs, ofD, opR, opE, decW, decWr, decWrL, decOps_map, xwT, outWr, opL_ren, h]
  refine leftC (kk := oprC o) (o := o) (x := x) (nm := nm) (l := l) (tb := 36) (oprC_ren o) rfl ?_ ?_ ?_ ?_ (by decide)
  all_goals simp [hget, wrK, insE, pcK, opsK, oprC, opL, ofDs, ofD, opE]
def cImm (o : OpV) : Cst where
  g := 121
  kk := oprC o
  own := rfl
  ren := oprC_ren o
  o := o
  spec := mkCl _ _ _ Tryz.func121 rfl en_immC (oprC o) (oprC_ren o) rfl o (by rw [Tryz.ntmps121]; decide) (fun x nm l h => immC_sw o x nm l h)
  run_eq := fun _ _ _ => rfl
  pan_eq := fun _ _ _ => rfl

set_option maxHeartbeats 4000000 in
theorem im1a (x : Ins) (h : x.op = 1) (hx : x.x = true) (ha : -1000000000000 ≤ x.a ∧ x.a ≤ 1000000000000) : SW Tryz.prog ⟨none, 0⟩ Tryz.f59.ntmps (Tryz.f59.body.getD .skip) ⟨0, zipT 0 [(tAgg insR).enc x], []⟩ (outQ Tryz.prog Tryz.f59.results.toList (.ret (lineV (immF x)))) := by
  rw [Tryz.ntmps59, Tryz.results59]
  simp only [Tryz.f59, Option.getD_some, zipT]
  refine sw_seq (aRun_sound (ctx := []) 4000 ?_)
  simp only [go_sem, thenQ, insR]
  refine sw_seq (aRun_sound (ctx := []) 4000 ?_)
  simp only [go_sem, thenQ]
  refine SW.wk (s' := wrB x) ?_ ((Wk.nilC 64 11 40 15 (k := ⟨true, 68, 12, [insE x ++ [.v (.string emp), .v (.slice none 0 0)]]⟩) rfl rfl rfl).trans (Wk.renL [0, 16, 80, 64, 112] (by simp) (by simp [wrB]) (by decide) rfl rfl))
  refine aRun_sound (ctx := [⟨_, toS⟩]) 4000 ?_
  have b1 : (x.op == 1) = true := by rw [h]; decide
  obtain ⟨P, hP⟩ : ∃ P, pickF (flagN x.x) [⟨#[]⟩, (⟨#[112]⟩ : ByteArray)] = P := ⟨_, rfl⟩
  have hP2 : pickF (flagN x.x) [emp, (⟨#[112]⟩ : ByteArray)] = P := hP
  have lP : P.size ≤ 1 := by rw [← hP]; exact pickF_le (by decide)
  have s3 : ((⟨#[97, 100, 114]⟩ : ByteArray)).size = 3 := rfl
  have m1 : 3 + P.size ≤ maxLen := by unfold maxLen; omega
  have pw : (2 : Int) ^ min 12 64 = 4096 := by decide
  have e1 : IntKind.i64.wrap (x.a * 4096) = x.a * 4096 := by rw [IntKind.wrap_i64]; omega
  have e : immF x = ((⟨#[97, 100, 114]⟩ : ByteArray) ++ P, [xdO x, oTo (x.a * 4096)]) := by unfold immF; rw [if_pos h, hP2, hx]; rfl
  rw [e]
  rw [hx] at hP
  simp only [go_sem, wrB, b1, hx, pw, e1, insE, wrK, opsK, boxL, to_run, to_pan, opV, oTo, op0, r0, opR, opE, emp]
  refine sw_drawF (ctx := [⟨_, flagAS⟩, ⟨_, pickS⟩, ⟨_, lineCS stepsT (cImm (oTo (x.a * 4096)))⟩]) mixed ⟨[11, 12], [(5, [325])], [(0, [325]), (7, [325]), (8, [325]), (9, [325]), (10, [325])]⟩ (by kernel_rfl) ?_
  simp only [go_sem, hx, flagA_run, flagA_pan, hP, s3, m1, lineC_run, lineC_pan, decLC, decSx, outLC, capOf, sxQ, sxF, Sx.q, Sx.F, cImm, oprC, List.nodup_cons, List.nodup_nil, List.mem_cons, List.not_mem_nil, List.mem_nil_iff, or_false, false_or, or_self, not_false_eq_true, and_self, true_and, and_true, insE, wrK, opsK, boxL, pcK, fn_zero, fn_sz, pick_run, pick_pan, runR, panR, decPk, decWordL, decAll, outPk, runQ, decLn, decWr, decWrL, decOps_map, decStep, outLn, gOf, opL_ren1, mapT_opL, lineV, lineQ, stepsQ, stepsF, at_Xd, stpXd, xdO, oTo, oReg, op0, r0, emp, opL, ofDs, ofD, opE]
set_option maxHeartbeats 4000000 in
theorem im1b (x : Ins) (h : x.op = 1) (hx : x.x = false) (ha : -1000000000000 ≤ x.a ∧ x.a ≤ 1000000000000) : SW Tryz.prog ⟨none, 0⟩ Tryz.f59.ntmps (Tryz.f59.body.getD .skip) ⟨0, zipT 0 [(tAgg insR).enc x], []⟩ (outQ Tryz.prog Tryz.f59.results.toList (.ret (lineV (immF x)))) := by
  rw [Tryz.ntmps59, Tryz.results59]
  simp only [Tryz.f59, Option.getD_some, zipT]
  refine sw_seq (aRun_sound (ctx := []) 4000 ?_)
  simp only [go_sem, thenQ, insR]
  refine sw_seq (aRun_sound (ctx := []) 4000 ?_)
  simp only [go_sem, thenQ]
  refine SW.wk (s' := wrB x) ?_ ((Wk.nilC 64 11 40 15 (k := ⟨true, 68, 12, [insE x ++ [.v (.string emp), .v (.slice none 0 0)]]⟩) rfl rfl rfl).trans (Wk.renL [0, 16, 80, 64, 112] (by simp) (by simp [wrB]) (by decide) rfl rfl))
  refine aRun_sound (ctx := [⟨_, toS⟩]) 4000 ?_
  have b1 : (x.op == 1) = true := by rw [h]; decide
  obtain ⟨P, hP⟩ : ∃ P, pickF (flagN x.x) [⟨#[]⟩, (⟨#[112]⟩ : ByteArray)] = P := ⟨_, rfl⟩
  have hP2 : pickF (flagN x.x) [emp, (⟨#[112]⟩ : ByteArray)] = P := hP
  have lP : P.size ≤ 1 := by rw [← hP]; exact pickF_le (by decide)
  have s3 : ((⟨#[97, 100, 114]⟩ : ByteArray)).size = 3 := rfl
  have m1 : 3 + P.size ≤ maxLen := by unfold maxLen; omega
  have pw : (2 : Int) ^ min 12 64 = 4096 := by decide
  have e1 : IntKind.i64.wrap (x.a * 4096) = x.a * 4096 := by rw [IntKind.wrap_i64]; omega
  have e : immF x = ((⟨#[97, 100, 114]⟩ : ByteArray) ++ P, [xdO x, oTo (x.a)]) := by unfold immF; rw [if_pos h, hP2, hx]; rfl
  rw [e]
  rw [hx] at hP
  simp only [go_sem, wrB, b1, hx, pw, e1, insE, wrK, opsK, boxL, to_run, to_pan, opV, oTo, op0, r0, opR, opE, emp]
  refine sw_drawF (ctx := [⟨_, flagAS⟩, ⟨_, pickS⟩, ⟨_, lineCS stepsT (cImm (oTo (x.a)))⟩]) mixed ⟨[11, 12], [(5, [245])], [(0, [245]), (7, [245]), (8, [245]), (9, [245]), (10, [245])]⟩ (by kernel_rfl) ?_
  simp only [go_sem, hx, flagA_run, flagA_pan, hP, s3, m1, lineC_run, lineC_pan, decLC, decSx, outLC, capOf, sxQ, sxF, Sx.q, Sx.F, cImm, oprC, List.nodup_cons, List.nodup_nil, List.mem_cons, List.not_mem_nil, List.mem_nil_iff, or_false, false_or, or_self, not_false_eq_true, and_self, true_and, and_true, insE, wrK, opsK, boxL, pcK, fn_zero, fn_sz, pick_run, pick_pan, runR, panR, decPk, decWordL, decAll, outPk, runQ, decLn, decWr, decWrL, decOps_map, decStep, outLn, gOf, opL_ren1, mapT_opL, lineV, lineQ, stepsQ, stepsF, at_Xd, stpXd, xdO, oTo, oReg, op0, r0, emp, opL, ofDs, ofD, opE]
set_option maxHeartbeats 4000000 in
theorem im2a (x : Ins) (h : x.op = 2) (hs : x.s = true) : SW Tryz.prog ⟨none, 0⟩ Tryz.f59.ntmps (Tryz.f59.body.getD .skip) ⟨0, zipT 0 [(tAgg insR).enc x], []⟩ (outQ Tryz.prog Tryz.f59.results.toList (.ret (lineV (immF x)))) := by
  rw [Tryz.ntmps59, Tryz.results59]
  simp only [Tryz.f59, Option.getD_some, zipT]
  refine sw_seq (aRun_sound (ctx := []) 4000 ?_)
  simp only [go_sem, thenQ, insR]
  refine sw_seq (aRun_sound (ctx := []) 4000 ?_)
  simp only [go_sem, thenQ]
  refine SW.wk (s' := wrB x) ?_ ((Wk.nilC 64 11 40 15 (k := ⟨true, 68, 12, [insE x ++ [.v (.string emp), .v (.slice none 0 0)]]⟩) rfl rfl rfl).trans (Wk.renL [0, 16, 80, 64, 112] (by simp) (by simp [wrB]) (by decide) rfl rfl))
  refine aRun_sound (ctx := []) 4000 ?_
  have b1 : (x.op == 1) = false := by rw [h]; decide
  have b2 : (x.op == 2) = true := by rw [h]; decide
  obtain ⟨P, hP⟩ : ∃ P, pickF x.b [(⟨#[97, 100, 100]⟩ : ByteArray), (⟨#[115, 117, 98]⟩ : ByteArray)] = P := ⟨_, rfl⟩
  obtain ⟨S, hS⟩ : ∃ S, pickF (flagN x.s) [⟨#[]⟩, (⟨#[115]⟩ : ByteArray)] = S := ⟨_, rfl⟩
  have hS2 : pickF (flagN x.s) [emp, (⟨#[115]⟩ : ByteArray)] = S := hS
  have lP : P.size ≤ 3 := by rw [← hP]; exact pickF_le (by decide)
  have lS : S.size ≤ 1 := by rw [← hS]; exact pickF_le (by decide)
  have m1 : P.size + S.size ≤ maxLen := by unfold maxLen; omega
  obtain ⟨Z, hZ⟩ : ∃ Z, shiftedF x = Z := ⟨_, rfl⟩
  have e : immF x = (P ++ S, [dO x, nsO x, Z]) := by unfold immF; rw [if_neg (by omega), if_pos h, hP, hS2, hZ, hs]; rfl
  rw [e]
  rw [hs] at hS
  simp only [go_sem, wrB, b1, b2, hs, insE, wrK, opsK, boxL, fn_zero, fn_sz]
  refine sw_drawF (ctx := [⟨_, flagAS⟩, ⟨_, pickS⟩, ⟨_, lineS stepsT⟩]) mixed ⟨[15], [(4, [277]), (9, [357])], [(0, [277, 357]), (5, [277]), (6, [277]), (8, [277]), (11, [277, 357]), (12, [277, 357]), (13, [277, 357]), (14, [277, 357])]⟩ (by kernel_rfl) ?_
  simp only [go_sem, hs, flagA_run, flagA_pan, hP, hS, m1, line_run, line_pan, insE, wrK, opsK, boxL, pcK, fn_zero, fn_sz, pick_run, pick_pan, runR, panR, decPk, decWordL, decAll, outPk, runQ, decLn, decWr, decWrL, decOps_map, decStep, outLn, gOf, opL_ren1, mapT_opL, lineV, lineQ, stepsQ, stepsF, at_D, stpD, at_Ns, stpNs]
  refine sw_draw (ctx := [⟨_, shiftedS⟩, ⟨_, putS⟩]) mixed [3] (by kernel_rfl) ?_
  have hZ2 : shiftedF ⟨x.op, x.x, true, x.rd, x.rn, x.rm, x.ra, x.a, x.b, x.c⟩ = Z := by rw [← hZ]; rfl
  obtain ⟨zk, ⟨zr1, zr2, zr3⟩, ⟨zm1, zm2, zm3⟩, zmd, zam, zn, zad, zpl, zmi, zlo, zmo⟩ := Z
  simp only [go_sem, insR, insE, hs, hZ, hZ2, shifted_run, shifted_pan, insE, wrK, opsK, boxL, pcK, fn_zero, fn_sz, pick_run, pick_pan, runR, panR, decPk, decWordL, decAll, outPk, runQ, decLn, decWr, decWrL, decOps_map, decStep, outLn, gOf, opL_ren1, mapT_opL, lineV, lineQ, stepsQ, stepsF, put_run, put_pan, decW, xwT, xw0, outWr, opV, opL, ofDs, ofD, opR, decOpL, opE, dO, nsO, oReg, oSP, op0, r0, emp]
set_option maxHeartbeats 4000000 in
theorem im2b (x : Ins) (h : x.op = 2) (hs : x.s = false) : SW Tryz.prog ⟨none, 0⟩ Tryz.f59.ntmps (Tryz.f59.body.getD .skip) ⟨0, zipT 0 [(tAgg insR).enc x], []⟩ (outQ Tryz.prog Tryz.f59.results.toList (.ret (lineV (immF x)))) := by
  rw [Tryz.ntmps59, Tryz.results59]
  simp only [Tryz.f59, Option.getD_some, zipT]
  refine sw_seq (aRun_sound (ctx := []) 4000 ?_)
  simp only [go_sem, thenQ, insR]
  refine sw_seq (aRun_sound (ctx := []) 4000 ?_)
  simp only [go_sem, thenQ]
  refine SW.wk (s' := wrB x) ?_ ((Wk.nilC 64 11 40 15 (k := ⟨true, 68, 12, [insE x ++ [.v (.string emp), .v (.slice none 0 0)]]⟩) rfl rfl rfl).trans (Wk.renL [0, 16, 80, 64, 112] (by simp) (by simp [wrB]) (by decide) rfl rfl))
  refine aRun_sound (ctx := []) 4000 ?_
  have b1 : (x.op == 1) = false := by rw [h]; decide
  have b2 : (x.op == 2) = true := by rw [h]; decide
  obtain ⟨P, hP⟩ : ∃ P, pickF x.b [(⟨#[97, 100, 100]⟩ : ByteArray), (⟨#[115, 117, 98]⟩ : ByteArray)] = P := ⟨_, rfl⟩
  obtain ⟨S, hS⟩ : ∃ S, pickF (flagN x.s) [⟨#[]⟩, (⟨#[115]⟩ : ByteArray)] = S := ⟨_, rfl⟩
  have hS2 : pickF (flagN x.s) [emp, (⟨#[115]⟩ : ByteArray)] = S := hS
  have lP : P.size ≤ 3 := by rw [← hP]; exact pickF_le (by decide)
  have lS : S.size ≤ 1 := by rw [← hS]; exact pickF_le (by decide)
  have m1 : P.size + S.size ≤ maxLen := by unfold maxLen; omega
  obtain ⟨Z, hZ⟩ : ∃ Z, shiftedF x = Z := ⟨_, rfl⟩
  have e : immF x = (P ++ S, [dsO x, nsO x, Z]) := by unfold immF; rw [if_neg (by omega), if_pos h, hP, hS2, hZ, hs]; rfl
  rw [e]
  rw [hs] at hS
  simp only [go_sem, wrB, b1, b2, hs, insE, wrK, opsK, boxL, fn_zero, fn_sz]
  refine sw_drawF (ctx := [⟨_, flagAS⟩, ⟨_, pickS⟩, ⟨_, lineS stepsT⟩]) mixed ⟨[15], [(4, [229]), (9, [309])], [(0, [229, 309]), (5, [229]), (6, [229]), (8, [229]), (11, [229, 309]), (12, [229, 309]), (13, [229, 309]), (14, [229, 309])]⟩ (by kernel_rfl) ?_
  simp only [go_sem, hs, flagA_run, flagA_pan, hP, hS, m1, line_run, line_pan, insE, wrK, opsK, boxL, pcK, fn_zero, fn_sz, pick_run, pick_pan, runR, panR, decPk, decWordL, decAll, outPk, runQ, decLn, decWr, decWrL, decOps_map, decStep, outLn, gOf, opL_ren1, mapT_opL, lineV, lineQ, stepsQ, stepsF, at_Ds, stpDs, at_Ns, stpNs]
  refine sw_draw (ctx := [⟨_, shiftedS⟩, ⟨_, putS⟩]) mixed [3] (by kernel_rfl) ?_
  have hZ2 : shiftedF ⟨x.op, x.x, false, x.rd, x.rn, x.rm, x.ra, x.a, x.b, x.c⟩ = Z := by rw [← hZ]; rfl
  obtain ⟨zk, ⟨zr1, zr2, zr3⟩, ⟨zm1, zm2, zm3⟩, zmd, zam, zn, zad, zpl, zmi, zlo, zmo⟩ := Z
  simp only [go_sem, insR, insE, hs, hZ, hZ2, shifted_run, shifted_pan, insE, wrK, opsK, boxL, pcK, fn_zero, fn_sz, pick_run, pick_pan, runR, panR, decPk, decWordL, decAll, outPk, runQ, decLn, decWr, decWrL, decOps_map, decStep, outLn, gOf, opL_ren1, mapT_opL, lineV, lineQ, stepsQ, stepsF, put_run, put_pan, decW, xwT, xw0, outWr, opV, opL, ofDs, ofD, opR, decOpL, opE, dsO, nsO, oReg, oSP, op0, r0, emp]
set_option maxHeartbeats 4000000 in
theorem im3a (x : Ins) (h : x.op = 3) (hb : x.b = 3) : SW Tryz.prog ⟨none, 0⟩ Tryz.f59.ntmps (Tryz.f59.body.getD .skip) ⟨0, zipT 0 [(tAgg insR).enc x], []⟩ (outQ Tryz.prog Tryz.f59.results.toList (.ret (lineV (immF x)))) := by
  rw [Tryz.ntmps59, Tryz.results59]
  simp only [Tryz.f59, Option.getD_some, zipT]
  refine sw_seq (aRun_sound (ctx := []) 4000 ?_)
  simp only [go_sem, thenQ, insR]
  refine sw_seq (aRun_sound (ctx := []) 4000 ?_)
  simp only [go_sem, thenQ]
  refine SW.wk (s' := wrB x) ?_ ((Wk.nilC 64 11 40 15 (k := ⟨true, 68, 12, [insE x ++ [.v (.string emp), .v (.slice none 0 0)]]⟩) rfl rfl rfl).trans (Wk.renL [0, 16, 80, 64, 112] (by simp) (by simp [wrB]) (by decide) rfl rfl))
  refine aRun_sound (ctx := []) 4000 ?_
  have b1 : (x.op == 1) = false := by rw [h]; decide
  have b2 : (x.op == 2) = false := by rw [h]; decide
  have b3 : (x.op == 3) = true := by rw [h]; decide
  obtain ⟨P, hP⟩ : ∃ P, pickF x.b [(⟨#[97, 110, 100]⟩ : ByteArray), (⟨#[111, 114, 114]⟩ : ByteArray), (⟨#[101, 111, 114]⟩ : ByteArray), (⟨#[97, 110, 100, 115]⟩ : ByteArray)] = P := ⟨_, rfl⟩
  have q3 : (x.b == 3) = true := by simpa using hb
  have e : immF x = (P, [dO x, nO x, numO' x]) := by unfold immF; rw [if_neg (by omega), if_neg (by omega), if_pos h, hP, if_pos hb]
  rw [e]
  simp only [go_sem, wrB, b1, b2, b3, q3, insE, wrK, opsK, boxL, fn_zero, fn_sz]
  refine sw_drawF (ctx := [⟨_, pickS⟩, ⟨_, lineS stepsT⟩]) mixed ⟨[11, 12], [(4, [325])], [(0, [325]), (5, [325]), (6, [325]), (7, [325]), (8, [325]), (9, [325]), (10, [325])]⟩ (by kernel_rfl) ?_
  simp only [go_sem, hP, line_run, line_pan, insE, wrK, opsK, boxL, pcK, fn_zero, fn_sz, pick_run, pick_pan, runR, panR, decPk, decWordL, decAll, outPk, runQ, decLn, decWr, decWrL, decOps_map, decStep, outLn, gOf, opL_ren1, mapT_opL, lineV, lineQ, stepsQ, stepsF, at_D, stpD, at_N, stpN, at_Num, stpNum]
set_option maxHeartbeats 4000000 in
theorem im3b (x : Ins) (h : x.op = 3) (hb : ¬ x.b = 3) : SW Tryz.prog ⟨none, 0⟩ Tryz.f59.ntmps (Tryz.f59.body.getD .skip) ⟨0, zipT 0 [(tAgg insR).enc x], []⟩ (outQ Tryz.prog Tryz.f59.results.toList (.ret (lineV (immF x)))) := by
  rw [Tryz.ntmps59, Tryz.results59]
  simp only [Tryz.f59, Option.getD_some, zipT]
  refine sw_seq (aRun_sound (ctx := []) 4000 ?_)
  simp only [go_sem, thenQ, insR]
  refine sw_seq (aRun_sound (ctx := []) 4000 ?_)
  simp only [go_sem, thenQ]
  refine SW.wk (s' := wrB x) ?_ ((Wk.nilC 64 11 40 15 (k := ⟨true, 68, 12, [insE x ++ [.v (.string emp), .v (.slice none 0 0)]]⟩) rfl rfl rfl).trans (Wk.renL [0, 16, 80, 64, 112] (by simp) (by simp [wrB]) (by decide) rfl rfl))
  refine aRun_sound (ctx := []) 4000 ?_
  have b1 : (x.op == 1) = false := by rw [h]; decide
  have b2 : (x.op == 2) = false := by rw [h]; decide
  have b3 : (x.op == 3) = true := by rw [h]; decide
  obtain ⟨P, hP⟩ : ∃ P, pickF x.b [(⟨#[97, 110, 100]⟩ : ByteArray), (⟨#[111, 114, 114]⟩ : ByteArray), (⟨#[101, 111, 114]⟩ : ByteArray), (⟨#[97, 110, 100, 115]⟩ : ByteArray)] = P := ⟨_, rfl⟩
  have q3 : (x.b == 3) = false := by simpa using hb
  have e : immF x = (P, [dsO x, nO x, numO' x]) := by unfold immF; rw [if_neg (by omega), if_neg (by omega), if_pos h, hP, if_neg hb]
  rw [e]
  simp only [go_sem, wrB, b1, b2, b3, q3, insE, wrK, opsK, boxL, fn_zero, fn_sz]
  refine sw_drawF (ctx := [⟨_, pickS⟩, ⟨_, lineS stepsT⟩]) mixed ⟨[11, 12], [(4, [277])], [(0, [277]), (5, [277]), (6, [277]), (7, [277]), (8, [277]), (9, [277]), (10, [277])]⟩ (by kernel_rfl) ?_
  simp only [go_sem, hP, line_run, line_pan, insE, wrK, opsK, boxL, pcK, fn_zero, fn_sz, pick_run, pick_pan, runR, panR, decPk, decWordL, decAll, outPk, runQ, decLn, decWr, decWrL, decOps_map, decStep, outLn, gOf, opL_ren1, mapT_opL, lineV, lineQ, stepsQ, stepsF, at_Ds, stpDs, at_N, stpN, at_Num, stpNum]
set_option maxHeartbeats 4000000 in
theorem im4a (x : Ins) (h : x.op = 4) (hc : x.c = 0) (hr : 0 ≤ x.c ∧ x.c ≤ 3) : SW Tryz.prog ⟨none, 0⟩ Tryz.f59.ntmps (Tryz.f59.body.getD .skip) ⟨0, zipT 0 [(tAgg insR).enc x], []⟩ (outQ Tryz.prog Tryz.f59.results.toList (.ret (lineV (immF x)))) := by
  rw [Tryz.ntmps59, Tryz.results59]
  simp only [Tryz.f59, Option.getD_some, zipT]
  refine sw_seq (aRun_sound (ctx := []) 4000 ?_)
  simp only [go_sem, thenQ, insR]
  refine sw_seq (aRun_sound (ctx := []) 4000 ?_)
  simp only [go_sem, thenQ]
  refine SW.wk (s' := wrB x) ?_ ((Wk.nilC 64 11 40 15 (k := ⟨true, 68, 12, [insE x ++ [.v (.string emp), .v (.slice none 0 0)]]⟩) rfl rfl rfl).trans (Wk.renL [0, 16, 80, 64, 112] (by simp) (by simp [wrB]) (by decide) rfl rfl))
  refine aRun_sound (ctx := [⟨_, numS⟩, ⟨_, withS⟩, ⟨_, putS⟩]) 4000 ?_
  have b1 : (x.op == 1) = false := by rw [h]; decide
  have b2 : (x.op == 2) = false := by rw [h]; decide
  have b3 : (x.op == 3) = false := by rw [h]; decide
  have b4 : (x.op == 4) = true := by rw [h]; decide
  obtain ⟨P, hP⟩ : ∃ P, pickF x.b [(⟨#[109, 111, 118, 110]⟩ : ByteArray), ⟨#[]⟩, (⟨#[109, 111, 118, 122]⟩ : ByteArray), (⟨#[109, 111, 118, 107]⟩ : ByteArray)] = P := ⟨_, rfl⟩
  have hP2 : pickF x.b [(⟨#[109, 111, 118, 110]⟩ : ByteArray), emp, (⟨#[109, 111, 118, 122]⟩ : ByteArray), (⟨#[109, 111, 118, 107]⟩ : ByteArray)] = P := hP
  have q0 : (x.c != 0) = false := by simpa using hc
  have e1 : IntKind.i64.wrap (16 * x.c) = 16 * x.c := by rw [IntKind.wrap_i64]; omega
  have e : immF x = (P, [dO x, oNum x.a]) := by unfold immF; rw [if_neg (by omega), if_neg (by omega), if_neg (by omega), if_pos h, hP2, if_pos hc]
  rw [e]
  simp only [go_sem, wrB, b1, b2, b3, b4, q0, e1, insE, wrK, opsK, boxL, fn_zero, fn_sz, num_run, num_pan, with_run, with_pan, opV, oNum, oWith, op0, r0, opR, opE, emp]
  refine sw_drawF (ctx := [⟨_, pickS⟩, ⟨_, lineS stepsT⟩]) mixed ⟨[8], [(4, [341])], [(0, [341]), (5, [341]), (6, [341]), (7, [341])]⟩ (by kernel_rfl) ?_
  simp only [go_sem, hP, line_run, line_pan, insE, wrK, opsK, boxL, pcK, fn_zero, fn_sz, pick_run, pick_pan, runR, panR, decPk, decWordL, decAll, outPk, runQ, decLn, decWr, decWrL, decOps_map, decStep, outLn, gOf, opL_ren1, mapT_opL, lineV, lineQ, stepsQ, stepsF, at_D, stpD, put_run, put_pan, decW, xwT, xw0, outWr, opV, opL, ofDs, ofD, opR, decOpL, opE, dO, oReg, oNum, oWith, op0, r0, emp]
set_option maxHeartbeats 4000000 in
theorem im4b (x : Ins) (h : x.op = 4) (hc : ¬ x.c = 0) (hr : 0 ≤ x.c ∧ x.c ≤ 3) : SW Tryz.prog ⟨none, 0⟩ Tryz.f59.ntmps (Tryz.f59.body.getD .skip) ⟨0, zipT 0 [(tAgg insR).enc x], []⟩ (outQ Tryz.prog Tryz.f59.results.toList (.ret (lineV (immF x)))) := by
  rw [Tryz.ntmps59, Tryz.results59]
  simp only [Tryz.f59, Option.getD_some, zipT]
  refine sw_seq (aRun_sound (ctx := []) 4000 ?_)
  simp only [go_sem, thenQ, insR]
  refine sw_seq (aRun_sound (ctx := []) 4000 ?_)
  simp only [go_sem, thenQ]
  refine SW.wk (s' := wrB x) ?_ ((Wk.nilC 64 11 40 15 (k := ⟨true, 68, 12, [insE x ++ [.v (.string emp), .v (.slice none 0 0)]]⟩) rfl rfl rfl).trans (Wk.renL [0, 16, 80, 64, 112] (by simp) (by simp [wrB]) (by decide) rfl rfl))
  refine aRun_sound (ctx := [⟨_, numS⟩, ⟨_, withS⟩, ⟨_, putS⟩]) 4000 ?_
  have b1 : (x.op == 1) = false := by rw [h]; decide
  have b2 : (x.op == 2) = false := by rw [h]; decide
  have b3 : (x.op == 3) = false := by rw [h]; decide
  have b4 : (x.op == 4) = true := by rw [h]; decide
  obtain ⟨P, hP⟩ : ∃ P, pickF x.b [(⟨#[109, 111, 118, 110]⟩ : ByteArray), ⟨#[]⟩, (⟨#[109, 111, 118, 122]⟩ : ByteArray), (⟨#[109, 111, 118, 107]⟩ : ByteArray)] = P := ⟨_, rfl⟩
  have hP2 : pickF x.b [(⟨#[109, 111, 118, 110]⟩ : ByteArray), emp, (⟨#[109, 111, 118, 122]⟩ : ByteArray), (⟨#[109, 111, 118, 107]⟩ : ByteArray)] = P := hP
  have q0 : (x.c != 0) = true := by simpa using hc
  have e1 : IntKind.i64.wrap (16 * x.c) = 16 * x.c := by rw [IntKind.wrap_i64]; omega
  have e : immF x = (P, [dO x, oWith (oNum x.a) 1 (16 * x.c)]) := by unfold immF; rw [if_neg (by omega), if_neg (by omega), if_neg (by omega), if_pos h, hP2, if_neg hc]
  rw [e]
  simp only [go_sem, wrB, b1, b2, b3, b4, q0, e1, insE, wrK, opsK, boxL, fn_zero, fn_sz, num_run, num_pan, with_run, with_pan, opV, oNum, oWith, op0, r0, opR, opE, emp]
  refine sw_drawF (ctx := [⟨_, pickS⟩, ⟨_, lineS stepsT⟩]) mixed ⟨[8], [(4, [437])], [(0, [437]), (5, [437]), (6, [437]), (7, [437])]⟩ (by kernel_rfl) ?_
  simp only [go_sem, hP, line_run, line_pan, insE, wrK, opsK, boxL, pcK, fn_zero, fn_sz, pick_run, pick_pan, runR, panR, decPk, decWordL, decAll, outPk, runQ, decLn, decWr, decWrL, decOps_map, decStep, outLn, gOf, opL_ren1, mapT_opL, lineV, lineQ, stepsQ, stepsF, at_D, stpD, put_run, put_pan, decW, xwT, xw0, outWr, opV, opL, ofDs, ofD, opR, decOpL, opE, dO, oReg, oNum, oWith, op0, r0, emp]
set_option maxHeartbeats 4000000 in
theorem im5 (x : Ins) (h : x.op = 5) : SW Tryz.prog ⟨none, 0⟩ Tryz.f59.ntmps (Tryz.f59.body.getD .skip) ⟨0, zipT 0 [(tAgg insR).enc x], []⟩ (outQ Tryz.prog Tryz.f59.results.toList (.ret (lineV (immF x)))) := by
  rw [Tryz.ntmps59, Tryz.results59]
  simp only [Tryz.f59, Option.getD_some, zipT]
  refine sw_seq (aRun_sound (ctx := []) 4000 ?_)
  simp only [go_sem, thenQ, insR]
  refine sw_seq (aRun_sound (ctx := []) 4000 ?_)
  simp only [go_sem, thenQ]
  refine SW.wk (s' := wrB x) ?_ ((Wk.nilC 64 11 40 15 (k := ⟨true, 68, 12, [insE x ++ [.v (.string emp), .v (.slice none 0 0)]]⟩) rfl rfl rfl).trans (Wk.renL [0, 16, 80, 64, 112] (by simp) (by simp [wrB]) (by decide) rfl rfl))
  refine aRun_sound (ctx := []) 4000 ?_
  have b1 : (x.op == 1) = false := by rw [h]; decide
  have b2 : (x.op == 2) = false := by rw [h]; decide
  have b3 : (x.op == 3) = false := by rw [h]; decide
  have b4 : (x.op == 4) = false := by rw [h]; decide
  have b5 : (x.op == 5) = true := by rw [h]; decide
  obtain ⟨P, hP⟩ : ∃ P, pickF x.b [(⟨#[115, 98, 102, 109]⟩ : ByteArray), (⟨#[98, 102, 109]⟩ : ByteArray), (⟨#[117, 98, 102, 109]⟩ : ByteArray)] = P := ⟨_, rfl⟩
  have e : immF x = (P, [dO x, nO x, numO' x, oNum x.c]) := by unfold immF; rw [if_neg (by omega), if_neg (by omega), if_neg (by omega), if_neg (by omega), if_pos h, hP]
  rw [e]
  simp only [go_sem, wrB, b1, b2, b3, b4, b5, insE, wrK, opsK, boxL, fn_zero, fn_sz]
  refine sw_drawF (ctx := [⟨_, pickS⟩, ⟨_, lineS stepsT⟩]) mixed ⟨[12], [(4, [245])], [(0, [245]), (5, [245]), (6, [245]), (7, [245]), (8, [245]), (9, [245]), (10, [245]), (11, [245])]⟩ (by kernel_rfl) ?_
  simp only [go_sem, hP, line_run, line_pan, insE, wrK, opsK, boxL, pcK, fn_zero, fn_sz, pick_run, pick_pan, runR, panR, decPk, decWordL, decAll, outPk, runQ, decLn, decWr, decWrL, decOps_map, decStep, outLn, gOf, opL_ren1, mapT_opL, lineV, lineQ, stepsQ, stepsF, at_D, stpD, at_N, stpN, at_Num, stpNum]
  refine sw_draw (ctx := [⟨_, numS⟩, ⟨_, putS⟩]) mixed [4] (by kernel_rfl) ?_
  simp only [go_sem, num_run, num_pan, insE, wrK, opsK, boxL, pcK, fn_zero, fn_sz, pick_run, pick_pan, runR, panR, decPk, decWordL, decAll, outPk, runQ, decLn, decWr, decWrL, decOps_map, decStep, outLn, gOf, opL_ren1, mapT_opL, lineV, lineQ, stepsQ, stepsF, put_run, put_pan, decW, xwT, xw0, outWr, opV, opL, ofDs, ofD, opR, decOpL, opE, dO, nO, numO', oReg, oNum, op0, r0, emp]
def immQ (x : Ins) : Prop := 1 ≤ x.op ∧ x.op ≤ 6 ∧ (x.op = 1 → -1000000000000 ≤ x.a ∧ x.a ≤ 1000000000000) ∧ (x.op = 4 → 0 ≤ x.c ∧ x.c ≤ 3)
theorem imm_sw (x : Ins) (hq : immQ x) : SW Tryz.prog ⟨none, 0⟩ Tryz.f59.ntmps (Tryz.f59.body.getD .skip) ⟨0, zipT 0 [(tAgg insR).enc x], []⟩ (outQ Tryz.prog Tryz.f59.results.toList (.ret (lineV (immF x)))) := by
  obtain ⟨h1, h2, h3, h4⟩ := hq
  have : x.op = 1 ∨ x.op = 2 ∨ x.op = 3 ∨ x.op = 4 ∨ x.op = 5 ∨ x.op = 6 := by omega
  rcases this with h | h | h | h | h | h
  · cases hx : x.x
    · exact im1b x h hx (h3 h)
    · exact im1a x h hx (h3 h)
  · cases hs : x.s
    · exact im2b x h hs
    · exact im2a x h hs
  · by_cases hb : x.b = 3
    · exact im3a x h hb
    · exact im3b x h hb
  · by_cases hc : x.c = 0
    · exact im4a x h hc (h4 h)
    · exact im4b x h hc (h4 h)
  · exact im5 x h
  · exact imm_extr x h
theorem en_imm (args : Array Value) (w : World) : (callFunc 59 args).run Tryz.prog w = .ok (.enter 59 args) w := by go_simp
def immS : Spec Tryz.prog 59 :=
  mk1 _ _ _ Tryz.func59 rfl en_imm (tAgg insR) (immQ) ((fun x => .ret (lineV (immF x)))) (by rw [Tryz.ntmps59]; decide) (fun x h => imm_sw x h)
theorem imm_run {id : Nat} {h : Heap} {args : List AV} : (immS).run id h args = runP (args1 (tAgg insR) (immQ)) ((fun x => .ret (lineV (immF x)))) h args := rfl
theorem imm_pan {id : Nat} {h : Heap} {args : List AV} : (immS).pan id h args = panP (args1 (tAgg insR) (immQ)) ((fun x => .ret (lineV (immF x)))) h args := rfl

end Go.Proofs.YtpjlafmhoifkmaaGreat
