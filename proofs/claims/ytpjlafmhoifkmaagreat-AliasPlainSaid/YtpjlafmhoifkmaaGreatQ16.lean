/- The document's lines: sums, registers. -/
import Derived.Test.YtpjlafmhoifkmaaGreatQ13
set_option linter.unusedVariables false
set_option linter.unusedSimpArgs false
namespace Go.Proofs.YtpjlafmhoifkmaaGreat
open Go.RowKit
set_option maxRecDepth 100000

attribute [local go_sem] rreg_run rreg_pan rregSP_run rregSP_pan rspIf_run rspIf_pan rnum_run rnum_pan rto_run rto_pan rof_run rof_pan rmod_run rmod_pan rmem_run rmem_pan rflagn_run rflagn_pan rflagNum_run rflagNum_pan rpick_run rpick_pan rline_run rline_pan runR panR decPk decWordL decAll outPk decLn7 decOpL outLn7 opV opR opE oReg oSP oNum oTo oOf oWith oMem op0 r0 emp runQ gOf opsK opL_ren1 mapT_opL lineV insR
set_option maxHeartbeats 4000000 in
theorem ra24 (xx ss : Bool) (rd rn rm ra a b c : Int) (hc : 0 ≤ c ∧ c ≤ 7) (hb : 0 ≤ b ∧ b ≤ 3) : SW Tryz.prog ⟨none, 0⟩ Tryz.f78.ntmps (Tryz.f78.body.getD .skip) ⟨0, zipT 0 [(tAgg insR).enc ⟨24, xx, ss, rd, rn, rm, ra, a, b, c⟩], []⟩ (outQ Tryz.prog Tryz.f78.results.toList (.ret (lineV ((pickF (2 * b + flagN ss) [(⟨#[97, 110, 100]⟩ : ByteArray), (⟨#[98, 105, 99]⟩ : ByteArray), (⟨#[111, 114, 114]⟩ : ByteArray), (⟨#[111, 114, 110]⟩ : ByteArray), (⟨#[101, 111, 114]⟩ : ByteArray), (⟨#[101, 111, 110]⟩ : ByteArray), (⟨#[97, 110, 100, 115]⟩ : ByteArray), (⟨#[98, 105, 99, 115]⟩ : ByteArray)], [oReg rd xx, oReg rn xx, shF ⟨24, xx, ss, rd, rn, rm, ra, a, b, c⟩]))))) := by
  refine aRun_sound (ctx := [⟨_, rregS⟩, ⟨_, rregSPS⟩, ⟨_, rspIfS⟩, ⟨_, rflagnS⟩, ⟨_, rflagNumS⟩, ⟨_, rpickS⟩, ⟨_, rlineS⟩, ⟨_, rshiftedS⟩]) 4000 ?_
  rw [Tryz.ntmps78, Tryz.results78]
  simp only [Tryz.f78, Option.getD_some, zipT]
  have w1 : IntKind.i64.wrap (2 * b) = 2 * b := by rw [IntKind.wrap_i64]; omega
  have hf : 0 ≤ flagN ss ∧ flagN ss ≤ 1 := by cases ss <;> decide
  have w2 : IntKind.i64.wrap (2 * b + flagN ss) = 2 * b + flagN ss := by rw [IntKind.wrap_i64]; omega
  simp only [go_sem, w1, w2, hc.1, hc.2, rshifted_run, rshifted_pan]
  refine sw_drawF (ctx := [⟨_, rregS⟩, ⟨_, rregSPS⟩, ⟨_, rspIfS⟩, ⟨_, rflagnS⟩, ⟨_, rflagNumS⟩, ⟨_, rpickS⟩, ⟨_, rlineS⟩, ⟨_, rshiftedS⟩]) mixed ⟨[14, 15], [(8, [432])], [(9, [432]), (10, [432]), (11, [432])]⟩ (by kernel_rfl) ?_
  simp only [go_sem, w1, w2, hc.1, hc.2, rshifted_run, rshifted_pan]
set_option maxHeartbeats 4000000 in
theorem ra25 (xx ss : Bool) (rd rn rm ra a b c : Int) (hc : 0 ≤ c ∧ c ≤ 7) : SW Tryz.prog ⟨none, 0⟩ Tryz.f78.ntmps (Tryz.f78.body.getD .skip) ⟨0, zipT 0 [(tAgg insR).enc ⟨25, xx, ss, rd, rn, rm, ra, a, b, c⟩], []⟩ (outQ Tryz.prog Tryz.f78.results.toList (.ret (lineV ((flagF (pickF b [(⟨#[97, 100, 100]⟩ : ByteArray), (⟨#[115, 117, 98]⟩ : ByteArray)]) ss (⟨#[115]⟩ : ByteArray), [oReg rd xx, oReg rn xx, shF ⟨25, xx, ss, rd, rn, rm, ra, a, b, c⟩]))))) := by
  refine aRun_sound (ctx := [⟨_, rregS⟩, ⟨_, rregSPS⟩, ⟨_, rspIfS⟩, ⟨_, rflagnS⟩, ⟨_, rflagNumS⟩, ⟨_, rpickS⟩, ⟨_, rlineS⟩, ⟨_, rshiftedS⟩]) 4000 ?_
  rw [Tryz.ntmps78, Tryz.results78]
  simp only [Tryz.f78, Option.getD_some, zipT]
  have pz : (pickF b [(⟨#[97, 100, 100]⟩ : ByteArray), (⟨#[115, 117, 98]⟩ : ByteArray)]).size ≤ 1000 := Nat.le_trans (pickF_le (k := 10) (by decide)) (by decide)
  simp only [go_sem, pz, hc.1, hc.2, rshifted_run, rshifted_pan]
  refine sw_drawF (ctx := [⟨_, rregS⟩, ⟨_, rregSPS⟩, ⟨_, rspIfS⟩, ⟨_, rflagnS⟩, ⟨_, rflagNumS⟩, ⟨_, rpickS⟩, ⟨_, rlineS⟩, ⟨_, rshiftedS⟩]) mixed ⟨[12, 13], [(3, [384])], [(4, [384]), (5, [384]), (7, [384]), (8, [384]), (9, [384])]⟩ (by kernel_rfl) ?_
  simp only [go_sem, pz, hc.1, hc.2, rshifted_run, rshifted_pan]
set_option maxHeartbeats 4000000 in
theorem ra26 (xx ss : Bool) (rd rn rm ra a b c : Int) (hc : 0 ≤ c ∧ c ≤ 7) : SW Tryz.prog ⟨none, 0⟩ Tryz.f78.ntmps (Tryz.f78.body.getD .skip) ⟨0, zipT 0 [(tAgg insR).enc ⟨26, xx, ss, rd, rn, rm, ra, a, b, c⟩], []⟩ (outQ Tryz.prog Tryz.f78.results.toList (.ret (lineV ((flagF (pickF b [(⟨#[97, 100, 100]⟩ : ByteArray), (⟨#[115, 117, 98]⟩ : ByteArray)]) ss (⟨#[115]⟩ : ByteArray), [spF (!ss) rd xx, oSP rn xx, extO ⟨26, xx, ss, rd, rn, rm, ra, a, b, c⟩]))))) := by
  refine aRun_sound (ctx := [⟨_, rregS⟩, ⟨_, rregSPS⟩, ⟨_, rspIfS⟩, ⟨_, rflagnS⟩, ⟨_, rflagNumS⟩, ⟨_, rpickS⟩, ⟨_, rlineS⟩, ⟨_, rextendedS⟩]) 4000 ?_
  rw [Tryz.ntmps78, Tryz.results78]
  simp only [Tryz.f78, Option.getD_some, zipT]
  have pz : (pickF b [(⟨#[97, 100, 100]⟩ : ByteArray), (⟨#[115, 117, 98]⟩ : ByteArray)]).size ≤ 1000 := Nat.le_trans (pickF_le (k := 10) (by decide)) (by decide)
  simp only [go_sem, pz, hc.1, hc.2, rextended_run, rextended_pan]
  refine sw_drawF (ctx := [⟨_, rregS⟩, ⟨_, rregSPS⟩, ⟨_, rspIfS⟩, ⟨_, rflagnS⟩, ⟨_, rflagNumS⟩, ⟨_, rpickS⟩, ⟨_, rlineS⟩, ⟨_, rextendedS⟩]) mixed ⟨[23, 24], [(3, [416])], [(4, [416]), (5, [416]), (7, [416]), (8, [416]), (9, [416]), (10, [416]), (11, [416]), (12, [416]), (13, [416]), (15, [416]), (16, [416]), (17, [416]), (18, [416]), (20, [416])]⟩ (by kernel_rfl) ?_
  simp only [go_sem, pz, hc.1, hc.2, rextended_run, rextended_pan]
set_option maxHeartbeats 4000000 in
theorem ra27 (xx ss : Bool) (rd rn rm ra a b c : Int) : SW Tryz.prog ⟨none, 0⟩ Tryz.f78.ntmps (Tryz.f78.body.getD .skip) ⟨0, zipT 0 [(tAgg insR).enc ⟨27, xx, ss, rd, rn, rm, ra, a, b, c⟩], []⟩ (outQ Tryz.prog Tryz.f78.results.toList (.ret (lineV ((flagF (pickF b [(⟨#[97, 100, 99]⟩ : ByteArray), (⟨#[115, 98, 99]⟩ : ByteArray)]) ss (⟨#[115]⟩ : ByteArray), [oReg rd xx, oReg rn xx, oReg rm xx]))))) := by
  refine aRun_sound (ctx := [⟨_, rregS⟩, ⟨_, rregSPS⟩, ⟨_, rspIfS⟩, ⟨_, rflagnS⟩, ⟨_, rflagNumS⟩, ⟨_, rpickS⟩, ⟨_, rlineS⟩]) 4000 ?_
  rw [Tryz.ntmps78, Tryz.results78]
  simp only [Tryz.f78, Option.getD_some, zipT]
  have pz : (pickF b [(⟨#[97, 100, 99]⟩ : ByteArray), (⟨#[115, 98, 99]⟩ : ByteArray)]).size ≤ 1000 := Nat.le_trans (pickF_le (k := 10) (by decide)) (by decide)
  simp only [go_sem, pz]
  refine sw_drawF (ctx := [⟨_, rregS⟩, ⟨_, rregSPS⟩, ⟨_, rspIfS⟩, ⟨_, rflagnS⟩, ⟨_, rflagNumS⟩, ⟨_, rpickS⟩, ⟨_, rlineS⟩]) mixed ⟨[15, 16], [(3, [416])], [(4, [416]), (5, [416]), (7, [416]), (8, [416]), (9, [416]), (10, [416]), (11, [416]), (12, [416])]⟩ (by kernel_rfl) ?_
  simp only [go_sem, pz]
set_option maxHeartbeats 4000000 in
theorem rr28s (xx : Bool) (rd rn rm ra a b c : Int) : SW Tryz.prog ⟨none, 0⟩ Tryz.f79.ntmps (Tryz.f79.body.getD .skip) ⟨0, zipT 0 [(tAgg insR).enc ⟨28, xx, true, rd, rn, rm, ra, a, b, c⟩], []⟩ (outQ Tryz.prog Tryz.f79.results.toList (.ret (lineV ((pickF b [(⟨#[99, 99, 109, 110]⟩ : ByteArray), (⟨#[99, 99, 109, 112]⟩ : ByteArray)], [oReg rn xx, oNum rm, oNum a, oOf 4 c]))))) := by
  refine aRun_sound (ctx := [⟨_, rregS⟩, ⟨_, rnumS⟩, ⟨_, rofS⟩, ⟨_, rpickS⟩, ⟨_, rlineS⟩]) 4000 ?_
  rw [Tryz.ntmps79, Tryz.results79]
  simp only [Tryz.f79, Option.getD_some, zipT]
  simp only [go_sem]
  refine sw_drawF (ctx := [⟨_, rregS⟩, ⟨_, rnumS⟩, ⟨_, rofS⟩, ⟨_, rpickS⟩, ⟨_, rlineS⟩]) mixed ⟨[13, 14], [(3, [560])], [(4, [560]), (5, [560]), (6, [560]), (7, [560]), (9, [560]), (10, [560])]⟩ (by kernel_rfl) ?_
  simp only [go_sem]
set_option maxHeartbeats 4000000 in
theorem rr28 (xx : Bool) (rd rn rm ra a b c : Int) : SW Tryz.prog ⟨none, 0⟩ Tryz.f79.ntmps (Tryz.f79.body.getD .skip) ⟨0, zipT 0 [(tAgg insR).enc ⟨28, xx, false, rd, rn, rm, ra, a, b, c⟩], []⟩ (outQ Tryz.prog Tryz.f79.results.toList (.ret (lineV ((pickF b [(⟨#[99, 99, 109, 110]⟩ : ByteArray), (⟨#[99, 99, 109, 112]⟩ : ByteArray)], [oReg rn xx, oReg rm xx, oNum a, oOf 4 c]))))) := by
  refine aRun_sound (ctx := [⟨_, rregS⟩, ⟨_, rnumS⟩, ⟨_, rofS⟩, ⟨_, rpickS⟩, ⟨_, rlineS⟩]) 4000 ?_
  rw [Tryz.ntmps79, Tryz.results79]
  simp only [Tryz.f79, Option.getD_some, zipT]
  simp only [go_sem]
  refine sw_drawF (ctx := [⟨_, rregS⟩, ⟨_, rnumS⟩, ⟨_, rofS⟩, ⟨_, rpickS⟩, ⟨_, rlineS⟩]) mixed ⟨[13, 14], [(3, [496])], [(4, [496]), (5, [496]), (6, [496]), (7, [496]), (9, [496]), (10, [496])]⟩ (by kernel_rfl) ?_
  simp only [go_sem]
set_option maxHeartbeats 4000000 in
theorem rr29 (xx ss : Bool) (rd rn rm ra a b c : Int) : SW Tryz.prog ⟨none, 0⟩ Tryz.f79.ntmps (Tryz.f79.body.getD .skip) ⟨0, zipT 0 [(tAgg insR).enc ⟨29, xx, ss, rd, rn, rm, ra, a, b, c⟩], []⟩ (outQ Tryz.prog Tryz.f79.results.toList (.ret (lineV ((pickF b [(⟨#[99, 115, 101, 108]⟩ : ByteArray), (⟨#[99, 115, 105, 110, 99]⟩ : ByteArray), (⟨#[99, 115, 105, 110, 118]⟩ : ByteArray), (⟨#[99, 115, 110, 101, 103]⟩ : ByteArray)], [oReg rd xx, oReg rn xx, oReg rm xx, oOf 4 a]))))) := by
  refine aRun_sound (ctx := [⟨_, rregS⟩, ⟨_, rnumS⟩, ⟨_, rofS⟩, ⟨_, rpickS⟩, ⟨_, rlineS⟩]) 4000 ?_
  rw [Tryz.ntmps79, Tryz.results79]
  simp only [Tryz.f79, Option.getD_some, zipT]
  simp only [go_sem]
  refine sw_drawF (ctx := [⟨_, rregS⟩, ⟨_, rnumS⟩, ⟨_, rofS⟩, ⟨_, rpickS⟩, ⟨_, rlineS⟩]) mixed ⟨[11, 12], [(3, [496])], [(4, [496]), (5, [496]), (6, [496]), (7, [496]), (8, [496])]⟩ (by kernel_rfl) ?_
  simp only [go_sem]
set_option maxHeartbeats 4000000 in
theorem rr302 (ss : Bool) (rd rn rm ra a c : Int) : SW Tryz.prog ⟨none, 0⟩ Tryz.f79.ntmps (Tryz.f79.body.getD .skip) ⟨0, zipT 0 [(tAgg insR).enc ⟨30, false, ss, rd, rn, rm, ra, a, 2, c⟩], []⟩ (outQ Tryz.prog Tryz.f79.results.toList (.ret (lineV (((⟨#[114, 101, 118]⟩ : ByteArray), [oReg rd false, oReg rn false]))))) := by
  refine aRun_sound (ctx := [⟨_, rregS⟩, ⟨_, rnumS⟩, ⟨_, rofS⟩, ⟨_, rpickS⟩, ⟨_, rlineS⟩]) 4000 ?_
  rw [Tryz.ntmps79, Tryz.results79]
  simp only [Tryz.f79, Option.getD_some, zipT]
  simp only [go_sem]
set_option maxHeartbeats 4000000 in
theorem rr30x (ss : Bool) (rd rn rm ra a b c : Int) : SW Tryz.prog ⟨none, 0⟩ Tryz.f79.ntmps (Tryz.f79.body.getD .skip) ⟨0, zipT 0 [(tAgg insR).enc ⟨30, true, ss, rd, rn, rm, ra, a, b, c⟩], []⟩ (outQ Tryz.prog Tryz.f79.results.toList (.ret (lineV ((pickF b [(⟨#[114, 98, 105, 116]⟩ : ByteArray), (⟨#[114, 101, 118, 49, 54]⟩ : ByteArray), (⟨#[114, 101, 118, 51, 50]⟩ : ByteArray), (⟨#[114, 101, 118]⟩ : ByteArray), (⟨#[99, 108, 122]⟩ : ByteArray), (⟨#[99, 108, 115]⟩ : ByteArray)], [oReg rd true, oReg rn true]))))) := by
  refine aRun_sound (ctx := [⟨_, rregS⟩, ⟨_, rnumS⟩, ⟨_, rofS⟩, ⟨_, rpickS⟩, ⟨_, rlineS⟩]) 4000 ?_
  rw [Tryz.ntmps79, Tryz.results79]
  simp only [Tryz.f79, Option.getD_some, zipT]
  cases hq : (b == 2) <;> simp only [go_sem, hq]
set_option maxHeartbeats 4000000 in
theorem rr30 (xx ss : Bool) (rd rn rm ra a b c : Int) (hb : ¬ b = 2) : SW Tryz.prog ⟨none, 0⟩ Tryz.f79.ntmps (Tryz.f79.body.getD .skip) ⟨0, zipT 0 [(tAgg insR).enc ⟨30, xx, ss, rd, rn, rm, ra, a, b, c⟩], []⟩ (outQ Tryz.prog Tryz.f79.results.toList (.ret (lineV ((pickF b [(⟨#[114, 98, 105, 116]⟩ : ByteArray), (⟨#[114, 101, 118, 49, 54]⟩ : ByteArray), (⟨#[114, 101, 118, 51, 50]⟩ : ByteArray), (⟨#[114, 101, 118]⟩ : ByteArray), (⟨#[99, 108, 122]⟩ : ByteArray), (⟨#[99, 108, 115]⟩ : ByteArray)], [oReg rd xx, oReg rn xx]))))) := by
  refine aRun_sound (ctx := [⟨_, rregS⟩, ⟨_, rnumS⟩, ⟨_, rofS⟩, ⟨_, rpickS⟩, ⟨_, rlineS⟩]) 4000 ?_
  rw [Tryz.ntmps79, Tryz.results79]
  simp only [Tryz.f79, Option.getD_some, zipT]
  have hq : (b == 2) = false := by simpa using hb
  simp only [go_sem, hq]
set_option maxHeartbeats 4000000 in
theorem rr31c (xx ss : Bool) (rd rn rm ra a b c : Int) (hb : 16 ≤ b ∧ b ≤ 23) : SW Tryz.prog ⟨none, 0⟩ Tryz.f79.ntmps (Tryz.f79.body.getD .skip) ⟨0, zipT 0 [(tAgg insR).enc ⟨31, xx, ss, rd, rn, rm, ra, a, b, c⟩], []⟩ (outQ Tryz.prog Tryz.f79.results.toList (.ret (lineV (((⟨#[99, 114, 99, 51, 50]⟩ : ByteArray) ++ pickF (b - 16) [(⟨#[98]⟩ : ByteArray), (⟨#[104]⟩ : ByteArray), (⟨#[119]⟩ : ByteArray), (⟨#[120]⟩ : ByteArray), (⟨#[99, 98]⟩ : ByteArray), (⟨#[99, 104]⟩ : ByteArray), (⟨#[99, 119]⟩ : ByteArray), (⟨#[99, 120]⟩ : ByteArray)], [oReg rd false, oReg rn false, oReg rm (decide (b % 4 = 3))]))))) := by
  refine aRun_sound (ctx := [⟨_, rregS⟩, ⟨_, rnumS⟩, ⟨_, rofS⟩, ⟨_, rpickS⟩, ⟨_, rlineS⟩]) 4000 ?_
  rw [Tryz.ntmps79, Tryz.results79]
  simp only [Tryz.f79, Option.getD_some, zipT]
  have w1 : IntKind.i64.wrap (b - 16) = b - 16 := by rw [IntKind.wrap_i64]; omega
  have t4 : b.tmod 4 = b % 4 := Int.tmod_eq_emod_of_nonneg (by omega)
  have e2 := beq_dec (b % 4) 3
  have z1 : ((⟨#[99, 114, 99, 51, 50]⟩ : ByteArray)).size = 5 := rfl
  have m1 : ∀ n, 5 + (pickF n [(⟨#[98]⟩ : ByteArray), (⟨#[104]⟩ : ByteArray), (⟨#[119]⟩ : ByteArray), (⟨#[120]⟩ : ByteArray), (⟨#[99, 98]⟩ : ByteArray), (⟨#[99, 104]⟩ : ByteArray), (⟨#[99, 119]⟩ : ByteArray), (⟨#[99, 120]⟩ : ByteArray)]).size ≤ maxLen := fun n => by have : (pickF n [(⟨#[98]⟩ : ByteArray), (⟨#[104]⟩ : ByteArray), (⟨#[119]⟩ : ByteArray), (⟨#[120]⟩ : ByteArray), (⟨#[99, 98]⟩ : ByteArray), (⟨#[99, 104]⟩ : ByteArray), (⟨#[99, 119]⟩ : ByteArray), (⟨#[99, 120]⟩ : ByteArray)]).size ≤ 2 := pickF_le (by decide); unfold maxLen; omega
  simp only [go_sem, hb.1, w1, t4, e2, z1, m1]
  refine sw_drawF (ctx := [⟨_, rregS⟩, ⟨_, rnumS⟩, ⟨_, rofS⟩, ⟨_, rpickS⟩, ⟨_, rlineS⟩]) mixed ⟨[15, 16], [], []⟩ (by kernel_rfl) ?_
  simp only [go_sem, hb.1, w1, t4, e2, z1, m1]
set_option maxHeartbeats 4000000 in
theorem rr31 (xx ss : Bool) (rd rn rm ra a b c : Int) (hb : ¬ 16 ≤ b) : SW Tryz.prog ⟨none, 0⟩ Tryz.f79.ntmps (Tryz.f79.body.getD .skip) ⟨0, zipT 0 [(tAgg insR).enc ⟨31, xx, ss, rd, rn, rm, ra, a, b, c⟩], []⟩ (outQ Tryz.prog Tryz.f79.results.toList (.ret (lineV ((pickF b [emp, emp, (⟨#[117, 100, 105, 118]⟩ : ByteArray), (⟨#[115, 100, 105, 118]⟩ : ByteArray), emp, emp, emp, emp, (⟨#[108, 115, 108, 118]⟩ : ByteArray), (⟨#[108, 115, 114, 118]⟩ : ByteArray), (⟨#[97, 115, 114, 118]⟩ : ByteArray), (⟨#[114, 111, 114, 118]⟩ : ByteArray)], [oReg rd xx, oReg rn xx, oReg rm xx]))))) := by
  refine aRun_sound (ctx := [⟨_, rregS⟩, ⟨_, rnumS⟩, ⟨_, rofS⟩, ⟨_, rpickS⟩, ⟨_, rlineS⟩]) 4000 ?_
  rw [Tryz.ntmps79, Tryz.results79]
  simp only [Tryz.f79, Option.getD_some, zipT]
  simp only [go_sem, hb]
set_option maxHeartbeats 4000000 in
theorem rr320 (xx ss : Bool) (rd rn rm ra a c : Int) : SW Tryz.prog ⟨none, 0⟩ Tryz.f79.ntmps (Tryz.f79.body.getD .skip) ⟨0, zipT 0 [(tAgg insR).enc ⟨32, xx, ss, rd, rn, rm, ra, a, 0, c⟩], []⟩ (outQ Tryz.prog Tryz.f79.results.toList (.ret (lineV ((dp3N ⟨32, xx, ss, rd, rn, rm, ra, a, 0, c⟩, [oReg rd xx, oReg rn xx, oReg rm xx, oReg ra xx]))))) := by
  refine aRun_sound (ctx := [⟨_, rregS⟩, ⟨_, rnumS⟩, ⟨_, rofS⟩, ⟨_, rpickS⟩, ⟨_, rlineS⟩]) 4000 ?_
  rw [Tryz.ntmps79, Tryz.results79]
  simp only [Tryz.f79, Option.getD_some, zipT]
  simp only [go_sem, dp3N]
  refine sw_drawF (ctx := [⟨_, rregS⟩, ⟨_, rnumS⟩, ⟨_, rofS⟩, ⟨_, rpickS⟩, ⟨_, rlineS⟩]) mixed ⟨[10, 11], [], []⟩ (by kernel_rfl) ?_
  simp only [go_sem, dp3N]
set_option maxHeartbeats 4000000 in
theorem rr321 (xx ss : Bool) (rd rn rm ra a c : Int) : SW Tryz.prog ⟨none, 0⟩ Tryz.f79.ntmps (Tryz.f79.body.getD .skip) ⟨0, zipT 0 [(tAgg insR).enc ⟨32, xx, ss, rd, rn, rm, ra, a, 1, c⟩], []⟩ (outQ Tryz.prog Tryz.f79.results.toList (.ret (lineV ((dp3N ⟨32, xx, ss, rd, rn, rm, ra, a, 1, c⟩, [oReg rd xx, oReg rn xx, oReg rm xx, oReg ra xx]))))) := by
  refine aRun_sound (ctx := [⟨_, rregS⟩, ⟨_, rnumS⟩, ⟨_, rofS⟩, ⟨_, rpickS⟩, ⟨_, rlineS⟩]) 4000 ?_
  rw [Tryz.ntmps79, Tryz.results79]
  simp only [Tryz.f79, Option.getD_some, zipT]
  simp only [go_sem, dp3N]
  refine sw_drawF (ctx := [⟨_, rregS⟩, ⟨_, rnumS⟩, ⟨_, rofS⟩, ⟨_, rpickS⟩, ⟨_, rlineS⟩]) mixed ⟨[10, 11], [], []⟩ (by kernel_rfl) ?_
  simp only [go_sem, dp3N]
set_option maxHeartbeats 4000000 in
theorem rr324 (xx ss : Bool) (rd rn rm ra a c : Int) : SW Tryz.prog ⟨none, 0⟩ Tryz.f79.ntmps (Tryz.f79.body.getD .skip) ⟨0, zipT 0 [(tAgg insR).enc ⟨32, xx, ss, rd, rn, rm, ra, a, 4, c⟩], []⟩ (outQ Tryz.prog Tryz.f79.results.toList (.ret (lineV ((dp3N ⟨32, xx, ss, rd, rn, rm, ra, a, 4, c⟩, [oReg rd true, oReg rn true, oReg rm true]))))) := by
  refine aRun_sound (ctx := [⟨_, rregS⟩, ⟨_, rnumS⟩, ⟨_, rofS⟩, ⟨_, rpickS⟩, ⟨_, rlineS⟩]) 4000 ?_
  rw [Tryz.ntmps79, Tryz.results79]
  simp only [Tryz.f79, Option.getD_some, zipT]
  simp only [go_sem, dp3N]
  refine sw_drawF (ctx := [⟨_, rregS⟩, ⟨_, rnumS⟩, ⟨_, rofS⟩, ⟨_, rpickS⟩, ⟨_, rlineS⟩]) mixed ⟨[11, 12], [], []⟩ (by kernel_rfl) ?_
  simp only [go_sem, dp3N]
set_option maxHeartbeats 4000000 in
theorem rr327 (xx ss : Bool) (rd rn rm ra a c : Int) : SW Tryz.prog ⟨none, 0⟩ Tryz.f79.ntmps (Tryz.f79.body.getD .skip) ⟨0, zipT 0 [(tAgg insR).enc ⟨32, xx, ss, rd, rn, rm, ra, a, 7, c⟩], []⟩ (outQ Tryz.prog Tryz.f79.results.toList (.ret (lineV ((dp3N ⟨32, xx, ss, rd, rn, rm, ra, a, 7, c⟩, [oReg rd true, oReg rn true, oReg rm true]))))) := by
  refine aRun_sound (ctx := [⟨_, rregS⟩, ⟨_, rnumS⟩, ⟨_, rofS⟩, ⟨_, rpickS⟩, ⟨_, rlineS⟩]) 4000 ?_
  rw [Tryz.ntmps79, Tryz.results79]
  simp only [Tryz.f79, Option.getD_some, zipT]
  simp only [go_sem, dp3N]
  refine sw_drawF (ctx := [⟨_, rregS⟩, ⟨_, rnumS⟩, ⟨_, rofS⟩, ⟨_, rpickS⟩, ⟨_, rlineS⟩]) mixed ⟨[11, 12], [], []⟩ (by kernel_rfl) ?_
  simp only [go_sem, dp3N]
set_option maxHeartbeats 4000000 in
theorem rr32 (xx ss : Bool) (rd rn rm ra a b c : Int) (hb : ¬ b = 0 ∧ ¬ b = 1 ∧ ¬ b = 4 ∧ ¬ b = 7) : SW Tryz.prog ⟨none, 0⟩ Tryz.f79.ntmps (Tryz.f79.body.getD .skip) ⟨0, zipT 0 [(tAgg insR).enc ⟨32, xx, ss, rd, rn, rm, ra, a, b, c⟩], []⟩ (outQ Tryz.prog Tryz.f79.results.toList (.ret (lineV ((dp3N ⟨32, xx, ss, rd, rn, rm, ra, a, b, c⟩, [oReg rd true, oReg rn false, oReg rm false, oReg ra true]))))) := by
  refine aRun_sound (ctx := [⟨_, rregS⟩, ⟨_, rnumS⟩, ⟨_, rofS⟩, ⟨_, rpickS⟩, ⟨_, rlineS⟩]) 4000 ?_
  rw [Tryz.ntmps79, Tryz.results79]
  simp only [Tryz.f79, Option.getD_some, zipT]
  have h0 : (b == 0) = false := by simpa using hb.1
  have h1 : (b == 1) = false := by simpa using hb.2.1
  have h4 : (b == 4) = false := by simpa using hb.2.2.1
  have h7 : (b == 7) = false := by simpa using hb.2.2.2
  simp only [go_sem, dp3N, h0, h1, h4, h7]
  refine sw_drawF (ctx := [⟨_, rregS⟩, ⟨_, rnumS⟩, ⟨_, rofS⟩, ⟨_, rpickS⟩, ⟨_, rlineS⟩]) mixed ⟨[14, 15], [], []⟩ (by kernel_rfl) ?_
  simp only [go_sem, dp3N, h0, h1, h4, h7]

end Go.Proofs.YtpjlafmhoifkmaaGreat
