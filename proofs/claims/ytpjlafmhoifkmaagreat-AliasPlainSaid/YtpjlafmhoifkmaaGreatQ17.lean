/- The document's lines: loads and stores of one register. -/
import Derived.Test.YtpjlafmhoifkmaaGreatQ13
import Derived.Test.YtpjlafmhoifkmaaGreatP3
set_option linter.unusedVariables false
set_option linter.unusedSimpArgs false
namespace Go.Proofs.YtpjlafmhoifkmaaGreat
open Go.RowKit
set_option maxRecDepth 100000

attribute [local go_sem] rreg_run rreg_pan rregSP_run rregSP_pan rspIf_run rspIf_pan rnum_run rnum_pan rto_run rto_pan rof_run rof_pan rmod_run rmod_pan rmem_run rmem_pan rflagn_run rflagn_pan rflagNum_run rflagNum_pan rpick_run rpick_pan rline_run rline_pan runR panR decPk decWordL decAll outPk decLn7 decOpL outLn7 opV opR opE oReg oSP oNum oTo oOf oWith oMem op0 r0 emp runQ gOf opsK opL_ren1 mapT_opL lineV insR
def trI (N : ByteArray) (o : OpV) (x : Ins) (i : Nat) : St := ⟨3, [(1, .s (.l (.p 0 0 0))), (2, .s (.l (.p 1 0 0))), (3, sv N), (6, .s (.l (.p 2 0 0))), (7, iv (x.a * 2 ^ i)), (8, iv i)], [(0, some (insC x)), (1, some boxL), (2, some (oprC o))]⟩
set_option maxHeartbeats 4000000 in
theorem rt20 (xx ss : Bool) (rd rn rm ra a b c : Int) (N : ByteArray) (L W : Bool) (hT : transF b c = (N, L, W)) (hp : ¬ N = (⟨#[112, 114, 102, 109]⟩ : ByteArray)) (hb : 0 ≤ b ∧ b ≤ 3) (ha : 0 ≤ a ∧ a ≤ 4095) : SW Tryz.prog ⟨none, 0⟩ Tryz.f76.ntmps (Tryz.f76.body.getD .skip) ⟨0, zipT 0 [(tAgg insR).enc ⟨20, xx, ss, rd, rn, rm, ra, a, b, c⟩], []⟩ (outQ Tryz.prog Tryz.f76.results.toList (.ret (lineV ((N, [oReg rd W, oMem rn 0 (a * 2 ^ b.toNat)]))))) := by
  refine aRun_sound (ctx := [⟨_, rregS⟩, ⟨_, rofS⟩, ⟨_, rmemS⟩, ⟨_, rlineS⟩, ⟨_, rtransferS⟩]) 4000 ?_
  rw [Tryz.ntmps76, Tryz.results76]
  simp only [Tryz.f76, Option.getD_some, zipT]
  simp only [go_sem, rtransfer_run, rtransfer_pan, transO, hT, hp]
  refine sw_loop (ι := Nat) (fun i => i ≤ b.toNat) (trI N (oReg rd W) ⟨20, xx, ss, rd, rn, rm, ra, a, b, c⟩) (fun i => b.toNat - i) 0 (Nat.zero_le _) (Wk.renL [0, 16, 288] (by simp) (Nat.le_refl 3) (by decide) (by simp [trI, tget, AV.ren, SV.ren, LV.ren]) rfl) ?_
  intro i hi
  refine aRun_sound (ctx := [⟨_, rregS⟩, ⟨_, rregSPS⟩, ⟨_, rspIfS⟩, ⟨_, rnumS⟩, ⟨_, rtoS⟩, ⟨_, rofS⟩, ⟨_, rmodS⟩, ⟨_, rmemS⟩, ⟨_, rflagnS⟩, ⟨_, rflagNumS⟩, ⟨_, rpickS⟩, ⟨_, rlineS⟩]) 4000 ?_
  by_cases hlt : i < b.toNat
  · have hltI : (i : Int) < b := by omega
    have ei : IntKind.i64.wrap ((i : Int) + 1) = ((i + 1 : Nat) : Int) := by rw [IntKind.wrap_i64]; omega
    have ep : IntKind.i64.wrap (a * 2 ^ i * 2) = a * 2 ^ (i + 1) := by
      have : i = 0 ∨ i = 1 ∨ i = 2 := by omega
      rcases this with rfl | rfl | rfl <;> (rw [IntKind.wrap_i64]; simp <;> omega)
    simp only [go_sem, trI, insC, insE, boxL, oprC, opL, hltI, ei, ep]
    exact ⟨i + 1, by omega, by omega, Wk.renL [0, 1, 2] (by simp) (Nat.le_refl 3) (by decide) rfl rfl⟩
  · obtain rfl : i = b.toNat := by omega
    have hltI : ¬ ((b.toNat : Nat) : Int) < b := by omega
    simp only [go_sem, trI, insC, insE, boxL, oprC, opL, hltI]
    refine sw_drawF (ctx := [⟨_, rregS⟩, ⟨_, rregSPS⟩, ⟨_, rspIfS⟩, ⟨_, rnumS⟩, ⟨_, rtoS⟩, ⟨_, rofS⟩, ⟨_, rmodS⟩, ⟨_, rmemS⟩, ⟨_, rflagnS⟩, ⟨_, rflagNumS⟩, ⟨_, rpickS⟩, ⟨_, rlineS⟩]) mixed ⟨[7, 8], [], []⟩ (by kernel_rfl) ?_
    simp only [go_sem, ofDs, ofD, opL]
set_option maxHeartbeats 4000000 in
theorem rt210 (xx ss : Bool) (rd rn rm ra a b c : Int) (N : ByteArray) (L W : Bool) (hT : transF b c = (N, L, W)) (hp : ¬ N = (⟨#[112, 114, 102, 109]⟩ : ByteArray)) (hN : 3 ≤ N.size ∧ N.size ≤ 5) : SW Tryz.prog ⟨none, 0⟩ Tryz.f76.ntmps (Tryz.f76.body.getD .skip) ⟨0, zipT 0 [(tAgg insR).enc ⟨21, xx, ss, rd, rn, rm, 0, a, b, c⟩], []⟩ (outQ Tryz.prog Tryz.f76.results.toList (.ret (lineV ((putF N (⟨#[117, 114]⟩ : ByteArray), [oReg rd W, oMem rn 0 a]))))) := by
  refine aRun_sound (ctx := [⟨_, rregS⟩, ⟨_, rofS⟩, ⟨_, rmemS⟩, ⟨_, rlineS⟩, ⟨_, rtransferS⟩, ⟨_, rputS⟩]) 4000 ?_
  rw [Tryz.ntmps76, Tryz.results76]
  simp only [Tryz.f76, Option.getD_some, zipT]
  simp only [go_sem, rtransfer_run, rtransfer_pan, transO, hT, hp, rput_run, rput_pan, hN.1, hN.2]
  refine sw_drawF (ctx := [⟨_, rregS⟩, ⟨_, rofS⟩, ⟨_, rmemS⟩, ⟨_, rlineS⟩, ⟨_, rtransferS⟩, ⟨_, rputS⟩]) mixed ⟨[9, 10], [], []⟩ (by kernel_rfl) ?_
  simp only [go_sem, rtransfer_run, rtransfer_pan, transO, hT, hp, rput_run, rput_pan, hN.1, hN.2]
set_option maxHeartbeats 4000000 in
theorem rt211 (xx ss : Bool) (rd rn rm ra a b c : Int) (N : ByteArray) (L W : Bool) (hT : transF b c = (N, L, W)) (hp : ¬ N = (⟨#[112, 114, 102, 109]⟩ : ByteArray)) : SW Tryz.prog ⟨none, 0⟩ Tryz.f76.ntmps (Tryz.f76.body.getD .skip) ⟨0, zipT 0 [(tAgg insR).enc ⟨21, xx, ss, rd, rn, rm, 1, a, b, c⟩], []⟩ (outQ Tryz.prog Tryz.f76.results.toList (.ret (lineV ((N, [oReg rd W, oMem rn 2 a]))))) := by
  refine aRun_sound (ctx := [⟨_, rregS⟩, ⟨_, rofS⟩, ⟨_, rmemS⟩, ⟨_, rlineS⟩, ⟨_, rtransferS⟩]) 4000 ?_
  rw [Tryz.ntmps76, Tryz.results76]
  simp only [Tryz.f76, Option.getD_some, zipT]
  simp only [go_sem, rtransfer_run, rtransfer_pan, transO, hT, hp]
  refine sw_drawF (ctx := [⟨_, rregS⟩, ⟨_, rofS⟩, ⟨_, rmemS⟩, ⟨_, rlineS⟩, ⟨_, rtransferS⟩]) mixed ⟨[8, 9], [], []⟩ (by kernel_rfl) ?_
  simp only [go_sem, rtransfer_run, rtransfer_pan, transO, hT, hp]
set_option maxHeartbeats 4000000 in
theorem rt212 (xx ss : Bool) (rd rn rm ra a b c : Int) (N : ByteArray) (L W : Bool) (hT : transF b c = (N, L, W)) (hp : ¬ N = (⟨#[112, 114, 102, 109]⟩ : ByteArray)) (hN : 3 ≤ N.size ∧ N.size ≤ 5) : SW Tryz.prog ⟨none, 0⟩ Tryz.f76.ntmps (Tryz.f76.body.getD .skip) ⟨0, zipT 0 [(tAgg insR).enc ⟨21, xx, ss, rd, rn, rm, 2, a, b, c⟩], []⟩ (outQ Tryz.prog Tryz.f76.results.toList (.ret (lineV ((putF N (⟨#[116, 114]⟩ : ByteArray), [oReg rd W, oMem rn 0 a]))))) := by
  refine aRun_sound (ctx := [⟨_, rregS⟩, ⟨_, rofS⟩, ⟨_, rmemS⟩, ⟨_, rlineS⟩, ⟨_, rtransferS⟩, ⟨_, rputS⟩]) 4000 ?_
  rw [Tryz.ntmps76, Tryz.results76]
  simp only [Tryz.f76, Option.getD_some, zipT]
  simp only [go_sem, rtransfer_run, rtransfer_pan, transO, hT, hp, rput_run, rput_pan, hN.1, hN.2]
  refine sw_drawF (ctx := [⟨_, rregS⟩, ⟨_, rofS⟩, ⟨_, rmemS⟩, ⟨_, rlineS⟩, ⟨_, rtransferS⟩, ⟨_, rputS⟩]) mixed ⟨[9, 10], [], []⟩ (by kernel_rfl) ?_
  simp only [go_sem, rtransfer_run, rtransfer_pan, transO, hT, hp, rput_run, rput_pan, hN.1, hN.2]
set_option maxHeartbeats 4000000 in
theorem rt21 (xx ss : Bool) (rd rn rm ra a b c : Int) (N : ByteArray) (L W : Bool) (hT : transF b c = (N, L, W)) (hp : ¬ N = (⟨#[112, 114, 102, 109]⟩ : ByteArray)) (hr : ¬ ra = 0 ∧ ¬ ra = 1 ∧ ¬ ra = 2) : SW Tryz.prog ⟨none, 0⟩ Tryz.f76.ntmps (Tryz.f76.body.getD .skip) ⟨0, zipT 0 [(tAgg insR).enc ⟨21, xx, ss, rd, rn, rm, ra, a, b, c⟩], []⟩ (outQ Tryz.prog Tryz.f76.results.toList (.ret (lineV ((N, [oReg rd W, oMem rn 1 a]))))) := by
  refine aRun_sound (ctx := [⟨_, rregS⟩, ⟨_, rofS⟩, ⟨_, rmemS⟩, ⟨_, rlineS⟩, ⟨_, rtransferS⟩]) 4000 ?_
  rw [Tryz.ntmps76, Tryz.results76]
  simp only [Tryz.f76, Option.getD_some, zipT]
  have h0 : (ra == 0) = false := by simpa using hr.1
  have h1 : (ra == 1) = false := by simpa using hr.2.1
  have h2 : (ra == 2) = false := by simpa using hr.2.2
  simp only [go_sem, rtransfer_run, rtransfer_pan, transO, hT, hp, h0, h1, h2]
  refine sw_drawF (ctx := [⟨_, rregS⟩, ⟨_, rofS⟩, ⟨_, rmemS⟩, ⟨_, rlineS⟩, ⟨_, rtransferS⟩]) mixed ⟨[8, 9], [], []⟩ (by kernel_rfl) ?_
  simp only [go_sem, rtransfer_run, rtransfer_pan, transO, hT, hp, h0, h1, h2]
set_option maxHeartbeats 4000000 in
theorem rt222s (xx : Bool) (rd rn rm ra a b c : Int) (N : ByteArray) (L W : Bool) (hT : transF b c = (N, L, W)) (hp : ¬ N = (⟨#[112, 114, 102, 109]⟩ : ByteArray)) (ha : 0 ≤ a ∧ a ≤ 7) (hk : a = 2) : SW Tryz.prog ⟨none, 0⟩ Tryz.f76.ntmps (Tryz.f76.body.getD .skip) ⟨0, zipT 0 [(tAgg insR).enc ⟨22, xx, true, rd, rn, rm, ra, a, b, c⟩], []⟩ (outQ Tryz.prog Tryz.f76.results.toList (.ret (lineV ((N, [oReg rd W, { oMem rn 3 0 with m := ⟨rm, decide (a % 2 = 1), false⟩, md := 7, amt := b }]))))) := by
  refine aRun_sound (ctx := [⟨_, rregS⟩, ⟨_, rofS⟩, ⟨_, rmemS⟩, ⟨_, rlineS⟩, ⟨_, rtransferS⟩]) 4000 ?_
  rw [Tryz.ntmps76, Tryz.results76]
  simp only [Tryz.f76, Option.getD_some, zipT]
  have d : a.tmod 2 = a % 2 := Int.tmod_eq_emod_of_nonneg ha.1
  have e2 := beq_dec (a % 2) 1
  have h2 : (a == 2) = true := by simpa using hk
  have h3 : (a == 3) = false := by simpa using (show ¬ a = 3 by omega)
  have h6 : (a == 6) = false := by simpa using (show ¬ a = 6 by omega)
  simp only [go_sem, rtransfer_run, rtransfer_pan, transO, hT, hp, d, e2, h2, h3, h6]
set_option maxHeartbeats 4000000 in
theorem rt223s (xx : Bool) (rd rn rm ra a b c : Int) (N : ByteArray) (L W : Bool) (hT : transF b c = (N, L, W)) (hp : ¬ N = (⟨#[112, 114, 102, 109]⟩ : ByteArray)) (ha : 0 ≤ a ∧ a ≤ 7) (hk : a = 3) : SW Tryz.prog ⟨none, 0⟩ Tryz.f76.ntmps (Tryz.f76.body.getD .skip) ⟨0, zipT 0 [(tAgg insR).enc ⟨22, xx, true, rd, rn, rm, ra, a, b, c⟩], []⟩ (outQ Tryz.prog Tryz.f76.results.toList (.ret (lineV ((N, [oReg rd W, { oMem rn 3 0 with m := ⟨rm, decide (a % 2 = 1), false⟩, md := 1, amt := b }]))))) := by
  refine aRun_sound (ctx := [⟨_, rregS⟩, ⟨_, rofS⟩, ⟨_, rmemS⟩, ⟨_, rlineS⟩, ⟨_, rtransferS⟩]) 4000 ?_
  rw [Tryz.ntmps76, Tryz.results76]
  simp only [Tryz.f76, Option.getD_some, zipT]
  have d : a.tmod 2 = a % 2 := Int.tmod_eq_emod_of_nonneg ha.1
  have e2 := beq_dec (a % 2) 1
  have h2 : (a == 2) = false := by simpa using (show ¬ a = 2 by omega)
  have h3 : (a == 3) = true := by simpa using hk
  have h6 : (a == 6) = false := by simpa using (show ¬ a = 6 by omega)
  simp only [go_sem, rtransfer_run, rtransfer_pan, transO, hT, hp, d, e2, h2, h3, h6]
set_option maxHeartbeats 4000000 in
theorem rt226s (xx : Bool) (rd rn rm ra a b c : Int) (N : ByteArray) (L W : Bool) (hT : transF b c = (N, L, W)) (hp : ¬ N = (⟨#[112, 114, 102, 109]⟩ : ByteArray)) (ha : 0 ≤ a ∧ a ≤ 7) (hk : a = 6) : SW Tryz.prog ⟨none, 0⟩ Tryz.f76.ntmps (Tryz.f76.body.getD .skip) ⟨0, zipT 0 [(tAgg insR).enc ⟨22, xx, true, rd, rn, rm, ra, a, b, c⟩], []⟩ (outQ Tryz.prog Tryz.f76.results.toList (.ret (lineV ((N, [oReg rd W, { oMem rn 3 0 with m := ⟨rm, decide (a % 2 = 1), false⟩, md := 11, amt := b }]))))) := by
  refine aRun_sound (ctx := [⟨_, rregS⟩, ⟨_, rofS⟩, ⟨_, rmemS⟩, ⟨_, rlineS⟩, ⟨_, rtransferS⟩]) 4000 ?_
  rw [Tryz.ntmps76, Tryz.results76]
  simp only [Tryz.f76, Option.getD_some, zipT]
  have d : a.tmod 2 = a % 2 := Int.tmod_eq_emod_of_nonneg ha.1
  have e2 := beq_dec (a % 2) 1
  have h2 : (a == 2) = false := by simpa using (show ¬ a = 2 by omega)
  have h3 : (a == 3) = false := by simpa using (show ¬ a = 3 by omega)
  have h6 : (a == 6) = true := by simpa using hk
  simp only [go_sem, rtransfer_run, rtransfer_pan, transO, hT, hp, d, e2, h2, h3, h6]
set_option maxHeartbeats 4000000 in
theorem rt22os (xx : Bool) (rd rn rm ra a b c : Int) (N : ByteArray) (L W : Bool) (hT : transF b c = (N, L, W)) (hp : ¬ N = (⟨#[112, 114, 102, 109]⟩ : ByteArray)) (ha : 0 ≤ a ∧ a ≤ 7) (hk : ¬ a = 2 ∧ ¬ a = 3 ∧ ¬ a = 6) : SW Tryz.prog ⟨none, 0⟩ Tryz.f76.ntmps (Tryz.f76.body.getD .skip) ⟨0, zipT 0 [(tAgg insR).enc ⟨22, xx, true, rd, rn, rm, ra, a, b, c⟩], []⟩ (outQ Tryz.prog Tryz.f76.results.toList (.ret (lineV ((N, [oReg rd W, { oMem rn 3 0 with m := ⟨rm, decide (a % 2 = 1), false⟩, md := 12, amt := b }]))))) := by
  refine aRun_sound (ctx := [⟨_, rregS⟩, ⟨_, rofS⟩, ⟨_, rmemS⟩, ⟨_, rlineS⟩, ⟨_, rtransferS⟩]) 4000 ?_
  rw [Tryz.ntmps76, Tryz.results76]
  simp only [Tryz.f76, Option.getD_some, zipT]
  have d : a.tmod 2 = a % 2 := Int.tmod_eq_emod_of_nonneg ha.1
  have e2 := beq_dec (a % 2) 1
  have h2 : (a == 2) = false := by simpa using hk.1
  have h3 : (a == 3) = false := by simpa using hk.2.1
  have h6 : (a == 6) = false := by simpa using hk.2.2
  simp only [go_sem, rtransfer_run, rtransfer_pan, transO, hT, hp, d, e2, h2, h3, h6]
set_option maxHeartbeats 4000000 in
theorem rt222 (xx : Bool) (rd rn rm ra a b c : Int) (N : ByteArray) (L W : Bool) (hT : transF b c = (N, L, W)) (hp : ¬ N = (⟨#[112, 114, 102, 109]⟩ : ByteArray)) (ha : 0 ≤ a ∧ a ≤ 7) (hk : a = 2) : SW Tryz.prog ⟨none, 0⟩ Tryz.f76.ntmps (Tryz.f76.body.getD .skip) ⟨0, zipT 0 [(tAgg insR).enc ⟨22, xx, false, rd, rn, rm, ra, a, b, c⟩], []⟩ (outQ Tryz.prog Tryz.f76.results.toList (.ret (lineV ((N, [oReg rd W, { oMem rn 3 0 with m := ⟨rm, decide (a % 2 = 1), false⟩, md := 7, amt := -1 }]))))) := by
  refine aRun_sound (ctx := [⟨_, rregS⟩, ⟨_, rofS⟩, ⟨_, rmemS⟩, ⟨_, rlineS⟩, ⟨_, rtransferS⟩]) 4000 ?_
  rw [Tryz.ntmps76, Tryz.results76]
  simp only [Tryz.f76, Option.getD_some, zipT]
  have d : a.tmod 2 = a % 2 := Int.tmod_eq_emod_of_nonneg ha.1
  have e2 := beq_dec (a % 2) 1
  have h2 : (a == 2) = true := by simpa using hk
  have h3 : (a == 3) = false := by simpa using (show ¬ a = 3 by omega)
  have h6 : (a == 6) = false := by simpa using (show ¬ a = 6 by omega)
  simp only [go_sem, rtransfer_run, rtransfer_pan, transO, hT, hp, d, e2, h2, h3, h6]
set_option maxHeartbeats 4000000 in
theorem rt223 (xx : Bool) (rd rn rm ra a b c : Int) (N : ByteArray) (L W : Bool) (hT : transF b c = (N, L, W)) (hp : ¬ N = (⟨#[112, 114, 102, 109]⟩ : ByteArray)) (ha : 0 ≤ a ∧ a ≤ 7) (hk : a = 3) : SW Tryz.prog ⟨none, 0⟩ Tryz.f76.ntmps (Tryz.f76.body.getD .skip) ⟨0, zipT 0 [(tAgg insR).enc ⟨22, xx, false, rd, rn, rm, ra, a, b, c⟩], []⟩ (outQ Tryz.prog Tryz.f76.results.toList (.ret (lineV ((N, [oReg rd W, { oMem rn 3 0 with m := ⟨rm, decide (a % 2 = 1), false⟩, md := 1, amt := -1 }]))))) := by
  refine aRun_sound (ctx := [⟨_, rregS⟩, ⟨_, rofS⟩, ⟨_, rmemS⟩, ⟨_, rlineS⟩, ⟨_, rtransferS⟩]) 4000 ?_
  rw [Tryz.ntmps76, Tryz.results76]
  simp only [Tryz.f76, Option.getD_some, zipT]
  have d : a.tmod 2 = a % 2 := Int.tmod_eq_emod_of_nonneg ha.1
  have e2 := beq_dec (a % 2) 1
  have h2 : (a == 2) = false := by simpa using (show ¬ a = 2 by omega)
  have h3 : (a == 3) = true := by simpa using hk
  have h6 : (a == 6) = false := by simpa using (show ¬ a = 6 by omega)
  simp only [go_sem, rtransfer_run, rtransfer_pan, transO, hT, hp, d, e2, h2, h3, h6]
set_option maxHeartbeats 4000000 in
theorem rt226 (xx : Bool) (rd rn rm ra a b c : Int) (N : ByteArray) (L W : Bool) (hT : transF b c = (N, L, W)) (hp : ¬ N = (⟨#[112, 114, 102, 109]⟩ : ByteArray)) (ha : 0 ≤ a ∧ a ≤ 7) (hk : a = 6) : SW Tryz.prog ⟨none, 0⟩ Tryz.f76.ntmps (Tryz.f76.body.getD .skip) ⟨0, zipT 0 [(tAgg insR).enc ⟨22, xx, false, rd, rn, rm, ra, a, b, c⟩], []⟩ (outQ Tryz.prog Tryz.f76.results.toList (.ret (lineV ((N, [oReg rd W, { oMem rn 3 0 with m := ⟨rm, decide (a % 2 = 1), false⟩, md := 11, amt := -1 }]))))) := by
  refine aRun_sound (ctx := [⟨_, rregS⟩, ⟨_, rofS⟩, ⟨_, rmemS⟩, ⟨_, rlineS⟩, ⟨_, rtransferS⟩]) 4000 ?_
  rw [Tryz.ntmps76, Tryz.results76]
  simp only [Tryz.f76, Option.getD_some, zipT]
  have d : a.tmod 2 = a % 2 := Int.tmod_eq_emod_of_nonneg ha.1
  have e2 := beq_dec (a % 2) 1
  have h2 : (a == 2) = false := by simpa using (show ¬ a = 2 by omega)
  have h3 : (a == 3) = false := by simpa using (show ¬ a = 3 by omega)
  have h6 : (a == 6) = true := by simpa using hk
  simp only [go_sem, rtransfer_run, rtransfer_pan, transO, hT, hp, d, e2, h2, h3, h6]
set_option maxHeartbeats 4000000 in
theorem rt22o (xx : Bool) (rd rn rm ra a b c : Int) (N : ByteArray) (L W : Bool) (hT : transF b c = (N, L, W)) (hp : ¬ N = (⟨#[112, 114, 102, 109]⟩ : ByteArray)) (ha : 0 ≤ a ∧ a ≤ 7) (hk : ¬ a = 2 ∧ ¬ a = 3 ∧ ¬ a = 6) : SW Tryz.prog ⟨none, 0⟩ Tryz.f76.ntmps (Tryz.f76.body.getD .skip) ⟨0, zipT 0 [(tAgg insR).enc ⟨22, xx, false, rd, rn, rm, ra, a, b, c⟩], []⟩ (outQ Tryz.prog Tryz.f76.results.toList (.ret (lineV ((N, [oReg rd W, { oMem rn 3 0 with m := ⟨rm, decide (a % 2 = 1), false⟩, md := 12, amt := -1 }]))))) := by
  refine aRun_sound (ctx := [⟨_, rregS⟩, ⟨_, rofS⟩, ⟨_, rmemS⟩, ⟨_, rlineS⟩, ⟨_, rtransferS⟩]) 4000 ?_
  rw [Tryz.ntmps76, Tryz.results76]
  simp only [Tryz.f76, Option.getD_some, zipT]
  have d : a.tmod 2 = a % 2 := Int.tmod_eq_emod_of_nonneg ha.1
  have e2 := beq_dec (a % 2) 1
  have h2 : (a == 2) = false := by simpa using hk.1
  have h3 : (a == 3) = false := by simpa using hk.2.1
  have h6 : (a == 6) = false := by simpa using hk.2.2
  simp only [go_sem, rtransfer_run, rtransfer_pan, transO, hT, hp, d, e2, h2, h3, h6]
set_option maxHeartbeats 4000000 in
theorem rt20p (xx ss : Bool) (rd rn rm ra a b c : Int) (N : ByteArray) (L W : Bool) (hT : transF b c = (N, L, W)) (hp : N = (⟨#[112, 114, 102, 109]⟩ : ByteArray)) (hb : 0 ≤ b ∧ b ≤ 3) (ha : 0 ≤ a ∧ a ≤ 4095) : SW Tryz.prog ⟨none, 0⟩ Tryz.f76.ntmps (Tryz.f76.body.getD .skip) ⟨0, zipT 0 [(tAgg insR).enc ⟨20, xx, ss, rd, rn, rm, ra, a, b, c⟩], []⟩ (outQ Tryz.prog Tryz.f76.results.toList (.ret (lineV ((N, [oOf 8 rd, oMem rn 0 (a * 2 ^ b.toNat)]))))) := by
  refine aRun_sound (ctx := [⟨_, rregS⟩, ⟨_, rofS⟩, ⟨_, rmemS⟩, ⟨_, rlineS⟩, ⟨_, rtransferS⟩]) 4000 ?_
  rw [Tryz.ntmps76, Tryz.results76]
  simp only [Tryz.f76, Option.getD_some, zipT]
  simp only [go_sem, rtransfer_run, rtransfer_pan, transO, hT, eq_true hp]
  refine sw_loop (ι := Nat) (fun i => i ≤ b.toNat) (trI N (oOf 8 rd) ⟨20, xx, ss, rd, rn, rm, ra, a, b, c⟩) (fun i => b.toNat - i) 0 (Nat.zero_le _) (Wk.renL [0, 16, 288] (by simp) (Nat.le_refl 3) (by decide) (by simp [trI, tget, AV.ren, SV.ren, LV.ren]) rfl) ?_
  intro i hi
  refine aRun_sound (ctx := [⟨_, rregS⟩, ⟨_, rregSPS⟩, ⟨_, rspIfS⟩, ⟨_, rnumS⟩, ⟨_, rtoS⟩, ⟨_, rofS⟩, ⟨_, rmodS⟩, ⟨_, rmemS⟩, ⟨_, rflagnS⟩, ⟨_, rflagNumS⟩, ⟨_, rpickS⟩, ⟨_, rlineS⟩]) 4000 ?_
  by_cases hlt : i < b.toNat
  · have hltI : (i : Int) < b := by omega
    have ei : IntKind.i64.wrap ((i : Int) + 1) = ((i + 1 : Nat) : Int) := by rw [IntKind.wrap_i64]; omega
    have ep : IntKind.i64.wrap (a * 2 ^ i * 2) = a * 2 ^ (i + 1) := by
      have : i = 0 ∨ i = 1 ∨ i = 2 := by omega
      rcases this with rfl | rfl | rfl <;> (rw [IntKind.wrap_i64]; simp <;> omega)
    simp only [go_sem, trI, insC, insE, boxL, oprC, opL, hltI, ei, ep]
    exact ⟨i + 1, by omega, by omega, Wk.renL [0, 1, 2] (by simp) (Nat.le_refl 3) (by decide) rfl rfl⟩
  · obtain rfl : i = b.toNat := by omega
    have hltI : ¬ ((b.toNat : Nat) : Int) < b := by omega
    simp only [go_sem, trI, insC, insE, boxL, oprC, opL, hltI]
    refine sw_drawF (ctx := [⟨_, rregS⟩, ⟨_, rregSPS⟩, ⟨_, rspIfS⟩, ⟨_, rnumS⟩, ⟨_, rtoS⟩, ⟨_, rofS⟩, ⟨_, rmodS⟩, ⟨_, rmemS⟩, ⟨_, rflagnS⟩, ⟨_, rflagNumS⟩, ⟨_, rpickS⟩, ⟨_, rlineS⟩]) mixed ⟨[7, 8], [], []⟩ (by kernel_rfl) ?_
    simp only [go_sem, ofDs, ofD, opL]
set_option maxHeartbeats 4000000 in
theorem rt210p (xx ss : Bool) (rd rn rm ra a b c : Int) (N : ByteArray) (L W : Bool) (hT : transF b c = (N, L, W)) (hp : N = (⟨#[112, 114, 102, 109]⟩ : ByteArray)) (hN : 3 ≤ N.size ∧ N.size ≤ 5) : SW Tryz.prog ⟨none, 0⟩ Tryz.f76.ntmps (Tryz.f76.body.getD .skip) ⟨0, zipT 0 [(tAgg insR).enc ⟨21, xx, ss, rd, rn, rm, 0, a, b, c⟩], []⟩ (outQ Tryz.prog Tryz.f76.results.toList (.ret (lineV ((putF N (⟨#[117, 114]⟩ : ByteArray), [oOf 8 rd, oMem rn 0 a]))))) := by
  refine aRun_sound (ctx := [⟨_, rregS⟩, ⟨_, rofS⟩, ⟨_, rmemS⟩, ⟨_, rlineS⟩, ⟨_, rtransferS⟩, ⟨_, rputS⟩]) 4000 ?_
  rw [Tryz.ntmps76, Tryz.results76]
  simp only [Tryz.f76, Option.getD_some, zipT]
  simp only [go_sem, rtransfer_run, rtransfer_pan, transO, hT, eq_true hp, rput_run, rput_pan, hN.1, hN.2]
  refine sw_drawF (ctx := [⟨_, rregS⟩, ⟨_, rofS⟩, ⟨_, rmemS⟩, ⟨_, rlineS⟩, ⟨_, rtransferS⟩, ⟨_, rputS⟩]) mixed ⟨[9, 10], [], []⟩ (by kernel_rfl) ?_
  simp only [go_sem, rtransfer_run, rtransfer_pan, transO, hT, eq_true hp, rput_run, rput_pan, hN.1, hN.2]
set_option maxHeartbeats 4000000 in
theorem rt211p (xx ss : Bool) (rd rn rm ra a b c : Int) (N : ByteArray) (L W : Bool) (hT : transF b c = (N, L, W)) (hp : N = (⟨#[112, 114, 102, 109]⟩ : ByteArray)) : SW Tryz.prog ⟨none, 0⟩ Tryz.f76.ntmps (Tryz.f76.body.getD .skip) ⟨0, zipT 0 [(tAgg insR).enc ⟨21, xx, ss, rd, rn, rm, 1, a, b, c⟩], []⟩ (outQ Tryz.prog Tryz.f76.results.toList (.ret (lineV ((N, [oOf 8 rd, oMem rn 2 a]))))) := by
  refine aRun_sound (ctx := [⟨_, rregS⟩, ⟨_, rofS⟩, ⟨_, rmemS⟩, ⟨_, rlineS⟩, ⟨_, rtransferS⟩]) 4000 ?_
  rw [Tryz.ntmps76, Tryz.results76]
  simp only [Tryz.f76, Option.getD_some, zipT]
  simp only [go_sem, rtransfer_run, rtransfer_pan, transO, hT, eq_true hp]
  refine sw_drawF (ctx := [⟨_, rregS⟩, ⟨_, rofS⟩, ⟨_, rmemS⟩, ⟨_, rlineS⟩, ⟨_, rtransferS⟩]) mixed ⟨[8, 9], [], []⟩ (by kernel_rfl) ?_
  simp only [go_sem, rtransfer_run, rtransfer_pan, transO, hT, eq_true hp]
set_option maxHeartbeats 4000000 in
theorem rt212p (xx ss : Bool) (rd rn rm ra a b c : Int) (N : ByteArray) (L W : Bool) (hT : transF b c = (N, L, W)) (hp : N = (⟨#[112, 114, 102, 109]⟩ : ByteArray)) (hN : 3 ≤ N.size ∧ N.size ≤ 5) : SW Tryz.prog ⟨none, 0⟩ Tryz.f76.ntmps (Tryz.f76.body.getD .skip) ⟨0, zipT 0 [(tAgg insR).enc ⟨21, xx, ss, rd, rn, rm, 2, a, b, c⟩], []⟩ (outQ Tryz.prog Tryz.f76.results.toList (.ret (lineV ((putF N (⟨#[116, 114]⟩ : ByteArray), [oOf 8 rd, oMem rn 0 a]))))) := by
  refine aRun_sound (ctx := [⟨_, rregS⟩, ⟨_, rofS⟩, ⟨_, rmemS⟩, ⟨_, rlineS⟩, ⟨_, rtransferS⟩, ⟨_, rputS⟩]) 4000 ?_
  rw [Tryz.ntmps76, Tryz.results76]
  simp only [Tryz.f76, Option.getD_some, zipT]
  simp only [go_sem, rtransfer_run, rtransfer_pan, transO, hT, eq_true hp, rput_run, rput_pan, hN.1, hN.2]
  refine sw_drawF (ctx := [⟨_, rregS⟩, ⟨_, rofS⟩, ⟨_, rmemS⟩, ⟨_, rlineS⟩, ⟨_, rtransferS⟩, ⟨_, rputS⟩]) mixed ⟨[9, 10], [], []⟩ (by kernel_rfl) ?_
  simp only [go_sem, rtransfer_run, rtransfer_pan, transO, hT, eq_true hp, rput_run, rput_pan, hN.1, hN.2]
set_option maxHeartbeats 4000000 in
theorem rt21p (xx ss : Bool) (rd rn rm ra a b c : Int) (N : ByteArray) (L W : Bool) (hT : transF b c = (N, L, W)) (hp : N = (⟨#[112, 114, 102, 109]⟩ : ByteArray)) (hr : ¬ ra = 0 ∧ ¬ ra = 1 ∧ ¬ ra = 2) : SW Tryz.prog ⟨none, 0⟩ Tryz.f76.ntmps (Tryz.f76.body.getD .skip) ⟨0, zipT 0 [(tAgg insR).enc ⟨21, xx, ss, rd, rn, rm, ra, a, b, c⟩], []⟩ (outQ Tryz.prog Tryz.f76.results.toList (.ret (lineV ((N, [oOf 8 rd, oMem rn 1 a]))))) := by
  refine aRun_sound (ctx := [⟨_, rregS⟩, ⟨_, rofS⟩, ⟨_, rmemS⟩, ⟨_, rlineS⟩, ⟨_, rtransferS⟩]) 4000 ?_
  rw [Tryz.ntmps76, Tryz.results76]
  simp only [Tryz.f76, Option.getD_some, zipT]
  have h0 : (ra == 0) = false := by simpa using hr.1
  have h1 : (ra == 1) = false := by simpa using hr.2.1
  have h2 : (ra == 2) = false := by simpa using hr.2.2
  simp only [go_sem, rtransfer_run, rtransfer_pan, transO, hT, eq_true hp, h0, h1, h2]
  refine sw_drawF (ctx := [⟨_, rregS⟩, ⟨_, rofS⟩, ⟨_, rmemS⟩, ⟨_, rlineS⟩, ⟨_, rtransferS⟩]) mixed ⟨[8, 9], [], []⟩ (by kernel_rfl) ?_
  simp only [go_sem, rtransfer_run, rtransfer_pan, transO, hT, eq_true hp, h0, h1, h2]
set_option maxHeartbeats 4000000 in
theorem rt222sp (xx : Bool) (rd rn rm ra a b c : Int) (N : ByteArray) (L W : Bool) (hT : transF b c = (N, L, W)) (hp : N = (⟨#[112, 114, 102, 109]⟩ : ByteArray)) (ha : 0 ≤ a ∧ a ≤ 7) (hk : a = 2) : SW Tryz.prog ⟨none, 0⟩ Tryz.f76.ntmps (Tryz.f76.body.getD .skip) ⟨0, zipT 0 [(tAgg insR).enc ⟨22, xx, true, rd, rn, rm, ra, a, b, c⟩], []⟩ (outQ Tryz.prog Tryz.f76.results.toList (.ret (lineV ((N, [oOf 8 rd, { oMem rn 3 0 with m := ⟨rm, decide (a % 2 = 1), false⟩, md := 7, amt := b }]))))) := by
  refine aRun_sound (ctx := [⟨_, rregS⟩, ⟨_, rofS⟩, ⟨_, rmemS⟩, ⟨_, rlineS⟩, ⟨_, rtransferS⟩]) 4000 ?_
  rw [Tryz.ntmps76, Tryz.results76]
  simp only [Tryz.f76, Option.getD_some, zipT]
  have d : a.tmod 2 = a % 2 := Int.tmod_eq_emod_of_nonneg ha.1
  have e2 := beq_dec (a % 2) 1
  have h2 : (a == 2) = true := by simpa using hk
  have h3 : (a == 3) = false := by simpa using (show ¬ a = 3 by omega)
  have h6 : (a == 6) = false := by simpa using (show ¬ a = 6 by omega)
  simp only [go_sem, rtransfer_run, rtransfer_pan, transO, hT, eq_true hp, d, e2, h2, h3, h6]
set_option maxHeartbeats 4000000 in
theorem rt223sp (xx : Bool) (rd rn rm ra a b c : Int) (N : ByteArray) (L W : Bool) (hT : transF b c = (N, L, W)) (hp : N = (⟨#[112, 114, 102, 109]⟩ : ByteArray)) (ha : 0 ≤ a ∧ a ≤ 7) (hk : a = 3) : SW Tryz.prog ⟨none, 0⟩ Tryz.f76.ntmps (Tryz.f76.body.getD .skip) ⟨0, zipT 0 [(tAgg insR).enc ⟨22, xx, true, rd, rn, rm, ra, a, b, c⟩], []⟩ (outQ Tryz.prog Tryz.f76.results.toList (.ret (lineV ((N, [oOf 8 rd, { oMem rn 3 0 with m := ⟨rm, decide (a % 2 = 1), false⟩, md := 1, amt := b }]))))) := by
  refine aRun_sound (ctx := [⟨_, rregS⟩, ⟨_, rofS⟩, ⟨_, rmemS⟩, ⟨_, rlineS⟩, ⟨_, rtransferS⟩]) 4000 ?_
  rw [Tryz.ntmps76, Tryz.results76]
  simp only [Tryz.f76, Option.getD_some, zipT]
  have d : a.tmod 2 = a % 2 := Int.tmod_eq_emod_of_nonneg ha.1
  have e2 := beq_dec (a % 2) 1
  have h2 : (a == 2) = false := by simpa using (show ¬ a = 2 by omega)
  have h3 : (a == 3) = true := by simpa using hk
  have h6 : (a == 6) = false := by simpa using (show ¬ a = 6 by omega)
  simp only [go_sem, rtransfer_run, rtransfer_pan, transO, hT, eq_true hp, d, e2, h2, h3, h6]
set_option maxHeartbeats 4000000 in
theorem rt226sp (xx : Bool) (rd rn rm ra a b c : Int) (N : ByteArray) (L W : Bool) (hT : transF b c = (N, L, W)) (hp : N = (⟨#[112, 114, 102, 109]⟩ : ByteArray)) (ha : 0 ≤ a ∧ a ≤ 7) (hk : a = 6) : SW Tryz.prog ⟨none, 0⟩ Tryz.f76.ntmps (Tryz.f76.body.getD .skip) ⟨0, zipT 0 [(tAgg insR).enc ⟨22, xx, true, rd, rn, rm, ra, a, b, c⟩], []⟩ (outQ Tryz.prog Tryz.f76.results.toList (.ret (lineV ((N, [oOf 8 rd, { oMem rn 3 0 with m := ⟨rm, decide (a % 2 = 1), false⟩, md := 11, amt := b }]))))) := by
  refine aRun_sound (ctx := [⟨_, rregS⟩, ⟨_, rofS⟩, ⟨_, rmemS⟩, ⟨_, rlineS⟩, ⟨_, rtransferS⟩]) 4000 ?_
  rw [Tryz.ntmps76, Tryz.results76]
  simp only [Tryz.f76, Option.getD_some, zipT]
  have d : a.tmod 2 = a % 2 := Int.tmod_eq_emod_of_nonneg ha.1
  have e2 := beq_dec (a % 2) 1
  have h2 : (a == 2) = false := by simpa using (show ¬ a = 2 by omega)
  have h3 : (a == 3) = false := by simpa using (show ¬ a = 3 by omega)
  have h6 : (a == 6) = true := by simpa using hk
  simp only [go_sem, rtransfer_run, rtransfer_pan, transO, hT, eq_true hp, d, e2, h2, h3, h6]
set_option maxHeartbeats 4000000 in
theorem rt22osp (xx : Bool) (rd rn rm ra a b c : Int) (N : ByteArray) (L W : Bool) (hT : transF b c = (N, L, W)) (hp : N = (⟨#[112, 114, 102, 109]⟩ : ByteArray)) (ha : 0 ≤ a ∧ a ≤ 7) (hk : ¬ a = 2 ∧ ¬ a = 3 ∧ ¬ a = 6) : SW Tryz.prog ⟨none, 0⟩ Tryz.f76.ntmps (Tryz.f76.body.getD .skip) ⟨0, zipT 0 [(tAgg insR).enc ⟨22, xx, true, rd, rn, rm, ra, a, b, c⟩], []⟩ (outQ Tryz.prog Tryz.f76.results.toList (.ret (lineV ((N, [oOf 8 rd, { oMem rn 3 0 with m := ⟨rm, decide (a % 2 = 1), false⟩, md := 12, amt := b }]))))) := by
  refine aRun_sound (ctx := [⟨_, rregS⟩, ⟨_, rofS⟩, ⟨_, rmemS⟩, ⟨_, rlineS⟩, ⟨_, rtransferS⟩]) 4000 ?_
  rw [Tryz.ntmps76, Tryz.results76]
  simp only [Tryz.f76, Option.getD_some, zipT]
  have d : a.tmod 2 = a % 2 := Int.tmod_eq_emod_of_nonneg ha.1
  have e2 := beq_dec (a % 2) 1
  have h2 : (a == 2) = false := by simpa using hk.1
  have h3 : (a == 3) = false := by simpa using hk.2.1
  have h6 : (a == 6) = false := by simpa using hk.2.2
  simp only [go_sem, rtransfer_run, rtransfer_pan, transO, hT, eq_true hp, d, e2, h2, h3, h6]
set_option maxHeartbeats 4000000 in
theorem rt222p (xx : Bool) (rd rn rm ra a b c : Int) (N : ByteArray) (L W : Bool) (hT : transF b c = (N, L, W)) (hp : N = (⟨#[112, 114, 102, 109]⟩ : ByteArray)) (ha : 0 ≤ a ∧ a ≤ 7) (hk : a = 2) : SW Tryz.prog ⟨none, 0⟩ Tryz.f76.ntmps (Tryz.f76.body.getD .skip) ⟨0, zipT 0 [(tAgg insR).enc ⟨22, xx, false, rd, rn, rm, ra, a, b, c⟩], []⟩ (outQ Tryz.prog Tryz.f76.results.toList (.ret (lineV ((N, [oOf 8 rd, { oMem rn 3 0 with m := ⟨rm, decide (a % 2 = 1), false⟩, md := 7, amt := -1 }]))))) := by
  refine aRun_sound (ctx := [⟨_, rregS⟩, ⟨_, rofS⟩, ⟨_, rmemS⟩, ⟨_, rlineS⟩, ⟨_, rtransferS⟩]) 4000 ?_
  rw [Tryz.ntmps76, Tryz.results76]
  simp only [Tryz.f76, Option.getD_some, zipT]
  have d : a.tmod 2 = a % 2 := Int.tmod_eq_emod_of_nonneg ha.1
  have e2 := beq_dec (a % 2) 1
  have h2 : (a == 2) = true := by simpa using hk
  have h3 : (a == 3) = false := by simpa using (show ¬ a = 3 by omega)
  have h6 : (a == 6) = false := by simpa using (show ¬ a = 6 by omega)
  simp only [go_sem, rtransfer_run, rtransfer_pan, transO, hT, eq_true hp, d, e2, h2, h3, h6]
set_option maxHeartbeats 4000000 in
theorem rt223p (xx : Bool) (rd rn rm ra a b c : Int) (N : ByteArray) (L W : Bool) (hT : transF b c = (N, L, W)) (hp : N = (⟨#[112, 114, 102, 109]⟩ : ByteArray)) (ha : 0 ≤ a ∧ a ≤ 7) (hk : a = 3) : SW Tryz.prog ⟨none, 0⟩ Tryz.f76.ntmps (Tryz.f76.body.getD .skip) ⟨0, zipT 0 [(tAgg insR).enc ⟨22, xx, false, rd, rn, rm, ra, a, b, c⟩], []⟩ (outQ Tryz.prog Tryz.f76.results.toList (.ret (lineV ((N, [oOf 8 rd, { oMem rn 3 0 with m := ⟨rm, decide (a % 2 = 1), false⟩, md := 1, amt := -1 }]))))) := by
  refine aRun_sound (ctx := [⟨_, rregS⟩, ⟨_, rofS⟩, ⟨_, rmemS⟩, ⟨_, rlineS⟩, ⟨_, rtransferS⟩]) 4000 ?_
  rw [Tryz.ntmps76, Tryz.results76]
  simp only [Tryz.f76, Option.getD_some, zipT]
  have d : a.tmod 2 = a % 2 := Int.tmod_eq_emod_of_nonneg ha.1
  have e2 := beq_dec (a % 2) 1
  have h2 : (a == 2) = false := by simpa using (show ¬ a = 2 by omega)
  have h3 : (a == 3) = true := by simpa using hk
  have h6 : (a == 6) = false := by simpa using (show ¬ a = 6 by omega)
  simp only [go_sem, rtransfer_run, rtransfer_pan, transO, hT, eq_true hp, d, e2, h2, h3, h6]
set_option maxHeartbeats 4000000 in
theorem rt226p (xx : Bool) (rd rn rm ra a b c : Int) (N : ByteArray) (L W : Bool) (hT : transF b c = (N, L, W)) (hp : N = (⟨#[112, 114, 102, 109]⟩ : ByteArray)) (ha : 0 ≤ a ∧ a ≤ 7) (hk : a = 6) : SW Tryz.prog ⟨none, 0⟩ Tryz.f76.ntmps (Tryz.f76.body.getD .skip) ⟨0, zipT 0 [(tAgg insR).enc ⟨22, xx, false, rd, rn, rm, ra, a, b, c⟩], []⟩ (outQ Tryz.prog Tryz.f76.results.toList (.ret (lineV ((N, [oOf 8 rd, { oMem rn 3 0 with m := ⟨rm, decide (a % 2 = 1), false⟩, md := 11, amt := -1 }]))))) := by
  refine aRun_sound (ctx := [⟨_, rregS⟩, ⟨_, rofS⟩, ⟨_, rmemS⟩, ⟨_, rlineS⟩, ⟨_, rtransferS⟩]) 4000 ?_
  rw [Tryz.ntmps76, Tryz.results76]
  simp only [Tryz.f76, Option.getD_some, zipT]
  have d : a.tmod 2 = a % 2 := Int.tmod_eq_emod_of_nonneg ha.1
  have e2 := beq_dec (a % 2) 1
  have h2 : (a == 2) = false := by simpa using (show ¬ a = 2 by omega)
  have h3 : (a == 3) = false := by simpa using (show ¬ a = 3 by omega)
  have h6 : (a == 6) = true := by simpa using hk
  simp only [go_sem, rtransfer_run, rtransfer_pan, transO, hT, eq_true hp, d, e2, h2, h3, h6]
set_option maxHeartbeats 4000000 in
theorem rt22op (xx : Bool) (rd rn rm ra a b c : Int) (N : ByteArray) (L W : Bool) (hT : transF b c = (N, L, W)) (hp : N = (⟨#[112, 114, 102, 109]⟩ : ByteArray)) (ha : 0 ≤ a ∧ a ≤ 7) (hk : ¬ a = 2 ∧ ¬ a = 3 ∧ ¬ a = 6) : SW Tryz.prog ⟨none, 0⟩ Tryz.f76.ntmps (Tryz.f76.body.getD .skip) ⟨0, zipT 0 [(tAgg insR).enc ⟨22, xx, false, rd, rn, rm, ra, a, b, c⟩], []⟩ (outQ Tryz.prog Tryz.f76.results.toList (.ret (lineV ((N, [oOf 8 rd, { oMem rn 3 0 with m := ⟨rm, decide (a % 2 = 1), false⟩, md := 12, amt := -1 }]))))) := by
  refine aRun_sound (ctx := [⟨_, rregS⟩, ⟨_, rofS⟩, ⟨_, rmemS⟩, ⟨_, rlineS⟩, ⟨_, rtransferS⟩]) 4000 ?_
  rw [Tryz.ntmps76, Tryz.results76]
  simp only [Tryz.f76, Option.getD_some, zipT]
  have d : a.tmod 2 = a % 2 := Int.tmod_eq_emod_of_nonneg ha.1
  have e2 := beq_dec (a % 2) 1
  have h2 : (a == 2) = false := by simpa using hk.1
  have h3 : (a == 3) = false := by simpa using hk.2.1
  have h6 : (a == 6) = false := by simpa using hk.2.2
  simp only [go_sem, rtransfer_run, rtransfer_pan, transO, hT, eq_true hp, d, e2, h2, h3, h6]

end Go.Proofs.YtpjlafmhoifkmaaGreat
