/- The document's lines: the other loads and stores. -/
import Derived.Test.YtpjlafmhoifkmaaGreatQ13
set_option linter.unusedVariables false
set_option linter.unusedSimpArgs false
namespace Go.Proofs.YtpjlafmhoifkmaaGreat
open Go.RowKit
set_option maxRecDepth 100000

attribute [local go_sem] rreg_run rreg_pan rregSP_run rregSP_pan rspIf_run rspIf_pan rnum_run rnum_pan rto_run rto_pan rof_run rof_pan rmod_run rmod_pan rmem_run rmem_pan rflagn_run rflagn_pan rflagNum_run rflagNum_pan rpick_run rpick_pan rline_run rline_pan runR panR decPk decWordL decAll outPk decLn7 decOpL outLn7 opV opR opE oReg oSP oNum oTo oOf oWith oMem op0 r0 emp runQ gOf opsK opL_ren1 mapT_opL lineV insR
set_option maxHeartbeats 4000000 in
theorem rl183 (xx ss : Bool) (rd rn rm ra a c : Int) (ha : -1000000000000 ≤ a ∧ a ≤ 1000000000000) : SW Tryz.prog ⟨none, 0⟩ Tryz.f77.ntmps (Tryz.f77.body.getD .skip) ⟨0, zipT 0 [(tAgg insR).enc ⟨18, xx, ss, rd, rn, rm, ra, a, 3, c⟩], []⟩ (outQ Tryz.prog Tryz.f77.results.toList (.ret (lineV ((pickF 3 [(⟨#[108, 100, 114]⟩ : ByteArray), (⟨#[108, 100, 114]⟩ : ByteArray), (⟨#[108, 100, 114, 115, 119]⟩ : ByteArray), (⟨#[112, 114, 102, 109]⟩ : ByteArray)], [oOf 8 rd, oTo (4 * a)]))))) := by
  refine aRun_sound (ctx := [⟨_, rregS⟩, ⟨_, rtoS⟩, ⟨_, rofS⟩, ⟨_, rmemS⟩, ⟨_, rflagNumS⟩, ⟨_, rpickS⟩, ⟨_, rlineS⟩]) 4000 ?_
  rw [Tryz.ntmps77, Tryz.results77]
  simp only [Tryz.f77, Option.getD_some, zipT]
  have w1 : IntKind.i64.wrap (4 * a) = 4 * a := by rw [IntKind.wrap_i64]; omega
  simp only [go_sem, w1]
  refine sw_drawF (ctx := [⟨_, rregS⟩, ⟨_, rtoS⟩, ⟨_, rofS⟩, ⟨_, rmemS⟩, ⟨_, rflagNumS⟩, ⟨_, rpickS⟩, ⟨_, rlineS⟩]) mixed ⟨[10, 11], [(3, [368])], [(4, [368]), (5, [368]), (6, [368]), (7, [368])]⟩ (by kernel_rfl) ?_
  simp only [go_sem, w1]
set_option maxHeartbeats 4000000 in
theorem rlz18 (xx ss : Bool) (rd rn rm ra a b c : Int) (ha : -1000000000000 ≤ a ∧ a ≤ 1000000000000) (hb : ¬ b = 3) : SW Tryz.prog ⟨none, 0⟩ Tryz.f77.ntmps (Tryz.f77.body.getD .skip) ⟨0, zipT 0 [(tAgg insR).enc ⟨18, xx, ss, rd, rn, rm, ra, a, b, c⟩], []⟩ (outQ Tryz.prog Tryz.f77.results.toList (.ret (lineV ((pickF b [(⟨#[108, 100, 114]⟩ : ByteArray), (⟨#[108, 100, 114]⟩ : ByteArray), (⟨#[108, 100, 114, 115, 119]⟩ : ByteArray), (⟨#[112, 114, 102, 109]⟩ : ByteArray)], [oReg rd (decide (0 < b)), oTo (4 * a)]))))) := by
  refine aRun_sound (ctx := [⟨_, rregS⟩, ⟨_, rtoS⟩, ⟨_, rofS⟩, ⟨_, rmemS⟩, ⟨_, rflagNumS⟩, ⟨_, rpickS⟩, ⟨_, rlineS⟩]) 4000 ?_
  rw [Tryz.ntmps77, Tryz.results77]
  simp only [Tryz.f77, Option.getD_some, zipT]
  have w1 : IntKind.i64.wrap (4 * a) = 4 * a := by rw [IntKind.wrap_i64]; omega
  have h3 : (b == 3) = false := by simpa using hb
  simp only [go_sem, w1, h3]
  refine sw_drawF (ctx := [⟨_, rregS⟩, ⟨_, rtoS⟩, ⟨_, rofS⟩, ⟨_, rmemS⟩, ⟨_, rflagNumS⟩, ⟨_, rpickS⟩, ⟨_, rlineS⟩]) mixed ⟨[10, 11], [(3, [304])], [(4, [304]), (5, [304]), (6, [304]), (7, [304])]⟩ (by kernel_rfl) ?_
  simp only [go_sem, w1, h3]
set_option maxHeartbeats 4000000 in
theorem rl19sc1b2 (xx : Bool) (rd rn rm ra a b c : Int) (ha : -1000000000000 ≤ a ∧ a ≤ 1000000000000) (hc : c = 1) (hb : b = 2) : SW Tryz.prog ⟨none, 0⟩ Tryz.f77.ntmps (Tryz.f77.body.getD .skip) ⟨0, zipT 0 [(tAgg insR).enc ⟨19, xx, true, rd, rn, rm, ra, a, b, c⟩], []⟩ (outQ Tryz.prog Tryz.f77.results.toList (.ret (lineV (((⟨#[108, 100]⟩ : ByteArray) ++ (pickF c [(⟨#[110, 112]⟩ : ByteArray), (⟨#[112]⟩ : ByteArray), (⟨#[112]⟩ : ByteArray), (⟨#[112]⟩ : ByteArray)] ++ pickF b [emp, (⟨#[115, 119]⟩ : ByteArray), emp]), [oReg rd (decide (0 < b)), oReg ra (decide (0 < b)), oMem rn 2 (8 * a)]))))) := by
  refine aRun_sound (ctx := [⟨_, rregS⟩, ⟨_, rtoS⟩, ⟨_, rofS⟩, ⟨_, rmemS⟩, ⟨_, rflagNumS⟩, ⟨_, rpickS⟩, ⟨_, rlineS⟩]) 4000 ?_
  rw [Tryz.ntmps77, Tryz.results77]
  simp only [Tryz.f77, Option.getD_some, zipT]
  have w1 : IntKind.i64.wrap (8 * a) = 8 * a := by rw [IntKind.wrap_i64]; omega
  obtain ⟨A1, h1⟩ : ∃ A, pickF c [(⟨#[110, 112]⟩ : ByteArray), (⟨#[112]⟩ : ByteArray), (⟨#[112]⟩ : ByteArray), (⟨#[112]⟩ : ByteArray)] = A := ⟨_, rfl⟩
  obtain ⟨A2, h2⟩ : ∃ A, pickF b [(⟨#[]⟩ : ByteArray), (⟨#[115, 119]⟩ : ByteArray), (⟨#[]⟩ : ByteArray)] = A := ⟨_, rfl⟩
  have h2' : pickF b [emp, (⟨#[115, 119]⟩ : ByteArray), emp] = A2 := h2
  have l1 : A1.size ≤ 2 := by rw [← h1]; exact pickF_le (by decide)
  have l2 : A2.size ≤ 2 := by rw [← h2]; exact pickF_le (by decide)
  have m1 : A1.size + A2.size ≤ maxLen := by unfold maxLen; omega
  have m2 : 2 + (A1.size + A2.size) ≤ maxLen := by unfold maxLen; omega
  have z1 : ((⟨#[108, 100]⟩ : ByteArray)).size = 2 := rfl
  have b1 : (c == 1) = true := by simpa using hc
  have b3 : (c == 3) = false := by simpa using (show ¬ c = 3 by omega)
  have b2 : (b == 2) = true := by simpa using hb
  simp only [go_sem, w1, b1, b2, b3, h1, h2, h2', m1, m2, z1, ByteArray.size_append]
  refine sw_drawF (ctx := [⟨_, rregS⟩, ⟨_, rtoS⟩, ⟨_, rofS⟩, ⟨_, rmemS⟩, ⟨_, rflagNumS⟩, ⟨_, rpickS⟩, ⟨_, rlineS⟩]) mixed ⟨[], [(4, [416]), (8, [480])], [(0, [416, 480]), (5, [416]), (6, [416]), (7, [416])]⟩ (by kernel_rfl) ?_
  simp only [go_sem, w1, b1, b2, b3, h1, h2, h2', m1, m2, z1, ByteArray.size_append]
  refine sw_drawF (ctx := [⟨_, rregS⟩, ⟨_, rtoS⟩, ⟨_, rofS⟩, ⟨_, rmemS⟩, ⟨_, rflagNumS⟩, ⟨_, rpickS⟩, ⟨_, rlineS⟩]) mixed ⟨[22, 23], [], []⟩ (by kernel_rfl) ?_
  simp only [go_sem, w1, b1, b2, b3, h1, h2, h2', m1, m2, z1, ByteArray.size_append]
set_option maxHeartbeats 4000000 in
theorem rl19sc1bo (xx : Bool) (rd rn rm ra a b c : Int) (ha : -1000000000000 ≤ a ∧ a ≤ 1000000000000) (hc : c = 1) (hb : ¬ b = 2) : SW Tryz.prog ⟨none, 0⟩ Tryz.f77.ntmps (Tryz.f77.body.getD .skip) ⟨0, zipT 0 [(tAgg insR).enc ⟨19, xx, true, rd, rn, rm, ra, a, b, c⟩], []⟩ (outQ Tryz.prog Tryz.f77.results.toList (.ret (lineV (((⟨#[108, 100]⟩ : ByteArray) ++ (pickF c [(⟨#[110, 112]⟩ : ByteArray), (⟨#[112]⟩ : ByteArray), (⟨#[112]⟩ : ByteArray), (⟨#[112]⟩ : ByteArray)] ++ pickF b [emp, (⟨#[115, 119]⟩ : ByteArray), emp]), [oReg rd (decide (0 < b)), oReg ra (decide (0 < b)), oMem rn 2 (4 * a)]))))) := by
  refine aRun_sound (ctx := [⟨_, rregS⟩, ⟨_, rtoS⟩, ⟨_, rofS⟩, ⟨_, rmemS⟩, ⟨_, rflagNumS⟩, ⟨_, rpickS⟩, ⟨_, rlineS⟩]) 4000 ?_
  rw [Tryz.ntmps77, Tryz.results77]
  simp only [Tryz.f77, Option.getD_some, zipT]
  have w1 : IntKind.i64.wrap (4 * a) = 4 * a := by rw [IntKind.wrap_i64]; omega
  obtain ⟨A1, h1⟩ : ∃ A, pickF c [(⟨#[110, 112]⟩ : ByteArray), (⟨#[112]⟩ : ByteArray), (⟨#[112]⟩ : ByteArray), (⟨#[112]⟩ : ByteArray)] = A := ⟨_, rfl⟩
  obtain ⟨A2, h2⟩ : ∃ A, pickF b [(⟨#[]⟩ : ByteArray), (⟨#[115, 119]⟩ : ByteArray), (⟨#[]⟩ : ByteArray)] = A := ⟨_, rfl⟩
  have h2' : pickF b [emp, (⟨#[115, 119]⟩ : ByteArray), emp] = A2 := h2
  have l1 : A1.size ≤ 2 := by rw [← h1]; exact pickF_le (by decide)
  have l2 : A2.size ≤ 2 := by rw [← h2]; exact pickF_le (by decide)
  have m1 : A1.size + A2.size ≤ maxLen := by unfold maxLen; omega
  have m2 : 2 + (A1.size + A2.size) ≤ maxLen := by unfold maxLen; omega
  have z1 : ((⟨#[108, 100]⟩ : ByteArray)).size = 2 := rfl
  have b1 : (c == 1) = true := by simpa using hc
  have b3 : (c == 3) = false := by simpa using (show ¬ c = 3 by omega)
  have b2 : (b == 2) = false := by simpa using hb
  simp only [go_sem, w1, b1, b2, b3, h1, h2, h2', m1, m2, z1, ByteArray.size_append]
  refine sw_drawF (ctx := [⟨_, rregS⟩, ⟨_, rtoS⟩, ⟨_, rofS⟩, ⟨_, rmemS⟩, ⟨_, rflagNumS⟩, ⟨_, rpickS⟩, ⟨_, rlineS⟩]) mixed ⟨[], [(4, [400]), (8, [464])], [(0, [400, 464]), (5, [400]), (6, [400]), (7, [400])]⟩ (by kernel_rfl) ?_
  simp only [go_sem, w1, b1, b2, b3, h1, h2, h2', m1, m2, z1, ByteArray.size_append]
  refine sw_drawF (ctx := [⟨_, rregS⟩, ⟨_, rtoS⟩, ⟨_, rofS⟩, ⟨_, rmemS⟩, ⟨_, rflagNumS⟩, ⟨_, rpickS⟩, ⟨_, rlineS⟩]) mixed ⟨[22, 23], [], []⟩ (by kernel_rfl) ?_
  simp only [go_sem, w1, b1, b2, b3, h1, h2, h2', m1, m2, z1, ByteArray.size_append]
set_option maxHeartbeats 4000000 in
theorem rl19sc3b2 (xx : Bool) (rd rn rm ra a b c : Int) (ha : -1000000000000 ≤ a ∧ a ≤ 1000000000000) (hc : c = 3) (hb : b = 2) : SW Tryz.prog ⟨none, 0⟩ Tryz.f77.ntmps (Tryz.f77.body.getD .skip) ⟨0, zipT 0 [(tAgg insR).enc ⟨19, xx, true, rd, rn, rm, ra, a, b, c⟩], []⟩ (outQ Tryz.prog Tryz.f77.results.toList (.ret (lineV (((⟨#[108, 100]⟩ : ByteArray) ++ (pickF c [(⟨#[110, 112]⟩ : ByteArray), (⟨#[112]⟩ : ByteArray), (⟨#[112]⟩ : ByteArray), (⟨#[112]⟩ : ByteArray)] ++ pickF b [emp, (⟨#[115, 119]⟩ : ByteArray), emp]), [oReg rd (decide (0 < b)), oReg ra (decide (0 < b)), oMem rn 1 (8 * a)]))))) := by
  refine aRun_sound (ctx := [⟨_, rregS⟩, ⟨_, rtoS⟩, ⟨_, rofS⟩, ⟨_, rmemS⟩, ⟨_, rflagNumS⟩, ⟨_, rpickS⟩, ⟨_, rlineS⟩]) 4000 ?_
  rw [Tryz.ntmps77, Tryz.results77]
  simp only [Tryz.f77, Option.getD_some, zipT]
  have w1 : IntKind.i64.wrap (8 * a) = 8 * a := by rw [IntKind.wrap_i64]; omega
  obtain ⟨A1, h1⟩ : ∃ A, pickF c [(⟨#[110, 112]⟩ : ByteArray), (⟨#[112]⟩ : ByteArray), (⟨#[112]⟩ : ByteArray), (⟨#[112]⟩ : ByteArray)] = A := ⟨_, rfl⟩
  obtain ⟨A2, h2⟩ : ∃ A, pickF b [(⟨#[]⟩ : ByteArray), (⟨#[115, 119]⟩ : ByteArray), (⟨#[]⟩ : ByteArray)] = A := ⟨_, rfl⟩
  have h2' : pickF b [emp, (⟨#[115, 119]⟩ : ByteArray), emp] = A2 := h2
  have l1 : A1.size ≤ 2 := by rw [← h1]; exact pickF_le (by decide)
  have l2 : A2.size ≤ 2 := by rw [← h2]; exact pickF_le (by decide)
  have m1 : A1.size + A2.size ≤ maxLen := by unfold maxLen; omega
  have m2 : 2 + (A1.size + A2.size) ≤ maxLen := by unfold maxLen; omega
  have z1 : ((⟨#[108, 100]⟩ : ByteArray)).size = 2 := rfl
  have b1 : (c == 1) = false := by simpa using (show ¬ c = 1 by omega)
  have b3 : (c == 3) = true := by simpa using hc
  have b2 : (b == 2) = true := by simpa using hb
  simp only [go_sem, w1, b1, b2, b3, h1, h2, h2', m1, m2, z1, ByteArray.size_append]
  refine sw_drawF (ctx := [⟨_, rregS⟩, ⟨_, rtoS⟩, ⟨_, rofS⟩, ⟨_, rmemS⟩, ⟨_, rflagNumS⟩, ⟨_, rpickS⟩, ⟨_, rlineS⟩]) mixed ⟨[], [(4, [448]), (8, [512])], [(0, [448, 512]), (5, [448]), (6, [448]), (7, [448])]⟩ (by kernel_rfl) ?_
  simp only [go_sem, w1, b1, b2, b3, h1, h2, h2', m1, m2, z1, ByteArray.size_append]
  refine sw_drawF (ctx := [⟨_, rregS⟩, ⟨_, rtoS⟩, ⟨_, rofS⟩, ⟨_, rmemS⟩, ⟨_, rflagNumS⟩, ⟨_, rpickS⟩, ⟨_, rlineS⟩]) mixed ⟨[22, 23], [], []⟩ (by kernel_rfl) ?_
  simp only [go_sem, w1, b1, b2, b3, h1, h2, h2', m1, m2, z1, ByteArray.size_append]
set_option maxHeartbeats 4000000 in
theorem rl19sc3bo (xx : Bool) (rd rn rm ra a b c : Int) (ha : -1000000000000 ≤ a ∧ a ≤ 1000000000000) (hc : c = 3) (hb : ¬ b = 2) : SW Tryz.prog ⟨none, 0⟩ Tryz.f77.ntmps (Tryz.f77.body.getD .skip) ⟨0, zipT 0 [(tAgg insR).enc ⟨19, xx, true, rd, rn, rm, ra, a, b, c⟩], []⟩ (outQ Tryz.prog Tryz.f77.results.toList (.ret (lineV (((⟨#[108, 100]⟩ : ByteArray) ++ (pickF c [(⟨#[110, 112]⟩ : ByteArray), (⟨#[112]⟩ : ByteArray), (⟨#[112]⟩ : ByteArray), (⟨#[112]⟩ : ByteArray)] ++ pickF b [emp, (⟨#[115, 119]⟩ : ByteArray), emp]), [oReg rd (decide (0 < b)), oReg ra (decide (0 < b)), oMem rn 1 (4 * a)]))))) := by
  refine aRun_sound (ctx := [⟨_, rregS⟩, ⟨_, rtoS⟩, ⟨_, rofS⟩, ⟨_, rmemS⟩, ⟨_, rflagNumS⟩, ⟨_, rpickS⟩, ⟨_, rlineS⟩]) 4000 ?_
  rw [Tryz.ntmps77, Tryz.results77]
  simp only [Tryz.f77, Option.getD_some, zipT]
  have w1 : IntKind.i64.wrap (4 * a) = 4 * a := by rw [IntKind.wrap_i64]; omega
  obtain ⟨A1, h1⟩ : ∃ A, pickF c [(⟨#[110, 112]⟩ : ByteArray), (⟨#[112]⟩ : ByteArray), (⟨#[112]⟩ : ByteArray), (⟨#[112]⟩ : ByteArray)] = A := ⟨_, rfl⟩
  obtain ⟨A2, h2⟩ : ∃ A, pickF b [(⟨#[]⟩ : ByteArray), (⟨#[115, 119]⟩ : ByteArray), (⟨#[]⟩ : ByteArray)] = A := ⟨_, rfl⟩
  have h2' : pickF b [emp, (⟨#[115, 119]⟩ : ByteArray), emp] = A2 := h2
  have l1 : A1.size ≤ 2 := by rw [← h1]; exact pickF_le (by decide)
  have l2 : A2.size ≤ 2 := by rw [← h2]; exact pickF_le (by decide)
  have m1 : A1.size + A2.size ≤ maxLen := by unfold maxLen; omega
  have m2 : 2 + (A1.size + A2.size) ≤ maxLen := by unfold maxLen; omega
  have z1 : ((⟨#[108, 100]⟩ : ByteArray)).size = 2 := rfl
  have b1 : (c == 1) = false := by simpa using (show ¬ c = 1 by omega)
  have b3 : (c == 3) = true := by simpa using hc
  have b2 : (b == 2) = false := by simpa using hb
  simp only [go_sem, w1, b1, b2, b3, h1, h2, h2', m1, m2, z1, ByteArray.size_append]
  refine sw_drawF (ctx := [⟨_, rregS⟩, ⟨_, rtoS⟩, ⟨_, rofS⟩, ⟨_, rmemS⟩, ⟨_, rflagNumS⟩, ⟨_, rpickS⟩, ⟨_, rlineS⟩]) mixed ⟨[], [(4, [432]), (8, [496])], [(0, [432, 496]), (5, [432]), (6, [432]), (7, [432])]⟩ (by kernel_rfl) ?_
  simp only [go_sem, w1, b1, b2, b3, h1, h2, h2', m1, m2, z1, ByteArray.size_append]
  refine sw_drawF (ctx := [⟨_, rregS⟩, ⟨_, rtoS⟩, ⟨_, rofS⟩, ⟨_, rmemS⟩, ⟨_, rflagNumS⟩, ⟨_, rpickS⟩, ⟨_, rlineS⟩]) mixed ⟨[22, 23], [], []⟩ (by kernel_rfl) ?_
  simp only [go_sem, w1, b1, b2, b3, h1, h2, h2', m1, m2, z1, ByteArray.size_append]
set_option maxHeartbeats 4000000 in
theorem rl19scob2 (xx : Bool) (rd rn rm ra a b c : Int) (ha : -1000000000000 ≤ a ∧ a ≤ 1000000000000) (hc : ¬ c = 1 ∧ ¬ c = 3) (hb : b = 2) : SW Tryz.prog ⟨none, 0⟩ Tryz.f77.ntmps (Tryz.f77.body.getD .skip) ⟨0, zipT 0 [(tAgg insR).enc ⟨19, xx, true, rd, rn, rm, ra, a, b, c⟩], []⟩ (outQ Tryz.prog Tryz.f77.results.toList (.ret (lineV (((⟨#[108, 100]⟩ : ByteArray) ++ (pickF c [(⟨#[110, 112]⟩ : ByteArray), (⟨#[112]⟩ : ByteArray), (⟨#[112]⟩ : ByteArray), (⟨#[112]⟩ : ByteArray)] ++ pickF b [emp, (⟨#[115, 119]⟩ : ByteArray), emp]), [oReg rd (decide (0 < b)), oReg ra (decide (0 < b)), oMem rn 0 (8 * a)]))))) := by
  refine aRun_sound (ctx := [⟨_, rregS⟩, ⟨_, rtoS⟩, ⟨_, rofS⟩, ⟨_, rmemS⟩, ⟨_, rflagNumS⟩, ⟨_, rpickS⟩, ⟨_, rlineS⟩]) 4000 ?_
  rw [Tryz.ntmps77, Tryz.results77]
  simp only [Tryz.f77, Option.getD_some, zipT]
  have w1 : IntKind.i64.wrap (8 * a) = 8 * a := by rw [IntKind.wrap_i64]; omega
  obtain ⟨A1, h1⟩ : ∃ A, pickF c [(⟨#[110, 112]⟩ : ByteArray), (⟨#[112]⟩ : ByteArray), (⟨#[112]⟩ : ByteArray), (⟨#[112]⟩ : ByteArray)] = A := ⟨_, rfl⟩
  obtain ⟨A2, h2⟩ : ∃ A, pickF b [(⟨#[]⟩ : ByteArray), (⟨#[115, 119]⟩ : ByteArray), (⟨#[]⟩ : ByteArray)] = A := ⟨_, rfl⟩
  have h2' : pickF b [emp, (⟨#[115, 119]⟩ : ByteArray), emp] = A2 := h2
  have l1 : A1.size ≤ 2 := by rw [← h1]; exact pickF_le (by decide)
  have l2 : A2.size ≤ 2 := by rw [← h2]; exact pickF_le (by decide)
  have m1 : A1.size + A2.size ≤ maxLen := by unfold maxLen; omega
  have m2 : 2 + (A1.size + A2.size) ≤ maxLen := by unfold maxLen; omega
  have z1 : ((⟨#[108, 100]⟩ : ByteArray)).size = 2 := rfl
  have b1 : (c == 1) = false := by simpa using (show ¬ c = 1 by omega)
  have b3 : (c == 3) = false := by simpa using (show ¬ c = 3 by omega)
  have b2 : (b == 2) = true := by simpa using hb
  simp only [go_sem, w1, b1, b2, b3, h1, h2, h2', m1, m2, z1, ByteArray.size_append]
  refine sw_drawF (ctx := [⟨_, rregS⟩, ⟨_, rtoS⟩, ⟨_, rofS⟩, ⟨_, rmemS⟩, ⟨_, rflagNumS⟩, ⟨_, rpickS⟩, ⟨_, rlineS⟩]) mixed ⟨[], [(4, [432]), (8, [496])], [(0, [432, 496]), (5, [432]), (6, [432]), (7, [432])]⟩ (by kernel_rfl) ?_
  simp only [go_sem, w1, b1, b2, b3, h1, h2, h2', m1, m2, z1, ByteArray.size_append]
  refine sw_drawF (ctx := [⟨_, rregS⟩, ⟨_, rtoS⟩, ⟨_, rofS⟩, ⟨_, rmemS⟩, ⟨_, rflagNumS⟩, ⟨_, rpickS⟩, ⟨_, rlineS⟩]) mixed ⟨[22, 23], [], []⟩ (by kernel_rfl) ?_
  simp only [go_sem, w1, b1, b2, b3, h1, h2, h2', m1, m2, z1, ByteArray.size_append]
set_option maxHeartbeats 4000000 in
theorem rl19scobo (xx : Bool) (rd rn rm ra a b c : Int) (ha : -1000000000000 ≤ a ∧ a ≤ 1000000000000) (hc : ¬ c = 1 ∧ ¬ c = 3) (hb : ¬ b = 2) : SW Tryz.prog ⟨none, 0⟩ Tryz.f77.ntmps (Tryz.f77.body.getD .skip) ⟨0, zipT 0 [(tAgg insR).enc ⟨19, xx, true, rd, rn, rm, ra, a, b, c⟩], []⟩ (outQ Tryz.prog Tryz.f77.results.toList (.ret (lineV (((⟨#[108, 100]⟩ : ByteArray) ++ (pickF c [(⟨#[110, 112]⟩ : ByteArray), (⟨#[112]⟩ : ByteArray), (⟨#[112]⟩ : ByteArray), (⟨#[112]⟩ : ByteArray)] ++ pickF b [emp, (⟨#[115, 119]⟩ : ByteArray), emp]), [oReg rd (decide (0 < b)), oReg ra (decide (0 < b)), oMem rn 0 (4 * a)]))))) := by
  refine aRun_sound (ctx := [⟨_, rregS⟩, ⟨_, rtoS⟩, ⟨_, rofS⟩, ⟨_, rmemS⟩, ⟨_, rflagNumS⟩, ⟨_, rpickS⟩, ⟨_, rlineS⟩]) 4000 ?_
  rw [Tryz.ntmps77, Tryz.results77]
  simp only [Tryz.f77, Option.getD_some, zipT]
  have w1 : IntKind.i64.wrap (4 * a) = 4 * a := by rw [IntKind.wrap_i64]; omega
  obtain ⟨A1, h1⟩ : ∃ A, pickF c [(⟨#[110, 112]⟩ : ByteArray), (⟨#[112]⟩ : ByteArray), (⟨#[112]⟩ : ByteArray), (⟨#[112]⟩ : ByteArray)] = A := ⟨_, rfl⟩
  obtain ⟨A2, h2⟩ : ∃ A, pickF b [(⟨#[]⟩ : ByteArray), (⟨#[115, 119]⟩ : ByteArray), (⟨#[]⟩ : ByteArray)] = A := ⟨_, rfl⟩
  have h2' : pickF b [emp, (⟨#[115, 119]⟩ : ByteArray), emp] = A2 := h2
  have l1 : A1.size ≤ 2 := by rw [← h1]; exact pickF_le (by decide)
  have l2 : A2.size ≤ 2 := by rw [← h2]; exact pickF_le (by decide)
  have m1 : A1.size + A2.size ≤ maxLen := by unfold maxLen; omega
  have m2 : 2 + (A1.size + A2.size) ≤ maxLen := by unfold maxLen; omega
  have z1 : ((⟨#[108, 100]⟩ : ByteArray)).size = 2 := rfl
  have b1 : (c == 1) = false := by simpa using (show ¬ c = 1 by omega)
  have b3 : (c == 3) = false := by simpa using (show ¬ c = 3 by omega)
  have b2 : (b == 2) = false := by simpa using hb
  simp only [go_sem, w1, b1, b2, b3, h1, h2, h2', m1, m2, z1, ByteArray.size_append]
  refine sw_drawF (ctx := [⟨_, rregS⟩, ⟨_, rtoS⟩, ⟨_, rofS⟩, ⟨_, rmemS⟩, ⟨_, rflagNumS⟩, ⟨_, rpickS⟩, ⟨_, rlineS⟩]) mixed ⟨[], [(4, [416]), (8, [480])], [(0, [416, 480]), (5, [416]), (6, [416]), (7, [416])]⟩ (by kernel_rfl) ?_
  simp only [go_sem, w1, b1, b2, b3, h1, h2, h2', m1, m2, z1, ByteArray.size_append]
  refine sw_drawF (ctx := [⟨_, rregS⟩, ⟨_, rtoS⟩, ⟨_, rofS⟩, ⟨_, rmemS⟩, ⟨_, rflagNumS⟩, ⟨_, rpickS⟩, ⟨_, rlineS⟩]) mixed ⟨[22, 23], [], []⟩ (by kernel_rfl) ?_
  simp only [go_sem, w1, b1, b2, b3, h1, h2, h2', m1, m2, z1, ByteArray.size_append]
set_option maxHeartbeats 4000000 in
theorem rl19c1b2 (xx : Bool) (rd rn rm ra a b c : Int) (ha : -1000000000000 ≤ a ∧ a ≤ 1000000000000) (hc : c = 1) (hb : b = 2) : SW Tryz.prog ⟨none, 0⟩ Tryz.f77.ntmps (Tryz.f77.body.getD .skip) ⟨0, zipT 0 [(tAgg insR).enc ⟨19, xx, false, rd, rn, rm, ra, a, b, c⟩], []⟩ (outQ Tryz.prog Tryz.f77.results.toList (.ret (lineV (((⟨#[115, 116]⟩ : ByteArray) ++ (pickF c [(⟨#[110, 112]⟩ : ByteArray), (⟨#[112]⟩ : ByteArray), (⟨#[112]⟩ : ByteArray), (⟨#[112]⟩ : ByteArray)] ++ pickF b [emp, (⟨#[115, 119]⟩ : ByteArray), emp]), [oReg rd (decide (0 < b)), oReg ra (decide (0 < b)), oMem rn 2 (8 * a)]))))) := by
  refine aRun_sound (ctx := [⟨_, rregS⟩, ⟨_, rtoS⟩, ⟨_, rofS⟩, ⟨_, rmemS⟩, ⟨_, rflagNumS⟩, ⟨_, rpickS⟩, ⟨_, rlineS⟩]) 4000 ?_
  rw [Tryz.ntmps77, Tryz.results77]
  simp only [Tryz.f77, Option.getD_some, zipT]
  have w1 : IntKind.i64.wrap (8 * a) = 8 * a := by rw [IntKind.wrap_i64]; omega
  obtain ⟨A1, h1⟩ : ∃ A, pickF c [(⟨#[110, 112]⟩ : ByteArray), (⟨#[112]⟩ : ByteArray), (⟨#[112]⟩ : ByteArray), (⟨#[112]⟩ : ByteArray)] = A := ⟨_, rfl⟩
  obtain ⟨A2, h2⟩ : ∃ A, pickF b [(⟨#[]⟩ : ByteArray), (⟨#[115, 119]⟩ : ByteArray), (⟨#[]⟩ : ByteArray)] = A := ⟨_, rfl⟩
  have h2' : pickF b [emp, (⟨#[115, 119]⟩ : ByteArray), emp] = A2 := h2
  have l1 : A1.size ≤ 2 := by rw [← h1]; exact pickF_le (by decide)
  have l2 : A2.size ≤ 2 := by rw [← h2]; exact pickF_le (by decide)
  have m1 : A1.size + A2.size ≤ maxLen := by unfold maxLen; omega
  have m2 : 2 + (A1.size + A2.size) ≤ maxLen := by unfold maxLen; omega
  have z1 : ((⟨#[115, 116]⟩ : ByteArray)).size = 2 := rfl
  have b1 : (c == 1) = true := by simpa using hc
  have b3 : (c == 3) = false := by simpa using (show ¬ c = 3 by omega)
  have b2 : (b == 2) = true := by simpa using hb
  simp only [go_sem, w1, b1, b2, b3, h1, h2, h2', m1, m2, z1, ByteArray.size_append]
  refine sw_drawF (ctx := [⟨_, rregS⟩, ⟨_, rtoS⟩, ⟨_, rofS⟩, ⟨_, rmemS⟩, ⟨_, rflagNumS⟩, ⟨_, rpickS⟩, ⟨_, rlineS⟩]) mixed ⟨[], [(4, [400]), (8, [464])], [(0, [400, 464]), (5, [400]), (6, [400]), (7, [400])]⟩ (by kernel_rfl) ?_
  simp only [go_sem, w1, b1, b2, b3, h1, h2, h2', m1, m2, z1, ByteArray.size_append]
  refine sw_drawF (ctx := [⟨_, rregS⟩, ⟨_, rtoS⟩, ⟨_, rofS⟩, ⟨_, rmemS⟩, ⟨_, rflagNumS⟩, ⟨_, rpickS⟩, ⟨_, rlineS⟩]) mixed ⟨[22, 23], [], []⟩ (by kernel_rfl) ?_
  simp only [go_sem, w1, b1, b2, b3, h1, h2, h2', m1, m2, z1, ByteArray.size_append]
set_option maxHeartbeats 4000000 in
theorem rl19c1bo (xx : Bool) (rd rn rm ra a b c : Int) (ha : -1000000000000 ≤ a ∧ a ≤ 1000000000000) (hc : c = 1) (hb : ¬ b = 2) : SW Tryz.prog ⟨none, 0⟩ Tryz.f77.ntmps (Tryz.f77.body.getD .skip) ⟨0, zipT 0 [(tAgg insR).enc ⟨19, xx, false, rd, rn, rm, ra, a, b, c⟩], []⟩ (outQ Tryz.prog Tryz.f77.results.toList (.ret (lineV (((⟨#[115, 116]⟩ : ByteArray) ++ (pickF c [(⟨#[110, 112]⟩ : ByteArray), (⟨#[112]⟩ : ByteArray), (⟨#[112]⟩ : ByteArray), (⟨#[112]⟩ : ByteArray)] ++ pickF b [emp, (⟨#[115, 119]⟩ : ByteArray), emp]), [oReg rd (decide (0 < b)), oReg ra (decide (0 < b)), oMem rn 2 (4 * a)]))))) := by
  refine aRun_sound (ctx := [⟨_, rregS⟩, ⟨_, rtoS⟩, ⟨_, rofS⟩, ⟨_, rmemS⟩, ⟨_, rflagNumS⟩, ⟨_, rpickS⟩, ⟨_, rlineS⟩]) 4000 ?_
  rw [Tryz.ntmps77, Tryz.results77]
  simp only [Tryz.f77, Option.getD_some, zipT]
  have w1 : IntKind.i64.wrap (4 * a) = 4 * a := by rw [IntKind.wrap_i64]; omega
  obtain ⟨A1, h1⟩ : ∃ A, pickF c [(⟨#[110, 112]⟩ : ByteArray), (⟨#[112]⟩ : ByteArray), (⟨#[112]⟩ : ByteArray), (⟨#[112]⟩ : ByteArray)] = A := ⟨_, rfl⟩
  obtain ⟨A2, h2⟩ : ∃ A, pickF b [(⟨#[]⟩ : ByteArray), (⟨#[115, 119]⟩ : ByteArray), (⟨#[]⟩ : ByteArray)] = A := ⟨_, rfl⟩
  have h2' : pickF b [emp, (⟨#[115, 119]⟩ : ByteArray), emp] = A2 := h2
  have l1 : A1.size ≤ 2 := by rw [← h1]; exact pickF_le (by decide)
  have l2 : A2.size ≤ 2 := by rw [← h2]; exact pickF_le (by decide)
  have m1 : A1.size + A2.size ≤ maxLen := by unfold maxLen; omega
  have m2 : 2 + (A1.size + A2.size) ≤ maxLen := by unfold maxLen; omega
  have z1 : ((⟨#[115, 116]⟩ : ByteArray)).size = 2 := rfl
  have b1 : (c == 1) = true := by simpa using hc
  have b3 : (c == 3) = false := by simpa using (show ¬ c = 3 by omega)
  have b2 : (b == 2) = false := by simpa using hb
  simp only [go_sem, w1, b1, b2, b3, h1, h2, h2', m1, m2, z1, ByteArray.size_append]
  refine sw_drawF (ctx := [⟨_, rregS⟩, ⟨_, rtoS⟩, ⟨_, rofS⟩, ⟨_, rmemS⟩, ⟨_, rflagNumS⟩, ⟨_, rpickS⟩, ⟨_, rlineS⟩]) mixed ⟨[], [(4, [384]), (8, [448])], [(0, [384, 448]), (5, [384]), (6, [384]), (7, [384])]⟩ (by kernel_rfl) ?_
  simp only [go_sem, w1, b1, b2, b3, h1, h2, h2', m1, m2, z1, ByteArray.size_append]
  refine sw_drawF (ctx := [⟨_, rregS⟩, ⟨_, rtoS⟩, ⟨_, rofS⟩, ⟨_, rmemS⟩, ⟨_, rflagNumS⟩, ⟨_, rpickS⟩, ⟨_, rlineS⟩]) mixed ⟨[22, 23], [], []⟩ (by kernel_rfl) ?_
  simp only [go_sem, w1, b1, b2, b3, h1, h2, h2', m1, m2, z1, ByteArray.size_append]
set_option maxHeartbeats 4000000 in
theorem rl19c3b2 (xx : Bool) (rd rn rm ra a b c : Int) (ha : -1000000000000 ≤ a ∧ a ≤ 1000000000000) (hc : c = 3) (hb : b = 2) : SW Tryz.prog ⟨none, 0⟩ Tryz.f77.ntmps (Tryz.f77.body.getD .skip) ⟨0, zipT 0 [(tAgg insR).enc ⟨19, xx, false, rd, rn, rm, ra, a, b, c⟩], []⟩ (outQ Tryz.prog Tryz.f77.results.toList (.ret (lineV (((⟨#[115, 116]⟩ : ByteArray) ++ (pickF c [(⟨#[110, 112]⟩ : ByteArray), (⟨#[112]⟩ : ByteArray), (⟨#[112]⟩ : ByteArray), (⟨#[112]⟩ : ByteArray)] ++ pickF b [emp, (⟨#[115, 119]⟩ : ByteArray), emp]), [oReg rd (decide (0 < b)), oReg ra (decide (0 < b)), oMem rn 1 (8 * a)]))))) := by
  refine aRun_sound (ctx := [⟨_, rregS⟩, ⟨_, rtoS⟩, ⟨_, rofS⟩, ⟨_, rmemS⟩, ⟨_, rflagNumS⟩, ⟨_, rpickS⟩, ⟨_, rlineS⟩]) 4000 ?_
  rw [Tryz.ntmps77, Tryz.results77]
  simp only [Tryz.f77, Option.getD_some, zipT]
  have w1 : IntKind.i64.wrap (8 * a) = 8 * a := by rw [IntKind.wrap_i64]; omega
  obtain ⟨A1, h1⟩ : ∃ A, pickF c [(⟨#[110, 112]⟩ : ByteArray), (⟨#[112]⟩ : ByteArray), (⟨#[112]⟩ : ByteArray), (⟨#[112]⟩ : ByteArray)] = A := ⟨_, rfl⟩
  obtain ⟨A2, h2⟩ : ∃ A, pickF b [(⟨#[]⟩ : ByteArray), (⟨#[115, 119]⟩ : ByteArray), (⟨#[]⟩ : ByteArray)] = A := ⟨_, rfl⟩
  have h2' : pickF b [emp, (⟨#[115, 119]⟩ : ByteArray), emp] = A2 := h2
  have l1 : A1.size ≤ 2 := by rw [← h1]; exact pickF_le (by decide)
  have l2 : A2.size ≤ 2 := by rw [← h2]; exact pickF_le (by decide)
  have m1 : A1.size + A2.size ≤ maxLen := by unfold maxLen; omega
  have m2 : 2 + (A1.size + A2.size) ≤ maxLen := by unfold maxLen; omega
  have z1 : ((⟨#[115, 116]⟩ : ByteArray)).size = 2 := rfl
  have b1 : (c == 1) = false := by simpa using (show ¬ c = 1 by omega)
  have b3 : (c == 3) = true := by simpa using hc
  have b2 : (b == 2) = true := by simpa using hb
  simp only [go_sem, w1, b1, b2, b3, h1, h2, h2', m1, m2, z1, ByteArray.size_append]
  refine sw_drawF (ctx := [⟨_, rregS⟩, ⟨_, rtoS⟩, ⟨_, rofS⟩, ⟨_, rmemS⟩, ⟨_, rflagNumS⟩, ⟨_, rpickS⟩, ⟨_, rlineS⟩]) mixed ⟨[], [(4, [432]), (8, [496])], [(0, [432, 496]), (5, [432]), (6, [432]), (7, [432])]⟩ (by kernel_rfl) ?_
  simp only [go_sem, w1, b1, b2, b3, h1, h2, h2', m1, m2, z1, ByteArray.size_append]
  refine sw_drawF (ctx := [⟨_, rregS⟩, ⟨_, rtoS⟩, ⟨_, rofS⟩, ⟨_, rmemS⟩, ⟨_, rflagNumS⟩, ⟨_, rpickS⟩, ⟨_, rlineS⟩]) mixed ⟨[22, 23], [], []⟩ (by kernel_rfl) ?_
  simp only [go_sem, w1, b1, b2, b3, h1, h2, h2', m1, m2, z1, ByteArray.size_append]
set_option maxHeartbeats 4000000 in
theorem rl19c3bo (xx : Bool) (rd rn rm ra a b c : Int) (ha : -1000000000000 ≤ a ∧ a ≤ 1000000000000) (hc : c = 3) (hb : ¬ b = 2) : SW Tryz.prog ⟨none, 0⟩ Tryz.f77.ntmps (Tryz.f77.body.getD .skip) ⟨0, zipT 0 [(tAgg insR).enc ⟨19, xx, false, rd, rn, rm, ra, a, b, c⟩], []⟩ (outQ Tryz.prog Tryz.f77.results.toList (.ret (lineV (((⟨#[115, 116]⟩ : ByteArray) ++ (pickF c [(⟨#[110, 112]⟩ : ByteArray), (⟨#[112]⟩ : ByteArray), (⟨#[112]⟩ : ByteArray), (⟨#[112]⟩ : ByteArray)] ++ pickF b [emp, (⟨#[115, 119]⟩ : ByteArray), emp]), [oReg rd (decide (0 < b)), oReg ra (decide (0 < b)), oMem rn 1 (4 * a)]))))) := by
  refine aRun_sound (ctx := [⟨_, rregS⟩, ⟨_, rtoS⟩, ⟨_, rofS⟩, ⟨_, rmemS⟩, ⟨_, rflagNumS⟩, ⟨_, rpickS⟩, ⟨_, rlineS⟩]) 4000 ?_
  rw [Tryz.ntmps77, Tryz.results77]
  simp only [Tryz.f77, Option.getD_some, zipT]
  have w1 : IntKind.i64.wrap (4 * a) = 4 * a := by rw [IntKind.wrap_i64]; omega
  obtain ⟨A1, h1⟩ : ∃ A, pickF c [(⟨#[110, 112]⟩ : ByteArray), (⟨#[112]⟩ : ByteArray), (⟨#[112]⟩ : ByteArray), (⟨#[112]⟩ : ByteArray)] = A := ⟨_, rfl⟩
  obtain ⟨A2, h2⟩ : ∃ A, pickF b [(⟨#[]⟩ : ByteArray), (⟨#[115, 119]⟩ : ByteArray), (⟨#[]⟩ : ByteArray)] = A := ⟨_, rfl⟩
  have h2' : pickF b [emp, (⟨#[115, 119]⟩ : ByteArray), emp] = A2 := h2
  have l1 : A1.size ≤ 2 := by rw [← h1]; exact pickF_le (by decide)
  have l2 : A2.size ≤ 2 := by rw [← h2]; exact pickF_le (by decide)
  have m1 : A1.size + A2.size ≤ maxLen := by unfold maxLen; omega
  have m2 : 2 + (A1.size + A2.size) ≤ maxLen := by unfold maxLen; omega
  have z1 : ((⟨#[115, 116]⟩ : ByteArray)).size = 2 := rfl
  have b1 : (c == 1) = false := by simpa using (show ¬ c = 1 by omega)
  have b3 : (c == 3) = true := by simpa using hc
  have b2 : (b == 2) = false := by simpa using hb
  simp only [go_sem, w1, b1, b2, b3, h1, h2, h2', m1, m2, z1, ByteArray.size_append]
  refine sw_drawF (ctx := [⟨_, rregS⟩, ⟨_, rtoS⟩, ⟨_, rofS⟩, ⟨_, rmemS⟩, ⟨_, rflagNumS⟩, ⟨_, rpickS⟩, ⟨_, rlineS⟩]) mixed ⟨[], [(4, [416]), (8, [480])], [(0, [416, 480]), (5, [416]), (6, [416]), (7, [416])]⟩ (by kernel_rfl) ?_
  simp only [go_sem, w1, b1, b2, b3, h1, h2, h2', m1, m2, z1, ByteArray.size_append]
  refine sw_drawF (ctx := [⟨_, rregS⟩, ⟨_, rtoS⟩, ⟨_, rofS⟩, ⟨_, rmemS⟩, ⟨_, rflagNumS⟩, ⟨_, rpickS⟩, ⟨_, rlineS⟩]) mixed ⟨[22, 23], [], []⟩ (by kernel_rfl) ?_
  simp only [go_sem, w1, b1, b2, b3, h1, h2, h2', m1, m2, z1, ByteArray.size_append]
set_option maxHeartbeats 4000000 in
theorem rl19cob2 (xx : Bool) (rd rn rm ra a b c : Int) (ha : -1000000000000 ≤ a ∧ a ≤ 1000000000000) (hc : ¬ c = 1 ∧ ¬ c = 3) (hb : b = 2) : SW Tryz.prog ⟨none, 0⟩ Tryz.f77.ntmps (Tryz.f77.body.getD .skip) ⟨0, zipT 0 [(tAgg insR).enc ⟨19, xx, false, rd, rn, rm, ra, a, b, c⟩], []⟩ (outQ Tryz.prog Tryz.f77.results.toList (.ret (lineV (((⟨#[115, 116]⟩ : ByteArray) ++ (pickF c [(⟨#[110, 112]⟩ : ByteArray), (⟨#[112]⟩ : ByteArray), (⟨#[112]⟩ : ByteArray), (⟨#[112]⟩ : ByteArray)] ++ pickF b [emp, (⟨#[115, 119]⟩ : ByteArray), emp]), [oReg rd (decide (0 < b)), oReg ra (decide (0 < b)), oMem rn 0 (8 * a)]))))) := by
  refine aRun_sound (ctx := [⟨_, rregS⟩, ⟨_, rtoS⟩, ⟨_, rofS⟩, ⟨_, rmemS⟩, ⟨_, rflagNumS⟩, ⟨_, rpickS⟩, ⟨_, rlineS⟩]) 4000 ?_
  rw [Tryz.ntmps77, Tryz.results77]
  simp only [Tryz.f77, Option.getD_some, zipT]
  have w1 : IntKind.i64.wrap (8 * a) = 8 * a := by rw [IntKind.wrap_i64]; omega
  obtain ⟨A1, h1⟩ : ∃ A, pickF c [(⟨#[110, 112]⟩ : ByteArray), (⟨#[112]⟩ : ByteArray), (⟨#[112]⟩ : ByteArray), (⟨#[112]⟩ : ByteArray)] = A := ⟨_, rfl⟩
  obtain ⟨A2, h2⟩ : ∃ A, pickF b [(⟨#[]⟩ : ByteArray), (⟨#[115, 119]⟩ : ByteArray), (⟨#[]⟩ : ByteArray)] = A := ⟨_, rfl⟩
  have h2' : pickF b [emp, (⟨#[115, 119]⟩ : ByteArray), emp] = A2 := h2
  have l1 : A1.size ≤ 2 := by rw [← h1]; exact pickF_le (by decide)
  have l2 : A2.size ≤ 2 := by rw [← h2]; exact pickF_le (by decide)
  have m1 : A1.size + A2.size ≤ maxLen := by unfold maxLen; omega
  have m2 : 2 + (A1.size + A2.size) ≤ maxLen := by unfold maxLen; omega
  have z1 : ((⟨#[115, 116]⟩ : ByteArray)).size = 2 := rfl
  have b1 : (c == 1) = false := by simpa using (show ¬ c = 1 by omega)
  have b3 : (c == 3) = false := by simpa using (show ¬ c = 3 by omega)
  have b2 : (b == 2) = true := by simpa using hb
  simp only [go_sem, w1, b1, b2, b3, h1, h2, h2', m1, m2, z1, ByteArray.size_append]
  refine sw_drawF (ctx := [⟨_, rregS⟩, ⟨_, rtoS⟩, ⟨_, rofS⟩, ⟨_, rmemS⟩, ⟨_, rflagNumS⟩, ⟨_, rpickS⟩, ⟨_, rlineS⟩]) mixed ⟨[], [(4, [416]), (8, [480])], [(0, [416, 480]), (5, [416]), (6, [416]), (7, [416])]⟩ (by kernel_rfl) ?_
  simp only [go_sem, w1, b1, b2, b3, h1, h2, h2', m1, m2, z1, ByteArray.size_append]
  refine sw_drawF (ctx := [⟨_, rregS⟩, ⟨_, rtoS⟩, ⟨_, rofS⟩, ⟨_, rmemS⟩, ⟨_, rflagNumS⟩, ⟨_, rpickS⟩, ⟨_, rlineS⟩]) mixed ⟨[22, 23], [], []⟩ (by kernel_rfl) ?_
  simp only [go_sem, w1, b1, b2, b3, h1, h2, h2', m1, m2, z1, ByteArray.size_append]
set_option maxHeartbeats 4000000 in
theorem rl19cobo (xx : Bool) (rd rn rm ra a b c : Int) (ha : -1000000000000 ≤ a ∧ a ≤ 1000000000000) (hc : ¬ c = 1 ∧ ¬ c = 3) (hb : ¬ b = 2) : SW Tryz.prog ⟨none, 0⟩ Tryz.f77.ntmps (Tryz.f77.body.getD .skip) ⟨0, zipT 0 [(tAgg insR).enc ⟨19, xx, false, rd, rn, rm, ra, a, b, c⟩], []⟩ (outQ Tryz.prog Tryz.f77.results.toList (.ret (lineV (((⟨#[115, 116]⟩ : ByteArray) ++ (pickF c [(⟨#[110, 112]⟩ : ByteArray), (⟨#[112]⟩ : ByteArray), (⟨#[112]⟩ : ByteArray), (⟨#[112]⟩ : ByteArray)] ++ pickF b [emp, (⟨#[115, 119]⟩ : ByteArray), emp]), [oReg rd (decide (0 < b)), oReg ra (decide (0 < b)), oMem rn 0 (4 * a)]))))) := by
  refine aRun_sound (ctx := [⟨_, rregS⟩, ⟨_, rtoS⟩, ⟨_, rofS⟩, ⟨_, rmemS⟩, ⟨_, rflagNumS⟩, ⟨_, rpickS⟩, ⟨_, rlineS⟩]) 4000 ?_
  rw [Tryz.ntmps77, Tryz.results77]
  simp only [Tryz.f77, Option.getD_some, zipT]
  have w1 : IntKind.i64.wrap (4 * a) = 4 * a := by rw [IntKind.wrap_i64]; omega
  obtain ⟨A1, h1⟩ : ∃ A, pickF c [(⟨#[110, 112]⟩ : ByteArray), (⟨#[112]⟩ : ByteArray), (⟨#[112]⟩ : ByteArray), (⟨#[112]⟩ : ByteArray)] = A := ⟨_, rfl⟩
  obtain ⟨A2, h2⟩ : ∃ A, pickF b [(⟨#[]⟩ : ByteArray), (⟨#[115, 119]⟩ : ByteArray), (⟨#[]⟩ : ByteArray)] = A := ⟨_, rfl⟩
  have h2' : pickF b [emp, (⟨#[115, 119]⟩ : ByteArray), emp] = A2 := h2
  have l1 : A1.size ≤ 2 := by rw [← h1]; exact pickF_le (by decide)
  have l2 : A2.size ≤ 2 := by rw [← h2]; exact pickF_le (by decide)
  have m1 : A1.size + A2.size ≤ maxLen := by unfold maxLen; omega
  have m2 : 2 + (A1.size + A2.size) ≤ maxLen := by unfold maxLen; omega
  have z1 : ((⟨#[115, 116]⟩ : ByteArray)).size = 2 := rfl
  have b1 : (c == 1) = false := by simpa using (show ¬ c = 1 by omega)
  have b3 : (c == 3) = false := by simpa using (show ¬ c = 3 by omega)
  have b2 : (b == 2) = false := by simpa using hb
  simp only [go_sem, w1, b1, b2, b3, h1, h2, h2', m1, m2, z1, ByteArray.size_append]
  refine sw_drawF (ctx := [⟨_, rregS⟩, ⟨_, rtoS⟩, ⟨_, rofS⟩, ⟨_, rmemS⟩, ⟨_, rflagNumS⟩, ⟨_, rpickS⟩, ⟨_, rlineS⟩]) mixed ⟨[], [(4, [400]), (8, [464])], [(0, [400, 464]), (5, [400]), (6, [400]), (7, [400])]⟩ (by kernel_rfl) ?_
  simp only [go_sem, w1, b1, b2, b3, h1, h2, h2', m1, m2, z1, ByteArray.size_append]
  refine sw_drawF (ctx := [⟨_, rregS⟩, ⟨_, rtoS⟩, ⟨_, rofS⟩, ⟨_, rmemS⟩, ⟨_, rflagNumS⟩, ⟨_, rpickS⟩, ⟨_, rlineS⟩]) mixed ⟨[22, 23], [], []⟩ (by kernel_rfl) ?_
  simp only [go_sem, w1, b1, b2, b3, h1, h2, h2', m1, m2, z1, ByteArray.size_append]
set_option maxHeartbeats 4000000 in
theorem rl232s (xx : Bool) (rd rn rm ra b c : Int) : SW Tryz.prog ⟨none, 0⟩ Tryz.f77.ntmps (Tryz.f77.body.getD .skip) ⟨0, zipT 0 [(tAgg insR).enc ⟨23, xx, true, rd, rn, rm, ra, 2, b, c⟩], []⟩ (outQ Tryz.prog Tryz.f77.results.toList (.ret (lineV ((((⟨#[108, 100]⟩ : ByteArray) ++ (pickF (flagN true) [(⟨#[108]⟩ : ByteArray), (⟨#[97]⟩ : ByteArray)] ++ (⟨#[114]⟩ : ByteArray))) ++ pickF b [(⟨#[98]⟩ : ByteArray), (⟨#[104]⟩ : ByteArray), emp, emp], [oReg rd (decide (b = 3)), oMem rn 0 0]))))) := by
  refine aRun_sound (ctx := [⟨_, rregS⟩, ⟨_, rtoS⟩, ⟨_, rofS⟩, ⟨_, rmemS⟩, ⟨_, rflagNumS⟩, ⟨_, rpickS⟩, ⟨_, rlineS⟩]) 4000 ?_
  rw [Tryz.ntmps77, Tryz.results77]
  simp only [Tryz.f77, Option.getD_some, zipT]
  have e2 := beq_dec b 3
  have n1 : (1 : Nat) ≤ maxLen := by unfold maxLen; omega
  have n2 : (2 : Nat) ≤ maxLen := by unfold maxLen; omega
  have n3 : (3 : Nat) ≤ maxLen := by unfold maxLen; omega
  have n4 : (4 : Nat) ≤ maxLen := by unfold maxLen; omega
  have n5 : (5 : Nat) ≤ maxLen := by unfold maxLen; omega
  obtain ⟨A1, hA1⟩ : ∃ A, pickF (flagN true) [(⟨#[108]⟩ : ByteArray), (⟨#[97]⟩ : ByteArray)] = A := ⟨_, rfl⟩
  have hA1' : pickF (flagN true) [(⟨#[108]⟩ : ByteArray), (⟨#[97]⟩ : ByteArray)] = A1 := hA1
  have lA1 : A1.size ≤ 1 := by rw [← hA1]; exact pickF_le (by decide)
  obtain ⟨A5, hA5⟩ : ∃ A, pickF b [(⟨#[98]⟩ : ByteArray), (⟨#[104]⟩ : ByteArray), (⟨#[]⟩ : ByteArray), (⟨#[]⟩ : ByteArray)] = A := ⟨_, rfl⟩
  have hA5' : pickF b [(⟨#[98]⟩ : ByteArray), (⟨#[104]⟩ : ByteArray), emp, emp] = A5 := hA5
  have lA5 : A5.size ≤ 1 := by rw [← hA5]; exact pickF_le (by decide)
  have m0 : A1.size + 1 ≤ maxLen := by unfold maxLen; omega
  have m1 : 2 + (A1.size + 1) ≤ maxLen := by unfold maxLen; omega
  have m2 : 2 + (A1.size + 1) + A5.size ≤ maxLen := by unfold maxLen; omega
  have z0 : ((⟨#[108, 100]⟩ : ByteArray)).size = 2 := rfl
  have z1 : ((⟨#[114]⟩ : ByteArray)).size = 1 := rfl
  have z2 : ((⟨#[120]⟩ : ByteArray)).size = 1 := rfl
  simp only [go_sem, e2, n1, n2, n3, n4, n5, ByteArray.size_append, hA1, hA1', hA5, hA5', m0, m1, m2, z0, z1, z2]
set_option maxHeartbeats 4000000 in
theorem rl230xs (rd rn rm ra b c : Int) : SW Tryz.prog ⟨none, 0⟩ Tryz.f77.ntmps (Tryz.f77.body.getD .skip) ⟨0, zipT 0 [(tAgg insR).enc ⟨23, true, true, rd, rn, rm, ra, 0, b, c⟩], []⟩ (outQ Tryz.prog Tryz.f77.results.toList (.ret (lineV ((((⟨#[108, 100]⟩ : ByteArray) ++ (pickF (flagN true) [(⟨#[108, 120]⟩ : ByteArray), (⟨#[97, 120]⟩ : ByteArray)] ++ pickF 0 [(⟨#[114]⟩ : ByteArray), (⟨#[112]⟩ : ByteArray)])) ++ pickF b [(⟨#[98]⟩ : ByteArray), (⟨#[104]⟩ : ByteArray), emp, emp], [oReg rd (decide (b = 3)), oMem rn 0 0]))))) := by
  refine aRun_sound (ctx := [⟨_, rregS⟩, ⟨_, rtoS⟩, ⟨_, rofS⟩, ⟨_, rmemS⟩, ⟨_, rflagNumS⟩, ⟨_, rpickS⟩, ⟨_, rlineS⟩]) 4000 ?_
  rw [Tryz.ntmps77, Tryz.results77]
  simp only [Tryz.f77, Option.getD_some, zipT]
  have e2 := beq_dec b 3
  have n1 : (1 : Nat) ≤ maxLen := by unfold maxLen; omega
  have n2 : (2 : Nat) ≤ maxLen := by unfold maxLen; omega
  have n3 : (3 : Nat) ≤ maxLen := by unfold maxLen; omega
  have n4 : (4 : Nat) ≤ maxLen := by unfold maxLen; omega
  have n5 : (5 : Nat) ≤ maxLen := by unfold maxLen; omega
  obtain ⟨A1, hA1⟩ : ∃ A, pickF (flagN true) [(⟨#[108, 120]⟩ : ByteArray), (⟨#[97, 120]⟩ : ByteArray)] = A := ⟨_, rfl⟩
  have hA1' : pickF (flagN true) [(⟨#[108, 120]⟩ : ByteArray), (⟨#[97, 120]⟩ : ByteArray)] = A1 := hA1
  have lA1 : A1.size ≤ 2 := by rw [← hA1]; exact pickF_le (by decide)
  obtain ⟨A2, hA2⟩ : ∃ A, pickF 0 [(⟨#[114]⟩ : ByteArray), (⟨#[112]⟩ : ByteArray)] = A := ⟨_, rfl⟩
  have hA2' : pickF 0 [(⟨#[114]⟩ : ByteArray), (⟨#[112]⟩ : ByteArray)] = A2 := hA2
  have lA2 : A2.size ≤ 1 := by rw [← hA2]; exact pickF_le (by decide)
  obtain ⟨A5, hA5⟩ : ∃ A, pickF b [(⟨#[98]⟩ : ByteArray), (⟨#[104]⟩ : ByteArray), (⟨#[]⟩ : ByteArray), (⟨#[]⟩ : ByteArray)] = A := ⟨_, rfl⟩
  have hA5' : pickF b [(⟨#[98]⟩ : ByteArray), (⟨#[104]⟩ : ByteArray), emp, emp] = A5 := hA5
  have lA5 : A5.size ≤ 1 := by rw [← hA5]; exact pickF_le (by decide)
  have m0 : A1.size + A2.size ≤ maxLen := by unfold maxLen; omega
  have m1 : 2 + (A1.size + A2.size) ≤ maxLen := by unfold maxLen; omega
  have m2 : 2 + (A1.size + A2.size) + A5.size ≤ maxLen := by unfold maxLen; omega
  have z0 : ((⟨#[108, 100]⟩ : ByteArray)).size = 2 := rfl
  have z1 : ((⟨#[114]⟩ : ByteArray)).size = 1 := rfl
  have z2 : ((⟨#[120]⟩ : ByteArray)).size = 1 := rfl
  simp only [go_sem, e2, n1, n2, n3, n4, n5, ByteArray.size_append, hA1, hA1', hA2, hA2', hA5, hA5', m0, m1, m2, z0, z1, z2]
  refine sw_drawF (ctx := [⟨_, rregS⟩, ⟨_, rtoS⟩, ⟨_, rofS⟩, ⟨_, rmemS⟩, ⟨_, rflagNumS⟩, ⟨_, rpickS⟩, ⟨_, rlineS⟩]) mixed ⟨[], [(5, [368]), (9, [432])], [(0, [368, 432]), (6, [368]), (7, [368]), (8, [368])]⟩ (by kernel_rfl) ?_
  simp only [go_sem, e2, n1, n2, n3, n4, n5, ByteArray.size_append, hA1, hA1', hA2, hA2', hA5, hA5', m0, m1, m2, z0, z1, z2]
set_option maxHeartbeats 4000000 in
theorem rl230s (rd rn rm ra b c : Int) : SW Tryz.prog ⟨none, 0⟩ Tryz.f77.ntmps (Tryz.f77.body.getD .skip) ⟨0, zipT 0 [(tAgg insR).enc ⟨23, false, true, rd, rn, rm, ra, 0, b, c⟩], []⟩ (outQ Tryz.prog Tryz.f77.results.toList (.ret (lineV ((((⟨#[108, 100]⟩ : ByteArray) ++ ((⟨#[120]⟩ : ByteArray) ++ pickF 0 [(⟨#[114]⟩ : ByteArray), (⟨#[112]⟩ : ByteArray)])) ++ pickF b [(⟨#[98]⟩ : ByteArray), (⟨#[104]⟩ : ByteArray), emp, emp], [oReg rd (decide (b = 3)), oMem rn 0 0]))))) := by
  refine aRun_sound (ctx := [⟨_, rregS⟩, ⟨_, rtoS⟩, ⟨_, rofS⟩, ⟨_, rmemS⟩, ⟨_, rflagNumS⟩, ⟨_, rpickS⟩, ⟨_, rlineS⟩]) 4000 ?_
  rw [Tryz.ntmps77, Tryz.results77]
  simp only [Tryz.f77, Option.getD_some, zipT]
  have e2 := beq_dec b 3
  have n1 : (1 : Nat) ≤ maxLen := by unfold maxLen; omega
  have n2 : (2 : Nat) ≤ maxLen := by unfold maxLen; omega
  have n3 : (3 : Nat) ≤ maxLen := by unfold maxLen; omega
  have n4 : (4 : Nat) ≤ maxLen := by unfold maxLen; omega
  have n5 : (5 : Nat) ≤ maxLen := by unfold maxLen; omega
  obtain ⟨A2, hA2⟩ : ∃ A, pickF 0 [(⟨#[114]⟩ : ByteArray), (⟨#[112]⟩ : ByteArray)] = A := ⟨_, rfl⟩
  have hA2' : pickF 0 [(⟨#[114]⟩ : ByteArray), (⟨#[112]⟩ : ByteArray)] = A2 := hA2
  have lA2 : A2.size ≤ 1 := by rw [← hA2]; exact pickF_le (by decide)
  obtain ⟨A5, hA5⟩ : ∃ A, pickF b [(⟨#[98]⟩ : ByteArray), (⟨#[104]⟩ : ByteArray), (⟨#[]⟩ : ByteArray), (⟨#[]⟩ : ByteArray)] = A := ⟨_, rfl⟩
  have hA5' : pickF b [(⟨#[98]⟩ : ByteArray), (⟨#[104]⟩ : ByteArray), emp, emp] = A5 := hA5
  have lA5 : A5.size ≤ 1 := by rw [← hA5]; exact pickF_le (by decide)
  have m0 : 1 + A2.size ≤ maxLen := by unfold maxLen; omega
  have m1 : 2 + (1 + A2.size) ≤ maxLen := by unfold maxLen; omega
  have m2 : 2 + (1 + A2.size) + A5.size ≤ maxLen := by unfold maxLen; omega
  have z0 : ((⟨#[108, 100]⟩ : ByteArray)).size = 2 := rfl
  have z1 : ((⟨#[114]⟩ : ByteArray)).size = 1 := rfl
  have z2 : ((⟨#[120]⟩ : ByteArray)).size = 1 := rfl
  simp only [go_sem, e2, n1, n2, n3, n4, n5, ByteArray.size_append, hA2, hA2', hA5, hA5', m0, m1, m2, z0, z1, z2]
set_option maxHeartbeats 4000000 in
theorem rl231xs (rd rn rm ra b c : Int) : SW Tryz.prog ⟨none, 0⟩ Tryz.f77.ntmps (Tryz.f77.body.getD .skip) ⟨0, zipT 0 [(tAgg insR).enc ⟨23, true, true, rd, rn, rm, ra, 1, b, c⟩], []⟩ (outQ Tryz.prog Tryz.f77.results.toList (.ret (lineV ((((⟨#[108, 100]⟩ : ByteArray) ++ (pickF (flagN true) [(⟨#[108, 120]⟩ : ByteArray), (⟨#[97, 120]⟩ : ByteArray)] ++ pickF 1 [(⟨#[114]⟩ : ByteArray), (⟨#[112]⟩ : ByteArray)])) ++ pickF b [(⟨#[98]⟩ : ByteArray), (⟨#[104]⟩ : ByteArray), emp, emp], [oReg rd (decide (b = 3)), oReg ra (decide (b = 3)), oMem rn 0 0]))))) := by
  refine aRun_sound (ctx := [⟨_, rregS⟩, ⟨_, rtoS⟩, ⟨_, rofS⟩, ⟨_, rmemS⟩, ⟨_, rflagNumS⟩, ⟨_, rpickS⟩, ⟨_, rlineS⟩]) 4000 ?_
  rw [Tryz.ntmps77, Tryz.results77]
  simp only [Tryz.f77, Option.getD_some, zipT]
  have e2 := beq_dec b 3
  have n1 : (1 : Nat) ≤ maxLen := by unfold maxLen; omega
  have n2 : (2 : Nat) ≤ maxLen := by unfold maxLen; omega
  have n3 : (3 : Nat) ≤ maxLen := by unfold maxLen; omega
  have n4 : (4 : Nat) ≤ maxLen := by unfold maxLen; omega
  have n5 : (5 : Nat) ≤ maxLen := by unfold maxLen; omega
  obtain ⟨A1, hA1⟩ : ∃ A, pickF (flagN true) [(⟨#[108, 120]⟩ : ByteArray), (⟨#[97, 120]⟩ : ByteArray)] = A := ⟨_, rfl⟩
  have hA1' : pickF (flagN true) [(⟨#[108, 120]⟩ : ByteArray), (⟨#[97, 120]⟩ : ByteArray)] = A1 := hA1
  have lA1 : A1.size ≤ 2 := by rw [← hA1]; exact pickF_le (by decide)
  obtain ⟨A2, hA2⟩ : ∃ A, pickF 1 [(⟨#[114]⟩ : ByteArray), (⟨#[112]⟩ : ByteArray)] = A := ⟨_, rfl⟩
  have hA2' : pickF 1 [(⟨#[114]⟩ : ByteArray), (⟨#[112]⟩ : ByteArray)] = A2 := hA2
  have lA2 : A2.size ≤ 1 := by rw [← hA2]; exact pickF_le (by decide)
  obtain ⟨A5, hA5⟩ : ∃ A, pickF b [(⟨#[98]⟩ : ByteArray), (⟨#[104]⟩ : ByteArray), (⟨#[]⟩ : ByteArray), (⟨#[]⟩ : ByteArray)] = A := ⟨_, rfl⟩
  have hA5' : pickF b [(⟨#[98]⟩ : ByteArray), (⟨#[104]⟩ : ByteArray), emp, emp] = A5 := hA5
  have lA5 : A5.size ≤ 1 := by rw [← hA5]; exact pickF_le (by decide)
  have m0 : A1.size + A2.size ≤ maxLen := by unfold maxLen; omega
  have m1 : 2 + (A1.size + A2.size) ≤ maxLen := by unfold maxLen; omega
  have m2 : 2 + (A1.size + A2.size) + A5.size ≤ maxLen := by unfold maxLen; omega
  have z0 : ((⟨#[108, 100]⟩ : ByteArray)).size = 2 := rfl
  have z1 : ((⟨#[114]⟩ : ByteArray)).size = 1 := rfl
  have z2 : ((⟨#[120]⟩ : ByteArray)).size = 1 := rfl
  simp only [go_sem, e2, n1, n2, n3, n4, n5, ByteArray.size_append, hA1, hA1', hA2, hA2', hA5, hA5', m0, m1, m2, z0, z1, z2]
  refine sw_drawF (ctx := [⟨_, rregS⟩, ⟨_, rtoS⟩, ⟨_, rofS⟩, ⟨_, rmemS⟩, ⟨_, rflagNumS⟩, ⟨_, rpickS⟩, ⟨_, rlineS⟩]) mixed ⟨[], [(5, [368]), (9, [432])], [(0, [368, 432]), (6, [368]), (7, [368]), (8, [368])]⟩ (by kernel_rfl) ?_
  simp only [go_sem, e2, n1, n2, n3, n4, n5, ByteArray.size_append, hA1, hA1', hA2, hA2', hA5, hA5', m0, m1, m2, z0, z1, z2]
set_option maxHeartbeats 4000000 in
theorem rl231s (rd rn rm ra b c : Int) : SW Tryz.prog ⟨none, 0⟩ Tryz.f77.ntmps (Tryz.f77.body.getD .skip) ⟨0, zipT 0 [(tAgg insR).enc ⟨23, false, true, rd, rn, rm, ra, 1, b, c⟩], []⟩ (outQ Tryz.prog Tryz.f77.results.toList (.ret (lineV ((((⟨#[108, 100]⟩ : ByteArray) ++ ((⟨#[120]⟩ : ByteArray) ++ pickF 1 [(⟨#[114]⟩ : ByteArray), (⟨#[112]⟩ : ByteArray)])) ++ pickF b [(⟨#[98]⟩ : ByteArray), (⟨#[104]⟩ : ByteArray), emp, emp], [oReg rd (decide (b = 3)), oReg ra (decide (b = 3)), oMem rn 0 0]))))) := by
  refine aRun_sound (ctx := [⟨_, rregS⟩, ⟨_, rtoS⟩, ⟨_, rofS⟩, ⟨_, rmemS⟩, ⟨_, rflagNumS⟩, ⟨_, rpickS⟩, ⟨_, rlineS⟩]) 4000 ?_
  rw [Tryz.ntmps77, Tryz.results77]
  simp only [Tryz.f77, Option.getD_some, zipT]
  have e2 := beq_dec b 3
  have n1 : (1 : Nat) ≤ maxLen := by unfold maxLen; omega
  have n2 : (2 : Nat) ≤ maxLen := by unfold maxLen; omega
  have n3 : (3 : Nat) ≤ maxLen := by unfold maxLen; omega
  have n4 : (4 : Nat) ≤ maxLen := by unfold maxLen; omega
  have n5 : (5 : Nat) ≤ maxLen := by unfold maxLen; omega
  obtain ⟨A2, hA2⟩ : ∃ A, pickF 1 [(⟨#[114]⟩ : ByteArray), (⟨#[112]⟩ : ByteArray)] = A := ⟨_, rfl⟩
  have hA2' : pickF 1 [(⟨#[114]⟩ : ByteArray), (⟨#[112]⟩ : ByteArray)] = A2 := hA2
  have lA2 : A2.size ≤ 1 := by rw [← hA2]; exact pickF_le (by decide)
  obtain ⟨A5, hA5⟩ : ∃ A, pickF b [(⟨#[98]⟩ : ByteArray), (⟨#[104]⟩ : ByteArray), (⟨#[]⟩ : ByteArray), (⟨#[]⟩ : ByteArray)] = A := ⟨_, rfl⟩
  have hA5' : pickF b [(⟨#[98]⟩ : ByteArray), (⟨#[104]⟩ : ByteArray), emp, emp] = A5 := hA5
  have lA5 : A5.size ≤ 1 := by rw [← hA5]; exact pickF_le (by decide)
  have m0 : 1 + A2.size ≤ maxLen := by unfold maxLen; omega
  have m1 : 2 + (1 + A2.size) ≤ maxLen := by unfold maxLen; omega
  have m2 : 2 + (1 + A2.size) + A5.size ≤ maxLen := by unfold maxLen; omega
  have z0 : ((⟨#[108, 100]⟩ : ByteArray)).size = 2 := rfl
  have z1 : ((⟨#[114]⟩ : ByteArray)).size = 1 := rfl
  have z2 : ((⟨#[120]⟩ : ByteArray)).size = 1 := rfl
  simp only [go_sem, e2, n1, n2, n3, n4, n5, ByteArray.size_append, hA2, hA2', hA5, hA5', m0, m1, m2, z0, z1, z2]
set_option maxHeartbeats 4000000 in
theorem rl232 (xx : Bool) (rd rn rm ra b c : Int) : SW Tryz.prog ⟨none, 0⟩ Tryz.f77.ntmps (Tryz.f77.body.getD .skip) ⟨0, zipT 0 [(tAgg insR).enc ⟨23, xx, false, rd, rn, rm, ra, 2, b, c⟩], []⟩ (outQ Tryz.prog Tryz.f77.results.toList (.ret (lineV ((((⟨#[115, 116]⟩ : ByteArray) ++ (pickF (flagN false) [(⟨#[108]⟩ : ByteArray), (⟨#[97]⟩ : ByteArray)] ++ (⟨#[114]⟩ : ByteArray))) ++ pickF b [(⟨#[98]⟩ : ByteArray), (⟨#[104]⟩ : ByteArray), emp, emp], [oReg rd (decide (b = 3)), oMem rn 0 0]))))) := by
  refine aRun_sound (ctx := [⟨_, rregS⟩, ⟨_, rtoS⟩, ⟨_, rofS⟩, ⟨_, rmemS⟩, ⟨_, rflagNumS⟩, ⟨_, rpickS⟩, ⟨_, rlineS⟩]) 4000 ?_
  rw [Tryz.ntmps77, Tryz.results77]
  simp only [Tryz.f77, Option.getD_some, zipT]
  have e2 := beq_dec b 3
  have n1 : (1 : Nat) ≤ maxLen := by unfold maxLen; omega
  have n2 : (2 : Nat) ≤ maxLen := by unfold maxLen; omega
  have n3 : (3 : Nat) ≤ maxLen := by unfold maxLen; omega
  have n4 : (4 : Nat) ≤ maxLen := by unfold maxLen; omega
  have n5 : (5 : Nat) ≤ maxLen := by unfold maxLen; omega
  obtain ⟨A1, hA1⟩ : ∃ A, pickF (flagN false) [(⟨#[108]⟩ : ByteArray), (⟨#[97]⟩ : ByteArray)] = A := ⟨_, rfl⟩
  have hA1' : pickF (flagN false) [(⟨#[108]⟩ : ByteArray), (⟨#[97]⟩ : ByteArray)] = A1 := hA1
  have lA1 : A1.size ≤ 1 := by rw [← hA1]; exact pickF_le (by decide)
  obtain ⟨A5, hA5⟩ : ∃ A, pickF b [(⟨#[98]⟩ : ByteArray), (⟨#[104]⟩ : ByteArray), (⟨#[]⟩ : ByteArray), (⟨#[]⟩ : ByteArray)] = A := ⟨_, rfl⟩
  have hA5' : pickF b [(⟨#[98]⟩ : ByteArray), (⟨#[104]⟩ : ByteArray), emp, emp] = A5 := hA5
  have lA5 : A5.size ≤ 1 := by rw [← hA5]; exact pickF_le (by decide)
  have m0 : A1.size + 1 ≤ maxLen := by unfold maxLen; omega
  have m1 : 2 + (A1.size + 1) ≤ maxLen := by unfold maxLen; omega
  have m2 : 2 + (A1.size + 1) + A5.size ≤ maxLen := by unfold maxLen; omega
  have z0 : ((⟨#[115, 116]⟩ : ByteArray)).size = 2 := rfl
  have z1 : ((⟨#[114]⟩ : ByteArray)).size = 1 := rfl
  have z2 : ((⟨#[120]⟩ : ByteArray)).size = 1 := rfl
  simp only [go_sem, e2, n1, n2, n3, n4, n5, ByteArray.size_append, hA1, hA1', hA5, hA5', m0, m1, m2, z0, z1, z2]
set_option maxHeartbeats 4000000 in
theorem rl230x (rd rn rm ra b c : Int) : SW Tryz.prog ⟨none, 0⟩ Tryz.f77.ntmps (Tryz.f77.body.getD .skip) ⟨0, zipT 0 [(tAgg insR).enc ⟨23, true, false, rd, rn, rm, ra, 0, b, c⟩], []⟩ (outQ Tryz.prog Tryz.f77.results.toList (.ret (lineV ((((⟨#[115, 116]⟩ : ByteArray) ++ (pickF (flagN false) [(⟨#[108, 120]⟩ : ByteArray), (⟨#[97, 120]⟩ : ByteArray)] ++ pickF 0 [(⟨#[114]⟩ : ByteArray), (⟨#[112]⟩ : ByteArray)])) ++ pickF b [(⟨#[98]⟩ : ByteArray), (⟨#[104]⟩ : ByteArray), emp, emp], [oReg rm false, oReg rd (decide (b = 3)), oMem rn 0 0]))))) := by
  refine aRun_sound (ctx := [⟨_, rregS⟩, ⟨_, rtoS⟩, ⟨_, rofS⟩, ⟨_, rmemS⟩, ⟨_, rflagNumS⟩, ⟨_, rpickS⟩, ⟨_, rlineS⟩]) 4000 ?_
  rw [Tryz.ntmps77, Tryz.results77]
  simp only [Tryz.f77, Option.getD_some, zipT]
  have e2 := beq_dec b 3
  have n1 : (1 : Nat) ≤ maxLen := by unfold maxLen; omega
  have n2 : (2 : Nat) ≤ maxLen := by unfold maxLen; omega
  have n3 : (3 : Nat) ≤ maxLen := by unfold maxLen; omega
  have n4 : (4 : Nat) ≤ maxLen := by unfold maxLen; omega
  have n5 : (5 : Nat) ≤ maxLen := by unfold maxLen; omega
  obtain ⟨A1, hA1⟩ : ∃ A, pickF (flagN false) [(⟨#[108, 120]⟩ : ByteArray), (⟨#[97, 120]⟩ : ByteArray)] = A := ⟨_, rfl⟩
  have hA1' : pickF (flagN false) [(⟨#[108, 120]⟩ : ByteArray), (⟨#[97, 120]⟩ : ByteArray)] = A1 := hA1
  have lA1 : A1.size ≤ 2 := by rw [← hA1]; exact pickF_le (by decide)
  obtain ⟨A2, hA2⟩ : ∃ A, pickF 0 [(⟨#[114]⟩ : ByteArray), (⟨#[112]⟩ : ByteArray)] = A := ⟨_, rfl⟩
  have hA2' : pickF 0 [(⟨#[114]⟩ : ByteArray), (⟨#[112]⟩ : ByteArray)] = A2 := hA2
  have lA2 : A2.size ≤ 1 := by rw [← hA2]; exact pickF_le (by decide)
  obtain ⟨A5, hA5⟩ : ∃ A, pickF b [(⟨#[98]⟩ : ByteArray), (⟨#[104]⟩ : ByteArray), (⟨#[]⟩ : ByteArray), (⟨#[]⟩ : ByteArray)] = A := ⟨_, rfl⟩
  have hA5' : pickF b [(⟨#[98]⟩ : ByteArray), (⟨#[104]⟩ : ByteArray), emp, emp] = A5 := hA5
  have lA5 : A5.size ≤ 1 := by rw [← hA5]; exact pickF_le (by decide)
  have m0 : A1.size + A2.size ≤ maxLen := by unfold maxLen; omega
  have m1 : 2 + (A1.size + A2.size) ≤ maxLen := by unfold maxLen; omega
  have m2 : 2 + (A1.size + A2.size) + A5.size ≤ maxLen := by unfold maxLen; omega
  have z0 : ((⟨#[115, 116]⟩ : ByteArray)).size = 2 := rfl
  have z1 : ((⟨#[114]⟩ : ByteArray)).size = 1 := rfl
  have z2 : ((⟨#[120]⟩ : ByteArray)).size = 1 := rfl
  simp only [go_sem, e2, n1, n2, n3, n4, n5, ByteArray.size_append, hA1, hA1', hA2, hA2', hA5, hA5', m0, m1, m2, z0, z1, z2]
  refine sw_drawF (ctx := [⟨_, rregS⟩, ⟨_, rtoS⟩, ⟨_, rofS⟩, ⟨_, rmemS⟩, ⟨_, rflagNumS⟩, ⟨_, rpickS⟩, ⟨_, rlineS⟩]) mixed ⟨[], [(5, [352]), (9, [416])], [(0, [352, 416]), (6, [352]), (7, [352]), (8, [352])]⟩ (by kernel_rfl) ?_
  simp only [go_sem, e2, n1, n2, n3, n4, n5, ByteArray.size_append, hA1, hA1', hA2, hA2', hA5, hA5', m0, m1, m2, z0, z1, z2]
set_option maxHeartbeats 4000000 in
theorem rl230 (rd rn rm ra b c : Int) : SW Tryz.prog ⟨none, 0⟩ Tryz.f77.ntmps (Tryz.f77.body.getD .skip) ⟨0, zipT 0 [(tAgg insR).enc ⟨23, false, false, rd, rn, rm, ra, 0, b, c⟩], []⟩ (outQ Tryz.prog Tryz.f77.results.toList (.ret (lineV ((((⟨#[115, 116]⟩ : ByteArray) ++ ((⟨#[120]⟩ : ByteArray) ++ pickF 0 [(⟨#[114]⟩ : ByteArray), (⟨#[112]⟩ : ByteArray)])) ++ pickF b [(⟨#[98]⟩ : ByteArray), (⟨#[104]⟩ : ByteArray), emp, emp], [oReg rm false, oReg rd (decide (b = 3)), oMem rn 0 0]))))) := by
  refine aRun_sound (ctx := [⟨_, rregS⟩, ⟨_, rtoS⟩, ⟨_, rofS⟩, ⟨_, rmemS⟩, ⟨_, rflagNumS⟩, ⟨_, rpickS⟩, ⟨_, rlineS⟩]) 4000 ?_
  rw [Tryz.ntmps77, Tryz.results77]
  simp only [Tryz.f77, Option.getD_some, zipT]
  have e2 := beq_dec b 3
  have n1 : (1 : Nat) ≤ maxLen := by unfold maxLen; omega
  have n2 : (2 : Nat) ≤ maxLen := by unfold maxLen; omega
  have n3 : (3 : Nat) ≤ maxLen := by unfold maxLen; omega
  have n4 : (4 : Nat) ≤ maxLen := by unfold maxLen; omega
  have n5 : (5 : Nat) ≤ maxLen := by unfold maxLen; omega
  obtain ⟨A2, hA2⟩ : ∃ A, pickF 0 [(⟨#[114]⟩ : ByteArray), (⟨#[112]⟩ : ByteArray)] = A := ⟨_, rfl⟩
  have hA2' : pickF 0 [(⟨#[114]⟩ : ByteArray), (⟨#[112]⟩ : ByteArray)] = A2 := hA2
  have lA2 : A2.size ≤ 1 := by rw [← hA2]; exact pickF_le (by decide)
  obtain ⟨A5, hA5⟩ : ∃ A, pickF b [(⟨#[98]⟩ : ByteArray), (⟨#[104]⟩ : ByteArray), (⟨#[]⟩ : ByteArray), (⟨#[]⟩ : ByteArray)] = A := ⟨_, rfl⟩
  have hA5' : pickF b [(⟨#[98]⟩ : ByteArray), (⟨#[104]⟩ : ByteArray), emp, emp] = A5 := hA5
  have lA5 : A5.size ≤ 1 := by rw [← hA5]; exact pickF_le (by decide)
  have m0 : 1 + A2.size ≤ maxLen := by unfold maxLen; omega
  have m1 : 2 + (1 + A2.size) ≤ maxLen := by unfold maxLen; omega
  have m2 : 2 + (1 + A2.size) + A5.size ≤ maxLen := by unfold maxLen; omega
  have z0 : ((⟨#[115, 116]⟩ : ByteArray)).size = 2 := rfl
  have z1 : ((⟨#[114]⟩ : ByteArray)).size = 1 := rfl
  have z2 : ((⟨#[120]⟩ : ByteArray)).size = 1 := rfl
  simp only [go_sem, e2, n1, n2, n3, n4, n5, ByteArray.size_append, hA2, hA2', hA5, hA5', m0, m1, m2, z0, z1, z2]
set_option maxHeartbeats 4000000 in
theorem rl231x (rd rn rm ra b c : Int) : SW Tryz.prog ⟨none, 0⟩ Tryz.f77.ntmps (Tryz.f77.body.getD .skip) ⟨0, zipT 0 [(tAgg insR).enc ⟨23, true, false, rd, rn, rm, ra, 1, b, c⟩], []⟩ (outQ Tryz.prog Tryz.f77.results.toList (.ret (lineV ((((⟨#[115, 116]⟩ : ByteArray) ++ (pickF (flagN false) [(⟨#[108, 120]⟩ : ByteArray), (⟨#[97, 120]⟩ : ByteArray)] ++ pickF 1 [(⟨#[114]⟩ : ByteArray), (⟨#[112]⟩ : ByteArray)])) ++ pickF b [(⟨#[98]⟩ : ByteArray), (⟨#[104]⟩ : ByteArray), emp, emp], [oReg rm false, oReg rd (decide (b = 3)), oReg ra (decide (b = 3)), oMem rn 0 0]))))) := by
  refine aRun_sound (ctx := [⟨_, rregS⟩, ⟨_, rtoS⟩, ⟨_, rofS⟩, ⟨_, rmemS⟩, ⟨_, rflagNumS⟩, ⟨_, rpickS⟩, ⟨_, rlineS⟩]) 4000 ?_
  rw [Tryz.ntmps77, Tryz.results77]
  simp only [Tryz.f77, Option.getD_some, zipT]
  have e2 := beq_dec b 3
  have n1 : (1 : Nat) ≤ maxLen := by unfold maxLen; omega
  have n2 : (2 : Nat) ≤ maxLen := by unfold maxLen; omega
  have n3 : (3 : Nat) ≤ maxLen := by unfold maxLen; omega
  have n4 : (4 : Nat) ≤ maxLen := by unfold maxLen; omega
  have n5 : (5 : Nat) ≤ maxLen := by unfold maxLen; omega
  obtain ⟨A1, hA1⟩ : ∃ A, pickF (flagN false) [(⟨#[108, 120]⟩ : ByteArray), (⟨#[97, 120]⟩ : ByteArray)] = A := ⟨_, rfl⟩
  have hA1' : pickF (flagN false) [(⟨#[108, 120]⟩ : ByteArray), (⟨#[97, 120]⟩ : ByteArray)] = A1 := hA1
  have lA1 : A1.size ≤ 2 := by rw [← hA1]; exact pickF_le (by decide)
  obtain ⟨A2, hA2⟩ : ∃ A, pickF 1 [(⟨#[114]⟩ : ByteArray), (⟨#[112]⟩ : ByteArray)] = A := ⟨_, rfl⟩
  have hA2' : pickF 1 [(⟨#[114]⟩ : ByteArray), (⟨#[112]⟩ : ByteArray)] = A2 := hA2
  have lA2 : A2.size ≤ 1 := by rw [← hA2]; exact pickF_le (by decide)
  obtain ⟨A5, hA5⟩ : ∃ A, pickF b [(⟨#[98]⟩ : ByteArray), (⟨#[104]⟩ : ByteArray), (⟨#[]⟩ : ByteArray), (⟨#[]⟩ : ByteArray)] = A := ⟨_, rfl⟩
  have hA5' : pickF b [(⟨#[98]⟩ : ByteArray), (⟨#[104]⟩ : ByteArray), emp, emp] = A5 := hA5
  have lA5 : A5.size ≤ 1 := by rw [← hA5]; exact pickF_le (by decide)
  have m0 : A1.size + A2.size ≤ maxLen := by unfold maxLen; omega
  have m1 : 2 + (A1.size + A2.size) ≤ maxLen := by unfold maxLen; omega
  have m2 : 2 + (A1.size + A2.size) + A5.size ≤ maxLen := by unfold maxLen; omega
  have z0 : ((⟨#[115, 116]⟩ : ByteArray)).size = 2 := rfl
  have z1 : ((⟨#[114]⟩ : ByteArray)).size = 1 := rfl
  have z2 : ((⟨#[120]⟩ : ByteArray)).size = 1 := rfl
  simp only [go_sem, e2, n1, n2, n3, n4, n5, ByteArray.size_append, hA1, hA1', hA2, hA2', hA5, hA5', m0, m1, m2, z0, z1, z2]
  refine sw_drawF (ctx := [⟨_, rregS⟩, ⟨_, rtoS⟩, ⟨_, rofS⟩, ⟨_, rmemS⟩, ⟨_, rflagNumS⟩, ⟨_, rpickS⟩, ⟨_, rlineS⟩]) mixed ⟨[], [(5, [352]), (9, [416])], [(0, [352, 416]), (6, [352]), (7, [352]), (8, [352])]⟩ (by kernel_rfl) ?_
  simp only [go_sem, e2, n1, n2, n3, n4, n5, ByteArray.size_append, hA1, hA1', hA2, hA2', hA5, hA5', m0, m1, m2, z0, z1, z2]
set_option maxHeartbeats 4000000 in
theorem rl231 (rd rn rm ra b c : Int) : SW Tryz.prog ⟨none, 0⟩ Tryz.f77.ntmps (Tryz.f77.body.getD .skip) ⟨0, zipT 0 [(tAgg insR).enc ⟨23, false, false, rd, rn, rm, ra, 1, b, c⟩], []⟩ (outQ Tryz.prog Tryz.f77.results.toList (.ret (lineV ((((⟨#[115, 116]⟩ : ByteArray) ++ ((⟨#[120]⟩ : ByteArray) ++ pickF 1 [(⟨#[114]⟩ : ByteArray), (⟨#[112]⟩ : ByteArray)])) ++ pickF b [(⟨#[98]⟩ : ByteArray), (⟨#[104]⟩ : ByteArray), emp, emp], [oReg rm false, oReg rd (decide (b = 3)), oReg ra (decide (b = 3)), oMem rn 0 0]))))) := by
  refine aRun_sound (ctx := [⟨_, rregS⟩, ⟨_, rtoS⟩, ⟨_, rofS⟩, ⟨_, rmemS⟩, ⟨_, rflagNumS⟩, ⟨_, rpickS⟩, ⟨_, rlineS⟩]) 4000 ?_
  rw [Tryz.ntmps77, Tryz.results77]
  simp only [Tryz.f77, Option.getD_some, zipT]
  have e2 := beq_dec b 3
  have n1 : (1 : Nat) ≤ maxLen := by unfold maxLen; omega
  have n2 : (2 : Nat) ≤ maxLen := by unfold maxLen; omega
  have n3 : (3 : Nat) ≤ maxLen := by unfold maxLen; omega
  have n4 : (4 : Nat) ≤ maxLen := by unfold maxLen; omega
  have n5 : (5 : Nat) ≤ maxLen := by unfold maxLen; omega
  obtain ⟨A2, hA2⟩ : ∃ A, pickF 1 [(⟨#[114]⟩ : ByteArray), (⟨#[112]⟩ : ByteArray)] = A := ⟨_, rfl⟩
  have hA2' : pickF 1 [(⟨#[114]⟩ : ByteArray), (⟨#[112]⟩ : ByteArray)] = A2 := hA2
  have lA2 : A2.size ≤ 1 := by rw [← hA2]; exact pickF_le (by decide)
  obtain ⟨A5, hA5⟩ : ∃ A, pickF b [(⟨#[98]⟩ : ByteArray), (⟨#[104]⟩ : ByteArray), (⟨#[]⟩ : ByteArray), (⟨#[]⟩ : ByteArray)] = A := ⟨_, rfl⟩
  have hA5' : pickF b [(⟨#[98]⟩ : ByteArray), (⟨#[104]⟩ : ByteArray), emp, emp] = A5 := hA5
  have lA5 : A5.size ≤ 1 := by rw [← hA5]; exact pickF_le (by decide)
  have m0 : 1 + A2.size ≤ maxLen := by unfold maxLen; omega
  have m1 : 2 + (1 + A2.size) ≤ maxLen := by unfold maxLen; omega
  have m2 : 2 + (1 + A2.size) + A5.size ≤ maxLen := by unfold maxLen; omega
  have z0 : ((⟨#[115, 116]⟩ : ByteArray)).size = 2 := rfl
  have z1 : ((⟨#[114]⟩ : ByteArray)).size = 1 := rfl
  have z2 : ((⟨#[120]⟩ : ByteArray)).size = 1 := rfl
  simp only [go_sem, e2, n1, n2, n3, n4, n5, ByteArray.size_append, hA2, hA2', hA5, hA5', m0, m1, m2, z0, z1, z2]

end Go.Proofs.YtpjlafmhoifkmaaGreat
