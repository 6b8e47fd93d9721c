/- Lines: strconv's ParseUint within. -/
import Derived.Test.YtcdbldakjepjiaaDoorWs
import Derived.Test.YtcdbldakjepjiaaDoorL3
set_option linter.unusedVariables false
set_option linter.unusedSimpArgs false
namespace Go.Proofs.YtcdbldakjepjiaaDoor
open Go.RowKit

theorem natL_snoc (base : Int) (l : List Int) (c : Int) : natL base (l ++ [c]) = natL base l * base + hexB c := by
  unfold natL; rw [List.foldl_append]; rfl
theorem natL_ge (base : Int) (hb : 1 ≤ base) : ∀ (l : List Int) (n : Int), 0 ≤ n → n ≤ l.foldl (fun n c => n * base + hexB c) n
  | [], n, _ => Int.le_refl _
  | c :: l, n, hn => by
    have h1 := hexB_range c
    have h2 : n ≤ n * base := by
      have := Int.mul_le_mul_of_nonneg_left hb hn
      rwa [Int.mul_one] at this
    exact Int.le_trans (show n ≤ n * base + hexB c by omega) (natL_ge base hb l _ (by omega))
theorem natL_pos (base : Int) (hb : 1 ≤ base) (l : List Int) : 0 ≤ natL base l := natL_ge base hb l 0 (Int.le_refl _)
theorem natL_take (base : Int) (hb : 1 ≤ base) (l : List Int) (i : Nat) : natL base (l.take i) ≤ natL base l := by
  have h : natL base l = (l.drop i).foldl (fun n c => n * base + hexB c) (natL base (l.take i)) := by
    unfold natL
    rw [← List.foldl_append, List.take_append_drop]
  rw [h]
  exact natL_ge base hb _ _ (natL_pos base hb _)
theorem hexB_digit {c : Int} (h : 48 ≤ c ∧ c ≤ 57) : hexB c = c - 48 := by unfold hexB; rw [if_pos h]
theorem hexB_small {c : Int} (h : 97 ≤ c ∧ c ≤ 102) : hexB c = c - 87 := by unfold hexB; rw [if_neg (by omega), if_pos h]
theorem hexB_great {c : Int} (h : 65 ≤ c ∧ c ≤ 70) : hexB c = c - 55 := by unfold hexB; rw [if_neg (by omega), if_neg (by omega), if_pos h]
theorem hexB_cases {c : Int} (h : hexB c < 16) : 48 ≤ c ∧ c ≤ 57 ∨ 97 ≤ c ∧ c ≤ 102 ∨ 65 ≤ c ∧ c ≤ 70 := by
  unfold hexB at h
  split at h
  · omega
  · split at h
    · omega
    · split at h <;> omega
def lowB (c : Int) : Int := bits .or .u8 c 32
theorem low_small : ∀ n : Nat, n < 103 → 97 ≤ n → lowB (n : Int) = n := by decide +kernel
theorem low_great : ∀ n : Nat, n < 71 → 65 ≤ n → lowB (n : Int) = n + 32 := by decide +kernel
theorem low_hex {c : Int} (h : 97 ≤ c ∧ c ≤ 102 ∨ 65 ≤ c ∧ c ≤ 70) : 97 ≤ lowB c ∧ lowB c ≤ 102 ∧ lowB c - 97 + 10 = hexB c := by
  have hc : c = ((c.toNat : Nat) : Int) := (Int.toNat_of_nonneg (by omega)).symm
  rcases h with h | h
  · have h1 := low_small c.toNat (by omega) (by omega)
    rw [← hc] at h1
    rw [h1, hexB_small h]; omega
  · have h1 := low_great c.toNat (by omega) (by omega)
    rw [← hc] at h1
    rw [h1, hexB_great h]; omega

theorem en_lower (args : Array Value) (w : World) : (callFunc 135 args).run Tryd.prog w = .ok (.enter 135 args) w := by go_simp
def lowerS : Spec Tryd.prog 135 :=
  mk1 _ _ _ Tryd.func135 rfl en_lower (tInt .u8) ((fun _ => True)) ((fun c => .ret (.s (.l (.v (.int .u8 (lowB c))))))) (by rw [Tryd.ntmps135]; decide) (fun c _ => by
  refine aRun_sound (ctx := []) 4000 ?_
  rw [Tryd.ntmps135, Tryd.results135]
  simp only [Tryd.f135, Option.getD_some, zipT]
  simp only [go_sem, Nat.reduceOr, Nat.reducePow, Nat.reduceDiv, Nat.reduceMod, Nat.reduceBEq, Int.reduceBEq, Int.reduceBNe, Int.reduceEq, Int.reduceLT, Int.reduceLE, Int.reduceToNat, reduceIte, reduceCtorEq, Nat.reduceEqDiff, Nat.reduceAdd, Nat.reduceLT, Nat.reduceLeDiff, Nat.reduceMul, Nat.reduceSub, lowB])
theorem lower_run {id : Nat} {h : Heap} {args : List AV} : (lowerS).run id h args = runP (args1 (tInt .u8) ((fun _ => True))) ((fun c => .ret (.s (.l (.v (.int .u8 (lowB c))))))) h args := rfl
theorem lower_pan {id : Nat} {h : Heap} {args : List AV} : (lowerS).pan id h args = panP (args1 (tInt .u8) ((fun _ => True))) ((fun c => .ret (.s (.l (.v (.int .u8 (lowB c))))))) h args := rfl

def errT : TypeId := 155
theorem conc_err : isConc Tryd.prog 155 = true := by kernel_rfl
/-- what it comes to -/
def parV (n : Int) : AV := if n < 18446744073709551616 then .tup [.l (.v (.int .u64 n)), .l (.v .nilIface)] else .tup [.l (.v (.int .u64 18446744073709551615)), .l (.v (.iface errT (.int .i64 1)))]
def parOk (s : ByteArray) (base : Int) : Prop := 0 < s.size ∧ s.size ≤ 1099511627776 ∧ (base = 2 ∨ base = 10 ∨ base = 16) ∧ ∀ i : Nat, i < s.size → hexB (byteAt s i) < base
def cutB (base : Int) : Int := if base = 10 then 1844674407370955162 else if base = 16 then 1152921504606846976 else 9223372036854775808

set_option maxRecDepth 100000 in
set_option maxHeartbeats 4000000 in
theorem parse_sw (s : ByteArray) (base : Int) (h : parOk s base) : SW Tryd.prog ⟨none, 0⟩ Tryd.f132.ntmps (Tryd.f132.body.getD .skip) ⟨0, zipT 0 [tStr.enc s, (tInt .i64).enc base, (tInt .i64).enc 64], []⟩ (outQ Tryd.prog Tryd.f132.results.toList (.ret (parV (natL base (toBytes s))))) := by
  obtain ⟨hp, hsz, hb, hx⟩ := h
  have hpI : (0 : Int) < s.size := by omega
  have hne : ¬ s = emp := by rintro rfl; exact absurd hp (by decide)
  have hb1 : (1 : Int) ≤ base := by omega
  have loop : ∀ (st : St), tget st.t 0 = sv s → True := fun _ _ => trivial
  refine aRun_sound (ctx := [⟨_, lowerS⟩]) 4000 ?_
  rw [Tryd.ntmps132, Tryd.results132]
  simp only [Tryd.f132, Option.getD_some, zipT]
  have hz : ¬ base = 0 := by omega
  have h2 : 2 ≤ base := by omega
  have h3 : base ≤ 36 := by omega
  have w1 : IntKind.u64.wrap 64 = 64 := by rfl
  have w2 : IntKind.u64.wrap (1 * 2 ^ min 64 IntKind.u64.bits) = 0 := by rfl
  have w3 : IntKind.u64.wrap (0 - 1) = 18446744073709551615 := by rfl
  rcases hb with rfl | rfl | rfl
  · have w4 : IntKind.u64.wrap 2 = 2 := by rfl
    have w5 : IntKind.u64.wrap (Int.tdiv 18446744073709551615 2) = 9223372036854775807 := by rfl
    have w6 : IntKind.u64.wrap (9223372036854775807 + 1) = 9223372036854775808 := by rfl
    simp only [go_sem, Nat.reduceOr, Nat.reducePow, Nat.reduceDiv, Nat.reduceMod, Nat.reduceBEq, Int.reduceBEq, Int.reduceBNe, Int.reduceEq, Int.reduceLT, Int.reduceLE, Int.reduceToNat, reduceIte, reduceCtorEq, Nat.reduceEqDiff, Nat.reduceAdd, Nat.reduceLT, Nat.reduceLeDiff, Nat.reduceMul, Nat.reduceSub, hne, lit_emp, hz, h2, h3, w1, w2, w3, w4, w5, w6]
    refine ⟨by unfold maxLen; omega, sw_loop (ι := Nat × Int) (fun p => p.1 ≤ s.size ∧ p.2 = natL 2 ((toBytes s).take p.1) ∧ 0 ≤ p.2 ∧ p.2 < 18446744073709551616) (fun p => ⟨1, [(1, iv 2), (8, bv false), (10, .s (.l (.v (.int .u64 9223372036854775808)))), (11, .s (.l (.v (.int .u64 18446744073709551615)))), (12, bv false), (13, .s (.l (.v (.int .u64 p.2)))), (99, .s (.l (.sl 0 0 s.size))), (100, iv s.size), (101, iv p.1)], [(0, some ⟨true, 5, 1, (toBytes s).map encByte⟩)]⟩) (fun p => s.size - p.1) (0, 0) ⟨Nat.zero_le _, rfl, by simp only; omega, by simp only; omega⟩ ?_ ?_⟩
    · exact Wk.renL [688] (by simp) (by simp) (by simp) rfl (by simp [hget, Blk.ren, encByte, LV.ren, Function.comp_def])
    rintro ⟨i, n⟩ ⟨hi, hn, hn0, hn1⟩
    simp only at hi hn hn0 hn1
    refine aRun_sound (ctx := [⟨_, lowerS⟩]) 4000 ?_
    by_cases hlt : i < s.size
    · have hltI : (i : Int) < s.size := by omega
      have hr := byteAt_range s i
      have hgt := toBytes_get hlt
      have hc := hx i hlt
      have hh := hexB_range (byteAt s i)
      have hnx : natL 2 ((toBytes s).take (i + 1)) = natL 2 ((toBytes s).take i) * 2 + hexB (byteAt s i) := by rw [take_more hlt, natL_snoc]
      have hle := natL_take 2 hb1 (toBytes s) (i + 1)
      rw [hnx, ← hn] at hle
      have wb : IntKind.u8.wrap 2 = 2 := by rfl
      have hnb : ¬ 2 ≤ hexB (byteAt s i) := by omega
      have c1 : ¬ byteAt s i = 95 := by rintro e; rw [e] at hc; exact absurd hc (by decide)
      have c2 : 48 ≤ byteAt s i := by have := hexB_cases (c := byteAt s i) (by omega); omega
      by_cases c3 : byteAt s i ≤ 57
      · have hd := hexB_digit ⟨c2, c3⟩
        have d1 : IntKind.u8.wrap (byteAt s i - 48) = hexB (byteAt s i) := by rw [IntKind.wrap_u8, hd]; omega
        by_cases hcut : (9223372036854775808 : Int) ≤ n
        · have e : parV (natL 2 (toBytes s)) = .tup [.l (.v (.int .u64 18446744073709551615)), .l (.v (.iface errT (.int .i64 1)))] := by unfold parV; rw [if_neg (by omega)]
          simp only [go_sem, Nat.reduceOr, Nat.reducePow, Nat.reduceDiv, Nat.reduceMod, Nat.reduceBEq, Int.reduceBEq, Int.reduceBNe, Int.reduceEq, Int.reduceLT, Int.reduceLE, Int.reduceToNat, reduceIte, reduceCtorEq, Nat.reduceEqDiff, Nat.reduceAdd, Nat.reduceLT, Nat.reduceLeDiff, Nat.reduceMul, Nat.reduceSub, encByte, lower_run, lower_pan, hltI, hgt, c1, c2, c3, d1, hnb, hcut, wb, e, errT, conc_err]
        · have e1 : IntKind.u64.wrap (n * 2) = n * 2 := by rw [IntKind.wrap_u64]; omega
          have ei : IntKind.i64.wrap ((i : Int) + 1) = ((i + 1 : Nat) : Int) := by rw [IntKind.wrap_i64]; omega
          have e2 : IntKind.u64.wrap (hexB (byteAt s i)) = hexB (byteAt s i) := by rw [IntKind.wrap_u64]; omega
          by_cases hov : n * 2 + hexB (byteAt s i) < 18446744073709551616
          · have e3 : IntKind.u64.wrap (n * 2 + hexB (byteAt s i)) = n * 2 + hexB (byteAt s i) := by rw [IntKind.wrap_u64]; omega
            have g1 : ¬ n * 2 + hexB (byteAt s i) < n * 2 := by omega
            have g2 : ¬ 18446744073709551615 < n * 2 + hexB (byteAt s i) := by omega
            simp only [go_sem, Nat.reduceOr, Nat.reducePow, Nat.reduceDiv, Nat.reduceMod, Nat.reduceBEq, Int.reduceBEq, Int.reduceBNe, Int.reduceEq, Int.reduceLT, Int.reduceLE, Int.reduceToNat, reduceIte, reduceCtorEq, Nat.reduceEqDiff, Nat.reduceAdd, Nat.reduceLT, Nat.reduceLeDiff, Nat.reduceMul, Nat.reduceSub, encByte, lower_run, lower_pan, hltI, hgt, c1, c2, c3, d1, hnb, hcut, wb, w4, e1, e2, e3, ei, g1, g2]
            exact ⟨(i + 1, n * 2 + hexB (byteAt s i)), ⟨hlt, by simp only; rw [hnx, ← hn], by simp only; omega, hov⟩, by simp only; omega, Wk.renL [0] (by simp) (by simp) (by simp) rfl (by simp [hget, Blk.ren, encByte, LV.ren, Function.comp_def])⟩
          · have e3 : IntKind.u64.wrap (n * 2 + hexB (byteAt s i)) = n * 2 + hexB (byteAt s i) - 18446744073709551616 := by rw [IntKind.wrap_u64]; omega
            have g1 : n * 2 + hexB (byteAt s i) - 18446744073709551616 < n * 2 := by omega
            have e : parV (natL 2 (toBytes s)) = .tup [.l (.v (.int .u64 18446744073709551615)), .l (.v (.iface errT (.int .i64 1)))] := by unfold parV; rw [if_neg (by omega)]
            simp only [go_sem, Nat.reduceOr, Nat.reducePow, Nat.reduceDiv, Nat.reduceMod, Nat.reduceBEq, Int.reduceBEq, Int.reduceBNe, Int.reduceEq, Int.reduceLT, Int.reduceLE, Int.reduceToNat, reduceIte, reduceCtorEq, Nat.reduceEqDiff, Nat.reduceAdd, Nat.reduceLT, Nat.reduceLeDiff, Nat.reduceMul, Nat.reduceSub, encByte, lower_run, lower_pan, hltI, hgt, c1, c2, c3, d1, hnb, hcut, wb, w4, e1, e2, e3, g1, e, errT, conc_err]
      · exfalso
        have := hexB_cases (c := byteAt s i) (by omega)
        rcases this with h | h | h
        · omega
        · rw [hexB_small h] at hc; omega
        · rw [hexB_great h] at hc; omega
    · have hltI : ¬ (i : Int) < s.size := by omega
      obtain rfl : i = s.size := by omega
      have ht : (toBytes s).take s.size = toBytes s := List.take_of_length_le (by rw [toBytes_length]; exact Nat.le_refl _)
      rw [ht] at hn
      have e : parV (natL 2 (toBytes s)) = .tup [.l (.v (.int .u64 n)), .l (.v .nilIface)] := by unfold parV; rw [if_pos (by omega), hn]
      simp only [go_sem, Nat.reduceOr, Nat.reducePow, Nat.reduceDiv, Nat.reduceMod, Nat.reduceBEq, Int.reduceBEq, Int.reduceBNe, Int.reduceEq, Int.reduceLT, Int.reduceLE, Int.reduceToNat, reduceIte, reduceCtorEq, Nat.reduceEqDiff, Nat.reduceAdd, Nat.reduceLT, Nat.reduceLeDiff, Nat.reduceMul, Nat.reduceSub, hltI, e]
  · have w4 : IntKind.u64.wrap 10 = 10 := by rfl
    simp only [go_sem, Nat.reduceOr, Nat.reducePow, Nat.reduceDiv, Nat.reduceMod, Nat.reduceBEq, Int.reduceBEq, Int.reduceBNe, Int.reduceEq, Int.reduceLT, Int.reduceLE, Int.reduceToNat, reduceIte, reduceCtorEq, Nat.reduceEqDiff, Nat.reduceAdd, Nat.reduceLT, Nat.reduceLeDiff, Nat.reduceMul, Nat.reduceSub, hne, lit_emp, hz, h2, h3, w1, w2, w3, w4]
    refine ⟨by unfold maxLen; omega, sw_loop (ι := Nat × Int) (fun p => p.1 ≤ s.size ∧ p.2 = natL 10 ((toBytes s).take p.1) ∧ 0 ≤ p.2 ∧ p.2 < 18446744073709551616) (fun p => ⟨1, [(1, iv 10), (8, bv false), (10, .s (.l (.v (.int .u64 1844674407370955162)))), (11, .s (.l (.v (.int .u64 18446744073709551615)))), (12, bv false), (13, .s (.l (.v (.int .u64 p.2)))), (99, .s (.l (.sl 0 0 s.size))), (100, iv s.size), (101, iv p.1)], [(0, some ⟨true, 5, 1, (toBytes s).map encByte⟩)]⟩) (fun p => s.size - p.1) (0, 0) ⟨Nat.zero_le _, rfl, by simp only; omega, by simp only; omega⟩ ?_ ?_⟩
    · exact Wk.renL [592] (by simp) (by simp) (by simp) rfl (by simp [hget, Blk.ren, encByte, LV.ren, Function.comp_def])
    rintro ⟨i, n⟩ ⟨hi, hn, hn0, hn1⟩
    simp only at hi hn hn0 hn1
    refine aRun_sound (ctx := [⟨_, lowerS⟩]) 4000 ?_
    by_cases hlt : i < s.size
    · have hltI : (i : Int) < s.size := by omega
      have hr := byteAt_range s i
      have hgt := toBytes_get hlt
      have hc := hx i hlt
      have hh := hexB_range (byteAt s i)
      have hnx : natL 10 ((toBytes s).take (i + 1)) = natL 10 ((toBytes s).take i) * 10 + hexB (byteAt s i) := by rw [take_more hlt, natL_snoc]
      have hle := natL_take 10 hb1 (toBytes s) (i + 1)
      rw [hnx, ← hn] at hle
      have wb : IntKind.u8.wrap 10 = 10 := by rfl
      have hnb : ¬ 10 ≤ hexB (byteAt s i) := by omega
      have c1 : ¬ byteAt s i = 95 := by rintro e; rw [e] at hc; exact absurd hc (by decide)
      have c2 : 48 ≤ byteAt s i := by have := hexB_cases (c := byteAt s i) (by omega); omega
      by_cases c3 : byteAt s i ≤ 57
      · have hd := hexB_digit ⟨c2, c3⟩
        have d1 : IntKind.u8.wrap (byteAt s i - 48) = hexB (byteAt s i) := by rw [IntKind.wrap_u8, hd]; omega
        by_cases hcut : (1844674407370955162 : Int) ≤ n
        · have e : parV (natL 10 (toBytes s)) = .tup [.l (.v (.int .u64 18446744073709551615)), .l (.v (.iface errT (.int .i64 1)))] := by unfold parV; rw [if_neg (by omega)]
          simp only [go_sem, Nat.reduceOr, Nat.reducePow, Nat.reduceDiv, Nat.reduceMod, Nat.reduceBEq, Int.reduceBEq, Int.reduceBNe, Int.reduceEq, Int.reduceLT, Int.reduceLE, Int.reduceToNat, reduceIte, reduceCtorEq, Nat.reduceEqDiff, Nat.reduceAdd, Nat.reduceLT, Nat.reduceLeDiff, Nat.reduceMul, Nat.reduceSub, encByte, lower_run, lower_pan, hltI, hgt, c1, c2, c3, d1, hnb, hcut, wb, e, errT, conc_err]
        · have e1 : IntKind.u64.wrap (n * 10) = n * 10 := by rw [IntKind.wrap_u64]; omega
          have ei : IntKind.i64.wrap ((i : Int) + 1) = ((i + 1 : Nat) : Int) := by rw [IntKind.wrap_i64]; omega
          have e2 : IntKind.u64.wrap (hexB (byteAt s i)) = hexB (byteAt s i) := by rw [IntKind.wrap_u64]; omega
          by_cases hov : n * 10 + hexB (byteAt s i) < 18446744073709551616
          · have e3 : IntKind.u64.wrap (n * 10 + hexB (byteAt s i)) = n * 10 + hexB (byteAt s i) := by rw [IntKind.wrap_u64]; omega
            have g1 : ¬ n * 10 + hexB (byteAt s i) < n * 10 := by omega
            have g2 : ¬ 18446744073709551615 < n * 10 + hexB (byteAt s i) := by omega
            simp only [go_sem, Nat.reduceOr, Nat.reducePow, Nat.reduceDiv, Nat.reduceMod, Nat.reduceBEq, Int.reduceBEq, Int.reduceBNe, Int.reduceEq, Int.reduceLT, Int.reduceLE, Int.reduceToNat, reduceIte, reduceCtorEq, Nat.reduceEqDiff, Nat.reduceAdd, Nat.reduceLT, Nat.reduceLeDiff, Nat.reduceMul, Nat.reduceSub, encByte, lower_run, lower_pan, hltI, hgt, c1, c2, c3, d1, hnb, hcut, wb, w4, e1, e2, e3, ei, g1, g2]
            exact ⟨(i + 1, n * 10 + hexB (byteAt s i)), ⟨hlt, by simp only; rw [hnx, ← hn], by simp only; omega, hov⟩, by simp only; omega, Wk.renL [0] (by simp) (by simp) (by simp) rfl (by simp [hget, Blk.ren, encByte, LV.ren, Function.comp_def])⟩
          · have e3 : IntKind.u64.wrap (n * 10 + hexB (byteAt s i)) = n * 10 + hexB (byteAt s i) - 18446744073709551616 := by rw [IntKind.wrap_u64]; omega
            have g1 : n * 10 + hexB (byteAt s i) - 18446744073709551616 < n * 10 := by omega
            have e : parV (natL 10 (toBytes s)) = .tup [.l (.v (.int .u64 18446744073709551615)), .l (.v (.iface errT (.int .i64 1)))] := by unfold parV; rw [if_neg (by omega)]
            simp only [go_sem, Nat.reduceOr, Nat.reducePow, Nat.reduceDiv, Nat.reduceMod, Nat.reduceBEq, Int.reduceBEq, Int.reduceBNe, Int.reduceEq, Int.reduceLT, Int.reduceLE, Int.reduceToNat, reduceIte, reduceCtorEq, Nat.reduceEqDiff, Nat.reduceAdd, Nat.reduceLT, Nat.reduceLeDiff, Nat.reduceMul, Nat.reduceSub, encByte, lower_run, lower_pan, hltI, hgt, c1, c2, c3, d1, hnb, hcut, wb, w4, e1, e2, e3, g1, e, errT, conc_err]
      · exfalso
        have := hexB_cases (c := byteAt s i) (by omega)
        rcases this with h | h | h
        · omega
        · rw [hexB_small h] at hc; omega
        · rw [hexB_great h] at hc; omega
    · have hltI : ¬ (i : Int) < s.size := by omega
      obtain rfl : i = s.size := by omega
      have ht : (toBytes s).take s.size = toBytes s := List.take_of_length_le (by rw [toBytes_length]; exact Nat.le_refl _)
      rw [ht] at hn
      have e : parV (natL 10 (toBytes s)) = .tup [.l (.v (.int .u64 n)), .l (.v .nilIface)] := by unfold parV; rw [if_pos (by omega), hn]
      simp only [go_sem, Nat.reduceOr, Nat.reducePow, Nat.reduceDiv, Nat.reduceMod, Nat.reduceBEq, Int.reduceBEq, Int.reduceBNe, Int.reduceEq, Int.reduceLT, Int.reduceLE, Int.reduceToNat, reduceIte, reduceCtorEq, Nat.reduceEqDiff, Nat.reduceAdd, Nat.reduceLT, Nat.reduceLeDiff, Nat.reduceMul, Nat.reduceSub, hltI, e]
  · have w4 : IntKind.u64.wrap 16 = 16 := by rfl
    simp only [go_sem, Nat.reduceOr, Nat.reducePow, Nat.reduceDiv, Nat.reduceMod, Nat.reduceBEq, Int.reduceBEq, Int.reduceBNe, Int.reduceEq, Int.reduceLT, Int.reduceLE, Int.reduceToNat, reduceIte, reduceCtorEq, Nat.reduceEqDiff, Nat.reduceAdd, Nat.reduceLT, Nat.reduceLeDiff, Nat.reduceMul, Nat.reduceSub, hne, lit_emp, hz, h2, h3, w1, w2, w3, w4]
    refine ⟨by unfold maxLen; omega, sw_loop (ι := Nat × Int) (fun p => p.1 ≤ s.size ∧ p.2 = natL 16 ((toBytes s).take p.1) ∧ 0 ≤ p.2 ∧ p.2 < 18446744073709551616) (fun p => ⟨1, [(1, iv 16), (8, bv false), (10, .s (.l (.v (.int .u64 1152921504606846976)))), (11, .s (.l (.v (.int .u64 18446744073709551615)))), (12, bv false), (13, .s (.l (.v (.int .u64 p.2)))), (99, .s (.l (.sl 0 0 s.size))), (100, iv s.size), (101, iv p.1)], [(0, some ⟨true, 5, 1, (toBytes s).map encByte⟩)]⟩) (fun p => s.size - p.1) (0, 0) ⟨Nat.zero_le _, rfl, by simp only; omega, by simp only; omega⟩ ?_ ?_⟩
    · exact Wk.renL [624] (by simp) (by simp) (by simp) rfl (by simp [hget, Blk.ren, encByte, LV.ren, Function.comp_def])
    rintro ⟨i, n⟩ ⟨hi, hn, hn0, hn1⟩
    simp only at hi hn hn0 hn1
    refine aRun_sound (ctx := [⟨_, lowerS⟩]) 4000 ?_
    by_cases hlt : i < s.size
    · have hltI : (i : Int) < s.size := by omega
      have hr := byteAt_range s i
      have hgt := toBytes_get hlt
      have hc := hx i hlt
      have hh := hexB_range (byteAt s i)
      have hnx : natL 16 ((toBytes s).take (i + 1)) = natL 16 ((toBytes s).take i) * 16 + hexB (byteAt s i) := by rw [take_more hlt, natL_snoc]
      have hle := natL_take 16 hb1 (toBytes s) (i + 1)
      rw [hnx, ← hn] at hle
      have wb : IntKind.u8.wrap 16 = 16 := by rfl
      have hnb : ¬ 16 ≤ hexB (byteAt s i) := by omega
      have c1 : ¬ byteAt s i = 95 := by rintro e; rw [e] at hc; exact absurd hc (by decide)
      have c2 : 48 ≤ byteAt s i := by have := hexB_cases (c := byteAt s i) (by omega); omega
      by_cases c3 : byteAt s i ≤ 57
      · have hd := hexB_digit ⟨c2, c3⟩
        have d1 : IntKind.u8.wrap (byteAt s i - 48) = hexB (byteAt s i) := by rw [IntKind.wrap_u8, hd]; omega
        by_cases hcut : (1152921504606846976 : Int) ≤ n
        · have e : parV (natL 16 (toBytes s)) = .tup [.l (.v (.int .u64 18446744073709551615)), .l (.v (.iface errT (.int .i64 1)))] := by unfold parV; rw [if_neg (by omega)]
          simp only [go_sem, Nat.reduceOr, Nat.reducePow, Nat.reduceDiv, Nat.reduceMod, Nat.reduceBEq, Int.reduceBEq, Int.reduceBNe, Int.reduceEq, Int.reduceLT, Int.reduceLE, Int.reduceToNat, reduceIte, reduceCtorEq, Nat.reduceEqDiff, Nat.reduceAdd, Nat.reduceLT, Nat.reduceLeDiff, Nat.reduceMul, Nat.reduceSub, encByte, lower_run, lower_pan, hltI, hgt, c1, c2, c3, d1, hnb, hcut, wb, e, errT, conc_err]
        · have e1 : IntKind.u64.wrap (n * 16) = n * 16 := by rw [IntKind.wrap_u64]; omega
          have ei : IntKind.i64.wrap ((i : Int) + 1) = ((i + 1 : Nat) : Int) := by rw [IntKind.wrap_i64]; omega
          have e2 : IntKind.u64.wrap (hexB (byteAt s i)) = hexB (byteAt s i) := by rw [IntKind.wrap_u64]; omega
          by_cases hov : n * 16 + hexB (byteAt s i) < 18446744073709551616
          · have e3 : IntKind.u64.wrap (n * 16 + hexB (byteAt s i)) = n * 16 + hexB (byteAt s i) := by rw [IntKind.wrap_u64]; omega
            have g1 : ¬ n * 16 + hexB (byteAt s i) < n * 16 := by omega
            have g2 : ¬ 18446744073709551615 < n * 16 + hexB (byteAt s i) := by omega
            simp only [go_sem, Nat.reduceOr, Nat.reducePow, Nat.reduceDiv, Nat.reduceMod, Nat.reduceBEq, Int.reduceBEq, Int.reduceBNe, Int.reduceEq, Int.reduceLT, Int.reduceLE, Int.reduceToNat, reduceIte, reduceCtorEq, Nat.reduceEqDiff, Nat.reduceAdd, Nat.reduceLT, Nat.reduceLeDiff, Nat.reduceMul, Nat.reduceSub, encByte, lower_run, lower_pan, hltI, hgt, c1, c2, c3, d1, hnb, hcut, wb, w4, e1, e2, e3, ei, g1, g2]
            exact ⟨(i + 1, n * 16 + hexB (byteAt s i)), ⟨hlt, by simp only; rw [hnx, ← hn], by simp only; omega, hov⟩, by simp only; omega, Wk.renL [0] (by simp) (by simp) (by simp) rfl (by simp [hget, Blk.ren, encByte, LV.ren, Function.comp_def])⟩
          · have e3 : IntKind.u64.wrap (n * 16 + hexB (byteAt s i)) = n * 16 + hexB (byteAt s i) - 18446744073709551616 := by rw [IntKind.wrap_u64]; omega
            have g1 : n * 16 + hexB (byteAt s i) - 18446744073709551616 < n * 16 := by omega
            have e : parV (natL 16 (toBytes s)) = .tup [.l (.v (.int .u64 18446744073709551615)), .l (.v (.iface errT (.int .i64 1)))] := by unfold parV; rw [if_neg (by omega)]
            simp only [go_sem, Nat.reduceOr, Nat.reducePow, Nat.reduceDiv, Nat.reduceMod, Nat.reduceBEq, Int.reduceBEq, Int.reduceBNe, Int.reduceEq, Int.reduceLT, Int.reduceLE, Int.reduceToNat, reduceIte, reduceCtorEq, Nat.reduceEqDiff, Nat.reduceAdd, Nat.reduceLT, Nat.reduceLeDiff, Nat.reduceMul, Nat.reduceSub, encByte, lower_run, lower_pan, hltI, hgt, c1, c2, c3, d1, hnb, hcut, wb, w4, e1, e2, e3, g1, e, errT, conc_err]
      · have hl := low_hex (c := byteAt s i) (by have := hexB_cases (c := byteAt s i) (by omega); omega)
        obtain ⟨l1, l2, l3⟩ := hl
        have l4 : lowB (byteAt s i) ≤ 122 := by omega
        have d1 : IntKind.u8.wrap (lowB (byteAt s i) - 97) = lowB (byteAt s i) - 97 := by rw [IntKind.wrap_u8]; omega
        have d2 : IntKind.u8.wrap (lowB (byteAt s i) - 97 + 10) = hexB (byteAt s i) := by rw [IntKind.wrap_u8, l3]; omega
        by_cases hcut : (1152921504606846976 : Int) ≤ n
        · have e : parV (natL 16 (toBytes s)) = .tup [.l (.v (.int .u64 18446744073709551615)), .l (.v (.iface errT (.int .i64 1)))] := by unfold parV; rw [if_neg (by omega)]
          simp only [go_sem, Nat.reduceOr, Nat.reducePow, Nat.reduceDiv, Nat.reduceMod, Nat.reduceBEq, Int.reduceBEq, Int.reduceBNe, Int.reduceEq, Int.reduceLT, Int.reduceLE, Int.reduceToNat, reduceIte, reduceCtorEq, Nat.reduceEqDiff, Nat.reduceAdd, Nat.reduceLT, Nat.reduceLeDiff, Nat.reduceMul, Nat.reduceSub, encByte, lower_run, lower_pan, hltI, hgt, c1, c2, c3, l1, l4, d1, d2, hnb, hcut, wb, e, errT, conc_err]
        · have e1 : IntKind.u64.wrap (n * 16) = n * 16 := by rw [IntKind.wrap_u64]; omega
          have ei : IntKind.i64.wrap ((i : Int) + 1) = ((i + 1 : Nat) : Int) := by rw [IntKind.wrap_i64]; omega
          have e2 : IntKind.u64.wrap (hexB (byteAt s i)) = hexB (byteAt s i) := by rw [IntKind.wrap_u64]; omega
          by_cases hov : n * 16 + hexB (byteAt s i) < 18446744073709551616
          · have e3 : IntKind.u64.wrap (n * 16 + hexB (byteAt s i)) = n * 16 + hexB (byteAt s i) := by rw [IntKind.wrap_u64]; omega
            have g1 : ¬ n * 16 + hexB (byteAt s i) < n * 16 := by omega
            have g2 : ¬ 18446744073709551615 < n * 16 + hexB (byteAt s i) := by omega
            simp only [go_sem, Nat.reduceOr, Nat.reducePow, Nat.reduceDiv, Nat.reduceMod, Nat.reduceBEq, Int.reduceBEq, Int.reduceBNe, Int.reduceEq, Int.reduceLT, Int.reduceLE, Int.reduceToNat, reduceIte, reduceCtorEq, Nat.reduceEqDiff, Nat.reduceAdd, Nat.reduceLT, Nat.reduceLeDiff, Nat.reduceMul, Nat.reduceSub, encByte, lower_run, lower_pan, hltI, hgt, c1, c2, c3, l1, l4, d1, d2, hnb, hcut, wb, w4, e1, e2, e3, ei, g1, g2]
            exact ⟨(i + 1, n * 16 + hexB (byteAt s i)), ⟨hlt, by simp only; rw [hnx, ← hn], by simp only; omega, hov⟩, by simp only; omega, Wk.renL [0] (by simp) (by simp) (by simp) rfl (by simp [hget, Blk.ren, encByte, LV.ren, Function.comp_def])⟩
          · have e3 : IntKind.u64.wrap (n * 16 + hexB (byteAt s i)) = n * 16 + hexB (byteAt s i) - 18446744073709551616 := by rw [IntKind.wrap_u64]; omega
            have g1 : n * 16 + hexB (byteAt s i) - 18446744073709551616 < n * 16 := by omega
            have e : parV (natL 16 (toBytes s)) = .tup [.l (.v (.int .u64 18446744073709551615)), .l (.v (.iface errT (.int .i64 1)))] := by unfold parV; rw [if_neg (by omega)]
            simp only [go_sem, Nat.reduceOr, Nat.reducePow, Nat.reduceDiv, Nat.reduceMod, Nat.reduceBEq, Int.reduceBEq, Int.reduceBNe, Int.reduceEq, Int.reduceLT, Int.reduceLE, Int.reduceToNat, reduceIte, reduceCtorEq, Nat.reduceEqDiff, Nat.reduceAdd, Nat.reduceLT, Nat.reduceLeDiff, Nat.reduceMul, Nat.reduceSub, encByte, lower_run, lower_pan, hltI, hgt, c1, c2, c3, l1, l4, d1, d2, hnb, hcut, wb, w4, e1, e2, e3, g1, e, errT, conc_err]
    · have hltI : ¬ (i : Int) < s.size := by omega
      obtain rfl : i = s.size := by omega
      have ht : (toBytes s).take s.size = toBytes s := List.take_of_length_le (by rw [toBytes_length]; exact Nat.le_refl _)
      rw [ht] at hn
      have e : parV (natL 16 (toBytes s)) = .tup [.l (.v (.int .u64 n)), .l (.v .nilIface)] := by unfold parV; rw [if_pos (by omega), hn]
      simp only [go_sem, Nat.reduceOr, Nat.reducePow, Nat.reduceDiv, Nat.reduceMod, Nat.reduceBEq, Int.reduceBEq, Int.reduceBNe, Int.reduceEq, Int.reduceLT, Int.reduceLE, Int.reduceToNat, reduceIte, reduceCtorEq, Nat.reduceEqDiff, Nat.reduceAdd, Nat.reduceLT, Nat.reduceLeDiff, Nat.reduceMul, Nat.reduceSub, hltI, e]

theorem en_par (args : Array Value) (w : World) : (callFunc 132 args).run Tryd.prog w = .ok (.enter 132 args) w := by go_simp
def parS : Spec Tryd.prog 132 :=
  mk3 _ _ _ Tryd.func132 rfl en_par (tStr) (tInt .i64) (tInt .i64) ((fun s b n => parOk s b ∧ n = 64)) ((fun s b _ => .ret (parV (natL b (toBytes s))))) (by rw [Tryd.ntmps132]; decide) (fun s b n h => by
  obtain ⟨h, rfl⟩ := h
  exact parse_sw s b h)
theorem par_run {id : Nat} {h : Heap} {args : List AV} : (parS).run id h args = runP (args3 (tStr) (tInt .i64) (tInt .i64) ((fun s b n => parOk s b ∧ n = 64))) (fun x => ((fun s b _ => .ret (parV (natL b (toBytes s))))) x.1 x.2.1 x.2.2) h args := rfl
theorem par_pan {id : Nat} {h : Heap} {args : List AV} : (parS).pan id h args = panP (args3 (tStr) (tInt .i64) (tInt .i64) ((fun s b n => parOk s b ∧ n = 64))) (fun x => ((fun s b _ => .ret (parV (natL b (toBytes s))))) x.1 x.2.1 x.2.2) h args := rfl

end Go.Proofs.YtcdbldakjepjiaaDoor
