/- Lines: numbers. -/
import Derived.Test.YtcdbldakjepjiaaDoorWs
import Derived.Test.YtcdbldakjepjiaaDoorL6
set_option linter.unusedVariables false
set_option linter.unusedSimpArgs false
namespace Go.Proofs.YtcdbldakjepjiaaDoor
open Go.RowKit

def numO (l : List Int) : AV := .tup [.l (.v (.int .u64 (numberL l).1)), .l (.v (.int .i64 (numberL l).2))]

theorem parOk_of {s : ByteArray} {base : Int} {head n : Nat} (hs : s.size ≤ 1099511627776) (hb : base = 2 ∨ base = 10 ∨ base = 16) (hn : hexRun base ((toBytes s).drop head) = n) (h0 : 0 < n) (hle : head + n ≤ s.size) : parOk (s.extract head (head + n)) base := by
  have hsz : (s.extract head (head + n)).size = n := by
    rw [← toBytes_length, toBytes_extract, List.length_take, List.length_drop, toBytes_length]; omega
  refine ⟨by omega, by omega, hb, fun i hi => ?_⟩
  have hi' : i < n := by omega
  have h1 := runL_in (fun c => decide (hexB c < base)) ((toBytes s).drop head) i (by unfold hexRun at hn; omega)
  simp only [decide_eq_true_eq] at h1
  rw [byteAt_bAt, toBytes_extract, show head + n - head = n by omega]
  have : bAt (((toBytes s).drop head).take n) i = bAt ((toBytes s).drop head) i := by
    unfold bAt
    rw [List.getD_eq_getElem?_getD, List.getD_eq_getElem?_getD, List.getElem?_take_of_lt hi']
  rw [this]
  exact h1
theorem ext_par {s : ByteArray} {head n : Nat} : toBytes (s.extract head (head + n)) = ((toBytes s).drop head).take n := by
  rw [toBytes_extract, show head + n - head = n by omega]

set_option maxRecDepth 100000 in
set_option maxHeartbeats 4000000 in
theorem number_sw (s : ByteArray) (h0 : 0 < s.size) (hs : s.size ≤ 1099511627776) : SW Tryd.prog ⟨none, 0⟩ Tryd.f118.ntmps (Tryd.f118.body.getD .skip) ⟨0, zipT 0 [tStr.enc s], []⟩ (outQ Tryd.prog Tryd.f118.results.toList (.ret (numO (toBytes s)))) := by
  refine aRun_sound (ctx := [⟨_, hasPS⟩, ⟨_, shownS⟩, ⟨_, runDS⟩, ⟨_, parseS⟩]) 4000 ?_
  rw [Tryd.ntmps118, Tryd.results118]
  simp only [Tryd.f118, Option.getD_some, zipT]
  have hl : (toBytes s).length = s.size := toBytes_length s
  have hpI : (0 : Int) < s.size := by omega
  have hb0 := byteAt_bAt0 s
  have hb1 := byteAt_bAt1 s
  have hb2 := byteAt_bAt2 s
  by_cases hq : byteAt s 0 = 39
  · have hF : numberL (toBytes s) = if 3 ≤ s.size ∧ byteAt s 2 = 39 ∧ shownB (byteAt s 1) = true ∧ byteAt s 1 ≠ 39 ∧ byteAt s 1 ≠ 92 then (byteAt s 1, 3) else (0, 0) := by
      unfold numberL; rw [if_pos (by rw [← hb0]; exact hq), hl, ← hb1, ← hb2]
    by_cases c1 : s.size < 3
    · have c1I : (s.size : Int) < 3 := by omega
      have e : numO (toBytes s) = .tup [.l (.v (.int .u64 0)), .l (.v (.int .i64 0))] := by unfold numO; rw [hF, if_neg (by omega)]; rfl
      simp only [go_sem, Nat.reduceOr, Nat.reducePow, Nat.reduceDiv, Nat.reduceMod, Nat.reduceBEq, Int.reduceBEq, Int.reduceBNe, Int.reduceEq, Int.reduceLT, Int.reduceLE, Int.reduceToNat, reduceIte, reduceCtorEq, Nat.reduceEqDiff, Nat.reduceAdd, Nat.reduceLT, Nat.reduceLeDiff, Nat.reduceMul, Nat.reduceSub, hpI, hq, c1I, e]
    have c1I : ¬ (s.size : Int) < 3 := by omega
    have p1 : (1 : Int) < s.size := by omega
    have p2 : (2 : Int) < s.size := by omega
    by_cases c2 : byteAt s 2 = 39
    case neg =>
      have e : numO (toBytes s) = .tup [.l (.v (.int .u64 0)), .l (.v (.int .i64 0))] := by unfold numO; rw [hF, if_neg (fun h => c2 h.2.1)]; rfl
      simp only [go_sem, Nat.reduceOr, Nat.reducePow, Nat.reduceDiv, Nat.reduceMod, Nat.reduceBEq, Int.reduceBEq, Int.reduceBNe, Int.reduceEq, Int.reduceLT, Int.reduceLE, Int.reduceToNat, reduceIte, reduceCtorEq, Nat.reduceEqDiff, Nat.reduceAdd, Nat.reduceLT, Nat.reduceLeDiff, Nat.reduceMul, Nat.reduceSub, hpI, hq, c1I, p2, c2, e]
    by_cases c3 : shownB (byteAt s 1) = true
    case neg =>
      have c3' : shownB (byteAt s 1) = false := by simpa using c3
      have e : numO (toBytes s) = .tup [.l (.v (.int .u64 0)), .l (.v (.int .i64 0))] := by unfold numO; rw [hF, if_neg (fun h => c3 h.2.2.1)]; rfl
      simp only [go_sem, Nat.reduceOr, Nat.reducePow, Nat.reduceDiv, Nat.reduceMod, Nat.reduceBEq, Int.reduceBEq, Int.reduceBNe, Int.reduceEq, Int.reduceLT, Int.reduceLE, Int.reduceToNat, reduceIte, reduceCtorEq, Nat.reduceEqDiff, Nat.reduceAdd, Nat.reduceLT, Nat.reduceLeDiff, Nat.reduceMul, Nat.reduceSub, hpI, hq, c1I, p1, p2, c2, shown_run, shown_pan, c3', e]
    by_cases c4 : byteAt s 1 = 39
    · have e : numO (toBytes s) = .tup [.l (.v (.int .u64 0)), .l (.v (.int .i64 0))] := by unfold numO; rw [hF, if_neg (fun h => h.2.2.2.1 c4)]; rfl
      simp only [go_sem, Nat.reduceOr, Nat.reducePow, Nat.reduceDiv, Nat.reduceMod, Nat.reduceBEq, Int.reduceBEq, Int.reduceBNe, Int.reduceEq, Int.reduceLT, Int.reduceLE, Int.reduceToNat, reduceIte, reduceCtorEq, Nat.reduceEqDiff, Nat.reduceAdd, Nat.reduceLT, Nat.reduceLeDiff, Nat.reduceMul, Nat.reduceSub, hpI, hq, c1I, p1, p2, c2, shown_run, shown_pan, c3, c4, e]
    by_cases c5 : byteAt s 1 = 92
    · have e : numO (toBytes s) = .tup [.l (.v (.int .u64 0)), .l (.v (.int .i64 0))] := by unfold numO; rw [hF, if_neg (fun h => h.2.2.2.2 c5)]; rfl
      simp only [go_sem, Nat.reduceOr, Nat.reducePow, Nat.reduceDiv, Nat.reduceMod, Nat.reduceBEq, Int.reduceBEq, Int.reduceBNe, Int.reduceEq, Int.reduceLT, Int.reduceLE, Int.reduceToNat, reduceIte, reduceCtorEq, Nat.reduceEqDiff, Nat.reduceAdd, Nat.reduceLT, Nat.reduceLeDiff, Nat.reduceMul, Nat.reduceSub, hpI, hq, c1I, p1, p2, c2, shown_run, shown_pan, c3, c4, c5, e]
    have e : numO (toBytes s) = .tup [.l (.v (.int .u64 (byteAt s 1))), .l (.v (.int .i64 3))] := by unfold numO; rw [hF, if_pos ⟨by omega, c2, c3, c4, c5⟩]; rfl
    have hr := byteAt_range s 1
    have ew : IntKind.u64.wrap (byteAt s 1) = byteAt s 1 := by rw [IntKind.wrap_u64]; omega
    simp only [go_sem, Nat.reduceOr, Nat.reducePow, Nat.reduceDiv, Nat.reduceMod, Nat.reduceBEq, Int.reduceBEq, Int.reduceBNe, Int.reduceEq, Int.reduceLT, Int.reduceLE, Int.reduceToNat, reduceIte, reduceCtorEq, Nat.reduceEqDiff, Nat.reduceAdd, Nat.reduceLT, Nat.reduceLeDiff, Nat.reduceMul, Nat.reduceSub, hpI, hq, c1I, p1, p2, c2, shown_run, shown_pan, c3, c4, c5, ew, e]
  have hF : ∀ base head, baseL (toBytes s) = base → headL (toBytes s) = head → numberL (toBytes s) = if hexRun base ((toBytes s).drop head) = 0 ∨ head = 0 ∧ 1 < hexRun base ((toBytes s).drop head) ∧ byteAt s 0 = 48 then (0, 0)
      else if 18446744073709551616 ≤ natL base (((toBytes s).drop head).take (hexRun base ((toBytes s).drop head))) then (0, 0)
      else (natL base (((toBytes s).drop head).take (hexRun base ((toBytes s).drop head))), head + hexRun base ((toBytes s).drop head)) := by
    intro base head e1 e2
    unfold numberL
    rw [if_neg (by rw [← hb0]; exact hq), e1, e2, ← hb0]
  have hle : ∀ base head, hexRun base ((toBytes s).drop head) ≤ s.size - head := by
    intro base head
    have : hexRun base ((toBytes s).drop head) ≤ ((toBytes s).drop head).length := runL_le _ _
    rwa [List.length_drop, hl] at this
  have hx : hasPF s ⟨#[48, 120]⟩ = decide (1 < (toBytes s).length ∧ bAt (toBytes s) 0 = 48 ∧ bAt (toBytes s) 1 = 120) := hasP2 s 48 120 (by omega) (by omega)
  have hbb : hasPF s ⟨#[48, 98]⟩ = decide (1 < (toBytes s).length ∧ bAt (toBytes s) 0 = 48 ∧ bAt (toBytes s) 1 = 98) := hasP2 s 48 98 (by omega) (by omega)
  have nb2 := @pure_nil_ne Tryd.prog 84 .nilIface (.tmp 76) (by kernel_rfl)
  by_cases k1 : 1 < (toBytes s).length ∧ bAt (toBytes s) 0 = 48 ∧ bAt (toBytes s) 1 = 120
  · rw [decide_eq_true k1] at hx
    have hB : baseL (toBytes s) = 16 := by unfold baseL; rw [if_pos k1]
    have hH : headL (toBytes s) = 2 := by unfold headL; rw [if_pos ⟨k1.1, k1.2.1, .inl k1.2.2⟩]
    have hF := hF 16 2 hB hH
    have hle := hle 16 2
    have p2 : (2 : Int) ≤ s.size := by omega
    have hs2 : (s.extract 2 s.size).size ≤ 1099511627776 := by rw [← toBytes_length, toBytes_drop, List.length_drop, hl]; omega
    have hR : hexRun 16 (toBytes (s.extract 2 s.size)) = hexRun 16 ((toBytes s).drop 2) := by rw [toBytes_drop]
    generalize hn : hexRun 16 ((toBytes s).drop 2) = n at *
    by_cases n0 : n = 0
    · have e : numO (toBytes s) = .tup [.l (.v (.int .u64 0)), .l (.v (.int .i64 0))] := by unfold numO; rw [hF, if_pos (.inl n0)]; rfl
      have n0I : (n : Int) = 0 := by omega
      simp only [go_sem, Nat.reduceOr, Nat.reducePow, Nat.reduceDiv, Nat.reduceMod, Nat.reduceBEq, Int.reduceBEq, Int.reduceBNe, Int.reduceEq, Int.reduceLT, Int.reduceLE, Int.reduceToNat, reduceIte, reduceCtorEq, Nat.reduceEqDiff, Nat.reduceAdd, Nat.reduceLT, Nat.reduceLeDiff, Nat.reduceMul, Nat.reduceSub, numK, hpI, hq, hx, hasP_run, hasP_pan, runD_run, runD_pan, decB, xbStr, p2, hs2, hR, n0I, e]
    · have n0I : ¬ (n : Int) = 0 := by omega
      rw [if_neg (by omega)] at hF
      have hpar := parOk_of (head := 2) hs (by omega) hn (by omega) (by omega)
      have hnat : natL 16 (toBytes (s.extract 2 (2 + n))) = natL 16 (((toBytes s).drop 2).take n) := by rw [ext_par]
      have ea : IntKind.i64.wrap (2 + (n : Int)) = ((2 + n : Nat) : Int) := by rw [IntKind.wrap_i64]; omega
      have hend : ((2 + n : Nat) : Int) ≤ s.size := by omega
      have hst : (2 : Int) ≤ ((2 + n : Nat) : Int) := by omega
      simp only [go_sem, Nat.reduceOr, Nat.reducePow, Nat.reduceDiv, Nat.reduceMod, Nat.reduceBEq, Int.reduceBEq, Int.reduceBNe, Int.reduceEq, Int.reduceLT, Int.reduceLE, Int.reduceToNat, reduceIte, reduceCtorEq, Nat.reduceEqDiff, Nat.reduceAdd, Nat.reduceLT, Nat.reduceLeDiff, Nat.reduceMul, Nat.reduceSub, numK, hpI, hq, hx, hasP_run, hasP_pan, runD_run, runD_pan, decB, xbStr, p2, hs2, hR, n0I]
      refine sw_draw (ctx := [⟨_, parseS⟩]) mixed [] (by kernel_rfl) ?_
      by_cases hv : natL 16 (((toBytes s).drop 2).take n) < 18446744073709551616
      · rw [if_neg (by omega)] at hF
        have e2 : parE (natL 16 (((toBytes s).drop 2).take n)) = .tup [.l (.v (.int .u64 (natL 16 (((toBytes s).drop 2).take n)))), .l (.v .nilIface)] := by unfold parE; rw [if_pos hv]
        have e : numO (toBytes s) = .tup [.l (.v (.int .u64 (natL 16 (((toBytes s).drop 2).take n)))), .l (.v (.int .i64 ((2 + n : Nat) : Int)))] := by unfold numO; rw [hF]
        simp only [go_sem, Nat.reduceOr, Nat.reducePow, Nat.reduceDiv, Nat.reduceMod, Nat.reduceBEq, Int.reduceBEq, Int.reduceBNe, Int.reduceEq, Int.reduceLT, Int.reduceLE, Int.reduceToNat, reduceIte, reduceCtorEq, Nat.reduceEqDiff, Nat.reduceAdd, Nat.reduceLT, Nat.reduceLeDiff, Nat.reduceMul, Nat.reduceSub, numK, ea, hend, hst, parse_run, parse_pan, hpar, hnat, e2, ↓nb2, e]
      · rw [if_pos (by omega)] at hF
        have e2 : parE (natL 16 (((toBytes s).drop 2).take n)) = .tup [.l (.v (.int .u64 18446744073709551615)), .l errD] := by unfold parE; rw [if_neg hv]
        have e : numO (toBytes s) = .tup [.l (.v (.int .u64 0)), .l (.v (.int .i64 0))] := by unfold numO; rw [hF]; rfl
        simp only [go_sem, Nat.reduceOr, Nat.reducePow, Nat.reduceDiv, Nat.reduceMod, Nat.reduceBEq, Int.reduceBEq, Int.reduceBNe, Int.reduceEq, Int.reduceLT, Int.reduceLE, Int.reduceToNat, reduceIte, reduceCtorEq, Nat.reduceEqDiff, Nat.reduceAdd, Nat.reduceLT, Nat.reduceLeDiff, Nat.reduceMul, Nat.reduceSub, numK, ea, hend, hst, parse_run, parse_pan, hpar, hnat, e2, errD, e]
  rw [decide_eq_false k1] at hx
  by_cases k2 : 1 < (toBytes s).length ∧ bAt (toBytes s) 0 = 48 ∧ bAt (toBytes s) 1 = 98
  · rw [decide_eq_true k2] at hbb
    have hB : baseL (toBytes s) = 2 := by unfold baseL; rw [if_neg k1, if_pos k2]
    have hH : headL (toBytes s) = 2 := by unfold headL; rw [if_pos ⟨k2.1, k2.2.1, .inr k2.2.2⟩]
    have hF := hF 2 2 hB hH
    have hle := hle 2 2
    have p2 : (2 : Int) ≤ s.size := by omega
    have hs2 : (s.extract 2 s.size).size ≤ 1099511627776 := by rw [← toBytes_length, toBytes_drop, List.length_drop, hl]; omega
    have hR : hexRun 2 (toBytes (s.extract 2 s.size)) = hexRun 2 ((toBytes s).drop 2) := by rw [toBytes_drop]
    generalize hn : hexRun 2 ((toBytes s).drop 2) = n at *
    by_cases n0 : n = 0
    · have e : numO (toBytes s) = .tup [.l (.v (.int .u64 0)), .l (.v (.int .i64 0))] := by unfold numO; rw [hF, if_pos (.inl n0)]; rfl
      have n0I : (n : Int) = 0 := by omega
      simp only [go_sem, Nat.reduceOr, Nat.reducePow, Nat.reduceDiv, Nat.reduceMod, Nat.reduceBEq, Int.reduceBEq, Int.reduceBNe, Int.reduceEq, Int.reduceLT, Int.reduceLE, Int.reduceToNat, reduceIte, reduceCtorEq, Nat.reduceEqDiff, Nat.reduceAdd, Nat.reduceLT, Nat.reduceLeDiff, Nat.reduceMul, Nat.reduceSub, numK, hpI, hq, hx, hbb, hasP_run, hasP_pan, runD_run, runD_pan, decB, xbStr, p2, hs2, hR, n0I, e]
    · have n0I : ¬ (n : Int) = 0 := by omega
      rw [if_neg (by omega)] at hF
      have hpar := parOk_of (head := 2) hs (by omega) hn (by omega) (by omega)
      have hnat : natL 2 (toBytes (s.extract 2 (2 + n))) = natL 2 (((toBytes s).drop 2).take n) := by rw [ext_par]
      have ea : IntKind.i64.wrap (2 + (n : Int)) = ((2 + n : Nat) : Int) := by rw [IntKind.wrap_i64]; omega
      have hend : ((2 + n : Nat) : Int) ≤ s.size := by omega
      have hst : (2 : Int) ≤ ((2 + n : Nat) : Int) := by omega
      simp only [go_sem, Nat.reduceOr, Nat.reducePow, Nat.reduceDiv, Nat.reduceMod, Nat.reduceBEq, Int.reduceBEq, Int.reduceBNe, Int.reduceEq, Int.reduceLT, Int.reduceLE, Int.reduceToNat, reduceIte, reduceCtorEq, Nat.reduceEqDiff, Nat.reduceAdd, Nat.reduceLT, Nat.reduceLeDiff, Nat.reduceMul, Nat.reduceSub, numK, hpI, hq, hx, hbb, hasP_run, hasP_pan, runD_run, runD_pan, decB, xbStr, p2, hs2, hR, n0I]
      refine sw_draw (ctx := [⟨_, parseS⟩]) mixed [] (by kernel_rfl) ?_
      by_cases hv : natL 2 (((toBytes s).drop 2).take n) < 18446744073709551616
      · rw [if_neg (by omega)] at hF
        have e2 : parE (natL 2 (((toBytes s).drop 2).take n)) = .tup [.l (.v (.int .u64 (natL 2 (((toBytes s).drop 2).take n)))), .l (.v .nilIface)] := by unfold parE; rw [if_pos hv]
        have e : numO (toBytes s) = .tup [.l (.v (.int .u64 (natL 2 (((toBytes s).drop 2).take n)))), .l (.v (.int .i64 ((2 + n : Nat) : Int)))] := by unfold numO; rw [hF]
        simp only [go_sem, Nat.reduceOr, Nat.reducePow, Nat.reduceDiv, Nat.reduceMod, Nat.reduceBEq, Int.reduceBEq, Int.reduceBNe, Int.reduceEq, Int.reduceLT, Int.reduceLE, Int.reduceToNat, reduceIte, reduceCtorEq, Nat.reduceEqDiff, Nat.reduceAdd, Nat.reduceLT, Nat.reduceLeDiff, Nat.reduceMul, Nat.reduceSub, numK, ea, hend, hst, parse_run, parse_pan, hpar, hnat, e2, ↓nb2, e]
      · rw [if_pos (by omega)] at hF
        have e2 : parE (natL 2 (((toBytes s).drop 2).take n)) = .tup [.l (.v (.int .u64 18446744073709551615)), .l errD] := by unfold parE; rw [if_neg hv]
        have e : numO (toBytes s) = .tup [.l (.v (.int .u64 0)), .l (.v (.int .i64 0))] := by unfold numO; rw [hF]; rfl
        simp only [go_sem, Nat.reduceOr, Nat.reducePow, Nat.reduceDiv, Nat.reduceMod, Nat.reduceBEq, Int.reduceBEq, Int.reduceBNe, Int.reduceEq, Int.reduceLT, Int.reduceLE, Int.reduceToNat, reduceIte, reduceCtorEq, Nat.reduceEqDiff, Nat.reduceAdd, Nat.reduceLT, Nat.reduceLeDiff, Nat.reduceMul, Nat.reduceSub, numK, ea, hend, hst, parse_run, parse_pan, hpar, hnat, e2, errD, e]
  rw [decide_eq_false k2] at hbb
  have hB : baseL (toBytes s) = 10 := by unfold baseL; rw [if_neg k1, if_neg k2]
  have hH : headL (toBytes s) = 0 := by unfold headL; rw [if_neg (fun h => h.2.2.elim (fun h3 => k1 ⟨h.1, h.2.1, h3⟩) fun h3 => k2 ⟨h.1, h.2.1, h3⟩)]
  have hF := hF 10 0 hB hH
  have hle := hle 10 0
  have p2 : (0 : Int) ≤ s.size := by omega
  have hs2 : (s.extract 0 s.size).size ≤ 1099511627776 := by rw [← toBytes_length, toBytes_drop, List.length_drop, hl]; omega
  have hR : hexRun 10 (toBytes (s.extract 0 s.size)) = hexRun 10 ((toBytes s).drop 0) := by rw [toBytes_drop]
  rw [List.drop_zero] at hF hle hR
  generalize hn : hexRun 10 (toBytes s) = n at *
  rw [Nat.zero_add] at hF
  by_cases n0 : n = 0
  · have e : numO (toBytes s) = .tup [.l (.v (.int .u64 0)), .l (.v (.int .i64 0))] := by unfold numO; rw [hF, if_pos (.inl n0)]; rfl
    have n0I : (n : Int) = 0 := by omega
    simp only [go_sem, Nat.reduceOr, Nat.reducePow, Nat.reduceDiv, Nat.reduceMod, Nat.reduceBEq, Int.reduceBEq, Int.reduceBNe, Int.reduceEq, Int.reduceLT, Int.reduceLE, Int.reduceToNat, reduceIte, reduceCtorEq, Nat.reduceEqDiff, Nat.reduceAdd, Nat.reduceLT, Nat.reduceLeDiff, Nat.reduceMul, Nat.reduceSub, numK, hpI, hq, hx, hbb, hasP_run, hasP_pan, runD_run, runD_pan, decB, xbStr, p2, hs2, hR, n0I, e]
  · have n0I : ¬ (n : Int) = 0 := by omega
    by_cases n1 : 1 < n
    · have n1I : (1 : Int) < n := by omega
      by_cases z : byteAt s 0 = 48
      · have e : numO (toBytes s) = .tup [.l (.v (.int .u64 0)), .l (.v (.int .i64 0))] := by unfold numO; rw [hF, if_pos (.inr ⟨rfl, n1, z⟩)]; rfl
        simp only [go_sem, Nat.reduceOr, Nat.reducePow, Nat.reduceDiv, Nat.reduceMod, Nat.reduceBEq, Int.reduceBEq, Int.reduceBNe, Int.reduceEq, Int.reduceLT, Int.reduceLE, Int.reduceToNat, reduceIte, reduceCtorEq, Nat.reduceEqDiff, Nat.reduceAdd, Nat.reduceLT, Nat.reduceLeDiff, Nat.reduceMul, Nat.reduceSub, numK, hpI, hq, hx, hbb, hasP_run, hasP_pan, runD_run, runD_pan, decB, xbStr, p2, hs2, hR, n0I, n1I, z, e]
      · rw [if_neg (by omega)] at hF
        have hpar := parOk_of (base := 10) (head := 0) (n := n) hs (by omega) (by rw [List.drop_zero]; exact hn) (by omega) (by omega)
        have hnat : natL 10 (toBytes (s.extract 0 n)) = natL 10 ((toBytes s).take n) := by rw [toBytes_take]
        rw [Nat.zero_add] at hpar
        have ea : IntKind.i64.wrap (0 + (n : Int)) = (n : Int) := by rw [IntKind.wrap_i64]; omega
        have hend : (n : Int) ≤ s.size := by omega
        have hst : (0 : Int) ≤ (n : Int) := by omega
        simp only [go_sem, Nat.reduceOr, Nat.reducePow, Nat.reduceDiv, Nat.reduceMod, Nat.reduceBEq, Int.reduceBEq, Int.reduceBNe, Int.reduceEq, Int.reduceLT, Int.reduceLE, Int.reduceToNat, reduceIte, reduceCtorEq, Nat.reduceEqDiff, Nat.reduceAdd, Nat.reduceLT, Nat.reduceLeDiff, Nat.reduceMul, Nat.reduceSub, numK, hpI, hq, hx, hbb, hasP_run, hasP_pan, runD_run, runD_pan, decB, xbStr, p2, hs2, hR, n0I, n1I, z]
        refine sw_draw (ctx := [⟨_, parseS⟩]) mixed [] (by kernel_rfl) ?_
        by_cases hv : natL 10 ((toBytes s).take n) < 18446744073709551616
        · rw [if_neg (by omega)] at hF
          have e2 : parE (natL 10 ((toBytes s).take n)) = .tup [.l (.v (.int .u64 (natL 10 ((toBytes s).take n)))), .l (.v .nilIface)] := by unfold parE; rw [if_pos hv]
          have e : numO (toBytes s) = .tup [.l (.v (.int .u64 (natL 10 ((toBytes s).take n)))), .l (.v (.int .i64 (n : Int)))] := by unfold numO; rw [hF]
          simp only [go_sem, Nat.reduceOr, Nat.reducePow, Nat.reduceDiv, Nat.reduceMod, Nat.reduceBEq, Int.reduceBEq, Int.reduceBNe, Int.reduceEq, Int.reduceLT, Int.reduceLE, Int.reduceToNat, reduceIte, reduceCtorEq, Nat.reduceEqDiff, Nat.reduceAdd, Nat.reduceLT, Nat.reduceLeDiff, Nat.reduceMul, Nat.reduceSub, numK, ea, hend, hst, parse_run, parse_pan, hpar, hnat, e2, ↓nb2, e]
        · rw [if_pos (by omega)] at hF
          have e2 : parE (natL 10 ((toBytes s).take n)) = .tup [.l (.v (.int .u64 18446744073709551615)), .l errD] := by unfold parE; rw [if_neg hv]
          have e : numO (toBytes s) = .tup [.l (.v (.int .u64 0)), .l (.v (.int .i64 0))] := by unfold numO; rw [hF]; rfl
          simp only [go_sem, Nat.reduceOr, Nat.reducePow, Nat.reduceDiv, Nat.reduceMod, Nat.reduceBEq, Int.reduceBEq, Int.reduceBNe, Int.reduceEq, Int.reduceLT, Int.reduceLE, Int.reduceToNat, reduceIte, reduceCtorEq, Nat.reduceEqDiff, Nat.reduceAdd, Nat.reduceLT, Nat.reduceLeDiff, Nat.reduceMul, Nat.reduceSub, numK, ea, hend, hst, parse_run, parse_pan, hpar, hnat, e2, errD, e]
    · have n1I : ¬ (1 : Int) < n := by omega
      rw [if_neg (by omega)] at hF
      have hpar := parOk_of (base := 10) (head := 0) (n := n) hs (by omega) (by rw [List.drop_zero]; exact hn) (by omega) (by omega)
      have hnat : natL 10 (toBytes (s.extract 0 n)) = natL 10 ((toBytes s).take n) := by rw [toBytes_take]
      rw [Nat.zero_add] at hpar
      have ea : IntKind.i64.wrap (0 + (n : Int)) = (n : Int) := by rw [IntKind.wrap_i64]; omega
      have hend : (n : Int) ≤ s.size := by omega
      have hst : (0 : Int) ≤ (n : Int) := by omega
      simp only [go_sem, Nat.reduceOr, Nat.reducePow, Nat.reduceDiv, Nat.reduceMod, Nat.reduceBEq, Int.reduceBEq, Int.reduceBNe, Int.reduceEq, Int.reduceLT, Int.reduceLE, Int.reduceToNat, reduceIte, reduceCtorEq, Nat.reduceEqDiff, Nat.reduceAdd, Nat.reduceLT, Nat.reduceLeDiff, Nat.reduceMul, Nat.reduceSub, numK, hpI, hq, hx, hbb, hasP_run, hasP_pan, runD_run, runD_pan, decB, xbStr, p2, hs2, hR, n0I, n1I]
      refine sw_draw (ctx := [⟨_, parseS⟩]) mixed [] (by kernel_rfl) ?_
      by_cases hv : natL 10 ((toBytes s).take n) < 18446744073709551616
      · rw [if_neg (by omega)] at hF
        have e2 : parE (natL 10 ((toBytes s).take n)) = .tup [.l (.v (.int .u64 (natL 10 ((toBytes s).take n)))), .l (.v .nilIface)] := by unfold parE; rw [if_pos hv]
        have e : numO (toBytes s) = .tup [.l (.v (.int .u64 (natL 10 ((toBytes s).take n)))), .l (.v (.int .i64 (n : Int)))] := by unfold numO; rw [hF]
        simp only [go_sem, Nat.reduceOr, Nat.reducePow, Nat.reduceDiv, Nat.reduceMod, Nat.reduceBEq, Int.reduceBEq, Int.reduceBNe, Int.reduceEq, Int.reduceLT, Int.reduceLE, Int.reduceToNat, reduceIte, reduceCtorEq, Nat.reduceEqDiff, Nat.reduceAdd, Nat.reduceLT, Nat.reduceLeDiff, Nat.reduceMul, Nat.reduceSub, numK, ea, hend, hst, parse_run, parse_pan, hpar, hnat, e2, ↓nb2, e]
      · rw [if_pos (by omega)] at hF
        have e2 : parE (natL 10 ((toBytes s).take n)) = .tup [.l (.v (.int .u64 18446744073709551615)), .l errD] := by unfold parE; rw [if_neg hv]
        have e : numO (toBytes s) = .tup [.l (.v (.int .u64 0)), .l (.v (.int .i64 0))] := by unfold numO; rw [hF]; rfl
        simp only [go_sem, Nat.reduceOr, Nat.reducePow, Nat.reduceDiv, Nat.reduceMod, Nat.reduceBEq, Int.reduceBEq, Int.reduceBNe, Int.reduceEq, Int.reduceLT, Int.reduceLE, Int.reduceToNat, reduceIte, reduceCtorEq, Nat.reduceEqDiff, Nat.reduceAdd, Nat.reduceLT, Nat.reduceLeDiff, Nat.reduceMul, Nat.reduceSub, numK, ea, hend, hst, parse_run, parse_pan, hpar, hnat, e2, errD, e]

theorem en_num (args : Array Value) (w : World) : (callFunc 118 args).run Tryd.prog w = .ok (.enter 118 args) w := by go_simp
def numS : Spec Tryd.prog 118 :=
  mk1 _ _ _ Tryd.func118 rfl en_num (tStr) ((fun s => 0 < s.size ∧ s.size ≤ 1099511627776)) ((fun s => .ret (numO (toBytes s)))) (by rw [Tryd.ntmps118]; decide) (fun s h => number_sw s h.1 h.2)
theorem num_run {id : Nat} {h : Heap} {args : List AV} : (numS).run id h args = runP (args1 (tStr) ((fun s => 0 < s.size ∧ s.size ≤ 1099511627776))) ((fun s => .ret (numO (toBytes s)))) h args := rfl
theorem num_pan {id : Nat} {h : Heap} {args : List AV} : (numS).pan id h args = panP (args1 (tStr) ((fun s => 0 < s.size ∧ s.size ≤ 1099511627776))) ((fun s => .ret (numO (toBytes s)))) h args := rfl

end Go.Proofs.YtcdbldakjepjiaaDoor
