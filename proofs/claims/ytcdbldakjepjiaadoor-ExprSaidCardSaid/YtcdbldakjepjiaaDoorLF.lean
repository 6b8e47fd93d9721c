/- Lines, the reference: quotes are read. -/
import Derived.Test.YtcdbldakjepjiaaDoorWs
import Derived.Test.YtcdbldakjepjiaaDoorLE
set_option linter.unusedVariables false
set_option linter.unusedSimpArgs false
namespace Go.Proofs.YtcdbldakjepjiaaDoor
open Go.RowKit
set_option maxRecDepth 100000

def longR (c : Int) : Int := match longL c with | some x => x | none => -1
theorem en_rlong (args : Array Value) (w : World) : (callFunc 85 args).run Tryd.prog w = .ok (.enter 85 args) w := by go_simp
def rlongS : Spec Tryd.prog 85 :=
  mk1 _ _ _ Tryd.func85 rfl en_rlong (tInt .u8) ((fun c => 0 ≤ c ∧ c ≤ 255)) ((fun c => .ret (iv (longR c)))) (by rw [Tryd.ntmps85]; decide) (fun c hc => by
  refine aRun_sound (ctx := []) 4000 ?_
  rw [Tryd.ntmps85, Tryd.results85]
  simp only [Tryd.f85, Option.getD_some, zipT]
  have ew : IntKind.i64.wrap c = c := by rw [IntKind.wrap_i64]; omega
  by_cases h1 : c = 48
  · subst h1; simp only [go_sem, Nat.reduceOr, Nat.reducePow, Nat.reduceDiv, Nat.reduceMod, Nat.reduceBEq, Int.reduceBEq, Int.reduceBNe, Int.reduceEq, Int.reduceLT, Int.reduceLE, Int.reduceToNat, reduceIte, reduceCtorEq, Nat.reduceEqDiff, Nat.reduceAdd, Nat.reduceLT, Nat.reduceLeDiff, Nat.reduceMul, Nat.reduceSub]; rfl
  by_cases h2 : c = 116
  · subst h2; simp only [go_sem, Nat.reduceOr, Nat.reducePow, Nat.reduceDiv, Nat.reduceMod, Nat.reduceBEq, Int.reduceBEq, Int.reduceBNe, Int.reduceEq, Int.reduceLT, Int.reduceLE, Int.reduceToNat, reduceIte, reduceCtorEq, Nat.reduceEqDiff, Nat.reduceAdd, Nat.reduceLT, Nat.reduceLeDiff, Nat.reduceMul, Nat.reduceSub]; rfl
  by_cases h3 : c = 110
  · subst h3; simp only [go_sem, Nat.reduceOr, Nat.reducePow, Nat.reduceDiv, Nat.reduceMod, Nat.reduceBEq, Int.reduceBEq, Int.reduceBNe, Int.reduceEq, Int.reduceLT, Int.reduceLE, Int.reduceToNat, reduceIte, reduceCtorEq, Nat.reduceEqDiff, Nat.reduceAdd, Nat.reduceLT, Nat.reduceLeDiff, Nat.reduceMul, Nat.reduceSub]; rfl
  by_cases h4 : c = 114
  · subst h4; simp only [go_sem, Nat.reduceOr, Nat.reducePow, Nat.reduceDiv, Nat.reduceMod, Nat.reduceBEq, Int.reduceBEq, Int.reduceBNe, Int.reduceEq, Int.reduceLT, Int.reduceLE, Int.reduceToNat, reduceIte, reduceCtorEq, Nat.reduceEqDiff, Nat.reduceAdd, Nat.reduceLT, Nat.reduceLeDiff, Nat.reduceMul, Nat.reduceSub]; rfl
  by_cases h5 : c = 34
  · have e : longR c = c := by unfold longR longL; rw [if_neg h1, if_neg h2, if_neg h3, if_neg h4, if_pos (.inl h5)]
    simp only [go_sem, Nat.reduceOr, Nat.reducePow, Nat.reduceDiv, Nat.reduceMod, Nat.reduceBEq, Int.reduceBEq, Int.reduceBNe, Int.reduceEq, Int.reduceLT, Int.reduceLE, Int.reduceToNat, reduceIte, reduceCtorEq, Nat.reduceEqDiff, Nat.reduceAdd, Nat.reduceLT, Nat.reduceLeDiff, Nat.reduceMul, Nat.reduceSub, h1, h2, h3, h4, e, ew, eq_true h5]
  by_cases h6 : c = 92
  · have e : longR c = c := by unfold longR longL; rw [if_neg h1, if_neg h2, if_neg h3, if_neg h4, if_pos (.inr h6)]
    simp only [go_sem, Nat.reduceOr, Nat.reducePow, Nat.reduceDiv, Nat.reduceMod, Nat.reduceBEq, Int.reduceBEq, Int.reduceBNe, Int.reduceEq, Int.reduceLT, Int.reduceLE, Int.reduceToNat, reduceIte, reduceCtorEq, Nat.reduceEqDiff, Nat.reduceAdd, Nat.reduceLT, Nat.reduceLeDiff, Nat.reduceMul, Nat.reduceSub, h1, h2, h3, h4, h5, e, ew, eq_true h6]
  have e : longR c = -1 := by unfold longR longL; rw [if_neg h1, if_neg h2, if_neg h3, if_neg h4, if_neg (by omega)]
  simp only [go_sem, Nat.reduceOr, Nat.reducePow, Nat.reduceDiv, Nat.reduceMod, Nat.reduceBEq, Int.reduceBEq, Int.reduceBNe, Int.reduceEq, Int.reduceLT, Int.reduceLE, Int.reduceToNat, reduceIte, reduceCtorEq, Nat.reduceEqDiff, Nat.reduceAdd, Nat.reduceLT, Nat.reduceLeDiff, Nat.reduceMul, Nat.reduceSub, h1, h2, h3, h4, h5, h6, e])
theorem rlong_run {id : Nat} {h : Heap} {args : List AV} : (rlongS).run id h args = runP (args1 (tInt .u8) ((fun c => 0 ≤ c ∧ c ≤ 255))) ((fun c => .ret (iv (longR c)))) h args := rfl
theorem rlong_pan {id : Nat} {h : Heap} {args : List AV} : (rlongS).pan id h args = panP (args1 (tInt .u8) ((fun c => 0 ≤ c ∧ c ≤ 255))) ((fun c => .ret (iv (longR c)))) h args := rfl

theorem longL_range {c x : Int} (hc : 0 ≤ c ∧ c ≤ 255) (h : longL c = some x) : 0 ≤ x ∧ x ≤ 255 := by
  unfold longL at h
  split at h
  · injection h; omega
  split at h
  · injection h; omega
  split at h
  · injection h; omega
  split at h
  · injection h; omega
  split at h
  · injection h; omega
  · cases h
theorem escAt {s : ByteArray} {i : Nat} (h : i + 1 < s.size) : escL ((toBytes s).drop (i + 1)) = match longL (byteAt s ((i + 1 : Nat) : Int)) with
    | some x => some (x, 1)
    | none => if i + 3 < s.size ∧ byteAt s ((i + 1 : Nat) : Int) = 120 ∧ hexB (byteAt s ((i + 2 : Nat) : Int)) < 16 ∧ hexB (byteAt s ((i + 3 : Nat) : Int)) < 16 then some (16 * hexB (byteAt s ((i + 2 : Nat) : Int)) + hexB (byteAt s ((i + 3 : Nat) : Int)), 3) else none := by
  have hl : ((toBytes s).drop (i + 1)).length = s.size - (i + 1) := by rw [List.length_drop, toBytes_length]
  unfold escL
  rw [if_neg (by omega), bAt_drop, bAt_drop, bAt_drop, byteAt_bAt, byteAt_bAt, byteAt_bAt, hl]
  simp only [show 2 < s.size - (i + 1) ↔ i + 3 < s.size by omega, Nat.add_zero, show i + 1 + 1 = i + 2 from rfl, show i + 1 + 2 = i + 3 from rfl]
  cases longL (bAt (toBytes s) (i + 1)) <;> rfl

set_option maxHeartbeats 4000000 in
theorem rquotes_sw (s : ByteArray) (hs : s.size ≤ 1099511627776) : SW Tryd.prog ⟨none, 0⟩ Tryd.f48.ntmps (Tryd.f48.body.getD .skip) ⟨0, zipT 0 [tStr.enc s], []⟩ (outQ Tryd.prog Tryd.f48.results.toList (.ret (quotO (toBytes s)))) := by
  refine aRun_sound (ctx := [⟨_, rlongS⟩, ⟨_, rhexS⟩]) 4000 ?_
  rw [Tryd.ntmps48, Tryd.results48]
  simp only [Tryd.f48, Option.getD_some, zipT]
  simp only [go_sem, Nat.reduceOr, Nat.reducePow, Nat.reduceDiv, Nat.reduceMod, Nat.reduceBEq, Int.reduceBEq, Int.reduceBNe, Int.reduceEq, Int.reduceLT, Int.reduceLE, Int.reduceToNat, reduceIte, reduceCtorEq, Nat.reduceEqDiff, Nat.reduceAdd, Nat.reduceLT, Nat.reduceLeDiff, Nat.reduceMul, Nat.reduceSub]
  refine sw_loop (ι := Nat × List Int) (fun p => quInv s p.1 p.2 ∧ p.1 ≤ 1099511627777) (fun p => ⟨1, [(0, sv s), (4, .s (.l (.sl 0 0 p.2.length))), (5, iv p.1)], [(0, some (bytesK p.2))]⟩) (fun p => s.size + 1 - p.1) (1, []) ⟨⟨by omega, by omega, by simp, by cases quotesL ((toBytes s).drop 1) <;> simp⟩, by omega⟩ ?_ ?_
  · exact (Wk.nil 4 5 1 rfl).trans (Wk.renL [64] (by simp) (by simp) (by simp) rfl rfl)
  rintro ⟨i, l⟩ ⟨hq, hi⟩
  simp only at hq hi
  refine aRun_sound (ctx := [⟨_, rlongS⟩, ⟨_, rhexS⟩]) 4000 ?_
  have h1 := hq.1
  have h2 := hq.2.1
  have h3 := hq.2.2.1
  have hl : (toBytes s).length = s.size := toBytes_length s
  have ei : IntKind.i64.wrap ((i : Int) + 1) = ((i + 1 : Nat) : Int) := by rw [IntKind.wrap_i64]; omega
  have ei2 : IntKind.i64.wrap ((i : Int) + 2) = ((i + 2 : Nat) : Int) := by rw [IntKind.wrap_i64]; omega
  have ei3 : IntKind.i64.wrap ((i : Int) + 3) = ((i + 3 : Nat) : Int) := by rw [IntKind.wrap_i64]; omega
  have ej1 : IntKind.i64.wrap (((i + 1 : Nat) : Int) + 1) = ((i + 2 : Nat) : Int) := by rw [IntKind.wrap_i64]; omega
  have ej3 : IntKind.i64.wrap (((i + 3 : Nat) : Int) + 1) = ((i + 4 : Nat) : Int) := by rw [IntKind.wrap_i64]; omega
  have hmx : maxLen = 9223372036854775807 := rfl
  by_cases hlt : i < s.size
  · have hltI : (i : Int) < s.size := by omega
    have hr := byteAt_range s i
    have hm1 : l.length + 1 ≤ maxLen := by omega
    have hb1 : (l.length + 1) * 1 ≤ 140737488355328 := by omega
    have hdl : ((toBytes s).drop i).length = s.size - i := by rw [List.length_drop, hl]
    have hd0 : bAt ((toBytes s).drop i) 0 = byteAt s i := by rw [bAt_drop, Nat.add_zero, byteAt_bAt]
    by_cases c1 : byteAt s i = 34
    · have hst : qStep ((toBytes s).drop i) = .stop := by unfold qStep; rw [if_neg (by omega), if_pos (by rw [hd0]; exact c1)]
      have hF := quInv_stop hq hst
      have e : quotO (toBytes s) = .tup [.l (.v (.string (ofBytes l))), .l (.v (.int .i64 ((i + 1 : Nat) : Int)))] := by unfold quotO; rw [hF]
      simp only [go_sem, Nat.reduceOr, Nat.reducePow, Nat.reduceDiv, Nat.reduceMod, Nat.reduceBEq, Int.reduceBEq, Int.reduceBNe, Int.reduceEq, Int.reduceLT, Int.reduceLE, Int.reduceToNat, reduceIte, reduceCtorEq, Nat.reduceEqDiff, Nat.reduceAdd, Nat.reduceLT, Nat.reduceLeDiff, Nat.reduceMul, Nat.reduceSub, bytesK, hltI, c1, ei, decBytes, e]
    by_cases c2 : byteAt s i = 92
    · have hQ : qStep ((toBytes s).drop i) = match escL ((toBytes s).drop (i + 1)) with | some (x, n) => .put x (n + 1) | none => .bad := by unfold qStep; rw [if_neg (by omega), if_neg (by rw [hd0]; exact c1), if_pos (by rw [hd0]; exact c2), List.drop_drop]; cases escL ((toBytes s).drop (i + 1)) <;> rfl
      have hbad : escL ((toBytes s).drop (i + 1)) = none → quotO (toBytes s) = .tup [.l (.v (.string emp)), .l (.v (.int .i64 0))] := fun he => by
        rw [he] at hQ
        have hF := quInv_bad hq hQ
        unfold quotO; rw [hF]; rfl
      by_cases k1 : i + 1 < s.size
      · have k1I : ((i + 1 : Nat) : Int) < s.size := by omega
        have hE := escAt k1
        have hr1 := byteAt_range s ((i + 1 : Nat) : Int)
        rcases hL : longL (byteAt s ((i + 1 : Nat) : Int)) with _ | x
        · rw [hL] at hE
          have e1 : longR (byteAt s ((i + 1 : Nat) : Int)) = -1 := by unfold longR; rw [hL]
          by_cases k3 : i + 3 < s.size
          · have k3I : ¬ (s.size : Int) ≤ ((i + 3 : Nat) : Int) := by omega
            have k3J : ((i + 3 : Nat) : Int) < s.size := by omega
            have k2J : ((i + 2 : Nat) : Int) < s.size := by omega
            have hr2 := byteAt_range s ((i + 2 : Nat) : Int)
            have hr3 := byteAt_range s ((i + 3 : Nat) : Int)
            have hx2 := hexB_range (byteAt s ((i + 2 : Nat) : Int))
            have hx3 := hexB_range (byteAt s ((i + 3 : Nat) : Int))
            by_cases g1 : byteAt s ((i + 1 : Nat) : Int) = 120
            case neg =>
              have e := hbad (by rw [hE]; exact if_neg fun h => g1 h.2.1)
              simp only [go_sem, Nat.reduceOr, Nat.reducePow, Nat.reduceDiv, Nat.reduceMod, Nat.reduceBEq, Int.reduceBEq, Int.reduceBNe, Int.reduceEq, Int.reduceLT, Int.reduceLE, Int.reduceToNat, reduceIte, reduceCtorEq, Nat.reduceEqDiff, Nat.reduceAdd, Nat.reduceLT, Nat.reduceLeDiff, Nat.reduceMul, Nat.reduceSub, bytesK, hltI, c1, c2, ei, ei2, ei3, k1I, k2J, k3I, k3J, rlong_run, rlong_pan, rhex_run, rhex_pan, hr1, hr2, hr3, e1, g1, e, lit_emp]
            by_cases g2 : hexB (byteAt s ((i + 2 : Nat) : Int)) < 16
            case neg =>
              have e := hbad (by rw [hE]; exact if_neg fun h => g2 h.2.2.1)
              have g2' : hexR (byteAt s ((i + 2 : Nat) : Int)) = -1 := by unfold hexR; rw [if_pos (by omega)]
              simp only [go_sem, Nat.reduceOr, Nat.reducePow, Nat.reduceDiv, Nat.reduceMod, Nat.reduceBEq, Int.reduceBEq, Int.reduceBNe, Int.reduceEq, Int.reduceLT, Int.reduceLE, Int.reduceToNat, reduceIte, reduceCtorEq, Nat.reduceEqDiff, Nat.reduceAdd, Nat.reduceLT, Nat.reduceLeDiff, Nat.reduceMul, Nat.reduceSub, bytesK, hltI, c1, c2, ei, ei2, ei3, k1I, k2J, k3I, k3J, rlong_run, rlong_pan, rhex_run, rhex_pan, hr1, hr2, hr3, e1, g1, g2', show longR 120 = -1 from rfl, e, lit_emp]
            have g2' : hexR (byteAt s ((i + 2 : Nat) : Int)) = hexB (byteAt s ((i + 2 : Nat) : Int)) := by unfold hexR; rw [if_neg (by omega)]
            have g2I : ¬ hexB (byteAt s ((i + 2 : Nat) : Int)) < 0 := by omega
            by_cases g3 : hexB (byteAt s ((i + 3 : Nat) : Int)) < 16
            case neg =>
              have e := hbad (by rw [hE]; exact if_neg fun h => g3 h.2.2.2)
              have g3' : hexR (byteAt s ((i + 3 : Nat) : Int)) = -1 := by unfold hexR; rw [if_pos (by omega)]
              simp only [go_sem, Nat.reduceOr, Nat.reducePow, Nat.reduceDiv, Nat.reduceMod, Nat.reduceBEq, Int.reduceBEq, Int.reduceBNe, Int.reduceEq, Int.reduceLT, Int.reduceLE, Int.reduceToNat, reduceIte, reduceCtorEq, Nat.reduceEqDiff, Nat.reduceAdd, Nat.reduceLT, Nat.reduceLeDiff, Nat.reduceMul, Nat.reduceSub, bytesK, hltI, c1, c2, ei, ei2, ei3, k1I, k2J, k3I, k3J, rlong_run, rlong_pan, rhex_run, rhex_pan, hr1, hr2, hr3, e1, g1, g2', g2I, g3', show longR 120 = -1 from rfl, e, lit_emp]
            have g3' : hexR (byteAt s ((i + 3 : Nat) : Int)) = hexB (byteAt s ((i + 3 : Nat) : Int)) := by unfold hexR; rw [if_neg (by omega)]
            have g3I : ¬ hexB (byteAt s ((i + 3 : Nat) : Int)) < 0 := by omega
            rw [hE, if_pos ⟨k3, g1, g2, g3⟩] at hQ
            have hF := quInv_put hq hQ
            generalize hexB (byteAt s ((i + 2 : Nat) : Int)) = a at *
            generalize hexB (byteAt s ((i + 3 : Nat) : Int)) = b at *
            have w1 : IntKind.i64.wrap (16 * a) = 16 * a := by rw [IntKind.wrap_i64]; omega
            have w2 : IntKind.i64.wrap (16 * a + b) = 16 * a + b := by rw [IntKind.wrap_i64]; omega
            have w3 : IntKind.u8.wrap (16 * a + b) = 16 * a + b := by rw [IntKind.wrap_u8]; omega
            simp only [go_sem, Nat.reduceOr, Nat.reducePow, Nat.reduceDiv, Nat.reduceMod, Nat.reduceBEq, Int.reduceBEq, Int.reduceBNe, Int.reduceEq, Int.reduceLT, Int.reduceLE, Int.reduceToNat, reduceIte, reduceCtorEq, Nat.reduceEqDiff, Nat.reduceAdd, Nat.reduceLT, Nat.reduceLeDiff, Nat.reduceMul, Nat.reduceSub, bytesK, hltI, c1, c2, ei, ei2, ei3, k1I, k2J, k3I, k3J, rlong_run, rlong_pan, rhex_run, rhex_pan, hr1, hr2, hr3, e1, g1, g2', g2I, g3', g3I, show longR 120 = -1 from rfl]
            refine sw_draw (ctx := [⟨_, rhexS⟩]) mixed [15] (by kernel_rfl) ?_
            simp only [go_sem, Nat.reduceOr, Nat.reducePow, Nat.reduceDiv, Nat.reduceMod, Nat.reduceBEq, Int.reduceBEq, Int.reduceBNe, Int.reduceEq, Int.reduceLT, Int.reduceLE, Int.reduceToNat, reduceIte, reduceCtorEq, Nat.reduceEqDiff, Nat.reduceAdd, Nat.reduceLT, Nat.reduceLeDiff, Nat.reduceMul, Nat.reduceSub, bytesK, hltI, c1, c2, ei, ei2, ei3, ej3, k1I, k2J, k3I, k3J, rhex_run, rhex_pan, hr1, hr2, hr3, e1, g1, g2', g2I, g3', g3I, w1, w2, w3, hm1, hb1]
            exact ⟨(i + 4, l ++ [16 * a + b]), ⟨hF, by simp only; omega⟩, by simp only; omega, Wk.renL [1089] (by simp) (by simp) (by simp) (by simp [tget, AV.ren, SV.ren, LV.ren]) (by simp [hget, Blk.ren, encByte, LV.ren, Function.comp_def])⟩
          · have k3I : (s.size : Int) ≤ ((i + 3 : Nat) : Int) := by omega
            have e := hbad (by rw [hE]; exact if_neg fun h => k3 h.1)
            simp only [go_sem, Nat.reduceOr, Nat.reducePow, Nat.reduceDiv, Nat.reduceMod, Nat.reduceBEq, Int.reduceBEq, Int.reduceBNe, Int.reduceEq, Int.reduceLT, Int.reduceLE, Int.reduceToNat, reduceIte, reduceCtorEq, Nat.reduceEqDiff, Nat.reduceAdd, Nat.reduceLT, Nat.reduceLeDiff, Nat.reduceMul, Nat.reduceSub, bytesK, hltI, c1, c2, ei, ei2, ei3, k1I, k3I, rlong_run, rlong_pan, hr1, e1, e, lit_emp]
        · rw [hL] at hE
          have hx := longL_range hr1 hL
          have e1 : longR (byteAt s ((i + 1 : Nat) : Int)) = x := by unfold longR; rw [hL]
          have hx0 : (0 : Int) ≤ x := hx.1
          have w1 : IntKind.u8.wrap x = x := by rw [IntKind.wrap_u8]; omega
          rw [hE] at hQ
          have hF := quInv_put hq hQ
          simp only [go_sem, Nat.reduceOr, Nat.reducePow, Nat.reduceDiv, Nat.reduceMod, Nat.reduceBEq, Int.reduceBEq, Int.reduceBNe, Int.reduceEq, Int.reduceLT, Int.reduceLE, Int.reduceToNat, reduceIte, reduceCtorEq, Nat.reduceEqDiff, Nat.reduceAdd, Nat.reduceLT, Nat.reduceLeDiff, Nat.reduceMul, Nat.reduceSub, bytesK, hltI, c1, c2, ei, ej1, k1I, rlong_run, rlong_pan, hr1, e1, hx0, w1, hm1, hb1]
          exact ⟨(i + 2, l ++ [x]), ⟨hF, by simp only; omega⟩, by simp only; omega, Wk.renL [529] (by simp) (by simp) (by simp) (by simp [tget, AV.ren, SV.ren, LV.ren]) (by simp [hget, Blk.ren, encByte, LV.ren, Function.comp_def])⟩
      · have k1I : ¬ ((i + 1 : Nat) : Int) < s.size := by omega
        have k3I : (s.size : Int) ≤ ((i + 3 : Nat) : Int) := by omega
        have e := hbad (by unfold escL; rw [if_pos (by rw [List.length_drop]; omega)])
        simp only [go_sem, Nat.reduceOr, Nat.reducePow, Nat.reduceDiv, Nat.reduceMod, Nat.reduceBEq, Int.reduceBEq, Int.reduceBNe, Int.reduceEq, Int.reduceLT, Int.reduceLE, Int.reduceToNat, reduceIte, reduceCtorEq, Nat.reduceEqDiff, Nat.reduceAdd, Nat.reduceLT, Nat.reduceLeDiff, Nat.reduceMul, Nat.reduceSub, bytesK, hltI, c1, c2, ei, ei2, ei3, k1I, k3I, e, lit_emp]
    by_cases c3 : shownB (byteAt s i) = true
    · have hst : qStep ((toBytes s).drop i) = .put (byteAt s i) 1 := by unfold qStep; rw [if_neg (by omega), if_neg (by rw [hd0]; exact c1), if_neg (by rw [hd0]; exact c2), if_pos (by rw [hd0]; exact c3), hd0]
      have hF := quInv_put hq hst
      have c4 : 32 ≤ byteAt s i ∧ byteAt s i ≤ 126 := of_decide_eq_true c3
      have c5 : ¬ byteAt s i < 32 := by omega
      have c6 : ¬ 126 < byteAt s i := by omega
      simp only [go_sem, Nat.reduceOr, Nat.reducePow, Nat.reduceDiv, Nat.reduceMod, Nat.reduceBEq, Int.reduceBEq, Int.reduceBNe, Int.reduceEq, Int.reduceLT, Int.reduceLE, Int.reduceToNat, reduceIte, reduceCtorEq, Nat.reduceEqDiff, Nat.reduceAdd, Nat.reduceLT, Nat.reduceLeDiff, Nat.reduceMul, Nat.reduceSub, bytesK, hltI, c1, c2, c5, c6, ei, hm1, hb1]
      exact ⟨(i + 1, l ++ [byteAt s i]), ⟨hF, by simp only; omega⟩, by simp only; omega, Wk.renL [337] (by simp) (by simp) (by simp) (by simp [tget, AV.ren, SV.ren, LV.ren]) (by simp [hget, Blk.ren, encByte, LV.ren, Function.comp_def])⟩
    · have c3' : shownB (byteAt s i) = false := by simpa using c3
      have hst : qStep ((toBytes s).drop i) = .bad := by unfold qStep; rw [if_neg (by omega), if_neg (by rw [hd0]; exact c1), if_neg (by rw [hd0]; exact c2), if_neg (by rw [hd0]; exact c3)]
      have hF := quInv_bad hq hst
      have e : quotO (toBytes s) = .tup [.l (.v (.string emp)), .l (.v (.int .i64 0))] := by unfold quotO; rw [hF]; rfl
      have c4 : ¬ (32 ≤ byteAt s i ∧ byteAt s i ≤ 126) := of_decide_eq_false c3'
      by_cases c5 : byteAt s i < 32
      · simp only [go_sem, Nat.reduceOr, Nat.reducePow, Nat.reduceDiv, Nat.reduceMod, Nat.reduceBEq, Int.reduceBEq, Int.reduceBNe, Int.reduceEq, Int.reduceLT, Int.reduceLE, Int.reduceToNat, reduceIte, reduceCtorEq, Nat.reduceEqDiff, Nat.reduceAdd, Nat.reduceLT, Nat.reduceLeDiff, Nat.reduceMul, Nat.reduceSub, bytesK, hltI, c1, c2, c5, ei, e, lit_emp]
      · have c6 : 126 < byteAt s i := by omega
        simp only [go_sem, Nat.reduceOr, Nat.reducePow, Nat.reduceDiv, Nat.reduceMod, Nat.reduceBEq, Int.reduceBEq, Int.reduceBNe, Int.reduceEq, Int.reduceLT, Int.reduceLE, Int.reduceToNat, reduceIte, reduceCtorEq, Nat.reduceEqDiff, Nat.reduceAdd, Nat.reduceLT, Nat.reduceLeDiff, Nat.reduceMul, Nat.reduceSub, bytesK, hltI, c1, c2, c5, c6, ei, e, lit_emp]
  · have hltI : ¬ (i : Int) < s.size := by omega
    have hst : qStep ((toBytes s).drop i) = .bad := by unfold qStep; rw [if_pos (by rw [List.length_drop]; omega)]
    have hF := quInv_bad hq hst
    have e : quotO (toBytes s) = .tup [.l (.v (.string emp)), .l (.v (.int .i64 0))] := by unfold quotO; rw [hF]; rfl
    simp only [go_sem, Nat.reduceOr, Nat.reducePow, Nat.reduceDiv, Nat.reduceMod, Nat.reduceBEq, Int.reduceBEq, Int.reduceBNe, Int.reduceEq, Int.reduceLT, Int.reduceLE, Int.reduceToNat, reduceIte, reduceCtorEq, Nat.reduceEqDiff, Nat.reduceAdd, Nat.reduceLT, Nat.reduceLeDiff, Nat.reduceMul, Nat.reduceSub, bytesK, hltI, e, lit_emp]
theorem en_rquotes (args : Array Value) (w : World) : (callFunc 48 args).run Tryd.prog w = .ok (.enter 48 args) w := by go_simp
def rquotesS : Spec Tryd.prog 48 :=
  mk1 _ _ _ Tryd.func48 rfl en_rquotes (tStr) ((fun s => s.size ≤ 1099511627776)) ((fun s => .ret (quotO (toBytes s)))) (by rw [Tryd.ntmps48]; decide) (fun s hs => rquotes_sw s hs)
theorem rquotes_run {id : Nat} {h : Heap} {args : List AV} : (rquotesS).run id h args = runP (args1 (tStr) ((fun s => s.size ≤ 1099511627776))) ((fun s => .ret (quotO (toBytes s)))) h args := rfl
theorem rquotes_pan {id : Nat} {h : Heap} {args : List AV} : (rquotesS).pan id h args = panP (args1 (tStr) ((fun s => s.size ≤ 1099511627776))) ((fun s => .ret (quotO (toBytes s)))) h args := rfl

end Go.Proofs.YtcdbldakjepjiaaDoor
