/- Lines: quotes are read. -/
import Derived.Test.YtcdbldakjepjiaaDoorWs
import Derived.Test.YtcdbldakjepjiaaDoorL2
set_option linter.unusedVariables false
set_option linter.unusedSimpArgs false
namespace Go.Proofs.YtcdbldakjepjiaaDoor
open Go.RowKit

/-! ### Quotes are read -/
def quotO (l : List Int) : AV := .tup [.l (.v (.string (ofBytes (quotesF l).1))), .l (.v (.int .i64 (quotesF l).2))]
def quInv (s : ByteArray) (i : Nat) (l : List Int) : Prop := 1 ≤ i ∧ (i ≤ s.size ∨ i = 1) ∧ l.length ≤ i ∧ quotesL ((toBytes s).drop 1) = (quotesL ((toBytes s).drop i)).map fun p => (l ++ p.1, i - 1 + p.2)
theorem quInv_put {s : ByteArray} {i : Nat} {l : List Int} (h : quInv s i l) {x : Int} {k : Nat} (hq : qStep ((toBytes s).drop i) = .put x k) : quInv s (i + k) (l ++ [x]) := by
  obtain ⟨h1, h2, h3, h4⟩ := h
  have hk := qStep_le hq
  rw [List.length_drop, toBytes_length] at hk
  refine ⟨by omega, by omega, by simp; omega, ?_⟩
  rw [h4, quotesL_put hq, List.drop_drop]
  cases quotesL ((toBytes s).drop (i + k)) with
  | none => rfl
  | some p => simp; omega
theorem quInv_stop {s : ByteArray} {i : Nat} {l : List Int} (h : quInv s i l) (hq : qStep ((toBytes s).drop i) = .stop) : quotesF (toBytes s) = (l, i + 1) := by
  obtain ⟨h1, h2, h3, h4⟩ := h
  unfold quotesF
  rw [h4, quotesL_stop hq]
  simp
  omega
theorem quInv_bad {s : ByteArray} {i : Nat} {l : List Int} (h : quInv s i l) (hq : qStep ((toBytes s).drop i) = .bad) : quotesF (toBytes s) = ([], 0) := by
  obtain ⟨h1, h2, h3, h4⟩ := h
  unfold quotesF
  rw [h4, quotesL_bad hq]
  rfl

set_option maxHeartbeats 2000000 in
theorem quotes_sw (s : ByteArray) (hs : s.size ≤ 1099511627776) : SW Tryd.prog ⟨none, 0⟩ Tryd.f47.ntmps (Tryd.f47.body.getD .skip) ⟨0, zipT 0 [tStr.enc s], []⟩ (outQ Tryd.prog Tryd.f47.results.toList (.ret (quotO (toBytes s)))) := by
  refine aRun_sound (ctx := [⟨_, escS⟩, ⟨_, shownS⟩]) 4000 ?_
  rw [Tryd.ntmps47, Tryd.results47]
  simp only [Tryd.f47, Option.getD_some, zipT]
  simp only [go_sem, Nat.reduceOr, Nat.reducePow, Nat.reduceDiv, Nat.reduceMod, Nat.reduceBEq, Int.reduceBEq, Int.reduceBNe, Int.reduceEq, Int.reduceLT, Int.reduceLE, Int.reduceToNat, reduceIte, reduceCtorEq, Nat.reduceEqDiff, Nat.reduceAdd, Nat.reduceLT, Nat.reduceLeDiff, Nat.reduceMul, Nat.reduceSub]
  refine sw_loop (ι := Nat × List Int) (fun p => quInv s p.1 p.2 ∧ p.1 ≤ 1099511627777) (fun p => ⟨1, [(0, sv s), (4, .s (.l (.sl 0 0 p.2.length))), (5, iv p.1)], [(0, some (bytesK p.2))]⟩) (fun p => s.size + 1 - p.1) (1, []) ⟨⟨by omega, by omega, by simp, by cases quotesL ((toBytes s).drop 1) <;> simp⟩, by omega⟩ ?_ ?_
  · exact (Wk.nil 4 5 1 rfl).trans (Wk.renL [64] (by simp) (by simp) (by simp) rfl rfl)
  rintro ⟨i, l⟩ ⟨hq, hi⟩
  simp only at hq hi
  refine aRun_sound (ctx := [⟨_, escS⟩, ⟨_, shownS⟩]) 4000 ?_
  have h1 := hq.1
  have h2 := hq.2.1
  have h3 := hq.2.2.1
  have hl : (toBytes s).length = s.size := toBytes_length s
  have ei : IntKind.i64.wrap ((i : Int) + 1) = ((i + 1 : Nat) : Int) := by rw [IntKind.wrap_i64]; omega
  have hmx : maxLen = 9223372036854775807 := rfl
  by_cases hlt : i < s.size
  · have hltI : (i : Int) < s.size := by omega
    have hr := byteAt_range s i
    have hdl : ((toBytes s).drop i).length = s.size - i := by rw [List.length_drop, hl]
    have hd0 : bAt ((toBytes s).drop i) 0 = byteAt s i := by rw [bAt_drop, Nat.add_zero, byteAt_bAt]
    by_cases c1 : byteAt s i = 34
    · have hst : qStep ((toBytes s).drop i) = .stop := by unfold qStep; rw [if_neg (by omega), if_pos (by rw [hd0]; exact c1)]
      have hF := quInv_stop hq hst
      have e : quotO (toBytes s) = .tup [.l (.v (.string (ofBytes l))), .l (.v (.int .i64 ((i + 1 : Nat) : Int)))] := by unfold quotO; rw [hF]
      simp only [go_sem, Nat.reduceOr, Nat.reducePow, Nat.reduceDiv, Nat.reduceMod, Nat.reduceBEq, Int.reduceBEq, Int.reduceBNe, Int.reduceEq, Int.reduceLT, Int.reduceLE, Int.reduceToNat, reduceIte, reduceCtorEq, Nat.reduceEqDiff, Nat.reduceAdd, Nat.reduceLT, Nat.reduceLeDiff, Nat.reduceMul, Nat.reduceSub, bytesK, hltI, c1, ei, decBytes, e]
    by_cases c2 : byteAt s i = 92
    · have hsz : ((i + 1 : Nat) : Int) ≤ s.size := by omega
      rcases he : escL ((toBytes s).drop (i + 1)) with _ | ⟨x, n⟩
      · have hst : qStep ((toBytes s).drop i) = .bad := by unfold qStep; rw [if_neg (by omega), if_neg (by rw [hd0]; exact c1), if_pos (by rw [hd0]; exact c2), List.drop_drop, he]
        have hF := quInv_bad hq hst
        have e : quotO (toBytes s) = .tup [.l (.v (.string emp)), .l (.v (.int .i64 0))] := by unfold quotO; rw [hF]; rfl
        have e2 : escO (toBytes (s.extract (i + 1) s.size)) = .tup [.l (.v (.int .u8 0)), .l (.v (.int .i64 0))] := by unfold escO; rw [toBytes_drop, he]
        simp only [go_sem, Nat.reduceOr, Nat.reducePow, Nat.reduceDiv, Nat.reduceMod, Nat.reduceBEq, Int.reduceBEq, Int.reduceBNe, Int.reduceEq, Int.reduceLT, Int.reduceLE, Int.reduceToNat, reduceIte, reduceCtorEq, Nat.reduceEqDiff, Nat.reduceAdd, Nat.reduceLT, Nat.reduceLeDiff, Nat.reduceMul, Nat.reduceSub, bytesK, hltI, c1, c2, ei, hsz, esc_run, esc_pan, e2, e]
        rfl
      · have hst : qStep ((toBytes s).drop i) = .put x (n + 1) := by unfold qStep; rw [if_neg (by omega), if_neg (by rw [hd0]; exact c1), if_pos (by rw [hd0]; exact c2), List.drop_drop, he]
        have hk := qStep_le hst
        rw [hdl] at hk
        have hn := escL_le he
        have hF := quInv_put hq hst
        have e2 : escO (toBytes (s.extract (i + 1) s.size)) = .tup [.l (.v (.int .u8 x)), .l (.v (.int .i64 n))] := by unfold escO; rw [toBytes_drop, he]
        have hn0 : ¬ (n : Int) = 0 := by omega
        have e3 : IntKind.i64.wrap ((i : Int) + (n : Int)) = ((i + n : Nat) : Int) := by rw [IntKind.wrap_i64]; omega
        have e4 : IntKind.i64.wrap (((i + n : Nat) : Int) + 1) = ((i + n + 1 : Nat) : Int) := by rw [IntKind.wrap_i64]; omega
        have hm1 : l.length + 1 ≤ maxLen := by omega
        have hb1 : (l.length + 1) * 1 ≤ 140737488355328 := by omega
        simp only [go_sem, Nat.reduceOr, Nat.reducePow, Nat.reduceDiv, Nat.reduceMod, Nat.reduceBEq, Int.reduceBEq, Int.reduceBNe, Int.reduceEq, Int.reduceLT, Int.reduceLE, Int.reduceToNat, reduceIte, reduceCtorEq, Nat.reduceEqDiff, Nat.reduceAdd, Nat.reduceLT, Nat.reduceLeDiff, Nat.reduceMul, Nat.reduceSub, bytesK, hltI, c1, c2, ei, hsz, esc_run, esc_pan, e2, hn0, e3, e4, hm1, hb1]
        exact ⟨(i + n + 1, l ++ [x]), ⟨hF, by simp only; omega⟩, by simp only; omega, Wk.renL [465] (by simp) (by simp) (by simp) (by simp [tget, AV.ren, SV.ren, LV.ren]) (by simp [hget, Blk.ren, encByte, LV.ren, Function.comp_def])⟩
    by_cases c3 : shownB (byteAt s i) = true
    · have hst : qStep ((toBytes s).drop i) = .put (byteAt s i) 1 := by unfold qStep; rw [if_neg (by omega), if_neg (by rw [hd0]; exact c1), if_neg (by rw [hd0]; exact c2), if_pos (by rw [hd0]; exact c3), hd0]
      have hF := quInv_put hq hst
      have hm1 : l.length + 1 ≤ maxLen := by omega
      have hb1 : (l.length + 1) * 1 ≤ 140737488355328 := by omega
      simp only [go_sem, Nat.reduceOr, Nat.reducePow, Nat.reduceDiv, Nat.reduceMod, Nat.reduceBEq, Int.reduceBEq, Int.reduceBNe, Int.reduceEq, Int.reduceLT, Int.reduceLE, Int.reduceToNat, reduceIte, reduceCtorEq, Nat.reduceEqDiff, Nat.reduceAdd, Nat.reduceLT, Nat.reduceLeDiff, Nat.reduceMul, Nat.reduceSub, bytesK, hltI, c1, c2, c3, ei, shown_run, shown_pan, hm1, hb1]
      exact ⟨(i + 1, l ++ [byteAt s i]), ⟨hF, by simp only; omega⟩, by simp only; omega, Wk.renL [321] (by simp) (by simp) (by simp) (by simp [tget, AV.ren, SV.ren, LV.ren]) (by simp [hget, Blk.ren, encByte, LV.ren, Function.comp_def])⟩
    · have c3' : shownB (byteAt s i) = false := by simpa using c3
      have hst : qStep ((toBytes s).drop i) = .bad := by unfold qStep; rw [if_neg (by omega), if_neg (by rw [hd0]; exact c1), if_neg (by rw [hd0]; exact c2), if_neg (by rw [hd0]; exact c3)]
      have hF := quInv_bad hq hst
      have e : quotO (toBytes s) = .tup [.l (.v (.string emp)), .l (.v (.int .i64 0))] := by unfold quotO; rw [hF]; rfl
      simp only [go_sem, Nat.reduceOr, Nat.reducePow, Nat.reduceDiv, Nat.reduceMod, Nat.reduceBEq, Int.reduceBEq, Int.reduceBNe, Int.reduceEq, Int.reduceLT, Int.reduceLE, Int.reduceToNat, reduceIte, reduceCtorEq, Nat.reduceEqDiff, Nat.reduceAdd, Nat.reduceLT, Nat.reduceLeDiff, Nat.reduceMul, Nat.reduceSub, bytesK, hltI, c1, c2, c3', ei, shown_run, shown_pan, e]
      rfl
  · have hltI : ¬ (i : Int) < s.size := by omega
    have hst : qStep ((toBytes s).drop i) = .bad := by unfold qStep; rw [if_pos (by rw [List.length_drop]; omega)]
    have hF := quInv_bad hq hst
    have e : quotO (toBytes s) = .tup [.l (.v (.string emp)), .l (.v (.int .i64 0))] := by unfold quotO; rw [hF]; rfl
    simp only [go_sem, Nat.reduceOr, Nat.reducePow, Nat.reduceDiv, Nat.reduceMod, Nat.reduceBEq, Int.reduceBEq, Int.reduceBNe, Int.reduceEq, Int.reduceLT, Int.reduceLE, Int.reduceToNat, reduceIte, reduceCtorEq, Nat.reduceEqDiff, Nat.reduceAdd, Nat.reduceLT, Nat.reduceLeDiff, Nat.reduceMul, Nat.reduceSub, bytesK, hltI, e]
    rfl

theorem en_quotes (args : Array Value) (w : World) : (callFunc 47 args).run Tryd.prog w = .ok (.enter 47 args) w := by go_simp
def quotesS : Spec Tryd.prog 47 :=
  mk1 _ _ _ Tryd.func47 rfl en_quotes (tStr) ((fun s => s.size ≤ 1099511627776)) ((fun s => .ret (quotO (toBytes s)))) (by rw [Tryd.ntmps47]; decide) (fun s hs => quotes_sw s hs)
theorem quotes_run {id : Nat} {h : Heap} {args : List AV} : (quotesS).run id h args = runP (args1 (tStr) ((fun s => s.size ≤ 1099511627776))) ((fun s => .ret (quotO (toBytes s)))) h args := rfl
theorem quotes_pan {id : Nat} {h : Heap} {args : List AV} : (quotesS).pan id h args = panP (args1 (tStr) ((fun s => s.size ≤ 1099511627776))) ((fun s => .ret (quotO (toBytes s)))) h args := rfl

def unqO (r : List Int × Int) : AV := .tup [.l (.v (.string (ofBytes r.1))), .l (.v (.int .i64 r.2))]
theorem en_unquote (args : Array Value) (w : World) : (callFunc 20 args).run Tryd.prog w = .ok (.enter 20 args) w := by go_simp
def unquoteS : Spec Tryd.prog 20 :=
  mk1 _ _ _ Tryd.func20 rfl en_unquote (tStr) ((fun s => s.size ≤ 1099511627776)) ((fun s => .ret (unqO (unquoteF (toBytes s))))) (by rw [Tryd.ntmps20]; decide) (fun s hs => by
  refine aRun_sound (ctx := [⟨_, hasPS⟩, ⟨_, quotesS⟩]) 4000 ?_
  rw [Tryd.ntmps20, Tryd.results20]
  simp only [Tryd.f20, Option.getD_some, zipT]
  have hl : (toBytes s).length = s.size := toBytes_length s
  have hb0 := byteAt_bAt0 s
  by_cases h1 : 0 < s.size ∧ byteAt s 0 = 34
  · have hp : hasPF s ⟨#[34]⟩ = true := by rw [show (⟨#[34]⟩ : ByteArray) = ofBytes [34] from rfl, hasP1 s 34 (by omega)]; exact decide_eq_true h1
    by_cases h2 : (quotesF (toBytes s)).2 = s.size
    · have h2I : ((quotesF (toBytes s)).2 : Int) = s.size := by omega
      have e : unquoteF (toBytes s) = ((quotesF (toBytes s)).1, 0) := by unfold unquoteF; rw [if_pos (by rw [← hb0, hl]; exact ⟨h1.1, h1.2, h2⟩)]
      simp only [go_sem, Nat.reduceOr, Nat.reducePow, Nat.reduceDiv, Nat.reduceMod, Nat.reduceBEq, Int.reduceBEq, Int.reduceBNe, Int.reduceEq, Int.reduceLT, Int.reduceLE, Int.reduceToNat, reduceIte, reduceCtorEq, Nat.reduceEqDiff, Nat.reduceAdd, Nat.reduceLT, Nat.reduceLeDiff, Nat.reduceMul, Nat.reduceSub, hasP_run, hasP_pan, hp, quotes_run, quotes_pan, hs, quotO, h2I, e, unqO]
    · have h2I : ¬ ((quotesF (toBytes s)).2 : Int) = s.size := by omega
      have e : unquoteF (toBytes s) = ([], 82) := by unfold unquoteF; rw [if_neg (by rw [← hb0, hl]; exact fun h => h2 h.2.2)]
      simp only [go_sem, Nat.reduceOr, Nat.reducePow, Nat.reduceDiv, Nat.reduceMod, Nat.reduceBEq, Int.reduceBEq, Int.reduceBNe, Int.reduceEq, Int.reduceLT, Int.reduceLE, Int.reduceToNat, reduceIte, reduceCtorEq, Nat.reduceEqDiff, Nat.reduceAdd, Nat.reduceLT, Nat.reduceLeDiff, Nat.reduceMul, Nat.reduceSub, hasP_run, hasP_pan, hp, quotes_run, quotes_pan, hs, quotO, h2I, e, unqO]
      rfl
  · have hp : hasPF s ⟨#[34]⟩ = false := by rw [show (⟨#[34]⟩ : ByteArray) = ofBytes [34] from rfl, hasP1 s 34 (by omega)]; exact decide_eq_false h1
    have e : unquoteF (toBytes s) = ([], 82) := by unfold unquoteF; rw [if_neg (by rw [← hb0, hl]; exact fun h => h1 ⟨h.1, h.2.1⟩)]
    simp only [go_sem, Nat.reduceOr, Nat.reducePow, Nat.reduceDiv, Nat.reduceMod, Nat.reduceBEq, Int.reduceBEq, Int.reduceBNe, Int.reduceEq, Int.reduceLT, Int.reduceLE, Int.reduceToNat, reduceIte, reduceCtorEq, Nat.reduceEqDiff, Nat.reduceAdd, Nat.reduceLT, Nat.reduceLeDiff, Nat.reduceMul, Nat.reduceSub, hasP_run, hasP_pan, hp, e, unqO]
    rfl)
theorem unquote_run {id : Nat} {h : Heap} {args : List AV} : (unquoteS).run id h args = runP (args1 (tStr) ((fun s => s.size ≤ 1099511627776))) ((fun s => .ret (unqO (unquoteF (toBytes s))))) h args := rfl
theorem unquote_pan {id : Nat} {h : Heap} {args : List AV} : (unquoteS).pan id h args = panP (args1 (tStr) ((fun s => s.size ≤ 1099511627776))) ((fun s => .ret (unqO (unquoteF (toBytes s))))) h args := rfl


end Go.Proofs.YtcdbldakjepjiaaDoor
