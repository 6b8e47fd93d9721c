/- Lines: bytes within quotes. -/
import Derived.Test.YtcdbldakjepjiaaDoorWs
import Derived.Test.YtcdbldakjepjiaaDoorL1
import Derived.Laws.BitsLemmas
set_option linter.unusedVariables false
set_option linter.unusedSimpArgs false
namespace Go.Proofs.YtcdbldakjepjiaaDoor
open Go.RowKit

theorem mixed : Tryd.prog.follows .mixedOrders = true := by kernel_rfl
def bytesK (l : List Int) : Blk := ⟨true, 5, 1, l.map encByte⟩
theorem decBytes (l : List Int) : decAll decByte (l.map encByte) = some l := decAll_enc decByte_enc l

theorem en_short (args : Array Value) (w : World) : (callFunc 52 args).run Tryd.prog w = .ok (.enter 52 args) w := by go_simp
def shortS : Spec Tryd.prog 52 :=
  mk1 _ _ _ Tryd.func52 rfl en_short (tInt .u8) ((fun _ => True)) ((fun c => .ret (.s (.l (.v (.int .u8 (shortL c))))))) (by rw [Tryd.ntmps52]; decide) (fun c _ => by
  refine aRun_sound (ctx := []) 4000 ?_
  rw [Tryd.ntmps52, Tryd.results52]
  simp only [Tryd.f52, Option.getD_some, zipT]
  by_cases h0 : c = 0
  · subst h0; simp only [go_sem, Nat.reduceOr, Nat.reducePow, Nat.reduceDiv, Nat.reduceMod, Nat.reduceBEq, Int.reduceBEq, Int.reduceBNe, Int.reduceEq, Int.reduceLT, Int.reduceLE, Int.reduceToNat, reduceIte, reduceCtorEq, Nat.reduceEqDiff, Nat.reduceAdd, Nat.reduceLT, Nat.reduceLeDiff, Nat.reduceMul, Nat.reduceSub, shortL]
  by_cases h1 : c = 9
  · subst h1; simp only [go_sem, Nat.reduceOr, Nat.reducePow, Nat.reduceDiv, Nat.reduceMod, Nat.reduceBEq, Int.reduceBEq, Int.reduceBNe, Int.reduceEq, Int.reduceLT, Int.reduceLE, Int.reduceToNat, reduceIte, reduceCtorEq, Nat.reduceEqDiff, Nat.reduceAdd, Nat.reduceLT, Nat.reduceLeDiff, Nat.reduceMul, Nat.reduceSub, shortL]
  by_cases h2 : c = 10
  · subst h2; simp only [go_sem, Nat.reduceOr, Nat.reducePow, Nat.reduceDiv, Nat.reduceMod, Nat.reduceBEq, Int.reduceBEq, Int.reduceBNe, Int.reduceEq, Int.reduceLT, Int.reduceLE, Int.reduceToNat, reduceIte, reduceCtorEq, Nat.reduceEqDiff, Nat.reduceAdd, Nat.reduceLT, Nat.reduceLeDiff, Nat.reduceMul, Nat.reduceSub, shortL]
  by_cases h3 : c = 13
  · subst h3; simp only [go_sem, Nat.reduceOr, Nat.reducePow, Nat.reduceDiv, Nat.reduceMod, Nat.reduceBEq, Int.reduceBEq, Int.reduceBNe, Int.reduceEq, Int.reduceLT, Int.reduceLE, Int.reduceToNat, reduceIte, reduceCtorEq, Nat.reduceEqDiff, Nat.reduceAdd, Nat.reduceLT, Nat.reduceLeDiff, Nat.reduceMul, Nat.reduceSub, shortL]
  by_cases h4 : c = 34
  · subst h4; simp only [go_sem, Nat.reduceOr, Nat.reducePow, Nat.reduceDiv, Nat.reduceMod, Nat.reduceBEq, Int.reduceBEq, Int.reduceBNe, Int.reduceEq, Int.reduceLT, Int.reduceLE, Int.reduceToNat, reduceIte, reduceCtorEq, Nat.reduceEqDiff, Nat.reduceAdd, Nat.reduceLT, Nat.reduceLeDiff, Nat.reduceMul, Nat.reduceSub, shortL]
  by_cases h5 : c = 92
  · subst h5; simp only [go_sem, Nat.reduceOr, Nat.reducePow, Nat.reduceDiv, Nat.reduceMod, Nat.reduceBEq, Int.reduceBEq, Int.reduceBNe, Int.reduceEq, Int.reduceLT, Int.reduceLE, Int.reduceToNat, reduceIte, reduceCtorEq, Nat.reduceEqDiff, Nat.reduceAdd, Nat.reduceLT, Nat.reduceLeDiff, Nat.reduceMul, Nat.reduceSub, shortL]
  have e : shortL c = 0 := by unfold shortL; simp only [h0, h1, h2, h3, h4, h5, or_self, if_false]
  simp only [go_sem, Nat.reduceOr, Nat.reducePow, Nat.reduceDiv, Nat.reduceMod, Nat.reduceBEq, Int.reduceBEq, Int.reduceBNe, Int.reduceEq, Int.reduceLT, Int.reduceLE, Int.reduceToNat, reduceIte, reduceCtorEq, Nat.reduceEqDiff, Nat.reduceAdd, Nat.reduceLT, Nat.reduceLeDiff, Nat.reduceMul, Nat.reduceSub, h0, h1, h2, h3, h4, h5, e])
theorem short_run {id : Nat} {h : Heap} {args : List AV} : (shortS).run id h args = runP (args1 (tInt .u8) ((fun _ => True))) ((fun c => .ret (.s (.l (.v (.int .u8 (shortL c))))))) h args := rfl
theorem short_pan {id : Nat} {h : Heap} {args : List AV} : (shortS).pan id h args = panP (args1 (tInt .u8) ((fun _ => True))) ((fun c => .ret (.s (.l (.v (.int .u8 (shortL c))))))) h args := rfl

theorem snoc1 (l : List Int) (x : Int) : l.map encByte ++ [[LV.v (.int .u8 x)]] = (l ++ [x]).map encByte := by rw [List.map_append]; rfl
theorem takeS (l : List Int) (x : Int) : ((l ++ [x]).map encByte).take (l.length + 1) = (l ++ [x]).map encByte := List.take_of_length_le (by simp)
theorem take_more {s : ByteArray} {i : Nat} (h : i < s.size) : (toBytes s).take (i + 1) = (toBytes s).take i ++ [byteAt s i] := by
  rw [List.take_add_one, toBytes_get h]; rfl
theorem quoteB_append (a b : List Int) : quoteB (a ++ b) = quoteB a ++ quoteB b := by
  unfold quoteB; rw [List.flatMap_append]
theorem quoteB_more {s : ByteArray} {i : Nat} (h : i < s.size) : quoteB ((toBytes s).take (i + 1)) = quoteB ((toBytes s).take i) ++ quote1 (byteAt s i) := by
  rw [take_more h, quoteB_append]
  simp [quoteB]
theorem quote1_len (c : Int) : (quote1 c).length ≤ 4 := by
  unfold quote1; split
  · simp
  · split <;> simp
theorem quoteB_len : ∀ l : List Int, (quoteB l).length ≤ 4 * l.length
  | [] => by simp [quoteB]
  | c :: l => by
    have h1 := quoteB_len l
    have h2 := quote1_len c
    have : quoteB (c :: l) = quote1 c ++ quoteB l := rfl
    rw [this, List.length_append, List.length_cons]
    omega
theorem and15 : ∀ n : Nat, n < 256 → bits .and .u8 (n : Int) 15 = (n : Int) % 16 := by decide +kernel
theorem digAt : ∀ n : Nat, n < 16 → byteAt ⟨#[48, 49, 50, 51, 52, 53, 54, 55, 56, 57, 97, 98, 99, 100, 101, 102]⟩ (n : Int) = hexd n := by decide +kernel

set_option maxHeartbeats 2000000 in
theorem quote_sw (s : ByteArray) (hs : s.size ≤ 1000000) : SW Tryd.prog ⟨none, 0⟩ Tryd.f25.ntmps (Tryd.f25.body.getD .skip) ⟨0, zipT 0 [tStr.enc s], []⟩ (outQ Tryd.prog Tryd.f25.results.toList (.ret (sv (ofBytes (quoteL (toBytes s)))))) := by
  refine aRun_sound (ctx := [⟨_, shortS⟩, ⟨_, shownS⟩]) 4000 ?_
  rw [Tryd.ntmps25, Tryd.results25]
  simp only [Tryd.f25, Option.getD_some, zipT]
  simp only [go_sem, Nat.reduceOr, Nat.reducePow, Nat.reduceDiv, Nat.reduceMod, Nat.reduceBEq, Int.reduceBEq, Int.reduceBNe, Int.reduceEq, Int.reduceLT, Int.reduceLE, Int.reduceToNat, reduceIte, reduceCtorEq, Nat.reduceEqDiff, Nat.reduceAdd, Nat.reduceLT, Nat.reduceLeDiff, Nat.reduceMul, Nat.reduceSub]
  refine sw_loop (ι := Nat × List Int) (fun p => p.1 ≤ s.size ∧ p.2 = 34 :: quoteB ((toBytes s).take p.1)) (fun p => ⟨1, [(0, sv s), (3, .s (.l (.sl 0 0 p.2.length))), (8, iv s.size), (9, iv p.1)], [(0, some (bytesK p.2))]⟩) (fun p => s.size - p.1) (0, [34]) ⟨Nat.zero_le _, rfl⟩ (Wk.renL [16] (by simp) (by simp) (by simp) rfl rfl) ?_
  rintro ⟨i, l⟩ ⟨hi, hl⟩
  simp only at hi hl
  refine aRun_sound (ctx := [⟨_, shortS⟩, ⟨_, shownS⟩]) 4000 ?_
  have hlen : l.length ≤ 4 * i + 1 := by
    have := quoteB_len ((toBytes s).take i)
    rw [List.length_take] at this
    rw [hl, List.length_cons]
    omega
  have hm1 : l.length + 1 ≤ maxLen := by unfold maxLen; omega
  have hm2 : l.length + 2 ≤ maxLen := by unfold maxLen; omega
  have hm4 : l.length + 4 ≤ maxLen := by unfold maxLen; omega
  have hb1 : (l.length + 1) * 1 ≤ 140737488355328 := by omega
  have hb2 : (l.length + 2) * 1 ≤ 140737488355328 := by omega
  have hb4 : (l.length + 4) * 1 ≤ 140737488355328 := by omega
  by_cases hlt : i < s.size
  · have hltI : (i : Int) < s.size := by omega
    have hr := byteAt_range s i
    have hq := quoteB_more hlt
    have ei : IntKind.i64.wrap ((i : Int) + 1) = ((i + 1 : Nat) : Int) := by rw [IntKind.wrap_i64]; omega
    by_cases h1 : shortL (byteAt s i) = 0
    · by_cases h2 : shownB (byteAt s i) = true
      · have e1 : quote1 (byteAt s i) = [byteAt s i] := by unfold quote1; rw [if_neg (by simp [h1]), if_pos h2]
        simp only [go_sem, Nat.reduceOr, Nat.reducePow, Nat.reduceDiv, Nat.reduceMod, Nat.reduceBEq, Int.reduceBEq, Int.reduceBNe, Int.reduceEq, Int.reduceLT, Int.reduceLE, Int.reduceToNat, reduceIte, reduceCtorEq, Nat.reduceEqDiff, Nat.reduceAdd, Nat.reduceLT, Nat.reduceLeDiff, Nat.reduceMul, Nat.reduceSub, bytesK, short_run, short_pan, shown_run, shown_pan, hltI, h1, h2, hm1, hb1, ei]
        exact ⟨(i + 1, l ++ [byteAt s i]), ⟨hlt, by simp only; rw [hq, e1, hl]; rfl⟩, by simp only; omega, Wk.renL [273] (by simp) (by simp) (by simp) (by simp [tget, AV.ren, SV.ren, LV.ren]) (by simp [hget, Blk.ren, encByte, LV.ren, Function.comp_def])⟩
      · have h2' : shownB (byteAt s i) = false := by simpa using h2
        have e1 : quote1 (byteAt s i) = [92, 120, hexd (byteAt s i / 16), hexd (byteAt s i % 16)] := by unfold quote1; rw [if_neg (by simp [h1]), if_neg h2]
        have e2 : (byteAt s i).fdiv (2 ^ min 4 IntKind.u8.bits) = byteAt s i / 16 := by
          rw [show (2 : Int) ^ min 4 IntKind.u8.bits = 16 from rfl, Int.fdiv_eq_ediv_of_nonneg _ (by omega)]
        have e2' : (byteAt s i).fdiv (2 ^ min 4 8) = byteAt s i / 16 := e2
        have e3 : bits .and .u8 (byteAt s i) 15 = byteAt s i % 16 := by
          have := and15 (byteAt s i).toNat (by omega)
          rwa [Int.toNat_of_nonneg hr.1] at this
        have e4 : ∀ z : Int, 0 ≤ z → z < 16 → byteAt ⟨#[48, 49, 50, 51, 52, 53, 54, 55, 56, 57, 97, 98, 99, 100, 101, 102]⟩ z = hexd z := fun z h0 h1 => by
          have := digAt z.toNat (by omega)
          rwa [Int.toNat_of_nonneg h0] at this
        have e5 := e4 (byteAt s i / 16) (by omega) (by omega)
        have e6 := e4 (byteAt s i % 16) (by omega) (by omega)
        simp only [go_sem, Nat.reduceOr, Nat.reducePow, Nat.reduceDiv, Nat.reduceMod, Nat.reduceBEq, Int.reduceBEq, Int.reduceBNe, Int.reduceEq, Int.reduceLT, Int.reduceLE, Int.reduceToNat, reduceIte, reduceCtorEq, Nat.reduceEqDiff, Nat.reduceAdd, Nat.reduceLT, Nat.reduceLeDiff, Nat.reduceMul, Nat.reduceSub, bytesK, short_run, short_pan, shown_run, shown_pan, hltI, h1, h2']
        refine sw_draw (ctx := []) mixed [8] (by kernel_rfl) ?_
        simp only [go_sem, Nat.reduceOr, Nat.reducePow, Nat.reduceDiv, Nat.reduceMod, Nat.reduceBEq, Int.reduceBEq, Int.reduceBNe, Int.reduceEq, Int.reduceLT, Int.reduceLE, Int.reduceToNat, reduceIte, reduceCtorEq, Nat.reduceEqDiff, Nat.reduceAdd, Nat.reduceLT, Nat.reduceLeDiff, Nat.reduceMul, Nat.reduceSub, bytesK, e2, e2', e3, e5, e6, hm4, hb4, ei]
        exact ⟨⟨by omega, show _ < (16 : Int) by omega⟩, ⟨by omega, show _ < (16 : Int) by omega⟩, (i + 1, l ++ [92, 120, hexd (byteAt s i / 16), hexd (byteAt s i % 16)]), ⟨hlt, by simp only; rw [hq, e1, hl]; rfl⟩, by simp only; omega, Wk.renL [353] (by simp) (by simp) (by simp) (by simp [tget, AV.ren, SV.ren, LV.ren]) (by simp [hget, Blk.ren, encByte, LV.ren, Function.comp_def])⟩
    · have e1 : quote1 (byteAt s i) = [92, shortL (byteAt s i)] := by unfold quote1; rw [if_pos h1]
      simp only [go_sem, Nat.reduceOr, Nat.reducePow, Nat.reduceDiv, Nat.reduceMod, Nat.reduceBEq, Int.reduceBEq, Int.reduceBNe, Int.reduceEq, Int.reduceLT, Int.reduceLE, Int.reduceToNat, reduceIte, reduceCtorEq, Nat.reduceEqDiff, Nat.reduceAdd, Nat.reduceLT, Nat.reduceLeDiff, Nat.reduceMul, Nat.reduceSub, bytesK, short_run, short_pan, shown_run, shown_pan, hltI, h1, hm2, hb2, ei]
      exact ⟨(i + 1, l ++ [92, shortL (byteAt s i)]), ⟨hlt, by simp only; rw [hq, e1, hl]; rfl⟩, by simp only; omega, Wk.renL [241] (by simp) (by simp) (by simp) (by simp [tget, AV.ren, SV.ren, LV.ren]) (by simp [hget, Blk.ren, encByte, LV.ren, Function.comp_def])⟩
  · have hI : ¬ (i : Int) < s.size := by omega
    obtain rfl : i = s.size := by omega
    have ht : (toBytes s).take s.size = toBytes s := List.take_of_length_le (by rw [toBytes_length]; exact Nat.le_refl _)
    have hF : quoteL (toBytes s) = l ++ [34] := by rw [hl, ht]; rfl
    simp only [go_sem, Nat.reduceOr, Nat.reducePow, Nat.reduceDiv, Nat.reduceMod, Nat.reduceBEq, Int.reduceBEq, Int.reduceBNe, Int.reduceEq, Int.reduceLT, Int.reduceLE, Int.reduceToNat, reduceIte, reduceCtorEq, Nat.reduceEqDiff, Nat.reduceAdd, Nat.reduceLT, Nat.reduceLeDiff, Nat.reduceMul, Nat.reduceSub, bytesK, hI, hm1, hb1, snoc1, takeS, decBytes, hF]
    simp

theorem en_quote (args : Array Value) (w : World) : (callFunc 25 args).run Tryd.prog w = .ok (.enter 25 args) w := by go_simp
def quoteS : Spec Tryd.prog 25 :=
  mk1 _ _ _ Tryd.func25 rfl en_quote (tStr) ((fun s => s.size ≤ 1000000)) ((fun s => .ret (sv (ofBytes (quoteL (toBytes s)))))) (by rw [Tryd.ntmps25]; decide) (fun s hs => quote_sw s hs)
theorem quote_run {id : Nat} {h : Heap} {args : List AV} : (quoteS).run id h args = runP (args1 (tStr) ((fun s => s.size ≤ 1000000))) ((fun s => .ret (sv (ofBytes (quoteL (toBytes s)))))) h args := rfl
theorem quote_pan {id : Nat} {h : Heap} {args : List AV} : (quoteS).pan id h args = panP (args1 (tStr) ((fun s => s.size ≤ 1000000))) ((fun s => .ret (sv (ofBytes (quoteL (toBytes s)))))) h args := rfl

/-! ### What stands behind a \ -/
def b8 (z : Int) : SV := .l (.v (.int .u8 z))
def escO (l : List Int) : AV := match escL l with
  | some p => .tup [.l (.v (.int .u8 p.1)), .l (.v (.int .i64 p.2))]
  | none => .tup [.l (.v (.int .u8 0)), .l (.v (.int .i64 0))]
theorem escO_plain (l : List Int) : (escO l).plain = true := by unfold escO; split <;> rfl
theorem orAt : ∀ a : Nat, a < 16 → ∀ b : Nat, b < 16 → bits .or .i64 ((a : Int) * 16) (b : Int) = 16 * (a : Int) + (b : Int) := by decide +kernel
def escInv (b : Int) (i : Nat) : Prop := i ≤ 6 ∧ (0 < i → ¬ 48 = b) ∧ (1 < i → ¬ 116 = b) ∧ (2 < i → ¬ 110 = b) ∧ (3 < i → ¬ 114 = b) ∧ (4 < i → ¬ 34 = b) ∧ (5 < i → ¬ 92 = b)

set_option maxHeartbeats 2000000 in
theorem escaped_sw (s : ByteArray) : SW Tryd.prog ⟨none, 0⟩ Tryd.f84.ntmps (Tryd.f84.body.getD .skip) ⟨0, zipT 0 [tStr.enc s], []⟩ (outQ Tryd.prog Tryd.f84.results.toList (.ret (escO (toBytes s)))) := by
  refine aRun_sound (ctx := [⟨_, shortS⟩, ⟨_, hexS⟩]) 4000 ?_
  rw [Tryd.ntmps84, Tryd.results84]
  simp only [Tryd.f84, Option.getD_some, zipT]
  have hl : (toBytes s).length = s.size := toBytes_length s
  by_cases h0 : s = emp
  · subst h0
    have e : escO (toBytes emp) = .tup [.l (.v (.int .u8 0)), .l (.v (.int .i64 0))] := rfl
    simp only [go_sem, Nat.reduceOr, Nat.reducePow, Nat.reduceDiv, Nat.reduceMod, Nat.reduceBEq, Int.reduceBEq, Int.reduceBNe, Int.reduceEq, Int.reduceLT, Int.reduceLE, Int.reduceToNat, reduceIte, reduceCtorEq, Nat.reduceEqDiff, Nat.reduceAdd, Nat.reduceLT, Nat.reduceLeDiff, Nat.reduceMul, Nat.reduceSub, lit_emp, e]
  have hne : ¬ s = emp := h0
  have hp : 0 < s.size := sizeP h0
  have hpI : (0 : Int) < s.size := by omega
  have hr0 := byteAt_range s 0
  have hb0 := byteAt_bAt0 s
  have hb1 := byteAt_bAt1 s
  have hb2 := byteAt_bAt2 s
  have hz : ¬ (toBytes s).length = 0 := by omega
  simp only [go_sem, Nat.reduceOr, Nat.reducePow, Nat.reduceDiv, Nat.reduceMod, Nat.reduceBEq, Int.reduceBEq, Int.reduceBNe, Int.reduceEq, Int.reduceLT, Int.reduceLE, Int.reduceToNat, reduceIte, reduceCtorEq, Nat.reduceEqDiff, Nat.reduceAdd, Nat.reduceLT, Nat.reduceLeDiff, Nat.reduceMul, Nat.reduceSub, hne, lit_emp]
  refine sw_loop (ι := Nat) (escInv (byteAt s 0)) (fun i => ⟨1, [(0, sv s), (8, .s (.l (.sl 0 0 6))), (9, iv 6), (10, iv i)], [(0, some (bytesK [0, 9, 10, 13, 34, 92]))]⟩) (fun i => 6 - i) 0 ⟨by omega, by omega, by omega, by omega, by omega, by omega, by omega⟩ ?_ ?_
  · exact Wk.renL [64] (by simp) (by simp) (by simp) rfl rfl
  rintro i ⟨hi, i0, i1, i2, i3, i4, i5⟩
  refine aRun_sound (ctx := [⟨_, shortS⟩, ⟨_, hexS⟩]) 4000 ?_
  have hcase : i = 0 ∨ i = 1 ∨ i = 2 ∨ i = 3 ∨ i = 4 ∨ i = 5 ∨ i = 6 := by omega
  rcases hcase with rfl | rfl | rfl | rfl | rfl | rfl | rfl
  · have e1 : shortL 0 = 48 := rfl
    simp only [go_sem, Nat.reduceOr, Nat.reducePow, Nat.reduceDiv, Nat.reduceMod, Nat.reduceBEq, Int.reduceBEq, Int.reduceBNe, Int.reduceEq, Int.reduceLT, Int.reduceLE, Int.reduceToNat, reduceIte, reduceCtorEq, Nat.reduceEqDiff, Nat.reduceAdd, Nat.reduceLT, Nat.reduceLeDiff, Nat.reduceMul, Nat.reduceSub, bytesK, encByte]
    refine sw_draw (ctx := [⟨_, shortS⟩]) mixed [] (by kernel_rfl) ?_
    by_cases hc : (48 : Int) = byteAt s 0
    · have e : escO (toBytes s) = .tup [.l (.v (.int .u8 0)), .l (.v (.int .i64 1))] := by unfold escO escL; rw [if_neg hz, ← hb0, ← hc]; rfl
      simp only [go_sem, Nat.reduceOr, Nat.reducePow, Nat.reduceDiv, Nat.reduceMod, Nat.reduceBEq, Int.reduceBEq, Int.reduceBNe, Int.reduceEq, Int.reduceLT, Int.reduceLE, Int.reduceToNat, reduceIte, reduceCtorEq, Nat.reduceEqDiff, Nat.reduceAdd, Nat.reduceLT, Nat.reduceLeDiff, Nat.reduceMul, Nat.reduceSub, bytesK, encByte, short_run, short_pan, e1, hpI, eq_true hc, e]
    · have ei : IntKind.i64.wrap (0 + 1) = 1 := by rfl
      simp only [go_sem, Nat.reduceOr, Nat.reducePow, Nat.reduceDiv, Nat.reduceMod, Nat.reduceBEq, Int.reduceBEq, Int.reduceBNe, Int.reduceEq, Int.reduceLT, Int.reduceLE, Int.reduceToNat, reduceIte, reduceCtorEq, Nat.reduceEqDiff, Nat.reduceAdd, Nat.reduceLT, Nat.reduceLeDiff, Nat.reduceMul, Nat.reduceSub, bytesK, encByte, short_run, short_pan, e1, hpI, hc, ei]
      exact ⟨1, ⟨by omega, fun _ => hc, fun h => absurd h (by omega), fun h => absurd h (by omega), fun h => absurd h (by omega), fun h => absurd h (by omega), fun h => absurd h (by omega)⟩, by omega, Wk.renL [0] (by simp) (by simp) (by simp) rfl rfl⟩
  · have e1 : shortL 9 = 116 := rfl
    simp only [go_sem, Nat.reduceOr, Nat.reducePow, Nat.reduceDiv, Nat.reduceMod, Nat.reduceBEq, Int.reduceBEq, Int.reduceBNe, Int.reduceEq, Int.reduceLT, Int.reduceLE, Int.reduceToNat, reduceIte, reduceCtorEq, Nat.reduceEqDiff, Nat.reduceAdd, Nat.reduceLT, Nat.reduceLeDiff, Nat.reduceMul, Nat.reduceSub, bytesK, encByte]
    refine sw_draw (ctx := [⟨_, shortS⟩]) mixed [] (by kernel_rfl) ?_
    by_cases hc : (116 : Int) = byteAt s 0
    · have e : escO (toBytes s) = .tup [.l (.v (.int .u8 9)), .l (.v (.int .i64 1))] := by unfold escO escL; rw [if_neg hz, ← hb0, ← hc]; rfl
      simp only [go_sem, Nat.reduceOr, Nat.reducePow, Nat.reduceDiv, Nat.reduceMod, Nat.reduceBEq, Int.reduceBEq, Int.reduceBNe, Int.reduceEq, Int.reduceLT, Int.reduceLE, Int.reduceToNat, reduceIte, reduceCtorEq, Nat.reduceEqDiff, Nat.reduceAdd, Nat.reduceLT, Nat.reduceLeDiff, Nat.reduceMul, Nat.reduceSub, bytesK, encByte, short_run, short_pan, e1, hpI, eq_true hc, e]
    · have ei : IntKind.i64.wrap (1 + 1) = 2 := by rfl
      simp only [go_sem, Nat.reduceOr, Nat.reducePow, Nat.reduceDiv, Nat.reduceMod, Nat.reduceBEq, Int.reduceBEq, Int.reduceBNe, Int.reduceEq, Int.reduceLT, Int.reduceLE, Int.reduceToNat, reduceIte, reduceCtorEq, Nat.reduceEqDiff, Nat.reduceAdd, Nat.reduceLT, Nat.reduceLeDiff, Nat.reduceMul, Nat.reduceSub, bytesK, encByte, short_run, short_pan, e1, hpI, hc, ei]
      exact ⟨2, ⟨by omega, fun _ => i0 (by omega), fun _ => hc, fun h => absurd h (by omega), fun h => absurd h (by omega), fun h => absurd h (by omega), fun h => absurd h (by omega)⟩, by omega, Wk.renL [0] (by simp) (by simp) (by simp) rfl rfl⟩
  · have e1 : shortL 10 = 110 := rfl
    simp only [go_sem, Nat.reduceOr, Nat.reducePow, Nat.reduceDiv, Nat.reduceMod, Nat.reduceBEq, Int.reduceBEq, Int.reduceBNe, Int.reduceEq, Int.reduceLT, Int.reduceLE, Int.reduceToNat, reduceIte, reduceCtorEq, Nat.reduceEqDiff, Nat.reduceAdd, Nat.reduceLT, Nat.reduceLeDiff, Nat.reduceMul, Nat.reduceSub, bytesK, encByte]
    refine sw_draw (ctx := [⟨_, shortS⟩]) mixed [] (by kernel_rfl) ?_
    by_cases hc : (110 : Int) = byteAt s 0
    · have e : escO (toBytes s) = .tup [.l (.v (.int .u8 10)), .l (.v (.int .i64 1))] := by unfold escO escL; rw [if_neg hz, ← hb0, ← hc]; rfl
      simp only [go_sem, Nat.reduceOr, Nat.reducePow, Nat.reduceDiv, Nat.reduceMod, Nat.reduceBEq, Int.reduceBEq, Int.reduceBNe, Int.reduceEq, Int.reduceLT, Int.reduceLE, Int.reduceToNat, reduceIte, reduceCtorEq, Nat.reduceEqDiff, Nat.reduceAdd, Nat.reduceLT, Nat.reduceLeDiff, Nat.reduceMul, Nat.reduceSub, bytesK, encByte, short_run, short_pan, e1, hpI, eq_true hc, e]
    · have ei : IntKind.i64.wrap (2 + 1) = 3 := by rfl
      simp only [go_sem, Nat.reduceOr, Nat.reducePow, Nat.reduceDiv, Nat.reduceMod, Nat.reduceBEq, Int.reduceBEq, Int.reduceBNe, Int.reduceEq, Int.reduceLT, Int.reduceLE, Int.reduceToNat, reduceIte, reduceCtorEq, Nat.reduceEqDiff, Nat.reduceAdd, Nat.reduceLT, Nat.reduceLeDiff, Nat.reduceMul, Nat.reduceSub, bytesK, encByte, short_run, short_pan, e1, hpI, hc, ei]
      exact ⟨3, ⟨by omega, fun _ => i0 (by omega), fun _ => i1 (by omega), fun _ => hc, fun h => absurd h (by omega), fun h => absurd h (by omega), fun h => absurd h (by omega)⟩, by omega, Wk.renL [0] (by simp) (by simp) (by simp) rfl rfl⟩
  · have e1 : shortL 13 = 114 := rfl
    simp only [go_sem, Nat.reduceOr, Nat.reducePow, Nat.reduceDiv, Nat.reduceMod, Nat.reduceBEq, Int.reduceBEq, Int.reduceBNe, Int.reduceEq, Int.reduceLT, Int.reduceLE, Int.reduceToNat, reduceIte, reduceCtorEq, Nat.reduceEqDiff, Nat.reduceAdd, Nat.reduceLT, Nat.reduceLeDiff, Nat.reduceMul, Nat.reduceSub, bytesK, encByte]
    refine sw_draw (ctx := [⟨_, shortS⟩]) mixed [] (by kernel_rfl) ?_
    by_cases hc : (114 : Int) = byteAt s 0
    · have e : escO (toBytes s) = .tup [.l (.v (.int .u8 13)), .l (.v (.int .i64 1))] := by unfold escO escL; rw [if_neg hz, ← hb0, ← hc]; rfl
      simp only [go_sem, Nat.reduceOr, Nat.reducePow, Nat.reduceDiv, Nat.reduceMod, Nat.reduceBEq, Int.reduceBEq, Int.reduceBNe, Int.reduceEq, Int.reduceLT, Int.reduceLE, Int.reduceToNat, reduceIte, reduceCtorEq, Nat.reduceEqDiff, Nat.reduceAdd, Nat.reduceLT, Nat.reduceLeDiff, Nat.reduceMul, Nat.reduceSub, bytesK, encByte, short_run, short_pan, e1, hpI, eq_true hc, e]
    · have ei : IntKind.i64.wrap (3 + 1) = 4 := by rfl
      simp only [go_sem, Nat.reduceOr, Nat.reducePow, Nat.reduceDiv, Nat.reduceMod, Nat.reduceBEq, Int.reduceBEq, Int.reduceBNe, Int.reduceEq, Int.reduceLT, Int.reduceLE, Int.reduceToNat, reduceIte, reduceCtorEq, Nat.reduceEqDiff, Nat.reduceAdd, Nat.reduceLT, Nat.reduceLeDiff, Nat.reduceMul, Nat.reduceSub, bytesK, encByte, short_run, short_pan, e1, hpI, hc, ei]
      exact ⟨4, ⟨by omega, fun _ => i0 (by omega), fun _ => i1 (by omega), fun _ => i2 (by omega), fun _ => hc, fun h => absurd h (by omega), fun h => absurd h (by omega)⟩, by omega, Wk.renL [0] (by simp) (by simp) (by simp) rfl rfl⟩
  · have e1 : shortL 34 = 34 := rfl
    simp only [go_sem, Nat.reduceOr, Nat.reducePow, Nat.reduceDiv, Nat.reduceMod, Nat.reduceBEq, Int.reduceBEq, Int.reduceBNe, Int.reduceEq, Int.reduceLT, Int.reduceLE, Int.reduceToNat, reduceIte, reduceCtorEq, Nat.reduceEqDiff, Nat.reduceAdd, Nat.reduceLT, Nat.reduceLeDiff, Nat.reduceMul, Nat.reduceSub, bytesK, encByte]
    refine sw_draw (ctx := [⟨_, shortS⟩]) mixed [] (by kernel_rfl) ?_
    by_cases hc : (34 : Int) = byteAt s 0
    · have e : escO (toBytes s) = .tup [.l (.v (.int .u8 34)), .l (.v (.int .i64 1))] := by unfold escO escL; rw [if_neg hz, ← hb0, ← hc]; rfl
      simp only [go_sem, Nat.reduceOr, Nat.reducePow, Nat.reduceDiv, Nat.reduceMod, Nat.reduceBEq, Int.reduceBEq, Int.reduceBNe, Int.reduceEq, Int.reduceLT, Int.reduceLE, Int.reduceToNat, reduceIte, reduceCtorEq, Nat.reduceEqDiff, Nat.reduceAdd, Nat.reduceLT, Nat.reduceLeDiff, Nat.reduceMul, Nat.reduceSub, bytesK, encByte, short_run, short_pan, e1, hpI, eq_true hc, e]
    · have ei : IntKind.i64.wrap (4 + 1) = 5 := by rfl
      simp only [go_sem, Nat.reduceOr, Nat.reducePow, Nat.reduceDiv, Nat.reduceMod, Nat.reduceBEq, Int.reduceBEq, Int.reduceBNe, Int.reduceEq, Int.reduceLT, Int.reduceLE, Int.reduceToNat, reduceIte, reduceCtorEq, Nat.reduceEqDiff, Nat.reduceAdd, Nat.reduceLT, Nat.reduceLeDiff, Nat.reduceMul, Nat.reduceSub, bytesK, encByte, short_run, short_pan, e1, hpI, hc, ei]
      exact ⟨5, ⟨by omega, fun _ => i0 (by omega), fun _ => i1 (by omega), fun _ => i2 (by omega), fun _ => i3 (by omega), fun _ => hc, fun h => absurd h (by omega)⟩, by omega, Wk.renL [0] (by simp) (by simp) (by simp) rfl rfl⟩
  · have e1 : shortL 92 = 92 := rfl
    simp only [go_sem, Nat.reduceOr, Nat.reducePow, Nat.reduceDiv, Nat.reduceMod, Nat.reduceBEq, Int.reduceBEq, Int.reduceBNe, Int.reduceEq, Int.reduceLT, Int.reduceLE, Int.reduceToNat, reduceIte, reduceCtorEq, Nat.reduceEqDiff, Nat.reduceAdd, Nat.reduceLT, Nat.reduceLeDiff, Nat.reduceMul, Nat.reduceSub, bytesK, encByte]
    refine sw_draw (ctx := [⟨_, shortS⟩]) mixed [] (by kernel_rfl) ?_
    by_cases hc : (92 : Int) = byteAt s 0
    · have e : escO (toBytes s) = .tup [.l (.v (.int .u8 92)), .l (.v (.int .i64 1))] := by unfold escO escL; rw [if_neg hz, ← hb0, ← hc]; rfl
      simp only [go_sem, Nat.reduceOr, Nat.reducePow, Nat.reduceDiv, Nat.reduceMod, Nat.reduceBEq, Int.reduceBEq, Int.reduceBNe, Int.reduceEq, Int.reduceLT, Int.reduceLE, Int.reduceToNat, reduceIte, reduceCtorEq, Nat.reduceEqDiff, Nat.reduceAdd, Nat.reduceLT, Nat.reduceLeDiff, Nat.reduceMul, Nat.reduceSub, bytesK, encByte, short_run, short_pan, e1, hpI, eq_true hc, e]
    · have ei : IntKind.i64.wrap (5 + 1) = 6 := by rfl
      simp only [go_sem, Nat.reduceOr, Nat.reducePow, Nat.reduceDiv, Nat.reduceMod, Nat.reduceBEq, Int.reduceBEq, Int.reduceBNe, Int.reduceEq, Int.reduceLT, Int.reduceLE, Int.reduceToNat, reduceIte, reduceCtorEq, Nat.reduceEqDiff, Nat.reduceAdd, Nat.reduceLT, Nat.reduceLeDiff, Nat.reduceMul, Nat.reduceSub, bytesK, encByte, short_run, short_pan, e1, hpI, hc, ei]
      exact ⟨6, ⟨by omega, fun _ => i0 (by omega), fun _ => i1 (by omega), fun _ => i2 (by omega), fun _ => i3 (by omega), fun _ => i4 (by omega), fun _ => hc⟩, by omega, Wk.renL [0] (by simp) (by simp) (by simp) rfl rfl⟩
  · have hL : longL (bAt (toBytes s) 0) = none := by
      rw [← hb0]
      have a0 := i0 (by omega)
      have a1 := i1 (by omega)
      have a2 := i2 (by omega)
      have a3 := i3 (by omega)
      have a4 := i4 (by omega)
      have a5 := i5 (by omega)
      unfold longL
      rw [if_neg (by omega), if_neg (by omega), if_neg (by omega), if_neg (by omega), if_neg (by omega)]
    have hF : escL (toBytes s) = if 2 < (toBytes s).length ∧ bAt (toBytes s) 0 = 120 ∧ hexB (bAt (toBytes s) 1) < 16 ∧ hexB (bAt (toBytes s) 2) < 16 then some (16 * hexB (bAt (toBytes s) 1) + hexB (bAt (toBytes s) 2), 3) else none := by
      unfold escL
      rw [if_neg hz, hL]
    by_cases c1 : s.size < 3
    · have c1I : (s.size : Int) < 3 := by omega
      have e : escO (toBytes s) = .tup [.l (.v (.int .u8 0)), .l (.v (.int .i64 0))] := by unfold escO; rw [hF, if_neg (by omega)]
      simp only [go_sem, Nat.reduceOr, Nat.reducePow, Nat.reduceDiv, Nat.reduceMod, Nat.reduceBEq, Int.reduceBEq, Int.reduceBNe, Int.reduceEq, Int.reduceLT, Int.reduceLE, Int.reduceToNat, reduceIte, reduceCtorEq, Nat.reduceEqDiff, Nat.reduceAdd, Nat.reduceLT, Nat.reduceLeDiff, Nat.reduceMul, Nat.reduceSub, bytesK, encByte, c1I, e]
    have c1I : ¬ (s.size : Int) < 3 := by omega
    have p1 : (1 : Int) < s.size := by omega
    have p2 : (2 : Int) < s.size := by omega
    have hr1 := byteAt_range s 1
    have hr2 := byteAt_range s 2
    by_cases c2 : byteAt s 0 = 120
    case neg =>
      have e : escO (toBytes s) = .tup [.l (.v (.int .u8 0)), .l (.v (.int .i64 0))] := by unfold escO; rw [hF, if_neg (by omega)]
      simp only [go_sem, Nat.reduceOr, Nat.reducePow, Nat.reduceDiv, Nat.reduceMod, Nat.reduceBEq, Int.reduceBEq, Int.reduceBNe, Int.reduceEq, Int.reduceLT, Int.reduceLE, Int.reduceToNat, reduceIte, reduceCtorEq, Nat.reduceEqDiff, Nat.reduceAdd, Nat.reduceLT, Nat.reduceLeDiff, Nat.reduceMul, Nat.reduceSub, bytesK, encByte, c1I, hpI, c2, e]
    by_cases c3 : hexB (byteAt s 1) > 15
    · have c3' : (15 : Int) < hexB (byteAt s 1) := by omega
      have e : escO (toBytes s) = .tup [.l (.v (.int .u8 0)), .l (.v (.int .i64 0))] := by unfold escO; rw [hF, if_neg (by rw [← hb1]; omega)]
      simp only [go_sem, Nat.reduceOr, Nat.reducePow, Nat.reduceDiv, Nat.reduceMod, Nat.reduceBEq, Int.reduceBEq, Int.reduceBNe, Int.reduceEq, Int.reduceLT, Int.reduceLE, Int.reduceToNat, reduceIte, reduceCtorEq, Nat.reduceEqDiff, Nat.reduceAdd, Nat.reduceLT, Nat.reduceLeDiff, Nat.reduceMul, Nat.reduceSub, bytesK, encByte, c1I, hpI, p1, c2, c3', hex_run, hex_pan, hr1, e]
    have c3' : ¬ (15 : Int) < hexB (byteAt s 1) := by omega
    by_cases c4 : hexB (byteAt s 2) > 15
    · have c4' : (15 : Int) < hexB (byteAt s 2) := by omega
      have e : escO (toBytes s) = .tup [.l (.v (.int .u8 0)), .l (.v (.int .i64 0))] := by unfold escO; rw [hF, if_neg (by rw [← hb2]; omega)]
      simp only [go_sem, Nat.reduceOr, Nat.reducePow, Nat.reduceDiv, Nat.reduceMod, Nat.reduceBEq, Int.reduceBEq, Int.reduceBNe, Int.reduceEq, Int.reduceLT, Int.reduceLE, Int.reduceToNat, reduceIte, reduceCtorEq, Nat.reduceEqDiff, Nat.reduceAdd, Nat.reduceLT, Nat.reduceLeDiff, Nat.reduceMul, Nat.reduceSub, bytesK, encByte, c1I, hpI, p1, p2, c2, c3', c4', hex_run, hex_pan, hr1, hr2, e]
    have c4' : ¬ (15 : Int) < hexB (byteAt s 2) := by omega
    have q1 := hexB_range (byteAt s 1)
    have q2 := hexB_range (byteAt s 2)
    have e : escO (toBytes s) = .tup [.l (.v (.int .u8 (16 * hexB (byteAt s 1) + hexB (byteAt s 2)))), .l (.v (.int .i64 3))] := by
      unfold escO
      rw [hF, if_pos (by rw [← hb0, ← hb1, ← hb2]; omega), hb1, hb2]
      rfl
    have g1 : IntKind.i64.wrap (hexB (byteAt s 1) * 2 ^ min 4 IntKind.i64.bits) = hexB (byteAt s 1) * 16 := by
      rw [show (2 : Int) ^ min 4 IntKind.i64.bits = 16 from rfl, IntKind.wrap_i64]; omega
    have g1' : IntKind.i64.wrap (hexB (byteAt s 1) * 2 ^ min 4 64) = hexB (byteAt s 1) * 16 := g1
    have g2 : bits .or .i64 (hexB (byteAt s 1) * 16) (hexB (byteAt s 2)) = 16 * hexB (byteAt s 1) + hexB (byteAt s 2) := by
      have := orAt (hexB (byteAt s 1)).toNat (by omega) (hexB (byteAt s 2)).toNat (by omega)
      rwa [Int.toNat_of_nonneg q1.1, Int.toNat_of_nonneg q2.1] at this
    have g3 : IntKind.u8.wrap (16 * hexB (byteAt s 1) + hexB (byteAt s 2)) = 16 * hexB (byteAt s 1) + hexB (byteAt s 2) := by
      rw [IntKind.wrap_u8]; omega
    simp only [go_sem, Nat.reduceOr, Nat.reducePow, Nat.reduceDiv, Nat.reduceMod, Nat.reduceBEq, Int.reduceBEq, Int.reduceBNe, Int.reduceEq, Int.reduceLT, Int.reduceLE, Int.reduceToNat, reduceIte, reduceCtorEq, Nat.reduceEqDiff, Nat.reduceAdd, Nat.reduceLT, Nat.reduceLeDiff, Nat.reduceMul, Nat.reduceSub, bytesK, encByte, c1I, hpI, p1, p2, c2, c3', c4', hex_run, hex_pan, hr1, hr2]
    refine sw_draw (ctx := [⟨_, hexS⟩]) mixed [] (by kernel_rfl) ?_
    simp only [go_sem, Nat.reduceOr, Nat.reducePow, Nat.reduceDiv, Nat.reduceMod, Nat.reduceBEq, Int.reduceBEq, Int.reduceBNe, Int.reduceEq, Int.reduceLT, Int.reduceLE, Int.reduceToNat, reduceIte, reduceCtorEq, Nat.reduceEqDiff, Nat.reduceAdd, Nat.reduceLT, Nat.reduceLeDiff, Nat.reduceMul, Nat.reduceSub, p1, p2, hex_run, hex_pan, hr1, hr2, g1, g1', g2, g3, e]

theorem en_esc (args : Array Value) (w : World) : (callFunc 84 args).run Tryd.prog w = .ok (.enter 84 args) w := by go_simp
def escS : Spec Tryd.prog 84 :=
  mk1 _ _ _ Tryd.func84 rfl en_esc (tStr) ((fun _ => True)) ((fun s => .ret (escO (toBytes s)))) (by rw [Tryd.ntmps84]; decide) (fun s _ => escaped_sw s)
theorem esc_run {id : Nat} {h : Heap} {args : List AV} : (escS).run id h args = runP (args1 (tStr) ((fun _ => True))) ((fun s => .ret (escO (toBytes s)))) h args := rfl
theorem esc_pan {id : Nat} {h : Heap} {args : List AV} : (escS).pan id h args = panP (args1 (tStr) ((fun _ => True))) ((fun s => .ret (escO (toBytes s)))) h args := rfl

end Go.Proofs.YtcdbldakjepjiaaDoor
