/- Lines, the reference: texts of tokens. -/
import Derived.Test.YtcdbldakjepjiaaDoorWs
import Derived.Test.YtcdbldakjepjiaaDoorLF
import Derived.Test.YtcdbldakjepjiaaDoorLI
import Derived.Test.YtcdbldakjepjiaaDoorLA
set_option linter.unusedVariables false
set_option linter.unusedSimpArgs false
namespace Go.Proofs.YtcdbldakjepjiaaDoor
open Go.RowKit
set_option maxRecDepth 100000

/-! ### Quotes -/
theorem en_rshort (args : Array Value) (w : World) : (callFunc 54 args).run Tryd.prog w = .ok (.enter 54 args) w := by go_simp
def rshortS : Spec Tryd.prog 54 :=
  mk1 _ _ _ Tryd.func54 rfl en_rshort (tInt .u8) ((fun _ => True)) ((fun c => .ret (.s (.l (.v (.int .u8 (shortL c))))))) (by rw [Tryd.ntmps54]; decide) (fun c _ => by
  refine aRun_sound (ctx := []) 4000 ?_
  rw [Tryd.ntmps54, Tryd.results54]
  simp only [Tryd.f54, Option.getD_some, zipT]
  by_cases h0 : c = 0
  · subst h0; simp only [go_sem, Nat.reduceOr, Nat.reducePow, Nat.reduceDiv, Nat.reduceMod, Nat.reduceBEq, Int.reduceBEq, Int.reduceBNe, Int.reduceEq, Int.reduceLT, Int.reduceLE, Int.reduceToNat, reduceIte, reduceCtorEq, Nat.reduceEqDiff, Nat.reduceAdd, Nat.reduceLT, Nat.reduceLeDiff, Nat.reduceMul, Nat.reduceSub, shortL]
  by_cases h1 : c = 9
  · subst h1; simp only [go_sem, Nat.reduceOr, Nat.reducePow, Nat.reduceDiv, Nat.reduceMod, Nat.reduceBEq, Int.reduceBEq, Int.reduceBNe, Int.reduceEq, Int.reduceLT, Int.reduceLE, Int.reduceToNat, reduceIte, reduceCtorEq, Nat.reduceEqDiff, Nat.reduceAdd, Nat.reduceLT, Nat.reduceLeDiff, Nat.reduceMul, Nat.reduceSub, shortL]
  by_cases h2 : c = 10
  · subst h2; simp only [go_sem, Nat.reduceOr, Nat.reducePow, Nat.reduceDiv, Nat.reduceMod, Nat.reduceBEq, Int.reduceBEq, Int.reduceBNe, Int.reduceEq, Int.reduceLT, Int.reduceLE, Int.reduceToNat, reduceIte, reduceCtorEq, Nat.reduceEqDiff, Nat.reduceAdd, Nat.reduceLT, Nat.reduceLeDiff, Nat.reduceMul, Nat.reduceSub, shortL]
  by_cases h3 : c = 13
  · subst h3; simp only [go_sem, Nat.reduceOr, Nat.reducePow, Nat.reduceDiv, Nat.reduceMod, Nat.reduceBEq, Int.reduceBEq, Int.reduceBNe, Int.reduceEq, Int.reduceLT, Int.reduceLE, Int.reduceToNat, reduceIte, reduceCtorEq, Nat.reduceEqDiff, Nat.reduceAdd, Nat.reduceLT, Nat.reduceLeDiff, Nat.reduceMul, Nat.reduceSub, shortL]
  by_cases h4 : c = 34
  · subst h4; simp only [go_sem, Nat.reduceOr, Nat.reducePow, Nat.reduceDiv, Nat.reduceMod, Nat.reduceBEq, Int.reduceBEq, Int.reduceBNe, Int.reduceEq, Int.reduceLT, Int.reduceLE, Int.reduceToNat, reduceIte, reduceCtorEq, Nat.reduceEqDiff, Nat.reduceAdd, Nat.reduceLT, Nat.reduceLeDiff, Nat.reduceMul, Nat.reduceSub, shortL]
  by_cases h5 : c = 92
  · subst h5; simp only [go_sem, Nat.reduceOr, Nat.reducePow, Nat.reduceDiv, Nat.reduceMod, Nat.reduceBEq, Int.reduceBEq, Int.reduceBNe, Int.reduceEq, Int.reduceLT, Int.reduceLE, Int.reduceToNat, reduceIte, reduceCtorEq, Nat.reduceEqDiff, Nat.reduceAdd, Nat.reduceLT, Nat.reduceLeDiff, Nat.reduceMul, Nat.reduceSub, shortL]
  have e : shortL c = 0 := by unfold shortL; simp only [h0, h1, h2, h3, h4, h5, or_self, if_false]
  simp only [go_sem, Nat.reduceOr, Nat.reducePow, Nat.reduceDiv, Nat.reduceMod, Nat.reduceBEq, Int.reduceBEq, Int.reduceBNe, Int.reduceEq, Int.reduceLT, Int.reduceLE, Int.reduceToNat, reduceIte, reduceCtorEq, Nat.reduceEqDiff, Nat.reduceAdd, Nat.reduceLT, Nat.reduceLeDiff, Nat.reduceMul, Nat.reduceSub, h0, h1, h2, h3, h4, h5, e])
theorem rshort_run {id : Nat} {h : Heap} {args : List AV} : (rshortS).run id h args = runP (args1 (tInt .u8) ((fun _ => True))) ((fun c => .ret (.s (.l (.v (.int .u8 (shortL c))))))) h args := rfl
theorem rshort_pan {id : Nat} {h : Heap} {args : List AV} : (rshortS).pan id h args = panP (args1 (tInt .u8) ((fun _ => True))) ((fun c => .ret (.s (.l (.v (.int .u8 (shortL c))))))) h args := rfl

set_option maxHeartbeats 2000000 in
theorem rquote_sw (s : ByteArray) (hs : s.size ≤ 1000000) : SW Tryd.prog ⟨none, 0⟩ Tryd.f26.ntmps (Tryd.f26.body.getD .skip) ⟨0, zipT 0 [tStr.enc s], []⟩ (outQ Tryd.prog Tryd.f26.results.toList (.ret (sv (ofBytes (quoteL (toBytes s)))))) := by
  refine aRun_sound (ctx := [⟨_, rshortS⟩]) 4000 ?_
  rw [Tryd.ntmps26, Tryd.results26]
  simp only [Tryd.f26, Option.getD_some, zipT]
  simp only [go_sem, Nat.reduceOr, Nat.reducePow, Nat.reduceDiv, Nat.reduceMod, Nat.reduceBEq, Int.reduceBEq, Int.reduceBNe, Int.reduceEq, Int.reduceLT, Int.reduceLE, Int.reduceToNat, reduceIte, reduceCtorEq, Nat.reduceEqDiff, Nat.reduceAdd, Nat.reduceLT, Nat.reduceLeDiff, Nat.reduceMul, Nat.reduceSub]
  refine sw_loop (ι := Nat × List Int) (fun p => p.1 ≤ s.size ∧ p.2 = 34 :: quoteB ((toBytes s).take p.1)) (fun p => ⟨1, [(0, sv s), (3, .s (.l (.sl 0 0 p.2.length))), (4, iv p.1)], [(0, some (bytesK p.2))]⟩) (fun p => s.size - p.1) (0, [34]) ⟨Nat.zero_le _, rfl⟩ (Wk.renL [16] (by simp) (by simp) (by simp) rfl rfl) ?_
  rintro ⟨i, l⟩ ⟨hi, hl⟩
  simp only at hi hl
  refine aRun_sound (ctx := [⟨_, rshortS⟩]) 4000 ?_
  have hlen : l.length ≤ 4 * i + 1 := by
    have := quoteB_len ((toBytes s).take i)
    rw [List.length_take] at this
    rw [hl, List.length_cons]
    omega
  have hm1 : l.length + 1 ≤ maxLen := by unfold maxLen; omega
  have hm2 : l.length + 2 ≤ maxLen := by unfold maxLen; omega
  have hm4 : l.length + 4 ≤ maxLen := by unfold maxLen; omega
  have hb1 : (l.length + 1) * 1 ≤ 140737488355328 := by omega
  have hb2 : (l.length + 2) * 1 ≤ 140737488355328 := by omega
  have hb4 : (l.length + 4) * 1 ≤ 140737488355328 := by omega
  by_cases hlt : i < s.size
  · have hltI : (i : Int) < s.size := by omega
    have hr := byteAt_range s i
    have hq := quoteB_more hlt
    have ei : IntKind.i64.wrap ((i : Int) + 1) = ((i + 1 : Nat) : Int) := by rw [IntKind.wrap_i64]; omega
    by_cases h1 : shortL (byteAt s i) = 0
    · by_cases h2 : shownB (byteAt s i) = true
      · have e1 : quote1 (byteAt s i) = [byteAt s i] := by unfold quote1; rw [if_neg (by simp [h1]), if_pos h2]
        obtain ⟨g1, g2⟩ : (32 : Int) ≤ byteAt s i ∧ byteAt s i ≤ 126 := of_decide_eq_true h2
        simp only [go_sem, Nat.reduceOr, Nat.reducePow, Nat.reduceDiv, Nat.reduceMod, Nat.reduceBEq, Int.reduceBEq, Int.reduceBNe, Int.reduceEq, Int.reduceLT, Int.reduceLE, Int.reduceToNat, reduceIte, reduceCtorEq, Nat.reduceEqDiff, Nat.reduceAdd, Nat.reduceLT, Nat.reduceLeDiff, Nat.reduceMul, Nat.reduceSub, bytesK, rshort_run, rshort_pan, hltI, h1, g1, g2, hm1, hb1, ei]
        exact ⟨(i + 1, l ++ [byteAt s i]), ⟨hlt, by simp only; rw [hq, e1, hl]; rfl⟩, by simp only; omega, Wk.renL [353] (by simp) (by simp) (by simp) (by simp [tget, AV.ren, SV.ren, LV.ren]) (by simp [hget, Blk.ren, encByte, LV.ren, Function.comp_def])⟩
      · have h2' : ¬ ((32 : Int) ≤ byteAt s i ∧ byteAt s i ≤ 126) := fun h => h2 (decide_eq_true h)
        have e1 : quote1 (byteAt s i) = [92, 120, hexd (byteAt s i / 16), hexd (byteAt s i % 16)] := by unfold quote1; rw [if_neg (by simp [h1]), if_neg h2]
        have e2 : (byteAt s i).tdiv 16 = byteAt s i / 16 := Int.tdiv_eq_ediv_of_nonneg hr.1
        have e3 : (byteAt s i).tmod 16 = byteAt s i % 16 := Int.tmod_eq_emod_of_nonneg hr.1
        have e4 : ∀ z : Int, 0 ≤ z → z < 16 → byteAt ⟨#[48, 49, 50, 51, 52, 53, 54, 55, 56, 57, 97, 98, 99, 100, 101, 102]⟩ z = hexd z := fun z h0 h1 => by
          have := digAt z.toNat (by omega)
          rwa [Int.toNat_of_nonneg h0] at this
        have w2 : IntKind.u8.wrap (byteAt s i / 16) = byteAt s i / 16 := by rw [IntKind.wrap_u8]; omega
        have w3 : IntKind.u8.wrap (byteAt s i % 16) = byteAt s i % 16 := by rw [IntKind.wrap_u8]; omega
        have e5 := e4 (byteAt s i / 16) (by omega) (by omega)
        have e6 := e4 (byteAt s i % 16) (by omega) (by omega)
        by_cases g1 : (32 : Int) ≤ byteAt s i
        · have g2 : ¬ byteAt s i ≤ 126 := fun h => h2' ⟨g1, h⟩
          simp only [go_sem, Nat.reduceOr, Nat.reducePow, Nat.reduceDiv, Nat.reduceMod, Nat.reduceBEq, Int.reduceBEq, Int.reduceBNe, Int.reduceEq, Int.reduceLT, Int.reduceLE, Int.reduceToNat, reduceIte, reduceCtorEq, Nat.reduceEqDiff, Nat.reduceAdd, Nat.reduceLT, Nat.reduceLeDiff, Nat.reduceMul, Nat.reduceSub, bytesK, rshort_run, rshort_pan, hltI, h1, g1, g2]
          refine sw_draw (ctx := []) mixed [8] (by kernel_rfl) ?_
          simp only [go_sem, Nat.reduceOr, Nat.reducePow, Nat.reduceDiv, Nat.reduceMod, Nat.reduceBEq, Int.reduceBEq, Int.reduceBNe, Int.reduceEq, Int.reduceLT, Int.reduceLE, Int.reduceToNat, reduceIte, reduceCtorEq, Nat.reduceEqDiff, Nat.reduceAdd, Nat.reduceLT, Nat.reduceLeDiff, Nat.reduceMul, Nat.reduceSub, bytesK, e2, e3, w2, w3, e5, e6, hm4, hb4, ei]
          exact ⟨⟨by omega, show _ < (16 : Int) by omega⟩, ⟨by omega, show _ < (16 : Int) by omega⟩, (i + 1, l ++ [92, 120, hexd (byteAt s i / 16), hexd (byteAt s i % 16)]), ⟨hlt, by simp only; rw [hq, e1, hl]; rfl⟩, by simp only; omega, Wk.renL [433] (by simp) (by simp) (by simp) (by simp [tget, AV.ren, SV.ren, LV.ren]) (by simp [hget, Blk.ren, encByte, LV.ren, Function.comp_def])⟩
        · simp only [go_sem, Nat.reduceOr, Nat.reducePow, Nat.reduceDiv, Nat.reduceMod, Nat.reduceBEq, Int.reduceBEq, Int.reduceBNe, Int.reduceEq, Int.reduceLT, Int.reduceLE, Int.reduceToNat, reduceIte, reduceCtorEq, Nat.reduceEqDiff, Nat.reduceAdd, Nat.reduceLT, Nat.reduceLeDiff, Nat.reduceMul, Nat.reduceSub, bytesK, rshort_run, rshort_pan, hltI, h1, g1]
          refine sw_draw (ctx := []) mixed [8] (by kernel_rfl) ?_
          simp only [go_sem, Nat.reduceOr, Nat.reducePow, Nat.reduceDiv, Nat.reduceMod, Nat.reduceBEq, Int.reduceBEq, Int.reduceBNe, Int.reduceEq, Int.reduceLT, Int.reduceLE, Int.reduceToNat, reduceIte, reduceCtorEq, Nat.reduceEqDiff, Nat.reduceAdd, Nat.reduceLT, Nat.reduceLeDiff, Nat.reduceMul, Nat.reduceSub, bytesK, e2, e3, w2, w3, e5, e6, hm4, hb4, ei]
          exact ⟨⟨by omega, show _ < (16 : Int) by omega⟩, ⟨by omega, show _ < (16 : Int) by omega⟩, (i + 1, l ++ [92, 120, hexd (byteAt s i / 16), hexd (byteAt s i % 16)]), ⟨hlt, by simp only; rw [hq, e1, hl]; rfl⟩, by simp only; omega, Wk.renL [401] (by simp) (by simp) (by simp) (by simp [tget, AV.ren, SV.ren, LV.ren]) (by simp [hget, Blk.ren, encByte, LV.ren, Function.comp_def])⟩
    · have e1 : quote1 (byteAt s i) = [92, shortL (byteAt s i)] := by unfold quote1; rw [if_pos h1]
      simp only [go_sem, Nat.reduceOr, Nat.reducePow, Nat.reduceDiv, Nat.reduceMod, Nat.reduceBEq, Int.reduceBEq, Int.reduceBNe, Int.reduceEq, Int.reduceLT, Int.reduceLE, Int.reduceToNat, reduceIte, reduceCtorEq, Nat.reduceEqDiff, Nat.reduceAdd, Nat.reduceLT, Nat.reduceLeDiff, Nat.reduceMul, Nat.reduceSub, bytesK, rshort_run, rshort_pan, hltI, h1, hm2, hb2, ei]
      exact ⟨(i + 1, l ++ [92, shortL (byteAt s i)]), ⟨hlt, by simp only; rw [hq, e1, hl]; rfl⟩, by simp only; omega, Wk.renL [257] (by simp) (by simp) (by simp) (by simp [tget, AV.ren, SV.ren, LV.ren]) (by simp [hget, Blk.ren, encByte, LV.ren, Function.comp_def])⟩
  · have hI : ¬ (i : Int) < s.size := by omega
    obtain rfl : i = s.size := by omega
    have ht : (toBytes s).take s.size = toBytes s := List.take_of_length_le (by rw [toBytes_length]; exact Nat.le_refl _)
    have hF : quoteL (toBytes s) = l ++ [34] := by rw [hl, ht]; rfl
    simp only [go_sem, Nat.reduceOr, Nat.reducePow, Nat.reduceDiv, Nat.reduceMod, Nat.reduceBEq, Int.reduceBEq, Int.reduceBNe, Int.reduceEq, Int.reduceLT, Int.reduceLE, Int.reduceToNat, reduceIte, reduceCtorEq, Nat.reduceEqDiff, Nat.reduceAdd, Nat.reduceLT, Nat.reduceLeDiff, Nat.reduceMul, Nat.reduceSub, bytesK, hI, hm1, hb1, snoc1, takeS, decBytes, hF]
    simp
theorem en_rquote (args : Array Value) (w : World) : (callFunc 26 args).run Tryd.prog w = .ok (.enter 26 args) w := by go_simp
def rquoteS : Spec Tryd.prog 26 :=
  mk1 _ _ _ Tryd.func26 rfl en_rquote (tStr) ((fun s => s.size ≤ 1000000)) ((fun s => .ret (sv (ofBytes (quoteL (toBytes s)))))) (by rw [Tryd.ntmps26]; decide) (fun s hs => rquote_sw s hs)
theorem rquote_run {id : Nat} {h : Heap} {args : List AV} : (rquoteS).run id h args = runP (args1 (tStr) ((fun s => s.size ≤ 1000000))) ((fun s => .ret (sv (ofBytes (quoteL (toBytes s)))))) h args := rfl
theorem rquote_pan {id : Nat} {h : Heap} {args : List AV} : (rquoteS).pan id h args = panP (args1 (tStr) ((fun s => s.size ≤ 1000000))) ((fun s => .ret (sv (ofBytes (quoteL (toBytes s)))))) h args := rfl

/-! ### Numbers -/
theorem decF_small {n : Int} (h0 : 0 ≤ n) (h : n < 10) : decF n = ofBytes [48 + n] := by
  unfold decF
  rw [Lib.decDigits_one (by omega)]
  unfold ofBytes
  simp only [List.map_cons, List.map_nil]
  rw [show (48 + n).toNat = 48 + n.toNat by omega]
theorem decF_big {n : Int} (h : 10 ≤ n) : decF n = decF (n / 10) ++ ofBytes [48 + n % 10] := by
  unfold decF
  rw [Lib.decDigits, dif_neg (by omega)]
  have e1 : (n / 10).toNat = n.toNat / 10 := by omega
  have e2 : (48 + n % 10).toNat = 48 + n.toNat % 10 := by omega
  rw [e1]
  unfold ofBytes
  simp only [List.map_cons, List.map_nil, e2]
  refine ByteArray.ext ?_
  simp [ByteArray.append]

theorem decF_size {n : Int} (h0 : 0 ≤ n) (h : n < 18446744073709551616) : (decF n).size ≤ 20 := by
  have e : (decF n).size = (Lib.decDigits n.toNat).length := by simp [decF, ByteArray.size]
  rw [e, Lib.decDigits_length]
  rcases Nat.eq_zero_or_pos n.toNat with h1 | h1
  · rw [h1]; decide +kernel
  · have := Lib.numDigits_eq n.toNat h1 (by omega)
    split at this <;> omega
theorem num_small (n : Int) (h0 : 0 ≤ n) (h1 : n < 10) : SW Tryd.prog ⟨none, 0⟩ Tryd.f51.ntmps (Tryd.f51.body.getD .skip) ⟨0, zipT 0 [(tInt .u64).enc n], []⟩ (outQ Tryd.prog Tryd.f51.results.toList (.ret (sv (decF n)))) := by
  refine aRun_sound (ctx := []) 4000 ?_
  rw [Tryd.ntmps51, Tryd.results51]
  simp only [Tryd.f51, Option.getD_some, zipT]
  have e1 : IntKind.u64.wrap (48 + n) = 48 + n := by rw [IntKind.wrap_u64]; omega
  have e2 : IntKind.u8.wrap (48 + n) = 48 + n := by rw [IntKind.wrap_u8]; omega
  have e := decF_small h0 h1
  have hd : decAll decByte [[LV.v (.int .u8 (48 + n))]] = some [48 + n] := rfl
  simp only [go_sem, Nat.reduceOr, Nat.reducePow, Nat.reduceDiv, Nat.reduceMod, Nat.reduceBEq, Int.reduceBEq, Int.reduceBNe, Int.reduceEq, Int.reduceLT, Int.reduceLE, Int.reduceToNat, reduceIte, reduceCtorEq, Nat.reduceEqDiff, Nat.reduceAdd, Nat.reduceLT, Nat.reduceLeDiff, Nat.reduceMul, Nat.reduceSub, h1, e1, e2, e, hd]
def numQ (N : Nat) (n : Int) : Prop := 0 ≤ n ∧ n < 10 ^ (N + 1) ∧ n < 18446744073709551616
structure NumPart (N : Nat) where
  S : Spec Tryd.prog 51
  run_eq : ∀ {id : Nat} {h : Heap} {args : List AV}, S.run id h args = runP (args1 (tInt .u64) (numQ N)) (fun n => .ret (sv (decF n))) h args
  pan_eq : ∀ {id : Nat} {h : Heap} {args : List AV}, S.pan id h args = panP (args1 (tInt .u64) (numQ N)) (fun n => .ret (sv (decF n))) h args
theorem num_big {N : Nat} (p : NumPart N) (n : Int) (h0 : 10 ≤ n) (h1 : numQ (N + 1) n) : SW Tryd.prog ⟨none, 0⟩ Tryd.f51.ntmps (Tryd.f51.body.getD .skip) ⟨0, zipT 0 [(tInt .u64).enc n], []⟩ (outQ Tryd.prog Tryd.f51.results.toList (.ret (sv (decF n)))) := by
  refine aRun_sound (ctx := [⟨_, p.S⟩]) 4000 ?_
  rw [Tryd.ntmps51, Tryd.results51]
  simp only [Tryd.f51, Option.getD_some, zipT]
  obtain ⟨g0, g1, g2⟩ := h1
  have hn : ¬ n < 10 := by omega
  have d1 : n.tdiv 10 = n / 10 := Int.tdiv_eq_ediv_of_nonneg g0
  have d2 : n.tmod 10 = n % 10 := Int.tmod_eq_emod_of_nonneg g0
  have w1 : IntKind.u64.wrap (n / 10) = n / 10 := by rw [IntKind.wrap_u64]; omega
  have w2 : IntKind.u64.wrap (n % 10) = n % 10 := by rw [IntKind.wrap_u64]; omega
  have e1 : IntKind.u64.wrap (48 + n % 10) = 48 + n % 10 := by rw [IntKind.wrap_u64]; omega
  have e2 : IntKind.u8.wrap (48 + n % 10) = 48 + n % 10 := by rw [IntKind.wrap_u8]; omega
  have e := decF_big h0
  have hd : decAll decByte [[LV.v (.int .u8 (48 + n % 10))]] = some [48 + n % 10] := rfl
  have hsz : (decF (n / 10)).size + (ofBytes [48 + n % 10]).size ≤ maxLen := by
    have := decF_size (n := n / 10) (by omega) (by omega)
    rw [ofBytes_size]
    unfold maxLen
    simp only [List.length_cons, List.length_nil]
    omega
  have hq : numQ N (n / 10) := ⟨by omega, by rw [Int.pow_succ] at g1; omega, by omega⟩
  simp only [go_sem, Nat.reduceOr, Nat.reducePow, Nat.reduceDiv, Nat.reduceMod, Nat.reduceBEq, Int.reduceBEq, Int.reduceBNe, Int.reduceEq, Int.reduceLT, Int.reduceLE, Int.reduceToNat, reduceIte, reduceCtorEq, Nat.reduceEqDiff, Nat.reduceAdd, Nat.reduceLT, Nat.reduceLeDiff, Nat.reduceMul, Nat.reduceSub, hn]
  refine sw_draw (ctx := [⟨_, p.S⟩]) mixed [] (by kernel_rfl) ?_
  simp only [go_sem, Nat.reduceOr, Nat.reducePow, Nat.reduceDiv, Nat.reduceMod, Nat.reduceBEq, Int.reduceBEq, Int.reduceBNe, Int.reduceEq, Int.reduceLT, Int.reduceLE, Int.reduceToNat, reduceIte, reduceCtorEq, Nat.reduceEqDiff, Nat.reduceAdd, Nat.reduceLT, Nat.reduceLeDiff, Nat.reduceMul, Nat.reduceSub, d1, d2, w1, w2, p.run_eq, p.pan_eq, hq, e1, e2, hd, hsz, e]
theorem en_numr (args : Array Value) (w : World) : (callFunc 51 args).run Tryd.prog w = .ok (.enter 51 args) w := by go_simp
def numPart : ∀ N, NumPart N
  | 0 => ⟨mk1 _ _ _ Tryd.func51 rfl en_numr (tInt .u64) (numQ 0) (fun n => .ret (sv (decF n))) (by rw [Tryd.ntmps51]; decide) (fun n h => num_small n h.1 (by have := h.2.1; omega)), rfl, rfl⟩
  | N + 1 => ⟨mk1 _ _ _ Tryd.func51 rfl en_numr (tInt .u64) (numQ (N + 1)) (fun n => .ret (sv (decF n))) (by rw [Tryd.ntmps51]; decide) (fun n h => if h1 : n < 10 then num_small n h.1 h1 else num_big (numPart N) n (by omega) h), rfl, rfl⟩
theorem numQ_of {n : Int} (h0 : 0 ≤ n) (h1 : n < 18446744073709551616) : numQ 19 n := ⟨h0, by omega, h1⟩

/-! ### Which tokens may be -/
set_option maxHeartbeats 4000000 in
theorem rcheck_sw (t : Tok) (hs : t.text.size ≤ maxLen) : SW Tryd.prog ⟨none, 0⟩ Tryd.f22.ntmps (Tryd.f22.body.getD .skip) ⟨0, zipT 0 [(tAgg tokR).enc t], []⟩ (outQ Tryd.prog Tryd.f22.results.toList (.ret (iv (checkT t)))) := by
  refine aRun_sound (ctx := [⟨_, rnameS⟩, ⟨_, rsgnS⟩]) 4000 ?_
  rw [Tryd.ntmps22, Tryd.results22]
  simp only [Tryd.f22, Option.getD_some, zipT]
  obtain ⟨kind, text, n, pos⟩ := t
  simp only at hs
  have hb : ∀ b, isT ⟨kind, text, n, pos⟩ = b → checkT ⟨kind, text, n, pos⟩ = if b = true ∧ 0 ≤ pos ∧ (n = 0 ∨ kind = 2) then 0 else 1 := fun b hb => by unfold checkT; rw [hb]
  have bad : isT ⟨kind, text, n, pos⟩ = false → checkT ⟨kind, text, n, pos⟩ = 1 := fun h => by rw [hb false h, if_neg (by simp)]
  by_cases k1 : kind = 1
  · cases hv : nameL (toBytes text) with
    | true =>
      have hi : isT ⟨kind, text, n, pos⟩ = true := by unfold isT; rw [if_pos k1]; exact hv
      by_cases n0 : n = 0
      · by_cases p0 : pos < 0
        · have e : checkT ⟨kind, text, n, pos⟩ = 1 := by rw [hb true hi, if_neg (by omega)]
          rw [e]
          simp only [go_sem, Nat.reduceOr, Nat.reducePow, Nat.reduceDiv, Nat.reduceMod, Nat.reduceBEq, Int.reduceBEq, Int.reduceBNe, Int.reduceEq, Int.reduceLT, Int.reduceLE, Int.reduceToNat, reduceIte, reduceCtorEq, Nat.reduceEqDiff, Nat.reduceAdd, Nat.reduceLT, Nat.reduceLeDiff, Nat.reduceMul, Nat.reduceSub, tokR, rname_run, rname_pan, hs, k1, hv, p0, n0]
        · have e : checkT ⟨kind, text, n, pos⟩ = 0 := by rw [hb true hi, if_pos ⟨rfl, by omega, .inl n0⟩]
          rw [e]
          simp only [go_sem, Nat.reduceOr, Nat.reducePow, Nat.reduceDiv, Nat.reduceMod, Nat.reduceBEq, Int.reduceBEq, Int.reduceBNe, Int.reduceEq, Int.reduceLT, Int.reduceLE, Int.reduceToNat, reduceIte, reduceCtorEq, Nat.reduceEqDiff, Nat.reduceAdd, Nat.reduceLT, Nat.reduceLeDiff, Nat.reduceMul, Nat.reduceSub, tokR, rname_run, rname_pan, hs, k1, hv, p0, n0]
      · have e : checkT ⟨kind, text, n, pos⟩ = 1 := by rw [hb true hi, if_neg (by omega)]
        rw [e]
        simp only [go_sem, Nat.reduceOr, Nat.reducePow, Nat.reduceDiv, Nat.reduceMod, Nat.reduceBEq, Int.reduceBEq, Int.reduceBNe, Int.reduceEq, Int.reduceLT, Int.reduceLE, Int.reduceToNat, reduceIte, reduceCtorEq, Nat.reduceEqDiff, Nat.reduceAdd, Nat.reduceLT, Nat.reduceLeDiff, Nat.reduceMul, Nat.reduceSub, tokR, rname_run, rname_pan, hs, k1, hv, n0]
    | false =>
      have e := bad (by unfold isT; rw [if_pos k1]; exact hv)
      rw [e]
      simp only [go_sem, Nat.reduceOr, Nat.reducePow, Nat.reduceDiv, Nat.reduceMod, Nat.reduceBEq, Int.reduceBEq, Int.reduceBNe, Int.reduceEq, Int.reduceLT, Int.reduceLE, Int.reduceToNat, reduceIte, reduceCtorEq, Nat.reduceEqDiff, Nat.reduceAdd, Nat.reduceLT, Nat.reduceLeDiff, Nat.reduceMul, Nat.reduceSub, tokR, rname_run, rname_pan, hs, k1, hv]
  by_cases k2 : kind = 2
  · by_cases hv : text = emp
    · have hi : isT ⟨kind, text, n, pos⟩ = true := by unfold isT; rw [if_neg k1, if_pos k2]; exact decide_eq_true hv
      by_cases p0 : pos < 0
      · have e : checkT ⟨kind, text, n, pos⟩ = 1 := by rw [hb true hi, if_neg (by omega)]
        rw [e]
        simp only [go_sem, Nat.reduceOr, Nat.reducePow, Nat.reduceDiv, Nat.reduceMod, Nat.reduceBEq, Int.reduceBEq, Int.reduceBNe, Int.reduceEq, Int.reduceLT, Int.reduceLE, Int.reduceToNat, reduceIte, reduceCtorEq, Nat.reduceEqDiff, Nat.reduceAdd, Nat.reduceLT, Nat.reduceLeDiff, Nat.reduceMul, Nat.reduceSub, tokR, lit_emp, k2, eq_true hv, p0]
      · have e : checkT ⟨kind, text, n, pos⟩ = 0 := by rw [hb true hi, if_pos ⟨rfl, by omega, .inr k2⟩]
        rw [e]
        simp only [go_sem, Nat.reduceOr, Nat.reducePow, Nat.reduceDiv, Nat.reduceMod, Nat.reduceBEq, Int.reduceBEq, Int.reduceBNe, Int.reduceEq, Int.reduceLT, Int.reduceLE, Int.reduceToNat, reduceIte, reduceCtorEq, Nat.reduceEqDiff, Nat.reduceAdd, Nat.reduceLT, Nat.reduceLeDiff, Nat.reduceMul, Nat.reduceSub, tokR, lit_emp, k2, eq_true hv, p0]
    · have e := bad (by unfold isT; rw [if_neg k1, if_pos k2]; exact decide_eq_false hv)
      rw [e]
      simp only [go_sem, Nat.reduceOr, Nat.reducePow, Nat.reduceDiv, Nat.reduceMod, Nat.reduceBEq, Int.reduceBEq, Int.reduceBNe, Int.reduceEq, Int.reduceLT, Int.reduceLE, Int.reduceToNat, reduceIte, reduceCtorEq, Nat.reduceEqDiff, Nat.reduceAdd, Nat.reduceLT, Nat.reduceLeDiff, Nat.reduceMul, Nat.reduceSub, tokR, lit_emp, k2, hv]
  by_cases k3 : kind = 3
  · by_cases hv : text.size ≤ 512
    · have hi : isT ⟨kind, text, n, pos⟩ = true := by unfold isT; rw [if_neg k1, if_neg k2, if_pos k3]; exact decide_eq_true hv
      have hvI : (text.size : Int) ≤ 512 := by omega
      by_cases n0 : n = 0
      · by_cases p0 : pos < 0
        · have e : checkT ⟨kind, text, n, pos⟩ = 1 := by rw [hb true hi, if_neg (by omega)]
          rw [e]
          simp only [go_sem, Nat.reduceOr, Nat.reducePow, Nat.reduceDiv, Nat.reduceMod, Nat.reduceBEq, Int.reduceBEq, Int.reduceBNe, Int.reduceEq, Int.reduceLT, Int.reduceLE, Int.reduceToNat, reduceIte, reduceCtorEq, Nat.reduceEqDiff, Nat.reduceAdd, Nat.reduceLT, Nat.reduceLeDiff, Nat.reduceMul, Nat.reduceSub, tokR, k3, hvI, p0, n0]
        · have e : checkT ⟨kind, text, n, pos⟩ = 0 := by rw [hb true hi, if_pos ⟨rfl, by omega, .inl n0⟩]
          rw [e]
          simp only [go_sem, Nat.reduceOr, Nat.reducePow, Nat.reduceDiv, Nat.reduceMod, Nat.reduceBEq, Int.reduceBEq, Int.reduceBNe, Int.reduceEq, Int.reduceLT, Int.reduceLE, Int.reduceToNat, reduceIte, reduceCtorEq, Nat.reduceEqDiff, Nat.reduceAdd, Nat.reduceLT, Nat.reduceLeDiff, Nat.reduceMul, Nat.reduceSub, tokR, k3, hvI, p0, n0]
      · have e : checkT ⟨kind, text, n, pos⟩ = 1 := by rw [hb true hi, if_neg (by omega)]
        rw [e]
        simp only [go_sem, Nat.reduceOr, Nat.reducePow, Nat.reduceDiv, Nat.reduceMod, Nat.reduceBEq, Int.reduceBEq, Int.reduceBNe, Int.reduceEq, Int.reduceLT, Int.reduceLE, Int.reduceToNat, reduceIte, reduceCtorEq, Nat.reduceEqDiff, Nat.reduceAdd, Nat.reduceLT, Nat.reduceLeDiff, Nat.reduceMul, Nat.reduceSub, tokR, k3, hvI, n0]
    · have e := bad (by unfold isT; rw [if_neg k1, if_neg k2, if_pos k3]; exact decide_eq_false hv)
      have hvI : ¬ (text.size : Int) ≤ 512 := by omega
      rw [e]
      simp only [go_sem, Nat.reduceOr, Nat.reducePow, Nat.reduceDiv, Nat.reduceMod, Nat.reduceBEq, Int.reduceBEq, Int.reduceBNe, Int.reduceEq, Int.reduceLT, Int.reduceLE, Int.reduceToNat, reduceIte, reduceCtorEq, Nat.reduceEqDiff, Nat.reduceAdd, Nat.reduceLT, Nat.reduceLeDiff, Nat.reduceMul, Nat.reduceSub, tokR, k3, hvI]
  by_cases k4 : kind = 4
  · by_cases hv0 : 0 < text.size
    · have hv0I : (0 : Int) < text.size := by omega
      by_cases hv : signL (toBytes text) = text.size
      · have hi : isT ⟨kind, text, n, pos⟩ = true := by unfold isT; rw [if_neg k1, if_neg k2, if_neg k3, if_pos k4]; exact decide_eq_true ⟨hv0, hv⟩
        have hvI : (signL (toBytes text) : Int) = text.size := by omega
        have hss : ((text.size : Int) == (text.size : Int)) = true := beq_self_eq_true _
        by_cases n0 : n = 0
        · by_cases p0 : pos < 0
          · have e : checkT ⟨kind, text, n, pos⟩ = 1 := by rw [hb true hi, if_neg (by omega)]
            rw [e]
            simp only [go_sem, Nat.reduceOr, Nat.reducePow, Nat.reduceDiv, Nat.reduceMod, Nat.reduceBEq, Int.reduceBEq, Int.reduceBNe, Int.reduceEq, Int.reduceLT, Int.reduceLE, Int.reduceToNat, reduceIte, reduceCtorEq, Nat.reduceEqDiff, Nat.reduceAdd, Nat.reduceLT, Nat.reduceLeDiff, Nat.reduceMul, Nat.reduceSub, tokR, k4]
            refine sw_draw (ctx := [⟨_, rsgnS⟩]) mixed [] (by kernel_rfl) ?_
            simp only [go_sem, Nat.reduceOr, Nat.reducePow, Nat.reduceDiv, Nat.reduceMod, Nat.reduceBEq, Int.reduceBEq, Int.reduceBNe, Int.reduceEq, Int.reduceLT, Int.reduceLE, Int.reduceToNat, reduceIte, reduceCtorEq, Nat.reduceEqDiff, Nat.reduceAdd, Nat.reduceLT, Nat.reduceLeDiff, Nat.reduceMul, Nat.reduceSub, tokR, rsgn_run, rsgn_pan, k4, hv0I, hvI, hss, p0, n0]
          · have e : checkT ⟨kind, text, n, pos⟩ = 0 := by rw [hb true hi, if_pos ⟨rfl, by omega, .inl n0⟩]
            rw [e]
            simp only [go_sem, Nat.reduceOr, Nat.reducePow, Nat.reduceDiv, Nat.reduceMod, Nat.reduceBEq, Int.reduceBEq, Int.reduceBNe, Int.reduceEq, Int.reduceLT, Int.reduceLE, Int.reduceToNat, reduceIte, reduceCtorEq, Nat.reduceEqDiff, Nat.reduceAdd, Nat.reduceLT, Nat.reduceLeDiff, Nat.reduceMul, Nat.reduceSub, tokR, k4]
            refine sw_draw (ctx := [⟨_, rsgnS⟩]) mixed [] (by kernel_rfl) ?_
            simp only [go_sem, Nat.reduceOr, Nat.reducePow, Nat.reduceDiv, Nat.reduceMod, Nat.reduceBEq, Int.reduceBEq, Int.reduceBNe, Int.reduceEq, Int.reduceLT, Int.reduceLE, Int.reduceToNat, reduceIte, reduceCtorEq, Nat.reduceEqDiff, Nat.reduceAdd, Nat.reduceLT, Nat.reduceLeDiff, Nat.reduceMul, Nat.reduceSub, tokR, rsgn_run, rsgn_pan, k4, hv0I, hvI, hss, p0, n0]
        · have e : checkT ⟨kind, text, n, pos⟩ = 1 := by rw [hb true hi, if_neg (by omega)]
          rw [e]
          simp only [go_sem, Nat.reduceOr, Nat.reducePow, Nat.reduceDiv, Nat.reduceMod, Nat.reduceBEq, Int.reduceBEq, Int.reduceBNe, Int.reduceEq, Int.reduceLT, Int.reduceLE, Int.reduceToNat, reduceIte, reduceCtorEq, Nat.reduceEqDiff, Nat.reduceAdd, Nat.reduceLT, Nat.reduceLeDiff, Nat.reduceMul, Nat.reduceSub, tokR, k4]
          refine sw_draw (ctx := [⟨_, rsgnS⟩]) mixed [] (by kernel_rfl) ?_
          simp only [go_sem, Nat.reduceOr, Nat.reducePow, Nat.reduceDiv, Nat.reduceMod, Nat.reduceBEq, Int.reduceBEq, Int.reduceBNe, Int.reduceEq, Int.reduceLT, Int.reduceLE, Int.reduceToNat, reduceIte, reduceCtorEq, Nat.reduceEqDiff, Nat.reduceAdd, Nat.reduceLT, Nat.reduceLeDiff, Nat.reduceMul, Nat.reduceSub, tokR, rsgn_run, rsgn_pan, k4, hv0I, hvI, hss, n0]
      · have e := bad (by unfold isT; rw [if_neg k1, if_neg k2, if_neg k3, if_pos k4]; exact decide_eq_false (fun h => hv h.2))
        have hss : ((signL (toBytes text) : Int) == (text.size : Int)) = false := beq_false_of_ne (by omega)
        rw [e]
        simp only [go_sem, Nat.reduceOr, Nat.reducePow, Nat.reduceDiv, Nat.reduceMod, Nat.reduceBEq, Int.reduceBEq, Int.reduceBNe, Int.reduceEq, Int.reduceLT, Int.reduceLE, Int.reduceToNat, reduceIte, reduceCtorEq, Nat.reduceEqDiff, Nat.reduceAdd, Nat.reduceLT, Nat.reduceLeDiff, Nat.reduceMul, Nat.reduceSub, tokR, k4]
        refine sw_draw (ctx := [⟨_, rsgnS⟩]) mixed [] (by kernel_rfl) ?_
        simp only [go_sem, Nat.reduceOr, Nat.reducePow, Nat.reduceDiv, Nat.reduceMod, Nat.reduceBEq, Int.reduceBEq, Int.reduceBNe, Int.reduceEq, Int.reduceLT, Int.reduceLE, Int.reduceToNat, reduceIte, reduceCtorEq, Nat.reduceEqDiff, Nat.reduceAdd, Nat.reduceLT, Nat.reduceLeDiff, Nat.reduceMul, Nat.reduceSub, tokR, rsgn_run, rsgn_pan, k4, hv0I, hss]
    · have e := bad (by unfold isT; rw [if_neg k1, if_neg k2, if_neg k3, if_pos k4]; exact decide_eq_false (fun h => hv0 h.1))
      have hv0I : ¬ (0 : Int) < text.size := by omega
      rw [e]
      simp only [go_sem, Nat.reduceOr, Nat.reducePow, Nat.reduceDiv, Nat.reduceMod, Nat.reduceBEq, Int.reduceBEq, Int.reduceBNe, Int.reduceEq, Int.reduceLT, Int.reduceLE, Int.reduceToNat, reduceIte, reduceCtorEq, Nat.reduceEqDiff, Nat.reduceAdd, Nat.reduceLT, Nat.reduceLeDiff, Nat.reduceMul, Nat.reduceSub, tokR, k4]
      refine sw_draw (ctx := [⟨_, rsgnS⟩]) mixed [] (by kernel_rfl) ?_
      simp only [go_sem, Nat.reduceOr, Nat.reducePow, Nat.reduceDiv, Nat.reduceMod, Nat.reduceBEq, Int.reduceBEq, Int.reduceBNe, Int.reduceEq, Int.reduceLT, Int.reduceLE, Int.reduceToNat, reduceIte, reduceCtorEq, Nat.reduceEqDiff, Nat.reduceAdd, Nat.reduceLT, Nat.reduceLeDiff, Nat.reduceMul, Nat.reduceSub, tokR, k4, hv0I]
  have e := bad (by unfold isT; rw [if_neg k1, if_neg k2, if_neg k3, if_neg k4])
  rw [e]
  simp only [go_sem, Nat.reduceOr, Nat.reducePow, Nat.reduceDiv, Nat.reduceMod, Nat.reduceBEq, Int.reduceBEq, Int.reduceBNe, Int.reduceEq, Int.reduceLT, Int.reduceLE, Int.reduceToNat, reduceIte, reduceCtorEq, Nat.reduceEqDiff, Nat.reduceAdd, Nat.reduceLT, Nat.reduceLeDiff, Nat.reduceMul, Nat.reduceSub, tokR, k1, k2, k3, k4]
theorem en_rcheck (args : Array Value) (w : World) : (callFunc 22 args).run Tryd.prog w = .ok (.enter 22 args) w := by go_simp
def rcheckS : Spec Tryd.prog 22 :=
  mk1 _ _ _ Tryd.func22 rfl en_rcheck (tAgg tokR) ((fun t => t.text.size ≤ maxLen)) ((fun t => .ret (iv (checkT t)))) (by rw [Tryd.ntmps22]; decide) (fun t h => rcheck_sw t h)
theorem rcheck_run {id : Nat} {h : Heap} {args : List AV} : (rcheckS).run id h args = runP (args1 (tAgg tokR) ((fun t => t.text.size ≤ maxLen))) ((fun t => .ret (iv (checkT t)))) h args := rfl
theorem rcheck_pan {id : Nat} {h : Heap} {args : List AV} : (rcheckS).pan id h args = panP (args1 (tAgg tokR) ((fun t => t.text.size ≤ maxLen))) ((fun t => .ret (iv (checkT t)))) h args := rfl

end Go.Proofs.YtcdbldakjepjiaaDoor
