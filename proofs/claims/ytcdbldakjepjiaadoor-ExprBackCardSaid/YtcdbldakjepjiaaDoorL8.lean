/- Lines: a token is read. -/
import Derived.Test.YtcdbldakjepjiaaDoorWs
import Derived.Test.YtcdbldakjepjiaaDoorL7
set_option linter.unusedVariables false
set_option linter.unusedSimpArgs false
namespace Go.Proofs.YtcdbldakjepjiaaDoor
open Go.RowKit
set_option maxRecDepth 100000

def tokR : RowTy Tok where
  dec := fun | [.v (.int .i64 k), .v (.string s), .v (.int .u64 n), .v (.int .i64 p)] => some ⟨k, s, n, p⟩ | _ => none
  enc := fun t => [.v (.int .i64 t.kind), .v (.string t.text), .v (.int .u64 t.n), .v (.int .i64 t.pos)]
  inv := by
    intro c x h
    split at h
    · injection h with h; subst h; rfl
    · cases h
  back := by intro x; rfl
theorem tokE (t : Tok) : tokR.enc t = [.v (.int .i64 t.kind), .v (.string t.text), .v (.int .u64 t.n), .v (.int .i64 t.pos)] := rfl
def tokV (t : Tok) : SV := .agg [.v (.int .i64 t.kind), .v (.string t.text), .v (.int .u64 t.n), .v (.int .i64 t.pos)]
def readO (t : Tok) (n : Int) : AV := .tup [tokV t, .l (.v (.int .i64 n))]

theorem en_rdName (args : Array Value) (w : World) : (callFunc 100 args).run Tryd.prog w = .ok (.enter 100 args) w := by go_simp
def rdNameS : Spec Tryd.prog 100 :=
  mk1 _ _ _ Tryd.func100 rfl en_rdName (tStr) ((fun s => s.size ≤ 1099511627776)) ((fun s => .ret (readO ⟨1, ofBytes ((toBytes s).take (runL wordyB (toBytes s))), 0, 0⟩ (runL wordyB (toBytes s))))) (by rw [Tryd.ntmps100]; decide) (fun s hs => by
  refine aRun_sound (ctx := [⟨_, runS⟩]) 4000 ?_
  rw [Tryd.ntmps100, Tryd.results100]
  simp only [Tryd.f100, Option.getD_some, zipT]
  have hm : s.size ≤ maxLen := by unfold maxLen; omega
  have hle : runL wordyB (toBytes s) ≤ (toBytes s).length := runL_le _ _
  rw [toBytes_length] at hle
  have hleI : (runL wordyB (toBytes s) : Int) ≤ s.size := by omega
  simp only [go_sem, Nat.reduceOr, Nat.reducePow, Nat.reduceDiv, Nat.reduceMod, Nat.reduceBEq, Int.reduceBEq, Int.reduceBNe, Int.reduceEq, Int.reduceLT, Int.reduceLE, Int.reduceToNat, reduceIte, reduceCtorEq, Nat.reduceEqDiff, Nat.reduceAdd, Nat.reduceLT, Nat.reduceLeDiff, Nat.reduceMul, Nat.reduceSub, run_run, run_pan, isOf, hm, hleI, readO, tokV, ← extract_take, Int.toNat_zero])
theorem rdName_run {id : Nat} {h : Heap} {args : List AV} : (rdNameS).run id h args = runP (args1 (tStr) ((fun s => s.size ≤ 1099511627776))) ((fun s => .ret (readO ⟨1, ofBytes ((toBytes s).take (runL wordyB (toBytes s))), 0, 0⟩ (runL wordyB (toBytes s))))) h args := rfl
theorem rdName_pan {id : Nat} {h : Heap} {args : List AV} : (rdNameS).pan id h args = panP (args1 (tStr) ((fun s => s.size ≤ 1099511627776))) ((fun s => .ret (readO ⟨1, ofBytes ((toBytes s).take (runL wordyB (toBytes s))), 0, 0⟩ (runL wordyB (toBytes s))))) h args := rfl

theorem en_rdSign (args : Array Value) (w : World) : (callFunc 99 args).run Tryd.prog w = .ok (.enter 99 args) w := by go_simp
def rdSignS : Spec Tryd.prog 99 :=
  mk1 _ _ _ Tryd.func99 rfl en_rdSign (tStr) ((fun _ => True)) ((fun s => .ret (readO ⟨4, ofBytes ((toBytes s).take (signL (toBytes s))), 0, 0⟩ (signL (toBytes s))))) (by rw [Tryd.ntmps99]; decide) (fun s hs => by
  refine aRun_sound (ctx := [⟨_, sgnS⟩]) 4000 ?_
  rw [Tryd.ntmps99, Tryd.results99]
  simp only [Tryd.f99, Option.getD_some, zipT]
  have hle := signL_le (toBytes s)
  rw [toBytes_length] at hle
  have hleI : (signL (toBytes s) : Int) ≤ s.size := by omega
  simp only [go_sem, Nat.reduceOr, Nat.reducePow, Nat.reduceDiv, Nat.reduceMod, Nat.reduceBEq, Int.reduceBEq, Int.reduceBNe, Int.reduceEq, Int.reduceLT, Int.reduceLE, Int.reduceToNat, reduceIte, reduceCtorEq, Nat.reduceEqDiff, Nat.reduceAdd, Nat.reduceLT, Nat.reduceLeDiff, Nat.reduceMul, Nat.reduceSub, sgn_run, sgn_pan, hleI, readO, tokV, ← extract_take, Int.toNat_zero])
theorem rdSign_run {id : Nat} {h : Heap} {args : List AV} : (rdSignS).run id h args = runP (args1 (tStr) ((fun _ => True))) ((fun s => .ret (readO ⟨4, ofBytes ((toBytes s).take (signL (toBytes s))), 0, 0⟩ (signL (toBytes s))))) h args := rfl
theorem rdSign_pan {id : Nat} {h : Heap} {args : List AV} : (rdSignS).pan id h args = panP (args1 (tStr) ((fun _ => True))) ((fun s => .ret (readO ⟨4, ofBytes ((toBytes s).take (signL (toBytes s))), 0, 0⟩ (signL (toBytes s))))) h args := rfl

theorem en_rdQuotes (args : Array Value) (w : World) : (callFunc 102 args).run Tryd.prog w = .ok (.enter 102 args) w := by go_simp
def rdQuotesS : Spec Tryd.prog 102 :=
  mk1 _ _ _ Tryd.func102 rfl en_rdQuotes (tStr) ((fun s => s.size ≤ 1099511627776)) ((fun s => .ret (readO ⟨3, ofBytes (quotesF (toBytes s)).1, 0, 0⟩ (quotesF (toBytes s)).2))) (by rw [Tryd.ntmps102]; decide) (fun s hs => by
  refine aRun_sound (ctx := [⟨_, quotesS⟩]) 4000 ?_
  rw [Tryd.ntmps102, Tryd.results102]
  simp only [Tryd.f102, Option.getD_some, zipT]
  simp only [go_sem, Nat.reduceOr, Nat.reducePow, Nat.reduceDiv, Nat.reduceMod, Nat.reduceBEq, Int.reduceBEq, Int.reduceBNe, Int.reduceEq, Int.reduceLT, Int.reduceLE, Int.reduceToNat, reduceIte, reduceCtorEq, Nat.reduceEqDiff, Nat.reduceAdd, Nat.reduceLT, Nat.reduceLeDiff, Nat.reduceMul, Nat.reduceSub, quotes_run, quotes_pan, quotO, hs, readO, tokV, lit_emp])
theorem rdQuotes_run {id : Nat} {h : Heap} {args : List AV} : (rdQuotesS).run id h args = runP (args1 (tStr) ((fun s => s.size ≤ 1099511627776))) ((fun s => .ret (readO ⟨3, ofBytes (quotesF (toBytes s)).1, 0, 0⟩ (quotesF (toBytes s)).2))) h args := rfl
theorem rdQuotes_pan {id : Nat} {h : Heap} {args : List AV} : (rdQuotesS).pan id h args = panP (args1 (tStr) ((fun s => s.size ≤ 1099511627776))) ((fun s => .ret (readO ⟨3, ofBytes (quotesF (toBytes s)).1, 0, 0⟩ (quotesF (toBytes s)).2))) h args := rfl

def numN (l : List Int) : Int := if (numberL l).2 < l.length ∧ wordyB (bAt l (numberL l).2) = true then 0 else (numberL l).2
theorem en_rdNum (args : Array Value) (w : World) : (callFunc 101 args).run Tryd.prog w = .ok (.enter 101 args) w := by go_simp
def rdNumS : Spec Tryd.prog 101 :=
  mk1 _ _ _ Tryd.func101 rfl en_rdNum (tStr) ((fun s => 0 < s.size ∧ s.size ≤ 1099511627776)) ((fun s => .ret (readO ⟨2, emp, (numberL (toBytes s)).1, 0⟩ (numN (toBytes s))))) (by rw [Tryd.ntmps101]; decide) (fun s hs => by
  refine aRun_sound (ctx := [⟨_, numS⟩, ⟨_, wordyS⟩]) 4000 ?_
  rw [Tryd.ntmps101, Tryd.results101]
  simp only [Tryd.f101, Option.getD_some, zipT]
  have hl : (toBytes s).length = s.size := toBytes_length s
  have hbb := byteAt_bAt s (numberL (toBytes s)).2
  by_cases h1 : (numberL (toBytes s)).2 < s.size
  · have h1I : ((numberL (toBytes s)).2 : Int) < s.size := by omega
    cases h2 : wordyB (byteAt s (numberL (toBytes s)).2) with
    | true =>
      have e : numN (toBytes s) = 0 := by unfold numN; rw [hl, ← hbb, if_pos ⟨h1, h2⟩]
      simp only [go_sem, Nat.reduceOr, Nat.reducePow, Nat.reduceDiv, Nat.reduceMod, Nat.reduceBEq, Int.reduceBEq, Int.reduceBNe, Int.reduceEq, Int.reduceLT, Int.reduceLE, Int.reduceToNat, reduceIte, reduceCtorEq, Nat.reduceEqDiff, Nat.reduceAdd, Nat.reduceLT, Nat.reduceLeDiff, Nat.reduceMul, Nat.reduceSub, num_run, num_pan, wordy_run, wordy_pan, numO, hs, h1I, h2, readO, tokV, e, lit_emp]
    | false =>
      have e : numN (toBytes s) = (numberL (toBytes s)).2 := by unfold numN; rw [hl, ← hbb, h2, if_neg (by simp)]
      simp only [go_sem, Nat.reduceOr, Nat.reducePow, Nat.reduceDiv, Nat.reduceMod, Nat.reduceBEq, Int.reduceBEq, Int.reduceBNe, Int.reduceEq, Int.reduceLT, Int.reduceLE, Int.reduceToNat, reduceIte, reduceCtorEq, Nat.reduceEqDiff, Nat.reduceAdd, Nat.reduceLT, Nat.reduceLeDiff, Nat.reduceMul, Nat.reduceSub, num_run, num_pan, wordy_run, wordy_pan, numO, hs, h1I, h2, readO, tokV, e, lit_emp]
  · have h1I : ¬ ((numberL (toBytes s)).2 : Int) < s.size := by omega
    have e : numN (toBytes s) = (numberL (toBytes s)).2 := by unfold numN; rw [hl, if_neg (by omega)]
    simp only [go_sem, Nat.reduceOr, Nat.reducePow, Nat.reduceDiv, Nat.reduceMod, Nat.reduceBEq, Int.reduceBEq, Int.reduceBNe, Int.reduceEq, Int.reduceLT, Int.reduceLE, Int.reduceToNat, reduceIte, reduceCtorEq, Nat.reduceEqDiff, Nat.reduceAdd, Nat.reduceLT, Nat.reduceLeDiff, Nat.reduceMul, Nat.reduceSub, num_run, num_pan, wordy_run, wordy_pan, numO, hs, h1I, readO, tokV, e, lit_emp])
theorem rdNum_run {id : Nat} {h : Heap} {args : List AV} : (rdNumS).run id h args = runP (args1 (tStr) ((fun s => 0 < s.size ∧ s.size ≤ 1099511627776))) ((fun s => .ret (readO ⟨2, emp, (numberL (toBytes s)).1, 0⟩ (numN (toBytes s))))) h args := rfl
theorem rdNum_pan {id : Nat} {h : Heap} {args : List AV} : (rdNumS).pan id h args = panP (args1 (tStr) ((fun s => 0 < s.size ∧ s.size ≤ 1099511627776))) ((fun s => .ret (readO ⟨2, emp, (numberL (toBytes s)).1, 0⟩ (numN (toBytes s))))) h args := rfl

def oneO (r : Except Int (Tok × Nat)) : AV := match r with
  | .ok p => .tup [tokV p.1, .l (.v (.int .i64 p.2)), .l (.v (.int .i64 0))]
  | .error e => .tup [tokV ⟨0, emp, 0, 0⟩, .l (.v (.int .i64 0)), .l (.v (.int .i64 e))]

set_option maxRecDepth 100000 in
set_option maxHeartbeats 4000000 in
theorem one_sw (s : ByteArray) (h0 : 0 < s.size) (hs : s.size ≤ 1099511627776) : SW Tryd.prog ⟨none, 0⟩ Tryd.f79.ntmps (Tryd.f79.body.getD .skip) ⟨0, zipT 0 [tStr.enc s], []⟩ (outQ Tryd.prog Tryd.f79.results.toList (.ret (oneO (oneL (toBytes s))))) := by
  refine aRun_sound (ctx := [⟨_, letterS⟩, ⟨_, digitS⟩, ⟨_, rdNameS⟩, ⟨_, rdSignS⟩, ⟨_, rdQuotesS⟩, ⟨_, rdNumS⟩]) 4000 ?_
  rw [Tryd.ntmps79, Tryd.results79]
  simp only [Tryd.f79, Option.getD_some, zipT]
  have hl : (toBytes s).length = s.size := toBytes_length s
  have hpI : (0 : Int) < s.size := by omega
  have hb0 := byteAt_bAt0 s
  by_cases c1 : letterB (byteAt s 0) = true
  · have e : oneL (toBytes s) = .ok (⟨1, ofBytes ((toBytes s).take (runL wordyB (toBytes s))), 0, 0⟩, runL wordyB (toBytes s)) := by unfold oneL; rw [if_pos (by rw [← hb0]; exact c1)]
    have hn := oneL_le (by omega) e
    have hn0 : ¬ (runL wordyB (toBytes s) : Int) = 0 := by omega
    simp only [go_sem, Nat.reduceOr, Nat.reducePow, Nat.reduceDiv, Nat.reduceMod, Nat.reduceBEq, Int.reduceBEq, Int.reduceBNe, Int.reduceEq, Int.reduceLT, Int.reduceLE, Int.reduceToNat, reduceIte, reduceCtorEq, Nat.reduceEqDiff, Nat.reduceAdd, Nat.reduceLT, Nat.reduceLeDiff, Nat.reduceMul, Nat.reduceSub, letter_run, letter_pan, hpI, c1, rdName_run, rdName_pan, hs, readO, tokV, hn0, e, oneO]
  have k1 : letterB (byteAt s 0) = false := by simpa using c1
  by_cases c2 : digitB (byteAt s 0) = true ∨ byteAt s 0 = 39
  · have hO : oneL (toBytes s) = if (numberL (toBytes s)).2 = 0 ∨ (numberL (toBytes s)).2 < (toBytes s).length ∧ wordyB (bAt (toBytes s) (numberL (toBytes s)).2) = true then .error 81 else .ok (⟨2, emp, (numberL (toBytes s)).1, 0⟩, (numberL (toBytes s)).2) := by
      unfold oneL; rw [if_neg (by rw [← hb0]; exact c1), if_pos (by rw [← hb0]; exact c2)]
    have hz : numN (toBytes s) = 0 ↔ (numberL (toBytes s)).2 = 0 ∨ (numberL (toBytes s)).2 < (toBytes s).length ∧ wordyB (bAt (toBytes s) (numberL (toBytes s)).2) = true := by
      unfold numN; split
      · rename_i h; exact ⟨fun _ => .inr h, fun _ => rfl⟩
      · rename_i h; exact ⟨fun e => .inl (by omega), fun e => e.elim (fun e => by omega) fun e => absurd e h⟩
    by_cases hn : numN (toBytes s) = 0
    · have e : oneL (toBytes s) = .error 81 := by rw [hO, if_pos (hz.1 hn)]
      cases k2 : digitB (byteAt s 0) with
      | true =>
        simp only [go_sem, Nat.reduceOr, Nat.reducePow, Nat.reduceDiv, Nat.reduceMod, Nat.reduceBEq, Int.reduceBEq, Int.reduceBNe, Int.reduceEq, Int.reduceLT, Int.reduceLE, Int.reduceToNat, reduceIte, reduceCtorEq, Nat.reduceEqDiff, Nat.reduceAdd, Nat.reduceLT, Nat.reduceLeDiff, Nat.reduceMul, Nat.reduceSub, letter_run, letter_pan, digit_run, digit_pan, hpI, k1, k2, rdNum_run, rdNum_pan, h0, hs, readO, tokV, hn, e, oneO]
        refine sw_drawF (ctx := []) mixed ⟨[], [(3, [0])], [(1, [0]), (2, [0])]⟩ (by kernel_rfl) ?_
        simp only [go_sem, Nat.reduceOr, Nat.reducePow, Nat.reduceDiv, Nat.reduceMod, Nat.reduceBEq, Int.reduceBEq, Int.reduceBNe, Int.reduceEq, Int.reduceLT, Int.reduceLE, Int.reduceToNat, reduceIte, reduceCtorEq, Nat.reduceEqDiff, Nat.reduceAdd, Nat.reduceLT, Nat.reduceLeDiff, Nat.reduceMul, Nat.reduceSub, e, oneO, tokV, lit_emp]
      | false =>
        have k3 : byteAt s 0 = 39 := c2.resolve_left (by rw [k2]; simp)
        simp only [go_sem, Nat.reduceOr, Nat.reducePow, Nat.reduceDiv, Nat.reduceMod, Nat.reduceBEq, Int.reduceBEq, Int.reduceBNe, Int.reduceEq, Int.reduceLT, Int.reduceLE, Int.reduceToNat, reduceIte, reduceCtorEq, Nat.reduceEqDiff, Nat.reduceAdd, Nat.reduceLT, Nat.reduceLeDiff, Nat.reduceMul, Nat.reduceSub, letter_run, letter_pan, digit_run, digit_pan, hpI, k1, k2, k3, show letterB 39 = false from rfl, show digitB 39 = false from rfl, rdNum_run, rdNum_pan, h0, hs, readO, tokV, hn, e, oneO]
        refine sw_drawF (ctx := []) mixed ⟨[], [(3, [0])], [(1, [0]), (2, [0])]⟩ (by kernel_rfl) ?_
        simp only [go_sem, Nat.reduceOr, Nat.reducePow, Nat.reduceDiv, Nat.reduceMod, Nat.reduceBEq, Int.reduceBEq, Int.reduceBNe, Int.reduceEq, Int.reduceLT, Int.reduceLE, Int.reduceToNat, reduceIte, reduceCtorEq, Nat.reduceEqDiff, Nat.reduceAdd, Nat.reduceLT, Nat.reduceLeDiff, Nat.reduceMul, Nat.reduceSub, e, oneO, tokV, lit_emp]
    · have e : oneL (toBytes s) = .ok (⟨2, emp, (numberL (toBytes s)).1, 0⟩, (numberL (toBytes s)).2) := by rw [hO, if_neg (fun h => hn (hz.2 h))]
      have e4 : numN (toBytes s) = (numberL (toBytes s)).2 := by
        unfold numN; rw [if_neg (fun h => hn (hz.2 (.inr h)))]
      rw [e4] at hn
      cases k2 : digitB (byteAt s 0) with
      | true => simp only [go_sem, Nat.reduceOr, Nat.reducePow, Nat.reduceDiv, Nat.reduceMod, Nat.reduceBEq, Int.reduceBEq, Int.reduceBNe, Int.reduceEq, Int.reduceLT, Int.reduceLE, Int.reduceToNat, reduceIte, reduceCtorEq, Nat.reduceEqDiff, Nat.reduceAdd, Nat.reduceLT, Nat.reduceLeDiff, Nat.reduceMul, Nat.reduceSub, letter_run, letter_pan, digit_run, digit_pan, hpI, k1, k2, rdNum_run, rdNum_pan, h0, hs, readO, tokV, hn, e4, e, oneO]
      | false =>
        have k3 : byteAt s 0 = 39 := c2.resolve_left (by rw [k2]; simp)
        simp only [go_sem, Nat.reduceOr, Nat.reducePow, Nat.reduceDiv, Nat.reduceMod, Nat.reduceBEq, Int.reduceBEq, Int.reduceBNe, Int.reduceEq, Int.reduceLT, Int.reduceLE, Int.reduceToNat, reduceIte, reduceCtorEq, Nat.reduceEqDiff, Nat.reduceAdd, Nat.reduceLT, Nat.reduceLeDiff, Nat.reduceMul, Nat.reduceSub, letter_run, letter_pan, digit_run, digit_pan, hpI, k1, k2, k3, show letterB 39 = false from rfl, show digitB 39 = false from rfl, rdNum_run, rdNum_pan, h0, hs, readO, tokV, hn, e4, e, oneO]
  have k2 : digitB (byteAt s 0) = false := by simpa using fun h => c2 (.inl h)
  have k3 : ¬ byteAt s 0 = 39 := fun h => c2 (.inr h)
  by_cases c3 : byteAt s 0 = 34
  · have hO : oneL (toBytes s) = if (quotesF (toBytes s)).2 = 0 then .error 82 else .ok (⟨3, ofBytes (quotesF (toBytes s)).1, 0, 0⟩, (quotesF (toBytes s)).2) := by
      unfold oneL; rw [if_neg (by rw [← hb0]; exact c1), if_neg (by rw [← hb0]; exact c2), if_pos (by rw [← hb0]; exact c3)]
    by_cases hn : (quotesF (toBytes s)).2 = 0
    · have e : oneL (toBytes s) = .error 82 := by rw [hO, if_pos hn]
      have hnI : ((quotesF (toBytes s)).2 : Int) = 0 := by omega
      simp only [go_sem, Nat.reduceOr, Nat.reducePow, Nat.reduceDiv, Nat.reduceMod, Nat.reduceBEq, Int.reduceBEq, Int.reduceBNe, Int.reduceEq, Int.reduceLT, Int.reduceLE, Int.reduceToNat, reduceIte, reduceCtorEq, Nat.reduceEqDiff, Nat.reduceAdd, Nat.reduceLT, Nat.reduceLeDiff, Nat.reduceMul, Nat.reduceSub, letter_run, letter_pan, digit_run, digit_pan, hpI, k1, k2, k3, c3, show letterB 34 = false from rfl, show digitB 34 = false from rfl, rdQuotes_run, rdQuotes_pan, hs, readO, tokV, hnI, e, oneO]
      refine sw_drawF (ctx := []) mixed ⟨[], [(3, [0])], [(1, [0]), (2, [0])]⟩ (by kernel_rfl) ?_
      simp only [go_sem, Nat.reduceOr, Nat.reducePow, Nat.reduceDiv, Nat.reduceMod, Nat.reduceBEq, Int.reduceBEq, Int.reduceBNe, Int.reduceEq, Int.reduceLT, Int.reduceLE, Int.reduceToNat, reduceIte, reduceCtorEq, Nat.reduceEqDiff, Nat.reduceAdd, Nat.reduceLT, Nat.reduceLeDiff, Nat.reduceMul, Nat.reduceSub, e, oneO, tokV, lit_emp]
    · have e : oneL (toBytes s) = .ok (⟨3, ofBytes (quotesF (toBytes s)).1, 0, 0⟩, (quotesF (toBytes s)).2) := by rw [hO, if_neg hn]
      have hnI : ¬ ((quotesF (toBytes s)).2 : Int) = 0 := by omega
      simp only [go_sem, Nat.reduceOr, Nat.reducePow, Nat.reduceDiv, Nat.reduceMod, Nat.reduceBEq, Int.reduceBEq, Int.reduceBNe, Int.reduceEq, Int.reduceLT, Int.reduceLE, Int.reduceToNat, reduceIte, reduceCtorEq, Nat.reduceEqDiff, Nat.reduceAdd, Nat.reduceLT, Nat.reduceLeDiff, Nat.reduceMul, Nat.reduceSub, letter_run, letter_pan, digit_run, digit_pan, hpI, k1, k2, k3, c3, show letterB 34 = false from rfl, show digitB 34 = false from rfl, rdQuotes_run, rdQuotes_pan, hs, readO, tokV, hnI, e, oneO]
  · have hO : oneL (toBytes s) = if signL (toBytes s) = 0 then .error 80 else .ok (⟨4, ofBytes ((toBytes s).take (signL (toBytes s))), 0, 0⟩, signL (toBytes s)) := by
      unfold oneL; rw [if_neg (by rw [← hb0]; exact c1), if_neg (by rw [← hb0]; exact c2), if_neg (by rw [← hb0]; exact c3)]
    by_cases hn : signL (toBytes s) = 0
    · have e : oneL (toBytes s) = .error 80 := by rw [hO, if_pos hn]
      have hnI : (signL (toBytes s) : Int) = 0 := by omega
      simp only [go_sem, Nat.reduceOr, Nat.reducePow, Nat.reduceDiv, Nat.reduceMod, Nat.reduceBEq, Int.reduceBEq, Int.reduceBNe, Int.reduceEq, Int.reduceLT, Int.reduceLE, Int.reduceToNat, reduceIte, reduceCtorEq, Nat.reduceEqDiff, Nat.reduceAdd, Nat.reduceLT, Nat.reduceLeDiff, Nat.reduceMul, Nat.reduceSub, letter_run, letter_pan, digit_run, digit_pan, hpI, k1, k2, k3, c3, rdSign_run, rdSign_pan, readO, tokV, hnI, e, oneO]
      refine sw_drawF (ctx := []) mixed ⟨[], [(3, [0])], [(1, [0]), (2, [0])]⟩ (by kernel_rfl) ?_
      simp only [go_sem, Nat.reduceOr, Nat.reducePow, Nat.reduceDiv, Nat.reduceMod, Nat.reduceBEq, Int.reduceBEq, Int.reduceBNe, Int.reduceEq, Int.reduceLT, Int.reduceLE, Int.reduceToNat, reduceIte, reduceCtorEq, Nat.reduceEqDiff, Nat.reduceAdd, Nat.reduceLT, Nat.reduceLeDiff, Nat.reduceMul, Nat.reduceSub, e, oneO, tokV, lit_emp]
    · have e : oneL (toBytes s) = .ok (⟨4, ofBytes ((toBytes s).take (signL (toBytes s))), 0, 0⟩, signL (toBytes s)) := by rw [hO, if_neg hn]
      have hnI : ¬ (signL (toBytes s) : Int) = 0 := by omega
      simp only [go_sem, Nat.reduceOr, Nat.reducePow, Nat.reduceDiv, Nat.reduceMod, Nat.reduceBEq, Int.reduceBEq, Int.reduceBNe, Int.reduceEq, Int.reduceLT, Int.reduceLE, Int.reduceToNat, reduceIte, reduceCtorEq, Nat.reduceEqDiff, Nat.reduceAdd, Nat.reduceLT, Nat.reduceLeDiff, Nat.reduceMul, Nat.reduceSub, letter_run, letter_pan, digit_run, digit_pan, hpI, k1, k2, k3, c3, rdSign_run, rdSign_pan, readO, tokV, hnI, e, oneO]

theorem en_one (args : Array Value) (w : World) : (callFunc 79 args).run Tryd.prog w = .ok (.enter 79 args) w := by go_simp
def oneS : Spec Tryd.prog 79 :=
  mk1 _ _ _ Tryd.func79 rfl en_one (tStr) ((fun s => 0 < s.size ∧ s.size ≤ 1099511627776)) ((fun s => .ret (oneO (oneL (toBytes s))))) (by rw [Tryd.ntmps79]; decide) (fun s h => one_sw s h.1 h.2)
theorem one_run {id : Nat} {h : Heap} {args : List AV} : (oneS).run id h args = runP (args1 (tStr) ((fun s => 0 < s.size ∧ s.size ≤ 1099511627776))) ((fun s => .ret (oneO (oneL (toBytes s))))) h args := rfl
theorem one_pan {id : Nat} {h : Heap} {args : List AV} : (oneS).pan id h args = panP (args1 (tStr) ((fun s => 0 < s.size ∧ s.size ≤ 1099511627776))) ((fun s => .ret (oneO (oneL (toBytes s))))) h args := rfl

end Go.Proofs.YtcdbldakjepjiaaDoor
