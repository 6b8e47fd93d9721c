/- Lines: Lex; which tokens may be; tokens held against each other. -/
import Derived.Test.YtcdbldakjepjiaaDoorWs
import Derived.Test.YtcdbldakjepjiaaDoorL9
import Derived.Test.YtcdbldakjepjiaaDoorC0
set_option linter.unusedVariables false
set_option linter.unusedSimpArgs false
namespace Go.Proofs.YtcdbldakjepjiaaDoor
open Go.RowKit
set_option maxRecDepth 100000

/-! ### Lex -/
def lexO (r : List Tok × Nat × Int) : AV := if r.2.2 = 0 then .tup [toksV r.1, .l (.v (.int .i64 r.2.1)), .l (.v (.int .i64 0))] else .tup [nilSV, .l (.v (.int .i64 r.2.1)), .l (.v (.int .i64 r.2.2))]
theorem lexF_lines (l : List Int) : lexO (lexF l) = lexO (linesF l) := by
  unfold lexF
  split
  · rfl
  · rename_i h
    unfold lexO
    rw [if_neg h, if_neg h]
theorem en_lex (args : Array Value) (w : World) : (callFunc 11 args).run Tryd.prog w = .ok (.enter 11 args) w := by go_simp
def lexS : Spec Tryd.prog 11 :=
  mk1 _ _ _ Tryd.func11 rfl en_lex (tStr) ((fun _ => True)) ((fun s => .ret (lexO (linesF (toBytes s))))) (by rw [Tryd.ntmps11]; decide) (fun s _ => by
  refine aRun_sound (ctx := [⟨_, tokensS⟩]) 4000 ?_
  rw [Tryd.ntmps11, Tryd.results11]
  simp only [Tryd.f11, Option.getD_some, zipT]
  by_cases h0 : (linesF (toBytes s)).2.2 = 0
  · have hl : longL512 (toBytes s) = false := by
      unfold longL512
      refine decide_eq_false fun h => ?_
      unfold linesF at h0
      rw [if_pos h] at h0
      cases h0
    simp only [go_sem, Nat.reduceOr, Nat.reducePow, Nat.reduceDiv, Nat.reduceMod, Nat.reduceBEq, Int.reduceBEq, Int.reduceBNe, Int.reduceEq, Int.reduceLT, Int.reduceLE, Int.reduceToNat, reduceIte, reduceCtorEq, Nat.reduceEqDiff, Nat.reduceAdd, Nat.reduceLT, Nat.reduceLeDiff, Nat.reduceMul, Nat.reduceSub, tokens_run, tokens_pan, tokensO, toksV, lexO, h0, hl]
  · cases hl : longL512 (toBytes s) <;> simp only [go_sem, Nat.reduceOr, Nat.reducePow, Nat.reduceDiv, Nat.reduceMod, Nat.reduceBEq, Int.reduceBEq, Int.reduceBNe, Int.reduceEq, Int.reduceLT, Int.reduceLE, Int.reduceToNat, reduceIte, reduceCtorEq, Nat.reduceEqDiff, Nat.reduceAdd, Nat.reduceLT, Nat.reduceLeDiff, Nat.reduceMul, Nat.reduceSub, tokens_run, tokens_pan, tokensO, toksV, nilSV, lexO, h0, hl])
theorem lex_run {id : Nat} {h : Heap} {args : List AV} : (lexS).run id h args = runP (args1 (tStr) ((fun _ => True))) ((fun s => .ret (lexO (linesF (toBytes s))))) h args := rfl
theorem lex_pan {id : Nat} {h : Heap} {args : List AV} : (lexS).pan id h args = panP (args1 (tStr) ((fun _ => True))) ((fun s => .ret (lexO (linesF (toBytes s))))) h args := rfl

/-! ### Tokens held against each other -/
theorem flat_tok : flatT Tryd.prog 30 = some [1, 3, 1, 1] := by kernel_rfl
abbrev tToks : Ty (List Tok) := tSl 4 tokR
theorem take_eq {α : Type} {a b : List α} {i : Nat} {r q : α} (ha : a[i]? = some r) (hb : b[i]? = some q) (ht : a.take i = b.take i) (h : r = q) : a.take (i + 1) = b.take (i + 1) := by
  rw [List.take_add_one, List.take_add_one, ht, ha, hb, h]
set_option maxHeartbeats 4000000 in
theorem eqToks_sw (a b : List Tok) (hz : b.length ≤ 1000000) : SW Tryd.prog ⟨none, 0⟩ Tryd.f13.ntmps (Tryd.f13.body.getD .skip) ⟨0, zipT 0 [tToks.enc a, tToks.enc b], []⟩ (outQ Tryd.prog Tryd.f13.results.toList (.ret (bv (decide (a = b))))) := by
  refine aRun_sound (ctx := []) 4000 ?_
  rw [Tryd.ntmps13, Tryd.results13]
  simp only [Tryd.f13, Option.getD_some, zipT]
  by_cases hl : a.length = b.length
  case neg =>
    have hlI : ¬ (a.length : Int) = b.length := by omega
    have hne : ¬ a = b := fun h => hl (by rw [h])
    simp only [go_sem, Nat.reduceOr, Nat.reducePow, Nat.reduceDiv, Nat.reduceMod, Nat.reduceBEq, Int.reduceBEq, Int.reduceBNe, Int.reduceEq, Int.reduceLT, Int.reduceLE, Int.reduceToNat, reduceIte, reduceCtorEq, Nat.reduceEqDiff, Nat.reduceAdd, Nat.reduceLT, Nat.reduceLeDiff, Nat.reduceMul, Nat.reduceSub, hlI, hne]
  have hlI : (a.length : Int) = b.length := by omega
  simp only [go_sem, Nat.reduceOr, Nat.reducePow, Nat.reduceDiv, Nat.reduceMod, Nat.reduceBEq, Int.reduceBEq, Int.reduceBNe, Int.reduceEq, Int.reduceLT, Int.reduceLE, Int.reduceToNat, reduceIte, reduceCtorEq, Nat.reduceEqDiff, Nat.reduceAdd, Nat.reduceLT, Nat.reduceLeDiff, Nat.reduceMul, Nat.reduceSub, hlI]
  refine sw_loop (ι := Nat) (fun i => i ≤ a.length ∧ a.take i = b.take i) (fun i => ⟨0, [(0, tToks.enc a), (1, tToks.enc b), (12, iv b.length), (13, iv i)], []⟩) (fun i => a.length - i) 0 ⟨Nat.zero_le _, rfl⟩ (Wk.renL [] (by simp) (by simp) (by simp) rfl rfl) ?_
  rintro i ⟨hi, ht⟩
  refine aRun_sound (ctx := []) 4000 ?_
  by_cases hlt : i < a.length
  · have hltI : (i : Int) < b.length := by omega
    have hb : i < b.length := by omega
    obtain ⟨r, hr⟩ : ∃ r, a[i]? = some r := ⟨_, List.getElem?_eq_getElem hlt⟩
    obtain ⟨q, hq⟩ : ∃ q, b[i]? = some q := ⟨_, List.getElem?_eq_getElem hb⟩
    have hba : r ≠ q → ¬ a = b := fun h1 h => h1 (by rw [h, hq] at hr; injection hr with hr; exact hr.symm)
    have ei : IntKind.i64.wrap ((i : Int) + 1) = ((i + 1 : Nat) : Int) := by rw [IntKind.wrap_i64]; omega
    simp only [go_sem, Nat.reduceOr, Nat.reducePow, Nat.reduceDiv, Nat.reduceMod, Nat.reduceBEq, Int.reduceBEq, Int.reduceBNe, Int.reduceEq, Int.reduceLT, Int.reduceLE, Int.reduceToNat, reduceIte, reduceCtorEq, Nat.reduceEqDiff, Nat.reduceAdd, Nat.reduceLT, Nat.reduceLeDiff, Nat.reduceMul, Nat.reduceSub, hltI]
    refine sw_draw (ctx := []) mixed [] (by kernel_rfl) ?_
    by_cases h1 : r.kind = q.kind
    case neg =>
      have hne := hba (fun h => h1 (by rw [h]))
      simp only [go_sem, Nat.reduceOr, Nat.reducePow, Nat.reduceDiv, Nat.reduceMod, Nat.reduceBEq, Int.reduceBEq, Int.reduceBNe, Int.reduceEq, Int.reduceLT, Int.reduceLE, Int.reduceToNat, reduceIte, reduceCtorEq, Nat.reduceEqDiff, Nat.reduceAdd, Nat.reduceLT, Nat.reduceLeDiff, Nat.reduceMul, Nat.reduceSub, hr, hq, hlt, hb, hltI, hlI, tokR, pure_flat_neq, orPure_ne, flatEq, flat_tok, eqKs, h1, hne, Bool.false_and]
    by_cases h2 : r.text = q.text
    case neg =>
      have hne := hba (fun h => h2 (by rw [h]))
      simp only [go_sem, Nat.reduceOr, Nat.reducePow, Nat.reduceDiv, Nat.reduceMod, Nat.reduceBEq, Int.reduceBEq, Int.reduceBNe, Int.reduceEq, Int.reduceLT, Int.reduceLE, Int.reduceToNat, reduceIte, reduceCtorEq, Nat.reduceEqDiff, Nat.reduceAdd, Nat.reduceLT, Nat.reduceLeDiff, Nat.reduceMul, Nat.reduceSub, hr, hq, hlt, hb, hltI, hlI, tokR, pure_flat_neq, orPure_ne, flatEq, flat_tok, eqKs, eq_true h1, h2, hne, Bool.false_and]
    by_cases h3 : r.n = q.n
    case neg =>
      have hne := hba (fun h => h3 (by rw [h]))
      simp only [go_sem, Nat.reduceOr, Nat.reducePow, Nat.reduceDiv, Nat.reduceMod, Nat.reduceBEq, Int.reduceBEq, Int.reduceBNe, Int.reduceEq, Int.reduceLT, Int.reduceLE, Int.reduceToNat, reduceIte, reduceCtorEq, Nat.reduceEqDiff, Nat.reduceAdd, Nat.reduceLT, Nat.reduceLeDiff, Nat.reduceMul, Nat.reduceSub, hr, hq, hlt, hb, hltI, hlI, tokR, pure_flat_neq, orPure_ne, flatEq, flat_tok, eqKs, eq_true h1, eq_true h2, h3, hne, Bool.false_and]
    by_cases h4 : r.pos = q.pos
    case neg =>
      have hne := hba (fun h => h4 (by rw [h]))
      simp only [go_sem, Nat.reduceOr, Nat.reducePow, Nat.reduceDiv, Nat.reduceMod, Nat.reduceBEq, Int.reduceBEq, Int.reduceBNe, Int.reduceEq, Int.reduceLT, Int.reduceLE, Int.reduceToNat, reduceIte, reduceCtorEq, Nat.reduceEqDiff, Nat.reduceAdd, Nat.reduceLT, Nat.reduceLeDiff, Nat.reduceMul, Nat.reduceSub, hr, hq, hlt, hb, hltI, hlI, tokR, pure_flat_neq, orPure_ne, flatEq, flat_tok, eqKs, eq_true h1, eq_true h2, eq_true h3, h4, hne, Bool.false_and]
    simp only [go_sem, Nat.reduceOr, Nat.reducePow, Nat.reduceDiv, Nat.reduceMod, Nat.reduceBEq, Int.reduceBEq, Int.reduceBNe, Int.reduceEq, Int.reduceLT, Int.reduceLE, Int.reduceToNat, reduceIte, reduceCtorEq, Nat.reduceEqDiff, Nat.reduceAdd, Nat.reduceLT, Nat.reduceLeDiff, Nat.reduceMul, Nat.reduceSub, hr, hq, hlt, hb, hltI, hlI, tokR, pure_flat_neq, orPure_ne, flatEq, flat_tok, eqKs, eq_true h1, eq_true h2, eq_true h3, eq_true h4, ei]
    exact ⟨i + 1, ⟨hlt, take_eq hr hq ht (tok_ext h1 h2 h3 h4)⟩, by omega, Wk.renL [] (by simp) (by simp) (by simp) rfl rfl⟩
  · obtain rfl : i = a.length := by omega
    have hI : ¬ (a.length : Int) < b.length := by omega
    have he : a = b := by rw [List.take_length, hl, List.take_length] at ht; exact ht
    simp only [go_sem, Nat.reduceOr, Nat.reducePow, Nat.reduceDiv, Nat.reduceMod, Nat.reduceBEq, Int.reduceBEq, Int.reduceBNe, Int.reduceEq, Int.reduceLT, Int.reduceLE, Int.reduceToNat, reduceIte, reduceCtorEq, Nat.reduceEqDiff, Nat.reduceAdd, Nat.reduceLT, Nat.reduceLeDiff, Nat.reduceMul, Nat.reduceSub, hI, eq_true he]
theorem en_eqToks (args : Array Value) (w : World) : (callFunc 13 args).run Tryd.prog w = .ok (.enter 13 args) w := by go_simp
def eqToksS : Spec Tryd.prog 13 :=
  mk2 _ _ _ Tryd.func13 rfl en_eqToks (tToks) (tToks) ((fun _ b => b.length ≤ 1000000)) ((fun a b => .ret (bv (decide (a = b))))) (by rw [Tryd.ntmps13]; decide) (fun a b hz => eqToks_sw a b hz)
theorem eqToks_run {id : Nat} {h : Heap} {args : List AV} : (eqToksS).run id h args = runP (args2 (tToks) (tToks) ((fun _ b => b.length ≤ 1000000))) (fun x => ((fun a b => .ret (bv (decide (a = b))))) x.1 x.2) h args := rfl
theorem eqToks_pan {id : Nat} {h : Heap} {args : List AV} : (eqToksS).pan id h args = panP (args2 (tToks) (tToks) ((fun _ b => b.length ≤ 1000000))) (fun x => ((fun a b => .ret (bv (decide (a = b))))) x.1 x.2) h args := rfl

/-! ### Which tokens may be -/
set_option maxHeartbeats 4000000 in
theorem check_sw (t : Tok) (hs : t.text.size ≤ maxLen) : SW Tryd.prog ⟨none, 0⟩ Tryd.f19.ntmps (Tryd.f19.body.getD .skip) ⟨0, zipT 0 [(tAgg tokR).enc t], []⟩ (outQ Tryd.prog Tryd.f19.results.toList (.ret (iv (checkT t)))) := by
  refine aRun_sound (ctx := [⟨_, nameS⟩, ⟨_, sgnS⟩]) 4000 ?_
  rw [Tryd.ntmps19, Tryd.results19]
  simp only [Tryd.f19, Option.getD_some, zipT]
  obtain ⟨kind, text, n, pos⟩ := t
  simp only at hs
  have hb : ∀ b, isT ⟨kind, text, n, pos⟩ = b → checkT ⟨kind, text, n, pos⟩ = if b = true ∧ 0 ≤ pos ∧ (n = 0 ∨ kind = 2) then 0 else 1 := fun b hb => by unfold checkT; rw [hb]
  by_cases hk : kind = 1
  · cases hv : nameL (toBytes text) with
    | true =>
      have hi : isT ⟨kind, text, n, pos⟩ = true := by unfold isT; rw [if_pos hk]; exact hv
      by_cases p0 : pos < 0
      · have e : checkT ⟨kind, text, n, pos⟩ = 1 := by rw [hb true hi, if_neg (by omega)]
        rw [e]
        simp only [go_sem, Nat.reduceOr, Nat.reducePow, Nat.reduceDiv, Nat.reduceMod, Nat.reduceBEq, Int.reduceBEq, Int.reduceBNe, Int.reduceEq, Int.reduceLT, Int.reduceLE, Int.reduceToNat, reduceIte, reduceCtorEq, Nat.reduceEqDiff, Nat.reduceAdd, Nat.reduceLT, Nat.reduceLeDiff, Nat.reduceMul, Nat.reduceSub, tokR, name_run, name_pan, sgn_run, sgn_pan, hs, lit_emp, hk, hv, p0]
      · by_cases n0 : n = 0
        · have e : checkT ⟨kind, text, n, pos⟩ = 0 := by rw [hb true hi, if_pos ⟨rfl, by omega, .inl n0⟩]
          rw [e]
          simp only [go_sem, Nat.reduceOr, Nat.reducePow, Nat.reduceDiv, Nat.reduceMod, Nat.reduceBEq, Int.reduceBEq, Int.reduceBNe, Int.reduceEq, Int.reduceLT, Int.reduceLE, Int.reduceToNat, reduceIte, reduceCtorEq, Nat.reduceEqDiff, Nat.reduceAdd, Nat.reduceLT, Nat.reduceLeDiff, Nat.reduceMul, Nat.reduceSub, tokR, name_run, name_pan, sgn_run, sgn_pan, hs, lit_emp, hk, hv, p0, n0]
        · have e : checkT ⟨kind, text, n, pos⟩ = 1 := by rw [hb true hi, if_neg (by omega)]
          rw [e]
          simp only [go_sem, Nat.reduceOr, Nat.reducePow, Nat.reduceDiv, Nat.reduceMod, Nat.reduceBEq, Int.reduceBEq, Int.reduceBNe, Int.reduceEq, Int.reduceLT, Int.reduceLE, Int.reduceToNat, reduceIte, reduceCtorEq, Nat.reduceEqDiff, Nat.reduceAdd, Nat.reduceLT, Nat.reduceLeDiff, Nat.reduceMul, Nat.reduceSub, tokR, name_run, name_pan, sgn_run, sgn_pan, hs, lit_emp, hk, hv, p0, n0]
    | false =>
      have hi : isT ⟨kind, text, n, pos⟩ = false := by unfold isT; rw [if_pos hk]; exact hv
      have e : checkT ⟨kind, text, n, pos⟩ = 1 := by rw [hb false hi, if_neg (by simp)]
      rw [e]
      simp only [go_sem, Nat.reduceOr, Nat.reducePow, Nat.reduceDiv, Nat.reduceMod, Nat.reduceBEq, Int.reduceBEq, Int.reduceBNe, Int.reduceEq, Int.reduceLT, Int.reduceLE, Int.reduceToNat, reduceIte, reduceCtorEq, Nat.reduceEqDiff, Nat.reduceAdd, Nat.reduceLT, Nat.reduceLeDiff, Nat.reduceMul, Nat.reduceSub, tokR, name_run, name_pan, sgn_run, sgn_pan, hs, lit_emp, hk, hv, e]
  by_cases hk : kind = 2
  · have k1 : ¬ kind = 1 := by omega
    by_cases hv : text = emp
    · have hi : isT ⟨kind, text, n, pos⟩ = true := by unfold isT; rw [if_neg (by omega), if_pos hk]; exact decide_eq_true hv
      by_cases p0 : pos < 0
      · have e : checkT ⟨kind, text, n, pos⟩ = 1 := by rw [hb true hi, if_neg (by omega)]
        rw [e]
        simp only [go_sem, Nat.reduceOr, Nat.reducePow, Nat.reduceDiv, Nat.reduceMod, Nat.reduceBEq, Int.reduceBEq, Int.reduceBNe, Int.reduceEq, Int.reduceLT, Int.reduceLE, Int.reduceToNat, reduceIte, reduceCtorEq, Nat.reduceEqDiff, Nat.reduceAdd, Nat.reduceLT, Nat.reduceLeDiff, Nat.reduceMul, Nat.reduceSub, tokR, name_run, name_pan, sgn_run, sgn_pan, hs, lit_emp, hk, eq_true hv, p0]
      · have e : checkT ⟨kind, text, n, pos⟩ = 0 := by rw [hb true hi, if_pos ⟨rfl, by omega, .inr hk⟩]
        rw [e]
        by_cases n0 : n = 0
        · simp only [go_sem, Nat.reduceOr, Nat.reducePow, Nat.reduceDiv, Nat.reduceMod, Nat.reduceBEq, Int.reduceBEq, Int.reduceBNe, Int.reduceEq, Int.reduceLT, Int.reduceLE, Int.reduceToNat, reduceIte, reduceCtorEq, Nat.reduceEqDiff, Nat.reduceAdd, Nat.reduceLT, Nat.reduceLeDiff, Nat.reduceMul, Nat.reduceSub, tokR, name_run, name_pan, sgn_run, sgn_pan, hs, lit_emp, hk, eq_true hv, p0, n0]
        · simp only [go_sem, Nat.reduceOr, Nat.reducePow, Nat.reduceDiv, Nat.reduceMod, Nat.reduceBEq, Int.reduceBEq, Int.reduceBNe, Int.reduceEq, Int.reduceLT, Int.reduceLE, Int.reduceToNat, reduceIte, reduceCtorEq, Nat.reduceEqDiff, Nat.reduceAdd, Nat.reduceLT, Nat.reduceLeDiff, Nat.reduceMul, Nat.reduceSub, tokR, name_run, name_pan, sgn_run, sgn_pan, hs, lit_emp, hk, eq_true hv, p0, n0]
    · have hi : isT ⟨kind, text, n, pos⟩ = false := by unfold isT; rw [if_neg (by omega), if_pos hk]; exact decide_eq_false hv
      have e : checkT ⟨kind, text, n, pos⟩ = 1 := by rw [hb false hi, if_neg (by simp)]
      rw [e]
      simp only [go_sem, Nat.reduceOr, Nat.reducePow, Nat.reduceDiv, Nat.reduceMod, Nat.reduceBEq, Int.reduceBEq, Int.reduceBNe, Int.reduceEq, Int.reduceLT, Int.reduceLE, Int.reduceToNat, reduceIte, reduceCtorEq, Nat.reduceEqDiff, Nat.reduceAdd, Nat.reduceLT, Nat.reduceLeDiff, Nat.reduceMul, Nat.reduceSub, tokR, name_run, name_pan, sgn_run, sgn_pan, hs, lit_emp, hk, hv, e]
  by_cases hk : kind = 3
  · by_cases hv : text.size ≤ 512
    · have hi : isT ⟨kind, text, n, pos⟩ = true := by unfold isT; rw [if_neg (by omega), if_neg (by omega), if_pos hk]; exact decide_eq_true hv
      have hvI : (text.size : Int) ≤ 512 := by omega
      by_cases p0 : pos < 0
      · have e : checkT ⟨kind, text, n, pos⟩ = 1 := by rw [hb true hi, if_neg (by omega)]
        rw [e]
        simp only [go_sem, Nat.reduceOr, Nat.reducePow, Nat.reduceDiv, Nat.reduceMod, Nat.reduceBEq, Int.reduceBEq, Int.reduceBNe, Int.reduceEq, Int.reduceLT, Int.reduceLE, Int.reduceToNat, reduceIte, reduceCtorEq, Nat.reduceEqDiff, Nat.reduceAdd, Nat.reduceLT, Nat.reduceLeDiff, Nat.reduceMul, Nat.reduceSub, tokR, name_run, name_pan, sgn_run, sgn_pan, hs, lit_emp, hk, hvI, p0]
      · by_cases n0 : n = 0
        · have e : checkT ⟨kind, text, n, pos⟩ = 0 := by rw [hb true hi, if_pos ⟨rfl, by omega, .inl n0⟩]
          rw [e]
          simp only [go_sem, Nat.reduceOr, Nat.reducePow, Nat.reduceDiv, Nat.reduceMod, Nat.reduceBEq, Int.reduceBEq, Int.reduceBNe, Int.reduceEq, Int.reduceLT, Int.reduceLE, Int.reduceToNat, reduceIte, reduceCtorEq, Nat.reduceEqDiff, Nat.reduceAdd, Nat.reduceLT, Nat.reduceLeDiff, Nat.reduceMul, Nat.reduceSub, tokR, name_run, name_pan, sgn_run, sgn_pan, hs, lit_emp, hk, hvI, p0, n0]
        · have e : checkT ⟨kind, text, n, pos⟩ = 1 := by rw [hb true hi, if_neg (by omega)]
          rw [e]
          simp only [go_sem, Nat.reduceOr, Nat.reducePow, Nat.reduceDiv, Nat.reduceMod, Nat.reduceBEq, Int.reduceBEq, Int.reduceBNe, Int.reduceEq, Int.reduceLT, Int.reduceLE, Int.reduceToNat, reduceIte, reduceCtorEq, Nat.reduceEqDiff, Nat.reduceAdd, Nat.reduceLT, Nat.reduceLeDiff, Nat.reduceMul, Nat.reduceSub, tokR, name_run, name_pan, sgn_run, sgn_pan, hs, lit_emp, hk, hvI, p0, n0]
    · have hi : isT ⟨kind, text, n, pos⟩ = false := by unfold isT; rw [if_neg (by omega), if_neg (by omega), if_pos hk]; exact decide_eq_false hv
      have hvI : ¬ (text.size : Int) ≤ 512 := by omega
      have e : checkT ⟨kind, text, n, pos⟩ = 1 := by rw [hb false hi, if_neg (by simp)]
      rw [e]
      simp only [go_sem, Nat.reduceOr, Nat.reducePow, Nat.reduceDiv, Nat.reduceMod, Nat.reduceBEq, Int.reduceBEq, Int.reduceBNe, Int.reduceEq, Int.reduceLT, Int.reduceLE, Int.reduceToNat, reduceIte, reduceCtorEq, Nat.reduceEqDiff, Nat.reduceAdd, Nat.reduceLT, Nat.reduceLeDiff, Nat.reduceMul, Nat.reduceSub, tokR, name_run, name_pan, sgn_run, sgn_pan, hs, lit_emp, hk, hvI, e]
  by_cases hk : kind = 4
  · by_cases hv0 : text = emp
    · have hi : isT ⟨kind, text, n, pos⟩ = false := by unfold isT; rw [if_neg (by omega), if_neg (by omega), if_neg (by omega), if_pos hk]; exact decide_eq_false (fun h => by simp only [hv0] at h; exact absurd h.1 (by decide))
      have e : checkT ⟨kind, text, n, pos⟩ = 1 := by rw [hb false hi, if_neg (by simp)]
      rw [e]
      simp only [go_sem, Nat.reduceOr, Nat.reducePow, Nat.reduceDiv, Nat.reduceMod, Nat.reduceBEq, Int.reduceBEq, Int.reduceBNe, Int.reduceEq, Int.reduceLT, Int.reduceLE, Int.reduceToNat, reduceIte, reduceCtorEq, Nat.reduceEqDiff, Nat.reduceAdd, Nat.reduceLT, Nat.reduceLeDiff, Nat.reduceMul, Nat.reduceSub, tokR, name_run, name_pan, sgn_run, sgn_pan, hs, lit_emp, hk]
      refine sw_draw (ctx := [⟨_, sgnS⟩]) mixed [] (by kernel_rfl) ?_
      simp only [go_sem, Nat.reduceOr, Nat.reducePow, Nat.reduceDiv, Nat.reduceMod, Nat.reduceBEq, Int.reduceBEq, Int.reduceBNe, Int.reduceEq, Int.reduceLT, Int.reduceLE, Int.reduceToNat, reduceIte, reduceCtorEq, Nat.reduceEqDiff, Nat.reduceAdd, Nat.reduceLT, Nat.reduceLeDiff, Nat.reduceMul, Nat.reduceSub, tokR, name_run, name_pan, sgn_run, sgn_pan, hs, lit_emp, hk, eq_true hv0, e]
    · by_cases hv : signL (toBytes text) = text.size
      · have hi : isT ⟨kind, text, n, pos⟩ = true := by unfold isT; rw [if_neg (by omega), if_neg (by omega), if_neg (by omega), if_pos hk]; exact decide_eq_true ⟨sizeP hv0, hv⟩
        have hvI : (signL (toBytes text) : Int) = text.size := by omega
        by_cases p0 : pos < 0
        · have e : checkT ⟨kind, text, n, pos⟩ = 1 := by rw [hb true hi, if_neg (by omega)]
          rw [e]
          simp only [go_sem, Nat.reduceOr, Nat.reducePow, Nat.reduceDiv, Nat.reduceMod, Nat.reduceBEq, Int.reduceBEq, Int.reduceBNe, Int.reduceEq, Int.reduceLT, Int.reduceLE, Int.reduceToNat, reduceIte, reduceCtorEq, Nat.reduceEqDiff, Nat.reduceAdd, Nat.reduceLT, Nat.reduceLeDiff, Nat.reduceMul, Nat.reduceSub, tokR, name_run, name_pan, sgn_run, sgn_pan, hs, lit_emp, hk]
          refine sw_draw (ctx := [⟨_, sgnS⟩]) mixed [] (by kernel_rfl) ?_
          simp only [go_sem, Nat.reduceOr, Nat.reducePow, Nat.reduceDiv, Nat.reduceMod, Nat.reduceBEq, Int.reduceBEq, Int.reduceBNe, Int.reduceEq, Int.reduceLT, Int.reduceLE, Int.reduceToNat, reduceIte, reduceCtorEq, Nat.reduceEqDiff, Nat.reduceAdd, Nat.reduceLT, Nat.reduceLeDiff, Nat.reduceMul, Nat.reduceSub, tokR, name_run, name_pan, sgn_run, sgn_pan, hs, lit_emp, hk, hv0, hvI, p0]
        · by_cases n0 : n = 0
          · have e : checkT ⟨kind, text, n, pos⟩ = 0 := by rw [hb true hi, if_pos ⟨rfl, by omega, .inl n0⟩]
            rw [e]
            simp only [go_sem, Nat.reduceOr, Nat.reducePow, Nat.reduceDiv, Nat.reduceMod, Nat.reduceBEq, Int.reduceBEq, Int.reduceBNe, Int.reduceEq, Int.reduceLT, Int.reduceLE, Int.reduceToNat, reduceIte, reduceCtorEq, Nat.reduceEqDiff, Nat.reduceAdd, Nat.reduceLT, Nat.reduceLeDiff, Nat.reduceMul, Nat.reduceSub, tokR, name_run, name_pan, sgn_run, sgn_pan, hs, lit_emp, hk]
            refine sw_draw (ctx := [⟨_, sgnS⟩]) mixed [] (by kernel_rfl) ?_
            simp only [go_sem, Nat.reduceOr, Nat.reducePow, Nat.reduceDiv, Nat.reduceMod, Nat.reduceBEq, Int.reduceBEq, Int.reduceBNe, Int.reduceEq, Int.reduceLT, Int.reduceLE, Int.reduceToNat, reduceIte, reduceCtorEq, Nat.reduceEqDiff, Nat.reduceAdd, Nat.reduceLT, Nat.reduceLeDiff, Nat.reduceMul, Nat.reduceSub, tokR, name_run, name_pan, sgn_run, sgn_pan, hs, lit_emp, hk, hv0, hvI, p0, n0]
          · have e : checkT ⟨kind, text, n, pos⟩ = 1 := by rw [hb true hi, if_neg (by omega)]
            rw [e]
            simp only [go_sem, Nat.reduceOr, Nat.reducePow, Nat.reduceDiv, Nat.reduceMod, Nat.reduceBEq, Int.reduceBEq, Int.reduceBNe, Int.reduceEq, Int.reduceLT, Int.reduceLE, Int.reduceToNat, reduceIte, reduceCtorEq, Nat.reduceEqDiff, Nat.reduceAdd, Nat.reduceLT, Nat.reduceLeDiff, Nat.reduceMul, Nat.reduceSub, tokR, name_run, name_pan, sgn_run, sgn_pan, hs, lit_emp, hk]
            refine sw_draw (ctx := [⟨_, sgnS⟩]) mixed [] (by kernel_rfl) ?_
            simp only [go_sem, Nat.reduceOr, Nat.reducePow, Nat.reduceDiv, Nat.reduceMod, Nat.reduceBEq, Int.reduceBEq, Int.reduceBNe, Int.reduceEq, Int.reduceLT, Int.reduceLE, Int.reduceToNat, reduceIte, reduceCtorEq, Nat.reduceEqDiff, Nat.reduceAdd, Nat.reduceLT, Nat.reduceLeDiff, Nat.reduceMul, Nat.reduceSub, tokR, name_run, name_pan, sgn_run, sgn_pan, hs, lit_emp, hk, hv0, hvI, p0, n0]
      · have hi : isT ⟨kind, text, n, pos⟩ = false := by unfold isT; rw [if_neg (by omega), if_neg (by omega), if_neg (by omega), if_pos hk]; exact decide_eq_false (fun h => hv h.2)
        have hvI : ¬ (signL (toBytes text) : Int) = text.size := by omega
        have e : checkT ⟨kind, text, n, pos⟩ = 1 := by rw [hb false hi, if_neg (by simp)]
        rw [e]
        simp only [go_sem, Nat.reduceOr, Nat.reducePow, Nat.reduceDiv, Nat.reduceMod, Nat.reduceBEq, Int.reduceBEq, Int.reduceBNe, Int.reduceEq, Int.reduceLT, Int.reduceLE, Int.reduceToNat, reduceIte, reduceCtorEq, Nat.reduceEqDiff, Nat.reduceAdd, Nat.reduceLT, Nat.reduceLeDiff, Nat.reduceMul, Nat.reduceSub, tokR, name_run, name_pan, sgn_run, sgn_pan, hs, lit_emp, hk]
        refine sw_draw (ctx := [⟨_, sgnS⟩]) mixed [] (by kernel_rfl) ?_
        simp only [go_sem, Nat.reduceOr, Nat.reducePow, Nat.reduceDiv, Nat.reduceMod, Nat.reduceBEq, Int.reduceBEq, Int.reduceBNe, Int.reduceEq, Int.reduceLT, Int.reduceLE, Int.reduceToNat, reduceIte, reduceCtorEq, Nat.reduceEqDiff, Nat.reduceAdd, Nat.reduceLT, Nat.reduceLeDiff, Nat.reduceMul, Nat.reduceSub, tokR, name_run, name_pan, sgn_run, sgn_pan, hs, lit_emp, hk, hv0, hvI, e]
  rename_i k1 k2 k3
  have hi : isT ⟨kind, text, n, pos⟩ = false := by unfold isT; rw [if_neg k1, if_neg k2, if_neg k3, if_neg hk]
  have e : checkT ⟨kind, text, n, pos⟩ = 1 := by rw [hb false hi, if_neg (by simp)]
  rw [e]
  simp only [go_sem, Nat.reduceOr, Nat.reducePow, Nat.reduceDiv, Nat.reduceMod, Nat.reduceBEq, Int.reduceBEq, Int.reduceBNe, Int.reduceEq, Int.reduceLT, Int.reduceLE, Int.reduceToNat, reduceIte, reduceCtorEq, Nat.reduceEqDiff, Nat.reduceAdd, Nat.reduceLT, Nat.reduceLeDiff, Nat.reduceMul, Nat.reduceSub, tokR, name_run, name_pan, sgn_run, sgn_pan, hs, lit_emp, k1, k2, k3, hk, e]
theorem en_check (args : Array Value) (w : World) : (callFunc 19 args).run Tryd.prog w = .ok (.enter 19 args) w := by go_simp
def checkS : Spec Tryd.prog 19 :=
  mk1 _ _ _ Tryd.func19 rfl en_check (tAgg tokR) ((fun t => t.text.size ≤ maxLen)) ((fun t => .ret (iv (checkT t)))) (by rw [Tryd.ntmps19]; decide) (fun t h => check_sw t h)
theorem check_run {id : Nat} {h : Heap} {args : List AV} : (checkS).run id h args = runP (args1 (tAgg tokR) ((fun t => t.text.size ≤ maxLen))) ((fun t => .ret (iv (checkT t)))) h args := rfl
theorem check_pan {id : Nat} {h : Heap} {args : List AV} : (checkS).pan id h args = panP (args1 (tAgg tokR) ((fun t => t.text.size ≤ maxLen))) ((fun t => .ret (iv (checkT t)))) h args := rfl

end Go.Proofs.YtcdbldakjepjiaaDoor
