/- Lines: tokens as a line: the walks. -/
import Derived.Test.YtcdbldakjepjiaaDoorWs
import Derived.Test.YtcdbldakjepjiaaDoorLP
import Derived.Test.YtcdbldakjepjiaaDoorLC
set_option linter.unusedVariables false
set_option linter.unusedSimpArgs false
namespace Go.Proofs.YtcdbldakjepjiaaDoor
open Go.RowKit
set_option maxRecDepth 100000

theorem tok_dec (t : Tok) : tokR.dec [.v (.int .i64 t.kind), .v (.string t.text), .v (.int .u64 t.n), .v (.int .i64 t.pos)] = some t := rfl

/-! ### A token's text, whatever its length -/
set_option maxHeartbeats 1000000 in
theorem text2_sw (t : Tok) (h : smallT t) : SW Tryd.prog ⟨none, 0⟩ Tryd.f23.ntmps (Tryd.f23.body.getD .skip) ⟨0, zipT 0 [(tAgg tokR).enc t], []⟩ (outQ Tryd.prog Tryd.f23.results.toList (.ret (sv (textT t)))) := by
  refine aRun_sound (ctx := [⟨_, checkS⟩, ⟨_, formatS⟩, ⟨_, quoteS⟩]) 4000 ?_
  rw [Tryd.ntmps23, Tryd.results23]
  simp only [Tryd.f23, Option.getD_some, zipT]
  obtain ⟨hs, h0, h1⟩ := h
  have hm : t.text.size ≤ maxLen := by unfold maxLen; omega
  have hdec := tok_dec t
  by_cases c : checkT t = 0
  case neg =>
    have e : textT t = emp := by unfold textT; rw [if_neg c]
    simp only [go_sem, Nat.reduceOr, Nat.reducePow, Nat.reduceDiv, Nat.reduceMod, Nat.reduceBEq, Int.reduceBEq, Int.reduceBNe, Int.reduceEq, Int.reduceLT, Int.reduceLE, Int.reduceToNat, reduceIte, reduceCtorEq, Nat.reduceEqDiff, Nat.reduceAdd, Nat.reduceLT, Nat.reduceLeDiff, Nat.reduceMul, Nat.reduceSub, tokE, check_run, check_pan, hdec, hm, c, e, lit_emp]
  by_cases k2 : t.kind = 2
  · have e : textT t = decF t.n := by unfold textT; rw [if_pos c, if_pos k2]
    simp only [go_sem, Nat.reduceOr, Nat.reducePow, Nat.reduceDiv, Nat.reduceMod, Nat.reduceBEq, Int.reduceBEq, Int.reduceBNe, Int.reduceEq, Int.reduceLT, Int.reduceLE, Int.reduceToNat, reduceIte, reduceCtorEq, Nat.reduceEqDiff, Nat.reduceAdd, Nat.reduceLT, Nat.reduceLeDiff, Nat.reduceMul, Nat.reduceSub, tokE, check_run, check_pan, hdec, hm, c, eq_true k2, format_run, format_pan, h0, h1, e]
  by_cases k3 : t.kind = 3
  · have e : textT t = ofBytes (quoteL (toBytes t.text)) := by unfold textT; rw [if_pos c, if_neg k2, if_pos k3]
    have hq : t.text.size ≤ 1000000 := by have := check_text c k3; omega
    simp only [go_sem, Nat.reduceOr, Nat.reducePow, Nat.reduceDiv, Nat.reduceMod, Nat.reduceBEq, Int.reduceBEq, Int.reduceBNe, Int.reduceEq, Int.reduceLT, Int.reduceLE, Int.reduceToNat, reduceIte, reduceCtorEq, Nat.reduceEqDiff, Nat.reduceAdd, Nat.reduceLT, Nat.reduceLeDiff, Nat.reduceMul, Nat.reduceSub, tokE, check_run, check_pan, hdec, hm, c, k2, eq_true k3, quote_run, quote_pan, hq, e]
  have e : textT t = t.text := by unfold textT; rw [if_pos c, if_neg k2, if_neg k3]
  simp only [go_sem, Nat.reduceOr, Nat.reducePow, Nat.reduceDiv, Nat.reduceMod, Nat.reduceBEq, Int.reduceBEq, Int.reduceBNe, Int.reduceEq, Int.reduceLT, Int.reduceLE, Int.reduceToNat, reduceIte, reduceCtorEq, Nat.reduceEqDiff, Nat.reduceAdd, Nat.reduceLT, Nat.reduceLeDiff, Nat.reduceMul, Nat.reduceSub, tokE, check_run, check_pan, hdec, hm, c, k2, k3, e]
theorem en_text2 (args : Array Value) (w : World) : (callFunc 23 args).run Tryd.prog w = .ok (.enter 23 args) w := by go_simp
def text2S : Spec Tryd.prog 23 :=
  mk1 _ _ _ Tryd.func23 rfl en_text2 (tAgg tokR) (smallT) ((fun t => .ret (sv (textT t)))) (by rw [Tryd.ntmps23]; decide) (fun t h => text2_sw t h)
theorem text2_run {id : Nat} {h : Heap} {args : List AV} : (text2S).run id h args = runP (args1 (tAgg tokR) (smallT)) ((fun t => .ret (sv (textT t)))) h args := rfl
theorem text2_pan {id : Nat} {h : Heap} {args : List AV} : (text2S).pan id h args = panP (args1 (tAgg tokR) (smallT)) ((fun t => .ret (sv (textT t)))) h args := rfl
set_option maxHeartbeats 1000000 in
theorem rtext2_sw (t : Tok) (h : smallT t) : SW Tryd.prog ⟨none, 0⟩ Tryd.f24.ntmps (Tryd.f24.body.getD .skip) ⟨0, zipT 0 [(tAgg tokR).enc t], []⟩ (outQ Tryd.prog Tryd.f24.results.toList (.ret (sv (textT t)))) := by
  refine aRun_sound (ctx := [⟨_, rcheckS⟩, ⟨_, numrS⟩, ⟨_, rquoteS⟩]) 4000 ?_
  rw [Tryd.ntmps24, Tryd.results24]
  simp only [Tryd.f24, Option.getD_some, zipT]
  obtain ⟨hs, h0, h1⟩ := h
  have hm : t.text.size ≤ maxLen := by unfold maxLen; omega
  have hdec := tok_dec t
  by_cases c : checkT t = 0
  case neg =>
    have e : textT t = emp := by unfold textT; rw [if_neg c]
    simp only [go_sem, Nat.reduceOr, Nat.reducePow, Nat.reduceDiv, Nat.reduceMod, Nat.reduceBEq, Int.reduceBEq, Int.reduceBNe, Int.reduceEq, Int.reduceLT, Int.reduceLE, Int.reduceToNat, reduceIte, reduceCtorEq, Nat.reduceEqDiff, Nat.reduceAdd, Nat.reduceLT, Nat.reduceLeDiff, Nat.reduceMul, Nat.reduceSub, tokE, rcheck_run, rcheck_pan, hdec, hm, c, e, lit_emp]
  by_cases k2 : t.kind = 2
  · have e : textT t = decF t.n := by unfold textT; rw [if_pos c, if_pos k2]
    have hq := numQ_of h0 h1
    simp only [go_sem, Nat.reduceOr, Nat.reducePow, Nat.reduceDiv, Nat.reduceMod, Nat.reduceBEq, Int.reduceBEq, Int.reduceBNe, Int.reduceEq, Int.reduceLT, Int.reduceLE, Int.reduceToNat, reduceIte, reduceCtorEq, Nat.reduceEqDiff, Nat.reduceAdd, Nat.reduceLT, Nat.reduceLeDiff, Nat.reduceMul, Nat.reduceSub, tokE, rcheck_run, rcheck_pan, hdec, hm, c, eq_true k2, numr_run, numr_pan, hq, e]
  by_cases k3 : t.kind = 3
  · have e : textT t = ofBytes (quoteL (toBytes t.text)) := by unfold textT; rw [if_pos c, if_neg k2, if_pos k3]
    have hq : t.text.size ≤ 1000000 := by have := check_text c k3; omega
    simp only [go_sem, Nat.reduceOr, Nat.reducePow, Nat.reduceDiv, Nat.reduceMod, Nat.reduceBEq, Int.reduceBEq, Int.reduceBNe, Int.reduceEq, Int.reduceLT, Int.reduceLE, Int.reduceToNat, reduceIte, reduceCtorEq, Nat.reduceEqDiff, Nat.reduceAdd, Nat.reduceLT, Nat.reduceLeDiff, Nat.reduceMul, Nat.reduceSub, tokE, rcheck_run, rcheck_pan, hdec, hm, c, k2, eq_true k3, rquote_run, rquote_pan, hq, e]
  have e : textT t = t.text := by unfold textT; rw [if_pos c, if_neg k2, if_neg k3]
  simp only [go_sem, Nat.reduceOr, Nat.reducePow, Nat.reduceDiv, Nat.reduceMod, Nat.reduceBEq, Int.reduceBEq, Int.reduceBNe, Int.reduceEq, Int.reduceLT, Int.reduceLE, Int.reduceToNat, reduceIte, reduceCtorEq, Nat.reduceEqDiff, Nat.reduceAdd, Nat.reduceLT, Nat.reduceLeDiff, Nat.reduceMul, Nat.reduceSub, tokE, rcheck_run, rcheck_pan, hdec, hm, c, k2, k3, e]
theorem en_rtext2 (args : Array Value) (w : World) : (callFunc 24 args).run Tryd.prog w = .ok (.enter 24 args) w := by go_simp
def rtext2S : Spec Tryd.prog 24 :=
  mk1 _ _ _ Tryd.func24 rfl en_rtext2 (tAgg tokR) (smallT) ((fun t => .ret (sv (textT t)))) (by rw [Tryd.ntmps24]; decide) (fun t h => rtext2_sw t h)
theorem rtext2_run {id : Nat} {h : Heap} {args : List AV} : (rtext2S).run id h args = runP (args1 (tAgg tokR) (smallT)) ((fun t => .ret (sv (textT t)))) h args := rfl
theorem rtext2_pan {id : Nat} {h : Heap} {args : List AV} : (rtext2S).pan id h args = panP (args1 (tAgg tokR) (smallT)) ((fun t => .ret (sv (textT t)))) h args := rfl

/-! ### apart -/
theorem en_wordC (args : Array Value) (w : World) : (callFunc 89 args).run Tryd.prog w = .ok (.enter 89 args) w := by go_simp
def wordCS : Spec Tryd.prog 89 :=
  mk1 _ _ _ Tryd.func89 rfl en_wordC (tAgg tokR) ((fun _ => True)) ((fun t => .ret (bv (wordT t)))) (by rw [Tryd.ntmps89]; decide) (fun t _ => by
  refine aRun_sound (ctx := []) 4000 ?_
  rw [Tryd.ntmps89, Tryd.results89]
  simp only [Tryd.f89, Option.getD_some, zipT]
  by_cases k1 : t.kind = 1
  · have e : wordT t = true := by unfold wordT; rw [decide_eq_true k1]; rfl
    simp only [go_sem, Nat.reduceOr, Nat.reducePow, Nat.reduceDiv, Nat.reduceMod, Nat.reduceBEq, Int.reduceBEq, Int.reduceBNe, Int.reduceEq, Int.reduceLT, Int.reduceLE, Int.reduceToNat, reduceIte, reduceCtorEq, Nat.reduceEqDiff, Nat.reduceAdd, Nat.reduceLT, Nat.reduceLeDiff, Nat.reduceMul, Nat.reduceSub, tokE, eq_true k1, e]
  by_cases k2 : t.kind = 2
  · have e : wordT t = true := by unfold wordT; rw [decide_eq_true k2, Bool.or_true]
    have b2 : (t.kind == 2) = true := by rw [k2]; rfl
    simp only [go_sem, Nat.reduceOr, Nat.reducePow, Nat.reduceDiv, Nat.reduceMod, Nat.reduceBEq, Int.reduceBEq, Int.reduceBNe, Int.reduceEq, Int.reduceLT, Int.reduceLE, Int.reduceToNat, reduceIte, reduceCtorEq, Nat.reduceEqDiff, Nat.reduceAdd, Nat.reduceLT, Nat.reduceLeDiff, Nat.reduceMul, Nat.reduceSub, tokE, k1, b2, e]
  have e : wordT t = false := by unfold wordT; rw [decide_eq_false k1, decide_eq_false k2]; rfl
  have b2 : (t.kind == 2) = false := beq_eq_false_iff_ne.2 k2
  simp only [go_sem, Nat.reduceOr, Nat.reducePow, Nat.reduceDiv, Nat.reduceMod, Nat.reduceBEq, Int.reduceBEq, Int.reduceBNe, Int.reduceEq, Int.reduceLT, Int.reduceLE, Int.reduceToNat, reduceIte, reduceCtorEq, Nat.reduceEqDiff, Nat.reduceAdd, Nat.reduceLT, Nat.reduceLeDiff, Nat.reduceMul, Nat.reduceSub, tokE, k1, b2, e])
theorem wordC_run {id : Nat} {h : Heap} {args : List AV} : (wordCS).run id h args = runP (args1 (tAgg tokR) ((fun _ => True))) ((fun t => .ret (bv (wordT t)))) h args := rfl
theorem wordC_pan {id : Nat} {h : Heap} {args : List AV} : (wordCS).pan id h args = panP (args1 (tAgg tokR) ((fun _ => True))) ((fun t => .ret (bv (wordT t)))) h args := rfl
theorem en_slashC (args : Array Value) (w : World) : (callFunc 90 args).run Tryd.prog w = .ok (.enter 90 args) w := by go_simp
def slashCS : Spec Tryd.prog 90 :=
  mk1 _ _ _ Tryd.func90 rfl en_slashC (tAgg tokR) ((fun _ => True)) ((fun t => .ret (bv (slashT t)))) (by rw [Tryd.ntmps90]; decide) (fun t _ => by
  refine aRun_sound (ctx := []) 4000 ?_
  rw [Tryd.ntmps90, Tryd.results90]
  simp only [Tryd.f90, Option.getD_some, zipT]
  by_cases k1 : t.kind = 4
  · by_cases k2 : t.text = ⟨#[47]⟩
    · have e : slashT t = true := by unfold slashT; rw [decide_eq_true k1, decide_eq_true k2]; rfl
      simp only [go_sem, Nat.reduceOr, Nat.reducePow, Nat.reduceDiv, Nat.reduceMod, Nat.reduceBEq, Int.reduceBEq, Int.reduceBNe, Int.reduceEq, Int.reduceLT, Int.reduceLE, Int.reduceToNat, reduceIte, reduceCtorEq, Nat.reduceEqDiff, Nat.reduceAdd, Nat.reduceLT, Nat.reduceLeDiff, Nat.reduceMul, Nat.reduceSub, tokE, eq_true k1, eq_true k2, e]
    · have e : slashT t = false := by unfold slashT; rw [decide_eq_true k1, decide_eq_false k2]; rfl
      simp only [go_sem, Nat.reduceOr, Nat.reducePow, Nat.reduceDiv, Nat.reduceMod, Nat.reduceBEq, Int.reduceBEq, Int.reduceBNe, Int.reduceEq, Int.reduceLT, Int.reduceLE, Int.reduceToNat, reduceIte, reduceCtorEq, Nat.reduceEqDiff, Nat.reduceAdd, Nat.reduceLT, Nat.reduceLeDiff, Nat.reduceMul, Nat.reduceSub, tokE, eq_true k1, k2, e]
  have e : slashT t = false := by unfold slashT; rw [decide_eq_false k1]; rfl
  simp only [go_sem, Nat.reduceOr, Nat.reducePow, Nat.reduceDiv, Nat.reduceMod, Nat.reduceBEq, Int.reduceBEq, Int.reduceBNe, Int.reduceEq, Int.reduceLT, Int.reduceLE, Int.reduceToNat, reduceIte, reduceCtorEq, Nat.reduceEqDiff, Nat.reduceAdd, Nat.reduceLT, Nat.reduceLeDiff, Nat.reduceMul, Nat.reduceSub, tokE, k1, e])
theorem slashC_run {id : Nat} {h : Heap} {args : List AV} : (slashCS).run id h args = runP (args1 (tAgg tokR) ((fun _ => True))) ((fun t => .ret (bv (slashT t)))) h args := rfl
theorem slashC_pan {id : Nat} {h : Heap} {args : List AV} : (slashCS).pan id h args = panP (args1 (tAgg tokR) ((fun _ => True))) ((fun t => .ret (bv (slashT t)))) h args := rfl
theorem en_rword (args : Array Value) (w : World) : (callFunc 65 args).run Tryd.prog w = .ok (.enter 65 args) w := by go_simp
def rwordS : Spec Tryd.prog 65 :=
  mk1 _ _ _ Tryd.func65 rfl en_rword (tAgg tokR) ((fun _ => True)) ((fun t => .ret (bv (wordT t)))) (by rw [Tryd.ntmps65]; decide) (fun t _ => by
  refine aRun_sound (ctx := []) 4000 ?_
  rw [Tryd.ntmps65, Tryd.results65]
  simp only [Tryd.f65, Option.getD_some, zipT]
  by_cases k1 : t.kind = 1
  · have e : wordT t = true := by unfold wordT; rw [decide_eq_true k1]; rfl
    simp only [go_sem, Nat.reduceOr, Nat.reducePow, Nat.reduceDiv, Nat.reduceMod, Nat.reduceBEq, Int.reduceBEq, Int.reduceBNe, Int.reduceEq, Int.reduceLT, Int.reduceLE, Int.reduceToNat, reduceIte, reduceCtorEq, Nat.reduceEqDiff, Nat.reduceAdd, Nat.reduceLT, Nat.reduceLeDiff, Nat.reduceMul, Nat.reduceSub, tokE, eq_true k1, e]
  by_cases k2 : t.kind = 2
  · have e : wordT t = true := by unfold wordT; rw [decide_eq_true k2, Bool.or_true]
    have b2 : (t.kind == 2) = true := by rw [k2]; rfl
    simp only [go_sem, Nat.reduceOr, Nat.reducePow, Nat.reduceDiv, Nat.reduceMod, Nat.reduceBEq, Int.reduceBEq, Int.reduceBNe, Int.reduceEq, Int.reduceLT, Int.reduceLE, Int.reduceToNat, reduceIte, reduceCtorEq, Nat.reduceEqDiff, Nat.reduceAdd, Nat.reduceLT, Nat.reduceLeDiff, Nat.reduceMul, Nat.reduceSub, tokE, k1, b2, e]
  have e : wordT t = false := by unfold wordT; rw [decide_eq_false k1, decide_eq_false k2]; rfl
  have b2 : (t.kind == 2) = false := beq_eq_false_iff_ne.2 k2
  simp only [go_sem, Nat.reduceOr, Nat.reducePow, Nat.reduceDiv, Nat.reduceMod, Nat.reduceBEq, Int.reduceBEq, Int.reduceBNe, Int.reduceEq, Int.reduceLT, Int.reduceLE, Int.reduceToNat, reduceIte, reduceCtorEq, Nat.reduceEqDiff, Nat.reduceAdd, Nat.reduceLT, Nat.reduceLeDiff, Nat.reduceMul, Nat.reduceSub, tokE, k1, b2, e])
theorem rword_run {id : Nat} {h : Heap} {args : List AV} : (rwordS).run id h args = runP (args1 (tAgg tokR) ((fun _ => True))) ((fun t => .ret (bv (wordT t)))) h args := rfl
theorem rword_pan {id : Nat} {h : Heap} {args : List AV} : (rwordS).pan id h args = panP (args1 (tAgg tokR) ((fun _ => True))) ((fun t => .ret (bv (wordT t)))) h args := rfl
theorem en_rslash (args : Array Value) (w : World) : (callFunc 66 args).run Tryd.prog w = .ok (.enter 66 args) w := by go_simp
def rslashS : Spec Tryd.prog 66 :=
  mk1 _ _ _ Tryd.func66 rfl en_rslash (tAgg tokR) ((fun _ => True)) ((fun t => .ret (bv (slashT t)))) (by rw [Tryd.ntmps66]; decide) (fun t _ => by
  refine aRun_sound (ctx := []) 4000 ?_
  rw [Tryd.ntmps66, Tryd.results66]
  simp only [Tryd.f66, Option.getD_some, zipT]
  by_cases k1 : t.kind = 4
  · by_cases k2 : t.text = ⟨#[47]⟩
    · have e : slashT t = true := by unfold slashT; rw [decide_eq_true k1, decide_eq_true k2]; rfl
      simp only [go_sem, Nat.reduceOr, Nat.reducePow, Nat.reduceDiv, Nat.reduceMod, Nat.reduceBEq, Int.reduceBEq, Int.reduceBNe, Int.reduceEq, Int.reduceLT, Int.reduceLE, Int.reduceToNat, reduceIte, reduceCtorEq, Nat.reduceEqDiff, Nat.reduceAdd, Nat.reduceLT, Nat.reduceLeDiff, Nat.reduceMul, Nat.reduceSub, tokE, eq_true k1, eq_true k2, e]
    · have e : slashT t = false := by unfold slashT; rw [decide_eq_true k1, decide_eq_false k2]; rfl
      simp only [go_sem, Nat.reduceOr, Nat.reducePow, Nat.reduceDiv, Nat.reduceMod, Nat.reduceBEq, Int.reduceBEq, Int.reduceBNe, Int.reduceEq, Int.reduceLT, Int.reduceLE, Int.reduceToNat, reduceIte, reduceCtorEq, Nat.reduceEqDiff, Nat.reduceAdd, Nat.reduceLT, Nat.reduceLeDiff, Nat.reduceMul, Nat.reduceSub, tokE, eq_true k1, k2, e]
  have e : slashT t = false := by unfold slashT; rw [decide_eq_false k1]; rfl
  simp only [go_sem, Nat.reduceOr, Nat.reducePow, Nat.reduceDiv, Nat.reduceMod, Nat.reduceBEq, Int.reduceBEq, Int.reduceBNe, Int.reduceEq, Int.reduceLT, Int.reduceLE, Int.reduceToNat, reduceIte, reduceCtorEq, Nat.reduceEqDiff, Nat.reduceAdd, Nat.reduceLT, Nat.reduceLeDiff, Nat.reduceMul, Nat.reduceSub, tokE, k1, e])
theorem rslash_run {id : Nat} {h : Heap} {args : List AV} : (rslashS).run id h args = runP (args1 (tAgg tokR) ((fun _ => True))) ((fun t => .ret (bv (slashT t)))) h args := rfl
theorem rslash_pan {id : Nat} {h : Heap} {args : List AV} : (rslashS).pan id h args = panP (args1 (tAgg tokR) ((fun _ => True))) ((fun t => .ret (bv (slashT t)))) h args := rfl

set_option maxHeartbeats 1000000 in
theorem apart_sw (a b : Tok) : SW Tryd.prog ⟨none, 0⟩ Tryd.f60.ntmps (Tryd.f60.body.getD .skip) ⟨0, zipT 0 [(tAgg tokR).enc a, (tAgg tokR).enc b], []⟩ (outQ Tryd.prog Tryd.f60.results.toList (.ret (bv (apartF a b)))) := by
  refine aRun_sound (ctx := [⟨_, wordCS⟩, ⟨_, slashCS⟩]) 4000 ?_
  rw [Tryd.ntmps60, Tryd.results60]
  simp only [Tryd.f60, Option.getD_some, zipT]
  have ha := tok_dec a
  have hb := tok_dec b
  unfold apartF
  rcases h1 : wordT a <;> rcases h2 : wordT b <;> rcases h3 : slashT a <;> rcases h4 : slashT b
  all_goals simp only [go_sem, Nat.reduceOr, Nat.reducePow, Nat.reduceDiv, Nat.reduceMod, Nat.reduceBEq, Int.reduceBEq, Int.reduceBNe, Int.reduceEq, Int.reduceLT, Int.reduceLE, Int.reduceToNat, reduceIte, reduceCtorEq, Nat.reduceEqDiff, Nat.reduceAdd, Nat.reduceLT, Nat.reduceLeDiff, Nat.reduceMul, Nat.reduceSub, tokE, wordC_run, wordC_pan, slashC_run, slashC_pan, ha, hb, h1, h2, h3, h4, Bool.and_false, Bool.false_and, Bool.or_false, Bool.false_or, Bool.or_true, Bool.true_or]
theorem en_apart (args : Array Value) (w : World) : (callFunc 60 args).run Tryd.prog w = .ok (.enter 60 args) w := by go_simp
def apartS : Spec Tryd.prog 60 :=
  mk2 _ _ _ Tryd.func60 rfl en_apart (tAgg tokR) (tAgg tokR) ((fun _ _ => True)) ((fun a b => .ret (bv (apartF a b)))) (by rw [Tryd.ntmps60]; decide) (fun a b _ => apart_sw a b)
theorem apart_run {id : Nat} {h : Heap} {args : List AV} : (apartS).run id h args = runP (args2 (tAgg tokR) (tAgg tokR) ((fun _ _ => True))) (fun x => ((fun a b => .ret (bv (apartF a b)))) x.1 x.2) h args := rfl
theorem apart_pan {id : Nat} {h : Heap} {args : List AV} : (apartS).pan id h args = panP (args2 (tAgg tokR) (tAgg tokR) ((fun _ _ => True))) (fun x => ((fun a b => .ret (bv (apartF a b)))) x.1 x.2) h args := rfl

/-! ### The first tokens -/
theorem en_few (args : Array Value) (w : World) : (callFunc 29 args).run Tryd.prog w = .ok (.enter 29 args) w := by go_simp
def fewS : Spec Tryd.prog 29 :=
  mk1 _ _ _ Tryd.func29 rfl en_few (tToks) ((fun _ => True)) ((fun l => .ret (.s (toksV (l.take 700))))) (by rw [Tryd.ntmps29]; decide) (fun l _ => by
  refine aRun_sound (ctx := []) 4000 ?_
  rw [Tryd.ntmps29, Tryd.results29]
  simp only [Tryd.f29, Option.getD_some, zipT]
  by_cases h : 700 < l.length
  · have hI : (700 : Int) < l.length := by omega
    have h2 : (700 : Int) ≤ l.length := by omega
    simp only [go_sem, Nat.reduceOr, Nat.reducePow, Nat.reduceDiv, Nat.reduceMod, Nat.reduceBEq, Int.reduceBEq, Int.reduceBNe, Int.reduceEq, Int.reduceLT, Int.reduceLE, Int.reduceToNat, reduceIte, reduceCtorEq, Nat.reduceEqDiff, Nat.reduceAdd, Nat.reduceLT, Nat.reduceLeDiff, Nat.reduceMul, Nat.reduceSub, hI, h2, toksV, List.map_take, Nat.sub_zero, Int.reduceLE]
  · have e : l.take 700 = l := List.take_of_length_le (by omega)
    have hI : ¬ (700 : Int) < l.length := by omega
    rw [e]
    simp only [go_sem, Nat.reduceOr, Nat.reducePow, Nat.reduceDiv, Nat.reduceMod, Nat.reduceBEq, Int.reduceBEq, Int.reduceBNe, Int.reduceEq, Int.reduceLT, Int.reduceLE, Int.reduceToNat, reduceIte, reduceCtorEq, Nat.reduceEqDiff, Nat.reduceAdd, Nat.reduceLT, Nat.reduceLeDiff, Nat.reduceMul, Nat.reduceSub, hI, toksV, Nat.sub_zero])
theorem few_run {id : Nat} {h : Heap} {args : List AV} : (fewS).run id h args = runP (args1 (tToks) ((fun _ => True))) ((fun l => .ret (.s (toksV (l.take 700))))) h args := rfl
theorem few_pan {id : Nat} {h : Heap} {args : List AV} : (fewS).pan id h args = panP (args1 (tToks) ((fun _ => True))) ((fun l => .ret (.s (toksV (l.take 700))))) h args := rfl

/-! ### Print -/
theorem enc_ren (g : Nat → Nat) (l : List Int) : List.map (fun x => List.map (fun x => LV.ren g x) x) (List.map encByte l) = List.map encByte l := by
  simp [Function.comp_def, encByte, LV.ren]
def prO (p : ByteArray × Int) : AV := .tup [.l (.v (.string p.1)), .l (.v (.int .i64 p.2))]
set_option maxHeartbeats 4000000 in
theorem print_sw (l : List Tok) (hll : l.length ≤ 1000000) (hs : ∀ t ∈ l, smallT t) : SW Tryd.prog ⟨none, 0⟩ Tryd.f30.ntmps (Tryd.f30.body.getD .skip) ⟨0, zipT 0 [tToks.enc l], []⟩ (outQ Tryd.prog Tryd.f30.results.toList (.ret (prO (printF l)))) := by
  refine aRun_sound (ctx := [⟨_, checkS⟩, ⟨_, bdStringS⟩]) 4000 ?_
  rw [Tryd.ntmps30, Tryd.results30]
  simp only [Tryd.f30, Option.getD_some, zipT]
  simp only [go_sem, Nat.reduceOr, Nat.reducePow, Nat.reduceDiv, Nat.reduceMod, Nat.reduceBEq, Int.reduceBEq, Int.reduceBNe, Int.reduceEq, Int.reduceLT, Int.reduceLE, Int.reduceToNat, reduceIte, reduceCtorEq, Nat.reduceEqDiff, Nat.reduceAdd, Nat.reduceLT, Nat.reduceLeDiff, Nat.reduceMul, Nat.reduceSub]
  refine sw_loop (ι := Nat) (fun i => i ≤ l.length ∧ ∀ j t, j < i → l[j]? = some t → checkT t = 0) (fun i => ⟨1, [(0, tToks.enc l), (4, pv 0 0 0), (9, tToks.enc l), (10, iv l.length), (11, iv i)], [(0, some bd0)]⟩) (fun i => l.length - i) 0 ⟨Nat.zero_le _, fun j t h => absurd h (Nat.not_lt_zero _)⟩ ?_ ?_
  · exact Wk.renL [32] (by simp) (by simp) (by simp) rfl rfl
  rintro i ⟨hi, hok⟩
  refine aRun_sound (ctx := [⟨_, checkS⟩, ⟨_, bdStringS⟩]) 4000 ?_
  by_cases hlt : i < l.length
  · have hltI : (i : Int) < l.length := by omega
    obtain ⟨t, ht⟩ : ∃ t, l[i]? = some t := ⟨_, List.getElem?_eq_getElem hlt⟩
    have hdec := tok_dec t
    have hm : t.text.size ≤ maxLen := by have := (hs t (List.mem_of_getElem? ht)).1; unfold maxLen; omega
    have ei : IntKind.i64.wrap ((i : Int) + 1) = ((i + 1 : Nat) : Int) := by rw [IntKind.wrap_i64]; omega
    by_cases c : checkT t = 0
    · simp only [go_sem, Nat.reduceOr, Nat.reducePow, Nat.reduceDiv, Nat.reduceMod, Nat.reduceBEq, Int.reduceBEq, Int.reduceBNe, Int.reduceEq, Int.reduceLT, Int.reduceLE, Int.reduceToNat, reduceIte, reduceCtorEq, Nat.reduceEqDiff, Nat.reduceAdd, Nat.reduceLT, Nat.reduceLeDiff, Nat.reduceMul, Nat.reduceSub, hltI, ht, tokE, check_run, check_pan, hdec, hm, c, ei]
      refine ⟨i + 1, ⟨hlt, fun j u hj hu => ?_⟩, by omega, Wk.renL [0] (by simp) (by simp) (by simp) rfl rfl⟩
      by_cases e : j = i
      · subst e; rw [ht] at hu; injection hu with hu; subst hu; exact c
      · exact hok j u (by omega) hu
    · have e : printF l = (emp, 1) := by unfold printF; rw [allT_not ht c]; rfl
      simp only [go_sem, Nat.reduceOr, Nat.reducePow, Nat.reduceDiv, Nat.reduceMod, Nat.reduceBEq, Int.reduceBEq, Int.reduceBNe, Int.reduceEq, Int.reduceLT, Int.reduceLE, Int.reduceToNat, reduceIte, reduceCtorEq, Nat.reduceEqDiff, Nat.reduceAdd, Nat.reduceLT, Nat.reduceLeDiff, Nat.reduceMul, Nat.reduceSub, hltI, ht, tokE, check_run, check_pan, hdec, hm, c, e, prO, lit_emp]
  have hltI : ¬ (i : Int) < l.length := by omega
  have hall : allT l = true := allT_take fun j t hj ht => hok j t (by omega) ht
  simp only [go_sem, Nat.reduceOr, Nat.reducePow, Nat.reduceDiv, Nat.reduceMod, Nat.reduceBEq, Int.reduceBEq, Int.reduceBNe, Int.reduceEq, Int.reduceLT, Int.reduceLE, Int.reduceToNat, reduceIte, reduceCtorEq, Nat.reduceEqDiff, Nat.reduceAdd, Nat.reduceLT, Nat.reduceLeDiff, Nat.reduceMul, Nat.reduceSub, hltI]
  by_cases hl0 : l = []
  · subst hl0
    refine sw_loop (ι := Unit) (fun _ => True) (fun _ => ⟨1, [(4, pv 0 0 0), (20, iv 0), (21, iv 0)], [(0, some bd0)]⟩) (fun _ => 0) () trivial (Wk.renL [0] (by simp) (by simp) (by simp) rfl rfl) ?_
    intro _ _
    refine aRun_sound (ctx := [⟨_, bdStringS⟩]) 4000 ?_
    simp only [go_sem, Nat.reduceOr, Nat.reducePow, Nat.reduceDiv, Nat.reduceMod, Nat.reduceBEq, Int.reduceBEq, Int.reduceBNe, Int.reduceEq, Int.reduceLT, Int.reduceLE, Int.reduceToNat, reduceIte, reduceCtorEq, Nat.reduceEqDiff, Nat.reduceAdd, Nat.reduceLT, Nat.reduceLeDiff, Nat.reduceMul, Nat.reduceSub, bdString_run, bdString_pan, stringRun, bd0]
    rfl
  have hl1 : 0 < l.length := by
    cases l with
    | nil => exact absurd rfl hl0
    | cons _ _ => simp
  refine sw_loop (ι := Nat × ByteArray) (fun p => p.1 ≤ l.length ∧ printR none emp l = printR (prevT l p.1) p.2 (l.drop p.1) ∧ p.2.size ≤ 512 ∧ (0 < p.1 → 0 < p.2.size)) (fun p => ⟨2, [(0, tToks.enc l), (4, pv 0 0 0), (19, tToks.enc l), (20, iv l.length), (21, iv p.1)], [(0, some (bdK (decide (0 < p.1)) (toBytes p.2).length 1 0)), (1, some (bdBytesK (toBytes p.2)))]⟩) (fun p => l.length - p.1) (0, emp) ⟨Nat.zero_le _, rfl, by decide, fun h => absurd h (Nat.lt_irrefl _)⟩ ?_ ?_
  · exact (Wk.nilC 0 1 5 1 (k := bd0) rfl rfl rfl).trans (Wk.renL [0, 65] (by simp) (Nat.le_refl 2) (by decide) rfl rfl)
  rintro ⟨i, acc⟩ ⟨hi2, hpr, hac, hap⟩
  simp only at hi2 hpr hac hap
  refine aRun_sound (ctx := [⟨_, apartS⟩, ⟨_, text2S⟩, ⟨_, bdByteS⟩, ⟨_, bdStrS⟩, ⟨_, bdLenS⟩, ⟨_, bdStringS⟩]) 4000 ?_
  have hal := toBytes_length acc
  by_cases hlt2 : i < l.length
  · have hltJ : (i : Int) < l.length := by omega
    obtain ⟨t, ht⟩ : ∃ t, l[i]? = some t := ⟨_, List.getElem?_eq_getElem hlt2⟩
    have hdec := tok_dec t
    have hst := hs t (List.mem_of_getElem? ht)
    have hct := allT_get hall ht
    have hts := textT_size hct hst
    have has := addT_size (p := prevT l i) hct hst hac
    have hstep := printR_step (acc := acc) ht
    have ei : IntKind.i64.wrap ((i : Int) + 1) = ((i + 1 : Nat) : Int) := by rw [IntKind.wrap_i64]; omega
    have hb0 := decBytes (toBytes acc)
    have fin : ∀ (a2 : ByteArray), a2 = addT (prevT l i) acc t → ¬ 512 < a2.size → (fun p : Nat × ByteArray => p.1 ≤ l.length ∧ printR none emp l = printR (prevT l p.1) p.2 (l.drop p.1) ∧ p.2.size ≤ 512 ∧ (0 < p.1 → 0 < p.2.size)) (i + 1, a2) := by
      intro a2 e h
      subst e
      refine ⟨hlt2, ?_, by simp only; omega, fun _ => has.1⟩
      rw [hpr, hstep, if_neg h]
    have lon : 512 < (addT (prevT l i) acc t).size → printF l = (emp, 3) := by
      intro h
      unfold printF
      rw [if_pos hall, hpr, hstep, if_pos h]
    obtain ⟨X, hX⟩ : ∃ X, textT t = X := ⟨_, rfl⟩
    have hw : (toBytes acc).length + X.size ≤ 140737488355328 := by rw [← hX]; omega
    by_cases hi0 : i = 0
    · subst hi0
      have hd : decide (0 < 0) = false := rfl
      have ea : addT (prevT l 0) acc t = acc ++ X := by rw [← hX]; rfl
      have eb : toBytes acc ++ toBytes X = toBytes (addT (prevT l 0) acc t) := by rw [ea, toBytes_append]
      have eb2 := decBytes (toBytes (addT (prevT l 0) acc t))
      have hl1I : (0 : Int) < l.length := by omega
      have e01 : IntKind.i64.wrap (0 + 1) = 1 := by rw [IntKind.wrap_i64]; rfl
      simp only [go_sem, Nat.reduceOr, Nat.reducePow, Nat.reduceDiv, Nat.reduceMod, Nat.reduceBEq, Int.reduceBEq, Int.reduceBNe, Int.reduceEq, Int.reduceLT, Int.reduceLE, Int.reduceToNat, reduceIte, reduceCtorEq, Nat.reduceEqDiff, Nat.reduceAdd, Nat.reduceLT, Nat.reduceLeDiff, Nat.reduceMul, Nat.reduceSub, hl1I, ht, tokE]
      refine sw_draw (ctx := [⟨_, apartS⟩]) mixed [] (by kernel_rfl) ?_
      simp only [go_sem, Nat.reduceOr, Nat.reducePow, Nat.reduceDiv, Nat.reduceMod, Nat.reduceBEq, Int.reduceBEq, Int.reduceBNe, Int.reduceEq, Int.reduceLT, Int.reduceLE, Int.reduceToNat, reduceIte, reduceCtorEq, Nat.reduceEqDiff, Nat.reduceAdd, Nat.reduceLT, Nat.reduceLeDiff, Nat.reduceMul, Nat.reduceSub, tokE, text2_run, text2_pan, hdec, hst, hX, bdStr_run, bdStr_pan, bdLen_run, bdLen_pan, decZ, decBd, xzStr, xz0, outBd, bdK, bdA, bdBytesK, hd, hb0, hw, eb, eb2, enc_ren, e01]
      refine ⟨fun h => ?_, fun h => ?_⟩
      · have hz : 512 < (addT (prevT l 0) acc t).size := by rw [toBytes_length] at h; omega
        rw [lon hz]
        rfl
      · have hz : ¬ 512 < (addT (prevT l 0) acc t).size := by rw [toBytes_length] at h; omega
        exact ⟨(0 + 1, addT (prevT l 0) acc t), fin _ rfl hz, by simp only; omega, Wk.renL [0, 338] (by simp) (Nat.le_refl 2) (by decide) rfl (by simp [hget, Blk.ren, encByte, LV.ren, Function.comp_def, bdK, bdA, bdBytesK])⟩
    · have hd : decide (0 < i) = true := decide_eq_true (by omega)
      have hip : (0 : Int) < i := by omega
      have him : IntKind.i64.wrap ((i : Int) - 1) = ((i - 1 : Nat) : Int) := by rw [IntKind.wrap_i64]; omega
      have hjl : ((i - 1 : Nat) : Int) < l.length := by omega
      obtain ⟨p, hp⟩ : ∃ p, l[i - 1]? = some p := ⟨_, List.getElem?_eq_getElem (by omega)⟩
      have hpv : prevT l i = some p := by unfold prevT; rw [if_neg hi0, hp]
      have hpd := tok_dec p
      simp only [go_sem, Nat.reduceOr, Nat.reducePow, Nat.reduceDiv, Nat.reduceMod, Nat.reduceBEq, Int.reduceBEq, Int.reduceBNe, Int.reduceEq, Int.reduceLT, Int.reduceLE, Int.reduceToNat, reduceIte, reduceCtorEq, Nat.reduceEqDiff, Nat.reduceAdd, Nat.reduceLT, Nat.reduceLeDiff, Nat.reduceMul, Nat.reduceSub, hltJ, ht, tokE]
      refine sw_draw (ctx := [⟨_, apartS⟩]) mixed [] (by kernel_rfl) ?_
      rcases hapt : apartF p t
      · have ea : addT (prevT l i) acc t = acc ++ X := by rw [← hX]; unfold addT sepF; rw [hpv]; simp [hapt]
        have eb : toBytes acc ++ toBytes X = toBytes (addT (prevT l i) acc t) := by rw [ea, toBytes_append]
        have eb2 := decBytes (toBytes (addT (prevT l i) acc t))
        simp only [go_sem, Nat.reduceOr, Nat.reducePow, Nat.reduceDiv, Nat.reduceMod, Nat.reduceBEq, Int.reduceBEq, Int.reduceBNe, Int.reduceEq, Int.reduceLT, Int.reduceLE, Int.reduceToNat, reduceIte, reduceCtorEq, Nat.reduceEqDiff, Nat.reduceAdd, Nat.reduceLT, Nat.reduceLeDiff, Nat.reduceMul, Nat.reduceSub, tokE, hip, him, hjl, hp, apart_run, apart_pan, hpd, hapt, text2_run, text2_pan, hdec, hst, hX, bdStr_run, bdStr_pan, bdLen_run, bdLen_pan, decZ, decBd, xzStr, xz0, outBd, bdK, bdA, bdBytesK, hd, hb0, hw, eb, eb2, enc_ren, ei]
        refine ⟨fun h => ?_, fun h => ?_⟩
        · have hz : 512 < (addT (prevT l i) acc t).size := by rw [toBytes_length] at h; omega
          rw [lon hz]
          rfl
        · have hz : ¬ 512 < (addT (prevT l i) acc t).size := by rw [toBytes_length] at h; omega
          exact ⟨(i + 1, addT (prevT l i) acc t), fin _ rfl hz, by simp only; omega, Wk.renL [0, 338] (by simp) (Nat.le_refl 2) (by decide) rfl (by simp [hget, Blk.ren, encByte, LV.ren, Function.comp_def, bdK, bdA, bdBytesK])⟩
      · have ea : addT (prevT l i) acc t = (acc ++ spB) ++ X := by rw [← hX]; unfold addT sepF; rw [hpv]; simp [hapt]
        have eb : (toBytes acc ++ [32]) ++ toBytes X = toBytes (addT (prevT l i) acc t) := by rw [ea, toBytes_append, toBytes_append]; rfl
        have eb2 := decBytes (toBytes (addT (prevT l i) acc t))
        have eb3 := decBytes (toBytes acc ++ [32])
        have hw1 : (toBytes acc).length + 1 ≤ 140737488355328 := by omega
        have hw2 : (toBytes acc ++ [32]).length + X.size ≤ 140737488355328 := by rw [List.length_append]; show (toBytes acc).length + 1 + X.size ≤ _; rw [← hX]; omega
        simp only [aMake, aRun_range, declOf, veil, List.map_nil, roundQ_panic, afterQ_panic, Nat.le_refl, Int.le_refl, take_map1, take_map2, List.take_length, List.length_map, retQ, retD, Int.cast_ofNat_Int, aRun_nil, aRun_b, aRun_o0, aRun_o1, aRun_o2, aRun_skip, aRun_label, aRun_ret, aRun_seq, aRun_block, aRun_cond, aRun_region, aRun_exit, aRun_loop, aRun_draw, afterQ_normal, afterQ_exit, afterQ_ret, aEx_some, aEx_none, aCont_some, aCont_none, aBr_true, aBr_false, aBr_dec, aBr_not, aBr_beq, aBr_bne, aGd_yes, aGd_skip, aGd_tf, aGd_ft, aGd_dec_t, aGd_beq, aGd_bne, aGd_not, popTo, aDr_nil, aDr_one, aDr_yes, aDr_no, aDk_some, eOk, befOf, bindsE, Region.binds, bit, Hp, Nat.reduceOr, Nat.reducePow, Nat.reduceDiv, Nat.reduceMod, Nat.reduceBEq, Int.reduceBEq, Int.reduceBNe, Int.reduceEq, Int.reduceLT, Int.reduceLE, Int.reduceToNat, List.getD_cons_zero, List.getD_cons_succ, List.getD_nil, List.mem_cons, List.mem_singleton, List.not_mem_nil, roundQ_normal, roundQ_exit, roundQ_ret, aOp, evT, tget, putT, dstOk, gAt, setG, hget, aBin, aUn, aConv, aConvS, aLoad, aStore, aNew, aField, aIndexAt, fitsAt, aIndex, bnd, aAppend, aLen, aFld, aMin, flatOf, flatLs, cellsOf, LV.one, Value.oneCell', fillL, splice, chunks, repL, aBuild, aBuildSlice, crun, List.getElem?_cons_zero, List.getElem?_cons_succ, List.map_cons, List.map_nil, Option.map_some, Option.map_none, List.toList_toArray, List.size_toArray, Int.toNat_natCast, Option.isSome_some, List.getElem?_map, reduceIte, reduceCtorEq, Nat.reduceEqDiff, Nat.reduceAdd, Nat.reduceLT, Nat.reduceLeDiff, Nat.reduceMul, Nat.reduceSub, decide_true, decide_false, true_and, and_true, forall_const, not_true_eq_false, not_false_eq_true, Bool.not_true, Bool.not_false, List.cons_append, List.nil_append, List.append_nil, forall_eq, eq_self, beq_iff_eq, decide_eq_true_eq, decide_eq_false_iff_not, beq_eq_false_iff_ne, ne_eq, bne_iff_ne, List.take_succ_cons, List.take_zero, List.drop_succ_cons, List.drop_zero, List.length_cons, List.length_nil, List.set_cons_zero, List.set_cons_succ, Option.some.injEq, true_or, or_true, false_or, or_false, implies_true, Bool.false_eq_true, Bool.true_eq_false, false_implies, and_self, Bool.and_true, Bool.true_and, Bool.and_self, Nat.zero_add, Nat.add_zero, aSlice, aPanQ_none, aPanQ_some, aPan, cpan, calleeOf, aNil, aNilOp, caught, oneOf, D.one, LV.toD0, toDs0, srcOf, ofD, ofDs, outQ_normal, outQ_ret, outQ_panic, outR_normal, outR_ret, outR_panic, endQ_normal, endQ_ret, endQ_panic, rvOf, rvsOf, toSs, aRet, zipT, zipH, zipO, runP, panP, hides, mapT, AV.toD, SV.toD, LV.toD, mapT_ofDs, rows_ofDs, toD_ofD, toDs0_ofDs, args0, args1, args2, args3, args4, tInt, tBool, tStr, tFn, tD, tSl, tAgg, rInt, rStr, decAllD_map, decAllD, AV.plain, SV.plain, LV.plain, List.all_cons, List.all_nil, runR, panR, renH, gOf, AV.ren, SV.ren, LV.ren_v, LV.ren_d, LV.ren_sl, LV.ren_p, LV.ren_any, Blk.ren, rows_ren, ofDs_ren, ofD_ren, Int.natCast_nonneg, ge_iff_le, gt_iff_lt, List.getD_eq_getElem?_getD, Option.getD_some, PO.ret.injEq, exists_eq_left, exists_eq_left', exists_and_left, exists_const, kt_1, sz_1, row_1, sz_2, row_2, zero_2, by_2, str_2, kind_2, cc_2, kt_2, sz_3, row_3, zero_3, by_3, str_3, kind_3, cc_3, kt_3, sz_4, row_4, zero_4, by_4, str_4, cc_4, kt_4, sz_5, row_5, zero_5, by_5, str_5, kind_5, cc_5, kt_5, sz_7, row_7, zero_7, by_7, str_7, cc_7, kt_7, pl_7, off_7_0, fld_7_0, off_7_1, fld_7_1, off_7_2, fld_7_2, off_7_3, fld_7_3, sz_9, row_9, zero_9, by_9, str_9, bs_9, cc_9, kt_9, sz_12, row_12, zero_12, by_12, str_12, kind_12, cc_12, kt_12, sz_13, row_13, zero_13, by_13, str_13, cc_13, kt_13, pl_13, off_13_0, fld_13_0, off_13_1, fld_13_1, sz_15, row_15, zero_15, by_15, str_15, cc_15, und_15, kt_15, sz_16, row_16, zero_16, by_16, str_16, cc_16, und_16, kt_16, sz_17, row_17, zero_17, by_17, str_17, cc_17, und_17, kt_17, sz_18, row_18, zero_18, by_18, str_18, cc_18, kt_18, pl_18, off_18_0, fld_18_0, sz_20, row_20, zero_20, by_20, str_20, cc_20, kt_20, sz_21, row_21, zero_21, by_21, str_21, kind_21, cc_21, kt_21, sz_22, row_22, zero_22, by_22, el_22, str_22, bs_22, cc_22, und_22, kt_22, sz_23, row_23, zero_23, by_23, el_23, str_23, bs_23, cc_23, und_23, kt_23, sz_24, row_24, zero_24, by_24, str_24, kind_24, cc_24, kt_24, kt_26, sz_26, row_26, kt_27, sz_27, row_27, sz_28, row_28, zero_28, by_28, str_28, kind_28, cc_28, kt_28, sz_29, row_29, zero_29, by_29, str_29, cc_29, kt_29, pl_29, off_29_0, fld_29_0, off_29_1, fld_29_1, off_29_2, fld_29_2, off_29_3, fld_29_3, sz_30, row_30, zero_30, by_30, str_30, cc_30, kt_30, pl_30, off_30_0, fld_30_0, off_30_1, fld_30_1, off_30_2, fld_30_2, off_30_3, fld_30_3, kt_31, sz_31, row_31, kt_32, sz_32, row_32, kt_33, sz_33, row_33, kt_34, sz_34, row_34, kt_35, sz_35, row_35, sz_36, row_36, zero_36, by_36, str_36, cc_36, kt_36, kt_37, sz_37, row_37, kt_38, sz_38, row_38, kt_39, sz_39, row_39, kt_40, sz_40, row_40, kt_42, sz_42, row_42, kt_43, sz_43, row_43, kt_44, sz_44, row_44, kt_45, sz_45, row_45, kt_46, sz_46, row_46, kt_47, sz_47, row_47, kt_48, sz_48, row_48, kt_49, sz_49, row_49, sz_50, row_50, zero_50, by_50, str_50, cc_50, kt_50, pl_50, off_50_0, fld_50_0, off_50_1, fld_50_1, off_50_2, fld_50_2, sz_51, row_51, zero_51, by_51, str_51, cc_51, kt_51, pl_51, off_51_0, fld_51_0, off_51_1, fld_51_1, off_51_2, fld_51_2, kt_52, sz_52, row_52, sz_53, row_53, zero_53, by_53, el_53, str_53, bs_53, cc_53, und_53, kt_53, kt_55, sz_55, row_55, kt_57, sz_57, row_57, kt_58, sz_58, row_58, kt_59, sz_59, row_59, kt_60, sz_60, row_60, kt_61, sz_61, row_61, kt_62, sz_62, row_62, kt_64, sz_64, row_64, kt_65, sz_65, row_65, kt_66, sz_66, row_66, kt_67, sz_67, row_67, kt_68, sz_68, row_68, kt_70, sz_70, row_70, kt_71, sz_71, row_71, kt_72, sz_72, row_72, kt_73, sz_73, row_73, sz_74, row_74, zero_74, by_74, str_74, kind_74, cc_74, kt_74, sz_75, row_75, zero_75, by_75, str_75, kind_75, cc_75, kt_75, kt_76, sz_76, row_76, kt_77, sz_77, row_77, kt_78, sz_78, row_78, sz_79, row_79, zero_79, by_79, str_79, cc_79, und_79, kt_79, sz_80, row_80, zero_80, by_80, str_80, cc_80, kt_80, pl_80, off_80_0, fld_80_0, off_80_1, fld_80_1, sz_81, row_81, zero_81, by_81, str_81, cc_81, kt_81, pl_81, off_81_0, fld_81_0, off_81_1, fld_81_1, kt_82, sz_82, row_82, sz_83, row_83, zero_83, by_83, str_83, cc_83, kt_83, sz_84, row_84, zero_84, by_84, str_84, cc_84, kt_84, kt_85, sz_85, row_85, kt_87, sz_87, row_87, kt_88, sz_88, row_88, kt_89, sz_89, row_89, sz_90, row_90, zero_90, by_90, str_90, cc_90, kt_90, pl_90, off_90_0, fld_90_0, off_90_1, fld_90_1, off_90_2, fld_90_2, sz_91, row_91, zero_91, by_91, str_91, cc_91, kt_91, pl_91, off_91_0, fld_91_0, off_91_1, fld_91_1, off_91_2, fld_91_2, sz_92, row_92, zero_92, by_92, str_92, cc_92, und_92, kt_92, asz_92, pl_92, arr_92, kt_93, sz_93, row_93, sz_94, row_94, zero_94, by_94, str_94, cc_94, kt_94, pl_94, off_94_0, fld_94_0, sz_95, row_95, zero_95, by_95, str_95, cc_95, kt_95, pl_95, off_95_0, fld_95_0, sz_96, row_96, zero_96, by_96, str_96, cc_96, und_96, kt_96, sz_97, row_97, zero_97, by_97, str_97, cc_97, kt_97, pl_97, off_97_0, fld_97_0, off_97_1, fld_97_1, off_97_2, fld_97_2, off_97_3, fld_97_3, sz_98, row_98, zero_98, by_98, str_98, cc_98, kt_98, pl_98, off_98_0, fld_98_0, off_98_1, fld_98_1, off_98_2, fld_98_2, off_98_3, fld_98_3, kt_99, sz_99, row_99, sz_100, row_100, zero_100, by_100, el_100, str_100, bs_100, cc_100, und_100, kt_100, kt_101, sz_101, row_101, kt_102, sz_102, row_102, sz_103, row_103, zero_103, by_103, el_103, str_103, bs_103, cc_103, und_103, kt_103, sz_104, row_104, zero_104, by_104, str_104, cc_104, kt_104, pl_104, off_104_0, fld_104_0, off_104_1, fld_104_1, sz_105, row_105, zero_105, by_105, str_105, cc_105, kt_105, pl_105, off_105_0, fld_105_0, off_105_1, fld_105_1, kt_106, sz_106, row_106, sz_107, row_107, zero_107, by_107, el_107, str_107, bs_107, cc_107, und_107, kt_107, sz_108, row_108, zero_108, by_108, str_108, bs_108, cc_108, kt_108, kt_109, sz_109, row_109, kt_111, sz_111, row_111, kt_112, sz_112, row_112, kt_114, sz_114, row_114, kt_115, sz_115, row_115, sz_116, row_116, zero_116, by_116, str_116, cc_116, und_116, kt_116, sz_117, row_117, zero_117, by_117, str_117, cc_117, und_117, kt_117, asz_117, pl_117, arr_117, kt_118, sz_118, row_118, kt_119, sz_119, row_119, kt_120, sz_120, row_120, kt_121, sz_121, row_121, kt_122, sz_122, row_122, kt_124, sz_124, row_124, sz_125, row_125, zero_125, by_125, str_125, cc_125, und_125, kt_125, asz_125, pl_125, arr_125, kt_126, sz_126, row_126, sz_127, row_127, zero_127, by_127, str_127, cc_127, kt_127, pl_127, off_127_0, fld_127_0, off_127_1, fld_127_1, sz_128, row_128, zero_128, by_128, str_128, cc_128, kt_128, pl_128, off_128_0, fld_128_0, off_128_1, fld_128_1, kt_130, sz_130, row_130, sz_131, row_131, zero_131, by_131, str_131, cc_131, und_131, kt_131, asz_131, pl_131, arr_131, kt_132, sz_132, row_132, kt_133, sz_133, row_133, kt_135, sz_135, row_135, sz_136, row_136, zero_136, by_136, str_136, cc_136, kt_136, kt_137, sz_137, row_137, kt_138, sz_138, row_138, kt_139, sz_139, row_139, kt_140, sz_140, row_140, sz_141, row_141, zero_141, by_141, str_141, cc_141, und_141, kt_141, kt_142, sz_142, row_142, sz_143, row_143, zero_143, by_143, str_143, cc_143, und_143, kt_143, asz_143, pl_143, arr_143, sz_144, row_144, zero_144, by_144, str_144, kind_144, cc_144, kt_144, sz_145, row_145, by_145, str_145, cc_145, und_145, kt_145, asz_145, pl_145, arr_145, kt_146, sz_146, row_146, kt_147, sz_147, row_147, kt_148, sz_148, row_148, kt_150, sz_150, row_150, kt_151, sz_151, row_151, kt_152, sz_152, row_152, sz_153, row_153, zero_153, by_153, str_153, cc_153, und_153, kt_153, asz_153, pl_153, arr_153, sz_154, row_154, by_154, str_154, cc_154, und_154, kt_154, asz_154, pl_154, arr_154, sz_156, row_156, zero_156, by_156, str_156, cc_156, und_156, kt_156, kt_157, sz_157, row_157, kt_158, sz_158, row_158, sz_159, row_159, zero_159, by_159, str_159, cc_159, kt_159, pl_159, off_159_0, fld_159_0, off_159_1, fld_159_1, off_159_2, fld_159_2, kt_161, sz_161, row_161, kt_162, sz_162, row_162, sz_163, row_163, zero_163, by_163, str_163, cc_163, und_163, kt_163, sz_164, row_164, zero_164, by_164, str_164, cc_164, kt_164, pl_164, off_164_0, fld_164_0, kt_166, sz_166, row_166, sz_167, row_167, zero_167, by_167, str_167, cc_167, kt_167, pl_167, off_167_0, fld_167_0, off_167_1, fld_167_1, off_167_2, fld_167_2, off_167_3, fld_167_3, sz_169, row_169, by_169, str_169, cc_169, und_169, kt_169, asz_169, pl_169, sz_170, row_170, by_170, str_170, cc_170, kt_170, pl_170, kt_174, sz_174, row_174, sz_177, row_177, zero_177, by_177, str_177, cc_177, kt_177, pl_177, off_177_0, fld_177_0, off_177_1, fld_177_1, off_177_2, fld_177_2, off_177_3, fld_177_3, off_177_4, fld_177_4, off_177_5, fld_177_5, off_177_6, fld_177_6, off_177_7, fld_177_7, off_177_8, fld_177_8, off_177_9, fld_177_9, off_177_10, fld_177_10, tokE, hip, him, hjl, hp, apart_run, apart_pan, hpd, hapt, text2_run, text2_pan, hdec, hst, hX, bdByte_run, bdByte_pan, bdStr_run, bdStr_pan, bdLen_run, bdLen_pan, decZ, decBd, xzByte, xzStr, xz0, outBd, bdK, bdA, bdBytesK, hd, hb0, hw1, hw2, eb, eb2, eb3, enc_ren, ei]
        refine ⟨fun h => ?_, fun h => ?_⟩
        · have hz : 512 < (addT (prevT l i) acc t).size := by rw [toBytes_length] at h; omega
          rw [lon hz]
          rfl
        · have hz : ¬ 512 < (addT (prevT l i) acc t).size := by rw [toBytes_length] at h; omega
          exact ⟨(i + 1, addT (prevT l i) acc t), fin _ rfl hz, by simp only; omega, Wk.renL [0, 354] (by simp) (Nat.le_refl 2) (by decide) rfl (by simp [hget, Blk.ren, encByte, LV.ren, Function.comp_def, bdK, bdA, bdBytesK])⟩
  · have hI : ¬ (i : Int) < l.length := by omega
    obtain rfl : i = l.length := by omega
    have hd : decide (0 < l.length) = true := decide_eq_true hl1
    have hF : printF l = (acc, 0) := by
      unfold printF
      rw [if_pos hall, hpr, List.drop_length]
      rfl
    have hb0 := decBytes (toBytes acc)
    have hob := ofBytes_toBytes acc
    have hne : toBytes acc ≠ [] := by
      have := hap hl1
      intro h
      rw [h] at hal
      simp at hal
      omega
    have hle : (toBytes acc).length ≤ 140737488355328 := by omega
    have hrg : ∀ z ∈ toBytes acc, 0 ≤ z ∧ z ≤ 255 := fun z hz => toBytes_range hz
    simp only [go_sem, Nat.reduceOr, Nat.reducePow, Nat.reduceDiv, Nat.reduceMod, Nat.reduceBEq, Int.reduceBEq, Int.reduceBNe, Int.reduceEq, Int.reduceLT, Int.reduceLE, Int.reduceToNat, reduceIte, reduceCtorEq, Nat.reduceEqDiff, Nat.reduceAdd, Nat.reduceLT, Nat.reduceLeDiff, Nat.reduceMul, Nat.reduceSub, hI, bdString_run, bdString_pan, stringRun, bdK, bdA, bdBytesK, hd, hb0, hob, hF, prO]
    exact ⟨hne, hle, hrg⟩
theorem en_print (args : Array Value) (w : World) : (callFunc 30 args).run Tryd.prog w = .ok (.enter 30 args) w := by go_simp
def printS : Spec Tryd.prog 30 :=
  mk1 _ _ _ Tryd.func30 rfl en_print (tToks) ((fun l => l.length ≤ 1000000 ∧ ∀ t ∈ l, smallT t)) ((fun l => .ret (prO (printF l)))) (by rw [Tryd.ntmps30]; decide) (fun l h => print_sw l h.1 h.2)
theorem print_run {id : Nat} {h : Heap} {args : List AV} : (printS).run id h args = runP (args1 (tToks) ((fun l => l.length ≤ 1000000 ∧ ∀ t ∈ l, smallT t))) ((fun l => .ret (prO (printF l)))) h args := rfl
theorem print_pan {id : Nat} {h : Heap} {args : List AV} : (printS).pan id h args = panP (args1 (tToks) ((fun l => l.length ≤ 1000000 ∧ ∀ t ∈ l, smallT t))) ((fun l => .ret (prO (printF l)))) h args := rfl

end Go.Proofs.YtcdbldakjepjiaaDoor
