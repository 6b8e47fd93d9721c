/- Lines: texts of tokens, and the law on texts. -/
import Derived.Test.YtcdbldakjepjiaaDoorWs
import Derived.Test.YtcdbldakjepjiaaDoorLM
import Derived.Test.YtcdbldakjepjiaaDoorLB
set_option linter.unusedVariables false
set_option linter.unusedSimpArgs false
namespace Go.Proofs.YtcdbldakjepjiaaDoor
open Go.RowKit
set_option maxRecDepth 100000

theorem pure_bool {x y : Operand} {a b : Bool} : pureV Tryd.prog (do eqGuard .eql 4 x y (.bool a) (.bool b); binOp .eql 4 (.bool a) (.bool b)) = some (.bool (a == b)) := by
  refine pureV_eq fun w => ?_
  have h2 : (eqGuard .eql 4 x y (.bool a) (.bool b)).run Tryd.prog w = .ok () w := by first | rfl | (cases x <;> cases y <;> rfl) | go_simp
  rw [Sem.run_bind, h2, Result.andThen_ok, show binOp .eql 4 (.bool a) (.bool b) = (do pure (.bool (← Op.equal 4 (.bool a) (.bool b)))) from rfl, Sem.run_bind, run_equal_bool _ _ _ _ Tryd.underlying4]
  rfl

/-! ### Texts -/
def textT (t : Tok) : ByteArray := if checkT t = 0 then if t.kind = 2 then decF t.n else if t.kind = 3 then ofBytes (quoteL (toBytes t.text)) else t.text else emp
def textQ (t : Tok) : Prop := t.text.size ≤ 1000000 ∧ 0 ≤ t.n ∧ t.n < 18446744073709551616
set_option maxHeartbeats 1000000 in
theorem text_sw (t : Tok) (h : textQ t) : SW Tryd.prog ⟨none, 0⟩ Tryd.f23.ntmps (Tryd.f23.body.getD .skip) ⟨0, zipT 0 [(tAgg tokR).enc t], []⟩ (outQ Tryd.prog Tryd.f23.results.toList (.ret (sv (textT t)))) := by
  refine aRun_sound (ctx := [⟨_, checkS⟩, ⟨_, formatS⟩, ⟨_, quoteS⟩]) 4000 ?_
  rw [Tryd.ntmps23, Tryd.results23]
  simp only [Tryd.f23, Option.getD_some, zipT]
  obtain ⟨hs, h0, h1⟩ := h
  have hm : t.text.size ≤ maxLen := by unfold maxLen; omega
  have hdec : tokR.dec [.v (.int .i64 t.kind), .v (.string t.text), .v (.int .u64 t.n), .v (.int .i64 t.pos)] = some t := rfl
  by_cases c : checkT t = 0
  case neg =>
    have e : textT t = emp := by unfold textT; rw [if_neg c]
    simp only [go_sem, Nat.reduceOr, Nat.reducePow, Nat.reduceDiv, Nat.reduceMod, Nat.reduceBEq, Int.reduceBEq, Int.reduceBNe, Int.reduceEq, Int.reduceLT, Int.reduceLE, Int.reduceToNat, reduceIte, reduceCtorEq, Nat.reduceEqDiff, Nat.reduceAdd, Nat.reduceLT, Nat.reduceLeDiff, Nat.reduceMul, Nat.reduceSub, tokE, check_run, check_pan, hdec, hm, c, e, lit_emp]
  by_cases k2 : t.kind = 2
  · have e : textT t = decF t.n := by unfold textT; rw [if_pos c, if_pos k2]
    simp only [go_sem, Nat.reduceOr, Nat.reducePow, Nat.reduceDiv, Nat.reduceMod, Nat.reduceBEq, Int.reduceBEq, Int.reduceBNe, Int.reduceEq, Int.reduceLT, Int.reduceLE, Int.reduceToNat, reduceIte, reduceCtorEq, Nat.reduceEqDiff, Nat.reduceAdd, Nat.reduceLT, Nat.reduceLeDiff, Nat.reduceMul, Nat.reduceSub, tokE, check_run, check_pan, hdec, hm, c, eq_true k2, format_run, format_pan, h0, h1, e]
  by_cases k3 : t.kind = 3
  · have e : textT t = ofBytes (quoteL (toBytes t.text)) := by unfold textT; rw [if_pos c, if_neg k2, if_pos k3]
    simp only [go_sem, Nat.reduceOr, Nat.reducePow, Nat.reduceDiv, Nat.reduceMod, Nat.reduceBEq, Int.reduceBEq, Int.reduceBNe, Int.reduceEq, Int.reduceLT, Int.reduceLE, Int.reduceToNat, reduceIte, reduceCtorEq, Nat.reduceEqDiff, Nat.reduceAdd, Nat.reduceLT, Nat.reduceLeDiff, Nat.reduceMul, Nat.reduceSub, tokE, check_run, check_pan, hdec, hm, c, k2, eq_true k3, quote_run, quote_pan, hs, e]
  have e : textT t = t.text := by unfold textT; rw [if_pos c, if_neg k2, if_neg k3]
  simp only [go_sem, Nat.reduceOr, Nat.reducePow, Nat.reduceDiv, Nat.reduceMod, Nat.reduceBEq, Int.reduceBEq, Int.reduceBNe, Int.reduceEq, Int.reduceLT, Int.reduceLE, Int.reduceToNat, reduceIte, reduceCtorEq, Nat.reduceEqDiff, Nat.reduceAdd, Nat.reduceLT, Nat.reduceLeDiff, Nat.reduceMul, Nat.reduceSub, tokE, check_run, check_pan, hdec, hm, c, k2, k3, e]
theorem en_text (args : Array Value) (w : World) : (callFunc 23 args).run Tryd.prog w = .ok (.enter 23 args) w := by go_simp
def textS : Spec Tryd.prog 23 :=
  mk1 _ _ _ Tryd.func23 rfl en_text (tAgg tokR) (textQ) ((fun t => .ret (sv (textT t)))) (by rw [Tryd.ntmps23]; decide) (fun t h => text_sw t h)
theorem text_run {id : Nat} {h : Heap} {args : List AV} : (textS).run id h args = runP (args1 (tAgg tokR) (textQ)) ((fun t => .ret (sv (textT t)))) h args := rfl
theorem text_pan {id : Nat} {h : Heap} {args : List AV} : (textS).pan id h args = panP (args1 (tAgg tokR) (textQ)) ((fun t => .ret (sv (textT t)))) h args := rfl

def numrS : Spec Tryd.prog 51 := (numPart 19).S
theorem numr_run {id : Nat} {h : Heap} {args : List AV} : numrS.run id h args = runP (args1 (tInt .u64) (numQ 19)) (fun n => .ret (sv (decF n))) h args := (numPart 19).run_eq
theorem numr_pan {id : Nat} {h : Heap} {args : List AV} : numrS.pan id h args = panP (args1 (tInt .u64) (numQ 19)) (fun n => .ret (sv (decF n))) h args := (numPart 19).pan_eq
set_option maxHeartbeats 1000000 in
theorem rtext_sw (t : Tok) (h : textQ t) : SW Tryd.prog ⟨none, 0⟩ Tryd.f24.ntmps (Tryd.f24.body.getD .skip) ⟨0, zipT 0 [(tAgg tokR).enc t], []⟩ (outQ Tryd.prog Tryd.f24.results.toList (.ret (sv (textT t)))) := by
  refine aRun_sound (ctx := [⟨_, rcheckS⟩, ⟨_, numrS⟩, ⟨_, rquoteS⟩]) 4000 ?_
  rw [Tryd.ntmps24, Tryd.results24]
  simp only [Tryd.f24, Option.getD_some, zipT]
  obtain ⟨hs, h0, h1⟩ := h
  have hm : t.text.size ≤ maxLen := by unfold maxLen; omega
  have hdec : tokR.dec [.v (.int .i64 t.kind), .v (.string t.text), .v (.int .u64 t.n), .v (.int .i64 t.pos)] = some t := rfl
  by_cases c : checkT t = 0
  case neg =>
    have e : textT t = emp := by unfold textT; rw [if_neg c]
    simp only [go_sem, Nat.reduceOr, Nat.reducePow, Nat.reduceDiv, Nat.reduceMod, Nat.reduceBEq, Int.reduceBEq, Int.reduceBNe, Int.reduceEq, Int.reduceLT, Int.reduceLE, Int.reduceToNat, reduceIte, reduceCtorEq, Nat.reduceEqDiff, Nat.reduceAdd, Nat.reduceLT, Nat.reduceLeDiff, Nat.reduceMul, Nat.reduceSub, tokE, rcheck_run, rcheck_pan, hdec, hm, c, e, lit_emp]
  by_cases k2 : t.kind = 2
  · have e : textT t = decF t.n := by unfold textT; rw [if_pos c, if_pos k2]
    have hq := numQ_of h0 h1
    simp only [go_sem, Nat.reduceOr, Nat.reducePow, Nat.reduceDiv, Nat.reduceMod, Nat.reduceBEq, Int.reduceBEq, Int.reduceBNe, Int.reduceEq, Int.reduceLT, Int.reduceLE, Int.reduceToNat, reduceIte, reduceCtorEq, Nat.reduceEqDiff, Nat.reduceAdd, Nat.reduceLT, Nat.reduceLeDiff, Nat.reduceMul, Nat.reduceSub, tokE, rcheck_run, rcheck_pan, hdec, hm, c, eq_true k2, numr_run, numr_pan, hq, e]
  by_cases k3 : t.kind = 3
  · have e : textT t = ofBytes (quoteL (toBytes t.text)) := by unfold textT; rw [if_pos c, if_neg k2, if_pos k3]
    simp only [go_sem, Nat.reduceOr, Nat.reducePow, Nat.reduceDiv, Nat.reduceMod, Nat.reduceBEq, Int.reduceBEq, Int.reduceBNe, Int.reduceEq, Int.reduceLT, Int.reduceLE, Int.reduceToNat, reduceIte, reduceCtorEq, Nat.reduceEqDiff, Nat.reduceAdd, Nat.reduceLT, Nat.reduceLeDiff, Nat.reduceMul, Nat.reduceSub, tokE, rcheck_run, rcheck_pan, hdec, hm, c, k2, eq_true k3, rquote_run, rquote_pan, hs, e]
  have e : textT t = t.text := by unfold textT; rw [if_pos c, if_neg k2, if_neg k3]
  simp only [go_sem, Nat.reduceOr, Nat.reducePow, Nat.reduceDiv, Nat.reduceMod, Nat.reduceBEq, Int.reduceBEq, Int.reduceBNe, Int.reduceEq, Int.reduceLT, Int.reduceLE, Int.reduceToNat, reduceIte, reduceCtorEq, Nat.reduceEqDiff, Nat.reduceAdd, Nat.reduceLT, Nat.reduceLeDiff, Nat.reduceMul, Nat.reduceSub, tokE, rcheck_run, rcheck_pan, hdec, hm, c, k2, k3, e]
theorem en_rtext (args : Array Value) (w : World) : (callFunc 24 args).run Tryd.prog w = .ok (.enter 24 args) w := by go_simp
def rtextS : Spec Tryd.prog 24 :=
  mk1 _ _ _ Tryd.func24 rfl en_rtext (tAgg tokR) (textQ) ((fun t => .ret (sv (textT t)))) (by rw [Tryd.ntmps24]; decide) (fun t h => rtext_sw t h)
theorem rtext_run {id : Nat} {h : Heap} {args : List AV} : (rtextS).run id h args = runP (args1 (tAgg tokR) (textQ)) ((fun t => .ret (sv (textT t)))) h args := rfl
theorem rtext_pan {id : Nat} {h : Heap} {args : List AV} : (rtextS).pan id h args = panP (args1 (tAgg tokR) (textQ)) ((fun t => .ret (sv (textT t)))) h args := rfl

theorem en_runquote (args : Array Value) (w : World) : (callFunc 21 args).run Tryd.prog w = .ok (.enter 21 args) w := by go_simp
def runquoteS : Spec Tryd.prog 21 :=
  mk1 _ _ _ Tryd.func21 rfl en_runquote (tStr) ((fun s => s.size ≤ 1099511627776)) ((fun s => .ret (unqO (unquoteF (toBytes s))))) (by rw [Tryd.ntmps21]; decide) (fun s hs => by
  refine aRun_sound (ctx := [⟨_, rquotesS⟩]) 4000 ?_
  rw [Tryd.ntmps21, Tryd.results21]
  simp only [Tryd.f21, Option.getD_some, zipT]
  have hl : (toBytes s).length = s.size := toBytes_length s
  have hb0 := byteAt_bAt0 s
  have bad : ¬ (0 < s.size ∧ byteAt s 0 = 34 ∧ (quotesF (toBytes s)).2 = s.size) → unqO (unquoteF (toBytes s)) = .tup [.l (.v (.string emp)), .l (.v (.int .i64 82))] := fun h => by
    unfold unquoteF; rw [if_neg (by rw [← hb0, hl]; exact h)]; rfl
  by_cases h0 : s.size = 0
  · have h0I : (s.size : Int) = 0 := by omega
    have e := bad (by omega)
    simp only [go_sem, Nat.reduceOr, Nat.reducePow, Nat.reduceDiv, Nat.reduceMod, Nat.reduceBEq, Int.reduceBEq, Int.reduceBNe, Int.reduceEq, Int.reduceLT, Int.reduceLE, Int.reduceToNat, reduceIte, reduceCtorEq, Nat.reduceEqDiff, Nat.reduceAdd, Nat.reduceLT, Nat.reduceLeDiff, Nat.reduceMul, Nat.reduceSub, h0I, e, lit_emp]
  have h0I : ¬ (s.size : Int) = 0 := by omega
  have p0 : (0 : Int) < s.size := by omega
  by_cases h1 : byteAt s 0 = 34
  case neg =>
    have e := bad (fun h => h1 h.2.1)
    simp only [go_sem, Nat.reduceOr, Nat.reducePow, Nat.reduceDiv, Nat.reduceMod, Nat.reduceBEq, Int.reduceBEq, Int.reduceBNe, Int.reduceEq, Int.reduceLT, Int.reduceLE, Int.reduceToNat, reduceIte, reduceCtorEq, Nat.reduceEqDiff, Nat.reduceAdd, Nat.reduceLT, Nat.reduceLeDiff, Nat.reduceMul, Nat.reduceSub, h0I, p0, h1, e, lit_emp]
  by_cases h2 : (quotesF (toBytes s)).2 = s.size
  · have h2I : ((quotesF (toBytes s)).2 : Int) = s.size := by omega
    have e : unquoteF (toBytes s) = ((quotesF (toBytes s)).1, 0) := by unfold unquoteF; rw [if_pos (by rw [← hb0, hl]; exact ⟨by omega, h1, h2⟩)]
    simp only [go_sem, Nat.reduceOr, Nat.reducePow, Nat.reduceDiv, Nat.reduceMod, Nat.reduceBEq, Int.reduceBEq, Int.reduceBNe, Int.reduceEq, Int.reduceLT, Int.reduceLE, Int.reduceToNat, reduceIte, reduceCtorEq, Nat.reduceEqDiff, Nat.reduceAdd, Nat.reduceLT, Nat.reduceLeDiff, Nat.reduceMul, Nat.reduceSub, h0I, p0, h1, rquotes_run, rquotes_pan, hs, quotO, h2I, e, unqO]
  · have h2I : ¬ ((quotesF (toBytes s)).2 : Int) = s.size := by omega
    have e := bad (fun h => h2 h.2.2)
    simp only [go_sem, Nat.reduceOr, Nat.reducePow, Nat.reduceDiv, Nat.reduceMod, Nat.reduceBEq, Int.reduceBEq, Int.reduceBNe, Int.reduceEq, Int.reduceLT, Int.reduceLE, Int.reduceToNat, reduceIte, reduceCtorEq, Nat.reduceEqDiff, Nat.reduceAdd, Nat.reduceLT, Nat.reduceLeDiff, Nat.reduceMul, Nat.reduceSub, h0I, p0, h1, rquotes_run, rquotes_pan, hs, quotO, h2I, e, lit_emp])
theorem runquote_run {id : Nat} {h : Heap} {args : List AV} : (runquoteS).run id h args = runP (args1 (tStr) ((fun s => s.size ≤ 1099511627776))) ((fun s => .ret (unqO (unquoteF (toBytes s))))) h args := rfl
theorem runquote_pan {id : Nat} {h : Heap} {args : List AV} : (runquoteS).pan id h args = panP (args1 (tStr) ((fun s => s.size ≤ 1099511627776))) ((fun s => .ret (unqO (unquoteF (toBytes s))))) h args := rfl

/-! ### The law -/
set_option maxHeartbeats 4000000 in
theorem texts_sw (t : Tok) (s : ByteArray) (h0 : 0 ≤ t.n) (h1 : t.n < 18446744073709551616) : SW Tryd.prog ⟨none, 0⟩ Tryd.f6.ntmps (Tryd.f6.body.getD .skip) ⟨0, zipT 0 [(tAgg tokR).enc t, tStr.enc s], []⟩ (outQ Tryd.prog Tryd.f6.results.toList (.ret (bv true))) := by
  refine aRun_sound (ctx := [⟨_, begunS⟩, ⟨_, unquoteS⟩, ⟨_, runquoteS⟩, ⟨_, checkS⟩, ⟨_, rcheckS⟩, ⟨_, textS⟩, ⟨_, rtextS⟩, ⟨_, quoteS⟩, ⟨_, rquoteS⟩, ⟨_, nameS⟩, ⟨_, rnameS⟩]) 4000 ?_
  rw [Tryd.ntmps6, Tryd.results6]
  simp only [Tryd.f6, Option.getD_some, zipT]
  by_cases c1 : 2000 < s.size
  · have c1I : (2000 : Int) < s.size := by omega
    simp only [go_sem, Nat.reduceOr, Nat.reducePow, Nat.reduceDiv, Nat.reduceMod, Nat.reduceBEq, Int.reduceBEq, Int.reduceBNe, Int.reduceEq, Int.reduceLT, Int.reduceLE, Int.reduceToNat, reduceIte, reduceCtorEq, Nat.reduceEqDiff, Nat.reduceAdd, Nat.reduceLT, Nat.reduceLeDiff, Nat.reduceMul, Nat.reduceSub, tokE, c1I, begun_run, begun_pan]
  have c1I : ¬ (2000 : Int) < s.size := by omega
  by_cases c2 : 2000 < t.text.size
  · have c2I : (2000 : Int) < t.text.size := by omega
    simp only [go_sem, Nat.reduceOr, Nat.reducePow, Nat.reduceDiv, Nat.reduceMod, Nat.reduceBEq, Int.reduceBEq, Int.reduceBNe, Int.reduceEq, Int.reduceLT, Int.reduceLE, Int.reduceToNat, reduceIte, reduceCtorEq, Nat.reduceEqDiff, Nat.reduceAdd, Nat.reduceLT, Nat.reduceLeDiff, Nat.reduceMul, Nat.reduceSub, tokE, c1I, c2I, begun_run, begun_pan]
  have c2I : ¬ (2000 : Int) < t.text.size := by omega
  have hdec : tokR.dec [.v (.int .i64 t.kind), .v (.string t.text), .v (.int .u64 t.n), .v (.int .i64 t.pos)] = some t := rfl
  have hm1 : s.size ≤ 1099511627776 := by omega
  have hm2 : s.size ≤ 1000000 := by omega
  have hm3 : s.size ≤ maxLen := by unfold maxLen; omega
  have hm4 : t.text.size ≤ maxLen := by unfold maxLen; omega
  have hq : textQ t := ⟨by omega, h0, h1⟩
  obtain ⟨⟨a, e⟩, hu⟩ : ∃ p, unquoteF (toBytes s) = p := ⟨_, rfl⟩
  have hee : (e == e) = true := beq_self_eq_true _
  have hcc : (checkT t == checkT t) = true := beq_self_eq_true _
  have hnn : (nameL (toBytes s) == nameL (toBytes s)) = true := beq_self_eq_true _
  simp only [go_sem, Nat.reduceOr, Nat.reducePow, Nat.reduceDiv, Nat.reduceMod, Nat.reduceBEq, Int.reduceBEq, Int.reduceBNe, Int.reduceEq, Int.reduceLT, Int.reduceLE, Int.reduceToNat, reduceIte, reduceCtorEq, Nat.reduceEqDiff, Nat.reduceAdd, Nat.reduceLT, Nat.reduceLeDiff, Nat.reduceMul, Nat.reduceSub, tokE, c1I, c2I, unquote_run, unquote_pan, runquote_run, runquote_pan, hm1, hu, unqO]
  refine sw_draw (ctx := [⟨_, begunS⟩, ⟨_, checkS⟩, ⟨_, rcheckS⟩, ⟨_, textS⟩, ⟨_, rtextS⟩, ⟨_, quoteS⟩, ⟨_, rquoteS⟩, ⟨_, nameS⟩, ⟨_, rnameS⟩]) mixed [] (by kernel_rfl) ?_
  simp only [go_sem, Nat.reduceOr, Nat.reducePow, Nat.reduceDiv, Nat.reduceMod, Nat.reduceBEq, Int.reduceBEq, Int.reduceBNe, Int.reduceEq, Int.reduceLT, Int.reduceLE, Int.reduceToNat, reduceIte, reduceCtorEq, Nat.reduceEqDiff, Nat.reduceAdd, Nat.reduceLT, Nat.reduceLeDiff, Nat.reduceMul, Nat.reduceSub, begun_run, begun_pan, check_run, check_pan, rcheck_run, rcheck_pan, text_run, text_pan, rtext_run, rtext_pan, quote_run, quote_pan, rquote_run, rquote_pan, name_run, name_pan, rname_run, rname_pan, ↓pure_bool, hdec, hm2, hm3, hm4, hq, hee, hcc, hnn]

end Go.Proofs.YtcdbldakjepjiaaDoor
