/- Lines: the reference's Print, and the law on it. -/
import Derived.Test.YtcdbldakjepjiaaDoorWs
import Derived.Test.YtcdbldakjepjiaaDoorM1
set_option linter.unusedVariables false
set_option linter.unusedSimpArgs false
namespace Go.Proofs.YtcdbldakjepjiaaDoor
open Go.RowKit
set_option maxRecDepth 100000

set_option maxHeartbeats 8000000 in
theorem rprint_sw (l : List Tok) (hll : l.length ≤ 1000000) (hs : ∀ t ∈ l, smallT t) : SW Tryd.prog ⟨none, 0⟩ Tryd.f31.ntmps (Tryd.f31.body.getD .skip) ⟨0, zipT 0 [tToks.enc l], []⟩ (outQ Tryd.prog Tryd.f31.results.toList (.ret (prO (printF l)))) := by
  refine aRun_sound (ctx := []) 4000 ?_
  rw [Tryd.ntmps31, Tryd.results31]
  simp only [Tryd.f31, Option.getD_some, zipT]
  simp only [go_sem, Nat.reduceOr, Nat.reducePow, Nat.reduceDiv, Nat.reduceMod, Nat.reduceBEq, Int.reduceBEq, Int.reduceBNe, Int.reduceEq, Int.reduceLT, Int.reduceLE, Int.reduceToNat, reduceIte, reduceCtorEq, Nat.reduceEqDiff, Nat.reduceAdd, Nat.reduceLT, Nat.reduceLeDiff, Nat.reduceMul, Nat.reduceSub]
  refine sw_loop (ι := Nat) (fun i => i ≤ l.length ∧ ∀ j t, j < i → l[j]? = some t → checkT t = 0) (fun i => ⟨0, [(0, tToks.enc l), (4, sv emp), (5, iv i)], []⟩) (fun i => l.length - i) 0 ⟨Nat.zero_le _, fun j t h => absurd h (Nat.not_lt_zero _)⟩ (Wk.renL [] (by simp) (by simp) (by simp) rfl rfl) ?_
  rintro i ⟨hi, hok⟩
  refine aRun_sound (ctx := [⟨_, rcheckS⟩]) 4000 ?_
  by_cases hlt : i < l.length
  · have hltI : (i : Int) < l.length := by omega
    obtain ⟨t, ht⟩ : ∃ t, l[i]? = some t := ⟨_, List.getElem?_eq_getElem hlt⟩
    have hdec := tok_dec t
    have hm : t.text.size ≤ maxLen := by have := (hs t (List.mem_of_getElem? ht)).1; unfold maxLen; omega
    have ei : IntKind.i64.wrap ((i : Int) + 1) = ((i + 1 : Nat) : Int) := by rw [IntKind.wrap_i64]; omega
    by_cases c : checkT t = 0
    · simp only [go_sem, Nat.reduceOr, Nat.reducePow, Nat.reduceDiv, Nat.reduceMod, Nat.reduceBEq, Int.reduceBEq, Int.reduceBNe, Int.reduceEq, Int.reduceLT, Int.reduceLE, Int.reduceToNat, reduceIte, reduceCtorEq, Nat.reduceEqDiff, Nat.reduceAdd, Nat.reduceLT, Nat.reduceLeDiff, Nat.reduceMul, Nat.reduceSub, hltI, ht, tokE, rcheck_run, rcheck_pan, hdec, hm, c, ei]
      refine ⟨i + 1, ⟨hlt, fun j u hj hu => ?_⟩, by omega, Wk.renL [] (by simp) (by simp) (by simp) rfl rfl⟩
      by_cases e : j = i
      · subst e; rw [ht] at hu; injection hu with hu; subst hu; exact c
      · exact hok j u (by omega) hu
    · have e : printF l = (emp, 1) := by unfold printF; rw [allT_not ht c]; rfl
      simp only [go_sem, Nat.reduceOr, Nat.reducePow, Nat.reduceDiv, Nat.reduceMod, Nat.reduceBEq, Int.reduceBEq, Int.reduceBNe, Int.reduceEq, Int.reduceLT, Int.reduceLE, Int.reduceToNat, reduceIte, reduceCtorEq, Nat.reduceEqDiff, Nat.reduceAdd, Nat.reduceLT, Nat.reduceLeDiff, Nat.reduceMul, Nat.reduceSub, hltI, ht, tokE, rcheck_run, rcheck_pan, hdec, hm, c, e, prO, lit_emp]
  have hltI : ¬ (i : Int) < l.length := by omega
  have hall : allT l = true := allT_take fun j t hj ht => hok j t (by omega) ht
  simp only [go_sem, Nat.reduceOr, Nat.reducePow, Nat.reduceDiv, Nat.reduceMod, Nat.reduceBEq, Int.reduceBEq, Int.reduceBNe, Int.reduceEq, Int.reduceLT, Int.reduceLE, Int.reduceToNat, reduceIte, reduceCtorEq, Nat.reduceEqDiff, Nat.reduceAdd, Nat.reduceLT, Nat.reduceLeDiff, Nat.reduceMul, Nat.reduceSub, hltI]
  refine sw_loop (ι := Nat × ByteArray) (fun p => p.1 ≤ l.length ∧ printR none emp l = printR (prevT l p.1) p.2 (l.drop p.1) ∧ p.2.size ≤ 512) (fun p => ⟨0, [(0, tToks.enc l), (4, sv p.2), (6, iv p.1)], []⟩) (fun p => l.length - p.1) (0, emp) ⟨Nat.zero_le _, rfl, by decide⟩ (Wk.renL [] (by simp) (by simp) (by simp) rfl rfl) ?_
  rintro ⟨i, acc⟩ ⟨hi2, hpr, hac⟩
  simp only at hi2 hpr hac
  refine aRun_sound (ctx := [⟨_, rwordS⟩, ⟨_, rslashS⟩, ⟨_, rtext2S⟩]) 4000 ?_
  by_cases hlt2 : i < l.length
  · have hltJ : (i : Int) < l.length := by omega
    obtain ⟨t, ht⟩ : ∃ t, l[i]? = some t := ⟨_, List.getElem?_eq_getElem hlt2⟩
    have hdec := tok_dec t
    have hst := hs t (List.mem_of_getElem? ht)
    have hct := allT_get hall ht
    have hts := textT_size hct hst
    have has := addT_size (p := prevT l i) hct hst hac
    have hstep := printR_step (acc := acc) ht
    have ei : IntKind.i64.wrap ((i : Int) + 1) = ((i + 1 : Nat) : Int) := by rw [IntKind.wrap_i64]; omega
    have fin : ∀ (a2 : ByteArray), a2 = addT (prevT l i) acc t → ¬ 512 < a2.size → (fun p : Nat × ByteArray => p.1 ≤ l.length ∧ printR none emp l = printR (prevT l p.1) p.2 (l.drop p.1) ∧ p.2.size ≤ 512) (i + 1, a2) := by
      intro a2 e h
      subst e
      refine ⟨hlt2, ?_, by simp only; omega⟩
      rw [hpr, hstep, if_neg h]
    have lon : 512 < (addT (prevT l i) acc t).size → printF l = (emp, 3) := by
      intro h
      unfold printF
      rw [if_pos hall, hpr, hstep, if_pos h]
    obtain ⟨X, hX⟩ : ∃ X, textT t = X := ⟨_, rfl⟩
    have hw : acc.size + X.size ≤ 140737488355328 := by rw [← hX]; omega
    by_cases hi0 : i = 0
    · subst hi0
      have ea : addT (prevT l 0) acc t = acc ++ X := by rw [← hX]; rfl
      have hl1I : (0 : Int) < l.length := by omega
      have e01 : IntKind.i64.wrap (0 + 1) = 1 := by rw [IntKind.wrap_i64]; rfl
      simp only [go_sem, Nat.reduceOr, Nat.reducePow, Nat.reduceDiv, Nat.reduceMod, Nat.reduceBEq, Int.reduceBEq, Int.reduceBNe, Int.reduceEq, Int.reduceLT, Int.reduceLE, Int.reduceToNat, reduceIte, reduceCtorEq, Nat.reduceEqDiff, Nat.reduceAdd, Nat.reduceLT, Nat.reduceLeDiff, Nat.reduceMul, Nat.reduceSub, hl1I, ht, tokE, rtext2_run, rtext2_pan, hdec, hst, hX, e01, ← ea]
      have hmx : acc.size + X.size ≤ maxLen := by unfold maxLen; omega
      refine ⟨hmx, fun h => ?_, fun h => ?_⟩
      · have hz : 512 < (addT (prevT l 0) acc t).size := by omega
        rw [lon hz]
        rfl
      · have hz : ¬ 512 < (addT (prevT l 0) acc t).size := by omega
        exact ⟨(0 + 1, addT (prevT l 0) acc t), fin _ rfl hz, by simp only; omega, Wk.renL [] (by simp) (by simp) (by simp) rfl rfl⟩
    · have hip : (0 : Int) < i := by omega
      have him : IntKind.i64.wrap ((i : Int) - 1) = ((i - 1 : Nat) : Int) := by rw [IntKind.wrap_i64]; omega
      have hjl : ((i - 1 : Nat) : Int) < l.length := by omega
      obtain ⟨p, hp⟩ : ∃ p, l[i - 1]? = some p := ⟨_, List.getElem?_eq_getElem (by omega)⟩
      have hpv : prevT l i = some p := by unfold prevT; rw [if_neg hi0, hp]
      have hpd := tok_dec p
      rcases h1 : wordT p <;> rcases h2 : wordT t <;> rcases h3 : slashT p <;> rcases h4 : slashT t
      all_goals
        first
        | (have hap : apartF p t = true := by simp [apartF, h1, h2, h3, h4]
           have ea : addT (prevT l i) acc t = (acc ++ ⟨#[32]⟩) ++ X := by rw [← hX]; unfold addT sepF; rw [hpv]; simp [hap, spB]
           have hsp : (acc ++ ⟨#[32]⟩ : ByteArray).size = acc.size + 1 := ByteArray.size_append
           have hs1 : (⟨#[32]⟩ : ByteArray).size = 1 := rfl
           have hmx0 : acc.size + 1 ≤ maxLen := by unfold maxLen; omega
           have hmx : acc.size + 1 + X.size ≤ maxLen := by rw [← hX]; unfold maxLen; omega
           simp only [go_sem, Nat.reduceOr, Nat.reducePow, Nat.reduceDiv, Nat.reduceMod, Nat.reduceBEq, Int.reduceBEq, Int.reduceBNe, Int.reduceEq, Int.reduceLT, Int.reduceLE, Int.reduceToNat, reduceIte, reduceCtorEq, Nat.reduceEqDiff, Nat.reduceAdd, Nat.reduceLT, Nat.reduceLeDiff, Nat.reduceMul, Nat.reduceSub, hltJ, hip, him, hjl, hp, hpd, ht, tokE, rword_run, rword_pan, rslash_run, rslash_pan, h1, h2, h3, h4, rtext2_run, rtext2_pan, hdec, hst, hX, ei, ← ea, hsp, hs1, hmx0, hmx]
           refine ⟨fun h => ?_, fun h => ?_⟩
           · have hz : 512 < (addT (prevT l i) acc t).size := by omega
             rw [lon hz]
             rfl
           · have hz : ¬ 512 < (addT (prevT l i) acc t).size := by omega
             exact ⟨(i + 1, addT (prevT l i) acc t), fin _ rfl hz, by simp only; omega, Wk.renL [] (by simp) (by simp) (by simp) rfl rfl⟩)
        | (have hap : apartF p t = false := by simp [apartF, h1, h2, h3, h4]
           have ea : addT (prevT l i) acc t = acc ++ X := by rw [← hX]; unfold addT sepF; rw [hpv]; simp [hap]
           have hmx : acc.size + X.size ≤ maxLen := by unfold maxLen; omega
           simp only [go_sem, Nat.reduceOr, Nat.reducePow, Nat.reduceDiv, Nat.reduceMod, Nat.reduceBEq, Int.reduceBEq, Int.reduceBNe, Int.reduceEq, Int.reduceLT, Int.reduceLE, Int.reduceToNat, reduceIte, reduceCtorEq, Nat.reduceEqDiff, Nat.reduceAdd, Nat.reduceLT, Nat.reduceLeDiff, Nat.reduceMul, Nat.reduceSub, hltJ, hip, him, hjl, hp, hpd, ht, tokE, rword_run, rword_pan, rslash_run, rslash_pan, h1, h2, h3, h4, rtext2_run, rtext2_pan, hdec, hst, hX, ei, ← ea, hmx]
           refine ⟨fun h => ?_, fun h => ?_⟩
           · have hz : 512 < (addT (prevT l i) acc t).size := by omega
             rw [lon hz]
             rfl
           · have hz : ¬ 512 < (addT (prevT l i) acc t).size := by omega
             exact ⟨(i + 1, addT (prevT l i) acc t), fin _ rfl hz, by simp only; omega, Wk.renL [] (by simp) (by simp) (by simp) rfl rfl⟩)
  · have hI : ¬ (i : Int) < l.length := by omega
    obtain rfl : i = l.length := by omega
    have hF : printF l = (acc, 0) := by
      unfold printF
      rw [if_pos hall, hpr, List.drop_length]
      rfl
    simp only [go_sem, Nat.reduceOr, Nat.reducePow, Nat.reduceDiv, Nat.reduceMod, Nat.reduceBEq, Int.reduceBEq, Int.reduceBNe, Int.reduceEq, Int.reduceLT, Int.reduceLE, Int.reduceToNat, reduceIte, reduceCtorEq, Nat.reduceEqDiff, Nat.reduceAdd, Nat.reduceLT, Nat.reduceLeDiff, Nat.reduceMul, Nat.reduceSub, hI, hF, prO]
theorem en_rprint (args : Array Value) (w : World) : (callFunc 31 args).run Tryd.prog w = .ok (.enter 31 args) w := by go_simp
def rprintS : Spec Tryd.prog 31 :=
  mk1 _ _ _ Tryd.func31 rfl en_rprint (tToks) ((fun l => l.length ≤ 1000000 ∧ ∀ t ∈ l, smallT t)) ((fun l => .ret (prO (printF l)))) (by rw [Tryd.ntmps31]; decide) (fun l h => rprint_sw l h.1 h.2)
theorem rprint_run {id : Nat} {h : Heap} {args : List AV} : (rprintS).run id h args = runP (args1 (tToks) ((fun l => l.length ≤ 1000000 ∧ ∀ t ∈ l, smallT t))) ((fun l => .ret (prO (printF l)))) h args := rfl
theorem rprint_pan {id : Nat} {h : Heap} {args : List AV} : (rprintS).pan id h args = panP (args1 (tToks) ((fun l => l.length ≤ 1000000 ∧ ∀ t ∈ l, smallT t))) ((fun l => .ret (prO (printF l)))) h args := rfl

/-! ### The law -/
theorem few_small {l : List Tok} (h : ∀ t ∈ l, smallT t) : (l.take 700).length ≤ 1000000 ∧ ∀ t ∈ l.take 700, smallT t :=
  ⟨by rw [List.length_take]; omega, fun t ht => h t (List.mem_of_mem_take ht)⟩
theorem prints_sw (l : List Tok) (h : ∀ t ∈ l, smallT t) : SW Tryd.prog ⟨none, 0⟩ Tryd.f7.ntmps (Tryd.f7.body.getD .skip) ⟨0, zipT 0 [tToks.enc l], []⟩ (outQ Tryd.prog Tryd.f7.results.toList (.ret (bv true))) := by
  refine aRun_sound (ctx := [⟨_, fewS⟩, ⟨_, printS⟩, ⟨_, rprintS⟩, ⟨_, begunS⟩]) 4000 ?_
  rw [Tryd.ntmps7, Tryd.results7]
  simp only [Tryd.f7, Option.getD_some, zipT]
  obtain ⟨f1, f2⟩ := few_small h
  obtain ⟨⟨a, e⟩, hu⟩ : ∃ p, printF (l.take 700) = p := ⟨_, rfl⟩
  have hee : (e == e) = true := beq_self_eq_true _
  have hq : (l.take 700).length ≤ 1000000 ∧ ∀ t ∈ l.take 700, smallT t := ⟨f1, f2⟩
  simp only [go_sem, Nat.reduceOr, Nat.reducePow, Nat.reduceDiv, Nat.reduceMod, Nat.reduceBEq, Int.reduceBEq, Int.reduceBNe, Int.reduceEq, Int.reduceLT, Int.reduceLE, Int.reduceToNat, reduceIte, reduceCtorEq, Nat.reduceEqDiff, Nat.reduceAdd, Nat.reduceLT, Nat.reduceLeDiff, Nat.reduceMul, Nat.reduceSub, few_run, few_pan, toksV, print_run, print_pan, rprint_run, rprint_pan, decAllD_map, hu, prO, begun_run, begun_pan, hee]
  exact hq

end Go.Proofs.YtcdbldakjepjiaaDoor
