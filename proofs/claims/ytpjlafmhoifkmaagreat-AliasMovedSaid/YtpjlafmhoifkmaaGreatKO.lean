/- The law of moved numbers: its walk. -/
import Derived.Test.YtpjlafmhoifkmaaGreatKH
import Derived.Test.YtpjlafmhoifkmaaGreatKM
import Derived.Test.YtpjlafmhoifkmaaGreatKN
set_option linter.unusedVariables false
set_option linter.unusedSimpArgs false
namespace Go.Proofs.YtpjlafmhoifkmaaGreat
open Go.RowKit
set_option maxRecDepth 100000

def L1 : Ins := ⟨24, true, false, 0, 31, 1, 0, 0, 1, 0⟩
def L2 : Ins := ⟨25, true, true, 31, 1, 2, 0, 0, 1, 0⟩
theorem l1_q : lnQ L1 := ⟨by decide, .inr (.inr (.inl rfl)), .inr (.inr (.inl ⟨rfl, rfl, rfl, rfl, rfl, rfl⟩)), fun h => by cases h⟩
theorem l2_q : lnQ L2 := ⟨by decide, .inr (.inr (.inr rfl)), .inr (.inr (.inr ⟨rfl, rfl, rfl, rfl, rfl, rfl⟩)), fun h => by cases h⟩
theorem l1_r : lnR L1 = ((⟨#[109, 111, 118]⟩ : ByteArray), [dO L1, mO L1]) := rfl
theorem l2_r : lnR L2 = ((⟨#[99, 109, 112]⟩ : ByteArray), [nO L2, mO L2]) := rfl
theorem l1_q' : lnQ ⟨24, true, false, 0, 31, 1, 0, 0, 1, 0⟩ := l1_q
theorem l2_q' : lnQ ⟨25, true, true, 31, 1, 2, 0, 0, 1, 0⟩ := l2_q
theorem l1_r' : lnR ⟨24, true, false, 0, 31, 1, 0, 0, 1, 0⟩ = ((⟨#[109, 111, 118]⟩ : ByteArray), [dO L1, mO L1]) := rfl
theorem l2_r' : lnR ⟨25, true, true, 31, 1, 2, 0, 0, 1, 0⟩ = ((⟨#[99, 109, 112]⟩ : ByteArray), [nO L2, mO L2]) := rfl
set_option maxHeartbeats 1000000 in
theorem en_live (args : Array Value) (w : World) : (callFunc 7 args).run Tryz.prog w = .ok (.enter 7 args) w := by go_simp
def liveS : Spec Tryz.prog 7 :=
  mk0 _ _ _ Tryz.func7 rfl en_live  (True) ((.ret (bv true))) (fun _ => by
  refine aRun_sound (ctx := [⟨_, lineFS⟩]) 4000 ?_
  rw [Tryz.ntmps7, Tryz.results7]
  simp only [Tryz.f7, Option.getD_some, zipT]
  simp only [go_sem, Nat.reduceOr, Nat.reducePow, Nat.reduceDiv, Nat.reduceMod, Nat.reduceBEq, Int.reduceBEq, Int.reduceBNe, Int.reduceEq, Int.reduceLT, Int.reduceLE, Int.reduceToNat, reduceIte, reduceCtorEq, Nat.reduceEqDiff, Nat.reduceAdd, Nat.reduceLT, Nat.reduceLeDiff, Nat.reduceMul, Nat.reduceSub, insR, lineF_run, lineF_pan, l1_q', l2_q', l1_r', l2_r', lnO])
theorem live_run {id : Nat} {h : Heap} {args : List AV} : (liveS).run id h args = runP (args0  (True)) (fun _ => (.ret (bv true))) h args := rfl
theorem live_pan {id : Nat} {h : Heap} {args : List AV} : (liveS).pan id h args = panP (args0  (True)) (fun _ => (.ret (bv true))) h args := rfl

/-! ### The law -/
theorem c_rng {x : Ins} (h : icheckF x = 0) (ho : x.op = 4) : 0 ≤ x.c ∧ x.c ≤ 3 := by
  have hw : withinF x = true := by
    cases hw : withinF x
    · unfold icheckF at h; rw [hw] at h; simp at h
    · rfl
  unfold withinF at hw
  rw [Bool.and_eq_true, Bool.and_eq_true, List.all_eq_true] at hw
  have h9 := hw.1.1 (9, 0, 3) (by rw [ho]; decide)
  unfold inLim at h9
  rw [Bool.and_eq_true, decide_eq_true_eq, decide_eq_true_eq] at h9
  exact h9
theorem moved_q {rd : RegV} {v : Nat} (hv : v < 18446744073709551616) (hm : (moveF rd v).2 = 0) : lnQ (moveF rd v).1 := by
  obtain ⟨h1, h2, h3, h4⟩ := (moved_law rd v hv).2 hm
  refine ⟨h1, ?_, ?_, ?_⟩
  · rcases h2 with h | h
    · exact .inl h
    · exact .inr (.inl h)
  · rcases h2 with h | h
    · exact .inl h
    · exact .inr (.inl ⟨h, c_rng h1 h⟩)
  · intro hn
    rcases h2 with h | h
    · exact h
    · cases hsp : rd.sp with
      | true => exact h3 hsp
      | false =>
        exfalso
        have := h4 hsp
        rw [if_neg (by omega)] at this
        unfold aliasV at hn
        rw [if_neg (by omega), if_pos h, this] at hn
        cases hn
theorem moved_r {rd : RegV} {v : Nat} (hv : v < 18446744073709551616) (hm : (moveF rd v).2 = 0) (hsp : rd.sp = false) : lnR (moveF rd v).1 = ((⟨#[109, 111, 118]⟩ : ByteArray), [{ op0 1 with r := rd }, oNum (i64F v)]) := by
  obtain ⟨h1, h2, h3, h4⟩ := (moved_law rd v hv).2 hm
  have e := h4 hsp
  have ha : aliasV (moveF rd v).1 = some ((⟨#[109, 111, 118]⟩ : ByteArray), [{ op0 1 with r := rd }, oNum (i64F v)]) := by
    unfold aliasV
    rcases h2 with h | h
    · rw [if_pos h] at e ⊢
      exact e
    · rw [if_neg (by omega)] at e
      rw [if_neg (by omega), if_pos h]
      exact e
  unfold lnR
  rw [ha]
theorem deep_oper : deepT Tryz.prog 40 = some [[1], [1, 2, 2], [1, 2, 2], [1], [1], [1], [1, 3, 3], [2], [1]] := by kernel_rfl
set_option maxHeartbeats 8000000 in
theorem moved_sw (rd : RegV) (v : Nat) (hv : v < 18446744073709551616) : SW Tryz.prog ⟨none, 0⟩ Tryz.f3.ntmps (Tryz.f3.body.getD .skip) ⟨0, zipT 0 [(tAgg regR).enc rd, tU.enc (v : Int)], []⟩ (outQ Tryz.prog Tryz.f3.results.toList (.ret (bv true))) := by
  have t : ∀ n : Nat, Int.toNat (n : Int) = n := fun _ => rfl
  have hvI : (0 : Int) ≤ v ∧ (v : Int) < 18446744073709551616 := by omega
  obtain ⟨m, hmm⟩ : ∃ m, moveF rd v = m := ⟨_, rfl⟩
  refine aRun_sound (ctx := [⟨_, liveS⟩, ⟨_, amoveS⟩, ⟨_, lineFS⟩, ⟨_, rcheckS⟩]) 4000 ?_
  rw [Tryz.ntmps3, Tryz.results3]
  simp only [Tryz.f3, Option.getD_some, zipT]
  by_cases hm : m.2 = 0
  case neg =>
    have hz : m.1 = ins0 0 := by rw [← hmm]; exact (moved_law rd v hv).1 (by rw [hmm]; exact hm)
    have hb : (m.2 != 0) = true := by simpa using hm
    simp only [go_sem, Nat.reduceOr, Nat.reducePow, Nat.reduceDiv, Nat.reduceMod, Nat.reduceBEq, Int.reduceBEq, Int.reduceBNe, Int.reduceEq, Int.reduceLT, Int.reduceLE, Int.reduceToNat, reduceIte, reduceCtorEq, Nat.reduceEqDiff, Nat.reduceAdd, Nat.reduceLT, Nat.reduceLeDiff, Nat.reduceMul, Nat.reduceSub, tU, regR, live_run, live_pan, amove_run, amove_pan, hvI.1, hvI.2, t, hmm, moveO, insE, hz, ins0, hb, pure_flat_eql, orPure_eq, flatEq, flat_ins, eqKs]
  have hm' : (moveF rd v).2 = 0 := by rw [hmm]; exact hm
  have hq := moved_q hv hm'
  have hl := (moved_law rd v hv).2 hm'
  have hr := moved_r hv hm'
  rw [hmm] at hq hl hr
  obtain ⟨h1, h2, h3, _⟩ := hl
  have hb : (m.2 != 0) = false := by simpa using hm
  obtain ⟨n, xx, sp⟩ := rd
  cases sp with
  | true =>
    have hb3 : (m.1.op == 3) = true := by simpa using h3 rfl
    obtain ⟨r, hrr⟩ : ∃ r, lnR m.1 = r := ⟨_, rfl⟩
    simp only [go_sem, Nat.reduceOr, Nat.reducePow, Nat.reduceDiv, Nat.reduceMod, Nat.reduceBEq, Int.reduceBEq, Int.reduceBNe, Int.reduceEq, Int.reduceLT, Int.reduceLE, Int.reduceToNat, reduceIte, reduceCtorEq, Nat.reduceEqDiff, Nat.reduceAdd, Nat.reduceLT, Nat.reduceLeDiff, Nat.reduceMul, Nat.reduceSub, tU, regR, insR, live_run, live_pan, amove_run, amove_pan, hvI.1, hvI.2, t, hmm, moveO, insE, hb, lineF_run, lineF_pan, hq, hrr, lnO, rcheck_run, rcheck_pan, op34, h1, h2, hb3]
  | false =>
    have hrr := hr rfl
    simp only [go_sem, Nat.reduceOr, Nat.reducePow, Nat.reduceDiv, Nat.reduceMod, Nat.reduceBEq, Int.reduceBEq, Int.reduceBNe, Int.reduceEq, Int.reduceLT, Int.reduceLE, Int.reduceToNat, reduceIte, reduceCtorEq, Nat.reduceEqDiff, Nat.reduceAdd, Nat.reduceLT, Nat.reduceLeDiff, Nat.reduceMul, Nat.reduceSub, tU, regR, insR, live_run, live_pan, amove_run, amove_pan, hvI.1, hvI.2, t, hmm, moveO, insE, hb, lineF_run, lineF_pan, hq, hrr, lnO, rcheck_run, rcheck_pan, op34, h1, h2]
    refine sw_draw (ctx := []) mixed [] (by kernel_rfl) ?_
    have hi : i64F v = IntKind.i64.wrap (v : Int) := rfl
    simp only [go_sem, Nat.reduceOr, Nat.reducePow, Nat.reduceDiv, Nat.reduceMod, Nat.reduceBEq, Int.reduceBEq, Int.reduceBNe, Int.reduceEq, Int.reduceLT, Int.reduceLE, Int.reduceToNat, reduceIte, reduceCtorEq, Nat.reduceEqDiff, Nat.reduceAdd, Nat.reduceLT, Nat.reduceLeDiff, Nat.reduceMul, Nat.reduceSub, opE, op0, r0, oNum, emp, hi, pure_deep2, orPure_eq, deepEq, deep_oper, eqPs, eqKs, List.length_cons, List.length_nil, List.take_succ_cons, List.take_zero, List.drop_succ_cons, List.drop_zero]
theorem en_moved (args : Array Value) (w : World) : (callFunc 3 args).run Tryz.prog w = .ok (.enter 3 args) w := by go_simp
def movedS : Spec Tryz.prog 3 :=
  mk2 _ _ _ Tryz.func3 rfl en_moved (tAgg regR) (tU) ((fun _ v => 0 ≤ v ∧ v < 18446744073709551616)) ((fun _ _ => .ret (bv true))) (by rw [Tryz.ntmps3]; decide) (fun rd v h => by
  obtain ⟨v, rfl⟩ := Int.eq_ofNat_of_zero_le h.1
  exact moved_sw rd v (by omega))
theorem moved_run {id : Nat} {h : Heap} {args : List AV} : (movedS).run id h args = runP (args2 (tAgg regR) (tU) ((fun _ v => 0 ≤ v ∧ v < 18446744073709551616))) (fun x => ((fun _ _ => .ret (bv true))) x.1 x.2) h args := rfl
theorem moved_pan {id : Nat} {h : Heap} {args : List AV} : (movedS).pan id h args = panP (args2 (tAgg regR) (tU) ((fun _ v => 0 ≤ v ∧ v < 18446744073709551616))) (fun x => ((fun _ _ => .ret (bv true))) x.1 x.2) h args := rfl

end Go.Proofs.YtpjlafmhoifkmaaGreat
