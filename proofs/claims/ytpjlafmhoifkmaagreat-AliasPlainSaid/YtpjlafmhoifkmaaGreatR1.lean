/- Instructions: the check, of every class. -/
import Derived.Test.YtpjlafmhoifkmaaGreatR0
set_option linter.unusedVariables false
set_option linter.unusedSimpArgs false
namespace Go.Proofs.YtpjlafmhoifkmaaGreat
open Go.RowKit
set_option maxRecDepth 100000

set_option maxHeartbeats 4000000 in
theorem there22 (xx ss : Bool) (rd rn rm ra a b c : Int) : SW Tryz.prog ⟨none, 0⟩ Tryz.f43.ntmps (Tryz.f43.body.getD .skip) ⟨0, zipT 0 [(tAgg insR).enc ⟨22, xx, ss, rd, rn, rm, ra, a, b, c⟩], []⟩ (outQ Tryz.prog Tryz.f43.results.toList (.ret (bv (thereF ⟨22, xx, ss, rd, rn, rm, ra, a, b, c⟩)))) := by
  refine aRun_sound (ctx := [⟨_, sizedS⟩]) 4000 ?_
  rw [Tryz.ntmps43, Tryz.results43]
  simp only [Tryz.f43, Option.getD_some, zipT]
  have e : thereF ⟨22, xx, ss, rd, rn, rm, ra, a, b, c⟩ = (sizedF ⟨22, xx, ss, rd, rn, rm, ra, a, b, c⟩ && decide (¬ a = 4) && decide (¬ a = 5)) := rfl
  rw [e]
  cases hq : sizedF ⟨22, xx, ss, rd, rn, rm, ra, a, b, c⟩ <;> cases xx <;> simp only [go_sem, insR, sized_run, sized_pan, hq]
  all_goals
    repeat' (first | (refine And.intro ?_ ?_) | (refine fun _ => ?_))
    all_goals first | rfl | (exfalso; omega) | (simp [*, beq_dec, bne_dec]; done)
set_option maxHeartbeats 16000000 in
theorem there_sw (x : Ins) (h : opQ x.op) : SW Tryz.prog ⟨none, 0⟩ Tryz.f43.ntmps (Tryz.f43.body.getD .skip) ⟨0, zipT 0 [(tAgg insR).enc x], []⟩ (outQ Tryz.prog Tryz.f43.results.toList (.ret (bv (thereF x)))) := by
  obtain ⟨op, xx, ss, rd, rn, rm, ra, a, b, c⟩ := x
  simp only at h
  by_cases h22 : op = 22
  · subst h22
    exact there22 xx ss rd rn rm ra a b c
  refine aRun_sound (ctx := [⟨_, logicalS⟩, ⟨_, pairIS⟩, ⟨_, sizedS⟩, ⟨_, indexedS⟩, ⟨_, exclIS⟩, ⟨_, sourcesS⟩]) 4000 ?_
  rw [Tryz.ntmps43, Tryz.results43]
  simp only [Tryz.f43, Option.getD_some, zipT]
  have hop : op = 1 ∨ op = 2 ∨ op = 3 ∨ op = 4 ∨ op = 5 ∨ op = 6 ∨ op = 7 ∨ op = 8 ∨ op = 9 ∨ op = 10 ∨ op = 11 ∨ op = 12 ∨ op = 13 ∨ op = 14 ∨ op = 15 ∨ op = 16 ∨ op = 17 ∨ op = 18 ∨ op = 19 ∨ op = 20 ∨ op = 21 ∨ op = 23 ∨ op = 24 ∨ op = 25 ∨ op = 26 ∨ op = 27 ∨ op = 28 ∨ op = 29 ∨ op = 30 ∨ op = 31 ∨ op = 32 := by
    have := op_cases h
    omega
  rcases hop with rfl | rfl | rfl | rfl | rfl | rfl | rfl | rfl | rfl | rfl | rfl | rfl | rfl | rfl | rfl | rfl | rfl | rfl | rfl | rfl | rfl | rfl | rfl | rfl | rfl | rfl | rfl | rfl | rfl | rfl | rfl
  all_goals
    cases xx <;> simp only [go_sem, insR, logical_run, logical_pan, pairI_run, pairI_pan, sized_run, sized_pan, indexed_run, indexed_pan, exclI_run, exclI_pan, sources_run, sources_pan]
    all_goals
      repeat' (first | (refine And.intro ?_ ?_) | (refine fun _ => ?_))
      all_goals first | rfl | (exfalso; omega) | (unfold thereF; simp [*]; done) | (unfold thereF; simp [*, beq_dec, bne_dec]; done) | (unfold thereF; simp [*]; omega)
theorem en_there (args : Array Value) (w : World) : (callFunc 43 args).run Tryz.prog w = .ok (.enter 43 args) w := by go_simp
def thereS : Spec Tryz.prog 43 :=
  mk1 _ _ _ Tryz.func43 rfl en_there (tAgg insR) ((fun x => opQ x.op)) ((fun x => .ret (bv (thereF x)))) (by rw [Tryz.ntmps43]; decide) (fun x h => there_sw x h)
theorem there_run {id : Nat} {h : Heap} {args : List AV} : (thereS).run id h args = runP (args1 (tAgg insR) ((fun x => opQ x.op))) ((fun x => .ret (bv (thereF x)))) h args := rfl
theorem there_pan {id : Nat} {h : Heap} {args : List AV} : (thereS).pan id h args = panP (args1 (tAgg insR) ((fun x => opQ x.op))) ((fun x => .ret (bv (thereF x)))) h args := rfl
theorem en_icheck (args : Array Value) (w : World) : (callFunc 25 args).run Tryz.prog w = .ok (.enter 25 args) w := by go_simp
def icheckS : Spec Tryz.prog 25 :=
  mk1 _ _ _ Tryz.func25 rfl en_icheck (tAgg insR) ((fun _ => True)) ((fun x => .ret (iv (icheckF x)))) (by rw [Tryz.ntmps25]; decide) (fun x _ => by
  refine aRun_sound (ctx := [⟨_, withinS⟩, ⟨_, thereS⟩]) 4000 ?_
  rw [Tryz.ntmps25, Tryz.results25]
  simp only [Tryz.f25, Option.getD_some, zipT]
  unfold icheckF
  cases h1 : withinF x
  · simp only [go_sem, insR, within_run, within_pan, h1, Bool.false_and]
  · have h : opQ x.op := by
      rcases Classical.em (opQ x.op) with h | h
      · exact h
      · unfold withinF at h1
        rw [lims_no h] at h1
        simp at h1
    cases h2 : thereF x
    · simp only [go_sem, insR, within_run, within_pan, there_run, there_pan, h, h1, h2, Bool.true_and]
    · simp only [go_sem, insR, within_run, within_pan, there_run, there_pan, h, h1, h2, Bool.true_and])
theorem icheck_run {id : Nat} {h : Heap} {args : List AV} : (icheckS).run id h args = runP (args1 (tAgg insR) ((fun _ => True))) ((fun x => .ret (iv (icheckF x)))) h args := rfl
theorem icheck_pan {id : Nat} {h : Heap} {args : List AV} : (icheckS).pan id h args = panP (args1 (tAgg insR) ((fun _ => True))) ((fun x => .ret (iv (icheckF x)))) h args := rfl

end Go.Proofs.YtpjlafmhoifkmaaGreat
