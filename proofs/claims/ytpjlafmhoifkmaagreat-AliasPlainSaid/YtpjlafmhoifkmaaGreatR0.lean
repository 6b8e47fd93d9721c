/- Instructions: what may be, class by class. -/
import Derived.Test.YtpjlafmhoifkmaaGreatKd
set_option linter.unusedVariables false
set_option linter.unusedSimpArgs false
namespace Go.Proofs.YtpjlafmhoifkmaaGreat
open Go.RowKit
set_option maxRecDepth 100000

theorem beq_dec (a b : Int) : (a == b) = decide (a = b) := by by_cases h : a = b <;> simp [h]
theorem bne_dec (a b : Int) : (a != b) = !decide (a = b) := by by_cases h : a = b <;> simp [h]
theorem en_sized (args : Array Value) (w : World) : (callFunc 100 args).run Tryz.prog w = .ok (.enter 100 args) w := by go_simp
def sizedS : Spec Tryz.prog 100 :=
  mk1 _ _ _ Tryz.func100 rfl en_sized (tAgg insR) ((fun _ => True)) ((fun x => .ret (bv (sizedF x)))) (by rw [Tryz.ntmps100]; decide) (fun x _ => by
  refine aRun_sound (ctx := []) 4000 ?_
  rw [Tryz.ntmps100, Tryz.results100]
  simp only [Tryz.f100, Option.getD_some, zipT]
  simp only [go_sem, insR]
  repeat' (first | (refine And.intro ?_ ?_) | (refine fun _ => ?_))
  all_goals first | (exfalso; omega) | (unfold sizedF; simp [*]; done) | (unfold sizedF; simp [*]; omega))
theorem sized_run {id : Nat} {h : Heap} {args : List AV} : (sizedS).run id h args = runP (args1 (tAgg insR) ((fun _ => True))) ((fun x => .ret (bv (sizedF x)))) h args := rfl
theorem sized_pan {id : Nat} {h : Heap} {args : List AV} : (sizedS).pan id h args = panP (args1 (tAgg insR) ((fun _ => True))) ((fun x => .ret (bv (sizedF x)))) h args := rfl
set_option maxHeartbeats 8000000 in
theorem en_pairI (args : Array Value) (w : World) : (callFunc 99 args).run Tryz.prog w = .ok (.enter 99 args) w := by go_simp
def pairIS : Spec Tryz.prog 99 :=
  mk1 _ _ _ Tryz.func99 rfl en_pairI (tAgg insR) ((fun _ => True)) ((fun x => .ret (bv (pairF x)))) (by rw [Tryz.ntmps99]; decide) (fun x _ => by
  refine aRun_sound (ctx := []) 4000 ?_
  rw [Tryz.ntmps99, Tryz.results99]
  simp only [Tryz.f99, Option.getD_some, zipT]
  obtain ⟨op, xx, ss, rd, rn, rm, ra, a, b, c⟩ := x
  cases ss <;> simp only [go_sem, insR]
  all_goals
    repeat' (first | (refine And.intro ?_ ?_) | (refine fun _ => ?_))
    all_goals first | (exfalso; omega) | (unfold pairF; simp [*]; done) | (unfold pairF; simp [*]; omega))
theorem pairI_run {id : Nat} {h : Heap} {args : List AV} : (pairIS).run id h args = runP (args1 (tAgg insR) ((fun _ => True))) ((fun x => .ret (bv (pairF x)))) h args := rfl
theorem pairI_pan {id : Nat} {h : Heap} {args : List AV} : (pairIS).pan id h args = panP (args1 (tAgg insR) ((fun _ => True))) ((fun x => .ret (bv (pairF x)))) h args := rfl
set_option maxHeartbeats 8000000 in
theorem en_sources (args : Array Value) (w : World) : (callFunc 103 args).run Tryz.prog w = .ok (.enter 103 args) w := by go_simp
def sourcesS : Spec Tryz.prog 103 :=
  mk1 _ _ _ Tryz.func103 rfl en_sources (tAgg insR) ((fun _ => True)) ((fun x => .ret (bv (sourcesF x)))) (by rw [Tryz.ntmps103]; decide) (fun x _ => by
  refine aRun_sound (ctx := []) 4000 ?_
  rw [Tryz.ntmps103, Tryz.results103]
  simp only [Tryz.f103, Option.getD_some, zipT]
  simp only [go_sem, insR]
  repeat' (first | (refine And.intro ?_ ?_) | (refine fun _ => ?_))
  all_goals first | (exfalso; omega) | (unfold sourcesF; simp [*]; done) | (unfold sourcesF; simp [*]; omega))
theorem sources_run {id : Nat} {h : Heap} {args : List AV} : (sourcesS).run id h args = runP (args1 (tAgg insR) ((fun _ => True))) ((fun x => .ret (bv (sourcesF x)))) h args := rfl
theorem sources_pan {id : Nat} {h : Heap} {args : List AV} : (sourcesS).pan id h args = panP (args1 (tAgg insR) ((fun _ => True))) ((fun x => .ret (bv (sourcesF x)))) h args := rfl
set_option maxHeartbeats 8000000 in
theorem en_indexed (args : Array Value) (w : World) : (callFunc 101 args).run Tryz.prog w = .ok (.enter 101 args) w := by go_simp
def indexedS : Spec Tryz.prog 101 :=
  mk1 _ _ _ Tryz.func101 rfl en_indexed (tAgg insR) ((fun _ => True)) ((fun x => .ret (bv (idxF x)))) (by rw [Tryz.ntmps101]; decide) (fun x _ => by
  refine aRun_sound (ctx := [⟨_, sizedS⟩]) 4000 ?_
  rw [Tryz.ntmps101, Tryz.results101]
  simp only [Tryz.f101, Option.getD_some, zipT]
  obtain ⟨q, hq⟩ : ∃ q, sizedF x = q := ⟨_, rfl⟩
  cases q <;> simp only [go_sem, insR, sized_run, sized_pan, hq]
  all_goals
    repeat' (first | (refine And.intro ?_ ?_) | (refine fun _ => ?_))
    all_goals first | (exfalso; omega) | (unfold idxF; simp [*]; done) | (unfold idxF; simp [*]; omega) | (unfold idxF; simp [*, beq_dec]; done))
theorem indexed_run {id : Nat} {h : Heap} {args : List AV} : (indexedS).run id h args = runP (args1 (tAgg insR) ((fun _ => True))) ((fun x => .ret (bv (idxF x)))) h args := rfl
theorem indexed_pan {id : Nat} {h : Heap} {args : List AV} : (indexedS).pan id h args = panP (args1 (tAgg insR) ((fun _ => True))) ((fun x => .ret (bv (idxF x)))) h args := rfl
set_option maxHeartbeats 16000000 in
theorem exclI_sw (x : Ins) : SW Tryz.prog ⟨none, 0⟩ Tryz.f102.ntmps (Tryz.f102.body.getD .skip) ⟨0, zipT 0 [(tAgg insR).enc x], []⟩ (outQ Tryz.prog Tryz.f102.results.toList (.ret (bv (exclF x)))) := by
  refine aRun_sound (ctx := []) 4000 ?_
  rw [Tryz.ntmps102, Tryz.results102]
  simp only [Tryz.f102, Option.getD_some, zipT]
  obtain ⟨op, xx, ss, rd, rn, rm, ra, a, b, c⟩ := x
  simp only [go_sem, insR]
  refine sw_draw (ctx := []) mixed [] (by kernel_rfl) ?_
  have h3 : a = 1 ∨ a = 2 ∨ (¬ a = 1 ∧ ¬ a = 2) := by omega
  rcases h3 with rfl | rfl | ⟨h1, h2⟩
  · cases ss <;> cases xx <;> simp only [go_sem]
    all_goals
      repeat' (first | (refine And.intro ?_ ?_) | (refine fun _ => ?_))
      all_goals first | (exfalso; omega) | (unfold exclF; simp [*]; done) | (unfold exclF; simp [*, beq_dec, bne_dec]; done) | (unfold exclF; simp [*]; omega) | (unfold exclF; simp [*, beq_dec, bne_dec]; intro _; omega)
  · cases ss <;> cases xx <;> simp only [go_sem]
    all_goals
      repeat' (first | (refine And.intro ?_ ?_) | (refine fun _ => ?_))
      all_goals first | (exfalso; omega) | (unfold exclF; simp [*]; done) | (unfold exclF; simp [*, beq_dec, bne_dec]; done) | (unfold exclF; simp [*]; omega) | (unfold exclF; simp [*, beq_dec, bne_dec]; intro _; omega)
  · have b1 : (a == 1) = false := by simpa using h1
    have b2 : (a == 2) = false := by simpa using h2
    cases ss <;> cases xx <;> simp only [go_sem, b1, b2]
    all_goals
      repeat' (first | (refine And.intro ?_ ?_) | (refine fun _ => ?_))
      all_goals first | (exfalso; omega) | (unfold exclF; simp [*]; done) | (unfold exclF; simp [*, beq_dec, bne_dec]; done) | (unfold exclF; simp [*]; omega) | (unfold exclF; simp [*, beq_dec, bne_dec]; intro _; omega)
theorem en_exclI (args : Array Value) (w : World) : (callFunc 102 args).run Tryz.prog w = .ok (.enter 102 args) w := by go_simp
def exclIS : Spec Tryz.prog 102 :=
  mk1 _ _ _ Tryz.func102 rfl en_exclI (tAgg insR) ((fun _ => True)) ((fun x => .ret (bv (exclF x)))) (by rw [Tryz.ntmps102]; decide) (fun x _ => exclI_sw x)
theorem exclI_run {id : Nat} {h : Heap} {args : List AV} : (exclIS).run id h args = runP (args1 (tAgg insR) ((fun _ => True))) ((fun x => .ret (bv (exclF x)))) h args := rfl
theorem exclI_pan {id : Nat} {h : Heap} {args : List AV} : (exclIS).pan id h args = panP (args1 (tAgg insR) ((fun _ => True))) ((fun x => .ret (bv (exclF x)))) h args := rfl

end Go.Proofs.YtpjlafmhoifkmaaGreat
