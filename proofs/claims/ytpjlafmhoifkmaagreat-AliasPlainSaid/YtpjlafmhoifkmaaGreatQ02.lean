/- The document's instructions: what may be, class by class. -/
import Derived.Test.YtpjlafmhoifkmaaGreatR0
import Derived.Test.YtpjlafmhoifkmaaGreatI4
set_option linter.unusedVariables false
set_option linter.unusedSimpArgs false
namespace Go.Proofs.YtpjlafmhoifkmaaGreat
open Go.RowKit
set_option maxRecDepth 100000

/-- what the limits tell of some classes -/
theorem wi_c {x : Ins} (h : withinF x = true) : (x.op = 19 → 0 ≤ x.c ∧ x.c ≤ 3) ∧ (x.op = 21 → 0 ≤ x.ra ∧ x.ra ≤ 3) ∧ (x.op = 31 → 2 ≤ x.b ∧ x.b ≤ 23) := by
  have ha := within_all h
  obtain ⟨op, xx, ss, rd, rn, rm, ra, a, b, c⟩ := x
  refine ⟨fun e => ?_, fun e => ?_, fun e => ?_⟩ <;> (simp only at e; subst e; simp [limitsF, limTab, flagsF] at ha; simp [inLim, getF] at ha; simp only []; omega)

theorem en_rsized (args : Array Value) (w : World) : (callFunc 70 args).run Tryz.prog w = .ok (.enter 70 args) w := by go_simp
def rsizedS : Spec Tryz.prog 70 :=
  mk1 _ _ _ Tryz.func70 rfl en_rsized (tAgg insR) ((fun _ => True)) ((fun x => .ret (bv (sizedF x)))) (by rw [Tryz.ntmps70]; decide) (fun x _ => by
  refine aRun_sound (ctx := []) 4000 ?_
  rw [Tryz.ntmps70, Tryz.results70]
  simp only [Tryz.f70, Option.getD_some, zipT]
  simp only [go_sem, insR]
  repeat' (first | (refine And.intro ?_ ?_) | (refine fun _ => ?_))
  all_goals first | rfl | (exfalso; omega) | (unfold sizedF; simp [*]; done) | (unfold sizedF; simp [*, beq_dec, bne_dec]; done) | (unfold sizedF; simp [*]; omega))
theorem rsized_run {id : Nat} {h : Heap} {args : List AV} : (rsizedS).run id h args = runP (args1 (tAgg insR) ((fun _ => True))) ((fun x => .ret (bv (sizedF x)))) h args := rfl
theorem rsized_pan {id : Nat} {h : Heap} {args : List AV} : (rsizedS).pan id h args = panP (args1 (tAgg insR) ((fun _ => True))) ((fun x => .ret (bv (sizedF x)))) h args := rfl
set_option maxHeartbeats 16000000 in
theorem rpair_sw (x : Ins) (h : 0 ≤ x.c ∧ x.c ≤ 3) : SW Tryz.prog ⟨none, 0⟩ Tryz.f69.ntmps (Tryz.f69.body.getD .skip) ⟨0, zipT 0 [(tAgg insR).enc x], []⟩ (outQ Tryz.prog Tryz.f69.results.toList (.ret (bv (pairF x)))) := by
  refine aRun_sound (ctx := []) 4000 ?_
  rw [Tryz.ntmps69, Tryz.results69]
  simp only [Tryz.f69, Option.getD_some, zipT]
  obtain ⟨op, xx, ss, rd, rn, rm, ra, a, b, c⟩ := x
  simp only at h
  have h4 : c = 0 ∨ c = 1 ∨ c = 2 ∨ c = 3 := by omega
  have t0 : (0 : Int).tmod 2 = 0 := rfl
  have t1 : (1 : Int).tmod 2 = 1 := rfl
  have t2 : (2 : Int).tmod 2 = 0 := rfl
  have t3 : (3 : Int).tmod 2 = 1 := rfl
  rcases h4 with rfl | rfl | rfl | rfl <;> cases ss <;> simp only [go_sem, insR, t0, t1, t2, t3]
  all_goals
    repeat' (first | (refine And.intro ?_ ?_) | (refine fun _ => ?_))
    all_goals first | rfl | (exfalso; omega) | (unfold pairF; simp [*]; done) | (unfold pairF; simp [*, beq_dec, bne_dec]; done) | (unfold pairF; simp [*]; omega)
theorem en_rpair (args : Array Value) (w : World) : (callFunc 69 args).run Tryz.prog w = .ok (.enter 69 args) w := by go_simp
def rpairS : Spec Tryz.prog 69 :=
  mk1 _ _ _ Tryz.func69 rfl en_rpair (tAgg insR) ((fun x => 0 ≤ x.c ∧ x.c ≤ 3)) ((fun x => .ret (bv (pairF x)))) (by rw [Tryz.ntmps69]; decide) (fun x h => rpair_sw x h)
theorem rpair_run {id : Nat} {h : Heap} {args : List AV} : (rpairS).run id h args = runP (args1 (tAgg insR) ((fun x => 0 ≤ x.c ∧ x.c ≤ 3))) ((fun x => .ret (bv (pairF x)))) h args := rfl
theorem rpair_pan {id : Nat} {h : Heap} {args : List AV} : (rpairS).pan id h args = panP (args1 (tAgg insR) ((fun x => 0 ≤ x.c ∧ x.c ≤ 3))) ((fun x => .ret (bv (pairF x)))) h args := rfl
set_option maxHeartbeats 8000000 in
theorem en_rtwo (args : Array Value) (w : World) : (callFunc 72 args).run Tryz.prog w = .ok (.enter 72 args) w := by go_simp
def rtwoS : Spec Tryz.prog 72 :=
  mk1 _ _ _ Tryz.func72 rfl en_rtwo (tAgg insR) ((fun x => 2 ≤ x.b ∧ x.b ≤ 23)) ((fun x => .ret (bv (sourcesF x)))) (by rw [Tryz.ntmps72]; decide) (fun x h => by
  refine aRun_sound (ctx := []) 4000 ?_
  rw [Tryz.ntmps72, Tryz.results72]
  simp only [Tryz.f72, Option.getD_some, zipT]
  obtain ⟨op, xx, ss, rd, rn, rm, ra, a, b, c⟩ := x
  simp only at h
  cases xx <;> simp only [go_sem, insR]
  all_goals
    repeat' (first | (refine And.intro ?_ ?_) | (refine fun _ => ?_))
    all_goals first | rfl | (exfalso; omega) | (unfold sourcesF; simp [*]; done) | (unfold sourcesF; simp [*]; omega))
theorem rtwo_run {id : Nat} {h : Heap} {args : List AV} : (rtwoS).run id h args = runP (args1 (tAgg insR) ((fun x => 2 ≤ x.b ∧ x.b ≤ 23))) ((fun x => .ret (bv (sourcesF x)))) h args := rfl
theorem rtwo_pan {id : Nat} {h : Heap} {args : List AV} : (rtwoS).pan id h args = panP (args1 (tAgg insR) ((fun x => 2 ≤ x.b ∧ x.b ≤ 23))) ((fun x => .ret (bv (sourcesF x)))) h args := rfl
set_option maxHeartbeats 16000000 in
theorem rexcl_sw (x : Ins) : SW Tryz.prog ⟨none, 0⟩ Tryz.f71.ntmps (Tryz.f71.body.getD .skip) ⟨0, zipT 0 [(tAgg insR).enc x], []⟩ (outQ Tryz.prog Tryz.f71.results.toList (.ret (bv (exclF x)))) := by
  refine aRun_sound (ctx := []) 4000 ?_
  rw [Tryz.ntmps71, Tryz.results71]
  simp only [Tryz.f71, Option.getD_some, zipT]
  obtain ⟨op, xx, ss, rd, rn, rm, ra, a, b, c⟩ := x
  have h3 : a = 1 ∨ a = 2 ∨ (¬ a = 1 ∧ ¬ a = 2) := by omega
  rcases h3 with rfl | rfl | ⟨h1, h2⟩
  · cases ss <;> cases xx <;> simp only [go_sem, insR]
    all_goals
      repeat' (first | (refine And.intro ?_ ?_) | (refine fun _ => ?_))
      all_goals first | rfl | (exfalso; omega) | (unfold exclF; simp [*]; done) | (unfold exclF; simp [*, beq_dec, bne_dec]; done) | (unfold exclF; simp [*]; omega) | (unfold exclF; simp [*, beq_dec, bne_dec]; intro _; omega)
  · cases ss <;> cases xx <;> simp only [go_sem, insR]
    all_goals
      repeat' (first | (refine And.intro ?_ ?_) | (refine fun _ => ?_))
      all_goals first | rfl | (exfalso; omega) | (unfold exclF; simp [*]; done) | (unfold exclF; simp [*, beq_dec, bne_dec]; done) | (unfold exclF; simp [*]; omega) | (unfold exclF; simp [*, beq_dec, bne_dec]; intro _; omega)
  · have b1 : (a == 1) = false := by simpa using h1
    have b2 : (a == 2) = false := by simpa using h2
    have b3 : (a != 1) = true := by simpa using h1
    cases ss <;> cases xx <;> simp only [go_sem, insR, b1, b2, b3]
    all_goals
      repeat' (first | (refine And.intro ?_ ?_) | (refine fun _ => ?_))
      all_goals first | rfl | (exfalso; omega) | (unfold exclF; simp [*]; done) | (unfold exclF; simp [*, beq_dec, bne_dec]; done) | (unfold exclF; simp [*]; omega) | (unfold exclF; simp [*, beq_dec, bne_dec]; intro _; omega)
theorem en_rexcl (args : Array Value) (w : World) : (callFunc 71 args).run Tryz.prog w = .ok (.enter 71 args) w := by go_simp
def rexclS : Spec Tryz.prog 71 :=
  mk1 _ _ _ Tryz.func71 rfl en_rexcl (tAgg insR) ((fun _ => True)) ((fun x => .ret (bv (exclF x)))) (by rw [Tryz.ntmps71]; decide) (fun x _ => rexcl_sw x)
theorem rexcl_run {id : Nat} {h : Heap} {args : List AV} : (rexclS).run id h args = runP (args1 (tAgg insR) ((fun _ => True))) ((fun x => .ret (bv (exclF x)))) h args := rfl
theorem rexcl_pan {id : Nat} {h : Heap} {args : List AV} : (rexclS).pan id h args = panP (args1 (tAgg insR) ((fun _ => True))) ((fun x => .ret (bv (exclF x)))) h args := rfl

end Go.Proofs.YtpjlafmhoifkmaaGreat
