/- Instructions: the limits of some classes. -/
import Derived.Test.YtpjlafmhoifkmaaGreatK9
set_option linter.unusedVariables false
set_option linter.unusedSimpArgs false
namespace Go.Proofs.YtpjlafmhoifkmaaGreat
open Go.RowKit
set_option maxRecDepth 100000

def sgF (b : Int) : Lim := (7, -(2 ^ (b - 1).toNat), 2 ^ (b - 1).toNat - 1)
def sgQ (b : Int) : Prop := b = 7 ∨ b = 9 ∨ b = 14 ∨ b = 19 ∨ b = 21 ∨ b = 26 ∨ b = 64
theorem sg_e {b : Int} (h : sgQ b) : IntKind.i64.wrap (b - 1) = b - 1 ∧ (0 : Int) ≤ b - 1 ∧ IntKind.i64.wrap (-1 * 2 ^ min (b - 1).toNat 64) = (sgF b).2.1 ∧ IntKind.i64.wrap (IntKind.i64.wrap (1 * 2 ^ min (b - 1).toNat 64) - 1) = (sgF b).2.2 := by
  rcases h with rfl | rfl | rfl | rfl | rfl | rfl | rfl <;> decide
theorem en_signed (args : Array Value) (w : World) : (callFunc 176 args).run Tryz.prog w = .ok (.enter 176 args) w := by go_simp
def signedS : Spec Tryz.prog 176 :=
  mk1 _ _ _ Tryz.func176 rfl en_signed (tInt .i64) (sgQ) ((fun b => .ret (limV (sgF b)))) (by rw [Tryz.ntmps176]; decide) (fun b h => by
  obtain ⟨e1, e2, e3, e4⟩ := sg_e h
  obtain ⟨x, hx⟩ : ∃ x, (sgF b).2.1 = x := ⟨_, rfl⟩
  obtain ⟨y, hy⟩ : ∃ y, (sgF b).2.2 = y := ⟨_, rfl⟩
  have hs : sgF b = (7, x, y) := by rw [← hx, ← hy]; rfl
  rw [hx] at e3
  rw [hy] at e4
  rw [hs]
  refine aRun_sound (ctx := []) 4000 ?_
  rw [Tryz.ntmps176, Tryz.results176]
  simp only [Tryz.f176, Option.getD_some, zipT]
  simp only [go_sem, Nat.reduceOr, Nat.reducePow, Nat.reduceDiv, Nat.reduceMod, Nat.reduceBEq, Int.reduceBEq, Int.reduceBNe, Int.reduceEq, Int.reduceLT, Int.reduceLE, Int.reduceToNat, reduceIte, reduceCtorEq, Nat.reduceEqDiff, Nat.reduceAdd, Nat.reduceLT, Nat.reduceLeDiff, Nat.reduceMul, Nat.reduceSub]
  refine sw_draw (ctx := [⟨_, spanS⟩]) mixed [8] (by kernel_rfl) ?_
  simp only [go_sem, Nat.reduceOr, Nat.reducePow, Nat.reduceDiv, Nat.reduceMod, Nat.reduceBEq, Int.reduceBEq, Int.reduceBNe, Int.reduceEq, Int.reduceLT, Int.reduceLE, Int.reduceToNat, reduceIte, reduceCtorEq, Nat.reduceEqDiff, Nat.reduceAdd, Nat.reduceLT, Nat.reduceLeDiff, Nat.reduceMul, Nat.reduceSub, e1, e2, e3, e4, span_run, span_pan, limV, limL])
theorem signed_run {id : Nat} {h : Heap} {args : List AV} : (signedS).run id h args = runP (args1 (tInt .i64) (sgQ)) ((fun b => .ret (limV (sgF b)))) h args := rfl
theorem signed_pan {id : Nat} {h : Heap} {args : List AV} : (signedS).pan id h args = panP (args1 (tInt .i64) (sgQ)) ((fun b => .ret (limV (sgF b)))) h args := rfl
theorem sg64 : sgF 64 = (7, -9223372036854775808, 9223372036854775807) := by decide
theorem sgq64 : sgQ 64 := by simp [sgQ]
set_option maxHeartbeats 4000000 in
theorem first3 : SW Tryz.prog ⟨none, 0⟩ Tryz.f156.ntmps (Tryz.f156.body.getD .skip) ⟨0, zipT 0 [(tInt .i64).enc 3], []⟩ (outQ Tryz.prog Tryz.f156.results.toList (.ret (limsV (limitsF 3)))) := by
  refine aRun_sound (ctx := [⟨_, flagsS⟩, ⟨_, signedS⟩, ⟨_, fbS⟩, ⟨_, andLS⟩]) 4000 ?_
  rw [Tryz.ntmps156, Tryz.results156]
  simp only [Tryz.f156, Option.getD_some, zipT]
  have e : limitsF 3 = [(1, 0, 1), (3, 0, 31), (4, 0, 31), (7, -9223372036854775808, 9223372036854775807), (8, 0, 3)] := by decide
  have ef0 : flagsF [1, 3, 4] = [(1, 0, 1), (3, 0, 31), (4, 0, 31)] := by decide
  simp only [go_sem, Nat.reduceOr, Nat.reducePow, Nat.reduceDiv, Nat.reduceMod, Nat.reduceBEq, Int.reduceBEq, Int.reduceBNe, Int.reduceEq, Int.reduceLT, Int.reduceLE, Int.reduceToNat, reduceIte, reduceCtorEq, Nat.reduceEqDiff, Nat.reduceAdd, Nat.reduceLT, Nat.reduceLeDiff, Nat.reduceMul, Nat.reduceSub, e, ef0, flags_run, flags_pan, runQ, decQ1, decSl, intRow, decIntL, decAll, xw0, outQ1, limRow, RowL.blk, limL, gOf, andL_run, andL_pan, decQ2, decLimL, limsV, limR, limV, signed_run, signed_pan, sgq64, sg64, fb_run, fb_pan]
set_option maxHeartbeats 4000000 in
theorem first4 : SW Tryz.prog ⟨none, 0⟩ Tryz.f156.ntmps (Tryz.f156.body.getD .skip) ⟨0, zipT 0 [(tInt .i64).enc 4], []⟩ (outQ Tryz.prog Tryz.f156.results.toList (.ret (limsV (limitsF 4)))) := by
  refine aRun_sound (ctx := [⟨_, flagsS⟩, ⟨_, faS⟩, ⟨_, fbS⟩, ⟨_, fcS⟩, ⟨_, andLS⟩]) 4000 ?_
  rw [Tryz.ntmps156, Tryz.results156]
  simp only [Tryz.f156, Option.getD_some, zipT]
  have e : limitsF 4 = [(1, 0, 1), (3, 0, 31), (7, 0, 65535), (8, 0, 3), (9, 0, 3)] := by decide
  have ef0 : flagsF [1, 3] = [(1, 0, 1), (3, 0, 31)] := by decide
  simp only [go_sem, Nat.reduceOr, Nat.reducePow, Nat.reduceDiv, Nat.reduceMod, Nat.reduceBEq, Int.reduceBEq, Int.reduceBNe, Int.reduceEq, Int.reduceLT, Int.reduceLE, Int.reduceToNat, reduceIte, reduceCtorEq, Nat.reduceEqDiff, Nat.reduceAdd, Nat.reduceLT, Nat.reduceLeDiff, Nat.reduceMul, Nat.reduceSub, e, ef0, flags_run, flags_pan, runQ, decQ1, decSl, intRow, decIntL, decAll, xw0, outQ1, limRow, RowL.blk, limL, gOf, andL_run, andL_pan, decQ2, decLimL, limsV, limR, limV, fa_run, fa_pan, fb_run, fb_pan, fc_run, fc_pan]
set_option maxHeartbeats 4000000 in
theorem second24 : SW Tryz.prog ⟨none, 0⟩ Tryz.f157.ntmps (Tryz.f157.body.getD .skip) ⟨0, zipT 0 [(tInt .i64).enc 24], []⟩ (outQ Tryz.prog Tryz.f157.results.toList (.ret (limsV (limitsF 24)))) := by
  refine aRun_sound (ctx := [⟨_, flagsS⟩, ⟨_, saS⟩, ⟨_, sbS⟩, ⟨_, scS⟩, ⟨_, andLS⟩]) 4000 ?_
  rw [Tryz.ntmps157, Tryz.results157]
  simp only [Tryz.f157, Option.getD_some, zipT]
  have e : limitsF 24 = [(1, 0, 1), (2, 0, 1), (3, 0, 31), (4, 0, 31), (5, 0, 31), (7, 0, 63), (8, 0, 3), (9, 0, 3)] := by decide
  have ef0 : flagsF [1, 2, 3, 4, 5] = [(1, 0, 1), (2, 0, 1), (3, 0, 31), (4, 0, 31), (5, 0, 31)] := by decide
  have ef1 : flagsF [1, 3, 4, 5] = [(1, 0, 1), (3, 0, 31), (4, 0, 31), (5, 0, 31)] := by decide
  simp only [go_sem, Nat.reduceOr, Nat.reducePow, Nat.reduceDiv, Nat.reduceMod, Nat.reduceBEq, Int.reduceBEq, Int.reduceBNe, Int.reduceEq, Int.reduceLT, Int.reduceLE, Int.reduceToNat, reduceIte, reduceCtorEq, Nat.reduceEqDiff, Nat.reduceAdd, Nat.reduceLT, Nat.reduceLeDiff, Nat.reduceMul, Nat.reduceSub, e, ef0, ef1, flags_run, flags_pan, runQ, decQ1, decSl, intRow, decIntL, decAll, xw0, outQ1, limRow, RowL.blk, limL, gOf, andL_run, andL_pan, decQ2, decLimL, limsV, limR, limV, sa_run, sa_pan, sb_run, sb_pan, sc_run, sc_pan]
set_option maxHeartbeats 4000000 in
theorem second25 : SW Tryz.prog ⟨none, 0⟩ Tryz.f157.ntmps (Tryz.f157.body.getD .skip) ⟨0, zipT 0 [(tInt .i64).enc 25], []⟩ (outQ Tryz.prog Tryz.f157.results.toList (.ret (limsV (limitsF 25)))) := by
  refine aRun_sound (ctx := [⟨_, flagsS⟩, ⟨_, saS⟩, ⟨_, sbS⟩, ⟨_, scS⟩, ⟨_, andLS⟩]) 4000 ?_
  rw [Tryz.ntmps157, Tryz.results157]
  simp only [Tryz.f157, Option.getD_some, zipT]
  have e : limitsF 25 = [(1, 0, 1), (2, 0, 1), (3, 0, 31), (4, 0, 31), (5, 0, 31), (7, 0, 63), (8, 0, 1), (9, 0, 2)] := by decide
  have ef0 : flagsF [1, 2, 3, 4, 5] = [(1, 0, 1), (2, 0, 1), (3, 0, 31), (4, 0, 31), (5, 0, 31)] := by decide
  have ef1 : flagsF [1, 3, 4, 5] = [(1, 0, 1), (3, 0, 31), (4, 0, 31), (5, 0, 31)] := by decide
  simp only [go_sem, Nat.reduceOr, Nat.reducePow, Nat.reduceDiv, Nat.reduceMod, Nat.reduceBEq, Int.reduceBEq, Int.reduceBNe, Int.reduceEq, Int.reduceLT, Int.reduceLE, Int.reduceToNat, reduceIte, reduceCtorEq, Nat.reduceEqDiff, Nat.reduceAdd, Nat.reduceLT, Nat.reduceLeDiff, Nat.reduceMul, Nat.reduceSub, e, ef0, ef1, flags_run, flags_pan, runQ, decQ1, decSl, intRow, decIntL, decAll, xw0, outQ1, limRow, RowL.blk, limL, gOf, andL_run, andL_pan, decQ2, decLimL, limsV, limR, limV, sa_run, sa_pan, sb_run, sb_pan, sc_run, sc_pan]
theorem en_first (args : Array Value) (w : World) : (callFunc 156 args).run Tryz.prog w = .ok (.enter 156 args) w := by go_simp
def firstS : Spec Tryz.prog 156 :=
  mk1 _ _ _ Tryz.func156 rfl en_first (tInt .i64) ((fun op => op = 3 ∨ op = 4)) ((fun op => .ret (limsV (limitsF op)))) (by rw [Tryz.ntmps156]; decide) (fun op h => by
  rcases h with rfl | rfl
  · exact first3
  · exact first4)
theorem first_run {id : Nat} {h : Heap} {args : List AV} : (firstS).run id h args = runP (args1 (tInt .i64) ((fun op => op = 3 ∨ op = 4))) ((fun op => .ret (limsV (limitsF op)))) h args := rfl
theorem first_pan {id : Nat} {h : Heap} {args : List AV} : (firstS).pan id h args = panP (args1 (tInt .i64) ((fun op => op = 3 ∨ op = 4))) ((fun op => .ret (limsV (limitsF op)))) h args := rfl
theorem en_second (args : Array Value) (w : World) : (callFunc 157 args).run Tryz.prog w = .ok (.enter 157 args) w := by go_simp
def secondS : Spec Tryz.prog 157 :=
  mk1 _ _ _ Tryz.func157 rfl en_second (tInt .i64) ((fun op => op = 24 ∨ op = 25)) ((fun op => .ret (limsV (limitsF op)))) (by rw [Tryz.ntmps157]; decide) (fun op h => by
  rcases h with rfl | rfl
  · exact second24
  · exact second25)
theorem second_run {id : Nat} {h : Heap} {args : List AV} : (secondS).run id h args = runP (args1 (tInt .i64) ((fun op => op = 24 ∨ op = 25))) ((fun op => .ret (limsV (limitsF op)))) h args := rfl
theorem second_pan {id : Nat} {h : Heap} {args : List AV} : (secondS).pan id h args = panP (args1 (tInt .i64) ((fun op => op = 24 ∨ op = 25))) ((fun op => .ret (limsV (limitsF op)))) h args := rfl
def opQ (op : Int) : Prop := op = 3 ∨ op = 4 ∨ op = 24 ∨ op = 25
theorem en_limits (args : Array Value) (w : World) : (callFunc 95 args).run Tryz.prog w = .ok (.enter 95 args) w := by go_simp
def limitsS : Spec Tryz.prog 95 :=
  mk1 _ _ _ Tryz.func95 rfl en_limits (tInt .i64) (opQ) ((fun op => .ret (limsV (limitsF op)))) (by rw [Tryz.ntmps95]; decide) (fun op h => by
  refine aRun_sound (ctx := [⟨_, firstS⟩, ⟨_, secondS⟩]) 4000 ?_
  rw [Tryz.ntmps95, Tryz.results95]
  simp only [Tryz.f95, Option.getD_some, zipT]
  rcases h with rfl | rfl | rfl | rfl
  all_goals simp only [go_sem, Nat.reduceOr, Nat.reducePow, Nat.reduceDiv, Nat.reduceMod, Nat.reduceBEq, Int.reduceBEq, Int.reduceBNe, Int.reduceEq, Int.reduceLT, Int.reduceLE, Int.reduceToNat, reduceIte, reduceCtorEq, Nat.reduceEqDiff, Nat.reduceAdd, Nat.reduceLT, Nat.reduceLeDiff, Nat.reduceMul, Nat.reduceSub, first_run, first_pan, second_run, second_pan, limsV, limR])
theorem limits_run {id : Nat} {h : Heap} {args : List AV} : (limitsS).run id h args = runP (args1 (tInt .i64) (opQ)) ((fun op => .ret (limsV (limitsF op)))) h args := rfl
theorem limits_pan {id : Nat} {h : Heap} {args : List AV} : (limitsS).pan id h args = panP (args1 (tInt .i64) (opQ)) ((fun op => .ret (limsV (limitsF op)))) h args := rfl

end Go.Proofs.YtpjlafmhoifkmaaGreat
