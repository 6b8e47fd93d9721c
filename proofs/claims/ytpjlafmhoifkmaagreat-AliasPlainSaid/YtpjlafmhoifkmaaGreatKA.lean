/- Instructions: the limits of a class. -/
import Derived.Test.YtpjlafmhoifkmaaGreatKc
set_option linter.unusedVariables false
set_option linter.unusedSimpArgs false
namespace Go.Proofs.YtpjlafmhoifkmaaGreat
open Go.RowKit
set_option maxRecDepth 100000

def sgF (b : Int) : Lim := (7, -(2 ^ (b - 1).toNat), 2 ^ (b - 1).toNat - 1)
def sgQ (b : Int) : Prop := b = 7 ∨ b = 9 ∨ b = 14 ∨ b = 19 ∨ b = 21 ∨ b = 26 ∨ b = 64
theorem sg_e {b : Int} (h : sgQ b) : IntKind.i64.wrap (b - 1) = b - 1 ∧ (0 : Int) ≤ b - 1 ∧ IntKind.i64.wrap (-1 * 2 ^ min (b - 1).toNat 64) = (sgF b).2.1 ∧ IntKind.i64.wrap (IntKind.i64.wrap (1 * 2 ^ min (b - 1).toNat 64) - 1) = (sgF b).2.2 := by
  rcases h with rfl | rfl | rfl | rfl | rfl | rfl | rfl <;> decide
theorem en_signed (args : Array Value) (w : World) : (callFunc 176 args).run Tryz.prog w = .ok (.enter 176 args) w := by go_simp
def signedS : Spec Tryz.prog 176 :=
  mk1 _ _ _ Tryz.func176 rfl en_signed (tInt .i64) (sgQ) ((fun b => .ret (limV (sgF b)))) (by rw [Tryz.ntmps176]; decide) (fun b h => by
  obtain ⟨e1, e2, e3, e4⟩ := sg_e h
  obtain ⟨x, hx⟩ : ∃ x, (sgF b).2.1 = x := ⟨_, rfl⟩
  obtain ⟨y, hy⟩ : ∃ y, (sgF b).2.2 = y := ⟨_, rfl⟩
  have hs : sgF b = (7, x, y) := by rw [← hx, ← hy]; rfl
  rw [hx] at e3
  rw [hy] at e4
  rw [hs]
  refine aRun_sound (ctx := []) 4000 ?_
  rw [Tryz.ntmps176, Tryz.results176]
  simp only [Tryz.f176, Option.getD_some, zipT]
  simp only [go_sem]
  refine sw_draw (ctx := [⟨_, spanS⟩]) mixed [8] (by kernel_rfl) ?_
  simp only [go_sem, e1, e2, e3, e4, span_run, span_pan, limV, limL])
theorem signed_run {id : Nat} {h : Heap} {args : List AV} : (signedS).run id h args = runP (args1 (tInt .i64) (sgQ)) ((fun b => .ret (limV (sgF b)))) h args := rfl
theorem signed_pan {id : Nat} {h : Heap} {args : List AV} : (signedS).pan id h args = panP (args1 (tInt .i64) (sgQ)) ((fun b => .ret (limV (sgF b)))) h args := rfl
theorem ef_1234 : flagsF [1, 2, 3, 4] = [(1, 0, 1), (2, 0, 1), (3, 0, 31), (4, 0, 31)] := by decide
theorem ef_12345 : flagsF [1, 2, 3, 4, 5] = [(1, 0, 1), (2, 0, 1), (3, 0, 31), (4, 0, 31), (5, 0, 31)] := by decide
theorem ef_1245 : flagsF [1, 2, 4, 5] = [(1, 0, 1), (2, 0, 1), (4, 0, 31), (5, 0, 31)] := by decide
theorem ef_13 : flagsF [1, 3] = [(1, 0, 1), (3, 0, 31)] := by decide
theorem ef_134 : flagsF [1, 3, 4] = [(1, 0, 1), (3, 0, 31), (4, 0, 31)] := by decide
theorem ef_1345 : flagsF [1, 3, 4, 5] = [(1, 0, 1), (3, 0, 31), (4, 0, 31), (5, 0, 31)] := by decide
theorem ef_2 : flagsF [2] = [(2, 0, 1)] := by decide
theorem ef_2345 : flagsF [2, 3, 4, 5] = [(2, 0, 1), (3, 0, 31), (4, 0, 31), (5, 0, 31)] := by decide
theorem ef_2346 : flagsF [2, 3, 4, 6] = [(2, 0, 1), (3, 0, 31), (4, 0, 31), (6, 0, 31)] := by decide
theorem ef_3 : flagsF [3] = [(3, 0, 31)] := by decide
theorem ef_34 : flagsF [3, 4] = [(3, 0, 31), (4, 0, 31)] := by decide
theorem ef_4 : flagsF [4] = [(4, 0, 31)] := by decide
theorem sg7 : sgF 7 = (7, -64, 63) := by decide
theorem sgq7 : sgQ 7 := by simp [sgQ]
theorem sg9 : sgF 9 = (7, -256, 255) := by decide
theorem sgq9 : sgQ 9 := by simp [sgQ]
theorem sg14 : sgF 14 = (7, -8192, 8191) := by decide
theorem sgq14 : sgQ 14 := by simp [sgQ]
theorem sg19 : sgF 19 = (7, -262144, 262143) := by decide
theorem sgq19 : sgQ 19 := by simp [sgQ]
theorem sg21 : sgF 21 = (7, -1048576, 1048575) := by decide
theorem sgq21 : sgQ 21 := by simp [sgQ]
theorem sg26 : sgF 26 = (7, -33554432, 33554431) := by decide
theorem sgq26 : sgQ 26 := by simp [sgQ]
theorem sg64 : sgF 64 = (7, -9223372036854775808, 9223372036854775807) := by decide
theorem sgq64 : sgQ 64 := by simp [sgQ]
theorem lf1 : limitsF 1 = [(1, 0, 1), (3, 0, 31), (7, -1048576, 1048575)] := by decide
theorem lf2 : limitsF 2 = [(1, 0, 1), (2, 0, 1), (3, 0, 31), (4, 0, 31), (7, 0, 4095), (8, 0, 1), (9, 0, 1)] := by decide
theorem lf3 : limitsF 3 = [(1, 0, 1), (3, 0, 31), (4, 0, 31), (7, -9223372036854775808, 9223372036854775807), (8, 0, 3)] := by decide
theorem lf4 : limitsF 4 = [(1, 0, 1), (3, 0, 31), (7, 0, 65535), (8, 0, 3), (9, 0, 3)] := by decide
theorem lf5 : limitsF 5 = [(1, 0, 1), (3, 0, 31), (4, 0, 31), (7, 0, 63), (8, 0, 2), (9, 0, 63)] := by decide
theorem lf6 : limitsF 6 = [(1, 0, 1), (3, 0, 31), (4, 0, 31), (5, 0, 31), (7, 0, 63)] := by decide
theorem lf7 : limitsF 7 = [(7, -262144, 262143), (8, 0, 15)] := by decide
theorem lf8 : limitsF 8 = [(2, 0, 1), (7, -33554432, 33554431)] := by decide
theorem lf9 : limitsF 9 = [(1, 0, 1), (3, 0, 31), (7, -262144, 262143), (8, 0, 1)] := by decide
theorem lf10 : limitsF 10 = [(3, 0, 31), (7, -8192, 8191), (8, 0, 1), (9, 0, 63)] := by decide
theorem lf11 : limitsF 11 = [(4, 0, 31), (8, 0, 4)] := by decide
theorem lf12 : limitsF 12 = [(7, 0, 65535), (8, 0, 7)] := by decide
theorem lf13 : limitsF 13 = [(7, 0, 127)] := by decide
theorem lf14 : limitsF 14 = [(7, 0, 15), (8, 2, 6)] := by decide
theorem lf15 : limitsF 15 = [(3, 0, 31), (7, 0, 32767), (8, 0, 1)] := by decide
theorem lf16 : limitsF 16 = [(7, 0, 15), (8, 0, 5)] := by decide
theorem lf17 : limitsF 17 = [(3, 0, 31), (7, 0, 16383), (8, 0, 1)] := by decide
theorem lf18 : limitsF 18 = [(3, 0, 31), (7, -262144, 262143), (8, 0, 3)] := by decide
theorem lf19 : limitsF 19 = [(2, 0, 1), (3, 0, 31), (4, 0, 31), (6, 0, 31), (7, -64, 63), (8, 0, 2), (9, 0, 3)] := by decide
theorem lf20 : limitsF 20 = [(3, 0, 31), (4, 0, 31), (7, 0, 4095), (8, 0, 3), (9, 0, 3)] := by decide
theorem lf21 : limitsF 21 = [(3, 0, 31), (4, 0, 31), (6, 0, 3), (7, -256, 255), (8, 0, 3), (9, 0, 3)] := by decide
theorem lf22 : limitsF 22 = [(2, 0, 1), (3, 0, 31), (4, 0, 31), (5, 0, 31), (7, 2, 7), (8, 0, 3), (9, 0, 3)] := by decide
theorem lf23 : limitsF 23 = [(1, 0, 1), (2, 0, 1), (3, 0, 31), (4, 0, 31), (5, 0, 31), (6, 0, 31), (7, 0, 2), (8, 0, 3)] := by decide
theorem lf24 : limitsF 24 = [(1, 0, 1), (2, 0, 1), (3, 0, 31), (4, 0, 31), (5, 0, 31), (7, 0, 63), (8, 0, 3), (9, 0, 3)] := by decide
theorem lf25 : limitsF 25 = [(1, 0, 1), (2, 0, 1), (3, 0, 31), (4, 0, 31), (5, 0, 31), (7, 0, 63), (8, 0, 1), (9, 0, 2)] := by decide
theorem lf26 : limitsF 26 = [(1, 0, 1), (2, 0, 1), (3, 0, 31), (4, 0, 31), (5, 0, 31), (7, 0, 4), (8, 0, 1), (9, 0, 7)] := by decide
theorem lf27 : limitsF 27 = [(1, 0, 1), (2, 0, 1), (3, 0, 31), (4, 0, 31), (5, 0, 31), (8, 0, 1)] := by decide
theorem lf28 : limitsF 28 = [(1, 0, 1), (2, 0, 1), (4, 0, 31), (5, 0, 31), (7, 0, 15), (8, 0, 1), (9, 0, 15)] := by decide
theorem lf29 : limitsF 29 = [(1, 0, 1), (3, 0, 31), (4, 0, 31), (5, 0, 31), (7, 0, 15), (8, 0, 3)] := by decide
theorem lf30 : limitsF 30 = [(1, 0, 1), (3, 0, 31), (4, 0, 31), (8, 0, 5)] := by decide
theorem lf31 : limitsF 31 = [(1, 0, 1), (3, 0, 31), (4, 0, 31), (5, 0, 31), (8, 2, 23)] := by decide
theorem lf32 : limitsF 32 = [(1, 0, 1), (3, 0, 31), (4, 0, 31), (5, 0, 31), (6, 0, 31), (8, 0, 7)] := by decide
attribute [local go_sem] limL limV span_run span_pan ef_1234 sgq7 flags_run decQN decSl sg19 sg21 sgq21 limsV decQ2 signed_pan andL_pan andN_run upto_run sg9 sgq9 upto_pan sg14 decIntL decLimL ef_12345 sg7 outQ1 ef_1345 ef_134 andN_pan sgq64 intRow RowL.blk decQ1 signed_run ef_3 sg26 sgq14 ef_2 andL_run flags_pan limRow decAll limR ef_2345 sg64 runQ ef_1245 ef_13 ef_2346 ef_34 sgq19 sgq26 xw0 gOf ef_4
set_option maxHeartbeats 4000000 in
theorem first1 : SW Tryz.prog ⟨none, 0⟩ Tryz.f156.ntmps (Tryz.f156.body.getD .skip) ⟨0, zipT 0 [(tInt .i64).enc 1], []⟩ (outQ Tryz.prog Tryz.f156.results.toList (.ret (limsV (limitsF 1)))) := by
  refine aRun_sound (ctx := [⟨_, flagsS⟩, ⟨_, signedS⟩, ⟨_, spanS⟩, ⟨_, uptoS⟩, ⟨_, faS⟩, ⟨_, fbS⟩, ⟨_, fcS⟩, ⟨_, andLS⟩]) 4000 ?_
  rw [Tryz.ntmps156, Tryz.results156]
  simp only [Tryz.f156, Option.getD_some, zipT]
  simp only [go_sem, lf1, fa_run, fa_pan, fb_run, fb_pan, fc_run, fc_pan]
set_option maxHeartbeats 4000000 in
theorem first2 : SW Tryz.prog ⟨none, 0⟩ Tryz.f156.ntmps (Tryz.f156.body.getD .skip) ⟨0, zipT 0 [(tInt .i64).enc 2], []⟩ (outQ Tryz.prog Tryz.f156.results.toList (.ret (limsV (limitsF 2)))) := by
  refine aRun_sound (ctx := [⟨_, flagsS⟩, ⟨_, signedS⟩, ⟨_, spanS⟩, ⟨_, uptoS⟩, ⟨_, faS⟩, ⟨_, fbS⟩, ⟨_, fcS⟩, ⟨_, andLS⟩]) 4000 ?_
  rw [Tryz.ntmps156, Tryz.results156]
  simp only [Tryz.f156, Option.getD_some, zipT]
  simp only [go_sem, lf2, fa_run, fa_pan, fb_run, fb_pan, fc_run, fc_pan]
set_option maxHeartbeats 4000000 in
theorem first3 : SW Tryz.prog ⟨none, 0⟩ Tryz.f156.ntmps (Tryz.f156.body.getD .skip) ⟨0, zipT 0 [(tInt .i64).enc 3], []⟩ (outQ Tryz.prog Tryz.f156.results.toList (.ret (limsV (limitsF 3)))) := by
  refine aRun_sound (ctx := [⟨_, flagsS⟩, ⟨_, signedS⟩, ⟨_, spanS⟩, ⟨_, uptoS⟩, ⟨_, faS⟩, ⟨_, fbS⟩, ⟨_, fcS⟩, ⟨_, andLS⟩]) 4000 ?_
  rw [Tryz.ntmps156, Tryz.results156]
  simp only [Tryz.f156, Option.getD_some, zipT]
  simp only [go_sem, lf3, fa_run, fa_pan, fb_run, fb_pan, fc_run, fc_pan]
set_option maxHeartbeats 4000000 in
theorem first4 : SW Tryz.prog ⟨none, 0⟩ Tryz.f156.ntmps (Tryz.f156.body.getD .skip) ⟨0, zipT 0 [(tInt .i64).enc 4], []⟩ (outQ Tryz.prog Tryz.f156.results.toList (.ret (limsV (limitsF 4)))) := by
  refine aRun_sound (ctx := [⟨_, flagsS⟩, ⟨_, signedS⟩, ⟨_, spanS⟩, ⟨_, uptoS⟩, ⟨_, faS⟩, ⟨_, fbS⟩, ⟨_, fcS⟩, ⟨_, andLS⟩]) 4000 ?_
  rw [Tryz.ntmps156, Tryz.results156]
  simp only [Tryz.f156, Option.getD_some, zipT]
  simp only [go_sem, lf4, fa_run, fa_pan, fb_run, fb_pan, fc_run, fc_pan]
set_option maxHeartbeats 4000000 in
theorem first5 : SW Tryz.prog ⟨none, 0⟩ Tryz.f156.ntmps (Tryz.f156.body.getD .skip) ⟨0, zipT 0 [(tInt .i64).enc 5], []⟩ (outQ Tryz.prog Tryz.f156.results.toList (.ret (limsV (limitsF 5)))) := by
  refine aRun_sound (ctx := [⟨_, flagsS⟩, ⟨_, signedS⟩, ⟨_, spanS⟩, ⟨_, uptoS⟩, ⟨_, faS⟩, ⟨_, fbS⟩, ⟨_, fcS⟩, ⟨_, andLS⟩]) 4000 ?_
  rw [Tryz.ntmps156, Tryz.results156]
  simp only [Tryz.f156, Option.getD_some, zipT]
  simp only [go_sem, lf5, fa_run, fa_pan, fb_run, fb_pan, fc_run, fc_pan]
set_option maxHeartbeats 4000000 in
theorem first6 : SW Tryz.prog ⟨none, 0⟩ Tryz.f156.ntmps (Tryz.f156.body.getD .skip) ⟨0, zipT 0 [(tInt .i64).enc 6], []⟩ (outQ Tryz.prog Tryz.f156.results.toList (.ret (limsV (limitsF 6)))) := by
  refine aRun_sound (ctx := [⟨_, flagsS⟩, ⟨_, signedS⟩, ⟨_, spanS⟩, ⟨_, uptoS⟩, ⟨_, faS⟩, ⟨_, fbS⟩, ⟨_, fcS⟩, ⟨_, andLS⟩]) 4000 ?_
  rw [Tryz.ntmps156, Tryz.results156]
  simp only [Tryz.f156, Option.getD_some, zipT]
  simp only [go_sem, lf6, fa_run, fa_pan, fb_run, fb_pan, fc_run, fc_pan]
set_option maxHeartbeats 4000000 in
theorem first7 : SW Tryz.prog ⟨none, 0⟩ Tryz.f156.ntmps (Tryz.f156.body.getD .skip) ⟨0, zipT 0 [(tInt .i64).enc 7], []⟩ (outQ Tryz.prog Tryz.f156.results.toList (.ret (limsV (limitsF 7)))) := by
  refine aRun_sound (ctx := [⟨_, flagsS⟩, ⟨_, signedS⟩, ⟨_, spanS⟩, ⟨_, uptoS⟩, ⟨_, faS⟩, ⟨_, fbS⟩, ⟨_, fcS⟩, ⟨_, andNS⟩]) 4000 ?_
  rw [Tryz.ntmps156, Tryz.results156]
  simp only [Tryz.f156, Option.getD_some, zipT]
  simp only [go_sem, lf7, fa_run, fa_pan, fb_run, fb_pan, fc_run, fc_pan]
set_option maxHeartbeats 4000000 in
theorem first8 : SW Tryz.prog ⟨none, 0⟩ Tryz.f156.ntmps (Tryz.f156.body.getD .skip) ⟨0, zipT 0 [(tInt .i64).enc 8], []⟩ (outQ Tryz.prog Tryz.f156.results.toList (.ret (limsV (limitsF 8)))) := by
  refine aRun_sound (ctx := [⟨_, flagsS⟩, ⟨_, signedS⟩, ⟨_, spanS⟩, ⟨_, uptoS⟩, ⟨_, faS⟩, ⟨_, fbS⟩, ⟨_, fcS⟩, ⟨_, andLS⟩]) 4000 ?_
  rw [Tryz.ntmps156, Tryz.results156]
  simp only [Tryz.f156, Option.getD_some, zipT]
  simp only [go_sem, lf8, fa_run, fa_pan, fb_run, fb_pan, fc_run, fc_pan]
set_option maxHeartbeats 4000000 in
theorem first9 : SW Tryz.prog ⟨none, 0⟩ Tryz.f156.ntmps (Tryz.f156.body.getD .skip) ⟨0, zipT 0 [(tInt .i64).enc 9], []⟩ (outQ Tryz.prog Tryz.f156.results.toList (.ret (limsV (limitsF 9)))) := by
  refine aRun_sound (ctx := [⟨_, flagsS⟩, ⟨_, signedS⟩, ⟨_, spanS⟩, ⟨_, uptoS⟩, ⟨_, faS⟩, ⟨_, fbS⟩, ⟨_, fcS⟩, ⟨_, andLS⟩]) 4000 ?_
  rw [Tryz.ntmps156, Tryz.results156]
  simp only [Tryz.f156, Option.getD_some, zipT]
  simp only [go_sem, lf9, fa_run, fa_pan, fb_run, fb_pan, fc_run, fc_pan]
set_option maxHeartbeats 4000000 in
theorem first10 : SW Tryz.prog ⟨none, 0⟩ Tryz.f156.ntmps (Tryz.f156.body.getD .skip) ⟨0, zipT 0 [(tInt .i64).enc 10], []⟩ (outQ Tryz.prog Tryz.f156.results.toList (.ret (limsV (limitsF 10)))) := by
  refine aRun_sound (ctx := [⟨_, flagsS⟩, ⟨_, signedS⟩, ⟨_, spanS⟩, ⟨_, uptoS⟩, ⟨_, faS⟩, ⟨_, fbS⟩, ⟨_, fcS⟩, ⟨_, andLS⟩]) 4000 ?_
  rw [Tryz.ntmps156, Tryz.results156]
  simp only [Tryz.f156, Option.getD_some, zipT]
  simp only [go_sem, lf10, fa_run, fa_pan, fb_run, fb_pan, fc_run, fc_pan]
set_option maxHeartbeats 4000000 in
theorem first11 : SW Tryz.prog ⟨none, 0⟩ Tryz.f156.ntmps (Tryz.f156.body.getD .skip) ⟨0, zipT 0 [(tInt .i64).enc 11], []⟩ (outQ Tryz.prog Tryz.f156.results.toList (.ret (limsV (limitsF 11)))) := by
  refine aRun_sound (ctx := [⟨_, flagsS⟩, ⟨_, signedS⟩, ⟨_, spanS⟩, ⟨_, uptoS⟩, ⟨_, faS⟩, ⟨_, fbS⟩, ⟨_, fcS⟩, ⟨_, andLS⟩]) 4000 ?_
  rw [Tryz.ntmps156, Tryz.results156]
  simp only [Tryz.f156, Option.getD_some, zipT]
  simp only [go_sem, lf11, fa_run, fa_pan, fb_run, fb_pan, fc_run, fc_pan]
set_option maxHeartbeats 4000000 in
theorem first12 : SW Tryz.prog ⟨none, 0⟩ Tryz.f156.ntmps (Tryz.f156.body.getD .skip) ⟨0, zipT 0 [(tInt .i64).enc 12], []⟩ (outQ Tryz.prog Tryz.f156.results.toList (.ret (limsV (limitsF 12)))) := by
  refine aRun_sound (ctx := [⟨_, flagsS⟩, ⟨_, signedS⟩, ⟨_, spanS⟩, ⟨_, uptoS⟩, ⟨_, faS⟩, ⟨_, fbS⟩, ⟨_, fcS⟩, ⟨_, andNS⟩]) 4000 ?_
  rw [Tryz.ntmps156, Tryz.results156]
  simp only [Tryz.f156, Option.getD_some, zipT]
  simp only [go_sem, lf12, fa_run, fa_pan, fb_run, fb_pan, fc_run, fc_pan]
set_option maxHeartbeats 4000000 in
theorem first13 : SW Tryz.prog ⟨none, 0⟩ Tryz.f156.ntmps (Tryz.f156.body.getD .skip) ⟨0, zipT 0 [(tInt .i64).enc 13], []⟩ (outQ Tryz.prog Tryz.f156.results.toList (.ret (limsV (limitsF 13)))) := by
  refine aRun_sound (ctx := [⟨_, flagsS⟩, ⟨_, signedS⟩, ⟨_, spanS⟩, ⟨_, uptoS⟩, ⟨_, faS⟩, ⟨_, fbS⟩, ⟨_, fcS⟩, ⟨_, andNS⟩]) 4000 ?_
  rw [Tryz.ntmps156, Tryz.results156]
  simp only [Tryz.f156, Option.getD_some, zipT]
  simp only [go_sem, lf13, fa_run, fa_pan, fb_run, fb_pan, fc_run, fc_pan]
set_option maxHeartbeats 4000000 in
theorem first14 : SW Tryz.prog ⟨none, 0⟩ Tryz.f156.ntmps (Tryz.f156.body.getD .skip) ⟨0, zipT 0 [(tInt .i64).enc 14], []⟩ (outQ Tryz.prog Tryz.f156.results.toList (.ret (limsV (limitsF 14)))) := by
  refine aRun_sound (ctx := [⟨_, flagsS⟩, ⟨_, signedS⟩, ⟨_, spanS⟩, ⟨_, uptoS⟩, ⟨_, faS⟩, ⟨_, fbS⟩, ⟨_, fcS⟩, ⟨_, andNS⟩]) 4000 ?_
  rw [Tryz.ntmps156, Tryz.results156]
  simp only [Tryz.f156, Option.getD_some, zipT]
  simp only [go_sem, lf14, fa_run, fa_pan, fb_run, fb_pan, fc_run, fc_pan]
set_option maxHeartbeats 4000000 in
theorem first15 : SW Tryz.prog ⟨none, 0⟩ Tryz.f156.ntmps (Tryz.f156.body.getD .skip) ⟨0, zipT 0 [(tInt .i64).enc 15], []⟩ (outQ Tryz.prog Tryz.f156.results.toList (.ret (limsV (limitsF 15)))) := by
  refine aRun_sound (ctx := [⟨_, flagsS⟩, ⟨_, signedS⟩, ⟨_, spanS⟩, ⟨_, uptoS⟩, ⟨_, faS⟩, ⟨_, fbS⟩, ⟨_, fcS⟩, ⟨_, andLS⟩]) 4000 ?_
  rw [Tryz.ntmps156, Tryz.results156]
  simp only [Tryz.f156, Option.getD_some, zipT]
  simp only [go_sem, lf15, fa_run, fa_pan, fb_run, fb_pan, fc_run, fc_pan]
set_option maxHeartbeats 4000000 in
theorem first16 : SW Tryz.prog ⟨none, 0⟩ Tryz.f156.ntmps (Tryz.f156.body.getD .skip) ⟨0, zipT 0 [(tInt .i64).enc 16], []⟩ (outQ Tryz.prog Tryz.f156.results.toList (.ret (limsV (limitsF 16)))) := by
  refine aRun_sound (ctx := [⟨_, flagsS⟩, ⟨_, signedS⟩, ⟨_, spanS⟩, ⟨_, uptoS⟩, ⟨_, faS⟩, ⟨_, fbS⟩, ⟨_, fcS⟩, ⟨_, andNS⟩]) 4000 ?_
  rw [Tryz.ntmps156, Tryz.results156]
  simp only [Tryz.f156, Option.getD_some, zipT]
  simp only [go_sem, lf16, fa_run, fa_pan, fb_run, fb_pan, fc_run, fc_pan]
set_option maxHeartbeats 4000000 in
theorem first17 : SW Tryz.prog ⟨none, 0⟩ Tryz.f156.ntmps (Tryz.f156.body.getD .skip) ⟨0, zipT 0 [(tInt .i64).enc 17], []⟩ (outQ Tryz.prog Tryz.f156.results.toList (.ret (limsV (limitsF 17)))) := by
  refine aRun_sound (ctx := [⟨_, flagsS⟩, ⟨_, signedS⟩, ⟨_, spanS⟩, ⟨_, uptoS⟩, ⟨_, faS⟩, ⟨_, fbS⟩, ⟨_, fcS⟩, ⟨_, andLS⟩]) 4000 ?_
  rw [Tryz.ntmps156, Tryz.results156]
  simp only [Tryz.f156, Option.getD_some, zipT]
  simp only [go_sem, lf17, fa_run, fa_pan, fb_run, fb_pan, fc_run, fc_pan]
set_option maxHeartbeats 4000000 in
theorem second18 : SW Tryz.prog ⟨none, 0⟩ Tryz.f157.ntmps (Tryz.f157.body.getD .skip) ⟨0, zipT 0 [(tInt .i64).enc 18], []⟩ (outQ Tryz.prog Tryz.f157.results.toList (.ret (limsV (limitsF 18)))) := by
  refine aRun_sound (ctx := [⟨_, flagsS⟩, ⟨_, signedS⟩, ⟨_, spanS⟩, ⟨_, uptoS⟩, ⟨_, saS⟩, ⟨_, sbS⟩, ⟨_, scS⟩, ⟨_, andLS⟩]) 4000 ?_
  rw [Tryz.ntmps157, Tryz.results157]
  simp only [Tryz.f157, Option.getD_some, zipT]
  simp only [go_sem, lf18, sa_run, sa_pan, sb_run, sb_pan, sc_run, sc_pan]
set_option maxHeartbeats 4000000 in
theorem second19 : SW Tryz.prog ⟨none, 0⟩ Tryz.f157.ntmps (Tryz.f157.body.getD .skip) ⟨0, zipT 0 [(tInt .i64).enc 19], []⟩ (outQ Tryz.prog Tryz.f157.results.toList (.ret (limsV (limitsF 19)))) := by
  refine aRun_sound (ctx := [⟨_, flagsS⟩, ⟨_, signedS⟩, ⟨_, spanS⟩, ⟨_, uptoS⟩, ⟨_, saS⟩, ⟨_, sbS⟩, ⟨_, scS⟩, ⟨_, andLS⟩]) 4000 ?_
  rw [Tryz.ntmps157, Tryz.results157]
  simp only [Tryz.f157, Option.getD_some, zipT]
  simp only [go_sem, lf19, sa_run, sa_pan, sb_run, sb_pan, sc_run, sc_pan]
set_option maxHeartbeats 4000000 in
theorem second20 : SW Tryz.prog ⟨none, 0⟩ Tryz.f157.ntmps (Tryz.f157.body.getD .skip) ⟨0, zipT 0 [(tInt .i64).enc 20], []⟩ (outQ Tryz.prog Tryz.f157.results.toList (.ret (limsV (limitsF 20)))) := by
  refine aRun_sound (ctx := [⟨_, flagsS⟩, ⟨_, signedS⟩, ⟨_, spanS⟩, ⟨_, uptoS⟩, ⟨_, saS⟩, ⟨_, sbS⟩, ⟨_, scS⟩, ⟨_, andLS⟩]) 4000 ?_
  rw [Tryz.ntmps157, Tryz.results157]
  simp only [Tryz.f157, Option.getD_some, zipT]
  simp only [go_sem, lf20, sa_run, sa_pan, sb_run, sb_pan, sc_run, sc_pan]
set_option maxHeartbeats 4000000 in
theorem second21 : SW Tryz.prog ⟨none, 0⟩ Tryz.f157.ntmps (Tryz.f157.body.getD .skip) ⟨0, zipT 0 [(tInt .i64).enc 21], []⟩ (outQ Tryz.prog Tryz.f157.results.toList (.ret (limsV (limitsF 21)))) := by
  refine aRun_sound (ctx := [⟨_, flagsS⟩, ⟨_, signedS⟩, ⟨_, spanS⟩, ⟨_, uptoS⟩, ⟨_, saS⟩, ⟨_, sbS⟩, ⟨_, scS⟩, ⟨_, andLS⟩]) 4000 ?_
  rw [Tryz.ntmps157, Tryz.results157]
  simp only [Tryz.f157, Option.getD_some, zipT]
  simp only [go_sem, lf21, sa_run, sa_pan, sb_run, sb_pan, sc_run, sc_pan]
set_option maxHeartbeats 4000000 in
theorem second22 : SW Tryz.prog ⟨none, 0⟩ Tryz.f157.ntmps (Tryz.f157.body.getD .skip) ⟨0, zipT 0 [(tInt .i64).enc 22], []⟩ (outQ Tryz.prog Tryz.f157.results.toList (.ret (limsV (limitsF 22)))) := by
  refine aRun_sound (ctx := [⟨_, flagsS⟩, ⟨_, signedS⟩, ⟨_, spanS⟩, ⟨_, uptoS⟩, ⟨_, saS⟩, ⟨_, sbS⟩, ⟨_, scS⟩, ⟨_, andLS⟩]) 4000 ?_
  rw [Tryz.ntmps157, Tryz.results157]
  simp only [Tryz.f157, Option.getD_some, zipT]
  simp only [go_sem, lf22, sa_run, sa_pan, sb_run, sb_pan, sc_run, sc_pan]
set_option maxHeartbeats 4000000 in
theorem second23 : SW Tryz.prog ⟨none, 0⟩ Tryz.f157.ntmps (Tryz.f157.body.getD .skip) ⟨0, zipT 0 [(tInt .i64).enc 23], []⟩ (outQ Tryz.prog Tryz.f157.results.toList (.ret (limsV (limitsF 23)))) := by
  refine aRun_sound (ctx := [⟨_, flagsS⟩, ⟨_, signedS⟩, ⟨_, spanS⟩, ⟨_, uptoS⟩, ⟨_, saS⟩, ⟨_, sbS⟩, ⟨_, scS⟩, ⟨_, andLS⟩]) 4000 ?_
  rw [Tryz.ntmps157, Tryz.results157]
  simp only [Tryz.f157, Option.getD_some, zipT]
  simp only [go_sem, lf23, sa_run, sa_pan, sb_run, sb_pan, sc_run, sc_pan]
set_option maxHeartbeats 4000000 in
theorem second24 : SW Tryz.prog ⟨none, 0⟩ Tryz.f157.ntmps (Tryz.f157.body.getD .skip) ⟨0, zipT 0 [(tInt .i64).enc 24], []⟩ (outQ Tryz.prog Tryz.f157.results.toList (.ret (limsV (limitsF 24)))) := by
  refine aRun_sound (ctx := [⟨_, flagsS⟩, ⟨_, signedS⟩, ⟨_, spanS⟩, ⟨_, uptoS⟩, ⟨_, saS⟩, ⟨_, sbS⟩, ⟨_, scS⟩, ⟨_, andLS⟩]) 4000 ?_
  rw [Tryz.ntmps157, Tryz.results157]
  simp only [Tryz.f157, Option.getD_some, zipT]
  simp only [go_sem, lf24, sa_run, sa_pan, sb_run, sb_pan, sc_run, sc_pan]
set_option maxHeartbeats 4000000 in
theorem second25 : SW Tryz.prog ⟨none, 0⟩ Tryz.f157.ntmps (Tryz.f157.body.getD .skip) ⟨0, zipT 0 [(tInt .i64).enc 25], []⟩ (outQ Tryz.prog Tryz.f157.results.toList (.ret (limsV (limitsF 25)))) := by
  refine aRun_sound (ctx := [⟨_, flagsS⟩, ⟨_, signedS⟩, ⟨_, spanS⟩, ⟨_, uptoS⟩, ⟨_, saS⟩, ⟨_, sbS⟩, ⟨_, scS⟩, ⟨_, andLS⟩]) 4000 ?_
  rw [Tryz.ntmps157, Tryz.results157]
  simp only [Tryz.f157, Option.getD_some, zipT]
  simp only [go_sem, lf25, sa_run, sa_pan, sb_run, sb_pan, sc_run, sc_pan]
set_option maxHeartbeats 4000000 in
theorem second26 : SW Tryz.prog ⟨none, 0⟩ Tryz.f157.ntmps (Tryz.f157.body.getD .skip) ⟨0, zipT 0 [(tInt .i64).enc 26], []⟩ (outQ Tryz.prog Tryz.f157.results.toList (.ret (limsV (limitsF 26)))) := by
  refine aRun_sound (ctx := [⟨_, flagsS⟩, ⟨_, signedS⟩, ⟨_, spanS⟩, ⟨_, uptoS⟩, ⟨_, saS⟩, ⟨_, sbS⟩, ⟨_, scS⟩, ⟨_, andLS⟩]) 4000 ?_
  rw [Tryz.ntmps157, Tryz.results157]
  simp only [Tryz.f157, Option.getD_some, zipT]
  simp only [go_sem, lf26, sa_run, sa_pan, sb_run, sb_pan, sc_run, sc_pan]
set_option maxHeartbeats 4000000 in
theorem second27 : SW Tryz.prog ⟨none, 0⟩ Tryz.f157.ntmps (Tryz.f157.body.getD .skip) ⟨0, zipT 0 [(tInt .i64).enc 27], []⟩ (outQ Tryz.prog Tryz.f157.results.toList (.ret (limsV (limitsF 27)))) := by
  refine aRun_sound (ctx := [⟨_, flagsS⟩, ⟨_, signedS⟩, ⟨_, spanS⟩, ⟨_, uptoS⟩, ⟨_, saS⟩, ⟨_, sbS⟩, ⟨_, scS⟩, ⟨_, andLS⟩]) 4000 ?_
  rw [Tryz.ntmps157, Tryz.results157]
  simp only [Tryz.f157, Option.getD_some, zipT]
  simp only [go_sem, lf27, sa_run, sa_pan, sb_run, sb_pan, sc_run, sc_pan]
set_option maxHeartbeats 4000000 in
theorem second28 : SW Tryz.prog ⟨none, 0⟩ Tryz.f157.ntmps (Tryz.f157.body.getD .skip) ⟨0, zipT 0 [(tInt .i64).enc 28], []⟩ (outQ Tryz.prog Tryz.f157.results.toList (.ret (limsV (limitsF 28)))) := by
  refine aRun_sound (ctx := [⟨_, flagsS⟩, ⟨_, signedS⟩, ⟨_, spanS⟩, ⟨_, uptoS⟩, ⟨_, saS⟩, ⟨_, sbS⟩, ⟨_, scS⟩, ⟨_, andLS⟩]) 4000 ?_
  rw [Tryz.ntmps157, Tryz.results157]
  simp only [Tryz.f157, Option.getD_some, zipT]
  simp only [go_sem, lf28, sa_run, sa_pan, sb_run, sb_pan, sc_run, sc_pan]
set_option maxHeartbeats 4000000 in
theorem second29 : SW Tryz.prog ⟨none, 0⟩ Tryz.f157.ntmps (Tryz.f157.body.getD .skip) ⟨0, zipT 0 [(tInt .i64).enc 29], []⟩ (outQ Tryz.prog Tryz.f157.results.toList (.ret (limsV (limitsF 29)))) := by
  refine aRun_sound (ctx := [⟨_, flagsS⟩, ⟨_, signedS⟩, ⟨_, spanS⟩, ⟨_, uptoS⟩, ⟨_, saS⟩, ⟨_, sbS⟩, ⟨_, scS⟩, ⟨_, andLS⟩]) 4000 ?_
  rw [Tryz.ntmps157, Tryz.results157]
  simp only [Tryz.f157, Option.getD_some, zipT]
  simp only [go_sem, lf29, sa_run, sa_pan, sb_run, sb_pan, sc_run, sc_pan]
set_option maxHeartbeats 4000000 in
theorem second30 : SW Tryz.prog ⟨none, 0⟩ Tryz.f157.ntmps (Tryz.f157.body.getD .skip) ⟨0, zipT 0 [(tInt .i64).enc 30], []⟩ (outQ Tryz.prog Tryz.f157.results.toList (.ret (limsV (limitsF 30)))) := by
  refine aRun_sound (ctx := [⟨_, flagsS⟩, ⟨_, signedS⟩, ⟨_, spanS⟩, ⟨_, uptoS⟩, ⟨_, saS⟩, ⟨_, sbS⟩, ⟨_, scS⟩, ⟨_, andLS⟩]) 4000 ?_
  rw [Tryz.ntmps157, Tryz.results157]
  simp only [Tryz.f157, Option.getD_some, zipT]
  simp only [go_sem, lf30, sa_run, sa_pan, sb_run, sb_pan, sc_run, sc_pan]
set_option maxHeartbeats 4000000 in
theorem second31 : SW Tryz.prog ⟨none, 0⟩ Tryz.f157.ntmps (Tryz.f157.body.getD .skip) ⟨0, zipT 0 [(tInt .i64).enc 31], []⟩ (outQ Tryz.prog Tryz.f157.results.toList (.ret (limsV (limitsF 31)))) := by
  refine aRun_sound (ctx := [⟨_, flagsS⟩, ⟨_, signedS⟩, ⟨_, spanS⟩, ⟨_, uptoS⟩, ⟨_, saS⟩, ⟨_, sbS⟩, ⟨_, scS⟩, ⟨_, andLS⟩]) 4000 ?_
  rw [Tryz.ntmps157, Tryz.results157]
  simp only [Tryz.f157, Option.getD_some, zipT]
  simp only [go_sem, lf31, sa_run, sa_pan, sb_run, sb_pan, sc_run, sc_pan]
set_option maxHeartbeats 4000000 in
theorem second32 : SW Tryz.prog ⟨none, 0⟩ Tryz.f157.ntmps (Tryz.f157.body.getD .skip) ⟨0, zipT 0 [(tInt .i64).enc 32], []⟩ (outQ Tryz.prog Tryz.f157.results.toList (.ret (limsV (limitsF 32)))) := by
  refine aRun_sound (ctx := [⟨_, flagsS⟩, ⟨_, signedS⟩, ⟨_, spanS⟩, ⟨_, uptoS⟩, ⟨_, saS⟩, ⟨_, sbS⟩, ⟨_, scS⟩, ⟨_, andLS⟩]) 4000 ?_
  rw [Tryz.ntmps157, Tryz.results157]
  simp only [Tryz.f157, Option.getD_some, zipT]
  simp only [go_sem, lf32, sa_run, sa_pan, sb_run, sb_pan, sc_run, sc_pan]

def nilS : AV := .s (.l (.v (.slice none 0 0)))
def opQ (op : Int) : Prop := 1 ≤ op ∧ op ≤ 32
def limsO (op : Int) : AV := if 1 ≤ op ∧ op ≤ 32 then limsV (limitsF op) else nilS
theorem first_none {op : Int} (h : op < 1 ∨ 17 < op) : SW Tryz.prog ⟨none, 0⟩ Tryz.f156.ntmps (Tryz.f156.body.getD .skip) ⟨0, zipT 0 [(tInt .i64).enc op], []⟩ (outQ Tryz.prog Tryz.f156.results.toList (.ret nilS)) := by
  refine aRun_sound (ctx := []) 4000 ?_
  rw [Tryz.ntmps156, Tryz.results156]
  simp only [Tryz.f156, Option.getD_some, zipT]
  have b1 : (op == 1) = false := by
    simp only [beq_eq_false_iff_ne, ne_eq]
    omega
  have b2 : (op == 2) = false := by
    simp only [beq_eq_false_iff_ne, ne_eq]
    omega
  have b3 : (op == 3) = false := by
    simp only [beq_eq_false_iff_ne, ne_eq]
    omega
  have b4 : (op == 4) = false := by
    simp only [beq_eq_false_iff_ne, ne_eq]
    omega
  have b5 : (op == 5) = false := by
    simp only [beq_eq_false_iff_ne, ne_eq]
    omega
  have b6 : (op == 6) = false := by
    simp only [beq_eq_false_iff_ne, ne_eq]
    omega
  have b7 : (op == 7) = false := by
    simp only [beq_eq_false_iff_ne, ne_eq]
    omega
  have b8 : (op == 8) = false := by
    simp only [beq_eq_false_iff_ne, ne_eq]
    omega
  have b9 : (op == 9) = false := by
    simp only [beq_eq_false_iff_ne, ne_eq]
    omega
  have b10 : (op == 10) = false := by
    simp only [beq_eq_false_iff_ne, ne_eq]
    omega
  have b11 : (op == 11) = false := by
    simp only [beq_eq_false_iff_ne, ne_eq]
    omega
  have b12 : (op == 12) = false := by
    simp only [beq_eq_false_iff_ne, ne_eq]
    omega
  have b13 : (op == 13) = false := by
    simp only [beq_eq_false_iff_ne, ne_eq]
    omega
  have b14 : (op == 14) = false := by
    simp only [beq_eq_false_iff_ne, ne_eq]
    omega
  have b15 : (op == 15) = false := by
    simp only [beq_eq_false_iff_ne, ne_eq]
    omega
  have b16 : (op == 16) = false := by
    simp only [beq_eq_false_iff_ne, ne_eq]
    omega
  have b17 : (op == 17) = false := by
    simp only [beq_eq_false_iff_ne, ne_eq]
    omega
  simp only [go_sem, b1, b2, b3, b4, b5, b6, b7, b8, b9, b10, b11, b12, b13, b14, b15, b16, b17, nilS]
theorem second_none {op : Int} (h : 32 < op) : SW Tryz.prog ⟨none, 0⟩ Tryz.f157.ntmps (Tryz.f157.body.getD .skip) ⟨0, zipT 0 [(tInt .i64).enc op], []⟩ (outQ Tryz.prog Tryz.f157.results.toList (.ret nilS)) := by
  refine aRun_sound (ctx := [⟨_, flagsS⟩]) 4000 ?_
  rw [Tryz.ntmps157, Tryz.results157]
  simp only [Tryz.f157, Option.getD_some, zipT]
  have b18 : (op == 18) = false := by
    simp only [beq_eq_false_iff_ne, ne_eq]
    omega
  have b19 : (op == 19) = false := by
    simp only [beq_eq_false_iff_ne, ne_eq]
    omega
  have b20 : (op == 20) = false := by
    simp only [beq_eq_false_iff_ne, ne_eq]
    omega
  have b21 : (op == 21) = false := by
    simp only [beq_eq_false_iff_ne, ne_eq]
    omega
  have b22 : (op == 22) = false := by
    simp only [beq_eq_false_iff_ne, ne_eq]
    omega
  have b23 : (op == 23) = false := by
    simp only [beq_eq_false_iff_ne, ne_eq]
    omega
  have b24 : (op == 24) = false := by
    simp only [beq_eq_false_iff_ne, ne_eq]
    omega
  have b25 : (op == 25) = false := by
    simp only [beq_eq_false_iff_ne, ne_eq]
    omega
  have b26 : (op == 26) = false := by
    simp only [beq_eq_false_iff_ne, ne_eq]
    omega
  have b27 : (op == 27) = false := by
    simp only [beq_eq_false_iff_ne, ne_eq]
    omega
  have b28 : (op == 28) = false := by
    simp only [beq_eq_false_iff_ne, ne_eq]
    omega
  have b29 : (op == 29) = false := by
    simp only [beq_eq_false_iff_ne, ne_eq]
    omega
  have b30 : (op == 30) = false := by
    simp only [beq_eq_false_iff_ne, ne_eq]
    omega
  have b31 : (op == 31) = false := by
    simp only [beq_eq_false_iff_ne, ne_eq]
    omega
  have b32 : (op == 32) = false := by
    simp only [beq_eq_false_iff_ne, ne_eq]
    omega
  simp only [go_sem, b18, b19, b20, b21, b22, b23, b24, b25, b26, b27, b28, b29, b30, b31, b32, nilS]
theorem en_first (args : Array Value) (w : World) : (callFunc 156 args).run Tryz.prog w = .ok (.enter 156 args) w := by go_simp
def firstS : Spec Tryz.prog 156 :=
  mk1 _ _ _ Tryz.func156 rfl en_first (tInt .i64) ((fun op => op ≤ 17)) ((fun op => .ret (limsO op))) (by rw [Tryz.ntmps156]; decide) (fun op h => by
  by_cases h1 : 1 ≤ op
  · have e : limsO op = limsV (limitsF op) := by unfold limsO; rw [if_pos (by omega)]
    rw [e]
    have : op = 1 ∨ op = 2 ∨ op = 3 ∨ op = 4 ∨ op = 5 ∨ op = 6 ∨ op = 7 ∨ op = 8 ∨ op = 9 ∨ op = 10 ∨ op = 11 ∨ op = 12 ∨ op = 13 ∨ op = 14 ∨ op = 15 ∨ op = 16 ∨ op = 17 := by omega
    rcases this with rfl | rfl | rfl | rfl | rfl | rfl | rfl | rfl | rfl | rfl | rfl | rfl | rfl | rfl | rfl | rfl | rfl
    · exact first1
    · exact first2
    · exact first3
    · exact first4
    · exact first5
    · exact first6
    · exact first7
    · exact first8
    · exact first9
    · exact first10
    · exact first11
    · exact first12
    · exact first13
    · exact first14
    · exact first15
    · exact first16
    · exact first17
  · have e : limsO op = nilS := by unfold limsO; rw [if_neg (by omega)]
    rw [e]
    exact first_none (by omega))
theorem first_run {id : Nat} {h : Heap} {args : List AV} : (firstS).run id h args = runP (args1 (tInt .i64) ((fun op => op ≤ 17))) ((fun op => .ret (limsO op))) h args := rfl
theorem first_pan {id : Nat} {h : Heap} {args : List AV} : (firstS).pan id h args = panP (args1 (tInt .i64) ((fun op => op ≤ 17))) ((fun op => .ret (limsO op))) h args := rfl
theorem en_second (args : Array Value) (w : World) : (callFunc 157 args).run Tryz.prog w = .ok (.enter 157 args) w := by go_simp
def secondS : Spec Tryz.prog 157 :=
  mk1 _ _ _ Tryz.func157 rfl en_second (tInt .i64) ((fun op => 18 ≤ op)) ((fun op => .ret (limsO op))) (by rw [Tryz.ntmps157]; decide) (fun op h => by
  by_cases h1 : op ≤ 32
  · have e : limsO op = limsV (limitsF op) := by unfold limsO; rw [if_pos (by omega)]
    rw [e]
    have : op = 18 ∨ op = 19 ∨ op = 20 ∨ op = 21 ∨ op = 22 ∨ op = 23 ∨ op = 24 ∨ op = 25 ∨ op = 26 ∨ op = 27 ∨ op = 28 ∨ op = 29 ∨ op = 30 ∨ op = 31 ∨ op = 32 := by omega
    rcases this with rfl | rfl | rfl | rfl | rfl | rfl | rfl | rfl | rfl | rfl | rfl | rfl | rfl | rfl | rfl
    · exact second18
    · exact second19
    · exact second20
    · exact second21
    · exact second22
    · exact second23
    · exact second24
    · exact second25
    · exact second26
    · exact second27
    · exact second28
    · exact second29
    · exact second30
    · exact second31
    · exact second32
  · have e : limsO op = nilS := by unfold limsO; rw [if_neg (by omega)]
    rw [e]
    exact second_none (by omega))
theorem second_run {id : Nat} {h : Heap} {args : List AV} : (secondS).run id h args = runP (args1 (tInt .i64) ((fun op => 18 ≤ op))) ((fun op => .ret (limsO op))) h args := rfl
theorem second_pan {id : Nat} {h : Heap} {args : List AV} : (secondS).pan id h args = panP (args1 (tInt .i64) ((fun op => 18 ≤ op))) ((fun op => .ret (limsO op))) h args := rfl
theorem en_limits (args : Array Value) (w : World) : (callFunc 95 args).run Tryz.prog w = .ok (.enter 95 args) w := by go_simp
def limitsS : Spec Tryz.prog 95 :=
  mk1 _ _ _ Tryz.func95 rfl en_limits (tInt .i64) ((fun _ => True)) ((fun op => .ret (limsO op))) (by rw [Tryz.ntmps95]; decide) (fun op _ => by
  refine aRun_sound (ctx := [⟨_, firstS⟩, ⟨_, secondS⟩]) 4000 ?_
  rw [Tryz.ntmps95, Tryz.results95]
  simp only [Tryz.f95, Option.getD_some, zipT]
  by_cases h1 : op ≤ 17
  · by_cases h2 : 1 ≤ op ∧ op ≤ 32
    · have e : limsO op = limsV (limitsF op) := by unfold limsO; rw [if_pos h2]
      rw [e]
      simp only [go_sem, first_run, first_pan, h1, e]
    · have e : limsO op = nilS := by unfold limsO; rw [if_neg h2]
      rw [e]
      simp only [go_sem, first_run, first_pan, h1, e, nilS]
  · have h3 : 18 ≤ op := by omega
    by_cases h2 : 1 ≤ op ∧ op ≤ 32
    · have e : limsO op = limsV (limitsF op) := by unfold limsO; rw [if_pos h2]
      rw [e]
      simp only [go_sem, second_run, second_pan, h1, h3, e]
    · have e : limsO op = nilS := by unfold limsO; rw [if_neg h2]
      rw [e]
      simp only [go_sem, second_run, second_pan, h1, h3, e, nilS])
theorem limits_run {id : Nat} {h : Heap} {args : List AV} : (limitsS).run id h args = runP (args1 (tInt .i64) ((fun _ => True))) ((fun op => .ret (limsO op))) h args := rfl
theorem limits_pan {id : Nat} {h : Heap} {args : List AV} : (limitsS).pan id h args = panP (args1 (tInt .i64) ((fun _ => True))) ((fun op => .ret (limsO op))) h args := rfl

end Go.Proofs.YtpjlafmhoifkmaaGreat
