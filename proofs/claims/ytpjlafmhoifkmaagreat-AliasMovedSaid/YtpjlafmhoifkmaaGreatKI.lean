/- The document's logical immediates. -/
import Derived.Test.YtpjlafmhoifkmaaGreatK7
set_option linter.unusedVariables false
set_option linter.unusedSimpArgs false
namespace Go.Proofs.YtpjlafmhoifkmaaGreat
open Go.RowKit
set_option maxRecDepth 100000

/-! ### A pattern's value -/
def rVi (size ones turn : Nat) (n : Nat) : Nat := (List.range n).foldl (fun v i => if (i % size + turn) % size < ones then v ||| 2 ^ i else v) 0
theorem rVi_succ (size ones turn n : Nat) : rVi size ones turn (n + 1) = if (n % size + turn) % size < ones then rVi size ones turn n ||| 2 ^ n else rVi size ones turn n := by
  unfold rVi
  rw [List.range_succ, List.foldl_append]
  rfl
theorem rVi_lt (size ones turn : Nat) : ∀ n, n ≤ 64 → rVi size ones turn n < 2 ^ 64
  | 0, _ => by show 0 < 2 ^ 64; decide
  | n + 1, h => by
    rw [rVi_succ]
    have ih := rVi_lt size ones turn n (by omega)
    split
    · exact Nat.or_lt_two_pow ih (Nat.pow_lt_pow_right (by decide) (by omega))
    · exact ih
theorem one_shl (i : Nat) (h : i < 64) : IntKind.u64.wrap (1 * 2 ^ min i 64) = ((2 ^ i : Nat) : Int) := by
  have h1 : 2 ^ i < 2 ^ 64 := Nat.pow_lt_pow_right (by decide) h
  have h2 : 1 * 2 ^ i % 18446744073709551616 = 2 ^ i := by rw [Nat.one_mul]; exact Nat.mod_eq_of_lt h1
  have h3 := shl_u 1 i (by omega)
  rw [h2] at h3
  exact h3
def rvI (s o t w : Nat) (i : Nat) : St := ⟨0, [(0, iv s), (1, iv o), (2, iv t), (3, iv w), (9, uv (rVi s o t i)), (10, iv i)], []⟩
set_option maxHeartbeats 2000000 in
theorem rval_sw (s o tu w : Nat) (h : 2 ≤ s ∧ s ≤ 64 ∧ tu < s ∧ (w = 32 ∨ w = 64)) : SW Tryz.prog ⟨none, 0⟩ Tryz.f194.ntmps (Tryz.f194.body.getD .skip) ⟨0, zipT 0 [(tInt .i64).enc (s : Int), (tInt .i64).enc (o : Int), (tInt .i64).enc (tu : Int), (tInt .i64).enc (w : Int)], []⟩ (outQ Tryz.prog Tryz.f194.results.toList (.ret (uv (rVal s o tu w)))) := by
  obtain ⟨h1, h2, h3, h4⟩ := h
  have t : ∀ n : Nat, Int.toNat (n : Int) = n := fun _ => rfl
  refine aRun_sound (ctx := []) 4000 ?_
  rw [Tryz.ntmps194, Tryz.results194]
  simp only [Tryz.f194, Option.getD_some, zipT]
  simp only [go_sem, Nat.reduceOr, Nat.reducePow, Nat.reduceDiv, Nat.reduceMod, Nat.reduceBEq, Int.reduceBEq, Int.reduceBNe, Int.reduceEq, Int.reduceLT, Int.reduceLE, Int.reduceToNat, reduceIte, reduceCtorEq, Nat.reduceEqDiff, Nat.reduceAdd, Nat.reduceLT, Nat.reduceLeDiff, Nat.reduceMul, Nat.reduceSub]
  refine sw_loop (ι := Nat) (fun i => i ≤ w) (rvI s o tu w) (fun i => w - i) 0 (Nat.zero_le _) (Wk.renL [] (by simp) (Nat.zero_le _) (by decide) rfl rfl) ?_
  intro i hi
  refine aRun_sound (ctx := []) 4000 ?_
  have hb := rVi_lt s o tu i (by omega)
  by_cases hlt : i < w
  · have hltI : (i : Int) < w := by omega
    have i64 : i < 64 := by omega
    have s0 : ¬ (s : Int) = 0 := by omega
    have e1 : Int.tmod (i : Int) (s : Int) = ((i % s : Nat) : Int) := rfl
    have m1 : i % s < s := Nat.mod_lt _ (by omega)
    have e2 : IntKind.i64.wrap (((i % s : Nat) : Int) + tu) = ((i % s + tu : Nat) : Int) := by rw [IntKind.wrap_i64]; omega
    have e3 : Int.tmod ((i % s + tu : Nat) : Int) (s : Int) = (((i % s + tu) % s : Nat) : Int) := rfl
    have e4 : IntKind.u64.wrap (i : Int) = (i : Int) := by rw [wrapU]; omega
    have e5 := one_shl i i64
    have e6 := or_u (rVi s o tu i) (2 ^ i) hb (Nat.pow_lt_pow_right (by decide) i64)
    have e7 : IntKind.i64.wrap ((i : Int) + 1) = ((i + 1 : Nat) : Int) := by rw [IntKind.wrap_i64]; omega
    have hn := rVi_succ s o tu i
    have i0 : (0 : Int) ≤ i := Int.natCast_nonneg _
    by_cases hc : (i % s + tu) % s < o
    · have hcI : (((i % s + tu) % s : Nat) : Int) < o := by omega
      rw [if_pos hc] at hn
      simp only [go_sem, Nat.reduceOr, Nat.reducePow, Nat.reduceDiv, Nat.reduceMod, Nat.reduceBEq, Int.reduceBEq, Int.reduceBNe, Int.reduceEq, Int.reduceLT, Int.reduceLE, Int.reduceToNat, reduceIte, reduceCtorEq, Nat.reduceEqDiff, Nat.reduceAdd, Nat.reduceLT, Nat.reduceLeDiff, Nat.reduceMul, Nat.reduceSub, rvI, hltI, s0, e1, e2, e3, e4, e5, e6, e7, hcI, t, i0]
      exact ⟨i + 1, by omega, by omega, Wk.renL [] (by simp) (Nat.zero_le _) (by decide) (by rw [hn]; rfl) rfl⟩
    · have hcI : ¬ (((i % s + tu) % s : Nat) : Int) < o := by omega
      rw [if_neg hc] at hn
      simp only [go_sem, Nat.reduceOr, Nat.reducePow, Nat.reduceDiv, Nat.reduceMod, Nat.reduceBEq, Int.reduceBEq, Int.reduceBNe, Int.reduceEq, Int.reduceLT, Int.reduceLE, Int.reduceToNat, reduceIte, reduceCtorEq, Nat.reduceEqDiff, Nat.reduceAdd, Nat.reduceLT, Nat.reduceLeDiff, Nat.reduceMul, Nat.reduceSub, rvI, hltI, s0, e1, e2, e3, e4, e5, e6, e7, hcI, t, i0]
      exact ⟨i + 1, by omega, by omega, Wk.renL [] (by simp) (Nat.zero_le _) (by decide) (by rw [hn]; rfl) rfl⟩
  · obtain rfl : i = w := by omega
    have hltI : ¬ (i : Int) < i := by omega
    have e : rVal s o tu i = rVi s o tu i := rfl
    simp only [go_sem, Nat.reduceOr, Nat.reducePow, Nat.reduceDiv, Nat.reduceMod, Nat.reduceBEq, Int.reduceBEq, Int.reduceBNe, Int.reduceEq, Int.reduceLT, Int.reduceLE, Int.reduceToNat, reduceIte, reduceCtorEq, Nat.reduceEqDiff, Nat.reduceAdd, Nat.reduceLT, Nat.reduceLeDiff, Nat.reduceMul, Nat.reduceSub, rvI, hltI, e]
def rvQ (s o t w : Int) : Prop := 2 ≤ s ∧ s ≤ 64 ∧ 0 ≤ o ∧ 0 ≤ t ∧ t < s ∧ (w = 32 ∨ w = 64)
theorem en_rval (args : Array Value) (w : World) : (callFunc 194 args).run Tryz.prog w = .ok (.enter 194 args) w := by go_simp
def rvalS : Spec Tryz.prog 194 :=
  mk4 _ _ _ Tryz.func194 rfl en_rval (tInt .i64) (tInt .i64) (tInt .i64) (tInt .i64) (rvQ) ((fun s o t w => .ret (uv (rVal s.toNat o.toNat t.toNat w.toNat)))) (by rw [Tryz.ntmps194]; decide) (fun s o t w h => by
  obtain ⟨h1, h2, h3, h4, h5, h6⟩ := h
  obtain ⟨s, rfl⟩ := Int.eq_ofNat_of_zero_le (show 0 ≤ s by omega)
  obtain ⟨o, rfl⟩ := Int.eq_ofNat_of_zero_le h3
  obtain ⟨t, rfl⟩ := Int.eq_ofNat_of_zero_le h4
  obtain ⟨w, rfl⟩ := Int.eq_ofNat_of_zero_le (show 0 ≤ w by omega)
  exact rval_sw s o t w ⟨by omega, by omega, by omega, by omega⟩)
theorem rval_run {id : Nat} {h : Heap} {args : List AV} : (rvalS).run id h args = runP (args4 (tInt .i64) (tInt .i64) (tInt .i64) (tInt .i64) (rvQ)) (fun x => ((fun s o t w => .ret (uv (rVal s.toNat o.toNat t.toNat w.toNat)))) x.1 x.2.1 x.2.2.1 x.2.2.2) h args := rfl
theorem rval_pan {id : Nat} {h : Heap} {args : List AV} : (rvalS).pan id h args = panP (args4 (tInt .i64) (tInt .i64) (tInt .i64) (tInt .i64) (rvQ)) (fun x => ((fun s o t w => .ret (uv (rVal s.toNat o.toNat t.toNat w.toNat)))) x.1 x.2.1 x.2.2.1 x.2.2.2) h args := rfl
def topF (s : Int) : Int := if s = 2 then 60 else if s = 4 then 56 else if s = 8 then 48 else if s = 16 then 32 else 0
theorem en_topR (args : Array Value) (w : World) : (callFunc 191 args).run Tryz.prog w = .ok (.enter 191 args) w := by go_simp
def topRS : Spec Tryz.prog 191 :=
  mk1 _ _ _ Tryz.func191 rfl en_topR (tInt .i64) ((fun _ => True)) ((fun s => .ret (iv (topF s)))) (by rw [Tryz.ntmps191]; decide) (fun s _ => by
  refine aRun_sound (ctx := []) 4000 ?_
  rw [Tryz.ntmps191, Tryz.results191]
  simp only [Tryz.f191, Option.getD_some, zipT]
  unfold topF
  by_cases h1 : s = 2
  · simp only [go_sem, Nat.reduceOr, Nat.reducePow, Nat.reduceDiv, Nat.reduceMod, Nat.reduceBEq, Int.reduceBEq, Int.reduceBNe, Int.reduceEq, Int.reduceLT, Int.reduceLE, Int.reduceToNat, reduceIte, reduceCtorEq, Nat.reduceEqDiff, Nat.reduceAdd, Nat.reduceLT, Nat.reduceLeDiff, Nat.reduceMul, Nat.reduceSub, h1]
  have b1 : (s == 2) = false := by simpa using h1
  by_cases h2 : s = 4
  · simp only [go_sem, Nat.reduceOr, Nat.reducePow, Nat.reduceDiv, Nat.reduceMod, Nat.reduceBEq, Int.reduceBEq, Int.reduceBNe, Int.reduceEq, Int.reduceLT, Int.reduceLE, Int.reduceToNat, reduceIte, reduceCtorEq, Nat.reduceEqDiff, Nat.reduceAdd, Nat.reduceLT, Nat.reduceLeDiff, Nat.reduceMul, Nat.reduceSub, h2]
  have b2 : (s == 4) = false := by simpa using h2
  by_cases h3 : s = 8
  · simp only [go_sem, Nat.reduceOr, Nat.reducePow, Nat.reduceDiv, Nat.reduceMod, Nat.reduceBEq, Int.reduceBEq, Int.reduceBNe, Int.reduceEq, Int.reduceLT, Int.reduceLE, Int.reduceToNat, reduceIte, reduceCtorEq, Nat.reduceEqDiff, Nat.reduceAdd, Nat.reduceLT, Nat.reduceLeDiff, Nat.reduceMul, Nat.reduceSub, h3]
  have b3 : (s == 8) = false := by simpa using h3
  by_cases h4 : s = 16
  · simp only [go_sem, Nat.reduceOr, Nat.reducePow, Nat.reduceDiv, Nat.reduceMod, Nat.reduceBEq, Int.reduceBEq, Int.reduceBNe, Int.reduceEq, Int.reduceLT, Int.reduceLE, Int.reduceToNat, reduceIte, reduceCtorEq, Nat.reduceEqDiff, Nat.reduceAdd, Nat.reduceLT, Nat.reduceLeDiff, Nat.reduceMul, Nat.reduceSub, h4]
  have b4 : (s == 16) = false := by simpa using h4
  simp only [go_sem, Nat.reduceOr, Nat.reducePow, Nat.reduceDiv, Nat.reduceMod, Nat.reduceBEq, Int.reduceBEq, Int.reduceBNe, Int.reduceEq, Int.reduceLT, Int.reduceLE, Int.reduceToNat, reduceIte, reduceCtorEq, Nat.reduceEqDiff, Nat.reduceAdd, Nat.reduceLT, Nat.reduceLeDiff, Nat.reduceMul, Nat.reduceSub, h1, h2, h3, h4, b1, b2, b3, b4])
theorem topR_run {id : Nat} {h : Heap} {args : List AV} : (topRS).run id h args = runP (args1 (tInt .i64) ((fun _ => True))) ((fun s => .ret (iv (topF s)))) h args := rfl
theorem topR_pan {id : Nat} {h : Heap} {args : List AV} : (topRS).pan id h args = panP (args1 (tInt .i64) ((fun _ => True))) ((fun s => .ret (iv (topF s)))) h args := rfl

end Go.Proofs.YtpjlafmhoifkmaaGreat
