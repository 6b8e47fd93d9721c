/- The document's logical immediates: the search. -/
import Derived.Test.YtpjlafmhoifkmaaGreatKI
set_option linter.unusedVariables false
set_option linter.unusedSimpArgs false
namespace Go.Proofs.YtpjlafmhoifkmaaGreat
open Go.RowKit
set_option maxRecDepth 100000

def rPi (v n : Nat) : Nat := (List.range n).foldl (fun s i => s + v / 2 ^ i % 2) 0
theorem rPi_succ (v n : Nat) : rPi v (n + 1) = rPi v n + v / 2 ^ n % 2 := by
  unfold rPi
  rw [List.range_succ, List.foldl_append]
  rfl
theorem rPi_le (v : Nat) : ∀ n, rPi v n ≤ n
  | 0 => Nat.le_refl 0
  | n + 1 => by
    rw [rPi_succ]
    have := rPi_le v n
    omega
def ptA (v w : Nat) (k : Nat) : St := ⟨0, [(0, uv v), (1, iv w), (8, iv (szI k))], []⟩
def ptB (v w s : Nat) (i : Nat) : St := ⟨0, [(0, uv v), (1, iv w), (8, iv s), (9, iv (rPi v i)), (10, iv i)], []⟩
def ptC (v w s o : Nat) (x : Nat × Nat) : St := ⟨0, [(0, uv v), (1, iv w), (8, iv s), (9, iv o), (11, iv x.2)], []⟩
def patO : Option (Nat × Nat × Nat) → AV
  | some (s, o, t) => .tup [.l (.v (.int .i64 (s : Int))), .l (.v (.int .i64 (o : Int))), .l (.v (.int .i64 (t : Int))), .l (.v (.int .i64 0))]
  | none => .tup [.l (.v (.int .i64 0)), .l (.v (.int .i64 0)), .l (.v (.int .i64 0)), .l (.v (.int .i64 20))]
theorem sz_at {w : Nat} (hw : w = 32 ∨ w = 64) {k : Nat} (h : k < (lSizes w).length) : ∃ s, (lSizes w).drop k = s :: (lSizes w).drop (k + 1) ∧ szI k = (s : Int) ∧ szI (k + 1) = (s : Int) * 2 ∧ 2 ≤ s ∧ s ≤ w := by
  rcases hw with rfl | rfl
  · have : k = 0 ∨ k = 1 ∨ k = 2 ∨ k = 3 ∨ k = 4 := by have : k < 5 := h; omega
    rcases this with rfl | rfl | rfl | rfl | rfl <;> exact ⟨_, rfl, rfl, rfl, by decide, by decide⟩
  · have : k = 0 ∨ k = 1 ∨ k = 2 ∨ k = 3 ∨ k = 4 ∨ k = 5 := by have : k < 6 := h; omega
    rcases this with rfl | rfl | rfl | rfl | rfl | rfl <;> exact ⟨_, rfl, rfl, rfl, by decide, by decide⟩
theorem sz_end {w : Nat} (hw : w = 32 ∨ w = 64) : (w : Int) < szI (lSizes w).length := by
  rcases hw with rfl | rfl <;> decide
theorem len_le {w : Nat} (hw : w = 32 ∨ w = 64) : (lSizes w).length ≤ 6 := by
  rcases hw with rfl | rfl <;> decide

set_option maxHeartbeats 4000000 in
theorem pattern_sw (v w : Nat) (hv : v < 18446744073709551616) (hw : w = 32 ∨ w = 64) : SW Tryz.prog ⟨none, 0⟩ Tryz.f190.ntmps (Tryz.f190.body.getD .skip) ⟨0, zipT 0 [tU.enc (v : Int), (tInt .i64).enc (w : Int)], []⟩ (outQ Tryz.prog Tryz.f190.results.toList (.ret (patO (rFind v w)))) := by
  have t : ∀ n : Nat, Int.toNat (n : Int) = n := fun _ => rfl
  refine aRun_sound (ctx := [⟨_, bad2S⟩]) 4000 ?_
  rw [Tryz.ntmps190, Tryz.results190]
  simp only [Tryz.f190, Option.getD_some, zipT]
  have hbad : decide (¬ (w : Int) = 32 ∧ ¬ (w : Int) = 64) = false := by
    apply decide_eq_false
    omega
  simp only [go_sem, Nat.reduceOr, Nat.reducePow, Nat.reduceDiv, Nat.reduceMod, Nat.reduceBEq, Int.reduceBEq, Int.reduceBNe, Int.reduceEq, Int.reduceLT, Int.reduceLE, Int.reduceToNat, reduceIte, reduceCtorEq, Nat.reduceEqDiff, Nat.reduceAdd, Nat.reduceLT, Nat.reduceLeDiff, Nat.reduceMul, Nat.reduceSub, tU, bad2_run, bad2_pan, hbad]
  refine sw_loop (ι := Nat) (fun k => k ≤ (lSizes w).length ∧ rFindL v w ((lSizes w).drop k) = rFind v w) (ptA v w) (fun k => (lSizes w).length - k) 0 ⟨Nat.zero_le _, rfl⟩ (Wk.renL [] (by simp) (Nat.zero_le _) (by decide) rfl rfl) ?_
  rintro k ⟨hk, hinv⟩
  refine aRun_sound (ctx := []) 4000 ?_
  by_cases hlt : k < (lSizes w).length
  · obtain ⟨s, hd, hs1, hs2, s2, sw⟩ := sz_at hw hlt
    have hlen := len_le hw
    have hle : (s : Int) ≤ w := by omega
    rw [hd, rFindL] at hinv
    have n2 : IntKind.i64.wrap ((s : Int) * 2) = (s : Int) * 2 := by rw [IntKind.wrap_i64]; omega
    -- to the next size
    have next : rFindL v w ((lSizes w).drop (k + 1)) = rFind v w → ∀ tm, tget tm 0 = uv v → tget tm 1 = iv w → tget tm 8 = iv ((s : Int) * 2) → ∀ nx, Wk ⟨none, 0⟩ ⟨nx, tm, []⟩ (ptA v w (k + 1)) := by
      intro _ tm h0 h1 h8 nx
      exact Wk.renL [] (by simp) (Nat.zero_le _) (by decide) (by simp [ptA, h0, h1, h8, hs2, AV.ren, SV.ren, LV.ren]) rfl
    simp only [go_sem, Nat.reduceOr, Nat.reducePow, Nat.reduceDiv, Nat.reduceMod, Nat.reduceBEq, Int.reduceBEq, Int.reduceBNe, Int.reduceEq, Int.reduceLT, Int.reduceLE, Int.reduceToNat, reduceIte, reduceCtorEq, Nat.reduceEqDiff, Nat.reduceAdd, Nat.reduceLT, Nat.reduceLeDiff, Nat.reduceMul, Nat.reduceSub, ptA, hs1, hle]
    refine sw_loop (ι := Nat) (fun i => i ≤ s) (ptB v w s) (fun i => s - i) 0 (Nat.zero_le _) (Wk.renL [] (by simp) (Nat.zero_le _) (by decide) rfl rfl) ?_
    intro i hi
    refine aRun_sound (ctx := []) 4000 ?_
    by_cases hlt2 : i < s
    · have hltI : (i : Int) < s := by omega
      have e1 : IntKind.u64.wrap (i : Int) = (i : Int) := by rw [wrapU]; omega
      have e2 := shr_u v i (by omega)
      have e3 : Int.tmod ((v / 2 ^ i : Nat) : Int) 2 = ((v / 2 ^ i % 2 : Nat) : Int) := rfl
      have e4 : IntKind.i64.wrap ((v / 2 ^ i % 2 : Nat) : Int) = ((v / 2 ^ i % 2 : Nat) : Int) := by rw [IntKind.wrap_i64]; omega
      have hb := rPi_le v i
      have e5 : IntKind.i64.wrap ((rPi v i : Int) + ((v / 2 ^ i % 2 : Nat) : Int)) = ((rPi v (i + 1) : Nat) : Int) := by rw [rPi_succ, IntKind.wrap_i64]; omega
      have e6 : IntKind.i64.wrap ((i : Int) + 1) = ((i + 1 : Nat) : Int) := by rw [IntKind.wrap_i64]; omega
      have i0 : (0 : Int) ≤ i := Int.natCast_nonneg _
      simp only [go_sem, Nat.reduceOr, Nat.reducePow, Nat.reduceDiv, Nat.reduceMod, Nat.reduceBEq, Int.reduceBEq, Int.reduceBNe, Int.reduceEq, Int.reduceLT, Int.reduceLE, Int.reduceToNat, reduceIte, reduceCtorEq, Nat.reduceEqDiff, Nat.reduceAdd, Nat.reduceLT, Nat.reduceLeDiff, Nat.reduceMul, Nat.reduceSub, ptB, hltI, e1, e2, e3, e4, e5, e6, t, i0]
      exact ⟨i + 1, by omega, by omega, Wk.renL [] (by simp) (Nat.zero_le _) (by decide) rfl rfl⟩
    · obtain rfl : i = s := by omega
      have hltI : ¬ (i : Int) < i := by omega
      have ho : rPi v i = rPop v i := rfl
      obtain ⟨o, hoo⟩ : ∃ o, rPop v i = o := ⟨_, rfl⟩
      rw [hoo] at ho hinv
      by_cases ho1 : o < 1
      · have hoI : (o : Int) < 1 := by omega
        rw [if_neg (by omega)] at hinv
        simp only [go_sem, Nat.reduceOr, Nat.reducePow, Nat.reduceDiv, Nat.reduceMod, Nat.reduceBEq, Int.reduceBEq, Int.reduceBNe, Int.reduceEq, Int.reduceLT, Int.reduceLE, Int.reduceToNat, reduceIte, reduceCtorEq, Nat.reduceEqDiff, Nat.reduceAdd, Nat.reduceLT, Nat.reduceLeDiff, Nat.reduceMul, Nat.reduceSub, ptB, hltI, ho, hoI, n2]
        exact ⟨k + 1, ⟨by omega, hinv⟩, by omega, next hinv _ rfl rfl rfl _⟩
      by_cases ho2 : i ≤ o
      · have hoI : ¬ (o : Int) < 1 := by omega
        have hoI2 : (i : Int) ≤ o := by omega
        rw [if_neg (by omega)] at hinv
        simp only [go_sem, Nat.reduceOr, Nat.reducePow, Nat.reduceDiv, Nat.reduceMod, Nat.reduceBEq, Int.reduceBEq, Int.reduceBNe, Int.reduceEq, Int.reduceLT, Int.reduceLE, Int.reduceToNat, reduceIte, reduceCtorEq, Nat.reduceEqDiff, Nat.reduceAdd, Nat.reduceLT, Nat.reduceLeDiff, Nat.reduceMul, Nat.reduceSub, ptB, hltI, ho, hoI, hoI2, n2]
        exact ⟨k + 1, ⟨by omega, hinv⟩, by omega, next hinv _ rfl rfl rfl _⟩
      · have hoI : ¬ (o : Int) < 1 := by omega
        have hoI2 : ¬ (i : Int) ≤ o := by omega
        rw [if_pos (by omega)] at hinv
        simp only [go_sem, Nat.reduceOr, Nat.reducePow, Nat.reduceDiv, Nat.reduceMod, Nat.reduceBEq, Int.reduceBEq, Int.reduceBNe, Int.reduceEq, Int.reduceLT, Int.reduceLE, Int.reduceToNat, reduceIte, reduceCtorEq, Nat.reduceEqDiff, Nat.reduceAdd, Nat.reduceLT, Nat.reduceLeDiff, Nat.reduceMul, Nat.reduceSub, ptB, hltI, ho, hoI, hoI2]
        refine sw_loop (ι := Nat × Nat) (fun x => rTurn v i o w x.1 x.2 = rTurn v i o w 64 0 ∧ x.1 + x.2 = 64) (ptC v w i o) (fun x => 64 - x.2) (64, 0) ⟨rfl, rfl⟩ (Wk.renL [] (by simp) (Nat.zero_le _) (by decide) rfl rfl) ?_
        rintro ⟨f, tu⟩ ⟨j1, j2⟩
        simp only at j1 j2
        refine aRun_sound (ctx := [⟨_, rvalS⟩]) 4000 ?_
        by_cases hlt3 : tu < i
        · obtain ⟨f', rfl⟩ : ∃ f', f = f' + 1 := ⟨f - 1, by omega⟩
          rw [rTurn, if_pos hlt3] at j1
          have hltI3 : (tu : Int) < i := by omega
          have hq : rvQ i o tu w := by unfold rvQ; omega
          have e6 : IntKind.i64.wrap ((tu : Int) + 1) = ((tu + 1 : Nat) : Int) := by rw [IntKind.wrap_i64]; omega
          by_cases heq : rVal i o tu w = v
          · rw [if_pos heq] at j1
            rw [← j1] at hinv
            have hF : rFind v w = some (i, o, tu) := hinv.symm
            have hbq : (((rVal i o tu w : Nat) : Int) == (v : Int)) = true := by rw [heq]; simp
            simp only [go_sem, Nat.reduceOr, Nat.reducePow, Nat.reduceDiv, Nat.reduceMod, Nat.reduceBEq, Int.reduceBEq, Int.reduceBNe, Int.reduceEq, Int.reduceLT, Int.reduceLE, Int.reduceToNat, reduceIte, reduceCtorEq, Nat.reduceEqDiff, Nat.reduceAdd, Nat.reduceLT, Nat.reduceLeDiff, Nat.reduceMul, Nat.reduceSub, ptC, hltI3, rval_run, rval_pan, hq, t, hbq, hF, patO]
          · rw [if_neg heq] at j1
            have hbq : (((rVal i o tu w : Nat) : Int) == (v : Int)) = false := by
              simp only [beq_eq_false_iff_ne, ne_eq]
              exact fun h => heq (Int.ofNat.inj h)
            simp only [go_sem, Nat.reduceOr, Nat.reducePow, Nat.reduceDiv, Nat.reduceMod, Nat.reduceBEq, Int.reduceBEq, Int.reduceBNe, Int.reduceEq, Int.reduceLT, Int.reduceLE, Int.reduceToNat, reduceIte, reduceCtorEq, Nat.reduceEqDiff, Nat.reduceAdd, Nat.reduceLT, Nat.reduceLeDiff, Nat.reduceMul, Nat.reduceSub, ptC, hltI3, rval_run, rval_pan, hq, t, hbq, e6]
            exact ⟨(f', tu + 1), ⟨j1, by simp only; omega⟩, by simp only; omega, Wk.renL [] (by simp) (Nat.zero_le _) (by decide) rfl rfl⟩
        · have hltI3 : ¬ (tu : Int) < i := by omega
          have hT : rTurn v i o w 64 0 = none := by
            rw [← j1]
            cases f
            · rfl
            · rw [rTurn, if_neg hlt3]
          rw [hT] at hinv
          simp only [go_sem, Nat.reduceOr, Nat.reducePow, Nat.reduceDiv, Nat.reduceMod, Nat.reduceBEq, Int.reduceBEq, Int.reduceBNe, Int.reduceEq, Int.reduceLT, Int.reduceLE, Int.reduceToNat, reduceIte, reduceCtorEq, Nat.reduceEqDiff, Nat.reduceAdd, Nat.reduceLT, Nat.reduceLeDiff, Nat.reduceMul, Nat.reduceSub, ptC, hltI3, n2]
          exact ⟨k + 1, ⟨by omega, hinv⟩, by omega, next hinv _ rfl rfl rfl _⟩
  · obtain rfl : k = (lSizes w).length := by omega
    have he := sz_end hw
    have hle : ¬ szI (lSizes w).length ≤ (w : Int) := by omega
    rw [List.drop_length, rFindL] at hinv
    simp only [go_sem, Nat.reduceOr, Nat.reducePow, Nat.reduceDiv, Nat.reduceMod, Nat.reduceBEq, Int.reduceBEq, Int.reduceBNe, Int.reduceEq, Int.reduceLT, Int.reduceLE, Int.reduceToNat, reduceIte, reduceCtorEq, Nat.reduceEqDiff, Nat.reduceAdd, Nat.reduceLT, Nat.reduceLeDiff, Nat.reduceMul, Nat.reduceSub, ptA, hle, ← hinv, patO]
theorem en_pattern (args : Array Value) (w : World) : (callFunc 190 args).run Tryz.prog w = .ok (.enter 190 args) w := by go_simp
def patternS : Spec Tryz.prog 190 :=
  mk2 _ _ _ Tryz.func190 rfl en_pattern (tU) (tInt .i64) ((fun v w => (0 ≤ v ∧ v < 18446744073709551616) ∧ (w = 32 ∨ w = 64))) ((fun v w => .ret (patO (rFind v.toNat w.toNat)))) (by rw [Tryz.ntmps190]; decide) (fun v w h => by
  obtain ⟨⟨h1, h2⟩, h3⟩ := h
  obtain ⟨v, rfl⟩ := Int.eq_ofNat_of_zero_le h1
  obtain ⟨w, rfl⟩ := Int.eq_ofNat_of_zero_le (show 0 ≤ w by omega)
  exact pattern_sw v w (by omega) (by omega))
theorem pattern_run {id : Nat} {h : Heap} {args : List AV} : (patternS).run id h args = runP (args2 (tU) (tInt .i64) ((fun v w => (0 ≤ v ∧ v < 18446744073709551616) ∧ (w = 32 ∨ w = 64)))) (fun x => ((fun v w => .ret (patO (rFind v.toNat w.toNat)))) x.1 x.2) h args := rfl
theorem pattern_pan {id : Nat} {h : Heap} {args : List AV} : (patternS).pan id h args = panP (args2 (tU) (tInt .i64) ((fun v w => (0 ≤ v ∧ v < 18446744073709551616) ∧ (w = 32 ∨ w = 64)))) (fun x => ((fun v w => .ret (patO (rFind v.toNat w.toNat)))) x.1 x.2) h args := rfl

theorem rFind_some {v w : Nat} (hw : w = 32 ∨ w = 64) {s o t : Nat} (h : rFind v w = some (s, o, t)) : 2 ≤ s ∧ s ≤ w ∧ 1 ≤ o ∧ o < s ∧ t < s := by
  have := rFindL_some h
  have hm := lSizes_in hw this.1
  simp only at this hm
  omega
def encR (v w : Nat) : Int × Int × Int × Int := match rFind v w with
  | some (s, o, t) => (if (s : Int) = 64 then 1 else 0, t, topF s + o - 1, 0)
  | none => (0, 0, 0, 20)
theorem topF_b (s : Int) : 0 ≤ topF s ∧ topF s ≤ 60 := by unfold topF; repeat' split
                                                          all_goals omega
set_option maxHeartbeats 1000000 in
theorem en_encodeR (args : Array Value) (w : World) : (callFunc 168 args).run Tryz.prog w = .ok (.enter 168 args) w := by go_simp
def encodeRS : Spec Tryz.prog 168 :=
  mk2 _ _ _ Tryz.func168 rfl en_encodeR (tU) (tInt .i64) ((fun v w => (0 ≤ v ∧ v < 18446744073709551616) ∧ (w = 32 ∨ w = 64))) ((fun v w => .ret (encO (encR v.toNat w.toNat)))) (by rw [Tryz.ntmps168]; decide) (fun v w h => by
  refine aRun_sound (ctx := [⟨_, patternS⟩, ⟨_, topRS⟩]) 4000 ?_
  rw [Tryz.ntmps168, Tryz.results168]
  simp only [Tryz.f168, Option.getD_some, zipT]
  obtain ⟨⟨h1, h2⟩, h3⟩ := h
  obtain ⟨v, rfl⟩ := Int.eq_ofNat_of_zero_le h1
  obtain ⟨w, rfl⟩ := Int.eq_ofNat_of_zero_le (show 0 ≤ w by omega)
  have t : ∀ n : Nat, Int.toNat (n : Int) = n := fun _ => rfl
  unfold encR
  simp only [t]
  cases hF : rFind v w with
  | none => simp only [go_sem, Nat.reduceOr, Nat.reducePow, Nat.reduceDiv, Nat.reduceMod, Nat.reduceBEq, Int.reduceBEq, Int.reduceBNe, Int.reduceEq, Int.reduceLT, Int.reduceLE, Int.reduceToNat, reduceIte, reduceCtorEq, Nat.reduceEqDiff, Nat.reduceAdd, Nat.reduceLT, Nat.reduceLeDiff, Nat.reduceMul, Nat.reduceSub, tU, pattern_run, pattern_pan, h1, h2, h3, t, hF, patO, encO]
  | some y =>
    obtain ⟨s, o, tt⟩ := y
    have hb := rFind_some (by omega) hF
    have ht := topF_b s
    have e1 : IntKind.i64.wrap (topF s + o) = topF s + o := by rw [IntKind.wrap_i64]; omega
    have e2 : IntKind.i64.wrap (topF s + o - 1) = topF s + o - 1 := by rw [IntKind.wrap_i64]; omega
    by_cases h64 : (s : Int) = 64
    · have b64 : ((s : Int) == 64) = true := by simpa using h64
      simp only [go_sem, Nat.reduceOr, Nat.reducePow, Nat.reduceDiv, Nat.reduceMod, Nat.reduceBEq, Int.reduceBEq, Int.reduceBNe, Int.reduceEq, Int.reduceLT, Int.reduceLE, Int.reduceToNat, reduceIte, reduceCtorEq, Nat.reduceEqDiff, Nat.reduceAdd, Nat.reduceLT, Nat.reduceLeDiff, Nat.reduceMul, Nat.reduceSub, tU, pattern_run, pattern_pan, h1, h2, h3, t, hF, patO, encO, b64, topR_run, topR_pan, e1, e2, eq_true h64]
    · have b64 : ((s : Int) == 64) = false := by simpa using h64
      simp only [go_sem, Nat.reduceOr, Nat.reducePow, Nat.reduceDiv, Nat.reduceMod, Nat.reduceBEq, Int.reduceBEq, Int.reduceBNe, Int.reduceEq, Int.reduceLT, Int.reduceLE, Int.reduceToNat, reduceIte, reduceCtorEq, Nat.reduceEqDiff, Nat.reduceAdd, Nat.reduceLT, Nat.reduceLeDiff, Nat.reduceMul, Nat.reduceSub, tU, pattern_run, pattern_pan, h1, h2, h3, t, hF, patO, encO, b64, topR_run, topR_pan, e1, e2, h64])
theorem encodeR_run {id : Nat} {h : Heap} {args : List AV} : (encodeRS).run id h args = runP (args2 (tU) (tInt .i64) ((fun v w => (0 ≤ v ∧ v < 18446744073709551616) ∧ (w = 32 ∨ w = 64)))) (fun x => ((fun v w => .ret (encO (encR v.toNat w.toNat)))) x.1 x.2) h args := rfl
theorem encodeR_pan {id : Nat} {h : Heap} {args : List AV} : (encodeRS).pan id h args = panP (args2 (tU) (tInt .i64) ((fun v w => (0 ≤ v ∧ v < 18446744073709551616) ∧ (w = 32 ∨ w = 64)))) (fun x => ((fun v w => .ret (encO (encR v.toNat w.toNat)))) x.1 x.2) h args := rfl
def fieldR (v w : Nat) : Int × Int := if (rFind v w).isSome then ((fieldF (encR v w)).1, 0) else (0, 20)
set_option maxHeartbeats 1000000 in
theorem en_fieldR (args : Array Value) (w : World) : (callFunc 140 args).run Tryz.prog w = .ok (.enter 140 args) w := by go_simp
def fieldRS : Spec Tryz.prog 140 :=
  mk2 _ _ _ Tryz.func140 rfl en_fieldR (tU) (tInt .i64) ((fun v w => (0 ≤ v ∧ v < 18446744073709551616) ∧ (w = 32 ∨ w = 64))) ((fun v w => .ret (fieldO (fieldR v.toNat w.toNat)))) (by rw [Tryz.ntmps140]; decide) (fun v w h => by
  refine aRun_sound (ctx := [⟨_, encodeRS⟩]) 4000 ?_
  rw [Tryz.ntmps140, Tryz.results140]
  simp only [Tryz.f140, Option.getD_some, zipT]
  obtain ⟨⟨h1, h2⟩, h3⟩ := h
  obtain ⟨v, rfl⟩ := Int.eq_ofNat_of_zero_le h1
  obtain ⟨w, rfl⟩ := Int.eq_ofNat_of_zero_le (show 0 ≤ w by omega)
  have t : ∀ n : Nat, Int.toNat (n : Int) = n := fun _ => rfl
  simp only [t]
  cases hF : rFind v w with
  | none =>
    have e : encR v w = (0, 0, 0, 20) := by unfold encR; rw [hF]
    have e2 : fieldR v w = (0, 20) := by unfold fieldR; rw [hF]; rfl
    simp only [go_sem, Nat.reduceOr, Nat.reducePow, Nat.reduceDiv, Nat.reduceMod, Nat.reduceBEq, Int.reduceBEq, Int.reduceBNe, Int.reduceEq, Int.reduceLT, Int.reduceLE, Int.reduceToNat, reduceIte, reduceCtorEq, Nat.reduceEqDiff, Nat.reduceAdd, Nat.reduceLT, Nat.reduceLeDiff, Nat.reduceMul, Nat.reduceSub, tU, encodeR_run, encodeR_pan, h1, h2, h3, t, e, encO, e2, fieldO]
  | some y =>
    have e2 : fieldR v w = ((fieldF (encR v w)).1, 0) := by unfold fieldR; rw [hF]; rfl
    obtain ⟨r, hr⟩ : ∃ r, encR v w = r := ⟨_, rfl⟩
    have e3 : r.2.2.2 = 0 := by rw [← hr]; unfold encR; rw [hF]
    rw [hr] at e2
    simp only [go_sem, Nat.reduceOr, Nat.reducePow, Nat.reduceDiv, Nat.reduceMod, Nat.reduceBEq, Int.reduceBEq, Int.reduceBNe, Int.reduceEq, Int.reduceLT, Int.reduceLE, Int.reduceToNat, reduceIte, reduceCtorEq, Nat.reduceEqDiff, Nat.reduceAdd, Nat.reduceLT, Nat.reduceLeDiff, Nat.reduceMul, Nat.reduceSub, tU, encodeR_run, encodeR_pan, h1, h2, h3, t, hr, encO, e2, e3, fieldO, fieldF])
theorem fieldR_run {id : Nat} {h : Heap} {args : List AV} : (fieldRS).run id h args = runP (args2 (tU) (tInt .i64) ((fun v w => (0 ≤ v ∧ v < 18446744073709551616) ∧ (w = 32 ∨ w = 64)))) (fun x => ((fun v w => .ret (fieldO (fieldR v.toNat w.toNat)))) x.1 x.2) h args := rfl
theorem fieldR_pan {id : Nat} {h : Heap} {args : List AV} : (fieldRS).pan id h args = panP (args2 (tU) (tInt .i64) ((fun v w => (0 ≤ v ∧ v < 18446744073709551616) ∧ (w = 32 ∨ w = 64)))) (fun x => ((fun v w => .ret (fieldO (fieldR v.toNat w.toNat)))) x.1 x.2) h args := rfl
theorem fieldR_err {v w : Nat} (hw : w = 32 ∨ w = 64) : (fieldR v w).2 = if (lFind v w).isSome then 0 else 20 := by
  unfold fieldR
  rw [find_same hw]
  split <;> rfl

end Go.Proofs.YtpjlafmhoifkmaaGreat
