/- The document's logical immediates. The document's logical immediates: the search. The document's instructions: limits and fields, of some classes. -/
import Derived.Test.YtpjlafmhoifkmaaGreatKc
import Derived.Test.YtpjlafmhoifkmaaGreatKd
set_option linter.unusedVariables false
set_option linter.unusedSimpArgs false
namespace Go.Proofs.YtpjlafmhoifkmaaGreat
open Go.RowKit
set_option maxRecDepth 100000

/-! ### A pattern's value -/
def rVi (size ones turn : Nat) (n : Nat) : Nat := (List.range n).foldl (fun v i => if (i % size + turn) % size < ones then v ||| 2 ^ i else v) 0
theorem rVi_succ (size ones turn n : Nat) : rVi size ones turn (n + 1) = if (n % size + turn) % size < ones then rVi size ones turn n ||| 2 ^ n else rVi size ones turn n := by
  unfold rVi
  rw [List.range_succ, List.foldl_append]
  rfl
theorem rVi_lt (size ones turn : Nat) : ∀ n, n ≤ 64 → rVi size ones turn n < 2 ^ 64
  | 0, _ => by show 0 < 2 ^ 64; decide
  | n + 1, h => by
    rw [rVi_succ]
    have ih := rVi_lt size ones turn n (by omega)
    split
    · exact Nat.or_lt_two_pow ih (Nat.pow_lt_pow_right (by decide) (by omega))
    · exact ih
theorem one_shl (i : Nat) (h : i < 64) : IntKind.u64.wrap (1 * 2 ^ min i 64) = ((2 ^ i : Nat) : Int) := by
  have h1 : 2 ^ i < 2 ^ 64 := Nat.pow_lt_pow_right (by decide) h
  have h2 : 1 * 2 ^ i % 18446744073709551616 = 2 ^ i := by rw [Nat.one_mul]; exact Nat.mod_eq_of_lt h1
  have h3 := shl_u 1 i (by omega)
  rw [h2] at h3
  exact h3
def rvI (s o t w : Nat) (i : Nat) : St := ⟨0, [(0, iv s), (1, iv o), (2, iv t), (3, iv w), (9, uv (rVi s o t i)), (10, iv i)], []⟩
set_option maxHeartbeats 2000000 in
theorem rval_sw (s o tu w : Nat) (h : 2 ≤ s ∧ s ≤ 64 ∧ tu < s ∧ (w = 32 ∨ w = 64)) : SW Tryz.prog ⟨none, 0⟩ Tryz.f194.ntmps (Tryz.f194.body.getD .skip) ⟨0, zipT 0 [(tInt .i64).enc (s : Int), (tInt .i64).enc (o : Int), (tInt .i64).enc (tu : Int), (tInt .i64).enc (w : Int)], []⟩ (outQ Tryz.prog Tryz.f194.results.toList (.ret (uv (rVal s o tu w)))) := by
  obtain ⟨h1, h2, h3, h4⟩ := h
  have t : ∀ n : Nat, Int.toNat (n : Int) = n := fun _ => rfl
  refine aRun_sound (ctx := []) 4000 ?_
  rw [Tryz.ntmps194, Tryz.results194]
  simp only [Tryz.f194, Option.getD_some, zipT]
  simp only [go_sem]
  refine sw_loop (ι := Nat) (fun i => i ≤ w) (rvI s o tu w) (fun i => w - i) 0 (Nat.zero_le _) (Wk.renL [] (by simp) (Nat.zero_le _) (by decide) rfl rfl) ?_
  intro i hi
  refine aRun_sound (ctx := []) 4000 ?_
  have hb := rVi_lt s o tu i (by omega)
  by_cases hlt : i < w
  · have hltI : (i : Int) < w := by omega
    have i64 : i < 64 := by omega
    have s0 : ¬ (s : Int) = 0 := by omega
    have e1 : Int.tmod (i : Int) (s : Int) = ((i % s : Nat) : Int) := rfl
    have m1 : i % s < s := Nat.mod_lt _ (by omega)
    have e2 : IntKind.i64.wrap (((i % s : Nat) : Int) + tu) = ((i % s + tu : Nat) : Int) := by rw [IntKind.wrap_i64]; omega
    have e3 : Int.tmod ((i % s + tu : Nat) : Int) (s : Int) = (((i % s + tu) % s : Nat) : Int) := rfl
    have e4 : IntKind.u64.wrap (i : Int) = (i : Int) := by rw [wrapU]; omega
    have e5 := one_shl i i64
    have e6 := or_u (rVi s o tu i) (2 ^ i) hb (Nat.pow_lt_pow_right (by decide) i64)
    have e7 : IntKind.i64.wrap ((i : Int) + 1) = ((i + 1 : Nat) : Int) := by rw [IntKind.wrap_i64]; omega
    have hn := rVi_succ s o tu i
    have i0 : (0 : Int) ≤ i := Int.natCast_nonneg _
    by_cases hc : (i % s + tu) % s < o
    · have hcI : (((i % s + tu) % s : Nat) : Int) < o := by omega
      rw [if_pos hc] at hn
      simp only [go_sem, rvI, hltI, s0, e1, e2, e3, e4, e5, e6, e7, hcI, t, i0]
      exact ⟨i + 1, by omega, by omega, Wk.renL [] (by simp) (Nat.zero_le _) (by decide) (by rw [hn]; rfl) rfl⟩
    · have hcI : ¬ (((i % s + tu) % s : Nat) : Int) < o := by omega
      rw [if_neg hc] at hn
      simp only [go_sem, rvI, hltI, s0, e1, e2, e3, e4, e5, e6, e7, hcI, t, i0]
      exact ⟨i + 1, by omega, by omega, Wk.renL [] (by simp) (Nat.zero_le _) (by decide) (by rw [hn]; rfl) rfl⟩
  · obtain rfl : i = w := by omega
    have hltI : ¬ (i : Int) < i := by omega
    have e : rVal s o tu i = rVi s o tu i := rfl
    simp only [go_sem, rvI, hltI, e]
def rvQ (s o t w : Int) : Prop := 2 ≤ s ∧ s ≤ 64 ∧ 0 ≤ o ∧ 0 ≤ t ∧ t < s ∧ (w = 32 ∨ w = 64)
theorem en_rval (args : Array Value) (w : World) : (callFunc 194 args).run Tryz.prog w = .ok (.enter 194 args) w := by go_simp
def rvalS : Spec Tryz.prog 194 :=
  mk4 _ _ _ Tryz.func194 rfl en_rval (tInt .i64) (tInt .i64) (tInt .i64) (tInt .i64) (rvQ) ((fun s o t w => .ret (uv (rVal s.toNat o.toNat t.toNat w.toNat)))) (by rw [Tryz.ntmps194]; decide) (fun s o t w h => by
  obtain ⟨h1, h2, h3, h4, h5, h6⟩ := h
  obtain ⟨s, rfl⟩ := Int.eq_ofNat_of_zero_le (show 0 ≤ s by omega)
  obtain ⟨o, rfl⟩ := Int.eq_ofNat_of_zero_le h3
  obtain ⟨t, rfl⟩ := Int.eq_ofNat_of_zero_le h4
  obtain ⟨w, rfl⟩ := Int.eq_ofNat_of_zero_le (show 0 ≤ w by omega)
  exact rval_sw s o t w ⟨by omega, by omega, by omega, by omega⟩)
theorem rval_run {id : Nat} {h : Heap} {args : List AV} : (rvalS).run id h args = runP (args4 (tInt .i64) (tInt .i64) (tInt .i64) (tInt .i64) (rvQ)) (fun x => ((fun s o t w => .ret (uv (rVal s.toNat o.toNat t.toNat w.toNat)))) x.1 x.2.1 x.2.2.1 x.2.2.2) h args := rfl
theorem rval_pan {id : Nat} {h : Heap} {args : List AV} : (rvalS).pan id h args = panP (args4 (tInt .i64) (tInt .i64) (tInt .i64) (tInt .i64) (rvQ)) (fun x => ((fun s o t w => .ret (uv (rVal s.toNat o.toNat t.toNat w.toNat)))) x.1 x.2.1 x.2.2.1 x.2.2.2) h args := rfl
def topF (s : Int) : Int := if s = 2 then 60 else if s = 4 then 56 else if s = 8 then 48 else if s = 16 then 32 else 0
theorem en_topR (args : Array Value) (w : World) : (callFunc 191 args).run Tryz.prog w = .ok (.enter 191 args) w := by go_simp
def topRS : Spec Tryz.prog 191 :=
  mk1 _ _ _ Tryz.func191 rfl en_topR (tInt .i64) ((fun _ => True)) ((fun s => .ret (iv (topF s)))) (by rw [Tryz.ntmps191]; decide) (fun s _ => by
  refine aRun_sound (ctx := []) 4000 ?_
  rw [Tryz.ntmps191, Tryz.results191]
  simp only [Tryz.f191, Option.getD_some, zipT]
  unfold topF
  by_cases h1 : s = 2
  · simp only [go_sem, h1]
  have b1 : (s == 2) = false := by simpa using h1
  by_cases h2 : s = 4
  · simp only [go_sem, h2]
  have b2 : (s == 4) = false := by simpa using h2
  by_cases h3 : s = 8
  · simp only [go_sem, h3]
  have b3 : (s == 8) = false := by simpa using h3
  by_cases h4 : s = 16
  · simp only [go_sem, h4]
  have b4 : (s == 16) = false := by simpa using h4
  simp only [go_sem, h1, h2, h3, h4, b1, b2, b3, b4])
theorem topR_run {id : Nat} {h : Heap} {args : List AV} : (topRS).run id h args = runP (args1 (tInt .i64) ((fun _ => True))) ((fun s => .ret (iv (topF s)))) h args := rfl
theorem topR_pan {id : Nat} {h : Heap} {args : List AV} : (topRS).pan id h args = panP (args1 (tInt .i64) ((fun _ => True))) ((fun s => .ret (iv (topF s)))) h args := rfl

end Go.Proofs.YtpjlafmhoifkmaaGreat

namespace Go.Proofs.YtpjlafmhoifkmaaGreat
open Go.RowKit
set_option maxRecDepth 100000

def rPi (v n : Nat) : Nat := (List.range n).foldl (fun s i => s + v / 2 ^ i % 2) 0
theorem rPi_succ (v n : Nat) : rPi v (n + 1) = rPi v n + v / 2 ^ n % 2 := by
  unfold rPi
  rw [List.range_succ, List.foldl_append]
  rfl
theorem rPi_le (v : Nat) : ∀ n, rPi v n ≤ n
  | 0 => Nat.le_refl 0
  | n + 1 => by
    rw [rPi_succ]
    have := rPi_le v n
    omega
def ptA (v w : Nat) (k : Nat) : St := ⟨0, [(0, uv v), (1, iv w), (8, iv (szI k))], []⟩
def ptB (v w s : Nat) (i : Nat) : St := ⟨0, [(0, uv v), (1, iv w), (8, iv s), (9, iv (rPi v i)), (10, iv i)], []⟩
def ptC (v w s o : Nat) (x : Nat × Nat) : St := ⟨0, [(0, uv v), (1, iv w), (8, iv s), (9, iv o), (11, iv x.2)], []⟩
def patO : Option (Nat × Nat × Nat) → AV
  | some (s, o, t) => .tup [.l (.v (.int .i64 (s : Int))), .l (.v (.int .i64 (o : Int))), .l (.v (.int .i64 (t : Int))), .l (.v (.int .i64 0))]
  | none => .tup [.l (.v (.int .i64 0)), .l (.v (.int .i64 0)), .l (.v (.int .i64 0)), .l (.v (.int .i64 20))]
theorem sz_at {w : Nat} (hw : w = 32 ∨ w = 64) {k : Nat} (h : k < (lSizes w).length) : ∃ s, (lSizes w).drop k = s :: (lSizes w).drop (k + 1) ∧ szI k = (s : Int) ∧ szI (k + 1) = (s : Int) * 2 ∧ 2 ≤ s ∧ s ≤ w := by
  rcases hw with rfl | rfl
  · have : k = 0 ∨ k = 1 ∨ k = 2 ∨ k = 3 ∨ k = 4 := by have : k < 5 := h; omega
    rcases this with rfl | rfl | rfl | rfl | rfl <;> exact ⟨_, rfl, rfl, rfl, by decide, by decide⟩
  · have : k = 0 ∨ k = 1 ∨ k = 2 ∨ k = 3 ∨ k = 4 ∨ k = 5 := by have : k < 6 := h; omega
    rcases this with rfl | rfl | rfl | rfl | rfl | rfl <;> exact ⟨_, rfl, rfl, rfl, by decide, by decide⟩
theorem sz_end {w : Nat} (hw : w = 32 ∨ w = 64) : (w : Int) < szI (lSizes w).length := by
  rcases hw with rfl | rfl <;> decide
theorem len_le {w : Nat} (hw : w = 32 ∨ w = 64) : (lSizes w).length ≤ 6 := by
  rcases hw with rfl | rfl <;> decide

set_option maxHeartbeats 4000000 in
theorem pattern_sw (v w : Nat) (hv : v < 18446744073709551616) (hw : w = 32 ∨ w = 64) : SW Tryz.prog ⟨none, 0⟩ Tryz.f190.ntmps (Tryz.f190.body.getD .skip) ⟨0, zipT 0 [tU.enc (v : Int), (tInt .i64).enc (w : Int)], []⟩ (outQ Tryz.prog Tryz.f190.results.toList (.ret (patO (rFind v w)))) := by
  have t : ∀ n : Nat, Int.toNat (n : Int) = n := fun _ => rfl
  refine aRun_sound (ctx := [⟨_, bad2S⟩]) 4000 ?_
  rw [Tryz.ntmps190, Tryz.results190]
  simp only [Tryz.f190, Option.getD_some, zipT]
  have hbad : decide (¬ (w : Int) = 32 ∧ ¬ (w : Int) = 64) = false := by
    apply decide_eq_false
    omega
  simp only [go_sem, tU, bad2_run, bad2_pan, hbad]
  refine sw_loop (ι := Nat) (fun k => k ≤ (lSizes w).length ∧ rFindL v w ((lSizes w).drop k) = rFind v w) (ptA v w) (fun k => (lSizes w).length - k) 0 ⟨Nat.zero_le _, rfl⟩ (Wk.renL [] (by simp) (Nat.zero_le _) (by decide) rfl rfl) ?_
  rintro k ⟨hk, hinv⟩
  refine aRun_sound (ctx := []) 4000 ?_
  by_cases hlt : k < (lSizes w).length
  · obtain ⟨s, hd, hs1, hs2, s2, sw⟩ := sz_at hw hlt
    have hlen := len_le hw
    have hle : (s : Int) ≤ w := by omega
    rw [hd, rFindL] at hinv
    have n2 : IntKind.i64.wrap ((s : Int) * 2) = (s : Int) * 2 := by rw [IntKind.wrap_i64]; omega
    -- to the next size
    have next : rFindL v w ((lSizes w).drop (k + 1)) = rFind v w → ∀ tm, tget tm 0 = uv v → tget tm 1 = iv w → tget tm 8 = iv ((s : Int) * 2) → ∀ nx, Wk ⟨none, 0⟩ ⟨nx, tm, []⟩ (ptA v w (k + 1)) := by
      intro _ tm h0 h1 h8 nx
      exact Wk.renL [] (by simp) (Nat.zero_le _) (by decide) (by simp [ptA, h0, h1, h8, hs2, AV.ren, SV.ren, LV.ren]) rfl
    simp only [go_sem, ptA, hs1, hle]
    refine sw_loop (ι := Nat) (fun i => i ≤ s) (ptB v w s) (fun i => s - i) 0 (Nat.zero_le _) (Wk.renL [] (by simp) (Nat.zero_le _) (by decide) rfl rfl) ?_
    intro i hi
    refine aRun_sound (ctx := []) 4000 ?_
    by_cases hlt2 : i < s
    · have hltI : (i : Int) < s := by omega
      have e1 : IntKind.u64.wrap (i : Int) = (i : Int) := by rw [wrapU]; omega
      have e2 := shr_u v i (by omega)
      have e3 : Int.tmod ((v / 2 ^ i : Nat) : Int) 2 = ((v / 2 ^ i % 2 : Nat) : Int) := rfl
      have e4 : IntKind.i64.wrap ((v / 2 ^ i % 2 : Nat) : Int) = ((v / 2 ^ i % 2 : Nat) : Int) := by rw [IntKind.wrap_i64]; omega
      have hb := rPi_le v i
      have e5 : IntKind.i64.wrap ((rPi v i : Int) + ((v / 2 ^ i % 2 : Nat) : Int)) = ((rPi v (i + 1) : Nat) : Int) := by rw [rPi_succ, IntKind.wrap_i64]; omega
      have e6 : IntKind.i64.wrap ((i : Int) + 1) = ((i + 1 : Nat) : Int) := by rw [IntKind.wrap_i64]; omega
      have i0 : (0 : Int) ≤ i := Int.natCast_nonneg _
      simp only [go_sem, ptB, hltI, e1, e2, e3, e4, e5, e6, t, i0]
      exact ⟨i + 1, by omega, by omega, Wk.renL [] (by simp) (Nat.zero_le _) (by decide) rfl rfl⟩
    · obtain rfl : i = s := by omega
      have hltI : ¬ (i : Int) < i := by omega
      have ho : rPi v i = rPop v i := rfl
      obtain ⟨o, hoo⟩ : ∃ o, rPop v i = o := ⟨_, rfl⟩
      rw [hoo] at ho hinv
      by_cases ho1 : o < 1
      · have hoI : (o : Int) < 1 := by omega
        rw [if_neg (by omega)] at hinv
        simp only [go_sem, ptB, hltI, ho, hoI, n2]
        exact ⟨k + 1, ⟨by omega, hinv⟩, by omega, next hinv _ rfl rfl rfl _⟩
      by_cases ho2 : i ≤ o
      · have hoI : ¬ (o : Int) < 1 := by omega
        have hoI2 : (i : Int) ≤ o := by omega
        rw [if_neg (by omega)] at hinv
        simp only [go_sem, ptB, hltI, ho, hoI, hoI2, n2]
        exact ⟨k + 1, ⟨by omega, hinv⟩, by omega, next hinv _ rfl rfl rfl _⟩
      · have hoI : ¬ (o : Int) < 1 := by omega
        have hoI2 : ¬ (i : Int) ≤ o := by omega
        rw [if_pos (by omega)] at hinv
        simp only [go_sem, ptB, hltI, ho, hoI, hoI2]
        refine sw_loop (ι := Nat × Nat) (fun x => rTurn v i o w x.1 x.2 = rTurn v i o w 64 0 ∧ x.1 + x.2 = 64) (ptC v w i o) (fun x => 64 - x.2) (64, 0) ⟨rfl, rfl⟩ (Wk.renL [] (by simp) (Nat.zero_le _) (by decide) rfl rfl) ?_
        rintro ⟨f, tu⟩ ⟨j1, j2⟩
        simp only at j1 j2
        refine aRun_sound (ctx := [⟨_, rvalS⟩]) 4000 ?_
        by_cases hlt3 : tu < i
        · obtain ⟨f', rfl⟩ : ∃ f', f = f' + 1 := ⟨f - 1, by omega⟩
          rw [rTurn, if_pos hlt3] at j1
          have hltI3 : (tu : Int) < i := by omega
          have hq : rvQ i o tu w := by unfold rvQ; omega
          have e6 : IntKind.i64.wrap ((tu : Int) + 1) = ((tu + 1 : Nat) : Int) := by rw [IntKind.wrap_i64]; omega
          by_cases heq : rVal i o tu w = v
          · rw [if_pos heq] at j1
            rw [← j1] at hinv
            have hF : rFind v w = some (i, o, tu) := hinv.symm
            have hbq : (((rVal i o tu w : Nat) : Int) == (v : Int)) = true := by rw [heq]; simp
            simp only [go_sem, ptC, hltI3, rval_run, rval_pan, hq, t, hbq, hF, patO]
          · rw [if_neg heq] at j1
            have hbq : (((rVal i o tu w : Nat) : Int) == (v : Int)) = false := by
              simp only [beq_eq_false_iff_ne, ne_eq]
              exact fun h => heq (Int.ofNat.inj h)
            simp only [go_sem, ptC, hltI3, rval_run, rval_pan, hq, t, hbq, e6]
            exact ⟨(f', tu + 1), ⟨j1, by simp only; omega⟩, by simp only; omega, Wk.renL [] (by simp) (Nat.zero_le _) (by decide) rfl rfl⟩
        · have hltI3 : ¬ (tu : Int) < i := by omega
          have hT : rTurn v i o w 64 0 = none := by
            rw [← j1]
            cases f
            · rfl
            · rw [rTurn, if_neg hlt3]
          rw [hT] at hinv
          simp only [go_sem, ptC, hltI3, n2]
          exact ⟨k + 1, ⟨by omega, hinv⟩, by omega, next hinv _ rfl rfl rfl _⟩
  · obtain rfl : k = (lSizes w).length := by omega
    have he := sz_end hw
    have hle : ¬ szI (lSizes w).length ≤ (w : Int) := by omega
    rw [List.drop_length, rFindL] at hinv
    simp only [go_sem, ptA, hle, ← hinv, patO]
theorem en_pattern (args : Array Value) (w : World) : (callFunc 190 args).run Tryz.prog w = .ok (.enter 190 args) w := by go_simp
def patternS : Spec Tryz.prog 190 :=
  mk2 _ _ _ Tryz.func190 rfl en_pattern (tU) (tInt .i64) ((fun v w => (0 ≤ v ∧ v < 18446744073709551616) ∧ (w = 32 ∨ w = 64))) ((fun v w => .ret (patO (rFind v.toNat w.toNat)))) (by rw [Tryz.ntmps190]; decide) (fun v w h => by
  obtain ⟨⟨h1, h2⟩, h3⟩ := h
  obtain ⟨v, rfl⟩ := Int.eq_ofNat_of_zero_le h1
  obtain ⟨w, rfl⟩ := Int.eq_ofNat_of_zero_le (show 0 ≤ w by omega)
  exact pattern_sw v w (by omega) (by omega))
theorem pattern_run {id : Nat} {h : Heap} {args : List AV} : (patternS).run id h args = runP (args2 (tU) (tInt .i64) ((fun v w => (0 ≤ v ∧ v < 18446744073709551616) ∧ (w = 32 ∨ w = 64)))) (fun x => ((fun v w => .ret (patO (rFind v.toNat w.toNat)))) x.1 x.2) h args := rfl
theorem pattern_pan {id : Nat} {h : Heap} {args : List AV} : (patternS).pan id h args = panP (args2 (tU) (tInt .i64) ((fun v w => (0 ≤ v ∧ v < 18446744073709551616) ∧ (w = 32 ∨ w = 64)))) (fun x => ((fun v w => .ret (patO (rFind v.toNat w.toNat)))) x.1 x.2) h args := rfl

theorem rFind_some {v w : Nat} (hw : w = 32 ∨ w = 64) {s o t : Nat} (h : rFind v w = some (s, o, t)) : 2 ≤ s ∧ s ≤ w ∧ 1 ≤ o ∧ o < s ∧ t < s := by
  have := rFindL_some h
  have hm := lSizes_in hw this.1
  simp only at this hm
  omega
def encR (v w : Nat) : Int × Int × Int × Int := match rFind v w with
  | some (s, o, t) => (if (s : Int) = 64 then 1 else 0, t, topF s + o - 1, 0)
  | none => (0, 0, 0, 20)
theorem topF_b (s : Int) : 0 ≤ topF s ∧ topF s ≤ 60 := by unfold topF; repeat' split
                                                          all_goals omega
set_option maxHeartbeats 1000000 in
theorem en_encodeR (args : Array Value) (w : World) : (callFunc 168 args).run Tryz.prog w = .ok (.enter 168 args) w := by go_simp
def encodeRS : Spec Tryz.prog 168 :=
  mk2 _ _ _ Tryz.func168 rfl en_encodeR (tU) (tInt .i64) ((fun v w => (0 ≤ v ∧ v < 18446744073709551616) ∧ (w = 32 ∨ w = 64))) ((fun v w => .ret (encO (encR v.toNat w.toNat)))) (by rw [Tryz.ntmps168]; decide) (fun v w h => by
  refine aRun_sound (ctx := [⟨_, patternS⟩, ⟨_, topRS⟩]) 4000 ?_
  rw [Tryz.ntmps168, Tryz.results168]
  simp only [Tryz.f168, Option.getD_some, zipT]
  obtain ⟨⟨h1, h2⟩, h3⟩ := h
  obtain ⟨v, rfl⟩ := Int.eq_ofNat_of_zero_le h1
  obtain ⟨w, rfl⟩ := Int.eq_ofNat_of_zero_le (show 0 ≤ w by omega)
  have t : ∀ n : Nat, Int.toNat (n : Int) = n := fun _ => rfl
  unfold encR
  simp only [t]
  cases hF : rFind v w with
  | none => simp only [go_sem, tU, pattern_run, pattern_pan, h1, h2, h3, t, hF, patO, encO]
  | some y =>
    obtain ⟨s, o, tt⟩ := y
    have hb := rFind_some (by omega) hF
    have ht := topF_b s
    have e1 : IntKind.i64.wrap (topF s + o) = topF s + o := by rw [IntKind.wrap_i64]; omega
    have e2 : IntKind.i64.wrap (topF s + o - 1) = topF s + o - 1 := by rw [IntKind.wrap_i64]; omega
    by_cases h64 : (s : Int) = 64
    · have b64 : ((s : Int) == 64) = true := by simpa using h64
      simp only [go_sem, tU, pattern_run, pattern_pan, h1, h2, h3, t, hF, patO, encO, b64, topR_run, topR_pan, e1, e2, eq_true h64]
    · have b64 : ((s : Int) == 64) = false := by simpa using h64
      simp only [go_sem, tU, pattern_run, pattern_pan, h1, h2, h3, t, hF, patO, encO, b64, topR_run, topR_pan, e1, e2, h64])
theorem encodeR_run {id : Nat} {h : Heap} {args : List AV} : (encodeRS).run id h args = runP (args2 (tU) (tInt .i64) ((fun v w => (0 ≤ v ∧ v < 18446744073709551616) ∧ (w = 32 ∨ w = 64)))) (fun x => ((fun v w => .ret (encO (encR v.toNat w.toNat)))) x.1 x.2) h args := rfl
theorem encodeR_pan {id : Nat} {h : Heap} {args : List AV} : (encodeRS).pan id h args = panP (args2 (tU) (tInt .i64) ((fun v w => (0 ≤ v ∧ v < 18446744073709551616) ∧ (w = 32 ∨ w = 64)))) (fun x => ((fun v w => .ret (encO (encR v.toNat w.toNat)))) x.1 x.2) h args := rfl
def fieldR (v w : Nat) : Int × Int := if (rFind v w).isSome then ((fieldF (encR v w)).1, 0) else (0, 20)
set_option maxHeartbeats 1000000 in
theorem en_fieldR (args : Array Value) (w : World) : (callFunc 140 args).run Tryz.prog w = .ok (.enter 140 args) w := by go_simp
def fieldRS : Spec Tryz.prog 140 :=
  mk2 _ _ _ Tryz.func140 rfl en_fieldR (tU) (tInt .i64) ((fun v w => (0 ≤ v ∧ v < 18446744073709551616) ∧ (w = 32 ∨ w = 64))) ((fun v w => .ret (fieldO (fieldR v.toNat w.toNat)))) (by rw [Tryz.ntmps140]; decide) (fun v w h => by
  refine aRun_sound (ctx := [⟨_, encodeRS⟩]) 4000 ?_
  rw [Tryz.ntmps140, Tryz.results140]
  simp only [Tryz.f140, Option.getD_some, zipT]
  obtain ⟨⟨h1, h2⟩, h3⟩ := h
  obtain ⟨v, rfl⟩ := Int.eq_ofNat_of_zero_le h1
  obtain ⟨w, rfl⟩ := Int.eq_ofNat_of_zero_le (show 0 ≤ w by omega)
  have t : ∀ n : Nat, Int.toNat (n : Int) = n := fun _ => rfl
  simp only [t]
  cases hF : rFind v w with
  | none =>
    have e : encR v w = (0, 0, 0, 20) := by unfold encR; rw [hF]
    have e2 : fieldR v w = (0, 20) := by unfold fieldR; rw [hF]; rfl
    simp only [go_sem, tU, encodeR_run, encodeR_pan, h1, h2, h3, t, e, encO, e2, fieldO]
  | some y =>
    have e2 : fieldR v w = ((fieldF (encR v w)).1, 0) := by unfold fieldR; rw [hF]; rfl
    obtain ⟨r, hr⟩ : ∃ r, encR v w = r := ⟨_, rfl⟩
    have e3 : r.2.2.2 = 0 := by rw [← hr]; unfold encR; rw [hF]
    rw [hr] at e2
    simp only [go_sem, tU, encodeR_run, encodeR_pan, h1, h2, h3, t, hr, encO, e2, e3, fieldO, fieldF])
theorem fieldR_run {id : Nat} {h : Heap} {args : List AV} : (fieldRS).run id h args = runP (args2 (tU) (tInt .i64) ((fun v w => (0 ≤ v ∧ v < 18446744073709551616) ∧ (w = 32 ∨ w = 64)))) (fun x => ((fun v w => .ret (fieldO (fieldR v.toNat w.toNat)))) x.1 x.2) h args := rfl
theorem fieldR_pan {id : Nat} {h : Heap} {args : List AV} : (fieldRS).pan id h args = panP (args2 (tU) (tInt .i64) ((fun v w => (0 ≤ v ∧ v < 18446744073709551616) ∧ (w = 32 ∨ w = 64)))) (fun x => ((fun v w => .ret (fieldO (fieldR v.toNat w.toNat)))) x.1 x.2) h args := rfl
theorem fieldR_err {v w : Nat} (hw : w = 32 ∨ w = 64) : (fieldR v w).2 = if (lFind v w).isSome then 0 else 20 := by
  unfold fieldR
  rw [find_same hw]
  split <;> rfl

end Go.Proofs.YtpjlafmhoifkmaaGreat

namespace Go.Proofs.YtpjlafmhoifkmaaGreat
open Go.RowKit
set_option maxRecDepth 100000

theorem en_rlim (args : Array Value) (w : World) : (callFunc 136 args).run Tryz.prog w = .ok (.enter 136 args) w := by go_simp
def rlimS : Spec Tryz.prog 136 :=
  mk3 _ _ _ Tryz.func136 rfl en_rlim (tInt .i64) (tInt .i64) (tInt .i64) ((fun _ _ _ => True)) ((fun f a b => .ret (limV (f, a, b)))) (by rw [Tryz.ntmps136]; decide) (fun f a b _ => by
  refine aRun_sound (ctx := []) 4000 ?_
  rw [Tryz.ntmps136, Tryz.results136]
  simp only [Tryz.f136, Option.getD_some, zipT]
  simp only [go_sem, limV, limL])
theorem rlim_run {id : Nat} {h : Heap} {args : List AV} : (rlimS).run id h args = runP (args3 (tInt .i64) (tInt .i64) (tInt .i64) ((fun _ _ _ => True))) (fun x => ((fun f a b => .ret (limV (f, a, b)))) x.1 x.2.1 x.2.2) h args := rfl
theorem rlim_pan {id : Nat} {h : Heap} {args : List AV} : (rlimS).pan id h args = panP (args3 (tInt .i64) (tInt .i64) (tInt .i64) ((fun _ _ _ => True))) (fun x => ((fun f a b => .ret (limV (f, a, b)))) x.1 x.2.1 x.2.2) h args := rfl
theorem en_ra (args : Array Value) (w : World) : (callFunc 131 args).run Tryz.prog w = .ok (.enter 131 args) w := by go_simp
def raS : Spec Tryz.prog 131 :=
  mk2 _ _ _ Tryz.func131 rfl en_ra (tInt .i64) (tInt .i64) ((fun _ _ => True)) ((fun a b => .ret (limV (7, a, b)))) (by rw [Tryz.ntmps131]; decide) (fun a b _ => by
  refine aRun_sound (ctx := [⟨_, rlimS⟩]) 4000 ?_
  rw [Tryz.ntmps131, Tryz.results131]
  simp only [Tryz.f131, Option.getD_some, zipT]
  simp only [go_sem, rlim_run, rlim_pan, limV, limL])
theorem ra_run {id : Nat} {h : Heap} {args : List AV} : (raS).run id h args = runP (args2 (tInt .i64) (tInt .i64) ((fun _ _ => True))) (fun x => ((fun a b => .ret (limV (7, a, b)))) x.1 x.2) h args := rfl
theorem ra_pan {id : Nat} {h : Heap} {args : List AV} : (raS).pan id h args = panP (args2 (tInt .i64) (tInt .i64) ((fun _ _ => True))) (fun x => ((fun a b => .ret (limV (7, a, b)))) x.1 x.2) h args := rfl
theorem en_rb (args : Array Value) (w : World) : (callFunc 134 args).run Tryz.prog w = .ok (.enter 134 args) w := by go_simp
def rbS : Spec Tryz.prog 134 :=
  mk1 _ _ _ Tryz.func134 rfl en_rb (tInt .i64) ((fun _ => True)) ((fun b => .ret (limV (8, 0, b)))) (by rw [Tryz.ntmps134]; decide) (fun b _ => by
  refine aRun_sound (ctx := [⟨_, rlimS⟩]) 4000 ?_
  rw [Tryz.ntmps134, Tryz.results134]
  simp only [Tryz.f134, Option.getD_some, zipT]
  simp only [go_sem, rlim_run, rlim_pan, limV, limL])
theorem rb_run {id : Nat} {h : Heap} {args : List AV} : (rbS).run id h args = runP (args1 (tInt .i64) ((fun _ => True))) ((fun b => .ret (limV (8, 0, b)))) h args := rfl
theorem rb_pan {id : Nat} {h : Heap} {args : List AV} : (rbS).pan id h args = panP (args1 (tInt .i64) ((fun _ => True))) ((fun b => .ret (limV (8, 0, b)))) h args := rfl
theorem en_rc (args : Array Value) (w : World) : (callFunc 135 args).run Tryz.prog w = .ok (.enter 135 args) w := by go_simp
def rcS : Spec Tryz.prog 135 :=
  mk1 _ _ _ Tryz.func135 rfl en_rc (tInt .i64) ((fun _ => True)) ((fun b => .ret (limV (9, 0, b)))) (by rw [Tryz.ntmps135]; decide) (fun b _ => by
  refine aRun_sound (ctx := [⟨_, rlimS⟩]) 4000 ?_
  rw [Tryz.ntmps135, Tryz.results135]
  simp only [Tryz.f135, Option.getD_some, zipT]
  simp only [go_sem, rlim_run, rlim_pan, limV, limL])
theorem rc_run {id : Nat} {h : Heap} {args : List AV} : (rcS).run id h args = runP (args1 (tInt .i64) ((fun _ => True))) ((fun b => .ret (limV (9, 0, b)))) h args := rfl
theorem rc_pan {id : Nat} {h : Heap} {args : List AV} : (rcS).pan id h args = panP (args1 (tInt .i64) ((fun _ => True))) ((fun b => .ret (limV (9, 0, b)))) h args := rfl
theorem en_rflag (args : Array Value) (w : World) : (callFunc 138 args).run Tryz.prog w = .ok (.enter 138 args) w := by go_simp
def rflagS : Spec Tryz.prog 138 :=
  mk1 _ _ _ Tryz.func138 rfl en_rflag (tBool) ((fun _ => True)) ((fun q => .ret (iv (flagN q)))) (by rw [Tryz.ntmps138]; decide) (fun q _ => by
  refine aRun_sound (ctx := []) 4000 ?_
  rw [Tryz.ntmps138, Tryz.results138]
  simp only [Tryz.f138, Option.getD_some, zipT]
  cases q <;> simp only [go_sem, flagN])
theorem rflag_run {id : Nat} {h : Heap} {args : List AV} : (rflagS).run id h args = runP (args1 (tBool) ((fun _ => True))) ((fun q => .ret (iv (flagN q)))) h args := rfl
theorem rflag_pan {id : Nat} {h : Heap} {args : List AV} : (rflagS).pan id h args = panP (args1 (tBool) ((fun _ => True))) ((fun q => .ret (iv (flagN q)))) h args := rfl

/-! ### plain -/
def rpI (l : List Int) (i : Nat) : St := ⟨2, [(0, .s (.l (.sl 0 0 l.length))), (3, .s (.l (.sl 1 0 i))), (4, iv i)], [(0, some (intRow.blk l)), (1, some (limRow.blk (flagsF (l.take i))))]⟩
theorem en_rplain (args : Array Value) (w : World) : (callFunc 133 args).run Tryz.prog w = .ok (.enter 133 args) w := by go_simp
set_option maxHeartbeats 2000000 in
theorem rplain_sw (l : List Int) (h : l.length ≤ 20 ∧ ∀ z ∈ l, 1 ≤ z) : SW Tryz.prog ⟨none, 0⟩ Tryz.f133.ntmps (Tryz.f133.body.getD .skip) ⟨1, zipT 0 [.s (.l (.sl 0 0 l.length))], zipH 0 [intRow.blk l]⟩
    (outRQ Tryz.prog Tryz.f133.results.toList 0 (outQ1 limRow (fun l (_ : Unit) => flagsF l) (l, ()))) := by
  obtain ⟨h, hz1⟩ := h
  refine aRun_sound (ctx := []) 4000 ?_
  rw [Tryz.ntmps133, Tryz.results133]
  simp only [Tryz.f133, Option.getD_some, zipT]
  simp only [go_sem, RowL.blk, intRow]
  refine sw_loop (ι := Nat) (fun i => i ≤ l.length) (rpI l) (fun i => l.length - i) 0 (Nat.zero_le _) ((Wk.nil 3 75 3 rfl).trans (Wk.renL [0, 49] (by simp) (Nat.le_refl 2) (by decide) rfl ?_)) ?_
  · simp [rpI, hget, Blk.ren, RowL.blk, intRow, limRow, limL, flagsF, LV.ren, Function.comp_def]
  intro i hi
  refine aRun_sound (ctx := [⟨_, rlimS⟩]) 4000 ?_
  by_cases hlt : i < l.length
  · have hltI : (i : Int) < l.length := by omega
    obtain ⟨z, hz⟩ : ∃ z, l[i]? = some z := ⟨_, List.getElem?_eq_getElem hlt⟩
    have hz1' := hz1 z (List.mem_of_getElem? hz)
    have ei : IntKind.i64.wrap ((i : Int) + 1) = ((i + 1 : Nat) : Int) := by rw [IntKind.wrap_i64]; omega
    have hsn := flagsF_snoc hz
    have hm : i + 1 ≤ maxLen := by unfold maxLen; omega
    have hb : (i + 1) * 24 ≤ 140737488355328 := by omega
    have hl : (flagsF (l.take i)).length = i := by rw [flagsF_len, List.length_take]; omega
    have htk : List.take i (List.map limL (flagsF (l.take i))) = List.map limL (flagsF (l.take i)) := List.take_of_length_le (by rw [List.length_map, hl]; exact Nat.le_refl _)
    by_cases h1 : z ≤ 2
    · have e : flagF1 z = (z, 0, 1) := by unfold flagF1; rw [if_pos (by omega)]
      simp only [go_sem, rpI, RowL.blk, intRow, limRow, hltI, hlt, hz, h1, rlim_run, rlim_pan, limV, limL, hm, hb, ei, htk]
      exact ⟨Nat.le_of_eq hl.symm, i + 1, by omega, by omega, Wk.renL [0, 306] (by simp) (Nat.le_refl 2) (by decide) rfl (by simp only [rpI, RowL.blk, intRow, limRow, hsn, e]; simp [hget, Blk.ren, limL, LV.ren, Function.comp_def])⟩
    · have e : flagF1 z = (z, 0, 31) := by unfold flagF1; rw [if_neg (by omega)]
      simp only [go_sem, rpI, RowL.blk, intRow, limRow, hltI, hlt, hz, h1, rlim_run, rlim_pan, limV, limL, hm, hb, ei, htk]
      exact ⟨Nat.le_of_eq hl.symm, i + 1, by omega, by omega, Wk.renL [0, 290] (by simp) (Nat.le_refl 2) (by decide) rfl (by simp only [rpI, RowL.blk, intRow, limRow, hsn, e]; simp [hget, Blk.ren, limL, LV.ren, Function.comp_def])⟩
  · obtain rfl : i = l.length := by omega
    have hltI : ¬ (l.length : Int) < l.length := by omega
    simp only [go_sem, rpI, RowL.blk, intRow, limRow, hltI, List.take_length, outRQ_ret, outRQ_normal, outQ1]
    have e := flagsF_len l
    rw [← e]
    exact leftQ_new (st := ⟨_, _, _⟩) (k := limRow.blk (flagsF l)) rfl rfl (limRow.blk_ren _)
def rplainS : Spec Tryz.prog 133 :=
  mkQ1 _ _ _ Tryz.func133 rfl en_rplain intRow limRow xw0 (fun l _ => l.length ≤ 20 ∧ ∀ z ∈ l, 1 ≤ z) (fun l _ => flagsF l) (by rw [Tryz.ntmps133]; decide) (fun l x h => rplain_sw l h)
theorem rplain_run {id : Nat} {h : Heap} {args : List AV} : rplainS.run id h args = runQ 0 (decQ1 intRow xw0 (fun l _ => l.length ≤ 20 ∧ ∀ z ∈ l, 1 ≤ z)) (outQ1 limRow (fun l _ => flagsF l)) id h args := rfl
theorem rplain_pan {id : Nat} {h : Heap} {args : List AV} : rplainS.pan id h args = none := rfl

/-! ### Fields -/
set_option maxHeartbeats 4000000 in
theorem en_rget (args : Array Value) (w : World) : (callFunc 66 args).run Tryz.prog w = .ok (.enter 66 args) w := by go_simp
def rgetS : Spec Tryz.prog 66 :=
  mk2 _ _ _ Tryz.func66 rfl en_rget (tAgg insR) (tInt .i64) ((fun _ f => fq f)) ((fun x f => .ret (getO (getF x f)))) (by rw [Tryz.ntmps66]; decide) (fun x f h => by
  refine aRun_sound (ctx := [⟨_, rflagS⟩]) 4000 ?_
  rw [Tryz.ntmps66, Tryz.results66]
  simp only [Tryz.f66, Option.getD_some, zipT]
  rcases h with rfl | rfl | rfl | rfl | rfl | rfl | rfl | rfl | rfl
  all_goals simp only [go_sem, insR, rflag_run, rflag_pan, getO, getF1, getF2, getF3, getF4, getF5, getF6, getF7, getF8, getF9])
theorem rget_run {id : Nat} {h : Heap} {args : List AV} : (rgetS).run id h args = runP (args2 (tAgg insR) (tInt .i64) ((fun _ f => fq f))) (fun x => ((fun x f => .ret (getO (getF x f)))) x.1 x.2) h args := rfl
theorem rget_pan {id : Nat} {h : Heap} {args : List AV} : (rgetS).pan id h args = panP (args2 (tAgg insR) (tInt .i64) ((fun _ f => fq f))) (fun x => ((fun x f => .ret (getO (getF x f)))) x.1 x.2) h args := rfl
set_option maxHeartbeats 4000000 in
theorem en_rset (args : Array Value) (w : World) : (callFunc 139 args).run Tryz.prog w = .ok (.enter 139 args) w := by go_simp
def rsetS : Spec Tryz.prog 139 :=
  mk3 _ _ _ Tryz.func139 rfl en_rset (tAgg insR) (tInt .i64) (tInt .i64) ((fun _ f _ => fq f)) ((fun x f v => .ret (insA (setF x f v)))) (by rw [Tryz.ntmps139]; decide) (fun x f v h => by
  refine aRun_sound (ctx := []) 4000 ?_
  rw [Tryz.ntmps139, Tryz.results139]
  simp only [Tryz.f139, Option.getD_some, zipT]
  rcases h with rfl | rfl | rfl | rfl | rfl | rfl | rfl | rfl | rfl
  all_goals simp only [go_sem, insR, insA, insE, eqb1, setF1, setF2, setF3, setF4, setF5, setF6, setF7, setF8, setF9])
theorem rset_run {id : Nat} {h : Heap} {args : List AV} : (rsetS).run id h args = runP (args3 (tAgg insR) (tInt .i64) (tInt .i64) ((fun _ f _ => fq f))) (fun x => ((fun x f v => .ret (insA (setF x f v)))) x.1 x.2.1 x.2.2) h args := rfl
theorem rset_pan {id : Nat} {h : Heap} {args : List AV} : (rsetS).pan id h args = panP (args3 (tAgg insR) (tInt .i64) (tInt .i64) ((fun _ f _ => fq f))) (fun x => ((fun x f v => .ret (insA (setF x f v)))) x.1 x.2.1 x.2.2) h args := rfl

end Go.Proofs.YtpjlafmhoifkmaaGreat
