/- Logical immediates: patterns. -/
import Derived.Test.YtpjlafmhoifkmaaGreatK3
set_option linter.unusedVariables false
set_option linter.unusedSimpArgs false
namespace Go.Proofs.YtpjlafmhoifkmaaGreat
open Go.RowKit
set_option maxRecDepth 100000

structure Pat where
  size : Int
  ones : Int
  turn : Int
def patR : RowTy Pat where
  dec := fun | [.v (.int .i64 a), .v (.int .i64 b), .v (.int .i64 c)] => some ⟨a, b, c⟩ | _ => none
  enc := fun p => [.v (.int .i64 p.size), .v (.int .i64 p.ones), .v (.int .i64 p.turn)]
  inv := by
    intro c x h
    split at h
    · injection h with h; subst h; rfl
    · cases h
  back := by intro x; rfl

def mayF (p : Pat) (w : Int) : Bool := decide (2 ≤ p.size ∧ p.size ≤ w ∧ 1 ≤ p.ones ∧ p.ones < p.size ∧ 0 ≤ p.turn ∧ p.turn < p.size)
set_option maxHeartbeats 1000000 in
theorem en_may (args : Array Value) (w : World) : (callFunc 153 args).run Tryz.prog w = .ok (.enter 153 args) w := by go_simp
def mayS : Spec Tryz.prog 153 :=
  mk2 _ _ _ Tryz.func153 rfl en_may (tAgg patR) (tInt .i64) ((fun _ _ => True)) ((fun p w => .ret (bv (mayF p w)))) (by rw [Tryz.ntmps153]; decide) (fun p w _ => by
  refine aRun_sound (ctx := []) 4000 ?_
  rw [Tryz.ntmps153, Tryz.results153]
  simp only [Tryz.f153, Option.getD_some, zipT]
  obtain ⟨a, b, c⟩ := p
  unfold mayF
  by_cases h1 : 2 ≤ a
  case neg => simp only [go_sem, Nat.reduceOr, Nat.reducePow, Nat.reduceDiv, Nat.reduceMod, Nat.reduceBEq, Int.reduceBEq, Int.reduceBNe, Int.reduceEq, Int.reduceLT, Int.reduceLE, Int.reduceToNat, reduceIte, reduceCtorEq, Nat.reduceEqDiff, Nat.reduceAdd, Nat.reduceLT, Nat.reduceLeDiff, Nat.reduceMul, Nat.reduceSub, patR, h1, false_and, decide_false]
  by_cases h2 : a ≤ w
  case neg => simp only [go_sem, Nat.reduceOr, Nat.reducePow, Nat.reduceDiv, Nat.reduceMod, Nat.reduceBEq, Int.reduceBEq, Int.reduceBNe, Int.reduceEq, Int.reduceLT, Int.reduceLE, Int.reduceToNat, reduceIte, reduceCtorEq, Nat.reduceEqDiff, Nat.reduceAdd, Nat.reduceLT, Nat.reduceLeDiff, Nat.reduceMul, Nat.reduceSub, patR, h1, h2, false_and, decide_false]
  by_cases h3 : 1 ≤ b
  case neg => simp only [go_sem, Nat.reduceOr, Nat.reducePow, Nat.reduceDiv, Nat.reduceMod, Nat.reduceBEq, Int.reduceBEq, Int.reduceBNe, Int.reduceEq, Int.reduceLT, Int.reduceLE, Int.reduceToNat, reduceIte, reduceCtorEq, Nat.reduceEqDiff, Nat.reduceAdd, Nat.reduceLT, Nat.reduceLeDiff, Nat.reduceMul, Nat.reduceSub, patR, h1, h2, h3, false_and, decide_false]
  by_cases h4 : b < a
  case neg => simp only [go_sem, Nat.reduceOr, Nat.reducePow, Nat.reduceDiv, Nat.reduceMod, Nat.reduceBEq, Int.reduceBEq, Int.reduceBNe, Int.reduceEq, Int.reduceLT, Int.reduceLE, Int.reduceToNat, reduceIte, reduceCtorEq, Nat.reduceEqDiff, Nat.reduceAdd, Nat.reduceLT, Nat.reduceLeDiff, Nat.reduceMul, Nat.reduceSub, patR, h1, h2, h3, h4, false_and, decide_false]
  by_cases h5 : 0 ≤ c
  case neg => simp only [go_sem, Nat.reduceOr, Nat.reducePow, Nat.reduceDiv, Nat.reduceMod, Nat.reduceBEq, Int.reduceBEq, Int.reduceBNe, Int.reduceEq, Int.reduceLT, Int.reduceLE, Int.reduceToNat, reduceIte, reduceCtorEq, Nat.reduceEqDiff, Nat.reduceAdd, Nat.reduceLT, Nat.reduceLeDiff, Nat.reduceMul, Nat.reduceSub, patR, h1, h2, h3, h4, h5, false_and, decide_false]
  simp only [go_sem, Nat.reduceOr, Nat.reducePow, Nat.reduceDiv, Nat.reduceMod, Nat.reduceBEq, Int.reduceBEq, Int.reduceBNe, Int.reduceEq, Int.reduceLT, Int.reduceLE, Int.reduceToNat, reduceIte, reduceCtorEq, Nat.reduceEqDiff, Nat.reduceAdd, Nat.reduceLT, Nat.reduceLeDiff, Nat.reduceMul, Nat.reduceSub, patR, h1, h2, h3, h4, h5])
theorem may_run {id : Nat} {h : Heap} {args : List AV} : (mayS).run id h args = runP (args2 (tAgg patR) (tInt .i64) ((fun _ _ => True))) (fun x => ((fun p w => .ret (bv (mayF p w)))) x.1 x.2) h args := rfl
theorem may_pan {id : Nat} {h : Heap} {args : List AV} : (mayS).pan id h args = panP (args2 (tAgg patR) (tInt .i64) ((fun _ _ => True))) (fun x => ((fun p w => .ret (bv (mayF p w)))) x.1 x.2) h args := rfl
def aboveF (size : Int) : Int := if 32 ≤ size then 0 else 64 - 2 * size
theorem en_above (args : Array Value) (w : World) : (callFunc 155 args).run Tryz.prog w = .ok (.enter 155 args) w := by go_simp
def aboveS : Spec Tryz.prog 155 :=
  mk1 _ _ _ Tryz.func155 rfl en_above (tAgg patR) ((fun p => 0 ≤ p.size ∧ p.size ≤ 64)) ((fun p => .ret (iv (aboveF p.size)))) (by rw [Tryz.ntmps155]; decide) (fun p h => by
  refine aRun_sound (ctx := []) 4000 ?_
  rw [Tryz.ntmps155, Tryz.results155]
  simp only [Tryz.f155, Option.getD_some, zipT]
  obtain ⟨a, b, c⟩ := p
  simp only at h
  have e1 : IntKind.i64.wrap (2 * a) = 2 * a := by rw [IntKind.wrap_i64]; omega
  have e2 : IntKind.i64.wrap (64 - 2 * a) = 64 - 2 * a := by rw [IntKind.wrap_i64]; omega
  unfold aboveF
  by_cases h1 : 32 ≤ a
  · simp only [go_sem, Nat.reduceOr, Nat.reducePow, Nat.reduceDiv, Nat.reduceMod, Nat.reduceBEq, Int.reduceBEq, Int.reduceBNe, Int.reduceEq, Int.reduceLT, Int.reduceLE, Int.reduceToNat, reduceIte, reduceCtorEq, Nat.reduceEqDiff, Nat.reduceAdd, Nat.reduceLT, Nat.reduceLeDiff, Nat.reduceMul, Nat.reduceSub, patR, h1]
  · simp only [go_sem, Nat.reduceOr, Nat.reducePow, Nat.reduceDiv, Nat.reduceMod, Nat.reduceBEq, Int.reduceBEq, Int.reduceBNe, Int.reduceEq, Int.reduceLT, Int.reduceLE, Int.reduceToNat, reduceIte, reduceCtorEq, Nat.reduceEqDiff, Nat.reduceAdd, Nat.reduceLT, Nat.reduceLeDiff, Nat.reduceMul, Nat.reduceSub, patR, h1, e1, e2])
theorem above_run {id : Nat} {h : Heap} {args : List AV} : (aboveS).run id h args = runP (args1 (tAgg patR) ((fun p => 0 ≤ p.size ∧ p.size ≤ 64))) ((fun p => .ret (iv (aboveF p.size)))) h args := rfl
theorem above_pan {id : Nat} {h : Heap} {args : List AV} : (aboveS).pan id h args = panP (args1 (tAgg patR) ((fun p => 0 ≤ p.size ∧ p.size ≤ 64))) ((fun p => .ret (iv (aboveF p.size)))) h args := rfl
def partsF (p : Pat) : Int × Int × Int := (if p.size = 64 then 1 else 0, p.turn, aboveF p.size + p.ones - 1)
def partsO (r : Int × Int × Int) : AV := .tup [.l (.v (.int .i64 r.1)), .l (.v (.int .i64 r.2.1)), .l (.v (.int .i64 r.2.2))]
set_option maxHeartbeats 1000000 in
theorem en_parts (args : Array Value) (w : World) : (callFunc 94 args).run Tryz.prog w = .ok (.enter 94 args) w := by go_simp
def partsS : Spec Tryz.prog 94 :=
  mk1 _ _ _ Tryz.func94 rfl en_parts (tAgg patR) ((fun p => 0 ≤ p.size ∧ p.size ≤ 64 ∧ 0 ≤ p.ones ∧ p.ones ≤ 64)) ((fun p => .ret (partsO (partsF p)))) (by rw [Tryz.ntmps94]; decide) (fun p h => by
  refine aRun_sound (ctx := []) 4000 ?_
  rw [Tryz.ntmps94, Tryz.results94]
  simp only [Tryz.f94, Option.getD_some, zipT]
  obtain ⟨a, b, c⟩ := p
  simp only at h
  have hb : 0 ≤ aboveF a ∧ aboveF a ≤ 64 := by unfold aboveF; split <;> omega
  have e1 : IntKind.i64.wrap (aboveF a + b) = aboveF a + b := by rw [IntKind.wrap_i64]; omega
  have e2 : IntKind.i64.wrap (aboveF a + b - 1) = aboveF a + b - 1 := by rw [IntKind.wrap_i64]; omega
  by_cases h1 : a = 64
  · have hF : partsF ⟨a, b, c⟩ = (1, c, aboveF a + b - 1) := by unfold partsF; simp only [h1, if_true]
    rw [hF]
    have e : (a == 64) = true := by simpa using h1
    simp only [go_sem, Nat.reduceOr, Nat.reducePow, Nat.reduceDiv, Nat.reduceMod, Nat.reduceBEq, Int.reduceBEq, Int.reduceBNe, Int.reduceEq, Int.reduceLT, Int.reduceLE, Int.reduceToNat, reduceIte, reduceCtorEq, Nat.reduceEqDiff, Nat.reduceAdd, Nat.reduceLT, Nat.reduceLeDiff, Nat.reduceMul, Nat.reduceSub, patR, e]
    refine sw_draw (ctx := [⟨_, aboveS⟩]) mixed [] (by kernel_rfl) ?_
    simp only [go_sem, Nat.reduceOr, Nat.reducePow, Nat.reduceDiv, Nat.reduceMod, Nat.reduceBEq, Int.reduceBEq, Int.reduceBNe, Int.reduceEq, Int.reduceLT, Int.reduceLE, Int.reduceToNat, reduceIte, reduceCtorEq, Nat.reduceEqDiff, Nat.reduceAdd, Nat.reduceLT, Nat.reduceLeDiff, Nat.reduceMul, Nat.reduceSub, patR, above_run, above_pan, h.1, h.2.1, e1, e2, partsO]
  · have hF : partsF ⟨a, b, c⟩ = (0, c, aboveF a + b - 1) := by unfold partsF; simp only [h1, if_false]
    rw [hF]
    have e : (a == 64) = false := by simpa using h1
    simp only [go_sem, Nat.reduceOr, Nat.reducePow, Nat.reduceDiv, Nat.reduceMod, Nat.reduceBEq, Int.reduceBEq, Int.reduceBNe, Int.reduceEq, Int.reduceLT, Int.reduceLE, Int.reduceToNat, reduceIte, reduceCtorEq, Nat.reduceEqDiff, Nat.reduceAdd, Nat.reduceLT, Nat.reduceLeDiff, Nat.reduceMul, Nat.reduceSub, patR, e]
    refine sw_draw (ctx := [⟨_, aboveS⟩]) mixed [] (by kernel_rfl) ?_
    simp only [go_sem, Nat.reduceOr, Nat.reducePow, Nat.reduceDiv, Nat.reduceMod, Nat.reduceBEq, Int.reduceBEq, Int.reduceBNe, Int.reduceEq, Int.reduceLT, Int.reduceLE, Int.reduceToNat, reduceIte, reduceCtorEq, Nat.reduceEqDiff, Nat.reduceAdd, Nat.reduceLT, Nat.reduceLeDiff, Nat.reduceMul, Nat.reduceSub, patR, above_run, above_pan, h.1, h.2.1, e1, e2, partsO])
theorem parts_run {id : Nat} {h : Heap} {args : List AV} : (partsS).run id h args = runP (args1 (tAgg patR) ((fun p => 0 ≤ p.size ∧ p.size ≤ 64 ∧ 0 ≤ p.ones ∧ p.ones ≤ 64))) ((fun p => .ret (partsO (partsF p)))) h args := rfl
theorem parts_pan {id : Nat} {h : Heap} {args : List AV} : (partsS).pan id h args = panP (args1 (tAgg patR) ((fun p => 0 ≤ p.size ∧ p.size ≤ 64 ∧ 0 ≤ p.ones ∧ p.ones ≤ 64))) ((fun p => .ret (partsO (partsF p)))) h args := rfl

/-! ### A pattern's value -/
theorem run_u (b : Nat) (h : b < 64) : IntKind.u64.wrap (IntKind.u64.wrap (1 * 2 ^ min b 64) - 1) = ((2 ^ b - 1 : Nat) : Int) := by
  have h1 : 2 ^ b < 2 ^ 64 := Nat.pow_lt_pow_right (by decide) h
  have h2 : 0 < 2 ^ b := Nat.two_pow_pos b
  rw [Nat.min_eq_left (by omega), wrapU, wrapU]
  have h3 : ((2 ^ b : Nat) : Int) = (2 : Int) ^ b := by simp
  rw [← h3]
  omega
theorem shr_u (n c : Nat) (h : c ≤ 64) : Int.fdiv (n : Int) (2 ^ min c 64) = ((n / 2 ^ c : Nat) : Int) := by rw [Nat.min_eq_left h]; exact u64_shr n c
theorem shl_u (n c : Nat) (h : c ≤ 64) : IntKind.u64.wrap ((n : Int) * 2 ^ min c 64) = ((n * 2 ^ c % 18446744073709551616 : Nat) : Int) := by rw [Nat.min_eq_left h]; exact u64_shl n c
theorem elem_lt (a b c : Nat) (h : b < 64) : lElem a b c < 2 ^ 64 := by
  have h1 : 2 ^ b < 2 ^ 64 := Nat.pow_lt_pow_right (by decide) h
  have hx : (2 ^ b - 1) / 2 ^ c < 2 ^ 64 := Nat.lt_of_le_of_lt (Nat.div_le_self _ _) (by omega)
  have hy : (2 ^ b - 1) * 2 ^ (a - c) % 18446744073709551616 < 2 ^ 64 := Nat.mod_lt _ (by decide)
  have ho := Nat.or_lt_two_pow hx hy
  unfold lElem
  simp only
  split
  · exact Nat.lt_of_le_of_lt Nat.and_le_left ho
  · exact ho
def valI (a b c w E : Nat) (x : Nat × Nat × Nat) : St := ⟨1, [(1, iv w), (2, .s (.l (.p 0 0 0))), (6, uv E), (7, uv x.2.2), (8, iv x.2.1)], [(0, some ⟨true, 91, 3, [[.v (.int .i64 a), .v (.int .i64 b), .v (.int .i64 c)]]⟩)]⟩
set_option maxHeartbeats 2000000 in
theorem value_sw (a b c w : Nat) (h : 2 ≤ a ∧ a ≤ 64 ∧ 1 ≤ b ∧ b < a ∧ c < a ∧ (w = 32 ∨ w = 64)) : SW Tryz.prog ⟨none, 0⟩ Tryz.f154.ntmps (Tryz.f154.body.getD .skip) ⟨0, zipT 0 [(tAgg patR).enc ⟨a, b, c⟩, (tInt .i64).enc (w : Int)], []⟩ (outQ Tryz.prog Tryz.f154.results.toList (.ret (uv (lVal a b c w)))) := by
  obtain ⟨h1, h2, h3, h4, h5, h6⟩ := h
  have hw : w ≤ 64 := by omega
  refine aRun_sound (ctx := []) 4000 ?_
  rw [Tryz.ntmps154, Tryz.results154]
  simp only [Tryz.f154, Option.getD_some, zipT]
  have r1 := run_u b (by omega)
  have r2 := shr_u (2 ^ b - 1) c (by omega)
  have r3 : IntKind.i64.wrap ((a : Int) - c) = ((a - c : Nat) : Int) := by rw [IntKind.wrap_i64]; omega
  have r3' : (0 : Int) ≤ ((a - c : Nat) : Int) := Int.natCast_nonneg _
  have r4 := shl_u (2 ^ b - 1) (a - c) (by omega)
  have p1 : 2 ^ b < 2 ^ 64 := Nat.pow_lt_pow_right (by decide) (by omega)
  have hx : (2 ^ b - 1) / 2 ^ c < 2 ^ 64 := Nat.lt_of_le_of_lt (Nat.div_le_self _ _) (by omega)
  have hy : (2 ^ b - 1) * 2 ^ (a - c) % 18446744073709551616 < 2 ^ 64 := Nat.mod_lt _ (by decide)
  have r5 := or_u _ _ hx hy
  have ho := Nat.or_lt_two_pow hx hy
  have t : ∀ n : Nat, Int.toNat (n : Int) = n := fun _ => rfl
  obtain ⟨E, hE⟩ : ∃ E, lElem a b c = E := ⟨_, rfl⟩
  have hE64 : E < 2 ^ 64 := by rw [← hE]; exact elem_lt a b c (by omega)
  simp only [go_sem, Nat.reduceOr, Nat.reducePow, Nat.reduceDiv, Nat.reduceMod, Nat.reduceBEq, Int.reduceBEq, Int.reduceBNe, Int.reduceEq, Int.reduceLT, Int.reduceLE, Int.reduceToNat, reduceIte, reduceCtorEq, Nat.reduceEqDiff, Nat.reduceAdd, Nat.reduceLT, Nat.reduceLeDiff, Nat.reduceMul, Nat.reduceSub, patR]
  refine sw_draw (ctx := []) mixed [] (by kernel_rfl) ?_
  rcases Nat.lt_or_ge a 64 with h64 | h64
  have hI : (a : Int) < 64 := by omega
  have r6 := run_u a h64
  have r7 := and_u ((2 ^ b - 1) / 2 ^ c ||| (2 ^ b - 1) * 2 ^ (a - c) % 18446744073709551616) (2 ^ a - 1) ho (by have : 2 ^ a < 2 ^ 64 := Nat.pow_lt_pow_right (by decide) h64
                                                                                                                 omega)
  have hE' : (((2 ^ b - 1) / 2 ^ c ||| (2 ^ b - 1) * 2 ^ (a - c) % 18446744073709551616) &&& (2 ^ a - 1)) = E := by rw [← hE]; unfold lElem; simp only [h64, if_true]
  simp only [go_sem, Nat.reduceOr, Nat.reducePow, Nat.reduceDiv, Nat.reduceMod, Nat.reduceBEq, Int.reduceBEq, Int.reduceBNe, Int.reduceEq, Int.reduceLT, Int.reduceLE, Int.reduceToNat, reduceIte, reduceCtorEq, Nat.reduceEqDiff, Nat.reduceAdd, Nat.reduceLT, Nat.reduceLeDiff, Nat.reduceMul, Nat.reduceSub, patR, hI, r1, r2, r3, r3', t, r4, r5, r6, r7, hE']
  rotate_left
  have hI : ¬ (a : Int) < 64 := by omega
  have h64' : ¬ a < 64 := by omega
  have hE' : ((2 ^ b - 1) / 2 ^ c ||| (2 ^ b - 1) * 2 ^ (a - c) % 18446744073709551616) = E := by rw [← hE]; unfold lElem; simp only [h64', if_false]
  simp only [go_sem, Nat.reduceOr, Nat.reducePow, Nat.reduceDiv, Nat.reduceMod, Nat.reduceBEq, Int.reduceBEq, Int.reduceBNe, Int.reduceEq, Int.reduceLT, Int.reduceLE, Int.reduceToNat, reduceIte, reduceCtorEq, Nat.reduceEqDiff, Nat.reduceAdd, Nat.reduceLT, Nat.reduceLeDiff, Nat.reduceMul, Nat.reduceSub, patR, hI, r1, r2, r3, r3', t, r4, r5, hE']
  all_goals
    refine sw_loop (ι := Nat × Nat × Nat) (fun x => lRep E a w x.1 x.2.1 x.2.2 = lVal a b c w ∧ x.2.2 < 2 ^ 64 ∧ x.1 ≤ 64 ∧ 2 * (64 - x.1) ≤ x.2.1 ∧ x.2.1 ≤ 200) (valI a b c w E) (fun x => 200 - x.2.1) (64, 0, 0) ⟨by unfold lVal; rw [hE], (by decide), (by decide), (by decide), (by decide)⟩ (Wk.renL [0] (by simp) (Nat.le_refl 1) (by decide) rfl rfl) ?_
    rintro ⟨f, at_, v⟩ ⟨i1, i2, i3, i4, i5⟩
    simp only at i1 i2 i3 i4 i5
    refine aRun_sound (ctx := []) 4000 ?_
    by_cases hlt : at_ < w
    · obtain ⟨f', rfl⟩ : ∃ f', f = f' + 1 := ⟨f - 1, by omega⟩
      rw [lRep, if_pos hlt] at i1
      have q1 := shl_u E at_ (by omega)
      have q0 : E * 2 ^ at_ % 18446744073709551616 < 2 ^ 64 := Nat.mod_lt _ (by decide)
      have q2 := or_u v (E * 2 ^ at_ % 18446744073709551616) i2 q0
      have q3 : IntKind.i64.wrap ((at_ : Int) + a) = ((at_ + a : Nat) : Int) := by rw [IntKind.wrap_i64]; omega
      have hltI : (at_ : Int) < w := by omega
      have h0 : (0 : Int) ≤ at_ := Int.natCast_nonneg _
      simp only [go_sem, Nat.reduceOr, Nat.reducePow, Nat.reduceDiv, Nat.reduceMod, Nat.reduceBEq, Int.reduceBEq, Int.reduceBNe, Int.reduceEq, Int.reduceLT, Int.reduceLE, Int.reduceToNat, reduceIte, reduceCtorEq, Nat.reduceEqDiff, Nat.reduceAdd, Nat.reduceLT, Nat.reduceLeDiff, Nat.reduceMul, Nat.reduceSub, valI, hltI, q1, q2, q3, t, h0]
      exact ⟨(f', at_ + a, v ||| E * 2 ^ at_ % 18446744073709551616), ⟨i1, Nat.or_lt_two_pow i2 q0, by simp only; omega, by simp only; omega, by simp only; omega⟩, by simp only; omega, Wk.renL [0] (by simp) (Nat.le_refl 1) (by decide) rfl rfl⟩
    · have hltI : ¬ (at_ : Int) < w := by omega
      have hv : lVal a b c w = v := by
        rw [← i1]
        cases f
        · rfl
        · rw [lRep, if_neg hlt]
      simp only [go_sem, Nat.reduceOr, Nat.reducePow, Nat.reduceDiv, Nat.reduceMod, Nat.reduceBEq, Int.reduceBEq, Int.reduceBNe, Int.reduceEq, Int.reduceLT, Int.reduceLE, Int.reduceToNat, reduceIte, reduceCtorEq, Nat.reduceEqDiff, Nat.reduceAdd, Nat.reduceLT, Nat.reduceLeDiff, Nat.reduceMul, Nat.reduceSub, valI, hltI, hv]
def valQ (p : Pat) (w : Int) : Prop := 2 ≤ p.size ∧ p.size ≤ 64 ∧ 1 ≤ p.ones ∧ p.ones < p.size ∧ 0 ≤ p.turn ∧ p.turn < p.size ∧ (w = 32 ∨ w = 64)
theorem en_value (args : Array Value) (w : World) : (callFunc 154 args).run Tryz.prog w = .ok (.enter 154 args) w := by go_simp
def valueS : Spec Tryz.prog 154 :=
  mk2 _ _ _ Tryz.func154 rfl en_value (tAgg patR) (tInt .i64) ((fun p w => valQ p w)) ((fun p w => .ret (uv (lVal p.size.toNat p.ones.toNat p.turn.toNat w.toNat)))) (by rw [Tryz.ntmps154]; decide) (fun p w h => by
  obtain ⟨a, b, c⟩ := p
  obtain ⟨h1, h2, h3, h4, h5, h6, h7⟩ := h
  simp only at h1 h2 h3 h4 h5 h6
  obtain ⟨a, rfl⟩ := Int.eq_ofNat_of_zero_le (show 0 ≤ a by omega)
  obtain ⟨b, rfl⟩ := Int.eq_ofNat_of_zero_le (show 0 ≤ b by omega)
  obtain ⟨c, rfl⟩ := Int.eq_ofNat_of_zero_le h5
  obtain ⟨w, rfl⟩ := Int.eq_ofNat_of_zero_le (show 0 ≤ w by omega)
  exact value_sw a b c w ⟨by omega, by omega, by omega, by omega, by omega, by omega⟩)
theorem value_run {id : Nat} {h : Heap} {args : List AV} : (valueS).run id h args = runP (args2 (tAgg patR) (tInt .i64) ((fun p w => valQ p w))) (fun x => ((fun p w => .ret (uv (lVal p.size.toNat p.ones.toNat p.turn.toNat w.toNat)))) x.1 x.2) h args := rfl
theorem value_pan {id : Nat} {h : Heap} {args : List AV} : (valueS).pan id h args = panP (args2 (tAgg patR) (tInt .i64) ((fun p w => valQ p w))) (fun x => ((fun p w => .ret (uv (lVal p.size.toNat p.ones.toNat p.turn.toNat w.toNat)))) x.1 x.2) h args := rfl

end Go.Proofs.YtpjlafmhoifkmaaGreat
