/- Logical immediates: fields; ones; a number as 16 bits, shifted. -/
import Derived.Test.YtpjlafmhoifkmaaGreatK6
import Derived.Test.YtpjlafmhoifkmaaGreatK2
import Derived.Laws.BitsAllLaws
set_option linter.unusedVariables false
set_option linter.unusedSimpArgs false
namespace Go.Proofs.YtpjlafmhoifkmaaGreat
open Go.RowKit
set_option maxRecDepth 100000

theorem en_find (args : Array Value) (w : World) : (callFunc 93 args).run Tryz.prog w = .ok (.enter 93 args) w := by go_simp
def findS : Spec Tryz.prog 93 :=
  mk2 _ _ _ Tryz.func93 rfl en_find (tU) (tInt .i64) ((fun v w => (0 ≤ v ∧ v < 18446744073709551616) ∧ (w = 32 ∨ w = 64))) ((fun v w => .ret (findO (lFind v.toNat w.toNat)))) (by rw [Tryz.ntmps93]; decide) (fun v w h => by
  obtain ⟨⟨h1, h2⟩, h3⟩ := h
  obtain ⟨v, rfl⟩ := Int.eq_ofNat_of_zero_le h1
  obtain ⟨w, rfl⟩ := Int.eq_ofNat_of_zero_le (show 0 ≤ w by omega)
  exact find_sw v w (by omega) (by omega))
theorem find_run {id : Nat} {h : Heap} {args : List AV} : (findS).run id h args = runP (args2 (tU) (tInt .i64) ((fun v w => (0 ≤ v ∧ v < 18446744073709551616) ∧ (w = 32 ∨ w = 64)))) (fun x => ((fun v w => .ret (findO (lFind v.toNat w.toNat)))) x.1 x.2) h args := rfl
theorem find_pan {id : Nat} {h : Heap} {args : List AV} : (findS).pan id h args = panP (args2 (tU) (tInt .i64) ((fun v w => (0 ≤ v ∧ v < 18446744073709551616) ∧ (w = 32 ∨ w = 64)))) (fun x => ((fun v w => .ret (findO (lFind v.toNat w.toNat)))) x.1 x.2) h args := rfl
theorem lFind_some {v w : Nat} (hw : w = 32 ∨ w = 64) {s o t : Nat} (h : lFind v w = some (s, o, t)) : 2 ≤ s ∧ s ≤ w ∧ 1 ≤ o ∧ o < s ∧ t < s := by
  unfold lFind at h
  split at h
  · cases h
  split at h
  · cases h
  rename_i size hs
  rw [Option.map_eq_some_iff] at h
  obtain ⟨t', ht, e⟩ := h
  simp only [Prod.mk.injEq] at e
  obtain ⟨rfl, rfl, rfl⟩ := e
  obtain ⟨h1, h2, h3⟩ := lTurn_some ht
  have := lSizes_in hw (List.mem_of_find?_eq_some hs)
  omega
/-- N, immr, imms, and the error -/
def encF (v w : Nat) : Int × Int × Int × Int := match lFind v w with
  | some (s, o, t) => (if (s : Int) = 64 then 1 else 0, t, aboveF s + o - 1, 0)
  | none => (0, 0, 0, 20)
def encO (r : Int × Int × Int × Int) : AV := .tup [.l (.v (.int .i64 r.1)), .l (.v (.int .i64 r.2.1)), .l (.v (.int .i64 r.2.2.1)), .l (.v (.int .i64 r.2.2.2))]
set_option maxHeartbeats 1000000 in
theorem en_encode (args : Array Value) (w : World) : (callFunc 41 args).run Tryz.prog w = .ok (.enter 41 args) w := by go_simp
def encodeS : Spec Tryz.prog 41 :=
  mk2 _ _ _ Tryz.func41 rfl en_encode (tU) (tInt .i64) ((fun v w => (0 ≤ v ∧ v < 18446744073709551616) ∧ (w = 32 ∨ w = 64))) ((fun v w => .ret (encO (encF v.toNat w.toNat)))) (by rw [Tryz.ntmps41]; decide) (fun v w h => by
  refine aRun_sound (ctx := [⟨_, findS⟩, ⟨_, partsS⟩]) 4000 ?_
  rw [Tryz.ntmps41, Tryz.results41]
  simp only [Tryz.f41, Option.getD_some, zipT]
  obtain ⟨⟨h1, h2⟩, h3⟩ := h
  obtain ⟨v, rfl⟩ := Int.eq_ofNat_of_zero_le h1
  obtain ⟨w, rfl⟩ := Int.eq_ofNat_of_zero_le (show 0 ≤ w by omega)
  have t : ∀ n : Nat, Int.toNat (n : Int) = n := fun _ => rfl
  unfold encF
  simp only [t]
  cases hF : lFind v w with
  | none => simp only [go_sem, Nat.reduceOr, Nat.reducePow, Nat.reduceDiv, Nat.reduceMod, Nat.reduceBEq, Int.reduceBEq, Int.reduceBNe, Int.reduceEq, Int.reduceLT, Int.reduceLE, Int.reduceToNat, reduceIte, reduceCtorEq, Nat.reduceEqDiff, Nat.reduceAdd, Nat.reduceLT, Nat.reduceLeDiff, Nat.reduceMul, Nat.reduceSub, tU, find_run, find_pan, h1, h2, h3, t, hF, findO, encO]
  | some y =>
    obtain ⟨s, o, tt⟩ := y
    have hb := lFind_some (by omega) hF
    have b0 : (0 : Int) ≤ s ∧ (s : Int) ≤ 64 ∧ (0 : Int) ≤ o ∧ (o : Int) ≤ 64 := by omega
    simp only [go_sem, Nat.reduceOr, Nat.reducePow, Nat.reduceDiv, Nat.reduceMod, Nat.reduceBEq, Int.reduceBEq, Int.reduceBNe, Int.reduceEq, Int.reduceLT, Int.reduceLE, Int.reduceToNat, reduceIte, reduceCtorEq, Nat.reduceEqDiff, Nat.reduceAdd, Nat.reduceLT, Nat.reduceLeDiff, Nat.reduceMul, Nat.reduceSub, tU, find_run, find_pan, h1, h2, h3, t, hF, findO, encO, patR, parts_run, parts_pan, partsO, partsF, b0.1, b0.2.1, b0.2.2.1, b0.2.2.2])
theorem encode_run {id : Nat} {h : Heap} {args : List AV} : (encodeS).run id h args = runP (args2 (tU) (tInt .i64) ((fun v w => (0 ≤ v ∧ v < 18446744073709551616) ∧ (w = 32 ∨ w = 64)))) (fun x => ((fun v w => .ret (encO (encF v.toNat w.toNat)))) x.1 x.2) h args := rfl
theorem encode_pan {id : Nat} {h : Heap} {args : List AV} : (encodeS).pan id h args = panP (args2 (tU) (tInt .i64) ((fun v w => (0 ≤ v ∧ v < 18446744073709551616) ∧ (w = 32 ∨ w = 64)))) (fun x => ((fun v w => .ret (encO (encF v.toNat w.toNat)))) x.1 x.2) h args := rfl
def fieldF (r : Int × Int × Int × Int) : Int × Int := (bits .or .i64 (bits .or .i64 (IntKind.i64.wrap (r.1 * 2 ^ min 12 64)) (IntKind.i64.wrap (r.2.1 * 2 ^ min 6 64))) r.2.2.1, r.2.2.2)
def fieldO (r : Int × Int) : AV := .tup [.l (.v (.int .i64 r.1)), .l (.v (.int .i64 r.2))]
theorem en_field (args : Array Value) (w : World) : (callFunc 23 args).run Tryz.prog w = .ok (.enter 23 args) w := by go_simp
def fieldS : Spec Tryz.prog 23 :=
  mk2 _ _ _ Tryz.func23 rfl en_field (tU) (tInt .i64) ((fun v w => (0 ≤ v ∧ v < 18446744073709551616) ∧ (w = 32 ∨ w = 64))) ((fun v w => .ret (fieldO (fieldF (encF v.toNat w.toNat))))) (by rw [Tryz.ntmps23]; decide) (fun v w h => by
  refine aRun_sound (ctx := [⟨_, encodeS⟩]) 4000 ?_
  rw [Tryz.ntmps23, Tryz.results23]
  simp only [Tryz.f23, Option.getD_some, zipT]
  simp only [go_sem, Nat.reduceOr, Nat.reducePow, Nat.reduceDiv, Nat.reduceMod, Nat.reduceBEq, Int.reduceBEq, Int.reduceBNe, Int.reduceEq, Int.reduceLT, Int.reduceLE, Int.reduceToNat, reduceIte, reduceCtorEq, Nat.reduceEqDiff, Nat.reduceAdd, Nat.reduceLT, Nat.reduceLeDiff, Nat.reduceMul, Nat.reduceSub, tU, encode_run, encode_pan, h.1.1, h.1.2, h.2, encO, fieldO, fieldF])
theorem field_run {id : Nat} {h : Heap} {args : List AV} : (fieldS).run id h args = runP (args2 (tU) (tInt .i64) ((fun v w => (0 ≤ v ∧ v < 18446744073709551616) ∧ (w = 32 ∨ w = 64)))) (fun x => ((fun v w => .ret (fieldO (fieldF (encF v.toNat w.toNat))))) x.1 x.2) h args := rfl
theorem field_pan {id : Nat} {h : Heap} {args : List AV} : (fieldS).pan id h args = panP (args2 (tU) (tInt .i64) ((fun v w => (0 ≤ v ∧ v < 18446744073709551616) ∧ (w = 32 ∨ w = 64)))) (fun x => ((fun v w => .ret (fieldO (fieldF (encF v.toNat w.toNat))))) x.1 x.2) h args := rfl
theorem field_err (v w : Nat) : (fieldF (encF v w)).2 = if (lFind v w).isSome then 0 else 20 := by
  unfold fieldF encF
  cases h : lFind v w <;> simp

/-! ### Ones -/
set_option maxHeartbeats 1000000 in
theorem ones_any (n : Int) (w : World) (h : n = 32 ∨ n = 64) :
    Calls Tryz.prog 40 #[.int .i64 n] w fun e w' => e = .returned (.int .u64 (if n = 64 then 18446744073709551615 else 4294967295)) ∧ Below w.heap.size w w' := by
  rcases h with rfl | rfl
  · go_enter Tryz.func40, Tryz.ntmps40
    go_wp2_with fail
    go_ret
    exact ⟨rfl, (by ((repeat (first | with_reducible refine Below.drew ?_ | (with_reducible refine Below.alloc ?_ ?_ _; rotate_left; (focus (first | (simp; done) | (simp; omega) | omega))) | (with_reducible refine Below.setCell ?_ ?_ _; rotate_left; (focus (first | (simp; done) | (simp; omega) | omega))))); (first | with_reducible exact Below.refl _ _ | with_reducible assumption)))⟩
  · go_enter Tryz.func40, Tryz.ntmps40
    go_wp2_with fail
    go_ret
    exact ⟨rfl, (by ((repeat (first | with_reducible refine Below.drew ?_ | (with_reducible refine Below.alloc ?_ ?_ _; rotate_left; (focus (first | (simp; done) | (simp; omega) | omega))) | (with_reducible refine Below.setCell ?_ ?_ _; rotate_left; (focus (first | (simp; done) | (simp; omega) | omega))))); (first | with_reducible exact Below.refl _ _ | with_reducible assumption)))⟩
theorem en_bones (args : Array Value) (w : World) : (callFunc 40 args).run Tryz.prog w = .ok (.enter 40 args) w := by go_simp
def bonesF (n : Int) : Nat := if n = 64 then 18446744073709551615 else 4294967295
def bonesS : Spec Tryz.prog 40 :=
  mk1C _ en_bones (tInt .i64) (fun n => n = 32 ∨ n = 64) (fun n => uv (bonesF n)) (fun _ => rfl) (fun n hn M w v _ hv => by
    have hv' : v = .int .i64 n := hv
    subst hv'
    exact (ones_any n w hn).mono fun e w' h => ⟨⟨_, h.1, by rcases hn with rfl | rfl <;> rfl⟩, h.2⟩)
theorem bones_run {id : Nat} {h : Heap} {args : List AV} : bonesS.run id h args = runP (args1 (tInt .i64) (fun n => n = 32 ∨ n = 64)) (fun n => .ret (uv (bonesF n))) h args := rfl
theorem bones_pan {id : Nat} {h : Heap} {args : List AV} : bonesS.pan id h args = panP (args1 (tInt .i64) (fun n => n = 32 ∨ n = 64)) (fun n => .ret (uv (bonesF n))) h args := rfl
theorem fl1 : IntKind.i64.wrap (32 + IntKind.i64.wrap (32 * 1)) = 64 := by decide
theorem fl0 : IntKind.i64.wrap (32 + IntKind.i64.wrap (32 * 0)) = 32 := by decide
theorem bones1 : bonesF 64 = 18446744073709551615 := by decide
theorem bones0 : bonesF 32 = 4294967295 := by decide
theorem ones1 : onesN true = 18446744073709551615 := by decide
theorem ones0 : onesN false = 4294967295 := by decide
theorem en_ones (args : Array Value) (w : World) : (callFunc 21 args).run Tryz.prog w = .ok (.enter 21 args) w := by go_simp
def onesS : Spec Tryz.prog 21 :=
  mk1 _ _ _ Tryz.func21 rfl en_ones (tBool) ((fun _ => True)) ((fun x => .ret (uv (onesN x)))) (by rw [Tryz.ntmps21]; decide) (fun x _ => by
  refine aRun_sound (ctx := [⟨_, flagAS⟩, ⟨_, bonesS⟩]) 4000 ?_
  rw [Tryz.ntmps21, Tryz.results21]
  simp only [Tryz.f21, Option.getD_some, zipT]
  cases x
  · simp only [go_sem, Nat.reduceOr, Nat.reducePow, Nat.reduceDiv, Nat.reduceMod, Nat.reduceBEq, Int.reduceBEq, Int.reduceBNe, Int.reduceEq, Int.reduceLT, Int.reduceLE, Int.reduceToNat, reduceIte, reduceCtorEq, Nat.reduceEqDiff, Nat.reduceAdd, Nat.reduceLT, Nat.reduceLeDiff, Nat.reduceMul, Nat.reduceSub, flagA_run, flagA_pan, flagN, fl0, bones_run, bones_pan, bones0, ones0]
    rfl
  · simp only [go_sem, Nat.reduceOr, Nat.reducePow, Nat.reduceDiv, Nat.reduceMod, Nat.reduceBEq, Int.reduceBEq, Int.reduceBNe, Int.reduceEq, Int.reduceLT, Int.reduceLE, Int.reduceToNat, reduceIte, reduceCtorEq, Nat.reduceEqDiff, Nat.reduceAdd, Nat.reduceLT, Nat.reduceLeDiff, Nat.reduceMul, Nat.reduceSub, flagA_run, flagA_pan, flagN, fl1, bones_run, bones_pan, bones1, ones1]
    rfl)
theorem ones_run {id : Nat} {h : Heap} {args : List AV} : (onesS).run id h args = runP (args1 (tBool) ((fun _ => True))) ((fun x => .ret (uv (onesN x)))) h args := rfl
theorem ones_pan {id : Nat} {h : Heap} {args : List AV} : (onesS).pan id h args = panP (args1 (tBool) ((fun _ => True))) ((fun x => .ret (uv (onesN x)))) h args := rfl

/-! ### 16 bits, shifted -/
theorem and_split (a b n : Nat) : a &&& b = 0 ↔ (a % 2 ^ n &&& b % 2 ^ n) = 0 ∧ (a / 2 ^ n &&& b / 2 ^ n) = 0 := by
  rw [← Nat.and_mod_two_pow, ← Nat.and_div_two_pow]
  constructor
  · intro h; rw [h]; simp
  · rintro ⟨h1, h2⟩
    have := Nat.div_add_mod (a &&& b) (2 ^ n)
    rw [h1, h2] at this
    simpa using this.symm
theorem wide_bit (v c : Nat) (hv : v < 18446744073709551616) (hc : c < 4) : (v &&& (18446744073709551615 - 65535 * 2 ^ (16 * c) % 18446744073709551616)) = 0 ↔ wideP v c = true := by
  have hmod : ∀ x n, x &&& (2 ^ n - 1) = x % 2 ^ n := fun x n => Nat.and_two_pow_sub_one_eq_mod x n
  unfold wideP
  simp only [Bool.and_eq_true, beq_iff_eq, decide_eq_true_eq]
  have h4 : c = 0 ∨ c = 1 ∨ c = 2 ∨ c = 3 := by omega
  rcases h4 with rfl | rfl | rfl | rfl
  · rw [and_split _ _ 16, show (18446744073709551615 - 65535 * 2 ^ (16 * 0) % 18446744073709551616) % 2 ^ 16 = 0 from by decide, show (18446744073709551615 - 65535 * 2 ^ (16 * 0) % 18446744073709551616) / 2 ^ 16 = 2 ^ 48 - 1 from by decide, hmod]
    simp only [Nat.and_zero, true_and, Nat.reduceMul, Nat.reducePow]
    omega
  · rw [and_split _ _ 16, show (18446744073709551615 - 65535 * 2 ^ (16 * 1) % 18446744073709551616) % 2 ^ 16 = 2 ^ 16 - 1 from by decide, show (18446744073709551615 - 65535 * 2 ^ (16 * 1) % 18446744073709551616) / 2 ^ 16 = (2 ^ 32 - 1) * 2 ^ 16 from by decide, hmod, and_split (v / 2 ^ 16) _ 16, show (2 ^ 32 - 1) * 2 ^ 16 % 2 ^ 16 = 0 from by decide, show (2 ^ 32 - 1) * 2 ^ 16 / 2 ^ 16 = 2 ^ 32 - 1 from by decide, hmod]
    simp only [Nat.and_zero, true_and, Nat.reduceMul, Nat.reducePow]
    omega
  · rw [and_split _ _ 32, show (18446744073709551615 - 65535 * 2 ^ (16 * 2) % 18446744073709551616) % 2 ^ 32 = 2 ^ 32 - 1 from by decide, show (18446744073709551615 - 65535 * 2 ^ (16 * 2) % 18446744073709551616) / 2 ^ 32 = (2 ^ 16 - 1) * 2 ^ 16 from by decide, hmod, and_split (v / 2 ^ 32) _ 16, show (2 ^ 16 - 1) * 2 ^ 16 % 2 ^ 16 = 0 from by decide, show (2 ^ 16 - 1) * 2 ^ 16 / 2 ^ 16 = 2 ^ 16 - 1 from by decide, hmod]
    simp only [Nat.and_zero, true_and, Nat.reduceMul, Nat.reducePow]
    omega
  · rw [show 18446744073709551615 - 65535 * 2 ^ (16 * 3) % 18446744073709551616 = 2 ^ 48 - 1 from by decide, hmod]
    omega
def wdI (v : Nat) (x : Bool) (y : Nat × Nat) : St := ⟨0, [(0, uv v), (11, iv (wideN x)), (12, iv y.2)], []⟩
def wideO : Option (Nat × Nat) → AV
  | some (a, c) => .tup [.l (.v (.int .i64 (a : Int))), .l (.v (.int .i64 (c : Int))), .l (.v (.bool true))]
  | none => .tup [.l (.v (.int .i64 0)), .l (.v (.int .i64 0)), .l (.v (.bool false))]
theorem wn1 : IntKind.i64.wrap (2 + IntKind.i64.wrap (2 * 1)) = 4 := by decide
theorem wn0 : IntKind.i64.wrap (2 + IntKind.i64.wrap (2 * 0)) = 2 := by decide
theorem wideN_le (x : Bool) : wideN x ≤ 4 := by cases x <;> decide
set_option maxHeartbeats 2000000 in
theorem wide_sw (v : Nat) (hv : v < 18446744073709551616) (x : Bool) : SW Tryz.prog ⟨none, 0⟩ Tryz.f22.ntmps (Tryz.f22.body.getD .skip) ⟨0, zipT 0 [tU.enc (v : Int), tBool.enc x], []⟩ (outQ Tryz.prog Tryz.f22.results.toList (.ret (wideO (wideF v x)))) := by
  have t : ∀ n : Nat, Int.toNat (n : Int) = n := fun _ => rfl
  refine aRun_sound (ctx := [⟨_, flagAS⟩]) 4000 ?_
  rw [Tryz.ntmps22, Tryz.results22]
  simp only [Tryz.f22, Option.getD_some, zipT]
  have hw : IntKind.i64.wrap (2 + IntKind.i64.wrap (2 * flagN x)) = ((wideN x : Nat) : Int) := by cases x <;> rfl
  have hn4 := wideN_le x
  simp only [go_sem, Nat.reduceOr, Nat.reducePow, Nat.reduceDiv, Nat.reduceMod, Nat.reduceBEq, Int.reduceBEq, Int.reduceBNe, Int.reduceEq, Int.reduceLT, Int.reduceLE, Int.reduceToNat, reduceIte, reduceCtorEq, Nat.reduceEqDiff, Nat.reduceAdd, Nat.reduceLT, Nat.reduceLeDiff, Nat.reduceMul, Nat.reduceSub, tU, flagA_run, flagA_pan, hw]
  refine sw_loop (ι := Nat × Nat) (fun y => wideG v (wideN x) y.1 y.2 = wideF v x ∧ y.1 + y.2 = 5) (wdI v x) (fun y => 5 - y.2) (5, 0) ⟨rfl, rfl⟩ (Wk.renL [] (by simp) (Nat.zero_le _) (by decide) rfl rfl) ?_
  rintro ⟨f, c⟩ ⟨i1, i2⟩
  simp only at i1 i2
  refine aRun_sound (ctx := []) 4000 ?_
  by_cases hlt : c < wideN x
  · obtain ⟨f', rfl⟩ : ∃ f', f = f' + 1 := ⟨f - 1, by omega⟩
    rw [wideG, if_pos hlt] at i1
    have hltI : (c : Int) < (wideN x : Int) := by omega
    have e1 : IntKind.i64.wrap (16 * (c : Int)) = ((16 * c : Nat) : Int) := by rw [IntKind.wrap_i64]; omega
    have e0 : (0 : Int) ≤ ((16 * c : Nat) : Int) := Int.natCast_nonneg _
    have e2 : IntKind.u64.wrap (65535 * 2 ^ min (16 * c) 64) = ((65535 * 2 ^ (16 * c) % 18446744073709551616 : Nat) : Int) := shl_u 65535 (16 * c) (by omega)
    have e3 := u64_andNot_nat v (65535 * 2 ^ (16 * c) % 18446744073709551616) hv (Nat.mod_lt _ (by decide))
    have e4 := shr_u v (16 * c) (by omega)
    have e6 : IntKind.i64.wrap ((c : Int) + 1) = ((c + 1 : Nat) : Int) := by rw [IntKind.wrap_i64]; omega
    have hb := wide_bit v c hv (by omega)
    by_cases hp : wideP v c = true
    · rw [if_pos hp] at i1
      have hz : (((v &&& (18446744073709551615 - 65535 * 2 ^ (16 * c) % 18446744073709551616) : Nat) : Int) == 0) = true := by rw [hb.2 hp]; rfl
      have e5 : IntKind.i64.wrap ((v / 2 ^ (16 * c) : Nat) : Int) = ((v / 2 ^ (16 * c) : Nat) : Int) := by
        simp only [wideP, Bool.and_eq_true, decide_eq_true_eq] at hp
        have hp2 := hp.2
        revert hp2
        generalize v / 2 ^ (16 * c) = q
        intro hp2
        rw [IntKind.wrap_i64]
        omega
      simp only [go_sem, Nat.reduceOr, Nat.reducePow, Nat.reduceDiv, Nat.reduceMod, Nat.reduceBEq, Int.reduceBEq, Int.reduceBNe, Int.reduceEq, Int.reduceLT, Int.reduceLE, Int.reduceToNat, reduceIte, reduceCtorEq, Nat.reduceEqDiff, Nat.reduceAdd, Nat.reduceLT, Nat.reduceLeDiff, Nat.reduceMul, Nat.reduceSub, wdI, hltI, e0, e1, e2, e3, e4, e5, t, hz, ← i1, wideO]
    · rw [if_neg hp] at i1
      have hz : (((v &&& (18446744073709551615 - 65535 * 2 ^ (16 * c) % 18446744073709551616) : Nat) : Int) == 0) = false := by
        simp only [beq_eq_false_iff_ne, ne_eq]
        intro h
        exact hp (hb.1 (by exact_mod_cast h))
      simp only [go_sem, Nat.reduceOr, Nat.reducePow, Nat.reduceDiv, Nat.reduceMod, Nat.reduceBEq, Int.reduceBEq, Int.reduceBNe, Int.reduceEq, Int.reduceLT, Int.reduceLE, Int.reduceToNat, reduceIte, reduceCtorEq, Nat.reduceEqDiff, Nat.reduceAdd, Nat.reduceLT, Nat.reduceLeDiff, Nat.reduceMul, Nat.reduceSub, wdI, hltI, e0, e1, e2, e3, e4, e6, t, hz]
      exact ⟨(f', c + 1), ⟨i1, by simp only; omega⟩, by simp only; omega, Wk.renL [] (by simp) (Nat.zero_le _) (by decide) rfl rfl⟩
  · have hltI : ¬ (c : Int) < (wideN x : Int) := by omega
    have hF : wideF v x = none := by
      rw [← i1]
      cases f
      · rfl
      · rw [wideG, if_neg hlt]
    simp only [go_sem, Nat.reduceOr, Nat.reducePow, Nat.reduceDiv, Nat.reduceMod, Nat.reduceBEq, Int.reduceBEq, Int.reduceBNe, Int.reduceEq, Int.reduceLT, Int.reduceLE, Int.reduceToNat, reduceIte, reduceCtorEq, Nat.reduceEqDiff, Nat.reduceAdd, Nat.reduceLT, Nat.reduceLeDiff, Nat.reduceMul, Nat.reduceSub, wdI, hltI, hF, wideO]
theorem en_wide (args : Array Value) (w : World) : (callFunc 22 args).run Tryz.prog w = .ok (.enter 22 args) w := by go_simp
def wideS : Spec Tryz.prog 22 :=
  mk2 _ _ _ Tryz.func22 rfl en_wide (tU) (tBool) ((fun v _ => 0 ≤ v ∧ v < 18446744073709551616)) ((fun v x => .ret (wideO (wideF v.toNat x)))) (by rw [Tryz.ntmps22]; decide) (fun v x h => by
  obtain ⟨v, rfl⟩ := Int.eq_ofNat_of_zero_le h.1
  exact wide_sw v (by omega) x)
theorem wide_run {id : Nat} {h : Heap} {args : List AV} : (wideS).run id h args = runP (args2 (tU) (tBool) ((fun v _ => 0 ≤ v ∧ v < 18446744073709551616))) (fun x => ((fun v x => .ret (wideO (wideF v.toNat x)))) x.1 x.2) h args := rfl
theorem wide_pan {id : Nat} {h : Heap} {args : List AV} : (wideS).pan id h args = panP (args2 (tU) (tBool) ((fun v _ => 0 ≤ v ∧ v < 18446744073709551616))) (fun x => ((fun v x => .ret (wideO (wideF v.toNat x)))) x.1 x.2) h args := rfl

end Go.Proofs.YtpjlafmhoifkmaaGreat
