/- Numbers of 64 bits: ones, counted ones. -/
import Derived.Test.YtpjlafmhoifkmaaGreatJ3
import Derived.Test.YtpjlafmhoifkmaaGreatK0
set_option linter.unusedVariables false
set_option linter.unusedSimpArgs false
namespace Go.Proofs.YtpjlafmhoifkmaaGreat
open Go.RowKit
set_option maxRecDepth 100000

def yieldV (l : Nat) : AV := .s (.l (.v (.func (.yield l) #[] #[])))
abbrev uv (n : Nat) : AV := .s (.l (.v (.int .u64 (n : Int))))
def tU : Ty Int := tInt .u64
theorem fd (n k : Nat) : Int.fdiv (n : Int) (k : Int) = ((n / k : Nat) : Int) := by
  rw [Int.fdiv_eq_ediv_of_nonneg _ (Int.natCast_nonneg _)]
  simp
theorem and_u (a b : Nat) (ha : a < 2 ^ 64) (hb : b < 2 ^ 64) : bits .and .u64 a b = ((a &&& b : Nat) : Int) := (u64_bits a b ha hb).1
theorem or_u (a b : Nat) (ha : a < 2 ^ 64) (hb : b < 2 ^ 64) : bits .or .u64 a b = ((a ||| b : Nat) : Int) := (u64_bits a b ha hb).2.1
theorem xor_u (a b : Nat) (ha : a < 2 ^ 64) (hb : b < 2 ^ 64) : bits .xor .u64 a b = ((a ^^^ b : Nat) : Int) := (u64_bits a b ha hb).2.2
theorem add_u (a b : Nat) : IntKind.u64.wrap ((a : Int) + (b : Int)) = (((a + b) % 18446744073709551616 : Nat) : Int) := by
  have := u64_nat (a + b)
  rw [← this]; simp
theorem and127 (F : Nat) : bits .and .i64 (IntKind.i64.wrap (F : Int)) 127 = ((F &&& 127 : Nat) : Int) := by
  have h : BitVec.ofInt 64 (IntKind.i64.wrap (F : Int)) = BitVec.ofNat 64 F := by
    apply BitVec.eq_of_toNat_eq
    rw [IntKind.wrap_i64]
    simp only [BitVec.toNat_ofInt, BitVec.toNat_ofNat]
    omega
  have h2 : (F &&& 127) < 128 := Nat.lt_of_le_of_lt Nat.and_le_right (by decide)
  have h3 : F % 18446744073709551616 &&& 127 = F &&& 127 := by
    have e : ∀ x : Nat, x &&& 127 = x % 128 := fun x => Nat.and_two_pow_sub_one_eq_mod x 7
    rw [e, e]; omega
  have h4 : (BitVec.ofInt 64 (IntKind.i64.wrap (F : Int)) &&& BitVec.ofInt 64 127).toNat = F &&& 127 := by
    rw [h, BitVec.toNat_and, BitVec.toNat_ofNat, show (BitVec.ofInt 64 127).toNat = 127 from by decide]
    exact h3
  have h5 : bits .and .i64 (IntKind.i64.wrap (F : Int)) 127 = IntKind.i64.wrap (((BitVec.ofInt 64 (IntKind.i64.wrap (F : Int)) &&& BitVec.ofInt 64 127).toNat : Nat) : Int) := by
    unfold bits
    first | rfl | (simp only [BitVec.toNat_and]; rfl)
  rw [h5, h4, IntKind.wrap_i64]
  omega
theorem pw1 : (2 : Int) ^ min 1 64 = 2 := by decide
theorem pw2 : (2 : Int) ^ min 2 64 = 4 := by decide
theorem pw4 : (2 : Int) ^ min 4 64 = 16 := by decide
theorem pw8 : (2 : Int) ^ min 8 64 = 256 := by decide
theorem pw16 : (2 : Int) ^ min 16 64 = 65536 := by decide
theorem pw32 : (2 : Int) ^ min 32 64 = 4294967296 := by decide
set_option maxHeartbeats 1000000 in
theorem pop_sw (x : Int) (h : 0 ≤ x ∧ x < 18446744073709551616) : SW Tryz.prog ⟨none, 0⟩ Tryz.f152.ntmps (Tryz.f152.body.getD .skip) ⟨0, zipT 0 [tU.enc x], []⟩ (outQ Tryz.prog Tryz.f152.results.toList (.ret (iv (pop x.toNat)))) := by
  obtain ⟨n, rfl⟩ := Int.eq_ofNat_of_zero_le h.1
  have hn : n < 18446744073709551616 := by omega
  clear h
  have two64 : (18446744073709551616 : Nat) = 2 ^ 64 := by decide
  refine aRun_sound (ctx := []) 4000 ?_
  rw [Tryz.ntmps152, Tryz.results152]
  simp only [Tryz.f152, Option.getD_some, zipT]
  obtain ⟨A, hA⟩ : ∃ A, ((n / 2 &&& 6148914691236517205) + (n &&& 6148914691236517205)) % 18446744073709551616 = A := ⟨_, rfl⟩
  obtain ⟨B, hB⟩ : ∃ B, ((A / 4 &&& 3689348814741910323) + (A &&& 3689348814741910323)) % 18446744073709551616 = B := ⟨_, rfl⟩
  obtain ⟨C, hC⟩ : ∃ C, (B / 16 + B) % 18446744073709551616 &&& 1085102592571150095 = C := ⟨_, rfl⟩
  obtain ⟨D, hD⟩ : ∃ D, (C + C / 256) % 18446744073709551616 = D := ⟨_, rfl⟩
  obtain ⟨E, hE⟩ : ∃ E, (D + D / 65536) % 18446744073709551616 = E := ⟨_, rfl⟩
  obtain ⟨F, hF⟩ : ∃ F, (E + E / 4294967296) % 18446744073709551616 = F := ⟨_, rfl⟩
  have lA : A < 18446744073709551616 := by omega
  have lB : B < 18446744073709551616 := by omega
  have e1 : Int.fdiv (n : Int) 2 = ((n / 2 : Nat) : Int) := fd n 2
  have e2 : bits .and .u64 ((n / 2 : Nat) : Int) 6148914691236517205 = ((n / 2 &&& 6148914691236517205 : Nat) : Int) := and_u _ 6148914691236517205 (by omega) (by decide)
  have e3 : bits .and .u64 (n : Int) 6148914691236517205 = ((n &&& 6148914691236517205 : Nat) : Int) := and_u _ 6148914691236517205 (by omega) (by decide)
  have e4 : IntKind.u64.wrap (((n / 2 &&& 6148914691236517205 : Nat) : Int) + ((n &&& 6148914691236517205 : Nat) : Int)) = (A : Int) := by rw [add_u, hA]
  have f1 : Int.fdiv (A : Int) 4 = ((A / 4 : Nat) : Int) := fd A 4
  have f2 : bits .and .u64 ((A / 4 : Nat) : Int) 3689348814741910323 = ((A / 4 &&& 3689348814741910323 : Nat) : Int) := and_u _ 3689348814741910323 (by omega) (by decide)
  have f3 : bits .and .u64 (A : Int) 3689348814741910323 = ((A &&& 3689348814741910323 : Nat) : Int) := and_u _ 3689348814741910323 (by omega) (by decide)
  have f4 : IntKind.u64.wrap (((A / 4 &&& 3689348814741910323 : Nat) : Int) + ((A &&& 3689348814741910323 : Nat) : Int)) = (B : Int) := by rw [add_u, hB]
  have g1 : Int.fdiv (B : Int) 16 = ((B / 16 : Nat) : Int) := fd B 16
  have g2 : IntKind.u64.wrap (((B / 16 : Nat) : Int) + (B : Int)) = (((B / 16 + B) % 18446744073709551616 : Nat) : Int) := add_u _ _
  have g3 : bits .and .u64 (((B / 16 + B) % 18446744073709551616 : Nat) : Int) 1085102592571150095 = (C : Int) := by rw [← hC]; exact and_u _ 1085102592571150095 (by omega) (by decide)
  have i1 : Int.fdiv (C : Int) 256 = ((C / 256 : Nat) : Int) := fd C 256
  have i2 : IntKind.u64.wrap ((C : Int) + ((C / 256 : Nat) : Int)) = (D : Int) := by rw [add_u, hD]
  have j1 : Int.fdiv (D : Int) 65536 = ((D / 65536 : Nat) : Int) := fd D 65536
  have j2 : IntKind.u64.wrap ((D : Int) + ((D / 65536 : Nat) : Int)) = (E : Int) := by rw [add_u, hE]
  have k1 : Int.fdiv (E : Int) 4294967296 = ((E / 4294967296 : Nat) : Int) := fd E 4294967296
  have k2 : IntKind.u64.wrap ((E : Int) + ((E / 4294967296 : Nat) : Int)) = (F : Int) := by rw [add_u, hF]
  have l1 := and127 F
  have hp : pop n = F &&& 127 := by unfold pop; simp only [hA, hB, hC, hD, hE, hF]
  have t : Int.toNat (n : Int) = n := rfl
  simp only [go_sem, Nat.reduceOr, Nat.reducePow, Nat.reduceDiv, Nat.reduceMod, Nat.reduceBEq, Int.reduceBEq, Int.reduceBNe, Int.reduceEq, Int.reduceLT, Int.reduceLE, Int.reduceToNat, reduceIte, reduceCtorEq, Nat.reduceEqDiff, Nat.reduceAdd, Nat.reduceLT, Nat.reduceLeDiff, Nat.reduceMul, Nat.reduceSub, tU, t, hp, pw1, pw2, pw4, pw8, pw16, pw32, e1, e2, e3, e4, f1, f2, f3, f4, g1, g2, g3, i1, i2, j1, j2, k1, k2, l1]
theorem en_pop (args : Array Value) (w : World) : (callFunc 152 args).run Tryz.prog w = .ok (.enter 152 args) w := by go_simp
def popS : Spec Tryz.prog 152 :=
  mk1 _ _ _ Tryz.func152 rfl en_pop (tU) ((fun x => 0 ≤ x ∧ x < 18446744073709551616)) ((fun x => .ret (iv (pop x.toNat)))) (by rw [Tryz.ntmps152]; decide) (fun x h => pop_sw x h)
theorem pop_run {id : Nat} {h : Heap} {args : List AV} : (popS).run id h args = runP (args1 (tU) ((fun x => 0 ≤ x ∧ x < 18446744073709551616))) ((fun x => .ret (iv (pop x.toNat)))) h args := rfl
theorem pop_pan {id : Nat} {h : Heap} {args : List AV} : (popS).pan id h args = panP (args1 (tU) ((fun x => 0 ≤ x ∧ x < 18446744073709551616))) ((fun x => .ret (iv (pop x.toNat)))) h args := rfl

theorem en_width (args : Array Value) (w : World) : (callFunc 150 args).run Tryz.prog w = .ok (.enter 150 args) w := by go_simp
def widthS : Spec Tryz.prog 150 :=
  mk1 _ _ _ Tryz.func150 rfl en_width (tInt .i64) ((fun _ => True)) ((fun n => .ret (bv (decide (n = 32 ∨ n = 64))))) (by rw [Tryz.ntmps150]; decide) (fun n _ => by
  refine aRun_sound (ctx := []) 4000 ?_
  rw [Tryz.ntmps150, Tryz.results150]
  simp only [Tryz.f150, Option.getD_some, zipT]
  by_cases h1 : n = 32
  · simp only [go_sem, Nat.reduceOr, Nat.reducePow, Nat.reduceDiv, Nat.reduceMod, Nat.reduceBEq, Int.reduceBEq, Int.reduceBNe, Int.reduceEq, Int.reduceLT, Int.reduceLE, Int.reduceToNat, reduceIte, reduceCtorEq, Nat.reduceEqDiff, Nat.reduceAdd, Nat.reduceLT, Nat.reduceLeDiff, Nat.reduceMul, Nat.reduceSub, h1]
  · by_cases h2 : n = 64
    · simp only [go_sem, Nat.reduceOr, Nat.reducePow, Nat.reduceDiv, Nat.reduceMod, Nat.reduceBEq, Int.reduceBEq, Int.reduceBNe, Int.reduceEq, Int.reduceLT, Int.reduceLE, Int.reduceToNat, reduceIte, reduceCtorEq, Nat.reduceEqDiff, Nat.reduceAdd, Nat.reduceLT, Nat.reduceLeDiff, Nat.reduceMul, Nat.reduceSub, h1, h2]
    · have h3 : (n == 64) = false := by simpa using h2
      simp only [go_sem, Nat.reduceOr, Nat.reducePow, Nat.reduceDiv, Nat.reduceMod, Nat.reduceBEq, Int.reduceBEq, Int.reduceBNe, Int.reduceEq, Int.reduceLT, Int.reduceLE, Int.reduceToNat, reduceIte, reduceCtorEq, Nat.reduceEqDiff, Nat.reduceAdd, Nat.reduceLT, Nat.reduceLeDiff, Nat.reduceMul, Nat.reduceSub, h1, h2, h3])
theorem width_run {id : Nat} {h : Heap} {args : List AV} : (widthS).run id h args = runP (args1 (tInt .i64) ((fun _ => True))) ((fun n => .ret (bv (decide (n = 32 ∨ n = 64))))) h args := rfl
theorem width_pan {id : Nat} {h : Heap} {args : List AV} : (widthS).pan id h args = panP (args1 (tInt .i64) ((fun _ => True))) ((fun n => .ret (bv (decide (n = 32 ∨ n = 64))))) h args := rfl
theorem en_bad2 (args : Array Value) (w : World) : (callFunc 193 args).run Tryz.prog w = .ok (.enter 193 args) w := by go_simp
def bad2S : Spec Tryz.prog 193 :=
  mk1 _ _ _ Tryz.func193 rfl en_bad2 (tInt .i64) ((fun _ => True)) ((fun n => .ret (bv (decide (¬ n = 32 ∧ ¬ n = 64))))) (by rw [Tryz.ntmps193]; decide) (fun n _ => by
  refine aRun_sound (ctx := []) 4000 ?_
  rw [Tryz.ntmps193, Tryz.results193]
  simp only [Tryz.f193, Option.getD_some, zipT]
  by_cases h1 : n = 32
  · simp only [go_sem, Nat.reduceOr, Nat.reducePow, Nat.reduceDiv, Nat.reduceMod, Nat.reduceBEq, Int.reduceBEq, Int.reduceBNe, Int.reduceEq, Int.reduceLT, Int.reduceLE, Int.reduceToNat, reduceIte, reduceCtorEq, Nat.reduceEqDiff, Nat.reduceAdd, Nat.reduceLT, Nat.reduceLeDiff, Nat.reduceMul, Nat.reduceSub, h1]
  · by_cases h2 : n = 64
    · simp only [go_sem, Nat.reduceOr, Nat.reducePow, Nat.reduceDiv, Nat.reduceMod, Nat.reduceBEq, Int.reduceBEq, Int.reduceBNe, Int.reduceEq, Int.reduceLT, Int.reduceLE, Int.reduceToNat, reduceIte, reduceCtorEq, Nat.reduceEqDiff, Nat.reduceAdd, Nat.reduceLT, Nat.reduceLeDiff, Nat.reduceMul, Nat.reduceSub, h1, h2]
    · have h3 : (n != 64) = true := by simpa using h2
      simp only [go_sem, Nat.reduceOr, Nat.reducePow, Nat.reduceDiv, Nat.reduceMod, Nat.reduceBEq, Int.reduceBEq, Int.reduceBNe, Int.reduceEq, Int.reduceLT, Int.reduceLE, Int.reduceToNat, reduceIte, reduceCtorEq, Nat.reduceEqDiff, Nat.reduceAdd, Nat.reduceLT, Nat.reduceLeDiff, Nat.reduceMul, Nat.reduceSub, h1, h2, h3])
theorem bad2_run {id : Nat} {h : Heap} {args : List AV} : (bad2S).run id h args = runP (args1 (tInt .i64) ((fun _ => True))) ((fun n => .ret (bv (decide (¬ n = 32 ∧ ¬ n = 64))))) h args := rfl
theorem bad2_pan {id : Nat} {h : Heap} {args : List AV} : (bad2S).pan id h args = panP (args1 (tInt .i64) ((fun _ => True))) ((fun n => .ret (bv (decide (¬ n = 32 ∧ ¬ n = 64))))) h args := rfl

end Go.Proofs.YtpjlafmhoifkmaaGreat
