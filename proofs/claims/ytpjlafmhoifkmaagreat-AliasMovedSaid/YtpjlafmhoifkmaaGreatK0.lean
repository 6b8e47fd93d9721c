/- Moves of numbers, plainly: what moves a number may be, and its preferred form is mov. No program in sight. -/
import Derived.Test.YtpjlafmhoifkmaaGreatI2
set_option linter.unusedVariables false
set_option linter.unusedSimpArgs false
namespace Go.Proofs.YtpjlafmhoifkmaaGreat

def onesN (x : Bool) : Nat := if x then 18446744073709551615 else 4294967295
def wN (x : Bool) : Nat := if x then 64 else 32
def i64F (v : Nat) : Int := IntKind.i64.wrap (v : Int)
theorem u64_i64 {v : Nat} (h : v < 18446744073709551616) : u64F (i64F v) = v := by
  unfold u64F i64F
  rw [IntKind.wrap_i64]
  omega

/-! ### A number as 16 bits, shifted -/
def wideP (v c : Nat) : Bool := v % 2 ^ (16 * c) == 0 && decide (v / 2 ^ (16 * c) < 65536)
def wideG (v n : Nat) : Nat → Nat → Option (Nat × Nat)
  | 0, _ => none
  | f + 1, c => if c < n then (if wideP v c then some (v / 2 ^ (16 * c), c) else wideG v n f (c + 1)) else none
def wideN (x : Bool) : Nat := if x then 4 else 2
def wideF (v : Nat) (x : Bool) : Option (Nat × Nat) := wideG v (wideN x) 5 0

theorem wideG_some {v n a d : Nat} : ∀ {f c : Nat}, wideG v n f c = some (a, d) → c ≤ d ∧ d < n ∧ wideP v d = true ∧ a = v / 2 ^ (16 * d) ∧ ∀ j, c ≤ j → j < d → wideP v j = false
  | 0, _, h => by cases h
  | f + 1, c, h => by
    rw [wideG] at h
    split at h
    case isFalse => cases h
    rename_i hc
    split at h
    · rename_i hw
      injection h with h
      injection h with h1 h2
      subst h2
      exact ⟨Nat.le_refl _, hc, hw, h1.symm, fun j h3 h4 => by omega⟩
    · rename_i hw
      obtain ⟨h1, h2, h3, h4, h5⟩ := wideG_some h
      refine ⟨by omega, h2, h3, h4, fun j h6 h7 => ?_⟩
      by_cases e : j = c
      · rw [e]; simpa using hw
      · exact h5 j (by omega) h7
theorem wide_parts {v x a c} (h : wideF v x = some (a, c)) : c < wideN x ∧ a < 65536 ∧ a * 2 ^ (16 * c) = v ∧ (a = 0 → c = 0) := by
  obtain ⟨_, h2, h3, h4, h5⟩ := wideG_some h
  simp only [wideP, Bool.and_eq_true, beq_iff_eq, decide_eq_true_eq] at h3
  have hv : a * 2 ^ (16 * c) = v := by
    rw [h4]
    exact Nat.div_mul_cancel (Nat.dvd_of_mod_eq_zero h3.1)
  refine ⟨h2, by rw [h4]; exact h3.2, hv, fun ha => ?_⟩
  rcases Nat.eq_zero_or_pos c with h | h
  · exact h
  · have := h5 0 (Nat.zero_le _) h
    rw [← hv, ha] at this
    simp [wideP] at this

/-! ### The instruction that moves a number -/
def moveF (rd : RegV) (v : Nat) : Ins × Int :=
  if ¬ (regNameF rd).2 = 0 ∨ onesN rd.x < v then (ins0 0, 1) else
  match (if rd.sp then none else wideF v rd.x) with
  | some (a, c) => (⟨4, rd.x, false, rd.n, 0, 0, 0, a, 2, c⟩, 0)
  | none => match (if rd.sp then none else wideF (v ^^^ onesN rd.x) rd.x) with
    | some (a, c) => (⟨4, rd.x, false, rd.n, 0, 0, 0, a, 0, c⟩, 0)
    | none => if (lFind v (wN rd.x)).isSome = false ∨ (rd.n = 31 ∧ rd.sp = false) then (ins0 0, 70) else (⟨3, rd.x, false, rd.n, 31, 0, 0, i64F v, 1, 0⟩, 0)

def logAF (x : Ins) : Option LineV :=
  if x.b = 3 ∧ x.rd = 31 then some ((⟨#[116, 115, 116]⟩ : ByteArray), [nO x, numO' x])
  else if x.b = 1 ∧ x.rn = 31 then
    let m := moveF ⟨x.rd, x.x, false⟩ (u64F x.a &&& onesN x.x)
    if m.2 = 0 ∧ m.1.op = 4 then none else some ((⟨#[109, 111, 118]⟩ : ByteArray), [dsO x, numO' x])
  else none
def mvdF (x : Ins) : Int :=
  i64F (if x.b = 0 then (u64F x.a * 2 ^ (16 * x.c).toNat % 18446744073709551616) ^^^ onesN x.x else u64F x.a * 2 ^ (16 * x.c).toNat % 18446744073709551616)
def movAF (x : Ins) : Option LineV :=
  if x.b = 3 ∨ (x.a = 0 ∧ ¬ x.c = 0) ∨ (x.b = 0 ∧ x.x = false ∧ x.a = 65535) then none else some ((⟨#[109, 111, 118]⟩ : ByteArray), [dO x, oNum (mvdF x)])

/-! ### They may be -/
theorem icheck_mov {xx : Bool} {rd a b c : Int} (h1 : 0 ≤ rd ∧ rd ≤ 31) (h2 : 0 ≤ a ∧ a ≤ 65535) (h3 : b = 0 ∨ b = 2) (h4 : 0 ≤ c ∧ c ≤ 3) (h5 : xx = true ∨ c ≤ 1) : icheckF ⟨4, xx, false, rd, 0, 0, 0, a, b, c⟩ = 0 := by
  have h3' : 0 ≤ b ∧ b ≤ 3 ∧ ¬ b = 1 := by omega
  have hl : limitsF 4 = [(1, 0, 1), (3, 0, 31), (7, 0, 65535), (8, 0, 3), (9, 0, 3)] := by decide
  have hx : 0 ≤ flagN xx ∧ flagN xx ≤ 1 ∧ decide (flagN xx = 1) = xx := by cases xx <;> decide
  have ht : thereF ⟨4, xx, false, rd, 0, 0, 0, a, b, c⟩ = true := by
    simp [thereF, h3'.2.2]
    exact h5
  have hw : withinF ⟨4, xx, false, rd, 0, 0, 0, a, b, c⟩ = true := by
    simp only [withinF, hl, cleanF, cleanL, List.all_cons, List.all_nil, List.foldl_cons, List.foldl_nil, inLim, getF, setF, ins0]
    simp [h1, h2, h3', h4, hx]
  unfold icheckF
  rw [ht, hw]
  rfl
theorem icheck_log {xx : Bool} {rd a : Int} (h1 : 0 ≤ rd ∧ rd ≤ 31) (h2 : -9223372036854775808 ≤ a ∧ a ≤ 9223372036854775807) (h3 : (lFind (u64F a) (if xx then 64 else 32)).isSome = true) (h5 : xx = true ∨ 0 ≤ a) : icheckF ⟨3, xx, false, rd, 31, 0, 0, a, 1, 0⟩ = 0 := by
  have hl : limitsF 3 = [(1, 0, 1), (3, 0, 31), (4, 0, 31), (7, -9223372036854775808, 9223372036854775807), (8, 0, 3)] := by decide
  have hx : 0 ≤ flagN xx ∧ flagN xx ≤ 1 ∧ decide (flagN xx = 1) = xx := by cases xx <;> decide
  have ht : thereF ⟨3, xx, false, rd, 31, 0, 0, a, 1, 0⟩ = true := by
    simp only [thereF, if_true, logicalF, h3, Bool.true_and, Bool.or_eq_true, decide_eq_true_eq]
    exact h5
  have hw : withinF ⟨3, xx, false, rd, 31, 0, 0, a, 1, 0⟩ = true := by
    simp only [withinF, hl, cleanF, cleanL, List.all_cons, List.all_nil, List.foldl_cons, List.foldl_nil, inLim, getF, setF, ins0]
    simp [h1, h2, hx]
  unfold icheckF
  rw [ht, hw]
  rfl
theorem regName_ok {rd : RegV} (h : (regNameF rd).2 = 0) : 0 ≤ rd.n ∧ rd.n ≤ 31 ∧ (rd.sp = true → rd.n = 31) := by
  obtain ⟨n, x, sp⟩ := rd
  by_cases hc : n < 0 ∨ 31 < n ∨ (sp = true ∧ n ≠ 31)
  · exfalso
    revert h
    unfold regNameF
    simp only
    repeat' split
    all_goals first | (simp; done) | (intro h; omega)
  · exact ⟨(by show 0 ≤ n; omega), (by show n ≤ 31; omega), (by intro hs; have hs' : sp = true := hs; subst hs'; simp at hc; show n = 31; omega)⟩

theorem ones_lt (x : Bool) : onesN x < 18446744073709551616 := by cases x <;> decide
theorem xor_lt {v : Nat} {x : Bool} (h : v ≤ onesN x) : v ^^^ onesN x ≤ onesN x := by
  cases x
  · have : v ^^^ 4294967295 < 2 ^ 32 := Nat.xor_lt_two_pow (by simp [onesN] at h; omega) (by decide)
    simp [onesN]; omega
  · have : v ^^^ 18446744073709551615 < 2 ^ 64 := Nat.xor_lt_two_pow (by simp [onesN] at h; omega) (by decide)
    simp [onesN]; omega
theorem mvd_of {xx : Bool} {rd : Int} {a c v : Nat} (hv : v < 18446744073709551616) (ha : a < 65536) (h : a * 2 ^ (16 * c) = v) (b : Int) :
    mvdF ⟨4, xx, false, rd, 0, 0, 0, a, b, c⟩ = i64F (if b = 0 then v ^^^ onesN xx else v) := by
  have e1 : u64F (a : Int) = a := by unfold u64F; omega
  have e2 : (16 * (c : Int)).toNat = 16 * c := by omega
  unfold mvdF
  simp only [e1, e2, h, Nat.mod_eq_of_lt hv]

/-- what moves a number -/
theorem moved_law (rd : RegV) (v : Nat) (hv : v < 18446744073709551616) :
    (¬ (moveF rd v).2 = 0 → (moveF rd v).1 = ins0 0) ∧
    ((moveF rd v).2 = 0 → icheckF (moveF rd v).1 = 0 ∧ ((moveF rd v).1.op = 3 ∨ (moveF rd v).1.op = 4) ∧ (rd.sp = true → (moveF rd v).1.op = 3) ∧
      (rd.sp = false → (if (moveF rd v).1.op = 3 then logAF (moveF rd v).1 else movAF (moveF rd v).1) = some ((⟨#[109, 111, 118]⟩ : ByteArray), [{ op0 1 with r := rd }, oNum (i64F v)]))) := by
  obtain ⟨n, x, sp⟩ := rd
  by_cases h0 : ¬ (regNameF ⟨n, x, sp⟩).2 = 0 ∨ onesN x < v
  · have e : moveF ⟨n, x, sp⟩ v = (ins0 0, 1) := by unfold moveF; rw [if_pos h0]
    rw [e]
    exact ⟨fun _ => rfl, fun h => by cases h⟩
  have hreg : (regNameF ⟨n, x, sp⟩).2 = 0 := by
    rcases Decidable.em ((regNameF ⟨n, x, sp⟩).2 = 0) with h | h
    · exact h
    · exact absurd (.inl h) h0
  have hle : v ≤ onesN x := Nat.le_of_not_lt fun h => h0 (.inr h)
  obtain ⟨n0, n1, n2⟩ := regName_ok hreg
  simp only at n0 n1 n2
  cases h1 : (if sp then none else wideF v x) with
  | some y =>
    obtain ⟨a, c⟩ := y
    have e : moveF ⟨n, x, sp⟩ v = (⟨4, x, false, n, 0, 0, 0, a, 2, c⟩, 0) := by unfold moveF; rw [if_neg h0]; simp only [h1]
    have hsp : sp = false := by cases sp <;> simp at h1 ⊢
    subst hsp
    obtain ⟨w1, w2, w3, w4⟩ := wide_parts (show wideF v x = some (a, c) by simpa using h1)
    have hc : c ≤ 3 ∧ (x = true ∨ c ≤ 1) := by cases x <;> simp [wideN] at w1 ⊢ <;> omega
    rw [e]
    refine ⟨fun h => absurd rfl h, fun _ => ⟨icheck_mov ⟨n0, n1⟩ (by omega) (.inr rfl) (by omega) (hc.2.imp id (by omega)), .inr rfl, (fun h => by cases h), fun _ => ?_⟩⟩
    refine (if_neg (show ¬ ((4 : Int) = 3) by decide)).trans ?_
    unfold movAF
    rw [if_neg (by rintro (h | h | h) <;> simp at h; omega), mvd_of hv w2 w3, if_neg (by decide)]
    rfl
  | none =>
    cases h2 : (if sp then none else wideF (v ^^^ onesN x) x) with
    | some y =>
      obtain ⟨a, c⟩ := y
      have e : moveF ⟨n, x, sp⟩ v = (⟨4, x, false, n, 0, 0, 0, a, 0, c⟩, 0) := by unfold moveF; rw [if_neg h0]; simp only [h1, h2]
      have hsp : sp = false := by cases sp <;> simp at h2 ⊢
      subst hsp
      have hwn : wideF v x = none := by simpa using h1
      obtain ⟨w1, w2, w3, w4⟩ := wide_parts (show wideF (v ^^^ onesN x) x = some (a, c) by simpa using h2)
      have hc : c ≤ 3 ∧ (x = true ∨ c ≤ 1) := by cases x <;> simp [wideN] at w1 ⊢ <;> omega
      have hback : v ^^^ onesN x ^^^ onesN x = v := by rw [Nat.xor_assoc, Nat.xor_self, Nat.xor_zero]
      rw [e]
      refine ⟨fun h => absurd rfl h, fun _ => ⟨icheck_mov ⟨n0, n1⟩ (by omega) (.inl rfl) (by omega) (hc.2.imp id (by omega)), .inr rfl, (fun h => by cases h), fun _ => ?_⟩⟩
      refine (if_neg (show ¬ ((4 : Int) = 3) by decide)).trans ?_
      unfold movAF
      have hno : ¬ (x = false ∧ a = 65535) := by
        rintro ⟨rfl, rfl⟩
        have hc1 : c = 0 ∨ c = 1 := by simp [wideN] at w1; omega
        rw [← hback, ← w3] at hwn
        rcases hc1 with rfl | rfl
        · exact absurd hwn (by decide)
        · exact absurd hwn (by decide)
      rw [if_neg (by
        rintro (h | h | h)
        · simp at h
        · simp at h; omega
        · simp only [true_and] at h; exact hno ⟨h.1, by omega⟩), mvd_of (by have := xor_lt hle; have := ones_lt x; omega) w2 w3, if_pos rfl, hback]
      rfl
    | none =>
      by_cases h3 : (lFind v (wN x)).isSome = false ∨ (n = 31 ∧ sp = false)
      · have e : moveF ⟨n, x, sp⟩ v = (ins0 0, 70) := by unfold moveF; rw [if_neg h0]; simp only [h1, h2, h3, if_true]
        rw [e]
        exact ⟨fun _ => rfl, fun h => by cases h⟩
      · have e : moveF ⟨n, x, sp⟩ v = (⟨3, x, false, n, 31, 0, 0, i64F v, 1, 0⟩, 0) := by unfold moveF; rw [if_neg h0]; simp only [h1, h2, h3, if_false]
        have hs : (lFind v (wN x)).isSome = true := by
          cases hh : (lFind v (wN x)).isSome
          · exact absurd (.inl hh) h3
          · rfl
        have hi : -9223372036854775808 ≤ i64F v ∧ i64F v ≤ 9223372036854775807 := by unfold i64F; rw [IntKind.wrap_i64]; omega
        have hp : x = true ∨ 0 ≤ i64F v := by
          cases x
          · right
            simp [onesN] at hle
            unfold i64F; rw [IntKind.wrap_i64]; omega
          · exact .inl rfl
        rw [e]
        refine ⟨fun h => absurd rfl h, fun _ => ⟨icheck_log ⟨n0, n1⟩ hi (by rw [u64_i64 hv]; exact hs) hp, .inl rfl, fun _ => rfl, fun hsp => ?_⟩⟩
        have hsp : sp = false := hsp
        subst hsp
        have hn31 : ¬ n = 31 := fun h => h3 (.inr ⟨h, rfl⟩)
        refine (if_pos (show (3 : Int) = 3 from rfl)).trans ?_
        have hand : u64F (i64F v) &&& onesN x = v := by
          rw [u64_i64 hv]
          cases x
          · rw [show onesN false = 2 ^ 32 - 1 from rfl, Nat.and_two_pow_sub_one_eq_mod]; simp [onesN] at hle; omega
          · rw [show onesN true = 2 ^ 64 - 1 from rfl, Nat.and_two_pow_sub_one_eq_mod]; omega
        unfold logAF
        rw [if_neg (by rintro ⟨h, _⟩; simp at h), if_pos ⟨rfl, rfl⟩]
        simp only [hand, e]
        rw [if_neg (by rintro ⟨_, h⟩; simp at h)]
        have hb : (n == 31) = false := by simpa using hn31
        simp [dsO, oSP, numO', hb]

end Go.Proofs.YtpjlafmhoifkmaaGreat
