/- Logical immediates, plainly: the program's search and the document's one agree. No program in sight. -/
import Derived.Laws.BitsLemmas
set_option linter.unusedVariables false
set_option linter.unusedSimpArgs false
namespace Go.Proofs.YtpjlafmhoifkmaaGreat

/-! ### Numbers of 64 bits -/
theorem wrapU (n : Int) : IntKind.u64.wrap n = n % 18446744073709551616 := by simp [IntKind.wrap, IntKind.bits, IntKind.signed]
theorem u64_small (n : Int) (h0 : 0 ≤ n) (h1 : n < 2 ^ 64) : IntKind.u64.wrap n = n := by rw [wrapU]; omega
theorem u64_nat (a : Nat) : IntKind.u64.wrap (a : Int) = ((a % 18446744073709551616 : Nat) : Int) := by rw [wrapU]; omega
theorem u64_shl (a n : Nat) : IntKind.u64.wrap ((a : Int) * 2 ^ n) = ((a * 2 ^ n % 18446744073709551616 : Nat) : Int) := by
  have h := u64_nat (a * 2 ^ n)
  rw [← h]
  simp
theorem u64_shr (a n : Nat) : Int.fdiv (a : Int) (2 ^ n) = ((a / 2 ^ n : Nat) : Int) := by
  rw [Int.fdiv_eq_ediv_of_nonneg _ (Int.pow_nonneg (by decide))]
  simp
theorem u64_bits (a b : Nat) (ha : a < 2 ^ 64) (hb : b < 2 ^ 64) : bits .and .u64 a b = ((a &&& b : Nat) : Int) ∧ bits .or .u64 a b = ((a ||| b : Nat) : Int) ∧ bits .xor .u64 a b = ((a ^^^ b : Nat) : Int) := by
  have h := bits_nat .u64 64 (by decide) (fun n h0 h1 => u64_small n h0 h1) a b ha hb
  refine ⟨h.1, h.2, ?_⟩
  have ha' : a % 2 ^ IntKind.u64.bits = a := Nat.mod_eq_of_lt ha
  have hb' : b % 2 ^ IntKind.u64.bits = b := Nat.mod_eq_of_lt hb
  simp only [bits, BitVec.ofInt_natCast, BitVec.toNat_xor, BitVec.toNat_ofNat, ha', hb']
  refine u64_small _ (Int.natCast_nonneg _) ?_
  have := Nat.xor_lt_two_pow ha hb
  exact_mod_cast this

/-! ### The program's search -/
def lMask (size : Nat) : Nat := 18446744073709551615 / 2 ^ (64 - size)
def lElem (size ones turn : Nat) : Nat :=
  let e := ((2 ^ ones - 1) / 2 ^ turn) ||| ((2 ^ ones - 1) * 2 ^ (size - turn) % 18446744073709551616)
  if size < 64 then e &&& (2 ^ size - 1) else e
/-- an element again and again -/
def lRep (e size w : Nat) : Nat → Nat → Nat → Nat
  | 0, _, v => v
  | f + 1, at_, v => if at_ < w then lRep e size w f (at_ + size) (v ||| (e * 2 ^ at_ % 18446744073709551616)) else v
def lVal (size ones turn w : Nat) : Nat := lRep (lElem size ones turn) size w 64 0 0
/-- is it an element again and again? -/
def lPer (v size w : Nat) : Nat → Nat → Bool
  | 0, _ => true
  | f + 1, at_ => if at_ < w then (v / 2 ^ at_ &&& lMask size) == (v &&& lMask size) && lPer v size w f (at_ + size) else true
/-- how many ones: the library's parallel sum -/
def pop (x : Nat) : Nat :=
  let a := ((x / 2 &&& 6148914691236517205) + (x &&& 6148914691236517205)) % 18446744073709551616
  let b := ((a / 4 &&& 3689348814741910323) + (a &&& 3689348814741910323)) % 18446744073709551616
  let c := (b / 16 + b) % 18446744073709551616 &&& 1085102592571150095
  let d := (c + c / 256) % 18446744073709551616
  let e := (d + d / 65536) % 18446744073709551616
  let f := (e + e / 4294967296) % 18446744073709551616
  f &&& 127
def lTurn (v size ones w : Nat) : Nat → Nat → Option Nat
  | 0, _ => none
  | f + 1, t => if t < size then (if (1 ≤ ones ∧ ones < size) ∧ lVal size ones t w = v then some t else lTurn v size ones w f (t + 1)) else none
def lSizes : Nat → List Nat
  | 32 => [2, 4, 8, 16, 32]
  | _ => [2, 4, 8, 16, 32, 64]
def lFirst (v w : Nat) : Option Nat := (lSizes w).find? fun size => lPer v size w 64 size
def lFind (v w : Nat) : Option (Nat × Nat × Nat) :=
  if w = 32 ∧ 4294967296 ≤ v then none else
  match lFirst v w with
  | none => none
  | some size => (lTurn v size (pop (v &&& lMask size)) w 64 0).map fun t => (size, pop (v &&& lMask size), t)

/-! ### The document's -/
def rVal (size ones turn w : Nat) : Nat := (List.range w).foldl (fun v i => if (i % size + turn) % size < ones then v ||| 2 ^ i else v) 0
def rPop (v size : Nat) : Nat := (List.range size).foldl (fun s i => s + v / 2 ^ i % 2) 0
def rTurn (v size ones w : Nat) : Nat → Nat → Option Nat
  | 0, _ => none
  | f + 1, t => if t < size then (if rVal size ones t w = v then some t else rTurn v size ones w f (t + 1)) else none
def rFindL (v w : Nat) : List Nat → Option (Nat × Nat × Nat)
  | [] => none
  | size :: l => if 1 ≤ rPop v size ∧ rPop v size < size then
      (match rTurn v size (rPop v size) w 64 0 with | some t => some (size, rPop v size, t) | none => rFindL v w l)
    else rFindL v w l
def rFind (v w : Nat) : Option (Nat × Nat × Nat) := rFindL v w (lSizes w)

/-! ### Each pattern, once -/
def patOk (w size ones turn : Nat) : Bool :=
  let v := lVal size ones turn w
  rVal size ones turn w == v && lFirst v w == some size && pop (v &&& lMask size) == ones && rPop v size == ones && (w != 32 || decide (v < 4294967296))
def sizeOk (w size : Nat) : Bool := (List.range size).all fun ones => ones == 0 || (List.range size).all fun turn => patOk w size ones turn
theorem pat32_2 : sizeOk 32 2 = true := by decide +kernel
theorem pat32_4 : sizeOk 32 4 = true := by decide +kernel
theorem pat32_8 : sizeOk 32 8 = true := by decide +kernel
theorem pat32_16 : sizeOk 32 16 = true := by decide +kernel
theorem pat32_32 : sizeOk 32 32 = true := by decide +kernel
theorem pat64_2 : sizeOk 64 2 = true := by decide +kernel
theorem pat64_4 : sizeOk 64 4 = true := by decide +kernel
theorem pat64_8 : sizeOk 64 8 = true := by decide +kernel
theorem pat64_16 : sizeOk 64 16 = true := by decide +kernel
theorem pat64_32 : sizeOk 64 32 = true := by decide +kernel
def sizePart (w size lo n : Nat) : Bool := (List.range n).all fun k => lo + k == 0 || (List.range size).all fun turn => patOk w size (lo + k) turn
theorem pat64_a : sizePart 64 64 0 16 = true := by decide +kernel
theorem pat64_b : sizePart 64 64 16 16 = true := by decide +kernel
theorem pat64_c : sizePart 64 64 32 16 = true := by decide +kernel
theorem pat64_d : sizePart 64 64 48 16 = true := by decide +kernel

theorem sizeOk_at {w size ones turn : Nat} (h : sizeOk w size = true) (h0 : 1 ≤ ones) (h1 : ones < size) (h2 : turn < size) : patOk w size ones turn = true := by
  have := List.all_eq_true.1 h ones (List.mem_range.2 h1)
  rw [Bool.or_eq_true] at this
  rcases this with h | h
  · have : ones = 0 := by simpa using h
    omega
  · exact List.all_eq_true.1 h turn (List.mem_range.2 h2)
theorem sizePart_at {w size lo n ones turn : Nat} (h : sizePart w size lo n = true) (h0 : 1 ≤ ones) (h1 : lo ≤ ones) (h3 : ones < lo + n) (h2 : turn < size) : patOk w size ones turn = true := by
  have := List.all_eq_true.1 h (ones - lo) (List.mem_range.2 (by omega))
  rw [show lo + (ones - lo) = ones by omega, Bool.or_eq_true] at this
  rcases this with h | h
  · have : ones = 0 := by simpa using h
    omega
  · exact List.all_eq_true.1 h turn (List.mem_range.2 h2)
theorem pat_ok {w size ones turn : Nat} (hw : w = 32 ∨ w = 64) (hs : size ∈ lSizes w) (h0 : 1 ≤ ones) (h1 : ones < size) (h2 : turn < size) : patOk w size ones turn = true := by
  rcases hw with rfl | rfl
  · simp only [lSizes, List.mem_cons, List.not_mem_nil, or_false] at hs
    rcases hs with rfl | rfl | rfl | rfl | rfl
    · exact sizeOk_at pat32_2 h0 h1 h2
    · exact sizeOk_at pat32_4 h0 h1 h2
    · exact sizeOk_at pat32_8 h0 h1 h2
    · exact sizeOk_at pat32_16 h0 h1 h2
    · exact sizeOk_at pat32_32 h0 h1 h2
  · simp only [lSizes, List.mem_cons, List.not_mem_nil, or_false] at hs
    rcases hs with rfl | rfl | rfl | rfl | rfl | rfl
    · exact sizeOk_at pat64_2 h0 h1 h2
    · exact sizeOk_at pat64_4 h0 h1 h2
    · exact sizeOk_at pat64_8 h0 h1 h2
    · exact sizeOk_at pat64_16 h0 h1 h2
    · exact sizeOk_at pat64_32 h0 h1 h2
    · by_cases a : ones < 16
      · exact sizePart_at pat64_a h0 (by omega) (by omega) h2
      by_cases b : ones < 32
      · exact sizePart_at pat64_b h0 (by omega) (by omega) h2
      by_cases c : ones < 48
      · exact sizePart_at pat64_c h0 (by omega) (by omega) h2
      · exact sizePart_at pat64_d h0 (by omega) (by omega) h2

/-! ### The searches -/
theorem lTurn_some {v size ones w : Nat} : ∀ {f t r : Nat}, lTurn v size ones w f t = some r → r < size ∧ (1 ≤ ones ∧ ones < size) ∧ lVal size ones r w = v
  | 0, _, _, h => by cases h
  | f + 1, t, r, h => by
    rw [lTurn] at h
    split at h
    case isFalse => cases h
    rename_i ht
    split at h
    · rename_i hc
      injection h with h
      subst h
      exact ⟨ht, hc.1, hc.2⟩
    · exact lTurn_some h
theorem lTurn_is {v size ones w r : Nat} (hr : r < size) (hc : (1 ≤ ones ∧ ones < size) ∧ lVal size ones r w = v) : ∀ {f t : Nat}, t ≤ r → r < t + f → (lTurn v size ones w f t).isSome = true
  | 0, _, h, h' => by omega
  | f + 1, t, h, h' => by
    rw [lTurn, if_pos (by omega)]
    split
    · rfl
    · rename_i hn
      have : t ≠ r := fun e => hn (e ▸ hc)
      exact lTurn_is hr hc (by omega) (by omega)
theorem rTurn_some {v size ones w : Nat} : ∀ {f t r : Nat}, rTurn v size ones w f t = some r → r < size ∧ rVal size ones r w = v
  | 0, _, _, h => by cases h
  | f + 1, t, r, h => by
    rw [rTurn] at h
    split at h
    case isFalse => cases h
    rename_i ht
    split at h
    · rename_i hc
      injection h with h
      subst h
      exact ⟨ht, hc⟩
    · exact rTurn_some h
theorem rTurn_is {v size ones w r : Nat} (hr : r < size) (hc : rVal size ones r w = v) : ∀ {f t : Nat}, t ≤ r → r < t + f → (rTurn v size ones w f t).isSome = true
  | 0, _, h, h' => by omega
  | f + 1, t, h, h' => by
    rw [rTurn, if_pos (by omega)]
    split
    · rfl
    · rename_i hn
      have : t ≠ r := fun e => hn (e ▸ hc)
      exact rTurn_is hr hc (by omega) (by omega)
theorem rFindL_some {v w : Nat} : ∀ {l : List Nat} {x : Nat × Nat × Nat}, rFindL v w l = some x → x.1 ∈ l ∧ (1 ≤ x.2.1 ∧ x.2.1 < x.1) ∧ x.2.2 < x.1 ∧ rVal x.1 x.2.1 x.2.2 w = v
  | [], _, h => by cases h
  | size :: l, x, h => by
    rw [rFindL] at h
    split at h
    · rename_i hp
      split at h
      · rename_i t ht
        injection h with h
        subst h
        have := rTurn_some ht
        exact ⟨List.mem_cons_self, hp, this.1, this.2⟩
      · have := rFindL_some h
        exact ⟨List.mem_cons_of_mem _ this.1, this.2⟩
    · have := rFindL_some h
      exact ⟨List.mem_cons_of_mem _ this.1, this.2⟩
theorem rFindL_is {v w size t : Nat} (hp : 1 ≤ rPop v size ∧ rPop v size < size) (ht : t < size) (h64 : size ≤ 64) (hv : rVal size (rPop v size) t w = v) : ∀ {l : List Nat}, size ∈ l → (rFindL v w l).isSome = true
  | [], h => by cases h
  | s :: l, h => by
    rw [rFindL]
    by_cases e : s = size
    · subst e
      rw [if_pos hp]
      have := rTurn_is (f := 64) (t := 0) ht hv (by omega) (by omega)
      cases hr : rTurn v s (rPop v s) w 64 0 with
      | none => rw [hr] at this; cases this
      | some t => rfl
    · have hm : size ∈ l := by
        cases h with
        | head => exact absurd rfl e
        | tail _ h => exact h
      have ih := rFindL_is hp ht h64 hv hm
      split
      · split
        · rfl
        · exact ih
      · exact ih

theorem lSizes_le {w size : Nat} (h : size ∈ lSizes w) : size ≤ 64 := by
  unfold lSizes at h
  split at h <;> simp only [List.mem_cons, List.not_mem_nil, or_false] at h <;> omega

/-- the program finds a pattern just if the document does -/
theorem find_same {v w : Nat} (hw : w = 32 ∨ w = 64) : (lFind v w).isSome = (rFind v w).isSome := by
  rw [Bool.eq_iff_iff]
  constructor
  · intro h
    unfold lFind at h
    split at h
    · cases h
    split at h
    · cases h
    rename_i size hs
    rw [Option.isSome_map] at h
    obtain ⟨t, ht⟩ := Option.isSome_iff_exists.1 h
    obtain ⟨h1, h2, h3⟩ := lTurn_some ht
    have hm : size ∈ lSizes w := List.mem_of_find?_eq_some hs
    have hp := pat_ok hw hm h2.1 h2.2 h1
    simp only [patOk, h3, Bool.and_eq_true, beq_iff_eq] at hp
    obtain ⟨⟨⟨⟨g1, g2⟩, g3⟩, g4⟩, g5⟩ := hp
    exact rFindL_is (t := t) (by rw [g4]; exact h2) h1 (lSizes_le hm) (by rw [g4]; exact g1) hm
  · intro h
    obtain ⟨x, hx⟩ := Option.isSome_iff_exists.1 h
    obtain ⟨hm, h2, h1, h3⟩ := rFindL_some hx
    have hp := pat_ok hw hm h2.1 h2.2 h1
    have hv : lVal x.1 x.2.1 x.2.2 w = v := by
      simp only [patOk, Bool.and_eq_true, beq_iff_eq] at hp
      rw [← h3, hp.1.1.1.1]
    simp only [patOk, hv, Bool.and_eq_true, beq_iff_eq] at hp
    obtain ⟨⟨⟨⟨g1, g2⟩, g3⟩, g4⟩, g5⟩ := hp
    unfold lFind
    rw [if_neg (by rintro ⟨rfl, hc⟩; simp at g5; omega), g2]
    simp only [g3, Option.isSome_map]
    exact lTurn_is (f := 64) (t := 0) h1 ⟨h2, hv⟩ (by omega) (by have := lSizes_le hm; omega)

end Go.Proofs.YtpjlafmhoifkmaaGreat
