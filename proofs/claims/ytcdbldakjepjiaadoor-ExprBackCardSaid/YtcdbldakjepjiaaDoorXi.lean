/- Plain Lean: a number in hexadecimal digits; no program in sight. -/
import Derived.Test.YtcdbldakjepjiaaDoorXa
import Derived.Test.YtcdbldakjepjiaaDoorA0
/-! ## Plain10 -/
set_option linter.unusedVariables false
set_option linter.unusedSimpArgs false
namespace Go.Proofs.YtcdbldakjepjiaaDoor.Ex
open Go.RowKit

def hexes : ByteArray := ⟨#[48, 49, 50, 51, 52, 53, 54, 55, 56, 57, 97, 98, 99, 100, 101, 102]⟩

def hexD (u : Int) (i : Nat) : Int := byteAt hexes (u / 16 ^ i % 16)
def hexL (u : Int) : Nat → List Int
  | 0 => []
  | k + 1 => hexD u k :: hexL u k

/-- a number as an expression's text has it -/
def numS (n : Int) : ByteArray := if 0 ≤ n then decS n.toNat else ofBytes (48 :: 120 :: hexL (IntKind.u64.wrap n) 16)

theorem hexL_length (u : Int) : ∀ k, (hexL u k).length = k
  | 0 => rfl
  | k + 1 => by simp [hexL, hexL_length u k]

theorem and15 (x : Int) (h0 : 0 ≤ x) (h1 : x < 18446744073709551616) : bits .and .u64 x 15 = x % 16 := by
  obtain ⟨n, rfl⟩ := Int.eq_ofNat_of_zero_le h0
  have hn : n < 2 ^ 64 := by omega
  have e : (BitVec.ofInt 64 (n : Int) &&& BitVec.ofInt 64 15).toNat = n % 16 := by
    rw [BitVec.toNat_and, BitVec.toNat_ofInt, BitVec.toNat_ofInt]
    have : ((n : Int) % ((2 ^ 64 : Nat) : Int)).toNat = n := by omega
    rw [this]
    have h15 : ((15 : Int) % ((2 ^ 64 : Nat) : Int)).toNat = 2 ^ 4 - 1 := by decide
    rw [h15, Nat.and_two_pow_sub_one_eq_mod]
  show IntKind.u64.wrap ((BitVec.ofInt 64 (n : Int) &&& BitVec.ofInt 64 15).toNat : Int) = _
  rw [e, IntKind.wrap_u64]
  omega

theorem shr_u64 (u : Int) (i : Nat) (h0 : 0 ≤ u) (hi : i < 16) : Int.fdiv u (2 ^ min ((4 * i : Nat) : Int).toNat 64) = u / 16 ^ i := by
  have e : min ((4 * i : Nat) : Int).toNat 64 = 4 * i := by omega
  rw [e, Int.fdiv_eq_ediv_of_nonneg _ (Int.le_of_lt (Int.pow_pos (by decide)))]
  congr 1
  rw [Int.pow_mul]
  rfl

theorem div_lt (u : Int) (i : Nat) (h0 : 0 ≤ u) (h1 : u < 18446744073709551616) : 0 ≤ u / 16 ^ i ∧ u / 16 ^ i < 18446744073709551616 := by
  refine ⟨Int.ediv_nonneg h0 (Int.le_of_lt (Int.pow_pos (by decide))), ?_⟩
  have := Int.ediv_le_self (16 ^ i : Int) h0
  omega

theorem byteAt_hexes (z : Int) (h0 : 0 ≤ z) (h1 : z < 16) : hexes.extract z.toNat (z + 1).toNat = ofBytes [byteAt hexes z] := by
  have h : z = 0 ∨ z = 1 ∨ z = 2 ∨ z = 3 ∨ z = 4 ∨ z = 5 ∨ z = 6 ∨ z = 7 ∨ z = 8 ∨ z = 9 ∨ z = 10 ∨ z = 11 ∨ z = 12 ∨ z = 13 ∨ z = 14 ∨ z = 15 := by omega
  rcases h with rfl | rfl | rfl | rfl | rfl | rfl | rfl | rfl | rfl | rfl | rfl | rfl | rfl | rfl | rfl | rfl <;> rfl

theorem byteAt_range (s : ByteArray) (z : Int) : 0 ≤ byteAt s z ∧ byteAt s z ≤ 255 := by
  unfold byteAt
  have := (s.data.toList.getD z.toNat 0).toNat_lt
  omega

theorem ofBytes_append (a b : List Int) : ofBytes a ++ ofBytes b = ofBytes (a ++ b) := by
  apply ByteArray.ext
  simp [ofBytes, ByteArray.data_append]

theorem numS_size (n : Int) : (numS n).size ≤ 20 := by
  unfold numS
  split
  · exact decS_size _
  · have : (ofBytes (48 :: 120 :: hexL (IntKind.u64.wrap n) 16)).size = 18 := by
      show (ofBytes (48 :: 120 :: hexL (IntKind.u64.wrap n) 16)).data.size = 18
      simp [ofBytes, hexL_length]
    omega

end Go.Proofs.YtcdbldakjepjiaaDoor.Ex
