/- Splitting a text at a byte. No program in sight. -/
import Derived.Test.YtkjkogmnijfanaaDoorA0
import Derived.Lib.Bytealg
set_option linter.unusedVariables false
set_option linter.unusedSimpArgs false
namespace Go.Proofs.YtkjkogmnijfanaaDoor
open Go.RowKit

def splitU (c : UInt8) : List UInt8 → List (List UInt8)
  | [] => [[]]
  | x :: r => if x == c then [] :: splitU c r else match splitU c r with
    | [] => [[x]]
    | p :: ps => (x :: p) :: ps

theorem splitU_len (c : UInt8) : ∀ l : List UInt8, (splitU c l).length = l.count c + 1
  | [] => rfl
  | x :: r => by
    have ih := splitU_len c r
    rw [splitU, List.count_cons]
    split
    · rw [List.length_cons, ih]
    · split
      · rename_i h; rw [h] at ih; simp at ih
      · rename_i p ps h
        rw [h] at ih
        simpa using ih

theorem splitU_one {c : UInt8} : ∀ {l : List UInt8}, l.count c = 0 → splitU c l = [l]
  | [], _ => rfl
  | x :: r, h => by
    rw [List.count_cons] at h
    have hx : ¬ (x == c) = true := by intro e; rw [if_pos e] at h; omega
    rw [if_neg hx] at h
    rw [splitU, if_neg hx, splitU_one (l := r) (by omega)]

theorem splitU_cut {c : UInt8} : ∀ {l : List UInt8}, 0 < l.count c → ∃ m : Nat, Lib.indexByte l c = m ∧ m < l.length ∧ splitU c l = l.take m :: splitU c (l.drop (m + 1)) ∧ (l.drop (m + 1)).count c + 1 = l.count c
  | [], h => by simp at h
  | x :: r, h => by
    by_cases hx : (x == c) = true
    · refine ⟨0, by simp [Lib.indexByte, hx], by simp, ?_, ?_⟩
      · rw [splitU, if_pos hx]; rfl
      · rw [List.count_cons, if_pos hx]; rfl
    · rw [List.count_cons, if_neg hx] at h
      obtain ⟨m, h1, h2, h3, h4⟩ := splitU_cut (l := r) (by omega)
      refine ⟨m + 1, ?_, by simpa using h2, ?_, ?_⟩
      · have hm : ¬ ((m : Int) == -1) = true := by
          rw [beq_iff_eq]
          omega
        rw [Lib.indexByte, if_neg hx, h1, if_neg hm]
        omega
      · rw [splitU, if_neg hx, h3]
        rfl
      · rw [List.count_cons, if_neg hx]
        simpa using h4

def hdU (p : ByteArray) : UInt8 := p.data.toList.headD 0
/-- the parts of a text between those bytes -/
def splitF (s p : ByteArray) : List ByteArray := (splitU (hdU p) s.data.toList).map fun l => ⟨l.toArray⟩

theorem splitF_len (s p : ByteArray) : (splitF s p).length = s.data.toList.count (hdU p) + 1 := by
  unfold splitF
  rw [List.length_map, splitU_len]
theorem count_le (s p : ByteArray) : s.data.toList.count (hdU p) ≤ s.size := by
  have := List.count_le_length (a := hdU p) (l := s.data.toList)
  simpa using this
theorem splitF_pos (s p : ByteArray) : 0 < (splitF s p).length := by rw [splitF_len]; omega

theorem splitF_one {s p : ByteArray} (h : (splitF s p).length = 1) : splitF s p = [s] := by
  rw [splitF_len] at h
  unfold splitF
  rw [splitU_one (by omega)]
  rfl
theorem splitF_cut {s p : ByteArray} (h : 1 < (splitF s p).length) : ∃ m : Nat, Lib.indexByte s.data.toList (hdU p) = m ∧ m < s.size ∧ splitF s p = s.extract 0 m :: splitF (s.extract (m + 1) s.size) p := by
  rw [splitF_len] at h
  obtain ⟨m, h1, h2, h3, _⟩ := splitU_cut (l := s.data.toList) (c := hdU p) (by omega)
  refine ⟨m, h1, by simpa using h2, ?_⟩
  unfold splitF
  rw [h3, List.map_cons]
  congr 1
  · apply ByteArray.ext
    rw [← Array.toList_inj, ByteArray.data_extract, Array.toList_extract]
    simp
  · congr 2
    rw [ByteArray.data_extract, Array.toList_extract]
    rw [List.extract_eq_take_drop, List.take_of_length_le]
    simp

end Go.Proofs.YtkjkogmnijfanaaDoor
