/- Plain Lean: an expression's text; no program in sight. -/
import Derived.Test.YthhlghoeapjagaaPlain2
import Derived.Test.YthhlghoeapjagaaPlain3
set_option linter.unusedVariables false
set_option linter.unusedSimpArgs false
namespace Go.Proofs.Ythhlghoeapjagaa
open Go.RowKit

def signF (k : Int) : ByteArray :=
  if k = 3 then ⟨#[45]⟩ else if k = 4 then ⟨#[126]⟩ else if k = 5 then ⟨#[42]⟩ else if k = 6 then ⟨#[47]⟩ else if k = 7 then ⟨#[37]⟩ else if k = 8 then ⟨#[43]⟩ else if k = 9 then ⟨#[45]⟩
  else if k = 10 then ⟨#[60, 60]⟩ else if k = 11 then ⟨#[62, 62]⟩ else if k = 12 then ⟨#[38]⟩ else if k = 13 then ⟨#[94]⟩ else ⟨#[124]⟩

theorem signF_size (k : Int) : (signF k).size ≤ 2 := by
  unfold signF
  repeat' split
  all_goals decide

/-- a part of a text, and how many parentheses it has within each other -/
structure Pc where
  s : ByteArray
  d : Int

def par (l m r : ByteArray) : ByteArray := ((⟨#[40]⟩ ++ l ++ m) ++ r) ++ ⟨#[41]⟩

def leafF (num : Int → ByteArray) (t : Term) : Pc := ⟨if t.kind = 1 then num t.n else t.sym, 0⟩
def unF (k : Int) (x : Pc) : Pc := ⟨(⟨#[40]⟩ ++ signF k) ++ x.s ++ ⟨#[41]⟩, x.d + 1⟩
def biF (k : Int) (x y : Pc) : Pc := ⟨((⟨#[40]⟩ ++ x.s) ++ signF k) ++ y.s ++ ⟨#[41]⟩, max x.d y.d + 1⟩

def zeroP : Pc := ⟨emp, 0⟩

def stepP (num : Int → ByteArray) (st : List Pc) (t : Term) : List Pc :=
  if takesF t.kind = 0 then st ++ [leafF num t]
  else if takesF t.kind = 1 then st.take (st.length - 1) ++ [unF t.kind (st.getD (st.length - 1) zeroP)]
  else st.take (st.length - 2) ++ [biF t.kind (st.getD (st.length - 2) zeroP) (st.getD (st.length - 1) zeroP)]

def textF (num : Int → ByteArray) (st : List Pc) : List Term → List Pc
  | [] => st
  | t :: r => textF num (stepP num st t) r

def textAll (num : Int → ByteArray) (l : List Term) : ByteArray × Int :=
  if checkF l = 0 then (if 64 < ((textF num [] l).getD 0 zeroP).d then (emp, 93) else (((textF num [] l).getD 0 zeroP).s, 0)) else (emp, checkF l)

/-- how much room the parts take -/
def room (st : List Pc) : Nat := (st.map fun x => x.s.size).sum

/-- what is so after k terms -/
structure Fine (k : Nat) (st : List Pc) : Prop where
  len : st.length ≤ k
  room : room st ≤ 1000 * k
  dep : ∀ x ∈ st, 0 ≤ x.d ∧ x.d ≤ k

theorem room_append (a b : List Pc) : room (a ++ b) = room a + room b := by simp [room]
theorem room_take_drop (a : List Pc) (n : Nat) : room (a.take n) + room (a.drop n) = room a := by rw [← room_append, List.take_append_drop]

theorem Fine.last {k : Nat} {us : List Pc} {y : Pc} (h : Fine k (us ++ [y])) : y.s.size ≤ 1000 * k ∧ 0 ≤ y.d ∧ y.d ≤ k := by
  have h1 := h.room
  rw [room_append] at h1
  simp [Go.Proofs.Ythhlghoeapjagaa.room] at h1
  exact ⟨by omega, h.dep y (by simp)⟩

theorem Fine.leaf {k : Nat} {st : List Pc} (h : Fine k st) {s : ByteArray} (hs : s.size ≤ 600) : Fine (k + 1) (st ++ [⟨s, 0⟩]) := by
  obtain ⟨h1, h2, h3⟩ := h
  refine ⟨by simp; omega, ?_, ?_⟩
  · rw [room_append]; simp only [Go.Proofs.Ythhlghoeapjagaa.room, List.map_cons, List.map_nil, List.sum_cons, List.sum_nil] at h2 ⊢; omega
  · intro x hx
    rcases List.mem_append.1 hx with hx | hx
    · have := h3 x hx; omega
    · rw [List.mem_singleton.1 hx]; simp; omega

theorem Fine.un {k : Nat} {us : List Pc} {y : Pc} (h : Fine k (us ++ [y])) (q : Int) : Fine (k + 1) (us ++ [unF q y]) := by
  obtain ⟨h1, h2, h3⟩ := h
  have hy := h3 y (by simp)
  have hq := signF_size q
  refine ⟨by simp at h1 ⊢; omega, ?_, ?_⟩
  · rw [room_append] at h2 ⊢
    simp only [Go.Proofs.Ythhlghoeapjagaa.room, List.map_cons, List.map_nil, List.sum_cons, List.sum_nil] at h2 ⊢
    have : (unF q y).s.size ≤ y.s.size + 4 := by
      simp only [unF, ByteArray.size_append]
      have e1 : (⟨#[40]⟩ : ByteArray).size = 1 := rfl
      have e2 : (⟨#[41]⟩ : ByteArray).size = 1 := rfl
      omega
    omega
  · intro x hx
    rcases List.mem_append.1 hx with hx | hx
    · have := h3 x (by simp [hx]); omega
    · rw [List.mem_singleton.1 hx]; simp only [unF]; omega

theorem Fine.bi {k : Nat} {us : List Pc} {x y : Pc} (h : Fine k (us ++ [x, y])) (q : Int) : Fine (k + 1) (us ++ [biF q x y]) := by
  obtain ⟨h1, h2, h3⟩ := h
  have hx' := h3 x (by simp)
  have hy := h3 y (by simp)
  have hq := signF_size q
  refine ⟨by simp at h1 ⊢; omega, ?_, ?_⟩
  · rw [room_append] at h2 ⊢
    simp only [Go.Proofs.Ythhlghoeapjagaa.room, List.map_cons, List.map_nil, List.sum_cons, List.sum_nil] at h2 ⊢
    have : (biF q x y).s.size ≤ x.s.size + y.s.size + 4 := by
      simp only [biF, ByteArray.size_append]
      have e1 : (⟨#[40]⟩ : ByteArray).size = 1 := rfl
      have e2 : (⟨#[41]⟩ : ByteArray).size = 1 := rfl
      omega
    omega
  · intro z hz
    rcases List.mem_append.1 hz with hz | hz
    · have := h3 z (by simp [hz]); omega
    · rw [List.mem_singleton.1 hz]; simp only [biF]; omega

end Go.Proofs.Ythhlghoeapjagaa
