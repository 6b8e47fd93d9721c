/- Plain Lean twins of the functions of package expr; no program in sight. -/
import Derived.WalkKit
set_option linter.unusedVariables false
set_option linter.unusedSimpArgs false
namespace Go.Proofs.YtpdjaabjfhjppaaGreatDoor
open Go.RowKit

/-- An expression's value. -/
structure Val where
  add : Int
  plus : ByteArray
  minus : ByteArray

def Val.v (x : Val) : Value := .agg #[.int .i64 x.add, .string x.plus, .string x.minus]

def emp : ByteArray := ⟨#[]⟩

theorem ba_ext {a b : ByteArray} (h : a.toList = b.toList) : a = b := by
  rw [ByteArray.toList_eq, ByteArray.toList_eq] at h
  exact ByteArray.ext (Array.ext' h)

theorem ba_iff {a b : ByteArray} : a.toList = b.toList ↔ a = b := ⟨ba_ext, fun h => by rw [h]⟩

theorem ba_emp {a : ByteArray} : a.toList = [] ↔ a = emp := by
  rw [← ba_iff, show emp.toList = [] from by simp [emp]]

def clearF (x : Val) : Val := if x.plus = x.minus then ⟨x.add, emp, emp⟩ else x

theorem clearF_size {x r : Val} (h : clearF x = r) {k : Nat} (hp : x.plus.size ≤ k) (hm : x.minus.size ≤ k) : r.plus.size ≤ k ∧ r.minus.size ≤ k := by
  subst h
  unfold clearF
  split
  · simp [emp, ByteArray.size]
  · exact ⟨hp, hm⟩

def oneF (a b : ByteArray) : ByteArray × Bool := if a = emp then (b, true) else (a, decide (b = emp))

def negF (x : Val) : Val := ⟨wrap64 (-x.add), x.minus, x.plus⟩

def zeroV : Val := ⟨0, emp, emp⟩

def meetF (s t : ByteArray) : ByteArray × ByteArray := if s = t then (emp, emp) else (s, t)

theorem meetF_size {s t a b : ByteArray} (h : meetF s t = (a, b)) {k : Nat} (hs : s.size ≤ k) (ht : t.size ≤ k) : a.size ≤ k ∧ b.size ≤ k := by
  unfold meetF at h
  split at h <;> injection h with h1 h2 <;> subst h1 <;> subst h2
  · simp [emp, ByteArray.size]
  · exact ⟨hs, ht⟩

/-- two values together -/
def addF (a b : Val) : Val × Int :=
  let a := clearF a
  let b := clearF b
  let x := meetF a.plus b.minus
  let y := meetF a.minus b.plus
  if (x.1 ≠ emp ∧ y.2 ≠ emp) ∨ (y.1 ≠ emp ∧ x.2 ≠ emp) then (zeroV, 91) else (⟨wrap64 (a.add + b.add), x.1 ++ y.2, y.1 ++ x.2⟩, 0)

section
variable {a b r1 r2 : Val} {p1 p2 m1 m2 : ByteArray}
theorem addF_ok (hr1 : clearF a = r1) (hr2 : clearF b = r2) (h1 : meetF r1.plus r2.minus = (p1, m2)) (h2 : meetF r1.minus r2.plus = (m1, p2)) (hp : p1.toList = [] ∨ p2.toList = []) (hm : m1.toList = [] ∨ m2.toList = []) :
    addF a b = (⟨wrap64 (r1.add + r2.add), p1 ++ p2, m1 ++ m2⟩, 0) := by
  simp only [ba_emp] at hp hm
  simp only [addF, hr1, hr2, h1, h2]
  rw [if_neg]
  rintro (⟨h, k⟩ | ⟨h, k⟩)
  · rcases hp with e | e
    · exact h e
    · exact k e
  · rcases hm with e | e
    · exact h e
    · exact k e
theorem addF_bad (hr1 : clearF a = r1) (hr2 : clearF b = r2) (h1 : meetF r1.plus r2.minus = (p1, m2)) (h2 : meetF r1.minus r2.plus = (m1, p2)) (h : (¬ p1.toList = [] ∧ ¬ p2.toList = []) ∨ (¬ m1.toList = [] ∧ ¬ m2.toList = [])) :
    addF a b = (⟨0, ⟨#[]⟩, ⟨#[]⟩⟩, 91) := by
  simp only [ba_emp] at h
  simp only [addF, hr1, hr2, h1, h2]
  rw [if_pos h]
  rfl
end

/-! Bytes and names -/
def letterB (n : Int) : Bool := decide (97 ≤ n ∧ n ≤ 122 ∨ 65 ≤ n ∧ n ≤ 90 ∨ n = 95 ∨ n = 46 ∨ n = 36)
def digitB (n : Int) : Bool := decide (48 ≤ n ∧ n ≤ 57)
def wordyB (n : Int) : Bool := letterB n || digitB n

theorem ret_bool {a b : Bool} (h : a = b) : Ending.returned (.bool a) = .returned (.bool b) := by rw [h]
theorem ret_int {k : IntKind} {a b : Int} (h : a = b) : Ending.returned (.int k a) = .returned (.int k b) := by rw [h]

/-- how many bytes a text begins with that are such -/
def runF (g : Int → Bool) (l : List UInt8) : Nat := (l.takeWhile fun c => g c.toNat).length

theorem drop_step (s : ByteArray) (k : Nat) (h : k < s.size) : s.data.toList.drop k = s[k] :: s.data.toList.drop (k + 1) := by
  rw [List.drop_eq_getElem_cons (by simpa using h)]; rfl
theorem drop_end (s : ByteArray) (k : Nat) (h : s.size ≤ k) : s.data.toList.drop k = [] := by
  apply List.drop_eq_nil_of_le; simpa using h
theorem runF_step (g : Int → Bool) (s : ByteArray) (k : Nat) (h : k < s.size) :
    runF g (s.data.toList.drop k) = if g (s[k].toNat : Int) = true then 1 + runF g (s.data.toList.drop (k + 1)) else 0 := by
  rw [drop_step s k h]
  unfold runF
  rw [List.takeWhile_cons]
  split <;> simp [Nat.add_comm]
theorem runF_end (g : Int → Bool) (s : ByteArray) (k : Nat) (h : s.size ≤ k) : runF g (s.data.toList.drop k) = 0 := by
  rw [drop_end s k h]; rfl

/-- a text is a name -/
def nameB (s : ByteArray) : Bool :=
  match s.data.toList with
  | [] => false
  | c :: _ => letterB c.toNat && runF wordyB s.data.toList == s.size
def symB (s : ByteArray) : Bool := decide (s.size ≤ 512) && nameB s

theorem data_nil {s : ByteArray} (h : s.size = 0) : s.data.toList = [] :=
  List.eq_nil_of_length_eq_zero ((Array.length_toList).trans h)
theorem toList_nil {s : ByteArray} (h : s.size = 0) : s.toList = [] := by rw [ByteArray.toList_eq, data_nil h]
theorem toList_not {s : ByteArray} (h : ¬ s.size = 0) : ¬ s.toList = [] := by
  rw [ByteArray.toList_eq]
  intro e
  exact h ((Array.length_toList (xs := s.data)).symm.trans (by rw [e]; rfl))
theorem toList_empty {s : ByteArray} (h : ¬ s.size = 0) : s.toList.isEmpty = false := by
  cases e : s.toList with
  | nil => exact (toList_not h e).elim
  | cons => rfl
theorem isEmpty_emp (s : ByteArray) : s.toList.isEmpty = decide (s = emp) := by
  rw [Bool.eq_iff_iff, List.isEmpty_iff, decide_eq_true_iff, ba_emp]
theorem nameB_nil {s : ByteArray} (h : s.size = 0) : false = nameB s := by
  unfold nameB
  rw [data_nil h]
theorem nameB_cons {s : ByteArray} (h : 0 < s.size) : nameB s = (letterB (s[0].toNat : Int) && runF wordyB s.data.toList == s.size) := by
  have := drop_step s 0 h
  simp only [List.drop_zero] at this
  unfold nameB
  split
  · rename_i e; rw [e] at this; cases this
  · rename_i c r e
    rw [e] at this
    injection this with h1 h2
    rw [h1]

/-! Terms -/
structure Term where
  kind : Int
  n : Int
  sym : ByteArray

def Term.cells (t : Term) : List Value := [.int .i64 t.kind, .int .i64 t.n, .string t.sym]

/-- how many operands an operator takes; 0: it is none -/
def takesF (k : Int) : Int := if k = 3 ∨ k = 4 then 1 else if 5 ≤ k ∧ k ≤ 14 then 2 else 0

def termB (t : Term) : Bool :=
  if t.kind = 1 then decide (t.sym = emp) else if t.kind = 2 then decide (t.n = 0) && symB t.sym else decide (0 < takesF t.kind) && decide (t.n = 0) && decide (t.sym = emp)

theorem takesF_bd (k : Int) : 0 ≤ takesF k ∧ takesF k ≤ 2 := by unfold takesF; split <;> (try split) <;> omega

/-- what is wrong with terms, 'h' values being there -/
def formF (h : Int) : List Term → Int
  | [] => if h = 1 then 0 else 90
  | t :: r => if termB t = false ∨ h < takesF t.kind then 90 else formF (h + (1 - takesF t.kind)) r

def checkF (l : List Term) : Int := if 256 < l.length then (if formF 0 l = 0 then 93 else formF 0 l) else formF 0 l

/-- a division towards 0, or its rest -/
def divF (k a b : Int) : Int × Int :=
  if b = 0 then (0, 92) else if k = 7 ∧ b = -1 then (0, 0) else if k = 7 then (a.tmod b, 0) else if b = -1 then (wrap64 (-a), 0) else (wrap64 (a.tdiv b), 0)

/-- what an operator makes of two numbers -/
def numF (k a b : Int) : Int × Int :=
  if k = 5 then (wrap64 (a * b), 0) else if k = 6 ∨ k = 7 then divF k a b else if k = 12 then (bits .and .i64 a b, 0) else if k = 13 then (bits .xor .i64 a b, 0) else if k = 14 then (bits .or .i64 a b, 0)
  else if b < 0 ∨ 63 < b then (0, 7) else if k = 10 then (wrap64 (a * 2 ^ b.toNat), 0) else (wrap64 (IntKind.u64.wrap a / 2 ^ b.toNat), 0)

theorem numF_cases (k a b : Int) : (k = 5 ∧ numF k a b = (wrap64 (a * b), 0)) ∨ (k = 6 ∧ numF k a b = divF 6 a b) ∨ (k = 7 ∧ numF k a b = divF 7 a b) ∨ (k = 12 ∧ numF k a b = (bits .and .i64 a b, 0)) ∨ (k = 13 ∧ numF k a b = (bits .xor .i64 a b, 0)) ∨ (k = 14 ∧ numF k a b = (bits .or .i64 a b, 0)) ∨
    ((k == 5) = false ∧ (k == 6) = false ∧ (k == 7) = false ∧ (k == 12) = false ∧ (k == 13) = false ∧ (k == 14) = false ∧
      (((b < 0 ∨ 63 < b) ∧ numF k a b = (0, 7)) ∨ (0 ≤ b ∧ b ≤ 63 ∧ k = 10 ∧ numF k a b = (wrap64 (a * 2 ^ b.toNat), 0)) ∨ (0 ≤ b ∧ b ≤ 63 ∧ (k == 10) = false ∧ numF k a b = (wrap64 (IntKind.u64.wrap a / 2 ^ b.toNat), 0)))) := by
  by_cases h5 : k = 5
  · subst h5; exact .inl ⟨rfl, by simp [numF]⟩
  by_cases h6 : k = 6
  · subst h6; exact .inr (.inl ⟨rfl, by simp [numF]⟩)
  by_cases h7 : k = 7
  · subst h7; exact .inr (.inr (.inl ⟨rfl, by simp [numF]⟩))
  by_cases h12 : k = 12
  · subst h12; exact .inr (.inr (.inr (.inl ⟨rfl, by simp [numF]⟩)))
  by_cases h13 : k = 13
  · subst h13; exact .inr (.inr (.inr (.inr (.inl ⟨rfl, by simp [numF]⟩))))
  by_cases h14 : k = 14
  · subst h14; exact .inr (.inr (.inr (.inr (.inr (.inl ⟨rfl, by simp [numF]⟩)))))
  refine .inr (.inr (.inr (.inr (.inr (.inr ⟨by simpa using h5, by simpa using h6, by simpa using h7, by simpa using h12, by simpa using h13, by simpa using h14, ?_⟩)))))
  by_cases hb : b < 0 ∨ 63 < b
  · exact .inl ⟨hb, by simp [numF, *]⟩
  by_cases h10 : k = 10
  · subst h10; exact .inr (.inl ⟨by omega, by omega, rfl, by simp [numF, hb]⟩)
  · exact .inr (.inr ⟨by omega, by omega, by simpa using h10, by simp [numF, *]⟩)

def plainB (p m : ByteArray) : Bool := decide (p = emp) && decide (m = emp)

theorem lit_emp : (⟨#[]⟩ : ByteArray) = emp := rfl

end Go.Proofs.YtpdjaabjfhjppaaGreatDoor
