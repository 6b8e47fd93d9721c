/- Plain Lean twins of apply and Eval of package expr; no program in sight. -/
import Derived.Test.YthhlghoeapjagaaPlain
import Derived.Test.YthhlghoeapjagaaLib
set_option linter.unusedVariables false
set_option linter.unusedSimpArgs false
namespace Go.Proofs.Ythhlghoeapjagaa
open Go.RowKit

def Val.cells (x : Val) : List Value := [.int .i64 x.add, .string x.plus, .string x.minus]

/-- what an operator makes of the one or two ahead of it -/
def applyF (k : Int) (a b : Val) : Val × Int :=
  if k = 3 then (negF b, 0)
  else if k = 4 then (if plainB b.plus b.minus = true then (⟨bits .xor .i64 (-1) b.add, emp, emp⟩, 0) else (zeroV, 91))
  else if k = 8 then addF a b
  else if k = 9 then addF a (negF b)
  else if plainB a.plus a.minus = true ∧ plainB b.plus b.minus = true then (⟨(numF k a.add b.add).1, emp, emp⟩, (numF k a.add b.add).2) else (zeroV, 91)

theorem applyF_not (a : Val) {b : Val} (h : plainB b.plus b.minus = true) : applyF 4 a b = (⟨bits .xor .i64 (-1) b.add, ⟨#[]⟩, ⟨#[]⟩⟩, 0) := by simp [applyF, h, emp]
theorem applyF_not_bad (a : Val) {b : Val} (h : plainB b.plus b.minus = false) : applyF 4 a b = (⟨0, ⟨#[]⟩, ⟨#[]⟩⟩, 91) := by simp [applyF, h, zeroV, emp]
theorem applyF_add (a b : Val) : applyF 8 a b = addF a b := by simp [applyF]
theorem applyF_sub (a b : Val) : applyF 9 a b = addF a ⟨wrap64 (-b.add), b.minus, b.plus⟩ := by simp [applyF, negF]
theorem applyF_num {k : Int} {a b : Val} (k3 : (k == 3) = false) (k4 : (k == 4) = false) (k8 : (k == 8) = false) (k9 : (k == 9) = false) (ha : plainB a.plus a.minus = true) (hb : plainB b.plus b.minus = true) :
    applyF k a b = (⟨(numF k a.add b.add).1, ⟨#[]⟩, ⟨#[]⟩⟩, (numF k a.add b.add).2) := by
  simp only [beq_eq_false_iff_ne, ne_eq] at k3 k4 k8 k9
  simp [applyF, k3, k4, k8, k9, ha, hb, emp]
theorem applyF_num_bad {k : Int} {a b : Val} (k3 : (k == 3) = false) (k4 : (k == 4) = false) (k8 : (k == 8) = false) (k9 : (k == 9) = false) (h : plainB a.plus a.minus = false ∨ plainB b.plus b.minus = false) :
    applyF k a b = (⟨0, ⟨#[]⟩, ⟨#[]⟩⟩, 91) := by
  simp only [beq_eq_false_iff_ne, ne_eq] at k3 k4 k8 k9
  rcases h with h | h <;> simp [applyF, k3, k4, k8, k9, h, zeroV, emp]

/-- the strings of a value are no longer than k -/
def Val.le (x : Val) (k : Nat) : Prop := x.plus.size ≤ k ∧ x.minus.size ≤ k

theorem clearF_le {x : Val} {k : Nat} (h : x.le k) : (clearF x).le k := clearF_size rfl h.1 h.2

theorem addF_le {a b : Val} {k : Nat} (ha : a.le k) (hb : b.le k) : (addF a b).1.le k := by
  obtain ⟨a1, a2⟩ := clearF_le ha
  obtain ⟨b1, b2⟩ := clearF_le hb
  obtain ⟨m1, m2⟩ := meetF_size (show meetF (clearF a).plus (clearF b).minus = ((meetF (clearF a).plus (clearF b).minus).1, (meetF (clearF a).plus (clearF b).minus).2) from rfl) a1 b2
  obtain ⟨m3, m4⟩ := meetF_size (show meetF (clearF a).minus (clearF b).plus = ((meetF (clearF a).minus (clearF b).plus).1, (meetF (clearF a).minus (clearF b).plus).2) from rfl) a2 b1
  unfold addF
  dsimp only
  split
  · exact ⟨by simp [zeroV, emp, ByteArray.size], by simp [zeroV, emp, ByteArray.size]⟩
  · rename_i h
    have e0 : emp.size = 0 := rfl
    constructor
    · show (_ ++ _ : ByteArray).size ≤ k
      rw [ByteArray.size_append]
      by_cases h1 : (meetF (clearF a).plus (clearF b).minus).fst = emp
      · rw [h1, e0]; omega
      · have h2 : (meetF (clearF a).minus (clearF b).plus).snd = emp := Decidable.byContradiction fun h2 => h (.inl ⟨h1, h2⟩)
        rw [h2, e0]; omega
    · show (_ ++ _ : ByteArray).size ≤ k
      rw [ByteArray.size_append]
      by_cases h1 : (meetF (clearF a).minus (clearF b).plus).fst = emp
      · rw [h1, e0]; omega
      · have h2 : (meetF (clearF a).plus (clearF b).minus).snd = emp := Decidable.byContradiction fun h2 => h (.inr ⟨h1, h2⟩)
        rw [h2, e0]; omega

theorem le_emp (n : Int) (k : Nat) : Val.le ⟨n, emp, emp⟩ k := ⟨Nat.zero_le _, Nat.zero_le _⟩

theorem applyF_le (m : Int) {a b : Val} {k : Nat} (ha : a.le k) (hb : b.le k) : (applyF m a b).1.le k := by
  have hn : (negF b).le k := ⟨hb.2, hb.1⟩
  unfold applyF
  split
  · exact hn
  split
  · split <;> exact le_emp _ _
  split
  · exact addF_le ha hb
  split
  · exact addF_le ha hn
  split <;> exact le_emp _ _

/-- what terms come to, the values 'vs' being there -/
def evalF (vs : List Val) : List Term → Val × Int
  | [] => (vs.getD 0 zeroV, 0)
  | t :: r =>
    if takesF t.kind = 0 then evalF (vs ++ [⟨t.n, t.sym, emp⟩]) r
    else
      let y := applyF t.kind (vs.getD (vs.length - 2) zeroV) (vs.getD (vs.length - 1) zeroV)
      if y.2 = 0 then evalF (vs.take (vs.length - (takesF t.kind).toNat) ++ [y.1]) r else (zeroV, y.2)

def evalAll (l : List Term) : Val × Int := if checkF l = 0 then evalF [] l else (zeroV, checkF l)

theorem evalF_leaf {vs : List Val} {t : Term} {r : List Term} (h : takesF t.kind = 0) : evalF vs (t :: r) = evalF (vs ++ [⟨t.n, t.sym, emp⟩]) r := by rw [evalF, if_pos h]
theorem evalF_op {vs : List Val} {t : Term} {r : List Term} (h : ¬ takesF t.kind = 0) {v : Val} (e : applyF t.kind (vs.getD (vs.length - 2) zeroV) (vs.getD (vs.length - 1) zeroV) = (v, 0)) :
    evalF vs (t :: r) = evalF (vs.take (vs.length - (takesF t.kind).toNat) ++ [v]) r := by
  rw [evalF, if_neg h]; dsimp only; rw [e, if_pos rfl]
theorem evalF_bad {vs : List Val} {t : Term} {r : List Term} (h : ¬ takesF t.kind = 0) {v : Val} {x : Int} (hx : ¬ x = 0) (e : applyF t.kind (vs.getD (vs.length - 2) zeroV) (vs.getD (vs.length - 1) zeroV) = (v, x)) :
    evalF vs (t :: r) = (zeroV, x) := by
  rw [evalF, if_neg h]; dsimp only; rw [e, if_neg hx]

theorem formF_cons {h : Int} {t : Term} {r : List Term} (e : formF h (t :: r) = 0) : termB t = true ∧ takesF t.kind ≤ h ∧ formF (h + (1 - takesF t.kind)) r = 0 := by
  rw [formF] at e
  split at e
  · cases e
  · rename_i hn
    refine ⟨?_, ?_, e⟩
    · cases ht : termB t with
      | true => rfl
      | false => exact (hn (.inl ht)).elim
    · exact Int.not_lt.1 fun hlt => hn (.inr hlt)
theorem formF_nil {h : Int} (e : formF h [] = 0) : h = 1 := by
  rw [formF] at e; split at e
  · assumption
  · cases e

theorem checkF_form {ts : List Term} (h : checkF ts = 0) : formF 0 ts = 0 := by
  unfold checkF at h
  split at h
  · split at h
    · cases h
    · exact h
  · exact h

theorem applyF_unary {k : Int} (h : takesF k = 1) (a a' b : Val) : applyF k a b = applyF k a' b := by
  have : k = 3 ∨ k = 4 := by
    unfold takesF at h
    split at h
    · assumption
    · split at h <;> omega
  rcases this with rfl | rfl <;> simp [applyF]

theorem vals_flat (vs : List Val) : (vs.flatMap Val.cells).length = vs.length * 3 := flat_len Val.cells 3 (fun _ => rfl) vs

end Go.Proofs.Ythhlghoeapjagaa
