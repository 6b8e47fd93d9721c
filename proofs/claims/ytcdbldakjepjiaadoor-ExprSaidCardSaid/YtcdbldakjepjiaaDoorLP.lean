/- Lines: tokens as a line. -/
import Derived.Test.YtcdbldakjepjiaaDoorLN
import Derived.Test.YtcdbldakjepjiaaDoorBd
set_option linter.unusedVariables false
set_option linter.unusedSimpArgs false
namespace Go.Proofs.YtcdbldakjepjiaaDoor
open Go.RowKit
set_option maxRecDepth 100000

/-! ### Plain -/
def wordT (t : Tok) : Bool := decide (t.kind = 1) || decide (t.kind = 2)
def slashT (t : Tok) : Bool := decide (t.kind = 4) && decide (t.text = ⟨#[47]⟩)
def apartF (a b : Tok) : Bool := (wordT a && wordT b) || (slashT a && slashT b)
def sepF (p : Option Tok) (t : Tok) : Bool := match p with | some a => apartF a t | none => false
def spB : ByteArray := ⟨#[32]⟩
def addT (p : Option Tok) (acc : ByteArray) (t : Tok) : ByteArray := (if sepF p t = true then acc ++ spB else acc) ++ textT t
def printR : Option Tok → ByteArray → List Tok → Option ByteArray
  | _, acc, [] => some acc
  | p, acc, t :: r => if 512 < (addT p acc t).size then none else printR (some t) (addT p acc t) r
def allT (l : List Tok) : Bool := l.all fun t => decide (checkT t = 0)
def printF (l : List Tok) : ByteArray × Int := if allT l = true then match printR none emp l with | some b => (b, 0) | none => (emp, 3) else (emp, 1)
def prevT (l : List Tok) (i : Nat) : Option Tok := if i = 0 then none else l[i - 1]?
def smallT (t : Tok) : Prop := t.text.size ≤ 140737488351232 ∧ 0 ≤ t.n ∧ t.n < 18446744073709551616

theorem check_is {t : Tok} (h : checkT t = 0) : isT t = true ∧ 0 ≤ t.pos ∧ (t.n = 0 ∨ t.kind = 2) := by
  unfold checkT at h
  split at h
  · assumption
  · cases h
theorem check_kind {t : Tok} (h : checkT t = 0) : t.kind = 1 ∨ t.kind = 2 ∨ t.kind = 3 ∨ t.kind = 4 := by
  have := (check_is h).1
  unfold isT at this
  split at this
  · exact .inl (by assumption)
  · split at this
    · exact .inr (.inl (by assumption))
    · split at this
      · exact .inr (.inr (.inl (by assumption)))
      · split at this
        · exact .inr (.inr (.inr (by assumption)))
        · cases this
theorem check_text {t : Tok} (h : checkT t = 0) (k : t.kind = 3) : t.text.size ≤ 512 := by
  have := (check_is h).1
  unfold isT at this
  rw [if_neg (by omega), if_neg (by omega), if_pos k] at this
  exact of_decide_eq_true this
theorem size_ofBytes (l : List Int) : (ofBytes l).size = l.length := by simp [ofBytes, ByteArray.size]
theorem quoteL_len (l : List Int) : (quoteL l).length ≤ 4 * l.length + 2 := by
  have := quoteB_len l
  unfold quoteL
  simp only [List.length_cons, List.length_append, List.length_nil]
  omega
theorem textT_size {t : Tok} (h : checkT t = 0) (hs : smallT t) : 0 < (textT t).size ∧ (textT t).size ≤ 140737488351232 := by
  obtain ⟨h1, h2, h3⟩ := hs
  have hi := (check_is h).1
  unfold textT
  rw [if_pos h]
  rcases check_kind h with k | k | k | k
  · rw [if_neg (by omega), if_neg (by omega)]
    unfold isT at hi
    rw [if_pos k] at hi
    unfold nameL at hi
    simp only [Bool.and_eq_true, decide_eq_true_eq] at hi
    have := hi.1.1
    rw [toBytes_length] at this
    exact ⟨this, h1⟩
  · rw [if_pos k]
    have := decF_size h2 h3
    have h4 : (decF t.n).size = (Lib.decDigits t.n.toNat).length := by simp [decF, ByteArray.size]
    have h5 : 0 < (Lib.decDigits t.n.toNat).length := by rw [Lib.decDigits]; split <;> simp
    omega
  · rw [if_neg (by omega), if_pos k, size_ofBytes]
    have := quoteL_len (toBytes t.text)
    have h4 := check_text h k
    rw [toBytes_length] at this
    refine ⟨by unfold quoteL; simp, by omega⟩
  · rw [if_neg (by omega), if_neg (by omega)]
    unfold isT at hi
    rw [if_neg (by omega), if_neg (by omega), if_neg (by omega), if_pos k] at hi
    have := of_decide_eq_true hi
    exact ⟨this.1, h1⟩
theorem addT_size {p : Option Tok} {acc : ByteArray} {t : Tok} (h : checkT t = 0) (hs : smallT t) (ha : acc.size ≤ 512) : 0 < (addT p acc t).size ∧ (addT p acc t).size ≤ 140737488351745 := by
  have := textT_size h hs
  unfold addT
  rw [ByteArray.size_append]
  split
  · rw [ByteArray.size_append]
    have : spB.size = 1 := rfl
    omega
  · omega
theorem allT_get {l : List Tok} (h : allT l = true) {i : Nat} {t : Tok} (ht : l[i]? = some t) : checkT t = 0 := by
  unfold allT at h
  rw [List.all_eq_true] at h
  exact of_decide_eq_true (h t (List.mem_of_getElem? ht))
theorem allT_not {l : List Tok} {i : Nat} {t : Tok} (ht : l[i]? = some t) (hc : ¬ checkT t = 0) : allT l = false := by
  cases h : allT l with
  | false => rfl
  | true => exact absurd (allT_get h ht) hc
theorem allT_take {l : List Tok} (h : ∀ i t, i < l.length → l[i]? = some t → checkT t = 0) : allT l = true := by
  unfold allT
  rw [List.all_eq_true]
  intro t ht
  obtain ⟨i, hi, rfl⟩ := List.mem_iff_getElem.1 ht
  exact decide_eq_true (h i _ hi (List.getElem?_eq_getElem hi))
theorem drop_get {l : List Tok} {i : Nat} {t : Tok} (h : l[i]? = some t) : l.drop i = t :: l.drop (i + 1) := by
  obtain ⟨hi, rfl⟩ := List.getElem?_eq_some_iff.1 h
  exact List.drop_eq_getElem_cons hi
theorem prev_succ (l : List Tok) (i : Nat) : prevT l (i + 1) = l[i]? := by
  unfold prevT; rw [if_neg (by omega), Nat.add_sub_cancel]
theorem printR_step {l : List Tok} {i : Nat} {t : Tok} {acc : ByteArray} (h : l[i]? = some t) : printR (prevT l i) acc (l.drop i) = if 512 < (addT (prevT l i) acc t).size then none else printR (prevT l (i + 1)) (addT (prevT l i) acc t) (l.drop (i + 1)) := by
  rw [drop_get h, printR, prev_succ, h]

end Go.Proofs.YtcdbldakjepjiaaDoor
