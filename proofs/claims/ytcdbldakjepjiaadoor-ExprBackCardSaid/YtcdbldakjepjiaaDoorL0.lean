/- Lines and tokens as plain functions. No program in sight. -/
import Derived.Test.YtcdbldakjepjiaaDoorA0
import Derived.Test.YtcdbldakjepjiaaDoorT
set_option linter.unusedVariables false
set_option linter.unusedSimpArgs false
namespace Go.Proofs.YtcdbldakjepjiaaDoor
open Go.RowKit

/-! ### Bytes -/
def blankB (n : Int) : Bool := decide (n = 32 ∨ n = 9)
def shownB (n : Int) : Bool := decide (32 ≤ n ∧ n ≤ 126)
def hexB (n : Int) : Int := if 48 ≤ n ∧ n ≤ 57 then n - 48 else if 97 ≤ n ∧ n ≤ 102 then n - 87 else if 65 ≤ n ∧ n ≤ 70 then n - 55 else 16
theorem hexB_range (n : Int) : 0 ≤ hexB n ∧ hexB n ≤ 16 := by unfold hexB; split <;> (try split) <;> (try split) <;> omega

/-- a line's byte; 0 behind its end -/
def bAt (l : List Int) (i : Nat) : Int := l.getD i 0
theorem bAt_zero {c : Int} {l : List Int} : bAt (c :: l) 0 = c := rfl
theorem bAt_succ {c : Int} {l : List Int} {i : Nat} : bAt (c :: l) (i + 1) = bAt l i := rfl
theorem bAt_drop (l : List Int) (i j : Nat) : bAt (l.drop i) j = bAt l (i + j) := by
  unfold bAt
  rw [List.getD_eq_getElem?_getD, List.getD_eq_getElem?_getD, List.getElem?_drop]
theorem bAt_get {l : List Int} {i : Nat} (h : i < l.length) : l[i]? = some (bAt l i) := by
  unfold bAt
  rw [List.getD_eq_getElem?_getD, List.getElem?_eq_getElem h]; rfl
theorem byteAt_bAt (s : ByteArray) (i : Nat) : byteAt s i = bAt (toBytes s) i := by
  rcases Nat.lt_or_ge i s.size with h | h
  · have := toBytes_get h
    unfold bAt
    rw [List.getD_eq_getElem?_getD (l := toBytes s), this]; rfl
  · unfold bAt byteAt
    have h1 : s.data.toList.length ≤ i := by simpa using h
    have h2 : (toBytes s).length ≤ i := by rw [toBytes_length]; exact h
    rw [List.getD_eq_getElem?_getD (l := toBytes s), List.getElem?_eq_none h2, List.getD_eq_getElem?_getD, Int.toNat_natCast, List.getElem?_eq_none h1]; rfl
theorem byteAt_bAt0 (s : ByteArray) : byteAt s 0 = bAt (toBytes s) 0 := byteAt_bAt s 0
theorem byteAt_bAt1 (s : ByteArray) : byteAt s 1 = bAt (toBytes s) 1 := byteAt_bAt s 1
theorem byteAt_bAt2 (s : ByteArray) : byteAt s 2 = bAt (toBytes s) 2 := byteAt_bAt s 2
theorem byteAt_bAt3 (s : ByteArray) : byteAt s 3 = bAt (toBytes s) 3 := byteAt_bAt s 3
theorem toBytes_drop (s : ByteArray) (i : Nat) : toBytes (s.extract i s.size) = (toBytes s).drop i := by
  rw [toBytes_extract, List.take_of_length_le]
  rw [List.length_drop, toBytes_length]
  exact Nat.le_refl _
theorem toBytes_take (s : ByteArray) (j : Nat) : toBytes (s.extract 0 j) = (toBytes s).take j := by
  rw [toBytes_extract, List.drop_zero, Nat.sub_zero]
theorem extract_take (s : ByteArray) (j : Nat) : s.extract 0 j = ofBytes ((toBytes s).take j) := by
  rw [← toBytes_take, ofBytes_toBytes]
theorem extract_mid (s : ByteArray) (i j : Nat) : s.extract i j = ofBytes (((toBytes s).drop i).take (j - i)) := by
  rw [← toBytes_extract, ofBytes_toBytes]
theorem drop_cons {l : List Int} {i : Nat} (h : i < l.length) : l.drop i = bAt l i :: l.drop (i + 1) := by
  rw [List.drop_eq_getElem_cons h]
  have := bAt_get h
  rw [List.getElem?_eq_getElem h] at this
  injection this with this
  rw [this]

/-- how many bytes a text begins with that are such -/
def runL (g : Int → Bool) (l : List Int) : Nat := (l.takeWhile g).length
theorem runL_nil (g : Int → Bool) : runL g [] = 0 := rfl
theorem runL_cons (g : Int → Bool) (c : Int) (l : List Int) : runL g (c :: l) = if g c = true then 1 + runL g l else 0 := by
  unfold runL
  rw [List.takeWhile_cons]
  split <;> simp [Nat.add_comm]
theorem runL_le (g : Int → Bool) (l : List Int) : runL g l ≤ l.length := (List.takeWhile_sublist g).length_le
theorem runL_step (g : Int → Bool) (l : List Int) (i : Nat) (h : i < l.length) : runL g (l.drop i) = if g (bAt l i) = true then 1 + runL g (l.drop (i + 1)) else 0 := by
  rw [drop_cons h, runL_cons]
theorem runL_end (g : Int → Bool) (l : List Int) (i : Nat) (h : l.length ≤ i) : runL g (l.drop i) = 0 := by
  rw [List.drop_eq_nil_of_le h]; rfl
theorem runL_in (g : Int → Bool) : ∀ (l : List Int) (i : Nat), i < runL g l → g (bAt l i) = true
  | [], i, h => by simp [runL_nil] at h
  | c :: l, i, h => by
    rw [runL_cons] at h
    split at h
    · rename_i hc
      cases i with
      | zero => exact hc
      | succ i => exact runL_in g l i (by omega)
    · omega
theorem runL_stop (g : Int → Bool) : ∀ (l : List Int), runL g l < l.length → g (bAt l (runL g l)) = false
  | [], h => by simp at h
  | c :: l, h => by
    rw [runL_cons] at h ⊢
    split
    · rename_i hc
      rw [if_pos hc] at h
      rw [Nat.add_comm, bAt_succ]
      exact runL_stop g l (by simp at h; omega)
    · rename_i hc
      simpa [bAt] using hc
theorem runL_eq (g : Int → Bool) (l : List Int) (k : Nat) (hk : k ≤ l.length) (hin : ∀ i, i < k → g (bAt l i) = true) (hst : k < l.length → g (bAt l k) = false) : runL g l = k := by
  rcases Nat.lt_trichotomy (runL g l) k with h | h | h
  · have := runL_stop g l (by omega)
    rw [hin _ h] at this; cases this
  · exact h
  · have h1 := runL_in g l k h
    rw [hst (by have := runL_le g l; omega)] at h1; cases h1

/-! ### Names and signs -/
def nameL (l : List Int) : Bool := decide (0 < l.length) && letterB (bAt l 0) && decide (runL wordyB l = l.length)
def signs : List Int := [44, 91, 93, 33, 35, 58, 43, 45, 42, 47, 37, 38, 124, 94, 126, 40, 41, 61]
def signL (l : List Int) : Nat :=
  if 1 < l.length ∧ (bAt l 0 = 60 ∧ bAt l 1 = 60 ∨ bAt l 0 = 62 ∧ bAt l 1 = 62) then 2
  else if 0 < l.length ∧ bAt l 0 ∈ signs then 1 else 0
theorem signL_le (l : List Int) : signL l ≤ l.length := by unfold signL; split <;> (try split) <;> omega

/-! ### Quotes -/
def shortL (c : Int) : Int := if c = 0 then 48 else if c = 9 then 116 else if c = 10 then 110 else if c = 13 then 114 else if c = 34 ∨ c = 92 then c else 0
def hexd (c : Int) : Int := if c < 10 then 48 + c else 87 + c
def quote1 (c : Int) : List Int := if shortL c ≠ 0 then [92, shortL c] else if shownB c = true then [c] else [92, 120, hexd (c / 16), hexd (c % 16)]
def quoteB (l : List Int) : List Int := l.flatMap quote1
def quoteL (l : List Int) : List Int := 34 :: (quoteB l ++ [34])

/-- the byte of a short form -/
def longL (c : Int) : Option Int := if c = 48 then some 0 else if c = 116 then some 9 else if c = 110 then some 10 else if c = 114 then some 13 else if c = 34 ∨ c = 92 then some c else none
/-- what stands behind a \, and how many bytes it takes -/
def escL (l : List Int) : Option (Int × Nat) :=
  if l.length = 0 then none else
  match longL (bAt l 0) with
  | some x => some (x, 1)
  | none => if 2 < l.length ∧ bAt l 0 = 120 ∧ hexB (bAt l 1) < 16 ∧ hexB (bAt l 2) < 16 then some (16 * hexB (bAt l 1) + hexB (bAt l 2), 3) else none
inductive QS where
  | stop
  | bad
  | put (x : Int) (k : Nat)
def qStep (l : List Int) : QS :=
  if l.length = 0 then .bad else
  if bAt l 0 = 34 then .stop else
  if bAt l 0 = 92 then match escL (l.drop 1) with
    | some (x, n) => .put x (n + 1)
    | none => .bad
  else if shownB (bAt l 0) = true then .put (bAt l 0) 1 else .bad
theorem escL_le {l : List Int} {x : Int} {n : Nat} (h : escL l = some (x, n)) : 1 ≤ n ∧ n ≤ l.length := by
  unfold escL at h
  split at h
  · cases h
  · split at h
    · injection h with h; injection h with h1 h2; omega
    · split at h
      · injection h with h; injection h with h1 h2; omega
      · cases h
theorem qStep_le {l : List Int} {x : Int} {k : Nat} (h : qStep l = .put x k) : 1 ≤ k ∧ k ≤ l.length := by
  unfold qStep at h
  split at h
  · cases h
  · split at h
    · cases h
    · split at h
      · split at h
        · rename_i h1
          injection h with h2 h3
          have := escL_le h1
          rw [List.length_drop] at this
          omega
        · cases h
      · split at h
        · injection h with h2 h3; omega
        · cases h
/-- the bytes within quotes, and how many bytes of the text these are, with the last quote; none: they may not be -/
def quotesL (l : List Int) : Option (List Int × Nat) :=
  match h : qStep l with
  | .stop => some ([], 1)
  | .bad => none
  | .put x k => match quotesL (l.drop k) with
    | some (b, n) => some (x :: b, k + n)
    | none => none
termination_by l.length
decreasing_by
  have := qStep_le h
  rw [List.length_drop]
  omega
theorem quotesL_stop {l : List Int} (h : qStep l = .stop) : quotesL l = some ([], 1) := by
  rw [quotesL]; split
  · rfl
  · rename_i e; rw [h] at e; cases e
  · rename_i e; rw [h] at e; cases e
theorem quotesL_bad {l : List Int} (h : qStep l = .bad) : quotesL l = none := by
  rw [quotesL]; split
  · rename_i e; rw [h] at e; cases e
  · rfl
  · rename_i e; rw [h] at e; cases e
theorem quotesL_put {l : List Int} {x : Int} {k : Nat} (h : qStep l = .put x k) : quotesL l = (quotesL (l.drop k)).map fun p => (x :: p.1, k + p.2) := by
  rw [quotesL]; split
  · rename_i e; rw [h] at e; cases e
  · rename_i e; rw [h] at e; cases e
  · rename_i e
    rw [h] at e
    injection e with e1 e2
    subst e1
    subst e2
    cases quotesL (l.drop k) <;> rfl
/-- the bytes within the quotes with which a text begins, how many bytes of the text these are; 0: they may not be -/
def quotesF (l : List Int) : List Int × Nat :=
  match quotesL (l.drop 1) with
  | some (b, n) => (b, n + 1)
  | none => ([], 0)
def unquoteF (l : List Int) : List Int × Int :=
  if 0 < l.length ∧ bAt l 0 = 34 ∧ (quotesF l).2 = l.length then ((quotesF l).1, 0) else ([], 82)

/-! ### Numbers -/
def natL (base : Int) (l : List Int) : Int := l.foldl (fun n c => n * base + hexB c) 0
def baseL (l : List Int) : Int := if 1 < l.length ∧ bAt l 0 = 48 ∧ bAt l 1 = 120 then 16 else if 1 < l.length ∧ bAt l 0 = 48 ∧ bAt l 1 = 98 then 2 else 10
def headL (l : List Int) : Nat := if 1 < l.length ∧ bAt l 0 = 48 ∧ (bAt l 1 = 120 ∨ bAt l 1 = 98) then 2 else 0
def hexRun (base : Int) (l : List Int) : Nat := runL (fun c => decide (hexB c < base)) l
def numberL (l : List Int) : Int × Nat :=
  if bAt l 0 = 39 then
    if 3 ≤ l.length ∧ bAt l 2 = 39 ∧ shownB (bAt l 1) = true ∧ bAt l 1 ≠ 39 ∧ bAt l 1 ≠ 92 then (bAt l 1, 3) else (0, 0)
  else if hexRun (baseL l) (l.drop (headL l)) = 0 ∨ headL l = 0 ∧ 1 < hexRun (baseL l) (l.drop (headL l)) ∧ bAt l 0 = 48 then (0, 0)
  else if 18446744073709551616 ≤ natL (baseL l) ((l.drop (headL l)).take (hexRun (baseL l) (l.drop (headL l)))) then (0, 0)
  else (natL (baseL l) ((l.drop (headL l)).take (hexRun (baseL l) (l.drop (headL l)))), headL l + hexRun (baseL l) (l.drop (headL l)))

/-! ### Tokens -/
def oneL (l : List Int) : Except Int (Tok × Nat) :=
  if letterB (bAt l 0) = true then .ok (⟨1, ofBytes (l.take (runL wordyB l)), 0, 0⟩, runL wordyB l)
  else if digitB (bAt l 0) = true ∨ bAt l 0 = 39 then
    if (numberL l).2 = 0 ∨ (numberL l).2 < l.length ∧ wordyB (bAt l (numberL l).2) = true then .error 81 else .ok (⟨2, emp, (numberL l).1, 0⟩, (numberL l).2)
  else if bAt l 0 = 34 then
    if (quotesF l).2 = 0 then .error 82 else .ok (⟨3, ofBytes (quotesF l).1, 0, 0⟩, (quotesF l).2)
  else if signL l = 0 then .error 80 else .ok (⟨4, ofBytes (l.take (signL l)), 0, 0⟩, signL l)

theorem quotesL_le : ∀ (N : Nat) (l : List Int), l.length ≤ N → ∀ {b : List Int} {n : Nat}, quotesL l = some (b, n) → 1 ≤ n ∧ n ≤ l.length
  | 0, l, hl, b, n, h => by
    obtain rfl : l = [] := List.eq_nil_of_length_eq_zero (by omega)
    rw [quotesL_bad rfl] at h; cases h
  | N + 1, l, hl, b, n, h => by
    cases hq : qStep l with
    | stop =>
      rw [quotesL_stop hq] at h
      injection h with h; injection h with h1 h2
      have : l.length ≠ 0 := fun e => by rw [List.eq_nil_of_length_eq_zero e] at hq; cases hq
      omega
    | bad => rw [quotesL_bad hq] at h; cases h
    | put x k =>
      have hk := qStep_le hq
      rw [quotesL_put hq] at h
      cases hr : quotesL (l.drop k) with
      | none => rw [hr] at h; cases h
      | some p =>
        obtain ⟨b', n'⟩ := p
        have := quotesL_le N (l.drop k) (by rw [List.length_drop]; omega) hr
        rw [hr] at h
        injection h with h
        injection h with h1 h2
        rw [List.length_drop] at this
        simp only at h2
        omega
theorem quotesF_le {l : List Int} (h : l.length ≠ 0) : (quotesF l).2 ≤ l.length := by
  unfold quotesF
  split
  · rename_i e
    have := quotesL_le _ _ (Nat.le_refl _) e
    rw [List.length_drop] at this
    show _ + 1 ≤ _
    omega
  · exact Nat.zero_le _
theorem numberL_le (l : List Int) : (numberL l).2 ≤ l.length := by
  have hr : hexRun (baseL l) (l.drop (headL l)) ≤ (l.drop (headL l)).length := runL_le _ _
  have hh : headL l ≤ l.length := by unfold headL; split <;> omega
  rw [List.length_drop] at hr
  unfold numberL
  split
  · split
    · rename_i h; exact h.1
    · exact Nat.zero_le _
  · split
    · exact Nat.zero_le _
    · split
      · exact Nat.zero_le _
      · show _ + _ ≤ _; omega
theorem oneL_le {l : List Int} (h0 : l.length ≠ 0) {t : Tok} {n : Nat} (h : oneL l = .ok (t, n)) : 1 ≤ n ∧ n ≤ l.length := by
  unfold oneL at h
  split at h
  · rename_i hc
    injection h with h; injection h with h1 h2
    subst h2
    refine ⟨?_, runL_le _ _⟩
    cases l with
    | nil => exact absurd rfl h0
    | cons c r =>
      rw [runL_cons, if_pos (by unfold wordyB; rw [show letterB c = true from hc]; rfl)]
      omega
  · split at h
    · split at h
      · cases h
      · injection h with h; injection h with h1 h2
        have := numberL_le l
        omega
    · split at h
      · split at h
        · cases h
        · injection h with h; injection h with h1 h2
          have := quotesF_le h0
          omega
      · split at h
        · cases h
        · injection h with h; injection h with h1 h2
          have := signL_le l
          omega

def doneL (l : List Int) : Bool := decide (l.length = 0) || (decide (1 < l.length) && decide (bAt l 0 = 47) && decide (bAt l 1 = 47))
/-- the tokens ahead of the first piece that is wrong, its place, what is wrong -/
def tokensL (at_ : Nat) (l : List Int) : List Tok × Nat × Int :=
  let k := runL blankB l
  if h0 : doneL (l.drop k) = true then ([], at_ + l.length, 0) else
  match h : oneL (l.drop k) with
  | .error e => ([], at_ + k, e)
  | .ok (t, n) =>
    let r := tokensL (at_ + k + n) ((l.drop k).drop n)
    ({ t with pos := ((at_ + k : Nat) : Int) } :: r.1, r.2)
termination_by l.length
decreasing_by
  have h1 : (l.drop (runL blankB l)).length ≠ 0 := fun e => h0 (by unfold doneL; rw [e]; rfl)
  have := oneL_le h1 h
  rw [List.length_drop, List.length_drop]
  rw [List.length_drop] at h1 this
  omega
theorem tokensL_done {p : Nat} {l : List Int} (h : doneL (l.drop (runL blankB l)) = true) : tokensL p l = ([], p + l.length, 0) := by
  rw [tokensL]; simp only [h, dite_true]
theorem tokensL_error {p : Nat} {l : List Int} {e : Int} (h0 : doneL (l.drop (runL blankB l)) = false) (h : oneL (l.drop (runL blankB l)) = .error e) : tokensL p l = ([], p + runL blankB l, e) := by
  rw [tokensL]
  simp only [h0, Bool.false_eq_true, dite_false]
  split
  · rename_i e1; rw [h] at e1; injection e1 with e1; rw [e1]
  · rename_i e1; rw [h] at e1; cases e1
theorem tokensL_ok {p : Nat} {l : List Int} {t : Tok} {n : Nat} (h0 : doneL (l.drop (runL blankB l)) = false) (h : oneL (l.drop (runL blankB l)) = .ok (t, n)) :
    tokensL p l = ({ t with pos := ((p + runL blankB l : Nat) : Int) } :: (tokensL (p + runL blankB l + n) (l.drop (runL blankB l + n))).1, (tokensL (p + runL blankB l + n) (l.drop (runL blankB l + n))).2) := by
  rw [tokensL]
  simp only [h0, Bool.false_eq_true, dite_false]
  split
  · rename_i e1; rw [h] at e1; cases e1
  · rename_i e1
    rw [h] at e1
    injection e1 with e1
    injection e1 with e1 e2
    subst e1
    subst e2
    rw [List.drop_drop]

def linesF (l : List Int) : List Tok × Nat × Int := if 512 < l.length then ([], 0, 3) else tokensL 0 l
def lexF (l : List Int) : List Tok × Nat × Int := if (linesF l).2.2 = 0 then linesF l else ([], (linesF l).2)

/-! ### What may be; texts -/
def isT (t : Tok) : Bool :=
  if t.kind = 1 then nameL (toBytes t.text) else if t.kind = 2 then decide (t.text = emp) else if t.kind = 3 then decide (t.text.size ≤ 512) else if t.kind = 4 then decide (0 < t.text.size ∧ signL (toBytes t.text) = t.text.size) else false
def checkT (t : Tok) : Int := if isT t = true ∧ 0 ≤ t.pos ∧ (t.n = 0 ∨ t.kind = 2) then 0 else 1

theorem tok_ext {a b : Tok} (h1 : a.kind = b.kind) (h2 : a.text = b.text) (h3 : a.n = b.n) (h4 : a.pos = b.pos) : a = b := by
  cases a; cases b; simp only at h1 h2 h3 h4; subst h1; subst h2; subst h3; subst h4; rfl
instance tokDec : DecidableEq Tok := fun a b =>
  if h : a.kind = b.kind ∧ a.text = b.text ∧ a.n = b.n ∧ a.pos = b.pos then isTrue (tok_ext h.1 h.2.1 h.2.2.1 h.2.2.2) else isFalse fun e => h (by rw [e]; exact ⟨rfl, rfl, rfl, rfl⟩)

end Go.Proofs.YtcdbldakjepjiaaDoor
