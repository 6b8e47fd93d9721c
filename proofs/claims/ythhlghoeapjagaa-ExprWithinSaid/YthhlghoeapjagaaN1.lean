/- The parser of package expr as a plain function. No program in sight. -/
import Derived.Test.YthhlghoeapjagaaPlain
import Derived.Test.YthhlghoeapjagaaPlain2
import Derived.Test.YthhlghoeapjagaaPlain9
set_option linter.unusedVariables false
set_option linter.unusedSimpArgs false
namespace Go.Proofs.Ythhlghoeapjagaa
open Go.RowKit

structure Tok where
  kind : Int
  text : ByteArray
  n : Int
  pos : Int

/-- how far a parser is: the next token's place, how many signs are open, the terms -/
structure PS where
  at_ : Nat
  op : Int
  ts : List Term

abbrev PR := Except Int PS

def putF (t : Term) (s : PS) : PR := if 256 < s.ts.length + 1 then .error 93 else .ok { s with ts := s.ts ++ [t] }

def nextF (l : List Tok) (s : PS) : ByteArray :=
  match l[s.at_]? with
  | some t => if t.kind = 4 then t.text else emp
  | none => emp

def openedF (read : PS → PR) (s : PS) : PR :=
  if 64 < s.op + 1 then .error 93 else
  match read ⟨s.at_ + 1, s.op + 1, s.ts⟩ with
  | .ok s' => .ok { s' with op := s'.op - 1 }
  | .error e => .error e

/-- the last of some operators whose sign that is; 0: none -/
def foundF (s : ByteArray) : List Int → Int → Int
  | [], f => f
  | k :: r, f => foundF s r (if s ≠ emp ∧ s = signF k then k else f)

def rowLoop (l : List Tok) (read : PS → PR) (kinds : List Int) : Nat → PS → PR
  | 0, s => .ok s
  | m + 1, s =>
    if foundF (nextF l s) kinds 0 = 0 then .ok s else
    match read ⟨s.at_ + 1, s.op, s.ts⟩ with
    | .error e => .error e
    | .ok s' => match putF ⟨foundF (nextF l s) kinds 0, 0, emp⟩ s' with
      | .error e => .error e
      | .ok s'' => rowLoop l read kinds m s''

def rowF (l : List Tok) (read : PS → PR) (kinds : List Int) (s : PS) : PR :=
  match read s with
  | .error e => .error e
  | .ok s' => rowLoop l read kinds l.length s'

def levelsF (l : List Tok) (read : PS → PR) : PS → PR :=
  rowF l (rowF l (rowF l (rowF l (rowF l (rowF l read [5, 6, 7]) [8, 9]) [10, 11]) [12]) [13]) [14]

def operandF (l : List Tok) : Nat → PS → PR
  | 0, _ => .error 90
  | N + 1, s => match l[s.at_]? with
    | none => .error 90
    | some t =>
      if t.kind = 2 then putF ⟨1, wrap64 t.n, emp⟩ { s with at_ := s.at_ + 1 }
      else if t.kind = 1 then putF ⟨2, 0, t.text⟩ { s with at_ := s.at_ + 1 }
      else if t.kind = 4 ∧ t.text = ⟨#[40]⟩ then
        match openedF (levelsF l (operandF l N)) s with
        | .error e => .error e
        | .ok s' => if nextF l s' = ⟨#[41]⟩ then .ok { s' with at_ := s'.at_ + 1 } else .error 90
      else if t.kind = 4 ∧ (t.text = ⟨#[45]⟩ ∨ t.text = ⟨#[126]⟩) then
        match openedF (operandF l N) s with
        | .error e => .error e
        | .ok s' => putF ⟨if t.text = ⟨#[126]⟩ then 4 else 3, 0, emp⟩ s'
      else .error 90

/-- where a parser may stand, with at most N tokens left -/
structure POk (l : List Tok) (N : Nat) (s : PS) : Prop where
  le : s.at_ ≤ l.length
  rem : l.length ≤ s.at_ + N
  op0 : 0 ≤ s.op
  op1 : s.op ≤ 64
  ts : s.ts.length ≤ 256

/-- what a part of the parser does: it goes on by at least one token, opens as much as it closes -/
def Goes (l : List Tok) (N : Nat) (F : PS → PR) : Prop :=
  ∀ s s', POk l N s → F s = .ok s' → s.at_ < s'.at_ ∧ s'.at_ ≤ l.length ∧ s'.op = s.op ∧ s'.ts.length ≤ 256

theorem putF_ok {t : Term} {s s' : PS} (h : putF t s = .ok s') : s' = { s with ts := s.ts ++ [t] } ∧ s.ts.length + 1 ≤ 256 := by
  unfold putF at h
  split at h
  · cases h
  · injection h with h; exact ⟨h.symm, by omega⟩

theorem nextF_lt {l : List Tok} {s : PS} (h : nextF l s ≠ emp) : s.at_ < l.length := by
  unfold nextF at h
  split at h
  · rename_i t ht; exact (List.getElem?_eq_some_iff.1 ht).1
  · exact absurd rfl h

theorem foundF_emp : ∀ (kinds : List Int) (f : Int), foundF emp kinds f = f
  | [], f => rfl
  | k :: r, f => by rw [foundF, if_neg (by simp), foundF_emp r f]

theorem foundF_ne {l : List Tok} {s : PS} {kinds : List Int} (h : ¬ foundF (nextF l s) kinds 0 = 0) : nextF l s ≠ emp := by
  intro e
  rw [e, foundF_emp] at h
  exact h rfl

theorem POk.mono {l : List Tok} {N N' : Nat} {s : PS} (h : POk l N s) (hN : N ≤ N') : POk l N' s := ⟨h.le, by have := h.rem; omega, h.op0, h.op1, h.ts⟩

theorem openedF_goes {l : List Tok} {N : Nat} {read : PS → PR} (h : Goes l N read) {s s' : PS} (hs : POk l (N + 1) s) (hlt : s.at_ < l.length) (e : openedF read s = .ok s') : s.at_ + 1 < s'.at_ ∧ s'.at_ ≤ l.length ∧ s'.op = s.op ∧ s'.ts.length ≤ 256 := by
  unfold openedF at e
  split at e
  · cases e
  · split at e
    · rename_i hop q hq
      injection e with e
      subst e
      have := h ⟨s.at_ + 1, s.op + 1, s.ts⟩ _ ⟨by show s.at_ + 1 ≤ _; omega, by have := hs.rem; show _ ≤ s.at_ + 1 + N; omega, by have := hs.op0; show 0 ≤ s.op + 1; omega, by show s.op + 1 ≤ 64; omega, hs.ts⟩ hq
      simp only at this ⊢
      exact ⟨this.1, this.2.1, by omega, this.2.2.2⟩
    · cases e

theorem rowLoop_goes {l : List Tok} {N : Nat} {read : PS → PR} {kinds : List Int} (h : Goes l N read) : ∀ (m : Nat) {s s' : PS}, POk l (N + 1) s → rowLoop l read kinds m s = .ok s' → s.at_ ≤ s'.at_ ∧ s'.at_ ≤ l.length ∧ s'.op = s.op ∧ s'.ts.length ≤ 256
  | 0, s, s', hs, e => by
    injection e with e; subst e
    exact ⟨Nat.le_refl _, hs.le, rfl, hs.ts⟩
  | m + 1, s, s', hs, e => by
    rw [rowLoop] at e
    split at e
    · injection e with e; subst e
      exact ⟨Nat.le_refl _, hs.le, rfl, hs.ts⟩
    · rename_i hf
      have hlt := nextF_lt (foundF_ne hf)
      split at e
      · cases e
      · rename_i q hq
        have h1 := h ⟨s.at_ + 1, s.op, s.ts⟩ _ ⟨by show s.at_ + 1 ≤ _; omega, by have := hs.rem; show _ ≤ s.at_ + 1 + N; omega, hs.op0, hs.op1, hs.ts⟩ hq
        simp only at h1
        split at e
        · cases e
        · rename_i q' hq'
          obtain ⟨rfl, h2⟩ := putF_ok hq'
          have := rowLoop_goes h m (s := { q with ts := q.ts ++ [⟨foundF (nextF l s) kinds 0, 0, emp⟩] }) ⟨h1.2.1, by have := hs.rem; show _ ≤ q.at_ + (N + 1); omega, by rw [show (PS.op _) = _ from h1.2.2.1]; exact hs.op0, by rw [show (PS.op _) = _ from h1.2.2.1]; exact hs.op1, by simp only [List.length_append, List.length_cons, List.length_nil]; omega⟩ e
          simp only at this
          exact ⟨by omega, this.2.1, by rw [this.2.2.1, h1.2.2.1], this.2.2.2⟩

theorem rowF_goes {l : List Tok} {N : Nat} {read : PS → PR} {kinds : List Int} (h : Goes l N read) : Goes l N (rowF l read kinds) := by
  intro s s' hs e
  unfold rowF at e
  split at e
  · cases e
  · rename_i q hq
    have h1 := h _ _ hs hq
    have := rowLoop_goes h l.length ⟨h1.2.1, by have := hs.rem; omega, by rw [h1.2.2.1]; exact hs.op0, by rw [h1.2.2.1]; exact hs.op1, h1.2.2.2⟩ e
    exact ⟨by omega, this.2.1, by rw [this.2.2.1, h1.2.2.1], this.2.2.2⟩

theorem levelsF_goes {l : List Tok} {N : Nat} {read : PS → PR} (h : Goes l N read) : Goes l N (levelsF l read) :=
  rowF_goes (rowF_goes (rowF_goes (rowF_goes (rowF_goes (rowF_goes h)))))

theorem operandF_goes {l : List Tok} : ∀ N : Nat, Goes l N (operandF l N)
  | 0, s, s', _, e => by rw [operandF] at e; cases e
  | N + 1, s, s', hs, e => by
    rw [operandF] at e
    split at e
    · cases e
    · rename_i t ht
      have hlt := (List.getElem?_eq_some_iff.1 ht).1
      split at e
      · obtain ⟨rfl, h2⟩ := putF_ok e
        exact ⟨by simp only; omega, by simp only; omega, rfl, by simp only [List.length_append, List.length_cons, List.length_nil]; omega⟩
      split at e
      · obtain ⟨rfl, h2⟩ := putF_ok e
        exact ⟨by simp only; omega, by simp only; omega, rfl, by simp only [List.length_append, List.length_cons, List.length_nil]; omega⟩
      split at e
      · split at e
        · cases e
        · rename_i q hq
          have h1 := openedF_goes (levelsF_goes (operandF_goes N)) hs hlt hq
          split at e
          · rename_i hn
            injection e with e
            subst e
            have := nextF_lt (show nextF l q ≠ emp by rw [hn]; intro h; cases h)
            exact ⟨by simp only; omega, by simp only; omega, h1.2.2.1, h1.2.2.2⟩
          · cases e
      split at e
      · split at e
        · cases e
        · rename_i q hq
          have h1 := openedF_goes (operandF_goes N) hs hlt hq
          obtain ⟨rfl, h2⟩ := putF_ok e
          exact ⟨by simp only; omega, h1.2.1, h1.2.2.1, by simp only [List.length_append, List.length_cons, List.length_nil]; omega⟩
      · cases e

/-- the parser -/
def parseF (l : List Tok) : PR := levelsF l (operandF l l.length) ⟨0, 0, []⟩

end Go.Proofs.Ythhlghoeapjagaa
