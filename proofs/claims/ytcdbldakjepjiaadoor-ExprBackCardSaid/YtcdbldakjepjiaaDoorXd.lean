/- The parser reads what is written: rows and levels. No program in sight. -/
import Derived.Test.YtcdbldakjepjiaaDoorXa
set_option linter.unusedVariables false
set_option linter.unusedSimpArgs false
namespace Go.Proofs.YtcdbldakjepjiaaDoor.Ex
open Go.RowKit

/-- the sign that comes -/
def nxt (l : List Tok) (p : Nat) : ByteArray := match l[p]? with
  | some t => if t.kind = 4 then t.text else emp
  | none => emp
theorem nextF_nxt (l : List Tok) (s : PS) : nextF l s = nxt l s.at_ := rfl

/-- a part of the parser goes on from p to q, with that many signs open within it, and puts these terms -/
def Reads (read : PS → PR) (p q : Nat) (d : Int) (new : List Term) : Prop :=
  ∀ (op : Int) (T : List Term), 0 ≤ op → op + d ≤ 64 → T.length + new.length ≤ 256 → read ⟨p, op, T⟩ = .ok ⟨q, op, T ++ new⟩
theorem Reads.mono {read : PS → PR} {p q : Nat} {d d' : Int} {new : List Term} (h : Reads read p q d new) (hd : d ≤ d') : Reads read p q d' new := fun op T h0 h1 h2 => h op T h0 (by omega) h2
theorem putF_at {t : Term} {p : Nat} {op : Int} {T : List Term} (h : T.length + 1 ≤ 256) : putF t ⟨p, op, T⟩ = .ok ⟨p, op, T ++ [t]⟩ := by
  unfold putF
  rw [if_neg (by simp only; omega)]

/-! ### Operands -/
section
variable {l : List Tok} {N p q : Nat} {t : Tok}
theorem reads_num (ht : l[p]? = some t) (hk : t.kind = 2) : Reads (operandF l (N + 1)) p (p + 1) 0 [⟨1, wrap64 t.n, emp⟩] := by
  intro op T h0 h1 h2
  rw [operandF]
  simp only [ht, hk, if_true]
  exact putF_at h2
theorem reads_name (ht : l[p]? = some t) (hk : t.kind = 1) : Reads (operandF l (N + 1)) p (p + 1) 0 [⟨2, 0, t.text⟩] := by
  intro op T h0 h1 h2
  rw [operandF]
  simp only [ht, hk, if_true]
  rw [if_neg (by decide)]
  exact putF_at h2
theorem reads_par {d : Int} {new : List Term} (hd : 0 ≤ d) (ht : l[p]? = some t) (hk : t.kind = 4) (hx : t.text = ⟨#[40]⟩) (h : Reads (levelsF l (operandF l N)) (p + 1) q d new) (hq : nxt l q = ⟨#[41]⟩) :
    Reads (operandF l (N + 1)) p (q + 1) (d + 1) new := by
  intro op T h0 h1 h2
  rw [operandF]
  simp only [ht, hk, hx]
  rw [if_neg (by decide), if_neg (by decide), if_pos (by simp)]
  unfold openedF
  simp only
  rw [if_neg (by omega), h (op + 1) T (by omega) (by omega) h2]
  simp only [nextF_nxt, hq, if_true]
  congr 2
  omega
theorem reads_un {d : Int} {new : List Term} {k : Int} (hd : 0 ≤ d) (ht : l[p]? = some t) (hk : t.kind = 4) (hx : (k = 3 ∧ t.text = ⟨#[45]⟩) ∨ (k = 4 ∧ t.text = ⟨#[126]⟩)) (h : Reads (operandF l N) (p + 1) q d new) :
    Reads (operandF l (N + 1)) p q (d + 1) (new ++ [⟨k, 0, emp⟩]) := by
  intro op T h0 h1 h2
  rw [List.length_append] at h2
  have h3 : new.length + 1 = new.length + [(⟨k, 0, emp⟩ : Term)].length := rfl
  rw [operandF]
  simp only [ht, hk]
  have hne : ¬ t.text = ⟨#[40]⟩ := by
    rcases hx with ⟨_, e⟩ | ⟨_, e⟩ <;> rw [e] <;> decide
  have hor : t.text = ⟨#[45]⟩ ∨ t.text = ⟨#[126]⟩ := by
    rcases hx with ⟨_, e⟩ | ⟨_, e⟩
    · exact .inl e
    · exact .inr e
  rw [if_neg (by decide), if_neg (by decide), if_neg (fun h => hne h.2), if_pos ⟨trivial, hor⟩]
  unfold openedF
  simp only
  rw [if_neg (by omega), h (op + 1) T (by omega) (by omega) (by omega)]
  simp only
  have e1 : op + 1 - 1 = op := by omega
  have e2 : (if t.text = ⟨#[126]⟩ then (4 : Int) else 3) = k := by
    rcases hx with ⟨e0, e⟩ | ⟨e0, e⟩
    · rw [e, e0]; decide
    · rw [e, e0]; rfl
  rw [e1, e2, putF_at (by rw [List.length_append]; omega), List.append_assoc]
end

/-! ### Rows -/
/-- operators of a row, each with its operand -/
inductive Chn (l : List Tok) (read : PS → PR) (kinds : List Int) : Nat → Nat → Int → List Term → Prop
  | nil {q : Nat} (h : foundF (nxt l q) kinds 0 = 0) : Chn l read kinds q q 0 []
  | cons {q r z : Nat} {k d d' : Int} {b c : List Term} (hk : foundF (nxt l q) kinds 0 = k) (h0 : k ≠ 0) (hr : Reads read (q + 1) r d b) (hq : q + 1 ≤ r) (hc : Chn l read kinds r z d' c) (hd : 0 ≤ d) (hd' : 0 ≤ d') : Chn l read kinds q z (max d d') (b ++ ⟨k, 0, emp⟩ :: c)
theorem nxt_lt {l : List Tok} {q : Nat} (h : nxt l q ≠ emp) : q < l.length := by
  unfold nxt at h
  split at h
  · rename_i t ht; exact (List.getElem?_eq_some_iff.1 ht).1
  · exact absurd rfl h
theorem found_lt {l : List Tok} {q : Nat} {kinds : List Int} {k : Int} (h : foundF (nxt l q) kinds 0 = k) (h0 : k ≠ 0) : q < l.length := by
  refine nxt_lt fun e => ?_
  rw [e, foundF_emp] at h
  exact h0 h.symm
theorem chn_loop {l : List Tok} {read : PS → PR} {kinds : List Int} {q z : Nat} {d : Int} {c : List Term} (h : Chn l read kinds q z d c) : ∀ (m : Nat) (op : Int) (T : List Term), l.length ≤ q + m → 0 ≤ op → op + d ≤ 64 → T.length + c.length ≤ 256 → rowLoop l read kinds m ⟨q, op, T⟩ = .ok ⟨z, op, T ++ c⟩ := by
  induction h with
  | nil h =>
    intro m op T hm h0 h1 h2
    cases m with
    | zero => rw [rowLoop, List.append_nil]
    | succ m => rw [rowLoop, if_pos (by exact h), List.append_nil]
  | @cons q r z k d d' b c hk hk0 hr hq hc hd hd' ih =>
    intro m op T hm h0 h1 h2
    have hlt := found_lt hk hk0
    rw [List.length_append, List.length_cons] at h2
    cases m with
    | zero => omega
    | succ m =>
      rw [rowLoop, if_neg (by rw [nextF_nxt]; simp only; rw [hk]; exact hk0), hr op T h0 (by omega) (by omega)]
      simp only [nextF_nxt, hk]
      rw [putF_at (by rw [List.length_append]; omega)]
      simp only
      rw [ih m op _ (by omega) h0 (by omega) (by simp only [List.length_append, List.length_cons, List.length_nil]; omega)]
      simp only [List.append_assoc, List.cons_append, List.nil_append]
theorem chn_d {l : List Tok} {read : PS → PR} {kinds : List Int} {q z : Nat} {d : Int} {c : List Term} (h : Chn l read kinds q z d c) : 0 ≤ d := by
  cases h with
  | nil => exact Int.le_refl _
  | cons _ _ _ _ _ hd hd' => omega
theorem reads_row {l : List Tok} {read : PS → PR} {kinds : List Int} {p q z : Nat} {d d' : Int} {a c : List Term} (h : Reads read p q d a) (hc : Chn l read kinds q z d' c) : Reads (rowF l read kinds) p z (max d d') (a ++ c) := by
  intro op T h0 h1 h2
  rw [List.length_append] at h2
  unfold rowF
  rw [h op T h0 (by omega) (by omega)]
  simp only
  rw [chn_loop hc l.length op _ (by omega) h0 (by omega) (by rw [List.length_append]; omega), List.append_assoc]
theorem reads_row0 {l : List Tok} {read : PS → PR} {kinds : List Int} {p q : Nat} {d : Int} {a : List Term} (h : Reads read p q d a) (hd : 0 ≤ d) (hn : foundF (nxt l q) kinds 0 = 0) : Reads (rowF l read kinds) p q d a := by
  have := reads_row h (.nil hn)
  rw [List.append_nil, show max d 0 = d by omega] at this
  exact this

/-! ### Levels -/
/-- no operator comes -/
def Stop (l : List Tok) (q : Nat) : Prop := nxt l q = emp ∨ nxt l q = ⟨#[41]⟩
theorem stop_row {l : List Tok} {q : Nat} (h : Stop l q) (kinds : List Int) (hk : ∀ k ∈ kinds, 5 ≤ k ∧ k ≤ 14) : foundF (nxt l q) kinds 0 = 0 := by
  rcases h with h | h
  · rw [h]; exact foundF_emp _ _
  · rw [h]
    have : ∀ (kinds : List Int), (∀ k ∈ kinds, 5 ≤ k ∧ k ≤ 14) → foundF ⟨#[41]⟩ kinds 0 = 0 := by
      intro kinds
      induction kinds with
      | nil => intro _; rfl
      | cons k r ih =>
        intro hk
        have hk5 := hk k (List.mem_cons_self ..)
        rw [foundF, if_neg, ih fun x hx => hk x (List.mem_cons_of_mem _ hx)]
        rintro ⟨_, e⟩
        have hc : k = 5 ∨ k = 6 ∨ k = 7 ∨ k = 8 ∨ k = 9 ∨ k = 10 ∨ k = 11 ∨ k = 12 ∨ k = 13 ∨ k = 14 := by omega
        rcases hc with rfl | rfl | rfl | rfl | rfl | rfl | rfl | rfl | rfl | rfl <;> exact absurd e (by decide)
    exact this kinds hk
theorem reads_level0 {l : List Tok} {read : PS → PR} {p q : Nat} {d : Int} {a : List Term} (h : Reads read p q d a) (hd : 0 ≤ d) (hs : Stop l q) : Reads (levelsF l read) p q d a := by
  unfold levelsF
  exact reads_row0 (reads_row0 (reads_row0 (reads_row0 (reads_row0 (reads_row0 h hd (stop_row hs _ (by simp))) hd (stop_row hs _ (by simp))) hd (stop_row hs _ (by simp))) hd (stop_row hs _ (by simp))) hd (stop_row hs _ (by simp))) hd (stop_row hs _ (by simp))

/-- which operators are found where that one comes -/
theorem found_sign {k : Int} (h : 5 ≤ k ∧ k ≤ 14) : foundF (signF k) [5, 6, 7] 0 = (if k ≤ 7 then k else 0) ∧ foundF (signF k) [8, 9] 0 = (if k = 8 ∨ k = 9 then k else 0) ∧ foundF (signF k) [10, 11] 0 = (if k = 10 ∨ k = 11 then k else 0) ∧
    foundF (signF k) [12] 0 = (if k = 12 then k else 0) ∧ foundF (signF k) [13] 0 = (if k = 13 then k else 0) ∧ foundF (signF k) [14] 0 = (if k = 14 then k else 0) := by
  have hc : k = 5 ∨ k = 6 ∨ k = 7 ∨ k = 8 ∨ k = 9 ∨ k = 10 ∨ k = 11 ∨ k = 12 ∨ k = 13 ∨ k = 14 := by omega
  rcases hc with rfl | rfl | rfl | rfl | rfl | rfl | rfl | rfl | rfl | rfl <;> decide +kernel

/-- two operands with an operator between them, and no operator behind -/
theorem reads_two {l : List Tok} {read : PS → PR} {p q r : Nat} {d d' k : Int} {a b : List Term} (hk : 5 ≤ k ∧ k ≤ 14) (h : Reads read p q d a) (hd : 0 ≤ d) (hn : nxt l q = signF k) (h' : Reads read (q + 1) r d' b) (hd' : 0 ≤ d') (hq : q + 1 ≤ r) (hs : Stop l r) :
    Reads (levelsF l read) p r (max d d') (a ++ b ++ [⟨k, 0, emp⟩]) := by
  obtain ⟨f1, f2, f3, f4, f5, f6⟩ := found_sign hk
  rw [← hn] at f1 f2 f3 f4 f5 f6
  have st := fun kinds hk => stop_row hs kinds hk
  have up0 : ∀ {read : PS → PR} {kinds : List Int} {d : Int} {x : List Term} {p : Nat}, Reads read p q d x → 0 ≤ d → foundF (nxt l q) kinds 0 = 0 → Reads (rowF l read kinds) p q d x := fun h hd hf => reads_row0 h hd hf
  have upr : ∀ {read : PS → PR} {kinds : List Int} {d : Int} {x : List Term} {p : Nat}, Reads read p r d x → 0 ≤ d → (∀ k ∈ kinds, 5 ≤ k ∧ k ≤ 14) → Reads (rowF l read kinds) p r d x := fun h hd hf => reads_row0 h hd (st _ hf)
  have mid : ∀ {read : PS → PR} {kinds : List Int} {p : Nat}, Reads read p q d a → Reads read (q + 1) r d' b → (∀ k ∈ kinds, 5 ≤ k ∧ k ≤ 14) → foundF (nxt l q) kinds 0 = k → Reads (rowF l read kinds) p r (max d d') (a ++ b ++ [⟨k, 0, emp⟩]) := by
    intro read kinds p g1 g2 g3 g4
    have := reads_row g1 (.cons g4 (by omega) g2 hq (.nil (st _ g3)) hd' (Int.le_refl 0))
    rw [show max d (max d' 0) = max d d' by omega] at this
    simpa using this
  have hm : 0 ≤ max d d' := by omega
  unfold levelsF
  by_cases c1 : k ≤ 7
  · rw [if_pos c1] at f1
    exact upr (upr (upr (upr (upr (mid h h' (by simp) f1) hm (by simp)) hm (by simp)) hm (by simp)) hm (by simp)) hm (by simp)
  rw [if_neg c1] at f1
  by_cases c2 : k = 8 ∨ k = 9
  · rw [if_pos c2] at f2
    exact upr (upr (upr (upr (mid (up0 h hd f1) (upr h' hd' (by simp)) (by simp) f2) hm (by simp)) hm (by simp)) hm (by simp)) hm (by simp)
  rw [if_neg c2] at f2
  by_cases c3 : k = 10 ∨ k = 11
  · rw [if_pos c3] at f3
    exact upr (upr (upr (mid (up0 (up0 h hd f1) hd f2) (upr (upr h' hd' (by simp)) hd' (by simp)) (by simp) f3) hm (by simp)) hm (by simp)) hm (by simp)
  rw [if_neg c3] at f3
  by_cases c4 : k = 12
  · rw [if_pos c4] at f4
    exact upr (upr (mid (up0 (up0 (up0 h hd f1) hd f2) hd f3) (upr (upr (upr h' hd' (by simp)) hd' (by simp)) hd' (by simp)) (by simp) f4) hm (by simp)) hm (by simp)
  rw [if_neg c4] at f4
  by_cases c5 : k = 13
  · rw [if_pos c5] at f5
    exact upr (mid (up0 (up0 (up0 (up0 h hd f1) hd f2) hd f3) hd f4) (upr (upr (upr (upr h' hd' (by simp)) hd' (by simp)) hd' (by simp)) hd' (by simp)) (by simp) f5) hm (by simp)
  rw [if_neg c5] at f5
  have c6 : k = 14 := by omega
  rw [if_pos c6] at f6
  exact mid (up0 (up0 (up0 (up0 (up0 h hd f1) hd f2) hd f3) hd f4) hd f5) (upr (upr (upr (upr (upr h' hd' (by simp)) hd' (by simp)) hd' (by simp)) hd' (by simp)) hd' (by simp)) (by simp) f6

end Go.Proofs.YtcdbldakjepjiaaDoor.Ex
