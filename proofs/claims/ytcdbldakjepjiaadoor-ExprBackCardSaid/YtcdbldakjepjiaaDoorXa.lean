/- Plain Lean twins of apply and Eval of package expr; no program in sight. Plain Lean: decimal digits, numbers, texts of values; no program in sight. Plain Lean: the reference's IsSym and decimal compute what expr's do; no program in sight. Plain Lean: an expression's text; no program in sight. The parser of package expr as a plain function. No program in sight. The parser's terms are an expression; what it comes to can be printed. No program in sight. -/
import Derived.Test.YtcdbldakjepjiaaDoorLib
import Derived.Test.YtcdbldakjepjiaaDoorPlain
import Derived.Test.YtcdbldakjepjiaaDoorT
import Derived.Test.YtcdbldakjepjiaaDoorEb
import Derived.OpenShut
/-! ## Plain2 -/
set_option linter.unusedVariables false
set_option linter.unusedSimpArgs false
namespace Go.Proofs.YtcdbldakjepjiaaDoor.Ex
open Go.RowKit

def _root_.Go.Proofs.YtcdbldakjepjiaaDoor.Val.cells (x : Val) : List Value := [.int .i64 x.add, .string x.plus, .string x.minus]

/-- what an operator makes of the one or two ahead of it -/
def applyF (k : Int) (a b : Val) : Val × Int :=
  if k = 3 then (negF b, 0)
  else if k = 4 then (if plainB b.plus b.minus = true then (⟨bits .xor .i64 (-1) b.add, emp, emp⟩, 0) else (zeroV, 91))
  else if k = 8 then addF a b
  else if k = 9 then addF a (negF b)
  else if plainB a.plus a.minus = true ∧ plainB b.plus b.minus = true then (⟨(numF k a.add b.add).1, emp, emp⟩, (numF k a.add b.add).2) else (zeroV, 91)

theorem applyF_not (a : Val) {b : Val} (h : plainB b.plus b.minus = true) : applyF 4 a b = (⟨bits .xor .i64 (-1) b.add, ⟨#[]⟩, ⟨#[]⟩⟩, 0) := by simp [applyF, h, emp]
theorem applyF_not_bad (a : Val) {b : Val} (h : plainB b.plus b.minus = false) : applyF 4 a b = (⟨0, ⟨#[]⟩, ⟨#[]⟩⟩, 91) := by simp [applyF, h, zeroV, emp]
theorem applyF_add (a b : Val) : applyF 8 a b = addF a b := by simp [applyF]
theorem applyF_sub (a b : Val) : applyF 9 a b = addF a ⟨wrap64 (-b.add), b.minus, b.plus⟩ := by simp [applyF, negF]
theorem applyF_num {k : Int} {a b : Val} (k3 : (k == 3) = false) (k4 : (k == 4) = false) (k8 : (k == 8) = false) (k9 : (k == 9) = false) (ha : plainB a.plus a.minus = true) (hb : plainB b.plus b.minus = true) :
    applyF k a b = (⟨(numF k a.add b.add).1, ⟨#[]⟩, ⟨#[]⟩⟩, (numF k a.add b.add).2) := by
  simp only [beq_eq_false_iff_ne, ne_eq] at k3 k4 k8 k9
  simp [applyF, k3, k4, k8, k9, ha, hb, emp]
theorem applyF_num_bad {k : Int} {a b : Val} (k3 : (k == 3) = false) (k4 : (k == 4) = false) (k8 : (k == 8) = false) (k9 : (k == 9) = false) (h : plainB a.plus a.minus = false ∨ plainB b.plus b.minus = false) :
    applyF k a b = (⟨0, ⟨#[]⟩, ⟨#[]⟩⟩, 91) := by
  simp only [beq_eq_false_iff_ne, ne_eq] at k3 k4 k8 k9
  rcases h with h | h <;> simp [applyF, k3, k4, k8, k9, h, zeroV, emp]

/-- the strings of a value are no longer than k -/
def _root_.Go.Proofs.YtcdbldakjepjiaaDoor.Val.le (x : Val) (k : Nat) : Prop := x.plus.size ≤ k ∧ x.minus.size ≤ k

theorem clearF_le {x : Val} {k : Nat} (h : x.le k) : (clearF x).le k := clearF_size rfl h.1 h.2

theorem addF_le {a b : Val} {k : Nat} (ha : a.le k) (hb : b.le k) : (addF a b).1.le k := by
  obtain ⟨a1, a2⟩ := clearF_le ha
  obtain ⟨b1, b2⟩ := clearF_le hb
  obtain ⟨m1, m2⟩ := meetF_size (show meetF (clearF a).plus (clearF b).minus = ((meetF (clearF a).plus (clearF b).minus).1, (meetF (clearF a).plus (clearF b).minus).2) from rfl) a1 b2
  obtain ⟨m3, m4⟩ := meetF_size (show meetF (clearF a).minus (clearF b).plus = ((meetF (clearF a).minus (clearF b).plus).1, (meetF (clearF a).minus (clearF b).plus).2) from rfl) a2 b1
  unfold addF
  dsimp only
  split
  · exact ⟨by simp [zeroV, emp, ByteArray.size], by simp [zeroV, emp, ByteArray.size]⟩
  · rename_i h
    have e0 : emp.size = 0 := rfl
    constructor
    · show (_ ++ _ : ByteArray).size ≤ k
      rw [ByteArray.size_append]
      by_cases h1 : (meetF (clearF a).plus (clearF b).minus).fst = emp
      · rw [h1, e0]; omega
      · have h2 : (meetF (clearF a).minus (clearF b).plus).snd = emp := Decidable.byContradiction fun h2 => h (.inl ⟨h1, h2⟩)
        rw [h2, e0]; omega
    · show (_ ++ _ : ByteArray).size ≤ k
      rw [ByteArray.size_append]
      by_cases h1 : (meetF (clearF a).minus (clearF b).plus).fst = emp
      · rw [h1, e0]; omega
      · have h2 : (meetF (clearF a).plus (clearF b).minus).snd = emp := Decidable.byContradiction fun h2 => h (.inr ⟨h1, h2⟩)
        rw [h2, e0]; omega

theorem le_emp (n : Int) (k : Nat) : Val.le ⟨n, emp, emp⟩ k := ⟨Nat.zero_le _, Nat.zero_le _⟩

theorem applyF_le (m : Int) {a b : Val} {k : Nat} (ha : a.le k) (hb : b.le k) : (applyF m a b).1.le k := by
  have hn : (negF b).le k := ⟨hb.2, hb.1⟩
  unfold applyF
  split
  · exact hn
  split
  · split <;> exact le_emp _ _
  split
  · exact addF_le ha hb
  split
  · exact addF_le ha hn
  split <;> exact le_emp _ _

/-- what terms come to, the values 'vs' being there -/
def evalF (vs : List Val) : List Term → Val × Int
  | [] => (vs.getD 0 zeroV, 0)
  | t :: r =>
    if takesF t.kind = 0 then evalF (vs ++ [⟨t.n, t.sym, emp⟩]) r
    else
      let y := applyF t.kind (vs.getD (vs.length - 2) zeroV) (vs.getD (vs.length - 1) zeroV)
      if y.2 = 0 then evalF (vs.take (vs.length - (takesF t.kind).toNat) ++ [y.1]) r else (zeroV, y.2)

def evalAll (l : List Term) : Val × Int := if checkF l = 0 then evalF [] l else (zeroV, checkF l)

theorem evalF_leaf {vs : List Val} {t : Term} {r : List Term} (h : takesF t.kind = 0) : evalF vs (t :: r) = evalF (vs ++ [⟨t.n, t.sym, emp⟩]) r := by rw [evalF, if_pos h]
theorem evalF_op {vs : List Val} {t : Term} {r : List Term} (h : ¬ takesF t.kind = 0) {v : Val} (e : applyF t.kind (vs.getD (vs.length - 2) zeroV) (vs.getD (vs.length - 1) zeroV) = (v, 0)) :
    evalF vs (t :: r) = evalF (vs.take (vs.length - (takesF t.kind).toNat) ++ [v]) r := by
  rw [evalF, if_neg h]; dsimp only; rw [e, if_pos rfl]
theorem evalF_bad {vs : List Val} {t : Term} {r : List Term} (h : ¬ takesF t.kind = 0) {v : Val} {x : Int} (hx : ¬ x = 0) (e : applyF t.kind (vs.getD (vs.length - 2) zeroV) (vs.getD (vs.length - 1) zeroV) = (v, x)) :
    evalF vs (t :: r) = (zeroV, x) := by
  rw [evalF, if_neg h]; dsimp only; rw [e, if_neg hx]

theorem formF_cons {h : Int} {t : Term} {r : List Term} (e : formF h (t :: r) = 0) : termB t = true ∧ takesF t.kind ≤ h ∧ formF (h + (1 - takesF t.kind)) r = 0 := by
  rw [formF] at e
  split at e
  · cases e
  · rename_i hn
    refine ⟨?_, ?_, e⟩
    · cases ht : termB t with
      | true => rfl
      | false => exact (hn (.inl ht)).elim
    · exact Int.not_lt.1 fun hlt => hn (.inr hlt)
theorem formF_nil {h : Int} (e : formF h [] = 0) : h = 1 := by
  rw [formF] at e; split at e
  · assumption
  · cases e

theorem checkF_form {ts : List Term} (h : checkF ts = 0) : formF 0 ts = 0 := by
  unfold checkF at h
  split at h
  · split at h
    · cases h
    · exact h
  · exact h

theorem applyF_unary {k : Int} (h : takesF k = 1) (a a' b : Val) : applyF k a b = applyF k a' b := by
  have : k = 3 ∨ k = 4 := by
    unfold takesF at h
    split at h
    · assumption
    · split at h <;> omega
  rcases this with rfl | rfl <;> simp [applyF]

theorem vals_flat (vs : List Val) : (vs.flatMap Val.cells).length = vs.length * 3 := flat_len Val.cells 3 (fun _ => rfl) vs

end Go.Proofs.YtcdbldakjepjiaaDoor.Ex

/-! ## Plain3 -/
namespace Go.Proofs.YtcdbldakjepjiaaDoor.Ex
open Go.RowKit

/-- a number's decimal digits, at most so many -/
def decG : Nat → Nat → List UInt8
  | 0, _ => []
  | f + 1, n => if n < 10 then [UInt8.ofNat (48 + n)] else decG f (n / 10) ++ [UInt8.ofNat (48 + n % 10)]

def decS (n : Nat) : ByteArray := ⟨(decG 20 n).toArray⟩

theorem decG_len : ∀ f n, (decG f n).length ≤ f
  | 0, _ => Nat.le_refl _
  | f + 1, n => by
    rw [decG]
    split
    · simp
    · rw [List.length_append]; have := decG_len f (n / 10); simp; omega
theorem decS_size (n : Nat) : (decS n).size ≤ 20 := by
  show (decG 20 n).toArray.size ≤ 20
  rw [List.size_toArray]; exact decG_len 20 n

theorem u64_neg {n : Int} (h : n < 0) (hl : -9223372036854775808 ≤ n) : IntKind.u64.wrap (-IntKind.u64.wrap n) = (((-n).toNat : Nat) : Int) := by
  rw [IntKind.wrap_u64, IntKind.wrap_u64]; omega
theorem u64_pos {n : Int} (h : 0 ≤ n) (hl : n ≤ 9223372036854775807) : IntKind.u64.wrap n = ((n.toNat : Nat) : Int) := by
  rw [IntKind.wrap_u64]; omega

/-- a number with a sign ahead of it -/
def signS (n : Int) : ByteArray := if n < 0 then ⟨#[45]⟩ ++ decS (-n).toNat else ⟨#[43]⟩ ++ decS n.toNat

theorem signS_size (n : Int) : (signS n).size ≤ 21 := by
  have h1 := decS_size (-n).toNat
  have h2 := decS_size n.toNat
  have e1 : (⟨#[45]⟩ : ByteArray).size = 1 := rfl
  have e2 : (⟨#[43]⟩ : ByteArray).size = 1 := rfl
  unfold signS
  split <;> rw [ByteArray.size_append] <;> omega
theorem symB_size {s : ByteArray} (h : symB s = true) : s.size ≤ 512 := by
  unfold symB at h; simp at h; exact h.1
theorem emp_ne {m : ByteArray} (h : ¬ m = emp) : ¬ emp = m := fun e => h e.symm

/-- a value's text -/
def printF (v : Val) : ByteArray × Int :=
  if (v.plus ≠ emp ∧ symB v.plus = false) ∨ (v.minus ≠ emp ∧ symB v.minus = false) then (emp, 90)
  else if v.plus = v.minus ∧ v.plus ≠ emp then (emp, 90)
  else if v.plus = emp ∧ v.minus = emp then (if v.add < 0 then (signS v.add, 0) else (decS v.add.toNat, 0))
  else
    let o := if v.plus = emp then ⟨#[48]⟩ else v.plus
    let o := if v.minus = emp then o else o ++ (⟨#[45]⟩ ++ v.minus)
    (if v.add = 0 then o else o ++ signS v.add, 0)

end Go.Proofs.YtcdbldakjepjiaaDoor.Ex

/-! ## Plain6 -/
namespace Go.Proofs.YtcdbldakjepjiaaDoor.Ex
open Go.RowKit

def okB (i : Nat) (c : Int) : Bool := letterB c || (digitB c && decide (i ≠ 0))
def scanB (i : Nat) : List UInt8 → Bool
  | [] => true
  | c :: r => okB i c.toNat && scanB (i + 1) r

theorem scanB_wordy : ∀ (l : List UInt8) (i : Nat), i ≠ 0 → scanB i l = (runF wordyB l == l.length)
  | [], i, h => rfl
  | c :: r, i, h => by
    rw [scanB, scanB_wordy r (i + 1) (by omega)]
    have e : okB i c.toNat = wordyB c.toNat := by simp [okB, wordyB, h]
    rw [e]
    unfold runF
    rw [List.takeWhile_cons]
    cases wordyB c.toNat <;> simp

theorem symB_scan (s : ByteArray) : symB s = (scanB 0 s.data.toList && (!decide (s.size = 0) && decide (s.size ≤ 512))) := by
  unfold symB nameB
  have hl : s.data.toList.length = s.size := Array.length_toList
  cases e : s.data.toList with
  | nil =>
    have h0 : s.size = 0 := by rw [← hl, e]; rfl
    simp [h0]
  | cons c r =>
    have h0 : ¬ s.size = 0 := by rw [← hl, e]; simp
    have hr : s.size = r.length + 1 := by rw [← hl, e]; rfl
    rw [scanB, scanB_wordy r 1 (by omega)]
    have e1 : okB 0 c.toNat = letterB c.toNat := by simp [okB]
    rw [e1]
    cases hL : letterB c.toNat with
    | false => simp [hL]
    | true =>
      have hw : wordyB c.toNat = true := by simp [wordyB, hL]
      have e2 : runF wordyB (c :: r) = runF wordyB r + 1 := by unfold runF; rw [List.takeWhile_cons, hw]; rfl
      have e3 : (runF wordyB r + 1 == r.length + 1) = (runF wordyB r == r.length) := by rw [Bool.eq_iff_iff]; simp
      have e4 : decide (r.length + 1 = 0) = false := by simp
      simp only [hL, e2, hr, Bool.true_and, e3, e4, Bool.not_false]
      rw [Bool.and_comm]

theorem digit_at (d : Nat) (h : d < 10) : (⟨#[48, 49, 50, 51, 52, 53, 54, 55, 56, 57, 97, 98, 99, 100, 101, 102]⟩ : ByteArray).extract d (d + 1) = ⟨#[UInt8.ofNat (48 + d)]⟩ := by
  match d, h with
  | 0, _ => rfl
  | 1, _ => rfl
  | 2, _ => rfl
  | 3, _ => rfl
  | 4, _ => rfl
  | 5, _ => rfl
  | 6, _ => rfl
  | 7, _ => rfl
  | 8, _ => rfl
  | 9, _ => rfl

theorem dec_pow {m q : Nat} (h : m < 10 ^ (q + 1)) : m / 10 < 10 ^ q := by
  rw [Nat.pow_succ] at h; omega
theorem dec_pos {m q : Nat} (h : m < 10 ^ (q + 1)) (h10 : ¬ m < 10) : 0 < q := by
  rcases Nat.eq_zero_or_pos q with rfl | h0
  · simp at h; omega
  · exact h0

end Go.Proofs.YtcdbldakjepjiaaDoor.Ex

/-! ## Plain9 -/
namespace Go.Proofs.YtcdbldakjepjiaaDoor.Ex
open Go.RowKit

def signF (k : Int) : ByteArray :=
  if k = 3 then ⟨#[45]⟩ else if k = 4 then ⟨#[126]⟩ else if k = 5 then ⟨#[42]⟩ else if k = 6 then ⟨#[47]⟩ else if k = 7 then ⟨#[37]⟩ else if k = 8 then ⟨#[43]⟩ else if k = 9 then ⟨#[45]⟩
  else if k = 10 then ⟨#[60, 60]⟩ else if k = 11 then ⟨#[62, 62]⟩ else if k = 12 then ⟨#[38]⟩ else if k = 13 then ⟨#[94]⟩ else ⟨#[124]⟩

theorem signF_size (k : Int) : (signF k).size ≤ 2 := by
  unfold signF
  repeat' split
  all_goals decide

/-- a part of a text, and how many parentheses it has within each other -/
structure Pc where
  s : ByteArray
  d : Int

def par (l m r : ByteArray) : ByteArray := ((⟨#[40]⟩ ++ l ++ m) ++ r) ++ ⟨#[41]⟩

def leafF (num : Int → ByteArray) (t : Term) : Pc := ⟨if t.kind = 1 then num t.n else t.sym, 0⟩
def unF (k : Int) (x : Pc) : Pc := ⟨(⟨#[40]⟩ ++ signF k) ++ x.s ++ ⟨#[41]⟩, x.d + 1⟩
def biF (k : Int) (x y : Pc) : Pc := ⟨((⟨#[40]⟩ ++ x.s) ++ signF k) ++ y.s ++ ⟨#[41]⟩, max x.d y.d + 1⟩

def zeroP : Pc := ⟨emp, 0⟩

def stepP (num : Int → ByteArray) (st : List Pc) (t : Term) : List Pc :=
  if takesF t.kind = 0 then st ++ [leafF num t]
  else if takesF t.kind = 1 then st.take (st.length - 1) ++ [unF t.kind (st.getD (st.length - 1) zeroP)]
  else st.take (st.length - 2) ++ [biF t.kind (st.getD (st.length - 2) zeroP) (st.getD (st.length - 1) zeroP)]

def textF (num : Int → ByteArray) (st : List Pc) : List Term → List Pc
  | [] => st
  | t :: r => textF num (stepP num st t) r

def textAll (num : Int → ByteArray) (l : List Term) : ByteArray × Int :=
  if checkF l = 0 then (if 64 < ((textF num [] l).getD 0 zeroP).d then (emp, 93) else (((textF num [] l).getD 0 zeroP).s, 0)) else (emp, checkF l)

/-- how much room the parts take -/
def room (st : List Pc) : Nat := (st.map fun x => x.s.size).sum

/-- what is so after k terms -/
structure Fine (k : Nat) (st : List Pc) : Prop where
  len : st.length ≤ k
  room : room st ≤ 1000 * k
  dep : ∀ x ∈ st, 0 ≤ x.d ∧ x.d ≤ k

theorem room_append (a b : List Pc) : room (a ++ b) = room a + room b := by simp [room]
theorem room_take_drop (a : List Pc) (n : Nat) : room (a.take n) + room (a.drop n) = room a := by rw [← room_append, List.take_append_drop]

theorem Fine.last {k : Nat} {us : List Pc} {y : Pc} (h : Fine k (us ++ [y])) : y.s.size ≤ 1000 * k ∧ 0 ≤ y.d ∧ y.d ≤ k := by
  have h1 := h.room
  rw [room_append] at h1
  simp [Go.Proofs.YtcdbldakjepjiaaDoor.Ex.room] at h1
  exact ⟨by omega, h.dep y (by simp)⟩

theorem Fine.leaf {k : Nat} {st : List Pc} (h : Fine k st) {s : ByteArray} (hs : s.size ≤ 600) : Fine (k + 1) (st ++ [⟨s, 0⟩]) := by
  obtain ⟨h1, h2, h3⟩ := h
  refine ⟨by simp; omega, ?_, ?_⟩
  · rw [room_append]; simp only [Go.Proofs.YtcdbldakjepjiaaDoor.Ex.room, List.map_cons, List.map_nil, List.sum_cons, List.sum_nil] at h2 ⊢; omega
  · intro x hx
    rcases List.mem_append.1 hx with hx | hx
    · have := h3 x hx; omega
    · rw [List.mem_singleton.1 hx]; simp; omega

theorem Fine.un {k : Nat} {us : List Pc} {y : Pc} (h : Fine k (us ++ [y])) (q : Int) : Fine (k + 1) (us ++ [unF q y]) := by
  obtain ⟨h1, h2, h3⟩ := h
  have hy := h3 y (by simp)
  have hq := signF_size q
  refine ⟨by simp at h1 ⊢; omega, ?_, ?_⟩
  · rw [room_append] at h2 ⊢
    simp only [Go.Proofs.YtcdbldakjepjiaaDoor.Ex.room, List.map_cons, List.map_nil, List.sum_cons, List.sum_nil] at h2 ⊢
    have : (unF q y).s.size ≤ y.s.size + 4 := by
      simp only [unF, ByteArray.size_append]
      have e1 : (⟨#[40]⟩ : ByteArray).size = 1 := rfl
      have e2 : (⟨#[41]⟩ : ByteArray).size = 1 := rfl
      omega
    omega
  · intro x hx
    rcases List.mem_append.1 hx with hx | hx
    · have := h3 x (by simp [hx]); omega
    · rw [List.mem_singleton.1 hx]; simp only [unF]; omega

theorem Fine.bi {k : Nat} {us : List Pc} {x y : Pc} (h : Fine k (us ++ [x, y])) (q : Int) : Fine (k + 1) (us ++ [biF q x y]) := by
  obtain ⟨h1, h2, h3⟩ := h
  have hx' := h3 x (by simp)
  have hy := h3 y (by simp)
  have hq := signF_size q
  refine ⟨by simp at h1 ⊢; omega, ?_, ?_⟩
  · rw [room_append] at h2 ⊢
    simp only [Go.Proofs.YtcdbldakjepjiaaDoor.Ex.room, List.map_cons, List.map_nil, List.sum_cons, List.sum_nil] at h2 ⊢
    have : (biF q x y).s.size ≤ x.s.size + y.s.size + 4 := by
      simp only [biF, ByteArray.size_append]
      have e1 : (⟨#[40]⟩ : ByteArray).size = 1 := rfl
      have e2 : (⟨#[41]⟩ : ByteArray).size = 1 := rfl
      omega
    omega
  · intro z hz
    rcases List.mem_append.1 hz with hz | hz
    · have := h3 z (by simp [hz]); omega
    · rw [List.mem_singleton.1 hz]; simp only [biF]; omega

end Go.Proofs.YtcdbldakjepjiaaDoor.Ex

/-! ## N1 -/
namespace Go.Proofs.YtcdbldakjepjiaaDoor.Ex
open Go.RowKit

/-- how far a parser is: the next token's place, how many signs are open, the terms -/
structure PS where
  at_ : Nat
  op : Int
  ts : List Term

abbrev PR := Except Int PS

def putF (t : Term) (s : PS) : PR := if 256 < s.ts.length + 1 then .error 93 else .ok { s with ts := s.ts ++ [t] }

def nextF (l : List Tok) (s : PS) : ByteArray :=
  match l[s.at_]? with
  | some t => if t.kind = 4 then t.text else emp
  | none => emp

def openedF (read : PS → PR) (s : PS) : PR :=
  if 64 < s.op + 1 then .error 93 else
  match read ⟨s.at_ + 1, s.op + 1, s.ts⟩ with
  | .ok s' => .ok { s' with op := s'.op - 1 }
  | .error e => .error e

/-- the last of some operators whose sign that is; 0: none -/
def foundF (s : ByteArray) : List Int → Int → Int
  | [], f => f
  | k :: r, f => foundF s r (if s ≠ emp ∧ s = signF k then k else f)

def rowLoop (l : List Tok) (read : PS → PR) (kinds : List Int) : Nat → PS → PR
  | 0, s => .ok s
  | m + 1, s =>
    if foundF (nextF l s) kinds 0 = 0 then .ok s else
    match read ⟨s.at_ + 1, s.op, s.ts⟩ with
    | .error e => .error e
    | .ok s' => match putF ⟨foundF (nextF l s) kinds 0, 0, emp⟩ s' with
      | .error e => .error e
      | .ok s'' => rowLoop l read kinds m s''

def rowF (l : List Tok) (read : PS → PR) (kinds : List Int) (s : PS) : PR :=
  match read s with
  | .error e => .error e
  | .ok s' => rowLoop l read kinds l.length s'

def levelsF (l : List Tok) (read : PS → PR) : PS → PR :=
  rowF l (rowF l (rowF l (rowF l (rowF l (rowF l read [5, 6, 7]) [8, 9]) [10, 11]) [12]) [13]) [14]

def operandF (l : List Tok) : Nat → PS → PR
  | 0, _ => .error 90
  | N + 1, s => match l[s.at_]? with
    | none => .error 90
    | some t =>
      if t.kind = 2 then putF ⟨1, wrap64 t.n, emp⟩ { s with at_ := s.at_ + 1 }
      else if t.kind = 1 then putF ⟨2, 0, t.text⟩ { s with at_ := s.at_ + 1 }
      else if t.kind = 4 ∧ t.text = ⟨#[40]⟩ then
        match openedF (levelsF l (operandF l N)) s with
        | .error e => .error e
        | .ok s' => if nextF l s' = ⟨#[41]⟩ then .ok { s' with at_ := s'.at_ + 1 } else .error 90
      else if t.kind = 4 ∧ (t.text = ⟨#[45]⟩ ∨ t.text = ⟨#[126]⟩) then
        match openedF (operandF l N) s with
        | .error e => .error e
        | .ok s' => putF ⟨if t.text = ⟨#[126]⟩ then 4 else 3, 0, emp⟩ s'
      else .error 90

/-- where a parser may stand, with at most N tokens left -/
structure POk (l : List Tok) (N : Nat) (s : PS) : Prop where
  le : s.at_ ≤ l.length
  rem : l.length ≤ s.at_ + N
  op0 : 0 ≤ s.op
  op1 : s.op ≤ 64
  ts : s.ts.length ≤ 256

/-- what a part of the parser does: it goes on by at least one token, opens as much as it closes -/
def Goes (l : List Tok) (N : Nat) (F : PS → PR) : Prop :=
  ∀ s s', POk l N s → F s = .ok s' → s.at_ < s'.at_ ∧ s'.at_ ≤ l.length ∧ s'.op = s.op ∧ s'.ts.length ≤ 256

theorem putF_ok {t : Term} {s s' : PS} (h : putF t s = .ok s') : s' = { s with ts := s.ts ++ [t] } ∧ s.ts.length + 1 ≤ 256 := by
  unfold putF at h
  split at h
  · cases h
  · injection h with h; exact ⟨h.symm, by omega⟩

theorem nextF_lt {l : List Tok} {s : PS} (h : nextF l s ≠ emp) : s.at_ < l.length := by
  unfold nextF at h
  split at h
  · rename_i t ht; exact (List.getElem?_eq_some_iff.1 ht).1
  · exact absurd rfl h

theorem foundF_emp : ∀ (kinds : List Int) (f : Int), foundF emp kinds f = f
  | [], f => rfl
  | k :: r, f => by rw [foundF, if_neg (by simp), foundF_emp r f]

theorem foundF_ne {l : List Tok} {s : PS} {kinds : List Int} (h : ¬ foundF (nextF l s) kinds 0 = 0) : nextF l s ≠ emp := by
  intro e
  rw [e, foundF_emp] at h
  exact h rfl

theorem POk.mono {l : List Tok} {N N' : Nat} {s : PS} (h : POk l N s) (hN : N ≤ N') : POk l N' s := ⟨h.le, by have := h.rem; omega, h.op0, h.op1, h.ts⟩

theorem openedF_goes {l : List Tok} {N : Nat} {read : PS → PR} (h : Goes l N read) {s s' : PS} (hs : POk l (N + 1) s) (hlt : s.at_ < l.length) (e : openedF read s = .ok s') : s.at_ + 1 < s'.at_ ∧ s'.at_ ≤ l.length ∧ s'.op = s.op ∧ s'.ts.length ≤ 256 := by
  unfold openedF at e
  split at e
  · cases e
  · split at e
    · rename_i hop q hq
      injection e with e
      subst e
      have := h ⟨s.at_ + 1, s.op + 1, s.ts⟩ _ ⟨by show s.at_ + 1 ≤ _; omega, by have := hs.rem; show _ ≤ s.at_ + 1 + N; omega, by have := hs.op0; show 0 ≤ s.op + 1; omega, by show s.op + 1 ≤ 64; omega, hs.ts⟩ hq
      simp only at this ⊢
      exact ⟨this.1, this.2.1, by omega, this.2.2.2⟩
    · cases e

theorem rowLoop_goes {l : List Tok} {N : Nat} {read : PS → PR} {kinds : List Int} (h : Goes l N read) : ∀ (m : Nat) {s s' : PS}, POk l (N + 1) s → rowLoop l read kinds m s = .ok s' → s.at_ ≤ s'.at_ ∧ s'.at_ ≤ l.length ∧ s'.op = s.op ∧ s'.ts.length ≤ 256
  | 0, s, s', hs, e => by
    injection e with e; subst e
    exact ⟨Nat.le_refl _, hs.le, rfl, hs.ts⟩
  | m + 1, s, s', hs, e => by
    rw [rowLoop] at e
    split at e
    · injection e with e; subst e
      exact ⟨Nat.le_refl _, hs.le, rfl, hs.ts⟩
    · rename_i hf
      have hlt := nextF_lt (foundF_ne hf)
      split at e
      · cases e
      · rename_i q hq
        have h1 := h ⟨s.at_ + 1, s.op, s.ts⟩ _ ⟨by show s.at_ + 1 ≤ _; omega, by have := hs.rem; show _ ≤ s.at_ + 1 + N; omega, hs.op0, hs.op1, hs.ts⟩ hq
        simp only at h1
        split at e
        · cases e
        · rename_i q' hq'
          obtain ⟨rfl, h2⟩ := putF_ok hq'
          have := rowLoop_goes h m (s := { q with ts := q.ts ++ [⟨foundF (nextF l s) kinds 0, 0, emp⟩] }) ⟨h1.2.1, by have := hs.rem; show _ ≤ q.at_ + (N + 1); omega, by rw [show (PS.op _) = _ from h1.2.2.1]; exact hs.op0, by rw [show (PS.op _) = _ from h1.2.2.1]; exact hs.op1, by simp only [List.length_append, List.length_cons, List.length_nil]; omega⟩ e
          simp only at this
          exact ⟨by omega, this.2.1, by rw [this.2.2.1, h1.2.2.1], this.2.2.2⟩

theorem rowF_goes {l : List Tok} {N : Nat} {read : PS → PR} {kinds : List Int} (h : Goes l N read) : Goes l N (rowF l read kinds) := by
  intro s s' hs e
  unfold rowF at e
  split at e
  · cases e
  · rename_i q hq
    have h1 := h _ _ hs hq
    have := rowLoop_goes h l.length ⟨h1.2.1, by have := hs.rem; omega, by rw [h1.2.2.1]; exact hs.op0, by rw [h1.2.2.1]; exact hs.op1, h1.2.2.2⟩ e
    exact ⟨by omega, this.2.1, by rw [this.2.2.1, h1.2.2.1], this.2.2.2⟩

theorem levelsF_goes {l : List Tok} {N : Nat} {read : PS → PR} (h : Goes l N read) : Goes l N (levelsF l read) :=
  rowF_goes (rowF_goes (rowF_goes (rowF_goes (rowF_goes (rowF_goes h)))))

theorem operandF_goes {l : List Tok} : ∀ N : Nat, Goes l N (operandF l N)
  | 0, s, s', _, e => by rw [operandF] at e; cases e
  | N + 1, s, s', hs, e => by
    rw [operandF] at e
    split at e
    · cases e
    · rename_i t ht
      have hlt := (List.getElem?_eq_some_iff.1 ht).1
      split at e
      · obtain ⟨rfl, h2⟩ := putF_ok e
        exact ⟨by simp only; omega, by simp only; omega, rfl, by simp only [List.length_append, List.length_cons, List.length_nil]; omega⟩
      split at e
      · obtain ⟨rfl, h2⟩ := putF_ok e
        exact ⟨by simp only; omega, by simp only; omega, rfl, by simp only [List.length_append, List.length_cons, List.length_nil]; omega⟩
      split at e
      · split at e
        · cases e
        · rename_i q hq
          have h1 := openedF_goes (levelsF_goes (operandF_goes N)) hs hlt hq
          split at e
          · rename_i hn
            injection e with e
            subst e
            have := nextF_lt (show nextF l q ≠ emp by rw [hn]; intro h; cases h)
            exact ⟨by simp only; omega, by simp only; omega, h1.2.2.1, h1.2.2.2⟩
          · cases e
      split at e
      · split at e
        · cases e
        · rename_i q hq
          have h1 := openedF_goes (operandF_goes N) hs hlt hq
          obtain ⟨rfl, h2⟩ := putF_ok e
          exact ⟨by simp only; omega, h1.2.1, h1.2.2.1, by simp only [List.length_append, List.length_cons, List.length_nil]; omega⟩
      · cases e

/-- the parser -/
def parseF (l : List Tok) : PR := levelsF l (operandF l l.length) ⟨0, 0, []⟩

end Go.Proofs.YtcdbldakjepjiaaDoor.Ex

/-! ## N8 -/
namespace Go.Proofs.YtcdbldakjepjiaaDoor.Ex
open Go.RowKit

/-- how many values terms leave; none: they are none -/
def havF : Int → List Term → Option Int
  | h, [] => some h
  | h, t :: r => if termB t = false ∨ h < takesF t.kind then none else havF (h + (1 - takesF t.kind)) r

theorem havF_snoc : ∀ (ts : List Term) (h : Int) (t : Term), havF h (ts ++ [t]) = (havF h ts).bind fun q => if termB t = false ∨ q < takesF t.kind then none else some (q + (1 - takesF t.kind))
  | [], h, t => by simp only [List.nil_append, havF, Option.bind_some]
  | x :: r, h, t => by
    simp only [List.cons_append, havF]
    split
    · rfl
    · exact havF_snoc r _ t

theorem havF_form : ∀ (ts : List Term) (h : Int), havF h ts = some 1 → formF h ts = 0
  | [], h, e => by
    injection e with e
    rw [formF, if_pos e]
  | t :: r, h, e => by
    rw [havF] at e
    split at e
    · cases e
    · rename_i hn
      rw [formF, if_neg hn]
      exact havF_form r _ e

theorem havF_terms : ∀ (ts : List Term) (h q : Int), havF h ts = some q → ∀ t ∈ ts, termB t = true
  | [], h, q, _, t, ht => by simp at ht
  | x :: r, h, q, e, t, ht => by
    rw [havF] at e
    split at e
    · cases e
    · rename_i hn
      rcases List.mem_cons.1 ht with rfl | ht
      · cases hb : termB t with
        | true => rfl
        | false => exact (hn (.inl hb)).elim
      · exact havF_terms r _ q e t ht

/-- what each part of the parser does to the terms -/
def Nice (F : PS → PR) : Prop := ∀ s h, 0 ≤ h → havF 0 s.ts = some h → match F s with
  | .ok s' => havF 0 s'.ts = some (h + 1)
  | .error e => e ≠ 0

theorem putF_nice {t : Term} {s : PS} {h : Int} (hb : termB t = true) (ht : takesF t.kind ≤ h) (hs : havF 0 s.ts = some h) : match putF t s with
    | .ok s' => havF 0 s'.ts = some (h + (1 - takesF t.kind))
    | .error e => e ≠ 0 := by
  unfold putF
  by_cases hl : 256 < s.ts.length + 1
  · rw [if_pos hl]; show (93 : Int) ≠ 0; decide
  · rw [if_neg hl]
    show havF 0 (s.ts ++ [t]) = _
    rw [havF_snoc, hs, Option.bind_some, if_neg]
    rw [hb]
    rintro (h1 | h1)
    · cases h1
    · omega

theorem openedF_nice {read : PS → PR} (hr : Nice read) : Nice (openedF read) := by
  intro s h h0 hs
  unfold openedF
  by_cases hl : 64 < s.op + 1
  · rw [if_pos hl]; show (93 : Int) ≠ 0; decide
  · rw [if_neg hl]
    have := hr ⟨s.at_ + 1, s.op + 1, s.ts⟩ h h0 hs
    split at this
    · rename_i e; first | (rw [e]; exact this) | exact this
    · rename_i e; first | (rw [e]; exact this) | exact this

theorem foundF_mem {s : ByteArray} : ∀ {kinds : List Int} {f : Int}, foundF s kinds f = f ∨ foundF s kinds f ∈ kinds
  | [], f => .inl rfl
  | k :: r, f => by
    rw [foundF]
    rcases foundF_mem (s := s) (kinds := r) (f := if s ≠ emp ∧ s = signF k then k else f) with h | h
    · rw [h]
      split
      · exact .inr (by simp)
      · exact .inl rfl
    · exact .inr (List.mem_cons_of_mem _ h)

theorem rowLoop_nice {l : List Tok} {read : PS → PR} {kinds : List Int} (hk : ∀ k ∈ kinds, 5 ≤ k ∧ k ≤ 14) (hr : Nice read) : ∀ (m : Nat) (s : PS) (h : Int), 0 ≤ h → havF 0 s.ts = some (h + 1) → match rowLoop l read kinds m s with
    | .ok s' => havF 0 s'.ts = some (h + 1)
    | .error e => e ≠ 0
  | 0, s, h, _, hs => hs
  | m + 1, s, h, h0, hs => by
    rw [rowLoop]
    by_cases hf : foundF (nextF l s) kinds 0 = 0
    · rw [if_pos hf]; exact hs
    · rw [if_neg hf]
      have hm : foundF (nextF l s) kinds 0 ∈ kinds := (foundF_mem.resolve_left hf)
      have hb := hk _ hm
      have h1 := hr ⟨s.at_ + 1, s.op, s.ts⟩ (h + 1) (by omega) hs
      split at h1
      case h_2 => rename_i e he; rw [he]; exact h1
      rename_i q he
      rw [he]
      have ht : takesF (foundF (nextF l s) kinds 0) = 2 := by unfold takesF; rw [if_neg (by omega), if_pos hb]
      have h2 := putF_nice (t := ⟨foundF (nextF l s) kinds 0, 0, emp⟩) (s := q) (h := h + 1 + 1) (by
        unfold termB
        simp only
        rw [if_neg (by omega), if_neg (by omega), ht]
        simp) (by show takesF _ ≤ _; rw [ht]; omega) h1
      simp only at h2 ⊢
      rw [ht] at h2
      split at h2
      case h_2 => rename_i e he2; rw [he2]; exact h2
      rename_i q2 he2
      rw [he2]
      exact rowLoop_nice hk hr m q2 h h0 (by rw [h2]; congr 1; omega)

theorem rowF_nice {l : List Tok} {read : PS → PR} {kinds : List Int} (hk : ∀ k ∈ kinds, 5 ≤ k ∧ k ≤ 14) (hr : Nice read) : Nice (rowF l read kinds) := by
  intro s h h0 hs
  unfold rowF
  have h1 := hr s h h0 hs
  split at h1
  case h_2 => rename_i e he; rw [he]; exact h1
  rename_i q he
  rw [he]
  exact rowLoop_nice hk hr _ q h h0 h1

theorem levelsF_nice {l : List Tok} {read : PS → PR} (hr : Nice read) : Nice (levelsF l read) :=
  rowF_nice (by simp) (rowF_nice (by simp) (rowF_nice (by simp) (rowF_nice (by simp) (rowF_nice (by simp) (rowF_nice (by simp) hr)))))

/-- all names among the tokens are names -/
def Named (l : List Tok) : Prop := ∀ t ∈ l, t.kind = 1 → symB t.text = true

theorem operandF_nice {l : List Tok} (hl : Named l) : ∀ N : Nat, Nice (operandF l N)
  | 0 => fun s h _ _ => by show (90 : Int) ≠ 0; decide
  | N + 1 => by
    have ih := operandF_nice hl N
    intro s h h0 hs
    rw [operandF]
    cases ht : l[s.at_]? with
    | none => show (90 : Int) ≠ 0; decide
    | some t =>
      simp only
      by_cases c2 : t.kind = 2
      · rw [if_pos c2]
        have := putF_nice (t := ⟨1, wrap64 t.n, emp⟩) (s := { s with at_ := s.at_ + 1 }) (h := h) (by simp [termB]) (by show takesF 1 ≤ h; exact h0) hs
        rw [show takesF 1 = 0 by decide] at this
        exact this
      rw [if_neg c2]
      by_cases c1 : t.kind = 1
      · rw [if_pos c1]
        have hn := hl t (List.mem_of_getElem? ht) c1
        have := putF_nice (t := ⟨2, 0, t.text⟩) (s := { s with at_ := s.at_ + 1 }) (h := h) (by simp [termB, hn]) (by show takesF 2 ≤ h; exact h0) hs
        rw [show takesF 2 = 0 by decide] at this
        exact this
      rw [if_neg c1]
      by_cases cp : t.kind = 4 ∧ t.text = ⟨#[40]⟩
      · rw [if_pos cp]
        have h1 := openedF_nice (levelsF_nice (l := l) ih) s h h0 hs
        split at h1
        case h_2 => rename_i e he; rw [he]; exact h1
        rename_i q he
        rw [he]
        simp only
        by_cases hc : nextF l q = ⟨#[41]⟩
        · rw [if_pos hc]; exact h1
        · rw [if_neg hc]; show (90 : Int) ≠ 0; decide
      rw [if_neg cp]
      by_cases cs : t.kind = 4 ∧ (t.text = ⟨#[45]⟩ ∨ t.text = ⟨#[126]⟩)
      · rw [if_pos cs]
        have h1 := openedF_nice ih s h h0 hs
        split at h1
        case h_2 => rename_i e he; rw [he]; exact h1
        rename_i q he
        rw [he]
        simp only
        by_cases hc : t.text = ⟨#[126]⟩
        · rw [if_pos hc]
          have := putF_nice (t := ⟨4, 0, emp⟩) (s := q) (h := h + 1) (by decide) (by show takesF 4 ≤ _; rw [show takesF 4 = 1 by decide]; omega) h1
          rw [show takesF 4 = 1 by decide, show h + 1 + (1 - 1) = h + 1 by omega] at this
          exact this
        · rw [if_neg hc]
          have := putF_nice (t := ⟨3, 0, emp⟩) (s := q) (h := h + 1) (by decide) (by show takesF 3 ≤ _; rw [show takesF 3 = 1 by decide]; omega) h1
          rw [show takesF 3 = 1 by decide, show h + 1 + (1 - 1) = h + 1 by omega] at this
          exact this
      · rw [if_neg cs]; show (90 : Int) ≠ 0; decide

/-- what is read is an expression -/
theorem parseF_nice {l : List Tok} (hl : Named l) : match parseF l with
    | .ok s => checkF s.ts = 0 ∧ (∀ t ∈ s.ts, termB t = true) ∧ 1 ≤ s.at_ ∧ s.at_ ≤ l.length ∧ s.ts.length ≤ 256
    | .error e => e ≠ 0 := by
  have h1 := levelsF_nice (l := l) (operandF_nice hl l.length) ⟨0, 0, []⟩ 0 (by decide) rfl
  unfold parseF
  split at h1
  · rename_i s he
    have hg := levelsF_goes (l := l) (operandF_goes l.length) _ _ ⟨Nat.zero_le _, by simp, by decide, by decide, by simp⟩ he
    refine ⟨?_, havF_terms _ _ _ h1, by have := hg.1; simp only at this; omega, hg.2.1, hg.2.2.2⟩
    unfold checkF
    rw [if_neg (by have := hg.2.2.2; omega)]
    exact havF_form _ _ h1
  · exact h1

/-! What it comes to -/
structure GoodV (v : Val) : Prop where
  p : v.plus = emp ∨ symB v.plus = true
  m : v.minus = emp ∨ symB v.minus = true
  ne : v.plus = v.minus → v.plus = emp
  lo : -9223372036854775808 ≤ v.add
  hi : v.add ≤ 9223372036854775807

theorem wrap64_rg (n : Int) : -9223372036854775808 ≤ wrap64 n ∧ wrap64 n ≤ 9223372036854775807 := by unfold wrap64; omega
theorem bits_rg (op : BinOp) (a b : Int) : -9223372036854775808 ≤ bits op .i64 a b ∧ bits op .i64 a b ≤ 9223372036854775807 := by
  have := bounds_i64 (wf_bits op .i64 a b)
  omega

theorem goodZero : GoodV zeroV := ⟨.inl rfl, .inl rfl, fun _ => rfl, by decide, by decide⟩
theorem goodNum {a : Int} (h : -9223372036854775808 ≤ a ∧ a ≤ 9223372036854775807) : GoodV ⟨a, emp, emp⟩ := ⟨.inl rfl, .inl rfl, fun _ => rfl, h.1, h.2⟩
theorem symB_emp : symB emp = false := by decide

theorem goodNeg {v : Val} (h : GoodV v) : GoodV (negF v) := ⟨h.m, h.p, fun e => by
  have e' : v.minus = v.plus := e
  have := h.ne e'.symm
  show v.minus = emp
  rw [e']; exact this, (wrap64_rg _).1, (wrap64_rg _).2⟩

theorem goodClear {v : Val} (h : GoodV v) : GoodV (clearF v) ∧ (clearF v).plus = v.plus ∧ (clearF v).minus = v.minus := by
  unfold clearF
  by_cases e : v.plus = v.minus
  · rw [if_pos e]
    have h1 := h.ne e
    exact ⟨⟨.inl rfl, .inl rfl, fun _ => rfl, h.lo, h.hi⟩, h1.symm, by rw [← e, h1]⟩
  · rw [if_neg e]; exact ⟨h, rfl, rfl⟩

theorem append_emp (a : ByteArray) : a ++ emp = a := by
  refine ByteArray.ext ?_
  rw [ByteArray.data_append]; simp [emp]
theorem emp_append (a : ByteArray) : emp ++ a = a := by
  refine ByteArray.ext ?_
  rw [ByteArray.data_append]; simp [emp]

theorem goodAdd {a b : Val} (ha : GoodV a) (hb : GoodV b) : GoodV (addF a b).1 := by
  obtain ⟨ga, pa, ma⟩ := goodClear ha
  obtain ⟨gb, pb, mb⟩ := goodClear hb
  unfold addF
  simp only [pa, ma, pb, mb]
  split
  · exact goodZero
  · rename_i hn
    have hx : (meetF a.plus b.minus).1 = emp ∨ (meetF a.minus b.plus).2 = emp := by
      rcases Classical.em ((meetF a.plus b.minus).1 = emp) with h | h
      · exact .inl h
      · rcases Classical.em ((meetF a.minus b.plus).2 = emp) with h2 | h2
        · exact .inr h2
        · exact (hn (.inl ⟨h, h2⟩)).elim
    have hy : (meetF a.minus b.plus).1 = emp ∨ (meetF a.plus b.minus).2 = emp := by
      rcases Classical.em ((meetF a.minus b.plus).1 = emp) with h | h
      · exact .inl h
      · rcases Classical.em ((meetF a.plus b.minus).2 = emp) with h2 | h2
        · exact .inr h2
        · exact (hn (.inr ⟨h, h2⟩)).elim
    have r := wrap64_rg ((clearF a).add + (clearF b).add)
    have e0 : symB emp = false := symB_emp
    unfold meetF at hx hy ⊢
    by_cases h1 : a.plus = b.minus <;> by_cases h2 : a.minus = b.plus
    · simp only [h1, h2, if_true, append_emp]
      exact goodNum r
    · simp only [h1, h2, if_true, if_false, emp_append, append_emp] at hx hy ⊢
      exact ⟨hb.p, ha.m, fun e => (h2 e.symm).elim, r.1, r.2⟩
    · simp only [h1, h2, if_true, if_false, emp_append, append_emp] at hx hy ⊢
      exact ⟨ha.p, hb.m, fun e => (h1 e).elim, r.1, r.2⟩
    · simp only [h1, h2, if_false] at hx hy ⊢
      rcases hx with ex | ex <;> rcases hy with ey | ey
      · rw [ex, ey, emp_append, emp_append]
        exact ⟨hb.p, hb.m, hb.ne, r.1, r.2⟩
      · rw [ex, ey, emp_append, append_emp]
        exact ⟨hb.p, ha.m, fun e => (h2 e.symm).elim, r.1, r.2⟩
      · rw [ex, ey, append_emp, emp_append]
        exact ⟨ha.p, hb.m, fun e => (h1 e).elim, r.1, r.2⟩
      · rw [ex, ey, append_emp, append_emp]
        exact ⟨ha.p, ha.m, ha.ne, r.1, r.2⟩

theorem div_rg {k a b : Int} (ha : -9223372036854775808 ≤ a ∧ a ≤ 9223372036854775807) : -9223372036854775808 ≤ (divF k a b).1 ∧ (divF k a b).1 ≤ 9223372036854775807 := by
  unfold divF
  split
  · exact ⟨by decide, by decide⟩
  split
  · exact ⟨by decide, by decide⟩
  split
  · show _ ≤ a.tmod b ∧ a.tmod b ≤ _
    rcases Int.le_total 0 a with h | h
    · have h1 := Int.tmod_nonneg b h
      have h2 : a.tmod b ≤ a := by
        have := Int.emod_emod_of_dvd
        rw [Int.tmod_def]
        have h3 : 0 ≤ b * a.tdiv b := by
          rcases Int.le_total 0 b with hb | hb
          · exact Int.mul_nonneg hb (Int.tdiv_nonneg h hb)
          · have : a.tdiv b ≤ 0 := Int.tdiv_nonpos_of_nonneg_of_nonpos h hb
            have := Int.mul_nonneg_of_nonpos_of_nonpos hb this
            exact this
        omega
      omega
    · have h4 : (-a).tmod b = - a.tmod b := Int.neg_tmod ..
      have h1 := Int.tmod_nonneg (a := -a) b (by omega)
      have h2 : (-a).tmod b ≤ -a := by
        rw [Int.tmod_def]
        have h3 : 0 ≤ b * (-a).tdiv b := by
          rcases Int.le_total 0 b with hb | hb
          · exact Int.mul_nonneg hb (Int.tdiv_nonneg (by omega) hb)
          · have : (-a).tdiv b ≤ 0 := Int.tdiv_nonpos_of_nonneg_of_nonpos (by omega) hb
            exact Int.mul_nonneg_of_nonpos_of_nonpos hb this
        omega
      omega
  split
  · exact wrap64_rg _
  · exact wrap64_rg _

theorem num_rg {k a b : Int} (ha : -9223372036854775808 ≤ a ∧ a ≤ 9223372036854775807) : -9223372036854775808 ≤ (numF k a b).1 ∧ (numF k a b).1 ≤ 9223372036854775807 := by
  rcases numF_cases k a b with ⟨_, h⟩ | ⟨_, h⟩ | ⟨_, h⟩ | ⟨_, h⟩ | ⟨_, h⟩ | ⟨_, h⟩ | ⟨_, _, _, _, _, _, ⟨_, h⟩ | ⟨_, _, _, h⟩ | ⟨_, _, _, h⟩⟩
  · rw [h]; exact wrap64_rg (a * b)
  · rw [h]; exact div_rg ha
  · rw [h]; exact div_rg ha
  · rw [h]; exact bits_rg .and a b
  · rw [h]; exact bits_rg .xor a b
  · rw [h]; exact bits_rg .or a b
  · rw [h]; exact ⟨by decide, by decide⟩
  · rw [h]; exact wrap64_rg (a * 2 ^ b.toNat)
  · rw [h]; exact wrap64_rg (IntKind.u64.wrap a / 2 ^ b.toNat)

theorem goodApply {k : Int} {a b : Val} (ha : GoodV a) (hb : GoodV b) : GoodV (applyF k a b).1 := by
  unfold applyF
  split
  · exact goodNeg hb
  split
  · split
    · exact goodNum (bits_rg .xor (-1) b.add)
    · exact goodZero
  split
  · exact goodAdd ha hb
  split
  · exact goodAdd ha (goodNeg hb)
  split
  · exact goodNum (num_rg ⟨ha.lo, ha.hi⟩)
  · exact goodZero

theorem goodGet {vs : List Val} (h : ∀ v ∈ vs, GoodV v) (i : Nat) : GoodV (vs.getD i zeroV) := by
  rw [List.getD_eq_getElem?_getD]
  cases hv : vs[i]? with
  | none => exact goodZero
  | some v => exact h v (List.mem_of_getElem? hv)

theorem goodEval : ∀ (ts : List Term) (vs : List Val), (∀ v ∈ vs, GoodV v) → (∀ t ∈ ts, termB t = true) → (∀ t ∈ ts, -9223372036854775808 ≤ t.n ∧ t.n ≤ 9223372036854775807) → GoodV (evalF vs ts).1
  | [], vs, hv, _, _ => goodGet hv 0
  | t :: r, vs, hv, ht, hn => by
    have htb := ht t (by simp)
    have htn := hn t (by simp)
    rw [evalF]
    split
    · rename_i h0
      refine goodEval r _ (fun v hvm => ?_) (fun x hx => ht x (by simp [hx])) (fun x hx => hn x (by simp [hx]))
      rcases List.mem_append.1 hvm with h | h
      · exact hv v h
      · simp only [List.mem_singleton] at h
        subst h
        unfold termB at htb
        split at htb
        · have e : t.sym = emp := of_decide_eq_true htb
          rw [e]; exact goodNum htn
        split at htb
        · simp only [Bool.and_eq_true] at htb
          exact ⟨.inr htb.2, .inl rfl, fun e => e, htn.1, htn.2⟩
        · simp only [Bool.and_eq_true, decide_eq_true_eq] at htb
          have := htb.1.1
          omega
    · dsimp only
      split
      · refine goodEval r _ (fun v hvm => ?_) (fun x hx => ht x (by simp [hx])) (fun x hx => hn x (by simp [hx]))
        rcases List.mem_append.1 hvm with h | h
        · exact hv v (List.mem_of_mem_take h)
        · simp only [List.mem_singleton] at h
          subst h
          exact goodApply (goodGet hv _) (goodGet hv _)
      · exact goodZero

theorem goodPrint {v : Val} (h : GoodV v) : (printF v).2 = 0 := by
  unfold printF
  rw [if_neg, if_neg]
  · split
    · split <;> rfl
    · rfl
  · rintro ⟨e, hne⟩
    exact hne (h.ne e)
  · rintro (⟨h1, h2⟩ | ⟨h1, h2⟩)
    · rcases h.p with h3 | h3
      · exact h1 h3
      · rw [h3] at h2; cases h2
    · rcases h.m with h3 | h3
      · exact h1 h3
      · rw [h3] at h2; cases h2

theorem goodSize {v : Val} (h : GoodV v) : v.plus.size ≤ 512 ∧ v.minus.size ≤ 512 := by
  have key : ∀ s : ByteArray, s = emp ∨ symB s = true → s.size ≤ 512 := by
    rintro s (rfl | h)
    · decide
    · exact symB_size h
  exact ⟨key _ h.p, key _ h.m⟩

theorem termB_size {t : Term} (h : termB t = true) : t.sym.size ≤ 512 := by
  have e0 : emp.size = 0 := rfl
  unfold termB at h
  split at h
  · have e : t.sym = emp := of_decide_eq_true h
    rw [e, e0]; decide
  split at h
  · simp only [Bool.and_eq_true] at h
    exact symB_size h.2
  · simp only [Bool.and_eq_true, decide_eq_true_eq] at h
    rw [h.2, e0]; decide
theorem termB_n {t : Term} (h : termB t = true) (h1 : t.kind ≠ 1) : t.n = 0 := by
  unfold termB at h
  rw [if_neg h1] at h
  split at h
  · simp only [Bool.and_eq_true, decide_eq_true_eq] at h; exact h.1
  · simp only [Bool.and_eq_true, decide_eq_true_eq] at h; exact h.1.2

/-! the numbers among the terms are numbers of 64 bits -/
def Rgs (ts : List Term) : Prop := ∀ t ∈ ts, -9223372036854775808 ≤ t.n ∧ t.n ≤ 9223372036854775807
def Keeping (F : PS → PR) : Prop := ∀ s s', Rgs s.ts → F s = .ok s' → Rgs s'.ts

theorem zero_rg : -9223372036854775808 ≤ (0 : Int) ∧ (0 : Int) ≤ 9223372036854775807 := by decide
theorem putF_keep {t : Term} {s s' : PS} (ht : -9223372036854775808 ≤ t.n ∧ t.n ≤ 9223372036854775807) (hs : Rgs s.ts) (h : putF t s = .ok s') : Rgs s'.ts := by
  obtain ⟨rfl, -⟩ := putF_ok h
  intro x hx
  rcases List.mem_append.1 hx with hx | hx
  · exact hs x hx
  · simp only [List.mem_singleton] at hx
    subst hx
    exact ht

theorem openedF_keep {read : PS → PR} (hr : Keeping read) : Keeping (openedF read) := by
  intro s s' hs e
  unfold openedF at e
  split at e
  · cases e
  · split at e
    · rename_i q hq
      injection e with e
      subst e
      exact hr ⟨s.at_ + 1, s.op + 1, s.ts⟩ q hs hq
    · cases e

theorem rowLoop_keep {l : List Tok} {read : PS → PR} {kinds : List Int} (hr : Keeping read) : ∀ (m : Nat) (s s' : PS), Rgs s.ts → rowLoop l read kinds m s = .ok s' → Rgs s'.ts
  | 0, s, s', hs, e => by injection e with e; subst e; exact hs
  | m + 1, s, s', hs, e => by
    rw [rowLoop] at e
    split at e
    · injection e with e; subst e; exact hs
    · split at e
      · cases e
      · rename_i q hq
        have h1 := hr ⟨s.at_ + 1, s.op, s.ts⟩ q hs hq
        split at e
        · cases e
        · rename_i q2 hq2
          exact rowLoop_keep hr m q2 s' (putF_keep zero_rg h1 hq2) e

theorem rowF_keep {l : List Tok} {read : PS → PR} {kinds : List Int} (hr : Keeping read) : Keeping (rowF l read kinds) := by
  intro s s' hs e
  unfold rowF at e
  split at e
  · cases e
  · rename_i q hq
    exact rowLoop_keep hr _ q s' (hr s q hs hq) e

theorem operandF_keep {l : List Tok} : ∀ N : Nat, Keeping (operandF l N)
  | 0 => fun s s' _ e => by cases e
  | N + 1 => by
    have ih := operandF_keep (l := l) N
    intro s s' hs e
    rw [operandF] at e
    split at e
    · cases e
    · rename_i t ht
      split at e
      · exact putF_keep (s := { s with at_ := s.at_ + 1 }) (wrap64_rg t.n) hs e
      split at e
      · exact putF_keep (s := { s with at_ := s.at_ + 1 }) zero_rg hs e
      split at e
      · split at e
        · cases e
        · rename_i q hq
          have h1 := openedF_keep (rowF_keep (rowF_keep (rowF_keep (rowF_keep (rowF_keep (rowF_keep ih)))))) s q hs hq
          split at e
          · injection e with e; subst e; exact h1
          · cases e
      split at e
      · split at e
        · cases e
        · rename_i q hq
          exact putF_keep zero_rg (openedF_keep ih s q hs hq) e
      · cases e

theorem parseF_keep {l : List Tok} {s : PS} (h : parseF l = .ok s) : Rgs s.ts :=
  rowF_keep (rowF_keep (rowF_keep (rowF_keep (rowF_keep (rowF_keep (operandF_keep l.length)))))) ⟨0, 0, []⟩ s (fun t ht => by simp at ht) h

end Go.Proofs.YtcdbldakjepjiaaDoor.Ex
