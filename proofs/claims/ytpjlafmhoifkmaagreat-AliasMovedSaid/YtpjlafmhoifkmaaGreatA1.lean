/- Names: what the functions compute, as plain functions. No program in sight. -/
import Derived.Test.YtpjlafmhoifkmaaGreatA0
import Derived.Test.YtpjlafmhoifkmaaGreatPlain
set_option linter.unusedVariables false
set_option linter.unusedSimpArgs false
namespace Go.Proofs.YtpjlafmhoifkmaaGreat
open Go.RowKit

theorem size_pos {s : ByteArray} (h : ¬ s = emp) : 0 < s.size := by
  rcases Nat.eq_zero_or_pos s.size with h1 | h1
  · exact absurd (toBytes_inj (by rw [List.eq_nil_of_length_eq_zero ((toBytes_length s).trans h1)]; rfl)) h
  · exact h1
theorem emp_size : emp.size = 0 := rfl

/-! ### Decimal digits -/
def digN (s : ByteArray) : Nat → Option Int
  | 0 => some 0
  | i + 1 => match digN s i with
    | some n => if byteAt s i < 48 ∨ 57 < byteAt s i then none else some (10 * n + (byteAt s i - 48))
    | none => none
def digF (lim : Nat) (s : ByteArray) (most : Int) : Int × Bool :=
  if s = emp ∨ lim < s.size ∨ (1 < s.size ∧ byteAt s 0 = 48) then (0, false) else
  match digN s s.size with
  | some n => (n, decide (n ≤ most))
  | none => (0, false)

theorem digN_none {s : ByteArray} {i : Nat} (h : digN s i = none) : ∀ {j}, i ≤ j → digN s j = none := by
  intro j hj
  induction j with
  | zero => obtain rfl : i = 0 := by omega
            exact h
  | succ j ih =>
    by_cases e : i = j + 1
    · rw [← e]; exact h
    · rw [digN, ih (by omega)]
theorem digN_bound {s : ByteArray} : ∀ {i : Nat} {n : Int}, digN s i = some n → 0 ≤ n ∧ n < 10 ^ i
  | 0, n, h => by injection h with h; subst h; decide
  | i + 1, n, h => by
    rw [digN] at h
    split at h
    case h_2 => cases h
    rename_i m hm
    split at h
    · cases h
    · injection h with h
      have := digN_bound hm
      have e : (10 : Int) ^ (i + 1) = 10 ^ i * 10 := Int.pow_succ 10 i
      omega

theorem digN_lt {s : ByteArray} {i : Nat} {n : Int} (h : digN s i = some n) {k : Nat} (hk : i ≤ k) : 0 ≤ n ∧ n < 10 ^ k := by
  have h1 := digN_bound h
  have h2 : (10 : Int) ^ i ≤ 10 ^ k := by
    have h3 : (10 : Nat) ^ i ≤ 10 ^ k := Nat.pow_le_pow_right (by decide) hk
    exact_mod_cast h3
  omega
theorem digF_bad {lim : Nat} {s : ByteArray} {most : Int} {i : Nat} (hi : i < s.size) {n : Int} (hn : digN s i = some n) (hb : byteAt s i < 48 ∨ 57 < byteAt s i) : digF lim s most = (0, false) := by
  have h1 : digN s (i + 1) = none := by rw [digN, hn]; simp only [hb, if_true]
  unfold digF
  split
  · rfl
  · rw [digN_none h1 hi]

/-! ### Numbers below 1000 as text -/
def textF (n : Int) : ByteArray :=
  if n < 10 then ofBytes [48 + n]
  else if n < 100 then ofBytes [48 + n / 10, 48 + n % 10]
  else ofBytes [48 + n / 100, 48 + n / 10 % 10, 48 + n % 10]

/-! ### Registers -/
structure RegV where
  n : Int
  x : Bool
  sp : Bool
deriving DecidableEq

def xzrS : ByteArray := ⟨#[120, 122, 114]⟩
def wzrS : ByteArray := ⟨#[119, 122, 114]⟩
def spS : ByteArray := ⟨#[115, 112]⟩
def wspS : ByteArray := ⟨#[119, 115, 112]⟩
def xS : ByteArray := ⟨#[120]⟩
def wS : ByteArray := ⟨#[119]⟩

def regG (s : ByteArray) : Int × Bool → RegV × Int
  | (n, true) => (⟨n, decide (byteAt s 0 = 120), false⟩, 0)
  | (_, false) => (⟨0, false, false⟩, 30)
def regF (lim : Nat) (s : ByteArray) : RegV × Int :=
  if s = xzrS then (⟨31, true, false⟩, 0) else
  if s = wzrS then (⟨31, false, false⟩, 0) else
  if s = spS then (⟨31, true, true⟩, 0) else
  if s = wspS then (⟨31, false, true⟩, 0) else
  if s.size = 0 ∨ ¬ (byteAt s 0 = 120 ∨ byteAt s 0 = 119) then (⟨0, false, false⟩, 30) else
  regG s (digF lim (s.extract 1 s.size) 30)

def regNameF (r : RegV) : ByteArray × Int :=
  if r.n < 0 ∨ 31 < r.n ∨ (r.sp = true ∧ ¬ r.n = 31) then (emp, 30) else
  if r.sp = true ∧ r.x = true then (spS, 0) else
  if r.sp = true then (wspS, 0) else
  if r.n = 31 then (if r.x then xzrS else wzrS, 0) else
  ((if r.x then xS else wS) ++ textF r.n, 0)

def regOfF (n : Int) : RegV := ⟨n % 32, decide (n / 32 % 2 = 1), decide (64 ≤ n)⟩
def numOfF (r : RegV) : Int := r.n + (if r.x then 32 else 0) + (if r.sp then 64 else 0)

/-! ### Tables -/
def condsL : List (ByteArray × Int) := [(⟨#[101, 113]⟩, 0), (⟨#[110, 101]⟩, 1), (⟨#[99, 115]⟩, 2), (⟨#[99, 99]⟩, 3), (⟨#[109, 105]⟩, 4), (⟨#[112, 108]⟩, 5), (⟨#[118, 115]⟩, 6), (⟨#[118, 99]⟩, 7), (⟨#[104, 105]⟩, 8), (⟨#[108, 115]⟩, 9), (⟨#[103, 101]⟩, 10), (⟨#[108, 116]⟩, 11), (⟨#[103, 116]⟩, 12), (⟨#[108, 101]⟩, 13), (⟨#[97, 108]⟩, 14), (⟨#[110, 118]⟩, 15)]
def modsL : List (ByteArray × Int) := [(⟨#[108, 115, 108]⟩, 1), (⟨#[108, 115, 114]⟩, 2), (⟨#[97, 115, 114]⟩, 3), (⟨#[114, 111, 114]⟩, 4), (⟨#[117, 120, 116, 98]⟩, 5), (⟨#[117, 120, 116, 104]⟩, 6), (⟨#[117, 120, 116, 119]⟩, 7), (⟨#[117, 120, 116, 120]⟩, 8), (⟨#[115, 120, 116, 98]⟩, 9), (⟨#[115, 120, 116, 104]⟩, 10), (⟨#[115, 120, 116, 119]⟩, 11), (⟨#[115, 120, 116, 120]⟩, 12)]
def barriersL : List (ByteArray × Int) := [(⟨#[111, 115, 104, 108, 100]⟩, 1), (⟨#[111, 115, 104, 115, 116]⟩, 2), (⟨#[111, 115, 104]⟩, 3), (⟨#[110, 115, 104, 108, 100]⟩, 5), (⟨#[110, 115, 104, 115, 116]⟩, 6), (⟨#[110, 115, 104]⟩, 7), (⟨#[105, 115, 104, 108, 100]⟩, 9), (⟨#[105, 115, 104, 115, 116]⟩, 10), (⟨#[105, 115, 104]⟩, 11), (⟨#[108, 100]⟩, 13), (⟨#[115, 116]⟩, 14), (⟨#[115, 121]⟩, 15)]
def hintsL : List (ByteArray × Int) := [(⟨#[110, 111, 112]⟩, 0), (⟨#[121, 105, 101, 108, 100]⟩, 1), (⟨#[119, 102, 101]⟩, 2), (⟨#[119, 102, 105]⟩, 3), (⟨#[115, 101, 118]⟩, 4), (⟨#[115, 101, 118, 108]⟩, 5), (⟨#[100, 103, 104]⟩, 6), (⟨#[101, 115, 98]⟩, 16), (⟨#[99, 115, 100, 98]⟩, 20)]
def systemsL : List (ByteArray × Int) := [(⟨#[109, 100, 115, 99, 114, 95, 101, 108, 49]⟩, 18), (⟨#[109, 105, 100, 114, 95, 101, 108, 49]⟩, 16384), (⟨#[109, 112, 105, 100, 114, 95, 101, 108, 49]⟩, 16389), (⟨#[105, 100, 95, 97, 97, 54, 52, 112, 102, 114, 48, 95, 101, 108, 49]⟩, 16416), (⟨#[105, 100, 95, 97, 97, 54, 52, 105, 115, 97, 114, 48, 95, 101, 108, 49]⟩, 16432), (⟨#[105, 100, 95, 97, 97, 54, 52, 109, 109, 102, 114, 48, 95, 101, 108, 49]⟩, 16440), (⟨#[115, 99, 116, 108, 114, 95, 101, 108, 49]⟩, 16512), (⟨#[97, 99, 116, 108, 114, 95, 101, 108, 49]⟩, 16513), (⟨#[99, 112, 97, 99, 114, 95, 101, 108, 49]⟩, 16514), (⟨#[116, 116, 98, 114, 48, 95, 101, 108, 49]⟩, 16640), (⟨#[116, 116, 98, 114, 49, 95, 101, 108, 49]⟩, 16641), (⟨#[116, 99, 114, 95, 101, 108, 49]⟩, 16642), (⟨#[115, 112, 115, 114, 95, 101, 108, 49]⟩, 16896), (⟨#[101, 108, 114, 95, 101, 108, 49]⟩, 16897), (⟨#[115, 112, 95, 101, 108, 48]⟩, 16904), (⟨#[115, 112, 115, 101, 108]⟩, 16912), (⟨#[99, 117, 114, 114, 101, 110, 116, 101, 108]⟩, 16914), (⟨#[101, 115, 114, 95, 101, 108, 49]⟩, 17040), (⟨#[102, 97, 114, 95, 101, 108, 49]⟩, 17152), (⟨#[112, 97, 114, 95, 101, 108, 49]⟩, 17312), (⟨#[109, 97, 105, 114, 95, 101, 108, 49]⟩, 17680), (⟨#[118, 98, 97, 114, 95, 101, 108, 49]⟩, 17920), (⟨#[105, 115, 114, 95, 101, 108, 49]⟩, 17928), (⟨#[99, 111, 110, 116, 101, 120, 116, 105, 100, 114, 95, 101, 108, 49]⟩, 18049), (⟨#[116, 112, 105, 100, 114, 95, 101, 108, 49]⟩, 18052), (⟨#[99, 116, 114, 95, 101, 108, 48]⟩, 22529), (⟨#[100, 99, 122, 105, 100, 95, 101, 108, 48]⟩, 22535), (⟨#[110, 122, 99, 118]⟩, 23056), (⟨#[100, 97, 105, 102]⟩, 23057), (⟨#[102, 112, 99, 114]⟩, 23072), (⟨#[102, 112, 115, 114]⟩, 23073), (⟨#[116, 112, 105, 100, 114, 95, 101, 108, 48]⟩, 24194), (⟨#[116, 112, 105, 100, 114, 114, 111, 95, 101, 108, 48]⟩, 24195), (⟨#[99, 110, 116, 102, 114, 113, 95, 101, 108, 48]⟩, 24320), (⟨#[99, 110, 116, 112, 99, 116, 95, 101, 108, 48]⟩, 24321), (⟨#[99, 110, 116, 118, 99, 116, 95, 101, 108, 48]⟩, 24322), (⟨#[99, 110, 116, 112, 95, 99, 116, 108, 95, 101, 108, 48]⟩, 24337), (⟨#[99, 110, 116, 118, 95, 99, 116, 108, 95, 101, 108, 48]⟩, 24345), (⟨#[99, 110, 116, 118, 95, 99, 118, 97, 108, 95, 101, 108, 48]⟩, 24346)]
def fetchesL : List (ByteArray × Int) := [(⟨#[112, 108, 100, 108, 49, 107, 101, 101, 112]⟩, 0), (⟨#[112, 108, 100, 108, 49, 115, 116, 114, 109]⟩, 1), (⟨#[112, 108, 100, 108, 50, 107, 101, 101, 112]⟩, 2), (⟨#[112, 108, 100, 108, 50, 115, 116, 114, 109]⟩, 3), (⟨#[112, 108, 100, 108, 51, 107, 101, 101, 112]⟩, 4), (⟨#[112, 108, 100, 108, 51, 115, 116, 114, 109]⟩, 5), (⟨#[112, 108, 105, 108, 49, 107, 101, 101, 112]⟩, 8), (⟨#[112, 108, 105, 108, 49, 115, 116, 114, 109]⟩, 9), (⟨#[112, 108, 105, 108, 50, 107, 101, 101, 112]⟩, 10), (⟨#[112, 108, 105, 108, 50, 115, 116, 114, 109]⟩, 11), (⟨#[112, 108, 105, 108, 51, 107, 101, 101, 112]⟩, 12), (⟨#[112, 108, 105, 108, 51, 115, 116, 114, 109]⟩, 13), (⟨#[112, 115, 116, 108, 49, 107, 101, 101, 112]⟩, 16), (⟨#[112, 115, 116, 108, 49, 115, 116, 114, 109]⟩, 17), (⟨#[112, 115, 116, 108, 50, 107, 101, 101, 112]⟩, 18), (⟨#[112, 115, 116, 108, 50, 115, 116, 114, 109]⟩, 19), (⟨#[112, 115, 116, 108, 51, 107, 101, 101, 112]⟩, 20), (⟨#[112, 115, 116, 108, 51, 115, 116, 114, 109]⟩, 21)]
def partsL : List (ByteArray × Int) := [(⟨#[115, 112, 115, 101, 108]⟩, 0), (⟨#[100, 97, 105, 102, 115, 101, 116]⟩, 1), (⟨#[100, 97, 105, 102, 99, 108, 114]⟩, 2), (⟨#[112, 97, 110]⟩, 3), (⟨#[117, 97, 111]⟩, 4), (⟨#[100, 105, 116]⟩, 5)]
def tblF (kind : Int) : List (ByteArray × Int) :=
  if kind = 2 then condsL else if kind = 3 then modsL else if kind = 4 then barriersL else if kind = 5 then hintsL else if kind = 6 then systemsL else if kind = 7 then fetchesL else if kind = 8 then partsL else []

/-! ### System registers by numbers -/
def partF (n : Int) (low width : Nat) : ByteArray := textF (n / 2 ^ low % 2 ^ width)
def s1 : ByteArray := ⟨#[115]⟩
def us : ByteArray := ⟨#[95]⟩
def usc : ByteArray := ⟨#[95, 99]⟩
def sysNameF (n : Int) : ByteArray := s1 ++ textF (n / 16384 + 2) ++ us ++ textF (n / 2048 % 8) ++ usc ++ textF (n / 128 % 16) ++ usc ++ textF (n / 8 % 16) ++ us ++ textF (n % 8)

/-- the first name of a number in a table -/
def nameIn : List (ByteArray × Int) → Int → Option ByteArray
  | [], _ => none
  | r :: l, n => if r.2 = n then some r.1 else nameIn l n
/-- the first number of a name in a table -/
def numIn : List (ByteArray × Int) → ByteArray → Option Int
  | [], _ => none
  | r :: l, s => if r.1 = s then some r.2 else numIn l s

def nameF (kind n : Int) : ByteArray × Int :=
  if kind = 1 then (if n < 0 ∨ 128 ≤ n then (emp, 30) else regNameF (regOfF n)) else
  match nameIn (tblF kind) n with
  | some s => (s, 0)
  | none => if kind = 6 ∧ 0 ≤ n ∧ n < 32768 then (sysNameF n, 0) else (emp, 30)

theorem nameIn_drop {l : List (ByteArray × Int)} {n : Int} : ∀ {i : Nat}, i ≤ l.length → (∀ j r, j < i → l[j]? = some r → ¬ r.2 = n) → nameIn l n = nameIn (l.drop i) n := by
  intro i
  induction i generalizing l with
  | zero => intro _ _; rfl
  | succ i ih =>
    intro hi h
    cases l with
    | nil => simp at hi
    | cons r l =>
      rw [nameIn, if_neg (h 0 r (by omega) rfl), List.drop_succ_cons]
      exact ih (by simpa using hi) fun j r' hj hr => h (j + 1) r' (by omega) (by simpa using hr)
theorem nameIn_at {l : List (ByteArray × Int)} {n : Int} {i : Nat} {r : ByteArray × Int} (h : ∀ j r, j < i → l[j]? = some r → ¬ r.2 = n) (hr : l[i]? = some r) (hn : r.2 = n) : nameIn l n = some r.1 := by
  have hi : i < l.length := (List.getElem?_eq_some_iff.1 hr).1
  rw [nameIn_drop (Nat.le_of_lt hi) h, List.drop_eq_getElem_cons hi, nameIn, if_pos]
  · rw [List.getElem?_eq_getElem hi] at hr; injection hr with hr; rw [hr]
  · rw [List.getElem?_eq_getElem hi] at hr; injection hr with hr; rw [hr, hn]
theorem nameIn_none {l : List (ByteArray × Int)} {n : Int} (h : ∀ j r, j < l.length → l[j]? = some r → ¬ r.2 = n) : nameIn l n = none := by
  rw [nameIn_drop (Nat.le_refl _) h, List.drop_length, nameIn]
theorem numIn_drop {l : List (ByteArray × Int)} {n : ByteArray} : ∀ {i : Nat}, i ≤ l.length → (∀ j r, j < i → l[j]? = some r → ¬ r.1 = n) → numIn l n = numIn (l.drop i) n := by
  intro i
  induction i generalizing l with
  | zero => intro _ _; rfl
  | succ i ih =>
    intro hi h
    cases l with
    | nil => simp at hi
    | cons r l =>
      rw [numIn, if_neg (h 0 r (by omega) rfl), List.drop_succ_cons]
      exact ih (by simpa using hi) fun j r' hj hr => h (j + 1) r' (by omega) (by simpa using hr)
theorem numIn_at {l : List (ByteArray × Int)} {n : ByteArray} {i : Nat} {r : ByteArray × Int} (h : ∀ j r, j < i → l[j]? = some r → ¬ r.1 = n) (hr : l[i]? = some r) (hn : r.1 = n) : numIn l n = some r.2 := by
  have hi : i < l.length := (List.getElem?_eq_some_iff.1 hr).1
  rw [numIn_drop (Nat.le_of_lt hi) h, List.drop_eq_getElem_cons hi, numIn, if_pos]
  · rw [List.getElem?_eq_getElem hi] at hr; injection hr with hr; rw [hr]
  · rw [List.getElem?_eq_getElem hi] at hr; injection hr with hr; rw [hr, hn]
theorem numIn_none {l : List (ByteArray × Int)} {n : ByteArray} (h : ∀ j r, j < l.length → l[j]? = some r → ¬ r.1 = n) : numIn l n = none := by
  rw [numIn_drop (Nat.le_refl _) h, List.drop_length, numIn]

end Go.Proofs.YtpjlafmhoifkmaaGreat
