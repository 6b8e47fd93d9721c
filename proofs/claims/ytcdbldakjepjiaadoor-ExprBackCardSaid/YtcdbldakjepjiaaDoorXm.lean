/- Tokens as a line, read again: plain, for expressions. No program in sight but for the names. -/
import Derived.Test.YtcdbldakjepjiaaDoorLA
import Derived.Test.YtcdbldakjepjiaaDoorLQ
import Derived.Test.YtcdbldakjepjiaaDoorXa
import Derived.Lib.ItoaMem
set_option linter.unusedVariables false
set_option linter.unusedSimpArgs false
namespace Go.Proofs.YtcdbldakjepjiaaDoor.Ex
open Go.RowKit
set_option maxRecDepth 100000

def decF (n : Int) : ByteArray := ⟨(Lib.decDigits n.toNat).toArray⟩
theorem decF_small {n : Int} (h0 : 0 ≤ n) (h : n < 10) : decF n = ofBytes [48 + n] := by
  unfold decF
  rw [Lib.decDigits_one (by omega)]
  unfold ofBytes
  simp only [List.map_cons, List.map_nil]
  rw [show (48 + n).toNat = 48 + n.toNat by omega]
theorem decF_big {n : Int} (h : 10 ≤ n) : decF n = decF (n / 10) ++ ofBytes [48 + n % 10] := by
  unfold decF
  rw [Lib.decDigits, dif_neg (by omega)]
  have e1 : (n / 10).toNat = n.toNat / 10 := by omega
  have e2 : (48 + n % 10).toNat = 48 + n.toNat % 10 := by omega
  rw [e1]
  unfold ofBytes
  simp only [List.map_cons, List.map_nil, e2]
  refine ByteArray.ext ?_
  simp [ByteArray.append]

theorem decF_size {n : Int} (h0 : 0 ≤ n) (h : n < 18446744073709551616) : (decF n).size ≤ 20 := by
  have e : (decF n).size = (Lib.decDigits n.toNat).length := by simp [decF, ByteArray.size]
  rw [e, Lib.decDigits_length]
  rcases Nat.eq_zero_or_pos n.toNat with h1 | h1
  · rw [h1]; decide +kernel
  · have := Lib.numDigits_eq n.toNat h1 (by omega)
    split at this <;> omega
def textT (t : Tok) : ByteArray := if checkT t = 0 then if t.kind = 2 then decF t.n else if t.kind = 3 then ofBytes (quoteL (toBytes t.text)) else t.text else emp

/-! ### Plain -/
def wordT (t : Tok) : Bool := decide (t.kind = 1) || decide (t.kind = 2)
def slashT (t : Tok) : Bool := decide (t.kind = 4) && decide (t.text = ⟨#[47]⟩)
def apartF (a b : Tok) : Bool := (wordT a && wordT b) || (slashT a && slashT b)
def sepF (p : Option Tok) (t : Tok) : Bool := match p with | some a => apartF a t | none => false
def spB : ByteArray := ⟨#[32]⟩
def addT (p : Option Tok) (acc : ByteArray) (t : Tok) : ByteArray := (if sepF p t = true then acc ++ spB else acc) ++ textT t
def printR : Option Tok → ByteArray → List Tok → Option ByteArray
  | _, acc, [] => some acc
  | p, acc, t :: r => if 512 < (addT p acc t).size then none else printR (some t) (addT p acc t) r
def allT (l : List Tok) : Bool := l.all fun t => decide (checkT t = 0)
def linF (l : List Tok) : ByteArray × Int := if allT l = true then match printR none emp l with | some b => (b, 0) | none => (emp, 3) else (emp, 1)
def prevT (l : List Tok) (i : Nat) : Option Tok := if i = 0 then none else l[i - 1]?
def smallT (t : Tok) : Prop := t.text.size ≤ 140737488351232 ∧ 0 ≤ t.n ∧ t.n < 18446744073709551616

theorem check_is {t : Tok} (h : checkT t = 0) : isT t = true ∧ 0 ≤ t.pos ∧ (t.n = 0 ∨ t.kind = 2) := by
  unfold checkT at h
  split at h
  · assumption
  · cases h
theorem check_kind {t : Tok} (h : checkT t = 0) : t.kind = 1 ∨ t.kind = 2 ∨ t.kind = 3 ∨ t.kind = 4 := by
  have := (check_is h).1
  unfold isT at this
  split at this
  · exact .inl (by assumption)
  · split at this
    · exact .inr (.inl (by assumption))
    · split at this
      · exact .inr (.inr (.inl (by assumption)))
      · split at this
        · exact .inr (.inr (.inr (by assumption)))
        · cases this
theorem check_text {t : Tok} (h : checkT t = 0) (k : t.kind = 3) : t.text.size ≤ 512 := by
  have := (check_is h).1
  unfold isT at this
  rw [if_neg (by omega), if_neg (by omega), if_pos k] at this
  exact of_decide_eq_true this
theorem size_ofBytes (l : List Int) : (ofBytes l).size = l.length := by simp [ofBytes, ByteArray.size]
theorem quoteL_len (l : List Int) : (quoteL l).length ≤ 4 * l.length + 2 := by
  have := quoteB_len l
  unfold quoteL
  simp only [List.length_cons, List.length_append, List.length_nil]
  omega
theorem textT_size {t : Tok} (h : checkT t = 0) (hs : smallT t) : 0 < (textT t).size ∧ (textT t).size ≤ 140737488351232 := by
  obtain ⟨h1, h2, h3⟩ := hs
  have hi := (check_is h).1
  unfold textT
  rw [if_pos h]
  rcases check_kind h with k | k | k | k
  · rw [if_neg (by omega), if_neg (by omega)]
    unfold isT at hi
    rw [if_pos k] at hi
    unfold nameL at hi
    simp only [Bool.and_eq_true, decide_eq_true_eq] at hi
    have := hi.1.1
    rw [toBytes_length] at this
    exact ⟨this, h1⟩
  · rw [if_pos k]
    have := decF_size h2 h3
    have h4 : (decF t.n).size = (Lib.decDigits t.n.toNat).length := by simp [decF, ByteArray.size]
    have h5 : 0 < (Lib.decDigits t.n.toNat).length := by rw [Lib.decDigits]; split <;> simp
    omega
  · rw [if_neg (by omega), if_pos k, size_ofBytes]
    have := quoteL_len (toBytes t.text)
    have h4 := check_text h k
    rw [toBytes_length] at this
    refine ⟨by unfold quoteL; simp, by omega⟩
  · rw [if_neg (by omega), if_neg (by omega)]
    unfold isT at hi
    rw [if_neg (by omega), if_neg (by omega), if_neg (by omega), if_pos k] at hi
    have := of_decide_eq_true hi
    exact ⟨this.1, h1⟩
theorem addT_size {p : Option Tok} {acc : ByteArray} {t : Tok} (h : checkT t = 0) (hs : smallT t) (ha : acc.size ≤ 512) : 0 < (addT p acc t).size ∧ (addT p acc t).size ≤ 140737488351745 := by
  have := textT_size h hs
  unfold addT
  rw [ByteArray.size_append]
  split
  · rw [ByteArray.size_append]
    have : spB.size = 1 := rfl
    omega
  · omega
theorem allT_get {l : List Tok} (h : allT l = true) {i : Nat} {t : Tok} (ht : l[i]? = some t) : checkT t = 0 := by
  unfold allT at h
  rw [List.all_eq_true] at h
  exact of_decide_eq_true (h t (List.mem_of_getElem? ht))
theorem allT_not {l : List Tok} {i : Nat} {t : Tok} (ht : l[i]? = some t) (hc : ¬ checkT t = 0) : allT l = false := by
  cases h : allT l with
  | false => rfl
  | true => exact absurd (allT_get h ht) hc
theorem allT_take {l : List Tok} (h : ∀ i t, i < l.length → l[i]? = some t → checkT t = 0) : allT l = true := by
  unfold allT
  rw [List.all_eq_true]
  intro t ht
  obtain ⟨i, hi, rfl⟩ := List.mem_iff_getElem.1 ht
  exact decide_eq_true (h i _ hi (List.getElem?_eq_getElem hi))
theorem drop_get {l : List Tok} {i : Nat} {t : Tok} (h : l[i]? = some t) : l.drop i = t :: l.drop (i + 1) := by
  obtain ⟨hi, rfl⟩ := List.getElem?_eq_some_iff.1 h
  exact List.drop_eq_getElem_cons hi
theorem prev_succ (l : List Tok) (i : Nat) : prevT l (i + 1) = l[i]? := by
  unfold prevT; rw [if_neg (by omega), Nat.add_sub_cancel]
theorem printR_step {l : List Tok} {i : Nat} {t : Tok} {acc : ByteArray} (h : l[i]? = some t) : printR (prevT l i) acc (l.drop i) = if 512 < (addT (prevT l i) acc t).size then none else printR (prevT l (i + 1)) (addT (prevT l i) acc t) (l.drop (i + 1)) := by
  rw [drop_get h, printR, prev_succ, h]


/-! ### Digits -/
def dL (n : Int) : List Int := toBytes (decF n)
theorem dL_small {n : Int} (h0 : 0 ≤ n) (h : n < 10) : dL n = [48 + n] := by
  unfold dL
  rw [decF_small h0 h, toBytes_ofBytes (by simp; omega)]
theorem dL_big {n : Int} (h : 10 ≤ n) : dL n = dL (n / 10) ++ [48 + n % 10] := by
  unfold dL
  rw [decF_big h, toBytes_append, toBytes_ofBytes (by simp; omega)]
theorem dL_facts : ∀ (N : Nat) (n : Int), n.toNat ≤ N → 0 ≤ n → (∀ c ∈ dL n, 48 ≤ c ∧ c ≤ 57) ∧ natL 10 (dL n) = n ∧ 1 ≤ (dL n).length ∧ (1 ≤ n → bAt (dL n) 0 ≠ 48) ∧ (n < 10 → (dL n).length = 1) := by
  intro N
  induction N with
  | zero =>
    intro n hN h0
    obtain rfl : n = 0 := by omega
    rw [dL_small (by omega) (by omega)]
    refine ⟨by simp, rfl, by simp, by omega, by simp⟩
  | succ N ih =>
    intro n hN h0
    by_cases h : n < 10
    · rw [dL_small h0 h]
      refine ⟨by simp; omega, ?_, by simp, ?_, by simp⟩
      · show (0 * 10 + hexB (48 + n) : Int) = n
        unfold hexB
        rw [if_pos (by omega)]
        omega
      · intro h1
        show 48 + n ≠ 48
        omega
    · obtain ⟨i1, i2, i3, i4, i5⟩ := ih (n / 10) (by omega) (by omega)
      rw [dL_big (by omega)]
      refine ⟨?_, ?_, ?_, ?_, ?_⟩
      · intro c hc
        rw [List.mem_append, List.mem_singleton] at hc
        rcases hc with hc | rfl
        · exact i1 c hc
        · omega
      · unfold natL at i2 ⊢
        rw [List.foldl_append, i2]
        show n / 10 * 10 + hexB (48 + n % 10) = n
        unfold hexB
        rw [if_pos (by omega)]
        omega
      · simp
      · intro _
        rw [bAt_app (by omega)]
        exact i4 (by omega)
      · omega
theorem digit_bAt {l : List Int} (h : ∀ c ∈ l, 48 ≤ c ∧ c ≤ 57) {i : Nat} (hi : i < l.length) : 48 ≤ bAt l i ∧ bAt l i ≤ 57 := by
  have := bAt_get hi
  exact h _ (List.mem_of_getElem? this)
theorem digit_hex {c : Int} (h : 48 ≤ c ∧ c ≤ 57) : hexB c = c - 48 := by unfold hexB; rw [if_pos h]
theorem hex_digit {c : Int} (h : hexB c < 10) : 48 ≤ c ∧ c ≤ 57 := by
  unfold hexB at h
  split at h
  · assumption
  · split at h
    · omega
    · split at h <;> omega
theorem digit_wordy {c : Int} (h : 48 ≤ c ∧ c ≤ 57) : wordyB c = true := by
  unfold wordyB digitB
  rw [decide_eq_true h, Bool.or_true]

/-- what may stand behind a word -/
def NoWord (r : List Int) : Prop := r = [] ∨ wordyB (bAt r 0) = false
theorem noWord_at {a r : List Int} (h : NoWord r) : ¬ (a.length < (a ++ r).length ∧ wordyB (bAt (a ++ r) a.length) = true) := by
  rintro ⟨h1, h2⟩
  rw [bAt_app2] at h2
  rcases h with rfl | h
  · simp at h1
  · rw [h] at h2; cases h2
theorem number_of {n : Int} (h0 : 0 ≤ n) (h1 : n < 18446744073709551616) {r : List Int} (hr : NoWord r) : numberL (dL n ++ r) = (n, (dL n).length) := by
  obtain ⟨f1, f2, f3, f4, f5⟩ := dL_facts n.toNat n (Nat.le_refl _) h0
  have hb0 : bAt (dL n ++ r) 0 = bAt (dL n) 0 := bAt_app (by omega)
  have hd0 := digit_bAt f1 (i := 0) (by omega)
  have hz : ∀ c : Int, c = 120 ∨ c = 98 → ¬ (1 < (dL n ++ r).length ∧ bAt (dL n ++ r) 0 = 48 ∧ bAt (dL n ++ r) 1 = c) := by
    rintro c hc ⟨g1, g2, g3⟩
    rw [hb0] at g2
    have hn : n = 0 := by
      by_cases h : 1 ≤ n
      · exact absurd g2 (f4 h)
      · omega
    have hl := f5 (by omega)
    have e : bAt (dL n ++ r) 1 = bAt r 0 := by rw [← hl, bAt_app2]
    rcases hr with rfl | hr
    · simp at g1; omega
    · rw [← e, g3] at hr
      rcases hc with rfl | rfl <;> exact absurd hr (by decide)
  have hbase : baseL (dL n ++ r) = 10 := by
    unfold baseL
    rw [if_neg (hz 120 (.inl rfl)), if_neg (hz 98 (.inr rfl))]
  have hhead : headL (dL n ++ r) = 0 := by
    unfold headL
    rw [if_neg]
    rintro ⟨g1, g2, g3 | g3⟩
    · exact hz 120 (.inl rfl) ⟨g1, g2, g3⟩
    · exact hz 98 (.inr rfl) ⟨g1, g2, g3⟩
  have hrun : hexRun 10 (dL n ++ r) = (dL n).length := by
    refine runL_eq _ _ _ (by simp) (fun i hi => ?_) (fun hi => ?_)
    · rw [bAt_app hi]
      have := digit_bAt f1 hi
      rw [digit_hex this]
      exact decide_eq_true (by omega)
    · refine decide_eq_false fun h => ?_
      have := digit_wordy (hex_digit h)
      exact noWord_at hr ⟨hi, this⟩
  unfold numberL
  rw [hbase, hhead, List.drop_zero, hrun, hb0, if_neg (by omega), if_neg, List.take_left, f2, if_neg (by omega), Nat.zero_add]
  rintro (g | ⟨_, g1, g2⟩)
  · omega
  · by_cases h : 1 ≤ n
    · exact f4 h g2
    · have := f5 (by omega); omega

/-! ### Quotes -/
theorem quote1_step {c : Int} (h0 : 0 ≤ c) (h1 : c ≤ 255) (x : List Int) : qStep (quote1 c ++ x) = .put c (quote1 c).length := by
  have hx16 : hexB (hexd (c / 16)) = c / 16 := by
    unfold hexd hexB
    by_cases h : c / 16 < 10
    · rw [if_pos h, if_pos (by omega)]; omega
    · rw [if_neg h, if_neg (by omega), if_pos (by omega)]; omega
  have hx1 : hexB (hexd (c % 16)) = c % 16 := by
    unfold hexd hexB
    by_cases h : c % 16 < 10
    · rw [if_pos h, if_pos (by omega)]; omega
    · rw [if_neg h, if_neg (by omega), if_pos (by omega)]; omega
  by_cases hs : shortL c ≠ 0
  · have e : quote1 c = [92, shortL c] := by unfold quote1; rw [if_pos hs]
    have hl : longL (shortL c) = some c := by
      unfold shortL at hs ⊢
      by_cases c0 : c = 0
      · subst c0; rfl
      by_cases c1 : c = 9
      · subst c1; rfl
      by_cases c2 : c = 10
      · subst c2; rfl
      by_cases c3 : c = 13
      · subst c3; rfl
      by_cases c4 : c = 34
      · subst c4; rfl
      by_cases c5 : c = 92
      · subst c5; rfl
      · simp only [c0, c1, c2, c3, c4, c5, or_self, if_false] at hs
        exact absurd rfl hs
    rw [e]
    unfold qStep
    rw [if_neg (by simp), if_neg (by show ¬ (92 : Int) = 34; decide), if_pos (by rfl)]
    have : escL (List.drop 1 ([92, shortL c] ++ x)) = some (c, 1) := by
      show escL (shortL c :: x) = _
      unfold escL
      rw [if_neg (by simp), bAt_zero, hl]
    rw [this]
    rfl
  have hs0 : shortL c = 0 := by simpa using hs
  have hne : c ≠ 34 ∧ c ≠ 92 := by
    constructor
    · rintro rfl; exact absurd hs0 (by decide)
    · rintro rfl; exact absurd hs0 (by decide)
  by_cases hw : shownB c = true
  · have e : quote1 c = [c] := by unfold quote1; rw [if_neg hs, if_pos hw]
    rw [e]
    unfold qStep
    rw [if_neg (by simp), if_neg (by show ¬ c = 34; exact hne.1), if_neg (by show ¬ c = 92; exact hne.2), if_pos (by exact hw)]
    rfl
  · have e : quote1 c = [92, 120, hexd (c / 16), hexd (c % 16)] := by unfold quote1; rw [if_neg hs, if_neg hw]
    rw [e]
    unfold qStep
    rw [if_neg (by simp), if_neg (by show ¬ (92 : Int) = 34; decide), if_pos (by rfl)]
    have : escL (List.drop 1 ([92, 120, hexd (c / 16), hexd (c % 16)] ++ x)) = some (c, 3) := by
      show escL (120 :: hexd (c / 16) :: hexd (c % 16) :: x) = _
      unfold escL
      have hl : longL (bAt (120 :: hexd (c / 16) :: hexd (c % 16) :: x) 0) = none := by rw [bAt_zero]; rfl
      rw [if_neg (by simp), hl]
      have b1 : bAt (120 :: hexd (c / 16) :: hexd (c % 16) :: x) 1 = hexd (c / 16) := rfl
      have b2 : bAt (120 :: hexd (c / 16) :: hexd (c % 16) :: x) 2 = hexd (c % 16) := rfl
      simp only [b1, b2, hx16, hx1]
      rw [if_pos ⟨by simp, rfl, by omega, by omega⟩]
      congr 2
      omega
    rw [this]
    rfl
theorem quotes_of : ∀ {s : List Int}, (∀ z ∈ s, 0 ≤ z ∧ z ≤ 255) → ∀ r : List Int, quotesL (quoteB s ++ 34 :: r) = some (s, (quoteB s).length + 1)
  | [], _, r => quotesL_stop rfl
  | c :: s, h, r => by
    have hc := h c (List.mem_cons_self ..)
    have e : quoteB (c :: s) = quote1 c ++ quoteB s := rfl
    rw [e, List.append_assoc, quotesL_put (quote1_step hc.1 hc.2 _), List.drop_left, quotes_of (fun z hz => h z (List.mem_cons_of_mem _ hz)) r]
    simp [Nat.add_assoc]
theorem quotesF_of {s : List Int} (h : ∀ z ∈ s, 0 ≤ z ∧ z ≤ 255) (r : List Int) : quotesF (quoteL s ++ r) = (s, (quoteL s).length) := by
  unfold quotesF
  have e : (quoteL s ++ r).drop 1 = quoteB s ++ 34 :: r := by unfold quoteL; simp
  rw [e, quotes_of h r]
  unfold quoteL
  simp
theorem unquote_of {s : List Int} (h : ∀ z ∈ s, 0 ≤ z ∧ z ≤ 255) : unquoteF (quoteL s) = (s, 0) := by
  have := quotesF_of h []
  rw [List.append_nil] at this
  unfold unquoteF
  rw [this, if_pos ⟨by unfold quoteL; simp, rfl, rfl⟩]
theorem quote1_range {c : Int} (h0 : 0 ≤ c) (h1 : c ≤ 255) : ∀ z ∈ quote1 c, 0 ≤ z ∧ z ≤ 255 := by
  have hd : ∀ k : Int, 0 ≤ k → k < 16 → 0 ≤ hexd k ∧ hexd k ≤ 255 := by
    intro k g0 g1; unfold hexd; split <;> omega
  have hsr : 0 ≤ shortL c ∧ shortL c ≤ 255 := by unfold shortL; (repeat' split) <;> omega
  intro z hz
  unfold quote1 at hz
  split at hz
  · simp at hz; rcases hz with rfl | rfl
    · omega
    · exact hsr
  · split at hz
    · simp at hz; omega
    · simp at hz
      rcases hz with rfl | rfl | rfl | rfl
      · omega
      · omega
      · exact hd _ (by omega) (by omega)
      · exact hd _ (by omega) (by omega)
theorem quoteL_range {s : List Int} (h : ∀ z ∈ s, 0 ≤ z ∧ z ≤ 255) : ∀ z ∈ quoteL s, 0 ≤ z ∧ z ≤ 255 := by
  intro z hz
  unfold quoteL quoteB at hz
  simp only [List.mem_cons, List.mem_append, List.mem_flatMap, List.not_mem_nil, or_false] at hz
  rcases hz with rfl | ⟨c, hc, hz⟩ | rfl
  · omega
  · exact quote1_range (h c hc).1 (h c hc).2 z hz
  · omega

/-! ### One token -/
/-- what may stand behind a token -/
def After (t : Tok) (r : List Int) : Prop := (wordT t = true → NoWord r) ∧ (slashT t = true → ¬ (0 < r.length ∧ bAt r 0 = 47))
def txtL (t : Tok) : List Int := toBytes (textT t)
theorem letter_wordy {c : Int} (h : letterB c = true) : wordyB c = true := by unfold wordyB; rw [h, Bool.true_or]
theorem wordy_letter {c : Int} (h : wordyB c = true) : letterB c = true ∨ digitB c = true := by
  unfold wordyB at h
  simpa using h
/-- how a token's text begins -/
theorem txt_head {t : Tok} (h : checkT t = 0) (h0 : 0 ≤ t.n) (r : List Int) : 0 < (txtL t).length ∧ bAt (txtL t ++ r) 0 = bAt (txtL t) 0 ∧ blankB (bAt (txtL t) 0) = false ∧ (wordyB (bAt (txtL t) 0) = true → wordT t = true) ∧ (bAt (txtL t) 0 = 47 → slashT t = true) := by
  have hi := (check_is h).1
  have key : 0 < (txtL t).length ∧ blankB (bAt (txtL t) 0) = false ∧ (wordyB (bAt (txtL t) 0) = true → wordT t = true) ∧ (bAt (txtL t) 0 = 47 → slashT t = true) := by
    unfold txtL textT
    rw [if_pos h]
    rcases check_kind h with k | k | k | k
    · rw [if_neg (by omega), if_neg (by omega)]
      unfold isT at hi
      rw [if_pos k] at hi
      unfold nameL at hi
      simp only [Bool.and_eq_true, decide_eq_true_eq] at hi
      obtain ⟨⟨g1, g2⟩, g3⟩ := hi
      have := letter_not g2
      exact ⟨g1, this.1, fun _ => by unfold wordT; rw [decide_eq_true k]; rfl, fun e => absurd e this.2⟩
    · rw [if_pos k]
      obtain ⟨f1, _, f3, _, _⟩ := dL_facts t.n.toNat t.n (Nat.le_refl _) h0
      have hd := digit_bAt f1 (i := 0) (by omega)
      unfold dL at f3 hd
      refine ⟨by omega, by unfold blankB; exact decide_eq_false (by omega), fun _ => by unfold wordT; rw [decide_eq_true k, Bool.or_true], fun e => by omega⟩
    · rw [if_neg (by omega), if_pos k, toBytes_ofBytes (quoteL_range fun z hz => toBytes_range hz)]
      refine ⟨by unfold quoteL; simp, rfl, fun e => absurd e (by show ¬ wordyB 34 = true; decide), fun e => absurd e (by show ¬ (34 : Int) = 47; decide)⟩
    · rw [if_neg (by omega), if_neg (by omega)]
      unfold isT at hi
      rw [if_neg (by omega), if_neg (by omega), if_neg (by omega), if_pos k] at hi
      obtain ⟨g1, g2⟩ := of_decide_eq_true hi
      have hl := toBytes_length t.text
      have hs : signL (toBytes t.text) ≠ 0 := by omega
      have hh := sign_head hs
      refine ⟨by omega, ?_, ?_, ?_⟩
      · rcases hh with e | e | e
        · rw [e]; rfl
        · rw [e]; rfl
        · exact (signs_not e).1
      · intro hw
        exfalso
        rcases hh with e | e | e
        · rw [e] at hw; exact absurd hw (by decide)
        · rw [e] at hw; exact absurd hw (by decide)
        · revert hw e
          generalize bAt (toBytes t.text) 0 = c
          intro hw e
          unfold signs at e
          simp only [List.mem_cons, List.not_mem_nil, or_false] at e
          rcases e with rfl | rfl | rfl | rfl | rfl | rfl | rfl | rfl | rfl | rfl | rfl | rfl | rfl | rfl | rfl | rfl | rfl | rfl <;> exact absurd hw (by decide)
      · intro e
        have h1 : t.text.size = 1 := by
          rw [← g2]
          unfold signL
          rw [if_neg (by omega), if_pos ⟨by omega, by rw [e]; decide⟩]
        have h2 : toBytes t.text = [47] := by
          rw [← hl] at h1
          obtain ⟨x, hx⟩ := List.length_eq_one_iff.1 h1
          rw [hx] at e ⊢
          rw [show x = 47 from e]
        have h3 : t.text = ⟨#[47]⟩ := toBytes_inj (h2.trans rfl)
        unfold slashT
        rw [decide_eq_true k, decide_eq_true h3]; rfl
  exact ⟨key.1, bAt_app key.1, key.2⟩

theorem words_run {a r : List Int} (h : nameL a = true) (hr : NoWord r) : runL wordyB (a ++ r) = a.length := by
  unfold nameL at h
  simp only [Bool.and_eq_true, decide_eq_true_eq] at h
  obtain ⟨⟨g1, g2⟩, g3⟩ := h
  refine runL_eq _ _ _ (by simp) (fun i hi => ?_) (fun hi => ?_)
  · rw [bAt_app hi]
    exact runL_in _ _ _ (by omega)
  · cases hw : wordyB (bAt (a ++ r) a.length) with
    | false => rfl
    | true => exact absurd ⟨hi, hw⟩ (noWord_at hr)
theorem sign_app {a r : List Int} (h0 : 0 < a.length) (h : signL a = a.length) (hs : a = [47] → ¬ (0 < r.length ∧ bAt r 0 = 47)) : signL (a ++ r) = a.length ∧ doneL (a ++ r) = false := by
  have hb0 : bAt (a ++ r) 0 = bAt a 0 := bAt_app h0
  unfold signL at h
  split at h
  · rename_i hc
    obtain ⟨c1, c2⟩ := hc
    have hb1 : bAt (a ++ r) 1 = bAt a 1 := bAt_app c1
    constructor
    · unfold signL
      rw [if_pos ⟨by rw [List.length_append]; omega, by rw [hb0, hb1]; exact c2⟩]
      exact h
    · unfold doneL
      rw [hb0]
      rw [decide_eq_false (show ¬ (a ++ r).length = 0 by rw [List.length_append]; omega), decide_eq_false (show ¬ bAt a 0 = 47 by omega)]
      simp
  · split at h
    · rename_i hc0 hc
      have h1 : a.length = 1 := h.symm
      have hne := signs_not hc.2
      constructor
      · unfold signL
        rw [hb0, if_neg (by rintro ⟨_, g | g⟩ <;> omega), if_pos ⟨by rw [List.length_append]; omega, hc.2⟩]
        exact h
      · unfold doneL
        rw [hb0]
        rw [decide_eq_false (show ¬ (a ++ r).length = 0 by rw [List.length_append]; omega), Bool.false_or]
        rw [Bool.eq_false_iff]
        intro hd
        simp only [Bool.and_eq_true, decide_eq_true_eq] at hd
        obtain ⟨⟨d1, d2⟩, d3⟩ := hd
        obtain ⟨x, rfl⟩ := List.length_eq_one_iff.1 h1
        obtain rfl : x = 47 := d2
        refine hs rfl ⟨by simp at d1; omega, ?_⟩
        rw [← d3]; rfl
    · omega

theorem one_text {t : Tok} (h : checkT t = 0) (h0 : 0 ≤ t.n) (h1 : t.n < 18446744073709551616) {r : List Int} (hr : After t r) :
    ∃ t0, oneL (txtL t ++ r) = .ok (t0, (txtL t).length) ∧ bare t0 = bare t ∧ doneL (txtL t ++ r) = false ∧ runL blankB (txtL t ++ r) = 0 := by
  obtain ⟨p0, p1, p2, p3, p4⟩ := txt_head h h0 r
  have hrun : runL blankB (txtL t ++ r) = 0 := runL_eq _ _ _ (Nat.zero_le _) (fun i hi => absurd hi (Nat.not_lt_zero _)) (fun _ => by rw [p1]; exact p2)
  have hnot47 : bAt (txtL t) 0 ≠ 47 → doneL (txtL t ++ r) = false := by
    intro hne
    unfold doneL
    rw [p1, decide_eq_false (show ¬ (txtL t ++ r).length = 0 by rw [List.length_append]; omega), decide_eq_false hne]
    simp
  obtain ⟨hi, _, hn⟩ := check_is h
  rcases check_kind h with k | k | k | k
  · have hw : wordT t = true := by unfold wordT; rw [decide_eq_true k]; rfl
    have e : txtL t = toBytes t.text := by unfold txtL textT; rw [if_pos h, if_neg (by omega), if_neg (by omega)]
    unfold isT at hi
    rw [if_pos k] at hi
    have hrn := words_run hi (hr.1 hw)
    unfold nameL at hi
    simp only [Bool.and_eq_true, decide_eq_true_eq] at hi
    obtain ⟨⟨g1, g2⟩, g3⟩ := hi
    rw [← e] at hrn g2
    refine ⟨⟨1, t.text, 0, 0⟩, ?_, ?_, hnot47 (letter_not g2).2, hrun⟩
    · unfold oneL
      rw [p1, if_pos g2, hrn, List.take_left, e, ofBytes_toBytes]
    · unfold bare
      rcases hn with hn | hn
      · rw [← k, ← hn]
      · omega
  · have hw : wordT t = true := by unfold wordT; rw [decide_eq_true k, Bool.or_true]
    have e : txtL t = dL t.n := by unfold txtL textT dL; rw [if_pos h, if_pos k]
    have hnm := number_of h0 h1 (hr.1 hw)
    obtain ⟨f1, _, f3, _, _⟩ := dL_facts t.n.toNat t.n (Nat.le_refl _) h0
    have hd := digit_bAt f1 (i := 0) (by omega)
    unfold isT at hi
    rw [if_neg (by omega), if_pos k] at hi
    have htx := of_decide_eq_true hi
    have hno := noWord_at (a := dL t.n) (hr.1 hw)
    rw [e] at p1 hrun ⊢
    refine ⟨⟨2, emp, t.n, 0⟩, ?_, ?_, by rw [← e]; exact hnot47 (by rw [e]; omega), hrun⟩
    · unfold oneL
      have hl : ¬ letterB (bAt (dL t.n) 0) = true := by unfold letterB; rw [decide_eq_true_eq]; omega
      have hdg : digitB (bAt (dL t.n) 0) = true := by unfold digitB; exact decide_eq_true hd
      rw [p1, if_neg hl, if_pos (.inl hdg), hnm, if_neg]
      rintro (g | g)
      · simp only at g; omega
      · exact hno g
    · unfold bare
      rw [← k, ← htx]
  · have e : txtL t = quoteL (toBytes t.text) := by unfold txtL textT; rw [if_pos h, if_neg (by omega), if_pos k, toBytes_ofBytes (quoteL_range fun z hz => toBytes_range hz)]
    have hq := quotesF_of (s := toBytes t.text) (fun z hz => toBytes_range hz) r
    have hb : bAt (quoteL (toBytes t.text)) 0 = 34 := rfl
    rw [e] at p1 hrun ⊢
    refine ⟨⟨3, t.text, 0, 0⟩, ?_, ?_, by rw [← e]; exact hnot47 (by rw [e, hb]; decide), hrun⟩
    · unfold oneL
      rw [p1, hb, if_neg (by decide), if_neg (by decide), if_pos rfl, hq, if_neg (by unfold quoteL; simp), ofBytes_toBytes]
    · unfold bare
      rcases hn with hn | hn
      · rw [← k, ← hn]
      · omega
  · have e : txtL t = toBytes t.text := by unfold txtL textT; rw [if_pos h, if_neg (by omega), if_neg (by omega)]
    unfold isT at hi
    rw [if_neg (by omega), if_neg (by omega), if_neg (by omega), if_pos k] at hi
    obtain ⟨g1, g2⟩ := of_decide_eq_true hi
    have hl := toBytes_length t.text
    obtain ⟨s1, s2⟩ := sign_app (a := toBytes t.text) (r := r) (by omega) (by omega) (fun ea => hr.2 (by
      have h3 : t.text = ⟨#[47]⟩ := toBytes_inj (ea.trans rfl)
      unfold slashT
      rw [decide_eq_true k, decide_eq_true h3]; rfl))
    have hh := sign_head (m := toBytes t.text) (by omega)
    have hc : letterB (bAt (toBytes t.text) 0) = false ∧ digitB (bAt (toBytes t.text) 0) = false ∧ bAt (toBytes t.text) 0 ≠ 39 ∧ bAt (toBytes t.text) 0 ≠ 34 := by
      revert hh
      generalize bAt (toBytes t.text) 0 = c
      intro hh
      rcases hh with rfl | rfl | hh
      · decide
      · decide
      · unfold signs at hh
        simp only [List.mem_cons, List.not_mem_nil, or_false] at hh
        rcases hh with rfl | rfl | rfl | rfl | rfl | rfl | rfl | rfl | rfl | rfl | rfl | rfl | rfl | rfl | rfl | rfl | rfl | rfl <;> decide
    rw [e] at p1 hrun ⊢
    refine ⟨⟨4, t.text, 0, 0⟩, ?_, ?_, s2, hrun⟩
    · unfold oneL
      rw [p1, hc.1, hc.2.1, if_neg (by decide), if_neg (by rintro (g | g); cases g; exact hc.2.2.1 g), if_neg hc.2.2.2, s1, if_neg (by omega), List.take_left, ofBytes_toBytes]
    · unfold bare
      rcases hn with hn | hn
      · rw [← k, ← hn]
      · omega

/-! ### All tokens -/
def rendL : Option Tok → List Tok → List Int
  | _, [] => []
  | p, t :: r => (if sepF p t = true then [32] else []) ++ (txtL t ++ rendL (some t) r)
theorem addT_bytes (p : Option Tok) (acc : ByteArray) (t : Tok) : toBytes (addT p acc t) = toBytes acc ++ ((if sepF p t = true then [32] else []) ++ txtL t) := by
  unfold addT txtL
  split
  · rw [toBytes_append, toBytes_append, List.append_assoc]; rfl
  · rw [toBytes_append, List.nil_append]
theorem printR_rend : ∀ {l : List Tok} {p : Option Tok} {acc b : ByteArray}, printR p acc l = some b → toBytes b = toBytes acc ++ rendL p l ∧ (acc.size ≤ 512 → b.size ≤ 512)
  | [], p, acc, b, h => by
    rw [printR] at h
    injection h with h
    subst h
    exact ⟨(List.append_nil _).symm, fun h => h⟩
  | t :: r, p, acc, b, h => by
    rw [printR] at h
    split at h
    · cases h
    · rename_i hs
      obtain ⟨h1, h2⟩ := printR_rend h
      refine ⟨?_, fun _ => h2 (by omega)⟩
      rw [h1, addT_bytes, rendL]
      simp only [List.append_assoc]
theorem after_rend {t : Tok} {r : List Tok} (hr : ∀ u ∈ r, checkT u = 0 ∧ 0 ≤ u.n) : After t (rendL (some t) r) := by
  cases r with
  | nil => exact ⟨fun _ => .inl rfl, fun _ h => by simp [rendL] at h⟩
  | cons u r =>
    obtain ⟨hu, hn⟩ := hr u (List.mem_cons_self ..)
    unfold rendL
    by_cases hs : sepF (some t) u = true
    · rw [if_pos hs]
      exact ⟨fun _ => .inr rfl, fun _ h => absurd h.2 (by show ¬ (32 : Int) = 47; decide)⟩
    · rw [if_neg hs, List.nil_append]
      obtain ⟨q0, q1, q2, q3, q4⟩ := txt_head hu hn (rendL (some u) r)
      have hap : apartF t u = false := by
        cases h : apartF t u with
        | false => rfl
        | true => exact absurd h hs
      unfold apartF at hap
      simp only [Bool.or_eq_false_iff, Bool.and_eq_false_iff] at hap
      refine ⟨fun hw => .inr ?_, fun hsl h => ?_⟩
      · rw [q1]
        cases hwy : wordyB (bAt (txtL u) 0) with
        | false => rfl
        | true =>
          have := q3 hwy
          rw [hw, this] at hap
          simp at hap
      · have := q4 (q1 ▸ h.2)
        rw [hsl, this] at hap
        simp at hap
theorem relex_rend : ∀ {l : List Tok} (p : Option Tok) (q : Nat), (∀ u ∈ l, checkT u = 0 ∧ 0 ≤ u.n ∧ u.n < 18446744073709551616) →
    ∃ ts, tokensL q (rendL p l) = (ts, q + (rendL p l).length, 0) ∧ ts.map bare = l.map bare
  | [], p, q, _ => ⟨[], tokensL_done rfl, rfl⟩
  | t :: r, p, q, h => by
    obtain ⟨c1, c2, c3⟩ := h t (List.mem_cons_self ..)
    have hA := after_rend (t := t) (r := r) fun u hu => ⟨(h u (List.mem_cons_of_mem _ hu)).1, (h u (List.mem_cons_of_mem _ hu)).2.1⟩
    obtain ⟨t0, o1, o2, o3, o4⟩ := one_text c1 c2 c3 hA
    have main : ∀ q : Nat, ∃ ts, tokensL q (txtL t ++ rendL (some t) r) = (ts, q + (txtL t ++ rendL (some t) r).length, 0) ∧ ts.map bare = (t :: r).map bare := by
      intro q
      obtain ⟨ts, i1, i2⟩ := relex_rend (some t) (q + (txtL t).length) fun u hu => h u (List.mem_cons_of_mem _ hu)
      have hk := tokens_tok o4 o3 o1 q
      rw [List.drop_left, i1] at hk
      refine ⟨{ t0 with pos := (q : Int) } :: ts, ?_, ?_⟩
      · rw [hk, List.length_append, Nat.add_assoc]
      · rw [List.map_cons, List.map_cons, i2, ← o2]
        rfl
    unfold rendL
    by_cases hs : sepF p t = true
    · rw [if_pos hs]
      obtain ⟨ts, m1, m2⟩ := main (q + 1)
      refine ⟨ts, ?_, m2⟩
      rw [tokens_blanks (bs := [32]) (by intro c hc; simp at hc; subst hc; rfl)]
      show tokensL (q + 1) _ = _
      rw [m1]
      simp only [List.length_append, List.length_cons, List.length_nil]
      congr 2
      omega
    · rw [if_neg hs, List.nil_append]
      exact main q
theorem print_back {l : List Tok} {b : ByteArray} (h : linF l = (b, 0)) (hn : ∀ u ∈ l, 0 ≤ u.n ∧ u.n < 18446744073709551616) :
    ∃ ts, linesF (toBytes b) = (ts, b.size, 0) ∧ ts.map bare = l.map bare := by
  unfold linF at h
  split at h
  · rename_i ha
    split at h
    · rename_i b' hb
      injection h with h1 h2
      subst h1
      obtain ⟨r1, r2⟩ := printR_rend hb
      have e : toBytes b' = rendL none l := r1
      have hsz := r2 (by decide)
      unfold allT at ha
      rw [List.all_eq_true] at ha
      obtain ⟨ts, k1, k2⟩ := relex_rend none 0 fun u hu => ⟨of_decide_eq_true (ha u hu), hn u hu⟩
      refine ⟨ts, ?_, k2⟩
      have hl := toBytes_length b'
      unfold linesF
      rw [if_neg (by omega), e, k1, ← e, hl, Nat.zero_add]
    · injection h with h1 h2; cases h2
  · injection h with h1 h2; cases h2


end Go.Proofs.YtcdbldakjepjiaaDoor.Ex
