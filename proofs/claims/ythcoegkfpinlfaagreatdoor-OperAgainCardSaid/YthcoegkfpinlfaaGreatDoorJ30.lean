/- Tokens as a line, read again: plain, for expressions. No program in sight but for the names. A value's text, read and reckoned again. No program in sight. -/
import Derived.Test.YthcoegkfpinlfaaGreatDoorJ29
import Derived.Test.YthcoegkfpinlfaaGreatDoorJ12
import Derived.Lib.ItoaMem
set_option linter.unusedVariables false
set_option linter.unusedSimpArgs false
namespace Go.Proofs.YthcoegkfpinlfaaGreatDoor.Ex
open Go.RowKit
theorem ED (c : Int) : (jj c).length ≤ 4 := by
  unfold jj; split
  · simp
  · split <;> simp
theorem wo : ∀ l : List Int, (lW l).length ≤ 4 * l.length
  | [] => by simp [lW]
  | c :: l => by
    have h1 := wo l
    have h2 := ED c
    have : lW (c :: l) = jj c ++ lW l := rfl
    rw [this, List.length_append, List.length_cons]
    omega
set_option maxRecDepth 100000

def sI (n : Int) : ByteArray := ⟨(Lib.decDigits n.toNat).toArray⟩
theorem DB {n : Int} (h0 : 0 ≤ n) (h : n < 10) : sI n = aQ [48 + n] := by
  unfold sI
  rw [Lib.decDigits_one (by omega)]
  unfold aQ
  simp only [List.map_cons, List.map_nil]
  rw [show (48 + n).toNat = 48 + n.toNat by omega]
theorem JU {n : Int} (h : 10 ≤ n) : sI n = sI (n / 10) ++ aQ [48 + n % 10] := by
  unfold sI
  rw [Lib.decDigits, dif_neg (by omega)]
  have e1 : (n / 10).toNat = n.toNat / 10 := by omega
  have e2 : (48 + n % 10).toNat = 48 + n.toNat % 10 := by omega
  rw [e1]
  unfold aQ
  simp only [List.map_cons, List.map_nil, e2]
  refine ByteArray.ext ?_
  simp [ByteArray.append]

theorem G4 {n : Int} (h0 : 0 ≤ n) (h : n < 18446744073709551616) : (sI n).size ≤ 20 := by
  have e : (sI n).size = (Lib.decDigits n.toNat).length := by simp [sI, ByteArray.size]
  rw [e, Lib.decDigits_length]
  rcases Nat.eq_zero_or_pos n.toNat with h1 | h1
  · rw [h1]; decide +kernel
  · have := Lib.numDigits_eq n.toNat h1 (by omega)
    split at this <;> omega
def textT (t : Tok) : ByteArray := if dN t = 0 then if t.kind = 2 then sI t.n else if t.kind = 3 then aQ (jk (aa t.text)) else t.text else emp

/-! ### Plain -/
def nO (t : Tok) : Bool := decide (t.kind = 1) || decide (t.kind = 2)
def oP (t : Tok) : Bool := decide (t.kind = 4) && decide (t.text = ⟨#[47]⟩)
def apartF (a b : Tok) : Bool := (nO a && nO b) || (oP a && oP b)
def th (p : Option Tok) (t : Tok) : Bool := match p with | some a => apartF a t | none => false
def spB : ByteArray := ⟨#[32]⟩
def Qd (t : Tok) : Prop := t.text.size ≤ 140737488351232 ∧ 0 ≤ t.n ∧ t.n < 18446744073709551616

theorem check_is {t : Tok} (h : dN t = 0) : isT t = true ∧ 0 ≤ t.pos ∧ (t.n = 0 ∨ t.kind = 2) := by
  unfold dN at h
  split at h
  · assumption
  · cases h
theorem check_kind {t : Tok} (h : dN t = 0) : t.kind = 1 ∨ t.kind = 2 ∨ t.kind = 3 ∨ t.kind = 4 := by
  have := (check_is h).1
  unfold isT at this
  split at this
  · exact .inl (by assumption)
  · split at this
    · exact .inr (.inl (by assumption))
    · split at this
      · exact .inr (.inr (.inl (by assumption)))
      · split at this
        · exact .inr (.inr (.inr (by assumption)))
        · cases this
theorem Dv {t : Tok} (h : dN t = 0) (k : t.kind = 3) : t.text.size ≤ 512 := by
  have := (check_is h).1
  unfold isT at this
  rw [if_neg (by omega), if_neg (by omega), if_pos k] at this
  exact of_decide_eq_true this
theorem Ai (l : List Int) : (aQ l).size = l.length := by simp [aQ, ByteArray.size]
theorem EE (l : List Int) : (jk l).length ≤ 4 * l.length + 2 := by
  have := wo l
  unfold jk
  simp only [List.length_cons, List.length_append, List.length_nil]
  omega
theorem Qq {t : Tok} (h : dN t = 0) (hs : Qd t) : 0 < (textT t).size ∧ (textT t).size ≤ 140737488351232 := by
  obtain ⟨h1, h2, h3⟩ := hs
  have hi := (check_is h).1
  unfold textT
  rw [if_pos h]
  rcases check_kind h with k | k | k | k
  · rw [if_neg (by omega), if_neg (by omega)]
    unfold isT at hi
    rw [if_pos k] at hi
    unfold iN at hi
    simp only [Bool.and_eq_true, decide_eq_true_eq] at hi
    have := hi.1.1
    rw [ar] at this
    exact ⟨this, h1⟩
  · rw [if_pos k]
    have := G4 h2 h3
    have h4 : (sI t.n).size = (Lib.decDigits t.n.toNat).length := by simp [sI, ByteArray.size]
    have h5 : 0 < (Lib.decDigits t.n.toNat).length := by rw [Lib.decDigits]; split <;> simp
    omega
  · rw [if_neg (by omega), if_pos k, Ai]
    have := EE (aa t.text)
    have h4 := Dv h k
    rw [ar] at this
    refine ⟨by unfold jk; simp, by omega⟩
  · rw [if_neg (by omega), if_neg (by omega)]
    unfold isT at hi
    rw [if_neg (by omega), if_neg (by omega), if_neg (by omega), if_pos k] at hi
    have := of_decide_eq_true hi
    exact ⟨this.1, h1⟩


/-! ### Digits -/
def dL (n : Int) : List Int := aa (sI n)
theorem AU {n : Int} (h0 : 0 ≤ n) (h : n < 10) : dL n = [48 + n] := by
  unfold dL
  rw [DB h0 h, dh (by simp; omega)]
theorem Pz {n : Int} (h : 10 ≤ n) : dL n = dL (n / 10) ++ [48 + n % 10] := by
  unfold dL
  rw [JU h, d9, dh (by simp; omega)]
theorem vj : ∀ (N : Nat) (n : Int), n.toNat ≤ N → 0 ≤ n → (∀ c ∈ dL n, 48 ≤ c ∧ c ≤ 57) ∧ kN 10 (dL n) = n ∧ 1 ≤ (dL n).length ∧ (1 ≤ n → bAt (dL n) 0 ≠ 48) ∧ (n < 10 → (dL n).length = 1) := by
  intro N
  induction N with
  | zero =>
    intro n hN h0
    obtain rfl : n = 0 := by omega
    rw [AU (by omega) (by omega)]
    refine ⟨by simp, rfl, by simp, by omega, by simp⟩
  | succ N ih =>
    intro n hN h0
    by_cases h : n < 10
    · rw [AU h0 h]
      refine ⟨by simp; omega, ?_, by simp, ?_, by simp⟩
      · show (0 * 10 + de (48 + n) : Int) = n
        unfold de
        rw [if_pos (by omega)]
        omega
      · intro h1
        show 48 + n ≠ 48
        omega
    · obtain ⟨i1, i2, i3, i4, i5⟩ := ih (n / 10) (by omega) (by omega)
      rw [Pz (by omega)]
      refine ⟨?_, ?_, ?_, ?_, ?_⟩
      · intro c hc
        rw [List.mem_append, List.mem_singleton] at hc
        rcases hc with hc | rfl
        · exact i1 c hc
        · omega
      · unfold kN at i2 ⊢
        rw [List.foldl_append, i2]
        show n / 10 * 10 + de (48 + n % 10) = n
        unfold de
        rw [if_pos (by omega)]
        omega
      · simp
      · intro _
        rw [ky (by omega)]
        exact i4 (by omega)
      · omega
theorem p9 {l : List Int} (h : ∀ c ∈ l, 48 ≤ c ∧ c ≤ 57) {i : Nat} (hi : i < l.length) : 48 ≤ bAt l i ∧ bAt l i ≤ 57 := by
  have := rB hi
  exact h _ (List.mem_of_getElem? this)
theorem G6 {c : Int} (h : 48 ≤ c ∧ c ≤ 57) : de c = c - 48 := by unfold de; rw [if_pos h]
theorem Hu {c : Int} (h : de c < 10) : 48 ≤ c ∧ c ≤ 57 := by
  unfold de at h
  split at h
  · assumption
  · split at h
    · omega
    · split at h <;> omega
theorem A5 {c : Int} (h : 48 ≤ c ∧ c ≤ 57) : bn c = true := by
  unfold bn cy
  rw [decide_eq_true h, Bool.or_true]

/-- what may stand behind a word -/
def zd (r : List Int) : Prop := r = [] ∨ bn (bAt r 0) = false
theorem sV {a r : List Int} (h : zd r) : ¬ (a.length < (a ++ r).length ∧ bn (bAt (a ++ r) a.length) = true) := by
  rintro ⟨h1, h2⟩
  rw [zzu6] at h2
  rcases h with rfl | h
  · simp at h1
  · rw [h] at h2; cases h2
theorem Id {n : Int} (h0 : 0 ≤ n) (h1 : n < 18446744073709551616) {r : List Int} (hr : zd r) : cj (dL n ++ r) = (n, (dL n).length) := by
  obtain ⟨f1, f2, f3, f4, f5⟩ := vj n.toNat n (Nat.le_refl _) h0
  have hb0 : bAt (dL n ++ r) 0 = bAt (dL n) 0 := ky (by omega)
  have hd0 := p9 f1 (i := 0) (by omega)
  have hz : ∀ c : Int, c = 120 ∨ c = 98 → ¬ (1 < (dL n ++ r).length ∧ bAt (dL n ++ r) 0 = 48 ∧ bAt (dL n ++ r) 1 = c) := by
    rintro c hc ⟨g1, g2, g3⟩
    rw [hb0] at g2
    have hn : n = 0 := by
      by_cases h : 1 ≤ n
      · exact absurd g2 (f4 h)
      · omega
    have hl := f5 (by omega)
    have e : bAt (dL n ++ r) 1 = bAt r 0 := by rw [← hl, zzu6]
    rcases hr with rfl | hr
    · simp at g1; omega
    · rw [← e, g3] at hr
      rcases hc with rfl | rfl <;> exact absurd hr (by decide)
  have hbase : fF (dL n ++ r) = 10 := by
    unfold fF
    rw [if_neg (hz 120 (.inl rfl)), if_neg (hz 98 (.inr rfl))]
  have hhead : dx (dL n ++ r) = 0 := by
    unfold dx
    rw [if_neg]
    rintro ⟨g1, g2, g3 | g3⟩
    · exact hz 120 (.inl rfl) ⟨g1, g2, g3⟩
    · exact hz 98 (.inr rfl) ⟨g1, g2, g3⟩
  have hrun : eZ 10 (dL n ++ r) = (dL n).length := by
    refine lq _ _ _ (by simp) (fun i hi => ?_) (fun hi => ?_)
    · rw [ky hi]
      have := p9 f1 hi
      rw [G6 this]
      exact decide_eq_true (by omega)
    · refine decide_eq_false fun h => ?_
      have := A5 (Hu h)
      exact sV hr ⟨hi, this⟩
  unfold cj
  rw [hbase, hhead, List.drop_zero, hrun, hb0, if_neg (by omega), if_neg, List.take_left, f2, if_neg (by omega), Nat.zero_add]
  rintro (g | ⟨_, g1, g2⟩)
  · omega
  · by_cases h : 1 ≤ n
    · exact f4 h g2
    · have := f5 (by omega); omega

/-! ### Quotes -/
theorem Cm {c : Int} (h0 : 0 ≤ c) (h1 : c ≤ 255) (x : List Int) : fe (jj c ++ x) = .put c (jj c).length := by
  have hx16 : de (lP (c / 16)) = c / 16 := by
    unfold lP de
    by_cases h : c / 16 < 10
    · rw [if_pos h, if_pos (by omega)]; omega
    · rw [if_neg h, if_neg (by omega), if_pos (by omega)]; omega
  have hx1 : de (lP (c % 16)) = c % 16 := by
    unfold lP de
    by_cases h : c % 16 < 10
    · rw [if_pos h, if_pos (by omega)]; omega
    · rw [if_neg h, if_neg (by omega), if_pos (by omega)]; omega
  by_cases hs : lb c ≠ 0
  · have e : jj c = [92, lb c] := by unfold jj; rw [if_pos hs]
    have hl : longL (lb c) = some c := by
      unfold lb at hs ⊢
      by_cases c0 : c = 0
      · subst c0; rfl
      by_cases c1 : c = 9
      · subst c1; rfl
      by_cases c2 : c = 10
      · subst c2; rfl
      by_cases c3 : c = 13
      · subst c3; rfl
      by_cases c4 : c = 34
      · subst c4; rfl
      by_cases c5 : c = 92
      · subst c5; rfl
      · simp only [c0, c1, c2, c3, c4, c5, or_self, if_false] at hs
        exact absurd rfl hs
    rw [e]
    unfold fe
    rw [if_neg (by simp), if_neg (by show ¬ (92 : Int) = 34; decide), if_pos (by rfl)]
    have : escL (List.drop 1 ([92, lb c] ++ x)) = some (c, 1) := by
      show escL (lb c :: x) = _
      unfold escL
      rw [if_neg (by simp), AI, hl]
    rw [this]
    rfl
  have hs0 : lb c = 0 := by simpa using hs
  have hne : c ≠ 34 ∧ c ≠ 92 := by
    constructor
    · rintro rfl; exact absurd hs0 (by decide)
    · rintro rfl; exact absurd hs0 (by decide)
  by_cases hw : kr c = true
  · have e : jj c = [c] := by unfold jj; rw [if_neg hs, if_pos hw]
    rw [e]
    unfold fe
    rw [if_neg (by simp), if_neg (by show ¬ c = 34; exact hne.1), if_neg (by show ¬ c = 92; exact hne.2), if_pos (by exact hw)]
    rfl
  · have e : jj c = [92, 120, lP (c / 16), lP (c % 16)] := by unfold jj; rw [if_neg hs, if_neg hw]
    rw [e]
    unfold fe
    rw [if_neg (by simp), if_neg (by show ¬ (92 : Int) = 34; decide), if_pos (by rfl)]
    have : escL (List.drop 1 ([92, 120, lP (c / 16), lP (c % 16)] ++ x)) = some (c, 3) := by
      show escL (120 :: lP (c / 16) :: lP (c % 16) :: x) = _
      unfold escL
      have hl : longL (bAt (120 :: lP (c / 16) :: lP (c % 16) :: x) 0) = none := by rw [AI]; rfl
      rw [if_neg (by simp), hl]
      have b1 : bAt (120 :: lP (c / 16) :: lP (c % 16) :: x) 1 = lP (c / 16) := rfl
      have b2 : bAt (120 :: lP (c / 16) :: lP (c % 16) :: x) 2 = lP (c % 16) := rfl
      simp only [b1, b2, hx16, hx1]
      rw [if_pos ⟨by simp, rfl, by omega, by omega⟩]
      congr 2
      omega
    rw [this]
    rfl
theorem yD : ∀ {s : List Int}, (∀ z ∈ s, 0 ≤ z ∧ z ≤ 255) → ∀ r : List Int, quotesL (lW s ++ 34 :: r) = some (s, (lW s).length + 1)
  | [], _, r => iK rfl
  | c :: s, h, r => by
    have hc := h c (List.mem_cons_self ..)
    have e : lW (c :: s) = jj c ++ lW s := rfl
    rw [e, List.append_assoc, jw (Cm hc.1 hc.2 _), List.drop_left, yD (fun z hz => h z (List.mem_cons_of_mem _ hz)) r]
    simp [Nat.add_assoc]
theorem EG {s : List Int} (h : ∀ z ∈ s, 0 ≤ z ∧ z ≤ 255) (r : List Int) : cR (jk s ++ r) = (s, (jk s).length) := by
  unfold cR
  have e : (jk s ++ r).drop 1 = lW s ++ 34 :: r := by unfold jk; simp
  rw [e, yD h r]
  unfold jk
  simp
theorem zX {c : Int} (h0 : 0 ≤ c) (h1 : c ≤ 255) : ∀ z ∈ jj c, 0 ≤ z ∧ z ≤ 255 := by
  have hd : ∀ k : Int, 0 ≤ k → k < 16 → 0 ≤ lP k ∧ lP k ≤ 255 := by
    intro k g0 g1; unfold lP; split <;> omega
  have hsr : 0 ≤ lb c ∧ lb c ≤ 255 := by unfold lb; (repeat' split) <;> omega
  intro z hz
  unfold jj at hz
  split at hz
  · simp at hz; rcases hz with rfl | rfl
    · omega
    · exact hsr
  · split at hz
    · simp at hz; omega
    · simp at hz
      rcases hz with rfl | rfl | rfl | rfl
      · omega
      · omega
      · exact hd _ (by omega) (by omega)
      · exact hd _ (by omega) (by omega)
theorem r7 {s : List Int} (h : ∀ z ∈ s, 0 ≤ z ∧ z ≤ 255) : ∀ z ∈ jk s, 0 ≤ z ∧ z ≤ 255 := by
  intro z hz
  unfold jk lW at hz
  simp only [List.mem_cons, List.mem_append, List.mem_flatMap, List.not_mem_nil, or_false] at hz
  rcases hz with rfl | ⟨c, hc, hz⟩ | rfl
  · omega
  · exact zX (h c hc).1 (h c hc).2 z hz
  · omega

/-! ### One token -/
/-- what may stand behind a token -/
def After (t : Tok) (r : List Int) : Prop := (nO t = true → zd r) ∧ (oP t = true → ¬ (0 < r.length ∧ bAt r 0 = 47))
def txtL (t : Tok) : List Int := aa (textT t)
/-- how a token's text begins -/
theorem txt_head {t : Tok} (h : dN t = 0) (h0 : 0 ≤ t.n) (r : List Int) : 0 < (txtL t).length ∧ bAt (txtL t ++ r) 0 = bAt (txtL t) 0 ∧ aE (bAt (txtL t) 0) = false ∧ (bn (bAt (txtL t) 0) = true → nO t = true) ∧ (bAt (txtL t) 0 = 47 → oP t = true) := by
  have hi := (check_is h).1
  have key : 0 < (txtL t).length ∧ aE (bAt (txtL t) 0) = false ∧ (bn (bAt (txtL t) 0) = true → nO t = true) ∧ (bAt (txtL t) 0 = 47 → oP t = true) := by
    unfold txtL textT
    rw [if_pos h]
    rcases check_kind h with k | k | k | k
    · rw [if_neg (by omega), if_neg (by omega)]
      unfold isT at hi
      rw [if_pos k] at hi
      unfold iN at hi
      simp only [Bool.and_eq_true, decide_eq_true_eq] at hi
      obtain ⟨⟨g1, g2⟩, g3⟩ := hi
      have := oi g2
      exact ⟨g1, this.1, fun _ => by unfold nO; rw [decide_eq_true k]; rfl, fun e => absurd e this.2⟩
    · rw [if_pos k]
      obtain ⟨f1, _, f3, _, _⟩ := vj t.n.toNat t.n (Nat.le_refl _) h0
      have hd := p9 f1 (i := 0) (by omega)
      unfold dL at f3 hd
      refine ⟨by omega, by unfold aE; exact decide_eq_false (by omega), fun _ => by unfold nO; rw [decide_eq_true k, Bool.or_true], fun e => by omega⟩
    · rw [if_neg (by omega), if_pos k, dh (r7 fun z hz => kC hz)]
      refine ⟨by unfold jk; simp, rfl, fun e => absurd e (by show ¬ bn 34 = true; decide), fun e => absurd e (by show ¬ (34 : Int) = 47; decide)⟩
    · rw [if_neg (by omega), if_neg (by omega)]
      unfold isT at hi
      rw [if_neg (by omega), if_neg (by omega), if_neg (by omega), if_pos k] at hi
      obtain ⟨g1, g2⟩ := of_decide_eq_true hi
      have hl := ar t.text
      have hs : cg (aa t.text) ≠ 0 := by omega
      have hh := ti hs
      refine ⟨by omega, ?_, ?_, ?_⟩
      · rcases hh with e | e | e
        · rw [e]; rfl
        · rw [e]; rfl
        · exact (ql e).1
      · intro hw
        exfalso
        rcases hh with e | e | e
        · rw [e] at hw; exact absurd hw (by decide)
        · rw [e] at hw; exact absurd hw (by decide)
        · revert hw e
          generalize bAt (aa t.text) 0 = c
          intro hw e
          unfold oY at e
          simp only [List.mem_cons, List.not_mem_nil, or_false] at e
          rcases e with rfl | rfl | rfl | rfl | rfl | rfl | rfl | rfl | rfl | rfl | rfl | rfl | rfl | rfl | rfl | rfl | rfl | rfl <;> exact absurd hw (by decide)
      · intro e
        have h1 : t.text.size = 1 := by
          rw [← g2]
          unfold cg
          rw [if_neg (by omega), if_pos ⟨by omega, by rw [e]; decide⟩]
        have h2 : aa t.text = [47] := by
          rw [← hl] at h1
          obtain ⟨x, hx⟩ := List.length_eq_one_iff.1 h1
          rw [hx] at e ⊢
          rw [show x = 47 from e]
        have h3 : t.text = ⟨#[47]⟩ := gv (h2.trans rfl)
        unfold oP
        rw [decide_eq_true k, decide_eq_true h3]; rfl
  exact ⟨key.1, ky key.1, key.2⟩

theorem I0 {a r : List Int} (h : iN a = true) (hr : zd r) : bu bn (a ++ r) = a.length := by
  unfold iN at h
  simp only [Bool.and_eq_true, decide_eq_true_eq] at h
  obtain ⟨⟨g1, g2⟩, g3⟩ := h
  refine lq _ _ _ (by simp) (fun i hi => ?_) (fun hi => ?_)
  · rw [ky hi]
    exact oO _ _ _ (by omega)
  · cases hw : bn (bAt (a ++ r) a.length) with
    | false => rfl
    | true => exact absurd ⟨hi, hw⟩ (sV hr)
theorem LX {a r : List Int} (h0 : 0 < a.length) (h : cg a = a.length) (hs : a = [47] → ¬ (0 < r.length ∧ bAt r 0 = 47)) : cg (a ++ r) = a.length ∧ dT (a ++ r) = false := by
  have hb0 : bAt (a ++ r) 0 = bAt a 0 := ky h0
  unfold cg at h
  split at h
  · rename_i hc
    obtain ⟨c1, c2⟩ := hc
    have hb1 : bAt (a ++ r) 1 = bAt a 1 := ky c1
    constructor
    · unfold cg
      rw [if_pos ⟨by rw [List.length_append]; omega, by rw [hb0, hb1]; exact c2⟩]
      exact h
    · unfold dT
      rw [hb0]
      rw [decide_eq_false (show ¬ (a ++ r).length = 0 by rw [List.length_append]; omega), decide_eq_false (show ¬ bAt a 0 = 47 by omega)]
      simp
  · split at h
    · rename_i hc0 hc
      have h1 : a.length = 1 := h.symm
      have hne := ql hc.2
      constructor
      · unfold cg
        rw [hb0, if_neg (by rintro ⟨_, g | g⟩ <;> omega), if_pos ⟨by rw [List.length_append]; omega, hc.2⟩]
        exact h
      · unfold dT
        rw [hb0]
        rw [decide_eq_false (show ¬ (a ++ r).length = 0 by rw [List.length_append]; omega), Bool.false_or]
        rw [Bool.eq_false_iff]
        intro hd
        simp only [Bool.and_eq_true, decide_eq_true_eq] at hd
        obtain ⟨⟨d1, d2⟩, d3⟩ := hd
        obtain ⟨x, rfl⟩ := List.length_eq_one_iff.1 h1
        obtain rfl : x = 47 := d2
        refine hs rfl ⟨by simp at d1; omega, ?_⟩
        rw [← d3]; rfl
    · omega

theorem one_text {t : Tok} (h : dN t = 0) (h0 : 0 ≤ t.n) (h1 : t.n < 18446744073709551616) {r : List Int} (hr : After t r) :
    ∃ t0, eO (txtL t ++ r) = .ok (t0, (txtL t).length) ∧ dH t0 = dH t ∧ dT (txtL t ++ r) = false ∧ bu aE (txtL t ++ r) = 0 := by
  obtain ⟨p0, p1, p2, p3, p4⟩ := txt_head h h0 r
  have hrun : bu aE (txtL t ++ r) = 0 := lq _ _ _ (Nat.zero_le _) (fun i hi => absurd hi (Nat.not_lt_zero _)) (fun _ => by rw [p1]; exact p2)
  have hnot47 : bAt (txtL t) 0 ≠ 47 → dT (txtL t ++ r) = false := by
    intro hne
    unfold dT
    rw [p1, decide_eq_false (show ¬ (txtL t ++ r).length = 0 by rw [List.length_append]; omega), decide_eq_false hne]
    simp
  obtain ⟨hi, _, hn⟩ := check_is h
  rcases check_kind h with k | k | k | k
  · have hw : nO t = true := by unfold nO; rw [decide_eq_true k]; rfl
    have e : txtL t = aa t.text := by unfold txtL textT; rw [if_pos h, if_neg (by omega), if_neg (by omega)]
    unfold isT at hi
    rw [if_pos k] at hi
    have hrn := I0 hi (hr.1 hw)
    unfold iN at hi
    simp only [Bool.and_eq_true, decide_eq_true_eq] at hi
    obtain ⟨⟨g1, g2⟩, g3⟩ := hi
    rw [← e] at hrn g2
    refine ⟨⟨1, t.text, 0, 0⟩, ?_, ?_, hnot47 (oi g2).2, hrun⟩
    · unfold eO
      rw [p1, if_pos g2, hrn, List.take_left, e, fx]
    · unfold dH
      rcases hn with hn | hn
      · rw [← k, ← hn]
      · omega
  · have hw : nO t = true := by unfold nO; rw [decide_eq_true k, Bool.or_true]
    have e : txtL t = dL t.n := by unfold txtL textT dL; rw [if_pos h, if_pos k]
    have hnm := Id h0 h1 (hr.1 hw)
    obtain ⟨f1, _, f3, _, _⟩ := vj t.n.toNat t.n (Nat.le_refl _) h0
    have hd := p9 f1 (i := 0) (by omega)
    unfold isT at hi
    rw [if_neg (by omega), if_pos k] at hi
    have htx := of_decide_eq_true hi
    have hno := sV (a := dL t.n) (hr.1 hw)
    rw [e] at p1 hrun ⊢
    refine ⟨⟨2, emp, t.n, 0⟩, ?_, ?_, by rw [← e]; exact hnot47 (by rw [e]; omega), hrun⟩
    · unfold eO
      have hl : ¬ bG (bAt (dL t.n) 0) = true := by unfold bG; rw [decide_eq_true_eq]; omega
      have hdg : cy (bAt (dL t.n) 0) = true := by unfold cy; exact decide_eq_true hd
      rw [p1, if_neg hl, if_pos (.inl hdg), hnm, if_neg]
      rintro (g | g)
      · simp only at g; omega
      · exact hno g
    · unfold dH
      rw [← k, ← htx]
  · have e : txtL t = jk (aa t.text) := by unfold txtL textT; rw [if_pos h, if_neg (by omega), if_pos k, dh (r7 fun z hz => kC hz)]
    have hq := EG (s := aa t.text) (fun z hz => kC hz) r
    have hb : bAt (jk (aa t.text)) 0 = 34 := rfl
    rw [e] at p1 hrun ⊢
    refine ⟨⟨3, t.text, 0, 0⟩, ?_, ?_, by rw [← e]; exact hnot47 (by rw [e, hb]; decide), hrun⟩
    · unfold eO
      rw [p1, hb, if_neg (by decide), if_neg (by decide), if_pos rfl, hq, if_neg (by unfold jk; simp), fx]
    · unfold dH
      rcases hn with hn | hn
      · rw [← k, ← hn]
      · omega
  · have e : txtL t = aa t.text := by unfold txtL textT; rw [if_pos h, if_neg (by omega), if_neg (by omega)]
    unfold isT at hi
    rw [if_neg (by omega), if_neg (by omega), if_neg (by omega), if_pos k] at hi
    obtain ⟨g1, g2⟩ := of_decide_eq_true hi
    have hl := ar t.text
    obtain ⟨s1, s2⟩ := LX (a := aa t.text) (r := r) (by omega) (by omega) (fun ea => hr.2 (by
      have h3 : t.text = ⟨#[47]⟩ := gv (ea.trans rfl)
      unfold oP
      rw [decide_eq_true k, decide_eq_true h3]; rfl))
    have hh := ti (m := aa t.text) (by omega)
    have hc : bG (bAt (aa t.text) 0) = false ∧ cy (bAt (aa t.text) 0) = false ∧ bAt (aa t.text) 0 ≠ 39 ∧ bAt (aa t.text) 0 ≠ 34 := by
      revert hh
      generalize bAt (aa t.text) 0 = c
      intro hh
      rcases hh with rfl | rfl | hh
      · decide
      · decide
      · unfold oY at hh
        simp only [List.mem_cons, List.not_mem_nil, or_false] at hh
        rcases hh with rfl | rfl | rfl | rfl | rfl | rfl | rfl | rfl | rfl | rfl | rfl | rfl | rfl | rfl | rfl | rfl | rfl | rfl <;> decide
    rw [e] at p1 hrun ⊢
    refine ⟨⟨4, t.text, 0, 0⟩, ?_, ?_, s2, hrun⟩
    · unfold eO
      rw [p1, hc.1, hc.2.1, if_neg (by decide), if_neg (by rintro (g | g); cases g; exact hc.2.2.1 g), if_neg hc.2.2.2, s1, if_neg (by omega), List.take_left, fx]
    · unfold dH
      rcases hn with hn | hn
      · rw [← k, ← hn]
      · omega

/-! ### All tokens -/
def rendL : Option Tok → List Tok → List Int
  | _, [] => []
  | p, t :: r => (if th p t = true then [32] else []) ++ (txtL t ++ rendL (some t) r)


end Go.Proofs.YthcoegkfpinlfaaGreatDoor.Ex

namespace Go.Proofs.YthcoegkfpinlfaaGreatDoor.Ex
open Go.RowKit
theorem yL (g : Int → Bool) : ∀ l : List UInt8, un g l = bu g (l.map fun b => (b.toNat : Int))
  | [] => rfl
  | c :: l => by rw [List.map_cons, gQ, ← yL g l]; unfold un; rw [List.takeWhile_cons]; split <;> simp [Nat.add_comm, *]
theorem nameB_nameL (s : ByteArray) : vX s = iN (aa s) := by
  have hl : (aa s).length = s.size := ar s
  rcases Nat.eq_zero_or_pos s.size with h | h
  · rw [← yh h]
    unfold iN
    rw [hl, h]; rfl
  · rw [qY h]
    unfold iN
    rw [hl, yL]
    have h0 : bAt (aa s) 0 = (s[0].toNat : Int) := by
      have := iB h
      rw [← jr]
      unfold ac
      rw [List.getD_eq_getElem?_getD, show Int.toNat 0 = 0 from rfl, List.getElem?_eq_getElem (by simpa using h)]
      rfl
    rw [h0]
    simp [h, aa]
    rfl
set_option maxRecDepth 100000

/-! ### Tokens -/
abbrev plusS : ByteArray := ⟨#[43]⟩
abbrev minusS : ByteArray := ⟨#[45]⟩
def numT (n : Int) : Tok := ⟨2, emp, n, 0⟩
def aZ (s : ByteArray) : Tok := ⟨1, s, 0, 0⟩
def aK (s : ByteArray) : Tok := ⟨4, s, 0, 0⟩
theorem check_num (n : Int) : dN (numT n) = 0 := by unfold dN isT numT; simp
theorem check_name {s : ByteArray} (h : dQ s = true) : dN (aZ s) = 0 := by
  unfold dQ at h
  rw [Bool.and_eq_true, nameB_nameL] at h
  unfold dN isT aZ
  simp [h.2]
theorem txt_num {n : Int} (h : 0 ≤ n) : txtL (numT n) = dL n := by
  unfold txtL textT dL
  rw [if_pos (check_num n)]
  rfl
theorem txt_name {s : ByteArray} (h : dQ s = true) : txtL (aZ s) = aa s := by
  unfold txtL textT
  rw [if_pos (check_name h)]
  rfl
theorem txt_sgn {s : ByteArray} (h : dN (aK s) = 0) : txtL (aK s) = aa s := by
  unfold txtL textT
  rw [if_pos h]
  rfl
theorem GJ (t : Tok) (s : ByteArray) (h : s ≠ ⟨#[47]⟩) : apartF t (aK s) = false := by
  unfold apartF nO oP aK
  simp [h]
theorem IG (t : Tok) (s : ByteArray) (h : s ≠ ⟨#[47]⟩) : apartF (aK s) t = false := by
  unfold apartF nO oP aK
  simp [h]
theorem sep_sgn (t : Tok) {s : ByteArray} (h : s ≠ ⟨#[47]⟩) : th (some t) (aK s) = false := GJ t s h
theorem sgn_sep (t : Tok) {s : ByteArray} (h : s ≠ ⟨#[47]⟩) : th (some (aK s)) t = false := IG t s h
theorem minus_ne : minusS ≠ ⟨#[47]⟩ := by decide
theorem plus_ne : plusS ≠ ⟨#[47]⟩ := by decide
theorem gP (p : Option Tok) (t : Tok) (r : List Tok) (h : th p t = false) : rendL p (t :: r) = txtL t ++ rendL (some t) r := by
  rw [rendL, h]; rfl
theorem FD : ∀ (f n : Nat), n < 10 ^ (f + 1) → decG (f + 1) n = Lib.decDigits n
  | 0, n, h => by
    have h10 : n < 10 := by simpa using h
    rw [decG, if_pos h10, Lib.decDigits, dif_pos h10]
  | f + 1, n, h => by
    rw [decG, Lib.decDigits]
    by_cases h10 : n < 10
    · rw [if_pos h10, dif_pos h10]
    · rw [if_neg h10, dif_neg h10, FD f (n / 10) (by rw [Nat.pow_succ] at h; omega)]
theorem decS_dL {n : Nat} (h : n < 18446744073709551616) : aa (decS n) = dL (n : Int) := by
  unfold dL sI decS
  rw [FD 19 n (by omega), Int.toNat_natCast]

/-! ### The tokens of a value's text -/
def tailT (a : Int) : List Tok := if a = 0 then [] else if a < 0 then [aK minusS, numT (-a)] else [aK plusS, numT a]
def midT (m : ByteArray) : List Tok := if m = emp then [] else [aK minusS, aZ m]
def valT (v : Val) : List Tok :=
  if v.plus = emp ∧ v.minus = emp then (if v.add < 0 then [aK minusS, numT (-v.add)] else [numT v.add])
  else (if v.plus = emp then numT 0 else aZ v.plus) :: (midT v.minus ++ tailT v.add)
structure ValOk (v : Val) : Prop where
  p : v.plus = emp ∨ dQ v.plus = true
  m : v.minus = emp ∨ dQ v.minus = true
  ne : v.plus = v.minus → v.plus = emp
  lo : -9223372036854775808 ≤ v.add
  hi : v.add ≤ 9223372036854775807
theorem print_ok {v : Val} {s : ByteArray} (h : printF v = (s, 0)) (lo : -9223372036854775808 ≤ v.add) (hi : v.add ≤ 9223372036854775807) : ValOk v := by
  unfold printF at h
  split at h
  · injection h with h1 h2; cases h2
  · rename_i c1
    split at h
    · injection h with h1 h2; cases h2
    · rename_i c2
      refine ⟨?_, ?_, fun e => ?_, lo, hi⟩
      · by_cases e : v.plus = emp
        · exact .inl e
        · right
          cases hs : dQ v.plus with
          | true => rfl
          | false => exact absurd (.inl ⟨e, hs⟩) c1
      · by_cases e : v.minus = emp
        · exact .inl e
        · right
          cases hs : dQ v.minus with
          | true => rfl
          | false => exact absurd (.inr ⟨e, hs⟩) c1
      · by_cases e2 : v.plus = emp
        · exact e2
        · exact absurd ⟨e, e2⟩ c2
theorem sgnM : dN (aK minusS) = 0 := by decide +kernel
theorem sgnP : dN (aK plusS) = 0 := by decide +kernel
theorem yT {a : Int} (lo : -9223372036854775808 ≤ a) (hi : a ≤ 9223372036854775807) (t : Tok) : rendL (some t) (tailT a) = if a = 0 then [] else aa (signS a) := by
  unfold tailT signS
  by_cases h0 : a = 0
  · rw [if_pos h0, if_pos h0]; rfl
  rw [if_neg h0, if_neg h0]
  by_cases h : a < 0
  · rw [if_pos h, if_pos h, gP _ _ _ (sep_sgn _ minus_ne), gP _ _ _ (sgn_sep _ minus_ne), txt_sgn sgnM, txt_num (by omega), d9, decS_dL (by omega), Int.toNat_of_nonneg (by omega), rendL, List.append_nil]
  · rw [if_neg h, if_neg h, gP _ _ _ (sep_sgn _ plus_ne), gP _ _ _ (sgn_sep _ plus_ne), txt_sgn sgnP, txt_num (by omega), d9, decS_dL (by omega), Int.toNat_of_nonneg (by omega), rendL, List.append_nil]
theorem val_rend {v : Val} {s : ByteArray} (h : printF v = (s, 0)) (hv : ValOk v) : aa s = rendL none (valT v) := by
  obtain ⟨hp, hm, hne, lo, hi⟩ := hv
  unfold printF at h
  split at h
  · injection h with h1 h2; cases h2
  split at h
  · injection h with h1 h2; cases h2
  unfold valT
  split at h
  · rename_i hpl
    rw [if_pos hpl]
    split at h
    · rename_i hn
      rw [if_pos hn]
      injection h with h1 h2
      have := yT lo hi (numT 0)
      unfold tailT at this
      rw [if_neg (by omega), if_pos hn, if_neg (by omega), h1] at this
      rw [← this, gP _ _ _ (sep_sgn _ minus_ne), gP none _ _ rfl]
    · rename_i hn
      rw [if_neg hn]
      injection h with h1 h2
      rw [gP none _ _ rfl, txt_num (by omega), rendL, List.append_nil, ← h1, decS_dL (by omega), Int.toNat_of_nonneg (by omega)]
  · rename_i hpl
    rw [if_neg hpl]
    injection h with h1 h2
    have hb : ∀ x : List Tok, rendL none ((if v.plus = emp then numT 0 else aZ v.plus) :: x) = aa (if v.plus = emp then ⟨#[48]⟩ else v.plus) ++ rendL (some (if v.plus = emp then numT 0 else aZ v.plus)) x := by
      intro x
      rw [gP none _ _ rfl]
      congr 1
      by_cases e : v.plus = emp
      · rw [if_pos e, if_pos e, txt_num (by decide)]
        decide +kernel
      · rw [if_neg e, if_neg e, txt_name (hp.resolve_left e)]
    rw [hb, ← h1]
    obtain ⟨B, hB⟩ : ∃ B, (if v.plus = emp then numT 0 else aZ v.plus) = B := ⟨_, rfl⟩
    rw [hB]
    obtain ⟨O, hO⟩ : ∃ O, (if v.plus = emp then (⟨#[48]⟩ : ByteArray) else v.plus) = O := ⟨_, rfl⟩
    simp only [hO]
    have key : ∀ (O2 : ByteArray) (t : Tok), aa (if v.add = 0 then O2 else O2 ++ signS v.add) = aa O2 ++ rendL (some t) (tailT v.add) := by
      intro O2 t
      rw [yT lo hi]
      split
      · rw [List.append_nil]
      · rw [d9]
    by_cases em : v.minus = emp
    · simp only [if_pos em]
      unfold midT
      rw [if_pos em, List.nil_append]
      exact key O B
    · simp only [if_neg em]
      have hsm := hm.resolve_left em
      unfold midT
      rw [if_neg em, List.cons_append, List.cons_append, List.nil_append, gP _ _ _ (sep_sgn _ minus_ne), gP _ _ _ (sgn_sep _ minus_ne), txt_sgn sgnM, txt_name hsm, key _ (aZ v.minus), d9, d9]
      simp only [List.append_assoc]
theorem val_toks {v : Val} (hv : ValOk v) : ∀ u ∈ valT v, dN u = 0 ∧ 0 ≤ u.n ∧ u.n < 18446744073709551616 := by
  obtain ⟨hp, hm, hne, lo, hi⟩ := hv
  have hs : ∀ u, u = aK minusS ∨ u = aK plusS → dN u = 0 ∧ 0 ≤ u.n ∧ u.n < 18446744073709551616 := by
    rintro u (rfl | rfl)
    · exact ⟨sgnM, by decide, by decide⟩
    · exact ⟨sgnP, by decide, by decide⟩
  have hnum : ∀ n : Int, 0 ≤ n → n < 18446744073709551616 → dN (numT n) = 0 ∧ 0 ≤ (numT n).n ∧ (numT n).n < 18446744073709551616 := fun n h0 h1 => ⟨check_num n, h0, h1⟩
  intro u hu
  unfold valT at hu
  split at hu
  · split at hu
    · simp only [List.mem_cons, List.not_mem_nil, or_false] at hu
      rcases hu with rfl | rfl
      · exact hs _ (.inl rfl)
      · exact hnum _ (by omega) (by omega)
    · simp only [List.mem_cons, List.not_mem_nil, or_false] at hu
      subst hu
      exact hnum _ (by omega) (by omega)
  · rw [List.mem_cons, List.mem_append] at hu
    rcases hu with rfl | hu | hu
    · split
      · exact hnum _ (by omega) (by omega)
      · rename_i e
        exact ⟨check_name (hp.resolve_left e), Int.le_refl _, by show (0 : Int) < _; decide⟩
    · unfold midT at hu
      split at hu
      · simp at hu
      · rename_i e
        simp only [List.mem_cons, List.not_mem_nil, or_false] at hu
        rcases hu with rfl | rfl
        · exact hs _ (.inl rfl)
        · exact ⟨check_name (hm.resolve_left e), Int.le_refl _, by show (0 : Int) < _; decide⟩
    · unfold tailT at hu
      split at hu
      · simp at hu
      · split at hu
        · simp only [List.mem_cons, List.not_mem_nil, or_false] at hu
          rcases hu with rfl | rfl
          · exact hs _ (.inl rfl)
          · exact hnum _ (by omega) (by omega)
        · simp only [List.mem_cons, List.not_mem_nil, or_false] at hu
          rcases hu with rfl | rfl
          · exact hs _ (.inr rfl)
          · exact hnum _ (by omega) (by omega)
theorem bare_valT (v : Val) : (valT v).map dH = valT v := by
  unfold valT midT tailT
  repeat' split
  all_goals rfl

/-! ### The terms -/
def Am (v : Val) : List Term :=
  if v.plus = emp ∧ v.minus = emp then (if v.add < 0 then [⟨1, wrap64 (-v.add), emp⟩, ⟨3, 0, emp⟩] else [⟨1, wrap64 v.add, emp⟩])
  else (if v.plus = emp then ⟨1, 0, emp⟩ else ⟨2, 0, v.plus⟩) :: ((if v.minus = emp then [] else [⟨2, 0, v.minus⟩, ⟨9, 0, emp⟩]) ++ (if v.add = 0 then [] else if v.add < 0 then [⟨1, wrap64 (-v.add), emp⟩, ⟨9, 0, emp⟩] else [⟨1, wrap64 v.add, emp⟩, ⟨8, 0, emp⟩]))
section
variable {l : List Tok} {N p : Nat} {u : Tok}
theorem re {n : Int} (h : l[p]? = some u) (hb : dH u = numT n) : Reads (aU l (N + 1)) p (p + 1) 0 [⟨1, wrap64 n, emp⟩] := by
  have e1 : u.kind = 2 := congrArg Tok.kind hb
  have e2 : u.n = n := congrArg Tok.n hb
  have := Iv (N := N) h e1
  rw [e2] at this; exact this
theorem uH {s : ByteArray} (h : l[p]? = some u) (hb : dH u = aZ s) : Reads (aU l (N + 1)) p (p + 1) 0 [⟨2, 0, s⟩] := by
  have e1 : u.kind = 1 := congrArg Tok.kind hb
  have e2 : u.text = s := congrArg Tok.text hb
  have := EH (N := N) h e1
  rw [e2] at this; exact this
end
theorem vA {l : List Tok} {q : Nat} {k : Int} (hk : k = 8 ∨ k = 9) (h : nxt l q = eC k) : cf (nxt l q) [5, 6, 7] 0 = 0 ∧ cf (nxt l q) [8, 9] 0 = k := by
  rw [h]
  rcases hk with rfl | rfl <;> decide +kernel
theorem nV {l : List Tok} {read : PS → PR} {q : Nat} {k : Int} {b c : List Term} {z : Nat} (hk : k = 8 ∨ k = 9) (hn : nxt l q = eC k) (hr : Reads read (q + 1) (q + 2) 0 b) (hc : Chn l read [8, 9] (q + 2) z 0 c) : Chn l read [8, 9] q z 0 (b ++ ⟨k, 0, emp⟩ :: c) :=
  .cons (vA hk hn).2 (by omega) hr (by omega) hc (Int.le_refl _) (Int.le_refl _)
theorem I2 {a : Int} (lo : -9223372036854775808 ≤ a) (hi : a ≤ 9223372036854775807) : wrap64 a = a := by unfold wrap64; omega
/-- an operand of a value's text: 0 or a name -/
theorem Oa {l : List Tok} {N p : Nat} {u : Tok} {v : Val} (h : l[p]? = some u) (hb : dH u = if v.plus = emp then numT 0 else aZ v.plus) : Reads (aU l (N + 1)) p (p + 1) 0 [if v.plus = emp then ⟨1, 0, emp⟩ else ⟨2, 0, v.plus⟩] := by
  by_cases e : v.plus = emp
  · rw [if_pos e] at hb ⊢
    have := re (N := N) (n := 0) h hb
    rw [show wrap64 0 = 0 from by decide +kernel] at this
    exact this
  · rw [if_neg e] at hb ⊢
    exact uH h hb

/-! ### What they come to -/
theorem zr (s : ByteArray) : s ++ emp = s := ByteArray.append_empty
theorem Nh (s : ByteArray) : emp ++ s = s := ByteArray.empty_append
theorem Pr {p m : ByteArray} (h : p = m → p = emp) (hm : m ≠ emp) : mG ⟨0, p, emp⟩ (rU ⟨0, m, emp⟩) = (⟨0, p, m⟩, 0) := by
  have hpm : ¬ p = m := fun e => hm (e ▸ h e)
  have c1 : bC ⟨0, p, emp⟩ = ⟨0, p, emp⟩ := by
    unfold bC
    simp only
    split
    · rename_i e; rw [e]
    · rfl
  have c2 : bC (rU ⟨0, m, emp⟩) = ⟨0, emp, m⟩ := by
    unfold bC rU
    simp only
    rw [if_neg (fun e => hm e.symm), show wrap64 (-0) = 0 from by decide +kernel]
  unfold mG
  rw [c1, c2]
  unfold d6
  simp only [if_neg hpm, if_true]
  rw [if_neg (by simp)]
  rw [zr, Nh, show wrap64 (0 + 0) = 0 from by decide +kernel]
theorem Fs {p m : ByteArray} {n : Int} (h : p = m → p = emp) : mG ⟨0, p, m⟩ ⟨n, emp, emp⟩ = (⟨wrap64 n, p, m⟩, 0) := by
  have c1 : bC ⟨0, p, m⟩ = ⟨0, p, m⟩ := by
    unfold bC
    simp only
    split
    · rename_i e; rw [← e, h e]
    · rfl
  have c2 : bC ⟨n, emp, emp⟩ = ⟨n, emp, emp⟩ := by unfold bC; simp
  unfold mG
  rw [c1, c2]
  have mt : ∀ x : ByteArray, d6 x emp = (x, emp) := by
    intro x
    unfold d6
    split
    · rename_i e; rw [e]
    · rfl
  simp only [mt]
  rw [if_neg (by simp), zr, zr, Int.zero_add]
theorem tk : bz 1 = 0 ∧ bz 2 = 0 ∧ bz 3 = 1 ∧ bz 8 = 2 ∧ bz 9 = 2 := by decide
theorem nY {vs : List Val} {k n : Int} {s : ByteArray} {r : List Term} (hk : k = 1 ∨ k = 2) : ee vs (⟨k, n, s⟩ :: r) = ee (vs ++ [⟨n, s, emp⟩]) r :=
  vt (t := ⟨k, n, s⟩) (by show bz k = 0; rcases hk with rfl | rfl <;> decide)
theorem DJ {x y v : Val} {k : Int} {r : List Term} (hk : k = 8 ∨ k = 9) (h : cH k x y = (v, 0)) : ee [x, y] (⟨k, 0, emp⟩ :: r) = ee [v] r := by
  have := vu (vs := [x, y]) (t := ⟨k, 0, emp⟩) (r := r) (v := v) (by rcases hk with rfl | rfl <;> decide) h
  rw [this]
  have e : bz k = 2 := by rcases hk with rfl | rfl <;> decide
  simp [e]
theorem val_eval {v : Val} (hv : ValOk v) : evalAll (Am v) = (v, 0) := by
  obtain ⟨a, p, m⟩ := v
  obtain ⟨hp, hm, hne, lo, hi⟩ := hv
  simp only at hp hm hne lo hi
  have w1 := I2 lo hi
  have w2 : a < 0 → wrap64 (-wrap64 (-a)) = a := by intro h; unfold wrap64; omega
  have t1 : ∀ n : Int, gq ⟨1, n, emp⟩ = true := fun n => by simp [gq]
  have t2 : ∀ s : ByteArray, dQ s = true → gq ⟨2, 0, s⟩ = true := fun s h => by simp [gq, h]
  have t3 : gq ⟨3, 0, emp⟩ = true := by decide +kernel
  have t8 : gq ⟨8, 0, emp⟩ = true := by decide +kernel
  have t9 : gq ⟨9, 0, emp⟩ = true := by decide +kernel
  obtain ⟨k1, k2, k3, k8, k9⟩ := tk
  unfold Am
  simp only
  by_cases c : p = emp ∧ m = emp
  · rw [if_pos c]
    obtain ⟨rfl, rfl⟩ := c
    by_cases c2 : a < 0
    · rw [if_pos c2]
      have hc : dM [⟨1, wrap64 (-a), emp⟩, ⟨3, 0, emp⟩] = 0 := by simp [dM, cQ, t1, t3, k1, k3]
      unfold evalAll
      rw [if_pos hc, nY (.inl rfl)]
      have := vu (vs := [⟨wrap64 (-a), emp, emp⟩]) (t := ⟨3, 0, emp⟩) (r := []) (v := ⟨a, emp, emp⟩) (by decide) (by show cH 3 _ ⟨wrap64 (-a), emp, emp⟩ = _; unfold cH rU; rw [if_pos rfl]; simp only [w2 c2])
      rw [List.nil_append, this, ee]
      rfl
    · rw [if_neg c2]
      have hc : dM [⟨1, wrap64 a, emp⟩] = 0 := by simp [dM, cQ, t1, k1]
      unfold evalAll
      rw [if_pos hc, nY (.inl rfl), ee, w1]
      rfl
  · rw [if_neg c]
    obtain ⟨b, hb⟩ : ∃ b : Term, (if p = emp then ⟨1, 0, emp⟩ else ⟨2, 0, p⟩) = b := ⟨_, rfl⟩
    have bt : gq b = true := by
      rw [← hb]
      split
      · exact t1 0
      · rename_i e; exact t2 p (hp.resolve_left e)
    have bk : bz b.kind = 0 := by
      rw [← hb]
      split
      · exact k1
      · exact k2
    have be : ∀ (r : List Term), ee [] (b :: r) = ee [⟨0, p, emp⟩] r := by
      intro r
      rw [← hb]
      by_cases e : p = emp
      · rw [if_pos e, nY (.inl rfl), e]; rfl
      · rw [if_neg e, nY (.inr rfl)]; rfl
    rw [hb]
    have sub : m ≠ emp → ∀ r, ee [⟨0, p, emp⟩] (⟨2, 0, m⟩ :: ⟨9, 0, emp⟩ :: r) = ee [⟨0, p, m⟩] r := by
      intro em r
      rw [nY (.inr rfl)]
      exact DJ (.inr rfl) (by rw [show cH 9 ⟨0, p, emp⟩ ⟨0, m, emp⟩ = mG ⟨0, p, emp⟩ (rU ⟨0, m, emp⟩) from by simp [cH]]; exact Pr hne em)
    have neg : a < 0 → ∀ (m : ByteArray) r, (p = m → p = emp) → ee [⟨0, p, m⟩] (⟨1, wrap64 (-a), emp⟩ :: ⟨9, 0, emp⟩ :: r) = ee [⟨a, p, m⟩] r := by
      intro ha m r hne
      rw [nY (.inl rfl)]
      refine DJ (.inr rfl) ?_
      rw [show cH 9 ⟨0, p, m⟩ ⟨wrap64 (-a), emp, emp⟩ = mG ⟨0, p, m⟩ (rU ⟨wrap64 (-a), emp, emp⟩) from by simp [cH]]
      rw [show rU ⟨wrap64 (-a), emp, emp⟩ = ⟨a, emp, emp⟩ from by unfold rU; simp only [w2 ha], Fs hne, w1]
    have pos : ∀ (m : ByteArray) r, (p = m → p = emp) → ee [⟨0, p, m⟩] (⟨1, wrap64 a, emp⟩ :: ⟨8, 0, emp⟩ :: r) = ee [⟨a, p, m⟩] r := by
      intro m r hne
      rw [nY (.inl rfl)]
      refine DJ (.inl rfl) ?_
      rw [show cH 8 ⟨0, p, m⟩ ⟨wrap64 a, emp, emp⟩ = mG ⟨0, p, m⟩ ⟨wrap64 a, emp, emp⟩ from by simp [cH], w1, Fs hne, w1]
    have fin : ee [⟨a, p, m⟩] [] = (⟨a, p, m⟩, 0) := rfl
    unfold evalAll
    by_cases em : m = emp
    · rw [if_pos em, List.nil_append]
      have hpe : p = m → p = emp := hne
      subst em
      by_cases e0 : a = 0
      · rw [if_pos e0]
        subst e0
        rw [if_pos (by simp [dM, cQ, bt, bk]), be]
        rfl
      · rw [if_neg e0]
        by_cases en : a < 0
        · rw [if_pos en, if_pos (by simp [dM, cQ, bt, bk, t1, t9, k1, k9]), be, neg en emp _ hne]
          rfl
        · rw [if_neg en, if_pos (by simp [dM, cQ, bt, bk, t1, t8, k1, k8]), be, pos emp _ hne]
          rfl
    · rw [if_neg em]
      have tm := t2 m (hm.resolve_left em)
      by_cases e0 : a = 0
      · rw [if_pos e0]
        subst e0
        rw [if_pos (by simp [dM, cQ, bt, bk, tm, t9, k2, k9]), be, List.append_nil, sub em]
        rfl
      · rw [if_neg e0]
        by_cases en : a < 0
        · rw [if_pos en, if_pos (by simp [dM, cQ, bt, bk, tm, t1, t9, k1, k2, k9]), be, List.cons_append, List.cons_append, List.nil_append, sub em, neg en m _ hne]
          rfl
        · rw [if_neg en, if_pos (by simp [dM, cQ, bt, bk, tm, t1, t8, t9, k1, k2, k8, k9]), be, List.cons_append, List.cons_append, List.nil_append, sub em, pos m _ hne]
          rfl

end Go.Proofs.YthcoegkfpinlfaaGreatDoor.Ex
