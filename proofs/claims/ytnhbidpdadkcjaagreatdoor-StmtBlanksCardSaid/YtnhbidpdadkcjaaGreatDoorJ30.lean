/- Tokens as a line, read again: plain, for expressions. No program in sight but for the names. A value's text, read and reckoned again. No program in sight. -/
import Derived.Test.YtnhbidpdadkcjaaGreatDoorJ29
import Derived.Test.YtnhbidpdadkcjaaGreatDoorJ12
import Derived.Lib.ItoaMem
set_option linter.unusedVariables false
set_option linter.unusedSimpArgs false
namespace Go.Proofs.YtnhbidpdadkcjaaGreatDoor.Ex
open Go.RowKit
theorem sC (c : Int) : (iP c).length ≤ 4 := by
  unfold iP; split
  · simp
  · split <;> simp
theorem quoteB_len : ∀ l : List Int, (oo l).length ≤ 4 * l.length
  | [] => by simp [oo]
  | c :: l => by
    have h1 := quoteB_len l
    have h2 := sC c
    have : oo (c :: l) = iP c ++ oo l := rfl
    rw [this, List.length_append, List.length_cons]
    omega
set_option maxRecDepth 100000

def D7 (n : Int) : ByteArray := ⟨(Lib.decDigits n.toNat).toArray⟩
theorem D8 {n : Int} (h0 : 0 ≤ n) (h : n < 10) : D7 n = bu [48 + n] := by
  unfold D7
  rw [Lib.decDigits_one (by omega)]
  unfold bu
  simp only [List.map_cons, List.map_nil]
  rw [show (48 + n).toNat = 48 + n.toNat by omega]
theorem Ku {n : Int} (h : 10 ≤ n) : D7 n = D7 (n / 10) ++ bu [48 + n % 10] := by
  unfold D7
  rw [Lib.decDigits, dif_neg (by omega)]
  have e1 : (n / 10).toNat = n.toNat / 10 := by omega
  have e2 : (48 + n % 10).toNat = 48 + n.toNat % 10 := by omega
  rw [e1]
  unfold bu
  simp only [List.map_cons, List.map_nil, e2]
  refine ByteArray.ext ?_
  simp [ByteArray.append]

def yz (t : Tok) : ByteArray := if qk t = 0 then if t.kind = 2 then D7 t.n else if t.kind = 3 then bu (sD (ab t.text)) else t.text else emp

/-! ### Plain -/
def zZ (t : Tok) : Bool := decide (t.kind = 1) || decide (t.kind = 2)
def yi (t : Tok) : Bool := decide (t.kind = 4) && decide (t.text = ⟨#[47]⟩)
def QW (a b : Tok) : Bool := (zZ a && zZ b) || (yi a && yi b)
def Di (p : Option Tok) (t : Tok) : Bool := match p with | some a => QW a t | none => false
def spB : ByteArray := ⟨#[32]⟩

theorem check_is {t : Tok} (h : qk t = 0) : isT t = true ∧ 0 ≤ t.pos ∧ (t.n = 0 ∨ t.kind = 2) := by
  unfold qk at h
  split at h
  · assumption
  · cases h
theorem check_kind {t : Tok} (h : qk t = 0) : t.kind = 1 ∨ t.kind = 2 ∨ t.kind = 3 ∨ t.kind = 4 := by
  have := (check_is h).1
  unfold isT at this
  split at this
  · exact .inl (by assumption)
  · split at this
    · exact .inr (.inl (by assumption))
    · split at this
      · exact .inr (.inr (.inl (by assumption)))
      · split at this
        · exact .inr (.inr (.inr (by assumption)))
        · cases this


/-! ### Digits -/
def dL (n : Int) : List Int := ab (D7 n)
theorem BW {n : Int} (h0 : 0 ≤ n) (h : n < 10) : dL n = [48 + n] := by
  unfold dL
  rw [D8 h0 h, cN (by simp; omega)]
theorem Q6 {n : Int} (h : 10 ≤ n) : dL n = dL (n / 10) ++ [48 + n % 10] := by
  unfold dL
  rw [Ku h, nw, cN (by simp; omega)]
theorem Kr : ∀ (N : Nat) (n : Int), n.toNat ≤ N → 0 ≤ n → (∀ c ∈ dL n, 48 ≤ c ∧ c ≤ 57) ∧ cK 10 (dL n) = n ∧ 1 ≤ (dL n).length ∧ (1 ≤ n → bAt (dL n) 0 ≠ 48) ∧ (n < 10 → (dL n).length = 1) := by
  intro N
  induction N with
  | zero =>
    intro n hN h0
    obtain rfl : n = 0 := by omega
    rw [BW (by omega) (by omega)]
    refine ⟨by simp, rfl, by simp, by omega, by simp⟩
  | succ N ih =>
    intro n hN h0
    by_cases h : n < 10
    · rw [BW h0 h]
      refine ⟨by simp; omega, ?_, by simp, ?_, by simp⟩
      · show (0 * 10 + bw (48 + n) : Int) = n
        unfold bw
        rw [if_pos (by omega)]
        omega
      · intro h1
        show 48 + n ≠ 48
        omega
    · obtain ⟨i1, i2, i3, i4, i5⟩ := ih (n / 10) (by omega) (by omega)
      rw [Q6 (by omega)]
      refine ⟨?_, ?_, ?_, ?_, ?_⟩
      · intro c hc
        rw [List.mem_append, List.mem_singleton] at hc
        rcases hc with hc | rfl
        · exact i1 c hc
        · omega
      · unfold cK at i2 ⊢
        rw [List.foldl_append, i2]
        show n / 10 * 10 + bw (48 + n % 10) = n
        unfold bw
        rw [if_pos (by omega)]
        omega
      · simp
      · intro _
        rw [iu (by omega)]
        exact i4 (by omega)
      · omega
theorem Hu {l : List Int} (h : ∀ c ∈ l, 48 ≤ c ∧ c ≤ 57) {i : Nat} (hi : i < l.length) : 48 ≤ bAt l i ∧ bAt l i ≤ 57 := by
  have := wj hi
  exact h _ (List.mem_of_getElem? this)

/-- what may stand behind a word -/
def JT (r : List Int) : Prop := r = [] ∨ dc (bAt r 0) = false
theorem Ix {a r : List Int} (h : JT r) : ¬ (a.length < (a ++ r).length ∧ dc (bAt (a ++ r) a.length) = true) := by
  rintro ⟨h1, h2⟩
  rw [BN] at h2
  rcases h with rfl | h
  · simp at h1
  · rw [h] at h2; cases h2

/-! ### Quotes -/
theorem QJ {c : Int} (h0 : 0 ≤ c) (h1 : c ≤ 255) (x : List Int) : gt (iP c ++ x) = .put c (iP c).length := by
  have hx16 : bw (mN (c / 16)) = c / 16 := by
    unfold mN bw
    by_cases h : c / 16 < 10
    · rw [if_pos h, if_pos (by omega)]; omega
    · rw [if_neg h, if_neg (by omega), if_pos (by omega)]; omega
  have hx1 : bw (mN (c % 16)) = c % 16 := by
    unfold mN bw
    by_cases h : c % 16 < 10
    · rw [if_pos h, if_pos (by omega)]; omega
    · rw [if_neg h, if_neg (by omega), if_pos (by omega)]; omega
  by_cases hs : dX c ≠ 0
  · have e : iP c = [92, dX c] := by unfold iP; rw [if_pos hs]
    have hl : longL (dX c) = some c := by
      unfold dX at hs ⊢
      by_cases c0 : c = 0
      · subst c0; rfl
      by_cases c1 : c = 9
      · subst c1; rfl
      by_cases c2 : c = 10
      · subst c2; rfl
      by_cases c3 : c = 13
      · subst c3; rfl
      by_cases c4 : c = 34
      · subst c4; rfl
      by_cases c5 : c = 92
      · subst c5; rfl
      · simp only [c0, c1, c2, c3, c4, c5, or_self, if_false] at hs
        exact absurd rfl hs
    rw [e]
    unfold gt
    rw [if_neg (by simp), if_neg (by show ¬ (92 : Int) = 34; decide), if_pos (by rfl)]
    have : lT (List.drop 1 ([92, dX c] ++ x)) = some (c, 1) := by
      show lT (dX c :: x) = _
      unfold lT
      rw [if_neg (by simp), qf, hl]
    rw [this]
    rfl
  have hs0 : dX c = 0 := by simpa using hs
  have hne : c ≠ 34 ∧ c ≠ 92 := by
    constructor
    · rintro rfl; exact absurd hs0 (by decide)
    · rintro rfl; exact absurd hs0 (by decide)
  by_cases hw : hZ c = true
  · have e : iP c = [c] := by unfold iP; rw [if_neg hs, if_pos hw]
    rw [e]
    unfold gt
    rw [if_neg (by simp), if_neg (by show ¬ c = 34; exact hne.1), if_neg (by show ¬ c = 92; exact hne.2), if_pos (by exact hw)]
    rfl
  · have e : iP c = [92, 120, mN (c / 16), mN (c % 16)] := by unfold iP; rw [if_neg hs, if_neg hw]
    rw [e]
    unfold gt
    rw [if_neg (by simp), if_neg (by show ¬ (92 : Int) = 34; decide), if_pos (by rfl)]
    have : lT (List.drop 1 ([92, 120, mN (c / 16), mN (c % 16)] ++ x)) = some (c, 3) := by
      show lT (120 :: mN (c / 16) :: mN (c % 16) :: x) = _
      unfold lT
      have hl : longL (bAt (120 :: mN (c / 16) :: mN (c % 16) :: x) 0) = none := by rw [qf]; rfl
      rw [if_neg (by simp), hl]
      have b1 : bAt (120 :: mN (c / 16) :: mN (c % 16) :: x) 1 = mN (c / 16) := rfl
      have b2 : bAt (120 :: mN (c / 16) :: mN (c % 16) :: x) 2 = mN (c % 16) := rfl
      simp only [b1, b2, hx16, hx1]
      rw [if_pos ⟨by simp, rfl, by omega, by omega⟩]
      congr 2
      omega
    rw [this]
    rfl
theorem Bg {c : Int} (h0 : 0 ≤ c) (h1 : c ≤ 255) : ∀ z ∈ iP c, 0 ≤ z ∧ z ≤ 255 := by
  have hd : ∀ k : Int, 0 ≤ k → k < 16 → 0 ≤ mN k ∧ mN k ≤ 255 := by
    intro k g0 g1; unfold mN; split <;> omega
  have hsr : 0 ≤ dX c ∧ dX c ≤ 255 := by unfold dX; (repeat' split) <;> omega
  intro z hz
  unfold iP at hz
  split at hz
  · simp at hz; rcases hz with rfl | rfl
    · omega
    · exact hsr
  · split at hz
    · simp at hz; omega
    · simp at hz
      rcases hz with rfl | rfl | rfl | rfl
      · omega
      · omega
      · exact hd _ (by omega) (by omega)
      · exact hd _ (by omega) (by omega)
theorem Bh {s : List Int} (h : ∀ z ∈ s, 0 ≤ z ∧ z ≤ 255) : ∀ z ∈ sD s, 0 ≤ z ∧ z ≤ 255 := by
  intro z hz
  unfold sD oo at hz
  simp only [List.mem_cons, List.mem_append, List.mem_flatMap, List.not_mem_nil, or_false] at hz
  rcases hz with rfl | ⟨c, hc, hz⟩ | rfl
  · omega
  · exact Bg (h c hc).1 (h c hc).2 z hz
  · omega

/-! ### One token -/
def pf (t : Tok) : List Int := ab (yz t)
/-- how a token's text begins -/
theorem txt_head {t : Tok} (h : qk t = 0) (h0 : 0 ≤ t.n) (r : List Int) : 0 < (pf t).length ∧ bAt (pf t ++ r) 0 = bAt (pf t) 0 ∧ aO (bAt (pf t) 0) = false ∧ (dc (bAt (pf t) 0) = true → zZ t = true) ∧ (bAt (pf t) 0 = 47 → yi t = true) := by
  have hi := (check_is h).1
  have key : 0 < (pf t).length ∧ aO (bAt (pf t) 0) = false ∧ (dc (bAt (pf t) 0) = true → zZ t = true) ∧ (bAt (pf t) 0 = 47 → yi t = true) := by
    unfold pf yz
    rw [if_pos h]
    rcases check_kind h with k | k | k | k
    · rw [if_neg (by omega), if_neg (by omega)]
      unfold isT at hi
      rw [if_pos k] at hi
      unfold fI at hi
      simp only [Bool.and_eq_true, decide_eq_true_eq] at hi
      obtain ⟨⟨g1, g2⟩, g3⟩ := hi
      have := sw g2
      exact ⟨g1, this.1, fun _ => by unfold zZ; rw [decide_eq_true k]; rfl, fun e => absurd e this.2⟩
    · rw [if_pos k]
      obtain ⟨f1, _, f3, _, _⟩ := Kr t.n.toNat t.n (Nat.le_refl _) h0
      have hd := Hu f1 (i := 0) (by omega)
      unfold dL at f3 hd
      refine ⟨by omega, by unfold aO; exact decide_eq_false (by omega), fun _ => by unfold zZ; rw [decide_eq_true k, Bool.or_true], fun e => by omega⟩
    · rw [if_neg (by omega), if_pos k, cN (Bh fun z hz => lq hz)]
      refine ⟨by unfold sD; simp, rfl, fun e => absurd e (by show ¬ dc 34 = true; decide), fun e => absurd e (by show ¬ (34 : Int) = 47; decide)⟩
    · rw [if_neg (by omega), if_neg (by omega)]
      unfold isT at hi
      rw [if_neg (by omega), if_neg (by omega), if_neg (by omega), if_pos k] at hi
      obtain ⟨g1, g2⟩ := of_decide_eq_true hi
      have hl := aW t.text
      have hs : dr (ab t.text) ≠ 0 := by omega
      have hh := zQ hs
      refine ⟨by omega, ?_, ?_, ?_⟩
      · rcases hh with e | e | e
        · rw [e]; rfl
        · rw [e]; rfl
        · exact (uQ e).1
      · intro hw
        exfalso
        rcases hh with e | e | e
        · rw [e] at hw; exact absurd hw (by decide)
        · rw [e] at hw; exact absurd hw (by decide)
        · revert hw e
          generalize bAt (ab t.text) 0 = c
          intro hw e
          unfold oV at e
          simp only [List.mem_cons, List.not_mem_nil, or_false] at e
          rcases e with rfl | rfl | rfl | rfl | rfl | rfl | rfl | rfl | rfl | rfl | rfl | rfl | rfl | rfl | rfl | rfl | rfl | rfl <;> exact absurd hw (by decide)
      · intro e
        have h1 : t.text.size = 1 := by
          rw [← g2]
          unfold dr
          rw [if_neg (by omega), if_pos ⟨by omega, by rw [e]; decide⟩]
        have h2 : ab t.text = [47] := by
          rw [← hl] at h1
          obtain ⟨x, hx⟩ := List.length_eq_one_iff.1 h1
          rw [hx] at e ⊢
          rw [show x = 47 from e]
        have h3 : t.text = ⟨#[47]⟩ := iY (h2.trans rfl)
        unfold yi
        rw [decide_eq_true k, decide_eq_true h3]; rfl
  exact ⟨key.1, iu key.1, key.2⟩

theorem Aa {a r : List Int} (h : fI a = true) (hr : JT r) : bO dc (a ++ r) = a.length := by
  unfold fI at h
  simp only [Bool.and_eq_true, decide_eq_true_eq] at h
  obtain ⟨⟨g1, g2⟩, g3⟩ := h
  refine tV _ _ _ (by simp) (fun i hi => ?_) (fun hi => ?_)
  · rw [iu hi]
    exact nP _ _ _ (by omega)
  · cases hw : dc (bAt (a ++ r) a.length) with
    | false => rfl
    | true => exact absurd ⟨hi, hw⟩ (Ix hr)


/-! ### All tokens -/


end Go.Proofs.YtnhbidpdadkcjaaGreatDoor.Ex

namespace Go.Proofs.YtnhbidpdadkcjaaGreatDoor.Ex
open Go.RowKit
theorem lg (g : Int → Bool) : ∀ l : List UInt8, sF g l = bO g (l.map fun b => (b.toNat : Int))
  | [] => rfl
  | c :: l => by rw [List.map_cons, gH, ← lg g l]; unfold sF; rw [List.takeWhile_cons]; split <;> simp [Nat.add_comm, *]
theorem nameB_nameL (s : ByteArray) : vA s = fI (ab s) := by
  have hl : (ab s).length = s.size := aW s
  rcases Nat.eq_zero_or_pos s.size with h | h
  · rw [← uA h]
    unfold fI
    rw [hl, h]; rfl
  · rw [pD h]
    unfold fI
    rw [hl, lg]
    have h0 : bAt (ab s) 0 = (s[0].toNat : Int) := by
      have := d8 h
      rw [← lu]
      unfold aj
      rw [List.getD_eq_getElem?_getD, show Int.toNat 0 = 0 from rfl, List.getElem?_eq_getElem (by simpa using h)]
      rfl
    rw [h0]
    simp [h, ab]
    rfl
set_option maxRecDepth 100000

/-! ### Tokens -/
abbrev TM : ByteArray := ⟨#[43]⟩
abbrev EL : ByteArray := ⟨#[45]⟩
def numT (n : Int) : Tok := ⟨2, emp, n, 0⟩
def nameT (s : ByteArray) : Tok := ⟨1, s, 0, 0⟩
def qG (s : ByteArray) : Tok := ⟨4, s, 0, 0⟩

/-! ### The tokens of a value's text -/
def Uk (a : Int) : List Tok := if a = 0 then [] else if a < 0 then [qG EL, numT (-a)] else [qG TM, numT a]
def midT (m : ByteArray) : List Tok := if m = emp then [] else [qG EL, nameT m]
def valT (v : Val) : List Tok :=
  if v.plus = emp ∧ v.minus = emp then (if v.add < 0 then [qG EL, numT (-v.add)] else [numT v.add])
  else (if v.plus = emp then numT 0 else nameT v.plus) :: (midT v.minus ++ Uk v.add)
structure lY (v : Val) : Prop where
  p : v.plus = emp ∨ ik v.plus = true
  m : v.minus = emp ∨ ik v.minus = true
  ne : v.plus = v.minus → v.plus = emp
  lo : -9223372036854775808 ≤ v.add
  hi : v.add ≤ 9223372036854775807
theorem print_ok {v : Val} {s : ByteArray} (h : printF v = (s, 0)) (lo : -9223372036854775808 ≤ v.add) (hi : v.add ≤ 9223372036854775807) : lY v := by
  unfold printF at h
  split at h
  · injection h with h1 h2; cases h2
  · rename_i c1
    split at h
    · injection h with h1 h2; cases h2
    · rename_i c2
      refine ⟨?_, ?_, fun e => ?_, lo, hi⟩
      · by_cases e : v.plus = emp
        · exact .inl e
        · right
          cases hs : ik v.plus with
          | true => rfl
          | false => exact absurd (.inl ⟨e, hs⟩) c1
      · by_cases e : v.minus = emp
        · exact .inl e
        · right
          cases hs : ik v.minus with
          | true => rfl
          | false => exact absurd (.inr ⟨e, hs⟩) c1
      · by_cases e2 : v.plus = emp
        · exact e2
        · exact absurd ⟨e, e2⟩ c2

/-! ### The terms -/
section
variable {l : List Tok} {N p : Nat} {u : Tok}
end

/-! ### What they come to -/

end Go.Proofs.YtnhbidpdadkcjaaGreatDoor.Ex
