/- Lines, the reference: the tests on bytes, names, signs. Lines, the reference: quotes are read. Lines, the reference: numbers are read. Lines, the reference: a token, all tokens, Lex. -/
import Derived.Test.YthcoegkfpinlfaaGreatDoorJ11
import Derived.Test.YthcoegkfpinlfaaGreatDoorJ29
import Derived.Test.YthcoegkfpinlfaaGreatDoorJ12
/-! ## LE -/
set_option linter.unusedVariables false
set_option linter.unusedSimpArgs false
namespace Go.Proofs.YthcoegkfpinlfaaGreatDoor.Lx
open Go.RowKit
set_option maxRecDepth 100000

/-! ### Bytes -/
set_option maxHeartbeats 400000 in
theorem Cx (n : Int) (w : World) :
    Calls Tryz.prog 102 #[.int .u8 n] w fun e w' => e = .returned (.bool (bG n)) ∧ w = w' := by
  go_enter Tryz.func102, Tryz.ntmps102
  go_wp2
  all_goals (go_ret; refine ⟨gl ?_, rfl⟩; rw [Bool.eq_iff_iff]; simp [bG]; try omega)
set_option maxHeartbeats 400000 in
theorem zY (n : Int) (w : World) :
    Calls Tryz.prog 104 #[.int .u8 n] w fun e w' => e = .returned (.bool (cy n)) ∧ w = w' := by
  go_enter Tryz.func104, Tryz.ntmps104
  go_wp2
  all_goals (go_ret; refine ⟨gl ?_, rfl⟩; rw [Bool.eq_iff_iff]; simp [cy]; try omega)
theorem DG (args : Array Value) (w : World) : (callFunc 102 args).run Tryz.prog w = .ok (.enter 102 args) w := by go_simp
theorem A9 (args : Array Value) (w : World) : (callFunc 104 args).run Tryz.prog w = .ok (.enter 104 args) w := by go_simp
def pR : bq Tryz.prog 102 := KP _ DG (bA .u8) (fun _ => True) (fun c => bv (bG c)) (fun _ => rfl) fun s hs M w v _ hv => by
  obtain rfl : v = .int .u8 s := hv
  exact (Cx s w).mono fun e w' ⟨h1, h2⟩ => ⟨⟨_, h1, rfl⟩, h2 ▸ .refl _ _⟩
theorem bT {id : Nat} {h : ag} {args : List AV} : pR.run id h args = bV (aI (bA .u8) (fun _ => True)) (fun c => .ret (bv (bG c))) h args := rfl
theorem bS {id : Nat} {h : ag} {args : List AV} : pR.pan id h args = ca (aI (bA .u8) (fun _ => True)) (fun c => .ret (bv (bG c))) h args := rfl
def yE : bq Tryz.prog 104 := KP _ A9 (bA .u8) (fun _ => True) (fun c => bv (cy c)) (fun _ => rfl) fun s hs M w v _ hv => by
  obtain rfl : v = .int .u8 s := hv
  exact (zY s w).mono fun e w' ⟨h1, h2⟩ => ⟨⟨_, h1, rfl⟩, h2 ▸ .refl _ _⟩
theorem cD {id : Nat} {h : ag} {args : List AV} : yE.run id h args = bV (aI (bA .u8) (fun _ => True)) (fun c => .ret (bv (cy c))) h args := rfl
theorem cC {id : Nat} {h : ag} {args : List AV} : yE.pan id h args = ca (aI (bA .u8) (fun _ => True)) (fun c => .ret (bv (cy c))) h args := rfl

def jJ (c : Int) : Int := if de c = 16 then -1 else de c
theorem Nm (args : Array Value) (w : World) : (callFunc 142 args).run Tryz.prog w = .ok (.enter 142 args) w := by go_simp
def wB : bq Tryz.prog 142 :=
  mk1 _ _ _ Tryz.func142 rfl Nm (bA .u8) ((fun c => 0 ≤ c ∧ c ≤ 255)) ((fun c => .ret (iv (jJ c)))) (by rw [Tryz.ntmps142]; decide) (fun c hc => by
  refine ab (ctx := [⟨_, yE⟩]) 4000 ?_
  rw [Tryz.ntmps142, Tryz.results142]
  simp only [Tryz.f142, Option.getD_some, aw]
  by_cases h1 : 48 ≤ c ∧ c ≤ 57
  · have hd : cy c = true := by simp [cy, h1]
    have e1 : IntKind.u8.wrap (c - 48) = c - 48 := by rw [IntKind.wrap_u8]; omega
    have e2 : IntKind.i64.wrap (c - 48) = c - 48 := by rw [IntKind.wrap_i64]; omega
    have e0 : de c = c - 48 := by unfold de; rw [if_pos h1]
    have e3 : jJ c = c - 48 := by unfold jJ; rw [e0, if_neg (by omega)]
    simp only [go_sem, cD, cC, hd, e1, e2, e3]
  · have hd : cy c = false := by simp [cy]; omega
    by_cases h2 : 97 ≤ c
    · by_cases h3 : c ≤ 102
      · have e1 : IntKind.u8.wrap (c - 97) = c - 97 := by rw [IntKind.wrap_u8]; omega
        have e2 : IntKind.i64.wrap (c - 97) = c - 97 := by rw [IntKind.wrap_i64]; omega
        have e4 : IntKind.i64.wrap (c - 97 + 10) = c - 97 + 10 := by rw [IntKind.wrap_i64]; omega
        have e0 : de c = c - 97 + 10 := by unfold de; rw [if_neg h1, if_pos ⟨h2, h3⟩]; omega
        have e3 : jJ c = c - 97 + 10 := by unfold jJ; rw [e0, if_neg (by omega)]
        simp only [go_sem, cD, cC, hd, h2, h3, e1, e2, e4, e3]
      · have h5 : (65 : Int) ≤ c := by omega
        have h6 : ¬ c ≤ 70 := by omega
        have e3 : jJ c = -1 := by unfold jJ; rw [if_pos (by unfold de; rw [if_neg h1, if_neg (by omega), if_neg (by omega)])]
        simp only [go_sem, cD, cC, hd, h2, h3, h5, h6, e3]
    · by_cases h5 : 65 ≤ c
      · by_cases h6 : c ≤ 70
        · have e1 : IntKind.u8.wrap (c - 65) = c - 65 := by rw [IntKind.wrap_u8]; omega
          have e2 : IntKind.i64.wrap (c - 65) = c - 65 := by rw [IntKind.wrap_i64]; omega
          have e4 : IntKind.i64.wrap (c - 65 + 10) = c - 65 + 10 := by rw [IntKind.wrap_i64]; omega
          have e0 : de c = c - 65 + 10 := by unfold de; rw [if_neg h1, if_neg (by omega), if_pos ⟨h5, h6⟩]; omega
          have e3 : jJ c = c - 65 + 10 := by unfold jJ; rw [e0, if_neg (by omega)]
          simp only [go_sem, cD, cC, hd, h2, h5, h6, e1, e2, e4, e3]
        · have e3 : jJ c = -1 := by unfold jJ; rw [if_pos (by unfold de; rw [if_neg h1, if_neg (by omega), if_neg (by omega)])]
          simp only [go_sem, cD, cC, hd, h2, h5, h6, e3]
      · have e3 : jJ c = -1 := by unfold jJ; rw [if_pos (by unfold de; rw [if_neg h1, if_neg (by omega), if_neg (by omega)])]
        simp only [go_sem, cD, cC, hd, h2, h5, e3])
theorem jX {id : Nat} {h : ag} {args : List AV} : (wB).run id h args = bV (aI (bA .u8) ((fun c => 0 ≤ c ∧ c ≤ 255))) ((fun c => .ret (iv (jJ c)))) h args := rfl
theorem jW {id : Nat} {h : ag} {args : List AV} : (wB).pan id h args = ca (aI (bA .u8) ((fun c => 0 ≤ c ∧ c ≤ 255))) ((fun c => .ret (iv (jJ c)))) h args := rfl

/-! ### Names -/
def tI (s : ByteArray) (j : Nat) : Prop := bG (ac s j) = true ∨ j ≠ 0 ∧ cy (ac s j) = true
theorem vY {s : ByteArray} {i : Nat} (hi : i < s.size) (h : ¬ tI s i) : iN (aa s) = false := by
  have hl := ar s
  unfold iN
  unfold tI at h
  rw [ce] at h
  by_cases h0 : i = 0
  · subst h0
    rw [show bG (bAt (aa s) 0) = false by simpa using fun h1 => h (.inl h1)]; simp
  · rw [decide_eq_false (show ¬ bu bn (aa s) = (aa s).length from fun e => ?_)]
    · simp
    · have := oO bn (aa s) i (by omega)
      unfold bn at this
      rw [Bool.or_eq_true] at this
      exact h (this.elim .inl fun h1 => .inr ⟨h0, h1⟩)
theorem H9 {s : ByteArray} (h : ∀ j, j < s.size → tI s j) : iN (aa s) = decide (0 < s.size) := by
  have hl := ar s
  unfold iN
  rw [hl]
  by_cases h0 : 0 < s.size
  · have h1 : bG (bAt (aa s) 0) = true := by
      have := h 0 h0
      unfold tI at this
      rw [ce] at this
      exact this.elim id fun h => absurd rfl h.1
    have h2 : bu bn (aa s) = s.size := lq _ _ _ (by omega) (fun i hi => by
      have := h i hi
      unfold tI at this
      rw [ce] at this
      unfold bn
      rw [Bool.or_eq_true]
      exact this.imp id (·.2)) (fun hx => by omega)
    rw [h1, h2]; simp
  · rw [decide_eq_false h0]; simp
set_option maxHeartbeats 1000000 in
theorem Lz (s : ByteArray) (hs : s.size ≤ maxLen) : SW Tryz.prog ⟨none, 0⟩ Tryz.f103.ntmps (Tryz.f103.body.getD .skip) ⟨0, aw 0 [bh.enc s], []⟩ (eK Tryz.prog Tryz.f103.results.toList (.ret (bv (iN (aa s))))) := by
  refine ab (ctx := [⟨_, pR⟩, ⟨_, yE⟩]) 4000 ?_
  rw [Tryz.ntmps103, Tryz.results103]
  simp only [Tryz.f103, Option.getD_some, aw]
  simp only [go_sem]
  refine dG (ι := Nat) (fun i => i ≤ s.size ∧ ∀ j, j < i → tI s j) (fun i => ⟨0, [(0, sv s), (3, iv i)], []⟩) (fun i => s.size - i) 0 ⟨Nat.zero_le _, fun j hj => absurd hj (Nat.not_lt_zero _)⟩ (Wk.renL [] (by simp) (by simp) (by simp) rfl rfl) ?_
  rintro i ⟨hi, hg⟩
  refine ab (ctx := [⟨_, pR⟩, ⟨_, yE⟩]) 4000 ?_
  have hmx : maxLen = 9223372036854775807 := rfl
  by_cases hlt : i < s.size
  · have hltI : (i : Int) < s.size := by omega
    have ei : IntKind.i64.wrap ((i : Int) + 1) = ((i + 1 : Nat) : Int) := by rw [IntKind.wrap_i64]; omega
    have next : tI s i → (i + 1 ≤ s.size ∧ ∀ j, j < i + 1 → tI s j) := fun h => ⟨hlt, fun j hj => by
      rcases Nat.lt_or_ge j i with h1 | h1
      · exact hg j h1
      · obtain rfl : j = i := by omega
        exact h⟩
    cases h1 : bG (ac s i) with
    | true =>
      simp only [go_sem, hltI, bT, bS, h1, ei]
      exact ⟨i + 1, next (.inl h1), by omega, Wk.renL [] (by simp) (by simp) (by simp) rfl rfl⟩
    | false =>
      by_cases h0 : i = 0
      · subst h0
        have e := vY hlt (fun h => h.elim (fun h => by rw [h1] at h; cases h) fun h => h.1 rfl)
        have h1' : bG (ac s 0) = false := h1
        have h0I : (0 : Int) < s.size := by omega
        simp only [go_sem, h0I, bT, bS, cD, cC, h1', e]
      · have h0I : ¬ (i : Int) = 0 := by omega
        cases h2 : cy (ac s i) with
        | true =>
          simp only [go_sem, hltI, bT, bS, cD, cC, h1, h2, h0I, ei]
          exact ⟨i + 1, next (.inr ⟨h0, h2⟩), by omega, Wk.renL [] (by simp) (by simp) (by simp) rfl rfl⟩
        | false =>
          have e := vY hlt (fun h => h.elim (fun h => by rw [h1] at h; cases h) fun h => by rw [h2] at h; cases h.2)
          simp only [go_sem, hltI, bT, bS, cD, cC, h1, h2, h0I, e]
  · have hltI : ¬ (i : Int) < s.size := by omega
    obtain rfl : i = s.size := by omega
    have e := H9 hg
    have hz : decide (0 < s.size) = decide ((0 : Int) < s.size) := by rw [decide_eq_decide]; omega
    rw [hz] at e
    simp only [go_sem, hltI, e]
theorem Kb (args : Array Value) (w : World) : (callFunc 103 args).run Tryz.prog w = .ok (.enter 103 args) w := by go_simp
def Ac : bq Tryz.prog 103 :=
  mk1 _ _ _ Tryz.func103 rfl Kb (bh) ((fun s => s.size ≤ maxLen)) ((fun s => .ret (bv (iN (aa s))))) (by rw [Tryz.ntmps103]; decide) (fun s hs => Lz s hs)
theorem yJ {id : Nat} {h : ag} {args : List AV} : (Ac).run id h args = bV (aI (bh) ((fun s => s.size ≤ maxLen))) ((fun s => .ret (bv (iN (aa s))))) h args := rfl
theorem yI {id : Nat} {h : ag} {args : List AV} : (Ac).pan id h args = ca (aI (bh) ((fun s => s.size ≤ maxLen))) ((fun s => .ret (bv (iN (aa s))))) h args := rfl

/-! ### Signs -/
theorem On : ∀ i : Nat, i < 18 → ac Ag (i : Int) ∈ oY := by decide +kernel
theorem sign_all : ∀ c ∈ oY, ∃ i : Nat, i < 18 ∧ ac Ag (i : Int) = c := by decide +kernel
theorem Ns {s : ByteArray} {c d : Int} (hc : 0 ≤ c ∧ c ≤ 255) (hd : 0 ≤ d ∧ d ≤ 255) (h : 1 < s.size) : s.extract 0 2 = aQ [c, d] ↔ bAt (aa s) 0 = c ∧ bAt (aa s) 1 = d := by
  have hb : aa (aQ [c, d]) = [c, d] := dh (by intro z hz; simp at hz; omega)
  have h1 : aa (s.extract 0 2) = (aa s).take 2 := lr s 2
  rw [← ar] at h
  constructor
  · intro e
    rw [e, hb] at h1
    cases hs : aa s with
    | nil => rw [hs] at h; simp at h
    | cons x t =>
      cases t with
      | nil => rw [hs] at h; simp at h
      | cons y t => rw [hs] at h1; injection h1 with h1 h2; injection h2 with h2 h3; exact ⟨h1.symm, h2.symm⟩
  · rintro ⟨e1, e2⟩
    refine gv ?_
    rw [h1, hb]
    cases hs : aa s with
    | nil => rw [hs] at h; simp at h
    | cons x t =>
      cases t with
      | nil => rw [hs] at h; simp at h
      | cons y t => rw [hs] at e1 e2; rw [← e1, ← e2]; rfl
set_option maxHeartbeats 1000000 in
theorem LP (s : ByteArray) : SW Tryz.prog ⟨none, 0⟩ Tryz.f107.ntmps (Tryz.f107.body.getD .skip) ⟨0, aw 0 [bh.enc s], []⟩ (eK Tryz.prog Tryz.f107.results.toList (.ret (iv (cg (aa s))))) := by
  refine ab (ctx := []) 4000 ?_
  rw [Tryz.ntmps107, Tryz.results107]
  simp only [Tryz.f107, Option.getD_some, aw]
  have hl : (aa s).length = s.size := ar s
  have hb0 := jr s
  by_cases hX : 1 < s.size ∧ (bAt (aa s) 0 = 60 ∧ bAt (aa s) 1 = 60 ∨ bAt (aa s) 0 = 62 ∧ bAt (aa s) 1 = 62)
  · have e : cg (aa s) = 2 := by unfold cg; rw [if_pos (by rw [hl]; exact hX)]
    obtain ⟨p1, hX⟩ := hX
    have p1I : (1 : Int) < s.size := by omega
    have p2I : (2 : Int) ≤ s.size := by omega
    by_cases c1 : s.extract 0 2 = ⟨#[60, 60]⟩
    · simp only [go_sem, p1I, p2I, Int.toNat_zero, eq_true c1, e]
    · have c2 : s.extract 0 2 = ⟨#[62, 62]⟩ := (Ns (c := 62) (d := 62) (by omega) (by omega) p1).2 (hX.resolve_left fun h => c1 ((Ns (c := 60) (d := 60) (by omega) (by omega) p1).2 h))
      have c3 : ((⟨#[62, 62]⟩ : ByteArray) = ⟨#[60, 60]⟩) = False := eq_false (by rw [← c2]; exact c1)
      simp only [go_sem, p1I, p2I, Int.toNat_zero, c2, c3, e]
  have hF : cg (aa s) = if 0 < s.size ∧ ac s 0 ∈ oY then 1 else 0 := by unfold cg; rw [if_neg (by rw [hl]; exact hX), hl, hb0]
  by_cases p1 : 1 < s.size
  case' pos =>
    have p1I : (1 : Int) < s.size := by omega
    have p2I : (2 : Int) ≤ s.size := by omega
    have c1 : ¬ s.extract 0 2 = ⟨#[60, 60]⟩ := fun h => hX ⟨p1, .inl ((Ns (c := 60) (d := 60) (by omega) (by omega) p1).1 h)⟩
    have c2 : ¬ s.extract 0 2 = ⟨#[62, 62]⟩ := fun h => hX ⟨p1, .inr ((Ns (c := 62) (d := 62) (by omega) (by omega) p1).1 h)⟩
    simp only [go_sem, p1I, p2I, Int.toNat_zero, c1, c2]
  case' neg =>
    have p1I : ¬ (1 : Int) < s.size := by omega
    simp only [go_sem, p1I]
  all_goals
    refine dG (ι := Nat) (fun i => i ≤ 18 ∧ ∀ j : Nat, j < i → 0 < s.size → ¬ ac Ag (j : Int) = ac s 0) (fun i => ⟨0, [(0, sv s), (3, iv i)], []⟩) (fun i => 18 - i) 0 ⟨Nat.zero_le _, fun j hj => absurd hj (Nat.not_lt_zero _)⟩ (Wk.renL [] (by simp) (by simp) (by simp) rfl rfl) ?_
    rintro i ⟨hi, hg⟩
    refine ab (ctx := []) 4000 ?_
    have ei : IntKind.i64.wrap ((i : Int) + 1) = ((i + 1 : Nat) : Int) := by rw [IntKind.wrap_i64]; omega
    by_cases hlt : i < 18
    · have hltI : (i : Int) < 18 := by omega
      by_cases h0 : 0 < s.size
      · have h0I : (0 : Int) < s.size := by omega
        by_cases hb : ac Ag (i : Int) = ac s 0
        · have e : cg (aa s) = 1 := by rw [hF, if_pos ⟨h0, by rw [← hb]; exact On i hlt⟩]
          have hsz : (i : Int) < ((⟨#[44, 91, 93, 33, 35, 58, 43, 45, 42, 47, 37, 38, 124, 94, 126, 40, 41, 61]⟩ : ByteArray).size : Int) := hltI
          have hb' : ac ⟨#[44, 91, 93, 33, 35, 58, 43, 45, 42, 47, 37, 38, 124, 94, 126, 40, 41, 61]⟩ (i : Int) = ac s 0 := hb
          simp only [go_sem, hltI]
          refine cr (ctx := []) mixed [] (by kernel_rfl) ?_
          simp only [go_sem, hltI, h0I, hsz, hb', e]
        · have hsz : (i : Int) < ((⟨#[44, 91, 93, 33, 35, 58, 43, 45, 42, 47, 37, 38, 124, 94, 126, 40, 41, 61]⟩ : ByteArray).size : Int) := hltI
          have hb' : ¬ ac ⟨#[44, 91, 93, 33, 35, 58, 43, 45, 42, 47, 37, 38, 124, 94, 126, 40, 41, 61]⟩ (i : Int) = ac s 0 := hb
          simp only [go_sem, hltI]
          refine cr (ctx := []) mixed [] (by kernel_rfl) ?_
          simp only [go_sem, hltI, h0I, hsz, hb', ei]
          exact ⟨i + 1, ⟨hlt, fun j hj => by
            rcases Nat.lt_or_ge j i with h1 | h1
            · exact hg j h1
            · obtain rfl : j = i := by omega
              exact fun _ => hb⟩, by omega, Wk.renL [] (by simp) (by simp) (by simp) rfl rfl⟩
      · have h0I : ¬ (0 : Int) < s.size := by omega
        simp only [go_sem, hltI]
        refine cr (ctx := []) mixed [] (by kernel_rfl) ?_
        simp only [go_sem, hltI, h0I, ei]
        exact ⟨i + 1, ⟨hlt, fun j hj => by
          rcases Nat.lt_or_ge j i with h1 | h1
          · exact hg j h1
          · obtain rfl : j = i := by omega
            exact fun h => absurd h h0⟩, by omega, Wk.renL [] (by simp) (by simp) (by simp) rfl rfl⟩
    · have hltI : ¬ (i : Int) < 18 := by omega
      obtain rfl : i = 18 := by omega
      have e : cg (aa s) = 0 := by
        rw [hF, if_neg]
        rintro ⟨h0, h⟩
        obtain ⟨j, hj, e⟩ := sign_all _ h
        exact hg j hj h0 e
      simp only [go_sem, hltI, e]
theorem Nr (args : Array Value) (w : World) : (callFunc 107 args).run Tryz.prog w = .ok (.enter 107 args) w := by go_simp
def Ga : bq Tryz.prog 107 :=
  mk1 _ _ _ Tryz.func107 rfl Nr (bh) ((fun _ => True)) ((fun s => .ret (iv (cg (aa s))))) (by rw [Tryz.ntmps107]; decide) (fun s _ => LP s)
theorem wE {id : Nat} {h : ag} {args : List AV} : (Ga).run id h args = bV (aI (bh) ((fun _ => True))) ((fun s => .ret (iv (cg (aa s))))) h args := rfl
theorem wD {id : Nat} {h : ag} {args : List AV} : (Ga).pan id h args = ca (aI (bh) ((fun _ => True))) ((fun s => .ret (iv (cg (aa s))))) h args := rfl

end Go.Proofs.YthcoegkfpinlfaaGreatDoor.Lx

/-! ## LF -/
namespace Go.Proofs.YthcoegkfpinlfaaGreatDoor.Lx
open Go.RowKit
set_option maxRecDepth 100000

def lc (c : Int) : Int := match longL c with | some x => x | none => -1
theorem Ka (args : Array Value) (w : World) : (callFunc 141 args).run Tryz.prog w = .ok (.enter 141 args) w := by go_simp
def Ab : bq Tryz.prog 141 :=
  mk1 _ _ _ Tryz.func141 rfl Ka (bA .u8) ((fun c => 0 ≤ c ∧ c ≤ 255)) ((fun c => .ret (iv (lc c)))) (by rw [Tryz.ntmps141]; decide) (fun c hc => by
  refine ab (ctx := []) 4000 ?_
  rw [Tryz.ntmps141, Tryz.results141]
  simp only [Tryz.f141, Option.getD_some, aw]
  have ew : IntKind.i64.wrap c = c := by rw [IntKind.wrap_i64]; omega
  by_cases h1 : c = 48
  · subst h1; simp only [go_sem]; rfl
  by_cases h2 : c = 116
  · subst h2; simp only [go_sem]; rfl
  by_cases h3 : c = 110
  · subst h3; simp only [go_sem]; rfl
  by_cases h4 : c = 114
  · subst h4; simp only [go_sem]; rfl
  by_cases h5 : c = 34
  · have e : lc c = c := by unfold lc longL; rw [if_neg h1, if_neg h2, if_neg h3, if_neg h4, if_pos (.inl h5)]
    simp only [go_sem, h1, h2, h3, h4, e, ew, eq_true h5]
  by_cases h6 : c = 92
  · have e : lc c = c := by unfold lc longL; rw [if_neg h1, if_neg h2, if_neg h3, if_neg h4, if_pos (.inr h6)]
    simp only [go_sem, h1, h2, h3, h4, h5, e, ew, eq_true h6]
  have e : lc c = -1 := by unfold lc longL; rw [if_neg h1, if_neg h2, if_neg h3, if_neg h4, if_neg (by omega)]
  simp only [go_sem, h1, h2, h3, h4, h5, h6, e])
theorem lD {id : Nat} {h : ag} {args : List AV} : (Ab).run id h args = bV (aI (bA .u8) ((fun c => 0 ≤ c ∧ c ≤ 255))) ((fun c => .ret (iv (lc c)))) h args := rfl
theorem lC {id : Nat} {h : ag} {args : List AV} : (Ab).pan id h args = ca (aI (bA .u8) ((fun c => 0 ≤ c ∧ c ≤ 255))) ((fun c => .ret (iv (lc c)))) h args := rfl

theorem By {c x : Int} (hc : 0 ≤ c ∧ c ≤ 255) (h : longL c = some x) : 0 ≤ x ∧ x ≤ 255 := by
  unfold longL at h
  split at h
  · injection h; omega
  split at h
  · injection h; omega
  split at h
  · injection h; omega
  split at h
  · injection h; omega
  split at h
  · injection h; omega
  · cases h
theorem QI {s : ByteArray} {i : Nat} (h : i + 1 < s.size) : escL ((aa s).drop (i + 1)) = match longL (ac s ((i + 1 : Nat) : Int)) with
    | some x => some (x, 1)
    | none => if i + 3 < s.size ∧ ac s ((i + 1 : Nat) : Int) = 120 ∧ de (ac s ((i + 2 : Nat) : Int)) < 16 ∧ de (ac s ((i + 3 : Nat) : Int)) < 16 then some (16 * de (ac s ((i + 2 : Nat) : Int)) + de (ac s ((i + 3 : Nat) : Int)), 3) else none := by
  have hl : ((aa s).drop (i + 1)).length = s.size - (i + 1) := by rw [List.length_drop, ar]
  unfold escL
  rw [if_neg (by omega), dZ, dZ, dZ, ce, ce, ce, hl]
  simp only [show 2 < s.size - (i + 1) ↔ i + 3 < s.size by omega, Nat.add_zero, show i + 1 + 1 = i + 2 from rfl, show i + 1 + 2 = i + 3 from rfl]
  cases longL (bAt (aa s) (i + 1)) <;> rfl

set_option maxHeartbeats 4000000 in
theorem ER (s : ByteArray) (hs : s.size ≤ 1099511627776) : SW Tryz.prog ⟨none, 0⟩ Tryz.f106.ntmps (Tryz.f106.body.getD .skip) ⟨0, aw 0 [bh.enc s], []⟩ (eK Tryz.prog Tryz.f106.results.toList (.ret (mB (aa s)))) := by
  refine ab (ctx := [⟨_, Ab⟩, ⟨_, wB⟩]) 4000 ?_
  rw [Tryz.ntmps106, Tryz.results106]
  simp only [Tryz.f106, Option.getD_some, aw]
  simp only [go_sem]
  refine dG (ι := Nat × List Int) (fun p => Cl s p.1 p.2 ∧ p.1 ≤ 1099511627777) (fun p => ⟨1, [(0, sv s), (4, .s (.l (.sl 0 0 p.2.length))), (5, iv p.1)], [(0, some (jE p.2))]⟩) (fun p => s.size + 1 - p.1) (1, []) ⟨⟨by omega, by omega, by simp, by cases quotesL ((aa s).drop 1) <;> simp⟩, by omega⟩ ?_ ?_
  · exact (Wk.nil 4 5 1 rfl).trans (Wk.renL [64] (by simp) (by simp) (by simp) rfl rfl)
  rintro ⟨i, l⟩ ⟨hq, hi⟩
  simp only at hq hi
  refine ab (ctx := [⟨_, Ab⟩, ⟨_, wB⟩]) 4000 ?_
  have h1 := hq.1
  have h2 := hq.2.1
  have h3 := hq.2.2.1
  have hl : (aa s).length = s.size := ar s
  have ei : IntKind.i64.wrap ((i : Int) + 1) = ((i + 1 : Nat) : Int) := by rw [IntKind.wrap_i64]; omega
  have ei2 : IntKind.i64.wrap ((i : Int) + 2) = ((i + 2 : Nat) : Int) := by rw [IntKind.wrap_i64]; omega
  have ei3 : IntKind.i64.wrap ((i : Int) + 3) = ((i + 3 : Nat) : Int) := by rw [IntKind.wrap_i64]; omega
  have ej1 : IntKind.i64.wrap (((i + 1 : Nat) : Int) + 1) = ((i + 2 : Nat) : Int) := by rw [IntKind.wrap_i64]; omega
  have ej3 : IntKind.i64.wrap (((i + 3 : Nat) : Int) + 1) = ((i + 4 : Nat) : Int) := by rw [IntKind.wrap_i64]; omega
  have hmx : maxLen = 9223372036854775807 := rfl
  by_cases hlt : i < s.size
  · have hltI : (i : Int) < s.size := by omega
    have hr := fG s i
    have hm1 : l.length + 1 ≤ maxLen := by omega
    have hb1 : (l.length + 1) * 1 ≤ 140737488355328 := by omega
    have hdl : ((aa s).drop i).length = s.size - i := by rw [List.length_drop, hl]
    have hd0 : bAt ((aa s).drop i) 0 = ac s i := by rw [dZ, Nat.add_zero, ce]
    by_cases c1 : ac s i = 34
    · have hst : fe ((aa s).drop i) = .stop := by unfold fe; rw [if_neg (by omega), if_pos (by rw [hd0]; exact c1)]
      have hF := EC hq hst
      have e : mB (aa s) = .tup [.l (.v (.string (aQ l))), .l (.v (.int .i64 ((i + 1 : Nat) : Int)))] := by unfold mB; rw [hF]
      simp only [go_sem, jE, hltI, c1, ei, JT, e]
    by_cases c2 : ac s i = 92
    · have hQ : fe ((aa s).drop i) = match escL ((aa s).drop (i + 1)) with | some (x, n) => .put x (n + 1) | none => .bad := by unfold fe; rw [if_neg (by omega), if_neg (by rw [hd0]; exact c1), if_pos (by rw [hd0]; exact c2), List.drop_drop]; cases escL ((aa s).drop (i + 1)) <;> rfl
      have hbad : escL ((aa s).drop (i + 1)) = none → mB (aa s) = .tup [.l (.v (.string emp)), .l (.v (.int .i64 0))] := fun he => by
        rw [he] at hQ
        have hF := sZ hq hQ
        unfold mB; rw [hF]; rfl
      by_cases k1 : i + 1 < s.size
      · have k1I : ((i + 1 : Nat) : Int) < s.size := by omega
        have hE := QI k1
        have hr1 := fG s ((i + 1 : Nat) : Int)
        rcases hL : longL (ac s ((i + 1 : Nat) : Int)) with _ | x
        · rw [hL] at hE
          have e1 : lc (ac s ((i + 1 : Nat) : Int)) = -1 := by unfold lc; rw [hL]
          by_cases k3 : i + 3 < s.size
          · have k3I : ¬ (s.size : Int) ≤ ((i + 3 : Nat) : Int) := by omega
            have k3J : ((i + 3 : Nat) : Int) < s.size := by omega
            have k2J : ((i + 2 : Nat) : Int) < s.size := by omega
            have hr2 := fG s ((i + 2 : Nat) : Int)
            have hr3 := fG s ((i + 3 : Nat) : Int)
            have hx2 := lO (ac s ((i + 2 : Nat) : Int))
            have hx3 := lO (ac s ((i + 3 : Nat) : Int))
            by_cases g1 : ac s ((i + 1 : Nat) : Int) = 120
            case neg =>
              have e := hbad (by rw [hE]; exact if_neg fun h => g1 h.2.1)
              simp only [go_sem, jE, hltI, c1, c2, ei, ei2, ei3, k1I, k2J, k3I, k3J, lD, lC, jX, jW, hr1, hr2, hr3, e1, g1, e, ax]
            by_cases g2 : de (ac s ((i + 2 : Nat) : Int)) < 16
            case neg =>
              have e := hbad (by rw [hE]; exact if_neg fun h => g2 h.2.2.1)
              have g2' : jJ (ac s ((i + 2 : Nat) : Int)) = -1 := by unfold jJ; rw [if_pos (by omega)]
              simp only [go_sem, jE, hltI, c1, c2, ei, ei2, ei3, k1I, k2J, k3I, k3J, lD, lC, jX, jW, hr1, hr2, hr3, e1, g1, g2', show lc 120 = -1 from rfl, e, ax]
            have g2' : jJ (ac s ((i + 2 : Nat) : Int)) = de (ac s ((i + 2 : Nat) : Int)) := by unfold jJ; rw [if_neg (by omega)]
            have g2I : ¬ de (ac s ((i + 2 : Nat) : Int)) < 0 := by omega
            by_cases g3 : de (ac s ((i + 3 : Nat) : Int)) < 16
            case neg =>
              have e := hbad (by rw [hE]; exact if_neg fun h => g3 h.2.2.2)
              have g3' : jJ (ac s ((i + 3 : Nat) : Int)) = -1 := by unfold jJ; rw [if_pos (by omega)]
              simp only [go_sem, jE, hltI, c1, c2, ei, ei2, ei3, k1I, k2J, k3I, k3J, lD, lC, jX, jW, hr1, hr2, hr3, e1, g1, g2', g2I, g3', show lc 120 = -1 from rfl, e, ax]
            have g3' : jJ (ac s ((i + 3 : Nat) : Int)) = de (ac s ((i + 3 : Nat) : Int)) := by unfold jJ; rw [if_neg (by omega)]
            have g3I : ¬ de (ac s ((i + 3 : Nat) : Int)) < 0 := by omega
            rw [hE, if_pos ⟨k3, g1, g2, g3⟩] at hQ
            have hF := s9 hq hQ
            generalize de (ac s ((i + 2 : Nat) : Int)) = a at *
            generalize de (ac s ((i + 3 : Nat) : Int)) = b at *
            have w1 : IntKind.i64.wrap (16 * a) = 16 * a := by rw [IntKind.wrap_i64]; omega
            have w2 : IntKind.i64.wrap (16 * a + b) = 16 * a + b := by rw [IntKind.wrap_i64]; omega
            have w3 : IntKind.u8.wrap (16 * a + b) = 16 * a + b := by rw [IntKind.wrap_u8]; omega
            simp only [go_sem, jE, hltI, c1, c2, ei, ei2, ei3, k1I, k2J, k3I, k3J, lD, lC, jX, jW, hr1, hr2, hr3, e1, g1, g2', g2I, g3', g3I, show lc 120 = -1 from rfl]
            refine cr (ctx := [⟨_, wB⟩]) mixed [15] (by kernel_rfl) ?_
            simp only [go_sem, jE, hltI, c1, c2, ei, ei2, ei3, ej3, k1I, k2J, k3I, k3J, jX, jW, hr1, hr2, hr3, e1, g1, g2', g2I, g3', g3I, w1, w2, w3, hm1, hb1]
            exact ⟨(i + 4, l ++ [16 * a + b]), ⟨hF, by simp only; omega⟩, by simp only; omega, Wk.renL [1089] (by simp) (by simp) (by simp) (by simp [cE, AV.ren, SV.ren, LV.ren]) (by simp [aq, Blk.ren, fJ, LV.ren, Function.comp_def])⟩
          · have k3I : (s.size : Int) ≤ ((i + 3 : Nat) : Int) := by omega
            have e := hbad (by rw [hE]; exact if_neg fun h => k3 h.1)
            simp only [go_sem, jE, hltI, c1, c2, ei, ei2, ei3, k1I, k3I, lD, lC, hr1, e1, e, ax]
        · rw [hL] at hE
          have hx := By hr1 hL
          have e1 : lc (ac s ((i + 1 : Nat) : Int)) = x := by unfold lc; rw [hL]
          have hx0 : (0 : Int) ≤ x := hx.1
          have w1 : IntKind.u8.wrap x = x := by rw [IntKind.wrap_u8]; omega
          rw [hE] at hQ
          have hF := s9 hq hQ
          simp only [go_sem, jE, hltI, c1, c2, ei, ej1, k1I, lD, lC, hr1, e1, hx0, w1, hm1, hb1]
          exact ⟨(i + 2, l ++ [x]), ⟨hF, by simp only; omega⟩, by simp only; omega, Wk.renL [529] (by simp) (by simp) (by simp) (by simp [cE, AV.ren, SV.ren, LV.ren]) (by simp [aq, Blk.ren, fJ, LV.ren, Function.comp_def])⟩
      · have k1I : ¬ ((i + 1 : Nat) : Int) < s.size := by omega
        have k3I : (s.size : Int) ≤ ((i + 3 : Nat) : Int) := by omega
        have e := hbad (by unfold escL; rw [if_pos (by rw [List.length_drop]; omega)])
        simp only [go_sem, jE, hltI, c1, c2, ei, ei2, ei3, k1I, k3I, e, ax]
    by_cases c3 : kr (ac s i) = true
    · have hst : fe ((aa s).drop i) = .put (ac s i) 1 := by unfold fe; rw [if_neg (by omega), if_neg (by rw [hd0]; exact c1), if_neg (by rw [hd0]; exact c2), if_pos (by rw [hd0]; exact c3), hd0]
      have hF := s9 hq hst
      have c4 : 32 ≤ ac s i ∧ ac s i ≤ 126 := of_decide_eq_true c3
      have c5 : ¬ ac s i < 32 := by omega
      have c6 : ¬ 126 < ac s i := by omega
      simp only [go_sem, jE, hltI, c1, c2, c5, c6, ei, hm1, hb1]
      exact ⟨(i + 1, l ++ [ac s i]), ⟨hF, by simp only; omega⟩, by simp only; omega, Wk.renL [337] (by simp) (by simp) (by simp) (by simp [cE, AV.ren, SV.ren, LV.ren]) (by simp [aq, Blk.ren, fJ, LV.ren, Function.comp_def])⟩
    · have c3' : kr (ac s i) = false := by simpa using c3
      have hst : fe ((aa s).drop i) = .bad := by unfold fe; rw [if_neg (by omega), if_neg (by rw [hd0]; exact c1), if_neg (by rw [hd0]; exact c2), if_neg (by rw [hd0]; exact c3)]
      have hF := sZ hq hst
      have e : mB (aa s) = .tup [.l (.v (.string emp)), .l (.v (.int .i64 0))] := by unfold mB; rw [hF]; rfl
      have c4 : ¬ (32 ≤ ac s i ∧ ac s i ≤ 126) := of_decide_eq_false c3'
      by_cases c5 : ac s i < 32
      · simp only [go_sem, jE, hltI, c1, c2, c5, ei, e, ax]
      · have c6 : 126 < ac s i := by omega
        simp only [go_sem, jE, hltI, c1, c2, c5, c6, ei, e, ax]
  · have hltI : ¬ (i : Int) < s.size := by omega
    have hst : fe ((aa s).drop i) = .bad := by unfold fe; rw [if_pos (by rw [List.length_drop]; omega)]
    have hF := sZ hq hst
    have e : mB (aa s) = .tup [.l (.v (.string emp)), .l (.v (.int .i64 0))] := by unfold mB; rw [hF]; rfl
    simp only [go_sem, jE, hltI, e, ax]
theorem DH (args : Array Value) (w : World) : (callFunc 106 args).run Tryz.prog w = .ok (.enter 106 args) w := by go_simp
def wC : bq Tryz.prog 106 :=
  mk1 _ _ _ Tryz.func106 rfl DH (bh) ((fun s => s.size ≤ 1099511627776)) ((fun s => .ret (mB (aa s)))) (by rw [Tryz.ntmps106]; decide) (fun s hs => ER s hs)
theorem tY {id : Nat} {h : ag} {args : List AV} : (wC).run id h args = bV (aI (bh) ((fun s => s.size ≤ 1099511627776))) ((fun s => .ret (mB (aa s)))) h args := rfl
theorem tX {id : Nat} {h : ag} {args : List AV} : (wC).pan id h args = ca (aI (bh) ((fun s => s.size ≤ 1099511627776))) ((fun s => .ret (mB (aa s)))) h args := rfl

end Go.Proofs.YthcoegkfpinlfaaGreatDoor.Lx

/-! ## LG -/
namespace Go.Proofs.YthcoegkfpinlfaaGreatDoor.Lx
open Go.RowKit
set_option maxRecDepth 100000

/-! ### Plain -/
theorem tP {base : Int} (hb : 0 ≤ base) (l : List Int) : 0 ≤ kN base l := by
  suffices ∀ (l : List Int) (n : Int), 0 ≤ n → 0 ≤ l.foldl (fun n c => n * base + de c) n from this l 0 (Int.le_refl _)
  intro l
  induction l with
  | nil => exact fun n h => h
  | cons c l ih => exact fun n h => ih _ (by have := lO c; have := Int.mul_nonneg h hb; show 0 ≤ n * base + de c; omega)
theorem tq {l : List Int} {k : Nat} (h : k < l.length) : l.take (k + 1) = l.take k ++ [bAt l k] := by
  rw [List.take_add_one, rB h]; rfl
theorem yj {base : Int} (hb : 1 ≤ base) (l : List Int) : ∀ (j k : Nat), k ≤ k + j → kN base (l.take k) ≤ kN base (l.take (k + j))
  | 0, k, _ => Int.le_refl _
  | j + 1, k, _ => by
    have ih := yj hb l j k (Nat.le_add_right _ _)
    rcases Nat.lt_or_ge (k + j) l.length with h | h
    · rw [← Nat.add_assoc, tq h, sU]
      have h0 := tP (by omega : 0 ≤ base) (l.take (k + j))
      have := lO (bAt l (k + j))
      have : kN base (l.take (k + j)) * 1 ≤ kN base (l.take (k + j)) * base := Int.mul_le_mul_of_nonneg_left hb h0
      omega
    · rw [List.take_of_length_le (show l.length ≤ k + (j + 1) by omega)]; rw [List.take_of_length_le h] at ih; exact ih

/-- the number of the digits with which a text begins, how many there are; -1: too great -/
def iP (base : Int) (l : List Int) : Int × Int := if 18446744073709551616 ≤ kN base (l.take (eZ base l)) then (0, -1) else (kN base (l.take (eZ base l)), eZ base l)
def gc (base : Int) (l : List Int) : AV := .tup [.l (.v (.int .u64 (iP base l).1)), .l (.v (.int .i64 (iP base l).2))]
def Nd (base : Int) (s : ByteArray) (k : Nat) : Prop := k ≤ s.size ∧ (∀ j, j < k → de (ac s j) < base) ∧ kN base ((aa s).take k) < 18446744073709551616
theorem Dq {base : Int} {s : ByteArray} {k : Nat} (hb : 1 ≤ base) (h : Nd base s k) (hk : k < s.size) (hg : de (ac s k) < base) (ho : 18446744073709551616 ≤ kN base ((aa s).take k) * base + de (ac s k)) : iP base (aa s) = (0, -1) := by
  have hl := ar s
  have hrun : k + 1 ≤ eZ base (aa s) := by
    rcases Nat.lt_or_ge k (eZ base (aa s)) with h1 | h1
    · exact h1
    · exfalso
      have h2 := qk (fun c => decide (de c < base)) (aa s) (by unfold eZ at h1; omega)
      have h3 := decide_eq_false_iff_not.1 h2
      rcases Nat.lt_or_ge (bu (fun c => decide (de c < base)) (aa s)) k with h4 | h4
      · exact h3 (by rw [← ce]; exact h.2.1 _ h4)
      · have h5 : bu (fun c => decide (de c < base)) (aa s) = k := Nat.le_antisymm h1 h4
        rw [h5] at h3
        exact h3 (by rw [← ce]; exact hg)
  obtain ⟨j, hj⟩ : ∃ j, eZ base (aa s) = k + 1 + j := ⟨eZ base (aa s) - (k + 1), by omega⟩
  have hm := yj hb (aa s) j (k + 1) (Nat.le_add_right _ _)
  rw [tq (by omega), sU, ← ce, ← hj] at hm
  unfold iP
  rw [if_pos (by omega)]
theorem xH {base : Int} {s : ByteArray} {k : Nat} (h : Nd base s k) (hx : k < s.size → ¬ de (ac s k) < base) : iP base (aa s) = (kN base ((aa s).take k), (k : Int)) := by
  have hl := ar s
  have e : eZ base (aa s) = k := lq _ _ _ (by have := h.1; omega) (fun i hi => by rw [← ce]; exact decide_eq_true (h.2.1 i hi)) (fun hk => by rw [← ce]; exact decide_eq_false (hx (by omega)))
  unfold iP
  rw [e, if_neg (by have := h.2.2; omega)]

set_option maxHeartbeats 2000000 in
theorem JA (s : ByteArray) (base : Int) (hs : s.size ≤ 1099511627776) (hb : base = 2 ∨ base = 10 ∨ base = 16) : SW Tryz.prog ⟨none, 0⟩ Tryz.f140.ntmps (Tryz.f140.body.getD .skip) ⟨0, aw 0 [bh.enc s, (bA .i64).enc base], []⟩ (eK Tryz.prog Tryz.f140.results.toList (.ret (gc base (aa s)))) := by
  refine ab (ctx := [⟨_, wB⟩]) 4000 ?_
  rw [Tryz.ntmps140, Tryz.results140]
  simp only [Tryz.f140, Option.getD_some, aw]
  have hl : (aa s).length = s.size := ar s
  simp only [go_sem]
  refine dG (ι := Nat) (Nd base s) (fun k => ⟨0, [(0, sv s), (1, iv base), (6, .s (.l (.v (.int .u64 (kN base ((aa s).take k)))))), (7, iv k)], []⟩) (fun k => s.size - k) 0 ⟨Nat.zero_le _, fun j hj => absurd hj (Nat.not_lt_zero _), by rw [List.take_zero]; show (0 : Int) < 18446744073709551616; decide⟩ (Wk.renL [] (by simp) (by simp) (by simp) rfl rfl) ?_
  intro k hd
  have hks := hd.1
  have hlt64 := hd.2.2
  have hn0 := tP (show 0 ≤ base by omega) ((aa s).take k)
  refine ab (ctx := [⟨_, wB⟩]) 4000 ?_
  by_cases hlt : k < s.size
  · have hltI : (k : Int) < s.size := by omega
    have hr := fG s k
    have hh := lO (ac s k)
    by_cases hg : de (ac s k) < base
    · have e1 : jJ (ac s k) = de (ac s k) := by unfold jJ; rw [if_neg (by omega)]
      have hsn : kN base ((aa s).take (k + 1)) = kN base ((aa s).take k) * base + de (ac s k) := by rw [tq (by omega), sU, ce]
      have over := Dq (by omega) hd hlt hg
      have next : kN base ((aa s).take k) * base + de (ac s k) < 18446744073709551616 → Nd base s (k + 1) := fun h => ⟨hlt, fun j hj => by
        rcases Nat.lt_or_ge j k with h1 | h1
        · exact hd.2.1 j h1
        · obtain rfl : j = k := by omega
          exact hg, by rw [hsn]; exact h⟩
      generalize kN base ((aa s).take k) = n at *
      generalize de (ac s k) = d at *
      have hd0 : (0 : Int) ≤ d := hh.1
      have ek : IntKind.i64.wrap ((k : Int) + 1) = ((k + 1 : Nat) : Int) := by rw [IntKind.wrap_i64]; omega
      have w1 : IntKind.u64.wrap d = d := by rw [IntKind.wrap_u64]; omega
      have w2 : IntKind.u64.wrap (18446744073709551615 - d) = 18446744073709551615 - d := by rw [IntKind.wrap_u64]; omega
      have w3 : IntKind.u64.wrap base = base := by rw [IntKind.wrap_u64]; omega
      have hb0 : ¬ base = 0 := by omega
      have hq : (18446744073709551615 - d).tdiv base = (18446744073709551615 - d) / base := Int.tdiv_eq_ediv_of_nonneg (by omega)
      have w4 : IntKind.u64.wrap ((18446744073709551615 - d) / base) = (18446744073709551615 - d) / base := by
        rw [IntKind.wrap_u64]
        rcases hb with rfl | rfl | rfl <;> omega
      by_cases ho : (18446744073709551615 - d) / base < n
      · have e := over (by rcases hb with rfl | rfl | rfl <;> omega)
        simp only [go_sem, hltI, jX, jW, hr, e1, hd0, hg, w1, w2, w3, hb0, hq, w4, ho, gc, e]
      · have hn : n * base + d < 18446744073709551616 := by rcases hb with rfl | rfl | rfl <;> omega
        have hnb : 0 ≤ n * base := Int.mul_nonneg hn0 (by omega)
        have w5 : IntKind.u64.wrap (n * base) = n * base := by rw [IntKind.wrap_u64]; omega
        have w6 : IntKind.u64.wrap (n * base + d) = n * base + d := by rw [IntKind.wrap_u64]; omega
        simp only [go_sem, hltI, jX, jW, hr, e1, hd0, hg, w1, w2, w3, hb0, hq, w4, ho, w5, w6, ek]
        exact ⟨k + 1, next hn, by omega, Wk.renL [] (by simp) (by simp) (by simp) (by rw [hsn]; rfl) rfl⟩
    · have e := xH hd (fun _ => hg)
      by_cases h16 : de (ac s k) = 16
      · have e1 : jJ (ac s k) = -1 := by unfold jJ; rw [if_pos h16]
        simp only [go_sem, hltI, jX, jW, hr, e1, gc, e]
      · have e1 : jJ (ac s k) = de (ac s k) := by unfold jJ; rw [if_neg h16]
        have hd0 : (0 : Int) ≤ de (ac s k) := hh.1
        simp only [go_sem, hltI, jX, jW, hr, e1, hd0, hg, gc, e]
  · have hltI : ¬ (k : Int) < s.size := by omega
    have e := xH hd (fun h => absurd h hlt)
    simp only [go_sem, hltI, gc, e]
theorem J8 (args : Array Value) (w : World) : (callFunc 140 args).run Tryz.prog w = .ok (.enter 140 args) w := by go_simp
def Dp : bq Tryz.prog 140 :=
  mk2 _ _ _ Tryz.func140 rfl J8 (bh) (bA .i64) ((fun s base => s.size ≤ 1099511627776 ∧ (base = 2 ∨ base = 10 ∨ base = 16))) ((fun s base => .ret (gc base (aa s)))) (by rw [Tryz.ntmps140]; decide) (fun s base h => JA s base h.1 h.2)
theorem fq {id : Nat} {h : ag} {args : List AV} : (Dp).run id h args = bV (cA (bh) (bA .i64) ((fun s base => s.size ≤ 1099511627776 ∧ (base = 2 ∨ base = 10 ∨ base = 16)))) (fun x => ((fun s base => .ret (gc base (aa s)))) x.1 x.2) h args := rfl
theorem fp {id : Nat} {h : ag} {args : List AV} : (Dp).pan id h args = ca (cA (bh) (bA .i64) ((fun s base => s.size ≤ 1099511627776 ∧ (base = 2 ∨ base = 10 ∨ base = 16)))) (fun x => ((fun s base => .ret (gc base (aa s)))) x.1 x.2) h args := rfl

/-! ### Numbers -/
set_option maxHeartbeats 4000000 in
theorem EN (s : ByteArray) (h0 : 0 < s.size) (hs : s.size ≤ 1099511627776) : SW Tryz.prog ⟨none, 0⟩ Tryz.f105.ntmps (Tryz.f105.body.getD .skip) ⟨0, aw 0 [bh.enc s], []⟩ (eK Tryz.prog Tryz.f105.results.toList (.ret (cB (aa s)))) := by
  refine ab (ctx := [⟨_, Dp⟩]) 4000 ?_
  rw [Tryz.ntmps105, Tryz.results105]
  simp only [Tryz.f105, Option.getD_some, aw]
  have hl : (aa s).length = s.size := ar s
  have hpI : (0 : Int) < s.size := by omega
  have hb0 := jr s
  have hb1 := AO s
  have hb2 := AP s
  have hr := fG s 1
  by_cases hq : ac s 0 = 39
  · have hF : cj (aa s) = if 3 ≤ s.size ∧ ac s 2 = 39 ∧ kr (ac s 1) = true ∧ ac s 1 ≠ 39 ∧ ac s 1 ≠ 92 then (ac s 1, 3) else (0, 0) := by
      unfold cj; rw [if_pos (by rw [← hb0]; exact hq), hl, ← hb1, ← hb2]
    have hsh : kr (ac s 1) = true ↔ ¬ ac s 1 < 32 ∧ ¬ 126 < ac s 1 := by unfold kr; rw [decide_eq_true_eq]; omega
    have hbad : ¬ (3 ≤ s.size ∧ ac s 2 = 39 ∧ kr (ac s 1) = true ∧ ac s 1 ≠ 39 ∧ ac s 1 ≠ 92) → cB (aa s) = .tup [.l (.v (.int .u64 0)), .l (.v (.int .i64 0))] := fun h => by unfold cB; rw [hF, if_neg h]; rfl
    by_cases c1 : s.size < 3
    · have c1I : (s.size : Int) < 3 := by omega
      have e := hbad (by omega)
      simp only [go_sem, hpI, hq, c1I, e]
    have c1I : ¬ (s.size : Int) < 3 := by omega
    have p1 : (1 : Int) < s.size := by omega
    have p2 : (2 : Int) < s.size := by omega
    by_cases c2 : ac s 2 = 39
    case neg =>
      have e := hbad (fun h => c2 h.2.1)
      simp only [go_sem, hpI, hq, c1I, p2, c2, e]
    by_cases c3 : ac s 1 < 32
    · have e := hbad (fun h => (hsh.1 h.2.2.1).1 c3)
      simp only [go_sem, hpI, hq, c1I, p1, p2, c2, c3, e]
    by_cases c3' : 126 < ac s 1
    · have e := hbad (fun h => (hsh.1 h.2.2.1).2 c3')
      simp only [go_sem, hpI, hq, c1I, p1, p2, c2, c3, c3', e]
    by_cases c4 : ac s 1 = 39
    · have e := hbad (fun h => h.2.2.2.1 c4)
      simp only [go_sem, hpI, hq, c1I, p1, p2, c2, c3, c3', c4, e]
    by_cases c5 : ac s 1 = 92
    · have e := hbad (fun h => h.2.2.2.2 c5)
      simp only [go_sem, hpI, hq, c1I, p1, p2, c2, c3, c3', c4, c5, e]
    have e : cB (aa s) = .tup [.l (.v (.int .u64 (ac s 1))), .l (.v (.int .i64 3))] := by unfold cB; rw [hF, if_pos ⟨by omega, c2, hsh.2 ⟨c3, c3'⟩, c4, c5⟩]; rfl
    have ew : IntKind.u64.wrap (ac s 1) = ac s 1 := by rw [IntKind.wrap_u64]; omega
    simp only [go_sem, hpI, hq, c1I, p1, p2, c2, c3, c3', c4, c5, ew, e]
  have hF : ∀ base head, fF (aa s) = base → dx (aa s) = head → cj (aa s) = if (iP base ((aa s).drop head)).2 < 1 ∨ head = 0 ∧ 1 < (iP base ((aa s).drop head)).2 ∧ ac s 0 = 48 then (0, 0)
      else ((iP base ((aa s).drop head)).1, head + (iP base ((aa s).drop head)).2.toNat) := by
    intro base head e1 e2
    unfold cj iP
    rw [if_neg (by rw [← hb0]; exact hq), e1, e2, ← hb0]
    by_cases k1 : 18446744073709551616 ≤ kN base (((aa s).drop head).take (eZ base ((aa s).drop head)))
    · simp only [if_pos k1]
      rw [ite_self]
      exact (if_pos (.inl (by decide))).symm
    · rw [if_neg k1, if_neg k1]
      by_cases k2 : eZ base ((aa s).drop head) = 0 ∨ head = 0 ∧ 1 < eZ base ((aa s).drop head) ∧ ac s 0 = 48
      · rw [if_pos k2, if_pos (by simp only; omega)]
      · rw [if_neg k2, if_neg (by simp only; omega)]; rfl
  have hle : ∀ base head, head ≤ s.size → (iP base ((aa s).drop head)).2 ≤ s.size - head := by
    intro base head hhd
    unfold iP
    have : eZ base ((aa s).drop head) ≤ ((aa s).drop head).length := mC _ _
    rw [List.length_drop, hl] at this
    split
    · simp only; omega
    · simp only; omega
  by_cases k : 1 < s.size ∧ ac s 0 = 48 ∧ (ac s 1 = 120 ∨ ac s 1 = 98)
  · obtain ⟨p1, z, kk⟩ := k
    have p1I : (1 : Int) < s.size := by omega
    have p2 : (2 : Int) ≤ s.size := by omega
    have hs2 : (s.extract 2 s.size).size ≤ 1099511627776 := by rw [← ar, j4, List.length_drop, hl]; omega
    have hd2 : aa (s.extract 2 s.size) = (aa s).drop 2 := j4 s 2
    have hH : dx (aa s) = 2 := by unfold dx; rw [if_pos (by rw [hl, ← hb0, ← hb1]; exact ⟨p1, z, kk⟩)]
    rcases kk with kk | kk
    · have hB : fF (aa s) = 16 := by unfold fF; rw [if_pos (by rw [hl, ← hb0, ← hb1]; exact ⟨p1, z, kk⟩)]
      have hF := hF 16 2 hB hH
      have hle := hle 16 2 (by omega)
      generalize he : iP 16 ((aa s).drop 2) = r at *
      obtain ⟨n, m⟩ := r
      simp only at hF hle
      by_cases m1 : m < 1
      · have e : cB (aa s) = .tup [.l (.v (.int .u64 0)), .l (.v (.int .i64 0))] := by unfold cB; rw [hF, if_pos (.inl m1)]; rfl
        simp only [go_sem, hpI, hq, p1I, p2, z, kk, fq, fp, gc, hs2, hd2, he, m1, e]
      · have ew : IntKind.i64.wrap (2 + m) = 2 + m := by rw [IntKind.wrap_i64]; omega
        have e : cB (aa s) = .tup [.l (.v (.int .u64 n)), .l (.v (.int .i64 (2 + m)))] := by unfold cB; rw [hF, if_neg (by omega)]; simp only [Int.natCast_add]; rw [Int.toNat_of_nonneg (by omega)]; rfl
        simp only [go_sem, hpI, hq, p1I, p2, z, kk, fq, fp, gc, hs2, hd2, he, m1, ew, e]
    · have hB : fF (aa s) = 2 := by unfold fF; rw [if_neg (by rw [← hb1]; omega), if_pos (by rw [hl, ← hb0, ← hb1]; exact ⟨p1, z, kk⟩)]
      have hF := hF 2 2 hB hH
      have hle := hle 2 2 (by omega)
      generalize he : iP 2 ((aa s).drop 2) = r at *
      obtain ⟨n, m⟩ := r
      simp only at hF hle
      by_cases m1 : m < 1
      · have e : cB (aa s) = .tup [.l (.v (.int .u64 0)), .l (.v (.int .i64 0))] := by unfold cB; rw [hF, if_pos (.inl m1)]; rfl
        simp only [go_sem, hpI, hq, p1I, p2, z, kk, fq, fp, gc, hs2, hd2, he, m1, e]
      · have ew : IntKind.i64.wrap (2 + m) = 2 + m := by rw [IntKind.wrap_i64]; omega
        have e : cB (aa s) = .tup [.l (.v (.int .u64 n)), .l (.v (.int .i64 (2 + m)))] := by unfold cB; rw [hF, if_neg (by omega)]; simp only [Int.natCast_add]; rw [Int.toNat_of_nonneg (by omega)]; rfl
        simp only [go_sem, hpI, hq, p1I, p2, z, kk, fq, fp, gc, hs2, hd2, he, m1, ew, e]
  have hB : fF (aa s) = 10 := by unfold fF; rw [if_neg (by rw [hl, ← hb0, ← hb1]; omega), if_neg (by rw [hl, ← hb0, ← hb1]; omega)]
  have hH : dx (aa s) = 0 := by unfold dx; rw [if_neg (by rw [hl, ← hb0, ← hb1]; exact k)]
  have hF := hF 10 0 hB hH
  have hle := hle 10 0 (by omega)
  have p2 : (0 : Int) ≤ s.size := by omega
  have hs2 : (s.extract 0 s.size).size ≤ 1099511627776 := by rw [← ar, j4, List.length_drop, hl]; omega
  have hd2 : aa (s.extract 0 s.size) = aa s := by rw [j4, List.drop_zero]
  rw [List.drop_zero] at hF hle
  generalize he : iP 10 (aa s) = r at *
  obtain ⟨n, m⟩ := r
  simp only at hF hle
  by_cases p1 : 1 < s.size
  case neg =>
    have p1I : ¬ (1 : Int) < s.size := by omega
    by_cases m1 : m < 1
    · have e : cB (aa s) = .tup [.l (.v (.int .u64 0)), .l (.v (.int .i64 0))] := by unfold cB; rw [hF, if_pos (.inl m1)]; rfl
      simp only [go_sem, hpI, hq, p1I, p2, fq, fp, gc, hs2, hd2, he, m1, e]
    · have m2 : ¬ 1 < m := by omega
      have ew : IntKind.i64.wrap (0 + m) = m := by rw [IntKind.wrap_i64]; omega
      have e : cB (aa s) = .tup [.l (.v (.int .u64 n)), .l (.v (.int .i64 m))] := by unfold cB; rw [hF, if_neg (by omega)]; simp only [Nat.zero_add]; rw [Int.toNat_of_nonneg (by omega)]
      simp only [go_sem, hpI, hq, p1I, p2, fq, fp, gc, hs2, hd2, he, m1, m2, ew, e]
  have p1I : (1 : Int) < s.size := by omega
  by_cases z : ac s 0 = 48
  · have k1 : ¬ ac s 1 = 120 := fun h => k ⟨p1, z, .inl h⟩
    have k2 : ¬ ac s 1 = 98 := fun h => k ⟨p1, z, .inr h⟩
    by_cases m1 : m < 1
    · have e : cB (aa s) = .tup [.l (.v (.int .u64 0)), .l (.v (.int .i64 0))] := by unfold cB; rw [hF, if_pos (.inl m1)]; rfl
      simp only [go_sem, hpI, hq, p1I, p2, z, k1, k2, fq, fp, gc, hs2, hd2, he, m1, e]
    · by_cases m2 : 1 < m
      · have e : cB (aa s) = .tup [.l (.v (.int .u64 0)), .l (.v (.int .i64 0))] := by unfold cB; rw [hF, if_pos (.inr ⟨trivial, m2, z⟩)]; rfl
        simp only [go_sem, hpI, hq, p1I, p2, z, k1, k2, fq, fp, gc, hs2, hd2, he, m1, m2, e]
      · have ew : IntKind.i64.wrap (0 + m) = m := by rw [IntKind.wrap_i64]; omega
        have e : cB (aa s) = .tup [.l (.v (.int .u64 n)), .l (.v (.int .i64 m))] := by unfold cB; rw [hF, if_neg (by omega)]; simp only [Nat.zero_add]; rw [Int.toNat_of_nonneg (by omega)]
        simp only [go_sem, hpI, hq, p1I, p2, z, k1, k2, fq, fp, gc, hs2, hd2, he, m1, m2, ew, e]
  · by_cases m1 : m < 1
    · have e : cB (aa s) = .tup [.l (.v (.int .u64 0)), .l (.v (.int .i64 0))] := by unfold cB; rw [hF, if_pos (.inl m1)]; rfl
      simp only [go_sem, hpI, hq, p1I, p2, z, fq, fp, gc, hs2, hd2, he, m1, e]
    · have ew : IntKind.i64.wrap (0 + m) = m := by rw [IntKind.wrap_i64]; omega
      have e : cB (aa s) = .tup [.l (.v (.int .u64 n)), .l (.v (.int .i64 m))] := by unfold cB; rw [hF, if_neg (by omega)]; simp only [Nat.zero_add]; rw [Int.toNat_of_nonneg (by omega)]
      by_cases m2 : 1 < m
      · simp only [go_sem, hpI, hq, p1I, p2, z, fq, fp, gc, hs2, hd2, he, m1, m2, ew, e]
      · simp only [go_sem, hpI, hq, p1I, p2, z, fq, fp, gc, hs2, hd2, he, m1, m2, ew, e]
theorem Np (args : Array Value) (w : World) : (callFunc 105 args).run Tryz.prog w = .ok (.enter 105 args) w := by go_simp
def LA : bq Tryz.prog 105 :=
  mk1 _ _ _ Tryz.func105 rfl Np (bh) ((fun s => 0 < s.size ∧ s.size ≤ 1099511627776)) ((fun s => .ret (cB (aa s)))) (by rw [Tryz.ntmps105]; decide) (fun s h => EN s h.1 h.2)
theorem iY {id : Nat} {h : ag} {args : List AV} : (LA).run id h args = bV (aI (bh) ((fun s => 0 < s.size ∧ s.size ≤ 1099511627776))) ((fun s => .ret (cB (aa s)))) h args := rfl
theorem iX {id : Nat} {h : ag} {args : List AV} : (LA).pan id h args = ca (aI (bh) ((fun s => 0 < s.size ∧ s.size ≤ 1099511627776))) ((fun s => .ret (cB (aa s)))) h args := rfl

end Go.Proofs.YthcoegkfpinlfaaGreatDoor.Lx

/-! ## LH -/
namespace Go.Proofs.YthcoegkfpinlfaaGreatDoor.Lx
open Go.RowKit
set_option maxRecDepth 100000

/-! ### A token -/
theorem yM (g : Int → Bool) : ∀ (k : Nat) (l : List Int), bu g (l.take k) = min k (bu g l)
  | 0, l => by rw [List.take_zero, wH]; omega
  | k + 1, [] => by rw [List.take_nil, wH]; omega
  | k + 1, c :: l => by
    rw [List.take_succ_cons, gQ, gQ, yM g k l]
    split <;> omega
theorem D4 {l : List Int} {n : Nat} (h : bG (bAt l 0) = true) (hn : n < l.length) : iN (l.take (n + 1)) = decide (n < bu bn l) := by
  have hl : (l.take (n + 1)).length = n + 1 := by rw [List.length_take]; omega
  have h0 : bAt (l.take (n + 1)) 0 = bAt l 0 := by
    unfold bAt; rw [List.getD_eq_getElem?_getD, List.getD_eq_getElem?_getD, List.getElem?_take_of_lt (by omega)]
  unfold iN
  rw [hl, h0, h, yM, decide_eq_true (show 0 < n + 1 by omega), Bool.true_and, Bool.true_and, decide_eq_decide]
  omega

set_option maxHeartbeats 4000000 in
theorem Oe (s : ByteArray) (h0 : 0 < s.size) (hs : s.size ≤ 1099511627776) : SW Tryz.prog ⟨none, 0⟩ Tryz.f60.ntmps (Tryz.f60.body.getD .skip) ⟨0, aw 0 [bh.enc s], []⟩ (eK Tryz.prog Tryz.f60.results.toList (.ret (kP (eO (aa s))))) := by
  refine ab (ctx := [⟨_, pR⟩, ⟨_, yE⟩, ⟨_, Ac⟩, ⟨_, LA⟩, ⟨_, wC⟩, ⟨_, Ga⟩]) 4000 ?_
  rw [Tryz.ntmps60, Tryz.results60]
  simp only [Tryz.f60, Option.getD_some, aw]
  have hl : (aa s).length = s.size := ar s
  have hpI : (0 : Int) < s.size := by omega
  have hb0 := jr s
  by_cases c1 : bG (ac s 0) = true
  · have e : eO (aa s) = .ok (⟨1, aQ ((aa s).take (bu bn (aa s))), 0, 0⟩, bu bn (aa s)) := by unfold eO; rw [if_pos (by rw [← hb0]; exact c1)]
    have hle : bu bn (aa s) ≤ (aa s).length := mC _ _
    have hm : s.size ≤ maxLen := by unfold maxLen; omega
    simp only [go_sem, bT, bS, hpI, c1]
    refine dG (ι := Nat) (fun n => n ≤ bu bn (aa s)) (fun n => ⟨1, [(0, sv s), (2, pv 0 0 0), (6, iv n)], [(0, some ⟨true, 93, 4, [[.v (.int .i64 0), .v (.string emp), .v (.int .u64 0), .v (.int .i64 0)]]⟩)]⟩) (fun n => s.size - n) 0 (Nat.zero_le _) (Wk.renL [0] (by simp) (by simp) (by simp) rfl rfl) ?_
    intro n hn
    refine ab (ctx := [⟨_, Ac⟩]) 4000 ?_
    by_cases hlt : n < s.size
    · have hltI : (n : Int) < s.size := by omega
      have ei : IntKind.i64.wrap ((n : Int) + 1) = ((n + 1 : Nat) : Int) := by rw [IntKind.wrap_i64]; omega
      have hnI : ((n + 1 : Nat) : Int) ≤ s.size := by omega
      have hx1 : (s.extract 0 (n + 1)).size ≤ maxLen := by rw [← ar, lr, List.length_take]; omega
      have hx2 : iN (aa (s.extract 0 (n + 1))) = decide (n < bu bn (aa s)) := by rw [lr]; exact D4 (by rw [← hb0]; exact c1) (by omega)
      by_cases hr : n < bu bn (aa s)
      · rw [decide_eq_true hr] at hx2
        simp only [go_sem, hltI, ei, hnI, Int.toNat_zero, yJ, yI, hx1, hx2]
        exact ⟨n + 1, hr, by omega, Wk.renL [0] (by simp) (by simp) (by simp) rfl rfl⟩
      · rw [decide_eq_false hr] at hx2
        obtain rfl : n = bu bn (aa s) := by omega
        have hle2 : (bu bn (aa s) : Int) ≤ s.size := by omega
        simp only [go_sem, hltI, ei, hnI, Int.toNat_zero, yJ, yI, hx1, hx2, hle2, e, kP, lu, ← nZ, ax]
    · have hltI : ¬ (n : Int) < s.size := by omega
      obtain rfl : n = bu bn (aa s) := by omega
      have hle2 : (bu bn (aa s) : Int) ≤ s.size := by omega
      simp only [go_sem, hltI, Int.toNat_zero, hle2, e, kP, lu, ← nZ, ax]
  have k1 : bG (ac s 0) = false := by simpa using c1
  by_cases c2 : cy (ac s 0) = true ∨ ac s 0 = 39
  · have hO : eO (aa s) = if (cj (aa s)).2 = 0 ∨ (cj (aa s)).2 < s.size ∧ bn (ac s (cj (aa s)).2) = true then .error 81 else .ok (⟨2, emp, (cj (aa s)).1, 0⟩, (cj (aa s)).2) := by
      unfold eO; rw [if_neg (by rw [← hb0]; exact c1), if_pos (by rw [← hb0]; exact c2), hl, ce]
    have hnl := v7 (aa s)
    generalize hN : cj (aa s) = N at *
    obtain ⟨v, n⟩ := N
    simp only at hO hnl
    have hN' : cB (aa s) = .tup [.l (.v (.int .u64 v)), .l (.v (.int .i64 n))] := by unfold cB; rw [hN]
    have K : ∃ d : Bool, cy (ac s 0) = d ∧ (d = false → ac s 0 = 39) := ⟨_, rfl, fun h => c2.resolve_left (by rw [h]; simp)⟩
    by_cases n0 : n = 0
    · have n0I : (n : Int) = 0 := by omega
      have e : eO (aa s) = .error 81 := by rw [hO, if_pos (.inl n0)]
      cases k2 : cy (ac s 0) with
      | true => simp only [go_sem, bT, bS, cD, cC, hpI, k1, k2, iY, iX, h0, hs, hN', n0I, e, kP, lu, ax]
      | false =>
        have k3 : ac s 0 = 39 := c2.resolve_left (by rw [k2]; simp)
        simp only [go_sem, bT, bS, cD, cC, hpI, k1, k2, k3, show bG 39 = false from rfl, show cy 39 = false from rfl, iY, iX, h0, hs, hN', n0I, e, kP, lu, ax]
    have n0I : ¬ (n : Int) = 0 := by omega
    by_cases n1 : n < s.size
    · have n1I : (n : Int) < s.size := by omega
      cases w1 : bG (ac s n) with
      | true =>
        have e : eO (aa s) = .error 81 := by rw [hO, if_pos (.inr ⟨n1, by unfold bn; rw [w1]; rfl⟩)]
        cases k2 : cy (ac s 0) with
        | true => simp only [go_sem, bT, bS, cD, cC, hpI, k1, k2, iY, iX, h0, hs, hN', n0I, n1I, w1, e, kP, lu, ax]
        | false =>
          have k3 : ac s 0 = 39 := c2.resolve_left (by rw [k2]; simp)
          simp only [go_sem, bT, bS, cD, cC, hpI, k1, k2, k3, show bG 39 = false from rfl, show cy 39 = false from rfl, iY, iX, h0, hs, hN', n0I, n1I, w1, e, kP, lu, ax]
      | false =>
        cases w2 : cy (ac s n) with
        | true =>
          have e : eO (aa s) = .error 81 := by rw [hO, if_pos (.inr ⟨n1, by unfold bn; rw [w1, w2]; rfl⟩)]
          cases k2 : cy (ac s 0) with
          | true => simp only [go_sem, bT, bS, cD, cC, hpI, k1, k2, iY, iX, h0, hs, hN', n0I, n1I, w1, w2, e, kP, lu, ax]
          | false =>
            have k3 : ac s 0 = 39 := c2.resolve_left (by rw [k2]; simp)
            simp only [go_sem, bT, bS, cD, cC, hpI, k1, k2, k3, show bG 39 = false from rfl, show cy 39 = false from rfl, iY, iX, h0, hs, hN', n0I, n1I, w1, w2, e, kP, lu, ax]
        | false =>
          have e : eO (aa s) = .ok (⟨2, emp, v, 0⟩, n) := by rw [hO, if_neg (fun h => h.elim n0 fun h => by unfold bn at h; rw [w1, w2] at h; cases h.2)]
          cases k2 : cy (ac s 0) with
          | true => simp only [go_sem, bT, bS, cD, cC, hpI, k1, k2, iY, iX, h0, hs, hN', n0I, n1I, w1, w2, e, kP, lu, ax]
          | false =>
            have k3 : ac s 0 = 39 := c2.resolve_left (by rw [k2]; simp)
            simp only [go_sem, bT, bS, cD, cC, hpI, k1, k2, k3, show bG 39 = false from rfl, show cy 39 = false from rfl, iY, iX, h0, hs, hN', n0I, n1I, w1, w2, e, kP, lu, ax]
    · have n1I : ¬ (n : Int) < s.size := by omega
      have e : eO (aa s) = .ok (⟨2, emp, v, 0⟩, n) := by rw [hO, if_neg (fun h => h.elim n0 fun h => n1 h.1)]
      cases k2 : cy (ac s 0) with
      | true => simp only [go_sem, bT, bS, cD, cC, hpI, k1, k2, iY, iX, h0, hs, hN', n0I, n1I, e, kP, lu, ax]
      | false =>
        have k3 : ac s 0 = 39 := c2.resolve_left (by rw [k2]; simp)
        simp only [go_sem, bT, bS, cD, cC, hpI, k1, k2, k3, show bG 39 = false from rfl, show cy 39 = false from rfl, iY, iX, h0, hs, hN', n0I, n1I, e, kP, lu, ax]
  have k2 : cy (ac s 0) = false := by simpa using fun h => c2 (.inl h)
  have k3 : ¬ ac s 0 = 39 := fun h => c2 (.inr h)
  by_cases c3 : ac s 0 = 34
  · have hO : eO (aa s) = if (cR (aa s)).2 = 0 then .error 82 else .ok (⟨3, aQ (cR (aa s)).1, 0, 0⟩, (cR (aa s)).2) := by
      unfold eO; rw [if_neg (by rw [← hb0]; exact c1), if_neg (by rw [← hb0]; exact c2), if_pos (by rw [← hb0]; exact c3)]
    by_cases hn : (cR (aa s)).2 = 0
    · have e : eO (aa s) = .error 82 := by rw [hO, if_pos hn]
      have hnI : ((cR (aa s)).2 : Int) = 0 := by omega
      simp only [go_sem, bT, bS, cD, cC, hpI, k1, k2, k3, c3, show bG 34 = false from rfl, show cy 34 = false from rfl, tY, tX, hs, mB, hnI, e, kP, lu, ax]
    · have e : eO (aa s) = .ok (⟨3, aQ (cR (aa s)).1, 0, 0⟩, (cR (aa s)).2) := by rw [hO, if_neg hn]
      have hnI : ¬ ((cR (aa s)).2 : Int) = 0 := by omega
      simp only [go_sem, bT, bS, cD, cC, hpI, k1, k2, k3, c3, show bG 34 = false from rfl, show cy 34 = false from rfl, tY, tX, hs, mB, hnI, e, kP, lu, ax]
  · have hO : eO (aa s) = if cg (aa s) = 0 then .error 80 else .ok (⟨4, aQ ((aa s).take (cg (aa s))), 0, 0⟩, cg (aa s)) := by
      unfold eO; rw [if_neg (by rw [← hb0]; exact c1), if_neg (by rw [← hb0]; exact c2), if_neg (by rw [← hb0]; exact c3)]
    by_cases hn : cg (aa s) = 0
    · have e : eO (aa s) = .error 80 := by rw [hO, if_pos hn]
      have hnI : ¬ 0 < (cg (aa s) : Int) := by omega
      simp only [go_sem, bT, bS, cD, cC, hpI, k1, k2, k3, c3, wE, wD, hnI, e, kP, lu, ax]
    · have e : eO (aa s) = .ok (⟨4, aQ ((aa s).take (cg (aa s))), 0, 0⟩, cg (aa s)) := by rw [hO, if_neg hn]
      have hle := wJ (aa s)
      rw [hl] at hle
      have hleI : (cg (aa s) : Int) ≤ s.size := by omega
      have hnI : 0 < (cg (aa s) : Int) := by omega
      simp only [go_sem, bT, bS, cD, cC, hpI, k1, k2, k3, c3, wE, wD, hnI]
      refine cr (ctx := [⟨_, Ga⟩]) mixed [7] (by kernel_rfl) ?_
      simp only [go_sem, wE, wD, hleI, e, kP, lu, ← nZ, Int.toNat_zero, ax]
theorem Nq (args : Array Value) (w : World) : (callFunc 60 args).run Tryz.prog w = .ok (.enter 60 args) w := by go_simp
def F6 : bq Tryz.prog 60 :=
  mk1 _ _ _ Tryz.func60 rfl Nq (bh) ((fun s => 0 < s.size ∧ s.size ≤ 1099511627776)) ((fun s => .ret (kP (eO (aa s))))) (by rw [Tryz.ntmps60]; decide) (fun s h => Oe s h.1 h.2)
theorem nC {id : Nat} {h : ag} {args : List AV} : (F6).run id h args = bV (aI (bh) ((fun s => 0 < s.size ∧ s.size ≤ 1099511627776))) ((fun s => .ret (kP (eO (aa s))))) h args := rfl
theorem nB {id : Nat} {h : ag} {args : List AV} : (F6).pan id h args = ca (aI (bh) ((fun s => 0 < s.size ∧ s.size ≤ 1099511627776))) ((fun s => .ret (kP (eO (aa s))))) h args := rfl

/-! ### All tokens -/
theorem xx {p : Nat} {c : Int} {l : List Int} (h : aE c = true) : bB p (c :: l) = bB (p + 1) l := by
  have hk : bu aE (c :: l) = bu aE l + 1 := by rw [gQ, if_pos h, Nat.add_comm]
  cases hD : dT (l.drop (bu aE l)) with
  | true => rw [eR (by rw [hk]; exact hD), eR hD, List.length_cons, show p + (l.length + 1) = p + 1 + l.length by omega]
  | false =>
    rcases ho : eO (l.drop (bu aE l)) with e | ⟨t, n⟩
    · rw [fW (by rw [hk]; exact hD) (by rw [hk]; exact ho), fW hD ho, hk, show p + (bu aE l + 1) = p + 1 + bu aE l by omega]
    · rw [iC (by rw [hk]; exact hD) (by rw [hk]; exact ho), iC hD ho, hk, show p + (bu aE l + 1) = p + 1 + bu aE l by omega, show bu aE l + 1 + n = bu aE l + n + 1 by omega, List.drop_succ_cons]

set_option maxHeartbeats 4000000 in
theorem ET (s : ByteArray) : SW Tryz.prog ⟨none, 0⟩ Tryz.f26.ntmps (Tryz.f26.body.getD .skip) ⟨0, aw 0 [bh.enc s], []⟩ (eK Tryz.prog Tryz.f26.results.toList (.ret (mE (dP (aa s)) (ij (aa s))))) := by
  refine ab (ctx := [⟨_, F6⟩]) 4000 ?_
  rw [Tryz.ntmps26, Tryz.results26]
  simp only [Tryz.f26, Option.getD_some, aw]
  have hl : (aa s).length = s.size := ar s
  by_cases h5 : 512 < s.size
  · have h5I : (512 : Int) < s.size := by omega
    have e1 : dP (aa s) = ([], 0, 3) := by unfold dP; rw [if_pos (by omega)]
    have e2 : ij (aa s) = true := by unfold ij; rw [hl]; exact decide_eq_true h5
    simp only [go_sem, h5I, e1, e2, mE, F0]
  have h5I : ¬ (512 : Int) < s.size := by omega
  have e1 : dP (aa s) = bB 0 (aa s) := by unfold dP; rw [if_neg (by omega)]
  have e2 : ij (aa s) = false := by unfold ij; rw [hl]; exact decide_eq_false h5
  simp only [go_sem, h5I, e1, e2, mE]
  refine dG (ι := Nat × List Tok) (Mi s) (fun p => ⟨1, [(0, sv s), (5, .s (.l (.sl 0 0 p.2.length))), (6, iv p.1)], [(0, some (pW p.2))]⟩) (fun p => s.size - p.1) (0, []) ⟨Nat.zero_le _, Nat.le_refl _, by simp⟩ ?_ ?_
  · exact (Wk.nil 5 93 4 rfl).trans (Wk.renL [128] (by simp) (by simp) (by simp) rfl rfl)
  rintro ⟨p, l⟩ ⟨hp, hlp, hinv⟩
  simp only at hp hlp hinv
  refine ab (ctx := [⟨_, F6⟩]) 4000 ?_
  by_cases hlt : p < s.size
  case neg =>
    have hltI : ¬ (p : Int) < s.size := by omega
    have hF : bB 0 (aa s) = (l, s.size, 0) := by
      rw [hinv, List.drop_eq_nil_of_le (by omega), eR rfl, List.append_nil]
      exact Prod.ext rfl (Prod.ext (show p + 0 = s.size by omega) rfl)
    simp only [go_sem, pW, hltI, hF, j9]
  have hltI : (p : Int) < s.size := by omega
  have hpI : (p : Int) ≤ s.size := by omega
  have ep : IntKind.i64.wrap ((p : Int) + 1) = ((p + 1 : Nat) : Int) := by rw [IntKind.wrap_i64]; omega
  have hdc : (aa s).drop p = ac s p :: (aa s).drop (p + 1) := by rw [G9 (by omega), ce]
  have blank : aE (ac s p) = true → Mi s (p + 1, l) := fun h => ⟨hlt, by simp only; omega, by rw [hdc, xx h] at hinv; exact hinv⟩
  by_cases b1 : ac s p = 32
  · simp only [go_sem, pW, hltI, b1, ep]
    exact ⟨(p + 1, l), blank (by rw [b1]; rfl), by simp only; omega, Wk.renL [0] (by simp) (by simp) (by simp) rfl (by simp only [aq, List.map_cons, List.map_nil, Option.map_some, Blk.ren, ff]; rfl)⟩
  by_cases b2 : ac s p = 9
  · simp only [go_sem, pW, hltI, b1, b2, ep]
    exact ⟨(p + 1, l), blank (by rw [b2]; rfl), by simp only; omega, Wk.renL [0] (by simp) (by simp) (by simp) rfl (by simp only [aq, List.map_cons, List.map_nil, Option.map_some, Blk.ren, ff]; rfl)⟩
  have hb : aE (ac s p) = false := by unfold aE; exact decide_eq_false (by omega)
  have hk : bu aE ((aa s).drop p) = 0 := by rw [hdc, gQ, hb, if_neg (by simp)]
  obtain ⟨m, hm⟩ : ∃ m, (aa s).drop p = m := ⟨_, rfl⟩
  have hml : m.length = s.size - p := by rw [← hm, List.length_drop, hl]
  have hm0 : bAt m 0 = ac s p := by rw [← hm, dZ, ce]; rfl
  have hm1 : bAt m 1 = ac s ((p + 1 : Nat) : Int) := by rw [← hm, dZ, ce]
  rw [hm] at hk hinv
  have hD : dT (m.drop (bu aE m)) = decide (p + 1 < s.size ∧ ac s p = 47 ∧ ac s ((p + 1 : Nat) : Int) = 47) := by
    rw [hk, List.drop_zero]
    unfold dT
    rw [decide_eq_false (show ¬ m.length = 0 by omega), Bool.false_or, hm0, hm1, hml, Bool.eq_iff_iff]
    simp [and_assoc]
    intro _ _
    omega
  by_cases hc : p + 1 < s.size ∧ ac s p = 47 ∧ ac s ((p + 1 : Nat) : Int) = 47
  · rw [decide_eq_true hc] at hD
    obtain ⟨d1, d2, d3⟩ := hc
    have d1I : ((p + 1 : Nat) : Int) < s.size := by omega
    have hF : bB 0 (aa s) = (l, s.size, 0) := by
      rw [hinv, eR hD, List.append_nil, hml]
      exact Prod.ext rfl (Prod.ext (show p + (s.size - p) = s.size by omega) rfl)
    simp only [go_sem, pW, hltI, b1, b2, d1I, d2, d3, ep, hF, j9]
  rw [decide_eq_false hc] at hD
  have hx3 : aa (s.extract p s.size) = m := by rw [j4, hm]
  have hx4 : (s.extract p s.size).size = s.size - p := by rw [← ar, hx3, hml]
  have hx5 : 0 < (s.extract p s.size).size ∧ (s.extract p s.size).size ≤ 1099511627776 := by omega
  have hD1 : ¬ ac s p = 47 ∨ ac s p = 47 ∧ (¬ ((p + 1 : Nat) : Int) < s.size ∨ ((p + 1 : Nat) : Int) < s.size ∧ ¬ ac s ((p + 1 : Nat) : Int) = 47) := by
    by_cases d2 : ac s p = 47
    · refine .inr ⟨d2, ?_⟩
      by_cases d1 : p + 1 < s.size
      · exact .inr ⟨by omega, fun d3 => hc ⟨d1, d2, d3⟩⟩
      · exact .inl (by omega)
    · exact .inl d2
  rcases ho : eO m with e | ⟨t, n⟩
  · have hF : bB 0 (aa s) = (l, p, e) := by
      have := fW (p := p) (l := m) (e := e) hD (by rw [hk]; exact ho)
      rw [hinv, this, hk, List.append_nil]; rfl
    have he : ¬ e = 0 := by have := KT ho; omega
    rcases hD1 with d2 | ⟨d2, d1 | ⟨d1, d3⟩⟩
    · simp only [go_sem, pW, hltI, hpI, b1, b2, d2, ep, hx3, hx5, nC, nB, ho, kP, lu, he, hF, j9]
    · simp only [go_sem, pW, hltI, hpI, b1, b2, d1, d2, ep, hx3, hx5, nC, nB, ho, kP, lu, he, hF, j9]
    · simp only [go_sem, pW, hltI, hpI, b1, b2, d1, d2, d3, ep, hx3, hx5, nC, nB, ho, kP, lu, he, hF, j9]
  · have hn := ln (by omega) ho
    have hd : bB p m = ({ t with pos := (p : Int) } :: (bB (p + n) (m.drop n)).1, (bB (p + n) (m.drop n)).2) := by
      have := iC (p := p) (l := m) (t := t) (n := n) hD (by rw [hk]; exact ho)
      rw [hk, Nat.zero_add] at this; exact this
    have hdd : m.drop n = (aa s).drop (p + n) := by rw [← hm, List.drop_drop]
    rw [hdd] at hd
    have e3 : IntKind.i64.wrap ((p : Int) + (n : Int)) = ((p + n : Nat) : Int) := by rw [IntKind.wrap_i64]; omega
    have hsn := IW l { t with pos := (p : Int) }
    simp only at hsn
    have hm1 : l.length + 1 ≤ maxLen := by unfold maxLen; omega
    have hb1 : (l.length + 1) * 40 ≤ 140737488355328 := by omega
    have fin : Mi s (p + n, l ++ [{ t with pos := (p : Int) }]) := ⟨by simp only; omega, by simp only [List.length_append, List.length_cons, List.length_nil]; omega, by rw [hinv, hd]; simp⟩
    rcases hD1 with d2 | ⟨d2, d1 | ⟨d1, d3⟩⟩
    · simp only [go_sem, pW, hltI, hpI, b1, b2, d2, ep, hx3, hx5, nC, nB, ho, kP, lu, hm1, hb1, e3, hsn]
      exact ⟨(p + n, l ++ [{ t with pos := (p : Int) }]), fin, by simp only; omega, Wk.renL [673] (by simp) (by simp) (by simp) (by simp [cE, AV.ren, SV.ren, LV.ren]) (by simp only [aq, List.map_cons, List.map_nil, Option.map_some, Blk.ren, ff]; rfl)⟩
    · simp only [go_sem, pW, hltI, hpI, b1, b2, d1, d2, ep, hx3, hx5, nC, nB, ho, kP, lu, hm1, hb1, e3, hsn]
      exact ⟨(p + n, l ++ [{ t with pos := (p : Int) }]), fin, by simp only; omega, Wk.renL [753] (by simp) (by simp) (by simp) (by simp [cE, AV.ren, SV.ren, LV.ren]) (by simp only [aq, List.map_cons, List.map_nil, Option.map_some, Blk.ren, ff]; rfl)⟩
    · simp only [go_sem, pW, hltI, hpI, b1, b2, d1, d2, d3, ep, hx3, hx5, nC, nB, ho, kP, lu, hm1, hb1, e3, hsn]
      exact ⟨(p + n, l ++ [{ t with pos := (p : Int) }]), fin, by simp only; omega, Wk.renL [833] (by simp) (by simp) (by simp) (by simp [cE, AV.ren, SV.ren, LV.ren]) (by simp only [aq, List.map_cons, List.map_nil, Option.map_some, Blk.ren, ff]; rfl)⟩
theorem DI (args : Array Value) (w : World) : (callFunc 26 args).run Tryz.prog w = .ok (.enter 26 args) w := by go_simp
def wG : bq Tryz.prog 26 :=
  mk1 _ _ _ Tryz.func26 rfl DI (bh) ((fun _ => True)) ((fun s => .ret (mE (dP (aa s)) (ij (aa s))))) (by rw [Tryz.ntmps26]; decide) (fun s _ => ET s)
theorem t6 {id : Nat} {h : ag} {args : List AV} : (wG).run id h args = bV (aI (bh) ((fun _ => True))) ((fun s => .ret (mE (dP (aa s)) (ij (aa s))))) h args := rfl
theorem tZ {id : Nat} {h : ag} {args : List AV} : (wG).pan id h args = ca (aI (bh) ((fun _ => True))) ((fun s => .ret (mE (dP (aa s)) (ij (aa s))))) h args := rfl

theorem Nn (args : Array Value) (w : World) : (callFunc 9 args).run Tryz.prog w = .ok (.enter 9 args) w := by go_simp
def rlexS : bq Tryz.prog 9 :=
  mk1 _ _ _ Tryz.func9 rfl Nn (bh) ((fun _ => True)) ((fun s => .ret (sR (dP (aa s))))) (by rw [Tryz.ntmps9]; decide) (fun s _ => by
  refine ab (ctx := [⟨_, wG⟩]) 4000 ?_
  rw [Tryz.ntmps9, Tryz.results9]
  simp only [Tryz.f9, Option.getD_some, aw]
  by_cases h0 : (dP (aa s)).2.2 = 0
  · have hl : ij (aa s) = false := by
      unfold ij
      refine decide_eq_false fun h => ?_
      unfold dP at h0
      rw [if_pos h] at h0
      cases h0
    simp only [go_sem, t6, tZ, mE, j9, sR, h0, hl]
  · cases hl : ij (aa s) <;> simp only [go_sem, t6, tZ, mE, j9, F0, sR, h0, hl])
theorem rlex_run {id : Nat} {h : ag} {args : List AV} : (rlexS).run id h args = bV (aI (bh) ((fun _ => True))) ((fun s => .ret (sR (dP (aa s))))) h args := rfl
theorem rlex_pan {id : Nat} {h : ag} {args : List AV} : (rlexS).pan id h args = ca (aI (bh) ((fun _ => True))) ((fun s => .ret (sR (dP (aa s))))) h args := rfl

end Go.Proofs.YthcoegkfpinlfaaGreatDoor.Lx
