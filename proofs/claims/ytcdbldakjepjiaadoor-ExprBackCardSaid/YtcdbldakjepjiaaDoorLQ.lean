/- Lines: blanks change no token. No program in sight. -/
import Derived.Test.YtcdbldakjepjiaaDoorL0
set_option linter.unusedVariables false
set_option linter.unusedSimpArgs false
namespace Go.Proofs.YtcdbldakjepjiaaDoor
open Go.RowKit

/-! ### What stands behind a token -/
theorem bAt_app {a v : List Int} {i : Nat} (h : i < a.length) : bAt (a ++ v) i = bAt a i := by
  unfold bAt
  rw [List.getD_eq_getElem?_getD, List.getD_eq_getElem?_getD, List.getElem?_append_left h]
theorem bAt_app2 {a v : List Int} : bAt (a ++ v) a.length = bAt v 0 := by
  unfold bAt
  rw [List.getD_eq_getElem?_getD, List.getD_eq_getElem?_getD, List.getElem?_append_right (Nat.le_refl _), Nat.sub_self]
theorem bAt_take {l : List Int} {n i : Nat} (h : i < n) : bAt (l.take n) i = bAt l i := by
  unfold bAt
  rw [List.getD_eq_getElem?_getD, List.getD_eq_getElem?_getD, List.getElem?_take_of_lt h]
theorem blank_not {c : Int} (h : blankB c = true) : wordyB c = false ∧ hexB c = 16 ∧ c ≠ 120 ∧ c ≠ 98 ∧ c ≠ 47 := by
  unfold blankB at h
  have h1 : c = 32 ∨ c = 9 := by simpa using h
  rcases h1 with rfl | rfl <;> decide

/-- what may stand behind a token in the place of what stood there -/
def Behind (m v : List Int) : Prop := v = [] ∨ blankB (bAt v 0) = true ∨ (m ≠ [] ∧ bAt v 0 = bAt m 0)

structure Same (m : List Int) (n : Nat) (w : List Int) : Prop where
  len : n ≤ m.length
  wlen : n ≤ w.length
  at_ : ∀ i, i < n → bAt w i = bAt m i
  tak : w.take n = m.take n
  stop : n < w.length → blankB (bAt w n) = true ∨ (n < m.length ∧ bAt w n = bAt m n)
theorem same_of {m v : List Int} {n : Nat} (hn : n ≤ m.length) (hv : Behind (m.drop n) v) : Same m n (m.take n ++ v) := by
  have hl : (m.take n).length = n := by rw [List.length_take]; omega
  refine ⟨hn, by rw [List.length_append, hl]; omega, fun i hi => by rw [bAt_app (by omega), bAt_take hi], by rw [List.take_append_of_le_length (by omega), List.take_take, Nat.min_self], fun h => ?_⟩
  have e : bAt (m.take n ++ v) n = bAt v 0 := by
    have := bAt_app2 (a := m.take n) (v := v)
    rwa [hl] at this
  rw [e]
  rcases hv with rfl | h1 | ⟨h1, h2⟩
  · rw [List.append_nil, hl] at h; omega
  · exact .inl h1
  · refine .inr ⟨?_, ?_⟩
    · rcases Nat.lt_or_ge n m.length with h3 | h3
      · exact h3
      · exact absurd (List.drop_eq_nil_of_le h3) h1
    · rw [h2, bAt_drop, Nat.add_zero]

theorem run_same {g : Int → Bool} {m w : List Int} {n : Nat} (hg : ∀ c, blankB c = true → g c = false) (S : Same m n w) (k : Nat) (hk : k ≤ n) (hr : runL g (m.drop k) = n - k) : runL g (w.drop k) = n - k := by
  refine runL_eq g _ _ (by rw [List.length_drop]; have := S.wlen; omega) (fun i hi => ?_) (fun h => ?_)
  · rw [bAt_drop, S.at_ _ (by omega), ← bAt_drop]
    exact runL_in g _ _ (by omega)
  · rw [List.length_drop] at h
    rw [bAt_drop, show k + (n - k) = n by omega]
    rcases S.stop (by omega) with h1 | ⟨h1, h2⟩
    · exact hg _ h1
    · rw [h2]
      have := runL_stop g (m.drop k) (by rw [hr, List.length_drop]; omega)
      rwa [hr, bAt_drop, show k + (n - k) = n by omega] at this
theorem word_stop {m w : List Int} {n : Nat} (S : Same m n w) (h : ¬ (n < m.length ∧ wordyB (bAt m n) = true)) : ¬ (n < w.length ∧ wordyB (bAt w n) = true) := by
  rintro ⟨h1, h2⟩
  rcases S.stop h1 with h3 | ⟨h3, h4⟩
  · rw [(blank_not h3).1] at h2; cases h2
  · rw [h4] at h2; exact h ⟨h3, h2⟩

/-! ### Quotes -/
theorem esc_same {x y : List Int} {c : Int} {k : Nat} (h : escL x = some (c, k)) (hy : k ≤ y.length) (he : ∀ i, i < k → bAt y i = bAt x i) : escL y = some (c, k) := by
  have hk := escL_le h
  unfold escL at h ⊢
  rw [if_neg (by omega)]
  split at h
  · cases h
  · rw [he 0 (by omega)]
    split at h
    · exact h
    · rename_i hn
      split at h
      · rename_i h3
        injection h with h
        injection h with h1 h2
        subst h2
        rw [if_pos ⟨by omega, h3.2.1, by rw [he 1 (by omega)]; exact h3.2.2.1, by rw [he 2 (by omega)]; exact h3.2.2.2⟩, he 1 (by omega), he 2 (by omega), h1]
      · cases h
theorem qStep_same {x y : List Int} {c : Int} {k : Nat} (h : qStep x = .put c k) (hy : k ≤ y.length) (he : ∀ i, i < k → bAt y i = bAt x i) : qStep y = .put c k := by
  have hk := qStep_le h
  unfold qStep at h ⊢
  rw [if_neg (by omega), he 0 (by omega)]
  split at h
  · cases h
  · split at h
    · cases h
    · rename_i h34
      rw [if_neg h34]
      split at h
      · rename_i h92
        rw [if_pos h92]
        split at h
        · rename_i c' n' hes
          injection h with h1 h2
          subst h2
          have := esc_same hes (y := y.drop 1) (by rw [List.length_drop]; omega) (fun i hi => by rw [bAt_drop, bAt_drop]; exact he _ (by omega))
          rw [this, h1]
        · cases h
      · rename_i h92
        rw [if_neg h92]
        exact h
theorem quotes_same : ∀ (N : Nat) (x y : List Int) (b : List Int) (n : Nat), x.length ≤ N → quotesL x = some (b, n) → n ≤ y.length → (∀ i, i < n → bAt y i = bAt x i) → quotesL y = some (b, n)
  | 0, x, y, b, n, hx, h, hy, he => by
    obtain rfl : x = [] := List.eq_nil_of_length_eq_zero (by omega)
    rw [quotesL_bad rfl] at h; cases h
  | N + 1, x, y, b, n, hx, h, hy, he => by
    cases hq : qStep x with
    | stop =>
      rw [quotesL_stop hq] at h
      injection h with h; injection h with h1 h2
      subst h1; subst h2
      have h34 : x.length ≠ 0 ∧ bAt x 0 = 34 := by
        unfold qStep at hq
        split at hq
        · cases hq
        · rename_i h0
          split at hq
          · rename_i h1; exact ⟨h0, h1⟩
          · split at hq
            · split at hq <;> cases hq
            · split at hq <;> cases hq
      exact quotesL_stop (by unfold qStep; rw [if_neg (by omega), if_pos (by rw [he 0 (by omega)]; exact h34.2)])
    | bad => rw [quotesL_bad hq] at h; cases h
    | put c k =>
      have hk := qStep_le hq
      rw [quotesL_put hq] at h
      cases hr : quotesL (x.drop k) with
      | none => rw [hr] at h; cases h
      | some p =>
        obtain ⟨b', n'⟩ := p
        rw [hr] at h
        injection h with h
        injection h with h1 h2
        simp only at h1 h2
        subst h1; subst h2
        have := quotes_same N (x.drop k) (y.drop k) b' n' (by rw [List.length_drop]; omega) hr (by rw [List.length_drop]; omega) (fun i hi => by rw [bAt_drop, bAt_drop]; exact he _ (by omega))
        rw [quotesL_put (qStep_same hq (by omega) (fun i hi => he i (by omega))), this]
        rfl

/-! ### Numbers -/
theorem drop_take_same {m w : List Int} {n : Nat} (S : Same m n w) (k : Nat) : (w.drop k).take (n - k) = (m.drop k).take (n - k) := by
  rw [← List.drop_take, ← List.drop_take, S.tak]
theorem head_same {m w : List Int} {n : Nat} (S : Same m n w) (h1 : 1 ≤ n) (h2 : headL m ≤ n) (h3 : n = 1 → headL m = 0) : headL w = headL m ∧ baseL w = baseL m := by
  have e0 := S.at_ 0 (by omega)
  rcases Nat.lt_or_ge 1 n with h | h
  · have e1 := S.at_ 1 h
    have l1 : 1 < m.length := by have := S.len; omega
    have l2 : 1 < w.length := by have := S.wlen; omega
    unfold headL baseL
    simp only [e0, e1, l1, l2, true_and, and_self]
  · obtain rfl : n = 1 := by omega
    have hm := h3 rfl
    have hnm : ¬ (1 < m.length ∧ bAt m 0 = 48 ∧ (bAt m 1 = 120 ∨ bAt m 1 = 98)) := by
      intro hc
      unfold headL at hm
      rw [if_pos hc] at hm
      cases hm
    have hnw : ¬ (1 < w.length ∧ bAt w 0 = 48 ∧ (bAt w 1 = 120 ∨ bAt w 1 = 98)) := by
      rintro ⟨c1, c2, c3⟩
      rcases S.stop c1 with h4 | ⟨h4, h5⟩
      · have := blank_not h4
        omega
      · exact hnm ⟨h4, by rw [← e0]; exact c2, by rw [← h5]; exact c3⟩
    constructor
    · unfold headL; rw [if_neg hnw, if_neg hnm]
    · unfold baseL
      rw [if_neg (fun h => hnw ⟨h.1, h.2.1, .inl h.2.2⟩), if_neg (fun h => hnw ⟨h.1, h.2.1, .inr h.2.2⟩), if_neg (fun h => hnm ⟨h.1, h.2.1, .inl h.2.2⟩), if_neg (fun h => hnm ⟨h.1, h.2.1, .inr h.2.2⟩)]
theorem base_le (m : List Int) : baseL m ≤ 16 := by unfold baseL; split <;> (try split) <;> omega
theorem number_same {m w : List Int} {n : Nat} (S : Same m n w) (h0 : n ≠ 0) (hn : (numberL m).2 = n) : numberL w = numberL m := by
  have e0 := S.at_ 0 (by omega)
  by_cases hq : bAt m 0 = 39
  · have hm : numberL m = if 3 ≤ m.length ∧ bAt m 2 = 39 ∧ shownB (bAt m 1) = true ∧ bAt m 1 ≠ 39 ∧ bAt m 1 ≠ 92 then (bAt m 1, 3) else (0, 0) := by unfold numberL; rw [if_pos hq]
    have hw : numberL w = if 3 ≤ w.length ∧ bAt w 2 = 39 ∧ shownB (bAt w 1) = true ∧ bAt w 1 ≠ 39 ∧ bAt w 1 ≠ 92 then (bAt w 1, 3) else (0, 0) := by unfold numberL; rw [if_pos (by rw [e0]; exact hq)]
    by_cases hc : 3 ≤ m.length ∧ bAt m 2 = 39 ∧ shownB (bAt m 1) = true ∧ bAt m 1 ≠ 39 ∧ bAt m 1 ≠ 92
    · rw [if_pos hc] at hm
      rw [hm] at hn
      simp only at hn
      subst hn
      rw [hw, hm, S.at_ 1 (by omega), S.at_ 2 (by omega), if_pos ⟨S.wlen, hc.2⟩]
    · rw [if_neg hc] at hm
      rw [hm] at hn
      exact absurd hn.symm h0
  · obtain ⟨r, hr⟩ : ∃ r, hexRun (baseL m) (m.drop (headL m)) = r := ⟨_, rfl⟩
    have hm : numberL m = if r = 0 ∨ headL m = 0 ∧ 1 < r ∧ bAt m 0 = 48 then (0, 0) else if 18446744073709551616 ≤ natL (baseL m) ((m.drop (headL m)).take r) then (0, 0) else (natL (baseL m) ((m.drop (headL m)).take r), headL m + r) := by
      unfold numberL; rw [if_neg hq, hr]
    by_cases c1 : r = 0 ∨ headL m = 0 ∧ 1 < r ∧ bAt m 0 = 48
    · rw [if_pos c1] at hm; rw [hm] at hn; exact absurd hn.symm h0
    rw [if_neg c1] at hm
    by_cases c2 : 18446744073709551616 ≤ natL (baseL m) ((m.drop (headL m)).take r)
    · rw [if_pos c2] at hm; rw [hm] at hn; exact absurd hn.symm h0
    rw [if_neg c2] at hm
    rw [hm] at hn
    simp only at hn
    have hr0 : 0 < r := by omega
    obtain ⟨g1, g2⟩ := head_same S (by omega) (by omega) (fun h => by omega)
    have hrw : hexRun (baseL m) (w.drop (headL m)) = r := by
      have := run_same (g := fun c => decide (hexB c < baseL m)) (fun c hc => by have := base_le m; rw [(blank_not hc).2.1]; exact decide_eq_false (by omega)) S (headL m) (by omega) (by show hexRun _ _ = _; omega)
      show runL _ _ = _
      omega
    have ht : (w.drop (headL m)).take r = (m.drop (headL m)).take r := by
      have := drop_take_same S (headL m)
      rwa [show n - headL m = r by omega] at this
    rw [hm]
    unfold numberL
    rw [if_neg (by rw [e0]; exact hq), g1, g2, hrw, e0, if_neg c1, ht, if_neg c2]

/-! ### A token with something else behind it -/
theorem sign_head {m : List Int} (h : signL m ≠ 0) : bAt m 0 = 60 ∨ bAt m 0 = 62 ∨ bAt m 0 ∈ signs := by
  unfold signL at h
  split at h
  · rename_i hc; omega
  · split at h
    · rename_i hc; exact .inr (.inr hc.2)
    · exact absurd rfl h
theorem signs_not {c : Int} (h : c ∈ signs) : blankB c = false ∧ c ≠ 60 ∧ c ≠ 62 := by
  unfold signs at h
  simp only [List.mem_cons, List.not_mem_nil, or_false] at h
  rcases h with rfl | rfl | rfl | rfl | rfl | rfl | rfl | rfl | rfl | rfl | rfl | rfl | rfl | rfl | rfl | rfl | rfl | rfl <;> decide
theorem letter_not {c : Int} (h : letterB c = true) : blankB c = false ∧ c ≠ 47 := by
  unfold letterB at h
  unfold blankB
  simp only [decide_eq_true_eq, decide_eq_false_iff_not] at h ⊢
  omega
theorem one_same {m w : List Int} {t : Tok} {n : Nat} (S : Same m n w) (h0 : m.length ≠ 0) (hd : doneL m = false) (h : oneL m = .ok (t, n)) : oneL w = .ok (t, n) ∧ doneL w = false ∧ runL blankB w = 0 := by
  have hn := oneL_le h0 h
  have e0 := S.at_ 0 (by omega)
  have hw0 : 0 < w.length := by have := S.wlen; omega
  have nb : blankB (bAt m 0) = false → runL blankB w = 0 := fun hb => runL_eq _ _ _ (Nat.zero_le _) (fun i hi => absurd hi (Nat.not_lt_zero _)) (fun _ => by rw [e0]; exact hb)
  have dn : (bAt m 0 = 47 → n = 1) → doneL w = false := by
    intro h47
    unfold doneL at hd ⊢
    rw [decide_eq_false (show ¬ m.length = 0 from h0), Bool.false_or] at hd
    rw [decide_eq_false (show ¬ w.length = 0 by omega), Bool.false_or]
    rw [Bool.eq_false_iff]
    intro hc
    simp only [Bool.and_eq_true, decide_eq_true_eq] at hc
    obtain ⟨⟨c1, c2⟩, c3⟩ := hc
    have hn1 := h47 (by rw [← e0]; exact c2)
    subst hn1
    rcases S.stop c1 with h4 | ⟨h4, h5⟩
    · exact (blank_not h4).2.2.2.2 c3
    · rw [← e0, ← h5, c2, c3] at hd
      rw [decide_eq_true h4] at hd
      cases hd
  unfold oneL at h ⊢
  rw [e0]
  split at h
  · rename_i hl
    injection h with h; injection h with h1 h2
    rw [if_pos hl]
    have hr : runL wordyB w = n := by
      have := run_same (g := wordyB) (fun c hc => (blank_not hc).1) S 0 (by omega) (by rw [List.drop_zero]; omega)
      rwa [List.drop_zero, Nat.sub_zero] at this
    rw [hr, ← h1, h2, S.tak]
    exact ⟨rfl, dn (fun e => absurd e (letter_not hl).2), nb (letter_not hl).1⟩
  · rename_i hl
    rw [if_neg hl]
    split at h
    · rename_i hdg
      rw [if_pos hdg]
      split at h
      · cases h
      · rename_i hc
        injection h with h; injection h with h1 h2
        have hN := number_same S (by omega) h2
        have hb : blankB (bAt m 0) = false ∧ bAt m 0 ≠ 47 := by
          unfold digitB at hdg
          unfold blankB
          simp only [decide_eq_true_eq, decide_eq_false_iff_not] at hdg ⊢
          omega
        rw [hN, if_neg ?_, h1, h2]
        · exact ⟨rfl, dn (fun e => absurd e hb.2), nb hb.1⟩
        · rw [h2] at hc ⊢
          rintro (hc2 | hc2)
          · omega
          · exact word_stop S (fun h => hc (.inr h)) hc2
    · rename_i hdg
      rw [if_neg hdg]
      split at h
      · rename_i h34
        rw [if_pos h34]
        split at h
        · cases h
        · rename_i hc
          injection h with h; injection h with h1 h2
          have hQ : quotesF w = quotesF m := by
            unfold quotesF at h2 ⊢
            cases hq : quotesL (m.drop 1) with
            | none => rw [hq] at h2; simp only at h2; omega
            | some p =>
              obtain ⟨b, k⟩ := p
              rw [hq] at h2
              simp only at h2
              have := quotes_same _ (m.drop 1) (w.drop 1) b k (Nat.le_refl _) hq (by rw [List.length_drop]; have := S.wlen; omega) (fun i hi => by rw [bAt_drop, bAt_drop]; exact S.at_ _ (by omega))
              rw [this]
          rw [hQ, if_neg hc, h1, h2]
          exact ⟨rfl, dn (fun e => by omega), nb (by rw [h34]; rfl)⟩
      · rename_i h34
        rw [if_neg h34]
        split at h
        · cases h
        · rename_i hc
          injection h with h; injection h with h1 h2
          have hsg := sign_head hc
          have hbn : blankB (bAt m 0) = false := by
            rcases hsg with e | e | e
            · rw [e]; rfl
            · rw [e]; rfl
            · exact (signs_not e).1
          have hS : signL w = signL m := by
            by_cases c1 : 1 < m.length ∧ (bAt m 0 = 60 ∧ bAt m 1 = 60 ∨ bAt m 0 = 62 ∧ bAt m 1 = 62)
            · have hm : signL m = 2 := by unfold signL; rw [if_pos c1]
              have e1 := S.at_ 1 (by omega)
              rw [hm]
              unfold signL
              rw [if_pos ⟨by have := S.wlen; omega, by rw [e0, e1]; exact c1.2⟩]
            · have c2 : 0 < m.length ∧ bAt m 0 ∈ signs := by
                unfold signL at hc
                rw [if_neg c1] at hc
                split at hc
                · assumption
                · exact absurd rfl hc
              have hm : signL m = 1 := by unfold signL; rw [if_neg c1, if_pos c2]
              have := signs_not c2.2
              rw [hm]
              unfold signL
              rw [if_neg (by rw [e0]; omega), if_pos ⟨hw0, by rw [e0]; exact c2.2⟩]
          rw [hS, if_neg hc, h2, S.tak, ← h1, h2]
          refine ⟨rfl, dn (fun e => ?_), nb hbn⟩
          rw [← h2]
          unfold signL
          rw [if_neg (by omega), if_pos ⟨by omega, by rw [e]; decide⟩]

/-! ### Blanks ahead -/
theorem run_app {bs x : List Int} (h : ∀ c ∈ bs, blankB c = true) : runL blankB (bs ++ x) = bs.length + runL blankB x := by
  induction bs with
  | nil => simp
  | cons c bs ih =>
    rw [List.cons_append, runL_cons, if_pos (h c (by simp)), ih (fun c hc => h c (by simp [hc])), List.length_cons]
    omega
theorem tokens_blanks {bs x : List Int} (h : ∀ c ∈ bs, blankB c = true) (q : Nat) : tokensL q (bs ++ x) = tokensL (q + bs.length) x := by
  have hr := run_app (x := x) h
  have hd : ∀ k, (bs ++ x).drop (bs.length + k) = x.drop k := fun k => by rw [← List.drop_drop, List.drop_left]
  cases hdn : doneL (x.drop (runL blankB x)) with
  | true =>
    rw [tokensL_done (l := x) hdn, tokensL_done (l := bs ++ x) (by rw [hr, hd]; exact hdn), List.length_append, Nat.add_assoc]
  | false =>
    rcases ho : oneL (x.drop (runL blankB x)) with e | ⟨t, n⟩
    · rw [tokensL_error (l := x) hdn ho, tokensL_error (l := bs ++ x) (by rw [hr, hd]; exact hdn) (by rw [hr, hd]; exact ho), hr, Nat.add_assoc]
    · rw [tokensL_ok (l := x) hdn ho, tokensL_ok (l := bs ++ x) (by rw [hr, hd]; exact hdn) (by rw [hr, hd]; exact ho), hr, Nat.add_assoc bs.length, hd]
      simp only [Nat.add_assoc]
theorem tokens_tok {w : List Int} {t : Tok} {n : Nat} (h1 : runL blankB w = 0) (h2 : doneL w = false) (h3 : oneL w = .ok (t, n)) (q : Nat) : tokensL q w = ({ t with pos := (q : Int) } :: (tokensL (q + n) (w.drop n)).1, (tokensL (q + n) (w.drop n)).2) := by
  have := tokensL_ok (p := q) (l := w) (t := t) (n := n) (by rw [h1]; exact h2) (by rw [h1]; exact h3)
  rw [h1, Nat.zero_add, Nat.add_zero] at this
  exact this
theorem blank_take (m : List Int) : ∀ c ∈ m.take (runL blankB m), blankB c = true := by
  intro c hc
  obtain ⟨i, hi, rfl⟩ := List.mem_iff_getElem.1 hc
  rw [List.length_take] at hi
  have := runL_in blankB m i (by omega)
  rw [List.getElem_take]
  have hg := bAt_get (l := m) (i := i) (by omega)
  rw [List.getElem?_eq_getElem (by omega)] at hg
  injection hg with hg
  rw [hg]
  exact this

def bare (t : Tok) : Tok := { t with pos := 0 }
/-- where the piece of a token ends -/
def endP (l : List Int) : List Tok → Nat
  | [] => l.length
  | t :: _ => t.pos.toNat
/-- the pieces of a line, each behind its blanks -/
def pcs (l : List Int) (bl : Nat → List Int) : Nat → List Tok → List Int
  | _, [] => []
  | i, t :: ts => bl i ++ ((l.drop t.pos.toNat).take (endP l ts - t.pos.toNat) ++ pcs l bl (i + 1) ts)

/-- how the tokens of a line begin -/
theorem tokens_cons {p : Nat} {m : List Int} {t : Tok} {ts : List Tok} {n : Nat} {e : Int} (h : tokensL p m = (t :: ts, n, e)) : ∃ t0 n1, doneL (m.drop (runL blankB m)) = false ∧ oneL (m.drop (runL blankB m)) = .ok (t0, n1) ∧ t = { t0 with pos := ((p + runL blankB m : Nat) : Int) } ∧ tokensL (p + runL blankB m + n1) (m.drop (runL blankB m + n1)) = (ts, n, e) := by
  cases hdn : doneL (m.drop (runL blankB m)) with
  | true => rw [tokensL_done hdn] at h; cases h
  | false =>
    rcases ho : oneL (m.drop (runL blankB m)) with e' | ⟨t0, n1⟩
    · rw [tokensL_error hdn ho] at h; cases h
    · rw [tokensL_ok hdn ho] at h
      injection h with h1 h2
      injection h1 with h1 h3
      exact ⟨t0, n1, rfl, rfl, h1.symm, Prod.ext h3 h2⟩
theorem tokens_nil {p : Nat} {m : List Int} {n : Nat} (h : tokensL p m = ([], n, 0)) (he : ∀ l e, oneL l = .error e → e ≠ 0) : doneL (m.drop (runL blankB m)) = true := by
  cases hdn : doneL (m.drop (runL blankB m)) with
  | true => rfl
  | false =>
    rcases ho : oneL (m.drop (runL blankB m)) with e' | ⟨t0, n1⟩
    · rw [tokensL_error hdn ho] at h
      injection h with h1 h2
      injection h2 with h2 h3
      exact absurd h3 (he _ _ ho)
    · rw [tokensL_ok hdn ho] at h; cases h
theorem done_tail {m tail : List Int} (h : doneL (m.drop (runL blankB m)) = true) (ht : ∃ r, tail = 32 :: 47 :: 47 :: r) (q : Nat) : (tokensL q (m ++ tail)).1 = [] ∧ (tokensL q (m ++ tail)).2.2 = 0 := by
  obtain ⟨r, rfl⟩ := ht
  have hs : m ++ 32 :: 47 :: 47 :: r = m.take (runL blankB m) ++ (m.drop (runL blankB m) ++ 32 :: 47 :: 47 :: r) := by rw [← List.append_assoc, List.take_append_drop]
  rw [hs, tokens_blanks (blank_take m)]
  obtain ⟨x, hx⟩ : ∃ x, m.drop (runL blankB m) = x := ⟨_, rfl⟩
  rw [hx] at h ⊢
  have hslash : ∀ (p : Nat) (y : List Int), (tokensL p (47 :: 47 :: y)).1 = [] ∧ (tokensL p (47 :: 47 :: y)).2.2 = 0 := by
    intro p y
    have hb : runL blankB (47 :: 47 :: y) = 0 := by rw [runL_cons]; rfl
    rw [tokensL_done (by rw [hb, List.drop_zero]; unfold doneL; simp [bAt])]
    exact ⟨rfl, rfl⟩
  unfold doneL at h
  simp only [Bool.or_eq_true, Bool.and_eq_true, decide_eq_true_eq] at h
  match x, h with
  | [], _ =>
    have := tokens_blanks (bs := [32]) (x := 47 :: 47 :: r) (by simp [blankB]) (q + (m.take (runL blankB m)).length)
    rw [List.nil_append, show (32 : Int) :: 47 :: 47 :: r = [32] ++ 47 :: 47 :: r from rfl, this]
    exact hslash _ _
  | [a], h => simp at h
  | a :: b :: y, h =>
    have h2 : a = 47 ∧ b = 47 := by
      rcases h with h | ⟨⟨_, h1⟩, h2⟩
      · simp at h
      · exact ⟨h1, h2⟩
    obtain ⟨rfl, rfl⟩ := h2
    exact hslash _ _

theorem relex {l : List Int} {bl : Nat → List Int} {tail : List Int} (hbl : ∀ i, ∀ c ∈ bl i, blankB c = true) (ht : ∃ r, tail = 32 :: 47 :: 47 :: r) (he : ∀ l e, oneL l = .error e → e ≠ 0) :
    ∀ (ts : List Tok) (t : Tok) (p : Nat) (i n : Nat), p ≤ l.length → tokensL p (l.drop p) = (t :: ts, n, 0) → ∀ q, (tokensL q (pcs l bl i (t :: ts) ++ tail)).1.map bare = (t :: ts).map bare ∧ (tokensL q (pcs l bl i (t :: ts) ++ tail)).2.2 = 0
  | ts, t, p, i, n, hp, h, q => by
    obtain ⟨t0, n1, hd, ho, rfl, hr⟩ := tokens_cons h
    obtain ⟨k, hk⟩ : ∃ k, runL blankB (l.drop p) = k := ⟨_, rfl⟩
    rw [hk] at hd ho hr ⊢
    rw [List.drop_drop] at hd ho hr
    rw [← Nat.add_assoc] at hr
    obtain ⟨m1, hm1⟩ : ∃ m1, l.drop (p + k) = m1 := ⟨_, rfl⟩
    rw [hm1] at hd ho
    have h0 : m1.length ≠ 0 := fun e => by
      have : doneL m1 = true := by unfold doneL; rw [e]; rfl
      rw [this] at hd; cases hd
    have hn := oneL_le h0 ho
    have hl1 : m1.length = l.length - (p + k) := by rw [← hm1, List.length_drop]
    have hdd : l.drop (p + k + n1) = m1.drop n1 := by rw [← List.drop_drop, hm1]
    have hpos : (((p + k : Nat) : Int)).toNat = p + k := Int.toNat_natCast _
    rw [pcs, hpos, hm1, List.append_assoc, tokens_blanks (hbl i)]
    generalize q + (bl i).length = q2
    cases ts with
    | nil =>
      rw [pcs, List.append_nil, endP, List.take_of_length_le (by omega)]
      have hB : Behind (m1.drop n1) (m1.drop n1 ++ tail) := by
        obtain ⟨r, rfl⟩ := ht
        cases hx : m1.drop n1 with
        | nil => exact .inr (.inl rfl)
        | cons c y => exact .inr (.inr ⟨by simp, rfl⟩)
      obtain ⟨g1, g2, g3⟩ := one_same (same_of hn.2 hB) h0 hd ho
      rw [show m1.take n1 ++ (m1.drop n1 ++ tail) = m1 ++ tail by rw [← List.append_assoc, List.take_append_drop]] at g1 g2 g3
      rw [tokens_tok g3 g2 g1]
      have hdr : (m1 ++ tail).drop n1 = m1.drop n1 ++ tail := List.drop_append_of_le_length hn.2
      rw [hdr]
      rw [hdd] at hr
      obtain ⟨f1, f2⟩ := done_tail (tokens_nil hr he) ht (q2 + n1)
      exact ⟨by simp only [List.map_cons, f1, List.map_nil]; rfl, f2⟩
    | cons t2 ts2 =>
      obtain ⟨t20, n2, hd2, ho2, e2, hr2⟩ := tokens_cons hr
      obtain ⟨k2, hk2⟩ : ∃ k2, runL blankB (l.drop (p + k + n1)) = k2 := ⟨_, rfl⟩
      have hk2l : k2 ≤ m1.length - n1 := by
        have : runL blankB (l.drop (p + k + n1)) ≤ (l.drop (p + k + n1)).length := runL_le _ _
        rw [hdd, List.length_drop] at this
        rw [← hk2, hdd]; exact this
      have ep : endP l (t2 :: ts2) - (p + k) = n1 + k2 := by
        unfold endP
        rw [e2, hk2]
        simp only [Int.toNat_natCast]
        omega
      rw [ep]
      have htk : m1.take (n1 + k2) = m1.take n1 ++ (m1.drop n1).take k2 := by rw [List.take_add]
      have hbk : ∀ c ∈ (m1.drop n1).take k2, blankB c = true := by rw [← hdd, ← hk2]; exact blank_take _
      rw [htk, List.append_assoc, List.append_assoc]
      have hne : m1.drop n1 ≠ [] := by
        intro e
        have : doneL ((l.drop (p + k + n1)).drop (runL blankB (l.drop (p + k + n1)))) = true := by rw [hdd, e]; rfl
        rw [this] at hd2; cases hd2
      have hn1 : n1 < m1.length := by
        rcases Nat.lt_or_ge n1 m1.length with h1 | h1
        · exact h1
        · exact absurd (List.drop_eq_nil_of_le h1) hne
      have hB : Behind (m1.drop n1) ((m1.drop n1).take k2 ++ (pcs l bl (i + 1) (t2 :: ts2) ++ tail)) := by
        rcases Nat.eq_zero_or_pos k2 with z | z
        · subst z
          rw [List.take_zero, List.nil_append, pcs]
          cases hb : bl (i + 1) with
          | cons c y => exact .inr (.inl (hbl (i + 1) c (by rw [hb]; simp)))
          | nil =>
            refine .inr (.inr ⟨hne, ?_⟩)
            have hp2 : t2.pos.toNat = p + k + n1 := by rw [e2, hk2]; simp only [Int.toNat_natCast, Nat.add_zero]
            rw [List.nil_append, hp2, hdd, List.append_assoc]
            -- the next token's piece is not empty
            have hn2 := oneL_le (l := (l.drop (p + k + n1)).drop (runL blankB (l.drop (p + k + n1)))) (fun e => by
              have : doneL ((l.drop (p + k + n1)).drop (runL blankB (l.drop (p + k + n1)))) = true := by unfold doneL; rw [e]; rfl
              rw [this] at hd2; cases hd2) ho2
            have hend : 0 < endP l ts2 - (p + k + n1) := by
              cases ts2 with
              | nil => show 0 < l.length - (p + k + n1); omega
              | cons t3 ts3 =>
                obtain ⟨_, n3, _, _, e3, _⟩ := tokens_cons hr2
                show 0 < t3.pos.toNat - (p + k + n1)
                rw [e3]
                simp only [Int.toNat_natCast]
                omega
            have hl3 : 0 < ((m1.drop n1).take (endP l ts2 - (p + k + n1))).length := by rw [List.length_take, List.length_drop]; omega
            rw [bAt_app hl3, bAt_take hend]
        · have hl3 : 0 < ((m1.drop n1).take k2).length := by rw [List.length_take, List.length_drop]; omega
          exact .inr (.inr ⟨hne, by rw [bAt_app hl3, bAt_take z]⟩)
      obtain ⟨g1, g2, g3⟩ := one_same (same_of hn.2 hB) h0 hd ho
      rw [tokens_tok g3 g2 g1]
      have hdr : (m1.take n1 ++ ((m1.drop n1).take k2 ++ (pcs l bl (i + 1) (t2 :: ts2) ++ tail))).drop n1 = (m1.drop n1).take k2 ++ (pcs l bl (i + 1) (t2 :: ts2) ++ tail) := by
        have : (m1.take n1).length = n1 := by rw [List.length_take]; omega
        rw [List.drop_append_of_le_length (by omega), List.drop_of_length_le (by omega), List.nil_append]
      rw [hdr, tokens_blanks hbk]
      have ih := relex (tail := tail) hbl ht he ts2 t2 (p + k + n1) (i + 1) n (by omega) hr (q2 + n1 + ((m1.drop n1).take k2).length)
      exact ⟨by rw [List.map_cons, ih.1]; rfl, ih.2⟩
termination_by ts => ts.length

/-! ### Places -/
def Placed (l : List Int) : List Tok → Prop
  | [] => True
  | t :: ts => (∃ a : Nat, t.pos = (a : Int) ∧ a ≤ endP l ts) ∧ endP l ts ≤ l.length ∧ Placed l ts
theorem tokens_good {l : List Int} : ∀ (ts : List Tok) (p n : Nat) (e : Int), p ≤ l.length → tokensL p (l.drop p) = (ts, n, e) → Placed l ts ∧ p ≤ endP l ts ∧ endP l ts ≤ l.length ∧ ts.length ≤ l.length - p
  | [], p, n, e, hp, h => ⟨trivial, hp, Nat.le_refl _, Nat.zero_le _⟩
  | t :: ts, p, n, e, hp, h => by
    obtain ⟨t0, n1, hd, ho, rfl, hr⟩ := tokens_cons h
    have hk : runL blankB (l.drop p) ≤ (l.drop p).length := runL_le _ _
    rw [List.length_drop] at hk
    have h0 : ((l.drop p).drop (runL blankB (l.drop p))).length ≠ 0 := fun e => by
      have : doneL ((l.drop p).drop (runL blankB (l.drop p))) = true := by unfold doneL; rw [e]; rfl
      rw [this] at hd; cases hd
    have hn := oneL_le h0 ho
    rw [List.length_drop, List.length_drop] at hn
    rw [List.drop_drop, ← Nat.add_assoc] at hr
    obtain ⟨g1, g2, g3, g4⟩ := tokens_good ts (p + runL blankB (l.drop p) + n1) n e (by omega) hr
    refine ⟨⟨⟨_, rfl, by omega⟩, g3, g1⟩, ?_, ?_, ?_⟩
    · show p ≤ (((p + runL blankB (l.drop p) : Nat) : Int)).toNat
      rw [Int.toNat_natCast]; omega
    · show (((p + runL blankB (l.drop p) : Nat) : Int)).toNat ≤ _
      rw [Int.toNat_natCast]; omega
    · rw [List.length_cons]; omega
theorem good_drop {l : List Int} : ∀ {ts : List Tok} (i : Nat), Placed l ts → Placed l (ts.drop i)
  | ts, 0, h => by rw [List.drop_zero]; exact h
  | [], i + 1, h => by rw [List.drop_nil]; exact h
  | t :: ts, i + 1, h => good_drop i h.2.2
theorem good_at {l : List Int} {ts : List Tok} {i : Nat} {t : Tok} (h : Placed l ts) (ht : ts[i]? = some t) : ∃ a : Nat, t.pos = (a : Int) ∧ a ≤ endP l (ts.drop (i + 1)) ∧ endP l (ts.drop (i + 1)) ≤ l.length ∧ ts.drop i = t :: ts.drop (i + 1) := by
  have hi := (List.getElem?_eq_some_iff.1 ht).1
  have e : ts.drop i = t :: ts.drop (i + 1) := by
    rw [List.drop_eq_getElem_cons hi]
    rw [List.getElem?_eq_getElem hi] at ht
    injection ht with ht
    rw [ht]
  have := good_drop i h
  rw [e] at this
  obtain ⟨⟨a, h1, h2⟩, h3, _⟩ := this
  exact ⟨a, h1, h2, h3, e⟩
theorem good_next {l : List Int} {ts : List Tok} {i : Nat} {t : Tok} (h : Placed l ts) (ht : ts[i]? = some t) : t.pos = ((endP l (ts.drop i) : Nat) : Int) := by
  obtain ⟨a, h1, _, _, e⟩ := good_at h ht
  rw [e]
  show t.pos = ((t.pos.toNat : Nat) : Int)
  rw [h1, Int.toNat_natCast]

/-! ### The blanks that are laid between -/
def blks (bl : List Int) (i : Nat) : List Int := if bl.length = 0 then [] else ([32, 9, 32, 32] : List Int).take ((bl.getD (i % bl.length) 0) % 4).toNat
theorem blks_blank (bl : List Int) : ∀ i, ∀ c ∈ blks bl i, blankB c = true := by
  intro i c hc
  unfold blks at hc
  split at hc
  · cases hc
  · have := List.mem_of_mem_take hc
    simp only [List.mem_cons, List.not_mem_nil, or_false] at this
    rcases this with rfl | rfl | rfl | rfl <;> rfl
theorem pcs_drop {l : List Int} {bl : Nat → List Int} {ts : List Tok} {i : Nat} {t : Tok} (h : ts.drop i = t :: ts.drop (i + 1)) : pcs l bl i (ts.drop i) = bl i ++ ((l.drop t.pos.toNat).take (endP l (ts.drop (i + 1)) - t.pos.toNat) ++ pcs l bl (i + 1) (ts.drop (i + 1))) := by
  rw [h]; rfl

end Go.Proofs.YtcdbldakjepjiaaDoor
