/- Lines: the tokens of a line may be, and they begin at rising places. No program in sight. -/
import Derived.Test.YtcdbldakjepjiaaDoorLQ
set_option linter.unusedVariables false
set_option linter.unusedSimpArgs false
namespace Go.Proofs.YtcdbldakjepjiaaDoor
open Go.RowKit

theorem quotes_len : ∀ (N : Nat) (x b : List Int) (n : Nat), x.length ≤ N → quotesL x = some (b, n) → b.length + 1 ≤ n
  | 0, x, b, n, hx, h => by
    obtain rfl : x = [] := List.eq_nil_of_length_eq_zero (by omega)
    rw [quotesL_bad rfl] at h; cases h
  | N + 1, x, b, n, hx, h => by
    cases hq : qStep x with
    | stop =>
      rw [quotesL_stop hq] at h
      injection h with h; injection h with h1 h2
      subst h1; subst h2
      exact Nat.le_refl _
    | bad => rw [quotesL_bad hq] at h; cases h
    | put c k =>
      have hk := qStep_le hq
      rw [quotesL_put hq] at h
      cases hr : quotesL (x.drop k) with
      | none => rw [hr] at h; cases h
      | some p =>
        obtain ⟨b', n'⟩ := p
        rw [hr] at h
        injection h with h
        injection h with h1 h2
        simp only at h1 h2
        subst h1; subst h2
        have := quotes_len N (x.drop k) b' n' (by rw [List.length_drop]; omega) hr
        rw [List.length_cons]
        omega

theorem take_rng {m : List Int} (hr : ∀ z ∈ m, 0 ≤ z ∧ z ≤ 255) (n : Nat) : toBytes (ofBytes (m.take n)) = m.take n := toBytes_ofBytes fun z hz => hr z (List.mem_of_mem_take hz)
theorem take_size (m : List Int) (n : Nat) : (ofBytes (m.take n)).size = min n m.length := by rw [ofBytes_size, List.length_take]

theorem one_may {m : List Int} (hr : ∀ z ∈ m, 0 ≤ z ∧ z ≤ 255) (hl : m.length ≤ 512) (h0 : m.length ≠ 0) {t : Tok} {n : Nat} (h : oneL m = .ok (t, n)) : isT t = true ∧ (t.n = 0 ∨ t.kind = 2) := by
  have hn := oneL_le h0 h
  unfold oneL at h
  split at h
  · rename_i hl
    injection h with h; injection h with h1 h2
    subst h1
    refine ⟨?_, .inl rfl⟩
    unfold isT
    rw [if_pos rfl]
    simp only [take_rng hr]
    unfold nameL
    have h2' : runL wordyB m = n := h2
    have hlen : (m.take (runL wordyB m)).length = n := by rw [List.length_take]; omega
    have hrun : runL wordyB (m.take (runL wordyB m)) = n := runL_eq _ _ _ (by omega) (fun i hi => by rw [bAt_take (by omega)]; exact runL_in _ _ _ (by omega)) (fun h => by omega)
    rw [hlen, hrun, bAt_take (by omega), hl]
    simp
    omega
  · split at h
    · split at h
      · cases h
      · injection h with h; injection h with h1 h2
        subst h1
        exact ⟨by unfold isT; rw [if_neg (by simp), if_pos rfl]; exact decide_eq_true rfl, .inr rfl⟩
    · split at h
      · split at h
        · cases h
        · rename_i hc
          injection h with h; injection h with h1 h2
          subst h1
          refine ⟨?_, .inl rfl⟩
          unfold isT
          rw [if_neg (by simp), if_neg (by simp), if_pos rfl]
          refine decide_eq_true ?_
          simp only
          rw [ofBytes_size]
          unfold quotesF at hc ⊢
          cases hq : quotesL (m.drop 1) with
          | none => rw [hq] at hc; simp at hc
          | some p =>
            obtain ⟨b, k⟩ := p
            have h1 := quotes_len _ _ _ _ (Nat.le_refl _) hq
            have h2 := quotesL_le _ _ (Nat.le_refl _) hq
            rw [List.length_drop] at h2
            simp only
            omega
      · split at h
        · cases h
        · rename_i hc
          injection h with h; injection h with h1 h2
          subst h1
          refine ⟨?_, .inl rfl⟩
          unfold isT
          rw [if_neg (by simp), if_neg (by simp), if_neg (by simp), if_pos rfl]
          refine decide_eq_true ?_
          simp only
          have hsl := signL_le m
          rw [take_rng hr, take_size, Nat.min_eq_left hsl]
          refine ⟨by omega, ?_⟩
          obtain ⟨w, hw⟩ : ∃ w, m.take (signL m) = w := ⟨_, rfl⟩
          have hwl : w.length = signL m := by rw [← hw, List.length_take]; omega
          have hwa : ∀ i, i < signL m → bAt w i = bAt m i := fun i hi => by rw [← hw]; exact bAt_take hi
          rw [hw]
          by_cases c1 : 1 < m.length ∧ (bAt m 0 = 60 ∧ bAt m 1 = 60 ∨ bAt m 0 = 62 ∧ bAt m 1 = 62)
          · have hm : signL m = 2 := by unfold signL; rw [if_pos c1]
            rw [hm] at hwl hwa
            rw [hm]
            unfold signL
            rw [if_pos ⟨by omega, by rw [hwa 0 (by omega), hwa 1 (by omega)]; exact c1.2⟩]
          · have c2 : 0 < m.length ∧ bAt m 0 ∈ signs := by
              unfold signL at hc
              rw [if_neg c1] at hc
              split at hc
              · assumption
              · exact absurd rfl hc
            have hm : signL m = 1 := by unfold signL; rw [if_neg c1, if_pos c2]
            rw [hm] at hwl hwa
            rw [hm]
            unfold signL
            rw [if_neg (by omega), if_pos ⟨by omega, by rw [hwa 0 (by omega)]; exact c2.2⟩]

theorem one_small {m : List Int} (hl : m.length ≤ 512) (h0 : m.length ≠ 0) {t : Tok} {n : Nat} (h : oneL m = .ok (t, n)) : t.text.size ≤ 512 := by
  have hn := oneL_le h0 h
  unfold oneL at h
  split at h
  · injection h with h; injection h with h1 h2
    subst h1
    simp only
    rw [take_size]; omega
  · split at h
    · split at h
      · cases h
      · injection h with h; injection h with h1 h2
        subst h1
        exact Nat.zero_le _
    · split at h
      · split at h
        · cases h
        · rename_i hc
          injection h with h; injection h with h1 h2
          subst h1
          simp only
          rw [ofBytes_size]
          unfold quotesF at hc ⊢
          cases hq : quotesL (m.drop 1) with
          | none => rw [hq] at hc; simp at hc
          | some p =>
            obtain ⟨b, k⟩ := p
            have h1 := quotes_len _ _ _ _ (Nat.le_refl _) hq
            have h2 := quotesL_le _ _ (Nat.le_refl _) hq
            rw [List.length_drop] at h2
            simp only
            omega
      · split at h
        · cases h
        · injection h with h; injection h with h1 h2
          subst h1
          simp only
          rw [take_size]; omega

/-- places that rise within a line, of tokens that may be -/
def Rises (len : Nat) : Nat → List Tok → Prop
  | _, [] => True
  | p, t :: ts => (checkT t = 0 ∧ t.text.size ≤ 512) ∧ ∃ a : Nat, t.pos = (a : Int) ∧ p ≤ a ∧ a < len ∧ Rises len (a + 1) ts
theorem Rises.mono {len : Nat} : ∀ {ts : List Tok} {p q : Nat}, q ≤ p → Rises len p ts → Rises len q ts
  | [], _, _, _, _ => trivial
  | _ :: _, _, _, hq, ⟨h1, a, h2, h3, h4, h5⟩ => ⟨h1, a, h2, by omega, h4, h5⟩
theorem tokens_rise {l : List Int} (hr : ∀ z ∈ l, 0 ≤ z ∧ z ≤ 255) (hl : l.length ≤ 512) : ∀ (ts : List Tok) (p n : Nat) (e : Int), p ≤ l.length → tokensL p (l.drop p) = (ts, n, e) → Rises l.length p ts
  | [], _, _, _, _, _ => trivial
  | t :: ts, p, n, e, hp, h => by
    obtain ⟨t0, n1, hd, ho, rfl, hrest⟩ := tokens_cons h
    have hk : runL blankB (l.drop p) ≤ (l.drop p).length := runL_le _ _
    rw [List.length_drop] at hk
    have h0 : ((l.drop p).drop (runL blankB (l.drop p))).length ≠ 0 := fun e => by
      have : doneL ((l.drop p).drop (runL blankB (l.drop p))) = true := by unfold doneL; rw [e]; rfl
      rw [this] at hd; cases hd
    have hn := oneL_le h0 ho
    have hm := one_may (fun z hz => hr z (List.mem_of_mem_drop (List.mem_of_mem_drop hz))) (by rw [List.length_drop, List.length_drop]; omega) h0 ho
    rw [List.length_drop, List.length_drop] at hn
    rw [List.drop_drop, ← Nat.add_assoc] at hrest
    have ih := tokens_rise hr hl ts (p + runL blankB (l.drop p) + n1) n e (by omega) hrest
    refine ⟨?_, _, rfl, by omega, by omega, ih.mono (by omega)⟩
    have hsm := one_small (by rw [List.length_drop, List.length_drop]; omega) h0 ho
    refine ⟨?_, hsm⟩
    unfold checkT
    have hi : isT { t0 with pos := ((p + runL blankB (l.drop p) : Nat) : Int) } = isT t0 := rfl
    rw [hi, if_pos ⟨hm.1, Int.natCast_nonneg _, hm.2⟩]
theorem tokens_place {l : List Int} : ∀ (N p : Nat), l.length - p ≤ N → p ≤ l.length → (tokensL p (l.drop p)).2.1 ≤ l.length
  | N, p, hN, hp => by
    have hk : runL blankB (l.drop p) ≤ (l.drop p).length := runL_le _ _
    rw [List.length_drop] at hk
    cases hdn : doneL ((l.drop p).drop (runL blankB (l.drop p))) with
    | true =>
      rw [tokensL_done hdn]
      simp only [List.length_drop]
      omega
    | false =>
      have h0 : ((l.drop p).drop (runL blankB (l.drop p))).length ≠ 0 := fun e => by
        have : doneL ((l.drop p).drop (runL blankB (l.drop p))) = true := by unfold doneL; rw [e]; rfl
        rw [this] at hdn; cases hdn
      rcases ho : oneL ((l.drop p).drop (runL blankB (l.drop p))) with e | ⟨t, n⟩
      · rw [tokensL_error hdn ho]
        show p + _ ≤ _
        omega
      · have hn := oneL_le h0 ho
        rw [List.length_drop, List.length_drop] at hn
        rw [tokensL_ok hdn ho, List.drop_drop, ← Nat.add_assoc]
        match N with
        | 0 => omega
        | N + 1 => exact tokens_place N _ (by omega) (by omega)

end Go.Proofs.YtcdbldakjepjiaaDoor
