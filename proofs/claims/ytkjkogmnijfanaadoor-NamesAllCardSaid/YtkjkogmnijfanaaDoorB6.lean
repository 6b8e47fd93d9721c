/- Names: the reference's way to tell system registers by numbers, as a plain function; that both ways are one. No program in sight. -/
import Derived.Test.YtkjkogmnijfanaaDoorB3
set_option linter.unusedVariables false
set_option linter.unusedSimpArgs false
namespace Go.Proofs.YtkjkogmnijfanaaDoor
open Go.RowKit

theorem splitU_at {c : UInt8} : ∀ (k : Nat) {l : List UInt8}, l[k]? = some c → (∀ j x, j < k → l[j]? = some x → ¬ x = c) → splitU c l = l.take k :: splitU c (l.drop (k + 1))
  | 0, [], h, _ => by cases h
  | 0, x :: r, h, _ => by
    simp only [List.getElem?_cons_zero, Option.some.injEq] at h
    subst h
    simp [splitU]
  | k + 1, [], h, _ => by cases h
  | k + 1, x :: r, h, hn => by
    have hx : ¬ (x == c) = true := by rw [beq_iff_eq]; exact hn 0 x (by omega) rfl
    rw [splitU, if_neg hx, splitU_at k (l := r) (by simpa using h) (fun j y hj hy => hn (j + 1) y (by omega) (by simpa using hy))]
    simp

theorem ext_data (s : ByteArray) (a b : Nat) : (s.extract a b).data.toList = (s.data.toList.drop a).take (b - a) := by
  rw [ByteArray.data_extract, Array.toList_extract, List.extract_eq_take_drop]
theorem ext_tail (s : ByteArray) (a : Nat) : (s.extract a s.size).data.toList = s.data.toList.drop a := by
  rw [ext_data, List.take_of_length_le]
  simp
theorem byteAt_some {s : ByteArray} {i : Nat} (h : i < s.size) : ∃ x : UInt8, s.data.toList[i]? = some x ∧ byteAt s i = x.toNat := by
  have h' : i < s.data.toList.length := by simpa using h
  refine ⟨s.data.toList[i], List.getElem?_eq_getElem h', ?_⟩
  unfold byteAt
  simp [List.getD_eq_getElem?_getD, List.getElem?_eq_getElem h']

theorem splitF_at {s : ByteArray} {a i : Nat} (hai : a ≤ i) (hi : i < s.size) (hb : byteAt s i = 95) (hn : ∀ j, a ≤ j → j < i → ¬ byteAt s j = 95) : splitF (s.extract a s.size) us = s.extract a i :: splitF (s.extract (i + 1) s.size) us := by
  unfold splitF
  have hu : hdU us = 95 := rfl
  rw [hu, ext_tail, ext_tail, splitU_at (i - a) (c := 95) ?_ ?_, List.map_cons]
  · congr 1
    · apply ByteArray.ext
      rw [← Array.toList_inj, ext_data]
    · rw [List.drop_drop, show a + (i - a + 1) = i + 1 by omega]
  · rw [List.getElem?_drop, show a + (i - a) = i by omega]
    obtain ⟨x, h1, h2⟩ := byteAt_some hi
    rw [h1]
    congr 1
    apply UInt8.toNat_inj.1
    show x.toNat = 95
    omega
  · intro j x hj hx hxc
    rw [List.getElem?_drop] at hx
    have hlt : a + j < s.size := by omega
    obtain ⟨y, h1, h2⟩ := byteAt_some hlt
    rw [h1] at hx
    injection hx with hx
    subst hx
    exact hn (a + j) (by omega) (by omega) (by rw [h2, hxc]; rfl)

theorem splitF_end {s : ByteArray} {a : Nat} (hn : ∀ j, a ≤ j → j < s.size → ¬ byteAt s j = 95) : splitF (s.extract a s.size) us = [s.extract a s.size] := by
  unfold splitF
  have hu : hdU us = 95 := rfl
  rw [hu, splitU_one]
  · rfl
  · rw [List.count_eq_zero, ext_tail]
    intro hm
    obtain ⟨j, hj, e⟩ := List.getElem_of_mem hm
    have hj' : a + j < s.size := by
      rw [List.length_drop] at hj
      have : s.data.toList.length = s.size := by simp
      omega
    obtain ⟨y, h1, h2⟩ := byteAt_some hj'
    refine hn (a + j) (by omega) hj' ?_
    rw [List.getElem_drop] at e
    rw [List.getElem?_eq_getElem (by simpa using hj')] at h1
    injection h1 with h1
    rw [h2, ← h1, e]
    rfl

/-- the reference's way -/
def refG : List ByteArray → Option Int
  | [p0, p1, p2, p3, p4] =>
    if p2 = emp ∨ p3 = emp ∨ ¬ byteAt p2 0 = 99 ∨ ¬ byteAt p3 0 = 99 then none else
    if (digF 2 p0 3).2 = true ∧ (digF 2 p1 7).2 = true ∧ (digF 2 (p2.extract 1 p2.size) 15).2 = true ∧ (digF 2 (p3.extract 1 p3.size) 15).2 = true ∧ (digF 2 p4 7).2 = true ∧ 2 ≤ (digF 2 p0 3).1 then
      some ((((((digF 2 p0 3).1 - 2) * 8 + (digF 2 p1 7).1) * 16 + (digF 2 (p2.extract 1 p2.size) 15).1) * 16 + (digF 2 (p3.extract 1 p3.size) 15).1) * 8 + (digF 2 p4 7).1)
    else none
  | _ => none
def refF (s : ByteArray) : Option Int := if s.size < 1 ∨ ¬ byteAt s 0 = 115 then none else refG (splitF (s.extract 1 s.size) us)

/-! ### Both ways are one -/
theorem digN_succ {s : ByteArray} {i : Nat} {n : Int} (h : digN s (i + 1) = some n) : ∃ m, digN s i = some m ∧ n = 10 * m + (byteAt s i - 48) ∧ 48 ≤ byteAt s i ∧ byteAt s i ≤ 57 := by
  rw [digN] at h
  split at h
  case h_2 => cases h
  rename_i m hm
  split at h
  · cases h
  · rename_i hc
    injection h with h
    exact ⟨m, hm, h.symm, by omega, by omega⟩
theorem digN_three {s : ByteArray} (h0 : ¬ byteAt s 0 = 48) {n : Int} (hn : digN s 3 = some n) : 100 ≤ n := by
  obtain ⟨a, ha, rfl, _, _⟩ := digN_succ hn
  obtain ⟨b, hb, rfl, _, _⟩ := digN_succ ha
  obtain ⟨c, hc, rfl, _, _⟩ := digN_succ hb
  injection hc with hc
  subst hc
  have : byteAt s ((0 : Nat) : Int) = byteAt s 0 := rfl
  omega

theorem digF_agree (s : ByteArray) {most : Int} (hm : most ≤ 99) : digF 3 s most = digF 2 s most ∨ ((digF 3 s most).2 = false ∧ (digF 2 s most).2 = false) := by
  by_cases h1 : s = emp
  · left; unfold digF; rw [if_pos (.inl h1), if_pos (.inl h1)]
  by_cases h2 : s.size ≤ 2
  · left
    unfold digF
    have e : (s = emp ∨ 3 < s.size ∨ 1 < s.size ∧ byteAt s 0 = 48) ↔ (s = emp ∨ 2 < s.size ∨ 1 < s.size ∧ byteAt s 0 = 48) := by
      constructor
      · rintro (h | h | h)
        · exact .inl h
        · omega
        · exact .inr (.inr h)
      · rintro (h | h | h)
        · exact .inl h
        · omega
        · exact .inr (.inr h)
    simp only [e]
  · right
    refine ⟨?_, by unfold digF; rw [if_pos (.inr (.inl (by omega)))]⟩
    unfold digF
    split
    · rfl
    · rename_i hc
      have h3 : s.size = 3 := by
        have : ¬ 3 < s.size := fun h => hc (.inr (.inl h))
        omega
      have h0 : ¬ byteAt s 0 = 48 := fun h => hc (.inr (.inr ⟨by omega, h⟩))
      split
      · rename_i n hn
        rw [h3] at hn
        have := digN_three h0 hn
        simp only [decide_eq_false_iff_not]
        omega
      · rfl

theorem regF_agree (s : ByteArray) : regF 3 s = regF 2 s := by
  unfold regF
  repeat' split
  all_goals first | rfl | skip
  rcases digF_agree (s.extract 1 s.size) (most := 30) (by decide) with h | ⟨h1, h2⟩
  · rw [h]
  · rcases ha : digF 3 (s.extract 1 s.size) 30 with ⟨a, x⟩
    rcases hb : digF 2 (s.extract 1 s.size) 30 with ⟨b, y⟩
    rw [ha] at h1
    rw [hb] at h2
    simp only at h1 h2
    subst h1
    subst h2
    rfl

theorem sysStep_agree (i : Nat) (n : Int) (w : ByteArray) : sysStep 3 i n w = sysStep 2 i n w := by
  have hm : mostL.getD i 0 ≤ 99 := by
    unfold mostL
    match i with
    | 0 | 1 | 2 | 3 | 4 => decide
    | i + 5 => simp
  unfold sysStep
  rcases digF_agree (cutF w (marksL.getD i emp)).1 hm with h | ⟨h1, h2⟩
  · rw [h]
  · rw [if_neg (fun h => by rw [h1] at h; exact absurd h.2.1 (by simp)), if_neg (fun h => by rw [h2] at h; exact absurd h.2.1 (by simp))]
theorem sysN_agree (l : List ByteArray) : ∀ i, sysN 3 l i = sysN 2 l i
  | 0 => rfl
  | i + 1 => by
    rw [sysN, sysN, sysN_agree l i]
    split
    · exact sysStep_agree i _ _
    · rfl

theorem cutF_emp (s : ByteArray) : cutF s emp = (s, true) := by
  unfold cutF
  rw [if_pos (hasPF_iff.2 ⟨toBytes s, rfl⟩), show emp.size = 0 from rfl, extract_all]
theorem cutF_one (s : ByteArray) (c : Int) (hc : 0 ≤ c ∧ c ≤ 255) : cutF s (ofBytes [c]) = if 0 < s.size ∧ byteAt s 0 = c then (s.extract 1 s.size, true) else (s, false) := by
  unfold cutF
  rw [hasP1 s c hc]
  simp only [decide_eq_true_eq]
  rfl
theorem byteAt_emp : byteAt emp 0 = 0 := rfl

def okN (A : Prop) [Decidable A] (x : Int) : Option Int := if A then some x else none
theorem sysN_step {l : List ByteArray} {i : Nat} {n x : Int} {w : ByteArray} {A B : Prop} [Decidable A] [Decidable B] (hl : sysN 2 l i = okN A n) (hw : l[i]? = some w) (hs : A → sysStep 2 i n w = okN B x) : sysN 2 l (i + 1) = okN (A ∧ B) x := by
  rw [sysN, hl, hw]
  unfold okN at *
  by_cases a : A
  · rw [if_pos a]
    simp only
    rw [hs a]
    by_cases b : B
    · rw [if_pos b, if_pos ⟨a, b⟩]
    · rw [if_neg b, if_neg (fun h => b h.2)]
  · rw [if_neg a, if_neg (fun h => a h.1)]

theorem sysN_ref (p0 p1 p2 p3 p4 q : ByteArray) (hq : cutF q s1 = (p0, true)) : sysN 2 [q, p1, p2, p3, p4] 5 = refG [p0, p1, p2, p3, p4] := by
  have hc : cS = ofBytes [99] := rfl
  have c2 := cutF_one p2 99 (by decide)
  have c3 := cutF_one p3 99 (by decide)
  have r1 := digF_range (lim := 2) (s := p1) (most := 7)
  have r4 := digF_range (lim := 2) (s := p4) (most := 7)
  have r2 := digF_range (lim := 2) (s := p2.extract 1 p2.size) (most := 15)
  have r3 := digF_range (lim := 2) (s := p3.extract 1 p3.size) (most := 15)
  have l0 : sysN 2 [q, p1, p2, p3, p4] 0 = okN True 0 := rfl
  have l1 := sysN_step (x := (digF 2 p0 3).1 - 2) (B := (digF 2 p0 3).2 = true ∧ 2 ≤ (digF 2 p0 3).1) l0 rfl (fun _ => by
    unfold sysStep okN
    rw [show marksL.getD 0 emp = s1 from rfl, hq, show mostL.getD 0 0 = 3 from rfl]
    by_cases a : (digF 2 p0 3).2 = true ∧ 2 ≤ (digF 2 p0 3).1
    · rw [if_pos a, if_pos ⟨rfl, a.1, by simp only [sysV, if_true]; omega⟩]
      simp [sysV]
    · rw [if_neg a, if_neg (fun h => a ⟨h.2.1, by have := h.2.2; simp only [sysV, if_true] at this; omega⟩)])
  have l2 := sysN_step (x := ((digF 2 p0 3).1 - 2) * 8 + (digF 2 p1 7).1) (B := (digF 2 p1 7).2 = true) l1 rfl (fun _ => by
    unfold sysStep okN
    rw [show marksL.getD 1 emp = emp from rfl, cutF_emp, show mostL.getD 1 0 = 7 from rfl]
    by_cases a : (digF 2 p1 7).2 = true
    · rw [if_pos a, if_pos ⟨rfl, a, (r1 a).1⟩]
      rfl
    · rw [if_neg a, if_neg (fun h => a h.2.1)])
  have l3 := sysN_step (x := (((digF 2 p0 3).1 - 2) * 8 + (digF 2 p1 7).1) * 16 + (digF 2 (p2.extract 1 p2.size) 15).1) (B := (0 < p2.size ∧ byteAt p2 0 = 99) ∧ (digF 2 (p2.extract 1 p2.size) 15).2 = true) l2 rfl (fun _ => by
    unfold sysStep okN
    rw [show marksL.getD 2 emp = ofBytes [99] from rfl, c2, show mostL.getD 2 0 = 15 from rfl]
    by_cases b : 0 < p2.size ∧ byteAt p2 0 = 99
    · rw [if_pos b]
      by_cases a : (digF 2 (p2.extract 1 p2.size) 15).2 = true
      · rw [if_pos ⟨rfl, a, (r2 a).1⟩, if_pos ⟨b, a⟩]
        rfl
      · rw [if_neg (fun h => a h.2.1), if_neg (fun h => a h.2)]
    · rw [if_neg b, if_neg (fun h => absurd h.1 (by simp)), if_neg (fun h => b h.1)])
  have l4 := sysN_step (x := ((((digF 2 p0 3).1 - 2) * 8 + (digF 2 p1 7).1) * 16 + (digF 2 (p2.extract 1 p2.size) 15).1) * 16 + (digF 2 (p3.extract 1 p3.size) 15).1) (B := (0 < p3.size ∧ byteAt p3 0 = 99) ∧ (digF 2 (p3.extract 1 p3.size) 15).2 = true) l3 rfl (fun _ => by
    unfold sysStep okN
    rw [show marksL.getD 3 emp = ofBytes [99] from rfl, c3, show mostL.getD 3 0 = 15 from rfl]
    by_cases b : 0 < p3.size ∧ byteAt p3 0 = 99
    · rw [if_pos b]
      by_cases a : (digF 2 (p3.extract 1 p3.size) 15).2 = true
      · rw [if_pos ⟨rfl, a, (r3 a).1⟩, if_pos ⟨b, a⟩]
        rfl
      · rw [if_neg (fun h => a h.2.1), if_neg (fun h => a h.2)]
    · rw [if_neg b, if_neg (fun h => absurd h.1 (by simp)), if_neg (fun h => b h.1)])
  have l5 := sysN_step (x := (((((digF 2 p0 3).1 - 2) * 8 + (digF 2 p1 7).1) * 16 + (digF 2 (p2.extract 1 p2.size) 15).1) * 16 + (digF 2 (p3.extract 1 p3.size) 15).1) * 8 + (digF 2 p4 7).1) (B := (digF 2 p4 7).2 = true) l4 rfl (fun _ => by
    unfold sysStep okN
    rw [show marksL.getD 4 emp = emp from rfl, cutF_emp, show mostL.getD 4 0 = 7 from rfl]
    by_cases a : (digF 2 p4 7).2 = true
    · rw [if_pos a, if_pos ⟨rfl, a, (r4 a).1⟩]
      rfl
    · rw [if_neg a, if_neg (fun h => a h.2.1)])
  rw [l5]
  unfold okN
  simp only [refG]
  by_cases h : (((((True ∧ (digF 2 p0 3).2 = true ∧ 2 ≤ (digF 2 p0 3).1) ∧ (digF 2 p1 7).2 = true) ∧ (0 < p2.size ∧ byteAt p2 0 = 99) ∧ (digF 2 (p2.extract 1 p2.size) 15).2 = true) ∧ (0 < p3.size ∧ byteAt p3 0 = 99) ∧ (digF 2 (p3.extract 1 p3.size) 15).2 = true) ∧ (digF 2 p4 7).2 = true)
  · rw [if_pos h]
    obtain ⟨⟨⟨⟨⟨_, a0, a1⟩, b⟩, c, c'⟩, d, d'⟩, e⟩ := h
    rw [if_neg, if_pos ⟨a0, b, c', d', e, a1⟩]
    rintro (x | x | x | x)
    · rw [x] at c; exact absurd c.1 (by decide)
    · rw [x] at d; exact absurd d.1 (by decide)
    · exact x c.2
    · exact x d.2
  · rw [if_neg h]
    split
    · rfl
    · rename_i hn
      rw [if_neg]
      rintro ⟨a0, b, c', d', e, a1⟩
      refine h ⟨⟨⟨⟨⟨trivial, a0, a1⟩, b⟩, ⟨size_pos fun x => hn (.inl x), ?_⟩, c'⟩, ⟨size_pos fun x => hn (.inr (.inl x)), ?_⟩, d'⟩, e⟩
      · by_cases x : byteAt p2 0 = 99
        · exact x
        · exact absurd (.inr (.inr (.inl x))) hn
      · by_cases x : byteAt p3 0 = 99
        · exact x
        · exact absurd (.inr (.inr (.inr x))) hn

/-- The numbers of system registers: both ways are one. -/
theorem sys_ref (s : ByteArray) : sysF 3 s = refF s := by
  unfold sysF refF
  rw [sysN_agree]
  by_cases h0 : s.size < 1
  · have he : s = emp := toBytes_inj (by rw [List.eq_nil_of_length_eq_zero ((toBytes_length s).trans (by omega))]; rfl)
    rw [he, if_neg (show ¬ (splitF emp us).length = 5 by decide), if_pos (show emp.size < 1 ∨ ¬ byteAt emp 0 = 115 from .inl (by decide))]
  have hb : byteAt s 0 = byteAt s ((0 : Nat) : Int) := rfl
  obtain ⟨x, hx, hxb⟩ := byteAt_some (s := s) (i := 0) (by omega)
  have hd : s.data.toList = x :: s.data.toList.drop 1 := by
    cases hl : s.data.toList with
    | nil => rw [hl] at hx; cases hx
    | cons y r => rw [hl] at hx; simp at hx; rw [hx]; rfl
  have ht := ext_tail s 1
  obtain ⟨r, hr⟩ : ∃ r, s.data.toList.drop 1 = r := ⟨_, rfl⟩
  rw [hr] at hd ht
  by_cases h1 : byteAt s 0 = 115
  · rw [if_neg (show ¬ (s.size < 1 ∨ ¬ byteAt s 0 = 115) by omega)]
    have hx115 : x = 115 := by
      apply UInt8.toNat_inj.1
      show x.toNat = 115
      omega
    have hs : splitU 95 s.data.toList = match splitU 95 r with
      | [] => [[x]]
      | p :: ps => (x :: p) :: ps := by
      rw [hd, splitU, if_neg (by rw [hx115]; decide)]
      rfl
    have hu : hdU us = 95 := rfl
    have e1 : splitF s us = (splitU 95 s.data.toList).map fun l => ⟨l.toArray⟩ := rfl
    have e2 : splitF (s.extract 1 s.size) us = (splitU 95 r).map fun l => ⟨l.toArray⟩ := by unfold splitF; rw [ht, hu]
    cases hsr : splitU 95 r with
    | nil => have := splitU_len 95 r; rw [hsr] at this; simp at this
    | cons p ps =>
      rw [hsr] at hs e2
      simp only at hs
      rw [hs, List.map_cons] at e1
      rw [List.map_cons] at e2
      rw [e1, e2]
      by_cases hl : ps.length = 4
      · rw [if_pos (by simp [hl])]
        match ps, hl with
        | [a, b, c, d], _ =>
          refine sysN_ref _ _ _ _ _ _ ?_
          rw [show s1 = ofBytes [115] from rfl, cutF_one _ 115 (by decide), if_pos]
          · congr 1
            apply ByteArray.ext
            rw [← Array.toList_inj, ext_tail]
            rfl
          · refine ⟨?_, ?_⟩
            · show 0 < (x :: p).toArray.size
              simp
            · show ((([x].append p).getD 0 0).toNat : Int) = 115
              rw [hx115]; rfl
      · rw [if_neg (by simp [hl])]
        match ps, hl with
        | [], _ => rfl
        | [_], _ => rfl
        | [_, _], _ => rfl
        | [_, _, _], _ => rfl
        | _ :: _ :: _ :: _ :: _ :: _, _ => rfl
  · rw [if_pos (show s.size < 1 ∨ ¬ byteAt s 0 = 115 from .inr h1)]
    split
    · rename_i h5
      have hfail : sysN 2 (splitF s us) 1 = none := by
        obtain ⟨q, hq⟩ : ∃ q, (splitF s us)[0]? = some q := ⟨_, List.getElem?_eq_getElem (by omega)⟩
        rw [sysN, hq]
        show sysStep 2 0 0 q = none
        unfold sysStep
        rw [if_neg]
        intro h
        have hc := h.1
        rw [show marksL.getD 0 emp = ofBytes [115] from rfl, cutF_one q 115 (by decide)] at hc
        split at hc
        · rename_i hq1
          -- the first part begins as the text does
          have hs : splitU 95 s.data.toList = if x == 95 then [] :: splitU 95 r else match splitU 95 r with
            | [] => [[x]]
            | p :: ps => (x :: p) :: ps := by
            rw [hd, splitU]
            rfl
          unfold splitF at hq
          rw [show hdU us = 95 from rfl, hs] at hq
          split at hq
          · simp only [List.map_cons, List.getElem?_cons_zero, Option.some.injEq] at hq
            rw [← hq] at hq1
            exact absurd hq1.1 (by decide)
          · split at hq
            · simp only [List.map_cons, List.getElem?_cons_zero, Option.some.injEq] at hq
              rw [← hq] at hq1
              have : (x.toNat : Int) = 115 := hq1.2
              omega
            · simp only [List.map_cons, List.getElem?_cons_zero, Option.some.injEq] at hq
              rw [← hq] at hq1
              have : (x.toNat : Int) = 115 := hq1.2
              omega
        · cases hc
      exact sysN_none hfail (by decide)
    · rfl

end Go.Proofs.YtkjkogmnijfanaaDoor
