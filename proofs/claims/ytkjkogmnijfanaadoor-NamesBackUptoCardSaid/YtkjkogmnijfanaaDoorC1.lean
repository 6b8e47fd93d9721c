/- Names: there and back, as plain functions. No program in sight. -/
import Derived.Test.YtkjkogmnijfanaaDoorB5
import Derived.Test.YtkjkogmnijfanaaDoorB6
set_option linter.unusedVariables false
set_option linter.unusedSimpArgs false
namespace Go.Proofs.YtkjkogmnijfanaaDoor
open Go.RowKit

theorem nameIn_mem {n : Int} {x : ByteArray} : ∀ {l : List (ByteArray × Int)}, nameIn l n = some x → (x, n) ∈ l
  | [], h => by cases h
  | r :: l, h => by
    rw [nameIn] at h
    split at h
    · rename_i hn
      injection h with h
      subst h
      subst hn
      exact List.mem_cons_self
    · exact List.mem_cons_of_mem _ (nameIn_mem h)
theorem numIn_mem {n : Int} {x : ByteArray} : ∀ {l : List (ByteArray × Int)}, numIn l x = some n → (x, n) ∈ l
  | [], h => by cases h
  | r :: l, h => by
    rw [numIn] at h
    split at h
    · rename_i hn
      injection h with h
      subst h
      subst hn
      exact List.mem_cons_self
    · exact List.mem_cons_of_mem _ (numIn_mem h)

theorem tbl_cases (k : Int) : k = 2 ∨ k = 3 ∨ k = 4 ∨ k = 5 ∨ k = 6 ∨ k = 7 ∨ k = 8 ∨ tblF k = [] := by
  by_cases h2 : k = 2
  · exact .inl h2
  by_cases h3 : k = 3
  · exact .inr (.inl h3)
  by_cases h4 : k = 4
  · exact .inr (.inr (.inl h4))
  by_cases h5 : k = 5
  · exact .inr (.inr (.inr (.inl h5)))
  by_cases h6 : k = 6
  · exact .inr (.inr (.inr (.inr (.inl h6))))
  by_cases h7 : k = 7
  · exact .inr (.inr (.inr (.inr (.inr (.inl h7)))))
  by_cases h8 : k = 8
  · exact .inr (.inr (.inr (.inr (.inr (.inr (.inl h8))))))
  · unfold tblF
    simp [h2, h3, h4, h5, h6, h7, h8]

def tblOkB (k : Int) : Bool := (tblF k).all fun r => decide (numberF 3 k r.1 = (r.2, 0)) && decide (nameIn (tblF k) r.2 = some r.1) && decide (r.1.size ≤ 40)
theorem tblOk2 : tblOkB 2 = true := by decide +kernel
theorem tblOk3 : tblOkB 3 = true := by decide +kernel
theorem tblOk4 : tblOkB 4 = true := by decide +kernel
theorem tblOk5 : tblOkB 5 = true := by decide +kernel
theorem tblOk6 : tblOkB 6 = true := by decide +kernel
theorem tblOk7 : tblOkB 7 = true := by decide +kernel
theorem tblOk8 : tblOkB 8 = true := by decide +kernel
theorem tbl_ok {k : Int} {x : ByteArray} {n : Int} (h : (x, n) ∈ tblF k) : (2 ≤ k ∧ k ≤ 8) ∧ numberF 3 k x = (n, 0) ∧ nameIn (tblF k) n = some x ∧ x.size ≤ 40 := by
  have hk : (2 ≤ k ∧ k ≤ 8) ∧ tblOkB k = true := by
    rcases tbl_cases k with e | e | e | e | e | e | e | e
    · subst e; exact ⟨by decide, tblOk2⟩
    · subst e; exact ⟨by decide, tblOk3⟩
    · subst e; exact ⟨by decide, tblOk4⟩
    · subst e; exact ⟨by decide, tblOk5⟩
    · subst e; exact ⟨by decide, tblOk6⟩
    · subst e; exact ⟨by decide, tblOk7⟩
    · subst e; exact ⟨by decide, tblOk8⟩
    · rw [e] at h; cases h
  refine ⟨hk.1, ?_⟩
  have := List.all_eq_true.1 hk.2 _ h
  simp only [Bool.and_eq_true, decide_eq_true_eq] at this
  exact ⟨this.1.1, this.1.2, this.2⟩

/-! ### registers -/
theorem reg_there : ∀ i : Fin 128, numberF 3 1 (regNameF (regOfF (i.val : Int))).1 = ((i.val : Int), 0) ∨ ¬ (regNameF (regOfF (i.val : Int))).2 = 0 := by decide +kernel
theorem reg_small : ∀ i : Fin 128, (regNameF (regOfF (i.val : Int))).1.size ≤ 40 := by decide +kernel
theorem reg_round : ∀ i : Fin 32, ∀ x p : Bool, regOfF (numOfF ⟨(i.val : Int), x, p⟩) = ⟨(i.val : Int), x, p⟩ := by decide +kernel

theorem digits_back {t : ByteArray} {n : Int} (h : digF 3 t 30 = (n, true)) : (0 ≤ n ∧ n ≤ 30) ∧ t = textF n := by
  have hr := digF_range (lim := 3) (s := t) (most := 30) (by rw [h])
  rw [h] at hr
  refine ⟨hr, ?_⟩
  simp only at hr
  unfold digF at h
  split at h
  · cases h
  rename_i hc
  split at h
  case h_2 => cases h
  rename_i m hm
  injection h with h1 h2
  subst h1
  have h1 : ¬ t = emp := fun e => hc (.inl e)
  have h3 : ¬ 3 < t.size := fun e => hc (.inr (.inl e))
  have h4 : 1 < t.size → ¬ byteAt t 0 = 48 := fun a b => hc (.inr (.inr ⟨a, b⟩))
  have hpos := size_pos h1
  have h5 : t.size = 1 ∨ t.size = 2 ∨ t.size = 3 := by omega
  have b0 : (toBytes t)[0]? = some (byteAt t (0 : Nat)) := toBytes_get hpos
  have z0 : byteAt t (0 : Nat) = byteAt t 0 := rfl
  have z1 : byteAt t (1 : Nat) = byteAt t 1 := rfl
  rcases h5 with h5 | h5 | h5
  · rw [h5] at hm
    obtain ⟨a, ha, hb, hl, hh⟩ := digN_succ hm
    injection ha with ha
    subst ha
    unfold textF
    rw [if_pos (by omega)]
    apply toBytes_inj
    rw [toBytes_ofBytes (by simp; omega)]
    apply List.ext_getElem?
    intro i
    match i with
    | 0 => rw [b0]; simp; omega
    | i + 1 =>
      rw [List.getElem?_eq_none (by rw [toBytes_length]; omega)]
      simp
  · rw [h5] at hm
    obtain ⟨a, ha, hb, hl, hh⟩ := digN_succ hm
    obtain ⟨c, hd, he, hl', hh'⟩ := digN_succ ha
    injection hd with hd
    subst hd
    have h0 : ¬ byteAt t (0 : Nat) = 48 := h4 (by omega)
    unfold textF
    rw [if_neg (by omega), if_pos (by omega)]
    apply toBytes_inj
    rw [toBytes_ofBytes (by simp; omega)]
    have b1 : (toBytes t)[1]? = some (byteAt t (1 : Nat)) := toBytes_get (by omega)
    apply List.ext_getElem?
    intro i
    match i with
    | 0 => rw [b0]; simp; omega
    | 1 => rw [b1]; simp; omega
    | i + 2 =>
      rw [List.getElem?_eq_none (by rw [toBytes_length]; omega)]
      simp
  · rw [h5] at hm
    have := digN_three (h4 (by omega)) hm
    omega

theorem head_back {s : ByteArray} (hp : 0 < s.size) {c : ByteArray} (hc : toBytes c = [byteAt s 0]) : s = c ++ s.extract 1 s.size := by
  apply toBytes_inj
  rw [toBytes_append, toBytes_extract, hc]
  have b0 : (toBytes s)[0]? = some (byteAt s (0 : Nat)) := toBytes_get hp
  have hl := toBytes_length s
  cases hs : toBytes s with
  | nil => rw [hs] at hl; simp at hl; omega
  | cons a l =>
    rw [hs] at b0 hl
    simp only [List.getElem?_cons_zero, Option.some.injEq] at b0
    simp only [List.length_cons] at hl
    rw [List.drop_succ_cons, List.drop_zero, List.take_of_length_le (by omega), b0]
    rfl

theorem reg_back {s : ByteArray} {r : RegV} (h : regF 3 s = (r, 0)) : (∃ i : Fin 32, r.n = (i.val : Int)) ∧ regNameF r = (s, 0) := by
  unfold regF at h
  split at h
  · rename_i e; injection h with h; subst h; subst e; exact ⟨⟨31, rfl⟩, by decide⟩
  split at h
  · rename_i e; injection h with h; subst h; subst e; exact ⟨⟨31, rfl⟩, by decide⟩
  split at h
  · rename_i e; injection h with h; subst h; subst e; exact ⟨⟨31, rfl⟩, by decide⟩
  split at h
  · rename_i e; injection h with h; subst h; subst e; exact ⟨⟨31, rfl⟩, by decide⟩
  split at h
  · cases h
  rename_i hc
  unfold regG at h
  split at h
  case h_2 => cases h
  rename_i n hd
  injection h with h
  subst h
  obtain ⟨hr, ht⟩ := digits_back hd
  refine ⟨⟨⟨n.toNat, by omega⟩, by simp; omega⟩, ?_⟩
  have hp : 0 < s.size := by
    rcases Nat.eq_zero_or_pos s.size with e | e
    · exact absurd (.inl e) hc
    · exact e
  have hb : byteAt s 0 = 120 ∨ byteAt s 0 = 119 := Classical.byContradiction fun e => hc (.inr e)
  unfold regNameF
  simp only
  rw [if_neg (by simp; omega), if_neg (by simp), if_neg (by simp), if_neg (by omega)]
  congr 1
  rcases hb with hb | hb
  · rw [hb, ← ht]
    exact (head_back hp (c := xS) (by rw [hb]; decide)).symm
  · rw [hb, ← ht]
    exact (head_back hp (c := wS) (by rw [hb]; decide)).symm

/-! ### system registers by numbers -/
theorem splitU_app {c : UInt8} : ∀ {a b : List UInt8}, a.count c = 0 → splitU c (a ++ c :: b) = a :: splitU c b
  | [], b, _ => by simp [splitU]
  | x :: a, b, h => by
    rw [List.count_cons] at h
    have hx : ¬ (x == c) = true := by intro e; rw [if_pos e] at h; omega
    rw [if_neg hx] at h
    rw [List.cons_append, splitU, if_neg hx, splitU_app (a := a) (by omega)]

def dataOf (s : ByteArray) : List UInt8 := s.data.toList
theorem dataOf_app (a b : ByteArray) : dataOf (a ++ b) = dataOf a ++ dataOf b := by
  unfold dataOf
  rw [ByteArray.data_append]
  simp
theorem splitF_app {a b : ByteArray} (h : (dataOf a).count 95 = 0) : splitF (a ++ us ++ b) us = a :: splitF b us := by
  have e : dataOf (a ++ us ++ b) = dataOf a ++ 95 :: dataOf b := by
    rw [dataOf_app, dataOf_app]
    show dataOf a ++ [95] ++ dataOf b = _
    simp
  show (splitU (hdU us) (dataOf (a ++ us ++ b))).map _ = _
  rw [e, show hdU us = 95 from rfl, splitU_app h]
  rfl
theorem splitF_last {a : ByteArray} (h : (dataOf a).count 95 = 0) : splitF a us = [a] := by
  show (splitU (hdU us) (dataOf a)).map _ = _
  rw [show hdU us = 95 from rfl, splitU_one h]
  rfl

def sysPart (i : Nat) (v : Int) : ByteArray := if i = 0 then s1 ++ textF (v + 2) else if i = 2 ∨ i = 3 then cS ++ textF v else textF v
def partOkB (i : Nat) (v : Int) : Bool :=
  decide ((dataOf (sysPart i v)).count 95 = 0) && decide ((sysPart i v).size ≤ 4) &&
  decide ((cutF (sysPart i v) (marksL.getD i emp)).2 = true ∧ (digF 3 (cutF (sysPart i v) (marksL.getD i emp)).1 (mostL.getD i 0)).2 = true ∧ sysV i (digF 3 (cutF (sysPart i v) (marksL.getD i emp)).1 (mostL.getD i 0)).1 = v)
theorem partOk0 : ∀ j : Fin 2, partOkB 0 (j.val : Int) = true := by decide +kernel
theorem partOk1 : ∀ j : Fin 8, partOkB 1 (j.val : Int) = true := by decide +kernel
theorem partOk2 : ∀ j : Fin 16, partOkB 2 (j.val : Int) = true := by decide +kernel
theorem partOk3 : ∀ j : Fin 16, partOkB 3 (j.val : Int) = true := by decide +kernel
theorem partOk4 : ∀ j : Fin 8, partOkB 4 (j.val : Int) = true := by decide +kernel
theorem part_ok {i : Nat} {v : Int} (hi : i < 5) (h0 : 0 ≤ v) (h1 : v < 2 ^ widthL.getD i 0) : (dataOf (sysPart i v)).count 95 = 0 ∧ (sysPart i v).size ≤ 4 ∧ ∀ m, sysStep 3 i m (sysPart i v) = some (m * 2 ^ widthL.getD i 0 + v) := by
  have hB : partOkB i v = true := by
    obtain ⟨k, rfl⟩ : ∃ k : Nat, v = (k : Int) := ⟨v.toNat, by omega⟩
    have hi' : i = 0 ∨ i = 1 ∨ i = 2 ∨ i = 3 ∨ i = 4 := by omega
    rcases hi' with rfl | rfl | rfl | rfl | rfl <;> simp only [widthL, List.getD_cons_zero, List.getD_cons_succ] at h1
    · exact partOk0 ⟨k, by omega⟩
    · exact partOk1 ⟨k, by omega⟩
    · exact partOk2 ⟨k, by omega⟩
    · exact partOk3 ⟨k, by omega⟩
    · exact partOk4 ⟨k, by omega⟩
  unfold partOkB at hB
  simp only [Bool.and_eq_true, decide_eq_true_eq] at hB
  refine ⟨hB.1.1, hB.1.2, fun m => ?_⟩
  unfold sysStep
  rw [if_pos ⟨hB.2.1, hB.2.2.1, by rw [hB.2.2.2]; exact h0⟩, hB.2.2.2]

theorem sysName_parts (n : Int) : sysNameF n = sysPart 0 (n / 16384) ++ us ++ (sysPart 1 (n / 2048 % 8) ++ us ++ (sysPart 2 (n / 128 % 16) ++ us ++ (sysPart 3 (n / 8 % 16) ++ us ++ sysPart 4 (n % 8)))) := by
  have e1 : usc = us ++ cS := by decide
  have p0 : ∀ v, sysPart 0 v = s1 ++ textF (v + 2) := fun _ => rfl
  have p1 : ∀ v, sysPart 1 v = textF v := fun _ => rfl
  have p2 : ∀ v, sysPart 2 v = cS ++ textF v := fun _ => rfl
  have p3 : ∀ v, sysPart 3 v = cS ++ textF v := fun _ => rfl
  have p4 : ∀ v, sysPart 4 v = textF v := fun _ => rfl
  unfold sysNameF
  rw [e1, p0, p1, p2, p3, p4]
  simp only [ByteArray.append_assoc]

theorem sysName_split {n : Int} (h0 : 0 ≤ n) (h1 : n < 32768) : splitF (sysNameF n) us = [sysPart 0 (n / 16384), sysPart 1 (n / 2048 % 8), sysPart 2 (n / 128 % 16), sysPart 3 (n / 8 % 16), sysPart 4 (n % 8)] := by
  rw [sysName_parts, splitF_app (part_ok (i := 0) (by omega) (by omega) (by simp [widthL]; omega)).1, splitF_app (part_ok (i := 1) (by omega) (by omega) (by simp [widthL]; omega)).1,
    splitF_app (part_ok (i := 2) (by omega) (by omega) (by simp [widthL]; omega)).1, splitF_app (part_ok (i := 3) (by omega) (by omega) (by simp [widthL]; omega)).1, splitF_last (part_ok (i := 4) (by omega) (by omega) (by simp [widthL]; omega)).1]
theorem sys_back {n : Int} (h0 : 0 ≤ n) (h1 : n < 32768) : sysF 3 (sysNameF n) = some n := by
  unfold sysF
  rw [sysName_split h0 h1]
  refine (if_pos rfl).trans ?_
  have p0 := (part_ok (i := 0) (v := n / 16384) (by omega) (by omega) (by simp [widthL]; omega)).2.2
  have p1 := (part_ok (i := 1) (v := n / 2048 % 8) (by omega) (by omega) (by simp [widthL]; omega)).2.2
  have p2 := (part_ok (i := 2) (v := n / 128 % 16) (by omega) (by omega) (by simp [widthL]; omega)).2.2
  have p3 := (part_ok (i := 3) (v := n / 8 % 16) (by omega) (by omega) (by simp [widthL]; omega)).2.2
  have p4 := (part_ok (i := 4) (v := n % 8) (by omega) (by omega) (by simp [widthL]; omega)).2.2
  simp only [sysN, List.getElem?_cons_zero, List.getElem?_cons_succ, p0, p1, p2, p3, p4]
  simp only [widthL, List.getD_cons_zero, List.getD_cons_succ]
  congr 1
  omega
theorem sysName_size {n : Int} (h0 : 0 ≤ n) (h1 : n < 32768) : (sysNameF n).size ≤ 40 := by
  rw [sysName_parts]
  have p0 := (part_ok (i := 0) (v := n / 16384) (by omega) (by omega) (by simp [widthL]; omega)).2.1
  have p1 := (part_ok (i := 1) (v := n / 2048 % 8) (by omega) (by omega) (by simp [widthL]; omega)).2.1
  have p2 := (part_ok (i := 2) (v := n / 128 % 16) (by omega) (by omega) (by simp [widthL]; omega)).2.1
  have p3 := (part_ok (i := 3) (v := n / 8 % 16) (by omega) (by omega) (by simp [widthL]; omega)).2.1
  have p4 := (part_ok (i := 4) (v := n % 8) (by omega) (by omega) (by simp [widthL]; omega)).2.1
  have eu : us.size = 1 := rfl
  simp only [ByteArray.size_append, eu]
  omega
def shortB : Bool := systemsL.all fun r => decide (splitF r.1 us ≠ splitF r.1 us ∨ (splitF r.1 us).length < 5)
theorem short : shortB = true := by decide +kernel
theorem sysName_new {n : Int} (h0 : 0 ≤ n) (h1 : n < 32768) : numIn systemsL (sysNameF n) = none := by
  cases h : numIn systemsL (sysNameF n) with
  | none => rfl
  | some m =>
    have := List.all_eq_true.1 short _ (numIn_mem h)
    simp [sysName_split h0 h1] at this

theorem aliasF_six (s : ByteArray) : aliasF 6 s = s := by
  unfold aliasF
  rw [if_neg (by omega), if_neg (by omega)]

theorem sysN_range {lim : Nat} {l : List ByteArray} {n : Int} (h : sysN lim l 5 = some n) : 0 ≤ n ∧ n < 32768 := by
  have step : ∀ {i : Nat} {n : Int}, i < 5 → sysN lim l (i + 1) = some n → ∃ m v, sysN lim l i = some m ∧ 0 ≤ v ∧ v < 2 ^ widthL.getD i 0 ∧ n = m * 2 ^ widthL.getD i 0 + v := by
    intro i n hi h
    rw [sysN] at h
    split at h
    case h_2 => cases h
    rename_i m w hm hw
    obtain ⟨v, _, v0, v1, e⟩ := sysV_range hi h
    exact ⟨m, v, hm, v0, v1, e⟩
  obtain ⟨n4, v4, h4, a4, b4, e4⟩ := step (by omega) h
  obtain ⟨n3, v3, h3, a3, b3, e3⟩ := step (by omega) h4
  obtain ⟨n2, v2, h2, a2, b2, e2⟩ := step (by omega) h3
  obtain ⟨n1, v1, h1, a1, b1, e1⟩ := step (by omega) h2
  obtain ⟨n0, v0, h0, a0, b0, e0⟩ := step (by omega) h1
  injection h0 with h0
  simp only [widthL, List.getD_cons_zero, List.getD_cons_succ] at b0 b1 b2 b3 b4 e0 e1 e2 e3 e4
  simp at b0 b1 b2 b3 b4 e0 e1 e2 e3 e4
  omega

/-! ### both laws -/
theorem there {k n : Int} {x : ByteArray} (h : nameF k n = (x, 0)) : numberF 3 k x = (n, 0) ∧ (1 ≤ k ∧ k ≤ 8) ∧ x.size ≤ 40 := by
  unfold nameF at h
  split at h
  · rename_i hk
    subst hk
    split at h
    · cases h
    rename_i hn
    obtain ⟨i, rfl⟩ : ∃ i : Fin 128, n = (i.val : Int) := ⟨⟨n.toNat, by omega⟩, by simp; omega⟩
    have h3 := reg_small i
    rw [h] at h3
    rcases reg_there i with h1 | h1
    · rw [h] at h1; exact ⟨h1, by decide, h3⟩
    · rw [h] at h1; exact absurd rfl h1
  · split at h
    · rename_i s hs
      injection h with h
      subst h
      have := tbl_ok (nameIn_mem hs)
      exact ⟨this.2.1, by omega, this.2.2.2⟩
    · split at h
      · rename_i hk
        obtain ⟨rfl, h0, h1⟩ := hk
        injection h with h
        subst h
        refine ⟨?_, by decide, sysName_size h0 h1⟩
        unfold numberF
        rw [if_neg (by omega), aliasF_six, show tblF 6 = systemsL from rfl, sysName_new h0 h1, if_pos rfl, sys_back h0 h1]
      · cases h

theorem back {k m : Int} {s : ByteArray} (h : numberF 3 k s = (m, 0)) : ∃ x, nameF k m = (x, 0) ∧ (x = s ∨ (k = 2 ∧ (s = hsS ∨ s = loS)) ∨ k = 6) := by
  unfold numberF at h
  split at h
  · rename_i hk
    subst hk
    split at h
    case isFalse he =>
      injection h with _ h
      exact absurd h he
    rename_i he
    injection h with h
    subst h
    obtain ⟨⟨i, hi⟩, hr⟩ := reg_back (r := (regF 3 s).1) (s := s) (by rw [← he])
    refine ⟨s, ?_, .inl rfl⟩
    generalize (regF 3 s).1 = r at hi hr
    obtain ⟨n, x, p⟩ := r
    simp only at hi
    subst hi
    unfold nameF
    have := i.isLt
    rw [if_pos rfl, if_neg (by unfold numOfF; cases x <;> cases p <;> simp <;> omega), reg_round i x p, hr]
  · rename_i hk
    split at h
    · rename_i n hn
      injection h with h
      subst h
      have := tbl_ok (numIn_mem hn)
      refine ⟨_, by unfold nameF; rw [if_neg hk, this.2.2.1], ?_⟩
      unfold aliasF
      split
      · rename_i hc; exact .inr (.inl ⟨hc.1, .inl hc.2⟩)
      split
      · rename_i hc; exact .inr (.inl ⟨hc.1, .inr hc.2⟩)
      · exact .inl rfl
    · split at h
      case isFalse => cases h
      rename_i hk6
      subst hk6
      split at h
      case h_2 => cases h
      rename_i n hn
      injection h with h
      subst h
      have hb : 0 ≤ n ∧ n < 32768 := by
        unfold sysF at hn
        split at hn
        case isFalse => cases hn
        exact sysN_range hn
      unfold nameF
      rw [if_neg hk]
      split
      · exact ⟨_, rfl, .inr (.inr rfl)⟩
      · rw [if_pos ⟨rfl, hb⟩]; exact ⟨_, rfl, .inr (.inr rfl)⟩

theorem word_of {k n : Int} {x : ByteArray} (hk : 1 ≤ k ∧ k ≤ 8) (h : numberF 3 k x = (n, 0)) : wordF 3 x = true := by
  obtain ⟨i, rfl⟩ : ∃ i : Nat, k = ((i + 1 : Nat) : Int) := ⟨(k - 1).toNat, by omega⟩
  exact wordN_yes (i := i) (by rw [h]) (by omega)

end Go.Proofs.YtkjkogmnijfanaaDoor
