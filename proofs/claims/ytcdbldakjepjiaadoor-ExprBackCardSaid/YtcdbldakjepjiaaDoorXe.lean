/- A value's text, read and reckoned again. No program in sight. -/
import Derived.Test.YtcdbldakjepjiaaDoorXd
import Derived.Test.YtcdbldakjepjiaaDoorXm
import Derived.Test.YtcdbldakjepjiaaDoorL1
set_option linter.unusedVariables false
set_option linter.unusedSimpArgs false
namespace Go.Proofs.YtcdbldakjepjiaaDoor.Ex
open Go.RowKit
set_option maxRecDepth 100000

/-! ### Tokens -/
abbrev plusS : ByteArray := ⟨#[43]⟩
abbrev minusS : ByteArray := ⟨#[45]⟩
def numT (n : Int) : Tok := ⟨2, emp, n, 0⟩
def nameT (s : ByteArray) : Tok := ⟨1, s, 0, 0⟩
def sgnT (s : ByteArray) : Tok := ⟨4, s, 0, 0⟩
theorem check_num (n : Int) : checkT (numT n) = 0 := by unfold checkT isT numT; simp
theorem check_name {s : ByteArray} (h : symB s = true) : checkT (nameT s) = 0 := by
  unfold symB at h
  rw [Bool.and_eq_true, nameB_nameL] at h
  unfold checkT isT nameT
  simp [h.2]
theorem txt_num {n : Int} (h : 0 ≤ n) : txtL (numT n) = dL n := by
  unfold txtL textT dL
  rw [if_pos (check_num n)]
  rfl
theorem txt_name {s : ByteArray} (h : symB s = true) : txtL (nameT s) = toBytes s := by
  unfold txtL textT
  rw [if_pos (check_name h)]
  rfl
theorem txt_sgn {s : ByteArray} (h : checkT (sgnT s) = 0) : txtL (sgnT s) = toBytes s := by
  unfold txtL textT
  rw [if_pos h]
  rfl
theorem apart_sgn (t : Tok) (s : ByteArray) (h : s ≠ ⟨#[47]⟩) : apartF t (sgnT s) = false := by
  unfold apartF wordT slashT sgnT
  simp [h]
theorem sgn_apart (t : Tok) (s : ByteArray) (h : s ≠ ⟨#[47]⟩) : apartF (sgnT s) t = false := by
  unfold apartF wordT slashT sgnT
  simp [h]
theorem sep_sgn (t : Tok) {s : ByteArray} (h : s ≠ ⟨#[47]⟩) : sepF (some t) (sgnT s) = false := apart_sgn t s h
theorem sgn_sep (t : Tok) {s : ByteArray} (h : s ≠ ⟨#[47]⟩) : sepF (some (sgnT s)) t = false := sgn_apart t s h
theorem minus_ne : minusS ≠ ⟨#[47]⟩ := by decide
theorem plus_ne : plusS ≠ ⟨#[47]⟩ := by decide
theorem word_apart {a b : Tok} (ha : slashT a = false) (hb : wordT b = false) : apartF a b = false := by unfold apartF; rw [ha, hb]; simp
theorem rend_cons (p : Option Tok) (t : Tok) (r : List Tok) (h : sepF p t = false) : rendL p (t :: r) = txtL t ++ rendL (some t) r := by
  rw [rendL, h]; rfl
theorem decG_eq : ∀ (f n : Nat), n < 10 ^ (f + 1) → decG (f + 1) n = Lib.decDigits n
  | 0, n, h => by
    have h10 : n < 10 := by simpa using h
    rw [decG, if_pos h10, Lib.decDigits, dif_pos h10]
  | f + 1, n, h => by
    rw [decG, Lib.decDigits]
    by_cases h10 : n < 10
    · rw [if_pos h10, dif_pos h10]
    · rw [if_neg h10, dif_neg h10, decG_eq f (n / 10) (by rw [Nat.pow_succ] at h; omega)]
theorem decS_dL {n : Nat} (h : n < 18446744073709551616) : toBytes (decS n) = dL (n : Int) := by
  unfold dL decF decS
  rw [decG_eq 19 n (by omega), Int.toNat_natCast]

/-! ### The tokens of a value's text -/
def tailT (a : Int) : List Tok := if a = 0 then [] else if a < 0 then [sgnT minusS, numT (-a)] else [sgnT plusS, numT a]
def midT (m : ByteArray) : List Tok := if m = emp then [] else [sgnT minusS, nameT m]
def valT (v : Val) : List Tok :=
  if v.plus = emp ∧ v.minus = emp then (if v.add < 0 then [sgnT minusS, numT (-v.add)] else [numT v.add])
  else (if v.plus = emp then numT 0 else nameT v.plus) :: (midT v.minus ++ tailT v.add)
structure ValOk (v : Val) : Prop where
  p : v.plus = emp ∨ symB v.plus = true
  m : v.minus = emp ∨ symB v.minus = true
  ne : v.plus = v.minus → v.plus = emp
  lo : -9223372036854775808 ≤ v.add
  hi : v.add ≤ 9223372036854775807
theorem print_ok {v : Val} {s : ByteArray} (h : printF v = (s, 0)) (lo : -9223372036854775808 ≤ v.add) (hi : v.add ≤ 9223372036854775807) : ValOk v := by
  unfold printF at h
  split at h
  · injection h with h1 h2; cases h2
  · rename_i c1
    split at h
    · injection h with h1 h2; cases h2
    · rename_i c2
      refine ⟨?_, ?_, fun e => ?_, lo, hi⟩
      · by_cases e : v.plus = emp
        · exact .inl e
        · right
          cases hs : symB v.plus with
          | true => rfl
          | false => exact absurd (.inl ⟨e, hs⟩) c1
      · by_cases e : v.minus = emp
        · exact .inl e
        · right
          cases hs : symB v.minus with
          | true => rfl
          | false => exact absurd (.inr ⟨e, hs⟩) c1
      · by_cases e2 : v.plus = emp
        · exact e2
        · exact absurd ⟨e, e2⟩ c2
theorem sgnM : checkT (sgnT minusS) = 0 := by decide +kernel
theorem sgnP : checkT (sgnT plusS) = 0 := by decide +kernel
theorem tail_rend {a : Int} (lo : -9223372036854775808 ≤ a) (hi : a ≤ 9223372036854775807) (t : Tok) : rendL (some t) (tailT a) = if a = 0 then [] else toBytes (signS a) := by
  unfold tailT signS
  by_cases h0 : a = 0
  · rw [if_pos h0, if_pos h0]; rfl
  rw [if_neg h0, if_neg h0]
  by_cases h : a < 0
  · rw [if_pos h, if_pos h, rend_cons _ _ _ (sep_sgn _ minus_ne), rend_cons _ _ _ (sgn_sep _ minus_ne), txt_sgn sgnM, txt_num (by omega), toBytes_append, decS_dL (by omega), Int.toNat_of_nonneg (by omega), rendL, List.append_nil]
  · rw [if_neg h, if_neg h, rend_cons _ _ _ (sep_sgn _ plus_ne), rend_cons _ _ _ (sgn_sep _ plus_ne), txt_sgn sgnP, txt_num (by omega), toBytes_append, decS_dL (by omega), Int.toNat_of_nonneg (by omega), rendL, List.append_nil]
theorem val_rend {v : Val} {s : ByteArray} (h : printF v = (s, 0)) (hv : ValOk v) : toBytes s = rendL none (valT v) := by
  obtain ⟨hp, hm, hne, lo, hi⟩ := hv
  unfold printF at h
  split at h
  · injection h with h1 h2; cases h2
  split at h
  · injection h with h1 h2; cases h2
  unfold valT
  split at h
  · rename_i hpl
    rw [if_pos hpl]
    split at h
    · rename_i hn
      rw [if_pos hn]
      injection h with h1 h2
      have := tail_rend lo hi (numT 0)
      unfold tailT at this
      rw [if_neg (by omega), if_pos hn, if_neg (by omega), h1] at this
      rw [← this, rend_cons _ _ _ (sep_sgn _ minus_ne), rend_cons none _ _ rfl]
    · rename_i hn
      rw [if_neg hn]
      injection h with h1 h2
      rw [rend_cons none _ _ rfl, txt_num (by omega), rendL, List.append_nil, ← h1, decS_dL (by omega), Int.toNat_of_nonneg (by omega)]
  · rename_i hpl
    rw [if_neg hpl]
    injection h with h1 h2
    have hb : ∀ x : List Tok, rendL none ((if v.plus = emp then numT 0 else nameT v.plus) :: x) = toBytes (if v.plus = emp then ⟨#[48]⟩ else v.plus) ++ rendL (some (if v.plus = emp then numT 0 else nameT v.plus)) x := by
      intro x
      rw [rend_cons none _ _ rfl]
      congr 1
      by_cases e : v.plus = emp
      · rw [if_pos e, if_pos e, txt_num (by decide)]
        decide +kernel
      · rw [if_neg e, if_neg e, txt_name (hp.resolve_left e)]
    rw [hb, ← h1]
    obtain ⟨B, hB⟩ : ∃ B, (if v.plus = emp then numT 0 else nameT v.plus) = B := ⟨_, rfl⟩
    rw [hB]
    obtain ⟨O, hO⟩ : ∃ O, (if v.plus = emp then (⟨#[48]⟩ : ByteArray) else v.plus) = O := ⟨_, rfl⟩
    simp only [hO]
    have key : ∀ (O2 : ByteArray) (t : Tok), toBytes (if v.add = 0 then O2 else O2 ++ signS v.add) = toBytes O2 ++ rendL (some t) (tailT v.add) := by
      intro O2 t
      rw [tail_rend lo hi]
      split
      · rw [List.append_nil]
      · rw [toBytes_append]
    by_cases em : v.minus = emp
    · simp only [if_pos em]
      unfold midT
      rw [if_pos em, List.nil_append]
      exact key O B
    · simp only [if_neg em]
      have hsm := hm.resolve_left em
      unfold midT
      rw [if_neg em, List.cons_append, List.cons_append, List.nil_append, rend_cons _ _ _ (sep_sgn _ minus_ne), rend_cons _ _ _ (sgn_sep _ minus_ne), txt_sgn sgnM, txt_name hsm, key _ (nameT v.minus), toBytes_append, toBytes_append]
      simp only [List.append_assoc]
theorem val_toks {v : Val} (hv : ValOk v) : ∀ u ∈ valT v, checkT u = 0 ∧ 0 ≤ u.n ∧ u.n < 18446744073709551616 := by
  obtain ⟨hp, hm, hne, lo, hi⟩ := hv
  have hs : ∀ u, u = sgnT minusS ∨ u = sgnT plusS → checkT u = 0 ∧ 0 ≤ u.n ∧ u.n < 18446744073709551616 := by
    rintro u (rfl | rfl)
    · exact ⟨sgnM, by decide, by decide⟩
    · exact ⟨sgnP, by decide, by decide⟩
  have hnum : ∀ n : Int, 0 ≤ n → n < 18446744073709551616 → checkT (numT n) = 0 ∧ 0 ≤ (numT n).n ∧ (numT n).n < 18446744073709551616 := fun n h0 h1 => ⟨check_num n, h0, h1⟩
  intro u hu
  unfold valT at hu
  split at hu
  · split at hu
    · simp only [List.mem_cons, List.not_mem_nil, or_false] at hu
      rcases hu with rfl | rfl
      · exact hs _ (.inl rfl)
      · exact hnum _ (by omega) (by omega)
    · simp only [List.mem_cons, List.not_mem_nil, or_false] at hu
      subst hu
      exact hnum _ (by omega) (by omega)
  · rw [List.mem_cons, List.mem_append] at hu
    rcases hu with rfl | hu | hu
    · split
      · exact hnum _ (by omega) (by omega)
      · rename_i e
        exact ⟨check_name (hp.resolve_left e), Int.le_refl _, by show (0 : Int) < _; decide⟩
    · unfold midT at hu
      split at hu
      · simp at hu
      · rename_i e
        simp only [List.mem_cons, List.not_mem_nil, or_false] at hu
        rcases hu with rfl | rfl
        · exact hs _ (.inl rfl)
        · exact ⟨check_name (hm.resolve_left e), Int.le_refl _, by show (0 : Int) < _; decide⟩
    · unfold tailT at hu
      split at hu
      · simp at hu
      · split at hu
        · simp only [List.mem_cons, List.not_mem_nil, or_false] at hu
          rcases hu with rfl | rfl
          · exact hs _ (.inl rfl)
          · exact hnum _ (by omega) (by omega)
        · simp only [List.mem_cons, List.not_mem_nil, or_false] at hu
          rcases hu with rfl | rfl
          · exact hs _ (.inr rfl)
          · exact hnum _ (by omega) (by omega)
theorem bare_valT (v : Val) : (valT v).map bare = valT v := by
  unfold valT midT tailT
  repeat' split
  all_goals rfl
/-- the tokens that are read -/
theorem val_lex {v : Val} {s : ByteArray} (h : printF v = (s, 0)) (hv : ValOk v) (hs : s.size ≤ 512) : ∃ ts, linesF (toBytes s) = (ts, s.size, 0) ∧ ts.map bare = valT v := by
  have e := val_rend h hv
  obtain ⟨ts, k1, k2⟩ := relex_rend none 0 (val_toks hv)
  refine ⟨ts, ?_, k2.trans (bare_valT v)⟩
  have hl := toBytes_length s
  unfold linesF
  rw [if_neg (by omega), e, k1, ← e, hl, Nat.zero_add]

/-! ### The terms -/
def termsV (v : Val) : List Term :=
  if v.plus = emp ∧ v.minus = emp then (if v.add < 0 then [⟨1, wrap64 (-v.add), emp⟩, ⟨3, 0, emp⟩] else [⟨1, wrap64 v.add, emp⟩])
  else (if v.plus = emp then ⟨1, 0, emp⟩ else ⟨2, 0, v.plus⟩) :: ((if v.minus = emp then [] else [⟨2, 0, v.minus⟩, ⟨9, 0, emp⟩]) ++ (if v.add = 0 then [] else if v.add < 0 then [⟨1, wrap64 (-v.add), emp⟩, ⟨9, 0, emp⟩] else [⟨1, wrap64 v.add, emp⟩, ⟨8, 0, emp⟩]))
theorem nxt_sgn {l : List Tok} {p : Nat} {u : Tok} {s : ByteArray} (h : l[p]? = some u) (hb : bare u = sgnT s) : nxt l p = s := by
  have e1 : u.kind = 4 := congrArg Tok.kind hb
  have e2 : u.text = s := congrArg Tok.text hb
  unfold nxt
  rw [h]
  simp only [e1, if_true, e2]
theorem nxt_end {l : List Tok} {p : Nat} (h : l[p]? = none) : nxt l p = emp := by unfold nxt; rw [h]
theorem stop_end {l : List Tok} {p : Nat} (h : l[p]? = none) : Stop l p := .inl (nxt_end h)
section
variable {l : List Tok} {N p : Nat} {u : Tok}
theorem rd_num {n : Int} (h : l[p]? = some u) (hb : bare u = numT n) : Reads (operandF l (N + 1)) p (p + 1) 0 [⟨1, wrap64 n, emp⟩] := by
  have e1 : u.kind = 2 := congrArg Tok.kind hb
  have e2 : u.n = n := congrArg Tok.n hb
  have := reads_num (N := N) h e1
  rw [e2] at this; exact this
theorem rd_name {s : ByteArray} (h : l[p]? = some u) (hb : bare u = nameT s) : Reads (operandF l (N + 1)) p (p + 1) 0 [⟨2, 0, s⟩] := by
  have e1 : u.kind = 1 := congrArg Tok.kind hb
  have e2 : u.text = s := congrArg Tok.text hb
  have := reads_name (N := N) h e1
  rw [e2] at this; exact this
end
/-- a sum: an operand, then operands with + or - ahead of them -/
theorem reads_sum {l : List Tok} {read : PS → PR} {p q z : Nat} {a c : List Term} (h : Reads (rowF l read [5, 6, 7]) p q 0 a) (hc : Chn l (rowF l read [5, 6, 7]) [8, 9] q z 0 c) (hs : Stop l z) : Reads (levelsF l read) p z 0 (a ++ c) := by
  have upr : ∀ {read : PS → PR} {kinds : List Int} {x : List Term} {p : Nat}, Reads read p z 0 x → (∀ k ∈ kinds, 5 ≤ k ∧ k ≤ 14) → Reads (rowF l read kinds) p z 0 x := fun h hf => reads_row0 h (Int.le_refl _) (stop_row hs _ hf)
  unfold levelsF
  exact upr (upr (upr (upr (reads_row h hc) (by simp)) (by simp)) (by simp)) (by simp)
theorem found_pm {l : List Tok} {q : Nat} {k : Int} (hk : k = 8 ∨ k = 9) (h : nxt l q = signF k) : foundF (nxt l q) [5, 6, 7] 0 = 0 ∧ foundF (nxt l q) [8, 9] 0 = k := by
  rw [h]
  rcases hk with rfl | rfl <;> decide +kernel
theorem prod_of {l : List Tok} {read : PS → PR} {p q : Nat} {a : List Term} (h : Reads read p q 0 a) (hn : Stop l q ∨ nxt l q = signF 8 ∨ nxt l q = signF 9) : Reads (rowF l read [5, 6, 7]) p q 0 a := by
  refine reads_row0 h (Int.le_refl _) ?_
  rcases hn with hn | hn | hn
  · exact stop_row hn _ (by simp)
  · exact (found_pm (.inl rfl) hn).1
  · exact (found_pm (.inr rfl) hn).1
theorem chn_one {l : List Tok} {read : PS → PR} {q : Nat} {k : Int} {b c : List Term} {z : Nat} (hk : k = 8 ∨ k = 9) (hn : nxt l q = signF k) (hr : Reads read (q + 1) (q + 2) 0 b) (hc : Chn l read [8, 9] (q + 2) z 0 c) : Chn l read [8, 9] q z 0 (b ++ ⟨k, 0, emp⟩ :: c) :=
  .cons (found_pm hk hn).2 (by omega) hr (by omega) hc (Int.le_refl _) (Int.le_refl _)
theorem chn_end {l : List Tok} {read : PS → PR} {q : Nat} (h : Stop l q) : Chn l read [8, 9] q q 0 [] := .nil (stop_row h _ (by simp))
theorem map_two {ts : List Tok} {a b : Tok} (h : ts.map bare = [a, b]) : ∃ x y, ts = [x, y] ∧ bare x = a ∧ bare y = b := by
  match ts, h with
  | [x, y], h => simp only [List.map_cons, List.map_nil, List.cons.injEq] at h; exact ⟨x, y, rfl, h.1, h.2.1⟩
theorem map_one {ts : List Tok} {a : Tok} (h : ts.map bare = [a]) : ∃ x, ts = [x] ∧ bare x = a := by
  match ts, h with
  | [x], h => simp only [List.map_cons, List.map_nil, List.cons.injEq] at h; exact ⟨x, rfl, h.1⟩
theorem map_three {ts : List Tok} {a b c : Tok} (h : ts.map bare = [a, b, c]) : ∃ x y z, ts = [x, y, z] ∧ bare x = a ∧ bare y = b ∧ bare z = c := by
  match ts, h with
  | [x, y, z], h => simp only [List.map_cons, List.map_nil, List.cons.injEq] at h; exact ⟨x, y, z, rfl, h.1, h.2.1, h.2.2.1⟩
theorem map_five {ts : List Tok} {a b c d e : Tok} (h : ts.map bare = [a, b, c, d, e]) : ∃ x y z v w, ts = [x, y, z, v, w] ∧ bare x = a ∧ bare y = b ∧ bare z = c ∧ bare v = d ∧ bare w = e := by
  match ts, h with
  | [x, y, z, v, w], h => simp only [List.map_cons, List.map_nil, List.cons.injEq] at h; exact ⟨x, y, z, v, w, rfl, h.1, h.2.1, h.2.2.1, h.2.2.2.1, h.2.2.2.2.1⟩
theorem parse_of {l : List Tok} {a : List Term} {d : Int} (h : Reads (levelsF l (operandF l l.length)) 0 l.length d a) (hd : d ≤ 64) (hl : a.length ≤ 256) : parseF l = .ok ⟨l.length, 0, a⟩ := by
  have := h 0 [] (Int.le_refl _) (by omega) (by simpa using hl)
  simpa [parseF] using this
theorem wrap64_id {a : Int} (lo : -9223372036854775808 ≤ a) (hi : a ≤ 9223372036854775807) : wrap64 a = a := by unfold wrap64; omega
/-- an operand of a value's text: 0 or a name -/
theorem rd_base {l : List Tok} {N p : Nat} {u : Tok} {v : Val} (h : l[p]? = some u) (hb : bare u = if v.plus = emp then numT 0 else nameT v.plus) : Reads (operandF l (N + 1)) p (p + 1) 0 [if v.plus = emp then ⟨1, 0, emp⟩ else ⟨2, 0, v.plus⟩] := by
  by_cases e : v.plus = emp
  · rw [if_pos e] at hb ⊢
    have := rd_num (N := N) (n := 0) h hb
    rw [show wrap64 0 = 0 from by decide +kernel] at this
    exact this
  · rw [if_neg e] at hb ⊢
    exact rd_name h hb
theorem val_parse {v : Val} (hv : ValOk v) {ts : List Tok} (h : ts.map bare = valT v) : parseF ts = .ok ⟨ts.length, 0, termsV v⟩ := by
  unfold valT at h
  unfold termsV
  split at h
  · rename_i c
    rw [if_pos c]
    split at h
    · rename_i c2
      rw [if_pos c2]
      obtain ⟨x, y, rfl, hx, hy⟩ := map_two h
      have k1 : x.kind = 4 := congrArg Tok.kind hx
      have k2 : x.text = minusS := congrArg Tok.text hx
      refine parse_of (d := 1) ?_ (by decide) (by simp)
      have h1 : Reads (operandF [x, y] 1) 1 2 0 [⟨1, wrap64 (-v.add), emp⟩] := rd_num (l := [x, y]) rfl hy
      have h2 := reads_un (l := [x, y]) (N := 1) (p := 0) (q := 2) (Int.le_refl 0) rfl k1 (.inl ⟨rfl, k2⟩) h1
      exact reads_level0 h2 (by decide) (stop_end rfl)
    · rename_i c2
      rw [if_neg c2]
      obtain ⟨x, rfl, hx⟩ := map_one h
      refine parse_of (d := 0) ?_ (by decide) (by simp)
      exact reads_level0 (rd_num (l := [x]) rfl hx) (Int.le_refl _) (stop_end rfl)
  · rename_i c
    rw [if_neg c]
    obtain ⟨B, hB⟩ : ∃ B, (if v.plus = emp then numT 0 else nameT v.plus) = B := ⟨_, rfl⟩
    obtain ⟨b, hb⟩ : ∃ b : Term, (if v.plus = emp then ⟨1, 0, emp⟩ else ⟨2, 0, v.plus⟩) = b := ⟨_, rfl⟩
    have base : ∀ {l : List Tok} {N p : Nat} {u : Tok}, l[p]? = some u → bare u = B → Reads (operandF l (N + 1)) p (p + 1) 0 [b] := fun h1 h2 => by
      rw [← hb]; rw [← hB] at h2; exact rd_base h1 h2
    rw [hb]
    rw [hB] at h
    unfold midT tailT at h
    by_cases em : v.minus = emp
    · rw [if_pos em, List.nil_append] at h
      rw [if_pos em, List.nil_append]
      by_cases e0 : v.add = 0
      · rw [if_pos e0] at h
        rw [if_pos e0]
        obtain ⟨x, rfl, hx⟩ := map_one h
        exact parse_of (d := 0) (reads_level0 (base (l := [x]) rfl hx) (Int.le_refl _) (stop_end rfl)) (by decide) (by simp)
      · rw [if_neg e0] at h
        rw [if_neg e0]
        by_cases en : v.add < 0
        · rw [if_pos en] at h
          rw [if_pos en]
          obtain ⟨x, y, z, rfl, hx, hy, hz⟩ := map_three h
          have n1 : nxt [x, y, z] 1 = signF 9 := nxt_sgn (l := [x, y, z]) rfl hy
          exact parse_of (d := 0) (reads_sum (prod_of (base (l := [x, y, z]) (p := 0) rfl hx) (.inr (.inr n1))) (chn_one (.inr rfl) n1 (prod_of (rd_num (l := [x, y, z]) (p := 2) rfl hz) (.inl (stop_end rfl))) (chn_end (stop_end rfl))) (stop_end rfl)) (by decide) (by simp)
        · rw [if_neg en] at h
          rw [if_neg en]
          obtain ⟨x, y, z, rfl, hx, hy, hz⟩ := map_three h
          have n1 : nxt [x, y, z] 1 = signF 8 := nxt_sgn (l := [x, y, z]) rfl hy
          exact parse_of (d := 0) (reads_sum (prod_of (base (l := [x, y, z]) (p := 0) rfl hx) (.inr (.inl n1))) (chn_one (.inl rfl) n1 (prod_of (rd_num (l := [x, y, z]) (p := 2) rfl hz) (.inl (stop_end rfl))) (chn_end (stop_end rfl))) (stop_end rfl)) (by decide) (by simp)
    · rw [if_neg em] at h
      rw [if_neg em]
      by_cases e0 : v.add = 0
      · rw [if_pos e0] at h
        rw [if_pos e0]
        obtain ⟨x, y, z, rfl, hx, hy, hz⟩ := map_three h
        have n1 : nxt [x, y, z] 1 = signF 9 := nxt_sgn (l := [x, y, z]) rfl hy
        exact parse_of (d := 0) (reads_sum (prod_of (base (l := [x, y, z]) (p := 0) rfl hx) (.inr (.inr n1))) (chn_one (.inr rfl) n1 (prod_of (rd_name (l := [x, y, z]) (p := 2) rfl hz) (.inl (stop_end rfl))) (chn_end (stop_end rfl))) (stop_end rfl)) (by decide) (by simp)
      · rw [if_neg e0] at h
        rw [if_neg e0]
        by_cases en : v.add < 0
        · rw [if_pos en] at h
          rw [if_pos en]
          obtain ⟨x, y, z, s, w, rfl, hx, hy, hz, hs, hw⟩ := map_five h
          have n1 : nxt [x, y, z, s, w] 1 = signF 9 := nxt_sgn (l := [x, y, z, s, w]) rfl hy
          have n3 : nxt [x, y, z, s, w] 3 = signF 9 := nxt_sgn (l := [x, y, z, s, w]) rfl hs
          exact parse_of (d := 0) (reads_sum (prod_of (base (l := [x, y, z, s, w]) (p := 0) rfl hx) (.inr (.inr n1))) (chn_one (.inr rfl) n1 (prod_of (rd_name (l := [x, y, z, s, w]) (p := 2) rfl hz) (.inr (.inr n3))) (chn_one (.inr rfl) n3 (prod_of (rd_num (l := [x, y, z, s, w]) (p := 4) rfl hw) (.inl (stop_end rfl))) (chn_end (stop_end rfl)))) (stop_end rfl)) (by decide) (by simp)
        · rw [if_neg en] at h
          rw [if_neg en]
          obtain ⟨x, y, z, s, w, rfl, hx, hy, hz, hs, hw⟩ := map_five h
          have n1 : nxt [x, y, z, s, w] 1 = signF 9 := nxt_sgn (l := [x, y, z, s, w]) rfl hy
          have n3 : nxt [x, y, z, s, w] 3 = signF 8 := nxt_sgn (l := [x, y, z, s, w]) rfl hs
          exact parse_of (d := 0) (reads_sum (prod_of (base (l := [x, y, z, s, w]) (p := 0) rfl hx) (.inr (.inr n1))) (chn_one (.inr rfl) n1 (prod_of (rd_name (l := [x, y, z, s, w]) (p := 2) rfl hz) (.inr (.inl n3))) (chn_one (.inl rfl) n3 (prod_of (rd_num (l := [x, y, z, s, w]) (p := 4) rfl hw) (.inl (stop_end rfl))) (chn_end (stop_end rfl)))) (stop_end rfl)) (by decide) (by simp)

/-! ### What they come to -/
theorem app_emp (s : ByteArray) : s ++ emp = s := ByteArray.append_empty
theorem emp_app (s : ByteArray) : emp ++ s = s := ByteArray.empty_append
theorem add_pm {p m : ByteArray} (h : p = m → p = emp) (hm : m ≠ emp) : addF ⟨0, p, emp⟩ (negF ⟨0, m, emp⟩) = (⟨0, p, m⟩, 0) := by
  have hpm : ¬ p = m := fun e => hm (e ▸ h e)
  have c1 : clearF ⟨0, p, emp⟩ = ⟨0, p, emp⟩ := by
    unfold clearF
    simp only
    split
    · rename_i e; rw [e]
    · rfl
  have c2 : clearF (negF ⟨0, m, emp⟩) = ⟨0, emp, m⟩ := by
    unfold clearF negF
    simp only
    rw [if_neg (fun e => hm e.symm), show wrap64 (-0) = 0 from by decide +kernel]
  unfold addF
  rw [c1, c2]
  unfold meetF
  simp only [if_neg hpm, if_true]
  rw [if_neg (by simp)]
  rw [app_emp, emp_app, show wrap64 (0 + 0) = 0 from by decide +kernel]
theorem add_num {p m : ByteArray} {n : Int} (h : p = m → p = emp) : addF ⟨0, p, m⟩ ⟨n, emp, emp⟩ = (⟨wrap64 n, p, m⟩, 0) := by
  have c1 : clearF ⟨0, p, m⟩ = ⟨0, p, m⟩ := by
    unfold clearF
    simp only
    split
    · rename_i e; rw [← e, h e]
    · rfl
  have c2 : clearF ⟨n, emp, emp⟩ = ⟨n, emp, emp⟩ := by unfold clearF; simp
  unfold addF
  rw [c1, c2]
  have mt : ∀ x : ByteArray, meetF x emp = (x, emp) := by
    intro x
    unfold meetF
    split
    · rename_i e; rw [e]
    · rfl
  simp only [mt]
  rw [if_neg (by simp), app_emp, app_emp, Int.zero_add]
theorem tk : takesF 1 = 0 ∧ takesF 2 = 0 ∧ takesF 3 = 1 ∧ takesF 8 = 2 ∧ takesF 9 = 2 := by decide
theorem ev_leaf {vs : List Val} {k n : Int} {s : ByteArray} {r : List Term} (hk : k = 1 ∨ k = 2) : evalF vs (⟨k, n, s⟩ :: r) = evalF (vs ++ [⟨n, s, emp⟩]) r :=
  evalF_leaf (t := ⟨k, n, s⟩) (by show takesF k = 0; rcases hk with rfl | rfl <;> decide)
theorem ev_two {x y v : Val} {k : Int} {r : List Term} (hk : k = 8 ∨ k = 9) (h : applyF k x y = (v, 0)) : evalF [x, y] (⟨k, 0, emp⟩ :: r) = evalF [v] r := by
  have := evalF_op (vs := [x, y]) (t := ⟨k, 0, emp⟩) (r := r) (v := v) (by rcases hk with rfl | rfl <;> decide) h
  rw [this]
  have e : takesF k = 2 := by rcases hk with rfl | rfl <;> decide
  simp [e]
theorem val_eval {v : Val} (hv : ValOk v) : evalAll (termsV v) = (v, 0) := by
  obtain ⟨a, p, m⟩ := v
  obtain ⟨hp, hm, hne, lo, hi⟩ := hv
  simp only at hp hm hne lo hi
  have w1 := wrap64_id lo hi
  have w2 : a < 0 → wrap64 (-wrap64 (-a)) = a := by intro h; unfold wrap64; omega
  have t1 : ∀ n : Int, termB ⟨1, n, emp⟩ = true := fun n => by simp [termB]
  have t2 : ∀ s : ByteArray, symB s = true → termB ⟨2, 0, s⟩ = true := fun s h => by simp [termB, h]
  have t3 : termB ⟨3, 0, emp⟩ = true := by decide +kernel
  have t8 : termB ⟨8, 0, emp⟩ = true := by decide +kernel
  have t9 : termB ⟨9, 0, emp⟩ = true := by decide +kernel
  obtain ⟨k1, k2, k3, k8, k9⟩ := tk
  unfold termsV
  simp only
  by_cases c : p = emp ∧ m = emp
  · rw [if_pos c]
    obtain ⟨rfl, rfl⟩ := c
    by_cases c2 : a < 0
    · rw [if_pos c2]
      have hc : checkF [⟨1, wrap64 (-a), emp⟩, ⟨3, 0, emp⟩] = 0 := by simp [checkF, formF, t1, t3, k1, k3]
      unfold evalAll
      rw [if_pos hc, ev_leaf (.inl rfl)]
      have := evalF_op (vs := [⟨wrap64 (-a), emp, emp⟩]) (t := ⟨3, 0, emp⟩) (r := []) (v := ⟨a, emp, emp⟩) (by decide) (by show applyF 3 _ ⟨wrap64 (-a), emp, emp⟩ = _; unfold applyF negF; rw [if_pos rfl]; simp only [w2 c2])
      rw [List.nil_append, this, evalF]
      rfl
    · rw [if_neg c2]
      have hc : checkF [⟨1, wrap64 a, emp⟩] = 0 := by simp [checkF, formF, t1, k1]
      unfold evalAll
      rw [if_pos hc, ev_leaf (.inl rfl), evalF, w1]
      rfl
  · rw [if_neg c]
    obtain ⟨b, hb⟩ : ∃ b : Term, (if p = emp then ⟨1, 0, emp⟩ else ⟨2, 0, p⟩) = b := ⟨_, rfl⟩
    have bt : termB b = true := by
      rw [← hb]
      split
      · exact t1 0
      · rename_i e; exact t2 p (hp.resolve_left e)
    have bk : takesF b.kind = 0 := by
      rw [← hb]
      split
      · exact k1
      · exact k2
    have be : ∀ (r : List Term), evalF [] (b :: r) = evalF [⟨0, p, emp⟩] r := by
      intro r
      rw [← hb]
      by_cases e : p = emp
      · rw [if_pos e, ev_leaf (.inl rfl), e]; rfl
      · rw [if_neg e, ev_leaf (.inr rfl)]; rfl
    rw [hb]
    have sub : m ≠ emp → ∀ r, evalF [⟨0, p, emp⟩] (⟨2, 0, m⟩ :: ⟨9, 0, emp⟩ :: r) = evalF [⟨0, p, m⟩] r := by
      intro em r
      rw [ev_leaf (.inr rfl)]
      exact ev_two (.inr rfl) (by rw [show applyF 9 ⟨0, p, emp⟩ ⟨0, m, emp⟩ = addF ⟨0, p, emp⟩ (negF ⟨0, m, emp⟩) from by simp [applyF]]; exact add_pm hne em)
    have neg : a < 0 → ∀ (m : ByteArray) r, (p = m → p = emp) → evalF [⟨0, p, m⟩] (⟨1, wrap64 (-a), emp⟩ :: ⟨9, 0, emp⟩ :: r) = evalF [⟨a, p, m⟩] r := by
      intro ha m r hne
      rw [ev_leaf (.inl rfl)]
      refine ev_two (.inr rfl) ?_
      rw [show applyF 9 ⟨0, p, m⟩ ⟨wrap64 (-a), emp, emp⟩ = addF ⟨0, p, m⟩ (negF ⟨wrap64 (-a), emp, emp⟩) from by simp [applyF]]
      rw [show negF ⟨wrap64 (-a), emp, emp⟩ = ⟨a, emp, emp⟩ from by unfold negF; simp only [w2 ha], add_num hne, w1]
    have pos : ∀ (m : ByteArray) r, (p = m → p = emp) → evalF [⟨0, p, m⟩] (⟨1, wrap64 a, emp⟩ :: ⟨8, 0, emp⟩ :: r) = evalF [⟨a, p, m⟩] r := by
      intro m r hne
      rw [ev_leaf (.inl rfl)]
      refine ev_two (.inl rfl) ?_
      rw [show applyF 8 ⟨0, p, m⟩ ⟨wrap64 a, emp, emp⟩ = addF ⟨0, p, m⟩ ⟨wrap64 a, emp, emp⟩ from by simp [applyF], w1, add_num hne, w1]
    have fin : evalF [⟨a, p, m⟩] [] = (⟨a, p, m⟩, 0) := rfl
    unfold evalAll
    by_cases em : m = emp
    · rw [if_pos em, List.nil_append]
      have hpe : p = m → p = emp := hne
      subst em
      by_cases e0 : a = 0
      · rw [if_pos e0]
        subst e0
        rw [if_pos (by simp [checkF, formF, bt, bk]), be]
        rfl
      · rw [if_neg e0]
        by_cases en : a < 0
        · rw [if_pos en, if_pos (by simp [checkF, formF, bt, bk, t1, t9, k1, k9]), be, neg en emp _ hne]
          rfl
        · rw [if_neg en, if_pos (by simp [checkF, formF, bt, bk, t1, t8, k1, k8]), be, pos emp _ hne]
          rfl
    · rw [if_neg em]
      have tm := t2 m (hm.resolve_left em)
      by_cases e0 : a = 0
      · rw [if_pos e0]
        subst e0
        rw [if_pos (by simp [checkF, formF, bt, bk, tm, t9, k2, k9]), be, List.append_nil, sub em]
        rfl
      · rw [if_neg e0]
        by_cases en : a < 0
        · rw [if_pos en, if_pos (by simp [checkF, formF, bt, bk, tm, t1, t9, k1, k2, k9]), be, List.cons_append, List.cons_append, List.nil_append, sub em, neg en m _ hne]
          rfl
        · rw [if_neg en, if_pos (by simp [checkF, formF, bt, bk, tm, t1, t8, t9, k1, k2, k8, k9]), be, List.cons_append, List.cons_append, List.nil_append, sub em, pos m _ hne]
          rfl

end Go.Proofs.YtcdbldakjepjiaaDoor.Ex
