/- An expression's text, read again. No program in sight. -/
import Derived.Test.YtcdbldakjepjiaaDoorXe
import Derived.Test.YtcdbldakjepjiaaDoorXi
set_option linter.unusedVariables false
set_option linter.unusedSimpArgs false
namespace Go.Proofs.YtcdbldakjepjiaaDoor.Ex
open Go.RowKit
set_option maxRecDepth 100000

/-! ### Numbers in hexadecimal digits -/
theorem hexes_val : ∀ n : Nat, n < 16 → Go.Proofs.YtcdbldakjepjiaaDoor.hexB (byteAt hexes (n : Int)) = (n : Int) ∧ wordyB (byteAt hexes (n : Int)) = true ∧ 0 ≤ byteAt hexes (n : Int) ∧ byteAt hexes (n : Int) ≤ 255 := by decide +kernel
theorem hexD_val (u : Int) (i : Nat) : Go.Proofs.YtcdbldakjepjiaaDoor.hexB (hexD u i) = u / 16 ^ i % 16 ∧ 0 ≤ hexD u i ∧ hexD u i ≤ 255 := by
  have h := hexes_val (u / 16 ^ i % 16).toNat (by omega)
  rw [Int.toNat_of_nonneg (by omega)] at h
  exact ⟨h.1, h.2.2⟩
theorem hexL_nat (u : Int) : ∀ (k : Nat) (a : Int), (hexL u k).foldl (fun n c => n * 16 + Go.Proofs.YtcdbldakjepjiaaDoor.hexB c) a = a * 16 ^ k + u % 16 ^ k
  | 0, a => by simp [hexL]
  | k + 1, a => by
    rw [hexL, List.foldl_cons, hexL_nat u k, (hexD_val u k).1]
    have hP : (0 : Int) < 16 ^ k := Int.pow_pos (by decide)
    have e1 : u % 16 ^ (k + 1) = 16 ^ k * (u / 16 ^ k % 16) + u % 16 ^ k := by
      have h1 := Int.mul_ediv_add_emod u (16 ^ k)
      have h2 := Int.mul_ediv_add_emod u (16 ^ (k + 1))
      have h3 : u / 16 ^ (k + 1) = u / 16 ^ k / 16 := by rw [Int.pow_succ, Int.ediv_ediv_of_nonneg (Int.le_of_lt hP)]
      have h4 := Int.mul_ediv_add_emod (u / 16 ^ k) 16
      rw [h3] at h2
      have h6 : (16 : Int) ^ (k + 1) * (u / 16 ^ k / 16) = 16 ^ k * (16 * (u / 16 ^ k / 16)) := by rw [Int.pow_succ, Int.mul_assoc]
      rw [h6] at h2
      have h5 : (16 : Int) ^ k * (u / 16 ^ k) = 16 ^ k * (16 * (u / 16 ^ k / 16)) + 16 ^ k * (u / 16 ^ k % 16) := by rw [← Int.mul_add, h4]
      omega
    rw [e1, Int.pow_succ, Int.add_mul, Int.mul_assoc, Int.mul_comm (16 : Int) (16 ^ k), Int.mul_comm (u / 16 ^ k % 16)]
    omega
theorem hexL_all (u : Int) : ∀ (k : Nat), ∀ c ∈ hexL u k, 0 ≤ c ∧ c ≤ 255 ∧ Go.Proofs.YtcdbldakjepjiaaDoor.hexB c < 16
  | 0, c, h => by simp [hexL] at h
  | k + 1, c, h => by
    rw [hexL, List.mem_cons] at h
    rcases h with rfl | h
    · have := hexD_val u k
      exact ⟨this.2.1, this.2.2, by rw [this.1]; omega⟩
    · exact hexL_all u k c h
theorem hex_wordy {c : Int} (h : Go.Proofs.YtcdbldakjepjiaaDoor.hexB c < 16) : wordyB c = true := by
  have : 48 ≤ c ∧ c ≤ 57 ∨ 97 ≤ c ∧ c ≤ 102 ∨ 65 ≤ c ∧ c ≤ 70 := by
    unfold Go.Proofs.YtcdbldakjepjiaaDoor.hexB at h
    split at h
    · omega
    · split at h
      · omega
      · split at h <;> omega
  unfold wordyB letterB digitB
  simp only [Bool.or_eq_true, decide_eq_true_eq]
  omega
def hexN (u : Int) : List Int := 48 :: 120 :: hexL u 16
theorem number_hex {u : Int} (h0 : 0 ≤ u) (h1 : u < 18446744073709551616) {r : List Int} (hr : NoWord r) : numberL (hexN u ++ r) = (u, 18) := by
  have hlen := hexL_length u 16
  have e0 : bAt (hexN u ++ r) 0 = 48 := rfl
  have e1 : bAt (hexN u ++ r) 1 = 120 := rfl
  have hl1 : 1 < (hexN u ++ r).length := by unfold hexN; simp
  have hbase : baseL (hexN u ++ r) = 16 := by unfold baseL; rw [if_pos ⟨hl1, e0, e1⟩]
  have hhead : headL (hexN u ++ r) = 2 := by unfold headL; rw [if_pos ⟨hl1, e0, .inl e1⟩]
  have hd : (hexN u ++ r).drop 2 = hexL u 16 ++ r := rfl
  have hrun : hexRun 16 (hexL u 16 ++ r) = 16 := by
    refine runL_eq _ _ _ (by simp [hlen]) (fun i hi => ?_) (fun hi => ?_)
    · rw [bAt_app (by omega)]
      have := hexL_all u 16 _ (List.mem_of_getElem? (bAt_get (l := hexL u 16) (i := i) (by omega)))
      exact decide_eq_true this.2.2
    · refine decide_eq_false fun h => ?_
      have := hex_wordy h
      have hn := noWord_at (a := hexL u 16) hr
      rw [hlen] at hn
      exact hn ⟨hi, this⟩
  have ht : (hexL u 16 ++ r).take 16 = hexL u 16 := by
    have := List.take_left (l₁ := hexL u 16) (l₂ := r)
    rwa [hlen] at this
  have hn : natL 16 (hexL u 16) = u := by
    unfold natL
    rw [hexL_nat, Int.zero_mul, Int.zero_add]
    exact Int.emod_eq_of_lt h0 h1
  unfold numberL
  rw [hbase, hhead, hd, hrun, e0, if_neg (by decide), if_neg (by omega), ht, hn, if_neg (by omega)]

/-! ### Pieces of a text, each a token -/
structure Pce where
  x : List Int
  t : Tok
def One (c : Pce) : Prop := 0 < c.x.length ∧ (wordyB (bAt c.x 0) = true → wordT c.t = true) ∧ (bAt c.x 0 = 47 → slashT c.t = true) ∧
  ∀ r, After c.t r → ∃ t0, oneL (c.x ++ r) = .ok (t0, c.x.length) ∧ bare t0 = c.t ∧ doneL (c.x ++ r) = false ∧ runL blankB (c.x ++ r) = 0
theorem one_of {t : Tok} (h : checkT t = 0) (h0 : 0 ≤ t.n) (h1 : t.n < 18446744073709551616) (hb : bare t = t) : One ⟨txtL t, t⟩ := by
  obtain ⟨p0, _, _, p3, p4⟩ := txt_head h h0 []
  refine ⟨p0, p3, p4, fun r hr => ?_⟩
  obtain ⟨t0, o1, o2, o3, o4⟩ := one_text h h0 h1 hr
  exact ⟨t0, o1, o2.trans hb, o3, o4⟩
theorem one_hex {u : Int} (h0 : 0 ≤ u) (h1 : u < 18446744073709551616) : One ⟨hexN u, numT u⟩ := by
  have hlen : (hexN u).length = 18 := by unfold hexN; simp [hexL_length]
  refine ⟨by rw [hlen]; decide, fun _ => rfl, fun h => absurd h (by show ¬ (48 : Int) = 47; decide), fun r hr => ?_⟩
  have hw : NoWord r := hr.1 rfl
  have hn := number_hex h0 h1 hw
  have e0 : bAt (hexN u ++ r) 0 = 48 := rfl
  refine ⟨numT u, ?_, rfl, ?_, ?_⟩
  · unfold oneL
    rw [e0, if_neg (by decide), if_pos (.inl (by decide)), hn, if_neg, hlen]
    · rfl
    · rintro (g | g)
      · simp at g
      · have := noWord_at (a := hexN u) hw
        rw [hlen] at this
        exact this g
  · unfold doneL
    rw [e0]
    simp [hexN]
  · exact runL_eq _ _ _ (Nat.zero_le _) (fun i hi => absurd hi (Nat.not_lt_zero _)) (fun _ => by rw [e0]; rfl)
def flatX (l : List Pce) : List Int := l.flatMap (·.x)
def NoSep : Tok → List Pce → Prop
  | _, [] => True
  | p, c :: r => apartF p c.t = false ∧ NoSep c.t r
theorem after_flat {c : Pce} {r : List Pce} (h : NoSep c.t r) (ho : ∀ d ∈ r, One d) : After c.t (flatX r) := by
  cases r with
  | nil => exact ⟨fun _ => .inl rfl, fun _ h => by simp [flatX] at h⟩
  | cons d r =>
    obtain ⟨q0, q1, q2, _⟩ := ho d (List.mem_cons_self ..)
    have hb : bAt (flatX (d :: r)) 0 = bAt d.x 0 := by
      show bAt (d.x ++ flatX r) 0 = _
      exact bAt_app q0
    have hap := h.1
    unfold apartF at hap
    simp only [Bool.or_eq_false_iff, Bool.and_eq_false_iff] at hap
    refine ⟨fun hw => .inr ?_, fun hsl hh => ?_⟩
    · rw [hb]
      cases hwy : wordyB (bAt d.x 0) with
      | false => rfl
      | true =>
        have := q1 hwy
        rw [hw, this] at hap
        simp at hap
    · have := q2 (hb ▸ hh.2)
      rw [hsl, this] at hap
      simp at hap
theorem relexP : ∀ {l : List Pce} {p : Tok}, NoSep p l → (∀ c ∈ l, One c) → ∀ q : Nat, ∃ ts, tokensL q (flatX l) = (ts, q + (flatX l).length, 0) ∧ ts.map bare = l.map (·.t)
  | [], _, _, _, q => ⟨[], tokensL_done rfl, rfl⟩
  | c :: r, p, h, ho, q => by
    have ho' : ∀ d ∈ r, One d := fun d hd => ho d (List.mem_cons_of_mem _ hd)
    obtain ⟨_, _, _, o⟩ := ho c (List.mem_cons_self ..)
    obtain ⟨t0, o1, o2, o3, o4⟩ := o _ (after_flat h.2 ho')
    obtain ⟨ts, i1, i2⟩ := relexP h.2 ho' (q + c.x.length)
    have hk := tokens_tok o4 o3 o1 q
    rw [List.drop_left, i1] at hk
    refine ⟨{ t0 with pos := (q : Int) } :: ts, ?_, ?_⟩
    · show tokensL q (c.x ++ flatX r) = _
      rw [hk]
      show _ = (_, q + (c.x ++ flatX r).length, _)
      rw [List.length_append, Nat.add_assoc]
    · rw [List.map_cons, List.map_cons, i2, ← o2]
      rfl

/-! ### Expressions -/
inductive Exp where
  | num (n : Int)
  | sym (s : ByteArray)
  | un (k : Int) (e : Exp)
  | bi (k : Int) (a b : Exp)
def Exp.Ok : Exp → Prop
  | .num n => -9223372036854775808 ≤ n ∧ n ≤ 9223372036854775807
  | .sym s => symB s = true
  | .un k e => (k = 3 ∨ k = 4) ∧ e.Ok
  | .bi k a b => (5 ≤ k ∧ k ≤ 14) ∧ a.Ok ∧ b.Ok
def Exp.post : Exp → List Term
  | .num n => [⟨1, n, emp⟩]
  | .sym s => [⟨2, 0, s⟩]
  | .un k e => e.post ++ [⟨k, 0, emp⟩]
  | .bi k a b => a.post ++ b.post ++ [⟨k, 0, emp⟩]
def Exp.pc : Exp → Pc
  | .num n => ⟨numS n, 0⟩
  | .sym s => ⟨s, 0⟩
  | .un k e => unF k e.pc
  | .bi k a b => biF k a.pc b.pc
def Exp.op : Exp → Int
  | .num _ => 0
  | .sym _ => 0
  | .un _ e => e.op + 2
  | .bi _ a b => max a.op b.op + 1
def lpP : Pce := ⟨[40], sgnT ⟨#[40]⟩⟩
def rpP : Pce := ⟨[41], sgnT ⟨#[41]⟩⟩
def sgP (k : Int) : Pce := ⟨toBytes (signF k), sgnT (signF k)⟩
def numP (n : Int) : Pce := if 0 ≤ n then ⟨txtL (numT n), numT n⟩ else ⟨hexN (IntKind.u64.wrap n), numT (IntKind.u64.wrap n)⟩
def Exp.pcs : Exp → List Pce
  | .num n => [numP n]
  | .sym s => [⟨txtL (nameT s), nameT s⟩]
  | .un k e => lpP :: sgP k :: (e.pcs ++ [rpP])
  | .bi k a b => lpP :: (a.pcs ++ sgP k :: (b.pcs ++ [rpP]))
theorem op_nonneg : ∀ e : Exp, 0 ≤ e.op
  | .num _ => Int.le_refl _
  | .sym _ => Int.le_refl _
  | .un _ e => by have := op_nonneg e; show 0 ≤ e.op + 2; omega
  | .bi _ a b => by have := op_nonneg a; show 0 ≤ max a.op b.op + 1; omega
theorem sign_cases {k : Int} (h : 3 ≤ k ∧ k ≤ 14) : checkT (sgnT (signF k)) = 0 := by
  have hc : k = 3 ∨ k = 4 ∨ k = 5 ∨ k = 6 ∨ k = 7 ∨ k = 8 ∨ k = 9 ∨ k = 10 ∨ k = 11 ∨ k = 12 ∨ k = 13 ∨ k = 14 := by omega
  rcases hc with rfl | rfl | rfl | rfl | rfl | rfl | rfl | rfl | rfl | rfl | rfl | rfl <;> decide +kernel
theorem one_sg {s : ByteArray} (h : checkT (sgnT s) = 0) : One ⟨toBytes s, sgnT s⟩ := by
  have := one_of (t := sgnT s) h (Int.le_refl _) (by show (0 : Int) < _; decide) rfl
  rw [txt_sgn h] at this
  exact this
theorem one_lp : One lpP := one_sg (s := ⟨#[40]⟩) (by decide +kernel)
theorem one_rp : One rpP := one_sg (s := ⟨#[41]⟩) (by decide +kernel)
theorem exp_one : ∀ {e : Exp}, e.Ok → ∀ c ∈ e.pcs, One c
  | .num n, h, c, hc => by
    obtain rfl : c = numP n := by simpa [Exp.pcs] using hc
    obtain ⟨h0, h1⟩ := h
    unfold numP
    split
    · exact one_of (check_num n) (by assumption) (by show n < _; omega) rfl
    · exact one_hex (by rw [IntKind.wrap_u64]; omega) (by rw [IntKind.wrap_u64]; omega)
  | .sym s, h, c, hc => by
    obtain rfl : c = ⟨txtL (nameT s), nameT s⟩ := by simpa [Exp.pcs] using hc
    exact one_of (check_name h) (Int.le_refl _) (by show (0 : Int) < _; decide) rfl
  | .un k e, h, c, hc => by
    obtain ⟨hk, he⟩ := h
    simp only [Exp.pcs, List.mem_cons, List.mem_append, List.not_mem_nil, or_false] at hc
    rcases hc with rfl | rfl | hc | rfl
    · exact one_lp
    · exact one_sg (sign_cases (by omega))
    · exact exp_one he c hc
    · exact one_rp
  | .bi k a b, h, c, hc => by
    obtain ⟨hk, ha, hb⟩ := h
    simp only [Exp.pcs, List.mem_cons, List.mem_append, List.not_mem_nil, or_false] at hc
    rcases hc with rfl | hc | rfl | hc | rfl
    · exact one_lp
    · exact exp_one ha c hc
    · exact one_sg (sign_cases (by omega))
    · exact exp_one hb c hc
    · exact one_rp
theorem apart_w {a b : Tok} (h1 : wordT a = false ∨ wordT b = false) (h2 : slashT a = false ∨ slashT b = false) : apartF a b = false := by
  unfold apartF
  rcases h1 with h1 | h1 <;> rcases h2 with h2 | h2 <;> simp [h1, h2]
theorem sgn_word (s : ByteArray) : wordT (sgnT s) = false := rfl
theorem paren_slash : slashT (sgnT ⟨#[40]⟩) = false ∧ slashT (sgnT ⟨#[41]⟩) = false := by decide +kernel
theorem leaf_slash (n : Int) (s : ByteArray) : slashT (numT n) = false ∧ slashT (nameT s) = false := ⟨rfl, rfl⟩
theorem exp_sep : ∀ (e : Exp) (p : Tok) (r : List Pce), wordT p = false → (∀ q : Tok, slashT q = false → NoSep q r) → NoSep p (e.pcs ++ r)
  | .num n, p, r, hp, hr => by
    have hs : slashT (numP n).t = false := by unfold numP; split <;> rfl
    exact ⟨apart_w (.inl hp) (.inr hs), hr _ hs⟩
  | .sym s, p, r, hp, hr => ⟨apart_w (.inl hp) (.inr rfl), hr _ rfl⟩
  | .un k e, p, r, hp, hr => by
    show NoSep p (lpP :: sgP k :: ((e.pcs ++ [rpP]) ++ r))
    rw [List.append_assoc]
    refine ⟨apart_w (.inl hp) (.inr paren_slash.1), apart_w (.inl (sgn_word _)) (.inl paren_slash.1), exp_sep e _ _ (sgn_word _) fun q hq => ?_⟩
    exact ⟨apart_w (.inr (sgn_word _)) (.inl hq), hr _ paren_slash.2⟩
  | .bi k a b, p, r, hp, hr => by
    show NoSep p (lpP :: ((a.pcs ++ sgP k :: (b.pcs ++ [rpP])) ++ r))
    rw [List.append_assoc]
    refine ⟨apart_w (.inl hp) (.inr paren_slash.1), exp_sep a _ _ (sgn_word _) fun q hq => ?_⟩
    show NoSep q (sgP k :: ((b.pcs ++ [rpP]) ++ r))
    rw [List.append_assoc]
    refine ⟨apart_w (.inr (sgn_word _)) (.inl hq), exp_sep b _ _ (sgn_word _) fun q hq => ?_⟩
    exact ⟨apart_w (.inr (sgn_word _)) (.inl hq), hr _ paren_slash.2⟩
theorem flatX_append (a b : List Pce) : flatX (a ++ b) = flatX a ++ flatX b := List.flatMap_append
theorem flatX_cons (c : Pce) (b : List Pce) : flatX (c :: b) = c.x ++ flatX b := rfl
theorem exp_text : ∀ {e : Exp}, e.Ok → toBytes e.pc.s = flatX e.pcs
  | .num n, h => by
    obtain ⟨h0, h1⟩ := h
    show toBytes (numS n) = (numP n).x ++ []
    rw [List.append_nil]
    unfold numS numP
    split
    · show _ = txtL (numT n)
      rw [txt_num (by assumption), decS_dL (by omega), Int.toNat_of_nonneg (by omega)]
    · show _ = hexN _
      rw [toBytes_ofBytes]
      · rfl
      · intro z hz
        simp only [List.mem_cons] at hz
        rcases hz with rfl | rfl | hz
        · decide
        · decide
        · have := hexL_all _ _ z hz; omega
  | .sym s, h => by
    show toBytes s = txtL (nameT s) ++ []
    rw [List.append_nil, txt_name h]
  | .un k e, h => by
    show toBytes ((⟨#[40]⟩ ++ signF k) ++ e.pc.s ++ ⟨#[41]⟩) = flatX (lpP :: sgP k :: (e.pcs ++ [rpP]))
    rw [flatX_cons, flatX_cons, flatX_append, ← exp_text h.2]
    simp only [toBytes_append, List.append_assoc]
    rfl
  | .bi k a b, h => by
    show toBytes (((⟨#[40]⟩ ++ a.pc.s) ++ signF k) ++ b.pc.s ++ ⟨#[41]⟩) = flatX (lpP :: (a.pcs ++ sgP k :: (b.pcs ++ [rpP])))
    rw [flatX_cons, flatX_append, flatX_cons, flatX_append, ← exp_text h.2.1, ← exp_text h.2.2]
    simp only [toBytes_append, List.append_assoc]
    rfl

/-! ### The parser on an expression -/
def Sees (l : List Tok) (p : Nat) (c : List Pce) : Prop := ∀ (i : Nat) (d : Pce), c[i]? = some d → ∃ u, l[p + i]? = some u ∧ bare u = d.t
theorem Sees.head {l : List Tok} {p : Nat} {c : Pce} {r : List Pce} (h : Sees l p (c :: r)) : ∃ u, l[p]? = some u ∧ bare u = c.t := h 0 c rfl
theorem Sees.tail {l : List Tok} {p : Nat} {c : Pce} {r : List Pce} (h : Sees l p (c :: r)) : Sees l (p + 1) r := fun i d hd => by
  have := h (i + 1) d hd
  rwa [show p + (i + 1) = p + 1 + i by omega] at this
theorem Sees.left {l : List Tok} {p : Nat} {a b : List Pce} (h : Sees l p (a ++ b)) : Sees l p a := fun i d hd => h i d (by rw [List.getElem?_append_left (List.getElem?_eq_some_iff.1 hd).1]; exact hd)
theorem Sees.right {l : List Tok} {p : Nat} {a b : List Pce} (h : Sees l p (a ++ b)) : Sees l (p + a.length) b := fun i d hd => by
  have := h (a.length + i) d (by rw [List.getElem?_append_right (by omega), Nat.add_sub_cancel_left]; exact hd)
  rwa [← Nat.add_assoc] at this
theorem sees_lt {l : List Tok} {p : Nat} {c : Pce} {r : List Pce} (h : Sees l p (c :: r)) : p < l.length := by
  obtain ⟨u, hu, _⟩ := h.head
  exact (List.getElem?_eq_some_iff.1 hu).1
theorem exp_reads {l : List Tok} : ∀ (e : Exp) (N p : Nat), e.Ok → Sees l p e.pcs → l.length ≤ p + N → Reads (operandF l N) p (p + e.pcs.length) e.op e.post
  | .num n, N, p, ho, hs, hN => by
    have hlt := sees_lt hs
    obtain ⟨u, hu, hb⟩ := hs.head
    obtain ⟨M, rfl⟩ : ∃ M, N = M + 1 := ⟨N - 1, by omega⟩
    obtain ⟨h0, h1⟩ := ho
    show Reads _ p (p + 1) 0 [⟨1, n, emp⟩]
    unfold numP at hb
    split at hb
    · have := rd_num (N := M) hu hb
      rwa [wrap64_id h0 h1] at this
    · have := rd_num (N := M) hu hb
      have e : wrap64 (IntKind.u64.wrap n) = n := by rw [IntKind.wrap_u64]; unfold wrap64; omega
      rwa [e] at this
  | .sym s, N, p, ho, hs, hN => by
    have hlt := sees_lt hs
    obtain ⟨u, hu, hb⟩ := hs.head
    obtain ⟨M, rfl⟩ : ∃ M, N = M + 1 := ⟨N - 1, by omega⟩
    exact rd_name (N := M) hu hb
  | .un k e, N, p, ho, hs, hN => by
    obtain ⟨hk, he⟩ := ho
    have hlt := sees_lt hs
    have hs1 : Sees l (p + 1) (sgP k :: (e.pcs ++ [rpP])) := hs.tail
    have hlt1 := sees_lt hs1
    obtain ⟨u, hu, hb⟩ := hs.head
    obtain ⟨v, hv, hbv⟩ := hs1.head
    have hs2 : Sees l (p + 1 + 1) (e.pcs ++ [rpP]) := hs1.tail
    obtain ⟨w, hw, hbw⟩ := hs2.right.head
    obtain ⟨M, rfl⟩ : ∃ M, N = M + 1 + 1 := ⟨N - 2, by omega⟩
    have ih := exp_reads e M (p + 1 + 1) he hs2.left (by omega)
    have o0 := op_nonneg e
    have r1 := reads_un (N := M) o0 hv (congrArg Tok.kind hbv) (k := k) (by
      have ht : v.text = signF k := congrArg Tok.text hbv
      rw [ht]
      rcases hk with rfl | rfl
      · exact .inl ⟨rfl, rfl⟩
      · exact .inr ⟨rfl, rfl⟩) ih
    have hq : nxt l (p + 1 + 1 + e.pcs.length) = ⟨#[41]⟩ := nxt_sgn hw hbw
    have r2 := reads_level0 r1 (by omega) (.inr hq)
    have r3 := reads_par (N := M + 1) (by omega) hu (congrArg Tok.kind hb) (congrArg Tok.text hb) r2 hq
    have e1 : p + (Exp.un k e).pcs.length = p + 1 + 1 + e.pcs.length + 1 := by
      show p + (lpP :: sgP k :: (e.pcs ++ [rpP])).length = _
      simp only [List.length_cons, List.length_append, List.length_nil]; omega
    rw [e1]
    exact r3.mono (by show _ ≤ e.op + 2; omega)
  | .bi k a b, N, p, ho, hs, hN => by
    obtain ⟨hk, ha, hb'⟩ := ho
    have hlt := sees_lt hs
    obtain ⟨u, hu, hb⟩ := hs.head
    have hs1 : Sees l (p + 1) (a.pcs ++ sgP k :: (b.pcs ++ [rpP])) := hs.tail
    have hs2 := hs1.right
    obtain ⟨v, hv, hbv⟩ := hs2.head
    have hs3 := hs2.tail
    obtain ⟨w, hw, hbw⟩ := hs3.right.head
    obtain ⟨M, rfl⟩ : ∃ M, N = M + 1 := ⟨N - 1, by omega⟩
    have ia := exp_reads a M (p + 1) ha hs1.left (by omega)
    have ib := exp_reads b M (p + 1 + a.pcs.length + 1) hb' hs3.left (by omega)
    have hq : nxt l (p + 1 + a.pcs.length + 1 + b.pcs.length) = ⟨#[41]⟩ := nxt_sgn hw hbw
    have r2 := reads_two hk ia (op_nonneg a) (nxt_sgn hv hbv) ib (op_nonneg b) (by omega) (.inr hq)
    have o0 := op_nonneg a
    have r3 := reads_par (N := M) (by omega) hu (congrArg Tok.kind hb) (congrArg Tok.text hb) r2 hq
    have e1 : p + (Exp.bi k a b).pcs.length = p + 1 + a.pcs.length + 1 + b.pcs.length + 1 := by
      show p + (lpP :: (a.pcs ++ sgP k :: (b.pcs ++ [rpP]))).length = _
      simp only [List.length_cons, List.length_append, List.length_nil]; omega
    rw [e1]
    exact r3
theorem exp_back {e : Exp} (ho : e.Ok) (hs : e.pc.s.size ≤ 512) (hop : e.op ≤ 64) (hl : e.post.length ≤ 256) :
    ∃ ts, linesF (toBytes e.pc.s) = (ts, e.pc.s.size, 0) ∧ parseF ts = .ok ⟨ts.length, 0, e.post⟩ := by
  have hx := exp_text ho
  have hsep : NoSep (sgnT ⟨#[40]⟩) (e.pcs ++ []) := exp_sep e _ [] (sgn_word _) fun _ _ => trivial
  rw [List.append_nil] at hsep
  obtain ⟨ts, k1, k2⟩ := relexP hsep (exp_one ho) 0
  have hlen := toBytes_length e.pc.s
  have htl : ts.length = e.pcs.length := by rw [← List.length_map bare, k2, List.length_map]
  have hsees : Sees ts 0 e.pcs := by
    intro i d hd
    have : (ts.map bare)[i]? = some d.t := by rw [k2, List.getElem?_map, hd]; rfl
    rw [List.getElem?_map, Option.map_eq_some_iff] at this
    obtain ⟨u, hu, hb⟩ := this
    exact ⟨u, by rw [Nat.zero_add]; exact hu, hb⟩
  have hr := exp_reads e ts.length 0 ho hsees (by omega)
  rw [Nat.zero_add, ← htl] at hr
  refine ⟨ts, ?_, parse_of (reads_level0 hr (op_nonneg e) (stop_end (List.getElem?_eq_none (Nat.le_refl _)))) hop hl⟩
  unfold linesF
  rw [if_neg (by omega), hx, k1, ← hx, hlen, Nat.zero_add]

/-! ### Terms as an expression -/
def stepO (st : List Int) (t : Term) : List Int :=
  if t.kind ≤ 2 then st ++ [0]
  else if t.kind ≤ 4 then st.take (st.length - 1) ++ [st.getD (st.length - 1) 0 + 2]
  else st.take (st.length - 2) ++ [max (st.getD (st.length - 2) 0) (st.getD (st.length - 1) 0) + 1]
def openF (st : List Int) : List Term → List Int
  | [] => st
  | t :: r => openF (stepO st t) r
theorem takes_kind {k : Int} : (takesF k = 0) ∨ (takesF k = 1 ∧ 3 ≤ k ∧ k ≤ 4) ∨ (takesF k = 2 ∧ 5 ≤ k ∧ k ≤ 14) := by
  unfold takesF
  split
  · right; left; omega
  · split
    · right; right; omega
    · left; rfl
theorem term_leaf {t : Term} (h : termB t = true) (h0 : takesF t.kind = 0) : (t.kind = 1 ∧ t.sym = emp) ∨ (t.kind = 2 ∧ t.n = 0 ∧ symB t.sym = true) := by
  unfold termB at h
  split at h
  · exact .inl ⟨by assumption, of_decide_eq_true h⟩
  · split at h
    · rw [Bool.and_eq_true] at h
      exact .inr ⟨by assumption, of_decide_eq_true h.1, h.2⟩
    · rw [h0] at h
      simp at h
theorem term_op {t : Term} (h : termB t = true) (h0 : 3 ≤ t.kind) : t = ⟨t.kind, 0, emp⟩ := by
  unfold termB at h
  rw [if_neg (by omega), if_neg (by omega)] at h
  simp only [Bool.and_eq_true, decide_eq_true_eq] at h
  obtain ⟨k, n, s⟩ := t
  simp only at h ⊢
  rw [h.1.2, h.2]
theorem formF_one {h : Int} (e : formF h [] = 0) : h = 1 := by
  rw [formF] at e
  split at e
  · assumption
  · cases e
theorem exp_of : ∀ (r : List Term) (es : List Exp), (∀ e ∈ es, e.Ok) → (∀ t ∈ r, -9223372036854775808 ≤ t.n ∧ t.n ≤ 9223372036854775807) → formF es.length r = 0 →
    ∃ E : Exp, E.Ok ∧ textF numS (es.map Exp.pc) r = [E.pc] ∧ openF (es.map Exp.op) r = [E.op] ∧ es.flatMap Exp.post ++ r = E.post
  | [], es, ho, _, hf => by
    have h1 := formF_one hf
    match es, ho, h1 with
    | [E], ho, _ => exact ⟨E, ho E (by simp), rfl, rfl, by simp⟩
  | t :: r, es, ho, hn, hf => by
    obtain ⟨htm, hle, hf'⟩ := formF_cons hf
    have hn' : ∀ t ∈ r, -9223372036854775808 ≤ t.n ∧ t.n ≤ 9223372036854775807 := fun x hx => hn x (List.mem_cons_of_mem _ hx)
    rcases takes_kind (k := t.kind) with htk | ⟨htk, hk1, hk2⟩ | ⟨htk, hk1, hk2⟩
    · rw [htk] at hf'
      have key : ∀ x : Exp, x.Ok → x.pc = leafF numS t → x.op = 0 → x.post = [t] → ∃ E : Exp, E.Ok ∧ textF numS (es.map Exp.pc) (t :: r) = [E.pc] ∧ openF (es.map Exp.op) (t :: r) = [E.op] ∧ es.flatMap Exp.post ++ t :: r = E.post := by
        intro x hx h1 h2 h3
        obtain ⟨E, e1, e2, e3, e4⟩ := exp_of r (es ++ [x]) (fun e he => by
          rcases List.mem_append.1 he with he | he
          · exact ho e he
          · rw [List.mem_singleton.1 he]; exact hx) hn' (by rw [List.length_append, List.length_singleton]; push_cast; exact hf')
        have hkind : t.kind ≤ 2 := by
          rcases term_leaf htm htk with ⟨h, _⟩ | ⟨h, _⟩ <;> omega
        refine ⟨E, e1, ?_, ?_, ?_⟩
        · rw [textF, stepP, if_pos htk, ← h1, ← e2, List.map_append]; rfl
        · rw [openF, stepO, if_pos hkind, ← h2, ← e3, List.map_append]; rfl
        · rw [← e4, List.flatMap_append]
          simp [h3]
      rcases term_leaf htm htk with ⟨h1, h2⟩ | ⟨h1, h2, h3⟩
      · obtain ⟨k, n, s⟩ := t
        simp only at h1 h2
        subst h1 h2
        exact key (.num n) (hn _ (List.mem_cons_self ..)) (by simp [leafF, Exp.pc]) rfl rfl
      · obtain ⟨k, n, s⟩ := t
        simp only at h1 h2 h3
        subst h1 h2
        exact key (.sym s) h3 (by simp [leafF, Exp.pc]) rfl rfl
    · rw [htk] at hf' hle
      obtain ⟨us, y, rfl⟩ : ∃ us y, es = us ++ [y] := by
        rcases List.eq_nil_or_concat es with rfl | ⟨us, y, rfl⟩
        · simp at hle
        · exact ⟨us, y, by simp⟩
      have ht := term_op htm hk1
      obtain ⟨E, e1, e2, e3, e4⟩ := exp_of r (us ++ [.un t.kind y]) (fun e he => by
        rcases List.mem_append.1 he with he | he
        · exact ho e (by simp [he])
        · rw [List.mem_singleton.1 he]; exact ⟨by omega, ho y (by simp)⟩) hn' (by
          simp only [List.length_append, List.length_singleton] at hf' ⊢
          rw [← hf']; congr 1 <;> omega)
      refine ⟨E, e1, ?_, ?_, ?_⟩
      · rw [textF, ← e2]
        congr 1
        simp [stepP, htk, Exp.pc]
      · rw [openF, ← e3]
        congr 1
        unfold stepO
        rw [if_neg (by omega), if_pos hk2]
        simp [Exp.op]
      · rw [← e4, List.flatMap_append, List.flatMap_append]
        simp [Exp.post, ← ht]
    · rw [htk] at hf' hle
      obtain ⟨us, x, y, rfl⟩ : ∃ us x y, es = us ++ [x, y] := by
        rcases List.eq_nil_or_concat es with rfl | ⟨us, z, rfl⟩
        · simp at hle
        · rcases List.eq_nil_or_concat us with rfl | ⟨us, y, rfl⟩
          · simp at hle
          · exact ⟨us, y, z, by simp⟩
      have ht := term_op htm (by omega)
      obtain ⟨E, e1, e2, e3, e4⟩ := exp_of r (us ++ [.bi t.kind x y]) (fun e he => by
        rcases List.mem_append.1 he with he | he
        · exact ho e (by simp [he])
        · rw [List.mem_singleton.1 he]; exact ⟨⟨hk1, hk2⟩, ho x (by simp), ho y (by simp)⟩) hn' (by
          simp only [List.length_append, List.length_singleton, List.length_cons, List.length_nil] at hf' ⊢
          rw [← hf']; congr 1 <;> omega)
      refine ⟨E, e1, ?_, ?_, ?_⟩
      · rw [textF, ← e2]
        congr 1
        simp [stepP, htk, Exp.pc]
      · rw [openF, ← e3]
        congr 1
        unfold stepO
        rw [if_neg (by omega), if_neg (by omega)]
        simp [Exp.op]
      · rw [← e4, List.flatMap_append, List.flatMap_append]
        simp [Exp.post, ← ht]

end Go.Proofs.YtcdbldakjepjiaaDoor.Ex
