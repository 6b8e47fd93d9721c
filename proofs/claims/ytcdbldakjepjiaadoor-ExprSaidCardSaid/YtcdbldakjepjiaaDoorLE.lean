/- Lines, the reference: the tests on bytes, names, signs. -/
import Derived.Test.YtcdbldakjepjiaaDoorWs
import Derived.Test.YtcdbldakjepjiaaDoorL3
set_option linter.unusedVariables false
set_option linter.unusedSimpArgs false
namespace Go.Proofs.YtcdbldakjepjiaaDoor
open Go.RowKit
set_option maxRecDepth 100000

/-! ### Bytes -/
set_option maxHeartbeats 400000 in
theorem rletter_any (n : Int) (w : World) :
    Calls Tryd.prog 58 #[.int .u8 n] w fun e w' => e = .returned (.bool (letterB n)) ∧ w = w' := by
  go_enter Tryd.func58, Tryd.ntmps58
  go_wp2
  all_goals (go_ret; refine ⟨ret_bool ?_, rfl⟩; rw [Bool.eq_iff_iff]; simp [letterB]; try omega)
set_option maxHeartbeats 400000 in
theorem rdecimal_any (n : Int) (w : World) :
    Calls Tryd.prog 59 #[.int .u8 n] w fun e w' => e = .returned (.bool (digitB n)) ∧ w = w' := by
  go_enter Tryd.func59, Tryd.ntmps59
  go_wp2
  all_goals (go_ret; refine ⟨ret_bool ?_, rfl⟩; rw [Bool.eq_iff_iff]; simp [digitB]; try omega)
theorem en_rletter (args : Array Value) (w : World) : (callFunc 58 args).run Tryd.prog w = .ok (.enter 58 args) w := by go_simp
theorem en_rdecimal (args : Array Value) (w : World) : (callFunc 59 args).run Tryd.prog w = .ok (.enter 59 args) w := by go_simp
def rletterS : Spec Tryd.prog 58 := mk1C _ en_rletter (tInt .u8) (fun _ => True) (fun c => bv (letterB c)) (fun _ => rfl) fun s hs M w v _ hv => by
  obtain rfl : v = .int .u8 s := hv
  exact (rletter_any s w).mono fun e w' ⟨h1, h2⟩ => ⟨⟨_, h1, rfl⟩, h2 ▸ .refl _ _⟩
theorem rletter_run {id : Nat} {h : Heap} {args : List AV} : rletterS.run id h args = runP (args1 (tInt .u8) (fun _ => True)) (fun c => .ret (bv (letterB c))) h args := rfl
theorem rletter_pan {id : Nat} {h : Heap} {args : List AV} : rletterS.pan id h args = panP (args1 (tInt .u8) (fun _ => True)) (fun c => .ret (bv (letterB c))) h args := rfl
def rdecS : Spec Tryd.prog 59 := mk1C _ en_rdecimal (tInt .u8) (fun _ => True) (fun c => bv (digitB c)) (fun _ => rfl) fun s hs M w v _ hv => by
  obtain rfl : v = .int .u8 s := hv
  exact (rdecimal_any s w).mono fun e w' ⟨h1, h2⟩ => ⟨⟨_, h1, rfl⟩, h2 ▸ .refl _ _⟩
theorem rdec_run {id : Nat} {h : Heap} {args : List AV} : rdecS.run id h args = runP (args1 (tInt .u8) (fun _ => True)) (fun c => .ret (bv (digitB c))) h args := rfl
theorem rdec_pan {id : Nat} {h : Heap} {args : List AV} : rdecS.pan id h args = panP (args1 (tInt .u8) (fun _ => True)) (fun c => .ret (bv (digitB c))) h args := rfl

def hexR (c : Int) : Int := if hexB c = 16 then -1 else hexB c
theorem en_rhex (args : Array Value) (w : World) : (callFunc 86 args).run Tryd.prog w = .ok (.enter 86 args) w := by go_simp
def rhexS : Spec Tryd.prog 86 :=
  mk1 _ _ _ Tryd.func86 rfl en_rhex (tInt .u8) ((fun c => 0 ≤ c ∧ c ≤ 255)) ((fun c => .ret (iv (hexR c)))) (by rw [Tryd.ntmps86]; decide) (fun c hc => by
  refine aRun_sound (ctx := [⟨_, rdecS⟩]) 4000 ?_
  rw [Tryd.ntmps86, Tryd.results86]
  simp only [Tryd.f86, Option.getD_some, zipT]
  by_cases h1 : 48 ≤ c ∧ c ≤ 57
  · have hd : digitB c = true := by simp [digitB, h1]
    have e1 : IntKind.u8.wrap (c - 48) = c - 48 := by rw [IntKind.wrap_u8]; omega
    have e2 : IntKind.i64.wrap (c - 48) = c - 48 := by rw [IntKind.wrap_i64]; omega
    have e0 : hexB c = c - 48 := by unfold hexB; rw [if_pos h1]
    have e3 : hexR c = c - 48 := by unfold hexR; rw [e0, if_neg (by omega)]
    simp only [go_sem, Nat.reduceOr, Nat.reducePow, Nat.reduceDiv, Nat.reduceMod, Nat.reduceBEq, Int.reduceBEq, Int.reduceBNe, Int.reduceEq, Int.reduceLT, Int.reduceLE, Int.reduceToNat, reduceIte, reduceCtorEq, Nat.reduceEqDiff, Nat.reduceAdd, Nat.reduceLT, Nat.reduceLeDiff, Nat.reduceMul, Nat.reduceSub, rdec_run, rdec_pan, hd, e1, e2, e3]
  · have hd : digitB c = false := by simp [digitB]; omega
    by_cases h2 : 97 ≤ c
    · by_cases h3 : c ≤ 102
      · have e1 : IntKind.u8.wrap (c - 97) = c - 97 := by rw [IntKind.wrap_u8]; omega
        have e2 : IntKind.i64.wrap (c - 97) = c - 97 := by rw [IntKind.wrap_i64]; omega
        have e4 : IntKind.i64.wrap (c - 97 + 10) = c - 97 + 10 := by rw [IntKind.wrap_i64]; omega
        have e0 : hexB c = c - 97 + 10 := by unfold hexB; rw [if_neg h1, if_pos ⟨h2, h3⟩]; omega
        have e3 : hexR c = c - 97 + 10 := by unfold hexR; rw [e0, if_neg (by omega)]
        simp only [go_sem, Nat.reduceOr, Nat.reducePow, Nat.reduceDiv, Nat.reduceMod, Nat.reduceBEq, Int.reduceBEq, Int.reduceBNe, Int.reduceEq, Int.reduceLT, Int.reduceLE, Int.reduceToNat, reduceIte, reduceCtorEq, Nat.reduceEqDiff, Nat.reduceAdd, Nat.reduceLT, Nat.reduceLeDiff, Nat.reduceMul, Nat.reduceSub, rdec_run, rdec_pan, hd, h2, h3, e1, e2, e4, e3]
      · have h5 : (65 : Int) ≤ c := by omega
        have h6 : ¬ c ≤ 70 := by omega
        have e3 : hexR c = -1 := by unfold hexR; rw [if_pos (by unfold hexB; rw [if_neg h1, if_neg (by omega), if_neg (by omega)])]
        simp only [go_sem, Nat.reduceOr, Nat.reducePow, Nat.reduceDiv, Nat.reduceMod, Nat.reduceBEq, Int.reduceBEq, Int.reduceBNe, Int.reduceEq, Int.reduceLT, Int.reduceLE, Int.reduceToNat, reduceIte, reduceCtorEq, Nat.reduceEqDiff, Nat.reduceAdd, Nat.reduceLT, Nat.reduceLeDiff, Nat.reduceMul, Nat.reduceSub, rdec_run, rdec_pan, hd, h2, h3, h5, h6, e3]
    · by_cases h5 : 65 ≤ c
      · by_cases h6 : c ≤ 70
        · have e1 : IntKind.u8.wrap (c - 65) = c - 65 := by rw [IntKind.wrap_u8]; omega
          have e2 : IntKind.i64.wrap (c - 65) = c - 65 := by rw [IntKind.wrap_i64]; omega
          have e4 : IntKind.i64.wrap (c - 65 + 10) = c - 65 + 10 := by rw [IntKind.wrap_i64]; omega
          have e0 : hexB c = c - 65 + 10 := by unfold hexB; rw [if_neg h1, if_neg (by omega), if_pos ⟨h5, h6⟩]; omega
          have e3 : hexR c = c - 65 + 10 := by unfold hexR; rw [e0, if_neg (by omega)]
          simp only [go_sem, Nat.reduceOr, Nat.reducePow, Nat.reduceDiv, Nat.reduceMod, Nat.reduceBEq, Int.reduceBEq, Int.reduceBNe, Int.reduceEq, Int.reduceLT, Int.reduceLE, Int.reduceToNat, reduceIte, reduceCtorEq, Nat.reduceEqDiff, Nat.reduceAdd, Nat.reduceLT, Nat.reduceLeDiff, Nat.reduceMul, Nat.reduceSub, rdec_run, rdec_pan, hd, h2, h5, h6, e1, e2, e4, e3]
        · have e3 : hexR c = -1 := by unfold hexR; rw [if_pos (by unfold hexB; rw [if_neg h1, if_neg (by omega), if_neg (by omega)])]
          simp only [go_sem, Nat.reduceOr, Nat.reducePow, Nat.reduceDiv, Nat.reduceMod, Nat.reduceBEq, Int.reduceBEq, Int.reduceBNe, Int.reduceEq, Int.reduceLT, Int.reduceLE, Int.reduceToNat, reduceIte, reduceCtorEq, Nat.reduceEqDiff, Nat.reduceAdd, Nat.reduceLT, Nat.reduceLeDiff, Nat.reduceMul, Nat.reduceSub, rdec_run, rdec_pan, hd, h2, h5, h6, e3]
      · have e3 : hexR c = -1 := by unfold hexR; rw [if_pos (by unfold hexB; rw [if_neg h1, if_neg (by omega), if_neg (by omega)])]
        simp only [go_sem, Nat.reduceOr, Nat.reducePow, Nat.reduceDiv, Nat.reduceMod, Nat.reduceBEq, Int.reduceBEq, Int.reduceBNe, Int.reduceEq, Int.reduceLT, Int.reduceLE, Int.reduceToNat, reduceIte, reduceCtorEq, Nat.reduceEqDiff, Nat.reduceAdd, Nat.reduceLT, Nat.reduceLeDiff, Nat.reduceMul, Nat.reduceSub, rdec_run, rdec_pan, hd, h2, h5, e3])
theorem rhex_run {id : Nat} {h : Heap} {args : List AV} : (rhexS).run id h args = runP (args1 (tInt .u8) ((fun c => 0 ≤ c ∧ c ≤ 255))) ((fun c => .ret (iv (hexR c)))) h args := rfl
theorem rhex_pan {id : Nat} {h : Heap} {args : List AV} : (rhexS).pan id h args = panP (args1 (tInt .u8) ((fun c => 0 ≤ c ∧ c ≤ 255))) ((fun c => .ret (iv (hexR c)))) h args := rfl

/-! ### Names -/
def goodN (s : ByteArray) (j : Nat) : Prop := letterB (byteAt s j) = true ∨ j ≠ 0 ∧ digitB (byteAt s j) = true
theorem nameL_stop {s : ByteArray} {i : Nat} (hi : i < s.size) (h : ¬ goodN s i) : nameL (toBytes s) = false := by
  have hl := toBytes_length s
  unfold nameL
  unfold goodN at h
  rw [byteAt_bAt] at h
  by_cases h0 : i = 0
  · subst h0
    rw [show letterB (bAt (toBytes s) 0) = false by simpa using fun h1 => h (.inl h1)]; simp
  · rw [decide_eq_false (show ¬ runL wordyB (toBytes s) = (toBytes s).length from fun e => ?_)]
    · simp
    · have := runL_in wordyB (toBytes s) i (by omega)
      unfold wordyB at this
      rw [Bool.or_eq_true] at this
      exact h (this.elim .inl fun h1 => .inr ⟨h0, h1⟩)
theorem nameL_all {s : ByteArray} (h : ∀ j, j < s.size → goodN s j) : nameL (toBytes s) = decide (0 < s.size) := by
  have hl := toBytes_length s
  unfold nameL
  rw [hl]
  by_cases h0 : 0 < s.size
  · have h1 : letterB (bAt (toBytes s) 0) = true := by
      have := h 0 h0
      unfold goodN at this
      rw [byteAt_bAt] at this
      exact this.elim id fun h => absurd rfl h.1
    have h2 : runL wordyB (toBytes s) = s.size := runL_eq _ _ _ (by omega) (fun i hi => by
      have := h i hi
      unfold goodN at this
      rw [byteAt_bAt] at this
      unfold wordyB
      rw [Bool.or_eq_true]
      exact this.imp id (·.2)) (fun hx => by omega)
    rw [h1, h2]; simp
  · rw [decide_eq_false h0]; simp
set_option maxHeartbeats 1000000 in
theorem rname_sw (s : ByteArray) (hs : s.size ≤ maxLen) : SW Tryd.prog ⟨none, 0⟩ Tryd.f28.ntmps (Tryd.f28.body.getD .skip) ⟨0, zipT 0 [tStr.enc s], []⟩ (outQ Tryd.prog Tryd.f28.results.toList (.ret (bv (nameL (toBytes s))))) := by
  refine aRun_sound (ctx := [⟨_, rletterS⟩, ⟨_, rdecS⟩]) 4000 ?_
  rw [Tryd.ntmps28, Tryd.results28]
  simp only [Tryd.f28, Option.getD_some, zipT]
  simp only [go_sem, Nat.reduceOr, Nat.reducePow, Nat.reduceDiv, Nat.reduceMod, Nat.reduceBEq, Int.reduceBEq, Int.reduceBNe, Int.reduceEq, Int.reduceLT, Int.reduceLE, Int.reduceToNat, reduceIte, reduceCtorEq, Nat.reduceEqDiff, Nat.reduceAdd, Nat.reduceLT, Nat.reduceLeDiff, Nat.reduceMul, Nat.reduceSub]
  refine sw_loop (ι := Nat) (fun i => i ≤ s.size ∧ ∀ j, j < i → goodN s j) (fun i => ⟨0, [(0, sv s), (3, iv i)], []⟩) (fun i => s.size - i) 0 ⟨Nat.zero_le _, fun j hj => absurd hj (Nat.not_lt_zero _)⟩ (Wk.renL [] (by simp) (by simp) (by simp) rfl rfl) ?_
  rintro i ⟨hi, hg⟩
  refine aRun_sound (ctx := [⟨_, rletterS⟩, ⟨_, rdecS⟩]) 4000 ?_
  have hmx : maxLen = 9223372036854775807 := rfl
  by_cases hlt : i < s.size
  · have hltI : (i : Int) < s.size := by omega
    have ei : IntKind.i64.wrap ((i : Int) + 1) = ((i + 1 : Nat) : Int) := by rw [IntKind.wrap_i64]; omega
    have next : goodN s i → (i + 1 ≤ s.size ∧ ∀ j, j < i + 1 → goodN s j) := fun h => ⟨hlt, fun j hj => by
      rcases Nat.lt_or_ge j i with h1 | h1
      · exact hg j h1
      · obtain rfl : j = i := by omega
        exact h⟩
    cases h1 : letterB (byteAt s i) with
    | true =>
      simp only [go_sem, Nat.reduceOr, Nat.reducePow, Nat.reduceDiv, Nat.reduceMod, Nat.reduceBEq, Int.reduceBEq, Int.reduceBNe, Int.reduceEq, Int.reduceLT, Int.reduceLE, Int.reduceToNat, reduceIte, reduceCtorEq, Nat.reduceEqDiff, Nat.reduceAdd, Nat.reduceLT, Nat.reduceLeDiff, Nat.reduceMul, Nat.reduceSub, hltI, rletter_run, rletter_pan, h1, ei]
      exact ⟨i + 1, next (.inl h1), by omega, Wk.renL [] (by simp) (by simp) (by simp) rfl rfl⟩
    | false =>
      by_cases h0 : i = 0
      · subst h0
        have e := nameL_stop hlt (fun h => h.elim (fun h => by rw [h1] at h; cases h) fun h => h.1 rfl)
        have h1' : letterB (byteAt s 0) = false := h1
        have h0I : (0 : Int) < s.size := by omega
        simp only [go_sem, Nat.reduceOr, Nat.reducePow, Nat.reduceDiv, Nat.reduceMod, Nat.reduceBEq, Int.reduceBEq, Int.reduceBNe, Int.reduceEq, Int.reduceLT, Int.reduceLE, Int.reduceToNat, reduceIte, reduceCtorEq, Nat.reduceEqDiff, Nat.reduceAdd, Nat.reduceLT, Nat.reduceLeDiff, Nat.reduceMul, Nat.reduceSub, h0I, rletter_run, rletter_pan, rdec_run, rdec_pan, h1', e]
      · have h0I : ¬ (i : Int) = 0 := by omega
        cases h2 : digitB (byteAt s i) with
        | true =>
          simp only [go_sem, Nat.reduceOr, Nat.reducePow, Nat.reduceDiv, Nat.reduceMod, Nat.reduceBEq, Int.reduceBEq, Int.reduceBNe, Int.reduceEq, Int.reduceLT, Int.reduceLE, Int.reduceToNat, reduceIte, reduceCtorEq, Nat.reduceEqDiff, Nat.reduceAdd, Nat.reduceLT, Nat.reduceLeDiff, Nat.reduceMul, Nat.reduceSub, hltI, rletter_run, rletter_pan, rdec_run, rdec_pan, h1, h2, h0I, ei]
          exact ⟨i + 1, next (.inr ⟨h0, h2⟩), by omega, Wk.renL [] (by simp) (by simp) (by simp) rfl rfl⟩
        | false =>
          have e := nameL_stop hlt (fun h => h.elim (fun h => by rw [h1] at h; cases h) fun h => by rw [h2] at h; cases h.2)
          simp only [go_sem, Nat.reduceOr, Nat.reducePow, Nat.reduceDiv, Nat.reduceMod, Nat.reduceBEq, Int.reduceBEq, Int.reduceBNe, Int.reduceEq, Int.reduceLT, Int.reduceLE, Int.reduceToNat, reduceIte, reduceCtorEq, Nat.reduceEqDiff, Nat.reduceAdd, Nat.reduceLT, Nat.reduceLeDiff, Nat.reduceMul, Nat.reduceSub, hltI, rletter_run, rletter_pan, rdec_run, rdec_pan, h1, h2, h0I, e]
  · have hltI : ¬ (i : Int) < s.size := by omega
    obtain rfl : i = s.size := by omega
    have e := nameL_all hg
    have hz : decide (0 < s.size) = decide ((0 : Int) < s.size) := by rw [decide_eq_decide]; omega
    rw [hz] at e
    simp only [go_sem, Nat.reduceOr, Nat.reducePow, Nat.reduceDiv, Nat.reduceMod, Nat.reduceBEq, Int.reduceBEq, Int.reduceBNe, Int.reduceEq, Int.reduceLT, Int.reduceLE, Int.reduceToNat, reduceIte, reduceCtorEq, Nat.reduceEqDiff, Nat.reduceAdd, Nat.reduceLT, Nat.reduceLeDiff, Nat.reduceMul, Nat.reduceSub, hltI, e]
theorem en_rname (args : Array Value) (w : World) : (callFunc 28 args).run Tryd.prog w = .ok (.enter 28 args) w := by go_simp
def rnameS : Spec Tryd.prog 28 :=
  mk1 _ _ _ Tryd.func28 rfl en_rname (tStr) ((fun s => s.size ≤ maxLen)) ((fun s => .ret (bv (nameL (toBytes s))))) (by rw [Tryd.ntmps28]; decide) (fun s hs => rname_sw s hs)
theorem rname_run {id : Nat} {h : Heap} {args : List AV} : (rnameS).run id h args = runP (args1 (tStr) ((fun s => s.size ≤ maxLen))) ((fun s => .ret (bv (nameL (toBytes s))))) h args := rfl
theorem rname_pan {id : Nat} {h : Heap} {args : List AV} : (rnameS).pan id h args = panP (args1 (tStr) ((fun s => s.size ≤ maxLen))) ((fun s => .ret (bv (nameL (toBytes s))))) h args := rfl

/-! ### Signs -/
theorem sign_in : ∀ i : Nat, i < 18 → byteAt signS0 (i : Int) ∈ signs := by decide +kernel
theorem sign_all : ∀ c ∈ signs, ∃ i : Nat, i < 18 ∧ byteAt signS0 (i : Int) = c := by decide +kernel
theorem ext2 {s : ByteArray} {c d : Int} (hc : 0 ≤ c ∧ c ≤ 255) (hd : 0 ≤ d ∧ d ≤ 255) (h : 1 < s.size) : s.extract 0 2 = ofBytes [c, d] ↔ bAt (toBytes s) 0 = c ∧ bAt (toBytes s) 1 = d := by
  have hb : toBytes (ofBytes [c, d]) = [c, d] := toBytes_ofBytes (by intro z hz; simp at hz; omega)
  have h1 : toBytes (s.extract 0 2) = (toBytes s).take 2 := toBytes_take s 2
  rw [← toBytes_length] at h
  constructor
  · intro e
    rw [e, hb] at h1
    cases hs : toBytes s with
    | nil => rw [hs] at h; simp at h
    | cons x t =>
      cases t with
      | nil => rw [hs] at h; simp at h
      | cons y t => rw [hs] at h1; injection h1 with h1 h2; injection h2 with h2 h3; exact ⟨h1.symm, h2.symm⟩
  · rintro ⟨e1, e2⟩
    refine toBytes_inj ?_
    rw [h1, hb]
    cases hs : toBytes s with
    | nil => rw [hs] at h; simp at h
    | cons x t =>
      cases t with
      | nil => rw [hs] at h; simp at h
      | cons y t => rw [hs] at e1 e2; rw [← e1, ← e2]; rfl
set_option maxHeartbeats 1000000 in
theorem rsign_sw (s : ByteArray) : SW Tryd.prog ⟨none, 0⟩ Tryd.f49.ntmps (Tryd.f49.body.getD .skip) ⟨0, zipT 0 [tStr.enc s], []⟩ (outQ Tryd.prog Tryd.f49.results.toList (.ret (iv (signL (toBytes s))))) := by
  refine aRun_sound (ctx := []) 4000 ?_
  rw [Tryd.ntmps49, Tryd.results49]
  simp only [Tryd.f49, Option.getD_some, zipT]
  have hl : (toBytes s).length = s.size := toBytes_length s
  have hb0 := byteAt_bAt0 s
  by_cases hX : 1 < s.size ∧ (bAt (toBytes s) 0 = 60 ∧ bAt (toBytes s) 1 = 60 ∨ bAt (toBytes s) 0 = 62 ∧ bAt (toBytes s) 1 = 62)
  · have e : signL (toBytes s) = 2 := by unfold signL; rw [if_pos (by rw [hl]; exact hX)]
    obtain ⟨p1, hX⟩ := hX
    have p1I : (1 : Int) < s.size := by omega
    have p2I : (2 : Int) ≤ s.size := by omega
    by_cases c1 : s.extract 0 2 = ⟨#[60, 60]⟩
    · simp only [go_sem, Nat.reduceOr, Nat.reducePow, Nat.reduceDiv, Nat.reduceMod, Nat.reduceBEq, Int.reduceBEq, Int.reduceBNe, Int.reduceEq, Int.reduceLT, Int.reduceLE, Int.reduceToNat, reduceIte, reduceCtorEq, Nat.reduceEqDiff, Nat.reduceAdd, Nat.reduceLT, Nat.reduceLeDiff, Nat.reduceMul, Nat.reduceSub, p1I, p2I, Int.toNat_zero, eq_true c1, e]
    · have c2 : s.extract 0 2 = ⟨#[62, 62]⟩ := (ext2 (c := 62) (d := 62) (by omega) (by omega) p1).2 (hX.resolve_left fun h => c1 ((ext2 (c := 60) (d := 60) (by omega) (by omega) p1).2 h))
      have c3 : ((⟨#[62, 62]⟩ : ByteArray) = ⟨#[60, 60]⟩) = False := eq_false (by rw [← c2]; exact c1)
      simp only [go_sem, Nat.reduceOr, Nat.reducePow, Nat.reduceDiv, Nat.reduceMod, Nat.reduceBEq, Int.reduceBEq, Int.reduceBNe, Int.reduceEq, Int.reduceLT, Int.reduceLE, Int.reduceToNat, reduceIte, reduceCtorEq, Nat.reduceEqDiff, Nat.reduceAdd, Nat.reduceLT, Nat.reduceLeDiff, Nat.reduceMul, Nat.reduceSub, p1I, p2I, Int.toNat_zero, c2, c3, e]
  have hF : signL (toBytes s) = if 0 < s.size ∧ byteAt s 0 ∈ signs then 1 else 0 := by unfold signL; rw [if_neg (by rw [hl]; exact hX), hl, hb0]
  by_cases p1 : 1 < s.size
  case' pos =>
    have p1I : (1 : Int) < s.size := by omega
    have p2I : (2 : Int) ≤ s.size := by omega
    have c1 : ¬ s.extract 0 2 = ⟨#[60, 60]⟩ := fun h => hX ⟨p1, .inl ((ext2 (c := 60) (d := 60) (by omega) (by omega) p1).1 h)⟩
    have c2 : ¬ s.extract 0 2 = ⟨#[62, 62]⟩ := fun h => hX ⟨p1, .inr ((ext2 (c := 62) (d := 62) (by omega) (by omega) p1).1 h)⟩
    simp only [go_sem, Nat.reduceOr, Nat.reducePow, Nat.reduceDiv, Nat.reduceMod, Nat.reduceBEq, Int.reduceBEq, Int.reduceBNe, Int.reduceEq, Int.reduceLT, Int.reduceLE, Int.reduceToNat, reduceIte, reduceCtorEq, Nat.reduceEqDiff, Nat.reduceAdd, Nat.reduceLT, Nat.reduceLeDiff, Nat.reduceMul, Nat.reduceSub, p1I, p2I, Int.toNat_zero, c1, c2]
  case' neg =>
    have p1I : ¬ (1 : Int) < s.size := by omega
    simp only [go_sem, Nat.reduceOr, Nat.reducePow, Nat.reduceDiv, Nat.reduceMod, Nat.reduceBEq, Int.reduceBEq, Int.reduceBNe, Int.reduceEq, Int.reduceLT, Int.reduceLE, Int.reduceToNat, reduceIte, reduceCtorEq, Nat.reduceEqDiff, Nat.reduceAdd, Nat.reduceLT, Nat.reduceLeDiff, Nat.reduceMul, Nat.reduceSub, p1I]
  all_goals
    refine sw_loop (ι := Nat) (fun i => i ≤ 18 ∧ ∀ j : Nat, j < i → 0 < s.size → ¬ byteAt signS0 (j : Int) = byteAt s 0) (fun i => ⟨0, [(0, sv s), (3, iv i)], []⟩) (fun i => 18 - i) 0 ⟨Nat.zero_le _, fun j hj => absurd hj (Nat.not_lt_zero _)⟩ (Wk.renL [] (by simp) (by simp) (by simp) rfl rfl) ?_
    rintro i ⟨hi, hg⟩
    refine aRun_sound (ctx := []) 4000 ?_
    have ei : IntKind.i64.wrap ((i : Int) + 1) = ((i + 1 : Nat) : Int) := by rw [IntKind.wrap_i64]; omega
    by_cases hlt : i < 18
    · have hltI : (i : Int) < 18 := by omega
      by_cases h0 : 0 < s.size
      · have h0I : (0 : Int) < s.size := by omega
        by_cases hb : byteAt signS0 (i : Int) = byteAt s 0
        · have e : signL (toBytes s) = 1 := by rw [hF, if_pos ⟨h0, by rw [← hb]; exact sign_in i hlt⟩]
          have hsz : (i : Int) < ((⟨#[44, 91, 93, 33, 35, 58, 43, 45, 42, 47, 37, 38, 124, 94, 126, 40, 41, 61]⟩ : ByteArray).size : Int) := hltI
          have hb' : byteAt ⟨#[44, 91, 93, 33, 35, 58, 43, 45, 42, 47, 37, 38, 124, 94, 126, 40, 41, 61]⟩ (i : Int) = byteAt s 0 := hb
          simp only [go_sem, Nat.reduceOr, Nat.reducePow, Nat.reduceDiv, Nat.reduceMod, Nat.reduceBEq, Int.reduceBEq, Int.reduceBNe, Int.reduceEq, Int.reduceLT, Int.reduceLE, Int.reduceToNat, reduceIte, reduceCtorEq, Nat.reduceEqDiff, Nat.reduceAdd, Nat.reduceLT, Nat.reduceLeDiff, Nat.reduceMul, Nat.reduceSub, hltI]
          refine sw_draw (ctx := []) mixed [] (by kernel_rfl) ?_
          simp only [go_sem, Nat.reduceOr, Nat.reducePow, Nat.reduceDiv, Nat.reduceMod, Nat.reduceBEq, Int.reduceBEq, Int.reduceBNe, Int.reduceEq, Int.reduceLT, Int.reduceLE, Int.reduceToNat, reduceIte, reduceCtorEq, Nat.reduceEqDiff, Nat.reduceAdd, Nat.reduceLT, Nat.reduceLeDiff, Nat.reduceMul, Nat.reduceSub, hltI, h0I, hsz, hb', e]
        · have hsz : (i : Int) < ((⟨#[44, 91, 93, 33, 35, 58, 43, 45, 42, 47, 37, 38, 124, 94, 126, 40, 41, 61]⟩ : ByteArray).size : Int) := hltI
          have hb' : ¬ byteAt ⟨#[44, 91, 93, 33, 35, 58, 43, 45, 42, 47, 37, 38, 124, 94, 126, 40, 41, 61]⟩ (i : Int) = byteAt s 0 := hb
          simp only [go_sem, Nat.reduceOr, Nat.reducePow, Nat.reduceDiv, Nat.reduceMod, Nat.reduceBEq, Int.reduceBEq, Int.reduceBNe, Int.reduceEq, Int.reduceLT, Int.reduceLE, Int.reduceToNat, reduceIte, reduceCtorEq, Nat.reduceEqDiff, Nat.reduceAdd, Nat.reduceLT, Nat.reduceLeDiff, Nat.reduceMul, Nat.reduceSub, hltI]
          refine sw_draw (ctx := []) mixed [] (by kernel_rfl) ?_
          simp only [go_sem, Nat.reduceOr, Nat.reducePow, Nat.reduceDiv, Nat.reduceMod, Nat.reduceBEq, Int.reduceBEq, Int.reduceBNe, Int.reduceEq, Int.reduceLT, Int.reduceLE, Int.reduceToNat, reduceIte, reduceCtorEq, Nat.reduceEqDiff, Nat.reduceAdd, Nat.reduceLT, Nat.reduceLeDiff, Nat.reduceMul, Nat.reduceSub, hltI, h0I, hsz, hb', ei]
          exact ⟨i + 1, ⟨hlt, fun j hj => by
            rcases Nat.lt_or_ge j i with h1 | h1
            · exact hg j h1
            · obtain rfl : j = i := by omega
              exact fun _ => hb⟩, by omega, Wk.renL [] (by simp) (by simp) (by simp) rfl rfl⟩
      · have h0I : ¬ (0 : Int) < s.size := by omega
        simp only [go_sem, Nat.reduceOr, Nat.reducePow, Nat.reduceDiv, Nat.reduceMod, Nat.reduceBEq, Int.reduceBEq, Int.reduceBNe, Int.reduceEq, Int.reduceLT, Int.reduceLE, Int.reduceToNat, reduceIte, reduceCtorEq, Nat.reduceEqDiff, Nat.reduceAdd, Nat.reduceLT, Nat.reduceLeDiff, Nat.reduceMul, Nat.reduceSub, hltI]
        refine sw_draw (ctx := []) mixed [] (by kernel_rfl) ?_
        simp only [go_sem, Nat.reduceOr, Nat.reducePow, Nat.reduceDiv, Nat.reduceMod, Nat.reduceBEq, Int.reduceBEq, Int.reduceBNe, Int.reduceEq, Int.reduceLT, Int.reduceLE, Int.reduceToNat, reduceIte, reduceCtorEq, Nat.reduceEqDiff, Nat.reduceAdd, Nat.reduceLT, Nat.reduceLeDiff, Nat.reduceMul, Nat.reduceSub, hltI, h0I, ei]
        exact ⟨i + 1, ⟨hlt, fun j hj => by
          rcases Nat.lt_or_ge j i with h1 | h1
          · exact hg j h1
          · obtain rfl : j = i := by omega
            exact fun h => absurd h h0⟩, by omega, Wk.renL [] (by simp) (by simp) (by simp) rfl rfl⟩
    · have hltI : ¬ (i : Int) < 18 := by omega
      obtain rfl : i = 18 := by omega
      have e : signL (toBytes s) = 0 := by
        rw [hF, if_neg]
        rintro ⟨h0, h⟩
        obtain ⟨j, hj, e⟩ := sign_all _ h
        exact hg j hj h0 e
      simp only [go_sem, Nat.reduceOr, Nat.reducePow, Nat.reduceDiv, Nat.reduceMod, Nat.reduceBEq, Int.reduceBEq, Int.reduceBNe, Int.reduceEq, Int.reduceLT, Int.reduceLE, Int.reduceToNat, reduceIte, reduceCtorEq, Nat.reduceEqDiff, Nat.reduceAdd, Nat.reduceLT, Nat.reduceLeDiff, Nat.reduceMul, Nat.reduceSub, hltI, e]
theorem en_rsgn (args : Array Value) (w : World) : (callFunc 49 args).run Tryd.prog w = .ok (.enter 49 args) w := by go_simp
def rsgnS : Spec Tryd.prog 49 :=
  mk1 _ _ _ Tryd.func49 rfl en_rsgn (tStr) ((fun _ => True)) ((fun s => .ret (iv (signL (toBytes s))))) (by rw [Tryd.ntmps49]; decide) (fun s _ => rsign_sw s)
theorem rsgn_run {id : Nat} {h : Heap} {args : List AV} : (rsgnS).run id h args = runP (args1 (tStr) ((fun _ => True))) ((fun s => .ret (iv (signL (toBytes s))))) h args := rfl
theorem rsgn_pan {id : Nat} {h : Heap} {args : List AV} : (rsgnS).pan id h args = panP (args1 (tStr) ((fun _ => True))) ((fun s => .ret (iv (signL (toBytes s))))) h args := rfl

end Go.Proofs.YtcdbldakjepjiaaDoor
