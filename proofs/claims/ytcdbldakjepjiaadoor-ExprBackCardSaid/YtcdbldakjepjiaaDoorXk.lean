/- An expression's text, read again: the law's walk. -/
import Derived.Test.YtcdbldakjepjiaaDoorXj
set_option linter.unusedVariables false
set_option linter.unusedSimpArgs false
namespace Go.Proofs.YtcdbldakjepjiaaDoor.Ex
open Go.RowKit
set_option maxRecDepth 100000

/-! ### few -/
def sumN (l : List Term) : Nat := (l.map fun t => min t.sym.size 600).sum
theorem sumN_snoc (l : List Term) (t : Term) : sumN (l ++ [t]) = sumN l + min t.sym.size 600 := by simp [sumN]
theorem sumN_le : ∀ l : List Term, sumN l ≤ 600 * l.length
  | [] => Nat.le_refl _
  | t :: r => by
    have := sumN_le r
    have e : sumN (t :: r) = min t.sym.size 600 + sumN r := by simp [sumN]
    rw [e, List.length_cons]
    omega
def fewB (l : List Term) : Bool := decide (l.length ≤ 300) && decide (sumN (l.take 300) ≤ 3000)
set_option maxHeartbeats 2000000 in
theorem few_sw (l : List Term) : SW Tryd.prog ⟨none, 0⟩ Tryd.f36.ntmps (Tryd.f36.body.getD .skip) ⟨0, zipT 0 [(tSl 3 termR).enc l], []⟩ (outQ Tryd.prog Tryd.f36.results.toList (.ret (bv (fewB l)))) := by
  refine aRun_sound (ctx := []) 4000 ?_
  rw [Tryd.ntmps36, Tryd.results36]
  simp only [Tryd.f36, Option.getD_some, zipT]
  obtain ⟨m, hm⟩ : ∃ m, l.take 300 = m := ⟨_, rfl⟩
  have hml : m.length ≤ 300 := by rw [← hm, List.length_take]; omega
  have hmin : (if (300 : Int) < l.length then (300 : Int) else (l.length : Int)) = (m.length : Int) := by
    rw [← hm, List.length_take]
    split <;> omega
  have h0 : (0 : Int) ≤ m.length := by omega
  have h1 : (m.length : Int) ≤ l.length := by rw [← hm, List.length_take]; omega
  have ht : List.take m.length (List.map termR.enc l) = List.map termR.enc m := by
    rw [← List.map_take, ← hm, List.length_take]
    congr 1
    rw [List.take_eq_take_iff]
    omega
  simp only [go_sem, Nat.reduceOr, Nat.reducePow, Nat.reduceDiv, Nat.reduceMod, Nat.reduceBEq, Int.reduceBEq, Int.reduceBNe, Int.reduceEq, Int.reduceLT, Int.reduceLE, Int.reduceToNat, reduceIte, reduceCtorEq, Nat.reduceEqDiff, Nat.reduceAdd, Nat.reduceLT, Nat.reduceLeDiff, Nat.reduceMul, Nat.reduceSub, hmin, h0, h1, ht, Nat.sub_zero]
  refine sw_loop (ι := Nat) (fun i => i ≤ m.length) (fun i => ⟨0, [(0, (tSl 3 termR).enc l), (3, iv (sumN (m.take i))), (10, (tSl 3 termR).enc m), (11, iv m.length), (12, iv i)], []⟩) (fun i => m.length - i) 0 (Nat.zero_le _) (Wk.renL [] (by simp) (by simp) (by simp) rfl rfl) ?_
  intro i hi
  refine aRun_sound (ctx := []) 4000 ?_
  by_cases hlt : i < m.length
  · have hltI : (i : Int) < m.length := by omega
    obtain ⟨t, hti⟩ : ∃ t, m[i]? = some t := ⟨_, List.getElem?_eq_getElem hlt⟩
    have ei : IntKind.i64.wrap ((i : Int) + 1) = ((i + 1 : Nat) : Int) := by rw [IntKind.wrap_i64]; omega
    have htk : m.take (i + 1) = m.take i ++ [t] := by rw [List.take_add_one, hti]; rfl
    have hs := sumN_le (m.take i)
    rw [List.length_take] at hs
    have es : IntKind.i64.wrap ((sumN (m.take i) : Int) + (if (600 : Int) < t.sym.size then (600 : Int) else (t.sym.size : Int))) = ((sumN (m.take (i + 1)) : Nat) : Int) := by
      rw [htk, sumN_snoc, IntKind.wrap_i64]
      split <;> omega
    simp only [go_sem, Nat.reduceOr, Nat.reducePow, Nat.reduceDiv, Nat.reduceMod, Nat.reduceBEq, Int.reduceBEq, Int.reduceBNe, Int.reduceEq, Int.reduceLT, Int.reduceLE, Int.reduceToNat, reduceIte, reduceCtorEq, Nat.reduceEqDiff, Nat.reduceAdd, Nat.reduceLT, Nat.reduceLeDiff, Nat.reduceMul, Nat.reduceSub, hltI, hti, termE, es, ei]
    exact ⟨i + 1, hlt, by omega, Wk.renL [] (by simp) (by simp) (by simp) rfl rfl⟩
  · have hltI : ¬ (i : Int) < m.length := by omega
    obtain rfl : i = m.length := by omega
    have hF : fewB l = (decide (l.length ≤ 300) && decide (sumN m ≤ 3000)) := by unfold fewB; rw [hm]
    by_cases c1 : l.length ≤ 300
    · have c1I : (l.length : Int) ≤ 300 := by omega
      by_cases c2 : sumN m ≤ 3000
      · have c2I : (sumN m : Int) ≤ 3000 := by omega
        have e : fewB l = true := by rw [hF, decide_eq_true c1, decide_eq_true c2]; rfl
        simp only [go_sem, Nat.reduceOr, Nat.reducePow, Nat.reduceDiv, Nat.reduceMod, Nat.reduceBEq, Int.reduceBEq, Int.reduceBNe, Int.reduceEq, Int.reduceLT, Int.reduceLE, Int.reduceToNat, reduceIte, reduceCtorEq, Nat.reduceEqDiff, Nat.reduceAdd, Nat.reduceLT, Nat.reduceLeDiff, Nat.reduceMul, Nat.reduceSub, hltI, c1I, c2I, e]
      · have c2I : ¬ (sumN m : Int) ≤ 3000 := by omega
        have e : fewB l = false := by rw [hF, decide_eq_true c1, decide_eq_false c2]; rfl
        simp only [go_sem, Nat.reduceOr, Nat.reducePow, Nat.reduceDiv, Nat.reduceMod, Nat.reduceBEq, Int.reduceBEq, Int.reduceBNe, Int.reduceEq, Int.reduceLT, Int.reduceLE, Int.reduceToNat, reduceIte, reduceCtorEq, Nat.reduceEqDiff, Nat.reduceAdd, Nat.reduceLT, Nat.reduceLeDiff, Nat.reduceMul, Nat.reduceSub, hltI, c1I, c2I, e]
    · have c1I : ¬ (l.length : Int) ≤ 300 := by omega
      have e : fewB l = false := by rw [hF, decide_eq_false c1]; rfl
      simp only [go_sem, Nat.reduceOr, Nat.reducePow, Nat.reduceDiv, Nat.reduceMod, Nat.reduceBEq, Int.reduceBEq, Int.reduceBNe, Int.reduceEq, Int.reduceLT, Int.reduceLE, Int.reduceToNat, reduceIte, reduceCtorEq, Nat.reduceEqDiff, Nat.reduceAdd, Nat.reduceLT, Nat.reduceLeDiff, Nat.reduceMul, Nat.reduceSub, hltI, c1I, e]
theorem en_few (args : Array Value) (w : World) : (callFunc 36 args).run Tryd.prog w = .ok (.enter 36 args) w := by go_simp
def fewS : Spec Tryd.prog 36 :=
  mk1 _ _ _ Tryd.func36 rfl en_few (tSl 3 termR) ((fun _ => True)) ((fun l => .ret (bv (fewB l)))) (by rw [Tryd.ntmps36]; decide) (fun l _ => few_sw l)
theorem few_run {id : Nat} {h : Heap} {args : List AV} : (fewS).run id h args = runP (args1 (tSl 3 termR) ((fun _ => True))) ((fun l => .ret (bv (fewB l)))) h args := rfl
theorem few_pan {id : Nat} {h : Heap} {args : List AV} : (fewS).pan id h args = panP (args1 (tSl 3 termR) ((fun _ => True))) ((fun l => .ret (bv (fewB l)))) h args := rfl

/-! ### open -/
def encI (z : Int) : List LV := [.v (.int .i64 z)]
theorem encI_ren (g : Nat → Nat) (z : Int) : List.map (fun x => LV.ren g x) (encI z) = encI z := rfl
theorem encI_zero : encI 0 = [.v (.int .i64 0)] := rfl
def intsK (l : List Int) : Blk := ⟨true, 3, 1, l.map encI⟩
structure OpenInv (ts : List Term) (p : Nat × List Int × List Int) : Prop where
  i : p.1 ≤ ts.length
  form : formF p.2.1.length (ts.drop p.1) = 0
  op : openF p.2.1 (ts.drop p.1) = openF [] ts
  len : p.2.1.length ≤ p.1
  rng : ∀ z ∈ p.2.1, 0 ≤ z ∧ z ≤ 2 * p.1
set_option maxHeartbeats 4000000 in
theorem open_sw (ts : List Term) (hc : checkF ts = 0) (y : Int) (hy : openF [] ts = [y]) : SW Tryd.prog ⟨none, 0⟩ Tryd.f38.ntmps (Tryd.f38.body.getD .skip) ⟨0, zipT 0 [(tSl 3 termR).enc ts], []⟩ (outQ Tryd.prog Tryd.f38.results.toList (.ret (iv y))) := by
  have hlen := checkF_len hc
  have hform := checkF_form hc
  refine aRun_sound (ctx := []) 4000 ?_
  rw [Tryd.ntmps38, Tryd.results38]
  simp only [Tryd.f38, Option.getD_some, zipT]
  simp only [go_sem, Nat.reduceOr, Nat.reducePow, Nat.reduceDiv, Nat.reduceMod, Nat.reduceBEq, Int.reduceBEq, Int.reduceBNe, Int.reduceEq, Int.reduceLT, Int.reduceLE, Int.reduceToNat, reduceIte, reduceCtorEq, Nat.reduceEqDiff, Nat.reduceAdd, Nat.reduceLT, Nat.reduceLeDiff, Nat.reduceMul, Nat.reduceSub]
  refine sw_loop (ι := Nat × List Int × List Int) (OpenInv ts) (fun p => ⟨1, [(3, .s (.l (.sl 0 0 p.2.1.length))), (7, (tSl 3 termR).enc ts), (8, iv ts.length), (9, iv p.1)], [(0, some (intsK (p.2.1 ++ p.2.2)))]⟩) (fun p => ts.length - p.1) (0, [], []) ⟨Nat.zero_le _, by simpa using hform, by simp, Nat.le_refl _, by simp⟩ ?_ ?_
  · exact (Wk.nil 3 3 1 rfl).trans (Wk.renL [80] (by simp) (by simp) (by simp) rfl rfl)
  rintro ⟨k, st, junk⟩ ⟨hk, hf, hop, hstl, hrng⟩
  simp only at hk hf hop hstl hrng
  refine aRun_sound (ctx := []) 4000 ?_
  by_cases hlt : k < ts.length
  · obtain ⟨t, ht⟩ : ∃ t, ts[k]? = some t := ⟨_, List.getElem?_eq_getElem hlt⟩
    have hltI : (k : Int) < ts.length := by omega
    have hd : ts.drop k = t :: ts.drop (k + 1) := by rw [List.drop_eq_getElem_cons hlt]; congr 1; rw [List.getElem?_eq_getElem hlt] at ht; injection ht
    rw [hd] at hf hop
    obtain ⟨htm, hle, hf'⟩ := formF_cons hf
    have ek : IntKind.i64.wrap ((k : Int) + 1) = ((k + 1 : Nat) : Int) := by rw [IntKind.wrap_i64]; omega
    rcases takes_kind (k := t.kind) with htk | ⟨htk, hk1, hk2⟩ | ⟨htk, hk1, hk2⟩
    · have hk2 : t.kind ≤ 2 := by rcases term_leaf htm htk with ⟨h, _⟩ | ⟨h, _⟩ <;> omega
      have hm : st.length + 1 ≤ maxLen := by unfold maxLen; omega
      have hb : (st.length + 1) * 8 ≤ 140737488355328 := by omega
      have htl : List.take st.length ((st ++ junk).map encI) = st.map encI := by rw [← List.map_take, List.take_left]
      have hle2 : st.length ≤ (st ++ junk).length := by simp
      simp only [go_sem, Nat.reduceOr, Nat.reducePow, Nat.reduceDiv, Nat.reduceMod, Nat.reduceBEq, Int.reduceBEq, Int.reduceBNe, Int.reduceEq, Int.reduceLT, Int.reduceLE, Int.reduceToNat, reduceIte, reduceCtorEq, Nat.reduceEqDiff, Nat.reduceAdd, Nat.reduceLT, Nat.reduceLeDiff, Nat.reduceMul, Nat.reduceSub, hltI, ht, termE, hk2, intsK, encI, hm, hb, htl, hle2, ek]
      have hst : stepO st t = st ++ [0] := by unfold stepO; rw [if_pos hk2]
      exact ⟨(k + 1, st ++ [0], []), ⟨hlt, by simp only [List.length_append, List.length_singleton]; rw [htk] at hf'; push_cast; exact hf', by simp only; rw [← hst]; exact hop, by simp; omega, by
        intro z hz
        simp only [List.mem_append, List.mem_singleton] at hz
        rcases hz with hz | rfl
        · have := hrng z hz; simp only; omega
        · simp only; omega⟩, by simp only; omega, Wk.renL [225] (by simp) (by simp) (by simp) (by simp [tget, AV.ren, SV.ren, LV.ren]) (by simp [hget, Blk.ren, encI_ren, Function.comp_def]; rfl)⟩
    · obtain ⟨us, z, rfl⟩ : ∃ us z, st = us ++ [z] := by
        rcases List.eq_nil_or_concat st with rfl | ⟨us, z, rfl⟩
        · simp [htk] at hle
        · exact ⟨us, z, by simp⟩
      have hL : (us ++ [z]).length = us.length + 1 := by simp
      have hz := hrng z (by simp)
      have hn2 : ¬ t.kind ≤ 2 := by omega
      have g3 : IntKind.i64.wrap (((us.length + 1 : Nat) : Int) - 1) = (us.length : Int) := by rw [IntKind.wrap_i64]; omega
      have g4 : IntKind.i64.wrap (z + 2) = z + 2 := by rw [IntKind.wrap_i64]; omega
      have hl1 : (us.length : Int) < ((us.length + 1 : Nat) : Int) := by omega
      have g1 : (us ++ z :: junk)[us.length]? = some z := by simp
      have gs : ∀ w : Int, List.set ((us ++ z :: junk).map encI) us.length [LV.v (.int .i64 w)] = (us ++ w :: junk).map encI := by intro w; simp [encI]
      have hst : stepO (us ++ [z]) t = us ++ [z + 2] := by
        unfold stepO
        rw [if_neg hn2, if_pos hk2]
        simp
      simp only [go_sem, Nat.reduceOr, Nat.reducePow, Nat.reduceDiv, Nat.reduceMod, Nat.reduceBEq, Int.reduceBEq, Int.reduceBNe, Int.reduceEq, Int.reduceLT, Int.reduceLE, Int.reduceToNat, reduceIte, reduceCtorEq, Nat.reduceEqDiff, Nat.reduceAdd, Nat.reduceLT, Nat.reduceLeDiff, Nat.reduceMul, Nat.reduceSub, hltI, ht, termE, hn2, hk2, intsK, encI, hL, g3, g4, hl1, g1, gs, ek]
      exact ⟨(k + 1, us ++ [z + 2], junk), ⟨hlt, by
        simp only [List.length_append, List.length_cons, List.length_nil] at hf' ⊢
        rw [htk] at hf'
        rw [← hf']; congr 1 <;> omega, by simp only; rw [← hst]; exact hop, by simp only [List.length_append, List.length_cons, List.length_nil] at hstl ⊢; omega, by
        intro w hw
        simp only [List.mem_append, List.mem_singleton] at hw
        rcases hw with hw | rfl
        · have := hrng w (by simp [hw]); simp only; omega
        · simp only; omega⟩, by simp only; omega, Wk.renL [0] (by simp) (by simp) (by simp) (by simp [tget, AV.ren, SV.ren, LV.ren]) (by simp [hget, Blk.ren, encI_ren, encI_zero, Function.comp_def])⟩
    · obtain ⟨us, x, z, rfl⟩ : ∃ us x z, st = us ++ [x, z] := by
        rcases List.eq_nil_or_concat st with rfl | ⟨us, w, rfl⟩
        · simp [htk] at hle
        · rcases List.eq_nil_or_concat us with rfl | ⟨us, z, rfl⟩
          · simp [htk] at hle
          · exact ⟨us, z, w, by simp⟩
      have hL : (us ++ [x, z]).length = us.length + 2 := by simp
      have hx := hrng x (by simp)
      have hz := hrng z (by simp)
      have hn2 : ¬ t.kind ≤ 2 := by omega
      have hn4 : ¬ t.kind ≤ 4 := by omega
      have g3 : IntKind.i64.wrap (((us.length + 2 : Nat) : Int) - 1) = ((us.length + 1 : Nat) : Int) := by rw [IntKind.wrap_i64]; omega
      have g5 : IntKind.i64.wrap (((us.length + 2 : Nat) : Int) - 2) = (us.length : Int) := by rw [IntKind.wrap_i64]; omega
      have g4 : IntKind.i64.wrap ((if x < z then z else x) + 1) = max x z + 1 := by
        rw [show (if x < z then z else x) = max x z by split <;> omega, IntKind.wrap_i64]; omega
      have hl0 : (us.length : Int) < ((us.length + 2 : Nat) : Int) := by omega
      have hl1 : ((us.length + 1 : Nat) : Int) < ((us.length + 2 : Nat) : Int) := by omega
      have hl2 : ((us.length + 1 : Nat) : Int) ≤ ((us.length + 2 : Nat) : Int) := by omega
      have g0 : (us ++ x :: z :: junk)[us.length]? = some x := by simp
      have g1 : (us ++ x :: z :: junk)[us.length + 1]? = some z := by
        rw [List.getElem?_append_right (by omega), Nat.add_sub_cancel_left]; rfl
      have gs : ∀ w : Int, List.set ((us ++ x :: z :: junk).map encI) us.length [LV.v (.int .i64 w)] = (us ++ w :: z :: junk).map encI := by intro w; simp [encI]
      have hst : stepO (us ++ [x, z]) t = us ++ [max x z + 1] := by
        unfold stepO
        rw [if_neg hn2, if_neg hn4]
        simp
      simp only [go_sem, Nat.reduceOr, Nat.reducePow, Nat.reduceDiv, Nat.reduceMod, Nat.reduceBEq, Int.reduceBEq, Int.reduceBNe, Int.reduceEq, Int.reduceLT, Int.reduceLE, Int.reduceToNat, reduceIte, reduceCtorEq, Nat.reduceEqDiff, Nat.reduceAdd, Nat.reduceLT, Nat.reduceLeDiff, Nat.reduceMul, Nat.reduceSub, hltI, ht, termE, hn2, hn4, intsK, encI, hL]
      refine sw_draw (ctx := []) mixed [16] (by kernel_rfl) ?_
      simp only [go_sem, Nat.reduceOr, Nat.reducePow, Nat.reduceDiv, Nat.reduceMod, Nat.reduceBEq, Int.reduceBEq, Int.reduceBNe, Int.reduceEq, Int.reduceLT, Int.reduceLE, Int.reduceToNat, reduceIte, reduceCtorEq, Nat.reduceEqDiff, Nat.reduceAdd, Nat.reduceLT, Nat.reduceLeDiff, Nat.reduceMul, Nat.reduceSub, encI, g3, g4, g5, hl0, hl1, hl2, g0, g1, gs, ek, Nat.sub_zero]
      exact ⟨(k + 1, us ++ [max x z + 1], z :: junk), ⟨hlt, by
        simp only [List.length_append, List.length_cons, List.length_nil] at hf' ⊢
        rw [htk] at hf'
        rw [← hf']; congr 1 <;> omega, by simp only; rw [← hst]; exact hop, by simp only [List.length_append, List.length_cons, List.length_nil] at hstl ⊢; omega, by
        intro w hw
        simp only [List.mem_append, List.mem_singleton] at hw
        rcases hw with hw | rfl
        · have := hrng w (by simp [hw]); simp only; omega
        · simp only; omega⟩, by simp only; omega, Wk.renL [0] (by simp) (by simp) (by simp) (by simp [tget, AV.ren, SV.ren, LV.ren]) (by simp [hget, Blk.ren, encI_ren, encI_zero, Function.comp_def])⟩
  · have hltI : ¬ (k : Int) < ts.length := by omega
    rw [List.drop_eq_nil_of_le (by omega)] at hf hop
    obtain ⟨z, rfl⟩ : ∃ z, st = [z] := by
      have := formF_one hf
      match st, (by omega : st.length = 1) with
      | [z], _ => exact ⟨z, rfl⟩
    have e : [z] = [y] := hop.trans hy
    injection e with e
    subst e
    simp only [go_sem, Nat.reduceOr, Nat.reducePow, Nat.reduceDiv, Nat.reduceMod, Nat.reduceBEq, Int.reduceBEq, Int.reduceBNe, Int.reduceEq, Int.reduceLT, Int.reduceLE, Int.reduceToNat, reduceIte, reduceCtorEq, Nat.reduceEqDiff, Nat.reduceAdd, Nat.reduceLT, Nat.reduceLeDiff, Nat.reduceMul, Nat.reduceSub, hltI, intsK, encI]

def openQ (ts : List Term) : Prop := checkF ts = 0 ∧ ∃ y, openF [] ts = [y]
theorem en_open (args : Array Value) (w : World) : (callFunc 38 args).run Tryd.prog w = .ok (.enter 38 args) w := by go_simp
def openS : Spec Tryd.prog 38 :=
  mk1 _ _ _ Tryd.func38 rfl en_open (tSl 3 termR) (openQ) ((fun ts => .ret (iv ((openF [] ts).getD 0 0)))) (by rw [Tryd.ntmps38]; decide) (fun ts h => by
  obtain ⟨hc, y, hy⟩ := h
  have := open_sw ts hc y hy
  rw [hy]
  exact this)
theorem open_run {id : Nat} {h : Heap} {args : List AV} : (openS).run id h args = runP (args1 (tSl 3 termR) (openQ)) ((fun ts => .ret (iv ((openF [] ts).getD 0 0)))) h args := rfl
theorem open_pan {id : Nat} {h : Heap} {args : List AV} : (openS).pan id h args = panP (args1 (tSl 3 termR) (openQ)) ((fun ts => .ret (iv ((openF [] ts).getD 0 0)))) h args := rfl

/-! ### SameTerms -/
theorem flat_term : flatT Tryd.prog 91 = some [1, 1, 3] := by kernel_rfl
set_option maxHeartbeats 2000000 in
theorem same_sw (l : List Term) (hl : l.length ≤ 1000000) : SW Tryd.prog ⟨none, 0⟩ Tryd.f39.ntmps (Tryd.f39.body.getD .skip) ⟨0, zipT 0 [(tSl 3 termR).enc l, (tSl 3 termR).enc l], []⟩ (outQ Tryd.prog Tryd.f39.results.toList (.ret (bv true))) := by
  refine aRun_sound (ctx := []) 4000 ?_
  rw [Tryd.ntmps39, Tryd.results39]
  simp only [Tryd.f39, Option.getD_some, zipT]
  simp only [go_sem, Nat.reduceOr, Nat.reducePow, Nat.reduceDiv, Nat.reduceMod, Nat.reduceBEq, Int.reduceBEq, Int.reduceBNe, Int.reduceEq, Int.reduceLT, Int.reduceLE, Int.reduceToNat, reduceIte, reduceCtorEq, Nat.reduceEqDiff, Nat.reduceAdd, Nat.reduceLT, Nat.reduceLeDiff, Nat.reduceMul, Nat.reduceSub]
  refine sw_loop (ι := Nat) (fun i => i ≤ l.length) (fun i => ⟨0, [(0, (tSl 3 termR).enc l), (1, (tSl 3 termR).enc l), (5, iv i)], []⟩) (fun i => l.length - i) 0 (Nat.zero_le _) (Wk.renL [] (by simp) (by simp) (by simp) rfl rfl) ?_
  intro i hi
  refine aRun_sound (ctx := []) 4000 ?_
  by_cases hlt : i < l.length
  · have hltI : (i : Int) < l.length := by omega
    obtain ⟨t, hti⟩ : ∃ t, l[i]? = some t := ⟨_, List.getElem?_eq_getElem hlt⟩
    have ei : IntKind.i64.wrap ((i : Int) + 1) = ((i + 1 : Nat) : Int) := by rw [IntKind.wrap_i64]; omega
    simp only [go_sem, Nat.reduceOr, Nat.reducePow, Nat.reduceDiv, Nat.reduceMod, Nat.reduceBEq, Int.reduceBEq, Int.reduceBNe, Int.reduceEq, Int.reduceLT, Int.reduceLE, Int.reduceToNat, reduceIte, reduceCtorEq, Nat.reduceEqDiff, Nat.reduceAdd, Nat.reduceLT, Nat.reduceLeDiff, Nat.reduceMul, Nat.reduceSub, hltI]
    refine sw_draw (ctx := []) mixed [] (by kernel_rfl) ?_
    simp only [go_sem, Nat.reduceOr, Nat.reducePow, Nat.reduceDiv, Nat.reduceMod, Nat.reduceBEq, Int.reduceBEq, Int.reduceBNe, Int.reduceEq, Int.reduceLT, Int.reduceLE, Int.reduceToNat, reduceIte, reduceCtorEq, Nat.reduceEqDiff, Nat.reduceAdd, Nat.reduceLT, Nat.reduceLeDiff, Nat.reduceMul, Nat.reduceSub, hltI, hti, termE, pure_flat_neq, orPure_ne, flatEq, flat_term, eqKs, ei]
    exact ⟨i + 1, hlt, by omega, Wk.renL [] (by simp) (by simp) (by simp) rfl rfl⟩
  · have hltI : ¬ (i : Int) < l.length := by omega
    simp only [go_sem, Nat.reduceOr, Nat.reducePow, Nat.reduceDiv, Nat.reduceMod, Nat.reduceBEq, Int.reduceBEq, Int.reduceBNe, Int.reduceEq, Int.reduceLT, Int.reduceLE, Int.reduceToNat, reduceIte, reduceCtorEq, Nat.reduceEqDiff, Nat.reduceAdd, Nat.reduceLT, Nat.reduceLeDiff, Nat.reduceMul, Nat.reduceSub, hltI]
theorem en_same (args : Array Value) (w : World) : (callFunc 39 args).run Tryd.prog w = .ok (.enter 39 args) w := by go_simp
def sameS : Spec Tryd.prog 39 :=
  mk2 _ _ _ Tryd.func39 rfl en_same (tSl 3 termR) (tSl 3 termR) ((fun a b => a = b ∧ a.length ≤ 1000000)) ((fun _ _ => .ret (bv true))) (by rw [Tryd.ntmps39]; decide) (fun a b h => by
  obtain ⟨rfl, hl⟩ := h
  exact same_sw a hl)
theorem same_run {id : Nat} {h : Heap} {args : List AV} : (sameS).run id h args = runP (args2 (tSl 3 termR) (tSl 3 termR) ((fun a b => a = b ∧ a.length ≤ 1000000))) (fun x => ((fun _ _ => .ret (bv true))) x.1 x.2) h args := rfl
theorem same_pan {id : Nat} {h : Heap} {args : List AV} : (sameS).pan id h args = panP (args2 (tSl 3 termR) (tSl 3 termR) ((fun a b => a = b ∧ a.length ≤ 1000000))) (fun x => ((fun _ _ => .ret (bv true))) x.1 x.2) h args := rfl

/-! ### The law -/
def okT (t : Term) : Prop := t.sym.size ≤ maxLen ∧ -9223372036854775808 ≤ t.n ∧ t.n ≤ 9223372036854775807
set_option maxHeartbeats 4000000 in
theorem eback_sw (l : List Term) (hl : l.length ≤ maxLen) (h : ∀ t ∈ l, okT t) : SW Tryd.prog ⟨none, 0⟩ Tryd.f10.ntmps (Tryd.f10.body.getD .skip) ⟨0, zipT 0 [(tSl 3 termR).enc l], []⟩ (outQ Tryd.prog Tryd.f10.results.toList (.ret (bv true))) := by
  have hq : (l.length ≤ maxLen ∧ ∀ t ∈ l, t.sym.size ≤ maxLen) ∧ ∀ t ∈ l, -9223372036854775808 ≤ t.n ∧ t.n ≤ 9223372036854775807 := ⟨⟨hl, fun t ht => (h t ht).1⟩, fun t ht => (h t ht).2⟩
  refine aRun_sound (ctx := [⟨_, liveS⟩, ⟨_, fewS⟩, ⟨_, textS⟩, ⟨_, openS⟩, ⟨_, lexS⟩, ⟨_, parseS⟩, ⟨_, sameS⟩]) 4000 ?_
  rw [Tryd.ntmps10, Tryd.results10]
  simp only [Tryd.f10, Option.getD_some, zipT]
  rcases hfew : fewB l
  · simp only [go_sem, Nat.reduceOr, Nat.reducePow, Nat.reduceDiv, Nat.reduceMod, Nat.reduceBEq, Int.reduceBEq, Int.reduceBNe, Int.reduceEq, Int.reduceLT, Int.reduceLE, Int.reduceToNat, reduceIte, reduceCtorEq, Nat.reduceEqDiff, Nat.reduceAdd, Nat.reduceLT, Nat.reduceLeDiff, Nat.reduceMul, Nat.reduceSub, live_run, live_pan, few_run, few_pan, decAllD_map, hfew]
  by_cases hc : checkF l = 0
  case neg =>
    have e : textR l = .tup [.l (.v (.string emp)), .l (.v (.int .i64 (checkF l)))] := by unfold textR textAll; rw [if_neg hc]
    simp only [go_sem, Nat.reduceOr, Nat.reducePow, Nat.reduceDiv, Nat.reduceMod, Nat.reduceBEq, Int.reduceBEq, Int.reduceBNe, Int.reduceEq, Int.reduceLT, Int.reduceLE, Int.reduceToNat, reduceIte, reduceCtorEq, Nat.reduceEqDiff, Nat.reduceAdd, Nat.reduceLT, Nat.reduceLeDiff, Nat.reduceMul, Nat.reduceSub, live_run, live_pan, few_run, few_pan, decAllD_map, hfew, text_run, text_pan, hq, e, hc]
    exact ⟨hq.1.2, hq.2⟩
  obtain ⟨E, e1, e2, e3, e4⟩ := exp_of l [] (by simp) hq.2 (by simpa using checkF_form hc)
  simp only [List.map_nil, List.flatMap_nil, List.nil_append] at e2 e3 e4
  by_cases h64 : 64 < E.pc.d
  · have e : textR l = .tup [.l (.v (.string emp)), .l (.v (.int .i64 93))] := by unfold textR textAll; rw [if_pos hc, e2, if_pos (show 64 < ([E.pc].getD 0 zeroP).d from h64)]
    simp only [go_sem, Nat.reduceOr, Nat.reducePow, Nat.reduceDiv, Nat.reduceMod, Nat.reduceBEq, Int.reduceBEq, Int.reduceBNe, Int.reduceEq, Int.reduceLT, Int.reduceLE, Int.reduceToNat, reduceIte, reduceCtorEq, Nat.reduceEqDiff, Nat.reduceAdd, Nat.reduceLT, Nat.reduceLeDiff, Nat.reduceMul, Nat.reduceSub, live_run, live_pan, few_run, few_pan, decAllD_map, hfew, text_run, text_pan, hq, e]
    exact ⟨hq.1.2, hq.2⟩
  have e : textR l = .tup [.l (.v (.string E.pc.s)), .l (.v (.int .i64 0))] := by unfold textR textAll; rw [if_pos hc, e2, if_neg (show ¬ 64 < ([E.pc].getD 0 zeroP).d from h64)]; rfl
  have ho : openQ l := ⟨hc, E.op, e3⟩
  have ho2 : (openF [] l).getD 0 0 = E.op := by rw [e3]; rfl
  rw [List.getD_eq_getElem?_getD] at ho2
  by_cases hop : 64 < E.op
  · simp only [go_sem, Nat.reduceOr, Nat.reducePow, Nat.reduceDiv, Nat.reduceMod, Nat.reduceBEq, Int.reduceBEq, Int.reduceBNe, Int.reduceEq, Int.reduceLT, Int.reduceLE, Int.reduceToNat, reduceIte, reduceCtorEq, Nat.reduceEqDiff, Nat.reduceAdd, Nat.reduceLT, Nat.reduceLeDiff, Nat.reduceMul, Nat.reduceSub, live_run, live_pan, few_run, few_pan, decAllD_map, hfew, text_run, text_pan, hq, e, open_run, open_pan, ho, ho2, hop]
    exact ⟨hq.1.2, hq.2⟩
  by_cases hs : 512 < E.pc.s.size
  · have hsI : (512 : Int) < E.pc.s.size := by omega
    simp only [go_sem, Nat.reduceOr, Nat.reducePow, Nat.reduceDiv, Nat.reduceMod, Nat.reduceBEq, Int.reduceBEq, Int.reduceBNe, Int.reduceEq, Int.reduceLT, Int.reduceLE, Int.reduceToNat, reduceIte, reduceCtorEq, Nat.reduceEqDiff, Nat.reduceAdd, Nat.reduceLT, Nat.reduceLeDiff, Nat.reduceMul, Nat.reduceSub, live_run, live_pan, few_run, few_pan, decAllD_map, hfew, text_run, text_pan, hq, e, open_run, open_pan, ho, ho2, hop, hsI]
    exact ⟨hq.1.2, hq.2⟩
  have hsI : ¬ (512 : Int) < E.pc.s.size := by omega
  have hlen := checkF_len hc
  obtain ⟨ts, k1, k2⟩ := exp_back e1 (by omega) (by omega) (by rw [← e4]; exact hlen)
  rw [← e4] at k2
  have hlx : lexO (linesF (toBytes E.pc.s)) = .tup [toksV ts, .l (.v (.int .i64 E.pc.s.size)), .l (.v (.int .i64 0))] := by rw [k1]; rfl
  have hpr : outParse ts = .ret (.tup [.l (.d (.sd 3 (l.map termR.enc))), .l (.v (.int .i64 ts.length)), .l (.v (.int .i64 0))]) := by unfold outParse; rw [k2]
  have htl : ts.length ≤ 1000000 := by
    have hbl := toBytes_length E.pc.s
    unfold linesF at k1
    rw [if_neg (by omega)] at k1
    have := (tokens_good ts 0 _ 0 (Nat.zero_le _) (by rw [List.drop_zero]; exact k1)).2.2.2
    omega
  have hq2 : l.length ≤ 1000000 := by omega
  simp only [go_sem, Nat.reduceOr, Nat.reducePow, Nat.reduceDiv, Nat.reduceMod, Nat.reduceBEq, Int.reduceBEq, Int.reduceBNe, Int.reduceEq, Int.reduceLT, Int.reduceLE, Int.reduceToNat, reduceIte, reduceCtorEq, Nat.reduceEqDiff, Nat.reduceAdd, Nat.reduceLT, Nat.reduceLeDiff, Nat.reduceMul, Nat.reduceSub, live_run, live_pan, few_run, few_pan, decAllD_map, hfew, text_run, text_pan, hq, e, open_run, open_pan, ho, ho2, hop, hsI, lex_run, lex_pan, hlx, toksV, parse_run, parse_pan, hpr, htl, same_run, same_pan, hq2]
  exact ⟨hq.1.2, hq.2⟩

end Go.Proofs.YtcdbldakjepjiaaDoor.Ex
