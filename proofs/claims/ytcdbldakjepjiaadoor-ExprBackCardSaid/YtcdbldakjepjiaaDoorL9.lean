/- Lines: all tokens of a line. -/
import Derived.Test.YtcdbldakjepjiaaDoorWs
import Derived.Test.YtcdbldakjepjiaaDoorL8
set_option linter.unusedVariables false
set_option linter.unusedSimpArgs false
namespace Go.Proofs.YtcdbldakjepjiaaDoor
open Go.RowKit
set_option maxRecDepth 100000

def toksV (l : List Tok) : SV := .l (.d (.sd 4 (l.map tokR.enc)))
def toksK (l : List Tok) : Blk := ⟨true, 30, 4, (l.map tokR.enc).map ofDs⟩
def nilSV : SV := .l (.v (.slice none 0 0))
def tokensO (r : List Tok × Nat × Int) (long : Bool) : AV := .tup [if long = true then nilSV else toksV r.1, .l (.v (.int .i64 r.2.1)), .l (.v (.int .i64 r.2.2))]
def longL512 (l : List Int) : Bool := decide (512 < l.length)

theorem oneL_err {l : List Int} {e : Int} (h : oneL l = .error e) : e = 80 ∨ e = 81 ∨ e = 82 := by
  unfold oneL at h
  split at h
  · cases h
  · split at h
    · split at h
      · injection h with h; omega
      · cases h
    · split at h
      · split at h
        · injection h with h; omega
        · cases h
      · split at h
        · injection h with h; omega
        · cases h

def tkInv (s : ByteArray) (p : Nat × List Tok) : Prop := p.1 ≤ s.size ∧ p.2.length ≤ p.1 ∧ tokensL 0 (toBytes s) = (p.2 ++ (tokensL p.1 ((toBytes s).drop p.1)).1, (tokensL p.1 ((toBytes s).drop p.1)).2)
theorem toks_snoc (l : List Tok) (t : Tok) : (l.map tokR.enc).map ofDs ++ [[LV.v (.int .i64 t.kind), .v (.string t.text), .v (.int .u64 t.n), .v (.int .i64 t.pos)]] = ((l ++ [t]).map tokR.enc).map ofDs := by
  rw [List.map_append, List.map_append]; rfl

set_option maxHeartbeats 4000000 in
theorem tokens_sw (s : ByteArray) : SW Tryd.prog ⟨none, 0⟩ Tryd.f40.ntmps (Tryd.f40.body.getD .skip) ⟨0, zipT 0 [tStr.enc s], []⟩ (outQ Tryd.prog Tryd.f40.results.toList (.ret (tokensO (linesF (toBytes s)) (longL512 (toBytes s))))) := by
  refine aRun_sound (ctx := [⟨_, runS⟩, ⟨_, hasPS⟩, ⟨_, oneS⟩]) 4000 ?_
  rw [Tryd.ntmps40, Tryd.results40]
  simp only [Tryd.f40, Option.getD_some, zipT]
  have hl : (toBytes s).length = s.size := toBytes_length s
  by_cases h5 : 512 < s.size
  · have h5I : (512 : Int) < s.size := by omega
    have e1 : linesF (toBytes s) = ([], 0, 3) := by unfold linesF; rw [if_pos (by omega)]
    have e2 : longL512 (toBytes s) = true := by unfold longL512; rw [hl]; exact decide_eq_true h5
    simp only [go_sem, Nat.reduceOr, Nat.reducePow, Nat.reduceDiv, Nat.reduceMod, Nat.reduceBEq, Int.reduceBEq, Int.reduceBNe, Int.reduceEq, Int.reduceLT, Int.reduceLE, Int.reduceToNat, reduceIte, reduceCtorEq, Nat.reduceEqDiff, Nat.reduceAdd, Nat.reduceLT, Nat.reduceLeDiff, Nat.reduceMul, Nat.reduceSub, h5I, e1, e2, tokensO, nilSV]
  have h5I : ¬ (512 : Int) < s.size := by omega
  have hs : s.size ≤ 1099511627776 := by omega
  have e1 : linesF (toBytes s) = tokensL 0 (toBytes s) := by unfold linesF; rw [if_neg (by omega)]
  have e2 : longL512 (toBytes s) = false := by unfold longL512; rw [hl]; exact decide_eq_false h5
  simp only [go_sem, Nat.reduceOr, Nat.reducePow, Nat.reduceDiv, Nat.reduceMod, Nat.reduceBEq, Int.reduceBEq, Int.reduceBNe, Int.reduceEq, Int.reduceLT, Int.reduceLE, Int.reduceToNat, reduceIte, reduceCtorEq, Nat.reduceEqDiff, Nat.reduceAdd, Nat.reduceLT, Nat.reduceLeDiff, Nat.reduceMul, Nat.reduceSub, h5I, e1, e2, tokensO]
  refine sw_loop (ι := Nat × List Tok) (tkInv s) (fun p => ⟨1, [(0, sv s), (5, .s (.l (.sl 0 0 p.2.length))), (6, iv p.1)], [(0, some (toksK p.2))]⟩) (fun p => s.size - p.1) (0, []) ⟨Nat.zero_le _, Nat.le_refl _, by simp⟩ ?_ ?_
  · exact (Wk.nil 5 30 4 rfl).trans (Wk.renL [128] (by simp) (by simp) (by simp) rfl rfl)
  rintro ⟨p, l⟩ ⟨hp, hlp, hinv⟩
  simp only at hp hlp hinv
  refine aRun_sound (ctx := [⟨_, runS⟩, ⟨_, hasPS⟩, ⟨_, oneS⟩]) 4000 ?_
  obtain ⟨k, hk⟩ : ∃ k, runL blankB ((toBytes s).drop p) = k := ⟨_, rfl⟩
  have hkl : k ≤ s.size - p := by
    have : runL blankB ((toBytes s).drop p) ≤ ((toBytes s).drop p).length := runL_le _ _
    rw [List.length_drop, hl] at this
    omega
  have hpI : (p : Int) ≤ s.size := by omega
  have hx1 : (s.extract p s.size).size ≤ maxLen := by rw [← toBytes_length, toBytes_drop, List.length_drop, hl]; unfold maxLen; omega
  have hx2 : runL blankB (toBytes (s.extract p s.size)) = k := by rw [toBytes_drop, hk]
  have ew : IntKind.i64.wrap ((p : Int) + (k : Int)) = ((p + k : Nat) : Int) := by rw [IntKind.wrap_i64]; omega
  have hpk : ((p + k : Nat) : Int) ≤ s.size := by omega
  have hdd : ((toBytes s).drop p).drop k = (toBytes s).drop (p + k) := by rw [List.drop_drop]
  by_cases hend : p + k = s.size
  · have hendI : ((p + k : Nat) : Int) = s.size := by omega
    have hd : tokensL p ((toBytes s).drop p) = ([], p + ((toBytes s).drop p).length, 0) := tokensL_done (by rw [hk, hdd]; unfold doneL; rw [List.length_drop, hl, hend]; simp)
    have hF : tokensL 0 (toBytes s) = (l, s.size, 0) := by rw [hinv, hd, List.append_nil, List.length_drop, hl]; exact Prod.ext rfl (Prod.ext (show p + (s.size - p) = s.size by omega) rfl)
    simp only [go_sem, Nat.reduceOr, Nat.reducePow, Nat.reduceDiv, Nat.reduceMod, Nat.reduceBEq, Int.reduceBEq, Int.reduceBNe, Int.reduceEq, Int.reduceLT, Int.reduceLE, Int.reduceToNat, reduceIte, reduceCtorEq, Nat.reduceEqDiff, Nat.reduceAdd, Nat.reduceLT, Nat.reduceLeDiff, Nat.reduceMul, Nat.reduceSub, toksK, run_run, run_pan, isOf, hpI, hx1, hx2, ew, hendI, hF, toksV]
  have hendI : ¬ ((p + k : Nat) : Int) = s.size := by omega
  obtain ⟨m, hm⟩ : ∃ m, (toBytes s).drop (p + k) = m := ⟨_, rfl⟩
  have hml : m.length = s.size - (p + k) := by rw [← hm, List.length_drop, hl]
  have hx3 : toBytes (s.extract (p + k) s.size) = m := by rw [toBytes_drop, hm]
  have hx4 : (s.extract (p + k) s.size).size = s.size - (p + k) := by rw [← toBytes_length, hx3, hml]
  have hx5 : 0 < (s.extract (p + k) s.size).size ∧ (s.extract (p + k) s.size).size ≤ 1099511627776 := by omega
  have hP : hasPF (s.extract (p + k) s.size) ⟨#[47, 47]⟩ = decide (1 < m.length ∧ bAt m 0 = 47 ∧ bAt m 1 = 47) := by rw [← hx3]; exact hasP2 _ 47 47 (by omega) (by omega)
  have hD : doneL m = decide (1 < m.length ∧ bAt m 0 = 47 ∧ bAt m 1 = 47) := by
    unfold doneL
    rw [decide_eq_false (show ¬ m.length = 0 by omega), Bool.false_or, Bool.eq_iff_iff]
    simp [and_assoc]
  by_cases hc : 1 < m.length ∧ bAt m 0 = 47 ∧ bAt m 1 = 47
  · rw [decide_eq_true hc] at hP hD
    have hd : tokensL p ((toBytes s).drop p) = ([], p + ((toBytes s).drop p).length, 0) := tokensL_done (by rw [hk, hdd, hm]; exact hD)
    have hF : tokensL 0 (toBytes s) = (l, s.size, 0) := by rw [hinv, hd, List.append_nil, List.length_drop, hl]; exact Prod.ext rfl (Prod.ext (show p + (s.size - p) = s.size by omega) rfl)
    simp only [go_sem, Nat.reduceOr, Nat.reducePow, Nat.reduceDiv, Nat.reduceMod, Nat.reduceBEq, Int.reduceBEq, Int.reduceBNe, Int.reduceEq, Int.reduceLT, Int.reduceLE, Int.reduceToNat, reduceIte, reduceCtorEq, Nat.reduceEqDiff, Nat.reduceAdd, Nat.reduceLT, Nat.reduceLeDiff, Nat.reduceMul, Nat.reduceSub, toksK, run_run, run_pan, isOf, hpI, hx1, hx2, ew, hendI, hpk, hasP_run, hasP_pan, hP, hF, toksV]
  rw [decide_eq_false hc] at hP hD
  have hD' : doneL (((toBytes s).drop p).drop k) = false := by rw [hdd, hm]; exact hD
  rcases ho : oneL m with e | ⟨t, n⟩
  · have hd : tokensL p ((toBytes s).drop p) = ([], p + k, e) := by
      have := tokensL_error (p := p) (l := (toBytes s).drop p) (e := e) (by rw [hk]; exact hD') (by rw [hk, hdd, hm]; exact ho)
      rw [hk] at this; exact this
    have hF : tokensL 0 (toBytes s) = (l, p + k, e) := by rw [hinv, hd, List.append_nil]
    have he : ¬ e = 0 := by have := oneL_err ho; omega
    simp only [go_sem, Nat.reduceOr, Nat.reducePow, Nat.reduceDiv, Nat.reduceMod, Nat.reduceBEq, Int.reduceBEq, Int.reduceBNe, Int.reduceEq, Int.reduceLT, Int.reduceLE, Int.reduceToNat, reduceIte, reduceCtorEq, Nat.reduceEqDiff, Nat.reduceAdd, Nat.reduceLT, Nat.reduceLeDiff, Nat.reduceMul, Nat.reduceSub, toksK, run_run, run_pan, isOf, hpI, hx1, hx2, hx3, hx5, ew, hendI, hpk, hasP_run, hasP_pan, hP, one_run, one_pan, ho, oneO, tokV, he, hF, toksV]
  · have hn := oneL_le (by omega) ho
    have hd : tokensL p ((toBytes s).drop p) = ({ t with pos := ((p + k : Nat) : Int) } :: (tokensL (p + k + n) ((toBytes s).drop (p + k + n))).1, (tokensL (p + k + n) ((toBytes s).drop (p + k + n))).2) := by
      have := tokensL_ok (p := p) (l := (toBytes s).drop p) (t := t) (n := n) (by rw [hk]; exact hD') (by rw [hk, hdd, hm]; exact ho)
      rw [hk, List.drop_drop, ← Nat.add_assoc] at this; exact this
    have e3 : IntKind.i64.wrap (((p + k : Nat) : Int) + (n : Int)) = ((p + k + n : Nat) : Int) := by rw [IntKind.wrap_i64]; omega
    have hsn := toks_snoc l { t with pos := ((p + k : Nat) : Int) }
    simp only at hsn
    have hm1 : l.length + 1 ≤ maxLen := by unfold maxLen; omega
    have hb1 : (l.length + 1) * 40 ≤ 140737488355328 := by omega
    simp only [go_sem, Nat.reduceOr, Nat.reducePow, Nat.reduceDiv, Nat.reduceMod, Nat.reduceBEq, Int.reduceBEq, Int.reduceBNe, Int.reduceEq, Int.reduceLT, Int.reduceLE, Int.reduceToNat, reduceIte, reduceCtorEq, Nat.reduceEqDiff, Nat.reduceAdd, Nat.reduceLT, Nat.reduceLeDiff, Nat.reduceMul, Nat.reduceSub, toksK, run_run, run_pan, isOf, hpI, hx1, hx2, hx3, hx5, ew, hendI, hpk, hasP_run, hasP_pan, hP, one_run, one_pan, ho, oneO, tokV, hm1, hb1, e3, hsn]
    exact ⟨(p + k + n, l ++ [{ t with pos := ((p + k : Nat) : Int) }]), ⟨by simp only; omega, by simp only [List.length_append, List.length_cons, List.length_nil]; omega, by rw [hinv, hd]; simp⟩, by simp only; omega, Wk.renL [593] (by simp) (by simp) (by simp) (by simp [tget, AV.ren, SV.ren, LV.ren]) (by simp only [hget, List.map_cons, List.map_nil, Option.map_some, Blk.ren, rows_ren]; rfl)⟩

theorem en_tokens (args : Array Value) (w : World) : (callFunc 40 args).run Tryd.prog w = .ok (.enter 40 args) w := by go_simp
def tokensS : Spec Tryd.prog 40 :=
  mk1 _ _ _ Tryd.func40 rfl en_tokens (tStr) ((fun _ => True)) ((fun s => .ret (tokensO (linesF (toBytes s)) (longL512 (toBytes s))))) (by rw [Tryd.ntmps40]; decide) (fun s _ => tokens_sw s)
theorem tokens_run {id : Nat} {h : Heap} {args : List AV} : (tokensS).run id h args = runP (args1 (tStr) ((fun _ => True))) ((fun s => .ret (tokensO (linesF (toBytes s)) (longL512 (toBytes s))))) h args := rfl
theorem tokens_pan {id : Nat} {h : Heap} {args : List AV} : (tokensS).pan id h args = panP (args1 (tStr) ((fun _ => True))) ((fun s => .ret (tokensO (linesF (toBytes s)) (longL512 (toBytes s))))) h args := rfl

end Go.Proofs.YtcdbldakjepjiaaDoor
