/- The document's instructions: limits of two classes; the check. -/
import Derived.Test.YtpjlafmhoifkmaaGreatKK
set_option linter.unusedVariables false
set_option linter.unusedSimpArgs false
namespace Go.Proofs.YtpjlafmhoifkmaaGreat
open Go.RowKit
set_option maxRecDepth 100000

/-- three plain values behind a slice -/
def xw3 {X : Type} (T : Ty X) (hpl : ∀ x, (T.enc x).plain = true) : Xw (X × X × X) where
  dec := fun | [A, B, C] => (match T.dec A, T.dec B, T.dec C with | some a, some b, some c => some (a, b, c) | _, _, _ => none) | _ => none
  enc := fun x => [T.enc x.1, T.enc x.2.1, T.enc x.2.2]
  len := 3
  enc_len := fun _ => rfl
  ok := by
    intro zs x h ρ ρ' al al' vals hA
    split at h
    case h_2 => cases h
    split at h
    case h_2 => cases h
    rename_i h1 h2 h3
    injection h with h
    subst h
    match vals, hA with
    | [u, v, w], ⟨a, b, c, _⟩ => exact ⟨(T.ok h1 a).plain (hpl _), (T.ok h2 b).plain (hpl _), (T.ok h3 c).plain (hpl _), trivial⟩
def tLim : Ty Lim := tAgg limR
def wiF (l : List Lim) (x : Lim × Lim × Lim) : List Lim := l ++ [x.1, x.2.1, x.2.2].filter (fun f => decide (0 < f.1))
def wtL (l : List Lim) (x : Lim × Lim × Lim) (i : Nat) : List Lim := l ++ ([x.1, x.2.1, x.2.2].take i).filter (fun f => decide (0 < f.1))
theorem wtL_snoc {l : List Lim} {x : Lim × Lim × Lim} {i : Nat} {f : Lim} (h : [x.1, x.2.1, x.2.2][i]? = some f) : wtL l x (i + 1) = if 0 < f.1 then wtL l x i ++ [f] else wtL l x i := by
  unfold wtL
  rw [List.take_add_one, h]
  simp only [Option.toList_some, List.filter_append, List.filter_cons, List.filter_nil]
  by_cases h1 : 0 < f.1 <;> simp [h1]
theorem wtL_len (l : List Lim) (x : Lim × Lim × Lim) (i : Nat) : (wtL l x i).length ≤ l.length + 3 := by
  unfold wtL
  rw [List.length_append]
  have h1 := List.length_filter_le (fun f : Lim => decide (0 < f.1)) ([x.1, x.2.1, x.2.2].take i)
  have h2 : ([x.1, x.2.1, x.2.2].take i).length ≤ 3 := by rw [List.length_take]; simp; omega
  omega
def wtI (l : List Lim) (x : Lim × Lim × Lim) (i : Nat) : St := ⟨2, [(0, .s (.l (.sl 0 0 (wtL l x i).length))), (9, .s (.l (.sl 1 0 3))), (10, iv i)], [(0, some (limRow.blk (wtL l x i))), (1, some (limRow.blk [x.1, x.2.1, x.2.2]))]⟩
theorem en_rwith (args : Array Value) (w : World) : (callFunc 132 args).run Tryz.prog w = .ok (.enter 132 args) w := by go_simp
set_option maxHeartbeats 4000000 in
theorem rwith_sw (l : List Lim) (x : Lim × Lim × Lim) (h : l.length ≤ 20) : SW Tryz.prog ⟨none, 0⟩ Tryz.f132.ntmps (Tryz.f132.body.getD .skip) ⟨1, zipT 0 (.s (.l (.sl 0 0 l.length)) :: (xw3 tLim (fun _ => rfl)).enc x), zipH 0 [limRow.blk l]⟩
    (outRQ Tryz.prog Tryz.f132.results.toList 0 (outQ1 limRow wiF (l, x))) := by
  refine aRun_sound (ctx := []) 4000 ?_
  rw [Tryz.ntmps132, Tryz.results132]
  simp only [Tryz.f132, Option.getD_some, zipT]
  obtain ⟨a, b, c⟩ := x
  simp only [go_sem, Nat.reduceOr, Nat.reducePow, Nat.reduceDiv, Nat.reduceMod, Nat.reduceBEq, Int.reduceBEq, Int.reduceBNe, Int.reduceEq, Int.reduceLT, Int.reduceLE, Int.reduceToNat, reduceIte, reduceCtorEq, Nat.reduceEqDiff, Nat.reduceAdd, Nat.reduceLT, Nat.reduceLeDiff, Nat.reduceMul, Nat.reduceSub, RowL.blk, limRow, limL, xw3, tLim, limR]
  refine sw_loop (ι := Nat) (fun i => i ≤ 3) (wtI l (a, b, c)) (fun i => 3 - i) 0 (Nat.zero_le _) (Wk.renL [0, 113] (by simp) (Nat.le_refl 2) (by decide) (by simp [wtI, wtL, tget, AV.ren, SV.ren, LV.ren]) (by simp [wtI, wtL, hget, Blk.ren, RowL.blk, limRow, limL, LV.ren, Function.comp_def])) ?_
  intro i hi
  refine aRun_sound (ctx := []) 4000 ?_
  by_cases hlt : i < 3
  · have hltI : (i : Int) < 3 := by omega
    obtain ⟨f, hf⟩ : ∃ f, [a, b, c][i]? = some f := ⟨_, List.getElem?_eq_getElem hlt⟩
    have hsn := wtL_snoc (l := l) (x := (a, b, c)) hf
    have ei : IntKind.i64.wrap ((i : Int) + 1) = ((i + 1 : Nat) : Int) := by rw [IntKind.wrap_i64]; omega
    have hrow : (List.map limL [a, b, c])[i]? = some (limL f) := by rw [List.getElem?_map, hf]; rfl
    simp only [List.map_cons, List.map_nil, limL] at hrow
    obtain ⟨L, hL⟩ : ∃ L, wtL l (a, b, c) i = L := ⟨_, rfl⟩
    have hlen : L.length ≤ 23 := by rw [← hL]; have := wtL_len l (a, b, c) i; omega
    have hm : L.length + 1 ≤ maxLen := by unfold maxLen; omega
    have hb : (L.length + 1) * 24 ≤ 140737488355328 := by omega
    by_cases h0 : 0 < f.1
    · rw [if_pos h0, hL] at hsn
      simp only [go_sem, Nat.reduceOr, Nat.reducePow, Nat.reduceDiv, Nat.reduceMod, Nat.reduceBEq, Int.reduceBEq, Int.reduceBNe, Int.reduceEq, Int.reduceLT, Int.reduceLE, Int.reduceToNat, reduceIte, reduceCtorEq, Nat.reduceEqDiff, Nat.reduceAdd, Nat.reduceLT, Nat.reduceLeDiff, Nat.reduceMul, Nat.reduceSub, wtI, hL, RowL.blk, limRow, limL, hltI, hrow, h0, hm, hb, ei]
      exact ⟨i + 1, by omega, by omega, Wk.renL [258, 1] (by simp) (Nat.le_refl 2) (by decide) (by rw [hsn, List.length_append]; rfl) (by rw [hsn]; simp [hget, Blk.ren, limL, LV.ren, Function.comp_def])⟩
    · rw [if_neg h0, hL] at hsn
      simp only [go_sem, Nat.reduceOr, Nat.reducePow, Nat.reduceDiv, Nat.reduceMod, Nat.reduceBEq, Int.reduceBEq, Int.reduceBNe, Int.reduceEq, Int.reduceLT, Int.reduceLE, Int.reduceToNat, reduceIte, reduceCtorEq, Nat.reduceEqDiff, Nat.reduceAdd, Nat.reduceLT, Nat.reduceLeDiff, Nat.reduceMul, Nat.reduceSub, wtI, hL, RowL.blk, limRow, limL, hltI, hrow, h0, ei]
      exact ⟨i + 1, by omega, by omega, Wk.renL [0, 1] (by simp) (Nat.le_refl 2) (by decide) (by rw [hsn]; rfl) (by rw [hsn]; simp [hget, Blk.ren, limL, LV.ren, Function.comp_def])⟩
  · obtain rfl : i = 3 := by omega
    have e : wtL l (a, b, c) 3 = wiF l (a, b, c) := rfl
    simp only [go_sem, Nat.reduceOr, Nat.reducePow, Nat.reduceDiv, Nat.reduceMod, Nat.reduceBEq, Int.reduceBEq, Int.reduceBNe, Int.reduceEq, Int.reduceLT, Int.reduceLE, Int.reduceToNat, reduceIte, reduceCtorEq, Nat.reduceEqDiff, Nat.reduceAdd, Nat.reduceLT, Nat.reduceLeDiff, Nat.reduceMul, Nat.reduceSub, wtI, e, RowL.blk, limRow, limL, outRQ_ret, outRQ_normal, outQ1]
    exact leftQ_new (st := ⟨_, _, _⟩) (k := limRow.blk (wiF l (a, b, c))) rfl rfl (limRow.blk_ren _)
def rwithS : Spec Tryz.prog 132 :=
  mkQ1 _ _ _ Tryz.func132 rfl en_rwith limRow limRow (xw3 tLim (fun _ => rfl)) (fun l _ => l.length ≤ 20) wiF (by rw [Tryz.ntmps132]; decide) (fun l x h => rwith_sw l x h)
theorem rwith_run {id : Nat} {h : Heap} {args : List AV} : rwithS.run id h args = runQ 0 (decQ1 limRow (xw3 tLim (fun _ => rfl)) (fun l _ => l.length ≤ 20)) (outQ1 limRow wiF) id h args := rfl
theorem rwith_pan {id : Nat} {h : Heap} {args : List AV} : rwithS.pan id h args = none := rfl

/-! ### Limits -/
theorem ef3 : flagsF [1, 3, 4] = [(1, 0, 1), (3, 0, 31), (4, 0, 31)] := by decide
theorem ef4 : flagsF [1, 3] = [(1, 0, 1), (3, 0, 31)] := by decide
theorem pz3 : (∀ z ∈ ([1, 3, 4] : List Int), 1 ≤ z) = True := by simp
theorem pz4 : (∀ z ∈ ([1, 3] : List Int), 1 ≤ z) = True := by simp
theorem wi3 : wiF [(1, 0, 1), (3, 0, 31), (4, 0, 31)] ((7, -9223372036854775808, 9223372036854775807), (8, 0, 3), (0, 0, 0)) = limitsF 3 := by decide
theorem wi4 : wiF [(1, 0, 1), (3, 0, 31)] ((7, 0, 65535), (8, 0, 3), (9, 0, 3)) = limitsF 4 := by decide
theorem lf3 : limitsF 3 = [(1, 0, 1), (3, 0, 31), (4, 0, 31), (7, -9223372036854775808, 9223372036854775807), (8, 0, 3)] := by decide
theorem lf4 : limitsF 4 = [(1, 0, 1), (3, 0, 31), (7, 0, 65535), (8, 0, 3), (9, 0, 3)] := by decide
set_option maxHeartbeats 4000000 in
theorem rlimits4 : SW Tryz.prog ⟨none, 0⟩ Tryz.f65.ntmps (Tryz.f65.body.getD .skip) ⟨0, zipT 0 [(tInt .i64).enc 4], []⟩ (outQ Tryz.prog Tryz.f65.results.toList (.ret (limsV (limitsF 4)))) := by
  refine aRun_sound (ctx := [⟨_, rplainS⟩, ⟨_, raS⟩, ⟨_, rbS⟩, ⟨_, rcS⟩, ⟨_, rwithS⟩]) 4000 ?_
  rw [Tryz.ntmps65, Tryz.results65]
  simp only [Tryz.f65, Option.getD_some, zipT]
  simp only [go_sem, Nat.reduceOr, Nat.reducePow, Nat.reduceDiv, Nat.reduceMod, Nat.reduceBEq, Int.reduceBEq, Int.reduceBNe, Int.reduceEq, Int.reduceLT, Int.reduceLE, Int.reduceToNat, reduceIte, reduceCtorEq, Nat.reduceEqDiff, Nat.reduceAdd, Nat.reduceLT, Nat.reduceLeDiff, Nat.reduceMul, Nat.reduceSub, rplain_run, rplain_pan, runQ, decQ1, decSl, intRow, decIntL, decAll, xw0, xw3, tLim, outQ1, limRow, RowL.blk, limL, gOf, ef4, pz4, ra_run, ra_pan, limV, rb_run, rb_pan, rc_run, rc_pan, rwith_run, rwith_pan, decLimL, wi4, lf4, limsV, limR]
  intro z hz
  omega
set_option maxHeartbeats 4000000 in
theorem rlimits3 : SW Tryz.prog ⟨none, 0⟩ Tryz.f65.ntmps (Tryz.f65.body.getD .skip) ⟨0, zipT 0 [(tInt .i64).enc 3], []⟩ (outQ Tryz.prog Tryz.f65.results.toList (.ret (limsV (limitsF 3)))) := by
  refine aRun_sound (ctx := [⟨_, raS⟩]) 4000 ?_
  rw [Tryz.ntmps65, Tryz.results65]
  simp only [Tryz.f65, Option.getD_some, zipT]
  simp only [go_sem, Nat.reduceOr, Nat.reducePow, Nat.reduceDiv, Nat.reduceMod, Nat.reduceBEq, Int.reduceBEq, Int.reduceBNe, Int.reduceEq, Int.reduceLT, Int.reduceLE, Int.reduceToNat, reduceIte, reduceCtorEq, Nat.reduceEqDiff, Nat.reduceAdd, Nat.reduceLT, Nat.reduceLeDiff, Nat.reduceMul, Nat.reduceSub, ra_run, ra_pan, limV, limL]
  refine sw_drawF (ctx := [⟨_, rplainS⟩, ⟨_, raS⟩, ⟨_, rbS⟩, ⟨_, rwithS⟩]) mixed ⟨[5], [(1, [224])], [(4, [224])]⟩ (by kernel_rfl) ?_
  simp only [go_sem, Nat.reduceOr, Nat.reducePow, Nat.reduceDiv, Nat.reduceMod, Nat.reduceBEq, Int.reduceBEq, Int.reduceBNe, Int.reduceEq, Int.reduceLT, Int.reduceLE, Int.reduceToNat, reduceIte, reduceCtorEq, Nat.reduceEqDiff, Nat.reduceAdd, Nat.reduceLT, Nat.reduceLeDiff, Nat.reduceMul, Nat.reduceSub, rplain_run, rplain_pan, runQ, decQ1, decSl, intRow, decIntL, decAll, xw0, xw3, tLim, outQ1, limRow, RowL.blk, limL, gOf, ef3, pz3, ra_run, ra_pan, limV, rb_run, rb_pan, rwith_run, rwith_pan, decLimL, wi3, lf3, limsV, limR]
  intro z hz
  omega
theorem en_rlimits (args : Array Value) (w : World) : (callFunc 65 args).run Tryz.prog w = .ok (.enter 65 args) w := by go_simp
def rlimitsS : Spec Tryz.prog 65 :=
  mk1 _ _ _ Tryz.func65 rfl en_rlimits (tInt .i64) ((fun op => op = 3 ∨ op = 4)) ((fun op => .ret (limsV (limitsF op)))) (by rw [Tryz.ntmps65]; decide) (fun op h => by
  rcases h with rfl | rfl
  · exact rlimits3
  · exact rlimits4)
theorem rlimits_run {id : Nat} {h : Heap} {args : List AV} : (rlimitsS).run id h args = runP (args1 (tInt .i64) ((fun op => op = 3 ∨ op = 4))) ((fun op => .ret (limsV (limitsF op)))) h args := rfl
theorem rlimits_pan {id : Nat} {h : Heap} {args : List AV} : (rlimitsS).pan id h args = panP (args1 (tInt .i64) ((fun op => op = 3 ∨ op = 4))) ((fun op => .ret (limsV (limitsF op)))) h args := rfl

end Go.Proofs.YtpjlafmhoifkmaaGreat
