/- The document's instructions: limits and fields, of some classes. -/
import Derived.Test.YtpjlafmhoifkmaaGreatKC
import Derived.Test.YtpjlafmhoifkmaaGreatKJ
set_option linter.unusedVariables false
set_option linter.unusedSimpArgs false
namespace Go.Proofs.YtpjlafmhoifkmaaGreat
open Go.RowKit
set_option maxRecDepth 100000

theorem en_rlim (args : Array Value) (w : World) : (callFunc 136 args).run Tryz.prog w = .ok (.enter 136 args) w := by go_simp
def rlimS : Spec Tryz.prog 136 :=
  mk3 _ _ _ Tryz.func136 rfl en_rlim (tInt .i64) (tInt .i64) (tInt .i64) ((fun _ _ _ => True)) ((fun f a b => .ret (limV (f, a, b)))) (by rw [Tryz.ntmps136]; decide) (fun f a b _ => by
  refine aRun_sound (ctx := []) 4000 ?_
  rw [Tryz.ntmps136, Tryz.results136]
  simp only [Tryz.f136, Option.getD_some, zipT]
  simp only [go_sem, Nat.reduceOr, Nat.reducePow, Nat.reduceDiv, Nat.reduceMod, Nat.reduceBEq, Int.reduceBEq, Int.reduceBNe, Int.reduceEq, Int.reduceLT, Int.reduceLE, Int.reduceToNat, reduceIte, reduceCtorEq, Nat.reduceEqDiff, Nat.reduceAdd, Nat.reduceLT, Nat.reduceLeDiff, Nat.reduceMul, Nat.reduceSub, limV, limL])
theorem rlim_run {id : Nat} {h : Heap} {args : List AV} : (rlimS).run id h args = runP (args3 (tInt .i64) (tInt .i64) (tInt .i64) ((fun _ _ _ => True))) (fun x => ((fun f a b => .ret (limV (f, a, b)))) x.1 x.2.1 x.2.2) h args := rfl
theorem rlim_pan {id : Nat} {h : Heap} {args : List AV} : (rlimS).pan id h args = panP (args3 (tInt .i64) (tInt .i64) (tInt .i64) ((fun _ _ _ => True))) (fun x => ((fun f a b => .ret (limV (f, a, b)))) x.1 x.2.1 x.2.2) h args := rfl
theorem en_ra (args : Array Value) (w : World) : (callFunc 131 args).run Tryz.prog w = .ok (.enter 131 args) w := by go_simp
def raS : Spec Tryz.prog 131 :=
  mk2 _ _ _ Tryz.func131 rfl en_ra (tInt .i64) (tInt .i64) ((fun _ _ => True)) ((fun a b => .ret (limV (7, a, b)))) (by rw [Tryz.ntmps131]; decide) (fun a b _ => by
  refine aRun_sound (ctx := [⟨_, rlimS⟩]) 4000 ?_
  rw [Tryz.ntmps131, Tryz.results131]
  simp only [Tryz.f131, Option.getD_some, zipT]
  simp only [go_sem, Nat.reduceOr, Nat.reducePow, Nat.reduceDiv, Nat.reduceMod, Nat.reduceBEq, Int.reduceBEq, Int.reduceBNe, Int.reduceEq, Int.reduceLT, Int.reduceLE, Int.reduceToNat, reduceIte, reduceCtorEq, Nat.reduceEqDiff, Nat.reduceAdd, Nat.reduceLT, Nat.reduceLeDiff, Nat.reduceMul, Nat.reduceSub, rlim_run, rlim_pan, limV, limL])
theorem ra_run {id : Nat} {h : Heap} {args : List AV} : (raS).run id h args = runP (args2 (tInt .i64) (tInt .i64) ((fun _ _ => True))) (fun x => ((fun a b => .ret (limV (7, a, b)))) x.1 x.2) h args := rfl
theorem ra_pan {id : Nat} {h : Heap} {args : List AV} : (raS).pan id h args = panP (args2 (tInt .i64) (tInt .i64) ((fun _ _ => True))) (fun x => ((fun a b => .ret (limV (7, a, b)))) x.1 x.2) h args := rfl
theorem en_rb (args : Array Value) (w : World) : (callFunc 134 args).run Tryz.prog w = .ok (.enter 134 args) w := by go_simp
def rbS : Spec Tryz.prog 134 :=
  mk1 _ _ _ Tryz.func134 rfl en_rb (tInt .i64) ((fun _ => True)) ((fun b => .ret (limV (8, 0, b)))) (by rw [Tryz.ntmps134]; decide) (fun b _ => by
  refine aRun_sound (ctx := [⟨_, rlimS⟩]) 4000 ?_
  rw [Tryz.ntmps134, Tryz.results134]
  simp only [Tryz.f134, Option.getD_some, zipT]
  simp only [go_sem, Nat.reduceOr, Nat.reducePow, Nat.reduceDiv, Nat.reduceMod, Nat.reduceBEq, Int.reduceBEq, Int.reduceBNe, Int.reduceEq, Int.reduceLT, Int.reduceLE, Int.reduceToNat, reduceIte, reduceCtorEq, Nat.reduceEqDiff, Nat.reduceAdd, Nat.reduceLT, Nat.reduceLeDiff, Nat.reduceMul, Nat.reduceSub, rlim_run, rlim_pan, limV, limL])
theorem rb_run {id : Nat} {h : Heap} {args : List AV} : (rbS).run id h args = runP (args1 (tInt .i64) ((fun _ => True))) ((fun b => .ret (limV (8, 0, b)))) h args := rfl
theorem rb_pan {id : Nat} {h : Heap} {args : List AV} : (rbS).pan id h args = panP (args1 (tInt .i64) ((fun _ => True))) ((fun b => .ret (limV (8, 0, b)))) h args := rfl
theorem en_rc (args : Array Value) (w : World) : (callFunc 135 args).run Tryz.prog w = .ok (.enter 135 args) w := by go_simp
def rcS : Spec Tryz.prog 135 :=
  mk1 _ _ _ Tryz.func135 rfl en_rc (tInt .i64) ((fun _ => True)) ((fun b => .ret (limV (9, 0, b)))) (by rw [Tryz.ntmps135]; decide) (fun b _ => by
  refine aRun_sound (ctx := [⟨_, rlimS⟩]) 4000 ?_
  rw [Tryz.ntmps135, Tryz.results135]
  simp only [Tryz.f135, Option.getD_some, zipT]
  simp only [go_sem, Nat.reduceOr, Nat.reducePow, Nat.reduceDiv, Nat.reduceMod, Nat.reduceBEq, Int.reduceBEq, Int.reduceBNe, Int.reduceEq, Int.reduceLT, Int.reduceLE, Int.reduceToNat, reduceIte, reduceCtorEq, Nat.reduceEqDiff, Nat.reduceAdd, Nat.reduceLT, Nat.reduceLeDiff, Nat.reduceMul, Nat.reduceSub, rlim_run, rlim_pan, limV, limL])
theorem rc_run {id : Nat} {h : Heap} {args : List AV} : (rcS).run id h args = runP (args1 (tInt .i64) ((fun _ => True))) ((fun b => .ret (limV (9, 0, b)))) h args := rfl
theorem rc_pan {id : Nat} {h : Heap} {args : List AV} : (rcS).pan id h args = panP (args1 (tInt .i64) ((fun _ => True))) ((fun b => .ret (limV (9, 0, b)))) h args := rfl
theorem en_rflag (args : Array Value) (w : World) : (callFunc 138 args).run Tryz.prog w = .ok (.enter 138 args) w := by go_simp
def rflagS : Spec Tryz.prog 138 :=
  mk1 _ _ _ Tryz.func138 rfl en_rflag (tBool) ((fun _ => True)) ((fun q => .ret (iv (flagN q)))) (by rw [Tryz.ntmps138]; decide) (fun q _ => by
  refine aRun_sound (ctx := []) 4000 ?_
  rw [Tryz.ntmps138, Tryz.results138]
  simp only [Tryz.f138, Option.getD_some, zipT]
  cases q <;> simp only [go_sem, Nat.reduceOr, Nat.reducePow, Nat.reduceDiv, Nat.reduceMod, Nat.reduceBEq, Int.reduceBEq, Int.reduceBNe, Int.reduceEq, Int.reduceLT, Int.reduceLE, Int.reduceToNat, reduceIte, reduceCtorEq, Nat.reduceEqDiff, Nat.reduceAdd, Nat.reduceLT, Nat.reduceLeDiff, Nat.reduceMul, Nat.reduceSub, flagN])
theorem rflag_run {id : Nat} {h : Heap} {args : List AV} : (rflagS).run id h args = runP (args1 (tBool) ((fun _ => True))) ((fun q => .ret (iv (flagN q)))) h args := rfl
theorem rflag_pan {id : Nat} {h : Heap} {args : List AV} : (rflagS).pan id h args = panP (args1 (tBool) ((fun _ => True))) ((fun q => .ret (iv (flagN q)))) h args := rfl

/-! ### plain -/
def rpI (l : List Int) (i : Nat) : St := ⟨2, [(0, .s (.l (.sl 0 0 l.length))), (3, .s (.l (.sl 1 0 i))), (4, iv i)], [(0, some (intRow.blk l)), (1, some (limRow.blk (flagsF (l.take i))))]⟩
theorem en_rplain (args : Array Value) (w : World) : (callFunc 133 args).run Tryz.prog w = .ok (.enter 133 args) w := by go_simp
set_option maxHeartbeats 2000000 in
theorem rplain_sw (l : List Int) (h : l.length ≤ 20 ∧ ∀ z ∈ l, 1 ≤ z) : SW Tryz.prog ⟨none, 0⟩ Tryz.f133.ntmps (Tryz.f133.body.getD .skip) ⟨1, zipT 0 [.s (.l (.sl 0 0 l.length))], zipH 0 [intRow.blk l]⟩
    (outRQ Tryz.prog Tryz.f133.results.toList 0 (outQ1 limRow (fun l (_ : Unit) => flagsF l) (l, ()))) := by
  obtain ⟨h, hz1⟩ := h
  refine aRun_sound (ctx := []) 4000 ?_
  rw [Tryz.ntmps133, Tryz.results133]
  simp only [Tryz.f133, Option.getD_some, zipT]
  simp only [go_sem, Nat.reduceOr, Nat.reducePow, Nat.reduceDiv, Nat.reduceMod, Nat.reduceBEq, Int.reduceBEq, Int.reduceBNe, Int.reduceEq, Int.reduceLT, Int.reduceLE, Int.reduceToNat, reduceIte, reduceCtorEq, Nat.reduceEqDiff, Nat.reduceAdd, Nat.reduceLT, Nat.reduceLeDiff, Nat.reduceMul, Nat.reduceSub, RowL.blk, intRow]
  refine sw_loop (ι := Nat) (fun i => i ≤ l.length) (rpI l) (fun i => l.length - i) 0 (Nat.zero_le _) ((Wk.nil 3 75 3 rfl).trans (Wk.renL [0, 49] (by simp) (Nat.le_refl 2) (by decide) rfl ?_)) ?_
  · simp [rpI, hget, Blk.ren, RowL.blk, intRow, limRow, limL, flagsF, LV.ren, Function.comp_def]
  intro i hi
  refine aRun_sound (ctx := [⟨_, rlimS⟩]) 4000 ?_
  by_cases hlt : i < l.length
  · have hltI : (i : Int) < l.length := by omega
    obtain ⟨z, hz⟩ : ∃ z, l[i]? = some z := ⟨_, List.getElem?_eq_getElem hlt⟩
    have hz1' := hz1 z (List.mem_of_getElem? hz)
    have ei : IntKind.i64.wrap ((i : Int) + 1) = ((i + 1 : Nat) : Int) := by rw [IntKind.wrap_i64]; omega
    have hsn := flagsF_snoc hz
    have hm : i + 1 ≤ maxLen := by unfold maxLen; omega
    have hb : (i + 1) * 24 ≤ 140737488355328 := by omega
    have hl : (flagsF (l.take i)).length = i := by rw [flagsF_len, List.length_take]; omega
    have htk : List.take i (List.map limL (flagsF (l.take i))) = List.map limL (flagsF (l.take i)) := List.take_of_length_le (by rw [List.length_map, hl]; exact Nat.le_refl _)
    by_cases h1 : z ≤ 2
    · have e : flagF1 z = (z, 0, 1) := by unfold flagF1; rw [if_pos (by omega)]
      simp only [go_sem, Nat.reduceOr, Nat.reducePow, Nat.reduceDiv, Nat.reduceMod, Nat.reduceBEq, Int.reduceBEq, Int.reduceBNe, Int.reduceEq, Int.reduceLT, Int.reduceLE, Int.reduceToNat, reduceIte, reduceCtorEq, Nat.reduceEqDiff, Nat.reduceAdd, Nat.reduceLT, Nat.reduceLeDiff, Nat.reduceMul, Nat.reduceSub, rpI, RowL.blk, intRow, limRow, hltI, hlt, hz, h1, rlim_run, rlim_pan, limV, limL, hm, hb, ei, htk]
      exact ⟨Nat.le_of_eq hl.symm, i + 1, by omega, by omega, Wk.renL [0, 306] (by simp) (Nat.le_refl 2) (by decide) rfl (by simp only [rpI, RowL.blk, intRow, limRow, hsn, e]; simp [hget, Blk.ren, limL, LV.ren, Function.comp_def])⟩
    · have e : flagF1 z = (z, 0, 31) := by unfold flagF1; rw [if_neg (by omega)]
      simp only [go_sem, Nat.reduceOr, Nat.reducePow, Nat.reduceDiv, Nat.reduceMod, Nat.reduceBEq, Int.reduceBEq, Int.reduceBNe, Int.reduceEq, Int.reduceLT, Int.reduceLE, Int.reduceToNat, reduceIte, reduceCtorEq, Nat.reduceEqDiff, Nat.reduceAdd, Nat.reduceLT, Nat.reduceLeDiff, Nat.reduceMul, Nat.reduceSub, rpI, RowL.blk, intRow, limRow, hltI, hlt, hz, h1, rlim_run, rlim_pan, limV, limL, hm, hb, ei, htk]
      exact ⟨Nat.le_of_eq hl.symm, i + 1, by omega, by omega, Wk.renL [0, 290] (by simp) (Nat.le_refl 2) (by decide) rfl (by simp only [rpI, RowL.blk, intRow, limRow, hsn, e]; simp [hget, Blk.ren, limL, LV.ren, Function.comp_def])⟩
  · obtain rfl : i = l.length := by omega
    have hltI : ¬ (l.length : Int) < l.length := by omega
    simp only [go_sem, Nat.reduceOr, Nat.reducePow, Nat.reduceDiv, Nat.reduceMod, Nat.reduceBEq, Int.reduceBEq, Int.reduceBNe, Int.reduceEq, Int.reduceLT, Int.reduceLE, Int.reduceToNat, reduceIte, reduceCtorEq, Nat.reduceEqDiff, Nat.reduceAdd, Nat.reduceLT, Nat.reduceLeDiff, Nat.reduceMul, Nat.reduceSub, rpI, RowL.blk, intRow, limRow, hltI, List.take_length, outRQ_ret, outRQ_normal, outQ1]
    have e := flagsF_len l
    rw [← e]
    exact leftQ_new (st := ⟨_, _, _⟩) (k := limRow.blk (flagsF l)) rfl rfl (limRow.blk_ren _)
def rplainS : Spec Tryz.prog 133 :=
  mkQ1 _ _ _ Tryz.func133 rfl en_rplain intRow limRow xw0 (fun l _ => l.length ≤ 20 ∧ ∀ z ∈ l, 1 ≤ z) (fun l _ => flagsF l) (by rw [Tryz.ntmps133]; decide) (fun l x h => rplain_sw l h)
theorem rplain_run {id : Nat} {h : Heap} {args : List AV} : rplainS.run id h args = runQ 0 (decQ1 intRow xw0 (fun l _ => l.length ≤ 20 ∧ ∀ z ∈ l, 1 ≤ z)) (outQ1 limRow (fun l _ => flagsF l)) id h args := rfl
theorem rplain_pan {id : Nat} {h : Heap} {args : List AV} : rplainS.pan id h args = none := rfl

/-! ### Fields -/
set_option maxHeartbeats 4000000 in
theorem en_rget (args : Array Value) (w : World) : (callFunc 66 args).run Tryz.prog w = .ok (.enter 66 args) w := by go_simp
def rgetS : Spec Tryz.prog 66 :=
  mk2 _ _ _ Tryz.func66 rfl en_rget (tAgg insR) (tInt .i64) ((fun _ f => fq f)) ((fun x f => .ret (getO (getF x f)))) (by rw [Tryz.ntmps66]; decide) (fun x f h => by
  refine aRun_sound (ctx := [⟨_, rflagS⟩]) 4000 ?_
  rw [Tryz.ntmps66, Tryz.results66]
  simp only [Tryz.f66, Option.getD_some, zipT]
  rcases h with rfl | rfl | rfl | rfl | rfl | rfl | rfl | rfl | rfl
  all_goals simp only [go_sem, Nat.reduceOr, Nat.reducePow, Nat.reduceDiv, Nat.reduceMod, Nat.reduceBEq, Int.reduceBEq, Int.reduceBNe, Int.reduceEq, Int.reduceLT, Int.reduceLE, Int.reduceToNat, reduceIte, reduceCtorEq, Nat.reduceEqDiff, Nat.reduceAdd, Nat.reduceLT, Nat.reduceLeDiff, Nat.reduceMul, Nat.reduceSub, insR, rflag_run, rflag_pan, getO, getF1, getF2, getF3, getF4, getF5, getF6, getF7, getF8, getF9])
theorem rget_run {id : Nat} {h : Heap} {args : List AV} : (rgetS).run id h args = runP (args2 (tAgg insR) (tInt .i64) ((fun _ f => fq f))) (fun x => ((fun x f => .ret (getO (getF x f)))) x.1 x.2) h args := rfl
theorem rget_pan {id : Nat} {h : Heap} {args : List AV} : (rgetS).pan id h args = panP (args2 (tAgg insR) (tInt .i64) ((fun _ f => fq f))) (fun x => ((fun x f => .ret (getO (getF x f)))) x.1 x.2) h args := rfl
set_option maxHeartbeats 4000000 in
theorem en_rset (args : Array Value) (w : World) : (callFunc 139 args).run Tryz.prog w = .ok (.enter 139 args) w := by go_simp
def rsetS : Spec Tryz.prog 139 :=
  mk3 _ _ _ Tryz.func139 rfl en_rset (tAgg insR) (tInt .i64) (tInt .i64) ((fun _ f _ => fq f)) ((fun x f v => .ret (insA (setF x f v)))) (by rw [Tryz.ntmps139]; decide) (fun x f v h => by
  refine aRun_sound (ctx := []) 4000 ?_
  rw [Tryz.ntmps139, Tryz.results139]
  simp only [Tryz.f139, Option.getD_some, zipT]
  rcases h with rfl | rfl | rfl | rfl | rfl | rfl | rfl | rfl | rfl
  all_goals simp only [go_sem, Nat.reduceOr, Nat.reducePow, Nat.reduceDiv, Nat.reduceMod, Nat.reduceBEq, Int.reduceBEq, Int.reduceBNe, Int.reduceEq, Int.reduceLT, Int.reduceLE, Int.reduceToNat, reduceIte, reduceCtorEq, Nat.reduceEqDiff, Nat.reduceAdd, Nat.reduceLT, Nat.reduceLeDiff, Nat.reduceMul, Nat.reduceSub, insR, insA, insE, eqb1, setF1, setF2, setF3, setF4, setF5, setF6, setF7, setF8, setF9])
theorem rset_run {id : Nat} {h : Heap} {args : List AV} : (rsetS).run id h args = runP (args3 (tAgg insR) (tInt .i64) (tInt .i64) ((fun _ f _ => fq f))) (fun x => ((fun x f v => .ret (insA (setF x f v)))) x.1 x.2.1 x.2.2) h args := rfl
theorem rset_pan {id : Nat} {h : Heap} {args : List AV} : (rsetS).pan id h args = panP (args3 (tAgg insR) (tInt .i64) (tInt .i64) ((fun _ f _ => fq f))) (fun x => ((fun x f v => .ret (insA (setF x f v)))) x.1 x.2.1 x.2.2) h args := rfl

end Go.Proofs.YtpjlafmhoifkmaaGreat
