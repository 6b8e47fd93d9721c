/- Instructions: fields; an instruction without what its class does not use. -/
import Derived.Test.YtpjlafmhoifkmaaGreatKA
set_option linter.unusedVariables false
set_option linter.unusedSimpArgs false
namespace Go.Proofs.YtpjlafmhoifkmaaGreat
open Go.RowKit
set_option maxRecDepth 100000

abbrev tLims : Ty (List Lim) := tSl 3 limR
def insA (x : Ins) : AV := .s (.agg (insE x))
def insK (x : Ins) : Blk := ⟨true, 27, 10, [insE x]⟩
def fq (f : Int) : Prop := f = 1 ∨ f = 2 ∨ f = 3 ∨ f = 4 ∨ f = 5 ∨ f = 6 ∨ f = 7 ∨ f = 8 ∨ f = 9

theorem en_truth (args : Array Value) (w : World) : (callFunc 158 args).run Tryz.prog w = .ok (.enter 158 args) w := by go_simp
def truthS : Spec Tryz.prog 158 :=
  mk1 _ _ _ Tryz.func158 rfl en_truth (tBool) ((fun _ => True)) ((fun q => .ret (iv (flagN q)))) (by rw [Tryz.ntmps158]; decide) (fun q _ => by
  refine aRun_sound (ctx := []) 4000 ?_
  rw [Tryz.ntmps158, Tryz.results158]
  simp only [Tryz.f158, Option.getD_some, zipT]
  cases q <;> simp only [go_sem, Nat.reduceOr, Nat.reducePow, Nat.reduceDiv, Nat.reduceMod, Nat.reduceBEq, Int.reduceBEq, Int.reduceBNe, Int.reduceEq, Int.reduceLT, Int.reduceLE, Int.reduceToNat, reduceIte, reduceCtorEq, Nat.reduceEqDiff, Nat.reduceAdd, Nat.reduceLT, Nat.reduceLeDiff, Nat.reduceMul, Nat.reduceSub, flagN])
theorem truth_run {id : Nat} {h : Heap} {args : List AV} : (truthS).run id h args = runP (args1 (tBool) ((fun _ => True))) ((fun q => .ret (iv (flagN q)))) h args := rfl
theorem truth_pan {id : Nat} {h : Heap} {args : List AV} : (truthS).pan id h args = panP (args1 (tBool) ((fun _ => True))) ((fun q => .ret (iv (flagN q)))) h args := rfl
theorem sub1 : IntKind.i64.wrap (1 - 1) = 0 := by decide
theorem sub2 : IntKind.i64.wrap (2 - 1) = 1 := by decide
theorem sub3 : IntKind.i64.wrap (3 - 1) = 2 := by decide
theorem sub4 : IntKind.i64.wrap (4 - 1) = 3 := by decide
theorem sub5 : IntKind.i64.wrap (5 - 1) = 4 := by decide
theorem sub6 : IntKind.i64.wrap (6 - 1) = 5 := by decide
theorem sub7 : IntKind.i64.wrap (7 - 1) = 6 := by decide
theorem sub8 : IntKind.i64.wrap (8 - 1) = 7 := by decide
theorem sub9 : IntKind.i64.wrap (9 - 1) = 8 := by decide
theorem getF1 (x : Ins) : getF x 1 = flagN x.x := rfl
theorem getF2 (x : Ins) : getF x 2 = flagN x.s := rfl
theorem getF3 (x : Ins) : getF x 3 = x.rd := rfl
theorem getF4 (x : Ins) : getF x 4 = x.rn := rfl
theorem getF5 (x : Ins) : getF x 5 = x.rm := rfl
theorem getF6 (x : Ins) : getF x 6 = x.ra := rfl
theorem getF7 (x : Ins) : getF x 7 = x.a := rfl
theorem getF8 (x : Ins) : getF x 8 = x.b := rfl
theorem getF9 (x : Ins) : getF x 9 = x.c := rfl
theorem setF1 (x : Ins) (v : Int) : setF x 1 v = { x with x := decide (v = 1) } := rfl
theorem setF2 (x : Ins) (v : Int) : setF x 2 v = { x with s := decide (v = 1) } := rfl
theorem setF3 (x : Ins) (v : Int) : setF x 3 v = { x with rd := v } := rfl
theorem setF4 (x : Ins) (v : Int) : setF x 4 v = { x with rn := v } := rfl
theorem setF5 (x : Ins) (v : Int) : setF x 5 v = { x with rm := v } := rfl
theorem setF6 (x : Ins) (v : Int) : setF x 6 v = { x with ra := v } := rfl
theorem setF7 (x : Ins) (v : Int) : setF x 7 v = { x with a := v } := rfl
theorem setF8 (x : Ins) (v : Int) : setF x 8 v = { x with b := v } := rfl
theorem setF9 (x : Ins) (v : Int) : setF x 9 v = { x with c := v } := rfl
def getO (n : Int) : AV := .tup [.l (.v (.int .i64 n)), .l (.v (.int .i64 0))]
set_option maxHeartbeats 4000000 in
theorem en_get (args : Array Value) (w : World) : (callFunc 96 args).run Tryz.prog w = .ok (.enter 96 args) w := by go_simp
def getS : Spec Tryz.prog 96 :=
  mk2 _ _ _ Tryz.func96 rfl en_get (tAgg insR) (tInt .i64) ((fun _ f => fq f)) ((fun x f => .ret (getO (getF x f)))) (by rw [Tryz.ntmps96]; decide) (fun x f h => by
  refine aRun_sound (ctx := []) 4000 ?_
  rw [Tryz.ntmps96, Tryz.results96]
  simp only [Tryz.f96, Option.getD_some, zipT]
  simp only [go_sem, Nat.reduceOr, Nat.reducePow, Nat.reduceDiv, Nat.reduceMod, Nat.reduceBEq, Int.reduceBEq, Int.reduceBNe, Int.reduceEq, Int.reduceLT, Int.reduceLE, Int.reduceToNat, reduceIte, reduceCtorEq, Nat.reduceEqDiff, Nat.reduceAdd, Nat.reduceLT, Nat.reduceLeDiff, Nat.reduceMul, Nat.reduceSub, insR]
  refine sw_draw (ctx := [⟨_, truthS⟩]) mixed [20] (by kernel_rfl) ?_
  rcases h with rfl | rfl | rfl | rfl | rfl | rfl | rfl | rfl | rfl
  all_goals simp only [go_sem, Nat.reduceOr, Nat.reducePow, Nat.reduceDiv, Nat.reduceMod, Nat.reduceBEq, Int.reduceBEq, Int.reduceBNe, Int.reduceEq, Int.reduceLT, Int.reduceLE, Int.reduceToNat, reduceIte, reduceCtorEq, Nat.reduceEqDiff, Nat.reduceAdd, Nat.reduceLT, Nat.reduceLeDiff, Nat.reduceMul, Nat.reduceSub, truth_run, truth_pan, getO, sub1, sub2, sub3, sub4, sub5, sub6, sub7, sub8, sub9, getF1, getF2, getF3, getF4, getF5, getF6, getF7, getF8, getF9])
theorem get_run {id : Nat} {h : Heap} {args : List AV} : (getS).run id h args = runP (args2 (tAgg insR) (tInt .i64) ((fun _ f => fq f))) (fun x => ((fun x f => .ret (getO (getF x f)))) x.1 x.2) h args := rfl
theorem get_pan {id : Nat} {h : Heap} {args : List AV} : (getS).pan id h args = panP (args2 (tAgg insR) (tInt .i64) ((fun _ f => fq f))) (fun x => ((fun x f => .ret (getO (getF x f)))) x.1 x.2) h args := rfl
theorem eqb1 (v : Int) : (v == 1) = decide (v = 1) := by by_cases h : v = 1 <;> simp [h]
set_option maxHeartbeats 4000000 in
theorem en_set (args : Array Value) (w : World) : (callFunc 160 args).run Tryz.prog w = .ok (.enter 160 args) w := by go_simp
def setS : Spec Tryz.prog 160 :=
  mk3 _ _ _ Tryz.func160 rfl en_set (tAgg insR) (tInt .i64) (tInt .i64) ((fun _ f _ => fq f)) ((fun x f v => .ret (insA (setF x f v)))) (by rw [Tryz.ntmps160]; decide) (fun x f v h => by
  refine aRun_sound (ctx := []) 4000 ?_
  rw [Tryz.ntmps160, Tryz.results160]
  simp only [Tryz.f160, Option.getD_some, zipT]
  rcases h with rfl | rfl | rfl | rfl | rfl | rfl | rfl | rfl | rfl
  all_goals simp only [go_sem, Nat.reduceOr, Nat.reducePow, Nat.reduceDiv, Nat.reduceMod, Nat.reduceBEq, Int.reduceBEq, Int.reduceBNe, Int.reduceEq, Int.reduceLT, Int.reduceLE, Int.reduceToNat, reduceIte, reduceCtorEq, Nat.reduceEqDiff, Nat.reduceAdd, Nat.reduceLT, Nat.reduceLeDiff, Nat.reduceMul, Nat.reduceSub, insR, insA, insE, eqb1, setF1, setF2, setF3, setF4, setF5, setF6, setF7, setF8, setF9])
theorem set_run {id : Nat} {h : Heap} {args : List AV} : (setS).run id h args = runP (args3 (tAgg insR) (tInt .i64) (tInt .i64) ((fun _ f _ => fq f))) (fun x => ((fun x f v => .ret (insA (setF x f v)))) x.1 x.2.1 x.2.2) h args := rfl
theorem set_pan {id : Nat} {h : Heap} {args : List AV} : (setS).pan id h args = panP (args3 (tAgg insR) (tInt .i64) (tInt .i64) ((fun _ f _ => fq f))) (fun x => ((fun x f v => .ret (insA (setF x f v)))) x.1 x.2.1 x.2.2) h args := rfl

/-! ### The limits one by one -/
def lrow (f : Lim) : List AV := [limV f]
def rowsD (l : List Lim) : D := .sd 3 (l.map limR.enc)
def decVals : List D → Option (Prop × List (List AV))
  | [.pd [.sd 3 els]] => match decAllD limR.dec els with
    | some ts => some (ts.length ≤ 1000, ts.map lrow)
    | none => none
  | _ => none
set_option maxHeartbeats 2000000 in
theorem vals1_sw (l : Nat) (ts : List Lim) (hz : ts.length ≤ 1000) : SWy Tryz.prog l (ts.map lrow) ⟨none, 0⟩ Tryz.f192.ntmps (Tryz.f192.body.getD .skip) ⟨0, zipT 0 [yieldV l, .s (.l (.d (.pd [rowsD ts])))], []⟩ (0, true) (itQ (ts.map lrow)) := by
  refine yRun_sound (ctx := []) 4000 ?_
  rw [Tryz.ntmps192]
  simp only [Tryz.f192, Option.getD_some, zipT]
  simp only [go_sem, Nat.reduceOr, Nat.reducePow, Nat.reduceDiv, Nat.reduceMod, Nat.reduceBEq, Int.reduceBEq, Int.reduceBNe, Int.reduceEq, Int.reduceLT, Int.reduceLE, Int.reduceToNat, reduceIte, reduceCtorEq, Nat.reduceEqDiff, Nat.reduceAdd, Nat.reduceLT, Nat.reduceLeDiff, Nat.reduceMul, Nat.reduceSub, yieldV, rowsD]
  refine swy_loop (ι := Nat) (fun i => i ≤ ts.length) (fun i => ⟨0, [(0, yieldV l), (5, tLims.enc ts), (6, iv ts.length), (7, iv i)], []⟩) (fun i => (i, true)) (fun i => ts.length - i) 0 (Nat.zero_le _) rfl (fun i _ b k hk => by cases hk) (Wk.renL [] (by simp) (by simp) (by simp) rfl rfl) ?_
  intro i hi
  refine yRun_sound (ctx := []) 4000 ?_
  rcases Nat.lt_or_ge i ts.length with hlt | hge
  · have hltI : (i : Int) < ts.length := by omega
    obtain ⟨t, ht⟩ : ∃ t, ts[i]? = some t := ⟨_, List.getElem?_eq_getElem hlt⟩
    have ei : IntKind.i64.wrap ((i : Int) + 1) = ((i + 1 : Nat) : Int) := by rw [IntKind.wrap_i64]; omega
    simp only [go_sem, Nat.reduceOr, Nat.reducePow, Nat.reduceDiv, Nat.reduceMod, Nat.reduceBEq, Int.reduceBEq, Int.reduceBNe, Int.reduceEq, Int.reduceLT, Int.reduceLE, Int.reduceToNat, reduceIte, reduceCtorEq, Nat.reduceEqDiff, Nat.reduceAdd, Nat.reduceLT, Nat.reduceLeDiff, Nat.reduceMul, Nat.reduceSub, yieldV, hltI, ht, limR, ei]
    exact ⟨rfl, i + 1, by omega, by omega, rfl, Wk.renL [] (by simp) (by simp) (by simp) rfl rfl⟩
  · obtain rfl : i = ts.length := by omega
    have hI : ¬ (ts.length : Int) < ts.length := by omega
    simp only [go_sem, Nat.reduceOr, Nat.reducePow, Nat.reduceDiv, Nat.reduceMod, Nat.reduceBEq, Int.reduceBEq, Int.reduceBNe, Int.reduceEq, Int.reduceLT, Int.reduceLE, Int.reduceToNat, reduceIte, reduceCtorEq, Nat.reduceEqDiff, Nat.reduceAdd, Nat.reduceLT, Nat.reduceLeDiff, Nat.reduceMul, Nat.reduceSub, yieldV, hI]
theorem en_vals1 (args : Array Value) (w : World) : (callFunc 192 args).run Tryz.prog w = .ok (.enter 192 args) w := by go_simp
noncomputable def valsIt : It Tryz.prog 192 :=
  mkIt _ _ _ Tryz.func192 rfl rfl en_vals1 decVals (by
    intro ds q L hd hq l
    unfold decVals at hd
    split at hd
    case h_2 => cases hd
    rename_i els
    split at hd
    case h_2 => cases hd
    rename_i ts hts
    injection hd with hd
    injection hd with h1 hd
    subst h1
    subst hd
    have he := decAllD_inv limR hts
    subst he
    exact ⟨by rw [Tryz.ntmps192]; show 1 + 1 ≤ 16; decide, vals1_sw l ts hq⟩)
theorem vals_dec {ts : List Lim} : valsIt.dec [.pd [rowsD ts]] = some (ts.length ≤ 1000, ts.map lrow) := by
  have e : valsIt.dec = decVals := rfl
  rw [e]
  unfold decVals rowsD
  simp only [decAllD_map]
theorem en_vals (args : Array Value) (w : World) : (callFunc 181 args).run Tryz.prog w = .ok (.enter 181 args) w := by go_simp
def valsS : Spec Tryz.prog 181 :=
  mk1 _ _ _ Tryz.func181 rfl en_vals (tLims) ((fun _ => True)) ((fun l => .ret (.fn 192 [] [.d (.pd [rowsD l])]))) (by rw [Tryz.ntmps181]; decide) (fun l _ => by
  refine aRun_sound (ctx := []) 4000 ?_
  rw [Tryz.ntmps181, Tryz.results181]
  simp only [Tryz.f181, Option.getD_some, zipT]
  simp only [go_sem, Nat.reduceOr, Nat.reducePow, Nat.reduceDiv, Nat.reduceMod, Nat.reduceBEq, Int.reduceBEq, Int.reduceBNe, Int.reduceEq, Int.reduceLT, Int.reduceLE, Int.reduceToNat, reduceIte, reduceCtorEq, Nat.reduceEqDiff, Nat.reduceAdd, Nat.reduceLT, Nat.reduceLeDiff, Nat.reduceMul, Nat.reduceSub, rowsD])
theorem vals_run {id : Nat} {h : Heap} {args : List AV} : (valsS).run id h args = runP (args1 (tLims) ((fun _ => True))) ((fun l => .ret (.fn 192 [] [.d (.pd [rowsD l])]))) h args := rfl
theorem vals_pan {id : Nat} {h : Heap} {args : List AV} : (valsS).pan id h args = panP (args1 (tLims) ((fun _ => True))) ((fun l => .ret (.fn 192 [] [.d (.pd [rowsD l])]))) h args := rfl
theorem en_limitsI (args : Array Value) (w : World) : (callFunc 159 args).run Tryz.prog w = .ok (.enter 159 args) w := by go_simp
def limitsIS : Spec Tryz.prog 159 :=
  mk1 _ _ _ Tryz.func159 rfl en_limitsI (tInt .i64) (opQ) ((fun op => .ret (.fn 192 [] [.d (.pd [rowsD (limitsF op)])]))) (by rw [Tryz.ntmps159]; decide) (fun op h => by
  refine aRun_sound (ctx := [⟨_, limitsS⟩, ⟨_, valsS⟩]) 4000 ?_
  rw [Tryz.ntmps159, Tryz.results159]
  simp only [Tryz.f159, Option.getD_some, zipT]
  simp only [go_sem, Nat.reduceOr, Nat.reducePow, Nat.reduceDiv, Nat.reduceMod, Nat.reduceBEq, Int.reduceBEq, Int.reduceBNe, Int.reduceEq, Int.reduceLT, Int.reduceLE, Int.reduceToNat, reduceIte, reduceCtorEq, Nat.reduceEqDiff, Nat.reduceAdd, Nat.reduceLT, Nat.reduceLeDiff, Nat.reduceMul, Nat.reduceSub, limits_run, limits_pan, h, limsV, vals_run, vals_pan, rowsD])
theorem limitsI_run {id : Nat} {h : Heap} {args : List AV} : (limitsIS).run id h args = runP (args1 (tInt .i64) (opQ)) ((fun op => .ret (.fn 192 [] [.d (.pd [rowsD (limitsF op)])]))) h args := rfl
theorem limitsI_pan {id : Nat} {h : Heap} {args : List AV} : (limitsIS).pan id h args = panP (args1 (tInt .i64) (opQ)) ((fun op => .ret (.fn 192 [] [.d (.pd [rowsD (limitsF op)])]))) h args := rfl

end Go.Proofs.YtpjlafmhoifkmaaGreat
