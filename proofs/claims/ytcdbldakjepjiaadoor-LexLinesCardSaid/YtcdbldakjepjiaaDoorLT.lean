/- Lines: the tokens one by one. -/
import Derived.Test.YtcdbldakjepjiaaDoorLB
set_option linter.unusedVariables false
set_option linter.unusedSimpArgs false
namespace Go.Proofs.YtcdbldakjepjiaaDoor
open Go.RowKit
set_option maxRecDepth 100000

def trow (t : Tok) : List AV := [.s (tokV t)]
def rowsD (l : List Tok) : D := .sd 4 (l.map tokR.enc)
def yieldV (l : Nat) : AV := .s (.l (.v (.func (.yield l) #[] #[])))

/-! ### slices.Values -/
def decVals : List D → Option (Prop × List (List AV))
  | [.pd [.sd 4 els]] => match decAllD tokR.dec els with
    | some ts => some (ts.length ≤ 1000000, ts.map trow)
    | none => none
  | _ => none
set_option maxHeartbeats 2000000 in
theorem vals1_sw (l : Nat) (ts : List Tok) (hz : ts.length ≤ 1000000) : SWy Tryd.prog l (ts.map trow) ⟨none, 0⟩ Tryd.f81.ntmps (Tryd.f81.body.getD .skip) ⟨0, zipT 0 [yieldV l, .s (.l (.d (.pd [rowsD ts])))], []⟩ (0, true) (itQ (ts.map trow)) := by
  refine yRun_sound (ctx := []) 4000 ?_
  rw [Tryd.ntmps81]
  simp only [Tryd.f81, Option.getD_some, zipT]
  simp only [List.map_nil, Nat.le_refl, List.length_map, popTo, aOp, evT, tget, putT, dstOk, hget, aBin, aUn, aLoad, aStore, aNew, aIndexAt, fitsAt, aLen, flatOf, cellsOf, LV.one, Value.oneCell', splice, crun, List.getElem?_cons_zero, List.map_cons, Option.map_some, Int.toNat_natCast, Option.isSome_some, List.getElem?_map, reduceIte, reduceCtorEq, Nat.reduceEqDiff, Nat.reduceAdd, Nat.reduceLT, decide_true, decide_false, true_and, and_true, forall_const, not_false_eq_true, Bool.not_true, Bool.not_false, List.cons_append, List.nil_append, List.append_nil, List.take_succ_cons, List.take_zero, List.drop_succ_cons, List.drop_zero, List.length_cons, List.length_nil, List.set_cons_zero, Option.some.injEq, implies_true, Bool.false_eq_true, false_implies, and_self, Bool.and_true, Bool.true_and, Bool.and_self, Nat.zero_add, aPan, cpan, calleeOf, D.one, ofD, ofDs, zipT, tSl, List.all_cons, List.all_nil, List.append_assoc, Int.natCast_nonneg, Option.getD_some, yStep_eq, yP_none, yO_none, yO_some, yY_some, yRun_nil, yRun_b, yRun_o0, yRun_o1, yRun_skip, yRun_ret, yRun_seq, yRun_block, yRun_cond, yRun_region, yRun_exit, yRun_loop, afterY_exit, afterY_ret, yEx_some, yEx_none, yBr_true, yBr_false, yOp, ownL, AV.pin, SV.pin, LV.pin, itQ_normal, itQ_ret, roundY_normal, roundY_exit, roundY_ret, sz_23, row_23, el_23, str_23, sz_30, row_30, zero_30, yieldV, rowsD]
  refine swy_loop (ι := Nat) (fun i => i ≤ ts.length) (fun i => ⟨0, [(0, yieldV l), (5, tToks.enc ts), (6, iv ts.length), (7, iv i)], []⟩) (fun i => (i, true)) (fun i => ts.length - i) 0 (Nat.zero_le _) rfl (fun i _ b k hk => by cases hk) (Wk.renL [] (by simp) (by simp) (by simp) rfl rfl) ?_
  intro i hi
  refine yRun_sound (ctx := []) 4000 ?_
  rcases Nat.lt_or_ge i ts.length with hlt | hge
  · have hltI : (i : Int) < ts.length := by omega
    obtain ⟨t, ht⟩ : ∃ t, ts[i]? = some t := ⟨_, List.getElem?_eq_getElem hlt⟩
    have ei : IntKind.i64.wrap ((i : Int) + 1) = ((i + 1 : Nat) : Int) := by rw [IntKind.wrap_i64]; omega
    simp only [List.map_nil, Nat.le_refl, List.length_map, popTo, aOp, evT, tget, putT, dstOk, hget, aBin, aUn, aLoad, aStore, aNew, aIndexAt, fitsAt, aLen, flatOf, cellsOf, LV.one, Value.oneCell', splice, crun, List.getElem?_cons_zero, List.map_cons, Option.map_some, Int.toNat_natCast, Option.isSome_some, List.getElem?_map, reduceIte, reduceCtorEq, Nat.reduceEqDiff, Nat.reduceAdd, Nat.reduceLT, decide_true, decide_false, true_and, and_true, forall_const, not_false_eq_true, Bool.not_true, Bool.not_false, List.cons_append, List.nil_append, List.append_nil, List.take_succ_cons, List.take_zero, List.drop_succ_cons, List.drop_zero, List.length_cons, List.length_nil, List.set_cons_zero, Option.some.injEq, implies_true, Bool.false_eq_true, false_implies, and_self, Bool.and_true, Bool.true_and, Bool.and_self, Nat.zero_add, aPan, cpan, calleeOf, D.one, ofD, ofDs, zipT, tSl, List.all_cons, List.all_nil, List.append_assoc, Int.natCast_nonneg, Option.getD_some, yStep_eq, yP_none, yO_none, yO_some, yY_some, yRun_nil, yRun_b, yRun_o0, yRun_o1, yRun_skip, yRun_ret, yRun_seq, yRun_block, yRun_cond, yRun_region, yRun_exit, yRun_loop, afterY_exit, afterY_ret, yEx_some, yEx_none, yBr_true, yBr_false, yOp, ownL, AV.pin, SV.pin, LV.pin, itQ_normal, itQ_ret, roundY_normal, roundY_exit, roundY_ret, sz_23, row_23, el_23, str_23, sz_30, row_30, zero_30, yieldV, hltI, ht, tokR, ei]
    exact ⟨rfl, i + 1, by omega, by omega, rfl, Wk.renL [] (by simp) (by simp) (by simp) rfl rfl⟩
  · obtain rfl : i = ts.length := by omega
    have hI : ¬ (ts.length : Int) < ts.length := by omega
    simp only [List.map_nil, Nat.le_refl, List.length_map, popTo, aOp, evT, tget, putT, dstOk, hget, aBin, aUn, aLoad, aStore, aNew, aIndexAt, fitsAt, aLen, flatOf, cellsOf, LV.one, Value.oneCell', splice, crun, List.getElem?_cons_zero, List.map_cons, Option.map_some, Int.toNat_natCast, Option.isSome_some, List.getElem?_map, reduceIte, reduceCtorEq, Nat.reduceEqDiff, Nat.reduceAdd, Nat.reduceLT, decide_true, decide_false, true_and, and_true, forall_const, not_false_eq_true, Bool.not_true, Bool.not_false, List.cons_append, List.nil_append, List.append_nil, List.take_succ_cons, List.take_zero, List.drop_succ_cons, List.drop_zero, List.length_cons, List.length_nil, List.set_cons_zero, Option.some.injEq, implies_true, Bool.false_eq_true, false_implies, and_self, Bool.and_true, Bool.true_and, Bool.and_self, Nat.zero_add, aPan, cpan, calleeOf, D.one, ofD, ofDs, zipT, tSl, List.all_cons, List.all_nil, List.append_assoc, Int.natCast_nonneg, Option.getD_some, yStep_eq, yP_none, yO_none, yO_some, yY_some, yRun_nil, yRun_b, yRun_o0, yRun_o1, yRun_skip, yRun_ret, yRun_seq, yRun_block, yRun_cond, yRun_region, yRun_exit, yRun_loop, afterY_exit, afterY_ret, yEx_some, yEx_none, yBr_true, yBr_false, yOp, ownL, AV.pin, SV.pin, LV.pin, itQ_normal, itQ_ret, roundY_normal, roundY_exit, roundY_ret, sz_23, row_23, el_23, str_23, sz_30, row_30, zero_30, yieldV, hI]
theorem en_vals1 (args : Array Value) (w : World) : (callFunc 81 args).run Tryd.prog w = .ok (.enter 81 args) w := by go_simp
noncomputable def valsIt : It Tryd.prog 81 :=
  mkIt _ _ _ Tryd.func81 rfl rfl en_vals1 decVals (by
    intro ds q L hd hq l
    unfold decVals at hd
    split at hd
    case h_2 => cases hd
    rename_i els
    split at hd
    case h_2 => cases hd
    rename_i ts hts
    injection hd with hd
    injection hd with h1 hd
    subst h1
    subst hd
    have he := decAllD_inv tokR hts
    subst he
    exact ⟨by rw [Tryd.ntmps81]; show 1 + 1 ≤ 16; decide, vals1_sw l ts hq⟩)
theorem vals_dec {ts : List Tok} : valsIt.dec [.pd [rowsD ts]] = some (ts.length ≤ 1000000, ts.map trow) := by
  have e : valsIt.dec = decVals := rfl
  rw [e]
  unfold decVals rowsD
  simp only [decAllD_map]
theorem en_vals (args : Array Value) (w : World) : (callFunc 44 args).run Tryd.prog w = .ok (.enter 44 args) w := by go_simp
def valsS : Spec Tryd.prog 44 :=
  mk1 _ _ _ Tryd.func44 rfl en_vals (tToks) ((fun _ => True)) ((fun l => .ret (.fn 81 [] [.d (.pd [rowsD l])]))) (by rw [Tryd.ntmps44]; decide) (fun l _ => by
  refine aRun_sound (ctx := []) 4000 ?_
  rw [Tryd.ntmps44, Tryd.results44]
  simp only [Tryd.f44, Option.getD_some, zipT]
  simp only [List.map_nil, retQ, retD, aRun_o0, aRun_o1, aRun_ret, aRun_seq, aRun_region, aCont_some, aOp, evT, tget, putT, dstOk, hget, aNew, cellsOf, LV.one, List.getElem?_cons_zero, List.map_cons, reduceIte, reduceCtorEq, Nat.reduceEqDiff, Nat.reduceAdd, Nat.reduceLT, decide_true, List.nil_append, List.append_nil, List.drop_zero, List.length_cons, List.length_nil, and_self, Bool.and_self, Nat.zero_add, aPanQ_none, aPan, caught, oneOf, D.one, ofD, ofDs, outQ_ret, rvOf, rvsOf, aRet, zipT, mapT, AV.toD, LV.toD, tSl, rowsD])
theorem vals_run {id : Nat} {h : Heap} {args : List AV} : (valsS).run id h args = runP (args1 (tToks) ((fun _ => True))) ((fun l => .ret (.fn 81 [] [.d (.pd [rowsD l])]))) h args := rfl
theorem vals_pan {id : Nat} {h : Heap} {args : List AV} : (valsS).pan id h args = panP (args1 (tToks) ((fun _ => True))) ((fun l => .ret (.fn 81 [] [.d (.pd [rowsD l])]))) h args := rfl

/-! ### Tokens -/
/-- the first range over a function in some code -/
def rangeIn : Code → Code
  | .seq x y => match rangeIn x with
    | .skip => rangeIn y
    | z => z
  | .block _ x => rangeIn x
  | .rangeFunc x ps as' bo => .rangeFunc x ps as' bo
  | _ => .skip
def cellsA : List AV → List LV
  | [A] => (cellsOf A).getD []
  | _ => []
def tkT (l : Nat) (ts : List Tok) : Tmps := [(0, yieldV l), (2, .s (.l (.d (.pd [.v (.func (.yield l) #[] #[])])))), (5, .s (.l (.d (.fn 81 [] [.pd [rowsD ts]]))))]
def tkE (l : Nat) (ts : List Tok) (_ : Nat) (As : List AV) : St := ⟨1, (3, pv 0 0 0) :: putPs ([6].zip As) (tkT l ts), [(0, some ⟨true, 30, 4, [cellsA As]⟩)]⟩
set_option maxHeartbeats 4000000 in
theorem tokens1_sw (l : Nat) (ts : List Tok) (hz : ts.length ≤ 1000000) : SWy Tryd.prog l (ts.map trow) ⟨none, 0⟩ Tryd.f43.ntmps (Tryd.f43.body.getD .skip) ⟨0, zipT 0 [yieldV l, .s (.l (.d (.pd [rowsD ts])))], []⟩ (0, true) (itQ (ts.map trow)) := by
  have nf : ∀ (Q : Exit → St → Nat × Bool → Prop), (∀ s, Q .normal s (ts.length, true)) → (∀ s i, Q .ret s (i, false)) → SWy Tryd.prog l (ts.map trow) ⟨none, 0⟩ 11 (rangeIn (Tryd.f43.body.getD .skip)) ⟨0, tkT l ts, []⟩ (0, true) Q := by
    intro Q hdone hret
    refine swy_rangeG (ι := Nat) (t := tkT l ts) (tkE l ts) (fun i x => x = i) (fun _ => []) (fun _ => 0) (fun i => (i, true)) (fun c s y => c = .ret ∧ y.2 = false ∧ ownL s.h = true) valsIt vals_dec hz rfl (fun x As hA => ?_) (by decide) (fun As hA => ?_) (tpin_of rfl) (fun i x _ b k hk => by cases hk) (fun c s y h => ?_) 0 rfl (fun l' i x As hinv hA => ?_) (fun x hinv => ?_) (fun c s y h => ?_)
    · obtain ⟨r, _, rfl⟩ := List.mem_map.1 hA
      exact asg_box (T := 30) (tb := 3) (tp := 6) rfl (by decide) (xs := [.v (.int .i64 r.kind), .v (.string r.text), .v (.int .u64 r.n), .v (.int .i64 r.pos)]) rfl zero_30 sz_30 rfl
    · obtain ⟨r, _, rfl⟩ := List.mem_map.1 hA
      rfl
    · exact ownL_get h.2.2
    · subst hinv
      rw [List.getElem?_map, Option.map_eq_some_iff] at hA
      obtain ⟨r, hr, rfl⟩ := hA
      refine yRun_sound (ctx := []) 4000 ?_
      simp only [List.map_nil, Nat.le_refl, List.length_map, aOp, evT, tget, putT, dstOk, hget, aUn, aLoad, aNew, flatOf, cellsOf, LV.one, Value.oneCell', crun, List.getElem?_cons_zero, List.map_cons, List.getElem?_map, reduceIte, reduceCtorEq, Nat.reduceEqDiff, Nat.reduceAdd, Nat.reduceLT, decide_true, true_and, and_true, forall_const, not_false_eq_true, Bool.not_true, Bool.not_false, List.nil_append, List.append_nil, List.take_succ_cons, List.take_zero, List.drop_zero, List.length_cons, List.length_nil, Option.some.injEq, implies_true, Bool.false_eq_true, false_implies, and_self, Bool.and_true, Bool.true_and, Bool.and_self, Nat.zero_add, aPan, cpan, calleeOf, ofD, ofDs, zipT, runP, panP, hides, mapT, AV.toD, SV.toD, LV.toD, args1, tSl, decAllD_map, AV.plain, LV.plain, List.all_cons, List.all_nil, Option.getD_some, exists_eq_left, yStep_eq, yP_none, yO_none, yO_some, yY_some, yRun_nil, yRun_b, yRun_o0, yRun_o1, yRun_skip, yRun_ret, yRun_seq, yRun_block, yRun_cond, yRun_region, yRun_range, afterY_normal, afterY_ret, yBr_true, yBr_false, yOp, ownL, AV.pin, SV.pin, LV.pin, itQ_normal, itQ_ret, sz_23, row_23, sz_30, row_30, sz_65, row_65, tkE, tkT, yieldV, trow, tokV, cellsA, putPs, List.zip_cons_cons, List.zip_nil_left, List.foldl_cons, List.foldl_nil]
      refine ⟨by rw [hr]; rfl, Wk.renL [] (by simp) (by simp) (by simp) rfl rfl⟩
    · rw [hinv, List.length_map]
      exact hdone _
    · obtain ⟨rfl, h1, h2⟩ := h
      obtain ⟨i, b⟩ := y
      simp only at h1
      subst h1
      exact swy_ret (hret _ _)
  refine yRun_sound (ctx := [⟨_, valsS⟩]) 4000 ?_
  rw [Tryd.ntmps43]
  simp only [Tryd.f43, Option.getD_some, zipT]
  simp only [List.map_nil, Nat.le_refl, List.length_map, aOp, evT, tget, putT, dstOk, hget, aUn, aLoad, aNew, flatOf, cellsOf, LV.one, Value.oneCell', crun, List.getElem?_cons_zero, List.map_cons, List.getElem?_map, reduceIte, reduceCtorEq, Nat.reduceEqDiff, Nat.reduceAdd, Nat.reduceLT, decide_true, true_and, and_true, forall_const, not_false_eq_true, Bool.not_true, Bool.not_false, List.nil_append, List.append_nil, List.take_succ_cons, List.take_zero, List.drop_zero, List.length_cons, List.length_nil, Option.some.injEq, implies_true, Bool.false_eq_true, false_implies, and_self, Bool.and_true, Bool.true_and, Bool.and_self, Nat.zero_add, aPan, cpan, calleeOf, ofD, ofDs, zipT, runP, panP, hides, mapT, AV.toD, SV.toD, LV.toD, args1, tSl, decAllD_map, AV.plain, LV.plain, List.all_cons, List.all_nil, Option.getD_some, exists_eq_left, yStep_eq, yP_none, yO_none, yO_some, yY_some, yRun_nil, yRun_b, yRun_o0, yRun_o1, yRun_skip, yRun_ret, yRun_seq, yRun_block, yRun_cond, yRun_region, yRun_range, afterY_normal, afterY_ret, yBr_true, yBr_false, yOp, ownL, AV.pin, SV.pin, LV.pin, itQ_normal, itQ_ret, sz_23, row_23, sz_30, row_30, sz_65, row_65, yieldV, rowsD, vals_run, vals_pan]
  have hwk : Wk ⟨none, 0⟩ ⟨48, [(5, AV.fn 81 [] [.d (.pd [.sd 4 (ts.map tokR.enc)])]), (4, .s (.l (.d (.sd 4 (ts.map tokR.enc))))), (2, pv 0 0 0), (0, .s (.l (.v (.func (.yield l) #[] #[])))), (1, .s (.l (.d (.pd [.sd 4 (ts.map tokR.enc)]))))], [(0, some ⟨true, 65, 1, [[.v (.func (.yield l) #[] #[])]]⟩)]⟩ ⟨0, tkT l ts, []⟩ :=
    (Wk.fnD (s := ⟨_, _, _⟩) 5 rfl rfl rfl).trans ((Wk.frz (s := ⟨_, _, _⟩) 2 (u := [0]) (A := .s (.l (.d (.pd [.v (.func (.yield l) #[] #[])])))) rfl (by simp)).trans (Wk.renL [] (by simp) (by simp) (by simp) rfl rfl))
  refine SWy.wk (nf _ (fun s => ?_) (fun s i => ?_)) hwk (fun b k hk => by cases hk)
  · simp only [List.map_nil, Nat.le_refl, List.length_map, aOp, evT, tget, putT, dstOk, hget, aUn, aLoad, aNew, flatOf, cellsOf, LV.one, Value.oneCell', crun, List.getElem?_cons_zero, List.map_cons, List.getElem?_map, reduceIte, reduceCtorEq, Nat.reduceEqDiff, Nat.reduceAdd, Nat.reduceLT, decide_true, true_and, and_true, forall_const, not_false_eq_true, Bool.not_true, Bool.not_false, List.nil_append, List.append_nil, List.take_succ_cons, List.take_zero, List.drop_zero, List.length_cons, List.length_nil, Option.some.injEq, implies_true, Bool.false_eq_true, false_implies, and_self, Bool.and_true, Bool.true_and, Bool.and_self, Nat.zero_add, aPan, cpan, calleeOf, ofD, ofDs, zipT, runP, panP, hides, mapT, AV.toD, SV.toD, LV.toD, args1, tSl, decAllD_map, AV.plain, LV.plain, List.all_cons, List.all_nil, Option.getD_some, exists_eq_left, yStep_eq, yP_none, yO_none, yO_some, yY_some, yRun_nil, yRun_b, yRun_o0, yRun_o1, yRun_skip, yRun_ret, yRun_seq, yRun_block, yRun_cond, yRun_region, yRun_range, afterY_normal, afterY_ret, yBr_true, yBr_false, yOp, ownL, AV.pin, SV.pin, LV.pin, itQ_normal, itQ_ret, sz_23, row_23, sz_30, row_30, sz_65, row_65]
  · simp only [List.map_nil, Nat.le_refl, List.length_map, aOp, evT, tget, putT, dstOk, hget, aUn, aLoad, aNew, flatOf, cellsOf, LV.one, Value.oneCell', crun, List.getElem?_cons_zero, List.map_cons, List.getElem?_map, reduceIte, reduceCtorEq, Nat.reduceEqDiff, Nat.reduceAdd, Nat.reduceLT, decide_true, true_and, and_true, forall_const, not_false_eq_true, Bool.not_true, Bool.not_false, List.nil_append, List.append_nil, List.take_succ_cons, List.take_zero, List.drop_zero, List.length_cons, List.length_nil, Option.some.injEq, implies_true, Bool.false_eq_true, false_implies, and_self, Bool.and_true, Bool.true_and, Bool.and_self, Nat.zero_add, aPan, cpan, calleeOf, ofD, ofDs, zipT, runP, panP, hides, mapT, AV.toD, SV.toD, LV.toD, args1, tSl, decAllD_map, AV.plain, LV.plain, List.all_cons, List.all_nil, Option.getD_some, exists_eq_left, yStep_eq, yP_none, yO_none, yO_some, yY_some, yRun_nil, yRun_b, yRun_o0, yRun_o1, yRun_skip, yRun_ret, yRun_seq, yRun_block, yRun_cond, yRun_region, yRun_range, afterY_normal, afterY_ret, yBr_true, yBr_false, yOp, ownL, AV.pin, SV.pin, LV.pin, itQ_normal, itQ_ret, sz_23, row_23, sz_30, row_30, sz_65, row_65]
theorem en_tokens1 (args : Array Value) (w : World) : (callFunc 43 args).run Tryd.prog w = .ok (.enter 43 args) w := by go_simp
noncomputable def tokensIt : It Tryd.prog 43 :=
  mkIt _ _ _ Tryd.func43 rfl rfl en_tokens1 decVals (by
    intro ds q L hd hq l
    unfold decVals at hd
    split at hd
    case h_2 => cases hd
    rename_i els
    split at hd
    case h_2 => cases hd
    rename_i ts hts
    injection hd with hd
    injection hd with h1 hd
    subst h1
    subst hd
    have he := decAllD_inv tokR hts
    subst he
    exact ⟨by rw [Tryd.ntmps43]; show 1 + 1 ≤ 11; decide, tokens1_sw l ts hq⟩)
theorem tokens_dec {ts : List Tok} : tokensIt.dec [.pd [rowsD ts]] = some (ts.length ≤ 1000000, ts.map trow) := by
  have e : tokensIt.dec = decVals := rfl
  rw [e]
  unfold decVals rowsD
  simp only [decAllD_map]

def seqV (r : List Tok × Nat × Int) (long : Bool) : AV := .fn 43 [] [.d (.pd [if long = true then .v (.slice none 0 0) else rowsD r.1])]
theorem en_seq (args : Array Value) (w : World) : (callFunc 18 args).run Tryd.prog w = .ok (.enter 18 args) w := by go_simp
def seqS : Spec Tryd.prog 18 :=
  mk1 _ _ _ Tryd.func18 rfl en_seq (tStr) ((fun _ => True)) ((fun s => .ret (seqV (linesF (toBytes s)) (longL512 (toBytes s))))) (by rw [Tryd.ntmps18]; decide) (fun s _ => by
  refine aRun_sound (ctx := [⟨_, tokensS⟩]) 4000 ?_
  rw [Tryd.ntmps18, Tryd.results18]
  simp only [Tryd.f18, Option.getD_some, zipT]
  cases hl : longL512 (toBytes s) <;> simp only [List.map_nil, Nat.le_refl, retQ, retD, aRun_o0, aRun_o1, aRun_ret, aRun_seq, aRun_region, aCont_some, aOp, evT, tget, putT, dstOk, hget, aStore, aNew, cellsOf, LV.one, Value.oneCell', splice, crun, List.getElem?_cons_zero, List.getElem?_cons_succ, List.map_cons, reduceIte, reduceCtorEq, Nat.reduceEqDiff, Nat.reduceAdd, Nat.reduceLT, decide_true, and_true, List.cons_append, List.nil_append, List.append_nil, List.take_zero, List.drop_succ_cons, List.drop_zero, List.length_cons, List.length_nil, List.set_cons_zero, Bool.false_eq_true, and_self, Bool.and_true, Bool.and_self, Nat.zero_add, aPanQ_none, aPan, cpan, calleeOf, caught, oneOf, D.one, ofD, ofDs, outQ_ret, rvOf, rvsOf, aRet, zipT, runP, panP, hides, mapT, AV.toD, SV.toD, LV.toD, args1, tStr, AV.plain, SV.plain, LV.plain, List.all_cons, List.all_nil, sz_23, zero_23, tokens_run, tokens_pan, tokensO, toksV, nilSV, hl, seqV, rowsD])
theorem seq_run {id : Nat} {h : Heap} {args : List AV} : (seqS).run id h args = runP (args1 (tStr) ((fun _ => True))) ((fun s => .ret (seqV (linesF (toBytes s)) (longL512 (toBytes s))))) h args := rfl
theorem seq_pan {id : Nat} {h : Heap} {args : List AV} : (seqS).pan id h args = panP (args1 (tStr) ((fun _ => True))) ((fun s => .ret (seqV (linesF (toBytes s)) (longL512 (toBytes s))))) h args := rfl

/-! ### told -/
def sliceD : D → Option (List Tok)
  | .sd 4 els => decAllD tokR.dec els
  | .v (.slice none 0 0) => some []
  | _ => none
theorem sliceD_rep {M : Mem} {d : D} {ts : List Tok} {y : Value} (h : sliceD d = some ts) (hr : DRep M d y) : DRep M (rowsD ts) y := by
  unfold sliceD at h
  split at h
  · have he := decAllD_inv tokR h
    subst he
    exact hr
  · injection h with h
    subst h
    simp only [DRep] at hr
    subst hr
    unfold rowsD
    simp only [List.map_nil, DRep]
    exact ⟨none, 0, rfl, Nat.le_refl _, fun h => absurd rfl h⟩
  · cases h
def tSeq : Ty (List Tok) where
  dec := fun
    | .fn g [] [.d (.pd [d])] => if g = 43 then sliceD d else none
    | .s (.l (.d (.fn g [] [.pd [d]]))) => if g = 43 then sliceD d else none
    | _ => none
  enc := fun ts => .s (.l (.d (.fn 43 [] [.pd [rowsD ts]])))
  ok := by
    intro A x h ρ al v hr
    have key : ∀ {d : D} {y : Value}, sliceD d = some x → DRep al.M (.pd [d]) y → DRep al.M (.pd [rowsD x]) y := by
      intro d y hd hy
      simp only [DRep, DsAt] at hy ⊢
      obtain ⟨blk, off, e, ⟨z, h1, h2, h3⟩, h4⟩ := hy
      exact ⟨blk, off, e, ⟨z, h1, h2, sliceD_rep hd h3⟩, h4⟩
    split at h
    · split at h
      · rename_i e
        subst e
        obtain ⟨f, c, e1, e2, e3⟩ := hr
        match f, c, e2, e3 with
        | [], [y], _, ⟨h1, h2, _⟩ =>
          show DRep al.M _ _
          simp only [DRep, DsRep]
          exact ⟨[], [y], e1, trivial, h1, key h h2, trivial⟩
      · cases h
    · split at h
      · rename_i e
        subst e
        have hr : DRep al.M _ v := hr
        simp only [DRep] at hr
        obtain ⟨f, c, e1, e2, e3⟩ := hr
        match f, c, e2, e3 with
        | [], [y], _, h3 =>
          simp only [DsRep] at h3
          show DRep al.M _ _
          simp only [DRep, DsRep]
          exact ⟨[], [y], e1, trivial, h3.1, key h h3.2.1, trivial⟩
      · cases h
    · cases h

end Go.Proofs.YtcdbldakjepjiaaDoor
