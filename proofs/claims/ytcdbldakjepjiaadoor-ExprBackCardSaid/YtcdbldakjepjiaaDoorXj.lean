/- An expression's text: the walk. -/
import Derived.Test.YtcdbldakjepjiaaDoorXb
import Derived.Test.YtcdbldakjepjiaaDoorXc
import Derived.Test.YtcdbldakjepjiaaDoorXf
import Derived.Test.YtcdbldakjepjiaaDoorXh
import Derived.Test.YtcdbldakjepjiaaDoorL2
set_option linter.unusedVariables false
set_option linter.unusedSimpArgs false
namespace Go.Proofs.YtcdbldakjepjiaaDoor.Ex
open Go.RowKit
set_option maxRecDepth 100000

theorem en_dcm (args : Array Value) (w : World) : (callFunc 70 args).run Tryd.prog w = .ok (.enter 70 args) w := by go_simp
def dcmS : Spec Tryd.prog 70 := mk1C _ en_dcm (tInt .u64) (fun z => 0 ≤ z ∧ z < 18446744073709551616) (fun z => sv (decS z.toNat)) (fun _ => rfl) fun z hz M w v hM hv => by
  obtain rfl : v = .int .u64 z := hv
  obtain ⟨N, rfl⟩ := Int.eq_ofNat_of_zero_le hz.1
  refine (decimal_any N w (by omega)).mono ?_
  rintro e w' ⟨rfl, hb⟩
  exact ⟨⟨_, rfl, rfl⟩, hb⟩
theorem dcm_run {id : Nat} {h : Heap} {args : List AV} : dcmS.run id h args = runP (args1 (tInt .u64) (fun z => 0 ≤ z ∧ z < 18446744073709551616)) (fun z => .ret (sv (decS z.toNat))) h args := rfl
theorem dcm_pan {h : Heap} {id : Nat} {args : List AV} : dcmS.pan id h args = panP (args1 (tInt .u64) (fun z => 0 ≤ z ∧ z < 18446744073709551616)) (fun z => .ret (sv (decS z.toNat))) h args := rfl

theorem en_takes (args : Array Value) (w : World) : (callFunc 74 args).run Tryd.prog w = .ok (.enter 74 args) w := by go_simp
def takesS : Spec Tryd.prog 74 :=
  mk1 _ _ _ Tryd.func74 rfl en_takes (tInt .i64) ((fun _ => True)) ((fun k => .ret (iv (takesF k)))) (by rw [Tryd.ntmps74]; decide) (fun k _ => by
  refine aRun_sound (ctx := []) 4000 ?_
  rw [Tryd.ntmps74, Tryd.results74]
  simp only [Tryd.f74, Option.getD_some, zipT]
  by_cases k3 : k = 3
  · have e : takesF k = 1 := by unfold takesF; rw [if_pos (.inl k3)]
    simp only [go_sem, Nat.reduceOr, Nat.reducePow, Nat.reduceDiv, Nat.reduceMod, Nat.reduceBEq, Int.reduceBEq, Int.reduceBNe, Int.reduceEq, Int.reduceLT, Int.reduceLE, Int.reduceToNat, reduceIte, reduceCtorEq, Nat.reduceEqDiff, Nat.reduceAdd, Nat.reduceLT, Nat.reduceLeDiff, Nat.reduceMul, Nat.reduceSub, eq_true k3, e]
  by_cases k4 : k = 4
  · have e : takesF k = 1 := by unfold takesF; rw [if_pos (.inr k4)]
    have b4 : (k == 4) = true := by rw [k4]; rfl
    simp only [go_sem, Nat.reduceOr, Nat.reducePow, Nat.reduceDiv, Nat.reduceMod, Nat.reduceBEq, Int.reduceBEq, Int.reduceBNe, Int.reduceEq, Int.reduceLT, Int.reduceLE, Int.reduceToNat, reduceIte, reduceCtorEq, Nat.reduceEqDiff, Nat.reduceAdd, Nat.reduceLT, Nat.reduceLeDiff, Nat.reduceMul, Nat.reduceSub, k3, b4, e]
  have b4 : (k == 4) = false := beq_eq_false_iff_ne.2 k4
  by_cases h5 : 5 ≤ k
  · by_cases h14 : k ≤ 14
    · have e : takesF k = 2 := by unfold takesF; rw [if_neg (by omega), if_pos ⟨h5, h14⟩]
      simp only [go_sem, Nat.reduceOr, Nat.reducePow, Nat.reduceDiv, Nat.reduceMod, Nat.reduceBEq, Int.reduceBEq, Int.reduceBNe, Int.reduceEq, Int.reduceLT, Int.reduceLE, Int.reduceToNat, reduceIte, reduceCtorEq, Nat.reduceEqDiff, Nat.reduceAdd, Nat.reduceLT, Nat.reduceLeDiff, Nat.reduceMul, Nat.reduceSub, k3, b4, h5, h14, e]
    · have e : takesF k = 0 := by unfold takesF; rw [if_neg (by omega), if_neg (by omega)]
      simp only [go_sem, Nat.reduceOr, Nat.reducePow, Nat.reduceDiv, Nat.reduceMod, Nat.reduceBEq, Int.reduceBEq, Int.reduceBNe, Int.reduceEq, Int.reduceLT, Int.reduceLE, Int.reduceToNat, reduceIte, reduceCtorEq, Nat.reduceEqDiff, Nat.reduceAdd, Nat.reduceLT, Nat.reduceLeDiff, Nat.reduceMul, Nat.reduceSub, k3, b4, h5, h14, e]
  · have e : takesF k = 0 := by unfold takesF; rw [if_neg (by omega), if_neg (by omega)]
    simp only [go_sem, Nat.reduceOr, Nat.reducePow, Nat.reduceDiv, Nat.reduceMod, Nat.reduceBEq, Int.reduceBEq, Int.reduceBNe, Int.reduceEq, Int.reduceLT, Int.reduceLE, Int.reduceToNat, reduceIte, reduceCtorEq, Nat.reduceEqDiff, Nat.reduceAdd, Nat.reduceLT, Nat.reduceLeDiff, Nat.reduceMul, Nat.reduceSub, k3, b4, h5, e])
theorem takes_run {id : Nat} {h : Heap} {args : List AV} : (takesS).run id h args = runP (args1 (tInt .i64) ((fun _ => True))) ((fun k => .ret (iv (takesF k)))) h args := rfl
theorem takes_pan {id : Nat} {h : Heap} {args : List AV} : (takesS).pan id h args = panP (args1 (tInt .i64) ((fun _ => True))) ((fun k => .ret (iv (takesF k)))) h args := rfl

/-! ### Numbers -/
theorem hexL_get (u : Int) : ∀ (m j : Nat), j < m → (hexL u m)[j]? = some (hexD u (m - 1 - j))
  | m + 1, 0, _ => by simp [hexL]
  | m + 1, j + 1, h => by
    rw [hexL, List.getElem?_cons_succ, hexL_get u m j (by omega)]
    congr 2
    omega
def hexP (u : Int) (j : Nat) : List Int := 48 :: 120 :: (hexL u 16).take j
theorem hexP_length (u : Int) (j : Nat) (h : j ≤ 16) : (hexP u j).length = j + 2 := by simp [hexP, hexL_length]; omega
theorem hexP_next (u : Int) (j : Nat) (h : j < 16) : hexP u (j + 1) = hexP u j ++ [hexD u (15 - j)] := by
  unfold hexP
  rw [List.take_add_one, hexL_get u 16 j h]
  simp
set_option maxHeartbeats 2000000 in
theorem number_sw (n : Int) (h : -9223372036854775808 ≤ n ∧ n ≤ 9223372036854775807) : SW Tryd.prog ⟨none, 0⟩ Tryd.f76.ntmps (Tryd.f76.body.getD .skip) ⟨0, zipT 0 [(tInt .i64).enc n], []⟩ (outQ Tryd.prog Tryd.f76.results.toList (.ret (sv (numS n)))) := by
  refine aRun_sound (ctx := [⟨_, dcmS⟩]) 4000 ?_
  rw [Tryd.ntmps76, Tryd.results76]
  simp only [Tryd.f76, Option.getD_some, zipT]
  by_cases h0 : 0 ≤ n
  · have e : IntKind.u64.wrap n = n := by rw [IntKind.wrap_u64]; omega
    have e2 : numS n = decS n.toNat := by rw [numS, if_pos h0]
    have e3 : n < 18446744073709551616 := by omega
    simp only [go_sem, Nat.reduceOr, Nat.reducePow, Nat.reduceDiv, Nat.reduceMod, Nat.reduceBEq, Int.reduceBEq, Int.reduceBNe, Int.reduceEq, Int.reduceLT, Int.reduceLE, Int.reduceToNat, reduceIte, reduceCtorEq, Nat.reduceEqDiff, Nat.reduceAdd, Nat.reduceLT, Nat.reduceLeDiff, Nat.reduceMul, Nat.reduceSub, h0, e, dcm_run, dcm_pan, e2, e3]
  · have hu0 : 0 ≤ IntKind.u64.wrap n := by rw [IntKind.wrap_u64]; omega
    have hu1 : IntKind.u64.wrap n < 18446744073709551616 := by rw [IntKind.wrap_u64]; omega
    have hnum : numS n = ofBytes (48 :: 120 :: hexL (IntKind.u64.wrap n) 16) := by rw [numS, if_neg (by omega)]
    rw [hnum]
    clear hnum
    obtain ⟨u, hu⟩ : ∃ u, IntKind.u64.wrap n = u := ⟨_, rfl⟩
    rw [hu] at hu0 hu1 ⊢
    simp only [go_sem, Nat.reduceOr, Nat.reducePow, Nat.reduceDiv, Nat.reduceMod, Nat.reduceBEq, Int.reduceBEq, Int.reduceBNe, Int.reduceEq, Int.reduceLT, Int.reduceLE, Int.reduceToNat, reduceIte, reduceCtorEq, Nat.reduceEqDiff, Nat.reduceAdd, Nat.reduceLT, Nat.reduceLeDiff, Nat.reduceMul, Nat.reduceSub, h0]
    refine sw_loop (ι := Nat) (fun j => j ≤ 16) (fun j => ⟨1, [(0, iv n), (3, .s (.l (.sl 0 0 (hexP u j).length))), (4, iv (15 - j))], [(0, some (bytesK (hexP u j)))]⟩) (fun j => 16 - j) 0 (by omega) ?_ ?_
    · exact Wk.renL [48] (by simp) (by simp) (by simp) rfl rfl
    intro j hj
    refine aRun_sound (ctx := []) 4000 ?_
    have hlen := hexP_length u j hj
    by_cases hlt : j < 16
    · have hlt' : (0 : Int) ≤ 15 - (j : Int) := by omega
      obtain ⟨q0, q1⟩ := div_lt u (15 - j) hu0 hu1
      have e1 : IntKind.i64.wrap (4 * (15 - (j : Int))) = ((4 * (15 - j) : Nat) : Int) := by rw [IntKind.wrap_i64]; omega
      have e2 := shr_u64 u (15 - j) hu0 (by omega)
      rw [Int.toNat_natCast] at e2
      have e3 := and15 (u / 16 ^ (15 - j)) q0 q1
      have e4 : IntKind.i64.wrap (15 - (j : Int) - 1) = 15 - ((j + 1 : Nat) : Int) := by rw [IntKind.wrap_i64]; omega
      have hm : (hexP u j).length + 1 ≤ maxLen := by unfold maxLen; omega
      have hb : ((hexP u j).length + 1) * 1 ≤ 140737488355328 := by omega
      simp only [go_sem, Nat.reduceOr, Nat.reducePow, Nat.reduceDiv, Nat.reduceMod, Nat.reduceBEq, Int.reduceBEq, Int.reduceBNe, Int.reduceEq, Int.reduceLT, Int.reduceLE, Int.reduceToNat, reduceIte, reduceCtorEq, Nat.reduceEqDiff, Nat.reduceAdd, Nat.reduceLT, Nat.reduceLeDiff, Nat.reduceMul, Nat.reduceSub, bytesK, hlt', hu, e1, e2, e3, e4, hm, hb]
      exact ⟨⟨by omega, by omega⟩, j + 1, by omega, by omega, Wk.renL [177] (by simp) (by simp) (by simp) (by simp [tget, AV.ren, SV.ren, LV.ren, hexP_length u (j + 1) (by omega), hlen]) (by simp [hget, Blk.ren, encByte, LV.ren, Function.comp_def, hexP_next u j hlt, hexD, hexes])⟩
    · obtain rfl : j = 16 := by omega
      have e16 : (15 : Int) - 16 = -1 := by decide
      have hx : hexP u 16 = 48 :: 120 :: hexL u 16 := by unfold hexP; rw [List.take_of_length_le (by rw [hexL_length]; decide)]
      have hd := decBytes (hexP u 16)
      rw [← hx]
      simp only [go_sem, Nat.reduceOr, Nat.reducePow, Nat.reduceDiv, Nat.reduceMod, Nat.reduceBEq, Int.reduceBEq, Int.reduceBNe, Int.reduceEq, Int.reduceLT, Int.reduceLE, Int.reduceToNat, reduceIte, reduceCtorEq, Nat.reduceEqDiff, Nat.reduceAdd, Nat.reduceLT, Nat.reduceLeDiff, Nat.reduceMul, Nat.reduceSub, bytesK, e16, hd]
theorem en_number (args : Array Value) (w : World) : (callFunc 76 args).run Tryd.prog w = .ok (.enter 76 args) w := by go_simp
def numberS : Spec Tryd.prog 76 :=
  mk1 _ _ _ Tryd.func76 rfl en_number (tInt .i64) ((fun n => -9223372036854775808 ≤ n ∧ n ≤ 9223372036854775807)) ((fun n => .ret (sv (numS n)))) (by rw [Tryd.ntmps76]; decide) (fun n h => number_sw n h)
theorem number_run {id : Nat} {h : Heap} {args : List AV} : (numberS).run id h args = runP (args1 (tInt .i64) ((fun n => -9223372036854775808 ≤ n ∧ n ≤ 9223372036854775807))) ((fun n => .ret (sv (numS n)))) h args := rfl
theorem number_pan {id : Nat} {h : Heap} {args : List AV} : (numberS).pan id h args = panP (args1 (tInt .i64) ((fun n => -9223372036854775808 ≤ n ∧ n ≤ 9223372036854775807))) ((fun n => .ret (sv (numS n)))) h args := rfl

/-! ### Text -/
def pieceR : RowTy Pc where
  dec := fun | [.v (.string s), .v (.int .i64 d)] => some ⟨s, d⟩ | _ => none
  enc := fun p => [.v (.string p.s), .v (.int .i64 p.d)]
  inv := by
    intro c x h
    split at h
    · injection h with h; subst h; rfl
    · cases h
  back := by intro x; rfl
def pieceK (st : List Pc) : Blk := ⟨true, 105, 2, (st.map pieceR.enc).map ofDs⟩
theorem pieceE (p : Pc) : pieceR.enc p = [.v (.string p.s), .v (.int .i64 p.d)] := rfl
theorem piece_snoc (st : List Pc) (p : Pc) : (st.map pieceR.enc).map ofDs ++ [[LV.v (.string p.s), .v (.int .i64 p.d)]] = ((st ++ [p]).map pieceR.enc).map ofDs := by
  rw [List.map_append, List.map_append]; rfl
theorem termB_sym {t : Term} (h : termB t = true) (h1 : ¬ t.kind = 1) : t.sym.size ≤ 512 := by
  unfold termB at h
  rw [if_neg h1] at h
  split at h
  · simp only [Bool.and_eq_true] at h
    exact symB_size h.2
  · simp only [Bool.and_eq_true, decide_eq_true_eq] at h
    rw [h.2]; decide
theorem checkF_len {ts : List Term} (h : checkF ts = 0) : ts.length ≤ 256 := by
  unfold checkF at h
  split at h
  · split at h <;> omega
  · omega
def textInv (ts : List Term) (i : Nat × List Pc) : Prop := i.1 ≤ ts.length ∧ Fine i.1 i.2 ∧ formF i.2.length (ts.drop i.1) = 0 ∧ textF numS i.2 (ts.drop i.1) = textF numS [] ts
def textR (ts : List Term) : AV := .tup [.l (.v (.string (textAll numS ts).1)), .l (.v (.int .i64 (textAll numS ts).2))]

set_option maxHeartbeats 8000000 in
theorem text_sw (ts : List Term) (hob : ts.length ≤ maxLen ∧ ∀ t ∈ ts, t.sym.size ≤ maxLen) (h64 : ∀ t ∈ ts, -9223372036854775808 ≤ t.n ∧ t.n ≤ 9223372036854775807) :
    SW Tryd.prog ⟨none, 0⟩ Tryd.f37.ntmps (Tryd.f37.body.getD .skip) ⟨0, zipT 0 [(tSl 3 termR).enc ts], []⟩ (outQ Tryd.prog Tryd.f37.results.toList (.ret (textR ts))) := by
  refine aRun_sound (ctx := [⟨_, checkS⟩]) 4000 ?_
  rw [Tryd.ntmps37, Tryd.results37]
  simp only [Tryd.f37, Option.getD_some, zipT]
  by_cases hc : checkF ts = 0
  case neg =>
    have e : textR ts = .tup [.l (.v (.string emp)), .l (.v (.int .i64 (checkF ts)))] := by unfold textR textAll; rw [if_neg hc]
    simp only [go_sem, Nat.reduceOr, Nat.reducePow, Nat.reduceDiv, Nat.reduceMod, Nat.reduceBEq, Int.reduceBEq, Int.reduceBNe, Int.reduceEq, Int.reduceLT, Int.reduceLE, Int.reduceToNat, reduceIte, reduceCtorEq, Nat.reduceEqDiff, Nat.reduceAdd, Nat.reduceLT, Nat.reduceLeDiff, Nat.reduceMul, Nat.reduceSub, check_run, check_pan, decAllD_map, hob, hc, e, lit_emp]
    exact hob.2
  have hlen := checkF_len hc
  have hform := checkF_form hc
  simp only [go_sem, Nat.reduceOr, Nat.reducePow, Nat.reduceDiv, Nat.reduceMod, Nat.reduceBEq, Int.reduceBEq, Int.reduceBNe, Int.reduceEq, Int.reduceLT, Int.reduceLE, Int.reduceToNat, reduceIte, reduceCtorEq, Nat.reduceEqDiff, Nat.reduceAdd, Nat.reduceLT, Nat.reduceLeDiff, Nat.reduceMul, Nat.reduceSub, check_run, check_pan, decAllD_map, hob, hc]
  refine ⟨hob.2, ?_⟩
  refine sw_loop (ι := Nat × List Pc) (textInv ts) (fun i => ⟨1, [(16, (tSl 3 termR).enc ts), (17, iv ts.length), (18, iv i.1), (5, .s (.l (.sl 0 0 i.2.length)))], [(0, some (pieceK i.2))]⟩) (fun i => ts.length - i.1) (0, []) ⟨Nat.zero_le _, ⟨Nat.le_refl _, Nat.le_refl _, by simp⟩, by simpa using hform, by simp⟩ ?_ ?_
  · exact (Wk.nil 5 105 2 rfl).trans (Wk.renL [176] (by simp) (by simp) (by simp) rfl rfl)
  rintro ⟨k, st⟩ ⟨hk, hf, hform, htext⟩
  simp only at hk hf hform htext
  refine aRun_sound (ctx := [⟨_, takesS⟩, ⟨_, numberS⟩, ⟨_, sgnS⟩]) 4000 ?_
  by_cases hlt : k < ts.length
  · obtain ⟨t, ht⟩ : ∃ t, ts[k]? = some t := ⟨_, List.getElem?_eq_getElem hlt⟩
    have hltI : (k : Int) < ts.length := by omega
    have hzn := h64 t (List.mem_of_getElem? ht)
    have hd : ts.drop k = t :: ts.drop (k + 1) := by rw [List.drop_eq_getElem_cons hlt]; congr 1; rw [List.getElem?_eq_getElem hlt] at ht; injection ht
    rw [hd] at hform htext
    obtain ⟨htm, hle, hform'⟩ := formF_cons hform
    have ek : IntKind.i64.wrap ((k : Int) + 1) = ((k + 1 : Nat) : Int) := by rw [IntKind.wrap_i64]; omega
    have hroom := hf.room
    have hstl := hf.len
    have hm : st.length + 1 ≤ maxLen := by unfold maxLen; omega
    have hb : (st.length + 1) * 24 ≤ 140737488355328 := by omega
    have fin : ∀ s2 : List Pc, s2 = stepP numS st t → Fine (k + 1) s2 → (s2.length : Int) = st.length + (1 - takesF t.kind) → textInv ts (k + 1, s2) := by
      intro s2 e hfn hln
      subst e
      exact ⟨by simp only; omega, hfn, by simp only; rw [hln]; exact hform', htext⟩
    by_cases h1 : t.kind = 1
    · have htk : takesF t.kind = 0 := by rw [h1]; rfl
      have hst : st ++ [⟨numS t.n, 0⟩] = stepP numS st t := by simp [stepP, h1, takesF, leafF]
      have hfn : Fine (k + 1) (st ++ [⟨numS t.n, 0⟩]) := hf.leaf (by have := numS_size t.n; omega)
      have hsn := piece_snoc st ⟨numS t.n, 0⟩
      simp only at hsn
      simp only [go_sem, Nat.reduceOr, Nat.reducePow, Nat.reduceDiv, Nat.reduceMod, Nat.reduceBEq, Int.reduceBEq, Int.reduceBNe, Int.reduceEq, Int.reduceLT, Int.reduceLE, Int.reduceToNat, reduceIte, reduceCtorEq, Nat.reduceEqDiff, Nat.reduceAdd, Nat.reduceLT, Nat.reduceLeDiff, Nat.reduceMul, Nat.reduceSub, hltI, ht, termE, eq_true h1, takes_run, takes_pan, number_run, number_pan, hzn, pieceK, hm, hb, hsn, ek]
      exact ⟨(k + 1, st ++ [⟨numS t.n, 0⟩]), fin _ hst hfn (by rw [htk]; simp), by simp only; omega, Wk.renL [481] (by simp) (by simp) (by simp) (by simp [tget, AV.ren, SV.ren, LV.ren]) (by simp only [hget, List.map_cons, List.map_nil, Option.map_some, Blk.ren, rows_ren]; rfl)⟩
    rcases takes_kind (k := t.kind) with htk | ⟨htk, hk1, hk2⟩ | ⟨htk, hk1, hk2⟩
    · have hst : st ++ [⟨t.sym, 0⟩] = stepP numS st t := by simp [stepP, h1, htk, leafF]
      have hfn : Fine (k + 1) (st ++ [⟨t.sym, 0⟩]) := hf.leaf (by have := termB_sym htm h1; omega)
      have hsn := piece_snoc st ⟨t.sym, 0⟩
      simp only at hsn
      simp only [go_sem, Nat.reduceOr, Nat.reducePow, Nat.reduceDiv, Nat.reduceMod, Nat.reduceBEq, Int.reduceBEq, Int.reduceBNe, Int.reduceEq, Int.reduceLT, Int.reduceLE, Int.reduceToNat, reduceIte, reduceCtorEq, Nat.reduceEqDiff, Nat.reduceAdd, Nat.reduceLT, Nat.reduceLeDiff, Nat.reduceMul, Nat.reduceSub, hltI, ht, termE, h1, takes_run, takes_pan, htk, pieceK, hm, hb, hsn, ek]
      exact ⟨(k + 1, st ++ [⟨t.sym, 0⟩]), fin _ hst hfn (by rw [htk]; simp), by simp only; omega, Wk.renL [497] (by simp) (by simp) (by simp) (by simp [tget, AV.ren, SV.ren, LV.ren]) (by simp only [hget, List.map_cons, List.map_nil, Option.map_some, Blk.ren, rows_ren]; rfl)⟩
    · obtain ⟨us, y, rfl⟩ : ∃ us y, st = us ++ [y] := by
        rcases List.eq_nil_or_concat st with rfl | ⟨us, y, rfl⟩
        · simp [htk] at hle
        · exact ⟨us, y, by simp⟩
      have hst : us ++ [unF t.kind y] = stepP numS (us ++ [y]) t := by simp [stepP, htk]
      have hfn : Fine (k + 1) (us ++ [unF t.kind y]) := hf.un _
      have hyl := hf.last
      have hL : (us ++ [y]).length = us.length + 1 := by simp
      have hus : us.length + 1 ≤ 256 := by omega
      have g1 : (us ++ [y])[us.length]? = some y := by simp
      have g2 : List.take us.length (List.map ofDs (List.map pieceR.enc (us ++ [y]))) = List.map ofDs (List.map pieceR.enc us) := by simp
      have g3 : IntKind.i64.wrap (((us.length + 1 : Nat) : Int) - 1) = (us.length : Int) := by rw [IntKind.wrap_i64]; omega
      have hsg := signF_size t.kind
      have hk' : 3 ≤ t.kind ∧ t.kind ≤ 14 := by omega
      simp only [go_sem, Nat.reduceOr, Nat.reducePow, Nat.reduceDiv, Nat.reduceMod, Nat.reduceBEq, Int.reduceBEq, Int.reduceBNe, Int.reduceEq, Int.reduceLT, Int.reduceLE, Int.reduceToNat, reduceIte, reduceCtorEq, Nat.reduceEqDiff, Nat.reduceAdd, Nat.reduceLT, Nat.reduceLeDiff, Nat.reduceMul, Nat.reduceSub, hltI, ht, termE, h1, takes_run, takes_pan, htk, pieceK, hL, g3]
      refine sw_draw (ctx := [⟨_, sgnS⟩]) mixed [18] (by kernel_rfl) ?_
      have hsn := piece_snoc us (unF t.kind y)
      have e4 : IntKind.i64.wrap (y.d + 1) = y.d + 1 := by rw [IntKind.wrap_i64]; omega
      simp only [unF] at hsn
      have hm2 : us.length + 1 ≤ maxLen := by unfold maxLen; omega
      have hb2 : (us.length + 1) * 24 ≤ 140737488355328 := by omega
      have hl1 : (us.length : Int) < ((us.length + 1 : Nat) : Int) := by omega
      have hl2 : (us.length : Int) ≤ ((us.length + 1 : Nat) : Int) := by omega
      have hl3 : us.length ≤ us.length + 1 := by omega
      have mx : (10000000 : Nat) ≤ maxLen := by unfold maxLen; omega
      simp only [go_sem, Nat.reduceOr, Nat.reducePow, Nat.reduceDiv, Nat.reduceMod, Nat.reduceBEq, Int.reduceBEq, Int.reduceBNe, Int.reduceEq, Int.reduceLT, Int.reduceLE, Int.reduceToNat, reduceIte, reduceCtorEq, Nat.reduceEqDiff, Nat.reduceAdd, Nat.reduceLT, Nat.reduceLeDiff, Nat.reduceMul, Nat.reduceSub, sgn_run, sgn_pan, hk', g1, pieceE, e4, g2, ek, hl1, hl2, hm2, hb2, hsn, Nat.sub_zero, hL, hl3]
      exact ⟨by omega, by omega, by omega, (k + 1, us ++ [unF t.kind y]), fin _ hst hfn (by rw [htk, hL]; simp), by simp only; omega, Wk.renL [817] (by simp) (by simp) (by simp) (by simp [tget, AV.ren, SV.ren, LV.ren]) (by simp only [hget, List.map_cons, List.map_nil, Option.map_some, Blk.ren, rows_ren]; rfl)⟩
    · obtain ⟨us, x, y, rfl⟩ : ∃ us x y, st = us ++ [x, y] := by
        rcases List.eq_nil_or_concat st with rfl | ⟨us, z, rfl⟩
        · simp [htk] at hle
        · rcases List.eq_nil_or_concat us with rfl | ⟨us, y, rfl⟩
          · simp [htk] at hle
          · exact ⟨us, y, z, by simp⟩
      have hst : us ++ [biF t.kind x y] = stepP numS (us ++ [x, y]) t := by simp [stepP, htk]
      have hfn : Fine (k + 1) (us ++ [biF t.kind x y]) := hf.bi _
      have hyl := hf.room
      have hxd := hf.dep x (by simp)
      have hyd := hf.dep y (by simp)
      rw [room_append] at hyl
      simp only [room, List.map_cons, List.map_nil, List.sum_cons, List.sum_nil] at hyl
      have hL : (us ++ [x, y]).length = us.length + 2 := by simp
      have hus : us.length + 2 ≤ 256 := by omega
      have g0 : (us ++ [x, y])[us.length]? = some x := by simp
      have g1 : (us ++ [x, y])[us.length + 1]? = some y := by simp
      have g2 : List.take us.length (List.map ofDs (List.map pieceR.enc (us ++ [x, y]))) = List.map ofDs (List.map pieceR.enc us) := by simp
      have g3 : IntKind.i64.wrap (((us.length + 2 : Nat) : Int) - 1) = ((us.length + 1 : Nat) : Int) := by rw [IntKind.wrap_i64]; omega
      have g4 : IntKind.i64.wrap (((us.length + 1 : Nat) : Int) - 1) = (us.length : Int) := by rw [IntKind.wrap_i64]; omega
      have hsg := signF_size t.kind
      have hk' : 3 ≤ t.kind ∧ t.kind ≤ 14 := by omega
      simp only [go_sem, Nat.reduceOr, Nat.reducePow, Nat.reduceDiv, Nat.reduceMod, Nat.reduceBEq, Int.reduceBEq, Int.reduceBNe, Int.reduceEq, Int.reduceLT, Int.reduceLE, Int.reduceToNat, reduceIte, reduceCtorEq, Nat.reduceEqDiff, Nat.reduceAdd, Nat.reduceLT, Nat.reduceLeDiff, Nat.reduceMul, Nat.reduceSub, hltI, ht, termE, h1, takes_run, takes_pan, htk, pieceK, hL, g3]
      refine sw_draw (ctx := [⟨_, sgnS⟩]) mixed [32] (by kernel_rfl) ?_
      have hsn := piece_snoc us (biF t.kind x y)
      have e4 : IntKind.i64.wrap ((if x.d < y.d then y.d else x.d) + 1) = max x.d y.d + 1 := by
        rw [show (if x.d < y.d then y.d else x.d) = max x.d y.d by split <;> omega, IntKind.wrap_i64]; omega
      simp only [biF] at hsn
      have hm2 : us.length + 1 ≤ maxLen := by unfold maxLen; omega
      have hb2 : (us.length + 1) * 24 ≤ 140737488355328 := by omega
      have hl0 : (us.length : Int) < ((us.length + 2 : Nat) : Int) := by omega
      have hl1 : ((us.length + 1 : Nat) : Int) < ((us.length + 2 : Nat) : Int) := by omega
      have hl2 : (us.length : Int) ≤ ((us.length + 2 : Nat) : Int) := by omega
      have hl3 : us.length ≤ us.length + 2 := by omega
      have mx : (10000000 : Nat) ≤ maxLen := by unfold maxLen; omega
      simp only [go_sem, Nat.reduceOr, Nat.reducePow, Nat.reduceDiv, Nat.reduceMod, Nat.reduceBEq, Int.reduceBEq, Int.reduceBNe, Int.reduceEq, Int.reduceLT, Int.reduceLE, Int.reduceToNat, reduceIte, reduceCtorEq, Nat.reduceEqDiff, Nat.reduceAdd, Nat.reduceLT, Nat.reduceLeDiff, Nat.reduceMul, Nat.reduceSub, sgn_run, sgn_pan, hk', g0, g1, g4, pieceE, e4, g2, ek, hl0, hl1, hl2, hm2, hb2, hsn, Nat.sub_zero, hL, hl3]
      exact ⟨by omega, by omega, by omega, by omega, (k + 1, us ++ [biF t.kind x y]), fin _ hst hfn (by rw [htk, hL]; simp; omega), by simp only; omega, Wk.renL [1105] (by simp) (by simp) (by simp) (by simp [tget, AV.ren, SV.ren, LV.ren]) (by simp only [hget, List.map_cons, List.map_nil, Option.map_some, Blk.ren, rows_ren]; rfl)⟩
  · have hltI : ¬ (k : Int) < ts.length := by omega
    rw [List.drop_eq_nil_of_le (by omega)] at hform htext
    obtain ⟨y, rfl⟩ : ∃ y, st = [y] := by
      have := formF_one hform
      match st, (by omega : st.length = 1) with
      | [y], _ => exact ⟨y, rfl⟩
    have htx : textF numS [] ts = [y] := htext.symm
    by_cases h64 : 64 < y.d
    · have e : textR ts = .tup [.l (.v (.string emp)), .l (.v (.int .i64 93))] := by unfold textR textAll; rw [if_pos hc, htx, if_pos (show 64 < ([y].getD 0 zeroP).d from h64)]
      simp only [go_sem, Nat.reduceOr, Nat.reducePow, Nat.reduceDiv, Nat.reduceMod, Nat.reduceBEq, Int.reduceBEq, Int.reduceBNe, Int.reduceEq, Int.reduceLT, Int.reduceLE, Int.reduceToNat, reduceIte, reduceCtorEq, Nat.reduceEqDiff, Nat.reduceAdd, Nat.reduceLT, Nat.reduceLeDiff, Nat.reduceMul, Nat.reduceSub, hltI, pieceK, pieceE, h64, e, lit_emp]
    · have e : textR ts = .tup [.l (.v (.string y.s)), .l (.v (.int .i64 0))] := by unfold textR textAll; rw [if_pos hc, htx, if_neg (show ¬ 64 < ([y].getD 0 zeroP).d from h64)]; rfl
      simp only [go_sem, Nat.reduceOr, Nat.reducePow, Nat.reduceDiv, Nat.reduceMod, Nat.reduceBEq, Int.reduceBEq, Int.reduceBNe, Int.reduceEq, Int.reduceLT, Int.reduceLE, Int.reduceToNat, reduceIte, reduceCtorEq, Nat.reduceEqDiff, Nat.reduceAdd, Nat.reduceLT, Nat.reduceLeDiff, Nat.reduceMul, Nat.reduceSub, hltI, pieceK, pieceE, h64, e]
theorem en_text (args : Array Value) (w : World) : (callFunc 37 args).run Tryd.prog w = .ok (.enter 37 args) w := by go_simp
def textS : Spec Tryd.prog 37 :=
  mk1 _ _ _ Tryd.func37 rfl en_text (tSl 3 termR) ((fun ts => (ts.length ≤ maxLen ∧ ∀ t ∈ ts, t.sym.size ≤ maxLen) ∧ ∀ t ∈ ts, -9223372036854775808 ≤ t.n ∧ t.n ≤ 9223372036854775807)) ((fun ts => .ret (textR ts))) (by rw [Tryd.ntmps37]; decide) (fun ts h => text_sw ts h.1 h.2)
theorem text_run {id : Nat} {h : Heap} {args : List AV} : (textS).run id h args = runP (args1 (tSl 3 termR) ((fun ts => (ts.length ≤ maxLen ∧ ∀ t ∈ ts, t.sym.size ≤ maxLen) ∧ ∀ t ∈ ts, -9223372036854775808 ≤ t.n ∧ t.n ≤ 9223372036854775807))) ((fun ts => .ret (textR ts))) h args := rfl
theorem text_pan {id : Nat} {h : Heap} {args : List AV} : (textS).pan id h args = panP (args1 (tSl 3 termR) ((fun ts => (ts.length ≤ maxLen ∧ ∀ t ∈ ts, t.sym.size ≤ maxLen) ∧ ∀ t ∈ ts, -9223372036854775808 ≤ t.n ∧ t.n ≤ 9223372036854775807))) ((fun ts => .ret (textR ts))) h args := rfl

end Go.Proofs.YtcdbldakjepjiaaDoor.Ex
