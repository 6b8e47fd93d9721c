/- Instructions: fields; an instruction without what its class does not use. Instructions: which there are, of some classes. -/
import Derived.Test.YtpjlafmhoifkmaaGreatKA
import Derived.Test.YtpjlafmhoifkmaaGreatKb
import Derived.Test.YtpjlafmhoifkmaaGreatKc
set_option linter.unusedVariables false
set_option linter.unusedSimpArgs false
namespace Go.Proofs.YtpjlafmhoifkmaaGreat
open Go.RowKit
set_option maxRecDepth 100000

abbrev tLims : Ty (List Lim) := tSl 3 limR
def insA (x : Ins) : AV := .s (.agg (insE x))
def insK (x : Ins) : Blk := ⟨true, 27, 10, [insE x]⟩
def fq (f : Int) : Prop := f = 1 ∨ f = 2 ∨ f = 3 ∨ f = 4 ∨ f = 5 ∨ f = 6 ∨ f = 7 ∨ f = 8 ∨ f = 9

theorem en_truth (args : Array Value) (w : World) : (callFunc 158 args).run Tryz.prog w = .ok (.enter 158 args) w := by go_simp
def truthS : Spec Tryz.prog 158 :=
  mk1 _ _ _ Tryz.func158 rfl en_truth (tBool) ((fun _ => True)) ((fun q => .ret (iv (flagN q)))) (by rw [Tryz.ntmps158]; decide) (fun q _ => by
  refine aRun_sound (ctx := []) 4000 ?_
  rw [Tryz.ntmps158, Tryz.results158]
  simp only [Tryz.f158, Option.getD_some, zipT]
  cases q <;> simp only [go_sem, flagN])
theorem truth_run {id : Nat} {h : Heap} {args : List AV} : (truthS).run id h args = runP (args1 (tBool) ((fun _ => True))) ((fun q => .ret (iv (flagN q)))) h args := rfl
theorem truth_pan {id : Nat} {h : Heap} {args : List AV} : (truthS).pan id h args = panP (args1 (tBool) ((fun _ => True))) ((fun q => .ret (iv (flagN q)))) h args := rfl
theorem sub1 : IntKind.i64.wrap (1 - 1) = 0 := by decide
theorem sub2 : IntKind.i64.wrap (2 - 1) = 1 := by decide
theorem sub3 : IntKind.i64.wrap (3 - 1) = 2 := by decide
theorem sub4 : IntKind.i64.wrap (4 - 1) = 3 := by decide
theorem sub5 : IntKind.i64.wrap (5 - 1) = 4 := by decide
theorem sub6 : IntKind.i64.wrap (6 - 1) = 5 := by decide
theorem sub7 : IntKind.i64.wrap (7 - 1) = 6 := by decide
theorem sub8 : IntKind.i64.wrap (8 - 1) = 7 := by decide
theorem sub9 : IntKind.i64.wrap (9 - 1) = 8 := by decide
theorem getF1 (x : Ins) : getF x 1 = flagN x.x := rfl
theorem getF2 (x : Ins) : getF x 2 = flagN x.s := rfl
theorem getF3 (x : Ins) : getF x 3 = x.rd := rfl
theorem getF4 (x : Ins) : getF x 4 = x.rn := rfl
theorem getF5 (x : Ins) : getF x 5 = x.rm := rfl
theorem getF6 (x : Ins) : getF x 6 = x.ra := rfl
theorem getF7 (x : Ins) : getF x 7 = x.a := rfl
theorem getF8 (x : Ins) : getF x 8 = x.b := rfl
theorem getF9 (x : Ins) : getF x 9 = x.c := rfl
theorem setF1 (x : Ins) (v : Int) : setF x 1 v = { x with x := decide (v = 1) } := rfl
theorem setF2 (x : Ins) (v : Int) : setF x 2 v = { x with s := decide (v = 1) } := rfl
theorem setF3 (x : Ins) (v : Int) : setF x 3 v = { x with rd := v } := rfl
theorem setF4 (x : Ins) (v : Int) : setF x 4 v = { x with rn := v } := rfl
theorem setF5 (x : Ins) (v : Int) : setF x 5 v = { x with rm := v } := rfl
theorem setF6 (x : Ins) (v : Int) : setF x 6 v = { x with ra := v } := rfl
theorem setF7 (x : Ins) (v : Int) : setF x 7 v = { x with a := v } := rfl
theorem setF8 (x : Ins) (v : Int) : setF x 8 v = { x with b := v } := rfl
theorem setF9 (x : Ins) (v : Int) : setF x 9 v = { x with c := v } := rfl
def getO (n : Int) : AV := .tup [.l (.v (.int .i64 n)), .l (.v (.int .i64 0))]
set_option maxHeartbeats 4000000 in
theorem en_get (args : Array Value) (w : World) : (callFunc 96 args).run Tryz.prog w = .ok (.enter 96 args) w := by go_simp
def getS : Spec Tryz.prog 96 :=
  mk2 _ _ _ Tryz.func96 rfl en_get (tAgg insR) (tInt .i64) ((fun _ f => fq f)) ((fun x f => .ret (getO (getF x f)))) (by rw [Tryz.ntmps96]; decide) (fun x f h => by
  refine aRun_sound (ctx := []) 4000 ?_
  rw [Tryz.ntmps96, Tryz.results96]
  simp only [Tryz.f96, Option.getD_some, zipT]
  simp only [go_sem, insR]
  refine sw_draw (ctx := [⟨_, truthS⟩]) mixed [20] (by kernel_rfl) ?_
  rcases h with rfl | rfl | rfl | rfl | rfl | rfl | rfl | rfl | rfl
  all_goals simp only [go_sem, truth_run, truth_pan, getO, sub1, sub2, sub3, sub4, sub5, sub6, sub7, sub8, sub9, getF1, getF2, getF3, getF4, getF5, getF6, getF7, getF8, getF9])
theorem get_run {id : Nat} {h : Heap} {args : List AV} : (getS).run id h args = runP (args2 (tAgg insR) (tInt .i64) ((fun _ f => fq f))) (fun x => ((fun x f => .ret (getO (getF x f)))) x.1 x.2) h args := rfl
theorem get_pan {id : Nat} {h : Heap} {args : List AV} : (getS).pan id h args = panP (args2 (tAgg insR) (tInt .i64) ((fun _ f => fq f))) (fun x => ((fun x f => .ret (getO (getF x f)))) x.1 x.2) h args := rfl
theorem eqb1 (v : Int) : (v == 1) = decide (v = 1) := by by_cases h : v = 1 <;> simp [h]
set_option maxHeartbeats 4000000 in
theorem en_set (args : Array Value) (w : World) : (callFunc 160 args).run Tryz.prog w = .ok (.enter 160 args) w := by go_simp
def setS : Spec Tryz.prog 160 :=
  mk3 _ _ _ Tryz.func160 rfl en_set (tAgg insR) (tInt .i64) (tInt .i64) ((fun _ f _ => fq f)) ((fun x f v => .ret (insA (setF x f v)))) (by rw [Tryz.ntmps160]; decide) (fun x f v h => by
  refine aRun_sound (ctx := []) 4000 ?_
  rw [Tryz.ntmps160, Tryz.results160]
  simp only [Tryz.f160, Option.getD_some, zipT]
  rcases h with rfl | rfl | rfl | rfl | rfl | rfl | rfl | rfl | rfl
  all_goals simp only [go_sem, insR, insA, insE, eqb1, setF1, setF2, setF3, setF4, setF5, setF6, setF7, setF8, setF9])
theorem set_run {id : Nat} {h : Heap} {args : List AV} : (setS).run id h args = runP (args3 (tAgg insR) (tInt .i64) (tInt .i64) ((fun _ f _ => fq f))) (fun x => ((fun x f v => .ret (insA (setF x f v)))) x.1 x.2.1 x.2.2) h args := rfl
theorem set_pan {id : Nat} {h : Heap} {args : List AV} : (setS).pan id h args = panP (args3 (tAgg insR) (tInt .i64) (tInt .i64) ((fun _ f _ => fq f))) (fun x => ((fun x f v => .ret (insA (setF x f v)))) x.1 x.2.1 x.2.2) h args := rfl

/-! ### The limits one by one -/
def lrow (f : Lim) : List AV := [limV f]
def rowsD (l : List Lim) : D := .sd 3 (l.map limR.enc)
def decVals : List D → Option (Prop × List (List AV))
  | [.pd [.sd 3 els]] => match decAllD limR.dec els with
    | some ts => some (ts.length ≤ 1000, ts.map lrow)
    | none => none
  | _ => none
set_option maxHeartbeats 2000000 in
theorem vals1_sw (l : Nat) (ts : List Lim) (hz : ts.length ≤ 1000) : SWy Tryz.prog l (ts.map lrow) ⟨none, 0⟩ Tryz.f192.ntmps (Tryz.f192.body.getD .skip) ⟨0, zipT 0 [yieldV l, .s (.l (.d (.pd [rowsD ts])))], []⟩ (0, true) (itQ (ts.map lrow)) := by
  refine yRun_sound (ctx := []) 4000 ?_
  rw [Tryz.ntmps192]
  simp only [Tryz.f192, Option.getD_some, zipT]
  simp only [go_sem, yieldV, rowsD]
  refine swy_loop (ι := Nat) (fun i => i ≤ ts.length) (fun i => ⟨0, [(0, yieldV l), (5, tLims.enc ts), (6, iv ts.length), (7, iv i)], []⟩) (fun i => (i, true)) (fun i => ts.length - i) 0 (Nat.zero_le _) rfl (fun i _ b k hk => by cases hk) (Wk.renL [] (by simp) (by simp) (by simp) rfl rfl) ?_
  intro i hi
  refine yRun_sound (ctx := []) 4000 ?_
  rcases Nat.lt_or_ge i ts.length with hlt | hge
  · have hltI : (i : Int) < ts.length := by omega
    obtain ⟨t, ht⟩ : ∃ t, ts[i]? = some t := ⟨_, List.getElem?_eq_getElem hlt⟩
    have ei : IntKind.i64.wrap ((i : Int) + 1) = ((i + 1 : Nat) : Int) := by rw [IntKind.wrap_i64]; omega
    simp only [go_sem, yieldV, hltI, ht, limR, ei]
    exact ⟨rfl, i + 1, by omega, by omega, rfl, Wk.renL [] (by simp) (by simp) (by simp) rfl rfl⟩
  · obtain rfl : i = ts.length := by omega
    have hI : ¬ (ts.length : Int) < ts.length := by omega
    simp only [go_sem, yieldV, hI]
theorem en_vals1 (args : Array Value) (w : World) : (callFunc 192 args).run Tryz.prog w = .ok (.enter 192 args) w := by go_simp
noncomputable def valsIt : It Tryz.prog 192 :=
  mkIt _ _ _ Tryz.func192 rfl rfl en_vals1 decVals (by
    intro ds q L hd hq l
    unfold decVals at hd
    split at hd
    case h_2 => cases hd
    rename_i els
    split at hd
    case h_2 => cases hd
    rename_i ts hts
    injection hd with hd
    injection hd with h1 hd
    subst h1
    subst hd
    have he := decAllD_inv limR hts
    subst he
    exact ⟨by rw [Tryz.ntmps192]; show 1 + 1 ≤ 16; decide, vals1_sw l ts hq⟩)
theorem vals_dec {ts : List Lim} : valsIt.dec [.pd [rowsD ts]] = some (ts.length ≤ 1000, ts.map lrow) := by
  have e : valsIt.dec = decVals := rfl
  rw [e]
  unfold decVals rowsD
  simp only [decAllD_map]
theorem en_vals (args : Array Value) (w : World) : (callFunc 181 args).run Tryz.prog w = .ok (.enter 181 args) w := by go_simp
def valsS : Spec Tryz.prog 181 :=
  mk1 _ _ _ Tryz.func181 rfl en_vals (tLims) ((fun _ => True)) ((fun l => .ret (.fn 192 [] [.d (.pd [rowsD l])]))) (by rw [Tryz.ntmps181]; decide) (fun l _ => by
  refine aRun_sound (ctx := []) 4000 ?_
  rw [Tryz.ntmps181, Tryz.results181]
  simp only [Tryz.f181, Option.getD_some, zipT]
  simp only [go_sem, rowsD])
theorem vals_run {id : Nat} {h : Heap} {args : List AV} : (valsS).run id h args = runP (args1 (tLims) ((fun _ => True))) ((fun l => .ret (.fn 192 [] [.d (.pd [rowsD l])]))) h args := rfl
theorem vals_pan {id : Nat} {h : Heap} {args : List AV} : (valsS).pan id h args = panP (args1 (tLims) ((fun _ => True))) ((fun l => .ret (.fn 192 [] [.d (.pd [rowsD l])]))) h args := rfl
theorem en_limitsI (args : Array Value) (w : World) : (callFunc 159 args).run Tryz.prog w = .ok (.enter 159 args) w := by go_simp
def limitsIS : Spec Tryz.prog 159 :=
  mk1 _ _ _ Tryz.func159 rfl en_limitsI (tInt .i64) (opQ) ((fun op => .ret (.fn 192 [] [.d (.pd [rowsD (limitsF op)])]))) (by rw [Tryz.ntmps159]; decide) (fun op h => by
  refine aRun_sound (ctx := [⟨_, limitsS⟩, ⟨_, valsS⟩]) 4000 ?_
  rw [Tryz.ntmps159, Tryz.results159]
  simp only [Tryz.f159, Option.getD_some, zipT]
  have e : limsO op = limsV (limitsF op) := by unfold limsO; exact if_pos h
  simp only [go_sem, limits_run, limits_pan, e, limsV, vals_run, vals_pan, rowsD])
theorem limitsI_run {id : Nat} {h : Heap} {args : List AV} : (limitsIS).run id h args = runP (args1 (tInt .i64) (opQ)) ((fun op => .ret (.fn 192 [] [.d (.pd [rowsD (limitsF op)])]))) h args := rfl
theorem limitsI_pan {id : Nat} {h : Heap} {args : List AV} : (limitsIS).pan id h args = panP (args1 (tInt .i64) (opQ)) ((fun op => .ret (.fn 192 [] [.d (.pd [rowsD (limitsF op)])]))) h args := rfl

end Go.Proofs.YtpjlafmhoifkmaaGreat

namespace Go.Proofs.YtpjlafmhoifkmaaGreat
open Go.RowKit
set_option maxRecDepth 100000

theorem op_cases {op : Int} (h : opQ op) : op = 1 ∨ op = 2 ∨ op = 3 ∨ op = 4 ∨ op = 5 ∨ op = 6 ∨ op = 7 ∨ op = 8 ∨ op = 9 ∨ op = 10 ∨ op = 11 ∨ op = 12 ∨ op = 13 ∨ op = 14 ∨ op = 15 ∨ op = 16 ∨ op = 17 ∨ op = 18 ∨ op = 19 ∨ op = 20 ∨ op = 21 ∨ op = 22 ∨ op = 23 ∨ op = 24 ∨ op = 25 ∨ op = 26 ∨ op = 27 ∨ op = 28 ∨ op = 29 ∨ op = 30 ∨ op = 31 ∨ op = 32 := by
  unfold opQ at h
  omega
theorem lims_ok {op : Int} (h : opQ op) : ∀ f ∈ limitsF op, fq f.1 := by
  rcases op_cases h with rfl | rfl | rfl | rfl | rfl | rfl | rfl | rfl | rfl | rfl | rfl | rfl | rfl | rfl | rfl | rfl | rfl | rfl | rfl | rfl | rfl | rfl | rfl | rfl | rfl | rfl | rfl | rfl | rfl | rfl | rfl | rfl <;> (unfold fq; decide)
theorem lims_len {op : Int} (h : opQ op) : (limitsF op).length ≤ 10 ∧ (limitsF op).isEmpty = false := by
  rcases op_cases h with rfl | rfl | rfl | rfl | rfl | rfl | rfl | rfl | rfl | rfl | rfl | rfl | rfl | rfl | rfl | rfl | rfl | rfl | rfl | rfl | rfl | rfl | rfl | rfl | rfl | rfl | rfl | rfl | rfl | rfl | rfl | rfl <;> decide
theorem lims_no {op : Int} (h : ¬ opQ op) : limitsF op = [] := by
  unfold opQ at h
  unfold limitsF
  split
  · obtain ⟨n, rfl⟩ := Int.eq_ofNat_of_zero_le (show 0 ≤ op by omega)
    have hn : 33 ≤ n := by omega
    obtain ⟨k, rfl⟩ : ∃ k, n = k + 33 := ⟨n - 33, by omega⟩
    rfl
  · rfl
def cellsA : List AV → List LV
  | [A] => (cellsOf A).getD []
  | _ => []
def cnT (op : Int) : Tmps := [(1, .s (.l (.p 0 0 0))), (2, .s (.l (.p 1 0 0))), (3, .s (.l (.p 2 0 0))), (12, .s (.l (.d (.fn 192 [] [.pd [rowsD (limitsF op)]]))))]
def cnH (x o : Ins) : Heap := [(0, some (insK x)), (1, some (insK (ins0 0))), (2, some (insK o))]
def cnE (x : Ins) (o : Ins) (As : List AV) : St := ⟨4, (4, .s (.l (.p 3 0 0))) :: putPs ([13].zip As) (cnT x.op), (3, some ⟨true, 75, 3, [cellsA As]⟩) :: cnH x o⟩
theorem cleanL_snoc {x : Ins} {l : List Lim} {i : Nat} {f : Lim} (h : l[i]? = some f) (o : Ins) : cleanL x (l.take (i + 1)) o = setF (cleanL x (l.take i) o) f.1 (getF x f.1) := by
  rw [List.take_add_one, h]
  simp [cleanL]
set_option maxHeartbeats 4000000 in
theorem clean_sw (x : Ins) (h : opQ x.op) : SW Tryz.prog ⟨none, 0⟩ Tryz.f97.ntmps (Tryz.f97.body.getD .skip) ⟨0, zipT 0 [(tAgg insR).enc x], []⟩ (outQ Tryz.prog Tryz.f97.results.toList (.ret (insA (cleanF x)))) := by
  refine aRun_sound (ctx := [⟨_, limitsIS⟩]) 4000 ?_
  rw [Tryz.ntmps97, Tryz.results97]
  simp only [Tryz.f97, Option.getD_some, zipT]
  have nf : ∀ (Q : Exit → St → Prop), Q .normal ⟨3, cnT x.op, cnH x (cleanF x)⟩ → SW Tryz.prog ⟨none, 0⟩ 27 (rangeOf (Tryz.f97.body.getD .skip)) ⟨3, cnT x.op, cnH x (ins0 x.op)⟩ Q := by
    intro Q hdone
    refine sw_pin (K' := 3) (by decide) (fun j hj => ?_) ?_
    · have hj' : j = 0 ∨ j = 1 ∨ j = 2 := by omega
      rcases hj' with rfl | rfl | rfl <;> exact ⟨_, rfl⟩
    refine sw_rangeG (ι := Ins) (t := cnT x.op) (cnE x) (fun i o => o = cleanL x ((limitsF x.op).take i) (ins0 x.op)) (cnH x) (fun _ => 3) (fun _ _ => False) valsIt vals_dec (Nat.le_trans (lims_len h).1 (by decide)) rfl (fun o As hA => ?_) (by decide) (fun As hA => ?_) (tpin_of rfl) (fun i o _ => ownL_get rfl) (fun c s h => h.elim) (ins0 x.op) rfl (fun l i o As hinv hA => ?_) (fun o hinv => ?_) (fun c s h => h.elim)
    · obtain ⟨r, _, rfl⟩ := List.mem_map.1 hA
      exact asg_box (T := 75) (tb := 4) (tp := 13) rfl (by decide) (xs := limL r) rfl zero_75 sz_75 rfl
    · obtain ⟨r, _, rfl⟩ := List.mem_map.1 hA
      rfl
    · rw [List.getElem?_map, Option.map_eq_some_iff] at hA
      obtain ⟨f, hf, rfl⟩ := hA
      have hfq := lims_ok h f (List.mem_of_getElem? hf)
      have hnx := cleanL_snoc (x := x) hf (ins0 x.op)
      rw [← hinv] at hnx
      refine aRun_sound (ctx := [⟨_, getS⟩, ⟨_, setS⟩]) 4000 ?_
      simp only [go_sem, cnE, cnT, cnH, insK, insE, lrow, limV, limL, cellsA, putPs, List.zip_cons_cons, List.zip_nil_left, List.foldl_cons, List.foldl_nil, insR, get_run, get_pan, getO, set_run, set_pan, hfq, insA]
      rw [hnx]
      exact Wk.renL [0, 1, 2] (pinR 3) (Nat.le_refl 3) (by decide) rfl rfl
    · rw [List.length_map] at hinv
      rw [hinv, List.take_length]
      exact hdone
  have hwk : ∀ {nx t h}, Wk ⟨none, 0⟩ ⟨nx, (12, .s (.l (.d (.fn 192 [] [.pd [rowsD (limitsF x.op)]])))) :: t, h⟩ ⟨3, cnT x.op, cnH x (ins0 x.op)⟩ → tget t 12 = .fn 192 [] [.d (.pd [rowsD (limitsF x.op)])] → Wk ⟨none, 0⟩ ⟨nx, t, h⟩ ⟨3, cnT x.op, cnH x (ins0 x.op)⟩ := fun h1 h2 => (Wk.fnD (s := ⟨_, _, _⟩) 12 h2 rfl rfl).trans h1
  simp only [go_sem, insR, limitsI_run, limitsI_pan, h]
  refine SW.wk (nf _ ?_) (hwk (Wk.renL [0, 16, 80] (by simp) (Nat.le_refl 3) (by decide) rfl rfl) rfl)
  simp only [go_sem, cnT, cnH, insK, insA, insE]
theorem en_clean (args : Array Value) (w : World) : (callFunc 97 args).run Tryz.prog w = .ok (.enter 97 args) w := by go_simp
def cleanS : Spec Tryz.prog 97 :=
  mk1 _ _ _ Tryz.func97 rfl en_clean (tAgg insR) ((fun x => opQ x.op)) ((fun x => .ret (insA (cleanF x)))) (by rw [Tryz.ntmps97]; decide) (fun x h => clean_sw x h)
theorem clean_run {id : Nat} {h : Heap} {args : List AV} : (cleanS).run id h args = runP (args1 (tAgg insR) ((fun x => opQ x.op))) ((fun x => .ret (insA (cleanF x)))) h args := rfl
theorem clean_pan {id : Nat} {h : Heap} {args : List AV} : (cleanS).pan id h args = panP (args1 (tAgg insR) ((fun x => opQ x.op))) ((fun x => .ret (insA (cleanF x)))) h args := rfl

/-! ### Within their limits -/
theorem ins_dec (y x : Ins) : decide (y = x) = (decide (y.op = x.op) && (decide (y.x = x.x) && (decide (y.s = x.s) && (decide (y.rd = x.rd) && (decide (y.rn = x.rn) && (decide (y.rm = x.rm) && (decide (y.ra = x.ra) && (decide (y.a = x.a) && (decide (y.b = x.b) && decide (y.c = x.c)))))))))) := by
  obtain ⟨a1, a2, a3, a4, a5, a6, a7, a8, a9, a10⟩ := y
  obtain ⟨b1, b2, b3, b4, b5, b6, b7, b8, b9, b10⟩ := x
  rw [Bool.eq_iff_iff]
  simp only [Ins.mk.injEq, Bool.and_eq_true, decide_eq_true_eq]
theorem flat_ins : flatT Tryz.prog 27 = some [1, 2, 2, 1, 1, 1, 1, 1, 1, 1] := by kernel_rfl
def wiI (x : Ins) (l : List Lim) (i : Nat) : St := ⟨1, [(1, .s (.l (.p 0 0 0))), (3, tLims.enc l), (11, tLims.enc l), (12, iv l.length), (13, iv i)], [(0, some (insK x))]⟩
set_option maxHeartbeats 4000000 in
theorem within_sw0 (x : Ins) (h : opQ x.op) : SW Tryz.prog ⟨none, 0⟩ Tryz.f42.ntmps (Tryz.f42.body.getD .skip) ⟨0, zipT 0 [(tAgg insR).enc x], []⟩ (outQ Tryz.prog Tryz.f42.results.toList (.ret (bv (withinF x)))) := by
  refine aRun_sound (ctx := [⟨_, limitsS⟩]) 4000 ?_
  rw [Tryz.ntmps42, Tryz.results42]
  simp only [Tryz.f42, Option.getD_some, zipT]
  have hlen := lims_len h
  have hfq := lims_ok h
  have hlo : limsO x.op = limsV (limitsF x.op) := by unfold limsO; exact if_pos h
  simp only [go_sem, insR, limits_run, limits_pan, hlo, limsV]
  obtain ⟨l, hl⟩ : ∃ l, limitsF x.op = l := ⟨_, rfl⟩
  rw [hl] at hlen hfq ⊢
  refine sw_loop (ι := Nat) (fun i => i ≤ l.length ∧ ∀ j f, j < i → l[j]? = some f → inLim x f = true) (wiI x l) (fun i => l.length - i) 0 ⟨Nat.zero_le _, fun j f hj => absurd hj (Nat.not_lt_zero _)⟩ (Wk.renL [0] (by simp) (Nat.le_refl 1) (by decide) rfl rfl) ?_
  rintro i ⟨hi, hinv⟩
  refine aRun_sound (ctx := [⟨_, getS⟩]) 4000 ?_
  by_cases hlt : i < l.length
  · have hltI : (i : Int) < l.length := by omega
    obtain ⟨f, hf⟩ : ∃ f, l[i]? = some f := ⟨_, List.getElem?_eq_getElem hlt⟩
    have hq := hfq f (List.mem_of_getElem? hf)
    have ei : IntKind.i64.wrap ((i : Int) + 1) = ((i + 1 : Nat) : Int) := by rw [IntKind.wrap_i64]; omega
    obtain ⟨v, hv⟩ : ∃ v, getF x f.1 = v := ⟨_, rfl⟩
    have hbad : (v < f.2.1 ∨ f.2.2 < v) → withinF x = false := by
      intro hb
      have : inLim x f = false := by
        unfold inLim
        rw [hv, Bool.and_eq_false_iff]
        rcases hb with hb | hb
        · exact .inl (decide_eq_false (by omega))
        · exact .inr (decide_eq_false (by omega))
      have ha : (limitsF x.op).all (inLim x) = false := by
        rw [hl, List.all_eq_false]
        exact ⟨f, List.mem_of_getElem? hf, by rw [this]; simp⟩
      unfold withinF
      rw [ha]
      rfl
    by_cases h1 : v < f.2.1
    · have hw := hbad (.inl h1)
      simp only [go_sem, wiI, insK, insE, hltI, hf, limR, insR, get_run, get_pan, getO, hq, hv, h1, hw]
    · by_cases h2 : f.2.2 < v
      · have hw := hbad (.inr h2)
        simp only [go_sem, wiI, insK, insE, hltI, hf, limR, insR, get_run, get_pan, getO, hq, hv, h1, h2, hw]
      · have hgood : inLim x f = true := by
          unfold inLim
          rw [hv, Bool.and_eq_true]
          exact ⟨decide_eq_true (by omega), decide_eq_true (by omega)⟩
        simp only [go_sem, wiI, insK, insE, hltI, hf, limR, insR, get_run, get_pan, getO, hq, hv, h1, h2, ei]
        refine ⟨i + 1, ⟨by omega, fun j f' hj hj' => ?_⟩, by omega, Wk.renL [0] (by simp) (Nat.le_refl 1) (by decide) rfl rfl⟩
        by_cases e : j = i
        · subst e
          rw [hf] at hj'
          injection hj' with hj'
          rw [← hj']
          exact hgood
        · exact hinv j f' (by omega) hj'
  · obtain rfl : i = l.length := by omega
    have hltI : ¬ (l.length : Int) < l.length := by omega
    simp only [go_sem, wiI, insK, insE, hltI]
    refine sw_draw (ctx := [⟨_, cleanS⟩]) mixed [] (by kernel_rfl) ?_
    obtain ⟨y, hy⟩ : ∃ y, cleanF x = y := ⟨_, rfl⟩
    simp only [go_sem, insR, clean_run, clean_pan, h, insA, insE, hy, pure_flat_eql, orPure_eq, flatEq, flat_ins, eqKs]
    have hW : withinF x = decide (y = x) := by
      have ha : (limitsF x.op).all (inLim x) = true := by
        rw [hl, List.all_eq_true]
        intro f hf
        obtain ⟨j, hj, rfl⟩ := List.mem_iff_getElem.1 hf
        exact hinv j _ hj (List.getElem?_eq_getElem hj)
      unfold withinF
      rw [ha, hl, hlen.2, hy]
      simp
    rw [hW, ins_dec]
    refine ⟨fun e => ?_, rfl⟩
    have h0 : l = [] := by simpa using e
    have := hlen.2
    rw [h0] at this
    cases this
theorem pure_sl_nil {x : Operand} : pureV Tryz.prog (do eqGuard .neq 70 x (.const (.slice none 0 0)) (.slice none 0 0) (.slice none 0 0); binOp .neq 70 (.slice none 0 0) (.slice none 0 0)) = some (.bool false) := by
  refine pureV_eq fun w => ?_
  go_simp
def wiN (x : Ins) : St := ⟨1, [(1, .s (.l (.p 0 0 0))), (3, nilS), (11, nilS), (12, iv 0), (13, iv 0)], [(0, some (insK x))]⟩
set_option maxHeartbeats 2000000 in
theorem within_no (x : Ins) (h : ¬ opQ x.op) : SW Tryz.prog ⟨none, 0⟩ Tryz.f42.ntmps (Tryz.f42.body.getD .skip) ⟨0, zipT 0 [(tAgg insR).enc x], []⟩ (outQ Tryz.prog Tryz.f42.results.toList (.ret (bv false))) := by
  refine aRun_sound (ctx := [⟨_, limitsS⟩]) 4000 ?_
  rw [Tryz.ntmps42, Tryz.results42]
  simp only [Tryz.f42, Option.getD_some, zipT]
  have hlo : limsO x.op = nilS := by unfold limsO; exact if_neg h
  simp only [go_sem, insR, limits_run, limits_pan, hlo, nilS]
  refine sw_loop (ι := Unit) (fun _ => True) (fun _ => wiN x) (fun _ => 0) () trivial (Wk.renL [0] (by simp) (Nat.le_refl 1) (by decide) rfl rfl) ?_
  intro _ _
  refine aRun_sound (ctx := []) 4000 ?_
  simp only [go_sem, wiN, insK, insE, nilS]
  refine sw_draw (ctx := []) mixed [] (by kernel_rfl) ?_
  simp only [go_sem, nilS, ↓pure_sl_nil]
theorem within_sw (x : Ins) : SW Tryz.prog ⟨none, 0⟩ Tryz.f42.ntmps (Tryz.f42.body.getD .skip) ⟨0, zipT 0 [(tAgg insR).enc x], []⟩ (outQ Tryz.prog Tryz.f42.results.toList (.ret (bv (withinF x)))) := by
  by_cases h : opQ x.op
  · exact within_sw0 x h
  · have e : withinF x = false := by unfold withinF; rw [lims_no h]; simp
    rw [e]
    exact within_no x h
theorem en_within (args : Array Value) (w : World) : (callFunc 42 args).run Tryz.prog w = .ok (.enter 42 args) w := by go_simp
def withinS : Spec Tryz.prog 42 :=
  mk1 _ _ _ Tryz.func42 rfl en_within (tAgg insR) ((fun _ => True)) ((fun x => .ret (bv (withinF x)))) (by rw [Tryz.ntmps42]; decide) (fun x _ => within_sw x)
theorem within_run {id : Nat} {h : Heap} {args : List AV} : (withinS).run id h args = runP (args1 (tAgg insR) ((fun _ => True))) ((fun x => .ret (bv (withinF x)))) h args := rfl
theorem within_pan {id : Nat} {h : Heap} {args : List AV} : (withinS).pan id h args = panP (args1 (tAgg insR) ((fun _ => True))) ((fun x => .ret (bv (withinF x)))) h args := rfl

/-! ### Which there are -/
theorem u64_of (a : Int) : IntKind.u64.wrap a = ((u64F a : Nat) : Int) := by
  rw [wrapU]
  unfold u64F
  omega
theorem u64F_lt (a : Int) : u64F a < 18446744073709551616 := by unfold u64F; omega
set_option maxHeartbeats 1000000 in
theorem en_logical (args : Array Value) (w : World) : (callFunc 98 args).run Tryz.prog w = .ok (.enter 98 args) w := by go_simp
def logicalS : Spec Tryz.prog 98 :=
  mk1 _ _ _ Tryz.func98 rfl en_logical (tAgg insR) ((fun _ => True)) ((fun x => .ret (bv (logicalF x)))) (by rw [Tryz.ntmps98]; decide) (fun x _ => by
  refine aRun_sound (ctx := [⟨_, fieldS⟩]) 4000 ?_
  rw [Tryz.ntmps98, Tryz.results98]
  simp only [Tryz.f98, Option.getD_some, zipT]
  have t : ∀ n : Nat, Int.toNat (n : Int) = n := fun _ => rfl
  have e1 := u64_of x.a
  have l1 := u64F_lt x.a
  have b0 : (0 : Int) ≤ ((u64F x.a : Nat) : Int) ∧ ((u64F x.a : Nat) : Int) < 18446744073709551616 := by omega
  obtain ⟨w, hw⟩ : ∃ w, wN x.x = w := ⟨_, rfl⟩
  have hfe := field_err (u64F x.a) w
  obtain ⟨A, hA⟩ : ∃ A, (fieldF (encF (u64F x.a) w)).1 = A := ⟨_, rfl⟩
  have hwi : (if x.x then 64 else 32) = w := hw
  by_cases h3 : (lFind (u64F x.a) w).isSome = true
  · have hF : fieldF (encF (u64F x.a) w) = (A, 0) := by rw [← hA]; exact Prod.ext rfl (by rw [hfe, if_pos h3])
    cases hx : x.x
    · have hw2 : w = 32 := by rw [← hw, hx]; rfl
      subst hw2
      have hL : logicalF x = decide (0 ≤ x.a) := by unfold logicalF; rw [hwi, h3, hx]; simp
      rw [hL]
      by_cases h4 : 0 ≤ x.a
      · simp only [go_sem, insR, hx, e1, tU, field_run, field_pan, b0.1, b0.2, true_or, or_true, t, t32, hF, fieldO, h4]
      · simp only [go_sem, insR, hx, e1, tU, field_run, field_pan, b0.1, b0.2, true_or, or_true, t, t32, hF, fieldO, h4]
    · have hw2 : w = 64 := by rw [← hw, hx]; rfl
      subst hw2
      have hL : logicalF x = true := by unfold logicalF; rw [hwi, h3, hx]; simp
      simp only [go_sem, insR, hx, e1, tU, field_run, field_pan, b0.1, b0.2, true_or, or_true, t, t64, hF, fieldO, hL]
  · have hF : fieldF (encF (u64F x.a) w) = (A, 20) := by rw [← hA]; exact Prod.ext rfl (by rw [hfe, if_neg h3])
    have hL : logicalF x = false := by unfold logicalF; rw [hwi]; simp at h3; simp [h3]
    cases hx : x.x
    · have hw2 : w = 32 := by rw [← hw, hx]; rfl
      subst hw2
      simp only [go_sem, insR, hx, e1, tU, field_run, field_pan, b0.1, b0.2, true_or, or_true, t, t32, hF, fieldO, hL]
    · have hw2 : w = 64 := by rw [← hw, hx]; rfl
      subst hw2
      simp only [go_sem, insR, hx, e1, tU, field_run, field_pan, b0.1, b0.2, true_or, or_true, t, t64, hF, fieldO, hL])
theorem logical_run {id : Nat} {h : Heap} {args : List AV} : (logicalS).run id h args = runP (args1 (tAgg insR) ((fun _ => True))) ((fun x => .ret (bv (logicalF x)))) h args := rfl
theorem logical_pan {id : Nat} {h : Heap} {args : List AV} : (logicalS).pan id h args = panP (args1 (tAgg insR) ((fun _ => True))) ((fun x => .ret (bv (logicalF x)))) h args := rfl

end Go.Proofs.YtpjlafmhoifkmaaGreat
