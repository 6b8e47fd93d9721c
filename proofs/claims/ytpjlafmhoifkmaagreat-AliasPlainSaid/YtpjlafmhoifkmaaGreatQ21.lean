/- The statement of AliasPlain: called with any instruction the law returns true, and the arguments read as before. No condition. -/
import Derived.Test.YtpjlafmhoifkmaaGreatJ7
import Derived.Test.YtpjlafmhoifkmaaGreatBb
import Derived.Test.YtpjlafmhoifkmaaGreatQ04
import Derived.Test.YtpjlafmhoifkmaaGreatQ12
import Derived.Test.YtpjlafmhoifkmaaGreatQ19
import Derived.Test.YtpjlafmhoifkmaaGreatP6
import Derived.Test.YtpjlafmhoifkmaaGreatRows
import Derived.ProofKit
import Derived.OpenShut
import Derived.ShutString
import Derived.ChangeOld
import Derived.SizedLaws
import Derived.Lib.SmallJoins
import Derived.ChangeSame
set_option linter.unusedVariables false
set_option linter.unusedSimpArgs false
namespace Go.Proofs.YtpjlafmhoifkmaaGreat
open Go.RowKit
set_option maxRecDepth 100000

deriving instance DecidableEq for OpV
theorem pure_deep3 {P : Program} {t : TypeId} {x y : Operand} {xs ys : List Value} : pureV P (do eqGuard .neq t x y (.agg xs.toArray) (.agg ys.toArray); binOp .neq t (.agg xs.toArray) (.agg ys.toArray)) = orPure true (pureV' P (do eqGuard .neq t x y (.agg xs.toArray) (.agg ys.toArray); binOp .neq t (.agg xs.toArray) (.agg ys.toArray))) (deepEq P t xs ys) := by
  cases h : deepEq P t xs ys with
  | none => rfl
  | some b =>
    refine pureV_eq fun w => ?_
    obtain ⟨h1, h2⟩ := run_deep h .neq x y w
    rw [Sem.run_bind, h2, Result.andThen_ok, show binOp .neq t (.agg xs.toArray) (.agg ys.toArray) = (do pure (.bool (!(← Op.equal t (.agg xs.toArray) (.agg ys.toArray))))) from rfl, Sem.run_bind, h1]
    rfl
theorem deep_op : deepT Tryz.prog 40 = some [[1], [1, 2, 2], [1, 2, 2], [1], [1], [1], [1, 3, 3], [2], [1]] := by kernel_rfl
theorem decAllD_opE : ∀ l : List OpV, decAllD opR.dec (l.map opE) = some l
  | [] => rfl
  | o :: l => by
    rw [List.map_cons, decAllD, decAllD_opE l]
    rfl
/-- a line -/
def tLn : Ty LineV where
  dec := fun
    | .s (.agg [.v (.string s), .d (.sd 15 els)]) => (decAllD opR.dec els).map fun l => (s, l)
    | .s (.agg [.v (.string s), .v (.slice none 0 0)]) => some (s, [])
    | _ => none
  enc := lineV
  ok := by
    intro A x h ρ al v hr
    split at h
    · rw [Option.map_eq_some_iff] at h
      obtain ⟨l, hl, rfl⟩ := h
      rw [decAllD_inv opR hl] at hr
      exact hr
    · injection h with h
      subst h
      obtain ⟨vs, rfl, h1⟩ := hr
      refine ⟨vs, rfl, ?_⟩
      match vs, h1 with
      | [u, y], ⟨o1, a, o2, b, c⟩ =>
        refine ⟨o1, a, o2, ?_, c⟩
        have : y = .slice none 0 0 := b
        subst this
        simp only [LRep, DRep]
        exact ⟨none, 0, rfl, Nat.le_refl _, fun h => absurd rfl h⟩
    · cases h
theorem op_eqv (u v : OpV) : (decide (u.kind = v.kind) && (decide (u.r.n = v.r.n) && (decide (u.r.x = v.r.x) && decide (u.r.sp = v.r.sp)) && (decide (u.m.n = v.m.n) && (decide (u.m.x = v.m.x) && decide (u.m.sp = v.m.sp)) && (decide (u.md = v.md) && (decide (u.amt = v.amt) && (decide (u.n = v.n) && (decide (u.add = v.add) && (decide (u.plus = v.plus) && decide (u.minus = v.minus)) && (decide (u.lo = v.lo) && decide (u.mode = v.mode))))))))) = decide (u = v) := by
  obtain ⟨a1, ⟨a2, a3, a4⟩, ⟨a5, a6, a7⟩, a8, a9, a10, a11, a12, a13, a14, a15⟩ := u
  obtain ⟨b1, ⟨b2, b3, b4⟩, ⟨b5, b6, b7⟩, b8, b9, b10, b11, b12, b13, b14, b15⟩ := v
  rw [Bool.eq_iff_iff]
  simp only [OpV.mk.injEq, RegV.mk.injEq, Bool.and_eq_true, decide_eq_true_eq, and_assoc]
def sameF (a b : LineV) : Bool := decide (a = b)
def slI (a b : LineV) (i : Nat) : St := ⟨2, [(2, .s (.l (.p 0 0 0))), (3, .s (.l (.p 1 0 0))), (5, iv i)], [(0, some ⟨true, 33, 2, [[.v (.string a.1), .d (.sd 15 (a.2.map opE))]]⟩), (1, some ⟨true, 33, 2, [[.v (.string b.1), .d (.sd 15 (b.2.map opE))]]⟩)]⟩
set_option maxHeartbeats 4000000 in
theorem same_sw (a b : LineV) (hq : a.2.length ≤ 1000) : SW Tryz.prog ⟨none, 0⟩ Tryz.f15.ntmps (Tryz.f15.body.getD .skip) ⟨0, zipT 0 [lineV a, lineV b], []⟩ (outQ Tryz.prog Tryz.f15.results.toList (.ret (bv (sameF a b)))) := by
  refine aRun_sound (ctx := []) 4000 ?_
  rw [Tryz.ntmps15, Tryz.results15]
  simp only [Tryz.f15, Option.getD_some, zipT]
  obtain ⟨n, l⟩ := a
  obtain ⟨k, m⟩ := b
  simp only at hq
  by_cases hn : n = k
  case neg =>
    have e : sameF (n, l) (k, m) = false := decide_eq_false (fun h => hn (Prod.mk.inj h).1)
    simp only [go_sem, lineV, hn, e]
  by_cases hl : l.length = m.length
  case neg =>
    have e : sameF (n, l) (k, m) = false := decide_eq_false (fun h => hl (congrArg (fun r : LineV => r.2.length) h))
    have hlI : ((l.length : Int) != (m.length : Int)) = true := by simp; omega
    simp only [go_sem, lineV, eq_true hn, List.length_map, hlI, e]
  have hlI : ((l.length : Int) != (m.length : Int)) = false := by simp; omega
  simp only [go_sem, lineV, eq_true hn, List.length_map, hlI]
  refine sw_loop (ι := Nat) (fun i => i ≤ l.length ∧ ∀ j, j < i → l[j]? = m[j]?) (slI (n, l) (k, m)) (fun i => l.length - i) 0 ⟨Nat.zero_le _, fun j hj => absurd hj (Nat.not_lt_zero _)⟩ (Wk.renL [0, 16] (by simp) (Nat.le_refl 2) (by decide) rfl rfl) ?_
  rintro i ⟨hi, hinv⟩
  refine aRun_sound (ctx := []) 4000 ?_
  by_cases hlt : i < l.length
  · have hltI : (i : Int) < l.length := by omega
    have hltm : (i : Int) < m.length := by omega
    have hltm' : i < m.length := by omega
    obtain ⟨u, hu⟩ : ∃ u, l[i]? = some u := ⟨_, List.getElem?_eq_getElem hlt⟩
    obtain ⟨v, hv⟩ : ∃ v, m[i]? = some v := ⟨_, List.getElem?_eq_getElem (by omega)⟩
    have ei : IntKind.i64.wrap ((i : Int) + 1) = ((i + 1 : Nat) : Int) := by rw [IntKind.wrap_i64]; omega
    simp only [go_sem, slI, List.length_map, hltI]
    refine sw_draw (ctx := []) mixed [] (by kernel_rfl) ?_
    simp only [go_sem, List.length_map, hltI, hltm, hlt, hltm', hu, hv, opE, pure_deep3, orPure_ne, deepEq, deep_op, eqPs, eqKs, List.length_cons, List.length_nil, List.take_succ_cons, List.take_zero, List.drop_succ_cons, List.drop_zero]
    have hd := op_eqv u v
    by_cases huv : u = v
    · rw [decide_eq_true huv] at hd
      simp only [go_sem, hd, ei]
      refine ⟨i + 1, ⟨by omega, fun j hj => ?_⟩, by omega, Wk.renL [0, 1] (by simp) (Nat.le_refl 2) (by decide) rfl rfl⟩
      by_cases e : j = i
      · subst e
        rw [hu, hv, huv]
      · exact hinv j (by omega)
    · rw [decide_eq_false huv] at hd
      have e : sameF (n, l) (k, m) = false := by
        refine decide_eq_false (fun h => huv ?_)
        have h2 : l = m := (Prod.mk.inj h).2
        rw [h2, hv] at hu
        injection hu with hu
        exact hu.symm
      simp only [go_sem, hd, e]
  · obtain rfl : i = l.length := by omega
    have hltI : ¬ (l.length : Int) < l.length := by omega
    have e : sameF (n, l) (k, m) = true := by
      refine decide_eq_true ?_
      have : l = m := by
        apply List.ext_getElem? 
        intro j
        by_cases hj : j < l.length
        · exact hinv j hj
        · rw [List.getElem?_eq_none (by omega), List.getElem?_eq_none (by omega)]
      rw [hn, this]
    simp only [go_sem, slI, List.length_map, hltI, e]
theorem en_same (args : Array Value) (w : World) : (callFunc 15 args).run Tryz.prog w = .ok (.enter 15 args) w := by go_simp
def sameS : Spec Tryz.prog 15 :=
  mk2 _ _ _ Tryz.func15 rfl en_same (tLn) (tLn) ((fun a _ => a.2.length ≤ 1000)) ((fun a b => .ret (bv (sameF a b)))) (by rw [Tryz.ntmps15]; decide) (fun a b h => same_sw a b h)
theorem same_run {id : Nat} {h : Heap} {args : List AV} : (sameS).run id h args = runP (args2 (tLn) (tLn) ((fun a _ => a.2.length ≤ 1000))) (fun x => ((fun a b => .ret (bv (sameF a b)))) x.1 x.2) h args := rfl
theorem same_pan {id : Nat} {h : Heap} {args : List AV} : (sameS).pan id h args = panP (args2 (tLn) (tLn) ((fun a _ => a.2.length ≤ 1000))) (fun x => ((fun a b => .ret (bv (sameF a b)))) x.1 x.2) h args := rfl

end Go.Proofs.YtpjlafmhoifkmaaGreat

namespace Go.Proofs.YtpjlafmhoifkmaaGreat
open Go.RowKit
set_option maxRecDepth 100000

theorem en_rPlain (args : Array Value) (w : World) : (callFunc 12 args).run Tryz.prog w = .ok (.enter 12 args) w := by go_simp
def rPlainS : Spec Tryz.prog 12 :=
  mk1 _ _ _ Tryz.func12 rfl en_rPlain (tAgg insR) ((fun _ => True)) ((fun x => .ret (plO x))) (by rw [Tryz.ntmps12]; decide) (fun x _ => by
  refine aRun_sound (ctx := [⟨_, rcheckS⟩, ⟨_, rplnS⟩]) 4000 ?_
  rw [Tryz.ntmps12, Tryz.results12]
  simp only [Tryz.f12, Option.getD_some, zipT]
  by_cases h : icheckF x = 0
  · have e : plO x = lnO (plainF x) := by unfold plO; rw [if_pos h]
    have r := rplain_eq h
    rw [e]
    simp only [go_sem, insR, rcheck_run, rcheck_pan, h, rpln_run, rpln_pan, r, lineV, lnO]
  · have e : plO x = noLn := by unfold plO; rw [if_neg h]
    have h40 := icheck_40 h
    rw [e]
    simp only [go_sem, insR, rcheck_run, rcheck_pan, h40, noLn, emp])
theorem rPlain_run {id : Nat} {h : Heap} {args : List AV} : (rPlainS).run id h args = runP (args1 (tAgg insR) ((fun _ => True))) ((fun x => .ret (plO x))) h args := rfl
theorem rPlain_pan {id : Nat} {h : Heap} {args : List AV} : (rPlainS).pan id h args = panP (args1 (tAgg insR) ((fun _ => True))) ((fun x => .ret (plO x))) h args := rfl

theorem moved_len (x : Ins) (l : List OpV) : (movedL x l).length = l.length := by
  unfold movedL
  split
  · rfl
  · rw [List.length_set]
theorem imm_len (x : Ins) : (immF x).2.length ≤ 1000 := by unfold immF; (repeat' split) <;> exact Nat.le_of_ble_eq_true rfl
theorem br_len (x : Ins) : (brF x).2.length ≤ 1000 := by unfold brF; (repeat' split) <;> exact Nat.le_of_ble_eq_true rfl
theorem sys_len (x : Ins) : (sysLF x).2.length ≤ 1000 := by unfold sysLF sysO; (repeat' split) <;> exact Nat.le_of_ble_eq_true rfl
theorem ld_len (x : Ins) : (ldF x).2.length ≤ 1000 := by
  unfold ldF litL pairL exL trL
  repeat' split
  all_goals first | exact Nat.le_of_ble_eq_true rfl | (simp only [List.length_append]; (repeat' split) <;> exact Nat.le_of_ble_eq_true rfl)
theorem sums_len (x : Ins) : (sumsF x).2.length ≤ 1000 := by
  unfold sumsF
  repeat' split
  all_goals first | exact Nat.le_of_ble_eq_true rfl | (simp only [moved_len]; exact Nat.le_of_ble_eq_true rfl)
theorem oth_len (x : Ins) : (othersF x).2.length ≤ 1000 := by
  unfold othersF twosF
  repeat' split
  all_goals exact Nat.le_of_ble_eq_true rfl
theorem plainF_len (x : Ins) : (plainF x).2.length ≤ 1000 := by
  unfold plainF
  split
  · exact imm_len x
  split
  · exact br_len x
  split
  · exact sys_len x
  split
  · exact ld_len x
  split
  · exact sums_len x
  · exact oth_len x
theorem tLn_agg (n : ByteArray) (l : List OpV) : tLn.dec (.s (.agg [.v (.string n), .d (.sd 15 (l.map opE))])) = some (n, l) := by
  show (decAllD opR.dec _).map _ = _
  rw [decAllD_opE]
  rfl
theorem tLn_nil (n : ByteArray) : tLn.dec (.s (.agg [.v (.string n), .v (.slice none 0 0)])) = some (n, []) := rfl
theorem pure_bool {x y : Operand} {a b : Bool} : pureV Tryz.prog (do eqGuard .eql 4 x y (.bool a) (.bool b); binOp .eql 4 (.bool a) (.bool b)) = some (.bool (a == b)) := by
  refine pureV_eq fun w => ?_
  have h2 : (eqGuard .eql 4 x y (.bool a) (.bool b)).run Tryz.prog w = .ok () w := by first | rfl | (cases x <;> cases y <;> rfl) | go_simp
  rw [Sem.run_bind, h2, Result.andThen_ok, show binOp .eql 4 (.bool a) (.bool b) = (do pure (.bool (← Op.equal 4 (.bool a) (.bool b)))) from rfl, Sem.run_bind, run_equal_bool _ _ _ _ Tryz.underlying4]
  rfl
theorem same_self (a : LineV) : sameF a a = true := decide_eq_true rfl
set_option maxHeartbeats 4000000 in
theorem aplain_sw (x : Ins) : SW Tryz.prog ⟨none, 0⟩ Tryz.f4.ntmps (Tryz.f4.body.getD .skip) ⟨0, zipT 0 [(tAgg insR).enc x], []⟩ (outQ Tryz.prog Tryz.f4.results.toList (.ret (bv true))) := by
  refine aRun_sound (ctx := [⟨_, liveS⟩, ⟨_, plainPS⟩, ⟨_, rPlainS⟩, ⟨_, transferS⟩, ⟨_, rtransferS⟩, ⟨_, sameS⟩]) 4000 ?_
  rw [Tryz.ntmps4, Tryz.results4]
  simp only [Tryz.f4, Option.getD_some, zipT]
  obtain ⟨⟨N, L, W⟩, hT⟩ : ∃ T, transF x.b x.c = T := ⟨_, rfl⟩
  by_cases h : icheckF x = 0
  · have e : plO x = lnO (plainF x) := by unfold plO; rw [if_pos h]
    obtain ⟨r, hr⟩ : ∃ r, plainF x = r := ⟨_, rfl⟩
    have hl : r.2.length ≤ 1000 := by rw [← hr]; exact plainF_len x
    obtain ⟨n, l⟩ := r
    rw [hr] at e
    simp only [go_sem, ↓pure_bool, insR, live_run, live_pan, plainP_run, plainP_pan, rPlain_run, rPlain_pan, e, lnO, transfer_run, transfer_pan, rtransfer_run, rtransfer_pan, transO, hT, same_run, same_pan, tLn_agg, same_self, hl, beq_self_eq_true, Bool.not_true, Bool.not_false]
  · have e : plO x = noLn := by unfold plO; rw [if_neg h]
    have hs : sameF (emp, []) (emp, []) = true := decide_eq_true rfl
    simp only [go_sem, ↓pure_bool, insR, live_run, live_pan, plainP_run, plainP_pan, rPlain_run, rPlain_pan, e, noLn, transfer_run, transfer_pan, rtransfer_run, rtransfer_pan, transO, hT, same_run, same_pan, tLn_nil, same_self, beq_self_eq_true, Bool.not_true, Bool.not_false]
theorem en_aplain (args : Array Value) (w : World) : (callFunc 4 args).run Tryz.prog w = .ok (.enter 4 args) w := by go_simp
def aplainS : Spec Tryz.prog 4 :=
  mk1 _ _ _ Tryz.func4 rfl en_aplain (tAgg insR) ((fun _ => True)) ((fun _ => .ret (bv true))) (by rw [Tryz.ntmps4]; decide) (fun x _ => aplain_sw x)
theorem aplain_run {id : Nat} {h : Heap} {args : List AV} : (aplainS).run id h args = runP (args1 (tAgg insR) ((fun _ => True))) ((fun _ => .ret (bv true))) h args := rfl
theorem aplain_pan {id : Nat} {h : Heap} {args : List AV} : (aplainS).pan id h args = panP (args1 (tAgg insR) ((fun _ => True))) ((fun _ => .ret (bv true))) h args := rfl

end Go.Proofs.YtpjlafmhoifkmaaGreat

namespace Go.Proofs.YtpjlafmhoifkmaaGreat
open Go.ChangeShapes Go.WideShapes Go.ChangeAt Go.RowKit Go.Joins

theorem lawOwn : ownKnob Tryz.prog.godebug = none := by kernel_rfl
theorem lawLaid : laidOutB Tryz.prog = true := by kernel_rfl
/-- ten of a list -/
theorem list10 {α : Type} {l : List α} (h : l.length = 10) : ∃ c0 c1 c2 c3 c4 c5 c6 c7 c8 c9, l = [c0, c1, c2, c3, c4, c5, c6, c7, c8, c9] := by
  match l, h with
  | [c0, c1, c2, c3, c4, c5, c6, c7, c8, c9], _ => exact ⟨c0, c1, c2, c3, c4, c5, c6, c7, c8, c9, rfl⟩
def Ins.cells (x : Ins) : List Value := [.int .i64 x.op, .bool x.x, .bool x.s, .int .i64 x.rd, .int .i64 x.rn, .int .i64 x.rm, .int .i64 x.ra, .int .i64 x.a, .int .i64 x.b, .int .i64 x.c]
theorem cellsInst : Tryz.prog.cellsOf 27 = 10 := by kernel_rfl
theorem one_int : Tryz.prog.cellsOf 3 = 1 := by kernel_rfl
theorem one_i64 : Tryz.prog.cellsOf 2 = 1 := by kernel_rfl
theorem one_bool : Tryz.prog.cellsOf 4 = 1 := by kernel_rfl

set_option maxRecDepth 100000 in
theorem open_inst {H : Type} {enc : TypeId × Value → H} {w : World} {base : Nat} {spare : Nat → Bool} {held : Bool} {r : Reach} {b0 : Nat} {v : Value} {d : DataW H} {p : List MemPlace}
    (hv : Value.okWide Tryz.prog w r b0 27 v) (h : DataW.Trod enc Tryz.prog w base spare held 27 v d p) : ∃ x : Ins, v = .agg x.cells.toArray := by
  obtain ⟨cs, rfl, hsz⟩ := okWide_struct Tryz.underlying27 hv
  obtain ⟨fuel, hf⟩ := h
  obtain ⟨xs, m, rfl, hD, hl, hx, hf⟩ := DataW.trod_struct Tryz.underlying27 hf
  clear hD hl
  rw [cellsInst] at hsz
  obtain ⟨l⟩ := cs
  obtain ⟨c0, c1, c2, c3, c4, c5, c6, c7, c8, c9, rfl⟩ := list10 (l := l) hsz
  obtain ⟨y0, y1, y2, y3, y4, y5, y6, y7, y8, y9, rfl⟩ := list10 (l := xs) hx
  have f0 : DataW.trod enc Tryz.prog w base spare held m 3 (([c0, c1, c2, c3, c4, c5, c6, c7, c8, c9].drop 0).take (Tryz.prog.cellsOf 3)) = some y0 := hf 0 _ rfl
  have f1 : DataW.trod enc Tryz.prog w base spare held m 4 (([c0, c1, c2, c3, c4, c5, c6, c7, c8, c9].drop 1).take (Tryz.prog.cellsOf 4)) = some y1 := hf 1 _ rfl
  have f2 : DataW.trod enc Tryz.prog w base spare held m 4 (([c0, c1, c2, c3, c4, c5, c6, c7, c8, c9].drop 2).take (Tryz.prog.cellsOf 4)) = some y2 := hf 2 _ rfl
  have f3 : DataW.trod enc Tryz.prog w base spare held m 3 (([c0, c1, c2, c3, c4, c5, c6, c7, c8, c9].drop 3).take (Tryz.prog.cellsOf 3)) = some y3 := hf 3 _ rfl
  have f4 : DataW.trod enc Tryz.prog w base spare held m 3 (([c0, c1, c2, c3, c4, c5, c6, c7, c8, c9].drop 4).take (Tryz.prog.cellsOf 3)) = some y4 := hf 4 _ rfl
  have f5 : DataW.trod enc Tryz.prog w base spare held m 3 (([c0, c1, c2, c3, c4, c5, c6, c7, c8, c9].drop 5).take (Tryz.prog.cellsOf 3)) = some y5 := hf 5 _ rfl
  have f6 : DataW.trod enc Tryz.prog w base spare held m 3 (([c0, c1, c2, c3, c4, c5, c6, c7, c8, c9].drop 6).take (Tryz.prog.cellsOf 3)) = some y6 := hf 6 _ rfl
  have f7 : DataW.trod enc Tryz.prog w base spare held m 2 (([c0, c1, c2, c3, c4, c5, c6, c7, c8, c9].drop 7).take (Tryz.prog.cellsOf 2)) = some y7 := hf 7 _ rfl
  have f8 : DataW.trod enc Tryz.prog w base spare held m 2 (([c0, c1, c2, c3, c4, c5, c6, c7, c8, c9].drop 8).take (Tryz.prog.cellsOf 2)) = some y8 := hf 8 _ rfl
  have f9 : DataW.trod enc Tryz.prog w base spare held m 2 (([c0, c1, c2, c3, c4, c5, c6, c7, c8, c9].drop 9).take (Tryz.prog.cellsOf 2)) = some y9 := hf 9 _ rfl
  clear hf
  rw [one_int] at f0
  rw [one_bool] at f1
  rw [one_bool] at f2
  rw [one_int] at f3
  rw [one_int] at f4
  rw [one_int] at f5
  rw [one_int] at f6
  rw [one_i64] at f7
  rw [one_i64] at f8
  rw [one_i64] at f9
  obtain ⟨v0, e0, -, -⟩ := DataW.trod_int Tryz.underlying3 (show DataW.trod enc Tryz.prog w base spare held m 3 [c0] = some y0 from f0)
  obtain ⟨v1, e1, -⟩ := DataW.trod_bool Tryz.underlying4 (show DataW.trod enc Tryz.prog w base spare held m 4 [c1] = some y1 from f1)
  obtain ⟨v2, e2, -⟩ := DataW.trod_bool Tryz.underlying4 (show DataW.trod enc Tryz.prog w base spare held m 4 [c2] = some y2 from f2)
  obtain ⟨v3, e3, -, -⟩ := DataW.trod_int Tryz.underlying3 (show DataW.trod enc Tryz.prog w base spare held m 3 [c3] = some y3 from f3)
  obtain ⟨v4, e4, -, -⟩ := DataW.trod_int Tryz.underlying3 (show DataW.trod enc Tryz.prog w base spare held m 3 [c4] = some y4 from f4)
  obtain ⟨v5, e5, -, -⟩ := DataW.trod_int Tryz.underlying3 (show DataW.trod enc Tryz.prog w base spare held m 3 [c5] = some y5 from f5)
  obtain ⟨v6, e6, -, -⟩ := DataW.trod_int Tryz.underlying3 (show DataW.trod enc Tryz.prog w base spare held m 3 [c6] = some y6 from f6)
  obtain ⟨v7, e7, -, -⟩ := DataW.trod_int Tryz.underlying2 (show DataW.trod enc Tryz.prog w base spare held m 2 [c7] = some y7 from f7)
  obtain ⟨v8, e8, -, -⟩ := DataW.trod_int Tryz.underlying2 (show DataW.trod enc Tryz.prog w base spare held m 2 [c8] = some y8 from f8)
  obtain ⟨v9, e9, -, -⟩ := DataW.trod_int Tryz.underlying2 (show DataW.trod enc Tryz.prog w base spare held m 2 [c9] = some y9 from f9)
  injection e0 with e0
  injection e1 with e1
  injection e2 with e2
  injection e3 with e3
  injection e4 with e4
  injection e5 with e5
  injection e6 with e6
  injection e7 with e7
  injection e8 with e8
  injection e9 with e9
  subst e0 e1 e2 e3 e4 e5 e6 e7 e8 e9
  exact ⟨⟨v0, v1, v2, v3, v4, v5, v6, v7, v8, v9⟩, rfl⟩

theorem aplain_walk (x : Ins) (w : World) :
    Calls Tryz.prog 4 #[.agg x.cells.toArray] w fun e w' => e = .returned (.bool true) ∧ Below w.heap.size w w' := by
  have hA : AsRep ρ0 (al0 fun b o => w.cell? ⟨b, o, none⟩) [(tAgg insR).enc x] [.agg x.cells.toArray] :=
    ⟨⟨x.cells, rfl, rfl, rfl, rfl, rfl, rfl, rfl, rfl, rfl, rfl, rfl, rfl, rfl, rfl, rfl, rfl, rfl, rfl, rfl, rfl, rfl, trivial⟩, trivial⟩
  exact law_calls Tryz.func4 rfl trivial hA (by rw [Tryz.ntmps4]; show 1 ≤ 66; decide) (aplain_sw x)

set_option maxRecDepth 100000 in
theorem lawPlain.lifted (os : Os) (started : os.Started) (H : Type) (enc : TypeId × Value → H) :
    ReturnsInHanded {} Tryz.checked os 4 .any (Rows.aliasPlainSpec.pre6 enc Tryz.prog Tryz.f4 Rows.aliasPlainRow.domain false) (Rows.aliasPlainSpec.post enc Tryz.prog Tryz.f4 false true false false) := by
  refine returnsInHanded_of_change_sized (C := Tryz.checked) lawOwn started (by kernel_rfl) Tryz.func4
    (ChangeSpec.witness6 (enc := enc) (C := Tryz.checked) false ⟨#[], #[.agg #[.int .i64 0, .bool false, .bool false, .int .i64 0, .int .i64 0, .int .i64 0, .int .i64 0, .int .i64 0, .int .i64 0, .int .i64 0]], []⟩ 8 (by kernel_rfl) (by kernel_rfl) (by kernel_rfl) (by kernel_rfl)) ?_
  intro W base args ds gs before hval0 hW hcnd hsz0 _
  have hval : ∀ (j : Nat) t v, Tryz.f4.params[j]? = some t → args[j]? = some v → Value.okWide Tryz.prog W .any base t v := hval0
  have hW' := hW
  obtain ⟨p, q, hA0, hV, rfl, hfz, hnd⟩ := hW
  have hA : DataW.TrodAll enc Tryz.prog W 0 (fun _ => true) true Tryz.f4.params.toList args.toList ds p := hA0
  rw [Tryz.params4] at hA hval
  obtain ⟨v0, vs0, d0, ds0, p0, q0, hargs, rfl, rfl, h0, r0⟩ := trodAll_cons hA
  obtain ⟨rfl, rfl, rfl⟩ := trodAll_nil r0
  obtain rfl : args = #[v0] := by cases args; simp_all
  obtain ⟨rfl, rfl⟩ := trodVars_none hV
  have k0 := h0
  have lt0 : ∀ x ∈ p0, x.block < W.heap.size := by obtain ⟨m, hm⟩ := k0; exact DataW.trod_lt m _ _ _ hm
  obtain ⟨x, rfl⟩ := open_inst (hval 0 27 v0 rfl rfl) h0
  clear hA0 hval0 hsz0
  refine (aplain_walk x W).mono fun e W' ⟨he, bel⟩ => ?_
  subst he
  exact ⟨_, rfl, _, _, _, [], _, [], hW', trodAll_mk1 (shut_bool Tryz.underlying4 _), (trodAll_cons_mk (Below.trod lawLaid (by kernel_rfl) (of_decide_eq_true (by kernel_rfl)) k0 bel lt0) trodAll_mk0), rfl, bel.frame _, fun h => by cases h⟩

theorem plain_holds : Rows.AliasPlainSaid :=
  OpenClaim.holds_of_wide 4 Tryz.f4 rfl rfl rfl rfl rfl rfl rfl ⟨rfl, rfl, rfl, rfl, rfl⟩ rfl rfl rfl rfl rfl (by kernel_rfl) Tryz.func4 (by kernel_rfl)
    (of_decide_eq_true (by kernel_rfl)) (by unfold Func.isWrapper; first | (rw [if_pos (by decide +kernel)]; kernel_rfl) | (rw [if_neg (by decide +kernel)]; exact ⟨rfl, rfl⟩))
    (fun os started H enc _ => lawPlain.lifted os started H enc)

#print axioms plain_holds
end Go.Proofs.YtpjlafmhoifkmaaGreat
