/- Instructions as lines: operands, and the writer's steps. -/
import Derived.Test.YtpjlafmhoifkmaaGreatJ1
set_option linter.unusedVariables false
set_option linter.unusedSimpArgs false
namespace Go.Proofs.YtpjlafmhoifkmaaGreat
open Go.RowKit
set_option maxRecDepth 100000

theorem decOps_map : ∀ l : List OpV, decAll decOpL (l.map opL) = some l
  | [] => rfl
  | o :: l => by
    have h : decOpL (opL o) = some o := rfl
    simp [decAll, h, decOps_map l]
theorem op_dec (o : OpV) : opR.dec [.v (.int .i64 o.kind), .v (.int .i64 o.r.n), .v (.bool o.r.x), .v (.bool o.r.sp), .v (.int .i64 o.m.n), .v (.bool o.m.x), .v (.bool o.m.sp), .v (.int .i64 o.md), .v (.int .i64 o.amt), .v (.int .i64 o.n), .v (.int .i64 o.add), .v (.string o.plus), .v (.string o.minus), .v (.bool o.lo), .v (.int .i64 o.mode)] = some o := rfl
theorem opL_ren (l : List OpV) (g : Nat → Nat) : List.map (fun x => List.map (fun x => LV.ren g x) x) (List.map opL l) = List.map opL l := by
  have : ∀ o : OpV, (opL o).map (fun x => LV.ren g x) = opL o := fun o => ofDs_ren
  simp [Function.comp_def, this]

theorem en_num (args : Array Value) (w : World) : (callFunc 108 args).run Tryz.prog w = .ok (.enter 108 args) w := by go_simp
def numS : Spec Tryz.prog 108 :=
  mk1 _ _ _ Tryz.func108 rfl en_num (tInt .i64) ((fun _ => True)) ((fun v => .ret (opV (oNum v)))) (by rw [Tryz.ntmps108]; decide) (fun v _ => by
  refine aRun_sound (ctx := []) 4000 ?_
  rw [Tryz.ntmps108, Tryz.results108]
  simp only [Tryz.f108, Option.getD_some, zipT]
  simp only [go_sem, opV, oNum, op0, r0, opR, opE, emp])
theorem num_run {id : Nat} {h : Heap} {args : List AV} : (numS).run id h args = runP (args1 (tInt .i64) ((fun _ => True))) ((fun v => .ret (opV (oNum v)))) h args := rfl
theorem num_pan {id : Nat} {h : Heap} {args : List AV} : (numS).pan id h args = panP (args1 (tInt .i64) ((fun _ => True))) ((fun v => .ret (opV (oNum v)))) h args := rfl
theorem en_to (args : Array Value) (w : World) : (callFunc 119 args).run Tryz.prog w = .ok (.enter 119 args) w := by go_simp
def toS : Spec Tryz.prog 119 :=
  mk1 _ _ _ Tryz.func119 rfl en_to (tInt .i64) ((fun _ => True)) ((fun v => .ret (opV (oTo v)))) (by rw [Tryz.ntmps119]; decide) (fun v _ => by
  refine aRun_sound (ctx := []) 4000 ?_
  rw [Tryz.ntmps119, Tryz.results119]
  simp only [Tryz.f119, Option.getD_some, zipT]
  simp only [go_sem, opV, oTo, op0, r0, opR, opE, emp])
theorem to_run {id : Nat} {h : Heap} {args : List AV} : (toS).run id h args = runP (args1 (tInt .i64) ((fun _ => True))) ((fun v => .ret (opV (oTo v)))) h args := rfl
theorem to_pan {id : Nat} {h : Heap} {args : List AV} : (toS).pan id h args = panP (args1 (tInt .i64) ((fun _ => True))) ((fun v => .ret (opV (oTo v)))) h args := rfl
theorem en_of (args : Array Value) (w : World) : (callFunc 116 args).run Tryz.prog w = .ok (.enter 116 args) w := by go_simp
def ofS : Spec Tryz.prog 116 :=
  mk2 _ _ _ Tryz.func116 rfl en_of (tInt .i64) (tInt .i64) ((fun _ _ => True)) ((fun k n => .ret (opV (oOf k n)))) (by rw [Tryz.ntmps116]; decide) (fun k n _ => by
  refine aRun_sound (ctx := []) 4000 ?_
  rw [Tryz.ntmps116, Tryz.results116]
  simp only [Tryz.f116, Option.getD_some, zipT]
  simp only [go_sem, opV, oOf, op0, r0, opR, opE, emp])
theorem of_run {id : Nat} {h : Heap} {args : List AV} : (ofS).run id h args = runP (args2 (tInt .i64) (tInt .i64) ((fun _ _ => True))) (fun x => ((fun k n => .ret (opV (oOf k n)))) x.1 x.2) h args := rfl
theorem of_pan {id : Nat} {h : Heap} {args : List AV} : (ofS).pan id h args = panP (args2 (tInt .i64) (tInt .i64) ((fun _ _ => True))) (fun x => ((fun k n => .ret (opV (oOf k n)))) x.1 x.2) h args := rfl
theorem en_regSP (args : Array Value) (w : World) : (callFunc 161 args).run Tryz.prog w = .ok (.enter 161 args) w := by go_simp
def regSPS : Spec Tryz.prog 161 :=
  mk2 _ _ _ Tryz.func161 rfl en_regSP (tInt .i64) (tBool) ((fun _ _ => True)) ((fun n x => .ret (opV (oSP n x)))) (by rw [Tryz.ntmps161]; decide) (fun n x _ => by
  refine aRun_sound (ctx := []) 4000 ?_
  rw [Tryz.ntmps161, Tryz.results161]
  simp only [Tryz.f161, Option.getD_some, zipT]
  simp only [go_sem, opV, oSP, op0, r0, opR, opE, emp])
theorem regSP_run {id : Nat} {h : Heap} {args : List AV} : (regSPS).run id h args = runP (args2 (tInt .i64) (tBool) ((fun _ _ => True))) (fun x => ((fun n x => .ret (opV (oSP n x)))) x.1 x.2) h args := rfl
theorem regSP_pan {id : Nat} {h : Heap} {args : List AV} : (regSPS).pan id h args = panP (args2 (tInt .i64) (tBool) ((fun _ _ => True))) (fun x => ((fun n x => .ret (opV (oSP n x)))) x.1 x.2) h args := rfl
theorem en_with (args : Array Value) (w : World) : (callFunc 122 args).run Tryz.prog w = .ok (.enter 122 args) w := by go_simp
def withS : Spec Tryz.prog 122 :=
  mk3 _ _ _ Tryz.func122 rfl en_with (tAgg opR) (tInt .i64) (tInt .i64) ((fun _ _ _ => True)) ((fun o m a => .ret (opV (oWith o m a)))) (by rw [Tryz.ntmps122]; decide) (fun o m a _ => by
  refine aRun_sound (ctx := []) 4000 ?_
  rw [Tryz.ntmps122, Tryz.results122]
  simp only [Tryz.f122, Option.getD_some, zipT]
  simp only [go_sem, opV, oWith, opR, opE])
theorem with_run {id : Nat} {h : Heap} {args : List AV} : (withS).run id h args = runP (args3 (tAgg opR) (tInt .i64) (tInt .i64) ((fun _ _ _ => True))) (fun x => ((fun o m a => .ret (opV (oWith o m a)))) x.1 x.2.1 x.2.2) h args := rfl
theorem with_pan {id : Nat} {h : Heap} {args : List AV} : (withS).pan id h args = panP (args3 (tAgg opR) (tInt .i64) (tInt .i64) ((fun _ _ _ => True))) (fun x => ((fun o m a => .ret (opV (oWith o m a)))) x.1 x.2.1 x.2.2) h args := rfl
theorem en_memory (args : Array Value) (w : World) : (callFunc 165 args).run Tryz.prog w = .ok (.enter 165 args) w := by go_simp
def memoryS : Spec Tryz.prog 165 :=
  mk3 _ _ _ Tryz.func165 rfl en_memory (tInt .i64) (tInt .i64) (tInt .i64) ((fun _ _ _ => True)) ((fun b m o => .ret (opV (oMem b m o)))) (by rw [Tryz.ntmps165]; decide) (fun b m o _ => by
  refine aRun_sound (ctx := []) 4000 ?_
  rw [Tryz.ntmps165, Tryz.results165]
  simp only [Tryz.f165, Option.getD_some, zipT]
  simp only [go_sem, opV, oMem, op0, r0, opR, opE, emp])
theorem memory_run {id : Nat} {h : Heap} {args : List AV} : (memoryS).run id h args = runP (args3 (tInt .i64) (tInt .i64) (tInt .i64) ((fun _ _ _ => True))) (fun x => ((fun b m o => .ret (opV (oMem b m o)))) x.1 x.2.1 x.2.2) h args := rfl
theorem memory_pan {id : Nat} {h : Heap} {args : List AV} : (memoryS).pan id h args = panP (args3 (tInt .i64) (tInt .i64) (tInt .i64) ((fun _ _ _ => True))) (fun x => ((fun b m o => .ret (opV (oMem b m o)))) x.1 x.2.1 x.2.2) h args := rfl
theorem en_flagA (args : Array Value) (w : World) : (callFunc 24 args).run Tryz.prog w = .ok (.enter 24 args) w := by go_simp
def flagAS : Spec Tryz.prog 24 :=
  mk1 _ _ _ Tryz.func24 rfl en_flagA (tBool) ((fun _ => True)) ((fun q => .ret (.s (.l (.v (.int .i64 (flagN q))))))) (by rw [Tryz.ntmps24]; decide) (fun q _ => by
  refine aRun_sound (ctx := []) 4000 ?_
  rw [Tryz.ntmps24, Tryz.results24]
  simp only [Tryz.f24, Option.getD_some, zipT]
  cases q <;> simp only [go_sem, flagN])
theorem flagA_run {id : Nat} {h : Heap} {args : List AV} : (flagAS).run id h args = runP (args1 (tBool) ((fun _ => True))) ((fun q => .ret (.s (.l (.v (.int .i64 (flagN q))))))) h args := rfl
theorem flagA_pan {id : Nat} {h : Heap} {args : List AV} : (flagAS).pan id h args = panP (args1 (tBool) ((fun _ => True))) ((fun q => .ret (.s (.l (.v (.int .i64 (flagN q))))))) h args := rfl

/-! ### A step of the writer -/

theorem en_stD (args : Array Value) (w : World) : (callFunc 49 args).run Tryz.prog w = .ok (.enter 49 args) w := by go_simp
theorem stD_sw (x : Ins) (nm : ByteArray) (l : List OpV) (h : l.length ≤ 1000) (hq : True) : SW Tryz.prog ⟨none, 1⟩ Tryz.f49.ntmps (Tryz.f49.body.getD .skip) ⟨2, zipT 0 [.s (.l (.p 0 0 0))], zipH 0 [wrK x nm l.length 1, opsK l]⟩ (outR Tryz.prog Tryz.f49.results.toList 1 (outWr (.tup [], x, nm, l ++ [dO x]))) := by
  refine aRun_sound (ctx := []) 4000 ?_
  rw [Tryz.ntmps49, Tryz.results49]
  simp only [Tryz.f49, Option.getD_some, zipT]
  simp only [go_sem, wrK, insE, opsK]
  refine sw_draw (ctx := [⟨_, regS⟩, ⟨_, putS⟩]) mixed [12] (by kernel_rfl) ?_
  simp only [go_sem, reg_run, reg_pan, put_run, put_pan, opV, dO, oReg, op0, r0, opR, opE, emp, decW, decWr, decWrL, decOps_map, xwT, outWr, wrK, insE, opsK, opL_ren, h]
  refine leftWr (x := x) (nm := nm) (l := l ++ [dO x]) (tb := 194) rfl ?_ ?_ (by decide)
  · simp [hget, wrK, insE, dO]
  · simp [hget, opsK, dO, oReg, op0, r0, emp]
def stDS : Spec Tryz.prog 49 :=
  mkW _ _ _ Tryz.func49 rfl en_stD xw0 (fun _ x l => l.length ≤ 1000 ∧ (True)) (fun _ x nm l => (.tup [], x, nm, l ++ [dO x])) (by rw [Tryz.ntmps49]; decide) (fun _ x nm l h => stD_sw x nm l h.1 h.2)
theorem stD_run {id : Nat} {h : Heap} {args : List AV} : stDS.run id h args = runR 1 (decW xw0 (fun _ x l => l.length ≤ 1000 ∧ (True))) (fun y => outWr ((fun _ x nm l => (.tup [], x, nm, l ++ [dO x])) y.1 y.2.1 y.2.2.1 y.2.2.2)) id h args := rfl
theorem stD_pan {id : Nat} {h : Heap} {args : List AV} : stDS.pan id h args = panR (decW xw0 (fun _ x l => l.length ≤ 1000 ∧ (True))) (fun y => outWr ((fun _ x nm l => (.tup [], x, nm, l ++ [dO x])) y.1 y.2.1 y.2.2.1 y.2.2.2)) h args := rfl

theorem en_stN (args : Array Value) (w : World) : (callFunc 50 args).run Tryz.prog w = .ok (.enter 50 args) w := by go_simp
theorem stN_sw (x : Ins) (nm : ByteArray) (l : List OpV) (h : l.length ≤ 1000) (hq : True) : SW Tryz.prog ⟨none, 1⟩ Tryz.f50.ntmps (Tryz.f50.body.getD .skip) ⟨2, zipT 0 [.s (.l (.p 0 0 0))], zipH 0 [wrK x nm l.length 1, opsK l]⟩ (outR Tryz.prog Tryz.f50.results.toList 1 (outWr (.tup [], x, nm, l ++ [nO x]))) := by
  refine aRun_sound (ctx := []) 4000 ?_
  rw [Tryz.ntmps50, Tryz.results50]
  simp only [Tryz.f50, Option.getD_some, zipT]
  simp only [go_sem, wrK, insE, opsK]
  refine sw_draw (ctx := [⟨_, regS⟩, ⟨_, putS⟩]) mixed [12] (by kernel_rfl) ?_
  simp only [go_sem, reg_run, reg_pan, put_run, put_pan, opV, nO, oReg, op0, r0, opR, opE, emp, decW, decWr, decWrL, decOps_map, xwT, outWr, wrK, insE, opsK, opL_ren, h]
  refine leftWr (x := x) (nm := nm) (l := l ++ [nO x]) (tb := 194) rfl ?_ ?_ (by decide)
  · simp [hget, wrK, insE, dO]
  · simp [hget, opsK, nO, oReg, op0, r0, emp]
def stNS : Spec Tryz.prog 50 :=
  mkW _ _ _ Tryz.func50 rfl en_stN xw0 (fun _ x l => l.length ≤ 1000 ∧ (True)) (fun _ x nm l => (.tup [], x, nm, l ++ [nO x])) (by rw [Tryz.ntmps50]; decide) (fun _ x nm l h => stN_sw x nm l h.1 h.2)
theorem stN_run {id : Nat} {h : Heap} {args : List AV} : stNS.run id h args = runR 1 (decW xw0 (fun _ x l => l.length ≤ 1000 ∧ (True))) (fun y => outWr ((fun _ x nm l => (.tup [], x, nm, l ++ [nO x])) y.1 y.2.1 y.2.2.1 y.2.2.2)) id h args := rfl
theorem stN_pan {id : Nat} {h : Heap} {args : List AV} : stNS.pan id h args = panR (decW xw0 (fun _ x l => l.length ≤ 1000 ∧ (True))) (fun y => outWr ((fun _ x nm l => (.tup [], x, nm, l ++ [nO x])) y.1 y.2.1 y.2.2.1 y.2.2.2)) h args := rfl

theorem en_stM (args : Array Value) (w : World) : (callFunc 56 args).run Tryz.prog w = .ok (.enter 56 args) w := by go_simp
theorem stM_sw (x : Ins) (nm : ByteArray) (l : List OpV) (h : l.length ≤ 1000) (hq : True) : SW Tryz.prog ⟨none, 1⟩ Tryz.f56.ntmps (Tryz.f56.body.getD .skip) ⟨2, zipT 0 [.s (.l (.p 0 0 0))], zipH 0 [wrK x nm l.length 1, opsK l]⟩ (outR Tryz.prog Tryz.f56.results.toList 1 (outWr (.tup [], x, nm, l ++ [mO x]))) := by
  refine aRun_sound (ctx := []) 4000 ?_
  rw [Tryz.ntmps56, Tryz.results56]
  simp only [Tryz.f56, Option.getD_some, zipT]
  simp only [go_sem, wrK, insE, opsK]
  refine sw_draw (ctx := [⟨_, regS⟩, ⟨_, putS⟩]) mixed [12] (by kernel_rfl) ?_
  simp only [go_sem, reg_run, reg_pan, put_run, put_pan, opV, mO, oReg, op0, r0, opR, opE, emp, decW, decWr, decWrL, decOps_map, xwT, outWr, wrK, insE, opsK, opL_ren, h]
  refine leftWr (x := x) (nm := nm) (l := l ++ [mO x]) (tb := 194) rfl ?_ ?_ (by decide)
  · simp [hget, wrK, insE, dO]
  · simp [hget, opsK, mO, oReg, op0, r0, emp]
def stMS : Spec Tryz.prog 56 :=
  mkW _ _ _ Tryz.func56 rfl en_stM xw0 (fun _ x l => l.length ≤ 1000 ∧ (True)) (fun _ x nm l => (.tup [], x, nm, l ++ [mO x])) (by rw [Tryz.ntmps56]; decide) (fun _ x nm l h => stM_sw x nm l h.1 h.2)
theorem stM_run {id : Nat} {h : Heap} {args : List AV} : stMS.run id h args = runR 1 (decW xw0 (fun _ x l => l.length ≤ 1000 ∧ (True))) (fun y => outWr ((fun _ x nm l => (.tup [], x, nm, l ++ [mO x])) y.1 y.2.1 y.2.2.1 y.2.2.2)) id h args := rfl
theorem stM_pan {id : Nat} {h : Heap} {args : List AV} : stMS.pan id h args = panR (decW xw0 (fun _ x l => l.length ≤ 1000 ∧ (True))) (fun y => outWr ((fun _ x nm l => (.tup [], x, nm, l ++ [mO x])) y.1 y.2.1 y.2.2.1 y.2.2.2)) h args := rfl

theorem en_stA (args : Array Value) (w : World) : (callFunc 130 args).run Tryz.prog w = .ok (.enter 130 args) w := by go_simp
theorem stA_sw (x : Ins) (nm : ByteArray) (l : List OpV) (h : l.length ≤ 1000) (hq : True) : SW Tryz.prog ⟨none, 1⟩ Tryz.f130.ntmps (Tryz.f130.body.getD .skip) ⟨2, zipT 0 [.s (.l (.p 0 0 0))], zipH 0 [wrK x nm l.length 1, opsK l]⟩ (outR Tryz.prog Tryz.f130.results.toList 1 (outWr (.tup [], x, nm, l ++ [aO x]))) := by
  refine aRun_sound (ctx := []) 4000 ?_
  rw [Tryz.ntmps130, Tryz.results130]
  simp only [Tryz.f130, Option.getD_some, zipT]
  simp only [go_sem, wrK, insE, opsK]
  refine sw_draw (ctx := [⟨_, regS⟩, ⟨_, putS⟩]) mixed [12] (by kernel_rfl) ?_
  simp only [go_sem, reg_run, reg_pan, put_run, put_pan, opV, aO, oReg, op0, r0, opR, opE, emp, decW, decWr, decWrL, decOps_map, xwT, outWr, wrK, insE, opsK, opL_ren, h]
  refine leftWr (x := x) (nm := nm) (l := l ++ [aO x]) (tb := 194) rfl ?_ ?_ (by decide)
  · simp [hget, wrK, insE, dO]
  · simp [hget, opsK, aO, oReg, op0, r0, emp]
def stAS : Spec Tryz.prog 130 :=
  mkW _ _ _ Tryz.func130 rfl en_stA xw0 (fun _ x l => l.length ≤ 1000 ∧ (True)) (fun _ x nm l => (.tup [], x, nm, l ++ [aO x])) (by rw [Tryz.ntmps130]; decide) (fun _ x nm l h => stA_sw x nm l h.1 h.2)
theorem stA_run {id : Nat} {h : Heap} {args : List AV} : stAS.run id h args = runR 1 (decW xw0 (fun _ x l => l.length ≤ 1000 ∧ (True))) (fun y => outWr ((fun _ x nm l => (.tup [], x, nm, l ++ [aO x])) y.1 y.2.1 y.2.2.1 y.2.2.2)) id h args := rfl
theorem stA_pan {id : Nat} {h : Heap} {args : List AV} : stAS.pan id h args = panR (decW xw0 (fun _ x l => l.length ≤ 1000 ∧ (True))) (fun y => outWr ((fun _ x nm l => (.tup [], x, nm, l ++ [aO x])) y.1 y.2.1 y.2.2.1 y.2.2.2)) h args := rfl

theorem en_stDs (args : Array Value) (w : World) : (callFunc 107 args).run Tryz.prog w = .ok (.enter 107 args) w := by go_simp
theorem stDs_sw (x : Ins) (nm : ByteArray) (l : List OpV) (h : l.length ≤ 1000) (hq : True) : SW Tryz.prog ⟨none, 1⟩ Tryz.f107.ntmps (Tryz.f107.body.getD .skip) ⟨2, zipT 0 [.s (.l (.p 0 0 0))], zipH 0 [wrK x nm l.length 1, opsK l]⟩ (outR Tryz.prog Tryz.f107.results.toList 1 (outWr (.tup [], x, nm, l ++ [dsO x]))) := by
  refine aRun_sound (ctx := []) 4000 ?_
  rw [Tryz.ntmps107, Tryz.results107]
  simp only [Tryz.f107, Option.getD_some, zipT]
  simp only [go_sem, wrK, insE, opsK]
  refine sw_draw (ctx := [⟨_, regSPS⟩, ⟨_, putS⟩]) mixed [12] (by kernel_rfl) ?_
  simp only [go_sem, regSP_run, regSP_pan, put_run, put_pan, opV, dsO, oSP, op0, r0, opR, opE, emp, decW, decWr, decWrL, decOps_map, xwT, outWr, wrK, insE, opsK, opL_ren, h]
  refine leftWr (x := x) (nm := nm) (l := l ++ [dsO x]) (tb := 194) rfl ?_ ?_ (by decide)
  · simp [hget, wrK, insE, dO]
  · simp [hget, opsK, dsO, oSP, op0, r0, emp]
def stDsS : Spec Tryz.prog 107 :=
  mkW _ _ _ Tryz.func107 rfl en_stDs xw0 (fun _ x l => l.length ≤ 1000 ∧ (True)) (fun _ x nm l => (.tup [], x, nm, l ++ [dsO x])) (by rw [Tryz.ntmps107]; decide) (fun _ x nm l h => stDs_sw x nm l h.1 h.2)
theorem stDs_run {id : Nat} {h : Heap} {args : List AV} : stDsS.run id h args = runR 1 (decW xw0 (fun _ x l => l.length ≤ 1000 ∧ (True))) (fun y => outWr ((fun _ x nm l => (.tup [], x, nm, l ++ [dsO x])) y.1 y.2.1 y.2.2.1 y.2.2.2)) id h args := rfl
theorem stDs_pan {id : Nat} {h : Heap} {args : List AV} : stDsS.pan id h args = panR (decW xw0 (fun _ x l => l.length ≤ 1000 ∧ (True))) (fun y => outWr ((fun _ x nm l => (.tup [], x, nm, l ++ [dsO x])) y.1 y.2.1 y.2.2.1 y.2.2.2)) h args := rfl

theorem en_stNs (args : Array Value) (w : World) : (callFunc 104 args).run Tryz.prog w = .ok (.enter 104 args) w := by go_simp
theorem stNs_sw (x : Ins) (nm : ByteArray) (l : List OpV) (h : l.length ≤ 1000) (hq : True) : SW Tryz.prog ⟨none, 1⟩ Tryz.f104.ntmps (Tryz.f104.body.getD .skip) ⟨2, zipT 0 [.s (.l (.p 0 0 0))], zipH 0 [wrK x nm l.length 1, opsK l]⟩ (outR Tryz.prog Tryz.f104.results.toList 1 (outWr (.tup [], x, nm, l ++ [nsO x]))) := by
  refine aRun_sound (ctx := []) 4000 ?_
  rw [Tryz.ntmps104, Tryz.results104]
  simp only [Tryz.f104, Option.getD_some, zipT]
  simp only [go_sem, wrK, insE, opsK]
  refine sw_draw (ctx := [⟨_, regSPS⟩, ⟨_, putS⟩]) mixed [12] (by kernel_rfl) ?_
  simp only [go_sem, regSP_run, regSP_pan, put_run, put_pan, opV, nsO, oSP, op0, r0, opR, opE, emp, decW, decWr, decWrL, decOps_map, xwT, outWr, wrK, insE, opsK, opL_ren, h]
  refine leftWr (x := x) (nm := nm) (l := l ++ [nsO x]) (tb := 194) rfl ?_ ?_ (by decide)
  · simp [hget, wrK, insE, dO]
  · simp [hget, opsK, nsO, oSP, op0, r0, emp]
def stNsS : Spec Tryz.prog 104 :=
  mkW _ _ _ Tryz.func104 rfl en_stNs xw0 (fun _ x l => l.length ≤ 1000 ∧ (True)) (fun _ x nm l => (.tup [], x, nm, l ++ [nsO x])) (by rw [Tryz.ntmps104]; decide) (fun _ x nm l h => stNs_sw x nm l h.1 h.2)
theorem stNs_run {id : Nat} {h : Heap} {args : List AV} : stNsS.run id h args = runR 1 (decW xw0 (fun _ x l => l.length ≤ 1000 ∧ (True))) (fun y => outWr ((fun _ x nm l => (.tup [], x, nm, l ++ [nsO x])) y.1 y.2.1 y.2.2.1 y.2.2.2)) id h args := rfl
theorem stNs_pan {id : Nat} {h : Heap} {args : List AV} : stNsS.pan id h args = panR (decW xw0 (fun _ x l => l.length ≤ 1000 ∧ (True))) (fun y => outWr ((fun _ x nm l => (.tup [], x, nm, l ++ [nsO x])) y.1 y.2.1 y.2.2.1 y.2.2.2)) h args := rfl

theorem en_stXd (args : Array Value) (w : World) : (callFunc 120 args).run Tryz.prog w = .ok (.enter 120 args) w := by go_simp
theorem stXd_sw (x : Ins) (nm : ByteArray) (l : List OpV) (h : l.length ≤ 1000) (hq : True) : SW Tryz.prog ⟨none, 1⟩ Tryz.f120.ntmps (Tryz.f120.body.getD .skip) ⟨2, zipT 0 [.s (.l (.p 0 0 0))], zipH 0 [wrK x nm l.length 1, opsK l]⟩ (outR Tryz.prog Tryz.f120.results.toList 1 (outWr (.tup [], x, nm, l ++ [xdO x]))) := by
  refine aRun_sound (ctx := [⟨_, regS⟩, ⟨_, putS⟩]) 4000 ?_
  rw [Tryz.ntmps120, Tryz.results120]
  simp only [Tryz.f120, Option.getD_some, zipT]
  simp only [go_sem, reg_run, reg_pan, put_run, put_pan, opV, xdO, oReg, op0, r0, opR, opE, emp, decW, decWr, decWrL, decOps_map, xwT, outWr, wrK, insE, opsK, opL_ren, h]
  refine leftWr (x := x) (nm := nm) (l := l ++ [xdO x]) (tb := 114) rfl ?_ ?_ (by decide)
  · simp [hget, wrK, insE, dO]
  · simp [hget, opsK, xdO, oReg, op0, r0, emp]
def stXdS : Spec Tryz.prog 120 :=
  mkW _ _ _ Tryz.func120 rfl en_stXd xw0 (fun _ x l => l.length ≤ 1000 ∧ (True)) (fun _ x nm l => (.tup [], x, nm, l ++ [xdO x])) (by rw [Tryz.ntmps120]; decide) (fun _ x nm l h => stXd_sw x nm l h.1 h.2)
theorem stXd_run {id : Nat} {h : Heap} {args : List AV} : stXdS.run id h args = runR 1 (decW xw0 (fun _ x l => l.length ≤ 1000 ∧ (True))) (fun y => outWr ((fun _ x nm l => (.tup [], x, nm, l ++ [xdO x])) y.1 y.2.1 y.2.2.1 y.2.2.2)) id h args := rfl
theorem stXd_pan {id : Nat} {h : Heap} {args : List AV} : stXdS.pan id h args = panR (decW xw0 (fun _ x l => l.length ≤ 1000 ∧ (True))) (fun y => outWr ((fun _ x nm l => (.tup [], x, nm, l ++ [xdO x])) y.1 y.2.1 y.2.2.1 y.2.2.2)) h args := rfl

theorem en_stNum (args : Array Value) (w : World) : (callFunc 51 args).run Tryz.prog w = .ok (.enter 51 args) w := by go_simp
theorem stNum_sw (x : Ins) (nm : ByteArray) (l : List OpV) (h : l.length ≤ 1000) (hq : True) : SW Tryz.prog ⟨none, 1⟩ Tryz.f51.ntmps (Tryz.f51.body.getD .skip) ⟨2, zipT 0 [.s (.l (.p 0 0 0))], zipH 0 [wrK x nm l.length 1, opsK l]⟩ (outR Tryz.prog Tryz.f51.results.toList 1 (outWr (.tup [], x, nm, l ++ [numO' x]))) := by
  refine aRun_sound (ctx := [⟨_, numS⟩, ⟨_, putS⟩]) 4000 ?_
  rw [Tryz.ntmps51, Tryz.results51]
  simp only [Tryz.f51, Option.getD_some, zipT]
  simp only [go_sem, num_run, num_pan, put_run, put_pan, opV, numO', oNum, op0, r0, opR, opE, emp, decW, decWr, decWrL, decOps_map, xwT, outWr, wrK, insE, opsK, opL_ren, h]
  refine leftWr (x := x) (nm := nm) (l := l ++ [numO' x]) (tb := 114) rfl ?_ ?_ (by decide)
  · simp [hget, wrK, insE, dO]
  · simp [hget, opsK, numO', oNum, op0, r0, emp]
def stNumS : Spec Tryz.prog 51 :=
  mkW _ _ _ Tryz.func51 rfl en_stNum xw0 (fun _ x l => l.length ≤ 1000 ∧ (True)) (fun _ x nm l => (.tup [], x, nm, l ++ [numO' x])) (by rw [Tryz.ntmps51]; decide) (fun _ x nm l h => stNum_sw x nm l h.1 h.2)
theorem stNum_run {id : Nat} {h : Heap} {args : List AV} : stNumS.run id h args = runR 1 (decW xw0 (fun _ x l => l.length ≤ 1000 ∧ (True))) (fun y => outWr ((fun _ x nm l => (.tup [], x, nm, l ++ [numO' x])) y.1 y.2.1 y.2.2.1 y.2.2.2)) id h args := rfl
theorem stNum_pan {id : Nat} {h : Heap} {args : List AV} : stNumS.pan id h args = panR (decW xw0 (fun _ x l => l.length ≤ 1000 ∧ (True))) (fun y => outWr ((fun _ x nm l => (.tup [], x, nm, l ++ [numO' x])) y.1 y.2.1 y.2.2.1 y.2.2.2)) h args := rfl

theorem en_stCond (args : Array Value) (w : World) : (callFunc 128 args).run Tryz.prog w = .ok (.enter 128 args) w := by go_simp
theorem stCond_sw (x : Ins) (nm : ByteArray) (l : List OpV) (h : l.length ≤ 1000) (hq : True) : SW Tryz.prog ⟨none, 1⟩ Tryz.f128.ntmps (Tryz.f128.body.getD .skip) ⟨2, zipT 0 [.s (.l (.p 0 0 0))], zipH 0 [wrK x nm l.length 1, opsK l]⟩ (outR Tryz.prog Tryz.f128.results.toList 1 (outWr (.tup [], x, nm, l ++ [condO x]))) := by
  refine aRun_sound (ctx := [⟨_, ofS⟩, ⟨_, putS⟩]) 4000 ?_
  rw [Tryz.ntmps128, Tryz.results128]
  simp only [Tryz.f128, Option.getD_some, zipT]
  simp only [go_sem, of_run, of_pan, put_run, put_pan, opV, condO, oOf, op0, r0, opR, opE, emp, decW, decWr, decWrL, decOps_map, xwT, outWr, wrK, insE, opsK, opL_ren, h]
  refine leftWr (x := x) (nm := nm) (l := l ++ [condO x]) (tb := 114) rfl ?_ ?_ (by decide)
  · simp [hget, wrK, insE, dO]
  · simp [hget, opsK, condO, oOf, op0, r0, emp]
def stCondS : Spec Tryz.prog 128 :=
  mkW _ _ _ Tryz.func128 rfl en_stCond xw0 (fun _ x l => l.length ≤ 1000 ∧ (True)) (fun _ x nm l => (.tup [], x, nm, l ++ [condO x])) (by rw [Tryz.ntmps128]; decide) (fun _ x nm l h => stCond_sw x nm l h.1 h.2)
theorem stCond_run {id : Nat} {h : Heap} {args : List AV} : stCondS.run id h args = runR 1 (decW xw0 (fun _ x l => l.length ≤ 1000 ∧ (True))) (fun y => outWr ((fun _ x nm l => (.tup [], x, nm, l ++ [condO x])) y.1 y.2.1 y.2.2.1 y.2.2.2)) id h args := rfl
theorem stCond_pan {id : Nat} {h : Heap} {args : List AV} : stCondS.pan id h args = panR (decW xw0 (fun _ x l => l.length ≤ 1000 ∧ (True))) (fun y => outWr ((fun _ x nm l => (.tup [], x, nm, l ++ [condO x])) y.1 y.2.1 y.2.2.1 y.2.2.2)) h args := rfl

theorem en_stFar (args : Array Value) (w : World) : (callFunc 123 args).run Tryz.prog w = .ok (.enter 123 args) w := by go_simp
theorem stFar_sw (x : Ins) (nm : ByteArray) (l : List OpV) (h : l.length ≤ 1000) (hq : -1152921504606846976 ≤ x.a ∧ x.a ≤ 1152921504606846976) : SW Tryz.prog ⟨none, 1⟩ Tryz.f123.ntmps (Tryz.f123.body.getD .skip) ⟨2, zipT 0 [.s (.l (.p 0 0 0))], zipH 0 [wrK x nm l.length 1, opsK l]⟩ (outR Tryz.prog Tryz.f123.results.toList 1 (outWr (.tup [], x, nm, l ++ [farO x]))) := by
  have hw : IntKind.i64.wrap (4 * x.a) = 4 * x.a := by rw [IntKind.wrap_i64]; omega
  refine aRun_sound (ctx := [⟨_, toS⟩, ⟨_, putS⟩]) 4000 ?_
  rw [Tryz.ntmps123, Tryz.results123]
  simp only [Tryz.f123, Option.getD_some, zipT]
  simp only [go_sem, to_run, to_pan, put_run, put_pan, opV, farO, oTo, op0, r0, opR, opE, emp, decW, decWr, decWrL, decOps_map, xwT, outWr, wrK, insE, opsK, opL_ren, h, hw]
  refine leftWr (x := x) (nm := nm) (l := l ++ [farO x]) (tb := 130) rfl ?_ ?_ (by decide)
  · simp [hget, wrK, insE, dO]
  · simp [hget, opsK, farO, oTo, op0, r0, emp]
def stFarS : Spec Tryz.prog 123 :=
  mkW _ _ _ Tryz.func123 rfl en_stFar xw0 (fun _ x l => l.length ≤ 1000 ∧ (-1152921504606846976 ≤ x.a ∧ x.a ≤ 1152921504606846976)) (fun _ x nm l => (.tup [], x, nm, l ++ [farO x])) (by rw [Tryz.ntmps123]; decide) (fun _ x nm l h => stFar_sw x nm l h.1 h.2)
theorem stFar_run {id : Nat} {h : Heap} {args : List AV} : stFarS.run id h args = runR 1 (decW xw0 (fun _ x l => l.length ≤ 1000 ∧ (-1152921504606846976 ≤ x.a ∧ x.a ≤ 1152921504606846976))) (fun y => outWr ((fun _ x nm l => (.tup [], x, nm, l ++ [farO x])) y.1 y.2.1 y.2.2.1 y.2.2.2)) id h args := rfl
theorem stFar_pan {id : Nat} {h : Heap} {args : List AV} : stFarS.pan id h args = panR (decW xw0 (fun _ x l => l.length ≤ 1000 ∧ (-1152921504606846976 ≤ x.a ∧ x.a ≤ 1152921504606846976))) (fun y => outWr ((fun _ x nm l => (.tup [], x, nm, l ++ [farO x])) y.1 y.2.1 y.2.2.1 y.2.2.2)) h args := rfl

end Go.Proofs.YtpjlafmhoifkmaaGreat
