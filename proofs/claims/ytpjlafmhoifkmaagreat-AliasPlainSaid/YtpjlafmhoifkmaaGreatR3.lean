/- Instructions as lines: the other steps of the writer. Instructions as lines: classes of two sources, and others. -/
import Derived.Test.YtpjlafmhoifkmaaGreatJ7
import Derived.Test.YtpjlafmhoifkmaaGreatI4
set_option linter.unusedVariables false
set_option linter.unusedSimpArgs false
namespace Go.Proofs.YtpjlafmhoifkmaaGreat
open Go.RowKit
set_option maxRecDepth 100000

/-! ### The last register shifted -/
theorem movedL_no {x : Ins} {l : List OpV} (h : x.a = 0 ∧ x.c = 0) : movedL x l = l := by unfold movedL; rw [if_pos h]
theorem opL_set (l : List OpV) (i : Nat) (o : OpV) : (l.map opL).set i (opL o) = (l.set i o).map opL := by rw [List.map_set]
theorem en_stMv (args : Array Value) (w : World) : (callFunc 113 args).run Tryz.prog w = .ok (.enter 113 args) w := by go_simp
set_option maxHeartbeats 4000000 in
theorem stMv_sw (x : Ins) (nm : ByteArray) (l : List OpV) (hl : l.length ≤ 1000 ∧ l ≠ []) (hc : 0 ≤ x.c ∧ x.c ≤ 7) : SW Tryz.prog ⟨none, 1⟩ Tryz.f113.ntmps (Tryz.f113.body.getD .skip) ⟨2, zipT 0 [.s (.l (.p 0 0 0))], zipH 0 [wrK x nm l.length 1, opsK l]⟩ (outR Tryz.prog Tryz.f113.results.toList 1 (outWr (.tup [], x, nm, movedL x l))) := by
  refine aRun_sound (ctx := []) 4000 ?_
  rw [Tryz.ntmps113, Tryz.results113]
  simp only [Tryz.f113, Option.getD_some, zipT]
  cases h1 : x.a == 0
  case true =>
    cases h2 : x.c == 0
    case true =>
      have e := movedL_no (l := l) (x := x) ⟨by simpa using h1, by simpa using h2⟩
      rw [e]
      simp only [go_sem, wrK, insE, opsK, h1, h2]
      refine leftWr (x := x) (nm := nm) (l := l) (tb := 1) rfl ?_ ?_ (by decide)
      · simp [hget, wrK, insE]
      · simp [hget, opsK]
    case false =>
      have hne : ¬ (x.a = 0 ∧ x.c = 0) := by
        rintro ⟨g1, g2⟩
        simp [g1, g2] at h1 h2
      have hpos : 0 < l.length := List.length_pos_iff.2 hl.2
      obtain ⟨o, ho⟩ : ∃ o, l[l.length - 1]? = some o := ⟨_, List.getElem?_eq_getElem (by omega)⟩
      have hd : l.getD (l.length - 1) (op0 0) = o := by rw [List.getD_eq_getElem?_getD, ho]; rfl
      have e : movedL x l = l.set (l.length - 1) (oWith o (1 + x.c) x.a) := by unfold movedL; rw [if_neg hne, hd]
      have e1 : IntKind.i64.wrap ((l.length : Int) - 1) = ((l.length - 1 : Nat) : Int) := by rw [IntKind.wrap_i64]; omega
      have e2 : IntKind.i64.wrap (1 + x.c) = 1 + x.c := by rw [IntKind.wrap_i64]; omega
      have t : ∀ n : Nat, Int.toNat (n : Int) = n := fun _ => rfl
      have i0 : (0 : Int) ≤ ((l.length - 1 : Nat) : Int) := Int.natCast_nonneg _
      have ilt : ((l.length - 1 : Nat) : Int) < (l.length : Int) := by omega
      have iltN : l.length - 1 < l.length := by omega
      have hrow : (l.map opL)[l.length - 1]? = some (opL o) := by rw [List.getElem?_map, ho]; rfl
      rw [e]
      simp only [go_sem, wrK, insE, opsK, h1, h2, e1]
      refine sw_draw (ctx := [⟨_, withS⟩]) mixed [27] (by kernel_rfl) ?_
      simp only [go_sem, e2, t, i0, ilt, iltN, hrow, opL, ofDs, ofD, opE, with_run, with_pan, opV, opR, oWith, List.length_map, ho]
      refine leftWr (x := x) (nm := nm) (l := l.set (l.length - 1) (oWith o (1 + x.c) x.a)) (tb := 1) rfl ?_ ?_ (by decide)
      · rw [List.length_set]
        rfl
      · exact congrArg (fun r => some (⟨true, 40, 15, r⟩ : Blk)) (opL_set l (l.length - 1) (oWith o (1 + x.c) x.a))
  case false =>
      have hne : ¬ (x.a = 0 ∧ x.c = 0) := by
        rintro ⟨g1, g2⟩
        simp [g1, g2] at h1
      have hpos : 0 < l.length := List.length_pos_iff.2 hl.2
      obtain ⟨o, ho⟩ : ∃ o, l[l.length - 1]? = some o := ⟨_, List.getElem?_eq_getElem (by omega)⟩
      have hd : l.getD (l.length - 1) (op0 0) = o := by rw [List.getD_eq_getElem?_getD, ho]; rfl
      have e : movedL x l = l.set (l.length - 1) (oWith o (1 + x.c) x.a) := by unfold movedL; rw [if_neg hne, hd]
      have e1 : IntKind.i64.wrap ((l.length : Int) - 1) = ((l.length - 1 : Nat) : Int) := by rw [IntKind.wrap_i64]; omega
      have e2 : IntKind.i64.wrap (1 + x.c) = 1 + x.c := by rw [IntKind.wrap_i64]; omega
      have t : ∀ n : Nat, Int.toNat (n : Int) = n := fun _ => rfl
      have i0 : (0 : Int) ≤ ((l.length - 1 : Nat) : Int) := Int.natCast_nonneg _
      have ilt : ((l.length - 1 : Nat) : Int) < (l.length : Int) := by omega
      have iltN : l.length - 1 < l.length := by omega
      have hrow : (l.map opL)[l.length - 1]? = some (opL o) := by rw [List.getElem?_map, ho]; rfl
      rw [e]
      simp only [go_sem, wrK, insE, opsK, h1,  e1]
      refine sw_draw (ctx := [⟨_, withS⟩]) mixed [27] (by kernel_rfl) ?_
      simp only [go_sem, e2, t, i0, ilt, iltN, hrow, opL, ofDs, ofD, opE, with_run, with_pan, opV, opR, oWith, List.length_map, ho]
      refine leftWr (x := x) (nm := nm) (l := l.set (l.length - 1) (oWith o (1 + x.c) x.a)) (tb := 1) rfl ?_ ?_ (by decide)
      · rw [List.length_set]
        rfl
      · exact congrArg (fun r => some (⟨true, 40, 15, r⟩ : Blk)) (opL_set l (l.length - 1) (oWith o (1 + x.c) x.a))
def stMvS : Spec Tryz.prog 113 :=
  mkW _ _ _ Tryz.func113 rfl en_stMv xw0 (fun _ x l => (l.length ≤ 1000 ∧ l ≠ []) ∧ (0 ≤ x.c ∧ x.c ≤ 7)) (fun _ x nm l => (.tup [], x, nm, movedL x l)) (by rw [Tryz.ntmps113]; decide) (fun _ x nm l h => stMv_sw x nm l h.1 h.2)
def stpMv : Stp := ⟨113, movedL, fun x l => (l.length ≤ 1000 ∧ l ≠ []) ∧ (0 ≤ x.c ∧ x.c ≤ 7), stMvS, fun _ _ _ => rfl, fun _ _ _ => rfl⟩

/-! ### The last register extended -/
theorem en_stEx (args : Array Value) (w : World) : (callFunc 114 args).run Tryz.prog w = .ok (.enter 114 args) w := by go_simp
theorem and3 {c : Int} (h : 0 ≤ c ∧ c ≤ 7) : bits .and .i64 c 3 = c % 4 := by
  have : c = 0 ∨ c = 1 ∨ c = 2 ∨ c = 3 ∨ c = 4 ∨ c = 5 ∨ c = 6 ∨ c = 7 := by omega
  rcases this with rfl | rfl | rfl | rfl | rfl | rfl | rfl | rfl <;> decide
set_option maxHeartbeats 2000000 in
theorem stEx_sw (x : Ins) (nm : ByteArray) (l : List OpV) (h : l.length ≤ 1000) (hc : 0 ≤ x.c ∧ x.c ≤ 7) : SW Tryz.prog ⟨none, 1⟩ Tryz.f114.ntmps (Tryz.f114.body.getD .skip) ⟨2, zipT 0 [.s (.l (.p 0 0 0))], zipH 0 [wrK x nm l.length 1, opsK l]⟩ (outR Tryz.prog Tryz.f114.results.toList 1 (outWr (.tup [], x, nm, l ++ [extO x]))) := by
  refine aRun_sound (ctx := [⟨_, regS⟩, ⟨_, withS⟩, ⟨_, putS⟩]) 4000 ?_
  rw [Tryz.ntmps114, Tryz.results114]
  simp only [Tryz.f114, Option.getD_some, zipT]
  have e1 := and3 hc
  have e2 : (x.c % 4 == 3) = decide (x.c % 4 = 3) := by by_cases h : x.c % 4 = 3 <;> simp [h]
  have e3 : IntKind.i64.wrap (5 + x.c) = 5 + x.c := by rw [IntKind.wrap_i64]; omega
  simp only [go_sem, wrK, insE, opsK]
  refine sw_draw (ctx := [⟨_, regS⟩, ⟨_, withS⟩, ⟨_, putS⟩]) mixed [26] (by kernel_rfl) ?_
  simp only [go_sem, e1, e2, e3, reg_run, reg_pan, with_run, with_pan, put_run, put_pan, opV, oReg, oWith, op0, r0, opR, opE, emp, decW, decWr, decWrL, decOps_map, xwT, outWr, wrK, insE, opsK, opL_ren, h]
  refine leftWr (x := x) (nm := nm) (l := l ++ [extO x]) (tb := 418) rfl ?_ ?_ (by decide)
  · simp [hget, wrK, insE, extO]
  · simp [hget, opsK, extO, oReg, oWith, op0, r0, emp]
def stExS : Spec Tryz.prog 114 :=
  mkW _ _ _ Tryz.func114 rfl en_stEx xw0 (fun _ x l => l.length ≤ 1000 ∧ (0 ≤ x.c ∧ x.c ≤ 7)) (fun _ x nm l => (.tup [], x, nm, l ++ [extO x])) (by rw [Tryz.ntmps114]; decide) (fun _ x nm l h => stEx_sw x nm l h.1 h.2)
def stpEx : Stp := ⟨114, fun x l => l ++ [extO x], fun x l => l.length ≤ 1000 ∧ (0 ≤ x.c ∧ x.c ≤ 7), stExS, fun _ _ _ => rfl, fun _ _ _ => rfl⟩

/-! ### The numbers of a system instruction -/
def sysO' (x : Ins) (i : Nat) : OpV := [oNum (bits .and .i64 (x.a.fdiv 2048) 7), oNum (bits .and .i64 (x.a.fdiv 128) 15), oNum (bits .and .i64 (x.a.fdiv 8) 15), oNum (bits .and .i64 (x.a.fdiv 1) 7)].getD i (oNum 0)
theorem en_stSy (args : Array Value) (w : World) : (callFunc 118 args).run Tryz.prog w = .ok (.enter 118 args) w := by go_simp
theorem pin1 (L : List Nat) (j : Nat) (hj : j < 1) : (0 :: L)[j]? = some j := by
  obtain rfl : j = 0 := Nat.lt_one_iff.1 hj
  rfl
def sysA (x : Ins) : List OpV := [sysO' x 0, sysO' x 1, sysO' x 2, sysO' x 3]
def sysAgg : AV := .s (.agg [.v (.int .i64 11), .v (.int .i64 7), .v (.int .i64 7), .v (.int .i64 15), .v (.int .i64 3), .v (.int .i64 15), .v (.int .i64 0), .v (.int .i64 7)])
def syI (x : Ins) (nm : ByteArray) (l : List OpV) (i : Nat) : St := ⟨2, [(0, .s (.l (.p 0 0 0))), (8, sysAgg), (9, iv i)], [(0, some (wrK x nm (l ++ (sysA x).take i).length 1)), (1, some (opsK (l ++ (sysA x).take i)))]⟩
set_option maxHeartbeats 4000000 in
theorem stSy_sw (x : Ins) (nm : ByteArray) (l : List OpV) (h : l.length ≤ 900) : SW Tryz.prog ⟨none, 1⟩ Tryz.f118.ntmps (Tryz.f118.body.getD .skip) ⟨2, zipT 0 [.s (.l (.p 0 0 0))], zipH 0 [wrK x nm l.length 1, opsK l]⟩ (outR Tryz.prog Tryz.f118.results.toList 1 (outWr (.tup [], x, nm, l ++ sysA x))) := by
  refine aRun_sound (ctx := []) 4000 ?_
  rw [Tryz.ntmps118, Tryz.results118]
  simp only [Tryz.f118, Option.getD_some, zipT]
  simp only [go_sem, wrK, insE, opsK]
  refine sw_loop (ι := Nat) (fun i => i ≤ 4) (syI x nm l) (fun i => 4 - i) 0 (Nat.zero_le _) (Wk.renL [0, 1] (pin1 [1]) (Nat.le_refl 2) (by decide) rfl (by simp [syI, hget, Blk.ren, wrK, insE, opsK, opL, opE, ofDs, ofD, LV.ren, Function.comp_def])) ?_
  intro i hi
  obtain ⟨L, hL⟩ : ∃ L, l ++ (sysA x).take i = L := ⟨_, rfl⟩
  have hlen : L.length ≤ 1000 := by
    rw [← hL, List.length_append, List.length_take]
    omega
  have hp0 : (2 : Int) ^ min 11 64 = 2048 := by decide
  have hp1 : (2 : Int) ^ min 7 64 = 128 := by decide
  have hp2 : (2 : Int) ^ min 3 64 = 8 := by decide
  have hp3 : (2 : Int) ^ min 0 64 = 1 := by decide
  refine aRun_sound (ctx := []) 4000 ?_
  have : i = 0 ∨ i = 1 ∨ i = 2 ∨ i = 3 ∨ i = 4 := by omega
  rcases this with rfl | rfl | rfl | rfl | rfl
  · have h0 : L = l := by rw [← hL]; simp
    subst h0
    have hn : L ++ (sysA x).take 1 = L ++ [sysO' x 0] := rfl
    have hv : sysO' x 0 = oNum (bits .and .i64 (x.a.fdiv 2048) 7) := rfl
    simp only [go_sem, syI, sysAgg, hL, wrK, insE, opsK]
    refine sw_draw (ctx := [⟨_, numS⟩, ⟨_, putS⟩]) mixed [13] (by kernel_rfl) ?_
    simp only [go_sem, hp0, num_run, num_pan, put_run, put_pan, opV, oNum, op0, r0, opR, opE, emp, decW, decWr, decWrL, decOps_map, xwT, outWr, wrK, insE, opsK, opL_ren, hlen]
    refine ⟨1, by omega, by omega, Wk.renL [0, 274] (pin1 [274]) (Nat.le_refl 2) (by decide) rfl ?_⟩
    simp only [syI]
    rw [hn, hv]
    simp [hget, Blk.ren, wrK, insE, opsK, opL, opE, ofDs, ofD, LV.ren, Function.comp_def, oNum, op0, r0, emp]
  · have hn : l ++ (sysA x).take 2 = L ++ [sysO' x 1] := by rw [← hL, List.append_assoc]; rfl
    have hv : sysO' x 1 = oNum (bits .and .i64 (x.a.fdiv 128) 15) := rfl
    simp only [go_sem, syI, sysAgg, hL, wrK, insE, opsK]
    refine sw_draw (ctx := [⟨_, numS⟩, ⟨_, putS⟩]) mixed [13] (by kernel_rfl) ?_
    simp only [go_sem, hp1, num_run, num_pan, put_run, put_pan, opV, oNum, op0, r0, opR, opE, emp, decW, decWr, decWrL, decOps_map, xwT, outWr, wrK, insE, opsK, opL_ren, hlen]
    refine ⟨2, by omega, by omega, Wk.renL [0, 274] (pin1 [274]) (Nat.le_refl 2) (by decide) rfl ?_⟩
    simp only [syI]
    rw [hn, hv]
    simp [hget, Blk.ren, wrK, insE, opsK, opL, opE, ofDs, ofD, LV.ren, Function.comp_def, oNum, op0, r0, emp]
  · have hn : l ++ (sysA x).take 3 = L ++ [sysO' x 2] := by rw [← hL, List.append_assoc]; rfl
    have hv : sysO' x 2 = oNum (bits .and .i64 (x.a.fdiv 8) 15) := rfl
    simp only [go_sem, syI, sysAgg, hL, wrK, insE, opsK]
    refine sw_draw (ctx := [⟨_, numS⟩, ⟨_, putS⟩]) mixed [13] (by kernel_rfl) ?_
    simp only [go_sem, hp2, num_run, num_pan, put_run, put_pan, opV, oNum, op0, r0, opR, opE, emp, decW, decWr, decWrL, decOps_map, xwT, outWr, wrK, insE, opsK, opL_ren, hlen]
    refine ⟨3, by omega, by omega, Wk.renL [0, 274] (pin1 [274]) (Nat.le_refl 2) (by decide) rfl ?_⟩
    simp only [syI]
    rw [hn, hv]
    simp [hget, Blk.ren, wrK, insE, opsK, opL, opE, ofDs, ofD, LV.ren, Function.comp_def, oNum, op0, r0, emp]
  · have hn : l ++ (sysA x).take 4 = L ++ [sysO' x 3] := by rw [← hL, List.append_assoc]; rfl
    have hv : sysO' x 3 = oNum (bits .and .i64 (x.a.fdiv 1) 7) := rfl
    simp only [go_sem, syI, sysAgg, hL, wrK, insE, opsK]
    refine sw_draw (ctx := [⟨_, numS⟩, ⟨_, putS⟩]) mixed [13] (by kernel_rfl) ?_
    simp only [go_sem, hp3, num_run, num_pan, put_run, put_pan, opV, oNum, op0, r0, opR, opE, emp, decW, decWr, decWrL, decOps_map, xwT, outWr, wrK, insE, opsK, opL_ren, hlen]
    refine ⟨4, by omega, by omega, Wk.renL [0, 274] (pin1 [274]) (Nat.le_refl 2) (by decide) rfl ?_⟩
    simp only [syI]
    rw [hn, hv]
    simp [hget, Blk.ren, wrK, insE, opsK, opL, opE, ofDs, ofD, LV.ren, Function.comp_def, oNum, op0, r0, emp]
  · have hF : l ++ sysA x = L := by rw [← hL]; rfl
    rw [hF]
    simp only [go_sem, syI, sysAgg, hL, wrK, insE, opsK]
    refine leftWr (x := x) (nm := nm) (l := L) (tb := 1) rfl ?_ ?_ (by decide)
    · simp [hget, wrK, insE]
    · simp [hget, opsK]
def stSyS : Spec Tryz.prog 118 :=
  mkW _ _ _ Tryz.func118 rfl en_stSy xw0 (fun _ x l => l.length ≤ 900 ∧ True) (fun _ x nm l => (.tup [], x, nm, l ++ sysA x)) (by rw [Tryz.ntmps118]; decide) (fun _ x nm l h => stSy_sw x nm l h.1)
def stpSy : Stp := ⟨118, fun x l => l ++ sysA x, fun _ l => l.length ≤ 900 ∧ True, stSyS, fun _ _ _ => rfl, fun _ _ _ => rfl⟩

end Go.Proofs.YtpjlafmhoifkmaaGreat

namespace Go.Proofs.YtpjlafmhoifkmaaGreat
open Go.RowKit
set_option maxRecDepth 100000

def wr3 (x : Ins) : St := ⟨4, [(1, .s (.l (.p 0 0 0))), (2, .s (.l (.p 1 0 0))), (3, .s (.l (.p 2 0 0)))], [(0, some ⟨true, 27, 10, [insE x]⟩), (1, some boxL), (2, some (wrK x emp 0 3)), (3, some (opsK []))]⟩
theorem and3b {b : Int} (h : 0 ≤ b ∧ b ≤ 23) : bits .and .i64 b 3 = b % 4 := by
  have : b = 0 ∨ b = 1 ∨ b = 2 ∨ b = 3 ∨ b = 4 ∨ b = 5 ∨ b = 6 ∨ b = 7 ∨ b = 8 ∨ b = 9 ∨ b = 10 ∨ b = 11 ∨ b = 12 ∨ b = 13 ∨ b = 14 ∨ b = 15 ∨ b = 16 ∨ b = 17 ∨ b = 18 ∨ b = 19 ∨ b = 20 ∨ b = 21 ∨ b = 22 ∨ b = 23 := by omega
  rcases this with rfl | rfl | rfl | rfl | rfl | rfl | rfl | rfl | rfl | rfl | rfl | rfl | rfl | rfl | rfl | rfl | rfl | rfl | rfl | rfl | rfl | rfl | rfl | rfl <;> decide
set_option maxHeartbeats 4000000 in
theorem twos3 (x : Ins) (h : 2 ≤ x.b ∧ x.b ≤ 3) : SW Tryz.prog ⟨none, 0⟩ Tryz.f129.ntmps (Tryz.f129.body.getD .skip) ⟨0, zipT 0 [(tAgg insR).enc x], []⟩ (outQ Tryz.prog Tryz.f129.results.toList (.ret (lineV (twosF x)))) := by
  rw [Tryz.ntmps129, Tryz.results129]
  simp only [Tryz.f129, Option.getD_some, zipT]
  refine sw_seq (aRun_sound (ctx := []) 4000 ?_)
  simp only [go_sem, thenQ, insR]
  refine sw_seq (aRun_sound (ctx := []) 4000 ?_)
  simp only [go_sem, thenQ]
  refine SW.wk (s' := wr3 x) ?_ ((Wk.nilC 64 11 40 15 (k := ⟨true, 68, 12, [insE x ++ [.v (.string emp), .v (.slice none 0 0)]]⟩) rfl rfl rfl).trans (Wk.renL [0, 16, 64, 96] (by simp) (by simp [wr3]) (by decide) rfl rfl))
  refine aRun_sound (ctx := [⟨_, pickS⟩, ⟨_, lineS stepsT⟩]) 4000 ?_
  obtain ⟨P, hP⟩ : ∃ P, pickF (x.b - 2) [(⟨#[117, 100, 105, 118]⟩ : ByteArray), (⟨#[115, 100, 105, 118]⟩ : ByteArray)] = P := ⟨_, rfl⟩
  have e : twosF x = (P, [dO x, nO x, mO x]) := by unfold twosF; rw [if_pos h.2, hP]
  have e1 : IntKind.i64.wrap (x.b - 2) = x.b - 2 := by rw [IntKind.wrap_i64]; omega
  have h3 : x.b ≤ 3 := h.2
  simp only [go_sem, h3, e1, hP, e, wr3, insE, wrK, opsK, boxL, fn_zero, fn_sz, pick_run, pick_pan, runR, panR, decPk, decWordL, decAll, outPk, line_run, line_pan, runQ, decLn, decWr, decWrL, decOps_map, decStep, outLn, gOf, opL_ren1, mapT_opL, lineV, lineQ, stepsQ, stepsF, at_D, stpD, at_N, stpN, at_M, stpM]
set_option maxHeartbeats 4000000 in
theorem twos11 (x : Ins) (h : 4 ≤ x.b ∧ x.b ≤ 11) : SW Tryz.prog ⟨none, 0⟩ Tryz.f129.ntmps (Tryz.f129.body.getD .skip) ⟨0, zipT 0 [(tAgg insR).enc x], []⟩ (outQ Tryz.prog Tryz.f129.results.toList (.ret (lineV (twosF x)))) := by
  rw [Tryz.ntmps129, Tryz.results129]
  simp only [Tryz.f129, Option.getD_some, zipT]
  refine sw_seq (aRun_sound (ctx := []) 4000 ?_)
  simp only [go_sem, thenQ, insR]
  refine sw_seq (aRun_sound (ctx := []) 4000 ?_)
  simp only [go_sem, thenQ]
  refine SW.wk (s' := wr3 x) ?_ ((Wk.nilC 64 11 40 15 (k := ⟨true, 68, 12, [insE x ++ [.v (.string emp), .v (.slice none 0 0)]]⟩) rfl rfl rfl).trans (Wk.renL [0, 16, 64, 96] (by simp) (by simp [wr3]) (by decide) rfl rfl))
  refine aRun_sound (ctx := [⟨_, pickS⟩, ⟨_, lineS stepsT⟩]) 4000 ?_
  obtain ⟨P, hP⟩ : ∃ P, pickF (x.b - 8) [(⟨#[108, 115, 108, 118]⟩ : ByteArray), (⟨#[108, 115, 114, 118]⟩ : ByteArray), (⟨#[97, 115, 114, 118]⟩ : ByteArray), (⟨#[114, 111, 114, 118]⟩ : ByteArray)] = P := ⟨_, rfl⟩
  have h3 : ¬ x.b ≤ 3 := by omega
  have h4 : x.b ≤ 11 := h.2
  have e : twosF x = (P, [dO x, nO x, mO x]) := by unfold twosF; rw [if_neg h3, if_pos h4, hP]
  have e1 : IntKind.i64.wrap (x.b - 8) = x.b - 8 := by rw [IntKind.wrap_i64]; omega
  simp only [go_sem, h3, h4, e1, hP, e, wr3, insE, wrK, opsK, boxL, fn_zero, fn_sz, pick_run, pick_pan, runR, panR, decPk, decWordL, decAll, outPk, line_run, line_pan, runQ, decLn, decWr, decWrL, decOps_map, decStep, outLn, gOf, opL_ren1, mapT_opL, lineV, lineQ, stepsQ, stepsF, at_D, stpD, at_N, stpN, at_M, stpM]
set_option maxHeartbeats 4000000 in
theorem twos23 (x : Ins) (h : 12 ≤ x.b ∧ x.b ≤ 23) : SW Tryz.prog ⟨none, 0⟩ Tryz.f129.ntmps (Tryz.f129.body.getD .skip) ⟨0, zipT 0 [(tAgg insR).enc x], []⟩ (outQ Tryz.prog Tryz.f129.results.toList (.ret (lineV (twosF x)))) := by
  rw [Tryz.ntmps129, Tryz.results129]
  simp only [Tryz.f129, Option.getD_some, zipT]
  refine sw_seq (aRun_sound (ctx := []) 4000 ?_)
  simp only [go_sem, thenQ, insR]
  refine sw_seq (aRun_sound (ctx := []) 4000 ?_)
  simp only [go_sem, thenQ]
  refine SW.wk (s' := wr3 x) ?_ ((Wk.nilC 64 11 40 15 (k := ⟨true, 68, 12, [insE x ++ [.v (.string emp), .v (.slice none 0 0)]]⟩) rfl rfl rfl).trans (Wk.renL [0, 16, 64, 96] (by simp) (by simp [wr3]) (by decide) rfl rfl))
  refine aRun_sound (ctx := []) 4000 ?_
  obtain ⟨P, hP⟩ : ∃ P, pickF ((x.b - 16).fdiv 4) [emp, (⟨#[99]⟩ : ByteArray)] = P := ⟨_, rfl⟩
  obtain ⟨R, hR⟩ : ∃ R, pickF (x.b % 4) [(⟨#[98]⟩ : ByteArray), (⟨#[104]⟩ : ByteArray), (⟨#[119]⟩ : ByteArray), (⟨#[120]⟩ : ByteArray)] = R := ⟨_, rfl⟩
  have lP : P.size ≤ 1 := by rw [← hP]; exact pickF_le (by decide)
  have lR : R.size ≤ 1 := by rw [← hR]; exact pickF_le (by decide)
  have h3 : ¬ x.b ≤ 3 := by omega
  have h4 : ¬ x.b ≤ 11 := by omega
  have e : twosF x = ((⟨#[99, 114, 99, 51, 50]⟩ : ByteArray) ++ P ++ R, [oReg x.rd false, oReg x.rn false, oReg x.rm (decide (x.b % 4 = 3))]) := by unfold twosF; rw [if_neg h3, if_neg h4, hP, hR]
  have e1 : IntKind.i64.wrap (x.b - 16) = x.b - 16 := by rw [IntKind.wrap_i64]; omega
  have e2 := and3b (b := x.b) (by omega)
  have e3 : (x.b % 4 == 3) = decide (x.b % 4 = 3) := by by_cases h : x.b % 4 = 3 <;> simp [h]
  have m1 : 5 + P.size ≤ maxLen := by unfold maxLen; omega
  have m2 : 5 + P.size + R.size ≤ maxLen := by unfold maxLen; omega
  have s5 : (⟨#[99, 114, 99, 51, 50]⟩ : ByteArray).size = 5 := rfl
  have pw : (2 : Int) ^ min 2 64 = 4 := by decide
  rw [e]
  simp only [go_sem, wr3, insE, wrK, opsK, boxL, h3, h4]
  refine sw_drawF (ctx := [⟨_, pickS⟩]) mixed ⟨[], [(5, [196]), (11, [292])], [(6, [292]), (7, [196]), (8, [196]), (9, [196]), (10, [196])]⟩ (by kernel_rfl) ?_
  have hP' : pickF ((x.b - 16).fdiv 4) [⟨#[]⟩, (⟨#[99]⟩ : ByteArray)] = P := hP
  simp only [go_sem, e1, e2, pw, pick_run, pick_pan, runR, panR, decPk, decWordL, decAll, outPk, gOf, hP', hR, s5, m1, m2]
  refine sw_draw (ctx := [⟨_, regS⟩]) mixed [16] (by kernel_rfl) ?_
  simp only [go_sem, e2, e3, reg_run, reg_pan, opV, oReg, op0, r0, opR, opE, emp, lineV]
theorem twos_sw (x : Ins) (h : 2 ≤ x.b ∧ x.b ≤ 23) : SW Tryz.prog ⟨none, 0⟩ Tryz.f129.ntmps (Tryz.f129.body.getD .skip) ⟨0, zipT 0 [(tAgg insR).enc x], []⟩ (outQ Tryz.prog Tryz.f129.results.toList (.ret (lineV (twosF x)))) := by
  by_cases h1 : x.b ≤ 3
  · exact twos3 x ⟨h.1, h1⟩
  by_cases h2 : x.b ≤ 11
  · exact twos11 x ⟨by omega, h2⟩
  · exact twos23 x ⟨by omega, h.2⟩
theorem en_twos (args : Array Value) (w : World) : (callFunc 129 args).run Tryz.prog w = .ok (.enter 129 args) w := by go_simp
def twosS : Spec Tryz.prog 129 :=
  mk1 _ _ _ Tryz.func129 rfl en_twos (tAgg insR) ((fun x => 2 ≤ x.b ∧ x.b ≤ 23)) ((fun x => .ret (lineV (twosF x)))) (by rw [Tryz.ntmps129]; decide) (fun x h => twos_sw x h)
theorem twos_run {id : Nat} {h : Heap} {args : List AV} : (twosS).run id h args = runP (args1 (tAgg insR) ((fun x => 2 ≤ x.b ∧ x.b ≤ 23))) ((fun x => .ret (lineV (twosF x)))) h args := rfl
theorem twos_pan {id : Nat} {h : Heap} {args : List AV} : (twosS).pan id h args = panP (args1 (tAgg insR) ((fun x => 2 ≤ x.b ∧ x.b ≤ 23))) ((fun x => .ret (lineV (twosF x)))) h args := rfl

set_option maxHeartbeats 4000000 in
theorem oth29 (x : Ins) (h : x.op = 29) : SW Tryz.prog ⟨none, 0⟩ Tryz.f64.ntmps (Tryz.f64.body.getD .skip) ⟨0, zipT 0 [(tAgg insR).enc x], []⟩ (outQ Tryz.prog Tryz.f64.results.toList (.ret (lineV (othersF x)))) := by
  rw [Tryz.ntmps64, Tryz.results64]
  simp only [Tryz.f64, Option.getD_some, zipT]
  refine sw_seq (aRun_sound (ctx := []) 4000 ?_)
  simp only [go_sem, thenQ, insR]
  refine sw_seq (aRun_sound (ctx := []) 4000 ?_)
  simp only [go_sem, thenQ]
  refine SW.wk (s' := wr3 x) ?_ ((Wk.nilC 64 11 40 15 (k := ⟨true, 68, 12, [insE x ++ [.v (.string emp), .v (.slice none 0 0)]]⟩) rfl rfl rfl).trans (Wk.renL [0, 16, 64, 96] (by simp) (by simp [wr3]) (by decide) rfl rfl))
  refine aRun_sound (ctx := [⟨_, pickS⟩, ⟨_, lineS stepsT⟩]) 4000 ?_
  obtain ⟨P, hP⟩ : ∃ P, pickF x.b [(⟨#[99, 115, 101, 108]⟩ : ByteArray), (⟨#[99, 115, 105, 110, 99]⟩ : ByteArray), (⟨#[99, 115, 105, 110, 118]⟩ : ByteArray), (⟨#[99, 115, 110, 101, 103]⟩ : ByteArray)] = P := ⟨_, rfl⟩
  have e : othersF x = (P, [dO x, nO x, mO x, condO x]) := by unfold othersF; rw [if_pos h, hP]
  have b1 : (x.op == 29) = true := by rw [h]; decide
  simp only [go_sem, b1, hP, e, wr3, insE, wrK, opsK, boxL, fn_zero, fn_sz, pick_run, pick_pan, runR, panR, decPk, decWordL, decAll, outPk, line_run, line_pan, runQ, decLn, decWr, decWrL, decOps_map, decStep, outLn, gOf, opL_ren1, mapT_opL, lineV, lineQ, stepsQ, stepsF, at_D, stpD, at_N, stpN, at_M, stpM, at_Cond, stpCond]
set_option maxHeartbeats 4000000 in
theorem oth30a (x : Ins) (h : x.op = 30) (h2 : x.b = 2) (h3 : x.x = false) : SW Tryz.prog ⟨none, 0⟩ Tryz.f64.ntmps (Tryz.f64.body.getD .skip) ⟨0, zipT 0 [(tAgg insR).enc x], []⟩ (outQ Tryz.prog Tryz.f64.results.toList (.ret (lineV (othersF x)))) := by
  rw [Tryz.ntmps64, Tryz.results64]
  simp only [Tryz.f64, Option.getD_some, zipT]
  refine sw_seq (aRun_sound (ctx := []) 4000 ?_)
  simp only [go_sem, thenQ, insR]
  refine sw_seq (aRun_sound (ctx := []) 4000 ?_)
  simp only [go_sem, thenQ]
  refine SW.wk (s' := wr3 x) ?_ ((Wk.nilC 64 11 40 15 (k := ⟨true, 68, 12, [insE x ++ [.v (.string emp), .v (.slice none 0 0)]]⟩) rfl rfl rfl).trans (Wk.renL [0, 16, 64, 96] (by simp) (by simp [wr3]) (by decide) rfl rfl))
  refine aRun_sound (ctx := [⟨_, pickS⟩, ⟨_, lineS stepsT⟩]) 4000 ?_
  obtain ⟨P, hP⟩ : ∃ P, pickF x.b [(⟨#[114, 98, 105, 116]⟩ : ByteArray), (⟨#[114, 101, 118, 49, 54]⟩ : ByteArray), (⟨#[114, 101, 118, 51, 50]⟩ : ByteArray), (⟨#[114, 101, 118]⟩ : ByteArray), (⟨#[99, 108, 122]⟩ : ByteArray), (⟨#[99, 108, 115]⟩ : ByteArray)] = P := ⟨_, rfl⟩
  have e : othersF x = ((⟨#[114, 101, 118]⟩ : ByteArray), [dO x, nO x]) := by unfold othersF; rw [if_neg (by omega), if_pos h, hP, if_pos ⟨h2, h3⟩]
  have b0 : (x.op == 29) = false := by rw [h]; decide
  have b1 : (x.op == 30) = true := by rw [h]; decide
  have b2 : (x.b == 2) = true := by rw [h2]; decide
  simp only [go_sem, b0, b1, b2, h3, hP, e, wr3, insE, wrK, opsK, boxL, fn_zero, fn_sz, pick_run, pick_pan, runR, panR, decPk, decWordL, decAll, outPk, line_run, line_pan, runQ, decLn, decWr, decWrL, decOps_map, decStep, outLn, gOf, opL_ren1, mapT_opL, lineV, lineQ, stepsQ, stepsF, at_D, stpD, at_N, stpN]
  all_goals simp only [dO, nO, h3]
set_option maxHeartbeats 4000000 in
theorem oth30b (x : Ins) (h : x.op = 30) (h2 : x.b = 2) (h3 : x.x = true) : SW Tryz.prog ⟨none, 0⟩ Tryz.f64.ntmps (Tryz.f64.body.getD .skip) ⟨0, zipT 0 [(tAgg insR).enc x], []⟩ (outQ Tryz.prog Tryz.f64.results.toList (.ret (lineV (othersF x)))) := by
  rw [Tryz.ntmps64, Tryz.results64]
  simp only [Tryz.f64, Option.getD_some, zipT]
  refine sw_seq (aRun_sound (ctx := []) 4000 ?_)
  simp only [go_sem, thenQ, insR]
  refine sw_seq (aRun_sound (ctx := []) 4000 ?_)
  simp only [go_sem, thenQ]
  refine SW.wk (s' := wr3 x) ?_ ((Wk.nilC 64 11 40 15 (k := ⟨true, 68, 12, [insE x ++ [.v (.string emp), .v (.slice none 0 0)]]⟩) rfl rfl rfl).trans (Wk.renL [0, 16, 64, 96] (by simp) (by simp [wr3]) (by decide) rfl rfl))
  refine aRun_sound (ctx := [⟨_, pickS⟩, ⟨_, lineS stepsT⟩]) 4000 ?_
  obtain ⟨P, hP⟩ : ∃ P, pickF x.b [(⟨#[114, 98, 105, 116]⟩ : ByteArray), (⟨#[114, 101, 118, 49, 54]⟩ : ByteArray), (⟨#[114, 101, 118, 51, 50]⟩ : ByteArray), (⟨#[114, 101, 118]⟩ : ByteArray), (⟨#[99, 108, 122]⟩ : ByteArray), (⟨#[99, 108, 115]⟩ : ByteArray)] = P := ⟨_, rfl⟩
  have e : othersF x = (P, [dO x, nO x]) := by unfold othersF; rw [if_neg (by omega), if_pos h, hP, if_neg (fun h => by rw [h3] at h; cases h.2)]
  have b0 : (x.op == 29) = false := by rw [h]; decide
  have b1 : (x.op == 30) = true := by rw [h]; decide
  have b2 : (x.b == 2) = true := by rw [h2]; decide
  simp only [go_sem, b0, b1, b2, h3, hP, e, wr3, insE, wrK, opsK, boxL, fn_zero, fn_sz, pick_run, pick_pan, runR, panR, decPk, decWordL, decAll, outPk, line_run, line_pan, runQ, decLn, decWr, decWrL, decOps_map, decStep, outLn, gOf, opL_ren1, mapT_opL, lineV, lineQ, stepsQ, stepsF, at_D, stpD, at_N, stpN]
  all_goals simp only [dO, nO, h3]
set_option maxHeartbeats 4000000 in
theorem oth30c (x : Ins) (h : x.op = 30) (h2 : ¬ x.b = 2) : SW Tryz.prog ⟨none, 0⟩ Tryz.f64.ntmps (Tryz.f64.body.getD .skip) ⟨0, zipT 0 [(tAgg insR).enc x], []⟩ (outQ Tryz.prog Tryz.f64.results.toList (.ret (lineV (othersF x)))) := by
  rw [Tryz.ntmps64, Tryz.results64]
  simp only [Tryz.f64, Option.getD_some, zipT]
  refine sw_seq (aRun_sound (ctx := []) 4000 ?_)
  simp only [go_sem, thenQ, insR]
  refine sw_seq (aRun_sound (ctx := []) 4000 ?_)
  simp only [go_sem, thenQ]
  refine SW.wk (s' := wr3 x) ?_ ((Wk.nilC 64 11 40 15 (k := ⟨true, 68, 12, [insE x ++ [.v (.string emp), .v (.slice none 0 0)]]⟩) rfl rfl rfl).trans (Wk.renL [0, 16, 64, 96] (by simp) (by simp [wr3]) (by decide) rfl rfl))
  refine aRun_sound (ctx := [⟨_, pickS⟩, ⟨_, lineS stepsT⟩]) 4000 ?_
  obtain ⟨P, hP⟩ : ∃ P, pickF x.b [(⟨#[114, 98, 105, 116]⟩ : ByteArray), (⟨#[114, 101, 118, 49, 54]⟩ : ByteArray), (⟨#[114, 101, 118, 51, 50]⟩ : ByteArray), (⟨#[114, 101, 118]⟩ : ByteArray), (⟨#[99, 108, 122]⟩ : ByteArray), (⟨#[99, 108, 115]⟩ : ByteArray)] = P := ⟨_, rfl⟩
  have e : othersF x = (P, [dO x, nO x]) := by unfold othersF; rw [if_neg (by omega), if_pos h, hP, if_neg (fun h => h2 h.1)]
  have b0 : (x.op == 29) = false := by rw [h]; decide
  have b1 : (x.op == 30) = true := by rw [h]; decide
  have b2 : (x.b == 2) = false := by simpa using h2
  simp only [go_sem, b0, b1, b2, hP, e, wr3, insE, wrK, opsK, boxL, fn_zero, fn_sz, pick_run, pick_pan, runR, panR, decPk, decWordL, decAll, outPk, line_run, line_pan, runQ, decLn, decWr, decWrL, decOps_map, decStep, outLn, gOf, opL_ren1, mapT_opL, lineV, lineQ, stepsQ, stepsF, at_D, stpD, at_N, stpN]
set_option maxHeartbeats 4000000 in
theorem oth31 (x : Ins) (h : x.op = 31) (hb : 2 ≤ x.b ∧ x.b ≤ 23) : SW Tryz.prog ⟨none, 0⟩ Tryz.f64.ntmps (Tryz.f64.body.getD .skip) ⟨0, zipT 0 [(tAgg insR).enc x], []⟩ (outQ Tryz.prog Tryz.f64.results.toList (.ret (lineV (othersF x)))) := by
  refine aRun_sound (ctx := [⟨_, twosS⟩]) 4000 ?_
  rw [Tryz.ntmps64, Tryz.results64]
  simp only [Tryz.f64, Option.getD_some, zipT]
  have e : othersF x = twosF x := by unfold othersF; rw [if_neg (by omega), if_neg (by omega), if_pos h]
  have b0 : (x.op == 29) = false := by rw [h]; decide
  have b1 : (x.op == 30) = false := by rw [h]; decide
  have b2 : (x.op == 31) = true := by rw [h]; decide
  rw [e]
  simp only [go_sem, insR, b0, b1, b2, twos_run, twos_pan, hb.1, hb.2, lineV]
set_option maxHeartbeats 4000000 in
theorem oth32a (x : Ins) (h : x.op = 32) (hb : x.b < 2) : SW Tryz.prog ⟨none, 0⟩ Tryz.f64.ntmps (Tryz.f64.body.getD .skip) ⟨0, zipT 0 [(tAgg insR).enc x], []⟩ (outQ Tryz.prog Tryz.f64.results.toList (.ret (lineV (othersF x)))) := by
  rw [Tryz.ntmps64, Tryz.results64]
  simp only [Tryz.f64, Option.getD_some, zipT]
  refine sw_seq (aRun_sound (ctx := []) 4000 ?_)
  simp only [go_sem, thenQ, insR]
  refine sw_seq (aRun_sound (ctx := []) 4000 ?_)
  simp only [go_sem, thenQ]
  refine SW.wk (s' := wr3 x) ?_ ((Wk.nilC 64 11 40 15 (k := ⟨true, 68, 12, [insE x ++ [.v (.string emp), .v (.slice none 0 0)]]⟩) rfl rfl rfl).trans (Wk.renL [0, 16, 64, 96] (by simp) (by simp [wr3]) (by decide) rfl rfl))
  refine aRun_sound (ctx := [⟨_, pickS⟩, ⟨_, lineS stepsT⟩]) 4000 ?_
  obtain ⟨P, hP⟩ : ∃ P, pickF x.b [(⟨#[109, 97, 100, 100]⟩ : ByteArray), (⟨#[109, 115, 117, 98]⟩ : ByteArray), (⟨#[115, 109, 97, 100, 100, 108]⟩ : ByteArray), (⟨#[115, 109, 115, 117, 98, 108]⟩ : ByteArray), (⟨#[115, 109, 117, 108, 104]⟩ : ByteArray), (⟨#[117, 109, 97, 100, 100, 108]⟩ : ByteArray), (⟨#[117, 109, 115, 117, 98, 108]⟩ : ByteArray), (⟨#[117, 109, 117, 108, 104]⟩ : ByteArray)] = P := ⟨_, rfl⟩
  have b0 : (x.op == 29) = false := by rw [h]; decide
  have b1 : (x.op == 30) = false := by rw [h]; decide
  have b2 : (x.op == 31) = false := by rw [h]; decide
  have hb2 : ¬ 2 ≤ x.b := by omega
  have e : othersF x = (P, [dO x, nO x, mO x, aO x]) := by unfold othersF; rw [if_neg (by omega), if_neg (by omega), if_neg (by omega), if_pos hb]; unfold dp3N; rw [hP]
  simp only [go_sem, b0, b1, b2, hb2, hP, e, wr3, insE, wrK, opsK, boxL, fn_zero, fn_sz, pick_run, pick_pan, runR, panR, decPk, decWordL, decAll, outPk, line_run, line_pan, runQ, decLn, decWr, decWrL, decOps_map, decStep, outLn, gOf, opL_ren1, mapT_opL, lineV, lineQ, stepsQ, stepsF, at_D, stpD, at_N, stpN, at_M, stpM, at_A, stpA]
set_option maxHeartbeats 4000000 in
theorem oth32b (x : Ins) (h : x.op = 32) (hb : x.b = 4) : SW Tryz.prog ⟨none, 0⟩ Tryz.f64.ntmps (Tryz.f64.body.getD .skip) ⟨0, zipT 0 [(tAgg insR).enc x], []⟩ (outQ Tryz.prog Tryz.f64.results.toList (.ret (lineV (othersF x)))) := by
  rw [Tryz.ntmps64, Tryz.results64]
  simp only [Tryz.f64, Option.getD_some, zipT]
  refine sw_seq (aRun_sound (ctx := []) 4000 ?_)
  simp only [go_sem, thenQ, insR]
  refine sw_seq (aRun_sound (ctx := []) 4000 ?_)
  simp only [go_sem, thenQ]
  refine SW.wk (s' := wr3 x) ?_ ((Wk.nilC 64 11 40 15 (k := ⟨true, 68, 12, [insE x ++ [.v (.string emp), .v (.slice none 0 0)]]⟩) rfl rfl rfl).trans (Wk.renL [0, 16, 64, 96] (by simp) (by simp [wr3]) (by decide) rfl rfl))
  refine aRun_sound (ctx := [⟨_, pickS⟩, ⟨_, lineS stepsT⟩]) 4000 ?_
  obtain ⟨P, hP⟩ : ∃ P, pickF x.b [(⟨#[109, 97, 100, 100]⟩ : ByteArray), (⟨#[109, 115, 117, 98]⟩ : ByteArray), (⟨#[115, 109, 97, 100, 100, 108]⟩ : ByteArray), (⟨#[115, 109, 115, 117, 98, 108]⟩ : ByteArray), (⟨#[115, 109, 117, 108, 104]⟩ : ByteArray), (⟨#[117, 109, 97, 100, 100, 108]⟩ : ByteArray), (⟨#[117, 109, 115, 117, 98, 108]⟩ : ByteArray), (⟨#[117, 109, 117, 108, 104]⟩ : ByteArray)] = P := ⟨_, rfl⟩
  have b0 : (x.op == 29) = false := by rw [h]; decide
  have b1 : (x.op == 30) = false := by rw [h]; decide
  have b2 : (x.op == 31) = false := by rw [h]; decide
  have hb2 : 2 ≤ x.b := by omega
  have b4 : (x.b == 4) = true := by rw [hb]; decide
  have b7 : (x.b == 7) = false := by rw [hb]; decide
  have e : othersF x = (P, [dO x, nO x, mO x]) := by unfold othersF; rw [if_neg (by omega), if_neg (by omega), if_neg (by omega), if_neg (by omega), if_pos (by omega)]; unfold dp3N; rw [hP]
  simp only [go_sem, b0, b1, b2, hb2, b4, b7, hP, e, wr3, insE, wrK, opsK, boxL, fn_zero, fn_sz, pick_run, pick_pan, runR, panR, decPk, decWordL, decAll, outPk, line_run, line_pan, runQ, decLn, decWr, decWrL, decOps_map, decStep, outLn, gOf, opL_ren1, mapT_opL, lineV, lineQ, stepsQ, stepsF, at_D, stpD, at_N, stpN, at_M, stpM]
set_option maxHeartbeats 4000000 in
theorem oth32c (x : Ins) (h : x.op = 32) (hb : x.b = 7) : SW Tryz.prog ⟨none, 0⟩ Tryz.f64.ntmps (Tryz.f64.body.getD .skip) ⟨0, zipT 0 [(tAgg insR).enc x], []⟩ (outQ Tryz.prog Tryz.f64.results.toList (.ret (lineV (othersF x)))) := by
  rw [Tryz.ntmps64, Tryz.results64]
  simp only [Tryz.f64, Option.getD_some, zipT]
  refine sw_seq (aRun_sound (ctx := []) 4000 ?_)
  simp only [go_sem, thenQ, insR]
  refine sw_seq (aRun_sound (ctx := []) 4000 ?_)
  simp only [go_sem, thenQ]
  refine SW.wk (s' := wr3 x) ?_ ((Wk.nilC 64 11 40 15 (k := ⟨true, 68, 12, [insE x ++ [.v (.string emp), .v (.slice none 0 0)]]⟩) rfl rfl rfl).trans (Wk.renL [0, 16, 64, 96] (by simp) (by simp [wr3]) (by decide) rfl rfl))
  refine aRun_sound (ctx := [⟨_, pickS⟩, ⟨_, lineS stepsT⟩]) 4000 ?_
  obtain ⟨P, hP⟩ : ∃ P, pickF x.b [(⟨#[109, 97, 100, 100]⟩ : ByteArray), (⟨#[109, 115, 117, 98]⟩ : ByteArray), (⟨#[115, 109, 97, 100, 100, 108]⟩ : ByteArray), (⟨#[115, 109, 115, 117, 98, 108]⟩ : ByteArray), (⟨#[115, 109, 117, 108, 104]⟩ : ByteArray), (⟨#[117, 109, 97, 100, 100, 108]⟩ : ByteArray), (⟨#[117, 109, 115, 117, 98, 108]⟩ : ByteArray), (⟨#[117, 109, 117, 108, 104]⟩ : ByteArray)] = P := ⟨_, rfl⟩
  have b0 : (x.op == 29) = false := by rw [h]; decide
  have b1 : (x.op == 30) = false := by rw [h]; decide
  have b2 : (x.op == 31) = false := by rw [h]; decide
  have hb2 : 2 ≤ x.b := by omega
  have b4 : (x.b == 4) = false := by rw [hb]; decide
  have b7 : (x.b == 7) = true := by rw [hb]; decide
  have e : othersF x = (P, [dO x, nO x, mO x]) := by unfold othersF; rw [if_neg (by omega), if_neg (by omega), if_neg (by omega), if_neg (by omega), if_pos (by omega)]; unfold dp3N; rw [hP]
  simp only [go_sem, b0, b1, b2, hb2, b4, b7, hP, e, wr3, insE, wrK, opsK, boxL, fn_zero, fn_sz, pick_run, pick_pan, runR, panR, decPk, decWordL, decAll, outPk, line_run, line_pan, runQ, decLn, decWr, decWrL, decOps_map, decStep, outLn, gOf, opL_ren1, mapT_opL, lineV, lineQ, stepsQ, stepsF, at_D, stpD, at_N, stpN, at_M, stpM]
set_option maxHeartbeats 4000000 in
theorem oth32d (x : Ins) (h : x.op = 32) (hb : 2 ≤ x.b) (h4 : ¬ x.b = 4) (h7 : ¬ x.b = 7) : SW Tryz.prog ⟨none, 0⟩ Tryz.f64.ntmps (Tryz.f64.body.getD .skip) ⟨0, zipT 0 [(tAgg insR).enc x], []⟩ (outQ Tryz.prog Tryz.f64.results.toList (.ret (lineV (othersF x)))) := by
  refine aRun_sound (ctx := [⟨_, pickS⟩]) 4000 ?_
  rw [Tryz.ntmps64, Tryz.results64]
  simp only [Tryz.f64, Option.getD_some, zipT]
  obtain ⟨P, hP⟩ : ∃ P, pickF x.b [(⟨#[109, 97, 100, 100]⟩ : ByteArray), (⟨#[109, 115, 117, 98]⟩ : ByteArray), (⟨#[115, 109, 97, 100, 100, 108]⟩ : ByteArray), (⟨#[115, 109, 115, 117, 98, 108]⟩ : ByteArray), (⟨#[115, 109, 117, 108, 104]⟩ : ByteArray), (⟨#[117, 109, 97, 100, 100, 108]⟩ : ByteArray), (⟨#[117, 109, 115, 117, 98, 108]⟩ : ByteArray), (⟨#[117, 109, 117, 108, 104]⟩ : ByteArray)] = P := ⟨_, rfl⟩
  have b0 : (x.op == 29) = false := by rw [h]; decide
  have b1 : (x.op == 30) = false := by rw [h]; decide
  have b2 : (x.op == 31) = false := by rw [h]; decide
  have b4 : (x.b == 4) = false := by simpa using h4
  have b7 : (x.b == 7) = false := by simpa using h7
  have e : othersF x = (P, [oReg x.rd true, oReg x.rn false, oReg x.rm false, oReg x.ra true]) := by unfold othersF; rw [if_neg (by omega), if_neg (by omega), if_neg (by omega), if_neg (by omega), if_neg (by omega)]; unfold dp3N; rw [hP]
  rw [e]
  simp only [go_sem, insR, b0, b1, b2, hb, b4, b7, pick_run, pick_pan, runR, panR, decPk, decWordL, decAll, outPk, gOf, hP]
  refine sw_draw (ctx := [⟨_, regS⟩]) mixed [15] (by kernel_rfl) ?_
  simp only [go_sem, reg_run, reg_pan, opV, oReg, op0, r0, opR, opE, emp, lineV]
def othQ (x : Ins) : Prop := 29 ≤ x.op ∧ x.op ≤ 32 ∧ (x.op = 31 → 2 ≤ x.b ∧ x.b ≤ 23)
theorem others_sw (x : Ins) (h : othQ x) : SW Tryz.prog ⟨none, 0⟩ Tryz.f64.ntmps (Tryz.f64.body.getD .skip) ⟨0, zipT 0 [(tAgg insR).enc x], []⟩ (outQ Tryz.prog Tryz.f64.results.toList (.ret (lineV (othersF x)))) := by
  obtain ⟨h1, h2, h3⟩ := h
  have : x.op = 29 ∨ x.op = 30 ∨ x.op = 31 ∨ x.op = 32 := by omega
  rcases this with h | h | h | h
  · exact oth29 x h
  · by_cases hb : x.b = 2
    · cases hx : x.x
      · exact oth30a x h hb hx
      · exact oth30b x h hb hx
    · exact oth30c x h hb
  · exact oth31 x h (h3 h)
  · by_cases hb : x.b < 2
    · exact oth32a x h hb
    by_cases h4 : x.b = 4
    · exact oth32b x h h4
    by_cases h7 : x.b = 7
    · exact oth32c x h h7
    · exact oth32d x h (by omega) h4 h7
theorem en_others (args : Array Value) (w : World) : (callFunc 64 args).run Tryz.prog w = .ok (.enter 64 args) w := by go_simp
def othersS : Spec Tryz.prog 64 :=
  mk1 _ _ _ Tryz.func64 rfl en_others (tAgg insR) (othQ) ((fun x => .ret (lineV (othersF x)))) (by rw [Tryz.ntmps64]; decide) (fun x h => others_sw x h)
theorem others_run {id : Nat} {h : Heap} {args : List AV} : (othersS).run id h args = runP (args1 (tAgg insR) (othQ)) ((fun x => .ret (lineV (othersF x)))) h args := rfl
theorem others_pan {id : Nat} {h : Heap} {args : List AV} : (othersS).pan id h args = panP (args1 (tAgg insR) (othQ)) ((fun x => .ret (lineV (othersF x)))) h args := rfl

end Go.Proofs.YtpjlafmhoifkmaaGreat
