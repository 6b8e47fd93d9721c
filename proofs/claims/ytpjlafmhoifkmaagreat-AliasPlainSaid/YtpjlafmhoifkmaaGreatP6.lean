/- Instructions as lines: plain, Plain. Instructions as lines: the law's live instructions. -/
import Derived.Test.YtpjlafmhoifkmaaGreatI4
import Derived.Test.YtpjlafmhoifkmaaGreatR1
import Derived.Test.YtpjlafmhoifkmaaGreatR9
import Derived.Test.YtpjlafmhoifkmaaGreatP3
import Derived.Test.YtpjlafmhoifkmaaGreatP4
set_option linter.unusedVariables false
set_option linter.unusedSimpArgs false
namespace Go.Proofs.YtpjlafmhoifkmaaGreat
open Go.RowKit
set_option maxRecDepth 100000

def plainF (x : Ins) : LineV := if x.op ≤ 6 then immF x else if x.op ≤ 12 then brF x else if x.op ≤ 17 then sysLF x else if x.op ≤ 23 then ldF x else if x.op ≤ 28 then sumsF x else othersF x
theorem plain_sw (x : Ins) (hq : PlB x) : SW Tryz.prog ⟨none, 0⟩ Tryz.f27.ntmps (Tryz.f27.body.getD .skip) ⟨0, zipT 0 [(tAgg insR).enc x], []⟩ (outQ Tryz.prog Tryz.f27.results.toList (.ret (lineV (plainF x)))) := by
  refine aRun_sound (ctx := [⟨_, immS⟩, ⟨_, brS⟩, ⟨_, systemsS⟩, ⟨_, loadsS⟩, ⟨_, sumsS⟩, ⟨_, othersS⟩]) 4000 ?_
  rw [Tryz.ntmps27, Tryz.results27]
  simp only [Tryz.f27, Option.getD_some, zipT]
  have ho := hq.op
  by_cases h6 : x.op ≤ 6
  · have e : plainF x = immF x := by unfold plainF; rw [if_pos h6]
    have q : immQ x := ⟨ho.1, h6, fun h => by have := hq.adr h; omega, fun h => hq.wide h⟩
    rw [e]
    simp only [go_sem, insR, h6, imm_run, imm_pan, q, lineV]
  by_cases h12 : x.op ≤ 12
  · have e : plainF x = brF x := by unfold plainF; rw [if_neg h6, if_pos h12]
    have q : brQ x := ⟨by omega, h12, fun h => by have := hq.far (by omega) h; unfold farQ; omega⟩
    rw [e]
    simp only [go_sem, insR, h6, h12, br_run, br_pan, q, lineV]
  by_cases h17 : x.op ≤ 17
  · have e : plainF x = sysLF x := by unfold plainF; rw [if_neg h6, if_neg h12, if_pos h17]
    have q : sysQ x := ⟨by omega, h17, fun h => by have := hq.sys h; omega⟩
    rw [e]
    simp only [go_sem, insR, h6, h12, h17, systems_run, systems_pan, q, lineV]
  by_cases h23 : x.op ≤ 23
  · have e : plainF x = ldF x := by unfold plainF; rw [if_neg h6, if_neg h12, if_neg h17, if_pos h23]
    have q : ldQ x := ⟨by omega, h23, fun h => by have := hq.lit (by omega); omega, fun h1 h2 => ⟨h1, h2, fun h => by have := hq.ld h; omega, fun h => hq.idx h, fun h => hq.reg h⟩⟩
    rw [e]
    simp only [go_sem, insR, h6, h12, h17, h23, loads_run, loads_pan, q, lineV]
  by_cases h28 : x.op ≤ 28
  · have e : plainF x = sumsF x := by unfold plainF; rw [if_neg h6, if_neg h12, if_neg h17, if_neg h23, if_pos h28]
    have q : sumQ x := ⟨by omega, h28, fun h => hq.logR h, fun h => hq.mods (by omega) h⟩
    rw [e]
    simp only [go_sem, insR, h6, h12, h17, h23, h28, sums_run, sums_pan, q, lineV]
  · have e : plainF x = othersF x := by unfold plainF; rw [if_neg h6, if_neg h12, if_neg h17, if_neg h23, if_neg h28]
    have q : othQ x := ⟨by omega, ho.2, fun h => hq.two h⟩
    rw [e]
    simp only [go_sem, insR, h6, h12, h17, h23, h28, others_run, others_pan, q, lineV]
theorem en_plain (args : Array Value) (w : World) : (callFunc 27 args).run Tryz.prog w = .ok (.enter 27 args) w := by go_simp
def plainS : Spec Tryz.prog 27 :=
  mk1 _ _ _ Tryz.func27 rfl en_plain (tAgg insR) (PlB) ((fun x => .ret (lineV (plainF x)))) (by rw [Tryz.ntmps27]; decide) (fun x h => plain_sw x h)
theorem plain_run {id : Nat} {h : Heap} {args : List AV} : (plainS).run id h args = runP (args1 (tAgg insR) (PlB)) ((fun x => .ret (lineV (plainF x)))) h args := rfl
theorem plain_pan {id : Nat} {h : Heap} {args : List AV} : (plainS).pan id h args = panP (args1 (tAgg insR) (PlB)) ((fun x => .ret (lineV (plainF x)))) h args := rfl

def lnO (r : LineV) : AV := .tup [.agg [.v (.string r.1), .d (.sd 15 (r.2.map opE))], .l (.v (.int .i64 0))]
def noLn : AV := .tup [.agg [.v (.string emp), .v (.slice none 0 0)], .l (.v (.int .i64 40))]
def plO (x : Ins) : AV := if icheckF x = 0 then lnO (plainF x) else noLn
theorem icheck_40 {x : Ins} (h : ¬ icheckF x = 0) : icheckF x = 40 := by
  unfold icheckF at h ⊢
  split
  · rename_i h1; rw [if_pos h1] at h; exact absurd rfl h
  · rfl
theorem en_plainP (args : Array Value) (w : World) : (callFunc 11 args).run Tryz.prog w = .ok (.enter 11 args) w := by go_simp
def plainPS : Spec Tryz.prog 11 :=
  mk1 _ _ _ Tryz.func11 rfl en_plainP (tAgg insR) ((fun _ => True)) ((fun x => .ret (plO x))) (by rw [Tryz.ntmps11]; decide) (fun x _ => by
  refine aRun_sound (ctx := [⟨_, icheckS⟩, ⟨_, plainS⟩]) 4000 ?_
  rw [Tryz.ntmps11, Tryz.results11]
  simp only [Tryz.f11, Option.getD_some, zipT]
  by_cases h : icheckF x = 0
  · have q := plB_of h
    have e : plO x = lnO (plainF x) := by unfold plO; rw [if_pos h]
    rw [e]
    simp only [go_sem, insR, icheck_run, icheck_pan, h, plain_run, plain_pan, q, lineV, lnO]
  · have e : plO x = noLn := by unfold plO; rw [if_neg h]
    have h40 := icheck_40 h
    rw [e]
    simp only [go_sem, insR, icheck_run, icheck_pan, h40, noLn, emp])
theorem plainP_run {id : Nat} {h : Heap} {args : List AV} : (plainPS).run id h args = runP (args1 (tAgg insR) ((fun _ => True))) ((fun x => .ret (plO x))) h args := rfl
theorem plainP_pan {id : Nat} {h : Heap} {args : List AV} : (plainPS).pan id h args = panP (args1 (tAgg insR) ((fun _ => True))) ((fun x => .ret (plO x))) h args := rfl

end Go.Proofs.YtpjlafmhoifkmaaGreat

namespace Go.Proofs.YtpjlafmhoifkmaaGreat
open Go.RowKit
set_option maxRecDepth 100000

def aliasO : Option LineV → AV
  | some r => .tup [.agg [.v (.string r.1), .d (.sd 15 (r.2.map opE))], .l (.v (.bool true))]
  | none => .tup [.agg [.v (.string emp), .v (.slice none 0 0)], .l (.v (.bool false))]
/-- behind the making of a writer -/
def wrA (x : Ins) : St := ⟨4, [(1, .s (.l (.p 0 0 0))), (2, .s (.l (.p 1 0 0))), (3, bv false), (4, .s (.l (.p 2 0 0)))], [(0, some ⟨true, 27, 10, [insE x]⟩), (1, some boxL), (2, some (wrK x emp 0 3)), (3, some (opsK []))]⟩
def liveR (x : Ins) : Prop := x.b = 1 ∧ x.s = false ∧ x.rn = 31 ∧ x.a = 0 ∧ x.c = 0
def liveA (x : Ins) : Prop := x.b = 1 ∧ x.s = true ∧ x.rd = 31 ∧ x.a = 0 ∧ x.c = 0
set_option maxHeartbeats 4000000 in
theorem logReg_sw (x : Ins) (h : liveR x) : SW Tryz.prog ⟨none, 0⟩ Tryz.f52.ntmps (Tryz.f52.body.getD .skip) ⟨0, zipT 0 [(tAgg insR).enc x], []⟩ (outQ Tryz.prog Tryz.f52.results.toList (.ret (aliasO (some ((⟨#[109, 111, 118]⟩ : ByteArray), [dO x, mO x]))))) := by
  rw [Tryz.ntmps52, Tryz.results52]
  simp only [Tryz.f52, Option.getD_some, zipT]
  refine sw_seq (aRun_sound (ctx := []) 4000 ?_)
  simp only [go_sem, thenQ, insR]
  refine sw_seq (aRun_sound (ctx := []) 4000 ?_)
  simp only [go_sem, thenQ]
  refine SW.wk (s' := wrA x) ?_ ((Wk.nilC 80 11 40 15 (k := ⟨true, 68, 12, [insE x ++ [.v (.string emp), .v (.slice none 0 0)]]⟩) rfl rfl rfl).trans (Wk.renL [0, 16, 80, 112] (by simp) (by simp [wrA]) (by decide) rfl rfl))
  refine aRun_sound (ctx := [⟨_, lineS stepsT⟩]) 4000 ?_
  obtain ⟨h1, h2, h3, h4, h5⟩ := h
  have b1 : (x.b == 1) = true := by simpa using h1
  have b3 : (x.rn == 31) = true := by simpa using h3
  have b4 : (x.a == 0) = true := by simpa using h4
  have b5 : (x.c == 0) = true := by simpa using h5
  simp only [go_sem, wrA, insE, wrK, opsK, boxL, b1, h2, b3, b4, b5, fn_zero, fn_sz, line_run, line_pan, runQ, decLn, decWr, decWrL, decOps_map, decStep, outLn, gOf, decAll, opL_ren1, mapT_opL, aliasO, lineQ, stepsQ, stepsF, at_D, at_M, stpD, stpM]
  rfl
set_option maxHeartbeats 4000000 in
theorem addReg_sw (x : Ins) (ho : x.op = 25) (h : liveA x) : SW Tryz.prog ⟨none, 0⟩ Tryz.f53.ntmps (Tryz.f53.body.getD .skip) ⟨0, zipT 0 [(tAgg insR).enc x], []⟩ (outQ Tryz.prog Tryz.f53.results.toList (.ret (aliasO (some ((⟨#[99, 109, 112]⟩ : ByteArray), [nO x, mO x]))))) := by
  rw [Tryz.ntmps53, Tryz.results53]
  simp only [Tryz.f53, Option.getD_some, zipT]
  refine sw_seq (aRun_sound (ctx := []) 4000 ?_)
  simp only [go_sem, thenQ, insR]
  refine sw_seq (aRun_sound (ctx := []) 4000 ?_)
  simp only [go_sem, thenQ]
  refine SW.wk (s' := wrA x) ?_ ((Wk.nilC 80 11 40 15 (k := ⟨true, 68, 12, [insE x ++ [.v (.string emp), .v (.slice none 0 0)]]⟩) rfl rfl rfl).trans (Wk.renL [0, 16, 80, 112] (by simp) (by simp [wrA]) (by decide) rfl rfl))
  refine aRun_sound (ctx := [⟨_, pickS⟩, ⟨_, lineS steps3⟩]) 4000 ?_
  obtain ⟨h1, h2, h3, h4, h5⟩ := h
  have b0 : (x.op == 27) = false := by rw [ho]; decide
  have b3 : (x.rd == 31) = true := by simpa using h3
  have hp : pickF 1 [(⟨#[99, 109, 110]⟩ : ByteArray), (⟨#[99, 109, 112]⟩ : ByteArray)] = (⟨#[99, 109, 112]⟩ : ByteArray) := by decide
  have hm : movedL x [nO x, mO x] = [nO x, mO x] := movedL_no ⟨h4, h5⟩
  have hc : 0 ≤ x.c ∧ x.c ≤ 7 := by omega
  simp only [go_sem, wrA, insE, wrK, opsK, boxL, b0, h1, h2, b3, pick_run, pick_pan, runR, panR, decPk, decWordL, decAll, outPk, hp, fn_zero, fn_sz, line_run, line_pan, runQ, decLn, decWr, decWrL, decOps_map, decStep, outLn, gOf, opL_ren1, mapT_opL, aliasO, lineQ, stepsQ, stepsF, at3_N, at3_M, at3_Mv, stpN, stpM, stpMv, hm, h4, h5, movedL_no, and_self]
  rfl
theorem en_logReg (args : Array Value) (w : World) : (callFunc 52 args).run Tryz.prog w = .ok (.enter 52 args) w := by go_simp
def logRegS : Spec Tryz.prog 52 :=
  mk1 _ _ _ Tryz.func52 rfl en_logReg (tAgg insR) (liveR) ((fun x => .ret (aliasO (some ((⟨#[109, 111, 118]⟩ : ByteArray), [dO x, mO x]))))) (by rw [Tryz.ntmps52]; decide) (fun x h => logReg_sw x h)
theorem logReg_run {id : Nat} {h : Heap} {args : List AV} : (logRegS).run id h args = runP (args1 (tAgg insR) (liveR)) ((fun x => .ret (aliasO (some ((⟨#[109, 111, 118]⟩ : ByteArray), [dO x, mO x]))))) h args := rfl
theorem logReg_pan {id : Nat} {h : Heap} {args : List AV} : (logRegS).pan id h args = panP (args1 (tAgg insR) (liveR)) ((fun x => .ret (aliasO (some ((⟨#[109, 111, 118]⟩ : ByteArray), [dO x, mO x]))))) h args := rfl
theorem en_addReg (args : Array Value) (w : World) : (callFunc 53 args).run Tryz.prog w = .ok (.enter 53 args) w := by go_simp
def addRegS : Spec Tryz.prog 53 :=
  mk1 _ _ _ Tryz.func53 rfl en_addReg (tAgg insR) ((fun x => x.op = 25 ∧ liveA x)) ((fun x => .ret (aliasO (some ((⟨#[99, 109, 112]⟩ : ByteArray), [nO x, mO x]))))) (by rw [Tryz.ntmps53]; decide) (fun x h => addReg_sw x h.1 h.2)
theorem addReg_run {id : Nat} {h : Heap} {args : List AV} : (addRegS).run id h args = runP (args1 (tAgg insR) ((fun x => x.op = 25 ∧ liveA x))) ((fun x => .ret (aliasO (some ((⟨#[99, 109, 112]⟩ : ByteArray), [nO x, mO x]))))) h args := rfl
theorem addReg_pan {id : Nat} {h : Heap} {args : List AV} : (addRegS).pan id h args = panP (args1 (tAgg insR) ((fun x => x.op = 25 ∧ liveA x))) ((fun x => .ret (aliasO (some ((⟨#[99, 109, 112]⟩ : ByteArray), [nO x, mO x]))))) h args := rfl
def aliasV (x : Ins) : LineV := if x.op = 24 then ((⟨#[109, 111, 118]⟩ : ByteArray), [dO x, mO x]) else ((⟨#[99, 109, 112]⟩ : ByteArray), [nO x, mO x])
def alQ (x : Ins) : Prop := (x.op = 24 ∧ liveR x) ∨ (x.op = 25 ∧ liveA x)
set_option maxHeartbeats 4000000 in
theorem alias_sw (x : Ins) (h : alQ x) : SW Tryz.prog ⟨none, 0⟩ Tryz.f26.ntmps (Tryz.f26.body.getD .skip) ⟨0, zipT 0 [(tAgg insR).enc x], []⟩ (outQ Tryz.prog Tryz.f26.results.toList (.ret (aliasO (some (aliasV x))))) := by
  refine aRun_sound (ctx := [⟨_, logRegS⟩, ⟨_, addRegS⟩]) 4000 ?_
  rw [Tryz.ntmps26, Tryz.results26]
  simp only [Tryz.f26, Option.getD_some, zipT]
  rcases h with ⟨h, hq⟩ | ⟨h, hq⟩
  · have e : aliasV x = ((⟨#[109, 111, 118]⟩ : ByteArray), [dO x, mO x]) := by unfold aliasV; rw [if_pos h]
    have hq' : liveR ⟨24, x.x, x.s, x.rd, x.rn, x.rm, x.ra, x.a, x.b, x.c⟩ := hq
    rw [e]
    simp only [go_sem, insR, h, logReg_run, logReg_pan, hq', aliasO]
    rfl
  · have e : aliasV x = ((⟨#[99, 109, 112]⟩ : ByteArray), [nO x, mO x]) := by unfold aliasV; rw [if_neg (by omega)]
    have hq' : liveA ⟨25, x.x, x.s, x.rd, x.rn, x.rm, x.ra, x.a, x.b, x.c⟩ := hq
    rw [e]
    simp only [go_sem, insR, h, addReg_run, addReg_pan, hq', aliasO]
    rfl
theorem en_alias (args : Array Value) (w : World) : (callFunc 26 args).run Tryz.prog w = .ok (.enter 26 args) w := by go_simp
def aliasS : Spec Tryz.prog 26 :=
  mk1 _ _ _ Tryz.func26 rfl en_alias (tAgg insR) (alQ) ((fun x => .ret (aliasO (some (aliasV x))))) (by rw [Tryz.ntmps26]; decide) (fun x h => alias_sw x h)
theorem alias_run {id : Nat} {h : Heap} {args : List AV} : (aliasS).run id h args = runP (args1 (tAgg insR) (alQ)) ((fun x => .ret (aliasO (some (aliasV x))))) h args := rfl
theorem alias_pan {id : Nat} {h : Heap} {args : List AV} : (aliasS).pan id h args = panP (args1 (tAgg insR) (alQ)) ((fun x => .ret (aliasO (some (aliasV x))))) h args := rfl
def lnQ (x : Ins) : Prop := icheckF x = 0 ∧ alQ x
set_option maxHeartbeats 2000000 in
theorem en_lineF (args : Array Value) (w : World) : (callFunc 9 args).run Tryz.prog w = .ok (.enter 9 args) w := by go_simp
def lineFS : Spec Tryz.prog 9 :=
  mk1 _ _ _ Tryz.func9 rfl en_lineF (tAgg insR) (lnQ) ((fun x => .ret (lnO (aliasV x)))) (by rw [Tryz.ntmps9]; decide) (fun x h => by
  refine aRun_sound (ctx := [⟨_, icheckS⟩, ⟨_, aliasS⟩]) 4000 ?_
  rw [Tryz.ntmps9, Tryz.results9]
  simp only [Tryz.f9, Option.getD_some, zipT]
  obtain ⟨h1, h3⟩ := h
  simp only [go_sem, insR, icheck_run, icheck_pan, h1, alias_run, alias_pan, h3, aliasO, lnO])
theorem lineF_run {id : Nat} {h : Heap} {args : List AV} : (lineFS).run id h args = runP (args1 (tAgg insR) (lnQ)) ((fun x => .ret (lnO (aliasV x)))) h args := rfl
theorem lineF_pan {id : Nat} {h : Heap} {args : List AV} : (lineFS).pan id h args = panP (args1 (tAgg insR) (lnQ)) ((fun x => .ret (lnO (aliasV x)))) h args := rfl
def L1 : Ins := ⟨24, true, false, 0, 31, 1, 0, 0, 1, 0⟩
def L2 : Ins := ⟨25, true, true, 31, 1, 2, 0, 0, 1, 0⟩
theorem l1_q' : lnQ ⟨24, true, false, 0, 31, 1, 0, 0, 1, 0⟩ := ⟨by decide, .inl ⟨rfl, rfl, rfl, rfl, rfl, rfl⟩⟩
theorem l2_q' : lnQ ⟨25, true, true, 31, 1, 2, 0, 0, 1, 0⟩ := ⟨by decide, .inr ⟨rfl, rfl, rfl, rfl, rfl, rfl⟩⟩
theorem l1_r' : aliasV ⟨24, true, false, 0, 31, 1, 0, 0, 1, 0⟩ = ((⟨#[109, 111, 118]⟩ : ByteArray), [dO L1, mO L1]) := rfl
theorem l2_r' : aliasV ⟨25, true, true, 31, 1, 2, 0, 0, 1, 0⟩ = ((⟨#[99, 109, 112]⟩ : ByteArray), [nO L2, mO L2]) := rfl
set_option maxHeartbeats 1000000 in
theorem en_live (args : Array Value) (w : World) : (callFunc 7 args).run Tryz.prog w = .ok (.enter 7 args) w := by go_simp
def liveS : Spec Tryz.prog 7 :=
  mk0 _ _ _ Tryz.func7 rfl en_live  (True) ((.ret (bv true))) (fun _ => by
  refine aRun_sound (ctx := [⟨_, lineFS⟩]) 4000 ?_
  rw [Tryz.ntmps7, Tryz.results7]
  simp only [Tryz.f7, Option.getD_some, zipT]
  simp only [go_sem, insR, lineF_run, lineF_pan, l1_q', l2_q', l1_r', l2_r', lnO])
theorem live_run {id : Nat} {h : Heap} {args : List AV} : (liveS).run id h args = runP (args0  (True)) (fun _ => (.ret (bv true))) h args := rfl
theorem live_pan {id : Nat} {h : Heap} {args : List AV} : (liveS).pan id h args = panP (args0  (True)) (fun _ => (.ret (bv true))) h args := rfl

end Go.Proofs.YtpjlafmhoifkmaaGreat
