/- The law of the first fault: its walk. -/
import Derived.Test.YtpdjaabjfhjppaaGreatDoorH3
import Derived.Test.YtpdjaabjfhjppaaGreatDoorMo
set_option linter.unusedVariables false
set_option linter.unusedSimpArgs false
namespace Go.Proofs.YtpdjaabjfhjppaaGreatDoor
open Go.RowKit
set_option maxRecDepth 100000

theorem flt_neq {x y : Operand} {a b : Flt} : pureV Tryz.prog (do eqGuard .neq 25 x y (.agg #[.int .i64 a.file, .int .i64 a.line, .int .i64 a.err]) (.agg #[.int .i64 b.file, .int .i64 b.line, .int .i64 b.err]); binOp .neq 25 (.agg #[.int .i64 a.file, .int .i64 a.line, .int .i64 a.err]) (.agg #[.int .i64 b.file, .int .i64 b.line, .int .i64 b.err])) = some (.bool (!decide (a = b))) := by
  have h : flatEq Tryz.prog 25 [.int .i64 a.file, .int .i64 a.line, .int .i64 a.err] [.int .i64 b.file, .int .i64 b.line, .int .i64 b.err] = some (decide (a = b)) := by
    obtain ⟨a1, a2, a3⟩ := a
    obtain ⟨b1, b2, b3⟩ := b
    simp only [flatEq, flat_flt, eqKs]
    by_cases h1 : a1 = b1 <;> by_cases h2 : a2 = b2 <;> by_cases h3 : a3 = b3 <;> simp [h1, h2, h3]
  have := pure_flat_neq (P := Tryz.prog) (t := 25) (x := x) (y := y) (xs := [.int .i64 a.file, .int .i64 a.line, .int .i64 a.err]) (ys := [.int .i64 b.file, .int .i64 b.line, .int .i64 b.err])
  rw [h, orPure_ne] at this
  exact this
theorem flt_eql {x y : Operand} {a b : Flt} : pureV Tryz.prog (do eqGuard .eql 25 x y (.agg #[.int .i64 a.file, .int .i64 a.line, .int .i64 a.err]) (.agg #[.int .i64 b.file, .int .i64 b.line, .int .i64 b.err]); binOp .eql 25 (.agg #[.int .i64 a.file, .int .i64 a.line, .int .i64 a.err]) (.agg #[.int .i64 b.file, .int .i64 b.line, .int .i64 b.err])) = some (.bool (decide (a = b))) := by
  have h : flatEq Tryz.prog 25 [.int .i64 a.file, .int .i64 a.line, .int .i64 a.err] [.int .i64 b.file, .int .i64 b.line, .int .i64 b.err] = some (decide (a = b)) := by
    obtain ⟨a1, a2, a3⟩ := a
    obtain ⟨b1, b2, b3⟩ := b
    simp only [flatEq, flat_flt, eqKs]
    by_cases h1 : a1 = b1 <;> by_cases h2 : a2 = b2 <;> by_cases h3 : a3 = b3 <;> simp [h1, h2, h3]
  have := pure_flat_eql (P := Tryz.prog) (t := 25) (x := x) (y := y) (xs := [.int .i64 a.file, .int .i64 a.line, .int .i64 a.err]) (ys := [.int .i64 b.file, .int .i64 b.line, .int .i64 b.err])
  rw [h, orPure_eq] at this
  exact this

theorem pure_bne {x y : Operand} {a b : Bool} : pureV Tryz.prog (do eqGuard .neq 4 x y (.bool a) (.bool b); binOp .neq 4 (.bool a) (.bool b)) = some (.bool (a != b)) := by
  refine pureV_eq fun w => ?_
  cases a <;> cases b <;> rfl
def fltsK (l : List Flt) : Blk := ⟨true, 25, 3, (l.map fltR.enc).map ofDs⟩
theorem fltsK_flat (l : List Flt) : (fltsK l).flatB = true := by
  unfold Blk.flatB fltsK
  simp only [List.map_map]
  rw [List.all_eq_true]
  intro e he
  obtain ⟨t, _, rfl⟩ := List.mem_map.1 he
  rfl
theorem clone_sw (l : List Flt) (hl : l ≠ [] ∧ l.length ≤ 1000000) : SW Tryz.prog ⟨none, 0⟩ Tryz.f7.ntmps (Tryz.f7.body.getD .skip) ⟨0, zipT 0 [tFlts.enc l], []⟩ (endQ (fun s => ∃ b, aRet Tryz.prog Tryz.f7.results.toList s = some (.s (.l (.sl b 0 l.length))) ∧ hget s.h b = some (fltsK l)) (fun _ _ => False)) := by
  refine aRun_sound (ctx := []) 4000 ?_
  rw [Tryz.ntmps7, Tryz.results7]
  simp only [Tryz.f7, Option.getD_some, zipT]
  have h1 : ¬ l = [] := hl.1
  have hm : l.length ≤ maxLen := by unfold maxLen; omega
  have hb : l.length * 24 ≤ 140737488355328 := by omega
  simp only [go_sem, h1, hm, hb, endQ_ret, endQ_normal, List.map_eq_nil_iff]
  exact ⟨80, rfl, rfl⟩
theorem en_clone (args : Array Value) (w : World) : (callFunc 7 args).run Tryz.prog w = .ok (.enter 7 args) w := by go_simp
def cloneS : Spec Tryz.prog 7 :=
  mkO _ _ _ Tryz.func7 rfl en_clone tFlts (fun _ => rfl) (fun l => l ≠ [] ∧ l.length ≤ 1000000) (fun l => l.length) fltsK (fun l => ⟨rfl, fltsK_flat l⟩) (by rw [Tryz.ntmps7]; decide) (fun l h => clone_sw l h)
theorem clone_run {id : Nat} {h : Heap} {zs : List AV} : cloneS.run id h zs = runN (decO tFlts (fun l => l ≠ [] ∧ l.length ≤ 1000000)) (fun l => l.length) fltsK id zs := rfl
theorem clone_pan {id : Nat} {h : Heap} {zs : List AV} : cloneS.pan id h zs = none := rfl
end Go.Proofs.YtpdjaabjfhjppaaGreatDoor
