/- Instructions, operands, lines: how they lie in memory. -/
import Derived.Test.YtpjlafmhoifkmaaGreatChecked
import Derived.Test.YtpjlafmhoifkmaaGreatWs
import Derived.Test.YtpjlafmhoifkmaaGreatI2
import Derived.Test.YtpjlafmhoifkmaaGreatC0
set_option linter.unusedVariables false
set_option linter.unusedSimpArgs false
namespace Go.Proofs.YtpjlafmhoifkmaaGreat
open Go.RowKit

theorem mixed : Tryz.prog.follows .mixedOrders = true := by kernel_rfl

def insR : RowTy Ins where
  dec := fun | [.v (.int .i64 op), .v (.bool x), .v (.bool s), .v (.int .i64 rd), .v (.int .i64 rn), .v (.int .i64 rm), .v (.int .i64 ra), .v (.int .i64 a), .v (.int .i64 b), .v (.int .i64 c)] => some ⟨op, x, s, rd, rn, rm, ra, a, b, c⟩ | _ => none
  enc := fun x => [.v (.int .i64 x.op), .v (.bool x.x), .v (.bool x.s), .v (.int .i64 x.rd), .v (.int .i64 x.rn), .v (.int .i64 x.rm), .v (.int .i64 x.ra), .v (.int .i64 x.a), .v (.int .i64 x.b), .v (.int .i64 x.c)]
  inv := by
    intro c x h
    split at h
    · injection h with h; subst h; rfl
    · cases h
  back := by intro x; rfl

def opE (o : OpV) : List D := [.v (.int .i64 o.kind), .v (.int .i64 o.r.n), .v (.bool o.r.x), .v (.bool o.r.sp), .v (.int .i64 o.m.n), .v (.bool o.m.x), .v (.bool o.m.sp), .v (.int .i64 o.md), .v (.int .i64 o.amt), .v (.int .i64 o.n), .v (.int .i64 o.add), .v (.string o.plus), .v (.string o.minus), .v (.bool o.lo), .v (.int .i64 o.mode)]
def opR : RowTy OpV where
  dec := fun | [.v (.int .i64 kind), .v (.int .i64 rn), .v (.bool rx), .v (.bool rs), .v (.int .i64 mn), .v (.bool mx), .v (.bool ms), .v (.int .i64 md), .v (.int .i64 amt), .v (.int .i64 n), .v (.int .i64 add), .v (.string plus), .v (.string minus), .v (.bool lo), .v (.int .i64 mode)] => some ⟨kind, ⟨rn, rx, rs⟩, ⟨mn, mx, ms⟩, md, amt, n, add, plus, minus, lo, mode⟩ | _ => none
  enc := opE
  inv := by
    intro c x h
    split at h
    · injection h with h; subst h; rfl
    · cases h
  back := by intro x; rfl
def insE (x : Ins) : List LV := [.v (.int .i64 x.op), .v (.bool x.x), .v (.bool x.s), .v (.int .i64 x.rd), .v (.int .i64 x.rn), .v (.int .i64 x.rm), .v (.int .i64 x.ra), .v (.int .i64 x.a), .v (.int .i64 x.b), .v (.int .i64 x.c)]
def opV (o : OpV) : AV := (tAgg opR).enc o
def opL (o : OpV) : List LV := ofDs (opE o)

/-! ### The small functions -/
theorem en_reg (args : Array Value) (w : World) : (callFunc 111 args).run Tryz.prog w = .ok (.enter 111 args) w := by go_simp
def regS : Spec Tryz.prog 111 :=
  mk2 _ _ _ Tryz.func111 rfl en_reg (tInt .i64) (tBool) ((fun _ _ => True)) ((fun n x => .ret (opV (oReg n x)))) (by rw [Tryz.ntmps111]; decide) (fun n x _ => by
  refine aRun_sound (ctx := []) 4000 ?_
  rw [Tryz.ntmps111, Tryz.results111]
  simp only [Tryz.f111, Option.getD_some, zipT]
  simp only [go_sem, Nat.reduceOr, Nat.reducePow, Nat.reduceDiv, Nat.reduceMod, Nat.reduceBEq, Int.reduceBEq, Int.reduceBNe, Int.reduceEq, Int.reduceLT, Int.reduceLE, Int.reduceToNat, reduceIte, reduceCtorEq, Nat.reduceEqDiff, Nat.reduceAdd, Nat.reduceLT, Nat.reduceLeDiff, Nat.reduceMul, Nat.reduceSub, opV, oReg, op0, r0, opR, opE, emp])
theorem reg_run {id : Nat} {h : Heap} {args : List AV} : (regS).run id h args = runP (args2 (tInt .i64) (tBool) ((fun _ _ => True))) (fun x => ((fun n x => .ret (opV (oReg n x)))) x.1 x.2) h args := rfl
theorem reg_pan {id : Nat} {h : Heap} {args : List AV} : (regS).pan id h args = panP (args2 (tInt .i64) (tBool) ((fun _ _ => True))) (fun x => ((fun n x => .ret (opV (oReg n x)))) x.1 x.2) h args := rfl

end Go.Proofs.YtpjlafmhoifkmaaGreat
