/- Names of registers. -/
import Derived.Test.YtpjlafmhoifkmaaGreatA3
import Derived.Test.YtpjlafmhoifkmaaGreatJ0
set_option linter.unusedVariables false
set_option linter.unusedSimpArgs false
namespace Go.Proofs.YtpjlafmhoifkmaaGreat
open Go.RowKit

/-! ### Texts -/
theorem en_text (args : Array Value) (w : World) : (callFunc 39 args).run Tryz.prog w = .ok (.enter 39 args) w := by go_simp
def textS : Spec Tryz.prog 39 :=
  mk1C _ en_text (tInt .i64) (fun n => 0 ≤ n ∧ n < 1000) (fun n => sv (textF n)) (fun _ => rfl) (fun n hn M w v _ hv => by
    have hv' : v = .int .i64 n := hv
    subst hv'
    exact (text_any n w hn).mono fun e w' h => ⟨⟨_, h.1, rfl⟩, h.2⟩)
theorem text_run {id : Nat} {h : Heap} {args : List AV} : textS.run id h args = runP (args1 (tInt .i64) (fun n => 0 ≤ n ∧ n < 1000)) (fun n => .ret (sv (textF n))) h args := rfl
theorem text_pan {id : Nat} {h : Heap} {args : List AV} : textS.pan id h args = panP (args1 (tInt .i64) (fun n => 0 ≤ n ∧ n < 1000)) (fun n => .ret (sv (textF n))) h args := rfl


def regR : RowTy RegV where
  dec := fun | [.v (.int .i64 n), .v (.bool x), .v (.bool p)] => some ⟨n, x, p⟩ | _ => none
  enc := fun r => [.v (.int .i64 r.n), .v (.bool r.x), .v (.bool r.sp)]
  inv := by
    intro c x h
    split at h
    · injection h with h; subst h; rfl
    · cases h
  back := by intro x; rfl

def nameO (r : ByteArray × Int) : AV := .tup [.l (.v (.string r.1)), .l (.v (.int .i64 r.2))]

theorem textF_size (n : Int) : (textF n).size ≤ 3 := by
  unfold textF
  split
  · rw [ofBytes_size]; simp
  · split <;> (rw [ofBytes_size]; simp)

set_option maxRecDepth 100000 in
set_option maxHeartbeats 4000000 in
theorem regName_sw (r : RegV) : SW Tryz.prog ⟨none, 0⟩ Tryz.f20.ntmps (Tryz.f20.body.getD .skip) ⟨0, zipT 0 [(tAgg regR).enc r], []⟩ (outQ Tryz.prog Tryz.f20.results.toList (.ret (nameO (regNameF r)))) := by
  obtain ⟨n, x, sp⟩ := r
  refine aRun_sound (ctx := [⟨_, textS⟩]) 4000 ?_
  rw [Tryz.ntmps20, Tryz.results20]
  simp only [Tryz.f20, Option.getD_some, zipT]
  have hz : (textF n).size ≤ 3 := textF_size n
  have e1 : (1 + (textF n).size : Nat) ≤ maxLen := by unfold maxLen; omega
  have e2 : (⟨#[119]⟩ : ByteArray) = wS := rfl
  have e3 : (⟨#[120]⟩ : ByteArray) = xS := rfl
  by_cases h1 : n < 0
  · cases x <;> cases sp <;> simp only [go_sem, Nat.reduceOr, Nat.reducePow, Nat.reduceDiv, Nat.reduceMod, Nat.reduceBEq, Int.reduceBEq, Int.reduceBNe, Int.reduceEq, Int.reduceLT, Int.reduceLE, Int.reduceToNat, reduceIte, reduceCtorEq, Nat.reduceEqDiff, Nat.reduceAdd, Nat.reduceLT, Nat.reduceLeDiff, Nat.reduceMul, Nat.reduceSub, regR, h1, nameO, regNameF, lit_emp]
  by_cases h2 : 31 < n
  · cases x <;> cases sp <;> simp only [go_sem, Nat.reduceOr, Nat.reducePow, Nat.reduceDiv, Nat.reduceMod, Nat.reduceBEq, Int.reduceBEq, Int.reduceBNe, Int.reduceEq, Int.reduceLT, Int.reduceLE, Int.reduceToNat, reduceIte, reduceCtorEq, Nat.reduceEqDiff, Nat.reduceAdd, Nat.reduceLT, Nat.reduceLeDiff, Nat.reduceMul, Nat.reduceSub, regR, h1, h2, nameO, regNameF, lit_emp]
  by_cases h3 : n = 31
  · subst h3
    cases x <;> cases sp <;> simp only [go_sem, Nat.reduceOr, Nat.reducePow, Nat.reduceDiv, Nat.reduceMod, Nat.reduceBEq, Int.reduceBEq, Int.reduceBNe, Int.reduceEq, Int.reduceLT, Int.reduceLE, Int.reduceToNat, reduceIte, reduceCtorEq, Nat.reduceEqDiff, Nat.reduceAdd, Nat.reduceLT, Nat.reduceLeDiff, Nat.reduceMul, Nat.reduceSub, regR, nameO, regNameF, lit_emp] <;> first | rfl | exact ⟨by decide, rfl⟩ | decide
  · have h4 : 0 ≤ n ∧ n < 1000 := by omega
    have h5 : ¬ n > 31 := h2
    cases x <;> cases sp <;> simp only [go_sem, Nat.reduceOr, Nat.reducePow, Nat.reduceDiv, Nat.reduceMod, Nat.reduceBEq, Int.reduceBEq, Int.reduceBNe, Int.reduceEq, Int.reduceLT, Int.reduceLE, Int.reduceToNat, reduceIte, reduceCtorEq, Nat.reduceEqDiff, Nat.reduceAdd, Nat.reduceLT, Nat.reduceLeDiff, Nat.reduceMul, Nat.reduceSub, regR, h1, h2, h3, h4, nameO, regNameF, lit_emp, text_run, text_pan, e2, e3, show wS.size = 1 from rfl, show xS.size = 1 from rfl, e1]


theorem en_regName (args : Array Value) (w : World) : (callFunc 20 args).run Tryz.prog w = .ok (.enter 20 args) w := by go_simp
def regNameS : Spec Tryz.prog 20 :=
  mk1 _ _ _ Tryz.func20 rfl en_regName (tAgg regR) ((fun _ => True)) ((fun r => .ret (nameO (regNameF r)))) (by rw [Tryz.ntmps20]; decide) (fun r _ => regName_sw r)
theorem regName_run {id : Nat} {h : Heap} {args : List AV} : (regNameS).run id h args = runP (args1 (tAgg regR) ((fun _ => True))) ((fun r => .ret (nameO (regNameF r)))) h args := rfl
theorem regName_pan {id : Nat} {h : Heap} {args : List AV} : (regNameS).pan id h args = panP (args1 (tAgg regR) ((fun _ => True))) ((fun r => .ret (nameO (regNameF r)))) h args := rfl

end Go.Proofs.YtpjlafmhoifkmaaGreat
