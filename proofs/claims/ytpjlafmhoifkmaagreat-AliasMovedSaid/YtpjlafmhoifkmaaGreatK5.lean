/- Logical immediates: the sizes of elements, one by one. -/
import Derived.Test.YtpjlafmhoifkmaaGreatK4
set_option linter.unusedVariables false
set_option linter.unusedSimpArgs false
namespace Go.Proofs.YtpjlafmhoifkmaaGreat
open Go.RowKit
set_option maxRecDepth 100000

def srow (n : Nat) : List AV := [iv n]
def szI : Nat → Int
  | 0 => 2
  | 1 => 4
  | 2 => 8
  | 3 => 16
  | 4 => 32
  | 5 => 64
  | _ => 128
def decSz : List D → Option (Prop × List (List AV))
  | [.pd [.v (.int .i64 w)]] => some (w = 32 ∨ w = 64, (lSizes w.toNat).map srow)
  | _ => none
def szT (l : Nat) (w : Int) (i : Nat) : St := ⟨0, [(0, yieldV l), (1, .s (.l (.d (.pd [.v (.int .i64 w)])))), (3, iv (szI i))], []⟩
theorem sI0 : szI 0 = 2 := rfl
theorem sI1 : szI 1 = 4 := rfl
theorem sI2 : szI 2 = 8 := rfl
theorem sI3 : szI 3 = 16 := rfl
theorem sI4 : szI 4 = 32 := rfl
theorem sI5 : szI 5 = 64 := rfl
theorem sI6 : szI 6 = 128 := rfl
theorem sW2 : IntKind.i64.wrap (2 * 2) = 4 := by decide
theorem sW4 : IntKind.i64.wrap (4 * 2) = 8 := by decide
theorem sW8 : IntKind.i64.wrap (8 * 2) = 16 := by decide
theorem sW16 : IntKind.i64.wrap (16 * 2) = 32 := by decide
theorem sW32 : IntKind.i64.wrap (32 * 2) = 64 := by decide
theorem sW64 : IntKind.i64.wrap (64 * 2) = 128 := by decide
theorem t32 : Int.toNat 32 = 32 := rfl
theorem t64 : Int.toNat 64 = 64 := rfl
theorem len32 : (lSizes 32).length = 5 := rfl
theorem len64 : (lSizes 64).length = 6 := rfl
set_option maxHeartbeats 2000000 in
theorem sizes1_sw (l : Nat) (w : Int) (h : w = 32 ∨ w = 64) : SWy Tryz.prog l ((lSizes w.toNat).map srow) ⟨none, 0⟩ Tryz.f169.ntmps (Tryz.f169.body.getD .skip) ⟨0, zipT 0 [yieldV l, .s (.l (.d (.pd [.v (.int .i64 w)])))], []⟩ (0, true) (itQ ((lSizes w.toNat).map srow)) := by
  refine yRun_sound (ctx := []) 4000 ?_
  rw [Tryz.ntmps169]
  simp only [Tryz.f169, Option.getD_some, zipT]
  simp only [go_sem, Nat.reduceOr, Nat.reducePow, Nat.reduceDiv, Nat.reduceMod, Nat.reduceBEq, Int.reduceBEq, Int.reduceBNe, Int.reduceEq, Int.reduceLT, Int.reduceLE, Int.reduceToNat, reduceIte, reduceCtorEq, Nat.reduceEqDiff, Nat.reduceAdd, Nat.reduceLT, Nat.reduceLeDiff, Nat.reduceMul, Nat.reduceSub, yieldV]
  rcases h with rfl | rfl
  · refine swy_loop (ι := Nat) (fun i => i ≤ 5) (szT l 32) (fun i => (i, true)) (fun i => 5 - i) 0 (Nat.zero_le _) rfl (fun i _ b k hk => by cases hk) (Wk.renL [] (by simp) (by simp) (by simp) rfl rfl) ?_
    intro i hi
    refine yRun_sound (ctx := []) 4000 ?_
    have : i = 0 ∨ i = 1 ∨ i = 2 ∨ i = 3 ∨ i = 4 ∨ i = 5 := by omega
    rcases this with rfl | rfl | rfl | rfl | rfl | rfl
    all_goals simp only [go_sem, Nat.reduceOr, Nat.reducePow, Nat.reduceDiv, Nat.reduceMod, Nat.reduceBEq, Int.reduceBEq, Int.reduceBNe, Int.reduceEq, Int.reduceLT, Int.reduceLE, Int.reduceToNat, reduceIte, reduceCtorEq, Nat.reduceEqDiff, Nat.reduceAdd, Nat.reduceLT, Nat.reduceLeDiff, Nat.reduceMul, Nat.reduceSub, szT, sI0, sI1, sI2, sI3, sI4, sI5, sI6, sW2, sW4, sW8, sW16, sW32, sW64, yieldV, t32, t64, len32, len64, List.length_map]
    · exact ⟨rfl, 1, by decide, by decide, rfl, Wk.renL [] (by simp) (by simp) (by simp) rfl rfl⟩
    · exact ⟨rfl, 2, by decide, by decide, rfl, Wk.renL [] (by simp) (by simp) (by simp) rfl rfl⟩
    · exact ⟨rfl, 3, by decide, by decide, rfl, Wk.renL [] (by simp) (by simp) (by simp) rfl rfl⟩
    · exact ⟨rfl, 4, by decide, by decide, rfl, Wk.renL [] (by simp) (by simp) (by simp) rfl rfl⟩
    · exact ⟨rfl, 5, by decide, by decide, rfl, Wk.renL [] (by simp) (by simp) (by simp) rfl rfl⟩
  · refine swy_loop (ι := Nat) (fun i => i ≤ 6) (szT l 64) (fun i => (i, true)) (fun i => 6 - i) 0 (Nat.zero_le _) rfl (fun i _ b k hk => by cases hk) (Wk.renL [] (by simp) (by simp) (by simp) rfl rfl) ?_
    intro i hi
    refine yRun_sound (ctx := []) 4000 ?_
    have : i = 0 ∨ i = 1 ∨ i = 2 ∨ i = 3 ∨ i = 4 ∨ i = 5 ∨ i = 6 := by omega
    rcases this with rfl | rfl | rfl | rfl | rfl | rfl | rfl
    all_goals simp only [go_sem, Nat.reduceOr, Nat.reducePow, Nat.reduceDiv, Nat.reduceMod, Nat.reduceBEq, Int.reduceBEq, Int.reduceBNe, Int.reduceEq, Int.reduceLT, Int.reduceLE, Int.reduceToNat, reduceIte, reduceCtorEq, Nat.reduceEqDiff, Nat.reduceAdd, Nat.reduceLT, Nat.reduceLeDiff, Nat.reduceMul, Nat.reduceSub, szT, sI0, sI1, sI2, sI3, sI4, sI5, sI6, sW2, sW4, sW8, sW16, sW32, sW64, yieldV, t32, t64, len32, len64, List.length_map]
    · exact ⟨rfl, 1, by decide, by decide, rfl, Wk.renL [] (by simp) (by simp) (by simp) rfl rfl⟩
    · exact ⟨rfl, 2, by decide, by decide, rfl, Wk.renL [] (by simp) (by simp) (by simp) rfl rfl⟩
    · exact ⟨rfl, 3, by decide, by decide, rfl, Wk.renL [] (by simp) (by simp) (by simp) rfl rfl⟩
    · exact ⟨rfl, 4, by decide, by decide, rfl, Wk.renL [] (by simp) (by simp) (by simp) rfl rfl⟩
    · exact ⟨rfl, 5, by decide, by decide, rfl, Wk.renL [] (by simp) (by simp) (by simp) rfl rfl⟩
    · exact ⟨rfl, 6, by decide, by decide, rfl, Wk.renL [] (by simp) (by simp) (by simp) rfl rfl⟩
theorem en_sizes1 (args : Array Value) (w : World) : (callFunc 169 args).run Tryz.prog w = .ok (.enter 169 args) w := by go_simp
noncomputable def sizesIt : It Tryz.prog 169 :=
  mkIt _ _ _ Tryz.func169 rfl rfl en_sizes1 decSz (by
    intro ds q L hd hq l
    unfold decSz at hd
    split at hd
    case h_2 => cases hd
    rename_i k
    injection hd with hd
    injection hd with h1 hd
    subst h1
    subst hd
    exact ⟨by rw [Tryz.ntmps169]; show 1 + 1 ≤ 14; decide, sizes1_sw l k hq⟩)
theorem sizes_dec {w : Int} : sizesIt.dec [.pd [.v (.int .i64 w)]] = some (w = 32 ∨ w = 64, (lSizes w.toNat).map srow) := rfl
theorem en_sizes (args : Array Value) (w : World) : (callFunc 151 args).run Tryz.prog w = .ok (.enter 151 args) w := by go_simp
def sizesS : Spec Tryz.prog 151 :=
  mk1 _ _ _ Tryz.func151 rfl en_sizes (tInt .i64) ((fun _ => True)) ((fun w => .ret (.fn 169 [] [.d (.pd [.v (.int .i64 w)])]))) (by rw [Tryz.ntmps151]; decide) (fun w _ => by
  refine aRun_sound (ctx := []) 4000 ?_
  rw [Tryz.ntmps151, Tryz.results151]
  simp only [Tryz.f151, Option.getD_some, zipT]
  simp only [go_sem, Nat.reduceOr, Nat.reducePow, Nat.reduceDiv, Nat.reduceMod, Nat.reduceBEq, Int.reduceBEq, Int.reduceBNe, Int.reduceEq, Int.reduceLT, Int.reduceLE, Int.reduceToNat, reduceIte, reduceCtorEq, Nat.reduceEqDiff, Nat.reduceAdd, Nat.reduceLT, Nat.reduceLeDiff, Nat.reduceMul, Nat.reduceSub])
theorem sizes_run {id : Nat} {h : Heap} {args : List AV} : (sizesS).run id h args = runP (args1 (tInt .i64) ((fun _ => True))) ((fun w => .ret (.fn 169 [] [.d (.pd [.v (.int .i64 w)])]))) h args := rfl
theorem sizes_pan {id : Nat} {h : Heap} {args : List AV} : (sizesS).pan id h args = panP (args1 (tInt .i64) ((fun _ => True))) ((fun w => .ret (.fn 169 [] [.d (.pd [.v (.int .i64 w)])]))) h args := rfl

end Go.Proofs.YtpjlafmhoifkmaaGreat
