/- Lines: tokens without their places. -/
import Derived.Test.YtcdbldakjepjiaaDoorWs
import Derived.Test.YtcdbldakjepjiaaDoorLB
import Derived.Test.YtcdbldakjepjiaaDoorLQ
set_option linter.unusedVariables false
set_option linter.unusedSimpArgs false
namespace Go.Proofs.YtcdbldakjepjiaaDoor
open Go.RowKit
set_option maxRecDepth 100000

theorem toksK_flat (l : List Tok) : (toksK l).flatB = true := by
  unfold Blk.flatB toksK
  simp only [List.map_map]
  rw [List.all_eq_true]
  intro e he
  obtain ⟨t, _, rfl⟩ := List.mem_map.1 he
  rfl
theorem clone_sw (l : List Tok) (hl : l ≠ [] ∧ l.length ≤ 1000000) : SW Tryd.prog ⟨none, 0⟩ Tryd.f41.ntmps (Tryd.f41.body.getD .skip) ⟨0, zipT 0 [tToks.enc l], []⟩ (endQ (fun s => ∃ b, aRet Tryd.prog Tryd.f41.results.toList s = some (.s (.l (.sl b 0 l.length))) ∧ hget s.h b = some (toksK l)) (fun _ _ => False)) := by
  refine aRun_sound (ctx := []) 4000 ?_
  rw [Tryd.ntmps41, Tryd.results41]
  simp only [Tryd.f41, Option.getD_some, zipT]
  have h1 : ¬ l = [] := hl.1
  have hm : l.length ≤ maxLen := by unfold maxLen; omega
  have hb : l.length * 40 ≤ 140737488355328 := by omega
  simp only [go_sem, Nat.reduceOr, Nat.reducePow, Nat.reduceDiv, Nat.reduceMod, Nat.reduceBEq, Int.reduceBEq, Int.reduceBNe, Int.reduceEq, Int.reduceLT, Int.reduceLE, Int.reduceToNat, reduceIte, reduceCtorEq, Nat.reduceEqDiff, Nat.reduceAdd, Nat.reduceLT, Nat.reduceLeDiff, Nat.reduceMul, Nat.reduceSub, h1, hm, hb, endQ_ret, endQ_normal, List.map_eq_nil_iff]
  exact ⟨80, rfl, rfl⟩
theorem en_clone (args : Array Value) (w : World) : (callFunc 41 args).run Tryd.prog w = .ok (.enter 41 args) w := by go_simp
def cloneS : Spec Tryd.prog 41 :=
  mkO _ _ _ Tryd.func41 rfl en_clone tToks (fun _ => rfl) (fun l => l ≠ [] ∧ l.length ≤ 1000000) (fun l => l.length) toksK (fun l => ⟨rfl, toksK_flat l⟩) (by rw [Tryd.ntmps41]; decide) (fun l h => clone_sw l h)
theorem clone_run {id : Nat} {h : Heap} {zs : List AV} : cloneS.run id h zs = runN (decO tToks (fun l => l ≠ [] ∧ l.length ≤ 1000000)) (fun l => l.length) toksK id zs := rfl
theorem clone_pan {id : Nat} {h : Heap} {zs : List AV} : cloneS.pan id h zs = none := rfl

def half (l : List Tok) (i : Nat) : List Tok := (l.take i).map bare ++ l.drop i
theorem half_get {l : List Tok} {i : Nat} {t : Tok} (h : l[i]? = some t) : (half l i)[i]? = some t := by
  have hi := (List.getElem?_eq_some_iff.1 h).1
  unfold half
  rw [List.getElem?_append_right (by simp; omega), List.length_map, List.length_take, Nat.min_eq_left (by omega), Nat.sub_self, List.getElem?_drop, Nat.add_zero]
  exact h
theorem half_set {l : List Tok} {i : Nat} {t : Tok} (h : l[i]? = some t) : (half l i).set i (bare t) = half l (i + 1) := by
  have hi := (List.getElem?_eq_some_iff.1 h).1
  have hl : ((l.take i).map bare).length = i := by simp; omega
  unfold half
  rw [List.set_append_right _ _ (by omega), hl, Nat.sub_self, List.drop_eq_getElem_cons hi, List.set_cons_zero, List.take_add_one, h, List.map_append]
  simp
theorem half_zero (l : List Tok) : half l 0 = l := by simp [half]
theorem half_all (l : List Tok) : half l l.length = l.map bare := by simp [half]
theorem half_len {l : List Tok} {i : Nat} (h : i ≤ l.length) : (half l i).length = l.length := by simp [half]; omega

set_option maxHeartbeats 1000000 in
theorem plain_sw (l : List Tok) (hl : l ≠ [] ∧ l.length ≤ 1000000) : SW Tryd.prog ⟨none, 0⟩ Tryd.f14.ntmps (Tryd.f14.body.getD .skip) ⟨0, zipT 0 [tToks.enc l], []⟩ (outQ Tryd.prog Tryd.f14.results.toList (.ret (.s (toksV (l.map bare))))) := by
  refine aRun_sound (ctx := [⟨_, cloneS⟩]) 4000 ?_
  rw [Tryd.ntmps14, Tryd.results14]
  simp only [Tryd.f14, Option.getD_some, zipT]
  have h1 := hl.1
  have h2 := hl.2
  simp only [go_sem, Nat.reduceOr, Nat.reducePow, Nat.reduceDiv, Nat.reduceMod, Nat.reduceBEq, Int.reduceBEq, Int.reduceBNe, Int.reduceEq, Int.reduceLT, Int.reduceLE, Int.reduceToNat, reduceIte, reduceCtorEq, Nat.reduceEqDiff, Nat.reduceAdd, Nat.reduceLT, Nat.reduceLeDiff, Nat.reduceMul, Nat.reduceSub, clone_run, clone_pan, runN, decO, h1, h2]
  refine sw_loop (ι := Nat) (fun i => i ≤ l.length) (fun i => ⟨1, [(3, .s (.l (.sl 0 0 l.length))), (8, iv l.length), (9, iv i)], [(0, some (toksK (half l i)))]⟩) (fun i => l.length - i) 0 (Nat.zero_le _) ?_ ?_
  · exact Wk.renL [32] (by simp) (by simp) (by simp) rfl (by simp only [half_zero, toksK, hget, List.map_cons, List.map_nil, Option.map_some, Blk.ren, rows_ren]; rfl)
  intro i hi
  refine aRun_sound (ctx := []) 4000 ?_
  by_cases hlt : i < l.length
  · have hltI : (i : Int) < l.length := by omega
    obtain ⟨t, ht⟩ : ∃ t, l[i]? = some t := ⟨_, List.getElem?_eq_getElem hlt⟩
    have hg := half_get ht
    have hs : (((half l i).map tokR.enc).map ofDs).set i [LV.v (.int .i64 t.kind), .v (.string t.text), .v (.int .u64 t.n), .v (.int .i64 0)] = ((half l (i + 1)).map tokR.enc).map ofDs := by
      rw [← half_set ht, List.map_set, List.map_set]; rfl
    have ei : IntKind.i64.wrap ((i : Int) + 1) = ((i + 1 : Nat) : Int) := by rw [IntKind.wrap_i64]; omega
    have hln := half_len hi
    simp only [go_sem, Nat.reduceOr, Nat.reducePow, Nat.reduceDiv, Nat.reduceMod, Nat.reduceBEq, Int.reduceBEq, Int.reduceBNe, Int.reduceEq, Int.reduceLT, Int.reduceLE, Int.reduceToNat, reduceIte, reduceCtorEq, Nat.reduceEqDiff, Nat.reduceAdd, Nat.reduceLT, Nat.reduceLeDiff, Nat.reduceMul, Nat.reduceSub, toksK, hltI, hg, tokE, hs, ei, hln, hlt]
    exact ⟨i + 1, hlt, by omega, Wk.renL [0] (by simp) (by simp) (by simp) rfl (by simp only [hget, if_true, List.map_cons, List.map_nil, Option.map_some, List.getD_cons_zero, Blk.ren, rows_ren])⟩
  · obtain rfl : i = l.length := by omega
    have hI : ¬ (l.length : Int) < l.length := by omega
    have hln : (l.map bare).length = l.length := by simp
    have ht2 : List.take l.length (List.map ofDs (List.map tokR.enc (l.map bare))) = List.map ofDs (List.map tokR.enc (l.map bare)) := List.take_of_length_le (by simp)
    simp only [go_sem, Nat.reduceOr, Nat.reducePow, Nat.reduceDiv, Nat.reduceMod, Nat.reduceBEq, Int.reduceBEq, Int.reduceBNe, Int.reduceEq, Int.reduceLT, Int.reduceLE, Int.reduceToNat, reduceIte, reduceCtorEq, Nat.reduceEqDiff, Nat.reduceAdd, Nat.reduceLT, Nat.reduceLeDiff, Nat.reduceMul, Nat.reduceSub, toksK, hI, half_all, toksV, hln, ht2]
theorem en_plain (args : Array Value) (w : World) : (callFunc 14 args).run Tryd.prog w = .ok (.enter 14 args) w := by go_simp
def plainS : Spec Tryd.prog 14 :=
  mk1 _ _ _ Tryd.func14 rfl en_plain (tToks) ((fun l => l ≠ [] ∧ l.length ≤ 1000000)) ((fun l => .ret (.s (toksV (l.map bare))))) (by rw [Tryd.ntmps14]; decide) (fun l h => plain_sw l h)
theorem plain_run {id : Nat} {h : Heap} {args : List AV} : (plainS).run id h args = runP (args1 (tToks) ((fun l => l ≠ [] ∧ l.length ≤ 1000000))) ((fun l => .ret (.s (toksV (l.map bare))))) h args := rfl
theorem plain_pan {id : Nat} {h : Heap} {args : List AV} : (plainS).pan id h args = panP (args1 (tToks) ((fun l => l ≠ [] ∧ l.length ≤ 1000000))) ((fun l => .ret (.s (toksV (l.map bare))))) h args := rfl

end Go.Proofs.YtcdbldakjepjiaaDoor
