/- slices.Values over terms: the closure's contract. -/
import Derived.RangeFuncNested
import Derived.RangeFuncBound
import Derived.RangeFuncCalls
import Derived.RangeFuncLeaves
import Derived.Shelf.Abstract
import Derived.Shelf.RegionOpen
import Derived.WalkKit
import Derived.OwnWalkIn
import Derived.TacticsInMore
import Derived.LoopNIn
import Derived.LoopIn
import Derived.Test.YthhlghoeapjagaaEc
set_option linter.unusedVariables false
set_option linter.unusedSimpArgs false
namespace Go.Proofs.Ythhlghoeapjagaa
open Go.RowKit Go.Shelf

attribute [local go_sem] Oper.semAt_some

def Term.agg (t : Term) : Value := .agg #[.int .i64 t.kind, .int .i64 t.n, .string t.sym]

set_option maxRecDepth 100000 in
set_option maxHeartbeats 2000000 in
theorem valuesT1_in (F : Fence) (n : Nat) (h57 : F.fn 57) (hro : F.round = none) (hn : 1 ≤ n) (l Bs n₀ b off cap : Nat) (ts : List Term) (hreach : ts.length * 32 ≤ 140737488351232) (J Jx : List Term → World → Prop)
    (hY : ∀ pre x W, J pre W → pre.length < ts.length → YieldAt F (n - 1) Try.prog l #[x.agg] W fun e W' =>
      (e = .returned (.bool true) ∧ J (pre ++ [x]) W' ∧ Below n₀ W W') ∨ (e = .returned (.bool false) ∧ Jx (pre ++ [x]) W'))
    (W : World) (hn₀ : n₀ ≤ W.heap.size) (hJ : AbidesFrom W.heap.size J) (hBs : W.cell? ⟨Bs, 0, none⟩ = some (.slice (some ⟨b, off, none⟩) ts.length cap)) (hT : Terms W n₀ (some ⟨b, off, none⟩) ts) (h0 : J [] W) :
    CallsIn F n Try.prog 57 #[.func (.yield l) #[] #[], .pointer (some ⟨Bs, 0, none⟩)] W fun e W' => (∃ v, e = .returned v) ∧
      ((∃ ys, ys = ts ∧ J ys W') ∨ (∃ pre, (∃ k, k ≤ ts.length ∧ pre = ts.take k) ∧ Jx pre W')) := by
  refine callsIn_of_wp Try.func57 rfl h57 ?_ hro
  simp only [Try.ntmps57, List.size_toArray, List.length_cons, List.length_nil, Nat.reduceAdd, Nat.reduceSub, Array.replicate_succ, Array.replicate_zero, List.push_toArray, List.append_toArray, List.nil_append, List.cons_append]
  gi_wp2
  gi_loopw [7] (fun i wr => ∃ k : Nat, k ≤ ts.length ∧ i = .int .i64 k ∧ J (ts.take k) wr ∧ Below n₀ W wr ∧ W.heap.size ≤ wr.heap.size)
    (fun i _ => ts.length - (intOf i).toNat)
  case atStart => exact ⟨0, Nat.zero_le _, rfl, by simpa using h0, Below.refl _ _, Nat.le_refl _⟩
  case round =>
    obtain ⟨k, hk, rfl, hJs, hnx, hsz⟩ := hrel
    by_cases hlt : k < ts.length
    · obtain ⟨t, ht⟩ : ∃ t, ts[k]? = some t := ⟨_, List.getElem?_eq_getElem hlt⟩
      obtain ⟨hbb, c0, c1, c2⟩ := Terms.cells_at hT ht
      have c0' := (hnx.cell (p := ⟨b, off + k * 3, none⟩) hbb).trans c0
      have c1' := (hnx.cell (p := ⟨b, off + k * 3 + 1, none⟩) hbb).trans c1
      have c2' := (hnx.cell (p := ⟨b, off + k * 3 + 2, none⟩) hbb).trans c2
      have hJ' : J (ts.take k) (wr.alloc (Obj.cells #[.int .i64 t.kind, .int .i64 t.n, .string t.sym] 57)) := hJ _ wr _ none hJs (World.grownBy_alloc wr _ none) (by simp)
      have hb2 : Below n₀ W (wr.alloc (Obj.cells #[.int .i64 t.kind, .int .i64 t.n, .string t.sym] 57)) := hnx.alloc (by omega) _
      obtain ⟨fn, tmps, assign, body, hy, hR⟩ := hY _ t _ hJ' (by simp; omega)
      rw [Term.agg] at hy
      have htk : ts.take k ++ [t] = ts.take (k + 1) := by rw [List.take_add_one, ht]; rfl
      rw [htk] at hR
      gi_wp2
      refine hR.mono ?_
      rintro e W3 (⟨rfl, hJ3, hk3⟩ | ⟨rfl, hJx3⟩)
      · gi_wp2
        go_roundw
        case rel => exact ⟨k + 1, by omega, by simp, hJ3, hb2.trans hk3, by have := hk3.size; simp at this; omega⟩
        case measure => simp [intOf]; omega
      · gi_wp2
        refine bodyPost_ret (results_none rfl _ _ _) rfl ?_
        exact ⟨⟨_, rfl⟩, .inr ⟨_, ⟨k + 1, by omega, rfl⟩, hJx3⟩⟩
    · obtain rfl : k = ts.length := by omega
      gi_wp2
      go_end0
      exact ⟨⟨_, rfl⟩, .inl ⟨_, rfl, by simpa using hJs⟩⟩

set_option maxRecDepth 100000 in
set_option maxHeartbeats 1000000 in
theorem valuesT1_nil_in (F : Fence) (n : Nat) (h57 : F.fn 57) (hro : F.round = none) (l Bs cap : Nat) (A : Option Addr) (J : List Term → World → Prop) (W : World) (hBs : W.cell? ⟨Bs, 0, none⟩ = some (.slice A 0 cap)) (h0 : J [] W) :
    CallsIn F n Try.prog 57 #[.func (.yield l) #[] #[], .pointer (some ⟨Bs, 0, none⟩)] W fun e W' => (∃ v, e = .returned v) ∧ J [] W' := by
  refine callsIn_of_wp Try.func57 rfl h57 ?_ hro
  simp only [Try.ntmps57, List.size_toArray, List.length_cons, List.length_nil, Nat.reduceAdd, Nat.reduceSub, Array.replicate_succ, Array.replicate_zero, List.push_toArray, List.append_toArray, List.nil_append, List.cons_append]
  gi_wp2
  gi_loopw [7] (fun i wr => i = .int .i64 0 ∧ J [] wr) (fun _ _ => 0)
  case atStart => exact ⟨rfl, h0⟩
  case round =>
    obtain ⟨rfl, hJs⟩ := hrel
    gi_wp2
    go_end0
    exact ⟨⟨_, rfl⟩, hJs⟩

set_option maxHeartbeats 1000000 in
theorem valuesT_in (F : Fence) (n : Nat) (h45 : F.fn 45) (hro : F.round = none) (a : Option Addr) (len cap : Nat) (w : World) :
    CallsIn F n Try.prog 45 #[.slice a len cap] w fun e w' => e = .returned (.func (.func 57) #[] #[.pointer (some ⟨w.heap.size, 0, none⟩)]) ∧ w' = w.alloc (.cells #[.slice a len cap] 34) := by
  refine callsIn_of_wp Try.func45 rfl h45 ?_ hro
  simp only [Try.ntmps45, List.size_toArray, List.length_cons, List.length_nil, Nat.reduceAdd, Nat.reduceSub, Array.replicate_succ, Array.replicate_zero, List.push_toArray, List.append_toArray, List.nil_append, List.cons_append]
  gi_wp2
  go_ret
  exact ⟨rfl, rfl⟩

theorem valuesT_stops (F : Fence) (n : Nat) (h57 : F.fn 57) (hro : F.round = none) (hn : 1 ≤ n) (Bs n₀ cap : Nat) (A : Option Addr) (ts : List Term) (hreach : ts.length * 32 ≤ 140737488351232) (w : World) (hBs : Bs < w.heap.size) (hn₀ : n₀ ≤ w.heap.size)
    (hc : w.cell? ⟨Bs, 0, none⟩ = some (.slice A ts.length cap)) (hT : Terms w n₀ A ts) :
    SeqStopsK F n Try.prog 57 #[.pointer (some ⟨Bs, 0, none⟩)] (fun x : Term => #[x.agg]) (Below n₀) (fun ys => ys = ts) (fun pre => pre <+: ts) ts.length w := fun l J Jx W hW hJ hJx hY h0 => by
  have hc' := (hW.cell (p := ⟨Bs, 0, none⟩) hBs).trans hc
  have hT' := SL.below hT (hW.mono hn₀)
  by_cases h : ts = []
  · subst h
    exact (valuesT1_nil_in F n h57 hro l Bs cap A J W hc' h0).mono fun e W' ⟨he, hj⟩ => ⟨he, .inl ⟨_, rfl, hj⟩⟩
  · obtain ⟨b, off, rfl, _⟩ := hT.2 (List.length_pos_iff.2 h)
    refine (valuesT1_in F n h57 hro hn l Bs n₀ b off cap ts hreach J Jx hY W (Nat.le_trans hn₀ hW.size) hJ hc' hT' h0).mono ?_
    rintro e W' ⟨he, ⟨ys, rfl, hj⟩ | ⟨pre, ⟨k, hk, rfl⟩, hj⟩⟩
    · exact ⟨he, .inl ⟨_, rfl, hj⟩⟩
    · exact ⟨he, .inr ⟨_, List.take_prefix _ _, hj⟩⟩

end Go.Proofs.Ythhlghoeapjagaa
