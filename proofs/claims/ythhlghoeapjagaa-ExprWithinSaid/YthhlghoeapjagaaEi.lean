/- Contract of live: an expression's value, as the document tells. -/
import Derived.Test.YthhlghoeapjagaaEf
import Derived.Test.YthhlghoeapjagaaEh
set_option linter.unusedVariables false
set_option linter.unusedSimpArgs false
namespace Go.Proofs.Ythhlghoeapjagaa
open Go.RowKit
attribute [local go_sem ↓] Go.wp_at_zero Go.wp_at_succ

theorem SL.new (w : World) (cs : Array Value) (t : TypeId) {n sz : Nat} (h : cs.toList.length = n * sz) : SL (w.alloc (.cells cs t)) (w.alloc (.cells cs t)).heap.size sz (some ⟨w.heap.size, 0, none⟩) n cs.toList := by
  refine ⟨h, fun _ => ⟨w.heap.size, 0, rfl, by simp, fun j u hu => ?_⟩⟩
  rw [Nat.zero_add, cell_of_row _ _ _ _ _ _ (heap_alloc_new w (.cells cs t))]
  simpa using hu

def liveT : List Term := [⟨2, 0, ⟨#[97]⟩⟩, ⟨1, 2, ⟨#[]⟩⟩, ⟨1, 3, ⟨#[]⟩⟩, ⟨5, 0, ⟨#[]⟩⟩, ⟨8, 0, ⟨#[]⟩⟩, ⟨2, 0, ⟨#[98]⟩⟩, ⟨9, 0, ⟨#[]⟩⟩]

theorem live_eval : evalAll liveT = (⟨6, ⟨#[97]⟩, ⟨#[98]⟩⟩, 0) := by kernel_rfl
theorem live_print : printF ⟨6, ⟨#[97]⟩, ⟨#[98]⟩⟩ = (⟨#[97, 45, 98, 43, 54]⟩, 0) := by kernel_rfl

set_option maxRecDepth 100000 in
set_option maxHeartbeats 1000000 in
theorem live_any (w : World) : Calls Try.prog 7 #[] w fun e w' => e = .returned (.bool true) ∧ Below w.heap.size w w' := by
  have HEV := Lib.hid (fun (W : World) (b : Nat) (hT : Terms W W.heap.size (some ⟨b, 0, none⟩) liveT) => (eval_any (some ⟨b, 0, none⟩) 7 liveT W hT (by decide) (by decide) : Calls Try.prog 17 #[.slice (some ⟨b, 0, none⟩) 7 7] W (EvalPost liveT W)))
  go_enter Try.func7, Try.ntmps7
  go_wp2_with fail
  refine (HEV.out _ _ (SL.new w _ _ rfl)).mono ?_
  intro e w1 h1
  obtain ⟨r, x, hr, rfl, hb1⟩ := h1
  rw [live_eval] at hr
  injection hr with h1 h2
  subst h1
  subst h2
  replace hb1 : Below w.heap.size w w1 := below_on hb1 (by ((repeat (first | with_reducible refine Below.drew ?_ | (with_reducible refine Below.alloc ?_ ?_ _; rotate_left; (focus (first | (simp; done) | (simp; omega) | omega))) | (with_reducible refine Below.setCell ?_ ?_ _; rotate_left; (focus (first | (simp; done) | (simp; omega) | omega))))); (first | with_reducible exact Below.refl _ _ | with_reducible assumption)))
  go_wp2_with fail
  refine (print_any _ _ _ _ (by decide) (by decide) (by decide) (by decide)).mono ?_
  intro e w2 h2
  obtain ⟨s, x, hr, rfl, hb2⟩ := h2
  rw [live_print] at hr
  injection hr with h1 h2
  subst h1
  subst h2
  obtain ⟨k1, _⟩ := bat hb2 (b := w1.heap.size) (by simp)
  have hs1 := hb1.size
  replace hb2 : Below w.heap.size w w2 := below_on hb2 (by ((repeat (first | with_reducible refine Below.drew ?_ | (with_reducible refine Below.alloc ?_ ?_ _; rotate_left; (focus (first | (simp; done) | (simp; omega) | omega))) | (with_reducible refine Below.setCell ?_ ?_ _; rotate_left; (focus (first | (simp; done) | (simp; omega) | omega))))); (first | with_reducible exact Below.refl _ _ | with_reducible assumption)))
  have l0 : w2.cell? ⟨w1.heap.size, 0, none⟩ = some (.int .i64 6) := by rw [k1]; simp [go_sem]
  have l1 : w2.cell? ⟨w1.heap.size, 1, none⟩ = some (.string ⟨#[97]⟩) := by rw [k1]; simp [go_sem]
  have l2 : w2.cell? ⟨w1.heap.size, 2, none⟩ = some (.string ⟨#[98]⟩) := by rw [k1]; simp [go_sem]
  clear k1
  go_wp2_with fail
  go_ret
  exact ⟨rfl, (by ((repeat (first | with_reducible refine Below.drew ?_ | (with_reducible refine Below.alloc ?_ ?_ _; rotate_left; (focus (first | (simp; done) | (simp; omega) | omega))) | (with_reducible refine Below.setCell ?_ ?_ _; rotate_left; (focus (first | (simp; done) | (simp; omega) | omega))))); (first | with_reducible exact Below.refl _ _ | with_reducible assumption)))⟩

end Go.Proofs.Ythhlghoeapjagaa
