/- Opening the arguments: a value of package api, by value. -/
import Derived.Test.YthhlghoeapjagaaChecked
import Derived.WalkKit
import Derived.ProofKit
import Derived.OpenShut
import Derived.ShutString
import Derived.ChangeOld
import Derived.SizedLaws
import Derived.Lib.SmallJoins
set_option linter.unusedVariables false
set_option linter.unusedSimpArgs false
namespace Go.Proofs.Ythhlghoeapjagaa
open Go.ChangeShapes Go.WideShapes Go.ChangeAt Go.RowKit Go.Joins

theorem lawOwn : ownKnob Try.prog.godebug = none := by kernel_rfl
theorem lawLaid : laidOutB Try.prog = true := by kernel_rfl
theorem cellsVal : Try.prog.cellsOf 23 = 3 := by kernel_rfl

theorem open_val {H : Type} {enc : TypeId × Value → H} {w : World} {base : Nat} {spare : Nat → Bool} {held : Bool} {r : Reach} {b0 : Nat} {v : Value} {d : DataW H} {p : List MemPlace}
    (hv : Value.okWide Try.prog w r b0 23 v) (h : DataW.Trod enc Try.prog w base spare held 23 v d p) :
    ∃ (a : Int) (s t : ByteArray), v = .agg #[.int .i64 a, .string s, .string t] ∧ d = .agg [.lit (.int .i64 a), .lit (.string s.data.toList), .lit (.string t.data.toList)] ∧ (Lit.int .i64 a).wf = true ∧ s.size ≤ maxLen ∧ t.size ≤ maxLen := by
  obtain ⟨c0, c1, c2, y0, y1, y2, n, rfl, rfl, -, h0, h1, h2⟩ := open_agg3 Try.underlying23 (by kernel_rfl) cellsVal hv h
  obtain ⟨a, e0, rfl, wa⟩ := DataW.trod_int Try.underlying2 h0
  obtain ⟨s, e1, rfl, ws⟩ := DataW.trod_string Try.underlying9 h1
  obtain ⟨t, e2, rfl, wt⟩ := DataW.trod_string Try.underlying9 h2
  simp at e0 e1 e2
  subst e0 e1 e2
  exact ⟨a, s, t, rfl, rfl, wa, ws, wt⟩

theorem val_sized {H : Type} {ts : List TypeId} {ds : List (DataW H)} (h : ∀ x ∈ DataW.weightsEach Try.prog ts ds, decide (x ≤ reachBytes) = true) {j : Nat} {a : Int} {s t : ByteArray}
    (ht : ts[j]? = some 23) (hd : ds[j]? = some (.agg [.lit (.int .i64 a), .lit (.string s.data.toList), .lit (.string t.data.toList)])) : s.size ≤ 140737488355328 ∧ t.size ≤ 140737488355328 := by
  have m1 := of_decide_eq_true (h _ (DataW.weights_mem_each ht hd s.data.toList.length (by simp [DataW.weights, DataW.weightsEach, Try.underlying23])))
  have m2 := of_decide_eq_true (h _ (DataW.weights_mem_each ht hd t.data.toList.length (by simp [DataW.weights, DataW.weightsEach, Try.underlying23])))
  rw [Array.length_toList] at m1 m2
  have := reachBytes_lt
  exact ⟨by show s.data.size ≤ _; omega, by show t.data.size ≤ _; omega⟩

end Go.Proofs.Ythhlghoeapjagaa
