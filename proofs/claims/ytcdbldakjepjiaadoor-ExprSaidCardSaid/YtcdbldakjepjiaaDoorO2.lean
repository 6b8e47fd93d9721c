/- Arguments: values. -/
import Derived.Test.YtcdbldakjepjiaaDoorChecked
import Derived.WalkKit
import Derived.ProofKit
import Derived.OpenShut
import Derived.ShutString
import Derived.ChangeOld
import Derived.SizedLaws
import Derived.Lib.SmallJoins
set_option linter.unusedVariables false
set_option linter.unusedSimpArgs false
namespace Go.Proofs.YtcdbldakjepjiaaDoor
open Go.ChangeShapes Go.WideShapes Go.ChangeAt Go.RowKit Go.Joins

theorem cellsVal : Tryd.prog.cellsOf 51 = 3 := by kernel_rfl
set_option maxRecDepth 100000 in
theorem open_val {H : Type} {enc : TypeId × Value → H} {w : World} {base : Nat} {spare : Nat → Bool} {held : Bool} {r : Reach} {b0 : Nat} {v : Value} {d : DataW H} {p : List MemPlace}
    (hv : Value.okWide Tryd.prog w r b0 51 v) (h : DataW.Trod enc Tryd.prog w base spare held 51 v d p) :
    ∃ (a : Int) (s t : ByteArray), v = .agg #[.int .i64 a, .string s, .string t] ∧ d = .agg [.lit (.int .i64 a), .lit (.string s.data.toList), .lit (.string t.data.toList)] ∧ (Lit.int .i64 a).wf = true ∧ s.size ≤ maxLen ∧ t.size ≤ maxLen := by
  obtain ⟨c0, c1, c2, y0, y1, y2, n, rfl, rfl, -, h0, h1, h2⟩ := open_agg3 Tryd.underlying51 (by kernel_rfl) cellsVal hv h
  obtain ⟨a, e0, rfl, wa⟩ := DataW.trod_int Tryd.underlying2 h0
  obtain ⟨s, e1, rfl, ws⟩ := DataW.trod_string Tryd.underlying9 h1
  obtain ⟨t, e2, rfl, wt⟩ := DataW.trod_string Tryd.underlying9 h2
  simp at e0 e1 e2
  subst e0 e1 e2
  exact ⟨a, s, t, rfl, rfl, wa, ws, wt⟩

end Go.Proofs.YtcdbldakjepjiaaDoor
