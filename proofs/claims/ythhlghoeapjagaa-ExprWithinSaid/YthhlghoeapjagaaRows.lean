/-
  No cell of these rows narrows 'for every input' (looked for: loops, veiled, ifaces, maps, wideKeys, modest, calm, conditions, laid).
  DERIVED. THE GIVEN ROWS OF THIS SEAT. 4 by the template 'for every input the law returns true; each argument reads behind the call as it read before'; 0 by the template 'total and deterministic' (their statements: YthhlghoeapjagaaTotals.lean).
  GIVEN WITH THE SEED: the statements are not yours to turn. If you find one false, say at which input.
  Laid BY PROGRAM, IN A SANDBOX (cutbox-rows.mjs): the forced cells as the released guide's own fill.sh prints them over the translation 97a39cbee70a90e0… (all of the seat's roots in one cut). By AI agents, Wed Nov 11 2026. No macro, syntax, notation, axiom, sorry.
-/
import Derived.Test.YthhlghoeapjagaaChecked
import GoSem.Claim
import GoSem.ClaimJoined
import GoSem.ClaimMapViews
import Derived.JoinedTies
import Derived.KernelRfl
namespace Go.Proofs.Ythhlghoeapjagaa
/- THE CELL 'sum', in the pinned program and in every row, IS THE sha256 OF THE DUMP (.gsa) THAT YthhlghoeapjagaaProg.lean LOADS. Nothing in Lean hashes anything: it is a label: what it is worth is what the hold of that sum in a sandbox is worth. -/
noncomputable def Try.pinned : Pinned := { name := "ythhlghoeapjagaa", sum := "97a39cbee70a90e0f25e29b4de50eaabeda43cf438d1c0b4702a5a0169f3d06e", checked := Try.checked }
namespace Rows
def none {H : Type} : Left H := { results := [], args := [] }

/-- 'cooperlaw09.ExprValues': WHATEVER THE INPUT: true; the input reads as it did. -/
def exprValuesSpec : ChangeSpec := { name := "exprValues", fn := fun _ => fun
  | [d1, d2, d3] => { results := [.lit (.bool true)], args := [d1, d2, d3] }
  | _ => none }
def exprValuesRow : OpenClaim := { program := "ythhlghoeapjagaa", sum := "97a39cbee70a90e0f25e29b4de50eaabeda43cf438d1c0b4702a5a0169f3d06e", func := "cooper/cooperlaw09.ExprValues", spec := "exprValues", unfollowed := true, recurses := true, apart := false }
def ExprValuesSaid : Prop := exprValuesRow.holds Try.pinned (OpenSpec.ofChange exprValuesSpec)

/-- ITS FALSE NEIGHBOUR: 'it returns false'. Refute it at one input. -/
def exprValuesWrong : ChangeSpec := { name := "exprValues", fn := fun _ => fun
  | [d1, d2, d3] => { results := [.lit (.bool false)], args := [d1, d2, d3] }
  | _ => none }
def ExprValuesWrongFalsely : Prop := exprValuesRow.holds Try.pinned (OpenSpec.ofChange exprValuesWrong)

/-- 'cooperlaw09.ExprNumbers': WHATEVER THE INPUT: true; the input reads as it did. -/
def exprNumbersSpec : ChangeSpec := { name := "exprNumbers", fn := fun _ => fun
  | [d1, d2] => { results := [.lit (.bool true)], args := [d1, d2] }
  | _ => none }
def exprNumbersRow : OpenClaim := { program := "ythhlghoeapjagaa", sum := "97a39cbee70a90e0f25e29b4de50eaabeda43cf438d1c0b4702a5a0169f3d06e", func := "cooper/cooperlaw09.ExprNumbers", spec := "exprNumbers", unfollowed := true, recurses := true, apart := false }
def ExprNumbersSaid : Prop := exprNumbersRow.holds Try.pinned (OpenSpec.ofChange exprNumbersSpec)

/-- ITS FALSE NEIGHBOUR: 'it returns false'. Refute it at one input. -/
def exprNumbersWrong : ChangeSpec := { name := "exprNumbers", fn := fun _ => fun
  | [d1, d2] => { results := [.lit (.bool false)], args := [d1, d2] }
  | _ => none }
def ExprNumbersWrongFalsely : Prop := exprNumbersRow.holds Try.pinned (OpenSpec.ofChange exprNumbersWrong)

/-- 'cooperlaw09.ExprEvals': WHATEVER THE INPUT: true; the input reads as it did. -/
def exprEvalsSpec : ChangeSpec := { name := "exprEvals", fn := fun _ => fun
  | [d] => { results := [.lit (.bool true)], args := [d] }
  | _ => none }
def exprEvalsRow : OpenClaim := { program := "ythhlghoeapjagaa", sum := "97a39cbee70a90e0f25e29b4de50eaabeda43cf438d1c0b4702a5a0169f3d06e", func := "cooper/cooperlaw09.ExprEvals", spec := "exprEvals", unfollowed := true, recurses := true, apart := false }
def ExprEvalsSaid : Prop := exprEvalsRow.holds Try.pinned (OpenSpec.ofChange exprEvalsSpec)

/-- ITS FALSE NEIGHBOUR: 'it returns false'. Refute it at one input. -/
def exprEvalsWrong : ChangeSpec := { name := "exprEvals", fn := fun _ => fun
  | [d] => { results := [.lit (.bool false)], args := [d] }
  | _ => none }
def ExprEvalsWrongFalsely : Prop := exprEvalsRow.holds Try.pinned (OpenSpec.ofChange exprEvalsWrong)

/-- 'cooperlaw09.ExprWithin': WHATEVER THE INPUT: true; the input reads as it did. -/
def exprWithinSpec : ChangeSpec := { name := "exprWithin", fn := fun _ => fun
  | [d] => { results := [.lit (.bool true)], args := [d] }
  | _ => none }
def exprWithinRow : OpenClaim := { program := "ythhlghoeapjagaa", sum := "97a39cbee70a90e0f25e29b4de50eaabeda43cf438d1c0b4702a5a0169f3d06e", func := "cooper/cooperlaw09.ExprWithin", spec := "exprWithin", unfollowed := true, recurses := true, apart := false }
def ExprWithinSaid : Prop := exprWithinRow.holds Try.pinned (OpenSpec.ofChange exprWithinSpec)

/-- ITS FALSE NEIGHBOUR: 'it returns false'. Refute it at one input. -/
def exprWithinWrong : ChangeSpec := { name := "exprWithin", fn := fun _ => fun
  | [d] => { results := [.lit (.bool false)], args := [d] }
  | _ => none }
def ExprWithinWrongFalsely : Prop := exprWithinRow.holds Try.pinned (OpenSpec.ofChange exprWithinWrong)

/- THE SECOND FORM. 'bulk': how many values and letters a reading holds, each counted each time it is reached (what is shared counts as often as it is met; a slice's spare places count too). A statement '..UptoSaid' is the law's where the arguments, and the package variables that the reading takes, are together of bulk at most 1048576: NARROWER than '..Said'. Prove '..Said' where nothing that the law and all that it calls make is longer than what came in: it says more and counts as full. Else prove '..UptoSaid'. A law counts once. -/
mutual
def uptoBulk {H : Type} : DataW H → Nat
  | .lit (.string bytes) => bytes.length + 1
  | .lit _ => 1
  | .nil => 1
  | .ptr d => uptoBulk d + 1
  | .slice elems spare => uptoBulkAll elems + uptoBulkAll spare + 1
  | .agg parts => uptoBulkAll parts + 1
  | .iface _ d => uptoBulk d + 1
  | .map entries => uptoBulkEntries entries + 1
  | .held _ => 1
def uptoBulkAll {H : Type} : List (DataW H) → Nat
  | [] => 0
  | d :: r => uptoBulk d + uptoBulkAll r
def uptoBulkEntries {H : Type} : List (Lit × DataW H) → Nat
  | [] => 0
  | x :: r => uptoBulkEntry x + uptoBulkEntries r
def uptoBulkEntry {H : Type} : Lit × DataW H → Nat
  | (.string bytes, d) => bytes.length + uptoBulk d + 1
  | (_, d) => uptoBulk d + 1
 end
def uptoSmall : (H : Type) → List (DataW H) → Bool := fun _ ds => decide (uptoBulkAll ds ≤ 1048576)
def OpenSpec.upto (s : _root_.Go.ChangeSpec) : _root_.Go.OpenSpec := { _root_.Go.OpenSpec.ofChange s with cond := some uptoSmall }

/-- 'cooperlaw09.ExprValues', WHERE WHAT IT READS IS OF BULK AT MOST 1048576: true; the input reads as it did. -/
def exprValuesUptoRow : OpenClaim := { program := "ythhlghoeapjagaa", sum := "97a39cbee70a90e0f25e29b4de50eaabeda43cf438d1c0b4702a5a0169f3d06e", func := "cooper/cooperlaw09.ExprValues", spec := "exprValues", unfollowed := true, recurses := true, apart := false, narrowed := true }
def ExprValuesUptoSaid : Prop := exprValuesUptoRow.holds Try.pinned (OpenSpec.upto exprValuesSpec)

/-- 'cooperlaw09.ExprNumbers', WHERE WHAT IT READS IS OF BULK AT MOST 1048576: true; the input reads as it did. -/
def exprNumbersUptoRow : OpenClaim := { program := "ythhlghoeapjagaa", sum := "97a39cbee70a90e0f25e29b4de50eaabeda43cf438d1c0b4702a5a0169f3d06e", func := "cooper/cooperlaw09.ExprNumbers", spec := "exprNumbers", unfollowed := true, recurses := true, apart := false, narrowed := true }
def ExprNumbersUptoSaid : Prop := exprNumbersUptoRow.holds Try.pinned (OpenSpec.upto exprNumbersSpec)

/-- 'cooperlaw09.ExprEvals', WHERE WHAT IT READS IS OF BULK AT MOST 1048576: true; the input reads as it did. -/
def exprEvalsUptoRow : OpenClaim := { program := "ythhlghoeapjagaa", sum := "97a39cbee70a90e0f25e29b4de50eaabeda43cf438d1c0b4702a5a0169f3d06e", func := "cooper/cooperlaw09.ExprEvals", spec := "exprEvals", unfollowed := true, recurses := true, apart := false, narrowed := true }
def ExprEvalsUptoSaid : Prop := exprEvalsUptoRow.holds Try.pinned (OpenSpec.upto exprEvalsSpec)

/-- 'cooperlaw09.ExprWithin', WHERE WHAT IT READS IS OF BULK AT MOST 1048576: true; the input reads as it did. -/
def exprWithinUptoRow : OpenClaim := { program := "ythhlghoeapjagaa", sum := "97a39cbee70a90e0f25e29b4de50eaabeda43cf438d1c0b4702a5a0169f3d06e", func := "cooper/cooperlaw09.ExprWithin", spec := "exprWithin", unfollowed := true, recurses := true, apart := false, narrowed := true }
def ExprWithinUptoSaid : Prop := exprWithinUptoRow.holds Try.pinned (OpenSpec.upto exprWithinSpec)

end Rows
end Go.Proofs.Ythhlghoeapjagaa
