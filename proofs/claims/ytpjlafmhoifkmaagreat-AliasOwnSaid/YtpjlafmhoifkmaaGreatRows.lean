/-
  No cell of these rows narrows 'for every input' (looked for: loops, veiled, ifaces, maps, wideKeys, modest, calm, conditions, laid).
  DERIVED. THE GIVEN ROWS OF THIS SEAT. 4 by the template 'for every input the law returns true; each argument reads behind the call as it read before'; 0 by the template 'total and deterministic' (their statements: YtpjlafmhoifkmaaGreatTotals.lean).
  GIVEN WITH THE SEED: the statements are not yours to turn. If you find one false, say at which input.
  Laid BY PROGRAM, IN A SANDBOX (cutbox-rows.mjs): the forced cells as the released guide's own fill.sh prints them over the translation 0a34629a4745f613… (all of the seat's roots in one cut). By AI agents, Wed Nov 11 2026. No macro, syntax, notation, axiom, sorry.
-/
import Derived.Test.YtpjlafmhoifkmaaGreatChecked
import GoSem.Claim
import GoSem.ClaimJoined
import GoSem.ClaimMapViews
import Derived.JoinedTies
import Derived.KernelRfl
namespace Go.Proofs.YtpjlafmhoifkmaaGreat
/- THE CELL 'sum', in the pinned program and in every row, IS THE sha256 OF THE DUMP (.gsa) THAT YtpjlafmhoifkmaaGreatProg.lean LOADS. Nothing in Lean hashes anything: it is a label: what it is worth is what the hold of that sum in a sandbox is worth. -/
noncomputable def Tryz.pinned : Pinned := { name := "ytpjlafmhoifkmaagreat", sum := "0a34629a4745f6136b624d1e87d454ea8ced9120f3335acc50900cf7e0c88ec6", checked := Tryz.checked }
namespace Rows
def none {H : Type} : Left H := { results := [], args := [] }

/-- 'cooperlaw07.AliasMoved': WHATEVER THE INPUT: true; the input reads as it did. -/
def aliasMovedSpec : ChangeSpec := { name := "aliasMoved", fn := fun _ => fun
  | [d1, d2] => { results := [.lit (.bool true)], args := [d1, d2] }
  | _ => none }
def aliasMovedRow : OpenClaim := { program := "ytpjlafmhoifkmaagreat", sum := "0a34629a4745f6136b624d1e87d454ea8ced9120f3335acc50900cf7e0c88ec6", func := "cooper/cooperlaw07.AliasMoved", spec := "aliasMoved", unfollowed := true, recurses := true, apart := false }
def AliasMovedSaid : Prop := aliasMovedRow.holds Tryz.pinned (OpenSpec.ofChange aliasMovedSpec)

/-- ITS FALSE NEIGHBOUR: 'it returns false'. Refute it at one input. -/
def aliasMovedWrong : ChangeSpec := { name := "aliasMoved", fn := fun _ => fun
  | [d1, d2] => { results := [.lit (.bool false)], args := [d1, d2] }
  | _ => none }
def AliasMovedWrongFalsely : Prop := aliasMovedRow.holds Tryz.pinned (OpenSpec.ofChange aliasMovedWrong)

/-- 'cooperlaw07.AliasPlain': WHATEVER THE INPUT: true; the input reads as it did. -/
def aliasPlainSpec : ChangeSpec := { name := "aliasPlain", fn := fun _ => fun
  | [d] => { results := [.lit (.bool true)], args := [d] }
  | _ => none }
def aliasPlainRow : OpenClaim := { program := "ytpjlafmhoifkmaagreat", sum := "0a34629a4745f6136b624d1e87d454ea8ced9120f3335acc50900cf7e0c88ec6", func := "cooper/cooperlaw07.AliasPlain", spec := "aliasPlain", unfollowed := true, recurses := true, apart := false }
def AliasPlainSaid : Prop := aliasPlainRow.holds Tryz.pinned (OpenSpec.ofChange aliasPlainSpec)

/-- ITS FALSE NEIGHBOUR: 'it returns false'. Refute it at one input. -/
def aliasPlainWrong : ChangeSpec := { name := "aliasPlain", fn := fun _ => fun
  | [d] => { results := [.lit (.bool false)], args := [d] }
  | _ => none }
def AliasPlainWrongFalsely : Prop := aliasPlainRow.holds Tryz.pinned (OpenSpec.ofChange aliasPlainWrong)

/-- 'cooperlaw07.AliasOwn': WHATEVER THE INPUT: true; the input reads as it did. -/
def aliasOwnSpec : ChangeSpec := { name := "aliasOwn", fn := fun _ => fun
  | [d1, d2] => { results := [.lit (.bool true)], args := [d1, d2] }
  | _ => none }
def aliasOwnRow : OpenClaim := { program := "ytpjlafmhoifkmaagreat", sum := "0a34629a4745f6136b624d1e87d454ea8ced9120f3335acc50900cf7e0c88ec6", func := "cooper/cooperlaw07.AliasOwn", spec := "aliasOwn", unfollowed := true, recurses := true, apart := false }
def AliasOwnSaid : Prop := aliasOwnRow.holds Tryz.pinned (OpenSpec.ofChange aliasOwnSpec)

/-- ITS FALSE NEIGHBOUR: 'it returns false'. Refute it at one input. -/
def aliasOwnWrong : ChangeSpec := { name := "aliasOwn", fn := fun _ => fun
  | [d1, d2] => { results := [.lit (.bool false)], args := [d1, d2] }
  | _ => none }
def AliasOwnWrongFalsely : Prop := aliasOwnRow.holds Tryz.pinned (OpenSpec.ofChange aliasOwnWrong)

/-- 'cooperlaw07.AliasLines': WHATEVER THE INPUT: true; the input reads as it did. -/
def aliasLinesSpec : ChangeSpec := { name := "aliasLines", fn := fun _ => fun
  | [d1, d2] => { results := [.lit (.bool true)], args := [d1, d2] }
  | _ => none }
def aliasLinesRow : OpenClaim := { program := "ytpjlafmhoifkmaagreat", sum := "0a34629a4745f6136b624d1e87d454ea8ced9120f3335acc50900cf7e0c88ec6", func := "cooper/cooperlaw07.AliasLines", spec := "aliasLines", unfollowed := true, recurses := true, apart := false }
def AliasLinesSaid : Prop := aliasLinesRow.holds Tryz.pinned (OpenSpec.ofChange aliasLinesSpec)

/-- ITS FALSE NEIGHBOUR: 'it returns false'. Refute it at one input. -/
def aliasLinesWrong : ChangeSpec := { name := "aliasLines", fn := fun _ => fun
  | [d1, d2] => { results := [.lit (.bool false)], args := [d1, d2] }
  | _ => none }
def AliasLinesWrongFalsely : Prop := aliasLinesRow.holds Tryz.pinned (OpenSpec.ofChange aliasLinesWrong)

/- THE SECOND FORM. 'bulk': how many values and letters a reading holds, each counted each time it is reached (what is shared counts as often as it is met; a slice's spare places count too). A statement '..UptoSaid' is the law's where the arguments, and the package variables that the reading takes, are together of bulk at most 1048576: NARROWER than '..Said'. Prove '..Said' where nothing that the law and all that it calls make is longer than what came in: it says more and counts as full. Else prove '..UptoSaid'. A law counts once. -/
mutual
def uptoBulk {H : Type} : DataW H → Nat
  | .lit (.string bytes) => bytes.length + 1
  | .lit _ => 1
  | .nil => 1
  | .ptr d => uptoBulk d + 1
  | .slice elems spare => uptoBulkAll elems + uptoBulkAll spare + 1
  | .agg parts => uptoBulkAll parts + 1
  | .iface _ d => uptoBulk d + 1
  | .map entries => uptoBulkEntries entries + 1
  | .held _ => 1
def uptoBulkAll {H : Type} : List (DataW H) → Nat
  | [] => 0
  | d :: r => uptoBulk d + uptoBulkAll r
def uptoBulkEntries {H : Type} : List (Lit × DataW H) → Nat
  | [] => 0
  | x :: r => uptoBulkEntry x + uptoBulkEntries r
def uptoBulkEntry {H : Type} : Lit × DataW H → Nat
  | (.string bytes, d) => bytes.length + uptoBulk d + 1
  | (_, d) => uptoBulk d + 1
 end
def uptoSmall : (H : Type) → List (DataW H) → Bool := fun _ ds => decide (uptoBulkAll ds ≤ 1048576)
def OpenSpec.upto (s : _root_.Go.ChangeSpec) : _root_.Go.OpenSpec := { _root_.Go.OpenSpec.ofChange s with cond := some uptoSmall }

/-- 'cooperlaw07.AliasMoved', WHERE WHAT IT READS IS OF BULK AT MOST 1048576: true; the input reads as it did. -/
def aliasMovedUptoRow : OpenClaim := { program := "ytpjlafmhoifkmaagreat", sum := "0a34629a4745f6136b624d1e87d454ea8ced9120f3335acc50900cf7e0c88ec6", func := "cooper/cooperlaw07.AliasMoved", spec := "aliasMoved", unfollowed := true, recurses := true, apart := false, narrowed := true }
def AliasMovedUptoSaid : Prop := aliasMovedUptoRow.holds Tryz.pinned (OpenSpec.upto aliasMovedSpec)

/-- 'cooperlaw07.AliasPlain', WHERE WHAT IT READS IS OF BULK AT MOST 1048576: true; the input reads as it did. -/
def aliasPlainUptoRow : OpenClaim := { program := "ytpjlafmhoifkmaagreat", sum := "0a34629a4745f6136b624d1e87d454ea8ced9120f3335acc50900cf7e0c88ec6", func := "cooper/cooperlaw07.AliasPlain", spec := "aliasPlain", unfollowed := true, recurses := true, apart := false, narrowed := true }
def AliasPlainUptoSaid : Prop := aliasPlainUptoRow.holds Tryz.pinned (OpenSpec.upto aliasPlainSpec)

/-- 'cooperlaw07.AliasOwn', WHERE WHAT IT READS IS OF BULK AT MOST 1048576: true; the input reads as it did. -/
def aliasOwnUptoRow : OpenClaim := { program := "ytpjlafmhoifkmaagreat", sum := "0a34629a4745f6136b624d1e87d454ea8ced9120f3335acc50900cf7e0c88ec6", func := "cooper/cooperlaw07.AliasOwn", spec := "aliasOwn", unfollowed := true, recurses := true, apart := false, narrowed := true }
def AliasOwnUptoSaid : Prop := aliasOwnUptoRow.holds Tryz.pinned (OpenSpec.upto aliasOwnSpec)

/-- 'cooperlaw07.AliasLines', WHERE WHAT IT READS IS OF BULK AT MOST 1048576: true; the input reads as it did. -/
def aliasLinesUptoRow : OpenClaim := { program := "ytpjlafmhoifkmaagreat", sum := "0a34629a4745f6136b624d1e87d454ea8ced9120f3335acc50900cf7e0c88ec6", func := "cooper/cooperlaw07.AliasLines", spec := "aliasLines", unfollowed := true, recurses := true, apart := false, narrowed := true }
def AliasLinesUptoSaid : Prop := aliasLinesUptoRow.holds Tryz.pinned (OpenSpec.upto aliasLinesSpec)

end Rows
end Go.Proofs.YtpjlafmhoifkmaaGreat
