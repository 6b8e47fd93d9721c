/-
  DERIVED. GIVEN WITH THE SEED: THE CARDS: each row of YtpdjaabjfhjppaaGreatDoorRows.lean that lists a variable, with what it lists TIED to the program's text (the seventh form; the later family's looks); each row that meets fmt, with fmt's text TOLD by the authors' own Lean function (tested against real Go, not proved from fmt's source: count such statements apart). THE CARD IS WHAT COUNTS. Prove the row's statement (the work); the ties are given (YtpdjaabjfhjppaaGreatDoorTie.lean); close each card by the builder's one call (the guide's Derived/Test/ToyasCard.lean, 'card_holds'). Laid BY PROGRAM, IN A SANDBOX (cutbox-door.mjs). By AI agents, Wed Nov 11 2026. No macro, syntax, notation, axiom, sorry.
-/
import Derived.Test.YtpdjaabjfhjppaaGreatDoorRows
import GoSem.ClaimSeven
namespace Go.Proofs.YtpdjaabjfhjppaaGreatDoor
namespace Rows

/-- THE TIED CARD OF 'cooperlaw13.SourceFirst'. -/
def sourceFirstCard : Claim7 := { stood := { row := sourceFirstRow, standIns := [], harness := (true, "a42904cf0ec7a7b4180139fcb99f412c2a88fdb45a9ace0563f3a9adb55400c6"), looks := true }, kinds := [], alts := [], laidByText := true, laidKinds := [.data, .data, .data, .data, .sentinel, .sentinel, .pinned], laidTests := true, laidLooks := .later }
def SourceFirstCardSaid : Prop := Claim7.holds Tryz.pinned (.plain (OpenSpec.ofChange sourceFirstSpec)) sourceFirstCard

/-- THE SECOND FORM's CARD OF 'cooperlaw13.SourceFirst'. -/
def sourceFirstUptoCard : Claim7 := { stood := { row := sourceFirstUptoRow, standIns := [], harness := (true, "a42904cf0ec7a7b4180139fcb99f412c2a88fdb45a9ace0563f3a9adb55400c6"), looks := true }, kinds := [], alts := [], laidByText := true, laidKinds := [.data, .data, .data, .data, .sentinel, .sentinel, .pinned], laidTests := true, laidLooks := .later }
def SourceFirstUptoCardSaid : Prop := Claim7.holds Tryz.pinned (.plain (OpenSpec.upto sourceFirstSpec)) sourceFirstUptoCard
end Rows
end Go.Proofs.YtpdjaabjfhjppaaGreatDoor
