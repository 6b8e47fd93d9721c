/-
  DERIVED. GIVEN WITH THE SEED: THE CARDS: each row of YthcoegkfpinlfaaGreatDoorRows.lean that lists a variable, with what it lists TIED to the program's text (the seventh form; the later family's looks); each row that meets fmt, with fmt's text TOLD by the authors' own Lean function (tested against real Go, not proved from fmt's source: count such statements apart). THE CARD IS WHAT COUNTS. Prove the row's statement (the work); the ties are given (YthcoegkfpinlfaaGreatDoorTie.lean); close each card by the builder's one call (the guide's Derived/Test/ToyasCard.lean, 'card_holds'). Laid BY PROGRAM, IN A SANDBOX (cutbox-door.mjs). By AI agents, Wed Nov 11 2026. No macro, syntax, notation, axiom, sorry.
-/
import Derived.Test.YthcoegkfpinlfaaGreatDoorRows
import GoSem.ClaimSeven
namespace Go.Proofs.YthcoegkfpinlfaaGreatDoor
namespace Rows

/-- THE TIED CARD OF 'cooperlaw10.OperBack'. -/
def operBackCard : Claim7 := { stood := { row := operBackRow, standIns := [], harness := (true, "f5e54945716596ea5ae760bf61ac4b807c00d1df8a45df2e818780e2f651a023"), looks := true }, kinds := [], alts := [], laidByText := true, laidKinds := [.data, .data, .data, .data, .pinned], laidTests := true, laidLooks := .later }
def OperBackCardSaid : Prop := Claim7.holds Tryz.pinned (.plain (OpenSpec.ofChange operBackSpec)) operBackCard

/-- THE TIED CARD OF 'cooperlaw10.OperAgain'. -/
def operAgainCard : Claim7 := { stood := { row := operAgainRow, standIns := [], harness := (true, "f5e54945716596ea5ae760bf61ac4b807c00d1df8a45df2e818780e2f651a023"), looks := true }, kinds := [], alts := [], laidByText := true, laidKinds := [.data, .data, .data, .data, .pinned], laidTests := true, laidLooks := .later }
def OperAgainCardSaid : Prop := Claim7.holds Tryz.pinned (.plain (OpenSpec.ofChange operAgainSpec)) operAgainCard

/-- THE TIED CARD OF 'cooperlaw10.OperTexts'. -/
def operTextsCard : Claim7 := { stood := { row := operTextsRow, standIns := [], harness := (true, "f5e54945716596ea5ae760bf61ac4b807c00d1df8a45df2e818780e2f651a023"), looks := true }, kinds := [], alts := [], laidByText := true, laidKinds := [.data, .data, .data, .data, .pinned], laidTests := true, laidLooks := .later }
def OperTextsCardSaid : Prop := Claim7.holds Tryz.pinned (.plain (OpenSpec.ofChange operTextsSpec)) operTextsCard

/-- THE SECOND FORM's CARD OF 'cooperlaw10.OperBack'. -/
def operBackUptoCard : Claim7 := { stood := { row := operBackUptoRow, standIns := [], harness := (true, "f5e54945716596ea5ae760bf61ac4b807c00d1df8a45df2e818780e2f651a023"), looks := true }, kinds := [], alts := [], laidByText := true, laidKinds := [.data, .data, .data, .data, .pinned], laidTests := true, laidLooks := .later }
def OperBackUptoCardSaid : Prop := Claim7.holds Tryz.pinned (.plain (OpenSpec.upto operBackSpec)) operBackUptoCard

/-- THE SECOND FORM's CARD OF 'cooperlaw10.OperAgain'. -/
def operAgainUptoCard : Claim7 := { stood := { row := operAgainUptoRow, standIns := [], harness := (true, "f5e54945716596ea5ae760bf61ac4b807c00d1df8a45df2e818780e2f651a023"), looks := true }, kinds := [], alts := [], laidByText := true, laidKinds := [.data, .data, .data, .data, .pinned], laidTests := true, laidLooks := .later }
def OperAgainUptoCardSaid : Prop := Claim7.holds Tryz.pinned (.plain (OpenSpec.upto operAgainSpec)) operAgainUptoCard

/-- THE SECOND FORM's CARD OF 'cooperlaw10.OperTexts'. -/
def operTextsUptoCard : Claim7 := { stood := { row := operTextsUptoRow, standIns := [], harness := (true, "f5e54945716596ea5ae760bf61ac4b807c00d1df8a45df2e818780e2f651a023"), looks := true }, kinds := [], alts := [], laidByText := true, laidKinds := [.data, .data, .data, .data, .pinned], laidTests := true, laidLooks := .later }
def OperTextsUptoCardSaid : Prop := Claim7.holds Tryz.pinned (.plain (OpenSpec.upto operTextsSpec)) operTextsUptoCard
end Rows
end Go.Proofs.YthcoegkfpinlfaaGreatDoor
