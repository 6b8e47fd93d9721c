/-
  DERIVED. GIVEN WITH THE SEED: THE CARDS: each row of YtnhbidpdadkcjaaGreatDoorRows.lean that lists a variable, with what it lists TIED to the program's text (the seventh form; the later family's looks); each row that meets fmt, with fmt's text TOLD by the authors' own Lean function (tested against real Go, not proved from fmt's source: count such statements apart). THE CARD IS WHAT COUNTS. Prove the row's statement (the work); the ties are given (YtnhbidpdadkcjaaGreatDoorTie.lean); close each card by the builder's one call (the guide's Derived/Test/ToyasCard.lean, 'card_holds'). Laid BY PROGRAM, IN A SANDBOX (cutbox-door.mjs). By AI agents, Wed Nov 11 2026. No macro, syntax, notation, axiom, sorry.
-/
import Derived.Test.YtnhbidpdadkcjaaGreatDoorRows
import GoSem.ClaimSeven
namespace Go.Proofs.YtnhbidpdadkcjaaGreatDoor
namespace Rows

/-- THE TIED CARD OF 'cooperlaw13.SourceCut'. -/
def sourceCutCard : Claim7 := { stood := { row := sourceCutRow, standIns := [], harness := (true, "beb8b676a643c805541c1655c705507c4fa78fa08702d84e16b97c1c8af4a8d0"), looks := true }, kinds := [], alts := [], laidByText := true, laidKinds := [.data, .data, .data, .data, .sentinel, .sentinel, .pinned], laidTests := true, laidLooks := .later }
def SourceCutCardSaid : Prop := Claim7.holds Tryz.pinned (.plain (OpenSpec.ofChange sourceCutSpec)) sourceCutCard

/-- THE TIED CARD OF 'cooperlaw11.StmtBack'. -/
def stmtBackCard : Claim7 := { stood := { row := stmtBackRow, standIns := [], harness := (true, "beb8b676a643c805541c1655c705507c4fa78fa08702d84e16b97c1c8af4a8d0"), looks := true }, kinds := [], alts := [], laidByText := true, laidKinds := [.data, .data, .data, .data, .sentinel, .sentinel, .pinned], laidTests := true, laidLooks := .later }
def StmtBackCardSaid : Prop := Claim7.holds Tryz.pinned (.plain (OpenSpec.ofChange stmtBackSpec)) stmtBackCard

/-- THE TIED CARD OF 'cooperlaw11.StmtRead'. -/
def stmtReadCard : Claim7 := { stood := { row := stmtReadRow, standIns := [], harness := (true, "beb8b676a643c805541c1655c705507c4fa78fa08702d84e16b97c1c8af4a8d0"), looks := true }, kinds := [], alts := [], laidByText := true, laidKinds := [.data, .data, .data, .data, .sentinel, .sentinel, .pinned], laidTests := true, laidLooks := .later }
def StmtReadCardSaid : Prop := Claim7.holds Tryz.pinned (.plain (OpenSpec.ofChange stmtReadSpec)) stmtReadCard

/-- THE TIED CARD OF 'cooperlaw11.StmtBlanks'. -/
def stmtBlanksCard : Claim7 := { stood := { row := stmtBlanksRow, standIns := [], harness := (true, "beb8b676a643c805541c1655c705507c4fa78fa08702d84e16b97c1c8af4a8d0"), looks := true }, kinds := [], alts := [], laidByText := true, laidKinds := [.data, .data, .data, .data, .sentinel, .sentinel, .pinned], laidTests := true, laidLooks := .later }
def StmtBlanksCardSaid : Prop := Claim7.holds Tryz.pinned (.plain (OpenSpec.ofChange stmtBlanksSpec)) stmtBlanksCard

/-- THE TIED CARD OF 'cooperlaw13.SourceBack'. -/
def sourceBackCard : Claim7 := { stood := { row := sourceBackRow, standIns := [], harness := (true, "beb8b676a643c805541c1655c705507c4fa78fa08702d84e16b97c1c8af4a8d0"), looks := true }, kinds := [], alts := [], laidByText := true, laidKinds := [.data, .data, .data, .data, .sentinel, .sentinel, .pinned], laidTests := true, laidLooks := .later }
def SourceBackCardSaid : Prop := Claim7.holds Tryz.pinned (.plain (OpenSpec.ofChange sourceBackSpec)) sourceBackCard

/-- THE TIED CARD OF 'cooperlaw11.StmtPrints'. -/
def stmtPrintsCard : Claim7 := { stood := { row := stmtPrintsRow, standIns := [], harness := (true, "beb8b676a643c805541c1655c705507c4fa78fa08702d84e16b97c1c8af4a8d0"), looks := true }, kinds := [], alts := [], laidByText := true, laidKinds := [.data, .data, .data, .data, .sentinel, .sentinel, .pinned], laidTests := true, laidLooks := .later }
def StmtPrintsCardSaid : Prop := Claim7.holds Tryz.pinned (.plain (OpenSpec.ofChange stmtPrintsSpec)) stmtPrintsCard

/-- THE TIED CARD OF 'cooperlaw13.SourcePrints'. -/
def sourcePrintsCard : Claim7 := { stood := { row := sourcePrintsRow, standIns := [], harness := (true, "beb8b676a643c805541c1655c705507c4fa78fa08702d84e16b97c1c8af4a8d0"), looks := true }, kinds := [], alts := [], laidByText := true, laidKinds := [.data, .data, .data, .data, .sentinel, .sentinel, .pinned], laidTests := true, laidLooks := .later }
def SourcePrintsCardSaid : Prop := Claim7.holds Tryz.pinned (.plain (OpenSpec.ofChange sourcePrintsSpec)) sourcePrintsCard

/-- THE SECOND FORM's CARD OF 'cooperlaw13.SourceCut'. -/
def sourceCutUptoCard : Claim7 := { stood := { row := sourceCutUptoRow, standIns := [], harness := (true, "beb8b676a643c805541c1655c705507c4fa78fa08702d84e16b97c1c8af4a8d0"), looks := true }, kinds := [], alts := [], laidByText := true, laidKinds := [.data, .data, .data, .data, .sentinel, .sentinel, .pinned], laidTests := true, laidLooks := .later }
def SourceCutUptoCardSaid : Prop := Claim7.holds Tryz.pinned (.plain (OpenSpec.upto sourceCutSpec)) sourceCutUptoCard

/-- THE SECOND FORM's CARD OF 'cooperlaw11.StmtBack'. -/
def stmtBackUptoCard : Claim7 := { stood := { row := stmtBackUptoRow, standIns := [], harness := (true, "beb8b676a643c805541c1655c705507c4fa78fa08702d84e16b97c1c8af4a8d0"), looks := true }, kinds := [], alts := [], laidByText := true, laidKinds := [.data, .data, .data, .data, .sentinel, .sentinel, .pinned], laidTests := true, laidLooks := .later }
def StmtBackUptoCardSaid : Prop := Claim7.holds Tryz.pinned (.plain (OpenSpec.upto stmtBackSpec)) stmtBackUptoCard

/-- THE SECOND FORM's CARD OF 'cooperlaw11.StmtRead'. -/
def stmtReadUptoCard : Claim7 := { stood := { row := stmtReadUptoRow, standIns := [], harness := (true, "beb8b676a643c805541c1655c705507c4fa78fa08702d84e16b97c1c8af4a8d0"), looks := true }, kinds := [], alts := [], laidByText := true, laidKinds := [.data, .data, .data, .data, .sentinel, .sentinel, .pinned], laidTests := true, laidLooks := .later }
def StmtReadUptoCardSaid : Prop := Claim7.holds Tryz.pinned (.plain (OpenSpec.upto stmtReadSpec)) stmtReadUptoCard

/-- THE SECOND FORM's CARD OF 'cooperlaw11.StmtBlanks'. -/
def stmtBlanksUptoCard : Claim7 := { stood := { row := stmtBlanksUptoRow, standIns := [], harness := (true, "beb8b676a643c805541c1655c705507c4fa78fa08702d84e16b97c1c8af4a8d0"), looks := true }, kinds := [], alts := [], laidByText := true, laidKinds := [.data, .data, .data, .data, .sentinel, .sentinel, .pinned], laidTests := true, laidLooks := .later }
def StmtBlanksUptoCardSaid : Prop := Claim7.holds Tryz.pinned (.plain (OpenSpec.upto stmtBlanksSpec)) stmtBlanksUptoCard

/-- THE SECOND FORM's CARD OF 'cooperlaw13.SourceBack'. -/
def sourceBackUptoCard : Claim7 := { stood := { row := sourceBackUptoRow, standIns := [], harness := (true, "beb8b676a643c805541c1655c705507c4fa78fa08702d84e16b97c1c8af4a8d0"), looks := true }, kinds := [], alts := [], laidByText := true, laidKinds := [.data, .data, .data, .data, .sentinel, .sentinel, .pinned], laidTests := true, laidLooks := .later }
def SourceBackUptoCardSaid : Prop := Claim7.holds Tryz.pinned (.plain (OpenSpec.upto sourceBackSpec)) sourceBackUptoCard

/-- THE SECOND FORM's CARD OF 'cooperlaw11.StmtPrints'. -/
def stmtPrintsUptoCard : Claim7 := { stood := { row := stmtPrintsUptoRow, standIns := [], harness := (true, "beb8b676a643c805541c1655c705507c4fa78fa08702d84e16b97c1c8af4a8d0"), looks := true }, kinds := [], alts := [], laidByText := true, laidKinds := [.data, .data, .data, .data, .sentinel, .sentinel, .pinned], laidTests := true, laidLooks := .later }
def StmtPrintsUptoCardSaid : Prop := Claim7.holds Tryz.pinned (.plain (OpenSpec.upto stmtPrintsSpec)) stmtPrintsUptoCard

/-- THE SECOND FORM's CARD OF 'cooperlaw13.SourcePrints'. -/
def sourcePrintsUptoCard : Claim7 := { stood := { row := sourcePrintsUptoRow, standIns := [], harness := (true, "beb8b676a643c805541c1655c705507c4fa78fa08702d84e16b97c1c8af4a8d0"), looks := true }, kinds := [], alts := [], laidByText := true, laidKinds := [.data, .data, .data, .data, .sentinel, .sentinel, .pinned], laidTests := true, laidLooks := .later }
def SourcePrintsUptoCardSaid : Prop := Claim7.holds Tryz.pinned (.plain (OpenSpec.upto sourcePrintsSpec)) sourcePrintsUptoCard
end Rows
end Go.Proofs.YtnhbidpdadkcjaaGreatDoor
