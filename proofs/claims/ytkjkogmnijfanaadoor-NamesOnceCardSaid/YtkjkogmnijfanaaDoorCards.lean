/-
  DERIVED. GIVEN WITH THE SEED: THE CARDS: each row of YtkjkogmnijfanaaDoorRows.lean that lists a variable, with what it lists TIED to the program's text (the seventh form; the later family's looks); each row that meets fmt, with fmt's text TOLD by the authors' own Lean function (tested against real Go, not proved from fmt's source: count such statements apart). THE CARD IS WHAT COUNTS. Prove the row's statement (the work); the ties are given (YtkjkogmnijfanaaDoorTie.lean); close each card by the builder's one call (the guide's Derived/Test/ToyasCard.lean, 'card_holds'). Laid BY PROGRAM, IN A SANDBOX (cutbox-door.mjs). By AI agents, Wed Nov 11 2026. No macro, syntax, notation, axiom, sorry.
-/
import Derived.Test.YtkjkogmnijfanaaDoorRows
import GoSem.ClaimSeven
namespace Go.Proofs.YtkjkogmnijfanaaDoor
namespace Rows

/-- THE TIED CARD OF 'cooperlaw03.NamesRegs'. -/
def namesRegsCard : Claim7 := { stood := { row := namesRegsRow, standIns := [], harness := (true, "d1ade51d3271669487965bcd088d069e5d6a729fc1d9fec05db8ad6cc4fc0bd0"), looks := false }, kinds := [], alts := [], laidByText := true, laidKinds := [.data, .pinned], laidTests := true, laidLooks := .later }
def NamesRegsCardSaid : Prop := Claim7.holds Tryd.pinned (.plain (OpenSpec.ofChange namesRegsSpec)) namesRegsCard

/-- THE TIED CARD OF 'cooperlaw03.NamesOnce'. -/
def namesOnceCard : Claim7 := { stood := { row := namesOnceRow, standIns := [], harness := (true, "d1ade51d3271669487965bcd088d069e5d6a729fc1d9fec05db8ad6cc4fc0bd0"), looks := false }, kinds := [], alts := [], laidByText := true, laidKinds := [.data, .pinned], laidTests := true, laidLooks := .later }
def NamesOnceCardSaid : Prop := Claim7.holds Tryd.pinned (.plain (OpenSpec.ofChange namesOnceSpec)) namesOnceCard

/-- THE TIED CARD OF 'cooperlaw03.NamesKinds'. -/
def namesKindsCard : Claim7 := { stood := { row := namesKindsRow, standIns := [], harness := (true, "d1ade51d3271669487965bcd088d069e5d6a729fc1d9fec05db8ad6cc4fc0bd0"), looks := false }, kinds := [], alts := [], laidByText := true, laidKinds := [.data, .pinned], laidTests := true, laidLooks := .later }
def NamesKindsCardSaid : Prop := Claim7.holds Tryd.pinned (.plain (OpenSpec.ofChange namesKindsSpec)) namesKindsCard

/-- THE TIED CARD OF 'cooperlaw03.NamesBack'. -/
def namesBackCard : Claim7 := { stood := { row := namesBackRow, standIns := [], harness := (true, "d1ade51d3271669487965bcd088d069e5d6a729fc1d9fec05db8ad6cc4fc0bd0"), looks := false }, kinds := [], alts := [], laidByText := true, laidKinds := [.data, .pinned], laidTests := true, laidLooks := .later }
def NamesBackCardSaid : Prop := Claim7.holds Tryd.pinned (.plain (OpenSpec.ofChange namesBackSpec)) namesBackCard

/-- THE TIED CARD OF 'cooperlaw03.NamesAll'. -/
def namesAllCard : Claim7 := { stood := { row := namesAllRow, standIns := [], harness := (true, "d1ade51d3271669487965bcd088d069e5d6a729fc1d9fec05db8ad6cc4fc0bd0"), looks := false }, kinds := [], alts := [], laidByText := true, laidKinds := [.data, .pinned], laidTests := true, laidLooks := .later }
def NamesAllCardSaid : Prop := Claim7.holds Tryd.pinned (.plain (OpenSpec.ofChange namesAllSpec)) namesAllCard

/-- THE SECOND FORM's CARD OF 'cooperlaw03.NamesRegs'. -/
def namesRegsUptoCard : Claim7 := { stood := { row := namesRegsUptoRow, standIns := [], harness := (true, "d1ade51d3271669487965bcd088d069e5d6a729fc1d9fec05db8ad6cc4fc0bd0"), looks := false }, kinds := [], alts := [], laidByText := true, laidKinds := [.data, .pinned], laidTests := true, laidLooks := .later }
def NamesRegsUptoCardSaid : Prop := Claim7.holds Tryd.pinned (.plain (OpenSpec.upto namesRegsSpec)) namesRegsUptoCard

/-- THE SECOND FORM's CARD OF 'cooperlaw03.NamesOnce'. -/
def namesOnceUptoCard : Claim7 := { stood := { row := namesOnceUptoRow, standIns := [], harness := (true, "d1ade51d3271669487965bcd088d069e5d6a729fc1d9fec05db8ad6cc4fc0bd0"), looks := false }, kinds := [], alts := [], laidByText := true, laidKinds := [.data, .pinned], laidTests := true, laidLooks := .later }
def NamesOnceUptoCardSaid : Prop := Claim7.holds Tryd.pinned (.plain (OpenSpec.upto namesOnceSpec)) namesOnceUptoCard

/-- THE SECOND FORM's CARD OF 'cooperlaw03.NamesKinds'. -/
def namesKindsUptoCard : Claim7 := { stood := { row := namesKindsUptoRow, standIns := [], harness := (true, "d1ade51d3271669487965bcd088d069e5d6a729fc1d9fec05db8ad6cc4fc0bd0"), looks := false }, kinds := [], alts := [], laidByText := true, laidKinds := [.data, .pinned], laidTests := true, laidLooks := .later }
def NamesKindsUptoCardSaid : Prop := Claim7.holds Tryd.pinned (.plain (OpenSpec.upto namesKindsSpec)) namesKindsUptoCard

/-- THE SECOND FORM's CARD OF 'cooperlaw03.NamesBack'. -/
def namesBackUptoCard : Claim7 := { stood := { row := namesBackUptoRow, standIns := [], harness := (true, "d1ade51d3271669487965bcd088d069e5d6a729fc1d9fec05db8ad6cc4fc0bd0"), looks := false }, kinds := [], alts := [], laidByText := true, laidKinds := [.data, .pinned], laidTests := true, laidLooks := .later }
def NamesBackUptoCardSaid : Prop := Claim7.holds Tryd.pinned (.plain (OpenSpec.upto namesBackSpec)) namesBackUptoCard

/-- THE SECOND FORM's CARD OF 'cooperlaw03.NamesAll'. -/
def namesAllUptoCard : Claim7 := { stood := { row := namesAllUptoRow, standIns := [], harness := (true, "d1ade51d3271669487965bcd088d069e5d6a729fc1d9fec05db8ad6cc4fc0bd0"), looks := false }, kinds := [], alts := [], laidByText := true, laidKinds := [.data, .pinned], laidTests := true, laidLooks := .later }
def NamesAllUptoCardSaid : Prop := Claim7.holds Tryd.pinned (.plain (OpenSpec.upto namesAllSpec)) namesAllUptoCard
end Rows
end Go.Proofs.YtkjkogmnijfanaaDoor
