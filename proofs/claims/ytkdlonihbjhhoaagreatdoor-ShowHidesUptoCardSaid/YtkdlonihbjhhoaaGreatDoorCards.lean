/-
  DERIVED. GIVEN WITH THE SEED: THE CARDS: each row of YtkdlonihbjhhoaaGreatDoorRows.lean that lists a variable, with what it lists TIED to the program's text (the seventh form; the later family's looks); each row that meets fmt, with fmt's text TOLD by the authors' own Lean function (tested against real Go, not proved from fmt's source: count such statements apart). THE CARD IS WHAT COUNTS. Prove the row's statement (the work); the ties are given (YtkdlonihbjhhoaaGreatDoorTie.lean); close each card by the builder's one call (the guide's Derived/Test/ToyasCard.lean, 'card_holds'). Laid BY PROGRAM, IN A SANDBOX (cutbox-door.mjs). By AI agents, Wed Nov 11 2026. No macro, syntax, notation, axiom, sorry.
-/
import Derived.Test.YtkdlonihbjhhoaaGreatDoorRows
import GoSem.ClaimSeven
namespace Go.Proofs.YtkdlonihbjhhoaaGreatDoor
namespace Rows

/-- THE TIED CARD OF 'dominolaw32.ShowRandomizes'. -/
def showRandomizesCard : Claim7 := { stood := { row := showRandomizesRow, standIns := [], harness := (true, "4f9361860a3d3d7ae2557b9d8752d3ee8e3b0e1db420196ed37f5a79f28f5858"), looks := false }, kinds := [], alts := [], laidByText := true, laidKinds := [.data, .data, .data], laidTests := true, laidLooks := .later }
def ShowRandomizesCardSaid : Prop := Claim7.holds Tryz.pinned (.plain (OpenSpec.ofChange showRandomizesSpec)) showRandomizesCard

/-- THE TIED CARD OF 'dominolaw32.ShowStatements'. -/
def showStatementsCard : Claim7 := { stood := { row := showStatementsRow, standIns := [], harness := (true, "4f9361860a3d3d7ae2557b9d8752d3ee8e3b0e1db420196ed37f5a79f28f5858"), looks := false }, kinds := [], alts := [], laidByText := true, laidKinds := [.data, .data, .data], laidTests := true, laidLooks := .later }
def ShowStatementsCardSaid : Prop := Claim7.holds Tryz.pinned (.plain (OpenSpec.ofChange showStatementsSpec)) showStatementsCard

/-- THE TIED CARD OF 'dominolaw32.ShowWitnesses'. -/
def showWitnessesCard : Claim7 := { stood := { row := showWitnessesRow, standIns := [], harness := (true, "4f9361860a3d3d7ae2557b9d8752d3ee8e3b0e1db420196ed37f5a79f28f5858"), looks := false }, kinds := [], alts := [], laidByText := true, laidKinds := [.data, .data, .data], laidTests := true, laidLooks := .later }
def ShowWitnessesCardSaid : Prop := Claim7.holds Tryz.pinned (.plain (OpenSpec.ofChange showWitnessesSpec)) showWitnessesCard

/-- THE TIED CARD OF 'dominolaw32.ShowSigns'. -/
def showSignsCard : Claim7 := { stood := { row := showSignsRow, standIns := [], harness := (true, "4f9361860a3d3d7ae2557b9d8752d3ee8e3b0e1db420196ed37f5a79f28f5858"), looks := false }, kinds := [], alts := [], laidByText := true, laidKinds := [.data, .data, .data], laidTests := true, laidLooks := .later }
def ShowSignsCardSaid : Prop := Claim7.holds Tryz.pinned (.plain (OpenSpec.ofChange showSignsSpec)) showSignsCard

/-- THE TIED CARD OF 'dominolaw32.ShowHides'. -/
def showHidesCard : Claim7 := { stood := { row := showHidesRow, standIns := [], harness := (true, "4f9361860a3d3d7ae2557b9d8752d3ee8e3b0e1db420196ed37f5a79f28f5858"), looks := false }, kinds := [], alts := [], laidByText := true, laidKinds := [.data, .data, .data], laidTests := true, laidLooks := .later }
def ShowHidesCardSaid : Prop := Claim7.holds Tryz.pinned (.plain (OpenSpec.ofChange showHidesSpec)) showHidesCard

/-- THE TIED CARD OF 'dominolaw32.ShowCredentials'. -/
def showCredentialsCard : Claim7 := { stood := { row := showCredentialsRow, standIns := [], harness := (true, "4f9361860a3d3d7ae2557b9d8752d3ee8e3b0e1db420196ed37f5a79f28f5858"), looks := false }, kinds := [], alts := [], laidByText := true, laidKinds := [.data, .data, .data], laidTests := true, laidLooks := .later }
def ShowCredentialsCardSaid : Prop := Claim7.holds Tryz.pinned (.plain (OpenSpec.ofChange showCredentialsSpec)) showCredentialsCard

/-- THE TIED CARD OF 'dominolaw32.ShowHolds'. -/
def showHoldsCard : Claim7 := { stood := { row := showHoldsRow, standIns := [], harness := (true, "4f9361860a3d3d7ae2557b9d8752d3ee8e3b0e1db420196ed37f5a79f28f5858"), looks := false }, kinds := [], alts := [], laidByText := true, laidKinds := [.data, .data, .data], laidTests := true, laidLooks := .later }
def ShowHoldsCardSaid : Prop := Claim7.holds Tryz.pinned (.plain (OpenSpec.ofChange showHoldsSpec)) showHoldsCard

/-- THE SECOND FORM's CARD OF 'dominolaw32.ShowRandomizes'. -/
def showRandomizesUptoCard : Claim7 := { stood := { row := showRandomizesUptoRow, standIns := [], harness := (true, "4f9361860a3d3d7ae2557b9d8752d3ee8e3b0e1db420196ed37f5a79f28f5858"), looks := false }, kinds := [], alts := [], laidByText := true, laidKinds := [.data, .data, .data], laidTests := true, laidLooks := .later }
def ShowRandomizesUptoCardSaid : Prop := Claim7.holds Tryz.pinned (.plain (OpenSpec.upto showRandomizesSpec)) showRandomizesUptoCard

/-- THE SECOND FORM's CARD OF 'dominolaw32.ShowStatements'. -/
def showStatementsUptoCard : Claim7 := { stood := { row := showStatementsUptoRow, standIns := [], harness := (true, "4f9361860a3d3d7ae2557b9d8752d3ee8e3b0e1db420196ed37f5a79f28f5858"), looks := false }, kinds := [], alts := [], laidByText := true, laidKinds := [.data, .data, .data], laidTests := true, laidLooks := .later }
def ShowStatementsUptoCardSaid : Prop := Claim7.holds Tryz.pinned (.plain (OpenSpec.upto showStatementsSpec)) showStatementsUptoCard

/-- THE SECOND FORM's CARD OF 'dominolaw32.ShowWitnesses'. -/
def showWitnessesUptoCard : Claim7 := { stood := { row := showWitnessesUptoRow, standIns := [], harness := (true, "4f9361860a3d3d7ae2557b9d8752d3ee8e3b0e1db420196ed37f5a79f28f5858"), looks := false }, kinds := [], alts := [], laidByText := true, laidKinds := [.data, .data, .data], laidTests := true, laidLooks := .later }
def ShowWitnessesUptoCardSaid : Prop := Claim7.holds Tryz.pinned (.plain (OpenSpec.upto showWitnessesSpec)) showWitnessesUptoCard

/-- THE SECOND FORM's CARD OF 'dominolaw32.ShowSigns'. -/
def showSignsUptoCard : Claim7 := { stood := { row := showSignsUptoRow, standIns := [], harness := (true, "4f9361860a3d3d7ae2557b9d8752d3ee8e3b0e1db420196ed37f5a79f28f5858"), looks := false }, kinds := [], alts := [], laidByText := true, laidKinds := [.data, .data, .data], laidTests := true, laidLooks := .later }
def ShowSignsUptoCardSaid : Prop := Claim7.holds Tryz.pinned (.plain (OpenSpec.upto showSignsSpec)) showSignsUptoCard

/-- THE SECOND FORM's CARD OF 'dominolaw32.ShowHides'. -/
def showHidesUptoCard : Claim7 := { stood := { row := showHidesUptoRow, standIns := [], harness := (true, "4f9361860a3d3d7ae2557b9d8752d3ee8e3b0e1db420196ed37f5a79f28f5858"), looks := false }, kinds := [], alts := [], laidByText := true, laidKinds := [.data, .data, .data], laidTests := true, laidLooks := .later }
def ShowHidesUptoCardSaid : Prop := Claim7.holds Tryz.pinned (.plain (OpenSpec.upto showHidesSpec)) showHidesUptoCard

/-- THE SECOND FORM's CARD OF 'dominolaw32.ShowCredentials'. -/
def showCredentialsUptoCard : Claim7 := { stood := { row := showCredentialsUptoRow, standIns := [], harness := (true, "4f9361860a3d3d7ae2557b9d8752d3ee8e3b0e1db420196ed37f5a79f28f5858"), looks := false }, kinds := [], alts := [], laidByText := true, laidKinds := [.data, .data, .data], laidTests := true, laidLooks := .later }
def ShowCredentialsUptoCardSaid : Prop := Claim7.holds Tryz.pinned (.plain (OpenSpec.upto showCredentialsSpec)) showCredentialsUptoCard

/-- THE SECOND FORM's CARD OF 'dominolaw32.ShowHolds'. -/
def showHoldsUptoCard : Claim7 := { stood := { row := showHoldsUptoRow, standIns := [], harness := (true, "4f9361860a3d3d7ae2557b9d8752d3ee8e3b0e1db420196ed37f5a79f28f5858"), looks := false }, kinds := [], alts := [], laidByText := true, laidKinds := [.data, .data, .data], laidTests := true, laidLooks := .later }
def ShowHoldsUptoCardSaid : Prop := Claim7.holds Tryz.pinned (.plain (OpenSpec.upto showHoldsSpec)) showHoldsUptoCard
end Rows
end Go.Proofs.YtkdlonihbjhhoaaGreatDoor
