/-
  DERIVED. GIVEN WITH THE SEED: THE CARDS: each row of YthkmpjobfdeoaaaGreatDoorRows.lean that lists a variable, with what it lists TIED to the program's text (the seventh form; the later family's looks); each row that meets fmt, with fmt's text TOLD by the authors' own Lean function (tested against real Go, not proved from fmt's source: count such statements apart). THE CARD IS WHAT COUNTS. Prove the row's statement (the work); the ties are given (YthkmpjobfdeoaaaGreatDoorTie.lean); close each card by the builder's one call (the guide's Derived/Test/ToyasCard.lean, 'card_holds'). Laid BY PROGRAM, IN A SANDBOX (cutbox-door.mjs). By AI agents, Wed Nov 11 2026. No macro, syntax, notation, axiom, sorry.
-/
import Derived.Test.YthkmpjobfdeoaaaGreatDoorRows
import GoSem.ClaimSeven
namespace Go.Proofs.YthkmpjobfdeoaaaGreatDoor
namespace Rows

/-- THE TIED CARD OF 'dominolaw38.NonrevokedStates'. -/
def nonrevokedStatesCard : Claim7 := { stood := { row := nonrevokedStatesRow, standIns := [], harness := (true, "cd64ee28e8adaf02146bad975b3dc64f4f34534cd16fb3aed953698716186ede"), looks := false }, kinds := [], alts := [], laidByText := true, laidKinds := [.data], laidTests := true, laidLooks := .later }
def NonrevokedStatesCardSaid : Prop := Claim7.holds Tryz.pinned (.plain (OpenSpec.ofChange nonrevokedStatesSpec)) nonrevokedStatesCard

/-- THE TIED CARD OF 'dominolaw38.NonrevokedMoves'. -/
def nonrevokedMovesCard : Claim7 := { stood := { row := nonrevokedMovesRow, standIns := [], harness := (true, "cd64ee28e8adaf02146bad975b3dc64f4f34534cd16fb3aed953698716186ede"), looks := false }, kinds := [], alts := [], laidByText := true, laidKinds := [.data], laidTests := true, laidLooks := .later }
def NonrevokedMovesCardSaid : Prop := Claim7.holds Tryz.pinned (.plain (OpenSpec.ofChange nonrevokedMovesSpec)) nonrevokedMovesCard

/-- THE TIED CARD OF 'dominolaw38.NonrevokedSound'. -/
def nonrevokedSoundCard : Claim7 := { stood := { row := nonrevokedSoundRow, standIns := [], harness := (true, "cd64ee28e8adaf02146bad975b3dc64f4f34534cd16fb3aed953698716186ede"), looks := false }, kinds := [], alts := [], laidByText := true, laidKinds := [.data], laidTests := true, laidLooks := .later }
def NonrevokedSoundCardSaid : Prop := Claim7.holds Tryz.pinned (.plain (OpenSpec.ofChange nonrevokedSoundSpec)) nonrevokedSoundCard

/-- THE TIED CARD OF 'dominolaw38.NonrevokedMasks'. -/
def nonrevokedMasksCard : Claim7 := { stood := { row := nonrevokedMasksRow, standIns := [], harness := (true, "cd64ee28e8adaf02146bad975b3dc64f4f34534cd16fb3aed953698716186ede"), looks := false }, kinds := [], alts := [], laidByText := true, laidKinds := [.data, .data, .data], laidTests := true, laidLooks := .later }
def NonrevokedMasksCardSaid : Prop := Claim7.holds Tryz.pinned (.plain (OpenSpec.ofChange nonrevokedMasksSpec)) nonrevokedMasksCard

/-- THE TIED CARD OF 'dominolaw38.NonrevokedHides'. -/
def nonrevokedHidesCard : Claim7 := { stood := { row := nonrevokedHidesRow, standIns := [], harness := (true, "cd64ee28e8adaf02146bad975b3dc64f4f34534cd16fb3aed953698716186ede"), looks := false }, kinds := [], alts := [], laidByText := true, laidKinds := [.data, .data, .data], laidTests := true, laidLooks := .later }
def NonrevokedHidesCardSaid : Prop := Claim7.holds Tryz.pinned (.plain (OpenSpec.ofChange nonrevokedHidesSpec)) nonrevokedHidesCard

/-- THE TIED CARD OF 'dominolaw38.NonrevokedHolds'. -/
def nonrevokedHoldsCard : Claim7 := { stood := { row := nonrevokedHoldsRow, standIns := [], harness := (true, "cd64ee28e8adaf02146bad975b3dc64f4f34534cd16fb3aed953698716186ede"), looks := false }, kinds := [], alts := [], laidByText := true, laidKinds := [.data, .data, .data], laidTests := true, laidLooks := .later }
def NonrevokedHoldsCardSaid : Prop := Claim7.holds Tryz.pinned (.plain (OpenSpec.ofChange nonrevokedHoldsSpec)) nonrevokedHoldsCard

/-- THE SECOND FORM's CARD OF 'dominolaw38.NonrevokedStates'. -/
def nonrevokedStatesUptoCard : Claim7 := { stood := { row := nonrevokedStatesUptoRow, standIns := [], harness := (true, "cd64ee28e8adaf02146bad975b3dc64f4f34534cd16fb3aed953698716186ede"), looks := false }, kinds := [], alts := [], laidByText := true, laidKinds := [.data], laidTests := true, laidLooks := .later }
def NonrevokedStatesUptoCardSaid : Prop := Claim7.holds Tryz.pinned (.plain (OpenSpec.upto nonrevokedStatesSpec)) nonrevokedStatesUptoCard

/-- THE SECOND FORM's CARD OF 'dominolaw38.NonrevokedMoves'. -/
def nonrevokedMovesUptoCard : Claim7 := { stood := { row := nonrevokedMovesUptoRow, standIns := [], harness := (true, "cd64ee28e8adaf02146bad975b3dc64f4f34534cd16fb3aed953698716186ede"), looks := false }, kinds := [], alts := [], laidByText := true, laidKinds := [.data], laidTests := true, laidLooks := .later }
def NonrevokedMovesUptoCardSaid : Prop := Claim7.holds Tryz.pinned (.plain (OpenSpec.upto nonrevokedMovesSpec)) nonrevokedMovesUptoCard

/-- THE SECOND FORM's CARD OF 'dominolaw38.NonrevokedSound'. -/
def nonrevokedSoundUptoCard : Claim7 := { stood := { row := nonrevokedSoundUptoRow, standIns := [], harness := (true, "cd64ee28e8adaf02146bad975b3dc64f4f34534cd16fb3aed953698716186ede"), looks := false }, kinds := [], alts := [], laidByText := true, laidKinds := [.data], laidTests := true, laidLooks := .later }
def NonrevokedSoundUptoCardSaid : Prop := Claim7.holds Tryz.pinned (.plain (OpenSpec.upto nonrevokedSoundSpec)) nonrevokedSoundUptoCard

/-- THE SECOND FORM's CARD OF 'dominolaw38.NonrevokedMasks'. -/
def nonrevokedMasksUptoCard : Claim7 := { stood := { row := nonrevokedMasksUptoRow, standIns := [], harness := (true, "cd64ee28e8adaf02146bad975b3dc64f4f34534cd16fb3aed953698716186ede"), looks := false }, kinds := [], alts := [], laidByText := true, laidKinds := [.data, .data, .data], laidTests := true, laidLooks := .later }
def NonrevokedMasksUptoCardSaid : Prop := Claim7.holds Tryz.pinned (.plain (OpenSpec.upto nonrevokedMasksSpec)) nonrevokedMasksUptoCard

/-- THE SECOND FORM's CARD OF 'dominolaw38.NonrevokedHides'. -/
def nonrevokedHidesUptoCard : Claim7 := { stood := { row := nonrevokedHidesUptoRow, standIns := [], harness := (true, "cd64ee28e8adaf02146bad975b3dc64f4f34534cd16fb3aed953698716186ede"), looks := false }, kinds := [], alts := [], laidByText := true, laidKinds := [.data, .data, .data], laidTests := true, laidLooks := .later }
def NonrevokedHidesUptoCardSaid : Prop := Claim7.holds Tryz.pinned (.plain (OpenSpec.upto nonrevokedHidesSpec)) nonrevokedHidesUptoCard

/-- THE SECOND FORM's CARD OF 'dominolaw38.NonrevokedHolds'. -/
def nonrevokedHoldsUptoCard : Claim7 := { stood := { row := nonrevokedHoldsUptoRow, standIns := [], harness := (true, "cd64ee28e8adaf02146bad975b3dc64f4f34534cd16fb3aed953698716186ede"), looks := false }, kinds := [], alts := [], laidByText := true, laidKinds := [.data, .data, .data], laidTests := true, laidLooks := .later }
def NonrevokedHoldsUptoCardSaid : Prop := Claim7.holds Tryz.pinned (.plain (OpenSpec.upto nonrevokedHoldsSpec)) nonrevokedHoldsUptoCard
end Rows
end Go.Proofs.YthkmpjobfdeoaaaGreatDoor
