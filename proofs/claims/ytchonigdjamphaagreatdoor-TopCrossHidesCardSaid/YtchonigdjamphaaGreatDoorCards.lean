/-
  DERIVED. GIVEN WITH THE SEED: THE CARDS: each row of YtchonigdjamphaaGreatDoorRows.lean that lists a variable, with what it lists TIED to the program's text (the seventh form; the later family's looks); each row that meets fmt, with fmt's text TOLD by the authors' own Lean function (tested against real Go, not proved from fmt's source: count such statements apart). THE CARD IS WHAT COUNTS. Prove the row's statement (the work); the ties are given (YtchonigdjamphaaGreatDoorTie.lean); close each card by the builder's one call (the guide's Derived/Test/ToyasCard.lean, 'card_holds'). Laid BY PROGRAM, IN A SANDBOX (cutbox-door.mjs). By AI agents, Wed Nov 11 2026. No macro, syntax, notation, axiom, sorry.
-/
import Derived.Test.YtchonigdjamphaaGreatDoorRows
import GoSem.ClaimSeven
namespace Go.Proofs.YtchonigdjamphaaGreatDoor
namespace Rows

/-- THE TIED CARD OF 'dominotop.TopCrossHides'. -/
def topCrossHidesCard : Claim7 := { stood := { row := topCrossHidesRow, standIns := [], harness := (true, "994fb66f3fb30e1d11f58245b864640d5de7f67205d4d788e0b702d7ecdfbe44"), looks := true }, kinds := [], alts := [], laidByText := true, laidKinds := [.data, .data, .data], laidTests := true, laidLooks := .later }
def TopCrossHidesCardSaid : Prop := Claim7.holds Tryz.pinned (.plain (OpenSpec.ofChange topCrossHidesSpec)) topCrossHidesCard

/-- THE SECOND FORM's CARD OF 'dominotop.TopCrossHides'. -/
def topCrossHidesUptoCard : Claim7 := { stood := { row := topCrossHidesUptoRow, standIns := [], harness := (true, "994fb66f3fb30e1d11f58245b864640d5de7f67205d4d788e0b702d7ecdfbe44"), looks := true }, kinds := [], alts := [], laidByText := true, laidKinds := [.data, .data, .data], laidTests := true, laidLooks := .later }
def TopCrossHidesUptoCardSaid : Prop := Claim7.holds Tryz.pinned (.plain (OpenSpec.upto topCrossHidesSpec)) topCrossHidesUptoCard
end Rows
end Go.Proofs.YtchonigdjamphaaGreatDoor
