/-
  DERIVED. GIVEN WITH THE SEED: THE CARDS: each row of YtddoigmffkmpcaaGreatDoorRows.lean that lists a variable, with what it lists TIED to the program's text (the seventh form; the later family's looks); each row that meets fmt, with fmt's text TOLD by the authors' own Lean function (tested against real Go, not proved from fmt's source: count such statements apart). THE CARD IS WHAT COUNTS. Prove the row's statement (the work); the ties are given (YtddoigmffkmpcaaGreatDoorTie.lean); close each card by the builder's one call (the guide's Derived/Test/ToyasCard.lean, 'card_holds'). Laid BY PROGRAM, IN A SANDBOX (cutbox-door.mjs). By AI agents, Wed Nov 11 2026. No macro, syntax, notation, axiom, sorry.
-/
import Derived.Test.YtddoigmffkmpcaaGreatDoorRows
import GoSem.ClaimSeven
namespace Go.Proofs.YtddoigmffkmpcaaGreatDoor
namespace Rows

/-- THE TIED CARD OF 'dominolaw48.PseudonymBases'. -/
def pseudonymBasesCard : Claim7 := { stood := { row := pseudonymBasesRow, standIns := [], harness := (true, "b950f30ee8666a5bdf6bad1e7b5e6d1159efd070cf63fdf8b219103de513344f"), looks := false }, kinds := [], alts := [], laidByText := true, laidKinds := [.data, .data, .data], laidTests := true, laidLooks := .later }
def PseudonymBasesCardSaid : Prop := Claim7.holds Tryz.pinned (.plain (OpenSpec.ofChange pseudonymBasesSpec)) pseudonymBasesCard

/-- THE TIED CARD OF 'dominolaw48.PseudonymStatements'. -/
def pseudonymStatementsCard : Claim7 := { stood := { row := pseudonymStatementsRow, standIns := [], harness := (true, "b950f30ee8666a5bdf6bad1e7b5e6d1159efd070cf63fdf8b219103de513344f"), looks := false }, kinds := [], alts := [], laidByText := true, laidKinds := [.data, .data, .data], laidTests := true, laidLooks := .later }
def PseudonymStatementsCardSaid : Prop := Claim7.holds Tryz.pinned (.plain (OpenSpec.ofChange pseudonymStatementsSpec)) pseudonymStatementsCard

/-- THE TIED CARD OF 'dominolaw48.PseudonymOnce'. -/
def pseudonymOnceCard : Claim7 := { stood := { row := pseudonymOnceRow, standIns := [], harness := (true, "b950f30ee8666a5bdf6bad1e7b5e6d1159efd070cf63fdf8b219103de513344f"), looks := false }, kinds := [], alts := [], laidByText := true, laidKinds := [.data, .data, .data], laidTests := true, laidLooks := .later }
def PseudonymOnceCardSaid : Prop := Claim7.holds Tryz.pinned (.plain (OpenSpec.ofChange pseudonymOnceSpec)) pseudonymOnceCard

/-- THE TIED CARD OF 'dominolaw48.PseudonymHolds'. -/
def pseudonymHoldsCard : Claim7 := { stood := { row := pseudonymHoldsRow, standIns := [], harness := (true, "b950f30ee8666a5bdf6bad1e7b5e6d1159efd070cf63fdf8b219103de513344f"), looks := false }, kinds := [], alts := [], laidByText := true, laidKinds := [.data, .data, .data], laidTests := true, laidLooks := .later }
def PseudonymHoldsCardSaid : Prop := Claim7.holds Tryz.pinned (.plain (OpenSpec.ofChange pseudonymHoldsSpec)) pseudonymHoldsCard

/-- THE SECOND FORM's CARD OF 'dominolaw48.PseudonymBases'. -/
def pseudonymBasesUptoCard : Claim7 := { stood := { row := pseudonymBasesUptoRow, standIns := [], harness := (true, "b950f30ee8666a5bdf6bad1e7b5e6d1159efd070cf63fdf8b219103de513344f"), looks := false }, kinds := [], alts := [], laidByText := true, laidKinds := [.data, .data, .data], laidTests := true, laidLooks := .later }
def PseudonymBasesUptoCardSaid : Prop := Claim7.holds Tryz.pinned (.plain (OpenSpec.upto pseudonymBasesSpec)) pseudonymBasesUptoCard

/-- THE SECOND FORM's CARD OF 'dominolaw48.PseudonymStatements'. -/
def pseudonymStatementsUptoCard : Claim7 := { stood := { row := pseudonymStatementsUptoRow, standIns := [], harness := (true, "b950f30ee8666a5bdf6bad1e7b5e6d1159efd070cf63fdf8b219103de513344f"), looks := false }, kinds := [], alts := [], laidByText := true, laidKinds := [.data, .data, .data], laidTests := true, laidLooks := .later }
def PseudonymStatementsUptoCardSaid : Prop := Claim7.holds Tryz.pinned (.plain (OpenSpec.upto pseudonymStatementsSpec)) pseudonymStatementsUptoCard

/-- THE SECOND FORM's CARD OF 'dominolaw48.PseudonymOnce'. -/
def pseudonymOnceUptoCard : Claim7 := { stood := { row := pseudonymOnceUptoRow, standIns := [], harness := (true, "b950f30ee8666a5bdf6bad1e7b5e6d1159efd070cf63fdf8b219103de513344f"), looks := false }, kinds := [], alts := [], laidByText := true, laidKinds := [.data, .data, .data], laidTests := true, laidLooks := .later }
def PseudonymOnceUptoCardSaid : Prop := Claim7.holds Tryz.pinned (.plain (OpenSpec.upto pseudonymOnceSpec)) pseudonymOnceUptoCard

/-- THE SECOND FORM's CARD OF 'dominolaw48.PseudonymHolds'. -/
def pseudonymHoldsUptoCard : Claim7 := { stood := { row := pseudonymHoldsUptoRow, standIns := [], harness := (true, "b950f30ee8666a5bdf6bad1e7b5e6d1159efd070cf63fdf8b219103de513344f"), looks := false }, kinds := [], alts := [], laidByText := true, laidKinds := [.data, .data, .data], laidTests := true, laidLooks := .later }
def PseudonymHoldsUptoCardSaid : Prop := Claim7.holds Tryz.pinned (.plain (OpenSpec.upto pseudonymHoldsSpec)) pseudonymHoldsUptoCard
end Rows
end Go.Proofs.YtddoigmffkmpcaaGreatDoor
