/-
  DERIVED. GIVEN WITH THE SEED: THE CARDS: each row of YtmkghgoibnncbaaGreatDoorRows.lean that lists a variable, with what it lists TIED to the program's text (the seventh form; the later family's looks); each row that meets fmt, with fmt's text TOLD by the authors' own Lean function (tested against real Go, not proved from fmt's source: count such statements apart). THE CARD IS WHAT COUNTS. Prove the row's statement (the work); the ties are given (YtmkghgoibnncbaaGreatDoorTie.lean); close each card by the builder's one call (the guide's Derived/Test/ToyasCard.lean, 'card_holds'). Laid BY PROGRAM, IN A SANDBOX (cutbox-door.mjs). By AI agents, Wed Nov 11 2026. No macro, syntax, notation, axiom, sorry.
-/
import Derived.Test.YtmkghgoibnncbaaGreatDoorRows
import GoSem.ClaimSeven
namespace Go.Proofs.YtmkghgoibnncbaaGreatDoor
namespace Rows

/-- THE TIED CARD OF 'dominolaw50.ElgamalEncrypts'. -/
def elgamalEncryptsCard : Claim7 := { stood := { row := elgamalEncryptsRow, standIns := [], harness := (true, "ce52bf03ebd8a9724057ab0af0434163269a524ee75b388e846ad1996168089a"), looks := false }, kinds := [], alts := [], laidByText := true, laidKinds := [.data, .data, .data], laidTests := true, laidLooks := .later }
def ElgamalEncryptsCardSaid : Prop := Claim7.holds Tryz.pinned (.plain (OpenSpec.ofChange elgamalEncryptsSpec)) elgamalEncryptsCard

/-- THE TIED CARD OF 'dominolaw50.ElgamalDecrypts'. -/
def elgamalDecryptsCard : Claim7 := { stood := { row := elgamalDecryptsRow, standIns := [], harness := (true, "ce52bf03ebd8a9724057ab0af0434163269a524ee75b388e846ad1996168089a"), looks := false }, kinds := [], alts := [], laidByText := true, laidKinds := [.data, .data, .data], laidTests := true, laidLooks := .later }
def ElgamalDecryptsCardSaid : Prop := Claim7.holds Tryz.pinned (.plain (OpenSpec.ofChange elgamalDecryptsSpec)) elgamalDecryptsCard

/-- THE TIED CARD OF 'dominolaw50.ElgamalStates'. -/
def elgamalStatesCard : Claim7 := { stood := { row := elgamalStatesRow, standIns := [], harness := (true, "ce52bf03ebd8a9724057ab0af0434163269a524ee75b388e846ad1996168089a"), looks := false }, kinds := [], alts := [], laidByText := true, laidKinds := [.data, .data, .data], laidTests := true, laidLooks := .later }
def ElgamalStatesCardSaid : Prop := Claim7.holds Tryz.pinned (.plain (OpenSpec.ofChange elgamalStatesSpec)) elgamalStatesCard

/-- THE TIED CARD OF 'dominolaw50.ElgamalHolds'. -/
def elgamalHoldsCard : Claim7 := { stood := { row := elgamalHoldsRow, standIns := [], harness := (true, "ce52bf03ebd8a9724057ab0af0434163269a524ee75b388e846ad1996168089a"), looks := false }, kinds := [], alts := [], laidByText := true, laidKinds := [.data, .data, .data], laidTests := true, laidLooks := .later }
def ElgamalHoldsCardSaid : Prop := Claim7.holds Tryz.pinned (.plain (OpenSpec.ofChange elgamalHoldsSpec)) elgamalHoldsCard

/-- THE TIED CARD OF 'dominolaw50.ElgamalOpens'. -/
def elgamalOpensCard : Claim7 := { stood := { row := elgamalOpensRow, standIns := [], harness := (true, "ce52bf03ebd8a9724057ab0af0434163269a524ee75b388e846ad1996168089a"), looks := false }, kinds := [], alts := [], laidByText := true, laidKinds := [.data, .data, .data], laidTests := true, laidLooks := .later }
def ElgamalOpensCardSaid : Prop := Claim7.holds Tryz.pinned (.plain (OpenSpec.ofChange elgamalOpensSpec)) elgamalOpensCard

/-- THE TIED CARD OF 'dominolaw50.ElgamalRefreshes'. -/
def elgamalRefreshesCard : Claim7 := { stood := { row := elgamalRefreshesRow, standIns := [], harness := (true, "ce52bf03ebd8a9724057ab0af0434163269a524ee75b388e846ad1996168089a"), looks := false }, kinds := [], alts := [], laidByText := true, laidKinds := [.data, .data, .data], laidTests := true, laidLooks := .later }
def ElgamalRefreshesCardSaid : Prop := Claim7.holds Tryz.pinned (.plain (OpenSpec.ofChange elgamalRefreshesSpec)) elgamalRefreshesCard

/-- THE TIED CARD OF 'dominolaw50.ElgamalBack'. -/
def elgamalBackCard : Claim7 := { stood := { row := elgamalBackRow, standIns := [], harness := (true, "ce52bf03ebd8a9724057ab0af0434163269a524ee75b388e846ad1996168089a"), looks := false }, kinds := [], alts := [], laidByText := true, laidKinds := [.data, .data, .data], laidTests := true, laidLooks := .later }
def ElgamalBackCardSaid : Prop := Claim7.holds Tryz.pinned (.plain (OpenSpec.ofChange elgamalBackSpec)) elgamalBackCard

/-- THE TIED CARD OF 'dominolaw26.IntcommitKeys'. -/
def intcommitKeysCard : Claim7 := { stood := { row := intcommitKeysRow, standIns := [], harness := (true, "ce52bf03ebd8a9724057ab0af0434163269a524ee75b388e846ad1996168089a"), looks := false }, kinds := [], alts := [], laidByText := true, laidKinds := [.data, .data, .data], laidTests := true, laidLooks := .later }
def IntcommitKeysCardSaid : Prop := Claim7.holds Tryz.pinned (.plain (OpenSpec.ofChange intcommitKeysSpec)) intcommitKeysCard

/-- THE SECOND FORM's CARD OF 'dominolaw50.ElgamalEncrypts'. -/
def elgamalEncryptsUptoCard : Claim7 := { stood := { row := elgamalEncryptsUptoRow, standIns := [], harness := (true, "ce52bf03ebd8a9724057ab0af0434163269a524ee75b388e846ad1996168089a"), looks := false }, kinds := [], alts := [], laidByText := true, laidKinds := [.data, .data, .data], laidTests := true, laidLooks := .later }
def ElgamalEncryptsUptoCardSaid : Prop := Claim7.holds Tryz.pinned (.plain (OpenSpec.upto elgamalEncryptsSpec)) elgamalEncryptsUptoCard

/-- THE SECOND FORM's CARD OF 'dominolaw50.ElgamalDecrypts'. -/
def elgamalDecryptsUptoCard : Claim7 := { stood := { row := elgamalDecryptsUptoRow, standIns := [], harness := (true, "ce52bf03ebd8a9724057ab0af0434163269a524ee75b388e846ad1996168089a"), looks := false }, kinds := [], alts := [], laidByText := true, laidKinds := [.data, .data, .data], laidTests := true, laidLooks := .later }
def ElgamalDecryptsUptoCardSaid : Prop := Claim7.holds Tryz.pinned (.plain (OpenSpec.upto elgamalDecryptsSpec)) elgamalDecryptsUptoCard

/-- THE SECOND FORM's CARD OF 'dominolaw50.ElgamalStates'. -/
def elgamalStatesUptoCard : Claim7 := { stood := { row := elgamalStatesUptoRow, standIns := [], harness := (true, "ce52bf03ebd8a9724057ab0af0434163269a524ee75b388e846ad1996168089a"), looks := false }, kinds := [], alts := [], laidByText := true, laidKinds := [.data, .data, .data], laidTests := true, laidLooks := .later }
def ElgamalStatesUptoCardSaid : Prop := Claim7.holds Tryz.pinned (.plain (OpenSpec.upto elgamalStatesSpec)) elgamalStatesUptoCard

/-- THE SECOND FORM's CARD OF 'dominolaw50.ElgamalHolds'. -/
def elgamalHoldsUptoCard : Claim7 := { stood := { row := elgamalHoldsUptoRow, standIns := [], harness := (true, "ce52bf03ebd8a9724057ab0af0434163269a524ee75b388e846ad1996168089a"), looks := false }, kinds := [], alts := [], laidByText := true, laidKinds := [.data, .data, .data], laidTests := true, laidLooks := .later }
def ElgamalHoldsUptoCardSaid : Prop := Claim7.holds Tryz.pinned (.plain (OpenSpec.upto elgamalHoldsSpec)) elgamalHoldsUptoCard

/-- THE SECOND FORM's CARD OF 'dominolaw50.ElgamalOpens'. -/
def elgamalOpensUptoCard : Claim7 := { stood := { row := elgamalOpensUptoRow, standIns := [], harness := (true, "ce52bf03ebd8a9724057ab0af0434163269a524ee75b388e846ad1996168089a"), looks := false }, kinds := [], alts := [], laidByText := true, laidKinds := [.data, .data, .data], laidTests := true, laidLooks := .later }
def ElgamalOpensUptoCardSaid : Prop := Claim7.holds Tryz.pinned (.plain (OpenSpec.upto elgamalOpensSpec)) elgamalOpensUptoCard

/-- THE SECOND FORM's CARD OF 'dominolaw50.ElgamalRefreshes'. -/
def elgamalRefreshesUptoCard : Claim7 := { stood := { row := elgamalRefreshesUptoRow, standIns := [], harness := (true, "ce52bf03ebd8a9724057ab0af0434163269a524ee75b388e846ad1996168089a"), looks := false }, kinds := [], alts := [], laidByText := true, laidKinds := [.data, .data, .data], laidTests := true, laidLooks := .later }
def ElgamalRefreshesUptoCardSaid : Prop := Claim7.holds Tryz.pinned (.plain (OpenSpec.upto elgamalRefreshesSpec)) elgamalRefreshesUptoCard

/-- THE SECOND FORM's CARD OF 'dominolaw50.ElgamalBack'. -/
def elgamalBackUptoCard : Claim7 := { stood := { row := elgamalBackUptoRow, standIns := [], harness := (true, "ce52bf03ebd8a9724057ab0af0434163269a524ee75b388e846ad1996168089a"), looks := false }, kinds := [], alts := [], laidByText := true, laidKinds := [.data, .data, .data], laidTests := true, laidLooks := .later }
def ElgamalBackUptoCardSaid : Prop := Claim7.holds Tryz.pinned (.plain (OpenSpec.upto elgamalBackSpec)) elgamalBackUptoCard

/-- THE SECOND FORM's CARD OF 'dominolaw26.IntcommitKeys'. -/
def intcommitKeysUptoCard : Claim7 := { stood := { row := intcommitKeysUptoRow, standIns := [], harness := (true, "ce52bf03ebd8a9724057ab0af0434163269a524ee75b388e846ad1996168089a"), looks := false }, kinds := [], alts := [], laidByText := true, laidKinds := [.data, .data, .data], laidTests := true, laidLooks := .later }
def IntcommitKeysUptoCardSaid : Prop := Claim7.holds Tryz.pinned (.plain (OpenSpec.upto intcommitKeysSpec)) intcommitKeysUptoCard
end Rows
end Go.Proofs.YtmkghgoibnncbaaGreatDoor
