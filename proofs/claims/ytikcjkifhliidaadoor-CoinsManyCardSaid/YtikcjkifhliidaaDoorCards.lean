/-
  DERIVED. GIVEN WITH THE SEED: THE CARDS: each row of YtikcjkifhliidaaDoorRows.lean that lists a variable, with what it lists TIED to the program's text (the seventh form; the later family's looks); each row that meets fmt, with fmt's text TOLD by the authors' own Lean function (tested against real Go, not proved from fmt's source: count such statements apart). THE CARD IS WHAT COUNTS. Prove the row's statement (the work); the ties are given (YtikcjkifhliidaaDoorTie.lean); close each card by the builder's one call (the guide's Derived/Test/ToyasCard.lean, 'card_holds'). Laid BY PROGRAM, IN A SANDBOX (cutbox-door.mjs). By AI agents, Wed Nov 11 2026. No macro, syntax, notation, axiom, sorry.
-/
import Derived.Test.YtikcjkifhliidaaDoorRows
import GoSem.ClaimSeven
namespace Go.Proofs.YtikcjkifhliidaaDoor
namespace Rows

/-- THE TIED CARD OF 'dominolaw06.CoinsMakes'. -/
def coinsMakesCard : Claim7 := { stood := { row := coinsMakesRow, standIns := [], harness := (true, "96d01e19c5e0070a341b4810aa07c00982ca620c0b158c4d57b6af8c2a0abae2"), looks := false }, kinds := [], alts := [], laidByText := true, laidKinds := [.data, .data, .data], laidTests := true, laidLooks := .later }
def CoinsMakesCardSaid : Prop := Claim7.holds Tryd.pinned (.plain (OpenSpec.ofChange coinsMakesSpec)) coinsMakesCard

/-- THE TIED CARD OF 'dominolaw06.CoinsDraws'. -/
def coinsDrawsCard : Claim7 := { stood := { row := coinsDrawsRow, standIns := [], harness := (true, "96d01e19c5e0070a341b4810aa07c00982ca620c0b158c4d57b6af8c2a0abae2"), looks := false }, kinds := [], alts := [], laidByText := true, laidKinds := [.data, .data, .data], laidTests := true, laidLooks := .later }
def CoinsDrawsCardSaid : Prop := Claim7.holds Tryd.pinned (.plain (OpenSpec.ofChange coinsDrawsSpec)) coinsDrawsCard

/-- THE TIED CARD OF 'dominolaw06.CoinsSigned'. -/
def coinsSignedCard : Claim7 := { stood := { row := coinsSignedRow, standIns := [], harness := (true, "96d01e19c5e0070a341b4810aa07c00982ca620c0b158c4d57b6af8c2a0abae2"), looks := false }, kinds := [], alts := [], laidByText := true, laidKinds := [.data, .data, .data], laidTests := true, laidLooks := .later }
def CoinsSignedCardSaid : Prop := Claim7.holds Tryd.pinned (.plain (OpenSpec.ofChange coinsSignedSpec)) coinsSignedCard

/-- THE TIED CARD OF 'dominolaw06.CoinsExplicit'. -/
def coinsExplicitCard : Claim7 := { stood := { row := coinsExplicitRow, standIns := [], harness := (true, "96d01e19c5e0070a341b4810aa07c00982ca620c0b158c4d57b6af8c2a0abae2"), looks := false }, kinds := [], alts := [], laidByText := true, laidKinds := [.data, .data, .data], laidTests := true, laidLooks := .later }
def CoinsExplicitCardSaid : Prop := Claim7.holds Tryd.pinned (.plain (OpenSpec.ofChange coinsExplicitSpec)) coinsExplicitCard

/-- THE TIED CARD OF 'dominolaw06.CoinsSpread'. -/
def coinsSpreadCard : Claim7 := { stood := { row := coinsSpreadRow, standIns := [], harness := (true, "96d01e19c5e0070a341b4810aa07c00982ca620c0b158c4d57b6af8c2a0abae2"), looks := false }, kinds := [], alts := [], laidByText := true, laidKinds := [.data, .data, .data], laidTests := true, laidLooks := .later }
def CoinsSpreadCardSaid : Prop := Claim7.holds Tryd.pinned (.plain (OpenSpec.ofChange coinsSpreadSpec)) coinsSpreadCard

/-- THE TIED CARD OF 'dominolaw06.CoinsSeeds'. -/
def coinsSeedsCard : Claim7 := { stood := { row := coinsSeedsRow, standIns := [], harness := (true, "96d01e19c5e0070a341b4810aa07c00982ca620c0b158c4d57b6af8c2a0abae2"), looks := false }, kinds := [], alts := [], laidByText := true, laidKinds := [.data, .data, .data], laidTests := true, laidLooks := .later }
def CoinsSeedsCardSaid : Prop := Claim7.holds Tryd.pinned (.plain (OpenSpec.ofChange coinsSeedsSpec)) coinsSeedsCard

/-- THE TIED CARD OF 'dominolaw06.CoinsMany'. -/
def coinsManyCard : Claim7 := { stood := { row := coinsManyRow, standIns := [], harness := (true, "96d01e19c5e0070a341b4810aa07c00982ca620c0b158c4d57b6af8c2a0abae2"), looks := false }, kinds := [], alts := [], laidByText := true, laidKinds := [.data, .data, .data], laidTests := true, laidLooks := .later }
def CoinsManyCardSaid : Prop := Claim7.holds Tryd.pinned (.plain (OpenSpec.ofChange coinsManySpec)) coinsManyCard

/-- THE TIED CARD OF 'dominolaw06.CoinsRepeat'. -/
def coinsRepeatCard : Claim7 := { stood := { row := coinsRepeatRow, standIns := [], harness := (true, "96d01e19c5e0070a341b4810aa07c00982ca620c0b158c4d57b6af8c2a0abae2"), looks := false }, kinds := [], alts := [], laidByText := true, laidKinds := [.data, .data, .data], laidTests := true, laidLooks := .later }
def CoinsRepeatCardSaid : Prop := Claim7.holds Tryd.pinned (.plain (OpenSpec.ofChange coinsRepeatSpec)) coinsRepeatCard

/-- THE SECOND FORM's CARD OF 'dominolaw06.CoinsMakes'. -/
def coinsMakesUptoCard : Claim7 := { stood := { row := coinsMakesUptoRow, standIns := [], harness := (true, "96d01e19c5e0070a341b4810aa07c00982ca620c0b158c4d57b6af8c2a0abae2"), looks := false }, kinds := [], alts := [], laidByText := true, laidKinds := [.data, .data, .data], laidTests := true, laidLooks := .later }
def CoinsMakesUptoCardSaid : Prop := Claim7.holds Tryd.pinned (.plain (OpenSpec.upto coinsMakesSpec)) coinsMakesUptoCard

/-- THE SECOND FORM's CARD OF 'dominolaw06.CoinsDraws'. -/
def coinsDrawsUptoCard : Claim7 := { stood := { row := coinsDrawsUptoRow, standIns := [], harness := (true, "96d01e19c5e0070a341b4810aa07c00982ca620c0b158c4d57b6af8c2a0abae2"), looks := false }, kinds := [], alts := [], laidByText := true, laidKinds := [.data, .data, .data], laidTests := true, laidLooks := .later }
def CoinsDrawsUptoCardSaid : Prop := Claim7.holds Tryd.pinned (.plain (OpenSpec.upto coinsDrawsSpec)) coinsDrawsUptoCard

/-- THE SECOND FORM's CARD OF 'dominolaw06.CoinsSigned'. -/
def coinsSignedUptoCard : Claim7 := { stood := { row := coinsSignedUptoRow, standIns := [], harness := (true, "96d01e19c5e0070a341b4810aa07c00982ca620c0b158c4d57b6af8c2a0abae2"), looks := false }, kinds := [], alts := [], laidByText := true, laidKinds := [.data, .data, .data], laidTests := true, laidLooks := .later }
def CoinsSignedUptoCardSaid : Prop := Claim7.holds Tryd.pinned (.plain (OpenSpec.upto coinsSignedSpec)) coinsSignedUptoCard

/-- THE SECOND FORM's CARD OF 'dominolaw06.CoinsExplicit'. -/
def coinsExplicitUptoCard : Claim7 := { stood := { row := coinsExplicitUptoRow, standIns := [], harness := (true, "96d01e19c5e0070a341b4810aa07c00982ca620c0b158c4d57b6af8c2a0abae2"), looks := false }, kinds := [], alts := [], laidByText := true, laidKinds := [.data, .data, .data], laidTests := true, laidLooks := .later }
def CoinsExplicitUptoCardSaid : Prop := Claim7.holds Tryd.pinned (.plain (OpenSpec.upto coinsExplicitSpec)) coinsExplicitUptoCard

/-- THE SECOND FORM's CARD OF 'dominolaw06.CoinsSpread'. -/
def coinsSpreadUptoCard : Claim7 := { stood := { row := coinsSpreadUptoRow, standIns := [], harness := (true, "96d01e19c5e0070a341b4810aa07c00982ca620c0b158c4d57b6af8c2a0abae2"), looks := false }, kinds := [], alts := [], laidByText := true, laidKinds := [.data, .data, .data], laidTests := true, laidLooks := .later }
def CoinsSpreadUptoCardSaid : Prop := Claim7.holds Tryd.pinned (.plain (OpenSpec.upto coinsSpreadSpec)) coinsSpreadUptoCard

/-- THE SECOND FORM's CARD OF 'dominolaw06.CoinsSeeds'. -/
def coinsSeedsUptoCard : Claim7 := { stood := { row := coinsSeedsUptoRow, standIns := [], harness := (true, "96d01e19c5e0070a341b4810aa07c00982ca620c0b158c4d57b6af8c2a0abae2"), looks := false }, kinds := [], alts := [], laidByText := true, laidKinds := [.data, .data, .data], laidTests := true, laidLooks := .later }
def CoinsSeedsUptoCardSaid : Prop := Claim7.holds Tryd.pinned (.plain (OpenSpec.upto coinsSeedsSpec)) coinsSeedsUptoCard

/-- THE SECOND FORM's CARD OF 'dominolaw06.CoinsMany'. -/
def coinsManyUptoCard : Claim7 := { stood := { row := coinsManyUptoRow, standIns := [], harness := (true, "96d01e19c5e0070a341b4810aa07c00982ca620c0b158c4d57b6af8c2a0abae2"), looks := false }, kinds := [], alts := [], laidByText := true, laidKinds := [.data, .data, .data], laidTests := true, laidLooks := .later }
def CoinsManyUptoCardSaid : Prop := Claim7.holds Tryd.pinned (.plain (OpenSpec.upto coinsManySpec)) coinsManyUptoCard

/-- THE SECOND FORM's CARD OF 'dominolaw06.CoinsRepeat'. -/
def coinsRepeatUptoCard : Claim7 := { stood := { row := coinsRepeatUptoRow, standIns := [], harness := (true, "96d01e19c5e0070a341b4810aa07c00982ca620c0b158c4d57b6af8c2a0abae2"), looks := false }, kinds := [], alts := [], laidByText := true, laidKinds := [.data, .data, .data], laidTests := true, laidLooks := .later }
def CoinsRepeatUptoCardSaid : Prop := Claim7.holds Tryd.pinned (.plain (OpenSpec.upto coinsRepeatSpec)) coinsRepeatUptoCard
end Rows
end Go.Proofs.YtikcjkifhliidaaDoor
