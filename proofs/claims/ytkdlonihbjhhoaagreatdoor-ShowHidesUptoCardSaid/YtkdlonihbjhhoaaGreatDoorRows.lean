/-
  NARROWER THAN 'FOR EVERY INPUT', by the rows' own cells (each row's printed sentence says how): ShowRandomizes: laid · ShowStatements: laid · ShowWitnesses: laid · ShowSigns: laid · ShowHides: laid · ShowCredentials: laid · ShowHolds: laid.
  DERIVED. THE GIVEN ROWS OF THIS SEAT. 7 by the template 'for every input the law returns true; each argument reads behind the call as it read before'; 0 by the template 'total and deterministic' (their statements: YtkdlonihbjhhoaaGreatDoorTotals.lean).
  GIVEN WITH THE SEED: the statements are not yours to turn. If you find one false, say at which input.
  Laid BY PROGRAM, IN A SANDBOX (cutbox-rows.mjs): the forced cells as the released guide's own fill.sh prints them over the translation 1cb5d1e2edec8da7… (all of the seat's roots in one cut). By AI agents, Wed Nov 11 2026. No macro, syntax, notation, axiom, sorry.
-/
import Derived.Test.YtkdlonihbjhhoaaGreatDoorChecked
import GoSem.Claim
import GoSem.ClaimJoined
import GoSem.ClaimMapViews
import Derived.JoinedTies
import Derived.KernelRfl
namespace Go.Proofs.YtkdlonihbjhhoaaGreatDoor
/- THE CELL 'sum', in the pinned program and in every row, IS THE sha256 OF THE DUMP (.gsa) THAT YtkdlonihbjhhoaaGreatDoorProg.lean LOADS. Nothing in Lean hashes anything: it is a label: what it is worth is what the hold of that sum in a sandbox is worth. -/
noncomputable def Tryz.pinned : Pinned := { name := "ytkdlonihbjhhoaagreatdoor", sum := "1cb5d1e2edec8da7d9b230d6b1c6b23de86c6d47fceb285f2d8e351ead345676", checked := Tryz.checked }
namespace Rows
def none {H : Type} : Left H := { results := [], args := [] }

/- WHAT THE LISTED PACKAGE-LEVEL VARIABLES READ AS WHEN THE CALL BEGINS. Each datum BY PROGRAM (the guide's laid-datum.mjs) off the statement by which the dump's own 'gosem.cut.vars' lays the variable. In a bare row this is a premise. The card (YtkdlonihbjhhoaaGreatDoorCards.lean) ties it to the program's text. -/
def laid_math_bits_deBruijn32tab {H : Type} : DataW H := .agg [.lit (.int .u8 0), .lit (.int .u8 1), .lit (.int .u8 28), .lit (.int .u8 2), .lit (.int .u8 29), .lit (.int .u8 14), .lit (.int .u8 24), .lit (.int .u8 3), .lit (.int .u8 30), .lit (.int .u8 22), .lit (.int .u8 20), .lit (.int .u8 15), .lit (.int .u8 25), .lit (.int .u8 17), .lit (.int .u8 4), .lit (.int .u8 8), .lit (.int .u8 31), .lit (.int .u8 27), .lit (.int .u8 13), .lit (.int .u8 23), .lit (.int .u8 21), .lit (.int .u8 19), .lit (.int .u8 16), .lit (.int .u8 7), .lit (.int .u8 26), .lit (.int .u8 12), .lit (.int .u8 18), .lit (.int .u8 6), .lit (.int .u8 11), .lit (.int .u8 5), .lit (.int .u8 10), .lit (.int .u8 9)]
def laid_math_bits_deBruijn64tab {H : Type} : DataW H := .agg [.lit (.int .u8 0), .lit (.int .u8 1), .lit (.int .u8 56), .lit (.int .u8 2), .lit (.int .u8 57), .lit (.int .u8 49), .lit (.int .u8 28), .lit (.int .u8 3), .lit (.int .u8 61), .lit (.int .u8 58), .lit (.int .u8 42), .lit (.int .u8 50), .lit (.int .u8 38), .lit (.int .u8 29), .lit (.int .u8 17), .lit (.int .u8 4), .lit (.int .u8 62), .lit (.int .u8 47), .lit (.int .u8 59), .lit (.int .u8 36), .lit (.int .u8 45), .lit (.int .u8 43), .lit (.int .u8 51), .lit (.int .u8 22), .lit (.int .u8 53), .lit (.int .u8 39), .lit (.int .u8 33), .lit (.int .u8 30), .lit (.int .u8 24), .lit (.int .u8 18), .lit (.int .u8 12), .lit (.int .u8 5), .lit (.int .u8 63), .lit (.int .u8 55), .lit (.int .u8 48), .lit (.int .u8 27), .lit (.int .u8 60), .lit (.int .u8 41), .lit (.int .u8 37), .lit (.int .u8 16), .lit (.int .u8 46), .lit (.int .u8 35), .lit (.int .u8 44), .lit (.int .u8 21), .lit (.int .u8 52), .lit (.int .u8 32), .lit (.int .u8 23), .lit (.int .u8 11), .lit (.int .u8 54), .lit (.int .u8 26), .lit (.int .u8 40), .lit (.int .u8 15), .lit (.int .u8 34), .lit (.int .u8 20), .lit (.int .u8 31), .lit (.int .u8 10), .lit (.int .u8 25), .lit (.int .u8 14), .lit (.int .u8 19), .lit (.int .u8 9), .lit (.int .u8 13), .lit (.int .u8 8), .lit (.int .u8 7), .lit (.int .u8 6)]
def laid_internal_strconv_uint64pow10 {H : Type} : DataW H := .agg [.lit (.int .u64 1), .lit (.int .u64 10), .lit (.int .u64 100), .lit (.int .u64 1000), .lit (.int .u64 10000), .lit (.int .u64 100000), .lit (.int .u64 1000000), .lit (.int .u64 10000000), .lit (.int .u64 100000000), .lit (.int .u64 1000000000), .lit (.int .u64 10000000000), .lit (.int .u64 100000000000), .lit (.int .u64 1000000000000), .lit (.int .u64 10000000000000), .lit (.int .u64 100000000000000), .lit (.int .u64 1000000000000000), .lit (.int .u64 10000000000000000), .lit (.int .u64 100000000000000000), .lit (.int .u64 1000000000000000000), .lit (.int .u64 10000000000000000000)]

/-- 'dominolaw32.ShowRandomizes': WHATEVER THE INPUT: true; the input reads as it did. -/
def showRandomizesSpec : ChangeSpec := { name := "showRandomizes", fn := fun _ => fun
  | [d1, d2, d3] => { results := [.lit (.bool true)], args := [d1, d2, d3] }
  | _ => none }
def showRandomizesRow : OpenClaim := { program := "ytkdlonihbjhhoaagreatdoor", sum := "1cb5d1e2edec8da7d9b230d6b1c6b23de86c6d47fceb285f2d8e351ead345676", func := "domino/dominolaw32.ShowRandomizes", spec := "showRandomizes", inPlace := ["internal/bytealg.abigen_runtime_cmpstring"], unfollowed := true, recurses := true, named := ["math/bits.deBruijn64tab", "math/bits.divideError", "math/bits.overflowError", "internal/strconv.uint64pow10", "math/bits.deBruijn32tab"], apart := false, laid := [("math/bits.deBruijn32tab", laid_math_bits_deBruijn32tab), ("math/bits.deBruijn64tab", laid_math_bits_deBruijn64tab), ("internal/strconv.uint64pow10", laid_internal_strconv_uint64pow10)] }
def ShowRandomizesSaid : Prop := showRandomizesRow.holds Tryz.pinned (OpenSpec.ofChange showRandomizesSpec)

/-- ITS FALSE NEIGHBOUR: 'it returns false'. Refute it at one input. -/
def showRandomizesWrong : ChangeSpec := { name := "showRandomizes", fn := fun _ => fun
  | [d1, d2, d3] => { results := [.lit (.bool false)], args := [d1, d2, d3] }
  | _ => none }
def ShowRandomizesWrongFalsely : Prop := showRandomizesRow.holds Tryz.pinned (OpenSpec.ofChange showRandomizesWrong)

/-- 'dominolaw32.ShowStatements': WHATEVER THE INPUT: true; the input reads as it did. -/
def showStatementsSpec : ChangeSpec := { name := "showStatements", fn := fun _ => fun
  | [d1, d2, d3] => { results := [.lit (.bool true)], args := [d1, d2, d3] }
  | _ => none }
def showStatementsRow : OpenClaim := { program := "ytkdlonihbjhhoaagreatdoor", sum := "1cb5d1e2edec8da7d9b230d6b1c6b23de86c6d47fceb285f2d8e351ead345676", func := "domino/dominolaw32.ShowStatements", spec := "showStatements", inPlace := ["internal/bytealg.abigen_runtime_cmpstring"], unfollowed := true, recurses := true, named := ["math/bits.deBruijn64tab", "math/bits.divideError", "math/bits.overflowError", "internal/strconv.uint64pow10", "math/bits.deBruijn32tab"], apart := false, laid := [("math/bits.deBruijn32tab", laid_math_bits_deBruijn32tab), ("math/bits.deBruijn64tab", laid_math_bits_deBruijn64tab), ("internal/strconv.uint64pow10", laid_internal_strconv_uint64pow10)] }
def ShowStatementsSaid : Prop := showStatementsRow.holds Tryz.pinned (OpenSpec.ofChange showStatementsSpec)

/-- ITS FALSE NEIGHBOUR: 'it returns false'. Refute it at one input. -/
def showStatementsWrong : ChangeSpec := { name := "showStatements", fn := fun _ => fun
  | [d1, d2, d3] => { results := [.lit (.bool false)], args := [d1, d2, d3] }
  | _ => none }
def ShowStatementsWrongFalsely : Prop := showStatementsRow.holds Tryz.pinned (OpenSpec.ofChange showStatementsWrong)

/-- 'dominolaw32.ShowWitnesses': WHATEVER THE INPUT: true; the input reads as it did. -/
def showWitnessesSpec : ChangeSpec := { name := "showWitnesses", fn := fun _ => fun
  | [d1, d2] => { results := [.lit (.bool true)], args := [d1, d2] }
  | _ => none }
def showWitnessesRow : OpenClaim := { program := "ytkdlonihbjhhoaagreatdoor", sum := "1cb5d1e2edec8da7d9b230d6b1c6b23de86c6d47fceb285f2d8e351ead345676", func := "domino/dominolaw32.ShowWitnesses", spec := "showWitnesses", inPlace := ["internal/bytealg.abigen_runtime_cmpstring"], unfollowed := true, recurses := true, named := ["math/bits.deBruijn64tab", "math/bits.divideError", "math/bits.overflowError", "internal/strconv.uint64pow10", "math/bits.deBruijn32tab"], apart := false, laid := [("math/bits.deBruijn32tab", laid_math_bits_deBruijn32tab), ("math/bits.deBruijn64tab", laid_math_bits_deBruijn64tab), ("internal/strconv.uint64pow10", laid_internal_strconv_uint64pow10)] }
def ShowWitnessesSaid : Prop := showWitnessesRow.holds Tryz.pinned (OpenSpec.ofChange showWitnessesSpec)

/-- ITS FALSE NEIGHBOUR: 'it returns false'. Refute it at one input. -/
def showWitnessesWrong : ChangeSpec := { name := "showWitnesses", fn := fun _ => fun
  | [d1, d2] => { results := [.lit (.bool false)], args := [d1, d2] }
  | _ => none }
def ShowWitnessesWrongFalsely : Prop := showWitnessesRow.holds Tryz.pinned (OpenSpec.ofChange showWitnessesWrong)

/-- 'dominolaw32.ShowSigns': WHATEVER THE INPUT: true; the input reads as it did. -/
def showSignsSpec : ChangeSpec := { name := "showSigns", fn := fun _ => fun
  | [d1, d2, d3] => { results := [.lit (.bool true)], args := [d1, d2, d3] }
  | _ => none }
def showSignsRow : OpenClaim := { program := "ytkdlonihbjhhoaagreatdoor", sum := "1cb5d1e2edec8da7d9b230d6b1c6b23de86c6d47fceb285f2d8e351ead345676", func := "domino/dominolaw32.ShowSigns", spec := "showSigns", inPlace := ["internal/bytealg.abigen_runtime_cmpstring"], unfollowed := true, recurses := true, named := ["math/bits.deBruijn64tab", "math/bits.divideError", "math/bits.overflowError", "internal/strconv.uint64pow10", "math/bits.deBruijn32tab"], apart := false, laid := [("math/bits.deBruijn32tab", laid_math_bits_deBruijn32tab), ("math/bits.deBruijn64tab", laid_math_bits_deBruijn64tab), ("internal/strconv.uint64pow10", laid_internal_strconv_uint64pow10)] }
def ShowSignsSaid : Prop := showSignsRow.holds Tryz.pinned (OpenSpec.ofChange showSignsSpec)

/-- ITS FALSE NEIGHBOUR: 'it returns false'. Refute it at one input. -/
def showSignsWrong : ChangeSpec := { name := "showSigns", fn := fun _ => fun
  | [d1, d2, d3] => { results := [.lit (.bool false)], args := [d1, d2, d3] }
  | _ => none }
def ShowSignsWrongFalsely : Prop := showSignsRow.holds Tryz.pinned (OpenSpec.ofChange showSignsWrong)

/-- 'dominolaw32.ShowHides': WHATEVER THE INPUT: true; the input reads as it did. -/
def showHidesSpec : ChangeSpec := { name := "showHides", fn := fun _ => fun
  | [d1, d2, d3] => { results := [.lit (.bool true)], args := [d1, d2, d3] }
  | _ => none }
def showHidesRow : OpenClaim := { program := "ytkdlonihbjhhoaagreatdoor", sum := "1cb5d1e2edec8da7d9b230d6b1c6b23de86c6d47fceb285f2d8e351ead345676", func := "domino/dominolaw32.ShowHides", spec := "showHides", inPlace := ["internal/bytealg.abigen_runtime_cmpstring"], unfollowed := true, recurses := true, named := ["math/bits.deBruijn64tab", "math/bits.divideError", "math/bits.overflowError", "internal/strconv.uint64pow10", "math/bits.deBruijn32tab"], apart := false, laid := [("math/bits.deBruijn32tab", laid_math_bits_deBruijn32tab), ("math/bits.deBruijn64tab", laid_math_bits_deBruijn64tab), ("internal/strconv.uint64pow10", laid_internal_strconv_uint64pow10)] }
def ShowHidesSaid : Prop := showHidesRow.holds Tryz.pinned (OpenSpec.ofChange showHidesSpec)

/-- ITS FALSE NEIGHBOUR: 'it returns false'. Refute it at one input. -/
def showHidesWrong : ChangeSpec := { name := "showHides", fn := fun _ => fun
  | [d1, d2, d3] => { results := [.lit (.bool false)], args := [d1, d2, d3] }
  | _ => none }
def ShowHidesWrongFalsely : Prop := showHidesRow.holds Tryz.pinned (OpenSpec.ofChange showHidesWrong)

/-- 'dominolaw32.ShowCredentials': WHATEVER THE INPUT: true; the input reads as it did. -/
def showCredentialsSpec : ChangeSpec := { name := "showCredentials", fn := fun _ => fun
  | [d1, d2, d3] => { results := [.lit (.bool true)], args := [d1, d2, d3] }
  | _ => none }
def showCredentialsRow : OpenClaim := { program := "ytkdlonihbjhhoaagreatdoor", sum := "1cb5d1e2edec8da7d9b230d6b1c6b23de86c6d47fceb285f2d8e351ead345676", func := "domino/dominolaw32.ShowCredentials", spec := "showCredentials", inPlace := ["internal/bytealg.abigen_runtime_cmpstring"], unfollowed := true, recurses := true, named := ["math/bits.deBruijn64tab", "math/bits.divideError", "math/bits.overflowError", "internal/strconv.uint64pow10", "math/bits.deBruijn32tab"], apart := false, laid := [("math/bits.deBruijn32tab", laid_math_bits_deBruijn32tab), ("math/bits.deBruijn64tab", laid_math_bits_deBruijn64tab), ("internal/strconv.uint64pow10", laid_internal_strconv_uint64pow10)] }
def ShowCredentialsSaid : Prop := showCredentialsRow.holds Tryz.pinned (OpenSpec.ofChange showCredentialsSpec)

/-- ITS FALSE NEIGHBOUR: 'it returns false'. Refute it at one input. -/
def showCredentialsWrong : ChangeSpec := { name := "showCredentials", fn := fun _ => fun
  | [d1, d2, d3] => { results := [.lit (.bool false)], args := [d1, d2, d3] }
  | _ => none }
def ShowCredentialsWrongFalsely : Prop := showCredentialsRow.holds Tryz.pinned (OpenSpec.ofChange showCredentialsWrong)

/-- 'dominolaw32.ShowHolds': WHATEVER THE INPUT: true; the input reads as it did. -/
def showHoldsSpec : ChangeSpec := { name := "showHolds", fn := fun _ => fun
  | [d1, d2, d3] => { results := [.lit (.bool true)], args := [d1, d2, d3] }
  | _ => none }
def showHoldsRow : OpenClaim := { program := "ytkdlonihbjhhoaagreatdoor", sum := "1cb5d1e2edec8da7d9b230d6b1c6b23de86c6d47fceb285f2d8e351ead345676", func := "domino/dominolaw32.ShowHolds", spec := "showHolds", inPlace := ["internal/bytealg.abigen_runtime_cmpstring"], unfollowed := true, recurses := true, named := ["math/bits.deBruijn64tab", "math/bits.divideError", "math/bits.overflowError", "internal/strconv.uint64pow10", "math/bits.deBruijn32tab"], apart := false, laid := [("math/bits.deBruijn32tab", laid_math_bits_deBruijn32tab), ("math/bits.deBruijn64tab", laid_math_bits_deBruijn64tab), ("internal/strconv.uint64pow10", laid_internal_strconv_uint64pow10)] }
def ShowHoldsSaid : Prop := showHoldsRow.holds Tryz.pinned (OpenSpec.ofChange showHoldsSpec)

/-- ITS FALSE NEIGHBOUR: 'it returns false'. Refute it at one input. -/
def showHoldsWrong : ChangeSpec := { name := "showHolds", fn := fun _ => fun
  | [d1, d2, d3] => { results := [.lit (.bool false)], args := [d1, d2, d3] }
  | _ => none }
def ShowHoldsWrongFalsely : Prop := showHoldsRow.holds Tryz.pinned (OpenSpec.ofChange showHoldsWrong)

/- THE SECOND FORM. 'bulk': how many values and letters a reading holds, each counted each time it is reached (what is shared counts as often as it is met; a slice's spare places count too). A statement '..UptoSaid' is the law's where the arguments, and the package variables that the reading takes, are together of bulk at most 1048576: NARROWER than '..Said'. Prove '..Said' where nothing that the law and all that it calls make is longer than what came in: it says more and counts as full. Else prove '..UptoSaid'. A law counts once. -/
mutual
def uptoBulk {H : Type} : DataW H → Nat
  | .lit (.string bytes) => bytes.length + 1
  | .lit _ => 1
  | .nil => 1
  | .ptr d => uptoBulk d + 1
  | .slice elems spare => uptoBulkAll elems + uptoBulkAll spare + 1
  | .agg parts => uptoBulkAll parts + 1
  | .iface _ d => uptoBulk d + 1
  | .map entries => uptoBulkEntries entries + 1
  | .held _ => 1
def uptoBulkAll {H : Type} : List (DataW H) → Nat
  | [] => 0
  | d :: r => uptoBulk d + uptoBulkAll r
def uptoBulkEntries {H : Type} : List (Lit × DataW H) → Nat
  | [] => 0
  | x :: r => uptoBulkEntry x + uptoBulkEntries r
def uptoBulkEntry {H : Type} : Lit × DataW H → Nat
  | (.string bytes, d) => bytes.length + uptoBulk d + 1
  | (_, d) => uptoBulk d + 1
 end
def uptoSmall : (H : Type) → List (DataW H) → Bool := fun _ ds => decide (uptoBulkAll ds ≤ 1048576)
def OpenSpec.upto (s : _root_.Go.ChangeSpec) : _root_.Go.OpenSpec := { _root_.Go.OpenSpec.ofChange s with cond := some uptoSmall }

/-- 'dominolaw32.ShowRandomizes', WHERE WHAT IT READS IS OF BULK AT MOST 1048576: true; the input reads as it did. -/
def showRandomizesUptoRow : OpenClaim := { program := "ytkdlonihbjhhoaagreatdoor", sum := "1cb5d1e2edec8da7d9b230d6b1c6b23de86c6d47fceb285f2d8e351ead345676", func := "domino/dominolaw32.ShowRandomizes", spec := "showRandomizes", inPlace := ["internal/bytealg.abigen_runtime_cmpstring"], unfollowed := true, recurses := true, named := ["math/bits.deBruijn64tab", "math/bits.divideError", "math/bits.overflowError", "internal/strconv.uint64pow10", "math/bits.deBruijn32tab"], apart := false, laid := [("math/bits.deBruijn32tab", laid_math_bits_deBruijn32tab), ("math/bits.deBruijn64tab", laid_math_bits_deBruijn64tab), ("internal/strconv.uint64pow10", laid_internal_strconv_uint64pow10)], narrowed := true }
def ShowRandomizesUptoSaid : Prop := showRandomizesUptoRow.holds Tryz.pinned (OpenSpec.upto showRandomizesSpec)

/-- 'dominolaw32.ShowStatements', WHERE WHAT IT READS IS OF BULK AT MOST 1048576: true; the input reads as it did. -/
def showStatementsUptoRow : OpenClaim := { program := "ytkdlonihbjhhoaagreatdoor", sum := "1cb5d1e2edec8da7d9b230d6b1c6b23de86c6d47fceb285f2d8e351ead345676", func := "domino/dominolaw32.ShowStatements", spec := "showStatements", inPlace := ["internal/bytealg.abigen_runtime_cmpstring"], unfollowed := true, recurses := true, named := ["math/bits.deBruijn64tab", "math/bits.divideError", "math/bits.overflowError", "internal/strconv.uint64pow10", "math/bits.deBruijn32tab"], apart := false, laid := [("math/bits.deBruijn32tab", laid_math_bits_deBruijn32tab), ("math/bits.deBruijn64tab", laid_math_bits_deBruijn64tab), ("internal/strconv.uint64pow10", laid_internal_strconv_uint64pow10)], narrowed := true }
def ShowStatementsUptoSaid : Prop := showStatementsUptoRow.holds Tryz.pinned (OpenSpec.upto showStatementsSpec)

/-- 'dominolaw32.ShowWitnesses', WHERE WHAT IT READS IS OF BULK AT MOST 1048576: true; the input reads as it did. -/
def showWitnessesUptoRow : OpenClaim := { program := "ytkdlonihbjhhoaagreatdoor", sum := "1cb5d1e2edec8da7d9b230d6b1c6b23de86c6d47fceb285f2d8e351ead345676", func := "domino/dominolaw32.ShowWitnesses", spec := "showWitnesses", inPlace := ["internal/bytealg.abigen_runtime_cmpstring"], unfollowed := true, recurses := true, named := ["math/bits.deBruijn64tab", "math/bits.divideError", "math/bits.overflowError", "internal/strconv.uint64pow10", "math/bits.deBruijn32tab"], apart := false, laid := [("math/bits.deBruijn32tab", laid_math_bits_deBruijn32tab), ("math/bits.deBruijn64tab", laid_math_bits_deBruijn64tab), ("internal/strconv.uint64pow10", laid_internal_strconv_uint64pow10)], narrowed := true }
def ShowWitnessesUptoSaid : Prop := showWitnessesUptoRow.holds Tryz.pinned (OpenSpec.upto showWitnessesSpec)

/-- 'dominolaw32.ShowSigns', WHERE WHAT IT READS IS OF BULK AT MOST 1048576: true; the input reads as it did. -/
def showSignsUptoRow : OpenClaim := { program := "ytkdlonihbjhhoaagreatdoor", sum := "1cb5d1e2edec8da7d9b230d6b1c6b23de86c6d47fceb285f2d8e351ead345676", func := "domino/dominolaw32.ShowSigns", spec := "showSigns", inPlace := ["internal/bytealg.abigen_runtime_cmpstring"], unfollowed := true, recurses := true, named := ["math/bits.deBruijn64tab", "math/bits.divideError", "math/bits.overflowError", "internal/strconv.uint64pow10", "math/bits.deBruijn32tab"], apart := false, laid := [("math/bits.deBruijn32tab", laid_math_bits_deBruijn32tab), ("math/bits.deBruijn64tab", laid_math_bits_deBruijn64tab), ("internal/strconv.uint64pow10", laid_internal_strconv_uint64pow10)], narrowed := true }
def ShowSignsUptoSaid : Prop := showSignsUptoRow.holds Tryz.pinned (OpenSpec.upto showSignsSpec)

/-- 'dominolaw32.ShowHides', WHERE WHAT IT READS IS OF BULK AT MOST 1048576: true; the input reads as it did. -/
def showHidesUptoRow : OpenClaim := { program := "ytkdlonihbjhhoaagreatdoor", sum := "1cb5d1e2edec8da7d9b230d6b1c6b23de86c6d47fceb285f2d8e351ead345676", func := "domino/dominolaw32.ShowHides", spec := "showHides", inPlace := ["internal/bytealg.abigen_runtime_cmpstring"], unfollowed := true, recurses := true, named := ["math/bits.deBruijn64tab", "math/bits.divideError", "math/bits.overflowError", "internal/strconv.uint64pow10", "math/bits.deBruijn32tab"], apart := false, laid := [("math/bits.deBruijn32tab", laid_math_bits_deBruijn32tab), ("math/bits.deBruijn64tab", laid_math_bits_deBruijn64tab), ("internal/strconv.uint64pow10", laid_internal_strconv_uint64pow10)], narrowed := true }
def ShowHidesUptoSaid : Prop := showHidesUptoRow.holds Tryz.pinned (OpenSpec.upto showHidesSpec)

/-- 'dominolaw32.ShowCredentials', WHERE WHAT IT READS IS OF BULK AT MOST 1048576: true; the input reads as it did. -/
def showCredentialsUptoRow : OpenClaim := { program := "ytkdlonihbjhhoaagreatdoor", sum := "1cb5d1e2edec8da7d9b230d6b1c6b23de86c6d47fceb285f2d8e351ead345676", func := "domino/dominolaw32.ShowCredentials", spec := "showCredentials", inPlace := ["internal/bytealg.abigen_runtime_cmpstring"], unfollowed := true, recurses := true, named := ["math/bits.deBruijn64tab", "math/bits.divideError", "math/bits.overflowError", "internal/strconv.uint64pow10", "math/bits.deBruijn32tab"], apart := false, laid := [("math/bits.deBruijn32tab", laid_math_bits_deBruijn32tab), ("math/bits.deBruijn64tab", laid_math_bits_deBruijn64tab), ("internal/strconv.uint64pow10", laid_internal_strconv_uint64pow10)], narrowed := true }
def ShowCredentialsUptoSaid : Prop := showCredentialsUptoRow.holds Tryz.pinned (OpenSpec.upto showCredentialsSpec)

/-- 'dominolaw32.ShowHolds', WHERE WHAT IT READS IS OF BULK AT MOST 1048576: true; the input reads as it did. -/
def showHoldsUptoRow : OpenClaim := { program := "ytkdlonihbjhhoaagreatdoor", sum := "1cb5d1e2edec8da7d9b230d6b1c6b23de86c6d47fceb285f2d8e351ead345676", func := "domino/dominolaw32.ShowHolds", spec := "showHolds", inPlace := ["internal/bytealg.abigen_runtime_cmpstring"], unfollowed := true, recurses := true, named := ["math/bits.deBruijn64tab", "math/bits.divideError", "math/bits.overflowError", "internal/strconv.uint64pow10", "math/bits.deBruijn32tab"], apart := false, laid := [("math/bits.deBruijn32tab", laid_math_bits_deBruijn32tab), ("math/bits.deBruijn64tab", laid_math_bits_deBruijn64tab), ("internal/strconv.uint64pow10", laid_internal_strconv_uint64pow10)], narrowed := true }
def ShowHoldsUptoSaid : Prop := showHoldsUptoRow.holds Tryz.pinned (OpenSpec.upto showHoldsSpec)

end Rows
end Go.Proofs.YtkdlonihbjhhoaaGreatDoor
