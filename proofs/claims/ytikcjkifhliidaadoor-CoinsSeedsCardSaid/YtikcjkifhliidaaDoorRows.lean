/-
  NARROWER THAN 'FOR EVERY INPUT', by the rows' own cells (each row's printed sentence says how): CoinsMakes: laid · CoinsDraws: laid · CoinsSigned: laid · CoinsExplicit: laid · CoinsSpread: laid · CoinsSeeds: laid · CoinsMany: laid · CoinsRepeat: laid.
  DERIVED. THE GIVEN ROWS OF THIS SEAT. 8 by the template 'for every input the law returns true; each argument reads behind the call as it read before'; 0 by the template 'total and deterministic' (their statements: YtikcjkifhliidaaDoorTotals.lean).
  GIVEN WITH THE SEED: the statements are not yours to turn. If you find one false, say at which input.
  Laid BY PROGRAM, IN A SANDBOX (cutbox-rows.mjs): the forced cells as the released guide's own fill.sh prints them over the translation eb388711b37aa907… (all of the seat's roots in one cut). By AI agents, Wed Nov 11 2026. No macro, syntax, notation, axiom, sorry.
-/
import Derived.Test.YtikcjkifhliidaaDoorChecked
import GoSem.Claim
import GoSem.ClaimJoined
import GoSem.ClaimMapViews
import Derived.JoinedTies
import Derived.KernelRfl
namespace Go.Proofs.YtikcjkifhliidaaDoor
/- THE CELL 'sum', in the pinned program and in every row, IS THE sha256 OF THE DUMP (.gsa) THAT YtikcjkifhliidaaDoorProg.lean LOADS. Nothing in Lean hashes anything: it is a label: what it is worth is what the hold of that sum in a sandbox is worth. -/
noncomputable def Tryd.pinned : Pinned := { name := "ytikcjkifhliidaadoor", sum := "eb388711b37aa90728c3f02a29a516aa70fc94b85fa99f62a1f347ae1cd55608", checked := Tryd.checked }
namespace Rows
def none {H : Type} : Left H := { results := [], args := [] }

/- WHAT THE LISTED PACKAGE-LEVEL VARIABLES READ AS WHEN THE CALL BEGINS. Each datum BY PROGRAM (the guide's laid-datum.mjs) off the statement by which the dump's own 'gosem.cut.vars' lays the variable. In a bare row this is a premise. The card (YtikcjkifhliidaaDoorCards.lean) ties it to the program's text. -/
def laid_math_bits_deBruijn32tab {H : Type} : DataW H := .agg [.lit (.int .u8 0), .lit (.int .u8 1), .lit (.int .u8 28), .lit (.int .u8 2), .lit (.int .u8 29), .lit (.int .u8 14), .lit (.int .u8 24), .lit (.int .u8 3), .lit (.int .u8 30), .lit (.int .u8 22), .lit (.int .u8 20), .lit (.int .u8 15), .lit (.int .u8 25), .lit (.int .u8 17), .lit (.int .u8 4), .lit (.int .u8 8), .lit (.int .u8 31), .lit (.int .u8 27), .lit (.int .u8 13), .lit (.int .u8 23), .lit (.int .u8 21), .lit (.int .u8 19), .lit (.int .u8 16), .lit (.int .u8 7), .lit (.int .u8 26), .lit (.int .u8 12), .lit (.int .u8 18), .lit (.int .u8 6), .lit (.int .u8 11), .lit (.int .u8 5), .lit (.int .u8 10), .lit (.int .u8 9)]
def laid_math_bits_deBruijn64tab {H : Type} : DataW H := .agg [.lit (.int .u8 0), .lit (.int .u8 1), .lit (.int .u8 56), .lit (.int .u8 2), .lit (.int .u8 57), .lit (.int .u8 49), .lit (.int .u8 28), .lit (.int .u8 3), .lit (.int .u8 61), .lit (.int .u8 58), .lit (.int .u8 42), .lit (.int .u8 50), .lit (.int .u8 38), .lit (.int .u8 29), .lit (.int .u8 17), .lit (.int .u8 4), .lit (.int .u8 62), .lit (.int .u8 47), .lit (.int .u8 59), .lit (.int .u8 36), .lit (.int .u8 45), .lit (.int .u8 43), .lit (.int .u8 51), .lit (.int .u8 22), .lit (.int .u8 53), .lit (.int .u8 39), .lit (.int .u8 33), .lit (.int .u8 30), .lit (.int .u8 24), .lit (.int .u8 18), .lit (.int .u8 12), .lit (.int .u8 5), .lit (.int .u8 63), .lit (.int .u8 55), .lit (.int .u8 48), .lit (.int .u8 27), .lit (.int .u8 60), .lit (.int .u8 41), .lit (.int .u8 37), .lit (.int .u8 16), .lit (.int .u8 46), .lit (.int .u8 35), .lit (.int .u8 44), .lit (.int .u8 21), .lit (.int .u8 52), .lit (.int .u8 32), .lit (.int .u8 23), .lit (.int .u8 11), .lit (.int .u8 54), .lit (.int .u8 26), .lit (.int .u8 40), .lit (.int .u8 15), .lit (.int .u8 34), .lit (.int .u8 20), .lit (.int .u8 31), .lit (.int .u8 10), .lit (.int .u8 25), .lit (.int .u8 14), .lit (.int .u8 19), .lit (.int .u8 9), .lit (.int .u8 13), .lit (.int .u8 8), .lit (.int .u8 7), .lit (.int .u8 6)]
def laid_internal_strconv_uint64pow10 {H : Type} : DataW H := .agg [.lit (.int .u64 1), .lit (.int .u64 10), .lit (.int .u64 100), .lit (.int .u64 1000), .lit (.int .u64 10000), .lit (.int .u64 100000), .lit (.int .u64 1000000), .lit (.int .u64 10000000), .lit (.int .u64 100000000), .lit (.int .u64 1000000000), .lit (.int .u64 10000000000), .lit (.int .u64 100000000000), .lit (.int .u64 1000000000000), .lit (.int .u64 10000000000000), .lit (.int .u64 100000000000000), .lit (.int .u64 1000000000000000), .lit (.int .u64 10000000000000000), .lit (.int .u64 100000000000000000), .lit (.int .u64 1000000000000000000), .lit (.int .u64 10000000000000000000)]

/-- 'dominolaw06.CoinsMakes': WHATEVER THE INPUT: true; the input reads as it did. -/
def coinsMakesSpec : ChangeSpec := { name := "coinsMakes", fn := fun _ => fun
  | [d1, d2, d3] => { results := [.lit (.bool true)], args := [d1, d2, d3] }
  | _ => none }
def coinsMakesRow : OpenClaim := { program := "ytikcjkifhliidaadoor", sum := "eb388711b37aa90728c3f02a29a516aa70fc94b85fa99f62a1f347ae1cd55608", func := "domino/dominolaw06.CoinsMakes", spec := "coinsMakes", inPlace := ["internal/bytealg.abigen_runtime_cmpstring"], unfollowed := true, recurses := true, named := ["internal/strconv.uint64pow10", "math/bits.deBruijn32tab", "math/bits.deBruijn64tab"], apart := false, laid := [("math/bits.deBruijn32tab", laid_math_bits_deBruijn32tab), ("math/bits.deBruijn64tab", laid_math_bits_deBruijn64tab), ("internal/strconv.uint64pow10", laid_internal_strconv_uint64pow10)] }
def CoinsMakesSaid : Prop := coinsMakesRow.holds Tryd.pinned (OpenSpec.ofChange coinsMakesSpec)

/-- ITS FALSE NEIGHBOUR: 'it returns false'. Refute it at one input. -/
def coinsMakesWrong : ChangeSpec := { name := "coinsMakes", fn := fun _ => fun
  | [d1, d2, d3] => { results := [.lit (.bool false)], args := [d1, d2, d3] }
  | _ => none }
def CoinsMakesWrongFalsely : Prop := coinsMakesRow.holds Tryd.pinned (OpenSpec.ofChange coinsMakesWrong)

/-- 'dominolaw06.CoinsDraws': WHATEVER THE INPUT: true; the input reads as it did. -/
def coinsDrawsSpec : ChangeSpec := { name := "coinsDraws", fn := fun _ => fun
  | [d1, d2] => { results := [.lit (.bool true)], args := [d1, d2] }
  | _ => none }
def coinsDrawsRow : OpenClaim := { program := "ytikcjkifhliidaadoor", sum := "eb388711b37aa90728c3f02a29a516aa70fc94b85fa99f62a1f347ae1cd55608", func := "domino/dominolaw06.CoinsDraws", spec := "coinsDraws", inPlace := ["internal/bytealg.abigen_runtime_cmpstring"], unfollowed := true, recurses := true, named := ["internal/strconv.uint64pow10", "math/bits.deBruijn32tab", "math/bits.deBruijn64tab"], apart := false, laid := [("math/bits.deBruijn32tab", laid_math_bits_deBruijn32tab), ("math/bits.deBruijn64tab", laid_math_bits_deBruijn64tab), ("internal/strconv.uint64pow10", laid_internal_strconv_uint64pow10)] }
def CoinsDrawsSaid : Prop := coinsDrawsRow.holds Tryd.pinned (OpenSpec.ofChange coinsDrawsSpec)

/-- ITS FALSE NEIGHBOUR: 'it returns false'. Refute it at one input. -/
def coinsDrawsWrong : ChangeSpec := { name := "coinsDraws", fn := fun _ => fun
  | [d1, d2] => { results := [.lit (.bool false)], args := [d1, d2] }
  | _ => none }
def CoinsDrawsWrongFalsely : Prop := coinsDrawsRow.holds Tryd.pinned (OpenSpec.ofChange coinsDrawsWrong)

/-- 'dominolaw06.CoinsSigned': WHATEVER THE INPUT: true; the input reads as it did. -/
def coinsSignedSpec : ChangeSpec := { name := "coinsSigned", fn := fun _ => fun
  | [d1, d2] => { results := [.lit (.bool true)], args := [d1, d2] }
  | _ => none }
def coinsSignedRow : OpenClaim := { program := "ytikcjkifhliidaadoor", sum := "eb388711b37aa90728c3f02a29a516aa70fc94b85fa99f62a1f347ae1cd55608", func := "domino/dominolaw06.CoinsSigned", spec := "coinsSigned", inPlace := ["internal/bytealg.abigen_runtime_cmpstring"], unfollowed := true, recurses := true, named := ["internal/strconv.uint64pow10", "math/bits.deBruijn32tab", "math/bits.deBruijn64tab"], apart := false, laid := [("math/bits.deBruijn32tab", laid_math_bits_deBruijn32tab), ("math/bits.deBruijn64tab", laid_math_bits_deBruijn64tab), ("internal/strconv.uint64pow10", laid_internal_strconv_uint64pow10)] }
def CoinsSignedSaid : Prop := coinsSignedRow.holds Tryd.pinned (OpenSpec.ofChange coinsSignedSpec)

/-- ITS FALSE NEIGHBOUR: 'it returns false'. Refute it at one input. -/
def coinsSignedWrong : ChangeSpec := { name := "coinsSigned", fn := fun _ => fun
  | [d1, d2] => { results := [.lit (.bool false)], args := [d1, d2] }
  | _ => none }
def CoinsSignedWrongFalsely : Prop := coinsSignedRow.holds Tryd.pinned (OpenSpec.ofChange coinsSignedWrong)

/-- 'dominolaw06.CoinsExplicit': WHATEVER THE INPUT: true; the input reads as it did. -/
def coinsExplicitSpec : ChangeSpec := { name := "coinsExplicit", fn := fun _ => fun
  | [d1, d2] => { results := [.lit (.bool true)], args := [d1, d2] }
  | _ => none }
def coinsExplicitRow : OpenClaim := { program := "ytikcjkifhliidaadoor", sum := "eb388711b37aa90728c3f02a29a516aa70fc94b85fa99f62a1f347ae1cd55608", func := "domino/dominolaw06.CoinsExplicit", spec := "coinsExplicit", inPlace := ["internal/bytealg.abigen_runtime_cmpstring"], unfollowed := true, recurses := true, named := ["internal/strconv.uint64pow10", "math/bits.deBruijn32tab", "math/bits.deBruijn64tab"], apart := false, laid := [("math/bits.deBruijn32tab", laid_math_bits_deBruijn32tab), ("math/bits.deBruijn64tab", laid_math_bits_deBruijn64tab), ("internal/strconv.uint64pow10", laid_internal_strconv_uint64pow10)] }
def CoinsExplicitSaid : Prop := coinsExplicitRow.holds Tryd.pinned (OpenSpec.ofChange coinsExplicitSpec)

/-- ITS FALSE NEIGHBOUR: 'it returns false'. Refute it at one input. -/
def coinsExplicitWrong : ChangeSpec := { name := "coinsExplicit", fn := fun _ => fun
  | [d1, d2] => { results := [.lit (.bool false)], args := [d1, d2] }
  | _ => none }
def CoinsExplicitWrongFalsely : Prop := coinsExplicitRow.holds Tryd.pinned (OpenSpec.ofChange coinsExplicitWrong)

/-- 'dominolaw06.CoinsSpread': WHATEVER THE INPUT: true; the input reads as it did. -/
def coinsSpreadSpec : ChangeSpec := { name := "coinsSpread", fn := fun _ => fun
  | [d] => { results := [.lit (.bool true)], args := [d] }
  | _ => none }
def coinsSpreadRow : OpenClaim := { program := "ytikcjkifhliidaadoor", sum := "eb388711b37aa90728c3f02a29a516aa70fc94b85fa99f62a1f347ae1cd55608", func := "domino/dominolaw06.CoinsSpread", spec := "coinsSpread", inPlace := ["internal/bytealg.abigen_runtime_cmpstring"], unfollowed := true, recurses := true, named := ["internal/strconv.uint64pow10", "math/bits.deBruijn32tab", "math/bits.deBruijn64tab"], apart := false, laid := [("math/bits.deBruijn32tab", laid_math_bits_deBruijn32tab), ("math/bits.deBruijn64tab", laid_math_bits_deBruijn64tab), ("internal/strconv.uint64pow10", laid_internal_strconv_uint64pow10)] }
def CoinsSpreadSaid : Prop := coinsSpreadRow.holds Tryd.pinned (OpenSpec.ofChange coinsSpreadSpec)

/-- ITS FALSE NEIGHBOUR: 'it returns false'. Refute it at one input. -/
def coinsSpreadWrong : ChangeSpec := { name := "coinsSpread", fn := fun _ => fun
  | [d] => { results := [.lit (.bool false)], args := [d] }
  | _ => none }
def CoinsSpreadWrongFalsely : Prop := coinsSpreadRow.holds Tryd.pinned (OpenSpec.ofChange coinsSpreadWrong)

/-- 'dominolaw06.CoinsSeeds': WHATEVER THE INPUT: true; the input reads as it did. -/
def coinsSeedsSpec : ChangeSpec := { name := "coinsSeeds", fn := fun _ => fun
  | [d1, d2, d3] => { results := [.lit (.bool true)], args := [d1, d2, d3] }
  | _ => none }
def coinsSeedsRow : OpenClaim := { program := "ytikcjkifhliidaadoor", sum := "eb388711b37aa90728c3f02a29a516aa70fc94b85fa99f62a1f347ae1cd55608", func := "domino/dominolaw06.CoinsSeeds", spec := "coinsSeeds", inPlace := ["internal/bytealg.abigen_runtime_cmpstring"], unfollowed := true, recurses := true, named := ["internal/strconv.uint64pow10", "math/bits.deBruijn32tab", "math/bits.deBruijn64tab"], apart := false, laid := [("math/bits.deBruijn32tab", laid_math_bits_deBruijn32tab), ("math/bits.deBruijn64tab", laid_math_bits_deBruijn64tab), ("internal/strconv.uint64pow10", laid_internal_strconv_uint64pow10)] }
def CoinsSeedsSaid : Prop := coinsSeedsRow.holds Tryd.pinned (OpenSpec.ofChange coinsSeedsSpec)

/-- ITS FALSE NEIGHBOUR: 'it returns false'. Refute it at one input. -/
def coinsSeedsWrong : ChangeSpec := { name := "coinsSeeds", fn := fun _ => fun
  | [d1, d2, d3] => { results := [.lit (.bool false)], args := [d1, d2, d3] }
  | _ => none }
def CoinsSeedsWrongFalsely : Prop := coinsSeedsRow.holds Tryd.pinned (OpenSpec.ofChange coinsSeedsWrong)

/-- 'dominolaw06.CoinsMany': WHATEVER THE INPUT: true; the input reads as it did. -/
def coinsManySpec : ChangeSpec := { name := "coinsMany", fn := fun _ => fun
  | [d1, d2, d3] => { results := [.lit (.bool true)], args := [d1, d2, d3] }
  | _ => none }
def coinsManyRow : OpenClaim := { program := "ytikcjkifhliidaadoor", sum := "eb388711b37aa90728c3f02a29a516aa70fc94b85fa99f62a1f347ae1cd55608", func := "domino/dominolaw06.CoinsMany", spec := "coinsMany", inPlace := ["internal/bytealg.abigen_runtime_cmpstring"], unfollowed := true, recurses := true, named := ["internal/strconv.uint64pow10", "math/bits.deBruijn32tab", "math/bits.deBruijn64tab"], apart := false, laid := [("math/bits.deBruijn32tab", laid_math_bits_deBruijn32tab), ("math/bits.deBruijn64tab", laid_math_bits_deBruijn64tab), ("internal/strconv.uint64pow10", laid_internal_strconv_uint64pow10)] }
def CoinsManySaid : Prop := coinsManyRow.holds Tryd.pinned (OpenSpec.ofChange coinsManySpec)

/-- ITS FALSE NEIGHBOUR: 'it returns false'. Refute it at one input. -/
def coinsManyWrong : ChangeSpec := { name := "coinsMany", fn := fun _ => fun
  | [d1, d2, d3] => { results := [.lit (.bool false)], args := [d1, d2, d3] }
  | _ => none }
def CoinsManyWrongFalsely : Prop := coinsManyRow.holds Tryd.pinned (OpenSpec.ofChange coinsManyWrong)

/-- 'dominolaw06.CoinsRepeat': WHATEVER THE INPUT: true; the input reads as it did. -/
def coinsRepeatSpec : ChangeSpec := { name := "coinsRepeat", fn := fun _ => fun
  | [d1, d2, d3] => { results := [.lit (.bool true)], args := [d1, d2, d3] }
  | _ => none }
def coinsRepeatRow : OpenClaim := { program := "ytikcjkifhliidaadoor", sum := "eb388711b37aa90728c3f02a29a516aa70fc94b85fa99f62a1f347ae1cd55608", func := "domino/dominolaw06.CoinsRepeat", spec := "coinsRepeat", inPlace := ["internal/bytealg.abigen_runtime_cmpstring"], unfollowed := true, recurses := true, named := ["internal/strconv.uint64pow10", "math/bits.deBruijn32tab", "math/bits.deBruijn64tab"], apart := false, laid := [("math/bits.deBruijn32tab", laid_math_bits_deBruijn32tab), ("math/bits.deBruijn64tab", laid_math_bits_deBruijn64tab), ("internal/strconv.uint64pow10", laid_internal_strconv_uint64pow10)] }
def CoinsRepeatSaid : Prop := coinsRepeatRow.holds Tryd.pinned (OpenSpec.ofChange coinsRepeatSpec)

/-- ITS FALSE NEIGHBOUR: 'it returns false'. Refute it at one input. -/
def coinsRepeatWrong : ChangeSpec := { name := "coinsRepeat", fn := fun _ => fun
  | [d1, d2, d3] => { results := [.lit (.bool false)], args := [d1, d2, d3] }
  | _ => none }
def CoinsRepeatWrongFalsely : Prop := coinsRepeatRow.holds Tryd.pinned (OpenSpec.ofChange coinsRepeatWrong)

/- THE SECOND FORM. 'bulk': how many values and letters a reading holds, each counted each time it is reached (what is shared counts as often as it is met; a slice's spare places count too). A statement '..UptoSaid' is the law's where the arguments, and the package variables that the reading takes, are together of bulk at most 1048576: NARROWER than '..Said'. Prove '..Said' where nothing that the law and all that it calls make is longer than what came in: it says more and counts as full. Else prove '..UptoSaid'. A law counts once. -/
mutual
def uptoBulk {H : Type} : DataW H → Nat
  | .lit (.string bytes) => bytes.length + 1
  | .lit _ => 1
  | .nil => 1
  | .ptr d => uptoBulk d + 1
  | .slice elems spare => uptoBulkAll elems + uptoBulkAll spare + 1
  | .agg parts => uptoBulkAll parts + 1
  | .iface _ d => uptoBulk d + 1
  | .map entries => uptoBulkEntries entries + 1
  | .held _ => 1
def uptoBulkAll {H : Type} : List (DataW H) → Nat
  | [] => 0
  | d :: r => uptoBulk d + uptoBulkAll r
def uptoBulkEntries {H : Type} : List (Lit × DataW H) → Nat
  | [] => 0
  | x :: r => uptoBulkEntry x + uptoBulkEntries r
def uptoBulkEntry {H : Type} : Lit × DataW H → Nat
  | (.string bytes, d) => bytes.length + uptoBulk d + 1
  | (_, d) => uptoBulk d + 1
 end
def uptoSmall : (H : Type) → List (DataW H) → Bool := fun _ ds => decide (uptoBulkAll ds ≤ 1048576)
def OpenSpec.upto (s : _root_.Go.ChangeSpec) : _root_.Go.OpenSpec := { _root_.Go.OpenSpec.ofChange s with cond := some uptoSmall }

/-- 'dominolaw06.CoinsMakes', WHERE WHAT IT READS IS OF BULK AT MOST 1048576: true; the input reads as it did. -/
def coinsMakesUptoRow : OpenClaim := { program := "ytikcjkifhliidaadoor", sum := "eb388711b37aa90728c3f02a29a516aa70fc94b85fa99f62a1f347ae1cd55608", func := "domino/dominolaw06.CoinsMakes", spec := "coinsMakes", inPlace := ["internal/bytealg.abigen_runtime_cmpstring"], unfollowed := true, recurses := true, named := ["internal/strconv.uint64pow10", "math/bits.deBruijn32tab", "math/bits.deBruijn64tab"], apart := false, laid := [("math/bits.deBruijn32tab", laid_math_bits_deBruijn32tab), ("math/bits.deBruijn64tab", laid_math_bits_deBruijn64tab), ("internal/strconv.uint64pow10", laid_internal_strconv_uint64pow10)], narrowed := true }
def CoinsMakesUptoSaid : Prop := coinsMakesUptoRow.holds Tryd.pinned (OpenSpec.upto coinsMakesSpec)

/-- 'dominolaw06.CoinsDraws', WHERE WHAT IT READS IS OF BULK AT MOST 1048576: true; the input reads as it did. -/
def coinsDrawsUptoRow : OpenClaim := { program := "ytikcjkifhliidaadoor", sum := "eb388711b37aa90728c3f02a29a516aa70fc94b85fa99f62a1f347ae1cd55608", func := "domino/dominolaw06.CoinsDraws", spec := "coinsDraws", inPlace := ["internal/bytealg.abigen_runtime_cmpstring"], unfollowed := true, recurses := true, named := ["internal/strconv.uint64pow10", "math/bits.deBruijn32tab", "math/bits.deBruijn64tab"], apart := false, laid := [("math/bits.deBruijn32tab", laid_math_bits_deBruijn32tab), ("math/bits.deBruijn64tab", laid_math_bits_deBruijn64tab), ("internal/strconv.uint64pow10", laid_internal_strconv_uint64pow10)], narrowed := true }
def CoinsDrawsUptoSaid : Prop := coinsDrawsUptoRow.holds Tryd.pinned (OpenSpec.upto coinsDrawsSpec)

/-- 'dominolaw06.CoinsSigned', WHERE WHAT IT READS IS OF BULK AT MOST 1048576: true; the input reads as it did. -/
def coinsSignedUptoRow : OpenClaim := { program := "ytikcjkifhliidaadoor", sum := "eb388711b37aa90728c3f02a29a516aa70fc94b85fa99f62a1f347ae1cd55608", func := "domino/dominolaw06.CoinsSigned", spec := "coinsSigned", inPlace := ["internal/bytealg.abigen_runtime_cmpstring"], unfollowed := true, recurses := true, named := ["internal/strconv.uint64pow10", "math/bits.deBruijn32tab", "math/bits.deBruijn64tab"], apart := false, laid := [("math/bits.deBruijn32tab", laid_math_bits_deBruijn32tab), ("math/bits.deBruijn64tab", laid_math_bits_deBruijn64tab), ("internal/strconv.uint64pow10", laid_internal_strconv_uint64pow10)], narrowed := true }
def CoinsSignedUptoSaid : Prop := coinsSignedUptoRow.holds Tryd.pinned (OpenSpec.upto coinsSignedSpec)

/-- 'dominolaw06.CoinsExplicit', WHERE WHAT IT READS IS OF BULK AT MOST 1048576: true; the input reads as it did. -/
def coinsExplicitUptoRow : OpenClaim := { program := "ytikcjkifhliidaadoor", sum := "eb388711b37aa90728c3f02a29a516aa70fc94b85fa99f62a1f347ae1cd55608", func := "domino/dominolaw06.CoinsExplicit", spec := "coinsExplicit", inPlace := ["internal/bytealg.abigen_runtime_cmpstring"], unfollowed := true, recurses := true, named := ["internal/strconv.uint64pow10", "math/bits.deBruijn32tab", "math/bits.deBruijn64tab"], apart := false, laid := [("math/bits.deBruijn32tab", laid_math_bits_deBruijn32tab), ("math/bits.deBruijn64tab", laid_math_bits_deBruijn64tab), ("internal/strconv.uint64pow10", laid_internal_strconv_uint64pow10)], narrowed := true }
def CoinsExplicitUptoSaid : Prop := coinsExplicitUptoRow.holds Tryd.pinned (OpenSpec.upto coinsExplicitSpec)

/-- 'dominolaw06.CoinsSpread', WHERE WHAT IT READS IS OF BULK AT MOST 1048576: true; the input reads as it did. -/
def coinsSpreadUptoRow : OpenClaim := { program := "ytikcjkifhliidaadoor", sum := "eb388711b37aa90728c3f02a29a516aa70fc94b85fa99f62a1f347ae1cd55608", func := "domino/dominolaw06.CoinsSpread", spec := "coinsSpread", inPlace := ["internal/bytealg.abigen_runtime_cmpstring"], unfollowed := true, recurses := true, named := ["internal/strconv.uint64pow10", "math/bits.deBruijn32tab", "math/bits.deBruijn64tab"], apart := false, laid := [("math/bits.deBruijn32tab", laid_math_bits_deBruijn32tab), ("math/bits.deBruijn64tab", laid_math_bits_deBruijn64tab), ("internal/strconv.uint64pow10", laid_internal_strconv_uint64pow10)], narrowed := true }
def CoinsSpreadUptoSaid : Prop := coinsSpreadUptoRow.holds Tryd.pinned (OpenSpec.upto coinsSpreadSpec)

/-- 'dominolaw06.CoinsSeeds', WHERE WHAT IT READS IS OF BULK AT MOST 1048576: true; the input reads as it did. -/
def coinsSeedsUptoRow : OpenClaim := { program := "ytikcjkifhliidaadoor", sum := "eb388711b37aa90728c3f02a29a516aa70fc94b85fa99f62a1f347ae1cd55608", func := "domino/dominolaw06.CoinsSeeds", spec := "coinsSeeds", inPlace := ["internal/bytealg.abigen_runtime_cmpstring"], unfollowed := true, recurses := true, named := ["internal/strconv.uint64pow10", "math/bits.deBruijn32tab", "math/bits.deBruijn64tab"], apart := false, laid := [("math/bits.deBruijn32tab", laid_math_bits_deBruijn32tab), ("math/bits.deBruijn64tab", laid_math_bits_deBruijn64tab), ("internal/strconv.uint64pow10", laid_internal_strconv_uint64pow10)], narrowed := true }
def CoinsSeedsUptoSaid : Prop := coinsSeedsUptoRow.holds Tryd.pinned (OpenSpec.upto coinsSeedsSpec)

/-- 'dominolaw06.CoinsMany', WHERE WHAT IT READS IS OF BULK AT MOST 1048576: true; the input reads as it did. -/
def coinsManyUptoRow : OpenClaim := { program := "ytikcjkifhliidaadoor", sum := "eb388711b37aa90728c3f02a29a516aa70fc94b85fa99f62a1f347ae1cd55608", func := "domino/dominolaw06.CoinsMany", spec := "coinsMany", inPlace := ["internal/bytealg.abigen_runtime_cmpstring"], unfollowed := true, recurses := true, named := ["internal/strconv.uint64pow10", "math/bits.deBruijn32tab", "math/bits.deBruijn64tab"], apart := false, laid := [("math/bits.deBruijn32tab", laid_math_bits_deBruijn32tab), ("math/bits.deBruijn64tab", laid_math_bits_deBruijn64tab), ("internal/strconv.uint64pow10", laid_internal_strconv_uint64pow10)], narrowed := true }
def CoinsManyUptoSaid : Prop := coinsManyUptoRow.holds Tryd.pinned (OpenSpec.upto coinsManySpec)

/-- 'dominolaw06.CoinsRepeat', WHERE WHAT IT READS IS OF BULK AT MOST 1048576: true; the input reads as it did. -/
def coinsRepeatUptoRow : OpenClaim := { program := "ytikcjkifhliidaadoor", sum := "eb388711b37aa90728c3f02a29a516aa70fc94b85fa99f62a1f347ae1cd55608", func := "domino/dominolaw06.CoinsRepeat", spec := "coinsRepeat", inPlace := ["internal/bytealg.abigen_runtime_cmpstring"], unfollowed := true, recurses := true, named := ["internal/strconv.uint64pow10", "math/bits.deBruijn32tab", "math/bits.deBruijn64tab"], apart := false, laid := [("math/bits.deBruijn32tab", laid_math_bits_deBruijn32tab), ("math/bits.deBruijn64tab", laid_math_bits_deBruijn64tab), ("internal/strconv.uint64pow10", laid_internal_strconv_uint64pow10)], narrowed := true }
def CoinsRepeatUptoSaid : Prop := coinsRepeatUptoRow.holds Tryd.pinned (OpenSpec.upto coinsRepeatSpec)

end Rows
end Go.Proofs.YtikcjkifhliidaaDoor
