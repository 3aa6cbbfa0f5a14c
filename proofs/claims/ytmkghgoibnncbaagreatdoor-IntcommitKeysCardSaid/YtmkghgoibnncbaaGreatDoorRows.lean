/-
  NARROWER THAN 'FOR EVERY INPUT', by the rows' own cells (each row's printed sentence says how): ElgamalEncrypts: laid · ElgamalDecrypts: laid · ElgamalStates: laid · ElgamalHolds: laid · ElgamalOpens: laid · ElgamalRefreshes: laid · ElgamalBack: laid · IntcommitKeys: laid.
  DERIVED. THE GIVEN ROWS OF THIS SEAT. 8 by the template 'for every input the law returns true; each argument reads behind the call as it read before'; 0 by the template 'total and deterministic' (their statements: YtmkghgoibnncbaaGreatDoorTotals.lean).
  GIVEN WITH THE SEED: the statements are not yours to turn. If you find one false, say at which input.
  Laid BY PROGRAM, IN A SANDBOX (cutbox-rows.mjs): the forced cells as the released guide's own fill.sh prints them over the translation 41a1040c6362e0fc… (all of the seat's roots in one cut). By AI agents, Wed Nov 11 2026. No macro, syntax, notation, axiom, sorry.
-/
import Derived.Test.YtmkghgoibnncbaaGreatDoorChecked
import GoSem.Claim
import GoSem.ClaimJoined
import GoSem.ClaimMapViews
import Derived.JoinedTies
import Derived.KernelRfl
namespace Go.Proofs.YtmkghgoibnncbaaGreatDoor
/- THE CELL 'sum', in the pinned program and in every row, IS THE sha256 OF THE DUMP (.gsa) THAT YtmkghgoibnncbaaGreatDoorProg.lean LOADS. Nothing in Lean hashes anything: it is a label: what it is worth is what the hold of that sum in a sandbox is worth. -/
noncomputable def Tryz.pinned : Pinned := { name := "ytmkghgoibnncbaagreatdoor", sum := "41a1040c6362e0fc1adbc4befd2afe6a285d7c22b07228b75ea2983ef19db2e8", checked := Tryz.checked }
namespace Rows
def none {H : Type} : Left H := { results := [], args := [] }

/- WHAT THE LISTED PACKAGE-LEVEL VARIABLES READ AS WHEN THE CALL BEGINS. Each datum BY PROGRAM (the guide's laid-datum.mjs) off the statement by which the dump's own 'gosem.cut.vars' lays the variable. In a bare row this is a premise. The card (YtmkghgoibnncbaaGreatDoorCards.lean) ties it to the program's text. -/
def laid_math_bits_deBruijn32tab {H : Type} : DataW H := .agg [.lit (.int .u8 0), .lit (.int .u8 1), .lit (.int .u8 28), .lit (.int .u8 2), .lit (.int .u8 29), .lit (.int .u8 14), .lit (.int .u8 24), .lit (.int .u8 3), .lit (.int .u8 30), .lit (.int .u8 22), .lit (.int .u8 20), .lit (.int .u8 15), .lit (.int .u8 25), .lit (.int .u8 17), .lit (.int .u8 4), .lit (.int .u8 8), .lit (.int .u8 31), .lit (.int .u8 27), .lit (.int .u8 13), .lit (.int .u8 23), .lit (.int .u8 21), .lit (.int .u8 19), .lit (.int .u8 16), .lit (.int .u8 7), .lit (.int .u8 26), .lit (.int .u8 12), .lit (.int .u8 18), .lit (.int .u8 6), .lit (.int .u8 11), .lit (.int .u8 5), .lit (.int .u8 10), .lit (.int .u8 9)]
def laid_math_bits_deBruijn64tab {H : Type} : DataW H := .agg [.lit (.int .u8 0), .lit (.int .u8 1), .lit (.int .u8 56), .lit (.int .u8 2), .lit (.int .u8 57), .lit (.int .u8 49), .lit (.int .u8 28), .lit (.int .u8 3), .lit (.int .u8 61), .lit (.int .u8 58), .lit (.int .u8 42), .lit (.int .u8 50), .lit (.int .u8 38), .lit (.int .u8 29), .lit (.int .u8 17), .lit (.int .u8 4), .lit (.int .u8 62), .lit (.int .u8 47), .lit (.int .u8 59), .lit (.int .u8 36), .lit (.int .u8 45), .lit (.int .u8 43), .lit (.int .u8 51), .lit (.int .u8 22), .lit (.int .u8 53), .lit (.int .u8 39), .lit (.int .u8 33), .lit (.int .u8 30), .lit (.int .u8 24), .lit (.int .u8 18), .lit (.int .u8 12), .lit (.int .u8 5), .lit (.int .u8 63), .lit (.int .u8 55), .lit (.int .u8 48), .lit (.int .u8 27), .lit (.int .u8 60), .lit (.int .u8 41), .lit (.int .u8 37), .lit (.int .u8 16), .lit (.int .u8 46), .lit (.int .u8 35), .lit (.int .u8 44), .lit (.int .u8 21), .lit (.int .u8 52), .lit (.int .u8 32), .lit (.int .u8 23), .lit (.int .u8 11), .lit (.int .u8 54), .lit (.int .u8 26), .lit (.int .u8 40), .lit (.int .u8 15), .lit (.int .u8 34), .lit (.int .u8 20), .lit (.int .u8 31), .lit (.int .u8 10), .lit (.int .u8 25), .lit (.int .u8 14), .lit (.int .u8 19), .lit (.int .u8 9), .lit (.int .u8 13), .lit (.int .u8 8), .lit (.int .u8 7), .lit (.int .u8 6)]
def laid_internal_strconv_uint64pow10 {H : Type} : DataW H := .agg [.lit (.int .u64 1), .lit (.int .u64 10), .lit (.int .u64 100), .lit (.int .u64 1000), .lit (.int .u64 10000), .lit (.int .u64 100000), .lit (.int .u64 1000000), .lit (.int .u64 10000000), .lit (.int .u64 100000000), .lit (.int .u64 1000000000), .lit (.int .u64 10000000000), .lit (.int .u64 100000000000), .lit (.int .u64 1000000000000), .lit (.int .u64 10000000000000), .lit (.int .u64 100000000000000), .lit (.int .u64 1000000000000000), .lit (.int .u64 10000000000000000), .lit (.int .u64 100000000000000000), .lit (.int .u64 1000000000000000000), .lit (.int .u64 10000000000000000000)]

/-- 'dominolaw50.ElgamalEncrypts': WHATEVER THE INPUT: true; the input reads as it did. -/
def elgamalEncryptsSpec : ChangeSpec := { name := "elgamalEncrypts", fn := fun _ => fun
  | [d1, d2] => { results := [.lit (.bool true)], args := [d1, d2] }
  | _ => none }
def elgamalEncryptsRow : OpenClaim := { program := "ytmkghgoibnncbaagreatdoor", sum := "41a1040c6362e0fc1adbc4befd2afe6a285d7c22b07228b75ea2983ef19db2e8", func := "domino/dominolaw50.ElgamalEncrypts", spec := "elgamalEncrypts", inPlace := ["internal/bytealg.abigen_runtime_cmpstring"], unfollowed := true, recurses := true, named := ["math/bits.divideError", "math/bits.overflowError", "internal/strconv.uint64pow10", "math/bits.deBruijn32tab", "math/bits.deBruijn64tab"], apart := false, laid := [("math/bits.deBruijn32tab", laid_math_bits_deBruijn32tab), ("math/bits.deBruijn64tab", laid_math_bits_deBruijn64tab), ("internal/strconv.uint64pow10", laid_internal_strconv_uint64pow10)] }
def ElgamalEncryptsSaid : Prop := elgamalEncryptsRow.holds Tryz.pinned (OpenSpec.ofChange elgamalEncryptsSpec)

/-- ITS FALSE NEIGHBOUR: 'it returns false'. Refute it at one input. -/
def elgamalEncryptsWrong : ChangeSpec := { name := "elgamalEncrypts", fn := fun _ => fun
  | [d1, d2] => { results := [.lit (.bool false)], args := [d1, d2] }
  | _ => none }
def ElgamalEncryptsWrongFalsely : Prop := elgamalEncryptsRow.holds Tryz.pinned (OpenSpec.ofChange elgamalEncryptsWrong)

/-- 'dominolaw50.ElgamalDecrypts': WHATEVER THE INPUT: true; the input reads as it did. -/
def elgamalDecryptsSpec : ChangeSpec := { name := "elgamalDecrypts", fn := fun _ => fun
  | [d] => { results := [.lit (.bool true)], args := [d] }
  | _ => none }
def elgamalDecryptsRow : OpenClaim := { program := "ytmkghgoibnncbaagreatdoor", sum := "41a1040c6362e0fc1adbc4befd2afe6a285d7c22b07228b75ea2983ef19db2e8", func := "domino/dominolaw50.ElgamalDecrypts", spec := "elgamalDecrypts", inPlace := ["internal/bytealg.abigen_runtime_cmpstring"], unfollowed := true, recurses := true, named := ["math/bits.divideError", "math/bits.overflowError", "internal/strconv.uint64pow10", "math/bits.deBruijn32tab", "math/bits.deBruijn64tab"], apart := false, laid := [("math/bits.deBruijn32tab", laid_math_bits_deBruijn32tab), ("math/bits.deBruijn64tab", laid_math_bits_deBruijn64tab), ("internal/strconv.uint64pow10", laid_internal_strconv_uint64pow10)] }
def ElgamalDecryptsSaid : Prop := elgamalDecryptsRow.holds Tryz.pinned (OpenSpec.ofChange elgamalDecryptsSpec)

/-- ITS FALSE NEIGHBOUR: 'it returns false'. Refute it at one input. -/
def elgamalDecryptsWrong : ChangeSpec := { name := "elgamalDecrypts", fn := fun _ => fun
  | [d] => { results := [.lit (.bool false)], args := [d] }
  | _ => none }
def ElgamalDecryptsWrongFalsely : Prop := elgamalDecryptsRow.holds Tryz.pinned (OpenSpec.ofChange elgamalDecryptsWrong)

/-- 'dominolaw50.ElgamalStates': WHATEVER THE INPUT: true; the input reads as it did. -/
def elgamalStatesSpec : ChangeSpec := { name := "elgamalStates", fn := fun _ => fun
  | [d1, d2] => { results := [.lit (.bool true)], args := [d1, d2] }
  | _ => none }
def elgamalStatesRow : OpenClaim := { program := "ytmkghgoibnncbaagreatdoor", sum := "41a1040c6362e0fc1adbc4befd2afe6a285d7c22b07228b75ea2983ef19db2e8", func := "domino/dominolaw50.ElgamalStates", spec := "elgamalStates", inPlace := ["internal/bytealg.abigen_runtime_cmpstring"], unfollowed := true, recurses := true, named := ["math/bits.divideError", "math/bits.overflowError", "internal/strconv.uint64pow10", "math/bits.deBruijn32tab", "math/bits.deBruijn64tab"], apart := false, laid := [("math/bits.deBruijn32tab", laid_math_bits_deBruijn32tab), ("math/bits.deBruijn64tab", laid_math_bits_deBruijn64tab), ("internal/strconv.uint64pow10", laid_internal_strconv_uint64pow10)] }
def ElgamalStatesSaid : Prop := elgamalStatesRow.holds Tryz.pinned (OpenSpec.ofChange elgamalStatesSpec)

/-- ITS FALSE NEIGHBOUR: 'it returns false'. Refute it at one input. -/
def elgamalStatesWrong : ChangeSpec := { name := "elgamalStates", fn := fun _ => fun
  | [d1, d2] => { results := [.lit (.bool false)], args := [d1, d2] }
  | _ => none }
def ElgamalStatesWrongFalsely : Prop := elgamalStatesRow.holds Tryz.pinned (OpenSpec.ofChange elgamalStatesWrong)

/-- 'dominolaw50.ElgamalHolds': WHATEVER THE INPUT: true; the input reads as it did. -/
def elgamalHoldsSpec : ChangeSpec := { name := "elgamalHolds", fn := fun _ => fun
  | [d1, d2, d3] => { results := [.lit (.bool true)], args := [d1, d2, d3] }
  | _ => none }
def elgamalHoldsRow : OpenClaim := { program := "ytmkghgoibnncbaagreatdoor", sum := "41a1040c6362e0fc1adbc4befd2afe6a285d7c22b07228b75ea2983ef19db2e8", func := "domino/dominolaw50.ElgamalHolds", spec := "elgamalHolds", inPlace := ["internal/bytealg.abigen_runtime_cmpstring"], unfollowed := true, recurses := true, named := ["math/bits.divideError", "math/bits.overflowError", "internal/strconv.uint64pow10", "math/bits.deBruijn32tab", "math/bits.deBruijn64tab"], apart := false, laid := [("math/bits.deBruijn32tab", laid_math_bits_deBruijn32tab), ("math/bits.deBruijn64tab", laid_math_bits_deBruijn64tab), ("internal/strconv.uint64pow10", laid_internal_strconv_uint64pow10)] }
def ElgamalHoldsSaid : Prop := elgamalHoldsRow.holds Tryz.pinned (OpenSpec.ofChange elgamalHoldsSpec)

/-- ITS FALSE NEIGHBOUR: 'it returns false'. Refute it at one input. -/
def elgamalHoldsWrong : ChangeSpec := { name := "elgamalHolds", fn := fun _ => fun
  | [d1, d2, d3] => { results := [.lit (.bool false)], args := [d1, d2, d3] }
  | _ => none }
def ElgamalHoldsWrongFalsely : Prop := elgamalHoldsRow.holds Tryz.pinned (OpenSpec.ofChange elgamalHoldsWrong)

/-- 'dominolaw50.ElgamalOpens': WHATEVER THE INPUT: true; the input reads as it did. -/
def elgamalOpensSpec : ChangeSpec := { name := "elgamalOpens", fn := fun _ => fun
  | [d1, d2, d3] => { results := [.lit (.bool true)], args := [d1, d2, d3] }
  | _ => none }
def elgamalOpensRow : OpenClaim := { program := "ytmkghgoibnncbaagreatdoor", sum := "41a1040c6362e0fc1adbc4befd2afe6a285d7c22b07228b75ea2983ef19db2e8", func := "domino/dominolaw50.ElgamalOpens", spec := "elgamalOpens", inPlace := ["internal/bytealg.abigen_runtime_cmpstring"], unfollowed := true, recurses := true, named := ["math/bits.divideError", "math/bits.overflowError", "internal/strconv.uint64pow10", "math/bits.deBruijn32tab", "math/bits.deBruijn64tab"], apart := false, laid := [("math/bits.deBruijn32tab", laid_math_bits_deBruijn32tab), ("math/bits.deBruijn64tab", laid_math_bits_deBruijn64tab), ("internal/strconv.uint64pow10", laid_internal_strconv_uint64pow10)] }
def ElgamalOpensSaid : Prop := elgamalOpensRow.holds Tryz.pinned (OpenSpec.ofChange elgamalOpensSpec)

/-- ITS FALSE NEIGHBOUR: 'it returns false'. Refute it at one input. -/
def elgamalOpensWrong : ChangeSpec := { name := "elgamalOpens", fn := fun _ => fun
  | [d1, d2, d3] => { results := [.lit (.bool false)], args := [d1, d2, d3] }
  | _ => none }
def ElgamalOpensWrongFalsely : Prop := elgamalOpensRow.holds Tryz.pinned (OpenSpec.ofChange elgamalOpensWrong)

/-- 'dominolaw50.ElgamalRefreshes': WHATEVER THE INPUT: true; the input reads as it did. -/
def elgamalRefreshesSpec : ChangeSpec := { name := "elgamalRefreshes", fn := fun _ => fun
  | [d1, d2] => { results := [.lit (.bool true)], args := [d1, d2] }
  | _ => none }
def elgamalRefreshesRow : OpenClaim := { program := "ytmkghgoibnncbaagreatdoor", sum := "41a1040c6362e0fc1adbc4befd2afe6a285d7c22b07228b75ea2983ef19db2e8", func := "domino/dominolaw50.ElgamalRefreshes", spec := "elgamalRefreshes", inPlace := ["internal/bytealg.abigen_runtime_cmpstring"], unfollowed := true, recurses := true, named := ["math/bits.divideError", "math/bits.overflowError", "internal/strconv.uint64pow10", "math/bits.deBruijn32tab", "math/bits.deBruijn64tab"], apart := false, laid := [("math/bits.deBruijn32tab", laid_math_bits_deBruijn32tab), ("math/bits.deBruijn64tab", laid_math_bits_deBruijn64tab), ("internal/strconv.uint64pow10", laid_internal_strconv_uint64pow10)] }
def ElgamalRefreshesSaid : Prop := elgamalRefreshesRow.holds Tryz.pinned (OpenSpec.ofChange elgamalRefreshesSpec)

/-- ITS FALSE NEIGHBOUR: 'it returns false'. Refute it at one input. -/
def elgamalRefreshesWrong : ChangeSpec := { name := "elgamalRefreshes", fn := fun _ => fun
  | [d1, d2] => { results := [.lit (.bool false)], args := [d1, d2] }
  | _ => none }
def ElgamalRefreshesWrongFalsely : Prop := elgamalRefreshesRow.holds Tryz.pinned (OpenSpec.ofChange elgamalRefreshesWrong)

/-- 'dominolaw50.ElgamalBack': WHATEVER THE INPUT: true; the input reads as it did. -/
def elgamalBackSpec : ChangeSpec := { name := "elgamalBack", fn := fun _ => fun
  | [d1, d2] => { results := [.lit (.bool true)], args := [d1, d2] }
  | _ => none }
def elgamalBackRow : OpenClaim := { program := "ytmkghgoibnncbaagreatdoor", sum := "41a1040c6362e0fc1adbc4befd2afe6a285d7c22b07228b75ea2983ef19db2e8", func := "domino/dominolaw50.ElgamalBack", spec := "elgamalBack", inPlace := ["internal/bytealg.abigen_runtime_cmpstring"], unfollowed := true, recurses := true, named := ["math/bits.divideError", "math/bits.overflowError", "internal/strconv.uint64pow10", "math/bits.deBruijn32tab", "math/bits.deBruijn64tab"], apart := false, laid := [("math/bits.deBruijn32tab", laid_math_bits_deBruijn32tab), ("math/bits.deBruijn64tab", laid_math_bits_deBruijn64tab), ("internal/strconv.uint64pow10", laid_internal_strconv_uint64pow10)] }
def ElgamalBackSaid : Prop := elgamalBackRow.holds Tryz.pinned (OpenSpec.ofChange elgamalBackSpec)

/-- ITS FALSE NEIGHBOUR: 'it returns false'. Refute it at one input. -/
def elgamalBackWrong : ChangeSpec := { name := "elgamalBack", fn := fun _ => fun
  | [d1, d2] => { results := [.lit (.bool false)], args := [d1, d2] }
  | _ => none }
def ElgamalBackWrongFalsely : Prop := elgamalBackRow.holds Tryz.pinned (OpenSpec.ofChange elgamalBackWrong)

/-- 'dominolaw26.IntcommitKeys': WHATEVER THE INPUT: true; the input reads as it did. -/
def intcommitKeysSpec : ChangeSpec := { name := "intcommitKeys", fn := fun _ => fun
  | [d1, d2, d3] => { results := [.lit (.bool true)], args := [d1, d2, d3] }
  | _ => none }
def intcommitKeysRow : OpenClaim := { program := "ytmkghgoibnncbaagreatdoor", sum := "41a1040c6362e0fc1adbc4befd2afe6a285d7c22b07228b75ea2983ef19db2e8", func := "domino/dominolaw26.IntcommitKeys", spec := "intcommitKeys", inPlace := ["internal/bytealg.abigen_runtime_cmpstring"], unfollowed := true, recurses := true, named := ["math/bits.divideError", "math/bits.overflowError", "internal/strconv.uint64pow10", "math/bits.deBruijn32tab", "math/bits.deBruijn64tab"], apart := false, laid := [("math/bits.deBruijn32tab", laid_math_bits_deBruijn32tab), ("math/bits.deBruijn64tab", laid_math_bits_deBruijn64tab), ("internal/strconv.uint64pow10", laid_internal_strconv_uint64pow10)] }
def IntcommitKeysSaid : Prop := intcommitKeysRow.holds Tryz.pinned (OpenSpec.ofChange intcommitKeysSpec)

/-- ITS FALSE NEIGHBOUR: 'it returns false'. Refute it at one input. -/
def intcommitKeysWrong : ChangeSpec := { name := "intcommitKeys", fn := fun _ => fun
  | [d1, d2, d3] => { results := [.lit (.bool false)], args := [d1, d2, d3] }
  | _ => none }
def IntcommitKeysWrongFalsely : Prop := intcommitKeysRow.holds Tryz.pinned (OpenSpec.ofChange intcommitKeysWrong)

/- THE SECOND FORM. 'bulk': how many values and letters a reading holds, each counted each time it is reached (what is shared counts as often as it is met; a slice's spare places count too). A statement '..UptoSaid' is the law's where the arguments, and the package variables that the reading takes, are together of bulk at most 1048576: NARROWER than '..Said'. Prove '..Said' where nothing that the law and all that it calls make is longer than what came in: it says more and counts as full. Else prove '..UptoSaid'. A law counts once. -/
mutual
def uptoBulk {H : Type} : DataW H → Nat
  | .lit (.string bytes) => bytes.length + 1
  | .lit _ => 1
  | .nil => 1
  | .ptr d => uptoBulk d + 1
  | .slice elems spare => uptoBulkAll elems + uptoBulkAll spare + 1
  | .agg parts => uptoBulkAll parts + 1
  | .iface _ d => uptoBulk d + 1
  | .map entries => uptoBulkEntries entries + 1
  | .held _ => 1
def uptoBulkAll {H : Type} : List (DataW H) → Nat
  | [] => 0
  | d :: r => uptoBulk d + uptoBulkAll r
def uptoBulkEntries {H : Type} : List (Lit × DataW H) → Nat
  | [] => 0
  | x :: r => uptoBulkEntry x + uptoBulkEntries r
def uptoBulkEntry {H : Type} : Lit × DataW H → Nat
  | (.string bytes, d) => bytes.length + uptoBulk d + 1
  | (_, d) => uptoBulk d + 1
 end
def uptoSmall : (H : Type) → List (DataW H) → Bool := fun _ ds => decide (uptoBulkAll ds ≤ 1048576)
def OpenSpec.upto (s : _root_.Go.ChangeSpec) : _root_.Go.OpenSpec := { _root_.Go.OpenSpec.ofChange s with cond := some uptoSmall }

/-- 'dominolaw50.ElgamalEncrypts', WHERE WHAT IT READS IS OF BULK AT MOST 1048576: true; the input reads as it did. -/
def elgamalEncryptsUptoRow : OpenClaim := { program := "ytmkghgoibnncbaagreatdoor", sum := "41a1040c6362e0fc1adbc4befd2afe6a285d7c22b07228b75ea2983ef19db2e8", func := "domino/dominolaw50.ElgamalEncrypts", spec := "elgamalEncrypts", inPlace := ["internal/bytealg.abigen_runtime_cmpstring"], unfollowed := true, recurses := true, named := ["math/bits.divideError", "math/bits.overflowError", "internal/strconv.uint64pow10", "math/bits.deBruijn32tab", "math/bits.deBruijn64tab"], apart := false, laid := [("math/bits.deBruijn32tab", laid_math_bits_deBruijn32tab), ("math/bits.deBruijn64tab", laid_math_bits_deBruijn64tab), ("internal/strconv.uint64pow10", laid_internal_strconv_uint64pow10)], narrowed := true }
def ElgamalEncryptsUptoSaid : Prop := elgamalEncryptsUptoRow.holds Tryz.pinned (OpenSpec.upto elgamalEncryptsSpec)

/-- 'dominolaw50.ElgamalDecrypts', WHERE WHAT IT READS IS OF BULK AT MOST 1048576: true; the input reads as it did. -/
def elgamalDecryptsUptoRow : OpenClaim := { program := "ytmkghgoibnncbaagreatdoor", sum := "41a1040c6362e0fc1adbc4befd2afe6a285d7c22b07228b75ea2983ef19db2e8", func := "domino/dominolaw50.ElgamalDecrypts", spec := "elgamalDecrypts", inPlace := ["internal/bytealg.abigen_runtime_cmpstring"], unfollowed := true, recurses := true, named := ["math/bits.divideError", "math/bits.overflowError", "internal/strconv.uint64pow10", "math/bits.deBruijn32tab", "math/bits.deBruijn64tab"], apart := false, laid := [("math/bits.deBruijn32tab", laid_math_bits_deBruijn32tab), ("math/bits.deBruijn64tab", laid_math_bits_deBruijn64tab), ("internal/strconv.uint64pow10", laid_internal_strconv_uint64pow10)], narrowed := true }
def ElgamalDecryptsUptoSaid : Prop := elgamalDecryptsUptoRow.holds Tryz.pinned (OpenSpec.upto elgamalDecryptsSpec)

/-- 'dominolaw50.ElgamalStates', WHERE WHAT IT READS IS OF BULK AT MOST 1048576: true; the input reads as it did. -/
def elgamalStatesUptoRow : OpenClaim := { program := "ytmkghgoibnncbaagreatdoor", sum := "41a1040c6362e0fc1adbc4befd2afe6a285d7c22b07228b75ea2983ef19db2e8", func := "domino/dominolaw50.ElgamalStates", spec := "elgamalStates", inPlace := ["internal/bytealg.abigen_runtime_cmpstring"], unfollowed := true, recurses := true, named := ["math/bits.divideError", "math/bits.overflowError", "internal/strconv.uint64pow10", "math/bits.deBruijn32tab", "math/bits.deBruijn64tab"], apart := false, laid := [("math/bits.deBruijn32tab", laid_math_bits_deBruijn32tab), ("math/bits.deBruijn64tab", laid_math_bits_deBruijn64tab), ("internal/strconv.uint64pow10", laid_internal_strconv_uint64pow10)], narrowed := true }
def ElgamalStatesUptoSaid : Prop := elgamalStatesUptoRow.holds Tryz.pinned (OpenSpec.upto elgamalStatesSpec)

/-- 'dominolaw50.ElgamalHolds', WHERE WHAT IT READS IS OF BULK AT MOST 1048576: true; the input reads as it did. -/
def elgamalHoldsUptoRow : OpenClaim := { program := "ytmkghgoibnncbaagreatdoor", sum := "41a1040c6362e0fc1adbc4befd2afe6a285d7c22b07228b75ea2983ef19db2e8", func := "domino/dominolaw50.ElgamalHolds", spec := "elgamalHolds", inPlace := ["internal/bytealg.abigen_runtime_cmpstring"], unfollowed := true, recurses := true, named := ["math/bits.divideError", "math/bits.overflowError", "internal/strconv.uint64pow10", "math/bits.deBruijn32tab", "math/bits.deBruijn64tab"], apart := false, laid := [("math/bits.deBruijn32tab", laid_math_bits_deBruijn32tab), ("math/bits.deBruijn64tab", laid_math_bits_deBruijn64tab), ("internal/strconv.uint64pow10", laid_internal_strconv_uint64pow10)], narrowed := true }
def ElgamalHoldsUptoSaid : Prop := elgamalHoldsUptoRow.holds Tryz.pinned (OpenSpec.upto elgamalHoldsSpec)

/-- 'dominolaw50.ElgamalOpens', WHERE WHAT IT READS IS OF BULK AT MOST 1048576: true; the input reads as it did. -/
def elgamalOpensUptoRow : OpenClaim := { program := "ytmkghgoibnncbaagreatdoor", sum := "41a1040c6362e0fc1adbc4befd2afe6a285d7c22b07228b75ea2983ef19db2e8", func := "domino/dominolaw50.ElgamalOpens", spec := "elgamalOpens", inPlace := ["internal/bytealg.abigen_runtime_cmpstring"], unfollowed := true, recurses := true, named := ["math/bits.divideError", "math/bits.overflowError", "internal/strconv.uint64pow10", "math/bits.deBruijn32tab", "math/bits.deBruijn64tab"], apart := false, laid := [("math/bits.deBruijn32tab", laid_math_bits_deBruijn32tab), ("math/bits.deBruijn64tab", laid_math_bits_deBruijn64tab), ("internal/strconv.uint64pow10", laid_internal_strconv_uint64pow10)], narrowed := true }
def ElgamalOpensUptoSaid : Prop := elgamalOpensUptoRow.holds Tryz.pinned (OpenSpec.upto elgamalOpensSpec)

/-- 'dominolaw50.ElgamalRefreshes', WHERE WHAT IT READS IS OF BULK AT MOST 1048576: true; the input reads as it did. -/
def elgamalRefreshesUptoRow : OpenClaim := { program := "ytmkghgoibnncbaagreatdoor", sum := "41a1040c6362e0fc1adbc4befd2afe6a285d7c22b07228b75ea2983ef19db2e8", func := "domino/dominolaw50.ElgamalRefreshes", spec := "elgamalRefreshes", inPlace := ["internal/bytealg.abigen_runtime_cmpstring"], unfollowed := true, recurses := true, named := ["math/bits.divideError", "math/bits.overflowError", "internal/strconv.uint64pow10", "math/bits.deBruijn32tab", "math/bits.deBruijn64tab"], apart := false, laid := [("math/bits.deBruijn32tab", laid_math_bits_deBruijn32tab), ("math/bits.deBruijn64tab", laid_math_bits_deBruijn64tab), ("internal/strconv.uint64pow10", laid_internal_strconv_uint64pow10)], narrowed := true }
def ElgamalRefreshesUptoSaid : Prop := elgamalRefreshesUptoRow.holds Tryz.pinned (OpenSpec.upto elgamalRefreshesSpec)

/-- 'dominolaw50.ElgamalBack', WHERE WHAT IT READS IS OF BULK AT MOST 1048576: true; the input reads as it did. -/
def elgamalBackUptoRow : OpenClaim := { program := "ytmkghgoibnncbaagreatdoor", sum := "41a1040c6362e0fc1adbc4befd2afe6a285d7c22b07228b75ea2983ef19db2e8", func := "domino/dominolaw50.ElgamalBack", spec := "elgamalBack", inPlace := ["internal/bytealg.abigen_runtime_cmpstring"], unfollowed := true, recurses := true, named := ["math/bits.divideError", "math/bits.overflowError", "internal/strconv.uint64pow10", "math/bits.deBruijn32tab", "math/bits.deBruijn64tab"], apart := false, laid := [("math/bits.deBruijn32tab", laid_math_bits_deBruijn32tab), ("math/bits.deBruijn64tab", laid_math_bits_deBruijn64tab), ("internal/strconv.uint64pow10", laid_internal_strconv_uint64pow10)], narrowed := true }
def ElgamalBackUptoSaid : Prop := elgamalBackUptoRow.holds Tryz.pinned (OpenSpec.upto elgamalBackSpec)

/-- 'dominolaw26.IntcommitKeys', WHERE WHAT IT READS IS OF BULK AT MOST 1048576: true; the input reads as it did. -/
def intcommitKeysUptoRow : OpenClaim := { program := "ytmkghgoibnncbaagreatdoor", sum := "41a1040c6362e0fc1adbc4befd2afe6a285d7c22b07228b75ea2983ef19db2e8", func := "domino/dominolaw26.IntcommitKeys", spec := "intcommitKeys", inPlace := ["internal/bytealg.abigen_runtime_cmpstring"], unfollowed := true, recurses := true, named := ["math/bits.divideError", "math/bits.overflowError", "internal/strconv.uint64pow10", "math/bits.deBruijn32tab", "math/bits.deBruijn64tab"], apart := false, laid := [("math/bits.deBruijn32tab", laid_math_bits_deBruijn32tab), ("math/bits.deBruijn64tab", laid_math_bits_deBruijn64tab), ("internal/strconv.uint64pow10", laid_internal_strconv_uint64pow10)], narrowed := true }
def IntcommitKeysUptoSaid : Prop := intcommitKeysUptoRow.holds Tryz.pinned (OpenSpec.upto intcommitKeysSpec)

end Rows
end Go.Proofs.YtmkghgoibnncbaaGreatDoor
