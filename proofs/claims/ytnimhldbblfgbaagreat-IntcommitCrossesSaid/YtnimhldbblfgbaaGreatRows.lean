/-
  No cell of these rows narrows 'for every input' (looked for: loops, veiled, ifaces, maps, wideKeys, modest, calm, conditions, laid).
  DERIVED. THE GIVEN ROWS OF THIS SEAT. 7 by the template 'for every input the law returns true; each argument reads behind the call as it read before'; 0 by the template 'total and deterministic' (their statements: YtnimhldbblfgbaaGreatTotals.lean).
  GIVEN WITH THE SEED: the statements are not yours to turn. If you find one false, say at which input.
  Laid BY PROGRAM, IN A SANDBOX (cutbox-rows.mjs): the forced cells as the released guide's own fill.sh prints them over the translation ecbb6ebcaf6d567c… (all of the seat's roots in one cut). By AI agents, Wed Nov 11 2026. No macro, syntax, notation, axiom, sorry.
-/
import Derived.Test.YtnimhldbblfgbaaGreatChecked
import GoSem.Claim
import GoSem.ClaimJoined
import GoSem.ClaimMapViews
import Derived.JoinedTies
import Derived.KernelRfl
namespace Go.Proofs.YtnimhldbblfgbaaGreat
/- THE CELL 'sum', in the pinned program and in every row, IS THE sha256 OF THE DUMP (.gsa) THAT YtnimhldbblfgbaaGreatProg.lean LOADS. Nothing in Lean hashes anything: it is a label: what it is worth is what the hold of that sum in a sandbox is worth. -/
noncomputable def Tryz.pinned : Pinned := { name := "ytnimhldbblfgbaagreat", sum := "ecbb6ebcaf6d567c8c9431ed28208178d84118838f537e2bb360d5ba4ac29c78", checked := Tryz.checked }
namespace Rows
def none {H : Type} : Left H := { results := [], args := [] }

/-- 'dominolaw26.IntcommitProducts': WHATEVER THE INPUT: true; the input reads as it did. -/
def intcommitProductsSpec : ChangeSpec := { name := "intcommitProducts", fn := fun _ => fun
  | [d] => { results := [.lit (.bool true)], args := [d] }
  | _ => none }
def intcommitProductsRow : OpenClaim := { program := "ytnimhldbblfgbaagreat", sum := "ecbb6ebcaf6d567c8c9431ed28208178d84118838f537e2bb360d5ba4ac29c78", func := "domino/dominolaw26.IntcommitProducts", spec := "intcommitProducts", inPlace := ["internal/bytealg.abigen_runtime_cmpstring"], unfollowed := true, recurses := true, named := ["math/bits.divideError", "math/bits.overflowError"], apart := false }
def IntcommitProductsSaid : Prop := intcommitProductsRow.holds Tryz.pinned (OpenSpec.ofChange intcommitProductsSpec)

/-- ITS FALSE NEIGHBOUR: 'it returns false'. Refute it at one input. -/
def intcommitProductsWrong : ChangeSpec := { name := "intcommitProducts", fn := fun _ => fun
  | [d] => { results := [.lit (.bool false)], args := [d] }
  | _ => none }
def IntcommitProductsWrongFalsely : Prop := intcommitProductsRow.holds Tryz.pinned (OpenSpec.ofChange intcommitProductsWrong)

/-- 'dominolaw26.IntcommitWitnesses': WHATEVER THE INPUT: true; the input reads as it did. -/
def intcommitWitnessesSpec : ChangeSpec := { name := "intcommitWitnesses", fn := fun _ => fun
  | [d] => { results := [.lit (.bool true)], args := [d] }
  | _ => none }
def intcommitWitnessesRow : OpenClaim := { program := "ytnimhldbblfgbaagreat", sum := "ecbb6ebcaf6d567c8c9431ed28208178d84118838f537e2bb360d5ba4ac29c78", func := "domino/dominolaw26.IntcommitWitnesses", spec := "intcommitWitnesses", inPlace := ["internal/bytealg.abigen_runtime_cmpstring"], unfollowed := true, recurses := true, named := ["math/bits.divideError", "math/bits.overflowError"], apart := false }
def IntcommitWitnessesSaid : Prop := intcommitWitnessesRow.holds Tryz.pinned (OpenSpec.ofChange intcommitWitnessesSpec)

/-- ITS FALSE NEIGHBOUR: 'it returns false'. Refute it at one input. -/
def intcommitWitnessesWrong : ChangeSpec := { name := "intcommitWitnesses", fn := fun _ => fun
  | [d] => { results := [.lit (.bool false)], args := [d] }
  | _ => none }
def IntcommitWitnessesWrongFalsely : Prop := intcommitWitnessesRow.holds Tryz.pinned (OpenSpec.ofChange intcommitWitnessesWrong)

/-- 'dominolaw26.IntcommitKnows': WHATEVER THE INPUT: true; the input reads as it did. -/
def intcommitKnowsSpec : ChangeSpec := { name := "intcommitKnows", fn := fun _ => fun
  | [d1, d2, d3] => { results := [.lit (.bool true)], args := [d1, d2, d3] }
  | _ => none }
def intcommitKnowsRow : OpenClaim := { program := "ytnimhldbblfgbaagreat", sum := "ecbb6ebcaf6d567c8c9431ed28208178d84118838f537e2bb360d5ba4ac29c78", func := "domino/dominolaw26.IntcommitKnows", spec := "intcommitKnows", inPlace := ["internal/bytealg.abigen_runtime_cmpstring"], unfollowed := true, recurses := true, named := ["math/bits.divideError", "math/bits.overflowError"], apart := false }
def IntcommitKnowsSaid : Prop := intcommitKnowsRow.holds Tryz.pinned (OpenSpec.ofChange intcommitKnowsSpec)

/-- ITS FALSE NEIGHBOUR: 'it returns false'. Refute it at one input. -/
def intcommitKnowsWrong : ChangeSpec := { name := "intcommitKnows", fn := fun _ => fun
  | [d1, d2, d3] => { results := [.lit (.bool false)], args := [d1, d2, d3] }
  | _ => none }
def IntcommitKnowsWrongFalsely : Prop := intcommitKnowsRow.holds Tryz.pinned (OpenSpec.ofChange intcommitKnowsWrong)

/-- 'dominolaw26.IntcommitMultiplies': WHATEVER THE INPUT: true; the input reads as it did. -/
def intcommitMultipliesSpec : ChangeSpec := { name := "intcommitMultiplies", fn := fun _ => fun
  | [d1, d2, d3] => { results := [.lit (.bool true)], args := [d1, d2, d3] }
  | _ => none }
def intcommitMultipliesRow : OpenClaim := { program := "ytnimhldbblfgbaagreat", sum := "ecbb6ebcaf6d567c8c9431ed28208178d84118838f537e2bb360d5ba4ac29c78", func := "domino/dominolaw26.IntcommitMultiplies", spec := "intcommitMultiplies", inPlace := ["internal/bytealg.abigen_runtime_cmpstring"], unfollowed := true, recurses := true, named := ["math/bits.divideError", "math/bits.overflowError"], apart := false }
def IntcommitMultipliesSaid : Prop := intcommitMultipliesRow.holds Tryz.pinned (OpenSpec.ofChange intcommitMultipliesSpec)

/-- ITS FALSE NEIGHBOUR: 'it returns false'. Refute it at one input. -/
def intcommitMultipliesWrong : ChangeSpec := { name := "intcommitMultiplies", fn := fun _ => fun
  | [d1, d2, d3] => { results := [.lit (.bool false)], args := [d1, d2, d3] }
  | _ => none }
def IntcommitMultipliesWrongFalsely : Prop := intcommitMultipliesRow.holds Tryz.pinned (OpenSpec.ofChange intcommitMultipliesWrong)

/-- 'dominolaw26.IntcommitOpens': WHATEVER THE INPUT: true; the input reads as it did. -/
def intcommitOpensSpec : ChangeSpec := { name := "intcommitOpens", fn := fun _ => fun
  | [d1, d2, d3] => { results := [.lit (.bool true)], args := [d1, d2, d3] }
  | _ => none }
def intcommitOpensRow : OpenClaim := { program := "ytnimhldbblfgbaagreat", sum := "ecbb6ebcaf6d567c8c9431ed28208178d84118838f537e2bb360d5ba4ac29c78", func := "domino/dominolaw26.IntcommitOpens", spec := "intcommitOpens", inPlace := ["internal/bytealg.abigen_runtime_cmpstring"], unfollowed := true, recurses := true, named := ["math/bits.divideError", "math/bits.overflowError"], apart := false }
def IntcommitOpensSaid : Prop := intcommitOpensRow.holds Tryz.pinned (OpenSpec.ofChange intcommitOpensSpec)

/-- ITS FALSE NEIGHBOUR: 'it returns false'. Refute it at one input. -/
def intcommitOpensWrong : ChangeSpec := { name := "intcommitOpens", fn := fun _ => fun
  | [d1, d2, d3] => { results := [.lit (.bool false)], args := [d1, d2, d3] }
  | _ => none }
def IntcommitOpensWrongFalsely : Prop := intcommitOpensRow.holds Tryz.pinned (OpenSpec.ofChange intcommitOpensWrong)

/-- 'dominolaw26.IntcommitEquals': WHATEVER THE INPUT: true; the input reads as it did. -/
def intcommitEqualsSpec : ChangeSpec := { name := "intcommitEquals", fn := fun _ => fun
  | [d1, d2] => { results := [.lit (.bool true)], args := [d1, d2] }
  | _ => none }
def intcommitEqualsRow : OpenClaim := { program := "ytnimhldbblfgbaagreat", sum := "ecbb6ebcaf6d567c8c9431ed28208178d84118838f537e2bb360d5ba4ac29c78", func := "domino/dominolaw26.IntcommitEquals", spec := "intcommitEquals", inPlace := ["internal/bytealg.abigen_runtime_cmpstring"], unfollowed := true, recurses := true, named := ["math/bits.divideError", "math/bits.overflowError"], apart := false }
def IntcommitEqualsSaid : Prop := intcommitEqualsRow.holds Tryz.pinned (OpenSpec.ofChange intcommitEqualsSpec)

/-- ITS FALSE NEIGHBOUR: 'it returns false'. Refute it at one input. -/
def intcommitEqualsWrong : ChangeSpec := { name := "intcommitEquals", fn := fun _ => fun
  | [d1, d2] => { results := [.lit (.bool false)], args := [d1, d2] }
  | _ => none }
def IntcommitEqualsWrongFalsely : Prop := intcommitEqualsRow.holds Tryz.pinned (OpenSpec.ofChange intcommitEqualsWrong)

/-- 'dominolaw26.IntcommitCrosses': WHATEVER THE INPUT: true; the input reads as it did. -/
def intcommitCrossesSpec : ChangeSpec := { name := "intcommitCrosses", fn := fun _ => fun
  | [d1, d2, d3] => { results := [.lit (.bool true)], args := [d1, d2, d3] }
  | _ => none }
def intcommitCrossesRow : OpenClaim := { program := "ytnimhldbblfgbaagreat", sum := "ecbb6ebcaf6d567c8c9431ed28208178d84118838f537e2bb360d5ba4ac29c78", func := "domino/dominolaw26.IntcommitCrosses", spec := "intcommitCrosses", inPlace := ["internal/bytealg.abigen_runtime_cmpstring"], unfollowed := true, recurses := true, named := ["math/bits.divideError", "math/bits.overflowError"], apart := false }
def IntcommitCrossesSaid : Prop := intcommitCrossesRow.holds Tryz.pinned (OpenSpec.ofChange intcommitCrossesSpec)

/-- ITS FALSE NEIGHBOUR: 'it returns false'. Refute it at one input. -/
def intcommitCrossesWrong : ChangeSpec := { name := "intcommitCrosses", fn := fun _ => fun
  | [d1, d2, d3] => { results := [.lit (.bool false)], args := [d1, d2, d3] }
  | _ => none }
def IntcommitCrossesWrongFalsely : Prop := intcommitCrossesRow.holds Tryz.pinned (OpenSpec.ofChange intcommitCrossesWrong)

/- THE SECOND FORM. 'bulk': how many values and letters a reading holds, each counted each time it is reached (what is shared counts as often as it is met; a slice's spare places count too). A statement '..UptoSaid' is the law's where the arguments, and the package variables that the reading takes, are together of bulk at most 1048576: NARROWER than '..Said'. Prove '..Said' where nothing that the law and all that it calls make is longer than what came in: it says more and counts as full. Else prove '..UptoSaid'. A law counts once. -/
mutual
def uptoBulk {H : Type} : DataW H → Nat
  | .lit (.string bytes) => bytes.length + 1
  | .lit _ => 1
  | .nil => 1
  | .ptr d => uptoBulk d + 1
  | .slice elems spare => uptoBulkAll elems + uptoBulkAll spare + 1
  | .agg parts => uptoBulkAll parts + 1
  | .iface _ d => uptoBulk d + 1
  | .map entries => uptoBulkEntries entries + 1
  | .held _ => 1
def uptoBulkAll {H : Type} : List (DataW H) → Nat
  | [] => 0
  | d :: r => uptoBulk d + uptoBulkAll r
def uptoBulkEntries {H : Type} : List (Lit × DataW H) → Nat
  | [] => 0
  | x :: r => uptoBulkEntry x + uptoBulkEntries r
def uptoBulkEntry {H : Type} : Lit × DataW H → Nat
  | (.string bytes, d) => bytes.length + uptoBulk d + 1
  | (_, d) => uptoBulk d + 1
 end
def uptoSmall : (H : Type) → List (DataW H) → Bool := fun _ ds => decide (uptoBulkAll ds ≤ 1048576)
def OpenSpec.upto (s : _root_.Go.ChangeSpec) : _root_.Go.OpenSpec := { _root_.Go.OpenSpec.ofChange s with cond := some uptoSmall }

/-- 'dominolaw26.IntcommitProducts', WHERE WHAT IT READS IS OF BULK AT MOST 1048576: true; the input reads as it did. -/
def intcommitProductsUptoRow : OpenClaim := { program := "ytnimhldbblfgbaagreat", sum := "ecbb6ebcaf6d567c8c9431ed28208178d84118838f537e2bb360d5ba4ac29c78", func := "domino/dominolaw26.IntcommitProducts", spec := "intcommitProducts", inPlace := ["internal/bytealg.abigen_runtime_cmpstring"], unfollowed := true, recurses := true, named := ["math/bits.divideError", "math/bits.overflowError"], apart := false, narrowed := true }
def IntcommitProductsUptoSaid : Prop := intcommitProductsUptoRow.holds Tryz.pinned (OpenSpec.upto intcommitProductsSpec)

/-- 'dominolaw26.IntcommitWitnesses', WHERE WHAT IT READS IS OF BULK AT MOST 1048576: true; the input reads as it did. -/
def intcommitWitnessesUptoRow : OpenClaim := { program := "ytnimhldbblfgbaagreat", sum := "ecbb6ebcaf6d567c8c9431ed28208178d84118838f537e2bb360d5ba4ac29c78", func := "domino/dominolaw26.IntcommitWitnesses", spec := "intcommitWitnesses", inPlace := ["internal/bytealg.abigen_runtime_cmpstring"], unfollowed := true, recurses := true, named := ["math/bits.divideError", "math/bits.overflowError"], apart := false, narrowed := true }
def IntcommitWitnessesUptoSaid : Prop := intcommitWitnessesUptoRow.holds Tryz.pinned (OpenSpec.upto intcommitWitnessesSpec)

/-- 'dominolaw26.IntcommitKnows', WHERE WHAT IT READS IS OF BULK AT MOST 1048576: true; the input reads as it did. -/
def intcommitKnowsUptoRow : OpenClaim := { program := "ytnimhldbblfgbaagreat", sum := "ecbb6ebcaf6d567c8c9431ed28208178d84118838f537e2bb360d5ba4ac29c78", func := "domino/dominolaw26.IntcommitKnows", spec := "intcommitKnows", inPlace := ["internal/bytealg.abigen_runtime_cmpstring"], unfollowed := true, recurses := true, named := ["math/bits.divideError", "math/bits.overflowError"], apart := false, narrowed := true }
def IntcommitKnowsUptoSaid : Prop := intcommitKnowsUptoRow.holds Tryz.pinned (OpenSpec.upto intcommitKnowsSpec)

/-- 'dominolaw26.IntcommitMultiplies', WHERE WHAT IT READS IS OF BULK AT MOST 1048576: true; the input reads as it did. -/
def intcommitMultipliesUptoRow : OpenClaim := { program := "ytnimhldbblfgbaagreat", sum := "ecbb6ebcaf6d567c8c9431ed28208178d84118838f537e2bb360d5ba4ac29c78", func := "domino/dominolaw26.IntcommitMultiplies", spec := "intcommitMultiplies", inPlace := ["internal/bytealg.abigen_runtime_cmpstring"], unfollowed := true, recurses := true, named := ["math/bits.divideError", "math/bits.overflowError"], apart := false, narrowed := true }
def IntcommitMultipliesUptoSaid : Prop := intcommitMultipliesUptoRow.holds Tryz.pinned (OpenSpec.upto intcommitMultipliesSpec)

/-- 'dominolaw26.IntcommitOpens', WHERE WHAT IT READS IS OF BULK AT MOST 1048576: true; the input reads as it did. -/
def intcommitOpensUptoRow : OpenClaim := { program := "ytnimhldbblfgbaagreat", sum := "ecbb6ebcaf6d567c8c9431ed28208178d84118838f537e2bb360d5ba4ac29c78", func := "domino/dominolaw26.IntcommitOpens", spec := "intcommitOpens", inPlace := ["internal/bytealg.abigen_runtime_cmpstring"], unfollowed := true, recurses := true, named := ["math/bits.divideError", "math/bits.overflowError"], apart := false, narrowed := true }
def IntcommitOpensUptoSaid : Prop := intcommitOpensUptoRow.holds Tryz.pinned (OpenSpec.upto intcommitOpensSpec)

/-- 'dominolaw26.IntcommitEquals', WHERE WHAT IT READS IS OF BULK AT MOST 1048576: true; the input reads as it did. -/
def intcommitEqualsUptoRow : OpenClaim := { program := "ytnimhldbblfgbaagreat", sum := "ecbb6ebcaf6d567c8c9431ed28208178d84118838f537e2bb360d5ba4ac29c78", func := "domino/dominolaw26.IntcommitEquals", spec := "intcommitEquals", inPlace := ["internal/bytealg.abigen_runtime_cmpstring"], unfollowed := true, recurses := true, named := ["math/bits.divideError", "math/bits.overflowError"], apart := false, narrowed := true }
def IntcommitEqualsUptoSaid : Prop := intcommitEqualsUptoRow.holds Tryz.pinned (OpenSpec.upto intcommitEqualsSpec)

/-- 'dominolaw26.IntcommitCrosses', WHERE WHAT IT READS IS OF BULK AT MOST 1048576: true; the input reads as it did. -/
def intcommitCrossesUptoRow : OpenClaim := { program := "ytnimhldbblfgbaagreat", sum := "ecbb6ebcaf6d567c8c9431ed28208178d84118838f537e2bb360d5ba4ac29c78", func := "domino/dominolaw26.IntcommitCrosses", spec := "intcommitCrosses", inPlace := ["internal/bytealg.abigen_runtime_cmpstring"], unfollowed := true, recurses := true, named := ["math/bits.divideError", "math/bits.overflowError"], apart := false, narrowed := true }
def IntcommitCrossesUptoSaid : Prop := intcommitCrossesUptoRow.holds Tryz.pinned (OpenSpec.upto intcommitCrossesSpec)

end Rows
end Go.Proofs.YtnimhldbblfgbaaGreat
