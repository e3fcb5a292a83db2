/-
  No cell of these rows narrows 'for every input' (looked for: loops, veiled, ifaces, maps, wideKeys, modest, calm, conditions, laid).
  DERIVED. THE GIVEN ROWS OF THIS SEAT. 12 by the template 'for every input the law returns true; each argument reads behind the call as it read before'; 0 by the template 'total and deterministic' (their statements: YteocnenjllddaaaTotals.lean).
  GIVEN WITH THE SEED: the statements are not yours to turn. If you find one false, say at which input.
  Laid BY PROGRAM, IN A SANDBOX (cutbox-rows.mjs): the forced cells as the released guide's own fill.sh prints them over the translation 3746b53137d6a8d9… (all of the seat's roots in one cut). By AI agents, Wed Nov 11 2026. No macro, syntax, notation, axiom, sorry.
-/
import Derived.Test.YteocnenjllddaaaChecked
import GoSem.Claim
import GoSem.ClaimJoined
import GoSem.ClaimMapViews
import Derived.JoinedTies
import Derived.KernelRfl
namespace Go.Proofs.Yteocnenjllddaaa
/- THE CELL 'sum', in the pinned program and in every row, IS THE sha256 OF THE DUMP (.gsa) THAT YteocnenjllddaaaProg.lean LOADS. Nothing in Lean hashes anything: it is a label: what it is worth is what the hold of that sum in a sandbox is worth. -/
noncomputable def Try.pinned : Pinned := { name := "yteocnenjllddaaa", sum := "3746b53137d6a8d991c3153b8df3019bd3b289534cb80c92051b4af9ee428c5f", checked := Try.checked }
namespace Rows
def none {H : Type} : Left H := { results := [], args := [] }

/-- 'laws.FnExactMidpointOf': WHATEVER THE INPUT: true; the input reads as it did. -/
def fnExactMidpointOfSpec : ChangeSpec := { name := "fnExactMidpointOf", fn := fun _ => fun
  | [d1, d2, d3] => { results := [.lit (.bool true)], args := [d1, d2, d3] }
  | _ => none }
def fnExactMidpointOfRow : OpenClaim := { program := "yteocnenjllddaaa", sum := "3746b53137d6a8d991c3153b8df3019bd3b289534cb80c92051b4af9ee428c5f", func := "loop.example/g01370/laws.FnExactMidpointOf", spec := "fnExactMidpointOf", unfollowed := true, recurses := true, apart := false }
def FnExactMidpointOfSaid : Prop := fnExactMidpointOfRow.holds Try.pinned (OpenSpec.ofChange fnExactMidpointOfSpec)

/-- ITS FALSE NEIGHBOUR: 'it returns false'. Refute it at one input. -/
def fnExactMidpointOfWrong : ChangeSpec := { name := "fnExactMidpointOf", fn := fun _ => fun
  | [d1, d2, d3] => { results := [.lit (.bool false)], args := [d1, d2, d3] }
  | _ => none }
def FnExactMidpointOfWrongFalsely : Prop := fnExactMidpointOfRow.holds Try.pinned (OpenSpec.ofChange fnExactMidpointOfWrong)

/-- 'laws.FnExactLineOf': WHATEVER THE INPUT: true; the input reads as it did. -/
def fnExactLineOfSpec : ChangeSpec := { name := "fnExactLineOf", fn := fun _ => fun
  | [d1, d2, d3, d4] => { results := [.lit (.bool true)], args := [d1, d2, d3, d4] }
  | _ => none }
def fnExactLineOfRow : OpenClaim := { program := "yteocnenjllddaaa", sum := "3746b53137d6a8d991c3153b8df3019bd3b289534cb80c92051b4af9ee428c5f", func := "loop.example/g01370/laws.FnExactLineOf", spec := "fnExactLineOf", unfollowed := true, recurses := true, apart := false }
def FnExactLineOfSaid : Prop := fnExactLineOfRow.holds Try.pinned (OpenSpec.ofChange fnExactLineOfSpec)

/-- ITS FALSE NEIGHBOUR: 'it returns false'. Refute it at one input. -/
def fnExactLineOfWrong : ChangeSpec := { name := "fnExactLineOf", fn := fun _ => fun
  | [d1, d2, d3, d4] => { results := [.lit (.bool false)], args := [d1, d2, d3, d4] }
  | _ => none }
def FnExactLineOfWrongFalsely : Prop := fnExactLineOfRow.holds Try.pinned (OpenSpec.ofChange fnExactLineOfWrong)

/-- 'laws.FnExactThirdSpreads': WHATEVER THE INPUT: true; the input reads as it did. -/
def fnExactThirdSpreadsSpec : ChangeSpec := { name := "fnExactThirdSpreads", fn := fun _ => fun
  | [d1, d2, d3] => { results := [.lit (.bool true)], args := [d1, d2, d3] }
  | _ => none }
def fnExactThirdSpreadsRow : OpenClaim := { program := "yteocnenjllddaaa", sum := "3746b53137d6a8d991c3153b8df3019bd3b289534cb80c92051b4af9ee428c5f", func := "loop.example/g01370/laws.FnExactThirdSpreads", spec := "fnExactThirdSpreads", unfollowed := true, recurses := true, apart := false }
def FnExactThirdSpreadsSaid : Prop := fnExactThirdSpreadsRow.holds Try.pinned (OpenSpec.ofChange fnExactThirdSpreadsSpec)

/-- ITS FALSE NEIGHBOUR: 'it returns false'. Refute it at one input. -/
def fnExactThirdSpreadsWrong : ChangeSpec := { name := "fnExactThirdSpreads", fn := fun _ => fun
  | [d1, d2, d3] => { results := [.lit (.bool false)], args := [d1, d2, d3] }
  | _ => none }
def FnExactThirdSpreadsWrongFalsely : Prop := fnExactThirdSpreadsRow.holds Try.pinned (OpenSpec.ofChange fnExactThirdSpreadsWrong)

/-- 'laws.FnExactRatioOf': WHATEVER THE INPUT: true; the input reads as it did. -/
def fnExactRatioOfSpec : ChangeSpec := { name := "fnExactRatioOf", fn := fun _ => fun
  | [d1, d2, d3, d4] => { results := [.lit (.bool true)], args := [d1, d2, d3, d4] }
  | _ => none }
def fnExactRatioOfRow : OpenClaim := { program := "yteocnenjllddaaa", sum := "3746b53137d6a8d991c3153b8df3019bd3b289534cb80c92051b4af9ee428c5f", func := "loop.example/g01370/laws.FnExactRatioOf", spec := "fnExactRatioOf", unfollowed := true, recurses := true, apart := false }
def FnExactRatioOfSaid : Prop := fnExactRatioOfRow.holds Try.pinned (OpenSpec.ofChange fnExactRatioOfSpec)

/-- ITS FALSE NEIGHBOUR: 'it returns false'. Refute it at one input. -/
def fnExactRatioOfWrong : ChangeSpec := { name := "fnExactRatioOf", fn := fun _ => fun
  | [d1, d2, d3, d4] => { results := [.lit (.bool false)], args := [d1, d2, d3, d4] }
  | _ => none }
def FnExactRatioOfWrongFalsely : Prop := fnExactRatioOfRow.holds Try.pinned (OpenSpec.ofChange fnExactRatioOfWrong)

/-- 'laws.FnExactHasRightAngle': WHATEVER THE INPUT: true; the input reads as it did. -/
def fnExactHasRightAngleSpec : ChangeSpec := { name := "fnExactHasRightAngle", fn := fun _ => fun
  | [d1, d2, d3, d4, d5] => { results := [.lit (.bool true)], args := [d1, d2, d3, d4, d5] }
  | _ => none }
def fnExactHasRightAngleRow : OpenClaim := { program := "yteocnenjllddaaa", sum := "3746b53137d6a8d991c3153b8df3019bd3b289534cb80c92051b4af9ee428c5f", func := "loop.example/g01370/laws.FnExactHasRightAngle", spec := "fnExactHasRightAngle", unfollowed := true, recurses := true, apart := false }
def FnExactHasRightAngleSaid : Prop := fnExactHasRightAngleRow.holds Try.pinned (OpenSpec.ofChange fnExactHasRightAngleSpec)

/-- ITS FALSE NEIGHBOUR: 'it returns false'. Refute it at one input. -/
def fnExactHasRightAngleWrong : ChangeSpec := { name := "fnExactHasRightAngle", fn := fun _ => fun
  | [d1, d2, d3, d4, d5] => { results := [.lit (.bool false)], args := [d1, d2, d3, d4, d5] }
  | _ => none }
def FnExactHasRightAngleWrongFalsely : Prop := fnExactHasRightAngleRow.holds Try.pinned (OpenSpec.ofChange fnExactHasRightAngleWrong)

/-- 'laws.FnExactCombinationOf': WHATEVER THE INPUT: true; the input reads as it did. -/
def fnExactCombinationOfSpec : ChangeSpec := { name := "fnExactCombinationOf", fn := fun _ => fun
  | [d1, d2, d3, d4] => { results := [.lit (.bool true)], args := [d1, d2, d3, d4] }
  | _ => none }
def fnExactCombinationOfRow : OpenClaim := { program := "yteocnenjllddaaa", sum := "3746b53137d6a8d991c3153b8df3019bd3b289534cb80c92051b4af9ee428c5f", func := "loop.example/g01370/laws.FnExactCombinationOf", spec := "fnExactCombinationOf", unfollowed := true, recurses := true, apart := false }
def FnExactCombinationOfSaid : Prop := fnExactCombinationOfRow.holds Try.pinned (OpenSpec.ofChange fnExactCombinationOfSpec)

/-- ITS FALSE NEIGHBOUR: 'it returns false'. Refute it at one input. -/
def fnExactCombinationOfWrong : ChangeSpec := { name := "fnExactCombinationOf", fn := fun _ => fun
  | [d1, d2, d3, d4] => { results := [.lit (.bool false)], args := [d1, d2, d3, d4] }
  | _ => none }
def FnExactCombinationOfWrongFalsely : Prop := fnExactCombinationOfRow.holds Try.pinned (OpenSpec.ofChange fnExactCombinationOfWrong)

/-- 'laws.FnExactIsNullLine': WHATEVER THE INPUT: true; the input reads as it did. -/
def fnExactIsNullLineSpec : ChangeSpec := { name := "fnExactIsNullLine", fn := fun _ => fun
  | [d1, d2, d3] => { results := [.lit (.bool true)], args := [d1, d2, d3] }
  | _ => none }
def fnExactIsNullLineRow : OpenClaim := { program := "yteocnenjllddaaa", sum := "3746b53137d6a8d991c3153b8df3019bd3b289534cb80c92051b4af9ee428c5f", func := "loop.example/g01370/laws.FnExactIsNullLine", spec := "fnExactIsNullLine", unfollowed := true, recurses := true, apart := false }
def FnExactIsNullLineSaid : Prop := fnExactIsNullLineRow.holds Try.pinned (OpenSpec.ofChange fnExactIsNullLineSpec)

/-- ITS FALSE NEIGHBOUR: 'it returns false'. Refute it at one input. -/
def fnExactIsNullLineWrong : ChangeSpec := { name := "fnExactIsNullLine", fn := fun _ => fun
  | [d1, d2, d3] => { results := [.lit (.bool false)], args := [d1, d2, d3] }
  | _ => none }
def FnExactIsNullLineWrongFalsely : Prop := fnExactIsNullLineRow.holds Try.pinned (OpenSpec.ofChange fnExactIsNullLineWrong)

/-- 'laws.FnExactQuadrance': WHATEVER THE INPUT: true; the input reads as it did. -/
def fnExactQuadranceSpec : ChangeSpec := { name := "fnExactQuadrance", fn := fun _ => fun
  | [d1, d2, d3, d4] => { results := [.lit (.bool true)], args := [d1, d2, d3, d4] }
  | _ => none }
def fnExactQuadranceRow : OpenClaim := { program := "yteocnenjllddaaa", sum := "3746b53137d6a8d991c3153b8df3019bd3b289534cb80c92051b4af9ee428c5f", func := "loop.example/g01370/laws.FnExactQuadrance", spec := "fnExactQuadrance", unfollowed := true, recurses := true, apart := false }
def FnExactQuadranceSaid : Prop := fnExactQuadranceRow.holds Try.pinned (OpenSpec.ofChange fnExactQuadranceSpec)

/-- ITS FALSE NEIGHBOUR: 'it returns false'. Refute it at one input. -/
def fnExactQuadranceWrong : ChangeSpec := { name := "fnExactQuadrance", fn := fun _ => fun
  | [d1, d2, d3, d4] => { results := [.lit (.bool false)], args := [d1, d2, d3, d4] }
  | _ => none }
def FnExactQuadranceWrongFalsely : Prop := fnExactQuadranceRow.holds Try.pinned (OpenSpec.ofChange fnExactQuadranceWrong)

/-- 'laws.FnExactArePerpendicular': WHATEVER THE INPUT: true; the input reads as it did. -/
def fnExactArePerpendicularSpec : ChangeSpec := { name := "fnExactArePerpendicular", fn := fun _ => fun
  | [d1, d2, d3, d4] => { results := [.lit (.bool true)], args := [d1, d2, d3, d4] }
  | _ => none }
def fnExactArePerpendicularRow : OpenClaim := { program := "yteocnenjllddaaa", sum := "3746b53137d6a8d991c3153b8df3019bd3b289534cb80c92051b4af9ee428c5f", func := "loop.example/g01370/laws.FnExactArePerpendicular", spec := "fnExactArePerpendicular", unfollowed := true, recurses := true, apart := false }
def FnExactArePerpendicularSaid : Prop := fnExactArePerpendicularRow.holds Try.pinned (OpenSpec.ofChange fnExactArePerpendicularSpec)

/-- ITS FALSE NEIGHBOUR: 'it returns false'. Refute it at one input. -/
def fnExactArePerpendicularWrong : ChangeSpec := { name := "fnExactArePerpendicular", fn := fun _ => fun
  | [d1, d2, d3, d4] => { results := [.lit (.bool false)], args := [d1, d2, d3, d4] }
  | _ => none }
def FnExactArePerpendicularWrongFalsely : Prop := fnExactArePerpendicularRow.holds Try.pinned (OpenSpec.ofChange fnExactArePerpendicularWrong)

/-- 'laws.FnExactCountAt': WHATEVER THE INPUT: true; the input reads as it did. -/
def fnExactCountAtSpec : ChangeSpec := { name := "fnExactCountAt", fn := fun _ => fun
  | [d1, d2, d3] => { results := [.lit (.bool true)], args := [d1, d2, d3] }
  | _ => none }
def fnExactCountAtRow : OpenClaim := { program := "yteocnenjllddaaa", sum := "3746b53137d6a8d991c3153b8df3019bd3b289534cb80c92051b4af9ee428c5f", func := "loop.example/g01370/laws.FnExactCountAt", spec := "fnExactCountAt", unfollowed := true, recurses := true, apart := false }
def FnExactCountAtSaid : Prop := fnExactCountAtRow.holds Try.pinned (OpenSpec.ofChange fnExactCountAtSpec)

/-- ITS FALSE NEIGHBOUR: 'it returns false'. Refute it at one input. -/
def fnExactCountAtWrong : ChangeSpec := { name := "fnExactCountAt", fn := fun _ => fun
  | [d1, d2, d3] => { results := [.lit (.bool false)], args := [d1, d2, d3] }
  | _ => none }
def FnExactCountAtWrongFalsely : Prop := fnExactCountAtRow.holds Try.pinned (OpenSpec.ofChange fnExactCountAtWrong)

/-- 'laws.FnExactLinesThrough': WHATEVER THE INPUT: true; the input reads as it did. -/
def fnExactLinesThroughSpec : ChangeSpec := { name := "fnExactLinesThrough", fn := fun _ => fun
  | [d1, d2] => { results := [.lit (.bool true)], args := [d1, d2] }
  | _ => none }
def fnExactLinesThroughRow : OpenClaim := { program := "yteocnenjllddaaa", sum := "3746b53137d6a8d991c3153b8df3019bd3b289534cb80c92051b4af9ee428c5f", func := "loop.example/g01370/laws.FnExactLinesThrough", spec := "fnExactLinesThrough", unfollowed := true, recurses := true, apart := false }
def FnExactLinesThroughSaid : Prop := fnExactLinesThroughRow.holds Try.pinned (OpenSpec.ofChange fnExactLinesThroughSpec)

/-- ITS FALSE NEIGHBOUR: 'it returns false'. Refute it at one input. -/
def fnExactLinesThroughWrong : ChangeSpec := { name := "fnExactLinesThrough", fn := fun _ => fun
  | [d1, d2] => { results := [.lit (.bool false)], args := [d1, d2] }
  | _ => none }
def FnExactLinesThroughWrongFalsely : Prop := fnExactLinesThroughRow.holds Try.pinned (OpenSpec.ofChange fnExactLinesThroughWrong)

/-- 'laws.FnExactParallelThrough': WHATEVER THE INPUT: true; the input reads as it did. -/
def fnExactParallelThroughSpec : ChangeSpec := { name := "fnExactParallelThrough", fn := fun _ => fun
  | [d1, d2, d3] => { results := [.lit (.bool true)], args := [d1, d2, d3] }
  | _ => none }
def fnExactParallelThroughRow : OpenClaim := { program := "yteocnenjllddaaa", sum := "3746b53137d6a8d991c3153b8df3019bd3b289534cb80c92051b4af9ee428c5f", func := "loop.example/g01370/laws.FnExactParallelThrough", spec := "fnExactParallelThrough", unfollowed := true, recurses := true, apart := false }
def FnExactParallelThroughSaid : Prop := fnExactParallelThroughRow.holds Try.pinned (OpenSpec.ofChange fnExactParallelThroughSpec)

/-- ITS FALSE NEIGHBOUR: 'it returns false'. Refute it at one input. -/
def fnExactParallelThroughWrong : ChangeSpec := { name := "fnExactParallelThrough", fn := fun _ => fun
  | [d1, d2, d3] => { results := [.lit (.bool false)], args := [d1, d2, d3] }
  | _ => none }
def FnExactParallelThroughWrongFalsely : Prop := fnExactParallelThroughRow.holds Try.pinned (OpenSpec.ofChange fnExactParallelThroughWrong)

/- THE SECOND FORM. 'bulk': how many values and letters a reading holds, each counted each time it is reached (what is shared counts as often as it is met; a slice's spare places count too). A statement '..UptoSaid' is the law's where the arguments, and the package variables that the reading takes, are together of bulk at most 1048576: NARROWER than '..Said'. Prove '..Said' where nothing that the law and all that it calls make is longer than what came in: it says more and counts as full. Else prove '..UptoSaid'. A law counts once. -/
mutual
def uptoBulk {H : Type} : DataW H → Nat
  | .lit (.string bytes) => bytes.length + 1
  | .lit _ => 1
  | .nil => 1
  | .ptr d => uptoBulk d + 1
  | .slice elems spare => uptoBulkAll elems + uptoBulkAll spare + 1
  | .agg parts => uptoBulkAll parts + 1
  | .iface _ d => uptoBulk d + 1
  | .map entries => uptoBulkEntries entries + 1
  | .held _ => 1
def uptoBulkAll {H : Type} : List (DataW H) → Nat
  | [] => 0
  | d :: r => uptoBulk d + uptoBulkAll r
def uptoBulkEntries {H : Type} : List (Lit × DataW H) → Nat
  | [] => 0
  | x :: r => uptoBulkEntry x + uptoBulkEntries r
def uptoBulkEntry {H : Type} : Lit × DataW H → Nat
  | (.string bytes, d) => bytes.length + uptoBulk d + 1
  | (_, d) => uptoBulk d + 1
 end
def uptoSmall : (H : Type) → List (DataW H) → Bool := fun _ ds => decide (uptoBulkAll ds ≤ 1048576)
def OpenSpec.upto (s : _root_.Go.ChangeSpec) : _root_.Go.OpenSpec := { _root_.Go.OpenSpec.ofChange s with cond := some uptoSmall }

/-- 'laws.FnExactMidpointOf', WHERE WHAT IT READS IS OF BULK AT MOST 1048576: true; the input reads as it did. -/
def fnExactMidpointOfUptoRow : OpenClaim := { program := "yteocnenjllddaaa", sum := "3746b53137d6a8d991c3153b8df3019bd3b289534cb80c92051b4af9ee428c5f", func := "loop.example/g01370/laws.FnExactMidpointOf", spec := "fnExactMidpointOf", unfollowed := true, recurses := true, apart := false, narrowed := true }
def FnExactMidpointOfUptoSaid : Prop := fnExactMidpointOfUptoRow.holds Try.pinned (OpenSpec.upto fnExactMidpointOfSpec)

/-- 'laws.FnExactLineOf', WHERE WHAT IT READS IS OF BULK AT MOST 1048576: true; the input reads as it did. -/
def fnExactLineOfUptoRow : OpenClaim := { program := "yteocnenjllddaaa", sum := "3746b53137d6a8d991c3153b8df3019bd3b289534cb80c92051b4af9ee428c5f", func := "loop.example/g01370/laws.FnExactLineOf", spec := "fnExactLineOf", unfollowed := true, recurses := true, apart := false, narrowed := true }
def FnExactLineOfUptoSaid : Prop := fnExactLineOfUptoRow.holds Try.pinned (OpenSpec.upto fnExactLineOfSpec)

/-- 'laws.FnExactThirdSpreads', WHERE WHAT IT READS IS OF BULK AT MOST 1048576: true; the input reads as it did. -/
def fnExactThirdSpreadsUptoRow : OpenClaim := { program := "yteocnenjllddaaa", sum := "3746b53137d6a8d991c3153b8df3019bd3b289534cb80c92051b4af9ee428c5f", func := "loop.example/g01370/laws.FnExactThirdSpreads", spec := "fnExactThirdSpreads", unfollowed := true, recurses := true, apart := false, narrowed := true }
def FnExactThirdSpreadsUptoSaid : Prop := fnExactThirdSpreadsUptoRow.holds Try.pinned (OpenSpec.upto fnExactThirdSpreadsSpec)

/-- 'laws.FnExactRatioOf', WHERE WHAT IT READS IS OF BULK AT MOST 1048576: true; the input reads as it did. -/
def fnExactRatioOfUptoRow : OpenClaim := { program := "yteocnenjllddaaa", sum := "3746b53137d6a8d991c3153b8df3019bd3b289534cb80c92051b4af9ee428c5f", func := "loop.example/g01370/laws.FnExactRatioOf", spec := "fnExactRatioOf", unfollowed := true, recurses := true, apart := false, narrowed := true }
def FnExactRatioOfUptoSaid : Prop := fnExactRatioOfUptoRow.holds Try.pinned (OpenSpec.upto fnExactRatioOfSpec)

/-- 'laws.FnExactHasRightAngle', WHERE WHAT IT READS IS OF BULK AT MOST 1048576: true; the input reads as it did. -/
def fnExactHasRightAngleUptoRow : OpenClaim := { program := "yteocnenjllddaaa", sum := "3746b53137d6a8d991c3153b8df3019bd3b289534cb80c92051b4af9ee428c5f", func := "loop.example/g01370/laws.FnExactHasRightAngle", spec := "fnExactHasRightAngle", unfollowed := true, recurses := true, apart := false, narrowed := true }
def FnExactHasRightAngleUptoSaid : Prop := fnExactHasRightAngleUptoRow.holds Try.pinned (OpenSpec.upto fnExactHasRightAngleSpec)

/-- 'laws.FnExactCombinationOf', WHERE WHAT IT READS IS OF BULK AT MOST 1048576: true; the input reads as it did. -/
def fnExactCombinationOfUptoRow : OpenClaim := { program := "yteocnenjllddaaa", sum := "3746b53137d6a8d991c3153b8df3019bd3b289534cb80c92051b4af9ee428c5f", func := "loop.example/g01370/laws.FnExactCombinationOf", spec := "fnExactCombinationOf", unfollowed := true, recurses := true, apart := false, narrowed := true }
def FnExactCombinationOfUptoSaid : Prop := fnExactCombinationOfUptoRow.holds Try.pinned (OpenSpec.upto fnExactCombinationOfSpec)

/-- 'laws.FnExactIsNullLine', WHERE WHAT IT READS IS OF BULK AT MOST 1048576: true; the input reads as it did. -/
def fnExactIsNullLineUptoRow : OpenClaim := { program := "yteocnenjllddaaa", sum := "3746b53137d6a8d991c3153b8df3019bd3b289534cb80c92051b4af9ee428c5f", func := "loop.example/g01370/laws.FnExactIsNullLine", spec := "fnExactIsNullLine", unfollowed := true, recurses := true, apart := false, narrowed := true }
def FnExactIsNullLineUptoSaid : Prop := fnExactIsNullLineUptoRow.holds Try.pinned (OpenSpec.upto fnExactIsNullLineSpec)

/-- 'laws.FnExactQuadrance', WHERE WHAT IT READS IS OF BULK AT MOST 1048576: true; the input reads as it did. -/
def fnExactQuadranceUptoRow : OpenClaim := { program := "yteocnenjllddaaa", sum := "3746b53137d6a8d991c3153b8df3019bd3b289534cb80c92051b4af9ee428c5f", func := "loop.example/g01370/laws.FnExactQuadrance", spec := "fnExactQuadrance", unfollowed := true, recurses := true, apart := false, narrowed := true }
def FnExactQuadranceUptoSaid : Prop := fnExactQuadranceUptoRow.holds Try.pinned (OpenSpec.upto fnExactQuadranceSpec)

/-- 'laws.FnExactArePerpendicular', WHERE WHAT IT READS IS OF BULK AT MOST 1048576: true; the input reads as it did. -/
def fnExactArePerpendicularUptoRow : OpenClaim := { program := "yteocnenjllddaaa", sum := "3746b53137d6a8d991c3153b8df3019bd3b289534cb80c92051b4af9ee428c5f", func := "loop.example/g01370/laws.FnExactArePerpendicular", spec := "fnExactArePerpendicular", unfollowed := true, recurses := true, apart := false, narrowed := true }
def FnExactArePerpendicularUptoSaid : Prop := fnExactArePerpendicularUptoRow.holds Try.pinned (OpenSpec.upto fnExactArePerpendicularSpec)

/-- 'laws.FnExactCountAt', WHERE WHAT IT READS IS OF BULK AT MOST 1048576: true; the input reads as it did. -/
def fnExactCountAtUptoRow : OpenClaim := { program := "yteocnenjllddaaa", sum := "3746b53137d6a8d991c3153b8df3019bd3b289534cb80c92051b4af9ee428c5f", func := "loop.example/g01370/laws.FnExactCountAt", spec := "fnExactCountAt", unfollowed := true, recurses := true, apart := false, narrowed := true }
def FnExactCountAtUptoSaid : Prop := fnExactCountAtUptoRow.holds Try.pinned (OpenSpec.upto fnExactCountAtSpec)

/-- 'laws.FnExactLinesThrough', WHERE WHAT IT READS IS OF BULK AT MOST 1048576: true; the input reads as it did. -/
def fnExactLinesThroughUptoRow : OpenClaim := { program := "yteocnenjllddaaa", sum := "3746b53137d6a8d991c3153b8df3019bd3b289534cb80c92051b4af9ee428c5f", func := "loop.example/g01370/laws.FnExactLinesThrough", spec := "fnExactLinesThrough", unfollowed := true, recurses := true, apart := false, narrowed := true }
def FnExactLinesThroughUptoSaid : Prop := fnExactLinesThroughUptoRow.holds Try.pinned (OpenSpec.upto fnExactLinesThroughSpec)

/-- 'laws.FnExactParallelThrough', WHERE WHAT IT READS IS OF BULK AT MOST 1048576: true; the input reads as it did. -/
def fnExactParallelThroughUptoRow : OpenClaim := { program := "yteocnenjllddaaa", sum := "3746b53137d6a8d991c3153b8df3019bd3b289534cb80c92051b4af9ee428c5f", func := "loop.example/g01370/laws.FnExactParallelThrough", spec := "fnExactParallelThrough", unfollowed := true, recurses := true, apart := false, narrowed := true }
def FnExactParallelThroughUptoSaid : Prop := fnExactParallelThroughUptoRow.holds Try.pinned (OpenSpec.upto fnExactParallelThroughSpec)

end Rows
end Go.Proofs.Yteocnenjllddaaa
