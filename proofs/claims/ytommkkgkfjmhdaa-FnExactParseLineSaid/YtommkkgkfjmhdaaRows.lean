/-
  No cell of these rows narrows 'for every input' (looked for: loops, veiled, ifaces, maps, wideKeys, modest, calm, conditions, laid).
  DERIVED. THE GIVEN ROWS OF THIS SEAT. 7 by the template 'for every input the law returns true; each argument reads behind the call as it read before'; 0 by the template 'total and deterministic' (their statements: YtommkkgkfjmhdaaTotals.lean).
  GIVEN WITH THE SEED: the statements are not yours to turn. If you find one false, say at which input.
  Laid BY PROGRAM, IN A SANDBOX (cutbox-rows.mjs): the forced cells as the released guide's own fill.sh prints them over the translation 7a632f1252ece325… (all of the seat's roots in one cut). By AI agents, Wed Nov 11 2026. No macro, syntax, notation, axiom, sorry.
-/
import Derived.Test.YtommkkgkfjmhdaaChecked
import GoSem.Claim
import GoSem.ClaimJoined
import GoSem.ClaimMapViews
import Derived.JoinedTies
import Derived.KernelRfl
namespace Go.Proofs.Ytommkkgkfjmhdaa
/- THE CELL 'sum', in the pinned program and in every row, IS THE sha256 OF THE DUMP (.gsa) THAT YtommkkgkfjmhdaaProg.lean LOADS. Nothing in Lean hashes anything: it is a label: what it is worth is what the hold of that sum in a sandbox is worth. -/
noncomputable def Try.pinned : Pinned := { name := "ytommkkgkfjmhdaa", sum := "7a632f1252ece325e60dcdfd645c923f017386b9d88c8e3f683ff24b704912d3", checked := Try.checked }
namespace Rows
def none {H : Type} : Left H := { results := [], args := [] }

/-- 'laws.FnExactFootOf': WHATEVER THE INPUT: true; the input reads as it did. -/
def fnExactFootOfSpec : ChangeSpec := { name := "fnExactFootOf", fn := fun _ => fun
  | [d1, d2, d3, d4] => { results := [.lit (.bool true)], args := [d1, d2, d3, d4] }
  | _ => none }
def fnExactFootOfRow : OpenClaim := { program := "ytommkkgkfjmhdaa", sum := "7a632f1252ece325e60dcdfd645c923f017386b9d88c8e3f683ff24b704912d3", func := "loop.example/g01370/laws.FnExactFootOf", spec := "fnExactFootOf", unfollowed := true, recurses := true, apart := false }
def FnExactFootOfSaid : Prop := fnExactFootOfRow.holds Try.pinned (OpenSpec.ofChange fnExactFootOfSpec)

/-- ITS FALSE NEIGHBOUR: 'it returns false'. Refute it at one input. -/
def fnExactFootOfWrong : ChangeSpec := { name := "fnExactFootOf", fn := fun _ => fun
  | [d1, d2, d3, d4] => { results := [.lit (.bool false)], args := [d1, d2, d3, d4] }
  | _ => none }
def FnExactFootOfWrongFalsely : Prop := fnExactFootOfRow.holds Try.pinned (OpenSpec.ofChange fnExactFootOfWrong)

/-- 'laws.FnExactSpreadsOfTriangle': WHATEVER THE INPUT: true; the input reads as it did. -/
def fnExactSpreadsOfTriangleSpec : ChangeSpec := { name := "fnExactSpreadsOfTriangle", fn := fun _ => fun
  | [d1, d2, d3, d4, d5] => { results := [.lit (.bool true)], args := [d1, d2, d3, d4, d5] }
  | _ => none }
def fnExactSpreadsOfTriangleRow : OpenClaim := { program := "ytommkkgkfjmhdaa", sum := "7a632f1252ece325e60dcdfd645c923f017386b9d88c8e3f683ff24b704912d3", func := "loop.example/g01370/laws.FnExactSpreadsOfTriangle", spec := "fnExactSpreadsOfTriangle", unfollowed := true, recurses := true, apart := false }
def FnExactSpreadsOfTriangleSaid : Prop := fnExactSpreadsOfTriangleRow.holds Try.pinned (OpenSpec.ofChange fnExactSpreadsOfTriangleSpec)

/-- ITS FALSE NEIGHBOUR: 'it returns false'. Refute it at one input. -/
def fnExactSpreadsOfTriangleWrong : ChangeSpec := { name := "fnExactSpreadsOfTriangle", fn := fun _ => fun
  | [d1, d2, d3, d4, d5] => { results := [.lit (.bool false)], args := [d1, d2, d3, d4, d5] }
  | _ => none }
def FnExactSpreadsOfTriangleWrongFalsely : Prop := fnExactSpreadsOfTriangleRow.holds Try.pinned (OpenSpec.ofChange fnExactSpreadsOfTriangleWrong)

/-- 'laws.FnExactLinesWithSpread': WHATEVER THE INPUT: true; the input reads as it did. -/
def fnExactLinesWithSpreadSpec : ChangeSpec := { name := "fnExactLinesWithSpread", fn := fun _ => fun
  | [d1, d2, d3, d4, d5] => { results := [.lit (.bool true)], args := [d1, d2, d3, d4, d5] }
  | _ => none }
def fnExactLinesWithSpreadRow : OpenClaim := { program := "ytommkkgkfjmhdaa", sum := "7a632f1252ece325e60dcdfd645c923f017386b9d88c8e3f683ff24b704912d3", func := "loop.example/g01370/laws.FnExactLinesWithSpread", spec := "fnExactLinesWithSpread", unfollowed := true, recurses := true, apart := false }
def FnExactLinesWithSpreadSaid : Prop := fnExactLinesWithSpreadRow.holds Try.pinned (OpenSpec.ofChange fnExactLinesWithSpreadSpec)

/-- ITS FALSE NEIGHBOUR: 'it returns false'. Refute it at one input. -/
def fnExactLinesWithSpreadWrong : ChangeSpec := { name := "fnExactLinesWithSpread", fn := fun _ => fun
  | [d1, d2, d3, d4, d5] => { results := [.lit (.bool false)], args := [d1, d2, d3, d4, d5] }
  | _ => none }
def FnExactLinesWithSpreadWrongFalsely : Prop := fnExactLinesWithSpreadRow.holds Try.pinned (OpenSpec.ofChange fnExactLinesWithSpreadWrong)

/-- 'laws.FnExactBisectorsOf': WHATEVER THE INPUT: true; the input reads as it did. -/
def fnExactBisectorsOfSpec : ChangeSpec := { name := "fnExactBisectorsOf", fn := fun _ => fun
  | [d1, d2, d3, d4] => { results := [.lit (.bool true)], args := [d1, d2, d3, d4] }
  | _ => none }
def fnExactBisectorsOfRow : OpenClaim := { program := "ytommkkgkfjmhdaa", sum := "7a632f1252ece325e60dcdfd645c923f017386b9d88c8e3f683ff24b704912d3", func := "loop.example/g01370/laws.FnExactBisectorsOf", spec := "fnExactBisectorsOf", unfollowed := true, recurses := true, apart := false }
def FnExactBisectorsOfSaid : Prop := fnExactBisectorsOfRow.holds Try.pinned (OpenSpec.ofChange fnExactBisectorsOfSpec)

/-- ITS FALSE NEIGHBOUR: 'it returns false'. Refute it at one input. -/
def fnExactBisectorsOfWrong : ChangeSpec := { name := "fnExactBisectorsOf", fn := fun _ => fun
  | [d1, d2, d3, d4] => { results := [.lit (.bool false)], args := [d1, d2, d3, d4] }
  | _ => none }
def FnExactBisectorsOfWrongFalsely : Prop := fnExactBisectorsOfRow.holds Try.pinned (OpenSpec.ofChange fnExactBisectorsOfWrong)

/-- 'laws.FnExactParsePoint': WHATEVER THE INPUT: true; the input reads as it did. -/
def fnExactParsePointSpec : ChangeSpec := { name := "fnExactParsePoint", fn := fun _ => fun
  | [d1, d2] => { results := [.lit (.bool true)], args := [d1, d2] }
  | _ => none }
def fnExactParsePointRow : OpenClaim := { program := "ytommkkgkfjmhdaa", sum := "7a632f1252ece325e60dcdfd645c923f017386b9d88c8e3f683ff24b704912d3", func := "loop.example/g01370/laws.FnExactParsePoint", spec := "fnExactParsePoint", apart := false }
def FnExactParsePointSaid : Prop := fnExactParsePointRow.holds Try.pinned (OpenSpec.ofChange fnExactParsePointSpec)

/-- ITS FALSE NEIGHBOUR: 'it returns false'. Refute it at one input. -/
def fnExactParsePointWrong : ChangeSpec := { name := "fnExactParsePoint", fn := fun _ => fun
  | [d1, d2] => { results := [.lit (.bool false)], args := [d1, d2] }
  | _ => none }
def FnExactParsePointWrongFalsely : Prop := fnExactParsePointRow.holds Try.pinned (OpenSpec.ofChange fnExactParsePointWrong)

/-- 'laws.FnExactParseLine': WHATEVER THE INPUT: true; the input reads as it did. -/
def fnExactParseLineSpec : ChangeSpec := { name := "fnExactParseLine", fn := fun _ => fun
  | [d1, d2] => { results := [.lit (.bool true)], args := [d1, d2] }
  | _ => none }
def fnExactParseLineRow : OpenClaim := { program := "ytommkkgkfjmhdaa", sum := "7a632f1252ece325e60dcdfd645c923f017386b9d88c8e3f683ff24b704912d3", func := "loop.example/g01370/laws.FnExactParseLine", spec := "fnExactParseLine", apart := false }
def FnExactParseLineSaid : Prop := fnExactParseLineRow.holds Try.pinned (OpenSpec.ofChange fnExactParseLineSpec)

/-- ITS FALSE NEIGHBOUR: 'it returns false'. Refute it at one input. -/
def fnExactParseLineWrong : ChangeSpec := { name := "fnExactParseLine", fn := fun _ => fun
  | [d1, d2] => { results := [.lit (.bool false)], args := [d1, d2] }
  | _ => none }
def FnExactParseLineWrongFalsely : Prop := fnExactParseLineRow.holds Try.pinned (OpenSpec.ofChange fnExactParseLineWrong)

/-- 'laws.FnRightAngles': WHATEVER THE INPUT: true; the input reads as it did. -/
def fnRightAnglesSpec : ChangeSpec := { name := "fnRightAngles", fn := fun _ => fun
  | [d] => { results := [.lit (.bool true)], args := [d] }
  | _ => none }
def fnRightAnglesRow : OpenClaim := { program := "ytommkkgkfjmhdaa", sum := "7a632f1252ece325e60dcdfd645c923f017386b9d88c8e3f683ff24b704912d3", func := "loop.example/g01370/laws.FnRightAngles", spec := "fnRightAngles", unfollowed := true, recurses := true, apart := false }
def FnRightAnglesSaid : Prop := fnRightAnglesRow.holds Try.pinned (OpenSpec.ofChange fnRightAnglesSpec)

/-- ITS FALSE NEIGHBOUR: 'it returns false'. Refute it at one input. -/
def fnRightAnglesWrong : ChangeSpec := { name := "fnRightAngles", fn := fun _ => fun
  | [d] => { results := [.lit (.bool false)], args := [d] }
  | _ => none }
def FnRightAnglesWrongFalsely : Prop := fnRightAnglesRow.holds Try.pinned (OpenSpec.ofChange fnRightAnglesWrong)

/- THE SECOND FORM. 'bulk': how many values and letters a reading holds, each counted each time it is reached (what is shared counts as often as it is met; a slice's spare places count too). A statement '..UptoSaid' is the law's where the arguments, and the package variables that the reading takes, are together of bulk at most 1048576: NARROWER than '..Said'. Prove '..Said' where nothing that the law and all that it calls make is longer than what came in: it says more and counts as full. Else prove '..UptoSaid'. A law counts once. -/
mutual
def uptoBulk {H : Type} : DataW H → Nat
  | .lit (.string bytes) => bytes.length + 1
  | .lit _ => 1
  | .nil => 1
  | .ptr d => uptoBulk d + 1
  | .slice elems spare => uptoBulkAll elems + uptoBulkAll spare + 1
  | .agg parts => uptoBulkAll parts + 1
  | .iface _ d => uptoBulk d + 1
  | .map entries => uptoBulkEntries entries + 1
  | .held _ => 1
def uptoBulkAll {H : Type} : List (DataW H) → Nat
  | [] => 0
  | d :: r => uptoBulk d + uptoBulkAll r
def uptoBulkEntries {H : Type} : List (Lit × DataW H) → Nat
  | [] => 0
  | x :: r => uptoBulkEntry x + uptoBulkEntries r
def uptoBulkEntry {H : Type} : Lit × DataW H → Nat
  | (.string bytes, d) => bytes.length + uptoBulk d + 1
  | (_, d) => uptoBulk d + 1
 end
def uptoSmall : (H : Type) → List (DataW H) → Bool := fun _ ds => decide (uptoBulkAll ds ≤ 1048576)
def OpenSpec.upto (s : _root_.Go.ChangeSpec) : _root_.Go.OpenSpec := { _root_.Go.OpenSpec.ofChange s with cond := some uptoSmall }

/-- 'laws.FnExactFootOf', WHERE WHAT IT READS IS OF BULK AT MOST 1048576: true; the input reads as it did. -/
def fnExactFootOfUptoRow : OpenClaim := { program := "ytommkkgkfjmhdaa", sum := "7a632f1252ece325e60dcdfd645c923f017386b9d88c8e3f683ff24b704912d3", func := "loop.example/g01370/laws.FnExactFootOf", spec := "fnExactFootOf", unfollowed := true, recurses := true, apart := false, narrowed := true }
def FnExactFootOfUptoSaid : Prop := fnExactFootOfUptoRow.holds Try.pinned (OpenSpec.upto fnExactFootOfSpec)

/-- 'laws.FnExactSpreadsOfTriangle', WHERE WHAT IT READS IS OF BULK AT MOST 1048576: true; the input reads as it did. -/
def fnExactSpreadsOfTriangleUptoRow : OpenClaim := { program := "ytommkkgkfjmhdaa", sum := "7a632f1252ece325e60dcdfd645c923f017386b9d88c8e3f683ff24b704912d3", func := "loop.example/g01370/laws.FnExactSpreadsOfTriangle", spec := "fnExactSpreadsOfTriangle", unfollowed := true, recurses := true, apart := false, narrowed := true }
def FnExactSpreadsOfTriangleUptoSaid : Prop := fnExactSpreadsOfTriangleUptoRow.holds Try.pinned (OpenSpec.upto fnExactSpreadsOfTriangleSpec)

/-- 'laws.FnExactLinesWithSpread', WHERE WHAT IT READS IS OF BULK AT MOST 1048576: true; the input reads as it did. -/
def fnExactLinesWithSpreadUptoRow : OpenClaim := { program := "ytommkkgkfjmhdaa", sum := "7a632f1252ece325e60dcdfd645c923f017386b9d88c8e3f683ff24b704912d3", func := "loop.example/g01370/laws.FnExactLinesWithSpread", spec := "fnExactLinesWithSpread", unfollowed := true, recurses := true, apart := false, narrowed := true }
def FnExactLinesWithSpreadUptoSaid : Prop := fnExactLinesWithSpreadUptoRow.holds Try.pinned (OpenSpec.upto fnExactLinesWithSpreadSpec)

/-- 'laws.FnExactBisectorsOf', WHERE WHAT IT READS IS OF BULK AT MOST 1048576: true; the input reads as it did. -/
def fnExactBisectorsOfUptoRow : OpenClaim := { program := "ytommkkgkfjmhdaa", sum := "7a632f1252ece325e60dcdfd645c923f017386b9d88c8e3f683ff24b704912d3", func := "loop.example/g01370/laws.FnExactBisectorsOf", spec := "fnExactBisectorsOf", unfollowed := true, recurses := true, apart := false, narrowed := true }
def FnExactBisectorsOfUptoSaid : Prop := fnExactBisectorsOfUptoRow.holds Try.pinned (OpenSpec.upto fnExactBisectorsOfSpec)

/-- 'laws.FnExactParsePoint', WHERE WHAT IT READS IS OF BULK AT MOST 1048576: true; the input reads as it did. -/
def fnExactParsePointUptoRow : OpenClaim := { program := "ytommkkgkfjmhdaa", sum := "7a632f1252ece325e60dcdfd645c923f017386b9d88c8e3f683ff24b704912d3", func := "loop.example/g01370/laws.FnExactParsePoint", spec := "fnExactParsePoint", apart := false, narrowed := true }
def FnExactParsePointUptoSaid : Prop := fnExactParsePointUptoRow.holds Try.pinned (OpenSpec.upto fnExactParsePointSpec)

/-- 'laws.FnExactParseLine', WHERE WHAT IT READS IS OF BULK AT MOST 1048576: true; the input reads as it did. -/
def fnExactParseLineUptoRow : OpenClaim := { program := "ytommkkgkfjmhdaa", sum := "7a632f1252ece325e60dcdfd645c923f017386b9d88c8e3f683ff24b704912d3", func := "loop.example/g01370/laws.FnExactParseLine", spec := "fnExactParseLine", apart := false, narrowed := true }
def FnExactParseLineUptoSaid : Prop := fnExactParseLineUptoRow.holds Try.pinned (OpenSpec.upto fnExactParseLineSpec)

/-- 'laws.FnRightAngles', WHERE WHAT IT READS IS OF BULK AT MOST 1048576: true; the input reads as it did. -/
def fnRightAnglesUptoRow : OpenClaim := { program := "ytommkkgkfjmhdaa", sum := "7a632f1252ece325e60dcdfd645c923f017386b9d88c8e3f683ff24b704912d3", func := "loop.example/g01370/laws.FnRightAngles", spec := "fnRightAngles", unfollowed := true, recurses := true, apart := false, narrowed := true }
def FnRightAnglesUptoSaid : Prop := fnRightAnglesUptoRow.holds Try.pinned (OpenSpec.upto fnRightAnglesSpec)

end Rows
end Go.Proofs.Ytommkkgkfjmhdaa
