/-
  No cell of these rows narrows 'for every input' (looked for: loops, veiled, ifaces, maps, wideKeys, modest, calm, conditions, laid).
  DERIVED. THE GIVEN ROWS OF THIS SEAT. 12 by the template 'for every input the law returns true; each argument reads behind the call as it read before'; 0 by the template 'total and deterministic' (their statements: YticicabbfbkbhaaTotals.lean).
  GIVEN WITH THE SEED: the statements are not yours to turn. If you find one false, say at which input.
  Laid BY PROGRAM, IN A SANDBOX (cutbox-rows.mjs): the forced cells as the released guide's own fill.sh prints them over the translation 63ceac003ef56b36… (all of the seat's roots in one cut). By AI agents, Wed Nov 11 2026. No macro, syntax, notation, axiom, sorry.
-/
import Derived.Test.YticicabbfbkbhaaChecked
import GoSem.Claim
import GoSem.ClaimJoined
import GoSem.ClaimMapViews
import Derived.JoinedTies
import Derived.KernelRfl
namespace Go.Proofs.Yticicabbfbkbhaa
/- THE CELL 'sum', in the pinned program and in every row, IS THE sha256 OF THE DUMP (.gsa) THAT YticicabbfbkbhaaProg.lean LOADS. Nothing in Lean hashes anything: it is a label: what it is worth is what the hold of that sum in a sandbox is worth. -/
noncomputable def Try.pinned : Pinned := { name := "yticicabbfbkbhaa", sum := "63ceac003ef56b36b26b14077ca31270ed77e42241ab0992e93e214fb203330c", checked := Try.checked }
namespace Rows
def none {H : Type} : Left H := { results := [], args := [] }

/-- 'laws.FnExactConstants': WHATEVER THE INPUT: true; the input reads as it did. -/
def fnExactConstantsSpec : ChangeSpec := { name := "fnExactConstants", fn := fun _ => fun
  | [] => { results := [.lit (.bool true)], args := [] }
  | _ => none }
def fnExactConstantsRow : OpenClaim := { program := "yticicabbfbkbhaa", sum := "63ceac003ef56b36b26b14077ca31270ed77e42241ab0992e93e214fb203330c", func := "loop.example/g01370/laws.FnExactConstants", spec := "fnExactConstants", apart := false }
def FnExactConstantsSaid : Prop := fnExactConstantsRow.holds Try.pinned (OpenSpec.ofChange fnExactConstantsSpec)

/-- ITS FALSE NEIGHBOUR: 'it returns false'. Refute it at one input. -/
def fnExactConstantsWrong : ChangeSpec := { name := "fnExactConstants", fn := fun _ => fun
  | [] => { results := [.lit (.bool false)], args := [] }
  | _ => none }
def FnExactConstantsWrongFalsely : Prop := fnExactConstantsRow.holds Try.pinned (OpenSpec.ofChange fnExactConstantsWrong)

/-- 'laws.FnExactIsField': WHATEVER THE INPUT: true; the input reads as it did. -/
def fnExactIsFieldSpec : ChangeSpec := { name := "fnExactIsField", fn := fun _ => fun
  | [d] => { results := [.lit (.bool true)], args := [d] }
  | _ => none }
def fnExactIsFieldRow : OpenClaim := { program := "yticicabbfbkbhaa", sum := "63ceac003ef56b36b26b14077ca31270ed77e42241ab0992e93e214fb203330c", func := "loop.example/g01370/laws.FnExactIsField", spec := "fnExactIsField", apart := false }
def FnExactIsFieldSaid : Prop := fnExactIsFieldRow.holds Try.pinned (OpenSpec.ofChange fnExactIsFieldSpec)

/-- ITS FALSE NEIGHBOUR: 'it returns false'. Refute it at one input. -/
def fnExactIsFieldWrong : ChangeSpec := { name := "fnExactIsField", fn := fun _ => fun
  | [d] => { results := [.lit (.bool false)], args := [d] }
  | _ => none }
def FnExactIsFieldWrongFalsely : Prop := fnExactIsFieldRow.holds Try.pinned (OpenSpec.ofChange fnExactIsFieldWrong)

/-- 'laws.FnExactArchimedesOf': WHATEVER THE INPUT: true; the input reads as it did. -/
def fnExactArchimedesOfSpec : ChangeSpec := { name := "fnExactArchimedesOf", fn := fun _ => fun
  | [d1, d2, d3, d4] => { results := [.lit (.bool true)], args := [d1, d2, d3, d4] }
  | _ => none }
def fnExactArchimedesOfRow : OpenClaim := { program := "yticicabbfbkbhaa", sum := "63ceac003ef56b36b26b14077ca31270ed77e42241ab0992e93e214fb203330c", func := "loop.example/g01370/laws.FnExactArchimedesOf", spec := "fnExactArchimedesOf", unfollowed := true, recurses := true, apart := false }
def FnExactArchimedesOfSaid : Prop := fnExactArchimedesOfRow.holds Try.pinned (OpenSpec.ofChange fnExactArchimedesOfSpec)

/-- ITS FALSE NEIGHBOUR: 'it returns false'. Refute it at one input. -/
def fnExactArchimedesOfWrong : ChangeSpec := { name := "fnExactArchimedesOf", fn := fun _ => fun
  | [d1, d2, d3, d4] => { results := [.lit (.bool false)], args := [d1, d2, d3, d4] }
  | _ => none }
def FnExactArchimedesOfWrongFalsely : Prop := fnExactArchimedesOfRow.holds Try.pinned (OpenSpec.ofChange fnExactArchimedesOfWrong)

/-- 'laws.FnExactAreTripleSpreads': WHATEVER THE INPUT: true; the input reads as it did. -/
def fnExactAreTripleSpreadsSpec : ChangeSpec := { name := "fnExactAreTripleSpreads", fn := fun _ => fun
  | [d1, d2, d3, d4] => { results := [.lit (.bool true)], args := [d1, d2, d3, d4] }
  | _ => none }
def fnExactAreTripleSpreadsRow : OpenClaim := { program := "yticicabbfbkbhaa", sum := "63ceac003ef56b36b26b14077ca31270ed77e42241ab0992e93e214fb203330c", func := "loop.example/g01370/laws.FnExactAreTripleSpreads", spec := "fnExactAreTripleSpreads", unfollowed := true, recurses := true, apart := false }
def FnExactAreTripleSpreadsSaid : Prop := fnExactAreTripleSpreadsRow.holds Try.pinned (OpenSpec.ofChange fnExactAreTripleSpreadsSpec)

/-- ITS FALSE NEIGHBOUR: 'it returns false'. Refute it at one input. -/
def fnExactAreTripleSpreadsWrong : ChangeSpec := { name := "fnExactAreTripleSpreads", fn := fun _ => fun
  | [d1, d2, d3, d4] => { results := [.lit (.bool false)], args := [d1, d2, d3, d4] }
  | _ => none }
def FnExactAreTripleSpreadsWrongFalsely : Prop := fnExactAreTripleSpreadsRow.holds Try.pinned (OpenSpec.ofChange fnExactAreTripleSpreadsWrong)

/-- 'laws.FnExactRootOf': WHATEVER THE INPUT: true; the input reads as it did. -/
def fnExactRootOfSpec : ChangeSpec := { name := "fnExactRootOf", fn := fun _ => fun
  | [d1, d2] => { results := [.lit (.bool true)], args := [d1, d2] }
  | _ => none }
def fnExactRootOfRow : OpenClaim := { program := "yticicabbfbkbhaa", sum := "63ceac003ef56b36b26b14077ca31270ed77e42241ab0992e93e214fb203330c", func := "loop.example/g01370/laws.FnExactRootOf", spec := "fnExactRootOf", unfollowed := true, recurses := true, apart := false }
def FnExactRootOfSaid : Prop := fnExactRootOfRow.holds Try.pinned (OpenSpec.ofChange fnExactRootOfSpec)

/-- ITS FALSE NEIGHBOUR: 'it returns false'. Refute it at one input. -/
def fnExactRootOfWrong : ChangeSpec := { name := "fnExactRootOf", fn := fun _ => fun
  | [d1, d2] => { results := [.lit (.bool false)], args := [d1, d2] }
  | _ => none }
def FnExactRootOfWrongFalsely : Prop := fnExactRootOfRow.holds Try.pinned (OpenSpec.ofChange fnExactRootOfWrong)

/-- 'laws.FnExactInverseOf': WHATEVER THE INPUT: true; the input reads as it did. -/
def fnExactInverseOfSpec : ChangeSpec := { name := "fnExactInverseOf", fn := fun _ => fun
  | [d1, d2] => { results := [.lit (.bool true)], args := [d1, d2] }
  | _ => none }
def fnExactInverseOfRow : OpenClaim := { program := "yticicabbfbkbhaa", sum := "63ceac003ef56b36b26b14077ca31270ed77e42241ab0992e93e214fb203330c", func := "loop.example/g01370/laws.FnExactInverseOf", spec := "fnExactInverseOf", unfollowed := true, recurses := true, apart := false }
def FnExactInverseOfSaid : Prop := fnExactInverseOfRow.holds Try.pinned (OpenSpec.ofChange fnExactInverseOfSpec)

/-- ITS FALSE NEIGHBOUR: 'it returns false'. Refute it at one input. -/
def fnExactInverseOfWrong : ChangeSpec := { name := "fnExactInverseOf", fn := fun _ => fun
  | [d1, d2] => { results := [.lit (.bool false)], args := [d1, d2] }
  | _ => none }
def FnExactInverseOfWrongFalsely : Prop := fnExactInverseOfRow.holds Try.pinned (OpenSpec.ofChange fnExactInverseOfWrong)

/-- 'laws.FnExactSquareKind': WHATEVER THE INPUT: true; the input reads as it did. -/
def fnExactSquareKindSpec : ChangeSpec := { name := "fnExactSquareKind", fn := fun _ => fun
  | [d1, d2] => { results := [.lit (.bool true)], args := [d1, d2] }
  | _ => none }
def fnExactSquareKindRow : OpenClaim := { program := "yticicabbfbkbhaa", sum := "63ceac003ef56b36b26b14077ca31270ed77e42241ab0992e93e214fb203330c", func := "loop.example/g01370/laws.FnExactSquareKind", spec := "fnExactSquareKind", unfollowed := true, recurses := true, apart := false }
def FnExactSquareKindSaid : Prop := fnExactSquareKindRow.holds Try.pinned (OpenSpec.ofChange fnExactSquareKindSpec)

/-- ITS FALSE NEIGHBOUR: 'it returns false'. Refute it at one input. -/
def fnExactSquareKindWrong : ChangeSpec := { name := "fnExactSquareKind", fn := fun _ => fun
  | [d1, d2] => { results := [.lit (.bool false)], args := [d1, d2] }
  | _ => none }
def FnExactSquareKindWrongFalsely : Prop := fnExactSquareKindRow.holds Try.pinned (OpenSpec.ofChange fnExactSquareKindWrong)

/-- 'laws.FnExactAreParallel': WHATEVER THE INPUT: true; the input reads as it did. -/
def fnExactAreParallelSpec : ChangeSpec := { name := "fnExactAreParallel", fn := fun _ => fun
  | [d1, d2, d3] => { results := [.lit (.bool true)], args := [d1, d2, d3] }
  | _ => none }
def fnExactAreParallelRow : OpenClaim := { program := "yticicabbfbkbhaa", sum := "63ceac003ef56b36b26b14077ca31270ed77e42241ab0992e93e214fb203330c", func := "loop.example/g01370/laws.FnExactAreParallel", spec := "fnExactAreParallel", unfollowed := true, recurses := true, apart := false }
def FnExactAreParallelSaid : Prop := fnExactAreParallelRow.holds Try.pinned (OpenSpec.ofChange fnExactAreParallelSpec)

/-- ITS FALSE NEIGHBOUR: 'it returns false'. Refute it at one input. -/
def fnExactAreParallelWrong : ChangeSpec := { name := "fnExactAreParallel", fn := fun _ => fun
  | [d1, d2, d3] => { results := [.lit (.bool false)], args := [d1, d2, d3] }
  | _ => none }
def FnExactAreParallelWrongFalsely : Prop := fnExactAreParallelRow.holds Try.pinned (OpenSpec.ofChange fnExactAreParallelWrong)

/-- 'laws.FnExactAreCollinear': WHATEVER THE INPUT: true; the input reads as it did. -/
def fnExactAreCollinearSpec : ChangeSpec := { name := "fnExactAreCollinear", fn := fun _ => fun
  | [d1, d2, d3, d4] => { results := [.lit (.bool true)], args := [d1, d2, d3, d4] }
  | _ => none }
def fnExactAreCollinearRow : OpenClaim := { program := "yticicabbfbkbhaa", sum := "63ceac003ef56b36b26b14077ca31270ed77e42241ab0992e93e214fb203330c", func := "loop.example/g01370/laws.FnExactAreCollinear", spec := "fnExactAreCollinear", unfollowed := true, recurses := true, apart := false }
def FnExactAreCollinearSaid : Prop := fnExactAreCollinearRow.holds Try.pinned (OpenSpec.ofChange fnExactAreCollinearSpec)

/-- ITS FALSE NEIGHBOUR: 'it returns false'. Refute it at one input. -/
def fnExactAreCollinearWrong : ChangeSpec := { name := "fnExactAreCollinear", fn := fun _ => fun
  | [d1, d2, d3, d4] => { results := [.lit (.bool false)], args := [d1, d2, d3, d4] }
  | _ => none }
def FnExactAreCollinearWrongFalsely : Prop := fnExactAreCollinearRow.holds Try.pinned (OpenSpec.ofChange fnExactAreCollinearWrong)

/-- 'laws.FnExactDoubledArea': WHATEVER THE INPUT: true; the input reads as it did. -/
def fnExactDoubledAreaSpec : ChangeSpec := { name := "fnExactDoubledArea", fn := fun _ => fun
  | [d1, d2, d3, d4] => { results := [.lit (.bool true)], args := [d1, d2, d3, d4] }
  | _ => none }
def fnExactDoubledAreaRow : OpenClaim := { program := "yticicabbfbkbhaa", sum := "63ceac003ef56b36b26b14077ca31270ed77e42241ab0992e93e214fb203330c", func := "loop.example/g01370/laws.FnExactDoubledArea", spec := "fnExactDoubledArea", unfollowed := true, recurses := true, apart := false }
def FnExactDoubledAreaSaid : Prop := fnExactDoubledAreaRow.holds Try.pinned (OpenSpec.ofChange fnExactDoubledAreaSpec)

/-- ITS FALSE NEIGHBOUR: 'it returns false'. Refute it at one input. -/
def fnExactDoubledAreaWrong : ChangeSpec := { name := "fnExactDoubledArea", fn := fun _ => fun
  | [d1, d2, d3, d4] => { results := [.lit (.bool false)], args := [d1, d2, d3, d4] }
  | _ => none }
def FnExactDoubledAreaWrongFalsely : Prop := fnExactDoubledAreaRow.holds Try.pinned (OpenSpec.ofChange fnExactDoubledAreaWrong)

/-- 'laws.FnExactIsOnLine': WHATEVER THE INPUT: true; the input reads as it did. -/
def fnExactIsOnLineSpec : ChangeSpec := { name := "fnExactIsOnLine", fn := fun _ => fun
  | [d1, d2, d3] => { results := [.lit (.bool true)], args := [d1, d2, d3] }
  | _ => none }
def fnExactIsOnLineRow : OpenClaim := { program := "yticicabbfbkbhaa", sum := "63ceac003ef56b36b26b14077ca31270ed77e42241ab0992e93e214fb203330c", func := "loop.example/g01370/laws.FnExactIsOnLine", spec := "fnExactIsOnLine", unfollowed := true, recurses := true, apart := false }
def FnExactIsOnLineSaid : Prop := fnExactIsOnLineRow.holds Try.pinned (OpenSpec.ofChange fnExactIsOnLineSpec)

/-- ITS FALSE NEIGHBOUR: 'it returns false'. Refute it at one input. -/
def fnExactIsOnLineWrong : ChangeSpec := { name := "fnExactIsOnLine", fn := fun _ => fun
  | [d1, d2, d3] => { results := [.lit (.bool false)], args := [d1, d2, d3] }
  | _ => none }
def FnExactIsOnLineWrongFalsely : Prop := fnExactIsOnLineRow.holds Try.pinned (OpenSpec.ofChange fnExactIsOnLineWrong)

/-- 'laws.FnExactProductOf': WHATEVER THE INPUT: true; the input reads as it did. -/
def fnExactProductOfSpec : ChangeSpec := { name := "fnExactProductOf", fn := fun _ => fun
  | [d1, d2, d3, d4] => { results := [.lit (.bool true)], args := [d1, d2, d3, d4] }
  | _ => none }
def fnExactProductOfRow : OpenClaim := { program := "yticicabbfbkbhaa", sum := "63ceac003ef56b36b26b14077ca31270ed77e42241ab0992e93e214fb203330c", func := "loop.example/g01370/laws.FnExactProductOf", spec := "fnExactProductOf", unfollowed := true, recurses := true, apart := false }
def FnExactProductOfSaid : Prop := fnExactProductOfRow.holds Try.pinned (OpenSpec.ofChange fnExactProductOfSpec)

/-- ITS FALSE NEIGHBOUR: 'it returns false'. Refute it at one input. -/
def fnExactProductOfWrong : ChangeSpec := { name := "fnExactProductOf", fn := fun _ => fun
  | [d1, d2, d3, d4] => { results := [.lit (.bool false)], args := [d1, d2, d3, d4] }
  | _ => none }
def FnExactProductOfWrongFalsely : Prop := fnExactProductOfRow.holds Try.pinned (OpenSpec.ofChange fnExactProductOfWrong)

/- THE SECOND FORM. 'bulk': how many values and letters a reading holds, each counted each time it is reached (what is shared counts as often as it is met; a slice's spare places count too). A statement '..UptoSaid' is the law's where the arguments, and the package variables that the reading takes, are together of bulk at most 1048576: NARROWER than '..Said'. Prove '..Said' where nothing that the law and all that it calls make is longer than what came in: it says more and counts as full. Else prove '..UptoSaid'. A law counts once. -/
mutual
def uptoBulk {H : Type} : DataW H → Nat
  | .lit (.string bytes) => bytes.length + 1
  | .lit _ => 1
  | .nil => 1
  | .ptr d => uptoBulk d + 1
  | .slice elems spare => uptoBulkAll elems + uptoBulkAll spare + 1
  | .agg parts => uptoBulkAll parts + 1
  | .iface _ d => uptoBulk d + 1
  | .map entries => uptoBulkEntries entries + 1
  | .held _ => 1
def uptoBulkAll {H : Type} : List (DataW H) → Nat
  | [] => 0
  | d :: r => uptoBulk d + uptoBulkAll r
def uptoBulkEntries {H : Type} : List (Lit × DataW H) → Nat
  | [] => 0
  | x :: r => uptoBulkEntry x + uptoBulkEntries r
def uptoBulkEntry {H : Type} : Lit × DataW H → Nat
  | (.string bytes, d) => bytes.length + uptoBulk d + 1
  | (_, d) => uptoBulk d + 1
 end
def uptoSmall : (H : Type) → List (DataW H) → Bool := fun _ ds => decide (uptoBulkAll ds ≤ 1048576)
def OpenSpec.upto (s : _root_.Go.ChangeSpec) : _root_.Go.OpenSpec := { _root_.Go.OpenSpec.ofChange s with cond := some uptoSmall }

/-- 'laws.FnExactConstants', WHERE WHAT IT READS IS OF BULK AT MOST 1048576: true; the input reads as it did. -/
def fnExactConstantsUptoRow : OpenClaim := { program := "yticicabbfbkbhaa", sum := "63ceac003ef56b36b26b14077ca31270ed77e42241ab0992e93e214fb203330c", func := "loop.example/g01370/laws.FnExactConstants", spec := "fnExactConstants", apart := false, narrowed := true }
def FnExactConstantsUptoSaid : Prop := fnExactConstantsUptoRow.holds Try.pinned (OpenSpec.upto fnExactConstantsSpec)

/-- 'laws.FnExactIsField', WHERE WHAT IT READS IS OF BULK AT MOST 1048576: true; the input reads as it did. -/
def fnExactIsFieldUptoRow : OpenClaim := { program := "yticicabbfbkbhaa", sum := "63ceac003ef56b36b26b14077ca31270ed77e42241ab0992e93e214fb203330c", func := "loop.example/g01370/laws.FnExactIsField", spec := "fnExactIsField", apart := false, narrowed := true }
def FnExactIsFieldUptoSaid : Prop := fnExactIsFieldUptoRow.holds Try.pinned (OpenSpec.upto fnExactIsFieldSpec)

/-- 'laws.FnExactArchimedesOf', WHERE WHAT IT READS IS OF BULK AT MOST 1048576: true; the input reads as it did. -/
def fnExactArchimedesOfUptoRow : OpenClaim := { program := "yticicabbfbkbhaa", sum := "63ceac003ef56b36b26b14077ca31270ed77e42241ab0992e93e214fb203330c", func := "loop.example/g01370/laws.FnExactArchimedesOf", spec := "fnExactArchimedesOf", unfollowed := true, recurses := true, apart := false, narrowed := true }
def FnExactArchimedesOfUptoSaid : Prop := fnExactArchimedesOfUptoRow.holds Try.pinned (OpenSpec.upto fnExactArchimedesOfSpec)

/-- 'laws.FnExactAreTripleSpreads', WHERE WHAT IT READS IS OF BULK AT MOST 1048576: true; the input reads as it did. -/
def fnExactAreTripleSpreadsUptoRow : OpenClaim := { program := "yticicabbfbkbhaa", sum := "63ceac003ef56b36b26b14077ca31270ed77e42241ab0992e93e214fb203330c", func := "loop.example/g01370/laws.FnExactAreTripleSpreads", spec := "fnExactAreTripleSpreads", unfollowed := true, recurses := true, apart := false, narrowed := true }
def FnExactAreTripleSpreadsUptoSaid : Prop := fnExactAreTripleSpreadsUptoRow.holds Try.pinned (OpenSpec.upto fnExactAreTripleSpreadsSpec)

/-- 'laws.FnExactRootOf', WHERE WHAT IT READS IS OF BULK AT MOST 1048576: true; the input reads as it did. -/
def fnExactRootOfUptoRow : OpenClaim := { program := "yticicabbfbkbhaa", sum := "63ceac003ef56b36b26b14077ca31270ed77e42241ab0992e93e214fb203330c", func := "loop.example/g01370/laws.FnExactRootOf", spec := "fnExactRootOf", unfollowed := true, recurses := true, apart := false, narrowed := true }
def FnExactRootOfUptoSaid : Prop := fnExactRootOfUptoRow.holds Try.pinned (OpenSpec.upto fnExactRootOfSpec)

/-- 'laws.FnExactInverseOf', WHERE WHAT IT READS IS OF BULK AT MOST 1048576: true; the input reads as it did. -/
def fnExactInverseOfUptoRow : OpenClaim := { program := "yticicabbfbkbhaa", sum := "63ceac003ef56b36b26b14077ca31270ed77e42241ab0992e93e214fb203330c", func := "loop.example/g01370/laws.FnExactInverseOf", spec := "fnExactInverseOf", unfollowed := true, recurses := true, apart := false, narrowed := true }
def FnExactInverseOfUptoSaid : Prop := fnExactInverseOfUptoRow.holds Try.pinned (OpenSpec.upto fnExactInverseOfSpec)

/-- 'laws.FnExactSquareKind', WHERE WHAT IT READS IS OF BULK AT MOST 1048576: true; the input reads as it did. -/
def fnExactSquareKindUptoRow : OpenClaim := { program := "yticicabbfbkbhaa", sum := "63ceac003ef56b36b26b14077ca31270ed77e42241ab0992e93e214fb203330c", func := "loop.example/g01370/laws.FnExactSquareKind", spec := "fnExactSquareKind", unfollowed := true, recurses := true, apart := false, narrowed := true }
def FnExactSquareKindUptoSaid : Prop := fnExactSquareKindUptoRow.holds Try.pinned (OpenSpec.upto fnExactSquareKindSpec)

/-- 'laws.FnExactAreParallel', WHERE WHAT IT READS IS OF BULK AT MOST 1048576: true; the input reads as it did. -/
def fnExactAreParallelUptoRow : OpenClaim := { program := "yticicabbfbkbhaa", sum := "63ceac003ef56b36b26b14077ca31270ed77e42241ab0992e93e214fb203330c", func := "loop.example/g01370/laws.FnExactAreParallel", spec := "fnExactAreParallel", unfollowed := true, recurses := true, apart := false, narrowed := true }
def FnExactAreParallelUptoSaid : Prop := fnExactAreParallelUptoRow.holds Try.pinned (OpenSpec.upto fnExactAreParallelSpec)

/-- 'laws.FnExactAreCollinear', WHERE WHAT IT READS IS OF BULK AT MOST 1048576: true; the input reads as it did. -/
def fnExactAreCollinearUptoRow : OpenClaim := { program := "yticicabbfbkbhaa", sum := "63ceac003ef56b36b26b14077ca31270ed77e42241ab0992e93e214fb203330c", func := "loop.example/g01370/laws.FnExactAreCollinear", spec := "fnExactAreCollinear", unfollowed := true, recurses := true, apart := false, narrowed := true }
def FnExactAreCollinearUptoSaid : Prop := fnExactAreCollinearUptoRow.holds Try.pinned (OpenSpec.upto fnExactAreCollinearSpec)

/-- 'laws.FnExactDoubledArea', WHERE WHAT IT READS IS OF BULK AT MOST 1048576: true; the input reads as it did. -/
def fnExactDoubledAreaUptoRow : OpenClaim := { program := "yticicabbfbkbhaa", sum := "63ceac003ef56b36b26b14077ca31270ed77e42241ab0992e93e214fb203330c", func := "loop.example/g01370/laws.FnExactDoubledArea", spec := "fnExactDoubledArea", unfollowed := true, recurses := true, apart := false, narrowed := true }
def FnExactDoubledAreaUptoSaid : Prop := fnExactDoubledAreaUptoRow.holds Try.pinned (OpenSpec.upto fnExactDoubledAreaSpec)

/-- 'laws.FnExactIsOnLine', WHERE WHAT IT READS IS OF BULK AT MOST 1048576: true; the input reads as it did. -/
def fnExactIsOnLineUptoRow : OpenClaim := { program := "yticicabbfbkbhaa", sum := "63ceac003ef56b36b26b14077ca31270ed77e42241ab0992e93e214fb203330c", func := "loop.example/g01370/laws.FnExactIsOnLine", spec := "fnExactIsOnLine", unfollowed := true, recurses := true, apart := false, narrowed := true }
def FnExactIsOnLineUptoSaid : Prop := fnExactIsOnLineUptoRow.holds Try.pinned (OpenSpec.upto fnExactIsOnLineSpec)

/-- 'laws.FnExactProductOf', WHERE WHAT IT READS IS OF BULK AT MOST 1048576: true; the input reads as it did. -/
def fnExactProductOfUptoRow : OpenClaim := { program := "yticicabbfbkbhaa", sum := "63ceac003ef56b36b26b14077ca31270ed77e42241ab0992e93e214fb203330c", func := "loop.example/g01370/laws.FnExactProductOf", spec := "fnExactProductOf", unfollowed := true, recurses := true, apart := false, narrowed := true }
def FnExactProductOfUptoSaid : Prop := fnExactProductOfUptoRow.holds Try.pinned (OpenSpec.upto fnExactProductOfSpec)

end Rows
end Go.Proofs.Yticicabbfbkbhaa
