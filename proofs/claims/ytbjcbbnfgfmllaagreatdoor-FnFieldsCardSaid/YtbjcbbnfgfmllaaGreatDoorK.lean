/- Small lemmas: a cell that is not frozen stays so over Below. -/
import Derived.Test.YtbjcbbnfgfmllaaGreatDoorB
set_option linter.unusedVariables false
namespace Go.Proofs.YtbjcbbnfgfmllaaGreatDoor
open Go.RowKit
theorem keepF {w w' : World} (hb : Below w.heap.size w w') {a : Addr} {v : Value} (hz : w.cell? a = some v) (h : w.frozen? a = false) : w'.frozen? a = false := (hb.frozen (World.block_lt_of_cell? w _ hz)).trans h
theorem frozenOf {B : Nat} {w w' : World} (hb : Below B w w') {a : Addr} (h : w.frozen? a = false) (hlt : a.block < B) : w'.frozen? a = false := (hb.frozen hlt).trans h
end Go.Proofs.YtbjcbbnfgfmllaaGreatDoor
