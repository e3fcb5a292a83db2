/- Contracts: lines that numbers make, perpendicular and null lines, quadrances, right angles. -/
import Derived.Test.YtbjcbbnfgfmllaaGreatDoorH
set_option linter.unusedVariables false
set_option linter.unusedSimpArgs false
set_option maxRecDepth 100000
set_option maxHeartbeats 1000000
namespace Go.Proofs.YtbjcbbnfgfmllaaGreatDoor
open Go.RowKit
end Go.Proofs.YtbjcbbnfgfmllaaGreatDoor
