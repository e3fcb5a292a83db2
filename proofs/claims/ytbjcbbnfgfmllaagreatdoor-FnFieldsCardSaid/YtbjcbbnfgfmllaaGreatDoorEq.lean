/- Contracts: the laws' comparison of points and of lines, at equal ones. -/
import Derived.Test.YtbjcbbnfgfmllaaGreatDoorB
import Derived.Deep.RegionHeld3
import Derived.Deep.DeepCutAuto
set_option linter.unusedVariables false
set_option linter.unusedSimpArgs false
set_option maxRecDepth 100000
set_option maxHeartbeats 1000000
namespace Go.Proofs.YtbjcbbnfgfmllaaGreatDoor
open Go.RowKit
end Go.Proofs.YtbjcbbnfgfmllaaGreatDoor
