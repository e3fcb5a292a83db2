/- Contracts: perpendicular lines through points: both sides. -/
import Derived.Test.YtbjcbbnfgfmllaaGreatDoorSq
import Derived.Test.YtbjcbbnfgfmllaaGreatDoorSp
import Derived.Test.YtbjcbbnfgfmllaaGreatDoorH2
import Derived.Test.YtbjcbbnfgfmllaaGreatDoorPlA
import Derived.Test.YtbjcbbnfgfmllaaGreatDoorK
set_option linter.unusedVariables false
set_option linter.unusedSimpArgs false
set_option maxHeartbeats 1000000
set_option maxRecDepth 100000
namespace Go.Proofs.YtbjcbbnfgfmllaaGreatDoor
open Go.RowKit
end Go.Proofs.YtbjcbbnfgfmllaaGreatDoor
