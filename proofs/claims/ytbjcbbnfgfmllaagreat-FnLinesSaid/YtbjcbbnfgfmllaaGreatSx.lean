/- Contracts: perpendicular lines through points: both sides. -/
import Derived.Test.YtbjcbbnfgfmllaaGreatSq
import Derived.Test.YtbjcbbnfgfmllaaGreatSp
import Derived.Test.YtbjcbbnfgfmllaaGreatH2
import Derived.Test.YtbjcbbnfgfmllaaGreatPlA
import Derived.Test.YtbjcbbnfgfmllaaGreatK
set_option linter.unusedVariables false
set_option linter.unusedSimpArgs false
set_option maxHeartbeats 1000000
set_option maxRecDepth 100000
namespace Go.Proofs.YtbjcbbnfgfmllaaGreat
open Go.RowKit
end Go.Proofs.YtbjcbbnfgfmllaaGreat
