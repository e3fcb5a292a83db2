/- Contracts: numbers of Archimedes, triple spreads, of both sides. -/
import Derived.Test.YtbjcbbnfgfmllaaGreatB
set_option linter.unusedVariables false
set_option linter.unusedSimpArgs false
set_option maxRecDepth 100000
set_option maxHeartbeats 1000000
namespace Go.Proofs.YtbjcbbnfgfmllaaGreat
open Go.RowKit
end Go.Proofs.YtbjcbbnfgfmllaaGreat
