/- Contracts: numbers of Archimedes, triple spreads, of both sides. -/
import Derived.Test.YtjjidjcflimhgaaB
set_option linter.unusedVariables false
set_option linter.unusedSimpArgs false
set_option maxRecDepth 100000
set_option maxHeartbeats 1000000
namespace Go.Proofs.Ytjjidjcflimhgaa
open Go.RowKit
end Go.Proofs.Ytjjidjcflimhgaa
