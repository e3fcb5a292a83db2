/- Contracts: differences, areas, products, tests on lines. -/
import Derived.Test.YtommkkgkfjmhdaaDoorE
import Derived.Deep.RegionHeld3
import Derived.Test.YtommkkgkfjmhdaaDoorRegA
import Derived.Deep.DeepCutAuto
set_option linter.unusedVariables false
set_option linter.unusedSimpArgs false
set_option maxHeartbeats 1000000
set_option maxRecDepth 100000
namespace Go.Proofs.YtommkkgkfjmhdaaDoor
open Go.RowKit

end Go.Proofs.YtommkkgkfjmhdaaDoor
