/- Contracts: all points, lines through a point, those for which something holds. -/
import Derived.Test.YtbjcbbnfgfmllaaGreatDoorOwn
import Derived.Test.YtbjcbbnfgfmllaaGreatDoorPlA
import Derived.Test.YtbjcbbnfgfmllaaGreatDoorH
set_option linter.unusedVariables false
set_option linter.unusedSimpArgs false
set_option maxHeartbeats 1000000
set_option maxRecDepth 100000
namespace Go.Proofs.YtbjcbbnfgfmllaaGreatDoor
open Go.RowKit
theorem info_pt : (Tryz.prog.info? 29).map (fun i => (i.zero, i.size, i.bytes)) = some (some (.agg #[.int .i64 0, .int .i64 0]), 2, 16) := by kernel_rfl
theorem info_ln : (Tryz.prog.info? 44).map (fun i => (i.zero, i.size, i.bytes)) = some (some (.agg #[.int .i64 0, .int .i64 0, .int .i64 0]), 3, 24) := by kernel_rfl
end Go.Proofs.YtbjcbbnfgfmllaaGreatDoor
