/- FnExactConstants: the walk. -/
import Derived.Test.YticicabbfbkbhaaProg
import Derived.WalkKit
import Derived.Handy
set_option linter.unusedVariables false
set_option linter.unusedSimpArgs false
namespace Go.Proofs.Yticicabbfbkbhaa.fnExactConstants
open Go.RowKit
theorem walk (w : World) : Calls Try.prog 3 #[] w fun e w' => e = .returned (.bool true) ∧ Below w.heap.size w w' := by
  go_enter Try.func3, Try.ntmps3
  go_wp2
  go_ret
  exact ⟨rfl, Below.refl _ _⟩
end Go.Proofs.Yticicabbfbkbhaa.fnExactConstants
