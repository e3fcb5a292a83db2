/- FnExactSquareKind: the walk. -/
import Derived.Test.YticicabbfbkbhaaC
set_option linter.unusedVariables false
set_option linter.unusedSimpArgs false
set_option maxHeartbeats 1000000
namespace Go.Proofs.Yticicabbfbkbhaa.fnExactSquareKind
open Go.RowKit
theorem walk (p a : Int) (_ : (Lit.int .i64 p).wf = true) (_ : (Lit.int .i64 a).wf = true) (w : World) : Calls Try.prog 9 #[.int .i64 p, .int .i64 a] w fun e w' => e = .returned (.bool true) ∧ Below w.heap.size w w' := by
  go_enter Try.func9, Try.ntmps9
  go_wp2_with fail
  refine (sSquareKind_any _ _ _).mono ?_
  rintro e w1 ⟨rfl, hb1⟩
  go_wp2_with fail
  refine (SquareKind_any _ _ _).mono ?_
  rintro e w2 ⟨rfl, hb2⟩
  go_wp2_with fail
  go_ret
  exact ⟨rfl, below_of hb1 hb2 hb1.size⟩
end Go.Proofs.Yticicabbfbkbhaa.fnExactSquareKind
