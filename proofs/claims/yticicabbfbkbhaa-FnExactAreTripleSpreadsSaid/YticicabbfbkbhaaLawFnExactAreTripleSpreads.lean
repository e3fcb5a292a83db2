/- FnExactAreTripleSpreads: the walk. -/
import Derived.Test.YticicabbfbkbhaaD
set_option linter.unusedVariables false
set_option linter.unusedSimpArgs false
set_option maxHeartbeats 1000000
namespace Go.Proofs.Yticicabbfbkbhaa.fnExactAreTripleSpreads
open Go.RowKit
theorem walk (p a b c : Int) (_ : (Lit.int .i64 p).wf = true) (_ : (Lit.int .i64 a).wf = true) (_ : (Lit.int .i64 b).wf = true) (_ : (Lit.int .i64 c).wf = true) (w : World) : Calls Try.prog 6 #[.int .i64 p, .int .i64 a, .int .i64 b, .int .i64 c] w fun e w' => e = .returned (.bool true) ∧ Below w.heap.size w w' := by
  go_enter Try.func6, Try.ntmps6
  go_wp2_with fail
  refine (sAreTripleSpreads_any _ _ _ _ _).mono ?_
  rintro e w1 ⟨rfl, hb1⟩
  go_wp2_with fail
  refine (AreTripleSpreads_any _ _ _ _ _).mono ?_
  rintro e w2 ⟨rfl, hb2⟩
  go_wp2_with fail
  go_ret
  exact ⟨rfl, below_of hb1 hb2 hb1.size⟩
end Go.Proofs.Yticicabbfbkbhaa.fnExactAreTripleSpreads
