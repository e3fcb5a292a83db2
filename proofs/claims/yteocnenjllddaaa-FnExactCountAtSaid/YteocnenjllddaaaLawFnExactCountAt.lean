/- FnExactCountAt: the walk. -/
import Derived.Test.YteocnenjllddaaaSv
set_option linter.unusedVariables false
set_option linter.unusedSimpArgs false
set_option maxHeartbeats 1000000
set_option maxRecDepth 100000
namespace Go.Proofs.Yteocnenjllddaaa.fnExactCountAt
open Go.RowKit
theorem walk (p k q : Int) (_ : (Lit.int .i64 p).wf = true) (_ : (Lit.int .i64 k).wf = true) (_ : (Lit.int .i64 q).wf = true) (w : World) : Calls Try.prog 12 #[.int .i64 p, .int .i64 k, .int .i64 q] w fun e w' => e = .returned (.bool true) ∧ Below w.heap.size w w' := by
  go_enter Try.func12, Try.ntmps12
  go_wp2_with fail
  refine (sCountAt_any _ _ _ _).mono ?_
  rintro e w1 ⟨rfl, hb1⟩
  go_wp2_with fail
  refine (CountAt_any _ _ _ _).mono ?_
  rintro e w2 ⟨rfl, hb2⟩
  go_wp2_with fail
  go_ret
  exact ⟨rfl, below_of hb1 hb2 hb1.size⟩
end Go.Proofs.Yteocnenjllddaaa.fnExactCountAt
