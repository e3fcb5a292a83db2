/- FnExactIsField: the walk. -/
import Derived.Test.YticicabbfbkbhaaA
set_option linter.unusedVariables false
set_option linter.unusedSimpArgs false
namespace Go.Proofs.Yticicabbfbkbhaa.fnExactIsField
open Go.RowKit
theorem specIs (p : Int) (w : World) : Calls Try.prog 15 #[.int .i64 p] w fun e w' => e = .returned (.bool (Pl.fieldB p)) ∧ w = w' := by
  go_enter Try.func15, Try.ntmps15
  go_wp2_with (go_at_call 39; refine (l01Field_any _ _).mono ?_; rintro e w' ⟨rfl, rfl⟩)
  go_ret
  exact ⟨rfl, rfl⟩
theorem walk (p : Int) (_ : (Lit.int .i64 p).wf = true) (w : World) : Calls Try.prog 4 #[.int .i64 p] w fun e w' => e = .returned (.bool true) ∧ Below w.heap.size w w' := by
  go_enter Try.func4, Try.ntmps4
  go_wp2_with (first | (go_at_call 15; refine (specIs _ _).mono ?_; rintro e w' ⟨rfl, rfl⟩) | (go_at_call 16; refine (isField_any _ _).mono ?_; rintro e w' ⟨rfl, rfl⟩))
  go_ret
  exact ⟨rfl, Below.refl _ _⟩
end Go.Proofs.Yticicabbfbkbhaa.fnExactIsField
