/- Contract: the reference's IsField. -/
import Derived.Test.YtbjcbbnfgfmllaaGreatDoorA
set_option linter.unusedVariables false
set_option linter.unusedSimpArgs false
namespace Go.Proofs.YtbjcbbnfgfmllaaGreatDoor
open Go.RowKit
theorem sIsField_any (p : Int) (w : World) : Calls Tryz.prog 13 #[.int .i64 p] w fun e w' => e = .returned (.bool (Pl.fieldB p)) ∧ w = w' := by
  go_enter Tryz.func13, Tryz.ntmps13
  go_wp2_with (go_at_call 48; refine (l01Field_any _ _).mono ?_; rintro e w' ⟨rfl, rfl⟩)
  go_ret
  exact ⟨rfl, rfl⟩
end Go.Proofs.YtbjcbbnfgfmllaaGreatDoor
