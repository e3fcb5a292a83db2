/- FnExactPointText: the walk. -/
import Derived.Test.YtommkkgkfjmhdaaDoorTe
import Derived.Test.YtommkkgkfjmhdaaDoorF
import Derived.Test.YtommkkgkfjmhdaaDoorG
set_option linter.unusedVariables false
set_option linter.unusedSimpArgs false
set_option maxHeartbeats 2000000
set_option maxRecDepth 100000
namespace Go.Proofs.YtommkkgkfjmhdaaDoor.fnExactPointText
open Go.RowKit
theorem walk (p ax ay : Int) (_ : (Lit.int .i64 p).wf = true) (_ : (Lit.int .i64 ax).wf = true) (_ : (Lit.int .i64 ay).wf = true) (w : World) : Calls Tryd.prog 3 #[.int .i64 p, .agg #[.int .i64 ax, .int .i64 ay]] w fun e w' => e = .returned (.bool true) ∧ Below w.heap.size w w' := by
  obtain ⟨tx, tq, hfin⟩ : ∃ (tx : List UInt8) (tq : Int), Hid (Pl.textPt p ax ay = (tx, tq)) := ⟨_, _, rfl⟩
  go_enter Tryd.func3, Tryd.ntmps3
  go_wp2_with fail
  generalize hW : (World.alloc w (.cells #[.int .i64 ax, .int .i64 ay] 22)) = W
  have d00 : W.cell? ⟨w.heap.size, 0, none⟩ = some (.int .i64 ax) := by subst hW; go_simp
  have d01 : W.cell? ⟨w.heap.size, 1, none⟩ = some (.int .i64 ay) := by subst hW; go_simp
  have hB : Below w.heap.size w W := by subst hW; go_grown
  clear hW
  refine (toPoint_any _ _ _).mono ?_
  rintro e w' ⟨rfl, hbn⟩
  replace d00 := keepC hbn d00
  replace d01 := keepC hbn d01
  replace hB := below_of hB hbn hB.size
  clear hbn
  go_wp2_with fail
  refine (sPointText_any p ax ay _).mono ?_
  rintro e w' ⟨he, hbn⟩
  rw [hfin.out] at he
  dsimp only at he
  subst he
  replace d00 := keepC hbn d00
  replace d01 := keepC hbn d01
  replace hB := below_of hB hbn hB.size
  clear hbn
  go_wp2_with fail
  refine (toPoint_any _ _ _).mono ?_
  rintro e w' ⟨rfl, hbn⟩
  replace d00 := keepC hbn d00
  replace d01 := keepC hbn d01
  replace hB := below_of hB hbn hB.size
  clear hbn
  go_wp2_with fail
  refine (PointText_any p ax ay _).mono ?_
  rintro e w' ⟨he, hbn⟩
  rw [hfin.out] at he
  dsimp only at he
  subst he
  replace d00 := keepC hbn d00
  replace d01 := keepC hbn d01
  replace hB := below_of hB hbn hB.size
  clear hbn
  go_wp2_with fail
  go_ret
  exact ⟨rfl, hB⟩
end Go.Proofs.YtommkkgkfjmhdaaDoor.fnExactPointText
