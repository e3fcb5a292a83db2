/- FnExactLineText: the walk. -/
import Derived.Test.YtommkkgkfjmhdaaDoorTe
import Derived.Test.YtommkkgkfjmhdaaDoorF
import Derived.Test.YtommkkgkfjmhdaaDoorG
set_option linter.unusedVariables false
set_option linter.unusedSimpArgs false
set_option maxHeartbeats 2000000
set_option maxRecDepth 100000
namespace Go.Proofs.YtommkkgkfjmhdaaDoor.fnExactLineText
open Go.RowKit
theorem walk (p la lb lc : Int) (_ : (Lit.int .i64 p).wf = true) (_ : (Lit.int .i64 la).wf = true) (_ : (Lit.int .i64 lb).wf = true) (_ : (Lit.int .i64 lc).wf = true) (w : World) : Calls Tryd.prog 4 #[.int .i64 p, .agg #[.int .i64 la, .int .i64 lb, .int .i64 lc]] w fun e w' => e = .returned (.bool true) ∧ Below w.heap.size w w' := by
  obtain ⟨tx, tq, hfin⟩ : ∃ (tx : List UInt8) (tq : Int), Hid (Pl.textLn p la lb lc = (tx, tq)) := ⟨_, _, rfl⟩
  go_enter Tryd.func4, Tryd.ntmps4
  go_wp2_with fail
  generalize hW : (World.alloc w (.cells #[.int .i64 la, .int .i64 lb, .int .i64 lc] 28)) = W
  have d00 : W.cell? ⟨w.heap.size, 0, none⟩ = some (.int .i64 la) := by subst hW; go_simp
  have d01 : W.cell? ⟨w.heap.size, 1, none⟩ = some (.int .i64 lb) := by subst hW; go_simp
  have d02 : W.cell? ⟨w.heap.size, 2, none⟩ = some (.int .i64 lc) := by subst hW; go_simp
  have hB : Below w.heap.size w W := by subst hW; go_grown
  clear hW
  refine (toLine_any _ _ _ _).mono ?_
  rintro e w' ⟨rfl, hbn⟩
  replace d00 := keepC hbn d00
  replace d01 := keepC hbn d01
  replace d02 := keepC hbn d02
  replace hB := below_of hB hbn hB.size
  clear hbn
  go_wp2_with fail
  refine (sLineText_any p la lb lc _).mono ?_
  rintro e w' ⟨he, hbn⟩
  rw [hfin.out] at he
  dsimp only at he
  subst he
  replace d00 := keepC hbn d00
  replace d01 := keepC hbn d01
  replace d02 := keepC hbn d02
  replace hB := below_of hB hbn hB.size
  clear hbn
  go_wp2_with fail
  refine (toLine_any _ _ _ _).mono ?_
  rintro e w' ⟨rfl, hbn⟩
  replace d00 := keepC hbn d00
  replace d01 := keepC hbn d01
  replace d02 := keepC hbn d02
  replace hB := below_of hB hbn hB.size
  clear hbn
  go_wp2_with fail
  refine (LineText_any p la lb lc _).mono ?_
  rintro e w' ⟨he, hbn⟩
  rw [hfin.out] at he
  dsimp only at he
  subst he
  replace d00 := keepC hbn d00
  replace d01 := keepC hbn d01
  replace d02 := keepC hbn d02
  replace hB := below_of hB hbn hB.size
  clear hbn
  go_wp2_with fail
  go_ret
  exact ⟨rfl, hB⟩
end Go.Proofs.YtommkkgkfjmhdaaDoor.fnExactLineText
