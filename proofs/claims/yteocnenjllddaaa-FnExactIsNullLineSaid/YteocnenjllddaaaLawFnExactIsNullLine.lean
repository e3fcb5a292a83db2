/- FnExactIsNullLine: the walk. -/
import Derived.Test.YteocnenjllddaaaI
import Derived.Test.YteocnenjllddaaaReg
set_option linter.unusedVariables false
set_option linter.unusedSimpArgs false
set_option maxHeartbeats 2000000
namespace Go.Proofs.Yteocnenjllddaaa.fnExactIsNullLine
open Go.RowKit
theorem walk (p k la lb lc : Int) (_ : (Lit.int .i64 p).wf = true) (_ : (Lit.int .i64 k).wf = true) (_ : (Lit.int .i64 la).wf = true) (_ : (Lit.int .i64 lb).wf = true) (_ : (Lit.int .i64 lc).wf = true) (w : World) : Calls Try.prog 9 #[.int .i64 p, .int .i64 k, .agg #[.int .i64 la, .int .i64 lb, .int .i64 lc]] w fun e w' => e = .returned (.bool true) ∧ Below w.heap.size w w' := by
  go_enter Try.func9, Try.ntmps9
  go_wp2_with fail
  generalize hW : (World.alloc w (.cells #[.int .i64 la, .int .i64 lb, .int .i64 lc] 29)) = W
  have d00 : W.cell? ⟨w.heap.size, 0, none⟩ = some (.int .i64 la) := by subst hW; go_simp
  have d01 : W.cell? ⟨w.heap.size, 1, none⟩ = some (.int .i64 lb) := by subst hW; go_simp
  have d02 : W.cell? ⟨w.heap.size, 2, none⟩ = some (.int .i64 lc) := by subst hW; go_simp
  have hB : Below w.heap.size w W := by subst hW; go_grown
  clear hW
  go_wp2_with (first | (go_at_call 34; refine (toLine_any _ _ _ _).mono ?_; rintro e w' ⟨rfl, hbn⟩; replace d00 := keepC hbn (by first | exact d00 | exact keepA _ d00 | exact keepA _ (keepA _ d00)); replace d01 := keepC hbn (by first | exact d01 | exact keepA _ d01 | exact keepA _ (keepA _ d01)); replace d02 := keepC hbn (by first | exact d02 | exact keepA _ d02 | exact keepA _ (keepA _ d02)); replace hB := below_of (B := w.heap.size) (a := w) (by first | exact hB | (have := hB.size; go_grown)) hbn (by first | exact hB.size | (have := hB.size; simp <;> omega)); clear hbn) | (go_at_call 33; refine (sIsNullLine_any _ _ _ _ _ _).mono ?_; rintro e w' ⟨rfl, hbn⟩; replace d00 := keepC hbn (by first | exact d00 | exact keepA _ d00 | exact keepA _ (keepA _ d00)); replace d01 := keepC hbn (by first | exact d01 | exact keepA _ d01 | exact keepA _ (keepA _ d01)); replace d02 := keepC hbn (by first | exact d02 | exact keepA _ d02 | exact keepA _ (keepA _ d02)); replace hB := below_of (B := w.heap.size) (a := w) (by first | exact hB | (have := hB.size; go_grown)) hbn (by first | exact hB.size | (have := hB.size; simp <;> omega)); clear hbn) | (go_at_call 35; refine (IsNullLine_any _ _ _ _ _ _).mono ?_; rintro e w' ⟨rfl, hbn⟩; replace d00 := keepC hbn (by first | exact d00 | exact keepA _ d00 | exact keepA _ (keepA _ d00)); replace d01 := keepC hbn (by first | exact d01 | exact keepA _ d01 | exact keepA _ (keepA _ d01)); replace d02 := keepC hbn (by first | exact d02 | exact keepA _ d02 | exact keepA _ (keepA _ d02)); replace hB := below_of (B := w.heap.size) (a := w) (by first | exact hB | (have := hB.size; go_grown)) hbn (by first | exact hB.size | (have := hB.size; simp <;> omega)); clear hbn))
  go_ret
  exact ⟨rfl, hB⟩
end Go.Proofs.Yteocnenjllddaaa.fnExactIsNullLine
