/- FnExactLineOf: the walk. -/
import Derived.Test.YteocnenjllddaaaJ
import Derived.Test.YteocnenjllddaaaG
import Derived.Test.YteocnenjllddaaaReg
import Derived.Test.YteocnenjllddaaaEq
set_option linter.unusedVariables false
set_option linter.unusedSimpArgs false
set_option maxHeartbeats 2000000
namespace Go.Proofs.Yteocnenjllddaaa.fnExactLineOf
open Go.RowKit
theorem walk (p a b c : Int) (_ : (Lit.int .i64 p).wf = true) (_ : (Lit.int .i64 a).wf = true) (_ : (Lit.int .i64 b).wf = true) (_ : (Lit.int .i64 c).wf = true) (w : World) : Calls Try.prog 4 #[.int .i64 p, .int .i64 a, .int .i64 b, .int .i64 c] w fun e w' => e = .returned (.bool true) ∧ Below w.heap.size w w' := by
  go_enter Try.func4, Try.ntmps4
  go_wp2_with fail
  generalize hW : w = W
  have hB : Below w.heap.size w W := by subst hW; go_grown
  clear hW
  go_wp2_with (go_at_call 19; refine (sLineOf_any _ _ _ _ _).mono ?_; rintro e w' ⟨rfl, hbn⟩; replace hB := below_of (B := w.heap.size) (a := w) (by first | exact hB | (have := hB.size; go_grown)) hbn (by first | exact hB.size | (have := hB.size; simp <;> omega)); clear hbn)
  generalize hW2 : (World.alloc w' (.cells #[(.int .i64 ((Pl.lineOf p a b c).1.1)), (.int .i64 ((Pl.lineOf p a b c).1.2.1)), (.int .i64 ((Pl.lineOf p a b c).1.2.2))] 30)) = W2
  have u0 : W2.cell? ⟨w'.heap.size, 0, none⟩ = some (.int .i64 ((Pl.lineOf p a b c).1.1)) := by subst hW2; go_simp
  have u1 : W2.cell? ⟨w'.heap.size, 1, none⟩ = some (.int .i64 ((Pl.lineOf p a b c).1.2.1)) := by subst hW2; go_simp
  have u2 : W2.cell? ⟨w'.heap.size, 2, none⟩ = some (.int .i64 ((Pl.lineOf p a b c).1.2.2)) := by subst hW2; go_simp
  replace hB : Below w.heap.size w W2 := by rw [← hW2]; have := hB.size; go_grown
  clear hW2
  generalize w'.heap.size = ub at *
  go_wp2_with (first | (go_at_call 20; refine (LineOf_any _ _ _ _ _).mono ?_; rintro e w' ⟨rfl, hbn⟩; replace u0 := keepC hbn (by first | exact u0 | exact keepA _ u0 | exact keepA _ (keepA _ u0)); replace u1 := keepC hbn (by first | exact u1 | exact keepA _ u1 | exact keepA _ (keepA _ u1)); replace u2 := keepC hbn (by first | exact u2 | exact keepA _ u2 | exact keepA _ (keepA _ u2)); replace hB := below_of (B := w.heap.size) (a := w) (by first | exact hB | (have := hB.size; go_grown)) hbn (by first | exact hB.size | (have := hB.size; simp <;> omega)); clear hbn; have hub : ub < w'.heap.size := World.block_lt_of_cell? w' _ u0) | (go_at_call 21; refine (eqLine_same _ _ _ _).mono ?_; rintro e w' ⟨rfl, hbn⟩; replace hB := below_of (B := w.heap.size) (a := w) (by first | exact hB | (have := hB.size; go_grown)) hbn (by first | exact hB.size | (have := hB.size; simp <;> omega)); clear hbn))
  go_ret
  exact ⟨rfl, by first | exact hB | go_grown⟩
end Go.Proofs.Yteocnenjllddaaa.fnExactLineOf
