/- FnExactParseLine: the walk. -/
import Derived.Test.YtommkkgkfjmhdaaTc
import Derived.Test.YtommkkgkfjmhdaaEq
set_option linter.unusedVariables false
set_option linter.unusedSimpArgs false
set_option maxHeartbeats 2000000
set_option maxRecDepth 100000
namespace Go.Proofs.Ytommkkgkfjmhdaa.fnExactParseLine
open Go.RowKit
theorem walk (p : Int) (s : ByteArray) (_ : (Lit.int .i64 p).wf = true) (hs : s.size ≤ maxLen) (w : World) : Calls Try.prog 8 #[.int .i64 p, .string s] w fun e w' => e = .returned (.bool true) ∧ Below w.heap.size w w' := by
  unfold maxLen at hs
  by_cases hl : 1048576 < s.size
  · go_enter Try.func8, Try.ntmps8
    go_wp2_with fail
    go_ret
    exact ⟨rfl, Below.refl _ _⟩
  have hB := Below.refl w.heap.size w
  obtain ⟨rx, ry, rz, rq, hfin⟩ : ∃ rx ry rz rq : Int, Hid ((Pl.parseLn p s.data.toList) = ((rx, ry, rz), rq)) := ⟨_, _, _, _, rfl⟩
  go_enter Try.func8, Try.ntmps8
  go_wp2_with fail
  refine (sParseLine_any p s _ (by omega)).mono ?_
  rintro e w' ⟨he, hbn⟩
  rw [hfin.out] at he
  dsimp only at he
  subst he
  replace hB := below_of (B := w.heap.size) (a := w) (by first | exact hB | (have := hB.size; go_grown)) hbn (by first | exact hB.size | (have := hB.size; simp <;> omega))
  clear hbn
  go_upto_region 4 with fail
  generalize hW2 : (World.alloc w' (.cells #[(.int .i64 rx), (.int .i64 ry), (.int .i64 rz)] 28)) = W2
  have u0 : W2.cell? ⟨w'.heap.size, 0, none⟩ = some (.int .i64 rx) := by subst hW2; go_simp
  have u1 : W2.cell? ⟨w'.heap.size, 1, none⟩ = some (.int .i64 ry) := by subst hW2; go_simp
  have u2 : W2.cell? ⟨w'.heap.size, 2, none⟩ = some (.int .i64 rz) := by subst hW2; go_simp
  replace hB : Below w.heap.size w W2 := by rw [← hW2]; have := hB.size; go_grown
  clear hW2
  generalize w'.heap.size = ub at *
  go_wp2_with fail
  refine (ParseLine_any p s _ (by omega)).mono ?_
  rintro e w' ⟨he, hbn⟩
  rw [hfin.out] at he
  dsimp only at he
  subst he
  replace u0 := keepC hbn u0
  replace u1 := keepC hbn u1
  replace u2 := keepC hbn u2
  replace hB := below_of (B := w.heap.size) (a := w) (by first | exact hB | (have := hB.size; go_grown)) hbn (by first | exact hB.size | (have := hB.size; simp <;> omega))
  clear hbn
  have hub : ub < w'.heap.size := World.block_lt_of_cell? w' _ u0
  go_wp2_with (go_at_call 31; refine (eqLine_same _ _ _ _).mono ?_; rintro e w' ⟨rfl, hbn⟩; replace hB := below_of (B := w.heap.size) (a := w) (by first | exact hB | (have := hB.size; go_grown)) hbn (by first | exact hB.size | (have := hB.size; simp <;> omega)); clear hbn)
  go_ret
  exact ⟨rfl, by first | exact hB | go_grown⟩
end Go.Proofs.Ytommkkgkfjmhdaa.fnExactParseLine
