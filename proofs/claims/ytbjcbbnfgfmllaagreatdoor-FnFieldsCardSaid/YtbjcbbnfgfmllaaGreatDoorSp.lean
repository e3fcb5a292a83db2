/- Contracts: lists of points and of lines: how the laws compare and mark them. -/
import Derived.Test.YtbjcbbnfgfmllaaGreatDoorOwn
import Derived.Test.YtbjcbbnfgfmllaaGreatDoorPlA
import Derived.Test.YtbjcbbnfgfmllaaGreatDoorEq
import Derived.Test.YtbjcbbnfgfmllaaGreatDoorRegA
set_option linter.unusedVariables false
set_option linter.unusedSimpArgs false
set_option maxHeartbeats 1000000
set_option maxRecDepth 100000
namespace Go.Proofs.YtbjcbbnfgfmllaaGreatDoor
open Go.RowKit
theorem Own.cell2 {w : World} {B e g n cap : Nat} {xs : List (Int × Int)} (h : Own w B e 2 g n cap (Pl.flat2 xs)) {j : Nat} (hj : j < xs.length) : w.cell? ⟨g, j * 2, none⟩ = some (.int .i64 (xs.getD j (0, 0)).1) ∧ w.cell? ⟨g, j * 2 + 1, none⟩ = some (.int .i64 (xs.getD j (0, 0)).2) := by
  have hf := Pl.flat2_get xs j hj
  have hl := Pl.flat2_len xs
  refine ⟨?_, ?_⟩
  · rw [← hf.1]; exact h.cell (by omega)
  · rw [← hf.2]; exact h.cell (by omega)
theorem Own.cell3 {w : World} {B e g n cap : Nat} {xs : List (Int × Int × Int)} (h : Own w B e 3 g n cap (Pl.flat3 xs)) {j : Nat} (hj : j < xs.length) : w.cell? ⟨g, j * 3, none⟩ = some (.int .i64 (xs.getD j (0, 0, 0)).1) ∧ w.cell? ⟨g, j * 3 + 1, none⟩ = some (.int .i64 (xs.getD j (0, 0, 0)).2.1) ∧ w.cell? ⟨g, j * 3 + 2, none⟩ = some (.int .i64 (xs.getD j (0, 0, 0)).2.2) := by
  have hf := Pl.flat3_get xs j hj
  have hl := Pl.flat3_len xs
  refine ⟨?_, ?_, ?_⟩
  · rw [← hf.1]; exact h.cell (by omega)
  · rw [← hf.2.1]; exact h.cell (by omega)
  · rw [← hf.2.2]; exact h.cell (by omega)
end Go.Proofs.YtbjcbbnfgfmllaaGreatDoor
