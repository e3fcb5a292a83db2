/- Contract of big; what a law's code is. -/
import Derived.Test.YtbjcbbnfgfmllaaGreatDoorDr
set_option linter.unusedVariables false
set_option linter.unusedSimpArgs false
set_option maxRecDepth 100000
set_option maxHeartbeats 1000000
namespace Go.Proofs.YtbjcbbnfgfmllaaGreatDoor
open Go.RowKit
/-- The bytes of a law's code, however many. -/
def CodeArg (w : World) (v : Value) : Prop :=
  ∃ o n c, v = .slice o n c ∧ (o = none → n = 0) ∧ ∀ ad, o = some ad → (0 < n → ad.block < w.heap.size) ∧ ∀ j, j < n → ∃ b, w.cell? (ad.add j) = some (.int .u8 b) ∧ 0 ≤ b ∧ b ≤ 255
theorem Bytes.below {w w' : World} {v : Value} (h : Bytes w w.heap.size v) (hb : Below w.heap.size w w') : Bytes w' w.heap.size v := by
  obtain ⟨o, n, c, h1, h2, h0, h3⟩ := h
  refine ⟨o, n, c, h1, h2, h0, fun ad ha => ⟨(h3 ad ha).1, fun j hj => ?_⟩⟩
  obtain ⟨b, h4, h5⟩ := (h3 ad ha).2 j hj
  exact ⟨b, (hb.cell (by rw [add_block]; exact (h3 ad ha).1 (by omega))).trans h4, h5⟩
theorem Pl.ask_mk {p : Int} {b : Bool} (hf : Pl.fieldB p = true) (hb : b = true) : Pl.ask p b = 0 := by simp [Pl.ask, hf, hb]
theorem big_yes (o : Option Addr) (n c : Nat) (w : World) (h : 4096 < n) : Calls Tryz.prog 4 #[.slice o n c] w fun e w' => e = .returned (.bool true) ∧ w = w' := by
  go_enter Tryz.func4, Tryz.ntmps4
  go_wp2_with fail
  go_ret
  exact ⟨by simp; omega, rfl⟩
theorem big_no (o : Option Addr) (n c : Nat) (w : World) (h : n ≤ 4096) : Calls Tryz.prog 4 #[.slice o n c] w fun e w' => e = .returned (.bool false) ∧ w = w' := by
  go_enter Tryz.func4, Tryz.ntmps4
  go_wp2_with fail
  go_ret
  exact ⟨by simp; omega, rfl⟩
end Go.Proofs.YtbjcbbnfgfmllaaGreatDoor
