/- Contracts: draws of layer 2. -/
import Derived.Test.YtbjcbbnfgfmllaaGreatDoorRes
import Derived.Test.YtbjcbbnfgfmllaaGreatDoorAgg
set_option linter.unusedVariables false
set_option linter.unusedSimpArgs false
set_option maxHeartbeats 1000000
set_option maxRecDepth 100000
namespace Go.Proofs.YtbjcbbnfgfmllaaGreatDoor
open Go.RowKit
theorem field_of {p : Int} (h : p ∈ ([3, 5, 5, 7, 7, 11, 13, 13, 17, 19, 23, 29, 31] : List Int)) : Pl.fieldB p = true := by
  simp only [List.mem_cons, List.not_mem_nil, or_false] at h
  rcases h with rfl | rfl | rfl | rfl | rfl | rfl | rfl | rfl | rfl | rfl | rfl | rfl | rfl <;> decide
theorem Bytes.alloc {w : World} {B : Nat} {v : Value} (h : Bytes w B v) (o : Obj) : Bytes (w.alloc o) B v := by
  obtain ⟨o', n, c, h1, h2, h0, h3⟩ := h
  refine ⟨o', n, c, h1, h2, h0, fun ad ha => ⟨(h3 ad ha).1, fun j hj => ?_⟩⟩
  obtain ⟨b, h4, h5⟩ := (h3 ad ha).2 j hj
  exact ⟨b, keepA _ h4, h5⟩
theorem Bytes.raise {w : World} {B B' : Nat} {v : Value} (h : Bytes w B v) (hB : B ≤ B') : Bytes w B' v := by
  obtain ⟨o', n, c, h1, h2, h0, h3⟩ := h
  exact ⟨o', n, c, h1, h2, h0, fun ad ha => ⟨fun h => Nat.lt_of_lt_of_le ((h3 ad ha).1 h) hB, (h3 ad ha).2⟩⟩
def IsI (v : Value) : Prop := ∃ n : Int, v = .int .i64 n
def IsP (v : Value) : Prop := ∃ x y : Int, v = .agg #[.int .i64 x, .int .i64 y]
def IsL (v : Value) : Prop := ∃ a b c : Int, v = .agg #[.int .i64 a, .int .i64 b, .int .i64 c]
def IsPt (p : Int) (v : Value) : Prop := ∃ x y : Int, v = .agg #[.int .i64 x, .int .i64 y] ∧ 0 ≤ x ∧ x < p ∧ 0 ≤ y ∧ y < p
def IsN (p : Int) (v : Value) : Prop := ∃ n : Int, v = .int .i64 n ∧ 0 ≤ n ∧ n < p
end Go.Proofs.YtbjcbbnfgfmllaaGreatDoor
