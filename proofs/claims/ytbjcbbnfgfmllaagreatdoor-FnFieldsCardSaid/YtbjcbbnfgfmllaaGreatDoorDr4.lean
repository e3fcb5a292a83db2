/- The line through a point by a direction, whatever they are. -/
import Derived.Test.YtbjcbbnfgfmllaaGreatDoorDr3
import Derived.Test.YtbjcbbnfgfmllaaGreatDoorSx
set_option linter.unusedVariables false
set_option linter.unusedSimpArgs false
set_option maxHeartbeats 1000000
set_option maxRecDepth 100000
namespace Go.Proofs.YtbjcbbnfgfmllaaGreatDoor
open Go.RowKit
/-- The numbers with which the product with a direction is made. -/
def thU (k dx dy : Int) : Int := if k = 2 then dy else dx
def thV (p k dx dy : Int) : Int := if k = 2 then dx else if k = 1 then (-dy) % p else dy
/-- Some line of small numbers. -/
def Rng (p : Int) (v : Value) : Prop := ∃ a b c : Int, v = .agg #[.int .i64 a, .int .i64 b, .int .i64 c] ∧ 0 ≤ a ∧ a < p ∧ 0 ≤ b ∧ b < p ∧ 0 ≤ c ∧ c < p
def RngE (p : Int) (e : Ending) : Prop := ∃ v, e = .returned v ∧ Rng p v
theorem Reg.inh_nil : ∀ S ∈ ([] : List (Value → Prop)), ∃ v, S v := by intro S h; cases h
theorem Reg.inh_cons {S : Value → Prop} {Ss : List (Value → Prop)} (h : ∃ v, S v) (t : ∀ S ∈ Ss, ∃ v, S v) : ∀ S' ∈ S :: Ss, ∃ v, S' v := by
  intro S' h'
  rcases List.mem_cons.1 h' with rfl | h'
  · exact h
  · exact t S' h'
theorem grown_below {w w' : World} {row : Option Nat} (h : Below w.heap.size w w') : w.grownBy w' row := ⟨h.os, h.tape, h.output, h.size, fun k hk _ => h.block k hk⟩
theorem below_grown {B : Nat} {a w w' : World} {bs : Nat} (h : Below B a w) (hg : w.grownBy w' (some bs)) (hB : B ≤ w.heap.size) (hb : B ≤ bs) : Below B a w' := h.grown hg hB (fun k hk => by cases hk; exact hb)
end Go.Proofs.YtbjcbbnfgfmllaaGreatDoor
