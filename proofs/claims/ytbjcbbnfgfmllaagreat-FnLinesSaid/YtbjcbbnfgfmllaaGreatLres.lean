/- A result that is a list and a code: the list of its own where the code is 0, else nil. -/
import Derived.Test.YtbjcbbnfgfmllaaGreatCmp
set_option linter.unusedVariables false
set_option linter.unusedSimpArgs false
set_option maxHeartbeats 1000000
set_option maxRecDepth 100000
namespace Go.Proofs.YtbjcbbnfgfmllaaGreat
open Go.RowKit
def LRes (w : World) (B : Nat) (ty : TypeId) (sz n : Nat) (xs : List Int) (q : Int) (v : Value) : Prop :=
  (q = 0 ∧ ∃ g c, v = .slice (some ⟨g, 0, none⟩) n c ∧ Own w B ty sz g n c xs) ∨ (q ≠ 0 ∧ v = .slice none 0 0)
theorem LRes.keep {w w' : World} {B : Nat} {ty : TypeId} {sz n : Nat} {xs : List Int} {q : Int} {v : Value} (h : LRes w B ty sz n xs q v) (hb : Below w.heap.size w w') : LRes w' B ty sz n xs q v := by
  rcases h with ⟨h0, g, c, hv, h1⟩ | h
  · exact .inl ⟨h0, g, c, hv, h1.keep hb⟩
  · exact .inr h
theorem LRes.low {w : World} {B B' : Nat} {ty : TypeId} {sz n : Nat} {xs : List Int} {q : Int} {v : Value} (h : LRes w B ty sz n xs q v) (hB : B' ≤ B) : LRes w B' ty sz n xs q v := by
  rcases h with ⟨h0, g, c, hv, h1⟩ | h
  · exact .inl ⟨h0, g, c, hv, h1.low hB⟩
  · exact .inr h
theorem LRes.ok {w : World} {B : Nat} {ty : TypeId} {sz n : Nat} {xs : List Int} {q : Int} {v : Value} (h : LRes w B ty sz n xs q v) (h0 : q = 0) : ∃ g c, v = .slice (some ⟨g, 0, none⟩) n c ∧ Own w B ty sz g n c xs := by
  rcases h with ⟨_, h⟩ | ⟨h, _⟩
  · exact h
  · exact absurd h0 h
theorem LRes.err {w : World} {B : Nat} {ty : TypeId} {sz n : Nat} {xs : List Int} {q : Int} {v : Value} (h : LRes w B ty sz n xs q v) (h0 : q ≠ 0) : v = .slice none 0 0 := by
  rcases h with ⟨h, _⟩ | ⟨_, h⟩
  · exact absurd h h0
  · exact h
theorem calls_or {P : Program} {f : Nat} {args : Array Value} {w : World} {p : Prop} {Q : Ending → World → Prop} (h1 : p → Calls P f args w Q) (h2 : ¬ p → Calls P f args w Q) : Calls P f args w Q := by
  by_cases h : p
  · exact h1 h
  · exact h2 h
theorem lines5_res {w : World} {B1 B2 : Nat} {xs : List (Int × Int × Int)} {q : Int} {v1 v2 : Value} (h1 : LRes w B1 29 3 xs.length (Pl.flat3 xs) q v1) (h2 : LRes w B2 29 3 xs.length (Pl.flat3 xs) q v2) (hm : q = 0 → xs.length ≤ 100000) (hx : q = 0 → ∀ j, j < xs.length → 0 ≤ (xs.getD j (0, 0, 0)).1 ∧ (xs.getD j (0, 0, 0)).1 ≤ 31 ∧ 0 ≤ (xs.getD j (0, 0, 0)).2.1 ∧ (xs.getD j (0, 0, 0)).2.1 ≤ 31 ∧ 0 ≤ (xs.getD j (0, 0, 0)).2.2 ∧ (xs.getD j (0, 0, 0)).2.2 ≤ 31) :
    Calls Tryz.prog 37 #[v1, v2] w fun e w' => e = .returned (.bool true) ∧ Below w.heap.size w w' := by
  by_cases h0 : q = 0
  · obtain ⟨g1, c1, rfl, o1⟩ := h1.ok h0
    obtain ⟨g2, c2, rfl, o2⟩ := h2.ok h0
    exact lines5_same g1 c1 g2 c2 xs.length xs w (hm h0) (hx h0) (fun j hj => o1.cell3 hj) (fun j hj => o2.cell3 hj)
  · obtain rfl := h1.err h0
    obtain rfl := h2.err h0
    exact lines5_nil w
theorem points5_res {w : World} {B1 B2 : Nat} {xs : List (Int × Int)} {q : Int} {v1 v2 : Value} (h1 : LRes w B1 25 2 xs.length (Pl.flat2 xs) q v1) (h2 : LRes w B2 25 2 xs.length (Pl.flat2 xs) q v2) (hm : q = 0 → xs.length ≤ 100000) (hx : q = 0 → ∀ j, j < xs.length → 0 ≤ (xs.getD j (0, 0)).1 ∧ (xs.getD j (0, 0)).1 ≤ 31 ∧ 0 ≤ (xs.getD j (0, 0)).2 ∧ (xs.getD j (0, 0)).2 ≤ 31) :
    Calls Tryz.prog 36 #[v1, v2] w fun e w' => e = .returned (.bool true) ∧ Below w.heap.size w w' := by
  by_cases h0 : q = 0
  · obtain ⟨g1, c1, rfl, o1⟩ := h1.ok h0
    obtain ⟨g2, c2, rfl, o2⟩ := h2.ok h0
    exact points5_same g1 c1 g2 c2 xs.length xs w (hm h0) (hx h0) (fun j hj => o1.cell2 hj) (fun j hj => o2.cell2 hj)
  · obtain rfl := h1.err h0
    obtain rfl := h2.err h0
    exact points5_nil w
end Go.Proofs.YtbjcbbnfgfmllaaGreat
