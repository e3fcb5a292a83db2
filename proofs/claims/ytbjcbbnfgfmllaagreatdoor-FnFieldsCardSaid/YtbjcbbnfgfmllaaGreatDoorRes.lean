/- What a draw's result block holds while its region runs: some point, some line. No program in sight. -/
import Derived.Test.YtbjcbbnfgfmllaaGreatDoorRegA
import Derived.Test.YtbjcbbnfgfmllaaGreatDoorDr4
set_option linter.unusedVariables false
set_option linter.unusedSimpArgs false
namespace Go.Proofs.YtbjcbbnfgfmllaaGreatDoor
open Go.RowKit
def Res2 (w : World) (b : Nat) : Prop := b < w.heap.size ∧ (∃ x : Int, w.cell? ⟨b, 0, none⟩ = some (.int .i64 x)) ∧ (∃ x : Int, w.cell? ⟨b, 1, none⟩ = some (.int .i64 x)) ∧ ∀ j, j < 2 → w.frozen? ⟨b, j, none⟩ = false
def Res3 (w : World) (b : Nat) : Prop := b < w.heap.size ∧ (∃ x : Int, w.cell? ⟨b, 0, none⟩ = some (.int .i64 x)) ∧ (∃ x : Int, w.cell? ⟨b, 1, none⟩ = some (.int .i64 x)) ∧ (∃ x : Int, w.cell? ⟨b, 2, none⟩ = some (.int .i64 x)) ∧ ∀ j, j < 3 → w.frozen? ⟨b, j, none⟩ = false
theorem Res2.heap {w w' : World} {b : Nat} (h : Res2 w b) (hs : w.heap.size ≤ w'.heap.size) (he : w'.heap[b]? = w.heap[b]?) : Res2 w' b := by
  have hc : ∀ j, w'.cell? ⟨b, j, none⟩ = w.cell? ⟨b, j, none⟩ := fun j => World.cell?_of_block (w := w) (a := ⟨b, j, none⟩) he
  have hf : ∀ j, w'.frozen? ⟨b, j, none⟩ = w.frozen? ⟨b, j, none⟩ := fun j => World.frozen?_of_block (w := w) (a := ⟨b, j, none⟩) he
  obtain ⟨h0, ⟨x, hx⟩, ⟨y, hy⟩, hz⟩ := h
  exact ⟨Nat.lt_of_lt_of_le h0 hs, ⟨x, (hc 0).trans hx⟩, ⟨y, (hc 1).trans hy⟩, fun j hj => (hf j).trans (hz j hj)⟩
theorem Res3.heap {w w' : World} {b : Nat} (h : Res3 w b) (hs : w.heap.size ≤ w'.heap.size) (he : w'.heap[b]? = w.heap[b]?) : Res3 w' b := by
  have hc : ∀ j, w'.cell? ⟨b, j, none⟩ = w.cell? ⟨b, j, none⟩ := fun j => World.cell?_of_block (w := w) (a := ⟨b, j, none⟩) he
  have hf : ∀ j, w'.frozen? ⟨b, j, none⟩ = w.frozen? ⟨b, j, none⟩ := fun j => World.frozen?_of_block (w := w) (a := ⟨b, j, none⟩) he
  obtain ⟨h0, ⟨x, hx⟩, ⟨y, hy⟩, ⟨z, hz0⟩, hz⟩ := h
  exact ⟨Nat.lt_of_lt_of_le h0 hs, ⟨x, (hc 0).trans hx⟩, ⟨y, (hc 1).trans hy⟩, ⟨z, (hc 2).trans hz0⟩, fun j hj => (hf j).trans (hz j hj)⟩
theorem Res2.keep {w w' : World} {b : Nat} (h : Res2 w b) (hb : Below w.heap.size w w') : Res2 w' b := h.heap hb.size (hb.block b h.1)
theorem Res3.keep {w w' : World} {b : Nat} (h : Res3 w b) (hb : Below w.heap.size w w') : Res3 w' b := h.heap hb.size (hb.block b h.1)
theorem Res2.grown {w w' : World} {b bs : Nat} (h : Res2 w b) (hg : w.grownBy w' (some bs)) (hne : b ≠ bs) : Res2 w' b := h.heap hg.size (hg.block b h.1 (fun e => hne (by simpa using e)))
theorem Res3.grown {w w' : World} {b bs : Nat} (h : Res3 w b) (hg : w.grownBy w' (some bs)) (hne : b ≠ bs) : Res3 w' b := h.heap hg.size (hg.block b h.1 (fun e => hne (by simpa using e)))
/-- A point, a line stored whole. -/
def put2 (w : World) (b : Nat) (x y : Int) : World := (w.setCell ⟨b, 0, none⟩ (.int .i64 x)).setCell ⟨b, 1, none⟩ (.int .i64 y)
def put3 (w : World) (b : Nat) (x y z : Int) : World := ((w.setCell ⟨b, 0, none⟩ (.int .i64 x)).setCell ⟨b, 1, none⟩ (.int .i64 y)).setCell ⟨b, 2, none⟩ (.int .i64 z)
theorem put2_heap (w : World) (b : Nat) (x y : Int) (k : Nat) (h : k ≠ b) : (put2 w b x y).heap[k]? = w.heap[k]? :=
  (Below.heap_setCell _ ⟨b, 1, none⟩ _ k h).trans (Below.heap_setCell _ ⟨b, 0, none⟩ _ k h)
theorem put3_heap (w : World) (b : Nat) (x y z : Int) (k : Nat) (h : k ≠ b) : (put3 w b x y z).heap[k]? = w.heap[k]? :=
  (Below.heap_setCell _ ⟨b, 2, none⟩ _ k h).trans ((Below.heap_setCell _ ⟨b, 1, none⟩ _ k h).trans (Below.heap_setCell _ ⟨b, 0, none⟩ _ k h))
theorem put2_size (w : World) (b : Nat) (x y : Int) : (put2 w b x y).heap.size = w.heap.size := by simp [put2]
theorem put3_size (w : World) (b : Nat) (x y z : Int) : (put3 w b x y z).heap.size = w.heap.size := by simp [put3]
theorem Res2.put {w : World} {b : Nat} (h : Res2 w b) (x y : Int) : Res2 (put2 w b x y) b := by
  obtain ⟨h0, ⟨a, ha⟩, ⟨c, hc⟩, hz⟩ := h
  refine ⟨by rw [put2_size]; exact h0, ⟨x, ?_⟩, ⟨y, ?_⟩, fun j hj => ?_⟩
  rotate_left 2
  · simp [put2, hz j hj]
  all_goals simp [put2, World.cell?_setCell_other, World.cell?_setCell_same, ha, hc]
theorem Res3.put {w : World} {b : Nat} (h : Res3 w b) (x y z : Int) : Res3 (put3 w b x y z) b := by
  obtain ⟨h0, ⟨a, ha⟩, ⟨c, hc⟩, ⟨d, hd⟩, hz⟩ := h
  refine ⟨by rw [put3_size]; exact h0, ⟨x, ?_⟩, ⟨y, ?_⟩, ⟨z, ?_⟩, fun j hj => ?_⟩
  rotate_left 3
  · simp [put3, hz j hj]
  all_goals simp [put3, World.cell?_setCell_other, World.cell?_setCell_same, ha, hc, hd]
section
variable {w w' : World}
theorem cellP {b : Nat} {a : Addr} {x : Value} (hp : ∀ k, k ≠ b → w'.heap[k]? = w.heap[k]?) (h : w.cell? a = some x) (hne : a.block ≠ b) : w'.cell? a = some x := (World.cell?_of_block (w := w) (hp _ hne)).trans h
theorem frozenP {b : Nat} {a : Addr} (hp : ∀ k, k ≠ b → w'.heap[k]? = w.heap[k]?) (h : w.frozen? a = false) (hne : a.block ≠ b) : w'.frozen? a = false := (World.frozen?_of_block (w := w) (hp _ hne)).trans h
theorem Src.put {B bs b : Nat} {v : Value} (h : Src w B bs v) (hp : ∀ k, k ≠ b → w'.heap[k]? = w.heap[k]?) (hs : w'.heap.size = w.heap.size) (h1 : B ≤ b) (h2 : b ≠ bs) : Src w' B bs v :=
  h.of_heap (by omega) (fun k hk => hp k (by omega)) (hp bs (fun e => h2 e.symm))
theorem grown_put2 {w0 : World} {row : Option Nat} {b : Nat} (h : w0.grownBy w row) (hb : w0.heap.size ≤ b) (x y : Int) : w0.grownBy (put2 w b x y) row := grownBy_new (grownBy_new h hb _ _) hb _ _
theorem grown_put3 {w0 : World} {row : Option Nat} {b : Nat} (h : w0.grownBy w row) (hb : w0.heap.size ≤ b) (x y z : Int) : w0.grownBy (put3 w b x y z) row := grownBy_new (grownBy_new (grownBy_new h hb _ _) hb _ _) hb _ _
theorem below_put2 {B : Nat} {w0 : World} {b : Nat} (h : Below B w0 w) (hb : B ≤ b) (x y : Int) : Below B w0 (put2 w b x y) := (h.setCell (p := ⟨b, 0, none⟩) hb _).setCell (p := ⟨b, 1, none⟩) hb _
theorem below_put3 {B : Nat} {w0 : World} {b : Nat} (h : Below B w0 w) (hb : B ≤ b) (x y z : Int) : Below B w0 (put3 w b x y z) := ((h.setCell (p := ⟨b, 0, none⟩) hb _).setCell (p := ⟨b, 1, none⟩) hb _).setCell (p := ⟨b, 2, none⟩) hb _
end
end Go.Proofs.YtbjcbbnfgfmllaaGreatDoor
