/- Contracts: how the great laws compare lists of numbers. -/
import Derived.Test.YtbjcbbnfgfmllaaLres
import Derived.BigQuiet
import Derived.WalkSmall
set_option linter.unusedVariables false
set_option linter.unusedSimpArgs false
set_option maxHeartbeats 1000000
set_option maxRecDepth 100000
namespace Go.Proofs.Ytbjcbbnfgfmllaa
open Go.RowKit
theorem likeInts_same (g1 c1 g2 c2 n : Nat) (xs : List Int) (w : World) (hm : n ≤ 100000) (h1 : ∀ j, j < n → w.cell? ⟨g1, j, none⟩ = some (.int .i64 (xs.getD j 0))) (h2 : ∀ j, j < n → w.cell? ⟨g2, j, none⟩ = some (.int .i64 (xs.getD j 0))) :
    Calls Try.prog 20 #[.slice (some ⟨g1, 0, none⟩) n c1, .slice (some ⟨g2, 0, none⟩) n c2] w fun e w' => e = .returned (.bool true) ∧ Below w.heap.size w w' := by
  have H1 := hid h1
  have H2 := hid h2
  clear h1 h2
  go_enter Try.func20, Try.ntmps20
  go_wp2_with fail
  go_loopw [5] (fun i wr => ∃ k : Nat, k ≤ n ∧ i = .int .i64 k ∧ Below w.heap.size w wr) (fun i _ => n - (intOf i).toNat)
  case atStart => exact ⟨0, Nat.zero_le _, rfl, Below.refl _ _⟩
  case round =>
    obtain ⟨k, hk, rfl, hB⟩ := hrel
    by_cases hlt : k < n
    · have d1 := H1.out k hlt
      have d2 := H2.out k hlt
      clear H1 H2
      generalize xs.getD k 0 = x at *
      replace d1 := cellOf hB d1 (World.block_lt_of_cell? w _ d1)
      replace d2 := cellOf hB d2 (World.block_lt_of_cell? w _ d2)
      go_wp2_with fail
      go_quiet (fail)
      go_wp2_with fail
      go_roundw
      case rel => exact ⟨k + 1, by omega, by go_num, below_drewN hB _⟩
      case measure => simp [intOf]; omega
    · go_wp2_with fail
      go_ret
      exact ⟨rfl, hB⟩
theorem likeInts_nil (w : World) : Calls Try.prog 20 #[.slice none 0 0, .slice none 0 0] w fun e w' => e = .returned (.bool true) ∧ Below w.heap.size w w' := by
  go_enter Try.func20, Try.ntmps20
  go_wp2_with fail
  go_loopw [5] (fun i wr => i = .int .i64 0 ∧ w = wr) (fun _ _ => 0)
  case atStart => exact ⟨rfl, rfl⟩
  case round =>
    obtain ⟨rfl, rfl⟩ := hrel
    go_wp2_with fail
    go_ret
    exact ⟨rfl, Below.refl _ _⟩
theorem likeInts_res {w : World} {B1 B2 : Nat} {xs : List Int} {q : Int} {v1 v2 : Value} (h1 : LRes w B1 2 1 xs.length xs q v1) (h2 : LRes w B2 2 1 xs.length xs q v2) (hm : q = 0 → xs.length ≤ 100000) :
    Calls Try.prog 20 #[v1, v2] w fun e w' => e = .returned (.bool true) ∧ Below w.heap.size w w' := by
  by_cases h0 : q = 0
  · obtain ⟨g1, c1, rfl, o1⟩ := h1.ok h0
    obtain ⟨g2, c2, rfl, o2⟩ := h2.ok h0
    exact likeInts_same g1 c1 g2 c2 xs.length xs w (hm h0) (fun j hj => o1.cell hj) (fun j hj => o2.cell hj)
  · obtain rfl := h1.err h0
    obtain rfl := h2.err h0
    exact likeInts_nil w
theorem hasInt_yes (g c n m : Nat) (xs : List Int) (x : Int) (w : World) (hn : n ≤ 100000) (hm : m < n) (hx : xs.getD m 0 = x) (h1 : ∀ j, j < n → w.cell? ⟨g, j, none⟩ = some (.int .i64 (xs.getD j 0))) :
    Calls Try.prog 24 #[.slice (some ⟨g, 0, none⟩) n c, .int .i64 x] w fun e w' => e = .returned (.bool true) ∧ Below w.heap.size w w' := by
  have H1 := hid h1
  have HX := hid hx
  clear h1 hx
  go_enter Try.func24, Try.ntmps24
  go_wp2_with fail
  go_loopw [5] (fun i wr => ∃ k : Nat, k ≤ m ∧ i = .int .i64 k ∧ Below w.heap.size w wr) (fun i _ => n - (intOf i).toNat)
  case atStart => exact ⟨0, Nat.zero_le _, rfl, Below.refl _ _⟩
  case round =>
    obtain ⟨k, hk, rfl, hB⟩ := hrel
    have hlt : k < n := by omega
    have d1 := H1.out k hlt
    replace d1 := cellOf hB d1 (World.block_lt_of_cell? w _ d1)
    by_cases he : xs.getD k 0 = x
    · rw [he] at d1
      clear he HX H1
      go_wp2_with fail
      go_ret
      exact ⟨rfl, hB⟩
    · have hkm : k < m := by
        refine Nat.lt_of_le_of_ne hk fun e => he ?_
        rw [e]; exact HX.out
      clear HX H1
      generalize xs.getD k 0 = y at *
      have hyb : (y == x) = false := by simpa using he
      go_wp2_with fail
      go_roundw
      case rel => exact ⟨k + 1, by omega, by go_num, hB⟩
      case measure => simp [intOf]; omega
theorem hasInt_mem {w : World} {B g c : Nat} {xs : List Int} {x : Int} (h : Own w B 2 1 g xs.length c xs) (hn : xs.length ≤ 100000) (hx : x ∈ xs) :
    Calls Try.prog 24 #[.slice (some ⟨g, 0, none⟩) xs.length c, .int .i64 x] w fun e w' => e = .returned (.bool true) ∧ Below w.heap.size w w' := by
  obtain ⟨m, hm, rfl⟩ := List.getElem_of_mem hx
  exact hasInt_yes g c xs.length m xs _ w hn hm (by simp [hm]) (fun j hj => h.cell hj)
end Go.Proofs.Ytbjcbbnfgfmllaa
