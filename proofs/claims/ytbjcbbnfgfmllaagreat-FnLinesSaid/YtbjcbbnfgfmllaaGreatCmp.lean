/- Contracts: how the great laws compare lists of points, of lines. -/
import Derived.Test.YtbjcbbnfgfmllaaGreatSp
import Derived.Test.YtbjcbbnfgfmllaaGreatAgg2
import Derived.BigQuiet
import Derived.WalkSmall
set_option linter.unusedVariables false
set_option linter.unusedSimpArgs false
set_option maxHeartbeats 1000000
set_option maxRecDepth 100000
namespace Go.Proofs.YtbjcbbnfgfmllaaGreat
open Go.RowKit
theorem lines5_same (g1 c1 g2 c2 n : Nat) (xs : List (Int × Int × Int)) (w : World) (hm : n ≤ 100000) (hx : ∀ j, j < n → 0 ≤ (xs.getD j (0, 0, 0)).1 ∧ (xs.getD j (0, 0, 0)).1 ≤ 31 ∧ 0 ≤ (xs.getD j (0, 0, 0)).2.1 ∧ (xs.getD j (0, 0, 0)).2.1 ≤ 31 ∧ 0 ≤ (xs.getD j (0, 0, 0)).2.2 ∧ (xs.getD j (0, 0, 0)).2.2 ≤ 31) (h1 : ∀ j, j < n → w.cell? ⟨g1, j * 3, none⟩ = some (.int .i64 (xs.getD j (0, 0, 0)).1) ∧ w.cell? ⟨g1, j * 3 + 1, none⟩ = some (.int .i64 (xs.getD j (0, 0, 0)).2.1) ∧ w.cell? ⟨g1, j * 3 + 2, none⟩ = some (.int .i64 (xs.getD j (0, 0, 0)).2.2)) (h2 : ∀ j, j < n → w.cell? ⟨g2, j * 3, none⟩ = some (.int .i64 (xs.getD j (0, 0, 0)).1) ∧ w.cell? ⟨g2, j * 3 + 1, none⟩ = some (.int .i64 (xs.getD j (0, 0, 0)).2.1) ∧ w.cell? ⟨g2, j * 3 + 2, none⟩ = some (.int .i64 (xs.getD j (0, 0, 0)).2.2)) :
    Calls Tryz.prog 37 #[.slice (some ⟨g1, 0, none⟩) n c1, .slice (some ⟨g2, 0, none⟩) n c2] w fun e w' => e = .returned (.bool true) ∧ Below w.heap.size w w' := by
  have H1 := hid h1
  have H2 := hid h2
  have HX := hid hx
  clear h1 h2 hx
  go_enter Tryz.func37, Tryz.ntmps37
  go_wp2_with fail
  go_loopw [5] (fun i wr => ∃ k : Nat, k ≤ n ∧ i = .int .i64 k ∧ Below w.heap.size w wr) (fun i _ => n - (intOf i).toNat)
  case atStart => exact ⟨0, Nat.zero_le _, rfl, Below.refl _ _⟩
  case round =>
    obtain ⟨k, hk, rfl, hB⟩ := hrel
    by_cases hlt : k < n
    · have q1 := H1.out k hlt
      have q2 := H2.out k hlt
      have q3 := HX.out k hlt
      clear H1 H2 HX
      generalize (xs.getD k (0, 0, 0)).1 = x at *
      generalize (xs.getD k (0, 0, 0)).2.1 = y at *
      generalize (xs.getD k (0, 0, 0)).2.2 = z at *
      obtain ⟨x1, x2, y1, y2, z1, z2⟩ := q3
      have hq : ∀ w', (Op.equalIn 10000 29 (.agg #[.int .i64 x, .int .i64 y, .int .i64 z]) (.agg #[.int .i64 x, .int .i64 y, .int .i64 z])).run Tryz.prog w' = .ok (true) w' := fun w' => eqLn_same w' x1 x2 y1 y2 z1 z2
      obtain ⟨d10, d11, d12⟩ := q1
      obtain ⟨d20, d21, d22⟩ := q2
      replace d10 := cellOf hB d10 (World.block_lt_of_cell? w _ d10)
      replace d11 := cellOf hB d11 (World.block_lt_of_cell? w _ d11)
      replace d12 := cellOf hB d12 (World.block_lt_of_cell? w _ d12)
      replace d20 := cellOf hB d20 (World.block_lt_of_cell? w _ d20)
      replace d21 := cellOf hB d21 (World.block_lt_of_cell? w _ d21)
      replace d22 := cellOf hB d22 (World.block_lt_of_cell? w _ d22)
      go_wp2_with fail
      go_quiet (fail)
      go_wp2_with fail
      go_roundw
      case rel => exact ⟨k + 1, by omega, by go_num, below_drewN hB _⟩
      case measure => simp [intOf]; omega
    · go_wp2_with fail
      go_ret
      exact ⟨rfl, hB⟩
theorem lines5_nil (w : World) : Calls Tryz.prog 37 #[.slice none 0 0, .slice none 0 0] w fun e w' => e = .returned (.bool true) ∧ Below w.heap.size w w' := by
  go_enter Tryz.func37, Tryz.ntmps37
  go_wp2_with fail
  go_loopw [5] (fun i wr => i = .int .i64 0 ∧ w = wr) (fun _ _ => 0)
  case atStart => exact ⟨rfl, rfl⟩
  case round =>
    obtain ⟨rfl, rfl⟩ := hrel
    go_wp2_with fail
    go_ret
    exact ⟨rfl, Below.refl _ _⟩
theorem points5_same (g1 c1 g2 c2 n : Nat) (xs : List (Int × Int)) (w : World) (hm : n ≤ 100000) (hx : ∀ j, j < n → 0 ≤ (xs.getD j (0, 0)).1 ∧ (xs.getD j (0, 0)).1 ≤ 31 ∧ 0 ≤ (xs.getD j (0, 0)).2 ∧ (xs.getD j (0, 0)).2 ≤ 31) (h1 : ∀ j, j < n → w.cell? ⟨g1, j * 2, none⟩ = some (.int .i64 (xs.getD j (0, 0)).1) ∧ w.cell? ⟨g1, j * 2 + 1, none⟩ = some (.int .i64 (xs.getD j (0, 0)).2)) (h2 : ∀ j, j < n → w.cell? ⟨g2, j * 2, none⟩ = some (.int .i64 (xs.getD j (0, 0)).1) ∧ w.cell? ⟨g2, j * 2 + 1, none⟩ = some (.int .i64 (xs.getD j (0, 0)).2)) :
    Calls Tryz.prog 36 #[.slice (some ⟨g1, 0, none⟩) n c1, .slice (some ⟨g2, 0, none⟩) n c2] w fun e w' => e = .returned (.bool true) ∧ Below w.heap.size w w' := by
  have H1 := hid h1
  have H2 := hid h2
  have HX := hid hx
  clear h1 h2 hx
  go_enter Tryz.func36, Tryz.ntmps36
  go_wp2_with fail
  go_loopw [5] (fun i wr => ∃ k : Nat, k ≤ n ∧ i = .int .i64 k ∧ Below w.heap.size w wr) (fun i _ => n - (intOf i).toNat)
  case atStart => exact ⟨0, Nat.zero_le _, rfl, Below.refl _ _⟩
  case round =>
    obtain ⟨k, hk, rfl, hB⟩ := hrel
    by_cases hlt : k < n
    · have q1 := H1.out k hlt
      have q2 := H2.out k hlt
      have q3 := HX.out k hlt
      clear H1 H2 HX
      generalize (xs.getD k (0, 0)).1 = x at *
      generalize (xs.getD k (0, 0)).2 = y at *
      obtain ⟨x1, x2, y1, y2⟩ := q3
      have hq : ∀ w', (Op.equalIn 10000 25 (.agg #[.int .i64 x, .int .i64 y]) (.agg #[.int .i64 x, .int .i64 y])).run Tryz.prog w' = .ok (true) w' := fun w' => eqPt_same w' x1 x2 y1 y2
      obtain ⟨d10, d11⟩ := q1
      obtain ⟨d20, d21⟩ := q2
      replace d10 := cellOf hB d10 (World.block_lt_of_cell? w _ d10)
      replace d11 := cellOf hB d11 (World.block_lt_of_cell? w _ d11)
      replace d20 := cellOf hB d20 (World.block_lt_of_cell? w _ d20)
      replace d21 := cellOf hB d21 (World.block_lt_of_cell? w _ d21)
      go_wp2_with fail
      go_quiet (fail)
      go_wp2_with fail
      go_roundw
      case rel => exact ⟨k + 1, by omega, by go_num, below_drewN hB _⟩
      case measure => simp [intOf]; omega
    · go_wp2_with fail
      go_ret
      exact ⟨rfl, hB⟩
theorem points5_nil (w : World) : Calls Tryz.prog 36 #[.slice none 0 0, .slice none 0 0] w fun e w' => e = .returned (.bool true) ∧ Below w.heap.size w w' := by
  go_enter Tryz.func36, Tryz.ntmps36
  go_wp2_with fail
  go_loopw [5] (fun i wr => i = .int .i64 0 ∧ w = wr) (fun _ _ => 0)
  case atStart => exact ⟨rfl, rfl⟩
  case round =>
    obtain ⟨rfl, rfl⟩ := hrel
    go_wp2_with fail
    go_ret
    exact ⟨rfl, Below.refl _ _⟩
end Go.Proofs.YtbjcbbnfgfmllaaGreat
