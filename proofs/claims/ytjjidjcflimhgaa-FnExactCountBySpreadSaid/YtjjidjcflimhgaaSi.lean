/- Contracts: lists of whole numbers: how the laws compare and mark them; numbers for which something holds. -/
import Derived.Test.YtjjidjcflimhgaaOwn
import Derived.Test.YtjjidjcflimhgaaD
import Derived.Test.YtjjidjcflimhgaaPl6
set_option linter.unusedVariables false
set_option linter.unusedSimpArgs false
set_option maxRecDepth 100000
set_option maxHeartbeats 1000000
namespace Go.Proofs.Ytjjidjcflimhgaa
open Go.RowKit
theorem eqInt64S_same (g1 c1 g2 c2 n : Nat) (xs : List Int) (w : World) (hm : n ≤ 1000000) (h1 : ∀ j, j < n → w.cell? ⟨g1, j, none⟩ = some (.int .i64 (xs.getD j 0))) (h2 : ∀ j, j < n → w.cell? ⟨g2, j, none⟩ = some (.int .i64 (xs.getD j 0))) :
    Calls Try.prog 49 #[.slice (some ⟨g1, 0, none⟩) n c1, .slice (some ⟨g2, 0, none⟩) n c2] w fun e w' => e = .returned (.bool true) ∧ w.grownBy w' none := by
  have H1 := hid h1
  have H2 := hid h2
  clear h1 h2
  go_enter Try.func49, Try.ntmps49
  go_wp2_with fail
  go_loopw [5] (fun i wr => ∃ k : Nat, k ≤ n ∧ i = .int .i64 k ∧ w.grownBy wr none) (fun i _ => n - (intOf i).toNat)
  case atStart => exact ⟨0, Nat.zero_le _, rfl, World.grownBy.refl _ _⟩
  case round =>
    obtain ⟨k, hk, rfl, hg⟩ := hrel
    by_cases hlt : k < n
    · have d1 := hg.cell (H1.out k hlt) (by simp)
      have d2 := hg.cell (H2.out k hlt) (by simp)
      clear H1 H2
      generalize xs.getD k 0 = x at *
      go_wp2_with fail
      go_region
      go_wp2_with fail
      go_roundw
      case rel => exact ⟨k + 1, by omega, by go_num, grownBy_drew hg⟩
      case measure => simp [intOf]; omega
    · go_wp2_with fail
      go_ret
      exact ⟨rfl, hg⟩
theorem eqInt64S_nil (w : World) : Calls Try.prog 49 #[.slice none 0 0, .slice none 0 0] w fun e w' => e = .returned (.bool true) ∧ w.grownBy w' none := by
  go_enter Try.func49, Try.ntmps49
  go_wp2_with fail
  go_loopw [5] (fun i wr => i = .int .i64 0 ∧ w = wr) (fun _ _ => 0)
  case atStart => exact ⟨rfl, rfl⟩
  case round =>
    obtain ⟨rfl, rfl⟩ := hrel
    go_wp2_with fail
    go_ret
    exact ⟨rfl, World.grownBy.refl _ _⟩
theorem markInt64S_any (B e g c n : Nat) (xs : List Int) (k : Int) (w : World) (hm : n ≤ 100000) (hk1 : 0 ≤ k) (hk2 : k ≤ 1000000) (hown : Own w B e 1 g n c xs) :
    Calls Try.prog 50 #[.slice (some ⟨g, 0, none⟩) n c, .int .i64 k] w fun e' w' => e' = .returned (.int .i64 (k + n)) ∧ Own w' B e 1 g n c (marks k n) ∧ w.grownBy w' (some g) := by
  have hl := hown.len
  have HO := hid hown
  clear hown
  go_enter Try.func50, Try.ntmps50
  go_wp2_with fail
  go_loopw [1, 5] (fun q i wr => ∃ j : Nat, j ≤ n ∧ i = .int .i64 j ∧ q = .int .i64 (k + j) ∧ Hid (Own wr B e 1 g n c (marked k xs j)) ∧ w.grownBy wr (some g)) (fun _ i _ => n - (intOf i).toNat)
  case atStart => exact ⟨0, Nat.zero_le _, rfl, by simp, by rw [marked_0]; exact HO, World.grownBy.refl _ _⟩
  case round =>
    obtain ⟨j, hj, rfl, rfl, hO, hg⟩ := hrel
    clear HO
    by_cases hlt : j < n
    · have hjl : j < (marked k xs j).length := by rw [marked_length k xs (by omega)]; omega
      have d1 := hO.out.cell hjl
      have d2 := hO.out.free j
      generalize (marked k xs j).getD j 0 = x at *
      go_wp2_with fail
      go_roundw
      case rel =>
        have h2 := hO.out.put j (k + (j : Int))
        rw [marked_step k xs (by omega)] at h2
        exact ⟨j + 1, by omega, by go_num, by go_num, h2, grownBy_trans hg (grownBy_set _ _ _ _)⟩
      case measure => simp [intOf]; omega
    · go_wp2_with fail
      go_ret
      have : j = n := by omega
      subst this
      have h2 := hO.out
      rw [marked_all k xs (by omega)] at h2
      exact ⟨rfl, h2, hg⟩
theorem heldInt64S_any (g c n : Nat) (k : Int) (w : World) (hm : n ≤ 100000) (hk1 : 0 ≤ k) (hk2 : k ≤ 1000000) (h1 : ∀ j, j < n → w.cell? ⟨g, j, none⟩ = some (.int .i64 (k + j))) :
    Calls Try.prog 51 #[.slice (some ⟨g, 0, none⟩) n c, .int .i64 k] w fun e' w' => e' = .returned (.int .i64 (k + n)) ∧ w.grownBy w' none := by
  have H1 := hid h1
  clear h1
  go_enter Try.func51, Try.ntmps51
  go_wp2_with fail
  go_loopw [1, 5] (fun q i wr => ∃ j : Nat, j ≤ n ∧ i = .int .i64 j ∧ q = .int .i64 (k + j) ∧ w.grownBy wr none) (fun _ i _ => n - (intOf i).toNat)
  case atStart => exact ⟨0, Nat.zero_le _, rfl, by simp, World.grownBy.refl _ _⟩
  case round =>
    obtain ⟨j, hj, rfl, rfl, hg⟩ := hrel
    by_cases hlt : j < n
    · have d1 := hg.cell (H1.out j hlt) (by simp)
      clear H1
      go_wp2_with fail
      go_roundw
      case rel => exact ⟨j + 1, by omega, by go_num, by go_num, hg⟩
      case measure => simp [intOf]; omega
    · go_wp2_with fail
      go_ret
      have : j = n := by omega
      subst this
      exact ⟨rfl, hg⟩
theorem heldInt64S_nil (k : Int) (w : World) : Calls Try.prog 51 #[.slice none 0 0, .int .i64 k] w fun e w' => e = .returned (.int .i64 k) ∧ w.grownBy w' none := by
  go_enter Try.func51, Try.ntmps51
  go_wp2_with fail
  go_loopw [1, 5] (fun q i wr => i = .int .i64 0 ∧ q = .int .i64 k ∧ w = wr) (fun _ _ _ => 0)
  case atStart => exact ⟨rfl, rfl, rfl⟩
  case round =>
    obtain ⟨rfl, rfl, rfl⟩ := hrel
    go_wp2_with fail
    go_ret
    exact ⟨rfl, World.grownBy.refl _ _⟩
theorem markInt64S_nil (k : Int) (w : World) : Calls Try.prog 50 #[.slice none 0 0, .int .i64 k] w fun e w' => e = .returned (.int .i64 k) ∧ w.grownBy w' none := by
  go_enter Try.func50, Try.ntmps50
  go_wp2_with fail
  go_loopw [1, 5] (fun q i wr => i = .int .i64 0 ∧ q = .int .i64 k ∧ w = wr) (fun _ _ _ => 0)
  case atStart => exact ⟨rfl, rfl, rfl⟩
  case round =>
    obtain ⟨rfl, rfl, rfl⟩ := hrel
    go_wp2_with fail
    go_ret
    exact ⟨rfl, World.grownBy.refl _ _⟩
end Go.Proofs.Ytjjidjcflimhgaa
