/- Contracts: lists of points and of lines: how the laws compare and mark them. -/
import Derived.Test.YtommkkgkfjmhdaaOwn
import Derived.Test.YtommkkgkfjmhdaaPlA
import Derived.Test.YtommkkgkfjmhdaaEq
import Derived.Test.YtommkkgkfjmhdaaRegA
set_option linter.unusedVariables false
set_option linter.unusedSimpArgs false
set_option maxHeartbeats 1000000
set_option maxRecDepth 100000
namespace Go.Proofs.Ytommkkgkfjmhdaa
open Go.RowKit
theorem Own.cell2 {w : World} {B e g n cap : Nat} {xs : List (Int × Int)} (h : Own w B e 2 g n cap (Pl.flat2 xs)) {j : Nat} (hj : j < xs.length) : w.cell? ⟨g, j * 2, none⟩ = some (.int .i64 (xs.getD j (0, 0)).1) ∧ w.cell? ⟨g, j * 2 + 1, none⟩ = some (.int .i64 (xs.getD j (0, 0)).2) := by
  have hf := Pl.flat2_get xs j hj
  have hl := Pl.flat2_len xs
  refine ⟨?_, ?_⟩
  · rw [← hf.1]; exact h.cell (by omega)
  · rw [← hf.2]; exact h.cell (by omega)
theorem Own.cell3 {w : World} {B e g n cap : Nat} {xs : List (Int × Int × Int)} (h : Own w B e 3 g n cap (Pl.flat3 xs)) {j : Nat} (hj : j < xs.length) : w.cell? ⟨g, j * 3, none⟩ = some (.int .i64 (xs.getD j (0, 0, 0)).1) ∧ w.cell? ⟨g, j * 3 + 1, none⟩ = some (.int .i64 (xs.getD j (0, 0, 0)).2.1) ∧ w.cell? ⟨g, j * 3 + 2, none⟩ = some (.int .i64 (xs.getD j (0, 0, 0)).2.2) := by
  have hf := Pl.flat3_get xs j hj
  have hl := Pl.flat3_len xs
  refine ⟨?_, ?_, ?_⟩
  · rw [← hf.1]; exact h.cell (by omega)
  · rw [← hf.2.1]; exact h.cell (by omega)
  · rw [← hf.2.2]; exact h.cell (by omega)
theorem eqLineS_same (g1 c1 g2 c2 n : Nat) (xs : List (Int × Int × Int)) (w : World) (hm : n ≤ 100000) (h1 : ∀ j, j < n → w.cell? ⟨g1, j * 3, none⟩ = some (.int .i64 (xs.getD j (0, 0, 0)).1) ∧ w.cell? ⟨g1, j * 3 + 1, none⟩ = some (.int .i64 (xs.getD j (0, 0, 0)).2.1) ∧ w.cell? ⟨g1, j * 3 + 2, none⟩ = some (.int .i64 (xs.getD j (0, 0, 0)).2.2)) (h2 : ∀ j, j < n → w.cell? ⟨g2, j * 3, none⟩ = some (.int .i64 (xs.getD j (0, 0, 0)).1) ∧ w.cell? ⟨g2, j * 3 + 1, none⟩ = some (.int .i64 (xs.getD j (0, 0, 0)).2.1) ∧ w.cell? ⟨g2, j * 3 + 2, none⟩ = some (.int .i64 (xs.getD j (0, 0, 0)).2.2)) :
    Calls Try.prog 22 #[.slice (some ⟨g1, 0, none⟩) n c1, .slice (some ⟨g2, 0, none⟩) n c2] w fun e w' => e = .returned (.bool true) ∧ Below w.heap.size w w' := by
  have H1 := hid h1
  have H2 := hid h2
  clear h1 h2
  go_enter Try.func22, Try.ntmps22
  go_wp2_with fail
  go_loopw [5] (fun i wr => ∃ k : Nat, k ≤ n ∧ i = .int .i64 k ∧ Below w.heap.size w wr) (fun i _ => n - (intOf i).toNat)
  case atStart => exact ⟨0, Nat.zero_le _, rfl, Below.refl _ _⟩
  case round =>
    obtain ⟨k, hk, rfl, hB⟩ := hrel
    by_cases hlt : k < n
    · have q1 := H1.out k hlt
      have q2 := H2.out k hlt
      clear H1 H2
      generalize (xs.getD k (0, 0, 0)).1 = x at *
      generalize (xs.getD k (0, 0, 0)).2.1 = y at *
      generalize (xs.getD k (0, 0, 0)).2.2 = z at *
      obtain ⟨d10, d11, d12⟩ := q1
      obtain ⟨d20, d21, d22⟩ := q2
      replace d10 := cellOf hB d10 (World.block_lt_of_cell? w _ d10)
      replace d11 := cellOf hB d11 (World.block_lt_of_cell? w _ d11)
      replace d12 := cellOf hB d12 (World.block_lt_of_cell? w _ d12)
      replace d20 := cellOf hB d20 (World.block_lt_of_cell? w _ d20)
      replace d21 := cellOf hB d21 (World.block_lt_of_cell? w _ d21)
      replace d22 := cellOf hB d22 (World.block_lt_of_cell? w _ d22)
      go_wp2_with fail
      generalize hWr : wr = W at *
      clear hWr
      refine Reg.wp_region_grow (by kernel_rfl) 10 10 (fun _ => (#[.int .i64 0, .int .i64 0], 0)) (by kernel_rfl) ?_ ?_
      · intro k o h1 h2
        omega
      simp only [List.take_succ_cons, List.take_zero, List.drop_succ_cons, List.drop_zero]
      refine Reg.wpG_step (v := ?vr2x0) (fun wq hq => ?gr2x0) ?kr2x0
      case gr2x0 => (have q0 := keepC hq d10; have q1 := keepC hq d11; have q2 := keepC hq d12; have q3 := keepC hq d20; have q4 := keepC hq d21; have q5 := keepC hq d22; refine Reg.gAt_val ?_; go_simp; first | done | (with_reducible rfl) | rfl)
      try simp only [Act.put, List.setIfInBounds_toArray, List.set_cons_zero, List.set_cons_succ]
      refine Reg.wpG_step (v := ?vr2x1) (fun wq hq => ?gr2x1) ?kr2x1
      case gr2x1 => (have q0 := keepC hq d10; have q1 := keepC hq d11; have q2 := keepC hq d12; have q3 := keepC hq d20; have q4 := keepC hq d21; have q5 := keepC hq d22; refine Reg.gAt_val ?_; go_simp; first | done | (with_reducible rfl) | rfl)
      try simp only [Act.put, List.setIfInBounds_toArray, List.set_cons_zero, List.set_cons_succ]
      refine Reg.wpG_step (v := ?vr2x2) (fun wq hq => ?gr2x2) ?kr2x2
      case gr2x2 => (have q0 := keepC hq d10; have q1 := keepC hq d11; have q2 := keepC hq d12; have q3 := keepC hq d20; have q4 := keepC hq d21; have q5 := keepC hq d22; refine Reg.gAt_val ?_; go_simp; first | done | (with_reducible rfl) | rfl)
      try simp only [Act.put, List.setIfInBounds_toArray, List.set_cons_zero, List.set_cons_succ]
      refine Reg.wpG_step (v := ?vr2x3) (fun wq hq => ?gr2x3) ?kr2x3
      case gr2x3 => (have q0 := keepC hq d10; have q1 := keepC hq d11; have q2 := keepC hq d12; have q3 := keepC hq d20; have q4 := keepC hq d21; have q5 := keepC hq d22; refine Reg.gAt_val ?_; go_simp; first | done | (with_reducible rfl) | rfl)
      try simp only [Act.put, List.setIfInBounds_toArray, List.set_cons_zero, List.set_cons_succ]
      refine Reg.wpG_step (v := ?vr2x4) (fun wq hq => ?gr2x4) ?kr2x4
      case gr2x4 => (have q0 := keepC hq d10; have q1 := keepC hq d11; have q2 := keepC hq d12; have q3 := keepC hq d20; have q4 := keepC hq d21; have q5 := keepC hq d22; refine Reg.gAt_val ?_; go_simp; first | done | (with_reducible rfl) | rfl)
      try simp only [Act.put, List.setIfInBounds_toArray, List.set_cons_zero, List.set_cons_succ]
      refine Reg.wpG_step (v := ?vr2x5) (fun wq hq => ?gr2x5) ?kr2x5
      case gr2x5 => (have q0 := keepC hq d10; have q1 := keepC hq d11; have q2 := keepC hq d12; have q3 := keepC hq d20; have q4 := keepC hq d21; have q5 := keepC hq d22; refine Reg.gAt_val ?_; go_simp; first | done | (with_reducible rfl) | rfl)
      try simp only [Act.put, List.setIfInBounds_toArray, List.set_cons_zero, List.set_cons_succ]
      refine Reg.wpG_step (v := ?vr2x6) (fun wq hq => ?gr2x6) ?kr2x6
      case gr2x6 => (have q0 := keepC hq d10; have q1 := keepC hq d11; have q2 := keepC hq d12; have q3 := keepC hq d20; have q4 := keepC hq d21; have q5 := keepC hq d22; refine Reg.gAt_val ?_; go_simp; first | done | (with_reducible rfl) | rfl)
      try simp only [Act.put, List.setIfInBounds_toArray, List.set_cons_zero, List.set_cons_succ]
      refine Reg.wpG_step (v := ?vr2x7) (fun wq hq => ?gr2x7) ?kr2x7
      case gr2x7 => (have q0 := keepC hq d10; have q1 := keepC hq d11; have q2 := keepC hq d12; have q3 := keepC hq d20; have q4 := keepC hq d21; have q5 := keepC hq d22; refine Reg.gAt_val ?_; go_simp; first | done | (with_reducible rfl) | rfl)
      try simp only [Act.put, List.setIfInBounds_toArray, List.set_cons_zero, List.set_cons_succ]
      refine Reg.wpG_step (v := .bool true) (fun wq hq => ?gr2x8) ?kr2x8
      case gr2x8 => (unfold Reg.gAt; go_simp; refine Reg.quiet_enter ?_; exact eqLine_same _ _ _ _)
      try simp only [Act.put, List.setIfInBounds_toArray, List.set_cons_zero, List.set_cons_succ]
      refine Reg.wpG_step (v := ?vr2x9) (fun wq hq => ?gr2x9) ?kr2x9
      case gr2x9 => (have q0 := keepC hq d10; have q1 := keepC hq d11; have q2 := keepC hq d12; have q3 := keepC hq d20; have q4 := keepC hq d21; have q5 := keepC hq d22; refine Reg.gAt_val ?_; go_simp; first | done | (with_reducible rfl) | rfl)
      try simp only [Act.put, List.setIfInBounds_toArray, List.set_cons_zero, List.set_cons_succ]
      intro w2 g hB2 hg hd
      clear hg hd
      change wpList _ _ _ _ (Reg.putPtrs _ g [] _) _
      simp only [Reg.putPtrs]
      replace d10 := keepC hB2 d10
      replace d11 := keepC hB2 d11
      replace d12 := keepC hB2 d12
      replace d20 := keepC hB2 d20
      replace d21 := keepC hB2 d21
      replace d22 := keepC hB2 d22
      replace hB := below_of hB hB2 hB.size
      clear hB2 
      go_wp2_with fail
      go_roundw
      case rel => exact ⟨k + 1, by omega, by go_num, hB⟩
      case measure => simp [intOf]; omega
    · go_wp2_with fail
      go_ret
      exact ⟨rfl, hB⟩
theorem eqLineS_nil (w : World) : Calls Try.prog 22 #[.slice none 0 0, .slice none 0 0] w fun e w' => e = .returned (.bool true) ∧ Below w.heap.size w w' := by
  go_enter Try.func22, Try.ntmps22
  go_wp2_with fail
  go_loopw [5] (fun i wr => i = .int .i64 0 ∧ w = wr) (fun _ _ => 0)
  case atStart => exact ⟨rfl, rfl⟩
  case round =>
    obtain ⟨rfl, rfl⟩ := hrel
    go_wp2_with fail
    go_ret
    exact ⟨rfl, Below.refl _ _⟩
theorem markLineS_any (B e g c n : Nat) (xs : List Int) (k : Int) (w : World) (hm : n ≤ 100000) (hk1 : 0 ≤ k) (hk2 : k ≤ 1000000) (hown : Own w B e 3 g n c xs) :
    Calls Try.prog 23 #[.slice (some ⟨g, 0, none⟩) n c, .int .i64 k] w fun e' w' => e' = .returned (.int .i64 (k + ((n * 3 : Nat) : Int))) ∧ Own w' B e 3 g n c (marks k (n * 3)) ∧ w.grownBy w' (some g) := by
  have hl := hown.len
  have HO := hid hown
  clear hown
  go_enter Try.func23, Try.ntmps23
  go_wp2_with fail
  go_loopw [1, 5] (fun q i wr => ∃ j : Nat, j ≤ n ∧ i = .int .i64 j ∧ q = .int .i64 (k + ((j * 3 : Nat) : Int)) ∧ Hid (Own wr B e 3 g n c (marked k xs (j * 3))) ∧ w.grownBy wr (some g)) (fun _ i _ => n - (intOf i).toNat)
  case atStart => exact ⟨0, Nat.zero_le _, rfl, by simp, by rw [Nat.zero_mul, marked_0]; exact HO, World.grownBy.refl _ _⟩
  case round =>
    obtain ⟨j, hj, rfl, rfl, hO, hg⟩ := hrel
    clear HO
    by_cases hlt : j < n
    · go_wp2_with fail
      go_loopw [1, 6] (fun q i wr => ∃ m : Nat, m ≤ 3 ∧ i = .int .i64 m ∧ q = .int .i64 (k + ((j * 3 + m : Nat) : Int)) ∧ Hid (Own wr B e 3 g n c (marked k xs (j * 3 + m))) ∧ w.grownBy wr (some g)) (fun _ i _ => 3 - (intOf i).toNat)
      case atStart => exact ⟨0, Nat.zero_le _, rfl, by simp, hO, hg⟩
      case round =>
        clear hO hg
        obtain ⟨m, hm2, rfl, rfl, hO, hg⟩ := hrel
        by_cases hlt2 : m < 3
        · have hjl : j * 3 + m < (marked k xs (j * 3 + m)).length := by rw [marked_length k xs (by omega)]; omega
          have d1 := hO.out.cell hjl
          have d2 := hO.out.free (j * 3 + m)
          generalize (marked k xs (j * 3 + m)).getD (j * 3 + m) 0 = x at *
          go_wp2_with fail
          go_roundw
          case rel =>
            have h2 := hO.out.put (j * 3 + m) (k + ((j * 3 + m : Nat) : Int))
            rw [marked_step k xs (by omega)] at h2
            exact ⟨m + 1, by omega, by go_num, by go_num, h2, grownBy_trans hg (grownBy_set _ _ _ _)⟩
          case measure => simp [intOf]; omega
        · have hm3 : m = 3 := by omega
          subst hm3
          go_wp2_with fail
          go_roundw
          case rel => exact ⟨j + 1, by omega, by go_num, by go_num, by rw [Nat.succ_mul]; exact hO, hg⟩
          case measure => simp [intOf]; omega
    · go_wp2_with fail
      go_ret
      have : j = n := by omega
      subst this
      have h2 := hO.out
      rw [marked_all k xs (by omega)] at h2
      exact ⟨rfl, h2, hg⟩
theorem markLineS_nil (k : Int) (w : World) : Calls Try.prog 23 #[.slice none 0 0, .int .i64 k] w fun e w' => e = .returned (.int .i64 k) ∧ w.grownBy w' none := by
  go_enter Try.func23, Try.ntmps23
  go_wp2_with fail
  go_loopw [1, 5] (fun q i wr => i = .int .i64 0 ∧ q = .int .i64 k ∧ w = wr) (fun _ _ _ => 0)
  case atStart => exact ⟨rfl, rfl, rfl⟩
  case round =>
    obtain ⟨rfl, rfl, rfl⟩ := hrel
    go_wp2_with fail
    go_ret
    exact ⟨rfl, World.grownBy.refl _ _⟩
theorem heldLineS_any (g c n : Nat) (k : Int) (w : World) (hm : n ≤ 100000) (hk1 : 0 ≤ k) (hk2 : k ≤ 1000000) (h1 : ∀ j, j < n * 3 → w.cell? ⟨g, j, none⟩ = some (.int .i64 (k + (j : Int)))) :
    Calls Try.prog 24 #[.slice (some ⟨g, 0, none⟩) n c, .int .i64 k] w fun e' w' => e' = .returned (.int .i64 (k + ((n * 3 : Nat) : Int))) ∧ w.grownBy w' none := by
  have H1 := hid h1
  clear h1
  go_enter Try.func24, Try.ntmps24
  go_wp2_with fail
  go_loopw [1, 5] (fun q i wr => ∃ j : Nat, j ≤ n ∧ i = .int .i64 j ∧ q = .int .i64 (k + ((j * 3 : Nat) : Int)) ∧ w.grownBy wr none) (fun _ i _ => n - (intOf i).toNat)
  case atStart => exact ⟨0, Nat.zero_le _, rfl, by simp, World.grownBy.refl _ _⟩
  case round =>
    obtain ⟨j, hj, rfl, rfl, hg⟩ := hrel
    by_cases hlt : j < n
    · go_wp2_with fail
      go_loopw [1, 6] (fun q i wr => ∃ m : Nat, m ≤ 3 ∧ i = .int .i64 m ∧ q = .int .i64 (k + ((j * 3 + m : Nat) : Int)) ∧ w.grownBy wr none) (fun _ i _ => 3 - (intOf i).toNat)
      case atStart => exact ⟨0, Nat.zero_le _, rfl, by simp, hg⟩
      case round =>
        clear hg
        obtain ⟨m, hm2, rfl, rfl, hg⟩ := hrel
        by_cases hlt2 : m < 3
        · have d1 := hg.cell (H1.out (j * 3 + m) (by omega)) (by simp)
          clear H1
          go_wp2_with fail
          go_roundw
          case rel => exact ⟨m + 1, by omega, by go_num, by go_num, hg⟩
          case measure => simp [intOf]; omega
        · have hm3 : m = 3 := by omega
          subst hm3
          clear H1
          go_wp2_with fail
          go_roundw
          case rel => exact ⟨j + 1, by omega, by go_num, by go_num, hg⟩
          case measure => simp [intOf]; omega
    · go_wp2_with fail
      go_ret
      have : j = n := by omega
      subst this
      exact ⟨rfl, hg⟩
theorem heldLineS_nil (k : Int) (w : World) : Calls Try.prog 24 #[.slice none 0 0, .int .i64 k] w fun e w' => e = .returned (.int .i64 k) ∧ w.grownBy w' none := by
  go_enter Try.func24, Try.ntmps24
  go_wp2_with fail
  go_loopw [1, 5] (fun q i wr => i = .int .i64 0 ∧ q = .int .i64 k ∧ w = wr) (fun _ _ _ => 0)
  case atStart => exact ⟨rfl, rfl, rfl⟩
  case round =>
    obtain ⟨rfl, rfl, rfl⟩ := hrel
    go_wp2_with fail
    go_ret
    exact ⟨rfl, World.grownBy.refl _ _⟩
end Go.Proofs.Ytommkkgkfjmhdaa
