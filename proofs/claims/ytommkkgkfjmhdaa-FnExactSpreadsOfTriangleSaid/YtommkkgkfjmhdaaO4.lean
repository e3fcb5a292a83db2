/- Contracts: SpreadAt, codes of triangles, SpreadRatio: both sides. -/
import Derived.Test.YtommkkgkfjmhdaaO3
set_option linter.unusedVariables false
set_option linter.unusedSimpArgs false
set_option maxHeartbeats 1000000
set_option maxRecDepth 100000
namespace Go.Proofs.Ytommkkgkfjmhdaa
open Go.RowKit
theorem spreadTriangle1_any (p k ax ay bx by_ cx cy : Int) (b0 b1 b2 b3 b4 : Nat) (w : World) (c00 : w.cell? ⟨b0, 0, none⟩ = some (.int .i64 p)) (c10 : w.cell? ⟨b1, 0, none⟩ = some (.int .i64 k)) (c20 : w.cell? ⟨b2, 0, none⟩ = some (.int .i64 ax)) (c21 : w.cell? ⟨b2, 1, none⟩ = some (.int .i64 ay)) (c30 : w.cell? ⟨b3, 0, none⟩ = some (.int .i64 bx)) (c31 : w.cell? ⟨b3, 1, none⟩ = some (.int .i64 by_)) (c40 : w.cell? ⟨b4, 0, none⟩ = some (.int .i64 cx)) (c41 : w.cell? ⟨b4, 1, none⟩ = some (.int .i64 cy)) :
    Calls Try.prog 108 #[.pointer (some ⟨b1, 0, none⟩), .pointer (some ⟨b0, 0, none⟩), .pointer (some ⟨b2, 0, none⟩), .pointer (some ⟨b3, 0, none⟩), .pointer (some ⟨b4, 0, none⟩)] w fun e w' => e = .returned (.bool (Pl.colB k && Pl.ptsB p [(ax, ay), (bx, by_), (cx, cy)])) ∧ Below w.heap.size w w' := by
  cases hk : Pl.colB k with
  | false =>
    go_enter Try.func108, Try.ntmps108
    go_wp2_with (go_at_call 45; refine (isColour_any _ _).mono ?_; rintro e w' ⟨rfl, rfl⟩)
    go_ret
    exact ⟨rfl, Below.refl _ _⟩
  | true =>
    go_enter Try.func108, Try.ntmps108
    go_wp2_with (go_at_call 45; refine (isColour_any _ _).mono ?_; rintro e w' ⟨rfl, rfl⟩)
    refine (arePoints_any p _ 0 3 3 [(ax, ay), (bx, by_), (cx, cy)] rfl (by omega) _ (by simp) ?_).mono ?_
    · intro j hj
      match j, hj with
      | 0, _ => exact ⟨by go_simp, by go_simp⟩
      | 1, _ => exact ⟨by go_simp, by go_simp⟩
      | 2, _ => exact ⟨by go_simp, by go_simp⟩
    · rintro e w' ⟨rfl, hb⟩
      go_wp2_with fail
      go_ret
      exact ⟨rfl, below_of (by go_grown) hb (by simp <;> omega)⟩
theorem spreadTriangle_any (p k ax ay bx by_ cx cy : Int) (w : World) :
    Calls Try.prog 52 #[.int .i64 p, .int .i64 k, .agg #[.int .i64 ax, .int .i64 ay], .agg #[.int .i64 bx, .int .i64 by_], .agg #[.int .i64 cx, .int .i64 cy]] w fun e w' => e = .returned (.int .i64 (Pl.triC p k ax ay bx by_ cx cy)) ∧ Below w.heap.size w w' := by
  by_cases h0 : Pl.ask p (Pl.colB k && Pl.ptsB p [(ax, ay), (bx, by_), (cx, cy)]) = 0
  · have hv : Hid (Pl.fieldB p = true ∧ (Pl.colB k && Pl.ptsB p [(ax, ay), (bx, by_), (cx, cy)]) = true) := Pl.ask_ok h0
    have hp := Pl.field_bd hv.out.1
    obtain ⟨hp1, hp2⟩ := hp
    have hv2 := hv.out.2
    simp only [Bool.and_eq_true] at hv2
    obtain ⟨⟨ax1, ax2, ay1, ay2⟩, ⟨bx1, bx2, by_1, by_2⟩, cx1, cx2, cy1, cy2⟩ := Pl.pts3_bd hv2.2
    clear hv2
    have hf := hv.out.1
    have hfin : Hid (Pl.triC p k ax ay bx by_ cx cy = if Pl.area p ax ay bx by_ cx cy = 0 ∨ Pl.quad p k ax ay bx by_ = 0 ∨ Pl.quad p k ax ay cx cy = 0 ∨ Pl.quad p k bx by_ cx cy = 0 then 5 else 0) := by unfold Hid Pl.triC; rw [if_pos h0]
    by_cases z0 : Pl.area p ax ay bx by_ cx cy = 0
    · have f0 : (Pl.area p ax ay bx by_ cx cy == 0) = true := by simpa using z0
      have HZ := hid (show Pl.area p ax ay bx by_ cx cy = 0 ∨ Pl.quad p k ax ay bx by_ = 0 ∨ Pl.quad p k ax ay cx cy = 0 ∨ Pl.quad p k bx by_ cx cy = 0 from .inl z0)
      clear z0
      go_enter Try.func52, Try.ntmps52
      go_wp2_with fail
      refine (asked_any p _ _ (Pl.colB k && Pl.ptsB p [(ax, ay), (bx, by_), (cx, cy)]) _ (by kernel_rfl) ?_).mono ?_
      · intro _
        exact spreadTriangle1_any p k ax ay bx by_ cx cy _ _ _ _ _ _ (by go_simp) (by go_simp) (by go_simp) (by go_simp) (by go_simp) (by go_simp) (by go_simp) (by go_simp)
      · rintro e w1 ⟨rfl, hb⟩
        have c00 : w1.cell? ⟨w.heap.size, 0, none⟩ = some (.int .i64 p) := keepC hb (by go_simp)
        have c10 : w1.cell? ⟨w.heap.size + 1, 0, none⟩ = some (.int .i64 k) := keepC hb (by go_simp)
        have c20 : w1.cell? ⟨w.heap.size + 1 + 1, 0, none⟩ = some (.int .i64 ax) := keepC hb (by go_simp)
        have c21 : w1.cell? ⟨w.heap.size + 1 + 1, 1, none⟩ = some (.int .i64 ay) := keepC hb (by go_simp)
        have c30 : w1.cell? ⟨w.heap.size + 1 + 1 + 1, 0, none⟩ = some (.int .i64 bx) := keepC hb (by go_simp)
        have c31 : w1.cell? ⟨w.heap.size + 1 + 1 + 1, 1, none⟩ = some (.int .i64 by_) := keepC hb (by go_simp)
        have c40 : w1.cell? ⟨w.heap.size + 1 + 1 + 1 + 1, 0, none⟩ = some (.int .i64 cx) := keepC hb (by go_simp)
        have c41 : w1.cell? ⟨w.heap.size + 1 + 1 + 1 + 1, 1, none⟩ = some (.int .i64 cy) := keepC hb (by go_simp)
        have hB : Below w.heap.size w w1 := below_of (by go_grown) hb (by simp <;> omega)
        clear hb
        go_wp2_with (first | (go_at_call 98; refine (area_any _ _ _ _ _ _ _ _ (by omega) (by omega) (by omega) (by omega) (by omega) (by omega) (by omega) (by omega) (by omega) (by omega) (by omega) (by omega) (by omega) (by omega)).mono ?_; rintro e w' ⟨rfl, hbn⟩; replace c00 := keepC hbn c00; replace c10 := keepC hbn c10; replace c20 := keepC hbn c20; replace c21 := keepC hbn c21; replace c30 := keepC hbn c30; replace c31 := keepC hbn c31; replace c40 := keepC hbn c40; replace c41 := keepC hbn c41; replace hB := below_of hB hbn hB.size; clear hbn) | (go_at_call 93; refine (quadrance_any _ _ _ _ _ _ _ (by omega) (by omega) (by omega) (by omega) (by omega) (by omega) (by omega) (by omega) (by omega) (by omega)).mono ?_; rintro e w' ⟨rfl, hbn⟩; replace c00 := keepC hbn c00; replace c10 := keepC hbn c10; replace c20 := keepC hbn c20; replace c21 := keepC hbn c21; replace c30 := keepC hbn c30; replace c31 := keepC hbn c31; replace c40 := keepC hbn c40; replace c41 := keepC hbn c41; replace hB := below_of hB hbn hB.size; clear hbn))
        go_ret
        exact ⟨ret_int (by rw [hfin.out, if_pos HZ.out]), hB⟩
    · have f0 : (Pl.area p ax ay bx by_ cx cy == 0) = false := by simpa using z0
      by_cases z1 : Pl.quad p k ax ay bx by_ = 0
      · have f1 : (Pl.quad p k ax ay bx by_ == 0) = true := by simpa using z1
        have HZ := hid (show Pl.area p ax ay bx by_ cx cy = 0 ∨ Pl.quad p k ax ay bx by_ = 0 ∨ Pl.quad p k ax ay cx cy = 0 ∨ Pl.quad p k bx by_ cx cy = 0 from .inr (.inl z1))
        clear z0 z1
        go_enter Try.func52, Try.ntmps52
        go_wp2_with fail
        refine (asked_any p _ _ (Pl.colB k && Pl.ptsB p [(ax, ay), (bx, by_), (cx, cy)]) _ (by kernel_rfl) ?_).mono ?_
        · intro _
          exact spreadTriangle1_any p k ax ay bx by_ cx cy _ _ _ _ _ _ (by go_simp) (by go_simp) (by go_simp) (by go_simp) (by go_simp) (by go_simp) (by go_simp) (by go_simp)
        · rintro e w1 ⟨rfl, hb⟩
          have c00 : w1.cell? ⟨w.heap.size, 0, none⟩ = some (.int .i64 p) := keepC hb (by go_simp)
          have c10 : w1.cell? ⟨w.heap.size + 1, 0, none⟩ = some (.int .i64 k) := keepC hb (by go_simp)
          have c20 : w1.cell? ⟨w.heap.size + 1 + 1, 0, none⟩ = some (.int .i64 ax) := keepC hb (by go_simp)
          have c21 : w1.cell? ⟨w.heap.size + 1 + 1, 1, none⟩ = some (.int .i64 ay) := keepC hb (by go_simp)
          have c30 : w1.cell? ⟨w.heap.size + 1 + 1 + 1, 0, none⟩ = some (.int .i64 bx) := keepC hb (by go_simp)
          have c31 : w1.cell? ⟨w.heap.size + 1 + 1 + 1, 1, none⟩ = some (.int .i64 by_) := keepC hb (by go_simp)
          have c40 : w1.cell? ⟨w.heap.size + 1 + 1 + 1 + 1, 0, none⟩ = some (.int .i64 cx) := keepC hb (by go_simp)
          have c41 : w1.cell? ⟨w.heap.size + 1 + 1 + 1 + 1, 1, none⟩ = some (.int .i64 cy) := keepC hb (by go_simp)
          have hB : Below w.heap.size w w1 := below_of (by go_grown) hb (by simp <;> omega)
          clear hb
          go_wp2_with (first | (go_at_call 98; refine (area_any _ _ _ _ _ _ _ _ (by omega) (by omega) (by omega) (by omega) (by omega) (by omega) (by omega) (by omega) (by omega) (by omega) (by omega) (by omega) (by omega) (by omega)).mono ?_; rintro e w' ⟨rfl, hbn⟩; replace c00 := keepC hbn c00; replace c10 := keepC hbn c10; replace c20 := keepC hbn c20; replace c21 := keepC hbn c21; replace c30 := keepC hbn c30; replace c31 := keepC hbn c31; replace c40 := keepC hbn c40; replace c41 := keepC hbn c41; replace hB := below_of hB hbn hB.size; clear hbn) | (go_at_call 93; refine (quadrance_any _ _ _ _ _ _ _ (by omega) (by omega) (by omega) (by omega) (by omega) (by omega) (by omega) (by omega) (by omega) (by omega)).mono ?_; rintro e w' ⟨rfl, hbn⟩; replace c00 := keepC hbn c00; replace c10 := keepC hbn c10; replace c20 := keepC hbn c20; replace c21 := keepC hbn c21; replace c30 := keepC hbn c30; replace c31 := keepC hbn c31; replace c40 := keepC hbn c40; replace c41 := keepC hbn c41; replace hB := below_of hB hbn hB.size; clear hbn))
          go_ret
          exact ⟨ret_int (by rw [hfin.out, if_pos HZ.out]), hB⟩
      · have f1 : (Pl.quad p k ax ay bx by_ == 0) = false := by simpa using z1
        by_cases z2 : Pl.quad p k ax ay cx cy = 0
        · have f2 : (Pl.quad p k ax ay cx cy == 0) = true := by simpa using z2
          have HZ := hid (show Pl.area p ax ay bx by_ cx cy = 0 ∨ Pl.quad p k ax ay bx by_ = 0 ∨ Pl.quad p k ax ay cx cy = 0 ∨ Pl.quad p k bx by_ cx cy = 0 from .inr (.inr (.inl z2)))
          clear z0 z1 z2
          go_enter Try.func52, Try.ntmps52
          go_wp2_with fail
          refine (asked_any p _ _ (Pl.colB k && Pl.ptsB p [(ax, ay), (bx, by_), (cx, cy)]) _ (by kernel_rfl) ?_).mono ?_
          · intro _
            exact spreadTriangle1_any p k ax ay bx by_ cx cy _ _ _ _ _ _ (by go_simp) (by go_simp) (by go_simp) (by go_simp) (by go_simp) (by go_simp) (by go_simp) (by go_simp)
          · rintro e w1 ⟨rfl, hb⟩
            have c00 : w1.cell? ⟨w.heap.size, 0, none⟩ = some (.int .i64 p) := keepC hb (by go_simp)
            have c10 : w1.cell? ⟨w.heap.size + 1, 0, none⟩ = some (.int .i64 k) := keepC hb (by go_simp)
            have c20 : w1.cell? ⟨w.heap.size + 1 + 1, 0, none⟩ = some (.int .i64 ax) := keepC hb (by go_simp)
            have c21 : w1.cell? ⟨w.heap.size + 1 + 1, 1, none⟩ = some (.int .i64 ay) := keepC hb (by go_simp)
            have c30 : w1.cell? ⟨w.heap.size + 1 + 1 + 1, 0, none⟩ = some (.int .i64 bx) := keepC hb (by go_simp)
            have c31 : w1.cell? ⟨w.heap.size + 1 + 1 + 1, 1, none⟩ = some (.int .i64 by_) := keepC hb (by go_simp)
            have c40 : w1.cell? ⟨w.heap.size + 1 + 1 + 1 + 1, 0, none⟩ = some (.int .i64 cx) := keepC hb (by go_simp)
            have c41 : w1.cell? ⟨w.heap.size + 1 + 1 + 1 + 1, 1, none⟩ = some (.int .i64 cy) := keepC hb (by go_simp)
            have hB : Below w.heap.size w w1 := below_of (by go_grown) hb (by simp <;> omega)
            clear hb
            go_wp2_with (first | (go_at_call 98; refine (area_any _ _ _ _ _ _ _ _ (by omega) (by omega) (by omega) (by omega) (by omega) (by omega) (by omega) (by omega) (by omega) (by omega) (by omega) (by omega) (by omega) (by omega)).mono ?_; rintro e w' ⟨rfl, hbn⟩; replace c00 := keepC hbn c00; replace c10 := keepC hbn c10; replace c20 := keepC hbn c20; replace c21 := keepC hbn c21; replace c30 := keepC hbn c30; replace c31 := keepC hbn c31; replace c40 := keepC hbn c40; replace c41 := keepC hbn c41; replace hB := below_of hB hbn hB.size; clear hbn) | (go_at_call 93; refine (quadrance_any _ _ _ _ _ _ _ (by omega) (by omega) (by omega) (by omega) (by omega) (by omega) (by omega) (by omega) (by omega) (by omega)).mono ?_; rintro e w' ⟨rfl, hbn⟩; replace c00 := keepC hbn c00; replace c10 := keepC hbn c10; replace c20 := keepC hbn c20; replace c21 := keepC hbn c21; replace c30 := keepC hbn c30; replace c31 := keepC hbn c31; replace c40 := keepC hbn c40; replace c41 := keepC hbn c41; replace hB := below_of hB hbn hB.size; clear hbn))
            go_ret
            exact ⟨ret_int (by rw [hfin.out, if_pos HZ.out]), hB⟩
        · have f2 : (Pl.quad p k ax ay cx cy == 0) = false := by simpa using z2
          by_cases z3 : Pl.quad p k bx by_ cx cy = 0
          · have f3 : (Pl.quad p k bx by_ cx cy == 0) = true := by simpa using z3
            have HZ := hid (show Pl.area p ax ay bx by_ cx cy = 0 ∨ Pl.quad p k ax ay bx by_ = 0 ∨ Pl.quad p k ax ay cx cy = 0 ∨ Pl.quad p k bx by_ cx cy = 0 from .inr (.inr (.inr (z3))))
            clear z0 z1 z2 z3
            go_enter Try.func52, Try.ntmps52
            go_wp2_with fail
            refine (asked_any p _ _ (Pl.colB k && Pl.ptsB p [(ax, ay), (bx, by_), (cx, cy)]) _ (by kernel_rfl) ?_).mono ?_
            · intro _
              exact spreadTriangle1_any p k ax ay bx by_ cx cy _ _ _ _ _ _ (by go_simp) (by go_simp) (by go_simp) (by go_simp) (by go_simp) (by go_simp) (by go_simp) (by go_simp)
            · rintro e w1 ⟨rfl, hb⟩
              have c00 : w1.cell? ⟨w.heap.size, 0, none⟩ = some (.int .i64 p) := keepC hb (by go_simp)
              have c10 : w1.cell? ⟨w.heap.size + 1, 0, none⟩ = some (.int .i64 k) := keepC hb (by go_simp)
              have c20 : w1.cell? ⟨w.heap.size + 1 + 1, 0, none⟩ = some (.int .i64 ax) := keepC hb (by go_simp)
              have c21 : w1.cell? ⟨w.heap.size + 1 + 1, 1, none⟩ = some (.int .i64 ay) := keepC hb (by go_simp)
              have c30 : w1.cell? ⟨w.heap.size + 1 + 1 + 1, 0, none⟩ = some (.int .i64 bx) := keepC hb (by go_simp)
              have c31 : w1.cell? ⟨w.heap.size + 1 + 1 + 1, 1, none⟩ = some (.int .i64 by_) := keepC hb (by go_simp)
              have c40 : w1.cell? ⟨w.heap.size + 1 + 1 + 1 + 1, 0, none⟩ = some (.int .i64 cx) := keepC hb (by go_simp)
              have c41 : w1.cell? ⟨w.heap.size + 1 + 1 + 1 + 1, 1, none⟩ = some (.int .i64 cy) := keepC hb (by go_simp)
              have hB : Below w.heap.size w w1 := below_of (by go_grown) hb (by simp <;> omega)
              clear hb
              go_wp2_with (first | (go_at_call 98; refine (area_any _ _ _ _ _ _ _ _ (by omega) (by omega) (by omega) (by omega) (by omega) (by omega) (by omega) (by omega) (by omega) (by omega) (by omega) (by omega) (by omega) (by omega)).mono ?_; rintro e w' ⟨rfl, hbn⟩; replace c00 := keepC hbn c00; replace c10 := keepC hbn c10; replace c20 := keepC hbn c20; replace c21 := keepC hbn c21; replace c30 := keepC hbn c30; replace c31 := keepC hbn c31; replace c40 := keepC hbn c40; replace c41 := keepC hbn c41; replace hB := below_of hB hbn hB.size; clear hbn) | (go_at_call 93; refine (quadrance_any _ _ _ _ _ _ _ (by omega) (by omega) (by omega) (by omega) (by omega) (by omega) (by omega) (by omega) (by omega) (by omega)).mono ?_; rintro e w' ⟨rfl, hbn⟩; replace c00 := keepC hbn c00; replace c10 := keepC hbn c10; replace c20 := keepC hbn c20; replace c21 := keepC hbn c21; replace c30 := keepC hbn c30; replace c31 := keepC hbn c31; replace c40 := keepC hbn c40; replace c41 := keepC hbn c41; replace hB := below_of hB hbn hB.size; clear hbn))
              go_ret
              exact ⟨ret_int (by rw [hfin.out, if_pos HZ.out]), hB⟩
          · have f3 : (Pl.quad p k bx by_ cx cy == 0) = false := by simpa using z3
            have HZ := hid (show ¬ (Pl.area p ax ay bx by_ cx cy = 0 ∨ Pl.quad p k ax ay bx by_ = 0 ∨ Pl.quad p k ax ay cx cy = 0 ∨ Pl.quad p k bx by_ cx cy = 0) from fun h => by rcases h with h | h | h | h <;> omega)
            clear z0 z1 z2 z3
            go_enter Try.func52, Try.ntmps52
            go_wp2_with fail
            refine (asked_any p _ _ (Pl.colB k && Pl.ptsB p [(ax, ay), (bx, by_), (cx, cy)]) _ (by kernel_rfl) ?_).mono ?_
            · intro _
              exact spreadTriangle1_any p k ax ay bx by_ cx cy _ _ _ _ _ _ (by go_simp) (by go_simp) (by go_simp) (by go_simp) (by go_simp) (by go_simp) (by go_simp) (by go_simp)
            · rintro e w1 ⟨rfl, hb⟩
              have c00 : w1.cell? ⟨w.heap.size, 0, none⟩ = some (.int .i64 p) := keepC hb (by go_simp)
              have c10 : w1.cell? ⟨w.heap.size + 1, 0, none⟩ = some (.int .i64 k) := keepC hb (by go_simp)
              have c20 : w1.cell? ⟨w.heap.size + 1 + 1, 0, none⟩ = some (.int .i64 ax) := keepC hb (by go_simp)
              have c21 : w1.cell? ⟨w.heap.size + 1 + 1, 1, none⟩ = some (.int .i64 ay) := keepC hb (by go_simp)
              have c30 : w1.cell? ⟨w.heap.size + 1 + 1 + 1, 0, none⟩ = some (.int .i64 bx) := keepC hb (by go_simp)
              have c31 : w1.cell? ⟨w.heap.size + 1 + 1 + 1, 1, none⟩ = some (.int .i64 by_) := keepC hb (by go_simp)
              have c40 : w1.cell? ⟨w.heap.size + 1 + 1 + 1 + 1, 0, none⟩ = some (.int .i64 cx) := keepC hb (by go_simp)
              have c41 : w1.cell? ⟨w.heap.size + 1 + 1 + 1 + 1, 1, none⟩ = some (.int .i64 cy) := keepC hb (by go_simp)
              have hB : Below w.heap.size w w1 := below_of (by go_grown) hb (by simp <;> omega)
              clear hb
              go_wp2_with (first | (go_at_call 98; refine (area_any _ _ _ _ _ _ _ _ (by omega) (by omega) (by omega) (by omega) (by omega) (by omega) (by omega) (by omega) (by omega) (by omega) (by omega) (by omega) (by omega) (by omega)).mono ?_; rintro e w' ⟨rfl, hbn⟩; replace c00 := keepC hbn c00; replace c10 := keepC hbn c10; replace c20 := keepC hbn c20; replace c21 := keepC hbn c21; replace c30 := keepC hbn c30; replace c31 := keepC hbn c31; replace c40 := keepC hbn c40; replace c41 := keepC hbn c41; replace hB := below_of hB hbn hB.size; clear hbn) | (go_at_call 93; refine (quadrance_any _ _ _ _ _ _ _ (by omega) (by omega) (by omega) (by omega) (by omega) (by omega) (by omega) (by omega) (by omega) (by omega)).mono ?_; rintro e w' ⟨rfl, hbn⟩; replace c00 := keepC hbn c00; replace c10 := keepC hbn c10; replace c20 := keepC hbn c20; replace c21 := keepC hbn c21; replace c30 := keepC hbn c30; replace c31 := keepC hbn c31; replace c40 := keepC hbn c40; replace c41 := keepC hbn c41; replace hB := below_of hB hbn hB.size; clear hbn))
              go_ret
              exact ⟨ret_int (by rw [hfin.out, if_neg HZ.out]), hB⟩
  · have hne : (Pl.ask p (Pl.colB k && Pl.ptsB p [(ax, ay), (bx, by_), (cx, cy)]) != 0) = true := by simpa using h0
    have hne2 : (Pl.ask p (Pl.colB k && Pl.ptsB p [(ax, ay), (bx, by_), (cx, cy)]) == 0) = false := by simpa using h0
    have hfin : Hid (Pl.triC p k ax ay bx by_ cx cy = Pl.ask p (Pl.colB k && Pl.ptsB p [(ax, ay), (bx, by_), (cx, cy)])) := by unfold Hid Pl.triC; rw [if_neg h0]
    clear h0
    go_enter Try.func52, Try.ntmps52
    go_wp2_with fail
    refine (asked_any p _ _ (Pl.colB k && Pl.ptsB p [(ax, ay), (bx, by_), (cx, cy)]) _ (by kernel_rfl) ?_).mono ?_
    · intro _
      exact spreadTriangle1_any p k ax ay bx by_ cx cy _ _ _ _ _ _ (by go_simp) (by go_simp) (by go_simp) (by go_simp) (by go_simp) (by go_simp) (by go_simp) (by go_simp)
    · rintro e w1 ⟨rfl, hb⟩
      have hB : Below w.heap.size w w1 := below_of (by go_grown) hb (by simp <;> omega)
      clear hb
      go_wp2_with fail
      go_ret
      exact ⟨ret_int (by rw [hfin.out]), hB⟩
theorem l03Triangle_any (p k ax ay bx by_ cx cy : Int) (w : World) :
    Calls Try.prog 50 #[.int .i64 p, .int .i64 k, .agg #[.int .i64 ax, .int .i64 ay], .agg #[.int .i64 bx, .int .i64 by_], .agg #[.int .i64 cx, .int .i64 cy]] w fun e w' => e = .returned (.int .i64 (Pl.triC p k ax ay bx by_ cx cy)) ∧ Below w.heap.size w w' := by
  by_cases h0 : Pl.ask p (Pl.colB k && Pl.ptsB p [(ax, ay), (bx, by_), (cx, cy)]) = 0
  · have hv : Hid (Pl.fieldB p = true ∧ (Pl.colB k && Pl.ptsB p [(ax, ay), (bx, by_), (cx, cy)]) = true) := Pl.ask_ok h0
    have hp := Pl.field_bd hv.out.1
    obtain ⟨hp1, hp2⟩ := hp
    have hv2 := hv.out.2
    simp only [Bool.and_eq_true] at hv2
    obtain ⟨⟨ax1, ax2, ay1, ay2⟩, ⟨bx1, bx2, by_1, by_2⟩, cx1, cx2, cy1, cy2⟩ := Pl.pts3_bd hv2.2
    clear hv2
    have hf := hv.out.1
    have hfin : Hid (Pl.triC p k ax ay bx by_ cx cy = if Pl.area p ax ay bx by_ cx cy = 0 ∨ Pl.quad p k ax ay bx by_ = 0 ∨ Pl.quad p k ax ay cx cy = 0 ∨ Pl.quad p k bx by_ cx cy = 0 then 5 else 0) := by unfold Hid Pl.triC; rw [if_pos h0]
    by_cases z0 : Pl.area p ax ay bx by_ cx cy = 0
    · have f0 : (Pl.area p ax ay bx by_ cx cy == 0) = true := by simpa using z0
      have HZ := hid (show Pl.area p ax ay bx by_ cx cy = 0 ∨ Pl.quad p k ax ay bx by_ = 0 ∨ Pl.quad p k bx by_ cx cy = 0 ∨ Pl.quad p k ax ay cx cy = 0 from .inl z0)
      clear z0
      go_enter Try.func50, Try.ntmps50
      go_wp2_with fail
      refine (l03Points_any p k _ 0 3 3 [(ax, ay), (bx, by_), (cx, cy)] rfl (by omega) _ (by simp) ?_).mono ?_
      · intro j hj
        match j, hj with
        | 0, _ => exact ⟨by go_simp, by go_simp⟩
        | 1, _ => exact ⟨by go_simp, by go_simp⟩
        | 2, _ => exact ⟨by go_simp, by go_simp⟩
      · rintro e w1 ⟨rfl, hb⟩
        have c00 : w1.cell? ⟨w.heap.size, 0, none⟩ = some (.int .i64 ax) := keepC hb (by go_simp)
        have c01 : w1.cell? ⟨w.heap.size, 1, none⟩ = some (.int .i64 ay) := keepC hb (by go_simp)
        have c10 : w1.cell? ⟨w.heap.size + 1, 0, none⟩ = some (.int .i64 bx) := keepC hb (by go_simp)
        have c11 : w1.cell? ⟨w.heap.size + 1, 1, none⟩ = some (.int .i64 by_) := keepC hb (by go_simp)
        have c20 : w1.cell? ⟨w.heap.size + 1 + 1, 0, none⟩ = some (.int .i64 cx) := keepC hb (by go_simp)
        have c21 : w1.cell? ⟨w.heap.size + 1 + 1, 1, none⟩ = some (.int .i64 cy) := keepC hb (by go_simp)
        have hB : Below w.heap.size w w1 := below_of (by go_grown) hb (by simp <;> omega)
        clear hb
        go_wp2_with (first | (go_at_call 104; refine (l01Area_any _ _ _ _ _ _ _ _ (by omega) (by omega) (by omega) (by omega) (by omega) (by omega) (by omega) (by omega) (by omega) (by omega) (by omega) (by omega) (by omega) (by omega)).mono ?_; rintro e w' ⟨rfl, hbn⟩; replace c00 := keepC hbn c00; replace c01 := keepC hbn c01; replace c10 := keepC hbn c10; replace c11 := keepC hbn c11; replace c20 := keepC hbn c20; replace c21 := keepC hbn c21; replace hB := below_of hB hbn hB.size; clear hbn) | (go_at_call 105; refine (l02Quadrance_any _ _ _ _ _ _ _ (by omega) (by omega) (by omega) (by omega) (by omega) (by omega) (by omega) (by omega) (by omega) (by omega)).mono ?_; rintro e w' ⟨rfl, hbn⟩; replace c00 := keepC hbn c00; replace c01 := keepC hbn c01; replace c10 := keepC hbn c10; replace c11 := keepC hbn c11; replace c20 := keepC hbn c20; replace c21 := keepC hbn c21; replace hB := below_of hB hbn hB.size; clear hbn))
        go_ret
        exact ⟨ret_int (by rw [hfin.out, if_pos ((show (Pl.area p ax ay bx by_ cx cy = 0 ∨ Pl.quad p k ax ay bx by_ = 0 ∨ Pl.quad p k bx by_ cx cy = 0 ∨ Pl.quad p k ax ay cx cy = 0) ↔ (Pl.area p ax ay bx by_ cx cy = 0 ∨ Pl.quad p k ax ay bx by_ = 0 ∨ Pl.quad p k ax ay cx cy = 0 ∨ Pl.quad p k bx by_ cx cy = 0) by rw [or_comm (a := Pl.quad p k bx by_ cx cy = 0) (b := Pl.quad p k ax ay cx cy = 0)]).1 HZ.out)]), hB⟩
    · have f0 : (Pl.area p ax ay bx by_ cx cy == 0) = false := by simpa using z0
      by_cases z1 : Pl.quad p k ax ay bx by_ = 0
      · have f1 : (Pl.quad p k ax ay bx by_ == 0) = true := by simpa using z1
        have HZ := hid (show Pl.area p ax ay bx by_ cx cy = 0 ∨ Pl.quad p k ax ay bx by_ = 0 ∨ Pl.quad p k bx by_ cx cy = 0 ∨ Pl.quad p k ax ay cx cy = 0 from .inr (.inl z1))
        clear z0 z1
        go_enter Try.func50, Try.ntmps50
        go_wp2_with fail
        refine (l03Points_any p k _ 0 3 3 [(ax, ay), (bx, by_), (cx, cy)] rfl (by omega) _ (by simp) ?_).mono ?_
        · intro j hj
          match j, hj with
          | 0, _ => exact ⟨by go_simp, by go_simp⟩
          | 1, _ => exact ⟨by go_simp, by go_simp⟩
          | 2, _ => exact ⟨by go_simp, by go_simp⟩
        · rintro e w1 ⟨rfl, hb⟩
          have c00 : w1.cell? ⟨w.heap.size, 0, none⟩ = some (.int .i64 ax) := keepC hb (by go_simp)
          have c01 : w1.cell? ⟨w.heap.size, 1, none⟩ = some (.int .i64 ay) := keepC hb (by go_simp)
          have c10 : w1.cell? ⟨w.heap.size + 1, 0, none⟩ = some (.int .i64 bx) := keepC hb (by go_simp)
          have c11 : w1.cell? ⟨w.heap.size + 1, 1, none⟩ = some (.int .i64 by_) := keepC hb (by go_simp)
          have c20 : w1.cell? ⟨w.heap.size + 1 + 1, 0, none⟩ = some (.int .i64 cx) := keepC hb (by go_simp)
          have c21 : w1.cell? ⟨w.heap.size + 1 + 1, 1, none⟩ = some (.int .i64 cy) := keepC hb (by go_simp)
          have hB : Below w.heap.size w w1 := below_of (by go_grown) hb (by simp <;> omega)
          clear hb
          go_wp2_with (first | (go_at_call 104; refine (l01Area_any _ _ _ _ _ _ _ _ (by omega) (by omega) (by omega) (by omega) (by omega) (by omega) (by omega) (by omega) (by omega) (by omega) (by omega) (by omega) (by omega) (by omega)).mono ?_; rintro e w' ⟨rfl, hbn⟩; replace c00 := keepC hbn c00; replace c01 := keepC hbn c01; replace c10 := keepC hbn c10; replace c11 := keepC hbn c11; replace c20 := keepC hbn c20; replace c21 := keepC hbn c21; replace hB := below_of hB hbn hB.size; clear hbn) | (go_at_call 105; refine (l02Quadrance_any _ _ _ _ _ _ _ (by omega) (by omega) (by omega) (by omega) (by omega) (by omega) (by omega) (by omega) (by omega) (by omega)).mono ?_; rintro e w' ⟨rfl, hbn⟩; replace c00 := keepC hbn c00; replace c01 := keepC hbn c01; replace c10 := keepC hbn c10; replace c11 := keepC hbn c11; replace c20 := keepC hbn c20; replace c21 := keepC hbn c21; replace hB := below_of hB hbn hB.size; clear hbn))
          go_ret
          exact ⟨ret_int (by rw [hfin.out, if_pos ((show (Pl.area p ax ay bx by_ cx cy = 0 ∨ Pl.quad p k ax ay bx by_ = 0 ∨ Pl.quad p k bx by_ cx cy = 0 ∨ Pl.quad p k ax ay cx cy = 0) ↔ (Pl.area p ax ay bx by_ cx cy = 0 ∨ Pl.quad p k ax ay bx by_ = 0 ∨ Pl.quad p k ax ay cx cy = 0 ∨ Pl.quad p k bx by_ cx cy = 0) by rw [or_comm (a := Pl.quad p k bx by_ cx cy = 0) (b := Pl.quad p k ax ay cx cy = 0)]).1 HZ.out)]), hB⟩
      · have f1 : (Pl.quad p k ax ay bx by_ == 0) = false := by simpa using z1
        by_cases z2 : Pl.quad p k bx by_ cx cy = 0
        · have f2 : (Pl.quad p k bx by_ cx cy == 0) = true := by simpa using z2
          have HZ := hid (show Pl.area p ax ay bx by_ cx cy = 0 ∨ Pl.quad p k ax ay bx by_ = 0 ∨ Pl.quad p k bx by_ cx cy = 0 ∨ Pl.quad p k ax ay cx cy = 0 from .inr (.inr (.inl z2)))
          clear z0 z1 z2
          go_enter Try.func50, Try.ntmps50
          go_wp2_with fail
          refine (l03Points_any p k _ 0 3 3 [(ax, ay), (bx, by_), (cx, cy)] rfl (by omega) _ (by simp) ?_).mono ?_
          · intro j hj
            match j, hj with
            | 0, _ => exact ⟨by go_simp, by go_simp⟩
            | 1, _ => exact ⟨by go_simp, by go_simp⟩
            | 2, _ => exact ⟨by go_simp, by go_simp⟩
          · rintro e w1 ⟨rfl, hb⟩
            have c00 : w1.cell? ⟨w.heap.size, 0, none⟩ = some (.int .i64 ax) := keepC hb (by go_simp)
            have c01 : w1.cell? ⟨w.heap.size, 1, none⟩ = some (.int .i64 ay) := keepC hb (by go_simp)
            have c10 : w1.cell? ⟨w.heap.size + 1, 0, none⟩ = some (.int .i64 bx) := keepC hb (by go_simp)
            have c11 : w1.cell? ⟨w.heap.size + 1, 1, none⟩ = some (.int .i64 by_) := keepC hb (by go_simp)
            have c20 : w1.cell? ⟨w.heap.size + 1 + 1, 0, none⟩ = some (.int .i64 cx) := keepC hb (by go_simp)
            have c21 : w1.cell? ⟨w.heap.size + 1 + 1, 1, none⟩ = some (.int .i64 cy) := keepC hb (by go_simp)
            have hB : Below w.heap.size w w1 := below_of (by go_grown) hb (by simp <;> omega)
            clear hb
            go_wp2_with (first | (go_at_call 104; refine (l01Area_any _ _ _ _ _ _ _ _ (by omega) (by omega) (by omega) (by omega) (by omega) (by omega) (by omega) (by omega) (by omega) (by omega) (by omega) (by omega) (by omega) (by omega)).mono ?_; rintro e w' ⟨rfl, hbn⟩; replace c00 := keepC hbn c00; replace c01 := keepC hbn c01; replace c10 := keepC hbn c10; replace c11 := keepC hbn c11; replace c20 := keepC hbn c20; replace c21 := keepC hbn c21; replace hB := below_of hB hbn hB.size; clear hbn) | (go_at_call 105; refine (l02Quadrance_any _ _ _ _ _ _ _ (by omega) (by omega) (by omega) (by omega) (by omega) (by omega) (by omega) (by omega) (by omega) (by omega)).mono ?_; rintro e w' ⟨rfl, hbn⟩; replace c00 := keepC hbn c00; replace c01 := keepC hbn c01; replace c10 := keepC hbn c10; replace c11 := keepC hbn c11; replace c20 := keepC hbn c20; replace c21 := keepC hbn c21; replace hB := below_of hB hbn hB.size; clear hbn))
            go_ret
            exact ⟨ret_int (by rw [hfin.out, if_pos ((show (Pl.area p ax ay bx by_ cx cy = 0 ∨ Pl.quad p k ax ay bx by_ = 0 ∨ Pl.quad p k bx by_ cx cy = 0 ∨ Pl.quad p k ax ay cx cy = 0) ↔ (Pl.area p ax ay bx by_ cx cy = 0 ∨ Pl.quad p k ax ay bx by_ = 0 ∨ Pl.quad p k ax ay cx cy = 0 ∨ Pl.quad p k bx by_ cx cy = 0) by rw [or_comm (a := Pl.quad p k bx by_ cx cy = 0) (b := Pl.quad p k ax ay cx cy = 0)]).1 HZ.out)]), hB⟩
        · have f2 : (Pl.quad p k bx by_ cx cy == 0) = false := by simpa using z2
          by_cases z3 : Pl.quad p k ax ay cx cy = 0
          · have f3 : (Pl.quad p k ax ay cx cy == 0) = true := by simpa using z3
            have HZ := hid (show Pl.area p ax ay bx by_ cx cy = 0 ∨ Pl.quad p k ax ay bx by_ = 0 ∨ Pl.quad p k bx by_ cx cy = 0 ∨ Pl.quad p k ax ay cx cy = 0 from .inr (.inr (.inr (z3))))
            clear z0 z1 z2 z3
            go_enter Try.func50, Try.ntmps50
            go_wp2_with fail
            refine (l03Points_any p k _ 0 3 3 [(ax, ay), (bx, by_), (cx, cy)] rfl (by omega) _ (by simp) ?_).mono ?_
            · intro j hj
              match j, hj with
              | 0, _ => exact ⟨by go_simp, by go_simp⟩
              | 1, _ => exact ⟨by go_simp, by go_simp⟩
              | 2, _ => exact ⟨by go_simp, by go_simp⟩
            · rintro e w1 ⟨rfl, hb⟩
              have c00 : w1.cell? ⟨w.heap.size, 0, none⟩ = some (.int .i64 ax) := keepC hb (by go_simp)
              have c01 : w1.cell? ⟨w.heap.size, 1, none⟩ = some (.int .i64 ay) := keepC hb (by go_simp)
              have c10 : w1.cell? ⟨w.heap.size + 1, 0, none⟩ = some (.int .i64 bx) := keepC hb (by go_simp)
              have c11 : w1.cell? ⟨w.heap.size + 1, 1, none⟩ = some (.int .i64 by_) := keepC hb (by go_simp)
              have c20 : w1.cell? ⟨w.heap.size + 1 + 1, 0, none⟩ = some (.int .i64 cx) := keepC hb (by go_simp)
              have c21 : w1.cell? ⟨w.heap.size + 1 + 1, 1, none⟩ = some (.int .i64 cy) := keepC hb (by go_simp)
              have hB : Below w.heap.size w w1 := below_of (by go_grown) hb (by simp <;> omega)
              clear hb
              go_wp2_with (first | (go_at_call 104; refine (l01Area_any _ _ _ _ _ _ _ _ (by omega) (by omega) (by omega) (by omega) (by omega) (by omega) (by omega) (by omega) (by omega) (by omega) (by omega) (by omega) (by omega) (by omega)).mono ?_; rintro e w' ⟨rfl, hbn⟩; replace c00 := keepC hbn c00; replace c01 := keepC hbn c01; replace c10 := keepC hbn c10; replace c11 := keepC hbn c11; replace c20 := keepC hbn c20; replace c21 := keepC hbn c21; replace hB := below_of hB hbn hB.size; clear hbn) | (go_at_call 105; refine (l02Quadrance_any _ _ _ _ _ _ _ (by omega) (by omega) (by omega) (by omega) (by omega) (by omega) (by omega) (by omega) (by omega) (by omega)).mono ?_; rintro e w' ⟨rfl, hbn⟩; replace c00 := keepC hbn c00; replace c01 := keepC hbn c01; replace c10 := keepC hbn c10; replace c11 := keepC hbn c11; replace c20 := keepC hbn c20; replace c21 := keepC hbn c21; replace hB := below_of hB hbn hB.size; clear hbn))
              go_ret
              exact ⟨ret_int (by rw [hfin.out, if_pos ((show (Pl.area p ax ay bx by_ cx cy = 0 ∨ Pl.quad p k ax ay bx by_ = 0 ∨ Pl.quad p k bx by_ cx cy = 0 ∨ Pl.quad p k ax ay cx cy = 0) ↔ (Pl.area p ax ay bx by_ cx cy = 0 ∨ Pl.quad p k ax ay bx by_ = 0 ∨ Pl.quad p k ax ay cx cy = 0 ∨ Pl.quad p k bx by_ cx cy = 0) by rw [or_comm (a := Pl.quad p k bx by_ cx cy = 0) (b := Pl.quad p k ax ay cx cy = 0)]).1 HZ.out)]), hB⟩
          · have f3 : (Pl.quad p k ax ay cx cy == 0) = false := by simpa using z3
            have HZ := hid (show ¬ (Pl.area p ax ay bx by_ cx cy = 0 ∨ Pl.quad p k ax ay bx by_ = 0 ∨ Pl.quad p k bx by_ cx cy = 0 ∨ Pl.quad p k ax ay cx cy = 0) from fun h => by rcases h with h | h | h | h <;> omega)
            clear z0 z1 z2 z3
            go_enter Try.func50, Try.ntmps50
            go_wp2_with fail
            refine (l03Points_any p k _ 0 3 3 [(ax, ay), (bx, by_), (cx, cy)] rfl (by omega) _ (by simp) ?_).mono ?_
            · intro j hj
              match j, hj with
              | 0, _ => exact ⟨by go_simp, by go_simp⟩
              | 1, _ => exact ⟨by go_simp, by go_simp⟩
              | 2, _ => exact ⟨by go_simp, by go_simp⟩
            · rintro e w1 ⟨rfl, hb⟩
              have c00 : w1.cell? ⟨w.heap.size, 0, none⟩ = some (.int .i64 ax) := keepC hb (by go_simp)
              have c01 : w1.cell? ⟨w.heap.size, 1, none⟩ = some (.int .i64 ay) := keepC hb (by go_simp)
              have c10 : w1.cell? ⟨w.heap.size + 1, 0, none⟩ = some (.int .i64 bx) := keepC hb (by go_simp)
              have c11 : w1.cell? ⟨w.heap.size + 1, 1, none⟩ = some (.int .i64 by_) := keepC hb (by go_simp)
              have c20 : w1.cell? ⟨w.heap.size + 1 + 1, 0, none⟩ = some (.int .i64 cx) := keepC hb (by go_simp)
              have c21 : w1.cell? ⟨w.heap.size + 1 + 1, 1, none⟩ = some (.int .i64 cy) := keepC hb (by go_simp)
              have hB : Below w.heap.size w w1 := below_of (by go_grown) hb (by simp <;> omega)
              clear hb
              go_wp2_with (first | (go_at_call 104; refine (l01Area_any _ _ _ _ _ _ _ _ (by omega) (by omega) (by omega) (by omega) (by omega) (by omega) (by omega) (by omega) (by omega) (by omega) (by omega) (by omega) (by omega) (by omega)).mono ?_; rintro e w' ⟨rfl, hbn⟩; replace c00 := keepC hbn c00; replace c01 := keepC hbn c01; replace c10 := keepC hbn c10; replace c11 := keepC hbn c11; replace c20 := keepC hbn c20; replace c21 := keepC hbn c21; replace hB := below_of hB hbn hB.size; clear hbn) | (go_at_call 105; refine (l02Quadrance_any _ _ _ _ _ _ _ (by omega) (by omega) (by omega) (by omega) (by omega) (by omega) (by omega) (by omega) (by omega) (by omega)).mono ?_; rintro e w' ⟨rfl, hbn⟩; replace c00 := keepC hbn c00; replace c01 := keepC hbn c01; replace c10 := keepC hbn c10; replace c11 := keepC hbn c11; replace c20 := keepC hbn c20; replace c21 := keepC hbn c21; replace hB := below_of hB hbn hB.size; clear hbn))
              go_ret
              exact ⟨ret_int (by rw [hfin.out, if_neg fun h => HZ.out ((show (Pl.area p ax ay bx by_ cx cy = 0 ∨ Pl.quad p k ax ay bx by_ = 0 ∨ Pl.quad p k bx by_ cx cy = 0 ∨ Pl.quad p k ax ay cx cy = 0) ↔ (Pl.area p ax ay bx by_ cx cy = 0 ∨ Pl.quad p k ax ay bx by_ = 0 ∨ Pl.quad p k ax ay cx cy = 0 ∨ Pl.quad p k bx by_ cx cy = 0) by rw [or_comm (a := Pl.quad p k bx by_ cx cy = 0) (b := Pl.quad p k ax ay cx cy = 0)]).2 h)]), hB⟩
  · have hne : (Pl.ask p (Pl.colB k && Pl.ptsB p [(ax, ay), (bx, by_), (cx, cy)]) != 0) = true := by simpa using h0
    have hne2 : (Pl.ask p (Pl.colB k && Pl.ptsB p [(ax, ay), (bx, by_), (cx, cy)]) == 0) = false := by simpa using h0
    have hfin : Hid (Pl.triC p k ax ay bx by_ cx cy = Pl.ask p (Pl.colB k && Pl.ptsB p [(ax, ay), (bx, by_), (cx, cy)])) := by unfold Hid Pl.triC; rw [if_neg h0]
    clear h0
    go_enter Try.func50, Try.ntmps50
    go_wp2_with fail
    refine (l03Points_any p k _ 0 3 3 [(ax, ay), (bx, by_), (cx, cy)] rfl (by omega) _ (by simp) ?_).mono ?_
    · intro j hj
      match j, hj with
      | 0, _ => exact ⟨by go_simp, by go_simp⟩
      | 1, _ => exact ⟨by go_simp, by go_simp⟩
      | 2, _ => exact ⟨by go_simp, by go_simp⟩
    · rintro e w1 ⟨rfl, hb⟩
      have hB : Below w.heap.size w w1 := below_of (by go_grown) hb (by simp <;> omega)
      clear hb
      go_wp2_with fail
      go_ret
      exact ⟨ret_int (by rw [hfin.out]), hB⟩
end Go.Proofs.Ytommkkgkfjmhdaa
