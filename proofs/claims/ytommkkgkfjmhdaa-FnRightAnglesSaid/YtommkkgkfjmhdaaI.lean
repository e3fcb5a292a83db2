/- Contracts: quadrances, perpendicular lines, null lines, right angles: exported functions of both sides. -/
import Derived.Test.YtommkkgkfjmhdaaH2
set_option linter.unusedVariables false
set_option linter.unusedSimpArgs false
set_option maxRecDepth 100000
set_option maxHeartbeats 1000000
namespace Go.Proofs.Ytommkkgkfjmhdaa
open Go.RowKit
theorem Quadrance1_any (p k ax ay bx by_ : Int) (b0 b1 b2 b3 : Nat) (w : World) (c00 : w.cell? ⟨b0, 0, none⟩ = some (.int .i64 p)) (c10 : w.cell? ⟨b1, 0, none⟩ = some (.int .i64 k)) (c20 : w.cell? ⟨b2, 0, none⟩ = some (.int .i64 ax)) (c21 : w.cell? ⟨b2, 1, none⟩ = some (.int .i64 ay)) (c30 : w.cell? ⟨b3, 0, none⟩ = some (.int .i64 bx)) (c31 : w.cell? ⟨b3, 1, none⟩ = some (.int .i64 by_)) :
    Calls Try.prog 92 #[.pointer (some ⟨b1, 0, none⟩), .pointer (some ⟨b0, 0, none⟩), .pointer (some ⟨b2, 0, none⟩), .pointer (some ⟨b3, 0, none⟩)] w fun e w' => e = .returned (.bool (Pl.colB k && Pl.ptsB p [(ax, ay), (bx, by_)])) ∧ Below w.heap.size w w' := by
  cases hk : Pl.colB k with
  | false =>
    go_enter Try.func92, Try.ntmps92
    go_wp2_with (go_at_call 45; refine (isColour_any _ _).mono ?_; rintro e w' ⟨rfl, rfl⟩)
    go_ret
    exact ⟨rfl, Below.refl _ _⟩
  | true =>
    go_enter Try.func92, Try.ntmps92
    go_wp2_with (go_at_call 45; refine (isColour_any _ _).mono ?_; rintro e w' ⟨rfl, rfl⟩)
    refine (arePoints_any p _ 0 2 2 [(ax, ay), (bx, by_)] rfl (by omega) _ (by simp) ?_).mono ?_
    · intro j hj
      match j, hj with
      | 0, _ => exact ⟨by go_simp, by go_simp⟩
      | 1, _ => exact ⟨by go_simp, by go_simp⟩
    · rintro e w' ⟨rfl, hb⟩
      go_wp2_with fail
      go_ret
      exact ⟨rfl, below_of (by go_grown) hb (by simp <;> omega)⟩
theorem Quadrance_any (p k ax ay bx by_ : Int) (w : World) :
    Calls Try.prog 36 #[.int .i64 p, .int .i64 k, .agg #[.int .i64 ax, .int .i64 ay], .agg #[.int .i64 bx, .int .i64 by_]] w fun e w' => e = .returned (.tuple #[.int .i64 ((Pl.quadOf p k ax ay bx by_).1), .int .i64 ((Pl.quadOf p k ax ay bx by_).2)]) ∧ Below w.heap.size w w' := by
  by_cases h0 : Pl.ask p (Pl.colB k && Pl.ptsB p [(ax, ay), (bx, by_)]) = 0
  · have hfin : Hid (Pl.quadOf p k ax ay bx by_ = (Pl.quad p k ax ay bx by_, 0)) := by unfold Hid Pl.quadOf; rw [if_pos h0]
    have hv : Hid (Pl.fieldB p = true ∧ (Pl.colB k && Pl.ptsB p [(ax, ay), (bx, by_)]) = true) := Pl.ask_ok h0
    have hp := Pl.field_bd hv.out.1
    obtain ⟨hp1, hp2⟩ := hp
    have hv2 := hv.out.2
    simp only [Bool.and_eq_true] at hv2
    obtain ⟨⟨ax1, ax2, ay1, ay2⟩, bx1, bx2, by_1, by_2⟩ := Pl.pts2_bd hv2.2
    clear hv2
    go_enter Try.func36, Try.ntmps36
    go_wp2_with fail
    refine (asked_any p _ _ (Pl.colB k && Pl.ptsB p [(ax, ay), (bx, by_)]) _ (by kernel_rfl) ?_).mono ?_
    · intro _
      exact Quadrance1_any p k ax ay bx by_ _ _ _ _ _ (by go_simp) (by go_simp) (by go_simp) (by go_simp) (by go_simp) (by go_simp)
    · rintro e w1 ⟨rfl, hb⟩
      have c00 : w1.cell? ⟨w.heap.size, 0, none⟩ = some (.int .i64 p) := cellOf hb (by go_simp) (by simp <;> omega)
      have c10 : w1.cell? ⟨w.heap.size + 1, 0, none⟩ = some (.int .i64 k) := cellOf hb (by go_simp) (by simp <;> omega)
      have c20 : w1.cell? ⟨w.heap.size + 2, 0, none⟩ = some (.int .i64 ax) := cellOf hb (by go_simp) (by simp <;> omega)
      have c21 : w1.cell? ⟨w.heap.size + 2, 1, none⟩ = some (.int .i64 ay) := cellOf hb (by go_simp) (by simp <;> omega)
      have c30 : w1.cell? ⟨w.heap.size + 3, 0, none⟩ = some (.int .i64 bx) := cellOf hb (by go_simp) (by simp <;> omega)
      have c31 : w1.cell? ⟨w.heap.size + 3, 1, none⟩ = some (.int .i64 by_) := cellOf hb (by go_simp) (by simp <;> omega)
      have hz : w.heap.size + 4 ≤ w1.heap.size := by have := hb.size; simp at this; omega
      have hB : Below w.heap.size w w1 := below_of (by go_grown) hb (by simp <;> omega)
      clear hb
      go_wp2_with (go_at_call 93; refine (quadrance_any _ _ _ _ _ _ _ (by omega) (by omega) (by omega) (by omega) (by omega) (by omega) (by omega) (by omega) (by omega) (by omega)).mono ?_; rintro e w' ⟨rfl, hbn⟩; replace c00 := keepC hbn c00; replace c10 := keepC hbn c10; replace c20 := keepC hbn c20; replace c21 := keepC hbn c21; replace c30 := keepC hbn c30; replace c31 := keepC hbn c31; replace hB := below_of hB hbn hB.size; clear hbn)
      go_ret2
      exact ⟨ret_ii (by rw [hfin.out]) (by rw [hfin.out]), hB⟩
  · have hne : (Pl.ask p (Pl.colB k && Pl.ptsB p [(ax, ay), (bx, by_)]) != 0) = true := by simpa using h0
    have hfin : Hid (Pl.quadOf p k ax ay bx by_ = (0, Pl.ask p (Pl.colB k && Pl.ptsB p [(ax, ay), (bx, by_)]))) := by unfold Hid Pl.quadOf; rw [if_neg h0]
    clear h0
    go_enter Try.func36, Try.ntmps36
    go_wp2_with fail
    refine (asked_any p _ _ (Pl.colB k && Pl.ptsB p [(ax, ay), (bx, by_)]) _ (by kernel_rfl) ?_).mono ?_
    · intro _
      exact Quadrance1_any p k ax ay bx by_ _ _ _ _ _ (by go_simp) (by go_simp) (by go_simp) (by go_simp) (by go_simp) (by go_simp)
    · rintro e w1 ⟨rfl, hb⟩
      have hB : Below w.heap.size w w1 := below_of (by go_grown) hb (by simp <;> omega)
      clear hb
      go_wp2_with fail
      go_ret2
      exact ⟨ret_ii (by rw [hfin.out]) (by rw [hfin.out]), hB⟩
theorem HasRightAngle1_any (p k ax ay bx by_ cx cy : Int) (b0 b1 b2 b3 b4 : Nat) (w : World) (c00 : w.cell? ⟨b0, 0, none⟩ = some (.int .i64 p)) (c10 : w.cell? ⟨b1, 0, none⟩ = some (.int .i64 k)) (c20 : w.cell? ⟨b2, 0, none⟩ = some (.int .i64 ax)) (c21 : w.cell? ⟨b2, 1, none⟩ = some (.int .i64 ay)) (c30 : w.cell? ⟨b3, 0, none⟩ = some (.int .i64 bx)) (c31 : w.cell? ⟨b3, 1, none⟩ = some (.int .i64 by_)) (c40 : w.cell? ⟨b4, 0, none⟩ = some (.int .i64 cx)) (c41 : w.cell? ⟨b4, 1, none⟩ = some (.int .i64 cy)) :
    Calls Try.prog 87 #[.pointer (some ⟨b1, 0, none⟩), .pointer (some ⟨b0, 0, none⟩), .pointer (some ⟨b2, 0, none⟩), .pointer (some ⟨b3, 0, none⟩), .pointer (some ⟨b4, 0, none⟩)] w fun e w' => e = .returned (.bool (Pl.colB k && Pl.ptsB p [(ax, ay), (bx, by_), (cx, cy)])) ∧ Below w.heap.size w w' := by
  cases hk : Pl.colB k with
  | false =>
    go_enter Try.func87, Try.ntmps87
    go_wp2_with (go_at_call 45; refine (isColour_any _ _).mono ?_; rintro e w' ⟨rfl, rfl⟩)
    go_ret
    exact ⟨rfl, Below.refl _ _⟩
  | true =>
    go_enter Try.func87, Try.ntmps87
    go_wp2_with (go_at_call 45; refine (isColour_any _ _).mono ?_; rintro e w' ⟨rfl, rfl⟩)
    refine (arePoints_any p _ 0 3 3 [(ax, ay), (bx, by_), (cx, cy)] rfl (by omega) _ (by simp) ?_).mono ?_
    · intro j hj
      match j, hj with
      | 0, _ => exact ⟨by go_simp, by go_simp⟩
      | 1, _ => exact ⟨by go_simp, by go_simp⟩
      | 2, _ => exact ⟨by go_simp, by go_simp⟩
    · rintro e w' ⟨rfl, hb⟩
      go_wp2_with fail
      go_ret
      exact ⟨rfl, below_of (by go_grown) hb (by simp <;> omega)⟩
theorem HasRightAngle_any (p k ax ay bx by_ cx cy : Int) (w : World) :
    Calls Try.prog 34 #[.int .i64 p, .int .i64 k, .agg #[.int .i64 ax, .int .i64 ay], .agg #[.int .i64 bx, .int .i64 by_], .agg #[.int .i64 cx, .int .i64 cy]] w fun e w' => e = .returned (.tuple #[.bool ((Pl.rightOf p k ax ay bx by_ cx cy).1), .int .i64 ((Pl.rightOf p k ax ay bx by_ cx cy).2)]) ∧ Below w.heap.size w w' := by
  by_cases h0 : Pl.ask p (Pl.colB k && Pl.ptsB p [(ax, ay), (bx, by_), (cx, cy)]) = 0
  · have hfin : Hid (Pl.rightOf p k ax ay bx by_ cx cy = (Pl.right p k ax ay bx by_ cx cy, 0)) := by unfold Hid Pl.rightOf; rw [if_pos h0]
    have hv : Hid (Pl.fieldB p = true ∧ (Pl.colB k && Pl.ptsB p [(ax, ay), (bx, by_), (cx, cy)]) = true) := Pl.ask_ok h0
    have hp := Pl.field_bd hv.out.1
    obtain ⟨hp1, hp2⟩ := hp
    have hv2 := hv.out.2
    simp only [Bool.and_eq_true] at hv2
    obtain ⟨⟨ax1, ax2, ay1, ay2⟩, ⟨bx1, bx2, by_1, by_2⟩, cx1, cx2, cy1, cy2⟩ := Pl.pts3_bd hv2.2
    clear hv2
    go_enter Try.func34, Try.ntmps34
    go_wp2_with fail
    refine (asked_any p _ _ (Pl.colB k && Pl.ptsB p [(ax, ay), (bx, by_), (cx, cy)]) _ (by kernel_rfl) ?_).mono ?_
    · intro _
      exact HasRightAngle1_any p k ax ay bx by_ cx cy _ _ _ _ _ _ (by go_simp) (by go_simp) (by go_simp) (by go_simp) (by go_simp) (by go_simp) (by go_simp) (by go_simp)
    · rintro e w1 ⟨rfl, hb⟩
      have c00 : w1.cell? ⟨w.heap.size, 0, none⟩ = some (.int .i64 p) := cellOf hb (by go_simp) (by simp <;> omega)
      have c10 : w1.cell? ⟨w.heap.size + 1, 0, none⟩ = some (.int .i64 k) := cellOf hb (by go_simp) (by simp <;> omega)
      have c20 : w1.cell? ⟨w.heap.size + 2, 0, none⟩ = some (.int .i64 ax) := cellOf hb (by go_simp) (by simp <;> omega)
      have c21 : w1.cell? ⟨w.heap.size + 2, 1, none⟩ = some (.int .i64 ay) := cellOf hb (by go_simp) (by simp <;> omega)
      have c30 : w1.cell? ⟨w.heap.size + 3, 0, none⟩ = some (.int .i64 bx) := cellOf hb (by go_simp) (by simp <;> omega)
      have c31 : w1.cell? ⟨w.heap.size + 3, 1, none⟩ = some (.int .i64 by_) := cellOf hb (by go_simp) (by simp <;> omega)
      have c40 : w1.cell? ⟨w.heap.size + 4, 0, none⟩ = some (.int .i64 cx) := cellOf hb (by go_simp) (by simp <;> omega)
      have c41 : w1.cell? ⟨w.heap.size + 4, 1, none⟩ = some (.int .i64 cy) := cellOf hb (by go_simp) (by simp <;> omega)
      have hz : w.heap.size + 5 ≤ w1.heap.size := by have := hb.size; simp at this; omega
      have hB : Below w.heap.size w w1 := below_of (by go_grown) hb (by simp <;> omega)
      clear hb
      go_wp2_with (go_at_call 89; refine (isRight_any _ _ _ _ _ _ _ _ _ (by omega) (by omega) (by omega) (by omega) (by omega) (by omega) (by omega) (by omega) (by omega) (by omega) (by omega) (by omega) (by omega) (by omega)).mono ?_; rintro e w' ⟨rfl, hbn⟩; replace c00 := keepC hbn c00; replace c10 := keepC hbn c10; replace c20 := keepC hbn c20; replace c21 := keepC hbn c21; replace c30 := keepC hbn c30; replace c31 := keepC hbn c31; replace c40 := keepC hbn c40; replace c41 := keepC hbn c41; replace hB := below_of hB hbn hB.size; clear hbn)
      go_ret2
      exact ⟨ret_bi (by rw [hfin.out]) (by rw [hfin.out]), hB⟩
  · have hne : (Pl.ask p (Pl.colB k && Pl.ptsB p [(ax, ay), (bx, by_), (cx, cy)]) != 0) = true := by simpa using h0
    have hfin : Hid (Pl.rightOf p k ax ay bx by_ cx cy = (false, Pl.ask p (Pl.colB k && Pl.ptsB p [(ax, ay), (bx, by_), (cx, cy)]))) := by unfold Hid Pl.rightOf; rw [if_neg h0]
    clear h0
    go_enter Try.func34, Try.ntmps34
    go_wp2_with fail
    refine (asked_any p _ _ (Pl.colB k && Pl.ptsB p [(ax, ay), (bx, by_), (cx, cy)]) _ (by kernel_rfl) ?_).mono ?_
    · intro _
      exact HasRightAngle1_any p k ax ay bx by_ cx cy _ _ _ _ _ _ (by go_simp) (by go_simp) (by go_simp) (by go_simp) (by go_simp) (by go_simp) (by go_simp) (by go_simp)
    · rintro e w1 ⟨rfl, hb⟩
      have hB : Below w.heap.size w w1 := below_of (by go_grown) hb (by simp <;> omega)
      clear hb
      go_wp2_with fail
      go_ret2
      exact ⟨ret_bi (by rw [hfin.out]) (by rw [hfin.out]), hB⟩
theorem sHasRightAngle_any (p k ax ay bx by_ cx cy : Int) (w : World) :
    Calls Try.prog 35 #[.int .i64 p, .int .i64 k, .agg #[.int .i64 ax, .int .i64 ay], .agg #[.int .i64 bx, .int .i64 by_], .agg #[.int .i64 cx, .int .i64 cy]] w fun e w' => e = .returned (.tuple #[.bool ((Pl.rightOf p k ax ay bx by_ cx cy).1), .int .i64 ((Pl.rightOf p k ax ay bx by_ cx cy).2)]) ∧ Below w.heap.size w w' := by
  by_cases h0 : Pl.ask p (Pl.colB k && Pl.ptsB p [(ax, ay), (bx, by_), (cx, cy)]) = 0
  · have hfin : Hid (Pl.rightOf p k ax ay bx by_ cx cy = (Pl.right p k ax ay bx by_ cx cy, 0)) := by unfold Hid Pl.rightOf; rw [if_pos h0]
    have hv : Hid (Pl.fieldB p = true ∧ (Pl.colB k && Pl.ptsB p [(ax, ay), (bx, by_), (cx, cy)]) = true) := Pl.ask_ok h0
    have hp := Pl.field_bd hv.out.1
    obtain ⟨hp1, hp2⟩ := hp
    have hv2 := hv.out.2
    simp only [Bool.and_eq_true] at hv2
    obtain ⟨⟨ax1, ax2, ay1, ay2⟩, ⟨bx1, bx2, by_1, by_2⟩, cx1, cx2, cy1, cy2⟩ := Pl.pts3_bd hv2.2
    clear hv2
    go_enter Try.func35, Try.ntmps35
    go_wp2_with fail
    refine (l02Code_any p k _ 0 3 3 [(ax, ay), (bx, by_), (cx, cy)] rfl (by omega) _ (by simp) ?_).mono ?_
    · intro j hj
      match j, hj with
      | 0, _ => exact ⟨by go_simp, by go_simp⟩
      | 1, _ => exact ⟨by go_simp, by go_simp⟩
      | 2, _ => exact ⟨by go_simp, by go_simp⟩
    · rintro e w1 ⟨rfl, hb⟩
      have c00 : w1.cell? ⟨w.heap.size, 0, none⟩ = some (.int .i64 ax) := keepC hb (by go_simp)
      have c01 : w1.cell? ⟨w.heap.size, 1, none⟩ = some (.int .i64 ay) := keepC hb (by go_simp)
      have c10 : w1.cell? ⟨w.heap.size + 1, 0, none⟩ = some (.int .i64 bx) := keepC hb (by go_simp)
      have c11 : w1.cell? ⟨w.heap.size + 1, 1, none⟩ = some (.int .i64 by_) := keepC hb (by go_simp)
      have c20 : w1.cell? ⟨w.heap.size + 1 + 1, 0, none⟩ = some (.int .i64 cx) := keepC hb (by go_simp)
      have c21 : w1.cell? ⟨w.heap.size + 1 + 1, 1, none⟩ = some (.int .i64 cy) := keepC hb (by go_simp)
      have hB : Below w.heap.size w w1 := below_of (by go_grown) hb (by simp <;> omega)
      clear hb
      have r1n := Int.emod_nonneg (bx - ax) (show p ≠ 0 by omega)
      have r1l := Int.emod_lt_of_pos (bx - ax) (show 0 < p by omega)
      have r2n := Int.emod_nonneg (by_ - ay) (show p ≠ 0 by omega)
      have r2l := Int.emod_lt_of_pos (by_ - ay) (show 0 < p by omega)
      have r3n := Int.emod_nonneg (cx - ax) (show p ≠ 0 by omega)
      have r3l := Int.emod_lt_of_pos (cx - ax) (show 0 < p by omega)
      have r4n := Int.emod_nonneg (cy - ay) (show p ≠ 0 by omega)
      have r4l := Int.emod_lt_of_pos (cy - ay) (show 0 < p by omega)
      go_wp2_with fail
      refine Reg.wp_region_grow (by kernel_rfl) 14 14 (fun _ => (#[.int .i64 0, .int .i64 0], 0)) (by kernel_rfl) ?_ ?_
      · intro k o h1 h2
        omega
      simp only [List.take_succ_cons, List.take_zero, List.drop_succ_cons, List.drop_zero]
      refine Reg.wpG_step (v := ?vr1x0) (fun wq hq => ?gr1x0) ?kr1x0
      case gr1x0 => (have q0 := keepC hq c00; have q1 := keepC hq c01; have q2 := keepC hq c10; have q3 := keepC hq c11; have q4 := keepC hq c20; have q5 := keepC hq c21; refine Reg.gAt_val ?_; go_simp; first | done | (with_reducible rfl) | rfl)
      try simp only [Act.put, List.setIfInBounds_toArray, List.set_cons_zero, List.set_cons_succ]
      refine Reg.wpG_step (v := ?vr1x1) (fun wq hq => ?gr1x1) ?kr1x1
      case gr1x1 => (have q0 := keepC hq c00; have q1 := keepC hq c01; have q2 := keepC hq c10; have q3 := keepC hq c11; have q4 := keepC hq c20; have q5 := keepC hq c21; refine Reg.gAt_val ?_; go_simp; first | done | (with_reducible rfl) | rfl)
      try simp only [Act.put, List.setIfInBounds_toArray, List.set_cons_zero, List.set_cons_succ]
      refine Reg.wpG_step (v := ?vr1x2) (fun wq hq => ?gr1x2) ?kr1x2
      case gr1x2 => (have q0 := keepC hq c00; have q1 := keepC hq c01; have q2 := keepC hq c10; have q3 := keepC hq c11; have q4 := keepC hq c20; have q5 := keepC hq c21; refine Reg.gAt_val ?_; go_simp; first | done | (with_reducible rfl) | rfl)
      try simp only [Act.put, List.setIfInBounds_toArray, List.set_cons_zero, List.set_cons_succ]
      refine Reg.wpG_step (v := ?vr1x3) (fun wq hq => ?gr1x3) ?kr1x3
      case gr1x3 => (have q0 := keepC hq c00; have q1 := keepC hq c01; have q2 := keepC hq c10; have q3 := keepC hq c11; have q4 := keepC hq c20; have q5 := keepC hq c21; refine Reg.gAt_val ?_; go_simp; first | done | (with_reducible rfl) | rfl)
      try simp only [Act.put, List.setIfInBounds_toArray, List.set_cons_zero, List.set_cons_succ]
      refine Reg.wpG_step (v := ?vr1x4) (fun wq hq => ?gr1x4) ?kr1x4
      case gr1x4 => (have q0 := keepC hq c00; have q1 := keepC hq c01; have q2 := keepC hq c10; have q3 := keepC hq c11; have q4 := keepC hq c20; have q5 := keepC hq c21; refine Reg.gAt_val ?_; go_simp; first | done | (with_reducible rfl) | rfl)
      try simp only [Act.put, List.setIfInBounds_toArray, List.set_cons_zero, List.set_cons_succ]
      refine Reg.wpG_step (v := .agg #[.int .i64 ((bx - ax) % p), .int .i64 ((by_ - ay) % p)]) (fun wq hq => ?gr1x5) ?kr1x5
      case gr1x5 => (unfold Reg.gAt; go_simp; refine Reg.quiet_enter ?_; exact l01Minus_any _ _ _ _ _ _ (by omega) (by omega) (by omega) (by omega) (by omega) (by omega) (by omega) (by omega) (by omega) (by omega))
      try simp only [Act.put, List.setIfInBounds_toArray, List.set_cons_zero, List.set_cons_succ]
      refine Reg.wpG_step (v := ?vr1x6) (fun wq hq => ?gr1x6) ?kr1x6
      case gr1x6 => (have q0 := keepC hq c00; have q1 := keepC hq c01; have q2 := keepC hq c10; have q3 := keepC hq c11; have q4 := keepC hq c20; have q5 := keepC hq c21; refine Reg.gAt_val ?_; go_simp; first | done | (with_reducible rfl) | rfl)
      try simp only [Act.put, List.setIfInBounds_toArray, List.set_cons_zero, List.set_cons_succ]
      refine Reg.wpG_step (v := ?vr1x7) (fun wq hq => ?gr1x7) ?kr1x7
      case gr1x7 => (have q0 := keepC hq c00; have q1 := keepC hq c01; have q2 := keepC hq c10; have q3 := keepC hq c11; have q4 := keepC hq c20; have q5 := keepC hq c21; refine Reg.gAt_val ?_; go_simp; first | done | (with_reducible rfl) | rfl)
      try simp only [Act.put, List.setIfInBounds_toArray, List.set_cons_zero, List.set_cons_succ]
      refine Reg.wpG_step (v := ?vr1x8) (fun wq hq => ?gr1x8) ?kr1x8
      case gr1x8 => (have q0 := keepC hq c00; have q1 := keepC hq c01; have q2 := keepC hq c10; have q3 := keepC hq c11; have q4 := keepC hq c20; have q5 := keepC hq c21; refine Reg.gAt_val ?_; go_simp; first | done | (with_reducible rfl) | rfl)
      try simp only [Act.put, List.setIfInBounds_toArray, List.set_cons_zero, List.set_cons_succ]
      refine Reg.wpG_step (v := .agg #[.int .i64 ((cx - ax) % p), .int .i64 ((cy - ay) % p)]) (fun wq hq => ?gr1x9) ?kr1x9
      case gr1x9 => (unfold Reg.gAt; go_simp; refine Reg.quiet_enter ?_; exact l01Minus_any _ _ _ _ _ _ (by omega) (by omega) (by omega) (by omega) (by omega) (by omega) (by omega) (by omega) (by omega) (by omega))
      try simp only [Act.put, List.setIfInBounds_toArray, List.set_cons_zero, List.set_cons_succ]
      refine Reg.wpG_step (v := .int .i64 (Pl.prod p k ((bx - ax) % p) ((by_ - ay) % p) ((cx - ax) % p) ((cy - ay) % p))) (fun wq hq => ?gr1x10) ?kr1x10
      case gr1x10 => (unfold Reg.gAt; go_simp; refine Reg.quiet_enter ?_; exact l02Product_any _ _ _ _ _ _ _ (by omega) (by omega) (by omega) (by omega) (by omega) (by omega) (by omega) (by omega) (by omega) (by omega))
      try simp only [Act.put, List.setIfInBounds_toArray, List.set_cons_zero, List.set_cons_succ]
      refine Reg.wpG_step (v := ?vr1x11) (fun wq hq => ?gr1x11) ?kr1x11
      case gr1x11 => (have q0 := keepC hq c00; have q1 := keepC hq c01; have q2 := keepC hq c10; have q3 := keepC hq c11; have q4 := keepC hq c20; have q5 := keepC hq c21; refine Reg.gAt_val ?_; go_simp; first | done | (with_reducible rfl) | rfl)
      try simp only [Act.put, List.setIfInBounds_toArray, List.set_cons_zero, List.set_cons_succ]
      refine Reg.wpG_step (v := ?vr1x12) (fun wq hq => ?gr1x12) ?kr1x12
      case gr1x12 => (have q0 := keepC hq c00; have q1 := keepC hq c01; have q2 := keepC hq c10; have q3 := keepC hq c11; have q4 := keepC hq c20; have q5 := keepC hq c21; refine Reg.gAt_val ?_; go_simp; first | done | (with_reducible rfl) | rfl)
      try simp only [Act.put, List.setIfInBounds_toArray, List.set_cons_zero, List.set_cons_succ]
      refine Reg.wpG_step (v := ?vr1x13) (fun wq hq => ?gr1x13) ?kr1x13
      case gr1x13 => (have q0 := keepC hq c00; have q1 := keepC hq c01; have q2 := keepC hq c10; have q3 := keepC hq c11; have q4 := keepC hq c20; have q5 := keepC hq c21; refine Reg.gAt_val ?_; go_simp; first | done | (with_reducible rfl) | rfl)
      try simp only [Act.put, List.setIfInBounds_toArray, List.set_cons_zero, List.set_cons_succ]
      intro w2 g hB2 hg hd
      clear hg hd
      change wpList _ _ _ _ (Reg.putPtrs _ g [] _) _
      simp only [Reg.putPtrs]
      replace c00 := keepC hB2 c00
      replace c01 := keepC hB2 c01
      replace c10 := keepC hB2 c10
      replace c11 := keepC hB2 c11
      replace c20 := keepC hB2 c20
      replace c21 := keepC hB2 c21
      replace hB := below_of hB hB2 hB.size
      clear hB2 
      go_wp2_with fail
      go_ret2
      exact ⟨ret_bi (by rw [hfin.out]; rfl) (by rw [hfin.out]), hB⟩
  · have hne : (Pl.ask p (Pl.colB k && Pl.ptsB p [(ax, ay), (bx, by_), (cx, cy)]) != 0) = true := by simpa using h0
    have hfin : Hid (Pl.rightOf p k ax ay bx by_ cx cy = (false, Pl.ask p (Pl.colB k && Pl.ptsB p [(ax, ay), (bx, by_), (cx, cy)]))) := by unfold Hid Pl.rightOf; rw [if_neg h0]
    clear h0
    go_enter Try.func35, Try.ntmps35
    go_wp2_with fail
    refine (l02Code_any p k _ 0 3 3 [(ax, ay), (bx, by_), (cx, cy)] rfl (by omega) _ (by simp) ?_).mono ?_
    · intro j hj
      match j, hj with
      | 0, _ => exact ⟨by go_simp, by go_simp⟩
      | 1, _ => exact ⟨by go_simp, by go_simp⟩
      | 2, _ => exact ⟨by go_simp, by go_simp⟩
    · rintro e w1 ⟨rfl, hb⟩
      have hB : Below w.heap.size w w1 := below_of (by go_grown) hb (by simp <;> omega)
      clear hb
      go_wp2_with fail
      go_ret2
      exact ⟨ret_bi (by rw [hfin.out]) (by rw [hfin.out]), hB⟩
end Go.Proofs.Ytommkkgkfjmhdaa
