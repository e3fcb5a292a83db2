/- Contracts: SpreadAt, codes of triangles, SpreadRatio: both sides. -/
import Derived.Test.YtbjcbbnfgfmllaaO3
set_option linter.unusedVariables false
set_option linter.unusedSimpArgs false
set_option maxHeartbeats 1000000
set_option maxRecDepth 100000
namespace Go.Proofs.Ytbjcbbnfgfmllaa
open Go.RowKit
theorem SpreadAt1_any (p k ax ay bx by_ cx cy : Int) (b0 b1 b2 b3 b4 : Nat) (w : World) (c00 : w.cell? ⟨b0, 0, none⟩ = some (.int .i64 p)) (c10 : w.cell? ⟨b1, 0, none⟩ = some (.int .i64 k)) (c20 : w.cell? ⟨b2, 0, none⟩ = some (.int .i64 ax)) (c21 : w.cell? ⟨b2, 1, none⟩ = some (.int .i64 ay)) (c30 : w.cell? ⟨b3, 0, none⟩ = some (.int .i64 bx)) (c31 : w.cell? ⟨b3, 1, none⟩ = some (.int .i64 by_)) (c40 : w.cell? ⟨b4, 0, none⟩ = some (.int .i64 cx)) (c41 : w.cell? ⟨b4, 1, none⟩ = some (.int .i64 cy)) :
    Calls Try.prog 91 #[.pointer (some ⟨b1, 0, none⟩), .pointer (some ⟨b0, 0, none⟩), .pointer (some ⟨b2, 0, none⟩), .pointer (some ⟨b3, 0, none⟩), .pointer (some ⟨b4, 0, none⟩)] w fun e w' => e = .returned (.bool (Pl.colB k && Pl.ptsB p [(ax, ay), (bx, by_), (cx, cy)])) ∧ Below w.heap.size w w' := by
  cases hk : Pl.colB k with
  | false =>
    go_enter Try.func91, Try.ntmps91
    go_wp2_with (go_at_call 75; refine (isColour_any _ _).mono ?_; rintro e w' ⟨rfl, rfl⟩)
    go_ret
    exact ⟨rfl, Below.refl _ _⟩
  | true =>
    go_enter Try.func91, Try.ntmps91
    go_wp2_with (go_at_call 75; refine (isColour_any _ _).mono ?_; rintro e w' ⟨rfl, rfl⟩)
    refine (arePoints_any p _ 0 3 3 [(ax, ay), (bx, by_), (cx, cy)] rfl (by omega) _ (by simp) ?_).mono ?_
    · intro j hj
      match j, hj with
      | 0, _ => exact ⟨by go_simp, by go_simp⟩
      | 1, _ => exact ⟨by go_simp, by go_simp⟩
      | 2, _ => exact ⟨by go_simp, by go_simp⟩
    · rintro e w' ⟨rfl, hb⟩
      go_wp2_with fail
      go_ret
      exact ⟨rfl, below_of (by go_grown) hb (by simp <;> omega)⟩
theorem SpreadAt_any (p k ax ay bx by_ cx cy : Int) (w : World) :
    Calls Try.prog 23 #[.int .i64 p, .int .i64 k, .agg #[.int .i64 ax, .int .i64 ay], .agg #[.int .i64 bx, .int .i64 by_], .agg #[.int .i64 cx, .int .i64 cy]] w fun e w' => e = .returned (.tuple #[.int .i64 ((Pl.satOf p k ax ay bx by_ cx cy).1), .int .i64 ((Pl.satOf p k ax ay bx by_ cx cy).2)]) ∧ Below w.heap.size w w' := by
  by_cases h0 : Pl.ask p (Pl.colB k && Pl.ptsB p [(ax, ay), (bx, by_), (cx, cy)]) = 0
  · have hfin : Hid (Pl.satOf p k ax ay bx by_ cx cy = (if Pl.quad p k ax ay bx by_ = 0 ∨ Pl.quad p k ax ay cx cy = 0 then (0, 5) else (Pl.spreadP p k ax ay bx by_ cx cy, 0))) := by unfold Hid Pl.satOf; rw [if_pos h0]
    have hv : Hid (Pl.fieldB p = true ∧ (Pl.colB k && Pl.ptsB p [(ax, ay), (bx, by_), (cx, cy)]) = true) := Pl.ask_ok h0
    have hp := Pl.field_bd hv.out.1
    obtain ⟨hp1, hp2⟩ := hp
    have hv2 := hv.out.2
    simp only [Bool.and_eq_true] at hv2
    obtain ⟨⟨ax1, ax2, ay1, ay2⟩, ⟨bx1, bx2, by_1, by_2⟩, cx1, cx2, cy1, cy2⟩ := Pl.pts3_bd hv2.2
    clear hv2
    have hf := hv.out.1
    go_enter Try.func23, Try.ntmps23
    go_wp2_with fail
    refine (asked_any p _ _ (Pl.colB k && Pl.ptsB p [(ax, ay), (bx, by_), (cx, cy)]) _ (by kernel_rfl) ?_).mono ?_
    · intro _
      exact SpreadAt1_any p k ax ay bx by_ cx cy _ _ _ _ _ _ (by go_simp) (by go_simp) (by go_simp) (by go_simp) (by go_simp) (by go_simp) (by go_simp) (by go_simp)
    · rintro e w1 ⟨rfl, hb⟩
      have c00 : w1.cell? ⟨w.heap.size, 0, none⟩ = some (.int .i64 p) := cellOf hb (by go_simp) (by simp <;> omega)
      have c10 : w1.cell? ⟨w.heap.size + 1, 0, none⟩ = some (.int .i64 k) := cellOf hb (by go_simp) (by simp <;> omega)
      have c20 : w1.cell? ⟨w.heap.size + 2, 0, none⟩ = some (.int .i64 ax) := cellOf hb (by go_simp) (by simp <;> omega)
      have c21 : w1.cell? ⟨w.heap.size + 2, 1, none⟩ = some (.int .i64 ay) := cellOf hb (by go_simp) (by simp <;> omega)
      have c30 : w1.cell? ⟨w.heap.size + 3, 0, none⟩ = some (.int .i64 bx) := cellOf hb (by go_simp) (by simp <;> omega)
      have c31 : w1.cell? ⟨w.heap.size + 3, 1, none⟩ = some (.int .i64 by_) := cellOf hb (by go_simp) (by simp <;> omega)
      have c40 : w1.cell? ⟨w.heap.size + 4, 0, none⟩ = some (.int .i64 cx) := cellOf hb (by go_simp) (by simp <;> omega)
      have c41 : w1.cell? ⟨w.heap.size + 4, 1, none⟩ = some (.int .i64 cy) := cellOf hb (by go_simp) (by simp <;> omega)
      have hz : w.heap.size + 5 ≤ w1.heap.size := by have := hb.size; simp at this; omega
      have hB : Below w.heap.size w w1 := below_of (by go_grown) hb (by simp <;> omega)
      clear hb
      by_cases hz : Pl.quad p k ax ay bx by_ = 0 ∨ Pl.quad p k ax ay cx cy = 0
      · have hs := Pl.sat_f hz
        obtain ⟨hsb, hsv⟩ := hs
        have HZ := hid hz
        clear hz
        go_wp2_with (go_at_call 80; refine (spreadAt_any _ _ _ _ _ _ _ _ _ hf (by omega) (by omega) (by omega) (by omega) (by omega) (by omega) (by omega) (by omega) (by omega) (by omega) (by omega) (by omega)).mono ?_; rintro e w' ⟨rfl, hbn⟩; replace c00 := keepC hbn c00; replace c10 := keepC hbn c10; replace c20 := keepC hbn c20; replace c21 := keepC hbn c21; replace c30 := keepC hbn c30; replace c31 := keepC hbn c31; replace c40 := keepC hbn c40; replace c41 := keepC hbn c41; replace hB := below_of hB hbn hB.size; clear hbn)
        go_ret2
        exact ⟨ret_ii (by rw [hfin.out, if_pos HZ.out]) (by rw [hfin.out, if_pos HZ.out]), hB⟩
      · have hs := Pl.sat_t (fun e => hz (.inl e)) (fun e => hz (.inr e))
        obtain ⟨hsb, hsv⟩ := hs
        have HZ := hid hz
        clear hz
        go_wp2_with (go_at_call 80; refine (spreadAt_any _ _ _ _ _ _ _ _ _ hf (by omega) (by omega) (by omega) (by omega) (by omega) (by omega) (by omega) (by omega) (by omega) (by omega) (by omega) (by omega)).mono ?_; rintro e w' ⟨rfl, hbn⟩; replace c00 := keepC hbn c00; replace c10 := keepC hbn c10; replace c20 := keepC hbn c20; replace c21 := keepC hbn c21; replace c30 := keepC hbn c30; replace c31 := keepC hbn c31; replace c40 := keepC hbn c40; replace c41 := keepC hbn c41; replace hB := below_of hB hbn hB.size; clear hbn)
        go_ret2
        exact ⟨ret_ii (by rw [hfin.out, if_neg HZ.out]) (by rw [hfin.out, if_neg HZ.out]), hB⟩
  · have hne : (Pl.ask p (Pl.colB k && Pl.ptsB p [(ax, ay), (bx, by_), (cx, cy)]) != 0) = true := by simpa using h0
    have hne2 : (Pl.ask p (Pl.colB k && Pl.ptsB p [(ax, ay), (bx, by_), (cx, cy)]) == 0) = false := by simpa using h0
    have hfin : Hid (Pl.satOf p k ax ay bx by_ cx cy = (0, Pl.ask p (Pl.colB k && Pl.ptsB p [(ax, ay), (bx, by_), (cx, cy)]))) := by unfold Hid Pl.satOf; rw [if_neg h0]
    clear h0
    go_enter Try.func23, Try.ntmps23
    go_wp2_with fail
    refine (asked_any p _ _ (Pl.colB k && Pl.ptsB p [(ax, ay), (bx, by_), (cx, cy)]) _ (by kernel_rfl) ?_).mono ?_
    · intro _
      exact SpreadAt1_any p k ax ay bx by_ cx cy _ _ _ _ _ _ (by go_simp) (by go_simp) (by go_simp) (by go_simp) (by go_simp) (by go_simp) (by go_simp) (by go_simp)
    · rintro e w1 ⟨rfl, hb⟩
      have hB : Below w.heap.size w w1 := below_of (by go_grown) hb (by simp <;> omega)
      clear hb
      go_wp2_with fail
      go_ret2
      exact ⟨ret_ii (by rw [hfin.out]) (by rw [hfin.out]), hB⟩
theorem sSpreadAt_any (p k ax ay bx by_ cx cy : Int) (w : World) :
    Calls Try.prog 30 #[.int .i64 p, .int .i64 k, .agg #[.int .i64 ax, .int .i64 ay], .agg #[.int .i64 bx, .int .i64 by_], .agg #[.int .i64 cx, .int .i64 cy]] w fun e w' => e = .returned (.tuple #[.int .i64 ((Pl.satOf p k ax ay bx by_ cx cy).1), .int .i64 ((Pl.satOf p k ax ay bx by_ cx cy).2)]) ∧ Below w.heap.size w w' := by
  by_cases h0 : Pl.ask p (Pl.colB k && Pl.ptsB p [(ax, ay), (bx, by_), (cx, cy)]) = 0
  · have hfin : Hid (Pl.satOf p k ax ay bx by_ cx cy = (if Pl.quad p k ax ay bx by_ = 0 ∨ Pl.quad p k ax ay cx cy = 0 then (0, 5) else (Pl.spreadP p k ax ay bx by_ cx cy, 0))) := by unfold Hid Pl.satOf; rw [if_pos h0]
    have hv : Hid (Pl.fieldB p = true ∧ (Pl.colB k && Pl.ptsB p [(ax, ay), (bx, by_), (cx, cy)]) = true) := Pl.ask_ok h0
    have hp := Pl.field_bd hv.out.1
    obtain ⟨hp1, hp2⟩ := hp
    have hv2 := hv.out.2
    simp only [Bool.and_eq_true] at hv2
    obtain ⟨⟨ax1, ax2, ay1, ay2⟩, ⟨bx1, bx2, by_1, by_2⟩, cx1, cx2, cy1, cy2⟩ := Pl.pts3_bd hv2.2
    clear hv2
    have hf := hv.out.1
    go_enter Try.func30, Try.ntmps30
    go_wp2_with fail
    refine (l03Points_any p k _ 0 3 3 [(ax, ay), (bx, by_), (cx, cy)] rfl (by omega) _ (by simp) ?_).mono ?_
    · intro j hj
      match j, hj with
      | 0, _ => exact ⟨by go_simp, by go_simp⟩
      | 1, _ => exact ⟨by go_simp, by go_simp⟩
      | 2, _ => exact ⟨by go_simp, by go_simp⟩
    · rintro e w1 ⟨rfl, hb⟩
      have c00 : w1.cell? ⟨w.heap.size, 0, none⟩ = some (.int .i64 ax) := keepC hb (by go_simp)
      have c01 : w1.cell? ⟨w.heap.size, 1, none⟩ = some (.int .i64 ay) := keepC hb (by go_simp)
      have c10 : w1.cell? ⟨w.heap.size + 1, 0, none⟩ = some (.int .i64 bx) := keepC hb (by go_simp)
      have c11 : w1.cell? ⟨w.heap.size + 1, 1, none⟩ = some (.int .i64 by_) := keepC hb (by go_simp)
      have c20 : w1.cell? ⟨w.heap.size + 1 + 1, 0, none⟩ = some (.int .i64 cx) := keepC hb (by go_simp)
      have c21 : w1.cell? ⟨w.heap.size + 1 + 1, 1, none⟩ = some (.int .i64 cy) := keepC hb (by go_simp)
      have hB : Below w.heap.size w w1 := below_of (by go_grown) hb (by simp <;> omega)
      clear hb
      by_cases z0 : Pl.quad p k ax ay bx by_ = 0
      · have f0 : (Pl.quad p k ax ay bx by_ == 0) = true := by simpa using z0
        have HZ := hid (show Pl.quad p k ax ay bx by_ = 0 ∨ Pl.quad p k ax ay cx cy = 0 from .inl z0)
        clear z0
        go_wp2_with (first | (go_at_call 84; refine (l02Quadrance_any _ _ _ _ _ _ _ (by omega) (by omega) (by omega) (by omega) (by omega) (by omega) (by omega) (by omega) (by omega) (by omega)).mono ?_; rintro e w' ⟨rfl, hbn⟩; replace c00 := keepC hbn c00; replace c01 := keepC hbn c01; replace c10 := keepC hbn c10; replace c11 := keepC hbn c11; replace c20 := keepC hbn c20; replace c21 := keepC hbn c21; replace hB := below_of hB hbn hB.size; clear hbn) | (go_at_call 82; refine (l03At_any _ _ _ _ _ _ _ _ _ hf (by omega) (by omega) (by omega) (by omega) (by omega) (by omega) (by omega) (by omega) (by omega) (by omega) (by omega) (by omega)).mono ?_; rintro e w' ⟨rfl, hbn⟩; replace c00 := keepC hbn c00; replace c01 := keepC hbn c01; replace c10 := keepC hbn c10; replace c11 := keepC hbn c11; replace c20 := keepC hbn c20; replace c21 := keepC hbn c21; replace hB := below_of hB hbn hB.size; clear hbn))
        go_ret2
        exact ⟨ret_ii (by rw [hfin.out, if_pos HZ.out]) (by rw [hfin.out, if_pos HZ.out]), hB⟩
      · have f0 : (Pl.quad p k ax ay bx by_ == 0) = false := by simpa using z0
        by_cases z1 : Pl.quad p k ax ay cx cy = 0
        · have f1 : (Pl.quad p k ax ay cx cy == 0) = true := by simpa using z1
          have HZ := hid (show Pl.quad p k ax ay bx by_ = 0 ∨ Pl.quad p k ax ay cx cy = 0 from .inr (z1))
          clear z0 z1
          go_wp2_with (first | (go_at_call 84; refine (l02Quadrance_any _ _ _ _ _ _ _ (by omega) (by omega) (by omega) (by omega) (by omega) (by omega) (by omega) (by omega) (by omega) (by omega)).mono ?_; rintro e w' ⟨rfl, hbn⟩; replace c00 := keepC hbn c00; replace c01 := keepC hbn c01; replace c10 := keepC hbn c10; replace c11 := keepC hbn c11; replace c20 := keepC hbn c20; replace c21 := keepC hbn c21; replace hB := below_of hB hbn hB.size; clear hbn) | (go_at_call 82; refine (l03At_any _ _ _ _ _ _ _ _ _ hf (by omega) (by omega) (by omega) (by omega) (by omega) (by omega) (by omega) (by omega) (by omega) (by omega) (by omega) (by omega)).mono ?_; rintro e w' ⟨rfl, hbn⟩; replace c00 := keepC hbn c00; replace c01 := keepC hbn c01; replace c10 := keepC hbn c10; replace c11 := keepC hbn c11; replace c20 := keepC hbn c20; replace c21 := keepC hbn c21; replace hB := below_of hB hbn hB.size; clear hbn))
          go_ret2
          exact ⟨ret_ii (by rw [hfin.out, if_pos HZ.out]) (by rw [hfin.out, if_pos HZ.out]), hB⟩
        · have f1 : (Pl.quad p k ax ay cx cy == 0) = false := by simpa using z1
          have HZ := hid (show ¬ (Pl.quad p k ax ay bx by_ = 0 ∨ Pl.quad p k ax ay cx cy = 0) from fun h => by rcases h with h | h <;> omega)
          clear z0 z1
          go_wp2_with (first | (go_at_call 84; refine (l02Quadrance_any _ _ _ _ _ _ _ (by omega) (by omega) (by omega) (by omega) (by omega) (by omega) (by omega) (by omega) (by omega) (by omega)).mono ?_; rintro e w' ⟨rfl, hbn⟩; replace c00 := keepC hbn c00; replace c01 := keepC hbn c01; replace c10 := keepC hbn c10; replace c11 := keepC hbn c11; replace c20 := keepC hbn c20; replace c21 := keepC hbn c21; replace hB := below_of hB hbn hB.size; clear hbn) | (go_at_call 82; refine (l03At_any _ _ _ _ _ _ _ _ _ hf (by omega) (by omega) (by omega) (by omega) (by omega) (by omega) (by omega) (by omega) (by omega) (by omega) (by omega) (by omega)).mono ?_; rintro e w' ⟨rfl, hbn⟩; replace c00 := keepC hbn c00; replace c01 := keepC hbn c01; replace c10 := keepC hbn c10; replace c11 := keepC hbn c11; replace c20 := keepC hbn c20; replace c21 := keepC hbn c21; replace hB := below_of hB hbn hB.size; clear hbn))
          go_ret2
          exact ⟨ret_ii (by rw [hfin.out, if_neg HZ.out]) (by rw [hfin.out, if_neg HZ.out]), hB⟩
  · have hne : (Pl.ask p (Pl.colB k && Pl.ptsB p [(ax, ay), (bx, by_), (cx, cy)]) != 0) = true := by simpa using h0
    have hne2 : (Pl.ask p (Pl.colB k && Pl.ptsB p [(ax, ay), (bx, by_), (cx, cy)]) == 0) = false := by simpa using h0
    have hfin : Hid (Pl.satOf p k ax ay bx by_ cx cy = (0, Pl.ask p (Pl.colB k && Pl.ptsB p [(ax, ay), (bx, by_), (cx, cy)]))) := by unfold Hid Pl.satOf; rw [if_neg h0]
    clear h0
    go_enter Try.func30, Try.ntmps30
    go_wp2_with fail
    refine (l03Points_any p k _ 0 3 3 [(ax, ay), (bx, by_), (cx, cy)] rfl (by omega) _ (by simp) ?_).mono ?_
    · intro j hj
      match j, hj with
      | 0, _ => exact ⟨by go_simp, by go_simp⟩
      | 1, _ => exact ⟨by go_simp, by go_simp⟩
      | 2, _ => exact ⟨by go_simp, by go_simp⟩
    · rintro e w1 ⟨rfl, hb⟩
      have hB : Below w.heap.size w w1 := below_of (by go_grown) hb (by simp <;> omega)
      clear hb
      go_wp2_with fail
      go_ret2
      exact ⟨ret_ii (by rw [hfin.out]) (by rw [hfin.out]), hB⟩
theorem spreadTriangle1_any (p k ax ay bx by_ cx cy : Int) (b0 b1 b2 b3 b4 : Nat) (w : World) (c00 : w.cell? ⟨b0, 0, none⟩ = some (.int .i64 p)) (c10 : w.cell? ⟨b1, 0, none⟩ = some (.int .i64 k)) (c20 : w.cell? ⟨b2, 0, none⟩ = some (.int .i64 ax)) (c21 : w.cell? ⟨b2, 1, none⟩ = some (.int .i64 ay)) (c30 : w.cell? ⟨b3, 0, none⟩ = some (.int .i64 bx)) (c31 : w.cell? ⟨b3, 1, none⟩ = some (.int .i64 by_)) (c40 : w.cell? ⟨b4, 0, none⟩ = some (.int .i64 cx)) (c41 : w.cell? ⟨b4, 1, none⟩ = some (.int .i64 cy)) :
    Calls Try.prog 153 #[.pointer (some ⟨b1, 0, none⟩), .pointer (some ⟨b0, 0, none⟩), .pointer (some ⟨b2, 0, none⟩), .pointer (some ⟨b3, 0, none⟩), .pointer (some ⟨b4, 0, none⟩)] w fun e w' => e = .returned (.bool (Pl.colB k && Pl.ptsB p [(ax, ay), (bx, by_), (cx, cy)])) ∧ Below w.heap.size w w' := by
  cases hk : Pl.colB k with
  | false =>
    go_enter Try.func153, Try.ntmps153
    go_wp2_with (go_at_call 75; refine (isColour_any _ _).mono ?_; rintro e w' ⟨rfl, rfl⟩)
    go_ret
    exact ⟨rfl, Below.refl _ _⟩
  | true =>
    go_enter Try.func153, Try.ntmps153
    go_wp2_with (go_at_call 75; refine (isColour_any _ _).mono ?_; rintro e w' ⟨rfl, rfl⟩)
    refine (arePoints_any p _ 0 3 3 [(ax, ay), (bx, by_), (cx, cy)] rfl (by omega) _ (by simp) ?_).mono ?_
    · intro j hj
      match j, hj with
      | 0, _ => exact ⟨by go_simp, by go_simp⟩
      | 1, _ => exact ⟨by go_simp, by go_simp⟩
      | 2, _ => exact ⟨by go_simp, by go_simp⟩
    · rintro e w' ⟨rfl, hb⟩
      go_wp2_with fail
      go_ret
      exact ⟨rfl, below_of (by go_grown) hb (by simp <;> omega)⟩
theorem spreadTriangle_any (p k ax ay bx by_ cx cy : Int) (w : World) :
    Calls Try.prog 79 #[.int .i64 p, .int .i64 k, .agg #[.int .i64 ax, .int .i64 ay], .agg #[.int .i64 bx, .int .i64 by_], .agg #[.int .i64 cx, .int .i64 cy]] w fun e w' => e = .returned (.int .i64 (Pl.triC p k ax ay bx by_ cx cy)) ∧ Below w.heap.size w w' := by
  by_cases h0 : Pl.ask p (Pl.colB k && Pl.ptsB p [(ax, ay), (bx, by_), (cx, cy)]) = 0
  · have hv : Hid (Pl.fieldB p = true ∧ (Pl.colB k && Pl.ptsB p [(ax, ay), (bx, by_), (cx, cy)]) = true) := Pl.ask_ok h0
    have hp := Pl.field_bd hv.out.1
    obtain ⟨hp1, hp2⟩ := hp
    have hv2 := hv.out.2
    simp only [Bool.and_eq_true] at hv2
    obtain ⟨⟨ax1, ax2, ay1, ay2⟩, ⟨bx1, bx2, by_1, by_2⟩, cx1, cx2, cy1, cy2⟩ := Pl.pts3_bd hv2.2
    clear hv2
    have hf := hv.out.1
    have hfin : Hid (Pl.triC p k ax ay bx by_ cx cy = if Pl.area p ax ay bx by_ cx cy = 0 ∨ Pl.quad p k ax ay bx by_ = 0 ∨ Pl.quad p k ax ay cx cy = 0 ∨ Pl.quad p k bx by_ cx cy = 0 then 5 else 0) := by unfold Hid Pl.triC; rw [if_pos h0]
    by_cases z0 : Pl.area p ax ay bx by_ cx cy = 0
    · have f0 : (Pl.area p ax ay bx by_ cx cy == 0) = true := by simpa using z0
      have HZ := hid (show Pl.area p ax ay bx by_ cx cy = 0 ∨ Pl.quad p k ax ay bx by_ = 0 ∨ Pl.quad p k ax ay cx cy = 0 ∨ Pl.quad p k bx by_ cx cy = 0 from .inl z0)
      clear z0
      go_enter Try.func79, Try.ntmps79
      go_wp2_with fail
      refine (asked_any p _ _ (Pl.colB k && Pl.ptsB p [(ax, ay), (bx, by_), (cx, cy)]) _ (by kernel_rfl) ?_).mono ?_
      · intro _
        exact spreadTriangle1_any p k ax ay bx by_ cx cy _ _ _ _ _ _ (by go_simp) (by go_simp) (by go_simp) (by go_simp) (by go_simp) (by go_simp) (by go_simp) (by go_simp)
      · rintro e w1 ⟨rfl, hb⟩
        have c00 : w1.cell? ⟨w.heap.size, 0, none⟩ = some (.int .i64 p) := keepC hb (by go_simp)
        have c10 : w1.cell? ⟨w.heap.size + 1, 0, none⟩ = some (.int .i64 k) := keepC hb (by go_simp)
        have c20 : w1.cell? ⟨w.heap.size + 1 + 1, 0, none⟩ = some (.int .i64 ax) := keepC hb (by go_simp)
        have c21 : w1.cell? ⟨w.heap.size + 1 + 1, 1, none⟩ = some (.int .i64 ay) := keepC hb (by go_simp)
        have c30 : w1.cell? ⟨w.heap.size + 1 + 1 + 1, 0, none⟩ = some (.int .i64 bx) := keepC hb (by go_simp)
        have c31 : w1.cell? ⟨w.heap.size + 1 + 1 + 1, 1, none⟩ = some (.int .i64 by_) := keepC hb (by go_simp)
        have c40 : w1.cell? ⟨w.heap.size + 1 + 1 + 1 + 1, 0, none⟩ = some (.int .i64 cx) := keepC hb (by go_simp)
        have c41 : w1.cell? ⟨w.heap.size + 1 + 1 + 1 + 1, 1, none⟩ = some (.int .i64 cy) := keepC hb (by go_simp)
        have hB : Below w.heap.size w w1 := below_of (by go_grown) hb (by simp <;> omega)
        clear hb
        go_wp2_with (first | (go_at_call 154; refine (area_any _ _ _ _ _ _ _ _ (by omega) (by omega) (by omega) (by omega) (by omega) (by omega) (by omega) (by omega) (by omega) (by omega) (by omega) (by omega) (by omega) (by omega)).mono ?_; rintro e w' ⟨rfl, hbn⟩; replace c00 := keepC hbn c00; replace c10 := keepC hbn c10; replace c20 := keepC hbn c20; replace c21 := keepC hbn c21; replace c30 := keepC hbn c30; replace c31 := keepC hbn c31; replace c40 := keepC hbn c40; replace c41 := keepC hbn c41; replace hB := below_of hB hbn hB.size; clear hbn) | (go_at_call 83; refine (quadrance_any _ _ _ _ _ _ _ (by omega) (by omega) (by omega) (by omega) (by omega) (by omega) (by omega) (by omega) (by omega) (by omega)).mono ?_; rintro e w' ⟨rfl, hbn⟩; replace c00 := keepC hbn c00; replace c10 := keepC hbn c10; replace c20 := keepC hbn c20; replace c21 := keepC hbn c21; replace c30 := keepC hbn c30; replace c31 := keepC hbn c31; replace c40 := keepC hbn c40; replace c41 := keepC hbn c41; replace hB := below_of hB hbn hB.size; clear hbn))
        go_ret
        exact ⟨ret_int (by rw [hfin.out, if_pos HZ.out]), hB⟩
    · have f0 : (Pl.area p ax ay bx by_ cx cy == 0) = false := by simpa using z0
      by_cases z1 : Pl.quad p k ax ay bx by_ = 0
      · have f1 : (Pl.quad p k ax ay bx by_ == 0) = true := by simpa using z1
        have HZ := hid (show Pl.area p ax ay bx by_ cx cy = 0 ∨ Pl.quad p k ax ay bx by_ = 0 ∨ Pl.quad p k ax ay cx cy = 0 ∨ Pl.quad p k bx by_ cx cy = 0 from .inr (.inl z1))
        clear z0 z1
        go_enter Try.func79, Try.ntmps79
        go_wp2_with fail
        refine (asked_any p _ _ (Pl.colB k && Pl.ptsB p [(ax, ay), (bx, by_), (cx, cy)]) _ (by kernel_rfl) ?_).mono ?_
        · intro _
          exact spreadTriangle1_any p k ax ay bx by_ cx cy _ _ _ _ _ _ (by go_simp) (by go_simp) (by go_simp) (by go_simp) (by go_simp) (by go_simp) (by go_simp) (by go_simp)
        · rintro e w1 ⟨rfl, hb⟩
          have c00 : w1.cell? ⟨w.heap.size, 0, none⟩ = some (.int .i64 p) := keepC hb (by go_simp)
          have c10 : w1.cell? ⟨w.heap.size + 1, 0, none⟩ = some (.int .i64 k) := keepC hb (by go_simp)
          have c20 : w1.cell? ⟨w.heap.size + 1 + 1, 0, none⟩ = some (.int .i64 ax) := keepC hb (by go_simp)
          have c21 : w1.cell? ⟨w.heap.size + 1 + 1, 1, none⟩ = some (.int .i64 ay) := keepC hb (by go_simp)
          have c30 : w1.cell? ⟨w.heap.size + 1 + 1 + 1, 0, none⟩ = some (.int .i64 bx) := keepC hb (by go_simp)
          have c31 : w1.cell? ⟨w.heap.size + 1 + 1 + 1, 1, none⟩ = some (.int .i64 by_) := keepC hb (by go_simp)
          have c40 : w1.cell? ⟨w.heap.size + 1 + 1 + 1 + 1, 0, none⟩ = some (.int .i64 cx) := keepC hb (by go_simp)
          have c41 : w1.cell? ⟨w.heap.size + 1 + 1 + 1 + 1, 1, none⟩ = some (.int .i64 cy) := keepC hb (by go_simp)
          have hB : Below w.heap.size w w1 := below_of (by go_grown) hb (by simp <;> omega)
          clear hb
          go_wp2_with (first | (go_at_call 154; refine (area_any _ _ _ _ _ _ _ _ (by omega) (by omega) (by omega) (by omega) (by omega) (by omega) (by omega) (by omega) (by omega) (by omega) (by omega) (by omega) (by omega) (by omega)).mono ?_; rintro e w' ⟨rfl, hbn⟩; replace c00 := keepC hbn c00; replace c10 := keepC hbn c10; replace c20 := keepC hbn c20; replace c21 := keepC hbn c21; replace c30 := keepC hbn c30; replace c31 := keepC hbn c31; replace c40 := keepC hbn c40; replace c41 := keepC hbn c41; replace hB := below_of hB hbn hB.size; clear hbn) | (go_at_call 83; refine (quadrance_any _ _ _ _ _ _ _ (by omega) (by omega) (by omega) (by omega) (by omega) (by omega) (by omega) (by omega) (by omega) (by omega)).mono ?_; rintro e w' ⟨rfl, hbn⟩; replace c00 := keepC hbn c00; replace c10 := keepC hbn c10; replace c20 := keepC hbn c20; replace c21 := keepC hbn c21; replace c30 := keepC hbn c30; replace c31 := keepC hbn c31; replace c40 := keepC hbn c40; replace c41 := keepC hbn c41; replace hB := below_of hB hbn hB.size; clear hbn))
          go_ret
          exact ⟨ret_int (by rw [hfin.out, if_pos HZ.out]), hB⟩
      · have f1 : (Pl.quad p k ax ay bx by_ == 0) = false := by simpa using z1
        by_cases z2 : Pl.quad p k ax ay cx cy = 0
        · have f2 : (Pl.quad p k ax ay cx cy == 0) = true := by simpa using z2
          have HZ := hid (show Pl.area p ax ay bx by_ cx cy = 0 ∨ Pl.quad p k ax ay bx by_ = 0 ∨ Pl.quad p k ax ay cx cy = 0 ∨ Pl.quad p k bx by_ cx cy = 0 from .inr (.inr (.inl z2)))
          clear z0 z1 z2
          go_enter Try.func79, Try.ntmps79
          go_wp2_with fail
          refine (asked_any p _ _ (Pl.colB k && Pl.ptsB p [(ax, ay), (bx, by_), (cx, cy)]) _ (by kernel_rfl) ?_).mono ?_
          · intro _
            exact spreadTriangle1_any p k ax ay bx by_ cx cy _ _ _ _ _ _ (by go_simp) (by go_simp) (by go_simp) (by go_simp) (by go_simp) (by go_simp) (by go_simp) (by go_simp)
          · rintro e w1 ⟨rfl, hb⟩
            have c00 : w1.cell? ⟨w.heap.size, 0, none⟩ = some (.int .i64 p) := keepC hb (by go_simp)
            have c10 : w1.cell? ⟨w.heap.size + 1, 0, none⟩ = some (.int .i64 k) := keepC hb (by go_simp)
            have c20 : w1.cell? ⟨w.heap.size + 1 + 1, 0, none⟩ = some (.int .i64 ax) := keepC hb (by go_simp)
            have c21 : w1.cell? ⟨w.heap.size + 1 + 1, 1, none⟩ = some (.int .i64 ay) := keepC hb (by go_simp)
            have c30 : w1.cell? ⟨w.heap.size + 1 + 1 + 1, 0, none⟩ = some (.int .i64 bx) := keepC hb (by go_simp)
            have c31 : w1.cell? ⟨w.heap.size + 1 + 1 + 1, 1, none⟩ = some (.int .i64 by_) := keepC hb (by go_simp)
            have c40 : w1.cell? ⟨w.heap.size + 1 + 1 + 1 + 1, 0, none⟩ = some (.int .i64 cx) := keepC hb (by go_simp)
            have c41 : w1.cell? ⟨w.heap.size + 1 + 1 + 1 + 1, 1, none⟩ = some (.int .i64 cy) := keepC hb (by go_simp)
            have hB : Below w.heap.size w w1 := below_of (by go_grown) hb (by simp <;> omega)
            clear hb
            go_wp2_with (first | (go_at_call 154; refine (area_any _ _ _ _ _ _ _ _ (by omega) (by omega) (by omega) (by omega) (by omega) (by omega) (by omega) (by omega) (by omega) (by omega) (by omega) (by omega) (by omega) (by omega)).mono ?_; rintro e w' ⟨rfl, hbn⟩; replace c00 := keepC hbn c00; replace c10 := keepC hbn c10; replace c20 := keepC hbn c20; replace c21 := keepC hbn c21; replace c30 := keepC hbn c30; replace c31 := keepC hbn c31; replace c40 := keepC hbn c40; replace c41 := keepC hbn c41; replace hB := below_of hB hbn hB.size; clear hbn) | (go_at_call 83; refine (quadrance_any _ _ _ _ _ _ _ (by omega) (by omega) (by omega) (by omega) (by omega) (by omega) (by omega) (by omega) (by omega) (by omega)).mono ?_; rintro e w' ⟨rfl, hbn⟩; replace c00 := keepC hbn c00; replace c10 := keepC hbn c10; replace c20 := keepC hbn c20; replace c21 := keepC hbn c21; replace c30 := keepC hbn c30; replace c31 := keepC hbn c31; replace c40 := keepC hbn c40; replace c41 := keepC hbn c41; replace hB := below_of hB hbn hB.size; clear hbn))
            go_ret
            exact ⟨ret_int (by rw [hfin.out, if_pos HZ.out]), hB⟩
        · have f2 : (Pl.quad p k ax ay cx cy == 0) = false := by simpa using z2
          by_cases z3 : Pl.quad p k bx by_ cx cy = 0
          · have f3 : (Pl.quad p k bx by_ cx cy == 0) = true := by simpa using z3
            have HZ := hid (show Pl.area p ax ay bx by_ cx cy = 0 ∨ Pl.quad p k ax ay bx by_ = 0 ∨ Pl.quad p k ax ay cx cy = 0 ∨ Pl.quad p k bx by_ cx cy = 0 from .inr (.inr (.inr (z3))))
            clear z0 z1 z2 z3
            go_enter Try.func79, Try.ntmps79
            go_wp2_with fail
            refine (asked_any p _ _ (Pl.colB k && Pl.ptsB p [(ax, ay), (bx, by_), (cx, cy)]) _ (by kernel_rfl) ?_).mono ?_
            · intro _
              exact spreadTriangle1_any p k ax ay bx by_ cx cy _ _ _ _ _ _ (by go_simp) (by go_simp) (by go_simp) (by go_simp) (by go_simp) (by go_simp) (by go_simp) (by go_simp)
            · rintro e w1 ⟨rfl, hb⟩
              have c00 : w1.cell? ⟨w.heap.size, 0, none⟩ = some (.int .i64 p) := keepC hb (by go_simp)
              have c10 : w1.cell? ⟨w.heap.size + 1, 0, none⟩ = some (.int .i64 k) := keepC hb (by go_simp)
              have c20 : w1.cell? ⟨w.heap.size + 1 + 1, 0, none⟩ = some (.int .i64 ax) := keepC hb (by go_simp)
              have c21 : w1.cell? ⟨w.heap.size + 1 + 1, 1, none⟩ = some (.int .i64 ay) := keepC hb (by go_simp)
              have c30 : w1.cell? ⟨w.heap.size + 1 + 1 + 1, 0, none⟩ = some (.int .i64 bx) := keepC hb (by go_simp)
              have c31 : w1.cell? ⟨w.heap.size + 1 + 1 + 1, 1, none⟩ = some (.int .i64 by_) := keepC hb (by go_simp)
              have c40 : w1.cell? ⟨w.heap.size + 1 + 1 + 1 + 1, 0, none⟩ = some (.int .i64 cx) := keepC hb (by go_simp)
              have c41 : w1.cell? ⟨w.heap.size + 1 + 1 + 1 + 1, 1, none⟩ = some (.int .i64 cy) := keepC hb (by go_simp)
              have hB : Below w.heap.size w w1 := below_of (by go_grown) hb (by simp <;> omega)
              clear hb
              go_wp2_with (first | (go_at_call 154; refine (area_any _ _ _ _ _ _ _ _ (by omega) (by omega) (by omega) (by omega) (by omega) (by omega) (by omega) (by omega) (by omega) (by omega) (by omega) (by omega) (by omega) (by omega)).mono ?_; rintro e w' ⟨rfl, hbn⟩; replace c00 := keepC hbn c00; replace c10 := keepC hbn c10; replace c20 := keepC hbn c20; replace c21 := keepC hbn c21; replace c30 := keepC hbn c30; replace c31 := keepC hbn c31; replace c40 := keepC hbn c40; replace c41 := keepC hbn c41; replace hB := below_of hB hbn hB.size; clear hbn) | (go_at_call 83; refine (quadrance_any _ _ _ _ _ _ _ (by omega) (by omega) (by omega) (by omega) (by omega) (by omega) (by omega) (by omega) (by omega) (by omega)).mono ?_; rintro e w' ⟨rfl, hbn⟩; replace c00 := keepC hbn c00; replace c10 := keepC hbn c10; replace c20 := keepC hbn c20; replace c21 := keepC hbn c21; replace c30 := keepC hbn c30; replace c31 := keepC hbn c31; replace c40 := keepC hbn c40; replace c41 := keepC hbn c41; replace hB := below_of hB hbn hB.size; clear hbn))
              go_ret
              exact ⟨ret_int (by rw [hfin.out, if_pos HZ.out]), hB⟩
          · have f3 : (Pl.quad p k bx by_ cx cy == 0) = false := by simpa using z3
            have HZ := hid (show ¬ (Pl.area p ax ay bx by_ cx cy = 0 ∨ Pl.quad p k ax ay bx by_ = 0 ∨ Pl.quad p k ax ay cx cy = 0 ∨ Pl.quad p k bx by_ cx cy = 0) from fun h => by rcases h with h | h | h | h <;> omega)
            clear z0 z1 z2 z3
            go_enter Try.func79, Try.ntmps79
            go_wp2_with fail
            refine (asked_any p _ _ (Pl.colB k && Pl.ptsB p [(ax, ay), (bx, by_), (cx, cy)]) _ (by kernel_rfl) ?_).mono ?_
            · intro _
              exact spreadTriangle1_any p k ax ay bx by_ cx cy _ _ _ _ _ _ (by go_simp) (by go_simp) (by go_simp) (by go_simp) (by go_simp) (by go_simp) (by go_simp) (by go_simp)
            · rintro e w1 ⟨rfl, hb⟩
              have c00 : w1.cell? ⟨w.heap.size, 0, none⟩ = some (.int .i64 p) := keepC hb (by go_simp)
              have c10 : w1.cell? ⟨w.heap.size + 1, 0, none⟩ = some (.int .i64 k) := keepC hb (by go_simp)
              have c20 : w1.cell? ⟨w.heap.size + 1 + 1, 0, none⟩ = some (.int .i64 ax) := keepC hb (by go_simp)
              have c21 : w1.cell? ⟨w.heap.size + 1 + 1, 1, none⟩ = some (.int .i64 ay) := keepC hb (by go_simp)
              have c30 : w1.cell? ⟨w.heap.size + 1 + 1 + 1, 0, none⟩ = some (.int .i64 bx) := keepC hb (by go_simp)
              have c31 : w1.cell? ⟨w.heap.size + 1 + 1 + 1, 1, none⟩ = some (.int .i64 by_) := keepC hb (by go_simp)
              have c40 : w1.cell? ⟨w.heap.size + 1 + 1 + 1 + 1, 0, none⟩ = some (.int .i64 cx) := keepC hb (by go_simp)
              have c41 : w1.cell? ⟨w.heap.size + 1 + 1 + 1 + 1, 1, none⟩ = some (.int .i64 cy) := keepC hb (by go_simp)
              have hB : Below w.heap.size w w1 := below_of (by go_grown) hb (by simp <;> omega)
              clear hb
              go_wp2_with (first | (go_at_call 154; refine (area_any _ _ _ _ _ _ _ _ (by omega) (by omega) (by omega) (by omega) (by omega) (by omega) (by omega) (by omega) (by omega) (by omega) (by omega) (by omega) (by omega) (by omega)).mono ?_; rintro e w' ⟨rfl, hbn⟩; replace c00 := keepC hbn c00; replace c10 := keepC hbn c10; replace c20 := keepC hbn c20; replace c21 := keepC hbn c21; replace c30 := keepC hbn c30; replace c31 := keepC hbn c31; replace c40 := keepC hbn c40; replace c41 := keepC hbn c41; replace hB := below_of hB hbn hB.size; clear hbn) | (go_at_call 83; refine (quadrance_any _ _ _ _ _ _ _ (by omega) (by omega) (by omega) (by omega) (by omega) (by omega) (by omega) (by omega) (by omega) (by omega)).mono ?_; rintro e w' ⟨rfl, hbn⟩; replace c00 := keepC hbn c00; replace c10 := keepC hbn c10; replace c20 := keepC hbn c20; replace c21 := keepC hbn c21; replace c30 := keepC hbn c30; replace c31 := keepC hbn c31; replace c40 := keepC hbn c40; replace c41 := keepC hbn c41; replace hB := below_of hB hbn hB.size; clear hbn))
              go_ret
              exact ⟨ret_int (by rw [hfin.out, if_neg HZ.out]), hB⟩
  · have hne : (Pl.ask p (Pl.colB k && Pl.ptsB p [(ax, ay), (bx, by_), (cx, cy)]) != 0) = true := by simpa using h0
    have hne2 : (Pl.ask p (Pl.colB k && Pl.ptsB p [(ax, ay), (bx, by_), (cx, cy)]) == 0) = false := by simpa using h0
    have hfin : Hid (Pl.triC p k ax ay bx by_ cx cy = Pl.ask p (Pl.colB k && Pl.ptsB p [(ax, ay), (bx, by_), (cx, cy)])) := by unfold Hid Pl.triC; rw [if_neg h0]
    clear h0
    go_enter Try.func79, Try.ntmps79
    go_wp2_with fail
    refine (asked_any p _ _ (Pl.colB k && Pl.ptsB p [(ax, ay), (bx, by_), (cx, cy)]) _ (by kernel_rfl) ?_).mono ?_
    · intro _
      exact spreadTriangle1_any p k ax ay bx by_ cx cy _ _ _ _ _ _ (by go_simp) (by go_simp) (by go_simp) (by go_simp) (by go_simp) (by go_simp) (by go_simp) (by go_simp)
    · rintro e w1 ⟨rfl, hb⟩
      have hB : Below w.heap.size w w1 := below_of (by go_grown) hb (by simp <;> omega)
      clear hb
      go_wp2_with fail
      go_ret
      exact ⟨ret_int (by rw [hfin.out]), hB⟩
theorem l03Triangle_any (p k ax ay bx by_ cx cy : Int) (w : World) :
    Calls Try.prog 81 #[.int .i64 p, .int .i64 k, .agg #[.int .i64 ax, .int .i64 ay], .agg #[.int .i64 bx, .int .i64 by_], .agg #[.int .i64 cx, .int .i64 cy]] w fun e w' => e = .returned (.int .i64 (Pl.triC p k ax ay bx by_ cx cy)) ∧ Below w.heap.size w w' := by
  by_cases h0 : Pl.ask p (Pl.colB k && Pl.ptsB p [(ax, ay), (bx, by_), (cx, cy)]) = 0
  · have hv : Hid (Pl.fieldB p = true ∧ (Pl.colB k && Pl.ptsB p [(ax, ay), (bx, by_), (cx, cy)]) = true) := Pl.ask_ok h0
    have hp := Pl.field_bd hv.out.1
    obtain ⟨hp1, hp2⟩ := hp
    have hv2 := hv.out.2
    simp only [Bool.and_eq_true] at hv2
    obtain ⟨⟨ax1, ax2, ay1, ay2⟩, ⟨bx1, bx2, by_1, by_2⟩, cx1, cx2, cy1, cy2⟩ := Pl.pts3_bd hv2.2
    clear hv2
    have hf := hv.out.1
    have hfin : Hid (Pl.triC p k ax ay bx by_ cx cy = if Pl.area p ax ay bx by_ cx cy = 0 ∨ Pl.quad p k ax ay bx by_ = 0 ∨ Pl.quad p k ax ay cx cy = 0 ∨ Pl.quad p k bx by_ cx cy = 0 then 5 else 0) := by unfold Hid Pl.triC; rw [if_pos h0]
    by_cases z0 : Pl.area p ax ay bx by_ cx cy = 0
    · have f0 : (Pl.area p ax ay bx by_ cx cy == 0) = true := by simpa using z0
      have HZ := hid (show Pl.area p ax ay bx by_ cx cy = 0 ∨ Pl.quad p k ax ay bx by_ = 0 ∨ Pl.quad p k bx by_ cx cy = 0 ∨ Pl.quad p k ax ay cx cy = 0 from .inl z0)
      clear z0
      go_enter Try.func81, Try.ntmps81
      go_wp2_with fail
      refine (l03Points_any p k _ 0 3 3 [(ax, ay), (bx, by_), (cx, cy)] rfl (by omega) _ (by simp) ?_).mono ?_
      · intro j hj
        match j, hj with
        | 0, _ => exact ⟨by go_simp, by go_simp⟩
        | 1, _ => exact ⟨by go_simp, by go_simp⟩
        | 2, _ => exact ⟨by go_simp, by go_simp⟩
      · rintro e w1 ⟨rfl, hb⟩
        have c00 : w1.cell? ⟨w.heap.size, 0, none⟩ = some (.int .i64 ax) := keepC hb (by go_simp)
        have c01 : w1.cell? ⟨w.heap.size, 1, none⟩ = some (.int .i64 ay) := keepC hb (by go_simp)
        have c10 : w1.cell? ⟨w.heap.size + 1, 0, none⟩ = some (.int .i64 bx) := keepC hb (by go_simp)
        have c11 : w1.cell? ⟨w.heap.size + 1, 1, none⟩ = some (.int .i64 by_) := keepC hb (by go_simp)
        have c20 : w1.cell? ⟨w.heap.size + 1 + 1, 0, none⟩ = some (.int .i64 cx) := keepC hb (by go_simp)
        have c21 : w1.cell? ⟨w.heap.size + 1 + 1, 1, none⟩ = some (.int .i64 cy) := keepC hb (by go_simp)
        have hB : Below w.heap.size w w1 := below_of (by go_grown) hb (by simp <;> omega)
        clear hb
        go_wp2_with (first | (go_at_call 156; refine (l01Area_any _ _ _ _ _ _ _ _ (by omega) (by omega) (by omega) (by omega) (by omega) (by omega) (by omega) (by omega) (by omega) (by omega) (by omega) (by omega) (by omega) (by omega)).mono ?_; rintro e w' ⟨rfl, hbn⟩; replace c00 := keepC hbn c00; replace c01 := keepC hbn c01; replace c10 := keepC hbn c10; replace c11 := keepC hbn c11; replace c20 := keepC hbn c20; replace c21 := keepC hbn c21; replace hB := below_of hB hbn hB.size; clear hbn) | (go_at_call 84; refine (l02Quadrance_any _ _ _ _ _ _ _ (by omega) (by omega) (by omega) (by omega) (by omega) (by omega) (by omega) (by omega) (by omega) (by omega)).mono ?_; rintro e w' ⟨rfl, hbn⟩; replace c00 := keepC hbn c00; replace c01 := keepC hbn c01; replace c10 := keepC hbn c10; replace c11 := keepC hbn c11; replace c20 := keepC hbn c20; replace c21 := keepC hbn c21; replace hB := below_of hB hbn hB.size; clear hbn))
        go_ret
        exact ⟨ret_int (by rw [hfin.out, if_pos ((show (Pl.area p ax ay bx by_ cx cy = 0 ∨ Pl.quad p k ax ay bx by_ = 0 ∨ Pl.quad p k bx by_ cx cy = 0 ∨ Pl.quad p k ax ay cx cy = 0) ↔ (Pl.area p ax ay bx by_ cx cy = 0 ∨ Pl.quad p k ax ay bx by_ = 0 ∨ Pl.quad p k ax ay cx cy = 0 ∨ Pl.quad p k bx by_ cx cy = 0) by rw [or_comm (a := Pl.quad p k bx by_ cx cy = 0) (b := Pl.quad p k ax ay cx cy = 0)]).1 HZ.out)]), hB⟩
    · have f0 : (Pl.area p ax ay bx by_ cx cy == 0) = false := by simpa using z0
      by_cases z1 : Pl.quad p k ax ay bx by_ = 0
      · have f1 : (Pl.quad p k ax ay bx by_ == 0) = true := by simpa using z1
        have HZ := hid (show Pl.area p ax ay bx by_ cx cy = 0 ∨ Pl.quad p k ax ay bx by_ = 0 ∨ Pl.quad p k bx by_ cx cy = 0 ∨ Pl.quad p k ax ay cx cy = 0 from .inr (.inl z1))
        clear z0 z1
        go_enter Try.func81, Try.ntmps81
        go_wp2_with fail
        refine (l03Points_any p k _ 0 3 3 [(ax, ay), (bx, by_), (cx, cy)] rfl (by omega) _ (by simp) ?_).mono ?_
        · intro j hj
          match j, hj with
          | 0, _ => exact ⟨by go_simp, by go_simp⟩
          | 1, _ => exact ⟨by go_simp, by go_simp⟩
          | 2, _ => exact ⟨by go_simp, by go_simp⟩
        · rintro e w1 ⟨rfl, hb⟩
          have c00 : w1.cell? ⟨w.heap.size, 0, none⟩ = some (.int .i64 ax) := keepC hb (by go_simp)
          have c01 : w1.cell? ⟨w.heap.size, 1, none⟩ = some (.int .i64 ay) := keepC hb (by go_simp)
          have c10 : w1.cell? ⟨w.heap.size + 1, 0, none⟩ = some (.int .i64 bx) := keepC hb (by go_simp)
          have c11 : w1.cell? ⟨w.heap.size + 1, 1, none⟩ = some (.int .i64 by_) := keepC hb (by go_simp)
          have c20 : w1.cell? ⟨w.heap.size + 1 + 1, 0, none⟩ = some (.int .i64 cx) := keepC hb (by go_simp)
          have c21 : w1.cell? ⟨w.heap.size + 1 + 1, 1, none⟩ = some (.int .i64 cy) := keepC hb (by go_simp)
          have hB : Below w.heap.size w w1 := below_of (by go_grown) hb (by simp <;> omega)
          clear hb
          go_wp2_with (first | (go_at_call 156; refine (l01Area_any _ _ _ _ _ _ _ _ (by omega) (by omega) (by omega) (by omega) (by omega) (by omega) (by omega) (by omega) (by omega) (by omega) (by omega) (by omega) (by omega) (by omega)).mono ?_; rintro e w' ⟨rfl, hbn⟩; replace c00 := keepC hbn c00; replace c01 := keepC hbn c01; replace c10 := keepC hbn c10; replace c11 := keepC hbn c11; replace c20 := keepC hbn c20; replace c21 := keepC hbn c21; replace hB := below_of hB hbn hB.size; clear hbn) | (go_at_call 84; refine (l02Quadrance_any _ _ _ _ _ _ _ (by omega) (by omega) (by omega) (by omega) (by omega) (by omega) (by omega) (by omega) (by omega) (by omega)).mono ?_; rintro e w' ⟨rfl, hbn⟩; replace c00 := keepC hbn c00; replace c01 := keepC hbn c01; replace c10 := keepC hbn c10; replace c11 := keepC hbn c11; replace c20 := keepC hbn c20; replace c21 := keepC hbn c21; replace hB := below_of hB hbn hB.size; clear hbn))
          go_ret
          exact ⟨ret_int (by rw [hfin.out, if_pos ((show (Pl.area p ax ay bx by_ cx cy = 0 ∨ Pl.quad p k ax ay bx by_ = 0 ∨ Pl.quad p k bx by_ cx cy = 0 ∨ Pl.quad p k ax ay cx cy = 0) ↔ (Pl.area p ax ay bx by_ cx cy = 0 ∨ Pl.quad p k ax ay bx by_ = 0 ∨ Pl.quad p k ax ay cx cy = 0 ∨ Pl.quad p k bx by_ cx cy = 0) by rw [or_comm (a := Pl.quad p k bx by_ cx cy = 0) (b := Pl.quad p k ax ay cx cy = 0)]).1 HZ.out)]), hB⟩
      · have f1 : (Pl.quad p k ax ay bx by_ == 0) = false := by simpa using z1
        by_cases z2 : Pl.quad p k bx by_ cx cy = 0
        · have f2 : (Pl.quad p k bx by_ cx cy == 0) = true := by simpa using z2
          have HZ := hid (show Pl.area p ax ay bx by_ cx cy = 0 ∨ Pl.quad p k ax ay bx by_ = 0 ∨ Pl.quad p k bx by_ cx cy = 0 ∨ Pl.quad p k ax ay cx cy = 0 from .inr (.inr (.inl z2)))
          clear z0 z1 z2
          go_enter Try.func81, Try.ntmps81
          go_wp2_with fail
          refine (l03Points_any p k _ 0 3 3 [(ax, ay), (bx, by_), (cx, cy)] rfl (by omega) _ (by simp) ?_).mono ?_
          · intro j hj
            match j, hj with
            | 0, _ => exact ⟨by go_simp, by go_simp⟩
            | 1, _ => exact ⟨by go_simp, by go_simp⟩
            | 2, _ => exact ⟨by go_simp, by go_simp⟩
          · rintro e w1 ⟨rfl, hb⟩
            have c00 : w1.cell? ⟨w.heap.size, 0, none⟩ = some (.int .i64 ax) := keepC hb (by go_simp)
            have c01 : w1.cell? ⟨w.heap.size, 1, none⟩ = some (.int .i64 ay) := keepC hb (by go_simp)
            have c10 : w1.cell? ⟨w.heap.size + 1, 0, none⟩ = some (.int .i64 bx) := keepC hb (by go_simp)
            have c11 : w1.cell? ⟨w.heap.size + 1, 1, none⟩ = some (.int .i64 by_) := keepC hb (by go_simp)
            have c20 : w1.cell? ⟨w.heap.size + 1 + 1, 0, none⟩ = some (.int .i64 cx) := keepC hb (by go_simp)
            have c21 : w1.cell? ⟨w.heap.size + 1 + 1, 1, none⟩ = some (.int .i64 cy) := keepC hb (by go_simp)
            have hB : Below w.heap.size w w1 := below_of (by go_grown) hb (by simp <;> omega)
            clear hb
            go_wp2_with (first | (go_at_call 156; refine (l01Area_any _ _ _ _ _ _ _ _ (by omega) (by omega) (by omega) (by omega) (by omega) (by omega) (by omega) (by omega) (by omega) (by omega) (by omega) (by omega) (by omega) (by omega)).mono ?_; rintro e w' ⟨rfl, hbn⟩; replace c00 := keepC hbn c00; replace c01 := keepC hbn c01; replace c10 := keepC hbn c10; replace c11 := keepC hbn c11; replace c20 := keepC hbn c20; replace c21 := keepC hbn c21; replace hB := below_of hB hbn hB.size; clear hbn) | (go_at_call 84; refine (l02Quadrance_any _ _ _ _ _ _ _ (by omega) (by omega) (by omega) (by omega) (by omega) (by omega) (by omega) (by omega) (by omega) (by omega)).mono ?_; rintro e w' ⟨rfl, hbn⟩; replace c00 := keepC hbn c00; replace c01 := keepC hbn c01; replace c10 := keepC hbn c10; replace c11 := keepC hbn c11; replace c20 := keepC hbn c20; replace c21 := keepC hbn c21; replace hB := below_of hB hbn hB.size; clear hbn))
            go_ret
            exact ⟨ret_int (by rw [hfin.out, if_pos ((show (Pl.area p ax ay bx by_ cx cy = 0 ∨ Pl.quad p k ax ay bx by_ = 0 ∨ Pl.quad p k bx by_ cx cy = 0 ∨ Pl.quad p k ax ay cx cy = 0) ↔ (Pl.area p ax ay bx by_ cx cy = 0 ∨ Pl.quad p k ax ay bx by_ = 0 ∨ Pl.quad p k ax ay cx cy = 0 ∨ Pl.quad p k bx by_ cx cy = 0) by rw [or_comm (a := Pl.quad p k bx by_ cx cy = 0) (b := Pl.quad p k ax ay cx cy = 0)]).1 HZ.out)]), hB⟩
        · have f2 : (Pl.quad p k bx by_ cx cy == 0) = false := by simpa using z2
          by_cases z3 : Pl.quad p k ax ay cx cy = 0
          · have f3 : (Pl.quad p k ax ay cx cy == 0) = true := by simpa using z3
            have HZ := hid (show Pl.area p ax ay bx by_ cx cy = 0 ∨ Pl.quad p k ax ay bx by_ = 0 ∨ Pl.quad p k bx by_ cx cy = 0 ∨ Pl.quad p k ax ay cx cy = 0 from .inr (.inr (.inr (z3))))
            clear z0 z1 z2 z3
            go_enter Try.func81, Try.ntmps81
            go_wp2_with fail
            refine (l03Points_any p k _ 0 3 3 [(ax, ay), (bx, by_), (cx, cy)] rfl (by omega) _ (by simp) ?_).mono ?_
            · intro j hj
              match j, hj with
              | 0, _ => exact ⟨by go_simp, by go_simp⟩
              | 1, _ => exact ⟨by go_simp, by go_simp⟩
              | 2, _ => exact ⟨by go_simp, by go_simp⟩
            · rintro e w1 ⟨rfl, hb⟩
              have c00 : w1.cell? ⟨w.heap.size, 0, none⟩ = some (.int .i64 ax) := keepC hb (by go_simp)
              have c01 : w1.cell? ⟨w.heap.size, 1, none⟩ = some (.int .i64 ay) := keepC hb (by go_simp)
              have c10 : w1.cell? ⟨w.heap.size + 1, 0, none⟩ = some (.int .i64 bx) := keepC hb (by go_simp)
              have c11 : w1.cell? ⟨w.heap.size + 1, 1, none⟩ = some (.int .i64 by_) := keepC hb (by go_simp)
              have c20 : w1.cell? ⟨w.heap.size + 1 + 1, 0, none⟩ = some (.int .i64 cx) := keepC hb (by go_simp)
              have c21 : w1.cell? ⟨w.heap.size + 1 + 1, 1, none⟩ = some (.int .i64 cy) := keepC hb (by go_simp)
              have hB : Below w.heap.size w w1 := below_of (by go_grown) hb (by simp <;> omega)
              clear hb
              go_wp2_with (first | (go_at_call 156; refine (l01Area_any _ _ _ _ _ _ _ _ (by omega) (by omega) (by omega) (by omega) (by omega) (by omega) (by omega) (by omega) (by omega) (by omega) (by omega) (by omega) (by omega) (by omega)).mono ?_; rintro e w' ⟨rfl, hbn⟩; replace c00 := keepC hbn c00; replace c01 := keepC hbn c01; replace c10 := keepC hbn c10; replace c11 := keepC hbn c11; replace c20 := keepC hbn c20; replace c21 := keepC hbn c21; replace hB := below_of hB hbn hB.size; clear hbn) | (go_at_call 84; refine (l02Quadrance_any _ _ _ _ _ _ _ (by omega) (by omega) (by omega) (by omega) (by omega) (by omega) (by omega) (by omega) (by omega) (by omega)).mono ?_; rintro e w' ⟨rfl, hbn⟩; replace c00 := keepC hbn c00; replace c01 := keepC hbn c01; replace c10 := keepC hbn c10; replace c11 := keepC hbn c11; replace c20 := keepC hbn c20; replace c21 := keepC hbn c21; replace hB := below_of hB hbn hB.size; clear hbn))
              go_ret
              exact ⟨ret_int (by rw [hfin.out, if_pos ((show (Pl.area p ax ay bx by_ cx cy = 0 ∨ Pl.quad p k ax ay bx by_ = 0 ∨ Pl.quad p k bx by_ cx cy = 0 ∨ Pl.quad p k ax ay cx cy = 0) ↔ (Pl.area p ax ay bx by_ cx cy = 0 ∨ Pl.quad p k ax ay bx by_ = 0 ∨ Pl.quad p k ax ay cx cy = 0 ∨ Pl.quad p k bx by_ cx cy = 0) by rw [or_comm (a := Pl.quad p k bx by_ cx cy = 0) (b := Pl.quad p k ax ay cx cy = 0)]).1 HZ.out)]), hB⟩
          · have f3 : (Pl.quad p k ax ay cx cy == 0) = false := by simpa using z3
            have HZ := hid (show ¬ (Pl.area p ax ay bx by_ cx cy = 0 ∨ Pl.quad p k ax ay bx by_ = 0 ∨ Pl.quad p k bx by_ cx cy = 0 ∨ Pl.quad p k ax ay cx cy = 0) from fun h => by rcases h with h | h | h | h <;> omega)
            clear z0 z1 z2 z3
            go_enter Try.func81, Try.ntmps81
            go_wp2_with fail
            refine (l03Points_any p k _ 0 3 3 [(ax, ay), (bx, by_), (cx, cy)] rfl (by omega) _ (by simp) ?_).mono ?_
            · intro j hj
              match j, hj with
              | 0, _ => exact ⟨by go_simp, by go_simp⟩
              | 1, _ => exact ⟨by go_simp, by go_simp⟩
              | 2, _ => exact ⟨by go_simp, by go_simp⟩
            · rintro e w1 ⟨rfl, hb⟩
              have c00 : w1.cell? ⟨w.heap.size, 0, none⟩ = some (.int .i64 ax) := keepC hb (by go_simp)
              have c01 : w1.cell? ⟨w.heap.size, 1, none⟩ = some (.int .i64 ay) := keepC hb (by go_simp)
              have c10 : w1.cell? ⟨w.heap.size + 1, 0, none⟩ = some (.int .i64 bx) := keepC hb (by go_simp)
              have c11 : w1.cell? ⟨w.heap.size + 1, 1, none⟩ = some (.int .i64 by_) := keepC hb (by go_simp)
              have c20 : w1.cell? ⟨w.heap.size + 1 + 1, 0, none⟩ = some (.int .i64 cx) := keepC hb (by go_simp)
              have c21 : w1.cell? ⟨w.heap.size + 1 + 1, 1, none⟩ = some (.int .i64 cy) := keepC hb (by go_simp)
              have hB : Below w.heap.size w w1 := below_of (by go_grown) hb (by simp <;> omega)
              clear hb
              go_wp2_with (first | (go_at_call 156; refine (l01Area_any _ _ _ _ _ _ _ _ (by omega) (by omega) (by omega) (by omega) (by omega) (by omega) (by omega) (by omega) (by omega) (by omega) (by omega) (by omega) (by omega) (by omega)).mono ?_; rintro e w' ⟨rfl, hbn⟩; replace c00 := keepC hbn c00; replace c01 := keepC hbn c01; replace c10 := keepC hbn c10; replace c11 := keepC hbn c11; replace c20 := keepC hbn c20; replace c21 := keepC hbn c21; replace hB := below_of hB hbn hB.size; clear hbn) | (go_at_call 84; refine (l02Quadrance_any _ _ _ _ _ _ _ (by omega) (by omega) (by omega) (by omega) (by omega) (by omega) (by omega) (by omega) (by omega) (by omega)).mono ?_; rintro e w' ⟨rfl, hbn⟩; replace c00 := keepC hbn c00; replace c01 := keepC hbn c01; replace c10 := keepC hbn c10; replace c11 := keepC hbn c11; replace c20 := keepC hbn c20; replace c21 := keepC hbn c21; replace hB := below_of hB hbn hB.size; clear hbn))
              go_ret
              exact ⟨ret_int (by rw [hfin.out, if_neg fun h => HZ.out ((show (Pl.area p ax ay bx by_ cx cy = 0 ∨ Pl.quad p k ax ay bx by_ = 0 ∨ Pl.quad p k bx by_ cx cy = 0 ∨ Pl.quad p k ax ay cx cy = 0) ↔ (Pl.area p ax ay bx by_ cx cy = 0 ∨ Pl.quad p k ax ay bx by_ = 0 ∨ Pl.quad p k ax ay cx cy = 0 ∨ Pl.quad p k bx by_ cx cy = 0) by rw [or_comm (a := Pl.quad p k bx by_ cx cy = 0) (b := Pl.quad p k ax ay cx cy = 0)]).2 h)]), hB⟩
  · have hne : (Pl.ask p (Pl.colB k && Pl.ptsB p [(ax, ay), (bx, by_), (cx, cy)]) != 0) = true := by simpa using h0
    have hne2 : (Pl.ask p (Pl.colB k && Pl.ptsB p [(ax, ay), (bx, by_), (cx, cy)]) == 0) = false := by simpa using h0
    have hfin : Hid (Pl.triC p k ax ay bx by_ cx cy = Pl.ask p (Pl.colB k && Pl.ptsB p [(ax, ay), (bx, by_), (cx, cy)])) := by unfold Hid Pl.triC; rw [if_neg h0]
    clear h0
    go_enter Try.func81, Try.ntmps81
    go_wp2_with fail
    refine (l03Points_any p k _ 0 3 3 [(ax, ay), (bx, by_), (cx, cy)] rfl (by omega) _ (by simp) ?_).mono ?_
    · intro j hj
      match j, hj with
      | 0, _ => exact ⟨by go_simp, by go_simp⟩
      | 1, _ => exact ⟨by go_simp, by go_simp⟩
      | 2, _ => exact ⟨by go_simp, by go_simp⟩
    · rintro e w1 ⟨rfl, hb⟩
      have hB : Below w.heap.size w w1 := below_of (by go_grown) hb (by simp <;> omega)
      clear hb
      go_wp2_with fail
      go_ret
      exact ⟨ret_int (by rw [hfin.out]), hB⟩
theorem SpreadRatio_any (p k ax ay bx by_ cx cy : Int) (w : World) :
    Calls Try.prog 18 #[.int .i64 p, .int .i64 k, .agg #[.int .i64 ax, .int .i64 ay], .agg #[.int .i64 bx, .int .i64 by_], .agg #[.int .i64 cx, .int .i64 cy]] w fun e w' => e = .returned (.tuple #[.int .i64 ((Pl.sratOf p k ax ay bx by_ cx cy).1), .int .i64 ((Pl.sratOf p k ax ay bx by_ cx cy).2)]) ∧ Below w.heap.size w w' := by
  by_cases h0 : Pl.triC p k ax ay bx by_ cx cy = 0
  · have hfin : Hid (Pl.sratOf p k ax ay bx by_ cx cy = (Pl.ratioN p (Pl.spreadP p k ax ay bx by_ cx cy) (Pl.quad p k bx by_ cx cy), 0)) := by unfold Hid Pl.sratOf; rw [if_pos h0]
    have hk := Pl.triC_ok h0
    have hv := hid (Pl.ask_ok hk.1)
    have hp := Pl.field_bd hv.out.1
    obtain ⟨hp1, hp2⟩ := hp
    have hv2 := hv.out.2
    simp only [Bool.and_eq_true] at hv2
    obtain ⟨⟨ax1, ax2, ay1, ay2⟩, ⟨bx1, bx2, by_1, by_2⟩, cx1, cx2, cy1, cy2⟩ := Pl.pts3_bd hv2.2
    clear hv2
    have hf := hv.out.1
    have hs := Pl.sat_t hk.2.2.1 hk.2.2.2.1
    obtain ⟨hsb, hsv⟩ := hs
    have bs := Pl.spreadP_bd (p := p) (k := k) (ax := ax) (ay := ay) (bx := bx) (by_ := by_) (cx := cx) (cy := cy) (by omega)
    obtain ⟨bs1, bs2⟩ := bs
    have bq := Pl.quad_bd (p := p) (k := k) (ax := bx) (ay := by_) (bx := cx) (by_ := cy) (by omega)
    obtain ⟨bq1, bq2⟩ := bq
    clear hk
    go_enter Try.func18, Try.ntmps18
    go_wp2_with fail
    refine (spreadTriangle_any _ _ _ _ _ _ _ _ _).mono ?_
    rintro e w1 ⟨rfl, hb⟩
    have c00 : w1.cell? ⟨w.heap.size, 0, none⟩ = some (.int .i64 ax) := keepC hb (by go_simp)
    have c01 : w1.cell? ⟨w.heap.size, 1, none⟩ = some (.int .i64 ay) := keepC hb (by go_simp)
    have c10 : w1.cell? ⟨w.heap.size + 1, 0, none⟩ = some (.int .i64 bx) := keepC hb (by go_simp)
    have c11 : w1.cell? ⟨w.heap.size + 1, 1, none⟩ = some (.int .i64 by_) := keepC hb (by go_simp)
    have c20 : w1.cell? ⟨w.heap.size + 1 + 1, 0, none⟩ = some (.int .i64 cx) := keepC hb (by go_simp)
    have c21 : w1.cell? ⟨w.heap.size + 1 + 1, 1, none⟩ = some (.int .i64 cy) := keepC hb (by go_simp)
    have hB : Below w.heap.size w w1 := below_of (by go_grown) hb (by simp <;> omega)
    clear hb
    go_wp2_with (first | (go_at_call 80; refine (spreadAt_any _ _ _ _ _ _ _ _ _ hf (by omega) (by omega) (by omega) (by omega) (by omega) (by omega) (by omega) (by omega) (by omega) (by omega) (by omega) (by omega)).mono ?_; rintro e w' ⟨rfl, hbn⟩; replace c00 := keepC hbn c00; replace c01 := keepC hbn c01; replace c10 := keepC hbn c10; replace c11 := keepC hbn c11; replace c20 := keepC hbn c20; replace c21 := keepC hbn c21; replace hB := below_of hB hbn hB.size; clear hbn) | (go_at_call 83; refine (quadrance_any _ _ _ _ _ _ _ (by omega) (by omega) (by omega) (by omega) (by omega) (by omega) (by omega) (by omega) (by omega) (by omega)).mono ?_; rintro e w' ⟨rfl, hbn⟩; replace c00 := keepC hbn c00; replace c01 := keepC hbn c01; replace c10 := keepC hbn c10; replace c11 := keepC hbn c11; replace c20 := keepC hbn c20; replace c21 := keepC hbn c21; replace hB := below_of hB hbn hB.size; clear hbn) | (go_at_call 69; refine (divide_any _ _ _ _ hf (by omega) (by omega) (by omega) (by omega)).mono ?_; rintro e w' ⟨rfl, rfl⟩))
    go_ret2
    exact ⟨ret_ii (by rw [hfin.out]; rfl) (by rw [hfin.out]), hB⟩
  · have hne : (Pl.triC p k ax ay bx by_ cx cy != 0) = true := by simpa using h0
    have hfin : Hid (Pl.sratOf p k ax ay bx by_ cx cy = (0, Pl.triC p k ax ay bx by_ cx cy)) := by unfold Hid Pl.sratOf; rw [if_neg h0]
    clear h0
    go_enter Try.func18, Try.ntmps18
    go_wp2_with fail
    refine (spreadTriangle_any _ _ _ _ _ _ _ _ _).mono ?_
    rintro e w1 ⟨rfl, hb⟩
    have hB : Below w.heap.size w w1 := below_of (by go_grown) hb (by simp <;> omega)
    clear hb
    go_wp2_with fail
    go_ret2
    exact ⟨ret_ii (by rw [hfin.out]) (by rw [hfin.out]), by first | exact hB | go_grown⟩
theorem sSpreadRatio_any (p k ax ay bx by_ cx cy : Int) (w : World) :
    Calls Try.prog 19 #[.int .i64 p, .int .i64 k, .agg #[.int .i64 ax, .int .i64 ay], .agg #[.int .i64 bx, .int .i64 by_], .agg #[.int .i64 cx, .int .i64 cy]] w fun e w' => e = .returned (.tuple #[.int .i64 ((Pl.sratOf p k ax ay bx by_ cx cy).1), .int .i64 ((Pl.sratOf p k ax ay bx by_ cx cy).2)]) ∧ Below w.heap.size w w' := by
  by_cases h0 : Pl.triC p k ax ay bx by_ cx cy = 0
  · have hfin : Hid (Pl.sratOf p k ax ay bx by_ cx cy = (Pl.ratioN p (Pl.spreadP p k ax ay bx by_ cx cy) (Pl.quad p k bx by_ cx cy), 0)) := by unfold Hid Pl.sratOf; rw [if_pos h0]
    have hk := Pl.triC_ok h0
    have hv := hid (Pl.ask_ok hk.1)
    have hp := Pl.field_bd hv.out.1
    obtain ⟨hp1, hp2⟩ := hp
    have hv2 := hv.out.2
    simp only [Bool.and_eq_true] at hv2
    obtain ⟨⟨ax1, ax2, ay1, ay2⟩, ⟨bx1, bx2, by_1, by_2⟩, cx1, cx2, cy1, cy2⟩ := Pl.pts3_bd hv2.2
    clear hv2
    have hf := hv.out.1
    have hs := Pl.sat_t hk.2.2.1 hk.2.2.2.1
    obtain ⟨hsb, hsv⟩ := hs
    have bs := Pl.spreadP_bd (p := p) (k := k) (ax := ax) (ay := ay) (bx := bx) (by_ := by_) (cx := cx) (cy := cy) (by omega)
    obtain ⟨bs1, bs2⟩ := bs
    have bq := Pl.quad_bd (p := p) (k := k) (ax := bx) (ay := by_) (bx := cx) (by_ := cy) (by omega)
    obtain ⟨bq1, bq2⟩ := bq
    clear hk
    generalize hS : Pl.spreadP p k ax ay bx by_ cx cy = s at *
    generalize hQ : Pl.quad p k bx by_ cx cy = q at *
    have hi := Pl.inv_facts hf bq1 bq2
    obtain ⟨_, hi1, hi2, _⟩ := hi
    have m1 := Pl.mulB (show 0 ≤ s by omega) (show s ≤ 31 by omega) (show 0 ≤ (Pl.inv p q) by omega) (show (Pl.inv p q) ≤ 31 by omega)
    obtain ⟨m1a, m1b⟩ := m1
    have e9 : IntKind.i64.wrap (s * Pl.inv p q) = s * Pl.inv p q := IntWalk.i64_in _ (by omega)
    have t1 : Int.tmod (s * Pl.inv p q) p = (s * Pl.inv p q) % p := Int.tmod_eq_emod_of_nonneg m1a
    have hp0 : ¬ p = 0 := by omega
    have hcc : q % p = q := Int.emod_eq_of_lt bq1 bq2
    go_enter Try.func19, Try.ntmps19
    go_wp2_with fail
    refine (l03Triangle_any _ _ _ _ _ _ _ _ _).mono ?_
    rintro e w1 ⟨rfl, hb⟩
    have c00 : w1.cell? ⟨w.heap.size, 0, none⟩ = some (.int .i64 ax) := keepC hb (by go_simp)
    have c01 : w1.cell? ⟨w.heap.size, 1, none⟩ = some (.int .i64 ay) := keepC hb (by go_simp)
    have c10 : w1.cell? ⟨w.heap.size + 1, 0, none⟩ = some (.int .i64 bx) := keepC hb (by go_simp)
    have c11 : w1.cell? ⟨w.heap.size + 1, 1, none⟩ = some (.int .i64 by_) := keepC hb (by go_simp)
    have c20 : w1.cell? ⟨w.heap.size + 1 + 1, 0, none⟩ = some (.int .i64 cx) := keepC hb (by go_simp)
    have c21 : w1.cell? ⟨w.heap.size + 1 + 1, 1, none⟩ = some (.int .i64 cy) := keepC hb (by go_simp)
    have hB : Below w.heap.size w w1 := below_of (by go_grown) hb (by simp <;> omega)
    clear hb
    go_wp2_with fail
    refine Reg.wp_region_grow (by kernel_rfl) 16 16 (fun _ => (#[.int .i64 0, .int .i64 0], 0)) (by kernel_rfl) ?_ ?_
    · intro k o h1 h2
      omega
    simp only [List.take_succ_cons, List.take_zero, List.drop_succ_cons, List.drop_zero]
    refine Reg.wpG_step (v := ?vr1x0) (fun wq hq => ?gr1x0) ?kr1x0
    case gr1x0 => (have q0 := keepC hq c00; have q1 := keepC hq c01; have q2 := keepC hq c10; have q3 := keepC hq c11; have q4 := keepC hq c20; have q5 := keepC hq c21; refine Reg.gAt_val ?_; go_simp; first | done | (with_reducible rfl) | rfl)
    try simp only [Act.put, List.setIfInBounds_toArray, List.set_cons_zero, List.set_cons_succ]
    refine Reg.wpG_step (v := ?vr1x1) (fun wq hq => ?gr1x1) ?kr1x1
    case gr1x1 => (have q0 := keepC hq c00; have q1 := keepC hq c01; have q2 := keepC hq c10; have q3 := keepC hq c11; have q4 := keepC hq c20; have q5 := keepC hq c21; refine Reg.gAt_val ?_; go_simp; first | done | (with_reducible rfl) | rfl)
    try simp only [Act.put, List.setIfInBounds_toArray, List.set_cons_zero, List.set_cons_succ]
    refine Reg.wpG_step (v := ?vr1x2) (fun wq hq => ?gr1x2) ?kr1x2
    case gr1x2 => (have q0 := keepC hq c00; have q1 := keepC hq c01; have q2 := keepC hq c10; have q3 := keepC hq c11; have q4 := keepC hq c20; have q5 := keepC hq c21; refine Reg.gAt_val ?_; go_simp; first | done | (with_reducible rfl) | rfl)
    try simp only [Act.put, List.setIfInBounds_toArray, List.set_cons_zero, List.set_cons_succ]
    refine Reg.wpG_step (v := ?vr1x3) (fun wq hq => ?gr1x3) ?kr1x3
    case gr1x3 => (have q0 := keepC hq c00; have q1 := keepC hq c01; have q2 := keepC hq c10; have q3 := keepC hq c11; have q4 := keepC hq c20; have q5 := keepC hq c21; refine Reg.gAt_val ?_; go_simp; first | done | (with_reducible rfl) | rfl)
    try simp only [Act.put, List.setIfInBounds_toArray, List.set_cons_zero, List.set_cons_succ]
    refine Reg.wpG_step (v := ?vr1x4) (fun wq hq => ?gr1x4) ?kr1x4
    case gr1x4 => (have q0 := keepC hq c00; have q1 := keepC hq c01; have q2 := keepC hq c10; have q3 := keepC hq c11; have q4 := keepC hq c20; have q5 := keepC hq c21; refine Reg.gAt_val ?_; go_simp; first | done | (with_reducible rfl) | rfl)
    try simp only [Act.put, List.setIfInBounds_toArray, List.set_cons_zero, List.set_cons_succ]
    refine Reg.wpG_step (v := .int .i64 s) (fun wq hq => ?gr1x5) ?kr1x5
    case gr1x5 => (unfold Reg.gAt; go_simp; refine Reg.quiet_enter ?_; exact (l03At_any _ _ _ _ _ _ _ _ _ hf (by omega) (by omega) (by omega) (by omega) (by omega) (by omega) (by omega) (by omega) (by omega) (by omega) (by omega) (by omega)).mono fun e w2 ⟨he, hb⟩ => ⟨he.trans (ret_int hS), hb⟩)
    try simp only [Act.put, List.setIfInBounds_toArray, List.set_cons_zero, List.set_cons_succ]
    refine Reg.wpG_step (v := ?vr1x6) (fun wq hq => ?gr1x6) ?kr1x6
    case gr1x6 => (have q0 := keepC hq c00; have q1 := keepC hq c01; have q2 := keepC hq c10; have q3 := keepC hq c11; have q4 := keepC hq c20; have q5 := keepC hq c21; refine Reg.gAt_val ?_; go_simp; first | done | (with_reducible rfl) | rfl)
    try simp only [Act.put, List.setIfInBounds_toArray, List.set_cons_zero, List.set_cons_succ]
    refine Reg.wpG_step (v := ?vr1x7) (fun wq hq => ?gr1x7) ?kr1x7
    case gr1x7 => (have q0 := keepC hq c00; have q1 := keepC hq c01; have q2 := keepC hq c10; have q3 := keepC hq c11; have q4 := keepC hq c20; have q5 := keepC hq c21; refine Reg.gAt_val ?_; go_simp; first | done | (with_reducible rfl) | rfl)
    try simp only [Act.put, List.setIfInBounds_toArray, List.set_cons_zero, List.set_cons_succ]
    refine Reg.wpG_step (v := ?vr1x8) (fun wq hq => ?gr1x8) ?kr1x8
    case gr1x8 => (have q0 := keepC hq c00; have q1 := keepC hq c01; have q2 := keepC hq c10; have q3 := keepC hq c11; have q4 := keepC hq c20; have q5 := keepC hq c21; refine Reg.gAt_val ?_; go_simp; first | done | (with_reducible rfl) | rfl)
    try simp only [Act.put, List.setIfInBounds_toArray, List.set_cons_zero, List.set_cons_succ]
    refine Reg.wpG_step (v := ?vr1x9) (fun wq hq => ?gr1x9) ?kr1x9
    case gr1x9 => (have q0 := keepC hq c00; have q1 := keepC hq c01; have q2 := keepC hq c10; have q3 := keepC hq c11; have q4 := keepC hq c20; have q5 := keepC hq c21; refine Reg.gAt_val ?_; go_simp; first | done | (with_reducible rfl) | rfl)
    try simp only [Act.put, List.setIfInBounds_toArray, List.set_cons_zero, List.set_cons_succ]
    refine Reg.wpG_step (v := .int .i64 q) (fun wq hq => ?gr1x10) ?kr1x10
    case gr1x10 => (unfold Reg.gAt; go_simp; refine Reg.quiet_enter ?_; exact (l02Quadrance_any _ _ _ _ _ _ _ (by omega) (by omega) (by omega) (by omega) (by omega) (by omega) (by omega) (by omega) (by omega) (by omega)).mono fun e w2 ⟨he, hb⟩ => ⟨he.trans (ret_int hQ), hb⟩)
    try simp only [Act.put, List.setIfInBounds_toArray, List.set_cons_zero, List.set_cons_succ]
    refine Reg.wpG_step (v := ?vr1x11) (fun wq hq => ?gr1x11) ?kr1x11
    case gr1x11 => (have q0 := keepC hq c00; have q1 := keepC hq c01; have q2 := keepC hq c10; have q3 := keepC hq c11; have q4 := keepC hq c20; have q5 := keepC hq c21; refine Reg.gAt_val ?_; go_simp; first | done | (with_reducible rfl) | rfl)
    try simp only [Act.put, List.setIfInBounds_toArray, List.set_cons_zero, List.set_cons_succ]
    refine Reg.wpG_step (v := .int .i64 (Pl.inv p q)) (fun wq hq => ?gr1x12) ?kr1x12
    case gr1x12 => (unfold Reg.gAt; go_simp; refine Reg.quiet_enter ?_; exact (l01Inverse_any _ _ _ hf).mono fun e w2 ⟨he, hw⟩ => ⟨he.trans (ret_int (by rw [hcc])), hw ▸ Below.refl _ _⟩)
    try simp only [Act.put, List.setIfInBounds_toArray, List.set_cons_zero, List.set_cons_succ]
    refine Reg.wpG_step (v := ?vr1x13) (fun wq hq => ?gr1x13) ?kr1x13
    case gr1x13 => (have q0 := keepC hq c00; have q1 := keepC hq c01; have q2 := keepC hq c10; have q3 := keepC hq c11; have q4 := keepC hq c20; have q5 := keepC hq c21; refine Reg.gAt_val ?_; go_simp; first | done | (with_reducible rfl) | rfl)
    try simp only [Act.put, List.setIfInBounds_toArray, List.set_cons_zero, List.set_cons_succ]
    refine Reg.wpG_step (v := ?vr1x14) (fun wq hq => ?gr1x14) ?kr1x14
    case gr1x14 => (have q0 := keepC hq c00; have q1 := keepC hq c01; have q2 := keepC hq c10; have q3 := keepC hq c11; have q4 := keepC hq c20; have q5 := keepC hq c21; refine Reg.gAt_val ?_; go_simp; first | done | (with_reducible rfl) | rfl)
    try simp only [Act.put, List.setIfInBounds_toArray, List.set_cons_zero, List.set_cons_succ]
    refine Reg.wpG_step (v := ?vr1x15) (fun wq hq => ?gr1x15) ?kr1x15
    case gr1x15 => (have q0 := keepC hq c00; have q1 := keepC hq c01; have q2 := keepC hq c10; have q3 := keepC hq c11; have q4 := keepC hq c20; have q5 := keepC hq c21; refine Reg.gAt_val ?_; go_simp; first | done | (with_reducible rfl) | rfl)
    try simp only [Act.put, List.setIfInBounds_toArray, List.set_cons_zero, List.set_cons_succ]
    intro w2 g hB2 hg hd
    clear hg hd
    change wpList _ _ _ _ (Reg.putPtrs _ g [] _) _
    simp only [Reg.putPtrs]
    replace c00 := keepC hB2 c00
    replace c01 := keepC hB2 c01
    replace c10 := keepC hB2 c10
    replace c11 := keepC hB2 c11
    replace c20 := keepC hB2 c20
    replace c21 := keepC hB2 c21
    replace hB := below_of hB hB2 hB.size
    clear hB2 
    go_wp2_with fail
    go_ret2
    exact ⟨ret_ii (by rw [hfin.out]; rfl) (by rw [hfin.out]), hB⟩
  · have hne : (Pl.triC p k ax ay bx by_ cx cy != 0) = true := by simpa using h0
    have hfin : Hid (Pl.sratOf p k ax ay bx by_ cx cy = (0, Pl.triC p k ax ay bx by_ cx cy)) := by unfold Hid Pl.sratOf; rw [if_neg h0]
    clear h0
    go_enter Try.func19, Try.ntmps19
    go_wp2_with fail
    refine (l03Triangle_any _ _ _ _ _ _ _ _ _).mono ?_
    rintro e w1 ⟨rfl, hb⟩
    have hB : Below w.heap.size w w1 := below_of (by go_grown) hb (by simp <;> omega)
    clear hb
    go_wp2_with fail
    go_ret2
    exact ⟨ret_ii (by rw [hfin.out]) (by rw [hfin.out]), by first | exact hB | go_grown⟩
end Go.Proofs.Ytbjcbbnfgfmllaa
