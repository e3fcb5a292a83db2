/- Contracts: parallels, collinear points, areas, incidence, products: exported functions of both sides; arrays into points and lines. -/
import Derived.Test.YtbjcbbnfgfmllaaGreatDoorF
set_option linter.unusedVariables false
set_option linter.unusedSimpArgs false
set_option maxRecDepth 100000
set_option maxHeartbeats 1000000
namespace Go.Proofs.YtbjcbbnfgfmllaaGreatDoor
open Go.RowKit
theorem AreCollinear1_any (p ax ay bx by_ cx cy : Int) (b0 b1 b2 b3 : Nat) (w : World) (c00 : w.cell? ⟨b0, 0, none⟩ = some (.int .i64 p)) (c10 : w.cell? ⟨b1, 0, none⟩ = some (.int .i64 ax)) (c11 : w.cell? ⟨b1, 1, none⟩ = some (.int .i64 ay)) (c20 : w.cell? ⟨b2, 0, none⟩ = some (.int .i64 bx)) (c21 : w.cell? ⟨b2, 1, none⟩ = some (.int .i64 by_)) (c30 : w.cell? ⟨b3, 0, none⟩ = some (.int .i64 cx)) (c31 : w.cell? ⟨b3, 1, none⟩ = some (.int .i64 cy)) :
    Calls Tryz.prog 57 #[.pointer (some ⟨b0, 0, none⟩), .pointer (some ⟨b1, 0, none⟩), .pointer (some ⟨b2, 0, none⟩), .pointer (some ⟨b3, 0, none⟩)] w fun e w' => e = .returned (.bool (Pl.ptsB p [(ax, ay), (bx, by_), (cx, cy)])) ∧ Below w.heap.size w w' := by
  go_enter Tryz.func57, Tryz.ntmps57
  go_wp2_with fail
  refine (arePoints_any p _ 0 3 3 [(ax, ay), (bx, by_), (cx, cy)] rfl (by omega) _ (by simp) ?_).mono ?_
  · intro j hj
    match j, hj with
    | 0, _ => exact ⟨by go_simp, by go_simp⟩
    | 1, _ => exact ⟨by go_simp, by go_simp⟩
    | 2, _ => exact ⟨by go_simp, by go_simp⟩
  · rintro e w' ⟨rfl, hb⟩
    go_wp2_with fail
    go_ret
    exact ⟨rfl, below_of (by go_grown) hb (by simp <;> omega)⟩
theorem AreCollinear_any (p ax ay bx by_ cx cy : Int) (w : World) :
    Calls Tryz.prog 18 #[.int .i64 p, .agg #[.int .i64 ax, .int .i64 ay], .agg #[.int .i64 bx, .int .i64 by_], .agg #[.int .i64 cx, .int .i64 cy]] w fun e w' => e = .returned (.tuple #[.bool ((Pl.collOf p ax ay bx by_ cx cy).1), .int .i64 ((Pl.collOf p ax ay bx by_ cx cy).2)]) ∧ Below w.heap.size w w' := by
  by_cases h0 : Pl.ask p (Pl.ptsB p [(ax, ay), (bx, by_), (cx, cy)]) = 0
  · have hfin : Hid (Pl.collOf p ax ay bx by_ cx cy = (Pl.area p ax ay bx by_ cx cy == 0, 0)) := by unfold Hid Pl.collOf; rw [if_pos h0]
    have hv : Hid (Pl.fieldB p = true ∧ (Pl.ptsB p [(ax, ay), (bx, by_), (cx, cy)]) = true) := Pl.ask_ok h0
    have hp := Pl.field_bd hv.out.1
    obtain ⟨hp1, hp2⟩ := hp
    obtain ⟨⟨ax1, ax2, ay1, ay2⟩, ⟨bx1, bx2, by_1, by_2⟩, cx1, cx2, cy1, cy2⟩ := Pl.pts3_bd hv.out.2
    go_enter Tryz.func18, Tryz.ntmps18
    go_wp2_with fail
    refine (asked_any p _ _ (Pl.ptsB p [(ax, ay), (bx, by_), (cx, cy)]) _ (by kernel_rfl) ?_).mono ?_
    · intro _
      exact AreCollinear1_any p ax ay bx by_ cx cy _ _ _ _ _ (by go_simp) (by go_simp) (by go_simp) (by go_simp) (by go_simp) (by go_simp) (by go_simp)
    · rintro e w1 ⟨rfl, hb⟩
      have c00 : w1.cell? ⟨w.heap.size, 0, none⟩ = some (.int .i64 p) := cellOf hb (by go_simp) (by simp <;> omega)
      have c10 : w1.cell? ⟨w.heap.size + 1, 0, none⟩ = some (.int .i64 ax) := cellOf hb (by go_simp) (by simp <;> omega)
      have c11 : w1.cell? ⟨w.heap.size + 1, 1, none⟩ = some (.int .i64 ay) := cellOf hb (by go_simp) (by simp <;> omega)
      have c20 : w1.cell? ⟨w.heap.size + 2, 0, none⟩ = some (.int .i64 bx) := cellOf hb (by go_simp) (by simp <;> omega)
      have c21 : w1.cell? ⟨w.heap.size + 2, 1, none⟩ = some (.int .i64 by_) := cellOf hb (by go_simp) (by simp <;> omega)
      have c30 : w1.cell? ⟨w.heap.size + 3, 0, none⟩ = some (.int .i64 cx) := cellOf hb (by go_simp) (by simp <;> omega)
      have c31 : w1.cell? ⟨w.heap.size + 3, 1, none⟩ = some (.int .i64 cy) := cellOf hb (by go_simp) (by simp <;> omega)
      have hz : w.heap.size + 4 ≤ w1.heap.size := by have := hb.size; simp at this; omega
      have hB : Below w.heap.size w w1 := below_of (by go_grown) hb (by simp <;> omega)
      clear hb
      go_wp2_with (go_at_call 58; refine (area_any _ _ _ _ _ _ _ _ (by omega) (by omega) (by omega) (by omega) (by omega) (by omega) (by omega) (by omega) (by omega) (by omega) (by omega) (by omega) (by omega) (by omega)).mono ?_; rintro e w' ⟨rfl, hbn⟩; replace c00 := keepC hbn c00; replace c10 := keepC hbn c10; replace c11 := keepC hbn c11; replace c20 := keepC hbn c20; replace c21 := keepC hbn c21; replace c30 := keepC hbn c30; replace c31 := keepC hbn c31; replace hB := below_of hB hbn hB.size; clear hbn)
      go_ret2
      exact ⟨ret_bi (by rw [hfin.out]) (by rw [hfin.out]), hB⟩
  · have hne : (Pl.ask p (Pl.ptsB p [(ax, ay), (bx, by_), (cx, cy)]) != 0) = true := by simpa using h0
    have hfin : Hid (Pl.collOf p ax ay bx by_ cx cy = (false, Pl.ask p (Pl.ptsB p [(ax, ay), (bx, by_), (cx, cy)]))) := by unfold Hid Pl.collOf; rw [if_neg h0]
    clear h0
    go_enter Tryz.func18, Tryz.ntmps18
    go_wp2_with fail
    refine (asked_any p _ _ (Pl.ptsB p [(ax, ay), (bx, by_), (cx, cy)]) _ (by kernel_rfl) ?_).mono ?_
    · intro _
      exact AreCollinear1_any p ax ay bx by_ cx cy _ _ _ _ _ (by go_simp) (by go_simp) (by go_simp) (by go_simp) (by go_simp) (by go_simp) (by go_simp)
    · rintro e w1 ⟨rfl, hb⟩
      have hB : Below w.heap.size w w1 := below_of (by go_grown) hb (by simp <;> omega)
      clear hb
      go_wp2_with fail
      go_ret2
      exact ⟨ret_bi (by rw [hfin.out]) (by rw [hfin.out]), hB⟩
theorem DoubledArea1_any (p ax ay bx by_ cx cy : Int) (b0 b1 b2 b3 : Nat) (w : World) (c00 : w.cell? ⟨b0, 0, none⟩ = some (.int .i64 p)) (c10 : w.cell? ⟨b1, 0, none⟩ = some (.int .i64 ax)) (c11 : w.cell? ⟨b1, 1, none⟩ = some (.int .i64 ay)) (c20 : w.cell? ⟨b2, 0, none⟩ = some (.int .i64 bx)) (c21 : w.cell? ⟨b2, 1, none⟩ = some (.int .i64 by_)) (c30 : w.cell? ⟨b3, 0, none⟩ = some (.int .i64 cx)) (c31 : w.cell? ⟨b3, 1, none⟩ = some (.int .i64 cy)) :
    Calls Tryz.prog 59 #[.pointer (some ⟨b0, 0, none⟩), .pointer (some ⟨b1, 0, none⟩), .pointer (some ⟨b2, 0, none⟩), .pointer (some ⟨b3, 0, none⟩)] w fun e w' => e = .returned (.bool (Pl.ptsB p [(ax, ay), (bx, by_), (cx, cy)])) ∧ Below w.heap.size w w' := by
  go_enter Tryz.func59, Tryz.ntmps59
  go_wp2_with fail
  refine (arePoints_any p _ 0 3 3 [(ax, ay), (bx, by_), (cx, cy)] rfl (by omega) _ (by simp) ?_).mono ?_
  · intro j hj
    match j, hj with
    | 0, _ => exact ⟨by go_simp, by go_simp⟩
    | 1, _ => exact ⟨by go_simp, by go_simp⟩
    | 2, _ => exact ⟨by go_simp, by go_simp⟩
  · rintro e w' ⟨rfl, hb⟩
    go_wp2_with fail
    go_ret
    exact ⟨rfl, below_of (by go_grown) hb (by simp <;> omega)⟩
theorem DoubledArea_any (p ax ay bx by_ cx cy : Int) (w : World) :
    Calls Tryz.prog 19 #[.int .i64 p, .agg #[.int .i64 ax, .int .i64 ay], .agg #[.int .i64 bx, .int .i64 by_], .agg #[.int .i64 cx, .int .i64 cy]] w fun e w' => e = .returned (.tuple #[.int .i64 ((Pl.areaOf p ax ay bx by_ cx cy).1), .int .i64 ((Pl.areaOf p ax ay bx by_ cx cy).2)]) ∧ Below w.heap.size w w' := by
  by_cases h0 : Pl.ask p (Pl.ptsB p [(ax, ay), (bx, by_), (cx, cy)]) = 0
  · have hfin : Hid (Pl.areaOf p ax ay bx by_ cx cy = (Pl.area p ax ay bx by_ cx cy, 0)) := by unfold Hid Pl.areaOf; rw [if_pos h0]
    have hv : Hid (Pl.fieldB p = true ∧ (Pl.ptsB p [(ax, ay), (bx, by_), (cx, cy)]) = true) := Pl.ask_ok h0
    have hp := Pl.field_bd hv.out.1
    obtain ⟨hp1, hp2⟩ := hp
    obtain ⟨⟨ax1, ax2, ay1, ay2⟩, ⟨bx1, bx2, by_1, by_2⟩, cx1, cx2, cy1, cy2⟩ := Pl.pts3_bd hv.out.2
    go_enter Tryz.func19, Tryz.ntmps19
    go_wp2_with fail
    refine (asked_any p _ _ (Pl.ptsB p [(ax, ay), (bx, by_), (cx, cy)]) _ (by kernel_rfl) ?_).mono ?_
    · intro _
      exact DoubledArea1_any p ax ay bx by_ cx cy _ _ _ _ _ (by go_simp) (by go_simp) (by go_simp) (by go_simp) (by go_simp) (by go_simp) (by go_simp)
    · rintro e w1 ⟨rfl, hb⟩
      have c00 : w1.cell? ⟨w.heap.size, 0, none⟩ = some (.int .i64 p) := cellOf hb (by go_simp) (by simp <;> omega)
      have c10 : w1.cell? ⟨w.heap.size + 1, 0, none⟩ = some (.int .i64 ax) := cellOf hb (by go_simp) (by simp <;> omega)
      have c11 : w1.cell? ⟨w.heap.size + 1, 1, none⟩ = some (.int .i64 ay) := cellOf hb (by go_simp) (by simp <;> omega)
      have c20 : w1.cell? ⟨w.heap.size + 2, 0, none⟩ = some (.int .i64 bx) := cellOf hb (by go_simp) (by simp <;> omega)
      have c21 : w1.cell? ⟨w.heap.size + 2, 1, none⟩ = some (.int .i64 by_) := cellOf hb (by go_simp) (by simp <;> omega)
      have c30 : w1.cell? ⟨w.heap.size + 3, 0, none⟩ = some (.int .i64 cx) := cellOf hb (by go_simp) (by simp <;> omega)
      have c31 : w1.cell? ⟨w.heap.size + 3, 1, none⟩ = some (.int .i64 cy) := cellOf hb (by go_simp) (by simp <;> omega)
      have hz : w.heap.size + 4 ≤ w1.heap.size := by have := hb.size; simp at this; omega
      have hB : Below w.heap.size w w1 := below_of (by go_grown) hb (by simp <;> omega)
      clear hb
      go_wp2_with (go_at_call 58; refine (area_any _ _ _ _ _ _ _ _ (by omega) (by omega) (by omega) (by omega) (by omega) (by omega) (by omega) (by omega) (by omega) (by omega) (by omega) (by omega) (by omega) (by omega)).mono ?_; rintro e w' ⟨rfl, hbn⟩; replace c00 := keepC hbn c00; replace c10 := keepC hbn c10; replace c11 := keepC hbn c11; replace c20 := keepC hbn c20; replace c21 := keepC hbn c21; replace c30 := keepC hbn c30; replace c31 := keepC hbn c31; replace hB := below_of hB hbn hB.size; clear hbn)
      go_ret2
      exact ⟨ret_ii (by rw [hfin.out]) (by rw [hfin.out]), hB⟩
  · have hne : (Pl.ask p (Pl.ptsB p [(ax, ay), (bx, by_), (cx, cy)]) != 0) = true := by simpa using h0
    have hfin : Hid (Pl.areaOf p ax ay bx by_ cx cy = (0, Pl.ask p (Pl.ptsB p [(ax, ay), (bx, by_), (cx, cy)]))) := by unfold Hid Pl.areaOf; rw [if_neg h0]
    clear h0
    go_enter Tryz.func19, Tryz.ntmps19
    go_wp2_with fail
    refine (asked_any p _ _ (Pl.ptsB p [(ax, ay), (bx, by_), (cx, cy)]) _ (by kernel_rfl) ?_).mono ?_
    · intro _
      exact DoubledArea1_any p ax ay bx by_ cx cy _ _ _ _ _ (by go_simp) (by go_simp) (by go_simp) (by go_simp) (by go_simp) (by go_simp) (by go_simp)
    · rintro e w1 ⟨rfl, hb⟩
      have hB : Below w.heap.size w w1 := below_of (by go_grown) hb (by simp <;> omega)
      clear hb
      go_wp2_with fail
      go_ret2
      exact ⟨ret_ii (by rw [hfin.out]) (by rw [hfin.out]), hB⟩
end Go.Proofs.YtbjcbbnfgfmllaaGreatDoor
