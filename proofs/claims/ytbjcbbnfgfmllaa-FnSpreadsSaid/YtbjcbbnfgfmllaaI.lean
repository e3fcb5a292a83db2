/- Contracts: quadrances, perpendicular lines, null lines, right angles: exported functions of both sides. -/
import Derived.Test.YtbjcbbnfgfmllaaH2
set_option linter.unusedVariables false
set_option linter.unusedSimpArgs false
set_option maxRecDepth 100000
set_option maxHeartbeats 1000000
namespace Go.Proofs.Ytbjcbbnfgfmllaa
open Go.RowKit
theorem Quadrance1_any (p k ax ay bx by_ : Int) (b0 b1 b2 b3 : Nat) (w : World) (c00 : w.cell? ⟨b0, 0, none⟩ = some (.int .i64 p)) (c10 : w.cell? ⟨b1, 0, none⟩ = some (.int .i64 k)) (c20 : w.cell? ⟨b2, 0, none⟩ = some (.int .i64 ax)) (c21 : w.cell? ⟨b2, 1, none⟩ = some (.int .i64 ay)) (c30 : w.cell? ⟨b3, 0, none⟩ = some (.int .i64 bx)) (c31 : w.cell? ⟨b3, 1, none⟩ = some (.int .i64 by_)) :
    Calls Try.prog 102 #[.pointer (some ⟨b1, 0, none⟩), .pointer (some ⟨b0, 0, none⟩), .pointer (some ⟨b2, 0, none⟩), .pointer (some ⟨b3, 0, none⟩)] w fun e w' => e = .returned (.bool (Pl.colB k && Pl.ptsB p [(ax, ay), (bx, by_)])) ∧ Below w.heap.size w w' := by
  cases hk : Pl.colB k with
  | false =>
    go_enter Try.func102, Try.ntmps102
    go_wp2_with (go_at_call 75; refine (isColour_any _ _).mono ?_; rintro e w' ⟨rfl, rfl⟩)
    go_ret
    exact ⟨rfl, Below.refl _ _⟩
  | true =>
    go_enter Try.func102, Try.ntmps102
    go_wp2_with (go_at_call 75; refine (isColour_any _ _).mono ?_; rintro e w' ⟨rfl, rfl⟩)
    refine (arePoints_any p _ 0 2 2 [(ax, ay), (bx, by_)] rfl (by omega) _ (by simp) ?_).mono ?_
    · intro j hj
      match j, hj with
      | 0, _ => exact ⟨by go_simp, by go_simp⟩
      | 1, _ => exact ⟨by go_simp, by go_simp⟩
    · rintro e w' ⟨rfl, hb⟩
      go_wp2_with fail
      go_ret
      exact ⟨rfl, below_of (by go_grown) hb (by simp <;> omega)⟩
theorem Quadrance_any (p k ax ay bx by_ : Int) (w : World) :
    Calls Try.prog 32 #[.int .i64 p, .int .i64 k, .agg #[.int .i64 ax, .int .i64 ay], .agg #[.int .i64 bx, .int .i64 by_]] w fun e w' => e = .returned (.tuple #[.int .i64 ((Pl.quadOf p k ax ay bx by_).1), .int .i64 ((Pl.quadOf p k ax ay bx by_).2)]) ∧ Below w.heap.size w w' := by
  by_cases h0 : Pl.ask p (Pl.colB k && Pl.ptsB p [(ax, ay), (bx, by_)]) = 0
  · have hfin : Hid (Pl.quadOf p k ax ay bx by_ = (Pl.quad p k ax ay bx by_, 0)) := by unfold Hid Pl.quadOf; rw [if_pos h0]
    have hv : Hid (Pl.fieldB p = true ∧ (Pl.colB k && Pl.ptsB p [(ax, ay), (bx, by_)]) = true) := Pl.ask_ok h0
    have hp := Pl.field_bd hv.out.1
    obtain ⟨hp1, hp2⟩ := hp
    have hv2 := hv.out.2
    simp only [Bool.and_eq_true] at hv2
    obtain ⟨⟨ax1, ax2, ay1, ay2⟩, bx1, bx2, by_1, by_2⟩ := Pl.pts2_bd hv2.2
    clear hv2
    go_enter Try.func32, Try.ntmps32
    go_wp2_with fail
    refine (asked_any p _ _ (Pl.colB k && Pl.ptsB p [(ax, ay), (bx, by_)]) _ (by kernel_rfl) ?_).mono ?_
    · intro _
      exact Quadrance1_any p k ax ay bx by_ _ _ _ _ _ (by go_simp) (by go_simp) (by go_simp) (by go_simp) (by go_simp) (by go_simp)
    · rintro e w1 ⟨rfl, hb⟩
      have c00 : w1.cell? ⟨w.heap.size, 0, none⟩ = some (.int .i64 p) := cellOf hb (by go_simp) (by simp <;> omega)
      have c10 : w1.cell? ⟨w.heap.size + 1, 0, none⟩ = some (.int .i64 k) := cellOf hb (by go_simp) (by simp <;> omega)
      have c20 : w1.cell? ⟨w.heap.size + 2, 0, none⟩ = some (.int .i64 ax) := cellOf hb (by go_simp) (by simp <;> omega)
      have c21 : w1.cell? ⟨w.heap.size + 2, 1, none⟩ = some (.int .i64 ay) := cellOf hb (by go_simp) (by simp <;> omega)
      have c30 : w1.cell? ⟨w.heap.size + 3, 0, none⟩ = some (.int .i64 bx) := cellOf hb (by go_simp) (by simp <;> omega)
      have c31 : w1.cell? ⟨w.heap.size + 3, 1, none⟩ = some (.int .i64 by_) := cellOf hb (by go_simp) (by simp <;> omega)
      have hz : w.heap.size + 4 ≤ w1.heap.size := by have := hb.size; simp at this; omega
      have hB : Below w.heap.size w w1 := below_of (by go_grown) hb (by simp <;> omega)
      clear hb
      go_wp2_with (go_at_call 83; refine (quadrance_any _ _ _ _ _ _ _ (by omega) (by omega) (by omega) (by omega) (by omega) (by omega) (by omega) (by omega) (by omega) (by omega)).mono ?_; rintro e w' ⟨rfl, hbn⟩; replace c00 := keepC hbn c00; replace c10 := keepC hbn c10; replace c20 := keepC hbn c20; replace c21 := keepC hbn c21; replace c30 := keepC hbn c30; replace c31 := keepC hbn c31; replace hB := below_of hB hbn hB.size; clear hbn)
      go_ret2
      exact ⟨ret_ii (by rw [hfin.out]) (by rw [hfin.out]), hB⟩
  · have hne : (Pl.ask p (Pl.colB k && Pl.ptsB p [(ax, ay), (bx, by_)]) != 0) = true := by simpa using h0
    have hfin : Hid (Pl.quadOf p k ax ay bx by_ = (0, Pl.ask p (Pl.colB k && Pl.ptsB p [(ax, ay), (bx, by_)]))) := by unfold Hid Pl.quadOf; rw [if_neg h0]
    clear h0
    go_enter Try.func32, Try.ntmps32
    go_wp2_with fail
    refine (asked_any p _ _ (Pl.colB k && Pl.ptsB p [(ax, ay), (bx, by_)]) _ (by kernel_rfl) ?_).mono ?_
    · intro _
      exact Quadrance1_any p k ax ay bx by_ _ _ _ _ _ (by go_simp) (by go_simp) (by go_simp) (by go_simp) (by go_simp) (by go_simp)
    · rintro e w1 ⟨rfl, hb⟩
      have hB : Below w.heap.size w w1 := below_of (by go_grown) hb (by simp <;> omega)
      clear hb
      go_wp2_with fail
      go_ret2
      exact ⟨ret_ii (by rw [hfin.out]) (by rw [hfin.out]), hB⟩
theorem sQuadrance_any (p k ax ay bx by_ : Int) (w : World) :
    Calls Try.prog 33 #[.int .i64 p, .int .i64 k, .agg #[.int .i64 ax, .int .i64 ay], .agg #[.int .i64 bx, .int .i64 by_]] w fun e w' => e = .returned (.tuple #[.int .i64 ((Pl.quadOf p k ax ay bx by_).1), .int .i64 ((Pl.quadOf p k ax ay bx by_).2)]) ∧ Below w.heap.size w w' := by
  by_cases h0 : Pl.ask p (Pl.colB k && Pl.ptsB p [(ax, ay), (bx, by_)]) = 0
  · have hfin : Hid (Pl.quadOf p k ax ay bx by_ = (Pl.quad p k ax ay bx by_, 0)) := by unfold Hid Pl.quadOf; rw [if_pos h0]
    have hv : Hid (Pl.fieldB p = true ∧ (Pl.colB k && Pl.ptsB p [(ax, ay), (bx, by_)]) = true) := Pl.ask_ok h0
    have hp := Pl.field_bd hv.out.1
    obtain ⟨hp1, hp2⟩ := hp
    have hv2 := hv.out.2
    simp only [Bool.and_eq_true] at hv2
    obtain ⟨⟨ax1, ax2, ay1, ay2⟩, bx1, bx2, by_1, by_2⟩ := Pl.pts2_bd hv2.2
    clear hv2
    go_enter Try.func33, Try.ntmps33
    go_wp2_with fail
    refine (l02Code_any p k _ 0 2 2 [(ax, ay), (bx, by_)] rfl (by omega) _ (by simp) ?_).mono ?_
    · intro j hj
      match j, hj with
      | 0, _ => exact ⟨by go_simp, by go_simp⟩
      | 1, _ => exact ⟨by go_simp, by go_simp⟩
    · rintro e w1 ⟨rfl, hb⟩
      have c00 : w1.cell? ⟨w.heap.size, 0, none⟩ = some (.int .i64 ax) := keepC hb (by go_simp)
      have c01 : w1.cell? ⟨w.heap.size, 1, none⟩ = some (.int .i64 ay) := keepC hb (by go_simp)
      have c10 : w1.cell? ⟨w.heap.size + 1, 0, none⟩ = some (.int .i64 bx) := keepC hb (by go_simp)
      have c11 : w1.cell? ⟨w.heap.size + 1, 1, none⟩ = some (.int .i64 by_) := keepC hb (by go_simp)
      have hB : Below w.heap.size w w1 := below_of (by go_grown) hb (by simp <;> omega)
      clear hb
      go_wp2_with (go_at_call 84; refine (l02Quadrance_any _ _ _ _ _ _ _ (by omega) (by omega) (by omega) (by omega) (by omega) (by omega) (by omega) (by omega) (by omega) (by omega)).mono ?_; rintro e w' ⟨rfl, hbn⟩; replace c00 := keepC hbn c00; replace c01 := keepC hbn c01; replace c10 := keepC hbn c10; replace c11 := keepC hbn c11; replace hB := below_of hB hbn hB.size; clear hbn)
      go_ret2
      exact ⟨ret_ii (by rw [hfin.out]) (by rw [hfin.out]), hB⟩
  · have hne : (Pl.ask p (Pl.colB k && Pl.ptsB p [(ax, ay), (bx, by_)]) != 0) = true := by simpa using h0
    have hfin : Hid (Pl.quadOf p k ax ay bx by_ = (0, Pl.ask p (Pl.colB k && Pl.ptsB p [(ax, ay), (bx, by_)]))) := by unfold Hid Pl.quadOf; rw [if_neg h0]
    clear h0
    go_enter Try.func33, Try.ntmps33
    go_wp2_with fail
    refine (l02Code_any p k _ 0 2 2 [(ax, ay), (bx, by_)] rfl (by omega) _ (by simp) ?_).mono ?_
    · intro j hj
      match j, hj with
      | 0, _ => exact ⟨by go_simp, by go_simp⟩
      | 1, _ => exact ⟨by go_simp, by go_simp⟩
    · rintro e w1 ⟨rfl, hb⟩
      have hB : Below w.heap.size w w1 := below_of (by go_grown) hb (by simp <;> omega)
      clear hb
      go_wp2_with fail
      go_ret2
      exact ⟨ret_ii (by rw [hfin.out]) (by rw [hfin.out]), hB⟩
theorem ArePerpendicular1_any (p k la lb lc ma mb mc : Int) (b0 b1 b2 b3 : Nat) (w : World) (c00 : w.cell? ⟨b0, 0, none⟩ = some (.int .i64 p)) (c10 : w.cell? ⟨b1, 0, none⟩ = some (.int .i64 k)) (c20 : w.cell? ⟨b2, 0, none⟩ = some (.int .i64 la)) (c21 : w.cell? ⟨b2, 1, none⟩ = some (.int .i64 lb)) (c22 : w.cell? ⟨b2, 2, none⟩ = some (.int .i64 lc)) (c30 : w.cell? ⟨b3, 0, none⟩ = some (.int .i64 ma)) (c31 : w.cell? ⟨b3, 1, none⟩ = some (.int .i64 mb)) (c32 : w.cell? ⟨b3, 2, none⟩ = some (.int .i64 mc)) :
    Calls Try.prog 74 #[.pointer (some ⟨b1, 0, none⟩), .pointer (some ⟨b0, 0, none⟩), .pointer (some ⟨b2, 0, none⟩), .pointer (some ⟨b3, 0, none⟩)] w fun e w' => e = .returned (.bool (Pl.colB k && Pl.linesB p [(la, lb, lc), (ma, mb, mc)])) ∧ Below w.heap.size w w' := by
  cases hk : Pl.colB k with
  | false =>
    go_enter Try.func74, Try.ntmps74
    go_wp2_with (go_at_call 75; refine (isColour_any _ _).mono ?_; rintro e w' ⟨rfl, rfl⟩)
    go_ret
    exact ⟨rfl, Below.refl _ _⟩
  | true =>
    go_enter Try.func74, Try.ntmps74
    go_wp2_with (go_at_call 75; refine (isColour_any _ _).mono ?_; rintro e w' ⟨rfl, rfl⟩)
    refine (areLines_any p _ 0 2 2 [(la, lb, lc), (ma, mb, mc)] rfl (by omega) _ (by simp) ?_).mono ?_
    · intro j hj
      match j, hj with
      | 0, _ => exact ⟨by go_simp, by go_simp, by go_simp⟩
      | 1, _ => exact ⟨by go_simp, by go_simp, by go_simp⟩
    · rintro e w' ⟨rfl, hb⟩
      go_wp2_with fail
      go_ret
      exact ⟨rfl, below_of (by go_grown) hb (by simp <;> omega)⟩
theorem ArePerpendicular_any (p k la lb lc ma mb mc : Int) (w : World) :
    Calls Try.prog 14 #[.int .i64 p, .int .i64 k, .agg #[.int .i64 la, .int .i64 lb, .int .i64 lc], .agg #[.int .i64 ma, .int .i64 mb, .int .i64 mc]] w fun e w' => e = .returned (.tuple #[.bool ((Pl.perpOf p k la lb lc ma mb mc).1), .int .i64 ((Pl.perpOf p k la lb lc ma mb mc).2)]) ∧ Below w.heap.size w w' := by
  by_cases h0 : Pl.ask p (Pl.colB k && Pl.linesB p [(la, lb, lc), (ma, mb, mc)]) = 0
  · have hfin : Hid (Pl.perpOf p k la lb lc ma mb mc = (Pl.perpB p k la lb ma mb, 0)) := by unfold Hid Pl.perpOf; rw [if_pos h0]
    have hv : Hid (Pl.fieldB p = true ∧ (Pl.colB k && Pl.linesB p [(la, lb, lc), (ma, mb, mc)]) = true) := Pl.ask_ok h0
    have hp := Pl.field_bd hv.out.1
    obtain ⟨hp1, hp2⟩ := hp
    have hv2 := hv.out.2
    simp only [Bool.and_eq_true] at hv2
    obtain ⟨⟨la1, la2, lb1, lb2, lc1, lc2, hl⟩, ma1, ma2, mb1, mb2, mc1, mc2, hm⟩ := Pl.lines2_bd hv2.2
    clear hv2 hl hm
    go_enter Try.func14, Try.ntmps14
    go_wp2_with fail
    refine (asked_any p _ _ (Pl.colB k && Pl.linesB p [(la, lb, lc), (ma, mb, mc)]) _ (by kernel_rfl) ?_).mono ?_
    · intro _
      exact ArePerpendicular1_any p k la lb lc ma mb mc _ _ _ _ _ (by go_simp) (by go_simp) (by go_simp) (by go_simp) (by go_simp) (by go_simp) (by go_simp) (by go_simp)
    · rintro e w1 ⟨rfl, hb⟩
      have c00 : w1.cell? ⟨w.heap.size, 0, none⟩ = some (.int .i64 p) := cellOf hb (by go_simp) (by simp <;> omega)
      have c10 : w1.cell? ⟨w.heap.size + 1, 0, none⟩ = some (.int .i64 k) := cellOf hb (by go_simp) (by simp <;> omega)
      have c20 : w1.cell? ⟨w.heap.size + 2, 0, none⟩ = some (.int .i64 la) := cellOf hb (by go_simp) (by simp <;> omega)
      have c21 : w1.cell? ⟨w.heap.size + 2, 1, none⟩ = some (.int .i64 lb) := cellOf hb (by go_simp) (by simp <;> omega)
      have c22 : w1.cell? ⟨w.heap.size + 2, 2, none⟩ = some (.int .i64 lc) := cellOf hb (by go_simp) (by simp <;> omega)
      have c30 : w1.cell? ⟨w.heap.size + 3, 0, none⟩ = some (.int .i64 ma) := cellOf hb (by go_simp) (by simp <;> omega)
      have c31 : w1.cell? ⟨w.heap.size + 3, 1, none⟩ = some (.int .i64 mb) := cellOf hb (by go_simp) (by simp <;> omega)
      have c32 : w1.cell? ⟨w.heap.size + 3, 2, none⟩ = some (.int .i64 mc) := cellOf hb (by go_simp) (by simp <;> omega)
      have hz : w.heap.size + 4 ≤ w1.heap.size := by have := hb.size; simp at this; omega
      have hB : Below w.heap.size w w1 := below_of (by go_grown) hb (by simp <;> omega)
      clear hb
      go_wp2_with (go_at_call 77; refine (arePerpendicular_any _ _ _ _ _ _ _ _ _ (by omega) (by omega) (by omega) (by omega) (by omega) (by omega) (by omega) (by omega) (by omega) (by omega) (by omega) (by omega) (by omega) (by omega)).mono ?_; rintro e w' ⟨rfl, hbn⟩; replace c00 := keepC hbn c00; replace c10 := keepC hbn c10; replace c20 := keepC hbn c20; replace c21 := keepC hbn c21; replace c22 := keepC hbn c22; replace c30 := keepC hbn c30; replace c31 := keepC hbn c31; replace c32 := keepC hbn c32; replace hB := below_of hB hbn hB.size; clear hbn)
      go_ret2
      exact ⟨ret_bi (by rw [hfin.out]) (by rw [hfin.out]), hB⟩
  · have hne : (Pl.ask p (Pl.colB k && Pl.linesB p [(la, lb, lc), (ma, mb, mc)]) != 0) = true := by simpa using h0
    have hfin : Hid (Pl.perpOf p k la lb lc ma mb mc = (false, Pl.ask p (Pl.colB k && Pl.linesB p [(la, lb, lc), (ma, mb, mc)]))) := by unfold Hid Pl.perpOf; rw [if_neg h0]
    clear h0
    go_enter Try.func14, Try.ntmps14
    go_wp2_with fail
    refine (asked_any p _ _ (Pl.colB k && Pl.linesB p [(la, lb, lc), (ma, mb, mc)]) _ (by kernel_rfl) ?_).mono ?_
    · intro _
      exact ArePerpendicular1_any p k la lb lc ma mb mc _ _ _ _ _ (by go_simp) (by go_simp) (by go_simp) (by go_simp) (by go_simp) (by go_simp) (by go_simp) (by go_simp)
    · rintro e w1 ⟨rfl, hb⟩
      have hB : Below w.heap.size w w1 := below_of (by go_grown) hb (by simp <;> omega)
      clear hb
      go_wp2_with fail
      go_ret2
      exact ⟨ret_bi (by rw [hfin.out]) (by rw [hfin.out]), hB⟩
theorem sArePerpendicular_any (p k la lb lc ma mb mc : Int) (w : World) :
    Calls Try.prog 50 #[.int .i64 p, .int .i64 k, .agg #[.int .i64 la, .int .i64 lb, .int .i64 lc], .agg #[.int .i64 ma, .int .i64 mb, .int .i64 mc]] w fun e w' => e = .returned (.tuple #[.bool ((Pl.perpOf p k la lb lc ma mb mc).1), .int .i64 ((Pl.perpOf p k la lb lc ma mb mc).2)]) ∧ Below w.heap.size w w' := by
  by_cases h0 : Pl.ask p (Pl.colB k && Pl.linesB p [(la, lb, lc), (ma, mb, mc)]) = 0
  · have hfin : Hid (Pl.perpOf p k la lb lc ma mb mc = (Pl.perpB p k la lb ma mb, 0)) := by unfold Hid Pl.perpOf; rw [if_pos h0]
    have hv : Hid (Pl.fieldB p = true ∧ (Pl.colB k && Pl.linesB p [(la, lb, lc), (ma, mb, mc)]) = true) := Pl.ask_ok h0
    have hp := Pl.field_bd hv.out.1
    obtain ⟨hp1, hp2⟩ := hp
    have hv2 := hv.out.2
    simp only [Bool.and_eq_true] at hv2
    obtain ⟨⟨la1, la2, lb1, lb2, lc1, lc2, hl⟩, ma1, ma2, mb1, mb2, mc1, mc2, hm⟩ := Pl.lines2_bd hv2.2
    clear hv2 hl hm
    go_enter Try.func50, Try.ntmps50
    go_wp2_with fail
    refine (l02Lines_any p k _ 0 2 2 [(la, lb, lc), (ma, mb, mc)] rfl (by omega) _ (by simp) ?_).mono ?_
    · intro j hj
      match j, hj with
      | 0, _ => exact ⟨by go_simp, by go_simp, by go_simp⟩
      | 1, _ => exact ⟨by go_simp, by go_simp, by go_simp⟩
    · rintro e w1 ⟨rfl, hb⟩
      have c00 : w1.cell? ⟨w.heap.size, 0, none⟩ = some (.int .i64 la) := keepC hb (by go_simp)
      have c01 : w1.cell? ⟨w.heap.size, 1, none⟩ = some (.int .i64 lb) := keepC hb (by go_simp)
      have c02 : w1.cell? ⟨w.heap.size, 2, none⟩ = some (.int .i64 lc) := keepC hb (by go_simp)
      have c10 : w1.cell? ⟨w.heap.size + 1, 0, none⟩ = some (.int .i64 ma) := keepC hb (by go_simp)
      have c11 : w1.cell? ⟨w.heap.size + 1, 1, none⟩ = some (.int .i64 mb) := keepC hb (by go_simp)
      have c12 : w1.cell? ⟨w.heap.size + 1, 2, none⟩ = some (.int .i64 mc) := keepC hb (by go_simp)
      have hB : Below w.heap.size w w1 := below_of (by go_grown) hb (by simp <;> omega)
      clear hb
      go_wp2_with (go_at_call 130; refine (l02Perpendicular_any _ _ _ _ _ _ _ _ _ (by omega) (by omega) (by omega) (by omega) (by omega) (by omega) (by omega) (by omega) (by omega) (by omega) (by omega) (by omega) (by omega) (by omega)).mono ?_; rintro e w' ⟨rfl, hbn⟩; replace c00 := keepC hbn c00; replace c01 := keepC hbn c01; replace c02 := keepC hbn c02; replace c10 := keepC hbn c10; replace c11 := keepC hbn c11; replace c12 := keepC hbn c12; replace hB := below_of hB hbn hB.size; clear hbn)
      go_ret2
      exact ⟨ret_bi (by rw [hfin.out]) (by rw [hfin.out]), hB⟩
  · have hne : (Pl.ask p (Pl.colB k && Pl.linesB p [(la, lb, lc), (ma, mb, mc)]) != 0) = true := by simpa using h0
    have hfin : Hid (Pl.perpOf p k la lb lc ma mb mc = (false, Pl.ask p (Pl.colB k && Pl.linesB p [(la, lb, lc), (ma, mb, mc)]))) := by unfold Hid Pl.perpOf; rw [if_neg h0]
    clear h0
    go_enter Try.func50, Try.ntmps50
    go_wp2_with fail
    refine (l02Lines_any p k _ 0 2 2 [(la, lb, lc), (ma, mb, mc)] rfl (by omega) _ (by simp) ?_).mono ?_
    · intro j hj
      match j, hj with
      | 0, _ => exact ⟨by go_simp, by go_simp, by go_simp⟩
      | 1, _ => exact ⟨by go_simp, by go_simp, by go_simp⟩
    · rintro e w1 ⟨rfl, hb⟩
      have hB : Below w.heap.size w w1 := below_of (by go_grown) hb (by simp <;> omega)
      clear hb
      go_wp2_with fail
      go_ret2
      exact ⟨ret_bi (by rw [hfin.out]) (by rw [hfin.out]), hB⟩
theorem IsNullLine1_any (p k la lb lc : Int) (b0 b1 b2 : Nat) (w : World) (c00 : w.cell? ⟨b0, 0, none⟩ = some (.int .i64 p)) (c10 : w.cell? ⟨b1, 0, none⟩ = some (.int .i64 k)) (c20 : w.cell? ⟨b2, 0, none⟩ = some (.int .i64 la)) (c21 : w.cell? ⟨b2, 1, none⟩ = some (.int .i64 lb)) (c22 : w.cell? ⟨b2, 2, none⟩ = some (.int .i64 lc)) :
    Calls Try.prog 131 #[.pointer (some ⟨b1, 0, none⟩), .pointer (some ⟨b0, 0, none⟩), .pointer (some ⟨b2, 0, none⟩)] w fun e w' => e = .returned (.bool (Pl.colB k && Pl.linesB p [(la, lb, lc)])) ∧ Below w.heap.size w w' := by
  rw [Pl.linesB1]
  cases hk : Pl.colB k with
  | false =>
    have hB := Below.refl w.heap.size w
    go_enter Try.func131, Try.ntmps131
    go_wp2_with (first | (go_at_call 75; refine (isColour_any _ _).mono ?_; rintro e w' ⟨rfl, rfl⟩) | (go_at_call 123; refine (isLine_any _ _ _ _ _).mono ?_; rintro e w' ⟨rfl, hbn⟩; replace c00 := keepC hbn c00; replace c10 := keepC hbn c10; replace c20 := keepC hbn c20; replace c21 := keepC hbn c21; replace c22 := keepC hbn c22; replace hB := below_of hB hbn hB.size; clear hbn))
    go_ret
    exact ⟨rfl, hB⟩
  | true =>
    have hB := Below.refl w.heap.size w
    go_enter Try.func131, Try.ntmps131
    go_wp2_with (first | (go_at_call 75; refine (isColour_any _ _).mono ?_; rintro e w' ⟨rfl, rfl⟩) | (go_at_call 123; refine (isLine_any _ _ _ _ _).mono ?_; rintro e w' ⟨rfl, hbn⟩; replace c00 := keepC hbn c00; replace c10 := keepC hbn c10; replace c20 := keepC hbn c20; replace c21 := keepC hbn c21; replace c22 := keepC hbn c22; replace hB := below_of hB hbn hB.size; clear hbn))
    go_ret
    exact ⟨rfl, hB⟩
theorem IsNullLine_any (p k la lb lc : Int) (w : World) :
    Calls Try.prog 52 #[.int .i64 p, .int .i64 k, .agg #[.int .i64 la, .int .i64 lb, .int .i64 lc]] w fun e w' => e = .returned (.tuple #[.bool ((Pl.nullOf p k la lb lc).1), .int .i64 ((Pl.nullOf p k la lb lc).2)]) ∧ Below w.heap.size w w' := by
  by_cases h0 : Pl.ask p (Pl.colB k && Pl.linesB p [(la, lb, lc)]) = 0
  · have hfin : Hid (Pl.nullOf p k la lb lc = (Pl.nullB p k la lb, 0)) := by unfold Hid Pl.nullOf; rw [if_pos h0]
    have hv : Hid (Pl.fieldB p = true ∧ (Pl.colB k && Pl.linesB p [(la, lb, lc)]) = true) := Pl.ask_ok h0
    have hp := Pl.field_bd hv.out.1
    obtain ⟨hp1, hp2⟩ := hp
    have hv2 := hv.out.2
    simp only [Bool.and_eq_true] at hv2
    obtain ⟨la1, la2, lb1, lb2, lc1, lc2, hl⟩ := Pl.lines1_bd hv2.2
    clear hv2 hl
    go_enter Try.func52, Try.ntmps52
    go_wp2_with fail
    refine (asked_any p _ _ (Pl.colB k && Pl.linesB p [(la, lb, lc)]) _ (by kernel_rfl) ?_).mono ?_
    · intro _
      exact IsNullLine1_any p k la lb lc _ _ _ _ (by go_simp) (by go_simp) (by go_simp) (by go_simp) (by go_simp)
    · rintro e w1 ⟨rfl, hb⟩
      have c00 : w1.cell? ⟨w.heap.size, 0, none⟩ = some (.int .i64 p) := cellOf hb (by go_simp) (by simp <;> omega)
      have c10 : w1.cell? ⟨w.heap.size + 1, 0, none⟩ = some (.int .i64 k) := cellOf hb (by go_simp) (by simp <;> omega)
      have c20 : w1.cell? ⟨w.heap.size + 2, 0, none⟩ = some (.int .i64 la) := cellOf hb (by go_simp) (by simp <;> omega)
      have c21 : w1.cell? ⟨w.heap.size + 2, 1, none⟩ = some (.int .i64 lb) := cellOf hb (by go_simp) (by simp <;> omega)
      have c22 : w1.cell? ⟨w.heap.size + 2, 2, none⟩ = some (.int .i64 lc) := cellOf hb (by go_simp) (by simp <;> omega)
      have hz : w.heap.size + 3 ≤ w1.heap.size := by have := hb.size; simp at this; omega
      have hB : Below w.heap.size w w1 := below_of (by go_grown) hb (by simp <;> omega)
      clear hb
      go_wp2_with (go_at_call 132; refine (isNull_any _ _ _ _ _ _ (by omega) (by omega) (by omega) (by omega) (by omega) (by omega) (by omega) (by omega)).mono ?_; rintro e w' ⟨rfl, hbn⟩; replace c00 := keepC hbn c00; replace c10 := keepC hbn c10; replace c20 := keepC hbn c20; replace c21 := keepC hbn c21; replace c22 := keepC hbn c22; replace hB := below_of hB hbn hB.size; clear hbn)
      go_ret2
      exact ⟨ret_bi (by rw [hfin.out]) (by rw [hfin.out]), hB⟩
  · have hne : (Pl.ask p (Pl.colB k && Pl.linesB p [(la, lb, lc)]) != 0) = true := by simpa using h0
    have hfin : Hid (Pl.nullOf p k la lb lc = (false, Pl.ask p (Pl.colB k && Pl.linesB p [(la, lb, lc)]))) := by unfold Hid Pl.nullOf; rw [if_neg h0]
    clear h0
    go_enter Try.func52, Try.ntmps52
    go_wp2_with fail
    refine (asked_any p _ _ (Pl.colB k && Pl.linesB p [(la, lb, lc)]) _ (by kernel_rfl) ?_).mono ?_
    · intro _
      exact IsNullLine1_any p k la lb lc _ _ _ _ (by go_simp) (by go_simp) (by go_simp) (by go_simp) (by go_simp)
    · rintro e w1 ⟨rfl, hb⟩
      have hB : Below w.heap.size w w1 := below_of (by go_grown) hb (by simp <;> omega)
      clear hb
      go_wp2_with fail
      go_ret2
      exact ⟨ret_bi (by rw [hfin.out]) (by rw [hfin.out]), hB⟩
theorem sIsNullLine_any (p k la lb lc : Int) (w : World) :
    Calls Try.prog 53 #[.int .i64 p, .int .i64 k, .agg #[.int .i64 la, .int .i64 lb, .int .i64 lc]] w fun e w' => e = .returned (.tuple #[.bool ((Pl.nullOf p k la lb lc).1), .int .i64 ((Pl.nullOf p k la lb lc).2)]) ∧ Below w.heap.size w w' := by
  by_cases h0 : Pl.ask p (Pl.colB k && Pl.linesB p [(la, lb, lc)]) = 0
  · have hfin : Hid (Pl.nullOf p k la lb lc = (Pl.nullB p k la lb, 0)) := by unfold Hid Pl.nullOf; rw [if_pos h0]
    have hv : Hid (Pl.fieldB p = true ∧ (Pl.colB k && Pl.linesB p [(la, lb, lc)]) = true) := Pl.ask_ok h0
    have hp := Pl.field_bd hv.out.1
    obtain ⟨hp1, hp2⟩ := hp
    have hv2 := hv.out.2
    simp only [Bool.and_eq_true] at hv2
    obtain ⟨la1, la2, lb1, lb2, lc1, lc2, hl⟩ := Pl.lines1_bd hv2.2
    clear hv2 hl
    go_enter Try.func53, Try.ntmps53
    go_wp2_with fail
    refine (l02Lines_any p k _ 0 1 1 [(la, lb, lc)] rfl (by omega) _ (by simp) ?_).mono ?_
    · intro j hj
      match j, hj with
      | 0, _ => exact ⟨by go_simp, by go_simp, by go_simp⟩
    · rintro e w1 ⟨rfl, hb⟩
      have c00 : w1.cell? ⟨w.heap.size, 0, none⟩ = some (.int .i64 la) := keepC hb (by go_simp)
      have c01 : w1.cell? ⟨w.heap.size, 1, none⟩ = some (.int .i64 lb) := keepC hb (by go_simp)
      have c02 : w1.cell? ⟨w.heap.size, 2, none⟩ = some (.int .i64 lc) := keepC hb (by go_simp)
      have hB : Below w.heap.size w w1 := below_of (by go_grown) hb (by simp <;> omega)
      clear hb
      go_wp2_with (go_at_call 130; refine (l02Perpendicular_any _ _ _ _ _ _ _ _ _ (by omega) (by omega) (by omega) (by omega) (by omega) (by omega) (by omega) (by omega) (by omega) (by omega) (by omega) (by omega) (by omega) (by omega)).mono ?_; rintro e w' ⟨rfl, hbn⟩; replace c00 := keepC hbn c00; replace c01 := keepC hbn c01; replace c02 := keepC hbn c02; replace hB := below_of hB hbn hB.size; clear hbn)
      go_ret2
      exact ⟨ret_bi (by rw [hfin.out]; rfl) (by rw [hfin.out]), hB⟩
  · have hne : (Pl.ask p (Pl.colB k && Pl.linesB p [(la, lb, lc)]) != 0) = true := by simpa using h0
    have hfin : Hid (Pl.nullOf p k la lb lc = (false, Pl.ask p (Pl.colB k && Pl.linesB p [(la, lb, lc)]))) := by unfold Hid Pl.nullOf; rw [if_neg h0]
    clear h0
    go_enter Try.func53, Try.ntmps53
    go_wp2_with fail
    refine (l02Lines_any p k _ 0 1 1 [(la, lb, lc)] rfl (by omega) _ (by simp) ?_).mono ?_
    · intro j hj
      match j, hj with
      | 0, _ => exact ⟨by go_simp, by go_simp, by go_simp⟩
    · rintro e w1 ⟨rfl, hb⟩
      have hB : Below w.heap.size w w1 := below_of (by go_grown) hb (by simp <;> omega)
      clear hb
      go_wp2_with fail
      go_ret2
      exact ⟨ret_bi (by rw [hfin.out]) (by rw [hfin.out]), hB⟩
end Go.Proofs.Ytbjcbbnfgfmllaa
