/- Contracts: parallels, collinear points, areas, incidence, products: exported functions of both sides; arrays into points and lines. -/
import Derived.Test.YtbjcbbnfgfmllaaGreatF
set_option linter.unusedVariables false
set_option linter.unusedSimpArgs false
set_option maxRecDepth 100000
set_option maxHeartbeats 1000000
namespace Go.Proofs.YtbjcbbnfgfmllaaGreat
open Go.RowKit
theorem AreParallel1_any (p la lb lc ma mb mc : Int) (b0 b1 b2 : Nat) (w : World) (c00 : w.cell? ⟨b0, 0, none⟩ = some (.int .i64 p)) (c10 : w.cell? ⟨b1, 0, none⟩ = some (.int .i64 la)) (c11 : w.cell? ⟨b1, 1, none⟩ = some (.int .i64 lb)) (c12 : w.cell? ⟨b1, 2, none⟩ = some (.int .i64 lc)) (c20 : w.cell? ⟨b2, 0, none⟩ = some (.int .i64 ma)) (c21 : w.cell? ⟨b2, 1, none⟩ = some (.int .i64 mb)) (c22 : w.cell? ⟨b2, 2, none⟩ = some (.int .i64 mc)) :
    Calls Tryz.prog 61 #[.pointer (some ⟨b0, 0, none⟩), .pointer (some ⟨b1, 0, none⟩), .pointer (some ⟨b2, 0, none⟩)] w fun e w' => e = .returned (.bool (Pl.linesB p [(la, lb, lc), (ma, mb, mc)])) ∧ Below w.heap.size w w' := by
  go_enter Tryz.func61, Tryz.ntmps61
  go_wp2_with fail
  refine (areLines_any p _ 0 2 2 [(la, lb, lc), (ma, mb, mc)] rfl (by omega) _ (by simp) ?_).mono ?_
  · intro j hj
    match j, hj with
    | 0, _ => exact ⟨by go_simp, by go_simp, by go_simp⟩
    | 1, _ => exact ⟨by go_simp, by go_simp, by go_simp⟩
  · rintro e w' ⟨rfl, hb⟩
    go_wp2_with fail
    go_ret
    exact ⟨rfl, below_of (by go_grown) hb (by simp <;> omega)⟩
theorem AreParallel_any (p la lb lc ma mb mc : Int) (w : World) :
    Calls Tryz.prog 14 #[.int .i64 p, .agg #[.int .i64 la, .int .i64 lb, .int .i64 lc], .agg #[.int .i64 ma, .int .i64 mb, .int .i64 mc]] w fun e w' => e = .returned (.tuple #[.bool ((Pl.parOf p la lb lc ma mb mc).1), .int .i64 ((Pl.parOf p la lb lc ma mb mc).2)]) ∧ Below w.heap.size w w' := by
  by_cases h0 : Pl.ask p (Pl.linesB p [(la, lb, lc), (ma, mb, mc)]) = 0
  · have hfin : Hid (Pl.parOf p la lb lc ma mb mc = (Pl.parB p la lb ma mb, 0)) := by unfold Hid Pl.parOf; rw [if_pos h0]
    have hv : Hid (Pl.fieldB p = true ∧ (Pl.linesB p [(la, lb, lc), (ma, mb, mc)]) = true) := Pl.ask_ok h0
    have hp := Pl.field_bd hv.out.1
    obtain ⟨hp1, hp2⟩ := hp
    obtain ⟨⟨la1, la2, lb1, lb2, lc1, lc2, hl⟩, ma1, ma2, mb1, mb2, mc1, mc2, hm⟩ := Pl.lines2_bd hv.out.2
    go_enter Tryz.func14, Tryz.ntmps14
    go_wp2_with fail
    refine (asked_any p _ _ (Pl.linesB p [(la, lb, lc), (ma, mb, mc)]) _ (by kernel_rfl) ?_).mono ?_
    · intro _
      exact AreParallel1_any p la lb lc ma mb mc _ _ _ _ (by go_simp) (by go_simp) (by go_simp) (by go_simp) (by go_simp) (by go_simp) (by go_simp)
    · rintro e w1 ⟨rfl, hb⟩
      have c00 : w1.cell? ⟨w.heap.size, 0, none⟩ = some (.int .i64 p) := cellOf hb (by go_simp) (by simp <;> omega)
      have c10 : w1.cell? ⟨w.heap.size + 1, 0, none⟩ = some (.int .i64 la) := cellOf hb (by go_simp) (by simp <;> omega)
      have c11 : w1.cell? ⟨w.heap.size + 1, 1, none⟩ = some (.int .i64 lb) := cellOf hb (by go_simp) (by simp <;> omega)
      have c12 : w1.cell? ⟨w.heap.size + 1, 2, none⟩ = some (.int .i64 lc) := cellOf hb (by go_simp) (by simp <;> omega)
      have c20 : w1.cell? ⟨w.heap.size + 2, 0, none⟩ = some (.int .i64 ma) := cellOf hb (by go_simp) (by simp <;> omega)
      have c21 : w1.cell? ⟨w.heap.size + 2, 1, none⟩ = some (.int .i64 mb) := cellOf hb (by go_simp) (by simp <;> omega)
      have c22 : w1.cell? ⟨w.heap.size + 2, 2, none⟩ = some (.int .i64 mc) := cellOf hb (by go_simp) (by simp <;> omega)
      have hz : w.heap.size + 3 ≤ w1.heap.size := by have := hb.size; simp at this; omega
      have hB : Below w.heap.size w w1 := below_of (by go_grown) hb (by simp <;> omega)
      clear hb
      go_wp2_with (go_at_call 57; refine (areParallel_any _ _ _ _ _ _ _ _ (by omega) (by omega) (by omega) (by omega) (by omega) (by omega) (by omega) (by omega) (by omega) (by omega) (by omega) (by omega) (by omega) (by omega)).mono ?_; rintro e w' ⟨rfl, hbn⟩; replace c00 := keepC hbn c00; replace c10 := keepC hbn c10; replace c11 := keepC hbn c11; replace c12 := keepC hbn c12; replace c20 := keepC hbn c20; replace c21 := keepC hbn c21; replace c22 := keepC hbn c22; replace hB := below_of hB hbn hB.size; clear hbn)
      go_ret2
      exact ⟨ret_bi (by rw [hfin.out]) (by rw [hfin.out]), hB⟩
  · have hne : (Pl.ask p (Pl.linesB p [(la, lb, lc), (ma, mb, mc)]) != 0) = true := by simpa using h0
    have hfin : Hid (Pl.parOf p la lb lc ma mb mc = (false, Pl.ask p (Pl.linesB p [(la, lb, lc), (ma, mb, mc)]))) := by unfold Hid Pl.parOf; rw [if_neg h0]
    clear h0
    go_enter Tryz.func14, Tryz.ntmps14
    go_wp2_with fail
    refine (asked_any p _ _ (Pl.linesB p [(la, lb, lc), (ma, mb, mc)]) _ (by kernel_rfl) ?_).mono ?_
    · intro _
      exact AreParallel1_any p la lb lc ma mb mc _ _ _ _ (by go_simp) (by go_simp) (by go_simp) (by go_simp) (by go_simp) (by go_simp) (by go_simp)
    · rintro e w1 ⟨rfl, hb⟩
      have hB : Below w.heap.size w w1 := below_of (by go_grown) hb (by simp <;> omega)
      clear hb
      go_wp2_with fail
      go_ret2
      exact ⟨ret_bi (by rw [hfin.out]) (by rw [hfin.out]), hB⟩
theorem sAreParallel_any (p la lb lc ma mb mc : Int) (w : World) :
    Calls Tryz.prog 15 #[.int .i64 p, .agg #[.int .i64 la, .int .i64 lb, .int .i64 lc], .agg #[.int .i64 ma, .int .i64 mb, .int .i64 mc]] w fun e w' => e = .returned (.tuple #[.bool ((Pl.parOf p la lb lc ma mb mc).1), .int .i64 ((Pl.parOf p la lb lc ma mb mc).2)]) ∧ Below w.heap.size w w' := by
  by_cases h0 : Pl.ask p (Pl.linesB p [(la, lb, lc), (ma, mb, mc)]) = 0
  · have hfin : Hid (Pl.parOf p la lb lc ma mb mc = (Pl.parB p la lb ma mb, 0)) := by unfold Hid Pl.parOf; rw [if_pos h0]
    have hv : Hid (Pl.fieldB p = true ∧ (Pl.linesB p [(la, lb, lc), (ma, mb, mc)]) = true) := Pl.ask_ok h0
    have hp := Pl.field_bd hv.out.1
    obtain ⟨hp1, hp2⟩ := hp
    obtain ⟨⟨la1, la2, lb1, lb2, lc1, lc2, hl⟩, ma1, ma2, mb1, mb2, mc1, mc2, hm⟩ := Pl.lines2_bd hv.out.2
    have hpar := hid (Pl.parB_eq (p := p) hp1 lb1 lb2 mb1 mb2 hl hm)
    have HL := hid hl
    have HM := hid hm
    clear hl hm
    go_enter Tryz.func15, Tryz.ntmps15
    go_wp2_with fail
    refine (l01Lines_any p _ 0 2 2 [(la, lb, lc), (ma, mb, mc)] rfl (by omega) _ (by simp) ?_).mono ?_
    · intro j hj
      match j, hj with
      | 0, _ => exact ⟨by go_simp, by go_simp, by go_simp⟩
      | 1, _ => exact ⟨by go_simp, by go_simp, by go_simp⟩
    · rintro e w1 ⟨rfl, hb⟩
      have c00 : w1.cell? ⟨w.heap.size, 0, none⟩ = some (.int .i64 la) := keepC hb (by go_simp)
      have c01 : w1.cell? ⟨w.heap.size, 1, none⟩ = some (.int .i64 lb) := keepC hb (by go_simp)
      have c02 : w1.cell? ⟨w.heap.size, 2, none⟩ = some (.int .i64 lc) := keepC hb (by go_simp)
      have c10 : w1.cell? ⟨w.heap.size + 1, 0, none⟩ = some (.int .i64 ma) := keepC hb (by go_simp)
      have c11 : w1.cell? ⟨w.heap.size + 1, 1, none⟩ = some (.int .i64 mb) := keepC hb (by go_simp)
      have c12 : w1.cell? ⟨w.heap.size + 1, 2, none⟩ = some (.int .i64 mc) := keepC hb (by go_simp)
      have hB : Below w.heap.size w w1 := below_of (by go_grown) hb (by simp <;> omega)
      clear hb
      cases e1 : (la == ma) with
      | true =>
        go_wp2_with fail
        go_ret2
        exact ⟨ret_bi (by rw [hfin.out, hpar.out, e1]; simp) (by rw [hfin.out]), hB⟩
      | false =>
        go_wp2_with fail
        go_ret2
        exact ⟨ret_bi (by rw [hfin.out, hpar.out, e1]; simp) (by rw [hfin.out]), hB⟩
  · have hne : (Pl.ask p (Pl.linesB p [(la, lb, lc), (ma, mb, mc)]) != 0) = true := by simpa using h0
    have hfin : Hid (Pl.parOf p la lb lc ma mb mc = (false, Pl.ask p (Pl.linesB p [(la, lb, lc), (ma, mb, mc)]))) := by unfold Hid Pl.parOf; rw [if_neg h0]
    clear h0
    go_enter Tryz.func15, Tryz.ntmps15
    go_wp2_with fail
    refine (l01Lines_any p _ 0 2 2 [(la, lb, lc), (ma, mb, mc)] rfl (by omega) _ (by simp) ?_).mono ?_
    · intro j hj
      match j, hj with
      | 0, _ => exact ⟨by go_simp, by go_simp, by go_simp⟩
      | 1, _ => exact ⟨by go_simp, by go_simp, by go_simp⟩
    · rintro e w1 ⟨rfl, hb⟩
      have hB : Below w.heap.size w w1 := below_of (by go_grown) hb (by simp <;> omega)
      clear hb
      go_wp2_with fail
      go_ret2
      exact ⟨ret_bi (by rw [hfin.out]) (by rw [hfin.out]), hB⟩
theorem AreCollinear1_any (p ax ay bx by_ cx cy : Int) (b0 b1 b2 b3 : Nat) (w : World) (c00 : w.cell? ⟨b0, 0, none⟩ = some (.int .i64 p)) (c10 : w.cell? ⟨b1, 0, none⟩ = some (.int .i64 ax)) (c11 : w.cell? ⟨b1, 1, none⟩ = some (.int .i64 ay)) (c20 : w.cell? ⟨b2, 0, none⟩ = some (.int .i64 bx)) (c21 : w.cell? ⟨b2, 1, none⟩ = some (.int .i64 by_)) (c30 : w.cell? ⟨b3, 0, none⟩ = some (.int .i64 cx)) (c31 : w.cell? ⟨b3, 1, none⟩ = some (.int .i64 cy)) :
    Calls Tryz.prog 77 #[.pointer (some ⟨b0, 0, none⟩), .pointer (some ⟨b1, 0, none⟩), .pointer (some ⟨b2, 0, none⟩), .pointer (some ⟨b3, 0, none⟩)] w fun e w' => e = .returned (.bool (Pl.ptsB p [(ax, ay), (bx, by_), (cx, cy)])) ∧ Below w.heap.size w w' := by
  go_enter Tryz.func77, Tryz.ntmps77
  go_wp2_with fail
  refine (arePoints_any p _ 0 3 3 [(ax, ay), (bx, by_), (cx, cy)] rfl (by omega) _ (by simp) ?_).mono ?_
  · intro j hj
    match j, hj with
    | 0, _ => exact ⟨by go_simp, by go_simp⟩
    | 1, _ => exact ⟨by go_simp, by go_simp⟩
    | 2, _ => exact ⟨by go_simp, by go_simp⟩
  · rintro e w' ⟨rfl, hb⟩
    go_wp2_with fail
    go_ret
    exact ⟨rfl, below_of (by go_grown) hb (by simp <;> omega)⟩
theorem AreCollinear_any (p ax ay bx by_ cx cy : Int) (w : World) :
    Calls Tryz.prog 27 #[.int .i64 p, .agg #[.int .i64 ax, .int .i64 ay], .agg #[.int .i64 bx, .int .i64 by_], .agg #[.int .i64 cx, .int .i64 cy]] w fun e w' => e = .returned (.tuple #[.bool ((Pl.collOf p ax ay bx by_ cx cy).1), .int .i64 ((Pl.collOf p ax ay bx by_ cx cy).2)]) ∧ Below w.heap.size w w' := by
  by_cases h0 : Pl.ask p (Pl.ptsB p [(ax, ay), (bx, by_), (cx, cy)]) = 0
  · have hfin : Hid (Pl.collOf p ax ay bx by_ cx cy = (Pl.area p ax ay bx by_ cx cy == 0, 0)) := by unfold Hid Pl.collOf; rw [if_pos h0]
    have hv : Hid (Pl.fieldB p = true ∧ (Pl.ptsB p [(ax, ay), (bx, by_), (cx, cy)]) = true) := Pl.ask_ok h0
    have hp := Pl.field_bd hv.out.1
    obtain ⟨hp1, hp2⟩ := hp
    obtain ⟨⟨ax1, ax2, ay1, ay2⟩, ⟨bx1, bx2, by_1, by_2⟩, cx1, cx2, cy1, cy2⟩ := Pl.pts3_bd hv.out.2
    go_enter Tryz.func27, Tryz.ntmps27
    go_wp2_with fail
    refine (asked_any p _ _ (Pl.ptsB p [(ax, ay), (bx, by_), (cx, cy)]) _ (by kernel_rfl) ?_).mono ?_
    · intro _
      exact AreCollinear1_any p ax ay bx by_ cx cy _ _ _ _ _ (by go_simp) (by go_simp) (by go_simp) (by go_simp) (by go_simp) (by go_simp) (by go_simp)
    · rintro e w1 ⟨rfl, hb⟩
      have c00 : w1.cell? ⟨w.heap.size, 0, none⟩ = some (.int .i64 p) := cellOf hb (by go_simp) (by simp <;> omega)
      have c10 : w1.cell? ⟨w.heap.size + 1, 0, none⟩ = some (.int .i64 ax) := cellOf hb (by go_simp) (by simp <;> omega)
      have c11 : w1.cell? ⟨w.heap.size + 1, 1, none⟩ = some (.int .i64 ay) := cellOf hb (by go_simp) (by simp <;> omega)
      have c20 : w1.cell? ⟨w.heap.size + 2, 0, none⟩ = some (.int .i64 bx) := cellOf hb (by go_simp) (by simp <;> omega)
      have c21 : w1.cell? ⟨w.heap.size + 2, 1, none⟩ = some (.int .i64 by_) := cellOf hb (by go_simp) (by simp <;> omega)
      have c30 : w1.cell? ⟨w.heap.size + 3, 0, none⟩ = some (.int .i64 cx) := cellOf hb (by go_simp) (by simp <;> omega)
      have c31 : w1.cell? ⟨w.heap.size + 3, 1, none⟩ = some (.int .i64 cy) := cellOf hb (by go_simp) (by simp <;> omega)
      have hz : w.heap.size + 4 ≤ w1.heap.size := by have := hb.size; simp at this; omega
      have hB : Below w.heap.size w w1 := below_of (by go_grown) hb (by simp <;> omega)
      clear hb
      go_wp2_with (go_at_call 78; refine (area_any _ _ _ _ _ _ _ _ (by omega) (by omega) (by omega) (by omega) (by omega) (by omega) (by omega) (by omega) (by omega) (by omega) (by omega) (by omega) (by omega) (by omega)).mono ?_; rintro e w' ⟨rfl, hbn⟩; replace c00 := keepC hbn c00; replace c10 := keepC hbn c10; replace c11 := keepC hbn c11; replace c20 := keepC hbn c20; replace c21 := keepC hbn c21; replace c30 := keepC hbn c30; replace c31 := keepC hbn c31; replace hB := below_of hB hbn hB.size; clear hbn)
      go_ret2
      exact ⟨ret_bi (by rw [hfin.out]) (by rw [hfin.out]), hB⟩
  · have hne : (Pl.ask p (Pl.ptsB p [(ax, ay), (bx, by_), (cx, cy)]) != 0) = true := by simpa using h0
    have hfin : Hid (Pl.collOf p ax ay bx by_ cx cy = (false, Pl.ask p (Pl.ptsB p [(ax, ay), (bx, by_), (cx, cy)]))) := by unfold Hid Pl.collOf; rw [if_neg h0]
    clear h0
    go_enter Tryz.func27, Tryz.ntmps27
    go_wp2_with fail
    refine (asked_any p _ _ (Pl.ptsB p [(ax, ay), (bx, by_), (cx, cy)]) _ (by kernel_rfl) ?_).mono ?_
    · intro _
      exact AreCollinear1_any p ax ay bx by_ cx cy _ _ _ _ _ (by go_simp) (by go_simp) (by go_simp) (by go_simp) (by go_simp) (by go_simp) (by go_simp)
    · rintro e w1 ⟨rfl, hb⟩
      have hB : Below w.heap.size w w1 := below_of (by go_grown) hb (by simp <;> omega)
      clear hb
      go_wp2_with fail
      go_ret2
      exact ⟨ret_bi (by rw [hfin.out]) (by rw [hfin.out]), hB⟩
theorem sAreCollinear_any (p ax ay bx by_ cx cy : Int) (w : World) :
    Calls Tryz.prog 28 #[.int .i64 p, .agg #[.int .i64 ax, .int .i64 ay], .agg #[.int .i64 bx, .int .i64 by_], .agg #[.int .i64 cx, .int .i64 cy]] w fun e w' => e = .returned (.tuple #[.bool ((Pl.collOf p ax ay bx by_ cx cy).1), .int .i64 ((Pl.collOf p ax ay bx by_ cx cy).2)]) ∧ Below w.heap.size w w' := by
  by_cases h0 : Pl.ask p (Pl.ptsB p [(ax, ay), (bx, by_), (cx, cy)]) = 0
  · have hfin : Hid (Pl.collOf p ax ay bx by_ cx cy = (Pl.area p ax ay bx by_ cx cy == 0, 0)) := by unfold Hid Pl.collOf; rw [if_pos h0]
    have hv : Hid (Pl.fieldB p = true ∧ (Pl.ptsB p [(ax, ay), (bx, by_), (cx, cy)]) = true) := Pl.ask_ok h0
    have hp := Pl.field_bd hv.out.1
    obtain ⟨hp1, hp2⟩ := hp
    obtain ⟨⟨ax1, ax2, ay1, ay2⟩, ⟨bx1, bx2, by_1, by_2⟩, cx1, cx2, cy1, cy2⟩ := Pl.pts3_bd hv.out.2
    go_enter Tryz.func28, Tryz.ntmps28
    go_wp2_with fail
    refine (l01Code_any p _ 0 3 3 [(ax, ay), (bx, by_), (cx, cy)] rfl (by omega) _ (by simp) ?_).mono ?_
    · intro j hj
      match j, hj with
      | 0, _ => exact ⟨by go_simp, by go_simp⟩
      | 1, _ => exact ⟨by go_simp, by go_simp⟩
      | 2, _ => exact ⟨by go_simp, by go_simp⟩
    · rintro e w1 ⟨rfl, hb⟩
      have c00 : w1.cell? ⟨w.heap.size, 0, none⟩ = some (.int .i64 ax) := keepC hb (by go_simp)
      have c01 : w1.cell? ⟨w.heap.size, 1, none⟩ = some (.int .i64 ay) := keepC hb (by go_simp)
      have c10 : w1.cell? ⟨w.heap.size + 1, 0, none⟩ = some (.int .i64 bx) := keepC hb (by go_simp)
      have c11 : w1.cell? ⟨w.heap.size + 1, 1, none⟩ = some (.int .i64 by_) := keepC hb (by go_simp)
      have c20 : w1.cell? ⟨w.heap.size + 1 + 1, 0, none⟩ = some (.int .i64 cx) := keepC hb (by go_simp)
      have c21 : w1.cell? ⟨w.heap.size + 1 + 1, 1, none⟩ = some (.int .i64 cy) := keepC hb (by go_simp)
      have hB : Below w.heap.size w w1 := below_of (by go_grown) hb (by simp <;> omega)
      clear hb
      go_wp2_with (go_at_call 79; refine (l01Area_any _ _ _ _ _ _ _ _ (by omega) (by omega) (by omega) (by omega) (by omega) (by omega) (by omega) (by omega) (by omega) (by omega) (by omega) (by omega) (by omega) (by omega)).mono ?_; rintro e w' ⟨rfl, hbn⟩; replace c00 := keepC hbn c00; replace c01 := keepC hbn c01; replace c10 := keepC hbn c10; replace c11 := keepC hbn c11; replace c20 := keepC hbn c20; replace c21 := keepC hbn c21; replace hB := below_of hB hbn hB.size; clear hbn)
      go_ret2
      exact ⟨ret_bi (by rw [hfin.out]) (by rw [hfin.out]), hB⟩
  · have hne : (Pl.ask p (Pl.ptsB p [(ax, ay), (bx, by_), (cx, cy)]) != 0) = true := by simpa using h0
    have hfin : Hid (Pl.collOf p ax ay bx by_ cx cy = (false, Pl.ask p (Pl.ptsB p [(ax, ay), (bx, by_), (cx, cy)]))) := by unfold Hid Pl.collOf; rw [if_neg h0]
    clear h0
    go_enter Tryz.func28, Tryz.ntmps28
    go_wp2_with fail
    refine (l01Code_any p _ 0 3 3 [(ax, ay), (bx, by_), (cx, cy)] rfl (by omega) _ (by simp) ?_).mono ?_
    · intro j hj
      match j, hj with
      | 0, _ => exact ⟨by go_simp, by go_simp⟩
      | 1, _ => exact ⟨by go_simp, by go_simp⟩
      | 2, _ => exact ⟨by go_simp, by go_simp⟩
    · rintro e w1 ⟨rfl, hb⟩
      have hB : Below w.heap.size w w1 := below_of (by go_grown) hb (by simp <;> omega)
      clear hb
      go_wp2_with fail
      go_ret2
      exact ⟨ret_bi (by rw [hfin.out]) (by rw [hfin.out]), hB⟩
theorem DoubledArea1_any (p ax ay bx by_ cx cy : Int) (b0 b1 b2 b3 : Nat) (w : World) (c00 : w.cell? ⟨b0, 0, none⟩ = some (.int .i64 p)) (c10 : w.cell? ⟨b1, 0, none⟩ = some (.int .i64 ax)) (c11 : w.cell? ⟨b1, 1, none⟩ = some (.int .i64 ay)) (c20 : w.cell? ⟨b2, 0, none⟩ = some (.int .i64 bx)) (c21 : w.cell? ⟨b2, 1, none⟩ = some (.int .i64 by_)) (c30 : w.cell? ⟨b3, 0, none⟩ = some (.int .i64 cx)) (c31 : w.cell? ⟨b3, 1, none⟩ = some (.int .i64 cy)) :
    Calls Tryz.prog 80 #[.pointer (some ⟨b0, 0, none⟩), .pointer (some ⟨b1, 0, none⟩), .pointer (some ⟨b2, 0, none⟩), .pointer (some ⟨b3, 0, none⟩)] w fun e w' => e = .returned (.bool (Pl.ptsB p [(ax, ay), (bx, by_), (cx, cy)])) ∧ Below w.heap.size w w' := by
  go_enter Tryz.func80, Tryz.ntmps80
  go_wp2_with fail
  refine (arePoints_any p _ 0 3 3 [(ax, ay), (bx, by_), (cx, cy)] rfl (by omega) _ (by simp) ?_).mono ?_
  · intro j hj
    match j, hj with
    | 0, _ => exact ⟨by go_simp, by go_simp⟩
    | 1, _ => exact ⟨by go_simp, by go_simp⟩
    | 2, _ => exact ⟨by go_simp, by go_simp⟩
  · rintro e w' ⟨rfl, hb⟩
    go_wp2_with fail
    go_ret
    exact ⟨rfl, below_of (by go_grown) hb (by simp <;> omega)⟩
theorem DoubledArea_any (p ax ay bx by_ cx cy : Int) (w : World) :
    Calls Tryz.prog 29 #[.int .i64 p, .agg #[.int .i64 ax, .int .i64 ay], .agg #[.int .i64 bx, .int .i64 by_], .agg #[.int .i64 cx, .int .i64 cy]] w fun e w' => e = .returned (.tuple #[.int .i64 ((Pl.areaOf p ax ay bx by_ cx cy).1), .int .i64 ((Pl.areaOf p ax ay bx by_ cx cy).2)]) ∧ Below w.heap.size w w' := by
  by_cases h0 : Pl.ask p (Pl.ptsB p [(ax, ay), (bx, by_), (cx, cy)]) = 0
  · have hfin : Hid (Pl.areaOf p ax ay bx by_ cx cy = (Pl.area p ax ay bx by_ cx cy, 0)) := by unfold Hid Pl.areaOf; rw [if_pos h0]
    have hv : Hid (Pl.fieldB p = true ∧ (Pl.ptsB p [(ax, ay), (bx, by_), (cx, cy)]) = true) := Pl.ask_ok h0
    have hp := Pl.field_bd hv.out.1
    obtain ⟨hp1, hp2⟩ := hp
    obtain ⟨⟨ax1, ax2, ay1, ay2⟩, ⟨bx1, bx2, by_1, by_2⟩, cx1, cx2, cy1, cy2⟩ := Pl.pts3_bd hv.out.2
    go_enter Tryz.func29, Tryz.ntmps29
    go_wp2_with fail
    refine (asked_any p _ _ (Pl.ptsB p [(ax, ay), (bx, by_), (cx, cy)]) _ (by kernel_rfl) ?_).mono ?_
    · intro _
      exact DoubledArea1_any p ax ay bx by_ cx cy _ _ _ _ _ (by go_simp) (by go_simp) (by go_simp) (by go_simp) (by go_simp) (by go_simp) (by go_simp)
    · rintro e w1 ⟨rfl, hb⟩
      have c00 : w1.cell? ⟨w.heap.size, 0, none⟩ = some (.int .i64 p) := cellOf hb (by go_simp) (by simp <;> omega)
      have c10 : w1.cell? ⟨w.heap.size + 1, 0, none⟩ = some (.int .i64 ax) := cellOf hb (by go_simp) (by simp <;> omega)
      have c11 : w1.cell? ⟨w.heap.size + 1, 1, none⟩ = some (.int .i64 ay) := cellOf hb (by go_simp) (by simp <;> omega)
      have c20 : w1.cell? ⟨w.heap.size + 2, 0, none⟩ = some (.int .i64 bx) := cellOf hb (by go_simp) (by simp <;> omega)
      have c21 : w1.cell? ⟨w.heap.size + 2, 1, none⟩ = some (.int .i64 by_) := cellOf hb (by go_simp) (by simp <;> omega)
      have c30 : w1.cell? ⟨w.heap.size + 3, 0, none⟩ = some (.int .i64 cx) := cellOf hb (by go_simp) (by simp <;> omega)
      have c31 : w1.cell? ⟨w.heap.size + 3, 1, none⟩ = some (.int .i64 cy) := cellOf hb (by go_simp) (by simp <;> omega)
      have hz : w.heap.size + 4 ≤ w1.heap.size := by have := hb.size; simp at this; omega
      have hB : Below w.heap.size w w1 := below_of (by go_grown) hb (by simp <;> omega)
      clear hb
      go_wp2_with (go_at_call 78; refine (area_any _ _ _ _ _ _ _ _ (by omega) (by omega) (by omega) (by omega) (by omega) (by omega) (by omega) (by omega) (by omega) (by omega) (by omega) (by omega) (by omega) (by omega)).mono ?_; rintro e w' ⟨rfl, hbn⟩; replace c00 := keepC hbn c00; replace c10 := keepC hbn c10; replace c11 := keepC hbn c11; replace c20 := keepC hbn c20; replace c21 := keepC hbn c21; replace c30 := keepC hbn c30; replace c31 := keepC hbn c31; replace hB := below_of hB hbn hB.size; clear hbn)
      go_ret2
      exact ⟨ret_ii (by rw [hfin.out]) (by rw [hfin.out]), hB⟩
  · have hne : (Pl.ask p (Pl.ptsB p [(ax, ay), (bx, by_), (cx, cy)]) != 0) = true := by simpa using h0
    have hfin : Hid (Pl.areaOf p ax ay bx by_ cx cy = (0, Pl.ask p (Pl.ptsB p [(ax, ay), (bx, by_), (cx, cy)]))) := by unfold Hid Pl.areaOf; rw [if_neg h0]
    clear h0
    go_enter Tryz.func29, Tryz.ntmps29
    go_wp2_with fail
    refine (asked_any p _ _ (Pl.ptsB p [(ax, ay), (bx, by_), (cx, cy)]) _ (by kernel_rfl) ?_).mono ?_
    · intro _
      exact DoubledArea1_any p ax ay bx by_ cx cy _ _ _ _ _ (by go_simp) (by go_simp) (by go_simp) (by go_simp) (by go_simp) (by go_simp) (by go_simp)
    · rintro e w1 ⟨rfl, hb⟩
      have hB : Below w.heap.size w w1 := below_of (by go_grown) hb (by simp <;> omega)
      clear hb
      go_wp2_with fail
      go_ret2
      exact ⟨ret_ii (by rw [hfin.out]) (by rw [hfin.out]), hB⟩
theorem sDoubledArea_any (p ax ay bx by_ cx cy : Int) (w : World) :
    Calls Tryz.prog 30 #[.int .i64 p, .agg #[.int .i64 ax, .int .i64 ay], .agg #[.int .i64 bx, .int .i64 by_], .agg #[.int .i64 cx, .int .i64 cy]] w fun e w' => e = .returned (.tuple #[.int .i64 ((Pl.areaOf p ax ay bx by_ cx cy).1), .int .i64 ((Pl.areaOf p ax ay bx by_ cx cy).2)]) ∧ Below w.heap.size w w' := by
  by_cases h0 : Pl.ask p (Pl.ptsB p [(ax, ay), (bx, by_), (cx, cy)]) = 0
  · have hfin : Hid (Pl.areaOf p ax ay bx by_ cx cy = (Pl.area p ax ay bx by_ cx cy, 0)) := by unfold Hid Pl.areaOf; rw [if_pos h0]
    have hv : Hid (Pl.fieldB p = true ∧ (Pl.ptsB p [(ax, ay), (bx, by_), (cx, cy)]) = true) := Pl.ask_ok h0
    have hp := Pl.field_bd hv.out.1
    obtain ⟨hp1, hp2⟩ := hp
    obtain ⟨⟨ax1, ax2, ay1, ay2⟩, ⟨bx1, bx2, by_1, by_2⟩, cx1, cx2, cy1, cy2⟩ := Pl.pts3_bd hv.out.2
    go_enter Tryz.func30, Tryz.ntmps30
    go_wp2_with fail
    refine (l01Code_any p _ 0 3 3 [(ax, ay), (bx, by_), (cx, cy)] rfl (by omega) _ (by simp) ?_).mono ?_
    · intro j hj
      match j, hj with
      | 0, _ => exact ⟨by go_simp, by go_simp⟩
      | 1, _ => exact ⟨by go_simp, by go_simp⟩
      | 2, _ => exact ⟨by go_simp, by go_simp⟩
    · rintro e w1 ⟨rfl, hb⟩
      have c00 : w1.cell? ⟨w.heap.size, 0, none⟩ = some (.int .i64 ax) := keepC hb (by go_simp)
      have c01 : w1.cell? ⟨w.heap.size, 1, none⟩ = some (.int .i64 ay) := keepC hb (by go_simp)
      have c10 : w1.cell? ⟨w.heap.size + 1, 0, none⟩ = some (.int .i64 bx) := keepC hb (by go_simp)
      have c11 : w1.cell? ⟨w.heap.size + 1, 1, none⟩ = some (.int .i64 by_) := keepC hb (by go_simp)
      have c20 : w1.cell? ⟨w.heap.size + 1 + 1, 0, none⟩ = some (.int .i64 cx) := keepC hb (by go_simp)
      have c21 : w1.cell? ⟨w.heap.size + 1 + 1, 1, none⟩ = some (.int .i64 cy) := keepC hb (by go_simp)
      have hB : Below w.heap.size w w1 := below_of (by go_grown) hb (by simp <;> omega)
      clear hb
      go_wp2_with (go_at_call 79; refine (l01Area_any _ _ _ _ _ _ _ _ (by omega) (by omega) (by omega) (by omega) (by omega) (by omega) (by omega) (by omega) (by omega) (by omega) (by omega) (by omega) (by omega) (by omega)).mono ?_; rintro e w' ⟨rfl, hbn⟩; replace c00 := keepC hbn c00; replace c01 := keepC hbn c01; replace c10 := keepC hbn c10; replace c11 := keepC hbn c11; replace c20 := keepC hbn c20; replace c21 := keepC hbn c21; replace hB := below_of hB hbn hB.size; clear hbn)
      go_ret2
      exact ⟨ret_ii (by rw [hfin.out]) (by rw [hfin.out]), hB⟩
  · have hne : (Pl.ask p (Pl.ptsB p [(ax, ay), (bx, by_), (cx, cy)]) != 0) = true := by simpa using h0
    have hfin : Hid (Pl.areaOf p ax ay bx by_ cx cy = (0, Pl.ask p (Pl.ptsB p [(ax, ay), (bx, by_), (cx, cy)]))) := by unfold Hid Pl.areaOf; rw [if_neg h0]
    clear h0
    go_enter Tryz.func30, Tryz.ntmps30
    go_wp2_with fail
    refine (l01Code_any p _ 0 3 3 [(ax, ay), (bx, by_), (cx, cy)] rfl (by omega) _ (by simp) ?_).mono ?_
    · intro j hj
      match j, hj with
      | 0, _ => exact ⟨by go_simp, by go_simp⟩
      | 1, _ => exact ⟨by go_simp, by go_simp⟩
      | 2, _ => exact ⟨by go_simp, by go_simp⟩
    · rintro e w1 ⟨rfl, hb⟩
      have hB : Below w.heap.size w w1 := below_of (by go_grown) hb (by simp <;> omega)
      clear hb
      go_wp2_with fail
      go_ret2
      exact ⟨ret_ii (by rw [hfin.out]) (by rw [hfin.out]), hB⟩
theorem IsOnLine1_any (p ax ay la lb lc : Int) (b0 b1 b2 : Nat) (w : World) (c00 : w.cell? ⟨b0, 0, none⟩ = some (.int .i64 p)) (c10 : w.cell? ⟨b1, 0, none⟩ = some (.int .i64 ax)) (c11 : w.cell? ⟨b1, 1, none⟩ = some (.int .i64 ay)) (c20 : w.cell? ⟨b2, 0, none⟩ = some (.int .i64 la)) (c21 : w.cell? ⟨b2, 1, none⟩ = some (.int .i64 lb)) (c22 : w.cell? ⟨b2, 2, none⟩ = some (.int .i64 lc)) :
    Calls Tryz.prog 45 #[.pointer (some ⟨b0, 0, none⟩), .pointer (some ⟨b1, 0, none⟩), .pointer (some ⟨b2, 0, none⟩)] w fun e w' => e = .returned (.bool (Pl.ptB p ax ay && Pl.lineB p la lb lc)) ∧ Below w.heap.size w w' := by
  cases h1 : Pl.ptB p ax ay with
  | false =>
    have hB := Below.refl w.heap.size w
    go_enter Tryz.func45, Tryz.ntmps45
    go_wp2_with (first | (go_at_call 46; refine (isPoint_any _ _ _ _).mono ?_; rintro e w' ⟨rfl, hbn⟩; replace c00 := keepC hbn c00; replace c10 := keepC hbn c10; replace c11 := keepC hbn c11; replace c20 := keepC hbn c20; replace c21 := keepC hbn c21; replace c22 := keepC hbn c22; replace hB := below_of hB hbn hB.size; clear hbn) | (go_at_call 47; refine (isLine_any _ _ _ _ _).mono ?_; rintro e w' ⟨rfl, hbn⟩; replace c00 := keepC hbn c00; replace c10 := keepC hbn c10; replace c11 := keepC hbn c11; replace c20 := keepC hbn c20; replace c21 := keepC hbn c21; replace c22 := keepC hbn c22; replace hB := below_of hB hbn hB.size; clear hbn))
    go_ret
    exact ⟨rfl, hB⟩
  | true =>
    have hB := Below.refl w.heap.size w
    go_enter Tryz.func45, Tryz.ntmps45
    go_wp2_with (first | (go_at_call 46; refine (isPoint_any _ _ _ _).mono ?_; rintro e w' ⟨rfl, hbn⟩; replace c00 := keepC hbn c00; replace c10 := keepC hbn c10; replace c11 := keepC hbn c11; replace c20 := keepC hbn c20; replace c21 := keepC hbn c21; replace c22 := keepC hbn c22; replace hB := below_of hB hbn hB.size; clear hbn) | (go_at_call 47; refine (isLine_any _ _ _ _ _).mono ?_; rintro e w' ⟨rfl, hbn⟩; replace c00 := keepC hbn c00; replace c10 := keepC hbn c10; replace c11 := keepC hbn c11; replace c20 := keepC hbn c20; replace c21 := keepC hbn c21; replace c22 := keepC hbn c22; replace hB := below_of hB hbn hB.size; clear hbn))
    go_ret
    exact ⟨rfl, hB⟩
theorem IsOnLine_any (p ax ay la lb lc : Int) (w : World) :
    Calls Tryz.prog 8 #[.int .i64 p, .agg #[.int .i64 ax, .int .i64 ay], .agg #[.int .i64 la, .int .i64 lb, .int .i64 lc]] w fun e w' => e = .returned (.tuple #[.bool ((Pl.onOf p ax ay la lb lc).1), .int .i64 ((Pl.onOf p ax ay la lb lc).2)]) ∧ Below w.heap.size w w' := by
  by_cases h0 : Pl.ask p (Pl.ptB p ax ay && Pl.lineB p la lb lc) = 0
  · have hfin : Hid (Pl.onOf p ax ay la lb lc = (Pl.onB p ax ay la lb lc, 0)) := by unfold Hid Pl.onOf; rw [if_pos h0]
    have hv : Hid (Pl.fieldB p = true ∧ (Pl.ptB p ax ay && Pl.lineB p la lb lc) = true) := Pl.ask_ok h0
    have hp := Pl.field_bd hv.out.1
    obtain ⟨hp1, hp2⟩ := hp
    have hv2 := hv.out.2
    simp only [Bool.and_eq_true] at hv2
    obtain ⟨ax1, ax2, ay1, ay2⟩ := Pl.ptB_bd hv2.1
    obtain ⟨la1, la2, lb1, lb2, lc1, lc2, hl⟩ := Pl.lineB_bd hv2.2
    clear hl hv2
    go_enter Tryz.func8, Tryz.ntmps8
    go_wp2_with fail
    refine (asked_any p _ _ (Pl.ptB p ax ay && Pl.lineB p la lb lc) _ (by kernel_rfl) ?_).mono ?_
    · intro _
      exact IsOnLine1_any p ax ay la lb lc _ _ _ _ (by go_simp) (by go_simp) (by go_simp) (by go_simp) (by go_simp) (by go_simp)
    · rintro e w1 ⟨rfl, hb⟩
      have c00 : w1.cell? ⟨w.heap.size, 0, none⟩ = some (.int .i64 p) := cellOf hb (by go_simp) (by simp <;> omega)
      have c10 : w1.cell? ⟨w.heap.size + 1, 0, none⟩ = some (.int .i64 ax) := cellOf hb (by go_simp) (by simp <;> omega)
      have c11 : w1.cell? ⟨w.heap.size + 1, 1, none⟩ = some (.int .i64 ay) := cellOf hb (by go_simp) (by simp <;> omega)
      have c20 : w1.cell? ⟨w.heap.size + 2, 0, none⟩ = some (.int .i64 la) := cellOf hb (by go_simp) (by simp <;> omega)
      have c21 : w1.cell? ⟨w.heap.size + 2, 1, none⟩ = some (.int .i64 lb) := cellOf hb (by go_simp) (by simp <;> omega)
      have c22 : w1.cell? ⟨w.heap.size + 2, 2, none⟩ = some (.int .i64 lc) := cellOf hb (by go_simp) (by simp <;> omega)
      have hz : w.heap.size + 3 ≤ w1.heap.size := by have := hb.size; simp at this; omega
      have hB : Below w.heap.size w w1 := below_of (by go_grown) hb (by simp <;> omega)
      clear hb
      go_wp2_with (go_at_call 48; refine (isOn_any _ _ _ _ _ _ _ (by omega) (by omega) (by omega) (by omega) (by omega) (by omega) (by omega) (by omega) (by omega) (by omega) (by omega) (by omega)).mono ?_; rintro e w' ⟨rfl, hbn⟩; replace c00 := keepC hbn c00; replace c10 := keepC hbn c10; replace c11 := keepC hbn c11; replace c20 := keepC hbn c20; replace c21 := keepC hbn c21; replace c22 := keepC hbn c22; replace hB := below_of hB hbn hB.size; clear hbn)
      go_ret2
      exact ⟨ret_bi (by rw [hfin.out]) (by rw [hfin.out]), hB⟩
  · have hne : (Pl.ask p (Pl.ptB p ax ay && Pl.lineB p la lb lc) != 0) = true := by simpa using h0
    have hfin : Hid (Pl.onOf p ax ay la lb lc = (false, Pl.ask p (Pl.ptB p ax ay && Pl.lineB p la lb lc))) := by unfold Hid Pl.onOf; rw [if_neg h0]
    clear h0
    go_enter Tryz.func8, Tryz.ntmps8
    go_wp2_with fail
    refine (asked_any p _ _ (Pl.ptB p ax ay && Pl.lineB p la lb lc) _ (by kernel_rfl) ?_).mono ?_
    · intro _
      exact IsOnLine1_any p ax ay la lb lc _ _ _ _ (by go_simp) (by go_simp) (by go_simp) (by go_simp) (by go_simp) (by go_simp)
    · rintro e w1 ⟨rfl, hb⟩
      have hB : Below w.heap.size w w1 := below_of (by go_grown) hb (by simp <;> omega)
      clear hb
      go_wp2_with fail
      go_ret2
      exact ⟨ret_bi (by rw [hfin.out]) (by rw [hfin.out]), hB⟩
theorem sIsOnLine_any (p ax ay la lb lc : Int) (w : World) :
    Calls Tryz.prog 35 #[.int .i64 p, .agg #[.int .i64 ax, .int .i64 ay], .agg #[.int .i64 la, .int .i64 lb, .int .i64 lc]] w fun e w' => e = .returned (.tuple #[.bool ((Pl.onOf p ax ay la lb lc).1), .int .i64 ((Pl.onOf p ax ay la lb lc).2)]) ∧ Below w.heap.size w w' := by
  by_cases h0 : Pl.ask p (Pl.ptB p ax ay && Pl.lineB p la lb lc) = 0
  · have hfin : Hid (Pl.onOf p ax ay la lb lc = (Pl.onB p ax ay la lb lc, 0)) := by unfold Hid Pl.onOf; rw [if_pos h0]
    have hv : Hid (Pl.fieldB p = true ∧ (Pl.ptB p ax ay && Pl.lineB p la lb lc) = true) := Pl.ask_ok h0
    have hp := Pl.field_bd hv.out.1
    obtain ⟨hp1, hp2⟩ := hp
    have hv2 := hv.out.2
    simp only [Bool.and_eq_true] at hv2
    obtain ⟨ax1, ax2, ay1, ay2⟩ := Pl.ptB_bd hv2.1
    obtain ⟨la1, la2, lb1, lb2, lc1, lc2, hl⟩ := Pl.lineB_bd hv2.2
    clear hl hv2
    go_enter Tryz.func35, Tryz.ntmps35
    go_wp2_with fail
    refine (l01Both_any _ _ _ _ _ _ _).mono ?_
    · rintro e w1 ⟨rfl, hb⟩
      have c00 : w1.cell? ⟨w.heap.size, 0, none⟩ = some (.int .i64 ax) := keepC hb (by go_simp)
      have c01 : w1.cell? ⟨w.heap.size, 1, none⟩ = some (.int .i64 ay) := keepC hb (by go_simp)
      have c10 : w1.cell? ⟨w.heap.size + 1, 0, none⟩ = some (.int .i64 la) := keepC hb (by go_simp)
      have c11 : w1.cell? ⟨w.heap.size + 1, 1, none⟩ = some (.int .i64 lb) := keepC hb (by go_simp)
      have c12 : w1.cell? ⟨w.heap.size + 1, 2, none⟩ = some (.int .i64 lc) := keepC hb (by go_simp)
      have hB : Below w.heap.size w w1 := below_of (by go_grown) hb (by simp <;> omega)
      clear hb
      go_wp2_with (go_at_call 76; refine (l01On_any _ _ _ _ _ _ _ (by omega) (by omega) (by omega) (by omega) (by omega) (by omega) (by omega) (by omega) (by omega) (by omega) (by omega) (by omega)).mono ?_; rintro e w' ⟨rfl, hbn⟩; replace c00 := keepC hbn c00; replace c01 := keepC hbn c01; replace c10 := keepC hbn c10; replace c11 := keepC hbn c11; replace c12 := keepC hbn c12; replace hB := below_of hB hbn hB.size; clear hbn)
      go_ret2
      exact ⟨ret_bi (by rw [hfin.out]) (by rw [hfin.out]), hB⟩
  · have hne : (Pl.ask p (Pl.ptB p ax ay && Pl.lineB p la lb lc) != 0) = true := by simpa using h0
    have hfin : Hid (Pl.onOf p ax ay la lb lc = (false, Pl.ask p (Pl.ptB p ax ay && Pl.lineB p la lb lc))) := by unfold Hid Pl.onOf; rw [if_neg h0]
    clear h0
    go_enter Tryz.func35, Tryz.ntmps35
    go_wp2_with fail
    refine (l01Both_any _ _ _ _ _ _ _).mono ?_
    · rintro e w1 ⟨rfl, hb⟩
      have hB : Below w.heap.size w w1 := below_of (by go_grown) hb (by simp <;> omega)
      clear hb
      go_wp2_with fail
      go_ret2
      exact ⟨ret_bi (by rw [hfin.out]) (by rw [hfin.out]), hB⟩
end Go.Proofs.YtbjcbbnfgfmllaaGreat
