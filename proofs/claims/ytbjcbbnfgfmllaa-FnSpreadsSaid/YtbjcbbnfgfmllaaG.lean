/- Contracts: parallels, collinear points, areas, incidence, products: exported functions of both sides; arrays into points and lines. -/
import Derived.Test.YtbjcbbnfgfmllaaF
set_option linter.unusedVariables false
set_option linter.unusedSimpArgs false
set_option maxRecDepth 100000
set_option maxHeartbeats 1000000
namespace Go.Proofs.Ytbjcbbnfgfmllaa
open Go.RowKit
theorem IsOnLine1_any (p ax ay la lb lc : Int) (b0 b1 b2 : Nat) (w : World) (c00 : w.cell? ⟨b0, 0, none⟩ = some (.int .i64 p)) (c10 : w.cell? ⟨b1, 0, none⟩ = some (.int .i64 ax)) (c11 : w.cell? ⟨b1, 1, none⟩ = some (.int .i64 ay)) (c20 : w.cell? ⟨b2, 0, none⟩ = some (.int .i64 la)) (c21 : w.cell? ⟨b2, 1, none⟩ = some (.int .i64 lb)) (c22 : w.cell? ⟨b2, 2, none⟩ = some (.int .i64 lc)) :
    Calls Try.prog 140 #[.pointer (some ⟨b0, 0, none⟩), .pointer (some ⟨b1, 0, none⟩), .pointer (some ⟨b2, 0, none⟩)] w fun e w' => e = .returned (.bool (Pl.ptB p ax ay && Pl.lineB p la lb lc)) ∧ Below w.heap.size w w' := by
  cases h1 : Pl.ptB p ax ay with
  | false =>
    have hB := Below.refl w.heap.size w
    go_enter Try.func140, Try.ntmps140
    go_wp2_with (first | (go_at_call 112; refine (isPoint_any _ _ _ _).mono ?_; rintro e w' ⟨rfl, hbn⟩; replace c00 := keepC hbn c00; replace c10 := keepC hbn c10; replace c11 := keepC hbn c11; replace c20 := keepC hbn c20; replace c21 := keepC hbn c21; replace c22 := keepC hbn c22; replace hB := below_of hB hbn hB.size; clear hbn) | (go_at_call 123; refine (isLine_any _ _ _ _ _).mono ?_; rintro e w' ⟨rfl, hbn⟩; replace c00 := keepC hbn c00; replace c10 := keepC hbn c10; replace c11 := keepC hbn c11; replace c20 := keepC hbn c20; replace c21 := keepC hbn c21; replace c22 := keepC hbn c22; replace hB := below_of hB hbn hB.size; clear hbn))
    go_ret
    exact ⟨rfl, hB⟩
  | true =>
    have hB := Below.refl w.heap.size w
    go_enter Try.func140, Try.ntmps140
    go_wp2_with (first | (go_at_call 112; refine (isPoint_any _ _ _ _).mono ?_; rintro e w' ⟨rfl, hbn⟩; replace c00 := keepC hbn c00; replace c10 := keepC hbn c10; replace c11 := keepC hbn c11; replace c20 := keepC hbn c20; replace c21 := keepC hbn c21; replace c22 := keepC hbn c22; replace hB := below_of hB hbn hB.size; clear hbn) | (go_at_call 123; refine (isLine_any _ _ _ _ _).mono ?_; rintro e w' ⟨rfl, hbn⟩; replace c00 := keepC hbn c00; replace c10 := keepC hbn c10; replace c11 := keepC hbn c11; replace c20 := keepC hbn c20; replace c21 := keepC hbn c21; replace c22 := keepC hbn c22; replace hB := below_of hB hbn hB.size; clear hbn))
    go_ret
    exact ⟨rfl, hB⟩
theorem IsOnLine_any (p ax ay la lb lc : Int) (w : World) :
    Calls Try.prog 61 #[.int .i64 p, .agg #[.int .i64 ax, .int .i64 ay], .agg #[.int .i64 la, .int .i64 lb, .int .i64 lc]] w fun e w' => e = .returned (.tuple #[.bool ((Pl.onOf p ax ay la lb lc).1), .int .i64 ((Pl.onOf p ax ay la lb lc).2)]) ∧ Below w.heap.size w w' := by
  by_cases h0 : Pl.ask p (Pl.ptB p ax ay && Pl.lineB p la lb lc) = 0
  · have hfin : Hid (Pl.onOf p ax ay la lb lc = (Pl.onB p ax ay la lb lc, 0)) := by unfold Hid Pl.onOf; rw [if_pos h0]
    have hv : Hid (Pl.fieldB p = true ∧ (Pl.ptB p ax ay && Pl.lineB p la lb lc) = true) := Pl.ask_ok h0
    have hp := Pl.field_bd hv.out.1
    obtain ⟨hp1, hp2⟩ := hp
    have hv2 := hv.out.2
    simp only [Bool.and_eq_true] at hv2
    obtain ⟨ax1, ax2, ay1, ay2⟩ := Pl.ptB_bd hv2.1
    obtain ⟨la1, la2, lb1, lb2, lc1, lc2, hl⟩ := Pl.lineB_bd hv2.2
    clear hl hv2
    go_enter Try.func61, Try.ntmps61
    go_wp2_with fail
    refine (asked_any p _ _ (Pl.ptB p ax ay && Pl.lineB p la lb lc) _ (by kernel_rfl) ?_).mono ?_
    · intro _
      exact IsOnLine1_any p ax ay la lb lc _ _ _ _ (by go_simp) (by go_simp) (by go_simp) (by go_simp) (by go_simp) (by go_simp)
    · rintro e w1 ⟨rfl, hb⟩
      have c00 : w1.cell? ⟨w.heap.size, 0, none⟩ = some (.int .i64 p) := cellOf hb (by go_simp) (by simp <;> omega)
      have c10 : w1.cell? ⟨w.heap.size + 1, 0, none⟩ = some (.int .i64 ax) := cellOf hb (by go_simp) (by simp <;> omega)
      have c11 : w1.cell? ⟨w.heap.size + 1, 1, none⟩ = some (.int .i64 ay) := cellOf hb (by go_simp) (by simp <;> omega)
      have c20 : w1.cell? ⟨w.heap.size + 2, 0, none⟩ = some (.int .i64 la) := cellOf hb (by go_simp) (by simp <;> omega)
      have c21 : w1.cell? ⟨w.heap.size + 2, 1, none⟩ = some (.int .i64 lb) := cellOf hb (by go_simp) (by simp <;> omega)
      have c22 : w1.cell? ⟨w.heap.size + 2, 2, none⟩ = some (.int .i64 lc) := cellOf hb (by go_simp) (by simp <;> omega)
      have hz : w.heap.size + 3 ≤ w1.heap.size := by have := hb.size; simp at this; omega
      have hB : Below w.heap.size w w1 := below_of (by go_grown) hb (by simp <;> omega)
      clear hb
      go_wp2_with (go_at_call 141; refine (isOn_any _ _ _ _ _ _ _ (by omega) (by omega) (by omega) (by omega) (by omega) (by omega) (by omega) (by omega) (by omega) (by omega) (by omega) (by omega)).mono ?_; rintro e w' ⟨rfl, hbn⟩; replace c00 := keepC hbn c00; replace c10 := keepC hbn c10; replace c11 := keepC hbn c11; replace c20 := keepC hbn c20; replace c21 := keepC hbn c21; replace c22 := keepC hbn c22; replace hB := below_of hB hbn hB.size; clear hbn)
      go_ret2
      exact ⟨ret_bi (by rw [hfin.out]) (by rw [hfin.out]), hB⟩
  · have hne : (Pl.ask p (Pl.ptB p ax ay && Pl.lineB p la lb lc) != 0) = true := by simpa using h0
    have hfin : Hid (Pl.onOf p ax ay la lb lc = (false, Pl.ask p (Pl.ptB p ax ay && Pl.lineB p la lb lc))) := by unfold Hid Pl.onOf; rw [if_neg h0]
    clear h0
    go_enter Try.func61, Try.ntmps61
    go_wp2_with fail
    refine (asked_any p _ _ (Pl.ptB p ax ay && Pl.lineB p la lb lc) _ (by kernel_rfl) ?_).mono ?_
    · intro _
      exact IsOnLine1_any p ax ay la lb lc _ _ _ _ (by go_simp) (by go_simp) (by go_simp) (by go_simp) (by go_simp) (by go_simp)
    · rintro e w1 ⟨rfl, hb⟩
      have hB : Below w.heap.size w w1 := below_of (by go_grown) hb (by simp <;> omega)
      clear hb
      go_wp2_with fail
      go_ret2
      exact ⟨ret_bi (by rw [hfin.out]) (by rw [hfin.out]), hB⟩
theorem ProductOf1_any (p k ax ay bx by_ : Int) (b0 b1 b2 b3 : Nat) (w : World) (c00 : w.cell? ⟨b0, 0, none⟩ = some (.int .i64 p)) (c10 : w.cell? ⟨b1, 0, none⟩ = some (.int .i64 k)) (c20 : w.cell? ⟨b2, 0, none⟩ = some (.int .i64 ax)) (c21 : w.cell? ⟨b2, 1, none⟩ = some (.int .i64 ay)) (c30 : w.cell? ⟨b3, 0, none⟩ = some (.int .i64 bx)) (c31 : w.cell? ⟨b3, 1, none⟩ = some (.int .i64 by_)) :
    Calls Try.prog 104 #[.pointer (some ⟨b1, 0, none⟩), .pointer (some ⟨b0, 0, none⟩), .pointer (some ⟨b2, 0, none⟩), .pointer (some ⟨b3, 0, none⟩)] w fun e w' => e = .returned (.bool (Pl.colB k && Pl.ptsB p [(ax, ay), (bx, by_)])) ∧ Below w.heap.size w w' := by
  cases hk : Pl.colB k with
  | false =>
    go_enter Try.func104, Try.ntmps104
    go_wp2_with (go_at_call 75; refine (isColour_any _ _).mono ?_; rintro e w' ⟨rfl, rfl⟩)
    go_ret
    exact ⟨rfl, Below.refl _ _⟩
  | true =>
    go_enter Try.func104, Try.ntmps104
    go_wp2_with (go_at_call 75; refine (isColour_any _ _).mono ?_; rintro e w' ⟨rfl, rfl⟩)
    refine (arePoints_any p _ 0 2 2 [(ax, ay), (bx, by_)] rfl (by omega) _ (by simp) ?_).mono ?_
    · intro j hj
      match j, hj with
      | 0, _ => exact ⟨by go_simp, by go_simp⟩
      | 1, _ => exact ⟨by go_simp, by go_simp⟩
    · rintro e w' ⟨rfl, hb⟩
      go_wp2_with fail
      go_ret
      exact ⟨rfl, below_of (by go_grown) hb (by simp <;> omega)⟩
theorem ProductOf_any (p k ax ay bx by_ : Int) (w : World) :
    Calls Try.prog 34 #[.int .i64 p, .int .i64 k, .agg #[.int .i64 ax, .int .i64 ay], .agg #[.int .i64 bx, .int .i64 by_]] w fun e w' => e = .returned (.tuple #[.int .i64 ((Pl.prodOf p k ax ay bx by_).1), .int .i64 ((Pl.prodOf p k ax ay bx by_).2)]) ∧ Below w.heap.size w w' := by
  by_cases h0 : Pl.ask p (Pl.colB k && Pl.ptsB p [(ax, ay), (bx, by_)]) = 0
  · have hfin : Hid (Pl.prodOf p k ax ay bx by_ = (Pl.prod p k ax ay bx by_, 0)) := by unfold Hid Pl.prodOf; rw [if_pos h0]
    have hv : Hid (Pl.fieldB p = true ∧ (Pl.colB k && Pl.ptsB p [(ax, ay), (bx, by_)]) = true) := Pl.ask_ok h0
    have hp := Pl.field_bd hv.out.1
    obtain ⟨hp1, hp2⟩ := hp
    have hv2 := hv.out.2
    simp only [Bool.and_eq_true] at hv2
    obtain ⟨⟨ax1, ax2, ay1, ay2⟩, bx1, bx2, by_1, by_2⟩ := Pl.pts2_bd hv2.2
    clear hv2
    go_enter Try.func34, Try.ntmps34
    go_wp2_with fail
    refine (asked_any p _ _ (Pl.colB k && Pl.ptsB p [(ax, ay), (bx, by_)]) _ (by kernel_rfl) ?_).mono ?_
    · intro _
      exact ProductOf1_any p k ax ay bx by_ _ _ _ _ _ (by go_simp) (by go_simp) (by go_simp) (by go_simp) (by go_simp) (by go_simp)
    · rintro e w1 ⟨rfl, hb⟩
      have c00 : w1.cell? ⟨w.heap.size, 0, none⟩ = some (.int .i64 p) := cellOf hb (by go_simp) (by simp <;> omega)
      have c10 : w1.cell? ⟨w.heap.size + 1, 0, none⟩ = some (.int .i64 k) := cellOf hb (by go_simp) (by simp <;> omega)
      have c20 : w1.cell? ⟨w.heap.size + 2, 0, none⟩ = some (.int .i64 ax) := cellOf hb (by go_simp) (by simp <;> omega)
      have c21 : w1.cell? ⟨w.heap.size + 2, 1, none⟩ = some (.int .i64 ay) := cellOf hb (by go_simp) (by simp <;> omega)
      have c30 : w1.cell? ⟨w.heap.size + 3, 0, none⟩ = some (.int .i64 bx) := cellOf hb (by go_simp) (by simp <;> omega)
      have c31 : w1.cell? ⟨w.heap.size + 3, 1, none⟩ = some (.int .i64 by_) := cellOf hb (by go_simp) (by simp <;> omega)
      have hz : w.heap.size + 4 ≤ w1.heap.size := by have := hb.size; simp at this; omega
      have hB : Below w.heap.size w w1 := below_of (by go_grown) hb (by simp <;> omega)
      clear hb
      go_wp2_with (go_at_call 105; refine (product_any _ _ _ _ _ _ _ (by omega) (by omega) (by omega) (by omega) (by omega) (by omega) (by omega) (by omega) (by omega) (by omega)).mono ?_; rintro e w' ⟨rfl, hbn⟩; replace c00 := keepC hbn c00; replace c10 := keepC hbn c10; replace c20 := keepC hbn c20; replace c21 := keepC hbn c21; replace c30 := keepC hbn c30; replace c31 := keepC hbn c31; replace hB := below_of hB hbn hB.size; clear hbn)
      go_ret2
      exact ⟨ret_ii (by rw [hfin.out]) (by rw [hfin.out]), hB⟩
  · have hne : (Pl.ask p (Pl.colB k && Pl.ptsB p [(ax, ay), (bx, by_)]) != 0) = true := by simpa using h0
    have hfin : Hid (Pl.prodOf p k ax ay bx by_ = (0, Pl.ask p (Pl.colB k && Pl.ptsB p [(ax, ay), (bx, by_)]))) := by unfold Hid Pl.prodOf; rw [if_neg h0]
    clear h0
    go_enter Try.func34, Try.ntmps34
    go_wp2_with fail
    refine (asked_any p _ _ (Pl.colB k && Pl.ptsB p [(ax, ay), (bx, by_)]) _ (by kernel_rfl) ?_).mono ?_
    · intro _
      exact ProductOf1_any p k ax ay bx by_ _ _ _ _ _ (by go_simp) (by go_simp) (by go_simp) (by go_simp) (by go_simp) (by go_simp)
    · rintro e w1 ⟨rfl, hb⟩
      have hB : Below w.heap.size w w1 := below_of (by go_grown) hb (by simp <;> omega)
      clear hb
      go_wp2_with fail
      go_ret2
      exact ⟨ret_ii (by rw [hfin.out]) (by rw [hfin.out]), hB⟩
theorem sProductOf_any (p k ax ay bx by_ : Int) (w : World) :
    Calls Try.prog 35 #[.int .i64 p, .int .i64 k, .agg #[.int .i64 ax, .int .i64 ay], .agg #[.int .i64 bx, .int .i64 by_]] w fun e w' => e = .returned (.tuple #[.int .i64 ((Pl.prodOf p k ax ay bx by_).1), .int .i64 ((Pl.prodOf p k ax ay bx by_).2)]) ∧ Below w.heap.size w w' := by
  by_cases h0 : Pl.ask p (Pl.colB k && Pl.ptsB p [(ax, ay), (bx, by_)]) = 0
  · have hfin : Hid (Pl.prodOf p k ax ay bx by_ = (Pl.prod p k ax ay bx by_, 0)) := by unfold Hid Pl.prodOf; rw [if_pos h0]
    have hv : Hid (Pl.fieldB p = true ∧ (Pl.colB k && Pl.ptsB p [(ax, ay), (bx, by_)]) = true) := Pl.ask_ok h0
    have hp := Pl.field_bd hv.out.1
    obtain ⟨hp1, hp2⟩ := hp
    have hv2 := hv.out.2
    simp only [Bool.and_eq_true] at hv2
    obtain ⟨⟨ax1, ax2, ay1, ay2⟩, bx1, bx2, by_1, by_2⟩ := Pl.pts2_bd hv2.2
    clear hv2
    go_enter Try.func35, Try.ntmps35
    go_wp2_with fail
    refine (l02Code_any p k _ 0 2 2 [(ax, ay), (bx, by_)] rfl (by omega) _ (by simp) ?_).mono ?_
    · intro j hj
      match j, hj with
      | 0, _ => exact ⟨by go_simp, by go_simp⟩
      | 1, _ => exact ⟨by go_simp, by go_simp⟩
    · rintro e w1 ⟨rfl, hb⟩
      have c00 : w1.cell? ⟨w.heap.size, 0, none⟩ = some (.int .i64 ax) := keepC hb (by go_simp)
      have c01 : w1.cell? ⟨w.heap.size, 1, none⟩ = some (.int .i64 ay) := keepC hb (by go_simp)
      have c10 : w1.cell? ⟨w.heap.size + 1, 0, none⟩ = some (.int .i64 bx) := keepC hb (by go_simp)
      have c11 : w1.cell? ⟨w.heap.size + 1, 1, none⟩ = some (.int .i64 by_) := keepC hb (by go_simp)
      have hB : Below w.heap.size w w1 := below_of (by go_grown) hb (by simp <;> omega)
      clear hb
      go_wp2_with (go_at_call 106; refine (l02Product_any _ _ _ _ _ _ _ (by omega) (by omega) (by omega) (by omega) (by omega) (by omega) (by omega) (by omega) (by omega) (by omega)).mono ?_; rintro e w' ⟨rfl, hbn⟩; replace c00 := keepC hbn c00; replace c01 := keepC hbn c01; replace c10 := keepC hbn c10; replace c11 := keepC hbn c11; replace hB := below_of hB hbn hB.size; clear hbn)
      go_ret2
      exact ⟨ret_ii (by rw [hfin.out]) (by rw [hfin.out]), hB⟩
  · have hne : (Pl.ask p (Pl.colB k && Pl.ptsB p [(ax, ay), (bx, by_)]) != 0) = true := by simpa using h0
    have hfin : Hid (Pl.prodOf p k ax ay bx by_ = (0, Pl.ask p (Pl.colB k && Pl.ptsB p [(ax, ay), (bx, by_)]))) := by unfold Hid Pl.prodOf; rw [if_neg h0]
    clear h0
    go_enter Try.func35, Try.ntmps35
    go_wp2_with fail
    refine (l02Code_any p k _ 0 2 2 [(ax, ay), (bx, by_)] rfl (by omega) _ (by simp) ?_).mono ?_
    · intro j hj
      match j, hj with
      | 0, _ => exact ⟨by go_simp, by go_simp⟩
      | 1, _ => exact ⟨by go_simp, by go_simp⟩
    · rintro e w1 ⟨rfl, hb⟩
      have hB : Below w.heap.size w w1 := below_of (by go_grown) hb (by simp <;> omega)
      clear hb
      go_wp2_with fail
      go_ret2
      exact ⟨ret_ii (by rw [hfin.out]) (by rw [hfin.out]), hB⟩
end Go.Proofs.Ytbjcbbnfgfmllaa
