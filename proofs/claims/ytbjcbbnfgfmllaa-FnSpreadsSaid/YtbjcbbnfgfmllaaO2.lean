/- Contracts: codes of two lines; crosses, spreads and twists: exported functions of both sides. -/
import Derived.Test.YtbjcbbnfgfmllaaO
import Derived.Test.YtbjcbbnfgfmllaaPlA
set_option linter.unusedVariables false
set_option linter.unusedSimpArgs false
set_option maxHeartbeats 1000000
set_option maxRecDepth 100000
namespace Go.Proofs.Ytbjcbbnfgfmllaa
open Go.RowKit
theorem l03Null_any (p k la lb lc : Int) (w : World) (hp1 : 1 ≤ p) (hp2 : p ≤ 31) (la1 : 0 ≤ la) (la2 : la ≤ 31) (lb1 : 0 ≤ lb) (lb2 : lb ≤ 31) (lc1 : 0 ≤ lc) (lc2 : lc ≤ 31) :
    Calls Try.prog 146 #[.int .i64 p, .int .i64 k, .agg #[.int .i64 la, .int .i64 lb, .int .i64 lc]] w fun e w' => e = .returned (.bool (Pl.nullB p k la lb)) ∧ Below w.heap.size w w' := by
  have hd1 := Int.emod_nonneg (-lb) (show p ≠ 0 by omega)
  have hd2 := Int.emod_lt_of_pos (-lb) (show 0 < p by omega)
  go_enter Try.func146, Try.ntmps146
  go_wp2_with fail
  generalize hW : (World.alloc w (.cells #[.int .i64 la, .int .i64 lb, .int .i64 lc] 25)) = W
  have d00 : W.cell? ⟨w.heap.size, 0, none⟩ = some (.int .i64 la) := by subst hW; go_simp
  have d01 : W.cell? ⟨w.heap.size, 1, none⟩ = some (.int .i64 lb) := by subst hW; go_simp
  have d02 : W.cell? ⟨w.heap.size, 2, none⟩ = some (.int .i64 lc) := by subst hW; go_simp
  have hB : Below w.heap.size w W := by subst hW; go_grown
  clear hW
  go_wp2_with (first | (go_at_call 127; refine (l02Direction_any _ _ _ _ _ (by omega) (by omega) (by omega) (by omega) (by omega) (by omega) (by omega) (by omega)).mono ?_; rintro e w' ⟨rfl, hbn⟩; replace hB := below_of (B := w.heap.size) (a := w) (by first | exact hB | (have := hB.size; go_grown)) hbn (by first | exact hB.size | (have := hB.size; simp <;> omega)); clear hbn) | (go_at_call 106; refine (l02Product_any _ _ _ _ _ _ _ (by omega) (by omega) (by omega) (by omega) (by omega) (by omega) (by omega) (by omega) (by omega) (by omega)).mono ?_; rintro e w' ⟨rfl, hbn⟩; replace hB := below_of (B := w.heap.size) (a := w) (by first | exact hB | (have := hB.size; go_grown)) hbn (by first | exact hB.size | (have := hB.size; simp <;> omega)); clear hbn))
  go_ret
  exact ⟨rfl, by first | exact hB | go_grown⟩
theorem twoLines1_any (p k la lb lc ma mb mc : Int) (b0 b1 b2 b3 : Nat) (w : World) (c00 : w.cell? ⟨b0, 0, none⟩ = some (.int .i64 p)) (c10 : w.cell? ⟨b1, 0, none⟩ = some (.int .i64 k)) (c20 : w.cell? ⟨b2, 0, none⟩ = some (.int .i64 la)) (c21 : w.cell? ⟨b2, 1, none⟩ = some (.int .i64 lb)) (c22 : w.cell? ⟨b2, 2, none⟩ = some (.int .i64 lc)) (c30 : w.cell? ⟨b3, 0, none⟩ = some (.int .i64 ma)) (c31 : w.cell? ⟨b3, 1, none⟩ = some (.int .i64 mb)) (c32 : w.cell? ⟨b3, 2, none⟩ = some (.int .i64 mc)) :
    Calls Try.prog 144 #[.pointer (some ⟨b1, 0, none⟩), .pointer (some ⟨b0, 0, none⟩), .pointer (some ⟨b2, 0, none⟩), .pointer (some ⟨b3, 0, none⟩)] w fun e w' => e = .returned (.bool (Pl.colB k && Pl.linesB p [(la, lb, lc), (ma, mb, mc)])) ∧ Below w.heap.size w w' := by
  cases hk : Pl.colB k with
  | false =>
    go_enter Try.func144, Try.ntmps144
    go_wp2_with (go_at_call 75; refine (isColour_any _ _).mono ?_; rintro e w' ⟨rfl, rfl⟩)
    go_ret
    exact ⟨rfl, Below.refl _ _⟩
  | true =>
    go_enter Try.func144, Try.ntmps144
    go_wp2_with (go_at_call 75; refine (isColour_any _ _).mono ?_; rintro e w' ⟨rfl, rfl⟩)
    refine (areLines_any p _ 0 2 2 [(la, lb, lc), (ma, mb, mc)] rfl (by omega) _ (by simp) ?_).mono ?_
    · intro j hj
      match j, hj with
      | 0, _ => exact ⟨by go_simp, by go_simp, by go_simp⟩
      | 1, _ => exact ⟨by go_simp, by go_simp, by go_simp⟩
    · rintro e w' ⟨rfl, hb⟩
      go_wp2_with fail
      go_ret
      exact ⟨rfl, below_of (by go_grown) hb (by simp <;> omega)⟩
theorem twoLines_any (p k la lb lc ma mb mc : Int) (w : World) :
    Calls Try.prog 63 #[.int .i64 p, .int .i64 k, .agg #[.int .i64 la, .int .i64 lb, .int .i64 lc], .agg #[.int .i64 ma, .int .i64 mb, .int .i64 mc]] w fun e w' => e = .returned (.int .i64 (Pl.twoL p k la lb lc ma mb mc)) ∧ Below w.heap.size w w' := by
  by_cases h0 : Pl.ask p (Pl.colB k && Pl.linesB p [(la, lb, lc), (ma, mb, mc)]) = 0
  · have hv : Hid (Pl.fieldB p = true ∧ (Pl.colB k && Pl.linesB p [(la, lb, lc), (ma, mb, mc)]) = true) := Pl.ask_ok h0
    have hp := Pl.field_bd hv.out.1
    obtain ⟨hp1, hp2⟩ := hp
    have hv2 := hv.out.2
    simp only [Bool.and_eq_true] at hv2
    obtain ⟨⟨la1, la2, lb1, lb2, lc1, lc2, hl⟩, ma1, ma2, mb1, mb2, mc1, mc2, hm⟩ := Pl.lines2_bd hv2.2
    clear hv2 hl hm
    have hfin : Hid (Pl.twoL p k la lb lc ma mb mc = if Pl.nullB p k la lb = true ∨ Pl.nullB p k ma mb = true then 5 else 0) := by unfold Hid Pl.twoL; rw [if_pos h0]
    cases n1 : Pl.nullB p k la lb with
    | true =>
      have hc := hid (show Pl.nullB p k la lb = true ∨ Pl.nullB p k ma mb = true from .inl n1)
      go_enter Try.func63, Try.ntmps63
      go_wp2_with fail
      refine (asked_any p _ _ (Pl.colB k && Pl.linesB p [(la, lb, lc), (ma, mb, mc)]) _ (by kernel_rfl) ?_).mono ?_
      · intro _
        exact twoLines1_any p k la lb lc ma mb mc _ _ _ _ _ (by go_simp) (by go_simp) (by go_simp) (by go_simp) (by go_simp) (by go_simp) (by go_simp) (by go_simp)
      · rintro e w1 ⟨rfl, hb⟩
        have c00 : w1.cell? ⟨w.heap.size, 0, none⟩ = some (.int .i64 p) := keepC hb (by go_simp)
        have c10 : w1.cell? ⟨w.heap.size + 1, 0, none⟩ = some (.int .i64 k) := keepC hb (by go_simp)
        have c20 : w1.cell? ⟨w.heap.size + 1 + 1, 0, none⟩ = some (.int .i64 la) := keepC hb (by go_simp)
        have c21 : w1.cell? ⟨w.heap.size + 1 + 1, 1, none⟩ = some (.int .i64 lb) := keepC hb (by go_simp)
        have c22 : w1.cell? ⟨w.heap.size + 1 + 1, 2, none⟩ = some (.int .i64 lc) := keepC hb (by go_simp)
        have c30 : w1.cell? ⟨w.heap.size + 1 + 1 + 1, 0, none⟩ = some (.int .i64 ma) := keepC hb (by go_simp)
        have c31 : w1.cell? ⟨w.heap.size + 1 + 1 + 1, 1, none⟩ = some (.int .i64 mb) := keepC hb (by go_simp)
        have c32 : w1.cell? ⟨w.heap.size + 1 + 1 + 1, 2, none⟩ = some (.int .i64 mc) := keepC hb (by go_simp)
        have hB : Below w.heap.size w w1 := below_of (by go_grown) hb (by simp <;> omega)
        clear hb
        go_wp2_with (go_at_call 132; refine (isNull_any _ _ _ _ _ _ (by omega) (by omega) (by omega) (by omega) (by omega) (by omega) (by omega) (by omega)).mono ?_; rintro e w' ⟨rfl, hbn⟩; replace c00 := keepC hbn c00; replace c10 := keepC hbn c10; replace c20 := keepC hbn c20; replace c21 := keepC hbn c21; replace c22 := keepC hbn c22; replace c30 := keepC hbn c30; replace c31 := keepC hbn c31; replace c32 := keepC hbn c32; replace hB := below_of hB hbn hB.size; clear hbn)
        go_ret
        exact ⟨ret_int (by rw [hfin.out, if_pos hc.out]), hB⟩
    | false =>
      cases n2 : Pl.nullB p k ma mb with
      | true =>
        have hc := hid (show Pl.nullB p k la lb = true ∨ Pl.nullB p k ma mb = true from .inr n2)
        go_enter Try.func63, Try.ntmps63
        go_wp2_with fail
        refine (asked_any p _ _ (Pl.colB k && Pl.linesB p [(la, lb, lc), (ma, mb, mc)]) _ (by kernel_rfl) ?_).mono ?_
        · intro _
          exact twoLines1_any p k la lb lc ma mb mc _ _ _ _ _ (by go_simp) (by go_simp) (by go_simp) (by go_simp) (by go_simp) (by go_simp) (by go_simp) (by go_simp)
        · rintro e w1 ⟨rfl, hb⟩
          have c00 : w1.cell? ⟨w.heap.size, 0, none⟩ = some (.int .i64 p) := keepC hb (by go_simp)
          have c10 : w1.cell? ⟨w.heap.size + 1, 0, none⟩ = some (.int .i64 k) := keepC hb (by go_simp)
          have c20 : w1.cell? ⟨w.heap.size + 1 + 1, 0, none⟩ = some (.int .i64 la) := keepC hb (by go_simp)
          have c21 : w1.cell? ⟨w.heap.size + 1 + 1, 1, none⟩ = some (.int .i64 lb) := keepC hb (by go_simp)
          have c22 : w1.cell? ⟨w.heap.size + 1 + 1, 2, none⟩ = some (.int .i64 lc) := keepC hb (by go_simp)
          have c30 : w1.cell? ⟨w.heap.size + 1 + 1 + 1, 0, none⟩ = some (.int .i64 ma) := keepC hb (by go_simp)
          have c31 : w1.cell? ⟨w.heap.size + 1 + 1 + 1, 1, none⟩ = some (.int .i64 mb) := keepC hb (by go_simp)
          have c32 : w1.cell? ⟨w.heap.size + 1 + 1 + 1, 2, none⟩ = some (.int .i64 mc) := keepC hb (by go_simp)
          have hB : Below w.heap.size w w1 := below_of (by go_grown) hb (by simp <;> omega)
          clear hb
          go_wp2_with (go_at_call 132; refine (isNull_any _ _ _ _ _ _ (by omega) (by omega) (by omega) (by omega) (by omega) (by omega) (by omega) (by omega)).mono ?_; rintro e w' ⟨rfl, hbn⟩; replace c00 := keepC hbn c00; replace c10 := keepC hbn c10; replace c20 := keepC hbn c20; replace c21 := keepC hbn c21; replace c22 := keepC hbn c22; replace c30 := keepC hbn c30; replace c31 := keepC hbn c31; replace c32 := keepC hbn c32; replace hB := below_of hB hbn hB.size; clear hbn)
          go_ret
          exact ⟨ret_int (by rw [hfin.out, if_pos hc.out]), hB⟩
      | false =>
        have hc := hid (show ¬ (Pl.nullB p k la lb = true ∨ Pl.nullB p k ma mb = true) by simp [n1, n2])
        go_enter Try.func63, Try.ntmps63
        go_wp2_with fail
        refine (asked_any p _ _ (Pl.colB k && Pl.linesB p [(la, lb, lc), (ma, mb, mc)]) _ (by kernel_rfl) ?_).mono ?_
        · intro _
          exact twoLines1_any p k la lb lc ma mb mc _ _ _ _ _ (by go_simp) (by go_simp) (by go_simp) (by go_simp) (by go_simp) (by go_simp) (by go_simp) (by go_simp)
        · rintro e w1 ⟨rfl, hb⟩
          have c00 : w1.cell? ⟨w.heap.size, 0, none⟩ = some (.int .i64 p) := keepC hb (by go_simp)
          have c10 : w1.cell? ⟨w.heap.size + 1, 0, none⟩ = some (.int .i64 k) := keepC hb (by go_simp)
          have c20 : w1.cell? ⟨w.heap.size + 1 + 1, 0, none⟩ = some (.int .i64 la) := keepC hb (by go_simp)
          have c21 : w1.cell? ⟨w.heap.size + 1 + 1, 1, none⟩ = some (.int .i64 lb) := keepC hb (by go_simp)
          have c22 : w1.cell? ⟨w.heap.size + 1 + 1, 2, none⟩ = some (.int .i64 lc) := keepC hb (by go_simp)
          have c30 : w1.cell? ⟨w.heap.size + 1 + 1 + 1, 0, none⟩ = some (.int .i64 ma) := keepC hb (by go_simp)
          have c31 : w1.cell? ⟨w.heap.size + 1 + 1 + 1, 1, none⟩ = some (.int .i64 mb) := keepC hb (by go_simp)
          have c32 : w1.cell? ⟨w.heap.size + 1 + 1 + 1, 2, none⟩ = some (.int .i64 mc) := keepC hb (by go_simp)
          have hB : Below w.heap.size w w1 := below_of (by go_grown) hb (by simp <;> omega)
          clear hb
          go_wp2_with (go_at_call 132; refine (isNull_any _ _ _ _ _ _ (by omega) (by omega) (by omega) (by omega) (by omega) (by omega) (by omega) (by omega)).mono ?_; rintro e w' ⟨rfl, hbn⟩; replace c00 := keepC hbn c00; replace c10 := keepC hbn c10; replace c20 := keepC hbn c20; replace c21 := keepC hbn c21; replace c22 := keepC hbn c22; replace c30 := keepC hbn c30; replace c31 := keepC hbn c31; replace c32 := keepC hbn c32; replace hB := below_of hB hbn hB.size; clear hbn)
          go_ret
          exact ⟨ret_int (by rw [hfin.out, if_neg hc.out]), hB⟩
  · have hne : (Pl.ask p (Pl.colB k && Pl.linesB p [(la, lb, lc), (ma, mb, mc)]) == 0) = false := by simpa using h0
    have hfin : Hid (Pl.twoL p k la lb lc ma mb mc = Pl.ask p (Pl.colB k && Pl.linesB p [(la, lb, lc), (ma, mb, mc)])) := by unfold Hid Pl.twoL; rw [if_neg h0]
    clear h0
    go_enter Try.func63, Try.ntmps63
    go_wp2_with fail
    refine (asked_any p _ _ (Pl.colB k && Pl.linesB p [(la, lb, lc), (ma, mb, mc)]) _ (by kernel_rfl) ?_).mono ?_
    · intro _
      exact twoLines1_any p k la lb lc ma mb mc _ _ _ _ _ (by go_simp) (by go_simp) (by go_simp) (by go_simp) (by go_simp) (by go_simp) (by go_simp) (by go_simp)
    · rintro e w1 ⟨rfl, hb⟩
      have hB : Below w.heap.size w w1 := below_of (by go_grown) hb (by simp <;> omega)
      clear hb
      go_wp2_with fail
      go_ret
      exact ⟨ret_int (by rw [hfin.out]), hB⟩
theorem l03Both_any (p k la lb lc ma mb mc : Int) (w : World) :
    Calls Try.prog 65 #[.int .i64 p, .int .i64 k, .agg #[.int .i64 la, .int .i64 lb, .int .i64 lc], .agg #[.int .i64 ma, .int .i64 mb, .int .i64 mc]] w fun e w' => e = .returned (.int .i64 (Pl.twoL p k la lb lc ma mb mc)) ∧ Below w.heap.size w w' := by
  by_cases h0 : Pl.ask p (Pl.colB k && Pl.linesB p [(la, lb, lc), (ma, mb, mc)]) = 0
  · have hv : Hid (Pl.fieldB p = true ∧ (Pl.colB k && Pl.linesB p [(la, lb, lc), (ma, mb, mc)]) = true) := Pl.ask_ok h0
    have hp := Pl.field_bd hv.out.1
    obtain ⟨hp1, hp2⟩ := hp
    have hv2 := hv.out.2
    simp only [Bool.and_eq_true] at hv2
    obtain ⟨⟨la1, la2, lb1, lb2, lc1, lc2, hl⟩, ma1, ma2, mb1, mb2, mc1, mc2, hm⟩ := Pl.lines2_bd hv2.2
    clear hv2 hl hm
    have hfin : Hid (Pl.twoL p k la lb lc ma mb mc = if Pl.nullB p k la lb = true ∨ Pl.nullB p k ma mb = true then 5 else 0) := by unfold Hid Pl.twoL; rw [if_pos h0]
    cases n1 : Pl.nullB p k la lb with
    | true =>
      have hc := hid (show Pl.nullB p k la lb = true ∨ Pl.nullB p k ma mb = true from .inl n1)
      go_enter Try.func65, Try.ntmps65
      go_wp2_with fail
      refine (l03Colour_any p k _ 0 2 2 [(la, lb, lc), (ma, mb, mc)] rfl (by omega) _ (by simp) ?_).mono ?_
      · intro j hj
        match j, hj with
        | 0, _ => exact ⟨by go_simp, by go_simp, by go_simp⟩
        | 1, _ => exact ⟨by go_simp, by go_simp, by go_simp⟩
      · rintro e w1 ⟨rfl, hb⟩
        have c00 : w1.cell? ⟨w.heap.size, 0, none⟩ = some (.int .i64 la) := keepC hb (by go_simp)
        have c01 : w1.cell? ⟨w.heap.size, 1, none⟩ = some (.int .i64 lb) := keepC hb (by go_simp)
        have c02 : w1.cell? ⟨w.heap.size, 2, none⟩ = some (.int .i64 lc) := keepC hb (by go_simp)
        have c10 : w1.cell? ⟨w.heap.size + 1, 0, none⟩ = some (.int .i64 ma) := keepC hb (by go_simp)
        have c11 : w1.cell? ⟨w.heap.size + 1, 1, none⟩ = some (.int .i64 mb) := keepC hb (by go_simp)
        have c12 : w1.cell? ⟨w.heap.size + 1, 2, none⟩ = some (.int .i64 mc) := keepC hb (by go_simp)
        have hB : Below w.heap.size w w1 := below_of (by go_grown) hb (by simp <;> omega)
        clear hb
        go_wp2_with (go_at_call 146; refine (l03Null_any _ _ _ _ _ _ (by omega) (by omega) (by omega) (by omega) (by omega) (by omega) (by omega) (by omega)).mono ?_; rintro e w' ⟨rfl, hbn⟩; replace c00 := keepC hbn c00; replace c01 := keepC hbn c01; replace c02 := keepC hbn c02; replace c10 := keepC hbn c10; replace c11 := keepC hbn c11; replace c12 := keepC hbn c12; replace hB := below_of hB hbn hB.size; clear hbn)
        go_ret
        exact ⟨ret_int (by rw [hfin.out, if_pos hc.out]), hB⟩
    | false =>
      cases n2 : Pl.nullB p k ma mb with
      | true =>
        have hc := hid (show Pl.nullB p k la lb = true ∨ Pl.nullB p k ma mb = true from .inr n2)
        go_enter Try.func65, Try.ntmps65
        go_wp2_with fail
        refine (l03Colour_any p k _ 0 2 2 [(la, lb, lc), (ma, mb, mc)] rfl (by omega) _ (by simp) ?_).mono ?_
        · intro j hj
          match j, hj with
          | 0, _ => exact ⟨by go_simp, by go_simp, by go_simp⟩
          | 1, _ => exact ⟨by go_simp, by go_simp, by go_simp⟩
        · rintro e w1 ⟨rfl, hb⟩
          have c00 : w1.cell? ⟨w.heap.size, 0, none⟩ = some (.int .i64 la) := keepC hb (by go_simp)
          have c01 : w1.cell? ⟨w.heap.size, 1, none⟩ = some (.int .i64 lb) := keepC hb (by go_simp)
          have c02 : w1.cell? ⟨w.heap.size, 2, none⟩ = some (.int .i64 lc) := keepC hb (by go_simp)
          have c10 : w1.cell? ⟨w.heap.size + 1, 0, none⟩ = some (.int .i64 ma) := keepC hb (by go_simp)
          have c11 : w1.cell? ⟨w.heap.size + 1, 1, none⟩ = some (.int .i64 mb) := keepC hb (by go_simp)
          have c12 : w1.cell? ⟨w.heap.size + 1, 2, none⟩ = some (.int .i64 mc) := keepC hb (by go_simp)
          have hB : Below w.heap.size w w1 := below_of (by go_grown) hb (by simp <;> omega)
          clear hb
          go_wp2_with (go_at_call 146; refine (l03Null_any _ _ _ _ _ _ (by omega) (by omega) (by omega) (by omega) (by omega) (by omega) (by omega) (by omega)).mono ?_; rintro e w' ⟨rfl, hbn⟩; replace c00 := keepC hbn c00; replace c01 := keepC hbn c01; replace c02 := keepC hbn c02; replace c10 := keepC hbn c10; replace c11 := keepC hbn c11; replace c12 := keepC hbn c12; replace hB := below_of hB hbn hB.size; clear hbn)
          go_ret
          exact ⟨ret_int (by rw [hfin.out, if_pos hc.out]), hB⟩
      | false =>
        have hc := hid (show ¬ (Pl.nullB p k la lb = true ∨ Pl.nullB p k ma mb = true) by simp [n1, n2])
        go_enter Try.func65, Try.ntmps65
        go_wp2_with fail
        refine (l03Colour_any p k _ 0 2 2 [(la, lb, lc), (ma, mb, mc)] rfl (by omega) _ (by simp) ?_).mono ?_
        · intro j hj
          match j, hj with
          | 0, _ => exact ⟨by go_simp, by go_simp, by go_simp⟩
          | 1, _ => exact ⟨by go_simp, by go_simp, by go_simp⟩
        · rintro e w1 ⟨rfl, hb⟩
          have c00 : w1.cell? ⟨w.heap.size, 0, none⟩ = some (.int .i64 la) := keepC hb (by go_simp)
          have c01 : w1.cell? ⟨w.heap.size, 1, none⟩ = some (.int .i64 lb) := keepC hb (by go_simp)
          have c02 : w1.cell? ⟨w.heap.size, 2, none⟩ = some (.int .i64 lc) := keepC hb (by go_simp)
          have c10 : w1.cell? ⟨w.heap.size + 1, 0, none⟩ = some (.int .i64 ma) := keepC hb (by go_simp)
          have c11 : w1.cell? ⟨w.heap.size + 1, 1, none⟩ = some (.int .i64 mb) := keepC hb (by go_simp)
          have c12 : w1.cell? ⟨w.heap.size + 1, 2, none⟩ = some (.int .i64 mc) := keepC hb (by go_simp)
          have hB : Below w.heap.size w w1 := below_of (by go_grown) hb (by simp <;> omega)
          clear hb
          go_wp2_with (go_at_call 146; refine (l03Null_any _ _ _ _ _ _ (by omega) (by omega) (by omega) (by omega) (by omega) (by omega) (by omega) (by omega)).mono ?_; rintro e w' ⟨rfl, hbn⟩; replace c00 := keepC hbn c00; replace c01 := keepC hbn c01; replace c02 := keepC hbn c02; replace c10 := keepC hbn c10; replace c11 := keepC hbn c11; replace c12 := keepC hbn c12; replace hB := below_of hB hbn hB.size; clear hbn)
          go_ret
          exact ⟨ret_int (by rw [hfin.out, if_neg hc.out]), hB⟩
  · have hne : (Pl.ask p (Pl.colB k && Pl.linesB p [(la, lb, lc), (ma, mb, mc)]) == 0) = false := by simpa using h0
    have hfin : Hid (Pl.twoL p k la lb lc ma mb mc = Pl.ask p (Pl.colB k && Pl.linesB p [(la, lb, lc), (ma, mb, mc)])) := by unfold Hid Pl.twoL; rw [if_neg h0]
    clear h0
    go_enter Try.func65, Try.ntmps65
    go_wp2_with fail
    refine (l03Colour_any p k _ 0 2 2 [(la, lb, lc), (ma, mb, mc)] rfl (by omega) _ (by simp) ?_).mono ?_
    · intro j hj
      match j, hj with
      | 0, _ => exact ⟨by go_simp, by go_simp, by go_simp⟩
      | 1, _ => exact ⟨by go_simp, by go_simp, by go_simp⟩
    · rintro e w1 ⟨rfl, hb⟩
      have hB : Below w.heap.size w w1 := below_of (by go_grown) hb (by simp <;> omega)
      clear hb
      go_wp2_with fail
      go_ret
      exact ⟨ret_int (by rw [hfin.out]), hB⟩
theorem CrossOf_any (p k la lb lc ma mb mc : Int) (w : World) :
    Calls Try.prog 10 #[.int .i64 p, .int .i64 k, .agg #[.int .i64 la, .int .i64 lb, .int .i64 lc], .agg #[.int .i64 ma, .int .i64 mb, .int .i64 mc]] w fun e w' => e = .returned (.tuple #[.int .i64 ((Pl.crossTo p k la lb lc ma mb mc).1), .int .i64 ((Pl.crossTo p k la lb lc ma mb mc).2)]) ∧ Below w.heap.size w w' := by
  by_cases h0 : Pl.twoL p k la lb lc ma mb mc = 0
  · have hfin : Hid (Pl.crossTo p k la lb lc ma mb mc = (Pl.cross p k la lb ma mb, 0)) := by unfold Hid Pl.crossTo; rw [if_pos h0]
    have hk := Pl.twoL_ok h0
    have hv := hid (Pl.ask_ok hk.1)
    have hp := Pl.field_bd hv.out.1
    obtain ⟨hp1, hp2⟩ := hp
    have hv2 := hv.out.2
    simp only [Bool.and_eq_true] at hv2
    obtain ⟨⟨la1, la2, lb1, lb2, lc1, lc2, hl⟩, ma1, ma2, mb1, mb2, mc1, mc2, hm⟩ := Pl.lines2_bd hv2.2
    clear hv2 hl hm hk
    have hf := hv.out.1
    go_enter Try.func10, Try.ntmps10
    go_wp2_with fail
    refine (twoLines_any _ _ _ _ _ _ _ _ _).mono ?_
    rintro e w1 ⟨rfl, hb⟩
    have c00 : w1.cell? ⟨w.heap.size, 0, none⟩ = some (.int .i64 la) := keepC hb (by go_simp)
    have c01 : w1.cell? ⟨w.heap.size, 1, none⟩ = some (.int .i64 lb) := keepC hb (by go_simp)
    have c02 : w1.cell? ⟨w.heap.size, 2, none⟩ = some (.int .i64 lc) := keepC hb (by go_simp)
    have c10 : w1.cell? ⟨w.heap.size + 1, 0, none⟩ = some (.int .i64 ma) := keepC hb (by go_simp)
    have c11 : w1.cell? ⟨w.heap.size + 1, 1, none⟩ = some (.int .i64 mb) := keepC hb (by go_simp)
    have c12 : w1.cell? ⟨w.heap.size + 1, 2, none⟩ = some (.int .i64 mc) := keepC hb (by go_simp)
    have hB : Below w.heap.size w w1 := below_of (by go_grown) hb (by simp <;> omega)
    clear hb
    go_wp2_with (go_at_call 67; refine (cross_any _ _ _ _ _ _ _ _ _ hf (by omega) (by omega) (by omega) (by omega) (by omega) (by omega) (by omega) (by omega) (by omega) (by omega) (by omega) (by omega)).mono ?_; rintro e w' ⟨rfl, hbn⟩; replace c00 := keepC hbn c00; replace c01 := keepC hbn c01; replace c02 := keepC hbn c02; replace c10 := keepC hbn c10; replace c11 := keepC hbn c11; replace c12 := keepC hbn c12; replace hB := below_of hB hbn hB.size; clear hbn)
    go_ret2
    exact ⟨ret_ii (by rw [hfin.out]) (by rw [hfin.out]), by first | exact hB | go_grown⟩
  · have hne : (Pl.twoL p k la lb lc ma mb mc != 0) = true := by simpa using h0
    have hfin : Hid (Pl.crossTo p k la lb lc ma mb mc = (0, Pl.twoL p k la lb lc ma mb mc)) := by unfold Hid Pl.crossTo; rw [if_neg h0]
    clear h0
    go_enter Try.func10, Try.ntmps10
    go_wp2_with fail
    refine (twoLines_any _ _ _ _ _ _ _ _ _).mono ?_
    rintro e w1 ⟨rfl, hb⟩
    have hB : Below w.heap.size w w1 := below_of (by go_grown) hb (by simp <;> omega)
    clear hb
    go_wp2_with fail
    go_ret2
    exact ⟨ret_ii (by rw [hfin.out]) (by rw [hfin.out]), by first | exact hB | go_grown⟩
theorem sCrossOf_any (p k la lb lc ma mb mc : Int) (w : World) :
    Calls Try.prog 11 #[.int .i64 p, .int .i64 k, .agg #[.int .i64 la, .int .i64 lb, .int .i64 lc], .agg #[.int .i64 ma, .int .i64 mb, .int .i64 mc]] w fun e w' => e = .returned (.tuple #[.int .i64 ((Pl.crossTo p k la lb lc ma mb mc).1), .int .i64 ((Pl.crossTo p k la lb lc ma mb mc).2)]) ∧ Below w.heap.size w w' := by
  by_cases h0 : Pl.twoL p k la lb lc ma mb mc = 0
  · have hfin : Hid (Pl.crossTo p k la lb lc ma mb mc = (Pl.cross p k la lb ma mb, 0)) := by unfold Hid Pl.crossTo; rw [if_pos h0]
    have hk := Pl.twoL_ok h0
    have hv := hid (Pl.ask_ok hk.1)
    have hp := Pl.field_bd hv.out.1
    obtain ⟨hp1, hp2⟩ := hp
    have hv2 := hv.out.2
    simp only [Bool.and_eq_true] at hv2
    obtain ⟨⟨la1, la2, lb1, lb2, lc1, lc2, hl⟩, ma1, ma2, mb1, mb2, mc1, mc2, hm⟩ := Pl.lines2_bd hv2.2
    clear hv2 hl hm hk
    have hf := hv.out.1
    go_enter Try.func11, Try.ntmps11
    go_wp2_with fail
    refine (l03Both_any _ _ _ _ _ _ _ _ _).mono ?_
    rintro e w1 ⟨rfl, hb⟩
    have c00 : w1.cell? ⟨w.heap.size, 0, none⟩ = some (.int .i64 la) := keepC hb (by go_simp)
    have c01 : w1.cell? ⟨w.heap.size, 1, none⟩ = some (.int .i64 lb) := keepC hb (by go_simp)
    have c02 : w1.cell? ⟨w.heap.size, 2, none⟩ = some (.int .i64 lc) := keepC hb (by go_simp)
    have c10 : w1.cell? ⟨w.heap.size + 1, 0, none⟩ = some (.int .i64 ma) := keepC hb (by go_simp)
    have c11 : w1.cell? ⟨w.heap.size + 1, 1, none⟩ = some (.int .i64 mb) := keepC hb (by go_simp)
    have c12 : w1.cell? ⟨w.heap.size + 1, 2, none⟩ = some (.int .i64 mc) := keepC hb (by go_simp)
    have hB : Below w.heap.size w w1 := below_of (by go_grown) hb (by simp <;> omega)
    clear hb
    go_wp2_with (go_at_call 68; refine (l03Cross_any _ _ _ _ _ _ _ _ _ hf (by omega) (by omega) (by omega) (by omega) (by omega) (by omega) (by omega) (by omega) (by omega) (by omega) (by omega) (by omega)).mono ?_; rintro e w' ⟨rfl, hbn⟩; replace c00 := keepC hbn c00; replace c01 := keepC hbn c01; replace c02 := keepC hbn c02; replace c10 := keepC hbn c10; replace c11 := keepC hbn c11; replace c12 := keepC hbn c12; replace hB := below_of hB hbn hB.size; clear hbn)
    go_ret2
    exact ⟨ret_ii (by rw [hfin.out]) (by rw [hfin.out]), by first | exact hB | go_grown⟩
  · have hne : (Pl.twoL p k la lb lc ma mb mc != 0) = true := by simpa using h0
    have hfin : Hid (Pl.crossTo p k la lb lc ma mb mc = (0, Pl.twoL p k la lb lc ma mb mc)) := by unfold Hid Pl.crossTo; rw [if_neg h0]
    clear h0
    go_enter Try.func11, Try.ntmps11
    go_wp2_with fail
    refine (l03Both_any _ _ _ _ _ _ _ _ _).mono ?_
    rintro e w1 ⟨rfl, hb⟩
    have hB : Below w.heap.size w w1 := below_of (by go_grown) hb (by simp <;> omega)
    clear hb
    go_wp2_with fail
    go_ret2
    exact ⟨ret_ii (by rw [hfin.out]) (by rw [hfin.out]), by first | exact hB | go_grown⟩
theorem SpreadOf_any (p k la lb lc ma mb mc : Int) (w : World) :
    Calls Try.prog 8 #[.int .i64 p, .int .i64 k, .agg #[.int .i64 la, .int .i64 lb, .int .i64 lc], .agg #[.int .i64 ma, .int .i64 mb, .int .i64 mc]] w fun e w' => e = .returned (.tuple #[.int .i64 ((Pl.spreadTo p k la lb lc ma mb mc).1), .int .i64 ((Pl.spreadTo p k la lb lc ma mb mc).2)]) ∧ Below w.heap.size w w' := by
  by_cases h0 : Pl.twoL p k la lb lc ma mb mc = 0
  · have hfin : Hid (Pl.spreadTo p k la lb lc ma mb mc = (Pl.spread p k la lb ma mb, 0)) := by unfold Hid Pl.spreadTo; rw [if_pos h0]
    have hk := Pl.twoL_ok h0
    have hv := hid (Pl.ask_ok hk.1)
    have hp := Pl.field_bd hv.out.1
    obtain ⟨hp1, hp2⟩ := hp
    have hv2 := hv.out.2
    simp only [Bool.and_eq_true] at hv2
    obtain ⟨⟨la1, la2, lb1, lb2, lc1, lc2, hl⟩, ma1, ma2, mb1, mb2, mc1, mc2, hm⟩ := Pl.lines2_bd hv2.2
    clear hv2 hl hm hk
    have hf := hv.out.1
    go_enter Try.func8, Try.ntmps8
    go_wp2_with fail
    refine (twoLines_any _ _ _ _ _ _ _ _ _).mono ?_
    rintro e w1 ⟨rfl, hb⟩
    have c00 : w1.cell? ⟨w.heap.size, 0, none⟩ = some (.int .i64 la) := keepC hb (by go_simp)
    have c01 : w1.cell? ⟨w.heap.size, 1, none⟩ = some (.int .i64 lb) := keepC hb (by go_simp)
    have c02 : w1.cell? ⟨w.heap.size, 2, none⟩ = some (.int .i64 lc) := keepC hb (by go_simp)
    have c10 : w1.cell? ⟨w.heap.size + 1, 0, none⟩ = some (.int .i64 ma) := keepC hb (by go_simp)
    have c11 : w1.cell? ⟨w.heap.size + 1, 1, none⟩ = some (.int .i64 mb) := keepC hb (by go_simp)
    have c12 : w1.cell? ⟨w.heap.size + 1, 2, none⟩ = some (.int .i64 mc) := keepC hb (by go_simp)
    have hB : Below w.heap.size w w1 := below_of (by go_grown) hb (by simp <;> omega)
    clear hb
    go_wp2_with (go_at_call 64; refine (spread_any _ _ _ _ _ _ _ _ _ hf (by omega) (by omega) (by omega) (by omega) (by omega) (by omega) (by omega) (by omega) (by omega) (by omega) (by omega) (by omega)).mono ?_; rintro e w' ⟨rfl, hbn⟩; replace c00 := keepC hbn c00; replace c01 := keepC hbn c01; replace c02 := keepC hbn c02; replace c10 := keepC hbn c10; replace c11 := keepC hbn c11; replace c12 := keepC hbn c12; replace hB := below_of hB hbn hB.size; clear hbn)
    go_ret2
    exact ⟨ret_ii (by rw [hfin.out]) (by rw [hfin.out]), by first | exact hB | go_grown⟩
  · have hne : (Pl.twoL p k la lb lc ma mb mc != 0) = true := by simpa using h0
    have hfin : Hid (Pl.spreadTo p k la lb lc ma mb mc = (0, Pl.twoL p k la lb lc ma mb mc)) := by unfold Hid Pl.spreadTo; rw [if_neg h0]
    clear h0
    go_enter Try.func8, Try.ntmps8
    go_wp2_with fail
    refine (twoLines_any _ _ _ _ _ _ _ _ _).mono ?_
    rintro e w1 ⟨rfl, hb⟩
    have hB : Below w.heap.size w w1 := below_of (by go_grown) hb (by simp <;> omega)
    clear hb
    go_wp2_with fail
    go_ret2
    exact ⟨ret_ii (by rw [hfin.out]) (by rw [hfin.out]), by first | exact hB | go_grown⟩
theorem sSpreadOf_any (p k la lb lc ma mb mc : Int) (w : World) :
    Calls Try.prog 9 #[.int .i64 p, .int .i64 k, .agg #[.int .i64 la, .int .i64 lb, .int .i64 lc], .agg #[.int .i64 ma, .int .i64 mb, .int .i64 mc]] w fun e w' => e = .returned (.tuple #[.int .i64 ((Pl.spreadTo p k la lb lc ma mb mc).1), .int .i64 ((Pl.spreadTo p k la lb lc ma mb mc).2)]) ∧ Below w.heap.size w w' := by
  by_cases h0 : Pl.twoL p k la lb lc ma mb mc = 0
  · have hfin : Hid (Pl.spreadTo p k la lb lc ma mb mc = (Pl.spread p k la lb ma mb, 0)) := by unfold Hid Pl.spreadTo; rw [if_pos h0]
    have hk := Pl.twoL_ok h0
    have hv := hid (Pl.ask_ok hk.1)
    have hp := Pl.field_bd hv.out.1
    obtain ⟨hp1, hp2⟩ := hp
    have hv2 := hv.out.2
    simp only [Bool.and_eq_true] at hv2
    obtain ⟨⟨la1, la2, lb1, lb2, lc1, lc2, hl⟩, ma1, ma2, mb1, mb2, mc1, mc2, hm⟩ := Pl.lines2_bd hv2.2
    clear hv2 hl hm hk
    have hf := hv.out.1
    go_enter Try.func9, Try.ntmps9
    go_wp2_with fail
    refine (l03Both_any _ _ _ _ _ _ _ _ _).mono ?_
    rintro e w1 ⟨rfl, hb⟩
    have c00 : w1.cell? ⟨w.heap.size, 0, none⟩ = some (.int .i64 la) := keepC hb (by go_simp)
    have c01 : w1.cell? ⟨w.heap.size, 1, none⟩ = some (.int .i64 lb) := keepC hb (by go_simp)
    have c02 : w1.cell? ⟨w.heap.size, 2, none⟩ = some (.int .i64 lc) := keepC hb (by go_simp)
    have c10 : w1.cell? ⟨w.heap.size + 1, 0, none⟩ = some (.int .i64 ma) := keepC hb (by go_simp)
    have c11 : w1.cell? ⟨w.heap.size + 1, 1, none⟩ = some (.int .i64 mb) := keepC hb (by go_simp)
    have c12 : w1.cell? ⟨w.heap.size + 1, 2, none⟩ = some (.int .i64 mc) := keepC hb (by go_simp)
    have hB : Below w.heap.size w w1 := below_of (by go_grown) hb (by simp <;> omega)
    clear hb
    go_wp2_with (go_at_call 66; refine (l03Spread_any _ _ _ _ _ _ _ _ _ hf (by omega) (by omega) (by omega) (by omega) (by omega) (by omega) (by omega) (by omega) (by omega) (by omega) (by omega) (by omega)).mono ?_; rintro e w' ⟨rfl, hbn⟩; replace c00 := keepC hbn c00; replace c01 := keepC hbn c01; replace c02 := keepC hbn c02; replace c10 := keepC hbn c10; replace c11 := keepC hbn c11; replace c12 := keepC hbn c12; replace hB := below_of hB hbn hB.size; clear hbn)
    go_ret2
    exact ⟨ret_ii (by rw [hfin.out]) (by rw [hfin.out]), by first | exact hB | go_grown⟩
  · have hne : (Pl.twoL p k la lb lc ma mb mc != 0) = true := by simpa using h0
    have hfin : Hid (Pl.spreadTo p k la lb lc ma mb mc = (0, Pl.twoL p k la lb lc ma mb mc)) := by unfold Hid Pl.spreadTo; rw [if_neg h0]
    clear h0
    go_enter Try.func9, Try.ntmps9
    go_wp2_with fail
    refine (l03Both_any _ _ _ _ _ _ _ _ _).mono ?_
    rintro e w1 ⟨rfl, hb⟩
    have hB : Below w.heap.size w w1 := below_of (by go_grown) hb (by simp <;> omega)
    clear hb
    go_wp2_with fail
    go_ret2
    exact ⟨ret_ii (by rw [hfin.out]) (by rw [hfin.out]), by first | exact hB | go_grown⟩
theorem TwistOf_any (p k la lb lc ma mb mc : Int) (w : World) :
    Calls Try.prog 12 #[.int .i64 p, .int .i64 k, .agg #[.int .i64 la, .int .i64 lb, .int .i64 lc], .agg #[.int .i64 ma, .int .i64 mb, .int .i64 mc]] w fun e w' => e = .returned (.tuple #[.int .i64 ((Pl.twistTo p k la lb lc ma mb mc).1), .int .i64 ((Pl.twistTo p k la lb lc ma mb mc).2)]) ∧ Below w.heap.size w w' := by
  by_cases h0 : Pl.twoL p k la lb lc ma mb mc = 0
  · have hfin : Hid (Pl.twistTo p k la lb lc ma mb mc = (if Pl.cross p k la lb ma mb = 0 then (0, 5) else (Pl.twistN p (Pl.cross p k la lb ma mb), 0))) := by unfold Hid Pl.twistTo; rw [if_pos h0]
    have hk := Pl.twoL_ok h0
    have hv := hid (Pl.ask_ok hk.1)
    have hp := Pl.field_bd hv.out.1
    obtain ⟨hp1, hp2⟩ := hp
    have hv2 := hv.out.2
    simp only [Bool.and_eq_true] at hv2
    obtain ⟨⟨la1, la2, lb1, lb2, lc1, lc2, hl⟩, ma1, ma2, mb1, mb2, mc1, mc2, hm⟩ := Pl.lines2_bd hv2.2
    clear hv2 hl hm hk
    have hf := hv.out.1
    have bc := Pl.cross_bd (p := p) (k := k) (la := la) (lb := lb) (ma := ma) (mb := mb) (by omega)
    obtain ⟨bc1, bc2⟩ := bc
    have HX : Hid (∀ w, Calls Try.prog 67 #[.int .i64 p, .int .i64 k, .agg #[.int .i64 la, .int .i64 lb, .int .i64 lc], .agg #[.int .i64 ma, .int .i64 mb, .int .i64 mc]] w fun e w' => e = .returned (.int .i64 (Pl.cross p k la lb ma mb)) ∧ Below w.heap.size w w') := fun w => cross_any _ _ _ _ _ _ _ _ _ hf (by omega) (by omega) (by omega) (by omega) (by omega) (by omega) (by omega) (by omega) (by omega) (by omega) (by omega) (by omega)
    generalize Pl.cross p k la lb ma mb = c at *
    by_cases hz : c = 0
    · have hzb : (c == 0) = true := by simpa using hz
      have HZ := hid hz
      clear hz
      go_enter Try.func12, Try.ntmps12
      go_wp2_with fail
      refine (twoLines_any _ _ _ _ _ _ _ _ _).mono ?_
      rintro e w1 ⟨rfl, hb⟩
      have c00 : w1.cell? ⟨w.heap.size, 0, none⟩ = some (.int .i64 la) := keepC hb (by go_simp)
      have c01 : w1.cell? ⟨w.heap.size, 1, none⟩ = some (.int .i64 lb) := keepC hb (by go_simp)
      have c02 : w1.cell? ⟨w.heap.size, 2, none⟩ = some (.int .i64 lc) := keepC hb (by go_simp)
      have c10 : w1.cell? ⟨w.heap.size + 1, 0, none⟩ = some (.int .i64 ma) := keepC hb (by go_simp)
      have c11 : w1.cell? ⟨w.heap.size + 1, 1, none⟩ = some (.int .i64 mb) := keepC hb (by go_simp)
      have c12 : w1.cell? ⟨w.heap.size + 1, 2, none⟩ = some (.int .i64 mc) := keepC hb (by go_simp)
      have hB : Below w.heap.size w w1 := below_of (by go_grown) hb (by simp <;> omega)
      clear hb
      go_wp2_with (go_at_call 67; refine (HX.out _).mono ?_; rintro e w' ⟨rfl, hbn⟩; replace c00 := keepC hbn c00; replace c01 := keepC hbn c01; replace c02 := keepC hbn c02; replace c10 := keepC hbn c10; replace c11 := keepC hbn c11; replace c12 := keepC hbn c12; replace hB := below_of hB hbn hB.size; clear hbn)
      go_ret2
      exact ⟨ret_ii (by rw [hfin.out, if_pos HZ.out]) (by rw [hfin.out, if_pos HZ.out]), by first | exact hB | go_grown⟩
    · have hzb : (c == 0) = false := by simpa using hz
      have HZ := hid hz
      clear hz
      have r1n := Int.emod_nonneg (1 - c) (show p ≠ 0 by omega)
      have r1l := Int.emod_lt_of_pos (1 - c) (show 0 < p by omega)
      go_enter Try.func12, Try.ntmps12
      go_wp2_with fail
      refine (twoLines_any _ _ _ _ _ _ _ _ _).mono ?_
      rintro e w1 ⟨rfl, hb⟩
      have c00 : w1.cell? ⟨w.heap.size, 0, none⟩ = some (.int .i64 la) := keepC hb (by go_simp)
      have c01 : w1.cell? ⟨w.heap.size, 1, none⟩ = some (.int .i64 lb) := keepC hb (by go_simp)
      have c02 : w1.cell? ⟨w.heap.size, 2, none⟩ = some (.int .i64 lc) := keepC hb (by go_simp)
      have c10 : w1.cell? ⟨w.heap.size + 1, 0, none⟩ = some (.int .i64 ma) := keepC hb (by go_simp)
      have c11 : w1.cell? ⟨w.heap.size + 1, 1, none⟩ = some (.int .i64 mb) := keepC hb (by go_simp)
      have c12 : w1.cell? ⟨w.heap.size + 1, 2, none⟩ = some (.int .i64 mc) := keepC hb (by go_simp)
      have hB : Below w.heap.size w w1 := below_of (by go_grown) hb (by simp <;> omega)
      clear hb
      go_wp2_with (first | (go_at_call 67; refine (HX.out _).mono ?_; rintro e w' ⟨rfl, hbn⟩; replace c00 := keepC hbn c00; replace c01 := keepC hbn c01; replace c02 := keepC hbn c02; replace c10 := keepC hbn c10; replace c11 := keepC hbn c11; replace c12 := keepC hbn c12; replace hB := below_of hB hbn hB.size; clear hbn) | (go_at_call 70; refine (rest_any _ _ _ (by omega) (by omega)).mono ?_; rintro e w' ⟨rfl, rfl⟩) | (go_at_call 69; refine (divide_any _ _ _ _ hf (by omega) (by omega) (by omega) (by omega)).mono ?_; rintro e w' ⟨rfl, rfl⟩))
      go_ret2
      exact ⟨ret_ii (by rw [hfin.out, if_neg HZ.out]; exact Pl.twist_i _ _) (by rw [hfin.out, if_neg HZ.out]), hB⟩
  · have hne : (Pl.twoL p k la lb lc ma mb mc != 0) = true := by simpa using h0
    have hfin : Hid (Pl.twistTo p k la lb lc ma mb mc = (0, Pl.twoL p k la lb lc ma mb mc)) := by unfold Hid Pl.twistTo; rw [if_neg h0]
    clear h0
    go_enter Try.func12, Try.ntmps12
    go_wp2_with fail
    refine (twoLines_any _ _ _ _ _ _ _ _ _).mono ?_
    rintro e w1 ⟨rfl, hb⟩
    have hB : Below w.heap.size w w1 := below_of (by go_grown) hb (by simp <;> omega)
    clear hb
    go_wp2_with fail
    go_ret2
    exact ⟨ret_ii (by rw [hfin.out]) (by rw [hfin.out]), by first | exact hB | go_grown⟩
theorem sTwistOf_any (p k la lb lc ma mb mc : Int) (w : World) :
    Calls Try.prog 13 #[.int .i64 p, .int .i64 k, .agg #[.int .i64 la, .int .i64 lb, .int .i64 lc], .agg #[.int .i64 ma, .int .i64 mb, .int .i64 mc]] w fun e w' => e = .returned (.tuple #[.int .i64 ((Pl.twistTo p k la lb lc ma mb mc).1), .int .i64 ((Pl.twistTo p k la lb lc ma mb mc).2)]) ∧ Below w.heap.size w w' := by
  by_cases h0 : Pl.twoL p k la lb lc ma mb mc = 0
  · have hfin : Hid (Pl.twistTo p k la lb lc ma mb mc = (if Pl.cross p k la lb ma mb = 0 then (0, 5) else (Pl.twistN p (Pl.cross p k la lb ma mb), 0))) := by unfold Hid Pl.twistTo; rw [if_pos h0]
    have hk := Pl.twoL_ok h0
    have hv := hid (Pl.ask_ok hk.1)
    have hp := Pl.field_bd hv.out.1
    obtain ⟨hp1, hp2⟩ := hp
    have hv2 := hv.out.2
    simp only [Bool.and_eq_true] at hv2
    obtain ⟨⟨la1, la2, lb1, lb2, lc1, lc2, hl⟩, ma1, ma2, mb1, mb2, mc1, mc2, hm⟩ := Pl.lines2_bd hv2.2
    clear hv2 hl hm hk
    have hf := hv.out.1
    have bc := Pl.cross_bd (p := p) (k := k) (la := la) (lb := lb) (ma := ma) (mb := mb) (by omega)
    obtain ⟨bc1, bc2⟩ := bc
    have HX : Hid (∀ w, Calls Try.prog 68 #[.int .i64 p, .int .i64 k, .agg #[.int .i64 la, .int .i64 lb, .int .i64 lc], .agg #[.int .i64 ma, .int .i64 mb, .int .i64 mc]] w fun e w' => e = .returned (.int .i64 (Pl.cross p k la lb ma mb)) ∧ Below w.heap.size w w') := fun w => l03Cross_any _ _ _ _ _ _ _ _ _ hf (by omega) (by omega) (by omega) (by omega) (by omega) (by omega) (by omega) (by omega) (by omega) (by omega) (by omega) (by omega)
    generalize Pl.cross p k la lb ma mb = c at *
    by_cases hz : c = 0
    · have hzb : (c == 0) = true := by simpa using hz
      have HZ := hid hz
      clear hz
      go_enter Try.func13, Try.ntmps13
      go_wp2_with fail
      refine (l03Both_any _ _ _ _ _ _ _ _ _).mono ?_
      rintro e w1 ⟨rfl, hb⟩
      have c00 : w1.cell? ⟨w.heap.size, 0, none⟩ = some (.int .i64 la) := keepC hb (by go_simp)
      have c01 : w1.cell? ⟨w.heap.size, 1, none⟩ = some (.int .i64 lb) := keepC hb (by go_simp)
      have c02 : w1.cell? ⟨w.heap.size, 2, none⟩ = some (.int .i64 lc) := keepC hb (by go_simp)
      have c10 : w1.cell? ⟨w.heap.size + 1, 0, none⟩ = some (.int .i64 ma) := keepC hb (by go_simp)
      have c11 : w1.cell? ⟨w.heap.size + 1, 1, none⟩ = some (.int .i64 mb) := keepC hb (by go_simp)
      have c12 : w1.cell? ⟨w.heap.size + 1, 2, none⟩ = some (.int .i64 mc) := keepC hb (by go_simp)
      have hB : Below w.heap.size w w1 := below_of (by go_grown) hb (by simp <;> omega)
      clear hb
      go_wp2_with (go_at_call 68; refine (HX.out _).mono ?_; rintro e w' ⟨rfl, hbn⟩; replace c00 := keepC hbn c00; replace c01 := keepC hbn c01; replace c02 := keepC hbn c02; replace c10 := keepC hbn c10; replace c11 := keepC hbn c11; replace c12 := keepC hbn c12; replace hB := below_of hB hbn hB.size; clear hbn)
      go_ret2
      exact ⟨ret_ii (by rw [hfin.out, if_pos HZ.out]) (by rw [hfin.out, if_pos HZ.out]), by first | exact hB | go_grown⟩
    · have hzb : (c == 0) = false := by simpa using hz
      have HZ := hid hz
      clear hz
      have r1n := Int.emod_nonneg (1 - c) (show p ≠ 0 by omega)
      have r1l := Int.emod_lt_of_pos (1 - c) (show 0 < p by omega)
      have hi := Pl.inv_facts hf bc1 bc2
      obtain ⟨_, hi1, hi2, _⟩ := hi
      have m1 := Pl.mulB (show 0 ≤ ((1 - c) % p) by omega) (show ((1 - c) % p) ≤ 31 by omega) (show 0 ≤ (Pl.inv p c) by omega) (show (Pl.inv p c) ≤ 31 by omega)
      obtain ⟨m1a, m1b⟩ := m1
      have e9 : IntKind.i64.wrap ((1 - c) % p * Pl.inv p c) = (1 - c) % p * Pl.inv p c := IntWalk.i64_in _ (by omega)
      have t1 : Int.tmod ((1 - c) % p * Pl.inv p c) p = ((1 - c) % p * Pl.inv p c) % p := Int.tmod_eq_emod_of_nonneg m1a
      have hp0 : ¬ p = 0 := by omega
      have hcc : c % p = c := Int.emod_eq_of_lt bc1 bc2
      go_enter Try.func13, Try.ntmps13
      go_wp2_with fail
      refine (l03Both_any _ _ _ _ _ _ _ _ _).mono ?_
      rintro e w1 ⟨rfl, hb⟩
      have c00 : w1.cell? ⟨w.heap.size, 0, none⟩ = some (.int .i64 la) := keepC hb (by go_simp)
      have c01 : w1.cell? ⟨w.heap.size, 1, none⟩ = some (.int .i64 lb) := keepC hb (by go_simp)
      have c02 : w1.cell? ⟨w.heap.size, 2, none⟩ = some (.int .i64 lc) := keepC hb (by go_simp)
      have c10 : w1.cell? ⟨w.heap.size + 1, 0, none⟩ = some (.int .i64 ma) := keepC hb (by go_simp)
      have c11 : w1.cell? ⟨w.heap.size + 1, 1, none⟩ = some (.int .i64 mb) := keepC hb (by go_simp)
      have c12 : w1.cell? ⟨w.heap.size + 1, 2, none⟩ = some (.int .i64 mc) := keepC hb (by go_simp)
      have hB : Below w.heap.size w w1 := below_of (by go_grown) hb (by simp <;> omega)
      clear hb
      go_wp2_with (first | (go_at_call 68; refine (HX.out _).mono ?_; rintro e w' ⟨rfl, hbn⟩; replace c00 := keepC hbn c00; replace c01 := keepC hbn c01; replace c02 := keepC hbn c02; replace c10 := keepC hbn c10; replace c11 := keepC hbn c11; replace c12 := keepC hbn c12; replace hB := below_of hB hbn hB.size; clear hbn) | (go_at_call 71; refine (l01Mod_any _ _ _ (by omega) (by omega)).mono ?_; rintro e w' ⟨rfl, rfl⟩) | (go_at_call 72; refine (l01Inverse_any _ _ _ hf).mono ?_; rintro e w' ⟨rfl, rfl⟩))
      go_ret2
      exact ⟨ret_ii (by rw [hfin.out, if_neg HZ.out]; exact Pl.twist_i _ _) (by rw [hfin.out, if_neg HZ.out]), hB⟩
  · have hne : (Pl.twoL p k la lb lc ma mb mc != 0) = true := by simpa using h0
    have hfin : Hid (Pl.twistTo p k la lb lc ma mb mc = (0, Pl.twoL p k la lb lc ma mb mc)) := by unfold Hid Pl.twistTo; rw [if_neg h0]
    clear h0
    go_enter Try.func13, Try.ntmps13
    go_wp2_with fail
    refine (l03Both_any _ _ _ _ _ _ _ _ _).mono ?_
    rintro e w1 ⟨rfl, hb⟩
    have hB : Below w.heap.size w w1 := below_of (by go_grown) hb (by simp <;> omega)
    clear hb
    go_wp2_with fail
    go_ret2
    exact ⟨ret_ii (by rw [hfin.out]) (by rw [hfin.out]), by first | exact hB | go_grown⟩
end Go.Proofs.Ytbjcbbnfgfmllaa
