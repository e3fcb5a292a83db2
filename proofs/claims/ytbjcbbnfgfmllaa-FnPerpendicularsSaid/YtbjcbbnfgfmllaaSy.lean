/- Contracts: PerpendicularThrough of both sides. -/
import Derived.Test.YtbjcbbnfgfmllaaSx
set_option linter.unusedVariables false
set_option linter.unusedSimpArgs false
set_option maxHeartbeats 1000000
set_option maxRecDepth 100000
namespace Go.Proofs.Ytbjcbbnfgfmllaa
open Go.RowKit
theorem PerpendicularThrough1_any (p k la lb lc ax ay : Int) (b0 b1 b2 b3 : Nat) (w : World) (c00 : w.cell? ⟨b0, 0, none⟩ = some (.int .i64 p)) (c10 : w.cell? ⟨b1, 0, none⟩ = some (.int .i64 k)) (c20 : w.cell? ⟨b2, 0, none⟩ = some (.int .i64 la)) (c21 : w.cell? ⟨b2, 1, none⟩ = some (.int .i64 lb)) (c22 : w.cell? ⟨b2, 2, none⟩ = some (.int .i64 lc)) (c30 : w.cell? ⟨b3, 0, none⟩ = some (.int .i64 ax)) (c31 : w.cell? ⟨b3, 1, none⟩ = some (.int .i64 ay)) :
    Calls Try.prog 122 #[.pointer (some ⟨b1, 0, none⟩), .pointer (some ⟨b0, 0, none⟩), .pointer (some ⟨b2, 0, none⟩), .pointer (some ⟨b3, 0, none⟩)] w fun e w' => e = .returned (.bool (Pl.colB k && Pl.lineB p la lb lc && Pl.ptB p ax ay)) ∧ Below w.heap.size w w' := by
  cases hk : Pl.colB k with
  | false =>
    have hB := Below.refl w.heap.size w
    go_enter Try.func122, Try.ntmps122
    go_wp2_with (first | (go_at_call 75; refine (isColour_any _ _).mono ?_; rintro e w' ⟨rfl, rfl⟩) | (go_at_call 123; refine (isLine_any _ _ _ _ _).mono ?_; rintro e w' ⟨rfl, hbn⟩; replace c00 := keepC hbn c00; replace c10 := keepC hbn c10; replace c20 := keepC hbn c20; replace c21 := keepC hbn c21; replace c22 := keepC hbn c22; replace c30 := keepC hbn c30; replace c31 := keepC hbn c31; replace hB := below_of hB hbn hB.size; clear hbn) | (go_at_call 112; refine (isPoint_any _ _ _ _).mono ?_; rintro e w' ⟨rfl, hbn⟩; replace c00 := keepC hbn c00; replace c10 := keepC hbn c10; replace c20 := keepC hbn c20; replace c21 := keepC hbn c21; replace c22 := keepC hbn c22; replace c30 := keepC hbn c30; replace c31 := keepC hbn c31; replace hB := below_of hB hbn hB.size; clear hbn))
    go_ret
    exact ⟨rfl, hB⟩
  | true =>
    cases h2 : Pl.lineB p la lb lc with
    | false =>
      have hB := Below.refl w.heap.size w
      go_enter Try.func122, Try.ntmps122
      go_wp2_with (first | (go_at_call 75; refine (isColour_any _ _).mono ?_; rintro e w' ⟨rfl, rfl⟩) | (go_at_call 123; refine (isLine_any _ _ _ _ _).mono ?_; rintro e w' ⟨rfl, hbn⟩; replace c00 := keepC hbn c00; replace c10 := keepC hbn c10; replace c20 := keepC hbn c20; replace c21 := keepC hbn c21; replace c22 := keepC hbn c22; replace c30 := keepC hbn c30; replace c31 := keepC hbn c31; replace hB := below_of hB hbn hB.size; clear hbn) | (go_at_call 112; refine (isPoint_any _ _ _ _).mono ?_; rintro e w' ⟨rfl, hbn⟩; replace c00 := keepC hbn c00; replace c10 := keepC hbn c10; replace c20 := keepC hbn c20; replace c21 := keepC hbn c21; replace c22 := keepC hbn c22; replace c30 := keepC hbn c30; replace c31 := keepC hbn c31; replace hB := below_of hB hbn hB.size; clear hbn))
      go_ret
      exact ⟨rfl, hB⟩
    | true =>
      have hB := Below.refl w.heap.size w
      go_enter Try.func122, Try.ntmps122
      go_wp2_with (first | (go_at_call 75; refine (isColour_any _ _).mono ?_; rintro e w' ⟨rfl, rfl⟩) | (go_at_call 123; refine (isLine_any _ _ _ _ _).mono ?_; rintro e w' ⟨rfl, hbn⟩; replace c00 := keepC hbn c00; replace c10 := keepC hbn c10; replace c20 := keepC hbn c20; replace c21 := keepC hbn c21; replace c22 := keepC hbn c22; replace c30 := keepC hbn c30; replace c31 := keepC hbn c31; replace hB := below_of hB hbn hB.size; clear hbn) | (go_at_call 112; refine (isPoint_any _ _ _ _).mono ?_; rintro e w' ⟨rfl, hbn⟩; replace c00 := keepC hbn c00; replace c10 := keepC hbn c10; replace c20 := keepC hbn c20; replace c21 := keepC hbn c21; replace c22 := keepC hbn c22; replace c30 := keepC hbn c30; replace c31 := keepC hbn c31; replace hB := below_of hB hbn hB.size; clear hbn))
      go_ret
      exact ⟨rfl, hB⟩
theorem PerpendicularThrough_any (p k la lb lc ax ay : Int) (w : World) :
    Calls Try.prog 47 #[.int .i64 p, .int .i64 k, .agg #[.int .i64 la, .int .i64 lb, .int .i64 lc], .agg #[.int .i64 ax, .int .i64 ay]] w fun e w' => e = .returned (.tuple #[.agg #[.int .i64 ((Pl.perpTOf p k la lb lc ax ay).1.1), .int .i64 ((Pl.perpTOf p k la lb lc ax ay).1.2.1), .int .i64 ((Pl.perpTOf p k la lb lc ax ay).1.2.2)], .int .i64 ((Pl.perpTOf p k la lb lc ax ay).2)]) ∧ Below w.heap.size w w' := by
  by_cases h0 : Pl.ask p (Pl.colB k && Pl.lineB p la lb lc && Pl.ptB p ax ay) = 0
  · have hfin : Hid (Pl.perpTOf p k la lb lc ax ay = ((Pl.perpMa p k la lb, Pl.perpMb p k la lb, Pl.perpMc p k la lb ax ay), 0)) := by unfold Hid Pl.perpTOf; rw [if_pos h0]
    have hv : Hid (Pl.fieldB p = true ∧ (Pl.colB k && Pl.lineB p la lb lc && Pl.ptB p ax ay) = true) := Pl.ask_ok h0
    have hp := Pl.field_bd hv.out.1
    obtain ⟨hp1, hp2⟩ := hp
    have hv2 := hv.out.2
    simp only [Bool.and_eq_true] at hv2
    obtain ⟨la1, la2, lb1, lb2, lc1, lc2, hl⟩ := Pl.lineB_bd hv2.1.2
    obtain ⟨ax1, ax2, ay1, ay2⟩ := Pl.ptB_bd hv2.2
    have hk := hid hv2.1.1
    have HLL := hid hl
    clear hv2 hl
    have hf := hv.out.1
    go_enter Try.func47, Try.ntmps47
    go_wp2_with fail
    refine (asked_any p _ _ (Pl.colB k && Pl.lineB p la lb lc && Pl.ptB p ax ay) _ (by kernel_rfl) ?_).mono ?_
    · intro _
      exact PerpendicularThrough1_any p k la lb lc ax ay _ _ _ _ _ (by go_simp) (by go_simp) (by go_simp) (by go_simp) (by go_simp) (by go_simp) (by go_simp)
    · rintro e w1 ⟨rfl, hb⟩
      have c00 : w1.cell? ⟨w.heap.size, 0, none⟩ = some (.int .i64 p) := cellOf hb (by go_simp) (by simp <;> omega)
      have c10 : w1.cell? ⟨w.heap.size + 1, 0, none⟩ = some (.int .i64 k) := cellOf hb (by go_simp) (by simp <;> omega)
      have c20 : w1.cell? ⟨w.heap.size + 2, 0, none⟩ = some (.int .i64 la) := cellOf hb (by go_simp) (by simp <;> omega)
      have c21 : w1.cell? ⟨w.heap.size + 2, 1, none⟩ = some (.int .i64 lb) := cellOf hb (by go_simp) (by simp <;> omega)
      have c22 : w1.cell? ⟨w.heap.size + 2, 2, none⟩ = some (.int .i64 lc) := cellOf hb (by go_simp) (by simp <;> omega)
      have c30 : w1.cell? ⟨w.heap.size + 3, 0, none⟩ = some (.int .i64 ax) := cellOf hb (by go_simp) (by simp <;> omega)
      have c31 : w1.cell? ⟨w.heap.size + 3, 1, none⟩ = some (.int .i64 ay) := cellOf hb (by go_simp) (by simp <;> omega)
      have z0 : w1.cell? ⟨w.heap.size + 1 + 1 + 1 + 1, 0, none⟩ = some (.int .i64 0) := cellOf hb (by go_simp) (by simp <;> omega)
      have y0 : w1.frozen? ⟨w.heap.size + 1 + 1 + 1 + 1, 0, none⟩ = false := frozenOf hb (by go_simp) (by simp <;> omega)
      have z1 : w1.cell? ⟨w.heap.size + 1 + 1 + 1 + 1, 1, none⟩ = some (.int .i64 0) := cellOf hb (by go_simp) (by simp <;> omega)
      have y1 : w1.frozen? ⟨w.heap.size + 1 + 1 + 1 + 1, 1, none⟩ = false := frozenOf hb (by go_simp) (by simp <;> omega)
      have z2 : w1.cell? ⟨w.heap.size + 1 + 1 + 1 + 1, 2, none⟩ = some (.int .i64 0) := cellOf hb (by go_simp) (by simp <;> omega)
      have y2 : w1.frozen? ⟨w.heap.size + 1 + 1 + 1 + 1, 2, none⟩ = false := frozenOf hb (by go_simp) (by simp <;> omega)
      have hz : w.heap.size + 4 ≤ w1.heap.size := by have := hb.size; simp at this; omega
      have hB : Below w.heap.size w w1 := below_of (by go_grown) hb (by simp <;> omega)
      clear hb
      go_wp2_with (go_at_call 124; refine (perpendicular_any _ _ _ _ _ _ _ _ hf hk.out HLL.out (by omega) (by omega) (by omega) (by omega) (by omega) (by omega) (by omega) (by omega) (by omega) (by omega)).mono ?_; rintro e w' ⟨rfl, hbn⟩; replace y0 := keepF hbn z0 y0; replace y1 := keepF hbn z1 y1; replace y2 := keepF hbn z2 y2; replace z0 := keepC hbn z0; replace z1 := keepC hbn z1; replace z2 := keepC hbn z2; replace hB := below_of (B := w.heap.size) (a := w) (by first | exact hB | (have := hB.size; go_grown)) hbn (by first | exact hB.size | (have := hB.size; simp <;> omega)); clear hbn)
      try simp only [Exit.inBlock, Exit.then]
      refine bodyPost_ret (by simp [results, Try.results47, go_sem, y0, y1, y2, z0, z1, z2]; try rfl) rfl ?_
      exact ⟨ret_li (by rw [hfin.out]) (by rw [hfin.out]) (by rw [hfin.out]) (by rw [hfin.out]), by first | exact hB | go_grown⟩
  · have hne : (Pl.ask p (Pl.colB k && Pl.lineB p la lb lc && Pl.ptB p ax ay) != 0) = true := by simpa using h0
    have hne2 : (Pl.ask p (Pl.colB k && Pl.lineB p la lb lc && Pl.ptB p ax ay) == 0) = false := by simpa using h0
    have hfin : Hid (Pl.perpTOf p k la lb lc ax ay = ((0, 0, 0), Pl.ask p (Pl.colB k && Pl.lineB p la lb lc && Pl.ptB p ax ay))) := by unfold Hid Pl.perpTOf; rw [if_neg h0]
    clear h0
    go_enter Try.func47, Try.ntmps47
    go_wp2_with fail
    refine (asked_any p _ _ (Pl.colB k && Pl.lineB p la lb lc && Pl.ptB p ax ay) _ (by kernel_rfl) ?_).mono ?_
    · intro _
      exact PerpendicularThrough1_any p k la lb lc ax ay _ _ _ _ _ (by go_simp) (by go_simp) (by go_simp) (by go_simp) (by go_simp) (by go_simp) (by go_simp)
    · rintro e w1 ⟨rfl, hb⟩
      have z0 : w1.cell? ⟨w.heap.size + 1 + 1 + 1 + 1, 0, none⟩ = some (.int .i64 0) := cellOf hb (by go_simp) (by simp <;> omega)
      have y0 : w1.frozen? ⟨w.heap.size + 1 + 1 + 1 + 1, 0, none⟩ = false := frozenOf hb (by go_simp) (by simp <;> omega)
      have z1 : w1.cell? ⟨w.heap.size + 1 + 1 + 1 + 1, 1, none⟩ = some (.int .i64 0) := cellOf hb (by go_simp) (by simp <;> omega)
      have y1 : w1.frozen? ⟨w.heap.size + 1 + 1 + 1 + 1, 1, none⟩ = false := frozenOf hb (by go_simp) (by simp <;> omega)
      have z2 : w1.cell? ⟨w.heap.size + 1 + 1 + 1 + 1, 2, none⟩ = some (.int .i64 0) := cellOf hb (by go_simp) (by simp <;> omega)
      have y2 : w1.frozen? ⟨w.heap.size + 1 + 1 + 1 + 1, 2, none⟩ = false := frozenOf hb (by go_simp) (by simp <;> omega)
      have hB : Below w.heap.size w w1 := below_of (by go_grown) hb (by simp <;> omega)
      clear hb
      go_wp2_with fail
      try simp only [Exit.inBlock, Exit.then]
      refine bodyPost_ret (by simp [results, Try.results47, go_sem, y0, y1, y2, z0, z1, z2]; try rfl) rfl ?_
      exact ⟨ret_li (by rw [hfin.out]) (by rw [hfin.out]) (by rw [hfin.out]) (by rw [hfin.out]), by go_grown⟩
theorem sPerpendicularThrough_any (p k la lb lc ax ay : Int) (w : World) :
    Calls Try.prog 48 #[.int .i64 p, .int .i64 k, .agg #[.int .i64 la, .int .i64 lb, .int .i64 lc], .agg #[.int .i64 ax, .int .i64 ay]] w fun e w' => e = .returned (.tuple #[.agg #[.int .i64 ((Pl.perpTOf p k la lb lc ax ay).1.1), .int .i64 ((Pl.perpTOf p k la lb lc ax ay).1.2.1), .int .i64 ((Pl.perpTOf p k la lb lc ax ay).1.2.2)], .int .i64 ((Pl.perpTOf p k la lb lc ax ay).2)]) ∧ Below w.heap.size w w' := by
  by_cases h1 : Pl.ask p (Pl.ptB p ax ay && Pl.lineB p la lb lc) = 0
  · have hv := Pl.ask_ok h1
    have hf := hv.1
    have hp := Pl.field_bd hf
    obtain ⟨hp1, hp2⟩ := hp
    have hv2 := hv.2
    simp only [Bool.and_eq_true] at hv2
    obtain ⟨la1, la2, lb1, lb2, lc1, lc2, hl⟩ := Pl.lineB_bd hv2.2
    obtain ⟨ax1, ax2, ay1, ay2⟩ := Pl.ptB_bd hv2.1
    have HLL := hid hl
    have hq := hid (show Pl.ask p (Pl.colB k && Pl.lineB p la lb lc && Pl.ptB p ax ay) = if Pl.colB k = true then 0 else 2 by rw [hv2.1, hv2.2, Bool.and_true, Bool.and_true]; unfold Pl.ask; rw [if_pos hf])
    clear hv hv2 hl
    have H1 := hid h1
    clear h1
    cases hkk : Pl.colB k with
    | false =>
      have hz := hid (show Pl.ask p (Pl.colB k && Pl.lineB p la lb lc && Pl.ptB p ax ay) = 2 by rw [hq.out, hkk]; rfl)
      have hfin : Hid (Pl.perpTOf p k la lb lc ax ay = ((0, 0, 0), 2)) := by unfold Hid Pl.perpTOf; rw [hz.out]; rfl
      go_enter Try.func48, Try.ntmps48
      go_wp2_with fail
      refine (l01Both_any _ _ _ _ _ _ _).mono ?_
      rintro e w1 ⟨rfl, hb⟩
      rw [H1.out]
      have z0 : w1.cell? ⟨w.heap.size + 1 + 1, 0, none⟩ = some (.int .i64 0) := cellOf hb (by go_simp) (by simp <;> omega)
      have y0 : w1.frozen? ⟨w.heap.size + 1 + 1, 0, none⟩ = false := frozenOf hb (by go_simp) (by simp <;> omega)
      have z1 : w1.cell? ⟨w.heap.size + 1 + 1, 1, none⟩ = some (.int .i64 0) := cellOf hb (by go_simp) (by simp <;> omega)
      have y1 : w1.frozen? ⟨w.heap.size + 1 + 1, 1, none⟩ = false := frozenOf hb (by go_simp) (by simp <;> omega)
      have z2 : w1.cell? ⟨w.heap.size + 1 + 1, 2, none⟩ = some (.int .i64 0) := cellOf hb (by go_simp) (by simp <;> omega)
      have y2 : w1.frozen? ⟨w.heap.size + 1 + 1, 2, none⟩ = false := frozenOf hb (by go_simp) (by simp <;> omega)
      have hB : Below w.heap.size w w1 := below_of (by go_grown) hb (by simp <;> omega)
      clear hb
      go_wp2_with (go_at_call 117; refine (l02Colour_any _ _).mono ?_; rintro e w' ⟨rfl, rfl⟩)
      try simp only [Exit.inBlock, Exit.then]
      refine bodyPost_ret (by simp [results, Try.results48, go_sem, y0, y1, y2, z0, z1, z2]; try rfl) rfl ?_
      exact ⟨ret_li (by rw [hfin.out]) (by rw [hfin.out]) (by rw [hfin.out]) (by rw [hfin.out]), by first | exact hB | go_grown⟩
    | true =>
      have hz := hid (show Pl.ask p (Pl.colB k && Pl.lineB p la lb lc && Pl.ptB p ax ay) = 0 by rw [hq.out, hkk]; rfl)
      have hfin : Hid (Pl.perpTOf p k la lb lc ax ay = ((Pl.perpMa p k la lb, Pl.perpMb p k la lb, Pl.perpMc p k la lb ax ay), 0)) := by unfold Hid Pl.perpTOf; rw [if_pos hz.out]
      go_enter Try.func48, Try.ntmps48
      go_wp2_with fail
      refine (l01Both_any _ _ _ _ _ _ _).mono ?_
      rintro e w1 ⟨rfl, hb⟩
      rw [H1.out]
      have c00 : w1.cell? ⟨w.heap.size, 0, none⟩ = some (.int .i64 la) := keepC hb (by go_simp)
      have c01 : w1.cell? ⟨w.heap.size, 1, none⟩ = some (.int .i64 lb) := keepC hb (by go_simp)
      have c02 : w1.cell? ⟨w.heap.size, 2, none⟩ = some (.int .i64 lc) := keepC hb (by go_simp)
      have c10 : w1.cell? ⟨w.heap.size + 1, 0, none⟩ = some (.int .i64 ax) := keepC hb (by go_simp)
      have c11 : w1.cell? ⟨w.heap.size + 1, 1, none⟩ = some (.int .i64 ay) := keepC hb (by go_simp)
      have z0 : w1.cell? ⟨w.heap.size + 1 + 1, 0, none⟩ = some (.int .i64 0) := cellOf hb (by go_simp) (by simp <;> omega)
      have y0 : w1.frozen? ⟨w.heap.size + 1 + 1, 0, none⟩ = false := frozenOf hb (by go_simp) (by simp <;> omega)
      have z1 : w1.cell? ⟨w.heap.size + 1 + 1, 1, none⟩ = some (.int .i64 0) := cellOf hb (by go_simp) (by simp <;> omega)
      have y1 : w1.frozen? ⟨w.heap.size + 1 + 1, 1, none⟩ = false := frozenOf hb (by go_simp) (by simp <;> omega)
      have z2 : w1.cell? ⟨w.heap.size + 1 + 1, 2, none⟩ = some (.int .i64 0) := cellOf hb (by go_simp) (by simp <;> omega)
      have y2 : w1.frozen? ⟨w.heap.size + 1 + 1, 2, none⟩ = false := frozenOf hb (by go_simp) (by simp <;> omega)
      have hB : Below w.heap.size w w1 := below_of (by go_grown) hb (by simp <;> omega)
      clear hb
      go_wp2_with (go_at_call 117; refine (l02Colour_any _ _).mono ?_; rintro e w' ⟨rfl, rfl⟩)
      have r1n := Int.emod_nonneg (-lb) (show p ≠ 0 by omega)
      have r1l := Int.emod_lt_of_pos (-lb) (show 0 < p by omega)
      refine Reg.wp_region_grow (by kernel_rfl) 7 7 (fun _ => (#[.int .i64 0, .int .i64 0], 0)) (by kernel_rfl) ?_ ?_
      · intro k o h1 h2
        omega
      simp only [List.take_succ_cons, List.take_zero, List.drop_succ_cons, List.drop_zero]
      refine Reg.wpG_step (v := ?vr1x0) (fun wq hq => ?gr1x0) ?kr1x0
      case gr1x0 => (have q0 := keepC hq c00; have q1 := keepC hq c01; have q2 := keepC hq c02; have q3 := keepC hq c10; have q4 := keepC hq c11; have q8 := keepC hq z0; have q9 := keepC hq z1; have q10 := keepC hq z2; refine Reg.gAt_val ?_; go_simp; first | done | (with_reducible rfl) | rfl)
      try simp only [Act.put, List.setIfInBounds_toArray, List.set_cons_zero, List.set_cons_succ]
      refine Reg.wpG_step (v := ?vr1x1) (fun wq hq => ?gr1x1) ?kr1x1
      case gr1x1 => (have q0 := keepC hq c00; have q1 := keepC hq c01; have q2 := keepC hq c02; have q3 := keepC hq c10; have q4 := keepC hq c11; have q8 := keepC hq z0; have q9 := keepC hq z1; have q10 := keepC hq z2; refine Reg.gAt_val ?_; go_simp; first | done | (with_reducible rfl) | rfl)
      try simp only [Act.put, List.setIfInBounds_toArray, List.set_cons_zero, List.set_cons_succ]
      refine Reg.wpG_step (v := ?vr1x2) (fun wq hq => ?gr1x2) ?kr1x2
      case gr1x2 => (have q0 := keepC hq c00; have q1 := keepC hq c01; have q2 := keepC hq c02; have q3 := keepC hq c10; have q4 := keepC hq c11; have q8 := keepC hq z0; have q9 := keepC hq z1; have q10 := keepC hq z2; refine Reg.gAt_val ?_; go_simp; first | done | (with_reducible rfl) | rfl)
      try simp only [Act.put, List.setIfInBounds_toArray, List.set_cons_zero, List.set_cons_succ]
      refine Reg.wpG_step (v := ?vr1x3) (fun wq hq => ?gr1x3) ?kr1x3
      case gr1x3 => (have q0 := keepC hq c00; have q1 := keepC hq c01; have q2 := keepC hq c02; have q3 := keepC hq c10; have q4 := keepC hq c11; have q8 := keepC hq z0; have q9 := keepC hq z1; have q10 := keepC hq z2; refine Reg.gAt_val ?_; go_simp; first | done | (with_reducible rfl) | rfl)
      try simp only [Act.put, List.setIfInBounds_toArray, List.set_cons_zero, List.set_cons_succ]
      refine Reg.wpG_step (v := .agg #[.int .i64 ((-lb) % p), .int .i64 la]) (fun wq hq => ?gr1x4) ?kr1x4
      case gr1x4 => (unfold Reg.gAt; go_simp; refine Reg.quiet_enter ?_; exact l02Direction_any _ _ _ _ _ (by omega) (by omega) (by omega) (by omega) (by omega) (by omega) (by omega) (by omega))
      try simp only [Act.put, List.setIfInBounds_toArray, List.set_cons_zero, List.set_cons_succ]
      refine Reg.wpG_step (v := ?vr1x5) (fun wq hq => ?gr1x5) ?kr1x5
      case gr1x5 => (have q0 := keepC hq c00; have q1 := keepC hq c01; have q2 := keepC hq c02; have q3 := keepC hq c10; have q4 := keepC hq c11; have q8 := keepC hq z0; have q9 := keepC hq z1; have q10 := keepC hq z2; refine Reg.gAt_val ?_; go_simp; first | done | (with_reducible rfl) | rfl)
      try simp only [Act.put, List.setIfInBounds_toArray, List.set_cons_zero, List.set_cons_succ]
      refine Reg.wpG_step (v := .agg #[.int .i64 (Pl.perpMa p k la lb), .int .i64 (Pl.perpMb p k la lb), .int .i64 (Pl.perpMc p k la lb ax ay)]) (fun wq hq => ?gr1x6) ?kr1x6
      case gr1x6 => (unfold Reg.gAt; go_simp; refine Reg.quiet_enter ?_; exact l02Through_any _ _ _ _ _ _ _ hf hkk HLL.out (by omega) (by omega) (by omega) (by omega) (by omega) (by omega) (by omega) (by omega))
      try simp only [Act.put, List.setIfInBounds_toArray, List.set_cons_zero, List.set_cons_succ]
      intro w2 g hB2 hg hd
      clear hg hd
      change wpList _ _ _ _ (Reg.putPtrs _ g [] _) _
      simp only [Reg.putPtrs]
      replace c00 := keepC hB2 c00
      replace c01 := keepC hB2 c01
      replace c02 := keepC hB2 c02
      replace c10 := keepC hB2 c10
      replace c11 := keepC hB2 c11
      replace y0 := keepF hB2 z0 y0
      replace y1 := keepF hB2 z1 y1
      replace y2 := keepF hB2 z2 y2
      replace z0 := keepC hB2 z0
      replace z1 := keepC hB2 z1
      replace z2 := keepC hB2 z2
      replace hB := below_of hB hB2 hB.size
      clear hB2 
      go_wp2_with fail
      try simp only [Exit.inBlock, Exit.then]
      refine bodyPost_ret (by simp [results, Try.results48, go_sem, y0, y1, y2, z0, z1, z2]; try rfl) rfl ?_
      exact ⟨ret_li (by rw [hfin.out]) (by rw [hfin.out]) (by rw [hfin.out]) (by rw [hfin.out]), by first | exact hB | go_grown⟩
  · have hne : (Pl.ask p (Pl.ptB p ax ay && Pl.lineB p la lb lc) != 0) = true := by simpa using h1
    have hne2 : (Pl.ask p (Pl.ptB p ax ay && Pl.lineB p la lb lc) == 0) = false := by simpa using h1
    have hq : Pl.ask p (Pl.colB k && Pl.lineB p la lb lc && Pl.ptB p ax ay) = Pl.ask p (Pl.ptB p ax ay && Pl.lineB p la lb lc) := by rw [show (Pl.colB k && Pl.lineB p la lb lc && Pl.ptB p ax ay) = ((Pl.ptB p ax ay && Pl.lineB p la lb lc) && Pl.colB k) by cases Pl.colB k <;> cases Pl.lineB p la lb lc <;> cases Pl.ptB p ax ay <;> rfl]; exact Pl.ask_and_n h1
    have hfin : Hid (Pl.perpTOf p k la lb lc ax ay = ((0, 0, 0), Pl.ask p (Pl.ptB p ax ay && Pl.lineB p la lb lc))) := by unfold Hid Pl.perpTOf; rw [hq, if_neg h1]
    clear h1 hq
    go_enter Try.func48, Try.ntmps48
    go_wp2_with fail
    refine (l01Both_any _ _ _ _ _ _ _).mono ?_
    rintro e w1 ⟨rfl, hb⟩
    have z0 : w1.cell? ⟨w.heap.size + 1 + 1, 0, none⟩ = some (.int .i64 0) := cellOf hb (by go_simp) (by simp <;> omega)
    have y0 : w1.frozen? ⟨w.heap.size + 1 + 1, 0, none⟩ = false := frozenOf hb (by go_simp) (by simp <;> omega)
    have z1 : w1.cell? ⟨w.heap.size + 1 + 1, 1, none⟩ = some (.int .i64 0) := cellOf hb (by go_simp) (by simp <;> omega)
    have y1 : w1.frozen? ⟨w.heap.size + 1 + 1, 1, none⟩ = false := frozenOf hb (by go_simp) (by simp <;> omega)
    have z2 : w1.cell? ⟨w.heap.size + 1 + 1, 2, none⟩ = some (.int .i64 0) := cellOf hb (by go_simp) (by simp <;> omega)
    have y2 : w1.frozen? ⟨w.heap.size + 1 + 1, 2, none⟩ = false := frozenOf hb (by go_simp) (by simp <;> omega)
    have hB : Below w.heap.size w w1 := below_of (by go_grown) hb (by simp <;> omega)
    clear hb
    go_wp2_with fail
    try simp only [Exit.inBlock, Exit.then]
    refine bodyPost_ret (by simp [results, Try.results48, go_sem, y0, y1, y2, z0, z1, z2]; try rfl) rfl ?_
    exact ⟨ret_li (by rw [hfin.out]) (by rw [hfin.out]) (by rw [hfin.out]) (by rw [hfin.out]), by first | exact hB | go_grown⟩
end Go.Proofs.Ytbjcbbnfgfmllaa
