/- Contracts: combinations of points: exported functions of both sides. -/
import Derived.Test.YtbjcbbnfgfmllaaGreatDoorH2
import Derived.Test.YtbjcbbnfgfmllaaGreatDoorPlA
import Derived.Test.YtbjcbbnfgfmllaaGreatDoorK
set_option linter.unusedVariables false
set_option linter.unusedSimpArgs false
set_option maxRecDepth 100000
set_option maxHeartbeats 1000000
namespace Go.Proofs.YtbjcbbnfgfmllaaGreatDoor
open Go.RowKit
theorem comb_spec2 (p a b t : Int) : (a + t * ((b - a) % p)) % p = Pl.comb p a b t := by unfold Pl.comb; rw [Int.add_emod, Pl.mulR, ← Int.add_emod]
theorem CombinationOf1_any (p ax ay bx by_ t : Int) (b0 b1 b2 b3 : Nat) (w : World) (c00 : w.cell? ⟨b0, 0, none⟩ = some (.int .i64 p)) (c10 : w.cell? ⟨b1, 0, none⟩ = some (.int .i64 ax)) (c11 : w.cell? ⟨b1, 1, none⟩ = some (.int .i64 ay)) (c20 : w.cell? ⟨b2, 0, none⟩ = some (.int .i64 bx)) (c21 : w.cell? ⟨b2, 1, none⟩ = some (.int .i64 by_)) (c30 : w.cell? ⟨b3, 0, none⟩ = some (.int .i64 t)) :
    Calls Tryz.prog 56 #[.pointer (some ⟨b0, 0, none⟩), .pointer (some ⟨b1, 0, none⟩), .pointer (some ⟨b2, 0, none⟩), .pointer (some ⟨b3, 0, none⟩)] w fun e w' => e = .returned (.bool (Pl.ptsB p [(ax, ay), (bx, by_)] && Pl.numB p t)) ∧ Below w.heap.size w w' := by
  cases hk : Pl.ptsB p [(ax, ay), (bx, by_)] with
  | false =>
    go_enter Tryz.func56, Tryz.ntmps56
    go_wp2_with fail
    refine (arePoints_any p _ 0 2 2 [(ax, ay), (bx, by_)] rfl (by omega) _ (by simp) ?_).mono ?_
    · intro j hj
      match j, hj with
      | 0, _ => exact ⟨by go_simp, by go_simp⟩
      | 1, _ => exact ⟨by go_simp, by go_simp⟩
    · rintro e w1 ⟨rfl, hb⟩
      rw [hk]
      have c30' : w1.cell? ⟨b3, 0, none⟩ = some (.int .i64 t) := keepC hb (keepA _ c30)
      have c00' : w1.cell? ⟨b0, 0, none⟩ = some (.int .i64 p) := keepC hb (keepA _ c00)
      have hB : Below w.heap.size w w1 := below_of (by go_grown) hb (by simp <;> omega)
      clear hb
      go_wp2_with (go_at_call 38; refine (isNumber_any _ _ _).mono ?_; rintro e w' ⟨rfl, rfl⟩)
      go_ret
      exact ⟨rfl, hB⟩
  | true =>
    go_enter Tryz.func56, Tryz.ntmps56
    go_wp2_with fail
    refine (arePoints_any p _ 0 2 2 [(ax, ay), (bx, by_)] rfl (by omega) _ (by simp) ?_).mono ?_
    · intro j hj
      match j, hj with
      | 0, _ => exact ⟨by go_simp, by go_simp⟩
      | 1, _ => exact ⟨by go_simp, by go_simp⟩
    · rintro e w1 ⟨rfl, hb⟩
      rw [hk]
      have c30' : w1.cell? ⟨b3, 0, none⟩ = some (.int .i64 t) := keepC hb (keepA _ c30)
      have c00' : w1.cell? ⟨b0, 0, none⟩ = some (.int .i64 p) := keepC hb (keepA _ c00)
      have hB : Below w.heap.size w w1 := below_of (by go_grown) hb (by simp <;> omega)
      clear hb
      go_wp2_with (go_at_call 38; refine (isNumber_any _ _ _).mono ?_; rintro e w' ⟨rfl, rfl⟩)
      go_ret
      exact ⟨rfl, hB⟩
theorem CombinationOf_any (p ax ay bx by_ t : Int) (w : World) :
    Calls Tryz.prog 17 #[.int .i64 p, .agg #[.int .i64 ax, .int .i64 ay], .agg #[.int .i64 bx, .int .i64 by_], .int .i64 t] w fun e w' => e = .returned (.tuple #[.agg #[.int .i64 ((Pl.combOf p ax ay bx by_ t).1.1), .int .i64 ((Pl.combOf p ax ay bx by_ t).1.2)], .int .i64 ((Pl.combOf p ax ay bx by_ t).2)]) ∧ Below w.heap.size w w' := by
  by_cases h0 : Pl.ask p (Pl.ptsB p [(ax, ay), (bx, by_)] && Pl.numB p t) = 0
  · have hfin : Hid (Pl.combOf p ax ay bx by_ t = ((Pl.comb p ax bx t, Pl.comb p ay by_ t), 0)) := by unfold Hid Pl.combOf; rw [if_pos h0]
    have hv : Hid (Pl.fieldB p = true ∧ (Pl.ptsB p [(ax, ay), (bx, by_)] && Pl.numB p t) = true) := Pl.ask_ok h0
    have hp := Pl.field_bd hv.out.1
    obtain ⟨hp1, hp2⟩ := hp
    have hv2 := hv.out.2
    simp only [Bool.and_eq_true] at hv2
    obtain ⟨⟨ax1, ax2, ay1, ay2⟩, bx1, bx2, by_1, by_2⟩ := Pl.pts2_bd hv2.1
    have ht := hv2.2
    simp only [Pl.numB, Bool.and_eq_true, decide_eq_true_eq] at ht
    obtain ⟨t1, t2⟩ := ht
    clear hv2
    go_enter Tryz.func17, Tryz.ntmps17
    go_wp2_with fail
    refine (asked_any p _ _ (Pl.ptsB p [(ax, ay), (bx, by_)] && Pl.numB p t) _ (by kernel_rfl) ?_).mono ?_
    · intro _
      exact CombinationOf1_any p ax ay bx by_ t _ _ _ _ _ (by go_simp) (by go_simp) (by go_simp) (by go_simp) (by go_simp) (by go_simp)
    · rintro e w1 ⟨rfl, hb⟩
      have c00 : w1.cell? ⟨w.heap.size, 0, none⟩ = some (.int .i64 p) := cellOf hb (by go_simp) (by simp <;> omega)
      have c10 : w1.cell? ⟨w.heap.size + 1, 0, none⟩ = some (.int .i64 ax) := cellOf hb (by go_simp) (by simp <;> omega)
      have c11 : w1.cell? ⟨w.heap.size + 1, 1, none⟩ = some (.int .i64 ay) := cellOf hb (by go_simp) (by simp <;> omega)
      have c20 : w1.cell? ⟨w.heap.size + 2, 0, none⟩ = some (.int .i64 bx) := cellOf hb (by go_simp) (by simp <;> omega)
      have c21 : w1.cell? ⟨w.heap.size + 2, 1, none⟩ = some (.int .i64 by_) := cellOf hb (by go_simp) (by simp <;> omega)
      have c30 : w1.cell? ⟨w.heap.size + 3, 0, none⟩ = some (.int .i64 t) := cellOf hb (by go_simp) (by simp <;> omega)
      have z0 : w1.cell? ⟨w.heap.size + 1 + 1 + 1 + 1, 0, none⟩ = some (.int .i64 0) := cellOf hb (by go_simp) (by simp <;> omega)
      have y0 : w1.frozen? ⟨w.heap.size + 1 + 1 + 1 + 1, 0, none⟩ = false := frozenOf hb (by go_simp) (by simp <;> omega)
      have z1 : w1.cell? ⟨w.heap.size + 1 + 1 + 1 + 1, 1, none⟩ = some (.int .i64 0) := cellOf hb (by go_simp) (by simp <;> omega)
      have y1 : w1.frozen? ⟨w.heap.size + 1 + 1 + 1 + 1, 1, none⟩ = false := frozenOf hb (by go_simp) (by simp <;> omega)
      have hz : w.heap.size + 4 ≤ w1.heap.size := by have := hb.size; simp at this; omega
      have hB : Below w.heap.size w w1 := below_of (by go_grown) hb (by simp <;> omega)
      clear hb
      go_wp2_with (go_at_call 52; refine (combination_any _ _ _ _ _ _ _ (by omega) (by omega) (by omega) (by omega) (by omega) (by omega) (by omega) (by omega) (by omega) (by omega) (by omega) (by omega)).mono ?_; rintro e w' ⟨rfl, hbn⟩; replace c00 := keepC hbn (by first | exact c00 | exact keepA _ c00 | exact keepA _ (keepA _ c00)); replace c10 := keepC hbn (by first | exact c10 | exact keepA _ c10 | exact keepA _ (keepA _ c10)); replace c11 := keepC hbn (by first | exact c11 | exact keepA _ c11 | exact keepA _ (keepA _ c11)); replace c20 := keepC hbn (by first | exact c20 | exact keepA _ c20 | exact keepA _ (keepA _ c20)); replace c21 := keepC hbn (by first | exact c21 | exact keepA _ c21 | exact keepA _ (keepA _ c21)); replace c30 := keepC hbn (by first | exact c30 | exact keepA _ c30 | exact keepA _ (keepA _ c30)); replace y0 := keepF hbn z0 y0; replace y1 := keepF hbn z1 y1; replace z0 := keepC hbn z0; replace z1 := keepC hbn z1; replace hB := below_of (B := w.heap.size) (a := w) (by first | exact hB | (have := hB.size; go_grown)) hbn (by first | exact hB.size | (have := hB.size; simp <;> omega)); clear hbn)
      try simp only [Exit.inBlock, Exit.then]
      refine bodyPost_ret (by simp [results, Tryz.results17, go_sem, y0, y1, z0, z1]; try rfl) rfl ?_
      exact ⟨ret_pi (by rw [hfin.out]) (by rw [hfin.out]) (by rw [hfin.out]), by go_grown⟩
  · have hne : (Pl.ask p (Pl.ptsB p [(ax, ay), (bx, by_)] && Pl.numB p t) != 0) = true := by simpa using h0
    have hfin : Hid (Pl.combOf p ax ay bx by_ t = ((0, 0), Pl.ask p (Pl.ptsB p [(ax, ay), (bx, by_)] && Pl.numB p t))) := by unfold Hid Pl.combOf; rw [if_neg h0]
    clear h0
    go_enter Tryz.func17, Tryz.ntmps17
    go_wp2_with fail
    refine (asked_any p _ _ (Pl.ptsB p [(ax, ay), (bx, by_)] && Pl.numB p t) _ (by kernel_rfl) ?_).mono ?_
    · intro _
      exact CombinationOf1_any p ax ay bx by_ t _ _ _ _ _ (by go_simp) (by go_simp) (by go_simp) (by go_simp) (by go_simp) (by go_simp)
    · rintro e w1 ⟨rfl, hb⟩
      have z0 : w1.cell? ⟨w.heap.size + 1 + 1 + 1 + 1, 0, none⟩ = some (.int .i64 0) := cellOf hb (by go_simp) (by simp <;> omega)
      have y0 : w1.frozen? ⟨w.heap.size + 1 + 1 + 1 + 1, 0, none⟩ = false := frozenOf hb (by go_simp) (by simp <;> omega)
      have z1 : w1.cell? ⟨w.heap.size + 1 + 1 + 1 + 1, 1, none⟩ = some (.int .i64 0) := cellOf hb (by go_simp) (by simp <;> omega)
      have y1 : w1.frozen? ⟨w.heap.size + 1 + 1 + 1 + 1, 1, none⟩ = false := frozenOf hb (by go_simp) (by simp <;> omega)
      have hB : Below w.heap.size w w1 := below_of (by go_grown) hb (by simp <;> omega)
      clear hb
      go_wp2_with fail
      try simp only [Exit.inBlock, Exit.then]
      refine bodyPost_ret (by simp [results, Tryz.results17, go_sem, y0, y1, z0, z1]; try rfl) rfl ?_
      exact ⟨ret_pi (by rw [hfin.out]) (by rw [hfin.out]) (by rw [hfin.out]), by go_grown⟩
theorem sCombinationOf_any (p ax ay bx by_ t : Int) (w : World) :
    Calls Tryz.prog 34 #[.int .i64 p, .agg #[.int .i64 ax, .int .i64 ay], .agg #[.int .i64 bx, .int .i64 by_], .int .i64 t] w fun e w' => e = .returned (.tuple #[.agg #[.int .i64 ((Pl.combOf p ax ay bx by_ t).1.1), .int .i64 ((Pl.combOf p ax ay bx by_ t).1.2)], .int .i64 ((Pl.combOf p ax ay bx by_ t).2)]) ∧ Below w.heap.size w w' := by
  by_cases h1 : Pl.ask p (Pl.ptsB p [(ax, ay), (bx, by_)]) = 0
  · by_cases h0 : Pl.ask p (Pl.ptsB p [(ax, ay), (bx, by_)] && Pl.numB p t) = 0
    · have hfin : Hid (Pl.combOf p ax ay bx by_ t = ((Pl.comb p ax bx t, Pl.comb p ay by_ t), 0)) := by unfold Hid Pl.combOf; rw [if_pos h0]
      have hv : Hid (Pl.fieldB p = true ∧ (Pl.ptsB p [(ax, ay), (bx, by_)] && Pl.numB p t) = true) := Pl.ask_ok h0
      have hp := Pl.field_bd hv.out.1
      obtain ⟨hp1, hp2⟩ := hp
      have hv2 := hv.out.2
      simp only [Bool.and_eq_true] at hv2
      obtain ⟨⟨ax1, ax2, ay1, ay2⟩, bx1, bx2, by_1, by_2⟩ := Pl.pts2_bd hv2.1
      have ht := hv2.2
      simp only [Pl.numB, Bool.and_eq_true, decide_eq_true_eq] at ht
      obtain ⟨t1, t2⟩ := ht
      clear hv2
      have hn : Hid (Pl.ask p (Pl.numB p t) = 0) := by have h := hv.out; simp only [Bool.and_eq_true] at h; unfold Hid; rw [h.2.2, Pl.ask_tt h.1]
      have H1 := hid h1
      clear h0 h1
      have r1n := Int.emod_nonneg (bx - ax) (show p ≠ 0 by omega)
      have r1l := Int.emod_lt_of_pos (bx - ax) (show 0 < p by omega)
      have r2n := Int.emod_nonneg (by_ - ay) (show p ≠ 0 by omega)
      have r2l := Int.emod_lt_of_pos (by_ - ay) (show 0 < p by omega)
      have r3n := Int.emod_nonneg (t * ((bx - ax) % p)) (show p ≠ 0 by omega)
      have r3l := Int.emod_lt_of_pos (t * ((bx - ax) % p)) (show 0 < p by omega)
      have r4n := Int.emod_nonneg (t * ((by_ - ay) % p)) (show p ≠ 0 by omega)
      have r4l := Int.emod_lt_of_pos (t * ((by_ - ay) % p)) (show 0 < p by omega)
      go_enter Tryz.func34, Tryz.ntmps34
      go_wp2_with fail
      refine (l01Code_any p _ 0 2 2 [(ax, ay), (bx, by_)] rfl (by omega) _ (by simp) ?_).mono ?_
      · intro j hj
        match j, hj with
        | 0, _ => exact ⟨by go_simp, by go_simp⟩
        | 1, _ => exact ⟨by go_simp, by go_simp⟩
      · rintro e w1 ⟨rfl, hb⟩
        rw [H1.out]
        have c00 : w1.cell? ⟨w.heap.size, 0, none⟩ = some (.int .i64 ax) := keepC hb (by go_simp)
        have c01 : w1.cell? ⟨w.heap.size, 1, none⟩ = some (.int .i64 ay) := keepC hb (by go_simp)
        have c10 : w1.cell? ⟨w.heap.size + 1, 0, none⟩ = some (.int .i64 bx) := keepC hb (by go_simp)
        have c11 : w1.cell? ⟨w.heap.size + 1, 1, none⟩ = some (.int .i64 by_) := keepC hb (by go_simp)
        have z0 : w1.cell? ⟨w.heap.size + 1 + 1, 0, none⟩ = some (.int .i64 0) := cellOf hb (by go_simp) (by simp <;> omega)
        have y0 : w1.frozen? ⟨w.heap.size + 1 + 1, 0, none⟩ = false := frozenOf hb (by go_simp) (by simp <;> omega)
        have z1 : w1.cell? ⟨w.heap.size + 1 + 1, 1, none⟩ = some (.int .i64 0) := cellOf hb (by go_simp) (by simp <;> omega)
        have y1 : w1.frozen? ⟨w.heap.size + 1 + 1, 1, none⟩ = false := frozenOf hb (by go_simp) (by simp <;> omega)
        have hB : Below w.heap.size w w1 := below_of (by go_grown) hb (by simp <;> omega)
        clear hb
        go_wp2_with fail
        refine (l01Numbers_any p _ 0 1 1 [t] rfl (by omega) _ ?_).mono ?_
        · intro j hj
          match j, hj with
          | 0, _ => go_simp
        · rintro e w2 ⟨rfl, rfl⟩
          rw [Pl.nums1, hn.out]
          have hb2 : Below w1.heap.size w1 (World.alloc w1 (.cells #[.int .i64 t] 2)) := (Below.refl _ _).alloc (Nat.le_refl _) _
          generalize (World.alloc w1 (.cells #[.int .i64 t] 2)) = w2 at *
          replace c00 := keepC hb2 c00
          replace c01 := keepC hb2 c01
          replace c10 := keepC hb2 c10
          replace c11 := keepC hb2 c11
          replace y0 := keepF hb2 z0 y0
          replace y1 := keepF hb2 z1 y1
          replace z0 := keepC hb2 z0
          replace z1 := keepC hb2 z1
          replace hB := below_of hB hb2 hB.size
          clear hb2
          go_wp2_with fail
          refine Reg.wp_region_grow (by kernel_rfl) 10 10 (fun _ => (#[.int .i64 0, .int .i64 0], 0)) (by kernel_rfl) ?_ ?_
          · intro k o h1 h2
            omega
          simp only [List.take_succ_cons, List.take_zero, List.drop_succ_cons, List.drop_zero]
          refine Reg.wpG_step (v := ?vr1x0) (fun wq hq => ?gr1x0) ?kr1x0
          case gr1x0 => (have q0 := keepC hq c00; have q1 := keepC hq c01; have q2 := keepC hq c10; have q3 := keepC hq c11; have q6 := keepC hq z0; have q7 := keepC hq z1; refine Reg.gAt_val ?_; go_simp; first | done | (with_reducible rfl) | rfl)
          try simp only [Act.put, List.setIfInBounds_toArray, List.set_cons_zero, List.set_cons_succ]
          refine Reg.wpG_step (v := ?vr1x1) (fun wq hq => ?gr1x1) ?kr1x1
          case gr1x1 => (have q0 := keepC hq c00; have q1 := keepC hq c01; have q2 := keepC hq c10; have q3 := keepC hq c11; have q6 := keepC hq z0; have q7 := keepC hq z1; refine Reg.gAt_val ?_; go_simp; first | done | (with_reducible rfl) | rfl)
          try simp only [Act.put, List.setIfInBounds_toArray, List.set_cons_zero, List.set_cons_succ]
          refine Reg.wpG_step (v := ?vr1x2) (fun wq hq => ?gr1x2) ?kr1x2
          case gr1x2 => (have q0 := keepC hq c00; have q1 := keepC hq c01; have q2 := keepC hq c10; have q3 := keepC hq c11; have q6 := keepC hq z0; have q7 := keepC hq z1; refine Reg.gAt_val ?_; go_simp; first | done | (with_reducible rfl) | rfl)
          try simp only [Act.put, List.setIfInBounds_toArray, List.set_cons_zero, List.set_cons_succ]
          refine Reg.wpG_step (v := ?vr1x3) (fun wq hq => ?gr1x3) ?kr1x3
          case gr1x3 => (have q0 := keepC hq c00; have q1 := keepC hq c01; have q2 := keepC hq c10; have q3 := keepC hq c11; have q6 := keepC hq z0; have q7 := keepC hq z1; refine Reg.gAt_val ?_; go_simp; first | done | (with_reducible rfl) | rfl)
          try simp only [Act.put, List.setIfInBounds_toArray, List.set_cons_zero, List.set_cons_succ]
          refine Reg.wpG_step (v := ?vr1x4) (fun wq hq => ?gr1x4) ?kr1x4
          case gr1x4 => (have q0 := keepC hq c00; have q1 := keepC hq c01; have q2 := keepC hq c10; have q3 := keepC hq c11; have q6 := keepC hq z0; have q7 := keepC hq z1; refine Reg.gAt_val ?_; go_simp; first | done | (with_reducible rfl) | rfl)
          try simp only [Act.put, List.setIfInBounds_toArray, List.set_cons_zero, List.set_cons_succ]
          refine Reg.wpG_step (v := ?vr1x5) (fun wq hq => ?gr1x5) ?kr1x5
          case gr1x5 => (have q0 := keepC hq c00; have q1 := keepC hq c01; have q2 := keepC hq c10; have q3 := keepC hq c11; have q6 := keepC hq z0; have q7 := keepC hq z1; refine Reg.gAt_val ?_; go_simp; first | done | (with_reducible rfl) | rfl)
          try simp only [Act.put, List.setIfInBounds_toArray, List.set_cons_zero, List.set_cons_succ]
          refine Reg.wpG_step (v := ?vr1x6) (fun wq hq => ?gr1x6) ?kr1x6
          case gr1x6 => (have q0 := keepC hq c00; have q1 := keepC hq c01; have q2 := keepC hq c10; have q3 := keepC hq c11; have q6 := keepC hq z0; have q7 := keepC hq z1; refine Reg.gAt_val ?_; go_simp; first | done | (with_reducible rfl) | rfl)
          try simp only [Act.put, List.setIfInBounds_toArray, List.set_cons_zero, List.set_cons_succ]
          refine Reg.wpG_step (v := .agg #[.int .i64 ((bx - ax) % p), .int .i64 ((by_ - ay) % p)]) (fun wq hq => ?gr1x7) ?kr1x7
          case gr1x7 => (unfold Reg.gAt; go_simp; refine Reg.quiet_enter ?_; exact l01Minus_any _ _ _ _ _ _ (by omega) (by omega) (by omega) (by omega) (by omega) (by omega) (by omega) (by omega) (by omega) (by omega))
          try simp only [Act.put, List.setIfInBounds_toArray, List.set_cons_zero, List.set_cons_succ]
          refine Reg.wpG_step (v := .agg #[.int .i64 ((t * ((bx - ax) % p)) % p), .int .i64 ((t * ((by_ - ay) % p)) % p)]) (fun wq hq => ?gr1x8) ?kr1x8
          case gr1x8 => (unfold Reg.gAt; go_simp; refine Reg.quiet_enter ?_; exact l01Times_any _ _ _ _ _ (by omega) (by omega) (by omega) (by omega) (by omega) (by omega) (by omega) (by omega))
          try simp only [Act.put, List.setIfInBounds_toArray, List.set_cons_zero, List.set_cons_succ]
          refine Reg.wpG_step (v := .agg #[.int .i64 ((ax + t * ((bx - ax) % p)) % p), .int .i64 ((ay + t * ((by_ - ay) % p)) % p)]) (fun wq hq => ?gr1x9) ?kr1x9
          case gr1x9 => (unfold Reg.gAt; go_simp; refine Reg.quiet_enter ?_; exact (l01Plus_any _ _ _ _ _ _ (by omega) (by omega) (by omega) (by omega) (by omega) (by omega) (by omega) (by omega) (by omega) (by omega)).mono fun e w3 ⟨he, hb⟩ => ⟨he.trans (ret_p (Pl.addR _ _ _) (Pl.addR _ _ _)), hb⟩)
          try simp only [Act.put, List.setIfInBounds_toArray, List.set_cons_zero, List.set_cons_succ]
          intro w2 g hB2 hg hd
          clear hg hd
          change wpList _ _ _ _ (Reg.putPtrs _ g [] _) _
          simp only [Reg.putPtrs]
          replace c00 := keepC hB2 c00
          replace c01 := keepC hB2 c01
          replace c10 := keepC hB2 c10
          replace c11 := keepC hB2 c11
          replace y0 := keepF hB2 z0 y0
          replace y1 := keepF hB2 z1 y1
          replace z0 := keepC hB2 z0
          replace z1 := keepC hB2 z1
          replace hB := below_of hB hB2 hB.size
          clear hB2 
          go_wp2_with fail
          try simp only [Exit.inBlock, Exit.then]
          refine bodyPost_ret (by simp [results, Tryz.results34, go_sem, y0, y1, z0, z1]; try rfl) rfl ?_
          exact ⟨ret_pi (by rw [hfin.out]; exact comb_spec2 _ _ _ _) (by rw [hfin.out]; exact comb_spec2 _ _ _ _) (by rw [hfin.out]), by go_grown⟩
    · have hne : (Pl.ask p (Pl.ptsB p [(ax, ay), (bx, by_)] && Pl.numB p t) != 0) = true := by simpa using h0
      have hfin : Hid (Pl.combOf p ax ay bx by_ t = ((0, 0), Pl.ask p (Pl.ptsB p [(ax, ay), (bx, by_)] && Pl.numB p t))) := by unfold Hid Pl.combOf; rw [if_neg h0]
      have hn : Hid (Pl.ask p (Pl.numB p t) = Pl.ask p (Pl.ptsB p [(ax, ay), (bx, by_)] && Pl.numB p t)) := by have h := Pl.ask_ok h1; unfold Hid; rw [h.2, Bool.true_and]
      have H1 := hid h1
      clear h0 h1
      go_enter Tryz.func34, Tryz.ntmps34
      go_wp2_with fail
      refine (l01Code_any p _ 0 2 2 [(ax, ay), (bx, by_)] rfl (by omega) _ (by simp) ?_).mono ?_
      · intro j hj
        match j, hj with
        | 0, _ => exact ⟨by go_simp, by go_simp⟩
        | 1, _ => exact ⟨by go_simp, by go_simp⟩
      · rintro e w1 ⟨rfl, hb⟩
        rw [H1.out]
        have c00 : w1.cell? ⟨w.heap.size, 0, none⟩ = some (.int .i64 ax) := keepC hb (by go_simp)
        have c01 : w1.cell? ⟨w.heap.size, 1, none⟩ = some (.int .i64 ay) := keepC hb (by go_simp)
        have c10 : w1.cell? ⟨w.heap.size + 1, 0, none⟩ = some (.int .i64 bx) := keepC hb (by go_simp)
        have c11 : w1.cell? ⟨w.heap.size + 1, 1, none⟩ = some (.int .i64 by_) := keepC hb (by go_simp)
        have z0 : w1.cell? ⟨w.heap.size + 1 + 1, 0, none⟩ = some (.int .i64 0) := cellOf hb (by go_simp) (by simp <;> omega)
        have y0 : w1.frozen? ⟨w.heap.size + 1 + 1, 0, none⟩ = false := frozenOf hb (by go_simp) (by simp <;> omega)
        have z1 : w1.cell? ⟨w.heap.size + 1 + 1, 1, none⟩ = some (.int .i64 0) := cellOf hb (by go_simp) (by simp <;> omega)
        have y1 : w1.frozen? ⟨w.heap.size + 1 + 1, 1, none⟩ = false := frozenOf hb (by go_simp) (by simp <;> omega)
        have hB : Below w.heap.size w w1 := below_of (by go_grown) hb (by simp <;> omega)
        clear hb
        go_wp2_with fail
        refine (l01Numbers_any p _ 0 1 1 [t] rfl (by omega) _ ?_).mono ?_
        · intro j hj
          match j, hj with
          | 0, _ => go_simp
        · rintro e w2 ⟨rfl, rfl⟩
          rw [Pl.nums1, hn.out]
          have hb2 : Below w1.heap.size w1 (World.alloc w1 (.cells #[.int .i64 t] 2)) := (Below.refl _ _).alloc (Nat.le_refl _) _
          generalize (World.alloc w1 (.cells #[.int .i64 t] 2)) = w2 at *
          replace c00 := keepC hb2 c00
          replace c01 := keepC hb2 c01
          replace c10 := keepC hb2 c10
          replace c11 := keepC hb2 c11
          replace y0 := keepF hb2 z0 y0
          replace y1 := keepF hb2 z1 y1
          replace z0 := keepC hb2 z0
          replace z1 := keepC hb2 z1
          replace hB := below_of hB hb2 hB.size
          clear hb2
          go_wp2_with fail
          try simp only [Exit.inBlock, Exit.then]
          refine bodyPost_ret (by simp [results, Tryz.results34, go_sem, y0, y1, z0, z1]; try rfl) rfl ?_
          exact ⟨ret_pi (by rw [hfin.out]) (by rw [hfin.out]) (by rw [hfin.out]), by go_grown⟩
  · have hne : (Pl.ask p (Pl.ptsB p [(ax, ay), (bx, by_)]) != 0) = true := by simpa using h1
    have hne2 : (Pl.ask p (Pl.ptsB p [(ax, ay), (bx, by_)]) == 0) = false := by simpa using h1
    have hq : Pl.ask p (Pl.ptsB p [(ax, ay), (bx, by_)] && Pl.numB p t) = Pl.ask p (Pl.ptsB p [(ax, ay), (bx, by_)]) := Pl.ask_and_n h1
    have hfin : Hid (Pl.combOf p ax ay bx by_ t = ((0, 0), Pl.ask p (Pl.ptsB p [(ax, ay), (bx, by_)]))) := by unfold Hid Pl.combOf; rw [hq, if_neg h1]
    clear h1 hq
    go_enter Tryz.func34, Tryz.ntmps34
    go_wp2_with fail
    refine (l01Code_any p _ 0 2 2 [(ax, ay), (bx, by_)] rfl (by omega) _ (by simp) ?_).mono ?_
    · intro j hj
      match j, hj with
      | 0, _ => exact ⟨by go_simp, by go_simp⟩
      | 1, _ => exact ⟨by go_simp, by go_simp⟩
    · rintro e w1 ⟨rfl, hb⟩
      have c00 : w1.cell? ⟨w.heap.size, 0, none⟩ = some (.int .i64 ax) := keepC hb (by go_simp)
      have c01 : w1.cell? ⟨w.heap.size, 1, none⟩ = some (.int .i64 ay) := keepC hb (by go_simp)
      have c10 : w1.cell? ⟨w.heap.size + 1, 0, none⟩ = some (.int .i64 bx) := keepC hb (by go_simp)
      have c11 : w1.cell? ⟨w.heap.size + 1, 1, none⟩ = some (.int .i64 by_) := keepC hb (by go_simp)
      have z0 : w1.cell? ⟨w.heap.size + 1 + 1, 0, none⟩ = some (.int .i64 0) := cellOf hb (by go_simp) (by simp <;> omega)
      have y0 : w1.frozen? ⟨w.heap.size + 1 + 1, 0, none⟩ = false := frozenOf hb (by go_simp) (by simp <;> omega)
      have z1 : w1.cell? ⟨w.heap.size + 1 + 1, 1, none⟩ = some (.int .i64 0) := cellOf hb (by go_simp) (by simp <;> omega)
      have y1 : w1.frozen? ⟨w.heap.size + 1 + 1, 1, none⟩ = false := frozenOf hb (by go_simp) (by simp <;> omega)
      have hB : Below w.heap.size w w1 := below_of (by go_grown) hb (by simp <;> omega)
      clear hb
      go_wp2_with fail
      try simp only [Exit.inBlock, Exit.then]
      refine bodyPost_ret (by simp [results, Tryz.results34, go_sem, y0, y1, z0, z1]; try rfl) rfl ?_
      exact ⟨ret_pi (by rw [hfin.out]) (by rw [hfin.out]) (by rw [hfin.out]), by go_grown⟩
end Go.Proofs.YtbjcbbnfgfmllaaGreatDoor
