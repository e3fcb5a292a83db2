/- Contracts: lines with a spread, bisectors: both sides. -/
import Derived.Test.YtommkkgkfjmhdaaSr
import Derived.Test.YtommkkgkfjmhdaaFl
import Derived.Test.YtommkkgkfjmhdaaO2
import Derived.Test.YtommkkgkfjmhdaaN
import Derived.Test.YtommkkgkfjmhdaaPl11
import Derived.Test.YtommkkgkfjmhdaaReg4
import Derived.Test.YtommkkgkfjmhdaaReg3
set_option linter.unusedVariables false
set_option linter.unusedSimpArgs false
set_option maxHeartbeats 1000000
set_option maxRecDepth 100000
namespace Go.Proofs.Ytommkkgkfjmhdaa
open Go.RowKit
theorem LinesWithSpread2_any (na nb nc p k la lb lc s : Int) (b0 b1 b2 b3 : Nat) (w : World) (hf : Pl.fieldB p = true) (na1 : 0 ≤ na) (na2 : na ≤ 31) (nb1 : 0 ≤ nb) (nb2 : nb ≤ 31) (nc1 : 0 ≤ nc) (nc2 : nc ≤ 31) (la1 : 0 ≤ la) (la2 : la ≤ 31) (lb1 : 0 ≤ lb) (lb2 : lb ≤ 31) (lc1 : 0 ≤ lc) (lc2 : lc ≤ 31) (c00 : w.cell? ⟨b0, 0, none⟩ = some (.int .i64 p)) (c10 : w.cell? ⟨b1, 0, none⟩ = some (.int .i64 k)) (c20 : w.cell? ⟨b2, 0, none⟩ = some (.int .i64 la)) (c21 : w.cell? ⟨b2, 1, none⟩ = some (.int .i64 lb)) (c22 : w.cell? ⟨b2, 2, none⟩ = some (.int .i64 lc)) (c30 : w.cell? ⟨b3, 0, none⟩ = some (.int .i64 s)) :
    Calls Try.prog 63 #[.agg #[.int .i64 na, .int .i64 nb, .int .i64 nc], .pointer (some ⟨b0, 0, none⟩), .pointer (some ⟨b1, 0, none⟩), .pointer (some ⟨b2, 0, none⟩), .pointer (some ⟨b3, 0, none⟩)] w fun e w' => e = .returned (.bool (!Pl.nullB p k na nb && (Pl.spread p k la lb na nb == s))) ∧ Below w.heap.size w w' := by
  have hp := Pl.field_bd hf
  obtain ⟨hp1, hp2⟩ := hp
  have hB := (Below.refl w.heap.size w).alloc (Nat.le_refl _) (.cells #[.int .i64 na, .int .i64 nb, .int .i64 nc] 28)
  replace c00 := keepA (.cells #[.int .i64 na, .int .i64 nb, .int .i64 nc] 28) c00
  replace c10 := keepA (.cells #[.int .i64 na, .int .i64 nb, .int .i64 nc] 28) c10
  replace c20 := keepA (.cells #[.int .i64 na, .int .i64 nb, .int .i64 nc] 28) c20
  replace c21 := keepA (.cells #[.int .i64 na, .int .i64 nb, .int .i64 nc] 28) c21
  replace c22 := keepA (.cells #[.int .i64 na, .int .i64 nb, .int .i64 nc] 28) c22
  replace c30 := keepA (.cells #[.int .i64 na, .int .i64 nb, .int .i64 nc] 28) c30
  have p0 : (World.alloc w (.cells #[.int .i64 na, .int .i64 nb, .int .i64 nc] 28)).cell? ⟨w.heap.size, 0, none⟩ = some (.int .i64 na) := by go_simp
  have p1 : (World.alloc w (.cells #[.int .i64 na, .int .i64 nb, .int .i64 nc] 28)).cell? ⟨w.heap.size, 1, none⟩ = some (.int .i64 nb) := by go_simp
  have p2 : (World.alloc w (.cells #[.int .i64 na, .int .i64 nb, .int .i64 nc] 28)).cell? ⟨w.heap.size, 2, none⟩ = some (.int .i64 nc) := by go_simp
  cases hn : Pl.nullB p k na nb with
  | true =>
    go_enter Try.func63, Try.ntmps63
    go_wp2_with fail
    generalize hW : World.alloc w (.cells #[.int .i64 na, .int .i64 nb, .int .i64 nc] 28) = W at *
    clear hW
    refine Reg.wp_region_guard (by kernel_rfl) 14 (by kernel_rfl) ?_
    simp only [List.take_succ_cons, List.take_zero, List.drop_succ_cons, List.drop_zero]
    refine Reg.wpH_do (v := ?vg1x0) (by first | rfl | kernel_rfl) (fun wq hq => ?gg1x0) ?kg1x0
    case gg1x0 => (have q0 := keepC hq c00; have q1 := keepC hq c10; have q2 := keepC hq c20; have q3 := keepC hq c21; have q4 := keepC hq c22; have q5 := keepC hq c30; have q6 := keepC hq p0; have q7 := keepC hq p1; have q8 := keepC hq p2; refine Reg.gAt_val ?_; go_simp; first | done | (with_reducible rfl) | rfl)
    try simp only [Act.put, List.setIfInBounds_toArray, List.set_cons_zero, List.set_cons_succ]
    refine Reg.wpH_do (v := ?vg1x1) (by first | rfl | kernel_rfl) (fun wq hq => ?gg1x1) ?kg1x1
    case gg1x1 => (have q0 := keepC hq c00; have q1 := keepC hq c10; have q2 := keepC hq c20; have q3 := keepC hq c21; have q4 := keepC hq c22; have q5 := keepC hq c30; have q6 := keepC hq p0; have q7 := keepC hq p1; have q8 := keepC hq p2; refine Reg.gAt_val ?_; go_simp; first | done | (with_reducible rfl) | rfl)
    try simp only [Act.put, List.setIfInBounds_toArray, List.set_cons_zero, List.set_cons_succ]
    refine Reg.wpH_do (v := ?vg1x2) (by first | rfl | kernel_rfl) (fun wq hq => ?gg1x2) ?kg1x2
    case gg1x2 => (have q0 := keepC hq c00; have q1 := keepC hq c10; have q2 := keepC hq c20; have q3 := keepC hq c21; have q4 := keepC hq c22; have q5 := keepC hq c30; have q6 := keepC hq p0; have q7 := keepC hq p1; have q8 := keepC hq p2; refine Reg.gAt_val ?_; go_simp; first | done | (with_reducible rfl) | rfl)
    try simp only [Act.put, List.setIfInBounds_toArray, List.set_cons_zero, List.set_cons_succ]
    refine Reg.wpH_do (v := .bool true) (by first | rfl | kernel_rfl) (fun wq hq => ?gg1x3) ?kg1x3
    case gg1x3 => (unfold Reg.gAt; go_simp; refine Reg.quiet_enter ?_; exact isNull_any p k na nb nc _ (by omega) (by omega) (by omega) (by omega) (by omega) (by omega) (by omega) (by omega) |>.mono fun e w2 h => ⟨by rw [h.1, hn], h.2⟩)
    try simp only [Act.put, List.setIfInBounds_toArray, List.set_cons_zero, List.set_cons_succ]
    refine Reg.wpH_do (v := ?vg1x4) (by first | rfl | kernel_rfl) (fun wq hq => ?gg1x4) ?kg1x4
    case gg1x4 => (have q0 := keepC hq c00; have q1 := keepC hq c10; have q2 := keepC hq c20; have q3 := keepC hq c21; have q4 := keepC hq c22; have q5 := keepC hq c30; have q6 := keepC hq p0; have q7 := keepC hq p1; have q8 := keepC hq p2; refine Reg.gAt_val ?_; go_simp; first | done | (with_reducible rfl) | rfl)
    try simp only [Act.put, List.setIfInBounds_toArray, List.set_cons_zero, List.set_cons_succ]
    refine Reg.wpH_do (v := ?vg1x5) (by first | rfl | kernel_rfl) (fun wq hq => ?gg1x5) ?kg1x5
    case gg1x5 => (have q0 := keepC hq c00; have q1 := keepC hq c10; have q2 := keepC hq c20; have q3 := keepC hq c21; have q4 := keepC hq c22; have q5 := keepC hq c30; have q6 := keepC hq p0; have q7 := keepC hq p1; have q8 := keepC hq p2; refine Reg.gAt_val ?_; go_simp; first | done | (with_reducible rfl) | rfl)
    try simp only [Act.put, List.setIfInBounds_toArray, List.set_cons_zero, List.set_cons_succ]
    refine Reg.wpH_skip (by first | rfl | kernel_rfl) ?_
    try simp only [Act.put, List.setIfInBounds_toArray, List.set_cons_zero, List.set_cons_succ]
    refine Reg.wpH_skip (by first | rfl | kernel_rfl) ?_
    try simp only [Act.put, List.setIfInBounds_toArray, List.set_cons_zero, List.set_cons_succ]
    refine Reg.wpH_skip (by first | rfl | kernel_rfl) ?_
    try simp only [Act.put, List.setIfInBounds_toArray, List.set_cons_zero, List.set_cons_succ]
    refine Reg.wpH_skip (by first | rfl | kernel_rfl) ?_
    try simp only [Act.put, List.setIfInBounds_toArray, List.set_cons_zero, List.set_cons_succ]
    refine Reg.wpH_skip (by first | rfl | kernel_rfl) ?_
    try simp only [Act.put, List.setIfInBounds_toArray, List.set_cons_zero, List.set_cons_succ]
    refine Reg.wpH_skip (by first | rfl | kernel_rfl) ?_
    try simp only [Act.put, List.setIfInBounds_toArray, List.set_cons_zero, List.set_cons_succ]
    refine Reg.wpH_skip (by first | rfl | kernel_rfl) ?_
    try simp only [Act.put, List.setIfInBounds_toArray, List.set_cons_zero, List.set_cons_succ]
    refine Reg.wpH_do (v := ?vg1x13) (by first | rfl | kernel_rfl) (fun wq hq => ?gg1x13) ?kg1x13
    case gg1x13 => (have q0 := keepC hq c00; have q1 := keepC hq c10; have q2 := keepC hq c20; have q3 := keepC hq c21; have q4 := keepC hq c22; have q5 := keepC hq c30; have q6 := keepC hq p0; have q7 := keepC hq p1; have q8 := keepC hq p2; refine Reg.gAt_val ?_; go_simp; first | done | (with_reducible rfl) | rfl)
    try simp only [Act.put, List.setIfInBounds_toArray, List.set_cons_zero, List.set_cons_succ]
    intro w2 hB2
    replace c00 := keepC hB2 c00
    replace c10 := keepC hB2 c10
    replace c20 := keepC hB2 c20
    replace c21 := keepC hB2 c21
    replace c22 := keepC hB2 c22
    replace c30 := keepC hB2 c30
    replace p0 := keepC hB2 p0
    replace p1 := keepC hB2 p1
    replace p2 := keepC hB2 p2
    replace hB := below_of hB hB2 hB.size
    clear hB2
    change wpList _ _ _ _ _ _
    go_wp2_with fail
    go_ret
    exact ⟨rfl, hB⟩
  | false =>
    go_enter Try.func63, Try.ntmps63
    go_wp2_with fail
    generalize hW : World.alloc w (.cells #[.int .i64 na, .int .i64 nb, .int .i64 nc] 28) = W at *
    clear hW
    refine Reg.wp_region_guard (by kernel_rfl) 14 (by kernel_rfl) ?_
    simp only [List.take_succ_cons, List.take_zero, List.drop_succ_cons, List.drop_zero]
    refine Reg.wpH_do (v := ?vg2x0) (by first | rfl | kernel_rfl) (fun wq hq => ?gg2x0) ?kg2x0
    case gg2x0 => (have q0 := keepC hq c00; have q1 := keepC hq c10; have q2 := keepC hq c20; have q3 := keepC hq c21; have q4 := keepC hq c22; have q5 := keepC hq c30; have q6 := keepC hq p0; have q7 := keepC hq p1; have q8 := keepC hq p2; refine Reg.gAt_val ?_; go_simp; first | done | (with_reducible rfl) | rfl)
    try simp only [Act.put, List.setIfInBounds_toArray, List.set_cons_zero, List.set_cons_succ]
    refine Reg.wpH_do (v := ?vg2x1) (by first | rfl | kernel_rfl) (fun wq hq => ?gg2x1) ?kg2x1
    case gg2x1 => (have q0 := keepC hq c00; have q1 := keepC hq c10; have q2 := keepC hq c20; have q3 := keepC hq c21; have q4 := keepC hq c22; have q5 := keepC hq c30; have q6 := keepC hq p0; have q7 := keepC hq p1; have q8 := keepC hq p2; refine Reg.gAt_val ?_; go_simp; first | done | (with_reducible rfl) | rfl)
    try simp only [Act.put, List.setIfInBounds_toArray, List.set_cons_zero, List.set_cons_succ]
    refine Reg.wpH_do (v := ?vg2x2) (by first | rfl | kernel_rfl) (fun wq hq => ?gg2x2) ?kg2x2
    case gg2x2 => (have q0 := keepC hq c00; have q1 := keepC hq c10; have q2 := keepC hq c20; have q3 := keepC hq c21; have q4 := keepC hq c22; have q5 := keepC hq c30; have q6 := keepC hq p0; have q7 := keepC hq p1; have q8 := keepC hq p2; refine Reg.gAt_val ?_; go_simp; first | done | (with_reducible rfl) | rfl)
    try simp only [Act.put, List.setIfInBounds_toArray, List.set_cons_zero, List.set_cons_succ]
    refine Reg.wpH_do (v := .bool false) (by first | rfl | kernel_rfl) (fun wq hq => ?gg2x3) ?kg2x3
    case gg2x3 => (unfold Reg.gAt; go_simp; refine Reg.quiet_enter ?_; exact isNull_any p k na nb nc _ (by omega) (by omega) (by omega) (by omega) (by omega) (by omega) (by omega) (by omega) |>.mono fun e w2 h => ⟨by rw [h.1, hn], h.2⟩)
    try simp only [Act.put, List.setIfInBounds_toArray, List.set_cons_zero, List.set_cons_succ]
    refine Reg.wpH_do (v := ?vg2x4) (by first | rfl | kernel_rfl) (fun wq hq => ?gg2x4) ?kg2x4
    case gg2x4 => (have q0 := keepC hq c00; have q1 := keepC hq c10; have q2 := keepC hq c20; have q3 := keepC hq c21; have q4 := keepC hq c22; have q5 := keepC hq c30; have q6 := keepC hq p0; have q7 := keepC hq p1; have q8 := keepC hq p2; refine Reg.gAt_val ?_; go_simp; first | done | (with_reducible rfl) | rfl)
    try simp only [Act.put, List.setIfInBounds_toArray, List.set_cons_zero, List.set_cons_succ]
    refine Reg.wpH_do (v := ?vg2x5) (by first | rfl | kernel_rfl) (fun wq hq => ?gg2x5) ?kg2x5
    case gg2x5 => (have q0 := keepC hq c00; have q1 := keepC hq c10; have q2 := keepC hq c20; have q3 := keepC hq c21; have q4 := keepC hq c22; have q5 := keepC hq c30; have q6 := keepC hq p0; have q7 := keepC hq p1; have q8 := keepC hq p2; refine Reg.gAt_val ?_; go_simp; first | done | (with_reducible rfl) | rfl)
    try simp only [Act.put, List.setIfInBounds_toArray, List.set_cons_zero, List.set_cons_succ]
    refine Reg.wpH_do (v := ?vg2x6) (by first | rfl | kernel_rfl) (fun wq hq => ?gg2x6) ?kg2x6
    case gg2x6 => (have q0 := keepC hq c00; have q1 := keepC hq c10; have q2 := keepC hq c20; have q3 := keepC hq c21; have q4 := keepC hq c22; have q5 := keepC hq c30; have q6 := keepC hq p0; have q7 := keepC hq p1; have q8 := keepC hq p2; refine Reg.gAt_val ?_; go_simp; first | done | (with_reducible rfl) | rfl)
    try simp only [Act.put, List.setIfInBounds_toArray, List.set_cons_zero, List.set_cons_succ]
    refine Reg.wpH_do (v := ?vg2x7) (by first | rfl | kernel_rfl) (fun wq hq => ?gg2x7) ?kg2x7
    case gg2x7 => (have q0 := keepC hq c00; have q1 := keepC hq c10; have q2 := keepC hq c20; have q3 := keepC hq c21; have q4 := keepC hq c22; have q5 := keepC hq c30; have q6 := keepC hq p0; have q7 := keepC hq p1; have q8 := keepC hq p2; refine Reg.gAt_val ?_; go_simp; first | done | (with_reducible rfl) | rfl)
    try simp only [Act.put, List.setIfInBounds_toArray, List.set_cons_zero, List.set_cons_succ]
    refine Reg.wpH_do (v := ?vg2x8) (by first | rfl | kernel_rfl) (fun wq hq => ?gg2x8) ?kg2x8
    case gg2x8 => (have q0 := keepC hq c00; have q1 := keepC hq c10; have q2 := keepC hq c20; have q3 := keepC hq c21; have q4 := keepC hq c22; have q5 := keepC hq c30; have q6 := keepC hq p0; have q7 := keepC hq p1; have q8 := keepC hq p2; refine Reg.gAt_val ?_; go_simp; first | done | (with_reducible rfl) | rfl)
    try simp only [Act.put, List.setIfInBounds_toArray, List.set_cons_zero, List.set_cons_succ]
    refine Reg.wpH_do (v := ?vg2x9) (by first | rfl | kernel_rfl) (fun wq hq => ?gg2x9) ?kg2x9
    case gg2x9 => (have q0 := keepC hq c00; have q1 := keepC hq c10; have q2 := keepC hq c20; have q3 := keepC hq c21; have q4 := keepC hq c22; have q5 := keepC hq c30; have q6 := keepC hq p0; have q7 := keepC hq p1; have q8 := keepC hq p2; refine Reg.gAt_val ?_; go_simp; first | done | (with_reducible rfl) | rfl)
    try simp only [Act.put, List.setIfInBounds_toArray, List.set_cons_zero, List.set_cons_succ]
    refine Reg.wpH_do (v := .int .i64 (Pl.spread p k la lb na nb)) (by first | rfl | kernel_rfl) (fun wq hq => ?gg2x10) ?kg2x10
    case gg2x10 => (unfold Reg.gAt; go_simp; refine Reg.quiet_enter ?_; exact spread_any p k la lb lc na nb nc _ hf (by omega) (by omega) (by omega) (by omega) (by omega) (by omega) (by omega) (by omega) (by omega) (by omega) (by omega) (by omega))
    try simp only [Act.put, List.setIfInBounds_toArray, List.set_cons_zero, List.set_cons_succ]
    refine Reg.wpH_do (v := ?vg2x11) (by first | rfl | kernel_rfl) (fun wq hq => ?gg2x11) ?kg2x11
    case gg2x11 => (have q0 := keepC hq c00; have q1 := keepC hq c10; have q2 := keepC hq c20; have q3 := keepC hq c21; have q4 := keepC hq c22; have q5 := keepC hq c30; have q6 := keepC hq p0; have q7 := keepC hq p1; have q8 := keepC hq p2; refine Reg.gAt_val ?_; go_simp; first | done | (with_reducible rfl) | rfl)
    try simp only [Act.put, List.setIfInBounds_toArray, List.set_cons_zero, List.set_cons_succ]
    refine Reg.wpH_do (v := ?vg2x12) (by first | rfl | kernel_rfl) (fun wq hq => ?gg2x12) ?kg2x12
    case gg2x12 => (have q0 := keepC hq c00; have q1 := keepC hq c10; have q2 := keepC hq c20; have q3 := keepC hq c21; have q4 := keepC hq c22; have q5 := keepC hq c30; have q6 := keepC hq p0; have q7 := keepC hq p1; have q8 := keepC hq p2; refine Reg.gAt_val ?_; go_simp; first | done | (with_reducible rfl) | rfl)
    try simp only [Act.put, List.setIfInBounds_toArray, List.set_cons_zero, List.set_cons_succ]
    refine Reg.wpH_do (v := ?vg2x13) (by first | rfl | kernel_rfl) (fun wq hq => ?gg2x13) ?kg2x13
    case gg2x13 => (have q0 := keepC hq c00; have q1 := keepC hq c10; have q2 := keepC hq c20; have q3 := keepC hq c21; have q4 := keepC hq c22; have q5 := keepC hq c30; have q6 := keepC hq p0; have q7 := keepC hq p1; have q8 := keepC hq p2; refine Reg.gAt_val ?_; go_simp; first | done | (with_reducible rfl) | rfl)
    try simp only [Act.put, List.setIfInBounds_toArray, List.set_cons_zero, List.set_cons_succ]
    intro w2 hB2
    replace c00 := keepC hB2 c00
    replace c10 := keepC hB2 c10
    replace c20 := keepC hB2 c20
    replace c21 := keepC hB2 c21
    replace c22 := keepC hB2 c22
    replace c30 := keepC hB2 c30
    replace p0 := keepC hB2 p0
    replace p1 := keepC hB2 p1
    replace p2 := keepC hB2 p2
    replace hB := below_of hB hB2 hB.size
    clear hB2
    change wpList _ _ _ _ _ _
    go_wp2_with fail
    go_ret
    exact ⟨rfl, hB⟩
theorem LinesWithSpread1_any (p k la lb lc ax ay s : Int) (b0 b1 b2 b3 b4 : Nat) (w : World) (c00 : w.cell? ⟨b0, 0, none⟩ = some (.int .i64 p)) (c10 : w.cell? ⟨b1, 0, none⟩ = some (.int .i64 k)) (c20 : w.cell? ⟨b2, 0, none⟩ = some (.int .i64 la)) (c21 : w.cell? ⟨b2, 1, none⟩ = some (.int .i64 lb)) (c22 : w.cell? ⟨b2, 2, none⟩ = some (.int .i64 lc)) (c30 : w.cell? ⟨b3, 0, none⟩ = some (.int .i64 ax)) (c31 : w.cell? ⟨b3, 1, none⟩ = some (.int .i64 ay)) (c40 : w.cell? ⟨b4, 0, none⟩ = some (.int .i64 s)) :
    Calls Try.prog 60 #[.pointer (some ⟨b1, 0, none⟩), .pointer (some ⟨b0, 0, none⟩), .pointer (some ⟨b2, 0, none⟩), .pointer (some ⟨b3, 0, none⟩), .pointer (some ⟨b4, 0, none⟩)] w fun e w' => e = .returned (.bool (Pl.lwsV p k la lb lc ax ay s)) ∧ Below w.heap.size w w' := by
  unfold Pl.lwsV
  cases hk : Pl.colB k with
  | false =>
    have hB := Below.refl w.heap.size w
    go_enter Try.func60, Try.ntmps60
    go_wp2_with (first | (go_at_call 45; refine (isColour_any _ _).mono ?_; rintro e w' ⟨rfl, rfl⟩) | (go_at_call 61; refine (isNumber_any _ _ _).mono ?_; rintro e w' ⟨rfl, rfl⟩) | (go_at_call 47; refine (isLine_any _ _ _ _ _).mono ?_; rintro e w' ⟨rfl, hbn⟩; replace c00 := keepC hbn c00; replace c10 := keepC hbn c10; replace c20 := keepC hbn c20; replace c21 := keepC hbn c21; replace c22 := keepC hbn c22; replace c30 := keepC hbn c30; replace c31 := keepC hbn c31; replace c40 := keepC hbn c40; replace hB := below_of hB hbn hB.size; clear hbn) | (go_at_call 46; refine (isPoint_any _ _ _ _).mono ?_; rintro e w' ⟨rfl, hbn⟩; replace c00 := keepC hbn c00; replace c10 := keepC hbn c10; replace c20 := keepC hbn c20; replace c21 := keepC hbn c21; replace c22 := keepC hbn c22; replace c30 := keepC hbn c30; replace c31 := keepC hbn c31; replace c40 := keepC hbn c40; replace hB := below_of hB hbn hB.size; clear hbn))
    go_ret
    exact ⟨rfl, hB⟩
  | true =>
    cases h2 : Pl.lineB p la lb lc with
    | false =>
      have hB := Below.refl w.heap.size w
      go_enter Try.func60, Try.ntmps60
      go_wp2_with (first | (go_at_call 45; refine (isColour_any _ _).mono ?_; rintro e w' ⟨rfl, rfl⟩) | (go_at_call 61; refine (isNumber_any _ _ _).mono ?_; rintro e w' ⟨rfl, rfl⟩) | (go_at_call 47; refine (isLine_any _ _ _ _ _).mono ?_; rintro e w' ⟨rfl, hbn⟩; replace c00 := keepC hbn c00; replace c10 := keepC hbn c10; replace c20 := keepC hbn c20; replace c21 := keepC hbn c21; replace c22 := keepC hbn c22; replace c30 := keepC hbn c30; replace c31 := keepC hbn c31; replace c40 := keepC hbn c40; replace hB := below_of hB hbn hB.size; clear hbn) | (go_at_call 46; refine (isPoint_any _ _ _ _).mono ?_; rintro e w' ⟨rfl, hbn⟩; replace c00 := keepC hbn c00; replace c10 := keepC hbn c10; replace c20 := keepC hbn c20; replace c21 := keepC hbn c21; replace c22 := keepC hbn c22; replace c30 := keepC hbn c30; replace c31 := keepC hbn c31; replace c40 := keepC hbn c40; replace hB := below_of hB hbn hB.size; clear hbn))
      go_ret
      exact ⟨rfl, hB⟩
    | true =>
      cases h3 : Pl.ptB p ax ay with
      | false =>
        have hB := Below.refl w.heap.size w
        go_enter Try.func60, Try.ntmps60
        go_wp2_with (first | (go_at_call 45; refine (isColour_any _ _).mono ?_; rintro e w' ⟨rfl, rfl⟩) | (go_at_call 61; refine (isNumber_any _ _ _).mono ?_; rintro e w' ⟨rfl, rfl⟩) | (go_at_call 47; refine (isLine_any _ _ _ _ _).mono ?_; rintro e w' ⟨rfl, hbn⟩; replace c00 := keepC hbn c00; replace c10 := keepC hbn c10; replace c20 := keepC hbn c20; replace c21 := keepC hbn c21; replace c22 := keepC hbn c22; replace c30 := keepC hbn c30; replace c31 := keepC hbn c31; replace c40 := keepC hbn c40; replace hB := below_of hB hbn hB.size; clear hbn) | (go_at_call 46; refine (isPoint_any _ _ _ _).mono ?_; rintro e w' ⟨rfl, hbn⟩; replace c00 := keepC hbn c00; replace c10 := keepC hbn c10; replace c20 := keepC hbn c20; replace c21 := keepC hbn c21; replace c22 := keepC hbn c22; replace c30 := keepC hbn c30; replace c31 := keepC hbn c31; replace c40 := keepC hbn c40; replace hB := below_of hB hbn hB.size; clear hbn))
        go_ret
        exact ⟨rfl, hB⟩
      | true =>
        have hB := Below.refl w.heap.size w
        go_enter Try.func60, Try.ntmps60
        go_wp2_with (first | (go_at_call 45; refine (isColour_any _ _).mono ?_; rintro e w' ⟨rfl, rfl⟩) | (go_at_call 61; refine (isNumber_any _ _ _).mono ?_; rintro e w' ⟨rfl, rfl⟩) | (go_at_call 47; refine (isLine_any _ _ _ _ _).mono ?_; rintro e w' ⟨rfl, hbn⟩; replace c00 := keepC hbn c00; replace c10 := keepC hbn c10; replace c20 := keepC hbn c20; replace c21 := keepC hbn c21; replace c22 := keepC hbn c22; replace c30 := keepC hbn c30; replace c31 := keepC hbn c31; replace c40 := keepC hbn c40; replace hB := below_of hB hbn hB.size; clear hbn) | (go_at_call 46; refine (isPoint_any _ _ _ _).mono ?_; rintro e w' ⟨rfl, hbn⟩; replace c00 := keepC hbn c00; replace c10 := keepC hbn c10; replace c20 := keepC hbn c20; replace c21 := keepC hbn c21; replace c22 := keepC hbn c22; replace c30 := keepC hbn c30; replace c31 := keepC hbn c31; replace c40 := keepC hbn c40; replace hB := below_of hB hbn hB.size; clear hbn))
        go_ret
        exact ⟨rfl, hB⟩
theorem LinesWithSpread_ok (p k la lb lc ax ay s : Int) (w : World) (h0 : Pl.lwsC p k la lb lc ax ay s = 0) :
    Calls Try.prog 21 #[.int .i64 p, .int .i64 k, .agg #[.int .i64 la, .int .i64 lb, .int .i64 lc], .agg #[.int .i64 ax, .int .i64 ay], .int .i64 s] w fun e w' => ∃ g c, e = .returned (.tuple #[.slice (some ⟨g, 0, none⟩) (Pl.lnsW (fun m => !Pl.nullB p k m.1 m.2.1 && (Pl.spread p k la lb m.1 m.2.1 == s)) p ax ay).length c, .int .i64 0]) ∧ Own w' (w.heap.size) 28 3 g (Pl.lnsW (fun m => !Pl.nullB p k m.1 m.2.1 && (Pl.spread p k la lb m.1 m.2.1 == s)) p ax ay).length c (Pl.flat3 ((Pl.lnsW (fun m => !Pl.nullB p k m.1 m.2.1 && (Pl.spread p k la lb m.1 m.2.1 == s)) p ax ay))) ∧ Below w.heap.size w w' := by
  have hk := Pl.lwsC_ok h0
  obtain ⟨h1, hn⟩ := hk
  have hv : Hid (Pl.fieldB p = true ∧ (Pl.lwsV p k la lb lc ax ay s) = true) := Pl.ask_ok h1
  have hp := Pl.field_bd hv.out.1
  obtain ⟨hp1, hp2⟩ := hp
  have hv2 := hv.out.2
  simp only [Pl.lwsV, Bool.and_eq_true] at hv2
  obtain ⟨la1, la2, lb1, lb2, lc1, lc2, hl⟩ := Pl.lineB_bd hv2.1.1.2
  obtain ⟨ax1, ax2, ay1, ay2⟩ := Pl.ptB_bd hv2.1.2
  obtain ⟨s1, s2⟩ := Pl.numB_true hv2.2
  clear hl
  have hf := hv.out.1
  clear hv2
  go_enter Try.func21, Try.ntmps21
  go_wp2_with fail
  refine (asked_any p _ _ (Pl.lwsV p k la lb lc ax ay s) _ (by kernel_rfl) ?_).mono ?_
  · intro _
    exact LinesWithSpread1_any p k la lb lc ax ay s _ _ _ _ _ _ (by go_simp) (by go_simp) (by go_simp) (by go_simp) (by go_simp) (by go_simp) (by go_simp) (by go_simp)
  · rintro e w1 ⟨rfl, hb⟩
    have c00 : w1.cell? ⟨w.heap.size, 0, none⟩ = some (.int .i64 p) := cellOf hb (by go_simp) (by simp <;> omega)
    have c10 : w1.cell? ⟨w.heap.size + 1, 0, none⟩ = some (.int .i64 k) := cellOf hb (by go_simp) (by simp <;> omega)
    have c20 : w1.cell? ⟨w.heap.size + 2, 0, none⟩ = some (.int .i64 la) := cellOf hb (by go_simp) (by simp <;> omega)
    have c21 : w1.cell? ⟨w.heap.size + 2, 1, none⟩ = some (.int .i64 lb) := cellOf hb (by go_simp) (by simp <;> omega)
    have c22 : w1.cell? ⟨w.heap.size + 2, 2, none⟩ = some (.int .i64 lc) := cellOf hb (by go_simp) (by simp <;> omega)
    have c30 : w1.cell? ⟨w.heap.size + 3, 0, none⟩ = some (.int .i64 ax) := cellOf hb (by go_simp) (by simp <;> omega)
    have c31 : w1.cell? ⟨w.heap.size + 3, 1, none⟩ = some (.int .i64 ay) := cellOf hb (by go_simp) (by simp <;> omega)
    have c40 : w1.cell? ⟨w.heap.size + 4, 0, none⟩ = some (.int .i64 s) := cellOf hb (by go_simp) (by simp <;> omega)
    have hB : Below w.heap.size w w1 := below_of (by go_grown) hb (by simp <;> omega)
    clear hb
    go_wp2_with (go_at_call 48; refine (isNull_any _ _ _ _ _ _ (by omega) (by omega) (by omega) (by omega) (by omega) (by omega) (by omega) (by omega)).mono ?_; rintro e w' ⟨rfl, hbn⟩; replace c00 := keepC hbn c00; replace c10 := keepC hbn c10; replace c20 := keepC hbn c20; replace c21 := keepC hbn c21; replace c22 := keepC hbn c22; replace c30 := keepC hbn c30; replace c31 := keepC hbn c31; replace c40 := keepC hbn c40; replace hB := below_of hB hbn hB.size; clear hbn)
    refine (linesWith_any p ax ay _ _ (fun x y z => #[.agg #[.int .i64 x, .int .i64 y, .int .i64 z], .pointer (some ⟨w.heap.size, 0, none⟩), .pointer (some ⟨w.heap.size + 1, 0, none⟩), .pointer (some ⟨w.heap.size + 1 + 1, 0, none⟩), .pointer (some ⟨w.heap.size + 1 + 1 + 1 + 1, 0, none⟩)]) (fun m => !Pl.nullB p k m.1 m.2.1 && (Pl.spread p k la lb m.1 m.2.1 == s)) _ (by omega) (by omega) (by omega) (by omega) (by omega) (by omega) (fun x y z => by first | rfl | simp) (fun x y z w' => by kernel_rfl) (fun x y z w' hm hb => ?_)).mono ?_
    · obtain ⟨hd, yb1, yb2, zb1, zb2⟩ := Pl.mem_ltAll (by omega) hm
      have x12 : 0 ≤ x ∧ x ≤ 31 := by omega
      exact LinesWithSpread2_any x y z p k la lb lc s _ _ _ _ w' hf x12.1 x12.2 (by omega) (by omega) (by omega) (by omega) (by omega) (by omega) (by omega) (by omega) (by omega) (by omega) (keepC hb c00) (keepC hb c10) (keepC hb c20) (keepC hb c21) (keepC hb c22) (keepC hb c40)
    rintro e w9 ⟨g, c, rfl, hO, hb⟩
    have hO' := hO.low hB.size
    have hB' := below_of hB hb hB.size
    clear hO hB hb
    go_wp2_with fail
    go_ret2
    exact ⟨g, c, rfl, hO', hB'⟩
theorem LinesWithSpread_err (p k la lb lc ax ay s : Int) (w : World) (h0 : ¬ Pl.lwsC p k la lb lc ax ay s = 0) :
    Calls Try.prog 21 #[.int .i64 p, .int .i64 k, .agg #[.int .i64 la, .int .i64 lb, .int .i64 lc], .agg #[.int .i64 ax, .int .i64 ay], .int .i64 s] w fun e w' => e = .returned (.tuple #[.slice none 0 0, .int .i64 (Pl.lwsC p k la lb lc ax ay s)]) ∧ Below w.heap.size w w' := by
  by_cases h1 : Pl.ask p (Pl.lwsV p k la lb lc ax ay s) = 0
  · have hc := Pl.lwsC_null h1 h0
    obtain ⟨hn, hcc⟩ := hc
    have HC := hid hcc
    clear hcc h0
    have hv : Hid (Pl.fieldB p = true ∧ (Pl.lwsV p k la lb lc ax ay s) = true) := Pl.ask_ok h1
    have hp := Pl.field_bd hv.out.1
    obtain ⟨hp1, hp2⟩ := hp
    have hv2 := hv.out.2
    simp only [Pl.lwsV, Bool.and_eq_true] at hv2
    obtain ⟨la1, la2, lb1, lb2, lc1, lc2, hl⟩ := Pl.lineB_bd hv2.1.1.2
    obtain ⟨ax1, ax2, ay1, ay2⟩ := Pl.ptB_bd hv2.1.2
    obtain ⟨s1, s2⟩ := Pl.numB_true hv2.2
    clear hl
    have hf := hv.out.1
    clear hv2
    go_enter Try.func21, Try.ntmps21
    go_wp2_with fail
    refine (asked_any p _ _ (Pl.lwsV p k la lb lc ax ay s) _ (by kernel_rfl) ?_).mono ?_
    · intro _
      exact LinesWithSpread1_any p k la lb lc ax ay s _ _ _ _ _ _ (by go_simp) (by go_simp) (by go_simp) (by go_simp) (by go_simp) (by go_simp) (by go_simp) (by go_simp)
    · rintro e w1 ⟨rfl, hb⟩
      have c00 : w1.cell? ⟨w.heap.size, 0, none⟩ = some (.int .i64 p) := cellOf hb (by go_simp) (by simp <;> omega)
      have c10 : w1.cell? ⟨w.heap.size + 1, 0, none⟩ = some (.int .i64 k) := cellOf hb (by go_simp) (by simp <;> omega)
      have c20 : w1.cell? ⟨w.heap.size + 2, 0, none⟩ = some (.int .i64 la) := cellOf hb (by go_simp) (by simp <;> omega)
      have c21 : w1.cell? ⟨w.heap.size + 2, 1, none⟩ = some (.int .i64 lb) := cellOf hb (by go_simp) (by simp <;> omega)
      have c22 : w1.cell? ⟨w.heap.size + 2, 2, none⟩ = some (.int .i64 lc) := cellOf hb (by go_simp) (by simp <;> omega)
      have c30 : w1.cell? ⟨w.heap.size + 3, 0, none⟩ = some (.int .i64 ax) := cellOf hb (by go_simp) (by simp <;> omega)
      have c31 : w1.cell? ⟨w.heap.size + 3, 1, none⟩ = some (.int .i64 ay) := cellOf hb (by go_simp) (by simp <;> omega)
      have c40 : w1.cell? ⟨w.heap.size + 4, 0, none⟩ = some (.int .i64 s) := cellOf hb (by go_simp) (by simp <;> omega)
      have hB : Below w.heap.size w w1 := below_of (by go_grown) hb (by simp <;> omega)
      clear hb
      go_wp2_with (go_at_call 48; refine (isNull_any _ _ _ _ _ _ (by omega) (by omega) (by omega) (by omega) (by omega) (by omega) (by omega) (by omega)).mono ?_; rintro e w' ⟨rfl, hbn⟩; replace c00 := keepC hbn c00; replace c10 := keepC hbn c10; replace c20 := keepC hbn c20; replace c21 := keepC hbn c21; replace c22 := keepC hbn c22; replace c30 := keepC hbn c30; replace c31 := keepC hbn c31; replace c40 := keepC hbn c40; replace hB := below_of hB hbn hB.size; clear hbn)
      go_ret2
      exact ⟨by rw [HC.out]; rfl, hB⟩
  · have HC := hid (Pl.lwsC_err h1)
    have hne : (Pl.ask p (Pl.lwsV p k la lb lc ax ay s) != 0) = true := by simpa using h1
    clear h0 h1
    go_enter Try.func21, Try.ntmps21
    go_wp2_with fail
    refine (asked_any p _ _ (Pl.lwsV p k la lb lc ax ay s) _ (by kernel_rfl) ?_).mono ?_
    · intro _
      exact LinesWithSpread1_any p k la lb lc ax ay s _ _ _ _ _ _ (by go_simp) (by go_simp) (by go_simp) (by go_simp) (by go_simp) (by go_simp) (by go_simp) (by go_simp)
    · rintro e w1 ⟨rfl, hb⟩
      have hB : Below w.heap.size w w1 := below_of (by go_grown) hb (by simp <;> omega)
      clear hb
      go_wp2_with fail
      go_ret2
      exact ⟨by rw [HC.out]; rfl, hB⟩
theorem BisectorsOf1_any (na nb nc p k la lb lc ma mb mc : Int) (b0 b1 b2 b3 : Nat) (w : World) (hf : Pl.fieldB p = true) (na1 : 0 ≤ na) (na2 : na ≤ 31) (nb1 : 0 ≤ nb) (nb2 : nb ≤ 31) (nc1 : 0 ≤ nc) (nc2 : nc ≤ 31) (la1 : 0 ≤ la) (la2 : la ≤ 31) (lb1 : 0 ≤ lb) (lb2 : lb ≤ 31) (lc1 : 0 ≤ lc) (lc2 : lc ≤ 31) (ma1 : 0 ≤ ma) (ma2 : ma ≤ 31) (mb1 : 0 ≤ mb) (mb2 : mb ≤ 31) (mc1 : 0 ≤ mc) (mc2 : mc ≤ 31) (c00 : w.cell? ⟨b0, 0, none⟩ = some (.int .i64 p)) (c10 : w.cell? ⟨b1, 0, none⟩ = some (.int .i64 k)) (c20 : w.cell? ⟨b2, 0, none⟩ = some (.int .i64 la)) (c21 : w.cell? ⟨b2, 1, none⟩ = some (.int .i64 lb)) (c22 : w.cell? ⟨b2, 2, none⟩ = some (.int .i64 lc)) (c30 : w.cell? ⟨b3, 0, none⟩ = some (.int .i64 ma)) (c31 : w.cell? ⟨b3, 1, none⟩ = some (.int .i64 mb)) (c32 : w.cell? ⟨b3, 2, none⟩ = some (.int .i64 mc)) :
    Calls Try.prog 70 #[.agg #[.int .i64 na, .int .i64 nb, .int .i64 nc], .pointer (some ⟨b0, 0, none⟩), .pointer (some ⟨b1, 0, none⟩), .pointer (some ⟨b2, 0, none⟩), .pointer (some ⟨b3, 0, none⟩)] w fun e w' => e = .returned (.bool (!Pl.nullB p k na nb && (Pl.spread p k la lb na nb == Pl.spread p k ma mb na nb))) ∧ Below w.heap.size w w' := by
  have hp := Pl.field_bd hf
  obtain ⟨hp1, hp2⟩ := hp
  have hB := (Below.refl w.heap.size w).alloc (Nat.le_refl _) (.cells #[.int .i64 na, .int .i64 nb, .int .i64 nc] 28)
  replace c00 := keepA (.cells #[.int .i64 na, .int .i64 nb, .int .i64 nc] 28) c00
  replace c10 := keepA (.cells #[.int .i64 na, .int .i64 nb, .int .i64 nc] 28) c10
  replace c20 := keepA (.cells #[.int .i64 na, .int .i64 nb, .int .i64 nc] 28) c20
  replace c21 := keepA (.cells #[.int .i64 na, .int .i64 nb, .int .i64 nc] 28) c21
  replace c22 := keepA (.cells #[.int .i64 na, .int .i64 nb, .int .i64 nc] 28) c22
  replace c30 := keepA (.cells #[.int .i64 na, .int .i64 nb, .int .i64 nc] 28) c30
  replace c31 := keepA (.cells #[.int .i64 na, .int .i64 nb, .int .i64 nc] 28) c31
  replace c32 := keepA (.cells #[.int .i64 na, .int .i64 nb, .int .i64 nc] 28) c32
  have p0 : (World.alloc w (.cells #[.int .i64 na, .int .i64 nb, .int .i64 nc] 28)).cell? ⟨w.heap.size, 0, none⟩ = some (.int .i64 na) := by go_simp
  have p1 : (World.alloc w (.cells #[.int .i64 na, .int .i64 nb, .int .i64 nc] 28)).cell? ⟨w.heap.size, 1, none⟩ = some (.int .i64 nb) := by go_simp
  have p2 : (World.alloc w (.cells #[.int .i64 na, .int .i64 nb, .int .i64 nc] 28)).cell? ⟨w.heap.size, 2, none⟩ = some (.int .i64 nc) := by go_simp
  cases hn : Pl.nullB p k na nb with
  | true =>
    go_enter Try.func70, Try.ntmps70
    go_wp2_with fail
    generalize hW : World.alloc w (.cells #[.int .i64 na, .int .i64 nb, .int .i64 nc] 28) = W at *
    clear hW
    refine Reg.wp_region_guard (by kernel_rfl) 18 (by kernel_rfl) ?_
    simp only [List.take_succ_cons, List.take_zero, List.drop_succ_cons, List.drop_zero]
    refine Reg.wpH_do (v := ?vg3x0) (by first | rfl | kernel_rfl) (fun wq hq => ?gg3x0) ?kg3x0
    case gg3x0 => (have q0 := keepC hq c00; have q1 := keepC hq c10; have q2 := keepC hq c20; have q3 := keepC hq c21; have q4 := keepC hq c22; have q5 := keepC hq c30; have q6 := keepC hq c31; have q7 := keepC hq c32; have q8 := keepC hq p0; have q9 := keepC hq p1; have q10 := keepC hq p2; refine Reg.gAt_val ?_; go_simp; first | done | (with_reducible rfl) | rfl)
    try simp only [Act.put, List.setIfInBounds_toArray, List.set_cons_zero, List.set_cons_succ]
    refine Reg.wpH_do (v := ?vg3x1) (by first | rfl | kernel_rfl) (fun wq hq => ?gg3x1) ?kg3x1
    case gg3x1 => (have q0 := keepC hq c00; have q1 := keepC hq c10; have q2 := keepC hq c20; have q3 := keepC hq c21; have q4 := keepC hq c22; have q5 := keepC hq c30; have q6 := keepC hq c31; have q7 := keepC hq c32; have q8 := keepC hq p0; have q9 := keepC hq p1; have q10 := keepC hq p2; refine Reg.gAt_val ?_; go_simp; first | done | (with_reducible rfl) | rfl)
    try simp only [Act.put, List.setIfInBounds_toArray, List.set_cons_zero, List.set_cons_succ]
    refine Reg.wpH_do (v := ?vg3x2) (by first | rfl | kernel_rfl) (fun wq hq => ?gg3x2) ?kg3x2
    case gg3x2 => (have q0 := keepC hq c00; have q1 := keepC hq c10; have q2 := keepC hq c20; have q3 := keepC hq c21; have q4 := keepC hq c22; have q5 := keepC hq c30; have q6 := keepC hq c31; have q7 := keepC hq c32; have q8 := keepC hq p0; have q9 := keepC hq p1; have q10 := keepC hq p2; refine Reg.gAt_val ?_; go_simp; first | done | (with_reducible rfl) | rfl)
    try simp only [Act.put, List.setIfInBounds_toArray, List.set_cons_zero, List.set_cons_succ]
    refine Reg.wpH_do (v := .bool true) (by first | rfl | kernel_rfl) (fun wq hq => ?gg3x3) ?kg3x3
    case gg3x3 => (unfold Reg.gAt; go_simp; refine Reg.quiet_enter ?_; exact isNull_any p k na nb nc _ (by omega) (by omega) (by omega) (by omega) (by omega) (by omega) (by omega) (by omega) |>.mono fun e w2 h => ⟨by rw [h.1, hn], h.2⟩)
    try simp only [Act.put, List.setIfInBounds_toArray, List.set_cons_zero, List.set_cons_succ]
    refine Reg.wpH_do (v := ?vg3x4) (by first | rfl | kernel_rfl) (fun wq hq => ?gg3x4) ?kg3x4
    case gg3x4 => (have q0 := keepC hq c00; have q1 := keepC hq c10; have q2 := keepC hq c20; have q3 := keepC hq c21; have q4 := keepC hq c22; have q5 := keepC hq c30; have q6 := keepC hq c31; have q7 := keepC hq c32; have q8 := keepC hq p0; have q9 := keepC hq p1; have q10 := keepC hq p2; refine Reg.gAt_val ?_; go_simp; first | done | (with_reducible rfl) | rfl)
    try simp only [Act.put, List.setIfInBounds_toArray, List.set_cons_zero, List.set_cons_succ]
    refine Reg.wpH_do (v := ?vg3x5) (by first | rfl | kernel_rfl) (fun wq hq => ?gg3x5) ?kg3x5
    case gg3x5 => (have q0 := keepC hq c00; have q1 := keepC hq c10; have q2 := keepC hq c20; have q3 := keepC hq c21; have q4 := keepC hq c22; have q5 := keepC hq c30; have q6 := keepC hq c31; have q7 := keepC hq c32; have q8 := keepC hq p0; have q9 := keepC hq p1; have q10 := keepC hq p2; refine Reg.gAt_val ?_; go_simp; first | done | (with_reducible rfl) | rfl)
    try simp only [Act.put, List.setIfInBounds_toArray, List.set_cons_zero, List.set_cons_succ]
    refine Reg.wpH_skip (by first | rfl | kernel_rfl) ?_
    try simp only [Act.put, List.setIfInBounds_toArray, List.set_cons_zero, List.set_cons_succ]
    refine Reg.wpH_skip (by first | rfl | kernel_rfl) ?_
    try simp only [Act.put, List.setIfInBounds_toArray, List.set_cons_zero, List.set_cons_succ]
    refine Reg.wpH_skip (by first | rfl | kernel_rfl) ?_
    try simp only [Act.put, List.setIfInBounds_toArray, List.set_cons_zero, List.set_cons_succ]
    refine Reg.wpH_skip (by first | rfl | kernel_rfl) ?_
    try simp only [Act.put, List.setIfInBounds_toArray, List.set_cons_zero, List.set_cons_succ]
    refine Reg.wpH_skip (by first | rfl | kernel_rfl) ?_
    try simp only [Act.put, List.setIfInBounds_toArray, List.set_cons_zero, List.set_cons_succ]
    refine Reg.wpH_skip (by first | rfl | kernel_rfl) ?_
    try simp only [Act.put, List.setIfInBounds_toArray, List.set_cons_zero, List.set_cons_succ]
    refine Reg.wpH_skip (by first | rfl | kernel_rfl) ?_
    try simp only [Act.put, List.setIfInBounds_toArray, List.set_cons_zero, List.set_cons_succ]
    refine Reg.wpH_skip (by first | rfl | kernel_rfl) ?_
    try simp only [Act.put, List.setIfInBounds_toArray, List.set_cons_zero, List.set_cons_succ]
    refine Reg.wpH_skip (by first | rfl | kernel_rfl) ?_
    try simp only [Act.put, List.setIfInBounds_toArray, List.set_cons_zero, List.set_cons_succ]
    refine Reg.wpH_skip (by first | rfl | kernel_rfl) ?_
    try simp only [Act.put, List.setIfInBounds_toArray, List.set_cons_zero, List.set_cons_succ]
    refine Reg.wpH_skip (by first | rfl | kernel_rfl) ?_
    try simp only [Act.put, List.setIfInBounds_toArray, List.set_cons_zero, List.set_cons_succ]
    refine Reg.wpH_do (v := ?vg3x17) (by first | rfl | kernel_rfl) (fun wq hq => ?gg3x17) ?kg3x17
    case gg3x17 => (have q0 := keepC hq c00; have q1 := keepC hq c10; have q2 := keepC hq c20; have q3 := keepC hq c21; have q4 := keepC hq c22; have q5 := keepC hq c30; have q6 := keepC hq c31; have q7 := keepC hq c32; have q8 := keepC hq p0; have q9 := keepC hq p1; have q10 := keepC hq p2; refine Reg.gAt_val ?_; go_simp; first | done | (with_reducible rfl) | rfl)
    try simp only [Act.put, List.setIfInBounds_toArray, List.set_cons_zero, List.set_cons_succ]
    intro w2 hB2
    replace c00 := keepC hB2 c00
    replace c10 := keepC hB2 c10
    replace c20 := keepC hB2 c20
    replace c21 := keepC hB2 c21
    replace c22 := keepC hB2 c22
    replace c30 := keepC hB2 c30
    replace c31 := keepC hB2 c31
    replace c32 := keepC hB2 c32
    replace p0 := keepC hB2 p0
    replace p1 := keepC hB2 p1
    replace p2 := keepC hB2 p2
    replace hB := below_of hB hB2 hB.size
    clear hB2
    change wpList _ _ _ _ _ _
    go_wp2_with fail
    go_ret
    exact ⟨rfl, hB⟩
  | false =>
    go_enter Try.func70, Try.ntmps70
    go_wp2_with fail
    generalize hW : World.alloc w (.cells #[.int .i64 na, .int .i64 nb, .int .i64 nc] 28) = W at *
    clear hW
    refine Reg.wp_region_guard (by kernel_rfl) 18 (by kernel_rfl) ?_
    simp only [List.take_succ_cons, List.take_zero, List.drop_succ_cons, List.drop_zero]
    refine Reg.wpH_do (v := ?vg4x0) (by first | rfl | kernel_rfl) (fun wq hq => ?gg4x0) ?kg4x0
    case gg4x0 => (have q0 := keepC hq c00; have q1 := keepC hq c10; have q2 := keepC hq c20; have q3 := keepC hq c21; have q4 := keepC hq c22; have q5 := keepC hq c30; have q6 := keepC hq c31; have q7 := keepC hq c32; have q8 := keepC hq p0; have q9 := keepC hq p1; have q10 := keepC hq p2; refine Reg.gAt_val ?_; go_simp; first | done | (with_reducible rfl) | rfl)
    try simp only [Act.put, List.setIfInBounds_toArray, List.set_cons_zero, List.set_cons_succ]
    refine Reg.wpH_do (v := ?vg4x1) (by first | rfl | kernel_rfl) (fun wq hq => ?gg4x1) ?kg4x1
    case gg4x1 => (have q0 := keepC hq c00; have q1 := keepC hq c10; have q2 := keepC hq c20; have q3 := keepC hq c21; have q4 := keepC hq c22; have q5 := keepC hq c30; have q6 := keepC hq c31; have q7 := keepC hq c32; have q8 := keepC hq p0; have q9 := keepC hq p1; have q10 := keepC hq p2; refine Reg.gAt_val ?_; go_simp; first | done | (with_reducible rfl) | rfl)
    try simp only [Act.put, List.setIfInBounds_toArray, List.set_cons_zero, List.set_cons_succ]
    refine Reg.wpH_do (v := ?vg4x2) (by first | rfl | kernel_rfl) (fun wq hq => ?gg4x2) ?kg4x2
    case gg4x2 => (have q0 := keepC hq c00; have q1 := keepC hq c10; have q2 := keepC hq c20; have q3 := keepC hq c21; have q4 := keepC hq c22; have q5 := keepC hq c30; have q6 := keepC hq c31; have q7 := keepC hq c32; have q8 := keepC hq p0; have q9 := keepC hq p1; have q10 := keepC hq p2; refine Reg.gAt_val ?_; go_simp; first | done | (with_reducible rfl) | rfl)
    try simp only [Act.put, List.setIfInBounds_toArray, List.set_cons_zero, List.set_cons_succ]
    refine Reg.wpH_do (v := .bool false) (by first | rfl | kernel_rfl) (fun wq hq => ?gg4x3) ?kg4x3
    case gg4x3 => (unfold Reg.gAt; go_simp; refine Reg.quiet_enter ?_; exact isNull_any p k na nb nc _ (by omega) (by omega) (by omega) (by omega) (by omega) (by omega) (by omega) (by omega) |>.mono fun e w2 h => ⟨by rw [h.1, hn], h.2⟩)
    try simp only [Act.put, List.setIfInBounds_toArray, List.set_cons_zero, List.set_cons_succ]
    refine Reg.wpH_do (v := ?vg4x4) (by first | rfl | kernel_rfl) (fun wq hq => ?gg4x4) ?kg4x4
    case gg4x4 => (have q0 := keepC hq c00; have q1 := keepC hq c10; have q2 := keepC hq c20; have q3 := keepC hq c21; have q4 := keepC hq c22; have q5 := keepC hq c30; have q6 := keepC hq c31; have q7 := keepC hq c32; have q8 := keepC hq p0; have q9 := keepC hq p1; have q10 := keepC hq p2; refine Reg.gAt_val ?_; go_simp; first | done | (with_reducible rfl) | rfl)
    try simp only [Act.put, List.setIfInBounds_toArray, List.set_cons_zero, List.set_cons_succ]
    refine Reg.wpH_do (v := ?vg4x5) (by first | rfl | kernel_rfl) (fun wq hq => ?gg4x5) ?kg4x5
    case gg4x5 => (have q0 := keepC hq c00; have q1 := keepC hq c10; have q2 := keepC hq c20; have q3 := keepC hq c21; have q4 := keepC hq c22; have q5 := keepC hq c30; have q6 := keepC hq c31; have q7 := keepC hq c32; have q8 := keepC hq p0; have q9 := keepC hq p1; have q10 := keepC hq p2; refine Reg.gAt_val ?_; go_simp; first | done | (with_reducible rfl) | rfl)
    try simp only [Act.put, List.setIfInBounds_toArray, List.set_cons_zero, List.set_cons_succ]
    refine Reg.wpH_do (v := ?vg4x6) (by first | rfl | kernel_rfl) (fun wq hq => ?gg4x6) ?kg4x6
    case gg4x6 => (have q0 := keepC hq c00; have q1 := keepC hq c10; have q2 := keepC hq c20; have q3 := keepC hq c21; have q4 := keepC hq c22; have q5 := keepC hq c30; have q6 := keepC hq c31; have q7 := keepC hq c32; have q8 := keepC hq p0; have q9 := keepC hq p1; have q10 := keepC hq p2; refine Reg.gAt_val ?_; go_simp; first | done | (with_reducible rfl) | rfl)
    try simp only [Act.put, List.setIfInBounds_toArray, List.set_cons_zero, List.set_cons_succ]
    refine Reg.wpH_do (v := ?vg4x7) (by first | rfl | kernel_rfl) (fun wq hq => ?gg4x7) ?kg4x7
    case gg4x7 => (have q0 := keepC hq c00; have q1 := keepC hq c10; have q2 := keepC hq c20; have q3 := keepC hq c21; have q4 := keepC hq c22; have q5 := keepC hq c30; have q6 := keepC hq c31; have q7 := keepC hq c32; have q8 := keepC hq p0; have q9 := keepC hq p1; have q10 := keepC hq p2; refine Reg.gAt_val ?_; go_simp; first | done | (with_reducible rfl) | rfl)
    try simp only [Act.put, List.setIfInBounds_toArray, List.set_cons_zero, List.set_cons_succ]
    refine Reg.wpH_do (v := ?vg4x8) (by first | rfl | kernel_rfl) (fun wq hq => ?gg4x8) ?kg4x8
    case gg4x8 => (have q0 := keepC hq c00; have q1 := keepC hq c10; have q2 := keepC hq c20; have q3 := keepC hq c21; have q4 := keepC hq c22; have q5 := keepC hq c30; have q6 := keepC hq c31; have q7 := keepC hq c32; have q8 := keepC hq p0; have q9 := keepC hq p1; have q10 := keepC hq p2; refine Reg.gAt_val ?_; go_simp; first | done | (with_reducible rfl) | rfl)
    try simp only [Act.put, List.setIfInBounds_toArray, List.set_cons_zero, List.set_cons_succ]
    refine Reg.wpH_do (v := ?vg4x9) (by first | rfl | kernel_rfl) (fun wq hq => ?gg4x9) ?kg4x9
    case gg4x9 => (have q0 := keepC hq c00; have q1 := keepC hq c10; have q2 := keepC hq c20; have q3 := keepC hq c21; have q4 := keepC hq c22; have q5 := keepC hq c30; have q6 := keepC hq c31; have q7 := keepC hq c32; have q8 := keepC hq p0; have q9 := keepC hq p1; have q10 := keepC hq p2; refine Reg.gAt_val ?_; go_simp; first | done | (with_reducible rfl) | rfl)
    try simp only [Act.put, List.setIfInBounds_toArray, List.set_cons_zero, List.set_cons_succ]
    refine Reg.wpH_do (v := .int .i64 (Pl.spread p k la lb na nb)) (by first | rfl | kernel_rfl) (fun wq hq => ?gg4x10) ?kg4x10
    case gg4x10 => (unfold Reg.gAt; go_simp; refine Reg.quiet_enter ?_; exact spread_any p k la lb lc na nb nc _ hf (by omega) (by omega) (by omega) (by omega) (by omega) (by omega) (by omega) (by omega) (by omega) (by omega) (by omega) (by omega))
    try simp only [Act.put, List.setIfInBounds_toArray, List.set_cons_zero, List.set_cons_succ]
    refine Reg.wpH_do (v := ?vg4x11) (by first | rfl | kernel_rfl) (fun wq hq => ?gg4x11) ?kg4x11
    case gg4x11 => (have q0 := keepC hq c00; have q1 := keepC hq c10; have q2 := keepC hq c20; have q3 := keepC hq c21; have q4 := keepC hq c22; have q5 := keepC hq c30; have q6 := keepC hq c31; have q7 := keepC hq c32; have q8 := keepC hq p0; have q9 := keepC hq p1; have q10 := keepC hq p2; refine Reg.gAt_val ?_; go_simp; first | done | (with_reducible rfl) | rfl)
    try simp only [Act.put, List.setIfInBounds_toArray, List.set_cons_zero, List.set_cons_succ]
    refine Reg.wpH_do (v := ?vg4x12) (by first | rfl | kernel_rfl) (fun wq hq => ?gg4x12) ?kg4x12
    case gg4x12 => (have q0 := keepC hq c00; have q1 := keepC hq c10; have q2 := keepC hq c20; have q3 := keepC hq c21; have q4 := keepC hq c22; have q5 := keepC hq c30; have q6 := keepC hq c31; have q7 := keepC hq c32; have q8 := keepC hq p0; have q9 := keepC hq p1; have q10 := keepC hq p2; refine Reg.gAt_val ?_; go_simp; first | done | (with_reducible rfl) | rfl)
    try simp only [Act.put, List.setIfInBounds_toArray, List.set_cons_zero, List.set_cons_succ]
    refine Reg.wpH_do (v := ?vg4x13) (by first | rfl | kernel_rfl) (fun wq hq => ?gg4x13) ?kg4x13
    case gg4x13 => (have q0 := keepC hq c00; have q1 := keepC hq c10; have q2 := keepC hq c20; have q3 := keepC hq c21; have q4 := keepC hq c22; have q5 := keepC hq c30; have q6 := keepC hq c31; have q7 := keepC hq c32; have q8 := keepC hq p0; have q9 := keepC hq p1; have q10 := keepC hq p2; refine Reg.gAt_val ?_; go_simp; first | done | (with_reducible rfl) | rfl)
    try simp only [Act.put, List.setIfInBounds_toArray, List.set_cons_zero, List.set_cons_succ]
    refine Reg.wpH_do (v := ?vg4x14) (by first | rfl | kernel_rfl) (fun wq hq => ?gg4x14) ?kg4x14
    case gg4x14 => (have q0 := keepC hq c00; have q1 := keepC hq c10; have q2 := keepC hq c20; have q3 := keepC hq c21; have q4 := keepC hq c22; have q5 := keepC hq c30; have q6 := keepC hq c31; have q7 := keepC hq c32; have q8 := keepC hq p0; have q9 := keepC hq p1; have q10 := keepC hq p2; refine Reg.gAt_val ?_; go_simp; first | done | (with_reducible rfl) | rfl)
    try simp only [Act.put, List.setIfInBounds_toArray, List.set_cons_zero, List.set_cons_succ]
    refine Reg.wpH_do (v := .int .i64 (Pl.spread p k ma mb na nb)) (by first | rfl | kernel_rfl) (fun wq hq => ?gg4x15) ?kg4x15
    case gg4x15 => (unfold Reg.gAt; go_simp; refine Reg.quiet_enter ?_; exact spread_any p k ma mb mc na nb nc _ hf (by omega) (by omega) (by omega) (by omega) (by omega) (by omega) (by omega) (by omega) (by omega) (by omega) (by omega) (by omega))
    try simp only [Act.put, List.setIfInBounds_toArray, List.set_cons_zero, List.set_cons_succ]
    refine Reg.wpH_do (v := ?vg4x16) (by first | rfl | kernel_rfl) (fun wq hq => ?gg4x16) ?kg4x16
    case gg4x16 => (have q0 := keepC hq c00; have q1 := keepC hq c10; have q2 := keepC hq c20; have q3 := keepC hq c21; have q4 := keepC hq c22; have q5 := keepC hq c30; have q6 := keepC hq c31; have q7 := keepC hq c32; have q8 := keepC hq p0; have q9 := keepC hq p1; have q10 := keepC hq p2; refine Reg.gAt_val ?_; go_simp; first | done | (with_reducible rfl) | rfl)
    try simp only [Act.put, List.setIfInBounds_toArray, List.set_cons_zero, List.set_cons_succ]
    refine Reg.wpH_do (v := ?vg4x17) (by first | rfl | kernel_rfl) (fun wq hq => ?gg4x17) ?kg4x17
    case gg4x17 => (have q0 := keepC hq c00; have q1 := keepC hq c10; have q2 := keepC hq c20; have q3 := keepC hq c21; have q4 := keepC hq c22; have q5 := keepC hq c30; have q6 := keepC hq c31; have q7 := keepC hq c32; have q8 := keepC hq p0; have q9 := keepC hq p1; have q10 := keepC hq p2; refine Reg.gAt_val ?_; go_simp; first | done | (with_reducible rfl) | rfl)
    try simp only [Act.put, List.setIfInBounds_toArray, List.set_cons_zero, List.set_cons_succ]
    intro w2 hB2
    replace c00 := keepC hB2 c00
    replace c10 := keepC hB2 c10
    replace c20 := keepC hB2 c20
    replace c21 := keepC hB2 c21
    replace c22 := keepC hB2 c22
    replace c30 := keepC hB2 c30
    replace c31 := keepC hB2 c31
    replace c32 := keepC hB2 c32
    replace p0 := keepC hB2 p0
    replace p1 := keepC hB2 p1
    replace p2 := keepC hB2 p2
    replace hB := below_of hB hB2 hB.size
    clear hB2
    change wpList _ _ _ _ _ _
    go_wp2_with fail
    go_ret
    exact ⟨rfl, hB⟩
theorem BisectorsOf_ok (p k la lb lc ma mb mc : Int) (w : World) (h0 : Pl.bisC p k la lb lc ma mb mc = 0) :
    Calls Try.prog 26 #[.int .i64 p, .int .i64 k, .agg #[.int .i64 la, .int .i64 lb, .int .i64 lc], .agg #[.int .i64 ma, .int .i64 mb, .int .i64 mc]] w fun e w' => ∃ g c, e = .returned (.tuple #[.slice (some ⟨g, 0, none⟩) (Pl.lnsW (fun m => !Pl.nullB p k m.1 m.2.1 && (Pl.spread p k la lb m.1 m.2.1 == Pl.spread p k ma mb m.1 m.2.1)) p (Pl.meetX p la lb lc ma mb mc) (Pl.meetY p la lb lc ma mb mc)).length c, .int .i64 0]) ∧ Own w' (w.heap.size) 28 3 g (Pl.lnsW (fun m => !Pl.nullB p k m.1 m.2.1 && (Pl.spread p k la lb m.1 m.2.1 == Pl.spread p k ma mb m.1 m.2.1)) p (Pl.meetX p la lb lc ma mb mc) (Pl.meetY p la lb lc ma mb mc)).length c (Pl.flat3 ((Pl.lnsW (fun m => !Pl.nullB p k m.1 m.2.1 && (Pl.spread p k la lb m.1 m.2.1 == Pl.spread p k ma mb m.1 m.2.1)) p (Pl.meetX p la lb lc ma mb mc) (Pl.meetY p la lb lc ma mb mc)))) ∧ Below w.heap.size w w' := by
  have hk := Pl.bisC_ok h0
  obtain ⟨h1, hpar⟩ := hk
  have hk2 := Pl.twoL_ok h1
  have hv := hid (Pl.ask_ok hk2.1)
  have hp := Pl.field_bd hv.out.1
  obtain ⟨hp1, hp2⟩ := hp
  have hv2 := hv.out.2
  simp only [Bool.and_eq_true] at hv2
  obtain ⟨⟨la1, la2, lb1, lb2, lc1, lc2, hl⟩, ma1, ma2, mb1, mb2, mc1, mc2, hm⟩ := Pl.lines2_bd hv2.2
  clear hv2 hl hm hk2
  have hf := hv.out.1
  have hmb := Pl.meet_bd (p := p) (la := la) (lb := lb) (lc := lc) (ma := ma) (mb := mb) (mc := mc) (by omega)
  obtain ⟨⟨qx1, qx2⟩, qy1, qy2⟩ := hmb
  go_enter Try.func26, Try.ntmps26
  go_wp2_with fail
  refine (twoLines_any _ _ _ _ _ _ _ _ _).mono ?_
  rintro e w1 ⟨rfl, hb⟩
  have c00 : w1.cell? ⟨w.heap.size, 0, none⟩ = some (.int .i64 p) := keepC hb (by go_simp)
  have c10 : w1.cell? ⟨w.heap.size + 1, 0, none⟩ = some (.int .i64 k) := keepC hb (by go_simp)
  have c20 : w1.cell? ⟨w.heap.size + 1 + 1, 0, none⟩ = some (.int .i64 la) := keepC hb (by go_simp)
  have c21 : w1.cell? ⟨w.heap.size + 1 + 1, 1, none⟩ = some (.int .i64 lb) := keepC hb (by go_simp)
  have c22 : w1.cell? ⟨w.heap.size + 1 + 1, 2, none⟩ = some (.int .i64 lc) := keepC hb (by go_simp)
  have c30 : w1.cell? ⟨w.heap.size + 1 + 1 + 1, 0, none⟩ = some (.int .i64 ma) := keepC hb (by go_simp)
  have c31 : w1.cell? ⟨w.heap.size + 1 + 1 + 1, 1, none⟩ = some (.int .i64 mb) := keepC hb (by go_simp)
  have c32 : w1.cell? ⟨w.heap.size + 1 + 1 + 1, 2, none⟩ = some (.int .i64 mc) := keepC hb (by go_simp)
  have hB : Below w.heap.size w w1 := below_of (by go_grown) hb (by simp <;> omega)
  clear hb
  go_wp2_with (go_at_call 68; refine (areParallel_any _ _ _ _ _ _ _ _ (by omega) (by omega) (by omega) (by omega) (by omega) (by omega) (by omega) (by omega) (by omega) (by omega) (by omega) (by omega) (by omega) (by omega)).mono ?_; rintro e w' ⟨rfl, hbn⟩; replace c00 := keepC hbn c00; replace c10 := keepC hbn c10; replace c20 := keepC hbn c20; replace c21 := keepC hbn c21; replace c22 := keepC hbn c22; replace c30 := keepC hbn c30; replace c31 := keepC hbn c31; replace c32 := keepC hbn c32; replace hB := below_of hB hbn hB.size; clear hbn)
  refine Reg.wp_region_call (by kernel_rfl) 6 (by kernel_rfl) ?_
  simp only [List.take_succ_cons, List.take_zero, List.drop_succ_cons, List.drop_zero]
  refine Reg.wpG_step (v := ?vc5x0) (fun wq hq => ?gc5x0) ?kc5x0
  case gc5x0 => (have q0 := keepC hq c00; have q1 := keepC hq c10; have q2 := keepC hq c20; have q3 := keepC hq c21; have q4 := keepC hq c22; have q5 := keepC hq c30; have q6 := keepC hq c31; have q7 := keepC hq c32; refine Reg.gAt_val ?_; go_simp; first | done | (with_reducible rfl) | rfl)
  try simp only [Act.put, List.setIfInBounds_toArray, List.set_cons_zero, List.set_cons_succ]
  refine Reg.wpG_step (v := ?vc5x1) (fun wq hq => ?gc5x1) ?kc5x1
  case gc5x1 => (have q0 := keepC hq c00; have q1 := keepC hq c10; have q2 := keepC hq c20; have q3 := keepC hq c21; have q4 := keepC hq c22; have q5 := keepC hq c30; have q6 := keepC hq c31; have q7 := keepC hq c32; refine Reg.gAt_val ?_; go_simp; first | done | (with_reducible rfl) | rfl)
  try simp only [Act.put, List.setIfInBounds_toArray, List.set_cons_zero, List.set_cons_succ]
  refine Reg.wpG_step (v := ?vc5x2) (fun wq hq => ?gc5x2) ?kc5x2
  case gc5x2 => (have q0 := keepC hq c00; have q1 := keepC hq c10; have q2 := keepC hq c20; have q3 := keepC hq c21; have q4 := keepC hq c22; have q5 := keepC hq c30; have q6 := keepC hq c31; have q7 := keepC hq c32; refine Reg.gAt_val ?_; go_simp; first | done | (with_reducible rfl) | rfl)
  try simp only [Act.put, List.setIfInBounds_toArray, List.set_cons_zero, List.set_cons_succ]
  refine Reg.wpG_step (v := ?vc5x3) (fun wq hq => ?gc5x3) ?kc5x3
  case gc5x3 => (have q0 := keepC hq c00; have q1 := keepC hq c10; have q2 := keepC hq c20; have q3 := keepC hq c21; have q4 := keepC hq c22; have q5 := keepC hq c30; have q6 := keepC hq c31; have q7 := keepC hq c32; refine Reg.gAt_val ?_; go_simp; first | done | (with_reducible rfl) | rfl)
  try simp only [Act.put, List.setIfInBounds_toArray, List.set_cons_zero, List.set_cons_succ]
  refine Reg.wpG_step (v := .agg #[.int .i64 (Pl.meetX p la lb lc ma mb mc), .int .i64 (Pl.meetY p la lb lc ma mb mc)]) (fun wq hq => ?gc5x4) ?kc5x4
  case gc5x4 => (unfold Reg.gAt; go_simp; refine Reg.quiet_enter ?_; exact meet_any _ _ _ _ _ _ _ _ hf (by omega) (by omega) (by omega) (by omega) (by omega) (by omega) (by omega) (by omega) (by omega) (by omega) (by omega) (by omega))
  try simp only [Act.put, List.setIfInBounds_toArray, List.set_cons_zero, List.set_cons_succ]
  refine Reg.wpG_step (v := ?vc5x5) (fun wq hq => ?gc5x5) ?kc5x5
  case gc5x5 => (have q0 := keepC hq c00; have q1 := keepC hq c10; have q2 := keepC hq c20; have q3 := keepC hq c21; have q4 := keepC hq c22; have q5 := keepC hq c30; have q6 := keepC hq c31; have q7 := keepC hq c32; refine Reg.gAt_val ?_; go_simp; first | done | (with_reducible rfl) | rfl)
  try simp only [Act.put, List.setIfInBounds_toArray, List.set_cons_zero, List.set_cons_succ]
  intro wr1 hbn
  replace c00 := keepC hbn c00
  replace c10 := keepC hbn c10
  replace c20 := keepC hbn c20
  replace c21 := keepC hbn c21
  replace c22 := keepC hbn c22
  replace c30 := keepC hbn c30
  replace c31 := keepC hbn c31
  replace c32 := keepC hbn c32
  replace hB := below_of hB hbn hB.size
  clear hbn
  refine ⟨62, #[.int .i64 p, .agg #[.int .i64 (Pl.meetX p la lb lc ma mb mc), .int .i64 (Pl.meetY p la lb lc ma mb mc)], .func (.func 70) #[] #[.pointer (some ⟨w.heap.size, 0, none⟩), .pointer (some ⟨w.heap.size + 1, 0, none⟩), .pointer (some ⟨w.heap.size + 1 + 1, 0, none⟩), .pointer (some ⟨w.heap.size + 1 + 1 + 1, 0, none⟩)]], ?rac5x, ?rbc5x⟩
  case rac5x => (intro o ho; simp at ho; subst ho; first | rfl | (go_simp; done) | (go_simp; rfl))
  refine (linesWith_any p (Pl.meetX p la lb lc ma mb mc) (Pl.meetY p la lb lc ma mb mc) _ _ (fun x y z => #[.agg #[.int .i64 x, .int .i64 y, .int .i64 z], .pointer (some ⟨w.heap.size, 0, none⟩), .pointer (some ⟨w.heap.size + 1, 0, none⟩), .pointer (some ⟨w.heap.size + 1 + 1, 0, none⟩), .pointer (some ⟨w.heap.size + 1 + 1 + 1, 0, none⟩)]) (fun m => !Pl.nullB p k m.1 m.2.1 && (Pl.spread p k la lb m.1 m.2.1 == Pl.spread p k ma mb m.1 m.2.1)) _ (by omega) (by omega) (by omega) (by omega) (by omega) (by omega) (fun x y z => by first | rfl | simp) (fun x y z w' => by kernel_rfl) (fun x y z w' hm hb => ?_)).mono ?_
  · obtain ⟨hd, yb1, yb2, zb1, zb2⟩ := Pl.mem_ltAll (by omega) hm
    have x12 : 0 ≤ x ∧ x ≤ 31 := by omega
    exact BisectorsOf1_any x y z p k la lb lc ma mb mc _ _ _ _ w' hf x12.1 x12.2 (by omega) (by omega) (by omega) (by omega) (by omega) (by omega) (by omega) (by omega) (by omega) (by omega) (by omega) (by omega) (by omega) (by omega) (by omega) (by omega) (keepC hb c00) (keepC hb c10) (keepC hb c20) (keepC hb c21) (keepC hb c22) (keepC hb c30) (keepC hb c31) (keepC hb c32)
  rintro e w9 ⟨g, c, rfl, hO, hb⟩
  have hO' := hO.low hB.size
  have hB' := below_of hB hb hB.size
  clear hO hB hb
  refine ⟨_, rfl, ?_⟩
  simp only [Reg.dst, Act.put, List.setIfInBounds_toArray, List.set_cons_zero, List.set_cons_succ, List.getElem?_cons_zero, List.getElem?_cons_succ, Option.bind_some]
  refine Reg.wpV_step (v := ?uc5x0) (fun wq => ?hc5x0) ?jc5x0
  case hc5x0 => (go_simp; first | done | (with_reducible rfl) | rfl)
  try simp only [Act.put, List.setIfInBounds_toArray, List.set_cons_zero, List.set_cons_succ]
  refine Reg.wpV_step (v := ?uc5x1) (fun wq => ?hc5x1) ?jc5x1
  case hc5x1 => (go_simp; first | done | (with_reducible rfl) | rfl)
  try simp only [Act.put, List.setIfInBounds_toArray, List.set_cons_zero, List.set_cons_succ]
  change wpList _ _ _ _ _ _
  go_wp2_with fail
  go_ret2
  exact ⟨g, c, rfl, hO', hB'⟩
theorem BisectorsOf_err (p k la lb lc ma mb mc : Int) (w : World) (h0 : ¬ Pl.bisC p k la lb lc ma mb mc = 0) :
    Calls Try.prog 26 #[.int .i64 p, .int .i64 k, .agg #[.int .i64 la, .int .i64 lb, .int .i64 lc], .agg #[.int .i64 ma, .int .i64 mb, .int .i64 mc]] w fun e w' => e = .returned (.tuple #[.slice none 0 0, .int .i64 (Pl.bisC p k la lb lc ma mb mc)]) ∧ Below w.heap.size w w' := by
  by_cases h1 : Pl.twoL p k la lb lc ma mb mc = 0
  · have hc := Pl.bisC_par h1 h0
    obtain ⟨hpar, hcc⟩ := hc
    have HC := hid hcc
    clear hcc h0
    have hk2 := Pl.twoL_ok h1
    have hv := hid (Pl.ask_ok hk2.1)
    have hp := Pl.field_bd hv.out.1
    obtain ⟨hp1, hp2⟩ := hp
    have hv2 := hv.out.2
    simp only [Bool.and_eq_true] at hv2
    obtain ⟨⟨la1, la2, lb1, lb2, lc1, lc2, hl⟩, ma1, ma2, mb1, mb2, mc1, mc2, hm⟩ := Pl.lines2_bd hv2.2
    clear hv2 hl hm hk2
    have hf := hv.out.1
    go_enter Try.func26, Try.ntmps26
    go_wp2_with fail
    refine (twoLines_any _ _ _ _ _ _ _ _ _).mono ?_
    rintro e w1 ⟨rfl, hb⟩
    have c00 : w1.cell? ⟨w.heap.size, 0, none⟩ = some (.int .i64 p) := keepC hb (by go_simp)
    have c10 : w1.cell? ⟨w.heap.size + 1, 0, none⟩ = some (.int .i64 k) := keepC hb (by go_simp)
    have c20 : w1.cell? ⟨w.heap.size + 1 + 1, 0, none⟩ = some (.int .i64 la) := keepC hb (by go_simp)
    have c21 : w1.cell? ⟨w.heap.size + 1 + 1, 1, none⟩ = some (.int .i64 lb) := keepC hb (by go_simp)
    have c22 : w1.cell? ⟨w.heap.size + 1 + 1, 2, none⟩ = some (.int .i64 lc) := keepC hb (by go_simp)
    have c30 : w1.cell? ⟨w.heap.size + 1 + 1 + 1, 0, none⟩ = some (.int .i64 ma) := keepC hb (by go_simp)
    have c31 : w1.cell? ⟨w.heap.size + 1 + 1 + 1, 1, none⟩ = some (.int .i64 mb) := keepC hb (by go_simp)
    have c32 : w1.cell? ⟨w.heap.size + 1 + 1 + 1, 2, none⟩ = some (.int .i64 mc) := keepC hb (by go_simp)
    have hB : Below w.heap.size w w1 := below_of (by go_grown) hb (by simp <;> omega)
    clear hb
    go_wp2_with (go_at_call 68; refine (areParallel_any _ _ _ _ _ _ _ _ (by omega) (by omega) (by omega) (by omega) (by omega) (by omega) (by omega) (by omega) (by omega) (by omega) (by omega) (by omega) (by omega) (by omega)).mono ?_; rintro e w' ⟨rfl, hbn⟩; replace c00 := keepC hbn c00; replace c10 := keepC hbn c10; replace c20 := keepC hbn c20; replace c21 := keepC hbn c21; replace c22 := keepC hbn c22; replace c30 := keepC hbn c30; replace c31 := keepC hbn c31; replace c32 := keepC hbn c32; replace hB := below_of hB hbn hB.size; clear hbn)
    go_ret2
    exact ⟨by rw [HC.out]; rfl, hB⟩
  · have HC := hid (Pl.bisC_err h1)
    have hne : (Pl.twoL p k la lb lc ma mb mc != 0) = true := by simpa using h1
    clear h0 h1
    go_enter Try.func26, Try.ntmps26
    go_wp2_with fail
    refine (twoLines_any _ _ _ _ _ _ _ _ _).mono ?_
    rintro e w1 ⟨rfl, hb⟩
    have hB : Below w.heap.size w w1 := below_of (by go_grown) hb (by simp <;> omega)
    clear hb
    go_wp2_with fail
    go_ret2
    exact ⟨by rw [HC.out]; rfl, hB⟩
theorem sLinesWithSpread_ok (p k la lb lc ax ay s : Int) (w : World) (h0 : Pl.lwsC p k la lb lc ax ay s = 0) :
    Calls Try.prog 20 #[.int .i64 p, .int .i64 k, .agg #[.int .i64 la, .int .i64 lb, .int .i64 lc], .agg #[.int .i64 ax, .int .i64 ay], .int .i64 s] w fun e w' => ∃ g c, e = .returned (.tuple #[.slice (some ⟨g, 0, none⟩) (Pl.lnsW (fun m => !Pl.nullB p k m.1 m.2.1 && (Pl.spread p k la lb m.1 m.2.1 == s)) p ax ay).length c, .int .i64 0]) ∧ Own w' (w.heap.size) 28 3 g (Pl.lnsW (fun m => !Pl.nullB p k m.1 m.2.1 && (Pl.spread p k la lb m.1 m.2.1 == s)) p ax ay).length c (Pl.flat3 ((Pl.lnsW (fun m => !Pl.nullB p k m.1 m.2.1 && (Pl.spread p k la lb m.1 m.2.1 == s)) p ax ay))) ∧ Below w.heap.size w w' := by
  have hk := Pl.lwsC_ok h0
  obtain ⟨h1, hn⟩ := hk
  have hv : Hid (Pl.fieldB p = true ∧ (Pl.lwsV p k la lb lc ax ay s) = true) := Pl.ask_ok h1
  have hp := Pl.field_bd hv.out.1
  obtain ⟨hp1, hp2⟩ := hp
  have hv2 := hv.out.2
  simp only [Pl.lwsV, Bool.and_eq_true] at hv2
  obtain ⟨la1, la2, lb1, lb2, lc1, lc2, hl⟩ := Pl.lineB_bd hv2.1.1.2
  obtain ⟨ax1, ax2, ay1, ay2⟩ := Pl.ptB_bd hv2.1.2
  obtain ⟨s1, s2⟩ := Pl.numB_true hv2.2
  clear hl
  have hf := hv.out.1
  have k1 := hid (show Pl.ask p (Pl.colB k && Pl.linesB p [(la, lb, lc)]) = 0 by rw [Pl.linesB1, hv2.1.1.1, hv2.1.1.2]; exact Pl.ask_tt hf)
  have k2 := hid (show Pl.ask p (Pl.ptsB p [(ax, ay)]) = 0 by rw [Pl.ptsB1, hv2.1.2]; exact Pl.ask_tt hf)
  have k3 := hid (show Pl.ask p (Pl.numB p s) = 0 by rw [hv2.2]; exact Pl.ask_tt hf)
  clear hv2 h0 h1
  go_enter Try.func20, Try.ntmps20
  go_wp2_with fail
  refine (l03Colour_any p k _ 0 1 1 [(la, lb, lc)] rfl (by omega) _ (by simp) ?_).mono ?_
  · intro j hj
    match j, hj with
    | 0, _ => exact ⟨by go_simp, by go_simp, by go_simp⟩
  · rintro e w1 ⟨rfl, hb⟩
    rw [k1.out]
    have c00 : w1.cell? ⟨w.heap.size, 0, none⟩ = some (.int .i64 la) := keepC hb (by go_simp)
    have c01 : w1.cell? ⟨w.heap.size, 1, none⟩ = some (.int .i64 lb) := keepC hb (by go_simp)
    have c02 : w1.cell? ⟨w.heap.size, 2, none⟩ = some (.int .i64 lc) := keepC hb (by go_simp)
    have c10 : w1.cell? ⟨w.heap.size + 1, 0, none⟩ = some (.int .i64 ax) := keepC hb (by go_simp)
    have c11 : w1.cell? ⟨w.heap.size + 1, 1, none⟩ = some (.int .i64 ay) := keepC hb (by go_simp)
    have hB : Below w.heap.size w w1 := below_of (by go_grown) hb (by simp <;> omega)
    clear hb
    go_wp2_with fail
    refine (l01Code_any p _ 0 1 1 [(ax, ay)] rfl (by omega) _ (by simp) ?_).mono ?_
    · intro j hj
      match j, hj with
      | 0, _ => exact ⟨by go_simp, by go_simp⟩
    · rintro e w2 ⟨rfl, hb⟩
      rw [k2.out]
      replace c00 := keepC hb (keepA (.cells #[.int .i64 ax, .int .i64 ay] 24) c00)
      replace c01 := keepC hb (keepA (.cells #[.int .i64 ax, .int .i64 ay] 24) c01)
      replace c02 := keepC hb (keepA (.cells #[.int .i64 ax, .int .i64 ay] 24) c02)
      replace c10 := keepC hb (keepA (.cells #[.int .i64 ax, .int .i64 ay] 24) c10)
      replace c11 := keepC hb (keepA (.cells #[.int .i64 ax, .int .i64 ay] 24) c11)
      replace hB := below_of (hB.alloc hB.size (.cells #[.int .i64 ax, .int .i64 ay] 24)) hb (by have := hB.size; simp; omega)
      clear hb
      go_wp2_with fail
      refine (l01Numbers_any p _ 0 1 1 [s] rfl (by omega) _ ?_).mono ?_
      · intro j hj
        match j, hj with
        | 0, _ => go_simp
      · rintro e w3 ⟨rfl, rfl⟩
        rw [Pl.nums1]
        rw [k3.out]
        replace c00 := keepA (.cells #[.int .i64 s] 2) c00
        replace c01 := keepA (.cells #[.int .i64 s] 2) c01
        replace c02 := keepA (.cells #[.int .i64 s] 2) c02
        replace c10 := keepA (.cells #[.int .i64 s] 2) c10
        replace c11 := keepA (.cells #[.int .i64 s] 2) c11
        replace hB := hB.alloc hB.size (.cells #[.int .i64 s] 2)
        generalize hW3 : World.alloc w2 (.cells #[.int .i64 s] 2) = W3 at *
        clear hW3
        go_wp2_with (go_at_call 57; refine (l03Null_any _ _ _ _ _ _ (by omega) (by omega) (by omega) (by omega) (by omega) (by omega) (by omega) (by omega)).mono ?_; rintro e w' ⟨rfl, hbn⟩; replace c00 := keepC hbn c00; replace c01 := keepC hbn c01; replace c02 := keepC hbn c02; replace c10 := keepC hbn c10; replace c11 := keepC hbn c11; replace hB := below_of hB hbn hB.size; clear hbn)
        refine (l03Lines_any p k ax ay _ (by omega) (by omega) (by omega) (by omega) (by omega) (by omega)).mono ?_
        rintro e w9 ⟨gS, cS, rfl, hO, hb⟩
        replace c00 := keepC hb c00
        replace c01 := keepC hb c01
        replace c02 := keepC hb c02
        replace c10 := keepC hb c10
        replace c11 := keepC hb c11
        replace hO := hO.low hB.size
        replace hB := below_of hB hb hB.size
        clear hb
        go_wp2_with fail
        generalize hWo : World.alloc w9 (.cells #[] 28) = W9
        have hS1 := hid (show Own W9 (w.heap.size) 28 3 gS (Pl.lnsW (fun m => !Pl.nullB p k m.1 m.2.1) p ax ay).length cS (Pl.flat3 ((Pl.lnsW (fun m => !Pl.nullB p k m.1 m.2.1) p ax ay))) from by subst hWo; exact hO.alloc _)
        have hO1 : Own W9 w9.heap.size 28 3 w9.heap.size 0 0 [] := by subst hWo; exact Own.lit0 _ _ _ _ _ rfl (Nat.le_refl _)
        have hgO : w.heap.size ≤ w9.heap.size := hB.size
        have hgo0 : w.heap.size < w9.heap.size := World.block_lt_of_cell? w9 _ c00
        have hgo1 : w.heap.size + 1 < w9.heap.size := World.block_lt_of_cell? w9 _ c10
        have hgs1 : w9.heap.size ≤ W9.heap.size := by subst hWo; simp
        have hne1 : w9.heap.size ≠ gS := by have := hO.lt; omega
        replace c00 := hWo ▸ keepA (.cells #[] 28) c00
        replace c01 := hWo ▸ keepA (.cells #[] 28) c01
        replace c02 := hWo ▸ keepA (.cells #[] 28) c02
        replace c10 := hWo ▸ keepA (.cells #[] 28) c10
        replace c11 := hWo ▸ keepA (.cells #[] 28) c11
        have hB1 : Below w.heap.size w W9 := by subst hWo; exact hB.alloc hB.size _
        clear hO hB hWo
        generalize w9.heap.size = gO at *
        generalize hL : Pl.lnsW (fun m => !Pl.nullB p k m.1 m.2.1) p ax ay = L at *
        have HL := hid hL
        clear hL
        have hnl0 : L.length ≤ 1000 := by rw [← HL.out]; exact Pl.lnsW_len (by omega) (by omega)
        have HBB := hid hB1
        go_wp2_with fail
        go_loopw [14, 15] (fun v i wq => ∃ q gq cq : Nat, q ≤ L.length ∧ i = .int .i64 q ∧ v = .slice (some ⟨gq, 0, none⟩) ((L.take (q)).filter (fun m => Pl.spread p k la lb m.1 m.2.1 == s)).length cq ∧ Own wq (gO) 28 3 gq ((L.take (q)).filter (fun m => Pl.spread p k la lb m.1 m.2.1 == s)).length cq (Pl.flat3 (((L.take (q)).filter (fun m => Pl.spread p k la lb m.1 m.2.1 == s)))) ∧ Hid (Own wq (w.heap.size) 28 3 gS (L).length cS (Pl.flat3 ((L)))) ∧ gq ≠ gS ∧ gO ≤ wq.heap.size ∧ wq.cell? ⟨w.heap.size, 0, none⟩ = some (.int .i64 la) ∧ wq.cell? ⟨w.heap.size, 1, none⟩ = some (.int .i64 lb) ∧ wq.cell? ⟨w.heap.size, 2, none⟩ = some (.int .i64 lc) ∧ wq.cell? ⟨w.heap.size + 1, 0, none⟩ = some (.int .i64 ax) ∧ wq.cell? ⟨w.heap.size + 1, 1, none⟩ = some (.int .i64 ay) ∧ Below w.heap.size w wq) (fun _ i _ => L.length - (intOf i).toNat)
        case atStart => exact ⟨0, gO, 0, by omega, rfl, rfl, hO1, hS1, hne1, hgs1, c00, c01, c02, c10, c11, hB1⟩
        case round =>
          clear hO1 hS1 hne1 hB1 hgs1 c00 c01 c02 c10 c11
          obtain ⟨q, gq, cq, hq0, rfl, rfl, hO, hS, hne, hgs, c00, c01, c02, c10, c11, hB⟩ := hrel
          have hs := hB.size
          have hnl := hid (Pl.take_len (fun m => Pl.spread p k la lb m.1 m.2.1 == s) L q)
          by_cases hlt2 : q < L.length
          · have hcell := hS.out.cell3 hlt2
            have hmem := hid (Pl.getD_mem (0, 0, 0) hlt2)
            have hP1 := hid (fun h => Pl.take_hit (P := fun m => Pl.spread p k la lb m.1 m.2.1 == s) (l := L) (k := q) (d := (0, 0, 0)) hlt2 h)
            have hP2 := hid (fun h => Pl.take_miss (P := fun m => Pl.spread p k la lb m.1 m.2.1 == s) (l := L) (k := q) (d := (0, 0, 0)) hlt2 h)
            have hq := hid (show L.getD q (0, 0, 0) = ((L.getD q (0, 0, 0)).1, (L.getD q (0, 0, 0)).2.1, (L.getD q (0, 0, 0)).2.2) from rfl)
            generalize hx0 : (L.getD q (0, 0, 0)).1 = x at *
            clear hx0
            generalize hx1 : (L.getD q (0, 0, 0)).2.1 = y at *
            clear hx1
            generalize hx2 : (L.getD q (0, 0, 0)).2.2 = z at *
            clear hx2
            obtain ⟨e0, e1, e2⟩ := hcell
            have hm2 := hid (show (x, y, z) ∈ Pl.ltAll p ax ay from Pl.mem_lnsW (N := fun m => !Pl.nullB p k m.1 m.2.1) (by have h1 := hmem.out; rw [hq.out] at h1; rw [HL.out]; exact h1))
            have hmb := Pl.mem_ltAll (by omega) hm2.out
            obtain ⟨hd, yb1, yb2, zb1, zb2⟩ := hmb
            have x12 : 0 ≤ x ∧ x ≤ 31 := by omega
            obtain ⟨x1, x2⟩ := x12
            clear hd hmem
            go_wp2_with fail
            generalize hWq : wr = W at *
            clear hWq
            have hO6 := hid hO
            have hW0 := hid (show W = W from rfl)
            have HOr := hid (fun w2 (hb : Below W.heap.size W w2) => hO.keep hb)
            have HSr := hid (fun w2 (hb : Below W.heap.size W w2) => hS.out.keep hb)
            clear hO hS hO6 hW0
            refine Reg.wp_region_grow (by kernel_rfl) 10 10 (fun _ => (#[.int .i64 0, .int .i64 0], 0)) (by kernel_rfl) ?_ ?_
            · intro k o h1 h2
              omega
            simp only [List.take_succ_cons, List.take_zero, List.drop_succ_cons, List.drop_zero]
            refine Reg.wpG_step (v := ?vr6x0) (fun wq hq => ?gr6x0) ?kr6x0
            case gr6x0 => (have q0 := keepC hq c00; have q1 := keepC hq c01; have q2 := keepC hq c02; have q3 := keepC hq c10; have q4 := keepC hq c11; have q5 := keepC hq e0; have q6 := keepC hq e1; have q7 := keepC hq e2; refine Reg.gAt_val ?_; go_simp; first | done | (with_reducible rfl) | rfl)
            try simp only [Act.put, List.setIfInBounds_toArray, List.set_cons_zero, List.set_cons_succ]
            refine Reg.wpG_step (v := ?vr6x1) (fun wq hq => ?gr6x1) ?kr6x1
            case gr6x1 => (have q0 := keepC hq c00; have q1 := keepC hq c01; have q2 := keepC hq c02; have q3 := keepC hq c10; have q4 := keepC hq c11; have q5 := keepC hq e0; have q6 := keepC hq e1; have q7 := keepC hq e2; refine Reg.gAt_val ?_; go_simp; first | done | (with_reducible rfl) | rfl)
            try simp only [Act.put, List.setIfInBounds_toArray, List.set_cons_zero, List.set_cons_succ]
            refine Reg.wpG_step (v := ?vr6x2) (fun wq hq => ?gr6x2) ?kr6x2
            case gr6x2 => (have q0 := keepC hq c00; have q1 := keepC hq c01; have q2 := keepC hq c02; have q3 := keepC hq c10; have q4 := keepC hq c11; have q5 := keepC hq e0; have q6 := keepC hq e1; have q7 := keepC hq e2; refine Reg.gAt_val ?_; go_simp; first | done | (with_reducible rfl) | rfl)
            try simp only [Act.put, List.setIfInBounds_toArray, List.set_cons_zero, List.set_cons_succ]
            refine Reg.wpG_step (v := ?vr6x3) (fun wq hq => ?gr6x3) ?kr6x3
            case gr6x3 => (have q0 := keepC hq c00; have q1 := keepC hq c01; have q2 := keepC hq c02; have q3 := keepC hq c10; have q4 := keepC hq c11; have q5 := keepC hq e0; have q6 := keepC hq e1; have q7 := keepC hq e2; refine Reg.gAt_val ?_; go_simp; first | done | (with_reducible rfl) | rfl)
            try simp only [Act.put, List.setIfInBounds_toArray, List.set_cons_zero, List.set_cons_succ]
            refine Reg.wpG_step (v := ?vr6x4) (fun wq hq => ?gr6x4) ?kr6x4
            case gr6x4 => (have q0 := keepC hq c00; have q1 := keepC hq c01; have q2 := keepC hq c02; have q3 := keepC hq c10; have q4 := keepC hq c11; have q5 := keepC hq e0; have q6 := keepC hq e1; have q7 := keepC hq e2; refine Reg.gAt_val ?_; go_simp; first | done | (with_reducible rfl) | rfl)
            try simp only [Act.put, List.setIfInBounds_toArray, List.set_cons_zero, List.set_cons_succ]
            refine Reg.wpG_step (v := ?vr6x5) (fun wq hq => ?gr6x5) ?kr6x5
            case gr6x5 => (have q0 := keepC hq c00; have q1 := keepC hq c01; have q2 := keepC hq c02; have q3 := keepC hq c10; have q4 := keepC hq c11; have q5 := keepC hq e0; have q6 := keepC hq e1; have q7 := keepC hq e2; refine Reg.gAt_val ?_; go_simp; first | done | (with_reducible rfl) | rfl)
            try simp only [Act.put, List.setIfInBounds_toArray, List.set_cons_zero, List.set_cons_succ]
            refine Reg.wpG_step (v := ?vr6x6) (fun wq hq => ?gr6x6) ?kr6x6
            case gr6x6 => (have q0 := keepC hq c00; have q1 := keepC hq c01; have q2 := keepC hq c02; have q3 := keepC hq c10; have q4 := keepC hq c11; have q5 := keepC hq e0; have q6 := keepC hq e1; have q7 := keepC hq e2; refine Reg.gAt_val ?_; go_simp; first | done | (with_reducible rfl) | rfl)
            try simp only [Act.put, List.setIfInBounds_toArray, List.set_cons_zero, List.set_cons_succ]
            refine Reg.wpG_step (v := .int .i64 (Pl.spread p k la lb x y)) (fun wq hq => ?gr6x7) ?kr6x7
            case gr6x7 => (unfold Reg.gAt; go_simp; refine Reg.quiet_enter ?_; exact l03Spread_any p k la lb lc x y z _ hf (by omega) (by omega) (by omega) (by omega) (by omega) (by omega) (by omega) (by omega) (by omega) (by omega) (by omega) (by omega))
            try simp only [Act.put, List.setIfInBounds_toArray, List.set_cons_zero, List.set_cons_succ]
            refine Reg.wpG_step (v := ?vr6x8) (fun wq hq => ?gr6x8) ?kr6x8
            case gr6x8 => (have q0 := keepC hq c00; have q1 := keepC hq c01; have q2 := keepC hq c02; have q3 := keepC hq c10; have q4 := keepC hq c11; have q5 := keepC hq e0; have q6 := keepC hq e1; have q7 := keepC hq e2; refine Reg.gAt_val ?_; go_simp; first | done | (with_reducible rfl) | rfl)
            try simp only [Act.put, List.setIfInBounds_toArray, List.set_cons_zero, List.set_cons_succ]
            refine Reg.wpG_step (v := ?vr6x9) (fun wq hq => ?gr6x9) ?kr6x9
            case gr6x9 => (have q0 := keepC hq c00; have q1 := keepC hq c01; have q2 := keepC hq c02; have q3 := keepC hq c10; have q4 := keepC hq c11; have q5 := keepC hq e0; have q6 := keepC hq e1; have q7 := keepC hq e2; refine Reg.gAt_val ?_; go_simp; first | done | (with_reducible rfl) | rfl)
            try simp only [Act.put, List.setIfInBounds_toArray, List.set_cons_zero, List.set_cons_succ]
            intro w2 g hB2 hg hd
            clear hg hd
            change wpList _ _ _ _ (Reg.putPtrs _ g [] _) _
            simp only [Reg.putPtrs]
            replace c00 := keepC hB2 c00
            replace c01 := keepC hB2 c01
            replace c02 := keepC hB2 c02
            replace c10 := keepC hB2 c10
            replace c11 := keepC hB2 c11
            replace e0 := keepC hB2 e0
            replace e1 := keepC hB2 e1
            replace e2 := keepC hB2 e2
            have hO6 := HOr.out _ hB2
            have hS6 := hid (HSr.out _ hB2)
            have hgs2 := hB2.size
            clear HOr HSr
            replace hB := below_of hB hB2 hB.size
            clear hB2 
            have hs6 := hB.size
            replace hgs : gO ≤ w2.heap.size := Nat.le_trans hgs hgs2
            cases hP : (Pl.spread p k la lb x y == s) with
            | true =>
              have hl := hid (hP1.out (by first | exact hP | simp [hP]))
              clear hP1 hP2
              go_wp2_with (at_builtin; refine wp_push rfl _ _ 38 rfl (gO) 28 3 24 (.agg #[.int .i64 0, .int .i64 0, .int .i64 0]) Try.underlying38 info_ln rfl (by decide) (by decide) _ _ _ _ rfl (hO6.alloc _) (by have := hnl.out; omega) ⟨w2.heap.size, 0, none⟩ 1 [x, y, z] rfl rfl (new3 _ _ _ _ _) (by simp; omega) ?_; intro g5 c5 w5 hO5 hb5 hg5 hn5)
              have hO7 := hO5.cast (show ((L.take (q)).filter (fun m => Pl.spread p k la lb m.1 m.2.1 == s)).length + 1 = ((L.take (q + 1)).filter (fun m => Pl.spread p k la lb m.1 m.2.1 == s)).length by rw [hl.out]; simp) (show _ = Pl.flat3 ((L.take (q + 1)).filter (fun m => Pl.spread p k la lb m.1 m.2.1 == s)) by rw [hl.out, hq.out, Pl.app3])
              have hS7 := hid ((hS6.out.alloc (.cells #[.int .i64 x, .int .i64 y, .int .i64 z] 28)).grown hg5 (by simp; exact hne))
              have hne7 : g5 ≠ gS := by have h1 := hS6.out.lt; simp at hn5; omega
              replace c00 := cellOf hb5 (keepA (.cells #[.int .i64 x, .int .i64 y, .int .i64 z] 28) c00) (by first | (simp; done) | (simp; omega) | exact c00)
              replace c01 := cellOf hb5 (keepA (.cells #[.int .i64 x, .int .i64 y, .int .i64 z] 28) c01) (by first | (simp; done) | (simp; omega) | exact c01)
              replace c02 := cellOf hb5 (keepA (.cells #[.int .i64 x, .int .i64 y, .int .i64 z] 28) c02) (by first | (simp; done) | (simp; omega) | exact c02)
              replace c10 := cellOf hb5 (keepA (.cells #[.int .i64 x, .int .i64 y, .int .i64 z] 28) c10) (by first | (simp; done) | (simp; omega) | exact c10)
              replace c11 := cellOf hb5 (keepA (.cells #[.int .i64 x, .int .i64 y, .int .i64 z] 28) c11) (by first | (simp; done) | (simp; omega) | exact c11)
              have hB7 := (hB.alloc hs6 _).trans (hb5.mono hgO)
              have hgs5 : gO ≤ w5.heap.size := by have h1 := hb5.size; simp at h1; omega
              clear hO5 hb5 hg5 hn5 hO6 hS6 hB
              go_roundw
              case rel => exact ⟨q + 1, g5, c5, by omega, by go_num, by rw [hl.out]; simp, hO7, hS7, hne7, hgs5, c00, c01, c02, c10, c11, hB7⟩
              case measure => simp [intOf]; omega
            | false =>
              have hl := hid (hP2.out (by first | exact hP | simp [hP]))
              clear hP1 hP2
              go_wp2_with fail
              go_roundw
              case rel => exact ⟨q + 1, gq, cq, by omega, by go_num, by rw [hl.out], by rw [hl.out]; exact hO6, hS6, hne, hgs, c00, c01, c02, c10, c11, hB⟩
              case measure => simp [intOf]; omega
          · go_wp2_with fail
            go_ret2
            have ht := Pl.take_all (P := fun m => Pl.spread p k la lb m.1 m.2.1 == s) (show L.length ≤ q by omega)
            rw [ht, ← HL.out, Pl.lnsW_and] at hO
            exact ⟨gq, cq, by rw [ht, ← HL.out, Pl.lnsW_and]; rfl, hO.low hgO, hB⟩
theorem sLinesWithSpread_err (p k la lb lc ax ay s : Int) (w : World) (h0 : ¬ Pl.lwsC p k la lb lc ax ay s = 0) :
    Calls Try.prog 20 #[.int .i64 p, .int .i64 k, .agg #[.int .i64 la, .int .i64 lb, .int .i64 lc], .agg #[.int .i64 ax, .int .i64 ay], .int .i64 s] w fun e w' => e = .returned (.tuple #[.slice none 0 0, .int .i64 (Pl.lwsC p k la lb lc ax ay s)]) ∧ Below w.heap.size w w' := by
  by_cases h1 : Pl.ask p (Pl.lwsV p k la lb lc ax ay s) = 0
  · have hc := Pl.lwsC_null h1 h0
    obtain ⟨hn, hcc⟩ := hc
    have HC := hid hcc
    clear hcc h0
    have hv : Hid (Pl.fieldB p = true ∧ (Pl.lwsV p k la lb lc ax ay s) = true) := Pl.ask_ok h1
    have hp := Pl.field_bd hv.out.1
    obtain ⟨hp1, hp2⟩ := hp
    have hv2 := hv.out.2
    simp only [Pl.lwsV, Bool.and_eq_true] at hv2
    obtain ⟨la1, la2, lb1, lb2, lc1, lc2, hl⟩ := Pl.lineB_bd hv2.1.1.2
    obtain ⟨ax1, ax2, ay1, ay2⟩ := Pl.ptB_bd hv2.1.2
    obtain ⟨s1, s2⟩ := Pl.numB_true hv2.2
    clear hl
    have hf := hv.out.1
    have k1 := hid (show Pl.ask p (Pl.colB k && Pl.linesB p [(la, lb, lc)]) = 0 by rw [Pl.linesB1, hv2.1.1.1, hv2.1.1.2]; exact Pl.ask_tt hf)
    have k2 := hid (show Pl.ask p (Pl.ptsB p [(ax, ay)]) = 0 by rw [Pl.ptsB1, hv2.1.2]; exact Pl.ask_tt hf)
    have k3 := hid (show Pl.ask p (Pl.numB p s) = 0 by rw [hv2.2]; exact Pl.ask_tt hf)
    clear hv2 h1
    go_enter Try.func20, Try.ntmps20
    go_wp2_with fail
    refine (l03Colour_any p k _ 0 1 1 [(la, lb, lc)] rfl (by omega) _ (by simp) ?_).mono ?_
    · intro j hj
      match j, hj with
      | 0, _ => exact ⟨by go_simp, by go_simp, by go_simp⟩
    · rintro e w1 ⟨rfl, hb⟩
      rw [k1.out]
      have c00 : w1.cell? ⟨w.heap.size, 0, none⟩ = some (.int .i64 la) := keepC hb (by go_simp)
      have c01 : w1.cell? ⟨w.heap.size, 1, none⟩ = some (.int .i64 lb) := keepC hb (by go_simp)
      have c02 : w1.cell? ⟨w.heap.size, 2, none⟩ = some (.int .i64 lc) := keepC hb (by go_simp)
      have c10 : w1.cell? ⟨w.heap.size + 1, 0, none⟩ = some (.int .i64 ax) := keepC hb (by go_simp)
      have c11 : w1.cell? ⟨w.heap.size + 1, 1, none⟩ = some (.int .i64 ay) := keepC hb (by go_simp)
      have hB : Below w.heap.size w w1 := below_of (by go_grown) hb (by simp <;> omega)
      clear hb
      go_wp2_with fail
      refine (l01Code_any p _ 0 1 1 [(ax, ay)] rfl (by omega) _ (by simp) ?_).mono ?_
      · intro j hj
        match j, hj with
        | 0, _ => exact ⟨by go_simp, by go_simp⟩
      · rintro e w2 ⟨rfl, hb⟩
        rw [k2.out]
        replace c00 := keepC hb (keepA (.cells #[.int .i64 ax, .int .i64 ay] 24) c00)
        replace c01 := keepC hb (keepA (.cells #[.int .i64 ax, .int .i64 ay] 24) c01)
        replace c02 := keepC hb (keepA (.cells #[.int .i64 ax, .int .i64 ay] 24) c02)
        replace c10 := keepC hb (keepA (.cells #[.int .i64 ax, .int .i64 ay] 24) c10)
        replace c11 := keepC hb (keepA (.cells #[.int .i64 ax, .int .i64 ay] 24) c11)
        replace hB := below_of (hB.alloc hB.size (.cells #[.int .i64 ax, .int .i64 ay] 24)) hb (by have := hB.size; simp; omega)
        clear hb
        go_wp2_with fail
        refine (l01Numbers_any p _ 0 1 1 [s] rfl (by omega) _ ?_).mono ?_
        · intro j hj
          match j, hj with
          | 0, _ => go_simp
        · rintro e w3 ⟨rfl, rfl⟩
          rw [Pl.nums1]
          rw [k3.out]
          replace c00 := keepA (.cells #[.int .i64 s] 2) c00
          replace c01 := keepA (.cells #[.int .i64 s] 2) c01
          replace c02 := keepA (.cells #[.int .i64 s] 2) c02
          replace c10 := keepA (.cells #[.int .i64 s] 2) c10
          replace c11 := keepA (.cells #[.int .i64 s] 2) c11
          replace hB := hB.alloc hB.size (.cells #[.int .i64 s] 2)
          generalize hW3 : World.alloc w2 (.cells #[.int .i64 s] 2) = W3 at *
          clear hW3
          go_wp2_with (go_at_call 57; refine (l03Null_any _ _ _ _ _ _ (by omega) (by omega) (by omega) (by omega) (by omega) (by omega) (by omega) (by omega)).mono ?_; rintro e w' ⟨rfl, hbn⟩; replace c00 := keepC hbn c00; replace c01 := keepC hbn c01; replace c02 := keepC hbn c02; replace c10 := keepC hbn c10; replace c11 := keepC hbn c11; replace hB := below_of hB hbn hB.size; clear hbn)
          go_ret2
          exact ⟨by rw [HC.out]; rfl, hB⟩
  · have HC := hid (Pl.lwsC_err h1)
    cases hf : Pl.fieldB p with
    | false =>
      have HC2 := hid (show Pl.lwsC p k la lb lc ax ay s = 1 by rw [HC.out, Pl.ask_f hf])
      clear h0 h1
      go_enter Try.func20, Try.ntmps20
      go_wp2_with fail
      refine (l03Colour_any p k _ 0 1 1 [(la, lb, lc)] rfl (by omega) _ (by simp) ?_).mono ?_
      · intro j hj
        match j, hj with
        | 0, _ => exact ⟨by go_simp, by go_simp, by go_simp⟩
      · rintro e w1 ⟨rfl, hb⟩
        rw [Pl.ask_f hf]
        have c00 : w1.cell? ⟨w.heap.size, 0, none⟩ = some (.int .i64 la) := keepC hb (by go_simp)
        have c01 : w1.cell? ⟨w.heap.size, 1, none⟩ = some (.int .i64 lb) := keepC hb (by go_simp)
        have c02 : w1.cell? ⟨w.heap.size, 2, none⟩ = some (.int .i64 lc) := keepC hb (by go_simp)
        have c10 : w1.cell? ⟨w.heap.size + 1, 0, none⟩ = some (.int .i64 ax) := keepC hb (by go_simp)
        have c11 : w1.cell? ⟨w.heap.size + 1, 1, none⟩ = some (.int .i64 ay) := keepC hb (by go_simp)
        have hB : Below w.heap.size w w1 := below_of (by go_grown) hb (by simp <;> omega)
        clear hb
        go_wp2_with fail
        go_ret2
        exact ⟨by rw [HC2.out]; rfl, hB⟩
    | true =>
      have hp := Pl.field_bd hf
      obtain ⟨hp1, hp2⟩ := hp
      have HC2 := hid (show Pl.lwsC p k la lb lc ax ay s = 2 by have hz := h1; rw [HC.out]; unfold Pl.ask at hz ⊢; rw [if_pos hf] at hz ⊢; by_cases hvv : Pl.lwsV p k la lb lc ax ay s = true <;> simp [hvv] at hz ⊢)
      have hall := hid (show ¬ Pl.lwsV p k la lb lc ax ay s = true from fun e => h1 (by rw [e]; exact Pl.ask_tt hf))
      clear h0 h1
      cases q1 : (Pl.colB k && Pl.linesB p [(la, lb, lc)]) with
      | false =>
        go_enter Try.func20, Try.ntmps20
        go_wp2_with fail
        refine (l03Colour_any p k _ 0 1 1 [(la, lb, lc)] rfl (by omega) _ (by simp) ?_).mono ?_
        · intro j hj
          match j, hj with
          | 0, _ => exact ⟨by go_simp, by go_simp, by go_simp⟩
        · rintro e w1 ⟨rfl, hb⟩
          rw [q1, Pl.ask_tf hf]
          have c00 : w1.cell? ⟨w.heap.size, 0, none⟩ = some (.int .i64 la) := keepC hb (by go_simp)
          have c01 : w1.cell? ⟨w.heap.size, 1, none⟩ = some (.int .i64 lb) := keepC hb (by go_simp)
          have c02 : w1.cell? ⟨w.heap.size, 2, none⟩ = some (.int .i64 lc) := keepC hb (by go_simp)
          have c10 : w1.cell? ⟨w.heap.size + 1, 0, none⟩ = some (.int .i64 ax) := keepC hb (by go_simp)
          have c11 : w1.cell? ⟨w.heap.size + 1, 1, none⟩ = some (.int .i64 ay) := keepC hb (by go_simp)
          have hB : Below w.heap.size w w1 := below_of (by go_grown) hb (by simp <;> omega)
          clear hb
          go_wp2_with fail
          go_ret2
          exact ⟨by rw [HC2.out]; rfl, hB⟩
      | true =>
        cases q2 : (Pl.ptsB p [(ax, ay)]) with
        | false =>
          go_enter Try.func20, Try.ntmps20
          go_wp2_with fail
          refine (l03Colour_any p k _ 0 1 1 [(la, lb, lc)] rfl (by omega) _ (by simp) ?_).mono ?_
          · intro j hj
            match j, hj with
            | 0, _ => exact ⟨by go_simp, by go_simp, by go_simp⟩
          · rintro e w1 ⟨rfl, hb⟩
            rw [q1, Pl.ask_tt hf]
            have c00 : w1.cell? ⟨w.heap.size, 0, none⟩ = some (.int .i64 la) := keepC hb (by go_simp)
            have c01 : w1.cell? ⟨w.heap.size, 1, none⟩ = some (.int .i64 lb) := keepC hb (by go_simp)
            have c02 : w1.cell? ⟨w.heap.size, 2, none⟩ = some (.int .i64 lc) := keepC hb (by go_simp)
            have c10 : w1.cell? ⟨w.heap.size + 1, 0, none⟩ = some (.int .i64 ax) := keepC hb (by go_simp)
            have c11 : w1.cell? ⟨w.heap.size + 1, 1, none⟩ = some (.int .i64 ay) := keepC hb (by go_simp)
            have hB : Below w.heap.size w w1 := below_of (by go_grown) hb (by simp <;> omega)
            clear hb
            go_wp2_with fail
            refine (l01Code_any p _ 0 1 1 [(ax, ay)] rfl (by omega) _ (by simp) ?_).mono ?_
            · intro j hj
              match j, hj with
              | 0, _ => exact ⟨by go_simp, by go_simp⟩
            · rintro e w2 ⟨rfl, hb⟩
              rw [q2, Pl.ask_tf hf]
              replace c00 := keepC hb (keepA (.cells #[.int .i64 ax, .int .i64 ay] 24) c00)
              replace c01 := keepC hb (keepA (.cells #[.int .i64 ax, .int .i64 ay] 24) c01)
              replace c02 := keepC hb (keepA (.cells #[.int .i64 ax, .int .i64 ay] 24) c02)
              replace c10 := keepC hb (keepA (.cells #[.int .i64 ax, .int .i64 ay] 24) c10)
              replace c11 := keepC hb (keepA (.cells #[.int .i64 ax, .int .i64 ay] 24) c11)
              replace hB := below_of (hB.alloc hB.size (.cells #[.int .i64 ax, .int .i64 ay] 24)) hb (by have := hB.size; simp; omega)
              clear hb
              go_wp2_with fail
              go_ret2
              exact ⟨by rw [HC2.out]; rfl, hB⟩
        | true =>
          have q3 : Pl.numB p s = false := by cases hh : Pl.numB p s with
            | false => rfl
            | true => exact absurd (by unfold Pl.lwsV; rw [Pl.linesB1] at q1; rw [Pl.ptsB1] at q2; simp only [Bool.and_eq_true] at q1 ⊢; exact ⟨⟨⟨q1.1, q1.2⟩, q2⟩, hh⟩) hall.out
          go_enter Try.func20, Try.ntmps20
          go_wp2_with fail
          refine (l03Colour_any p k _ 0 1 1 [(la, lb, lc)] rfl (by omega) _ (by simp) ?_).mono ?_
          · intro j hj
            match j, hj with
            | 0, _ => exact ⟨by go_simp, by go_simp, by go_simp⟩
          · rintro e w1 ⟨rfl, hb⟩
            rw [q1, Pl.ask_tt hf]
            have c00 : w1.cell? ⟨w.heap.size, 0, none⟩ = some (.int .i64 la) := keepC hb (by go_simp)
            have c01 : w1.cell? ⟨w.heap.size, 1, none⟩ = some (.int .i64 lb) := keepC hb (by go_simp)
            have c02 : w1.cell? ⟨w.heap.size, 2, none⟩ = some (.int .i64 lc) := keepC hb (by go_simp)
            have c10 : w1.cell? ⟨w.heap.size + 1, 0, none⟩ = some (.int .i64 ax) := keepC hb (by go_simp)
            have c11 : w1.cell? ⟨w.heap.size + 1, 1, none⟩ = some (.int .i64 ay) := keepC hb (by go_simp)
            have hB : Below w.heap.size w w1 := below_of (by go_grown) hb (by simp <;> omega)
            clear hb
            go_wp2_with fail
            refine (l01Code_any p _ 0 1 1 [(ax, ay)] rfl (by omega) _ (by simp) ?_).mono ?_
            · intro j hj
              match j, hj with
              | 0, _ => exact ⟨by go_simp, by go_simp⟩
            · rintro e w2 ⟨rfl, hb⟩
              rw [q2, Pl.ask_tt hf]
              replace c00 := keepC hb (keepA (.cells #[.int .i64 ax, .int .i64 ay] 24) c00)
              replace c01 := keepC hb (keepA (.cells #[.int .i64 ax, .int .i64 ay] 24) c01)
              replace c02 := keepC hb (keepA (.cells #[.int .i64 ax, .int .i64 ay] 24) c02)
              replace c10 := keepC hb (keepA (.cells #[.int .i64 ax, .int .i64 ay] 24) c10)
              replace c11 := keepC hb (keepA (.cells #[.int .i64 ax, .int .i64 ay] 24) c11)
              replace hB := below_of (hB.alloc hB.size (.cells #[.int .i64 ax, .int .i64 ay] 24)) hb (by have := hB.size; simp; omega)
              clear hb
              go_wp2_with fail
              refine (l01Numbers_any p _ 0 1 1 [s] rfl (by omega) _ ?_).mono ?_
              · intro j hj
                match j, hj with
                | 0, _ => go_simp
              · rintro e w3 ⟨rfl, rfl⟩
                rw [Pl.nums1]
                rw [q3, Pl.ask_tf hf]
                replace c00 := keepA (.cells #[.int .i64 s] 2) c00
                replace c01 := keepA (.cells #[.int .i64 s] 2) c01
                replace c02 := keepA (.cells #[.int .i64 s] 2) c02
                replace c10 := keepA (.cells #[.int .i64 s] 2) c10
                replace c11 := keepA (.cells #[.int .i64 s] 2) c11
                replace hB := hB.alloc hB.size (.cells #[.int .i64 s] 2)
                generalize hW3 : World.alloc w2 (.cells #[.int .i64 s] 2) = W3 at *
                clear hW3
                go_wp2_with fail
                go_ret2
                exact ⟨by rw [HC2.out]; rfl, hB⟩
theorem sBisectorsOf_ok (p k la lb lc ma mb mc : Int) (w : World) (h0 : Pl.bisC p k la lb lc ma mb mc = 0) :
    Calls Try.prog 25 #[.int .i64 p, .int .i64 k, .agg #[.int .i64 la, .int .i64 lb, .int .i64 lc], .agg #[.int .i64 ma, .int .i64 mb, .int .i64 mc]] w fun e w' => ∃ g c, e = .returned (.tuple #[.slice (some ⟨g, 0, none⟩) (Pl.lnsW (fun m => !Pl.nullB p k m.1 m.2.1 && (Pl.spread p k la lb m.1 m.2.1 == Pl.spread p k ma mb m.1 m.2.1)) p (Pl.meetX p la lb lc ma mb mc) (Pl.meetY p la lb lc ma mb mc)).length c, .int .i64 0]) ∧ Own w' (w.heap.size) 28 3 g (Pl.lnsW (fun m => !Pl.nullB p k m.1 m.2.1 && (Pl.spread p k la lb m.1 m.2.1 == Pl.spread p k ma mb m.1 m.2.1)) p (Pl.meetX p la lb lc ma mb mc) (Pl.meetY p la lb lc ma mb mc)).length c (Pl.flat3 ((Pl.lnsW (fun m => !Pl.nullB p k m.1 m.2.1 && (Pl.spread p k la lb m.1 m.2.1 == Pl.spread p k ma mb m.1 m.2.1)) p (Pl.meetX p la lb lc ma mb mc) (Pl.meetY p la lb lc ma mb mc)))) ∧ Below w.heap.size w w' := by
  have hk := Pl.bisC_ok h0
  obtain ⟨h1, hpar⟩ := hk
  have hk2 := Pl.twoL_ok h1
  have hv := hid (Pl.ask_ok hk2.1)
  have hp := Pl.field_bd hv.out.1
  obtain ⟨hp1, hp2⟩ := hp
  have hv2 := hv.out.2
  simp only [Bool.and_eq_true] at hv2
  obtain ⟨⟨la1, la2, lb1, lb2, lc1, lc2, hl⟩, ma1, ma2, mb1, mb2, mc1, mc2, hm⟩ := Pl.lines2_bd hv2.2
  clear hv2 hl hm hk2
  have hf := hv.out.1
  have hmb := Pl.meet_bd (p := p) (la := la) (lb := lb) (lc := lc) (ma := ma) (mb := mb) (mc := mc) (by omega)
  obtain ⟨⟨qx1, qx2⟩, qy1, qy2⟩ := hmb
  clear h0
  go_enter Try.func25, Try.ntmps25
  go_wp2_with fail
  refine (l03Both_any _ _ _ _ _ _ _ _ _).mono ?_
  rintro e w1 ⟨rfl, hb⟩
  have c00 : w1.cell? ⟨w.heap.size, 0, none⟩ = some (.int .i64 la) := keepC hb (by go_simp)
  have c01 : w1.cell? ⟨w.heap.size, 1, none⟩ = some (.int .i64 lb) := keepC hb (by go_simp)
  have c02 : w1.cell? ⟨w.heap.size, 2, none⟩ = some (.int .i64 lc) := keepC hb (by go_simp)
  have c10 : w1.cell? ⟨w.heap.size + 1, 0, none⟩ = some (.int .i64 ma) := keepC hb (by go_simp)
  have c11 : w1.cell? ⟨w.heap.size + 1, 1, none⟩ = some (.int .i64 mb) := keepC hb (by go_simp)
  have c12 : w1.cell? ⟨w.heap.size + 1, 2, none⟩ = some (.int .i64 mc) := keepC hb (by go_simp)
  have hB : Below w.heap.size w w1 := below_of (by go_grown) hb (by simp <;> omega)
  clear hb
  go_wp2_with fail
  refine (l01Meet_n _ _ _ _ _ _ _ _ hf (by omega) (by omega) (by omega) (by omega) (by omega) (by omega) (by omega) (by omega) (by omega) (by omega) (by omega) (by omega) hpar).mono ?_
  rintro e w2 ⟨rfl, hb⟩
  replace c00 := keepA (.cells #[.int .i64 (Pl.meetX p la lb lc ma mb mc), .int .i64 (Pl.meetY p la lb lc ma mb mc)] 24) (keepC hb c00)
  replace c01 := keepA (.cells #[.int .i64 (Pl.meetX p la lb lc ma mb mc), .int .i64 (Pl.meetY p la lb lc ma mb mc)] 24) (keepC hb c01)
  replace c02 := keepA (.cells #[.int .i64 (Pl.meetX p la lb lc ma mb mc), .int .i64 (Pl.meetY p la lb lc ma mb mc)] 24) (keepC hb c02)
  replace c10 := keepA (.cells #[.int .i64 (Pl.meetX p la lb lc ma mb mc), .int .i64 (Pl.meetY p la lb lc ma mb mc)] 24) (keepC hb c10)
  replace c11 := keepA (.cells #[.int .i64 (Pl.meetX p la lb lc ma mb mc), .int .i64 (Pl.meetY p la lb lc ma mb mc)] 24) (keepC hb c11)
  replace c12 := keepA (.cells #[.int .i64 (Pl.meetX p la lb lc ma mb mc), .int .i64 (Pl.meetY p la lb lc ma mb mc)] 24) (keepC hb c12)
  replace hB := below_of hB hb hB.size
  replace hB := hB.alloc hB.size (.cells #[.int .i64 (Pl.meetX p la lb lc ma mb mc), .int .i64 (Pl.meetY p la lb lc ma mb mc)] 24)
  clear hb
  go_wp2_with fail
  generalize hW3 : World.alloc w2 (.cells #[.int .i64 (Pl.meetX p la lb lc ma mb mc), .int .i64 (Pl.meetY p la lb lc ma mb mc)] 24) = W3 at *
  clear hW3
  refine (l03Lines_any p k (Pl.meetX p la lb lc ma mb mc) (Pl.meetY p la lb lc ma mb mc) W3 (by omega) (by omega) (by omega) (by omega) (by omega) (by omega)).mono ?_
  rintro e w9 ⟨gS, cS, rfl, hO, hb⟩
  replace c00 := keepC hb c00
  replace c01 := keepC hb c01
  replace c02 := keepC hb c02
  replace c10 := keepC hb c10
  replace c11 := keepC hb c11
  replace c12 := keepC hb c12
  replace hO := hO.low hB.size
  replace hB := below_of hB hb hB.size
  clear hb
  go_wp2_with fail
  generalize hWo : World.alloc w9 (.cells #[] 28) = W9
  have hS1 := hid (show Own W9 (w.heap.size) 28 3 gS (Pl.lnsW (fun m => !Pl.nullB p k m.1 m.2.1) p (Pl.meetX p la lb lc ma mb mc) (Pl.meetY p la lb lc ma mb mc)).length cS (Pl.flat3 ((Pl.lnsW (fun m => !Pl.nullB p k m.1 m.2.1) p (Pl.meetX p la lb lc ma mb mc) (Pl.meetY p la lb lc ma mb mc)))) from by subst hWo; exact hO.alloc _)
  have hO1 : Own W9 w9.heap.size 28 3 w9.heap.size 0 0 [] := by subst hWo; exact Own.lit0 _ _ _ _ _ rfl (Nat.le_refl _)
  have hgO : w.heap.size ≤ w9.heap.size := hB.size
  have hgo0 : w.heap.size < w9.heap.size := World.block_lt_of_cell? w9 _ c00
  have hgo1 : w.heap.size + 1 < w9.heap.size := World.block_lt_of_cell? w9 _ c10
  have hgs1 : w9.heap.size ≤ W9.heap.size := by subst hWo; simp
  have hne1 : w9.heap.size ≠ gS := by have := hO.lt; omega
  replace c00 := hWo ▸ keepA (.cells #[] 28) c00
  replace c01 := hWo ▸ keepA (.cells #[] 28) c01
  replace c02 := hWo ▸ keepA (.cells #[] 28) c02
  replace c10 := hWo ▸ keepA (.cells #[] 28) c10
  replace c11 := hWo ▸ keepA (.cells #[] 28) c11
  replace c12 := hWo ▸ keepA (.cells #[] 28) c12
  have hB1 : Below w.heap.size w W9 := by subst hWo; exact hB.alloc hB.size _
  clear hO hB hWo
  generalize w9.heap.size = gO at *
  generalize hL : Pl.lnsW (fun m => !Pl.nullB p k m.1 m.2.1) p (Pl.meetX p la lb lc ma mb mc) (Pl.meetY p la lb lc ma mb mc) = L at *
  have HL := hid hL
  clear hL
  have hnl0 : L.length ≤ 1000 := by rw [← HL.out]; exact Pl.lnsW_len (by omega) (by omega)
  have HBB := hid hB1
  go_wp2_with fail
  go_loopw [14, 15] (fun v i wq => ∃ q gq cq : Nat, q ≤ L.length ∧ i = .int .i64 q ∧ v = .slice (some ⟨gq, 0, none⟩) ((L.take (q)).filter (fun m => Pl.spread p k la lb m.1 m.2.1 == Pl.spread p k ma mb m.1 m.2.1)).length cq ∧ Own wq (gO) 28 3 gq ((L.take (q)).filter (fun m => Pl.spread p k la lb m.1 m.2.1 == Pl.spread p k ma mb m.1 m.2.1)).length cq (Pl.flat3 (((L.take (q)).filter (fun m => Pl.spread p k la lb m.1 m.2.1 == Pl.spread p k ma mb m.1 m.2.1)))) ∧ Hid (Own wq (w.heap.size) 28 3 gS (L).length cS (Pl.flat3 ((L)))) ∧ gq ≠ gS ∧ gO ≤ wq.heap.size ∧ wq.cell? ⟨w.heap.size, 0, none⟩ = some (.int .i64 la) ∧ wq.cell? ⟨w.heap.size, 1, none⟩ = some (.int .i64 lb) ∧ wq.cell? ⟨w.heap.size, 2, none⟩ = some (.int .i64 lc) ∧ wq.cell? ⟨w.heap.size + 1, 0, none⟩ = some (.int .i64 ma) ∧ wq.cell? ⟨w.heap.size + 1, 1, none⟩ = some (.int .i64 mb) ∧ wq.cell? ⟨w.heap.size + 1, 2, none⟩ = some (.int .i64 mc) ∧ Below w.heap.size w wq) (fun _ i _ => L.length - (intOf i).toNat)
  case atStart => exact ⟨0, gO, 0, by omega, rfl, rfl, hO1, hS1, hne1, hgs1, c00, c01, c02, c10, c11, c12, hB1⟩
  case round =>
    clear hO1 hS1 hne1 hB1 hgs1 c00 c01 c02 c10 c11 c12
    obtain ⟨q, gq, cq, hq0, rfl, rfl, hO, hS, hne, hgs, c00, c01, c02, c10, c11, c12, hB⟩ := hrel
    have hs := hB.size
    have hnl := hid (Pl.take_len (fun m => Pl.spread p k la lb m.1 m.2.1 == Pl.spread p k ma mb m.1 m.2.1) L q)
    by_cases hlt2 : q < L.length
    · have hcell := hS.out.cell3 hlt2
      have hmem := hid (Pl.getD_mem (0, 0, 0) hlt2)
      have hP1 := hid (fun h => Pl.take_hit (P := fun m => Pl.spread p k la lb m.1 m.2.1 == Pl.spread p k ma mb m.1 m.2.1) (l := L) (k := q) (d := (0, 0, 0)) hlt2 h)
      have hP2 := hid (fun h => Pl.take_miss (P := fun m => Pl.spread p k la lb m.1 m.2.1 == Pl.spread p k ma mb m.1 m.2.1) (l := L) (k := q) (d := (0, 0, 0)) hlt2 h)
      have hq := hid (show L.getD q (0, 0, 0) = ((L.getD q (0, 0, 0)).1, (L.getD q (0, 0, 0)).2.1, (L.getD q (0, 0, 0)).2.2) from rfl)
      generalize hx0 : (L.getD q (0, 0, 0)).1 = x at *
      clear hx0
      generalize hx1 : (L.getD q (0, 0, 0)).2.1 = y at *
      clear hx1
      generalize hx2 : (L.getD q (0, 0, 0)).2.2 = z at *
      clear hx2
      obtain ⟨e0, e1, e2⟩ := hcell
      have hm2 := hid (show (x, y, z) ∈ Pl.ltAll p (Pl.meetX p la lb lc ma mb mc) (Pl.meetY p la lb lc ma mb mc) from Pl.mem_lnsW (N := fun m => !Pl.nullB p k m.1 m.2.1) (by have h1 := hmem.out; rw [hq.out] at h1; rw [HL.out]; exact h1))
      have hmb := Pl.mem_ltAll (by omega) hm2.out
      obtain ⟨hd, yb1, yb2, zb1, zb2⟩ := hmb
      have x12 : 0 ≤ x ∧ x ≤ 31 := by omega
      obtain ⟨x1, x2⟩ := x12
      clear hd hmem
      go_wp2_with fail
      generalize hWq : wr = W at *
      clear hWq
      have hO6 := hid hO
      have hW0 := hid (show W = W from rfl)
      have HOr := hid (fun w2 (hb : Below W.heap.size W w2) => hO.keep hb)
      have HSr := hid (fun w2 (hb : Below W.heap.size W w2) => hS.out.keep hb)
      clear hO hS hO6 hW0
      refine Reg.wp_region_grow (by kernel_rfl) 17 17 (fun _ => (#[.int .i64 0, .int .i64 0], 0)) (by kernel_rfl) ?_ ?_
      · intro k o h1 h2
        omega
      simp only [List.take_succ_cons, List.take_zero, List.drop_succ_cons, List.drop_zero]
      refine Reg.wpG_step (v := ?vr7x0) (fun wq hq => ?gr7x0) ?kr7x0
      case gr7x0 => (have q0 := keepC hq c00; have q1 := keepC hq c01; have q2 := keepC hq c02; have q3 := keepC hq c10; have q4 := keepC hq c11; have q5 := keepC hq c12; have q6 := keepC hq e0; have q7 := keepC hq e1; have q8 := keepC hq e2; refine Reg.gAt_val ?_; go_simp; first | done | (with_reducible rfl) | rfl)
      try simp only [Act.put, List.setIfInBounds_toArray, List.set_cons_zero, List.set_cons_succ]
      refine Reg.wpG_step (v := ?vr7x1) (fun wq hq => ?gr7x1) ?kr7x1
      case gr7x1 => (have q0 := keepC hq c00; have q1 := keepC hq c01; have q2 := keepC hq c02; have q3 := keepC hq c10; have q4 := keepC hq c11; have q5 := keepC hq c12; have q6 := keepC hq e0; have q7 := keepC hq e1; have q8 := keepC hq e2; refine Reg.gAt_val ?_; go_simp; first | done | (with_reducible rfl) | rfl)
      try simp only [Act.put, List.setIfInBounds_toArray, List.set_cons_zero, List.set_cons_succ]
      refine Reg.wpG_step (v := ?vr7x2) (fun wq hq => ?gr7x2) ?kr7x2
      case gr7x2 => (have q0 := keepC hq c00; have q1 := keepC hq c01; have q2 := keepC hq c02; have q3 := keepC hq c10; have q4 := keepC hq c11; have q5 := keepC hq c12; have q6 := keepC hq e0; have q7 := keepC hq e1; have q8 := keepC hq e2; refine Reg.gAt_val ?_; go_simp; first | done | (with_reducible rfl) | rfl)
      try simp only [Act.put, List.setIfInBounds_toArray, List.set_cons_zero, List.set_cons_succ]
      refine Reg.wpG_step (v := ?vr7x3) (fun wq hq => ?gr7x3) ?kr7x3
      case gr7x3 => (have q0 := keepC hq c00; have q1 := keepC hq c01; have q2 := keepC hq c02; have q3 := keepC hq c10; have q4 := keepC hq c11; have q5 := keepC hq c12; have q6 := keepC hq e0; have q7 := keepC hq e1; have q8 := keepC hq e2; refine Reg.gAt_val ?_; go_simp; first | done | (with_reducible rfl) | rfl)
      try simp only [Act.put, List.setIfInBounds_toArray, List.set_cons_zero, List.set_cons_succ]
      refine Reg.wpG_step (v := ?vr7x4) (fun wq hq => ?gr7x4) ?kr7x4
      case gr7x4 => (have q0 := keepC hq c00; have q1 := keepC hq c01; have q2 := keepC hq c02; have q3 := keepC hq c10; have q4 := keepC hq c11; have q5 := keepC hq c12; have q6 := keepC hq e0; have q7 := keepC hq e1; have q8 := keepC hq e2; refine Reg.gAt_val ?_; go_simp; first | done | (with_reducible rfl) | rfl)
      try simp only [Act.put, List.setIfInBounds_toArray, List.set_cons_zero, List.set_cons_succ]
      refine Reg.wpG_step (v := ?vr7x5) (fun wq hq => ?gr7x5) ?kr7x5
      case gr7x5 => (have q0 := keepC hq c00; have q1 := keepC hq c01; have q2 := keepC hq c02; have q3 := keepC hq c10; have q4 := keepC hq c11; have q5 := keepC hq c12; have q6 := keepC hq e0; have q7 := keepC hq e1; have q8 := keepC hq e2; refine Reg.gAt_val ?_; go_simp; first | done | (with_reducible rfl) | rfl)
      try simp only [Act.put, List.setIfInBounds_toArray, List.set_cons_zero, List.set_cons_succ]
      refine Reg.wpG_step (v := ?vr7x6) (fun wq hq => ?gr7x6) ?kr7x6
      case gr7x6 => (have q0 := keepC hq c00; have q1 := keepC hq c01; have q2 := keepC hq c02; have q3 := keepC hq c10; have q4 := keepC hq c11; have q5 := keepC hq c12; have q6 := keepC hq e0; have q7 := keepC hq e1; have q8 := keepC hq e2; refine Reg.gAt_val ?_; go_simp; first | done | (with_reducible rfl) | rfl)
      try simp only [Act.put, List.setIfInBounds_toArray, List.set_cons_zero, List.set_cons_succ]
      refine Reg.wpG_step (v := .int .i64 (Pl.spread p k la lb x y)) (fun wq hq => ?gr7x7) ?kr7x7
      case gr7x7 => (unfold Reg.gAt; go_simp; refine Reg.quiet_enter ?_; exact l03Spread_any p k la lb lc x y z _ hf (by omega) (by omega) (by omega) (by omega) (by omega) (by omega) (by omega) (by omega) (by omega) (by omega) (by omega) (by omega))
      try simp only [Act.put, List.setIfInBounds_toArray, List.set_cons_zero, List.set_cons_succ]
      refine Reg.wpG_step (v := ?vr7x8) (fun wq hq => ?gr7x8) ?kr7x8
      case gr7x8 => (have q0 := keepC hq c00; have q1 := keepC hq c01; have q2 := keepC hq c02; have q3 := keepC hq c10; have q4 := keepC hq c11; have q5 := keepC hq c12; have q6 := keepC hq e0; have q7 := keepC hq e1; have q8 := keepC hq e2; refine Reg.gAt_val ?_; go_simp; first | done | (with_reducible rfl) | rfl)
      try simp only [Act.put, List.setIfInBounds_toArray, List.set_cons_zero, List.set_cons_succ]
      refine Reg.wpG_step (v := ?vr7x9) (fun wq hq => ?gr7x9) ?kr7x9
      case gr7x9 => (have q0 := keepC hq c00; have q1 := keepC hq c01; have q2 := keepC hq c02; have q3 := keepC hq c10; have q4 := keepC hq c11; have q5 := keepC hq c12; have q6 := keepC hq e0; have q7 := keepC hq e1; have q8 := keepC hq e2; refine Reg.gAt_val ?_; go_simp; first | done | (with_reducible rfl) | rfl)
      try simp only [Act.put, List.setIfInBounds_toArray, List.set_cons_zero, List.set_cons_succ]
      refine Reg.wpG_step (v := ?vr7x10) (fun wq hq => ?gr7x10) ?kr7x10
      case gr7x10 => (have q0 := keepC hq c00; have q1 := keepC hq c01; have q2 := keepC hq c02; have q3 := keepC hq c10; have q4 := keepC hq c11; have q5 := keepC hq c12; have q6 := keepC hq e0; have q7 := keepC hq e1; have q8 := keepC hq e2; refine Reg.gAt_val ?_; go_simp; first | done | (with_reducible rfl) | rfl)
      try simp only [Act.put, List.setIfInBounds_toArray, List.set_cons_zero, List.set_cons_succ]
      refine Reg.wpG_step (v := ?vr7x11) (fun wq hq => ?gr7x11) ?kr7x11
      case gr7x11 => (have q0 := keepC hq c00; have q1 := keepC hq c01; have q2 := keepC hq c02; have q3 := keepC hq c10; have q4 := keepC hq c11; have q5 := keepC hq c12; have q6 := keepC hq e0; have q7 := keepC hq e1; have q8 := keepC hq e2; refine Reg.gAt_val ?_; go_simp; first | done | (with_reducible rfl) | rfl)
      try simp only [Act.put, List.setIfInBounds_toArray, List.set_cons_zero, List.set_cons_succ]
      refine Reg.wpG_step (v := ?vr7x12) (fun wq hq => ?gr7x12) ?kr7x12
      case gr7x12 => (have q0 := keepC hq c00; have q1 := keepC hq c01; have q2 := keepC hq c02; have q3 := keepC hq c10; have q4 := keepC hq c11; have q5 := keepC hq c12; have q6 := keepC hq e0; have q7 := keepC hq e1; have q8 := keepC hq e2; refine Reg.gAt_val ?_; go_simp; first | done | (with_reducible rfl) | rfl)
      try simp only [Act.put, List.setIfInBounds_toArray, List.set_cons_zero, List.set_cons_succ]
      refine Reg.wpG_step (v := ?vr7x13) (fun wq hq => ?gr7x13) ?kr7x13
      case gr7x13 => (have q0 := keepC hq c00; have q1 := keepC hq c01; have q2 := keepC hq c02; have q3 := keepC hq c10; have q4 := keepC hq c11; have q5 := keepC hq c12; have q6 := keepC hq e0; have q7 := keepC hq e1; have q8 := keepC hq e2; refine Reg.gAt_val ?_; go_simp; first | done | (with_reducible rfl) | rfl)
      try simp only [Act.put, List.setIfInBounds_toArray, List.set_cons_zero, List.set_cons_succ]
      refine Reg.wpG_step (v := ?vr7x14) (fun wq hq => ?gr7x14) ?kr7x14
      case gr7x14 => (have q0 := keepC hq c00; have q1 := keepC hq c01; have q2 := keepC hq c02; have q3 := keepC hq c10; have q4 := keepC hq c11; have q5 := keepC hq c12; have q6 := keepC hq e0; have q7 := keepC hq e1; have q8 := keepC hq e2; refine Reg.gAt_val ?_; go_simp; first | done | (with_reducible rfl) | rfl)
      try simp only [Act.put, List.setIfInBounds_toArray, List.set_cons_zero, List.set_cons_succ]
      refine Reg.wpG_step (v := .int .i64 (Pl.spread p k ma mb x y)) (fun wq hq => ?gr7x15) ?kr7x15
      case gr7x15 => (unfold Reg.gAt; go_simp; refine Reg.quiet_enter ?_; exact l03Spread_any p k ma mb mc x y z _ hf (by omega) (by omega) (by omega) (by omega) (by omega) (by omega) (by omega) (by omega) (by omega) (by omega) (by omega) (by omega))
      try simp only [Act.put, List.setIfInBounds_toArray, List.set_cons_zero, List.set_cons_succ]
      refine Reg.wpG_step (v := ?vr7x16) (fun wq hq => ?gr7x16) ?kr7x16
      case gr7x16 => (have q0 := keepC hq c00; have q1 := keepC hq c01; have q2 := keepC hq c02; have q3 := keepC hq c10; have q4 := keepC hq c11; have q5 := keepC hq c12; have q6 := keepC hq e0; have q7 := keepC hq e1; have q8 := keepC hq e2; refine Reg.gAt_val ?_; go_simp; first | done | (with_reducible rfl) | rfl)
      try simp only [Act.put, List.setIfInBounds_toArray, List.set_cons_zero, List.set_cons_succ]
      intro w2 g hB2 hg hd
      clear hg hd
      change wpList _ _ _ _ (Reg.putPtrs _ g [] _) _
      simp only [Reg.putPtrs]
      replace c00 := keepC hB2 c00
      replace c01 := keepC hB2 c01
      replace c02 := keepC hB2 c02
      replace c10 := keepC hB2 c10
      replace c11 := keepC hB2 c11
      replace c12 := keepC hB2 c12
      replace e0 := keepC hB2 e0
      replace e1 := keepC hB2 e1
      replace e2 := keepC hB2 e2
      have hO6 := HOr.out _ hB2
      have hS6 := hid (HSr.out _ hB2)
      have hgs2 := hB2.size
      clear HOr HSr
      replace hB := below_of hB hB2 hB.size
      clear hB2 
      have hs6 := hB.size
      replace hgs : gO ≤ w2.heap.size := Nat.le_trans hgs hgs2
      cases hP : (Pl.spread p k la lb x y == Pl.spread p k ma mb x y) with
      | true =>
        have hl := hid (hP1.out (by first | exact hP | simp [hP]))
        clear hP1 hP2
        go_wp2_with (at_builtin; refine wp_push rfl _ _ 38 rfl (gO) 28 3 24 (.agg #[.int .i64 0, .int .i64 0, .int .i64 0]) Try.underlying38 info_ln rfl (by decide) (by decide) _ _ _ _ rfl (hO6.alloc _) (by have := hnl.out; omega) ⟨w2.heap.size, 0, none⟩ 1 [x, y, z] rfl rfl (new3 _ _ _ _ _) (by simp; omega) ?_; intro g5 c5 w5 hO5 hb5 hg5 hn5)
        have hO7 := hO5.cast (show ((L.take (q)).filter (fun m => Pl.spread p k la lb m.1 m.2.1 == Pl.spread p k ma mb m.1 m.2.1)).length + 1 = ((L.take (q + 1)).filter (fun m => Pl.spread p k la lb m.1 m.2.1 == Pl.spread p k ma mb m.1 m.2.1)).length by rw [hl.out]; simp) (show _ = Pl.flat3 ((L.take (q + 1)).filter (fun m => Pl.spread p k la lb m.1 m.2.1 == Pl.spread p k ma mb m.1 m.2.1)) by rw [hl.out, hq.out, Pl.app3])
        have hS7 := hid ((hS6.out.alloc (.cells #[.int .i64 x, .int .i64 y, .int .i64 z] 28)).grown hg5 (by simp; exact hne))
        have hne7 : g5 ≠ gS := by have h1 := hS6.out.lt; simp at hn5; omega
        replace c00 := cellOf hb5 (keepA (.cells #[.int .i64 x, .int .i64 y, .int .i64 z] 28) c00) (by first | (simp; done) | (simp; omega) | exact c00)
        replace c01 := cellOf hb5 (keepA (.cells #[.int .i64 x, .int .i64 y, .int .i64 z] 28) c01) (by first | (simp; done) | (simp; omega) | exact c01)
        replace c02 := cellOf hb5 (keepA (.cells #[.int .i64 x, .int .i64 y, .int .i64 z] 28) c02) (by first | (simp; done) | (simp; omega) | exact c02)
        replace c10 := cellOf hb5 (keepA (.cells #[.int .i64 x, .int .i64 y, .int .i64 z] 28) c10) (by first | (simp; done) | (simp; omega) | exact c10)
        replace c11 := cellOf hb5 (keepA (.cells #[.int .i64 x, .int .i64 y, .int .i64 z] 28) c11) (by first | (simp; done) | (simp; omega) | exact c11)
        replace c12 := cellOf hb5 (keepA (.cells #[.int .i64 x, .int .i64 y, .int .i64 z] 28) c12) (by first | (simp; done) | (simp; omega) | exact c12)
        have hB7 := (hB.alloc hs6 _).trans (hb5.mono hgO)
        have hgs5 : gO ≤ w5.heap.size := by have h1 := hb5.size; simp at h1; omega
        clear hO5 hb5 hg5 hn5 hO6 hS6 hB
        go_roundw
        case rel => exact ⟨q + 1, g5, c5, by omega, by go_num, by rw [hl.out]; simp, hO7, hS7, hne7, hgs5, c00, c01, c02, c10, c11, c12, hB7⟩
        case measure => simp [intOf]; omega
      | false =>
        have hl := hid (hP2.out (by first | exact hP | simp [hP]))
        clear hP1 hP2
        go_wp2_with fail
        go_roundw
        case rel => exact ⟨q + 1, gq, cq, by omega, by go_num, by rw [hl.out], by rw [hl.out]; exact hO6, hS6, hne, hgs, c00, c01, c02, c10, c11, c12, hB⟩
        case measure => simp [intOf]; omega
    · go_wp2_with fail
      go_ret2
      have ht := Pl.take_all (P := fun m => Pl.spread p k la lb m.1 m.2.1 == Pl.spread p k ma mb m.1 m.2.1) (show L.length ≤ q by omega)
      rw [ht, ← HL.out, Pl.lnsW_and] at hO
      exact ⟨gq, cq, by rw [ht, ← HL.out, Pl.lnsW_and]; rfl, hO.low hgO, hB⟩
theorem sBisectorsOf_err (p k la lb lc ma mb mc : Int) (w : World) (h0 : ¬ Pl.bisC p k la lb lc ma mb mc = 0) :
    Calls Try.prog 25 #[.int .i64 p, .int .i64 k, .agg #[.int .i64 la, .int .i64 lb, .int .i64 lc], .agg #[.int .i64 ma, .int .i64 mb, .int .i64 mc]] w fun e w' => e = .returned (.tuple #[.slice none 0 0, .int .i64 (Pl.bisC p k la lb lc ma mb mc)]) ∧ Below w.heap.size w w' := by
  by_cases h1 : Pl.twoL p k la lb lc ma mb mc = 0
  · have hc := Pl.bisC_par h1 h0
    obtain ⟨hpar, hcc⟩ := hc
    have HC := hid hcc
    clear hcc h0
    have hk2 := Pl.twoL_ok h1
    have hv := hid (Pl.ask_ok hk2.1)
    have hp := Pl.field_bd hv.out.1
    obtain ⟨hp1, hp2⟩ := hp
    have hv2 := hv.out.2
    simp only [Bool.and_eq_true] at hv2
    obtain ⟨⟨la1, la2, lb1, lb2, lc1, lc2, hl⟩, ma1, ma2, mb1, mb2, mc1, mc2, hm⟩ := Pl.lines2_bd hv2.2
    clear hv2 hl hm hk2
    have hf := hv.out.1
    go_enter Try.func25, Try.ntmps25
    go_wp2_with fail
    refine (l03Both_any _ _ _ _ _ _ _ _ _).mono ?_
    rintro e w1 ⟨rfl, hb⟩
    have c00 : w1.cell? ⟨w.heap.size, 0, none⟩ = some (.int .i64 la) := keepC hb (by go_simp)
    have c01 : w1.cell? ⟨w.heap.size, 1, none⟩ = some (.int .i64 lb) := keepC hb (by go_simp)
    have c02 : w1.cell? ⟨w.heap.size, 2, none⟩ = some (.int .i64 lc) := keepC hb (by go_simp)
    have c10 : w1.cell? ⟨w.heap.size + 1, 0, none⟩ = some (.int .i64 ma) := keepC hb (by go_simp)
    have c11 : w1.cell? ⟨w.heap.size + 1, 1, none⟩ = some (.int .i64 mb) := keepC hb (by go_simp)
    have c12 : w1.cell? ⟨w.heap.size + 1, 2, none⟩ = some (.int .i64 mc) := keepC hb (by go_simp)
    have hB : Below w.heap.size w w1 := below_of (by go_grown) hb (by simp <;> omega)
    clear hb
    go_wp2_with fail
    refine (l01Meet_z _ _ _ _ _ _ _ _ hf (by omega) (by omega) (by omega) (by omega) (by omega) (by omega) (by omega) (by omega) (by omega) (by omega) (by omega) (by omega) hpar).mono ?_
    rintro e w2 ⟨rfl, hb⟩
    replace c00 := keepA (.cells #[.int .i64 0, .int .i64 0] 24) (keepC hb c00)
    replace c01 := keepA (.cells #[.int .i64 0, .int .i64 0] 24) (keepC hb c01)
    replace c02 := keepA (.cells #[.int .i64 0, .int .i64 0] 24) (keepC hb c02)
    replace c10 := keepA (.cells #[.int .i64 0, .int .i64 0] 24) (keepC hb c10)
    replace c11 := keepA (.cells #[.int .i64 0, .int .i64 0] 24) (keepC hb c11)
    replace c12 := keepA (.cells #[.int .i64 0, .int .i64 0] 24) (keepC hb c12)
    replace hB := below_of hB hb hB.size
    replace hB := hB.alloc hB.size (.cells #[.int .i64 0, .int .i64 0] 24)
    clear hb
    go_wp2_with fail
    go_ret2
    exact ⟨by rw [HC.out]; rfl, hB⟩
  · have HC := hid (Pl.bisC_err h1)
    have hne : (Pl.twoL p k la lb lc ma mb mc != 0) = true := by simpa using h1
    clear h0 h1
    go_enter Try.func25, Try.ntmps25
    go_wp2_with fail
    refine (l03Both_any _ _ _ _ _ _ _ _ _).mono ?_
    rintro e w1 ⟨rfl, hb⟩
    have hB : Below w.heap.size w w1 := below_of (by go_grown) hb (by simp <;> omega)
    clear hb
    go_wp2_with fail
    go_ret2
    exact ⟨by rw [HC.out]; rfl, hB⟩
end Go.Proofs.Ytommkkgkfjmhdaa
