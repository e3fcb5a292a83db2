/- Contracts: spreads of triangles: both sides. -/
import Derived.Test.YtbjcbbnfgfmllaaO4
import Derived.Test.YtbjcbbnfgfmllaaPlA
import Derived.Test.YtbjcbbnfgfmllaaOwn
set_option linter.unusedVariables false
set_option linter.unusedSimpArgs false
set_option maxHeartbeats 1000000
set_option maxRecDepth 100000
namespace Go.Proofs.Ytbjcbbnfgfmllaa
open Go.RowKit
theorem SpreadsOfTriangle_ok (p k ax ay bx by_ cx cy : Int) (w : World) (h0 : Pl.triC p k ax ay bx by_ cx cy = 0) :
    Calls Try.prog 16 #[.int .i64 p, .int .i64 k, .agg #[.int .i64 ax, .int .i64 ay], .agg #[.int .i64 bx, .int .i64 by_], .agg #[.int .i64 cx, .int .i64 cy]] w fun e w' => ∃ g c, e = .returned (.tuple #[.slice (some ⟨g, 0, none⟩) (Pl.sot p k ax ay bx by_ cx cy).length c, .int .i64 0]) ∧ Own w' (w.heap.size) 2 1 g (Pl.sot p k ax ay bx by_ cx cy).length c (Pl.sot p k ax ay bx by_ cx cy) ∧ Below w.heap.size w w' := by
  have hk := Pl.triC_ok h0
  have hv := hid (Pl.ask_ok hk.1)
  have hp := Pl.field_bd hv.out.1
  obtain ⟨hp1, hp2⟩ := hp
  have hv2 := hv.out.2
  simp only [Bool.and_eq_true] at hv2
  obtain ⟨⟨ax1, ax2, ay1, ay2⟩, ⟨bx1, bx2, by_1, by_2⟩, cx1, cx2, cy1, cy2⟩ := Pl.pts3_bd hv2.2
  clear hv2
  have hf := hv.out.1
  have hs := hid (Pl.triC_sym h0)
  clear hk
  have ht0 := Pl.sat_t hs.out.1 hs.out.2.1
  obtain ⟨hb0, hvv0⟩ := ht0
  have ht1 := Pl.sat_t hs.out.2.2.1 hs.out.2.2.2.1
  obtain ⟨hb1, hvv1⟩ := ht1
  have ht2 := Pl.sat_t hs.out.2.2.2.2.1 hs.out.2.2.2.2.2
  obtain ⟨hb2, hvv2⟩ := ht2
  go_enter Try.func16, Try.ntmps16
  go_wp2_with fail
  refine (spreadTriangle_any _ _ _ _ _ _ _ _ _).mono ?_
  rintro e w1 ⟨rfl, hb⟩
  have c00 : w1.cell? ⟨w.heap.size, 0, none⟩ = some (.int .i64 ax) := keepC hb (by go_simp)
  have c01 : w1.cell? ⟨w.heap.size, 1, none⟩ = some (.int .i64 ay) := keepC hb (by go_simp)
  have c10 : w1.cell? ⟨w.heap.size + 1, 0, none⟩ = some (.int .i64 bx) := keepC hb (by go_simp)
  have c11 : w1.cell? ⟨w.heap.size + 1, 1, none⟩ = some (.int .i64 by_) := keepC hb (by go_simp)
  have c20 : w1.cell? ⟨w.heap.size + 1 + 1, 0, none⟩ = some (.int .i64 cx) := keepC hb (by go_simp)
  have c21 : w1.cell? ⟨w.heap.size + 1 + 1, 1, none⟩ = some (.int .i64 cy) := keepC hb (by go_simp)
  have hB : Below w.heap.size w w1 := below_of (by go_grown) hb (by simp <;> omega)
  clear hb
  go_wp2_with (go_at_call 80; refine (spreadAt_any _ _ _ _ _ _ _ _ _ hf (by omega) (by omega) (by omega) (by omega) (by omega) (by omega) (by omega) (by omega) (by omega) (by omega) (by omega) (by omega)).mono ?_; rintro e w' ⟨rfl, hbn⟩; replace c00 := keepC hbn c00; replace c01 := keepC hbn c01; replace c10 := keepC hbn c10; replace c11 := keepC hbn c11; replace c20 := keepC hbn c20; replace c21 := keepC hbn c21; replace hB := below_of hB hbn hB.size; clear hbn)
  go_ret2
  exact ⟨_, 3, rfl, Own.lit' _ _ _ _ _ 3 [(Pl.spreadP p k ax ay bx by_ cx cy), (Pl.spreadP p k bx by_ ax ay cx cy), (Pl.spreadP p k cx cy ax ay bx by_)] _ rfl rfl hB.size (by omega) rfl, hB.alloc hB.size _⟩
theorem SpreadsOfTriangle_err (p k ax ay bx by_ cx cy : Int) (w : World) (h0 : ¬ Pl.triC p k ax ay bx by_ cx cy = 0) :
    Calls Try.prog 16 #[.int .i64 p, .int .i64 k, .agg #[.int .i64 ax, .int .i64 ay], .agg #[.int .i64 bx, .int .i64 by_], .agg #[.int .i64 cx, .int .i64 cy]] w fun e w' => e = .returned (.tuple #[.slice none 0 0, .int .i64 (Pl.triC p k ax ay bx by_ cx cy)]) ∧ Below w.heap.size w w' := by
  have hne : (Pl.triC p k ax ay bx by_ cx cy != 0) = true := by simpa using h0
  clear h0
  go_enter Try.func16, Try.ntmps16
  go_wp2_with fail
  refine (spreadTriangle_any _ _ _ _ _ _ _ _ _).mono ?_
  rintro e w1 ⟨rfl, hb⟩
  have hB : Below w.heap.size w w1 := below_of (by go_grown) hb (by simp <;> omega)
  clear hb
  go_wp2_with fail
  go_ret2
  exact ⟨rfl, hB⟩
theorem sSpreadsOfTriangle_ok (p k ax ay bx by_ cx cy : Int) (w : World) (h0 : Pl.triC p k ax ay bx by_ cx cy = 0) :
    Calls Try.prog 17 #[.int .i64 p, .int .i64 k, .agg #[.int .i64 ax, .int .i64 ay], .agg #[.int .i64 bx, .int .i64 by_], .agg #[.int .i64 cx, .int .i64 cy]] w fun e w' => ∃ g c, e = .returned (.tuple #[.slice (some ⟨g, 0, none⟩) (Pl.sot p k ax ay bx by_ cx cy).length c, .int .i64 0]) ∧ Own w' (w.heap.size) 2 1 g (Pl.sot p k ax ay bx by_ cx cy).length c (Pl.sot p k ax ay bx by_ cx cy) ∧ Below w.heap.size w w' := by
  have hk := Pl.triC_ok h0
  have hv := hid (Pl.ask_ok hk.1)
  have hp := Pl.field_bd hv.out.1
  obtain ⟨hp1, hp2⟩ := hp
  have hv2 := hv.out.2
  simp only [Bool.and_eq_true] at hv2
  obtain ⟨⟨ax1, ax2, ay1, ay2⟩, ⟨bx1, bx2, by_1, by_2⟩, cx1, cx2, cy1, cy2⟩ := Pl.pts3_bd hv2.2
  clear hv2
  have hf := hv.out.1
  have hs := hid (Pl.triC_sym h0)
  clear hk
  go_enter Try.func17, Try.ntmps17
  go_wp2_with fail
  refine (l03Triangle_any _ _ _ _ _ _ _ _ _).mono ?_
  rintro e w1 ⟨rfl, hb⟩
  have c00 : w1.cell? ⟨w.heap.size, 0, none⟩ = some (.int .i64 ax) := keepC hb (by go_simp)
  have c01 : w1.cell? ⟨w.heap.size, 1, none⟩ = some (.int .i64 ay) := keepC hb (by go_simp)
  have c10 : w1.cell? ⟨w.heap.size + 1, 0, none⟩ = some (.int .i64 bx) := keepC hb (by go_simp)
  have c11 : w1.cell? ⟨w.heap.size + 1, 1, none⟩ = some (.int .i64 by_) := keepC hb (by go_simp)
  have c20 : w1.cell? ⟨w.heap.size + 1 + 1, 0, none⟩ = some (.int .i64 cx) := keepC hb (by go_simp)
  have c21 : w1.cell? ⟨w.heap.size + 1 + 1, 1, none⟩ = some (.int .i64 cy) := keepC hb (by go_simp)
  have hB : Below w.heap.size w w1 := below_of (by go_grown) hb (by simp <;> omega)
  clear hb
  go_wp2_with fail
  refine Reg.wp_region_grow (by kernel_rfl) 18 18 (fun _ => (#[.int .i64 0, .int .i64 0], 0)) (by kernel_rfl) ?_ ?_
  · intro k o h1 h2
    omega
  simp only [List.take_succ_cons, List.take_zero, List.drop_succ_cons, List.drop_zero]
  refine Reg.wpG_step (v := ?vr1x0) (fun wq hq => ?gr1x0) ?kr1x0
  case gr1x0 => (have q0 := keepC hq c00; have q1 := keepC hq c01; have q2 := keepC hq c10; have q3 := keepC hq c11; have q4 := keepC hq c20; have q5 := keepC hq c21; refine Reg.gAt_val ?_; go_simp; first | done | (with_reducible rfl) | rfl)
  try simp only [Act.put, List.setIfInBounds_toArray, List.set_cons_zero, List.set_cons_succ]
  refine Reg.wpG_step (v := ?vr1x1) (fun wq hq => ?gr1x1) ?kr1x1
  case gr1x1 => (have q0 := keepC hq c00; have q1 := keepC hq c01; have q2 := keepC hq c10; have q3 := keepC hq c11; have q4 := keepC hq c20; have q5 := keepC hq c21; refine Reg.gAt_val ?_; go_simp; first | done | (with_reducible rfl) | rfl)
  try simp only [Act.put, List.setIfInBounds_toArray, List.set_cons_zero, List.set_cons_succ]
  refine Reg.wpG_step (v := ?vr1x2) (fun wq hq => ?gr1x2) ?kr1x2
  case gr1x2 => (have q0 := keepC hq c00; have q1 := keepC hq c01; have q2 := keepC hq c10; have q3 := keepC hq c11; have q4 := keepC hq c20; have q5 := keepC hq c21; refine Reg.gAt_val ?_; go_simp; first | done | (with_reducible rfl) | rfl)
  try simp only [Act.put, List.setIfInBounds_toArray, List.set_cons_zero, List.set_cons_succ]
  refine Reg.wpG_step (v := ?vr1x3) (fun wq hq => ?gr1x3) ?kr1x3
  case gr1x3 => (have q0 := keepC hq c00; have q1 := keepC hq c01; have q2 := keepC hq c10; have q3 := keepC hq c11; have q4 := keepC hq c20; have q5 := keepC hq c21; refine Reg.gAt_val ?_; go_simp; first | done | (with_reducible rfl) | rfl)
  try simp only [Act.put, List.setIfInBounds_toArray, List.set_cons_zero, List.set_cons_succ]
  refine Reg.wpG_step (v := ?vr1x4) (fun wq hq => ?gr1x4) ?kr1x4
  case gr1x4 => (have q0 := keepC hq c00; have q1 := keepC hq c01; have q2 := keepC hq c10; have q3 := keepC hq c11; have q4 := keepC hq c20; have q5 := keepC hq c21; refine Reg.gAt_val ?_; go_simp; first | done | (with_reducible rfl) | rfl)
  try simp only [Act.put, List.setIfInBounds_toArray, List.set_cons_zero, List.set_cons_succ]
  refine Reg.wpG_step (v := .int .i64 (Pl.spreadP p k ax ay bx by_ cx cy)) (fun wq hq => ?gr1x5) ?kr1x5
  case gr1x5 => (unfold Reg.gAt; go_simp; refine Reg.quiet_enter ?_; exact l03At_any _ _ _ _ _ _ _ _ _ hf (by omega) (by omega) (by omega) (by omega) (by omega) (by omega) (by omega) (by omega) (by omega) (by omega) (by omega) (by omega))
  try simp only [Act.put, List.setIfInBounds_toArray, List.set_cons_zero, List.set_cons_succ]
  refine Reg.wpG_step (v := ?vr1x6) (fun wq hq => ?gr1x6) ?kr1x6
  case gr1x6 => (have q0 := keepC hq c00; have q1 := keepC hq c01; have q2 := keepC hq c10; have q3 := keepC hq c11; have q4 := keepC hq c20; have q5 := keepC hq c21; refine Reg.gAt_val ?_; go_simp; first | done | (with_reducible rfl) | rfl)
  try simp only [Act.put, List.setIfInBounds_toArray, List.set_cons_zero, List.set_cons_succ]
  refine Reg.wpG_step (v := ?vr1x7) (fun wq hq => ?gr1x7) ?kr1x7
  case gr1x7 => (have q0 := keepC hq c00; have q1 := keepC hq c01; have q2 := keepC hq c10; have q3 := keepC hq c11; have q4 := keepC hq c20; have q5 := keepC hq c21; refine Reg.gAt_val ?_; go_simp; first | done | (with_reducible rfl) | rfl)
  try simp only [Act.put, List.setIfInBounds_toArray, List.set_cons_zero, List.set_cons_succ]
  refine Reg.wpG_step (v := ?vr1x8) (fun wq hq => ?gr1x8) ?kr1x8
  case gr1x8 => (have q0 := keepC hq c00; have q1 := keepC hq c01; have q2 := keepC hq c10; have q3 := keepC hq c11; have q4 := keepC hq c20; have q5 := keepC hq c21; refine Reg.gAt_val ?_; go_simp; first | done | (with_reducible rfl) | rfl)
  try simp only [Act.put, List.setIfInBounds_toArray, List.set_cons_zero, List.set_cons_succ]
  refine Reg.wpG_step (v := ?vr1x9) (fun wq hq => ?gr1x9) ?kr1x9
  case gr1x9 => (have q0 := keepC hq c00; have q1 := keepC hq c01; have q2 := keepC hq c10; have q3 := keepC hq c11; have q4 := keepC hq c20; have q5 := keepC hq c21; refine Reg.gAt_val ?_; go_simp; first | done | (with_reducible rfl) | rfl)
  try simp only [Act.put, List.setIfInBounds_toArray, List.set_cons_zero, List.set_cons_succ]
  refine Reg.wpG_step (v := ?vr1x10) (fun wq hq => ?gr1x10) ?kr1x10
  case gr1x10 => (have q0 := keepC hq c00; have q1 := keepC hq c01; have q2 := keepC hq c10; have q3 := keepC hq c11; have q4 := keepC hq c20; have q5 := keepC hq c21; refine Reg.gAt_val ?_; go_simp; first | done | (with_reducible rfl) | rfl)
  try simp only [Act.put, List.setIfInBounds_toArray, List.set_cons_zero, List.set_cons_succ]
  refine Reg.wpG_step (v := .int .i64 (Pl.spreadP p k bx by_ ax ay cx cy)) (fun wq hq => ?gr1x11) ?kr1x11
  case gr1x11 => (unfold Reg.gAt; go_simp; refine Reg.quiet_enter ?_; exact l03At_any _ _ _ _ _ _ _ _ _ hf (by omega) (by omega) (by omega) (by omega) (by omega) (by omega) (by omega) (by omega) (by omega) (by omega) (by omega) (by omega))
  try simp only [Act.put, List.setIfInBounds_toArray, List.set_cons_zero, List.set_cons_succ]
  refine Reg.wpG_step (v := ?vr1x12) (fun wq hq => ?gr1x12) ?kr1x12
  case gr1x12 => (have q0 := keepC hq c00; have q1 := keepC hq c01; have q2 := keepC hq c10; have q3 := keepC hq c11; have q4 := keepC hq c20; have q5 := keepC hq c21; refine Reg.gAt_val ?_; go_simp; first | done | (with_reducible rfl) | rfl)
  try simp only [Act.put, List.setIfInBounds_toArray, List.set_cons_zero, List.set_cons_succ]
  refine Reg.wpG_step (v := ?vr1x13) (fun wq hq => ?gr1x13) ?kr1x13
  case gr1x13 => (have q0 := keepC hq c00; have q1 := keepC hq c01; have q2 := keepC hq c10; have q3 := keepC hq c11; have q4 := keepC hq c20; have q5 := keepC hq c21; refine Reg.gAt_val ?_; go_simp; first | done | (with_reducible rfl) | rfl)
  try simp only [Act.put, List.setIfInBounds_toArray, List.set_cons_zero, List.set_cons_succ]
  refine Reg.wpG_step (v := ?vr1x14) (fun wq hq => ?gr1x14) ?kr1x14
  case gr1x14 => (have q0 := keepC hq c00; have q1 := keepC hq c01; have q2 := keepC hq c10; have q3 := keepC hq c11; have q4 := keepC hq c20; have q5 := keepC hq c21; refine Reg.gAt_val ?_; go_simp; first | done | (with_reducible rfl) | rfl)
  try simp only [Act.put, List.setIfInBounds_toArray, List.set_cons_zero, List.set_cons_succ]
  refine Reg.wpG_step (v := ?vr1x15) (fun wq hq => ?gr1x15) ?kr1x15
  case gr1x15 => (have q0 := keepC hq c00; have q1 := keepC hq c01; have q2 := keepC hq c10; have q3 := keepC hq c11; have q4 := keepC hq c20; have q5 := keepC hq c21; refine Reg.gAt_val ?_; go_simp; first | done | (with_reducible rfl) | rfl)
  try simp only [Act.put, List.setIfInBounds_toArray, List.set_cons_zero, List.set_cons_succ]
  refine Reg.wpG_step (v := ?vr1x16) (fun wq hq => ?gr1x16) ?kr1x16
  case gr1x16 => (have q0 := keepC hq c00; have q1 := keepC hq c01; have q2 := keepC hq c10; have q3 := keepC hq c11; have q4 := keepC hq c20; have q5 := keepC hq c21; refine Reg.gAt_val ?_; go_simp; first | done | (with_reducible rfl) | rfl)
  try simp only [Act.put, List.setIfInBounds_toArray, List.set_cons_zero, List.set_cons_succ]
  refine Reg.wpG_step (v := .int .i64 (Pl.spreadP p k cx cy ax ay bx by_)) (fun wq hq => ?gr1x17) ?kr1x17
  case gr1x17 => (unfold Reg.gAt; go_simp; refine Reg.quiet_enter ?_; exact l03At_any _ _ _ _ _ _ _ _ _ hf (by omega) (by omega) (by omega) (by omega) (by omega) (by omega) (by omega) (by omega) (by omega) (by omega) (by omega) (by omega))
  try simp only [Act.put, List.setIfInBounds_toArray, List.set_cons_zero, List.set_cons_succ]
  intro w2 g hB2 hg hd
  clear hg hd
  change wpList _ _ _ _ (Reg.putPtrs _ g [] _) _
  simp only [Reg.putPtrs]
  replace c00 := keepC hB2 c00
  replace c01 := keepC hB2 c01
  replace c10 := keepC hB2 c10
  replace c11 := keepC hB2 c11
  replace c20 := keepC hB2 c20
  replace c21 := keepC hB2 c21
  replace hB := below_of hB hB2 hB.size
  clear hB2 
  go_wp2_with fail
  go_ret2
  exact ⟨_, 3, rfl, Own.lit' _ _ _ _ _ 3 [(Pl.spreadP p k ax ay bx by_ cx cy), (Pl.spreadP p k bx by_ ax ay cx cy), (Pl.spreadP p k cx cy ax ay bx by_)] _ rfl rfl hB.size (by omega) rfl, hB.alloc hB.size _⟩
theorem sSpreadsOfTriangle_err (p k ax ay bx by_ cx cy : Int) (w : World) (h0 : ¬ Pl.triC p k ax ay bx by_ cx cy = 0) :
    Calls Try.prog 17 #[.int .i64 p, .int .i64 k, .agg #[.int .i64 ax, .int .i64 ay], .agg #[.int .i64 bx, .int .i64 by_], .agg #[.int .i64 cx, .int .i64 cy]] w fun e w' => e = .returned (.tuple #[.slice none 0 0, .int .i64 (Pl.triC p k ax ay bx by_ cx cy)]) ∧ Below w.heap.size w w' := by
  have hne : (Pl.triC p k ax ay bx by_ cx cy != 0) = true := by simpa using h0
  clear h0
  go_enter Try.func17, Try.ntmps17
  go_wp2_with fail
  refine (l03Triangle_any _ _ _ _ _ _ _ _ _).mono ?_
  rintro e w1 ⟨rfl, hb⟩
  have hB : Below w.heap.size w w1 := below_of (by go_grown) hb (by simp <;> omega)
  clear hb
  go_wp2_with fail
  go_ret2
  exact ⟨rfl, hB⟩
end Go.Proofs.Ytbjcbbnfgfmllaa
