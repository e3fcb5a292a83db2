/- FnExactDoubledArea: the walk. -/
import Derived.Test.YticicabbfbkbhaaG
import Derived.Test.YticicabbfbkbhaaReg
set_option linter.unusedVariables false
set_option linter.unusedSimpArgs false
set_option maxHeartbeats 2000000
namespace Go.Proofs.Yticicabbfbkbhaa.fnExactDoubledArea
open Go.RowKit
theorem walk (p ax ay bx by_ cx cy : Int) (_ : (Lit.int .i64 p).wf = true) (_ : (Lit.int .i64 ax).wf = true) (_ : (Lit.int .i64 ay).wf = true) (_ : (Lit.int .i64 bx).wf = true) (_ : (Lit.int .i64 by_).wf = true) (_ : (Lit.int .i64 cx).wf = true) (_ : (Lit.int .i64 cy).wf = true) (w : World) : Calls Try.prog 12 #[.int .i64 p, .agg #[.int .i64 ax, .int .i64 ay], .agg #[.int .i64 bx, .int .i64 by_], .agg #[.int .i64 cx, .int .i64 cy]] w fun e w' => e = .returned (.bool true) ∧ Below w.heap.size w w' := by
  go_enter Try.func12, Try.ntmps12
  go_wp2_with fail
  generalize hW : (World.alloc (World.alloc (World.alloc w (.cells #[.int .i64 ax, .int .i64 ay] 36)) (.cells #[.int .i64 bx, .int .i64 by_] 36)) (.cells #[.int .i64 cx, .int .i64 cy] 36)) = W
  have d00 : W.cell? ⟨w.heap.size, 0, none⟩ = some (.int .i64 ax) := by subst hW; go_simp
  have d01 : W.cell? ⟨w.heap.size, 1, none⟩ = some (.int .i64 ay) := by subst hW; go_simp
  have d10 : W.cell? ⟨w.heap.size + 1, 0, none⟩ = some (.int .i64 bx) := by subst hW; go_simp
  have d11 : W.cell? ⟨w.heap.size + 1, 1, none⟩ = some (.int .i64 by_) := by subst hW; go_simp
  have d20 : W.cell? ⟨w.heap.size + 1 + 1, 0, none⟩ = some (.int .i64 cx) := by subst hW; go_simp
  have d21 : W.cell? ⟨w.heap.size + 1 + 1, 1, none⟩ = some (.int .i64 cy) := by subst hW; go_simp
  have hB : Below w.heap.size w W := by subst hW; go_grown
  clear hW
  refine Reg.wp_region_grow (by kernel_rfl) 13 13 (fun _ => (#[.int .i64 0, .int .i64 0], 0)) (by kernel_rfl) ?_ ?_
  · intro k o h1 h2
    omega
  simp only [List.take_succ_cons, List.take_zero, List.drop_succ_cons, List.drop_zero]
  refine Reg.wpG_step (v := ?vr5x0) (fun wq hq => ?gr5x0) ?kr5x0
  case gr5x0 => (have q0 := keepC hq d00; have q1 := keepC hq d01; have q2 := keepC hq d10; have q3 := keepC hq d11; have q4 := keepC hq d20; have q5 := keepC hq d21; refine Reg.gAt_val ?_; go_simp; first | done | (with_reducible rfl) | rfl)
  try simp only [Act.put, List.setIfInBounds_toArray, List.set_cons_zero, List.set_cons_succ]
  refine Reg.wpG_step (v := ?vr5x1) (fun wq hq => ?gr5x1) ?kr5x1
  case gr5x1 => (have q0 := keepC hq d00; have q1 := keepC hq d01; have q2 := keepC hq d10; have q3 := keepC hq d11; have q4 := keepC hq d20; have q5 := keepC hq d21; refine Reg.gAt_val ?_; go_simp; first | done | (with_reducible rfl) | rfl)
  try simp only [Act.put, List.setIfInBounds_toArray, List.set_cons_zero, List.set_cons_succ]
  refine Reg.wpG_step (v := .agg #[.int .i64 ax, .int .i64 ay]) (fun wq hq => ?gr5x2) ?kr5x2
  case gr5x2 => (unfold Reg.gAt; go_simp; refine Reg.quiet_enter ?_; exact toPoint_any _ _ _)
  try simp only [Act.put, List.setIfInBounds_toArray, List.set_cons_zero, List.set_cons_succ]
  refine Reg.wpG_step (v := ?vr5x3) (fun wq hq => ?gr5x3) ?kr5x3
  case gr5x3 => (have q0 := keepC hq d00; have q1 := keepC hq d01; have q2 := keepC hq d10; have q3 := keepC hq d11; have q4 := keepC hq d20; have q5 := keepC hq d21; refine Reg.gAt_val ?_; go_simp; first | done | (with_reducible rfl) | rfl)
  try simp only [Act.put, List.setIfInBounds_toArray, List.set_cons_zero, List.set_cons_succ]
  refine Reg.wpG_step (v := .agg #[.int .i64 bx, .int .i64 by_]) (fun wq hq => ?gr5x4) ?kr5x4
  case gr5x4 => (unfold Reg.gAt; go_simp; refine Reg.quiet_enter ?_; exact toPoint_any _ _ _)
  try simp only [Act.put, List.setIfInBounds_toArray, List.set_cons_zero, List.set_cons_succ]
  refine Reg.wpG_step (v := ?vr5x5) (fun wq hq => ?gr5x5) ?kr5x5
  case gr5x5 => (have q0 := keepC hq d00; have q1 := keepC hq d01; have q2 := keepC hq d10; have q3 := keepC hq d11; have q4 := keepC hq d20; have q5 := keepC hq d21; refine Reg.gAt_val ?_; go_simp; first | done | (with_reducible rfl) | rfl)
  try simp only [Act.put, List.setIfInBounds_toArray, List.set_cons_zero, List.set_cons_succ]
  refine Reg.wpG_step (v := .agg #[.int .i64 cx, .int .i64 cy]) (fun wq hq => ?gr5x6) ?kr5x6
  case gr5x6 => (unfold Reg.gAt; go_simp; refine Reg.quiet_enter ?_; exact toPoint_any _ _ _)
  try simp only [Act.put, List.setIfInBounds_toArray, List.set_cons_zero, List.set_cons_succ]
  refine Reg.wpG_step (v := .tuple #[.int .i64 ((Pl.areaOf p ax ay bx by_ cx cy).1), .int .i64 ((Pl.areaOf p ax ay bx by_ cx cy).2)]) (fun wq hq => ?gr5x7) ?kr5x7
  case gr5x7 => (unfold Reg.gAt; go_simp; refine Reg.quiet_enter ?_; exact sDoubledArea_any _ _ _ _ _ _ _ _)
  try simp only [Act.put, List.setIfInBounds_toArray, List.set_cons_zero, List.set_cons_succ]
  refine Reg.wpG_step (v := ?vr5x8) (fun wq hq => ?gr5x8) ?kr5x8
  case gr5x8 => (have q0 := keepC hq d00; have q1 := keepC hq d01; have q2 := keepC hq d10; have q3 := keepC hq d11; have q4 := keepC hq d20; have q5 := keepC hq d21; refine Reg.gAt_val ?_; go_simp; first | done | (with_reducible rfl) | rfl)
  try simp only [Act.put, List.setIfInBounds_toArray, List.set_cons_zero, List.set_cons_succ]
  refine Reg.wpG_step (v := ?vr5x9) (fun wq hq => ?gr5x9) ?kr5x9
  case gr5x9 => (have q0 := keepC hq d00; have q1 := keepC hq d01; have q2 := keepC hq d10; have q3 := keepC hq d11; have q4 := keepC hq d20; have q5 := keepC hq d21; refine Reg.gAt_val ?_; go_simp; first | done | (with_reducible rfl) | rfl)
  try simp only [Act.put, List.setIfInBounds_toArray, List.set_cons_zero, List.set_cons_succ]
  refine Reg.wpG_step (v := ?vr5x10) (fun wq hq => ?gr5x10) ?kr5x10
  case gr5x10 => (have q0 := keepC hq d00; have q1 := keepC hq d01; have q2 := keepC hq d10; have q3 := keepC hq d11; have q4 := keepC hq d20; have q5 := keepC hq d21; refine Reg.gAt_val ?_; go_simp; first | done | (with_reducible rfl) | rfl)
  try simp only [Act.put, List.setIfInBounds_toArray, List.set_cons_zero, List.set_cons_succ]
  refine Reg.wpG_step (v := ?vr5x11) (fun wq hq => ?gr5x11) ?kr5x11
  case gr5x11 => (have q0 := keepC hq d00; have q1 := keepC hq d01; have q2 := keepC hq d10; have q3 := keepC hq d11; have q4 := keepC hq d20; have q5 := keepC hq d21; refine Reg.gAt_val ?_; go_simp; first | done | (with_reducible rfl) | rfl)
  try simp only [Act.put, List.setIfInBounds_toArray, List.set_cons_zero, List.set_cons_succ]
  refine Reg.wpG_step (v := ?vr5x12) (fun wq hq => ?gr5x12) ?kr5x12
  case gr5x12 => (have q0 := keepC hq d00; have q1 := keepC hq d01; have q2 := keepC hq d10; have q3 := keepC hq d11; have q4 := keepC hq d20; have q5 := keepC hq d21; refine Reg.gAt_val ?_; go_simp; first | done | (with_reducible rfl) | rfl)
  try simp only [Act.put, List.setIfInBounds_toArray, List.set_cons_zero, List.set_cons_succ]
  intro w2 g hB2 hg hd
  clear hg hd
  change wpList _ _ _ _ (Reg.putPtrs _ g [] _) _
  simp only [Reg.putPtrs]
  replace d00 := keepC hB2 d00
  replace d01 := keepC hB2 d01
  replace d10 := keepC hB2 d10
  replace d11 := keepC hB2 d11
  replace d20 := keepC hB2 d20
  replace d21 := keepC hB2 d21
  replace hB := below_of hB hB2 hB.size
  clear hB2 
  go_wp2_with fail
  refine Reg.wp_region_grow (by kernel_rfl) 13 13 (fun _ => (#[.int .i64 0, .int .i64 0], 0)) (by kernel_rfl) ?_ ?_
  · intro k o h1 h2
    omega
  simp only [List.take_succ_cons, List.take_zero, List.drop_succ_cons, List.drop_zero]
  refine Reg.wpG_step (v := ?vr6x0) (fun wq hq => ?gr6x0) ?kr6x0
  case gr6x0 => (have q0 := keepC hq d00; have q1 := keepC hq d01; have q2 := keepC hq d10; have q3 := keepC hq d11; have q4 := keepC hq d20; have q5 := keepC hq d21; refine Reg.gAt_val ?_; go_simp; first | done | (with_reducible rfl) | rfl)
  try simp only [Act.put, List.setIfInBounds_toArray, List.set_cons_zero, List.set_cons_succ]
  refine Reg.wpG_step (v := ?vr6x1) (fun wq hq => ?gr6x1) ?kr6x1
  case gr6x1 => (have q0 := keepC hq d00; have q1 := keepC hq d01; have q2 := keepC hq d10; have q3 := keepC hq d11; have q4 := keepC hq d20; have q5 := keepC hq d21; refine Reg.gAt_val ?_; go_simp; first | done | (with_reducible rfl) | rfl)
  try simp only [Act.put, List.setIfInBounds_toArray, List.set_cons_zero, List.set_cons_succ]
  refine Reg.wpG_step (v := .agg #[.int .i64 ax, .int .i64 ay]) (fun wq hq => ?gr6x2) ?kr6x2
  case gr6x2 => (unfold Reg.gAt; go_simp; refine Reg.quiet_enter ?_; exact toPoint_any _ _ _)
  try simp only [Act.put, List.setIfInBounds_toArray, List.set_cons_zero, List.set_cons_succ]
  refine Reg.wpG_step (v := ?vr6x3) (fun wq hq => ?gr6x3) ?kr6x3
  case gr6x3 => (have q0 := keepC hq d00; have q1 := keepC hq d01; have q2 := keepC hq d10; have q3 := keepC hq d11; have q4 := keepC hq d20; have q5 := keepC hq d21; refine Reg.gAt_val ?_; go_simp; first | done | (with_reducible rfl) | rfl)
  try simp only [Act.put, List.setIfInBounds_toArray, List.set_cons_zero, List.set_cons_succ]
  refine Reg.wpG_step (v := .agg #[.int .i64 bx, .int .i64 by_]) (fun wq hq => ?gr6x4) ?kr6x4
  case gr6x4 => (unfold Reg.gAt; go_simp; refine Reg.quiet_enter ?_; exact toPoint_any _ _ _)
  try simp only [Act.put, List.setIfInBounds_toArray, List.set_cons_zero, List.set_cons_succ]
  refine Reg.wpG_step (v := ?vr6x5) (fun wq hq => ?gr6x5) ?kr6x5
  case gr6x5 => (have q0 := keepC hq d00; have q1 := keepC hq d01; have q2 := keepC hq d10; have q3 := keepC hq d11; have q4 := keepC hq d20; have q5 := keepC hq d21; refine Reg.gAt_val ?_; go_simp; first | done | (with_reducible rfl) | rfl)
  try simp only [Act.put, List.setIfInBounds_toArray, List.set_cons_zero, List.set_cons_succ]
  refine Reg.wpG_step (v := .agg #[.int .i64 cx, .int .i64 cy]) (fun wq hq => ?gr6x6) ?kr6x6
  case gr6x6 => (unfold Reg.gAt; go_simp; refine Reg.quiet_enter ?_; exact toPoint_any _ _ _)
  try simp only [Act.put, List.setIfInBounds_toArray, List.set_cons_zero, List.set_cons_succ]
  refine Reg.wpG_step (v := .tuple #[.int .i64 ((Pl.areaOf p ax ay bx by_ cx cy).1), .int .i64 ((Pl.areaOf p ax ay bx by_ cx cy).2)]) (fun wq hq => ?gr6x7) ?kr6x7
  case gr6x7 => (unfold Reg.gAt; go_simp; refine Reg.quiet_enter ?_; exact DoubledArea_any _ _ _ _ _ _ _ _)
  try simp only [Act.put, List.setIfInBounds_toArray, List.set_cons_zero, List.set_cons_succ]
  refine Reg.wpG_step (v := ?vr6x8) (fun wq hq => ?gr6x8) ?kr6x8
  case gr6x8 => (have q0 := keepC hq d00; have q1 := keepC hq d01; have q2 := keepC hq d10; have q3 := keepC hq d11; have q4 := keepC hq d20; have q5 := keepC hq d21; refine Reg.gAt_val ?_; go_simp; first | done | (with_reducible rfl) | rfl)
  try simp only [Act.put, List.setIfInBounds_toArray, List.set_cons_zero, List.set_cons_succ]
  refine Reg.wpG_step (v := ?vr6x9) (fun wq hq => ?gr6x9) ?kr6x9
  case gr6x9 => (have q0 := keepC hq d00; have q1 := keepC hq d01; have q2 := keepC hq d10; have q3 := keepC hq d11; have q4 := keepC hq d20; have q5 := keepC hq d21; refine Reg.gAt_val ?_; go_simp; first | done | (with_reducible rfl) | rfl)
  try simp only [Act.put, List.setIfInBounds_toArray, List.set_cons_zero, List.set_cons_succ]
  refine Reg.wpG_step (v := ?vr6x10) (fun wq hq => ?gr6x10) ?kr6x10
  case gr6x10 => (have q0 := keepC hq d00; have q1 := keepC hq d01; have q2 := keepC hq d10; have q3 := keepC hq d11; have q4 := keepC hq d20; have q5 := keepC hq d21; refine Reg.gAt_val ?_; go_simp; first | done | (with_reducible rfl) | rfl)
  try simp only [Act.put, List.setIfInBounds_toArray, List.set_cons_zero, List.set_cons_succ]
  refine Reg.wpG_step (v := ?vr6x11) (fun wq hq => ?gr6x11) ?kr6x11
  case gr6x11 => (have q0 := keepC hq d00; have q1 := keepC hq d01; have q2 := keepC hq d10; have q3 := keepC hq d11; have q4 := keepC hq d20; have q5 := keepC hq d21; refine Reg.gAt_val ?_; go_simp; first | done | (with_reducible rfl) | rfl)
  try simp only [Act.put, List.setIfInBounds_toArray, List.set_cons_zero, List.set_cons_succ]
  refine Reg.wpG_step (v := ?vr6x12) (fun wq hq => ?gr6x12) ?kr6x12
  case gr6x12 => (have q0 := keepC hq d00; have q1 := keepC hq d01; have q2 := keepC hq d10; have q3 := keepC hq d11; have q4 := keepC hq d20; have q5 := keepC hq d21; refine Reg.gAt_val ?_; go_simp; first | done | (with_reducible rfl) | rfl)
  try simp only [Act.put, List.setIfInBounds_toArray, List.set_cons_zero, List.set_cons_succ]
  intro w2 g hB2 hg hd
  clear hg hd
  change wpList _ _ _ _ (Reg.putPtrs _ g [] _) _
  simp only [Reg.putPtrs]
  replace d00 := keepC hB2 d00
  replace d01 := keepC hB2 d01
  replace d10 := keepC hB2 d10
  replace d11 := keepC hB2 d11
  replace d20 := keepC hB2 d20
  replace d21 := keepC hB2 d21
  replace hB := below_of hB hB2 hB.size
  clear hB2 
  go_wp2_with fail
  go_ret
  exact ⟨rfl, hB⟩
end Go.Proofs.Yticicabbfbkbhaa.fnExactDoubledArea
