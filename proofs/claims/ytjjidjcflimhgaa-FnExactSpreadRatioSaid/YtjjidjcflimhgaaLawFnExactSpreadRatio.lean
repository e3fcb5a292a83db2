/- FnExactSpreadRatio: the walk. -/
import Derived.Test.YtjjidjcflimhgaaO4
import Derived.Test.YtjjidjcflimhgaaReg
set_option linter.unusedVariables false
set_option linter.unusedSimpArgs false
set_option maxHeartbeats 2000000
set_option maxRecDepth 100000
namespace Go.Proofs.Ytjjidjcflimhgaa.fnExactSpreadRatio
open Go.RowKit
theorem walk (p k ax ay bx by_ cx cy : Int) (_ : (Lit.int .i64 p).wf = true) (_ : (Lit.int .i64 k).wf = true) (_ : (Lit.int .i64 ax).wf = true) (_ : (Lit.int .i64 ay).wf = true) (_ : (Lit.int .i64 bx).wf = true) (_ : (Lit.int .i64 by_).wf = true) (_ : (Lit.int .i64 cx).wf = true) (_ : (Lit.int .i64 cy).wf = true) (w : World) : Calls Try.prog 13 #[.int .i64 p, .int .i64 k, .agg #[.int .i64 ax, .int .i64 ay], .agg #[.int .i64 bx, .int .i64 by_], .agg #[.int .i64 cx, .int .i64 cy]] w fun e w' => e = .returned (.bool true) ∧ Below w.heap.size w w' := by
  go_enter Try.func13, Try.ntmps13
  go_wp2_with fail
  generalize hW : (World.alloc (World.alloc (World.alloc w (.cells #[.int .i64 ax, .int .i64 ay] 23)) (.cells #[.int .i64 bx, .int .i64 by_] 23)) (.cells #[.int .i64 cx, .int .i64 cy] 23)) = W
  have d00 : W.cell? ⟨w.heap.size, 0, none⟩ = some (.int .i64 ax) := by subst hW; go_simp
  have d01 : W.cell? ⟨w.heap.size, 1, none⟩ = some (.int .i64 ay) := by subst hW; go_simp
  have d10 : W.cell? ⟨w.heap.size + 1, 0, none⟩ = some (.int .i64 bx) := by subst hW; go_simp
  have d11 : W.cell? ⟨w.heap.size + 1, 1, none⟩ = some (.int .i64 by_) := by subst hW; go_simp
  have d20 : W.cell? ⟨w.heap.size + 1 + 1, 0, none⟩ = some (.int .i64 cx) := by subst hW; go_simp
  have d21 : W.cell? ⟨w.heap.size + 1 + 1, 1, none⟩ = some (.int .i64 cy) := by subst hW; go_simp
  have hB : Below w.heap.size w W := by subst hW; go_grown
  clear hW
  refine Reg.wp_region_grow (by kernel_rfl) 14 14 (fun _ => (#[.int .i64 0, .int .i64 0], 0)) (by kernel_rfl) ?_ ?_
  · intro k o h1 h2
    omega
  simp only [List.take_succ_cons, List.take_zero, List.drop_succ_cons, List.drop_zero]
  refine Reg.wpG_step (v := ?vr37x0) (fun wq hq => ?gr37x0) ?kr37x0
  case gr37x0 => (have q0 := keepC hq d00; have q1 := keepC hq d01; have q2 := keepC hq d10; have q3 := keepC hq d11; have q4 := keepC hq d20; have q5 := keepC hq d21; refine Reg.gAt_val ?_; go_simp; first | done | (with_reducible rfl) | rfl)
  try simp only [Act.put, List.setIfInBounds_toArray, List.set_cons_zero, List.set_cons_succ]
  refine Reg.wpG_step (v := ?vr37x1) (fun wq hq => ?gr37x1) ?kr37x1
  case gr37x1 => (have q0 := keepC hq d00; have q1 := keepC hq d01; have q2 := keepC hq d10; have q3 := keepC hq d11; have q4 := keepC hq d20; have q5 := keepC hq d21; refine Reg.gAt_val ?_; go_simp; first | done | (with_reducible rfl) | rfl)
  try simp only [Act.put, List.setIfInBounds_toArray, List.set_cons_zero, List.set_cons_succ]
  refine Reg.wpG_step (v := ?vr37x2) (fun wq hq => ?gr37x2) ?kr37x2
  case gr37x2 => (have q0 := keepC hq d00; have q1 := keepC hq d01; have q2 := keepC hq d10; have q3 := keepC hq d11; have q4 := keepC hq d20; have q5 := keepC hq d21; refine Reg.gAt_val ?_; go_simp; first | done | (with_reducible rfl) | rfl)
  try simp only [Act.put, List.setIfInBounds_toArray, List.set_cons_zero, List.set_cons_succ]
  refine Reg.wpG_step (v := .agg #[.int .i64 ax, .int .i64 ay]) (fun wq hq => ?gr37x3) ?kr37x3
  case gr37x3 => (unfold Reg.gAt; go_simp; refine Reg.quiet_enter ?_; exact toPoint_any _ _ _)
  try simp only [Act.put, List.setIfInBounds_toArray, List.set_cons_zero, List.set_cons_succ]
  refine Reg.wpG_step (v := ?vr37x4) (fun wq hq => ?gr37x4) ?kr37x4
  case gr37x4 => (have q0 := keepC hq d00; have q1 := keepC hq d01; have q2 := keepC hq d10; have q3 := keepC hq d11; have q4 := keepC hq d20; have q5 := keepC hq d21; refine Reg.gAt_val ?_; go_simp; first | done | (with_reducible rfl) | rfl)
  try simp only [Act.put, List.setIfInBounds_toArray, List.set_cons_zero, List.set_cons_succ]
  refine Reg.wpG_step (v := .agg #[.int .i64 bx, .int .i64 by_]) (fun wq hq => ?gr37x5) ?kr37x5
  case gr37x5 => (unfold Reg.gAt; go_simp; refine Reg.quiet_enter ?_; exact toPoint_any _ _ _)
  try simp only [Act.put, List.setIfInBounds_toArray, List.set_cons_zero, List.set_cons_succ]
  refine Reg.wpG_step (v := ?vr37x6) (fun wq hq => ?gr37x6) ?kr37x6
  case gr37x6 => (have q0 := keepC hq d00; have q1 := keepC hq d01; have q2 := keepC hq d10; have q3 := keepC hq d11; have q4 := keepC hq d20; have q5 := keepC hq d21; refine Reg.gAt_val ?_; go_simp; first | done | (with_reducible rfl) | rfl)
  try simp only [Act.put, List.setIfInBounds_toArray, List.set_cons_zero, List.set_cons_succ]
  refine Reg.wpG_step (v := .agg #[.int .i64 cx, .int .i64 cy]) (fun wq hq => ?gr37x7) ?kr37x7
  case gr37x7 => (unfold Reg.gAt; go_simp; refine Reg.quiet_enter ?_; exact toPoint_any _ _ _)
  try simp only [Act.put, List.setIfInBounds_toArray, List.set_cons_zero, List.set_cons_succ]
  refine Reg.wpG_step (v := .tuple #[.int .i64 ((Pl.sratOf p k ax ay bx by_ cx cy).1), .int .i64 ((Pl.sratOf p k ax ay bx by_ cx cy).2)]) (fun wq hq => ?gr37x8) ?kr37x8
  case gr37x8 => (unfold Reg.gAt; go_simp; refine Reg.quiet_enter ?_; exact sSpreadRatio_any _ _ _ _ _ _ _ _ _)
  try simp only [Act.put, List.setIfInBounds_toArray, List.set_cons_zero, List.set_cons_succ]
  refine Reg.wpG_step (v := ?vr37x9) (fun wq hq => ?gr37x9) ?kr37x9
  case gr37x9 => (have q0 := keepC hq d00; have q1 := keepC hq d01; have q2 := keepC hq d10; have q3 := keepC hq d11; have q4 := keepC hq d20; have q5 := keepC hq d21; refine Reg.gAt_val ?_; go_simp; first | done | (with_reducible rfl) | rfl)
  try simp only [Act.put, List.setIfInBounds_toArray, List.set_cons_zero, List.set_cons_succ]
  refine Reg.wpG_step (v := ?vr37x10) (fun wq hq => ?gr37x10) ?kr37x10
  case gr37x10 => (have q0 := keepC hq d00; have q1 := keepC hq d01; have q2 := keepC hq d10; have q3 := keepC hq d11; have q4 := keepC hq d20; have q5 := keepC hq d21; refine Reg.gAt_val ?_; go_simp; first | done | (with_reducible rfl) | rfl)
  try simp only [Act.put, List.setIfInBounds_toArray, List.set_cons_zero, List.set_cons_succ]
  refine Reg.wpG_step (v := ?vr37x11) (fun wq hq => ?gr37x11) ?kr37x11
  case gr37x11 => (have q0 := keepC hq d00; have q1 := keepC hq d01; have q2 := keepC hq d10; have q3 := keepC hq d11; have q4 := keepC hq d20; have q5 := keepC hq d21; refine Reg.gAt_val ?_; go_simp; first | done | (with_reducible rfl) | rfl)
  try simp only [Act.put, List.setIfInBounds_toArray, List.set_cons_zero, List.set_cons_succ]
  refine Reg.wpG_step (v := ?vr37x12) (fun wq hq => ?gr37x12) ?kr37x12
  case gr37x12 => (have q0 := keepC hq d00; have q1 := keepC hq d01; have q2 := keepC hq d10; have q3 := keepC hq d11; have q4 := keepC hq d20; have q5 := keepC hq d21; refine Reg.gAt_val ?_; go_simp; first | done | (with_reducible rfl) | rfl)
  try simp only [Act.put, List.setIfInBounds_toArray, List.set_cons_zero, List.set_cons_succ]
  refine Reg.wpG_step (v := ?vr37x13) (fun wq hq => ?gr37x13) ?kr37x13
  case gr37x13 => (have q0 := keepC hq d00; have q1 := keepC hq d01; have q2 := keepC hq d10; have q3 := keepC hq d11; have q4 := keepC hq d20; have q5 := keepC hq d21; refine Reg.gAt_val ?_; go_simp; first | done | (with_reducible rfl) | rfl)
  try simp only [Act.put, List.setIfInBounds_toArray, List.set_cons_zero, List.set_cons_succ]
  intro w2 g hB2 hg hd
  clear hg hd
  change wpList _ _ _ _ (Reg.putPtrs _ g [] _) _
  simp only [Reg.putPtrs]
  replace d00 := keepC hB2 d00
  replace d01 := keepC hB2 d01
  replace d10 := keepC hB2 d10
  replace d11 := keepC hB2 d11
  replace d20 := keepC hB2 d20
  replace d21 := keepC hB2 d21
  replace hB := below_of hB hB2 hB.size
  clear hB2 
  go_wp2_with fail
  refine Reg.wp_region_grow (by kernel_rfl) 14 14 (fun _ => (#[.int .i64 0, .int .i64 0], 0)) (by kernel_rfl) ?_ ?_
  · intro k o h1 h2
    omega
  simp only [List.take_succ_cons, List.take_zero, List.drop_succ_cons, List.drop_zero]
  refine Reg.wpG_step (v := ?vr38x0) (fun wq hq => ?gr38x0) ?kr38x0
  case gr38x0 => (have q0 := keepC hq d00; have q1 := keepC hq d01; have q2 := keepC hq d10; have q3 := keepC hq d11; have q4 := keepC hq d20; have q5 := keepC hq d21; refine Reg.gAt_val ?_; go_simp; first | done | (with_reducible rfl) | rfl)
  try simp only [Act.put, List.setIfInBounds_toArray, List.set_cons_zero, List.set_cons_succ]
  refine Reg.wpG_step (v := ?vr38x1) (fun wq hq => ?gr38x1) ?kr38x1
  case gr38x1 => (have q0 := keepC hq d00; have q1 := keepC hq d01; have q2 := keepC hq d10; have q3 := keepC hq d11; have q4 := keepC hq d20; have q5 := keepC hq d21; refine Reg.gAt_val ?_; go_simp; first | done | (with_reducible rfl) | rfl)
  try simp only [Act.put, List.setIfInBounds_toArray, List.set_cons_zero, List.set_cons_succ]
  refine Reg.wpG_step (v := ?vr38x2) (fun wq hq => ?gr38x2) ?kr38x2
  case gr38x2 => (have q0 := keepC hq d00; have q1 := keepC hq d01; have q2 := keepC hq d10; have q3 := keepC hq d11; have q4 := keepC hq d20; have q5 := keepC hq d21; refine Reg.gAt_val ?_; go_simp; first | done | (with_reducible rfl) | rfl)
  try simp only [Act.put, List.setIfInBounds_toArray, List.set_cons_zero, List.set_cons_succ]
  refine Reg.wpG_step (v := .agg #[.int .i64 ax, .int .i64 ay]) (fun wq hq => ?gr38x3) ?kr38x3
  case gr38x3 => (unfold Reg.gAt; go_simp; refine Reg.quiet_enter ?_; exact toPoint_any _ _ _)
  try simp only [Act.put, List.setIfInBounds_toArray, List.set_cons_zero, List.set_cons_succ]
  refine Reg.wpG_step (v := ?vr38x4) (fun wq hq => ?gr38x4) ?kr38x4
  case gr38x4 => (have q0 := keepC hq d00; have q1 := keepC hq d01; have q2 := keepC hq d10; have q3 := keepC hq d11; have q4 := keepC hq d20; have q5 := keepC hq d21; refine Reg.gAt_val ?_; go_simp; first | done | (with_reducible rfl) | rfl)
  try simp only [Act.put, List.setIfInBounds_toArray, List.set_cons_zero, List.set_cons_succ]
  refine Reg.wpG_step (v := .agg #[.int .i64 bx, .int .i64 by_]) (fun wq hq => ?gr38x5) ?kr38x5
  case gr38x5 => (unfold Reg.gAt; go_simp; refine Reg.quiet_enter ?_; exact toPoint_any _ _ _)
  try simp only [Act.put, List.setIfInBounds_toArray, List.set_cons_zero, List.set_cons_succ]
  refine Reg.wpG_step (v := ?vr38x6) (fun wq hq => ?gr38x6) ?kr38x6
  case gr38x6 => (have q0 := keepC hq d00; have q1 := keepC hq d01; have q2 := keepC hq d10; have q3 := keepC hq d11; have q4 := keepC hq d20; have q5 := keepC hq d21; refine Reg.gAt_val ?_; go_simp; first | done | (with_reducible rfl) | rfl)
  try simp only [Act.put, List.setIfInBounds_toArray, List.set_cons_zero, List.set_cons_succ]
  refine Reg.wpG_step (v := .agg #[.int .i64 cx, .int .i64 cy]) (fun wq hq => ?gr38x7) ?kr38x7
  case gr38x7 => (unfold Reg.gAt; go_simp; refine Reg.quiet_enter ?_; exact toPoint_any _ _ _)
  try simp only [Act.put, List.setIfInBounds_toArray, List.set_cons_zero, List.set_cons_succ]
  refine Reg.wpG_step (v := .tuple #[.int .i64 ((Pl.sratOf p k ax ay bx by_ cx cy).1), .int .i64 ((Pl.sratOf p k ax ay bx by_ cx cy).2)]) (fun wq hq => ?gr38x8) ?kr38x8
  case gr38x8 => (unfold Reg.gAt; go_simp; refine Reg.quiet_enter ?_; exact SpreadRatio_any _ _ _ _ _ _ _ _ _)
  try simp only [Act.put, List.setIfInBounds_toArray, List.set_cons_zero, List.set_cons_succ]
  refine Reg.wpG_step (v := ?vr38x9) (fun wq hq => ?gr38x9) ?kr38x9
  case gr38x9 => (have q0 := keepC hq d00; have q1 := keepC hq d01; have q2 := keepC hq d10; have q3 := keepC hq d11; have q4 := keepC hq d20; have q5 := keepC hq d21; refine Reg.gAt_val ?_; go_simp; first | done | (with_reducible rfl) | rfl)
  try simp only [Act.put, List.setIfInBounds_toArray, List.set_cons_zero, List.set_cons_succ]
  refine Reg.wpG_step (v := ?vr38x10) (fun wq hq => ?gr38x10) ?kr38x10
  case gr38x10 => (have q0 := keepC hq d00; have q1 := keepC hq d01; have q2 := keepC hq d10; have q3 := keepC hq d11; have q4 := keepC hq d20; have q5 := keepC hq d21; refine Reg.gAt_val ?_; go_simp; first | done | (with_reducible rfl) | rfl)
  try simp only [Act.put, List.setIfInBounds_toArray, List.set_cons_zero, List.set_cons_succ]
  refine Reg.wpG_step (v := ?vr38x11) (fun wq hq => ?gr38x11) ?kr38x11
  case gr38x11 => (have q0 := keepC hq d00; have q1 := keepC hq d01; have q2 := keepC hq d10; have q3 := keepC hq d11; have q4 := keepC hq d20; have q5 := keepC hq d21; refine Reg.gAt_val ?_; go_simp; first | done | (with_reducible rfl) | rfl)
  try simp only [Act.put, List.setIfInBounds_toArray, List.set_cons_zero, List.set_cons_succ]
  refine Reg.wpG_step (v := ?vr38x12) (fun wq hq => ?gr38x12) ?kr38x12
  case gr38x12 => (have q0 := keepC hq d00; have q1 := keepC hq d01; have q2 := keepC hq d10; have q3 := keepC hq d11; have q4 := keepC hq d20; have q5 := keepC hq d21; refine Reg.gAt_val ?_; go_simp; first | done | (with_reducible rfl) | rfl)
  try simp only [Act.put, List.setIfInBounds_toArray, List.set_cons_zero, List.set_cons_succ]
  refine Reg.wpG_step (v := ?vr38x13) (fun wq hq => ?gr38x13) ?kr38x13
  case gr38x13 => (have q0 := keepC hq d00; have q1 := keepC hq d01; have q2 := keepC hq d10; have q3 := keepC hq d11; have q4 := keepC hq d20; have q5 := keepC hq d21; refine Reg.gAt_val ?_; go_simp; first | done | (with_reducible rfl) | rfl)
  try simp only [Act.put, List.setIfInBounds_toArray, List.set_cons_zero, List.set_cons_succ]
  intro w2 g hB2 hg hd
  clear hg hd
  change wpList _ _ _ _ (Reg.putPtrs _ g [] _) _
  simp only [Reg.putPtrs]
  replace d00 := keepC hB2 d00
  replace d01 := keepC hB2 d01
  replace d10 := keepC hB2 d10
  replace d11 := keepC hB2 d11
  replace d20 := keepC hB2 d20
  replace d21 := keepC hB2 d21
  replace hB := below_of hB hB2 hB.size
  clear hB2 
  go_wp2_with fail
  go_ret
  exact ⟨rfl, hB⟩
end Go.Proofs.Ytjjidjcflimhgaa.fnExactSpreadRatio
