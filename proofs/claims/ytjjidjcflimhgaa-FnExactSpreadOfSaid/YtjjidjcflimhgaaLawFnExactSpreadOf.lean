/- FnExactSpreadOf: the walk. -/
import Derived.Test.YtjjidjcflimhgaaO2
import Derived.Test.YtjjidjcflimhgaaReg
set_option linter.unusedVariables false
set_option linter.unusedSimpArgs false
set_option maxHeartbeats 2000000
set_option maxRecDepth 100000
namespace Go.Proofs.Ytjjidjcflimhgaa.fnExactSpreadOf
open Go.RowKit
theorem walk (p k la lb lc ma mb mc : Int) (_ : (Lit.int .i64 p).wf = true) (_ : (Lit.int .i64 k).wf = true) (_ : (Lit.int .i64 la).wf = true) (_ : (Lit.int .i64 lb).wf = true) (_ : (Lit.int .i64 lc).wf = true) (_ : (Lit.int .i64 ma).wf = true) (_ : (Lit.int .i64 mb).wf = true) (_ : (Lit.int .i64 mc).wf = true) (w : World) : Calls Try.prog 7 #[.int .i64 p, .int .i64 k, .agg #[.int .i64 la, .int .i64 lb, .int .i64 lc], .agg #[.int .i64 ma, .int .i64 mb, .int .i64 mc]] w fun e w' => e = .returned (.bool true) ∧ Below w.heap.size w w' := by
  go_enter Try.func7, Try.ntmps7
  go_wp2_with fail
  generalize hW : (World.alloc (World.alloc w (.cells #[.int .i64 la, .int .i64 lb, .int .i64 lc] 22)) (.cells #[.int .i64 ma, .int .i64 mb, .int .i64 mc] 22)) = W
  have d00 : W.cell? ⟨w.heap.size, 0, none⟩ = some (.int .i64 la) := by subst hW; go_simp
  have d01 : W.cell? ⟨w.heap.size, 1, none⟩ = some (.int .i64 lb) := by subst hW; go_simp
  have d02 : W.cell? ⟨w.heap.size, 2, none⟩ = some (.int .i64 lc) := by subst hW; go_simp
  have d10 : W.cell? ⟨w.heap.size + 1, 0, none⟩ = some (.int .i64 ma) := by subst hW; go_simp
  have d11 : W.cell? ⟨w.heap.size + 1, 1, none⟩ = some (.int .i64 mb) := by subst hW; go_simp
  have d12 : W.cell? ⟨w.heap.size + 1, 2, none⟩ = some (.int .i64 mc) := by subst hW; go_simp
  have hB : Below w.heap.size w W := by subst hW; go_grown
  clear hW
  refine Reg.wp_region_grow (by kernel_rfl) 12 12 (fun _ => (#[.int .i64 0, .int .i64 0], 0)) (by kernel_rfl) ?_ ?_
  · intro k o h1 h2
    omega
  simp only [List.take_succ_cons, List.take_zero, List.drop_succ_cons, List.drop_zero]
  refine Reg.wpG_step (v := ?vr31x0) (fun wq hq => ?gr31x0) ?kr31x0
  case gr31x0 => (have q0 := keepC hq d00; have q1 := keepC hq d01; have q2 := keepC hq d02; have q3 := keepC hq d10; have q4 := keepC hq d11; have q5 := keepC hq d12; refine Reg.gAt_val ?_; go_simp; first | done | (with_reducible rfl) | rfl)
  try simp only [Act.put, List.setIfInBounds_toArray, List.set_cons_zero, List.set_cons_succ]
  refine Reg.wpG_step (v := ?vr31x1) (fun wq hq => ?gr31x1) ?kr31x1
  case gr31x1 => (have q0 := keepC hq d00; have q1 := keepC hq d01; have q2 := keepC hq d02; have q3 := keepC hq d10; have q4 := keepC hq d11; have q5 := keepC hq d12; refine Reg.gAt_val ?_; go_simp; first | done | (with_reducible rfl) | rfl)
  try simp only [Act.put, List.setIfInBounds_toArray, List.set_cons_zero, List.set_cons_succ]
  refine Reg.wpG_step (v := ?vr31x2) (fun wq hq => ?gr31x2) ?kr31x2
  case gr31x2 => (have q0 := keepC hq d00; have q1 := keepC hq d01; have q2 := keepC hq d02; have q3 := keepC hq d10; have q4 := keepC hq d11; have q5 := keepC hq d12; refine Reg.gAt_val ?_; go_simp; first | done | (with_reducible rfl) | rfl)
  try simp only [Act.put, List.setIfInBounds_toArray, List.set_cons_zero, List.set_cons_succ]
  refine Reg.wpG_step (v := .agg #[.int .i64 la, .int .i64 lb, .int .i64 lc]) (fun wq hq => ?gr31x3) ?kr31x3
  case gr31x3 => (unfold Reg.gAt; go_simp; refine Reg.quiet_enter ?_; exact toLine_any _ _ _ _)
  try simp only [Act.put, List.setIfInBounds_toArray, List.set_cons_zero, List.set_cons_succ]
  refine Reg.wpG_step (v := ?vr31x4) (fun wq hq => ?gr31x4) ?kr31x4
  case gr31x4 => (have q0 := keepC hq d00; have q1 := keepC hq d01; have q2 := keepC hq d02; have q3 := keepC hq d10; have q4 := keepC hq d11; have q5 := keepC hq d12; refine Reg.gAt_val ?_; go_simp; first | done | (with_reducible rfl) | rfl)
  try simp only [Act.put, List.setIfInBounds_toArray, List.set_cons_zero, List.set_cons_succ]
  refine Reg.wpG_step (v := .agg #[.int .i64 ma, .int .i64 mb, .int .i64 mc]) (fun wq hq => ?gr31x5) ?kr31x5
  case gr31x5 => (unfold Reg.gAt; go_simp; refine Reg.quiet_enter ?_; exact toLine_any _ _ _ _)
  try simp only [Act.put, List.setIfInBounds_toArray, List.set_cons_zero, List.set_cons_succ]
  refine Reg.wpG_step (v := .tuple #[.int .i64 ((Pl.spreadTo p k la lb lc ma mb mc).1), .int .i64 ((Pl.spreadTo p k la lb lc ma mb mc).2)]) (fun wq hq => ?gr31x6) ?kr31x6
  case gr31x6 => (unfold Reg.gAt; go_simp; refine Reg.quiet_enter ?_; exact sSpreadOf_any _ _ _ _ _ _ _ _ _)
  try simp only [Act.put, List.setIfInBounds_toArray, List.set_cons_zero, List.set_cons_succ]
  refine Reg.wpG_step (v := ?vr31x7) (fun wq hq => ?gr31x7) ?kr31x7
  case gr31x7 => (have q0 := keepC hq d00; have q1 := keepC hq d01; have q2 := keepC hq d02; have q3 := keepC hq d10; have q4 := keepC hq d11; have q5 := keepC hq d12; refine Reg.gAt_val ?_; go_simp; first | done | (with_reducible rfl) | rfl)
  try simp only [Act.put, List.setIfInBounds_toArray, List.set_cons_zero, List.set_cons_succ]
  refine Reg.wpG_step (v := ?vr31x8) (fun wq hq => ?gr31x8) ?kr31x8
  case gr31x8 => (have q0 := keepC hq d00; have q1 := keepC hq d01; have q2 := keepC hq d02; have q3 := keepC hq d10; have q4 := keepC hq d11; have q5 := keepC hq d12; refine Reg.gAt_val ?_; go_simp; first | done | (with_reducible rfl) | rfl)
  try simp only [Act.put, List.setIfInBounds_toArray, List.set_cons_zero, List.set_cons_succ]
  refine Reg.wpG_step (v := ?vr31x9) (fun wq hq => ?gr31x9) ?kr31x9
  case gr31x9 => (have q0 := keepC hq d00; have q1 := keepC hq d01; have q2 := keepC hq d02; have q3 := keepC hq d10; have q4 := keepC hq d11; have q5 := keepC hq d12; refine Reg.gAt_val ?_; go_simp; first | done | (with_reducible rfl) | rfl)
  try simp only [Act.put, List.setIfInBounds_toArray, List.set_cons_zero, List.set_cons_succ]
  refine Reg.wpG_step (v := ?vr31x10) (fun wq hq => ?gr31x10) ?kr31x10
  case gr31x10 => (have q0 := keepC hq d00; have q1 := keepC hq d01; have q2 := keepC hq d02; have q3 := keepC hq d10; have q4 := keepC hq d11; have q5 := keepC hq d12; refine Reg.gAt_val ?_; go_simp; first | done | (with_reducible rfl) | rfl)
  try simp only [Act.put, List.setIfInBounds_toArray, List.set_cons_zero, List.set_cons_succ]
  refine Reg.wpG_step (v := ?vr31x11) (fun wq hq => ?gr31x11) ?kr31x11
  case gr31x11 => (have q0 := keepC hq d00; have q1 := keepC hq d01; have q2 := keepC hq d02; have q3 := keepC hq d10; have q4 := keepC hq d11; have q5 := keepC hq d12; refine Reg.gAt_val ?_; go_simp; first | done | (with_reducible rfl) | rfl)
  try simp only [Act.put, List.setIfInBounds_toArray, List.set_cons_zero, List.set_cons_succ]
  intro w2 g hB2 hg hd
  clear hg hd
  change wpList _ _ _ _ (Reg.putPtrs _ g [] _) _
  simp only [Reg.putPtrs]
  replace d00 := keepC hB2 d00
  replace d01 := keepC hB2 d01
  replace d02 := keepC hB2 d02
  replace d10 := keepC hB2 d10
  replace d11 := keepC hB2 d11
  replace d12 := keepC hB2 d12
  replace hB := below_of hB hB2 hB.size
  clear hB2 
  go_wp2_with fail
  refine Reg.wp_region_grow (by kernel_rfl) 12 12 (fun _ => (#[.int .i64 0, .int .i64 0], 0)) (by kernel_rfl) ?_ ?_
  · intro k o h1 h2
    omega
  simp only [List.take_succ_cons, List.take_zero, List.drop_succ_cons, List.drop_zero]
  refine Reg.wpG_step (v := ?vr32x0) (fun wq hq => ?gr32x0) ?kr32x0
  case gr32x0 => (have q0 := keepC hq d00; have q1 := keepC hq d01; have q2 := keepC hq d02; have q3 := keepC hq d10; have q4 := keepC hq d11; have q5 := keepC hq d12; refine Reg.gAt_val ?_; go_simp; first | done | (with_reducible rfl) | rfl)
  try simp only [Act.put, List.setIfInBounds_toArray, List.set_cons_zero, List.set_cons_succ]
  refine Reg.wpG_step (v := ?vr32x1) (fun wq hq => ?gr32x1) ?kr32x1
  case gr32x1 => (have q0 := keepC hq d00; have q1 := keepC hq d01; have q2 := keepC hq d02; have q3 := keepC hq d10; have q4 := keepC hq d11; have q5 := keepC hq d12; refine Reg.gAt_val ?_; go_simp; first | done | (with_reducible rfl) | rfl)
  try simp only [Act.put, List.setIfInBounds_toArray, List.set_cons_zero, List.set_cons_succ]
  refine Reg.wpG_step (v := ?vr32x2) (fun wq hq => ?gr32x2) ?kr32x2
  case gr32x2 => (have q0 := keepC hq d00; have q1 := keepC hq d01; have q2 := keepC hq d02; have q3 := keepC hq d10; have q4 := keepC hq d11; have q5 := keepC hq d12; refine Reg.gAt_val ?_; go_simp; first | done | (with_reducible rfl) | rfl)
  try simp only [Act.put, List.setIfInBounds_toArray, List.set_cons_zero, List.set_cons_succ]
  refine Reg.wpG_step (v := .agg #[.int .i64 la, .int .i64 lb, .int .i64 lc]) (fun wq hq => ?gr32x3) ?kr32x3
  case gr32x3 => (unfold Reg.gAt; go_simp; refine Reg.quiet_enter ?_; exact toLine_any _ _ _ _)
  try simp only [Act.put, List.setIfInBounds_toArray, List.set_cons_zero, List.set_cons_succ]
  refine Reg.wpG_step (v := ?vr32x4) (fun wq hq => ?gr32x4) ?kr32x4
  case gr32x4 => (have q0 := keepC hq d00; have q1 := keepC hq d01; have q2 := keepC hq d02; have q3 := keepC hq d10; have q4 := keepC hq d11; have q5 := keepC hq d12; refine Reg.gAt_val ?_; go_simp; first | done | (with_reducible rfl) | rfl)
  try simp only [Act.put, List.setIfInBounds_toArray, List.set_cons_zero, List.set_cons_succ]
  refine Reg.wpG_step (v := .agg #[.int .i64 ma, .int .i64 mb, .int .i64 mc]) (fun wq hq => ?gr32x5) ?kr32x5
  case gr32x5 => (unfold Reg.gAt; go_simp; refine Reg.quiet_enter ?_; exact toLine_any _ _ _ _)
  try simp only [Act.put, List.setIfInBounds_toArray, List.set_cons_zero, List.set_cons_succ]
  refine Reg.wpG_step (v := .tuple #[.int .i64 ((Pl.spreadTo p k la lb lc ma mb mc).1), .int .i64 ((Pl.spreadTo p k la lb lc ma mb mc).2)]) (fun wq hq => ?gr32x6) ?kr32x6
  case gr32x6 => (unfold Reg.gAt; go_simp; refine Reg.quiet_enter ?_; exact SpreadOf_any _ _ _ _ _ _ _ _ _)
  try simp only [Act.put, List.setIfInBounds_toArray, List.set_cons_zero, List.set_cons_succ]
  refine Reg.wpG_step (v := ?vr32x7) (fun wq hq => ?gr32x7) ?kr32x7
  case gr32x7 => (have q0 := keepC hq d00; have q1 := keepC hq d01; have q2 := keepC hq d02; have q3 := keepC hq d10; have q4 := keepC hq d11; have q5 := keepC hq d12; refine Reg.gAt_val ?_; go_simp; first | done | (with_reducible rfl) | rfl)
  try simp only [Act.put, List.setIfInBounds_toArray, List.set_cons_zero, List.set_cons_succ]
  refine Reg.wpG_step (v := ?vr32x8) (fun wq hq => ?gr32x8) ?kr32x8
  case gr32x8 => (have q0 := keepC hq d00; have q1 := keepC hq d01; have q2 := keepC hq d02; have q3 := keepC hq d10; have q4 := keepC hq d11; have q5 := keepC hq d12; refine Reg.gAt_val ?_; go_simp; first | done | (with_reducible rfl) | rfl)
  try simp only [Act.put, List.setIfInBounds_toArray, List.set_cons_zero, List.set_cons_succ]
  refine Reg.wpG_step (v := ?vr32x9) (fun wq hq => ?gr32x9) ?kr32x9
  case gr32x9 => (have q0 := keepC hq d00; have q1 := keepC hq d01; have q2 := keepC hq d02; have q3 := keepC hq d10; have q4 := keepC hq d11; have q5 := keepC hq d12; refine Reg.gAt_val ?_; go_simp; first | done | (with_reducible rfl) | rfl)
  try simp only [Act.put, List.setIfInBounds_toArray, List.set_cons_zero, List.set_cons_succ]
  refine Reg.wpG_step (v := ?vr32x10) (fun wq hq => ?gr32x10) ?kr32x10
  case gr32x10 => (have q0 := keepC hq d00; have q1 := keepC hq d01; have q2 := keepC hq d02; have q3 := keepC hq d10; have q4 := keepC hq d11; have q5 := keepC hq d12; refine Reg.gAt_val ?_; go_simp; first | done | (with_reducible rfl) | rfl)
  try simp only [Act.put, List.setIfInBounds_toArray, List.set_cons_zero, List.set_cons_succ]
  refine Reg.wpG_step (v := ?vr32x11) (fun wq hq => ?gr32x11) ?kr32x11
  case gr32x11 => (have q0 := keepC hq d00; have q1 := keepC hq d01; have q2 := keepC hq d02; have q3 := keepC hq d10; have q4 := keepC hq d11; have q5 := keepC hq d12; refine Reg.gAt_val ?_; go_simp; first | done | (with_reducible rfl) | rfl)
  try simp only [Act.put, List.setIfInBounds_toArray, List.set_cons_zero, List.set_cons_succ]
  intro w2 g hB2 hg hd
  clear hg hd
  change wpList _ _ _ _ (Reg.putPtrs _ g [] _) _
  simp only [Reg.putPtrs]
  replace d00 := keepC hB2 d00
  replace d01 := keepC hB2 d01
  replace d02 := keepC hB2 d02
  replace d10 := keepC hB2 d10
  replace d11 := keepC hB2 d11
  replace d12 := keepC hB2 d12
  replace hB := below_of hB hB2 hB.size
  clear hB2 
  go_wp2_with fail
  go_ret
  exact ⟨rfl, hB⟩
end Go.Proofs.Ytjjidjcflimhgaa.fnExactSpreadOf
