/- FnExactParallelThrough: the walk. -/
import Derived.Test.YteocnenjllddaaaJ
import Derived.Test.YteocnenjllddaaaG
import Derived.Test.YteocnenjllddaaaReg2
import Derived.Test.YteocnenjllddaaaEq
set_option linter.unusedVariables false
set_option linter.unusedSimpArgs false
set_option maxHeartbeats 2000000
namespace Go.Proofs.Yteocnenjllddaaa.fnExactParallelThrough
open Go.RowKit
theorem walk (p la lb lc ax ay : Int) (_ : (Lit.int .i64 p).wf = true) (_ : (Lit.int .i64 la).wf = true) (_ : (Lit.int .i64 lb).wf = true) (_ : (Lit.int .i64 lc).wf = true) (_ : (Lit.int .i64 ax).wf = true) (_ : (Lit.int .i64 ay).wf = true) (w : World) : Calls Try.prog 14 #[.int .i64 p, .agg #[.int .i64 la, .int .i64 lb, .int .i64 lc], .agg #[.int .i64 ax, .int .i64 ay]] w fun e w' => e = .returned (.bool true) ∧ Below w.heap.size w w' := by
  go_enter Try.func14, Try.ntmps14
  go_wp2_with fail
  generalize hW : (World.alloc (World.alloc w (.cells #[.int .i64 la, .int .i64 lb, .int .i64 lc] 29)) (.cells #[.int .i64 ax, .int .i64 ay] 22)) = W
  have d00 : W.cell? ⟨w.heap.size, 0, none⟩ = some (.int .i64 la) := by subst hW; go_simp
  have d01 : W.cell? ⟨w.heap.size, 1, none⟩ = some (.int .i64 lb) := by subst hW; go_simp
  have d02 : W.cell? ⟨w.heap.size, 2, none⟩ = some (.int .i64 lc) := by subst hW; go_simp
  have d10 : W.cell? ⟨w.heap.size + 1, 0, none⟩ = some (.int .i64 ax) := by subst hW; go_simp
  have d11 : W.cell? ⟨w.heap.size + 1, 1, none⟩ = some (.int .i64 ay) := by subst hW; go_simp
  have hB : Below w.heap.size w W := by subst hW; go_grown
  clear hW
  refine Reg.wp_region_store' (by kernel_rfl) 9 7 (#[.int .i64 0, .int .i64 0, .int .i64 0], 30) (.agg #[(.int .i64 ((Pl.parThOf p la lb lc ax ay).1.1)), (.int .i64 ((Pl.parThOf p la lb lc ax ay).1.2.1)), (.int .i64 ((Pl.parThOf p la lb lc ax ay).1.2.2))]) (.int .i64 ((Pl.parThOf p la lb lc ax ay).1.1)) [(.int .i64 ((Pl.parThOf p la lb lc ax ay).1.2.1)), (.int .i64 ((Pl.parThOf p la lb lc ax ay).1.2.2))] (by kernel_rfl) ?_ ?_ ?_
  · intro o ho ρ wz
    simp at ho; subst ho; rfl
  · intro o ho ρ wz g h0 h1 hb
    simp at ho; subst ho
    simp [Reg.dst] at h0 h1
    obtain ⟨z0, z1, z2, y0, y1, y2⟩ := Reg.blk3 hb
    refine ⟨(World.setCell (World.setCell (World.setCell wz ⟨g, 0, none⟩ (.int .i64 ((Pl.parThOf p la lb lc ax ay).1.1))) ⟨g, 1, none⟩ (.int .i64 ((Pl.parThOf p la lb lc ax ay).1.2.1))) ⟨g, 2, none⟩ (.int .i64 ((Pl.parThOf p la lb lc ax ay).1.2.2))), ?_, ?_, fun B hBg => by go_grown⟩
    · go_simp
    · intro j v hj
      match j, hj with
      | 0, hj => (simp at hj; subst hj; simp [World.cell?_setCell_other, World.cell?_setCell_same, z0, z1, z2])
      | 1, hj => (simp at hj; subst hj; simp [World.cell?_setCell_other, World.cell?_setCell_same, z0, z1, z2])
      | 2, hj => (simp at hj; subst hj; simp [World.cell?_setCell_other, World.cell?_setCell_same, z0, z1, z2])
  simp only [List.take_succ_cons, List.take_zero, List.drop_succ_cons, List.drop_zero]
  refine Reg.wpG_step (v := ?vs19x0) (fun wq hq => ?gs19x0) ?ks19x0
  case gs19x0 => (have q0 := keepC hq d00; have q1 := keepC hq d01; have q2 := keepC hq d02; have q3 := keepC hq d10; have q4 := keepC hq d11; refine Reg.gAt_val ?_; go_simp; first | done | (with_reducible rfl) | rfl)
  try simp only [Act.put, List.setIfInBounds_toArray, List.set_cons_zero, List.set_cons_succ]
  refine Reg.wpG_step (v := ?vs19x1) (fun wq hq => ?gs19x1) ?ks19x1
  case gs19x1 => (have q0 := keepC hq d00; have q1 := keepC hq d01; have q2 := keepC hq d02; have q3 := keepC hq d10; have q4 := keepC hq d11; refine Reg.gAt_val ?_; go_simp; first | done | (with_reducible rfl) | rfl)
  try simp only [Act.put, List.setIfInBounds_toArray, List.set_cons_zero, List.set_cons_succ]
  refine Reg.wpG_step (v := .agg #[.int .i64 la, .int .i64 lb, .int .i64 lc]) (fun wq hq => ?gs19x2) ?ks19x2
  case gs19x2 => (unfold Reg.gAt; go_simp; refine Reg.quiet_enter ?_; exact toLine_any _ _ _ _)
  try simp only [Act.put, List.setIfInBounds_toArray, List.set_cons_zero, List.set_cons_succ]
  refine Reg.wpG_step (v := ?vs19x3) (fun wq hq => ?gs19x3) ?ks19x3
  case gs19x3 => (have q0 := keepC hq d00; have q1 := keepC hq d01; have q2 := keepC hq d02; have q3 := keepC hq d10; have q4 := keepC hq d11; refine Reg.gAt_val ?_; go_simp; first | done | (with_reducible rfl) | rfl)
  try simp only [Act.put, List.setIfInBounds_toArray, List.set_cons_zero, List.set_cons_succ]
  refine Reg.wpG_step (v := .agg #[.int .i64 ax, .int .i64 ay]) (fun wq hq => ?gs19x4) ?ks19x4
  case gs19x4 => (unfold Reg.gAt; go_simp; refine Reg.quiet_enter ?_; exact toPoint_any _ _ _)
  try simp only [Act.put, List.setIfInBounds_toArray, List.set_cons_zero, List.set_cons_succ]
  refine Reg.wpG_step (v := .tuple #[.agg #[.int .i64 ((Pl.parThOf p la lb lc ax ay).1.1), .int .i64 ((Pl.parThOf p la lb lc ax ay).1.2.1), .int .i64 ((Pl.parThOf p la lb lc ax ay).1.2.2)], .int .i64 ((Pl.parThOf p la lb lc ax ay).2)]) (fun wq hq => ?gs19x5) ?ks19x5
  case gs19x5 => (unfold Reg.gAt; go_simp; refine Reg.quiet_enter ?_; exact sParallelThrough_any _ _ _ _ _ _ _)
  try simp only [Act.put, List.setIfInBounds_toArray, List.set_cons_zero, List.set_cons_succ]
  refine Reg.wpG_step (v := ?vs19x6) (fun wq hq => ?gs19x6) ?ks19x6
  case gs19x6 => (have q0 := keepC hq d00; have q1 := keepC hq d01; have q2 := keepC hq d02; have q3 := keepC hq d10; have q4 := keepC hq d11; refine Reg.gAt_val ?_; go_simp; first | done | (with_reducible rfl) | rfl)
  try simp only [Act.put, List.setIfInBounds_toArray, List.set_cons_zero, List.set_cons_succ]
  refine Reg.wpG_step (v := ?vs19x7) (fun wq hq => ?gs19x7) ?ks19x7
  case gs19x7 => (have q0 := keepC hq d00; have q1 := keepC hq d01; have q2 := keepC hq d02; have q3 := keepC hq d10; have q4 := keepC hq d11; refine Reg.gAt_val ?_; go_simp; first | done | (with_reducible rfl) | rfl)
  try simp only [Act.put, List.setIfInBounds_toArray, List.set_cons_zero, List.set_cons_succ]
  refine Reg.wpG_step (v := ?vs19x8) (fun wq hq => ?gs19x8) ?ks19x8
  case gs19x8 => (have q0 := keepC hq d00; have q1 := keepC hq d01; have q2 := keepC hq d02; have q3 := keepC hq d10; have q4 := keepC hq d11; refine Reg.gAt_val ?_; go_simp; first | done | (with_reducible rfl) | rfl)
  try simp only [Act.put, List.setIfInBounds_toArray, List.set_cons_zero, List.set_cons_succ]
  refine ⟨by simp [Reg.dst], ?_⟩
  intro w2 ub hB2 hgb hc
  have u0 : w2.cell? ⟨ub, 0, none⟩ = some (.int .i64 ((Pl.parThOf p la lb lc ax ay).1.1)) := hc 0 _ rfl
  have u1 : w2.cell? ⟨ub, 1, none⟩ = some (.int .i64 ((Pl.parThOf p la lb lc ax ay).1.2.1)) := hc 1 _ rfl
  have u2 : w2.cell? ⟨ub, 2, none⟩ = some (.int .i64 ((Pl.parThOf p la lb lc ax ay).1.2.2)) := hc 2 _ rfl
  clear hc hgb
  simp only [Reg.dst, Act.put, List.setIfInBounds_toArray, List.set_cons_zero, List.set_cons_succ, List.getElem?_cons_zero, List.getElem?_cons_succ, Option.bind_some]
  replace d00 := keepC hB2 d00
  replace d01 := keepC hB2 d01
  replace d02 := keepC hB2 d02
  replace d10 := keepC hB2 d10
  replace d11 := keepC hB2 d11
  replace hB := below_of hB hB2 hB.size
  clear hB2
  go_wp2_with fail
  refine Reg.wp_region_store' (by kernel_rfl) 9 7 (#[.int .i64 0, .int .i64 0, .int .i64 0], 30) (.agg #[(.int .i64 ((Pl.parThOf p la lb lc ax ay).1.1)), (.int .i64 ((Pl.parThOf p la lb lc ax ay).1.2.1)), (.int .i64 ((Pl.parThOf p la lb lc ax ay).1.2.2))]) (.int .i64 ((Pl.parThOf p la lb lc ax ay).1.1)) [(.int .i64 ((Pl.parThOf p la lb lc ax ay).1.2.1)), (.int .i64 ((Pl.parThOf p la lb lc ax ay).1.2.2))] (by kernel_rfl) ?_ ?_ ?_
  · intro o ho ρ wz
    simp at ho; subst ho; rfl
  · intro o ho ρ wz g h0 h1 hb
    simp at ho; subst ho
    simp [Reg.dst] at h0 h1
    obtain ⟨z0, z1, z2, y0, y1, y2⟩ := Reg.blk3 hb
    refine ⟨(World.setCell (World.setCell (World.setCell wz ⟨g, 0, none⟩ (.int .i64 ((Pl.parThOf p la lb lc ax ay).1.1))) ⟨g, 1, none⟩ (.int .i64 ((Pl.parThOf p la lb lc ax ay).1.2.1))) ⟨g, 2, none⟩ (.int .i64 ((Pl.parThOf p la lb lc ax ay).1.2.2))), ?_, ?_, fun B hBg => by go_grown⟩
    · go_simp
    · intro j v hj
      match j, hj with
      | 0, hj => (simp at hj; subst hj; simp [World.cell?_setCell_other, World.cell?_setCell_same, z0, z1, z2])
      | 1, hj => (simp at hj; subst hj; simp [World.cell?_setCell_other, World.cell?_setCell_same, z0, z1, z2])
      | 2, hj => (simp at hj; subst hj; simp [World.cell?_setCell_other, World.cell?_setCell_same, z0, z1, z2])
  simp only [List.take_succ_cons, List.take_zero, List.drop_succ_cons, List.drop_zero]
  refine Reg.wpG_step (v := ?vs20x0) (fun wq hq => ?gs20x0) ?ks20x0
  case gs20x0 => (have q0 := keepC hq d00; have q1 := keepC hq d01; have q2 := keepC hq d02; have q3 := keepC hq d10; have q4 := keepC hq d11; have q5 := keepC hq u0; have q6 := keepC hq u1; have q7 := keepC hq u2; refine Reg.gAt_val ?_; go_simp; first | done | (with_reducible rfl) | rfl)
  try simp only [Act.put, List.setIfInBounds_toArray, List.set_cons_zero, List.set_cons_succ]
  refine Reg.wpG_step (v := ?vs20x1) (fun wq hq => ?gs20x1) ?ks20x1
  case gs20x1 => (have q0 := keepC hq d00; have q1 := keepC hq d01; have q2 := keepC hq d02; have q3 := keepC hq d10; have q4 := keepC hq d11; have q5 := keepC hq u0; have q6 := keepC hq u1; have q7 := keepC hq u2; refine Reg.gAt_val ?_; go_simp; first | done | (with_reducible rfl) | rfl)
  try simp only [Act.put, List.setIfInBounds_toArray, List.set_cons_zero, List.set_cons_succ]
  refine Reg.wpG_step (v := .agg #[.int .i64 la, .int .i64 lb, .int .i64 lc]) (fun wq hq => ?gs20x2) ?ks20x2
  case gs20x2 => (unfold Reg.gAt; go_simp; refine Reg.quiet_enter ?_; exact toLine_any _ _ _ _)
  try simp only [Act.put, List.setIfInBounds_toArray, List.set_cons_zero, List.set_cons_succ]
  refine Reg.wpG_step (v := ?vs20x3) (fun wq hq => ?gs20x3) ?ks20x3
  case gs20x3 => (have q0 := keepC hq d00; have q1 := keepC hq d01; have q2 := keepC hq d02; have q3 := keepC hq d10; have q4 := keepC hq d11; have q5 := keepC hq u0; have q6 := keepC hq u1; have q7 := keepC hq u2; refine Reg.gAt_val ?_; go_simp; first | done | (with_reducible rfl) | rfl)
  try simp only [Act.put, List.setIfInBounds_toArray, List.set_cons_zero, List.set_cons_succ]
  refine Reg.wpG_step (v := .agg #[.int .i64 ax, .int .i64 ay]) (fun wq hq => ?gs20x4) ?ks20x4
  case gs20x4 => (unfold Reg.gAt; go_simp; refine Reg.quiet_enter ?_; exact toPoint_any _ _ _)
  try simp only [Act.put, List.setIfInBounds_toArray, List.set_cons_zero, List.set_cons_succ]
  refine Reg.wpG_step (v := .tuple #[.agg #[.int .i64 ((Pl.parThOf p la lb lc ax ay).1.1), .int .i64 ((Pl.parThOf p la lb lc ax ay).1.2.1), .int .i64 ((Pl.parThOf p la lb lc ax ay).1.2.2)], .int .i64 ((Pl.parThOf p la lb lc ax ay).2)]) (fun wq hq => ?gs20x5) ?ks20x5
  case gs20x5 => (unfold Reg.gAt; go_simp; refine Reg.quiet_enter ?_; exact ParallelThrough_any _ _ _ _ _ _ _)
  try simp only [Act.put, List.setIfInBounds_toArray, List.set_cons_zero, List.set_cons_succ]
  refine Reg.wpG_step (v := ?vs20x6) (fun wq hq => ?gs20x6) ?ks20x6
  case gs20x6 => (have q0 := keepC hq d00; have q1 := keepC hq d01; have q2 := keepC hq d02; have q3 := keepC hq d10; have q4 := keepC hq d11; have q5 := keepC hq u0; have q6 := keepC hq u1; have q7 := keepC hq u2; refine Reg.gAt_val ?_; go_simp; first | done | (with_reducible rfl) | rfl)
  try simp only [Act.put, List.setIfInBounds_toArray, List.set_cons_zero, List.set_cons_succ]
  refine Reg.wpG_step (v := ?vs20x7) (fun wq hq => ?gs20x7) ?ks20x7
  case gs20x7 => (have q0 := keepC hq d00; have q1 := keepC hq d01; have q2 := keepC hq d02; have q3 := keepC hq d10; have q4 := keepC hq d11; have q5 := keepC hq u0; have q6 := keepC hq u1; have q7 := keepC hq u2; refine Reg.gAt_val ?_; go_simp; first | done | (with_reducible rfl) | rfl)
  try simp only [Act.put, List.setIfInBounds_toArray, List.set_cons_zero, List.set_cons_succ]
  refine Reg.wpG_step (v := ?vs20x8) (fun wq hq => ?gs20x8) ?ks20x8
  case gs20x8 => (have q0 := keepC hq d00; have q1 := keepC hq d01; have q2 := keepC hq d02; have q3 := keepC hq d10; have q4 := keepC hq d11; have q5 := keepC hq u0; have q6 := keepC hq u1; have q7 := keepC hq u2; refine Reg.gAt_val ?_; go_simp; first | done | (with_reducible rfl) | rfl)
  try simp only [Act.put, List.setIfInBounds_toArray, List.set_cons_zero, List.set_cons_succ]
  refine ⟨by simp [Reg.dst], ?_⟩
  intro w2 vb hB2 hgb hc
  have v0 : w2.cell? ⟨vb, 0, none⟩ = some (.int .i64 ((Pl.parThOf p la lb lc ax ay).1.1)) := hc 0 _ rfl
  have v1 : w2.cell? ⟨vb, 1, none⟩ = some (.int .i64 ((Pl.parThOf p la lb lc ax ay).1.2.1)) := hc 1 _ rfl
  have v2 : w2.cell? ⟨vb, 2, none⟩ = some (.int .i64 ((Pl.parThOf p la lb lc ax ay).1.2.2)) := hc 2 _ rfl
  clear hc hgb
  simp only [Reg.dst, Act.put, List.setIfInBounds_toArray, List.set_cons_zero, List.set_cons_succ, List.getElem?_cons_zero, List.getElem?_cons_succ, Option.bind_some]
  replace d00 := keepC hB2 d00
  replace d01 := keepC hB2 d01
  replace d02 := keepC hB2 d02
  replace d10 := keepC hB2 d10
  replace d11 := keepC hB2 d11
  replace u0 := keepC hB2 u0
  replace u1 := keepC hB2 u1
  replace u2 := keepC hB2 u2
  replace hB := below_of hB hB2 hB.size
  clear hB2
  go_wp2_with (go_at_call 21; refine (eqLine_same _ _ _ _).mono ?_; rintro e w' ⟨rfl, hbn⟩; replace hB := below_of (B := w.heap.size) (a := w) (by first | exact hB | (have := hB.size; go_grown)) hbn (by first | exact hB.size | (have := hB.size; simp <;> omega)); clear hbn)
  go_ret
  exact ⟨rfl, by first | exact hB | go_grown⟩
end Go.Proofs.Yteocnenjllddaaa.fnExactParallelThrough
