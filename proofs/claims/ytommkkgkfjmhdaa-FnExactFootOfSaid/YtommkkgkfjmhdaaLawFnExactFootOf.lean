/- FnExactFootOf: the walk. -/
import Derived.Test.YtommkkgkfjmhdaaFt
import Derived.Test.YtommkkgkfjmhdaaG
import Derived.Test.YtommkkgkfjmhdaaReg2
import Derived.Test.YtommkkgkfjmhdaaEq
set_option linter.unusedVariables false
set_option linter.unusedSimpArgs false
set_option maxHeartbeats 2000000
set_option maxRecDepth 100000
namespace Go.Proofs.Ytommkkgkfjmhdaa.fnExactFootOf
open Go.RowKit
theorem walk (p k ax ay la lb lc : Int) (_ : (Lit.int .i64 p).wf = true) (_ : (Lit.int .i64 k).wf = true) (_ : (Lit.int .i64 ax).wf = true) (_ : (Lit.int .i64 ay).wf = true) (_ : (Lit.int .i64 la).wf = true) (_ : (Lit.int .i64 lb).wf = true) (_ : (Lit.int .i64 lc).wf = true) (w : World) : Calls Try.prog 3 #[.int .i64 p, .int .i64 k, .agg #[.int .i64 ax, .int .i64 ay], .agg #[.int .i64 la, .int .i64 lb, .int .i64 lc]] w fun e w' => e = .returned (.bool true) ∧ Below w.heap.size w w' := by
  go_enter Try.func3, Try.ntmps3
  go_wp2_with fail
  generalize hW : (World.alloc (World.alloc w (.cells #[.int .i64 ax, .int .i64 ay] 22)) (.cells #[.int .i64 la, .int .i64 lb, .int .i64 lc] 23)) = W
  have d00 : W.cell? ⟨w.heap.size, 0, none⟩ = some (.int .i64 ax) := by subst hW; go_simp
  have d01 : W.cell? ⟨w.heap.size, 1, none⟩ = some (.int .i64 ay) := by subst hW; go_simp
  have d10 : W.cell? ⟨w.heap.size + 1, 0, none⟩ = some (.int .i64 la) := by subst hW; go_simp
  have d11 : W.cell? ⟨w.heap.size + 1, 1, none⟩ = some (.int .i64 lb) := by subst hW; go_simp
  have d12 : W.cell? ⟨w.heap.size + 1, 2, none⟩ = some (.int .i64 lc) := by subst hW; go_simp
  have hB : Below w.heap.size w W := by subst hW; go_grown
  clear hW
  refine Reg.wp_region_store' (by kernel_rfl) 10 8 (#[.int .i64 0, .int .i64 0], 24) (.agg #[(.int .i64 ((Pl.footOf p k ax ay la lb lc).1.1)), (.int .i64 ((Pl.footOf p k ax ay la lb lc).1.2))]) (.int .i64 ((Pl.footOf p k ax ay la lb lc).1.1)) [(.int .i64 ((Pl.footOf p k ax ay la lb lc).1.2))] (by kernel_rfl) ?_ ?_ ?_
  · intro o ho ρ wz
    simp at ho; subst ho; rfl
  · intro o ho ρ wz g h0 h1 hb
    simp at ho; subst ho
    simp [Reg.dst] at h0 h1
    obtain ⟨z0, z1, y0, y1⟩ := Reg.blk2 hb
    refine ⟨(World.setCell (World.setCell wz ⟨g, 0, none⟩ (.int .i64 ((Pl.footOf p k ax ay la lb lc).1.1))) ⟨g, 1, none⟩ (.int .i64 ((Pl.footOf p k ax ay la lb lc).1.2))), ?_, ?_, fun B hBg => by go_grown⟩
    · go_simp
    · intro j v hj
      match j, hj with
      | 0, hj => (simp at hj; subst hj; simp [World.cell?_setCell_other, World.cell?_setCell_same, z0, z1])
      | 1, hj => (simp at hj; subst hj; simp [World.cell?_setCell_other, World.cell?_setCell_same, z0, z1])
  simp only [List.take_succ_cons, List.take_zero, List.drop_succ_cons, List.drop_zero]
  refine Reg.wpG_step (v := ?vs41x0) (fun wq hq => ?gs41x0) ?ks41x0
  case gs41x0 => (have q0 := keepC hq d00; have q1 := keepC hq d01; have q2 := keepC hq d10; have q3 := keepC hq d11; have q4 := keepC hq d12; refine Reg.gAt_val ?_; go_simp; first | done | (with_reducible rfl) | rfl)
  try simp only [Act.put, List.setIfInBounds_toArray, List.set_cons_zero, List.set_cons_succ]
  refine Reg.wpG_step (v := ?vs41x1) (fun wq hq => ?gs41x1) ?ks41x1
  case gs41x1 => (have q0 := keepC hq d00; have q1 := keepC hq d01; have q2 := keepC hq d10; have q3 := keepC hq d11; have q4 := keepC hq d12; refine Reg.gAt_val ?_; go_simp; first | done | (with_reducible rfl) | rfl)
  try simp only [Act.put, List.setIfInBounds_toArray, List.set_cons_zero, List.set_cons_succ]
  refine Reg.wpG_step (v := ?vs41x2) (fun wq hq => ?gs41x2) ?ks41x2
  case gs41x2 => (have q0 := keepC hq d00; have q1 := keepC hq d01; have q2 := keepC hq d10; have q3 := keepC hq d11; have q4 := keepC hq d12; refine Reg.gAt_val ?_; go_simp; first | done | (with_reducible rfl) | rfl)
  try simp only [Act.put, List.setIfInBounds_toArray, List.set_cons_zero, List.set_cons_succ]
  refine Reg.wpG_step (v := .agg #[.int .i64 ax, .int .i64 ay]) (fun wq hq => ?gs41x3) ?ks41x3
  case gs41x3 => (unfold Reg.gAt; go_simp; refine Reg.quiet_enter ?_; exact toPoint_any _ _ _)
  try simp only [Act.put, List.setIfInBounds_toArray, List.set_cons_zero, List.set_cons_succ]
  refine Reg.wpG_step (v := ?vs41x4) (fun wq hq => ?gs41x4) ?ks41x4
  case gs41x4 => (have q0 := keepC hq d00; have q1 := keepC hq d01; have q2 := keepC hq d10; have q3 := keepC hq d11; have q4 := keepC hq d12; refine Reg.gAt_val ?_; go_simp; first | done | (with_reducible rfl) | rfl)
  try simp only [Act.put, List.setIfInBounds_toArray, List.set_cons_zero, List.set_cons_succ]
  refine Reg.wpG_step (v := .agg #[.int .i64 la, .int .i64 lb, .int .i64 lc]) (fun wq hq => ?gs41x5) ?ks41x5
  case gs41x5 => (unfold Reg.gAt; go_simp; refine Reg.quiet_enter ?_; exact toLine_any _ _ _ _)
  try simp only [Act.put, List.setIfInBounds_toArray, List.set_cons_zero, List.set_cons_succ]
  refine Reg.wpG_step (v := .tuple #[.agg #[.int .i64 ((Pl.footOf p k ax ay la lb lc).1.1), .int .i64 ((Pl.footOf p k ax ay la lb lc).1.2)], .int .i64 ((Pl.footOf p k ax ay la lb lc).2)]) (fun wq hq => ?gs41x6) ?ks41x6
  case gs41x6 => (unfold Reg.gAt; go_simp; refine Reg.quiet_enter ?_; exact sFootOf_any _ _ _ _ _ _ _ _)
  try simp only [Act.put, List.setIfInBounds_toArray, List.set_cons_zero, List.set_cons_succ]
  refine Reg.wpG_step (v := ?vs41x7) (fun wq hq => ?gs41x7) ?ks41x7
  case gs41x7 => (have q0 := keepC hq d00; have q1 := keepC hq d01; have q2 := keepC hq d10; have q3 := keepC hq d11; have q4 := keepC hq d12; refine Reg.gAt_val ?_; go_simp; first | done | (with_reducible rfl) | rfl)
  try simp only [Act.put, List.setIfInBounds_toArray, List.set_cons_zero, List.set_cons_succ]
  refine Reg.wpG_step (v := ?vs41x8) (fun wq hq => ?gs41x8) ?ks41x8
  case gs41x8 => (have q0 := keepC hq d00; have q1 := keepC hq d01; have q2 := keepC hq d10; have q3 := keepC hq d11; have q4 := keepC hq d12; refine Reg.gAt_val ?_; go_simp; first | done | (with_reducible rfl) | rfl)
  try simp only [Act.put, List.setIfInBounds_toArray, List.set_cons_zero, List.set_cons_succ]
  refine Reg.wpG_step (v := ?vs41x9) (fun wq hq => ?gs41x9) ?ks41x9
  case gs41x9 => (have q0 := keepC hq d00; have q1 := keepC hq d01; have q2 := keepC hq d10; have q3 := keepC hq d11; have q4 := keepC hq d12; refine Reg.gAt_val ?_; go_simp; first | done | (with_reducible rfl) | rfl)
  try simp only [Act.put, List.setIfInBounds_toArray, List.set_cons_zero, List.set_cons_succ]
  refine ⟨by simp [Reg.dst], ?_⟩
  intro w2 ub hB2 hgb hc
  have u0 : w2.cell? ⟨ub, 0, none⟩ = some (.int .i64 ((Pl.footOf p k ax ay la lb lc).1.1)) := hc 0 _ rfl
  have u1 : w2.cell? ⟨ub, 1, none⟩ = some (.int .i64 ((Pl.footOf p k ax ay la lb lc).1.2)) := hc 1 _ rfl
  clear hc hgb
  simp only [Reg.dst, Act.put, List.setIfInBounds_toArray, List.set_cons_zero, List.set_cons_succ, List.getElem?_cons_zero, List.getElem?_cons_succ, Option.bind_some]
  replace d00 := keepC hB2 d00
  replace d01 := keepC hB2 d01
  replace d10 := keepC hB2 d10
  replace d11 := keepC hB2 d11
  replace d12 := keepC hB2 d12
  replace hB := below_of hB hB2 hB.size
  clear hB2
  go_wp2_with fail
  refine Reg.wp_region_store' (by kernel_rfl) 10 8 (#[.int .i64 0, .int .i64 0], 24) (.agg #[(.int .i64 ((Pl.footOf p k ax ay la lb lc).1.1)), (.int .i64 ((Pl.footOf p k ax ay la lb lc).1.2))]) (.int .i64 ((Pl.footOf p k ax ay la lb lc).1.1)) [(.int .i64 ((Pl.footOf p k ax ay la lb lc).1.2))] (by kernel_rfl) ?_ ?_ ?_
  · intro o ho ρ wz
    simp at ho; subst ho; rfl
  · intro o ho ρ wz g h0 h1 hb
    simp at ho; subst ho
    simp [Reg.dst] at h0 h1
    obtain ⟨z0, z1, y0, y1⟩ := Reg.blk2 hb
    refine ⟨(World.setCell (World.setCell wz ⟨g, 0, none⟩ (.int .i64 ((Pl.footOf p k ax ay la lb lc).1.1))) ⟨g, 1, none⟩ (.int .i64 ((Pl.footOf p k ax ay la lb lc).1.2))), ?_, ?_, fun B hBg => by go_grown⟩
    · go_simp
    · intro j v hj
      match j, hj with
      | 0, hj => (simp at hj; subst hj; simp [World.cell?_setCell_other, World.cell?_setCell_same, z0, z1])
      | 1, hj => (simp at hj; subst hj; simp [World.cell?_setCell_other, World.cell?_setCell_same, z0, z1])
  simp only [List.take_succ_cons, List.take_zero, List.drop_succ_cons, List.drop_zero]
  refine Reg.wpG_step (v := ?vs42x0) (fun wq hq => ?gs42x0) ?ks42x0
  case gs42x0 => (have q0 := keepC hq d00; have q1 := keepC hq d01; have q2 := keepC hq d10; have q3 := keepC hq d11; have q4 := keepC hq d12; have q5 := keepC hq u0; have q6 := keepC hq u1; refine Reg.gAt_val ?_; go_simp; first | done | (with_reducible rfl) | rfl)
  try simp only [Act.put, List.setIfInBounds_toArray, List.set_cons_zero, List.set_cons_succ]
  refine Reg.wpG_step (v := ?vs42x1) (fun wq hq => ?gs42x1) ?ks42x1
  case gs42x1 => (have q0 := keepC hq d00; have q1 := keepC hq d01; have q2 := keepC hq d10; have q3 := keepC hq d11; have q4 := keepC hq d12; have q5 := keepC hq u0; have q6 := keepC hq u1; refine Reg.gAt_val ?_; go_simp; first | done | (with_reducible rfl) | rfl)
  try simp only [Act.put, List.setIfInBounds_toArray, List.set_cons_zero, List.set_cons_succ]
  refine Reg.wpG_step (v := ?vs42x2) (fun wq hq => ?gs42x2) ?ks42x2
  case gs42x2 => (have q0 := keepC hq d00; have q1 := keepC hq d01; have q2 := keepC hq d10; have q3 := keepC hq d11; have q4 := keepC hq d12; have q5 := keepC hq u0; have q6 := keepC hq u1; refine Reg.gAt_val ?_; go_simp; first | done | (with_reducible rfl) | rfl)
  try simp only [Act.put, List.setIfInBounds_toArray, List.set_cons_zero, List.set_cons_succ]
  refine Reg.wpG_step (v := .agg #[.int .i64 ax, .int .i64 ay]) (fun wq hq => ?gs42x3) ?ks42x3
  case gs42x3 => (unfold Reg.gAt; go_simp; refine Reg.quiet_enter ?_; exact toPoint_any _ _ _)
  try simp only [Act.put, List.setIfInBounds_toArray, List.set_cons_zero, List.set_cons_succ]
  refine Reg.wpG_step (v := ?vs42x4) (fun wq hq => ?gs42x4) ?ks42x4
  case gs42x4 => (have q0 := keepC hq d00; have q1 := keepC hq d01; have q2 := keepC hq d10; have q3 := keepC hq d11; have q4 := keepC hq d12; have q5 := keepC hq u0; have q6 := keepC hq u1; refine Reg.gAt_val ?_; go_simp; first | done | (with_reducible rfl) | rfl)
  try simp only [Act.put, List.setIfInBounds_toArray, List.set_cons_zero, List.set_cons_succ]
  refine Reg.wpG_step (v := .agg #[.int .i64 la, .int .i64 lb, .int .i64 lc]) (fun wq hq => ?gs42x5) ?ks42x5
  case gs42x5 => (unfold Reg.gAt; go_simp; refine Reg.quiet_enter ?_; exact toLine_any _ _ _ _)
  try simp only [Act.put, List.setIfInBounds_toArray, List.set_cons_zero, List.set_cons_succ]
  refine Reg.wpG_step (v := .tuple #[.agg #[.int .i64 ((Pl.footOf p k ax ay la lb lc).1.1), .int .i64 ((Pl.footOf p k ax ay la lb lc).1.2)], .int .i64 ((Pl.footOf p k ax ay la lb lc).2)]) (fun wq hq => ?gs42x6) ?ks42x6
  case gs42x6 => (unfold Reg.gAt; go_simp; refine Reg.quiet_enter ?_; exact FootOf_any _ _ _ _ _ _ _ _)
  try simp only [Act.put, List.setIfInBounds_toArray, List.set_cons_zero, List.set_cons_succ]
  refine Reg.wpG_step (v := ?vs42x7) (fun wq hq => ?gs42x7) ?ks42x7
  case gs42x7 => (have q0 := keepC hq d00; have q1 := keepC hq d01; have q2 := keepC hq d10; have q3 := keepC hq d11; have q4 := keepC hq d12; have q5 := keepC hq u0; have q6 := keepC hq u1; refine Reg.gAt_val ?_; go_simp; first | done | (with_reducible rfl) | rfl)
  try simp only [Act.put, List.setIfInBounds_toArray, List.set_cons_zero, List.set_cons_succ]
  refine Reg.wpG_step (v := ?vs42x8) (fun wq hq => ?gs42x8) ?ks42x8
  case gs42x8 => (have q0 := keepC hq d00; have q1 := keepC hq d01; have q2 := keepC hq d10; have q3 := keepC hq d11; have q4 := keepC hq d12; have q5 := keepC hq u0; have q6 := keepC hq u1; refine Reg.gAt_val ?_; go_simp; first | done | (with_reducible rfl) | rfl)
  try simp only [Act.put, List.setIfInBounds_toArray, List.set_cons_zero, List.set_cons_succ]
  refine Reg.wpG_step (v := ?vs42x9) (fun wq hq => ?gs42x9) ?ks42x9
  case gs42x9 => (have q0 := keepC hq d00; have q1 := keepC hq d01; have q2 := keepC hq d10; have q3 := keepC hq d11; have q4 := keepC hq d12; have q5 := keepC hq u0; have q6 := keepC hq u1; refine Reg.gAt_val ?_; go_simp; first | done | (with_reducible rfl) | rfl)
  try simp only [Act.put, List.setIfInBounds_toArray, List.set_cons_zero, List.set_cons_succ]
  refine ⟨by simp [Reg.dst], ?_⟩
  intro w2 vb hB2 hgb hc
  have v0 : w2.cell? ⟨vb, 0, none⟩ = some (.int .i64 ((Pl.footOf p k ax ay la lb lc).1.1)) := hc 0 _ rfl
  have v1 : w2.cell? ⟨vb, 1, none⟩ = some (.int .i64 ((Pl.footOf p k ax ay la lb lc).1.2)) := hc 1 _ rfl
  clear hc hgb
  simp only [Reg.dst, Act.put, List.setIfInBounds_toArray, List.set_cons_zero, List.set_cons_succ, List.getElem?_cons_zero, List.getElem?_cons_succ, Option.bind_some]
  replace d00 := keepC hB2 d00
  replace d01 := keepC hB2 d01
  replace d10 := keepC hB2 d10
  replace d11 := keepC hB2 d11
  replace d12 := keepC hB2 d12
  replace u0 := keepC hB2 u0
  replace u1 := keepC hB2 u1
  replace hB := below_of hB hB2 hB.size
  clear hB2
  go_wp2_with (go_at_call 14; refine (eqPoint_same _ _ _).mono ?_; rintro e w' ⟨rfl, hbn⟩; replace hB := below_of (B := w.heap.size) (a := w) (by first | exact hB | (have := hB.size; go_grown)) hbn (by first | exact hB.size | (have := hB.size; simp <;> omega)); clear hbn)
  go_ret
  exact ⟨rfl, by first | exact hB | go_grown⟩
end Go.Proofs.Ytommkkgkfjmhdaa.fnExactFootOf
