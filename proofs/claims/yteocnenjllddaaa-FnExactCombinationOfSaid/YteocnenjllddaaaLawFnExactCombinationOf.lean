/- FnExactCombinationOf: the walk. -/
import Derived.Test.YteocnenjllddaaaL
import Derived.Test.YteocnenjllddaaaG
import Derived.Test.YteocnenjllddaaaReg2
import Derived.Test.YteocnenjllddaaaEq
set_option linter.unusedVariables false
set_option linter.unusedSimpArgs false
set_option maxHeartbeats 2000000
namespace Go.Proofs.Yteocnenjllddaaa.fnExactCombinationOf
open Go.RowKit
theorem walk (p ax ay bx by_ t : Int) (_ : (Lit.int .i64 p).wf = true) (_ : (Lit.int .i64 ax).wf = true) (_ : (Lit.int .i64 ay).wf = true) (_ : (Lit.int .i64 bx).wf = true) (_ : (Lit.int .i64 by_).wf = true) (_ : (Lit.int .i64 t).wf = true) (w : World) : Calls Try.prog 8 #[.int .i64 p, .agg #[.int .i64 ax, .int .i64 ay], .agg #[.int .i64 bx, .int .i64 by_], .int .i64 t] w fun e w' => e = .returned (.bool true) ∧ Below w.heap.size w w' := by
  go_enter Try.func8, Try.ntmps8
  go_wp2_with fail
  generalize hW : (World.alloc (World.alloc w (.cells #[.int .i64 ax, .int .i64 ay] 22)) (.cells #[.int .i64 bx, .int .i64 by_] 22)) = W
  have d00 : W.cell? ⟨w.heap.size, 0, none⟩ = some (.int .i64 ax) := by subst hW; go_simp
  have d01 : W.cell? ⟨w.heap.size, 1, none⟩ = some (.int .i64 ay) := by subst hW; go_simp
  have d10 : W.cell? ⟨w.heap.size + 1, 0, none⟩ = some (.int .i64 bx) := by subst hW; go_simp
  have d11 : W.cell? ⟨w.heap.size + 1, 1, none⟩ = some (.int .i64 by_) := by subst hW; go_simp
  have hB : Below w.heap.size w W := by subst hW; go_grown
  clear hW
  refine Reg.wp_region_store' (by kernel_rfl) 10 8 (#[.int .i64 0, .int .i64 0], 23) (.agg #[(.int .i64 ((Pl.combOf p ax ay bx by_ t).1.1)), (.int .i64 ((Pl.combOf p ax ay bx by_ t).1.2))]) (.int .i64 ((Pl.combOf p ax ay bx by_ t).1.1)) [(.int .i64 ((Pl.combOf p ax ay bx by_ t).1.2))] (by kernel_rfl) ?_ ?_ ?_
  · intro o ho ρ wz
    simp at ho; subst ho; rfl
  · intro o ho ρ wz g h0 h1 hb
    simp at ho; subst ho
    simp [Reg.dst] at h0 h1
    obtain ⟨z0, z1, y0, y1⟩ := Reg.blk2 hb
    refine ⟨(World.setCell (World.setCell wz ⟨g, 0, none⟩ (.int .i64 ((Pl.combOf p ax ay bx by_ t).1.1))) ⟨g, 1, none⟩ (.int .i64 ((Pl.combOf p ax ay bx by_ t).1.2))), ?_, ?_, fun B hBg => by go_grown⟩
    · go_simp
    · intro j v hj
      match j, hj with
      | 0, hj => (simp at hj; subst hj; simp [World.cell?_setCell_other, World.cell?_setCell_same, z0, z1])
      | 1, hj => (simp at hj; subst hj; simp [World.cell?_setCell_other, World.cell?_setCell_same, z0, z1])
  simp only [List.take_succ_cons, List.take_zero, List.drop_succ_cons, List.drop_zero]
  refine Reg.wpG_step (v := ?vs21x0) (fun wq hq => ?gs21x0) ?ks21x0
  case gs21x0 => (have q0 := keepC hq d00; have q1 := keepC hq d01; have q2 := keepC hq d10; have q3 := keepC hq d11; refine Reg.gAt_val ?_; go_simp; first | done | (with_reducible rfl) | rfl)
  try simp only [Act.put, List.setIfInBounds_toArray, List.set_cons_zero, List.set_cons_succ]
  refine Reg.wpG_step (v := ?vs21x1) (fun wq hq => ?gs21x1) ?ks21x1
  case gs21x1 => (have q0 := keepC hq d00; have q1 := keepC hq d01; have q2 := keepC hq d10; have q3 := keepC hq d11; refine Reg.gAt_val ?_; go_simp; first | done | (with_reducible rfl) | rfl)
  try simp only [Act.put, List.setIfInBounds_toArray, List.set_cons_zero, List.set_cons_succ]
  refine Reg.wpG_step (v := .agg #[.int .i64 ax, .int .i64 ay]) (fun wq hq => ?gs21x2) ?ks21x2
  case gs21x2 => (unfold Reg.gAt; go_simp; refine Reg.quiet_enter ?_; exact toPoint_any _ _ _)
  try simp only [Act.put, List.setIfInBounds_toArray, List.set_cons_zero, List.set_cons_succ]
  refine Reg.wpG_step (v := ?vs21x3) (fun wq hq => ?gs21x3) ?ks21x3
  case gs21x3 => (have q0 := keepC hq d00; have q1 := keepC hq d01; have q2 := keepC hq d10; have q3 := keepC hq d11; refine Reg.gAt_val ?_; go_simp; first | done | (with_reducible rfl) | rfl)
  try simp only [Act.put, List.setIfInBounds_toArray, List.set_cons_zero, List.set_cons_succ]
  refine Reg.wpG_step (v := .agg #[.int .i64 bx, .int .i64 by_]) (fun wq hq => ?gs21x4) ?ks21x4
  case gs21x4 => (unfold Reg.gAt; go_simp; refine Reg.quiet_enter ?_; exact toPoint_any _ _ _)
  try simp only [Act.put, List.setIfInBounds_toArray, List.set_cons_zero, List.set_cons_succ]
  refine Reg.wpG_step (v := ?vs21x5) (fun wq hq => ?gs21x5) ?ks21x5
  case gs21x5 => (have q0 := keepC hq d00; have q1 := keepC hq d01; have q2 := keepC hq d10; have q3 := keepC hq d11; refine Reg.gAt_val ?_; go_simp; first | done | (with_reducible rfl) | rfl)
  try simp only [Act.put, List.setIfInBounds_toArray, List.set_cons_zero, List.set_cons_succ]
  refine Reg.wpG_step (v := .tuple #[.agg #[.int .i64 ((Pl.combOf p ax ay bx by_ t).1.1), .int .i64 ((Pl.combOf p ax ay bx by_ t).1.2)], .int .i64 ((Pl.combOf p ax ay bx by_ t).2)]) (fun wq hq => ?gs21x6) ?ks21x6
  case gs21x6 => (unfold Reg.gAt; go_simp; refine Reg.quiet_enter ?_; exact sCombinationOf_any _ _ _ _ _ _ _)
  try simp only [Act.put, List.setIfInBounds_toArray, List.set_cons_zero, List.set_cons_succ]
  refine Reg.wpG_step (v := ?vs21x7) (fun wq hq => ?gs21x7) ?ks21x7
  case gs21x7 => (have q0 := keepC hq d00; have q1 := keepC hq d01; have q2 := keepC hq d10; have q3 := keepC hq d11; refine Reg.gAt_val ?_; go_simp; first | done | (with_reducible rfl) | rfl)
  try simp only [Act.put, List.setIfInBounds_toArray, List.set_cons_zero, List.set_cons_succ]
  refine Reg.wpG_step (v := ?vs21x8) (fun wq hq => ?gs21x8) ?ks21x8
  case gs21x8 => (have q0 := keepC hq d00; have q1 := keepC hq d01; have q2 := keepC hq d10; have q3 := keepC hq d11; refine Reg.gAt_val ?_; go_simp; first | done | (with_reducible rfl) | rfl)
  try simp only [Act.put, List.setIfInBounds_toArray, List.set_cons_zero, List.set_cons_succ]
  refine Reg.wpG_step (v := ?vs21x9) (fun wq hq => ?gs21x9) ?ks21x9
  case gs21x9 => (have q0 := keepC hq d00; have q1 := keepC hq d01; have q2 := keepC hq d10; have q3 := keepC hq d11; refine Reg.gAt_val ?_; go_simp; first | done | (with_reducible rfl) | rfl)
  try simp only [Act.put, List.setIfInBounds_toArray, List.set_cons_zero, List.set_cons_succ]
  refine ⟨by simp [Reg.dst], ?_⟩
  intro w2 ub hB2 hgb hc
  have u0 : w2.cell? ⟨ub, 0, none⟩ = some (.int .i64 ((Pl.combOf p ax ay bx by_ t).1.1)) := hc 0 _ rfl
  have u1 : w2.cell? ⟨ub, 1, none⟩ = some (.int .i64 ((Pl.combOf p ax ay bx by_ t).1.2)) := hc 1 _ rfl
  clear hc hgb
  simp only [Reg.dst, Act.put, List.setIfInBounds_toArray, List.set_cons_zero, List.set_cons_succ, List.getElem?_cons_zero, List.getElem?_cons_succ, Option.bind_some]
  replace d00 := keepC hB2 d00
  replace d01 := keepC hB2 d01
  replace d10 := keepC hB2 d10
  replace d11 := keepC hB2 d11
  replace hB := below_of hB hB2 hB.size
  clear hB2
  go_wp2_with fail
  refine Reg.wp_region_store' (by kernel_rfl) 10 8 (#[.int .i64 0, .int .i64 0], 23) (.agg #[(.int .i64 ((Pl.combOf p ax ay bx by_ t).1.1)), (.int .i64 ((Pl.combOf p ax ay bx by_ t).1.2))]) (.int .i64 ((Pl.combOf p ax ay bx by_ t).1.1)) [(.int .i64 ((Pl.combOf p ax ay bx by_ t).1.2))] (by kernel_rfl) ?_ ?_ ?_
  · intro o ho ρ wz
    simp at ho; subst ho; rfl
  · intro o ho ρ wz g h0 h1 hb
    simp at ho; subst ho
    simp [Reg.dst] at h0 h1
    obtain ⟨z0, z1, y0, y1⟩ := Reg.blk2 hb
    refine ⟨(World.setCell (World.setCell wz ⟨g, 0, none⟩ (.int .i64 ((Pl.combOf p ax ay bx by_ t).1.1))) ⟨g, 1, none⟩ (.int .i64 ((Pl.combOf p ax ay bx by_ t).1.2))), ?_, ?_, fun B hBg => by go_grown⟩
    · go_simp
    · intro j v hj
      match j, hj with
      | 0, hj => (simp at hj; subst hj; simp [World.cell?_setCell_other, World.cell?_setCell_same, z0, z1])
      | 1, hj => (simp at hj; subst hj; simp [World.cell?_setCell_other, World.cell?_setCell_same, z0, z1])
  simp only [List.take_succ_cons, List.take_zero, List.drop_succ_cons, List.drop_zero]
  refine Reg.wpG_step (v := ?vs22x0) (fun wq hq => ?gs22x0) ?ks22x0
  case gs22x0 => (have q0 := keepC hq d00; have q1 := keepC hq d01; have q2 := keepC hq d10; have q3 := keepC hq d11; have q4 := keepC hq u0; have q5 := keepC hq u1; refine Reg.gAt_val ?_; go_simp; first | done | (with_reducible rfl) | rfl)
  try simp only [Act.put, List.setIfInBounds_toArray, List.set_cons_zero, List.set_cons_succ]
  refine Reg.wpG_step (v := ?vs22x1) (fun wq hq => ?gs22x1) ?ks22x1
  case gs22x1 => (have q0 := keepC hq d00; have q1 := keepC hq d01; have q2 := keepC hq d10; have q3 := keepC hq d11; have q4 := keepC hq u0; have q5 := keepC hq u1; refine Reg.gAt_val ?_; go_simp; first | done | (with_reducible rfl) | rfl)
  try simp only [Act.put, List.setIfInBounds_toArray, List.set_cons_zero, List.set_cons_succ]
  refine Reg.wpG_step (v := .agg #[.int .i64 ax, .int .i64 ay]) (fun wq hq => ?gs22x2) ?ks22x2
  case gs22x2 => (unfold Reg.gAt; go_simp; refine Reg.quiet_enter ?_; exact toPoint_any _ _ _)
  try simp only [Act.put, List.setIfInBounds_toArray, List.set_cons_zero, List.set_cons_succ]
  refine Reg.wpG_step (v := ?vs22x3) (fun wq hq => ?gs22x3) ?ks22x3
  case gs22x3 => (have q0 := keepC hq d00; have q1 := keepC hq d01; have q2 := keepC hq d10; have q3 := keepC hq d11; have q4 := keepC hq u0; have q5 := keepC hq u1; refine Reg.gAt_val ?_; go_simp; first | done | (with_reducible rfl) | rfl)
  try simp only [Act.put, List.setIfInBounds_toArray, List.set_cons_zero, List.set_cons_succ]
  refine Reg.wpG_step (v := .agg #[.int .i64 bx, .int .i64 by_]) (fun wq hq => ?gs22x4) ?ks22x4
  case gs22x4 => (unfold Reg.gAt; go_simp; refine Reg.quiet_enter ?_; exact toPoint_any _ _ _)
  try simp only [Act.put, List.setIfInBounds_toArray, List.set_cons_zero, List.set_cons_succ]
  refine Reg.wpG_step (v := ?vs22x5) (fun wq hq => ?gs22x5) ?ks22x5
  case gs22x5 => (have q0 := keepC hq d00; have q1 := keepC hq d01; have q2 := keepC hq d10; have q3 := keepC hq d11; have q4 := keepC hq u0; have q5 := keepC hq u1; refine Reg.gAt_val ?_; go_simp; first | done | (with_reducible rfl) | rfl)
  try simp only [Act.put, List.setIfInBounds_toArray, List.set_cons_zero, List.set_cons_succ]
  refine Reg.wpG_step (v := .tuple #[.agg #[.int .i64 ((Pl.combOf p ax ay bx by_ t).1.1), .int .i64 ((Pl.combOf p ax ay bx by_ t).1.2)], .int .i64 ((Pl.combOf p ax ay bx by_ t).2)]) (fun wq hq => ?gs22x6) ?ks22x6
  case gs22x6 => (unfold Reg.gAt; go_simp; refine Reg.quiet_enter ?_; exact CombinationOf_any _ _ _ _ _ _ _)
  try simp only [Act.put, List.setIfInBounds_toArray, List.set_cons_zero, List.set_cons_succ]
  refine Reg.wpG_step (v := ?vs22x7) (fun wq hq => ?gs22x7) ?ks22x7
  case gs22x7 => (have q0 := keepC hq d00; have q1 := keepC hq d01; have q2 := keepC hq d10; have q3 := keepC hq d11; have q4 := keepC hq u0; have q5 := keepC hq u1; refine Reg.gAt_val ?_; go_simp; first | done | (with_reducible rfl) | rfl)
  try simp only [Act.put, List.setIfInBounds_toArray, List.set_cons_zero, List.set_cons_succ]
  refine Reg.wpG_step (v := ?vs22x8) (fun wq hq => ?gs22x8) ?ks22x8
  case gs22x8 => (have q0 := keepC hq d00; have q1 := keepC hq d01; have q2 := keepC hq d10; have q3 := keepC hq d11; have q4 := keepC hq u0; have q5 := keepC hq u1; refine Reg.gAt_val ?_; go_simp; first | done | (with_reducible rfl) | rfl)
  try simp only [Act.put, List.setIfInBounds_toArray, List.set_cons_zero, List.set_cons_succ]
  refine Reg.wpG_step (v := ?vs22x9) (fun wq hq => ?gs22x9) ?ks22x9
  case gs22x9 => (have q0 := keepC hq d00; have q1 := keepC hq d01; have q2 := keepC hq d10; have q3 := keepC hq d11; have q4 := keepC hq u0; have q5 := keepC hq u1; refine Reg.gAt_val ?_; go_simp; first | done | (with_reducible rfl) | rfl)
  try simp only [Act.put, List.setIfInBounds_toArray, List.set_cons_zero, List.set_cons_succ]
  refine ⟨by simp [Reg.dst], ?_⟩
  intro w2 vb hB2 hgb hc
  have v0 : w2.cell? ⟨vb, 0, none⟩ = some (.int .i64 ((Pl.combOf p ax ay bx by_ t).1.1)) := hc 0 _ rfl
  have v1 : w2.cell? ⟨vb, 1, none⟩ = some (.int .i64 ((Pl.combOf p ax ay bx by_ t).1.2)) := hc 1 _ rfl
  clear hc hgb
  simp only [Reg.dst, Act.put, List.setIfInBounds_toArray, List.set_cons_zero, List.set_cons_succ, List.getElem?_cons_zero, List.getElem?_cons_succ, Option.bind_some]
  replace d00 := keepC hB2 d00
  replace d01 := keepC hB2 d01
  replace d10 := keepC hB2 d10
  replace d11 := keepC hB2 d11
  replace u0 := keepC hB2 u0
  replace u1 := keepC hB2 u1
  replace hB := below_of hB hB2 hB.size
  clear hB2
  go_wp2_with (go_at_call 18; refine (eqPoint_same _ _ _).mono ?_; rintro e w' ⟨rfl, hbn⟩; replace hB := below_of (B := w.heap.size) (a := w) (by first | exact hB | (have := hB.size; go_grown)) hbn (by first | exact hB.size | (have := hB.size; simp <;> omega)); clear hbn)
  go_ret
  exact ⟨rfl, by first | exact hB | go_grown⟩
end Go.Proofs.Yteocnenjllddaaa.fnExactCombinationOf
